/- Sets of what was read: sync.Once; the index at a question. -/
import Derived.Test.YtbaocimmpiojeaaB
namespace Go.Proofs.Ytbaocimmpiojeaa
open Go.RowKit
set_option linter.unusedVariables false
set_option linter.unusedSimpArgs false

theorem load_any (a : Addr) (d : Int) (w : World) (h : w.cell? a = some (.int .u32 d)) (r : Bool) (hr : (d != 0) = r) :
    Calls Try.prog 24 #[.pointer (some a)] w fun e w' => e = .returned (.bool r) ∧ w' = w := by
  have hl := run_call_load (P := Try.prog) Try.func26 (by kernel_rfl) (by kernel_rfl) (by kernel_rfl) .u32 (by kernel_rfl) h
  go_enter Try.func24, Try.ntmps24
  go_wp2_with fail
  go_ret
  exact ⟨by simp only [← hr]; rfl, rfl⟩
set_option maxRecDepth 100000 in
set_option maxHeartbeats 3200000 in
theorem slow_any (b pl B : Nat) (most : Int) (lv mo : Value) (L : List (Int × Int)) (w : World) (hp : w.cell? ⟨pl, 0, none⟩ = some (.pointer (some ⟨b, 0, none⟩))) (hR : RB w b most lv 0 0 mo) (ho : w.ownsRow B 37 2 lv L.length (scl L))
    (hlb : lv.ownBlock ≠ some b) (hpb : pl ≠ b) (hd : Dist L) (hl : L.length ≤ 5000) :
    Calls Try.prog 25 #[.pointer (some ⟨b, 2, none⟩), .func (.func 23) #[] #[.pointer (some ⟨pl, 0, none⟩)]] w fun e w' => e = .returned (.tuple #[]) ∧ ∃ m, RB w' b most lv 1 0 (.map (some m)) ∧ w.heap.size ≤ m ∧ MapOf w' m L ∧ w.grownBy w' (some b) := by
  have h1 : RB (w.setCell ⟨b, 3, none⟩ (.int .i32 1)) b most lv 0 1 mo := by have h := Blk.set hR 3 (.int .i32 1); unfold RB; simpa using h
  have g1 := g_set (g_refl w (some b)) (p := ⟨b, 3, none⟩) (.inl rfl) (.int .i32 1)
  have HLO := Lib.hid (load_any ⟨b, 2, none⟩ 0 _ (h1.cell 2 _ rfl) false rfl)
  have hblt := hR.lt
  have hnot : ∀ (x : Bool) (w : World), (Op.unary .not (.bool x)).run Try.prog w = .ok (.bool (!x)) w := fun _ _ => rfl
  have HL := Lib.hid (lock_free ⟨b, 3, none⟩ w (hR.cell 3 _ rfl) (hR.free 3))
  have HB := Lib.hid (build_any b pl B most lv mo 0 1 L _ (g1.cell hp (by simpa using hpb)) h1 (ho.kept g1 (.inr hlb)) hlb hpb hd hl)
  have G1 := Lib.hid g1
  clear hp hR ho hlb hpb hd g1 h1
  go_enter_defers Try.func25, Try.ntmps25
  go_wp2_with fail
  refine HL.out.mono ?_
  rintro e w1 ⟨rfl, rfl⟩
  generalize w.setCell ⟨b, 3, none⟩ (.int .i32 1) = w1 at *
  go_wp2_with fail
  refine HLO.out.mono ?_
  rintro e w1' ⟨rfl, rfl⟩
  go_wp2_with fail
  refine HB.out.mono ?_
  rintro e w2 ⟨rfl, m, hR2, hm, hmo, g2⟩
  have G2 := Lib.hid (g_trans G1.out g2)
  have h3 : RB (w2.drew.setCell ⟨b, 2, none⟩ (.int .u32 1)) b most lv 1 1 (.map (some m)) := by
    have h := Blk.set (Blk.drew hR2) 2 (.int .u32 1); unfold RB; simpa using h
  have h4 : RB ((w2.drew.setCell ⟨b, 2, none⟩ (.int .u32 1)).setCell ⟨b, 3, none⟩ (.int .i32 0)) b most lv 1 0 (.map (some m)) := by
    have h := Blk.set h3 3 (.int .i32 0); unfold RB; simpa using h
  have g3 := g_set (g_set (g_drew (g_refl w2 (some b))) (p := ⟨b, 2, none⟩) (.inl rfl) (.int .u32 1)) (p := ⟨b, 3, none⟩) (.inl rfl) (.int .i32 0)
  have HE := Lib.hid (And.intro h4 (And.intro (Nat.le_trans G1.out.size hm) (And.intro (hmo.keep g3 (by have := G1.out.size; intro e; injection e with e; omega)) (g_trans G2.out g3))))
  have D := Lib.hid (And.intro ((Blk.cell hR2 2 _ rfl)) (And.intro (Blk.free hR2 2) (And.intro (Blk.cell h3 3 _ rfl) (Blk.free h3 3))))
  clear h3 h4 g3 hR2 hm hmo g2
  go_wp2_with fail
  refine leaves_cons (f := 29) (args := #[.pointer (some ⟨b, 2, none⟩), .bool true]) (by simp) (by simp [go_sem]) ?_
  refine (store_deferred ⟨b, 2, none⟩ (.int .u32 0) .returning _ D.out.1 D.out.2.1).mono ?_
  rintro e u' w'' ⟨rfl, rfl, rfl⟩
  refine leaves_cons (f := 28) (args := #[.pointer (some ⟨b, 3, none⟩)]) (by simp [settle]) (by simp [go_sem]) ?_
  refine (unlock_deferred ⟨b, 3, none⟩ _ _ D.out.2.2.1 D.out.2.2.2).mono ?_
  rintro e u' w'' ⟨rfl, rfl, rfl⟩
  simp [Leaves, settle, results, Try.results25]
  exact ⟨m, HE.out⟩

/-- the function is called the first time alone -/
theorem do_first (b pl B : Nat) (most : Int) (lv mo : Value) (L : List (Int × Int)) (w : World) (hp : w.cell? ⟨pl, 0, none⟩ = some (.pointer (some ⟨b, 0, none⟩))) (hR : RB w b most lv 0 0 mo) (ho : w.ownsRow B 37 2 lv L.length (scl L))
    (hlb : lv.ownBlock ≠ some b) (hpb : pl ≠ b) (hd : Dist L) (hl : L.length ≤ 5000) :
    Calls Try.prog 22 #[.pointer (some ⟨b, 2, none⟩), .func (.func 23) #[] #[.pointer (some ⟨pl, 0, none⟩)]] w fun e w' => e = .returned (.tuple #[]) ∧ ∃ m, RB w' b most lv 1 0 (.map (some m)) ∧ w.heap.size ≤ m ∧ MapOf w' m L ∧ w.grownBy w' (some b) := by
  have hnot : ∀ (x : Bool) (w : World), (Op.unary .not (.bool x)).run Try.prog w = .ok (.bool (!x)) w := fun _ _ => rfl
  have HLO := Lib.hid (load_any ⟨b, 2, none⟩ 0 w (hR.cell 2 _ rfl) false rfl)
  have HS := Lib.hid (slow_any b pl B most lv mo L w hp hR ho hlb hpb hd hl)
  clear hp hR ho hlb hpb hd
  go_enter Try.func22, Try.ntmps22
  go_wp2_with fail
  refine HLO.out.mono ?_
  rintro e w1 ⟨rfl, rfl⟩
  go_wp2_with fail
  refine HS.out.mono ?_
  rintro e w2 ⟨rfl, h⟩
  go_wp2_with fail
  go_end0
  exact ⟨rfl, h⟩
theorem do_done (a : Addr) (fv : Value) (w : World) (h0 : w.cell? a = some (.int .u32 1)) :
    Calls Try.prog 22 #[.pointer (some a), fv] w fun e w' => e = .returned (.tuple #[]) ∧ w' = w := by
  have hnot : ∀ (x : Bool) (w : World), (Op.unary .not (.bool x)).run Try.prog w = .ok (.bool (!x)) w := fun _ _ => rfl
  have HLO := Lib.hid (load_any a 1 w h0 true rfl)
  clear h0
  go_enter Try.func22, Try.ntmps22
  go_wp2_with fail
  refine HLO.out.mono ?_
  rintro e w1 ⟨rfl, rfl⟩
  go_wp2_with fail
  go_end0
  exact ⟨rfl, rfl⟩

/-- a row's block: not b, in S -/
def Lb (S : Nat → Prop) (lv : Value) (b : Nat) : Prop := lv.ownBlock ≠ some b ∧ ∀ g, lv.ownBlock = some g → S g
/-- A SET: most entries, the entries; its blocks lie in S -/
def Rs (w : World) (S : Nat → Prop) (b : Nat) (most : Int) (L : List (Int × Int)) : Prop :=
  S b ∧ ∃ lv d mo, RB w b most lv d 0 mo ∧ w.ownsRow 0 37 2 lv L.length (scl L) ∧ Lb S lv b ∧ Dist L ∧ (d = 0 ∨ (d = 1 ∧ ∃ m, mo = .map (some m) ∧ S m ∧ m ≠ b ∧ lv.ownBlock ≠ some m ∧ MapOf w m L))
/-- .. with its index -/
def Rx (w : World) (S : Nat → Prop) (b m : Nat) (most : Int) (L : List (Int × Int)) : Prop :=
  S b ∧ ∃ lv, RB w b most lv 1 0 (.map (some m)) ∧ w.ownsRow 0 37 2 lv L.length (scl L) ∧ Lb S lv b ∧ Dist L ∧ S m ∧ m ≠ b ∧ lv.ownBlock ≠ some m ∧ MapOf w m L
theorem Rx.rs {w : World} {S : Nat → Prop} {b m : Nat} {most : Int} {L : List (Int × Int)} (h : Rx w S b m most L) : Rs w S b most L := by
  obtain ⟨h0, lv, h1, h2, h3, h4, h5, h6, h7, h8⟩ := h
  exact ⟨h0, lv, 1, _, h1, h2, h3, h4, .inr ⟨rfl, m, rfl, h5, h6, h7, h8⟩⟩
theorem Rs.keep {w w' : World} {S : Nat → Prop} {b : Nat} {most : Int} {L : List (Int × Int)} (h : Rs w S b most L) (g : w.grownBy w' none) : Rs w' S b most L := by
  obtain ⟨h0, lv, d, mo, h1, h2, h3, h4, h5⟩ := h
  refine ⟨h0, lv, d, mo, Blk.keepn h1 g, own_keepn h2 g, h3, h4, ?_⟩
  rcases h5 with h5 | ⟨h5, m, h6, h7, h8, h9, h10⟩
  · exact .inl h5
  · exact .inr ⟨h5, m, h6, h7, h8, h9, h10.keep g (by simp)⟩
theorem Rx.keep {w w' : World} {S : Nat → Prop} {b m : Nat} {most : Int} {L : List (Int × Int)} (h : Rx w S b m most L) (g : w.grownBy w' none) : Rx w' S b m most L := by
  obtain ⟨h0, lv, h1, h2, h3, h4, h5, h6, h7, h8⟩ := h
  exact ⟨h0, lv, Blk.keepn h1 g, own_keepn h2 g, h3, h4, h5, h6, h7, h8.keep g (by simp)⟩

set_option maxRecDepth 100000 in
set_option maxHeartbeats 3200000 in
theorem index_any (S : Nat → Prop) (b : Nat) (most : Int) (L : List (Int × Int)) (w : World) (h : Rs w S b most L) (hl : L.length ≤ 5000) (hS : ∀ i, w.heap.size ≤ i → S i) :
    Calls Try.prog 20 #[.pointer (some ⟨b, 0, none⟩)] w fun e w' => ∃ m, e = .returned (.map (some m)) ∧ Rx w' S b m most L ∧ Tr S w w' := by
  obtain ⟨h0, lv, d, mo, h1, h2, h3, h4, h5⟩ := h
  have hmf : ∀ (fn : Fn) (first cap : Array Value) (w : World), (Instr.makeFunc fn first cap).run Try.prog w = .ok (.func fn first cap) w := fun _ _ _ _ => rfl
  have ga := g_alloc (g_refl w none) (.cells #[.pointer (some ⟨b, 0, none⟩)] 23)
  have XB := Blk.new w #[.pointer (some ⟨b, 0, none⟩)] 23
  have hblt := h1.lt
  have p0 := XB.cell 0 _ rfl
  have h1' := Blk.keepn h1 ga
  have h2' := own_keepn h2 ga
  have GA := Lib.hid ga
  have hnb : w.heap.size ≠ b := by omega
  have hnl : lv.ownBlock ≠ some w.heap.size := fun e => by have := (own_lt h2 e).2; omega
  rcases h5 with rfl | ⟨rfl, m, rfl, h6, h7, h8, h9⟩
  · have HD := Lib.hid (do_first b w.heap.size 0 most lv mo L _ p0 h1' h2' h3.1 hnb h4 hl)
    have HF := Lib.hid (And.intro h2' (And.intro h3 h4))
    clear h1 h2 h3 h4 h1' h2' p0 XB ga
    go_enter Try.func20, Try.ntmps20
    go_wp2_with fail
    refine HD.out.mono ?_
    rintro e w2 ⟨rfl, m, hR2, hm, hmo, g2⟩
    have c5 := Blk.cell hR2 5 _ rfl
    have q0 := g2.cell (Blk.new w #[.pointer (some ⟨b, 0, none⟩)] 23 |>.cell 0 _ rfl) (by simpa using hnb)
    have hms : w.heap.size + 1 ≤ m := by simpa using hm
    have HE : Hid (Rx w2 S b m most L) := Lib.hid ⟨h0, lv, hR2, HF.out.1.kept g2 (.inr HF.out.2.1.1), HF.out.2.1, HF.out.2.2, hS m (by omega), by omega, fun e => by have := (own_lt HF.out.1 e).2; simp at this; omega, hmo⟩
    have HT : Hid (Tr S w w2) := Lib.hid (tr_trans (tr_g GA.out S) (tr_row (S := S) g2 (fun g e _ => by cases e; exact h0)) (fun i _ e => e))
    clear hR2 hm hmo g2
    go_wp2_with fail
    go_ret
    exact ⟨m, rfl, HE.out, HT.out⟩
  · have HD := Lib.hid (do_done ⟨b, 2, none⟩ (.func (.func 23) #[] #[.pointer (some ⟨w.heap.size, 0, none⟩)]) _ (Blk.cell h1' 2 _ rfl))
    have c5 := Blk.cell h1' 5 _ rfl
    have HE : Hid (Rx (w.alloc (.cells #[.pointer (some ⟨b, 0, none⟩)] 23)) S b m most L) := Lib.hid ⟨h0, lv, h1', h2', h3, h4, h6, h7, h8, h9.keep ga (by simp)⟩
    clear h1 h2 h3 h4 h1' h2' XB ga h9
    go_enter Try.func20, Try.ntmps20
    go_wp2_with fail
    refine HD.out.mono ?_
    rintro e w2 ⟨rfl, rfl⟩
    go_wp2_with fail
    go_ret
    exact ⟨m, rfl, HE.out, tr_g GA.out _⟩
theorem index_done (b m : Nat) (most : Int) (lv : Value) (w : World) (h1 : RB w b most lv 1 0 (.map (some m))) :
    Calls Try.prog 20 #[.pointer (some ⟨b, 0, none⟩)] w fun e w' => e = .returned (.map (some m)) ∧ w.grownBy w' none := by
  have hmf : ∀ (fn : Fn) (first cap : Array Value) (w : World), (Instr.makeFunc fn first cap).run Try.prog w = .ok (.func fn first cap) w := fun _ _ _ _ => rfl
  have ga := g_alloc (g_refl w none) (.cells #[.pointer (some ⟨b, 0, none⟩)] 23)
  have h1' := Blk.keepn h1 ga
  have p0 := (Blk.new w #[.pointer (some ⟨b, 0, none⟩)] 23).cell 0 _ rfl
  have HD := Lib.hid (do_done ⟨b, 2, none⟩ (.func (.func 23) #[] #[.pointer (some ⟨w.heap.size, 0, none⟩)]) _ (Blk.cell h1' 2 _ rfl))
  have c5 := Blk.cell h1' 5 _ rfl
  have GA := Lib.hid ga
  clear h1 h1' ga
  go_enter Try.func20, Try.ntmps20
  go_wp2_with fail
  refine HD.out.mono ?_
  rintro e w2 ⟨rfl, rfl⟩
  go_wp2_with fail
  go_ret
  exact ⟨rfl, GA.out⟩
/-- the set lies outside of what was turned -/
theorem Rs.far {w w' : World} {S T : Nat → Prop} {b : Nat} {most : Int} {L : List (Int × Int)} (h : Rs w S b most L) (t : Tr T w w') (hd : ∀ i, S i → i < w.heap.size → ¬ T i) : Rs w' S b most L := by
  obtain ⟨h0, lv, d, mo, h1, h2, h3, h4, h5⟩ := h
  refine ⟨h0, lv, d, mo, t.blk h1 (hd b h0 h1.lt), t.own h2 (fun g e => hd g (h3.2 g e) (own_lt h2 e).2), h3, h4, ?_⟩
  rcases h5 with h5 | ⟨h5, m, h6, h7, h8, h9, nn, D, h10, h11⟩
  · exact .inl h5
  · obtain ⟨es, clock, hb, rest⟩ := h10
    have hlt := (Array.getElem?_eq_some_iff.1 hb).1
    exact .inr ⟨h5, m, h6, h7, h8, h9, nn, D, ⟨es, clock, (t.block m hlt (hd m h7 hlt)).trans hb, rest⟩, h11⟩
theorem Rs.mono {w : World} {S T : Nat → Prop} {b : Nat} {most : Int} {L : List (Int × Int)} (h : Rs w S b most L) (hs : ∀ i, i < w.heap.size → S i → T i) : Rs w T b most L := by
  obtain ⟨h0, lv, d, mo, h1, h2, h3, h4, h5⟩ := h
  refine ⟨hs b h1.lt h0, lv, d, mo, h1, h2, ⟨h3.1, fun g e => hs g (own_lt h2 e).2 (h3.2 g e)⟩, h4, ?_⟩
  rcases h5 with h5 | ⟨h5, m, h6, h7, h8, h9, nn, D, h10, h11⟩
  · exact .inl h5
  · exact .inr ⟨h5, m, h6, hs m h10.lt h7, h8, h9, nn, D, h10, h11⟩
end Go.Proofs.Ytbaocimmpiojeaa
