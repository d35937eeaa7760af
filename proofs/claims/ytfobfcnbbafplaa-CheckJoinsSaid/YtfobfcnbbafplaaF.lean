/- The walk through a program: what it is in memory; the stack's methods. -/
import Derived.Test.YtfobfcnbbafplaaE
import Derived.Deep.RegionLaw
import Derived.Deep.AppendLies
namespace Go.Proofs.Ytfobfcnbbafplaa
open Go.RowKit
set_option linter.unusedVariables false
set_option linter.unusedSimpArgs false

/-- the cells of a row of entries -/
def scl (L : List (Int × Int)) : List Value := L.flatMap fun p => [.int .i64 p.1, .int .i64 p.2]
theorem scl_nil : scl [] = [] := rfl
theorem scl_cons (p : Int × Int) (L : List (Int × Int)) : scl (p :: L) = .int .i64 p.1 :: .int .i64 p.2 :: scl L := rfl
theorem scl_append (L M : List (Int × Int)) : scl (L ++ M) = scl L ++ scl M := by simp [scl]
theorem scl_length (L : List (Int × Int)) : (scl L).length = L.length * 2 := by
  induction L with
  | nil => rfl
  | cons p L ih => rw [scl_cons, List.length_cons, List.length_cons, List.length_cons, ih]; omega
theorem scl_at (L : List (Int × Int)) : ∀ i p, L[i]? = some p → (scl L)[i * 2]? = some (.int .i64 p.1) ∧ (scl L)[i * 2 + 1]? = some (.int .i64 p.2) := by
  induction L with
  | nil => intro i p h; simp at h
  | cons q L ih =>
    intro i p h
    cases i with
    | zero => simp at h; subst h; simp [scl_cons]
    | succ i =>
      simp at h
      have := ih i p h
      rw [scl_cons, show (i + 1) * 2 = i * 2 + 1 + 1 by omega]
      simpa using this
theorem scl_take (L : List (Int × Int)) (n : Nat) : scl (L.take n) = (scl L).take (n * 2) := by
  induction L generalizing n with
  | nil => simp [scl]
  | cons q L ih =>
    cases n with
    | zero => simp [scl]
    | succ n => rw [List.take_succ_cons, scl_cons, scl_cons, show (n + 1) * 2 = n * 2 + 1 + 1 by omega]; simp [ih]

/-- a row of entries, of any slice -/
def SRow (w : World) (ao : Option Addr) (L : List (Int × Int)) : Prop :=
  ∀ i p, L[i]? = some p → ∃ b off, ao = some ⟨b, off, none⟩ ∧ w.cell? ⟨b, off + i * 2, none⟩ = some (.int .i64 p.1) ∧ w.cell? ⟨b, off + i * 2 + 1, none⟩ = some (.int .i64 p.2)
theorem SRow.keep {w w' : World} {ao : Option Addr} {L : List (Int × Int)} (h : SRow w ao L) (g : w.grownBy w' none) : SRow w' ao L := fun i p hi => by
  obtain ⟨b, off, h1, h2, h3⟩ := h i p hi
  exact ⟨b, off, h1, g.cell h2 (by simp), g.cell h3 (by simp)⟩
theorem SRow.keeps {w w' : World} {ao : Option Addr} {L : List (Int × Int)} {g : Nat} (h : SRow w ao L) (k : w.grownBy w' (some g)) (hne : ∀ a, ao = some a → a.block ≠ g) : SRow w' ao L := fun i p hi => by
  obtain ⟨b, off, h1, h2, h3⟩ := h i p hi
  have := hne _ h1
  exact ⟨b, off, h1, k.cell h2 (by simpa using this), k.cell h3 (by simpa using this)⟩
/-- a row of one's own, of elements of type T -/
theorem srow_of_own {w : World} {base : Nat} {T : TypeId} {v : Value} {n : Nat} {L : List (Int × Int)} (h : w.ownsRow base T 2 v n (scl L)) :
    ∃ ao c, v = .slice ao n c ∧ SRow w ao L ∧ ∀ a, ao = some a → base ≤ a.block ∧ a.block < w.heap.size := by
  have hc := fun g hg => h.cells (g := g) hg
  have hl := h.1
  rw [scl_length] at hl
  rcases h.2 with ⟨rfl, rfl⟩ | ⟨g, cap, cur, rfl, hb, hh, _⟩
  · refine ⟨none, 0, rfl, fun i p hi => ?_, fun a h => by cases h⟩
    have : i < L.length := (List.getElem?_eq_some_iff.1 hi).1
    omega
  · refine ⟨_, _, rfl, fun i p hi => ⟨g, 0, rfl, ?_, ?_⟩, fun a h => by cases h; exact ⟨hb, (Array.getElem?_eq_some_iff.1 hh).1⟩⟩
    · have := hc g rfl (i * 2) _ (scl_at L i p hi).1
      simpa [Addr.add_lit] using this
    · have := hc g rfl (i * 2 + 1) _ (scl_at L i p hi).2
      simpa [Addr.add_lit, Nat.add_assoc] using this
/-- the row without its last entry -/
theorem own_pop {w : World} {base : Nat} {T : TypeId} {ao : Option Addr} {c : Nat} {L : List (Int × Int)} {p : Int × Int} (h : w.ownsRow base T 2 (.slice ao (L.length + 1) c) (L.length + 1) (scl (L ++ [p]))) :
    w.ownsRow base T 2 (.slice ao L.length c) L.length (scl L) := by
  refine ⟨by rw [scl_length], ?_⟩
  rcases h.2 with ⟨_, e⟩ | ⟨g, cap, cur, e, hb, hh, h1, h2, h3, h4⟩
  · omega
  · cases e
    refine .inr ⟨g, c, cur, rfl, hb, hh, by omega, h2, h3, ?_⟩
    have := congrArg (List.take (L.length * 2)) h4
    rw [List.take_take, scl_append, List.take_left' (by rw [scl_length])] at this
    rw [show min (L.length * 2) ((L.length + 1) * 2) = L.length * 2 by omega] at this
    exact this


def icl (M : List Int) : List Value := M.map (fun x => Value.int .i64 x)
theorem len_own {w : World} {B : Nat} {T : TypeId} {c n : Nat} {ao : Option Addr} {xs : List Value} {s : Nat} (h : w.ownsRow B T s (.slice ao n c) n xs) : n ≤ c ∧ c ≤ 9223372036854775807 := by
  rcases h.2 with ⟨e, rfl⟩ | ⟨g, cap, cur, e, hb, hh, h1, h2, h3, h4⟩
  · cases e; omega
  · cases e; unfold maxLen at h2; omega

/-- the rows of a walk lie apart -/
def Apart (b : Nat) (lv av mv : Value) : Prop := lv.ownBlock ≠ some b ∧ av.ownBlock ≠ some b ∧ mv.ownBlock ≠ some b ∧ (∀ g, lv.ownBlock = some g → av.ownBlock ≠ some g ∧ mv.ownBlock ≠ some g) ∧ (∀ g, av.ownBlock = some g → mv.ownBlock ≠ some g)
/-- a walk at block b: the ways that are open, the branch of each place, the mates; each in a row of its own, at B or behind -/
def Wk (w : World) (B b : Nat) (L T : List (Int × Int)) (M : List Int) (bad : Int) (deep : Bool) : Prop :=
  B ≤ b ∧ ∃ lv av mv, Blk w b #[lv, av, mv, .int .i64 bad, .bool deep] 49 ∧ w.ownsRow B 61 2 lv L.length (scl L) ∧ w.ownsRow B 61 2 av T.length (scl T) ∧ w.ownsRow B 3 1 mv M.length (icl M) ∧ Apart b lv av mv
section
variable {w w' : World} {B b : Nat} {L T : List (Int × Int)} {M : List Int} {bad : Int} {deep : Bool}
theorem Wk.keep (h : Wk w B b L T M bad deep) (g : w.grownBy w' none) : Wk w' B b L T M bad deep := by
  obtain ⟨h0, lv, av, mv, h1, h2, h3, h4, h5⟩ := h
  exact ⟨h0, lv, av, mv, h1.keepn g, own_keepn h2 g, own_keepn h3 g, own_keepn h4 g, h5⟩
theorem Wk.lt (h : Wk w B b L T M bad deep) : b < w.heap.size := by obtain ⟨h0, lv, av, mv, h1, _⟩ := h; exact h1.lt
/-- the ways that are open, as a slice -/
theorem Wk.row (h : Wk w B b L T M bad deep) : ∃ ao c, w.cell? ⟨b, 0, none⟩ = some (.slice ao L.length c) ∧ SRow w ao L ∧ L.length ≤ c ∧ c ≤ 9223372036854775807 := by
  obtain ⟨h0, lv, av, mv, h1, h2, h3, h4, h5⟩ := h
  obtain ⟨ao, c, rfl, hr, _⟩ := srow_of_own h2
  exact ⟨ao, c, h1.cell 0 _ rfl, hr, len_own h2⟩
end
/-- the way that is open last -/
def topP (L : List (Int × Int)) : Int × Int := L.getLast?.getD (-1, 0)
theorem topP_nil : topP [] = (-1, 0) := rfl
theorem topP_snoc (L : List (Int × Int)) (p : Int × Int) : topP (L ++ [p]) = p := by simp [topP]

set_option maxHeartbeats 400000 in
theorem outside_any (w : World) : Calls Try.prog 31 #[] w fun e w' => e = .returned (.agg #[.int .i64 (-1), .int .i64 0]) ∧ w.grownBy w' none := by
  have hn := Blk.new w #[.int .i64 0, .int .i64 0] 61
  have f0 := hn.free 0
  have f1 := hn.free 1
  have z0 := hn.cell 0 (.int .i64 0) rfl
  have z1 := hn.cell 1 (.int .i64 0) rfl
  have HN := Lib.hid hn
  clear hn
  go_enter Try.func31, Try.ntmps31
  go_wp2_with fail
  have hF := Blk.new w #[.int .i64 (-1), .int .i64 0] 61
  have k0 := hF.cell 0 (.int .i64 (-1)) rfl
  have k1 := hF.cell 1 (.int .i64 0) rfl
  exact bodyPost_ret (v := .agg #[.int .i64 (-1), .int .i64 0]) (by simp [results, Try.results31, go_sem, k0, k1]) rfl ⟨rfl, g_alloc (g_refl _ _) _⟩

set_option maxHeartbeats 1600000 in
theorem top_any (B b : Nat) (L T : List (Int × Int)) (M : List Int) (bad : Int) (deep : Bool) (w : World) (h : Wk w B b L T M bad deep) :
    Calls Try.prog 35 #[.pointer (some ⟨b, 0, none⟩)] w fun e w' => e = .returned (.agg #[.int .i64 (topP L).1, .int .i64 (topP L).2]) ∧ w.grownBy w' none := by
  have g1 : w.grownBy (w.alloc (.cells #[.int .i64 0, .int .i64 0] 61)) none := g_alloc (g_refl _ _) _
  have hn := Blk.new w #[.int .i64 0, .int .i64 0] 61
  obtain ⟨ao, c, c0, h3, hc1, hc2⟩ := (h.keep g1).row
  have HN := Lib.hid hn
  have G1 := Lib.hid g1
  clear h g1 hn
  rcases List.eq_nil_or_concat L with rfl | ⟨R, p, rfl⟩
  · simp only [List.length_nil] at c0
    rw [topP_nil]
    go_enter Try.func35, Try.ntmps35
    go_wp2_with fail
    refine (outside_any _).mono ?_
    rintro e w1 ⟨rfl, g2⟩
    have HN := Lib.hid (HN.out.keepn g2)
    have G2 := Lib.hid (g_trans G1.out g2)
    have f0 := HN.out.free 0
    have f1 := HN.out.free 1
    have z0 := HN.out.cell 0 (.int .i64 0) rfl
    have z1 := HN.out.cell 1 (.int .i64 0) rfl
    clear g2 c0
    go_wp2_with fail
    have hF := (HN.out.set 0 (.int .i64 (-1))).set 1 (.int .i64 0)
    have k0 := hF.cell 0 (.int .i64 (-1)) rfl
    have k1 := hF.cell 1 (.int .i64 0) rfl
    have gg := g_in G2.out (g_set (g_set (g_refl w1 (some w.heap.size)) (p := ⟨w.heap.size, 0, none⟩) (.inl rfl) (.int .i64 (-1))) (p := ⟨w.heap.size, 1, none⟩) (.inl rfl) (.int .i64 0)) (Nat.le_refl _)
    exact bodyPost_ret (v := .agg #[.int .i64 (-1), .int .i64 0]) (by simp [results, Try.results35, go_sem, k0, k1]) rfl ⟨rfl, gg⟩
  · rw [List.concat_eq_append] at *
    obtain ⟨bb, off, rfl, hc3, hc4⟩ := h3 R.length p (by simp)
    rw [topP_snoc]
    simp only [List.length_append, List.length_cons, List.length_nil, Nat.zero_add] at c0 hc1
    generalize R.length = n at *
    obtain ⟨p1, p2⟩ := p
    simp only at hc3 hc4 ⊢
    have hsub : (((n + 1 : Nat) : Int) - 1) = n := by omega
    clear h3
    go_enter Try.func35, Try.ntmps35
    go_wp2_with fail
    generalize hWW : w.alloc (.cells #[.int .i64 0, .int .i64 0] 61) = W at *
    have f0 := HN.out.free 0
    have f1 := HN.out.free 1
    have z0 := HN.out.cell 0 (.int .i64 0) rfl
    have z1 := HN.out.cell 1 (.int .i64 0) rfl
    go_region
    go_wp2_with fail
    have hF := ((HN.out.set 0 (.int .i64 p1)).set 1 (.int .i64 p2)).drew
    have k0 := hF.cell 0 (.int .i64 p1) rfl
    have k1 := hF.cell 1 (.int .i64 p2) rfl
    have gg := g_in G1.out (g_set (g_set (g_refl W (some w.heap.size)) (p := ⟨w.heap.size, 0, none⟩) (.inl rfl) (.int .i64 p1)) (p := ⟨w.heap.size, 1, none⟩) (.inl rfl) (.int .i64 p2)) (Nat.le_refl _)
    exact bodyPost_ret (v := .agg #[.int .i64 p1, .int .i64 p2]) (by simp [results, Try.results35, go_sem, k0, k1]) rfl ⟨rfl, g_drew gg⟩

theorem info61 : (Try.prog.info? 61).map (fun i => (i.zero, i.size, i.bytes)) = some (some (.agg #[.int .i64 0, .int .i64 0]), 2, 16) := by kernel_rfl
theorem fz_alloc {w : World} {o : Obj} {b i : Nat} (h : b < w.heap.size) : (w.alloc o).frozen? ⟨b, i, none⟩ = w.frozen? ⟨b, i, none⟩ :=
  World.frozen?_of_block (a := ⟨b, i, none⟩) (Below.heap_alloc w o b h)
theorem fz_alloc_drew {w : World} {o : Obj} {b i : Nat} (h : b < w.heap.size) (hf : w.frozen? ⟨b, i, none⟩ = false) : (w.alloc o).drew.frozen? ⟨b, i, none⟩ = false :=
  (fz_alloc h).trans hf
/-- rows apart, the first one in another block -/
theorem apart_l {b : Nat} {lv lv' av mv : Value} {g : Nat} (h : Apart b lv av mv) (hg : lv'.ownBlock = some g) (hgb : g ≠ b) (ha : av.ownBlock ≠ some g) (hm : mv.ownBlock ≠ some g) : Apart b lv' av mv :=
  ⟨fun e => hgb (by rw [hg] at e; injection e), h.2.1, h.2.2.1, fun g' e => by rw [hg] at e; cases e; exact ⟨ha, hm⟩, h.2.2.2.2⟩
/-- blocks at B or behind alone -/
theorem tr_B {B : Nat} {w w' : World} {row : Option Nat} (k : w.grownBy w' row) (hs : ∀ g, row = some g → B ≤ g) : Tr (fun i => B ≤ i) w w' := tr_row k (fun g e _ => hs g e)

set_option maxHeartbeats 1600000 in
theorem push_any (B b : Nat) (L T : List (Int × Int)) (M : List Int) (bad : Int) (deep : Bool) (w : World) (h : Wk w B b L T M bad deep) (x y : Int) (hl : L.length < 4000) :
    Calls Try.prog 42 #[.pointer (some ⟨b, 0, none⟩), .agg #[.int .i64 x, .int .i64 y]] w fun e w' => e = .returned (.tuple #[]) ∧ Wk w' B b (L ++ [(x, y)]) T M bad deep ∧ Tr (fun i => B ≤ i) w w' := by
  obtain ⟨i0, hi, hz0, hz1, hz2⟩ := info_parts info61
  have g0 := g_alloc (g_refl w none) (.cells #[.int .i64 x, .int .i64 y] 61)
  have hlb := h.lt
  obtain ⟨hBb, lv, av, mv, h1, h2, h3, h4, h5⟩ := h
  obtain ⟨ao, c, rfl, -, -⟩ := srow_of_own h2
  have HLT : Hid (∀ v : Value, (v = .slice ao L.length c ∨ v = av ∨ v = mv) → v.ownBlock ≠ some (w.heap.size) ∧ v.ownBlock ≠ some (w.heap.size + 1) ∧ ∀ g, v.ownBlock = some g → g < w.heap.size) := Lib.hid (by
    have key : ∀ v : Value, (∀ g, v.ownBlock = some g → g < w.heap.size) → v.ownBlock ≠ some (w.heap.size) ∧ v.ownBlock ≠ some (w.heap.size + 1) ∧ ∀ g, v.ownBlock = some g → g < w.heap.size := fun v hv =>
      ⟨fun e => Nat.lt_irrefl _ (hv _ e), fun e => absurd (hv _ e) (by omega), hv⟩
    rintro v (rfl | rfl | rfl)
    · exact key _ (fun g e => (own_lt h2 e).2)
    · exact key _ (fun g e => (own_lt h3 e).2)
    · exact key _ (fun g e => (own_lt h4 e).2))
  have hn0 := Blk.new w #[.int .i64 x, .int .i64 y] 61
  have c0 := (h1.keepn g0).cell 0 (.slice ao L.length c) rfl
  have cf := (h1.keepn g0).free 0
  have x0 := hn0.cell 0 (.int .i64 x) rfl
  have x1 := hn0.cell 1 (.int .i64 y) rfl
  have ab : (Value.slice ao L.length c).ownBlock ≠ some b := h5.1
  have HH1 := Lib.hid h1
  have HA := Lib.hid h5
  have HOWN := Lib.hid h2
  have HAT := Lib.hid h3
  have HMT := Lib.hid h4
  clear h1 h2 h3 h4 h5 hn0
  go_enter Try.func42, Try.ntmps42
  go_wp2_with fail
  have HG0 := Lib.hid g0
  have cf2 : ((w.alloc (.cells #[.int .i64 x, .int .i64 y] 61)).alloc (.cells #[.int .i64 x, .int .i64 y] 61)).drew.frozen? ⟨b, 0, none⟩ = false := fz_alloc_drew (by simp; omega) cf
  clear g0
  have hnb : ((w.alloc (.cells #[.int .i64 x, .int .i64 y] 61)).alloc (.cells #[.int .i64 x, .int .i64 y] 61)).heap[w.heap.size + 1]? = some (.cells #[.int .i64 x, .int .i64 y] 61 (0, 0)) := by
    have := Blk.new (w.alloc (.cells #[.int .i64 x, .int .i64 y] 61)) #[.int .i64 x, .int .i64 y] 61
    unfold Blk at this
    rw [World.size_alloc] at this
    exact this
  have cW : ((w.alloc (.cells #[.int .i64 x, .int .i64 y] 61)).alloc (.cells #[.int .i64 x, .int .i64 y] 61)).drew.cell? ⟨b, 0, none⟩ = some (.slice ao L.length c) := (g_drew (g_alloc (g_refl (w.alloc (.cells #[.int .i64 x, .int .i64 y] 61)) none) (.cells #[.int .i64 x, .int .i64 y] 61))).cell c0 (by simp)
  have HCW := Lib.hid cW
  have HFW := Lib.hid cf2
  have HNB := Lib.hid hnb
  clear hnb cW cf2
  go_region_law ((refine step_append_lies _ (by rfl) _ _ _ (by rfl) B 61 i0 _ 2 16 Try.underlying45 hi hz0 hz1 hz2 rfl (by omega) (.slice ao L.length c) L.length (scl L) (by rfl) (((HOWN.out.alloc _).alloc _).drew) ⟨w.heap.size + 1, 0, none⟩ 1 1 [.int .i64 x, .int .i64 y] (by rfl) (by rfl) (World.news_of_block (cs := #[.int .i64 x, .int .i64 y]) (t := 61) (fr := (0, 0)) HNB.out) (by simp [Value.oneCell']) (by omega) (by unfold maxLen; omega) (by omega) (by simp; omega) (w.heap.size + 1 + 1) (by simp) ?_; intro gg cap w1 hown1 hgrow hat hlt; have c9 := (hgrow.cell_far ⟨b, 0, none⟩ (by simp; omega) (Ne.symm ab)).trans HCW.out; have f9 := (hgrow.frozen_far ⟨b, 0, none⟩ (by simp; omega) (Ne.symm ab)).trans HFW.out))
  all_goals
    clear c9 f9
    go_end0
    have gW := g_drew (g_alloc (g_alloc (g_refl w none) (.cells #[.int .i64 x, .int .i64 y] 61)) (.cells #[.int .i64 x, .int .i64 y] 61))
    have hsz := gW.size
    have hB := ((HH1.out.keepn gW).keep hgrow (Ne.symm ab)).set 0 (.slice (some ⟨gg, 0, none⟩) (L.length + 1) cap)
    have s1 := g_set (g_refl w1 (some b)) (p := ⟨b, 0, none⟩) (.inl rfl) (.slice (some ⟨gg, 0, none⟩) (L.length + 1) cap)
    have hgB : B ≤ gg := (own_lt hown1 rfl).1
    have hgb : gg ≠ b := by
      rcases hat with e | e
      · exact fun q => HA.out.1 (by rw [e, q])
      · omega
    have hga : av.ownBlock ≠ some gg := fun q => by
      rcases hat with e | e
      · exact (HA.out.2.2.2.1 gg e).1 q
      · have := (HLT.out av (.inr (.inl rfl))).2.2 gg q; omega
    have hgm : mv.ownBlock ≠ some gg := fun q => by
      rcases hat with e | e
      · exact (HA.out.2.2.2.1 gg e).2 q
      · have := (HLT.out mv (.inr (.inr rfl))).2.2 gg q; omega
    have hk : ∀ (v : Value), (∀ g, (Value.slice ao L.length c).ownBlock = some g → v.ownBlock ≠ some g) → v.ownBlock = none ∨ v.ownBlock ≠ (Value.slice ao L.length c).ownBlock := fun v hv => by
      cases hq : v.ownBlock with
      | none => exact .inl rfl
      | some g => exact .inr (fun e => hv g e.symm hq)
    refine ⟨rfl, ⟨hBb, _, av, mv, by simpa using hB, ?_, ?_, ?_, apart_l HA.out rfl hgb hga hgm⟩, ?_⟩
    · rw [scl_append, List.length_append]
      exact World.ownsRow.kept hown1 s1 (.inr (by simp only [Value.ownBlock, ne_eq, Option.some.injEq]; exact hgb))
    · exact ((own_keepn HAT.out gW).kept hgrow (hk av (fun g e => (HA.out.2.2.2.1 g e).1))).kept s1 (.inr HA.out.2.1)
    · exact ((own_keepn HMT.out gW).kept hgrow (hk mv (fun g e => (HA.out.2.2.2.1 g e).2))).kept s1 (.inr HA.out.2.2.1)
    · exact tr_trans (tr_trans (tr_g gW _) (tr_B hgrow (fun g e => (own_lt HOWN.out e).1)) (fun i hi e => e)) (tr_B s1 (fun g e => by cases e; exact hBb)) (fun i hi e => e)

set_option maxHeartbeats 1600000 in
theorem pop_any (B b : Nat) (L T : List (Int × Int)) (p : Int × Int) (M : List Int) (bad : Int) (deep : Bool) (w : World) (h : Wk w B b (L ++ [p]) T M bad deep) :
    Calls Try.prog 43 #[.pointer (some ⟨b, 0, none⟩)] w fun e w' => e = .returned (.tuple #[]) ∧ Wk w' B b L T M bad deep ∧ Tr (fun i => B ≤ i) w w' := by
  obtain ⟨hBb, lv, av, mv, h1, h2, h3, h4, h5⟩ := h
  obtain ⟨ao, c, rfl, -, -⟩ := srow_of_own h2
  simp only [List.length_append, List.length_cons, List.length_nil, Nat.zero_add] at h1 h2 h5
  have hc := len_own h2
  have hp := own_pop h2
  have c0 := h1.cell 0 (.slice ao (L.length + 1) c) rfl
  have f0 := h1.free 0
  have hs := h1.set 0 (.slice ao L.length c)
  have s1 := g_set (g_refl w (some b)) (p := ⟨b, 0, none⟩) (.inl rfl) (.slice ao L.length c)
  have h5 : Apart b (.slice ao L.length c) av mv := by cases ao <;> exact h5
  have HW : Hid (Wk (w.setCell ⟨b, 0, none⟩ (.slice ao L.length c)) B b L T M bad deep ∧ Tr (fun i => B ≤ i) w (w.setCell ⟨b, 0, none⟩ (.slice ao L.length c))) := Lib.hid ⟨⟨hBb, _, av, mv, by simpa using hs, hp.kept s1 (.inr h5.1), h3.kept s1 (.inr h5.2.1), h4.kept s1 (.inr h5.2.2.1), h5⟩, tr_B s1 (fun g e => by cases e; exact hBb)⟩
  generalize L.length = n at *
  have hsub : (((n + 1 : Nat) : Int) - 1) = n := by omega
  clear h1 h2 h3 h4 h5 hp hs s1
  go_enter Try.func43, Try.ntmps43
  go_region
  go_wp2_with fail
  go_end0
  exact ⟨rfl, HW.out.1.keep (g_drew (g_refl _ _)), tr_then HW.out.2 (g_drew (g_refl _ _))⟩
end Go.Proofs.Ytfobfcnbbafplaa
