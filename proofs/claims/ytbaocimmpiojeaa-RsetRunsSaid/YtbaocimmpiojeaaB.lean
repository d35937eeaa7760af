/- Sets of what was read: the map and the rows in memory; the index is built. -/
import Derived.Test.YtbaocimmpiojeaaA
import Derived.Carry
import Derived.Maps.Own
import Derived.Maps.OwnOps
import Derived.Maps.OwnSet
import Derived.Maps.Views
import Derived.Deep.RegionHeld3
import Derived.Deep.DeepCutAuto
import Derived.Deep.CutBlock
namespace Go.Proofs.Ytbaocimmpiojeaa
open Go.RowKit
set_option linter.unusedVariables false
set_option linter.unusedSimpArgs false

/-- the cells of a row of entries -/
def scl (L : List (Int × Int)) : List Value := L.flatMap fun p => [.int .i64 p.1, .int .i64 p.2]
theorem scl_nil : scl [] = [] := rfl
theorem scl_cons (p : Int × Int) (L : List (Int × Int)) : scl (p :: L) = .int .i64 p.1 :: .int .i64 p.2 :: scl L := rfl
theorem scl_append (L M : List (Int × Int)) : scl (L ++ M) = scl L ++ scl M := by simp [scl]
theorem scl_length (L : List (Int × Int)) : (scl L).length = L.length * 2 := by
  induction L with
  | nil => rfl
  | cons p L ih => rw [scl_cons, List.length_cons, List.length_cons, List.length_cons, ih]; omega
theorem scl_at (L : List (Int × Int)) : ∀ i p, L[i]? = some p → (scl L)[i * 2]? = some (.int .i64 p.1) ∧ (scl L)[i * 2 + 1]? = some (.int .i64 p.2) := by
  induction L with
  | nil => intro i p h; simp at h
  | cons q L ih =>
    intro i p h
    cases i with
    | zero => simp at h; subst h; simp [scl_cons]
    | succ i =>
      simp at h
      have := ih i p h
      rw [scl_cons, show (i + 1) * 2 = i * 2 + 1 + 1 by omega]
      simpa using this
theorem scl_take (L : List (Int × Int)) (n : Nat) : scl (L.take n) = (scl L).take (n * 2) := by
  induction L generalizing n with
  | nil => simp [scl]
  | cons q L ih =>
    cases n with
    | zero => simp [scl]
    | succ n => rw [List.take_succ_cons, scl_cons, scl_cons, show (n + 1) * 2 = n * 2 + 1 + 1 by omega]; simp [ih]

/-- a row of entries, of any slice -/
def SRow (w : World) (ao : Option Addr) (L : List (Int × Int)) : Prop :=
  ∀ i p, L[i]? = some p → ∃ b off, ao = some ⟨b, off, none⟩ ∧ w.cell? ⟨b, off + i * 2, none⟩ = some (.int .i64 p.1) ∧ w.cell? ⟨b, off + i * 2 + 1, none⟩ = some (.int .i64 p.2)
theorem SRow.keep {w w' : World} {ao : Option Addr} {L : List (Int × Int)} (h : SRow w ao L) (g : w.grownBy w' none) : SRow w' ao L := fun i p hi => by
  obtain ⟨b, off, h1, h2, h3⟩ := h i p hi
  exact ⟨b, off, h1, g.cell h2 (by simp), g.cell h3 (by simp)⟩
theorem SRow.keeps {w w' : World} {ao : Option Addr} {L : List (Int × Int)} {g : Nat} (h : SRow w ao L) (k : w.grownBy w' (some g)) (hne : ∀ a, ao = some a → a.block ≠ g) : SRow w' ao L := fun i p hi => by
  obtain ⟨b, off, h1, h2, h3⟩ := h i p hi
  have := hne _ h1
  exact ⟨b, off, h1, k.cell h2 (by simpa using this), k.cell h3 (by simpa using this)⟩
/-- a row of one's own, of elements of type T -/
theorem srow_of_own {w : World} {base : Nat} {T : TypeId} {v : Value} {n : Nat} {L : List (Int × Int)} (h : w.ownsRow base T 2 v n (scl L)) :
    ∃ ao c, v = .slice ao n c ∧ SRow w ao L ∧ ∀ a, ao = some a → base ≤ a.block ∧ a.block < w.heap.size := by
  have hc := fun g hg => h.cells (g := g) hg
  have hl := h.1
  rw [scl_length] at hl
  rcases h.2 with ⟨rfl, rfl⟩ | ⟨g, cap, cur, rfl, hb, hh, _⟩
  · refine ⟨none, 0, rfl, fun i p hi => ?_, fun a h => by cases h⟩
    have : i < L.length := (List.getElem?_eq_some_iff.1 hi).1
    omega
  · refine ⟨_, _, rfl, fun i p hi => ⟨g, 0, rfl, ?_, ?_⟩, fun a h => by cases h; exact ⟨hb, (Array.getElem?_eq_some_iff.1 hh).1⟩⟩
    · have := hc g rfl (i * 2) _ (scl_at L i p hi).1
      simpa [Addr.add_lit] using this
    · have := hc g rfl (i * 2 + 1) _ (scl_at L i p hi).2
      simpa [Addr.add_lit, Nat.add_assoc] using this
theorem len_own {w : World} {B : Nat} {T : TypeId} {c n : Nat} {ao : Option Addr} {xs : List Value} {s : Nat} (h : w.ownsRow B T s (.slice ao n c) n xs) : n ≤ c ∧ c ≤ 9223372036854775807 := by
  rcases h.2 with ⟨e, rfl⟩ | ⟨g, cap, cur, e, hb, hh, h1, h2, h3, h4⟩
  · cases e; omega
  · cases e; unfold maxLen at h2; omega


/-- block m is a map of the entries' places -/
def MapOf (w : World) (m : Nat) (L : List (Int × Int)) : Prop :=
  ∃ n D, w.ownsMap Try.prog 3 (plainElem (H := Unit) Try.prog 3) m n D ∧ n ≤ L.length ∧ (∀ k : Int, Maps.has D (.int .i64 k) = true ↔ ∃ p ∈ L, p.1 = k) ∧
    (∀ (i : Nat) p, L[i]? = some p → D.atKey (.int .i64 p.1) (.lit (.int .i64 0)) = .lit (.int .i64 i))
theorem MapOf.keep {w w' : World} {m : Nat} {L : List (Int × Int)} {row : Option Nat} (h : MapOf w m L) (g : w.grownBy w' row) (hne : some m ≠ row) : MapOf w' m L := by
  obtain ⟨n, D, h1, h2⟩ := h
  exact ⟨n, D, h1.kept g hne, h2⟩
theorem mapOf_nil {w : World} {m : Nat} {D : DataW Unit} (h : w.ownsMap Try.prog 3 (plainElem (H := Unit) Try.prog 3) m 0 D) (hD : D = .map []) : MapOf w m [] :=
  ⟨0, D, h, Nat.le_refl _, fun k => by subst hD; simp [Maps.has], fun i p hp => by simp at hp⟩
theorem mapOf_put {w' : World} {m n : Nat} {D : DataW Unit} {L : List (Int × Int)} {k v : Int} (hn : n ≤ L.length) (h1 : ∀ k : Int, Maps.has D (.int .i64 k) = true ↔ ∃ p ∈ L, p.1 = k)
    (h2 : ∀ (i : Nat) p, L[i]? = some p → D.atKey (.int .i64 p.1) (.lit (.int .i64 0)) = .lit (.int .i64 i)) (hm : Maps.IsMap D) (hk : ∀ p ∈ L, p.1 ≠ k)
    (ho : w'.ownsMap Try.prog 3 (plainElem (H := Unit) Try.prog 3) m (n + 1) (D.put (.int .i64 k) (.lit (.int .i64 L.length)))) : MapOf w' m (L ++ [(k, v)]) := by
  refine ⟨n + 1, _, ho, by simp; omega, fun k' => ?_, fun i p hp => ?_⟩
  · by_cases e : k' = k
    · subst e
      rw [Maps.has_put_same hm (by simp [WideAt.IsKeyLit])]
      simp
    · rw [Maps.has_put_other (by simp [e]), h1]
      simp only [List.mem_append, List.mem_singleton]
      exact ⟨fun ⟨p, a, b⟩ => ⟨p, .inl a, b⟩, fun ⟨p, a, b⟩ => by
        rcases a with a | a
        · exact ⟨p, a, b⟩
        · subst a; exact absurd b.symm e⟩
  · by_cases hi : i < L.length
    · rw [List.getElem?_append_left hi] at hp
      have hne := hk p (List.mem_of_getElem? hp)
      rw [Maps.atKey_put_other (by simpa using hne)]
      exact h2 i p hp
    · have hl := (List.getElem?_eq_some_iff.1 hp).1
      simp at hl
      obtain rfl : i = L.length := by omega
      rw [List.getElem?_append_right (Nat.le_refl _), Nat.sub_self] at hp
      cases hp
      rw [Maps.atKey_put_same hm (by simp [WideAt.IsKeyLit])]
theorem key_i64 {k : Int} (h : 0 ≤ k) (h2 : k ≤ 1048576) : (Lit.int .i64 k).wf = true := by
  simp [Lit.wf, IntKind.min, IntKind.max, IntKind.signed, IntKind.bits]; omega
theorem step_mapUpdate_own {H : Type} {P : Program} {w : World} {ops : Array Oper} {o : Oper} {a : Act} {K : Act → World → Prop} {Q : Exit → Act → World → Prop} {E : Prop} (hgd : o.guard = none) (m x v : Operand) (t : TypeId) (hop : o.op = Op.mapUpdate t m x v)
    (k e : TypeId) (Ky : Maps.Keyed P k) (ht : P.underlying t = some (.map k e)) (R : Value → Option (DataW H × List MemPlace)) (b n : Nat) (D : DataW H)
    (hm : a.eval m = .map (some b)) (hown : w.ownsMap P k R b n D) (hn : n < maxLen) (key val : Value) (kl : Lit) (hx : a.eval x = key) (hv : a.eval v = val) (hkey : keyOf P k key = some kl)
    (d : DataW H) (ps : List MemPlace) (hval : R val = some (d, ps))
    (hK : ∀ w', w'.ownsMap P k R b (n + 1) (D.put kl d) → w.grownBy w' (some b) → K (a.put o.dst undef) w') :
    if Region.wanted o (yielded ops a.tmps) = true then Oper.wp P o a w K Q else E := by
  have hw : Region.wanted o (yielded ops a.tmps) = true := by simp [Region.wanted, hgd]
  rw [if_pos hw]
  obtain ⟨w', hrun, r1, r2⟩ := hown.update Ky ht hn hkey hval
  unfold Oper.wp
  simp [execOp, hop, hm, hx, hv, hrun, Result.andThen]
  exact hK w' r1 r2

/-- the block of a set -/
def RB (w : World) (b : Nat) (most : Int) (lv : Value) (d ms : Int) (mo : Value) : Prop := Blk w b #[.int .i64 most, lv, .int .u32 d, .int .i32 ms, .int .u32 0, mo] 64
def Dist (L : List (Int × Int)) : Prop := L.Pairwise (fun p q => p.1 ≠ q.1) ∧ ∀ p ∈ L, 0 ≤ p.1 ∧ p.1 < 1024
theorem dist_take {L : List (Int × Int)} (h : Dist L) {j : Nat} {p : Int × Int} (hp : L[j]? = some p) : (∀ q ∈ L.take j, q.1 ≠ p.1) ∧ 0 ≤ p.1 ∧ p.1 < 1024 := by
  refine ⟨fun q hq => ?_, h.2 p (List.mem_of_getElem? hp)⟩
  obtain ⟨i, hi⟩ := List.mem_iff_getElem?.1 hq
  have hl := (List.getElem?_eq_some_iff.1 hi).1
  rw [List.length_take] at hl
  rw [List.getElem?_take_of_lt (by omega)] at hi
  obtain ⟨h1, h2⟩ := List.getElem?_eq_some_iff.1 hi
  obtain ⟨h3, h4⟩ := List.getElem?_eq_some_iff.1 hp
  rw [← h2, ← h4]
  exact List.pairwise_iff_getElem.1 h.1 i j h1 h3 (by omega)

set_option maxRecDepth 100000 in
set_option maxHeartbeats 3200000 in
/-- the index is built -/
theorem build_any (b pl B : Nat) (most : Int) (lv mo : Value) (d ms : Int) (L : List (Int × Int)) (w : World) (hp : w.cell? ⟨pl, 0, none⟩ = some (.pointer (some ⟨b, 0, none⟩))) (hR : RB w b most lv d ms mo) (ho : w.ownsRow B 37 2 lv L.length (scl L))
    (hlb : lv.ownBlock ≠ some b) (hpb : pl ≠ b) (hd : Dist L) (hl : L.length ≤ 5000) :
    Calls Try.prog 23 #[.pointer (some ⟨pl, 0, none⟩)] w fun e w' => e = .returned (.tuple #[]) ∧ ∃ m, RB w' b most lv d ms (.map (some m)) ∧ w.heap.size ≤ m ∧ MapOf w' m L ∧ w.grownBy w' (some b) := by
  have hmm := @run_makeMap Try.prog
  obtain ⟨ao, c, rfl, hsr, -⟩ := srow_of_own ho
  have hlc := (len_own ho).1
  have hlm := (len_own ho).2
  have hblt := hR.lt
  have hplt := World.block_lt_of_cell? _ _ hp
  simp only at hplt
  have c5 := hR.cell 5 mo rfl
  have f5 := hR.free 5
  have HW : Hid (RB ((w.setCell ⟨b, 5, none⟩ (.map (some w.heap.size))).alloc (.map #[] 0)) b most (.slice ao L.length c) d ms (.map (some w.heap.size))) := Lib.hid (Blk.keepn (by simpa using Blk.set hR 5 (.map (some w.heap.size))) (g_alloc (g_refl _ none) _))
  have HG : Hid (w.grownBy ((w.setCell ⟨b, 5, none⟩ (.map (some w.heap.size))).alloc (.map #[] 0)) (some b)) := Lib.hid (g_alloc (g_set (g_refl w (some b)) (p := ⟨b, 5, none⟩) (.inl rfl) _) _)
  have HM : Hid (MapOf ((w.setCell ⟨b, 5, none⟩ (.map (some w.heap.size))).alloc (.map #[] 0)) w.heap.size []) := Lib.hid (by
    have h := World.ownsMap_made (H := Unit) (w.setCell ⟨b, 5, none⟩ (.map (some w.heap.size))) Try.prog 3 (plainElem (H := Unit) Try.prog 3)
    rw [show (w.setCell ⟨b, 5, none⟩ (.map (some w.heap.size))).heap.size = w.heap.size by simp [World.setCell]] at h
    exact mapOf_nil h rfl)
  have e1 := HW.out.cell 1 _ rfl
  have ep := HG.out.cell hp (by simpa using hpb)
  have HR := Lib.hid hR
  have HSR : Hid (∀ wr, w.grownBy wr (some b) → SRow wr ao L) := Lib.hid (fun wr g => by
    rcases L with _ | ⟨p0, L⟩
    · exact fun i p h => by simp at h
    · obtain ⟨b', off, hb, _⟩ := hsr 0 p0 rfl
      subst hb
      exact hsr.keeps g (fun a ha => by cases ha; exact fun e => hlb (by (show some b' = some b); rw [show b' = b from e])))
  have HPL : Hid (∀ wr, w.grownBy wr (some b) → wr.cell? ⟨pl, 0, none⟩ = some (.pointer (some ⟨b, 0, none⟩))) := Lib.hid (fun wr g => g.cell hp (by simpa using hpb))
  have HD := Lib.hid hd
  have HP := Lib.hid hp
  have hnm : ¬ b = w.heap.size := by omega
  clear hsr ho hd hlb
  obtain ⟨n, hn⟩ : ∃ n, L.length = n := ⟨_, rfl⟩
  rw [hn] at HW e1 HR hlc hl
  have HN := Lib.hid hn
  clear hn hR
  go_enter Try.func23, Try.ntmps23
  go_wp2_with fail
  obtain ⟨m, hm⟩ : ∃ m, w.heap.size = m := ⟨_, rfl⟩
  have hmle : w.heap.size ≤ m := by omega
  rw [hm] at hnm HW HM HG hplt hblt ⊢
  generalize (w.setCell ⟨b, 5, none⟩ (.map (some m))).alloc (.map #[] 0) = W0 at *
  clear hm e1 ep
  go_loopw [12] (fun i wr => ∃ j : Nat, i = .int .i64 j ∧ j ≤ n ∧ RB wr b most (.slice ao n c) d ms (.map (some m)) ∧ MapOf wr m (L.take j) ∧ w.grownBy wr (some b) ∧ m < wr.heap.size) (fun i _ => (n - intOf i).toNat)
  case atStart => exact ⟨0, rfl, Nat.zero_le _, HW.out, HM.out, HG.out, by obtain ⟨_, _, h, _⟩ := HM.out; exact h.lt⟩
  case round =>
    obtain ⟨j, rfl, hj, hrb, hmo, hg, hmw⟩ := hrel
    by_cases hlt : j < n
    · have hji : (j : Int) < n := by omega
      have hjj : ¬ (n : Int) ≤ j := by omega
      obtain ⟨p, hpj⟩ : ∃ p, L[j]? = some p := ⟨L[j]'(by rw [HN.out]; omega), List.getElem?_eq_getElem _⟩
      obtain ⟨bb, off, rfl, x0, x1⟩ := HSR.out wr hg j p hpj
      obtain ⟨hdk, hk0, hk1⟩ := dist_take HD.out hpj
      have ga := g_alloc (g_refl wr (some b)) (.cells #[.int .i64 p.1, .int .i64 p.2] 37)
      have ga0 := g_alloc (g_refl wr none) (.cells #[.int .i64 p.1, .int .i64 p.2] 37)
      have XB := Blk.new wr #[.int .i64 p.1, .int .i64 p.2] 37
      have HR7 := Lib.hid (Blk.keepn hrb ga0)
      have HG7 := Lib.hid (g_trans hg ga)
      have HPW := Lib.hid (HPL.out _ HG7.out)
      have HM7 := Lib.hid (hmo.keep ga0 (by simp))
      have HZ0 := Lib.hid (XB.cell 0 _ rfl)
      have hxm : ¬ wr.heap.size = m := by omega
      have hxb : ¬ b = wr.heap.size := by have := hrb.lt; omega
      have HXK := Lib.hid (And.intro hpj (And.intro hdk (And.intro hk0 hk1)))
      have hm7 : m < (wr.alloc (.cells #[.int .i64 p.1, .int .i64 p.2] 37)).heap.size := by simp; omega
      have hpm : pl ≠ m := by omega
      have hxs : m ≠ wr.heap.size := by omega
      clear ga ga0 XB hrb hg hmo hpj hdk hk0 hk1
      obtain ⟨k, v⟩ := p
      simp only at x0 x1 HR7 HG7 HPW HM7 HZ0 HXK hm7
      go_upto_region 4 with fail
      clear x0 x1
      generalize wr.alloc (.cells #[.int .i64 k, .int .i64 v] 37) = W at *
      obtain ⟨nn, D, hown, hnn, hh1, hh2⟩ := HM7.out
      have HTL : Hid ((L.take j).length = j) := Lib.hid (by rw [List.length_take, HN.out]; omega)
      have HC := Lib.hid (And.intro HPW.out (And.intro (HR7.out.cell 5 _ rfl) HZ0.out))
      have HOW := Lib.hid hown
      have HH := Lib.hid (And.intro hnn (And.intro hh1 hh2))
      have hnj : nn < maxLen := by have := HTL.out; unfold maxLen; omega
      clear hown hnn hh1 hh2
      refine wp_region_held_drew (S := fun W' => W.grownBy W' (some m)) (by kernel_rfl) (g_drew (g_refl W (some m))) (fun hHeld => ?_)
      refine wpAnyH_take (i := 0) (v := .pointer (some ⟨b, 0, none⟩)) rfl (by kernel_rfl) (by kernel_rfl) (by kernel_rfl) (fun _ _ _ h => h) (Or.inl ⟨by rfl, fun w hw => by have q0 := hw.cell HC.out.1 (by simp; omega); clear hw; go_simp⟩) hHeld ?_
      try simp only [Act.put, List.setIfInBounds_toArray, List.set_cons_zero, List.set_cons_succ, List.getElem_toArray, List.getElem_cons_zero, List.getElem_cons_succ]
      refine wpAnyH_take (i := 1) (v := .pointer (some ⟨b, 0, none⟩)) rfl (by kernel_rfl) (by kernel_rfl) (by kernel_rfl) (fun _ _ _ h => h) (Or.inl ⟨by rfl, fun w hw => by clear hw; go_simp⟩) hHeld ?_
      try simp only [Act.put, List.setIfInBounds_toArray, List.set_cons_zero, List.set_cons_succ, List.getElem_toArray, List.getElem_cons_zero, List.getElem_cons_succ]
      refine wpAnyH_take (i := 2) (v := .pointer (some ⟨b, 5, none⟩)) rfl (by kernel_rfl) (by kernel_rfl) (by kernel_rfl) (fun _ _ _ h => h) (Or.inl ⟨by rfl, fun w hw => by clear hw; go_simp⟩) hHeld ?_
      try simp only [Act.put, List.setIfInBounds_toArray, List.set_cons_zero, List.set_cons_succ, List.getElem_toArray, List.getElem_cons_zero, List.getElem_cons_succ]
      refine wpAnyH_take (i := 3) (v := .map (some m)) rfl (by kernel_rfl) (by kernel_rfl) (by kernel_rfl) (fun _ _ _ h => h) (Or.inl ⟨by rfl, fun w hw => by have q0 := hw.cell HC.out.2.1 (by simp; omega); clear hw; go_simp⟩) hHeld ?_
      try simp only [Act.put, List.setIfInBounds_toArray, List.set_cons_zero, List.set_cons_succ, List.getElem_toArray, List.getElem_cons_zero, List.getElem_cons_succ]
      refine wpAnyH_take (i := 4) (v := .pointer (some ⟨wr.heap.size, 0, none⟩)) rfl (by kernel_rfl) (by kernel_rfl) (by kernel_rfl) (fun _ _ _ h => h) (Or.inl ⟨by rfl, fun w hw => by clear hw; go_simp⟩) hHeld ?_
      try simp only [Act.put, List.setIfInBounds_toArray, List.set_cons_zero, List.set_cons_succ, List.getElem_toArray, List.getElem_cons_zero, List.getElem_cons_succ]
      refine wpAnyH_take (i := 5) (v := .int .i64 k) rfl (by kernel_rfl) (by kernel_rfl) (by kernel_rfl) (fun _ _ _ h => h) (Or.inl ⟨by rfl, fun w hw => by have q0 := hw.cell HC.out.2.2 (by simp; omega); clear hw; go_simp⟩) hHeld ?_
      try simp only [Act.put, List.setIfInBounds_toArray, List.set_cons_zero, List.set_cons_succ, List.getElem_toArray, List.getElem_cons_zero, List.getElem_cons_succ]
      refine wpAnyH_take (i := 6) (v := .int .i64 (j : Int)) rfl (by kernel_rfl) (by kernel_rfl) (by kernel_rfl) (fun _ _ _ h => h) (Or.inl ⟨by rfl, fun w hw => by clear hw; go_simp⟩) hHeld ?_
      try simp only [Act.put, List.setIfInBounds_toArray, List.set_cons_zero, List.set_cons_succ, List.getElem_toArray, List.getElem_cons_zero, List.getElem_cons_succ]
      refine wpAnyH_ready (rs := [7]) (by kernel_rfl) (by simp) (AllReadyH.cons rfl (fun K hK => ?_) (AllReadyH.nil))
      · refine step_mapUpdate_own rfl _ _ _ 62 rfl 3 3 (Maps.int_keyed Try.underlying3) Try.underlying62 (plainElem (H := Unit) Try.prog 3) m nn D rfl (HOW.out.drew) hnj (.int .i64 k) (.int .i64 (j : Int)) (.int .i64 k) rfl rfl (Maps.keyOf_int_mk Try.underlying3 (key_i64 HXK.out.2.2.1 (by have := HXK.out.2.2.2; omega))) (.lit (.int .i64 (j : Int))) [] (plainElem_int Try.underlying3 (key_i64 (by omega) (by omega))) ?_
        intro w9 hown9 hg9
        refine hK.out _ _ (g_trans hHeld hg9) (fun hHeld => ?_)
        clear hK K
        try simp only [Act.put, List.setIfInBounds_toArray, List.set_cons_zero, List.set_cons_succ, List.getElem_toArray, List.getElem_cons_zero, List.getElem_cons_succ]
        refine wpAnyH_done (by kernel_rfl) ?_ _
        have HMF : Hid (MapOf w9 m (L.take (j + 1))) := Lib.hid (by
          rw [List.take_add_one, HXK.out.1, Option.toList_some]
          refine mapOf_put HH.out.1 HH.out.2.1 HH.out.2.2 HOW.out.isMap HXK.out.2.1 ?_
          rw [HTL.out]; exact hown9)
        have HBF := Lib.hid (Blk.keep HR7.out hHeld (by simp; exact fun e => hnm e))
        have HGF : Hid (w.grownBy w9 (some b)) := Lib.hid (g_in HG7.out hHeld hmle)
        have hm9 : m < w9.heap.size := Nat.lt_of_lt_of_le hm7 hHeld.size
        go_wp2_with fail
        go_roundw
        case rel => exact ⟨j + 1, by go_num, by omega, HBF.out, HMF.out, HGF.out, hm9⟩
        case measure => simp [intOf]; omega
    · obtain rfl : j = n := by omega
      have hjj : ¬ (j : Int) < j := by omega
      have HF := Lib.hid (And.intro hrb (And.intro hmo (And.intro hg hmle)))
      clear hrb hmo hg
      go_wp2_with fail
      go_end0
      refine ⟨rfl, m, ?_, hmle, ?_, HF.out.2.2.1⟩
      · rw [HN.out]; exact HF.out.1
      · have h := HF.out.2.1
        rwa [List.take_of_length_le (by rw [HN.out]; exact Nat.le_refl _)] at h
end Go.Proofs.Ytbaocimmpiojeaa
