/- Two programs: are they the same? Not more than are looked at. -/
import Derived.Test.YtmckaimgeflncaaP0
import Derived.Deep.RegionHeld3
import Derived.Deep.DeepCutAuto
import Derived.Deep.CutBlock
namespace Go.Proofs.Ytmckaimgeflncaa
open Go.RowKit
set_option linter.unusedVariables false
set_option linter.unusedSimpArgs false

/-- are two programs the same? -/
def eqL (L M : List I4) : Bool := decide (L = M)
theorem eqL_iff {L M : List I4} : eqL L M = true ↔ L = M := by simp [eqL]
theorem eqL_self (L : List I4) : eqL L L = true := by simp [eqL]
theorem take_eq {L M : List I4} {j : Nat} {x y : I4} (hx : L[j]? = some x) (hy : M[j]? = some y) (h : L.take j = M.take j) : x = y → L.take (j + 1) = M.take (j + 1) := fun e => by
  rw [List.take_add_one, List.take_add_one, hx, hy, h, e]
theorem same_no {L M : List I4} {j : Nat} {x y : I4} (hx : L[j]? = some x) (hy : M[j]? = some y) (h : x ≠ y) : eqL L M = false := by
  simp only [eqL, decide_eq_false_iff_not]
  rintro rfl
  rw [hx] at hy
  exact h (by injection hy)

set_option maxRecDepth 100000 in
set_option maxHeartbeats 3200000 in
theorem equal_any (ao bo : Option Addr) (n c m d : Nat) (L M : List I4) (w : World) (hL : IRow w ao L) (hM : IRow w bo M) (hn : L.length = n) (hm : M.length = m) (hnm : n ≤ 9223372036854775807) :
    Calls Try.prog 29 #[.slice ao n c, .slice bo m d] w fun e w' => e = .returned (.bool (eqL L M)) ∧ w.grownBy w' none := by
  have HL := Lib.hid hL
  have HM := Lib.hid hM
  have HN := Lib.hid hn
  have HMM := Lib.hid hm
  by_cases hne : n = m
  · subst hne
    have e0 : ((n : Int) != n) = false := by simp
    clear hL hM hn hm
    go_enter Try.func29, Try.ntmps29
    go_wp2_with fail
    go_loopw [13] (fun i wr => ∃ j : Nat, j ≤ n ∧ i = .int .i64 j ∧ L.take j = M.take j ∧ w.grownBy wr none) (fun i _ => (n - intOf i).toNat)
    case atStart => exact ⟨0, Nat.zero_le _, rfl, rfl, g_refl _ _⟩
    case round =>
      obtain ⟨j, hj, rfl, ht, hg⟩ := hrel
      by_cases hlt : j < n
      · have hji : (j : Int) < n := by omega
        obtain ⟨⟨k0, a0, b0, c0⟩, hx⟩ : ∃ x, L[j]? = some x := ⟨L[j]'(by rw [HN.out]; exact hlt), List.getElem?_eq_getElem _⟩
        obtain ⟨⟨k1, a1, b1, c1⟩, hy⟩ : ∃ x, M[j]? = some x := ⟨M[j]'(by rw [HMM.out]; exact hlt), List.getElem?_eq_getElem _⟩
        have hcase : (⟨k0, a0, b0, c0⟩ : I4) = ⟨k1, a1, b1, c1⟩ ∨ ((⟨k0, a0, b0, c0⟩ : I4) ≠ ⟨k1, a1, b1, c1⟩ ∧ (k0 = k1 → a0 = a1 → b0 = b1 → ¬ c0 = c1)) := by
          by_cases h : (⟨k0, a0, b0, c0⟩ : I4) = ⟨k1, a1, b1, c1⟩
          · exact .inl h
          · exact .inr ⟨h, fun e1 e2 e3 e4 => h (by subst e1 e2 e3 e4; rfl)⟩
        have HT := Lib.hid (take_eq hx hy ht)
        have HS := Lib.hid (fun h => same_no hx hy h)
        obtain ⟨b, off, rfl, x0, x1, x2, x3⟩ := HL.out.keep hg j _ hx
        obtain ⟨b2, off2, rfl, y0, y1, y2, y3⟩ := HM.out.keep hg j _ hy
        have HX := Lib.hid (And.intro x0 (And.intro x1 (And.intro x2 x3)))
        have HY := Lib.hid (And.intro y0 (And.intro y1 (And.intro y2 y3)))
        have GR := Lib.hid hg
        clear x0 x1 x2 x3 y0 y1 y2 y3 hx hy ht hg
        rcases hcase with hc | ⟨hc, hne⟩
        · injection hc with e1 e2 e3 e4
          subst e1 e2 e3 e4
          go_upto_region 6 with fail
          refine wp_region_held_drew (S := fun W' => wr.grownBy W' none) (by kernel_rfl) (g_drew (g_refl _ _)) (fun hHeld => ?_)
          refine wpAnyH_take (i := 0) (v := .slice (some ⟨b, off, none⟩) n c) rfl (by kernel_rfl) (by kernel_rfl) (by kernel_rfl) (fun _ _ _ h => h) (Or.inl ⟨by rfl, fun w hw => by clear hw; go_simp⟩) hHeld ?_
          try simp only [Act.put, List.setIfInBounds_toArray, List.set_cons_zero, List.set_cons_succ, List.getElem_toArray, List.getElem_cons_zero, List.getElem_cons_succ]
          refine wpAnyH_take (i := 1) (v := .int .i64 j) rfl (by kernel_rfl) (by kernel_rfl) (by kernel_rfl) (fun _ _ _ h => h) (Or.inl ⟨by rfl, fun w hw => by clear hw; go_simp⟩) hHeld ?_
          try simp only [Act.put, List.setIfInBounds_toArray, List.set_cons_zero, List.set_cons_succ, List.getElem_toArray, List.getElem_cons_zero, List.getElem_cons_succ]
          refine wpAnyH_take (i := 2) (v := .pointer (some ⟨b, off + j * 4, none⟩)) rfl (by kernel_rfl) (by kernel_rfl) (by kernel_rfl) (fun _ _ _ h => h) (Or.inl ⟨by rfl, fun w hw => by clear hw; go_simp⟩) hHeld ?_
          try simp only [Act.put, List.setIfInBounds_toArray, List.set_cons_zero, List.set_cons_succ, List.getElem_toArray, List.getElem_cons_zero, List.getElem_cons_succ]
          refine wpAnyH_take (i := 3) (v := .agg #[.int .i64 k0, .int .i64 a0, .int .i64 b0, .int .i64 c0]) rfl (by kernel_rfl) (by kernel_rfl) (by kernel_rfl) (fun _ _ _ h => h) (Or.inl ⟨by rfl, fun w hw => by have q0 := hw.cell HX.out.1 (by simp); have q1 := hw.cell HX.out.2.1 (by simp); have q2 := hw.cell HX.out.2.2.1 (by simp); have q3 := hw.cell HX.out.2.2.2 (by simp); clear hw; go_simp⟩) hHeld ?_
          try simp only [Act.put, List.setIfInBounds_toArray, List.set_cons_zero, List.set_cons_succ, List.getElem_toArray, List.getElem_cons_zero, List.getElem_cons_succ]
          refine wpAnyH_take (i := 4) (v := .slice (some ⟨b2, off2, none⟩) n d) rfl (by kernel_rfl) (by kernel_rfl) (by kernel_rfl) (fun _ _ _ h => h) (Or.inl ⟨by rfl, fun w hw => by clear hw; go_simp⟩) hHeld ?_
          try simp only [Act.put, List.setIfInBounds_toArray, List.set_cons_zero, List.set_cons_succ, List.getElem_toArray, List.getElem_cons_zero, List.getElem_cons_succ]
          refine wpAnyH_take (i := 5) (v := .int .i64 j) rfl (by kernel_rfl) (by kernel_rfl) (by kernel_rfl) (fun _ _ _ h => h) (Or.inl ⟨by rfl, fun w hw => by clear hw; go_simp⟩) hHeld ?_
          try simp only [Act.put, List.setIfInBounds_toArray, List.set_cons_zero, List.set_cons_succ, List.getElem_toArray, List.getElem_cons_zero, List.getElem_cons_succ]
          refine wpAnyH_take (i := 6) (v := .pointer (some ⟨b2, off2 + j * 4, none⟩)) rfl (by kernel_rfl) (by kernel_rfl) (by kernel_rfl) (fun _ _ _ h => h) (Or.inl ⟨by rfl, fun w hw => by clear hw; go_simp⟩) hHeld ?_
          try simp only [Act.put, List.setIfInBounds_toArray, List.set_cons_zero, List.set_cons_succ, List.getElem_toArray, List.getElem_cons_zero, List.getElem_cons_succ]
          refine wpAnyH_take (i := 7) (v := .agg #[.int .i64 k0, .int .i64 a0, .int .i64 b0, .int .i64 c0]) rfl (by kernel_rfl) (by kernel_rfl) (by kernel_rfl) (fun _ _ _ h => h) (Or.inl ⟨by rfl, fun w hw => by have q0 := hw.cell HY.out.1 (by simp); have q1 := hw.cell HY.out.2.1 (by simp); have q2 := hw.cell HY.out.2.2.1 (by simp); have q3 := hw.cell HY.out.2.2.2 (by simp); clear hw; go_simp⟩) hHeld ?_
          try simp only [Act.put, List.setIfInBounds_toArray, List.set_cons_zero, List.set_cons_succ, List.getElem_toArray, List.getElem_cons_zero, List.getElem_cons_succ]
          refine wpAnyH_take (i := 8) (v := .bool false) rfl (by kernel_rfl) (by kernel_rfl) (by kernel_rfl) (fun _ _ _ h => h) (Or.inl ⟨by rfl, fun w hw => by clear hw; go_simp⟩) hHeld ?_
          try simp only [Act.put, List.setIfInBounds_toArray, List.set_cons_zero, List.set_cons_succ, List.getElem_toArray, List.getElem_cons_zero, List.getElem_cons_succ]
          refine wpAnyH_done (by kernel_rfl) ?_ _
          go_wp2_with fail
          go_roundw
          case rel => exact ⟨j + 1, by omega, by go_num, HT.out rfl, g_trans GR.out hHeld⟩
          case measure => simp [intOf]; omega
        · have HNO := Lib.hid (HS.out hc)
          have HNE := Lib.hid hne
          clear hc hne HS
          go_upto_region 6 with fail
          refine wp_region_held_drew (S := fun W' => wr.grownBy W' none) (by kernel_rfl) (g_drew (g_refl _ _)) (fun hHeld => ?_)
          refine wpAnyH_take (i := 0) (v := .slice (some ⟨b, off, none⟩) n c) rfl (by kernel_rfl) (by kernel_rfl) (by kernel_rfl) (fun _ _ _ h => h) (Or.inl ⟨by rfl, fun w hw => by clear hw; go_simp⟩) hHeld ?_
          try simp only [Act.put, List.setIfInBounds_toArray, List.set_cons_zero, List.set_cons_succ, List.getElem_toArray, List.getElem_cons_zero, List.getElem_cons_succ]
          refine wpAnyH_take (i := 1) (v := .int .i64 j) rfl (by kernel_rfl) (by kernel_rfl) (by kernel_rfl) (fun _ _ _ h => h) (Or.inl ⟨by rfl, fun w hw => by clear hw; go_simp⟩) hHeld ?_
          try simp only [Act.put, List.setIfInBounds_toArray, List.set_cons_zero, List.set_cons_succ, List.getElem_toArray, List.getElem_cons_zero, List.getElem_cons_succ]
          refine wpAnyH_take (i := 2) (v := .pointer (some ⟨b, off + j * 4, none⟩)) rfl (by kernel_rfl) (by kernel_rfl) (by kernel_rfl) (fun _ _ _ h => h) (Or.inl ⟨by rfl, fun w hw => by clear hw; go_simp⟩) hHeld ?_
          try simp only [Act.put, List.setIfInBounds_toArray, List.set_cons_zero, List.set_cons_succ, List.getElem_toArray, List.getElem_cons_zero, List.getElem_cons_succ]
          refine wpAnyH_take (i := 3) (v := .agg #[.int .i64 k0, .int .i64 a0, .int .i64 b0, .int .i64 c0]) rfl (by kernel_rfl) (by kernel_rfl) (by kernel_rfl) (fun _ _ _ h => h) (Or.inl ⟨by rfl, fun w hw => by have q0 := hw.cell HX.out.1 (by simp); have q1 := hw.cell HX.out.2.1 (by simp); have q2 := hw.cell HX.out.2.2.1 (by simp); have q3 := hw.cell HX.out.2.2.2 (by simp); clear hw; go_simp⟩) hHeld ?_
          try simp only [Act.put, List.setIfInBounds_toArray, List.set_cons_zero, List.set_cons_succ, List.getElem_toArray, List.getElem_cons_zero, List.getElem_cons_succ]
          refine wpAnyH_take (i := 4) (v := .slice (some ⟨b2, off2, none⟩) n d) rfl (by kernel_rfl) (by kernel_rfl) (by kernel_rfl) (fun _ _ _ h => h) (Or.inl ⟨by rfl, fun w hw => by clear hw; go_simp⟩) hHeld ?_
          try simp only [Act.put, List.setIfInBounds_toArray, List.set_cons_zero, List.set_cons_succ, List.getElem_toArray, List.getElem_cons_zero, List.getElem_cons_succ]
          refine wpAnyH_take (i := 5) (v := .int .i64 j) rfl (by kernel_rfl) (by kernel_rfl) (by kernel_rfl) (fun _ _ _ h => h) (Or.inl ⟨by rfl, fun w hw => by clear hw; go_simp⟩) hHeld ?_
          try simp only [Act.put, List.setIfInBounds_toArray, List.set_cons_zero, List.set_cons_succ, List.getElem_toArray, List.getElem_cons_zero, List.getElem_cons_succ]
          refine wpAnyH_take (i := 6) (v := .pointer (some ⟨b2, off2 + j * 4, none⟩)) rfl (by kernel_rfl) (by kernel_rfl) (by kernel_rfl) (fun _ _ _ h => h) (Or.inl ⟨by rfl, fun w hw => by clear hw; go_simp⟩) hHeld ?_
          try simp only [Act.put, List.setIfInBounds_toArray, List.set_cons_zero, List.set_cons_succ, List.getElem_toArray, List.getElem_cons_zero, List.getElem_cons_succ]
          refine wpAnyH_take (i := 7) (v := .agg #[.int .i64 k1, .int .i64 a1, .int .i64 b1, .int .i64 c1]) rfl (by kernel_rfl) (by kernel_rfl) (by kernel_rfl) (fun _ _ _ h => h) (Or.inl ⟨by rfl, fun w hw => by have q0 := hw.cell HY.out.1 (by simp); have q1 := hw.cell HY.out.2.1 (by simp); have q2 := hw.cell HY.out.2.2.1 (by simp); have q3 := hw.cell HY.out.2.2.2 (by simp); clear hw; go_simp⟩) hHeld ?_
          try simp only [Act.put, List.setIfInBounds_toArray, List.set_cons_zero, List.set_cons_succ, List.getElem_toArray, List.getElem_cons_zero, List.getElem_cons_succ]
          refine wpAnyH_take (i := 8) (v := .bool true) rfl (by kernel_rfl) (by kernel_rfl) (by kernel_rfl) (fun _ _ _ h => h) (Or.inl ⟨by rfl, fun w hw => by clear hw; go_simp; exact HNE.out⟩) hHeld ?_
          try simp only [Act.put, List.setIfInBounds_toArray, List.set_cons_zero, List.set_cons_succ, List.getElem_toArray, List.getElem_cons_zero, List.getElem_cons_succ]
          refine wpAnyH_done (by kernel_rfl) ?_ _
          go_wp2_with fail
          go_ret
          exact ⟨ret_bool HNO.out.symm, g_trans GR.out hHeld⟩
      · obtain rfl : j = n := by omega
        rw [List.take_of_length_le (by rw [HN.out]; exact Nat.le_refl _), List.take_of_length_le (by rw [HMM.out]; exact Nat.le_refl _)] at ht
        have HE : Hid (eqL L M = true) := Lib.hid (by simp [eqL, ht])
        have GR := Lib.hid hg
        clear ht hg
        go_wp2_with fail
        go_ret
        exact ⟨ret_bool HE.out.symm, GR.out⟩
  · have e0 : ((n : Int) != m) = true := by simp; omega
    have HE : Hid (eqL L M = false) := Lib.hid (by simp only [eqL, decide_eq_false_iff_not]; rintro rfl; exact hne (hn.symm.trans hm))
    clear hL hM hn hm hne
    go_enter Try.func29, Try.ntmps29
    go_wp2_with fail
    go_ret
    exact ⟨ret_bool HE.out.symm, g_refl _ _⟩

set_option maxRecDepth 100000 in
set_option maxHeartbeats 3200000 in
theorem rsame_any (ao bo : Option Addr) (n c m d : Nat) (L M : List I4) (w : World) (hL : IRow w ao L) (hM : IRow w bo M) (hn : L.length = n) (hm : M.length = m) (hnm : n ≤ 9223372036854775807) :
    Calls Try.prog 13 #[.slice ao n c, .slice bo m d] w fun e w' => e = .returned (.bool (eqL L M)) ∧ w.grownBy w' none := by
  have HL := Lib.hid hL
  have HM := Lib.hid hM
  have HN := Lib.hid hn
  have HMM := Lib.hid hm
  by_cases hne : n = m
  · subst hne
    have e0 : ((n : Int) != n) = false := by simp
    clear hL hM hn hm
    go_enter Try.func13, Try.ntmps13
    go_wp2_with fail
    go_loopw [5] (fun i wr => ∃ j : Nat, j ≤ n ∧ i = .int .i64 j ∧ L.take j = M.take j ∧ w.grownBy wr none) (fun i _ => (n - intOf i).toNat)
    case atStart => exact ⟨0, Nat.zero_le _, rfl, rfl, g_refl _ _⟩
    case round =>
      obtain ⟨j, hj, rfl, ht, hg⟩ := hrel
      by_cases hlt : j < n
      · have hji : (j : Int) < n := by omega
        obtain ⟨⟨k0, a0, b0, c0⟩, hx⟩ : ∃ x, L[j]? = some x := ⟨L[j]'(by rw [HN.out]; exact hlt), List.getElem?_eq_getElem _⟩
        obtain ⟨⟨k1, a1, b1, c1⟩, hy⟩ : ∃ x, M[j]? = some x := ⟨M[j]'(by rw [HMM.out]; exact hlt), List.getElem?_eq_getElem _⟩
        have hcase : (⟨k0, a0, b0, c0⟩ : I4) = ⟨k1, a1, b1, c1⟩ ∨ ((⟨k0, a0, b0, c0⟩ : I4) ≠ ⟨k1, a1, b1, c1⟩ ∧ (k0 = k1 → a0 = a1 → b0 = b1 → ¬ c0 = c1)) := by
          by_cases h : (⟨k0, a0, b0, c0⟩ : I4) = ⟨k1, a1, b1, c1⟩
          · exact .inl h
          · exact .inr ⟨h, fun e1 e2 e3 e4 => h (by subst e1 e2 e3 e4; rfl)⟩
        have HT := Lib.hid (take_eq hx hy ht)
        have HS := Lib.hid (fun h => same_no hx hy h)
        obtain ⟨b, off, rfl, x0, x1, x2, x3⟩ := HL.out.keep hg j _ hx
        obtain ⟨b2, off2, rfl, y0, y1, y2, y3⟩ := HM.out.keep hg j _ hy
        have HX := Lib.hid (And.intro x0 (And.intro x1 (And.intro x2 x3)))
        have HY := Lib.hid (And.intro y0 (And.intro y1 (And.intro y2 y3)))
        have GR := Lib.hid hg
        clear x0 x1 x2 x3 y0 y1 y2 y3 hx hy ht hg
        rcases hcase with hc | ⟨hc, hne⟩
        · injection hc with e1 e2 e3 e4
          subst e1 e2 e3 e4
          go_upto_region 6 with fail
          refine wp_region_held_drew (S := fun W' => wr.grownBy W' none) (by kernel_rfl) (g_drew (g_refl _ _)) (fun hHeld => ?_)
          refine wpAnyH_take (i := 0) (v := .slice (some ⟨b, off, none⟩) n c) rfl (by kernel_rfl) (by kernel_rfl) (by kernel_rfl) (fun _ _ _ h => h) (Or.inl ⟨by rfl, fun w hw => by clear hw; go_simp⟩) hHeld ?_
          try simp only [Act.put, List.setIfInBounds_toArray, List.set_cons_zero, List.set_cons_succ, List.getElem_toArray, List.getElem_cons_zero, List.getElem_cons_succ]
          refine wpAnyH_take (i := 1) (v := .int .i64 j) rfl (by kernel_rfl) (by kernel_rfl) (by kernel_rfl) (fun _ _ _ h => h) (Or.inl ⟨by rfl, fun w hw => by clear hw; go_simp⟩) hHeld ?_
          try simp only [Act.put, List.setIfInBounds_toArray, List.set_cons_zero, List.set_cons_succ, List.getElem_toArray, List.getElem_cons_zero, List.getElem_cons_succ]
          refine wpAnyH_take (i := 2) (v := .pointer (some ⟨b, off + j * 4, none⟩)) rfl (by kernel_rfl) (by kernel_rfl) (by kernel_rfl) (fun _ _ _ h => h) (Or.inl ⟨by rfl, fun w hw => by clear hw; go_simp⟩) hHeld ?_
          try simp only [Act.put, List.setIfInBounds_toArray, List.set_cons_zero, List.set_cons_succ, List.getElem_toArray, List.getElem_cons_zero, List.getElem_cons_succ]
          refine wpAnyH_take (i := 3) (v := .agg #[.int .i64 k0, .int .i64 a0, .int .i64 b0, .int .i64 c0]) rfl (by kernel_rfl) (by kernel_rfl) (by kernel_rfl) (fun _ _ _ h => h) (Or.inl ⟨by rfl, fun w hw => by have q0 := hw.cell HX.out.1 (by simp); have q1 := hw.cell HX.out.2.1 (by simp); have q2 := hw.cell HX.out.2.2.1 (by simp); have q3 := hw.cell HX.out.2.2.2 (by simp); clear hw; go_simp⟩) hHeld ?_
          try simp only [Act.put, List.setIfInBounds_toArray, List.set_cons_zero, List.set_cons_succ, List.getElem_toArray, List.getElem_cons_zero, List.getElem_cons_succ]
          refine wpAnyH_take (i := 4) (v := .slice (some ⟨b2, off2, none⟩) n d) rfl (by kernel_rfl) (by kernel_rfl) (by kernel_rfl) (fun _ _ _ h => h) (Or.inl ⟨by rfl, fun w hw => by clear hw; go_simp⟩) hHeld ?_
          try simp only [Act.put, List.setIfInBounds_toArray, List.set_cons_zero, List.set_cons_succ, List.getElem_toArray, List.getElem_cons_zero, List.getElem_cons_succ]
          refine wpAnyH_take (i := 5) (v := .int .i64 j) rfl (by kernel_rfl) (by kernel_rfl) (by kernel_rfl) (fun _ _ _ h => h) (Or.inl ⟨by rfl, fun w hw => by clear hw; go_simp⟩) hHeld ?_
          try simp only [Act.put, List.setIfInBounds_toArray, List.set_cons_zero, List.set_cons_succ, List.getElem_toArray, List.getElem_cons_zero, List.getElem_cons_succ]
          refine wpAnyH_take (i := 6) (v := .pointer (some ⟨b2, off2 + j * 4, none⟩)) rfl (by kernel_rfl) (by kernel_rfl) (by kernel_rfl) (fun _ _ _ h => h) (Or.inl ⟨by rfl, fun w hw => by clear hw; go_simp⟩) hHeld ?_
          try simp only [Act.put, List.setIfInBounds_toArray, List.set_cons_zero, List.set_cons_succ, List.getElem_toArray, List.getElem_cons_zero, List.getElem_cons_succ]
          refine wpAnyH_take (i := 7) (v := .agg #[.int .i64 k0, .int .i64 a0, .int .i64 b0, .int .i64 c0]) rfl (by kernel_rfl) (by kernel_rfl) (by kernel_rfl) (fun _ _ _ h => h) (Or.inl ⟨by rfl, fun w hw => by have q0 := hw.cell HY.out.1 (by simp); have q1 := hw.cell HY.out.2.1 (by simp); have q2 := hw.cell HY.out.2.2.1 (by simp); have q3 := hw.cell HY.out.2.2.2 (by simp); clear hw; go_simp⟩) hHeld ?_
          try simp only [Act.put, List.setIfInBounds_toArray, List.set_cons_zero, List.set_cons_succ, List.getElem_toArray, List.getElem_cons_zero, List.getElem_cons_succ]
          refine wpAnyH_take (i := 8) (v := .bool false) rfl (by kernel_rfl) (by kernel_rfl) (by kernel_rfl) (fun _ _ _ h => h) (Or.inl ⟨by rfl, fun w hw => by clear hw; go_simp⟩) hHeld ?_
          try simp only [Act.put, List.setIfInBounds_toArray, List.set_cons_zero, List.set_cons_succ, List.getElem_toArray, List.getElem_cons_zero, List.getElem_cons_succ]
          refine wpAnyH_done (by kernel_rfl) ?_ _
          go_wp2_with fail
          go_roundw
          case rel => exact ⟨j + 1, by omega, by go_num, HT.out rfl, g_trans GR.out hHeld⟩
          case measure => simp [intOf]; omega
        · have HNO := Lib.hid (HS.out hc)
          have HNE := Lib.hid hne
          clear hc hne HS
          go_upto_region 6 with fail
          refine wp_region_held_drew (S := fun W' => wr.grownBy W' none) (by kernel_rfl) (g_drew (g_refl _ _)) (fun hHeld => ?_)
          refine wpAnyH_take (i := 0) (v := .slice (some ⟨b, off, none⟩) n c) rfl (by kernel_rfl) (by kernel_rfl) (by kernel_rfl) (fun _ _ _ h => h) (Or.inl ⟨by rfl, fun w hw => by clear hw; go_simp⟩) hHeld ?_
          try simp only [Act.put, List.setIfInBounds_toArray, List.set_cons_zero, List.set_cons_succ, List.getElem_toArray, List.getElem_cons_zero, List.getElem_cons_succ]
          refine wpAnyH_take (i := 1) (v := .int .i64 j) rfl (by kernel_rfl) (by kernel_rfl) (by kernel_rfl) (fun _ _ _ h => h) (Or.inl ⟨by rfl, fun w hw => by clear hw; go_simp⟩) hHeld ?_
          try simp only [Act.put, List.setIfInBounds_toArray, List.set_cons_zero, List.set_cons_succ, List.getElem_toArray, List.getElem_cons_zero, List.getElem_cons_succ]
          refine wpAnyH_take (i := 2) (v := .pointer (some ⟨b, off + j * 4, none⟩)) rfl (by kernel_rfl) (by kernel_rfl) (by kernel_rfl) (fun _ _ _ h => h) (Or.inl ⟨by rfl, fun w hw => by clear hw; go_simp⟩) hHeld ?_
          try simp only [Act.put, List.setIfInBounds_toArray, List.set_cons_zero, List.set_cons_succ, List.getElem_toArray, List.getElem_cons_zero, List.getElem_cons_succ]
          refine wpAnyH_take (i := 3) (v := .agg #[.int .i64 k0, .int .i64 a0, .int .i64 b0, .int .i64 c0]) rfl (by kernel_rfl) (by kernel_rfl) (by kernel_rfl) (fun _ _ _ h => h) (Or.inl ⟨by rfl, fun w hw => by have q0 := hw.cell HX.out.1 (by simp); have q1 := hw.cell HX.out.2.1 (by simp); have q2 := hw.cell HX.out.2.2.1 (by simp); have q3 := hw.cell HX.out.2.2.2 (by simp); clear hw; go_simp⟩) hHeld ?_
          try simp only [Act.put, List.setIfInBounds_toArray, List.set_cons_zero, List.set_cons_succ, List.getElem_toArray, List.getElem_cons_zero, List.getElem_cons_succ]
          refine wpAnyH_take (i := 4) (v := .slice (some ⟨b2, off2, none⟩) n d) rfl (by kernel_rfl) (by kernel_rfl) (by kernel_rfl) (fun _ _ _ h => h) (Or.inl ⟨by rfl, fun w hw => by clear hw; go_simp⟩) hHeld ?_
          try simp only [Act.put, List.setIfInBounds_toArray, List.set_cons_zero, List.set_cons_succ, List.getElem_toArray, List.getElem_cons_zero, List.getElem_cons_succ]
          refine wpAnyH_take (i := 5) (v := .int .i64 j) rfl (by kernel_rfl) (by kernel_rfl) (by kernel_rfl) (fun _ _ _ h => h) (Or.inl ⟨by rfl, fun w hw => by clear hw; go_simp⟩) hHeld ?_
          try simp only [Act.put, List.setIfInBounds_toArray, List.set_cons_zero, List.set_cons_succ, List.getElem_toArray, List.getElem_cons_zero, List.getElem_cons_succ]
          refine wpAnyH_take (i := 6) (v := .pointer (some ⟨b2, off2 + j * 4, none⟩)) rfl (by kernel_rfl) (by kernel_rfl) (by kernel_rfl) (fun _ _ _ h => h) (Or.inl ⟨by rfl, fun w hw => by clear hw; go_simp⟩) hHeld ?_
          try simp only [Act.put, List.setIfInBounds_toArray, List.set_cons_zero, List.set_cons_succ, List.getElem_toArray, List.getElem_cons_zero, List.getElem_cons_succ]
          refine wpAnyH_take (i := 7) (v := .agg #[.int .i64 k1, .int .i64 a1, .int .i64 b1, .int .i64 c1]) rfl (by kernel_rfl) (by kernel_rfl) (by kernel_rfl) (fun _ _ _ h => h) (Or.inl ⟨by rfl, fun w hw => by have q0 := hw.cell HY.out.1 (by simp); have q1 := hw.cell HY.out.2.1 (by simp); have q2 := hw.cell HY.out.2.2.1 (by simp); have q3 := hw.cell HY.out.2.2.2 (by simp); clear hw; go_simp⟩) hHeld ?_
          try simp only [Act.put, List.setIfInBounds_toArray, List.set_cons_zero, List.set_cons_succ, List.getElem_toArray, List.getElem_cons_zero, List.getElem_cons_succ]
          refine wpAnyH_take (i := 8) (v := .bool true) rfl (by kernel_rfl) (by kernel_rfl) (by kernel_rfl) (fun _ _ _ h => h) (Or.inl ⟨by rfl, fun w hw => by clear hw; go_simp; exact HNE.out⟩) hHeld ?_
          try simp only [Act.put, List.setIfInBounds_toArray, List.set_cons_zero, List.set_cons_succ, List.getElem_toArray, List.getElem_cons_zero, List.getElem_cons_succ]
          refine wpAnyH_done (by kernel_rfl) ?_ _
          go_wp2_with fail
          go_ret
          exact ⟨ret_bool HNO.out.symm, g_trans GR.out hHeld⟩
      · obtain rfl : j = n := by omega
        rw [List.take_of_length_le (by rw [HN.out]; exact Nat.le_refl _), List.take_of_length_le (by rw [HMM.out]; exact Nat.le_refl _)] at ht
        have HE : Hid (eqL L M = true) := Lib.hid (by simp [eqL, ht])
        have GR := Lib.hid hg
        clear ht hg
        go_wp2_with fail
        go_ret
        exact ⟨ret_bool HE.out.symm, GR.out⟩
  · have e0 : ((n : Int) != m) = true := by simp; omega
    have HE : Hid (eqL L M = false) := Lib.hid (by simp only [eqL, decide_eq_false_iff_not]; rintro rfl; exact hne (hn.symm.trans hm))
    clear hL hM hn hm hne
    go_enter Try.func13, Try.ntmps13
    go_wp2_with fail
    go_ret
    exact ⟨ret_bool HE.out.symm, g_refl _ _⟩

set_option maxHeartbeats 800000 in
theorem psame_any (ao bo : Option Addr) (n c m d : Nat) (L M : List I4) (w : World) (hL : IRow w ao L) (hM : IRow w bo M) (hn : L.length = n) (hm : M.length = m) (hnm : n ≤ 9223372036854775807) :
    Calls Try.prog 19 #[.slice ao n c, .slice bo m d] w fun e w' => e = .returned (.bool (eqL L M)) ∧ w.grownBy w' none := by
  have HE := Lib.hid (equal_any ao bo n c m d L M w hL hM hn hm hnm)
  clear hL hM hn hm
  go_enter Try.func19, Try.ntmps19
  go_wp2_with fail
  refine HE.out.mono ?_
  rintro e w1 ⟨rfl, g1⟩
  go_wp2_with fail
  go_ret
  exact ⟨rfl, g1⟩

set_option maxHeartbeats 800000 in
theorem few_any (ao : Option Addr) (n c : Nat) (w : World) (hnc : n ≤ c) (hcm : c ≤ 9223372036854775807) :
    Calls Try.prog 7 #[.slice ao n c] w fun e w' => e = .returned (.slice ao (min n 520) c) ∧ w.grownBy w' none := by
  by_cases h : 520 < n
  · have h' : (520 : Int) < n := by omega
    have h3 : ¬ (n : Int) ≤ 520 := by omega
    have h2 : (520 : Int) ≤ c := by omega
    have hm : min n 520 = 520 := by omega
    have hmi : min (n : Int) 520 = 520 := by omega
    rw [hm]
    clear hm
    go_enter Try.func7, Try.ntmps7
    go_wp2_with fail
    go_ret
    exact ⟨rfl, g_refl _ _⟩
  · have h' : (n : Int) ≤ 520 := by omega
    have hm : min n 520 = n := by omega
    have hmi : min (n : Int) 520 = n := by omega
    rw [hm]
    clear hm
    go_enter Try.func7, Try.ntmps7
    go_wp2_with fail
    go_ret
    exact ⟨rfl, g_refl _ _⟩

set_option maxHeartbeats 800000 in
theorem cut_any (ao : Option Addr) (n c : Nat) (w : World) (hnc : n ≤ c) (hcm : c ≤ 9223372036854775807) :
    Calls Try.prog 8 #[.slice ao n c] w fun e w' => e = .returned (.slice ao (min n 6000) c) ∧ w.grownBy w' none := by
  by_cases h : 6000 < n
  · have h' : (6000 : Int) < n := by omega
    have h3 : ¬ (n : Int) ≤ 6000 := by omega
    have h2 : (6000 : Int) ≤ c := by omega
    have hm : min n 6000 = 6000 := by omega
    have hmi : min (n : Int) 6000 = 6000 := by omega
    rw [hm]
    clear hm
    go_enter Try.func8, Try.ntmps8
    go_wp2_with fail
    go_ret
    exact ⟨rfl, g_refl _ _⟩
  · have h' : (n : Int) ≤ 6000 := by omega
    have hm : min n 6000 = n := by omega
    have hmi : min (n : Int) 6000 = n := by omega
    rw [hm]
    clear hm
    go_enter Try.func8, Try.ntmps8
    go_wp2_with fail
    go_ret
    exact ⟨rfl, g_refl _ _⟩
end Go.Proofs.Ytmckaimgeflncaa
