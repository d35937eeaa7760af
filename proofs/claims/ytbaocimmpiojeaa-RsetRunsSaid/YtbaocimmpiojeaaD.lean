/- Sets of what was read: the methods. -/
import Derived.Test.YtbaocimmpiojeaaC
import Derived.Deep.AppendLies
import Derived.Deep.RegionLaw
namespace Go.Proofs.Ytbaocimmpiojeaa
open Go.RowKit
set_option linter.unusedVariables false
set_option linter.unusedSimpArgs false

theorem none_any (b : Nat) (most : Int) (w : World) (h : w.cell? ⟨b, 0, none⟩ = some (.int .i64 most)) (hm : most ≠ 0) : Calls Try.prog 19 #[.pointer (some ⟨b, 0, none⟩)] w fun e w' => e = .returned (.bool false) ∧ w' = w := by
  have hb : (most == 0) = false := by simp [hm]
  go_enter Try.func19, Try.ntmps19
  go_wp2_with fail
  go_ret
  exact ⟨rfl, rfl⟩
theorem none_nil (w : World) : Calls Try.prog 19 #[.pointer none] w fun e w' => e = .returned (.bool true) ∧ w' = w := by
  go_enter Try.func19, Try.ntmps19
  go_wp2_with fail
  go_ret
  exact ⟨rfl, rfl⟩
theorem none_zero (b : Nat) (w : World) (h : w.cell? ⟨b, 0, none⟩ = some (.int .i64 0)) : Calls Try.prog 19 #[.pointer (some ⟨b, 0, none⟩)] w fun e w' => e = .returned (.bool true) ∧ w' = w := by
  go_enter Try.func19, Try.ntmps19
  go_wp2_with fail
  go_ret
  exact ⟨rfl, rfl⟩

/-- what a record has -/
def hasP (L : List (Int × Int)) (k : Int) : Int × Bool := match L.find? (fun p => decide (p.1 = k)) with | some p => (p.2, true) | none => (0, false)
theorem hasP_no {L : List (Int × Int)} {k : Int} (h : ¬ ∃ p ∈ L, p.1 = k) : hasP L k = (0, false) := by
  unfold hasP
  rw [List.find?_eq_none.2 (fun p hp => by simpa using fun e => h ⟨p, hp, e⟩)]
theorem hasP_yes {L : List (Int × Int)} {k : Int} (hd : Dist L) {i : Nat} {p : Int × Int} (hp : L[i]? = some p) (hk : p.1 = k) : hasP L k = (p.2, true) := by
  unfold hasP
  cases hf : L.find? (fun p => decide (p.1 = k)) with
  | none => exact absurd hk (by simpa using List.find?_eq_none.1 hf p (List.mem_of_getElem? hp))
  | some q =>
    have hq := List.find?_some hf
    simp only [decide_eq_true_eq] at hq
    obtain ⟨j, hj⟩ := List.mem_iff_getElem?.1 (List.mem_of_find?_eq_some hf)
    obtain ⟨a1, a2⟩ := List.getElem?_eq_some_iff.1 hp
    obtain ⟨b1, b2⟩ := List.getElem?_eq_some_iff.1 hj
    have : i = j := by
      rcases Nat.lt_trichotomy i j with h | h | h
      · exact absurd (by rw [a2, b2, hk, hq]) (List.pairwise_iff_getElem.1 hd.1 i j a1 b1 h)
      · exact h
      · exact absurd (by rw [a2, b2, hk, hq]) (List.pairwise_iff_getElem.1 hd.1 j i b1 a1 h)
    subst this
    rw [hp] at hj
    cases hj; rfl
theorem has_cases (L : List (Int × Int)) (k : Int) : (¬ ∃ p ∈ L, p.1 = k) ∨ ∃ (i : Nat) (v : Int), L[i]? = some (k, v) := by
  by_cases h : ∃ p ∈ L, p.1 = k
  · obtain ⟨⟨p1, p2⟩, hp, rfl⟩ := h
    obtain ⟨i, hi⟩ := List.mem_iff_getElem?.1 hp
    exact .inr ⟨i, p2, hi⟩
  · exact .inl h
theorem zv3 (w : World) : (zeroValue 3).run Try.prog w = .ok (.int .i64 0) w := by kernel_rfl
theorem lit_inj {c : Int} {i : Nat} (h : (DataW.lit (.int .i64 i) : DataW Unit) = .lit (.int .i64 c)) : c = i := by injection h with h; injection h with _ h; exact h.symm

set_option maxRecDepth 100000 in
set_option maxHeartbeats 3200000 in
theorem has_any (S : Nat → Prop) (b : Nat) (most : Int) (L : List (Int × Int)) (k : Int) (w : World) (h : Rs w S b most L) (hl : L.length ≤ 5000) (hS : ∀ i, w.heap.size ≤ i → S i) (hm : most ≠ 0) (hk : (Lit.int .i64 k).wf = true) :
    Calls Try.prog 8 #[.pointer (some ⟨b, 0, none⟩), .int .i64 k] w fun e w' => e = .returned (.tuple #[.int .i64 (hasP L k).1, .bool (hasP L k).2]) ∧ Rs w' S b most L ∧ Tr S w w' := by
  have HN := Lib.hid (none_any b most w (by obtain ⟨_, lv, d, mo, h1, _⟩ := h; exact Blk.cell h1 0 _ rfl) hm)
  have HI := Lib.hid (index_any S b most L w h hl hS)
  clear h
  obtain ⟨hp, hhp⟩ : ∃ hp, hasP L k = hp := ⟨_, rfl⟩
  rw [hhp]
  have HHP := Lib.hid hhp
  clear hhp
  go_enter Try.func8, Try.ntmps8
  go_wp2_with fail
  refine HN.out.mono ?_
  rintro e w1 ⟨rfl, rfl⟩
  go_wp2_with fail
  refine HI.out.mono ?_
  rintro e w2 ⟨m, rfl, hx, ht⟩
  have HX := Lib.hid hx
  have HT := Lib.hid ht
  obtain ⟨h0, lv, h1, h2, h3, h4, h5, h6, h7, nn, D, hown, hnn, hh1, hh2⟩ := hx
  obtain ⟨ao, c, rfl, hsr, -⟩ := srow_of_own h2
  have hlc := (len_own h2).1
  have hlm := (len_own h2).2
  have c1 := Blk.cell h1 1 _ rfl
  have HOW := Lib.hid hown
  clear hown ht
  rcases has_cases L k with hno | ⟨i, v, hi⟩
  · have hhas : Maps.has D (.int .i64 k) = false := by
      cases hh : Maps.has D (.int .i64 k)
      · rfl
      · exact absurd ((hh1 k).1 hh) hno
    obtain rfl : hp = (0, false) := HHP.out.symm.trans (hasP_no hno)
    clear hh1 hh2 hno h1 h2 h3 h4 h5 h6 h7 hsr c1
    go_wp2_with (at_lookup; refine wpList_lookup_own_ok_int _ rfl _ _ 62 rfl 3 3 .i64 (Maps.int_keyed Try.underlying3) Try.underlying62 Try.underlying3 (zv3 _) m nn D rfl HOW.out (.int .i64 k) (.int .i64 k) rfl (Maps.keyOf_int_mk Try.underlying3 hk) ?_; intro cc hat hwc; rw [hhas])
    go_ret2
    exact ⟨rfl, HX.out.rs, HT.out⟩
  · have hil := (List.getElem?_eq_some_iff.1 hi).1
    have hhas : Maps.has D (.int .i64 k) = true := (hh1 k).2 ⟨(k, v), List.mem_of_getElem? hi, rfl⟩
    have hati := hh2 i _ hi
    obtain ⟨bb, off, rfl, x0, x1⟩ := hsr i _ hi
    obtain rfl : hp = (v, true) := HHP.out.symm.trans (hasP_yes h4 hi rfl)
    simp only at x1 hati
    have HAT := Lib.hid hati
    have hii : ¬ (L.length : Int) ≤ i := by omega
    clear hh1 hh2 hi h1 h2 h3 h4 h5 h6 h7 hsr x0 hati
    generalize L.length = n at *
    go_wp2_with (at_lookup; refine wpList_lookup_own_ok_int _ rfl _ _ 62 rfl 3 3 .i64 (Maps.int_keyed Try.underlying3) Try.underlying62 Try.underlying3 (zv3 _) m nn D rfl HOW.out (.int .i64 k) (.int .i64 k) rfl (Maps.keyOf_int_mk Try.underlying3 hk) ?_; intro cc hat hwc; obtain rfl := lit_inj (HAT.out.symm.trans hat); rw [hhas])
    go_ret2
    exact ⟨rfl, HX.out.rs, HT.out⟩
end Go.Proofs.Ytbaocimmpiojeaa
