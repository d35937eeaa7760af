/- The law InstrNames. -/
import Derived.Test.YtcjeiafhcpgaoaaK
namespace Go.Proofs.Ytcjeiafhcpgaoaa
open Go.RowKit
set_option linter.unusedVariables false

def nmL : List (List UInt8) := [[], [99, 111, 110, 115, 116], [110, 105, 108], [109, 111, 118, 101], [97, 100, 100], [115, 117, 98], [108, 101, 115, 115], [101, 113], [106, 117, 109, 112], [106, 117, 109, 112, 122], [114, 111, 111, 116], [110, 101, 119], [102, 114, 101, 101], [103, 101, 116], [115, 101, 116], [98, 101, 103, 105, 110], [101, 108, 115, 101], [101, 110, 100], [114, 101, 116, 114, 121], [101, 109, 105, 116], [104, 97, 108, 116]]
def idx (b : ByteArray) : Nat := nmL.findIdx (fun l => l == b.data.toList)
theorem idx_nm {k : Nat} (h1 : 1 ≤ k) (h2 : k ≤ 20) : idx (nmB k) = k := by
  rcases kinds h1 h2 with rfl | rfl | rfl | rfl | rfl | rfl | rfl | rfl | rfl | rfl | rfl | rfl | rfl | rfl | rfl | rfl | rfl | rfl | rfl | rfl <;> decide
theorem idx_no : idx { data := #[] } = 0 := by decide
theorem nmB_inj {i j : Nat} (h1 : 1 ≤ i) (h2 : i ≤ 20) (h3 : 1 ≤ j) (h4 : j ≤ 20) (h : nmB i = nmB j) : i = j := by
  rw [← idx_nm h1 h2, h, idx_nm h3 h4]
theorem nmB_no {i : Nat} (h1 : 1 ≤ i) (h2 : i ≤ 20) : nmB i ≠ { data := #[] } := fun h => by
  have := idx_nm h1 h2
  rw [h, idx_no] at this
  omega
/-- of a kind's own name -/
theorem named_own {op c : Int} {there : Bool} (h : Named (nmI op) c there) : (there = true ∧ 1 ≤ op ∧ op ≤ 20 ∧ c = op) ∨ (there = false ∧ (op < 1 ∨ 20 < op)) := by
  rcases kind_cases op with ⟨n, rfl, h1, h2⟩ | ho
  · rw [nmI_in h1 h2] at h
    rcases h with ⟨rfl, m, rfl, k1, k2, k3, k4⟩ | ⟨rfl, _, k⟩
    · have := nmB_inj k1 k2 h1 h2 k3
      subst this
      exact .inl ⟨rfl, by omega, by omega, rfl⟩
    · exact absurd rfl (k n h1 h2)
  · rw [nmI_out ho] at h
    rcases h with ⟨rfl, m, rfl, k1, k2, k3, k4⟩ | ⟨rfl, _, k⟩
    · exact absurd k3 (nmB_no k1 k2)
    · exact .inr ⟨rfl, ho⟩
theorem named_name {s : ByteArray} {a : Int} (h : Named s a true) : nmI a = s := by
  rcases h with ⟨_, m, rfl, k1, k2, k3, k4⟩ | ⟨h, _⟩
  · rw [nmI_in k1 k2]; exact k3
  · cases h

set_option maxRecDepth 100000 in
set_option maxHeartbeats 3200000 in
theorem walk_InstrNames (a0 : ByteArray) (a1 : Int) (w : World) (w0 : a0.size ≤ maxLen) (w1 : (Lit.int .i64 a1).wf = true) :
    Calls Try.prog 5 #[.string a0, .int .i64 a1] w fun e w' => e = .returned (.bool true) ∧ Below w.heap.size w w' := by
  have hm : (a0.size : Int) ≤ 9223372036854775807 := by unfold maxLen at w0; omega
  clear w1
  by_cases hl : 20 < a0.size
  · have hl' : (20 : Int) < a0.size := by omega
    go_enter Try.func5, Try.ntmps5
    go_wp2_with fail
    refine (byname_any _ _).mono ?_
    rintro e w1 ⟨a, ok, rfl, hn1, hg1⟩
    have HN1 := Lib.hid hn1
    clear hn1
    go_wp2_with fail
    refine (rbyname_any _ _).mono ?_
    rintro e w2 ⟨b, is', rfl, hn2, hg2⟩
    obtain ⟨rfl, rfl⟩ := HN1.out.det hn2
    clear hn2
    go_wp2_with fail
    refine (name_any _ _).mono ?_
    rintro e w3 ⟨rfl, hg3⟩
    go_wp2_with fail
    refine (byname_any _ _).mono ?_
    rintro e w4 ⟨c, there, rfl, hn4, hg4⟩
    have gA := g_trans (g_trans (g_trans hg1 hg2) hg3) hg4
    have hown := named_own hn4
    have HNA := Lib.hid (fun w => name_any a w)
    have e1 : (a == a) = true := by simp
    have e2 : (ok == ok) = true := by simp
    have e3 : (a1 == a1) = true := by simp
    have e4 := tl_self (nmI a)
    have HNM : Hid (ok = true → nmI a = a0.extract 0 20) := Lib.hid (fun h => by subst h; exact named_name HN1.out)
    clear hn4 hg1 hg2 hg3 hg4 HN1
    rcases hown with ⟨rfl, h1, h2, rfl⟩ | ⟨rfl, ho⟩
    · cases ok with
      | true =>
        have hs := HNM.out rfl
        rw [hs] at HNA e4
        go_wp2_with fail
        refine (HNA.out _).mono ?_
        rintro e w5 ⟨rfl, hg5⟩
        go_wp2_with fail
        refine (awake_any _).mono ?_
        rintro e w9 ⟨rfl, hg9⟩
        go_wp2_with fail
        go_ret
        exact ⟨by first | rfl | exact ret_bool (by simp; omega), below_gn (Below.refl _ _) (g_trans (g_trans gA hg5) hg9) (Nat.le_refl _)⟩
      | false =>
        go_wp2_with fail
        refine (awake_any _).mono ?_
        rintro e w9 ⟨rfl, hg9⟩
        go_wp2_with fail
        go_ret
        exact ⟨by first | rfl | exact ret_bool (by simp; omega), below_gn (Below.refl _ _) (g_trans gA hg9) (Nat.le_refl _)⟩
    · rcases ho with ho | ho
      all_goals
        cases ok with
        | true =>
          have hs := HNM.out rfl
          rw [hs] at HNA e4
          go_wp2_with fail
          refine (HNA.out _).mono ?_
          rintro e w5 ⟨rfl, hg5⟩
          go_wp2_with fail
          refine (awake_any _).mono ?_
          rintro e w9 ⟨rfl, hg9⟩
          go_wp2_with fail
          go_ret
          exact ⟨by first | rfl | exact ret_bool (by simp; omega), below_gn (Below.refl _ _) (g_trans (g_trans gA hg5) hg9) (Nat.le_refl _)⟩
        | false =>
          go_wp2_with fail
          refine (awake_any _).mono ?_
          rintro e w9 ⟨rfl, hg9⟩
          go_wp2_with fail
          go_ret
          exact ⟨by first | rfl | exact ret_bool (by simp; omega), below_gn (Below.refl _ _) (g_trans gA hg9) (Nat.le_refl _)⟩
  · have hl' : (a0.size : Int) ≤ 20 := by omega
    go_enter Try.func5, Try.ntmps5
    go_wp2_with fail
    refine (byname_any _ _).mono ?_
    rintro e w1 ⟨a, ok, rfl, hn1, hg1⟩
    have HN1 := Lib.hid hn1
    clear hn1
    go_wp2_with fail
    refine (rbyname_any _ _).mono ?_
    rintro e w2 ⟨b, is', rfl, hn2, hg2⟩
    obtain ⟨rfl, rfl⟩ := HN1.out.det hn2
    clear hn2
    go_wp2_with fail
    refine (name_any _ _).mono ?_
    rintro e w3 ⟨rfl, hg3⟩
    go_wp2_with fail
    refine (byname_any _ _).mono ?_
    rintro e w4 ⟨c, there, rfl, hn4, hg4⟩
    have gA := g_trans (g_trans (g_trans hg1 hg2) hg3) hg4
    have hown := named_own hn4
    have HNA := Lib.hid (fun w => name_any a w)
    have e1 : (a == a) = true := by simp
    have e2 : (ok == ok) = true := by simp
    have e3 : (a1 == a1) = true := by simp
    have e4 := tl_self (nmI a)
    have HNM : Hid (ok = true → nmI a = a0) := Lib.hid (fun h => by subst h; exact named_name HN1.out)
    clear hn4 hg1 hg2 hg3 hg4 HN1
    rcases hown with ⟨rfl, h1, h2, rfl⟩ | ⟨rfl, ho⟩
    · cases ok with
      | true =>
        have hs := HNM.out rfl
        rw [hs] at HNA e4
        go_wp2_with fail
        refine (HNA.out _).mono ?_
        rintro e w5 ⟨rfl, hg5⟩
        go_wp2_with fail
        refine (awake_any _).mono ?_
        rintro e w9 ⟨rfl, hg9⟩
        go_wp2_with fail
        go_ret
        exact ⟨by first | rfl | exact ret_bool (by simp; omega), below_gn (Below.refl _ _) (g_trans (g_trans gA hg5) hg9) (Nat.le_refl _)⟩
      | false =>
        go_wp2_with fail
        refine (awake_any _).mono ?_
        rintro e w9 ⟨rfl, hg9⟩
        go_wp2_with fail
        go_ret
        exact ⟨by first | rfl | exact ret_bool (by simp; omega), below_gn (Below.refl _ _) (g_trans gA hg9) (Nat.le_refl _)⟩
    · rcases ho with ho | ho
      all_goals
        cases ok with
        | true =>
          have hs := HNM.out rfl
          rw [hs] at HNA e4
          go_wp2_with fail
          refine (HNA.out _).mono ?_
          rintro e w5 ⟨rfl, hg5⟩
          go_wp2_with fail
          refine (awake_any _).mono ?_
          rintro e w9 ⟨rfl, hg9⟩
          go_wp2_with fail
          go_ret
          exact ⟨by first | rfl | exact ret_bool (by simp; omega), below_gn (Below.refl _ _) (g_trans (g_trans gA hg5) hg9) (Nat.le_refl _)⟩
        | false =>
          go_wp2_with fail
          refine (awake_any _).mono ?_
          rintro e w9 ⟨rfl, hg9⟩
          go_wp2_with fail
          go_ret
          exact ⟨by first | rfl | exact ret_bool (by simp; omega), below_gn (Below.refl _ _) (g_trans gA hg9) (Nat.le_refl _)⟩
end Go.Proofs.Ytcjeiafhcpgaoaa
