/- Names, which turn registers alone, targets. -/
import Derived.Test.YtcjeiafhcpgaoaaD
namespace Go.Proofs.Ytcjeiafhcpgaoaa
open Go.RowKit
set_option linter.unusedVariables false

/-- does a kind turn registers alone? -/
def locB (k : Int) : Bool := decide (1 ≤ k ∧ k ≤ 10 ∨ k = 19)

set_option maxHeartbeats 1600000 in
theorem local_any (k : Int) (w : World) : Calls Try.prog 23 #[.int .i64 k] w fun e w' => e = .returned (.bool (locB k)) ∧ w.grownBy w' none := by
  by_cases h : 1 ≤ k ∧ k ≤ 10 ∨ k = 19
  · have hb : locB k = true := decide_eq_true h
    rw [hb]
    have hc : k = 1 ∨ k = 2 ∨ k = 3 ∨ k = 4 ∨ k = 5 ∨ k = 6 ∨ k = 7 ∨ k = 8 ∨ k = 9 ∨ k = 10 ∨ k = 19 := by omega
    clear hb h
    rcases hc with rfl | rfl | rfl | rfl | rfl | rfl | rfl | rfl | rfl | rfl | rfl
    all_goals
      go_enter Try.func23, Try.ntmps23
      go_wp2_with fail
      go_ret
      exact ⟨rfl, g_refl _ _⟩
  · have hb : locB k = false := decide_eq_false h
    rw [hb]
    have q1 : (k == 1) = false := by simp; omega
    have q2 : (k == 2) = false := by simp; omega
    have q3 : (k == 3) = false := by simp; omega
    have q4 : (k == 4) = false := by simp; omega
    have q5 : (k == 5) = false := by simp; omega
    have q6 : (k == 6) = false := by simp; omega
    have q7 : (k == 7) = false := by simp; omega
    have q8 : (k == 8) = false := by simp; omega
    have q9 : (k == 9) = false := by simp; omega
    have q10 : (k == 10) = false := by simp; omega
    have q19 : (k == 19) = false := by simp; omega
    clear h hb
    go_enter Try.func23, Try.ntmps23
    go_wp2_with fail
    go_ret
    exact ⟨rfl, g_refl _ _⟩

set_option maxHeartbeats 1600000 in
theorem rlocal_any (k : Int) (w : World) : Calls Try.prog 24 #[.int .i64 k] w fun e w' => e = .returned (.bool (locB k)) ∧ w.grownBy w' none := by
  by_cases h : 1 ≤ k ∧ k ≤ 10 ∨ k = 19
  · have hb : locB k = true := decide_eq_true h
    rw [hb]
    have hc : k = 1 ∨ k = 2 ∨ k = 3 ∨ k = 4 ∨ k = 5 ∨ k = 6 ∨ k = 7 ∨ k = 8 ∨ k = 9 ∨ k = 10 ∨ k = 19 := by omega
    clear hb h
    rcases hc with rfl | rfl | rfl | rfl | rfl | rfl | rfl | rfl | rfl | rfl | rfl
    all_goals
      go_enter Try.func24, Try.ntmps24
      go_wp2_with fail
      go_ret
      exact ⟨rfl, g_refl _ _⟩
  · have hb : locB k = false := decide_eq_false h
    rw [hb]
    have q1 : (k == 1) = false := by simp; omega
    have q2 : (k == 2) = false := by simp; omega
    have q3 : (k == 3) = false := by simp; omega
    have q4 : (k == 4) = false := by simp; omega
    have q5 : (k == 5) = false := by simp; omega
    have q6 : (k == 6) = false := by simp; omega
    have q7 : (k == 7) = false := by simp; omega
    have q8 : (k == 8) = false := by simp; omega
    have q9 : (k == 9) = false := by simp; omega
    have q10 : (k == 10) = false := by simp; omega
    have q19 : (k == 19) = false := by simp; omega
    by_cases c1 : k < 1
    · clear h hb
      go_enter Try.func24, Try.ntmps24
      go_wp2_with fail
      go_ret
      exact ⟨rfl, g_refl _ _⟩
    · have c2 : 10 < k := by omega
      have c3 : ¬ k ≤ 10 := by omega
      clear h hb
      go_enter Try.func24, Try.ntmps24
      go_wp2_with fail
      go_ret
      exact ⟨by first | rfl | exact ret_bool (decide_eq_false (by omega)), g_refl _ _⟩

/-- a kind's name -/
def nmI (k : Int) : ByteArray := if 1 ≤ k ∧ k ≤ 20 then nmB k.toNat else { data := #[] }
theorem nmI_in {k : Nat} (h1 : 1 ≤ k) (h2 : k ≤ 20) : nmI k = nmB k := by unfold nmI; rw [if_pos (by omega), Int.toNat_natCast]
theorem nmI_out {k : Int} (h : k < 1 ∨ 20 < k) : nmI k = { data := #[] } := by unfold nmI; rw [if_neg (by omega)]
/-- a kind's number, or none -/
theorem kind_cases (k : Int) : (∃ n : Nat, k = n ∧ 1 ≤ n ∧ n ≤ 20) ∨ (k < 1 ∨ 20 < k) := by
  by_cases h : 1 ≤ k ∧ k ≤ 20
  · exact .inl ⟨k.toNat, by omega, by omega, by omega⟩
  · exact .inr (by omega)

set_option maxHeartbeats 1600000 in
theorem name_any (k : Int) (w : World) : Calls Try.prog 16 #[.int .i64 k] w fun e w' => e = .returned (.string (nmI k)) ∧ w.grownBy w' none := by
  rcases kind_cases k with ⟨n, rfl, h1, h2⟩ | h
  · rw [nmI_in h1 h2]
    have HF := Lib.hid (of_ok n h1 h2)
    clear h1 h2
    generalize nmB n = nm at *
    generalize sA n = s0 at *
    generalize sB n = s1 at *
    generalize sC n = s2 at *
    go_enter Try.func16, Try.ntmps16
    go_wp2_with fail
    refine (HF.out _).mono ?_
    rintro e w1 ⟨rfl, hg⟩
    go_wp2_with fail
    go_ret
    exact ⟨rfl, g_alloc hg _⟩
  · rw [nmI_out h]
    have HF := Lib.hid (of_bad k h)
    clear h
    go_enter Try.func16, Try.ntmps16
    go_wp2_with fail
    refine (HF.out _).mono ?_
    rintro e w1 ⟨rfl, hg⟩
    go_wp2_with fail
    go_ret
    exact ⟨rfl, g_alloc hg _⟩

def N21 : Array Value := #[.string { data := #[] }, .string { data := #[99, 111, 110, 115, 116] }, .string { data := #[110, 105, 108] }, .string { data := #[109, 111, 118, 101] }, .string { data := #[97, 100, 100] }, .string { data := #[115, 117, 98] }, .string { data := #[108, 101, 115, 115] }, .string { data := #[101, 113] }, .string { data := #[106, 117, 109, 112] }, .string { data := #[106, 117, 109, 112, 122] }, .string { data := #[114, 111, 111, 116] }, .string { data := #[110, 101, 119] }, .string { data := #[102, 114, 101, 101] }, .string { data := #[103, 101, 116] }, .string { data := #[115, 101, 116] }, .string { data := #[98, 101, 103, 105, 110] }, .string { data := #[101, 108, 115, 101] }, .string { data := #[101, 110, 100] }, .string { data := #[114, 101, 116, 114, 121] }, .string { data := #[101, 109, 105, 116] }, .string { data := #[104, 97, 108, 116] }]
set_option maxRecDepth 100000 in
set_option maxHeartbeats 3200000 in
theorem names_any (w : World) : Calls Try.prog 37 #[] w fun e w' => e = .returned (.slice (some ⟨w.heap.size, 0, none⟩) 21 21) ∧ Blk w' w.heap.size N21 9 ∧ w.grownBy w' none := by
  go_enter Try.func37, Try.ntmps37
  go_wp2_with fail
  go_ret
  exact ⟨rfl, Blk.new _ _ _, g_alloc (g_refl _ _) _⟩
theorem n21 {k : Nat} (h1 : 1 ≤ k) (h2 : k ≤ 20) : N21[k]? = some (.string (nmB k)) := by
  rcases kinds h1 h2 with rfl | rfl | rfl | rfl | rfl | rfl | rfl | rfl | rfl | rfl | rfl | rfl | rfl | rfl | rfl | rfl | rfl | rfl | rfl | rfl <;> rfl

set_option maxHeartbeats 1600000 in
theorem rname_any (k : Int) (w : World) : Calls Try.prog 25 #[.int .i64 k] w fun e w' => e = .returned (.string (nmI k)) ∧ w.grownBy w' none := by
  rcases kind_cases k with ⟨n, rfl, h1, h2⟩ | h
  · rw [nmI_in h1 h2]
    have hn := n21 h1 h2
    have hk1 : (1 : Int) ≤ n := by omega
    have hk2 : (n : Int) ≤ 20 := by omega
    generalize nmB n = nm at *
    go_enter Try.func25, Try.ntmps25
    go_wp2_with fail
    refine (names_any _).mono ?_
    rintro e w1 ⟨rfl, hb, hg⟩
    have c := hb.cell n _ hn
    clear hb hn
    go_wp2_with fail
    go_ret
    exact ⟨rfl, hg⟩
  · rw [nmI_out h]
    rcases h with h | h
    all_goals
      go_enter Try.func25, Try.ntmps25
      go_wp2_with fail
      go_ret
      exact ⟨rfl, g_refl _ _⟩

/-- a jump's place -/
def tgt (k A B : Int) : Int := if k = 8 then A else if k = 9 then B else 0
def isJ (k : Int) : Bool := decide (k = 8 ∨ k = 9)

set_option maxHeartbeats 1600000 in
theorem target_any (k A B C : Int) (w : World) : Calls Try.prog 17 #[.agg #[.int .i64 k, .int .i64 A, .int .i64 B, .int .i64 C]] w fun e w' => e = .returned (.tuple #[.int .i64 (tgt k A B), .bool (isJ k)]) ∧ w.grownBy w' none := by
  by_cases h8 : k = 8
  · subst h8
    go_enter Try.func17, Try.ntmps17
    go_wp2_with fail
    go_ret2
    exact ⟨rfl, g_alloc (g_refl _ _) _⟩
  · by_cases h9 : k = 9
    · subst h9
      go_enter Try.func17, Try.ntmps17
      go_wp2_with fail
      go_ret2
      exact ⟨rfl, g_alloc (g_refl _ _) _⟩
    · have q8 : (k == 8) = false := by simp [h8]
      have q9 : (k == 9) = false := by simp [h9]
      have e1 : tgt k A B = 0 := by unfold tgt; rw [if_neg h8, if_neg h9]
      have e2 : isJ k = false := decide_eq_false (by omega)
      rw [e1, e2]
      clear h8 h9 e1 e2
      go_enter Try.func17, Try.ntmps17
      go_wp2_with fail
      go_ret2
      exact ⟨rfl, g_alloc (g_refl _ _) _⟩

set_option maxHeartbeats 1600000 in
theorem rtarget_any (k A B C : Int) (w : World) : Calls Try.prog 18 #[.agg #[.int .i64 k, .int .i64 A, .int .i64 B, .int .i64 C]] w fun e w' => e = .returned (.tuple #[.int .i64 (tgt k A B), .bool (isJ k)]) ∧ w.grownBy w' none := by
  by_cases h8 : k = 8
  · subst h8
    go_enter Try.func18, Try.ntmps18
    go_wp2_with fail
    go_ret2
    exact ⟨rfl, g_alloc (g_refl _ _) _⟩
  · by_cases h9 : k = 9
    · subst h9
      go_enter Try.func18, Try.ntmps18
      go_wp2_with fail
      go_ret2
      exact ⟨rfl, g_alloc (g_refl _ _) _⟩
    · have q8 : (k == 8) = false := by simp [h8]
      have q9 : (k == 9) = false := by simp [h9]
      have e1 : tgt k A B = 0 := by unfold tgt; rw [if_neg h8, if_neg h9]
      have e2 : isJ k = false := decide_eq_false (by omega)
      rw [e1, e2]
      clear h8 h9 e1 e2
      go_enter Try.func18, Try.ntmps18
      go_wp2_with fail
      go_ret2
      exact ⟨rfl, g_alloc (g_refl _ _) _⟩

/-- an instruction with another place -/
def aimA (k A p : Int) : Int := if k = 8 then p else A
def aimB (k B p : Int) : Int := if k = 9 then p else B

set_option maxHeartbeats 1600000 in
theorem aim_any (k A B C p : Int) (w : World) : Calls Try.prog 19 #[.agg #[.int .i64 k, .int .i64 A, .int .i64 B, .int .i64 C], .int .i64 p] w fun e w' => e = .returned (.agg #[.int .i64 k, .int .i64 (aimA k A p), .int .i64 (aimB k B p), .int .i64 C]) ∧ w.grownBy w' none := by
  by_cases h8 : k = 8
  · subst h8
    go_enter Try.func19, Try.ntmps19
    go_wp2_with fail
    exact bodyPost_ret (v := .agg #[.int .i64 8, .int .i64 p, .int .i64 B, .int .i64 C]) (by simp [results, Try.results19, go_sem]) rfl ⟨rfl, g_alloc (g_alloc (g_refl _ _) _) _⟩
  · by_cases h9 : k = 9
    · subst h9
      go_enter Try.func19, Try.ntmps19
      go_wp2_with fail
      exact bodyPost_ret (v := .agg #[.int .i64 9, .int .i64 A, .int .i64 p, .int .i64 C]) (by simp [results, Try.results19, go_sem]) rfl ⟨rfl, g_alloc (g_alloc (g_refl _ _) _) _⟩
    · have q8 : (k == 8) = false := by simp [h8]
      have q9 : (k == 9) = false := by simp [h9]
      have e1 : aimA k A p = A := by unfold aimA; rw [if_neg h8]
      have e2 : aimB k B p = B := by unfold aimB; rw [if_neg h9]
      rw [e1, e2]
      clear h8 h9 e1 e2
      go_enter Try.func19, Try.ntmps19
      go_wp2_with fail
      exact bodyPost_ret (v := .agg #[.int .i64 k, .int .i64 A, .int .i64 B, .int .i64 C]) (by simp [results, Try.results19, go_sem]) rfl ⟨rfl, g_alloc (g_alloc (g_refl _ _) _) _⟩

set_option maxHeartbeats 1600000 in
theorem raim_any (k A B C p : Int) (w : World) : Calls Try.prog 20 #[.agg #[.int .i64 k, .int .i64 A, .int .i64 B, .int .i64 C], .int .i64 p] w fun e w' => e = .returned (.agg #[.int .i64 k, .int .i64 (aimA k A p), .int .i64 (aimB k B p), .int .i64 C]) ∧ w.grownBy w' none := by
  by_cases h8 : k = 8
  · subst h8
    go_enter Try.func20, Try.ntmps20
    go_wp2_with fail
    exact bodyPost_ret (v := .agg #[.int .i64 8, .int .i64 p, .int .i64 B, .int .i64 C]) (by simp [results, Try.results20, go_sem]) rfl ⟨rfl, g_alloc (g_alloc (g_refl _ _) _) _⟩
  · by_cases h9 : k = 9
    · subst h9
      go_enter Try.func20, Try.ntmps20
      go_wp2_with fail
      exact bodyPost_ret (v := .agg #[.int .i64 9, .int .i64 A, .int .i64 p, .int .i64 C]) (by simp [results, Try.results20, go_sem]) rfl ⟨rfl, g_alloc (g_alloc (g_refl _ _) _) _⟩
    · have q8 : (k == 8) = false := by simp [h8]
      have q9 : (k == 9) = false := by simp [h9]
      have e1 : aimA k A p = A := by unfold aimA; rw [if_neg h8]
      have e2 : aimB k B p = B := by unfold aimB; rw [if_neg h9]
      rw [e1, e2]
      clear h8 h9 e1 e2
      go_enter Try.func20, Try.ntmps20
      go_wp2_with fail
      exact bodyPost_ret (v := .agg #[.int .i64 k, .int .i64 A, .int .i64 B, .int .i64 C]) (by simp [results, Try.results20, go_sem]) rfl ⟨rfl, g_alloc (g_alloc (g_refl _ _) _) _⟩
end Go.Proofs.Ytcjeiafhcpgaoaa
