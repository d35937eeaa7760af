/- Names, which turn registers alone, targets. -/
import Derived.Test.YtfobfcnbbafplaaD
namespace Go.Proofs.Ytfobfcnbbafplaa
open Go.RowKit
set_option linter.unusedVariables false


/-- does a kind turn registers alone? -/
def locB (k : Int) : Bool := decide (1 ≤ k ∧ k ≤ 10 ∨ k = 19)

/-- a kind's name -/
def nmI (k : Int) : ByteArray := if 1 ≤ k ∧ k ≤ 20 then nmB k.toNat else { data := #[] }
theorem nmI_in {k : Nat} (h1 : 1 ≤ k) (h2 : k ≤ 20) : nmI k = nmB k := by unfold nmI; rw [if_pos (by omega), Int.toNat_natCast]
theorem nmI_out {k : Int} (h : k < 1 ∨ 20 < k) : nmI k = { data := #[] } := by unfold nmI; rw [if_neg (by omega)]
/-- a kind's number, or none -/
theorem kind_cases (k : Int) : (∃ n : Nat, k = n ∧ 1 ≤ n ∧ n ≤ 20) ∨ (k < 1 ∨ 20 < k) := by
  by_cases h : 1 ≤ k ∧ k ≤ 20
  · exact .inl ⟨k.toNat, by omega, by omega, by omega⟩
  · exact .inr (by omega)

def N21 : Array Value := #[.string { data := #[] }, .string { data := #[99, 111, 110, 115, 116] }, .string { data := #[110, 105, 108] }, .string { data := #[109, 111, 118, 101] }, .string { data := #[97, 100, 100] }, .string { data := #[115, 117, 98] }, .string { data := #[108, 101, 115, 115] }, .string { data := #[101, 113] }, .string { data := #[106, 117, 109, 112] }, .string { data := #[106, 117, 109, 112, 122] }, .string { data := #[114, 111, 111, 116] }, .string { data := #[110, 101, 119] }, .string { data := #[102, 114, 101, 101] }, .string { data := #[103, 101, 116] }, .string { data := #[115, 101, 116] }, .string { data := #[98, 101, 103, 105, 110] }, .string { data := #[101, 108, 115, 101] }, .string { data := #[101, 110, 100] }, .string { data := #[114, 101, 116, 114, 121] }, .string { data := #[101, 109, 105, 116] }, .string { data := #[104, 97, 108, 116] }]
theorem n21 {k : Nat} (h1 : 1 ≤ k) (h2 : k ≤ 20) : N21[k]? = some (.string (nmB k)) := by
  rcases kinds h1 h2 with rfl | rfl | rfl | rfl | rfl | rfl | rfl | rfl | rfl | rfl | rfl | rfl | rfl | rfl | rfl | rfl | rfl | rfl | rfl | rfl <;> rfl

/-- a jump's place -/
def tgt (k A B : Int) : Int := if k = 8 then A else if k = 9 then B else 0
def isJ (k : Int) : Bool := decide (k = 8 ∨ k = 9)

set_option maxHeartbeats 1600000 in
theorem target_any (k A B C : Int) (w : World) : Calls Try.prog 37 #[.agg #[.int .i64 k, .int .i64 A, .int .i64 B, .int .i64 C]] w fun e w' => e = .returned (.tuple #[.int .i64 (tgt k A B), .bool (isJ k)]) ∧ w.grownBy w' none := by
  by_cases h8 : k = 8
  · subst h8
    go_enter Try.func37, Try.ntmps37
    go_wp2_with fail
    go_ret2
    exact ⟨rfl, g_alloc (g_refl _ _) _⟩
  · by_cases h9 : k = 9
    · subst h9
      go_enter Try.func37, Try.ntmps37
      go_wp2_with fail
      go_ret2
      exact ⟨rfl, g_alloc (g_refl _ _) _⟩
    · have q8 : (k == 8) = false := by simp [h8]
      have q9 : (k == 9) = false := by simp [h9]
      have e1 : tgt k A B = 0 := by unfold tgt; rw [if_neg h8, if_neg h9]
      have e2 : isJ k = false := decide_eq_false (by omega)
      rw [e1, e2]
      clear h8 h9 e1 e2
      go_enter Try.func37, Try.ntmps37
      go_wp2_with fail
      go_ret2
      exact ⟨rfl, g_alloc (g_refl _ _) _⟩

set_option maxHeartbeats 1600000 in
theorem rtarget_any (k A B C : Int) (w : World) : Calls Try.prog 17 #[.agg #[.int .i64 k, .int .i64 A, .int .i64 B, .int .i64 C]] w fun e w' => e = .returned (.tuple #[.int .i64 (tgt k A B), .bool (isJ k)]) ∧ w.grownBy w' none := by
  by_cases h8 : k = 8
  · subst h8
    go_enter Try.func17, Try.ntmps17
    go_wp2_with fail
    go_ret2
    exact ⟨rfl, g_alloc (g_refl _ _) _⟩
  · by_cases h9 : k = 9
    · subst h9
      go_enter Try.func17, Try.ntmps17
      go_wp2_with fail
      go_ret2
      exact ⟨rfl, g_alloc (g_refl _ _) _⟩
    · have q8 : (k == 8) = false := by simp [h8]
      have q9 : (k == 9) = false := by simp [h9]
      have e1 : tgt k A B = 0 := by unfold tgt; rw [if_neg h8, if_neg h9]
      have e2 : isJ k = false := decide_eq_false (by omega)
      rw [e1, e2]
      clear h8 h9 e1 e2
      go_enter Try.func17, Try.ntmps17
      go_wp2_with fail
      go_ret2
      exact ⟨rfl, g_alloc (g_refl _ _) _⟩

/-- an instruction with another place -/
def aimA (k A p : Int) : Int := if k = 8 then p else A
def aimB (k B p : Int) : Int := if k = 9 then p else B

set_option maxHeartbeats 1600000 in
theorem raim_any (k A B C p : Int) (w : World) : Calls Try.prog 19 #[.agg #[.int .i64 k, .int .i64 A, .int .i64 B, .int .i64 C], .int .i64 p] w fun e w' => e = .returned (.agg #[.int .i64 k, .int .i64 (aimA k A p), .int .i64 (aimB k B p), .int .i64 C]) ∧ w.grownBy w' none := by
  by_cases h8 : k = 8
  · subst h8
    go_enter Try.func19, Try.ntmps19
    go_wp2_with fail
    exact bodyPost_ret (v := .agg #[.int .i64 8, .int .i64 p, .int .i64 B, .int .i64 C]) (by simp [results, Try.results19, go_sem]) rfl ⟨rfl, g_alloc (g_alloc (g_refl _ _) _) _⟩
  · by_cases h9 : k = 9
    · subst h9
      go_enter Try.func19, Try.ntmps19
      go_wp2_with fail
      exact bodyPost_ret (v := .agg #[.int .i64 9, .int .i64 A, .int .i64 p, .int .i64 C]) (by simp [results, Try.results19, go_sem]) rfl ⟨rfl, g_alloc (g_alloc (g_refl _ _) _) _⟩
    · have q8 : (k == 8) = false := by simp [h8]
      have q9 : (k == 9) = false := by simp [h9]
      have e1 : aimA k A p = A := by unfold aimA; rw [if_neg h8]
      have e2 : aimB k B p = B := by unfold aimB; rw [if_neg h9]
      rw [e1, e2]
      clear h8 h9 e1 e2
      go_enter Try.func19, Try.ntmps19
      go_wp2_with fail
      exact bodyPost_ret (v := .agg #[.int .i64 k, .int .i64 A, .int .i64 B, .int .i64 C]) (by simp [results, Try.results19, go_sem]) rfl ⟨rfl, g_alloc (g_alloc (g_refl _ _) _) _⟩
end Go.Proofs.Ytfobfcnbbafplaa

