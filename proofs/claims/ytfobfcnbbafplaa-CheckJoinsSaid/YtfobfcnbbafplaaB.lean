/- A kind's form; what fits. -/
import Derived.Test.YtfobfcnbbafplaaA
namespace Go.Proofs.Ytfobfcnbbafplaa
open Go.RowKit
set_option linter.unusedVariables false


def nmB : Nat → ByteArray
  | 1 => { data := #[99, 111, 110, 115, 116] }
  | 2 => { data := #[110, 105, 108] }
  | 3 => { data := #[109, 111, 118, 101] }
  | 4 => { data := #[97, 100, 100] }
  | 5 => { data := #[115, 117, 98] }
  | 6 => { data := #[108, 101, 115, 115] }
  | 7 => { data := #[101, 113] }
  | 8 => { data := #[106, 117, 109, 112] }
  | 9 => { data := #[106, 117, 109, 112, 122] }
  | 10 => { data := #[114, 111, 111, 116] }
  | 11 => { data := #[110, 101, 119] }
  | 12 => { data := #[102, 114, 101, 101] }
  | 13 => { data := #[103, 101, 116] }
  | 14 => { data := #[115, 101, 116] }
  | 15 => { data := #[98, 101, 103, 105, 110] }
  | 16 => { data := #[101, 108, 115, 101] }
  | 17 => { data := #[101, 110, 100] }
  | 18 => { data := #[114, 101, 116, 114, 121] }
  | 19 => { data := #[101, 109, 105, 116] }
  | 20 => { data := #[104, 97, 108, 116] }
  | _ => { data := #[] }
def sA : Nat → Int
  | 1 => 1
  | 2 => 1
  | 3 => 1
  | 4 => 1
  | 5 => 1
  | 6 => 1
  | 7 => 1
  | 8 => 3
  | 9 => 1
  | 10 => 1
  | 11 => 1
  | 12 => 1
  | 13 => 1
  | 14 => 1
  | 19 => 1
  | _ => 0
def sB : Nat → Int
  | 1 => 2
  | 3 => 1
  | 4 => 1
  | 5 => 1
  | 6 => 1
  | 7 => 1
  | 9 => 3
  | 11 => 5
  | 13 => 1
  | 14 => 4
  | _ => 0
def sC : Nat → Int
  | 4 => 1
  | 5 => 1
  | 6 => 1
  | 7 => 1
  | 11 => 6
  | 13 => 4
  | 14 => 1
  | _ => 0
theorem kinds {k : Nat} (h1 : 1 ≤ k) (h2 : k ≤ 20) : k = 1 ∨ k = 2 ∨ k = 3 ∨ k = 4 ∨ k = 5 ∨ k = 6 ∨ k = 7 ∨ k = 8 ∨ k = 9 ∨ k = 10 ∨ k = 11 ∨ k = 12 ∨ k = 13 ∨ k = 14 ∨ k = 15 ∨ k = 16 ∨ k = 17 ∨ k = 18 ∨ k = 19 ∨ k = 20 := by omega
theorem sorts_lt (k : Nat) : 0 ≤ sA k ∧ sA k ≤ 6 ∧ 0 ≤ sB k ∧ sB k ≤ 6 ∧ 0 ≤ sC k ∧ sC k ≤ 6 := by
  by_cases h : 1 ≤ k ∧ k ≤ 20
  · rcases kinds h.1 h.2 with rfl | rfl | rfl | rfl | rfl | rfl | rfl | rfl | rfl | rfl | rfl | rfl | rfl | rfl | rfl | rfl | rfl | rfl | rfl | rfl <;> decide
  · have e : sA k = 0 ∧ sB k = 0 ∧ sC k = 0 := by
      refine ⟨?_, ?_, ?_⟩
      · unfold sA; split <;> first | omega | rfl
      · unfold sB; split <;> first | omega | rfl
      · unfold sC; split <;> first | omega | rfl
    omega
theorem ix61 {k : Nat} (h1 : 1 ≤ k) (h2 : k ≤ 20) (w : World) : (Instr.index 91 (.agg F84) (.int .i64 k)).run Try.prog w = .ok (.agg #[.string (nmB k), .int .i64 (sA k), .int .i64 (sB k), .int .i64 (sC k)]) w := by
  rcases kinds h1 h2 with rfl | rfl | rfl | rfl | rfl | rfl | rfl | rfl | rfl | rfl | rfl | rfl | rfl | rfl | rfl | rfl | rfl | rfl | rfl | rfl <;> kernel_rfl

set_option maxRecDepth 100000 in
set_option maxHeartbeats 1600000 in
theorem of_ok (k : Nat) (h1 : 1 ≤ k) (h2 : k ≤ 20) (w : World) : Calls Try.prog 46 #[.int .i64 k] w fun e w' => e = .returned (.tuple #[.agg #[.string (nmB k), .int .i64 (sA k), .int .i64 (sB k), .int .i64 (sC k)], .bool true]) ∧ w.grownBy w' none := by
  have hix := ix61 h1 h2
  generalize nmB k = nm at *
  generalize sA k = s0 at *
  generalize sB k = s1 at *
  generalize sC k = s2 at *
  have hb := Blk.new w #[.string { data := #[] }, .int .i64 0, .int .i64 0, .int .i64 0] 87
  have g0 := g_alloc (g_refl w none) (.cells #[.string { data := #[] }, .int .i64 0, .int .i64 0, .int .i64 0] 87)
  have hk1 : (1 : Int) ≤ k := by omega
  have hk2 : (k : Int) ≤ 20 := by omega
  have HB := Lib.hid hb
  clear hb
  go_enter Try.func46, Try.ntmps46
  go_wp2_with fail
  refine (forms_any _).mono ?_
  rintro e w1 ⟨rfl, hg⟩
  have R := Lib.hid (HB.out.keepn hg)
  have r0 := R.out.cell 0 (.string { data := #[] }) rfl
  have r1 := R.out.cell 1 (.int .i64 0) rfl
  have r2 := R.out.cell 2 (.int .i64 0) rfl
  have r3 := R.out.cell 3 (.int .i64 0) rfl
  have f0 := R.out.free 0
  have f1 := R.out.free 1
  have f2 := R.out.free 2
  have f3 := R.out.free 3
  go_wp2_with fail
  have hF := (((R.out.set 0 (.string nm)).set 1 (.int .i64 s0)).set 2 (.int .i64 s1)).set 3 (.int .i64 s2)
  have k0 := hF.cell 0 (.string nm) (by simp)
  have k1 := hF.cell 1 (.int .i64 s0) (by simp)
  have k2 := hF.cell 2 (.int .i64 s1) (by simp)
  have k3 := hF.cell 3 (.int .i64 s2) (by simp)
  have gs := g_set (g_set (g_set (g_set (g_refl w1 (some w.heap.size)) (p := ⟨w.heap.size, 0, none⟩) (.inl rfl) (.string nm)) (p := ⟨w.heap.size, 1, none⟩) (.inl rfl) (.int .i64 s0)) (p := ⟨w.heap.size, 2, none⟩) (.inl rfl) (.int .i64 s1)) (p := ⟨w.heap.size, 3, none⟩) (.inl rfl) (.int .i64 s2)
  exact bodyPost_ret (v := .tuple #[.agg #[.string nm, .int .i64 s0, .int .i64 s1, .int .i64 s2], .bool true]) (by simp [results, Try.results46, go_sem, k0, k1, k2, k3]) rfl ⟨rfl, g_in (g_trans g0 hg) gs (Nat.le_refl _)⟩

set_option maxRecDepth 100000 in
set_option maxHeartbeats 1600000 in
theorem of_bad (k : Int) (h : k < 1 ∨ 20 < k) (w : World) : Calls Try.prog 46 #[.int .i64 k] w fun e w' => e = .returned (.tuple #[.agg #[.string { data := #[] }, .int .i64 0, .int .i64 0, .int .i64 0], .bool false]) ∧ w.grownBy w' none := by
  have hb := Blk.new w #[.string { data := #[] }, .int .i64 0, .int .i64 0, .int .i64 0] 87
  have k0 := hb.cell 0 (.string { data := #[] }) rfl
  have k1 := hb.cell 1 (.int .i64 0) rfl
  have k2 := hb.cell 2 (.int .i64 0) rfl
  have k3 := hb.cell 3 (.int .i64 0) rfl
  have hb' := hb
  clear hb
  rcases h with h | h
  all_goals
    go_enter Try.func46, Try.ntmps46
    go_wp2_with fail
    exact bodyPost_ret (v := .tuple #[.agg #[.string { data := #[] }, .int .i64 0, .int .i64 0, .int .i64 0], .bool false]) (by simp [results, Try.results46, go_sem]) rfl ⟨rfl, g_alloc (g_refl _ _) _⟩
end Go.Proofs.Ytfobfcnbbafplaa

