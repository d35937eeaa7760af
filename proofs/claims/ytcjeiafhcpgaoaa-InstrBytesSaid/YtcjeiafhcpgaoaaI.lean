/- How many things a kind has. -/
import Derived.Test.YtcjeiafhcpgaoaaF
namespace Go.Proofs.Ytcjeiafhcpgaoaa
open Go.RowKit
set_option linter.unusedVariables false

theorem ix47' (A B C : Int) {k : Nat} (hk : k < 3) (w : World) : (Instr.index 47 (.agg #[.int .i64 A, .int .i64 B, .int .i64 C]) (.int .i64 k)).run Try.prog w = .ok (.int .i64 (pick3 A B C k)) w := by
  rcases (by omega : k = 0 ∨ k = 1 ∨ k = 2) with rfl | rfl | rfl <;> kernel_rfl
def one (s : Int) : Int := if s = 0 then 0 else 1
/-- how many of the first k are there -/
def cnt (s0 s1 s2 : Int) : Nat → Int
  | 0 => 0
  | 1 => one s0
  | 2 => one s0 + one s1
  | _ => one s0 + one s1 + one s2
theorem cnt_succ (s0 s1 s2 : Int) {k : Nat} (hk : k < 3) : cnt s0 s1 s2 (k + 1) = cnt s0 s1 s2 k + one (pick3 s0 s1 s2 k) := by
  match k, hk with
  | 0, _ => simp [cnt, pick3]
  | 1, _ => simp [cnt, pick3]
  | 2, _ => simp [cnt, pick3]
theorem cnt_le (s0 s1 s2 : Int) (k : Nat) : 0 ≤ cnt s0 s1 s2 k ∧ cnt s0 s1 s2 k ≤ 3 := by
  have h : ∀ s, 0 ≤ one s ∧ one s ≤ 1 := fun s => by unfold one; split <;> omega
  have := h s0
  have := h s1
  have := h s2
  unfold cnt
  split <;> omega
/-- how many things a kind has -/
def opsI (k : Int) : Int := if 1 ≤ k ∧ k ≤ 20 then cnt (sA k.toNat) (sB k.toNat) (sC k.toNat) 3 else 0
theorem opsI_in {k : Nat} (h1 : 1 ≤ k) (h2 : k ≤ 20) : opsI k = cnt (sA k) (sB k) (sC k) 3 := by unfold opsI; rw [if_pos (by omega), Int.toNat_natCast]
theorem opsI_out {k : Int} (h : k < 1 ∨ 20 < k) : opsI k = cnt 0 0 0 3 := by unfold opsI; rw [if_neg (by omega)]; rfl

set_option maxHeartbeats 1600000 in
theorem operands_core (k : Int) (nm : ByteArray) (s0 s1 s2 : Int) (ok : Bool) (HF : ∀ w, Calls Try.prog 28 #[.int .i64 k] w fun e w' => e = .returned (.tuple #[(.agg #[.string nm, .int .i64 s0, .int .i64 s1, .int .i64 s2]), .bool ok]) ∧ w.grownBy w' none) (w : World) :
    Calls Try.prog 26 #[.int .i64 k] w fun e w' => e = .returned (.int .i64 (cnt s0 s1 s2 3)) ∧ w.grownBy w' none := by
  have HF := Lib.hid HF
  go_enter Try.func26, Try.ntmps26
  go_wp2_with fail
  refine (HF.out _).mono ?_
  rintro e w1 ⟨rfl, hg⟩
  have g2 := g_alloc (g_refl w1 none) (.cells #[.string nm, .int .i64 s0, .int .i64 s1, .int .i64 s2] 49)
  have fb := Blk.new w1 #[.string nm, .int .i64 s0, .int .i64 s1, .int .i64 s2] 49
  have gA := g_trans hg g2
  go_wp2_with fail
  generalize (w1.alloc (.cells #[.string nm, .int .i64 s0, .int .i64 s1, .int .i64 s2] 49)) = W2 at *
  have FB := Lib.hid fb
  have hcl : ∀ j, j < 3 → W2.cell? ⟨w1.heap.size, 1 + j, none⟩ = some (.int .i64 (pick3 s0 s1 s2 j)) := fun j hj => by
    rcases (by omega : j = 0 ∨ j = 1 ∨ j = 2) with rfl | rfl | rfl
    · exact FB.out.cell 1 _ rfl
    · exact FB.out.cell 2 _ rfl
    · exact FB.out.cell 3 _ rfl
  have HCL := Lib.hid hcl
  clear fb hcl hg g2
  trace_state
  go_loopw [5, 15] (fun a i wr => ∃ j : Nat, j ≤ 3 ∧ i = .int .i64 j ∧ a = .int .i64 (cnt s0 s1 s2 j) ∧ W2.grownBy wr none) (fun _ i _ => (10 - intOf i).toNat)
  case atStart => exact ⟨0, by omega, rfl, rfl, g_refl _ _⟩
  case round =>
    obtain ⟨j, hj, rfl, rfl, hgr⟩ := hrel
    by_cases hlt : j < 3
    · have hix := ix47' s0 s1 s2 hlt
      have hc := hgr.cell (HCL.out j hlt) (by simp)
      have hse := cnt_succ s0 s1 s2 hlt
      have hle := cnt_le s0 s1 s2 j
      have hjb : (j : Int) < 3 := by omega
      obtain ⟨hle0, hle1⟩ := hle
      generalize pick3 s0 s1 s2 j = sj at *
      generalize cnt s0 s1 s2 j = cj at *
      have HGR := Lib.hid hgr
      by_cases hz : sj = 0
      · have h1 : one sj = 0 := by unfold one; rw [if_pos hz]
        rw [h1] at hse
        have HSE := Lib.hid hse
        subst hz
        clear hse h1 hgr
        go_wp2_with fail
        go_roundw
        case rel => exact ⟨j + 1, by omega, by go_num, by rw [HSE.out]; go_num, HGR.out⟩
        case measure => simp [intOf]; omega
      · have h1 : one sj = 1 := by unfold one; rw [if_neg hz]
        rw [h1] at hse
        have HSE := Lib.hid hse
        have q : (sj != 0) = true := by simp [hz]
        clear hse h1 hgr hz
        go_wp2_with fail
        go_roundw
        case rel => exact ⟨j + 1, by omega, by go_num, by rw [HSE.out], HGR.out⟩
        case measure => simp [intOf]; omega
    · obtain rfl : j = 3 := by omega
      have HGR := Lib.hid hgr
      clear hgr
      go_wp2_with fail
      go_ret
      exact ⟨rfl, g_trans gA HGR.out⟩

theorem operands_any (k : Int) (w : World) : Calls Try.prog 26 #[.int .i64 k] w fun e w' => e = .returned (.int .i64 (opsI k)) ∧ w.grownBy w' none := by
  rcases kind_cases k with ⟨n, rfl, h1, h2⟩ | h
  · rw [opsI_in h1 h2]
    exact operands_core _ (nmB n) _ _ _ _ (fun w => of_ok n h1 h2 w) w
  · rw [opsI_out h]
    exact operands_core _ { data := #[] } _ _ _ _ (fun w => of_bad k h w) w

set_option maxHeartbeats 1600000 in
theorem roperands_core (k : Int) (nm : ByteArray) (s0 s1 s2 : Int) (ok : Bool) (HF : ∀ w, Calls Try.prog 31 #[.int .i64 k] w fun e w' => e = .returned (.tuple #[(.agg #[.int .i64 s0, .int .i64 s1, .int .i64 s2]), .bool ok]) ∧ w.grownBy w' none) (w : World) :
    Calls Try.prog 27 #[.int .i64 k] w fun e w' => e = .returned (.int .i64 (cnt s0 s1 s2 3)) ∧ w.grownBy w' none := by
  have HF := Lib.hid HF
  go_enter Try.func27, Try.ntmps27
  go_wp2_with fail
  refine (HF.out _).mono ?_
  rintro e w1 ⟨rfl, hg⟩
  have g2 := g_alloc (g_refl w1 none) (.cells #[.int .i64 s0, .int .i64 s1, .int .i64 s2] 52)
  have fb := Blk.new w1 #[.int .i64 s0, .int .i64 s1, .int .i64 s2] 52
  have gA := g_trans hg g2
  go_wp2_with fail
  generalize (w1.alloc (.cells #[.int .i64 s0, .int .i64 s1, .int .i64 s2] 52)) = W2 at *
  have FB := Lib.hid fb
  have hcl : ∀ j, j < 3 → W2.cell? ⟨w1.heap.size, j, none⟩ = some (.int .i64 (pick3 s0 s1 s2 j)) := fun j hj => by
    rcases (by omega : j = 0 ∨ j = 1 ∨ j = 2) with rfl | rfl | rfl
    · exact FB.out.cell 0 _ rfl
    · exact FB.out.cell 1 _ rfl
    · exact FB.out.cell 2 _ rfl
  have HCL := Lib.hid hcl
  clear fb hcl hg g2
  trace_state
  go_loopw [5, 6] (fun a i wr => ∃ j : Nat, j ≤ 3 ∧ i = .int .i64 j ∧ a = .int .i64 (cnt s0 s1 s2 j) ∧ W2.grownBy wr none) (fun _ i _ => (10 - intOf i).toNat)
  case atStart => exact ⟨0, by omega, rfl, rfl, g_refl _ _⟩
  case round =>
    obtain ⟨j, hj, rfl, rfl, hgr⟩ := hrel
    by_cases hlt : j < 3
    · have hix := ix47' s0 s1 s2 hlt
      have hc := hgr.cell (HCL.out j hlt) (by simp)
      have hse := cnt_succ s0 s1 s2 hlt
      have hle := cnt_le s0 s1 s2 j
      have hjb : (j : Int) < 3 := by omega
      obtain ⟨hle0, hle1⟩ := hle
      generalize pick3 s0 s1 s2 j = sj at *
      generalize cnt s0 s1 s2 j = cj at *
      have HGR := Lib.hid hgr
      by_cases hz : sj = 0
      · have h1 : one sj = 0 := by unfold one; rw [if_pos hz]
        rw [h1] at hse
        have HSE := Lib.hid hse
        subst hz
        clear hse h1 hgr
        go_wp2_with fail
        go_roundw
        case rel => exact ⟨j + 1, by omega, by go_num, by rw [HSE.out]; go_num, HGR.out⟩
        case measure => simp [intOf]; omega
      · have h1 : one sj = 1 := by unfold one; rw [if_neg hz]
        rw [h1] at hse
        have HSE := Lib.hid hse
        have q : (sj != 0) = true := by simp [hz]
        clear hse h1 hgr hz
        go_wp2_with fail
        go_roundw
        case rel => exact ⟨j + 1, by omega, by go_num, by rw [HSE.out], HGR.out⟩
        case measure => simp [intOf]; omega
    · obtain rfl : j = 3 := by omega
      have HGR := Lib.hid hgr
      clear hgr
      go_wp2_with fail
      go_ret
      exact ⟨rfl, g_trans gA HGR.out⟩

theorem roperands_any (k : Int) (w : World) : Calls Try.prog 27 #[.int .i64 k] w fun e w' => e = .returned (.int .i64 (opsI k)) ∧ w.grownBy w' none := by
  rcases kind_cases k with ⟨n, rfl, h1, h2⟩ | h
  · rw [opsI_in h1 h2]
    exact roperands_core _ (nmB n) _ _ _ _ (fun w => has_ok n h1 h2 w) w
  · rw [opsI_out h]
    exact roperands_core _ { data := #[] } _ _ _ _ (fun w => has_bad k h w) w
end Go.Proofs.Ytcjeiafhcpgaoaa
