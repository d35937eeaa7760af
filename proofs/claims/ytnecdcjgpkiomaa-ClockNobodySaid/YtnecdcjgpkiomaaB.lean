/- The laws on clocks: awake. -/
import Derived.Test.YtnecdcjgpkiomaaA
import Derived.Test.YtnecdcjgpkiomaaShapes
namespace Go.Proofs.Ytnecdcjgpkiomaa
open Go.RowKit

set_option maxHeartbeats 400000 in
theorem awake_any (w : World) :
    Calls Try.prog 8 #[] w fun e w' => e = .returned (.bool true) ∧ w.grownBy w' none := by
  go_enter Try.func8, Try.ntmps8
  go_wp2_with fail
  refine (new_ok _ _ (by omega) (by omega)).mono ?_
  rintro e w1 ⟨rfl, hc1, hg1⟩
  go_wp2_with fail
  refine (next_any _ _ _ _ _ (by assumption) (by first | assumption | rfl) (by omega) (by omega)).mono ?_
  rintro e w' ⟨rfl, hc, hg⟩
  go_wp2_with fail
  refine (next_any _ _ _ _ _ (by assumption) (by first | assumption | rfl) (by omega) (by omega)).mono ?_
  rintro e w'' ⟨rfl, hc', hg'⟩
  go_wp2_with fail
  refine (full_any _ _ _ _ _ hc' rfl).mono ?_
  rintro e w3 ⟨rfl, m, rfl⟩
  go_wp2_with fail
  refine (next_any _ _ _ _ _ (hc'.drewN m) rfl (by omega) (by omega)).mono ?_
  rintro e w4 ⟨rfl, hc4, hg4⟩
  go_wp2_with fail
  refine (stamp_any _ _ _ _ _ hc4 rfl (by omega) (by omega)).mono ?_
  rintro e w5 ⟨rfl, hc5, hg5⟩
  go_wp2_with fail
  go_ret
  exact ⟨rfl, g_in (g_in (g_drewN (g_in (g_in hg1 hg (Nat.le_refl _)) hg' (Nat.le_refl _)) m) hg4 (Nat.le_refl _)) hg5 (Nat.le_refl _)⟩

set_option maxHeartbeats 400000 in
theorem walk_ClockFull (a0 : Int) (w : World) (w0 : (Lit.int .u8 a0).wf = true) :
    Calls Try.prog 3 #[.int .u8 a0] w fun e w' => e = .returned (.bool true) ∧ Below w.heap.size w w' := by
  have hx : 0 ≤ a0 ∧ a0 ≤ 255 := by simpa [Lit.wf, IntKind.min, IntKind.max, IntKind.signed, IntKind.bits] using w0
  clear w0
  obtain ⟨ha, hb⟩ := hx
  have hl0 : ((1 + a0) == 0) = false := by rw [beq_eq_false_iff_ne]; omega
  go_enter Try.func3, Try.ntmps3
  go_wp2_with fail
  refine (new_ok _ _ (by omega) (by omega)).mono ?_
  rintro e w1 ⟨rfl, hc1, hg1⟩
  go_wp2_with fail
  refine (awake_any _).mono ?_
  rintro e w2 ⟨rfl, hg2⟩
  go_wp2_with fail
  have hB : Below w.heap.size w w2 := below_gn (below_gn (Below.refl _ _) hg1 (Nat.le_refl _)) hg2 hg1.size
  have hc2 := hc1.keep hg2
  clear hc1 hg1 hg2
  go_loopw [6] (fun i wr => ∃ k : Nat, (k : Int) ≤ 4 + a0 ∧ i = .int .i64 k ∧ Clk wr w.heap.size (1 + a0) k 0 ∧ Below w.heap.size w wr) (fun i _ => (300 - intOf i).toNat)
  case atStart => exact ⟨0, by omega, rfl, hc2, hB⟩
  case round =>
    obtain ⟨k, hk, rfl, hc, hb⟩ := hrel
    clear hc2 hB
    by_cases hlt : (k : Int) < 1 + a0 + 3
    · go_wp2_with fail
      refine (full_any _ _ _ _ _ hc hl0).mono ?_
      rintro e w3 ⟨rfl, m3, rfl⟩
      by_cases hle : 1 + a0 ≤ (k : Int)
      · go_wp2_with fail
        refine ((left_hi _ _ _ _ _ (hc.drewN _) hl0 (by omega) (by omega) (by omega) (by omega) hle)).mono ?_
        rintro e w4 ⟨rfl, m4, rfl⟩
        go_wp2_with fail
        refine (next_any _ _ _ _ _ (hc.drewN _) hl0 (by omega) (by omega)).mono ?_
        rintro e w5 ⟨rfl, hc5, hg5⟩
        go_wp2_with fail
        go_roundw
        case rel => exact ⟨k + 1, by omega, by go_num, hc5, below_gs (below_drewN hb _) hg5 hb.size (Nat.le_refl _)⟩
        case measure => simp [intOf]; omega
      · go_wp2_with fail
        refine ((left_lo _ _ _ _ _ (hc.drewN _) hl0 (by omega) (by omega) (by omega) (by omega) (by omega))).mono ?_
        rintro e w4 ⟨rfl, m4, rfl⟩
        go_wp2_with fail
        refine (next_any _ _ _ _ _ (hc.drewN _) hl0 (by omega) (by omega)).mono ?_
        rintro e w5 ⟨rfl, hc5, hg5⟩
        go_wp2_with fail
        go_roundw
        case rel => exact ⟨k + 1, by omega, by go_num, hc5, below_gs (below_drewN hb _) hg5 hb.size (Nat.le_refl _)⟩
        case measure => simp [intOf]; omega
    · go_wp2
      go_ret
      exact ⟨rfl, hb⟩

set_option maxHeartbeats 400000 in
theorem walk_ClockRises (a0 : Option Addr) (a0n a0c : Nat) (w : World) (w0 : Vec w a0 a0n a0c 1 (Q4)) :
    Calls Try.prog 4 #[.slice a0 a0n a0c] w fun e w' => e = .returned (.bool true) ∧ Below w.heap.size w w' := by
  have hm : a0n ≤ 9223372036854775807 := by have := w0.1; have := w0.2.1; unfold maxLen at this; omega
  have hl0 : ((5 : Int) == 0) = false := rfl
  go_enter Try.func4, Try.ntmps4
  go_wp2_with fail
  refine (new_ok _ _ (by omega) (by omega)).mono ?_
  rintro e w1 ⟨rfl, hc1, hg1⟩
  go_wp2_with fail
  refine (awake_any _).mono ?_
  rintro e w2 ⟨rfl, hg2⟩
  go_wp2_with fail
  have hB : Below w.heap.size w w2 := below_gn (below_gn (Below.refl _ _) hg1 (Nat.le_refl _)) hg2 hg1.size
  have hc2 := hc1.keep hg2
  clear hc1 hg1 hg2
  go_loopw [5] (fun i wr => ∃ (k : Nat) (n s : Int), k ≤ a0n ∧ k ≤ 100 ∧ i = .int .i64 k ∧ 0 ≤ n ∧ n ≤ k ∧ 0 ≤ s ∧ s ≤ k ∧ Clk wr w.heap.size 5 n s ∧ Below w.heap.size w wr) (fun i _ => (300 - intOf i).toNat)
  case atStart => exact ⟨0, 0, 0, by omega, by omega, rfl, by omega, by omega, by omega, by omega, hc2, hB⟩
  case round =>
    obtain ⟨k, n, s, hk, hk2, rfl, n0, n1, s0, s1, hc, hb⟩ := hrel
    clear hc2 hB
    by_cases hlt : k < a0n
    · by_cases hlt2 : k < 100
      · obtain ⟨b, off, v, rfl, ⟨z, hz⟩, hv⟩ := w0.at1 k hlt
        simp only [List.cons.injEq, and_true] at hz
        subst hz
        have hcell : wr.cell? ⟨b, off + k, none⟩ = some (.bool z) := (hb.cell (World.block_lt_of_cell? _ _ hv)).trans hv
        clear hv
        cases z
        · go_wp2_with fail
          refine (now_any _ _ _ _ _ hc hl0).mono ?_
          rintro e w3 ⟨rfl, m3, rfl⟩
          go_wp2_with fail
          refine (last_any _ _ _ _ _ (hc.drewN _) hl0).mono ?_
          rintro e w4 ⟨rfl, m4, rfl⟩
          go_wp2_with fail
          refine (stamp_any _ _ _ _ _ (hc.drewN _) hl0 (by omega) (by omega)).mono ?_
          rintro e w5 ⟨rfl, hc5, hg5⟩
          go_wp2_with fail
          refine (last_any _ _ _ _ _ hc5 hl0).mono ?_
          rintro e w6 ⟨rfl, m6, rfl⟩
          go_wp2_with fail
          refine (now_any _ _ _ _ _ (hc5.drewN _) hl0).mono ?_
          rintro e w7 ⟨rfl, m7, rfl⟩
          go_wp2_with fail
          go_roundw
          case rel => exact ⟨k + 1, n, s + 1, by omega, by omega, by go_num, by omega, by omega, by omega, by omega, hc5, below_drewN (below_gs (below_drewN hb _) hg5 hb.size (Nat.le_refl _)) _⟩
          case measure => simp [intOf]; omega
        · go_wp2_with fail
          refine (now_any _ _ _ _ _ hc hl0).mono ?_
          rintro e w3 ⟨rfl, m3, rfl⟩
          go_wp2_with fail
          refine (last_any _ _ _ _ _ (hc.drewN _) hl0).mono ?_
          rintro e w4 ⟨rfl, m4, rfl⟩
          go_wp2_with fail
          refine (next_any _ _ _ _ _ (hc.drewN _) hl0 (by omega) (by omega)).mono ?_
          rintro e w5 ⟨rfl, hc5, hg5⟩
          go_wp2_with fail
          refine (now_any _ _ _ _ _ hc5 hl0).mono ?_
          rintro e w6 ⟨rfl, m6, rfl⟩
          go_wp2_with fail
          refine (last_any _ _ _ _ _ (hc5.drewN _) hl0).mono ?_
          rintro e w7 ⟨rfl, m7, rfl⟩
          go_wp2_with fail
          go_roundw
          case rel => exact ⟨k + 1, n + 1, s, by omega, by omega, by go_num, by omega, by omega, by omega, by omega, hc5, below_drewN (below_gs (below_drewN hb _) hg5 hb.size (Nat.le_refl _)) _⟩
          case measure => simp [intOf]; omega
      · go_wp2
        go_ret
        exact ⟨rfl, hb⟩
    · go_wp2
      go_ret
      exact ⟨rfl, hb⟩
end Go.Proofs.Ytnecdcjgpkiomaa
