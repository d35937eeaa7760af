/- The document's clock: the reference's functions, each by its contract. -/
import Derived.Test.YtnecdcjgpkiomaaB
namespace Go.Proofs.Ytnecdcjgpkiomaa
open Go.RowKit

set_option maxHeartbeats 400000 in
theorem ref_new_ok (l : Int) (w : World) (l1 : 1 ≤ l) (l2 : l ≤ 1099511627776) :
    Calls Try.prog 15 #[.int .i64 l] w fun e w' => e = .returned (.tuple #[.agg #[.int .i64 l, .int .i64 0, .int .i64 0], .int .i64 0]) ∧ w.grownBy w' none := by
  go_enter Try.func15, Try.ntmps15
  go_wp2
  go_returns
  exact ⟨rfl, g_alloc (g_refl _ _) _⟩

set_option maxHeartbeats 400000 in
theorem ref_new_no (l : Int) (w : World) (h : l < 1 ∨ 1099511627776 < l) :
    Calls Try.prog 15 #[.int .i64 l] w fun e w' => e = .returned (.tuple #[.agg #[.int .i64 0, .int .i64 0, .int .i64 0], .int .i64 1]) ∧ w.grownBy w' none := by
  rcases h with h | h
  all_goals
    go_enter Try.func15, Try.ntmps15
    go_wp2
    go_returns
    exact ⟨rfl, g_alloc (g_refl _ _) _⟩

set_option maxHeartbeats 400000 in
theorem ref_next (l n s : Int) (w : World) (n1 : 0 ≤ n) (n2 : n < 1000000) :
    Calls Try.prog 16 #[.agg #[.int .i64 l, .int .i64 n, .int .i64 s]] w fun e w' => e = .returned (.tuple #[.agg #[.int .i64 l, .int .i64 (n + 1), .int .i64 s], .int .i64 (n + 1)]) ∧ w.grownBy w' none := by
  go_enter Try.func16, Try.ntmps16
  go_wp2
  go_region
  all_goals
    go_wp2
    go_returns
    exact ⟨rfl, g_drew (g_alloc (g_alloc (g_refl _ _) _) _)⟩

set_option maxHeartbeats 400000 in
theorem ref_stamp (l n s : Int) (w : World) (n1 : 0 ≤ s) (n2 : s < 1000000) :
    Calls Try.prog 17 #[.agg #[.int .i64 l, .int .i64 n, .int .i64 s]] w fun e w' => e = .returned (.tuple #[.agg #[.int .i64 l, .int .i64 n, .int .i64 (s + 1)], .int .i64 (s + 1)]) ∧ w.grownBy w' none := by
  go_enter Try.func17, Try.ntmps17
  go_wp2
  go_region
  all_goals
    go_wp2
    go_returns
    exact ⟨rfl, g_drew (g_alloc (g_alloc (g_refl _ _) _) _)⟩

set_option maxHeartbeats 400000 in
theorem ref_full (l n s : Int) (w : World) :
    Calls Try.prog 19 #[.agg #[.int .i64 l, .int .i64 n, .int .i64 s]] w fun e w' => e = .returned (.bool (decide (l ≤ n))) ∧ w.grownBy w' none := by
  go_enter Try.func19, Try.ntmps19
  go_wp2
  go_returns
  exact ⟨rfl, g_alloc (g_refl _ _) _⟩

set_option maxHeartbeats 400000 in
theorem ref_left_hi (l n s : Int) (w : World) (h : l ≤ n) :
    Calls Try.prog 20 #[.agg #[.int .i64 l, .int .i64 n, .int .i64 s]] w fun e w' => e = .returned (.int .i64 0) ∧ w.grownBy w' none := by
  go_enter Try.func20, Try.ntmps20
  go_wp2_with fail
  refine (ref_full _ _ _ _).mono ?_
  rintro e w1 ⟨rfl, hg⟩
  have hg' := g_trans (g_alloc (g_refl w none) _) hg
  go_wp2
  go_returns
  exact ⟨rfl, hg'⟩

set_option maxHeartbeats 400000 in
theorem ref_left_lo (l n s : Int) (w : World) (h : n < l) (n1 : 0 ≤ n) (l2 : l < 4611686018427387904) :
    Calls Try.prog 20 #[.agg #[.int .i64 l, .int .i64 n, .int .i64 s]] w fun e w' => e = .returned (.int .i64 (l - n)) ∧ w.grownBy w' none := by
  have hd : decide (l ≤ n) = false := by simp; omega
  have hw := g_alloc (g_refl w none) (.cells #[.int .i64 l, .int .i64 n, .int .i64 s] 33)
  have b0 := Blk.new w #[.int .i64 l, .int .i64 n, .int .i64 s] 33
  go_enter Try.func20, Try.ntmps20
  go_wp2_with fail
  refine (ref_full _ _ _ _).mono ?_
  rintro e w1 ⟨rfl, hg⟩
  have b1 := b0.keepn hg
  have c0 := b1.cell 0 _ rfl
  have c1 := b1.cell 1 _ rfl
  have hg' := g_trans hw hg
  clear b0 b1 hw hg
  go_wp2
  go_returns
  exact ⟨rfl, hg'⟩
end Go.Proofs.Ytnecdcjgpkiomaa
