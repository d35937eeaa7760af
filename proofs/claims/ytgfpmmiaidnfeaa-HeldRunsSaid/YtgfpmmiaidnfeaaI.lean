/- The document's Last, Take, Add. -/
import Derived.Test.YtgfpmmiaidnfeaaH
namespace Go.Proofs.Ytgfpmmiaidnfeaa
open Go.RowKit
set_option linter.unusedVariables false

set_option maxHeartbeats 800000 in
theorem rlast_any (ao : Option Addr) (c : Nat) (L : List (Int × Int)) (w : World) (h : SRow w ao L) (hl : L.length < 4000) :
    Calls Try.prog 18 #[.agg #[.slice ao L.length c]] w fun e w' => e = .returned (topT L) ∧ w.grownBy w' none := by
  have g0 := g_alloc (g_alloc (g_refl w none) (.cells #[.slice ao L.length c] 41)) (.cells #[.int .i64 0, .int .i64 0] 34)
  have hb := (Blk.new w #[.slice ao L.length c] 41).keepn (g_alloc (g_refl _ none) (.cells #[.int .i64 0, .int .i64 0] 34))
  have hz := Blk.new (w.alloc (.cells #[.slice ao L.length c] 41)) #[.int .i64 0, .int .i64 0] 34
  rw [World.size_alloc] at hz
  have c0 := hb.cell 0 (.slice ao L.length c) rfl
  have z0 := hz.cell 0 (.int .i64 0) rfl
  have z1 := hz.cell 1 (.int .i64 0) rfl
  have zf := hz.free 0
  have zf1 := hz.free 1
  have hk := h.keep g0
  clear h hb
  rcases List.eq_nil_or_concat L with rfl | ⟨M, p, rfl⟩
  · simp only [List.length_nil] at c0 g0 hz z0 z1 zf zf1
    clear hk
    go_enter Try.func18, Try.ntmps18
    go_wp2_with fail
    exact bodyPost_ret (v := topT []) (by simp [results, Try.results18, go_sem, topT, z0, z1]) rfl ⟨rfl, g0⟩
  · rw [List.concat_eq_append] at *
    have hll : (M ++ [p]).length = M.length + 1 := by simp
    obtain ⟨bb, off, rfl, hc1, hc2⟩ := hk M.length p (by simp)
    obtain ⟨n, hn⟩ : ∃ n, M.length = n := ⟨_, rfl⟩
    have hr : topT (M ++ [p]) = .tuple #[.agg #[.int .i64 p.1, .int .i64 p.2], .bool true] := by simp [topT]
    rw [hr]
    rw [hn] at hc1 hc2 hll
    rw [hll] at hl g0 hc1 hc2 c0 z0 z1 zf zf1 hz ⊢
    obtain ⟨p1, p2⟩ := p
    simp only at hc1 hc2 ⊢
    clear hr hn hk hll hz
    go_enter Try.func18, Try.ntmps18
    go_wp2_with fail
    have hk := Blk.new (w.alloc (.cells #[.slice (some ⟨bb, off, none⟩) (n + 1) c] 41)) #[.int .i64 p1, .int .i64 p2] 34
    rw [World.size_alloc] at hk
    have k0 := hk.cell 0 (.int .i64 p1) rfl
    have k1 := hk.cell 1 (.int .i64 p2) rfl
    exact bodyPost_ret (v := .tuple #[.agg #[.int .i64 p1, .int .i64 p2], .bool true]) (by simp [results, Try.results18, go_sem, k0, k1]) rfl ⟨rfl, g_alloc (g_alloc (g_refl _ _) _) _⟩

end Go.Proofs.Ytgfpmmiaidnfeaa
