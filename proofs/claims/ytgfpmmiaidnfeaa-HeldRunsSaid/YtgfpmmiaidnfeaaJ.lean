/- The document's Take, Add. -/
import Derived.Test.YtgfpmmiaidnfeaaI
namespace Go.Proofs.Ytgfpmmiaidnfeaa
open Go.RowKit
set_option linter.unusedVariables false

set_option maxHeartbeats 800000 in
theorem rtake_any (ao : Option Addr) (c : Nat) (L : List (Int × Int)) (w : World) (h : SRow w ao L) (hl : L.length < 4000) (hc : L.length ≤ c) (hc2 : c ≤ 9223372036854775807) :
    Calls Try.prog 12 #[.agg #[.slice ao L.length c]] w fun e w' => ∃ x y ok, topT L = .tuple #[.agg #[.int .i64 x, .int .i64 y], .bool ok] ∧ e = .returned (.tuple #[.agg #[.slice ao L.dropLast.length c], .agg #[.int .i64 x, .int .i64 y], .bool ok]) ∧ w.grownBy w' none := by
  obtain ⟨x, y, ok, hT, hok⟩ := topT_parts L
  have hlast := rlast_any ao c L
  have hres : ∀ w', w.grownBy w' none → ∃ x' y' ok', topT L = .tuple #[.agg #[.int .i64 x', .int .i64 y'], .bool ok'] ∧ Ending.returned (.tuple #[.agg #[.slice ao L.dropLast.length c], .agg #[.int .i64 x, .int .i64 y], .bool ok]) = .returned (.tuple #[.agg #[.slice ao L.dropLast.length c], .agg #[.int .i64 x', .int .i64 y'], .bool ok']) ∧ w.grownBy w' none := fun w' hg => ⟨x, y, ok, hT, rfl, hg⟩
  rw [hT] at hlast
  have HRES := Lib.hid hres
  have HLAST := Lib.hid hlast
  clear hres hlast
  have hdl : L.dropLast.length = L.length - 1 := List.length_dropLast ..
  obtain ⟨n, hn⟩ : ∃ n, L.length = n := ⟨_, rfl⟩
  obtain ⟨m, hm⟩ : ∃ m, L.dropLast.length = m := ⟨_, rfl⟩
  have hcase : (ok = true ∧ n = m + 1) ∨ (ok = false ∧ n = m) := by
    subst hok
    cases L with
    | nil => right; simp at hn hm ⊢; omega
    | cons a l => left; simp [List.getLast?_cons] at hn hm ⊢; omega
  rw [hn] at HLAST hl hc ⊢
  rw [hm] at HRES ⊢
  have g0 := g_alloc (g_alloc (g_alloc (g_refl w none) (.cells #[.slice ao n c] 41)) (.cells #[.slice none 0 0] 41)) (.cells #[.int .i64 0, .int .i64 0] 34)
  have b1 := ((Blk.new w #[.slice ao n c] 41).keepn (g_alloc (g_refl _ none) (.cells #[.slice none 0 0] 41))).keepn (g_alloc (g_refl _ none) (.cells #[.int .i64 0, .int .i64 0] 34))
  have b2 := (Blk.new (w.alloc (.cells #[.slice ao n c] 41)) #[.slice none 0 0] 41).keepn (g_alloc (g_refl _ none) (.cells #[.int .i64 0, .int .i64 0] 34))
  have b3 := Blk.new ((w.alloc (.cells #[.slice ao n c] 41)).alloc (.cells #[.slice none 0 0] 41)) #[.int .i64 0, .int .i64 0] 34
  simp only [World.size_alloc] at b2 b3
  have c0 := b1.cell 0 (.slice ao n c) rfl
  have hr := h.keep g0
  have B1 := Lib.hid b1
  have B2 := Lib.hid b2
  have B3 := Lib.hid b3
  have HR := Lib.hid hr
  clear hok hT h hn hm hdl hr b1 b2 b3
  go_enter Try.func12, Try.ntmps12
  go_wp2_with fail
  refine (HLAST.out _ HR.out hl).mono ?_
  rintro e w1 ⟨rfl, hg⟩
  have gA := g_alloc (g_refl w1 none) (.cells #[.int .i64 x, .int .i64 y] 34)
  have b1 := (B1.out.keepn hg).keepn gA
  have b2 := (B2.out.keepn hg).keepn gA
  have b3 := (B3.out.keepn hg).keepn gA
  have b4 := Blk.new w1 #[.int .i64 x, .int .i64 y] 34
  have gW := g_trans (g_trans g0 hg) gA
  have s1 := hg.size
  simp only [World.size_alloc] at s1
  have n1 : ¬ w.heap.size = w1.heap.size := by omega
  have n2 : ¬ w.heap.size + 1 = w1.heap.size := by omega
  have n3 : ¬ w.heap.size + 1 + 1 = w1.heap.size := by omega
  have n4 : ¬ w1.heap.size = w.heap.size := by omega
  have c1 := b1.cell 0 (.slice ao n c) rfl
  have f1 := b1.free 0
  have z2 := b2.cell 0 (.slice none 0 0) rfl
  have f2 := b2.free 0
  have z3 := b3.cell 0 (.int .i64 0) rfl
  have f3 := b3.free 0
  have z4 := b3.cell 1 (.int .i64 0) rfl
  have f4 := b3.free 1
  have x0 := b4.cell 0 (.int .i64 x) rfl
  have x1 := b4.cell 1 (.int .i64 y) rfl
  have B1' := Lib.hid b1
  have B2' := Lib.hid b2
  have B3' := Lib.hid b3
  have B4' := Lib.hid b4
  clear b1 b2 b3 b4 c0 hg gA g0 B1 B2 B3
  rcases hcase with ⟨rfl, rfl⟩ | ⟨rfl, rfl⟩
  · go_wp2_with fail
    go_region
    go_wp2_with fail
    generalize (w1.alloc (.cells #[.int .i64 x, .int .i64 y] 34)) = W at *
    have b0 := B1'.out.set 0 (.slice ao m c)
    have e2 := ((B2'.out.keeps (g_set (g_refl W (some w.heap.size)) (p := ⟨w.heap.size, 0, none⟩) (.inl rfl) (.slice ao m c)) (by omega)).set 0 (.slice ao m c))
    have e3 := B3'.out.keeps (g_set (g_refl W (some w.heap.size)) (p := ⟨w.heap.size, 0, none⟩) (.inl rfl) (.slice ao m c)) (by omega)
    generalize hW0 : W.setCell ⟨w.heap.size, 0, none⟩ (.slice ao m c) = W0 at *
    have gW0 : w.grownBy W0 none := g_in gW (hW0 ▸ g_set (g_refl W (some w.heap.size)) (p := ⟨w.heap.size, 0, none⟩) (.inl rfl) (.slice ao m c)) (Nat.le_refl _)
    have k1 := g_set (g_refl W0 (some (w.heap.size + 1))) (p := ⟨w.heap.size + 1, 0, none⟩) (.inl rfl) (.slice ao m c)
    have k2 := g_set (g_set (g_refl (W0.setCell ⟨w.heap.size + 1, 0, none⟩ (.slice ao m c)) (some (w.heap.size + 1 + 1))) (p := ⟨w.heap.size + 1 + 1, 0, none⟩) (.inl rfl) (.int .i64 x)) (p := ⟨w.heap.size + 1 + 1, 1, none⟩) (.inl rfl) (.int .i64 y)
    have r0 := ((e2.keeps k2 (by omega)).drew).cell 0 (.slice ao m c) (by simp)
    have r1 := (((e3.keeps k1 (by omega)).set 0 (.int .i64 x)).set 1 (.int .i64 y)).drew.cell 0 (.int .i64 x) (by simp)
    have r2 := (((e3.keeps k1 (by omega)).set 0 (.int .i64 x)).set 1 (.int .i64 y)).drew.cell 1 (.int .i64 y) (by simp)
    exact bodyPost_ret (v := .tuple #[.agg #[.slice ao m c], .agg #[.int .i64 x, .int .i64 y], .bool true]) (by simp [results, Try.results12, go_sem, r0, r1, r2]) rfl (HRES.out _ (g_drew (g_in (g_in gW0 k1 (by omega)) k2 (by omega))))
  · go_wp2_with fail
    go_region
    go_wp2_with fail
    generalize (w1.alloc (.cells #[.int .i64 x, .int .i64 y] 34)) = W at *
    have e2 := B2'.out.set 0 (.slice ao n c)
    have e3 := B3'.out
    have k1 := g_set (g_refl W (some (w.heap.size + 1))) (p := ⟨w.heap.size + 1, 0, none⟩) (.inl rfl) (.slice ao n c)
    have k2 := g_set (g_set (g_refl (W.setCell ⟨w.heap.size + 1, 0, none⟩ (.slice ao n c)) (some (w.heap.size + 1 + 1))) (p := ⟨w.heap.size + 1 + 1, 0, none⟩) (.inl rfl) (.int .i64 x)) (p := ⟨w.heap.size + 1 + 1, 1, none⟩) (.inl rfl) (.int .i64 y)
    have r0 := ((e2.keeps k2 (by omega)).drew).cell 0 (.slice ao n c) (by simp)
    have r1 := (((e3.keeps k1 (by omega)).set 0 (.int .i64 x)).set 1 (.int .i64 y)).drew.cell 0 (.int .i64 x) (by simp)
    have r2 := (((e3.keeps k1 (by omega)).set 0 (.int .i64 x)).set 1 (.int .i64 y)).drew.cell 1 (.int .i64 y) (by simp)
    exact bodyPost_ret (v := .tuple #[.agg #[.slice ao n c], .agg #[.int .i64 x, .int .i64 y], .bool false]) (by simp [results, Try.results12, go_sem, r0, r1, r2]) rfl (HRES.out _ (g_drew (g_in (g_in gW k1 (by omega)) k2 (by omega))))
end Go.Proofs.Ytgfpmmiaidnfeaa
