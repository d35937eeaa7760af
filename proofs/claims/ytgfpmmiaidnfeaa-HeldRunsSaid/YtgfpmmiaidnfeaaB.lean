/- The taken records: New, push, Add. -/
import Derived.Test.YtgfpmmiaidnfeaaA
import Derived.Deep.RegionLaw
import Derived.Deep.AppendLies
namespace Go.Proofs.Ytgfpmmiaidnfeaa
open Go.RowKit
set_option linter.unusedVariables false

theorem info34 : (Try.prog.info? 34).map (fun i => (i.zero, i.size, i.bytes)) = some (some (.agg #[.int .i64 0, .int .i64 0]), 2, 16) := by kernel_rfl

theorem fz_alloc {w : World} {o : Obj} {b i : Nat} (h : b < w.heap.size) : (w.alloc o).frozen? ⟨b, i, none⟩ = w.frozen? ⟨b, i, none⟩ :=
  World.frozen?_of_block (a := ⟨b, i, none⟩) (Below.heap_alloc w o b h)

theorem fz_alloc_drew {w : World} {o : Obj} {b i : Nat} (h : b < w.heap.size) (hf : w.frozen? ⟨b, i, none⟩ = false) : (w.alloc o).drew.frozen? ⟨b, i, none⟩ = false :=
  (fz_alloc h).trans hf

set_option maxHeartbeats 400000 in
theorem new_any (w : World) :
    Calls Try.prog 6 #[] w fun e w' => e = .returned (.pointer (some ⟨w.heap.size, 0, none⟩)) ∧ Hd w' w.heap.size (fun _ => False) [] ∧ w.grownBy w' none := by
  go_enter Try.func6, Try.ntmps6
  go_wp2_with fail
  go_ret
  exact ⟨rfl, ⟨.slice none 0 0, Blk.new _ _ _, World.ownsRow_nil _ _ _ _, fun g hg => by cases hg⟩, g_alloc (g_refl _ _) _⟩

set_option maxHeartbeats 800000 in
theorem push_any (b : Nat) (A : Nat → Prop) (L : List (Int × Int)) (w : World) (h : Hd w b A L) (x y : Int) (hl : L.length < 4000) :
    Calls Try.prog 22 #[.pointer (some ⟨b, 0, none⟩), .agg #[.int .i64 x, .int .i64 y]] w fun e w' => e = .returned (.tuple #[]) ∧ Hd w' b (fun g => A g ∨ w.heap.size ≤ g) (L ++ [(x, y)]) ∧ Tr (fun i => i = b ∨ A i) w w' := by
  obtain ⟨i0, hi, hz0, hz1, hz2⟩ := info_parts info34
  have g0 := g_alloc (g_refl w none) (.cells #[.int .i64 x, .int .i64 y] 34)
  obtain ⟨ao, c, h1, h2, h3, h4⟩ := (h.strict.keep g0).row
  have hn0 := Blk.new w #[.int .i64 x, .int .i64 y] 34
  have c0 := h1.cell 0 (.slice ao L.length c) rfl
  have cf := h1.free 0
  have x0 := hn0.cell 0 (.int .i64 x) rfl
  have x1 := hn0.cell 1 (.int .i64 y) rfl
  have hlb := h.lt
  have ho : ∀ g, (Value.slice ao L.length c).ownBlock = some g → (A g ∧ g < w.heap.size) ∧ g ≠ b := fun g hg => by
    cases ao with
    | none => cases hg
    | some a => cases hg; exact h4 a rfl
  have ab : (Value.slice ao L.length c).ownBlock ≠ some b := fun e => (ho b e).2 rfl
  have ap : (Value.slice ao L.length c).ownBlock ≠ some w.heap.size := fun e => by have := (ho _ e).1.2; omega
  have HH1 := Lib.hid h1
  have HO := Lib.hid ho
  have HOWN := Lib.hid h2
  clear h3 h4 h1 ho h2 h hn0
  go_enter Try.func22, Try.ntmps22
  go_wp2_with fail
  have HG0 := Lib.hid g0
  have cf2 : ((w.alloc (.cells #[.int .i64 x, .int .i64 y] 34)).alloc (.cells #[.int .i64 x, .int .i64 y] 34)).drew.frozen? ⟨b, 0, none⟩ = false := fz_alloc_drew (by simp; omega) cf
  clear g0
  have hnb : ((w.alloc (.cells #[.int .i64 x, .int .i64 y] 34)).alloc (.cells #[.int .i64 x, .int .i64 y] 34)).heap[w.heap.size + 1]? = some (.cells #[.int .i64 x, .int .i64 y] 34 (0, 0)) := by
    have := Blk.new (w.alloc (.cells #[.int .i64 x, .int .i64 y] 34)) #[.int .i64 x, .int .i64 y] 34
    unfold Blk at this
    rw [World.size_alloc] at this
    exact this
  have cW : ((w.alloc (.cells #[.int .i64 x, .int .i64 y] 34)).alloc (.cells #[.int .i64 x, .int .i64 y] 34)).drew.cell? ⟨b, 0, none⟩ = some (.slice ao L.length c) := (g_drew (g_alloc (g_refl (w.alloc (.cells #[.int .i64 x, .int .i64 y] 34)) none) (.cells #[.int .i64 x, .int .i64 y] 34))).cell c0 (by simp)
  have HCW := Lib.hid cW
  have HFW := Lib.hid cf2
  have HNB := Lib.hid hnb
  clear hnb cW cf2
  go_region_law ((refine step_append_lies _ (by rfl) _ _ _ (by rfl) 0 34 i0 _ 2 16 Try.underlying39 hi hz0 hz1 hz2 rfl (by omega) (.slice ao L.length c) L.length (scl L) (by rfl) ((HOWN.out.alloc _).drew) ⟨w.heap.size + 1, 0, none⟩ 1 1 [.int .i64 x, .int .i64 y] (by rfl) (by rfl) (World.news_of_block (cs := #[.int .i64 x, .int .i64 y]) (t := 34) (fr := (0, 0)) HNB.out) (by simp [Value.oneCell']) (by omega) (by unfold maxLen; omega) (by omega) (by simp) (w.heap.size + 1 + 1) (by simp) ?_; intro gg cap w1 hown1 hgrow hat hlt; have c9 := (hgrow.cell_far ⟨b, 0, none⟩ (by simp; omega) (Ne.symm ab)).trans HCW.out; have f9 := (hgrow.frozen_far ⟨b, 0, none⟩ (by simp; omega) (Ne.symm ab)).trans HFW.out))
  all_goals
    clear c9 f9
    go_end0
    have hg : (A gg ∨ w.heap.size ≤ gg) ∧ gg ≠ b := by
      rcases hat with e | e
      · exact ⟨.inl (HO.out gg e).1.1, (HO.out gg e).2⟩
      · exact ⟨.inr (by omega), by omega⟩
    have gW := g_drew (g_alloc (g_refl (w.alloc (.cells #[.int .i64 x, .int .i64 y] 34)) none) (.cells #[.int .i64 x, .int .i64 y] 34))
    have hB := ((HH1.out.keepn gW).keep hgrow (Ne.symm ab)).set 0 (.slice (some ⟨gg, 0, none⟩) (L.length + 1) cap)
    have s1 := g_set (g_refl w1 (some b)) (p := ⟨b, 0, none⟩) (.inl rfl) (.slice (some ⟨gg, 0, none⟩) (L.length + 1) cap)
    refine ⟨rfl, ⟨_, by simpa using hB, ?_, fun g e => by cases e; exact hg⟩, ?_⟩
    · rw [scl_append, List.length_append]
      exact World.ownsRow.kept hown1 s1 (.inr (by simp only [Value.ownBlock, ne_eq, Option.some.injEq]; exact hg.2))
    · exact tr_thens (tr_trans (tr_g (g_trans HG0.out gW) _) (tr_row hgrow (fun g e _ => e)) (fun i hi e => .inr (HO.out i e).1.1)) s1 (fun _ => .inl rfl)
end Go.Proofs.Ytgfpmmiaidnfeaa
