/- A log of old values: the methods that write. -/
import Derived.Test.YtllljpmcfjmciaaA
import Derived.Deep.RegionHeld3
import Derived.Deep.DeepCutAuto
import Derived.Deep.CutBlock
namespace Go.Proofs.Ytllljpmcfjmciaa
open Go.RowKit
set_option linter.unusedVariables false
set_option linter.unusedSimpArgs false

theorem fz_alloc {w : World} {o : Obj} {b i : Nat} (h : b < w.heap.size) : (w.alloc o).frozen? ⟨b, i, none⟩ = w.frozen? ⟨b, i, none⟩ :=
  World.frozen?_of_block (a := ⟨b, i, none⟩) (Below.heap_alloc w o b h)
theorem fz_alloc_drew {w : World} {o : Obj} {b i : Nat} (h : b < w.heap.size) (hf : w.frozen? ⟨b, i, none⟩ = false) : (w.alloc o).drew.frozen? ⟨b, i, none⟩ = false :=
  (fz_alloc h).trans hf

def pushP (most : Int) (L : List OV) (o : OV) : Int × List OV := if most ≤ L.length then (70, L) else (0, L ++ [o])
theorem pushP_le (most : Int) (L : List OV) (o : OV) : (pushP most L o).2.length ≤ L.length + 1 := by unfold pushP; split <;> simp

set_option maxRecDepth 100000 in
set_option maxHeartbeats 1600000 in
theorem push_any (b : Nat) (A : Nat → Prop) (most : Int) (L : List OV) (w : World) (hg : Lg w b A most L) (hm : most ≠ 0) (k n f vk vn : Int) (h : Bool) (s : Int) (hl : L.length < 5000) :
    Calls Try.prog 8 #[.pointer (some ⟨b, 0, none⟩), .agg #[.int .i64 k, .int .i64 n, .int .i64 f, .int .i64 vk, .int .i64 vn, .bool h, .int .i64 s]] w fun e w' => e = .returned (.int .i64 (pushP most L ⟨k, n, f, vk, vn, h, s⟩).1) ∧ Lg w' b (fun g => A g ∨ w.heap.size ≤ g) most (pushP most L ⟨k, n, f, vk, vn, h, s⟩).2 ∧ Tr (fun i => i = b ∨ A i) w w' := by
  obtain ⟨i0, hi, hz0, hz1, hz2⟩ := info_parts info36
  have g0 := g_alloc (g_refl w none) (.cells #[.int .i64 k, .int .i64 n, .int .i64 f, .int .i64 vk, .int .i64 vn, .bool h, .int .i64 s] 36)
  have HLG := Lib.hid hg
  have HN := Lib.hid (none_any b A most L _ (hg.keep g0) hm)
  obtain ⟨ao, c, h1, h2, h3, h4⟩ := (hg.strict.keep (g_drew g0)).row
  have hlb := hg.lt
  have ho : ∀ g, (Value.slice ao L.length c).ownBlock = some g → (A g ∧ g < w.heap.size) ∧ g ≠ b := fun g hg => by
    cases ao with
    | none => cases hg
    | some a => cases hg; exact h4 a rfl
  have ab : (Value.slice ao L.length c).ownBlock ≠ some b := fun e => (ho b e).2 rfl
  have HH1 := Lib.hid h1
  have HO := Lib.hid ho
  have HOWN := Lib.hid h2
  have TT : Hid ((w.alloc (.cells #[.int .i64 k, .int .i64 n, .int .i64 f, .int .i64 vk, .int .i64 vn, .bool h, .int .i64 s] 36)).cell? ⟨b, 0, none⟩ = some (.int .i64 most) ∧ (w.alloc (.cells #[.int .i64 k, .int .i64 n, .int .i64 f, .int .i64 vk, .int .i64 vn, .bool h, .int .i64 s] 36)).cell? ⟨b, 1, none⟩ = some (.slice ao L.length c)) := Lib.hid ⟨h1.cell 0 (.int .i64 most) rfl, h1.cell 1 (.slice ao L.length c) rfl⟩
  have HN0 := Lib.hid (Blk.drew (Blk.new w #[.int .i64 k, .int .i64 n, .int .i64 f, .int .i64 vk, .int .i64 vn, .bool h, .int .i64 s] 36))
  have G0 := Lib.hid (g_drew g0)
  obtain ⟨pp, hpp⟩ : ∃ pp, pushP most L ⟨k, n, f, vk, vn, h, s⟩ = pp := ⟨_, rfl⟩
  rw [hpp]
  have HP := Lib.hid hpp
  have hsz : w.heap.size < (w.alloc (.cells #[.int .i64 k, .int .i64 n, .int .i64 f, .int .i64 vk, .int .i64 vn, .bool h, .int .i64 s] 36)).drew.heap.size := by have := HN0.out.lt; exact this
  clear h3 h4 h1 ho h2 hg hpp g0
  obtain ⟨m, hmm⟩ : ∃ m, L.length = m := ⟨_, rfl⟩
  rw [hmm] at hl HOWN HH1 HO ab TT
  have HM := Lib.hid hmm
  clear hmm
  by_cases hfull : most ≤ m
  · obtain rfl : pp = (70, L) := by rw [← HP.out, pushP, if_pos (by rw [HM.out]; exact hfull)]
    clear HP
    go_enter Try.func8, Try.ntmps8
    go_wp2_with fail
    refine HN.out.mono ?_
    rintro e w1 ⟨rfl, rfl⟩
    go_wp2_with fail
    refine wp_region_held_drew (S := fun W' => (w.alloc (.cells #[.int .i64 k, .int .i64 n, .int .i64 f, .int .i64 vk, .int .i64 vn, .bool h, .int .i64 s] 36)).grownBy W' none) (by kernel_rfl) (g_drew (g_refl _ _)) (fun hHeld => ?_)
    refine wpAnyH_take (i := 0) (v := .pointer (some ⟨b, 0, none⟩)) rfl (by kernel_rfl) (by kernel_rfl) (by kernel_rfl) (fun _ _ _ h => h) (Or.inl ⟨by rfl, fun w hw => by clear hw; go_simp⟩) hHeld ?_
    try simp only [Act.put, List.setIfInBounds_toArray, List.set_cons_zero, List.set_cons_succ, List.getElem_toArray, List.getElem_cons_zero, List.getElem_cons_succ]
    refine wpAnyH_take (i := 1) (v := .pointer (some ⟨b, 0, none⟩)) rfl (by kernel_rfl) (by kernel_rfl) (by kernel_rfl) (fun _ _ _ h => h) (Or.inl ⟨by rfl, fun w hw => by clear hw; go_simp⟩) hHeld ?_
    try simp only [Act.put, List.setIfInBounds_toArray, List.set_cons_zero, List.set_cons_succ, List.getElem_toArray, List.getElem_cons_zero, List.getElem_cons_succ]
    refine wpAnyH_take (i := 2) (v := .pointer (some ⟨b, 1, none⟩)) rfl (by kernel_rfl) (by kernel_rfl) (by kernel_rfl) (fun _ _ _ h => h) (Or.inl ⟨by rfl, fun w hw => by clear hw; go_simp⟩) hHeld ?_
    try simp only [Act.put, List.setIfInBounds_toArray, List.set_cons_zero, List.set_cons_succ, List.getElem_toArray, List.getElem_cons_zero, List.getElem_cons_succ]
    refine wpAnyH_take (i := 3) (v := .slice ao m c) rfl (by kernel_rfl) (by kernel_rfl) (by kernel_rfl) (fun _ _ _ h => h) (Or.inl ⟨by rfl, fun w hw => by have q0 := hw.cell TT.out.2 (by simp); clear hw; go_simp⟩) hHeld ?_
    try simp only [Act.put, List.setIfInBounds_toArray, List.set_cons_zero, List.set_cons_succ, List.getElem_toArray, List.getElem_cons_zero, List.getElem_cons_succ]
    refine wpAnyH_take (i := 4) (v := .int .i64 (m : Int)) rfl (by kernel_rfl) (by kernel_rfl) (by kernel_rfl) (fun _ _ _ h => h) (Or.inl ⟨by rfl, fun w hw => by clear hw; go_simp⟩) hHeld ?_
    try simp only [Act.put, List.setIfInBounds_toArray, List.set_cons_zero, List.set_cons_succ, List.getElem_toArray, List.getElem_cons_zero, List.getElem_cons_succ]
    refine wpAnyH_take (i := 5) (v := .pointer (some ⟨b, 0, none⟩)) rfl (by kernel_rfl) (by kernel_rfl) (by kernel_rfl) (fun _ _ _ h => h) (Or.inl ⟨by rfl, fun w hw => by clear hw; go_simp⟩) hHeld ?_
    try simp only [Act.put, List.setIfInBounds_toArray, List.set_cons_zero, List.set_cons_succ, List.getElem_toArray, List.getElem_cons_zero, List.getElem_cons_succ]
    refine wpAnyH_take (i := 6) (v := .pointer (some ⟨b, 0, none⟩)) rfl (by kernel_rfl) (by kernel_rfl) (by kernel_rfl) (fun _ _ _ h => h) (Or.inl ⟨by rfl, fun w hw => by clear hw; go_simp⟩) hHeld ?_
    try simp only [Act.put, List.setIfInBounds_toArray, List.set_cons_zero, List.set_cons_succ, List.getElem_toArray, List.getElem_cons_zero, List.getElem_cons_succ]
    refine wpAnyH_take (i := 7) (v := .pointer (some ⟨b, 0, none⟩)) rfl (by kernel_rfl) (by kernel_rfl) (by kernel_rfl) (fun _ _ _ h => h) (Or.inl ⟨by rfl, fun w hw => by clear hw; go_simp⟩) hHeld ?_
    try simp only [Act.put, List.setIfInBounds_toArray, List.set_cons_zero, List.set_cons_succ, List.getElem_toArray, List.getElem_cons_zero, List.getElem_cons_succ]
    refine wpAnyH_take (i := 8) (v := .int .i64 most) rfl (by kernel_rfl) (by kernel_rfl) (by kernel_rfl) (fun _ _ _ h => h) (Or.inl ⟨by rfl, fun w hw => by have q0 := hw.cell TT.out.1 (by simp); clear hw; go_simp⟩) hHeld ?_
    try simp only [Act.put, List.setIfInBounds_toArray, List.set_cons_zero, List.set_cons_succ, List.getElem_toArray, List.getElem_cons_zero, List.getElem_cons_succ]
    refine wpAnyH_take (i := 9) (v := .bool true) rfl (by kernel_rfl) (by kernel_rfl) (by kernel_rfl) (fun _ _ _ h => h) (Or.inl ⟨by rfl, fun w hw => by clear hw; go_simp⟩) hHeld ?_
    try simp only [Act.put, List.setIfInBounds_toArray, List.set_cons_zero, List.set_cons_succ, List.getElem_toArray, List.getElem_cons_zero, List.getElem_cons_succ]
    refine wpAnyH_take (i := 10) (v := .bool true) rfl (by kernel_rfl) (by kernel_rfl) (by kernel_rfl) (fun _ _ _ h => h) (Or.inl ⟨by rfl, fun w hw => by clear hw; go_simp⟩) hHeld ?_
    try simp only [Act.put, List.setIfInBounds_toArray, List.set_cons_zero, List.set_cons_succ, List.getElem_toArray, List.getElem_cons_zero, List.getElem_cons_succ]
    refine wpAnyH_done (by kernel_rfl) ?_ _
    go_wp2_with fail
    go_ret
    exact ⟨rfl, (HLG.out.keep G0.out).mono (fun g _ hA => .inl hA), tr_g G0.out _⟩
  · obtain rfl : pp = (0, L ++ [⟨k, n, f, vk, vn, h, s⟩]) := by rw [← HP.out, pushP, if_neg (by rw [HM.out]; exact hfull)]
    clear HP
    go_enter Try.func8, Try.ntmps8
    go_wp2_with fail
    refine HN.out.mono ?_
    rintro e w1 ⟨rfl, rfl⟩
    clear HN
    go_wp2_with fail
    refine wp_region_held_drew (S := fun W' => (w.alloc (.cells #[.int .i64 k, .int .i64 n, .int .i64 f, .int .i64 vk, .int .i64 vn, .bool h, .int .i64 s] 36)).grownBy W' none) (by kernel_rfl) (g_drew (g_refl _ _)) (fun hHeld => ?_)
    refine wpAnyH_take (i := 0) (v := .pointer (some ⟨b, 0, none⟩)) rfl (by kernel_rfl) (by kernel_rfl) (by kernel_rfl) (fun _ _ _ h => h) (Or.inl ⟨by rfl, fun w hw => by clear hw; go_simp⟩) hHeld ?_
    try simp only [Act.put, List.setIfInBounds_toArray, List.set_cons_zero, List.set_cons_succ, List.getElem_toArray, List.getElem_cons_zero, List.getElem_cons_succ]
    refine wpAnyH_take (i := 1) (v := .pointer (some ⟨b, 0, none⟩)) rfl (by kernel_rfl) (by kernel_rfl) (by kernel_rfl) (fun _ _ _ h => h) (Or.inl ⟨by rfl, fun w hw => by clear hw; go_simp⟩) hHeld ?_
    try simp only [Act.put, List.setIfInBounds_toArray, List.set_cons_zero, List.set_cons_succ, List.getElem_toArray, List.getElem_cons_zero, List.getElem_cons_succ]
    refine wpAnyH_take (i := 2) (v := .pointer (some ⟨b, 1, none⟩)) rfl (by kernel_rfl) (by kernel_rfl) (by kernel_rfl) (fun _ _ _ h => h) (Or.inl ⟨by rfl, fun w hw => by clear hw; go_simp⟩) hHeld ?_
    try simp only [Act.put, List.setIfInBounds_toArray, List.set_cons_zero, List.set_cons_succ, List.getElem_toArray, List.getElem_cons_zero, List.getElem_cons_succ]
    refine wpAnyH_take (i := 3) (v := .slice ao m c) rfl (by kernel_rfl) (by kernel_rfl) (by kernel_rfl) (fun _ _ _ h => h) (Or.inl ⟨by rfl, fun w hw => by have q0 := hw.cell TT.out.2 (by simp); clear hw; go_simp⟩) hHeld ?_
    try simp only [Act.put, List.setIfInBounds_toArray, List.set_cons_zero, List.set_cons_succ, List.getElem_toArray, List.getElem_cons_zero, List.getElem_cons_succ]
    refine wpAnyH_take (i := 4) (v := .int .i64 (m : Int)) rfl (by kernel_rfl) (by kernel_rfl) (by kernel_rfl) (fun _ _ _ h => h) (Or.inl ⟨by rfl, fun w hw => by clear hw; go_simp⟩) hHeld ?_
    try simp only [Act.put, List.setIfInBounds_toArray, List.set_cons_zero, List.set_cons_succ, List.getElem_toArray, List.getElem_cons_zero, List.getElem_cons_succ]
    refine wpAnyH_take (i := 5) (v := .pointer (some ⟨b, 0, none⟩)) rfl (by kernel_rfl) (by kernel_rfl) (by kernel_rfl) (fun _ _ _ h => h) (Or.inl ⟨by rfl, fun w hw => by clear hw; go_simp⟩) hHeld ?_
    try simp only [Act.put, List.setIfInBounds_toArray, List.set_cons_zero, List.set_cons_succ, List.getElem_toArray, List.getElem_cons_zero, List.getElem_cons_succ]
    refine wpAnyH_take (i := 6) (v := .pointer (some ⟨b, 0, none⟩)) rfl (by kernel_rfl) (by kernel_rfl) (by kernel_rfl) (fun _ _ _ h => h) (Or.inl ⟨by rfl, fun w hw => by clear hw; go_simp⟩) hHeld ?_
    try simp only [Act.put, List.setIfInBounds_toArray, List.set_cons_zero, List.set_cons_succ, List.getElem_toArray, List.getElem_cons_zero, List.getElem_cons_succ]
    refine wpAnyH_take (i := 7) (v := .pointer (some ⟨b, 0, none⟩)) rfl (by kernel_rfl) (by kernel_rfl) (by kernel_rfl) (fun _ _ _ h => h) (Or.inl ⟨by rfl, fun w hw => by clear hw; go_simp⟩) hHeld ?_
    try simp only [Act.put, List.setIfInBounds_toArray, List.set_cons_zero, List.set_cons_succ, List.getElem_toArray, List.getElem_cons_zero, List.getElem_cons_succ]
    refine wpAnyH_take (i := 8) (v := .int .i64 most) rfl (by kernel_rfl) (by kernel_rfl) (by kernel_rfl) (fun _ _ _ h => h) (Or.inl ⟨by rfl, fun w hw => by have q0 := hw.cell TT.out.1 (by simp); clear hw; go_simp⟩) hHeld ?_
    try simp only [Act.put, List.setIfInBounds_toArray, List.set_cons_zero, List.set_cons_succ, List.getElem_toArray, List.getElem_cons_zero, List.getElem_cons_succ]
    refine wpAnyH_take (i := 9) (v := .bool false) rfl (by kernel_rfl) (by kernel_rfl) (by kernel_rfl) (fun _ _ _ h => h) (Or.inl ⟨by rfl, fun w hw => by clear hw; go_simp⟩) hHeld ?_
    try simp only [Act.put, List.setIfInBounds_toArray, List.set_cons_zero, List.set_cons_succ, List.getElem_toArray, List.getElem_cons_zero, List.getElem_cons_succ]
    refine wpAnyH_take (i := 10) (v := .bool false) rfl (by kernel_rfl) (by kernel_rfl) (by kernel_rfl) (fun _ _ _ h => h) (Or.inl ⟨by rfl, fun w hw => by clear hw; go_simp⟩) hHeld ?_
    try simp only [Act.put, List.setIfInBounds_toArray, List.set_cons_zero, List.set_cons_succ, List.getElem_toArray, List.getElem_cons_zero, List.getElem_cons_succ]
    refine wpAnyH_done (by kernel_rfl) ?_ _
    go_wp2_with fail
    generalize (w.alloc (.cells #[.int .i64 k, .int .i64 n, .int .i64 f, .int .i64 vk, .int .i64 vn, .bool h, .int .i64 s] 36)).drew = WD at *
    have c0 := HH1.out.cell 1 (.slice ao m c) rfl
    have cf := HH1.out.free 1
    have hbw : b < WD.heap.size := HH1.out.lt
    have hbn : ¬ b = WD.heap.size := by omega
    have x0 := HN0.out.cell 0 (.int .i64 k) rfl
    have x1 := HN0.out.cell 1 (.int .i64 n) rfl
    have x2 := HN0.out.cell 2 (.int .i64 f) rfl
    have x3 := HN0.out.cell 3 (.int .i64 vk) rfl
    have x4 := HN0.out.cell 4 (.int .i64 vn) rfl
    have x5 := HN0.out.cell 5 (.bool h) rfl
    have x6 := HN0.out.cell 6 (.int .i64 s) rfl
    have cf2 : (WD.alloc (.cells #[.int .i64 k, .int .i64 n, .int .i64 f, .int .i64 vk, .int .i64 vn, .bool h, .int .i64 s] 36)).drew.frozen? ⟨b, 1, none⟩ = false := fz_alloc_drew (by omega) cf
    have hnb : (WD.alloc (.cells #[.int .i64 k, .int .i64 n, .int .i64 f, .int .i64 vk, .int .i64 vn, .bool h, .int .i64 s] 36)).heap[WD.heap.size]? = some (.cells #[.int .i64 k, .int .i64 n, .int .i64 f, .int .i64 vk, .int .i64 vn, .bool h, .int .i64 s] 36 (0, 0)) := Blk.new WD #[.int .i64 k, .int .i64 n, .int .i64 f, .int .i64 vk, .int .i64 vn, .bool h, .int .i64 s] 36
    have cW : (WD.alloc (.cells #[.int .i64 k, .int .i64 n, .int .i64 f, .int .i64 vk, .int .i64 vn, .bool h, .int .i64 s] 36)).drew.cell? ⟨b, 1, none⟩ = some (.slice ao m c) := (g_drew (g_alloc (g_refl WD none) (.cells #[.int .i64 k, .int .i64 n, .int .i64 f, .int .i64 vk, .int .i64 vn, .bool h, .int .i64 s] 36))).cell c0 (by simp)
    have HCW := Lib.hid cW
    have HFW := Lib.hid cf2
    have HNB := Lib.hid hnb
    clear hnb cW cf2
    go_region_law ((refine step_append_lies _ (by rfl) _ _ _ (by rfl) 0 36 i0 _ 7 56 Try.underlying44 hi hz0 hz1 hz2 rfl (by omega) (.slice ao m c) m (scl L) (by rfl) ((HOWN.out.alloc _).drew) ⟨WD.heap.size, 0, none⟩ 1 1 [.int .i64 k, .int .i64 n, .int .i64 f, .int .i64 vk, .int .i64 vn, .bool h, .int .i64 s] (by rfl) (by rfl) (World.news_of_block (cs := #[.int .i64 k, .int .i64 n, .int .i64 f, .int .i64 vk, .int .i64 vn, .bool h, .int .i64 s]) (t := 36) (fr := (0, 0)) HNB.out) (by simp [Value.oneCell']) (by omega) (by unfold maxLen; omega) (by omega) (by simp) (WD.heap.size + 1) (by simp) ?_; intro gg cap w1 hown1 hgrow hat hlt; have c9 := (hgrow.cell_far ⟨b, 1, none⟩ (by simp; omega) (Ne.symm ab)).trans HCW.out; have f9 := (hgrow.frozen_far ⟨b, 1, none⟩ (by simp; omega) (Ne.symm ab)).trans HFW.out))
    all_goals
      clear c9 f9
      go_wp2_with fail
      go_ret
      have hg : (A gg ∨ w.heap.size ≤ gg) ∧ gg ≠ b := by
        rcases hat with e | e
        · exact ⟨.inl (HO.out gg e).1.1, (HO.out gg e).2⟩
        · exact ⟨.inr (by omega), by omega⟩
      have gW := g_drew (g_alloc (g_refl WD none) (.cells #[.int .i64 k, .int .i64 n, .int .i64 f, .int .i64 vk, .int .i64 vn, .bool h, .int .i64 s] 36))
      have hB := ((HH1.out.keepn gW).keep hgrow (Ne.symm ab)).set 1 (.slice (some ⟨gg, 0, none⟩) (m + 1) cap)
      have s1 := g_set (g_refl w1 (some b)) (p := ⟨b, 1, none⟩) (.inl rfl) (.slice (some ⟨gg, 0, none⟩) (m + 1) cap)
      refine ⟨rfl, ⟨_, by simpa using hB, ?_, fun g e => by cases e; exact hg⟩, ?_⟩
      · rw [scl_append, List.length_append, HM.out]
        exact World.ownsRow.kept hown1 s1 (.inr (by simp only [Value.ownBlock, ne_eq, Option.some.injEq]; exact hg.2))
      · exact tr_thens (tr_trans (tr_g (g_trans G0.out gW) _) (tr_row hgrow (fun g e _ => e)) (fun i hi e => .inr (HO.out i e).1.1)) s1 (fun _ => .inl rfl)

/-- a row that is new -/
def PRw (w w' : World) (v : Value) (L : List OV) : Prop := w'.ownsRow w.heap.size 36 7 v L.length (scl L) ∧ w.grownBy w' none

set_option maxRecDepth 100000 in
set_option maxHeartbeats 1600000 in
theorem clone_any (ao : Option Addr) (c : Nat) (L : List OV) (w : World) (hs : SRow w ao L) (hn : ao = none → L = []) (hl : L.length ≤ 5000) (hc : L.length ≤ c) :
    Calls Try.prog 22 #[.slice ao L.length c] w fun e w' => ∃ v, e = .returned v ∧ PRw w w' v L := by
  have heq := fun w a n c => Lib.run_eql_slice_nil (P := Try.prog) w 44 36 a n c 0 0 Try.underlying44
  obtain ⟨i0, hi, hz0, hz1, hz2⟩ := info_parts info36
  cases ao with
  | none =>
    obtain rfl := hn rfl
    go_enter Try.func22, Try.ntmps22
    go_wp2_with fail
    go_ret
    exact ⟨_, rfl, World.ownsRow_nil _ _ _ _, g_refl _ _⟩
  | some a =>
    have HS := Lib.hid hs
    have GE := Lib.hid (g_alloc (g_refl w none) (.cells #[] 36))
    have HE := Lib.hid (own_zero w 36 (Nat.le_refl _))
    have hE := GE.out.size
    have HO1 := Lib.hid (scl_ones L)
    have HLL := Lib.hid (scl_length L)
    have HCL : Hid (∀ (j : Nat) (u : Value), (scl L)[j]? = some u → (w.alloc (.cells #[] 36)).cell? (a.add j) = some u) := Lib.hid (fun j u hu => by
      cases hL : L with
      | nil => rw [hL] at hu; simp [scl] at hu
      | cons p L' =>
        obtain ⟨b, off, h, _⟩ := hs 0 p (by rw [hL]; rfl)
        cases h
        exact srow_cells (HS.out.keep GE.out) j u hu)
    clear hs hn
    obtain ⟨n, hn⟩ : ∃ n, L.length = n := ⟨_, rfl⟩
    rw [hn] at hl hc HLL ⊢
    have HN := Lib.hid hn
    clear hn
    go_enter Try.func22, Try.ntmps22
    go_wp2_with (at_builtin; refine wpList_append_own _ rfl _ _ 44 rfl w.heap.size 36 i0 (.agg #[.int .i64 0, .int .i64 0, .int .i64 0, .int .i64 0, .int .i64 0, .bool false, .int .i64 0]) 7 56 Try.underlying44 hi hz0 hz1 hz2 rfl (by decide) _ _ _ rfl HE.out a n c (scl L) rfl HLL.out HCL.out HO1.out (by unfold maxLen; omega) (by omega) hE ?_; intro v5 w5 hown hgrow _; have HOF := Lib.hid hown; have GF := Lib.hid (g_own2 GE.out (Nat.le_refl _) HE.out hgrow); clear hown hgrow)
    go_ret
    exact ⟨_, rfl, by rw [HN.out]; simpa using HOF.out, GF.out⟩
theorem Lg.cl {w : World} {b : Nat} {A : Nat → Prop} {most : Int} {L : List OV} (h : Lg w b A most L) : ∃ ao c, Blk w b #[.int .i64 most, .slice ao L.length c] 60 ∧ SRow w ao L ∧ (ao = none → L = []) ∧ L.length ≤ c := by
  obtain ⟨ao, c, h1, h2, h3, h4⟩ := h.row
  exact ⟨ao, c, h1, h3, fun e => by subst e; exact own_nil h2, (len_own h2).1⟩

set_option maxRecDepth 100000 in
set_option maxHeartbeats 1600000 in
theorem all_any (b : Nat) (A : Nat → Prop) (most : Int) (L : List OV) (w : World) (h : Lg w b A most L) (hm : most ≠ 0) (hl : L.length ≤ 5000) :
    Calls Try.prog 18 #[.pointer (some ⟨b, 0, none⟩)] w fun e w' => ∃ v, e = .returned v ∧ PRw w w' v L := by
  have HN := Lib.hid (none_any b A most L w h hm)
  obtain ⟨ao, c, h1, hs, hn, hc⟩ := h.cl
  have c1 := h1.cell 1 (.slice ao L.length c) rfl
  have HC := Lib.hid (clone_any ao c L w hs hn hl hc)
  clear hs hn h h1
  go_enter Try.func18, Try.ntmps18
  go_wp2_with fail
  refine HN.out.mono ?_
  rintro e w1 ⟨rfl, rfl⟩
  go_wp2_with fail
  refine HC.out.mono ?_
  rintro e w2 ⟨v, rfl, hp⟩
  go_wp2_with fail
  go_ret
  exact ⟨v, rfl, hp⟩

set_option maxRecDepth 100000 in
set_option maxHeartbeats 1600000 in
theorem clear_any (b : Nat) (A : Nat → Prop) (most : Int) (L : List OV) (w : World) (h : Lg w b A most L) (hm : most ≠ 0) :
    Calls Try.prog 16 #[.pointer (some ⟨b, 0, none⟩)] w fun e w' => e = .returned (.int .i64 L.length) ∧ Lg w' b A most [] ∧ Tr (fun i => i = b) w w' := by
  have HN := Lib.hid (len_any b A most L w h hm)
  obtain ⟨ao, c, h1, h2, hs, h4⟩ := h.row
  have f1 := h1.free 1
  have c1 := h1.cell 1 (.slice ao L.length c) rfl
  have HH := Lib.hid h
  have HB := Lib.hid h1
  by_cases h0 : L.length = 0
  · obtain rfl := List.eq_nil_of_length_eq_zero h0
    clear hs h h1 h2 h4 h0
    go_enter Try.func16, Try.ntmps16
    go_wp2_with fail
    refine HN.out.mono ?_
    rintro e w1 ⟨rfl, rfl⟩
    go_wp2_with fail
    go_ret
    exact ⟨rfl, HH.out, tr_refl _ _⟩
  · have h0' : 0 < (L.length : Int) := by omega
    clear hs h h2 h4 h1 h0
    generalize L.length = m at *
    go_enter Try.func16, Try.ntmps16
    go_wp2_with fail
    refine HN.out.mono ?_
    rintro e w1 ⟨rfl, rfl⟩
    go_wp2_with fail
    go_ret
    have hB := HB.out.set 1 (.slice none 0 0)
    refine ⟨rfl, ⟨.slice none 0 0, by simpa using hB, World.ownsRow_nil _ _ _ _, fun g e => (by cases e)⟩, tr_gs (g_set (g_refl _ (some b)) (p := ⟨b, 1, none⟩) (.inl rfl) _) (fun _ => rfl)⟩

set_option maxRecDepth 100000 in
set_option maxHeartbeats 1600000 in
theorem fork_any (b : Nat) (A : Nat → Prop) (most : Int) (L : List OV) (w : World) (h : Lg w b A most L) (hm : most ≠ 0) (hl : L.length ≤ 5000) :
    Calls Try.prog 17 #[.pointer (some ⟨b, 0, none⟩)] w fun e w' => ∃ k, e = .returned (.pointer (some ⟨k, 0, none⟩)) ∧ w.heap.size ≤ k ∧ Lg w' k (fun g => w.heap.size ≤ g) most L ∧ w.grownBy w' none := by
  have HN := Lib.hid (none_any b A most L w h hm)
  obtain ⟨ao, c, h1, hs, hn, hc⟩ := h.cl
  have TT := Lib.hid (And.intro (h1.cell 0 (.int .i64 most) rfl) (h1.cell 1 (.slice ao L.length c) rfl))
  have HC : Hid (∀ W, w.grownBy W none → Calls Try.prog 22 #[.slice ao L.length c] W fun e w' => ∃ xo xc, e = .returned (.slice xo L.length xc) ∧ w'.ownsRow W.heap.size 36 7 (.slice xo L.length xc) L.length (scl L) ∧ w.heap.size ≤ w'.heap.size ∧ W.grownBy w' none) := Lib.hid (fun W g => by
    refine (clone_any ao c L W (hs.keep g) hn hl hc).mono ?_
    rintro e w' ⟨v, rfl, hp, hg⟩
    obtain ⟨xo, xc, rfl, -, -⟩ := srow_of_own hp
    exact ⟨xo, xc, rfl, hp, Nat.le_trans g.size hg.size, hg⟩)
  clear hs hn h h1 hl hc
  obtain ⟨m, hmm⟩ : ∃ m, L.length = m := ⟨_, rfl⟩
  rw [hmm] at TT HC
  have HM := Lib.hid hmm
  clear hmm
  go_enter Try.func17, Try.ntmps17
  go_wp2_with fail
  refine HN.out.mono ?_
  rintro e w1 ⟨rfl, rfl⟩
  go_upto_region 3 with fail
  refine wp_region_held_drew (S := fun W' => w1.grownBy W' none) (by kernel_rfl) (g_drew (g_refl _ _)) (fun hHeld => ?_)
  refine wpAnyH_take (i := 0) (v := .pointer (some ⟨b, 0, none⟩)) rfl (by kernel_rfl) (by kernel_rfl) (by kernel_rfl) (fun _ _ _ h => h) (Or.inl ⟨by rfl, fun w hw => by clear hw; go_simp⟩) hHeld ?_
  try simp only [Act.put, List.setIfInBounds_toArray, List.set_cons_zero, List.set_cons_succ, List.getElem_toArray, List.getElem_cons_zero, List.getElem_cons_succ]
  refine wpAnyH_take (i := 1) (v := .pointer (some ⟨b, 0, none⟩)) rfl (by kernel_rfl) (by kernel_rfl) (by kernel_rfl) (fun _ _ _ h => h) (Or.inl ⟨by rfl, fun w hw => by clear hw; go_simp⟩) hHeld ?_
  try simp only [Act.put, List.setIfInBounds_toArray, List.set_cons_zero, List.set_cons_succ, List.getElem_toArray, List.getElem_cons_zero, List.getElem_cons_succ]
  refine wpAnyH_take (i := 2) (v := .pointer (some ⟨b, 0, none⟩)) rfl (by kernel_rfl) (by kernel_rfl) (by kernel_rfl) (fun _ _ _ h => h) (Or.inl ⟨by rfl, fun w hw => by clear hw; go_simp⟩) hHeld ?_
  try simp only [Act.put, List.setIfInBounds_toArray, List.set_cons_zero, List.set_cons_succ, List.getElem_toArray, List.getElem_cons_zero, List.getElem_cons_succ]
  refine wpAnyH_take (i := 3) (v := .int .i64 most) rfl (by kernel_rfl) (by kernel_rfl) (by kernel_rfl) (fun _ _ _ h => h) (Or.inl ⟨by rfl, fun w hw => by have q0 := hw.cell TT.out.1 (by simp); clear hw; go_simp⟩) hHeld ?_
  try simp only [Act.put, List.setIfInBounds_toArray, List.set_cons_zero, List.set_cons_succ, List.getElem_toArray, List.getElem_cons_zero, List.getElem_cons_succ]
  refine wpAnyH_take (i := 4) (v := .pointer (some ⟨b, 0, none⟩)) rfl (by kernel_rfl) (by kernel_rfl) (by kernel_rfl) (fun _ _ _ h => h) (Or.inl ⟨by rfl, fun w hw => by clear hw; go_simp⟩) hHeld ?_
  try simp only [Act.put, List.setIfInBounds_toArray, List.set_cons_zero, List.set_cons_succ, List.getElem_toArray, List.getElem_cons_zero, List.getElem_cons_succ]
  refine wpAnyH_take (i := 5) (v := .pointer (some ⟨b, 0, none⟩)) rfl (by kernel_rfl) (by kernel_rfl) (by kernel_rfl) (fun _ _ _ h => h) (Or.inl ⟨by rfl, fun w hw => by clear hw; go_simp⟩) hHeld ?_
  try simp only [Act.put, List.setIfInBounds_toArray, List.set_cons_zero, List.set_cons_succ, List.getElem_toArray, List.getElem_cons_zero, List.getElem_cons_succ]
  refine wpAnyH_take (i := 6) (v := .pointer (some ⟨b, 1, none⟩)) rfl (by kernel_rfl) (by kernel_rfl) (by kernel_rfl) (fun _ _ _ h => h) (Or.inl ⟨by rfl, fun w hw => by clear hw; go_simp⟩) hHeld ?_
  try simp only [Act.put, List.setIfInBounds_toArray, List.set_cons_zero, List.set_cons_succ, List.getElem_toArray, List.getElem_cons_zero, List.getElem_cons_succ]
  refine wpAnyH_take (i := 7) (v := .slice ao m c) rfl (by kernel_rfl) (by kernel_rfl) (by kernel_rfl) (fun _ _ _ h => h) (Or.inl ⟨by rfl, fun w hw => by have q0 := hw.cell TT.out.2 (by simp); clear hw; go_simp⟩) hHeld ?_
  try simp only [Act.put, List.setIfInBounds_toArray, List.set_cons_zero, List.set_cons_succ, List.getElem_toArray, List.getElem_cons_zero, List.getElem_cons_succ]
  refine wpAnyH_ready (rs := [8]) (by kernel_rfl) (by simp) (AllReadyH.cons rfl (fun K hK => ?_) (AllReadyH.nil))
  · go_simp
    refine Calls.mono (HC.out _ hHeld) ?_
    rintro e wc1 ⟨xo, xc, rfl, hp, hs1, gc1⟩
    try go_wp2_with fail
    refine hK.out _ _ (g_trans hHeld gc1) (fun hHeld => ?_)
    clear hK K gc1
    try simp only [Act.put, List.setIfInBounds_toArray, List.set_cons_zero, List.set_cons_succ, List.getElem_toArray, List.getElem_cons_zero, List.getElem_cons_succ]
    refine wpAnyH_take (i := 9) (v := .agg #[.int .i64 most, .slice xo m xc]) rfl (by kernel_rfl) (by kernel_rfl) (by kernel_rfl) (fun _ _ _ h => h) (Or.inl ⟨by rfl, fun w hw => by clear hw; go_simp⟩) hHeld ?_
    try simp only [Act.put, List.setIfInBounds_toArray, List.set_cons_zero, List.set_cons_succ, List.getElem_toArray, List.getElem_cons_zero, List.getElem_cons_succ]
    refine wpAnyH_ready (rs := [10]) (by kernel_rfl) (by simp) (AllReadyH.cons rfl (fun K hK => ?_) (AllReadyH.nil))
    · go_simp
      refine hK.out _ _ (g_alloc hHeld (.cells #[.int .i64 most, .slice xo m xc] 60)) (fun hHeld => ?_)
      clear hK K
      try simp only [Act.put, List.setIfInBounds_toArray, List.set_cons_zero, List.set_cons_succ, List.getElem_toArray, List.getElem_cons_zero, List.getElem_cons_succ]
      refine wpAnyH_take (i := 11) (v := .pointer (some ⟨wc1.heap.size, 0, none⟩)) rfl (by kernel_rfl) (by kernel_rfl) (by kernel_rfl) (fun _ _ _ h => h) (Or.inl ⟨by rfl, fun w hw => by clear hw; go_simp⟩) hHeld ?_
      try simp only [Act.put, List.setIfInBounds_toArray, List.set_cons_zero, List.set_cons_succ, List.getElem_toArray, List.getElem_cons_zero, List.getElem_cons_succ]
      refine wpAnyH_done (by kernel_rfl) ?_ _
      go_wp2_with fail
      go_ret
      have ga := g_alloc (g_refl wc1 none) (.cells #[.int .i64 most, .slice xo m xc] 60)
      refine ⟨_, rfl, hs1, ⟨_, Blk.new wc1 _ _, own_keepn (own_mono (by rw [HM.out]; exact hp) (Nat.zero_le _)) ga, fun g e => ?_⟩, hHeld⟩
      have := own_lt hp e
      exact ⟨this.1, by omega⟩
end Go.Proofs.Ytllljpmcfjmciaa
