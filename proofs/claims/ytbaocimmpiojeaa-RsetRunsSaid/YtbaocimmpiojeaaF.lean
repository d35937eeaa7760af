/- Sets of what was read: the other methods. -/
import Derived.Test.YtbaocimmpiojeaaE
import Derived.Lib.SliceRun
namespace Go.Proofs.Ytbaocimmpiojeaa
open Go.RowKit
set_option linter.unusedVariables false
set_option linter.unusedSimpArgs false

def newP (most : Int) : Bool := decide (1 ≤ most ∧ most ≤ 4096)
set_option maxHeartbeats 800000 in
theorem new_any (most : Int) (w : World) : Calls Try.prog 6 #[.int .i64 most] w fun e w' => w.grownBy w' none ∧ ((newP most = false ∧ e = .returned (.tuple #[.pointer none, .int .i64 1])) ∨ (newP most = true ∧ ∃ b, e = .returned (.tuple #[.pointer (some ⟨b, 0, none⟩), .int .i64 0]) ∧ w.heap.size ≤ b ∧ Rs w' (fun i => w.heap.size ≤ i) b most [])) := by
  have hcs : (most < 1) ∨ (¬ most < 1 ∧ 4096 < most) ∨ (¬ most < 1 ∧ ¬ 4096 < most) := by omega
  rcases hcs with h1 | ⟨h1, h2⟩ | ⟨h1, h2⟩
  · go_enter Try.func6, Try.ntmps6
    go_wp2_with fail
    go_ret2
    exact ⟨g_refl _ _, .inl ⟨decide_eq_false (by omega), rfl⟩⟩
  · go_enter Try.func6, Try.ntmps6
    go_wp2_with fail
    go_ret2
    exact ⟨g_refl _ _, .inl ⟨decide_eq_false (by omega), rfl⟩⟩
  · go_enter Try.func6, Try.ntmps6
    go_wp2_with fail
    go_ret2
    exact ⟨g_alloc (g_refl _ _) _, .inr ⟨decide_eq_true (by omega), w.heap.size, rfl, Nat.le_refl _, Nat.le_refl _, .slice none 0 0, 0, .map none, Blk.new w _ _, World.ownsRow_nil _ _ _ _, ⟨fun e => (by cases e), fun g e => (by cases e)⟩, ⟨List.Pairwise.nil, fun p hp => (by cases hp)⟩, .inl rfl⟩⟩

theorem Rs.most {w : World} {S : Nat → Prop} {b : Nat} {most : Int} {L : List (Int × Int)} (h : Rs w S b most L) : w.cell? ⟨b, 0, none⟩ = some (.int .i64 most) := by
  obtain ⟨_, lv, d, mo, h1, _⟩ := h; exact Blk.cell h1 0 _ rfl
theorem Rs.row {w : World} {S : Nat → Prop} {b : Nat} {most : Int} {L : List (Int × Int)} (h : Rs w S b most L) : ∃ ao c, w.cell? ⟨b, 1, none⟩ = some (.slice ao L.length c) ∧ SRow w ao L ∧ L.length ≤ c ∧ c ≤ 9223372036854775807 ∧ (ao = none → L = []) := by
  obtain ⟨_, lv, d, mo, h1, h2, _⟩ := h
  obtain ⟨ao, c, rfl, hs, _⟩ := srow_of_own h2
  refine ⟨ao, c, Blk.cell h1 1 _ rfl, hs, (len_own h2).1, (len_own h2).2, fun e => ?_⟩
  cases L with
  | nil => rfl
  | cons p L => obtain ⟨b', off, hb, _⟩ := hs 0 p rfl; rw [e] at hb; cases hb

theorem len_any (S : Nat → Prop) (b : Nat) (most : Int) (L : List (Int × Int)) (w : World) (h : Rs w S b most L) (hm : most ≠ 0) :
    Calls Try.prog 9 #[.pointer (some ⟨b, 0, none⟩)] w fun e w' => e = .returned (.int .i64 (L.length : Int)) ∧ w' = w := by
  have HN := Lib.hid (none_any b most w h.most hm)
  obtain ⟨ao, c, c1, -⟩ := h.row
  go_enter Try.func9, Try.ntmps9
  go_wp2_with fail
  refine HN.out.mono ?_
  rintro e w1 ⟨rfl, rfl⟩
  go_wp2_with fail
  go_ret
  exact ⟨rfl, rfl⟩

/-- the entry at a place -/
def atP (L : List (Int × Int)) (i : Int) : (Int × Int) × Bool := if 0 ≤ i ∧ i < L.length then (L.getD i.toNat (0, 0), true) else ((0, 0), false)
set_option maxHeartbeats 1600000 in
theorem at_any (S : Nat → Prop) (b : Nat) (most : Int) (L : List (Int × Int)) (i : Int) (w : World) (h : Rs w S b most L) (hm : most ≠ 0) :
    Calls Try.prog 17 #[.pointer (some ⟨b, 0, none⟩), .int .i64 i] w fun e w' => e = .returned (.tuple #[.agg #[.int .i64 (atP L i).1.1, .int .i64 (atP L i).1.2], .bool (atP L i).2]) ∧ w.grownBy w' none := by
  have ga := g_alloc (g_refl w none) (.cells #[.int .i64 0, .int .i64 0] 37)
  have h' := h.keep ga
  have HN := Lib.hid (none_any b most _ h'.most hm)
  obtain ⟨ao, c, c1, hs, hc1, hc2, -⟩ := h'.row
  have hblt : b < w.heap.size := by obtain ⟨_, lv, d, mo, h1, _⟩ := h; exact h1.lt
  have XB := Lib.hid (Blk.new w #[.int .i64 0, .int .i64 0] 37)
  have GA := Lib.hid ga
  obtain ⟨r, hr⟩ : ∃ r, atP L i = r := ⟨_, rfl⟩
  have HR := Lib.hid hr
  rw [hr]
  clear h h' ga hr
  by_cases hin : 0 ≤ i ∧ i < L.length
  · obtain ⟨j, rfl⟩ : ∃ j : Nat, i = j := ⟨i.toNat, by omega⟩
    have hjl : j < L.length := by omega
    obtain ⟨p, hp⟩ : ∃ p, L[j]? = some p := ⟨L[j], List.getElem?_eq_getElem hjl⟩
    obtain rfl : r = (p, true) := by rw [← HR.out, atP, if_pos hin, Int.toNat_natCast]; simp [List.getD, hp]
    obtain ⟨bb, off, rfl, x0, x1⟩ := hs j p hp
    obtain ⟨k, v⟩ := p
    simp only at x0 x1
    have z1 : ¬ (j : Int) < 0 := by omega
    have z2 : ¬ (L.length : Int) ≤ j := by omega
    have f0 := XB.out.free 0
    have f1 := XB.out.free 1
    have y0 := XB.out.cell 0 (.int .i64 0) rfl
    have y1 := XB.out.cell 1 (.int .i64 0) rfl
    clear hin hs hp hjl
    generalize L.length = n at *
    go_enter Try.func17, Try.ntmps17
    go_wp2_with fail
    refine HN.out.mono ?_
    rintro e w1 ⟨rfl, rfl⟩
    go_wp2_with fail
    have hF := Blk.new w #[.int .i64 k, .int .i64 v] 37
    have k0 := hF.cell 0 (.int .i64 k) rfl
    have k1 := hF.cell 1 (.int .i64 v) rfl
    have gg := g_alloc (g_refl w none) (.cells #[.int .i64 k, .int .i64 v] 37)
    exact bodyPost_ret (v := .tuple #[.agg #[.int .i64 k, .int .i64 v], .bool true]) (by simp [results, Try.results17, go_sem, k0, k1]) rfl ⟨rfl, gg⟩
  · obtain rfl : r = ((0, 0), false) := by rw [← HR.out, atP, if_neg hin]
    have hcs : i < 0 ∨ (¬ i < 0 ∧ (L.length : Int) ≤ i) := by omega
    clear hin hs
    generalize L.length = n at *
    have f0 := XB.out.free 0
    have f1 := XB.out.free 1
    have y0 := XB.out.cell 0 (.int .i64 0) rfl
    have y1 := XB.out.cell 1 (.int .i64 0) rfl
    rcases hcs with h1 | ⟨h1, h2⟩
    all_goals
      go_enter Try.func17, Try.ntmps17
      go_wp2_with fail
      refine HN.out.mono ?_
      rintro e w1 ⟨rfl, rfl⟩
      go_wp2_with fail
      have hF := Blk.new w #[.int .i64 0, .int .i64 0] 37
      have k0 := hF.cell 0 (.int .i64 0) rfl
      have k1 := hF.cell 1 (.int .i64 0) rfl
      have gg := g_alloc (g_refl w none) (.cells #[.int .i64 0, .int .i64 0] 37)
      exact bodyPost_ret (v := .tuple #[.agg #[.int .i64 0, .int .i64 0], .bool false]) (by simp [results, Try.results17, go_sem, k0, k1]) rfl ⟨rfl, gg⟩

theorem scl_ones (L : List (Int × Int)) : ∀ u ∈ scl L, u.oneCell' = true := by
  intro u hu
  simp only [scl, List.mem_flatMap] at hu
  obtain ⟨p, _, hp⟩ := hu
  simp at hp
  rcases hp with rfl | rfl <;> rfl
theorem srow_cells {w : World} {b off : Nat} {L : List (Int × Int)} (h : SRow w (some ⟨b, off, none⟩) L) : ∀ (j : Nat) (u : Value), (scl L)[j]? = some u → w.cell? ((⟨b, off, none⟩ : Addr).add j) = some u := by
  intro j u hu
  have hj := (List.getElem?_eq_some_iff.1 hu).1
  rw [scl_length] at hj
  have hi : j / 2 < L.length := by omega
  obtain ⟨b', off', hb, c0, c1⟩ := h (j / 2) L[j / 2] (List.getElem?_eq_getElem hi)
  cases hb
  obtain ⟨q0, q1⟩ := scl_at L (j / 2) L[j / 2] (List.getElem?_eq_getElem hi)
  rw [Addr.add_lit]
  rcases (by omega : j = j / 2 * 2 ∨ j = j / 2 * 2 + 1) with e | e
  · rw [← e] at q0 c0
    rw [q0] at hu; cases hu; exact c0
  · rw [← e] at q1
    rw [Nat.add_assoc, ← e] at c1
    rw [q1] at hu; cases hu; exact c1
theorem own_zero (w : World) (T : TypeId) {B : Nat} (h : B ≤ w.heap.size) : (w.alloc (.cells #[] T)).ownsRow B T 2 (.slice (some ⟨w.heap.size, 0, none⟩) 0 0) 0 [] :=
  ⟨rfl, .inr ⟨w.heap.size, 0, #[], rfl, h, Blk.new w #[] T, Nat.le_refl _, by unfold maxLen; omega, rfl, rfl⟩⟩
theorem g_own2 {a w w' : World} {B : Nat} {e : TypeId} {size n : Nat} {v : Value} {xs : List Value} {row : Option Nat} (h : a.grownBy w row) (hB : a.heap.size ≤ B) (ho : w.ownsRow B e size v n xs) (k : w.grownBy w' v.ownBlock) : a.grownBy w' row := by
  cases hv : v.ownBlock with
  | none => rw [hv] at k; exact g_then h k
  | some g => rw [hv] at k; exact g_in h k (Nat.le_trans hB (ho.lt g hv).1)
/-- a row that is new -/
def PRw (w w' : World) (v : Value) (L : List (Int × Int)) : Prop := w'.ownsRow w.heap.size 37 2 v L.length (scl L) ∧ w.grownBy w' none

set_option maxRecDepth 100000 in
set_option maxHeartbeats 1600000 in
theorem clone_any (ao : Option Addr) (c : Nat) (L : List (Int × Int)) (w : World) (hs : SRow w ao L) (hn : ao = none → L = []) (hl : L.length ≤ 5000) (hc : L.length ≤ c) :
    Calls Try.prog 21 #[.slice ao L.length c] w fun e w' => ∃ v, e = .returned v ∧ PRw w w' v L := by
  have heq := fun w a n c => Lib.run_eql_slice_nil (P := Try.prog) w 34 37 a n c 0 0 Try.underlying34
  obtain ⟨i0, hi, hz0, hz1, hz2⟩ := info_parts info37
  cases ao with
  | none =>
    obtain rfl := hn rfl
    go_enter Try.func21, Try.ntmps21
    go_wp2_with fail
    go_ret
    exact ⟨_, rfl, World.ownsRow_nil _ _ _ _, g_refl _ _⟩
  | some a =>
    have HS := Lib.hid hs
    have GE := Lib.hid (g_alloc (g_refl w none) (.cells #[] 37))
    have HE := Lib.hid (own_zero w 37 (Nat.le_refl _))
    have hE := GE.out.size
    have HO1 := Lib.hid (scl_ones L)
    have HLL := Lib.hid (scl_length L)
    have HCL : Hid (∀ (j : Nat) (u : Value), (scl L)[j]? = some u → (w.alloc (.cells #[] 37)).cell? (a.add j) = some u) := Lib.hid (fun j u hu => by
      cases hL : L with
      | nil => rw [hL] at hu; simp [scl] at hu
      | cons p L' =>
        obtain ⟨b, off, h, _⟩ := hs 0 p (by rw [hL]; rfl)
        cases h
        exact srow_cells (HS.out.keep GE.out) j u hu)
    clear hs hn
    obtain ⟨n, hn⟩ : ∃ n, L.length = n := ⟨_, rfl⟩
    rw [hn] at hl hc HLL ⊢
    have HN := Lib.hid hn
    clear hn
    go_enter Try.func21, Try.ntmps21
    go_wp2_with (at_builtin; refine wpList_append_own _ rfl _ _ 34 rfl w.heap.size 37 i0 (.agg #[.int .i64 0, .int .i64 0]) 2 16 Try.underlying34 hi hz0 hz1 hz2 rfl (by decide) _ _ _ rfl HE.out a n c (scl L) rfl HLL.out HCL.out HO1.out (by unfold maxLen; omega) (by omega) hE ?_; intro v5 w5 hown hgrow _; have HOF := Lib.hid hown; have GF := Lib.hid (g_own2 GE.out (Nat.le_refl _) HE.out hgrow); clear hown hgrow)
    go_ret
    exact ⟨_, rfl, by rw [HN.out]; simpa using HOF.out, GF.out⟩

set_option maxRecDepth 100000 in
set_option maxHeartbeats 1600000 in
theorem all_any (S : Nat → Prop) (b : Nat) (most : Int) (L : List (Int × Int)) (w : World) (h : Rs w S b most L) (hm : most ≠ 0) (hl : L.length ≤ 5000) :
    Calls Try.prog 11 #[.pointer (some ⟨b, 0, none⟩)] w fun e w' => ∃ v, e = .returned v ∧ PRw w w' v L := by
  have HN := Lib.hid (none_any b most w h.most hm)
  obtain ⟨ao, c, c1, hs, hc, -, hn⟩ := h.row
  have HC := Lib.hid (clone_any ao c L w hs hn hl hc)
  clear hs hn h
  go_enter Try.func11, Try.ntmps11
  go_wp2_with fail
  refine HN.out.mono ?_
  rintro e w1 ⟨rfl, rfl⟩
  go_wp2_with fail
  refine HC.out.mono ?_
  rintro e w2 ⟨v, rfl, hp⟩
  go_wp2_with fail
  go_ret
  exact ⟨v, rfl, hp⟩
end Go.Proofs.Ytbaocimmpiojeaa
