/- The document's slots: Enter, Leave, Passed; rows of other lengths. -/
import Derived.Test.YtaggoepiandblaaH
namespace Go.Proofs.Ytaggoepiandblaa
open Go.RowKit
set_option linter.unusedVariables false

/-- what a turn of the document's slots leaves: the row, or a new one -/
def After (w : World) (ao : Option Addr) (n : Nat) (f : Nat → Int) (w' : World) (ao' : Option Addr) : Prop :=
  IRow w' ao' n f ∧ (∀ a, ao' = some a → ao = some a ∨ w.heap.size ≤ a.block ∧ a.block < w'.heap.size) ∧ w.grownBy w' none

theorem rturn_any (ao : Option Addr) (n c : Nat) (f : Nat → Int) (w : World) (hz : IRow w ao n f) (h64 : n ≤ 64) (t : Int) (i : Bool) (hp : 0 ≤ sat n f t) (hp2 : sat n f t < 1000000) :
    Calls Try.prog 24 #[.agg #[.slice ao n c], .int .i64 t, .int .i64 (if i then 1 else 0)] w fun e w' => ∃ ao' c', e = .returned (.tuple #[.agg #[.slice ao' n c'], .int .i64 (turnR n f t i)]) ∧ After w ao n (turnF n f t i) w' ao' := by
  by_cases h : turnR n f t i = 0
  · rw [h]
    exact (rturn_yes ao n c f w hz h64 t i h hp hp2).mono fun _ _ ⟨ao', c', he, hr, hg⟩ => ⟨ao', c', he, hr.1, fun a ha => .inr (hr.2 a ha), hg⟩
  · rw [turnF_no h]
    exact (rturn_no ao n c f w hz h64 t i h hp).mono fun _ _ ⟨he, hg⟩ => ⟨ao, c, he, hz.keep hg, fun a ha => .inl ha, hg⟩

theorem After.pull {w w1 w2 : World} {ao ao' : Option Addr} {n : Nat} {f : Nat → Int} (g : w.grownBy w1 none) (h : After w1 ao n f w2 ao') : After w ao n f w2 ao' :=
  ⟨h.1, fun a ha => by
    rcases h.2.1 a ha with e | e
    · exact .inl e
    · exact .inr ⟨Nat.le_trans g.size e.1, e.2⟩, g_trans g h.2.2⟩

theorem IRow.lt {w : World} {ao : Option Addr} {n : Nat} {f : Nat → Int} (h : IRow w ao n f) (hn : 0 < n) : ∀ a, ao = some a → a.block < w.heap.size := by
  intro a ha
  obtain ⟨b, off, e, hc⟩ := h 0 hn
  cases ha.symm.trans e
  exact World.block_lt_of_cell? _ _ hc

/-- a result's own cell is written -/
theorem After.wrote {w w1 : World} {ao ao' : Option Addr} {n : Nat} {f g : Nat → Int} {v : Value} (h : After (w.alloc (.cells #[v] 38)) ao n f w1 ao') (hz : IRow w ao n g) (u : Value) :
    After w ao n f (w1.setCell ⟨w.heap.size, 0, none⟩ u) ao' := by
  obtain ⟨h1, h2, h3⟩ := h
  have hs := h3.size
  simp at hs h2
  refine ⟨fun i hi => ?_, fun a ha => ?_, g_in (g_trans (g_alloc (g_refl _ _) _) h3) (g_set (g_refl w1 (some w.heap.size)) (.inl rfl) _) (Nat.le_refl _)⟩
  · obtain ⟨b, off, e, hc⟩ := h1 i hi
    refine ⟨b, off, e, (g_set (g_refl w1 (some w.heap.size)) (p := ⟨w.heap.size, 0, none⟩) (.inl rfl) u).cell hc ?_⟩
    rcases h2 _ e with e2 | e2
    · have := hz.lt (by omega) _ e2
      simp only [ne_eq, Option.some.injEq]
      simp at this
      omega
    · simp only [ne_eq, Option.some.injEq]
      simp at e2
      omega
  · rw [World.size_setCell]
    rcases h2 a ha with e | e
    · exact .inl e
    · exact .inr ⟨by omega, e.2⟩

set_option maxHeartbeats 400000 in
theorem renter_any (ao : Option Addr) (n c : Nat) (f : Nat → Int) (w : World) (hz : IRow w ao n f) (h64 : n ≤ 64) (t : Int) (hp : 0 ≤ sat n f t) (hp2 : sat n f t < 1000000) :
    Calls Try.prog 14 #[.agg #[.slice ao n c], .int .i64 t] w fun e w' => ∃ ao' c', e = .returned (.tuple #[.agg #[.slice ao' n c'], .int .i64 (turnR n f t false)]) ∧ After w ao n (turnF n f t false) w' ao' := by
  have hg0 : w.grownBy ((w.alloc (.cells #[.slice ao n c] 38)).alloc (.cells #[.slice none 0 0] 38)) none := g_alloc (g_alloc (g_refl w none) _) _
  have HZ := Lib.hid (hz.keep hg0)
  have HZ1 := Lib.hid (hz.keep (g_alloc (g_refl w none) (.cells #[.slice ao n c] 38)))
  have HP := Lib.hid hp
  have HP2 := Lib.hid hp2
  clear hz hp hp2
  go_enter Try.func14, Try.ntmps14
  go_wp2_with fail
  refine (rturn_any _ _ _ _ _ HZ.out h64 t false HP.out HP2.out).mono ?_
  rintro e w1 ⟨ao', c', rfl, ha⟩
  have hb := (Blk.new (w.alloc (.cells #[.slice ao n c] 38)) #[.slice none 0 0] 38).keepn ha.2.2
  have c1 := hb.cell 0 (.slice none 0 0) rfl
  have f1 := hb.free 0
  simp only [World.size_alloc] at c1 f1
  clear hb
  have HA := Lib.hid ha
  clear ha
  go_wp2_with fail
  refine bodyPost_ret (v := .tuple #[.agg #[.slice ao' n c'], .int .i64 (turnR n f t false)]) (by simp [results, Try.results14, go_sem, c1]) rfl ?_
  have h := After.wrote (w := w.alloc (.cells #[.slice ao n c] 38)) HA.out HZ1.out (.slice ao' n c')
  simp only [World.size_alloc] at h
  exact ⟨_, _, rfl, After.pull (g_alloc (g_refl w none) _) h⟩


set_option maxHeartbeats 400000 in
theorem rleave_any (ao : Option Addr) (n c : Nat) (f : Nat → Int) (w : World) (hz : IRow w ao n f) (h64 : n ≤ 64) (t : Int) (hp : 0 ≤ sat n f t) (hp2 : sat n f t < 1000000) :
    Calls Try.prog 15 #[.agg #[.slice ao n c], .int .i64 t] w fun e w' => ∃ ao' c', e = .returned (.tuple #[.agg #[.slice ao' n c'], .int .i64 (turnR n f t true)]) ∧ After w ao n (turnF n f t true) w' ao' := by
  have hg0 : w.grownBy ((w.alloc (.cells #[.slice ao n c] 38)).alloc (.cells #[.slice none 0 0] 38)) none := g_alloc (g_alloc (g_refl w none) _) _
  have HZ := Lib.hid (hz.keep hg0)
  have HZ1 := Lib.hid (hz.keep (g_alloc (g_refl w none) (.cells #[.slice ao n c] 38)))
  have HP := Lib.hid hp
  have HP2 := Lib.hid hp2
  clear hz hp hp2
  go_enter Try.func15, Try.ntmps15
  go_wp2_with fail
  refine (rturn_any _ _ _ _ _ HZ.out h64 t true HP.out HP2.out).mono ?_
  rintro e w1 ⟨ao', c', rfl, ha⟩
  have hb := (Blk.new (w.alloc (.cells #[.slice ao n c] 38)) #[.slice none 0 0] 38).keepn ha.2.2
  have c1 := hb.cell 0 (.slice none 0 0) rfl
  have f1 := hb.free 0
  simp only [World.size_alloc] at c1 f1
  clear hb
  have HA := Lib.hid ha
  clear ha
  go_wp2_with fail
  refine bodyPost_ret (v := .tuple #[.agg #[.slice ao' n c'], .int .i64 (turnR n f t true)]) (by simp [results, Try.results15, go_sem, c1]) rfl ?_
  have h := After.wrote (w := w.alloc (.cells #[.slice ao n c] 38)) HA.out HZ1.out (.slice ao' n c')
  simp only [World.size_alloc] at h
  exact ⟨_, _, rfl, After.pull (g_alloc (g_refl w none) _) h⟩

end Go.Proofs.Ytaggoepiandblaa
