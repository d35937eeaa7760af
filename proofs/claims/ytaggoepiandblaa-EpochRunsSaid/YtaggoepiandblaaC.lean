/- Rows of numbers held against one another; the example at the laws' head. -/
import Derived.Test.YtaggoepiandblaaB
namespace Go.Proofs.Ytaggoepiandblaa
open Go.RowKit

theorem irow_of_own {w : World} {base : Nat} {v : Value} {n : Nat} {f : Nat → Int} (h : w.ownsRow base 3 1 v n (firstK f n)) : ∃ ao c, v = .slice ao n c ∧ IRow w ao n f ∧ ∀ a, ao = some a → base ≤ a.block ∧ a.block < w.heap.size := by
  have hc := fun g hg => h.cells (g := g) hg
  rcases h.2 with ⟨rfl, rfl⟩ | ⟨g, cap, cur, rfl, hb, hh, _⟩
  · exact ⟨none, 0, rfl, fun i hi => absurd hi (Nat.not_lt_zero _), fun a h => by cases h⟩
  · refine ⟨_, _, rfl, fun i hi => ⟨g, 0, rfl, ?_⟩, fun a h => by cases h; exact ⟨hb, (Array.getElem?_eq_some_iff.1 hh).1⟩⟩
    have := hc g rfl i (.int .i64 (f i)) (by simp [firstK, hi])
    simpa [Addr.add_lit] using this
theorem IRow.keeps {w w' : World} {ao : Option Addr} {n g : Nat} {z : Nat → Int} (h : IRow w ao n z) (k : w.grownBy w' (some g)) (hne : ∀ a, ao = some a → a.block ≠ g) : IRow w' ao n z := fun i hi => by
  obtain ⟨b, off, h1, h2⟩ := h i hi
  exact ⟨b, off, h1, k.cell h2 (by simpa using hne _ h1)⟩

/-- are two rows the same? -/
def sameb (n m : Nat) (z y : Nat → Int) : Bool := decide (n = m ∧ ∀ i, i < n → z i = y i)

set_option maxHeartbeats 800000 in
theorem same_any (w : World) (ao bo : Option Addr) (n m c d : Nat) (z y : Nat → Int) (hn : n ≤ 4611686018427387904) (hm : m ≤ 4611686018427387904) (hz : IRow w ao n z) (hy : IRow w bo m y) :
    Calls Try.prog 18 #[.slice ao n c, .slice bo m d] w fun e w' => e = .returned (.bool (sameb n m z y)) ∧ w.grownBy w' none := by
  by_cases hnm : n = m
  · subst hnm
    have HZ := Lib.hid hz
    have HY := Lib.hid hy
    clear hz hy
    go_enter Try.func18, Try.ntmps18
    go_wp2_with fail
    go_loopw [5] (fun i wr => ∃ k : Nat, k ≤ n ∧ i = .int .i64 k ∧ (∀ t, t < k → z t = y t) ∧ w.grownBy wr none) (fun i _ => n - (intOf i).toNat)
    case atStart => exact ⟨0, by omega, rfl, fun t ht => absurd ht (Nat.not_lt_zero _), g_refl _ _⟩
    case round =>
      obtain ⟨k, hk, rfl, hok, hgr⟩ := hrel
      have HOK := Lib.hid hok
      clear hok
      by_cases hlt : k < n
      · obtain ⟨b1, o1, rfl, hc1⟩ := HZ.out.keep hgr k hlt
        obtain ⟨b2, o2, rfl, hc2⟩ := HY.out.keep hgr k hlt
        by_cases he : z k = y k
        · have HE := Lib.hid he
          have hb : (z k != y k) = false := by simpa using he
          clear he
          go_wp2_with fail
          go_quiet (fail)
          go_wp2_with fail
          go_roundw
          case rel => exact ⟨k + 1, by omega, by go_num, fun t ht => by
            by_cases e : t = k
            · subst e; exact HE.out
            · exact HOK.out t (by omega), g_drewN hgr _⟩
          case measure => simp [intOf]; omega
        · have hs : sameb n n z y = false := by unfold sameb; exact decide_eq_false (fun h => he (h.2 k hlt))
          have HS := Lib.hid hs
          have hb : (z k != y k) = true := bne_iff_ne.2 he
          clear he hs
          go_wp2_with fail
          go_quiet (fail)
          go_wp2_with fail
          go_ret
          exact ⟨ret_bool HS.out.symm, g_drewN hgr _⟩
      · have hs : sameb n n z y = true := by unfold sameb; exact decide_eq_true ⟨rfl, fun i hi => HOK.out i (by omega)⟩
        have HS := Lib.hid hs
        clear hs
        go_wp2_with fail
        go_ret
        exact ⟨ret_bool HS.out.symm, hgr⟩
  · have hs : sameb n m z y = false := by unfold sameb; exact decide_eq_false (fun h => hnm h.1)
    have HS := Lib.hid hs
    have hb : ((n : Int) != m) = true := bne_iff_ne.2 (by omega)
    clear hs
    go_enter Try.func18, Try.ntmps18
    go_wp2_with fail
    go_ret
    exact ⟨ret_bool HS.out.symm, g_refl _ _⟩

theorem Sl.bd {n : Nat} {f : Nat → Int} {t : Int} {k : Int} (h : ∀ i, i < n → 0 ≤ f i ∧ f i ≤ k) (hk : 0 ≤ k) : 0 ≤ sat n f t ∧ sat n f t ≤ k := by
  unfold sat
  split
  · exact h _ (by omega)
  · exact ⟨by omega, hk⟩

/-- the example's slots: one within; it has left -/
def f1 : Nat → Int := turnF 2 (fun _ => 0) 1 false
def f2 : Nat → Int := turnF 2 f1 1 true
def f3 : Nat → Int := turnF 2 f2 1 true
def y1 : Nat → Int := fun i => if i = 0 then 0 else 1

set_option maxHeartbeats 1600000 in
theorem awake_any (w : World) :
    Calls Try.prog 7 #[] w fun e w' => e = .returned (.bool true) ∧ w.grownBy w' none := by
  have e1 : Hid (turnR 2 (fun _ => 0) 1 false = 0) := Lib.hid (by decide)
  have e2 : Hid (turnR 2 f1 1 true = 0) := Lib.hid (by decide)
  have e3 : Hid (turnR 2 f2 1 true = 50) := Lib.hid (by decide)
  have e4 : Hid (turnR 2 f3 2 false = 5) := Lib.hid (by decide)
  have p1 : Hid (passb 2 f1 0 f1 = false) := Lib.hid (by decide)
  have p2 : Hid (passb 2 f2 0 f1 = true) := Lib.hid (by decide)
  have s1 : Hid (sameb 2 2 f1 y1 = true) := Lib.hid (by decide)
  go_enter Try.func7, Try.ntmps7
  go_wp2_with fail
  refine (new_ok 2 _ (by omega) (by omega)).mono ?_
  rintro e w1 ⟨rfl, h1, hg1⟩
  go_wp2_with fail
  refine (enter_any _ _ _ _ h1 1 (by omega) (by decide) (by decide)).mono ?_
  rw [e1.out]
  rintro e w2 ⟨rfl, h2, hg2⟩
  have h2 : Sl w2 w.heap.size 2 f1 := h2
  go_wp2_with fail
  refine (snap_any _ _ _ _ h2).mono ?_
  rintro e w3 ⟨v, rfl, ho3, hg3⟩
  obtain ⟨ao, c, rfl, hx, hxb⟩ := irow_of_own ho3
  have hlt2 := h2.lt
  have hne : ∀ a, ao = some a → a.block ≠ w.heap.size := fun a ha => by have := (hxb a ha).1; omega
  have HX := Lib.hid hx
  clear hx ho3
  go_wp2_with fail
  refine (passed_same _ _ _ _ (h2.keep hg3) _ _ _ _ (by omega) HX.out).mono ?_
  rw [p1.out]
  rintro e w4 ⟨rfl, hg4⟩
  have g3 := g_trans hg3 hg4
  go_wp2_with fail
  refine (leave_any _ _ _ _ (h2.keep g3) 1 (by omega) (by decide) (by decide)).mono ?_
  rw [e2.out]
  rintro e w5 ⟨rfl, h5, hg5⟩
  have h5 : Sl w5 w.heap.size 2 f2 := h5
  have HX5 := Lib.hid ((HX.out.keep hg4).keeps hg5 hne)
  go_wp2_with fail
  have hy : IRow (w5.alloc (.cells #[.int .i64 0, .int .i64 1] 3)) (some ⟨w5.heap.size, 0, none⟩) 2 y1 := fun i hi => ⟨_, _, rfl, by
    have hb := Blk.new w5 #[.int .i64 0, .int .i64 1] 3
    match i, hi with
    | 0, _ => exact hb.cell 0 _ rfl
    | 1, _ => exact hb.cell 1 _ rfl⟩
  refine (same_any _ _ _ _ _ _ _ _ _ (by omega) (by omega) (HX5.out.keep (g_alloc (g_refl _ _) _)) hy).mono ?_
  rw [s1.out]
  rintro e w6 ⟨rfl, hg6⟩
  have g6 := g_trans (g_alloc (g_refl w5 none) (.cells #[.int .i64 0, .int .i64 1] 3)) hg6
  clear hy
  have h6 := h5.keep g6
  go_wp2_with fail
  refine (passed_same _ _ _ _ h6 _ _ _ _ (by omega) (HX5.out.keep g6)).mono ?_
  rw [p2.out]
  rintro e w7 ⟨rfl, hg7⟩
  go_wp2_with fail
  refine (leave_any _ _ _ _ (h6.keep hg7) 1 (by omega) (by decide) (by decide)).mono ?_
  rw [e3.out]
  rintro e w8 ⟨rfl, h8, hg8⟩
  have h8 : Sl w8 w.heap.size 2 f3 := h8
  go_wp2_with fail
  refine (enter_any _ _ _ _ h8 2 (by omega) (by decide) (by decide)).mono ?_
  rw [e4.out]
  rintro e w9 ⟨rfl, h9, hg9⟩
  go_wp2_with fail
  go_ret
  exact ⟨rfl, g_in (g_in (g_trans (g_trans (g_in (g_trans (g_in hg1 hg2 (Nat.le_refl _)) g3) hg5 (Nat.le_refl _)) g6) hg7) hg8 (Nat.le_refl _)) hg9 (Nat.le_refl _)⟩
end Go.Proofs.Ytaggoepiandblaa
