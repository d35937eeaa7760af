/- The document's answer: the ways that are open; branches; what is wrong first. -/
import Derived.Test.YtfobfcnbbafplaaRB
import Derived.Test.YtfobfcnbbafplaaRP
namespace Go.Proofs.Ytfobfcnbbafplaa
open Go.RowKit
set_option linter.unusedVariables false
set_option linter.unusedSimpArgs false

theorem rstep_any (ao : Option Addr) (c : Nat) (L : List (Int × Int)) (x : I4) (kn : Int) (w : World) (h8 : L.length ≤ 8) (hS : SRow w ao L) (hc : L.length ≤ c) (hm : c ≤ 9223372036854775807) :
    Calls Try.prog 28 #[.slice ao L.length c, .agg #[.int .i64 x.k, .int .i64 x.a, .int .i64 x.b, .int .i64 x.c], .int .i64 kn] w fun e w' => PRst w w' e (rstep kn x.k L) := by
  obtain ⟨k, a, b, d⟩ := x
  simp only
  by_cases h15 : k = 15
  · subst h15; exact rstep_begin ao c L a b d kn w hS hc hm
  by_cases h16 : k = 16
  · subst h16; exact rstep_else ao c L a b d kn w (by omega) hS hc hm
  by_cases h17 : k = 17
  · subst h17; exact rstep_end ao c L a b d kn w hS hc hm
  by_cases h18 : k = 18
  · subst h18; exact rstep_retry ao c L a b d kn w hS hc hm
  by_cases h20 : k = 20
  · subst h20; exact rstep_halt ao c L a b d kn w hS hc hm
  exact rstep_other ao c L k a b d kn w h15 h16 h17 h18 h20 hS hc hm

/-- a row of ways, as a slice -/
def PRow (w w' : World) (v : Value) (L : List (Int × Int)) : Prop := ∃ ao c, v = .slice ao L.length c ∧ SRow w' ao L ∧ L.length ≤ c ∧ c ≤ 9223372036854775807 ∧ w.grownBy w' none
theorem prow_nil (w : World) : PRow w w (.slice none 0 0) [] := ⟨none, 0, rfl, fun i p h => (by cases h), Nat.le_refl _, by decide, g_refl _ _⟩

set_option maxRecDepth 100000 in
set_option maxHeartbeats 3200000 in
theorem opens_any (ao : Option Addr) (n c : Nat) (P : List I4) (m : Nat) (w : World) (hP : IRow w ao P) (hn : P.length = n) (h5 : n < 100000) (hm5 : m < 100000) :
    Calls Try.prog 33 #[.slice ao n c, .int .i64 m] w fun e w' => ∃ v, e = .returned v ∧ PRow w w' v (opn P m) := by
  have HP := Lib.hid hP
  have HN := Lib.hid hn
  clear hP hn
  go_enter Try.func33, Try.ntmps33
  go_wp2_with fail
  go_loopw [5, 6] (fun l i wr => ∃ (j : Nat) (v : Value), l = v ∧ i = .int .i64 j ∧ j ≤ m ∧ j ≤ n ∧ PRow w wr v (opn P j)) (fun _ i _ => (m - intOf i).toNat)
  case atStart => exact ⟨0, _, rfl, rfl, Nat.zero_le _, Nat.zero_le _, prow_nil w⟩
  case round =>
    obtain ⟨j, v, rfl, rfl, hj, hjn, bo, d, rfl, hr, hc1, hc2, hg⟩ := hrel
    by_cases hlt : j < m ∧ j < n
    · have hji : (j : Int) < m := by omega
      have hjn2 : (j : Int) < n := by omega
      have hjn3 : ¬ (n : Int) ≤ j := by omega
      obtain ⟨x, hx⟩ : ∃ x, P[j]? = some x := ⟨P[j]'(by rw [HN.out]; omega), List.getElem?_eq_getElem _⟩
      obtain ⟨bp, offp, rfl, x0, x1, x2, x3⟩ := HP.out.keep hg j x hx
      have HS := Lib.hid (rstep_any bo d (opn P j) x j wr (opn_len P j) hr hc1 hc2)
      have HX : Hid (opn P (j + 1) = (rstep j x.k (opn P j)).2) := Lib.hid (opn_succ hx)
      have HG := Lib.hid hg
      clear hr hg hx hc1 hc2
      generalize rstep j x.k (opn P j) = r at *
      go_wp2_with fail
      refine HS.out.mono ?_
      rintro e w2 ⟨bo2, d2, rfl, hr2, hc3, hc4, hg2⟩
      have HR2 := Lib.hid (And.intro hr2 (And.intro hc3 (And.intro hc4 (g_trans HG.out hg2))))
      clear hr2 hc3 hc4 hg2
      go_wp2_with fail
      go_roundw
      case rel => exact ⟨j + 1, _, rfl, by go_num, by omega, by omega, by rw [HX.out]; exact ⟨bo2, d2, rfl, HR2.out⟩⟩
      case measure => simp [intOf]; omega
    · have HE : Hid (opn P m = opn P j) := Lib.hid (by
        rcases Nat.lt_or_ge j m with h | h
        · obtain rfl : j = n := by omega
          have : ∀ t, j ≤ t → opn P t = opn P j := fun t ht => by
            induction t with
            | zero => obtain rfl : j = 0 := by omega
                      rfl
            | succ t ih =>
              rcases Nat.lt_or_ge j (t + 1) with h | h
              · rw [opn_over (by rw [HN.out]; omega)]; exact ih (by omega)
              · obtain rfl : j = t + 1 := by omega
                rfl
          exact this m (by omega)
        · obtain rfl : j = m := by omega
          rfl)
      have HR := Lib.hid (And.intro hr (And.intro hc1 (And.intro hc2 hg)))
      have hcs : ¬ (j : Int) < m ∨ ((j : Int) < m ∧ ¬ (j : Int) < n) := by omega
      clear hr hg hc1 hc2
      rcases hcs with h1 | ⟨h1, h2⟩
      all_goals
        go_wp2_with fail
        go_ret
        exact ⟨_, rfl, by rw [HE.out]; exact ⟨bo, d, rfl, HR.out⟩⟩

set_option maxRecDepth 100000 in
set_option maxHeartbeats 3200000 in
theorem branch_any (ao : Option Addr) (n c : Nat) (P : List I4) (m : Nat) (w : World) (hP : IRow w ao P) (hn : P.length = n) (h5 : n < 100000) (hm5 : m < 100000) :
    Calls Try.prog 30 #[.slice ao n c, .int .i64 m] w fun e w' => e = .returned (.agg #[.int .i64 (topP (opn P m)).1, .int .i64 (topP (opn P m)).2]) ∧ w.grownBy w' none := by
  have g1 : w.grownBy (w.alloc (.cells #[.int .i64 0, .int .i64 0] 58)) none := g_alloc (g_refl _ _) _
  have HN := Lib.hid (Blk.new w #[.int .i64 0, .int .i64 0] 58)
  have HO := Lib.hid (opens_any ao n c P m _ (hP.keep g1) hn h5 hm5)
  have G1 := Lib.hid g1
  clear g1 hP hn
  generalize opn P m = L at *
  go_enter Try.func30, Try.ntmps30
  go_wp2_with fail
  refine HO.out.mono ?_
  rintro e w1 ⟨v, rfl, bo, d, rfl, hr, hc1, hc2, hg⟩
  have HN := Lib.hid (HN.out.keepn hg)
  have G2 := Lib.hid (g_trans G1.out hg)
  clear hg HO
  have f0 := HN.out.free 0
  have f1 := HN.out.free 1
  have z0 := HN.out.cell 0 (.int .i64 0) rfl
  have z1 := HN.out.cell 1 (.int .i64 0) rfl
  rcases List.eq_nil_or_concat L with rfl | ⟨R, p, rfl⟩
  · simp only [List.length_nil] at hc1 ⊢
    go_wp2_with fail
    have hF := (HN.out.set 0 (.int .i64 (-1))).set 1 (.int .i64 0)
    have k0 := hF.cell 0 (.int .i64 (-1)) rfl
    have k1 := hF.cell 1 (.int .i64 0) rfl
    have gg := g_in G2.out (g_set (g_set (g_refl w1 (some w.heap.size)) (p := ⟨w.heap.size, 0, none⟩) (.inl rfl) (.int .i64 (-1))) (p := ⟨w.heap.size, 1, none⟩) (.inl rfl) (.int .i64 0)) (Nat.le_refl _)
    exact bodyPost_ret (v := .agg #[.int .i64 (-1), .int .i64 0]) (by simp [results, Try.results30, go_sem, k0, k1]) rfl ⟨rfl, gg⟩
  · rw [List.concat_eq_append] at *
    obtain ⟨bb, off, rfl, hc3, hc4⟩ := hr R.length p (by simp)
    have hl : (R ++ [p]).length = R.length + 1 := by simp
    rw [hl] at hc1 ⊢
    obtain ⟨p1, p2⟩ := p
    have HTP : Hid (topP (R ++ [(p1, p2)]) = (p1, p2)) := Lib.hid (topP_snoc _ _)
    clear hr hl
    simp only at hc3 hc4
    obtain ⟨r, hrr⟩ : ∃ r, R.length = r := ⟨_, rfl⟩
    rw [hrr] at hc3 hc4 hc1 ⊢
    clear hrr
    have hsub : ((r : Int) + 1 - 1) = r := by omega
    have hnz2 : ¬ ((r : Int) + 1) = 0 := by omega
    have hn1 : r < r + 1 := by omega
    go_wp2_with fail
    have hF := ((HN.out.set 0 (.int .i64 p1)).set 1 (.int .i64 p2))
    have k0 := hF.cell 0 (.int .i64 p1) rfl
    have k1 := hF.cell 1 (.int .i64 p2) rfl
    have gg := g_in G2.out (g_set (g_set (g_refl w1 (some w.heap.size)) (p := ⟨w.heap.size, 0, none⟩) (.inl rfl) (.int .i64 p1)) (p := ⟨w.heap.size, 1, none⟩) (.inl rfl) (.int .i64 p2)) (Nat.le_refl _)
    exact bodyPost_ret (v := .agg #[.int .i64 p1, .int .i64 p2]) (by simp [results, Try.results30, go_sem, k0, k1]) rfl ⟨by rw [List.concat_eq_append, HTP.out], gg⟩
end Go.Proofs.Ytfobfcnbbafplaa
