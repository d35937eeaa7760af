/- The document's Same. -/
import Derived.Test.YtgfpmmiaidnfeaaK
namespace Go.Proofs.Ytgfpmmiaidnfeaa
open Go.RowKit
set_option linter.unusedVariables false

set_option maxHeartbeats 800000 in
theorem same_any (ao1 ao2 : Option Addr) (c1 c2 : Nat) (L : List (Int × Int)) (w : World) (h1 : SRow w ao1 L) (h2 : SRow w ao2 L) (hl : L.length < 4000) :
    Calls Try.prog 19 #[.slice ao1 L.length c1, .slice ao2 L.length c2] w fun e w' => e = .returned (.bool true) ∧ w.grownBy w' none := by
  obtain ⟨n, hn⟩ : ∃ n, L.length = n := ⟨_, rfl⟩
  rw [hn] at hl ⊢
  have hne : ((n : Int) != (n : Int)) = false := by simp
  have H1 := Lib.hid h1
  have H2 := Lib.hid h2
  have HN := Lib.hid hn
  clear h1 h2 hn
  go_enter Try.func19, Try.ntmps19
  go_wp2_with fail
  go_loopw [5] (fun i wr => ∃ m : Nat, m ≤ n ∧ i = .int .i64 m ∧ w.grownBy wr none) (fun i _ => (5000 - intOf i).toNat)
  case atStart => exact ⟨0, by omega, rfl, g_refl _ _⟩
  case round =>
    obtain ⟨m, hm, rfl, hgr⟩ := hrel
    by_cases hlt : m < n
    · obtain ⟨p, hp⟩ : ∃ p, L[m]? = some p := ⟨L[m]'(by rw [HN.out]; omega), List.getElem?_eq_getElem _⟩
      obtain ⟨b1, o1, rfl, k1, k2⟩ := (H1.out.keep hgr) m p hp
      obtain ⟨b2, o2, rfl, k3, k4⟩ := (H2.out.keep hgr) m p hp
      obtain ⟨p1, p2⟩ := p
      simp only at k1 k2 k3 k4
      have hpp1 : (p1 != p1) = false := by simp
      have hpp2 : (p2 != p2) = false := by simp
      clear hp
      have hmn : (m : Int) < n := by omega
      go_wp2_with fail
      go_quiet (fail)
      go_wp2_with fail
      go_roundw
      case rel => exact ⟨m + 1, by omega, by go_num, g_drewN hgr _⟩
      case measure => simp [intOf]; omega
    · go_wp2_with fail
      go_ret
      exact ⟨rfl, hgr⟩
end Go.Proofs.Ytgfpmmiaidnfeaa
