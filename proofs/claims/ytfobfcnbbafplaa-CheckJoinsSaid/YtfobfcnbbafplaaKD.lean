/- Which programs may be: Depth. -/
import Derived.Test.YtfobfcnbbafplaaKM
namespace Go.Proofs.Ytfobfcnbbafplaa
open Go.RowKit
set_option linter.unusedVariables false
set_option linter.unusedSimpArgs false

/-- how deep a program is, of one that may be -/
def depI (k n : Int) : Int := if k = 15 then n + 1 else if k = 17 then n - 1 else n
def depG (n m : Int) : List I4 → Int
  | [] => m
  | x :: r => depG (depI x.k n) (max m (depI x.k n)) r
def depA (P : List I4) : Int := if chkR (thrA P) = 0 then depG 0 0 P else 0

set_option maxRecDepth 100000 in
set_option maxHeartbeats 3200000 in
theorem depth_any (ao : Option Addr) (n c : Nat) (P : List I4) (w : World) (hP : IRow w ao P) (hn : P.length = n) (h5 : n < 100000) :
    Calls Try.prog 18 #[.slice ao n c] w fun e w' => e = .returned (.int .i64 (depA P)) ∧ w.grownBy w' none := by
  have HC := Lib.hid (check_any ao n c P w hP hn h5)
  have HP := Lib.hid hP
  have HN := Lib.hid hn
  have hq : Hid (depA P = if chkR (thrA P) = 0 then depG 0 0 P else 0) := Lib.hid rfl
  generalize chkR (thrA P) = ck at *
  generalize depA P = dp at *
  clear hP hn
  go_enter Try.func18, Try.ntmps18
  go_wp2_with fail
  refine HC.out.mono ?_
  rintro e w1 ⟨rfl, hg⟩
  have HG := Lib.hid hg
  clear hg
  by_cases hz : ck = 0
  · have hdp : Hid (dp = depG 0 0 P) := Lib.hid (by rw [hq.out, if_pos hz])
    subst hz
    go_wp2_with fail
    go_loopw [3, 4, 12] (fun d m i wr => ∃ (j : Nat) (dd mm : Int), d = .int .i64 dd ∧ m = .int .i64 mm ∧ i = .int .i64 j ∧ j ≤ n ∧ dd ≤ mm ∧ -(j : Int) ≤ dd ∧ mm ≤ j ∧ 0 ≤ mm ∧ depG 0 0 P = depG dd mm (P.drop j) ∧ w.grownBy wr none) (fun _ _ i _ => (n - intOf i).toNat)
    case atStart => exact ⟨0, 0, 0, rfl, rfl, rfl, Nat.zero_le _, Int.le_refl _, Int.le_refl _, Int.le_refl _, Int.le_refl _, rfl, HG.out⟩
    case round =>
      obtain ⟨j, dd, mm, rfl, rfl, rfl, hj, h1, h2, h3, h4, hf, hg⟩ := hrel
      by_cases hlt : j < n
      · have hji : (j : Int) < n := by omega
        obtain ⟨x, hx⟩ : ∃ x, P[j]? = some x := ⟨P[j]'(by rw [HN.out]; exact hlt), List.getElem?_eq_getElem _⟩
        obtain ⟨bp, offp, rfl, x0, x1, x2, x3⟩ := HP.out.keep hg j x hx
        have HF : Hid (depG 0 0 P = depG (depI x.k dd) (max mm (depI x.k dd)) (P.drop (j + 1))) := Lib.hid (by
          rw [hf, List.drop_eq_getElem_cons (by rw [HN.out]; exact hlt)]
          have : P[j]'(by rw [HN.out]; exact hlt) = x := by rw [List.getElem?_eq_getElem (by rw [HN.out]; exact hlt)] at hx; injection hx
          rw [this]; rfl)
        have ga := g_alloc (g_refl wr none) (.cells #[.int .i64 x.k, .int .i64 x.a, .int .i64 x.b, .int .i64 x.c] 31)
        have HG2 := Lib.hid (g_trans hg ga)
        have XB := (Blk.new wr #[.int .i64 x.k, .int .i64 x.a, .int .i64 x.b, .int .i64 x.c] 31)
        have z0 := XB.cell 0 _ rfl
        clear hx hf hg ga XB
        by_cases h15 : x.k = 15
        · obtain ⟨k, a, b, cc⟩ := x
          simp only at h15 x0 x1 x2 x3 z0 HG2 HF
          subst h15
          by_cases hm : mm < dd + 1
          · rw [show depI 15 dd = dd + 1 from rfl, show max mm (dd + 1) = dd + 1 from by omega] at HF
            go_wp2_with fail
            go_roundw
            case rel => exact ⟨j + 1, _, _, rfl, rfl, by go_num, by omega, by omega, by omega, by omega, by omega, HF.out, HG2.out⟩
            case measure => simp [intOf]; omega
          · rw [show depI 15 dd = dd + 1 from rfl, show max mm (dd + 1) = mm from by omega] at HF
            go_wp2_with fail
            go_roundw
            case rel => exact ⟨j + 1, _, _, rfl, rfl, by go_num, by omega, by omega, by omega, by omega, by omega, HF.out, HG2.out⟩
            case measure => simp [intOf]; omega
        by_cases h17 : x.k = 17
        · obtain ⟨k, a, b, cc⟩ := x
          simp only at h17 x0 x1 x2 x3 z0 HG2 HF
          subst h17
          have hm : ¬ mm < dd - 1 := by omega
          rw [show depI 17 dd = dd - 1 from rfl, show max mm (dd - 1) = mm from by omega] at HF
          go_wp2_with fail
          go_roundw
          case rel => exact ⟨j + 1, _, _, rfl, rfl, by go_num, by omega, by omega, by omega, by omega, by omega, HF.out, HG2.out⟩
          case measure => simp [intOf]; omega
        · have hm : ¬ mm < dd := by omega
          have hd : depI x.k dd = dd := by unfold depI; rw [if_neg h15, if_neg h17]
          have e15 : (x.k == 15) = false := by simp [h15]
          have e17 : (x.k == 17) = false := by simp [h17]
          rw [hd, show max mm dd = mm from by omega] at HF
          clear hd
          go_wp2_with fail
          go_roundw
          case rel => exact ⟨j + 1, _, _, rfl, rfl, by go_num, by omega, by omega, by omega, by omega, by omega, HF.out, HG2.out⟩
          case measure => simp [intOf]; omega
      · obtain rfl : j = n := by omega
        have hjj : ¬ (j : Int) < j := by omega
        have HE : Hid (dp = mm) := Lib.hid (by rw [hdp.out, hf, List.drop_eq_nil_of_le (by rw [HN.out]; exact Nat.le_refl _)]; rfl)
        have HGE := Lib.hid hg
        clear hg hf
        go_wp2_with fail
        go_ret
        exact ⟨by rw [HE.out]; rfl, HGE.out⟩
  · obtain rfl : dp = 0 := by rw [hq.out, if_neg hz]
    have hz2 : (ck != 0) = true := by simp [hz]
    go_wp2_with fail
    go_ret
    exact ⟨rfl, HG.out⟩

end Go.Proofs.Ytfobfcnbbafplaa
