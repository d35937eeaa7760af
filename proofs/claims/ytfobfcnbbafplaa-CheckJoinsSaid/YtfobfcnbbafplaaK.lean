/- Which programs may be: Wrong, Check. -/
import Derived.Test.YtfobfcnbbafplaaV
namespace Go.Proofs.Ytfobfcnbbafplaa
open Go.RowKit
set_option linter.unusedVariables false
set_option linter.unusedSimpArgs false

set_option maxRecDepth 100000 in
set_option maxHeartbeats 1600000 in
theorem wrong_any (ao : Option Addr) (n c : Nat) (P : List I4) (w : World) (hP : IRow w ao P) (hn : P.length = n) (h5 : n < 100000) :
    Calls Try.prog 12 #[.slice ao n c] w fun e w' => e = .returned (.int .i64 (thrA P).bad) ∧ w.grownBy w' none := by
  have HT := Lib.hid (through_all ao n c P w hP hn h5)
  clear hP hn
  generalize thrA P = r at *
  obtain ⟨L, T, M, bad, deep⟩ := r
  go_enter Try.func12, Try.ntmps12
  go_wp2_with fail
  refine HT.out.mono ?_
  rintro e w1 ⟨b, rfl, hw, hg⟩
  have c3 := (hw.bset 0).1
  simp only at c3
  go_wp2_with fail
  go_ret
  exact ⟨rfl, hg⟩

/-- what Check answers -/
def chkR (r : Res) : Int := if r.bad < 0 then 0 else if r.deep then 140 else 120

set_option maxRecDepth 100000 in
set_option maxHeartbeats 1600000 in
theorem check_any (ao : Option Addr) (n c : Nat) (P : List I4) (w : World) (hP : IRow w ao P) (hn : P.length = n) (h5 : n < 100000) :
    Calls Try.prog 14 #[.slice ao n c] w fun e w' => e = .returned (.int .i64 (chkR (thrA P))) ∧ w.grownBy w' none := by
  have HT := Lib.hid (through_all ao n c P w hP hn h5)
  clear hP hn
  generalize thrA P = r at *
  obtain ⟨L, T, M, bad, deep⟩ := r
  have hck : Hid (chkR ⟨L, T, M, bad, deep⟩ = if bad < 0 then 0 else if deep then 140 else 120) := Lib.hid rfl
  generalize chkR ⟨L, T, M, bad, deep⟩ = ck at *
  go_enter Try.func14, Try.ntmps14
  go_wp2_with fail
  refine HT.out.mono ?_
  rintro e w1 ⟨b, rfl, hw, hg⟩
  have c3 := (hw.bset 0).1
  have c4 := (hw.dset false).1
  simp only at c3 c4
  have HG := Lib.hid hg
  clear hw hg
  by_cases hb : bad < 0
  · obtain rfl : ck = 0 := by rw [hck.out, if_pos hb]
    go_wp2_with fail
    go_ret
    exact ⟨rfl, HG.out⟩
  · cases deep
    · obtain rfl : ck = 120 := by rw [hck.out, if_neg hb]; rfl
      go_wp2_with fail
      go_ret
      exact ⟨rfl, HG.out⟩
    · obtain rfl : ck = 140 := by rw [hck.out, if_neg hb]; rfl
      go_wp2_with fail
      go_ret
      exact ⟨rfl, HG.out⟩
end Go.Proofs.Ytfobfcnbbafplaa
