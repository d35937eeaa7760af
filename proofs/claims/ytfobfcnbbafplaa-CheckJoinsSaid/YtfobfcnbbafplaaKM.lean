/- Which programs may be: Mates. -/
import Derived.Test.YtfobfcnbbafplaaK
namespace Go.Proofs.Ytfobfcnbbafplaa
open Go.RowKit
set_option linter.unusedVariables false
set_option linter.unusedSimpArgs false

theorem own_mono {w : World} {B B' : Nat} {e : TypeId} {size n : Nat} {v : Value} {xs : List Value} (h : w.ownsRow B e size v n xs) (hB : B' ≤ B) : w.ownsRow B' e size v n xs := by
  refine ⟨h.1, ?_⟩
  rcases h.2 with hn | ⟨g, cap, cur, rfl, hb, rest⟩
  · exact .inl hn
  · exact .inr ⟨g, cap, cur, rfl, Nat.le_trans hB hb, rest⟩
/-- what Mates answers -/
def matR (r : Res) : List Int := if chkR r = 0 then r.M else []
def PMat (w w' : World) (e : Ending) (r : Res) : Prop := ∃ v, e = .returned (.tuple #[v, .int .i64 (chkR r)]) ∧ w'.ownsRow w.heap.size 3 1 v (matR r).length (icl (matR r)) ∧ w.grownBy w' none

set_option maxRecDepth 100000 in
set_option maxHeartbeats 1600000 in
theorem mates_any (ao : Option Addr) (n c : Nat) (P : List I4) (w : World) (hP : IRow w ao P) (hn : P.length = n) (h5 : n < 100000) :
    Calls Try.prog 10 #[.slice ao n c] w fun e w' => PMat w w' e (thrA P) := by
  have HC := Lib.hid (check_any ao n c P w hP hn h5)
  have HT := Lib.hid (fun w' g => through_all ao n c P w' (hP.keep g) hn h5)
  clear hP hn
  generalize thrA P = r at *
  have HR : Hid (∀ w w' v, matR r = r.M → chkR r = 0 → w'.ownsRow w.heap.size 3 1 v r.M.length (icl r.M) → w.grownBy w' none → PMat w w' (.returned (.tuple #[v, .int .i64 0])) r) := Lib.hid (fun w w' v h1 h0 h2 h3 => ⟨v, by rw [h0], by rw [h1]; exact h2, h3⟩)
  have HQ : Hid (∀ w w', chkR r ≠ 0 → w.grownBy w' none → PMat w w' (.returned (.tuple #[.slice none 0 0, .int .i64 (chkR r)])) r) := Lib.hid (fun w w' h0 h3 => ⟨_, rfl, by unfold matR; rw [if_neg h0]; exact World.ownsRow_nil _ _ _ _, h3⟩)
  have HM : Hid (chkR r = 0 → matR r = r.M) := Lib.hid (fun h => by unfold matR; rw [if_pos h])
  generalize chkR r = ck at *
  go_enter Try.func10, Try.ntmps10
  go_wp2_with fail
  refine HC.out.mono ?_
  rintro e w1 ⟨rfl, hg⟩
  have HG := Lib.hid hg
  clear hg
  by_cases hz : ck = 0
  · subst hz
    go_wp2_with fail
    refine (HT.out _ HG.out).mono ?_
    rintro e w2 ⟨b, rfl, hw, hg⟩
    have G2 := Lib.hid (g_trans HG.out hg)
    obtain ⟨h0, lv, av, mv, k1, k2, k3, k4, k5⟩ := hw
    have c2 := k1.cell 2 _ rfl
    have HO : Hid (w2.ownsRow w.heap.size 3 1 mv r.M.length (icl r.M)) := Lib.hid (own_mono k4 HG.out.size)
    clear hg k1 k2 k3 k4 k5 h0
    go_wp2_with fail
    go_ret2
    exact HR.out _ _ _ (HM.out (by simp)) (by simp) HO.out G2.out
  · have hz2 : (ck != 0) = true := by simp [hz]
    go_wp2_with fail
    go_ret2
    exact HQ.out _ _ hz HG.out

end Go.Proofs.Ytfobfcnbbafplaa
