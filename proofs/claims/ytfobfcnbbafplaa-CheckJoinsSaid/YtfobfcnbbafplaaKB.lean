/- Which programs may be: Branch; Blocks. -/
import Derived.Test.YtfobfcnbbafplaaRP
import Derived.Test.YtfobfcnbbafplaaO
import Derived.Deep.RegionHeld3
import Derived.Deep.DeepCutAuto
import Derived.Deep.CutBlock
namespace Go.Proofs.Ytfobfcnbbafplaa
open Go.RowKit
set_option linter.unusedVariables false
set_option linter.unusedSimpArgs false

/-- what a program that may be leaves -/
theorem thr_acc {P : List I4} (h : (thrA P).bad < 0) : 1 ≤ P.length ∧ P.length ≤ 512 ∧ Okj P P.length ∧ opn P P.length = [] ∧ firstBad P.length (tops P (P.length + 1)) 0 P = -1 ∧ thrA P = ⟨[], tops P (P.length + 1), matJ P P.length, -1, false⟩ := by
  by_cases hl : P.length < 1 ∨ 512 < P.length
  · have e : thrA P = ⟨[], [], List.replicate P.length (-1), 0, false⟩ := by unfold thrA; rw [if_pos hl]
    rw [e] at h; exact absurd h (by simp)
  · rcases okj_or P P.length (Nat.le_refl _) with hj | ⟨t, x, ht, h1, h2, h3⟩
    · by_cases ho : opn P P.length = []
      · have e := thr_full (by omega) (by omega) hj ho
        rw [e] at h
        simp only at h
        have hf : firstBad P.length (tops P (P.length + 1)) 0 P = -1 := by
          rcases firstBad_cases P.length (tops P (P.length + 1)) P 0 with hh | ⟨t, x, q1, q2, q3⟩
          · exact hh
          · rw [q2] at h; omega
        exact ⟨by omega, by omega, hj, ho, hf, by rw [e, hf]⟩
      · obtain ⟨e1, e2⟩ := thr_open2 (by omega) (by omega) hj ho
        rw [e1] at h; omega
    · obtain ⟨e1, e2⟩ := thr_stop (by omega) (by omega) h1 h2 h3
      rw [e1] at h; omega
theorem chk_zero (r : Res) : chkR r = 0 ↔ r.bad < 0 := by
  unfold chkR
  split
  · simp_all
  · split <;> simp_all
theorem tops_get (P : List I4) {j t : Nat} (h : t < j) : (tops P j)[t]? = some ((topP (opn P t)).1, (topP (opn P t)).2) := by
  simp [tops, h]
/-- the branch of a place -/
def brA (P : List I4) (place : Int) : Int × Int := if (thrA P).bad < 0 ∧ 0 ≤ place ∧ place ≤ P.length then topP (opn P place.toNat) else (-1, 0)

set_option maxRecDepth 100000 in
set_option maxHeartbeats 3200000 in
theorem cbranch_any (ao : Option Addr) (n c : Nat) (P : List I4) (pl : Int) (w : World) (hP : IRow w ao P) (hn : P.length = n) (h5 : n < 100000) :
    Calls Try.prog 16 #[.slice ao n c, .int .i64 pl] w fun e w' => e = .returned (.tuple #[.int .i64 (brA P pl).1, .int .i64 (brA P pl).2]) ∧ w.grownBy w' none := by
  have HT := Lib.hid (through_all ao n c P w hP hn h5)
  have HN := Lib.hid hn
  have HA := Lib.hid (fun h => thr_acc (P := P) h)
  have HB : Hid (brA P pl = if (thrA P).bad < 0 ∧ 0 ≤ pl ∧ pl ≤ P.length then topP (opn P pl.toNat) else (-1, 0)) := Lib.hid rfl
  generalize brA P pl = br at *
  generalize thrA P = r at *
  clear hP hn
  obtain ⟨L, T, M, bad, deep⟩ := r
  obtain ⟨br1, br2⟩ := br
  simp only at *
  by_cases hin : bad < 0 ∧ 0 ≤ pl ∧ pl ≤ n
  · obtain ⟨hb, hp0, hp1⟩ := hin
    obtain ⟨p, rfl⟩ : ∃ p : Nat, pl = p := ⟨pl.toNat, by omega⟩
    obtain ⟨-, -, -, -, -, hres⟩ := HA.out hb
    injection hres with r1 r2 r3 r4 r5
    subst r1 r2 r4 r5
    have hbr : topP (opn P p) = (br1, br2) := by rw [HB.out, if_pos (by rw [HN.out]; exact ⟨by decide, hp0, hp1⟩), Int.toNat_natCast]
    have hat : (tops P (P.length + 1))[p]? = some (br1, br2) := by rw [tops_get P (by rw [HN.out]; omega), hbr]
    have hTL : (tops P (P.length + 1)).length = n + 1 := by rw [tops_len, HN.out]
    have HTL := Lib.hid hTL
    have HAT := Lib.hid hat
    clear HB hbr hat HA hb r3 hTL
    have hb0 : ¬ (0 : Int) ≤ -1 := by decide
    have hp2 : ¬ (p : Int) < 0 := by omega
    have hp3 : ¬ (n : Int) < p := by omega
    have hp4 : ¬ (n : Int) + 1 ≤ p := by omega
    generalize tops P (P.length + 1) = T at *
    go_enter Try.func16, Try.ntmps16
    go_wp2_with fail
    refine HT.out.mono ?_
    rintro e w1 ⟨b, rfl, hw, hg⟩
    have c3 := (hw.bset 0).1
    obtain ⟨hBb, lv, av, mv, k1, k2, k3, k4, k5⟩ := hw
    obtain ⟨aa, ac, rfl, hsr, -⟩ := srow_of_own k3
    have hlc := (len_own k3).1
    have hlm := (len_own k3).2
    have c1 := k1.cell 1 _ rfl
    simp only at c1 c3 hlc hsr
    rw [HTL.out] at c1 hlc
    obtain ⟨ab, aoff, rfl, u0, u1⟩ := hsr p _ HAT.out
    simp only at u0 u1
    have D := Lib.hid (And.intro c1 (And.intro u0 u1))
    have HG := Lib.hid hg
    clear k1 k2 k3 k4 k5 hsr u0 u1 hg c1
    go_upto_region 4 with fail
    refine wp_region_held_drew (S := fun W' => w1.grownBy W' none) (by kernel_rfl) (g_drew (g_refl _ _)) (fun hHeld => ?_)
    refine wpAnyH_take (i := 0) (v := .pointer (some ⟨b, 0, none⟩)) rfl (by kernel_rfl) (by kernel_rfl) (by kernel_rfl) (fun _ _ _ h => h) (Or.inl ⟨by rfl, fun w hw => by clear hw; go_simp⟩) hHeld ?_
    try simp only [Act.put, List.setIfInBounds_toArray, List.set_cons_zero, List.set_cons_succ, List.getElem_toArray, List.getElem_cons_zero, List.getElem_cons_succ]
    refine wpAnyH_take (i := 1) (v := .pointer (some ⟨b, 0, none⟩)) rfl (by kernel_rfl) (by kernel_rfl) (by kernel_rfl) (fun _ _ _ h => h) (Or.inl ⟨by rfl, fun w hw => by clear hw; go_simp⟩) hHeld ?_
    try simp only [Act.put, List.setIfInBounds_toArray, List.set_cons_zero, List.set_cons_succ, List.getElem_toArray, List.getElem_cons_zero, List.getElem_cons_succ]
    refine wpAnyH_take (i := 2) (v := .pointer (some ⟨b, 1, none⟩)) rfl (by kernel_rfl) (by kernel_rfl) (by kernel_rfl) (fun _ _ _ h => h) (Or.inl ⟨by rfl, fun w hw => by clear hw; go_simp⟩) hHeld ?_
    try simp only [Act.put, List.setIfInBounds_toArray, List.set_cons_zero, List.set_cons_succ, List.getElem_toArray, List.getElem_cons_zero, List.getElem_cons_succ]
    refine wpAnyH_take (i := 3) (v := .slice (some ⟨ab, aoff, none⟩) (n + 1) ac) rfl (by kernel_rfl) (by kernel_rfl) (by kernel_rfl) (fun _ _ _ h => h) (Or.inl ⟨by rfl, fun w hw => by have q0 := hw.cell D.out.1 (by simp); clear hw; go_simp⟩) hHeld ?_
    try simp only [Act.put, List.setIfInBounds_toArray, List.set_cons_zero, List.set_cons_succ, List.getElem_toArray, List.getElem_cons_zero, List.getElem_cons_succ]
    refine wpAnyH_take (i := 4) (v := .int .i64 (p : Int)) rfl (by kernel_rfl) (by kernel_rfl) (by kernel_rfl) (fun _ _ _ h => h) (Or.inl ⟨by rfl, fun w hw => by clear hw; go_simp⟩) hHeld ?_
    try simp only [Act.put, List.setIfInBounds_toArray, List.set_cons_zero, List.set_cons_succ, List.getElem_toArray, List.getElem_cons_zero, List.getElem_cons_succ]
    refine wpAnyH_take (i := 5) (v := .pointer (some ⟨ab, aoff + p * 2, none⟩)) rfl (by kernel_rfl) (by kernel_rfl) (by kernel_rfl) (fun _ _ _ h => h) (Or.inl ⟨by rfl, fun w hw => by clear hw; go_simp⟩) hHeld ?_
    try simp only [Act.put, List.setIfInBounds_toArray, List.set_cons_zero, List.set_cons_succ, List.getElem_toArray, List.getElem_cons_zero, List.getElem_cons_succ]
    refine wpAnyH_take (i := 6) (v := .pointer (some ⟨ab, aoff + p * 2, none⟩)) rfl (by kernel_rfl) (by kernel_rfl) (by kernel_rfl) (fun _ _ _ h => h) (Or.inl ⟨by rfl, fun w hw => by clear hw; go_simp⟩) hHeld ?_
    try simp only [Act.put, List.setIfInBounds_toArray, List.set_cons_zero, List.set_cons_succ, List.getElem_toArray, List.getElem_cons_zero, List.getElem_cons_succ]
    refine wpAnyH_take (i := 7) (v := .int .i64 br1) rfl (by kernel_rfl) (by kernel_rfl) (by kernel_rfl) (fun _ _ _ h => h) (Or.inl ⟨by rfl, fun w hw => by have q0 := hw.cell D.out.2.1 (by simp); clear hw; go_simp⟩) hHeld ?_
    try simp only [Act.put, List.setIfInBounds_toArray, List.set_cons_zero, List.set_cons_succ, List.getElem_toArray, List.getElem_cons_zero, List.getElem_cons_succ]
    refine wpAnyH_take (i := 8) (v := .pointer (some ⟨b, 0, none⟩)) rfl (by kernel_rfl) (by kernel_rfl) (by kernel_rfl) (fun _ _ _ h => h) (Or.inl ⟨by rfl, fun w hw => by clear hw; go_simp⟩) hHeld ?_
    try simp only [Act.put, List.setIfInBounds_toArray, List.set_cons_zero, List.set_cons_succ, List.getElem_toArray, List.getElem_cons_zero, List.getElem_cons_succ]
    refine wpAnyH_take (i := 9) (v := .pointer (some ⟨b, 0, none⟩)) rfl (by kernel_rfl) (by kernel_rfl) (by kernel_rfl) (fun _ _ _ h => h) (Or.inl ⟨by rfl, fun w hw => by clear hw; go_simp⟩) hHeld ?_
    try simp only [Act.put, List.setIfInBounds_toArray, List.set_cons_zero, List.set_cons_succ, List.getElem_toArray, List.getElem_cons_zero, List.getElem_cons_succ]
    refine wpAnyH_take (i := 10) (v := .pointer (some ⟨b, 1, none⟩)) rfl (by kernel_rfl) (by kernel_rfl) (by kernel_rfl) (fun _ _ _ h => h) (Or.inl ⟨by rfl, fun w hw => by clear hw; go_simp⟩) hHeld ?_
    try simp only [Act.put, List.setIfInBounds_toArray, List.set_cons_zero, List.set_cons_succ, List.getElem_toArray, List.getElem_cons_zero, List.getElem_cons_succ]
    refine wpAnyH_take (i := 11) (v := .slice (some ⟨ab, aoff, none⟩) (n + 1) ac) rfl (by kernel_rfl) (by kernel_rfl) (by kernel_rfl) (fun _ _ _ h => h) (Or.inl ⟨by rfl, fun w hw => by have q0 := hw.cell D.out.1 (by simp); clear hw; go_simp⟩) hHeld ?_
    try simp only [Act.put, List.setIfInBounds_toArray, List.set_cons_zero, List.set_cons_succ, List.getElem_toArray, List.getElem_cons_zero, List.getElem_cons_succ]
    refine wpAnyH_take (i := 12) (v := .int .i64 (p : Int)) rfl (by kernel_rfl) (by kernel_rfl) (by kernel_rfl) (fun _ _ _ h => h) (Or.inl ⟨by rfl, fun w hw => by clear hw; go_simp⟩) hHeld ?_
    try simp only [Act.put, List.setIfInBounds_toArray, List.set_cons_zero, List.set_cons_succ, List.getElem_toArray, List.getElem_cons_zero, List.getElem_cons_succ]
    refine wpAnyH_take (i := 13) (v := .pointer (some ⟨ab, aoff + p * 2, none⟩)) rfl (by kernel_rfl) (by kernel_rfl) (by kernel_rfl) (fun _ _ _ h => h) (Or.inl ⟨by rfl, fun w hw => by clear hw; go_simp⟩) hHeld ?_
    try simp only [Act.put, List.setIfInBounds_toArray, List.set_cons_zero, List.set_cons_succ, List.getElem_toArray, List.getElem_cons_zero, List.getElem_cons_succ]
    refine wpAnyH_take (i := 14) (v := .pointer (some ⟨ab, aoff + p * 2 + 1, none⟩)) rfl (by kernel_rfl) (by kernel_rfl) (by kernel_rfl) (fun _ _ _ h => h) (Or.inl ⟨by rfl, fun w hw => by clear hw; go_simp⟩) hHeld ?_
    try simp only [Act.put, List.setIfInBounds_toArray, List.set_cons_zero, List.set_cons_succ, List.getElem_toArray, List.getElem_cons_zero, List.getElem_cons_succ]
    refine wpAnyH_take (i := 15) (v := .int .i64 br2) rfl (by kernel_rfl) (by kernel_rfl) (by kernel_rfl) (fun _ _ _ h => h) (Or.inl ⟨by rfl, fun w hw => by have q0 := hw.cell D.out.2.2 (by simp); clear hw; go_simp⟩) hHeld ?_
    try simp only [Act.put, List.setIfInBounds_toArray, List.set_cons_zero, List.set_cons_succ, List.getElem_toArray, List.getElem_cons_zero, List.getElem_cons_succ]
    refine wpAnyH_take (i := 16) (v := .int .i64 br1) rfl (by kernel_rfl) (by kernel_rfl) (by kernel_rfl) (fun _ _ _ h => h) (Or.inl ⟨by rfl, fun w hw => by clear hw; go_simp⟩) hHeld ?_
    try simp only [Act.put, List.setIfInBounds_toArray, List.set_cons_zero, List.set_cons_succ, List.getElem_toArray, List.getElem_cons_zero, List.getElem_cons_succ]
    refine wpAnyH_take (i := 17) (v := .int .i64 br2) rfl (by kernel_rfl) (by kernel_rfl) (by kernel_rfl) (fun _ _ _ h => h) (Or.inl ⟨by rfl, fun w hw => by clear hw; go_simp⟩) hHeld ?_
    try simp only [Act.put, List.setIfInBounds_toArray, List.set_cons_zero, List.set_cons_succ, List.getElem_toArray, List.getElem_cons_zero, List.getElem_cons_succ]
    refine wpAnyH_done (by kernel_rfl) ?_ _
    go_wp2_with fail
    go_ret2
    exact ⟨rfl, g_trans HG.out hHeld⟩
  · obtain ⟨h1, h2⟩ : br1 = -1 ∧ br2 = 0 := by
      have := HB.out
      rw [if_neg (by rw [HN.out]; exact hin)] at this
      injection this with q1 q2
      exact ⟨q1, q2⟩
    subst h1 h2
    have hcs : (0 : Int) ≤ bad ∨ (¬ (0 : Int) ≤ bad ∧ pl < 0) ∨ (¬ (0 : Int) ≤ bad ∧ ¬ pl < 0 ∧ (n : Int) < pl) := by omega
    clear HB hin HA
    rcases hcs with h1 | ⟨h1, h2⟩ | ⟨h1, h2, h3⟩
    all_goals
      go_enter Try.func16, Try.ntmps16
      go_wp2_with fail
      refine HT.out.mono ?_
      rintro e w1 ⟨b, rfl, hw, hg⟩
      have c3 := (hw.bset 0).1
      simp only at c3
      go_wp2_with fail
      go_ret2
      exact ⟨rfl, hg⟩
end Go.Proofs.Ytfobfcnbbafplaa
