/- The document's answer: what is wrong first; which programs may be. -/
import Derived.Test.YtfobfcnbbafplaaRC
namespace Go.Proofs.Ytfobfcnbbafplaa
open Go.RowKit
set_option linter.unusedVariables false
set_option linter.unusedSimpArgs false

theorem bad_short {P : List I4} (h : P.length < 1 ∨ 512 < P.length) : (thrA P).bad = 0 := by unfold thrA; rw [if_pos h]
theorem bad_full {P : List I4} (h1 : 1 ≤ P.length) (h5 : P.length ≤ 512) (hj : Okj P P.length) (ho : opn P P.length = []) : (thrA P).bad = firstBad P.length (tops P (P.length + 1)) 0 P := by rw [thr_full h1 h5 hj ho]
/-- the test of a jump, by branches -/
theorem jump_by {P : List I4} {x : I4} {k : Nat} (h : okx x = true) (hk : k < P.length) :
    ∃ bd tt : _, tgt x.k x.a x.b = tt ∧ (isJ x.k && (decide ((P.length : Int) < tgt x.k x.a x.b) || decide ((tops P (P.length + 1)).getD (tgt x.k x.a x.b).toNat (0, 0) ≠ (tops P (P.length + 1)).getD k (0, 0)))) = bd ∧
    ((isJ x.k = false ∧ bd = false) ∨ (isJ x.k = true ∧ (P.length : Int) < tt ∧ bd = true) ∨ (isJ x.k = true ∧ ∃ (t : Nat) (p1 p2 q1 q2 : Int), tt = (t : Int) ∧ t ≤ P.length ∧ topP (opn P t) = (p1, p2) ∧ topP (opn P k) = (q1, q2) ∧
      ((bd = true ∧ ¬ p1 = q1) ∨ (bd = true ∧ p1 = q1 ∧ ¬ p2 = q2) ∨ (bd = false ∧ p1 = q1 ∧ p2 = q2)))) := by
  obtain ⟨bd, tt, h1, h2, h3⟩ := jump_cases (T := tops P (P.length + 1)) h (tops_len P _) hk
  refine ⟨bd, tt, h1, h2, ?_⟩
  rcases h3 with h3 | h3 | ⟨h3, t, p1, p2, q1, q2, h4, h5, h6, h7, h8⟩
  · exact .inl h3
  · exact .inr (.inl h3)
  · refine .inr (.inr ⟨h3, t, p1, p2, q1, q2, h4, h5, ?_, ?_, h8⟩)
    · have := tops_at P (j := P.length + 1) (t := t) (by omega)
      rw [List.getD, h6] at this; exact this.symm
    · have := tops_at P (j := P.length + 1) (t := k) (by omega)
      rw [List.getD, h7] at this; exact this.symm

set_option maxRecDepth 100000 in
set_option maxHeartbeats 6400000 in
theorem rwrong_any (ao : Option Addr) (n c : Nat) (P : List I4) (w : World) (hP : IRow w ao P) (hn : P.length = n) (h5 : n < 100000) :
    Calls Try.prog 13 #[.slice ao n c] w fun e w' => e = .returned (.int .i64 (thrA P).bad) ∧ w.grownBy w' none := by
  have HP := Lib.hid hP
  have HN := Lib.hid hn
  obtain ⟨bd0, hbd0⟩ : ∃ b, (thrA P).bad = b := ⟨_, rfl⟩
  have HB := Lib.hid hbd0
  rw [hbd0]
  clear hP hbd0
  by_cases hs : n < 1 ∨ 512 < n
  · obtain rfl : bd0 = 0 := by rw [← HB.out]; exact bad_short (by rw [HN.out]; exact hs)
    have hdec : (n : Int) < 1 ∨ (¬ (n : Int) < 1 ∧ (512 : Int) < n) := by omega
    clear hs hn
    rcases hdec with h1 | ⟨h1, h2⟩
    all_goals
      go_enter Try.func13, Try.ntmps13
      go_wp2_with fail
      go_ret
      exact ⟨rfl, g_refl _ _⟩
  · have h1 : ¬ (n : Int) < 1 := by omega
    have h2 : ¬ (512 : Int) < n := by omega
    have hn1 : 1 ≤ n := by omega
    have hn5 : n ≤ 512 := by omega
    clear hs hn
    go_enter Try.func13, Try.ntmps13
    go_wp2_with fail
    go_loopw [3, 4] (fun l i wr => ∃ (j : Nat) (v : Value), l = v ∧ i = .int .i64 j ∧ j ≤ n ∧ Okj P j ∧ PRow w wr v (opn P j)) (fun _ i _ => (n - intOf i).toNat)
    case atStart => exact ⟨0, _, rfl, rfl, Nat.zero_le _, okj_zero P, prow_nil w⟩
    case round =>
      obtain ⟨j, v, rfl, rfl, hj, hok, bo, d, rfl, hr, hc1, hc2, hg⟩ := hrel
      by_cases hlt : j < n
      · have hji : (j : Int) < n := by omega
        have hjj : ¬ (n : Int) ≤ j := by omega
        obtain ⟨x, hx⟩ : ∃ x, P[j]? = some x := ⟨P[j]'(by rw [HN.out]; omega), List.getElem?_eq_getElem _⟩
        obtain ⟨bp, offp, rfl, x0, x1, x2, x3⟩ := HP.out.keep hg j x hx
        have HS := Lib.hid (rstep_any bo d (opn P j) x j wr (opn_len P j) hr hc1 hc2)
        have HX : Hid (opn P (j + 1) = (rstep j x.k (opn P j)).2) := Lib.hid (opn_succ hx)
        have HI := Lib.hid (fun w => is_x x w)
        have HQ : Hid (∀ r : Bool, (okx x = false ∨ (rstep j x.k (opn P j)).1 = false) → bd0 = j) := Lib.hid (fun _ h => by rw [← HB.out]; exact (thr_stop (by rw [HN.out]; exact hn1) (by rw [HN.out]; exact hn5) hok hx h).1)
        have HK : Hid (okx x = true → (rstep j x.k (opn P j)).1 = true → Okj P (j + 1)) := Lib.hid (fun h h2 => okj_succ hok hx h h2)
        have HG := Lib.hid hg
        clear hr hg hx hc1 hc2 hok
        generalize rstep j x.k (opn P j) = r at *
        generalize okx x = ok at *
        go_wp2_with fail
        refine HS.out.mono ?_
        rintro e w2 ⟨bo2, d2, rfl, hr2, hc3, hc4, hg2⟩
        have y0 := hg2.cell x0 (by simp)
        have y1 := hg2.cell x1 (by simp)
        have y2 := hg2.cell x2 (by simp)
        have y3 := hg2.cell x3 (by simp)
        have HR2 := Lib.hid (And.intro hr2 (And.intro hc3 (And.intro hc4 (g_trans HG.out hg2))))
        clear hr2 hc3 hc4 hg2 x0 x1 x2 x3
        obtain ⟨r1, r2⟩ := r
        simp only at HX HQ HK HR2
        go_wp2_with fail
        refine (HI.out _).mono ?_
        rintro e w3 ⟨rfl, g3⟩
        have HR3 := Lib.hid (And.intro (HR2.out.1.keep g3) (And.intro HR2.out.2.1 (And.intro HR2.out.2.2.1 (g_trans HR2.out.2.2.2 g3))))
        clear y0 y1 y2 y3 g3
        cases ok
        · go_wp2_with fail
          go_ret
          exact ⟨by rw [HQ.out true (.inl (by simp))]; rfl, HR3.out.2.2.2⟩
        · cases r1
          · go_wp2_with fail
            go_ret
            exact ⟨by rw [HQ.out true (.inr (by simp))]; rfl, HR3.out.2.2.2⟩
          · go_wp2_with fail
            go_roundw
            case rel => exact ⟨j + 1, _, rfl, by go_num, by omega, HK.out (by simp) (by simp), by rw [HX.out]; exact ⟨bo2, d2, rfl, HR3.out⟩⟩
            case measure => simp [intOf]; omega
      · obtain rfl : j = n := by omega
        have hjj : ¬ (j : Int) < j := by omega
        have HOK : Hid (Okj P P.length) := Lib.hid (by rw [HN.out]; exact hok)
        have HG := Lib.hid hg
        by_cases ho : opn P j = []
        · have HO : Hid (opn P P.length = []) := Lib.hid (by rw [HN.out]; exact ho)
          rw [ho] at hr hc1 ⊢
          have HF : Hid (bd0 = firstBad j (tops P (P.length + 1)) 0 P) := Lib.hid (by rw [← HB.out, bad_full (by rw [HN.out]; exact hn1) (by rw [HN.out]; exact hn5) HOK.out HO.out, HN.out])
          clear hr hg hok ho hc1 hc2
          simp only [List.length_nil]
          go_wp2_with fail
          go_loopw [7] (fun i wr => ∃ k : Nat, i = .int .i64 k ∧ k ≤ j ∧ w.grownBy wr none ∧ bd0 = firstBad j (tops P (P.length + 1)) k (P.drop k)) (fun i _ => (j - intOf i).toNat)
          case atStart => exact ⟨0, rfl, Nat.zero_le _, HG.out, HF.out⟩
          case round =>
            obtain ⟨k, rfl, hk, hg, hf⟩ := hrel
            by_cases hlt : k < j
            · have hki : (k : Int) < j := by omega
              have hkk : ¬ (j : Int) ≤ k := by omega
              obtain ⟨x, hx⟩ : ∃ x, P[k]? = some x := ⟨P[k]'(by rw [HN.out]; exact hlt), List.getElem?_eq_getElem _⟩
              obtain ⟨bp, offp, rfl, x0, x1, x2, x3⟩ := HP.out.keep hg k x hx
              have hko : okx x = true := (HOK.out k x (by rw [HN.out]; exact hlt) hx).1
              obtain ⟨bd, tt, htt, hbd, hcs⟩ := jump_by hko (show k < P.length by rw [HN.out]; exact hlt)
              rw [HN.out] at hbd hcs
              have HF2 : Hid (bd0 = if bd then (k : Int) else firstBad j (tops P (P.length + 1)) (k + 1) (P.drop (k + 1))) := Lib.hid (by
                rw [hf, List.drop_eq_getElem_cons (by rw [HN.out]; exact hlt)]
                have : P[k]'(by rw [HN.out]; exact hlt) = x := by rw [List.getElem?_eq_getElem (by rw [HN.out]; exact hlt)] at hx; injection hx
                rw [this, ← hbd, HN.out]; rfl)
              have HCS := Lib.hid hcs
              have HTGT : Hid (∀ W, Calls Try.prog 17 #[.agg #[.int .i64 x.k, .int .i64 x.a, .int .i64 x.b, .int .i64 x.c]] W fun e w' => e = .returned (.tuple #[.int .i64 tt, .bool (isJ x.k)]) ∧ W.grownBy w' none) := Lib.hid (fun W => by rw [← htt]; exact rtarget_any _ _ _ _ _)
              have HBR := Lib.hid (fun m hm W g => branch_any (some ⟨bp, offp, none⟩) j c P m W (HP.out.keep (w' := W) g) HN.out (by omega) hm)
              have HGR := Lib.hid hg
              clear hx hko htt hbd hcs hf hg
              go_wp2_with fail
              refine (HTGT.out _).mono ?_
              rintro e wB ⟨rfl, gB⟩
              have HGB := Lib.hid (g_trans HGR.out gB)
              clear gB x0 x1 x2 x3
              generalize isJ x.k = jj at *
              rcases HCS.out with ⟨rfl, rfl⟩ | ⟨rfl, hnt, rfl⟩ | ⟨rfl, t, p1, p2, q1, q2, rfl, htn, hp, hq, hcase⟩
              · go_wp2_with fail
                go_roundw
                case rel => exact ⟨k + 1, by go_num, by omega, HGB.out, by simpa using HF2.out⟩
                case measure => simp [intOf]; omega
              · go_wp2_with fail
                go_ret
                exact ⟨by rw [HF2.out]; rfl, HGB.out⟩
              · have hnt : ¬ (j : Int) < t := by omega
                have HB1 := Lib.hid (HBR.out t (by omega) wB HGB.out)
                rw [hp] at HB1
                have HB2 := Lib.hid (fun W g => HBR.out k (by omega) W g)
                rw [hq] at HB2
                simp only at HB1 HB2
                clear hp hq
                rcases hcase with ⟨rfl, hne⟩ | ⟨rfl, rfl, hne⟩ | ⟨rfl, rfl, rfl⟩
                · go_wp2_with fail
                  refine HB1.out.mono ?_
                  rintro e wC ⟨rfl, gC⟩
                  have HGC := Lib.hid (g_trans HGB.out gC)
                  clear gC
                  go_wp2_with fail
                  refine (HB2.out _ HGC.out).mono ?_
                  rintro e wD ⟨rfl, gD⟩
                  have HGD := Lib.hid (g_trans HGC.out gD)
                  clear gD
                  go_wp2_with fail
                  go_ret
                  exact ⟨by rw [HF2.out]; rfl, HGD.out⟩
                · go_wp2_with fail
                  refine HB1.out.mono ?_
                  rintro e wC ⟨rfl, gC⟩
                  have HGC := Lib.hid (g_trans HGB.out gC)
                  clear gC
                  go_wp2_with fail
                  refine (HB2.out _ HGC.out).mono ?_
                  rintro e wD ⟨rfl, gD⟩
                  have HGD := Lib.hid (g_trans HGC.out gD)
                  clear gD
                  go_wp2_with fail
                  go_ret
                  exact ⟨by rw [HF2.out]; rfl, HGD.out⟩
                · go_wp2_with fail
                  refine HB1.out.mono ?_
                  rintro e wC ⟨rfl, gC⟩
                  have HGC := Lib.hid (g_trans HGB.out gC)
                  clear gC
                  go_wp2_with fail
                  refine (HB2.out _ HGC.out).mono ?_
                  rintro e wD ⟨rfl, gD⟩
                  have HGD := Lib.hid (g_trans HGC.out gD)
                  clear gD
                  go_wp2_with fail
                  go_roundw
                  case rel => exact ⟨k + 1, by go_num, by omega, HGD.out, by simpa using HF2.out⟩
                  case measure => simp [intOf]; omega
            · obtain rfl : k = j := by omega
              have hkk : ¬ (k : Int) < k := by omega
              have HE : Hid (bd0 = -1) := Lib.hid (by rw [hf, List.drop_eq_nil_of_le (by rw [HN.out]; exact Nat.le_refl _)]; rfl)
              have HGE := Lib.hid hg
              clear hg hf
              go_wp2_with fail
              go_ret
              exact ⟨by rw [HE.out]; rfl, HGE.out⟩
        · have HE : Hid (bd0 = j) := Lib.hid (by rw [← HB.out, (thr_open2 (by rw [HN.out]; exact hn1) (by rw [HN.out]; exact hn5) HOK.out (by rw [HN.out]; exact ho)).1, HN.out])
          have hpos : 0 < (opn P j).length := List.length_pos_iff.2 ho
          generalize (opn P j).length = ol at *
          have hpi : (0 : Int) < ol := by omega
          clear hr hg hok ho hc1 hc2
          go_wp2_with fail
          go_ret
          exact ⟨by rw [HE.out]; rfl, HG.out⟩
end Go.Proofs.Ytfobfcnbbafplaa
