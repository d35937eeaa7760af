/- Any calls of a log: the walk. -/
import Derived.Test.YtllljpmcfjmciaaO
namespace Go.Proofs.Ytllljpmcfjmciaa
open Go.RowKit
set_option linter.unusedVariables false
set_option linter.unusedSimpArgs false

set_option maxRecDepth 100000 in
set_option maxHeartbeats 25600000 in
theorem walk_UndoRuns (a0 : Int) (a1 : Option Addr) (a1n a1c : Nat) (w : World) (w0 : (Lit.int .i64 a0).wf = true) (w1 : Vec w a1 a1n a1c 8 (Q49)) :
    Calls Try.prog 4 #[.int .i64 a0, .slice a1 a1n a1c] w fun e w' => e = .returned (.bool true) ∧ Below w.heap.size w w' := by
  have V := Lib.hid w1
  have m0 := w1.1
  have m1 := w1.2.1
  have HN := Lib.hid (new_i a0 w)
  clear w0 w1
  go_enter Try.func4, Try.ntmps4
  go_wp2_with fail
  refine HN.out.mono ?_
  rintro e w1 ⟨g1, ⟨hnp, rfl⟩ | ⟨hnp, b, rfl, hls⟩⟩
  · have HR := Lib.hid (rnew_any a0 w1)
    rw [hnp] at HR
    simp only [Bool.false_eq_true, if_false] at HR
    have G1 := Lib.hid g1
    clear g1 HN hnp
    go_wp2_with fail
    refine HR.out.mono ?_
    rintro e w2 ⟨rfl, g2⟩
    have G2 := Lib.hid (g_trans (g_trans G1.out g2) (g_alloc (g_refl w2 none) (.cells #[.int .i64 0, .slice none 0 0] 46)))
    clear g2
    go_wp2_with fail
    refine (awake_any _).mono ?_
    rintro e w3 ⟨rfl, g3⟩
    have G3 := Lib.hid (g_trans G2.out g3)
    clear g3
    go_wp2_with fail
    go_loopw [5, 9] (fun u i wr => u = .pointer none ∧ i = .int .i64 0 ∧ w.grownBy wr none) (fun _ i _ => 0)
    case atStart => exact ⟨rfl, rfl, G3.out⟩
    case round =>
      obtain ⟨rfl, rfl, hg⟩ := hrel
      have HG := Lib.hid hg
      clear hg
      by_cases h0 : (0 : Int) < a1n
      all_goals
        go_wp2_with fail
        go_ret
        exact ⟨rfl, below_gn (Below.refl _ _) HG.out (Nat.le_refl _)⟩
  · have HR := Lib.hid (rnew_any a0 w1)
    rw [hnp] at HR
    simp only [if_true] at HR
    have hm2 := of_decide_eq_true hnp
    have hm : a0 ≠ 0 := by omega
    have H1 := Lib.hid (St0.start g1 hls)
    clear g1 hls HN hnp
    generalize (fun i => w.heap.size ≤ i ∧ i < w1.heap.size) = S0 at *
    go_wp2_with fail
    refine HR.out.mono ?_
    rintro e w2 ⟨rfl, g2⟩
    obtain ⟨h2, x2⟩ := (H1.out.keep g2).new #[.int .i64 a0, .slice none 0 0] 46
    have H2 := Lib.hid h2
    have D2 : Hid (Dc (w2.alloc (.cells #[.int .i64 a0, .slice none 0 0] 46)) S0 w2.heap.size a0 [] none 0) := Lib.hid ⟨x2, fun i p h => (by cases h), Nat.le_refl _, by decide, fun _ => rfl, fun a e => (by cases e)⟩
    have hrb0 : w.heap.size ≤ w2.heap.size := (H1.out.keep g2).2.2.size
    clear g2 h2 x2 H1 HR
    go_wp2_with fail
    generalize hW : w2.alloc (.cells #[.int .i64 a0, .slice none 0 0] 46) = w2a at *
    clear hW
    generalize w2.heap.size = rb at *
    refine (awake_any _).mono ?_
    rintro e w3 ⟨rfl, g3⟩
    have H3 := Lib.hid (H2.out.keep g3)
    have D3 := Lib.hid (D2.out.keep g3)
    clear g3 H2 D2
    go_wp2_with fail
    go_loopw [5, 9] (fun u i wr => ∃ (j b : Nat) (S : Nat → Prop) (L : List OV) (ao : Option Addr) (c : Nat), u = .pointer (some ⟨b, 0, none⟩) ∧ i = .int .i64 j ∧ j ≤ a1n ∧ j ≤ 60 ∧ St0 w wr S b a0 L ∧ Dc wr S rb a0 L ao c ∧ (L.length : Int) ≤ a0) (fun _ i _ => (a1n - intOf i).toNat)
    case atStart => exact ⟨0, b, S0, [], none, 0, rfl, rfl, Nat.zero_le _, Nat.zero_le _, H3.out, D3.out, by simp; omega⟩
    case round =>
      obtain ⟨j, b, S, L, ao, c, rfl, rfl, hj, hj60, hst, hdc, hla⟩ := hrel
      obtain ⟨wo, hwo⟩ : ∃ wo : World, wo = wr := ⟨_, rfl⟩
      subst hwo
      have H1 := Lib.hid hst
      have D1 := Lib.hid hdc
      clear hst hdc H3 D3
      by_cases hlt : j < a1n ∧ j < 60
      · obtain ⟨hlt, h60⟩ := hlt
        have hji : (j : Int) < a1n := by omega
        have hj8 : (j : Int) < 60 := by omega
        have hjj : ¬ (a1n : Int) ≤ j := by omega
        obtain ⟨bo, oo, cs, rfl, hcl, ⟨q, pk, pn, pf, pvk, pvn, ph, ps, rfl, wf0, wf1, wf2, wf3, wf4, wf5, wf6⟩, hcell⟩ := V.out.2.2 j hlt
        have y0 := H1.out.2.2.cell (hcell 0 _ rfl) (by simp)
        have y1 := H1.out.2.2.cell (hcell 1 _ rfl) (by simp)
        have y2 := H1.out.2.2.cell (hcell 2 _ rfl) (by simp)
        have y3 := H1.out.2.2.cell (hcell 3 _ rfl) (by simp)
        have y4 := H1.out.2.2.cell (hcell 4 _ rfl) (by simp)
        have y5 := H1.out.2.2.cell (hcell 5 _ rfl) (by simp)
        have y6 := H1.out.2.2.cell (hcell 6 _ rfl) (by simp)
        have y7 := H1.out.2.2.cell (hcell 7 _ rfl) (by simp)
        simp only [show oo + (j * 8 + 1) = oo + j * 8 + 1 from by omega, show oo + (j * 8 + 2) = oo + j * 8 + 2 from by omega, show oo + (j * 8 + 3) = oo + j * 8 + 3 from by omega, show oo + (j * 8 + 4) = oo + j * 8 + 4 from by omega, show oo + (j * 8 + 5) = oo + j * 8 + 5 from by omega, show oo + (j * 8 + 6) = oo + j * 8 + 6 from by omega, show oo + (j * 8 + 7) = oo + j * 8 + 7 from by omega, show oo + (j * 8 + 0) = oo + j * 8 from by omega] at y0 y1 y2 y3 y4 y5 y6 y7
        obtain ⟨h2, x2⟩ := H1.out.new #[.int .i64 q, .int .i64 pk, .int .i64 pn, .int .i64 pf, .int .i64 pvk, .int .i64 pvn, .bool ph, .int .i64 ps] 50
        have H2 := Lib.hid h2
        have O2 := Lib.hid x2
        have D2 := Lib.hid (D1.out.keep (g_alloc (g_refl wo none) (.cells #[.int .i64 q, .int .i64 pk, .int .i64 pn, .int .i64 pf, .int .i64 pvk, .int .i64 pvn, .bool ph, .int .i64 ps] 50)))
        clear hcell wf0 wf1 wf2 wf3 wf4 wf5 wf6 hcl h2 x2 H1 D1
        go_upto_block 2 with fail
        generalize wo.alloc (.cells #[.int .i64 q, .int .i64 pk, .int .i64 pn, .int .i64 pf, .int .i64 pvk, .int .i64 pvn, .bool ph, .int .i64 ps] 50) = W2 at *
        generalize wo.heap.size = ob at *
        clear y0 y1 y2 y3 y4 y5 y6 y7
        have hl5 : L.length ≤ 4096 := by omega
        go_cut [5] (fun s5 wx => ∃ (b : Nat) (S : Nat → Prop) (L : List OV) (ao : Option Addr) (c : Nat), s5 = .pointer (some ⟨b, 0, none⟩) ∧ St0 w wx S b a0 L ∧ Dc wx S rb a0 L ao c ∧ (L.length : Int) ≤ a0)
        case first =>
          clear V
          by_cases q1 : q = 1
          · subst q1
            have o1 := O2.out.1.cell 1 (.int .i64 pk) rfl
            have o2 := O2.out.1.cell 2 (.int .i64 pn) rfl
            have o3 := O2.out.1.cell 3 (.int .i64 pf) rfl
            have o4 := O2.out.1.cell 4 (.int .i64 pvk) rfl
            have o5 := O2.out.1.cell 5 (.int .i64 pvn) rfl
            have o6 := O2.out.1.cell 6 (.bool ph) rfl
            have o7 := O2.out.1.cell 7 (.int .i64 ps) rfl
            go_wp2_with fail
            refine (push_i H2.out.1 hm pk pn pf pvk pvn ph ps (by omega)).mono ?_
            rintro e w1 ⟨rfl, hmv⟩
            obtain ⟨S1, h1, hsd, hs1, t1⟩ := H2.out.move hmv
            have H3 := Lib.hid h1
            have O3 := Lib.hid (hsd _ _ _ O2.out)
            have D3 := Lib.hid (D2.out.move hsd hs1 t1)
            clear hmv h1 hsd hs1 t1 H2 O2 D2
            have r0 := D3.out.1.1.cell 0 _ rfl
            have r1 := D3.out.1.1.cell 1 _ rfl
            have o1 := O3.out.1.cell 1 (.int .i64 pk) rfl
            have o2 := O3.out.1.cell 2 (.int .i64 pn) rfl
            have o3 := O3.out.1.cell 3 (.int .i64 pf) rfl
            have o4 := O3.out.1.cell 4 (.int .i64 pvk) rfl
            have o5 := O3.out.1.cell 5 (.int .i64 pvn) rfl
            have o6 := O3.out.1.cell 6 (.bool ph) rfl
            have o7 := O3.out.1.cell 7 (.int .i64 ps) rfl
            obtain ⟨pp, hpp⟩ : ∃ pp, pushP a0 L ⟨pk, pn, pf, pvk, pvn, ph, ps⟩ = pp := ⟨_, rfl⟩
            have HRP := Lib.hid (rpush_any a0 ao c L pk pn pf pvk pvn ph ps w1 D3.out.2.1 D3.out.2.2.1 D3.out.2.2.2.1 D3.out.2.2.2.2.1 (by omega))
            have HLE := Lib.hid (pushP_len (o := ⟨pk, pn, pf, pvk, pvn, ph, ps⟩) hla)
            rw [hpp] at H3 HRP HLE ⊢
            clear hpp
            go_wp2_with fail
            refine HRP.out.mono ?_
            rintro e w4 ⟨x, rfl, hrv, g4⟩
            obtain ⟨ao', c', rfl, x1, x2, x3, x4, x5⟩ := Dc.rv H3.out.1 D3.out hrv
            have H5 := Lib.hid (H3.out.keep g4)
            have D5 := Lib.hid (D3.out.keep g4)
            have hrb4 := D5.out.1.1.lt
            clear r0 r1 o1 o2 o3 o4 o5 o6 o7 hrv g4 HRP
            have r0 := D5.out.1.1.cell 0 _ rfl
            have r1 := D5.out.1.1.cell 1 _ rfl
            have f0 := D5.out.1.1.free 0
            have f1 := D5.out.1.1.free 1
            have kst := g_set (g_set (g_refl w4 (some rb)) (p := ⟨rb, 0, none⟩) (.inl rfl) (.int .i64 a0)) (p := ⟨rb, 1, none⟩) (.inl rfl) (.slice ao' pp.2.length c')
            have hbb := (D5.out.1.1.set 0 (.int .i64 a0)).set 1 (.slice ao' pp.2.length c')
            have D6 := Lib.hid (D5.out.store kst (by simpa using hbb) x1 x2 x3 x4 x5)
            have H6 := Lib.hid (H5.out.gs kst D5.out.1.2 hrb0)
            have ga := g_alloc (g_refl ((w4.setCell ⟨rb, 0, none⟩ (.int .i64 a0)).setCell ⟨rb, 1, none⟩ (.slice ao' pp.2.length c')) none) (.cells #[.int .i64 a0, .slice ao' pp.2.length c'] 46)
            have e1 : (pp.1 != pp.1) = false := by simp
            have D7 := Lib.hid (D6.out.keep ga)
            have H7 := Lib.hid (H6.out.keep ga)
            clear x1 x2 x3 x4 x5 kst hbb ga D5 H5 D6 H6
            go_wp2_with fail
            go_meet
            case rel => exact ⟨b, S1, pp.2, ao', c', rfl, H7.out, D7.out, HLE.out⟩
          have e1 : (q == 1) = false := by simpa using q1
          by_cases q2 : q = 2
          · subst q2
            have o1 := O2.out.1.cell 1 (.int .i64 pk) rfl
            have o2 := O2.out.1.cell 2 (.int .i64 pn) rfl
            have o3 := O2.out.1.cell 3 (.int .i64 pf) rfl
            have o4 := O2.out.1.cell 4 (.int .i64 pvk) rfl
            have o5 := O2.out.1.cell 5 (.int .i64 pvn) rfl
            have o6 := O2.out.1.cell 6 (.bool ph) rfl
            have o7 := O2.out.1.cell 7 (.int .i64 ps) rfl
            go_wp2_with fail
            refine (push_i H2.out.1 hm pk pn pf pvk pvn ph ps (by omega)).mono ?_
            rintro e w1 ⟨rfl, hmv⟩
            obtain ⟨S1, h1, hsd, hs1, t1⟩ := H2.out.move hmv
            have H3 := Lib.hid h1
            have O3 := Lib.hid (hsd _ _ _ O2.out)
            have D3 := Lib.hid (D2.out.move hsd hs1 t1)
            clear hmv h1 hsd hs1 t1 H2 O2 D2
            have r0 := D3.out.1.1.cell 0 _ rfl
            have r1 := D3.out.1.1.cell 1 _ rfl
            have o1 := O3.out.1.cell 1 (.int .i64 pk) rfl
            have o2 := O3.out.1.cell 2 (.int .i64 pn) rfl
            have o3 := O3.out.1.cell 3 (.int .i64 pf) rfl
            have o4 := O3.out.1.cell 4 (.int .i64 pvk) rfl
            have o5 := O3.out.1.cell 5 (.int .i64 pvn) rfl
            have o6 := O3.out.1.cell 6 (.bool ph) rfl
            have o7 := O3.out.1.cell 7 (.int .i64 ps) rfl
            obtain ⟨pp, hpp⟩ : ∃ pp, pushP a0 L ⟨pk, pn, pf, pvk, pvn, ph, ps⟩ = pp := ⟨_, rfl⟩
            have HRP := Lib.hid (rpush_any a0 ao c L pk pn pf pvk pvn ph ps w1 D3.out.2.1 D3.out.2.2.1 D3.out.2.2.2.1 D3.out.2.2.2.2.1 (by omega))
            have HLE := Lib.hid (pushP_len (o := ⟨pk, pn, pf, pvk, pvn, ph, ps⟩) hla)
            rw [hpp] at H3 HRP HLE ⊢
            clear hpp
            go_wp2_with fail
            refine HRP.out.mono ?_
            rintro e w4 ⟨x, rfl, hrv, g4⟩
            obtain ⟨ao', c', rfl, x1, x2, x3, x4, x5⟩ := Dc.rv H3.out.1 D3.out hrv
            have H5 := Lib.hid (H3.out.keep g4)
            have D5 := Lib.hid (D3.out.keep g4)
            have hrb4 := D5.out.1.1.lt
            clear r0 r1 o1 o2 o3 o4 o5 o6 o7 hrv g4 HRP
            have r0 := D5.out.1.1.cell 0 _ rfl
            have r1 := D5.out.1.1.cell 1 _ rfl
            have f0 := D5.out.1.1.free 0
            have f1 := D5.out.1.1.free 1
            have kst := g_set (g_set (g_refl w4 (some rb)) (p := ⟨rb, 0, none⟩) (.inl rfl) (.int .i64 a0)) (p := ⟨rb, 1, none⟩) (.inl rfl) (.slice ao' pp.2.length c')
            have hbb := (D5.out.1.1.set 0 (.int .i64 a0)).set 1 (.slice ao' pp.2.length c')
            have D6 := Lib.hid (D5.out.store kst (by simpa using hbb) x1 x2 x3 x4 x5)
            have H6 := Lib.hid (H5.out.gs kst D5.out.1.2 hrb0)
            have ga := g_alloc (g_refl ((w4.setCell ⟨rb, 0, none⟩ (.int .i64 a0)).setCell ⟨rb, 1, none⟩ (.slice ao' pp.2.length c')) none) (.cells #[.int .i64 a0, .slice ao' pp.2.length c'] 46)
            have e1 : (pp.1 != pp.1) = false := by simp
            have D7 := Lib.hid (D6.out.keep ga)
            have H7 := Lib.hid (H6.out.keep ga)
            clear x1 x2 x3 x4 x5 kst hbb ga D5 H5 D6 H6
            go_wp2_with fail
            go_meet
            case rel => exact ⟨b, S1, pp.2, ao', c', rfl, H7.out, D7.out, HLE.out⟩
          have e2 : (q == 2) = false := by simpa using q2
          by_cases q3 : q = 3
          · subst q3
            obtain ⟨pp, hpp⟩ : ∃ pp, popP L = pp := ⟨_, rfl⟩
            have HPI := Lib.hid (pop_i H2.out.1 hm (by omega))
            have HLE := Lib.hid (popP_len L)
            rw [hpp] at HPI HLE
            have HPP := Lib.hid hpp
            clear hpp
            obtain ⟨⟨⟨xk, xn, xf, xvk, xvn, xh, xs⟩, xok⟩, M'⟩ := pp
            simp only at HPI HLE
            go_wp2_with fail
            refine HPI.out.mono ?_
            rintro e w1 ⟨rfl, hmv⟩
            obtain ⟨S1, h1, hsd, hs1, t1⟩ := H2.out.move hmv
            have ga := g_alloc (g_refl w1 none) (.cells #[.int .i64 xk, .int .i64 xn, .int .i64 xf, .int .i64 xvk, .int .i64 xvn, .bool xh, .int .i64 xs] 36)
            have D3 := Lib.hid ((D2.out.move hsd hs1 t1).keep ga)
            have H3 := Lib.hid (h1.keep ga)
            have X3 := Lib.hid (h1.new #[.int .i64 xk, .int .i64 xn, .int .i64 xf, .int .i64 xvk, .int .i64 xvn, .bool xh, .int .i64 xs] 36).2
            have r0 := D3.out.1.1.cell 0 _ rfl
            have r1 := D3.out.1.1.cell 1 _ rfl
            clear hmv h1 hsd hs1 t1 ga HPI H2 D2 O2
            go_wp2_with fail
            generalize w1.alloc (.cells #[.int .i64 xk, .int .i64 xn, .int .i64 xf, .int .i64 xvk, .int .i64 xvn, .bool xh, .int .i64 xs] 36) = w2 at *
            generalize w1.heap.size = xb at *
            have HRP := Lib.hid (rpop_any a0 ao c L w2 D3.out.2.1 D3.out.2.2.1 D3.out.2.2.2.1 D3.out.2.2.2.2.1 (by omega))
            rw [HPP.out] at HRP
            refine HRP.out.mono ?_
            rintro e w4 ⟨x, rfl, hrv, g4⟩
            obtain ⟨ao', c', rfl, x1, x2, x3, x4, x5⟩ := Dc.rv H3.out.1 D3.out hrv
            have H5 := Lib.hid (H3.out.keep g4)
            have D5 := Lib.hid (D3.out.keep g4)
            have X5 := Lib.hid (X3.out.keep g4)
            have hrb4 := D5.out.1.1.lt
            have hxb4 := X5.out.1.lt
            clear r0 r1 hrv g4 HRP
            have r0 := D5.out.1.1.cell 0 _ rfl
            have r1 := D5.out.1.1.cell 1 _ rfl
            have f0 := D5.out.1.1.free 0
            have f1 := D5.out.1.1.free 1
            have u0 := X5.out.1.cell 0 _ rfl
            have u1 := X5.out.1.cell 1 _ rfl
            have u2 := X5.out.1.cell 2 _ rfl
            have u3 := X5.out.1.cell 3 _ rfl
            have u4 := X5.out.1.cell 4 _ rfl
            have u5 := X5.out.1.cell 5 _ rfl
            have u6 := X5.out.1.cell 6 _ rfl
            have hrx : ¬ rb = xb := fun e => by
              have h1 := D5.out.1.1
              have h2 := X5.out.1
              subst e
              have h3 : some _ = some _ := h1.symm.trans h2
              simp at h3
            have hrx2 : ¬ xb = rb := fun e => hrx e.symm
            have kst := g_set (g_set (g_refl w4 (some rb)) (p := ⟨rb, 0, none⟩) (.inl rfl) (.int .i64 a0)) (p := ⟨rb, 1, none⟩) (.inl rfl) (.slice ao' M'.length c')
            have hbb := (D5.out.1.1.set 0 (.int .i64 a0)).set 1 (.slice ao' M'.length c')
            have D6 := Lib.hid (D5.out.store kst (by simpa using hbb) x1 x2 x3 x4 x5)
            have H6 := Lib.hid (H5.out.gs kst D5.out.1.2 hrb0)
            have ga := g_alloc (g_alloc (g_refl ((w4.setCell ⟨rb, 0, none⟩ (.int .i64 a0)).setCell ⟨rb, 1, none⟩ (.slice ao' M'.length c')) none) (.cells #[.int .i64 a0, .slice ao' M'.length c'] 46)) (.cells #[.int .i64 xk, .int .i64 xn, .int .i64 xf, .int .i64 xvk, .int .i64 xvn, .bool xh, .int .i64 xs] 36)
            have D7 := Lib.hid (D6.out.keep ga)
            have H7 := Lib.hid (H6.out.keep ga)
            have HLF : Hid ((M'.length : Int) ≤ a0) := Lib.hid (by have := HLE.out; omega)
            clear x1 x2 x3 x4 x5 kst hbb ga D5 H5 D6 H6 X5 X3
            go_wp2_with fail
            go_meet
            case rel => exact ⟨b, S1, M', ao', c', rfl, H7.out, D7.out, HLF.out⟩
          have e3 : (q == 3) = false := by simpa using q3
          by_cases q4 : q = 4
          · subst q4
            obtain ⟨fp, hfp⟩ : ∃ fp, firstP pk pn pf L = fp := ⟨_, rfl⟩
            obtain ⟨fk, fn, fb⟩ := fp
            have HFI := Lib.hid (fun W (h : LS W S b a0 L) => first_any b S a0 L pk pn pf W h.1 hm (by omega))
            have HRF := Lib.hid (fun W (h : SRow W ao L) => rfirst_any a0 ao L.length c L pk pn pf W h rfl (by omega))
            rw [hfp] at HFI HRF
            clear hfp
            have o1 := O2.out.1.cell 1 (.int .i64 pk) rfl
            have o2 := O2.out.1.cell 2 (.int .i64 pn) rfl
            have o3 := O2.out.1.cell 3 (.int .i64 pf) rfl
            have o4 := O2.out.1.cell 4 (.int .i64 pvk) rfl
            have o5 := O2.out.1.cell 5 (.int .i64 pvn) rfl
            have o6 := O2.out.1.cell 6 (.bool ph) rfl
            have o7 := O2.out.1.cell 7 (.int .i64 ps) rfl
            go_wp2_with fail
            refine (HFI.out _ H2.out.1).mono ?_
            rintro e w1 ⟨rfl, g1⟩
            have ga := g_alloc (g_refl w1 none) (.cells #[.int .i64 fk, .int .i64 fn] 31)
            have H3 := Lib.hid ((H2.out.keep g1).keep ga)
            have D3 := Lib.hid ((D2.out.keep g1).keep ga)
            have O3 := Lib.hid ((O2.out.keep g1).keep ga)
            have X3 := Lib.hid (Blk.new w1 #[.int .i64 fk, .int .i64 fn] 31)
            clear g1 ga o1 o2 o3 o4 o5 o6 o7
            have r0 := D3.out.1.1.cell 0 _ rfl
            have r1 := D3.out.1.1.cell 1 _ rfl
            have o1 := O3.out.1.cell 1 (.int .i64 pk) rfl
            have o2 := O3.out.1.cell 2 (.int .i64 pn) rfl
            have o3 := O3.out.1.cell 3 (.int .i64 pf) rfl
            have o4 := O3.out.1.cell 4 (.int .i64 pvk) rfl
            have o5 := O3.out.1.cell 5 (.int .i64 pvn) rfl
            have o6 := O3.out.1.cell 6 (.bool ph) rfl
            have o7 := O3.out.1.cell 7 (.int .i64 ps) rfl
            go_wp2_with fail
            generalize w1.alloc (.cells #[.int .i64 fk, .int .i64 fn] 31) = w2 at *
            generalize w1.heap.size = xb at *
            refine (HRF.out _ D3.out.2.1).mono ?_
            rintro e w4 ⟨rfl, g4⟩
            have ga := g_alloc (g_refl w4 none) (.cells #[.int .i64 fk, .int .i64 fn] 31)
            have H5 := Lib.hid ((H3.out.keep g4).keep ga)
            have D5 := Lib.hid ((D3.out.keep g4).keep ga)
            have X5 := (X3.out.keepn g4).keepn ga
            have u0 := X5.cell 0 _ rfl
            have u1 := X5.cell 1 _ rfl
            clear g4 ga X5 r0 r1 o1 o2 o3 o4 o5 o6 o7
            go_wp2_with fail
            go_meet
            case rel => exact ⟨b, S, L, ao, c, rfl, H5.out, D5.out, hla⟩
          have e4 : (q == 4) = false := by simpa using q4
          by_cases q5 : q = 5
          · subst q5
            go_upto_region 29 with fail
            refine wp_region_held_drew (S := fun W' => Tr S W2 W') (by kernel_rfl) (tr_g (g_drew (g_refl W2 none)) _) (fun hHeld => ?_)
            refine wpAnyH_take (i := 0) (v := .pointer (some ⟨b, 0, none⟩)) rfl (by kernel_rfl) (by kernel_rfl) (by kernel_rfl) (fun _ _ _ h => h) (Or.inl ⟨by rfl, fun w hw => by clear hw; go_simp⟩) hHeld ?_
            try simp only [Act.put, List.setIfInBounds_toArray, List.set_cons_zero, List.set_cons_succ, List.getElem_toArray, List.getElem_cons_zero, List.getElem_cons_succ]
            refine wpAnyH_take (i := 2) (v := .pointer (some ⟨rb, 1, none⟩)) rfl (by kernel_rfl) (by kernel_rfl) (by kernel_rfl) (fun _ _ _ h => h) (Or.inl ⟨by rfl, fun w hw => by clear hw; go_simp⟩) hHeld ?_
            try simp only [Act.put, List.setIfInBounds_toArray, List.set_cons_zero, List.set_cons_succ, List.getElem_toArray, List.getElem_cons_zero, List.getElem_cons_succ]
            refine wpAnyH_take (i := 3) (v := .slice ao L.length c) rfl (by kernel_rfl) (by kernel_rfl) (by kernel_rfl) (fun _ _ _ h => h) (Or.inl ⟨by rfl, fun w hw => by have q0 := hw.cell (D2.out.1.1.cell 1 _ rfl) D2.out.1.2; clear hw; go_simp⟩) hHeld ?_
            try simp only [Act.put, List.setIfInBounds_toArray, List.set_cons_zero, List.set_cons_succ, List.getElem_toArray, List.getElem_cons_zero, List.getElem_cons_succ]
            refine wpAnyH_take (i := 4) (v := .int .i64 (L.length : Int)) rfl (by kernel_rfl) (by kernel_rfl) (by kernel_rfl) (fun _ _ _ h => h) (Or.inl ⟨by rfl, fun w hw => by clear hw; go_simp⟩) hHeld ?_
            try simp only [Act.put, List.setIfInBounds_toArray, List.set_cons_zero, List.set_cons_succ, List.getElem_toArray, List.getElem_cons_zero, List.getElem_cons_succ]
            refine wpAnyH_ready (rs := [1]) (by kernel_rfl) (by simp) (AllReadyH.cons rfl (fun K hK => ?_) (AllReadyH.nil))
            · go_simp
              refine Calls.mono (clear_i (H2.out.1.keep (g_drew (g_refl W2 none))) hm) ?_
              rintro e wc1 ⟨rfl, hmv⟩
              obtain ⟨S1, h1, hsd, hs1, t1⟩ := (H2.out.keep (g_drew (g_refl W2 none))).move hmv
              try go_wp2_with fail
              have H3 := Lib.hid h1
              have D3 := Lib.hid ((D2.out.keep (g_drew (g_refl W2 none))).move hsd hs1 t1)
              clear h1 hsd hs1 hmv
              refine hK.out _ _ (tr_trans hHeld t1 (fun i _ e => e)) (fun hHeld => ?_)
              clear hK K
              try simp only [Act.put, List.setIfInBounds_toArray, List.set_cons_zero, List.set_cons_succ, List.getElem_toArray, List.getElem_cons_zero, List.getElem_cons_succ]
              refine wpAnyH_take (i := 5) (v := .bool false) rfl (by kernel_rfl) (by kernel_rfl) (by kernel_rfl) (fun _ _ _ h => h) (Or.inl ⟨by rfl, fun w hw => by clear hw; go_simp⟩) hHeld ?_
              try simp only [Act.put, List.setIfInBounds_toArray, List.set_cons_zero, List.set_cons_succ, List.getElem_toArray, List.getElem_cons_zero, List.getElem_cons_succ]
              refine wpAnyH_done (by kernel_rfl) ?_ _
              clear hHeld t1
              have r1 := D3.out.1.1.cell 1 _ rfl
              have f1 := D3.out.1.1.free 1
              have kst := g_set (g_refl wc1 (some rb)) (p := ⟨rb, 1, none⟩) (.inl rfl) (.slice none 0 0)
              have hbb := D3.out.1.1.set 1 (.slice none 0 0)
              have D6 := Lib.hid (D3.out.store (M' := []) (ao' := none) (c' := 0) kst (by simpa using hbb) (fun i p hi => (by cases hi)) (Nat.le_refl _) (by decide) (fun _ => rfl) (fun a e => (by cases e)))
              have H6 := Lib.hid (H3.out.gs kst D3.out.1.2 hrb0)
              clear kst hbb
              go_wp2_with fail
              go_meet
              case rel => exact ⟨b, S1, [], none, 0, rfl, H6.out, D6.out, by simp; omega⟩
          have e5 : (q == 5) = false := by simpa using q5
          by_cases q6 : q = 6
          · subst q6
            go_wp2_with fail
            refine (fork_any b S a0 L W2 H2.out.1.1 hm (by omega)).mono ?_
            rintro e w1 ⟨kk, rfl, hkk, hfk, gf⟩
            have HFK := Lib.hid hfk
            have GF := Lib.hid gf
            have HKK := Lib.hid hkk
            clear hfk gf hkk
            go_wp2_with fail
            refine (clear_i (H2.out.1.keep GF.out) hm).mono ?_
            rintro e w2 ⟨rfl, S2, h2, hs2, t2⟩
            have T2 := Lib.hid t2
            have HS2 := Lib.hid hs2
            have HL2 := Lib.hid h2
            clear h2 hs2 t2
            go_wp2_with fail
            refine (push_i HL2.out hm 0 0 77 0 0 false 0 (by decide)).mono ?_
            rintro e w3 ⟨rfl, S3, h3, hs3, t3⟩
            obtain ⟨S4, h4, d4, -⟩ := H2.out.fork D2.out HFK.out HKK.out GF.out T2.out HS2.out t3
            have H4 := Lib.hid h4
            have D4 := Lib.hid d4
            clear h3 hs3 t3 h4 d4
            go_wp2_with fail
            go_meet
            case rel => exact ⟨kk, S4, L, ao, c, rfl, H4.out, D4.out, hla⟩
          have e6 : (q == 6) = false := by simpa using q6
          go_wp2_with fail
          go_meet
          case rel => exact ⟨b, S, L, ao, c, rfl, H2.out, D2.out, hla⟩
        case rest =>
          obtain ⟨bx, Sx, Lx, aox, cx, rfl, hst, hdc, hlx⟩ := hcut
          clear H2 D2 O2 hla hl5
          rename World => wa
          obtain ⟨n, hn⟩ : ∃ n, Lx.length = n := ⟨_, rfl⟩
          have hmn : ¬ a0 < n := by omega
          have HL := Lib.hid hn
          have hl5 : n ≤ 4096 := by omega
          have HALL := Lib.hid (all_i hst.1 hm (by omega) n hn)
          have H2 := Lib.hid hst
          have D2 := Lib.hid hdc
          have HSW : Hid (∀ i, Sx i → i < wa.heap.size) := Lib.hid hst.1.2.2
          have HAW : Hid (∀ a, aox = some a → Lx ≠ [] → a.block < wa.heap.size) := Lib.hid (fun a e h => by subst e; exact hdc.2.1.lt h)
          have hrbw := hdc.1.1.lt
          have hwwa := hst.2.2.size
          have hla := hlx
          clear hst hdc hn hlx
          generalize Lx = L at *
          generalize Sx = S at *
          generalize aox = ao at *
          generalize cx = c at *
          generalize bx = b at *
          go_wp2_with fail
          refine HALL.out.mono ?_
          rintro e W3 ⟨lo, lc, rfl, hown, hxs, gx⟩
          have OWN := Lib.hid hown
          have XS := Lib.hid hxs
          have H3 := Lib.hid (H2.out.keep gx)
          have D3 := Lib.hid (D2.out.keep gx)
          clear hown hxs gx HALL
          go_upto_region 40 with fail
          have RR : Hid (W3.cell? ⟨rb, 1, none⟩ = some (.slice ao n c)) := Lib.hid (by have h := D3.out.1.1.cell 1 _ rfl; rw [HL.out] at h; exact h)
          have RM : Hid (W3.cell? ⟨rb, 0, none⟩ = some (.int .i64 a0)) := Lib.hid (D3.out.1.1.cell 0 _ rfl)
          refine wp_region_held_drew (S := fun W' => W3.grownBy W' none) (by kernel_rfl) (g_drew (g_refl _ _)) (fun hHeld => ?_)
          refine wpAnyH_take (i := 0) (v := .slice lo n lc) rfl (by kernel_rfl) (by kernel_rfl) (by kernel_rfl) (fun _ _ _ h => h) (Or.inl ⟨by rfl, fun w hw => by clear hw; go_simp⟩) hHeld ?_
          try simp only [Act.put, List.setIfInBounds_toArray, List.set_cons_zero, List.set_cons_succ, List.getElem_toArray, List.getElem_cons_zero, List.getElem_cons_succ]
          refine wpAnyH_take (i := 1) (v := .pointer (some ⟨rb, 1, none⟩)) rfl (by kernel_rfl) (by kernel_rfl) (by kernel_rfl) (fun _ _ _ h => h) (Or.inl ⟨by rfl, fun w hw => by clear hw; go_simp⟩) hHeld ?_
          try simp only [Act.put, List.setIfInBounds_toArray, List.set_cons_zero, List.set_cons_succ, List.getElem_toArray, List.getElem_cons_zero, List.getElem_cons_succ]
          refine wpAnyH_take (i := 2) (v := .slice ao n c) rfl (by kernel_rfl) (by kernel_rfl) (by kernel_rfl) (fun _ _ _ h => h) (Or.inl ⟨by rfl, fun w hw => by have q0 := hw.cell RR.out (by simp); clear hw; go_simp⟩) hHeld ?_
          try simp only [Act.put, List.setIfInBounds_toArray, List.set_cons_zero, List.set_cons_succ, List.getElem_toArray, List.getElem_cons_zero, List.getElem_cons_succ]
          refine wpAnyH_ready (rs := [3]) (by kernel_rfl) (by simp) (AllReadyH.cons rfl (fun K hK => ?_) (AllReadyH.nil))
          · go_simp
            refine Calls.mono (same_any lo ao n lc c L _ (XS.out.keep hHeld) (D3.out.2.1.keep hHeld) HL.out (by omega)) ?_
            rintro e wc1 ⟨rfl, gc1⟩
            try go_wp2_with fail
            refine hK.out _ _ (g_trans hHeld gc1) (fun hHeld => ?_)
            clear hK K gc1
            try simp only [Act.put, List.setIfInBounds_toArray, List.set_cons_zero, List.set_cons_succ, List.getElem_toArray, List.getElem_cons_zero, List.getElem_cons_succ]
            refine wpAnyH_take (i := 4) (v := .bool false) rfl (by kernel_rfl) (by kernel_rfl) (by kernel_rfl) (fun _ _ _ h => h) (Or.inl ⟨by rfl, fun w hw => by clear hw; go_simp⟩) hHeld ?_
            try simp only [Act.put, List.setIfInBounds_toArray, List.set_cons_zero, List.set_cons_succ, List.getElem_toArray, List.getElem_cons_zero, List.getElem_cons_succ]
            refine wpAnyH_take (i := 5) (v := .bool false) rfl (by kernel_rfl) (by kernel_rfl) (by kernel_rfl) (fun _ _ _ h => h) (Or.inl ⟨by rfl, fun w hw => by clear hw; go_simp⟩) hHeld ?_
            try simp only [Act.put, List.setIfInBounds_toArray, List.set_cons_zero, List.set_cons_succ, List.getElem_toArray, List.getElem_cons_zero, List.getElem_cons_succ]
            refine wpAnyH_take (i := 6) (v := .pointer (some ⟨b, 0, none⟩)) rfl (by kernel_rfl) (by kernel_rfl) (by kernel_rfl) (fun _ _ _ h => h) (Or.inl ⟨by rfl, fun w hw => by clear hw; go_simp⟩) hHeld ?_
            try simp only [Act.put, List.setIfInBounds_toArray, List.set_cons_zero, List.set_cons_succ, List.getElem_toArray, List.getElem_cons_zero, List.getElem_cons_succ]
            refine wpAnyH_take (i := 8) (v := .pointer (some ⟨rb, 1, none⟩)) rfl (by kernel_rfl) (by kernel_rfl) (by kernel_rfl) (fun _ _ _ h => h) (Or.inl ⟨by rfl, fun w hw => by clear hw; go_simp⟩) hHeld ?_
            try simp only [Act.put, List.setIfInBounds_toArray, List.set_cons_zero, List.set_cons_succ, List.getElem_toArray, List.getElem_cons_zero, List.getElem_cons_succ]
            refine wpAnyH_take (i := 9) (v := .slice ao n c) rfl (by kernel_rfl) (by kernel_rfl) (by kernel_rfl) (fun _ _ _ h => h) (Or.inl ⟨by rfl, fun w hw => by have q0 := hw.cell RR.out (by simp); clear hw; go_simp⟩) hHeld ?_
            try simp only [Act.put, List.setIfInBounds_toArray, List.set_cons_zero, List.set_cons_succ, List.getElem_toArray, List.getElem_cons_zero, List.getElem_cons_succ]
            refine wpAnyH_take (i := 10) (v := .int .i64 (n : Int)) rfl (by kernel_rfl) (by kernel_rfl) (by kernel_rfl) (fun _ _ _ h => h) (Or.inl ⟨by rfl, fun w hw => by clear hw; go_simp⟩) hHeld ?_
            try simp only [Act.put, List.setIfInBounds_toArray, List.set_cons_zero, List.set_cons_succ, List.getElem_toArray, List.getElem_cons_zero, List.getElem_cons_succ]
            refine wpAnyH_ready (rs := [7]) (by kernel_rfl) (by simp) (AllReadyH.cons rfl (fun K hK => ?_) (AllReadyH.nil))
            · go_simp
              refine Calls.mono (len_i (H3.out.1.keep hHeld) hm n HL.out) ?_
              rintro e wc2 ⟨rfl, gc2⟩
              try go_wp2_with fail
              refine hK.out _ _ (g_trans hHeld gc2) (fun hHeld => ?_)
              clear hK K gc2
              try simp only [Act.put, List.setIfInBounds_toArray, List.set_cons_zero, List.set_cons_succ, List.getElem_toArray, List.getElem_cons_zero, List.getElem_cons_succ]
              refine wpAnyH_take (i := 11) (v := .bool false) rfl (by kernel_rfl) (by kernel_rfl) (by kernel_rfl) (fun _ _ _ h => h) (Or.inl ⟨by rfl, fun w hw => by clear hw; go_simp⟩) hHeld ?_
              try simp only [Act.put, List.setIfInBounds_toArray, List.set_cons_zero, List.set_cons_succ, List.getElem_toArray, List.getElem_cons_zero, List.getElem_cons_succ]
              refine wpAnyH_take (i := 12) (v := .bool false) rfl (by kernel_rfl) (by kernel_rfl) (by kernel_rfl) (fun _ _ _ h => h) (Or.inl ⟨by rfl, fun w hw => by clear hw; go_simp⟩) hHeld ?_
              try simp only [Act.put, List.setIfInBounds_toArray, List.set_cons_zero, List.set_cons_succ, List.getElem_toArray, List.getElem_cons_zero, List.getElem_cons_succ]
              refine wpAnyH_take (i := 13) (v := .bool false) rfl (by kernel_rfl) (by kernel_rfl) (by kernel_rfl) (fun _ _ _ h => h) (Or.inl ⟨by rfl, fun w hw => by clear hw; go_simp⟩) hHeld ?_
              try simp only [Act.put, List.setIfInBounds_toArray, List.set_cons_zero, List.set_cons_succ, List.getElem_toArray, List.getElem_cons_zero, List.getElem_cons_succ]
              refine wpAnyH_take (i := 14) (v := .slice lo n lc) rfl (by kernel_rfl) (by kernel_rfl) (by kernel_rfl) (fun _ _ _ h => h) (Or.inl ⟨by rfl, fun w hw => by clear hw; go_simp⟩) hHeld ?_
              try simp only [Act.put, List.setIfInBounds_toArray, List.set_cons_zero, List.set_cons_succ, List.getElem_toArray, List.getElem_cons_zero, List.getElem_cons_succ]
              refine wpAnyH_take (i := 15) (v := .int .i64 (n : Int)) rfl (by kernel_rfl) (by kernel_rfl) (by kernel_rfl) (fun _ _ _ h => h) (Or.inl ⟨by rfl, fun w hw => by clear hw; go_simp⟩) hHeld ?_
              try simp only [Act.put, List.setIfInBounds_toArray, List.set_cons_zero, List.set_cons_succ, List.getElem_toArray, List.getElem_cons_zero, List.getElem_cons_succ]
              refine wpAnyH_take (i := 16) (v := .pointer (some ⟨rb, 0, none⟩)) rfl (by kernel_rfl) (by kernel_rfl) (by kernel_rfl) (fun _ _ _ h => h) (Or.inl ⟨by rfl, fun w hw => by clear hw; go_simp⟩) hHeld ?_
              try simp only [Act.put, List.setIfInBounds_toArray, List.set_cons_zero, List.set_cons_succ, List.getElem_toArray, List.getElem_cons_zero, List.getElem_cons_succ]
              refine wpAnyH_take (i := 17) (v := .int .i64 a0) rfl (by kernel_rfl) (by kernel_rfl) (by kernel_rfl) (fun _ _ _ h => h) (Or.inl ⟨by rfl, fun w hw => by have q0 := hw.cell RM.out (by simp); clear hw; go_simp⟩) hHeld ?_
              try simp only [Act.put, List.setIfInBounds_toArray, List.set_cons_zero, List.set_cons_succ, List.getElem_toArray, List.getElem_cons_zero, List.getElem_cons_succ]
              refine wpAnyH_take (i := 18) (v := .bool false) rfl (by kernel_rfl) (by kernel_rfl) (by kernel_rfl) (fun _ _ _ h => h) (Or.inl ⟨by rfl, fun w hw => by clear hw; go_simp⟩) hHeld ?_
              try simp only [Act.put, List.setIfInBounds_toArray, List.set_cons_zero, List.set_cons_succ, List.getElem_toArray, List.getElem_cons_zero, List.getElem_cons_succ]
              refine wpAnyH_take (i := 19) (v := .bool false) rfl (by kernel_rfl) (by kernel_rfl) (by kernel_rfl) (fun _ _ _ h => h) (Or.inl ⟨by rfl, fun w hw => by clear hw; go_simp⟩) hHeld ?_
              try simp only [Act.put, List.setIfInBounds_toArray, List.set_cons_zero, List.set_cons_succ, List.getElem_toArray, List.getElem_cons_zero, List.getElem_cons_succ]
              refine wpAnyH_done (by kernel_rfl) ?_ _
              have H4 := Lib.hid (H3.out.keep hHeld)
              have D4 := Lib.hid (D3.out.keep hHeld)
              have OW4 := Lib.hid (own_keepn OWN.out hHeld)
              clear hHeld
              go_upto_block 3 with fail
              by_cases hn0 : n = 0
              · subst hn0
                go_wp2_with fail
                go_loopw [25] (fun i wr => i = .int .i64 0 ∧ wr = wc2) (fun _ _ => 0)
                case atStart => exact ⟨rfl, rfl⟩
                case round =>
                  obtain ⟨rfl, rfl⟩ := hrel
                  go_wp2_with fail
                  go_roundw
                  case rel => exact ⟨j + 1, b, S, L, ao, c, rfl, by go_num, by omega, by omega, H4.out, D4.out, hla⟩
                  case measure => simp [intOf]; omega
              · obtain ⟨g, cur, rfl, hg0, hcur, hcn⟩ : ∃ g cur, lo = some ⟨g, 0, none⟩ ∧ wa.heap.size ≤ g ∧ wc2.heap[g]? = some (.cells cur 36 (0, 0)) ∧ n * 7 ≤ cur.size := by
                  rcases OW4.out.2 with ⟨e, h0⟩ | ⟨g, cap, cur, e, h1, h2, h3, h4, h5, h6⟩
                  · exact absurd h0 hn0
                  · cases e
                    exact ⟨g, cur, rfl, h1, h2, by omega⟩
                have hgS : ¬ S g := fun e => by have := HSW.out g e; omega
                have hgr : rb ≠ g := by omega
                have hga : ∀ a, ao = some a → L ≠ [] → a.block ≠ g := fun a e h => by have := HAW.out a e h; omega
                have hg00 : w.heap.size ≤ g := by omega
                clear OW4 OWN XS
                go_wp2_with fail
                go_loopw [25] (fun i wr => ∃ (t : Nat) (cur : Array Value), i = .int .i64 t ∧ t ≤ n ∧ wc2.grownBy wr (some g) ∧ wr.heap[g]? = some (.cells cur 36 (0, 0)) ∧ n * 7 ≤ cur.size) (fun i _ => (n - intOf i).toNat)
                case atStart => exact ⟨0, cur, rfl, Nat.zero_le _, g_refl _ _, hcur, hcn⟩
                case round =>
                  obtain ⟨t, cur, rfl, ht, hgw, hcur, hcn⟩ := hrel
                  have HGW := Lib.hid hgw
                  have HB : Hid (Blk wr g cur 36) := Lib.hid hcur
                  clear hgw hcur
                  by_cases htn : t < n
                  · have hti : (t : Int) < n := by omega
                    have htt : ¬ (n : Int) ≤ t := by omega
                    have ht0 : ¬ (t : Int) < 0 := by omega
                    have c2 := HB.out.cell (t * 7 + 2) (cur[t * 7 + 2]'(by omega)) (Array.getElem?_eq_getElem _)
                    have f2 := HB.out.free (t * 7 + 2)
                    go_wp2_with fail
                    have k := g_set (g_refl wr (some g)) (p := ⟨g, t * 7 + 2, none⟩) (.inl rfl) (.int .i64 99)
                    go_roundw
                    case rel => exact ⟨t + 1, _, by go_num, by omega, g_trans HGW.out k, HB.out.set (t * 7 + 2) (.int .i64 99), by simpa using hcn⟩
                    case measure => simp [intOf]; omega
                  · have hti : ¬ (t : Int) < n := by omega
                    have H5 := Lib.hid (H4.out.gs HGW.out hgS hg00)
                    have D5 := Lib.hid (D4.out.gs HGW.out hgr hga)
                    go_wp2_with fail
                    go_roundw
                    case rel => exact ⟨j + 1, b, S, L, ao, c, rfl, by go_num, by omega, by omega, H5.out, D5.out, hla⟩
                    case measure => simp [intOf]; omega
      · have hu : (Value.pointer (some ⟨b, 0, none⟩) : Value) ≠ .pointer none := by simp
        by_cases hlt1 : (j : Int) < a1n
        · have h8 : ¬ (j : Int) < 60 := by omega
          go_wp2_with fail
          go_ret
          exact ⟨rfl, below_gn (Below.refl _ _) H1.out.2.2 (Nat.le_refl _)⟩
        · go_wp2_with fail
          go_ret
          exact ⟨rfl, below_gn (Below.refl _ _) H1.out.2.2 (Nat.le_refl _)⟩
end Go.Proofs.Ytllljpmcfjmciaa
