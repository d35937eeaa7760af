/- Sets of what was read: any calls. -/
import Derived.Test.YtbaocimmpiojeaaL
import Derived.Test.YtbaocimmpiojeaaG
import Derived.Test.YtbaocimmpiojeaaH
import Derived.Deep.DeepCutAuto
import Derived.Deep.CutBlock
import Derived.Deep.RegionHeld3
namespace Go.Proofs.Ytbaocimmpiojeaa
open Go.RowKit
set_option linter.unusedVariables false
set_option linter.unusedSimpArgs false

theorem len_i (S : Nat → Prop) (b : Nat) (most : Int) (L : List (Int × Int)) (w : World) (h : Rs w S b most L) (hm : most ≠ 0) (n : Nat) (hn : L.length = n) :
    Calls Try.prog 9 #[.pointer (some ⟨b, 0, none⟩)] w fun e w' => e = .returned (.int .i64 (n : Int)) ∧ w.grownBy w' none := by
  refine (len_any S b most L w h hm).mono ?_
  rintro e w' ⟨rfl, rfl⟩
  exact ⟨by rw [hn], g_refl _ _⟩
theorem all_i (S : Nat → Prop) (b : Nat) (most : Int) (L : List (Int × Int)) (w : World) (h : Rs w S b most L) (hm : most ≠ 0) (hl : L.length ≤ 5000) (n : Nat) (hn : L.length = n) :
    Calls Try.prog 11 #[.pointer (some ⟨b, 0, none⟩)] w fun e w' => ∃ lo lc, e = .returned (.slice lo n lc) ∧ SRow w' lo L ∧ w.grownBy w' none := by
  refine (all_any S b most L w h hm hl).mono ?_
  rintro e w' ⟨v, rfl, ho, hg⟩
  obtain ⟨lo, lc, rfl, hs, -⟩ := srow_of_own ho
  exact ⟨lo, lc, by rw [hn], hs, hg⟩

set_option maxRecDepth 100000 in
set_option maxHeartbeats 12800000 in
theorem walk_RsetRuns (a0 : Int) (a1 : Option Addr) (a1n a1c : Nat) (a2 : Int) (w : World) (w0 : (Lit.int .i64 a0).wf = true) (w1 : Vec w a1 a1n a1c 3 (Q30)) (w2 : (Lit.int .i64 a2).wf = true) :
    Calls Try.prog 4 #[.int .i64 a0, .slice a1 a1n a1c, .int .i64 a2] w fun e w' => e = .returned (.bool true) ∧ Below w.heap.size w w' := by
  have V := Lib.hid w1
  have HN := Lib.hid (new_any a0 w)
  clear w0 w1 w2
  go_enter Try.func4, Try.ntmps4
  go_wp2_with fail
  refine HN.out.mono ?_
  rintro e w1 ⟨g1, ⟨hnp, rfl⟩ | ⟨hnp, b, rfl, hb, hrs⟩⟩
  · have HR := Lib.hid (rnew_any a0 w1)
    rw [hnp] at HR
    simp only [Bool.false_eq_true, if_false] at HR
    have G1 := Lib.hid g1
    clear g1 HN hnp
    go_wp2_with fail
    refine HR.out.mono ?_
    rintro e w2 ⟨rfl, g2⟩
    have G2 := Lib.hid (g_trans (g_trans G1.out g2) (g_alloc (g_refl w2 none) (.cells #[.int .i64 0, .slice none 0 0] 40)))
    clear g2
    go_wp2_with fail
    refine (awake_any _).mono ?_
    rintro e w3 ⟨rfl, g3⟩
    have G3 := Lib.hid (g_trans G2.out g3)
    clear g3
    go_wp2_with fail
    go_loopw [7, 11] (fun u i wr => u = .pointer none ∧ i = .int .i64 0 ∧ w.grownBy wr none) (fun _ i _ => 0)
    case atStart => exact ⟨rfl, rfl, G3.out⟩
    case round =>
      obtain ⟨rfl, rfl, hg⟩ := hrel
      have HG := Lib.hid hg
      clear hg
      by_cases h0 : (0 : Int) < a1n
      all_goals
        go_wp2_with fail
        go_ret
        exact ⟨rfl, below_gn (Below.refl _ _) HG.out (Nat.le_refl _)⟩
  · have HR := Lib.hid (rnew_any a0 w1)
    rw [hnp] at HR
    simp only [if_true] at HR
    have hm : a0 ≠ 0 := by
      have h := of_decide_eq_true hnp
      omega
    have G1 := Lib.hid g1
    have HRS := Lib.hid hrs
    clear g1 HN hnp hrs
    go_wp2_with fail
    refine HR.out.mono ?_
    rintro e w2 ⟨rfl, g2⟩
    obtain ⟨S0, hst⟩ := St.start G1.out HRS.out g2
    have HS0 := Lib.hid hst
    clear g2 hst HRS
    go_wp2_with fail
    refine (awake_any _).mono ?_
    rintro e w3 ⟨rfl, g3⟩
    have HS3 := Lib.hid (HS0.out.keep g3)
    clear g3 HS0
    go_wp2_with fail
    generalize hrb : w2.heap.size = rb at *
    go_loopw [7, 11] (fun u i wr => ∃ (j b : Nat) (S : Nat → Prop) (L : List (Int × Int)) (ao : Option Addr) (c : Nat), u = .pointer (some ⟨b, 0, none⟩) ∧ i = .int .i64 j ∧ j ≤ a1n ∧ j ≤ 80 ∧ L.length ≤ 2 * j ∧ St w wr S b rb a0 L L ao c) (fun _ i _ => (a1n - intOf i).toNat)
    case atStart => exact ⟨0, b, S0, [], none, 0, rfl, rfl, Nat.zero_le _, Nat.zero_le _, Nat.zero_le _, HS3.out⟩
    case round =>
      obtain ⟨j, b, S, L, ao, c, rfl, rfl, hj, hj80, hl, hst⟩ := hrel
      obtain ⟨wo, hwo⟩ : ∃ wo : World, wo = wr := ⟨_, rfl⟩
      subst hwo
      have H1 := Lib.hid hst
      have HG := Lib.hid hst.2.2.2.2.2.2.2.1
      clear hst
      by_cases hlt : j < a1n ∧ j < 80
      · obtain ⟨hlt, h80⟩ := hlt
        have hji : (j : Int) < a1n := by omega
        have hj8 : (j : Int) < 80 := by omega
        have hjj : ¬ (a1n : Int) ≤ j := by omega
        obtain ⟨bo, oo, cs, rfl, hcl, ⟨q0, k, v, rfl, wf0, wf1, wf2⟩, hcell⟩ := V.out.2.2 j hlt
        have y0 := HG.out.cell (hcell 0 _ rfl) (by simp)
        have y1 := HG.out.cell (hcell 1 _ rfl) (by simp)
        have y2 := HG.out.cell (hcell 2 _ rfl) (by simp)
        simp only [show oo + (j * 3 + 1) = oo + j * 3 + 1 from by omega, show oo + (j * 3 + 2) = oo + j * 3 + 2 from by omega, show oo + (j * 3 + 0) = oo + j * 3 from by omega] at y0 y1 y2
        have hk := wf1
        have hq : 0 ≤ q0 ∧ q0 ≤ 255 := by simpa [Lit.wf, IntKind.min, IntKind.max, IntKind.signed, IntKind.bits] using wf0
        obtain ⟨H2, O2⟩ := H1.out.new #[.int .u8 q0, .int .i64 k, .int .i64 v] 31
        have H2 := Lib.hid H2
        have O2 := Lib.hid O2
        have o0 := O2.out.1.cell 0 _ rfl
        have o1 := O2.out.1.cell 1 _ rfl
        have o2 := O2.out.1.cell 2 _ rfl
        clear hcell
        obtain ⟨d, hd⟩ : ∃ d, q0 % 7 = d := ⟨_, rfl⟩
        have hdb : 0 ≤ d ∧ d ≤ 6 := by omega
        have hmod : q0.tmod 7 = d := by rw [Int.tmod_eq_emod_of_nonneg hq.1, hd]
        clear hd
        go_upto_block 2 with fail
        go_cut [7, 13, 14] (fun s7 s13 s14 wx => ∃ (bx : Nat) (S : Nat → Prop) (L : List (Int × Int)) (ao : Option Addr) (c : Nat) (f : Int), s7 = .pointer (some ⟨bx, 0, none⟩) ∧ s13 = .int .i64 f ∧ s14 = .int .i64 f ∧ St w wx S bx rb a0 L L ao c ∧ Sd wx S wo.heap.size #[.int .u8 q0, .int .i64 k, .int .i64 v] 31 ∧ L.length ≤ 2 * j + 2)
        case first =>
          clear y0 y1 y2 HG V hmod
          by_cases d5 : d = 5
          · subst d5
            go_wp2_with fail
            refine (clear_i S b a0 L _ H2.out.1 hm).mono ?_
            rintro e w1 ⟨rfl, hmv⟩
            obtain ⟨S1, h1, hsd⟩ := H2.out.move hmv
            have H3 := Lib.hid h1
            have O3 := Lib.hid (hsd _ _ _ O2.out)
            have f1 := h1.2.2.1.free 1
            have c1 := h1.2.2.1.cell 1 _ rfl
            have kst := g_set (g_refl w1 (some rb)) (p := ⟨rb, 1, none⟩) (.inl rfl) (.slice none 0 0)
            have hbb := h1.2.2.1.set 1 (.slice none 0 0)
            obtain ⟨h4, hs4⟩ := h1.store (M' := []) (ao' := none) (c' := 0) kst (by simpa using hbb) (fun i p hi => (by cases hi)) ⟨Nat.le_refl _, by decide, fun _ => rfl⟩ St.row_nil
            have H4 := Lib.hid h4
            have O4 := Lib.hid (hs4 _ _ _ O3.out (by have := H1.out.2.2.1.lt; omega))
            clear hmv h1 hsd kst hbb h4 hs4 H3 O3 o0 o1 o2
            go_wp2_with fail
            go_meet
            case rel => exact ⟨b, S1, [], none, 0, 0, rfl, rfl, rfl, H4.out, O4.out, by simp⟩
          by_cases d6 : d = 6
          · subst d6
            clear d5
            have g0 := g_refl (wo.alloc (.cells #[.int .u8 q0, .int .i64 k, .int .i64 v] 31)) none
            go_wp2_with fail
            generalize (wo.alloc (.cells #[.int .u8 q0, .int .i64 k, .int .i64 v] 31)) = W at *
            refine (fork_any S b a0 L W H2.out.1 hm (by omega)).mono ?_
            rintro e w1 ⟨kk, rfl, hfk, gf⟩
            have HFK := Lib.hid hfk
            have GF := Lib.hid gf
            clear hfk gf g0
            go_wp2_with fail
            refine (add_i S b a0 L 7 7 w1 (H2.out.1.keep GF.out) (by omega) hm (by decide)).mono ?_
            rintro e w2 ⟨rfl, S2, h2, hb2, hs2, t2⟩
            have H22 := Lib.hid h2
            have T2 := Lib.hid t2
            have HS2 := Lib.hid hs2
            clear h2 t2 hs2 hb2
            go_wp2_with fail
            refine (clear_i S2 b a0 _ w2 H22.out hm).mono ?_
            rintro e w3 ⟨rfl, S3, h3, hb3, hs3, t3⟩
            obtain ⟨S4, h4, hs4⟩ := H2.out.fork HFK.out GF.out T2.out HS2.out t3
            have H4 := Lib.hid h4
            have O4 := Lib.hid (hs4 _ _ _ O2.out)
            clear h3 hb3 hs3 t3 h4 hs4 o0 o1 o2
            go_wp2_with fail
            go_meet
            case rel => exact ⟨kk, S4, L, ao, c, 0, rfl, rfl, rfl, H4.out, O4.out, by omega⟩
          go_wp2_with fail
          refine (add_i S b a0 L k v _ H2.out.1 (by omega) hm hk).mono ?_
          rintro e w1 ⟨rfl, hmv⟩
          obtain ⟨S1, h1, hsd⟩ := H2.out.move hmv
          have H3 := Lib.hid h1
          have O3 := Lib.hid (hsd _ _ _ O2.out)
          have o1 := O3.out.1.cell 1 _ rfl
          have o2 := O3.out.1.cell 2 _ rfl
          have q0' := h1.2.2.1.cell 0 _ rfl
          have q1' := h1.2.2.1.cell 1 _ rfl
          have hcs := h1.2.2.2.2.1
          have hsr := Lib.hid h1.2.2.2.1
          have hnn := Lib.hid h1.2.2.2.2.1.2.2
          have hcc := Lib.hid (And.intro h1.2.2.2.2.1.1 h1.2.2.2.2.1.2.1)
          obtain ⟨ap, hap⟩ : ∃ ap, addP a0 L k v = ap := ⟨_, rfl⟩
          have HRA := Lib.hid (radd_any a0 ao c L k v w1 hsr.out hcc.out.1 hcc.out.2 hnn.out (by omega))
          have HLE := Lib.hid (addP_le a0 L k v)
          rw [hap] at HRA HLE H3 ⊢
          clear hmv h1 hsd o0 hcs hap hsr hnn hcc
          go_wp2_with fail
          refine HRA.out.mono ?_
          rintro e w4 ⟨x, rfl, hrv, g4⟩
          obtain ⟨ao', c', rfl, r1, r2, r3⟩ := H3.out.rv g4 hrv
          have H5 := Lib.hid (H3.out.keep g4)
          have O5 := Lib.hid (O3.out.keep g4)
          have hrb3 := H3.out.2.2.1.lt
          have f0 := H5.out.2.2.1.free 0
          have f1 := H5.out.2.2.1.free 1
          have kst := g_set (g_set (g_refl w4 (some rb)) (p := ⟨rb, 0, none⟩) (.inl rfl) (.int .i64 a0)) (p := ⟨rb, 1, none⟩) (.inl rfl) (.slice ao' ap.2.length c')
          have hbb := (H5.out.2.2.1.set 0 (.int .i64 a0)).set 1 (.slice ao' ap.2.length c')
          obtain ⟨h6, hs6⟩ := H5.out.store (M' := ap.2) (ao' := ao') (c' := c') kst (by simpa using hbb) r1 r2 r3
          have H6 := Lib.hid h6
          have O6 := Lib.hid (hs6 _ _ _ O5.out (by have := H1.out.2.2.1.lt; omega))
          have q2 := H5.out.2.2.1.cell 0 _ rfl
          have q3 := H5.out.2.2.1.cell 1 _ rfl
          clear hrv r1 r2 r3 g4 kst hbb h6 hs6 o1 o2 q0' q1' H5 O5 H3 O3
          go_wp2_with fail
          go_meet
          case rel => exact ⟨b, S1, ap.2, ao', c', ap.1, rfl, rfl, rfl, H6.out, O6.out, by have := HLE.out; omega⟩
        case rest =>
          obtain ⟨bx, S, L, ao, c, f, rfl, rfl, rfl, hst, hsd, hlx⟩ := hcut
          have H1 := Lib.hid hst
          have O1 := Lib.hid hsd
          have p1 := hsd.1.cell 1 (.int .i64 k) rfl
          clear hst hsd H2 O2 o0 o1 o2 y0 y1 y2 hmod V HG
          rename World => wA
          obtain ⟨hp, hhp⟩ : ∃ hp, hasP L k = hp := ⟨_, rfl⟩
          obtain ⟨n, hn⟩ : ∃ n, L.length = n := ⟨_, rfl⟩
          have HHP := Lib.hid hhp
          have HL := Lib.hid hn
          have hn5 : n ≤ 5000 := by omega
          clear hhp
          have HN5 : Hid (L.length ≤ 5000) := Lib.hid (by omega)
          rw [hn] at hlx
          clear hn
          go_wp2_with fail
          refine (has_i S bx a0 L k _ H1.out.1 HN5.out hm hk).mono ?_
          rw [HHP.out]
          rintro e w4 ⟨rfl, hmv⟩
          obtain ⟨S4, h4, hs4⟩ := H1.out.move hmv
          have H4 := Lib.hid h4
          have O4 := Lib.hid (hs4 _ _ _ O1.out)
          clear hmv h4 hs4 p1 O1 H1
          have p1 := O4.out.1.cell 1 (.int .i64 k) rfl
          have q1 := H4.out.2.2.1.cell 0 _ rfl
          have q2 : w4.cell? ⟨rb, 1, none⟩ = some (.slice ao n c) := by have h := H4.out.2.2.1.cell 1 _ rfl; rw [HL.out] at h; exact h
          go_wp2_with fail
          refine (rhas_any a0 ao n c L k _ H4.out.2.2.2.1 HL.out (by omega)).mono ?_
          rw [HHP.out]
          rintro e w5 ⟨rfl, g5⟩
          have H5 := Lib.hid (H4.out.keep g5)
          clear g5 p1 q1 q2 O4 H4
          go_wp2_with fail
          refine (at_any S4 bx a0 L a2 _ H5.out.1 hm).mono ?_
          rintro e w6 ⟨rfl, g6⟩
          obtain ⟨av, hav⟩ : ∃ av, atP L a2 = av := ⟨_, rfl⟩
          rw [hav]
          obtain ⟨⟨x1, x2⟩, aok⟩ := av
          have HAV := Lib.hid hav
          have H6 := Lib.hid (H5.out.keep g6)
          obtain ⟨h7, xb⟩ := H6.out.new #[.int .i64 x1, .int .i64 x2] 37
          obtain ⟨h8, yb⟩ := h7.new #[.int .i64 0, .int .i64 0] 37
          have xb := xb.keep (g_alloc (g_refl (w6.alloc (.cells #[.int .i64 x1, .int .i64 x2] 37)) none) (.cells #[.int .i64 0, .int .i64 0] 37))
          have H8 := Lib.hid h8
          have XB := Lib.hid xb
          have YB : Hid (Sd ((w6.alloc (.cells #[.int .i64 x1, .int .i64 x2] 37)).alloc (.cells #[.int .i64 0, .int .i64 0] 37)) S4 (w6.heap.size + 1) #[.int .i64 0, .int .i64 0] 37) := Lib.hid (by rw [size_al2] at yb; exact yb)
          have q2 := H8.out.2.2.1.cell 1 _ rfl
          rw [HL.out] at q2
          simp only
          clear g6 hav H5 h7 h8 xb yb
          by_cases h0 : 0 ≤ a2
          · obtain ⟨t, rfl⟩ := Int.eq_ofNat_of_zero_le h0
            by_cases ht : (t : Int) < n
            · have htn : t < L.length := by rw [HL.out]; omega
              have hlt' := List.getElem?_eq_getElem htn
              obtain ⟨pp, hpp⟩ : ∃ pp, L[t]'htn = pp := ⟨_, rfl⟩
              rw [hpp] at hlt'
              have hao : x1 = pp.1 ∧ x2 = pp.2 ∧ aok = true := by
                have h := HAV.out
                unfold atP at h
                rw [if_pos ⟨by omega, by rw [HL.out]; exact ht⟩] at h
                simp only [Int.toNat_natCast, List.getD_eq_getElem?_getD, hlt', Option.getD_some] at h
                cases h
                exact ⟨rfl, rfl, rfl⟩
              obtain ⟨rfl, rfl, rfl⟩ := hao
              obtain ⟨br, orr, rfl, z0, z1⟩ := H8.out.2.2.2.1 t pp hlt'
              have htn' : t < n := by omega
              have fy0 := YB.out.1.free 0
              have fy1 := YB.out.1.free 1
              have cy0 := YB.out.1.cell 0 _ rfl
              have cy1 := YB.out.1.cell 1 _ rfl
              have ga := g_alloc (g_refl w6 none) (.cells #[.int .i64 pp.1, .int .i64 pp.2] 37)
              have gb := g_alloc (g_refl (w6.alloc (.cells #[.int .i64 pp.1, .int .i64 pp.2] 37)) none) (.cells #[.int .i64 pp.1, .int .i64 pp.2] 37)
              have H9 := Lib.hid (H6.out.keep (g_trans ga gb))
              have XB9 : Hid (Blk ((w6.alloc (.cells #[.int .i64 pp.1, .int .i64 pp.2] 37)).alloc (.cells #[.int .i64 pp.1, .int .i64 pp.2] 37)) w6.heap.size #[.int .i64 pp.1, .int .i64 pp.2] 37 ∧ True) := Lib.hid (And.intro ((Blk.new w6 #[.int .i64 pp.1, .int .i64 pp.2] 37).keepn gb) True.intro)
              have YB9 : Hid (Blk ((w6.alloc (.cells #[.int .i64 pp.1, .int .i64 pp.2] 37)).alloc (.cells #[.int .i64 pp.1, .int .i64 pp.2] 37)) (w6.heap.size + 1) #[.int .i64 pp.1, .int .i64 pp.2] 37 ∧ True) := Lib.hid (And.intro (by have h := Blk.new (w6.alloc (.cells #[.int .i64 pp.1, .int .i64 pp.2] 37)) #[.int .i64 pp.1, .int .i64 pp.2] 37; rw [size_al2] at h; exact h) True.intro)
              have hzz : 0 ≤ (t : Int) := h0
              clear hlt' hpp htn ga gb H6
              go_wp2_with fail
              clear z0 z1 fy0 fy1 cy0 cy1 H8 XB YB q2
              generalize ((w6.alloc (.cells #[.int .i64 pp.1, .int .i64 pp.2] 37)).alloc (.cells #[.int .i64 pp.1, .int .i64 pp.2] 37)) = W1 at *
              have H8 := H9
              have XB := XB9
              have YB := YB9
              have q2 : W1.cell? ⟨rb, 1, none⟩ = some (.slice (some ⟨br, orr, none⟩) n c) := by have h := H8.out.2.2.1.cell 1 _ rfl; rw [HL.out] at h; exact h
              clear H9 XB9 YB9
              have TT : Hid (W1.cell? ⟨w6.heap.size, 0, none⟩ = some (.int .i64 pp.1) ∧ W1.cell? ⟨w6.heap.size, 1, none⟩ = some (.int .i64 pp.2) ∧ W1.cell? ⟨w6.heap.size + 1, 0, none⟩ = some (.int .i64 pp.1) ∧ W1.cell? ⟨w6.heap.size + 1, 1, none⟩ = some (.int .i64 pp.2) ∧ W1.cell? ⟨rb, 1, none⟩ = some (.slice (some ⟨br, orr, none⟩) n c)) := Lib.hid ⟨XB.out.1.cell 0 _ rfl, XB.out.1.cell 1 _ rfl, YB.out.1.cell 0 _ rfl, YB.out.1.cell 1 _ rfl, q2⟩
              have HHD := Lib.hid H8.out.1
              have HRS := Lib.hid H8.out.2.2.2.1
              have e1 : (f != f) = false := by simp
              have e2 : (hp.1 != hp.1) = false := by simp
              have e3 : (hp.2 != hp.2) = false := by simp
              have e4 : ((n : Int) != (n : Int)) = false := by simp
              have e5 : (pp.1 != pp.1) = false := by simp
              have e6 : (pp.2 != pp.2) = false := by simp
              clear q2 HHP HAV XB YB
              refine wp_region_held_drew (S := fun W' => W1.grownBy W' none) (by kernel_rfl) (g_drew (g_refl _ _)) (fun hHeld => ?_)
              refine wpAnyH_take (i := 0) (v := .int .i64 f) rfl (by kernel_rfl) (by kernel_rfl) (by kernel_rfl) (fun _ _ _ h => h) (Or.inl ⟨by rfl, fun w hw => by clear hw; go_simp⟩) hHeld ?_
              try simp only [Act.put, List.setIfInBounds_toArray, List.set_cons_zero, List.set_cons_succ, List.getElem_toArray, List.getElem_cons_zero, List.getElem_cons_succ]
              refine wpAnyH_take (i := 1) (v := .int .i64 f) rfl (by kernel_rfl) (by kernel_rfl) (by kernel_rfl) (fun _ _ _ h => h) (Or.inl ⟨by rfl, fun w hw => by clear hw; go_simp⟩) hHeld ?_
              try simp only [Act.put, List.setIfInBounds_toArray, List.set_cons_zero, List.set_cons_succ, List.getElem_toArray, List.getElem_cons_zero, List.getElem_cons_succ]
              refine wpAnyH_take (i := 2) (v := .bool false) rfl (by kernel_rfl) (by kernel_rfl) (by kernel_rfl) (fun _ _ _ h => h) (Or.inl ⟨by rfl, fun w hw => by clear hw; go_simp⟩) hHeld ?_
              try simp only [Act.put, List.setIfInBounds_toArray, List.set_cons_zero, List.set_cons_succ, List.getElem_toArray, List.getElem_cons_zero, List.getElem_cons_succ]
              refine wpAnyH_take (i := 3) (v := .bool false) rfl (by kernel_rfl) (by kernel_rfl) (by kernel_rfl) (fun _ _ _ h => h) (Or.inl ⟨by rfl, fun w hw => by clear hw; go_simp⟩) hHeld ?_
              try simp only [Act.put, List.setIfInBounds_toArray, List.set_cons_zero, List.set_cons_succ, List.getElem_toArray, List.getElem_cons_zero, List.getElem_cons_succ]
              refine wpAnyH_take (i := 4) (v := .int .i64 hp.1) rfl (by kernel_rfl) (by kernel_rfl) (by kernel_rfl) (fun _ _ _ h => h) (Or.inl ⟨by rfl, fun w hw => by clear hw; go_simp⟩) hHeld ?_
              try simp only [Act.put, List.setIfInBounds_toArray, List.set_cons_zero, List.set_cons_succ, List.getElem_toArray, List.getElem_cons_zero, List.getElem_cons_succ]
              refine wpAnyH_take (i := 5) (v := .int .i64 hp.1) rfl (by kernel_rfl) (by kernel_rfl) (by kernel_rfl) (fun _ _ _ h => h) (Or.inl ⟨by rfl, fun w hw => by clear hw; go_simp⟩) hHeld ?_
              try simp only [Act.put, List.setIfInBounds_toArray, List.set_cons_zero, List.set_cons_succ, List.getElem_toArray, List.getElem_cons_zero, List.getElem_cons_succ]
              refine wpAnyH_take (i := 6) (v := .bool false) rfl (by kernel_rfl) (by kernel_rfl) (by kernel_rfl) (fun _ _ _ h => h) (Or.inl ⟨by rfl, fun w hw => by clear hw; go_simp⟩) hHeld ?_
              try simp only [Act.put, List.setIfInBounds_toArray, List.set_cons_zero, List.set_cons_succ, List.getElem_toArray, List.getElem_cons_zero, List.getElem_cons_succ]
              refine wpAnyH_take (i := 7) (v := .bool false) rfl (by kernel_rfl) (by kernel_rfl) (by kernel_rfl) (fun _ _ _ h => h) (Or.inl ⟨by rfl, fun w hw => by clear hw; go_simp⟩) hHeld ?_
              try simp only [Act.put, List.setIfInBounds_toArray, List.set_cons_zero, List.set_cons_succ, List.getElem_toArray, List.getElem_cons_zero, List.getElem_cons_succ]
              refine wpAnyH_take (i := 8) (v := .bool false) rfl (by kernel_rfl) (by kernel_rfl) (by kernel_rfl) (fun _ _ _ h => h) (Or.inl ⟨by rfl, fun w hw => by clear hw; go_simp⟩) hHeld ?_
              try simp only [Act.put, List.setIfInBounds_toArray, List.set_cons_zero, List.set_cons_succ, List.getElem_toArray, List.getElem_cons_zero, List.getElem_cons_succ]
              refine wpAnyH_take (i := 9) (v := .bool hp.2) rfl (by kernel_rfl) (by kernel_rfl) (by kernel_rfl) (fun _ _ _ h => h) (Or.inl ⟨by rfl, fun w hw => by clear hw; go_simp⟩) hHeld ?_
              try simp only [Act.put, List.setIfInBounds_toArray, List.set_cons_zero, List.set_cons_succ, List.getElem_toArray, List.getElem_cons_zero, List.getElem_cons_succ]
              refine wpAnyH_take (i := 10) (v := .bool hp.2) rfl (by kernel_rfl) (by kernel_rfl) (by kernel_rfl) (fun _ _ _ h => h) (Or.inl ⟨by rfl, fun w hw => by clear hw; go_simp⟩) hHeld ?_
              try simp only [Act.put, List.setIfInBounds_toArray, List.set_cons_zero, List.set_cons_succ, List.getElem_toArray, List.getElem_cons_zero, List.getElem_cons_succ]
              refine wpAnyH_take (i := 11) (v := .bool false) rfl (by kernel_rfl) (by kernel_rfl) (by kernel_rfl) (fun _ _ _ h => h) (Or.inl ⟨by rfl, fun w hw => by clear hw; go_simp⟩) hHeld ?_
              try simp only [Act.put, List.setIfInBounds_toArray, List.set_cons_zero, List.set_cons_succ, List.getElem_toArray, List.getElem_cons_zero, List.getElem_cons_succ]
              refine wpAnyH_take (i := 12) (v := .bool false) rfl (by kernel_rfl) (by kernel_rfl) (by kernel_rfl) (fun _ _ _ h => h) (Or.inl ⟨by rfl, fun w hw => by clear hw; go_simp⟩) hHeld ?_
              try simp only [Act.put, List.setIfInBounds_toArray, List.set_cons_zero, List.set_cons_succ, List.getElem_toArray, List.getElem_cons_zero, List.getElem_cons_succ]
              refine wpAnyH_take (i := 13) (v := .bool false) rfl (by kernel_rfl) (by kernel_rfl) (by kernel_rfl) (fun _ _ _ h => h) (Or.inl ⟨by rfl, fun w hw => by clear hw; go_simp⟩) hHeld ?_
              try simp only [Act.put, List.setIfInBounds_toArray, List.set_cons_zero, List.set_cons_succ, List.getElem_toArray, List.getElem_cons_zero, List.getElem_cons_succ]
              refine wpAnyH_take (i := 14) (v := .agg #[.int .i64 pp.1, .int .i64 pp.2]) rfl (by kernel_rfl) (by kernel_rfl) (by kernel_rfl) (fun _ _ _ h => h) (Or.inl ⟨by rfl, fun w hw => by have q0 := hw.cell TT.out.1 (by simp); have q1 := hw.cell TT.out.2.1 (by simp); clear hw; go_simp⟩) hHeld ?_
              try simp only [Act.put, List.setIfInBounds_toArray, List.set_cons_zero, List.set_cons_succ, List.getElem_toArray, List.getElem_cons_zero, List.getElem_cons_succ]
              refine wpAnyH_take (i := 15) (v := .agg #[.int .i64 pp.1, .int .i64 pp.2]) rfl (by kernel_rfl) (by kernel_rfl) (by kernel_rfl) (fun _ _ _ h => h) (Or.inl ⟨by rfl, fun w hw => by have q0 := hw.cell TT.out.2.2.1 (by simp); have q1 := hw.cell TT.out.2.2.2.1 (by simp); clear hw; go_simp⟩) hHeld ?_
              try simp only [Act.put, List.setIfInBounds_toArray, List.set_cons_zero, List.set_cons_succ, List.getElem_toArray, List.getElem_cons_zero, List.getElem_cons_succ]
              refine wpAnyH_take (i := 16) (v := .bool false) rfl (by kernel_rfl) (by kernel_rfl) (by kernel_rfl) (fun _ _ _ h => h) (Or.inl ⟨by rfl, fun w hw => by clear hw; go_simp⟩) hHeld ?_
              try simp only [Act.put, List.setIfInBounds_toArray, List.set_cons_zero, List.set_cons_succ, List.getElem_toArray, List.getElem_cons_zero, List.getElem_cons_succ]
              refine wpAnyH_take (i := 17) (v := .bool false) rfl (by kernel_rfl) (by kernel_rfl) (by kernel_rfl) (fun _ _ _ h => h) (Or.inl ⟨by rfl, fun w hw => by clear hw; go_simp⟩) hHeld ?_
              try simp only [Act.put, List.setIfInBounds_toArray, List.set_cons_zero, List.set_cons_succ, List.getElem_toArray, List.getElem_cons_zero, List.getElem_cons_succ]
              refine wpAnyH_take (i := 18) (v := .bool false) rfl (by kernel_rfl) (by kernel_rfl) (by kernel_rfl) (fun _ _ _ h => h) (Or.inl ⟨by rfl, fun w hw => by clear hw; go_simp⟩) hHeld ?_
              try simp only [Act.put, List.setIfInBounds_toArray, List.set_cons_zero, List.set_cons_succ, List.getElem_toArray, List.getElem_cons_zero, List.getElem_cons_succ]
              refine wpAnyH_take (i := 19) (v := .bool true) rfl (by kernel_rfl) (by kernel_rfl) (by kernel_rfl) (fun _ _ _ h => h) (Or.inl ⟨by rfl, fun w hw => by clear hw; go_simp⟩) hHeld ?_
              try simp only [Act.put, List.setIfInBounds_toArray, List.set_cons_zero, List.set_cons_succ, List.getElem_toArray, List.getElem_cons_zero, List.getElem_cons_succ]
              refine wpAnyH_take (i := 20) (v := .int .i64 (t : Int)) rfl (by kernel_rfl) (by kernel_rfl) (by kernel_rfl) (fun _ _ _ h => h) (Or.inl ⟨by rfl, fun w hw => by clear hw; go_simp⟩) hHeld ?_
              try simp only [Act.put, List.setIfInBounds_toArray, List.set_cons_zero, List.set_cons_succ, List.getElem_toArray, List.getElem_cons_zero, List.getElem_cons_succ]
              refine wpAnyH_take (i := 21) (v := .bool true) rfl (by kernel_rfl) (by kernel_rfl) (by kernel_rfl) (fun _ _ _ h => h) (Or.inl ⟨by rfl, fun w hw => by clear hw; go_simp⟩) hHeld ?_
              try simp only [Act.put, List.setIfInBounds_toArray, List.set_cons_zero, List.set_cons_succ, List.getElem_toArray, List.getElem_cons_zero, List.getElem_cons_succ]
              refine wpAnyH_take (i := 22) (v := .bool true) rfl (by kernel_rfl) (by kernel_rfl) (by kernel_rfl) (fun _ _ _ h => h) (Or.inl ⟨by rfl, fun w hw => by clear hw; go_simp⟩) hHeld ?_
              try simp only [Act.put, List.setIfInBounds_toArray, List.set_cons_zero, List.set_cons_succ, List.getElem_toArray, List.getElem_cons_zero, List.getElem_cons_succ]
              refine wpAnyH_take (i := 23) (v := .int .i64 (t : Int)) rfl (by kernel_rfl) (by kernel_rfl) (by kernel_rfl) (fun _ _ _ h => h) (Or.inl ⟨by rfl, fun w hw => by clear hw; go_simp⟩) hHeld ?_
              try simp only [Act.put, List.setIfInBounds_toArray, List.set_cons_zero, List.set_cons_succ, List.getElem_toArray, List.getElem_cons_zero, List.getElem_cons_succ]
              refine wpAnyH_take (i := 24) (v := .pointer (some ⟨rb, 1, none⟩)) rfl (by kernel_rfl) (by kernel_rfl) (by kernel_rfl) (fun _ _ _ h => h) (Or.inl ⟨by rfl, fun w hw => by clear hw; go_simp⟩) hHeld ?_
              try simp only [Act.put, List.setIfInBounds_toArray, List.set_cons_zero, List.set_cons_succ, List.getElem_toArray, List.getElem_cons_zero, List.getElem_cons_succ]
              refine wpAnyH_take (i := 25) (v := .slice (some ⟨br, orr, none⟩) n c) rfl (by kernel_rfl) (by kernel_rfl) (by kernel_rfl) (fun _ _ _ h => h) (Or.inl ⟨by rfl, fun w hw => by have q0 := hw.cell TT.out.2.2.2.2 (by simp); clear hw; go_simp⟩) hHeld ?_
              try simp only [Act.put, List.setIfInBounds_toArray, List.set_cons_zero, List.set_cons_succ, List.getElem_toArray, List.getElem_cons_zero, List.getElem_cons_succ]
              refine wpAnyH_take (i := 26) (v := .int .i64 (n : Int)) rfl (by kernel_rfl) (by kernel_rfl) (by kernel_rfl) (fun _ _ _ h => h) (Or.inl ⟨by rfl, fun w hw => by clear hw; go_simp⟩) hHeld ?_
              try simp only [Act.put, List.setIfInBounds_toArray, List.set_cons_zero, List.set_cons_succ, List.getElem_toArray, List.getElem_cons_zero, List.getElem_cons_succ]
              refine wpAnyH_take (i := 27) (v := .bool true) rfl (by kernel_rfl) (by kernel_rfl) (by kernel_rfl) (fun _ _ _ h => h) (Or.inl ⟨by rfl, fun w hw => by clear hw; go_simp⟩) hHeld ?_
              try simp only [Act.put, List.setIfInBounds_toArray, List.set_cons_zero, List.set_cons_succ, List.getElem_toArray, List.getElem_cons_zero, List.getElem_cons_succ]
              refine wpAnyH_take (i := 28) (v := .bool true) rfl (by kernel_rfl) (by kernel_rfl) (by kernel_rfl) (fun _ _ _ h => h) (Or.inl ⟨by rfl, fun w hw => by clear hw; go_simp⟩) hHeld ?_
              try simp only [Act.put, List.setIfInBounds_toArray, List.set_cons_zero, List.set_cons_succ, List.getElem_toArray, List.getElem_cons_zero, List.getElem_cons_succ]
              refine wpAnyH_take (i := 29) (v := .bool false) rfl (by kernel_rfl) (by kernel_rfl) (by kernel_rfl) (fun _ _ _ h => h) (Or.inl ⟨by rfl, fun w hw => by clear hw; go_simp⟩) hHeld ?_
              try simp only [Act.put, List.setIfInBounds_toArray, List.set_cons_zero, List.set_cons_succ, List.getElem_toArray, List.getElem_cons_zero, List.getElem_cons_succ]
              refine wpAnyH_take (i := 30) (v := .bool false) rfl (by kernel_rfl) (by kernel_rfl) (by kernel_rfl) (fun _ _ _ h => h) (Or.inl ⟨by rfl, fun w hw => by clear hw; go_simp⟩) hHeld ?_
              try simp only [Act.put, List.setIfInBounds_toArray, List.set_cons_zero, List.set_cons_succ, List.getElem_toArray, List.getElem_cons_zero, List.getElem_cons_succ]
              refine wpAnyH_take (i := 31) (v := .bool false) rfl (by kernel_rfl) (by kernel_rfl) (by kernel_rfl) (fun _ _ _ h => h) (Or.inl ⟨by rfl, fun w hw => by clear hw; go_simp⟩) hHeld ?_
              try simp only [Act.put, List.setIfInBounds_toArray, List.set_cons_zero, List.set_cons_succ, List.getElem_toArray, List.getElem_cons_zero, List.getElem_cons_succ]
              refine wpAnyH_take (i := 32) (v := .pointer (some ⟨bx, 0, none⟩)) rfl (by kernel_rfl) (by kernel_rfl) (by kernel_rfl) (fun _ _ _ h => h) (Or.inl ⟨by rfl, fun w hw => by clear hw; go_simp⟩) hHeld ?_
              try simp only [Act.put, List.setIfInBounds_toArray, List.set_cons_zero, List.set_cons_succ, List.getElem_toArray, List.getElem_cons_zero, List.getElem_cons_succ]
              refine wpAnyH_take (i := 34) (v := .pointer (some ⟨rb, 1, none⟩)) rfl (by kernel_rfl) (by kernel_rfl) (by kernel_rfl) (fun _ _ _ h => h) (Or.inl ⟨by rfl, fun w hw => by clear hw; go_simp⟩) hHeld ?_
              try simp only [Act.put, List.setIfInBounds_toArray, List.set_cons_zero, List.set_cons_succ, List.getElem_toArray, List.getElem_cons_zero, List.getElem_cons_succ]
              refine wpAnyH_take (i := 35) (v := .slice (some ⟨br, orr, none⟩) n c) rfl (by kernel_rfl) (by kernel_rfl) (by kernel_rfl) (fun _ _ _ h => h) (Or.inl ⟨by rfl, fun w hw => by have q0 := hw.cell TT.out.2.2.2.2 (by simp); clear hw; go_simp⟩) hHeld ?_
              try simp only [Act.put, List.setIfInBounds_toArray, List.set_cons_zero, List.set_cons_succ, List.getElem_toArray, List.getElem_cons_zero, List.getElem_cons_succ]
              refine wpAnyH_take (i := 36) (v := .int .i64 (n : Int)) rfl (by kernel_rfl) (by kernel_rfl) (by kernel_rfl) (fun _ _ _ h => h) (Or.inl ⟨by rfl, fun w hw => by clear hw; go_simp⟩) hHeld ?_
              try simp only [Act.put, List.setIfInBounds_toArray, List.set_cons_zero, List.set_cons_succ, List.getElem_toArray, List.getElem_cons_zero, List.getElem_cons_succ]
              refine wpAnyH_ready (rs := [33]) (by kernel_rfl) (by simp) (AllReadyH.cons rfl (fun K hK => ?_) (AllReadyH.nil))
              · go_simp
                refine Calls.mono (len_i S4 bx a0 L _ (HHD.out.keep hHeld) hm n HL.out) ?_
                rintro e wc1 ⟨rfl, gc1⟩
                try go_wp2_with fail
                refine hK.out _ _ (g_trans hHeld gc1) (fun hHeld => ?_)
                clear hK K gc1
                try simp only [Act.put, List.setIfInBounds_toArray, List.set_cons_zero, List.set_cons_succ, List.getElem_toArray, List.getElem_cons_zero, List.getElem_cons_succ]
                refine wpAnyH_take (i := 37) (v := .bool false) rfl (by kernel_rfl) (by kernel_rfl) (by kernel_rfl) (fun _ _ _ h => h) (Or.inl ⟨by rfl, fun w hw => by clear hw; go_simp⟩) hHeld ?_
                try simp only [Act.put, List.setIfInBounds_toArray, List.set_cons_zero, List.set_cons_succ, List.getElem_toArray, List.getElem_cons_zero, List.getElem_cons_succ]
                refine wpAnyH_take (i := 38) (v := .bool false) rfl (by kernel_rfl) (by kernel_rfl) (by kernel_rfl) (fun _ _ _ h => h) (Or.inl ⟨by rfl, fun w hw => by clear hw; go_simp⟩) hHeld ?_
                try simp only [Act.put, List.setIfInBounds_toArray, List.set_cons_zero, List.set_cons_succ, List.getElem_toArray, List.getElem_cons_zero, List.getElem_cons_succ]
                refine wpAnyH_take (i := 39) (v := .bool false) rfl (by kernel_rfl) (by kernel_rfl) (by kernel_rfl) (fun _ _ _ h => h) (Or.inl ⟨by rfl, fun w hw => by clear hw; go_simp⟩) hHeld ?_
                try simp only [Act.put, List.setIfInBounds_toArray, List.set_cons_zero, List.set_cons_succ, List.getElem_toArray, List.getElem_cons_zero, List.getElem_cons_succ]
                refine wpAnyH_take (i := 40) (v := .pointer (some ⟨bx, 0, none⟩)) rfl (by kernel_rfl) (by kernel_rfl) (by kernel_rfl) (fun _ _ _ h => h) (Or.inl ⟨by rfl, fun w hw => by clear hw; go_simp⟩) hHeld ?_
                try simp only [Act.put, List.setIfInBounds_toArray, List.set_cons_zero, List.set_cons_succ, List.getElem_toArray, List.getElem_cons_zero, List.getElem_cons_succ]
                refine wpAnyH_take (i := 42) (v := .pointer (some ⟨rb, 1, none⟩)) rfl (by kernel_rfl) (by kernel_rfl) (by kernel_rfl) (fun _ _ _ h => h) (Or.inl ⟨by rfl, fun w hw => by clear hw; go_simp⟩) hHeld ?_
                try simp only [Act.put, List.setIfInBounds_toArray, List.set_cons_zero, List.set_cons_succ, List.getElem_toArray, List.getElem_cons_zero, List.getElem_cons_succ]
                refine wpAnyH_take (i := 43) (v := .slice (some ⟨br, orr, none⟩) n c) rfl (by kernel_rfl) (by kernel_rfl) (by kernel_rfl) (fun _ _ _ h => h) (Or.inl ⟨by rfl, fun w hw => by have q0 := hw.cell TT.out.2.2.2.2 (by simp); clear hw; go_simp⟩) hHeld ?_
                try simp only [Act.put, List.setIfInBounds_toArray, List.set_cons_zero, List.set_cons_succ, List.getElem_toArray, List.getElem_cons_zero, List.getElem_cons_succ]
                refine wpAnyH_ready (rs := [41]) (by kernel_rfl) (by simp) (AllReadyH.cons rfl (fun K hK => ?_) (AllReadyH.nil))
                · go_simp
                  refine Calls.mono (all_i S4 bx a0 L _ (HHD.out.keep hHeld) hm HN5.out n HL.out) ?_
                  rintro e wc2 ⟨lo, lc, rfl, hls, gc2⟩
                  try go_wp2_with fail
                  refine hK.out _ _ (g_trans hHeld gc2) (fun hHeld => ?_)
                  clear hK K gc2
                  try simp only [Act.put, List.setIfInBounds_toArray, List.set_cons_zero, List.set_cons_succ, List.getElem_toArray, List.getElem_cons_zero, List.getElem_cons_succ]
                  refine wpAnyH_ready (rs := [44]) (by kernel_rfl) (by simp) (AllReadyH.cons rfl (fun K hK => ?_) (AllReadyH.nil))
                  · go_simp
                    refine Calls.mono (same_any lo (some ⟨br, orr, none⟩) n lc c L _ hls (HRS.out.keep hHeld) HL.out (by omega)) ?_
                    rintro e wc3 ⟨rfl, gc3⟩
                    try go_wp2_with fail
                    refine hK.out _ _ (g_trans hHeld gc3) (fun hHeld => ?_)
                    clear hK K gc3
                    try simp only [Act.put, List.setIfInBounds_toArray, List.set_cons_zero, List.set_cons_succ, List.getElem_toArray, List.getElem_cons_zero, List.getElem_cons_succ]
                    refine wpAnyH_take (i := 45) (v := .bool false) rfl (by kernel_rfl) (by kernel_rfl) (by kernel_rfl) (fun _ _ _ h => h) (Or.inl ⟨by rfl, fun w hw => by clear hw; go_simp⟩) hHeld ?_
                    try simp only [Act.put, List.setIfInBounds_toArray, List.set_cons_zero, List.set_cons_succ, List.getElem_toArray, List.getElem_cons_zero, List.getElem_cons_succ]
                    refine wpAnyH_take (i := 46) (v := .bool false) rfl (by kernel_rfl) (by kernel_rfl) (by kernel_rfl) (fun _ _ _ h => h) (Or.inl ⟨by rfl, fun w hw => by clear hw; go_simp⟩) hHeld ?_
                    try simp only [Act.put, List.setIfInBounds_toArray, List.set_cons_zero, List.set_cons_succ, List.getElem_toArray, List.getElem_cons_zero, List.getElem_cons_succ]
                    refine wpAnyH_done (by kernel_rfl) ?_ _
                    go_wp2_with fail
                    go_roundw
                    case rel => exact ⟨j + 1, bx, S4, L, (some ⟨br, orr, none⟩), c, rfl, by go_num, by omega, by omega, by rw [HL.out]; omega, H8.out.keep hHeld⟩
                    case measure => simp [intOf]; omega
            · have hnt : (n : Int) ≤ t := by omega
              have hao : x1 = 0 ∧ x2 = 0 ∧ aok = false := by
                have h := HAV.out
                unfold atP at h
                rw [if_neg (by rw [HL.out]; omega)] at h
                cases h
                exact ⟨rfl, rfl, rfl⟩
              obtain ⟨rfl, rfl, rfl⟩ := hao
              go_wp2_with fail
              clear H6
              generalize ((w6.alloc (.cells #[.int .i64 0, .int .i64 0] 37)).alloc (.cells #[.int .i64 0, .int .i64 0] 37)) = W1 at *
              have TT : Hid (W1.cell? ⟨w6.heap.size, 0, none⟩ = some (.int .i64 0) ∧ W1.cell? ⟨w6.heap.size, 1, none⟩ = some (.int .i64 0) ∧ W1.cell? ⟨w6.heap.size + 1, 0, none⟩ = some (.int .i64 0) ∧ W1.cell? ⟨w6.heap.size + 1, 1, none⟩ = some (.int .i64 0) ∧ W1.cell? ⟨rb, 1, none⟩ = some (.slice ao n c)) := Lib.hid ⟨XB.out.1.cell 0 _ rfl, XB.out.1.cell 1 _ rfl, YB.out.1.cell 0 _ rfl, YB.out.1.cell 1 _ rfl, q2⟩
              have HHD := Lib.hid H8.out.1
              have HRS := Lib.hid H8.out.2.2.2.1
              have e1 : (f != f) = false := by simp
              have e2 : (hp.1 != hp.1) = false := by simp
              have e3 : (hp.2 != hp.2) = false := by simp
              have e4 : ((n : Int) != (n : Int)) = false := by simp
              have ht2 : ¬ (t : Int) < n := by omega
              have ht3 : ¬ t < n := by omega
              clear q2 HHP HAV XB YB
              refine wp_region_held_drew (S := fun W' => W1.grownBy W' none) (by kernel_rfl) (g_drew (g_refl _ _)) (fun hHeld => ?_)
              refine wpAnyH_take (i := 0) (v := .int .i64 f) rfl (by kernel_rfl) (by kernel_rfl) (by kernel_rfl) (fun _ _ _ h => h) (Or.inl ⟨by rfl, fun w hw => by clear hw; go_simp⟩) hHeld ?_
              try simp only [Act.put, List.setIfInBounds_toArray, List.set_cons_zero, List.set_cons_succ, List.getElem_toArray, List.getElem_cons_zero, List.getElem_cons_succ]
              refine wpAnyH_take (i := 1) (v := .int .i64 f) rfl (by kernel_rfl) (by kernel_rfl) (by kernel_rfl) (fun _ _ _ h => h) (Or.inl ⟨by rfl, fun w hw => by clear hw; go_simp⟩) hHeld ?_
              try simp only [Act.put, List.setIfInBounds_toArray, List.set_cons_zero, List.set_cons_succ, List.getElem_toArray, List.getElem_cons_zero, List.getElem_cons_succ]
              refine wpAnyH_take (i := 2) (v := .bool false) rfl (by kernel_rfl) (by kernel_rfl) (by kernel_rfl) (fun _ _ _ h => h) (Or.inl ⟨by rfl, fun w hw => by clear hw; go_simp⟩) hHeld ?_
              try simp only [Act.put, List.setIfInBounds_toArray, List.set_cons_zero, List.set_cons_succ, List.getElem_toArray, List.getElem_cons_zero, List.getElem_cons_succ]
              refine wpAnyH_take (i := 3) (v := .bool false) rfl (by kernel_rfl) (by kernel_rfl) (by kernel_rfl) (fun _ _ _ h => h) (Or.inl ⟨by rfl, fun w hw => by clear hw; go_simp⟩) hHeld ?_
              try simp only [Act.put, List.setIfInBounds_toArray, List.set_cons_zero, List.set_cons_succ, List.getElem_toArray, List.getElem_cons_zero, List.getElem_cons_succ]
              refine wpAnyH_take (i := 4) (v := .int .i64 hp.1) rfl (by kernel_rfl) (by kernel_rfl) (by kernel_rfl) (fun _ _ _ h => h) (Or.inl ⟨by rfl, fun w hw => by clear hw; go_simp⟩) hHeld ?_
              try simp only [Act.put, List.setIfInBounds_toArray, List.set_cons_zero, List.set_cons_succ, List.getElem_toArray, List.getElem_cons_zero, List.getElem_cons_succ]
              refine wpAnyH_take (i := 5) (v := .int .i64 hp.1) rfl (by kernel_rfl) (by kernel_rfl) (by kernel_rfl) (fun _ _ _ h => h) (Or.inl ⟨by rfl, fun w hw => by clear hw; go_simp⟩) hHeld ?_
              try simp only [Act.put, List.setIfInBounds_toArray, List.set_cons_zero, List.set_cons_succ, List.getElem_toArray, List.getElem_cons_zero, List.getElem_cons_succ]
              refine wpAnyH_take (i := 6) (v := .bool false) rfl (by kernel_rfl) (by kernel_rfl) (by kernel_rfl) (fun _ _ _ h => h) (Or.inl ⟨by rfl, fun w hw => by clear hw; go_simp⟩) hHeld ?_
              try simp only [Act.put, List.setIfInBounds_toArray, List.set_cons_zero, List.set_cons_succ, List.getElem_toArray, List.getElem_cons_zero, List.getElem_cons_succ]
              refine wpAnyH_take (i := 7) (v := .bool false) rfl (by kernel_rfl) (by kernel_rfl) (by kernel_rfl) (fun _ _ _ h => h) (Or.inl ⟨by rfl, fun w hw => by clear hw; go_simp⟩) hHeld ?_
              try simp only [Act.put, List.setIfInBounds_toArray, List.set_cons_zero, List.set_cons_succ, List.getElem_toArray, List.getElem_cons_zero, List.getElem_cons_succ]
              refine wpAnyH_take (i := 8) (v := .bool false) rfl (by kernel_rfl) (by kernel_rfl) (by kernel_rfl) (fun _ _ _ h => h) (Or.inl ⟨by rfl, fun w hw => by clear hw; go_simp⟩) hHeld ?_
              try simp only [Act.put, List.setIfInBounds_toArray, List.set_cons_zero, List.set_cons_succ, List.getElem_toArray, List.getElem_cons_zero, List.getElem_cons_succ]
              refine wpAnyH_take (i := 9) (v := .bool hp.2) rfl (by kernel_rfl) (by kernel_rfl) (by kernel_rfl) (fun _ _ _ h => h) (Or.inl ⟨by rfl, fun w hw => by clear hw; go_simp⟩) hHeld ?_
              try simp only [Act.put, List.setIfInBounds_toArray, List.set_cons_zero, List.set_cons_succ, List.getElem_toArray, List.getElem_cons_zero, List.getElem_cons_succ]
              refine wpAnyH_take (i := 10) (v := .bool hp.2) rfl (by kernel_rfl) (by kernel_rfl) (by kernel_rfl) (fun _ _ _ h => h) (Or.inl ⟨by rfl, fun w hw => by clear hw; go_simp⟩) hHeld ?_
              try simp only [Act.put, List.setIfInBounds_toArray, List.set_cons_zero, List.set_cons_succ, List.getElem_toArray, List.getElem_cons_zero, List.getElem_cons_succ]
              refine wpAnyH_take (i := 11) (v := .bool false) rfl (by kernel_rfl) (by kernel_rfl) (by kernel_rfl) (fun _ _ _ h => h) (Or.inl ⟨by rfl, fun w hw => by clear hw; go_simp⟩) hHeld ?_
              try simp only [Act.put, List.setIfInBounds_toArray, List.set_cons_zero, List.set_cons_succ, List.getElem_toArray, List.getElem_cons_zero, List.getElem_cons_succ]
              refine wpAnyH_take (i := 12) (v := .bool false) rfl (by kernel_rfl) (by kernel_rfl) (by kernel_rfl) (fun _ _ _ h => h) (Or.inl ⟨by rfl, fun w hw => by clear hw; go_simp⟩) hHeld ?_
              try simp only [Act.put, List.setIfInBounds_toArray, List.set_cons_zero, List.set_cons_succ, List.getElem_toArray, List.getElem_cons_zero, List.getElem_cons_succ]
              refine wpAnyH_take (i := 13) (v := .bool false) rfl (by kernel_rfl) (by kernel_rfl) (by kernel_rfl) (fun _ _ _ h => h) (Or.inl ⟨by rfl, fun w hw => by clear hw; go_simp⟩) hHeld ?_
              try simp only [Act.put, List.setIfInBounds_toArray, List.set_cons_zero, List.set_cons_succ, List.getElem_toArray, List.getElem_cons_zero, List.getElem_cons_succ]
              refine wpAnyH_take (i := 14) (v := .agg #[.int .i64 0, .int .i64 0]) rfl (by kernel_rfl) (by kernel_rfl) (by kernel_rfl) (fun _ _ _ h => h) (Or.inl ⟨by rfl, fun w hw => by have q0 := hw.cell TT.out.1 (by simp); have q1 := hw.cell TT.out.2.1 (by simp); clear hw; go_simp⟩) hHeld ?_
              try simp only [Act.put, List.setIfInBounds_toArray, List.set_cons_zero, List.set_cons_succ, List.getElem_toArray, List.getElem_cons_zero, List.getElem_cons_succ]
              refine wpAnyH_take (i := 15) (v := .agg #[.int .i64 0, .int .i64 0]) rfl (by kernel_rfl) (by kernel_rfl) (by kernel_rfl) (fun _ _ _ h => h) (Or.inl ⟨by rfl, fun w hw => by have q0 := hw.cell TT.out.2.2.1 (by simp); have q1 := hw.cell TT.out.2.2.2.1 (by simp); clear hw; go_simp⟩) hHeld ?_
              try simp only [Act.put, List.setIfInBounds_toArray, List.set_cons_zero, List.set_cons_succ, List.getElem_toArray, List.getElem_cons_zero, List.getElem_cons_succ]
              refine wpAnyH_take (i := 16) (v := .bool false) rfl (by kernel_rfl) (by kernel_rfl) (by kernel_rfl) (fun _ _ _ h => h) (Or.inl ⟨by rfl, fun w hw => by clear hw; go_simp⟩) hHeld ?_
              try simp only [Act.put, List.setIfInBounds_toArray, List.set_cons_zero, List.set_cons_succ, List.getElem_toArray, List.getElem_cons_zero, List.getElem_cons_succ]
              refine wpAnyH_take (i := 17) (v := .bool false) rfl (by kernel_rfl) (by kernel_rfl) (by kernel_rfl) (fun _ _ _ h => h) (Or.inl ⟨by rfl, fun w hw => by clear hw; go_simp⟩) hHeld ?_
              try simp only [Act.put, List.setIfInBounds_toArray, List.set_cons_zero, List.set_cons_succ, List.getElem_toArray, List.getElem_cons_zero, List.getElem_cons_succ]
              refine wpAnyH_take (i := 18) (v := .bool false) rfl (by kernel_rfl) (by kernel_rfl) (by kernel_rfl) (fun _ _ _ h => h) (Or.inl ⟨by rfl, fun w hw => by clear hw; go_simp⟩) hHeld ?_
              try simp only [Act.put, List.setIfInBounds_toArray, List.set_cons_zero, List.set_cons_succ, List.getElem_toArray, List.getElem_cons_zero, List.getElem_cons_succ]
              refine wpAnyH_take (i := 19) (v := .bool false) rfl (by kernel_rfl) (by kernel_rfl) (by kernel_rfl) (fun _ _ _ h => h) (Or.inl ⟨by rfl, fun w hw => by clear hw; go_simp⟩) hHeld ?_
              try simp only [Act.put, List.setIfInBounds_toArray, List.set_cons_zero, List.set_cons_succ, List.getElem_toArray, List.getElem_cons_zero, List.getElem_cons_succ]
              refine wpAnyH_take (i := 20) (v := .int .i64 (t : Int)) rfl (by kernel_rfl) (by kernel_rfl) (by kernel_rfl) (fun _ _ _ h => h) (Or.inl ⟨by rfl, fun w hw => by clear hw; go_simp⟩) hHeld ?_
              try simp only [Act.put, List.setIfInBounds_toArray, List.set_cons_zero, List.set_cons_succ, List.getElem_toArray, List.getElem_cons_zero, List.getElem_cons_succ]
              refine wpAnyH_take (i := 21) (v := .bool true) rfl (by kernel_rfl) (by kernel_rfl) (by kernel_rfl) (fun _ _ _ h => h) (Or.inl ⟨by rfl, fun w hw => by clear hw; go_simp⟩) hHeld ?_
              try simp only [Act.put, List.setIfInBounds_toArray, List.set_cons_zero, List.set_cons_succ, List.getElem_toArray, List.getElem_cons_zero, List.getElem_cons_succ]
              refine wpAnyH_take (i := 22) (v := .bool true) rfl (by kernel_rfl) (by kernel_rfl) (by kernel_rfl) (fun _ _ _ h => h) (Or.inl ⟨by rfl, fun w hw => by clear hw; go_simp⟩) hHeld ?_
              try simp only [Act.put, List.setIfInBounds_toArray, List.set_cons_zero, List.set_cons_succ, List.getElem_toArray, List.getElem_cons_zero, List.getElem_cons_succ]
              refine wpAnyH_take (i := 23) (v := .int .i64 (t : Int)) rfl (by kernel_rfl) (by kernel_rfl) (by kernel_rfl) (fun _ _ _ h => h) (Or.inl ⟨by rfl, fun w hw => by clear hw; go_simp⟩) hHeld ?_
              try simp only [Act.put, List.setIfInBounds_toArray, List.set_cons_zero, List.set_cons_succ, List.getElem_toArray, List.getElem_cons_zero, List.getElem_cons_succ]
              refine wpAnyH_take (i := 24) (v := .pointer (some ⟨rb, 1, none⟩)) rfl (by kernel_rfl) (by kernel_rfl) (by kernel_rfl) (fun _ _ _ h => h) (Or.inl ⟨by rfl, fun w hw => by clear hw; go_simp⟩) hHeld ?_
              try simp only [Act.put, List.setIfInBounds_toArray, List.set_cons_zero, List.set_cons_succ, List.getElem_toArray, List.getElem_cons_zero, List.getElem_cons_succ]
              refine wpAnyH_take (i := 25) (v := .slice ao n c) rfl (by kernel_rfl) (by kernel_rfl) (by kernel_rfl) (fun _ _ _ h => h) (Or.inl ⟨by rfl, fun w hw => by have q0 := hw.cell TT.out.2.2.2.2 (by simp); clear hw; go_simp⟩) hHeld ?_
              try simp only [Act.put, List.setIfInBounds_toArray, List.set_cons_zero, List.set_cons_succ, List.getElem_toArray, List.getElem_cons_zero, List.getElem_cons_succ]
              refine wpAnyH_take (i := 26) (v := .int .i64 (n : Int)) rfl (by kernel_rfl) (by kernel_rfl) (by kernel_rfl) (fun _ _ _ h => h) (Or.inl ⟨by rfl, fun w hw => by clear hw; go_simp⟩) hHeld ?_
              try simp only [Act.put, List.setIfInBounds_toArray, List.set_cons_zero, List.set_cons_succ, List.getElem_toArray, List.getElem_cons_zero, List.getElem_cons_succ]
              refine wpAnyH_take (i := 27) (v := .bool false) rfl (by kernel_rfl) (by kernel_rfl) (by kernel_rfl) (fun _ _ _ h => h) (Or.inl ⟨by rfl, fun w hw => by clear hw; go_simp⟩) hHeld ?_
              try simp only [Act.put, List.setIfInBounds_toArray, List.set_cons_zero, List.set_cons_succ, List.getElem_toArray, List.getElem_cons_zero, List.getElem_cons_succ]
              refine wpAnyH_take (i := 28) (v := .bool false) rfl (by kernel_rfl) (by kernel_rfl) (by kernel_rfl) (fun _ _ _ h => h) (Or.inl ⟨by rfl, fun w hw => by clear hw; go_simp⟩) hHeld ?_
              try simp only [Act.put, List.setIfInBounds_toArray, List.set_cons_zero, List.set_cons_succ, List.getElem_toArray, List.getElem_cons_zero, List.getElem_cons_succ]
              refine wpAnyH_take (i := 29) (v := .bool false) rfl (by kernel_rfl) (by kernel_rfl) (by kernel_rfl) (fun _ _ _ h => h) (Or.inl ⟨by rfl, fun w hw => by clear hw; go_simp⟩) hHeld ?_
              try simp only [Act.put, List.setIfInBounds_toArray, List.set_cons_zero, List.set_cons_succ, List.getElem_toArray, List.getElem_cons_zero, List.getElem_cons_succ]
              refine wpAnyH_take (i := 30) (v := .bool false) rfl (by kernel_rfl) (by kernel_rfl) (by kernel_rfl) (fun _ _ _ h => h) (Or.inl ⟨by rfl, fun w hw => by clear hw; go_simp⟩) hHeld ?_
              try simp only [Act.put, List.setIfInBounds_toArray, List.set_cons_zero, List.set_cons_succ, List.getElem_toArray, List.getElem_cons_zero, List.getElem_cons_succ]
              refine wpAnyH_take (i := 31) (v := .bool false) rfl (by kernel_rfl) (by kernel_rfl) (by kernel_rfl) (fun _ _ _ h => h) (Or.inl ⟨by rfl, fun w hw => by clear hw; go_simp⟩) hHeld ?_
              try simp only [Act.put, List.setIfInBounds_toArray, List.set_cons_zero, List.set_cons_succ, List.getElem_toArray, List.getElem_cons_zero, List.getElem_cons_succ]
              refine wpAnyH_take (i := 32) (v := .pointer (some ⟨bx, 0, none⟩)) rfl (by kernel_rfl) (by kernel_rfl) (by kernel_rfl) (fun _ _ _ h => h) (Or.inl ⟨by rfl, fun w hw => by clear hw; go_simp⟩) hHeld ?_
              try simp only [Act.put, List.setIfInBounds_toArray, List.set_cons_zero, List.set_cons_succ, List.getElem_toArray, List.getElem_cons_zero, List.getElem_cons_succ]
              refine wpAnyH_take (i := 34) (v := .pointer (some ⟨rb, 1, none⟩)) rfl (by kernel_rfl) (by kernel_rfl) (by kernel_rfl) (fun _ _ _ h => h) (Or.inl ⟨by rfl, fun w hw => by clear hw; go_simp⟩) hHeld ?_
              try simp only [Act.put, List.setIfInBounds_toArray, List.set_cons_zero, List.set_cons_succ, List.getElem_toArray, List.getElem_cons_zero, List.getElem_cons_succ]
              refine wpAnyH_take (i := 35) (v := .slice ao n c) rfl (by kernel_rfl) (by kernel_rfl) (by kernel_rfl) (fun _ _ _ h => h) (Or.inl ⟨by rfl, fun w hw => by have q0 := hw.cell TT.out.2.2.2.2 (by simp); clear hw; go_simp⟩) hHeld ?_
              try simp only [Act.put, List.setIfInBounds_toArray, List.set_cons_zero, List.set_cons_succ, List.getElem_toArray, List.getElem_cons_zero, List.getElem_cons_succ]
              refine wpAnyH_take (i := 36) (v := .int .i64 (n : Int)) rfl (by kernel_rfl) (by kernel_rfl) (by kernel_rfl) (fun _ _ _ h => h) (Or.inl ⟨by rfl, fun w hw => by clear hw; go_simp⟩) hHeld ?_
              try simp only [Act.put, List.setIfInBounds_toArray, List.set_cons_zero, List.set_cons_succ, List.getElem_toArray, List.getElem_cons_zero, List.getElem_cons_succ]
              refine wpAnyH_ready (rs := [33]) (by kernel_rfl) (by simp) (AllReadyH.cons rfl (fun K hK => ?_) (AllReadyH.nil))
              · go_simp
                refine Calls.mono (len_i S4 bx a0 L _ (HHD.out.keep hHeld) hm n HL.out) ?_
                rintro e wc1 ⟨rfl, gc1⟩
                try go_wp2_with fail
                refine hK.out _ _ (g_trans hHeld gc1) (fun hHeld => ?_)
                clear hK K gc1
                try simp only [Act.put, List.setIfInBounds_toArray, List.set_cons_zero, List.set_cons_succ, List.getElem_toArray, List.getElem_cons_zero, List.getElem_cons_succ]
                refine wpAnyH_take (i := 37) (v := .bool false) rfl (by kernel_rfl) (by kernel_rfl) (by kernel_rfl) (fun _ _ _ h => h) (Or.inl ⟨by rfl, fun w hw => by clear hw; go_simp⟩) hHeld ?_
                try simp only [Act.put, List.setIfInBounds_toArray, List.set_cons_zero, List.set_cons_succ, List.getElem_toArray, List.getElem_cons_zero, List.getElem_cons_succ]
                refine wpAnyH_take (i := 38) (v := .bool false) rfl (by kernel_rfl) (by kernel_rfl) (by kernel_rfl) (fun _ _ _ h => h) (Or.inl ⟨by rfl, fun w hw => by clear hw; go_simp⟩) hHeld ?_
                try simp only [Act.put, List.setIfInBounds_toArray, List.set_cons_zero, List.set_cons_succ, List.getElem_toArray, List.getElem_cons_zero, List.getElem_cons_succ]
                refine wpAnyH_take (i := 39) (v := .bool false) rfl (by kernel_rfl) (by kernel_rfl) (by kernel_rfl) (fun _ _ _ h => h) (Or.inl ⟨by rfl, fun w hw => by clear hw; go_simp⟩) hHeld ?_
                try simp only [Act.put, List.setIfInBounds_toArray, List.set_cons_zero, List.set_cons_succ, List.getElem_toArray, List.getElem_cons_zero, List.getElem_cons_succ]
                refine wpAnyH_take (i := 40) (v := .pointer (some ⟨bx, 0, none⟩)) rfl (by kernel_rfl) (by kernel_rfl) (by kernel_rfl) (fun _ _ _ h => h) (Or.inl ⟨by rfl, fun w hw => by clear hw; go_simp⟩) hHeld ?_
                try simp only [Act.put, List.setIfInBounds_toArray, List.set_cons_zero, List.set_cons_succ, List.getElem_toArray, List.getElem_cons_zero, List.getElem_cons_succ]
                refine wpAnyH_take (i := 42) (v := .pointer (some ⟨rb, 1, none⟩)) rfl (by kernel_rfl) (by kernel_rfl) (by kernel_rfl) (fun _ _ _ h => h) (Or.inl ⟨by rfl, fun w hw => by clear hw; go_simp⟩) hHeld ?_
                try simp only [Act.put, List.setIfInBounds_toArray, List.set_cons_zero, List.set_cons_succ, List.getElem_toArray, List.getElem_cons_zero, List.getElem_cons_succ]
                refine wpAnyH_take (i := 43) (v := .slice ao n c) rfl (by kernel_rfl) (by kernel_rfl) (by kernel_rfl) (fun _ _ _ h => h) (Or.inl ⟨by rfl, fun w hw => by have q0 := hw.cell TT.out.2.2.2.2 (by simp); clear hw; go_simp⟩) hHeld ?_
                try simp only [Act.put, List.setIfInBounds_toArray, List.set_cons_zero, List.set_cons_succ, List.getElem_toArray, List.getElem_cons_zero, List.getElem_cons_succ]
                refine wpAnyH_ready (rs := [41]) (by kernel_rfl) (by simp) (AllReadyH.cons rfl (fun K hK => ?_) (AllReadyH.nil))
                · go_simp
                  refine Calls.mono (all_i S4 bx a0 L _ (HHD.out.keep hHeld) hm HN5.out n HL.out) ?_
                  rintro e wc2 ⟨lo, lc, rfl, hls, gc2⟩
                  try go_wp2_with fail
                  refine hK.out _ _ (g_trans hHeld gc2) (fun hHeld => ?_)
                  clear hK K gc2
                  try simp only [Act.put, List.setIfInBounds_toArray, List.set_cons_zero, List.set_cons_succ, List.getElem_toArray, List.getElem_cons_zero, List.getElem_cons_succ]
                  refine wpAnyH_ready (rs := [44]) (by kernel_rfl) (by simp) (AllReadyH.cons rfl (fun K hK => ?_) (AllReadyH.nil))
                  · go_simp
                    refine Calls.mono (same_any lo ao n lc c L _ hls (HRS.out.keep hHeld) HL.out (by omega)) ?_
                    rintro e wc3 ⟨rfl, gc3⟩
                    try go_wp2_with fail
                    refine hK.out _ _ (g_trans hHeld gc3) (fun hHeld => ?_)
                    clear hK K gc3
                    try simp only [Act.put, List.setIfInBounds_toArray, List.set_cons_zero, List.set_cons_succ, List.getElem_toArray, List.getElem_cons_zero, List.getElem_cons_succ]
                    refine wpAnyH_take (i := 45) (v := .bool false) rfl (by kernel_rfl) (by kernel_rfl) (by kernel_rfl) (fun _ _ _ h => h) (Or.inl ⟨by rfl, fun w hw => by clear hw; go_simp⟩) hHeld ?_
                    try simp only [Act.put, List.setIfInBounds_toArray, List.set_cons_zero, List.set_cons_succ, List.getElem_toArray, List.getElem_cons_zero, List.getElem_cons_succ]
                    refine wpAnyH_take (i := 46) (v := .bool false) rfl (by kernel_rfl) (by kernel_rfl) (by kernel_rfl) (fun _ _ _ h => h) (Or.inl ⟨by rfl, fun w hw => by clear hw; go_simp⟩) hHeld ?_
                    try simp only [Act.put, List.setIfInBounds_toArray, List.set_cons_zero, List.set_cons_succ, List.getElem_toArray, List.getElem_cons_zero, List.getElem_cons_succ]
                    refine wpAnyH_done (by kernel_rfl) ?_ _
                    go_wp2_with fail
                    go_roundw
                    case rel => exact ⟨j + 1, bx, S4, L, ao, c, rfl, by go_num, by omega, by omega, by rw [HL.out]; omega, H8.out.keep hHeld⟩
                    case measure => simp [intOf]; omega
          · have hnt : a2 < 0 := by omega
            have hao : x1 = 0 ∧ x2 = 0 ∧ aok = false := by
              have h := HAV.out
              unfold atP at h
              rw [if_neg (by rw [HL.out]; omega)] at h
              cases h
              exact ⟨rfl, rfl, rfl⟩
            obtain ⟨rfl, rfl, rfl⟩ := hao
            go_wp2_with fail
            clear H6
            generalize ((w6.alloc (.cells #[.int .i64 0, .int .i64 0] 37)).alloc (.cells #[.int .i64 0, .int .i64 0] 37)) = W1 at *
            have TT : Hid (W1.cell? ⟨w6.heap.size, 0, none⟩ = some (.int .i64 0) ∧ W1.cell? ⟨w6.heap.size, 1, none⟩ = some (.int .i64 0) ∧ W1.cell? ⟨w6.heap.size + 1, 0, none⟩ = some (.int .i64 0) ∧ W1.cell? ⟨w6.heap.size + 1, 1, none⟩ = some (.int .i64 0) ∧ W1.cell? ⟨rb, 1, none⟩ = some (.slice ao n c)) := Lib.hid ⟨XB.out.1.cell 0 _ rfl, XB.out.1.cell 1 _ rfl, YB.out.1.cell 0 _ rfl, YB.out.1.cell 1 _ rfl, q2⟩
            have HHD := Lib.hid H8.out.1
            have HRS := Lib.hid H8.out.2.2.2.1
            have e1 : (f != f) = false := by simp
            have e2 : (hp.1 != hp.1) = false := by simp
            have e3 : (hp.2 != hp.2) = false := by simp
            have e4 : ((n : Int) != (n : Int)) = false := by simp
            have h02 : ¬ 0 ≤ a2 := by omega
            have e8 : decide (0 ≤ a2) = false := decide_eq_false h02
            have e9 : decide (a2 ≥ 0) = false := decide_eq_false h02
            have e10 : (0 ≤ a2) = False := eq_false h02
            clear q2 HHP HAV XB YB
            refine wp_region_held_drew (S := fun W' => W1.grownBy W' none) (by kernel_rfl) (g_drew (g_refl _ _)) (fun hHeld => ?_)
            refine wpAnyH_take (i := 0) (v := .int .i64 f) rfl (by kernel_rfl) (by kernel_rfl) (by kernel_rfl) (fun _ _ _ h => h) (Or.inl ⟨by rfl, fun w hw => by clear hw; go_simp⟩) hHeld ?_
            try simp only [Act.put, List.setIfInBounds_toArray, List.set_cons_zero, List.set_cons_succ, List.getElem_toArray, List.getElem_cons_zero, List.getElem_cons_succ]
            refine wpAnyH_take (i := 1) (v := .int .i64 f) rfl (by kernel_rfl) (by kernel_rfl) (by kernel_rfl) (fun _ _ _ h => h) (Or.inl ⟨by rfl, fun w hw => by clear hw; go_simp⟩) hHeld ?_
            try simp only [Act.put, List.setIfInBounds_toArray, List.set_cons_zero, List.set_cons_succ, List.getElem_toArray, List.getElem_cons_zero, List.getElem_cons_succ]
            refine wpAnyH_take (i := 2) (v := .bool false) rfl (by kernel_rfl) (by kernel_rfl) (by kernel_rfl) (fun _ _ _ h => h) (Or.inl ⟨by rfl, fun w hw => by clear hw; go_simp⟩) hHeld ?_
            try simp only [Act.put, List.setIfInBounds_toArray, List.set_cons_zero, List.set_cons_succ, List.getElem_toArray, List.getElem_cons_zero, List.getElem_cons_succ]
            refine wpAnyH_take (i := 3) (v := .bool false) rfl (by kernel_rfl) (by kernel_rfl) (by kernel_rfl) (fun _ _ _ h => h) (Or.inl ⟨by rfl, fun w hw => by clear hw; go_simp⟩) hHeld ?_
            try simp only [Act.put, List.setIfInBounds_toArray, List.set_cons_zero, List.set_cons_succ, List.getElem_toArray, List.getElem_cons_zero, List.getElem_cons_succ]
            refine wpAnyH_take (i := 4) (v := .int .i64 hp.1) rfl (by kernel_rfl) (by kernel_rfl) (by kernel_rfl) (fun _ _ _ h => h) (Or.inl ⟨by rfl, fun w hw => by clear hw; go_simp⟩) hHeld ?_
            try simp only [Act.put, List.setIfInBounds_toArray, List.set_cons_zero, List.set_cons_succ, List.getElem_toArray, List.getElem_cons_zero, List.getElem_cons_succ]
            refine wpAnyH_take (i := 5) (v := .int .i64 hp.1) rfl (by kernel_rfl) (by kernel_rfl) (by kernel_rfl) (fun _ _ _ h => h) (Or.inl ⟨by rfl, fun w hw => by clear hw; go_simp⟩) hHeld ?_
            try simp only [Act.put, List.setIfInBounds_toArray, List.set_cons_zero, List.set_cons_succ, List.getElem_toArray, List.getElem_cons_zero, List.getElem_cons_succ]
            refine wpAnyH_take (i := 6) (v := .bool false) rfl (by kernel_rfl) (by kernel_rfl) (by kernel_rfl) (fun _ _ _ h => h) (Or.inl ⟨by rfl, fun w hw => by clear hw; go_simp⟩) hHeld ?_
            try simp only [Act.put, List.setIfInBounds_toArray, List.set_cons_zero, List.set_cons_succ, List.getElem_toArray, List.getElem_cons_zero, List.getElem_cons_succ]
            refine wpAnyH_take (i := 7) (v := .bool false) rfl (by kernel_rfl) (by kernel_rfl) (by kernel_rfl) (fun _ _ _ h => h) (Or.inl ⟨by rfl, fun w hw => by clear hw; go_simp⟩) hHeld ?_
            try simp only [Act.put, List.setIfInBounds_toArray, List.set_cons_zero, List.set_cons_succ, List.getElem_toArray, List.getElem_cons_zero, List.getElem_cons_succ]
            refine wpAnyH_take (i := 8) (v := .bool false) rfl (by kernel_rfl) (by kernel_rfl) (by kernel_rfl) (fun _ _ _ h => h) (Or.inl ⟨by rfl, fun w hw => by clear hw; go_simp⟩) hHeld ?_
            try simp only [Act.put, List.setIfInBounds_toArray, List.set_cons_zero, List.set_cons_succ, List.getElem_toArray, List.getElem_cons_zero, List.getElem_cons_succ]
            refine wpAnyH_take (i := 9) (v := .bool hp.2) rfl (by kernel_rfl) (by kernel_rfl) (by kernel_rfl) (fun _ _ _ h => h) (Or.inl ⟨by rfl, fun w hw => by clear hw; go_simp⟩) hHeld ?_
            try simp only [Act.put, List.setIfInBounds_toArray, List.set_cons_zero, List.set_cons_succ, List.getElem_toArray, List.getElem_cons_zero, List.getElem_cons_succ]
            refine wpAnyH_take (i := 10) (v := .bool hp.2) rfl (by kernel_rfl) (by kernel_rfl) (by kernel_rfl) (fun _ _ _ h => h) (Or.inl ⟨by rfl, fun w hw => by clear hw; go_simp⟩) hHeld ?_
            try simp only [Act.put, List.setIfInBounds_toArray, List.set_cons_zero, List.set_cons_succ, List.getElem_toArray, List.getElem_cons_zero, List.getElem_cons_succ]
            refine wpAnyH_take (i := 11) (v := .bool false) rfl (by kernel_rfl) (by kernel_rfl) (by kernel_rfl) (fun _ _ _ h => h) (Or.inl ⟨by rfl, fun w hw => by clear hw; go_simp⟩) hHeld ?_
            try simp only [Act.put, List.setIfInBounds_toArray, List.set_cons_zero, List.set_cons_succ, List.getElem_toArray, List.getElem_cons_zero, List.getElem_cons_succ]
            refine wpAnyH_take (i := 12) (v := .bool false) rfl (by kernel_rfl) (by kernel_rfl) (by kernel_rfl) (fun _ _ _ h => h) (Or.inl ⟨by rfl, fun w hw => by clear hw; go_simp⟩) hHeld ?_
            try simp only [Act.put, List.setIfInBounds_toArray, List.set_cons_zero, List.set_cons_succ, List.getElem_toArray, List.getElem_cons_zero, List.getElem_cons_succ]
            refine wpAnyH_take (i := 13) (v := .bool false) rfl (by kernel_rfl) (by kernel_rfl) (by kernel_rfl) (fun _ _ _ h => h) (Or.inl ⟨by rfl, fun w hw => by clear hw; go_simp⟩) hHeld ?_
            try simp only [Act.put, List.setIfInBounds_toArray, List.set_cons_zero, List.set_cons_succ, List.getElem_toArray, List.getElem_cons_zero, List.getElem_cons_succ]
            refine wpAnyH_take (i := 14) (v := .agg #[.int .i64 0, .int .i64 0]) rfl (by kernel_rfl) (by kernel_rfl) (by kernel_rfl) (fun _ _ _ h => h) (Or.inl ⟨by rfl, fun w hw => by have q0 := hw.cell TT.out.1 (by simp); have q1 := hw.cell TT.out.2.1 (by simp); clear hw; go_simp⟩) hHeld ?_
            try simp only [Act.put, List.setIfInBounds_toArray, List.set_cons_zero, List.set_cons_succ, List.getElem_toArray, List.getElem_cons_zero, List.getElem_cons_succ]
            refine wpAnyH_take (i := 15) (v := .agg #[.int .i64 0, .int .i64 0]) rfl (by kernel_rfl) (by kernel_rfl) (by kernel_rfl) (fun _ _ _ h => h) (Or.inl ⟨by rfl, fun w hw => by have q0 := hw.cell TT.out.2.2.1 (by simp); have q1 := hw.cell TT.out.2.2.2.1 (by simp); clear hw; go_simp⟩) hHeld ?_
            try simp only [Act.put, List.setIfInBounds_toArray, List.set_cons_zero, List.set_cons_succ, List.getElem_toArray, List.getElem_cons_zero, List.getElem_cons_succ]
            refine wpAnyH_take (i := 16) (v := .bool false) rfl (by kernel_rfl) (by kernel_rfl) (by kernel_rfl) (fun _ _ _ h => h) (Or.inl ⟨by rfl, fun w hw => by clear hw; go_simp⟩) hHeld ?_
            try simp only [Act.put, List.setIfInBounds_toArray, List.set_cons_zero, List.set_cons_succ, List.getElem_toArray, List.getElem_cons_zero, List.getElem_cons_succ]
            refine wpAnyH_take (i := 17) (v := .bool false) rfl (by kernel_rfl) (by kernel_rfl) (by kernel_rfl) (fun _ _ _ h => h) (Or.inl ⟨by rfl, fun w hw => by clear hw; go_simp⟩) hHeld ?_
            try simp only [Act.put, List.setIfInBounds_toArray, List.set_cons_zero, List.set_cons_succ, List.getElem_toArray, List.getElem_cons_zero, List.getElem_cons_succ]
            refine wpAnyH_take (i := 18) (v := .bool false) rfl (by kernel_rfl) (by kernel_rfl) (by kernel_rfl) (fun _ _ _ h => h) (Or.inl ⟨by rfl, fun w hw => by clear hw; go_simp⟩) hHeld ?_
            try simp only [Act.put, List.setIfInBounds_toArray, List.set_cons_zero, List.set_cons_succ, List.getElem_toArray, List.getElem_cons_zero, List.getElem_cons_succ]
            refine wpAnyH_take (i := 19) (v := .bool false) rfl (by kernel_rfl) (by kernel_rfl) (by kernel_rfl) (fun _ _ _ h => h) (Or.inl ⟨by rfl, fun w hw => by clear hw; go_simp⟩) hHeld ?_
            try simp only [Act.put, List.setIfInBounds_toArray, List.set_cons_zero, List.set_cons_succ, List.getElem_toArray, List.getElem_cons_zero, List.getElem_cons_succ]
            refine wpAnyH_take (i := 20) (v := .int .i64 a2) rfl (by kernel_rfl) (by kernel_rfl) (by kernel_rfl) (fun _ _ _ h => h) (Or.inl ⟨by rfl, fun w hw => by clear hw; go_simp⟩) hHeld ?_
            try simp only [Act.put, List.setIfInBounds_toArray, List.set_cons_zero, List.set_cons_succ, List.getElem_toArray, List.getElem_cons_zero, List.getElem_cons_succ]
            refine wpAnyH_take (i := 21) (v := .bool false) rfl (by kernel_rfl) (by kernel_rfl) (by kernel_rfl) (fun _ _ _ h => h) (Or.inl ⟨by rfl, fun w hw => by clear hw; go_simp⟩) hHeld ?_
            try simp only [Act.put, List.setIfInBounds_toArray, List.set_cons_zero, List.set_cons_succ, List.getElem_toArray, List.getElem_cons_zero, List.getElem_cons_succ]
            refine wpAnyH_take (i := 22) (v := .bool false) rfl (by kernel_rfl) (by kernel_rfl) (by kernel_rfl) (fun _ _ _ h => h) (Or.inl ⟨by rfl, fun w hw => by clear hw; go_simp⟩) hHeld ?_
            try simp only [Act.put, List.setIfInBounds_toArray, List.set_cons_zero, List.set_cons_succ, List.getElem_toArray, List.getElem_cons_zero, List.getElem_cons_succ]
            refine wpAnyH_take (i := 23) (v := undef) rfl (by kernel_rfl) (by kernel_rfl) (by kernel_rfl) (fun _ _ _ h => h) (Or.inr ⟨by rfl, rfl⟩) hHeld ?_
            try simp only [Act.put, List.setIfInBounds_toArray, List.set_cons_zero, List.set_cons_succ, List.getElem_toArray, List.getElem_cons_zero, List.getElem_cons_succ]
            refine wpAnyH_take (i := 24) (v := undef) rfl (by kernel_rfl) (by kernel_rfl) (by kernel_rfl) (fun _ _ _ h => h) (Or.inr ⟨by rfl, rfl⟩) hHeld ?_
            try simp only [Act.put, List.setIfInBounds_toArray, List.set_cons_zero, List.set_cons_succ, List.getElem_toArray, List.getElem_cons_zero, List.getElem_cons_succ]
            refine wpAnyH_take (i := 25) (v := undef) rfl (by kernel_rfl) (by kernel_rfl) (by kernel_rfl) (fun _ _ _ h => h) (Or.inr ⟨by rfl, rfl⟩) hHeld ?_
            try simp only [Act.put, List.setIfInBounds_toArray, List.set_cons_zero, List.set_cons_succ, List.getElem_toArray, List.getElem_cons_zero, List.getElem_cons_succ]
            refine wpAnyH_take (i := 26) (v := undef) rfl (by kernel_rfl) (by kernel_rfl) (by kernel_rfl) (fun _ _ _ h => h) (Or.inr ⟨by rfl, rfl⟩) hHeld ?_
            try simp only [Act.put, List.setIfInBounds_toArray, List.set_cons_zero, List.set_cons_succ, List.getElem_toArray, List.getElem_cons_zero, List.getElem_cons_succ]
            refine wpAnyH_take (i := 27) (v := undef) rfl (by kernel_rfl) (by kernel_rfl) (by kernel_rfl) (fun _ _ _ h => h) (Or.inr ⟨by rfl, rfl⟩) hHeld ?_
            try simp only [Act.put, List.setIfInBounds_toArray, List.set_cons_zero, List.set_cons_succ, List.getElem_toArray, List.getElem_cons_zero, List.getElem_cons_succ]
            refine wpAnyH_take (i := 28) (v := .bool false) rfl (by kernel_rfl) (by kernel_rfl) (by kernel_rfl) (fun _ _ _ h => h) (Or.inl ⟨by rfl, fun w hw => by clear hw; go_simp⟩) hHeld ?_
            try simp only [Act.put, List.setIfInBounds_toArray, List.set_cons_zero, List.set_cons_succ, List.getElem_toArray, List.getElem_cons_zero, List.getElem_cons_succ]
            refine wpAnyH_take (i := 29) (v := .bool false) rfl (by kernel_rfl) (by kernel_rfl) (by kernel_rfl) (fun _ _ _ h => h) (Or.inl ⟨by rfl, fun w hw => by clear hw; go_simp⟩) hHeld ?_
            try simp only [Act.put, List.setIfInBounds_toArray, List.set_cons_zero, List.set_cons_succ, List.getElem_toArray, List.getElem_cons_zero, List.getElem_cons_succ]
            refine wpAnyH_take (i := 30) (v := .bool false) rfl (by kernel_rfl) (by kernel_rfl) (by kernel_rfl) (fun _ _ _ h => h) (Or.inl ⟨by rfl, fun w hw => by clear hw; go_simp⟩) hHeld ?_
            try simp only [Act.put, List.setIfInBounds_toArray, List.set_cons_zero, List.set_cons_succ, List.getElem_toArray, List.getElem_cons_zero, List.getElem_cons_succ]
            refine wpAnyH_take (i := 31) (v := .bool false) rfl (by kernel_rfl) (by kernel_rfl) (by kernel_rfl) (fun _ _ _ h => h) (Or.inl ⟨by rfl, fun w hw => by clear hw; go_simp⟩) hHeld ?_
            try simp only [Act.put, List.setIfInBounds_toArray, List.set_cons_zero, List.set_cons_succ, List.getElem_toArray, List.getElem_cons_zero, List.getElem_cons_succ]
            refine wpAnyH_take (i := 32) (v := .pointer (some ⟨bx, 0, none⟩)) rfl (by kernel_rfl) (by kernel_rfl) (by kernel_rfl) (fun _ _ _ h => h) (Or.inl ⟨by rfl, fun w hw => by clear hw; go_simp⟩) hHeld ?_
            try simp only [Act.put, List.setIfInBounds_toArray, List.set_cons_zero, List.set_cons_succ, List.getElem_toArray, List.getElem_cons_zero, List.getElem_cons_succ]
            refine wpAnyH_take (i := 34) (v := .pointer (some ⟨rb, 1, none⟩)) rfl (by kernel_rfl) (by kernel_rfl) (by kernel_rfl) (fun _ _ _ h => h) (Or.inl ⟨by rfl, fun w hw => by clear hw; go_simp⟩) hHeld ?_
            try simp only [Act.put, List.setIfInBounds_toArray, List.set_cons_zero, List.set_cons_succ, List.getElem_toArray, List.getElem_cons_zero, List.getElem_cons_succ]
            refine wpAnyH_take (i := 35) (v := .slice ao n c) rfl (by kernel_rfl) (by kernel_rfl) (by kernel_rfl) (fun _ _ _ h => h) (Or.inl ⟨by rfl, fun w hw => by have q0 := hw.cell TT.out.2.2.2.2 (by simp); clear hw; go_simp⟩) hHeld ?_
            try simp only [Act.put, List.setIfInBounds_toArray, List.set_cons_zero, List.set_cons_succ, List.getElem_toArray, List.getElem_cons_zero, List.getElem_cons_succ]
            refine wpAnyH_take (i := 36) (v := .int .i64 (n : Int)) rfl (by kernel_rfl) (by kernel_rfl) (by kernel_rfl) (fun _ _ _ h => h) (Or.inl ⟨by rfl, fun w hw => by clear hw; go_simp⟩) hHeld ?_
            try simp only [Act.put, List.setIfInBounds_toArray, List.set_cons_zero, List.set_cons_succ, List.getElem_toArray, List.getElem_cons_zero, List.getElem_cons_succ]
            refine wpAnyH_ready (rs := [33]) (by kernel_rfl) (by simp) (AllReadyH.cons rfl (fun K hK => ?_) (AllReadyH.nil))
            · go_simp
              refine Calls.mono (len_i S4 bx a0 L _ (HHD.out.keep hHeld) hm n HL.out) ?_
              rintro e wc1 ⟨rfl, gc1⟩
              try go_wp2_with fail
              refine hK.out _ _ (g_trans hHeld gc1) (fun hHeld => ?_)
              clear hK K gc1
              try simp only [Act.put, List.setIfInBounds_toArray, List.set_cons_zero, List.set_cons_succ, List.getElem_toArray, List.getElem_cons_zero, List.getElem_cons_succ]
              refine wpAnyH_take (i := 37) (v := .bool false) rfl (by kernel_rfl) (by kernel_rfl) (by kernel_rfl) (fun _ _ _ h => h) (Or.inl ⟨by rfl, fun w hw => by clear hw; go_simp⟩) hHeld ?_
              try simp only [Act.put, List.setIfInBounds_toArray, List.set_cons_zero, List.set_cons_succ, List.getElem_toArray, List.getElem_cons_zero, List.getElem_cons_succ]
              refine wpAnyH_take (i := 38) (v := .bool false) rfl (by kernel_rfl) (by kernel_rfl) (by kernel_rfl) (fun _ _ _ h => h) (Or.inl ⟨by rfl, fun w hw => by clear hw; go_simp⟩) hHeld ?_
              try simp only [Act.put, List.setIfInBounds_toArray, List.set_cons_zero, List.set_cons_succ, List.getElem_toArray, List.getElem_cons_zero, List.getElem_cons_succ]
              refine wpAnyH_take (i := 39) (v := .bool false) rfl (by kernel_rfl) (by kernel_rfl) (by kernel_rfl) (fun _ _ _ h => h) (Or.inl ⟨by rfl, fun w hw => by clear hw; go_simp⟩) hHeld ?_
              try simp only [Act.put, List.setIfInBounds_toArray, List.set_cons_zero, List.set_cons_succ, List.getElem_toArray, List.getElem_cons_zero, List.getElem_cons_succ]
              refine wpAnyH_take (i := 40) (v := .pointer (some ⟨bx, 0, none⟩)) rfl (by kernel_rfl) (by kernel_rfl) (by kernel_rfl) (fun _ _ _ h => h) (Or.inl ⟨by rfl, fun w hw => by clear hw; go_simp⟩) hHeld ?_
              try simp only [Act.put, List.setIfInBounds_toArray, List.set_cons_zero, List.set_cons_succ, List.getElem_toArray, List.getElem_cons_zero, List.getElem_cons_succ]
              refine wpAnyH_take (i := 42) (v := .pointer (some ⟨rb, 1, none⟩)) rfl (by kernel_rfl) (by kernel_rfl) (by kernel_rfl) (fun _ _ _ h => h) (Or.inl ⟨by rfl, fun w hw => by clear hw; go_simp⟩) hHeld ?_
              try simp only [Act.put, List.setIfInBounds_toArray, List.set_cons_zero, List.set_cons_succ, List.getElem_toArray, List.getElem_cons_zero, List.getElem_cons_succ]
              refine wpAnyH_take (i := 43) (v := .slice ao n c) rfl (by kernel_rfl) (by kernel_rfl) (by kernel_rfl) (fun _ _ _ h => h) (Or.inl ⟨by rfl, fun w hw => by have q0 := hw.cell TT.out.2.2.2.2 (by simp); clear hw; go_simp⟩) hHeld ?_
              try simp only [Act.put, List.setIfInBounds_toArray, List.set_cons_zero, List.set_cons_succ, List.getElem_toArray, List.getElem_cons_zero, List.getElem_cons_succ]
              refine wpAnyH_ready (rs := [41]) (by kernel_rfl) (by simp) (AllReadyH.cons rfl (fun K hK => ?_) (AllReadyH.nil))
              · go_simp
                refine Calls.mono (all_i S4 bx a0 L _ (HHD.out.keep hHeld) hm HN5.out n HL.out) ?_
                rintro e wc2 ⟨lo, lc, rfl, hls, gc2⟩
                try go_wp2_with fail
                refine hK.out _ _ (g_trans hHeld gc2) (fun hHeld => ?_)
                clear hK K gc2
                try simp only [Act.put, List.setIfInBounds_toArray, List.set_cons_zero, List.set_cons_succ, List.getElem_toArray, List.getElem_cons_zero, List.getElem_cons_succ]
                refine wpAnyH_ready (rs := [44]) (by kernel_rfl) (by simp) (AllReadyH.cons rfl (fun K hK => ?_) (AllReadyH.nil))
                · go_simp
                  refine Calls.mono (same_any lo ao n lc c L _ hls (HRS.out.keep hHeld) HL.out (by omega)) ?_
                  rintro e wc3 ⟨rfl, gc3⟩
                  try go_wp2_with fail
                  refine hK.out _ _ (g_trans hHeld gc3) (fun hHeld => ?_)
                  clear hK K gc3
                  try simp only [Act.put, List.setIfInBounds_toArray, List.set_cons_zero, List.set_cons_succ, List.getElem_toArray, List.getElem_cons_zero, List.getElem_cons_succ]
                  refine wpAnyH_take (i := 45) (v := .bool false) rfl (by kernel_rfl) (by kernel_rfl) (by kernel_rfl) (fun _ _ _ h => h) (Or.inl ⟨by rfl, fun w hw => by clear hw; go_simp⟩) hHeld ?_
                  try simp only [Act.put, List.setIfInBounds_toArray, List.set_cons_zero, List.set_cons_succ, List.getElem_toArray, List.getElem_cons_zero, List.getElem_cons_succ]
                  refine wpAnyH_take (i := 46) (v := .bool false) rfl (by kernel_rfl) (by kernel_rfl) (by kernel_rfl) (fun _ _ _ h => h) (Or.inl ⟨by rfl, fun w hw => by clear hw; go_simp⟩) hHeld ?_
                  try simp only [Act.put, List.setIfInBounds_toArray, List.set_cons_zero, List.set_cons_succ, List.getElem_toArray, List.getElem_cons_zero, List.getElem_cons_succ]
                  refine wpAnyH_done (by kernel_rfl) ?_ _
                  go_wp2_with fail
                  go_roundw
                  case rel => exact ⟨j + 1, bx, S4, L, ao, c, rfl, by go_num, by omega, by omega, by rw [HL.out]; omega, H8.out.keep hHeld⟩
                  case measure => simp [intOf]; omega
      · obtain ⟨wx, hwx⟩ : ∃ wx : World, wx = wo := ⟨_, rfl⟩
        have hu : (Value.pointer (some ⟨b, 0, none⟩) : Value) ≠ .pointer none := by simp
        by_cases hlt1 : (j : Int) < a1n
        · have h8 : ¬ (j : Int) < 80 := by omega
          go_wp2_with fail
          go_ret
          exact ⟨rfl, below_gn (Below.refl _ _) HG.out (Nat.le_refl _)⟩
        · go_wp2_with fail
          go_ret
          exact ⟨rfl, below_gn (Below.refl _ _) HG.out (Nat.le_refl _)⟩
end Go.Proofs.Ytbaocimmpiojeaa
