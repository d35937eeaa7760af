/- Sets of what was read: the page's example; the first version. -/
import Derived.Test.YtbaocimmpiojeaaF
import Derived.Test.YtbaocimmpiojeaaShapes
namespace Go.Proofs.Ytbaocimmpiojeaa
open Go.RowKit
set_option linter.unusedVariables false
set_option linter.unusedSimpArgs false

theorem ex1 : addP 4 [] 5 3 = (0, [(5, 3)]) := by decide
theorem ex2 : addP 4 [(5, 3)] 5 9 = (0, [(5, 3)]) := by decide
theorem ex3 : hasP [(5, 3)] 5 = (3, true) := by decide

set_option maxRecDepth 100000 in
set_option maxHeartbeats 3200000 in
theorem awake_any (w : World) : Calls Try.prog 7 #[] w fun e w' => e = .returned (.bool true) ∧ w.grownBy w' none := by
  have HN := Lib.hid (new_any 4 w)
  go_enter Try.func7, Try.ntmps7
  go_wp2_with fail
  refine HN.out.mono ?_
  rintro e w1 ⟨g1, ⟨h, _⟩ | ⟨_, b, rfl, hb, hr⟩⟩
  · exact absurd h (by decide)
  have G1 := Lib.hid g1
  have hS : ∀ i, w1.heap.size ≤ i → w.heap.size ≤ i := fun i hi => Nat.le_trans G1.out.size hi
  have HA := Lib.hid (add_any (fun i => w.heap.size ≤ i) b 4 [] 5 3 w1 hr (by decide) hS (by decide) (by decide))
  rw [ex1] at HA
  clear g1 hr hS HN
  go_wp2_with fail
  refine HA.out.mono ?_
  rintro e w2 ⟨rfl, hr, ht⟩
  have T2 := Lib.hid (tr_trans (tr_g G1.out (fun i => w.heap.size ≤ i)) ht (fun i _ e => e))
  have hS : ∀ i, w2.heap.size ≤ i → w.heap.size ≤ i := fun i hi => Nat.le_trans T2.out.size hi
  have HA := Lib.hid (add_any (fun i => w.heap.size ≤ i) b 4 [(5, 3)] 5 9 w2 hr (by decide) hS (by decide) (by decide))
  rw [ex2] at HA
  clear hr ht hS
  go_wp2_with fail
  refine HA.out.mono ?_
  rintro e w3 ⟨rfl, hr, ht⟩
  have T3 := Lib.hid (tr_trans T2.out ht (fun i _ e => e))
  have hS : ∀ i, w3.heap.size ≤ i → w.heap.size ≤ i := fun i hi => Nat.le_trans T3.out.size hi
  have HA := Lib.hid (has_any (fun i => w.heap.size ≤ i) b 4 [(5, 3)] 5 w3 hr (by decide) hS (by decide) (by decide))
  rw [ex3] at HA
  clear hr ht hS
  go_wp2_with fail
  refine HA.out.mono ?_
  rintro e w4 ⟨rfl, hr, ht⟩
  have T4 := Lib.hid (tr_trans T3.out ht (fun i _ e => e))
  have HL := Lib.hid (len_any (fun i => w.heap.size ≤ i) b 4 [(5, 3)] w4 hr (by decide))
  clear hr ht
  go_wp2_with fail
  refine HL.out.mono ?_
  rintro e w5 ⟨rfl, rfl⟩
  go_wp2_with fail
  go_ret
  exact ⟨rfl, T4.out.g (fun i hi => by omega)⟩

theorem dist_of {w : World} {S : Nat → Prop} {b : Nat} {most : Int} {L : List (Int × Int)} (h : Rs w S b most L) : Dist L := by
  obtain ⟨_, lv, d, mo, h1, h2, h3, h4, _⟩ := h; exact h4
/-- how an Add goes -/
theorem add_cases {L : List (Int × Int)} (hd : Dist L) (n : Nat) (k v : Int) :
    (∃ was f, hasP L k = (was, true) ∧ addP n L k v = (f, L)) ∨ (∃ f, hasP L k = (0, false) ∧ addP n L k v = (f, L) ∧ ¬ f = 0) ∨ (hasP L k = (0, false) ∧ addP n L k v = (0, L ++ [(k, v)]) ∧ L.length < n ∧ hasP (L ++ [(k, v)]) k = (v, true) ∧ Dist (L ++ [(k, v)])) := by
  rcases has_cases L k with hno | ⟨i, u, hi⟩
  · have hh := hasP_no hno
    by_cases hb : k < 0 ∨ 1024 ≤ k ∨ v < 0 ∨ 2199023255552 < v
    · exact .inr (.inl ⟨1, hh, by rw [addP, if_pos hb], by decide⟩)
    · by_cases hf : (n : Int) ≤ L.length
      · exact .inr (.inl ⟨60, hh, by rw [addP, if_neg hb, hh]; simp only [Bool.false_eq_true, if_false]; rw [if_pos hf], by decide⟩)
      · have hd2 := dist_snoc (v := v) hd hno (by omega) (by omega)
        exact .inr (.inr ⟨hh, by rw [addP, if_neg hb, hh]; simp only [Bool.false_eq_true, if_false]; rw [if_neg hf], by omega, hasP_yes (i := L.length) (p := (k, v)) hd2 (by simp) rfl, hd2⟩)
  · have hh := hasP_yes hd hi rfl
    simp only at hh
    refine .inl ⟨u, if k < 0 ∨ 1024 ≤ k ∨ v < 0 ∨ 2199023255552 < v then 1 else 0, hh, ?_⟩
    rw [addP, hh]
    simp only [if_true]
    split <;> rfl

set_option maxRecDepth 100000 in
set_option maxHeartbeats 12800000 in
theorem walk_RsetFirst (a0 : Int) (a1 : Option Addr) (a1n a1c : Nat) (w : World) (w0 : (Lit.int .u8 a0).wf = true) (w1 : Vec w a1 a1n a1c 3 (Q30)) :
    Calls Try.prog 3 #[.int .u8 a0, .slice a1 a1n a1c] w fun e w' => e = .returned (.bool true) ∧ Below w.heap.size w w' := by
  have b0 : 0 ≤ a0 ∧ a0 ≤ 255 := by simpa [Lit.wf, IntKind.min, IntKind.max, IntKind.signed, IntKind.bits] using w0
  obtain ⟨r, hr⟩ : ∃ r, a0 % 20 = r := ⟨_, rfl⟩
  obtain ⟨n, hn⟩ : ∃ n : Nat, 1 + r = n := ⟨(1 + r).toNat, by omega⟩
  have hnb : 1 ≤ n ∧ n ≤ 20 := by omega
  have HN := Lib.hid (new_any (n : Int) w)
  have hnp : newP (n : Int) = true := decide_eq_true (by omega)
  have hm : (n : Int) ≠ 0 := by omega
  have V := Lib.hid w1
  clear w0 w1
  go_enter Try.func3, Try.ntmps3
  go_wp2_with fail
  refine HN.out.mono ?_
  rintro e w1 ⟨g1, ⟨h, _⟩ | ⟨_, b, rfl, hb, hrs⟩⟩
  · rw [hnp] at h; cases h
  have HR := Lib.hid hrs
  have G1 := Lib.hid g1
  clear hr hn b0 HN hrs g1
  go_wp2_with fail
  refine (awake_any _).mono ?_
  rintro e w2 ⟨rfl, g2⟩
  have HR := Lib.hid (HR.out.keep g2)
  have G2 := Lib.hid (g_trans G1.out g2)
  clear g2
  go_wp2_with fail
  go_loopw [8] (fun i wr => ∃ (j : Nat) (L : List (Int × Int)), i = .int .i64 j ∧ j ≤ a1n ∧ Rs wr (fun i => w.heap.size ≤ i) b n L ∧ L.length ≤ n ∧ w.grownBy wr none) (fun i _ => (a1n - intOf i).toNat)
  case atStart => exact ⟨0, [], rfl, Nat.zero_le _, HR.out, Nat.zero_le _, G2.out⟩
  case round =>
    obtain ⟨j, L, rfl, hj, hrs, hln, hg⟩ := hrel
    obtain ⟨wo, hwo⟩ : ∃ wo : World, wo = wr := ⟨_, rfl⟩
    subst hwo
    by_cases hlt : j < a1n ∧ j < 80
    · obtain ⟨hlt, h80⟩ := hlt
      have hji : (j : Int) < a1n := by omega
      have hj8 : (j : Int) < 80 := by omega
      have hjj : ¬ (a1n : Int) ≤ j := by omega
      obtain ⟨bo, oo, cs, rfl, hcl, ⟨q0, k, v, rfl, wf0, wf1, wf2⟩, hcell⟩ := V.out.2.2 j hlt
      have y0 := hcell 0 _ rfl
      have y1 := hcell 1 _ rfl
      have y2 := hcell 2 _ rfl
      have hbo := World.block_lt_of_cell? _ _ y1
      simp only at hbo
      have Y := Lib.hid (And.intro y1 y2)
      have D0 := Lib.hid (hg.cell y1 (by simp))
      have hk := wf1
      clear hcell y0 y1 y2
      have HS1 : ∀ W : World, w.grownBy W none → ∀ i, W.heap.size ≤ i → w.heap.size ≤ i := fun W g i hi => Nat.le_trans g.size hi
      have HD := Lib.hid (dist_of hrs)
      have HH := Lib.hid (has_any _ b n L k wo hrs (by omega) (HS1 _ hg) hm hk)
      have HG := Lib.hid hg
      have HS := Lib.hid HS1
      have HLN := Lib.hid hln
      clear hrs hg HS1 hcl
      obtain ⟨hp, hhp⟩ : ∃ hp, hasP L k = hp := ⟨_, rfl⟩
      rw [hhp] at HH
      have HHP := Lib.hid hhp
      clear hhp
      have yy1 := D0.out
      simp only [show oo + (j * 3 + 1) = oo + j * 3 + 1 from by omega] at yy1
      go_wp2_with fail
      refine HH.out.mono ?_
      rintro e w3 ⟨rfl, hr3, ht3⟩
      have G3 := Lib.hid ((tr_trans (tr_g HG.out (fun i => w.heap.size ≤ i)) ht3 (fun i _ e => e)).g (fun i hi => by omega))
      have HLE := Lib.hid (len_any _ b n L w3 hr3 hm)
      have HR3 := Lib.hid hr3
      clear hr3 ht3 yy1
      go_wp2_with fail
      refine HLE.out.mono ?_
      rintro e w3' ⟨rfl, rfl⟩
      have z1 := G3.out.cell Y.out.1 (by simp)
      have z2 := G3.out.cell Y.out.2 (by simp)
      rw [show oo + (j * 3 + 1) = oo + j * 3 + 1 from by omega] at z1
      rw [show oo + (j * 3 + 2) = oo + j * 3 + 2 from by omega] at z2
      have Z := Lib.hid (And.intro z1 z2)
      clear z1 z2
      have hw3 : w.heap.size ≤ w3'.heap.size := G3.out.size
      have HAD := Lib.hid (add_any (fun i => w.heap.size ≤ i) b n L k v w3'.drew (HR3.out.keep (g_drew (g_refl _ _))) (by omega) (fun i hi => Nat.le_trans hw3 hi) hm hk)
      rcases add_cases HD.out n k v with ⟨was, f, hh, ha⟩ | ⟨f, hh, ha, hf0⟩ | ⟨hh, ha, hln2, hh2, hd2⟩
      · obtain rfl : hp = (was, true) := HHP.out.symm.trans hh
        rw [ha] at HAD
        have H2 := Lib.hid hh
        have ew : (was != was) = false := by simp
        have hlen : ¬ (n : Int) < L.length := by omega
        have HDL := Lib.hid HD.out
        have hl5 : L.length ≤ n := hln
        clear hh ha
        go_upto_region 10 with fail
        refine wp_region_held_drew (S := fun W' => Tr (fun i => w.heap.size ≤ i) w3' W') (by kernel_rfl) (tr_g (g_drew (g_refl w3' none)) _) (fun hHeld => ?_)
        refine wpAnyH_take (i := 0) (v := .pointer (some ⟨b, 0, none⟩)) rfl (by kernel_rfl) (by kernel_rfl) (by kernel_rfl) (fun _ _ _ h => h) (Or.inl ⟨by rfl, fun w hw => by clear hw; go_simp⟩) hHeld ?_
        try simp only [Act.put, List.setIfInBounds_toArray, List.set_cons_zero, List.set_cons_succ, List.getElem_toArray, List.getElem_cons_zero, List.getElem_cons_succ]
        refine wpAnyH_take (i := 1) (v := .slice (some ⟨bo, oo, none⟩) a1n a1c) rfl (by kernel_rfl) (by kernel_rfl) (by kernel_rfl) (fun _ _ _ h => h) (Or.inl ⟨by rfl, fun w hw => by clear hw; go_simp⟩) hHeld ?_
        try simp only [Act.put, List.setIfInBounds_toArray, List.set_cons_zero, List.set_cons_succ, List.getElem_toArray, List.getElem_cons_zero, List.getElem_cons_succ]
        refine wpAnyH_take (i := 2) (v := .int .i64 (j : Int)) rfl (by kernel_rfl) (by kernel_rfl) (by kernel_rfl) (fun _ _ _ h => h) (Or.inl ⟨by rfl, fun w hw => by clear hw; go_simp⟩) hHeld ?_
        try simp only [Act.put, List.setIfInBounds_toArray, List.set_cons_zero, List.set_cons_succ, List.getElem_toArray, List.getElem_cons_zero, List.getElem_cons_succ]
        refine wpAnyH_take (i := 3) (v := .pointer (some ⟨bo, oo + j * 3, none⟩)) rfl (by kernel_rfl) (by kernel_rfl) (by kernel_rfl) (fun _ _ _ h => h) (Or.inl ⟨by rfl, fun w hw => by clear hw; go_simp⟩) hHeld ?_
        try simp only [Act.put, List.setIfInBounds_toArray, List.set_cons_zero, List.set_cons_succ, List.getElem_toArray, List.getElem_cons_zero, List.getElem_cons_succ]
        refine wpAnyH_take (i := 4) (v := .pointer (some ⟨bo, oo + j * 3 + 1, none⟩)) rfl (by kernel_rfl) (by kernel_rfl) (by kernel_rfl) (fun _ _ _ h => h) (Or.inl ⟨by rfl, fun w hw => by clear hw; go_simp⟩) hHeld ?_
        try simp only [Act.put, List.setIfInBounds_toArray, List.set_cons_zero, List.set_cons_succ, List.getElem_toArray, List.getElem_cons_zero, List.getElem_cons_succ]
        refine wpAnyH_take (i := 5) (v := .int .i64 k) rfl (by kernel_rfl) (by kernel_rfl) (by kernel_rfl) (fun _ _ _ h => h) (Or.inl ⟨by rfl, fun w' hw => by have q0 := Tr.cell hw Z.out.1 (by omega); clear hw; go_simp⟩) hHeld ?_
        try simp only [Act.put, List.setIfInBounds_toArray, List.set_cons_zero, List.set_cons_succ, List.getElem_toArray, List.getElem_cons_zero, List.getElem_cons_succ]
        refine wpAnyH_take (i := 6) (v := .slice (some ⟨bo, oo, none⟩) a1n a1c) rfl (by kernel_rfl) (by kernel_rfl) (by kernel_rfl) (fun _ _ _ h => h) (Or.inl ⟨by rfl, fun w hw => by clear hw; go_simp⟩) hHeld ?_
        try simp only [Act.put, List.setIfInBounds_toArray, List.set_cons_zero, List.set_cons_succ, List.getElem_toArray, List.getElem_cons_zero, List.getElem_cons_succ]
        refine wpAnyH_take (i := 7) (v := .int .i64 (j : Int)) rfl (by kernel_rfl) (by kernel_rfl) (by kernel_rfl) (fun _ _ _ h => h) (Or.inl ⟨by rfl, fun w hw => by clear hw; go_simp⟩) hHeld ?_
        try simp only [Act.put, List.setIfInBounds_toArray, List.set_cons_zero, List.set_cons_succ, List.getElem_toArray, List.getElem_cons_zero, List.getElem_cons_succ]
        refine wpAnyH_take (i := 8) (v := .pointer (some ⟨bo, oo + j * 3, none⟩)) rfl (by kernel_rfl) (by kernel_rfl) (by kernel_rfl) (fun _ _ _ h => h) (Or.inl ⟨by rfl, fun w hw => by clear hw; go_simp⟩) hHeld ?_
        try simp only [Act.put, List.setIfInBounds_toArray, List.set_cons_zero, List.set_cons_succ, List.getElem_toArray, List.getElem_cons_zero, List.getElem_cons_succ]
        refine wpAnyH_take (i := 9) (v := .pointer (some ⟨bo, oo + j * 3 + 2, none⟩)) rfl (by kernel_rfl) (by kernel_rfl) (by kernel_rfl) (fun _ _ _ h => h) (Or.inl ⟨by rfl, fun w hw => by clear hw; go_simp⟩) hHeld ?_
        try simp only [Act.put, List.setIfInBounds_toArray, List.set_cons_zero, List.set_cons_succ, List.getElem_toArray, List.getElem_cons_zero, List.getElem_cons_succ]
        refine wpAnyH_take (i := 10) (v := .int .i64 v) rfl (by kernel_rfl) (by kernel_rfl) (by kernel_rfl) (fun _ _ _ h => h) (Or.inl ⟨by rfl, fun w' hw => by have q0 := Tr.cell hw Z.out.2 (by omega); clear hw; go_simp⟩) hHeld ?_
        try simp only [Act.put, List.setIfInBounds_toArray, List.set_cons_zero, List.set_cons_succ, List.getElem_toArray, List.getElem_cons_zero, List.getElem_cons_succ]
        refine wpAnyH_ready (rs := [11]) (by kernel_rfl) (by simp) (AllReadyH.cons rfl (fun K hK => ?_) (AllReadyH.nil))
        · go_simp
          refine Calls.mono HAD.out ?_
          rintro e w9 ⟨rfl, hr9, ht9⟩
          try go_wp2_with fail
          refine hK.out _ _ (tr_trans hHeld ht9 (fun i _ e => e)) (fun hHeld => ?_)
          clear hK K
          try simp only [Act.put, List.setIfInBounds_toArray, List.set_cons_zero, List.set_cons_succ, List.getElem_toArray, List.getElem_cons_zero, List.getElem_cons_succ]
          refine wpAnyH_take (i := 12) (v := .int .i64 f) rfl (by kernel_rfl) (by kernel_rfl) (by kernel_rfl) (fun _ _ _ h => h) (Or.inl ⟨by rfl, fun w hw => by clear hw; go_simp⟩) hHeld ?_
          try simp only [Act.put, List.setIfInBounds_toArray, List.set_cons_zero, List.set_cons_succ, List.getElem_toArray, List.getElem_cons_zero, List.getElem_cons_succ]
          refine wpAnyH_done (by kernel_rfl) ?_ _
          have HR9 := Lib.hid hr9
          have G9 := Lib.hid ((tr_trans (tr_g G3.out (fun i => w.heap.size ≤ i)) hHeld (fun i _ e => e)).g (fun i hi => by omega))
          have hw9 : w.heap.size ≤ w9.heap.size := G9.out.size
          have HH2 := Lib.hid (has_any (fun i => w.heap.size ≤ i) b n L k w9 HR9.out (by omega) (fun i hi => Nat.le_trans hw9 hi) hm hk)
          rw [H2.out] at HH2
          have z1 := G9.out.cell Y.out.1 (by simp)
          rw [show oo + (j * 3 + 1) = oo + j * 3 + 1 from by omega] at z1
          clear hr9 ht9 hHeld
          go_wp2_with fail
          refine HH2.out.mono ?_
          rintro e wH ⟨rfl, hrH, htH⟩
          have HR9 := Lib.hid hrH
          have G9 := Lib.hid ((tr_trans (tr_g G9.out (fun i => w.heap.size ≤ i)) htH (fun i _ e => e)).g (fun i hi => by omega))
          have HLE2 := Lib.hid (len_any _ b n L wH hrH hm)
          have HAL := Lib.hid (all_any _ b n L wH hrH hm (by omega))
          have z2 := G9.out.cell Y.out.2 (by simp)
          rw [show oo + (j * 3 + 2) = oo + j * 3 + 2 from by omega] at z2
          clear hrH htH z1
          by_cases hfe : (L.length : Int) = n
          · have hfb : ((L.length : Int) == n) = true := by simp [hfe]
            go_wp2_with fail
            refine HLE2.out.mono ?_
            rintro e wL ⟨rfl, rfl⟩
            go_wp2_with fail
            refine HAL.out.mono ?_
            rintro e wA ⟨lv, rfl, how, ga⟩
            obtain ⟨lo, lc, rfl, hls, -⟩ := srow_of_own how
            have HLS := Lib.hid hls
            have GA := Lib.hid (g_trans G9.out ga)
            have HRA := Lib.hid (HR9.out.keep ga)
            clear how hls ga
            go_wp2_with fail
            go_loopw [16] (fun q wr2 => ∃ kk : Nat, q = .int .i64 kk ∧ kk ≤ L.length ∧ wA.grownBy wr2 none) (fun q _ => (L.length - intOf q).toNat)
            case atStart => exact ⟨0, rfl, Nat.zero_le _, g_refl _ _⟩
            case round =>
              obtain ⟨kk, rfl, hkk, hgk⟩ := hrel
              obtain ⟨wp_, hwp⟩ : ∃ wp_ : World, wp_ = wr := ⟨_, rfl⟩
              subst hwp
              by_cases hlk : kk < L.length
              · have hki : (kk : Int) < L.length := by omega
                have hkn : ¬ (L.length : Int) ≤ kk := by omega
                have HGK := Lib.hid hgk
                clear hgk
                obtain ⟨len, hlen2⟩ : ∃ len, L.length = len := ⟨_, rfl⟩
                have HLEN := Lib.hid hlen2
                go_wp2_with fail
                go_loopw [17] (fun q wr3 => ∃ jj : Nat, q = .int .i64 jj ∧ jj ≤ kk ∧ wA.grownBy wr3 none) (fun q _ => (kk - intOf q).toNat)
                case atStart => exact ⟨0, rfl, Nat.zero_le _, HGK.out⟩
                case round =>
                  obtain ⟨jj, rfl, hjk, hgj⟩ := hrel
                  by_cases hlj : jj < kk
                  · have hjki : (jj : Int) < kk := by omega
                    have hjn : ¬ (len : Int) ≤ jj := by omega
                    have hkn2 : ¬ (len : Int) ≤ kk := by omega
                    have hjn3 : ¬ len ≤ jj := by omega
                    have hkn3 : ¬ len ≤ kk := by omega
                    obtain ⟨p, hp⟩ : ∃ p, L[jj]? = some p := ⟨L[jj], List.getElem?_eq_getElem (by omega)⟩
                    obtain ⟨q, hq⟩ : ∃ q, L[kk]? = some q := ⟨L[kk], List.getElem?_eq_getElem (by omega)⟩
                    have hpq : ¬ p.1 = q.1 := by
                      obtain ⟨a1, a2⟩ := List.getElem?_eq_some_iff.1 hp
                      obtain ⟨b1, b2⟩ := List.getElem?_eq_some_iff.1 hq
                      rw [← a2, ← b2]
                      exact List.pairwise_iff_getElem.1 HDL.out.1 jj kk a1 b1 hlj
                    obtain ⟨bl, ol, rfl, x0, -⟩ := HLS.out.keep hgj jj p hp
                    obtain ⟨bl', ol', hbo', u0, -⟩ := HLS.out.keep hgj kk q hq
                    cases hbo'
                    have XX := Lib.hid (And.intro x0 u0)
                    have HGJ := Lib.hid hgj
                    obtain ⟨p1, p2⟩ := p
                    obtain ⟨q1, q2⟩ := q
                    simp only at hpq XX
                    have epq : (p1 == q1) = false := by simp [hpq]
                    clear hp hq x0 u0 hgj
                    rw [hlen2] at *
                    go_upto_region 21 with fail
                    refine wp_region_held_drew (S := fun W' => wr.grownBy W' none) (by kernel_rfl) (g_drew (g_refl _ _)) (fun hHeld => ?_)
                    refine wpAnyH_take (i := 0) (v := .slice (some ⟨bl, ol, none⟩) len lc) rfl (by kernel_rfl) (by kernel_rfl) (by kernel_rfl) (fun _ _ _ h => h) (Or.inl ⟨by rfl, fun w hw => by clear hw; go_simp⟩) hHeld ?_
                    try simp only [Act.put, List.setIfInBounds_toArray, List.set_cons_zero, List.set_cons_succ, List.getElem_toArray, List.getElem_cons_zero, List.getElem_cons_succ]
                    refine wpAnyH_take (i := 1) (v := .int .i64 (jj : Int)) rfl (by kernel_rfl) (by kernel_rfl) (by kernel_rfl) (fun _ _ _ h => h) (Or.inl ⟨by rfl, fun w hw => by clear hw; go_simp⟩) hHeld ?_
                    try simp only [Act.put, List.setIfInBounds_toArray, List.set_cons_zero, List.set_cons_succ, List.getElem_toArray, List.getElem_cons_zero, List.getElem_cons_succ]
                    refine wpAnyH_take (i := 2) (v := .pointer (some ⟨bl, ol + jj * 2, none⟩)) rfl (by kernel_rfl) (by kernel_rfl) (by kernel_rfl) (fun _ _ _ h => h) (Or.inl ⟨by rfl, fun w hw => by clear hw; go_simp⟩) hHeld ?_
                    try simp only [Act.put, List.setIfInBounds_toArray, List.set_cons_zero, List.set_cons_succ, List.getElem_toArray, List.getElem_cons_zero, List.getElem_cons_succ]
                    refine wpAnyH_take (i := 3) (v := .pointer (some ⟨bl, ol + jj * 2, none⟩)) rfl (by kernel_rfl) (by kernel_rfl) (by kernel_rfl) (fun _ _ _ h => h) (Or.inl ⟨by rfl, fun w hw => by clear hw; go_simp⟩) hHeld ?_
                    try simp only [Act.put, List.setIfInBounds_toArray, List.set_cons_zero, List.set_cons_succ, List.getElem_toArray, List.getElem_cons_zero, List.getElem_cons_succ]
                    refine wpAnyH_take (i := 4) (v := .int .i64 p1) rfl (by kernel_rfl) (by kernel_rfl) (by kernel_rfl) (fun _ _ _ h => h) (Or.inl ⟨by rfl, fun w' hw => by have q0 := hw.cell XX.out.1 (by simp); clear hw; go_simp⟩) hHeld ?_
                    try simp only [Act.put, List.setIfInBounds_toArray, List.set_cons_zero, List.set_cons_succ, List.getElem_toArray, List.getElem_cons_zero, List.getElem_cons_succ]
                    refine wpAnyH_take (i := 5) (v := .slice (some ⟨bl, ol, none⟩) len lc) rfl (by kernel_rfl) (by kernel_rfl) (by kernel_rfl) (fun _ _ _ h => h) (Or.inl ⟨by rfl, fun w hw => by clear hw; go_simp⟩) hHeld ?_
                    try simp only [Act.put, List.setIfInBounds_toArray, List.set_cons_zero, List.set_cons_succ, List.getElem_toArray, List.getElem_cons_zero, List.getElem_cons_succ]
                    refine wpAnyH_take (i := 6) (v := .int .i64 (kk : Int)) rfl (by kernel_rfl) (by kernel_rfl) (by kernel_rfl) (fun _ _ _ h => h) (Or.inl ⟨by rfl, fun w hw => by clear hw; go_simp⟩) hHeld ?_
                    try simp only [Act.put, List.setIfInBounds_toArray, List.set_cons_zero, List.set_cons_succ, List.getElem_toArray, List.getElem_cons_zero, List.getElem_cons_succ]
                    refine wpAnyH_take (i := 7) (v := .pointer (some ⟨bl, ol + kk * 2, none⟩)) rfl (by kernel_rfl) (by kernel_rfl) (by kernel_rfl) (fun _ _ _ h => h) (Or.inl ⟨by rfl, fun w hw => by clear hw; go_simp⟩) hHeld ?_
                    try simp only [Act.put, List.setIfInBounds_toArray, List.set_cons_zero, List.set_cons_succ, List.getElem_toArray, List.getElem_cons_zero, List.getElem_cons_succ]
                    refine wpAnyH_take (i := 8) (v := .pointer (some ⟨bl, ol + kk * 2, none⟩)) rfl (by kernel_rfl) (by kernel_rfl) (by kernel_rfl) (fun _ _ _ h => h) (Or.inl ⟨by rfl, fun w hw => by clear hw; go_simp⟩) hHeld ?_
                    try simp only [Act.put, List.setIfInBounds_toArray, List.set_cons_zero, List.set_cons_succ, List.getElem_toArray, List.getElem_cons_zero, List.getElem_cons_succ]
                    refine wpAnyH_take (i := 9) (v := .int .i64 q1) rfl (by kernel_rfl) (by kernel_rfl) (by kernel_rfl) (fun _ _ _ h => h) (Or.inl ⟨by rfl, fun w' hw => by have q0 := hw.cell XX.out.2 (by simp); clear hw; go_simp⟩) hHeld ?_
                    try simp only [Act.put, List.setIfInBounds_toArray, List.set_cons_zero, List.set_cons_succ, List.getElem_toArray, List.getElem_cons_zero, List.getElem_cons_succ]
                    refine wpAnyH_take (i := 10) (v := .bool false) rfl (by kernel_rfl) (by kernel_rfl) (by kernel_rfl) (fun _ _ _ h => h) (Or.inl ⟨by rfl, fun w hw => by clear hw; go_simp⟩) hHeld ?_
                    try simp only [Act.put, List.setIfInBounds_toArray, List.set_cons_zero, List.set_cons_succ, List.getElem_toArray, List.getElem_cons_zero, List.getElem_cons_succ]
                    refine wpAnyH_done (by kernel_rfl) ?_ _
                    have HGX := Lib.hid (g_trans HGJ.out hHeld)
                    clear hHeld
                    go_wp2_with fail
                    go_roundw
                    case rel => exact ⟨jj + 1, by go_num, by omega, HGX.out⟩
                    case measure => simp [intOf]; omega
                  · obtain rfl : jj = kk := by omega
                    have hjj2 : ¬ (jj : Int) < jj := by omega
                    have HGJ := Lib.hid hgj
                    clear hgj
                    go_wp2_with fail
                    go_roundw
                    case rel => exact ⟨jj + 1, by go_num, by omega, HGJ.out⟩
                    case measure => simp [intOf]; omega
              · obtain rfl : kk = L.length := by omega
                have HGK := Lib.hid hgk
                clear hgk
                go_wp2_with fail
                go_roundw
                case rel => exact ⟨j + 1, L, by go_num, by omega, HRA.out.keep HGK.out, hl5, g_trans GA.out HGK.out⟩
                case measure => simp [intOf]; omega
          · go_wp2_with fail
            refine HLE2.out.mono ?_
            rintro e wL ⟨rfl, rfl⟩
            go_wp2_with fail
            refine HAL.out.mono ?_
            rintro e wA ⟨lv, rfl, how, ga⟩
            obtain ⟨lo, lc, rfl, hls, -⟩ := srow_of_own how
            have HLS := Lib.hid hls
            have GA := Lib.hid (g_trans G9.out ga)
            have HRA := Lib.hid (HR9.out.keep ga)
            clear how hls ga
            go_wp2_with fail
            go_loopw [16] (fun q wr2 => ∃ kk : Nat, q = .int .i64 kk ∧ kk ≤ L.length ∧ wA.grownBy wr2 none) (fun q _ => (L.length - intOf q).toNat)
            case atStart => exact ⟨0, rfl, Nat.zero_le _, g_refl _ _⟩
            case round =>
              obtain ⟨kk, rfl, hkk, hgk⟩ := hrel
              obtain ⟨wp_, hwp⟩ : ∃ wp_ : World, wp_ = wr := ⟨_, rfl⟩
              subst hwp
              by_cases hlk : kk < L.length
              · have hki : (kk : Int) < L.length := by omega
                have hkn : ¬ (L.length : Int) ≤ kk := by omega
                have HGK := Lib.hid hgk
                clear hgk
                obtain ⟨len, hlen2⟩ : ∃ len, L.length = len := ⟨_, rfl⟩
                have HLEN := Lib.hid hlen2
                go_wp2_with fail
                go_loopw [17] (fun q wr3 => ∃ jj : Nat, q = .int .i64 jj ∧ jj ≤ kk ∧ wA.grownBy wr3 none) (fun q _ => (kk - intOf q).toNat)
                case atStart => exact ⟨0, rfl, Nat.zero_le _, HGK.out⟩
                case round =>
                  obtain ⟨jj, rfl, hjk, hgj⟩ := hrel
                  by_cases hlj : jj < kk
                  · have hjki : (jj : Int) < kk := by omega
                    have hjn : ¬ (len : Int) ≤ jj := by omega
                    have hkn2 : ¬ (len : Int) ≤ kk := by omega
                    have hjn3 : ¬ len ≤ jj := by omega
                    have hkn3 : ¬ len ≤ kk := by omega
                    obtain ⟨p, hp⟩ : ∃ p, L[jj]? = some p := ⟨L[jj], List.getElem?_eq_getElem (by omega)⟩
                    obtain ⟨q, hq⟩ : ∃ q, L[kk]? = some q := ⟨L[kk], List.getElem?_eq_getElem (by omega)⟩
                    have hpq : ¬ p.1 = q.1 := by
                      obtain ⟨a1, a2⟩ := List.getElem?_eq_some_iff.1 hp
                      obtain ⟨b1, b2⟩ := List.getElem?_eq_some_iff.1 hq
                      rw [← a2, ← b2]
                      exact List.pairwise_iff_getElem.1 HDL.out.1 jj kk a1 b1 hlj
                    obtain ⟨bl, ol, rfl, x0, -⟩ := HLS.out.keep hgj jj p hp
                    obtain ⟨bl', ol', hbo', u0, -⟩ := HLS.out.keep hgj kk q hq
                    cases hbo'
                    have XX := Lib.hid (And.intro x0 u0)
                    have HGJ := Lib.hid hgj
                    obtain ⟨p1, p2⟩ := p
                    obtain ⟨q1, q2⟩ := q
                    simp only at hpq XX
                    have epq : (p1 == q1) = false := by simp [hpq]
                    clear hp hq x0 u0 hgj
                    rw [hlen2] at *
                    go_upto_region 21 with fail
                    refine wp_region_held_drew (S := fun W' => wr.grownBy W' none) (by kernel_rfl) (g_drew (g_refl _ _)) (fun hHeld => ?_)
                    refine wpAnyH_take (i := 0) (v := .slice (some ⟨bl, ol, none⟩) len lc) rfl (by kernel_rfl) (by kernel_rfl) (by kernel_rfl) (fun _ _ _ h => h) (Or.inl ⟨by rfl, fun w hw => by clear hw; go_simp⟩) hHeld ?_
                    try simp only [Act.put, List.setIfInBounds_toArray, List.set_cons_zero, List.set_cons_succ, List.getElem_toArray, List.getElem_cons_zero, List.getElem_cons_succ]
                    refine wpAnyH_take (i := 1) (v := .int .i64 (jj : Int)) rfl (by kernel_rfl) (by kernel_rfl) (by kernel_rfl) (fun _ _ _ h => h) (Or.inl ⟨by rfl, fun w hw => by clear hw; go_simp⟩) hHeld ?_
                    try simp only [Act.put, List.setIfInBounds_toArray, List.set_cons_zero, List.set_cons_succ, List.getElem_toArray, List.getElem_cons_zero, List.getElem_cons_succ]
                    refine wpAnyH_take (i := 2) (v := .pointer (some ⟨bl, ol + jj * 2, none⟩)) rfl (by kernel_rfl) (by kernel_rfl) (by kernel_rfl) (fun _ _ _ h => h) (Or.inl ⟨by rfl, fun w hw => by clear hw; go_simp⟩) hHeld ?_
                    try simp only [Act.put, List.setIfInBounds_toArray, List.set_cons_zero, List.set_cons_succ, List.getElem_toArray, List.getElem_cons_zero, List.getElem_cons_succ]
                    refine wpAnyH_take (i := 3) (v := .pointer (some ⟨bl, ol + jj * 2, none⟩)) rfl (by kernel_rfl) (by kernel_rfl) (by kernel_rfl) (fun _ _ _ h => h) (Or.inl ⟨by rfl, fun w hw => by clear hw; go_simp⟩) hHeld ?_
                    try simp only [Act.put, List.setIfInBounds_toArray, List.set_cons_zero, List.set_cons_succ, List.getElem_toArray, List.getElem_cons_zero, List.getElem_cons_succ]
                    refine wpAnyH_take (i := 4) (v := .int .i64 p1) rfl (by kernel_rfl) (by kernel_rfl) (by kernel_rfl) (fun _ _ _ h => h) (Or.inl ⟨by rfl, fun w' hw => by have q0 := hw.cell XX.out.1 (by simp); clear hw; go_simp⟩) hHeld ?_
                    try simp only [Act.put, List.setIfInBounds_toArray, List.set_cons_zero, List.set_cons_succ, List.getElem_toArray, List.getElem_cons_zero, List.getElem_cons_succ]
                    refine wpAnyH_take (i := 5) (v := .slice (some ⟨bl, ol, none⟩) len lc) rfl (by kernel_rfl) (by kernel_rfl) (by kernel_rfl) (fun _ _ _ h => h) (Or.inl ⟨by rfl, fun w hw => by clear hw; go_simp⟩) hHeld ?_
                    try simp only [Act.put, List.setIfInBounds_toArray, List.set_cons_zero, List.set_cons_succ, List.getElem_toArray, List.getElem_cons_zero, List.getElem_cons_succ]
                    refine wpAnyH_take (i := 6) (v := .int .i64 (kk : Int)) rfl (by kernel_rfl) (by kernel_rfl) (by kernel_rfl) (fun _ _ _ h => h) (Or.inl ⟨by rfl, fun w hw => by clear hw; go_simp⟩) hHeld ?_
                    try simp only [Act.put, List.setIfInBounds_toArray, List.set_cons_zero, List.set_cons_succ, List.getElem_toArray, List.getElem_cons_zero, List.getElem_cons_succ]
                    refine wpAnyH_take (i := 7) (v := .pointer (some ⟨bl, ol + kk * 2, none⟩)) rfl (by kernel_rfl) (by kernel_rfl) (by kernel_rfl) (fun _ _ _ h => h) (Or.inl ⟨by rfl, fun w hw => by clear hw; go_simp⟩) hHeld ?_
                    try simp only [Act.put, List.setIfInBounds_toArray, List.set_cons_zero, List.set_cons_succ, List.getElem_toArray, List.getElem_cons_zero, List.getElem_cons_succ]
                    refine wpAnyH_take (i := 8) (v := .pointer (some ⟨bl, ol + kk * 2, none⟩)) rfl (by kernel_rfl) (by kernel_rfl) (by kernel_rfl) (fun _ _ _ h => h) (Or.inl ⟨by rfl, fun w hw => by clear hw; go_simp⟩) hHeld ?_
                    try simp only [Act.put, List.setIfInBounds_toArray, List.set_cons_zero, List.set_cons_succ, List.getElem_toArray, List.getElem_cons_zero, List.getElem_cons_succ]
                    refine wpAnyH_take (i := 9) (v := .int .i64 q1) rfl (by kernel_rfl) (by kernel_rfl) (by kernel_rfl) (fun _ _ _ h => h) (Or.inl ⟨by rfl, fun w' hw => by have q0 := hw.cell XX.out.2 (by simp); clear hw; go_simp⟩) hHeld ?_
                    try simp only [Act.put, List.setIfInBounds_toArray, List.set_cons_zero, List.set_cons_succ, List.getElem_toArray, List.getElem_cons_zero, List.getElem_cons_succ]
                    refine wpAnyH_take (i := 10) (v := .bool false) rfl (by kernel_rfl) (by kernel_rfl) (by kernel_rfl) (fun _ _ _ h => h) (Or.inl ⟨by rfl, fun w hw => by clear hw; go_simp⟩) hHeld ?_
                    try simp only [Act.put, List.setIfInBounds_toArray, List.set_cons_zero, List.set_cons_succ, List.getElem_toArray, List.getElem_cons_zero, List.getElem_cons_succ]
                    refine wpAnyH_done (by kernel_rfl) ?_ _
                    have HGX := Lib.hid (g_trans HGJ.out hHeld)
                    clear hHeld
                    go_wp2_with fail
                    go_roundw
                    case rel => exact ⟨jj + 1, by go_num, by omega, HGX.out⟩
                    case measure => simp [intOf]; omega
                  · obtain rfl : jj = kk := by omega
                    have hjj2 : ¬ (jj : Int) < jj := by omega
                    have HGJ := Lib.hid hgj
                    clear hgj
                    go_wp2_with fail
                    go_roundw
                    case rel => exact ⟨jj + 1, by go_num, by omega, HGJ.out⟩
                    case measure => simp [intOf]; omega
              · obtain rfl : kk = L.length := by omega
                have HGK := Lib.hid hgk
                clear hgk
                go_wp2_with fail
                go_roundw
                case rel => exact ⟨j + 1, L, by go_num, by omega, HRA.out.keep HGK.out, hl5, g_trans GA.out HGK.out⟩
                case measure => simp [intOf]; omega
      · obtain rfl : hp = (0, false) := HHP.out.symm.trans hh
        rw [ha] at HAD
        have H2 := Lib.hid hh
        have ef : (f == 0) = false := by simp [hf0]
        have hlen : ¬ (n : Int) < L.length := by omega
        have HDL := Lib.hid HD.out
        have hl5 : L.length ≤ n := hln
        clear hh ha
        go_upto_region 10 with fail
        refine wp_region_held_drew (S := fun W' => Tr (fun i => w.heap.size ≤ i) w3' W') (by kernel_rfl) (tr_g (g_drew (g_refl w3' none)) _) (fun hHeld => ?_)
        refine wpAnyH_take (i := 0) (v := .pointer (some ⟨b, 0, none⟩)) rfl (by kernel_rfl) (by kernel_rfl) (by kernel_rfl) (fun _ _ _ h => h) (Or.inl ⟨by rfl, fun w hw => by clear hw; go_simp⟩) hHeld ?_
        try simp only [Act.put, List.setIfInBounds_toArray, List.set_cons_zero, List.set_cons_succ, List.getElem_toArray, List.getElem_cons_zero, List.getElem_cons_succ]
        refine wpAnyH_take (i := 1) (v := .slice (some ⟨bo, oo, none⟩) a1n a1c) rfl (by kernel_rfl) (by kernel_rfl) (by kernel_rfl) (fun _ _ _ h => h) (Or.inl ⟨by rfl, fun w hw => by clear hw; go_simp⟩) hHeld ?_
        try simp only [Act.put, List.setIfInBounds_toArray, List.set_cons_zero, List.set_cons_succ, List.getElem_toArray, List.getElem_cons_zero, List.getElem_cons_succ]
        refine wpAnyH_take (i := 2) (v := .int .i64 (j : Int)) rfl (by kernel_rfl) (by kernel_rfl) (by kernel_rfl) (fun _ _ _ h => h) (Or.inl ⟨by rfl, fun w hw => by clear hw; go_simp⟩) hHeld ?_
        try simp only [Act.put, List.setIfInBounds_toArray, List.set_cons_zero, List.set_cons_succ, List.getElem_toArray, List.getElem_cons_zero, List.getElem_cons_succ]
        refine wpAnyH_take (i := 3) (v := .pointer (some ⟨bo, oo + j * 3, none⟩)) rfl (by kernel_rfl) (by kernel_rfl) (by kernel_rfl) (fun _ _ _ h => h) (Or.inl ⟨by rfl, fun w hw => by clear hw; go_simp⟩) hHeld ?_
        try simp only [Act.put, List.setIfInBounds_toArray, List.set_cons_zero, List.set_cons_succ, List.getElem_toArray, List.getElem_cons_zero, List.getElem_cons_succ]
        refine wpAnyH_take (i := 4) (v := .pointer (some ⟨bo, oo + j * 3 + 1, none⟩)) rfl (by kernel_rfl) (by kernel_rfl) (by kernel_rfl) (fun _ _ _ h => h) (Or.inl ⟨by rfl, fun w hw => by clear hw; go_simp⟩) hHeld ?_
        try simp only [Act.put, List.setIfInBounds_toArray, List.set_cons_zero, List.set_cons_succ, List.getElem_toArray, List.getElem_cons_zero, List.getElem_cons_succ]
        refine wpAnyH_take (i := 5) (v := .int .i64 k) rfl (by kernel_rfl) (by kernel_rfl) (by kernel_rfl) (fun _ _ _ h => h) (Or.inl ⟨by rfl, fun w' hw => by have q0 := Tr.cell hw Z.out.1 (by omega); clear hw; go_simp⟩) hHeld ?_
        try simp only [Act.put, List.setIfInBounds_toArray, List.set_cons_zero, List.set_cons_succ, List.getElem_toArray, List.getElem_cons_zero, List.getElem_cons_succ]
        refine wpAnyH_take (i := 6) (v := .slice (some ⟨bo, oo, none⟩) a1n a1c) rfl (by kernel_rfl) (by kernel_rfl) (by kernel_rfl) (fun _ _ _ h => h) (Or.inl ⟨by rfl, fun w hw => by clear hw; go_simp⟩) hHeld ?_
        try simp only [Act.put, List.setIfInBounds_toArray, List.set_cons_zero, List.set_cons_succ, List.getElem_toArray, List.getElem_cons_zero, List.getElem_cons_succ]
        refine wpAnyH_take (i := 7) (v := .int .i64 (j : Int)) rfl (by kernel_rfl) (by kernel_rfl) (by kernel_rfl) (fun _ _ _ h => h) (Or.inl ⟨by rfl, fun w hw => by clear hw; go_simp⟩) hHeld ?_
        try simp only [Act.put, List.setIfInBounds_toArray, List.set_cons_zero, List.set_cons_succ, List.getElem_toArray, List.getElem_cons_zero, List.getElem_cons_succ]
        refine wpAnyH_take (i := 8) (v := .pointer (some ⟨bo, oo + j * 3, none⟩)) rfl (by kernel_rfl) (by kernel_rfl) (by kernel_rfl) (fun _ _ _ h => h) (Or.inl ⟨by rfl, fun w hw => by clear hw; go_simp⟩) hHeld ?_
        try simp only [Act.put, List.setIfInBounds_toArray, List.set_cons_zero, List.set_cons_succ, List.getElem_toArray, List.getElem_cons_zero, List.getElem_cons_succ]
        refine wpAnyH_take (i := 9) (v := .pointer (some ⟨bo, oo + j * 3 + 2, none⟩)) rfl (by kernel_rfl) (by kernel_rfl) (by kernel_rfl) (fun _ _ _ h => h) (Or.inl ⟨by rfl, fun w hw => by clear hw; go_simp⟩) hHeld ?_
        try simp only [Act.put, List.setIfInBounds_toArray, List.set_cons_zero, List.set_cons_succ, List.getElem_toArray, List.getElem_cons_zero, List.getElem_cons_succ]
        refine wpAnyH_take (i := 10) (v := .int .i64 v) rfl (by kernel_rfl) (by kernel_rfl) (by kernel_rfl) (fun _ _ _ h => h) (Or.inl ⟨by rfl, fun w' hw => by have q0 := Tr.cell hw Z.out.2 (by omega); clear hw; go_simp⟩) hHeld ?_
        try simp only [Act.put, List.setIfInBounds_toArray, List.set_cons_zero, List.set_cons_succ, List.getElem_toArray, List.getElem_cons_zero, List.getElem_cons_succ]
        refine wpAnyH_ready (rs := [11]) (by kernel_rfl) (by simp) (AllReadyH.cons rfl (fun K hK => ?_) (AllReadyH.nil))
        · go_simp
          refine Calls.mono HAD.out ?_
          rintro e w9 ⟨rfl, hr9, ht9⟩
          try go_wp2_with fail
          refine hK.out _ _ (tr_trans hHeld ht9 (fun i _ e => e)) (fun hHeld => ?_)
          clear hK K
          try simp only [Act.put, List.setIfInBounds_toArray, List.set_cons_zero, List.set_cons_succ, List.getElem_toArray, List.getElem_cons_zero, List.getElem_cons_succ]
          refine wpAnyH_take (i := 12) (v := .int .i64 f) rfl (by kernel_rfl) (by kernel_rfl) (by kernel_rfl) (fun _ _ _ h => h) (Or.inl ⟨by rfl, fun w hw => by clear hw; go_simp⟩) hHeld ?_
          try simp only [Act.put, List.setIfInBounds_toArray, List.set_cons_zero, List.set_cons_succ, List.getElem_toArray, List.getElem_cons_zero, List.getElem_cons_succ]
          refine wpAnyH_done (by kernel_rfl) ?_ _
          have HR9 := Lib.hid hr9
          have G9 := Lib.hid ((tr_trans (tr_g G3.out (fun i => w.heap.size ≤ i)) hHeld (fun i _ e => e)).g (fun i hi => by omega))
          have hw9 : w.heap.size ≤ w9.heap.size := G9.out.size
          have HH2 := Lib.hid (has_any (fun i => w.heap.size ≤ i) b n L k w9 HR9.out (by omega) (fun i hi => Nat.le_trans hw9 hi) hm hk)
          rw [H2.out] at HH2
          have z1 := G9.out.cell Y.out.1 (by simp)
          rw [show oo + (j * 3 + 1) = oo + j * 3 + 1 from by omega] at z1
          clear hr9 ht9 hHeld
          go_wp2_with fail
          refine HH2.out.mono ?_
          rintro e wH ⟨rfl, hrH, htH⟩
          have HR9 := Lib.hid hrH
          have G9 := Lib.hid ((tr_trans (tr_g G9.out (fun i => w.heap.size ≤ i)) htH (fun i _ e => e)).g (fun i hi => by omega))
          have HLE2 := Lib.hid (len_any _ b n L wH hrH hm)
          have HAL := Lib.hid (all_any _ b n L wH hrH hm (by omega))
          have z2 := G9.out.cell Y.out.2 (by simp)
          rw [show oo + (j * 3 + 2) = oo + j * 3 + 2 from by omega] at z2
          clear hrH htH z1
          by_cases hfe : (L.length : Int) = n
          · have hfb : ((L.length : Int) == n) = true := by simp [hfe]
            go_wp2_with fail
            refine HLE2.out.mono ?_
            rintro e wL ⟨rfl, rfl⟩
            go_wp2_with fail
            refine HAL.out.mono ?_
            rintro e wA ⟨lv, rfl, how, ga⟩
            obtain ⟨lo, lc, rfl, hls, -⟩ := srow_of_own how
            have HLS := Lib.hid hls
            have GA := Lib.hid (g_trans G9.out ga)
            have HRA := Lib.hid (HR9.out.keep ga)
            clear how hls ga
            go_wp2_with fail
            go_loopw [16] (fun q wr2 => ∃ kk : Nat, q = .int .i64 kk ∧ kk ≤ L.length ∧ wA.grownBy wr2 none) (fun q _ => (L.length - intOf q).toNat)
            case atStart => exact ⟨0, rfl, Nat.zero_le _, g_refl _ _⟩
            case round =>
              obtain ⟨kk, rfl, hkk, hgk⟩ := hrel
              obtain ⟨wp_, hwp⟩ : ∃ wp_ : World, wp_ = wr := ⟨_, rfl⟩
              subst hwp
              by_cases hlk : kk < L.length
              · have hki : (kk : Int) < L.length := by omega
                have hkn : ¬ (L.length : Int) ≤ kk := by omega
                have HGK := Lib.hid hgk
                clear hgk
                obtain ⟨len, hlen2⟩ : ∃ len, L.length = len := ⟨_, rfl⟩
                have HLEN := Lib.hid hlen2
                go_wp2_with fail
                go_loopw [17] (fun q wr3 => ∃ jj : Nat, q = .int .i64 jj ∧ jj ≤ kk ∧ wA.grownBy wr3 none) (fun q _ => (kk - intOf q).toNat)
                case atStart => exact ⟨0, rfl, Nat.zero_le _, HGK.out⟩
                case round =>
                  obtain ⟨jj, rfl, hjk, hgj⟩ := hrel
                  by_cases hlj : jj < kk
                  · have hjki : (jj : Int) < kk := by omega
                    have hjn : ¬ (len : Int) ≤ jj := by omega
                    have hkn2 : ¬ (len : Int) ≤ kk := by omega
                    have hjn3 : ¬ len ≤ jj := by omega
                    have hkn3 : ¬ len ≤ kk := by omega
                    obtain ⟨p, hp⟩ : ∃ p, L[jj]? = some p := ⟨L[jj], List.getElem?_eq_getElem (by omega)⟩
                    obtain ⟨q, hq⟩ : ∃ q, L[kk]? = some q := ⟨L[kk], List.getElem?_eq_getElem (by omega)⟩
                    have hpq : ¬ p.1 = q.1 := by
                      obtain ⟨a1, a2⟩ := List.getElem?_eq_some_iff.1 hp
                      obtain ⟨b1, b2⟩ := List.getElem?_eq_some_iff.1 hq
                      rw [← a2, ← b2]
                      exact List.pairwise_iff_getElem.1 HDL.out.1 jj kk a1 b1 hlj
                    obtain ⟨bl, ol, rfl, x0, -⟩ := HLS.out.keep hgj jj p hp
                    obtain ⟨bl', ol', hbo', u0, -⟩ := HLS.out.keep hgj kk q hq
                    cases hbo'
                    have XX := Lib.hid (And.intro x0 u0)
                    have HGJ := Lib.hid hgj
                    obtain ⟨p1, p2⟩ := p
                    obtain ⟨q1, q2⟩ := q
                    simp only at hpq XX
                    have epq : (p1 == q1) = false := by simp [hpq]
                    clear hp hq x0 u0 hgj
                    rw [hlen2] at *
                    go_upto_region 21 with fail
                    refine wp_region_held_drew (S := fun W' => wr.grownBy W' none) (by kernel_rfl) (g_drew (g_refl _ _)) (fun hHeld => ?_)
                    refine wpAnyH_take (i := 0) (v := .slice (some ⟨bl, ol, none⟩) len lc) rfl (by kernel_rfl) (by kernel_rfl) (by kernel_rfl) (fun _ _ _ h => h) (Or.inl ⟨by rfl, fun w hw => by clear hw; go_simp⟩) hHeld ?_
                    try simp only [Act.put, List.setIfInBounds_toArray, List.set_cons_zero, List.set_cons_succ, List.getElem_toArray, List.getElem_cons_zero, List.getElem_cons_succ]
                    refine wpAnyH_take (i := 1) (v := .int .i64 (jj : Int)) rfl (by kernel_rfl) (by kernel_rfl) (by kernel_rfl) (fun _ _ _ h => h) (Or.inl ⟨by rfl, fun w hw => by clear hw; go_simp⟩) hHeld ?_
                    try simp only [Act.put, List.setIfInBounds_toArray, List.set_cons_zero, List.set_cons_succ, List.getElem_toArray, List.getElem_cons_zero, List.getElem_cons_succ]
                    refine wpAnyH_take (i := 2) (v := .pointer (some ⟨bl, ol + jj * 2, none⟩)) rfl (by kernel_rfl) (by kernel_rfl) (by kernel_rfl) (fun _ _ _ h => h) (Or.inl ⟨by rfl, fun w hw => by clear hw; go_simp⟩) hHeld ?_
                    try simp only [Act.put, List.setIfInBounds_toArray, List.set_cons_zero, List.set_cons_succ, List.getElem_toArray, List.getElem_cons_zero, List.getElem_cons_succ]
                    refine wpAnyH_take (i := 3) (v := .pointer (some ⟨bl, ol + jj * 2, none⟩)) rfl (by kernel_rfl) (by kernel_rfl) (by kernel_rfl) (fun _ _ _ h => h) (Or.inl ⟨by rfl, fun w hw => by clear hw; go_simp⟩) hHeld ?_
                    try simp only [Act.put, List.setIfInBounds_toArray, List.set_cons_zero, List.set_cons_succ, List.getElem_toArray, List.getElem_cons_zero, List.getElem_cons_succ]
                    refine wpAnyH_take (i := 4) (v := .int .i64 p1) rfl (by kernel_rfl) (by kernel_rfl) (by kernel_rfl) (fun _ _ _ h => h) (Or.inl ⟨by rfl, fun w' hw => by have q0 := hw.cell XX.out.1 (by simp); clear hw; go_simp⟩) hHeld ?_
                    try simp only [Act.put, List.setIfInBounds_toArray, List.set_cons_zero, List.set_cons_succ, List.getElem_toArray, List.getElem_cons_zero, List.getElem_cons_succ]
                    refine wpAnyH_take (i := 5) (v := .slice (some ⟨bl, ol, none⟩) len lc) rfl (by kernel_rfl) (by kernel_rfl) (by kernel_rfl) (fun _ _ _ h => h) (Or.inl ⟨by rfl, fun w hw => by clear hw; go_simp⟩) hHeld ?_
                    try simp only [Act.put, List.setIfInBounds_toArray, List.set_cons_zero, List.set_cons_succ, List.getElem_toArray, List.getElem_cons_zero, List.getElem_cons_succ]
                    refine wpAnyH_take (i := 6) (v := .int .i64 (kk : Int)) rfl (by kernel_rfl) (by kernel_rfl) (by kernel_rfl) (fun _ _ _ h => h) (Or.inl ⟨by rfl, fun w hw => by clear hw; go_simp⟩) hHeld ?_
                    try simp only [Act.put, List.setIfInBounds_toArray, List.set_cons_zero, List.set_cons_succ, List.getElem_toArray, List.getElem_cons_zero, List.getElem_cons_succ]
                    refine wpAnyH_take (i := 7) (v := .pointer (some ⟨bl, ol + kk * 2, none⟩)) rfl (by kernel_rfl) (by kernel_rfl) (by kernel_rfl) (fun _ _ _ h => h) (Or.inl ⟨by rfl, fun w hw => by clear hw; go_simp⟩) hHeld ?_
                    try simp only [Act.put, List.setIfInBounds_toArray, List.set_cons_zero, List.set_cons_succ, List.getElem_toArray, List.getElem_cons_zero, List.getElem_cons_succ]
                    refine wpAnyH_take (i := 8) (v := .pointer (some ⟨bl, ol + kk * 2, none⟩)) rfl (by kernel_rfl) (by kernel_rfl) (by kernel_rfl) (fun _ _ _ h => h) (Or.inl ⟨by rfl, fun w hw => by clear hw; go_simp⟩) hHeld ?_
                    try simp only [Act.put, List.setIfInBounds_toArray, List.set_cons_zero, List.set_cons_succ, List.getElem_toArray, List.getElem_cons_zero, List.getElem_cons_succ]
                    refine wpAnyH_take (i := 9) (v := .int .i64 q1) rfl (by kernel_rfl) (by kernel_rfl) (by kernel_rfl) (fun _ _ _ h => h) (Or.inl ⟨by rfl, fun w' hw => by have q0 := hw.cell XX.out.2 (by simp); clear hw; go_simp⟩) hHeld ?_
                    try simp only [Act.put, List.setIfInBounds_toArray, List.set_cons_zero, List.set_cons_succ, List.getElem_toArray, List.getElem_cons_zero, List.getElem_cons_succ]
                    refine wpAnyH_take (i := 10) (v := .bool false) rfl (by kernel_rfl) (by kernel_rfl) (by kernel_rfl) (fun _ _ _ h => h) (Or.inl ⟨by rfl, fun w hw => by clear hw; go_simp⟩) hHeld ?_
                    try simp only [Act.put, List.setIfInBounds_toArray, List.set_cons_zero, List.set_cons_succ, List.getElem_toArray, List.getElem_cons_zero, List.getElem_cons_succ]
                    refine wpAnyH_done (by kernel_rfl) ?_ _
                    have HGX := Lib.hid (g_trans HGJ.out hHeld)
                    clear hHeld
                    go_wp2_with fail
                    go_roundw
                    case rel => exact ⟨jj + 1, by go_num, by omega, HGX.out⟩
                    case measure => simp [intOf]; omega
                  · obtain rfl : jj = kk := by omega
                    have hjj2 : ¬ (jj : Int) < jj := by omega
                    have HGJ := Lib.hid hgj
                    clear hgj
                    go_wp2_with fail
                    go_roundw
                    case rel => exact ⟨jj + 1, by go_num, by omega, HGJ.out⟩
                    case measure => simp [intOf]; omega
              · obtain rfl : kk = L.length := by omega
                have HGK := Lib.hid hgk
                clear hgk
                go_wp2_with fail
                go_roundw
                case rel => exact ⟨j + 1, L, by go_num, by omega, HRA.out.keep HGK.out, hl5, g_trans GA.out HGK.out⟩
                case measure => simp [intOf]; omega
          · go_wp2_with fail
            refine HLE2.out.mono ?_
            rintro e wL ⟨rfl, rfl⟩
            go_wp2_with fail
            refine HAL.out.mono ?_
            rintro e wA ⟨lv, rfl, how, ga⟩
            obtain ⟨lo, lc, rfl, hls, -⟩ := srow_of_own how
            have HLS := Lib.hid hls
            have GA := Lib.hid (g_trans G9.out ga)
            have HRA := Lib.hid (HR9.out.keep ga)
            clear how hls ga
            go_wp2_with fail
            go_loopw [16] (fun q wr2 => ∃ kk : Nat, q = .int .i64 kk ∧ kk ≤ L.length ∧ wA.grownBy wr2 none) (fun q _ => (L.length - intOf q).toNat)
            case atStart => exact ⟨0, rfl, Nat.zero_le _, g_refl _ _⟩
            case round =>
              obtain ⟨kk, rfl, hkk, hgk⟩ := hrel
              obtain ⟨wp_, hwp⟩ : ∃ wp_ : World, wp_ = wr := ⟨_, rfl⟩
              subst hwp
              by_cases hlk : kk < L.length
              · have hki : (kk : Int) < L.length := by omega
                have hkn : ¬ (L.length : Int) ≤ kk := by omega
                have HGK := Lib.hid hgk
                clear hgk
                obtain ⟨len, hlen2⟩ : ∃ len, L.length = len := ⟨_, rfl⟩
                have HLEN := Lib.hid hlen2
                go_wp2_with fail
                go_loopw [17] (fun q wr3 => ∃ jj : Nat, q = .int .i64 jj ∧ jj ≤ kk ∧ wA.grownBy wr3 none) (fun q _ => (kk - intOf q).toNat)
                case atStart => exact ⟨0, rfl, Nat.zero_le _, HGK.out⟩
                case round =>
                  obtain ⟨jj, rfl, hjk, hgj⟩ := hrel
                  by_cases hlj : jj < kk
                  · have hjki : (jj : Int) < kk := by omega
                    have hjn : ¬ (len : Int) ≤ jj := by omega
                    have hkn2 : ¬ (len : Int) ≤ kk := by omega
                    have hjn3 : ¬ len ≤ jj := by omega
                    have hkn3 : ¬ len ≤ kk := by omega
                    obtain ⟨p, hp⟩ : ∃ p, L[jj]? = some p := ⟨L[jj], List.getElem?_eq_getElem (by omega)⟩
                    obtain ⟨q, hq⟩ : ∃ q, L[kk]? = some q := ⟨L[kk], List.getElem?_eq_getElem (by omega)⟩
                    have hpq : ¬ p.1 = q.1 := by
                      obtain ⟨a1, a2⟩ := List.getElem?_eq_some_iff.1 hp
                      obtain ⟨b1, b2⟩ := List.getElem?_eq_some_iff.1 hq
                      rw [← a2, ← b2]
                      exact List.pairwise_iff_getElem.1 HDL.out.1 jj kk a1 b1 hlj
                    obtain ⟨bl, ol, rfl, x0, -⟩ := HLS.out.keep hgj jj p hp
                    obtain ⟨bl', ol', hbo', u0, -⟩ := HLS.out.keep hgj kk q hq
                    cases hbo'
                    have XX := Lib.hid (And.intro x0 u0)
                    have HGJ := Lib.hid hgj
                    obtain ⟨p1, p2⟩ := p
                    obtain ⟨q1, q2⟩ := q
                    simp only at hpq XX
                    have epq : (p1 == q1) = false := by simp [hpq]
                    clear hp hq x0 u0 hgj
                    rw [hlen2] at *
                    go_upto_region 21 with fail
                    refine wp_region_held_drew (S := fun W' => wr.grownBy W' none) (by kernel_rfl) (g_drew (g_refl _ _)) (fun hHeld => ?_)
                    refine wpAnyH_take (i := 0) (v := .slice (some ⟨bl, ol, none⟩) len lc) rfl (by kernel_rfl) (by kernel_rfl) (by kernel_rfl) (fun _ _ _ h => h) (Or.inl ⟨by rfl, fun w hw => by clear hw; go_simp⟩) hHeld ?_
                    try simp only [Act.put, List.setIfInBounds_toArray, List.set_cons_zero, List.set_cons_succ, List.getElem_toArray, List.getElem_cons_zero, List.getElem_cons_succ]
                    refine wpAnyH_take (i := 1) (v := .int .i64 (jj : Int)) rfl (by kernel_rfl) (by kernel_rfl) (by kernel_rfl) (fun _ _ _ h => h) (Or.inl ⟨by rfl, fun w hw => by clear hw; go_simp⟩) hHeld ?_
                    try simp only [Act.put, List.setIfInBounds_toArray, List.set_cons_zero, List.set_cons_succ, List.getElem_toArray, List.getElem_cons_zero, List.getElem_cons_succ]
                    refine wpAnyH_take (i := 2) (v := .pointer (some ⟨bl, ol + jj * 2, none⟩)) rfl (by kernel_rfl) (by kernel_rfl) (by kernel_rfl) (fun _ _ _ h => h) (Or.inl ⟨by rfl, fun w hw => by clear hw; go_simp⟩) hHeld ?_
                    try simp only [Act.put, List.setIfInBounds_toArray, List.set_cons_zero, List.set_cons_succ, List.getElem_toArray, List.getElem_cons_zero, List.getElem_cons_succ]
                    refine wpAnyH_take (i := 3) (v := .pointer (some ⟨bl, ol + jj * 2, none⟩)) rfl (by kernel_rfl) (by kernel_rfl) (by kernel_rfl) (fun _ _ _ h => h) (Or.inl ⟨by rfl, fun w hw => by clear hw; go_simp⟩) hHeld ?_
                    try simp only [Act.put, List.setIfInBounds_toArray, List.set_cons_zero, List.set_cons_succ, List.getElem_toArray, List.getElem_cons_zero, List.getElem_cons_succ]
                    refine wpAnyH_take (i := 4) (v := .int .i64 p1) rfl (by kernel_rfl) (by kernel_rfl) (by kernel_rfl) (fun _ _ _ h => h) (Or.inl ⟨by rfl, fun w' hw => by have q0 := hw.cell XX.out.1 (by simp); clear hw; go_simp⟩) hHeld ?_
                    try simp only [Act.put, List.setIfInBounds_toArray, List.set_cons_zero, List.set_cons_succ, List.getElem_toArray, List.getElem_cons_zero, List.getElem_cons_succ]
                    refine wpAnyH_take (i := 5) (v := .slice (some ⟨bl, ol, none⟩) len lc) rfl (by kernel_rfl) (by kernel_rfl) (by kernel_rfl) (fun _ _ _ h => h) (Or.inl ⟨by rfl, fun w hw => by clear hw; go_simp⟩) hHeld ?_
                    try simp only [Act.put, List.setIfInBounds_toArray, List.set_cons_zero, List.set_cons_succ, List.getElem_toArray, List.getElem_cons_zero, List.getElem_cons_succ]
                    refine wpAnyH_take (i := 6) (v := .int .i64 (kk : Int)) rfl (by kernel_rfl) (by kernel_rfl) (by kernel_rfl) (fun _ _ _ h => h) (Or.inl ⟨by rfl, fun w hw => by clear hw; go_simp⟩) hHeld ?_
                    try simp only [Act.put, List.setIfInBounds_toArray, List.set_cons_zero, List.set_cons_succ, List.getElem_toArray, List.getElem_cons_zero, List.getElem_cons_succ]
                    refine wpAnyH_take (i := 7) (v := .pointer (some ⟨bl, ol + kk * 2, none⟩)) rfl (by kernel_rfl) (by kernel_rfl) (by kernel_rfl) (fun _ _ _ h => h) (Or.inl ⟨by rfl, fun w hw => by clear hw; go_simp⟩) hHeld ?_
                    try simp only [Act.put, List.setIfInBounds_toArray, List.set_cons_zero, List.set_cons_succ, List.getElem_toArray, List.getElem_cons_zero, List.getElem_cons_succ]
                    refine wpAnyH_take (i := 8) (v := .pointer (some ⟨bl, ol + kk * 2, none⟩)) rfl (by kernel_rfl) (by kernel_rfl) (by kernel_rfl) (fun _ _ _ h => h) (Or.inl ⟨by rfl, fun w hw => by clear hw; go_simp⟩) hHeld ?_
                    try simp only [Act.put, List.setIfInBounds_toArray, List.set_cons_zero, List.set_cons_succ, List.getElem_toArray, List.getElem_cons_zero, List.getElem_cons_succ]
                    refine wpAnyH_take (i := 9) (v := .int .i64 q1) rfl (by kernel_rfl) (by kernel_rfl) (by kernel_rfl) (fun _ _ _ h => h) (Or.inl ⟨by rfl, fun w' hw => by have q0 := hw.cell XX.out.2 (by simp); clear hw; go_simp⟩) hHeld ?_
                    try simp only [Act.put, List.setIfInBounds_toArray, List.set_cons_zero, List.set_cons_succ, List.getElem_toArray, List.getElem_cons_zero, List.getElem_cons_succ]
                    refine wpAnyH_take (i := 10) (v := .bool false) rfl (by kernel_rfl) (by kernel_rfl) (by kernel_rfl) (fun _ _ _ h => h) (Or.inl ⟨by rfl, fun w hw => by clear hw; go_simp⟩) hHeld ?_
                    try simp only [Act.put, List.setIfInBounds_toArray, List.set_cons_zero, List.set_cons_succ, List.getElem_toArray, List.getElem_cons_zero, List.getElem_cons_succ]
                    refine wpAnyH_done (by kernel_rfl) ?_ _
                    have HGX := Lib.hid (g_trans HGJ.out hHeld)
                    clear hHeld
                    go_wp2_with fail
                    go_roundw
                    case rel => exact ⟨jj + 1, by go_num, by omega, HGX.out⟩
                    case measure => simp [intOf]; omega
                  · obtain rfl : jj = kk := by omega
                    have hjj2 : ¬ (jj : Int) < jj := by omega
                    have HGJ := Lib.hid hgj
                    clear hgj
                    go_wp2_with fail
                    go_roundw
                    case rel => exact ⟨jj + 1, by go_num, by omega, HGJ.out⟩
                    case measure => simp [intOf]; omega
              · obtain rfl : kk = L.length := by omega
                have HGK := Lib.hid hgk
                clear hgk
                go_wp2_with fail
                go_roundw
                case rel => exact ⟨j + 1, L, by go_num, by omega, HRA.out.keep HGK.out, hl5, g_trans GA.out HGK.out⟩
                case measure => simp [intOf]; omega
      · obtain rfl : hp = (0, false) := HHP.out.symm.trans hh
        rw [ha] at HAD
        have H2 := Lib.hid hh2
        have hl5 : (L ++ [(k, v)]).length ≤ n := by simp; omega
        have hfe : ¬ (L.length : Int) = n := by omega
        generalize L ++ [(k, v)] = L2 at *
        have hlen : ¬ (n : Int) < L2.length := by omega
        have HDL := Lib.hid hd2
        clear hh ha hh2 hd2
        go_upto_region 10 with fail
        refine wp_region_held_drew (S := fun W' => Tr (fun i => w.heap.size ≤ i) w3' W') (by kernel_rfl) (tr_g (g_drew (g_refl w3' none)) _) (fun hHeld => ?_)
        refine wpAnyH_take (i := 0) (v := .pointer (some ⟨b, 0, none⟩)) rfl (by kernel_rfl) (by kernel_rfl) (by kernel_rfl) (fun _ _ _ h => h) (Or.inl ⟨by rfl, fun w hw => by clear hw; go_simp⟩) hHeld ?_
        try simp only [Act.put, List.setIfInBounds_toArray, List.set_cons_zero, List.set_cons_succ, List.getElem_toArray, List.getElem_cons_zero, List.getElem_cons_succ]
        refine wpAnyH_take (i := 1) (v := .slice (some ⟨bo, oo, none⟩) a1n a1c) rfl (by kernel_rfl) (by kernel_rfl) (by kernel_rfl) (fun _ _ _ h => h) (Or.inl ⟨by rfl, fun w hw => by clear hw; go_simp⟩) hHeld ?_
        try simp only [Act.put, List.setIfInBounds_toArray, List.set_cons_zero, List.set_cons_succ, List.getElem_toArray, List.getElem_cons_zero, List.getElem_cons_succ]
        refine wpAnyH_take (i := 2) (v := .int .i64 (j : Int)) rfl (by kernel_rfl) (by kernel_rfl) (by kernel_rfl) (fun _ _ _ h => h) (Or.inl ⟨by rfl, fun w hw => by clear hw; go_simp⟩) hHeld ?_
        try simp only [Act.put, List.setIfInBounds_toArray, List.set_cons_zero, List.set_cons_succ, List.getElem_toArray, List.getElem_cons_zero, List.getElem_cons_succ]
        refine wpAnyH_take (i := 3) (v := .pointer (some ⟨bo, oo + j * 3, none⟩)) rfl (by kernel_rfl) (by kernel_rfl) (by kernel_rfl) (fun _ _ _ h => h) (Or.inl ⟨by rfl, fun w hw => by clear hw; go_simp⟩) hHeld ?_
        try simp only [Act.put, List.setIfInBounds_toArray, List.set_cons_zero, List.set_cons_succ, List.getElem_toArray, List.getElem_cons_zero, List.getElem_cons_succ]
        refine wpAnyH_take (i := 4) (v := .pointer (some ⟨bo, oo + j * 3 + 1, none⟩)) rfl (by kernel_rfl) (by kernel_rfl) (by kernel_rfl) (fun _ _ _ h => h) (Or.inl ⟨by rfl, fun w hw => by clear hw; go_simp⟩) hHeld ?_
        try simp only [Act.put, List.setIfInBounds_toArray, List.set_cons_zero, List.set_cons_succ, List.getElem_toArray, List.getElem_cons_zero, List.getElem_cons_succ]
        refine wpAnyH_take (i := 5) (v := .int .i64 k) rfl (by kernel_rfl) (by kernel_rfl) (by kernel_rfl) (fun _ _ _ h => h) (Or.inl ⟨by rfl, fun w' hw => by have q0 := Tr.cell hw Z.out.1 (by omega); clear hw; go_simp⟩) hHeld ?_
        try simp only [Act.put, List.setIfInBounds_toArray, List.set_cons_zero, List.set_cons_succ, List.getElem_toArray, List.getElem_cons_zero, List.getElem_cons_succ]
        refine wpAnyH_take (i := 6) (v := .slice (some ⟨bo, oo, none⟩) a1n a1c) rfl (by kernel_rfl) (by kernel_rfl) (by kernel_rfl) (fun _ _ _ h => h) (Or.inl ⟨by rfl, fun w hw => by clear hw; go_simp⟩) hHeld ?_
        try simp only [Act.put, List.setIfInBounds_toArray, List.set_cons_zero, List.set_cons_succ, List.getElem_toArray, List.getElem_cons_zero, List.getElem_cons_succ]
        refine wpAnyH_take (i := 7) (v := .int .i64 (j : Int)) rfl (by kernel_rfl) (by kernel_rfl) (by kernel_rfl) (fun _ _ _ h => h) (Or.inl ⟨by rfl, fun w hw => by clear hw; go_simp⟩) hHeld ?_
        try simp only [Act.put, List.setIfInBounds_toArray, List.set_cons_zero, List.set_cons_succ, List.getElem_toArray, List.getElem_cons_zero, List.getElem_cons_succ]
        refine wpAnyH_take (i := 8) (v := .pointer (some ⟨bo, oo + j * 3, none⟩)) rfl (by kernel_rfl) (by kernel_rfl) (by kernel_rfl) (fun _ _ _ h => h) (Or.inl ⟨by rfl, fun w hw => by clear hw; go_simp⟩) hHeld ?_
        try simp only [Act.put, List.setIfInBounds_toArray, List.set_cons_zero, List.set_cons_succ, List.getElem_toArray, List.getElem_cons_zero, List.getElem_cons_succ]
        refine wpAnyH_take (i := 9) (v := .pointer (some ⟨bo, oo + j * 3 + 2, none⟩)) rfl (by kernel_rfl) (by kernel_rfl) (by kernel_rfl) (fun _ _ _ h => h) (Or.inl ⟨by rfl, fun w hw => by clear hw; go_simp⟩) hHeld ?_
        try simp only [Act.put, List.setIfInBounds_toArray, List.set_cons_zero, List.set_cons_succ, List.getElem_toArray, List.getElem_cons_zero, List.getElem_cons_succ]
        refine wpAnyH_take (i := 10) (v := .int .i64 v) rfl (by kernel_rfl) (by kernel_rfl) (by kernel_rfl) (fun _ _ _ h => h) (Or.inl ⟨by rfl, fun w' hw => by have q0 := Tr.cell hw Z.out.2 (by omega); clear hw; go_simp⟩) hHeld ?_
        try simp only [Act.put, List.setIfInBounds_toArray, List.set_cons_zero, List.set_cons_succ, List.getElem_toArray, List.getElem_cons_zero, List.getElem_cons_succ]
        refine wpAnyH_ready (rs := [11]) (by kernel_rfl) (by simp) (AllReadyH.cons rfl (fun K hK => ?_) (AllReadyH.nil))
        · go_simp
          refine Calls.mono HAD.out ?_
          rintro e w9 ⟨rfl, hr9, ht9⟩
          try go_wp2_with fail
          refine hK.out _ _ (tr_trans hHeld ht9 (fun i _ e => e)) (fun hHeld => ?_)
          clear hK K
          try simp only [Act.put, List.setIfInBounds_toArray, List.set_cons_zero, List.set_cons_succ, List.getElem_toArray, List.getElem_cons_zero, List.getElem_cons_succ]
          refine wpAnyH_take (i := 12) (v := .int .i64 0) rfl (by kernel_rfl) (by kernel_rfl) (by kernel_rfl) (fun _ _ _ h => h) (Or.inl ⟨by rfl, fun w hw => by clear hw; go_simp⟩) hHeld ?_
          try simp only [Act.put, List.setIfInBounds_toArray, List.set_cons_zero, List.set_cons_succ, List.getElem_toArray, List.getElem_cons_zero, List.getElem_cons_succ]
          refine wpAnyH_done (by kernel_rfl) ?_ _
          have HR9 := Lib.hid hr9
          have G9 := Lib.hid ((tr_trans (tr_g G3.out (fun i => w.heap.size ≤ i)) hHeld (fun i _ e => e)).g (fun i hi => by omega))
          have hw9 : w.heap.size ≤ w9.heap.size := G9.out.size
          have HH2 := Lib.hid (has_any (fun i => w.heap.size ≤ i) b n L2 k w9 HR9.out (by omega) (fun i hi => Nat.le_trans hw9 hi) hm hk)
          rw [H2.out] at HH2
          have z1 := G9.out.cell Y.out.1 (by simp)
          rw [show oo + (j * 3 + 1) = oo + j * 3 + 1 from by omega] at z1
          clear hr9 ht9 hHeld
          go_wp2_with fail
          refine HH2.out.mono ?_
          rintro e wH ⟨rfl, hrH, htH⟩
          have HR9 := Lib.hid hrH
          have G9 := Lib.hid ((tr_trans (tr_g G9.out (fun i => w.heap.size ≤ i)) htH (fun i _ e => e)).g (fun i hi => by omega))
          have HLE2 := Lib.hid (len_any _ b n L2 wH hrH hm)
          have HAL := Lib.hid (all_any _ b n L2 wH hrH hm (by omega))
          have z2 := G9.out.cell Y.out.2 (by simp)
          rw [show oo + (j * 3 + 2) = oo + j * 3 + 2 from by omega] at z2
          clear hrH htH z1
          go_wp2_with fail
          refine HLE2.out.mono ?_
          rintro e wL ⟨rfl, rfl⟩
          go_wp2_with fail
          refine HAL.out.mono ?_
          rintro e wA ⟨lv, rfl, how, ga⟩
          obtain ⟨lo, lc, rfl, hls, -⟩ := srow_of_own how
          have HLS := Lib.hid hls
          have GA := Lib.hid (g_trans G9.out ga)
          have HRA := Lib.hid (HR9.out.keep ga)
          clear how hls ga
          go_wp2_with fail
          go_loopw [16] (fun q wr2 => ∃ kk : Nat, q = .int .i64 kk ∧ kk ≤ L2.length ∧ wA.grownBy wr2 none) (fun q _ => (L2.length - intOf q).toNat)
          case atStart => exact ⟨0, rfl, Nat.zero_le _, g_refl _ _⟩
          case round =>
            obtain ⟨kk, rfl, hkk, hgk⟩ := hrel
            obtain ⟨wp_, hwp⟩ : ∃ wp_ : World, wp_ = wr := ⟨_, rfl⟩
            subst hwp
            by_cases hlk : kk < L2.length
            · have hki : (kk : Int) < L2.length := by omega
              have hkn : ¬ (L2.length : Int) ≤ kk := by omega
              have HGK := Lib.hid hgk
              clear hgk
              obtain ⟨len, hlen2⟩ : ∃ len, L2.length = len := ⟨_, rfl⟩
              have HLEN := Lib.hid hlen2
              go_wp2_with fail
              go_loopw [17] (fun q wr3 => ∃ jj : Nat, q = .int .i64 jj ∧ jj ≤ kk ∧ wA.grownBy wr3 none) (fun q _ => (kk - intOf q).toNat)
              case atStart => exact ⟨0, rfl, Nat.zero_le _, HGK.out⟩
              case round =>
                obtain ⟨jj, rfl, hjk, hgj⟩ := hrel
                by_cases hlj : jj < kk
                · have hjki : (jj : Int) < kk := by omega
                  have hjn : ¬ (len : Int) ≤ jj := by omega
                  have hkn2 : ¬ (len : Int) ≤ kk := by omega
                  have hjn3 : ¬ len ≤ jj := by omega
                  have hkn3 : ¬ len ≤ kk := by omega
                  obtain ⟨p, hp⟩ : ∃ p, L2[jj]? = some p := ⟨L2[jj], List.getElem?_eq_getElem (by omega)⟩
                  obtain ⟨q, hq⟩ : ∃ q, L2[kk]? = some q := ⟨L2[kk], List.getElem?_eq_getElem (by omega)⟩
                  have hpq : ¬ p.1 = q.1 := by
                    obtain ⟨a1, a2⟩ := List.getElem?_eq_some_iff.1 hp
                    obtain ⟨b1, b2⟩ := List.getElem?_eq_some_iff.1 hq
                    rw [← a2, ← b2]
                    exact List.pairwise_iff_getElem.1 HDL.out.1 jj kk a1 b1 hlj
                  obtain ⟨bl, ol, rfl, x0, -⟩ := HLS.out.keep hgj jj p hp
                  obtain ⟨bl', ol', hbo', u0, -⟩ := HLS.out.keep hgj kk q hq
                  cases hbo'
                  have XX := Lib.hid (And.intro x0 u0)
                  have HGJ := Lib.hid hgj
                  obtain ⟨p1, p2⟩ := p
                  obtain ⟨q1, q2⟩ := q
                  simp only at hpq XX
                  have epq : (p1 == q1) = false := by simp [hpq]
                  clear hp hq x0 u0 hgj
                  rw [hlen2] at *
                  go_upto_region 21 with fail
                  refine wp_region_held_drew (S := fun W' => wr.grownBy W' none) (by kernel_rfl) (g_drew (g_refl _ _)) (fun hHeld => ?_)
                  refine wpAnyH_take (i := 0) (v := .slice (some ⟨bl, ol, none⟩) len lc) rfl (by kernel_rfl) (by kernel_rfl) (by kernel_rfl) (fun _ _ _ h => h) (Or.inl ⟨by rfl, fun w hw => by clear hw; go_simp⟩) hHeld ?_
                  try simp only [Act.put, List.setIfInBounds_toArray, List.set_cons_zero, List.set_cons_succ, List.getElem_toArray, List.getElem_cons_zero, List.getElem_cons_succ]
                  refine wpAnyH_take (i := 1) (v := .int .i64 (jj : Int)) rfl (by kernel_rfl) (by kernel_rfl) (by kernel_rfl) (fun _ _ _ h => h) (Or.inl ⟨by rfl, fun w hw => by clear hw; go_simp⟩) hHeld ?_
                  try simp only [Act.put, List.setIfInBounds_toArray, List.set_cons_zero, List.set_cons_succ, List.getElem_toArray, List.getElem_cons_zero, List.getElem_cons_succ]
                  refine wpAnyH_take (i := 2) (v := .pointer (some ⟨bl, ol + jj * 2, none⟩)) rfl (by kernel_rfl) (by kernel_rfl) (by kernel_rfl) (fun _ _ _ h => h) (Or.inl ⟨by rfl, fun w hw => by clear hw; go_simp⟩) hHeld ?_
                  try simp only [Act.put, List.setIfInBounds_toArray, List.set_cons_zero, List.set_cons_succ, List.getElem_toArray, List.getElem_cons_zero, List.getElem_cons_succ]
                  refine wpAnyH_take (i := 3) (v := .pointer (some ⟨bl, ol + jj * 2, none⟩)) rfl (by kernel_rfl) (by kernel_rfl) (by kernel_rfl) (fun _ _ _ h => h) (Or.inl ⟨by rfl, fun w hw => by clear hw; go_simp⟩) hHeld ?_
                  try simp only [Act.put, List.setIfInBounds_toArray, List.set_cons_zero, List.set_cons_succ, List.getElem_toArray, List.getElem_cons_zero, List.getElem_cons_succ]
                  refine wpAnyH_take (i := 4) (v := .int .i64 p1) rfl (by kernel_rfl) (by kernel_rfl) (by kernel_rfl) (fun _ _ _ h => h) (Or.inl ⟨by rfl, fun w' hw => by have q0 := hw.cell XX.out.1 (by simp); clear hw; go_simp⟩) hHeld ?_
                  try simp only [Act.put, List.setIfInBounds_toArray, List.set_cons_zero, List.set_cons_succ, List.getElem_toArray, List.getElem_cons_zero, List.getElem_cons_succ]
                  refine wpAnyH_take (i := 5) (v := .slice (some ⟨bl, ol, none⟩) len lc) rfl (by kernel_rfl) (by kernel_rfl) (by kernel_rfl) (fun _ _ _ h => h) (Or.inl ⟨by rfl, fun w hw => by clear hw; go_simp⟩) hHeld ?_
                  try simp only [Act.put, List.setIfInBounds_toArray, List.set_cons_zero, List.set_cons_succ, List.getElem_toArray, List.getElem_cons_zero, List.getElem_cons_succ]
                  refine wpAnyH_take (i := 6) (v := .int .i64 (kk : Int)) rfl (by kernel_rfl) (by kernel_rfl) (by kernel_rfl) (fun _ _ _ h => h) (Or.inl ⟨by rfl, fun w hw => by clear hw; go_simp⟩) hHeld ?_
                  try simp only [Act.put, List.setIfInBounds_toArray, List.set_cons_zero, List.set_cons_succ, List.getElem_toArray, List.getElem_cons_zero, List.getElem_cons_succ]
                  refine wpAnyH_take (i := 7) (v := .pointer (some ⟨bl, ol + kk * 2, none⟩)) rfl (by kernel_rfl) (by kernel_rfl) (by kernel_rfl) (fun _ _ _ h => h) (Or.inl ⟨by rfl, fun w hw => by clear hw; go_simp⟩) hHeld ?_
                  try simp only [Act.put, List.setIfInBounds_toArray, List.set_cons_zero, List.set_cons_succ, List.getElem_toArray, List.getElem_cons_zero, List.getElem_cons_succ]
                  refine wpAnyH_take (i := 8) (v := .pointer (some ⟨bl, ol + kk * 2, none⟩)) rfl (by kernel_rfl) (by kernel_rfl) (by kernel_rfl) (fun _ _ _ h => h) (Or.inl ⟨by rfl, fun w hw => by clear hw; go_simp⟩) hHeld ?_
                  try simp only [Act.put, List.setIfInBounds_toArray, List.set_cons_zero, List.set_cons_succ, List.getElem_toArray, List.getElem_cons_zero, List.getElem_cons_succ]
                  refine wpAnyH_take (i := 9) (v := .int .i64 q1) rfl (by kernel_rfl) (by kernel_rfl) (by kernel_rfl) (fun _ _ _ h => h) (Or.inl ⟨by rfl, fun w' hw => by have q0 := hw.cell XX.out.2 (by simp); clear hw; go_simp⟩) hHeld ?_
                  try simp only [Act.put, List.setIfInBounds_toArray, List.set_cons_zero, List.set_cons_succ, List.getElem_toArray, List.getElem_cons_zero, List.getElem_cons_succ]
                  refine wpAnyH_take (i := 10) (v := .bool false) rfl (by kernel_rfl) (by kernel_rfl) (by kernel_rfl) (fun _ _ _ h => h) (Or.inl ⟨by rfl, fun w hw => by clear hw; go_simp⟩) hHeld ?_
                  try simp only [Act.put, List.setIfInBounds_toArray, List.set_cons_zero, List.set_cons_succ, List.getElem_toArray, List.getElem_cons_zero, List.getElem_cons_succ]
                  refine wpAnyH_done (by kernel_rfl) ?_ _
                  have HGX := Lib.hid (g_trans HGJ.out hHeld)
                  clear hHeld
                  go_wp2_with fail
                  go_roundw
                  case rel => exact ⟨jj + 1, by go_num, by omega, HGX.out⟩
                  case measure => simp [intOf]; omega
                · obtain rfl : jj = kk := by omega
                  have hjj2 : ¬ (jj : Int) < jj := by omega
                  have HGJ := Lib.hid hgj
                  clear hgj
                  go_wp2_with fail
                  go_roundw
                  case rel => exact ⟨jj + 1, by go_num, by omega, HGJ.out⟩
                  case measure => simp [intOf]; omega
            · obtain rfl : kk = L2.length := by omega
              have HGK := Lib.hid hgk
              clear hgk
              go_wp2_with fail
              go_roundw
              case rel => exact ⟨j + 1, L2, by go_num, by omega, HRA.out.keep HGK.out, hl5, g_trans GA.out HGK.out⟩
              case measure => simp [intOf]; omega
    · have hcs : ¬ (j : Int) < a1n ∨ ((j : Int) < a1n ∧ ¬ (j : Int) < 80) := by omega
      have HG := Lib.hid hg
      clear hrs hg
      rcases hcs with h1 | ⟨h1, h2⟩
      all_goals
        go_wp2_with fail
        go_ret
        exact ⟨rfl, below_gn (Below.refl _ _) HG.out (Nat.le_refl _)⟩
end Go.Proofs.Ytbaocimmpiojeaa
