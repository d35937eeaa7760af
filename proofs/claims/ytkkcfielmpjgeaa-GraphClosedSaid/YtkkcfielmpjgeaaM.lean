/- THE WALK: GraphClosed. -/
import Derived.Test.YtkkcfielmpjgeaaL
namespace Go.Proofs.Ytkkcfielmpjgeaa
open Go.RowKit
set_option linter.unusedVariables false
set_option linter.unusedSimpArgs false

def shr (C : List VV) (o : OB) : OB := { o with state := if o.ref ∈ C then 2 else o.state }
theorem obj_shr (C : List VV) (Ls : List OB) (v : VV) : obj (Ls.map (shr C)) v = (obj Ls v).map (shr C) := by
  have e : fidx (Ls.map (shr C)) v = fidx Ls v := by
    unfold fidx
    rw [List.findIdx?_map]
    rfl
  unfold obj
  rw [e]
  cases fidx Ls v with
  | none => rfl
  | some i => simp
theorem shared_none {Ls : List OB} {v : VV} {C L : List VV} (h : Wlk (V Ls ip) (sc Ls) [] [v] C) (k : Wlk (V (Ls.map (shr C)) ip) (sc (Ls.map (shr C))) [] [v] L) : L = [] := by
  have hv : V (Ls.map (shr C)) ip v = false := by
    cases hq : V (Ls.map (shr C)) ip v with
    | false => rfl
    | true =>
      obtain ⟨o', _, h2, h3, h4, h5, h6⟩ := V_obj hq
      rw [obj_shr] at h3
      cases ho : obj Ls v with
      | none => rw [ho] at h3; cases h3
      | some o =>
        rw [ho] at h3
        simp only [Option.map_some, Option.some.injEq] at h3
        subst h3
        have hr := (obj_some ho).2
        by_cases hc : o.ref ∈ C
        · simp [ip, shr, hc] at h4
        · have hs : o.state = 1 := by simpa [ip, shr, hc] using h4
          have hV : V Ls ip v = true := by simp [V, ho, ip, hs, h5, h6]
          exact absurd (h.met v (by simp) hV) (by rw [← hr]; exact hc)
  exact k.det (.one_skip (.inl hv))
theorem shr_wf {C : List VV} {Ls : List OB} (h : ∀ o ∈ Ls, WO o) : ∀ o ∈ Ls.map (shr C), WO o := by
  intro o ho
  obtain ⟨o', h1, rfl⟩ := List.mem_map.1 ho
  exact h o' h1

set_option maxRecDepth 100000 in
set_option maxHeartbeats 12800000 in
theorem walk_GraphClosed (a0 : Option Addr) (a0n a0c : Nat) (a1_0 : Int) (a1_1 : Int) (w : World) (w0 : Vec w a0 a0n a0c 8 (Q33 w)) (w1_0 : (Lit.int .i64 a1_0).wf = true) (w1_1 : (Lit.int .i64 a1_1).wf = true) :
    Calls Try.prog 3 #[.slice a0 a0n a0c, .agg #[.int .i64 a1_0, .int .i64 a1_1]] w fun e w' => e = .returned (.bool true) ∧ Below w.heap.size w w' := by
  obtain ⟨i0, hi, hz0, hz1, hz2⟩ := info_parts info34
  obtain ⟨Ls, hll, hR, hW⟩ := vec_objs w0
  have HV : Hid (WV (a1_0, a1_1)) := Lib.hid ⟨w1_0, w1_1⟩
  have ga := g_alloc (g_refl w none) (.cells #[.int .i64 a1_0, .int .i64 a1_1] 25)
  have HB := Lib.hid (Blk.new w #[.int .i64 a1_0, .int .i64 a1_1] 25)
  have HG0 := Lib.hid ga
  have HFE := Lib.hid (few_any a0 a0n a0c Ls _ ((hR.keepn ga).mono ga.size) hll)
  obtain ⟨K, hK⟩ : ∃ K, fewP Ls = K := ⟨_, rfl⟩
  have HKW : Hid (∀ o ∈ K, WO o) := Lib.hid (by rw [← hK]; exact fewP_wf hW)
  have hK12 : K.length ≤ 12 := by rw [← hK]; exact fewP_length Ls
  rw [hK] at HFE
  clear w0 w1_0 w1_1 hR hW hll ga hK
  go_enter Try.func3, Try.ntmps3
  go_upto_region 1 with fail
  obtain ⟨x, hx⟩ : ∃ x, w.heap.size = x := ⟨_, rfl⟩
  rw [hx] at HB
  generalize w.alloc (.cells #[.int .i64 a1_0, .int .i64 a1_1] 25) = W at *
  go_wp2_with fail
  refine HFE.out.mono ?_
  rintro e w1 ⟨rv, cs, rfl, hrow, hcs, hok, g1⟩
  obtain ⟨ao, c, rfl, hor, hcl⟩ := orow_of_own hrow (fun x hx => ((hok x hx).keepn g1).mono g1.size)
  rw [hcs] at hor
  have HOR := Lib.hid hor
  have G1 := Lib.hid g1
  have x0 := (HB.out.keepn g1).cell 0 _ rfl
  have x1 := (HB.out.keepn g1).cell 1 _ rfl
  clear hrow hcs hok hor hcl g1
  obtain ⟨n, hn⟩ : ∃ n, K.length = n := ⟨_, rfl⟩
  rw [hn] at hK12 ⊢
  have HN := Lib.hid hn
  clear hn
  go_wp2_with fail
  refine (closure_any w1.heap.size ao n c K a1_0 a1_1 w1 HOR.out (Nat.le_refl _) HKW.out HN.out (by omega) HV.out).mono ?_
  rintro e w2 ⟨rv, C, rfl, hwc, hrow, hcl, g2⟩
  obtain ⟨co, cc, rfl, hsr, -⟩ := srow_of_own hrow
  have HWC := Lib.hid hwc
  have HSC := Lib.hid hsr
  have G2 := Lib.hid g2
  obtain ⟨cn, hcn⟩ : ∃ cn, C.length = cn := ⟨_, rfl⟩
  rw [hcn] at hcl ⊢
  have HCN := Lib.hid hcn
  clear hwc hrow hsr g2 hcn x0 x1
  have x0 := ((HB.out.keepn G1.out).keepn G2.out).cell 0 _ rfl
  have x1 := ((HB.out.keepn G1.out).keepn G2.out).cell 1 _ rfl
  have ga := g_alloc (g_refl w2 none) (.cells #[.int .i64 a1_0, .int .i64 a1_1] 25)
  have HS1 := Lib.hid (srow1 (Blk.new w2 #[.int .i64 a1_0, .int .i64 a1_1] 25))
  have G3 := Lib.hid (g_trans G2.out ga)
  clear ga
  go_wp2_with fail
  refine (reach_any w1.heap.size ao n c K (some ⟨w2.heap.size, 0, none⟩) 1 1 [(a1_0, a1_1)] _ (HOR.out.keepn G3.out) G3.out.size HKW.out HN.out (by omega) HS1.out rfl (by omega) (by intro v hv; simp at hv; subst hv; exact HV.out)).mono ?_
  rintro e w4 ⟨rv, M, rfl, hwm, hrow, hml, g4⟩
  obtain ⟨mo, mc, rfl, hsr, -⟩ := srow_of_own hrow
  have HCM : Hid (∀ x ∈ C, x ∈ M) := Lib.hid (closure_in_reach (fun o _ => rfl) HWC.out hwm)
  have HSM := Lib.hid hsr
  have G4 := Lib.hid (g_trans G3.out g4)
  have HSC4 : Hid (SRow w4 co C) := Lib.hid (HSC.out.keep (g_trans (g_alloc (g_refl w2 none) _) g4))
  have HOR4 := Lib.hid ((HOR.out.keepn G4.out).mono G4.out.size)
  have HB4 := Lib.hid ((HB.out.keepn G1.out).keepn G4.out)
  have GW4 := Lib.hid (g_trans HG0.out (g_trans G1.out G4.out))
  obtain ⟨mn, hmn⟩ : ∃ mn, M.length = mn := ⟨_, rfl⟩
  rw [hmn] at hml ⊢
  have HMN := Lib.hid hmn
  clear hwm hrow hsr g4 hmn x0 x1
  go_wp2_with fail
  clear HFE G1 G2 G3 G4 HS1 HSC HOR HB HG0
  go_loopw [7, 8] (fun s i wr => ∃ (j : Nat) (ks : List OX), i = .int .i64 j ∧ j ≤ n ∧ ks.map (·.1) = (K.take j).map (shr C) ∧ ks.length = j ∧ wr.ownsRow w4.heap.size 34 8 s j (ocl ks) ∧ (∀ x ∈ ks, OK w4 w4.heap.size x) ∧ w4.grownBy wr none) (fun _ i _ => (n - intOf i).toNat)
  case atStart => exact ⟨0, [], rfl, by omega, rfl, rfl, World.ownsRow_nil _ _ _ _, fun x h => (by cases h), g_refl _ _⟩
  case round =>
    obtain ⟨j, ks, rfl, hj, hks, hkl, hrw, hok, hg⟩ := hrel
    by_cases hlt : j < n
    · have hji : (j : Int) < n := by omega
      have hjj : ¬ (n : Int) ≤ j := by omega
      obtain ⟨o, hoj⟩ : ∃ o, K[j]? = some o := ⟨K[j]'(by rw [HN.out]; omega), List.getElem?_eq_getElem _⟩
      obtain ⟨b, off, fa, fc, rfl, hbl, z0, z1, z2, z3, z4, z5, z6, z7, -⟩ := (HOR4.out.keepn hg) j o hoj
      have HK0 : Hid (OK w4 w4.heap.size (o, fa, fc)) := Lib.hid (by
        obtain ⟨b', off', fa', fc', e1, _, _, _, _, _, _, _, _, e7, e8⟩ := HOR4.out j o hoj
        cases e1
        have q := hg.cell e7 (by simp)
        rw [z7] at q; cases q; exact e8)
      obtain ⟨sv, hsv⟩ : ∃ sv, u7 = sv := ⟨_, rfl⟩
      rw [hsv] at hrw ⊢
      clear hsv
      have ga := g_alloc (g_refl wr none) (.cells #[.int .i64 o.ref.1, .int .i64 o.ref.2, .int .i64 o.gen, .int .i64 o.fields, .int .i64 o.mask, .int .i64 o.state, .int .i64 o.owner, .slice fa o.F.length fc] 34)
      have HB0 := Lib.hid (Blk.new wr #[.int .i64 o.ref.1, .int .i64 o.ref.2, .int .i64 o.gen, .int .i64 o.fields, .int .i64 o.mask, .int .i64 o.state, .int .i64 o.owner, .slice fa o.F.length fc] 34)
      have HG0 := Lib.hid (g_trans hg ga)
      have HRW0 := Lib.hid (own_keepn hrw ga)
      have HOJ := Lib.hid hoj
      have HKS := Lib.hid (And.intro hks (And.intro hkl hok))
      have hsy : ∀ g, sv.ownBlock = some g → g ≠ wr.heap.size := fun g e => by have := (own_lt hrw e).2; omega
      have hy4 : w4.heap.size ≤ wr.heap.size := hg.size
      clear ga hoj hks hkl hok hrw hg
      obtain ⟨y, hy⟩ : ∃ y, wr.heap.size = y := ⟨_, rfl⟩
      rw [hy] at HB0 hsy hy4
      have HSY := Lib.hid hsy
      clear hsy
      go_upto_region 9 with fail
      clear z0 z1 z2 z3 z4 z5 z6 z7
      generalize wr.alloc (.cells #[.int .i64 o.ref.1, .int .i64 o.ref.2, .int .i64 o.gen, .int .i64 o.fields, .int .i64 o.mask, .int .i64 o.state, .int .i64 o.owner, .slice fa o.F.length fc] 34) = W0 at *
      clear hy
      go_wp2_with fail
      go_loopw [10] (fun i wr => ∃ q : Nat, i = .int .i64 q ∧ q ≤ cn ∧ Blk wr y #[.int .i64 o.ref.1, .int .i64 o.ref.2, .int .i64 o.gen, .int .i64 o.fields, .int .i64 o.mask, .int .i64 (if o.ref ∈ C.take q then 2 else o.state), .int .i64 o.owner, .slice fa o.F.length fc] 34 ∧ wr.ownsRow w4.heap.size 34 8 sv j (ocl ks) ∧ w4.grownBy wr none) (fun i _ => (cn - intOf i).toNat)
      case atStart => exact ⟨0, rfl, Nat.zero_le _, by simpa using HB0.out, HRW0.out, HG0.out⟩
      case round =>
        obtain ⟨q, rfl, hq, hb, hrw, hg⟩ := hrel
        by_cases hlt2 : q < cn
        · have hqi : (q : Int) < cn := by omega
          have hqq : ¬ (cn : Int) ≤ q := by omega
          obtain ⟨p, hpq⟩ : ∃ p, C[q]? = some p := ⟨C[q]'(by rw [HCN.out]; omega), List.getElem?_eq_getElem _⟩
          obtain ⟨cb, coff, rfl, y0, y1⟩ := HSC4.out.keep hg q p hpq
          obtain ⟨st, hst⟩ : ∃ st, (if o.ref ∈ C.take q then (2 : Int) else o.state) = st := ⟨_, rfl⟩
          rw [hst] at hb
          have HST := Lib.hid hst
          have HB := Lib.hid hb
          have HRW := Lib.hid hrw
          have HG := Lib.hid hg
          have HPQ : Hid (C.take (q + 1) = C.take q ++ [p]) := Lib.hid (by rw [List.take_add_one, hpq, Option.toList_some])
          obtain ⟨p1, p2⟩ := p
          have HPC := Lib.hid (And.intro y0 y1)
          simp only at HPC
          clear y0 y1 hpq hst hb hrw hg
          go_upto_region 12 with fail
          by_cases hpe : (p1, p2) = o.ref
          · obtain rfl : p1 = o.ref.1 := by rw [← hpe]
            obtain rfl : p2 = o.ref.2 := by rw [← hpe]
            refine wp_region_held_drew (S := fun W' => wr.grownBy W' none) (by kernel_rfl) (g_drew (g_refl _ _)) (fun hHeld => ?_)
            refine wpAnyH_take (i := 0) (v := .slice (some ⟨cb, coff, none⟩) cn cc) rfl (by kernel_rfl) (by kernel_rfl) (by kernel_rfl) (fun _ _ _ h => h) (Or.inl ⟨by rfl, fun w hw => by clear hw; go_simp⟩) hHeld ?_
            try simp only [Act.put, List.setIfInBounds_toArray, List.set_cons_zero, List.set_cons_succ, List.getElem_toArray, List.getElem_cons_zero, List.getElem_cons_succ]
            refine wpAnyH_take (i := 1) (v := .int .i64 (q : Int)) rfl (by kernel_rfl) (by kernel_rfl) (by kernel_rfl) (fun _ _ _ h => h) (Or.inl ⟨by rfl, fun w hw => by clear hw; go_simp⟩) hHeld ?_
            try simp only [Act.put, List.setIfInBounds_toArray, List.set_cons_zero, List.set_cons_succ, List.getElem_toArray, List.getElem_cons_zero, List.getElem_cons_succ]
            refine wpAnyH_take (i := 2) (v := .pointer (some ⟨cb, coff + q * 2, none⟩)) rfl (by kernel_rfl) (by kernel_rfl) (by kernel_rfl) (fun _ _ _ h => h) (Or.inl ⟨by rfl, fun w hw => by clear hw; go_simp⟩) hHeld ?_
            try simp only [Act.put, List.setIfInBounds_toArray, List.set_cons_zero, List.set_cons_succ, List.getElem_toArray, List.getElem_cons_zero, List.getElem_cons_succ]
            refine wpAnyH_take (i := 3) (v := .agg #[.int .i64 o.ref.1, .int .i64 o.ref.2]) rfl (by kernel_rfl) (by kernel_rfl) (by kernel_rfl) (fun _ _ _ h => h) (Or.inl ⟨by rfl, fun w hw => by have q0 := hw.cell HPC.out.1 (by simp); have q1 := hw.cell HPC.out.2 (by simp); clear hw; go_simp⟩) hHeld ?_
            try simp only [Act.put, List.setIfInBounds_toArray, List.set_cons_zero, List.set_cons_succ, List.getElem_toArray, List.getElem_cons_zero, List.getElem_cons_succ]
            refine wpAnyH_take (i := 4) (v := .pointer (some ⟨y, 0, none⟩)) rfl (by kernel_rfl) (by kernel_rfl) (by kernel_rfl) (fun _ _ _ h => h) (Or.inl ⟨by rfl, fun w hw => by clear hw; go_simp⟩) hHeld ?_
            try simp only [Act.put, List.setIfInBounds_toArray, List.set_cons_zero, List.set_cons_succ, List.getElem_toArray, List.getElem_cons_zero, List.getElem_cons_succ]
            refine wpAnyH_take (i := 5) (v := .agg #[.int .i64 o.ref.1, .int .i64 o.ref.2]) rfl (by kernel_rfl) (by kernel_rfl) (by kernel_rfl) (fun _ _ _ h => h) (Or.inl ⟨by rfl, fun w hw => by have q0 := hw.cell (HB.out.cell 0 _ rfl) (by simp); have q1 := hw.cell (HB.out.cell 1 _ rfl) (by simp); clear hw; go_simp⟩) hHeld ?_
            try simp only [Act.put, List.setIfInBounds_toArray, List.set_cons_zero, List.set_cons_succ, List.getElem_toArray, List.getElem_cons_zero, List.getElem_cons_succ]
            refine wpAnyH_take (i := 6) (v := .bool true) rfl (by kernel_rfl) (by kernel_rfl) (by kernel_rfl) (fun _ _ _ h => h) (Or.inl ⟨by rfl, fun w hw => by clear hw; go_simp⟩) hHeld ?_
            try simp only [Act.put, List.setIfInBounds_toArray, List.set_cons_zero, List.set_cons_succ, List.getElem_toArray, List.getElem_cons_zero, List.getElem_cons_succ]
            refine wpAnyH_done (by kernel_rfl) ?_ _
            have HGD := Lib.hid (g_drew (g_refl wr none))
            generalize wr.drew = wd at *
            have c5 := (HB.out.keepn HGD.out).cell 5 _ rfl
            have f5 := (HB.out.keepn HGD.out).free 5
            have gs := g_set (g_refl wd (some y)) (p := ⟨y, 5, none⟩) (.inl rfl) (.int .i64 2)
            have HBS : Hid (Blk (wd.setCell ⟨y, 5, none⟩ (.int .i64 2)) y #[.int .i64 o.ref.1, .int .i64 o.ref.2, .int .i64 o.gen, .int .i64 o.fields, .int .i64 o.mask, .int .i64 2, .int .i64 o.owner, .slice fa o.F.length fc] 34) := Lib.hid (by have h := (HB.out.keepn HGD.out).set 5 (.int .i64 2); simpa using h)
            have HGS := Lib.hid (g_in (g_trans HG.out HGD.out) gs hy4)
            have HRS := Lib.hid ((own_keepn HRW.out HGD.out).kept gs (.inr (fun e => HSY.out y e rfl)))
            clear hHeld gs
            go_wp2_with fail
            go_roundw
            case rel =>
              refine ⟨q + 1, by go_num, by omega, ?_, HRS.out, HGS.out⟩
              rw [HPQ.out, if_pos (by simp)]
              exact HBS.out
            case measure => simp [intOf]; omega

          · have HNE : Hid (¬ (p1 = o.ref.1 ∧ p2 = o.ref.2)) := Lib.hid (fun h => hpe (Prod.ext h.1 h.2))
            refine wp_region_held_drew (S := fun W' => wr.grownBy W' none) (by kernel_rfl) (g_drew (g_refl _ _)) (fun hHeld => ?_)
            refine wpAnyH_take (i := 0) (v := .slice (some ⟨cb, coff, none⟩) cn cc) rfl (by kernel_rfl) (by kernel_rfl) (by kernel_rfl) (fun _ _ _ h => h) (Or.inl ⟨by rfl, fun w hw => by clear hw; go_simp⟩) hHeld ?_
            try simp only [Act.put, List.setIfInBounds_toArray, List.set_cons_zero, List.set_cons_succ, List.getElem_toArray, List.getElem_cons_zero, List.getElem_cons_succ]
            refine wpAnyH_take (i := 1) (v := .int .i64 (q : Int)) rfl (by kernel_rfl) (by kernel_rfl) (by kernel_rfl) (fun _ _ _ h => h) (Or.inl ⟨by rfl, fun w hw => by clear hw; go_simp⟩) hHeld ?_
            try simp only [Act.put, List.setIfInBounds_toArray, List.set_cons_zero, List.set_cons_succ, List.getElem_toArray, List.getElem_cons_zero, List.getElem_cons_succ]
            refine wpAnyH_take (i := 2) (v := .pointer (some ⟨cb, coff + q * 2, none⟩)) rfl (by kernel_rfl) (by kernel_rfl) (by kernel_rfl) (fun _ _ _ h => h) (Or.inl ⟨by rfl, fun w hw => by clear hw; go_simp⟩) hHeld ?_
            try simp only [Act.put, List.setIfInBounds_toArray, List.set_cons_zero, List.set_cons_succ, List.getElem_toArray, List.getElem_cons_zero, List.getElem_cons_succ]
            refine wpAnyH_take (i := 3) (v := .agg #[.int .i64 p1, .int .i64 p2]) rfl (by kernel_rfl) (by kernel_rfl) (by kernel_rfl) (fun _ _ _ h => h) (Or.inl ⟨by rfl, fun w hw => by have q0 := hw.cell HPC.out.1 (by simp); have q1 := hw.cell HPC.out.2 (by simp); clear hw; go_simp⟩) hHeld ?_
            try simp only [Act.put, List.setIfInBounds_toArray, List.set_cons_zero, List.set_cons_succ, List.getElem_toArray, List.getElem_cons_zero, List.getElem_cons_succ]
            refine wpAnyH_take (i := 4) (v := .pointer (some ⟨y, 0, none⟩)) rfl (by kernel_rfl) (by kernel_rfl) (by kernel_rfl) (fun _ _ _ h => h) (Or.inl ⟨by rfl, fun w hw => by clear hw; go_simp⟩) hHeld ?_
            try simp only [Act.put, List.setIfInBounds_toArray, List.set_cons_zero, List.set_cons_succ, List.getElem_toArray, List.getElem_cons_zero, List.getElem_cons_succ]
            refine wpAnyH_take (i := 5) (v := .agg #[.int .i64 o.ref.1, .int .i64 o.ref.2]) rfl (by kernel_rfl) (by kernel_rfl) (by kernel_rfl) (fun _ _ _ h => h) (Or.inl ⟨by rfl, fun w hw => by have q0 := hw.cell (HB.out.cell 0 _ rfl) (by simp); have q1 := hw.cell (HB.out.cell 1 _ rfl) (by simp); clear hw; go_simp⟩) hHeld ?_
            try simp only [Act.put, List.setIfInBounds_toArray, List.set_cons_zero, List.set_cons_succ, List.getElem_toArray, List.getElem_cons_zero, List.getElem_cons_succ]
            refine wpAnyH_take (i := 6) (v := .bool false) rfl (by kernel_rfl) (by kernel_rfl) (by kernel_rfl) (fun _ _ _ h => h) (Or.inl ⟨by rfl, fun w hw => by clear hw; go_simp; by_cases h1 : p1 = o.ref.1 <;> by_cases h2 : p2 = o.ref.2 <;> first | (exact absurd (And.intro h1 h2) HNE.out) | simp [h1, h2]⟩) hHeld ?_
            try simp only [Act.put, List.setIfInBounds_toArray, List.set_cons_zero, List.set_cons_succ, List.getElem_toArray, List.getElem_cons_zero, List.getElem_cons_succ]
            refine wpAnyH_done (by kernel_rfl) ?_ _
            have HGD := Lib.hid (g_drew (g_refl wr none))
            generalize wr.drew = wd at *
            have HBS := Lib.hid (HB.out.keepn HGD.out)
            have HGS := Lib.hid (g_trans HG.out HGD.out)
            have HRS := Lib.hid (own_keepn HRW.out HGD.out)
            clear hHeld
            go_wp2_with fail
            go_roundw
            case rel =>
              refine ⟨q + 1, by go_num, by omega, ?_, HRS.out, HGS.out⟩
              have e : (if o.ref ∈ C.take (q + 1) then (2 : Int) else o.state) = st := by
                rw [← HST.out, HPQ.out]
                have h : ¬ o.ref = (p1, p2) := fun h => hpe h.symm
                simp only [List.mem_append, List.mem_singleton, h, or_false]
              rw [e]; exact HBS.out
            case measure => simp [intOf]; omega

        · obtain rfl : q = cn := by omega
          have hqq : ¬ (q : Int) < q := by omega
          rw [List.take_of_length_le (by rw [HCN.out]; exact Nat.le_refl _)] at hb
          obtain ⟨st, hst⟩ : ∃ st, (if o.ref ∈ C then (2 : Int) else o.state) = st := ⟨_, rfl⟩
          rw [hst] at hb
          have HB1 := Lib.hid hb
          have HRW1 := Lib.hid hrw
          have HG1 := Lib.hid hg
          have HOC : Hid (ocl [(shr C o, fa, fc)] = [.int .i64 o.ref.1, .int .i64 o.ref.2, .int .i64 o.gen, .int .i64 o.fields, .int .i64 o.mask, .int .i64 st, .int .i64 o.owner, .slice fa o.F.length fc]) := Lib.hid (by
            rw [← hst]; rfl)
          have HOK : Hid (OK w4 w4.heap.size (shr C o, fa, fc)) := HK0
          clear hb hrw hg hst HB0 HRW0 HG0 HK0
          obtain ⟨W1, hW1⟩ : ∃ W1 : World, W1 = wr := ⟨_, rfl⟩
          rw [← hW1] at HB1 HRW1 HG1 ⊢
          clear hW1
          have e0 := HB1.out.cell 0 (.int .i64 o.ref.1) rfl
          have e1 := HB1.out.cell 1 (.int .i64 o.ref.2) rfl
          have e2 := HB1.out.cell 2 (.int .i64 o.gen) rfl
          have e3 := HB1.out.cell 3 (.int .i64 o.fields) rfl
          have e4 := HB1.out.cell 4 (.int .i64 o.mask) rfl
          have e5 := HB1.out.cell 5 (.int .i64 st) rfl
          have e6 := HB1.out.cell 6 (.int .i64 o.owner) rfl
          have e7 := HB1.out.cell 7 (.slice fa o.F.length fc) rfl
          have HNW := Lib.hid (new_cells W1 [.int .i64 o.ref.1, .int .i64 o.ref.2, .int .i64 o.gen, .int .i64 o.fields, .int .i64 o.mask, .int .i64 st, .int .i64 o.owner, .slice fa o.F.length fc] 34)
          have hwW := HG1.out.size
          have ga := g_alloc (g_refl W1 none) (.cells #[.int .i64 o.ref.1, .int .i64 o.ref.2, .int .i64 o.gen, .int .i64 o.fields, .int .i64 o.mask, .int .i64 st, .int .i64 o.owner, .slice fa o.F.length fc] 34)
          have HRA := Lib.hid (own_keepn HRW1.out ga)
          have HGA := Lib.hid (g_trans HG1.out ga)
          clear ga
          go_wp2_with (at_builtin; refine wpList_append_lies _ rfl _ _ 22 rfl w4.heap.size 34 i0 (.agg #[.int .i64 0, .int .i64 0, .int .i64 0, .int .i64 0, .int .i64 0, .int .i64 0, .int .i64 0, .slice none 0 0]) 8 80 Try.underlying22 hi hz0 hz1 hz2 rfl (by decide) sv j (ocl ks) rfl HRA.out ⟨W1.heap.size, 0, none⟩ 1 1 [.int .i64 o.ref.1, .int .i64 o.ref.2, .int .i64 o.gen, .int .i64 o.fields, .int .i64 o.mask, .int .i64 st, .int .i64 o.owner, .slice fa o.F.length fc] rfl rfl HNW.out (by simp [Value.oneCell']) (by omega) (by unfold maxLen; omega) (by omega) (by simp; omega) (W1.heap.size + 1) (by simp) ?_; intro g cap w5 hown5 hgrow hat hlt5)
          have HE := Lib.hid (And.intro hown5 (g_own HGA.out HRA.out hgrow))
          clear hown5 hgrow hat hlt5 e0 e1 e2 e3 e4 e5 e6 e7
          go_roundw
          case rel =>
            refine ⟨j + 1, ks ++ [(shr C o, fa, fc)], by go_num, by omega, ?_, by rw [List.length_append, HKS.out.2.1]; rfl, ?_, ?_, HE.out.2⟩
            · rw [List.take_add_one, HOJ.out, Option.toList_some, List.map_append, List.map_append, HKS.out.1]
              rfl
            · rw [ocl_append]
              have e : ocl [(shr C o, fa, fc)] = [.int .i64 o.ref.1, .int .i64 o.ref.2, .int .i64 o.gen, .int .i64 o.fields, .int .i64 o.mask, .int .i64 st, .int .i64 o.owner, .slice fa o.F.length fc] := HOC.out
              rw [e]; exact HE.out.1
            · intro q hq
              rcases List.mem_append.1 hq with h | h
              · exact HKS.out.2.2 _ h
              · simp only [List.mem_singleton] at h; subst h; exact HOK.out
          case measure => simp [intOf]; omega

    · obtain rfl : j = n := by omega
      have hjj : ¬ (j : Int) < j := by omega
      rw [List.take_of_length_le (by rw [HN.out]; exact Nat.le_refl _)] at hks
      obtain ⟨ko, kc, rfl, hor, hkl2⟩ := orow_of_own hrw (fun x hx => ((hok x hx).keepn hg).mono hg.size)
      rw [hks] at hor
      have HOK := Lib.hid hor
      have G5 := Lib.hid hg
      clear hks hkl hrw hok hg hor hkl2
      go_wp2_with fail
      obtain ⟨w5, hw5⟩ : ∃ w5 : World, w5 = wr := ⟨_, rfl⟩
      rw [← hw5] at HOK G5 ⊢
      clear hw5
      have HSC5 := Lib.hid (HSC4.out.keep G5.out)
      have HSM5 := Lib.hid (HSM.out.keep G5.out)
      go_loopw [11] (fun i wr => ∃ ci : Nat, i = .int .i64 ci ∧ ci ≤ cn ∧ w5.grownBy wr none) (fun i _ => (cn - intOf i).toNat)
      case atStart => exact ⟨0, rfl, Nat.zero_le _, g_refl _ _⟩
      case round =>
        obtain ⟨ci, rfl, hci, hg⟩ := hrel
        by_cases hlt : ci < cn
        · have hci1 : (ci : Int) < cn := by omega
          have hci2 : ¬ (cn : Int) ≤ ci := by omega
          obtain ⟨p, hpq⟩ : ∃ p, C[ci]? = some p := ⟨C[ci]'(by rw [HCN.out]; omega), List.getElem?_eq_getElem _⟩
          obtain ⟨cb, coff, rfl, y0, y1⟩ := HSC5.out ci p hpq
          have HPM := Lib.hid (HCM.out p (List.mem_of_getElem? hpq))
          obtain ⟨p1, p2⟩ := p
          have HP5 := Lib.hid (And.intro y0 y1)
          simp only at HP5
          have HG := Lib.hid hg
          clear y0 y1 hpq hg
          go_wp2_with fail
          go_loopw [12, 13] (fun s i wr => ∃ q : Nat, i = .int .i64 q ∧ q ≤ mn ∧ s = .bool (decide ((p1, p2) ∈ M.take q)) ∧ w5.grownBy wr none) (fun _ i _ => (mn - intOf i).toNat)
          case atStart => exact ⟨0, rfl, Nat.zero_le _, by simp, HG.out⟩
          case round =>
            obtain ⟨q, rfl, hq, rfl, hg⟩ := hrel
            by_cases hlt2 : q < mn
            · have hqi : (q : Int) < mn := by omega
              have hqq : ¬ (mn : Int) ≤ q := by omega
              obtain ⟨xx, hxq⟩ : ∃ xx, M[q]? = some xx := ⟨M[q]'(by rw [HMN.out]; omega), List.getElem?_eq_getElem _⟩
              obtain ⟨mb, moff, rfl, y0, y1⟩ := HSM5.out.keep hg q xx hxq
              have HPW := Lib.hid (And.intro (hg.cell HP5.out.1 (by simp)) (hg.cell HP5.out.2 (by simp)))
              have HXQ : Hid (M.take (q + 1) = M.take q ++ [xx]) := Lib.hid (by rw [List.take_add_one, hxq, Option.toList_some])
              obtain ⟨x1, x2⟩ := xx
              have HXM := Lib.hid (And.intro y0 y1)
              simp only at HXM
              have HG2 := Lib.hid hg
              clear y0 y1 hxq hg
              rcases hf : decide ((p1, p2) ∈ M.take q) with _ | _
              · have HF := Lib.hid hf
                clear hf
                go_upto_region 22 with fail
                by_cases hpe : (x1, x2) = (p1, p2)
                · obtain ⟨rfl, rfl⟩ : p1 = x1 ∧ p2 = x2 := by simpa using hpe.symm
                  refine wp_region_held_drew (S := fun W' => wr.grownBy W' none) (by kernel_rfl) (g_drew (g_refl _ _)) (fun hHeld => ?_)
                  refine wpAnyH_take (i := 0) (v := .bool false) rfl (by kernel_rfl) (by kernel_rfl) (by kernel_rfl) (fun _ _ _ h => h) (Or.inl ⟨by rfl, fun w hw => by clear hw; go_simp⟩) hHeld ?_
                  try simp only [Act.put, List.setIfInBounds_toArray, List.set_cons_zero, List.set_cons_succ, List.getElem_toArray, List.getElem_cons_zero, List.getElem_cons_succ]
                  refine wpAnyH_take (i := 1) (v := .bool false) rfl (by kernel_rfl) (by kernel_rfl) (by kernel_rfl) (fun _ _ _ h => h) (Or.inl ⟨by rfl, fun w hw => by clear hw; go_simp⟩) hHeld ?_
                  try simp only [Act.put, List.setIfInBounds_toArray, List.set_cons_zero, List.set_cons_succ, List.getElem_toArray, List.getElem_cons_zero, List.getElem_cons_succ]
                  refine wpAnyH_take (i := 2) (v := .slice (some ⟨mb, moff, none⟩) mn mc) rfl (by kernel_rfl) (by kernel_rfl) (by kernel_rfl) (fun _ _ _ h => h) (Or.inl ⟨by rfl, fun w hw => by clear hw; go_simp⟩) hHeld ?_
                  try simp only [Act.put, List.setIfInBounds_toArray, List.set_cons_zero, List.set_cons_succ, List.getElem_toArray, List.getElem_cons_zero, List.getElem_cons_succ]
                  refine wpAnyH_take (i := 3) (v := .int .i64 (q : Int)) rfl (by kernel_rfl) (by kernel_rfl) (by kernel_rfl) (fun _ _ _ h => h) (Or.inl ⟨by rfl, fun w hw => by clear hw; go_simp⟩) hHeld ?_
                  try simp only [Act.put, List.setIfInBounds_toArray, List.set_cons_zero, List.set_cons_succ, List.getElem_toArray, List.getElem_cons_zero, List.getElem_cons_succ]
                  refine wpAnyH_take (i := 4) (v := .pointer (some ⟨mb, moff + q * 2, none⟩)) rfl (by kernel_rfl) (by kernel_rfl) (by kernel_rfl) (fun _ _ _ h => h) (Or.inl ⟨by rfl, fun w hw => by clear hw; go_simp⟩) hHeld ?_
                  try simp only [Act.put, List.setIfInBounds_toArray, List.set_cons_zero, List.set_cons_succ, List.getElem_toArray, List.getElem_cons_zero, List.getElem_cons_succ]
                  refine wpAnyH_take (i := 5) (v := .agg #[.int .i64 p1, .int .i64 p2]) rfl (by kernel_rfl) (by kernel_rfl) (by kernel_rfl) (fun _ _ _ h => h) (Or.inl ⟨by rfl, fun w hw => by have q0 := hw.cell HXM.out.1 (by simp); have q1 := hw.cell HXM.out.2 (by simp); clear hw; go_simp⟩) hHeld ?_
                  try simp only [Act.put, List.setIfInBounds_toArray, List.set_cons_zero, List.set_cons_succ, List.getElem_toArray, List.getElem_cons_zero, List.getElem_cons_succ]
                  refine wpAnyH_take (i := 6) (v := .slice (some ⟨cb, coff, none⟩) cn cc) rfl (by kernel_rfl) (by kernel_rfl) (by kernel_rfl) (fun _ _ _ h => h) (Or.inl ⟨by rfl, fun w hw => by clear hw; go_simp⟩) hHeld ?_
                  try simp only [Act.put, List.setIfInBounds_toArray, List.set_cons_zero, List.set_cons_succ, List.getElem_toArray, List.getElem_cons_zero, List.getElem_cons_succ]
                  refine wpAnyH_take (i := 7) (v := .int .i64 (ci : Int)) rfl (by kernel_rfl) (by kernel_rfl) (by kernel_rfl) (fun _ _ _ h => h) (Or.inl ⟨by rfl, fun w hw => by clear hw; go_simp⟩) hHeld ?_
                  try simp only [Act.put, List.setIfInBounds_toArray, List.set_cons_zero, List.set_cons_succ, List.getElem_toArray, List.getElem_cons_zero, List.getElem_cons_succ]
                  refine wpAnyH_take (i := 8) (v := .pointer (some ⟨cb, coff + ci * 2, none⟩)) rfl (by kernel_rfl) (by kernel_rfl) (by kernel_rfl) (fun _ _ _ h => h) (Or.inl ⟨by rfl, fun w hw => by clear hw; go_simp⟩) hHeld ?_
                  try simp only [Act.put, List.setIfInBounds_toArray, List.set_cons_zero, List.set_cons_succ, List.getElem_toArray, List.getElem_cons_zero, List.getElem_cons_succ]
                  refine wpAnyH_take (i := 9) (v := .agg #[.int .i64 p1, .int .i64 p2]) rfl (by kernel_rfl) (by kernel_rfl) (by kernel_rfl) (fun _ _ _ h => h) (Or.inl ⟨by rfl, fun w hw => by have q0 := hw.cell HPW.out.1 (by simp); have q1 := hw.cell HPW.out.2 (by simp); clear hw; go_simp⟩) hHeld ?_
                  try simp only [Act.put, List.setIfInBounds_toArray, List.set_cons_zero, List.set_cons_succ, List.getElem_toArray, List.getElem_cons_zero, List.getElem_cons_succ]
                  refine wpAnyH_take (i := 10) (v := .bool true) rfl (by kernel_rfl) (by kernel_rfl) (by kernel_rfl) (fun _ _ _ h => h) (Or.inl ⟨by rfl, fun w hw => by clear hw; go_simp⟩) hHeld ?_
                  try simp only [Act.put, List.setIfInBounds_toArray, List.set_cons_zero, List.set_cons_succ, List.getElem_toArray, List.getElem_cons_zero, List.getElem_cons_succ]
                  refine wpAnyH_take (i := 11) (v := .bool true) rfl (by kernel_rfl) (by kernel_rfl) (by kernel_rfl) (fun _ _ _ h => h) (Or.inl ⟨by rfl, fun w hw => by clear hw; go_simp⟩) hHeld ?_
                  try simp only [Act.put, List.setIfInBounds_toArray, List.set_cons_zero, List.set_cons_succ, List.getElem_toArray, List.getElem_cons_zero, List.getElem_cons_succ]
                  refine wpAnyH_take (i := 12) (v := .bool true) rfl (by kernel_rfl) (by kernel_rfl) (by kernel_rfl) (fun _ _ _ h => h) (Or.inl ⟨by rfl, fun w hw => by clear hw; go_simp⟩) hHeld ?_
                  try simp only [Act.put, List.setIfInBounds_toArray, List.set_cons_zero, List.set_cons_succ, List.getElem_toArray, List.getElem_cons_zero, List.getElem_cons_succ]
                  refine wpAnyH_done (by kernel_rfl) ?_ _
                  have GX := Lib.hid (g_trans HG2.out hHeld)
                  clear hHeld
                  go_wp2_with fail
                  go_roundw
                  case rel =>
                    refine ⟨q + 1, by go_num, by omega, ?_, GX.out⟩
                    rw [HXQ.out]
                    simp
                  case measure => simp [intOf]; omega

                · have HNE : Hid (¬ (x1 = p1 ∧ x2 = p2)) := Lib.hid (fun h => hpe (Prod.ext h.1 h.2))
                  refine wp_region_held_drew (S := fun W' => wr.grownBy W' none) (by kernel_rfl) (g_drew (g_refl _ _)) (fun hHeld => ?_)
                  refine wpAnyH_take (i := 0) (v := .bool false) rfl (by kernel_rfl) (by kernel_rfl) (by kernel_rfl) (fun _ _ _ h => h) (Or.inl ⟨by rfl, fun w hw => by clear hw; go_simp⟩) hHeld ?_
                  try simp only [Act.put, List.setIfInBounds_toArray, List.set_cons_zero, List.set_cons_succ, List.getElem_toArray, List.getElem_cons_zero, List.getElem_cons_succ]
                  refine wpAnyH_take (i := 1) (v := .bool false) rfl (by kernel_rfl) (by kernel_rfl) (by kernel_rfl) (fun _ _ _ h => h) (Or.inl ⟨by rfl, fun w hw => by clear hw; go_simp⟩) hHeld ?_
                  try simp only [Act.put, List.setIfInBounds_toArray, List.set_cons_zero, List.set_cons_succ, List.getElem_toArray, List.getElem_cons_zero, List.getElem_cons_succ]
                  refine wpAnyH_take (i := 2) (v := .slice (some ⟨mb, moff, none⟩) mn mc) rfl (by kernel_rfl) (by kernel_rfl) (by kernel_rfl) (fun _ _ _ h => h) (Or.inl ⟨by rfl, fun w hw => by clear hw; go_simp⟩) hHeld ?_
                  try simp only [Act.put, List.setIfInBounds_toArray, List.set_cons_zero, List.set_cons_succ, List.getElem_toArray, List.getElem_cons_zero, List.getElem_cons_succ]
                  refine wpAnyH_take (i := 3) (v := .int .i64 (q : Int)) rfl (by kernel_rfl) (by kernel_rfl) (by kernel_rfl) (fun _ _ _ h => h) (Or.inl ⟨by rfl, fun w hw => by clear hw; go_simp⟩) hHeld ?_
                  try simp only [Act.put, List.setIfInBounds_toArray, List.set_cons_zero, List.set_cons_succ, List.getElem_toArray, List.getElem_cons_zero, List.getElem_cons_succ]
                  refine wpAnyH_take (i := 4) (v := .pointer (some ⟨mb, moff + q * 2, none⟩)) rfl (by kernel_rfl) (by kernel_rfl) (by kernel_rfl) (fun _ _ _ h => h) (Or.inl ⟨by rfl, fun w hw => by clear hw; go_simp⟩) hHeld ?_
                  try simp only [Act.put, List.setIfInBounds_toArray, List.set_cons_zero, List.set_cons_succ, List.getElem_toArray, List.getElem_cons_zero, List.getElem_cons_succ]
                  refine wpAnyH_take (i := 5) (v := .agg #[.int .i64 x1, .int .i64 x2]) rfl (by kernel_rfl) (by kernel_rfl) (by kernel_rfl) (fun _ _ _ h => h) (Or.inl ⟨by rfl, fun w hw => by have q0 := hw.cell HXM.out.1 (by simp); have q1 := hw.cell HXM.out.2 (by simp); clear hw; go_simp⟩) hHeld ?_
                  try simp only [Act.put, List.setIfInBounds_toArray, List.set_cons_zero, List.set_cons_succ, List.getElem_toArray, List.getElem_cons_zero, List.getElem_cons_succ]
                  refine wpAnyH_take (i := 6) (v := .slice (some ⟨cb, coff, none⟩) cn cc) rfl (by kernel_rfl) (by kernel_rfl) (by kernel_rfl) (fun _ _ _ h => h) (Or.inl ⟨by rfl, fun w hw => by clear hw; go_simp⟩) hHeld ?_
                  try simp only [Act.put, List.setIfInBounds_toArray, List.set_cons_zero, List.set_cons_succ, List.getElem_toArray, List.getElem_cons_zero, List.getElem_cons_succ]
                  refine wpAnyH_take (i := 7) (v := .int .i64 (ci : Int)) rfl (by kernel_rfl) (by kernel_rfl) (by kernel_rfl) (fun _ _ _ h => h) (Or.inl ⟨by rfl, fun w hw => by clear hw; go_simp⟩) hHeld ?_
                  try simp only [Act.put, List.setIfInBounds_toArray, List.set_cons_zero, List.set_cons_succ, List.getElem_toArray, List.getElem_cons_zero, List.getElem_cons_succ]
                  refine wpAnyH_take (i := 8) (v := .pointer (some ⟨cb, coff + ci * 2, none⟩)) rfl (by kernel_rfl) (by kernel_rfl) (by kernel_rfl) (fun _ _ _ h => h) (Or.inl ⟨by rfl, fun w hw => by clear hw; go_simp⟩) hHeld ?_
                  try simp only [Act.put, List.setIfInBounds_toArray, List.set_cons_zero, List.set_cons_succ, List.getElem_toArray, List.getElem_cons_zero, List.getElem_cons_succ]
                  refine wpAnyH_take (i := 9) (v := .agg #[.int .i64 p1, .int .i64 p2]) rfl (by kernel_rfl) (by kernel_rfl) (by kernel_rfl) (fun _ _ _ h => h) (Or.inl ⟨by rfl, fun w hw => by have q0 := hw.cell HPW.out.1 (by simp); have q1 := hw.cell HPW.out.2 (by simp); clear hw; go_simp⟩) hHeld ?_
                  try simp only [Act.put, List.setIfInBounds_toArray, List.set_cons_zero, List.set_cons_succ, List.getElem_toArray, List.getElem_cons_zero, List.getElem_cons_succ]
                  refine wpAnyH_take (i := 10) (v := .bool false) rfl (by kernel_rfl) (by kernel_rfl) (by kernel_rfl) (fun _ _ _ h => h) (Or.inl ⟨by rfl, fun w hw => by clear hw; go_simp; by_cases h1 : x1 = p1 <;> by_cases h2 : x2 = p2 <;> first | (exact absurd (And.intro h1 h2) HNE.out) | simp [h1, h2]⟩) hHeld ?_
                  try simp only [Act.put, List.setIfInBounds_toArray, List.set_cons_zero, List.set_cons_succ, List.getElem_toArray, List.getElem_cons_zero, List.getElem_cons_succ]
                  refine wpAnyH_take (i := 11) (v := .bool false) rfl (by kernel_rfl) (by kernel_rfl) (by kernel_rfl) (fun _ _ _ h => h) (Or.inl ⟨by rfl, fun w hw => by clear hw; go_simp⟩) hHeld ?_
                  try simp only [Act.put, List.setIfInBounds_toArray, List.set_cons_zero, List.set_cons_succ, List.getElem_toArray, List.getElem_cons_zero, List.getElem_cons_succ]
                  refine wpAnyH_take (i := 12) (v := .bool false) rfl (by kernel_rfl) (by kernel_rfl) (by kernel_rfl) (fun _ _ _ h => h) (Or.inl ⟨by rfl, fun w hw => by clear hw; go_simp⟩) hHeld ?_
                  try simp only [Act.put, List.setIfInBounds_toArray, List.set_cons_zero, List.set_cons_succ, List.getElem_toArray, List.getElem_cons_zero, List.getElem_cons_succ]
                  refine wpAnyH_done (by kernel_rfl) ?_ _
                  have GX := Lib.hid (g_trans HG2.out hHeld)
                  clear hHeld
                  go_wp2_with fail
                  go_roundw
                  case rel =>
                    refine ⟨q + 1, by go_num, by omega, ?_, GX.out⟩
                    rw [HXQ.out]
                    have h1 := of_decide_eq_false HF.out
                    have h2 : ¬ (p1, p2) = (x1, x2) := fun h => hpe h.symm
                    simp only [List.mem_append, List.mem_singleton, h1, h2, or_false, decide_false]
                  case measure => simp [intOf]; omega

              · have HF := Lib.hid hf
                clear hf
                go_upto_region 22 with fail
                refine wp_region_held_drew (S := fun W' => wr.grownBy W' none) (by kernel_rfl) (g_drew (g_refl _ _)) (fun hHeld => ?_)
                refine wpAnyH_take (i := 0) (v := .bool true) rfl (by kernel_rfl) (by kernel_rfl) (by kernel_rfl) (fun _ _ _ h => h) (Or.inl ⟨by rfl, fun w hw => by clear hw; go_simp⟩) hHeld ?_
                try simp only [Act.put, List.setIfInBounds_toArray, List.set_cons_zero, List.set_cons_succ, List.getElem_toArray, List.getElem_cons_zero, List.getElem_cons_succ]
                refine wpAnyH_take (i := 1) (v := .bool true) rfl (by kernel_rfl) (by kernel_rfl) (by kernel_rfl) (fun _ _ _ h => h) (Or.inl ⟨by rfl, fun w hw => by clear hw; go_simp⟩) hHeld ?_
                try simp only [Act.put, List.setIfInBounds_toArray, List.set_cons_zero, List.set_cons_succ, List.getElem_toArray, List.getElem_cons_zero, List.getElem_cons_succ]
                refine wpAnyH_take (i := 2) (v := undef) rfl (by kernel_rfl) (by kernel_rfl) (by kernel_rfl) (fun _ _ _ h => h) (Or.inr ⟨by rfl, rfl⟩) hHeld ?_
                try simp only [Act.put, List.setIfInBounds_toArray, List.set_cons_zero, List.set_cons_succ, List.getElem_toArray, List.getElem_cons_zero, List.getElem_cons_succ]
                refine wpAnyH_take (i := 3) (v := undef) rfl (by kernel_rfl) (by kernel_rfl) (by kernel_rfl) (fun _ _ _ h => h) (Or.inr ⟨by rfl, rfl⟩) hHeld ?_
                try simp only [Act.put, List.setIfInBounds_toArray, List.set_cons_zero, List.set_cons_succ, List.getElem_toArray, List.getElem_cons_zero, List.getElem_cons_succ]
                refine wpAnyH_take (i := 4) (v := undef) rfl (by kernel_rfl) (by kernel_rfl) (by kernel_rfl) (fun _ _ _ h => h) (Or.inr ⟨by rfl, rfl⟩) hHeld ?_
                try simp only [Act.put, List.setIfInBounds_toArray, List.set_cons_zero, List.set_cons_succ, List.getElem_toArray, List.getElem_cons_zero, List.getElem_cons_succ]
                refine wpAnyH_take (i := 5) (v := undef) rfl (by kernel_rfl) (by kernel_rfl) (by kernel_rfl) (fun _ _ _ h => h) (Or.inr ⟨by rfl, rfl⟩) hHeld ?_
                try simp only [Act.put, List.setIfInBounds_toArray, List.set_cons_zero, List.set_cons_succ, List.getElem_toArray, List.getElem_cons_zero, List.getElem_cons_succ]
                refine wpAnyH_take (i := 6) (v := undef) rfl (by kernel_rfl) (by kernel_rfl) (by kernel_rfl) (fun _ _ _ h => h) (Or.inr ⟨by rfl, rfl⟩) hHeld ?_
                try simp only [Act.put, List.setIfInBounds_toArray, List.set_cons_zero, List.set_cons_succ, List.getElem_toArray, List.getElem_cons_zero, List.getElem_cons_succ]
                refine wpAnyH_take (i := 7) (v := undef) rfl (by kernel_rfl) (by kernel_rfl) (by kernel_rfl) (fun _ _ _ h => h) (Or.inr ⟨by rfl, rfl⟩) hHeld ?_
                try simp only [Act.put, List.setIfInBounds_toArray, List.set_cons_zero, List.set_cons_succ, List.getElem_toArray, List.getElem_cons_zero, List.getElem_cons_succ]
                refine wpAnyH_take (i := 8) (v := undef) rfl (by kernel_rfl) (by kernel_rfl) (by kernel_rfl) (fun _ _ _ h => h) (Or.inr ⟨by rfl, rfl⟩) hHeld ?_
                try simp only [Act.put, List.setIfInBounds_toArray, List.set_cons_zero, List.set_cons_succ, List.getElem_toArray, List.getElem_cons_zero, List.getElem_cons_succ]
                refine wpAnyH_take (i := 9) (v := undef) rfl (by kernel_rfl) (by kernel_rfl) (by kernel_rfl) (fun _ _ _ h => h) (Or.inr ⟨by rfl, rfl⟩) hHeld ?_
                try simp only [Act.put, List.setIfInBounds_toArray, List.set_cons_zero, List.set_cons_succ, List.getElem_toArray, List.getElem_cons_zero, List.getElem_cons_succ]
                refine wpAnyH_take (i := 10) (v := undef) rfl (by kernel_rfl) (by kernel_rfl) (by kernel_rfl) (fun _ _ _ h => h) (Or.inr ⟨by rfl, rfl⟩) hHeld ?_
                try simp only [Act.put, List.setIfInBounds_toArray, List.set_cons_zero, List.set_cons_succ, List.getElem_toArray, List.getElem_cons_zero, List.getElem_cons_succ]
                refine wpAnyH_take (i := 11) (v := .bool true) rfl (by kernel_rfl) (by kernel_rfl) (by kernel_rfl) (fun _ _ _ h => h) (Or.inl ⟨by rfl, fun w hw => by clear hw; go_simp⟩) hHeld ?_
                try simp only [Act.put, List.setIfInBounds_toArray, List.set_cons_zero, List.set_cons_succ, List.getElem_toArray, List.getElem_cons_zero, List.getElem_cons_succ]
                refine wpAnyH_take (i := 12) (v := .bool true) rfl (by kernel_rfl) (by kernel_rfl) (by kernel_rfl) (fun _ _ _ h => h) (Or.inl ⟨by rfl, fun w hw => by clear hw; go_simp⟩) hHeld ?_
                try simp only [Act.put, List.setIfInBounds_toArray, List.set_cons_zero, List.set_cons_succ, List.getElem_toArray, List.getElem_cons_zero, List.getElem_cons_succ]
                refine wpAnyH_done (by kernel_rfl) ?_ _
                have GX := Lib.hid (g_trans HG2.out hHeld)
                clear hHeld
                go_wp2_with fail
                go_roundw
                case rel =>
                  refine ⟨q + 1, by go_num, by omega, ?_, GX.out⟩
                  rw [HXQ.out]
                  have h1 := of_decide_eq_true HF.out
                  simp only [List.mem_append, h1, true_or, decide_true]
                case measure => simp [intOf]; omega

            · obtain rfl : q = mn := by omega
              have hqq : ¬ (q : Int) < q := by omega
              rw [List.take_of_length_le (by rw [HMN.out]; exact Nat.le_refl _), decide_eq_true HPM.out]
              have HG2 := Lib.hid hg
              clear hg
              go_wp2_with fail
              go_roundw
              case rel => exact ⟨ci + 1, by go_num, by omega, HG2.out⟩
              case measure => simp [intOf]; omega
        · obtain rfl : ci = cn := by omega
          have hcc : ¬ (ci : Int) < ci := by omega
          have gB := g_trans G5.out hg
          have x0 := (HB4.out.keepn gB).cell 0 _ rfl
          have x1 := (HB4.out.keepn gB).cell 1 _ rfl
          have HKC := Lib.hid (closure_any w5.heap.size ko j kc (K.map (shr C)) a1_0 a1_1 wr (HOK.out.keepn hg) hg.size (shr_wf HKW.out) (by rw [List.length_map, HN.out]) (by omega) HV.out)
          have HGB := Lib.hid (g_trans GW4.out gB)
          clear gB hg
          go_wp2_with fail
          refine HKC.out.mono ?_
          rintro e w6 ⟨rv, L, rfl, hwl, hrow, -, g6⟩
          obtain rfl := shared_none HWC.out hwl
          obtain ⟨lo, lc, rfl, -, -⟩ := srow_of_own hrow
          have HG6 := Lib.hid (g_trans HGB.out g6)
          clear hwl hrow g6 x0 x1
          simp only [List.length_nil]
          go_wp2_with fail
          refine (awake_any w6).mono ?_
          rintro e w7 ⟨rfl, g7⟩
          have HG7 := Lib.hid (g_trans HG6.out g7)
          clear g7
          go_wp2_with fail
          go_ret
          exact ⟨rfl, below_gn (Below.refl _ w) HG7.out (Nat.le_refl _)⟩

end Go.Proofs.Ytkkcfielmpjgeaa
