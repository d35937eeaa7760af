/- Rename. -/
import Derived.Test.YtkkcfielmpjgeaaO
namespace Go.Proofs.Ytkkcfielmpjgeaa
open Go.RowKit
set_option linter.unusedVariables false
set_option linter.unusedSimpArgs false

theorem nmd_wv {i : Nat} (h : i ≤ 1000) : WV (nmd i) := ⟨WalkArith.wf_i64 (by simp only [nmd]; omega), WalkArith.wf_i64 (by simp only [nmd]; omega)⟩
theorem asP_wv {met : List VV} (hl : met.length ≤ 1000) {v : VV} (h : WV v) : WV (asP (nm met) v) := by
  unfold asP
  cases hq : nm met v with
  | some x =>
    unfold nm at hq
    cases hf : met.findIdx? (fun x => decide (x = v)) with
    | none => rw [hf] at hq; cases hq
    | some i =>
      rw [hf] at hq
      simp at hq
      have hi : i < met.length := (List.findIdx?_eq_some_iff_getElem.1 hf).1
      rw [← hq]
      exact nmd_wv (by omega)
  | none =>
    simp only
    split
    · exact ⟨WalkArith.wf_i64 (by omega), WalkArith.wf_i64 (by simp only; omega)⟩
    · exact h

theorem own_base {w : World} {b b' : Nat} {e : TypeId} {s : Nat} {v : Value} {n : Nat} {xs : List Value} (h : w.ownsRow b e s v n xs) (hb : b' ≤ b) : w.ownsRow b' e s v n xs := by
  refine ⟨h.1, ?_⟩
  rcases h.2 with h2 | ⟨g, cap, cur, h1, h2, h3⟩
  · exact .inl h2
  · exact .inr ⟨g, cap, cur, h1, Nat.le_trans hb h2, h3⟩
theorem SRow.keepr {w w' : World} {ao : Option Addr} {L : List (Int × Int)} {row : Option Nat} (h : SRow w ao L) (g : w.grownBy w' row) (hne : ∀ a, ao = some a → L ≠ [] → row ≠ some a.block) : SRow w' ao L := fun i p hi => by
  obtain ⟨b, off, rfl, h1, h2⟩ := h i p hi
  have hx := hne _ rfl (fun e => by rw [e] at hi; cases hi)
  exact ⟨b, off, rfl, g.cell h1 (Ne.symm hx), g.cell h2 (Ne.symm hx)⟩
theorem OK.keepr {w w' : World} {B : Nat} {x : OX} {row : Option Nat} (h : OK w B x) (g : w.grownBy w' row) (hne : ∀ a, x.2.1 = some a → x.1.F ≠ [] → row ≠ some a.block) : OK w' B x := ⟨h.1.keepr g hne, h.2⟩
theorem newZ34 (w : World) : Blk (w.alloc (.cells #[.int .i64 0, .int .i64 0, .int .i64 0, .int .i64 0, .int .i64 0, .int .i64 0, .int .i64 0, .slice none 0 0] 34)) w.heap.size #[.int .i64 0, .int .i64 0, .int .i64 0, .int .i64 0, .int .i64 0, .int .i64 0, .int .i64 0, .slice none 0 0] 34 := Blk.new w _ 34
theorem g_newZ34 (w : World) : w.grownBy (w.alloc (.cells #[.int .i64 0, .int .i64 0, .int .i64 0, .int .i64 0, .int .i64 0, .int .i64 0, .int .i64 0, .slice none 0 0] 34)) none := g_alloc (g_refl w none) _
/-- an object's fields do not lie in the row's own block -/
def FB (s : Value) (x : OX) : Prop := ∀ a, x.2.1 = some a → x.1.F ≠ [] → s.ownBlock ≠ some a.block

set_option maxRecDepth 100000 in
set_option maxHeartbeats 12800000 in
theorem rename_any (B : Nat) (ao : Option Addr) (n c : Nat) (Ls : List OB) (ro : Option Addr) (rn rc : Nat) (R : List VV) (w : World) (hR : ORow w B ao Ls) (hB : B ≤ w.heap.size) (hW : ∀ o ∈ Ls, WO o) (hl : Ls.length = n) (hn : n ≤ 1000)
    (hs : SRow w ro R) (hrl : R.length = rn) (hrc : rn ≤ 1000) (hv : ∀ v ∈ R, WV v) (hF : ∀ o ∈ Ls, o.F.length ≤ 1000) :
    Calls Try.prog 10 #[.slice ao n c, .slice ro rn rc] w fun e w' => ∃ xv uv met cs, e = .returned (.tuple #[xv, uv]) ∧ Wlk (V Ls ia) (sc Ls) [] R met ∧ met.length ≤ n ∧ w'.ownsRow w.heap.size 34 8 xv met.length (ocl cs) ∧ cs.map (·.1) = renP Ls met ∧ (∀ x ∈ cs, OK w' w'.heap.size x) ∧
      w'.ownsRow w.heap.size 25 2 uv rn (scl (R.map (asP (nm met)))) ∧ w.grownBy w' none := by
  have hmm := @run_makeMap Try.prog
  have hmf : ∀ (fn : Fn) (first cap : Array Value) (w : World), (Instr.makeFunc fn first cap).run Try.prog w = .ok (.func fn first cap) w := fun _ _ _ _ => rfl
  obtain ⟨i0, hi, hz0, hz1, hz2⟩ := info_parts info34
  obtain ⟨k0, hk, hy0, hy1, hy2⟩ := info_parts info25
  have HRE := Lib.hid (reach_any B ao n c Ls ro rn rc R w hR hB hW hl hn hs hrl hrc hv)
  have HR := Lib.hid hR
  have HW := Lib.hid hW
  have HL := Lib.hid hl
  have HS := Lib.hid hs
  have HRL := Lib.hid hrl
  have HV := Lib.hid hv
  have HF0 := Lib.hid hF
  clear hR hW hl hs hrl hv hF
  go_enter Try.func10, Try.ntmps10
  go_wp2_with fail
  refine HRE.out.mono ?_
  rintro e w1 ⟨rv, met, rfl, hwl, hrow, hml, g1⟩
  obtain ⟨mo, mc, rfl, hsr, -⟩ := srow_of_own hrow
  have HWL := Lib.hid hwl
  have HSM := Lib.hid hsr
  have G1 := Lib.hid g1
  have HND : Hid met.Nodup := Lib.hid (met_nodup hwl)
  have HMV : Hid (∀ v ∈ met, WV v) := Lib.hid (walk_wv HW.out hwl)
  have HMO : Hid (∀ v ∈ met, obj Ls v ≠ none) := Lib.hid (walk_obj hwl)
  obtain ⟨ml, hmln⟩ : ∃ ml, met.length = ml := ⟨_, rfl⟩
  rw [hmln] at hml ⊢
  have HML := Lib.hid hmln
  clear hwl hrow hsr g1 hmln HRE
  have ga := g_alloc (g_refl w1 none) (.map #[] 0)
  have gb := g_alloc (g_refl (w1.alloc (.map #[] 0)) none) (.cells #[.map (some w1.heap.size)] 57)
  have HVM : Hid (VMap ((w1.alloc (.map #[] 0)).alloc (.cells #[.map (some w1.heap.size)] 57)) w1.heap.size 0 (nm [])) := Lib.hid (by
    have h := (VMap.nil (World.ownsMap_made (H := Unit) w1 Try.prog 25 valElem)).keep gb (by simp)
    have e : nm [] = fun _ => none := funext nm_nil
    rw [e]; exact h)
  have HPN := Lib.hid (Blk.new (w1.alloc (.map #[] 0)) #[.map (some w1.heap.size)] 57)
  have hsy : (w1.alloc (.map #[] 0)).heap.size = w1.heap.size + 1 := by simp
  rw [hsy] at HPN
  have G2 := Lib.hid (g_trans ga gb)
  clear ga gb hsy
  go_upto_region 3 with fail
  obtain ⟨mm, hmmn⟩ : ∃ mm, w1.heap.size = mm := ⟨_, rfl⟩
  rw [hmmn] at HVM HPN G2 ⊢
  obtain ⟨pn, hpn⟩ : ∃ pn, mm + 1 = pn := ⟨_, rfl⟩
  rw [hpn] at HPN ⊢
  generalize (w1.alloc (.map #[] 0)).alloc (.cells #[.map (some mm)] 57) = W2 at *
  go_wp2_with fail
  go_loopw [28] (fun i wr => ∃ j : Nat, i = .int .i64 j ∧ j ≤ ml ∧ VMap wr mm j (nm (met.take j)) ∧ Blk wr pn #[.map (some mm)] 57 ∧ w1.grownBy wr none) (fun i _ => (ml - intOf i).toNat)
  case atStart => exact ⟨0, rfl, Nat.zero_le _, HVM.out, HPN.out, G2.out⟩
  case round =>
    obtain ⟨j, rfl, hj, hvm, hpb, hg⟩ := hrel
    by_cases hlt : j < ml
    · have hji : (j : Int) < ml := by omega
      have hjj : ¬ (ml : Int) ≤ j := by omega
      obtain ⟨v, hvq⟩ : ∃ v, met[j]? = some v := ⟨met[j]'(by rw [HML.out]; omega), List.getElem?_eq_getElem _⟩
      obtain ⟨fb, foff, rfl, y0, y1⟩ := HSM.out.keep hg j v hvq
      have HVV := Lib.hid (HMV.out v (List.mem_of_getElem? hvq))
      have HXQ := Lib.hid hvq
      obtain ⟨v1, v2⟩ := v
      simp only at y0 y1
      have ga := g_alloc (g_refl wr none) (.cells #[.int .i64 v1, .int .i64 v2] 25)
      have HX := Lib.hid (Blk.new wr #[.int .i64 v1, .int .i64 v2] 25)
      have HPN := Lib.hid (hpb.keepn ga)
      have HG := Lib.hid (g_trans hg ga)
      obtain ⟨nn, D, hown, hnn, hh⟩ := hvm.keep ga (by simp)
      have HOW := Lib.hid hown.drew
      have HH := Lib.hid (And.intro hnn hh)
      have hnn : nn < maxLen := by unfold maxLen; omega
      have hpl := hpb.lt
      have hwsz := hg.size
      have hwm : IntKind.i64.wrap ((j : Int) + 1) = (j : Int) + 1 := by simp [IntKind.wrap, IntKind.signed, IntKind.bits]; omega
      clear hvm hpb hg hvq ga hown hh
      go_upto_region 6 with fail
      generalize wr.alloc (.cells #[.int .i64 v1, .int .i64 v2] 25) = W at *
      clear y0 y1
      refine wp_region_held_drew (S := fun W' => W.grownBy W' (some mm)) (by kernel_rfl) (g_drew (g_refl W (some mm))) (fun hHeld => ?_)
      refine wpAnyH_take (i := 0) (v := .map (some mm)) rfl (by kernel_rfl) (by kernel_rfl) (by kernel_rfl) (fun _ _ _ h => h) (Or.inl ⟨by rfl, fun w hw => by have q0 := hw.cell (HPN.out.cell 0 _ rfl) (by simp; omega); clear hw; go_simp⟩) hHeld ?_
      try simp only [Act.put, List.setIfInBounds_toArray, List.set_cons_zero, List.set_cons_succ, List.getElem_toArray, List.getElem_cons_zero, List.getElem_cons_succ]
      refine wpAnyH_take (i := 1) (v := .agg #[.int .i64 v1, .int .i64 v2]) rfl (by kernel_rfl) (by kernel_rfl) (by kernel_rfl) (fun _ _ _ h => h) (Or.inl ⟨by rfl, fun w hw => by have q0 := hw.cell (HX.out.cell 0 _ rfl) (by simp; omega); have q1 := hw.cell (HX.out.cell 1 _ rfl) (by simp; omega); clear hw; go_simp⟩) hHeld ?_
      try simp only [Act.put, List.setIfInBounds_toArray, List.set_cons_zero, List.set_cons_succ, List.getElem_toArray, List.getElem_cons_zero, List.getElem_cons_succ]
      refine wpAnyH_take (i := 2) (v := .int .i64 (j : Int)) rfl (by kernel_rfl) (by kernel_rfl) (by kernel_rfl) (fun _ _ _ h => h) (Or.inl ⟨by rfl, fun w hw => by clear hw; go_simp⟩) hHeld ?_
      try simp only [Act.put, List.setIfInBounds_toArray, List.set_cons_zero, List.set_cons_succ, List.getElem_toArray, List.getElem_cons_zero, List.getElem_cons_succ]
      refine wpAnyH_take (i := 3) (v := .int .i64 ((j : Int) + 1)) rfl (by kernel_rfl) (by kernel_rfl) (by kernel_rfl) (fun _ _ _ h => h) (Or.inl ⟨by rfl, fun w hw => by clear hw; go_simp⟩) hHeld ?_
      try simp only [Act.put, List.setIfInBounds_toArray, List.set_cons_zero, List.set_cons_succ, List.getElem_toArray, List.getElem_cons_zero, List.getElem_cons_succ]
      refine wpAnyH_ready (rs := [4]) (by kernel_rfl) (by simp) (AllReadyH.cons rfl (fun K hK => ?_) (AllReadyH.nil))
      · go_simp
        refine Calls.mono (named_any ((j : Int) + 1) (by omega) (by omega) _) ?_
        rintro e wc1 ⟨rfl, gc1⟩
        try go_wp2_with fail
        have HOW := Lib.hid (HOW.out.kept gc1 (by simp))
        refine hK.out _ _ (g_trans hHeld (g_none gc1 (some mm))) (fun hHeld => ?_)
        clear hK K
        try simp only [Act.put, List.setIfInBounds_toArray, List.set_cons_zero, List.set_cons_succ, List.getElem_toArray, List.getElem_cons_zero, List.getElem_cons_succ]
        refine wpAnyH_ready (rs := [5]) (by kernel_rfl) (by simp) (AllReadyH.cons rfl (fun K hK => ?_) (AllReadyH.nil))
        · refine step_mapUpdate_own rfl _ _ _ 57 rfl 25 25 keyed25 Try.underlying57 valElem mm nn D rfl HOW.out hnn (.agg #[.int .i64 v1, .int .i64 v2]) (.agg #[.int .i64 2, .int .i64 (1048576 + ((j : Int) + 1))]) (kl (v1, v2)) rfl rfl (key25 (v1, v2) HVV.out) (VE (nmd j)) [] rfl ?_
          intro w9 hown9 hg9
          refine hK.out _ _ (g_trans hHeld hg9) (fun hHeld => ?_)
          clear hK K
          try simp only [Act.put, List.setIfInBounds_toArray, List.set_cons_zero, List.set_cons_succ, List.getElem_toArray, List.getElem_cons_zero, List.getElem_cons_succ]
          refine wpAnyH_done (by kernel_rfl) ?_ _
          have HVM9 : Hid (VMap w9 mm (j + 1) (nm (met.take (j + 1)))) := Lib.hid (by
            rw [nm_step HND.out HXQ.out]
            exact VMap.put HH.out.1 HOW.out.isMap HVV.out HH.out.2 hown9)
          have HPN9 := Lib.hid (Blk.keep HPN.out hHeld (by simp; omega))
          have HG9 : Hid (w1.grownBy w9 none) := Lib.hid (g_in HG.out hHeld (by omega))
          clear hHeld hown9 hg9
          go_wp2_with fail
          go_roundw
          case rel =>
            exact ⟨j + 1, by go_num, by omega, HVM9.out, HPN9.out, HG9.out⟩
          case measure => simp [intOf]; omega

    · obtain rfl : ml = j := by omega
      have hjj : ¬ (ml : Int) < ml := by omega
      rw [List.take_of_length_le (by rw [HML.out]; exact Nat.le_refl _)] at hvm
      have HVM := Lib.hid hvm
      have HPN := Lib.hid hpb
      have G3 := Lib.hid hg
      clear hvm hpb hg
      go_wp2_with fail
      have HPC := HPN.out.cell 0 (.map (some mm)) rfl
      have HW1 := Lib.hid (g_trans G1.out G3.out)
      refine (index_any B ao c n Ls wr (HR.out.keepn HW1.out) HW.out HL.out hn).mono ?_
      rintro e w5 ⟨am, rfl, ha1, ha2, him, g5⟩
      have HIM := Lib.hid him
      have G5 := Lib.hid (g_trans HW1.out g5)
      have hc5 := g5.cell HPC (by simp)
      have hv5 := HVM.out.keep g5 (by simp)
      have HAS := Lib.hid (fun (w' : World) (g : w5.grownBy w' none) (v : VV) (hv : WV v) => as_any pn mm ml (nm met) v.1 v.2 w' (g.cell hc5 (by simp)) (hv5.keep g (by simp)) hv)
      have HSM5 := Lib.hid ((HSM.out.keep G3.out).keep g5)
      have HR5 := Lib.hid (HR.out.keepn G5.out)
      have HS5 := Lib.hid (HS.out.keep G5.out)
      clear him g5 ha1 ha2 HPC HVM HPN G3 HW1 hc5 hv5
      go_wp2_with fail
      go_loopw [12, 44] (fun s i wr => ∃ (j : Nat) (cs : List OX), i = .int .i64 j ∧ j ≤ ml ∧ cs.map (·.1) = (met.take j).map (ren Ls met) ∧ cs.length = j ∧ wr.ownsRow w5.heap.size 34 8 s j (ocl cs) ∧ (∀ x ∈ cs, OK wr wr.heap.size x ∧ FB s x) ∧ w5.grownBy wr none) (fun _ i _ => (ml - intOf i).toNat)
      case atStart => exact ⟨0, [], rfl, by omega, rfl, rfl, World.ownsRow_nil _ _ _ _, fun x h => (by cases h), g_refl _ _⟩
      case round =>
        obtain ⟨j, cs, rfl, hj, hcs, hcl, hrw, hok, hg⟩ := hrel
        by_cases hlt : j < ml
        · have hji : (j : Int) < ml := by omega
          have hjj2 : ¬ (ml : Int) ≤ j := by omega
          obtain ⟨v, hvq⟩ : ∃ v, met[j]? = some v := ⟨met[j]'(by rw [HML.out]; omega), List.getElem?_eq_getElem _⟩
          obtain ⟨fb, foff, rfl, y0, y1⟩ := HSM5.out.keep hg j v hvq
          have HVV := Lib.hid (HMV.out v (List.mem_of_getElem? hvq))
          have hvo := HMO.out v (List.mem_of_getElem? hvq)
          have HXQ := Lib.hid hvq
          obtain ⟨v1, v2⟩ := v
          simp only at y0 y1
          obtain ⟨sv, hsv⟩ : ∃ sv, u12 = sv := ⟨_, rfl⟩
          rw [hsv] at hrw hok ⊢
          rcases hix : ix Ls (v1, v2) with _ | xi
          · exact absurd (obj_none hix) hvo
          · obtain ⟨k, o, rfl, hok2, hor, hobj⟩ := obj_of_ix hix
            have hkn : k < n := by rw [← HL.out]; exact (List.getElem?_eq_some_iff.1 hok2).1
            have hki : (k : Int) < n := by omega
            have hkk : ¬ (n : Int) ≤ k := by omega
            have ga := g_alloc (g_refl wr none) (.cells #[.int .i64 v1, .int .i64 v2] 25)
            have HXv := Blk.new wr #[.int .i64 v1, .int .i64 v2] 25
            have x0 := HXv.cell 0 _ rfl
            have x1 := HXv.cell 1 _ rfl
            have hlook := ((HIM.out.keep hg (by simp)).keep ga (by simp)).look1 (v1, v2) HVV.out
            rw [hix] at hlook
            simp only [Option.getD_some] at hlook
            obtain ⟨b, off, fa, fc, rfl, hbl, z0, z1, z2, z3, z4, z5, z6, z7, z8, z9, z10, z11, z12⟩ := ((HR5.out.keepn hg).keepn ga) k o hok2
            have gb := g_alloc (g_refl (wr.alloc (.cells #[.int .i64 v1, .int .i64 v2] 25)) none) (.cells #[.int .i64 o.ref.1, .int .i64 o.ref.2, .int .i64 o.gen, .int .i64 o.fields, .int .i64 o.mask, .int .i64 o.state, .int .i64 o.owner, .slice fa o.F.length fc] 34)
            have HX := Lib.hid (HXv.keepn gb)
            have HO2 := Lib.hid (Blk.new (wr.alloc (.cells #[.int .i64 v1, .int .i64 v2] 25)) #[.int .i64 o.ref.1, .int .i64 o.ref.2, .int .i64 o.gen, .int .i64 o.fields, .int .i64 o.mask, .int .i64 o.state, .int .i64 o.owner, .slice fa o.F.length fc] 34)
            have hsy : (wr.alloc (.cells #[.int .i64 v1, .int .i64 v2] 25)).heap.size = wr.heap.size + 1 := by simp
            rw [hsy] at HO2
            have HG := Lib.hid (g_trans hg (g_trans ga gb))
            have HCS := Lib.hid (And.intro hcs (And.intro hcl hobj))
            have HOKS := Lib.hid (fun x hx => And.intro (((hok x hx).1.keepn (g_trans ga gb)).mono (g_trans ga gb).size) (hok x hx).2)
            have HRW := Lib.hid (own_keepn hrw (g_trans ga gb))
            have HSL := Lib.hid (fun g (e : sv.ownBlock = some g) => (own_lt hrw e).2)
            have HFA := Lib.hid (And.intro (z8.keep gb) (And.intro z9 (And.intro z10 (And.intro z11 z12))))
            have HOW : Hid (WO o) := Lib.hid (HW.out o (List.mem_of_getElem? hok2))
            have HOL : Hid (o.F.length ≤ 1000) := Lib.hid (HF0.out o (List.mem_of_getElem? hok2))
            clear HXv hcs hcl hok hrw hvq hvo hix hok2 hor hobj
            obtain ⟨vb, hvb⟩ : ∃ vb, wr.heap.size = vb := ⟨_, rfl⟩
            rw [hvb] at HX HO2 HSL
            obtain ⟨ob2, hob2⟩ : ∃ ob2, vb + 1 = ob2 := ⟨_, rfl⟩
            rw [hob2] at HO2
            go_upto_region 15 with fail
            generalize (wr.alloc (.cells #[.int .i64 v1, .int .i64 v2] 25)).alloc (.cells #[.int .i64 o.ref.1, .int .i64 o.ref.2, .int .i64 o.gen, .int .i64 o.fields, .int .i64 o.mask, .int .i64 o.state, .int .i64 o.owner, .slice fa o.F.length fc] 34) = W at *
            obtain ⟨⟨r1, r2⟩, hr⟩ : ∃ r, asP (nm met) (v1, v2) = r := ⟨_, rfl⟩
            have HRE := Lib.hid hr
            have HA1 : Hid (∀ w', W.grownBy w' none → Calls Try.prog 23 #[.agg #[.int .i64 v1, .int .i64 v2], .pointer (some ⟨pn, 0, none⟩)] w' fun e w2 => e = .returned (.agg #[.int .i64 r1, .int .i64 r2]) ∧ w'.grownBy w2 none) := Lib.hid (fun w' g => by
              have h := HAS.out w' (g_trans HG.out g) (v1, v2) HVV.out
              simp only [hr] at h; exact h)
            clear hr hlook x0 x1 y0 y1 z0 z1 z2 z3 z4 z5 z6 z7 z8 z9 z10 z11 z12
            go_cut [16] (fun s16 wx => ∃ xb, s16 = .pointer (some ⟨xb, 0, none⟩) ∧ Blk wx xb #[.int .i64 r1, .int .i64 r2, .int .i64 o.gen, .int .i64 o.fields, .int .i64 o.mask, .int .i64 o.state, .int .i64 o.owner, .slice none 0 0] 34 ∧ W.grownBy wx none ∧ W.heap.size ≤ xb)
            case first =>
              refine wp_region_held_drew (S := fun W' => W.grownBy W' none) (by kernel_rfl) (g_drew (g_refl _ _)) (fun hHeld => ?_)
              refine wpAnyH_take (i := 0) (v := .func (.func 23) #[] #[.pointer (some ⟨pn, 0, none⟩)]) rfl (by kernel_rfl) (by kernel_rfl) (by kernel_rfl) (fun _ _ _ h => h) (Or.inl ⟨by rfl, fun w hw => by clear hw; go_simp⟩) hHeld ?_
              try simp only [Act.put, List.setIfInBounds_toArray, List.set_cons_zero, List.set_cons_succ, List.getElem_toArray, List.getElem_cons_zero, List.getElem_cons_succ]
              refine wpAnyH_take (i := 1) (v := .agg #[.int .i64 v1, .int .i64 v2]) rfl (by kernel_rfl) (by kernel_rfl) (by kernel_rfl) (fun _ _ _ h => h) (Or.inl ⟨by rfl, fun w hw => by have q0 := hw.cell (HX.out.cell 0 _ rfl) (by simp); have q1 := hw.cell (HX.out.cell 1 _ rfl) (by simp); clear hw; go_simp⟩) hHeld ?_
              try simp only [Act.put, List.setIfInBounds_toArray, List.set_cons_zero, List.set_cons_succ, List.getElem_toArray, List.getElem_cons_zero, List.getElem_cons_succ]
              refine wpAnyH_take (i := 3) (v := .pointer (some ⟨ob2, 2, none⟩)) rfl (by kernel_rfl) (by kernel_rfl) (by kernel_rfl) (fun _ _ _ h => h) (Or.inl ⟨by rfl, fun w hw => by clear hw; go_simp⟩) hHeld ?_
              try simp only [Act.put, List.setIfInBounds_toArray, List.set_cons_zero, List.set_cons_succ, List.getElem_toArray, List.getElem_cons_zero, List.getElem_cons_succ]
              refine wpAnyH_take (i := 4) (v := .agg #[.int .i64 o.gen, .int .i64 o.fields, .int .i64 o.mask, .int .i64 o.state, .int .i64 o.owner]) rfl (by kernel_rfl) (by kernel_rfl) (by kernel_rfl) (fun _ _ _ h => h) (Or.inl ⟨by rfl, fun w hw => by have q2 := hw.cell (HO2.out.cell 2 _ rfl) (by simp); have q3 := hw.cell (HO2.out.cell 3 _ rfl) (by simp); have q4 := hw.cell (HO2.out.cell 4 _ rfl) (by simp); have q5 := hw.cell (HO2.out.cell 5 _ rfl) (by simp); have q6 := hw.cell (HO2.out.cell 6 _ rfl) (by simp); clear hw; go_simp⟩) hHeld ?_
              try simp only [Act.put, List.setIfInBounds_toArray, List.set_cons_zero, List.set_cons_succ, List.getElem_toArray, List.getElem_cons_zero, List.getElem_cons_succ]
              refine wpAnyH_ready (rs := [2, 6]) (by kernel_rfl) (by simp) (AllReadyH.cons rfl (fun K hK => ?_) (AllReadyH.cons rfl (fun K hK => ?_) (AllReadyH.nil)))
              · go_simp
                refine Calls.mono (HA1.out _ hHeld) ?_
                rintro e wc1 ⟨rfl, gc1⟩
                try go_wp2_with fail
                refine hK.out _ _ (g_trans hHeld gc1) (fun hHeld => ?_)
                clear hK K gc1
                try simp only [Act.put, List.setIfInBounds_toArray, List.set_cons_zero, List.set_cons_succ, List.getElem_toArray, List.getElem_cons_zero, List.getElem_cons_succ]
                refine wpAnyH_take (i := 5) (v := .agg #[.int .i64 r1, .int .i64 r2, .int .i64 o.gen, .int .i64 o.fields, .int .i64 o.mask, .int .i64 o.state, .int .i64 o.owner, .slice none 0 0]) rfl (by kernel_rfl) (by kernel_rfl) (by kernel_rfl) (fun _ _ _ h => h) (Or.inl ⟨by rfl, fun w hw => by clear hw; go_simp⟩) hHeld ?_
                try simp only [Act.put, List.setIfInBounds_toArray, List.set_cons_zero, List.set_cons_succ, List.getElem_toArray, List.getElem_cons_zero, List.getElem_cons_succ]
                refine wpAnyH_ready (rs := [6]) (by kernel_rfl) (by simp) (AllReadyH.cons rfl (fun K hK => ?_) AllReadyH.nil)
                · go_simp
                  have HZ := Lib.hid hHeld.size
                  have BZ := Lib.hid (newZ34 wc1)
                  have gm := g_trans hHeld (g_newZ34 wc1)
                  refine hK.out _ _ gm (fun hHeld => ?_)
                  clear hK K gm
                  try simp only [Act.put, List.setIfInBounds_toArray, List.set_cons_zero, List.set_cons_succ, List.getElem_toArray, List.getElem_cons_zero, List.getElem_cons_succ]
                  refine wpAnyH_ready (rs := [7]) (by kernel_rfl) (by simp) (AllReadyH.cons rfl (fun K hK => ?_) AllReadyH.nil)
                  rw [if_pos (by rfl)]
                  refine wp_store_mid 34 _ _ rfl _ 0 #[.int .i64 r1, .int .i64 r2, .int .i64 o.gen, .int .i64 o.fields, .int .i64 o.mask, .int .i64 o.state, .int .i64 o.owner, .slice none 0 0] rfl rfl BZ.out.there info34s (by simp [Value.oneCell']) ?_
                  have gS := g_in hHeld (g_setAll _ #[.int .i64 r1, .int .i64 r2, .int .i64 o.gen, .int .i64 o.fields, .int .i64 o.mask, .int .i64 o.state, .int .i64 o.owner, .slice none 0 0].toList 0 _ _ (g_refl (wc1.alloc (.cells #[.int .i64 0, .int .i64 0, .int .i64 0, .int .i64 0, .int .i64 0, .int .i64 0, .int .i64 0, .slice none 0 0] 34)) _)) HZ.out
                  have BX := Lib.hid (BZ.out.setAll #[.int .i64 r1, .int .i64 r2, .int .i64 o.gen, .int .i64 o.fields, .int .i64 o.mask, .int .i64 o.state, .int .i64 o.owner, .slice none 0 0] (rfl))
                  refine hK.out _ _ gS (fun hHeld => ?_)
                  clear hK K
                  try simp only [Act.put, List.setIfInBounds_toArray, List.set_cons_zero, List.set_cons_succ, List.getElem_toArray, List.getElem_cons_zero, List.getElem_cons_succ]
                  refine wpAnyH_done (by kernel_rfl) ?_ _
                  go_wp2_with fail
                  go_meet
                  exact ⟨_, rfl, BX.out, hHeld, HZ.out⟩
              · go_simp
                have HZ := Lib.hid hHeld.size
                have BZ := Lib.hid (newZ34 W.drew)
                have gm := g_trans hHeld (g_newZ34 W.drew)
                refine hK.out _ _ gm (fun hHeld => ?_)
                clear hK K gm
                try simp only [Act.put, List.setIfInBounds_toArray, List.set_cons_zero, List.set_cons_succ, List.getElem_toArray, List.getElem_cons_zero, List.getElem_cons_succ]
                refine wpAnyH_ready (rs := [2]) (by kernel_rfl) (by simp) (AllReadyH.cons rfl (fun K hK => ?_) (AllReadyH.nil))
                · go_simp
                  refine Calls.mono (HA1.out _ hHeld) ?_
                  rintro e wc2 ⟨rfl, gc2⟩
                  try go_wp2_with fail
                  have BZ := Lib.hid (BZ.out.keepn gc2)
                  refine hK.out _ _ (g_trans hHeld gc2) (fun hHeld => ?_)
                  clear hK K gc2
                  try simp only [Act.put, List.setIfInBounds_toArray, List.set_cons_zero, List.set_cons_succ, List.getElem_toArray, List.getElem_cons_zero, List.getElem_cons_succ]
                  refine wpAnyH_take (i := 5) (v := .agg #[.int .i64 r1, .int .i64 r2, .int .i64 o.gen, .int .i64 o.fields, .int .i64 o.mask, .int .i64 o.state, .int .i64 o.owner, .slice none 0 0]) rfl (by kernel_rfl) (by kernel_rfl) (by kernel_rfl) (fun _ _ _ h => h) (Or.inl ⟨by rfl, fun w hw => by clear hw; go_simp⟩) hHeld ?_
                  try simp only [Act.put, List.setIfInBounds_toArray, List.set_cons_zero, List.set_cons_succ, List.getElem_toArray, List.getElem_cons_zero, List.getElem_cons_succ]
                  refine wpAnyH_ready (rs := [7]) (by kernel_rfl) (by simp) (AllReadyH.cons rfl (fun K hK => ?_) AllReadyH.nil)
                  rw [if_pos (by rfl)]
                  refine wp_store_mid 34 _ _ rfl _ 0 #[.int .i64 r1, .int .i64 r2, .int .i64 o.gen, .int .i64 o.fields, .int .i64 o.mask, .int .i64 o.state, .int .i64 o.owner, .slice none 0 0] rfl rfl BZ.out.there info34s (by simp [Value.oneCell']) ?_
                  have gS := g_in hHeld (g_setAll _ #[.int .i64 r1, .int .i64 r2, .int .i64 o.gen, .int .i64 o.fields, .int .i64 o.mask, .int .i64 o.state, .int .i64 o.owner, .slice none 0 0].toList 0 _ _ (g_refl wc2 _)) HZ.out
                  have BX := Lib.hid (BZ.out.setAll #[.int .i64 r1, .int .i64 r2, .int .i64 o.gen, .int .i64 o.fields, .int .i64 o.mask, .int .i64 o.state, .int .i64 o.owner, .slice none 0 0] (rfl))
                  refine hK.out _ _ gS (fun hHeld => ?_)
                  clear hK K
                  try simp only [Act.put, List.setIfInBounds_toArray, List.set_cons_zero, List.set_cons_succ, List.getElem_toArray, List.getElem_cons_zero, List.getElem_cons_succ]
                  refine wpAnyH_done (by kernel_rfl) ?_ _
                  go_wp2_with fail
                  go_meet
                  exact ⟨_, rfl, BX.out, hHeld, HZ.out⟩
            case rest =>
              obtain ⟨xb, rfl, hxb, hgx, hxz⟩ := hcut
              rename World => wA
              have c2 := hxb.cell 2 (.int .i64 o.gen) rfl
              have f2 := hxb.free 2
              have gs := g_set (g_refl wA (some xb)) (p := ⟨xb, 2, none⟩) (.inl rfl) (.int .i64 1)
              have HXB : Hid (Blk (wA.setCell ⟨xb, 2, none⟩ (.int .i64 1)) xb #[.int .i64 r1, .int .i64 r2, .int .i64 1, .int .i64 o.fields, .int .i64 o.mask, .int .i64 o.state, .int .i64 o.owner, .slice none 0 0] 34) := Lib.hid (by
                have h := hxb.set 2 (.int .i64 1)
                simpa using h)
              have hobx : ob2 ≠ xb := by have := HO2.out.lt; omega
              have HGAB := Lib.hid (g_in hgx gs hxz)
              have HO3 := Lib.hid (HO2.out.keepn HGAB.out)
              have hBsz : W.heap.size ≤ (wA.setCell ⟨xb, 2, none⟩ (.int .i64 1)).heap.size := HGAB.out.size
              clear hgx gs
              go_upto_region 17 with fail
              clear c2 f2
              generalize wA.setCell ⟨xb, 2, none⟩ (.int .i64 1) = wB at *
              clear hxb
              have e7 := HO3.out.cell 7 (.slice fa o.F.length fc) rfl
              obtain ⟨fl, hfl⟩ : ∃ fl, o.F.length = fl := ⟨_, rfl⟩
              rw [hfl] at e7
              have HFL := Lib.hid hfl
              have hf1000 : fl ≤ 1000 := by rw [← hfl]; exact HOL.out
              have hfc : fl ≤ fc ∧ fc ≤ 9223372036854775807 := by have h := HFA.out.2.2; rw [hfl] at h; exact ⟨h.1, h.2.1⟩
              have HFR : Hid (∀ wr, wB.grownBy wr (some xb) → SRow wr fa o.F) := Lib.hid (fun wr g => (HFA.out.1.keep HGAB.out).keepr g (fun a e hne q => by
                have h1 := HFA.out.2.1 a e hne
                have h2 : a.block = xb := (Option.some.inj q).symm
                have h3 := HG.out.size
                have h4 := G5.out.size
                omega))
              have HXL := HXB.out.lt
              clear hfl
              go_wp2_with fail
              clear e7
              go_loopw [65] (fun i wr => ∃ (q : Nat) (xs : Value), i = .int .i64 q ∧ q ≤ fl ∧ Blk wr xb #[.int .i64 r1, .int .i64 r2, .int .i64 1, .int .i64 o.fields, .int .i64 o.mask, .int .i64 o.state, .int .i64 o.owner, xs] 34 ∧ wr.ownsRow wB.heap.size 25 2 xs q (scl ((o.F.take q).map (asP (nm met)))) ∧ wB.grownBy wr (some xb)) (fun i _ => (fl - intOf i).toNat)
              case atStart => exact ⟨0, _, rfl, Nat.zero_le _, HXB.out, World.ownsRow_nil _ _ _ _, g_refl _ _⟩
              case round =>
                obtain ⟨q, xs, rfl, hq, hxf, hrx, hgf⟩ := hrel
                obtain ⟨xo, xc, rfl, hsx, hsxb⟩ := srow_of_own hrx
                by_cases hlt3 : q < fl
                · have hqi : (q : Int) < fl := by omega
                  have hqq : ¬ (fl : Int) ≤ q := by omega
                  obtain ⟨f, hfq⟩ : ∃ f, o.F[q]? = some f := ⟨o.F[q]'(by rw [HFL.out]; omega), List.getElem?_eq_getElem _⟩
                  obtain ⟨gb2, goff, rfl, y0, y1⟩ := HFR.out wr hgf q f hfq
                  have HFQ := Lib.hid hfq
                  have HFW := Lib.hid (HOW.out.2 f (List.mem_of_getElem? hfq))
                  obtain ⟨f1, f2⟩ := f
                  simp only at y0 y1
                  obtain ⟨⟨s1, s2⟩, hse⟩ : ∃ r, asP (nm met) (f1, f2) = r := ⟨_, rfl⟩
                  have HSE := Lib.hid hse
                  have ga := g_alloc (g_refl wr none) (.cells #[.int .i64 f1, .int .i64 f2] 25)
                  have HXF := Lib.hid (hxf.keepn ga)
                  have HRX := Lib.hid (own_keepn hrx ga)
                  have HGF := Lib.hid (g_then hgf ga)
                  have HFB := Lib.hid (Blk.new wr #[.int .i64 f1, .int .i64 f2] 25)
                  have HA2 : Hid (∀ w', (wr.alloc (.cells #[.int .i64 f1, .int .i64 f2] 25)).grownBy w' none → Calls Try.prog 23 #[.agg #[.int .i64 f1, .int .i64 f2], .pointer (some ⟨pn, 0, none⟩)] w' fun e w2 => e = .returned (.agg #[.int .i64 s1, .int .i64 s2]) ∧ w'.grownBy w2 none) := Lib.hid (fun w' g => by
                    have h := HAS.out w' (g_trans (g_in (g_trans HG.out HGAB.out) HGF.out (by have := HG.out.size; omega)) g) (f1, f2) HFW.out
                    simp only [hse] at h; exact h)
                  have hab : (Value.slice xo q xc).ownBlock ≠ some xb := fun e => by have := (own_lt hrx e).1; omega
                  have hxfb : xb ≠ wr.heap.size := by have := hxf.lt; omega
                  have hWf : wB.heap.size ≤ (wr.alloc (.cells #[.int .i64 f1, .int .i64 f2] 25)).heap.size := Nat.le_trans hgf.size ga.size
                  clear hfq hse hxf hrx hgf ga hsx hsxb
                  go_upto_region 20 with fail
                  clear y0 y1
                  generalize wr.alloc (.cells #[.int .i64 f1, .int .i64 f2] 25) = Wf at *
                  have t0 := HFB.out.cell 0 (.int .i64 f1) rfl
                  have t1 := HFB.out.cell 1 (.int .i64 f2) rfl
                  have c7 := HXF.out.cell 7 (.slice xo q xc) rfl
                  have HC7 := Lib.hid c7
                  have HF7 := Lib.hid (HXF.out.free 7)
                  have hlb := HXF.out.lt
                  go_region_law ((first | (go_simp; refine Calls.mono (HA2.out _ (g_drew (g_refl _ _))) ?_; rintro e wt ⟨rfl, gt⟩; have GT := Lib.hid (g_trans (g_drew (g_refl Wf none)) gt); have c7t := GT.out.cell HC7.out (by simp); have NB := Lib.hid (Blk.new wt #[.int .i64 s1, .int .i64 s2] 25); have GX := Lib.hid (g_trans GT.out (g_alloc (g_refl wt none) (.cells #[.int .i64 s1, .int .i64 s2] 25))); have c7x := GX.out.cell HC7.out (by simp); have hsz := GX.out.size; clear gt) | (refine step_append_lies _ (by rfl) _ _ _ (by rfl) wB.heap.size 25 k0 _ 2 16 Try.underlying27 hk hy0 hy1 hy2 rfl (by omega) (.slice xo q xc) q (scl ((o.F.take q).map (asP (nm met)))) (by rfl) (own_keepn HRX.out GX.out) ⟨wt.heap.size, 0, none⟩ 1 1 [.int .i64 s1, .int .i64 s2] (by rfl) (by rfl) (World.news_of_block (cs := #[.int .i64 s1, .int .i64 s2]) (t := 25) (fr := (0, 0)) NB.out) (by simp [Value.oneCell']) (by omega) (by unfold maxLen; omega) (by omega) (Nat.le_trans hWf GX.out.size) (wt.heap.size + 1) (by simp) ?_; intro gg cap w1 hown1 hgrow hat hlt9; have c9 := (hgrow.cell_far ⟨xb, 7, none⟩ (Nat.lt_of_lt_of_le hlb GX.out.size) (Ne.symm hab)).trans (GX.out.cell HC7.out (by simp)); have f9 := (hgrow.frozen_far ⟨xb, 7, none⟩ (Nat.lt_of_lt_of_le hlb GX.out.size) (Ne.symm hab)).trans ((GX.out.frozen_far ⟨xb, 7, none⟩ hlb (by simp)).trans HF7.out))))
                  all_goals
                    clear c9 f9
                    have hgx : gg ≠ xb := by
                      rcases hat with e | e
                      · have := (own_lt HRX.out e).1; omega
                      · have h := GX.out.size; simp at h; omega
                    have s1g := g_set (g_refl w1 (some xb)) (p := ⟨xb, 7, none⟩) (.inl rfl) (.slice (some ⟨gg, 0, none⟩) (q + 1) cap)
                    have HBN : Hid (Blk (w1.setCell ⟨xb, 7, none⟩ (.slice (some ⟨gg, 0, none⟩) (q + 1) cap)) xb #[.int .i64 r1, .int .i64 r2, .int .i64 1, .int .i64 o.fields, .int .i64 o.mask, .int .i64 o.state, .int .i64 o.owner, .slice (some ⟨gg, 0, none⟩) (q + 1) cap] 34) := Lib.hid (by
                      have h := ((HXF.out.keepn GX.out).keep hgrow (Ne.symm hab)).set 7 (.slice (some ⟨gg, 0, none⟩) (q + 1) cap)
                      simpa using h)
                    have HRN := Lib.hid (World.ownsRow.kept hown1 s1g (.inr (by simp only [Value.ownBlock, ne_eq, Option.some.injEq]; exact hgx)))
                    have HGN := Lib.hid (g_trans (g_own (g_then HGF.out GX.out) (own_keepn HRX.out GX.out) hgrow) s1g)
                    clear hown1 hgrow hat hlt9 s1g
                    go_wp2_with fail
                    go_roundw
                    case rel =>
                      refine ⟨q + 1, .slice (some ⟨gg, 0, none⟩) (q + 1) cap, by go_num, by omega, HBN.out, ?_, HGN.out⟩
                      have e : scl ((o.F.take (q + 1)).map (asP (nm met))) = scl ((o.F.take q).map (asP (nm met))) ++ [.int .i64 s1, .int .i64 s2] := by
                        rw [List.take_add_one, HFQ.out, Option.toList_some, List.map_append]
                        simp only [List.map_cons, List.map_nil, HSE.out]
                        exact scl_append _ _
                      rw [e]; exact HRN.out
                    case measure => simp [intOf]; omega
                · obtain rfl : fl = q := by omega
                  have hqq : ¬ (fl : Int) < fl := by omega
                  rw [List.take_of_length_le (by rw [HFL.out]; exact Nat.le_refl _)] at hsx hrx
                  have hlx := len_own hrx
                  have hmlen : (o.F.map (asP (nm met))).length = fl := by rw [List.length_map, HFL.out]
                  have HXF := Lib.hid hxf
                  have HSX := Lib.hid hsx
                  have HXB2 := Lib.hid hsxb
                  have HGF := Lib.hid hgf
                  have HNI : Hid (xo = none → o.F.map (asP (nm met)) = []) := Lib.hid (fun e => by
                    subst e
                    rcases hrx.2 with ⟨e1, e2⟩ | ⟨g, cap, cur, e1, _⟩
                    · have h := hmlen
                      rw [e2] at h
                      exact List.eq_nil_of_length_eq_zero h
                    · cases e1)
                  have HRW1 := Lib.hid ((own_keepn HRW.out HGAB.out).kept hgf (.inr (fun e => by have h1 := HSL.out _ e; have h2 := HG.out.size; have h3 := HX.out.lt; omega)))
                  have HGR := Lib.hid (g_in (g_trans HG.out HGAB.out) hgf (by have := HG.out.size; omega))
                  have HOKS1 := Lib.hid (fun x hx => And.intro ((((HOKS.out x hx).1.keepn HGAB.out).keepr hgf (fun a e hne q => by
                    have h1 := (HOKS.out x hx).1.2.1 a e hne
                    have h2 : a.block = xb := (Option.some.inj q).symm
                    omega)).mono (Nat.le_trans HGAB.out.size hgf.size)) (And.intro (HOKS.out x hx).2 (fun a e hne => Nat.lt_of_lt_of_le ((HOKS.out x hx).1.2.1 a e hne) hBsz)))
                  have HOC : Hid (ocl [(ren Ls met (v1, v2), xo, xc)] = [.int .i64 r1, .int .i64 r2, .int .i64 1, .int .i64 o.fields, .int .i64 o.mask, .int .i64 o.state, .int .i64 o.owner, .slice xo fl xc]) := Lib.hid (by
                    simp only [ocl, oc, ren, HCS.out.2.2, HRE.out, hmlen]; rfl)
                  have HRF : Hid ((ren Ls met (v1, v2)).F = o.F.map (asP (nm met))) := Lib.hid (by simp only [ren, HCS.out.2.2])
                  clear hsx hrx hxf hsxb hgf
                  go_upto_region 22 with fail
                  obtain ⟨wC, hwC⟩ : ∃ wC : World, wC = wr := ⟨_, rfl⟩
                  rw [← hwC] at HXF HSX HXB2 HRW1 HGR HOKS1 HGF ⊢
                  clear hwC
                  have e0 := HXF.out.cell 0 (.int .i64 r1) rfl
                  have e1 := HXF.out.cell 1 (.int .i64 r2) rfl
                  have e2 := HXF.out.cell 2 (.int .i64 1) rfl
                  have e3 := HXF.out.cell 3 (.int .i64 o.fields) rfl
                  have e4 := HXF.out.cell 4 (.int .i64 o.mask) rfl
                  have e5 := HXF.out.cell 5 (.int .i64 o.state) rfl
                  have e6 := HXF.out.cell 6 (.int .i64 o.owner) rfl
                  have e7 := HXF.out.cell 7 (.slice xo fl xc) rfl
                  have HNW := Lib.hid (new_cells wC [.int .i64 r1, .int .i64 r2, .int .i64 1, .int .i64 o.fields, .int .i64 o.mask, .int .i64 o.state, .int .i64 o.owner, .slice xo fl xc] 34)
                  have hwW := HGR.out.size
                  have hwX := HXF.out.lt
                  have ga := g_alloc (g_refl wC none) (.cells #[.int .i64 r1, .int .i64 r2, .int .i64 1, .int .i64 o.fields, .int .i64 o.mask, .int .i64 o.state, .int .i64 o.owner, .slice xo fl xc] 34)
                  have HRA := Lib.hid (own_keepn HRW1.out ga)
                  have HGA := Lib.hid (g_trans HGR.out ga)
                  have GA := Lib.hid ga
                  clear ga
                  go_wp2_with (at_builtin; refine wpList_append_lies _ rfl _ _ 22 rfl w5.heap.size 34 i0 (.agg #[.int .i64 0, .int .i64 0, .int .i64 0, .int .i64 0, .int .i64 0, .int .i64 0, .int .i64 0, .slice none 0 0]) 8 80 Try.underlying22 hi hz0 hz1 hz2 rfl (by decide) sv j (ocl cs) rfl HRA.out ⟨wC.heap.size, 0, none⟩ 1 1 [.int .i64 r1, .int .i64 r2, .int .i64 1, .int .i64 o.fields, .int .i64 o.mask, .int .i64 o.state, .int .i64 o.owner, .slice xo fl xc] rfl rfl HNW.out (by simp [Value.oneCell']) (by omega) (by unfold maxLen; omega) (by omega) (by simp; omega) (wC.heap.size + 1) (by simp) ?_; intro gg cap w6 hown6 hgrow hat hlt6)
                  have HE := Lib.hid (And.intro hown6 (And.intro (g_own HGA.out HRA.out hgrow) (And.intro hgrow hat)))
                  clear hown6 hgrow hat hlt6 e0 e1 e2 e3 e4 e5 e6 e7
                  go_roundw
                  case rel =>
                    have hgr := HE.out.2.2.1
                    have hat := HE.out.2.2.2
                    refine ⟨j + 1, cs ++ [(ren Ls met (v1, v2), xo, xc)], by go_num, by omega, ?_, by rw [List.length_append, HCS.out.2.1]; rfl, ?_, ?_, HE.out.2.1⟩
                    · rw [List.take_add_one, HXQ.out, Option.toList_some, List.map_append, List.map_append, HCS.out.1]
                      rfl
                    · rw [ocl_append, show ocl [(ren Ls met (v1, v2), xo, xc)] = _ from HOC.out]
                      exact HE.out.1
                    · intro y hy
                      have hsz6 : wC.heap.size + 1 ≤ w6.heap.size := by have h := hgr.size; simpa using h
                      rcases List.mem_append.1 hy with h | h
                      · obtain ⟨h1, h2, h3⟩ := HOKS1.out y h
                        refine ⟨((h1.keepn GA.out).keepr hgr (fun a e hne q => h2 a e hne q)).mono (by omega), fun a e hne q => ?_⟩
                        have h5 : gg = a.block := by simpa [Value.ownBlock] using q
                        rcases hat with e2 | e2
                        · exact h2 a e hne (by rw [e2, h5])
                        · have h4 := h1.2.1 a e hne
                          omega
                      · simp only [List.mem_singleton] at h
                        subst h
                        have hob : ∀ a, xo = some a → sv.ownBlock ≠ some a.block := fun a e q => by
                          have h1 := HSL.out _ q
                          have h2 := (HXB2.out a e).1
                          have h3 := HX.out.lt
                          omega
                        refine ⟨⟨?_, fun a e hne => ?_, ?_, hlx.2, fun e => ?_⟩, fun a e hne q => ?_⟩
                        · show SRow w6 xo (ren Ls met (v1, v2)).F
                          rw [HRF.out]
                          exact (HSX.out.keep GA.out).keepr hgr (fun a e _ => hob a e)
                        · have h2 := (HXB2.out a e).2
                          omega
                        · show (ren Ls met (v1, v2)).F.length ≤ xc
                          rw [HRF.out, hmlen]; exact hlx.1
                        · show (ren Ls met (v1, v2)).F = []
                          rw [HRF.out]; exact HNI.out e
                        · have h5 : gg = a.block := by simpa [Value.ownBlock] using q
                          have h2 := (HXB2.out a e).2
                          rcases hat with e2 | e2
                          · exact hob a e (by rw [e2, h5])
                          · omega
                  case measure => simp [intOf]; omega
        · obtain rfl : ml = j := by omega
          have hjj2 : ¬ (ml : Int) < ml := by omega
          rw [List.take_of_length_le (by rw [HML.out]; exact Nat.le_refl _)] at hcs
          obtain ⟨wD, hwD⟩ : ∃ wD : World, wD = wr := ⟨_, rfl⟩
          rw [← hwD] at hrw hok hg ⊢
          clear hwD
          obtain ⟨sv, hsv⟩ : ∃ sv, u12 = sv := ⟨_, rfl⟩
          rw [hsv] at hrw hok ⊢
          have HRW := Lib.hid hrw
          have HOKS := Lib.hid hok
          have HCS := Lib.hid hcs
          have G6 := Lib.hid hg
          have HSLT := Lib.hid (fun g (e : sv.ownBlock = some g) => (own_lt hrw e).2)
          have HS6 := Lib.hid (HS5.out.keep hg)
          clear hrw hok hcs hcl hg
          go_wp2_with fail
          go_loopw [19, 85] (fun t i wr => ∃ (q : Nat), i = .int .i64 q ∧ q ≤ rn ∧ wr.ownsRow wD.heap.size 25 2 t q (scl ((R.take q).map (asP (nm met)))) ∧ wD.grownBy wr none) (fun _ i _ => (rn - intOf i).toNat)
          case atStart => exact ⟨0, rfl, by omega, World.ownsRow_nil _ _ _ _, g_refl _ _⟩
          case round =>
            obtain ⟨q, rfl, hq, hrt, hg⟩ := hrel
            by_cases hlt4 : q < rn
            · have hqi : (q : Int) < rn := by omega
              have hqq : ¬ (rn : Int) ≤ q := by omega
              obtain ⟨f, hfq⟩ : ∃ f, R[q]? = some f := ⟨R[q]'(by rw [HRL.out]; omega), List.getElem?_eq_getElem _⟩
              obtain ⟨gb2, goff, rfl, y0, y1⟩ := HS6.out.keep hg q f hfq
              have HFQ := Lib.hid hfq
              have HFW := Lib.hid (HV.out f (List.mem_of_getElem? hfq))
              obtain ⟨f1, f2⟩ := f
              simp only at y0 y1
              obtain ⟨⟨s1, s2⟩, hse⟩ : ∃ r, asP (nm met) (f1, f2) = r := ⟨_, rfl⟩
              have HSE := Lib.hid hse
              obtain ⟨tv, htv⟩ : ∃ tv, u19 = tv := ⟨_, rfl⟩
              rw [htv] at hrt ⊢
              have ga := g_alloc (g_refl wr none) (.cells #[.int .i64 f1, .int .i64 f2] 25)
              have HFB := Blk.new wr #[.int .i64 f1, .int .i64 f2] 25
              have t0 := HFB.cell 0 (.int .i64 f1) rfl
              have t1 := HFB.cell 1 (.int .i64 f2) rfl
              have HRT := Lib.hid (own_keepn hrt ga)
              have HGT := Lib.hid (g_trans hg ga)
              have HA2 := HAS.out (wr.alloc (.cells #[.int .i64 f1, .int .i64 f2] 25)) (g_trans G6.out HGT.out) (f1, f2) HFW.out
              simp only [hse] at HA2
              have HA3 := Lib.hid HA2
              clear hfq hse hrt hg ga HFB HA2
              go_wp2_with fail
              refine HA3.out.mono ?_
              rintro e w6 ⟨rfl, g6⟩
              have gc := g_alloc (g_refl w6 none) (.cells #[.int .i64 s1, .int .i64 s2] 25)
              have HNW := Lib.hid (new_cells w6 [.int .i64 s1, .int .i64 s2] 25)
              have HRA := Lib.hid (own_keepn (own_keepn HRT.out g6) gc)
              have HGA := Lib.hid (g_trans (g_trans HGT.out g6) gc)
              have hzA : wD.heap.size ≤ w6.heap.size + 1 := by have h := HGA.out.size; simpa using h
              clear g6 gc y0 y1 t0 t1
              go_wp2_with (at_builtin; refine wpList_append_lies _ rfl _ _ 27 rfl wD.heap.size 25 k0 (.agg #[.int .i64 0, .int .i64 0]) 2 16 Try.underlying27 hk hy0 hy1 hy2 rfl (by decide) tv q (scl ((R.take q).map (asP (nm met)))) rfl HRA.out ⟨w6.heap.size, 0, none⟩ 1 1 [.int .i64 s1, .int .i64 s2] rfl rfl HNW.out (by simp [Value.oneCell']) (by omega) (by unfold maxLen; omega) (by omega) (by simp; omega) (w6.heap.size + 1) (by simp) ?_; intro gg cap w7 hown7 hgrow hat hlt7)
              have HE := Lib.hid (And.intro hown7 (g_own HGA.out HRA.out hgrow))
              clear hown7 hgrow hat hlt7
              go_roundw
              case rel =>
                refine ⟨q + 1, by go_num, by omega, ?_, HE.out.2⟩
                have e : scl ((R.take (q + 1)).map (asP (nm met))) = scl ((R.take q).map (asP (nm met))) ++ [.int .i64 s1, .int .i64 s2] := by
                  rw [List.take_add_one, HFQ.out, Option.toList_some, List.map_append]
                  simp only [List.map_cons, List.map_nil, HSE.out]
                  exact scl_append _ _
                rw [e]; exact HE.out.1
              case measure => simp [intOf]; omega
            · obtain rfl : rn = q := by omega
              have hqq : ¬ (rn : Int) < rn := by omega
              rw [List.take_of_length_le (by rw [HRL.out]; exact Nat.le_refl _)] at hrt
              have HRT := Lib.hid hrt
              have HGT := Lib.hid hg
              clear hrt hg
              go_wp2_with fail
              go_ret2
              exact ⟨_, _, rfl, met, HWL.out, by rw [HML.out]; exact hml, cs, by rw [HML.out]; exact own_base (own_keepn HRW.out HGT.out) G5.out.size, HCS.out, (fun a a1 b h => ((HOKS.out _ h).1.keepn HGT.out).mono HGT.out.size), own_base HRT.out (g_trans G5.out G6.out).size, g_trans G5.out (g_trans G6.out HGT.out)⟩

end Go.Proofs.Ytkkcfielmpjgeaa
