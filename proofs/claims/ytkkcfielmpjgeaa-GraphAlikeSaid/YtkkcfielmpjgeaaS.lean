/- THE WALK: GraphAlike. -/
import Derived.Test.YtkkcfielmpjgeaaR
import Derived.Test.YtkkcfielmpjgeaaShapes
namespace Go.Proofs.Ytkkcfielmpjgeaa
open Go.RowKit
set_option linter.unusedVariables false
set_option linter.unusedSimpArgs false

theorem ren_F {Ls : List OB} {met : List VV} (h : ∀ o ∈ Ls, o.F.length ≤ 1000) : ∀ o ∈ renP Ls met, o.F.length ≤ 1000 := by
  intro o ho
  obtain ⟨v, hv, rfl⟩ := List.mem_map.1 ho
  unfold ren
  split
  · rename_i o' he
    simp only [List.length_map]
    exact h o' (obj_some he).1
  · simp
theorem ren_wf {Ls : List OB} {met : List VV} (hl : met.length ≤ 1000) (hm : ∀ v ∈ met, WV v) (h : ∀ o ∈ Ls, WO o) : ∀ o ∈ renP Ls met, WO o := by
  intro o ho
  obtain ⟨v, hv, rfl⟩ := List.mem_map.1 ho
  unfold ren
  split
  · rename_i o' he
    refine ⟨asP_wv hl (hm v hv), fun f hf => ?_⟩
    obtain ⟨f', hf', rfl⟩ := List.mem_map.1 hf
    exact asP_wv hl ((h o' (obj_some he).1).2 f' hf')
  · exact ⟨asP_wv hl (hm v hv), fun f hf => by simp at hf⟩

set_option maxRecDepth 100000 in
theorem vals_any (ro : Option Addr) (rn rc : Nat) (R : List VV) (w : World) (hs : SRow w ro R) (hl : R.length = rn) (hc : rn ≤ rc) :
    Calls Try.prog 9 #[.slice ro rn rc] w fun e w' => e = .returned (.slice ro (R.take 10).length rc) ∧ w' = w := by
  have HL := Lib.hid hl
  by_cases h : 10 < rn
  · have h1 : (10 : Int) < rn := by omega
    have h2 : ¬ rc < 10 := by omega
    obtain ⟨p, hp⟩ : ∃ p, R[0]? = some p := ⟨R[0]'(by omega), List.getElem?_eq_getElem _⟩
    obtain ⟨b, off, rfl, -, -⟩ := hs 0 p hp
    have e : (R.take 10).length = 10 := by rw [List.length_take, hl]; omega
    rw [e]
    clear hs hl hp e
    go_enter Try.func9, Try.ntmps9
    go_wp2_with fail
    go_ret
    exact ⟨rfl, rfl⟩
  · have h1 : ¬ (10 : Int) < rn := by omega
    have e : (R.take 10).length = rn := by rw [List.length_take, hl]; omega
    rw [e]
    clear hs hl e
    go_enter Try.func9, Try.ntmps9
    go_wp2_with fail
    go_ret
    exact ⟨rfl, rfl⟩

set_option maxRecDepth 100000 in
set_option maxHeartbeats 3200000 in
theorem alike_any (B1 B2 : Nat) (ao : Option Addr) (n c : Nat) (Ls : List OB) (ro : Option Addr) (rn rc : Nat) (R : List VV) (xo : Option Addr) (xn xc : Nat) (Xs : List OB) (uo : Option Addr) (un uc : Nat) (U : List VV) (w : World)
    (hR : ORow w B1 ao Ls) (hB : B1 ≤ w.heap.size) (hW : ∀ o ∈ Ls, WO o) (hl : Ls.length = n) (hn : n ≤ 1000) (hs : SRow w ro R) (hrl : R.length = rn) (hrc : rn ≤ 1000) (hv : ∀ v ∈ R, WV v) (hF : ∀ o ∈ Ls, o.F.length ≤ 1000)
    (kR : ORow w B2 xo Xs) (kB : B2 ≤ w.heap.size) (kW : ∀ o ∈ Xs, WO o) (kl : Xs.length = xn) (kn : xn ≤ 1000) (ks : SRow w uo U) (krl : U.length = un) (krc : un ≤ 1000) (kv : ∀ v ∈ U, WV v) (kF : ∀ o ∈ Xs, o.F.length ≤ 1000)
    (hEq : ∀ m1 m2, Wlk (V Ls ia) (sc Ls) [] R m1 → Wlk (V Xs ia) (sc Xs) [] U m2 → renP Ls m1 = renP Xs m2 ∧ R.map (asP (nm m1)) = U.map (asP (nm m2))) :
    Calls Try.prog 13 #[.slice ao n c, .slice ro rn rc, .slice xo xn xc, .slice uo un uc] w fun e w' => e = .returned (.bool true) ∧ w.grownBy w' none := by
  have H1 := Lib.hid (rename_any B1 ao n c Ls ro rn rc R w hR hB hW hl hn hs hrl hrc hv hF)
  have H2 := Lib.hid (fun (w1 : World) (g : w.grownBy w1 none) => rename_any B2 xo xn xc Xs uo un uc U w1 (kR.keepn g) (Nat.le_trans kB g.size) kW kl kn (ks.keep g) krl krc kv kF)
  have HEQ := Lib.hid hEq
  have HF := Lib.hid hF
  have HL := Lib.hid (And.intro hl (And.intro hrl krl))
  clear hR hB hW hl hs hrl hv hF kR kB kW kl ks krl kv kF hEq
  go_enter Try.func13, Try.ntmps13
  go_wp2_with fail
  refine H1.out.mono ?_
  rintro e w1 ⟨xv, uv, m1, cs1, rfl, hw1, hm1, ho1, hc1, hk1, hu1, g1⟩
  obtain ⟨po, pc, rfl, hp1, hpl⟩ := orow_of_own ho1 hk1
  rw [hc1] at hp1
  obtain ⟨qo, qc, rfl, hq1, -⟩ := srow_of_own hu1
  have HP1 := Lib.hid hp1
  have HQ1 := Lib.hid hq1
  have HW1 := Lib.hid hw1
  have G1 := Lib.hid g1
  clear ho1 hc1 hk1 hu1 g1 hp1 hq1 hw1 hpl
  go_wp2_with fail
  refine (H2.out w1 G1.out).mono ?_
  rintro e w2 ⟨yv, vv, m2, cs2, rfl, hw2, hm2, ho2, hc2, hk2, hu2, g2⟩
  obtain ⟨he1, he2⟩ := HEQ.out m1 m2 HW1.out hw2
  have hlen : m2.length = m1.length := by have h := congrArg List.length he1; simpa [renP] using h.symm
  have hun : un = rn := by have h := congrArg List.length he2; simpa [HL.out.2.1, HL.out.2.2] using h.symm
  subst hun
  obtain ⟨po2, pc2, rfl, hp2, -⟩ := orow_of_own ho2 hk2
  rw [hc2, ← he1] at hp2
  obtain ⟨qo2, qc2, rfl, hq2, -⟩ := srow_of_own hu2
  rw [← he2] at hq2
  rw [hlen]
  have HVS := Lib.hid (vsame_any qo qo2 un qc qc2 _ w2 (HQ1.out.keep g2) hq2 (by rw [List.length_map, HL.out.2.1]) (by omega))
  have HEF := Lib.hid (fun (w3 : World) (g : w2.grownBy w3 none) => equalfunc_any w1.heap.size w2.heap.size po po2 m1.length pc pc2 (renP Ls m1) w3 ((HP1.out.keepn g2).keepn g) (hp2.keepn g) (by simp [renP]) (by omega) (ren_F HF.out))
  have G2 := Lib.hid (g_trans G1.out g2)
  clear ho2 hc2 hk2 hu2 g2 hp2 hq2 hw2 he1 he2 hlen
  obtain ⟨ml, hml⟩ : ∃ ml, m1.length = ml := ⟨_, rfl⟩
  rw [hml] at HEF ⊢
  clear hml
  go_wp2_with fail
  refine HVS.out.mono ?_
  rintro e w3 ⟨rfl, g3⟩
  have HE3 := Lib.hid (HEF.out w3 g3)
  have G3 := Lib.hid (g_trans G2.out g3)
  clear g3
  go_wp2_with fail
  refine HE3.out.mono ?_
  rintro e w4 ⟨rfl, g4⟩
  have G4 := Lib.hid (g_trans G3.out g4)
  clear g4
  go_wp2_with fail
  go_ret
  exact ⟨rfl, G4.out⟩

set_option maxRecDepth 100000 in
set_option maxHeartbeats 6400000 in
theorem walk_GraphAlike (a0 : Option Addr) (a0n a0c : Nat) (a1 : Option Addr) (a1n a1c : Nat) (w : World) (w0 : Vec w a0 a0n a0c 8 (Q33 w)) (w1 : Vec w a1 a1n a1c 2 (Q24)) :
    Calls Try.prog 4 #[.slice a0 a0n a0c, .slice a1 a1n a1c] w fun e w' => e = .returned (.bool true) ∧ Below w.heap.size w w' := by
  obtain ⟨Ls, hll, hR, hW⟩ := vec_objs w0
  obtain ⟨R0, hr0, hs0, hv0, -, -⟩ := vec_vals w1
  have HFE := Lib.hid (few_any a0 a0n a0c Ls w hR hll)
  obtain ⟨K, hK⟩ : ∃ K, fewP Ls = K := ⟨_, rfl⟩
  have HKW : Hid (∀ o ∈ K, WO o) := Lib.hid (by rw [← hK]; exact fewP_wf hW)
  have HKF : Hid (∀ o ∈ K, o.F.length ≤ 1000) := Lib.hid (by
    rw [← hK]
    intro o ho
    obtain ⟨o', _, rfl⟩ := List.mem_map.1 ho
    simp only [cut, List.length_take]; omega)
  have hK12 : K.length ≤ 12 := by rw [← hK]; exact fewP_length Ls
  rw [hK] at HFE
  have HVA := Lib.hid (fun (w2 : World) (g : w.grownBy w2 none) => vals_any a1 a1n a1c R0 w2 (hs0.keep g) hr0 w1.1)
  obtain ⟨R, hRR⟩ : ∃ R, R0.take 10 = R := ⟨_, rfl⟩
  have hR10 : R.length ≤ 10 := by rw [← hRR, List.length_take]; omega
  have HS0 : Hid (SRow w a1 R) := Lib.hid (fun i p hi => by
    rw [← hRR, List.getElem?_take] at hi
    split at hi
    · exact hs0 i p hi
    · cases hi)
  have HV : Hid (∀ v ∈ R, WV v) := Lib.hid (fun v hv => hv0 v (by rw [← hRR] at hv; exact List.mem_of_mem_take hv))
  rw [hRR] at HVA
  clear w0 w1 hR hW hll hK hr0 hs0 hv0 hRR
  go_enter Try.func4, Try.ntmps4
  go_wp2_with fail
  refine HFE.out.mono ?_
  rintro e w1 ⟨rv, cs, rfl, hrow, hcs, hok, g1⟩
  obtain ⟨ao, c, rfl, hor, hcl⟩ := orow_of_own hrow (fun x hx => ((hok x hx).keepn g1).mono g1.size)
  rw [hcs] at hor
  have HOR := Lib.hid hor
  have G1 := Lib.hid g1
  have HVA1 := Lib.hid (HVA.out w1 g1)
  clear hrow hcs hok hor hcl g1
  obtain ⟨n, hn⟩ : ∃ n, K.length = n := ⟨_, rfl⟩
  rw [hn] at hK12 ⊢
  have HN := Lib.hid hn
  clear hn
  go_wp2_with fail
  refine HVA1.out.mono ?_
  rintro e w1' ⟨rfl, rfl⟩
  obtain ⟨rn, hrn⟩ : ∃ rn, R.length = rn := ⟨_, rfl⟩
  rw [hrn] at hR10 ⊢
  have HRN := Lib.hid hrn
  clear hrn
  have HS1 := Lib.hid (HS0.out.keep G1.out)
  go_wp2_with fail
  refine (rename_any w1'.heap.size ao n c K a1 rn a1c R w1' HOR.out (Nat.le_refl _) HKW.out HN.out (by omega) HS1.out HRN.out (by omega) HV.out HKF.out).mono ?_
  rintro e w2 ⟨xv, uv, met, cs1, rfl, hw1, hm1, ho1, hc1, hk1, hu1, g2⟩
  obtain ⟨xo, xc, rfl, hp1, -⟩ := orow_of_own ho1 hk1
  rw [hc1] at hp1
  obtain ⟨uo, uc, rfl, hq1, -⟩ := srow_of_own hu1
  have HX := Lib.hid hp1
  have HU := Lib.hid hq1
  have HW1 := Lib.hid hw1
  have G2 := Lib.hid g2
  have hml : met.length ≤ 1000 := by omega
  have HXW := Lib.hid (ren_wf hml (walk_wv HKW.out hw1) HKW.out)
  have HXF := Lib.hid (ren_F (met := met) HKF.out)
  have HUV : Hid (∀ v ∈ R.map (asP (nm met)), WV v) := Lib.hid (fun v hv => by
    obtain ⟨v', h1, rfl⟩ := List.mem_map.1 hv
    exact asP_wv hml (HV.out v' h1))
  have HWR := Lib.hid (walk_ren hw1 hml)
  have HRR := Lib.hid (ren_ren hw1 hml)
  have HRO := Lib.hid (roots_ren hw1 hml)
  have HXL : Hid ((renP K met).length = met.length) := Lib.hid (by simp [renP])
  have HUL : Hid ((R.map (asP (nm met))).length = rn) := Lib.hid (by rw [List.length_map, HRN.out])
  clear ho1 hc1 hk1 hu1 g2 hp1 hq1 hw1
  obtain ⟨ml, hmln⟩ : ∃ ml, met.length = ml := ⟨_, rfl⟩
  rw [hmln] at hml HXL ⊢
  have HML := Lib.hid hmln
  clear hmln
  go_wp2_with fail
  refine (rename_any w2.heap.size xo ml xc (renP K met) uo rn uc (R.map (asP (nm met))) w2 HX.out (Nat.le_refl _) HXW.out HXL.out (by omega) HU.out HUL.out (by omega) HUV.out HXF.out).mono ?_
  rintro e w3 ⟨yv, vv, met2, cs2, rfl, hw2, hm2, ho2, hc2, hk2, hu2, g3⟩
  obtain rfl := hw2.det HWR.out
  rw [HRR.out] at hc2
  rw [HRO.out] at hu2
  obtain ⟨yo, yc, rfl, hp2, -⟩ := orow_of_own ho2 hk2
  rw [hc2] at hp2
  obtain ⟨vo, vc, rfl, hq2, -⟩ := srow_of_own hu2
  rw [List.length_map, HML.out]
  have HY := Lib.hid hp2
  have HVV := Lib.hid hq2
  have G3 := Lib.hid g3
  clear ho2 hc2 hk2 hu2 g3 hp2 hq2 hw2 hm2
  go_wp2_with fail
  refine (sameall_any w2.heap.size w3.heap.size xo yo ml xc yc (renP K met) w3 (HX.out.keepn G3.out) HY.out HXL.out (by omega) HXF.out).mono ?_
  rintro e w4 ⟨rfl, g4⟩
  have G4 := Lib.hid g4
  clear g4
  go_wp2_with fail
  refine (same_any uo vo rn uc vc _ w4 ((HU.out.keep G3.out).keep G4.out) (HVV.out.keep G4.out) HUL.out (by omega)).mono ?_
  rintro e w5 ⟨rfl, g5⟩
  have G5 := Lib.hid (g_trans G3.out (g_trans G4.out g5))
  have G6 := Lib.hid (g_trans G2.out G5.out)
  clear g5
  go_wp2_with fail
  refine (alike_any w1'.heap.size w2.heap.size ao n c K a1 rn a1c R xo ml xc (renP K met) uo rn uc (R.map (asP (nm met))) w5 (HOR.out.keepn G6.out) G6.out.size HKW.out HN.out (by omega) (HS1.out.keep G6.out) HRN.out (by omega) HV.out HKF.out
    (HX.out.keepn G5.out) G5.out.size HXW.out HXL.out (by omega) (HU.out.keep G5.out) HUL.out (by omega) HUV.out HXF.out (fun m1 m2 h1 h2 => by
      obtain rfl := h1.det HW1.out
      obtain rfl := h2.det HWR.out
      exact ⟨HRR.out.symm, HRO.out.symm⟩)).mono ?_
  rintro e w6 ⟨rfl, g6⟩
  have G7 := Lib.hid (g_trans G6.out g6)
  clear g6
  go_wp2_with fail
  refine (awake_any w6).mono ?_
  rintro e w7 ⟨rfl, g7⟩
  have G8 := Lib.hid (g_trans G1.out (g_trans G7.out g7))
  clear g7
  go_wp2_with fail
  go_ret
  exact ⟨rfl, below_gn (Below.refl _ w) G8.out (Nat.le_refl _)⟩
end Go.Proofs.Ytkkcfielmpjgeaa
