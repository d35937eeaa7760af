/- The document's Decode of a program. -/
import Derived.Test.YtmckaimgeflncaaRX
import Derived.Test.YtmckaimgeflncaaPZ
namespace Go.Proofs.Ytmckaimgeflncaa
open Go.RowKit
set_option linter.unusedVariables false
set_option linter.unusedSimpArgs false

set_option maxHeartbeats 800000 in
theorem rpdecode_short (ao : Option Addr) (n c : Nat) (B : List Int) (w : World) (hn : B.length = n) (h : n < 7) :
    Calls Try.prog 12 #[.slice ao n c] w fun e w' => PDec B w w' e := by
  have h' : (n : Int) < 7 := by omega
  have HN := Lib.hid hn
  clear hn
  go_enter Try.func12, Try.ntmps12
  go_wp2_with fail
  go_ret2
  exact pdec_short (g_refl _ _) (by rw [HN.out]; exact h)

set_option maxRecDepth 100000 in
set_option maxHeartbeats 6400000 in
theorem rpdecode_long (ao : Option Addr) (n c : Nat) (B : List Int) (w : World) (hB : BRow w ao B) (hn : B.length = n) (hn4 : n < 100000) (hnc : n ≤ c) (hcm : c ≤ 9223372036854775807) (h7 : 7 ≤ n) :
    Calls Try.prog 12 #[.slice ao n c] w fun e w' => PDec B w w' e := by
  obtain ⟨i0, hi, hz0, hz1, hz2⟩ := info_parts info43
  obtain ⟨H, x4, x5, M, z, eB, hH4, hT4, h4, h5, hM, hzz, hTl, hD6, hMl⟩ := parts (B := B) (by omega)
  obtain ⟨⟨x40, x41⟩, b, off, rfl, c4⟩ := hB 4 x4 h4
  obtain ⟨⟨x50, x51⟩, b', off', hbo, c5⟩ := hB 5 x5 h5
  cases hbo
  obtain ⟨N, hN⟩ : ∃ N : Nat, x4 * 256 + x5 = N := ⟨(x4 * 256 + x5).toNat, by omega⟩
  have hISB := fun p => isB_iff (H := H) (M := M) (x4 := x4) (x5 := x5) (z := z) (p := p) hH4 x40 x50 x51
  rw [← eB] at hISB
  have hN65 : N < 65536 := by omega
  have EW : Hid (IntKind.i64.wrap x4 = x4 ∧ IntKind.i64.wrap x5 = x5 ∧ IntKind.i64.wrap (256 * x4) = 256 * x4 ∧ IntKind.i64.wrap (256 * x4 + x5) = N) := Lib.hid ⟨IntWalk.i64_in _ (by omega), IntWalk.i64_in _ (by omega), IntWalk.i64_in _ (by omega), by rw [IntWalk.i64_in _ (by omega)]; omega⟩
  have R3 := Lib.hid (brow_drop hB 6)
  rw [hD6] at R3
  have HB := Lib.hid hB
  have HBN := Lib.hid hn
  have c5' : w.cell? ⟨b, off + 5, none⟩ = some (.int .u8 x5) := c5
  have c4' : w.cell? ⟨b, off + 4, none⟩ = some (.int .u8 x4) := c4
  have D45 := Lib.hid (And.intro c4' c5')
  have HNN : Hid (x4 * 256 + x5 = N) := Lib.hid hN
  have HI := Lib.hid hISB
  have HN7 : Hid (¬ B.length < 7) := Lib.hid (by omega)
  have HML : Hid ((M ++ [z]).length = n - 6) := Lib.hid (by simp; omega)
  have hbyB := Lib.hid (brow_bytes hB)
  have hc6 : ¬ c - 6 = 0 := by omega
  have hc6' : ¬ c = 6 := by omega
  have h7i : ¬ (n : Int) < 7 := by omega
  have h5n : (5 : Int) < n := by omega
  have h4n : (4 : Int) < n := by omega
  -- where nothing more is read
  have HSTOP : Hid (∀ (p : List I4) (R : List Int) (y : List I4), p.length ≤ N → okL p = true → flatB p ++ R = M ++ [z] → IsB B y → N ≤ 512 ∧ ∃ q, y = p ++ q ∧ R = flatB q ++ [z] ∧ okL y = true ∧ y.length = N) := Lib.hid (by
    intro p R y hl hp hM hy
    obtain ⟨-, k2, k3, k4, k5, -⟩ := (hISB y).1 hy
    have hly : y.length = N := by omega
    obtain ⟨q, q1, q2⟩ := flat_cancel (S := [z]) hp k4 (by omega) (by rw [hM, k5])
    exact ⟨by omega, q, q1, q2, k4, hly⟩)
  clear c4 c5 c4' c5' hISB hM hD6 hTl hT4 eB hB hn hzz h4 h5 hH4 hMl hN
  go_enter Try.func12, Try.ntmps12
  go_upto_region 3 with fail
  refine wp_region_held_drew (S := fun W' => w.grownBy W' none) (by kernel_rfl) (g_drew (g_refl _ _)) (fun hHeld => ?_)
  refine wpAnyH_take (i := 0) (v := .slice (some ⟨b, off, none⟩) n c) rfl (by kernel_rfl) (by kernel_rfl) (by kernel_rfl) (fun _ _ _ h => h) (Or.inl ⟨by rfl, fun w hw => by clear hw; go_simp⟩) hHeld ?_
  try simp only [Act.put, List.setIfInBounds_toArray, List.set_cons_zero, List.set_cons_succ, List.getElem_toArray, List.getElem_cons_zero, List.getElem_cons_succ]
  refine wpAnyH_take (i := 1) (v := .pointer (some ⟨b, off + 4, none⟩)) rfl (by kernel_rfl) (by kernel_rfl) (by kernel_rfl) (fun _ _ _ h => h) (Or.inl ⟨by rfl, fun w hw => by clear hw; go_simp⟩) hHeld ?_
  try simp only [Act.put, List.setIfInBounds_toArray, List.set_cons_zero, List.set_cons_succ, List.getElem_toArray, List.getElem_cons_zero, List.getElem_cons_succ]
  refine wpAnyH_take (i := 2) (v := .int .u8 x4) rfl (by kernel_rfl) (by kernel_rfl) (by kernel_rfl) (fun _ _ _ h => h) (Or.inl ⟨by rfl, fun w hw => by have q0 := hw.cell D45.out.1 (by simp); clear hw; go_simp⟩) hHeld ?_
  try simp only [Act.put, List.setIfInBounds_toArray, List.set_cons_zero, List.set_cons_succ, List.getElem_toArray, List.getElem_cons_zero, List.getElem_cons_succ]
  refine wpAnyH_take (i := 3) (v := .int .i64 x4) rfl (by kernel_rfl) (by kernel_rfl) (by kernel_rfl) (fun _ _ _ h => h) (Or.inl ⟨by rfl, fun w hw => by have ew := EW.out.1; clear hw; go_simp⟩) hHeld ?_
  try simp only [Act.put, List.setIfInBounds_toArray, List.set_cons_zero, List.set_cons_succ, List.getElem_toArray, List.getElem_cons_zero, List.getElem_cons_succ]
  refine wpAnyH_take (i := 4) (v := .int .i64 (256 * x4)) rfl (by kernel_rfl) (by kernel_rfl) (by kernel_rfl) (fun _ _ _ h => h) (Or.inl ⟨by rfl, fun w hw => by have ew := EW.out.2.2.1; clear hw; go_simp⟩) hHeld ?_
  try simp only [Act.put, List.setIfInBounds_toArray, List.set_cons_zero, List.set_cons_succ, List.getElem_toArray, List.getElem_cons_zero, List.getElem_cons_succ]
  refine wpAnyH_take (i := 5) (v := .slice (some ⟨b, off, none⟩) n c) rfl (by kernel_rfl) (by kernel_rfl) (by kernel_rfl) (fun _ _ _ h => h) (Or.inl ⟨by rfl, fun w hw => by clear hw; go_simp⟩) hHeld ?_
  try simp only [Act.put, List.setIfInBounds_toArray, List.set_cons_zero, List.set_cons_succ, List.getElem_toArray, List.getElem_cons_zero, List.getElem_cons_succ]
  refine wpAnyH_take (i := 6) (v := .pointer (some ⟨b, off + 5, none⟩)) rfl (by kernel_rfl) (by kernel_rfl) (by kernel_rfl) (fun _ _ _ h => h) (Or.inl ⟨by rfl, fun w hw => by clear hw; go_simp⟩) hHeld ?_
  try simp only [Act.put, List.setIfInBounds_toArray, List.set_cons_zero, List.set_cons_succ, List.getElem_toArray, List.getElem_cons_zero, List.getElem_cons_succ]
  refine wpAnyH_take (i := 7) (v := .int .u8 x5) rfl (by kernel_rfl) (by kernel_rfl) (by kernel_rfl) (fun _ _ _ h => h) (Or.inl ⟨by rfl, fun w hw => by have q0 := hw.cell D45.out.2 (by simp); clear hw; go_simp⟩) hHeld ?_
  try simp only [Act.put, List.setIfInBounds_toArray, List.set_cons_zero, List.set_cons_succ, List.getElem_toArray, List.getElem_cons_zero, List.getElem_cons_succ]
  refine wpAnyH_take (i := 8) (v := .int .i64 x5) rfl (by kernel_rfl) (by kernel_rfl) (by kernel_rfl) (fun _ _ _ h => h) (Or.inl ⟨by rfl, fun w hw => by have ew := EW.out.2.1; clear hw; go_simp⟩) hHeld ?_
  try simp only [Act.put, List.setIfInBounds_toArray, List.set_cons_zero, List.set_cons_succ, List.getElem_toArray, List.getElem_cons_zero, List.getElem_cons_succ]
  refine wpAnyH_take (i := 9) (v := .int .i64 (N : Int)) rfl (by kernel_rfl) (by kernel_rfl) (by kernel_rfl) (fun _ _ _ h => h) (Or.inl ⟨by rfl, fun w hw => by have ew := EW.out.2.2.2; clear hw; go_simp⟩) hHeld ?_
  try simp only [Act.put, List.setIfInBounds_toArray, List.set_cons_zero, List.set_cons_succ, List.getElem_toArray, List.getElem_cons_zero, List.getElem_cons_succ]
  refine wpAnyH_take (i := 10) (v := .int .i64 (N : Int)) rfl (by kernel_rfl) (by kernel_rfl) (by kernel_rfl) (fun _ _ _ h => h) (Or.inl ⟨by rfl, fun w hw => by clear hw; go_simp⟩) hHeld ?_
  try simp only [Act.put, List.setIfInBounds_toArray, List.set_cons_zero, List.set_cons_succ, List.getElem_toArray, List.getElem_cons_zero, List.getElem_cons_succ]
  refine wpAnyH_done (by kernel_rfl) ?_ _
  have HG := Lib.hid hHeld
  clear hHeld
  generalize w.drew = w1 at *
  go_wp2_with fail
  go_loopw [5, 6, 7] (fun rest pv i wr => ∃ (j m cc : Nat) (p : List I4) (R : List Int) (a : Option Addr), i = .int .i64 j ∧ j ≤ N ∧ j ≤ 513 ∧ p.length = j ∧ okL p = true ∧ flatB p ++ R = M ++ [z] ∧ rest = .slice a m cc ∧ BRow w a R ∧ R.length = m ∧ m ≤ cc ∧ cc ≤ 9223372036854775807 ∧ wr.ownsRow w.heap.size 43 4 pv p.length (iv p) ∧ w.grownBy wr none) (fun _ _ i _ => (N - intOf i).toNat)
  case atStart => exact ⟨0, n - 6, c - 6, [], M ++ [z], some ⟨b, off + 6, none⟩, rfl, Nat.zero_le _, Nat.zero_le _, rfl, rfl, by simp [flatB], rfl, R3.out, HML.out, by omega, by omega, World.ownsRow_nil _ _ _ _, HG.out⟩
  case round =>
    obtain ⟨j, m, cc, p, R, a, rfl, hj, hj5, hpl, hpo, hM, rfl, hbr, hRl, hmc, hcc, how, hg⟩ := hrel
    have HPL := Lib.hid hpl
    have HPO := Lib.hid hpo
    have HMM := Lib.hid hM
    have HBR := Lib.hid hbr
    have HRL := Lib.hid hRl
    have HOW := Lib.hid how
    have GR := Lib.hid hg
    clear hpl hpo hM hbr hRl how hg
    by_cases hlt : j < N
    · have hji : (j : Int) < N := by omega
      by_cases hlt5 : j < 513
      · have hj5i : (j : Int) < 513 := by omega
        have HD := Lib.hid (rdecx_any a m cc R wr (HBR.out.keep GR.out) HRL.out hmc hcc)
        go_wp2_with fail
        refine HD.out.mono ?_
        rintro e w3 ⟨g3, ⟨hno, r, hr0, rfl⟩ | ⟨x, S, hx, hS, a', m', cc', rfl, hb', hl', hm', hcc'⟩⟩
        · have hrr : (r != 0) = true := by simp [hr0]
          have HNO := Lib.hid hno
          clear hno hr0
          go_wp2_with fail
          go_ret2
          refine pdec_bad (g_trans (g_trans GR.out g3) (g_alloc (g_refl _ none) _)) HN7.out ?_
          rintro ⟨y, hy⟩
          obtain ⟨k2, q, k3, k4, k5, k6⟩ := HSTOP.out p R y (by rw [HPL.out]; omega) HPO.out HMM.out hy
          cases q with
          | nil => rw [k3, List.append_nil, HPL.out] at k6; omega
          | cons u t =>
            refine HNO.out ⟨u, flatB t ++ [z], ?_, ?_⟩
            · rw [k3] at k5
              simp only [okL, List.all_append, List.all_cons, Bool.and_eq_true] at k5
              exact k5.2.1
            · rw [k4]; simp [flatB]
        · have HXO := Lib.hid hx
          have HXS := Lib.hid hS
          have HB' := Lib.hid (hb' w HBR.out)
          have HL' := Lib.hid hl'
          have ga := g_alloc (g_refl w3 none) (.cells #[.int .i64 x.k, .int .i64 x.a, .int .i64 x.b, .int .i64 x.c] 43)
          have gb := g_alloc (g_refl (w3.alloc (.cells #[.int .i64 x.k, .int .i64 x.a, .int .i64 x.b, .int .i64 x.c] 43)) none) (.cells #[.int .i64 x.k, .int .i64 x.a, .int .i64 x.b, .int .i64 x.c] 43)
          have HO5 := Lib.hid (own_keepn (own_keepn (own_keepn HOW.out g3) ga) gb)
          have G5 := Lib.hid (g_trans (g_trans (g_trans GR.out g3) ga) gb)
          have HNW : Hid (∀ (j : Nat) (u : Value), ([.int .i64 x.k, .int .i64 x.a, .int .i64 x.b, .int .i64 x.c] : List Value)[j]? = some u → ((w3.alloc (.cells #[.int .i64 x.k, .int .i64 x.a, .int .i64 x.b, .int .i64 x.c] 43)).alloc (.cells #[.int .i64 x.k, .int .i64 x.a, .int .i64 x.b, .int .i64 x.c] 43)).cell? ((⟨w3.heap.size + 1, 0, none⟩ : Addr).add j) = some u) := Lib.hid (by
            have h := news4 (w3.alloc (.cells #[.int .i64 x.k, .int .i64 x.a, .int .i64 x.b, .int .i64 x.c] 43)) x.k x.a x.b x.c
            simpa using h)
          have HON : Hid (∀ u ∈ ([.int .i64 x.k, .int .i64 x.a, .int .i64 x.b, .int .i64 x.c] : List Value), u.oneCell' = true) := Lib.hid (by intro u hu; simp at hu; rcases hu with rfl | rfl | rfl | rfl <;> rfl)
          have hz5 := G5.out.size
          have hpl5 : p.length ≤ 65536 := by have := HPL.out; omega
          clear hx hS hb' hl' ga gb
          go_wp2_with (at_builtin; refine wpList_append_own _ rfl _ _ 22 rfl w.heap.size 43 i0 (.agg #[.int .i64 0, .int .i64 0, .int .i64 0, .int .i64 0]) 4 32 Try.underlying22 hi hz0 hz1 hz2 rfl (by decide) _ _ _ rfl HO5.out ⟨w3.heap.size + 1, 0, none⟩ 1 1 [.int .i64 x.k, .int .i64 x.a, .int .i64 x.b, .int .i64 x.c] rfl rfl HNW.out HON.out (by unfold maxLen; omega) (by omega) hz5 ?_; intro v6 w6 hown hgrow _)
          have HO6 := Lib.hid hown
          have G6 := Lib.hid (g_own2 G5.out (Nat.le_refl _) HO5.out hgrow)
          clear hown hgrow hz5
          go_wp2_with fail
          go_roundw
          case rel => exact ⟨j + 1, m', cc', p ++ [x], S, a', by go_num, by omega, by omega, by rw [List.length_append, HPL.out]; rfl, by rw [okL_snoc, HPO.out, HXO.out]; rfl, by rw [flatB_snoc, List.append_assoc, ← HXS.out]; exact HMM.out, rfl, HB'.out, HL'.out, hm', hcc', by rw [List.length_append, iv_snoc]; exact HO6.out, G6.out⟩
          case measure => simp [intOf]; omega
      · have hj5i : ¬ (j : Int) < 513 := by omega
        obtain ⟨po, pc, rfl, hpc1, hpc2, hir⟩ := own_irow rfl HOW.out
        have HE := Lib.hid (rpencode_any po _ pc p wr hir rfl)
        go_wp2_with fail
        refine HE.out.mono ?_
        rintro e w3 ⟨g3, ⟨hm, rfl⟩ | ⟨_, hno, _⟩ | ⟨hm, _, v, rfl, hown⟩⟩
        · go_wp2_with fail
          go_ret2
          refine pdec_bad (g_trans GR.out g3) HN7.out ?_
          rintro ⟨y, hy⟩
          obtain ⟨k2, -⟩ := HSTOP.out p R y (by rw [HPL.out]; omega) HPO.out HMM.out hy
          have := HPL.out
          omega
        · rw [HPO.out] at hno; cases hno
        · exact absurd hm (by have := HPL.out; omega)
    · obtain rfl : j = N := by omega
      obtain ⟨po, pc, rfl, hpc1, hpc2, hir⟩ := own_irow rfl HOW.out
      have HE := Lib.hid (rpencode_any po _ pc p wr hir rfl)
      go_wp2_with fail
      refine HE.out.mono ?_
      rintro e w3 ⟨g3, ⟨hm, rfl⟩ | ⟨_, hno, _⟩ | ⟨hm, _, v, rfl, hown⟩⟩
      · go_wp2_with fail
        go_ret2
        refine pdec_bad (g_trans GR.out g3) HN7.out ?_
        rintro ⟨y, hy⟩
        obtain ⟨k2, -⟩ := HSTOP.out p R y (by rw [HPL.out]; omega) HPO.out HMM.out hy
        have := HPL.out
        omega
      · rw [HPO.out] at hno; cases hno
      · obtain ⟨gv, cv, rfl, _, _, hcv1, hcv2, _, hbrv, _⟩ := own_slice2 hown (by rw [full_len]; omega) (full_bytes HPO.out hm)
        have s1 := str_row (c := cv) hbrv rfl
        have s2 := str_row (c := c) (HB.out.keep (g_trans GR.out g3)) HBN.out
        have HOW3 := Lib.hid (own_keepn HOW.out g3)
        have G3 := Lib.hid (g_trans GR.out g3)
        have HM512 := Lib.hid hm
        by_cases he : full p = B
        · rw [he, HBN.out] at s1 ⊢
          have HE2 := Lib.hid he
          generalize strOfNums B = S at *
          have e1 := tl_self S
          clear he hown hbrv g3 hir hm HE
          go_wp2_with fail
          go_ret2
          exact pdec_ok G3.out ⟨HM512.out, HPO.out, HE2.out.symm⟩ HOW3.out
        · have e1 := tl_ne (fun h => he (str_inj (full_bytes HPO.out hm) hbyB.out h))
          have HNB : Hid (¬ ∃ y, IsB B y) := Lib.hid (by
            rintro ⟨y, hy⟩
            obtain ⟨k2, q, k3, k4, k5, k6⟩ := HSTOP.out p R y (by rw [HPL.out]; omega) HPO.out HMM.out hy
            have hq : q = [] := by
              have h1 := congrArg List.length k3
              rw [List.length_append] at h1
              have := HPL.out
              exact List.eq_nil_of_length_eq_zero (by omega)
            rw [hq, List.append_nil] at k3
            subst k3
            exact he hy.2.2.symm)
          generalize strOfNums B = S at *
          generalize strOfNums (full p) = S2 at *
          generalize (full p).length = fl at *
          clear he hown hbrv g3 hir hm HE
          go_wp2_with fail
          go_ret2
          exact pdec_bad G3.out HN7.out HNB.out

theorem rpdecode_any (ao : Option Addr) (n c : Nat) (B : List Int) (w : World) (hB : BRow w ao B) (hn : B.length = n) (hn4 : n < 100000) (hnc : n ≤ c) (hcm : c ≤ 9223372036854775807) :
    Calls Try.prog 12 #[.slice ao n c] w fun e w' => PDec B w w' e := by
  by_cases h : n < 7
  · exact rpdecode_short ao n c B w hn h
  · exact rpdecode_long ao n c B w hB hn hn4 hnc hcm (by omega)
end Go.Proofs.Ytmckaimgeflncaa
