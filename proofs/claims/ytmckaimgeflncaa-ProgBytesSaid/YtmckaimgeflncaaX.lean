/- The document's Encode. -/
import Derived.Test.YtmckaimgeflncaaV
import Derived.Deep.DeepCutAuto
import Derived.Deep.CutBlock
namespace Go.Proofs.Ytmckaimgeflncaa
open Go.RowKit
set_option linter.unusedVariables false

set_option linter.unusedSimpArgs false

set_option maxRecDepth 100000 in
set_option maxHeartbeats 3200000 in
theorem rencode_ok (k : Nat) (h1 : 1 ≤ k) (h2 : k ≤ 20) (A B C : Int) (w : World) (hok : okI k A B C = true) :
    Calls Try.prog 22 #[.agg #[.int .i64 k, .int .i64 A, .int .i64 B, .int .i64 C]] w fun e w' => ∃ v, e = .returned (.tuple #[v, .int .i64 0]) ∧ w'.ownsRow w.heap.size 5 1 v (encK k (sA k) (sB k) (sC k) A B C 3).length (byV (encK k (sA k) (sB k) (sC k) A B C 3)) ∧ w.grownBy w' none := by
  obtain ⟨i0, hi, hz0, hz1, hz2⟩ := info_parts info5
  have HI := Lib.hid (is_ok k h1 h2 A B C)
  rw [hok] at HI
  have HH := Lib.hid (has_ok k h1 h2)
  obtain ⟨s0l, s0h, s1l, s1h, s2l, s2h⟩ := sorts_lt k
  generalize sA k = s0 at *
  generalize sB k = s1 at *
  generalize sC k = s2 at *
  have W0 := Lib.hid (rwide_any s0 ⟨s0l, s0h⟩)
  have W1 := Lib.hid (rwide_any s1 ⟨s1l, s1h⟩)
  have W2 := Lib.hid (rwide_any s2 ⟨s2l, s2h⟩)
  have P0 := Lib.hid (put_any A (wdN s0) (wdN_le s0))
  have P1 := Lib.hid (put_any B (wdN s1) (wdN_le s1))
  have P2 := Lib.hid (put_any C (wdN s2) (wdN_le s2))
  have hk1 : (1 : Int) ≤ k := by omega
  have hk2 : (k : Int) ≤ 20 := by omega
  have hkb : IntKind.u8.wrap (k : Int) = k := by rw [IntKind.wrap_u8]; omega
  have hb := Blk.new w #[.int .i64 k, .int .i64 A, .int .i64 B, .int .i64 C] 43
  have g0 := g_alloc (g_refl w none) (.cells #[.int .i64 k, .int .i64 A, .int .i64 B, .int .i64 C] 43)
  have HB := Lib.hid hb
  clear hb hok s0l s0h s1l s1h s2l s2h h1 h2
  go_enter Try.func22, Try.ntmps22
  go_wp2_with fail
  refine (HI.out _).mono ?_
  rintro e w1 ⟨rfl, hg⟩
  have t0 := (HB.out.keepn hg).cell 0 (.int .i64 k) rfl
  go_wp2_with fail
  refine (HH.out _).mono ?_
  rintro e w2 ⟨rfl, hg2⟩
  clear t0
  have g3 := g_alloc (g_refl w2 none) (.cells #[.int .i64 s0, .int .i64 s1, .int .i64 s2] 64)
  have R := Lib.hid (((HB.out.keepn hg).keepn hg2).keepn g3)
  have hx3 := Blk.new w2 #[.int .i64 s0, .int .i64 s1, .int .i64 s2] 64
  have t0 := R.out.cell 0 (.int .i64 k) rfl
  have how0 : ((w2.alloc (.cells #[.int .i64 s0, .int .i64 s1, .int .i64 s2] 64)).alloc (.cells #[.int .u8 k] 5)).ownsRow (w2.heap.size + 1) 5 1 (.slice (some ⟨w2.heap.size + 1, 0, none⟩) 1 1) 1 (byV (encK k s0 s1 s2 A B C 0)) := by
    have := World.ownsRow_lit (w2.alloc (.cells #[.int .i64 s0, .int .i64 s1, .int .i64 s2] 64)) (base := w2.heap.size + 1) (e := 5) (size := 1) #[.int .u8 k] 1 (by simp) (by unfold maxLen; omega) rfl
    have e0 : byV (encK k s0 s1 s2 A B C 0) = [.int .u8 k] := rfl
    rw [e0]
    simpa using this
  have szF : (w2.alloc (.cells #[.int .i64 s0, .int .i64 s1, .int .i64 s2] 64)).heap.size = w2.heap.size + 1 := by simp
  have gP := g_trans (g_trans (g_trans g0 hg) hg2) g3
  have gF : (w2.alloc (.cells #[.int .i64 s0, .int .i64 s1, .int .i64 s2] 64)).grownBy ((w2.alloc (.cells #[.int .i64 s0, .int .i64 s1, .int .i64 s2] 64)).alloc (.cells #[.int .u8 k] 5)) none := g_alloc (g_refl _ _) _
  have hsz2 := (g_trans (g_trans g0 hg) hg2).size
  go_upto_region 5 with fail
  generalize (w2.alloc (.cells #[.int .i64 s0, .int .i64 s1, .int .i64 s2] 64)) = W3 at *
  generalize hW4 : W3.alloc (.cells #[.int .u8 k] 5) = V0 at *
  have HOW := Lib.hid how0
  have GP := Lib.hid gP
  have HX := Lib.hid hx3
  have L0 := encK_len k s0 s1 s2 A B C 0
  have L1 := encK_len k s0 s1 s2 A B C 1
  have L2 := encK_len k s0 s1 s2 A B C 2
  have GF := Lib.hid gF
  have hone : ∀ m (n : Int), ∀ u ∈ byV (be m n), u.oneCell' = true := fun m n u hu => by simp [byV] at hu; obtain ⟨a, _, h⟩ := hu; subst h; rfl
  have hlen : ∀ m (n : Int), (byV (be m n)).length = m * 1 := fun m n => by rw [byV_length, be_length, Nat.mul_one]
  have HO0 := Lib.hid (hone (wdN s0) A)
  have HO1 := Lib.hid (hone (wdN s1) B)
  have HO2 := Lib.hid (hone (wdN s2) C)
  have LN0 := Lib.hid (hlen (wdN s0) A)
  have LN1 := Lib.hid (hlen (wdN s1) B)
  have LN2 := Lib.hid (hlen (wdN s2) C)
  have d0 := wdN_le s0
  have d1 := wdN_le s1
  have d2 := wdN_le s2
  have B10 : Hid (1 + wdN s0 ≤ maxLen) := Lib.hid (by unfold maxLen; omega)
  have B11 : Hid ((encK k s0 s1 s2 A B C 1).length + wdN s1 ≤ maxLen) := Lib.hid (by unfold maxLen; omega)
  have B12 : Hid ((encK k s0 s1 s2 A B C 2).length + wdN s2 ≤ maxLen) := Lib.hid (by unfold maxLen; omega)
  have B20 : Hid ((1 + wdN s0) * 1 ≤ 140737488355328) := Lib.hid (by omega)
  have B21 : Hid (((encK k s0 s1 s2 A B C 1).length + wdN s1) * 1 ≤ 140737488355328) := Lib.hid (by omega)
  have B22 : Hid (((encK k s0 s1 s2 A B C 2).length + wdN s2) * 1 ≤ 140737488355328) := Lib.hid (by omega)
  clear hone hlen L0 L1 L2 d0 d1 d2
  clear how0 gP hx3 gF t0 hW4 g0 hg hg2 g3
  refine wp_region_held_drew (S := fun W' => W3.grownBy W' none) (by kernel_rfl) (g_drew GF.out) (fun hHeld => ?_)
  have HOW := Lib.hid (own_keepn HOW.out (g_drew (g_refl V0 none)))
  refine wpAnyH_take (i := 0) (v := (.slice (some ⟨w2.heap.size + 1, 0, none⟩) 1 1)) rfl (by kernel_rfl) (by kernel_rfl) (by kernel_rfl) (fun _ _ _ h => h) (Or.inl ⟨by rfl, fun w hw => by clear hw; go_simp⟩) hHeld ?_
  try simp only [Act.put, List.setIfInBounds_toArray, List.set_cons_zero, List.set_cons_succ, List.getElem_toArray, List.getElem_cons_zero, List.getElem_cons_succ]
  refine wpAnyH_take (i := 1) (v := .pointer (some ⟨w.heap.size, 1, none⟩)) rfl (by kernel_rfl) (by kernel_rfl) (by kernel_rfl) (fun _ _ _ h => h) (Or.inl ⟨by rfl, fun w hw => by clear hw; go_simp⟩) hHeld ?_
  try simp only [Act.put, List.setIfInBounds_toArray, List.set_cons_zero, List.set_cons_succ, List.getElem_toArray, List.getElem_cons_zero, List.getElem_cons_succ]
  refine wpAnyH_take (i := 2) (v := .int .i64 A) rfl (by kernel_rfl) (by kernel_rfl) (by kernel_rfl) (fun _ _ _ h => h) (Or.inl ⟨by rfl, fun w hw => by have q0 := (R.out.keepn hw).cell 1 (.int .i64 A) rfl; clear hw; go_simp⟩) hHeld ?_
  try simp only [Act.put, List.setIfInBounds_toArray, List.set_cons_zero, List.set_cons_succ, List.getElem_toArray, List.getElem_cons_zero, List.getElem_cons_succ]
  refine wpAnyH_take (i := 3) (v := .pointer (some ⟨w2.heap.size, 0, none⟩)) rfl (by kernel_rfl) (by kernel_rfl) (by kernel_rfl) (fun _ _ _ h => h) (Or.inl ⟨by rfl, fun w hw => by clear hw; go_simp⟩) hHeld ?_
  try simp only [Act.put, List.setIfInBounds_toArray, List.set_cons_zero, List.set_cons_succ, List.getElem_toArray, List.getElem_cons_zero, List.getElem_cons_succ]
  refine wpAnyH_take (i := 4) (v := .int .i64 s0) rfl (by kernel_rfl) (by kernel_rfl) (by kernel_rfl) (fun _ _ _ h => h) (Or.inl ⟨by rfl, fun w hw => by have q0 := (HX.out.keepn hw).cell 0 (.int .i64 s0) rfl; clear hw; go_simp⟩) hHeld ?_
  try simp only [Act.put, List.setIfInBounds_toArray, List.set_cons_zero, List.set_cons_succ, List.getElem_toArray, List.getElem_cons_zero, List.getElem_cons_succ]
  refine wpAnyH_ready (rs := [5]) (by kernel_rfl) (by simp) (AllReadyH.cons rfl (fun K hK => ?_) (AllReadyH.nil))
  · go_simp
    refine Calls.mono (W0.out _) ?_
    rintro e r0wc1 ⟨rfl, r0gc1⟩
    try go_wp2_with fail
    have HOW := Lib.hid (own_keepn HOW.out r0gc1)
    refine hK.out _ _ (g_trans hHeld r0gc1) (fun hHeld => ?_)
    clear hK K r0gc1
    try simp only [Act.put, List.setIfInBounds_toArray, List.set_cons_zero, List.set_cons_succ, List.getElem_toArray, List.getElem_cons_zero, List.getElem_cons_succ]
    refine wpAnyH_ready (rs := [6]) (by kernel_rfl) (by simp) (AllReadyH.cons rfl (fun K hK => ?_) (AllReadyH.nil))
    · go_simp
      refine Calls.mono (P0.out _) ?_
      rintro e r0wc2 ⟨gp, rfl, hgp, hcp, r0gc2⟩
      try go_wp2_with fail
      have HOW := Lib.hid (own_keepn HOW.out r0gc2)
      refine hK.out _ _ (g_trans hHeld r0gc2) (fun hHeld => ?_)
      clear hK K r0gc2
      try simp only [Act.put, List.setIfInBounds_toArray, List.set_cons_zero, List.set_cons_succ, List.getElem_toArray, List.getElem_cons_zero, List.getElem_cons_succ]
      have HCP := Lib.hid hcp
      clear hcp hgp
      refine wpAnyH_ready (rs := [7]) (by kernel_rfl) (by simp) (AllReadyH.cons rfl (fun K hK => ?_) (AllReadyH.nil))
      · refine step_append_own rfl _ _ 23 rfl (w2.heap.size + 1) 5 i0 (.int .u8 0) 1 1 Try.underlying23 hi hz0 hz1 hz2 rfl (by decide) _ _ _ rfl HOW.out ⟨gp, 0, none⟩ _ _ _ rfl LN0.out HCP.out HO0.out B10.out B20.out (Nat.le_trans (Nat.le_of_eq szF.symm) hHeld.size) ?_
        intro v1 V1 how hgr
        refine hK.out _ _ (g_own2 hHeld (Nat.le_of_eq szF) HOW.out hgr) (fun hHeld => ?_)
        clear hK K
        try simp only [Act.put, List.setIfInBounds_toArray, List.set_cons_zero, List.set_cons_succ, List.getElem_toArray, List.getElem_cons_zero, List.getElem_cons_succ]
        refine wpAnyH_take (i := 8) (v := v1) rfl (by kernel_rfl) (by kernel_rfl) (by kernel_rfl) (fun _ _ _ h => h) (Or.inl ⟨by rfl, fun w hw => by clear hw; go_simp⟩) hHeld ?_
        try simp only [Act.put, List.setIfInBounds_toArray, List.set_cons_zero, List.set_cons_succ, List.getElem_toArray, List.getElem_cons_zero, List.getElem_cons_succ]
        refine wpAnyH_done (by kernel_rfl) ?_ _
        have HOW : Hid (V1.ownsRow (w2.heap.size + 1) 5 1 v1 (encK k s0 s1 s2 A B C 1).length (byV (encK k s0 s1 s2 A B C 1))) := Lib.hid (by
          rw [encK_succ k s0 s1 s2 A B C (k := 0) (by decide), byV_append, List.length_append]
          have hl : (be (wdN (pick3 s0 s1 s2 0)) (pick3 A B C 0)).length = wdN s0 := be_length _ _
          rw [hl]
          exact how)
        have GF := Lib.hid hHeld
        clear how hgr hHeld HCP
        go_upto_region 6 with fail
        refine wp_region_held_drew (S := fun W' => W3.grownBy W' none) (by kernel_rfl) (g_drew GF.out) (fun hHeld => ?_)
        have HOW := Lib.hid (own_keepn HOW.out (g_drew (g_refl V1 none)))
        refine wpAnyH_take (i := 0) (v := v1) rfl (by kernel_rfl) (by kernel_rfl) (by kernel_rfl) (fun _ _ _ h => h) (Or.inl ⟨by rfl, fun w hw => by clear hw; go_simp⟩) hHeld ?_
        try simp only [Act.put, List.setIfInBounds_toArray, List.set_cons_zero, List.set_cons_succ, List.getElem_toArray, List.getElem_cons_zero, List.getElem_cons_succ]
        refine wpAnyH_take (i := 1) (v := .pointer (some ⟨w.heap.size, 2, none⟩)) rfl (by kernel_rfl) (by kernel_rfl) (by kernel_rfl) (fun _ _ _ h => h) (Or.inl ⟨by rfl, fun w hw => by clear hw; go_simp⟩) hHeld ?_
        try simp only [Act.put, List.setIfInBounds_toArray, List.set_cons_zero, List.set_cons_succ, List.getElem_toArray, List.getElem_cons_zero, List.getElem_cons_succ]
        refine wpAnyH_take (i := 2) (v := .int .i64 B) rfl (by kernel_rfl) (by kernel_rfl) (by kernel_rfl) (fun _ _ _ h => h) (Or.inl ⟨by rfl, fun w hw => by have q0 := (R.out.keepn hw).cell 2 (.int .i64 B) rfl; clear hw; go_simp⟩) hHeld ?_
        try simp only [Act.put, List.setIfInBounds_toArray, List.set_cons_zero, List.set_cons_succ, List.getElem_toArray, List.getElem_cons_zero, List.getElem_cons_succ]
        refine wpAnyH_take (i := 3) (v := .pointer (some ⟨w2.heap.size, 1, none⟩)) rfl (by kernel_rfl) (by kernel_rfl) (by kernel_rfl) (fun _ _ _ h => h) (Or.inl ⟨by rfl, fun w hw => by clear hw; go_simp⟩) hHeld ?_
        try simp only [Act.put, List.setIfInBounds_toArray, List.set_cons_zero, List.set_cons_succ, List.getElem_toArray, List.getElem_cons_zero, List.getElem_cons_succ]
        refine wpAnyH_take (i := 4) (v := .int .i64 s1) rfl (by kernel_rfl) (by kernel_rfl) (by kernel_rfl) (fun _ _ _ h => h) (Or.inl ⟨by rfl, fun w hw => by have q0 := (HX.out.keepn hw).cell 1 (.int .i64 s1) rfl; clear hw; go_simp⟩) hHeld ?_
        try simp only [Act.put, List.setIfInBounds_toArray, List.set_cons_zero, List.set_cons_succ, List.getElem_toArray, List.getElem_cons_zero, List.getElem_cons_succ]
        refine wpAnyH_ready (rs := [5]) (by kernel_rfl) (by simp) (AllReadyH.cons rfl (fun K hK => ?_) (AllReadyH.nil))
        · go_simp
          refine Calls.mono (W1.out _) ?_
          rintro e r1wc1 ⟨rfl, r1gc1⟩
          try go_wp2_with fail
          have HOW := Lib.hid (own_keepn HOW.out r1gc1)
          refine hK.out _ _ (g_trans hHeld r1gc1) (fun hHeld => ?_)
          clear hK K r1gc1
          try simp only [Act.put, List.setIfInBounds_toArray, List.set_cons_zero, List.set_cons_succ, List.getElem_toArray, List.getElem_cons_zero, List.getElem_cons_succ]
          refine wpAnyH_ready (rs := [6]) (by kernel_rfl) (by simp) (AllReadyH.cons rfl (fun K hK => ?_) (AllReadyH.nil))
          · go_simp
            refine Calls.mono (P1.out _) ?_
            rintro e r1wc2 ⟨gp, rfl, hgp, hcp, r1gc2⟩
            try go_wp2_with fail
            have HOW := Lib.hid (own_keepn HOW.out r1gc2)
            refine hK.out _ _ (g_trans hHeld r1gc2) (fun hHeld => ?_)
            clear hK K r1gc2
            try simp only [Act.put, List.setIfInBounds_toArray, List.set_cons_zero, List.set_cons_succ, List.getElem_toArray, List.getElem_cons_zero, List.getElem_cons_succ]
            have HCP := Lib.hid hcp
            clear hcp hgp
            refine wpAnyH_ready (rs := [7]) (by kernel_rfl) (by simp) (AllReadyH.cons rfl (fun K hK => ?_) (AllReadyH.nil))
            · refine step_append_own rfl _ _ 23 rfl (w2.heap.size + 1) 5 i0 (.int .u8 0) 1 1 Try.underlying23 hi hz0 hz1 hz2 rfl (by decide) _ _ _ rfl HOW.out ⟨gp, 0, none⟩ _ _ _ rfl LN1.out HCP.out HO1.out B11.out B21.out (Nat.le_trans (Nat.le_of_eq szF.symm) hHeld.size) ?_
              intro v2 V2 how hgr
              refine hK.out _ _ (g_own2 hHeld (Nat.le_of_eq szF) HOW.out hgr) (fun hHeld => ?_)
              clear hK K
              try simp only [Act.put, List.setIfInBounds_toArray, List.set_cons_zero, List.set_cons_succ, List.getElem_toArray, List.getElem_cons_zero, List.getElem_cons_succ]
              refine wpAnyH_take (i := 8) (v := v2) rfl (by kernel_rfl) (by kernel_rfl) (by kernel_rfl) (fun _ _ _ h => h) (Or.inl ⟨by rfl, fun w hw => by clear hw; go_simp⟩) hHeld ?_
              try simp only [Act.put, List.setIfInBounds_toArray, List.set_cons_zero, List.set_cons_succ, List.getElem_toArray, List.getElem_cons_zero, List.getElem_cons_succ]
              refine wpAnyH_done (by kernel_rfl) ?_ _
              have HOW : Hid (V2.ownsRow (w2.heap.size + 1) 5 1 v2 (encK k s0 s1 s2 A B C 2).length (byV (encK k s0 s1 s2 A B C 2))) := Lib.hid (by
                rw [encK_succ k s0 s1 s2 A B C (k := 1) (by decide), byV_append, List.length_append]
                have hl : (be (wdN (pick3 s0 s1 s2 1)) (pick3 A B C 1)).length = wdN s1 := be_length _ _
                rw [hl]
                exact how)
              have GF := Lib.hid hHeld
              clear how hgr hHeld HCP
              go_upto_region 7 with fail
              refine wp_region_held_drew (S := fun W' => W3.grownBy W' none) (by kernel_rfl) (g_drew GF.out) (fun hHeld => ?_)
              have HOW := Lib.hid (own_keepn HOW.out (g_drew (g_refl V2 none)))
              refine wpAnyH_take (i := 0) (v := v2) rfl (by kernel_rfl) (by kernel_rfl) (by kernel_rfl) (fun _ _ _ h => h) (Or.inl ⟨by rfl, fun w hw => by clear hw; go_simp⟩) hHeld ?_
              try simp only [Act.put, List.setIfInBounds_toArray, List.set_cons_zero, List.set_cons_succ, List.getElem_toArray, List.getElem_cons_zero, List.getElem_cons_succ]
              refine wpAnyH_take (i := 1) (v := .pointer (some ⟨w.heap.size, 3, none⟩)) rfl (by kernel_rfl) (by kernel_rfl) (by kernel_rfl) (fun _ _ _ h => h) (Or.inl ⟨by rfl, fun w hw => by clear hw; go_simp⟩) hHeld ?_
              try simp only [Act.put, List.setIfInBounds_toArray, List.set_cons_zero, List.set_cons_succ, List.getElem_toArray, List.getElem_cons_zero, List.getElem_cons_succ]
              refine wpAnyH_take (i := 2) (v := .int .i64 C) rfl (by kernel_rfl) (by kernel_rfl) (by kernel_rfl) (fun _ _ _ h => h) (Or.inl ⟨by rfl, fun w hw => by have q0 := (R.out.keepn hw).cell 3 (.int .i64 C) rfl; clear hw; go_simp⟩) hHeld ?_
              try simp only [Act.put, List.setIfInBounds_toArray, List.set_cons_zero, List.set_cons_succ, List.getElem_toArray, List.getElem_cons_zero, List.getElem_cons_succ]
              refine wpAnyH_take (i := 3) (v := .pointer (some ⟨w2.heap.size, 2, none⟩)) rfl (by kernel_rfl) (by kernel_rfl) (by kernel_rfl) (fun _ _ _ h => h) (Or.inl ⟨by rfl, fun w hw => by clear hw; go_simp⟩) hHeld ?_
              try simp only [Act.put, List.setIfInBounds_toArray, List.set_cons_zero, List.set_cons_succ, List.getElem_toArray, List.getElem_cons_zero, List.getElem_cons_succ]
              refine wpAnyH_take (i := 4) (v := .int .i64 s2) rfl (by kernel_rfl) (by kernel_rfl) (by kernel_rfl) (fun _ _ _ h => h) (Or.inl ⟨by rfl, fun w hw => by have q0 := (HX.out.keepn hw).cell 2 (.int .i64 s2) rfl; clear hw; go_simp⟩) hHeld ?_
              try simp only [Act.put, List.setIfInBounds_toArray, List.set_cons_zero, List.set_cons_succ, List.getElem_toArray, List.getElem_cons_zero, List.getElem_cons_succ]
              refine wpAnyH_ready (rs := [5]) (by kernel_rfl) (by simp) (AllReadyH.cons rfl (fun K hK => ?_) (AllReadyH.nil))
              · go_simp
                refine Calls.mono (W2.out _) ?_
                rintro e r2wc1 ⟨rfl, r2gc1⟩
                try go_wp2_with fail
                have HOW := Lib.hid (own_keepn HOW.out r2gc1)
                refine hK.out _ _ (g_trans hHeld r2gc1) (fun hHeld => ?_)
                clear hK K r2gc1
                try simp only [Act.put, List.setIfInBounds_toArray, List.set_cons_zero, List.set_cons_succ, List.getElem_toArray, List.getElem_cons_zero, List.getElem_cons_succ]
                refine wpAnyH_ready (rs := [6]) (by kernel_rfl) (by simp) (AllReadyH.cons rfl (fun K hK => ?_) (AllReadyH.nil))
                · go_simp
                  refine Calls.mono (P2.out _) ?_
                  rintro e r2wc2 ⟨gp, rfl, hgp, hcp, r2gc2⟩
                  try go_wp2_with fail
                  have HOW := Lib.hid (own_keepn HOW.out r2gc2)
                  refine hK.out _ _ (g_trans hHeld r2gc2) (fun hHeld => ?_)
                  clear hK K r2gc2
                  try simp only [Act.put, List.setIfInBounds_toArray, List.set_cons_zero, List.set_cons_succ, List.getElem_toArray, List.getElem_cons_zero, List.getElem_cons_succ]
                  have HCP := Lib.hid hcp
                  clear hcp hgp
                  refine wpAnyH_ready (rs := [7]) (by kernel_rfl) (by simp) (AllReadyH.cons rfl (fun K hK => ?_) (AllReadyH.nil))
                  · refine step_append_own rfl _ _ 23 rfl (w2.heap.size + 1) 5 i0 (.int .u8 0) 1 1 Try.underlying23 hi hz0 hz1 hz2 rfl (by decide) _ _ _ rfl HOW.out ⟨gp, 0, none⟩ _ _ _ rfl LN2.out HCP.out HO2.out B12.out B22.out (Nat.le_trans (Nat.le_of_eq szF.symm) hHeld.size) ?_
                    intro v3 V3 how hgr
                    refine hK.out _ _ (g_own2 hHeld (Nat.le_of_eq szF) HOW.out hgr) (fun hHeld => ?_)
                    clear hK K
                    try simp only [Act.put, List.setIfInBounds_toArray, List.set_cons_zero, List.set_cons_succ, List.getElem_toArray, List.getElem_cons_zero, List.getElem_cons_succ]
                    refine wpAnyH_take (i := 8) (v := v3) rfl (by kernel_rfl) (by kernel_rfl) (by kernel_rfl) (fun _ _ _ h => h) (Or.inl ⟨by rfl, fun w hw => by clear hw; go_simp⟩) hHeld ?_
                    try simp only [Act.put, List.setIfInBounds_toArray, List.set_cons_zero, List.set_cons_succ, List.getElem_toArray, List.getElem_cons_zero, List.getElem_cons_succ]
                    refine wpAnyH_take (i := 9) (v := .int .i64 0) rfl (by kernel_rfl) (by kernel_rfl) (by kernel_rfl) (fun _ _ _ h => h) (Or.inl ⟨by rfl, fun w hw => by clear hw; go_simp⟩) hHeld ?_
                    try simp only [Act.put, List.setIfInBounds_toArray, List.set_cons_zero, List.set_cons_succ, List.getElem_toArray, List.getElem_cons_zero, List.getElem_cons_succ]
                    refine wpAnyH_done (by kernel_rfl) ?_ _
                    have HOW : Hid (V3.ownsRow (w2.heap.size + 1) 5 1 v3 (encK k s0 s1 s2 A B C 3).length (byV (encK k s0 s1 s2 A B C 3))) := Lib.hid (by
                      rw [encK_succ k s0 s1 s2 A B C (k := 2) (by decide), byV_append, List.length_append]
                      have hl : (be (wdN (pick3 s0 s1 s2 2)) (pick3 A B C 2)).length = wdN s2 := be_length _ _
                      rw [hl]
                      exact how)
                    have GF := Lib.hid hHeld
                    clear how hgr hHeld HCP
                    go_wp2_with fail
                    go_ret2
                    exact ⟨_, rfl, own_down HOW.out (by omega), g_trans GP.out GF.out⟩
end Go.Proofs.Ytmckaimgeflncaa

