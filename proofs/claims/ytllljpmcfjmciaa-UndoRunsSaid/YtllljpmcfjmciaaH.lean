/- A log of old values: the page's example; UndoNobody. -/
import Derived.Test.YtllljpmcfjmciaaG
import Derived.Test.YtllljpmcfjmciaaShapes
namespace Go.Proofs.Ytllljpmcfjmciaa
open Go.RowKit
set_option linter.unusedVariables false
set_option linter.unusedSimpArgs false

set_option maxRecDepth 100000 in
set_option maxHeartbeats 12800000 in
theorem awake_any (w : World) : Calls Try.prog 7 #[] w fun e w' => e = .returned (.bool true) ∧ w.grownBy w' none := by
  go_enter Try.func7, Try.ntmps7
  go_wp2_with fail
  refine (new_i 2 w).mono ?_
  rintro e w1 ⟨g1, ⟨hnp, -⟩ | ⟨-, b, rfl, hls⟩⟩
  · exact absurd hnp (by decide)
  have HX := Lib.hid (St0.start g1 hls)
  clear g1 hls
  generalize (fun i => w.heap.size ≤ i ∧ i < w1.heap.size) = S0 at *
  go_wp2_with fail
  have HS := Lib.hid ((HX.out.new #[.int .i64 0, .int .i64 0, .int .i64 1, .int .i64 0, .int .i64 0, .bool false, .int .i64 0] 36).1.new #[.int .i64 0, .int .i64 0, .int .i64 2, .int .i64 1, .int .i64 5, .bool false, .int .i64 0] 36).1
  have SA : Hid (Sd ((w1.alloc (.cells #[.int .i64 0, .int .i64 0, .int .i64 1, .int .i64 0, .int .i64 0, .bool false, .int .i64 0] 36)).alloc (.cells #[.int .i64 0, .int .i64 0, .int .i64 2, .int .i64 1, .int .i64 5, .bool false, .int .i64 0] 36)) S0 w1.heap.size #[.int .i64 0, .int .i64 0, .int .i64 1, .int .i64 0, .int .i64 0, .bool false, .int .i64 0] 36) := Lib.hid ((HX.out.new #[.int .i64 0, .int .i64 0, .int .i64 1, .int .i64 0, .int .i64 0, .bool false, .int .i64 0] 36).2.keep (g_alloc (g_refl _ none) _))
  have SB : Hid (Sd ((w1.alloc (.cells #[.int .i64 0, .int .i64 0, .int .i64 1, .int .i64 0, .int .i64 0, .bool false, .int .i64 0] 36)).alloc (.cells #[.int .i64 0, .int .i64 0, .int .i64 2, .int .i64 1, .int .i64 5, .bool false, .int .i64 0] 36)) S0 (w1.heap.size + 1) #[.int .i64 0, .int .i64 0, .int .i64 2, .int .i64 1, .int .i64 5, .bool false, .int .i64 0] 36) := Lib.hid (by have h := ((HX.out.new #[.int .i64 0, .int .i64 0, .int .i64 1, .int .i64 0, .int .i64 0, .bool false, .int .i64 0] 36).1.new #[.int .i64 0, .int .i64 0, .int .i64 2, .int .i64 1, .int .i64 5, .bool false, .int .i64 0] 36).2; rw [World.size_alloc] at h; exact h)
  clear HX
  generalize ((w1.alloc (.cells #[.int .i64 0, .int .i64 0, .int .i64 1, .int .i64 0, .int .i64 0, .bool false, .int .i64 0] 36)).alloc (.cells #[.int .i64 0, .int .i64 0, .int .i64 2, .int .i64 1, .int .i64 5, .bool false, .int .i64 0] 36)) = W2 at *
  generalize w1.heap.size + 1 = xb at *
  generalize w1.heap.size = xa at *
  have HS0 := Lib.hid (HS.out.keep (g_drew (g_refl W2 none)))
  have SA0 := Lib.hid (SA.out.keep (g_drew (g_refl W2 none)))
  have SB0 := Lib.hid (SB.out.keep (g_drew (g_refl W2 none)))
  have HI0 : Hid (∀ i, i < W2.heap.size → S0 i → S0 i) := Lib.hid (fun _ _ e => e)
  refine wp_region_held_drew (S := fun W' => Tr (fun i => i ≠ xa ∧ i ≠ xb ∧ w.heap.size ≤ i) W2 W') (by kernel_rfl) (tr_g (g_drew (g_refl W2 none)) _) (fun hHeld => ?_)
  refine wpAnyH_take (i := 0) (v := .pointer (some ⟨b, 0, none⟩)) rfl (by kernel_rfl) (by kernel_rfl) (by kernel_rfl) (fun _ _ _ h => h) (Or.inl ⟨by rfl, fun w hw => by clear hw; go_simp⟩) hHeld ?_
  try simp only [Act.put, List.setIfInBounds_toArray, List.set_cons_zero, List.set_cons_succ, List.getElem_toArray, List.getElem_cons_zero, List.getElem_cons_succ]
  refine wpAnyH_take (i := 1) (v := .agg #[.int .i64 0, .int .i64 0, .int .i64 1, .int .i64 0, .int .i64 0, .bool false, .int .i64 0]) rfl (by kernel_rfl) (by kernel_rfl) (by kernel_rfl) (fun _ _ _ h => h) (Or.inl ⟨by rfl, fun w hw => by have q0 := hw.cell (SA.out.1.cell 0 _ rfl) (by simp); have q1 := hw.cell (SA.out.1.cell 1 _ rfl) (by simp); have q2 := hw.cell (SA.out.1.cell 2 _ rfl) (by simp); have q3 := hw.cell (SA.out.1.cell 3 _ rfl) (by simp); have q4 := hw.cell (SA.out.1.cell 4 _ rfl) (by simp); have q5 := hw.cell (SA.out.1.cell 5 _ rfl) (by simp); have q6 := hw.cell (SA.out.1.cell 6 _ rfl) (by simp); clear hw; go_simp⟩) hHeld ?_
  try simp only [Act.put, List.setIfInBounds_toArray, List.set_cons_zero, List.set_cons_succ, List.getElem_toArray, List.getElem_cons_zero, List.getElem_cons_succ]
  refine wpAnyH_take (i := 3) (v := .pointer (some ⟨b, 0, none⟩)) rfl (by kernel_rfl) (by kernel_rfl) (by kernel_rfl) (fun _ _ _ h => h) (Or.inl ⟨by rfl, fun w hw => by clear hw; go_simp⟩) hHeld ?_
  try simp only [Act.put, List.setIfInBounds_toArray, List.set_cons_zero, List.set_cons_succ, List.getElem_toArray, List.getElem_cons_zero, List.getElem_cons_succ]
  refine wpAnyH_take (i := 4) (v := .agg #[.int .i64 0, .int .i64 0, .int .i64 2, .int .i64 1, .int .i64 5, .bool false, .int .i64 0]) rfl (by kernel_rfl) (by kernel_rfl) (by kernel_rfl) (fun _ _ _ h => h) (Or.inl ⟨by rfl, fun w hw => by have q0 := hw.cell (SB.out.1.cell 0 _ rfl) (by simp); have q1 := hw.cell (SB.out.1.cell 1 _ rfl) (by simp); have q2 := hw.cell (SB.out.1.cell 2 _ rfl) (by simp); have q3 := hw.cell (SB.out.1.cell 3 _ rfl) (by simp); have q4 := hw.cell (SB.out.1.cell 4 _ rfl) (by simp); have q5 := hw.cell (SB.out.1.cell 5 _ rfl) (by simp); have q6 := hw.cell (SB.out.1.cell 6 _ rfl) (by simp); clear hw; go_simp⟩) hHeld ?_
  try simp only [Act.put, List.setIfInBounds_toArray, List.set_cons_zero, List.set_cons_succ, List.getElem_toArray, List.getElem_cons_zero, List.getElem_cons_succ]
  refine wpAnyH_take (i := 6) (v := .pointer (some ⟨b, 0, none⟩)) rfl (by kernel_rfl) (by kernel_rfl) (by kernel_rfl) (fun _ _ _ h => h) (Or.inl ⟨by rfl, fun w hw => by clear hw; go_simp⟩) hHeld ?_
  try simp only [Act.put, List.setIfInBounds_toArray, List.set_cons_zero, List.set_cons_succ, List.getElem_toArray, List.getElem_cons_zero, List.getElem_cons_succ]
  refine wpAnyH_take (i := 7) (v := .agg #[.int .i64 0, .int .i64 0, .int .i64 1, .int .i64 0, .int .i64 0, .bool false, .int .i64 0]) rfl (by kernel_rfl) (by kernel_rfl) (by kernel_rfl) (fun _ _ _ h => h) (Or.inl ⟨by rfl, fun w hw => by have q0 := hw.cell (SA.out.1.cell 0 _ rfl) (by simp); have q1 := hw.cell (SA.out.1.cell 1 _ rfl) (by simp); have q2 := hw.cell (SA.out.1.cell 2 _ rfl) (by simp); have q3 := hw.cell (SA.out.1.cell 3 _ rfl) (by simp); have q4 := hw.cell (SA.out.1.cell 4 _ rfl) (by simp); have q5 := hw.cell (SA.out.1.cell 5 _ rfl) (by simp); have q6 := hw.cell (SA.out.1.cell 6 _ rfl) (by simp); clear hw; go_simp⟩) hHeld ?_
  try simp only [Act.put, List.setIfInBounds_toArray, List.set_cons_zero, List.set_cons_succ, List.getElem_toArray, List.getElem_cons_zero, List.getElem_cons_succ]
  refine wpAnyH_ready (rs := [2]) (by kernel_rfl) (by simp) (AllReadyH.cons rfl (fun K hK => ?_) (AllReadyH.nil))
  · go_simp
    refine Calls.mono (push_i (HS0.out.1) (by decide) 0 0 1 0 0 false 0 (by decide)) ?_
    rintro e wp1 ⟨rfl, hmv⟩
    rw [show pushP 2 [] ⟨0, 0, 1, 0, 0, false, 0⟩ = (0, [(⟨0, 0, 1, 0, 0, false, 0⟩ : OV)]) from rfl] at hmv ⊢
    obtain ⟨Swp1, h1, hsd, hs1, ttwp1⟩ := HS0.out.move hmv
    try go_wp2_with fail
    have HSwp1 := Lib.hid h1
    have SAwp1 := Lib.hid (hsd _ _ _ SA0.out)
    have SBwp1 := Lib.hid (hsd _ _ _ SB0.out)
    have HIwp1 : Hid (∀ i, i < W2.heap.size → Swp1 i → S0 i) := Lib.hid (fun i hi e => by
      rcases hs1 i e with e | e
      · exact HI0.out i hi e
      · have := hHeld.size; omega)
    clear h1 hsd hs1 hmv
    refine hK.out _ _ (tr_trans hHeld ttwp1 (fun i hi e => ⟨fun x => SA.out.2 (HI0.out i hi (by subst x; exact e) |> fun z => by subst x; exact z), fun x => SB.out.2 (by subst x; exact HI0.out _ hi e), HS.out.2.1 i (HI0.out i hi e)⟩)) (fun hHeld => ?_)
    clear hK K
    try simp only [Act.put, List.setIfInBounds_toArray, List.set_cons_zero, List.set_cons_succ, List.getElem_toArray, List.getElem_cons_zero, List.getElem_cons_succ]
    refine wpAnyH_ready (rs := [5]) (by kernel_rfl) (by simp) (AllReadyH.cons rfl (fun K hK => ?_) (AllReadyH.nil))
    · go_simp
      refine Calls.mono (push_i (HSwp1.out.1) (by decide) 0 0 2 1 5 false 0 (by decide)) ?_
      rintro e wp2 ⟨rfl, hmv⟩
      rw [show pushP 2 [(⟨0, 0, 1, 0, 0, false, 0⟩ : OV)] ⟨0, 0, 2, 1, 5, false, 0⟩ = (0, [(⟨0, 0, 1, 0, 0, false, 0⟩ : OV), (⟨0, 0, 2, 1, 5, false, 0⟩ : OV)]) from rfl] at hmv ⊢
      obtain ⟨Swp2, h1, hsd, hs1, ttwp2⟩ := HSwp1.out.move hmv
      try go_wp2_with fail
      have HSwp2 := Lib.hid h1
      have SAwp2 := Lib.hid (hsd _ _ _ SAwp1.out)
      have SBwp2 := Lib.hid (hsd _ _ _ SBwp1.out)
      have HIwp2 : Hid (∀ i, i < W2.heap.size → Swp2 i → S0 i) := Lib.hid (fun i hi e => by
        rcases hs1 i e with e | e
        · exact HIwp1.out i hi e
        · have := hHeld.size; omega)
      clear h1 hsd hs1 hmv
      refine hK.out _ _ (tr_trans hHeld ttwp2 (fun i hi e => ⟨fun x => SA.out.2 (HIwp1.out i hi (by subst x; exact e) |> fun z => by subst x; exact z), fun x => SB.out.2 (by subst x; exact HIwp1.out _ hi e), HS.out.2.1 i (HIwp1.out i hi e)⟩)) (fun hHeld => ?_)
      clear hK K
      try simp only [Act.put, List.setIfInBounds_toArray, List.set_cons_zero, List.set_cons_succ, List.getElem_toArray, List.getElem_cons_zero, List.getElem_cons_succ]
      refine wpAnyH_ready (rs := [8]) (by kernel_rfl) (by simp) (AllReadyH.cons rfl (fun K hK => ?_) (AllReadyH.nil))
      · go_simp
        refine Calls.mono (push_i (HSwp2.out.1) (by decide) 0 0 1 0 0 false 0 (by decide)) ?_
        rintro e wp3 ⟨rfl, hmv⟩
        rw [show pushP 2 [(⟨0, 0, 1, 0, 0, false, 0⟩ : OV), (⟨0, 0, 2, 1, 5, false, 0⟩ : OV)] ⟨0, 0, 1, 0, 0, false, 0⟩ = (70, [(⟨0, 0, 1, 0, 0, false, 0⟩ : OV), (⟨0, 0, 2, 1, 5, false, 0⟩ : OV)]) from rfl] at hmv ⊢
        obtain ⟨Swp3, h1, hsd, hs1, ttwp3⟩ := HSwp2.out.move hmv
        try go_wp2_with fail
        have HSwp3 := Lib.hid h1
        have SAwp3 := Lib.hid (hsd _ _ _ SAwp2.out)
        have SBwp3 := Lib.hid (hsd _ _ _ SBwp2.out)
        have HIwp3 : Hid (∀ i, i < W2.heap.size → Swp3 i → S0 i) := Lib.hid (fun i hi e => by
          rcases hs1 i e with e | e
          · exact HIwp2.out i hi e
          · have := hHeld.size; omega)
        clear h1 hsd hs1 hmv
        refine hK.out _ _ (tr_trans hHeld ttwp3 (fun i hi e => ⟨fun x => SA.out.2 (HIwp2.out i hi (by subst x; exact e) |> fun z => by subst x; exact z), fun x => SB.out.2 (by subst x; exact HIwp2.out _ hi e), HS.out.2.1 i (HIwp2.out i hi e)⟩)) (fun hHeld => ?_)
        clear hK K
        try simp only [Act.put, List.setIfInBounds_toArray, List.set_cons_zero, List.set_cons_succ, List.getElem_toArray, List.getElem_cons_zero, List.getElem_cons_succ]
        refine wpAnyH_take (i := 9) (v := .int .i64 0) rfl (by kernel_rfl) (by kernel_rfl) (by kernel_rfl) (fun _ _ _ h => h) (Or.inl ⟨by rfl, fun w hw => by clear hw; go_simp⟩) hHeld ?_
        try simp only [Act.put, List.setIfInBounds_toArray, List.set_cons_zero, List.set_cons_succ, List.getElem_toArray, List.getElem_cons_zero, List.getElem_cons_succ]
        refine wpAnyH_take (i := 10) (v := .int .i64 0) rfl (by kernel_rfl) (by kernel_rfl) (by kernel_rfl) (fun _ _ _ h => h) (Or.inl ⟨by rfl, fun w hw => by clear hw; go_simp⟩) hHeld ?_
        try simp only [Act.put, List.setIfInBounds_toArray, List.set_cons_zero, List.set_cons_succ, List.getElem_toArray, List.getElem_cons_zero, List.getElem_cons_succ]
        refine wpAnyH_take (i := 11) (v := .int .i64 70) rfl (by kernel_rfl) (by kernel_rfl) (by kernel_rfl) (fun _ _ _ h => h) (Or.inl ⟨by rfl, fun w hw => by clear hw; go_simp⟩) hHeld ?_
        try simp only [Act.put, List.setIfInBounds_toArray, List.set_cons_zero, List.set_cons_succ, List.getElem_toArray, List.getElem_cons_zero, List.getElem_cons_succ]
        refine wpAnyH_done (by kernel_rfl) ?_ _
        clear hHeld ttwp1 ttwp2 ttwp3
        go_wp2_with fail
        refine (first_any b _ 2 _ 0 0 2 wp3 HSwp3.out.1.1 (by decide) (by decide)).mono ?_
        rw [show firstP 0 0 2 [(⟨0, 0, 1, 0, 0, false, 0⟩ : OV), (⟨0, 0, 2, 1, 5, false, 0⟩ : OV)] = (1, 5, true) from rfl]
        rintro e wf ⟨rfl, gf⟩
        have HSf := Lib.hid (HSwp3.out.keep gf)
        have SAf := Lib.hid (SAwp3.out.keep gf)
        have SBf := Lib.hid (SBwp3.out.keep gf)
        clear gf
        go_wp2_with fail
        obtain ⟨h1, x1⟩ := HSf.out.new #[.int .i64 1, .int .i64 5] 31
        have HSg := Lib.hid h1
        have X8g := Lib.hid x1
        have SAg := Lib.hid (SAf.out.keep (g_alloc (g_refl _ none) (.cells #[.int .i64 1, .int .i64 5] 31)))
        have SBg := Lib.hid (SBf.out.keep (g_alloc (g_refl _ none) (.cells #[.int .i64 1, .int .i64 5] 31)))
        clear h1 x1
        generalize wf.alloc (.cells #[.int .i64 1, .int .i64 5] 31) = wg at *
        generalize wf.heap.size = x8 at *
        refine (pop_i HSg.out.1 (by decide) (by decide)).mono ?_
        rw [show popP [(⟨0, 0, 1, 0, 0, false, 0⟩ : OV), (⟨0, 0, 2, 1, 5, false, 0⟩ : OV)] = (((⟨0, 0, 2, 1, 5, false, 0⟩ : OV), true), [(⟨0, 0, 1, 0, 0, false, 0⟩ : OV)]) from rfl]
        rintro e wu ⟨rfl, hmv⟩
        obtain ⟨Su, h1, hsd, -, -⟩ := HSg.out.move hmv
        have HSu := Lib.hid h1
        have SAu := Lib.hid (hsd _ _ _ SAg.out)
        have SBu := Lib.hid (hsd _ _ _ SBg.out)
        have X8u := Lib.hid (hsd _ _ _ X8g.out)
        clear h1 hsd hmv
        go_wp2_with fail
        obtain ⟨h1, x1⟩ := HSu.out.new #[.int .i64 0, .int .i64 0, .int .i64 2, .int .i64 1, .int .i64 5, .bool false, .int .i64 0] 36
        have HSun := Lib.hid h1
        have Y10un := Lib.hid x1
        have SAun := Lib.hid (SAu.out.keep (g_alloc (g_refl _ none) (.cells #[.int .i64 0, .int .i64 0, .int .i64 2, .int .i64 1, .int .i64 5, .bool false, .int .i64 0] 36)))
        have SBun := Lib.hid (SBu.out.keep (g_alloc (g_refl _ none) (.cells #[.int .i64 0, .int .i64 0, .int .i64 2, .int .i64 1, .int .i64 5, .bool false, .int .i64 0] 36)))
        have X8un := Lib.hid (X8u.out.keep (g_alloc (g_refl _ none) (.cells #[.int .i64 0, .int .i64 0, .int .i64 2, .int .i64 1, .int .i64 5, .bool false, .int .i64 0] 36)))
        clear h1 x1
        generalize wu.alloc (.cells #[.int .i64 0, .int .i64 0, .int .i64 2, .int .i64 1, .int .i64 5, .bool false, .int .i64 0] 36) = wun at *
        generalize wu.heap.size = y10 at *
        refine (pop_i HSun.out.1 (by decide) (by decide)).mono ?_
        rw [show popP [(⟨0, 0, 1, 0, 0, false, 0⟩ : OV)] = (((⟨0, 0, 1, 0, 0, false, 0⟩ : OV), true), []) from rfl]
        rintro e wv ⟨rfl, hmv⟩
        obtain ⟨Sv, h1, hsd, -, -⟩ := HSun.out.move hmv
        have HSv := Lib.hid h1
        have SAv := Lib.hid (hsd _ _ _ SAun.out)
        have SBv := Lib.hid (hsd _ _ _ SBun.out)
        have X8v := Lib.hid (hsd _ _ _ X8un.out)
        have Y10v := Lib.hid (hsd _ _ _ Y10un.out)
        clear h1 hsd hmv
        go_wp2_with fail
        obtain ⟨h1, x1⟩ := HSv.out.new #[.int .i64 0, .int .i64 0, .int .i64 1, .int .i64 0, .int .i64 0, .bool false, .int .i64 0] 36
        have HSvn := Lib.hid h1
        have Y12vn := Lib.hid x1
        have SAvn := Lib.hid (SAv.out.keep (g_alloc (g_refl _ none) (.cells #[.int .i64 0, .int .i64 0, .int .i64 1, .int .i64 0, .int .i64 0, .bool false, .int .i64 0] 36)))
        have SBvn := Lib.hid (SBv.out.keep (g_alloc (g_refl _ none) (.cells #[.int .i64 0, .int .i64 0, .int .i64 1, .int .i64 0, .int .i64 0, .bool false, .int .i64 0] 36)))
        have X8vn := Lib.hid (X8v.out.keep (g_alloc (g_refl _ none) (.cells #[.int .i64 0, .int .i64 0, .int .i64 1, .int .i64 0, .int .i64 0, .bool false, .int .i64 0] 36)))
        have Y10vn := Lib.hid (Y10v.out.keep (g_alloc (g_refl _ none) (.cells #[.int .i64 0, .int .i64 0, .int .i64 1, .int .i64 0, .int .i64 0, .bool false, .int .i64 0] 36)))
        clear h1 x1
        generalize wv.alloc (.cells #[.int .i64 0, .int .i64 0, .int .i64 1, .int .i64 0, .int .i64 0, .bool false, .int .i64 0] 36) = wvn at *
        generalize wv.heap.size = y12 at *
        refine (pop_i HSvn.out.1 (by decide) (by decide)).mono ?_
        rw [show popP [] = ((zOV, false), []) from rfl]
        rintro e wz ⟨rfl, hmv⟩
        obtain ⟨Sz, h1, hsd, -, -⟩ := HSvn.out.move hmv
        have hn := (h1.new #[.int .i64 0, .int .i64 0, .int .i64 0, .int .i64 0, .int .i64 0, .bool false, .int .i64 0] 36).1.2.2
        have a1 := (hsd _ _ _ SAvn.out).keep (g_alloc (g_refl _ none) (.cells #[.int .i64 0, .int .i64 0, .int .i64 0, .int .i64 0, .int .i64 0, .bool false, .int .i64 0] 36))
        have a2 := (hsd _ _ _ SBvn.out).keep (g_alloc (g_refl _ none) (.cells #[.int .i64 0, .int .i64 0, .int .i64 0, .int .i64 0, .int .i64 0, .bool false, .int .i64 0] 36))
        have a3 := (hsd _ _ _ X8vn.out).keep (g_alloc (g_refl _ none) (.cells #[.int .i64 0, .int .i64 0, .int .i64 0, .int .i64 0, .int .i64 0, .bool false, .int .i64 0] 36))
        have a4 := (hsd _ _ _ Y10vn.out).keep (g_alloc (g_refl _ none) (.cells #[.int .i64 0, .int .i64 0, .int .i64 0, .int .i64 0, .int .i64 0, .bool false, .int .i64 0] 36))
        have a5 := (hsd _ _ _ Y12vn.out).keep (g_alloc (g_refl _ none) (.cells #[.int .i64 0, .int .i64 0, .int .i64 0, .int .i64 0, .int .i64 0, .bool false, .int .i64 0] 36))
        have HF := Lib.hid hn
        have ca0 := a1.1.cell 0 _ rfl
        have cb0 := a2.1.cell 0 _ rfl
        have cy0 := a4.1.cell 0 _ rfl
        have cz0 := a5.1.cell 0 _ rfl
        have ca1 := a1.1.cell 1 _ rfl
        have cb1 := a2.1.cell 1 _ rfl
        have cy1 := a4.1.cell 1 _ rfl
        have cz1 := a5.1.cell 1 _ rfl
        have ca2 := a1.1.cell 2 _ rfl
        have cb2 := a2.1.cell 2 _ rfl
        have cy2 := a4.1.cell 2 _ rfl
        have cz2 := a5.1.cell 2 _ rfl
        have ca3 := a1.1.cell 3 _ rfl
        have cb3 := a2.1.cell 3 _ rfl
        have cy3 := a4.1.cell 3 _ rfl
        have cz3 := a5.1.cell 3 _ rfl
        have ca4 := a1.1.cell 4 _ rfl
        have cb4 := a2.1.cell 4 _ rfl
        have cy4 := a4.1.cell 4 _ rfl
        have cz4 := a5.1.cell 4 _ rfl
        have ca5 := a1.1.cell 5 _ rfl
        have cb5 := a2.1.cell 5 _ rfl
        have cy5 := a4.1.cell 5 _ rfl
        have cz5 := a5.1.cell 5 _ rfl
        have ca6 := a1.1.cell 6 _ rfl
        have cb6 := a2.1.cell 6 _ rfl
        have cy6 := a4.1.cell 6 _ rfl
        have cz6 := a5.1.cell 6 _ rfl
        have c80 := a3.1.cell 0 _ rfl
        have c81 := a3.1.cell 1 _ rfl
        clear h1 hsd hmv hn a1 a2 a3 a4 a5
        dsimp only [zOV]
        go_wp2_with fail
        go_ret
        exact ⟨rfl, HF.out⟩

end Go.Proofs.Ytllljpmcfjmciaa
