/- A log of old values: the document's New, Push. -/
import Derived.Test.YtllljpmcfjmciaaG
namespace Go.Proofs.Ytllljpmcfjmciaa
open Go.RowKit
set_option linter.unusedVariables false
set_option linter.unusedSimpArgs false

theorem rnew_any (most : Int) (w : World) : Calls Try.prog 12 #[.int .i64 most] w fun e w' => e = .returned (.tuple #[.agg #[.int .i64 (if newP most then most else 0), .slice none 0 0], .int .i64 (if newP most then 0 else 1)]) ∧ w.grownBy w' none := by
  have hcs : (most < 1) ∨ (¬ most < 1 ∧ 4096 < most) ∨ (¬ most < 1 ∧ ¬ 4096 < most) := by omega
  rcases hcs with h1 | ⟨h1, h2⟩ | ⟨h1, h2⟩
  rotate_right 1
  · rw [show newP most = true from decide_eq_true (by omega)]
    have hF := Blk.new w #[.int .i64 most, .slice none 0 0] 46
    have k0 := hF.cell 0 (.int .i64 most) rfl
    have k1 := hF.cell 1 (.slice none 0 0) rfl
    go_enter Try.func12, Try.ntmps12
    go_wp2_with fail
    exact bodyPost_ret (v := .tuple #[.agg #[.int .i64 most, .slice none 0 0], .int .i64 0]) (by simp [results, Try.results12, go_sem, k0, k1]) rfl ⟨by simp, g_alloc (g_refl _ _) _⟩
  all_goals
    rw [show newP most = false from decide_eq_false (by omega)]
    have hF := Blk.new w #[.int .i64 0, .slice none 0 0] 46
    have k0 := hF.cell 0 (.int .i64 0) rfl
    have k1 := hF.cell 1 (.slice none 0 0) rfl
    go_enter Try.func12, Try.ntmps12
    go_wp2_with fail
    exact bodyPost_ret (v := .tuple #[.agg #[.int .i64 0, .slice none 0 0], .int .i64 1]) (by simp [results, Try.results12, go_sem, k0, k1]) rfl ⟨by simp, g_alloc (g_refl _ _) _⟩

theorem run_append_empty {P : Program} {w : World} (base : Nat) (t ty e : TypeId) (i : TypeInfo) (size : Nat) (ht : P.underlying t = some (.slice e)) (hi : P.info? e = some i)
    (v : Value) (n : Nat) (xs : List Value) (hown : w.ownsRow base e size v n xs) (ao : Option Addr) (c : Nat) :
    (Builtin.append_ #[t, t] ty #[v, .slice ao 0 c]).run P w = .ok v w := by
  rcases hown.2 with ⟨rfl, rfl⟩ | ⟨g, cap, cur, rfl, _, _, hnc, _⟩
  · cases ao <;> simp [Builtin.append_, run_underlying ht, sizeOf, typeInfo, hi, Builtin.lenOf, Builtin.firstCells, loadCells, loadCellsFrom]
  · cases ao <;> simp [Builtin.append_, run_underlying ht, sizeOf, typeInfo, hi, Builtin.lenOf, Builtin.firstCells, hnc, storeCells, loadCells, loadCellsFrom]
/-- a row is appended to an empty one -/
theorem wp_app {o : Oper} {a : Act} {w : World} {K : Act → World → Prop} {Q : Exit → Act → World → Prop} (s x : Operand)
    (ho : o.op = .call { callee := .builtin .append, args := #[s, x], argTypes := #[44, 44] }) (B g0 : Nat) (hs : a.eval s = .slice (some ⟨g0, 0, none⟩) 0 0) (hown : w.ownsRow B 36 7 (.slice (some ⟨g0, 0, none⟩) 0 0) 0 [])
    (ao : Option Addr) (n c : Nat) (M : List OV) (hx : a.eval x = .slice ao n c) (hM : M.length = n) (hn : n ≤ 5000) (hr : SRow w ao M) (hB : B ≤ w.heap.size)
    (h : ∀ g cap w', w'.ownsRow B 36 7 (.slice (some ⟨g, 0, none⟩) n cap) n (scl M) → w.grownBy w' (some g0) → (g = g0 ∨ g = w.heap.size) → K (a.put o.dst (.slice (some ⟨g, 0, none⟩) n cap)) w') :
    Oper.wp Try.prog o a w K Q := by
  obtain ⟨i0, hi, hz0, hz1, hz2⟩ := info_parts info36
  by_cases h0 : n = 0
  · subst h0
    obtain rfl : M = [] := List.eq_nil_of_length_eq_zero hM
    have hrun := run_append_empty (P := Try.prog) (w := w) B 44 o.type 36 i0 7 Try.underlying44 hi _ 0 [] hown ao c
    unfold Oper.wp
    simp [execOp, ho, resolve, invoke, builtin, hs, hx, hrun, Result.andThen]
    exact h g0 0 w hown (g_refl _ _) (.inl rfl)
  · obtain ⟨bq, oq, rfl⟩ : ∃ bq oq, ao = some ⟨bq, oq, none⟩ := by
      obtain ⟨bq, oq, h, _⟩ := hr 0 (M[0]'(by omega)) (List.getElem?_eq_getElem _)
      exact ⟨bq, oq, h⟩
    refine wp_append_lies w s x 44 ho B 36 i0 _ 7 56 Try.underlying44 hi hz0 hz1 hz2 rfl (by decide) (.slice (some ⟨g0, 0, none⟩) 0 0) 0 [] hs hown ⟨bq, oq, none⟩ n c (scl M) hx (by rw [scl_length, hM]) (srow_cells hr) (scl_ones M) (by omega) (by unfold maxLen; omega) (by omega) hB w.heap.size rfl ?_
    intro g cap w' h1 h2 h3 h4
    rw [Nat.zero_add] at h1 ⊢
    refine h g cap w' h1 h2 ?_
    rcases h3 with e | e
    · exact .inl (by simpa [Value.ownBlock] using e.symm)
    · exact .inr e
theorem step_app {ops : Array Oper} {o : Oper} {a : Act} {w : World} {K : Act → World → Prop} {Q : Exit → Act → World → Prop} {E : Prop} (hgd : o.guard = none) (s x : Operand)
    (ho : o.op = .call { callee := .builtin .append, args := #[s, x], argTypes := #[44, 44] }) (B g0 : Nat) (hs : a.eval s = .slice (some ⟨g0, 0, none⟩) 0 0) (hown : w.ownsRow B 36 7 (.slice (some ⟨g0, 0, none⟩) 0 0) 0 [])
    (ao : Option Addr) (n c : Nat) (M : List OV) (hx : a.eval x = .slice ao n c) (hM : M.length = n) (hn : n ≤ 5000) (hr : SRow w ao M) (hB : B ≤ w.heap.size)
    (h : ∀ g cap w', w'.ownsRow B 36 7 (.slice (some ⟨g, 0, none⟩) n cap) n (scl M) → w.grownBy w' (some g0) → (g = g0 ∨ g = w.heap.size) → K (a.put o.dst (.slice (some ⟨g, 0, none⟩) n cap)) w') :
    if Region.wanted o (yielded ops a.tmps) = true then Oper.wp Try.prog o a w K Q else E := by
  have hw : Region.wanted o (yielded ops a.tmps) = true := by simp [Region.wanted, hgd]
  rw [if_pos hw]
  exact wp_app s x ho B g0 hs hown ao n c M hx hM hn hr hB h
theorem wpList_app {ops : Array Oper} {rest : List Oper} {o : Oper} {a : Act} {w : World} {Q : Exit → Act → World → Prop} (hgd : o.guard = none) (s x : Operand)
    (ho : o.op = .call { callee := .builtin .append, args := #[s, x], argTypes := #[44, 44] }) (B g0 : Nat) (hs : a.eval s = .slice (some ⟨g0, 0, none⟩) 0 0) (hown : w.ownsRow B 36 7 (.slice (some ⟨g0, 0, none⟩) 0 0) 0 [])
    (ao : Option Addr) (n c : Nat) (M : List OV) (hx : a.eval x = .slice ao n c) (hM : M.length = n) (hn : n ≤ 5000) (hr : SRow w ao M) (hB : B ≤ w.heap.size)
    (h : ∀ g cap w', w'.ownsRow B 36 7 (.slice (some ⟨g, 0, none⟩) n cap) n (scl M) → w.grownBy w' (some g0) → (g = g0 ∨ g = w.heap.size) → wpList Try.prog ops Q rest (a.put o.dst (.slice (some ⟨g, 0, none⟩) n cap)) w') : wpList Try.prog ops Q (o :: rest) a w :=
  wpList_plain hgd fun _ hK => wp_app s x ho B g0 hs hown ao n c M hx hM hn hr hB fun g cap w' h1 h2 h3 => hK _ _ (h g cap w' h1 h2 h3)

/-- a log of the document's, as a value: the old row, or a row behind n0 -/
def RV (w : World) (most : Int) (M0 : List OV) (a0 : Option Addr) (n0 : Nat) (M : List OV) (x : Value) : Prop := ∃ ao c, x = .agg #[.int .i64 most, .slice ao M.length c] ∧ SRow w ao M ∧ M.length ≤ c ∧ c ≤ 9223372036854775807 ∧ (ao = none → M = []) ∧ ((ao = a0 ∧ M = M0) ∨ ∀ a, ao = some a → n0 ≤ a.block)

set_option maxRecDepth 100000 in
set_option maxHeartbeats 12800000 in
theorem rpush_any (most : Int) (ao : Option Addr) (c : Nat) (M : List OV) (pk pn pf pvk pvn : Int) (ph : Bool) (ps : Int) (w : World) (hs : SRow w ao M) (hc : M.length ≤ c) (hcm : c ≤ 9223372036854775807) (hnil : ao = none → M = []) (hl : M.length ≤ 4999) :
    Calls Try.prog 13 #[.agg #[.int .i64 most, .slice ao M.length c], .agg #[.int .i64 pk, .int .i64 pn, .int .i64 pf, .int .i64 pvk, .int .i64 pvn, .bool ph, .int .i64 ps]] w fun e w' => ∃ x, e = .returned (.tuple #[x, .int .i64 (pushP most M ⟨pk, pn, pf, pvk, pvn, ph, ps⟩).1]) ∧ RV w' most M ao w.heap.size (pushP most M ⟨pk, pn, pf, pvk, pvn, ph, ps⟩).2 x ∧ w.grownBy w' none := by
  obtain ⟨i0, hi, hz0, hz1, hz2⟩ := info_parts info36
  have g1 := g_alloc (g_refl w none) (.cells #[.int .i64 most, .slice ao M.length c] 46)
  have g2 := g_alloc (g_refl (w.alloc (.cells #[.int .i64 most, .slice ao M.length c] 46)) none) (.cells #[.int .i64 pk, .int .i64 pn, .int .i64 pf, .int .i64 pvk, .int .i64 pvn, .bool ph, .int .i64 ps] 36)
  have g3 := g_alloc (g_refl ((w.alloc (.cells #[.int .i64 most, .slice ao M.length c] 46)).alloc (.cells #[.int .i64 pk, .int .i64 pn, .int .i64 pf, .int .i64 pvk, .int .i64 pvn, .bool ph, .int .i64 ps] 36)) none) (.cells #[.int .i64 0, .slice none 0 0] 46)
  have BZ := Lib.hid (((Blk.new w #[.int .i64 most, .slice ao M.length c] 46).keepn g2).keepn g3)
  have BO : Hid (Blk (((w.alloc (.cells #[.int .i64 most, .slice ao M.length c] 46)).alloc (.cells #[.int .i64 pk, .int .i64 pn, .int .i64 pf, .int .i64 pvk, .int .i64 pvn, .bool ph, .int .i64 ps] 36)).alloc (.cells #[.int .i64 0, .slice none 0 0] 46)) (w.heap.size + 1) #[.int .i64 pk, .int .i64 pn, .int .i64 pf, .int .i64 pvk, .int .i64 pvn, .bool ph, .int .i64 ps] 36) := Lib.hid (by
    have h := (Blk.new (w.alloc (.cells #[.int .i64 most, .slice ao M.length c] 46)) #[.int .i64 pk, .int .i64 pn, .int .i64 pf, .int .i64 pvk, .int .i64 pvn, .bool ph, .int .i64 ps] 36).keepn g3
    rw [World.size_alloc] at h; exact h)
  have BR : Hid (Blk (((w.alloc (.cells #[.int .i64 most, .slice ao M.length c] 46)).alloc (.cells #[.int .i64 pk, .int .i64 pn, .int .i64 pf, .int .i64 pvk, .int .i64 pvn, .bool ph, .int .i64 ps] 36)).alloc (.cells #[.int .i64 0, .slice none 0 0] 46)) (w.heap.size + 1 + 1) #[.int .i64 0, .slice none 0 0] 46) := Lib.hid (by
    have h := Blk.new ((w.alloc (.cells #[.int .i64 most, .slice ao M.length c] 46)).alloc (.cells #[.int .i64 pk, .int .i64 pn, .int .i64 pf, .int .i64 pvk, .int .i64 pvn, .bool ph, .int .i64 ps] 36)) #[.int .i64 0, .slice none 0 0] 46
    simp only [World.size_alloc] at h; exact h)
  have G0 := Lib.hid (g_trans (g_trans g1 g2) g3)
  have hWs : (((w.alloc (.cells #[.int .i64 most, .slice ao M.length c] 46)).alloc (.cells #[.int .i64 pk, .int .i64 pn, .int .i64 pf, .int .i64 pvk, .int .i64 pvn, .bool ph, .int .i64 ps] 36)).alloc (.cells #[.int .i64 0, .slice none 0 0] 46)).heap.size = w.heap.size + 3 := by simp
  have HS := Lib.hid hs
  have HNI := Lib.hid hnil
  have HLT : Hid (∀ a, ao = some a → M ≠ [] → a.block < w.heap.size) := Lib.hid (fun a e h => by subst e; exact hs.lt h)
  obtain ⟨pp, hpp⟩ : ∃ pp, pushP most M ⟨pk, pn, pf, pvk, pvn, ph, ps⟩ = pp := ⟨_, rfl⟩
  rw [hpp]
  have HP := Lib.hid hpp
  clear g1 g2 g3 hs hnil hpp
  obtain ⟨n, hn⟩ : ∃ n, M.length = n := ⟨_, rfl⟩
  rw [hn] at BZ BO BR G0 hWs hc hl ⊢
  have HN := Lib.hid hn
  clear hn
  have z0 := BZ.out.cell 0 _ rfl
  have z1 := BZ.out.cell 1 _ rfl
  have r0 := BR.out.cell 0 _ rfl
  have r1 := BR.out.cell 1 _ rfl
  have rf0 := BR.out.free 0
  have rf1 := BR.out.free 1
  by_cases hfull : most ≤ n
  · obtain rfl : pp = (70, M) := by rw [← HP.out, pushP, if_pos (by rw [HN.out]; exact hfull)]
    clear HP
    go_enter Try.func13, Try.ntmps13
    go_wp2_with fail
    have HF := Blk.new ((w.alloc (.cells #[.int .i64 most, .slice ao n c] 46)).alloc (.cells #[.int .i64 pk, .int .i64 pn, .int .i64 pf, .int .i64 pvk, .int .i64 pvn, .bool ph, .int .i64 ps] 36)) #[.int .i64 most, .slice ao n c] 46
    simp only [World.size_alloc] at HF
    have gF : w.grownBy (((w.alloc (.cells #[.int .i64 most, .slice ao n c] 46)).alloc (.cells #[.int .i64 pk, .int .i64 pn, .int .i64 pf, .int .i64 pvk, .int .i64 pvn, .bool ph, .int .i64 ps] 36)).alloc (.cells #[.int .i64 most, .slice ao n c] 46)) none := g_alloc (g_alloc (g_alloc (g_refl w none) _) _) _
    have k0 := HF.cell 0 (.int .i64 most) rfl
    have k1 := HF.cell 1 (.slice ao n c) rfl
    exact bodyPost_ret (v := .tuple #[.agg #[.int .i64 most, .slice ao n c], .int .i64 70]) (by simp [results, Try.results13, go_sem, k0, k1]) rfl ⟨_, rfl, ⟨ao, c, by rw [HN.out], HS.out.keep gF, by rw [HN.out]; exact hc, hcm, HNI.out, .inl ⟨rfl, rfl⟩⟩, gF⟩
  · obtain rfl : pp = (0, M ++ [⟨pk, pn, pf, pvk, pvn, ph, ps⟩]) := by rw [← HP.out, pushP, if_neg (by rw [HN.out]; exact hfull)]
    clear HP
    go_enter Try.func13, Try.ntmps13
    go_wp2_with fail
    generalize ((w.alloc (.cells #[.int .i64 most, .slice ao n c] 46)).alloc (.cells #[.int .i64 pk, .int .i64 pn, .int .i64 pf, .int .i64 pvk, .int .i64 pvn, .bool ph, .int .i64 ps] 36)).alloc (.cells #[.int .i64 0, .slice none 0 0] 46) = W at *
    clear z0 z1 r0 r1 rf0 rf1
    have HRW : Hid (∀ W', Tr (fun i => i = w.heap.size) W W' → SRow W' ao M) := Lib.hid (fun W' t => (HS.out.keep G0.out).keept t (fun a e h => by have := HLT.out a e h; omega))
    have hW0 : w.heap.size ≤ W.heap.size := by omega
    have HZ := Lib.hid (BZ.out.drew)
    refine wp_region_held_drew (S := fun W' => Tr (fun i => i = w.heap.size) W W') (by kernel_rfl) (tr_g (g_drew (g_refl W none)) _) (fun hHeld => ?_)
    have hhWd : W.heap.size ≤ W.drew.heap.size := hHeld.size
    refine wpAnyH_take (i := 1) (v := .pointer (some ⟨w.heap.size, 1, none⟩)) rfl (by kernel_rfl) (by kernel_rfl) (by kernel_rfl) (fun _ _ _ h => h) (Or.inl ⟨by rfl, fun w hw => by clear hw; go_simp⟩) hHeld ?_
    try simp only [Act.put, List.setIfInBounds_toArray, List.set_cons_zero, List.set_cons_succ, List.getElem_toArray, List.getElem_cons_zero, List.getElem_cons_succ]
    refine wpAnyH_take (i := 4) (v := .agg #[.int .i64 pk, .int .i64 pn, .int .i64 pf, .int .i64 pvk, .int .i64 pvn, .bool ph, .int .i64 ps]) rfl (by kernel_rfl) (by kernel_rfl) (by kernel_rfl) (fun _ _ _ h => h) (Or.inl ⟨by rfl, fun w hw => by have q0 := hw.cell (BO.out.cell 0 _ rfl) (by omega); have q1 := hw.cell (BO.out.cell 1 _ rfl) (by omega); have q2 := hw.cell (BO.out.cell 2 _ rfl) (by omega); have q3 := hw.cell (BO.out.cell 3 _ rfl) (by omega); have q4 := hw.cell (BO.out.cell 4 _ rfl) (by omega); have q5 := hw.cell (BO.out.cell 5 _ rfl) (by omega); have q6 := hw.cell (BO.out.cell 6 _ rfl) (by omega); clear hw; go_simp⟩) hHeld ?_
    try simp only [Act.put, List.setIfInBounds_toArray, List.set_cons_zero, List.set_cons_succ, List.getElem_toArray, List.getElem_cons_zero, List.getElem_cons_succ]
    generalize W.drew = Wd at *
    refine wpAnyH_ready (rs := [0, 2, 5]) (by kernel_rfl) (by simp) (AllReadyH.cons rfl (fun K hK => ?_) (AllReadyH.cons rfl (fun K hK => ?_) (AllReadyH.cons rfl (fun K hK => ?_) (AllReadyH.nil))))
    · go_simp
      have ga := g_alloc (g_refl Wd none) (.cells #[] 36)
      refine hK.out _ _ (tr_then hHeld ga) (fun hHeld => ?_)
      clear hK K
      try simp only [Act.put, List.setIfInBounds_toArray, List.set_cons_zero, List.set_cons_succ, List.getElem_toArray, List.getElem_cons_zero, List.getElem_cons_succ]
      have HZ := Lib.hid (HZ.out.keepn ga)
      have OWN0 := Lib.hid (own_zero Wd 36 (B := w.heap.size) (Nat.le_trans hW0 hhWd))
      have hg0 : W.heap.size ≤ Wd.heap.size := hhWd
      clear ga
      generalize hxv1 : Wd.alloc (.cells #[] 36) = v1 at *
      clear hxv1
      generalize Wd.heap.size = g0 at *
      have hhv1 : W.heap.size ≤ v1.heap.size := hHeld.size
      refine wpAnyH_ready (rs := [2, 5]) (by kernel_rfl) (by simp) (AllReadyH.cons rfl (fun K hK => ?_) (AllReadyH.cons rfl (fun K hK => ?_) (AllReadyH.nil)))
      · have c2 := HZ.out.cell 1 _ rfl
        go_simp
        clear c2
        refine hK.out _ _ (hHeld) (fun hHeld => ?_)
        clear hK K
        try simp only [Act.put, List.setIfInBounds_toArray, List.set_cons_zero, List.set_cons_succ, List.getElem_toArray, List.getElem_cons_zero, List.getElem_cons_succ]
        refine wpAnyH_ready (rs := [3, 5]) (by kernel_rfl) (by simp) (AllReadyH.cons rfl (fun K hK => ?_) (AllReadyH.cons rfl (fun K hK => ?_) (AllReadyH.nil)))
        · refine step_app (by rfl) _ _ (by rfl) w.heap.size g0 (by rfl) OWN0.out ao n c M (by rfl) HN.out (by omega) (HRW.out _ hHeld) (Nat.le_trans hW0 hhv1) ?_
          intro g3 cap3 v3 hown3 hgrow3 hat3
          refine hK.out _ _ (tr_trans hHeld (tr_gs (S := fun i => i = g0) hgrow3 (fun _ => rfl)) (fun i hi e => by omega)) (fun hHeld => ?_)
          clear hK K
          try simp only [Act.put, List.setIfInBounds_toArray, List.set_cons_zero, List.set_cons_succ, List.getElem_toArray, List.getElem_cons_zero, List.getElem_cons_succ]
          have OWN3 := Lib.hid hown3
          have HZ := Lib.hid (HZ.out.keeps hgrow3 (by omega))
          have hg3 : W.heap.size ≤ g3 := by have := hhv1; rcases hat3 with e | e <;> omega
          clear hown3 hgrow3 hat3
          have hhv3 : W.heap.size ≤ v3.heap.size := hHeld.size
          refine wpAnyH_ready (rs := [5]) (by kernel_rfl) (by simp) (AllReadyH.cons rfl (fun K hK => ?_) (AllReadyH.nil))
          · go_simp
            have ga := g_alloc (g_refl v3 none) (.cells #[.int .i64 pk, .int .i64 pn, .int .i64 pf, .int .i64 pvk, .int .i64 pvn, .bool ph, .int .i64 ps] 36)
            refine hK.out _ _ (tr_then hHeld ga) (fun hHeld => ?_)
            clear hK K
            try simp only [Act.put, List.setIfInBounds_toArray, List.set_cons_zero, List.set_cons_succ, List.getElem_toArray, List.getElem_cons_zero, List.getElem_cons_succ]
            have HZ := Lib.hid (HZ.out.keepn ga)
            have OWN3 := Lib.hid (own_keepn OWN3.out ga)
            have NBK := Lib.hid (Blk.new v3 #[.int .i64 pk, .int .i64 pn, .int .i64 pf, .int .i64 pvk, .int .i64 pvn, .bool ph, .int .i64 ps] 36)
            have hg5 : W.heap.size ≤ v3.heap.size := hhv3
            clear ga
            generalize hxv4 : v3.alloc (.cells #[.int .i64 pk, .int .i64 pn, .int .i64 pf, .int .i64 pvk, .int .i64 pvn, .bool ph, .int .i64 ps] 36) = v4 at *
            clear hxv4
            generalize v3.heap.size = g5 at *
            have hhv4 : W.heap.size ≤ v4.heap.size := hHeld.size
            refine wpAnyH_ready (rs := [6]) (by kernel_rfl) (by simp) (AllReadyH.cons rfl (fun K hK => ?_) (AllReadyH.nil))
            · refine step_append_lies _ (by rfl) _ _ _ (by rfl) w.heap.size 36 i0 _ 7 56 Try.underlying44 hi hz0 hz1 hz2 rfl (by omega) (.slice (some ⟨g3, 0, none⟩) n cap3) n (scl M) (by rfl) OWN3.out ⟨g5, 0, none⟩ 1 1 [.int .i64 pk, .int .i64 pn, .int .i64 pf, .int .i64 pvk, .int .i64 pvn, .bool ph, .int .i64 ps] (by rfl) (by rfl) (World.news_of_block (cs := #[.int .i64 pk, .int .i64 pn, .int .i64 pf, .int .i64 pvk, .int .i64 pvn, .bool ph, .int .i64 ps]) (t := 36) (fr := (0, 0)) NBK.out) (by simp [Value.oneCell']) (by omega) (by unfold maxLen; omega) (by omega) (Nat.le_trans hW0 hhv4) v4.heap.size rfl ?_
              intro g6 cap6 v5 hown6 hgrow6 hat6 hlt6
              refine hK.out _ _ (tr_trans hHeld (tr_row (S := fun i => i = g3) hgrow6 (fun g e _ => by cases e; rfl)) (fun i hi e => by omega)) (fun hHeld => ?_)
              clear hK K
              try simp only [Act.put, List.setIfInBounds_toArray, List.set_cons_zero, List.set_cons_succ, List.getElem_toArray, List.getElem_cons_zero, List.getElem_cons_succ]
              have OWN6 := Lib.hid hown6
              have HZ := Lib.hid (HZ.out.keep hgrow6 (by simp only [Value.ownBlock, ne_eq, Option.some.injEq]; omega))
              have hg6 : W.heap.size ≤ g6 := by
                have := hhv4
                rcases hat6 with e | e
                · have e : g3 = g6 := by simpa [Value.ownBlock] using e
                  omega
                · omega
              clear hown6 hgrow6 hat6
              have hhv5 : W.heap.size ≤ v5.heap.size := hHeld.size
              refine wpAnyH_take (i := 7) (v := .pointer (some ⟨w.heap.size, 1, none⟩)) rfl (by kernel_rfl) (by kernel_rfl) (by kernel_rfl) (fun _ _ _ h => h) (Or.inl ⟨by rfl, fun w hw => by clear hw; go_simp⟩) hHeld ?_
              try simp only [Act.put, List.setIfInBounds_toArray, List.set_cons_zero, List.set_cons_succ, List.getElem_toArray, List.getElem_cons_zero, List.getElem_cons_succ]
              refine wpAnyH_ready (rs := [8]) (by kernel_rfl) (by simp) (AllReadyH.cons rfl (fun K hK => ?_) (AllReadyH.nil))
              · have c8 := HZ.out.cell 1 _ rfl
                have f8 := HZ.out.free 1
                go_simp
                have s8 := g_set (g_refl v5 (some w.heap.size)) (p := ⟨w.heap.size, 1, none⟩) (.inl rfl) (.slice (some ⟨g6, 0, none⟩) (n + 1) cap6)
                clear c8 f8
                refine hK.out _ _ (tr_trans hHeld (tr_gs (S := fun i => i = w.heap.size) s8 (fun _ => rfl)) (fun i hi e => e)) (fun hHeld => ?_)
                clear hK K
                try simp only [Act.put, List.setIfInBounds_toArray, List.set_cons_zero, List.set_cons_succ, List.getElem_toArray, List.getElem_cons_zero, List.getElem_cons_succ]
                have HZ : Hid (Blk (v5.setCell ⟨w.heap.size, 1, none⟩ (.slice (some ⟨g6, 0, none⟩) (n + 1) cap6)) (w.heap.size) #[.int .i64 most, .slice (some ⟨g6, 0, none⟩) (n + 1) cap6] 46) := Lib.hid (by simpa using HZ.out.set 1 (.slice (some ⟨g6, 0, none⟩) (n + 1) cap6))
                have OWN6 := Lib.hid (OWN6.out.kept s8 (.inr (by simp only [Value.ownBlock, ne_eq, Option.some.injEq]; omega)))
                clear s8
                generalize v5.setCell ⟨w.heap.size, 1, none⟩ (.slice (some ⟨g6, 0, none⟩) (n + 1) cap6) = v6 at *
                have hhv6 : W.heap.size ≤ v6.heap.size := hHeld.size
                refine wpAnyH_done (by kernel_rfl) ?_ _
                have HRf := BR.out
                have BRf := Lib.hid (hHeld.blk HRf (by omega))
                have z0 := HZ.out.cell 0 _ rfl
                have z1 := HZ.out.cell 1 _ rfl
                have r0 := BRf.out.cell 0 _ rfl
                have r1 := BRf.out.cell 1 _ rfl
                have rf0 := BRf.out.free 0
                have rf1 := BRf.out.free 1
                have HH := Lib.hid hHeld
                clear hHeld
                go_wp2_with fail
                have s7 := g_set (g_set (g_refl v6 (some (w.heap.size + 1 + 1))) (p := ⟨w.heap.size + 1 + 1, 0, none⟩) (.inl rfl) (.int .i64 most)) (p := ⟨w.heap.size + 1 + 1, 1, none⟩) (.inl rfl) (.slice (some ⟨g6, 0, none⟩) (n + 1) cap6)
                have hF := (BRf.out.set 0 (.int .i64 most)).set 1 (.slice (some ⟨g6, 0, none⟩) (n + 1) cap6)
                have gF : w.grownBy _ none := g_in ((tr_trans (tr_g G0.out (fun _ => False)) HH.out (fun i hi e => by omega)).g (fun i _ e => e)) s7 (by omega)
                have hoF := OWN6.out.kept s7 (.inr (by simp only [Value.ownBlock, ne_eq, Option.some.injEq]; omega))
                have hlen : (M ++ [(⟨pk, pn, pf, pvk, pvn, ph, ps⟩ : OV)]).length = n + 1 := by simp [HN.out]
                have hoL : World.ownsRow ((v6.setCell ⟨w.heap.size + 1 + 1, 0, none⟩ (.int .i64 most)).setCell ⟨w.heap.size + 1 + 1, 1, none⟩ (.slice (some ⟨g6, 0, none⟩) (n + 1) cap6)) w.heap.size 36 7 (.slice (some ⟨g6, 0, none⟩) (M ++ [(⟨pk, pn, pf, pvk, pvn, ph, ps⟩ : OV)]).length cap6) (M ++ [(⟨pk, pn, pf, pvk, pvn, ph, ps⟩ : OV)]).length (scl (M ++ [(⟨pk, pn, pf, pvk, pvn, ph, ps⟩ : OV)])) := by
                  rw [hlen, scl_append]; exact hoF
                obtain ⟨xo, xc, hxe, hxs, -⟩ := srow_of_own hoL
                cases hxe
                have hxl := len_own hoL
                have k0 := hF.cell 0 (.int .i64 most) rfl
                have k1 := hF.cell 1 (.slice (some ⟨g6, 0, none⟩) (n + 1) cap6) rfl
                exact bodyPost_ret (v := .tuple #[.agg #[.int .i64 most, .slice (some ⟨g6, 0, none⟩) (n + 1) cap6], .int .i64 0]) (by simp [results, Try.results13, go_sem, k0, k1]) rfl ⟨_, rfl, ⟨_, cap6, by rw [hlen], hxs, hxl.1, hxl.2, fun e => (by cases e), .inr (fun a e => by cases e; show w.heap.size ≤ g6; omega)⟩, gF⟩
        · have OWN0B := Lib.hid OWN0.out
          go_simp
          have ga := g_alloc (g_refl v1 none) (.cells #[.int .i64 pk, .int .i64 pn, .int .i64 pf, .int .i64 pvk, .int .i64 pvn, .bool ph, .int .i64 ps] 36)
          refine hK.out _ _ (tr_then hHeld ga) (fun hHeld => ?_)
          clear hK K
          try simp only [Act.put, List.setIfInBounds_toArray, List.set_cons_zero, List.set_cons_succ, List.getElem_toArray, List.getElem_cons_zero, List.getElem_cons_succ]
          have HZ := Lib.hid (HZ.out.keepn ga)
          have OWN0 := Lib.hid (own_keepn OWN0.out ga)
          have NBK := Lib.hid (Blk.new v1 #[.int .i64 pk, .int .i64 pn, .int .i64 pf, .int .i64 pvk, .int .i64 pvn, .bool ph, .int .i64 ps] 36)
          have hg5 : W.heap.size ≤ v1.heap.size := hhv1
          have h05 : g0 ≠ v1.heap.size := by have := (own_lt OWN0B.out (g := g0) rfl).2; omega
          clear ga
          generalize hxv7 : v1.alloc (.cells #[.int .i64 pk, .int .i64 pn, .int .i64 pf, .int .i64 pvk, .int .i64 pvn, .bool ph, .int .i64 ps] 36) = v7 at *
          clear hxv7
          generalize v1.heap.size = g5 at *
          have hhv7 : W.heap.size ≤ v7.heap.size := hHeld.size
          refine wpAnyH_ready (rs := [3]) (by kernel_rfl) (by simp) (AllReadyH.cons rfl (fun K hK => ?_) (AllReadyH.nil))
          · refine step_app (by rfl) _ _ (by rfl) w.heap.size g0 (by rfl) OWN0.out ao n c M (by rfl) HN.out (by omega) (HRW.out _ hHeld) (Nat.le_trans hW0 hhv7) ?_
            intro g3 cap3 v8 hown3 hgrow3 hat3
            refine hK.out _ _ (tr_trans hHeld (tr_gs (S := fun i => i = g0) hgrow3 (fun _ => rfl)) (fun i hi e => by omega)) (fun hHeld => ?_)
            clear hK K
            try simp only [Act.put, List.setIfInBounds_toArray, List.set_cons_zero, List.set_cons_succ, List.getElem_toArray, List.getElem_cons_zero, List.getElem_cons_succ]
            have OWN3 := Lib.hid hown3
            have HZ := Lib.hid (HZ.out.keeps hgrow3 (by omega))
            have NBK := Lib.hid (NBK.out.keeps hgrow3 (by omega))
            have hg3 : W.heap.size ≤ g3 := by have := hhv7; rcases hat3 with e | e <;> omega
            clear hown3 hgrow3 hat3
            have hhv8 : W.heap.size ≤ v8.heap.size := hHeld.size
            refine wpAnyH_ready (rs := [6]) (by kernel_rfl) (by simp) (AllReadyH.cons rfl (fun K hK => ?_) (AllReadyH.nil))
            · refine step_append_lies _ (by rfl) _ _ _ (by rfl) w.heap.size 36 i0 _ 7 56 Try.underlying44 hi hz0 hz1 hz2 rfl (by omega) (.slice (some ⟨g3, 0, none⟩) n cap3) n (scl M) (by rfl) OWN3.out ⟨g5, 0, none⟩ 1 1 [.int .i64 pk, .int .i64 pn, .int .i64 pf, .int .i64 pvk, .int .i64 pvn, .bool ph, .int .i64 ps] (by rfl) (by rfl) (World.news_of_block (cs := #[.int .i64 pk, .int .i64 pn, .int .i64 pf, .int .i64 pvk, .int .i64 pvn, .bool ph, .int .i64 ps]) (t := 36) (fr := (0, 0)) NBK.out) (by simp [Value.oneCell']) (by omega) (by unfold maxLen; omega) (by omega) (Nat.le_trans hW0 hhv8) v8.heap.size rfl ?_
              intro g6 cap6 v9 hown6 hgrow6 hat6 hlt6
              refine hK.out _ _ (tr_trans hHeld (tr_row (S := fun i => i = g3) hgrow6 (fun g e _ => by cases e; rfl)) (fun i hi e => by omega)) (fun hHeld => ?_)
              clear hK K
              try simp only [Act.put, List.setIfInBounds_toArray, List.set_cons_zero, List.set_cons_succ, List.getElem_toArray, List.getElem_cons_zero, List.getElem_cons_succ]
              have OWN6 := Lib.hid hown6
              have HZ := Lib.hid (HZ.out.keep hgrow6 (by simp only [Value.ownBlock, ne_eq, Option.some.injEq]; omega))
              have hg6 : W.heap.size ≤ g6 := by
                have := hhv8
                rcases hat6 with e | e
                · have e : g3 = g6 := by simpa [Value.ownBlock] using e
                  omega
                · omega
              clear hown6 hgrow6 hat6
              have hhv9 : W.heap.size ≤ v9.heap.size := hHeld.size
              refine wpAnyH_take (i := 7) (v := .pointer (some ⟨w.heap.size, 1, none⟩)) rfl (by kernel_rfl) (by kernel_rfl) (by kernel_rfl) (fun _ _ _ h => h) (Or.inl ⟨by rfl, fun w hw => by clear hw; go_simp⟩) hHeld ?_
              try simp only [Act.put, List.setIfInBounds_toArray, List.set_cons_zero, List.set_cons_succ, List.getElem_toArray, List.getElem_cons_zero, List.getElem_cons_succ]
              refine wpAnyH_ready (rs := [8]) (by kernel_rfl) (by simp) (AllReadyH.cons rfl (fun K hK => ?_) (AllReadyH.nil))
              · have c8 := HZ.out.cell 1 _ rfl
                have f8 := HZ.out.free 1
                go_simp
                have s8 := g_set (g_refl v9 (some w.heap.size)) (p := ⟨w.heap.size, 1, none⟩) (.inl rfl) (.slice (some ⟨g6, 0, none⟩) (n + 1) cap6)
                clear c8 f8
                refine hK.out _ _ (tr_trans hHeld (tr_gs (S := fun i => i = w.heap.size) s8 (fun _ => rfl)) (fun i hi e => e)) (fun hHeld => ?_)
                clear hK K
                try simp only [Act.put, List.setIfInBounds_toArray, List.set_cons_zero, List.set_cons_succ, List.getElem_toArray, List.getElem_cons_zero, List.getElem_cons_succ]
                have HZ : Hid (Blk (v9.setCell ⟨w.heap.size, 1, none⟩ (.slice (some ⟨g6, 0, none⟩) (n + 1) cap6)) (w.heap.size) #[.int .i64 most, .slice (some ⟨g6, 0, none⟩) (n + 1) cap6] 46) := Lib.hid (by simpa using HZ.out.set 1 (.slice (some ⟨g6, 0, none⟩) (n + 1) cap6))
                have OWN6 := Lib.hid (OWN6.out.kept s8 (.inr (by simp only [Value.ownBlock, ne_eq, Option.some.injEq]; omega)))
                clear s8
                generalize v9.setCell ⟨w.heap.size, 1, none⟩ (.slice (some ⟨g6, 0, none⟩) (n + 1) cap6) = v10 at *
                have hhv10 : W.heap.size ≤ v10.heap.size := hHeld.size
                refine wpAnyH_done (by kernel_rfl) ?_ _
                have HRf := BR.out
                have BRf := Lib.hid (hHeld.blk HRf (by omega))
                have z0 := HZ.out.cell 0 _ rfl
                have z1 := HZ.out.cell 1 _ rfl
                have r0 := BRf.out.cell 0 _ rfl
                have r1 := BRf.out.cell 1 _ rfl
                have rf0 := BRf.out.free 0
                have rf1 := BRf.out.free 1
                have HH := Lib.hid hHeld
                clear hHeld
                go_wp2_with fail
                have s7 := g_set (g_set (g_refl v10 (some (w.heap.size + 1 + 1))) (p := ⟨w.heap.size + 1 + 1, 0, none⟩) (.inl rfl) (.int .i64 most)) (p := ⟨w.heap.size + 1 + 1, 1, none⟩) (.inl rfl) (.slice (some ⟨g6, 0, none⟩) (n + 1) cap6)
                have hF := (BRf.out.set 0 (.int .i64 most)).set 1 (.slice (some ⟨g6, 0, none⟩) (n + 1) cap6)
                have gF : w.grownBy _ none := g_in ((tr_trans (tr_g G0.out (fun _ => False)) HH.out (fun i hi e => by omega)).g (fun i _ e => e)) s7 (by omega)
                have hoF := OWN6.out.kept s7 (.inr (by simp only [Value.ownBlock, ne_eq, Option.some.injEq]; omega))
                have hlen : (M ++ [(⟨pk, pn, pf, pvk, pvn, ph, ps⟩ : OV)]).length = n + 1 := by simp [HN.out]
                have hoL : World.ownsRow ((v10.setCell ⟨w.heap.size + 1 + 1, 0, none⟩ (.int .i64 most)).setCell ⟨w.heap.size + 1 + 1, 1, none⟩ (.slice (some ⟨g6, 0, none⟩) (n + 1) cap6)) w.heap.size 36 7 (.slice (some ⟨g6, 0, none⟩) (M ++ [(⟨pk, pn, pf, pvk, pvn, ph, ps⟩ : OV)]).length cap6) (M ++ [(⟨pk, pn, pf, pvk, pvn, ph, ps⟩ : OV)]).length (scl (M ++ [(⟨pk, pn, pf, pvk, pvn, ph, ps⟩ : OV)])) := by
                  rw [hlen, scl_append]; exact hoF
                obtain ⟨xo, xc, hxe, hxs, -⟩ := srow_of_own hoL
                cases hxe
                have hxl := len_own hoL
                have k0 := hF.cell 0 (.int .i64 most) rfl
                have k1 := hF.cell 1 (.slice (some ⟨g6, 0, none⟩) (n + 1) cap6) rfl
                exact bodyPost_ret (v := .tuple #[.agg #[.int .i64 most, .slice (some ⟨g6, 0, none⟩) (n + 1) cap6], .int .i64 0]) (by simp [results, Try.results13, go_sem, k0, k1]) rfl ⟨_, rfl, ⟨_, cap6, by rw [hlen], hxs, hxl.1, hxl.2, fun e => (by cases e), .inr (fun a e => by cases e; show w.heap.size ≤ g6; omega)⟩, gF⟩
      · have OWN0B := Lib.hid OWN0.out
        go_simp
        have ga := g_alloc (g_refl v1 none) (.cells #[.int .i64 pk, .int .i64 pn, .int .i64 pf, .int .i64 pvk, .int .i64 pvn, .bool ph, .int .i64 ps] 36)
        refine hK.out _ _ (tr_then hHeld ga) (fun hHeld => ?_)
        clear hK K
        try simp only [Act.put, List.setIfInBounds_toArray, List.set_cons_zero, List.set_cons_succ, List.getElem_toArray, List.getElem_cons_zero, List.getElem_cons_succ]
        have HZ := Lib.hid (HZ.out.keepn ga)
        have OWN0 := Lib.hid (own_keepn OWN0.out ga)
        have NBK := Lib.hid (Blk.new v1 #[.int .i64 pk, .int .i64 pn, .int .i64 pf, .int .i64 pvk, .int .i64 pvn, .bool ph, .int .i64 ps] 36)
        have hg5 : W.heap.size ≤ v1.heap.size := hhv1
        have h05 : g0 ≠ v1.heap.size := by have := (own_lt OWN0B.out (g := g0) rfl).2; omega
        clear ga
        generalize hxv11 : v1.alloc (.cells #[.int .i64 pk, .int .i64 pn, .int .i64 pf, .int .i64 pvk, .int .i64 pvn, .bool ph, .int .i64 ps] 36) = v11 at *
        clear hxv11
        generalize v1.heap.size = g5 at *
        have hhv11 : W.heap.size ≤ v11.heap.size := hHeld.size
        refine wpAnyH_ready (rs := [2]) (by kernel_rfl) (by simp) (AllReadyH.cons rfl (fun K hK => ?_) (AllReadyH.nil))
        · have c2 := HZ.out.cell 1 _ rfl
          go_simp
          clear c2
          refine hK.out _ _ (hHeld) (fun hHeld => ?_)
          clear hK K
          try simp only [Act.put, List.setIfInBounds_toArray, List.set_cons_zero, List.set_cons_succ, List.getElem_toArray, List.getElem_cons_zero, List.getElem_cons_succ]
          refine wpAnyH_ready (rs := [3]) (by kernel_rfl) (by simp) (AllReadyH.cons rfl (fun K hK => ?_) (AllReadyH.nil))
          · refine step_app (by rfl) _ _ (by rfl) w.heap.size g0 (by rfl) OWN0.out ao n c M (by rfl) HN.out (by omega) (HRW.out _ hHeld) (Nat.le_trans hW0 hhv11) ?_
            intro g3 cap3 v13 hown3 hgrow3 hat3
            refine hK.out _ _ (tr_trans hHeld (tr_gs (S := fun i => i = g0) hgrow3 (fun _ => rfl)) (fun i hi e => by omega)) (fun hHeld => ?_)
            clear hK K
            try simp only [Act.put, List.setIfInBounds_toArray, List.set_cons_zero, List.set_cons_succ, List.getElem_toArray, List.getElem_cons_zero, List.getElem_cons_succ]
            have OWN3 := Lib.hid hown3
            have HZ := Lib.hid (HZ.out.keeps hgrow3 (by omega))
            have NBK := Lib.hid (NBK.out.keeps hgrow3 (by omega))
            have hg3 : W.heap.size ≤ g3 := by have := hhv11; rcases hat3 with e | e <;> omega
            clear hown3 hgrow3 hat3
            have hhv13 : W.heap.size ≤ v13.heap.size := hHeld.size
            refine wpAnyH_ready (rs := [6]) (by kernel_rfl) (by simp) (AllReadyH.cons rfl (fun K hK => ?_) (AllReadyH.nil))
            · refine step_append_lies _ (by rfl) _ _ _ (by rfl) w.heap.size 36 i0 _ 7 56 Try.underlying44 hi hz0 hz1 hz2 rfl (by omega) (.slice (some ⟨g3, 0, none⟩) n cap3) n (scl M) (by rfl) OWN3.out ⟨g5, 0, none⟩ 1 1 [.int .i64 pk, .int .i64 pn, .int .i64 pf, .int .i64 pvk, .int .i64 pvn, .bool ph, .int .i64 ps] (by rfl) (by rfl) (World.news_of_block (cs := #[.int .i64 pk, .int .i64 pn, .int .i64 pf, .int .i64 pvk, .int .i64 pvn, .bool ph, .int .i64 ps]) (t := 36) (fr := (0, 0)) NBK.out) (by simp [Value.oneCell']) (by omega) (by unfold maxLen; omega) (by omega) (Nat.le_trans hW0 hhv13) v13.heap.size rfl ?_
              intro g6 cap6 v14 hown6 hgrow6 hat6 hlt6
              refine hK.out _ _ (tr_trans hHeld (tr_row (S := fun i => i = g3) hgrow6 (fun g e _ => by cases e; rfl)) (fun i hi e => by omega)) (fun hHeld => ?_)
              clear hK K
              try simp only [Act.put, List.setIfInBounds_toArray, List.set_cons_zero, List.set_cons_succ, List.getElem_toArray, List.getElem_cons_zero, List.getElem_cons_succ]
              have OWN6 := Lib.hid hown6
              have HZ := Lib.hid (HZ.out.keep hgrow6 (by simp only [Value.ownBlock, ne_eq, Option.some.injEq]; omega))
              have hg6 : W.heap.size ≤ g6 := by
                have := hhv13
                rcases hat6 with e | e
                · have e : g3 = g6 := by simpa [Value.ownBlock] using e
                  omega
                · omega
              clear hown6 hgrow6 hat6
              have hhv14 : W.heap.size ≤ v14.heap.size := hHeld.size
              refine wpAnyH_take (i := 7) (v := .pointer (some ⟨w.heap.size, 1, none⟩)) rfl (by kernel_rfl) (by kernel_rfl) (by kernel_rfl) (fun _ _ _ h => h) (Or.inl ⟨by rfl, fun w hw => by clear hw; go_simp⟩) hHeld ?_
              try simp only [Act.put, List.setIfInBounds_toArray, List.set_cons_zero, List.set_cons_succ, List.getElem_toArray, List.getElem_cons_zero, List.getElem_cons_succ]
              refine wpAnyH_ready (rs := [8]) (by kernel_rfl) (by simp) (AllReadyH.cons rfl (fun K hK => ?_) (AllReadyH.nil))
              · have c8 := HZ.out.cell 1 _ rfl
                have f8 := HZ.out.free 1
                go_simp
                have s8 := g_set (g_refl v14 (some w.heap.size)) (p := ⟨w.heap.size, 1, none⟩) (.inl rfl) (.slice (some ⟨g6, 0, none⟩) (n + 1) cap6)
                clear c8 f8
                refine hK.out _ _ (tr_trans hHeld (tr_gs (S := fun i => i = w.heap.size) s8 (fun _ => rfl)) (fun i hi e => e)) (fun hHeld => ?_)
                clear hK K
                try simp only [Act.put, List.setIfInBounds_toArray, List.set_cons_zero, List.set_cons_succ, List.getElem_toArray, List.getElem_cons_zero, List.getElem_cons_succ]
                have HZ : Hid (Blk (v14.setCell ⟨w.heap.size, 1, none⟩ (.slice (some ⟨g6, 0, none⟩) (n + 1) cap6)) (w.heap.size) #[.int .i64 most, .slice (some ⟨g6, 0, none⟩) (n + 1) cap6] 46) := Lib.hid (by simpa using HZ.out.set 1 (.slice (some ⟨g6, 0, none⟩) (n + 1) cap6))
                have OWN6 := Lib.hid (OWN6.out.kept s8 (.inr (by simp only [Value.ownBlock, ne_eq, Option.some.injEq]; omega)))
                clear s8
                generalize v14.setCell ⟨w.heap.size, 1, none⟩ (.slice (some ⟨g6, 0, none⟩) (n + 1) cap6) = v15 at *
                have hhv15 : W.heap.size ≤ v15.heap.size := hHeld.size
                refine wpAnyH_done (by kernel_rfl) ?_ _
                have HRf := BR.out
                have BRf := Lib.hid (hHeld.blk HRf (by omega))
                have z0 := HZ.out.cell 0 _ rfl
                have z1 := HZ.out.cell 1 _ rfl
                have r0 := BRf.out.cell 0 _ rfl
                have r1 := BRf.out.cell 1 _ rfl
                have rf0 := BRf.out.free 0
                have rf1 := BRf.out.free 1
                have HH := Lib.hid hHeld
                clear hHeld
                go_wp2_with fail
                have s7 := g_set (g_set (g_refl v15 (some (w.heap.size + 1 + 1))) (p := ⟨w.heap.size + 1 + 1, 0, none⟩) (.inl rfl) (.int .i64 most)) (p := ⟨w.heap.size + 1 + 1, 1, none⟩) (.inl rfl) (.slice (some ⟨g6, 0, none⟩) (n + 1) cap6)
                have hF := (BRf.out.set 0 (.int .i64 most)).set 1 (.slice (some ⟨g6, 0, none⟩) (n + 1) cap6)
                have gF : w.grownBy _ none := g_in ((tr_trans (tr_g G0.out (fun _ => False)) HH.out (fun i hi e => by omega)).g (fun i _ e => e)) s7 (by omega)
                have hoF := OWN6.out.kept s7 (.inr (by simp only [Value.ownBlock, ne_eq, Option.some.injEq]; omega))
                have hlen : (M ++ [(⟨pk, pn, pf, pvk, pvn, ph, ps⟩ : OV)]).length = n + 1 := by simp [HN.out]
                have hoL : World.ownsRow ((v15.setCell ⟨w.heap.size + 1 + 1, 0, none⟩ (.int .i64 most)).setCell ⟨w.heap.size + 1 + 1, 1, none⟩ (.slice (some ⟨g6, 0, none⟩) (n + 1) cap6)) w.heap.size 36 7 (.slice (some ⟨g6, 0, none⟩) (M ++ [(⟨pk, pn, pf, pvk, pvn, ph, ps⟩ : OV)]).length cap6) (M ++ [(⟨pk, pn, pf, pvk, pvn, ph, ps⟩ : OV)]).length (scl (M ++ [(⟨pk, pn, pf, pvk, pvn, ph, ps⟩ : OV)])) := by
                  rw [hlen, scl_append]; exact hoF
                obtain ⟨xo, xc, hxe, hxs, -⟩ := srow_of_own hoL
                cases hxe
                have hxl := len_own hoL
                have k0 := hF.cell 0 (.int .i64 most) rfl
                have k1 := hF.cell 1 (.slice (some ⟨g6, 0, none⟩) (n + 1) cap6) rfl
                exact bodyPost_ret (v := .tuple #[.agg #[.int .i64 most, .slice (some ⟨g6, 0, none⟩) (n + 1) cap6], .int .i64 0]) (by simp [results, Try.results13, go_sem, k0, k1]) rfl ⟨_, rfl, ⟨_, cap6, by rw [hlen], hxs, hxl.1, hxl.2, fun e => (by cases e), .inr (fun a e => by cases e; show w.heap.size ≤ g6; omega)⟩, gF⟩
    · have c2 := HZ.out.cell 1 _ rfl
      go_simp
      clear c2
      refine hK.out _ _ (hHeld) (fun hHeld => ?_)
      clear hK K
      try simp only [Act.put, List.setIfInBounds_toArray, List.set_cons_zero, List.set_cons_succ, List.getElem_toArray, List.getElem_cons_zero, List.getElem_cons_succ]
      refine wpAnyH_ready (rs := [0, 5]) (by kernel_rfl) (by simp) (AllReadyH.cons rfl (fun K hK => ?_) (AllReadyH.cons rfl (fun K hK => ?_) (AllReadyH.nil)))
      · go_simp
        have ga := g_alloc (g_refl Wd none) (.cells #[] 36)
        refine hK.out _ _ (tr_then hHeld ga) (fun hHeld => ?_)
        clear hK K
        try simp only [Act.put, List.setIfInBounds_toArray, List.set_cons_zero, List.set_cons_succ, List.getElem_toArray, List.getElem_cons_zero, List.getElem_cons_succ]
        have HZ := Lib.hid (HZ.out.keepn ga)
        have OWN0 := Lib.hid (own_zero Wd 36 (B := w.heap.size) (Nat.le_trans hW0 hhWd))
        have hg0 : W.heap.size ≤ Wd.heap.size := hhWd
        clear ga
        generalize hxv17 : Wd.alloc (.cells #[] 36) = v17 at *
        clear hxv17
        generalize Wd.heap.size = g0 at *
        have hhv17 : W.heap.size ≤ v17.heap.size := hHeld.size
        refine wpAnyH_ready (rs := [3, 5]) (by kernel_rfl) (by simp) (AllReadyH.cons rfl (fun K hK => ?_) (AllReadyH.cons rfl (fun K hK => ?_) (AllReadyH.nil)))
        · refine step_app (by rfl) _ _ (by rfl) w.heap.size g0 (by rfl) OWN0.out ao n c M (by rfl) HN.out (by omega) (HRW.out _ hHeld) (Nat.le_trans hW0 hhv17) ?_
          intro g3 cap3 v18 hown3 hgrow3 hat3
          refine hK.out _ _ (tr_trans hHeld (tr_gs (S := fun i => i = g0) hgrow3 (fun _ => rfl)) (fun i hi e => by omega)) (fun hHeld => ?_)
          clear hK K
          try simp only [Act.put, List.setIfInBounds_toArray, List.set_cons_zero, List.set_cons_succ, List.getElem_toArray, List.getElem_cons_zero, List.getElem_cons_succ]
          have OWN3 := Lib.hid hown3
          have HZ := Lib.hid (HZ.out.keeps hgrow3 (by omega))
          have hg3 : W.heap.size ≤ g3 := by have := hhv17; rcases hat3 with e | e <;> omega
          clear hown3 hgrow3 hat3
          have hhv18 : W.heap.size ≤ v18.heap.size := hHeld.size
          refine wpAnyH_ready (rs := [5]) (by kernel_rfl) (by simp) (AllReadyH.cons rfl (fun K hK => ?_) (AllReadyH.nil))
          · go_simp
            have ga := g_alloc (g_refl v18 none) (.cells #[.int .i64 pk, .int .i64 pn, .int .i64 pf, .int .i64 pvk, .int .i64 pvn, .bool ph, .int .i64 ps] 36)
            refine hK.out _ _ (tr_then hHeld ga) (fun hHeld => ?_)
            clear hK K
            try simp only [Act.put, List.setIfInBounds_toArray, List.set_cons_zero, List.set_cons_succ, List.getElem_toArray, List.getElem_cons_zero, List.getElem_cons_succ]
            have HZ := Lib.hid (HZ.out.keepn ga)
            have OWN3 := Lib.hid (own_keepn OWN3.out ga)
            have NBK := Lib.hid (Blk.new v18 #[.int .i64 pk, .int .i64 pn, .int .i64 pf, .int .i64 pvk, .int .i64 pvn, .bool ph, .int .i64 ps] 36)
            have hg5 : W.heap.size ≤ v18.heap.size := hhv18
            clear ga
            generalize hxv19 : v18.alloc (.cells #[.int .i64 pk, .int .i64 pn, .int .i64 pf, .int .i64 pvk, .int .i64 pvn, .bool ph, .int .i64 ps] 36) = v19 at *
            clear hxv19
            generalize v18.heap.size = g5 at *
            have hhv19 : W.heap.size ≤ v19.heap.size := hHeld.size
            refine wpAnyH_ready (rs := [6]) (by kernel_rfl) (by simp) (AllReadyH.cons rfl (fun K hK => ?_) (AllReadyH.nil))
            · refine step_append_lies _ (by rfl) _ _ _ (by rfl) w.heap.size 36 i0 _ 7 56 Try.underlying44 hi hz0 hz1 hz2 rfl (by omega) (.slice (some ⟨g3, 0, none⟩) n cap3) n (scl M) (by rfl) OWN3.out ⟨g5, 0, none⟩ 1 1 [.int .i64 pk, .int .i64 pn, .int .i64 pf, .int .i64 pvk, .int .i64 pvn, .bool ph, .int .i64 ps] (by rfl) (by rfl) (World.news_of_block (cs := #[.int .i64 pk, .int .i64 pn, .int .i64 pf, .int .i64 pvk, .int .i64 pvn, .bool ph, .int .i64 ps]) (t := 36) (fr := (0, 0)) NBK.out) (by simp [Value.oneCell']) (by omega) (by unfold maxLen; omega) (by omega) (Nat.le_trans hW0 hhv19) v19.heap.size rfl ?_
              intro g6 cap6 v20 hown6 hgrow6 hat6 hlt6
              refine hK.out _ _ (tr_trans hHeld (tr_row (S := fun i => i = g3) hgrow6 (fun g e _ => by cases e; rfl)) (fun i hi e => by omega)) (fun hHeld => ?_)
              clear hK K
              try simp only [Act.put, List.setIfInBounds_toArray, List.set_cons_zero, List.set_cons_succ, List.getElem_toArray, List.getElem_cons_zero, List.getElem_cons_succ]
              have OWN6 := Lib.hid hown6
              have HZ := Lib.hid (HZ.out.keep hgrow6 (by simp only [Value.ownBlock, ne_eq, Option.some.injEq]; omega))
              have hg6 : W.heap.size ≤ g6 := by
                have := hhv19
                rcases hat6 with e | e
                · have e : g3 = g6 := by simpa [Value.ownBlock] using e
                  omega
                · omega
              clear hown6 hgrow6 hat6
              have hhv20 : W.heap.size ≤ v20.heap.size := hHeld.size
              refine wpAnyH_take (i := 7) (v := .pointer (some ⟨w.heap.size, 1, none⟩)) rfl (by kernel_rfl) (by kernel_rfl) (by kernel_rfl) (fun _ _ _ h => h) (Or.inl ⟨by rfl, fun w hw => by clear hw; go_simp⟩) hHeld ?_
              try simp only [Act.put, List.setIfInBounds_toArray, List.set_cons_zero, List.set_cons_succ, List.getElem_toArray, List.getElem_cons_zero, List.getElem_cons_succ]
              refine wpAnyH_ready (rs := [8]) (by kernel_rfl) (by simp) (AllReadyH.cons rfl (fun K hK => ?_) (AllReadyH.nil))
              · have c8 := HZ.out.cell 1 _ rfl
                have f8 := HZ.out.free 1
                go_simp
                have s8 := g_set (g_refl v20 (some w.heap.size)) (p := ⟨w.heap.size, 1, none⟩) (.inl rfl) (.slice (some ⟨g6, 0, none⟩) (n + 1) cap6)
                clear c8 f8
                refine hK.out _ _ (tr_trans hHeld (tr_gs (S := fun i => i = w.heap.size) s8 (fun _ => rfl)) (fun i hi e => e)) (fun hHeld => ?_)
                clear hK K
                try simp only [Act.put, List.setIfInBounds_toArray, List.set_cons_zero, List.set_cons_succ, List.getElem_toArray, List.getElem_cons_zero, List.getElem_cons_succ]
                have HZ : Hid (Blk (v20.setCell ⟨w.heap.size, 1, none⟩ (.slice (some ⟨g6, 0, none⟩) (n + 1) cap6)) (w.heap.size) #[.int .i64 most, .slice (some ⟨g6, 0, none⟩) (n + 1) cap6] 46) := Lib.hid (by simpa using HZ.out.set 1 (.slice (some ⟨g6, 0, none⟩) (n + 1) cap6))
                have OWN6 := Lib.hid (OWN6.out.kept s8 (.inr (by simp only [Value.ownBlock, ne_eq, Option.some.injEq]; omega)))
                clear s8
                generalize v20.setCell ⟨w.heap.size, 1, none⟩ (.slice (some ⟨g6, 0, none⟩) (n + 1) cap6) = v21 at *
                have hhv21 : W.heap.size ≤ v21.heap.size := hHeld.size
                refine wpAnyH_done (by kernel_rfl) ?_ _
                have HRf := BR.out
                have BRf := Lib.hid (hHeld.blk HRf (by omega))
                have z0 := HZ.out.cell 0 _ rfl
                have z1 := HZ.out.cell 1 _ rfl
                have r0 := BRf.out.cell 0 _ rfl
                have r1 := BRf.out.cell 1 _ rfl
                have rf0 := BRf.out.free 0
                have rf1 := BRf.out.free 1
                have HH := Lib.hid hHeld
                clear hHeld
                go_wp2_with fail
                have s7 := g_set (g_set (g_refl v21 (some (w.heap.size + 1 + 1))) (p := ⟨w.heap.size + 1 + 1, 0, none⟩) (.inl rfl) (.int .i64 most)) (p := ⟨w.heap.size + 1 + 1, 1, none⟩) (.inl rfl) (.slice (some ⟨g6, 0, none⟩) (n + 1) cap6)
                have hF := (BRf.out.set 0 (.int .i64 most)).set 1 (.slice (some ⟨g6, 0, none⟩) (n + 1) cap6)
                have gF : w.grownBy _ none := g_in ((tr_trans (tr_g G0.out (fun _ => False)) HH.out (fun i hi e => by omega)).g (fun i _ e => e)) s7 (by omega)
                have hoF := OWN6.out.kept s7 (.inr (by simp only [Value.ownBlock, ne_eq, Option.some.injEq]; omega))
                have hlen : (M ++ [(⟨pk, pn, pf, pvk, pvn, ph, ps⟩ : OV)]).length = n + 1 := by simp [HN.out]
                have hoL : World.ownsRow ((v21.setCell ⟨w.heap.size + 1 + 1, 0, none⟩ (.int .i64 most)).setCell ⟨w.heap.size + 1 + 1, 1, none⟩ (.slice (some ⟨g6, 0, none⟩) (n + 1) cap6)) w.heap.size 36 7 (.slice (some ⟨g6, 0, none⟩) (M ++ [(⟨pk, pn, pf, pvk, pvn, ph, ps⟩ : OV)]).length cap6) (M ++ [(⟨pk, pn, pf, pvk, pvn, ph, ps⟩ : OV)]).length (scl (M ++ [(⟨pk, pn, pf, pvk, pvn, ph, ps⟩ : OV)])) := by
                  rw [hlen, scl_append]; exact hoF
                obtain ⟨xo, xc, hxe, hxs, -⟩ := srow_of_own hoL
                cases hxe
                have hxl := len_own hoL
                have k0 := hF.cell 0 (.int .i64 most) rfl
                have k1 := hF.cell 1 (.slice (some ⟨g6, 0, none⟩) (n + 1) cap6) rfl
                exact bodyPost_ret (v := .tuple #[.agg #[.int .i64 most, .slice (some ⟨g6, 0, none⟩) (n + 1) cap6], .int .i64 0]) (by simp [results, Try.results13, go_sem, k0, k1]) rfl ⟨_, rfl, ⟨_, cap6, by rw [hlen], hxs, hxl.1, hxl.2, fun e => (by cases e), .inr (fun a e => by cases e; show w.heap.size ≤ g6; omega)⟩, gF⟩
        · have OWN0B := Lib.hid OWN0.out
          go_simp
          have ga := g_alloc (g_refl v17 none) (.cells #[.int .i64 pk, .int .i64 pn, .int .i64 pf, .int .i64 pvk, .int .i64 pvn, .bool ph, .int .i64 ps] 36)
          refine hK.out _ _ (tr_then hHeld ga) (fun hHeld => ?_)
          clear hK K
          try simp only [Act.put, List.setIfInBounds_toArray, List.set_cons_zero, List.set_cons_succ, List.getElem_toArray, List.getElem_cons_zero, List.getElem_cons_succ]
          have HZ := Lib.hid (HZ.out.keepn ga)
          have OWN0 := Lib.hid (own_keepn OWN0.out ga)
          have NBK := Lib.hid (Blk.new v17 #[.int .i64 pk, .int .i64 pn, .int .i64 pf, .int .i64 pvk, .int .i64 pvn, .bool ph, .int .i64 ps] 36)
          have hg5 : W.heap.size ≤ v17.heap.size := hhv17
          have h05 : g0 ≠ v17.heap.size := by have := (own_lt OWN0B.out (g := g0) rfl).2; omega
          clear ga
          generalize hxv22 : v17.alloc (.cells #[.int .i64 pk, .int .i64 pn, .int .i64 pf, .int .i64 pvk, .int .i64 pvn, .bool ph, .int .i64 ps] 36) = v22 at *
          clear hxv22
          generalize v17.heap.size = g5 at *
          have hhv22 : W.heap.size ≤ v22.heap.size := hHeld.size
          refine wpAnyH_ready (rs := [3]) (by kernel_rfl) (by simp) (AllReadyH.cons rfl (fun K hK => ?_) (AllReadyH.nil))
          · refine step_app (by rfl) _ _ (by rfl) w.heap.size g0 (by rfl) OWN0.out ao n c M (by rfl) HN.out (by omega) (HRW.out _ hHeld) (Nat.le_trans hW0 hhv22) ?_
            intro g3 cap3 v23 hown3 hgrow3 hat3
            refine hK.out _ _ (tr_trans hHeld (tr_gs (S := fun i => i = g0) hgrow3 (fun _ => rfl)) (fun i hi e => by omega)) (fun hHeld => ?_)
            clear hK K
            try simp only [Act.put, List.setIfInBounds_toArray, List.set_cons_zero, List.set_cons_succ, List.getElem_toArray, List.getElem_cons_zero, List.getElem_cons_succ]
            have OWN3 := Lib.hid hown3
            have HZ := Lib.hid (HZ.out.keeps hgrow3 (by omega))
            have NBK := Lib.hid (NBK.out.keeps hgrow3 (by omega))
            have hg3 : W.heap.size ≤ g3 := by have := hhv22; rcases hat3 with e | e <;> omega
            clear hown3 hgrow3 hat3
            have hhv23 : W.heap.size ≤ v23.heap.size := hHeld.size
            refine wpAnyH_ready (rs := [6]) (by kernel_rfl) (by simp) (AllReadyH.cons rfl (fun K hK => ?_) (AllReadyH.nil))
            · refine step_append_lies _ (by rfl) _ _ _ (by rfl) w.heap.size 36 i0 _ 7 56 Try.underlying44 hi hz0 hz1 hz2 rfl (by omega) (.slice (some ⟨g3, 0, none⟩) n cap3) n (scl M) (by rfl) OWN3.out ⟨g5, 0, none⟩ 1 1 [.int .i64 pk, .int .i64 pn, .int .i64 pf, .int .i64 pvk, .int .i64 pvn, .bool ph, .int .i64 ps] (by rfl) (by rfl) (World.news_of_block (cs := #[.int .i64 pk, .int .i64 pn, .int .i64 pf, .int .i64 pvk, .int .i64 pvn, .bool ph, .int .i64 ps]) (t := 36) (fr := (0, 0)) NBK.out) (by simp [Value.oneCell']) (by omega) (by unfold maxLen; omega) (by omega) (Nat.le_trans hW0 hhv23) v23.heap.size rfl ?_
              intro g6 cap6 v24 hown6 hgrow6 hat6 hlt6
              refine hK.out _ _ (tr_trans hHeld (tr_row (S := fun i => i = g3) hgrow6 (fun g e _ => by cases e; rfl)) (fun i hi e => by omega)) (fun hHeld => ?_)
              clear hK K
              try simp only [Act.put, List.setIfInBounds_toArray, List.set_cons_zero, List.set_cons_succ, List.getElem_toArray, List.getElem_cons_zero, List.getElem_cons_succ]
              have OWN6 := Lib.hid hown6
              have HZ := Lib.hid (HZ.out.keep hgrow6 (by simp only [Value.ownBlock, ne_eq, Option.some.injEq]; omega))
              have hg6 : W.heap.size ≤ g6 := by
                have := hhv23
                rcases hat6 with e | e
                · have e : g3 = g6 := by simpa [Value.ownBlock] using e
                  omega
                · omega
              clear hown6 hgrow6 hat6
              have hhv24 : W.heap.size ≤ v24.heap.size := hHeld.size
              refine wpAnyH_take (i := 7) (v := .pointer (some ⟨w.heap.size, 1, none⟩)) rfl (by kernel_rfl) (by kernel_rfl) (by kernel_rfl) (fun _ _ _ h => h) (Or.inl ⟨by rfl, fun w hw => by clear hw; go_simp⟩) hHeld ?_
              try simp only [Act.put, List.setIfInBounds_toArray, List.set_cons_zero, List.set_cons_succ, List.getElem_toArray, List.getElem_cons_zero, List.getElem_cons_succ]
              refine wpAnyH_ready (rs := [8]) (by kernel_rfl) (by simp) (AllReadyH.cons rfl (fun K hK => ?_) (AllReadyH.nil))
              · have c8 := HZ.out.cell 1 _ rfl
                have f8 := HZ.out.free 1
                go_simp
                have s8 := g_set (g_refl v24 (some w.heap.size)) (p := ⟨w.heap.size, 1, none⟩) (.inl rfl) (.slice (some ⟨g6, 0, none⟩) (n + 1) cap6)
                clear c8 f8
                refine hK.out _ _ (tr_trans hHeld (tr_gs (S := fun i => i = w.heap.size) s8 (fun _ => rfl)) (fun i hi e => e)) (fun hHeld => ?_)
                clear hK K
                try simp only [Act.put, List.setIfInBounds_toArray, List.set_cons_zero, List.set_cons_succ, List.getElem_toArray, List.getElem_cons_zero, List.getElem_cons_succ]
                have HZ : Hid (Blk (v24.setCell ⟨w.heap.size, 1, none⟩ (.slice (some ⟨g6, 0, none⟩) (n + 1) cap6)) (w.heap.size) #[.int .i64 most, .slice (some ⟨g6, 0, none⟩) (n + 1) cap6] 46) := Lib.hid (by simpa using HZ.out.set 1 (.slice (some ⟨g6, 0, none⟩) (n + 1) cap6))
                have OWN6 := Lib.hid (OWN6.out.kept s8 (.inr (by simp only [Value.ownBlock, ne_eq, Option.some.injEq]; omega)))
                clear s8
                generalize v24.setCell ⟨w.heap.size, 1, none⟩ (.slice (some ⟨g6, 0, none⟩) (n + 1) cap6) = v25 at *
                have hhv25 : W.heap.size ≤ v25.heap.size := hHeld.size
                refine wpAnyH_done (by kernel_rfl) ?_ _
                have HRf := BR.out
                have BRf := Lib.hid (hHeld.blk HRf (by omega))
                have z0 := HZ.out.cell 0 _ rfl
                have z1 := HZ.out.cell 1 _ rfl
                have r0 := BRf.out.cell 0 _ rfl
                have r1 := BRf.out.cell 1 _ rfl
                have rf0 := BRf.out.free 0
                have rf1 := BRf.out.free 1
                have HH := Lib.hid hHeld
                clear hHeld
                go_wp2_with fail
                have s7 := g_set (g_set (g_refl v25 (some (w.heap.size + 1 + 1))) (p := ⟨w.heap.size + 1 + 1, 0, none⟩) (.inl rfl) (.int .i64 most)) (p := ⟨w.heap.size + 1 + 1, 1, none⟩) (.inl rfl) (.slice (some ⟨g6, 0, none⟩) (n + 1) cap6)
                have hF := (BRf.out.set 0 (.int .i64 most)).set 1 (.slice (some ⟨g6, 0, none⟩) (n + 1) cap6)
                have gF : w.grownBy _ none := g_in ((tr_trans (tr_g G0.out (fun _ => False)) HH.out (fun i hi e => by omega)).g (fun i _ e => e)) s7 (by omega)
                have hoF := OWN6.out.kept s7 (.inr (by simp only [Value.ownBlock, ne_eq, Option.some.injEq]; omega))
                have hlen : (M ++ [(⟨pk, pn, pf, pvk, pvn, ph, ps⟩ : OV)]).length = n + 1 := by simp [HN.out]
                have hoL : World.ownsRow ((v25.setCell ⟨w.heap.size + 1 + 1, 0, none⟩ (.int .i64 most)).setCell ⟨w.heap.size + 1 + 1, 1, none⟩ (.slice (some ⟨g6, 0, none⟩) (n + 1) cap6)) w.heap.size 36 7 (.slice (some ⟨g6, 0, none⟩) (M ++ [(⟨pk, pn, pf, pvk, pvn, ph, ps⟩ : OV)]).length cap6) (M ++ [(⟨pk, pn, pf, pvk, pvn, ph, ps⟩ : OV)]).length (scl (M ++ [(⟨pk, pn, pf, pvk, pvn, ph, ps⟩ : OV)])) := by
                  rw [hlen, scl_append]; exact hoF
                obtain ⟨xo, xc, hxe, hxs, -⟩ := srow_of_own hoL
                cases hxe
                have hxl := len_own hoL
                have k0 := hF.cell 0 (.int .i64 most) rfl
                have k1 := hF.cell 1 (.slice (some ⟨g6, 0, none⟩) (n + 1) cap6) rfl
                exact bodyPost_ret (v := .tuple #[.agg #[.int .i64 most, .slice (some ⟨g6, 0, none⟩) (n + 1) cap6], .int .i64 0]) (by simp [results, Try.results13, go_sem, k0, k1]) rfl ⟨_, rfl, ⟨_, cap6, by rw [hlen], hxs, hxl.1, hxl.2, fun e => (by cases e), .inr (fun a e => by cases e; show w.heap.size ≤ g6; omega)⟩, gF⟩
      · go_simp
        have ga := g_alloc (g_refl Wd none) (.cells #[.int .i64 pk, .int .i64 pn, .int .i64 pf, .int .i64 pvk, .int .i64 pvn, .bool ph, .int .i64 ps] 36)
        refine hK.out _ _ (tr_then hHeld ga) (fun hHeld => ?_)
        clear hK K
        try simp only [Act.put, List.setIfInBounds_toArray, List.set_cons_zero, List.set_cons_succ, List.getElem_toArray, List.getElem_cons_zero, List.getElem_cons_succ]
        have HZ := Lib.hid (HZ.out.keepn ga)
        have NBK := Lib.hid (Blk.new Wd #[.int .i64 pk, .int .i64 pn, .int .i64 pf, .int .i64 pvk, .int .i64 pvn, .bool ph, .int .i64 ps] 36)
        have hg5 : W.heap.size ≤ Wd.heap.size := hhWd
        clear ga
        generalize hxv26 : Wd.alloc (.cells #[.int .i64 pk, .int .i64 pn, .int .i64 pf, .int .i64 pvk, .int .i64 pvn, .bool ph, .int .i64 ps] 36) = v26 at *
        clear hxv26
        generalize Wd.heap.size = g5 at *
        have hhv26 : W.heap.size ≤ v26.heap.size := hHeld.size
        refine wpAnyH_ready (rs := [0]) (by kernel_rfl) (by simp) (AllReadyH.cons rfl (fun K hK => ?_) (AllReadyH.nil))
        · have h05 : v26.heap.size ≠ g5 := by have := NBK.out.lt; omega
          go_simp
          have ga := g_alloc (g_refl v26 none) (.cells #[] 36)
          refine hK.out _ _ (tr_then hHeld ga) (fun hHeld => ?_)
          clear hK K
          try simp only [Act.put, List.setIfInBounds_toArray, List.set_cons_zero, List.set_cons_succ, List.getElem_toArray, List.getElem_cons_zero, List.getElem_cons_succ]
          have HZ := Lib.hid (HZ.out.keepn ga)
          have NBK := Lib.hid (NBK.out.keepn ga)
          have OWN0 := Lib.hid (own_zero v26 36 (B := w.heap.size) (Nat.le_trans hW0 hhv26))
          have hg0 : W.heap.size ≤ v26.heap.size := hhv26
          clear ga
          generalize hxv27 : v26.alloc (.cells #[] 36) = v27 at *
          clear hxv27
          generalize v26.heap.size = g0 at *
          have hhv27 : W.heap.size ≤ v27.heap.size := hHeld.size
          refine wpAnyH_ready (rs := [3]) (by kernel_rfl) (by simp) (AllReadyH.cons rfl (fun K hK => ?_) (AllReadyH.nil))
          · refine step_app (by rfl) _ _ (by rfl) w.heap.size g0 (by rfl) OWN0.out ao n c M (by rfl) HN.out (by omega) (HRW.out _ hHeld) (Nat.le_trans hW0 hhv27) ?_
            intro g3 cap3 v28 hown3 hgrow3 hat3
            refine hK.out _ _ (tr_trans hHeld (tr_gs (S := fun i => i = g0) hgrow3 (fun _ => rfl)) (fun i hi e => by omega)) (fun hHeld => ?_)
            clear hK K
            try simp only [Act.put, List.setIfInBounds_toArray, List.set_cons_zero, List.set_cons_succ, List.getElem_toArray, List.getElem_cons_zero, List.getElem_cons_succ]
            have OWN3 := Lib.hid hown3
            have HZ := Lib.hid (HZ.out.keeps hgrow3 (by omega))
            have NBK := Lib.hid (NBK.out.keeps hgrow3 (by omega))
            have hg3 : W.heap.size ≤ g3 := by have := hhv27; rcases hat3 with e | e <;> omega
            clear hown3 hgrow3 hat3
            have hhv28 : W.heap.size ≤ v28.heap.size := hHeld.size
            refine wpAnyH_ready (rs := [6]) (by kernel_rfl) (by simp) (AllReadyH.cons rfl (fun K hK => ?_) (AllReadyH.nil))
            · refine step_append_lies _ (by rfl) _ _ _ (by rfl) w.heap.size 36 i0 _ 7 56 Try.underlying44 hi hz0 hz1 hz2 rfl (by omega) (.slice (some ⟨g3, 0, none⟩) n cap3) n (scl M) (by rfl) OWN3.out ⟨g5, 0, none⟩ 1 1 [.int .i64 pk, .int .i64 pn, .int .i64 pf, .int .i64 pvk, .int .i64 pvn, .bool ph, .int .i64 ps] (by rfl) (by rfl) (World.news_of_block (cs := #[.int .i64 pk, .int .i64 pn, .int .i64 pf, .int .i64 pvk, .int .i64 pvn, .bool ph, .int .i64 ps]) (t := 36) (fr := (0, 0)) NBK.out) (by simp [Value.oneCell']) (by omega) (by unfold maxLen; omega) (by omega) (Nat.le_trans hW0 hhv28) v28.heap.size rfl ?_
              intro g6 cap6 v29 hown6 hgrow6 hat6 hlt6
              refine hK.out _ _ (tr_trans hHeld (tr_row (S := fun i => i = g3) hgrow6 (fun g e _ => by cases e; rfl)) (fun i hi e => by omega)) (fun hHeld => ?_)
              clear hK K
              try simp only [Act.put, List.setIfInBounds_toArray, List.set_cons_zero, List.set_cons_succ, List.getElem_toArray, List.getElem_cons_zero, List.getElem_cons_succ]
              have OWN6 := Lib.hid hown6
              have HZ := Lib.hid (HZ.out.keep hgrow6 (by simp only [Value.ownBlock, ne_eq, Option.some.injEq]; omega))
              have hg6 : W.heap.size ≤ g6 := by
                have := hhv28
                rcases hat6 with e | e
                · have e : g3 = g6 := by simpa [Value.ownBlock] using e
                  omega
                · omega
              clear hown6 hgrow6 hat6
              have hhv29 : W.heap.size ≤ v29.heap.size := hHeld.size
              refine wpAnyH_take (i := 7) (v := .pointer (some ⟨w.heap.size, 1, none⟩)) rfl (by kernel_rfl) (by kernel_rfl) (by kernel_rfl) (fun _ _ _ h => h) (Or.inl ⟨by rfl, fun w hw => by clear hw; go_simp⟩) hHeld ?_
              try simp only [Act.put, List.setIfInBounds_toArray, List.set_cons_zero, List.set_cons_succ, List.getElem_toArray, List.getElem_cons_zero, List.getElem_cons_succ]
              refine wpAnyH_ready (rs := [8]) (by kernel_rfl) (by simp) (AllReadyH.cons rfl (fun K hK => ?_) (AllReadyH.nil))
              · have c8 := HZ.out.cell 1 _ rfl
                have f8 := HZ.out.free 1
                go_simp
                have s8 := g_set (g_refl v29 (some w.heap.size)) (p := ⟨w.heap.size, 1, none⟩) (.inl rfl) (.slice (some ⟨g6, 0, none⟩) (n + 1) cap6)
                clear c8 f8
                refine hK.out _ _ (tr_trans hHeld (tr_gs (S := fun i => i = w.heap.size) s8 (fun _ => rfl)) (fun i hi e => e)) (fun hHeld => ?_)
                clear hK K
                try simp only [Act.put, List.setIfInBounds_toArray, List.set_cons_zero, List.set_cons_succ, List.getElem_toArray, List.getElem_cons_zero, List.getElem_cons_succ]
                have HZ : Hid (Blk (v29.setCell ⟨w.heap.size, 1, none⟩ (.slice (some ⟨g6, 0, none⟩) (n + 1) cap6)) (w.heap.size) #[.int .i64 most, .slice (some ⟨g6, 0, none⟩) (n + 1) cap6] 46) := Lib.hid (by simpa using HZ.out.set 1 (.slice (some ⟨g6, 0, none⟩) (n + 1) cap6))
                have OWN6 := Lib.hid (OWN6.out.kept s8 (.inr (by simp only [Value.ownBlock, ne_eq, Option.some.injEq]; omega)))
                clear s8
                generalize v29.setCell ⟨w.heap.size, 1, none⟩ (.slice (some ⟨g6, 0, none⟩) (n + 1) cap6) = v30 at *
                have hhv30 : W.heap.size ≤ v30.heap.size := hHeld.size
                refine wpAnyH_done (by kernel_rfl) ?_ _
                have HRf := BR.out
                have BRf := Lib.hid (hHeld.blk HRf (by omega))
                have z0 := HZ.out.cell 0 _ rfl
                have z1 := HZ.out.cell 1 _ rfl
                have r0 := BRf.out.cell 0 _ rfl
                have r1 := BRf.out.cell 1 _ rfl
                have rf0 := BRf.out.free 0
                have rf1 := BRf.out.free 1
                have HH := Lib.hid hHeld
                clear hHeld
                go_wp2_with fail
                have s7 := g_set (g_set (g_refl v30 (some (w.heap.size + 1 + 1))) (p := ⟨w.heap.size + 1 + 1, 0, none⟩) (.inl rfl) (.int .i64 most)) (p := ⟨w.heap.size + 1 + 1, 1, none⟩) (.inl rfl) (.slice (some ⟨g6, 0, none⟩) (n + 1) cap6)
                have hF := (BRf.out.set 0 (.int .i64 most)).set 1 (.slice (some ⟨g6, 0, none⟩) (n + 1) cap6)
                have gF : w.grownBy _ none := g_in ((tr_trans (tr_g G0.out (fun _ => False)) HH.out (fun i hi e => by omega)).g (fun i _ e => e)) s7 (by omega)
                have hoF := OWN6.out.kept s7 (.inr (by simp only [Value.ownBlock, ne_eq, Option.some.injEq]; omega))
                have hlen : (M ++ [(⟨pk, pn, pf, pvk, pvn, ph, ps⟩ : OV)]).length = n + 1 := by simp [HN.out]
                have hoL : World.ownsRow ((v30.setCell ⟨w.heap.size + 1 + 1, 0, none⟩ (.int .i64 most)).setCell ⟨w.heap.size + 1 + 1, 1, none⟩ (.slice (some ⟨g6, 0, none⟩) (n + 1) cap6)) w.heap.size 36 7 (.slice (some ⟨g6, 0, none⟩) (M ++ [(⟨pk, pn, pf, pvk, pvn, ph, ps⟩ : OV)]).length cap6) (M ++ [(⟨pk, pn, pf, pvk, pvn, ph, ps⟩ : OV)]).length (scl (M ++ [(⟨pk, pn, pf, pvk, pvn, ph, ps⟩ : OV)])) := by
                  rw [hlen, scl_append]; exact hoF
                obtain ⟨xo, xc, hxe, hxs, -⟩ := srow_of_own hoL
                cases hxe
                have hxl := len_own hoL
                have k0 := hF.cell 0 (.int .i64 most) rfl
                have k1 := hF.cell 1 (.slice (some ⟨g6, 0, none⟩) (n + 1) cap6) rfl
                exact bodyPost_ret (v := .tuple #[.agg #[.int .i64 most, .slice (some ⟨g6, 0, none⟩) (n + 1) cap6], .int .i64 0]) (by simp [results, Try.results13, go_sem, k0, k1]) rfl ⟨_, rfl, ⟨_, cap6, by rw [hlen], hxs, hxl.1, hxl.2, fun e => (by cases e), .inr (fun a e => by cases e; show w.heap.size ≤ g6; omega)⟩, gF⟩
    · go_simp
      have ga := g_alloc (g_refl Wd none) (.cells #[.int .i64 pk, .int .i64 pn, .int .i64 pf, .int .i64 pvk, .int .i64 pvn, .bool ph, .int .i64 ps] 36)
      refine hK.out _ _ (tr_then hHeld ga) (fun hHeld => ?_)
      clear hK K
      try simp only [Act.put, List.setIfInBounds_toArray, List.set_cons_zero, List.set_cons_succ, List.getElem_toArray, List.getElem_cons_zero, List.getElem_cons_succ]
      have HZ := Lib.hid (HZ.out.keepn ga)
      have NBK := Lib.hid (Blk.new Wd #[.int .i64 pk, .int .i64 pn, .int .i64 pf, .int .i64 pvk, .int .i64 pvn, .bool ph, .int .i64 ps] 36)
      have hg5 : W.heap.size ≤ Wd.heap.size := hhWd
      clear ga
      generalize hxv31 : Wd.alloc (.cells #[.int .i64 pk, .int .i64 pn, .int .i64 pf, .int .i64 pvk, .int .i64 pvn, .bool ph, .int .i64 ps] 36) = v31 at *
      clear hxv31
      generalize Wd.heap.size = g5 at *
      have hhv31 : W.heap.size ≤ v31.heap.size := hHeld.size
      refine wpAnyH_ready (rs := [0, 2]) (by kernel_rfl) (by simp) (AllReadyH.cons rfl (fun K hK => ?_) (AllReadyH.cons rfl (fun K hK => ?_) (AllReadyH.nil)))
      · have h05 : v31.heap.size ≠ g5 := by have := NBK.out.lt; omega
        go_simp
        have ga := g_alloc (g_refl v31 none) (.cells #[] 36)
        refine hK.out _ _ (tr_then hHeld ga) (fun hHeld => ?_)
        clear hK K
        try simp only [Act.put, List.setIfInBounds_toArray, List.set_cons_zero, List.set_cons_succ, List.getElem_toArray, List.getElem_cons_zero, List.getElem_cons_succ]
        have HZ := Lib.hid (HZ.out.keepn ga)
        have NBK := Lib.hid (NBK.out.keepn ga)
        have OWN0 := Lib.hid (own_zero v31 36 (B := w.heap.size) (Nat.le_trans hW0 hhv31))
        have hg0 : W.heap.size ≤ v31.heap.size := hhv31
        clear ga
        generalize hxv32 : v31.alloc (.cells #[] 36) = v32 at *
        clear hxv32
        generalize v31.heap.size = g0 at *
        have hhv32 : W.heap.size ≤ v32.heap.size := hHeld.size
        refine wpAnyH_ready (rs := [2]) (by kernel_rfl) (by simp) (AllReadyH.cons rfl (fun K hK => ?_) (AllReadyH.nil))
        · have c2 := HZ.out.cell 1 _ rfl
          go_simp
          clear c2
          refine hK.out _ _ (hHeld) (fun hHeld => ?_)
          clear hK K
          try simp only [Act.put, List.setIfInBounds_toArray, List.set_cons_zero, List.set_cons_succ, List.getElem_toArray, List.getElem_cons_zero, List.getElem_cons_succ]
          refine wpAnyH_ready (rs := [3]) (by kernel_rfl) (by simp) (AllReadyH.cons rfl (fun K hK => ?_) (AllReadyH.nil))
          · refine step_app (by rfl) _ _ (by rfl) w.heap.size g0 (by rfl) OWN0.out ao n c M (by rfl) HN.out (by omega) (HRW.out _ hHeld) (Nat.le_trans hW0 hhv32) ?_
            intro g3 cap3 v34 hown3 hgrow3 hat3
            refine hK.out _ _ (tr_trans hHeld (tr_gs (S := fun i => i = g0) hgrow3 (fun _ => rfl)) (fun i hi e => by omega)) (fun hHeld => ?_)
            clear hK K
            try simp only [Act.put, List.setIfInBounds_toArray, List.set_cons_zero, List.set_cons_succ, List.getElem_toArray, List.getElem_cons_zero, List.getElem_cons_succ]
            have OWN3 := Lib.hid hown3
            have HZ := Lib.hid (HZ.out.keeps hgrow3 (by omega))
            have NBK := Lib.hid (NBK.out.keeps hgrow3 (by omega))
            have hg3 : W.heap.size ≤ g3 := by have := hhv32; rcases hat3 with e | e <;> omega
            clear hown3 hgrow3 hat3
            have hhv34 : W.heap.size ≤ v34.heap.size := hHeld.size
            refine wpAnyH_ready (rs := [6]) (by kernel_rfl) (by simp) (AllReadyH.cons rfl (fun K hK => ?_) (AllReadyH.nil))
            · refine step_append_lies _ (by rfl) _ _ _ (by rfl) w.heap.size 36 i0 _ 7 56 Try.underlying44 hi hz0 hz1 hz2 rfl (by omega) (.slice (some ⟨g3, 0, none⟩) n cap3) n (scl M) (by rfl) OWN3.out ⟨g5, 0, none⟩ 1 1 [.int .i64 pk, .int .i64 pn, .int .i64 pf, .int .i64 pvk, .int .i64 pvn, .bool ph, .int .i64 ps] (by rfl) (by rfl) (World.news_of_block (cs := #[.int .i64 pk, .int .i64 pn, .int .i64 pf, .int .i64 pvk, .int .i64 pvn, .bool ph, .int .i64 ps]) (t := 36) (fr := (0, 0)) NBK.out) (by simp [Value.oneCell']) (by omega) (by unfold maxLen; omega) (by omega) (Nat.le_trans hW0 hhv34) v34.heap.size rfl ?_
              intro g6 cap6 v35 hown6 hgrow6 hat6 hlt6
              refine hK.out _ _ (tr_trans hHeld (tr_row (S := fun i => i = g3) hgrow6 (fun g e _ => by cases e; rfl)) (fun i hi e => by omega)) (fun hHeld => ?_)
              clear hK K
              try simp only [Act.put, List.setIfInBounds_toArray, List.set_cons_zero, List.set_cons_succ, List.getElem_toArray, List.getElem_cons_zero, List.getElem_cons_succ]
              have OWN6 := Lib.hid hown6
              have HZ := Lib.hid (HZ.out.keep hgrow6 (by simp only [Value.ownBlock, ne_eq, Option.some.injEq]; omega))
              have hg6 : W.heap.size ≤ g6 := by
                have := hhv34
                rcases hat6 with e | e
                · have e : g3 = g6 := by simpa [Value.ownBlock] using e
                  omega
                · omega
              clear hown6 hgrow6 hat6
              have hhv35 : W.heap.size ≤ v35.heap.size := hHeld.size
              refine wpAnyH_take (i := 7) (v := .pointer (some ⟨w.heap.size, 1, none⟩)) rfl (by kernel_rfl) (by kernel_rfl) (by kernel_rfl) (fun _ _ _ h => h) (Or.inl ⟨by rfl, fun w hw => by clear hw; go_simp⟩) hHeld ?_
              try simp only [Act.put, List.setIfInBounds_toArray, List.set_cons_zero, List.set_cons_succ, List.getElem_toArray, List.getElem_cons_zero, List.getElem_cons_succ]
              refine wpAnyH_ready (rs := [8]) (by kernel_rfl) (by simp) (AllReadyH.cons rfl (fun K hK => ?_) (AllReadyH.nil))
              · have c8 := HZ.out.cell 1 _ rfl
                have f8 := HZ.out.free 1
                go_simp
                have s8 := g_set (g_refl v35 (some w.heap.size)) (p := ⟨w.heap.size, 1, none⟩) (.inl rfl) (.slice (some ⟨g6, 0, none⟩) (n + 1) cap6)
                clear c8 f8
                refine hK.out _ _ (tr_trans hHeld (tr_gs (S := fun i => i = w.heap.size) s8 (fun _ => rfl)) (fun i hi e => e)) (fun hHeld => ?_)
                clear hK K
                try simp only [Act.put, List.setIfInBounds_toArray, List.set_cons_zero, List.set_cons_succ, List.getElem_toArray, List.getElem_cons_zero, List.getElem_cons_succ]
                have HZ : Hid (Blk (v35.setCell ⟨w.heap.size, 1, none⟩ (.slice (some ⟨g6, 0, none⟩) (n + 1) cap6)) (w.heap.size) #[.int .i64 most, .slice (some ⟨g6, 0, none⟩) (n + 1) cap6] 46) := Lib.hid (by simpa using HZ.out.set 1 (.slice (some ⟨g6, 0, none⟩) (n + 1) cap6))
                have OWN6 := Lib.hid (OWN6.out.kept s8 (.inr (by simp only [Value.ownBlock, ne_eq, Option.some.injEq]; omega)))
                clear s8
                generalize v35.setCell ⟨w.heap.size, 1, none⟩ (.slice (some ⟨g6, 0, none⟩) (n + 1) cap6) = v36 at *
                have hhv36 : W.heap.size ≤ v36.heap.size := hHeld.size
                refine wpAnyH_done (by kernel_rfl) ?_ _
                have HRf := BR.out
                have BRf := Lib.hid (hHeld.blk HRf (by omega))
                have z0 := HZ.out.cell 0 _ rfl
                have z1 := HZ.out.cell 1 _ rfl
                have r0 := BRf.out.cell 0 _ rfl
                have r1 := BRf.out.cell 1 _ rfl
                have rf0 := BRf.out.free 0
                have rf1 := BRf.out.free 1
                have HH := Lib.hid hHeld
                clear hHeld
                go_wp2_with fail
                have s7 := g_set (g_set (g_refl v36 (some (w.heap.size + 1 + 1))) (p := ⟨w.heap.size + 1 + 1, 0, none⟩) (.inl rfl) (.int .i64 most)) (p := ⟨w.heap.size + 1 + 1, 1, none⟩) (.inl rfl) (.slice (some ⟨g6, 0, none⟩) (n + 1) cap6)
                have hF := (BRf.out.set 0 (.int .i64 most)).set 1 (.slice (some ⟨g6, 0, none⟩) (n + 1) cap6)
                have gF : w.grownBy _ none := g_in ((tr_trans (tr_g G0.out (fun _ => False)) HH.out (fun i hi e => by omega)).g (fun i _ e => e)) s7 (by omega)
                have hoF := OWN6.out.kept s7 (.inr (by simp only [Value.ownBlock, ne_eq, Option.some.injEq]; omega))
                have hlen : (M ++ [(⟨pk, pn, pf, pvk, pvn, ph, ps⟩ : OV)]).length = n + 1 := by simp [HN.out]
                have hoL : World.ownsRow ((v36.setCell ⟨w.heap.size + 1 + 1, 0, none⟩ (.int .i64 most)).setCell ⟨w.heap.size + 1 + 1, 1, none⟩ (.slice (some ⟨g6, 0, none⟩) (n + 1) cap6)) w.heap.size 36 7 (.slice (some ⟨g6, 0, none⟩) (M ++ [(⟨pk, pn, pf, pvk, pvn, ph, ps⟩ : OV)]).length cap6) (M ++ [(⟨pk, pn, pf, pvk, pvn, ph, ps⟩ : OV)]).length (scl (M ++ [(⟨pk, pn, pf, pvk, pvn, ph, ps⟩ : OV)])) := by
                  rw [hlen, scl_append]; exact hoF
                obtain ⟨xo, xc, hxe, hxs, -⟩ := srow_of_own hoL
                cases hxe
                have hxl := len_own hoL
                have k0 := hF.cell 0 (.int .i64 most) rfl
                have k1 := hF.cell 1 (.slice (some ⟨g6, 0, none⟩) (n + 1) cap6) rfl
                exact bodyPost_ret (v := .tuple #[.agg #[.int .i64 most, .slice (some ⟨g6, 0, none⟩) (n + 1) cap6], .int .i64 0]) (by simp [results, Try.results13, go_sem, k0, k1]) rfl ⟨_, rfl, ⟨_, cap6, by rw [hlen], hxs, hxl.1, hxl.2, fun e => (by cases e), .inr (fun a e => by cases e; show w.heap.size ≤ g6; omega)⟩, gF⟩
      · have c2 := HZ.out.cell 1 _ rfl
        go_simp
        clear c2
        refine hK.out _ _ (hHeld) (fun hHeld => ?_)
        clear hK K
        try simp only [Act.put, List.setIfInBounds_toArray, List.set_cons_zero, List.set_cons_succ, List.getElem_toArray, List.getElem_cons_zero, List.getElem_cons_succ]
        refine wpAnyH_ready (rs := [0]) (by kernel_rfl) (by simp) (AllReadyH.cons rfl (fun K hK => ?_) (AllReadyH.nil))
        · have h05 : v31.heap.size ≠ g5 := by have := NBK.out.lt; omega
          go_simp
          have ga := g_alloc (g_refl v31 none) (.cells #[] 36)
          refine hK.out _ _ (tr_then hHeld ga) (fun hHeld => ?_)
          clear hK K
          try simp only [Act.put, List.setIfInBounds_toArray, List.set_cons_zero, List.set_cons_succ, List.getElem_toArray, List.getElem_cons_zero, List.getElem_cons_succ]
          have HZ := Lib.hid (HZ.out.keepn ga)
          have NBK := Lib.hid (NBK.out.keepn ga)
          have OWN0 := Lib.hid (own_zero v31 36 (B := w.heap.size) (Nat.le_trans hW0 hhv31))
          have hg0 : W.heap.size ≤ v31.heap.size := hhv31
          clear ga
          generalize hxv38 : v31.alloc (.cells #[] 36) = v38 at *
          clear hxv38
          generalize v31.heap.size = g0 at *
          have hhv38 : W.heap.size ≤ v38.heap.size := hHeld.size
          refine wpAnyH_ready (rs := [3]) (by kernel_rfl) (by simp) (AllReadyH.cons rfl (fun K hK => ?_) (AllReadyH.nil))
          · refine step_app (by rfl) _ _ (by rfl) w.heap.size g0 (by rfl) OWN0.out ao n c M (by rfl) HN.out (by omega) (HRW.out _ hHeld) (Nat.le_trans hW0 hhv38) ?_
            intro g3 cap3 v39 hown3 hgrow3 hat3
            refine hK.out _ _ (tr_trans hHeld (tr_gs (S := fun i => i = g0) hgrow3 (fun _ => rfl)) (fun i hi e => by omega)) (fun hHeld => ?_)
            clear hK K
            try simp only [Act.put, List.setIfInBounds_toArray, List.set_cons_zero, List.set_cons_succ, List.getElem_toArray, List.getElem_cons_zero, List.getElem_cons_succ]
            have OWN3 := Lib.hid hown3
            have HZ := Lib.hid (HZ.out.keeps hgrow3 (by omega))
            have NBK := Lib.hid (NBK.out.keeps hgrow3 (by omega))
            have hg3 : W.heap.size ≤ g3 := by have := hhv38; rcases hat3 with e | e <;> omega
            clear hown3 hgrow3 hat3
            have hhv39 : W.heap.size ≤ v39.heap.size := hHeld.size
            refine wpAnyH_ready (rs := [6]) (by kernel_rfl) (by simp) (AllReadyH.cons rfl (fun K hK => ?_) (AllReadyH.nil))
            · refine step_append_lies _ (by rfl) _ _ _ (by rfl) w.heap.size 36 i0 _ 7 56 Try.underlying44 hi hz0 hz1 hz2 rfl (by omega) (.slice (some ⟨g3, 0, none⟩) n cap3) n (scl M) (by rfl) OWN3.out ⟨g5, 0, none⟩ 1 1 [.int .i64 pk, .int .i64 pn, .int .i64 pf, .int .i64 pvk, .int .i64 pvn, .bool ph, .int .i64 ps] (by rfl) (by rfl) (World.news_of_block (cs := #[.int .i64 pk, .int .i64 pn, .int .i64 pf, .int .i64 pvk, .int .i64 pvn, .bool ph, .int .i64 ps]) (t := 36) (fr := (0, 0)) NBK.out) (by simp [Value.oneCell']) (by omega) (by unfold maxLen; omega) (by omega) (Nat.le_trans hW0 hhv39) v39.heap.size rfl ?_
              intro g6 cap6 v40 hown6 hgrow6 hat6 hlt6
              refine hK.out _ _ (tr_trans hHeld (tr_row (S := fun i => i = g3) hgrow6 (fun g e _ => by cases e; rfl)) (fun i hi e => by omega)) (fun hHeld => ?_)
              clear hK K
              try simp only [Act.put, List.setIfInBounds_toArray, List.set_cons_zero, List.set_cons_succ, List.getElem_toArray, List.getElem_cons_zero, List.getElem_cons_succ]
              have OWN6 := Lib.hid hown6
              have HZ := Lib.hid (HZ.out.keep hgrow6 (by simp only [Value.ownBlock, ne_eq, Option.some.injEq]; omega))
              have hg6 : W.heap.size ≤ g6 := by
                have := hhv39
                rcases hat6 with e | e
                · have e : g3 = g6 := by simpa [Value.ownBlock] using e
                  omega
                · omega
              clear hown6 hgrow6 hat6
              have hhv40 : W.heap.size ≤ v40.heap.size := hHeld.size
              refine wpAnyH_take (i := 7) (v := .pointer (some ⟨w.heap.size, 1, none⟩)) rfl (by kernel_rfl) (by kernel_rfl) (by kernel_rfl) (fun _ _ _ h => h) (Or.inl ⟨by rfl, fun w hw => by clear hw; go_simp⟩) hHeld ?_
              try simp only [Act.put, List.setIfInBounds_toArray, List.set_cons_zero, List.set_cons_succ, List.getElem_toArray, List.getElem_cons_zero, List.getElem_cons_succ]
              refine wpAnyH_ready (rs := [8]) (by kernel_rfl) (by simp) (AllReadyH.cons rfl (fun K hK => ?_) (AllReadyH.nil))
              · have c8 := HZ.out.cell 1 _ rfl
                have f8 := HZ.out.free 1
                go_simp
                have s8 := g_set (g_refl v40 (some w.heap.size)) (p := ⟨w.heap.size, 1, none⟩) (.inl rfl) (.slice (some ⟨g6, 0, none⟩) (n + 1) cap6)
                clear c8 f8
                refine hK.out _ _ (tr_trans hHeld (tr_gs (S := fun i => i = w.heap.size) s8 (fun _ => rfl)) (fun i hi e => e)) (fun hHeld => ?_)
                clear hK K
                try simp only [Act.put, List.setIfInBounds_toArray, List.set_cons_zero, List.set_cons_succ, List.getElem_toArray, List.getElem_cons_zero, List.getElem_cons_succ]
                have HZ : Hid (Blk (v40.setCell ⟨w.heap.size, 1, none⟩ (.slice (some ⟨g6, 0, none⟩) (n + 1) cap6)) (w.heap.size) #[.int .i64 most, .slice (some ⟨g6, 0, none⟩) (n + 1) cap6] 46) := Lib.hid (by simpa using HZ.out.set 1 (.slice (some ⟨g6, 0, none⟩) (n + 1) cap6))
                have OWN6 := Lib.hid (OWN6.out.kept s8 (.inr (by simp only [Value.ownBlock, ne_eq, Option.some.injEq]; omega)))
                clear s8
                generalize v40.setCell ⟨w.heap.size, 1, none⟩ (.slice (some ⟨g6, 0, none⟩) (n + 1) cap6) = v41 at *
                have hhv41 : W.heap.size ≤ v41.heap.size := hHeld.size
                refine wpAnyH_done (by kernel_rfl) ?_ _
                have HRf := BR.out
                have BRf := Lib.hid (hHeld.blk HRf (by omega))
                have z0 := HZ.out.cell 0 _ rfl
                have z1 := HZ.out.cell 1 _ rfl
                have r0 := BRf.out.cell 0 _ rfl
                have r1 := BRf.out.cell 1 _ rfl
                have rf0 := BRf.out.free 0
                have rf1 := BRf.out.free 1
                have HH := Lib.hid hHeld
                clear hHeld
                go_wp2_with fail
                have s7 := g_set (g_set (g_refl v41 (some (w.heap.size + 1 + 1))) (p := ⟨w.heap.size + 1 + 1, 0, none⟩) (.inl rfl) (.int .i64 most)) (p := ⟨w.heap.size + 1 + 1, 1, none⟩) (.inl rfl) (.slice (some ⟨g6, 0, none⟩) (n + 1) cap6)
                have hF := (BRf.out.set 0 (.int .i64 most)).set 1 (.slice (some ⟨g6, 0, none⟩) (n + 1) cap6)
                have gF : w.grownBy _ none := g_in ((tr_trans (tr_g G0.out (fun _ => False)) HH.out (fun i hi e => by omega)).g (fun i _ e => e)) s7 (by omega)
                have hoF := OWN6.out.kept s7 (.inr (by simp only [Value.ownBlock, ne_eq, Option.some.injEq]; omega))
                have hlen : (M ++ [(⟨pk, pn, pf, pvk, pvn, ph, ps⟩ : OV)]).length = n + 1 := by simp [HN.out]
                have hoL : World.ownsRow ((v41.setCell ⟨w.heap.size + 1 + 1, 0, none⟩ (.int .i64 most)).setCell ⟨w.heap.size + 1 + 1, 1, none⟩ (.slice (some ⟨g6, 0, none⟩) (n + 1) cap6)) w.heap.size 36 7 (.slice (some ⟨g6, 0, none⟩) (M ++ [(⟨pk, pn, pf, pvk, pvn, ph, ps⟩ : OV)]).length cap6) (M ++ [(⟨pk, pn, pf, pvk, pvn, ph, ps⟩ : OV)]).length (scl (M ++ [(⟨pk, pn, pf, pvk, pvn, ph, ps⟩ : OV)])) := by
                  rw [hlen, scl_append]; exact hoF
                obtain ⟨xo, xc, hxe, hxs, -⟩ := srow_of_own hoL
                cases hxe
                have hxl := len_own hoL
                have k0 := hF.cell 0 (.int .i64 most) rfl
                have k1 := hF.cell 1 (.slice (some ⟨g6, 0, none⟩) (n + 1) cap6) rfl
                exact bodyPost_ret (v := .tuple #[.agg #[.int .i64 most, .slice (some ⟨g6, 0, none⟩) (n + 1) cap6], .int .i64 0]) (by simp [results, Try.results13, go_sem, k0, k1]) rfl ⟨_, rfl, ⟨_, cap6, by rw [hlen], hxs, hxl.1, hxl.2, fun e => (by cases e), .inr (fun a e => by cases e; show w.heap.size ≤ g6; omega)⟩, gF⟩
end Go.Proofs.Ytllljpmcfjmciaa
