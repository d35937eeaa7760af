/- Small functions of the law: Same, ref, object. -/
import Derived.Test.YtkkcfielmpjgeaaH
namespace Go.Proofs.Ytkkcfielmpjgeaa
open Go.RowKit
set_option linter.unusedVariables false
set_option linter.unusedSimpArgs false

set_option maxRecDepth 100000 in
set_option maxHeartbeats 3200000 in
theorem same_any (ao bo : Option Addr) (n c d : Nat) (L : List (Int × Int)) (w : World) (hL : SRow w ao L) (hM : SRow w bo L) (hn : L.length = n) (h5 : n < 100000) :
    Calls Try.prog 12 #[.slice ao n c, .slice bo n d] w fun e w' => e = .returned (.bool true) ∧ w.grownBy w' none := by
  have HL := Lib.hid hL
  have HM := Lib.hid hM
  have HN := Lib.hid hn
  clear hL hM hn
  go_enter Try.func12, Try.ntmps12
  go_wp2_with fail
  go_loopw [5] (fun i wr => ∃ j : Nat, i = .int .i64 j ∧ j ≤ n ∧ w.grownBy wr none) (fun i _ => (n - intOf i).toNat)
  case atStart => exact ⟨0, rfl, Nat.zero_le _, g_refl _ _⟩
  case round =>
    obtain ⟨j, rfl, hj, hg⟩ := hrel
    by_cases hlt : j < n
    · have hji : (j : Int) < n := by omega
      have hjj : ¬ (n : Int) ≤ j := by omega
      have hjj2 : ¬ n ≤ j := by omega
      obtain ⟨x, hx⟩ : ∃ x, L[j]? = some x := ⟨L[j]'(by rw [HN.out]; exact hlt), List.getElem?_eq_getElem _⟩
      obtain ⟨b, off, rfl, z0, z1⟩ := HL.out.keep hg j x hx
      obtain ⟨b2, off2, rfl, z2, z3⟩ := HM.out.keep hg j x hx
      have D := Lib.hid (And.intro z0 (And.intro z1 (And.intro z2 z3)))
      have HG := Lib.hid hg
      obtain ⟨x1, x2⟩ := x
      simp only at D
      clear z0 z1 z2 z3 hx hg
      go_upto_region 6 with fail
      refine wp_region_held_drew (S := fun W' => wr.grownBy W' none) (by kernel_rfl) (g_drew (g_refl _ _)) (fun hHeld => ?_)
      refine wpAnyH_take (i := 0) (v := .slice (some ⟨b, off, none⟩) n c) rfl (by kernel_rfl) (by kernel_rfl) (by kernel_rfl) (fun _ _ _ h => h) (Or.inl ⟨by rfl, fun w hw => by clear hw; go_simp⟩) hHeld ?_
      try simp only [Act.put, List.setIfInBounds_toArray, List.set_cons_zero, List.set_cons_succ, List.getElem_toArray, List.getElem_cons_zero, List.getElem_cons_succ]
      refine wpAnyH_take (i := 1) (v := .int .i64 (j : Int)) rfl (by kernel_rfl) (by kernel_rfl) (by kernel_rfl) (fun _ _ _ h => h) (Or.inl ⟨by rfl, fun w hw => by clear hw; go_simp⟩) hHeld ?_
      try simp only [Act.put, List.setIfInBounds_toArray, List.set_cons_zero, List.set_cons_succ, List.getElem_toArray, List.getElem_cons_zero, List.getElem_cons_succ]
      refine wpAnyH_take (i := 2) (v := .pointer (some ⟨b, off + j * 2, none⟩)) rfl (by kernel_rfl) (by kernel_rfl) (by kernel_rfl) (fun _ _ _ h => h) (Or.inl ⟨by rfl, fun w hw => by clear hw; go_simp⟩) hHeld ?_
      try simp only [Act.put, List.setIfInBounds_toArray, List.set_cons_zero, List.set_cons_succ, List.getElem_toArray, List.getElem_cons_zero, List.getElem_cons_succ]
      refine wpAnyH_take (i := 3) (v := .agg #[.int .i64 x1, .int .i64 x2]) rfl (by kernel_rfl) (by kernel_rfl) (by kernel_rfl) (fun _ _ _ h => h) (Or.inl ⟨by rfl, fun w hw => by have q0 := hw.cell D.out.1 (by simp); have q1 := hw.cell D.out.2.1 (by simp); clear hw; go_simp⟩) hHeld ?_
      try simp only [Act.put, List.setIfInBounds_toArray, List.set_cons_zero, List.set_cons_succ, List.getElem_toArray, List.getElem_cons_zero, List.getElem_cons_succ]
      refine wpAnyH_take (i := 4) (v := .slice (some ⟨b2, off2, none⟩) n d) rfl (by kernel_rfl) (by kernel_rfl) (by kernel_rfl) (fun _ _ _ h => h) (Or.inl ⟨by rfl, fun w hw => by clear hw; go_simp⟩) hHeld ?_
      try simp only [Act.put, List.setIfInBounds_toArray, List.set_cons_zero, List.set_cons_succ, List.getElem_toArray, List.getElem_cons_zero, List.getElem_cons_succ]
      refine wpAnyH_take (i := 5) (v := .int .i64 (j : Int)) rfl (by kernel_rfl) (by kernel_rfl) (by kernel_rfl) (fun _ _ _ h => h) (Or.inl ⟨by rfl, fun w hw => by clear hw; go_simp⟩) hHeld ?_
      try simp only [Act.put, List.setIfInBounds_toArray, List.set_cons_zero, List.set_cons_succ, List.getElem_toArray, List.getElem_cons_zero, List.getElem_cons_succ]
      refine wpAnyH_take (i := 6) (v := .pointer (some ⟨b2, off2 + j * 2, none⟩)) rfl (by kernel_rfl) (by kernel_rfl) (by kernel_rfl) (fun _ _ _ h => h) (Or.inl ⟨by rfl, fun w hw => by clear hw; go_simp⟩) hHeld ?_
      try simp only [Act.put, List.setIfInBounds_toArray, List.set_cons_zero, List.set_cons_succ, List.getElem_toArray, List.getElem_cons_zero, List.getElem_cons_succ]
      refine wpAnyH_take (i := 7) (v := .agg #[.int .i64 x1, .int .i64 x2]) rfl (by kernel_rfl) (by kernel_rfl) (by kernel_rfl) (fun _ _ _ h => h) (Or.inl ⟨by rfl, fun w hw => by have q0 := hw.cell D.out.2.2.1 (by simp); have q1 := hw.cell D.out.2.2.2 (by simp); clear hw; go_simp⟩) hHeld ?_
      try simp only [Act.put, List.setIfInBounds_toArray, List.set_cons_zero, List.set_cons_succ, List.getElem_toArray, List.getElem_cons_zero, List.getElem_cons_succ]
      refine wpAnyH_take (i := 8) (v := .bool false) rfl (by kernel_rfl) (by kernel_rfl) (by kernel_rfl) (fun _ _ _ h => h) (Or.inl ⟨by rfl, fun w hw => by clear hw; go_simp⟩) hHeld ?_
      try simp only [Act.put, List.setIfInBounds_toArray, List.set_cons_zero, List.set_cons_succ, List.getElem_toArray, List.getElem_cons_zero, List.getElem_cons_succ]
      refine wpAnyH_done (by kernel_rfl) ?_ _
      have GX := Lib.hid (g_trans HG.out hHeld)
      clear hHeld
      go_wp2_with fail
      go_roundw
      case rel => exact ⟨j + 1, by go_num, by omega, GX.out⟩
      case measure => simp [intOf]; omega
    · obtain rfl : j = n := by omega
      have hjj : ¬ (j : Int) < j := by omega
      have HG := Lib.hid hg
      clear hg
      go_wp2_with fail
      go_ret
      exact ⟨rfl, HG.out⟩

theorem ref_any (n : Int) (h0 : 0 ≤ n) (h1 : n ≤ 1000) (w : World) : Calls Try.prog 19 #[.int .i64 n] w fun e w' => e = .returned (.agg #[.int .i64 2, .int .i64 (1048576 + n)]) ∧ w.grownBy w' none := by
  have g := g_alloc (g_refl w none) (.cells #[.int .i64 2, .int .i64 (1048576 + n)] 25)
  have B := Blk.new w #[.int .i64 2, .int .i64 (1048576 + n)] 25
  have c0 := B.cell 0 _ rfl
  have c1 := B.cell 1 _ rfl
  have hwm : IntKind.i64.wrap (1048576 + n) = 1048576 + n := by simp [IntKind.wrap, IntKind.signed, IntKind.bits]; omega
  have G := Lib.hid g
  clear B g
  go_enter Try.func19, Try.ntmps19
  go_wp2_with fail
  exact bodyPost_ret (v := .agg #[.int .i64 2, .int .i64 (1048576 + n)]) (by simp [results, Try.results19, go_sem, c0, c1]) rfl ⟨rfl, G.out⟩

theorem newV (f1 f2 : Int) (w : World) : Blk (w.alloc (.cells #[.int .i64 f1, .int .i64 f2] 25)) w.heap.size #[.int .i64 f1, .int .i64 f2] 25 := Blk.new w _ 25
theorem g_newV (f1 f2 : Int) (w : World) : w.grownBy (w.alloc (.cells #[.int .i64 f1, .int .i64 f2] 25)) none := g_alloc (g_refl w none) _
theorem info34s : (Try.prog.info? 34).map (·.size) = some 8 := by kernel_rfl
set_option maxRecDepth 100000 in
set_option maxHeartbeats 3200000 in
theorem object_any (n s f1 f2 : Int) (h0 : 0 ≤ n) (h1 : n ≤ 1000) (w : World) : Calls Try.prog 18 #[.int .i64 n, .int .i64 s, .agg #[.int .i64 f1, .int .i64 f2]] w fun e w' => 
    ∃ zb, e = .returned (.agg #[.int .i64 2, .int .i64 (1048576 + n), .int .i64 1, .int .i64 1, .int .i64 1, .int .i64 s, .int .i64 0, .slice (some ⟨zb, 0, none⟩) 1 1]) ∧ w.heap.size ≤ zb ∧ Blk w' zb #[.int .i64 f1, .int .i64 f2] 25 ∧ w.grownBy w' none := by
  have ga := g_alloc (g_refl w none) (.cells #[.int .i64 f1, .int .i64 f2] 25)
  have gb := g_alloc (g_refl (w.alloc (.cells #[.int .i64 f1, .int .i64 f2] 25)) none) (.cells #[.int .i64 0, .int .i64 0, .int .i64 0, .int .i64 0, .int .i64 0, .int .i64 0, .int .i64 0, .slice none 0 0] 34)
  have HB := Lib.hid ((Blk.new w #[.int .i64 f1, .int .i64 f2] 25).keepn gb)
  have HY := Lib.hid (Blk.new (w.alloc (.cells #[.int .i64 f1, .int .i64 f2] 25)) #[.int .i64 0, .int .i64 0, .int .i64 0, .int .i64 0, .int .i64 0, .int .i64 0, .int .i64 0, .slice none 0 0] 34)
  have HG := Lib.hid (g_trans ga gb)
  have hzero : ∀ w, (zeroValue 34).run Try.prog w = .ok (.agg #[.int .i64 0, .int .i64 0, .int .i64 0, .int .i64 0, .int .i64 0, .int .i64 0, .int .i64 0, .slice none 0 0]) w := fun w => by kernel_rfl
  have hsy : (w.alloc (.cells #[.int .i64 f1, .int .i64 f2] 25)).heap.size = w.heap.size + 1 := by simp
  rw [hsy] at HY
  clear ga gb hsy
  go_enter Try.func18, Try.ntmps18
  go_upto_region 1 with fail
  obtain ⟨y, hy⟩ : ∃ y, w.heap.size + 1 = y := ⟨_, rfl⟩
  rw [hy] at HY ⊢
  have hxy : ¬ w.heap.size = y := by omega
  generalize (w.alloc (.cells #[.int .i64 f1, .int .i64 f2] 25)).alloc (.cells #[.int .i64 0, .int .i64 0, .int .i64 0, .int .i64 0, .int .i64 0, .int .i64 0, .int .i64 0, .slice none 0 0] 34) = W at *
  have HYL := Lib.hid HY.out.lt
  have HY := Lib.hid HY.out.drew
  have hwm : IntKind.i64.wrap (1048576 + n) = 1048576 + n := by simp [IntKind.wrap, IntKind.signed, IntKind.bits]; omega
  refine wp_region_held_drew (S := fun W' => W.grownBy W' (some y)) (by kernel_rfl) (g_drew (g_refl W (some y))) (fun hHeld => ?_)
  refine wpAnyH_take (i := 0) (v := .int .i64 n) rfl (by kernel_rfl) (by kernel_rfl) (by kernel_rfl) (fun _ _ _ h => h) (Or.inl ⟨by rfl, fun w hw => by clear hw; go_simp⟩) hHeld ?_
  try simp only [Act.put, List.setIfInBounds_toArray, List.set_cons_zero, List.set_cons_succ, List.getElem_toArray, List.getElem_cons_zero, List.getElem_cons_succ]
  refine wpAnyH_take (i := 2) (v := .int .i64 s) rfl (by kernel_rfl) (by kernel_rfl) (by kernel_rfl) (fun _ _ _ h => h) (Or.inl ⟨by rfl, fun w hw => by clear hw; go_simp⟩) hHeld ?_
  try simp only [Act.put, List.setIfInBounds_toArray, List.set_cons_zero, List.set_cons_succ, List.getElem_toArray, List.getElem_cons_zero, List.getElem_cons_succ]
  refine wpAnyH_take (i := 3) (v := .agg #[.int .i64 1, .int .i64 1, .int .i64 1, .int .i64 s, .int .i64 0]) rfl (by kernel_rfl) (by kernel_rfl) (by kernel_rfl) (fun _ _ _ h => h) (Or.inl ⟨by rfl, fun w hw => by clear hw; go_simp⟩) hHeld ?_
  try simp only [Act.put, List.setIfInBounds_toArray, List.set_cons_zero, List.set_cons_succ, List.getElem_toArray, List.getElem_cons_zero, List.getElem_cons_succ]
  refine wpAnyH_take (i := 4) (v := .agg #[.int .i64 f1, .int .i64 f2]) rfl (by kernel_rfl) (by kernel_rfl) (by kernel_rfl) (fun _ _ _ h => h) (Or.inl ⟨by rfl, fun w1 hw => by have q0 := hw.cell (HB.out.cell 0 _ rfl) (by simpa using hxy); have q1 := hw.cell (HB.out.cell 1 _ rfl) (by simpa using hxy); clear hw; go_simp⟩) hHeld ?_
  try simp only [Act.put, List.setIfInBounds_toArray, List.set_cons_zero, List.set_cons_succ, List.getElem_toArray, List.getElem_cons_zero, List.getElem_cons_succ]
  refine wpAnyH_ready (rs := [1, 5]) (by kernel_rfl) (by simp) (AllReadyH.cons rfl (fun K hK => ?_) (AllReadyH.cons rfl (fun K hK => ?_) (AllReadyH.nil)))
  · go_simp
    refine Calls.mono (ref_any n h0 h1 _) ?_
    rintro e wc1 ⟨rfl, gc⟩
    try go_wp2_with fail
    have HY := Lib.hid (HY.out.keepn gc)
    refine hK.out _ _ (g_trans hHeld (g_none gc _)) (fun hHeld => ?_)
    clear hK K
    try simp only [Act.put, List.setIfInBounds_toArray, List.set_cons_zero, List.set_cons_succ, List.getElem_toArray, List.getElem_cons_zero, List.getElem_cons_succ]
    refine wpAnyH_ready (rs := [5]) (by kernel_rfl) (by simp) (AllReadyH.cons rfl (fun K hK => ?_) (AllReadyH.nil))
    go_simp
    have HV := Lib.hid (newV f1 f2 wc1)
    have hz : W.heap.size ≤ wc1.heap.size := hHeld.size
    have HY := Lib.hid (HY.out.keepn (g_newV f1 f2 wc1))
    refine hK.out _ _ (g_trans hHeld (g_none (g_newV f1 f2 wc1) _)) (fun hHeld => ?_)
    clear hK K
    obtain ⟨zb, hzb⟩ : ∃ zb, wc1.heap.size = zb := ⟨_, rfl⟩
    have HV := Lib.hid (show Blk _ zb _ _ from hzb ▸ HV.out)
    have hz : W.heap.size ≤ zb := by omega
    try simp only [Act.put, List.setIfInBounds_toArray, List.set_cons_zero, List.set_cons_succ, List.getElem_toArray, List.getElem_cons_zero, List.getElem_cons_succ]
    refine wpAnyH_take (i := 6) (v := .agg #[.int .i64 2, .int .i64 (1048576 + n), .int .i64 1, .int .i64 1, .int .i64 1, .int .i64 s, .int .i64 0, .slice (some ⟨zb, 0, none⟩) 1 1]) rfl (by kernel_rfl) (by kernel_rfl) (by kernel_rfl) (fun _ _ _ h => h) (Or.inl ⟨by rfl, fun w hw => by clear hw; go_simp⟩) hHeld ?_
    try simp only [Act.put, List.setIfInBounds_toArray, List.set_cons_zero, List.set_cons_succ, List.getElem_toArray, List.getElem_cons_zero, List.getElem_cons_succ]
    refine wpAnyH_ready (rs := [7]) (by kernel_rfl) (by simp) (AllReadyH.cons rfl (fun K hK => ?_) (AllReadyH.nil))
    rw [if_pos (by rfl)]
    refine wp_store_mid 34 _ _ rfl _ 0 #[.int .i64 2, .int .i64 (1048576 + n), .int .i64 1, .int .i64 1, .int .i64 1, .int .i64 s, .int .i64 0, .slice (some ⟨zb, 0, none⟩) 1 1] rfl rfl HY.out.there info34s (by simp [Value.oneCell']) ?_
    have gS : ((wc1.alloc (.cells #[.int .i64 f1, .int .i64 f2] 25))).grownBy (((wc1.alloc (.cells #[.int .i64 f1, .int .i64 f2] 25))).setCells y 0 [.int .i64 2, .int .i64 (1048576 + n), .int .i64 1, .int .i64 1, .int .i64 1, .int .i64 s, .int .i64 0, .slice (some ⟨zb, 0, none⟩) 1 1]) (some y) := g_setAll y [.int .i64 2, .int .i64 (1048576 + n), .int .i64 1, .int .i64 1, .int .i64 1, .int .i64 s, .int .i64 0, .slice (some ⟨zb, 0, none⟩) 1 1] 0 _ _ (g_refl (wc1.alloc (.cells #[.int .i64 f1, .int .i64 f2] 25)) (some y))
    have BX : Blk (((wc1.alloc (.cells #[.int .i64 f1, .int .i64 f2] 25))).setCells y 0 [.int .i64 2, .int .i64 (1048576 + n), .int .i64 1, .int .i64 1, .int .i64 1, .int .i64 s, .int .i64 0, .slice (some ⟨zb, 0, none⟩) 1 1]) y #[.int .i64 2, .int .i64 (1048576 + n), .int .i64 1, .int .i64 1, .int .i64 1, .int .i64 s, .int .i64 0, .slice (some ⟨zb, 0, none⟩) 1 1] 34 := HY.out.setAll #[.int .i64 2, .int .i64 (1048576 + n), .int .i64 1, .int .i64 1, .int .i64 1, .int .i64 s, .int .i64 0, .slice (some ⟨zb, 0, none⟩) 1 1] rfl
    have hzy : zb ≠ y := by have := HYL.out; omega
    have HVF := Lib.hid (HV.out.keeps gS hzy)
    refine hK.out _ _ (g_trans hHeld gS) (fun hHeld => ?_)
    clear hK K gS
    try simp only [Act.put, List.setIfInBounds_toArray, List.set_cons_zero, List.set_cons_succ, List.getElem_toArray, List.getElem_cons_zero, List.getElem_cons_succ]
    refine wpAnyH_done (by kernel_rfl) ?_ _
    have k0 := BX.cell 0 (.int .i64 2) rfl
    have k1 := BX.cell 1 (.int .i64 (1048576 + n)) rfl
    have k2 := BX.cell 2 (.int .i64 1) rfl
    have k3 := BX.cell 3 (.int .i64 1) rfl
    have k4 := BX.cell 4 (.int .i64 1) rfl
    have k5 := BX.cell 5 (.int .i64 s) rfl
    have k6 := BX.cell 6 (.int .i64 0) rfl
    have k7 := BX.cell 7 (.slice (some ⟨zb, 0, none⟩) 1 1) rfl
    have GF := Lib.hid (g_in HG.out hHeld (by omega))
    have hwz := HG.out.size
    clear BX hHeld hzb hwm
    generalize ((wc1.alloc (.cells #[.int .i64 f1, .int .i64 f2] 25))).setCells y 0 [.int .i64 2, .int .i64 (1048576 + n), .int .i64 1, .int .i64 1, .int .i64 1, .int .i64 s, .int .i64 0, .slice (some ⟨zb, 0, none⟩) 1 1] = WF at *
    go_wp2_with fail
    exact bodyPost_ret (v := .agg #[.int .i64 2, .int .i64 (1048576 + n), .int .i64 1, .int .i64 1, .int .i64 1, .int .i64 s, .int .i64 0, .slice (some ⟨zb, 0, none⟩) 1 1]) (by simp [results, Try.results18, go_sem, k0, k1, k2, k3, k4, k5, k6, k7]) rfl ⟨zb, rfl, by omega, HVF.out, GF.out⟩
  · go_simp
    have HV := Lib.hid (newV f1 f2 W.drew)
    have hz : W.heap.size ≤ W.heap.size := hHeld.size
    have HY := Lib.hid (HY.out.keepn (g_newV f1 f2 W.drew))
    refine hK.out _ _ (g_trans hHeld (g_none (g_newV f1 f2 W.drew) _)) (fun hHeld => ?_)
    clear hK K
    obtain ⟨zb, hzb⟩ : ∃ zb, W.heap.size = zb := ⟨_, rfl⟩
    have HV := Lib.hid (show Blk _ zb _ _ from hzb ▸ HV.out)
    have hz : W.heap.size ≤ zb := by omega
    try simp only [Act.put, List.setIfInBounds_toArray, List.set_cons_zero, List.set_cons_succ, List.getElem_toArray, List.getElem_cons_zero, List.getElem_cons_succ]
    refine wpAnyH_ready (rs := [1]) (by kernel_rfl) (by simp) (AllReadyH.cons rfl (fun K hK => ?_) (AllReadyH.nil))
    go_simp
    refine Calls.mono (ref_any n h0 h1 _) ?_
    rintro e wc1 ⟨rfl, gc⟩
    try go_wp2_with fail
    have HY := Lib.hid (HY.out.keepn gc)
    refine hK.out _ _ (g_trans hHeld (g_none gc _)) (fun hHeld => ?_)
    clear hK K
    try simp only [Act.put, List.setIfInBounds_toArray, List.set_cons_zero, List.set_cons_succ, List.getElem_toArray, List.getElem_cons_zero, List.getElem_cons_succ]
    have HV := Lib.hid (HV.out.keepn gc)
    refine wpAnyH_take (i := 6) (v := .agg #[.int .i64 2, .int .i64 (1048576 + n), .int .i64 1, .int .i64 1, .int .i64 1, .int .i64 s, .int .i64 0, .slice (some ⟨zb, 0, none⟩) 1 1]) rfl (by kernel_rfl) (by kernel_rfl) (by kernel_rfl) (fun _ _ _ h => h) (Or.inl ⟨by rfl, fun w hw => by clear hw; go_simp⟩) hHeld ?_
    try simp only [Act.put, List.setIfInBounds_toArray, List.set_cons_zero, List.set_cons_succ, List.getElem_toArray, List.getElem_cons_zero, List.getElem_cons_succ]
    refine wpAnyH_ready (rs := [7]) (by kernel_rfl) (by simp) (AllReadyH.cons rfl (fun K hK => ?_) (AllReadyH.nil))
    rw [if_pos (by rfl)]
    refine wp_store_mid 34 _ _ rfl _ 0 #[.int .i64 2, .int .i64 (1048576 + n), .int .i64 1, .int .i64 1, .int .i64 1, .int .i64 s, .int .i64 0, .slice (some ⟨zb, 0, none⟩) 1 1] rfl rfl HY.out.there info34s (by simp [Value.oneCell']) ?_
    have gS : (wc1).grownBy ((wc1).setCells y 0 [.int .i64 2, .int .i64 (1048576 + n), .int .i64 1, .int .i64 1, .int .i64 1, .int .i64 s, .int .i64 0, .slice (some ⟨zb, 0, none⟩) 1 1]) (some y) := g_setAll y [.int .i64 2, .int .i64 (1048576 + n), .int .i64 1, .int .i64 1, .int .i64 1, .int .i64 s, .int .i64 0, .slice (some ⟨zb, 0, none⟩) 1 1] 0 _ _ (g_refl wc1 (some y))
    have BX : Blk ((wc1).setCells y 0 [.int .i64 2, .int .i64 (1048576 + n), .int .i64 1, .int .i64 1, .int .i64 1, .int .i64 s, .int .i64 0, .slice (some ⟨zb, 0, none⟩) 1 1]) y #[.int .i64 2, .int .i64 (1048576 + n), .int .i64 1, .int .i64 1, .int .i64 1, .int .i64 s, .int .i64 0, .slice (some ⟨zb, 0, none⟩) 1 1] 34 := HY.out.setAll #[.int .i64 2, .int .i64 (1048576 + n), .int .i64 1, .int .i64 1, .int .i64 1, .int .i64 s, .int .i64 0, .slice (some ⟨zb, 0, none⟩) 1 1] rfl
    have hzy : zb ≠ y := by have := HYL.out; omega
    have HVF := Lib.hid (HV.out.keeps gS hzy)
    refine hK.out _ _ (g_trans hHeld gS) (fun hHeld => ?_)
    clear hK K gS
    try simp only [Act.put, List.setIfInBounds_toArray, List.set_cons_zero, List.set_cons_succ, List.getElem_toArray, List.getElem_cons_zero, List.getElem_cons_succ]
    refine wpAnyH_done (by kernel_rfl) ?_ _
    have k0 := BX.cell 0 (.int .i64 2) rfl
    have k1 := BX.cell 1 (.int .i64 (1048576 + n)) rfl
    have k2 := BX.cell 2 (.int .i64 1) rfl
    have k3 := BX.cell 3 (.int .i64 1) rfl
    have k4 := BX.cell 4 (.int .i64 1) rfl
    have k5 := BX.cell 5 (.int .i64 s) rfl
    have k6 := BX.cell 6 (.int .i64 0) rfl
    have k7 := BX.cell 7 (.slice (some ⟨zb, 0, none⟩) 1 1) rfl
    have GF := Lib.hid (g_in HG.out hHeld (by omega))
    have hwz := HG.out.size
    clear BX hHeld hzb hwm
    generalize (wc1).setCells y 0 [.int .i64 2, .int .i64 (1048576 + n), .int .i64 1, .int .i64 1, .int .i64 1, .int .i64 s, .int .i64 0, .slice (some ⟨zb, 0, none⟩) 1 1] = WF at *
    go_wp2_with fail
    exact bodyPost_ret (v := .agg #[.int .i64 2, .int .i64 (1048576 + n), .int .i64 1, .int .i64 1, .int .i64 1, .int .i64 s, .int .i64 0, .slice (some ⟨zb, 0, none⟩) 1 1]) (by simp [results, Try.results18, go_sem, k0, k1, k2, k3, k4, k5, k6, k7]) rfl ⟨zb, rfl, by omega, HVF.out, GF.out⟩

end Go.Proofs.Ytkkcfielmpjgeaa
