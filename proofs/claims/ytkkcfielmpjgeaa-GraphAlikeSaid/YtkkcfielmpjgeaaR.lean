/- Rows that are equal are alike. -/
import Derived.Test.YtkkcfielmpjgeaaQ
namespace Go.Proofs.Ytkkcfielmpjgeaa
open Go.RowKit
set_option linter.unusedVariables false
set_option linter.unusedSimpArgs false

def pst (s : Int) : Int := if s = 1 then 2 else s
set_option maxRecDepth 100000 in
set_option maxHeartbeats 3200000 in
theorem plain_any (o : OB) (w : World) : Calls Try.prog 31 #[.agg #[.int .i64 o.gen, .int .i64 o.fields, .int .i64 o.mask, .int .i64 o.state, .int .i64 o.owner]] w fun e w' => e = .returned (.agg #[.int .i64 o.gen, .int .i64 o.fields, .int .i64 o.mask, .int .i64 (pst o.state), .int .i64 0]) ∧ w.grownBy w' none := by
  have ga := g_alloc (g_refl w none) (.cells #[.int .i64 o.gen, .int .i64 o.fields, .int .i64 o.mask, .int .i64 o.state, .int .i64 o.owner] 32)
  have gb := g_alloc (g_refl (w.alloc (.cells #[.int .i64 o.gen, .int .i64 o.fields, .int .i64 o.mask, .int .i64 o.state, .int .i64 o.owner] 32)) none) (.cells #[.int .i64 0, .int .i64 0, .int .i64 0, .int .i64 0, .int .i64 0] 32)
  have HX := Lib.hid ((Blk.new w #[.int .i64 o.gen, .int .i64 o.fields, .int .i64 o.mask, .int .i64 o.state, .int .i64 o.owner] 32).keepn gb)
  have HY := Lib.hid (Blk.new (w.alloc (.cells #[.int .i64 o.gen, .int .i64 o.fields, .int .i64 o.mask, .int .i64 o.state, .int .i64 o.owner] 32)) #[.int .i64 0, .int .i64 0, .int .i64 0, .int .i64 0, .int .i64 0] 32)
  have hzero : ∀ w, (zeroValue 32).run Try.prog w = .ok (.agg #[.int .i64 0, .int .i64 0, .int .i64 0, .int .i64 0, .int .i64 0]) w := fun w => by kernel_rfl
  have hsy : (w.alloc (.cells #[.int .i64 o.gen, .int .i64 o.fields, .int .i64 o.mask, .int .i64 o.state, .int .i64 o.owner] 32)).heap.size = w.heap.size + 1 := by simp
  rw [hsy] at HY
  have HG := Lib.hid (g_trans ga gb)
  clear ga gb hsy
  obtain ⟨x, hx⟩ : ∃ x, w.heap.size = x := ⟨_, rfl⟩
  rw [hx] at HX HY
  obtain ⟨y, hy⟩ : ∃ y, x + 1 = y := ⟨_, rfl⟩
  rw [hy] at HY
  obtain ⟨ps, hps⟩ : ∃ ps, pst o.state = ps := ⟨_, rfl⟩
  rw [hps]
  have HPS := Lib.hid hps
  clear hps
  go_enter Try.func31, Try.ntmps31
  go_upto_region 1 with fail
  generalize (w.alloc (.cells #[.int .i64 o.gen, .int .i64 o.fields, .int .i64 o.mask, .int .i64 o.state, .int .i64 o.owner] 32)).alloc (.cells #[.int .i64 0, .int .i64 0, .int .i64 0, .int .i64 0, .int .i64 0] 32) = W at *
  have c4 := HX.out.cell 4 (.int .i64 o.owner) rfl
  have f4 := HX.out.free 4
  have gs := g_set (g_refl W (some x)) (p := ⟨x, 4, none⟩) (.inl rfl) (.int .i64 0)
  have HX : Hid (Blk (W.setCell ⟨x, 4, none⟩ (.int .i64 0)) x #[.int .i64 o.gen, .int .i64 o.fields, .int .i64 o.mask, .int .i64 o.state, .int .i64 0] 32) := Lib.hid (by have h := HX.out.set 4 (.int .i64 0); simpa using h)
  have HY := Lib.hid (HY.out.keeps gs (by omega))
  have HG := Lib.hid (g_in HG.out gs (by omega))
  clear gs
  go_upto_region 2 with fail
  clear c4 f4
  generalize W.setCell ⟨x, 4, none⟩ (.int .i64 0) = W1 at *
  have c3 := HX.out.cell 3 (.int .i64 o.state) rfl
  by_cases hs : o.state = 1
  · obtain rfl : ps = 2 := by rw [← HPS.out]; simp [pst, hs]
    have f3 := HX.out.free 3
    have gs := g_set (g_refl W1 (some x)) (p := ⟨x, 3, none⟩) (.inl rfl) (.int .i64 2)
    have HX : Hid (Blk (W1.setCell ⟨x, 3, none⟩ (.int .i64 2)) x #[.int .i64 o.gen, .int .i64 o.fields, .int .i64 o.mask, .int .i64 2, .int .i64 0] 32) := Lib.hid (by have h := HX.out.set 3 (.int .i64 2); simpa using h)
    have HY := Lib.hid (HY.out.keeps gs (by omega))
    have HG := Lib.hid (g_in HG.out gs (by omega))
    clear gs
    rw [hs] at c3
    go_upto_region 4 with fail
    clear c3 f3
    generalize W1.setCell ⟨x, 3, none⟩ (.int .i64 2) = W2 at *
    have e0 := HX.out.cell 0 (.int .i64 o.gen) rfl
    have e1 := HX.out.cell 1 (.int .i64 o.fields) rfl
    have e2 := HX.out.cell 2 (.int .i64 o.mask) rfl
    have e3 := HX.out.cell 3 (.int .i64 2) rfl
    have e4 := HX.out.cell 4 (.int .i64 0) rfl
    have HYT := HY.out.there
    have gS := g_setAll y [.int .i64 o.gen, .int .i64 o.fields, .int .i64 o.mask, .int .i64 2, .int .i64 0] 0 _ _ (g_refl W2 (some y))
    have BX : Blk (W2.setCells y 0 [.int .i64 o.gen, .int .i64 o.fields, .int .i64 o.mask, .int .i64 2, .int .i64 0]) y #[.int .i64 o.gen, .int .i64 o.fields, .int .i64 o.mask, .int .i64 2, .int .i64 0] 32 := HY.out.setAll #[.int .i64 o.gen, .int .i64 o.fields, .int .i64 o.mask, .int .i64 2, .int .i64 0] rfl
    have GF := Lib.hid (g_in HG.out gS (by omega))
    clear gS
    go_wp2_with (refine wpList_store_mid rfl 32 _ _ rfl y 0 #[.int .i64 o.gen, .int .i64 o.fields, .int .i64 o.mask, .int .i64 2, .int .i64 0] rfl rfl HYT info32s (by simp [Value.oneCell']) ?_)
    have k0 := BX.cell 0 (.int .i64 o.gen) rfl
    have k1 := BX.cell 1 (.int .i64 o.fields) rfl
    have k2 := BX.cell 2 (.int .i64 o.mask) rfl
    have k3 := BX.cell 3 (.int .i64 2) rfl
    have k4 := BX.cell 4 (.int .i64 0) rfl
    exact bodyPost_ret (v := .agg #[.int .i64 o.gen, .int .i64 o.fields, .int .i64 o.mask, .int .i64 2, .int .i64 0]) (by simp [results, Try.results31, go_sem, k0, k1, k2, k3, k4]) rfl ⟨rfl, GF.out⟩
  · obtain rfl : ps = o.state := by rw [← HPS.out]; simp [pst, hs]
    go_upto_region 4 with fail
    have e0 := HX.out.cell 0 (.int .i64 o.gen) rfl
    have e1 := HX.out.cell 1 (.int .i64 o.fields) rfl
    have e2 := HX.out.cell 2 (.int .i64 o.mask) rfl
    have e4 := HX.out.cell 4 (.int .i64 0) rfl
    have HYT := HY.out.there
    have gS := g_setAll y [.int .i64 o.gen, .int .i64 o.fields, .int .i64 o.mask, .int .i64 o.state, .int .i64 0] 0 _ _ (g_refl W1 (some y))
    have BX : Blk (W1.setCells y 0 [.int .i64 o.gen, .int .i64 o.fields, .int .i64 o.mask, .int .i64 o.state, .int .i64 0]) y #[.int .i64 o.gen, .int .i64 o.fields, .int .i64 o.mask, .int .i64 o.state, .int .i64 0] 32 := HY.out.setAll #[.int .i64 o.gen, .int .i64 o.fields, .int .i64 o.mask, .int .i64 o.state, .int .i64 0] rfl
    have GF := Lib.hid (g_in HG.out gS (by omega))
    clear gS
    go_wp2_with (refine wpList_store_mid rfl 32 _ _ rfl y 0 #[.int .i64 o.gen, .int .i64 o.fields, .int .i64 o.mask, .int .i64 o.state, .int .i64 0] rfl rfl HYT info32s (by simp [Value.oneCell']) ?_)
    have k0 := BX.cell 0 (.int .i64 o.gen) rfl
    have k1 := BX.cell 1 (.int .i64 o.fields) rfl
    have k2 := BX.cell 2 (.int .i64 o.mask) rfl
    have k3 := BX.cell 3 (.int .i64 o.state) rfl
    have k4 := BX.cell 4 (.int .i64 0) rfl
    exact bodyPost_ret (v := .agg #[.int .i64 o.gen, .int .i64 o.fields, .int .i64 o.mask, .int .i64 o.state, .int .i64 0]) (by simp [results, Try.results31, go_sem, k0, k1, k2, k3, k4]) rfl ⟨rfl, GF.out⟩

set_option maxRecDepth 100000 in
set_option maxHeartbeats 3200000 in
theorem alike1_any (o : OB) (fa fb : Option Addr) (fc fd : Nat) (w : World) (h1 : SRow w fa o.F) (h2 : SRow w fb o.F) (hl : o.F.length ≤ 1000) :
    Calls Try.prog 30 #[.agg #[.int .i64 o.ref.1, .int .i64 o.ref.2, .int .i64 o.gen, .int .i64 o.fields, .int .i64 o.mask, .int .i64 o.state, .int .i64 o.owner, .slice fa o.F.length fc], .agg #[.int .i64 o.ref.1, .int .i64 o.ref.2, .int .i64 o.gen, .int .i64 o.fields, .int .i64 o.mask, .int .i64 o.state, .int .i64 o.owner, .slice fb o.F.length fd]] w fun e w' => e = .returned (.bool true) ∧ w.grownBy w' none := by
  have ga := g_alloc (g_refl w none) (.cells #[.int .i64 o.ref.1, .int .i64 o.ref.2, .int .i64 o.gen, .int .i64 o.fields, .int .i64 o.mask, .int .i64 o.state, .int .i64 o.owner, .slice fa o.F.length fc] 34)
  have gb := g_alloc (g_refl (w.alloc (.cells #[.int .i64 o.ref.1, .int .i64 o.ref.2, .int .i64 o.gen, .int .i64 o.fields, .int .i64 o.mask, .int .i64 o.state, .int .i64 o.owner, .slice fa o.F.length fc] 34)) none) (.cells #[.int .i64 o.ref.1, .int .i64 o.ref.2, .int .i64 o.gen, .int .i64 o.fields, .int .i64 o.mask, .int .i64 o.state, .int .i64 o.owner, .slice fb o.F.length fd] 34)
  have HA := Lib.hid ((Blk.new w #[.int .i64 o.ref.1, .int .i64 o.ref.2, .int .i64 o.gen, .int .i64 o.fields, .int .i64 o.mask, .int .i64 o.state, .int .i64 o.owner, .slice fa o.F.length fc] 34).keepn gb)
  have HBB := Lib.hid (Blk.new (w.alloc (.cells #[.int .i64 o.ref.1, .int .i64 o.ref.2, .int .i64 o.gen, .int .i64 o.fields, .int .i64 o.mask, .int .i64 o.state, .int .i64 o.owner, .slice fa o.F.length fc] 34)) #[.int .i64 o.ref.1, .int .i64 o.ref.2, .int .i64 o.gen, .int .i64 o.fields, .int .i64 o.mask, .int .i64 o.state, .int .i64 o.owner, .slice fb o.F.length fd] 34)
  have hsy : (w.alloc (.cells #[.int .i64 o.ref.1, .int .i64 o.ref.2, .int .i64 o.gen, .int .i64 o.fields, .int .i64 o.mask, .int .i64 o.state, .int .i64 o.owner, .slice fa o.F.length fc] 34)).heap.size = w.heap.size + 1 := by simp
  rw [hsy] at HBB
  have HG := Lib.hid (g_trans ga gb)
  have HS1 := Lib.hid (h1.keep HG.out)
  have HS2 := Lib.hid (h2.keep HG.out)
  have HPL := Lib.hid (plain_any o)
  clear ga gb hsy h1 h2
  obtain ⟨ps, hps⟩ : ∃ ps, pst o.state = ps := ⟨_, rfl⟩
  rw [hps] at HPL
  clear hps
  obtain ⟨x, hx⟩ : ∃ x, w.heap.size = x := ⟨_, rfl⟩
  rw [hx] at HA HBB
  obtain ⟨y, hy⟩ : ∃ y, x + 1 = y := ⟨_, rfl⟩
  rw [hy] at HBB
  go_enter Try.func30, Try.ntmps30
  go_upto_region 1 with fail
  generalize (w.alloc (.cells #[.int .i64 o.ref.1, .int .i64 o.ref.2, .int .i64 o.gen, .int .i64 o.fields, .int .i64 o.mask, .int .i64 o.state, .int .i64 o.owner, .slice fa o.F.length fc] 34)).alloc (.cells #[.int .i64 o.ref.1, .int .i64 o.ref.2, .int .i64 o.gen, .int .i64 o.fields, .int .i64 o.mask, .int .i64 o.state, .int .i64 o.owner, .slice fb o.F.length fd] 34) = W at *
  refine wp_region_held_drew (S := fun W' => W.grownBy W' none) (by kernel_rfl) (g_drew (g_refl _ _)) (fun hHeld => ?_)
  refine wpAnyH_take (i := 0) (v := .pointer (some ⟨x, 0, none⟩)) rfl (by kernel_rfl) (by kernel_rfl) (by kernel_rfl) (fun _ _ _ h => h) (Or.inl ⟨by rfl, fun w hw => by clear hw; go_simp⟩) hHeld ?_
  try simp only [Act.put, List.setIfInBounds_toArray, List.set_cons_zero, List.set_cons_succ, List.getElem_toArray, List.getElem_cons_zero, List.getElem_cons_succ]
  refine wpAnyH_take (i := 1) (v := .agg #[.int .i64 o.ref.1, .int .i64 o.ref.2]) rfl (by kernel_rfl) (by kernel_rfl) (by kernel_rfl) (fun _ _ _ h => h) (Or.inl ⟨by rfl, fun w hw => by have q0 := (HA.out.keepn hw).cell 0 _ rfl; have q1 := (HA.out.keepn hw).cell 1 _ rfl; clear hw; go_simp⟩) hHeld ?_
  try simp only [Act.put, List.setIfInBounds_toArray, List.set_cons_zero, List.set_cons_succ, List.getElem_toArray, List.getElem_cons_zero, List.getElem_cons_succ]
  refine wpAnyH_take (i := 2) (v := .pointer (some ⟨y, 0, none⟩)) rfl (by kernel_rfl) (by kernel_rfl) (by kernel_rfl) (fun _ _ _ h => h) (Or.inl ⟨by rfl, fun w hw => by clear hw; go_simp⟩) hHeld ?_
  try simp only [Act.put, List.setIfInBounds_toArray, List.set_cons_zero, List.set_cons_succ, List.getElem_toArray, List.getElem_cons_zero, List.getElem_cons_succ]
  refine wpAnyH_take (i := 3) (v := .agg #[.int .i64 o.ref.1, .int .i64 o.ref.2]) rfl (by kernel_rfl) (by kernel_rfl) (by kernel_rfl) (fun _ _ _ h => h) (Or.inl ⟨by rfl, fun w hw => by have q0 := (HBB.out.keepn hw).cell 0 _ rfl; have q1 := (HBB.out.keepn hw).cell 1 _ rfl; clear hw; go_simp⟩) hHeld ?_
  try simp only [Act.put, List.setIfInBounds_toArray, List.set_cons_zero, List.set_cons_succ, List.getElem_toArray, List.getElem_cons_zero, List.getElem_cons_succ]
  refine wpAnyH_take (i := 4) (v := .bool true) rfl (by kernel_rfl) (by kernel_rfl) (by kernel_rfl) (fun _ _ _ h => h) (Or.inl ⟨by rfl, fun w hw => by clear hw; go_simp⟩) hHeld ?_
  try simp only [Act.put, List.setIfInBounds_toArray, List.set_cons_zero, List.set_cons_succ, List.getElem_toArray, List.getElem_cons_zero, List.getElem_cons_succ]
  refine wpAnyH_take (i := 5) (v := .bool true) rfl (by kernel_rfl) (by kernel_rfl) (by kernel_rfl) (fun _ _ _ h => h) (Or.inl ⟨by rfl, fun w hw => by clear hw; go_simp⟩) hHeld ?_
  try simp only [Act.put, List.setIfInBounds_toArray, List.set_cons_zero, List.set_cons_succ, List.getElem_toArray, List.getElem_cons_zero, List.getElem_cons_succ]
  refine wpAnyH_take (i := 6) (v := .pointer (some ⟨x, 2, none⟩)) rfl (by kernel_rfl) (by kernel_rfl) (by kernel_rfl) (fun _ _ _ h => h) (Or.inl ⟨by rfl, fun w hw => by clear hw; go_simp⟩) hHeld ?_
  try simp only [Act.put, List.setIfInBounds_toArray, List.set_cons_zero, List.set_cons_succ, List.getElem_toArray, List.getElem_cons_zero, List.getElem_cons_succ]
  refine wpAnyH_take (i := 7) (v := .agg #[.int .i64 o.gen, .int .i64 o.fields, .int .i64 o.mask, .int .i64 o.state, .int .i64 o.owner]) rfl (by kernel_rfl) (by kernel_rfl) (by kernel_rfl) (fun _ _ _ h => h) (Or.inl ⟨by rfl, fun w hw => by have q2 := (HA.out.keepn hw).cell 2 _ rfl; have q3 := (HA.out.keepn hw).cell 3 _ rfl; have q4 := (HA.out.keepn hw).cell 4 _ rfl; have q5 := (HA.out.keepn hw).cell 5 _ rfl; have q6 := (HA.out.keepn hw).cell 6 _ rfl; clear hw; go_simp⟩) hHeld ?_
  try simp only [Act.put, List.setIfInBounds_toArray, List.set_cons_zero, List.set_cons_succ, List.getElem_toArray, List.getElem_cons_zero, List.getElem_cons_succ]
  refine wpAnyH_take (i := 9) (v := .pointer (some ⟨y, 2, none⟩)) rfl (by kernel_rfl) (by kernel_rfl) (by kernel_rfl) (fun _ _ _ h => h) (Or.inl ⟨by rfl, fun w hw => by clear hw; go_simp⟩) hHeld ?_
  try simp only [Act.put, List.setIfInBounds_toArray, List.set_cons_zero, List.set_cons_succ, List.getElem_toArray, List.getElem_cons_zero, List.getElem_cons_succ]
  refine wpAnyH_take (i := 10) (v := .agg #[.int .i64 o.gen, .int .i64 o.fields, .int .i64 o.mask, .int .i64 o.state, .int .i64 o.owner]) rfl (by kernel_rfl) (by kernel_rfl) (by kernel_rfl) (fun _ _ _ h => h) (Or.inl ⟨by rfl, fun w hw => by have q2 := (HBB.out.keepn hw).cell 2 _ rfl; have q3 := (HBB.out.keepn hw).cell 3 _ rfl; have q4 := (HBB.out.keepn hw).cell 4 _ rfl; have q5 := (HBB.out.keepn hw).cell 5 _ rfl; have q6 := (HBB.out.keepn hw).cell 6 _ rfl; clear hw; go_simp⟩) hHeld ?_
  try simp only [Act.put, List.setIfInBounds_toArray, List.set_cons_zero, List.set_cons_succ, List.getElem_toArray, List.getElem_cons_zero, List.getElem_cons_succ]
  refine wpAnyH_ready (rs := [8]) (by kernel_rfl) (by simp) (AllReadyH.cons rfl (fun K hK => ?_) (AllReadyH.nil))
  · go_simp
    refine Calls.mono (HPL.out _) ?_
    rintro e wc1 ⟨rfl, gc1⟩
    try go_wp2_with fail
    refine hK.out _ _ (g_trans hHeld gc1) (fun hHeld => ?_)
    clear hK K gc1
    try simp only [Act.put, List.setIfInBounds_toArray, List.set_cons_zero, List.set_cons_succ, List.getElem_toArray, List.getElem_cons_zero, List.getElem_cons_succ]
    refine wpAnyH_ready (rs := [11]) (by kernel_rfl) (by simp) (AllReadyH.cons rfl (fun K hK => ?_) (AllReadyH.nil))
    · go_simp
      refine Calls.mono (HPL.out _) ?_
      rintro e wc2 ⟨rfl, gc2⟩
      try go_wp2_with fail
      refine hK.out _ _ (g_trans hHeld gc2) (fun hHeld => ?_)
      clear hK K gc2
      try simp only [Act.put, List.setIfInBounds_toArray, List.set_cons_zero, List.set_cons_succ, List.getElem_toArray, List.getElem_cons_zero, List.getElem_cons_succ]
      refine wpAnyH_take (i := 12) (v := .bool true) rfl (by kernel_rfl) (by kernel_rfl) (by kernel_rfl) (fun _ _ _ h => h) (Or.inl ⟨by rfl, fun w hw => by clear hw; go_simp⟩) hHeld ?_
      try simp only [Act.put, List.setIfInBounds_toArray, List.set_cons_zero, List.set_cons_succ, List.getElem_toArray, List.getElem_cons_zero, List.getElem_cons_succ]
      refine wpAnyH_take (i := 13) (v := .bool true) rfl (by kernel_rfl) (by kernel_rfl) (by kernel_rfl) (fun _ _ _ h => h) (Or.inl ⟨by rfl, fun w hw => by clear hw; go_simp⟩) hHeld ?_
      try simp only [Act.put, List.setIfInBounds_toArray, List.set_cons_zero, List.set_cons_succ, List.getElem_toArray, List.getElem_cons_zero, List.getElem_cons_succ]
      refine wpAnyH_take (i := 14) (v := .bool true) rfl (by kernel_rfl) (by kernel_rfl) (by kernel_rfl) (fun _ _ _ h => h) (Or.inl ⟨by rfl, fun w hw => by clear hw; go_simp⟩) hHeld ?_
      try simp only [Act.put, List.setIfInBounds_toArray, List.set_cons_zero, List.set_cons_succ, List.getElem_toArray, List.getElem_cons_zero, List.getElem_cons_succ]
      refine wpAnyH_take (i := 15) (v := .pointer (some ⟨x, 7, none⟩)) rfl (by kernel_rfl) (by kernel_rfl) (by kernel_rfl) (fun _ _ _ h => h) (Or.inl ⟨by rfl, fun w hw => by clear hw; go_simp⟩) hHeld ?_
      try simp only [Act.put, List.setIfInBounds_toArray, List.set_cons_zero, List.set_cons_succ, List.getElem_toArray, List.getElem_cons_zero, List.getElem_cons_succ]
      refine wpAnyH_take (i := 16) (v := .slice fa o.F.length fc) rfl (by kernel_rfl) (by kernel_rfl) (by kernel_rfl) (fun _ _ _ h => h) (Or.inl ⟨by rfl, fun w hw => by have q7 := (HA.out.keepn hw).cell 7 _ rfl; clear hw; go_simp⟩) hHeld ?_
      try simp only [Act.put, List.setIfInBounds_toArray, List.set_cons_zero, List.set_cons_succ, List.getElem_toArray, List.getElem_cons_zero, List.getElem_cons_succ]
      refine wpAnyH_take (i := 17) (v := .pointer (some ⟨y, 7, none⟩)) rfl (by kernel_rfl) (by kernel_rfl) (by kernel_rfl) (fun _ _ _ h => h) (Or.inl ⟨by rfl, fun w hw => by clear hw; go_simp⟩) hHeld ?_
      try simp only [Act.put, List.setIfInBounds_toArray, List.set_cons_zero, List.set_cons_succ, List.getElem_toArray, List.getElem_cons_zero, List.getElem_cons_succ]
      refine wpAnyH_take (i := 18) (v := .slice fb o.F.length fd) rfl (by kernel_rfl) (by kernel_rfl) (by kernel_rfl) (fun _ _ _ h => h) (Or.inl ⟨by rfl, fun w hw => by have q7 := (HBB.out.keepn hw).cell 7 _ rfl; clear hw; go_simp⟩) hHeld ?_
      try simp only [Act.put, List.setIfInBounds_toArray, List.set_cons_zero, List.set_cons_succ, List.getElem_toArray, List.getElem_cons_zero, List.getElem_cons_succ]
      refine wpAnyH_ready (rs := [19]) (by kernel_rfl) (by simp) (AllReadyH.cons rfl (fun K hK => ?_) (AllReadyH.nil))
      · go_simp
        refine Calls.mono (vsame_any fa fb o.F.length fc fd o.F _ (HS1.out.keep hHeld) (HS2.out.keep hHeld) rfl (by omega)) ?_
        rintro e wc3 ⟨rfl, gc3⟩
        try go_wp2_with fail
        refine hK.out _ _ (g_trans hHeld gc3) (fun hHeld => ?_)
        clear hK K gc3
        try simp only [Act.put, List.setIfInBounds_toArray, List.set_cons_zero, List.set_cons_succ, List.getElem_toArray, List.getElem_cons_zero, List.getElem_cons_succ]
        refine wpAnyH_take (i := 20) (v := .bool true) rfl (by kernel_rfl) (by kernel_rfl) (by kernel_rfl) (fun _ _ _ h => h) (Or.inl ⟨by rfl, fun w hw => by clear hw; go_simp⟩) hHeld ?_
        try simp only [Act.put, List.setIfInBounds_toArray, List.set_cons_zero, List.set_cons_succ, List.getElem_toArray, List.getElem_cons_zero, List.getElem_cons_succ]
        refine wpAnyH_take (i := 21) (v := .bool true) rfl (by kernel_rfl) (by kernel_rfl) (by kernel_rfl) (fun _ _ _ h => h) (Or.inl ⟨by rfl, fun w hw => by clear hw; go_simp⟩) hHeld ?_
        try simp only [Act.put, List.setIfInBounds_toArray, List.set_cons_zero, List.set_cons_succ, List.getElem_toArray, List.getElem_cons_zero, List.getElem_cons_succ]
        refine wpAnyH_done (by kernel_rfl) ?_ _
        have GX := Lib.hid (g_trans HG.out hHeld)
        clear hHeld
        go_wp2_with fail
        go_ret
        exact ⟨rfl, GX.out⟩

set_option maxRecDepth 100000 in
set_option maxHeartbeats 3200000 in
theorem equalfunc_any (B1 B2 : Nat) (ao bo : Option Addr) (n c d : Nat) (Ls : List OB) (w : World) (hA : ORow w B1 ao Ls) (hB : ORow w B2 bo Ls) (hn : Ls.length = n) (h5 : n ≤ 1000) (hF : ∀ o ∈ Ls, o.F.length ≤ 1000) :
    Calls Try.prog 29 #[.slice ao n c, .slice bo n d, .func (.func 30) #[] #[]] w fun e w' => e = .returned (.bool true) ∧ w.grownBy w' none := by
  have hnot : ∀ (x : Bool) (w : World), (Op.unary .not (.bool x)).run Try.prog w = .ok (.bool (!x)) w := fun _ _ => rfl
  have HA0 := Lib.hid hA
  have HB0 := Lib.hid hB
  have HN := Lib.hid hn
  have HF := Lib.hid hF
  clear hA hB hn hF
  go_enter Try.func29, Try.ntmps29
  go_wp2_with fail
  go_loopw [17] (fun i wr => ∃ j : Nat, i = .int .i64 j ∧ j ≤ n ∧ w.grownBy wr none) (fun i _ => (n - intOf i).toNat)
  case atStart => exact ⟨0, rfl, Nat.zero_le _, g_refl _ _⟩
  case round =>
    obtain ⟨j, rfl, hj, hg⟩ := hrel
    by_cases hlt : j < n
    · have hji : (j : Int) < n := by omega
      have hjj : ¬ (n : Int) ≤ j := by omega
      obtain ⟨o, hoj⟩ : ∃ o, Ls[j]? = some o := ⟨Ls[j]'(by rw [HN.out]; exact hlt), List.getElem?_eq_getElem _⟩
      obtain ⟨b, off, fa, fc, rfl, _, z0, z1, z2, z3, z4, z5, z6, z7, z8, -⟩ := HA0.out.keepn hg j o hoj
      have ga := g_alloc (g_refl wr none) (.cells #[.int .i64 o.ref.1, .int .i64 o.ref.2, .int .i64 o.gen, .int .i64 o.fields, .int .i64 o.mask, .int .i64 o.state, .int .i64 o.owner, .slice fa o.F.length fc] 34)
      obtain ⟨b2, off2, fb, fd, rfl, _, x0, x1, x2, x3, x4, x5, x6, x7, x8, -⟩ := (HB0.out.keepn hg).keepn ga j o hoj
      have gb := g_alloc (g_refl (wr.alloc (.cells #[.int .i64 o.ref.1, .int .i64 o.ref.2, .int .i64 o.gen, .int .i64 o.fields, .int .i64 o.mask, .int .i64 o.state, .int .i64 o.owner, .slice fa o.F.length fc] 34)) none) (.cells #[.int .i64 o.ref.1, .int .i64 o.ref.2, .int .i64 o.gen, .int .i64 o.fields, .int .i64 o.mask, .int .i64 o.state, .int .i64 o.owner, .slice fb o.F.length fd] 34)
      have HA := Lib.hid ((Blk.new wr #[.int .i64 o.ref.1, .int .i64 o.ref.2, .int .i64 o.gen, .int .i64 o.fields, .int .i64 o.mask, .int .i64 o.state, .int .i64 o.owner, .slice fa o.F.length fc] 34).keepn gb)
      have HBB := Lib.hid (Blk.new (wr.alloc (.cells #[.int .i64 o.ref.1, .int .i64 o.ref.2, .int .i64 o.gen, .int .i64 o.fields, .int .i64 o.mask, .int .i64 o.state, .int .i64 o.owner, .slice fa o.F.length fc] 34)) #[.int .i64 o.ref.1, .int .i64 o.ref.2, .int .i64 o.gen, .int .i64 o.fields, .int .i64 o.mask, .int .i64 o.state, .int .i64 o.owner, .slice fb o.F.length fd] 34)
      have hsy : (wr.alloc (.cells #[.int .i64 o.ref.1, .int .i64 o.ref.2, .int .i64 o.gen, .int .i64 o.fields, .int .i64 o.mask, .int .i64 o.state, .int .i64 o.owner, .slice fa o.F.length fc] 34)).heap.size = wr.heap.size + 1 := by simp
      rw [hsy] at HBB
      have HC := Lib.hid (alike1_any o fa fb fc fd _ ((z8.keep ga).keep gb) (x8.keep gb) (HF.out o (List.mem_of_getElem? hoj)))
      have HG := Lib.hid (g_trans hg (g_trans ga gb))
      clear ga gb hsy z8 x8 hoj hg
      go_upto_region 7 with fail
      obtain ⟨x, hx⟩ : ∃ x, wr.heap.size = x := ⟨_, rfl⟩
      rw [hx] at HA HBB
      clear z0 z1 z2 z3 z4 z5 z6 z7 x0 x1 x2 x3 x4 x5 x6 x7
      generalize (wr.alloc (.cells #[.int .i64 o.ref.1, .int .i64 o.ref.2, .int .i64 o.gen, .int .i64 o.fields, .int .i64 o.mask, .int .i64 o.state, .int .i64 o.owner, .slice fa o.F.length fc] 34)).alloc (.cells #[.int .i64 o.ref.1, .int .i64 o.ref.2, .int .i64 o.gen, .int .i64 o.fields, .int .i64 o.mask, .int .i64 o.state, .int .i64 o.owner, .slice fb o.F.length fd] 34) = W at *
      have p0 := HA.out.cell 0 _ rfl
      have p1 := HA.out.cell 1 _ rfl
      have p2 := HA.out.cell 2 _ rfl
      have p3 := HA.out.cell 3 _ rfl
      have p4 := HA.out.cell 4 _ rfl
      have p5 := HA.out.cell 5 _ rfl
      have p6 := HA.out.cell 6 _ rfl
      have p7 := HA.out.cell 7 _ rfl
      have q0 := HBB.out.cell 0 _ rfl
      have q1 := HBB.out.cell 1 _ rfl
      have q2 := HBB.out.cell 2 _ rfl
      have q3 := HBB.out.cell 3 _ rfl
      have q4 := HBB.out.cell 4 _ rfl
      have q5 := HBB.out.cell 5 _ rfl
      have q6 := HBB.out.cell 6 _ rfl
      have q7 := HBB.out.cell 7 _ rfl
      go_wp2_with fail
      refine HC.out.mono ?_
      rintro e w5 ⟨rfl, g5⟩
      have GX := Lib.hid (g_trans HG.out g5)
      clear g5 p0 p1 p2 p3 p4 p5 p6 p7 q0 q1 q2 q3 q4 q5 q6 q7
      go_wp2_with fail
      go_roundw
      case rel => exact ⟨j + 1, by go_num, by omega, GX.out⟩
      case measure => simp [intOf]; omega
    · obtain rfl : j = n := by omega
      have hjj : ¬ (j : Int) < j := by omega
      have HG := Lib.hid hg
      clear hg
      go_wp2_with fail
      go_ret
      exact ⟨rfl, HG.out⟩
end Go.Proofs.Ytkkcfielmpjgeaa
