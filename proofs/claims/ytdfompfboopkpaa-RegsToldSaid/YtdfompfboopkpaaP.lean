/- The law RegsTold. -/
import Derived.Test.YtdfompfboopkpaaO
namespace Go.Proofs.Ytdfompfboopkpaa
open Go.RowKit
set_option linter.unusedVariables false
set_option linter.unusedSimpArgs false

set_option maxRecDepth 100000 in
set_option maxHeartbeats 3200000 in
theorem told_law (F : Nat → Int) (k A B C at_ vk vn : Int) (w : World) : Calls Try.prog 6 #[.agg (rgv F), .agg #[.int .i64 k, .int .i64 A, .int .i64 B, .int .i64 C], .int .i64 at_, .agg #[.int .i64 vk, .int .i64 vn]] w fun e w' => e = .returned (.bool true) ∧ Below w.heap.size w w' := by
  have HT := Lib.hid (fun w => told_any F k A B C w)
  have HRT := Lib.hid (fun w => rtold_any F k A B C w)
  have HP := Lib.hid (fun w => put_any F at_ vk vn w)
  have HRP := Lib.hid (fun w => rput_any F at_ vk vn w)
  have hR := rg_rgv F
  have hX := rg_rgv (putF F at_ vk vn)
  have hS := rg_rgv startF
  have hq := Lib.hid (fun w => eqX (putF F at_ vk vn) w)
  have hs := Lib.hid (fun w => eqX startF w)
  have HST := Lib.hid start_any
  have HRST := Lib.hid rstart_any
  generalize rgv (putF F at_ vk vn) = X at *
  generalize rgv startF = S at *
  generalize tK F k A B C = x at *
  generalize tN F k A B C = y at *
  generalize tB k A B C = t at *
  generalize rgv F = R at *
  have e1 : (x == x) = true := by simp
  have e2 : (y == y) = true := by simp
  have e3 : (t == t) = true := by simp
  have b0 : Hid (Blk (((w.alloc (.cells R 25)).alloc (.cells #[.int .i64 k, .int .i64 A, .int .i64 B, .int .i64 C] 28)).alloc (.cells #[.int .i64 vk, .int .i64 vn] 24)) (w.heap.size) R 25) := Lib.hid (by have h := ((Blk.new w R 25).keepn (g_alloc (g_refl (w.alloc (.cells R 25)) none) (.cells #[.int .i64 k, .int .i64 A, .int .i64 B, .int .i64 C] 28))).keepn (g_alloc (g_refl ((w.alloc (.cells R 25)).alloc (.cells #[.int .i64 k, .int .i64 A, .int .i64 B, .int .i64 C] 28)) none) (.cells #[.int .i64 vk, .int .i64 vn] 24)); simpa using h)
  have b1 : Hid (Blk (((w.alloc (.cells R 25)).alloc (.cells #[.int .i64 k, .int .i64 A, .int .i64 B, .int .i64 C] 28)).alloc (.cells #[.int .i64 vk, .int .i64 vn] 24)) (w.heap.size + 1) #[.int .i64 k, .int .i64 A, .int .i64 B, .int .i64 C] 28) := Lib.hid (by have h := (Blk.new (w.alloc (.cells R 25)) #[.int .i64 k, .int .i64 A, .int .i64 B, .int .i64 C] 28).keepn (g_alloc (g_refl ((w.alloc (.cells R 25)).alloc (.cells #[.int .i64 k, .int .i64 A, .int .i64 B, .int .i64 C] 28)) none) (.cells #[.int .i64 vk, .int .i64 vn] 24)); simpa using h)
  have b2 : Hid (Blk (((w.alloc (.cells R 25)).alloc (.cells #[.int .i64 k, .int .i64 A, .int .i64 B, .int .i64 C] 28)).alloc (.cells #[.int .i64 vk, .int .i64 vn] 24)) (w.heap.size + 1 + 1) #[.int .i64 vk, .int .i64 vn] 24) := Lib.hid (by have h := Blk.new ((w.alloc (.cells R 25)).alloc (.cells #[.int .i64 k, .int .i64 A, .int .i64 B, .int .i64 C] 28)) #[.int .i64 vk, .int .i64 vn] 24; simpa using h)
  have bA := g_alloc (g_alloc (g_alloc (g_refl w none) (.cells R 25)) (.cells #[.int .i64 k, .int .i64 A, .int .i64 B, .int .i64 C] 28)) (.cells #[.int .i64 vk, .int .i64 vn] 24)
  go_enter Try.func6, Try.ntmps6
  go_wp2_with (refine load25 rfl _ rfl (w.heap.size) rfl R hR b0.out ?_)
  refine (HT.out _).mono ?_
  rintro e w1 ⟨rfl, g1⟩
  have z1 := g1.size
  simp at z1
  have gS1 := g_alloc (g_refl w1 (some w1.heap.size)) (.cells #[.int .i64 x, .int .i64 y] 24)
  have xb := Blk.new w1 #[.int .i64 x, .int .i64 y] 24
  have f0 := (b0.out.keepn g1).keeps gS1 (by omega)
  have f1 := (b1.out.keepn g1).keeps gS1 (by omega)
  have f2 := (b2.out.keepn g1).keeps gS1 (by omega)
  have G2 := Lib.hid (g_in (g_trans bA g1) gS1 (by omega))
  have X0 := Lib.hid xb
  have F0 := Lib.hid f0
  have F1 := Lib.hid f1
  have F2 := Lib.hid f2
  have z2 := gS1.size
  clear xb f0 f1 f2 gS1
  go_upto_region 2 with fail
  generalize (w1.alloc (.cells #[.int .i64 x, .int .i64 y] 24)) = W2 at *
  have c0 := F1.out.cell 0 (.int .i64 k) rfl
  have c1 := F1.out.cell 1 (.int .i64 A) rfl
  have c2 := F1.out.cell 2 (.int .i64 B) rfl
  have c3 := F1.out.cell 3 (.int .i64 C) rfl
  have z2' := X0.out.lt
  go_wp2_with (refine load25 rfl _ rfl (w.heap.size) rfl R hR F0.out ?_)
  refine (HRT.out _).mono ?_
  rintro e w3 ⟨rfl, g3⟩
  have z3 := g3.size
  have gS3 := g_alloc (g_refl w3 (some w3.heap.size)) (.cells #[.int .i64 x, .int .i64 y] 24)
  have xb := Blk.new w3 #[.int .i64 x, .int .i64 y] 24
  have Y0 := Lib.hid xb
  have E0 := Lib.hid ((F0.out.keepn g3).keeps gS3 (by omega))
  have E2 := Lib.hid ((F2.out.keepn g3).keeps gS3 (by omega))
  have E9 := Lib.hid ((X0.out.keepn g3).keeps gS3 (by omega))
  have G4 := Lib.hid (g_in (g_trans G2.out g3) gS3 (by omega))
  clear xb gS3 c0 c1 c2 c3
  go_upto_region 3 with fail
  generalize (w3.alloc (.cells #[.int .i64 x, .int .i64 y] 24)) = W4 at *
  refine wp_region_held_drew (S := fun W' => W4.grownBy W' none) (by kernel_rfl) (g_drew (g_refl _ _)) (fun hHeld => ?_)
  refine wpAnyH_take (i := 0) (v := .agg #[.int .i64 x, .int .i64 y]) rfl (by kernel_rfl) (by kernel_rfl) (by kernel_rfl) (fun _ _ _ h => h) (Or.inl ⟨by rfl, fun w hw => by have q0 := (E9.out.keepn hw).cell 0 (.int .i64 x) rfl; have q1 := (E9.out.keepn hw).cell 1 (.int .i64 y) rfl; clear hw; go_simp⟩) hHeld ?_
  try simp only [Act.put, List.setIfInBounds_toArray, List.set_cons_zero, List.set_cons_succ, List.getElem_toArray, List.getElem_cons_zero, List.getElem_cons_succ]
  refine wpAnyH_take (i := 1) (v := .agg #[.int .i64 x, .int .i64 y]) rfl (by kernel_rfl) (by kernel_rfl) (by kernel_rfl) (fun _ _ _ h => h) (Or.inl ⟨by rfl, fun w hw => by have q0 := (Y0.out.keepn hw).cell 0 (.int .i64 x) rfl; have q1 := (Y0.out.keepn hw).cell 1 (.int .i64 y) rfl; clear hw; go_simp⟩) hHeld ?_
  try simp only [Act.put, List.setIfInBounds_toArray, List.set_cons_zero, List.set_cons_succ, List.getElem_toArray, List.getElem_cons_zero, List.getElem_cons_succ]
  refine wpAnyH_take (i := 2) (v := .bool true) rfl (by kernel_rfl) (by kernel_rfl) (by kernel_rfl) (fun _ _ _ h => h) (Or.inl ⟨by rfl, fun w hw => by clear hw; go_simp⟩) hHeld ?_
  try simp only [Act.put, List.setIfInBounds_toArray, List.set_cons_zero, List.set_cons_succ, List.getElem_toArray, List.getElem_cons_zero, List.getElem_cons_succ]
  refine wpAnyH_take (i := 3) (v := .bool true) rfl (by kernel_rfl) (by kernel_rfl) (by kernel_rfl) (fun _ _ _ h => h) (Or.inl ⟨by rfl, fun w hw => by clear hw; go_simp⟩) hHeld ?_
  try simp only [Act.put, List.setIfInBounds_toArray, List.set_cons_zero, List.set_cons_succ, List.getElem_toArray, List.getElem_cons_zero, List.getElem_cons_succ]
  refine wpAnyH_take (i := 4) (v := .bool t) rfl (by kernel_rfl) (by kernel_rfl) (by kernel_rfl) (fun _ _ _ h => h) (Or.inl ⟨by rfl, fun w hw => by clear hw; go_simp⟩) hHeld ?_
  try simp only [Act.put, List.setIfInBounds_toArray, List.set_cons_zero, List.set_cons_succ, List.getElem_toArray, List.getElem_cons_zero, List.getElem_cons_succ]
  refine wpAnyH_take (i := 5) (v := .bool t) rfl (by kernel_rfl) (by kernel_rfl) (by kernel_rfl) (fun _ _ _ h => h) (Or.inl ⟨by rfl, fun w hw => by clear hw; go_simp⟩) hHeld ?_
  try simp only [Act.put, List.setIfInBounds_toArray, List.set_cons_zero, List.set_cons_succ, List.getElem_toArray, List.getElem_cons_zero, List.getElem_cons_succ]
  refine wpAnyH_take (i := 6) (v := .bool true) rfl (by kernel_rfl) (by kernel_rfl) (by kernel_rfl) (fun _ _ _ h => h) (Or.inl ⟨by rfl, fun w hw => by clear hw; go_simp⟩) hHeld ?_
  try simp only [Act.put, List.setIfInBounds_toArray, List.set_cons_zero, List.set_cons_succ, List.getElem_toArray, List.getElem_cons_zero, List.getElem_cons_succ]
  refine wpAnyH_take (i := 7) (v := .bool true) rfl (by kernel_rfl) (by kernel_rfl) (by kernel_rfl) (fun _ _ _ h => h) (Or.inl ⟨by rfl, fun w hw => by clear hw; go_simp⟩) hHeld ?_
  try simp only [Act.put, List.setIfInBounds_toArray, List.set_cons_zero, List.set_cons_succ, List.getElem_toArray, List.getElem_cons_zero, List.getElem_cons_succ]
  refine wpAnyH_take (i := 8) (v := .bool true) rfl (by kernel_rfl) (by kernel_rfl) (by kernel_rfl) (fun _ _ _ h => h) (Or.inl ⟨by rfl, fun w hw => by clear hw; go_simp⟩) hHeld ?_
  try simp only [Act.put, List.setIfInBounds_toArray, List.set_cons_zero, List.set_cons_succ, List.getElem_toArray, List.getElem_cons_zero, List.getElem_cons_succ]
  refine wpAnyH_take (i := 9) (v := .agg R.toList.toArray) rfl (by kernel_rfl) (by kernel_rfl) (by kernel_rfl) (fun _ _ _ h => h) (yieldsIf_load_mid (by rfl) 25 _ rfl (w.heap.size) 0 rfl (R).toList _ (fun w hw => (E0.out.keepn hw).range) Try.underlying25 rfl (by rw [info25]; simp [(hR).1])) hHeld ?_
  try simp only [Act.put, List.setIfInBounds_toArray, List.set_cons_zero, List.set_cons_succ, List.getElem_toArray, List.getElem_cons_zero, List.getElem_cons_succ]
  refine wpAnyH_take (i := 10) (v := .int .i64 at_) rfl (by kernel_rfl) (by kernel_rfl) (by kernel_rfl) (fun _ _ _ h => h) (Or.inl ⟨by rfl, fun w hw => by clear hw; go_simp⟩) hHeld ?_
  try simp only [Act.put, List.setIfInBounds_toArray, List.set_cons_zero, List.set_cons_succ, List.getElem_toArray, List.getElem_cons_zero, List.getElem_cons_succ]
  refine wpAnyH_take (i := 11) (v := .agg #[.int .i64 vk, .int .i64 vn]) rfl (by kernel_rfl) (by kernel_rfl) (by kernel_rfl) (fun _ _ _ h => h) (Or.inl ⟨by rfl, fun w hw => by have q0 := (E2.out.keepn hw).cell 0 (.int .i64 vk) rfl; have q1 := (E2.out.keepn hw).cell 1 (.int .i64 vn) rfl; clear hw; go_simp⟩) hHeld ?_
  try simp only [Act.put, List.setIfInBounds_toArray, List.set_cons_zero, List.set_cons_succ, List.getElem_toArray, List.getElem_cons_zero, List.getElem_cons_succ]
  refine wpAnyH_take (i := 13) (v := .agg R.toList.toArray) rfl (by kernel_rfl) (by kernel_rfl) (by kernel_rfl) (fun _ _ _ h => h) (yieldsIf_load_mid (by rfl) 25 _ rfl (w.heap.size) 0 rfl (R).toList _ (fun w hw => (E0.out.keepn hw).range) Try.underlying25 rfl (by rw [info25]; simp [(hR).1])) hHeld ?_
  try simp only [Act.put, List.setIfInBounds_toArray, List.set_cons_zero, List.set_cons_succ, List.getElem_toArray, List.getElem_cons_zero, List.getElem_cons_succ]
  refine wpAnyH_take (i := 14) (v := .int .i64 at_) rfl (by kernel_rfl) (by kernel_rfl) (by kernel_rfl) (fun _ _ _ h => h) (Or.inl ⟨by rfl, fun w hw => by clear hw; go_simp⟩) hHeld ?_
  try simp only [Act.put, List.setIfInBounds_toArray, List.set_cons_zero, List.set_cons_succ, List.getElem_toArray, List.getElem_cons_zero, List.getElem_cons_succ]
  refine wpAnyH_take (i := 15) (v := .agg #[.int .i64 vk, .int .i64 vn]) rfl (by kernel_rfl) (by kernel_rfl) (by kernel_rfl) (fun _ _ _ h => h) (Or.inl ⟨by rfl, fun w hw => by have q0 := (E2.out.keepn hw).cell 0 (.int .i64 vk) rfl; have q1 := (E2.out.keepn hw).cell 1 (.int .i64 vn) rfl; clear hw; go_simp⟩) hHeld ?_
  try simp only [Act.put, List.setIfInBounds_toArray, List.set_cons_zero, List.set_cons_succ, List.getElem_toArray, List.getElem_cons_zero, List.getElem_cons_succ]
  refine wpAnyH_ready (rs := [12]) (by kernel_rfl) (by simp) (AllReadyH.cons rfl (fun K hK => ?_) (AllReadyH.nil))
  · go_simp
    refine Calls.mono (by rw [Array.toArray_toList]; exact HP.out _) ?_
    rintro e wc1 ⟨rfl, gc1⟩
    try go_wp2_with fail
    refine hK.out _ _ (g_trans hHeld gc1) (fun hHeld => ?_)
    clear hK K gc1
    try simp only [Act.put, List.setIfInBounds_toArray, List.set_cons_zero, List.set_cons_succ, List.getElem_toArray, List.getElem_cons_zero, List.getElem_cons_succ]
    refine wpAnyH_ready (rs := [16]) (by kernel_rfl) (by simp) (AllReadyH.cons rfl (fun K hK => ?_) (AllReadyH.nil))
    · go_simp
      refine Calls.mono (by rw [Array.toArray_toList]; exact HRP.out _) ?_
      rintro e wc2 ⟨rfl, gc2⟩
      try go_wp2_with fail
      refine hK.out _ _ (g_trans hHeld gc2) (fun hHeld => ?_)
      clear hK K gc2
      try simp only [Act.put, List.setIfInBounds_toArray, List.set_cons_zero, List.set_cons_succ, List.getElem_toArray, List.getElem_cons_zero, List.getElem_cons_succ]
      refine wpAnyH_take (i := 17) (v := .bool true) rfl (by kernel_rfl) (by kernel_rfl) (by kernel_rfl) (fun _ _ _ h => h) (Or.inl ⟨by rfl, fun w hw => by have hh := hq.out w; clear hw; go_simp⟩) hHeld ?_
      try simp only [Act.put, List.setIfInBounds_toArray, List.set_cons_zero, List.set_cons_succ, List.getElem_toArray, List.getElem_cons_zero, List.getElem_cons_succ]
      refine wpAnyH_take (i := 18) (v := .bool true) rfl (by kernel_rfl) (by kernel_rfl) (by kernel_rfl) (fun _ _ _ h => h) (Or.inl ⟨by rfl, fun w hw => by clear hw; go_simp⟩) hHeld ?_
      try simp only [Act.put, List.setIfInBounds_toArray, List.set_cons_zero, List.set_cons_succ, List.getElem_toArray, List.getElem_cons_zero, List.getElem_cons_succ]
      refine wpAnyH_take (i := 19) (v := .bool true) rfl (by kernel_rfl) (by kernel_rfl) (by kernel_rfl) (fun _ _ _ h => h) (Or.inl ⟨by rfl, fun w hw => by clear hw; go_simp⟩) hHeld ?_
      try simp only [Act.put, List.setIfInBounds_toArray, List.set_cons_zero, List.set_cons_succ, List.getElem_toArray, List.getElem_cons_zero, List.getElem_cons_succ]
      refine wpAnyH_ready (rs := [20]) (by kernel_rfl) (by simp) (AllReadyH.cons rfl (fun K hK => ?_) (AllReadyH.nil))
      · go_simp
        refine Calls.mono (HST.out _) ?_
        rintro e wc3 ⟨rfl, gc3⟩
        try go_wp2_with fail
        refine hK.out _ _ (g_trans hHeld gc3) (fun hHeld => ?_)
        clear hK K gc3
        try simp only [Act.put, List.setIfInBounds_toArray, List.set_cons_zero, List.set_cons_succ, List.getElem_toArray, List.getElem_cons_zero, List.getElem_cons_succ]
        refine wpAnyH_ready (rs := [21]) (by kernel_rfl) (by simp) (AllReadyH.cons rfl (fun K hK => ?_) (AllReadyH.nil))
        · go_simp
          refine Calls.mono (HRST.out _) ?_
          rintro e wc4 ⟨rfl, gc4⟩
          try go_wp2_with fail
          refine hK.out _ _ (g_trans hHeld gc4) (fun hHeld => ?_)
          clear hK K gc4
          try simp only [Act.put, List.setIfInBounds_toArray, List.set_cons_zero, List.set_cons_succ, List.getElem_toArray, List.getElem_cons_zero, List.getElem_cons_succ]
          refine wpAnyH_take (i := 22) (v := .bool true) rfl (by kernel_rfl) (by kernel_rfl) (by kernel_rfl) (fun _ _ _ h => h) (Or.inl ⟨by rfl, fun w hw => by have hh := hs.out w; clear hw; go_simp⟩) hHeld ?_
          try simp only [Act.put, List.setIfInBounds_toArray, List.set_cons_zero, List.set_cons_succ, List.getElem_toArray, List.getElem_cons_zero, List.getElem_cons_succ]
          refine wpAnyH_take (i := 23) (v := .bool true) rfl (by kernel_rfl) (by kernel_rfl) (by kernel_rfl) (fun _ _ _ h => h) (Or.inl ⟨by rfl, fun w hw => by clear hw; go_simp⟩) hHeld ?_
          try simp only [Act.put, List.setIfInBounds_toArray, List.set_cons_zero, List.set_cons_succ, List.getElem_toArray, List.getElem_cons_zero, List.getElem_cons_succ]
          refine wpAnyH_take (i := 24) (v := .bool true) rfl (by kernel_rfl) (by kernel_rfl) (by kernel_rfl) (fun _ _ _ h => h) (Or.inl ⟨by rfl, fun w hw => by clear hw; go_simp⟩) hHeld ?_
          try simp only [Act.put, List.setIfInBounds_toArray, List.set_cons_zero, List.set_cons_succ, List.getElem_toArray, List.getElem_cons_zero, List.getElem_cons_succ]
          refine wpAnyH_ready (rs := [25]) (by kernel_rfl) (by simp) (AllReadyH.cons rfl (fun K hK => ?_) (AllReadyH.nil))
          · go_simp
            refine Calls.mono (awake_any _) ?_
            rintro e wc5 ⟨rfl, gc5⟩
            try go_wp2_with fail
            refine hK.out _ _ (g_trans hHeld gc5) (fun hHeld => ?_)
            clear hK K gc5
            try simp only [Act.put, List.setIfInBounds_toArray, List.set_cons_zero, List.set_cons_succ, List.getElem_toArray, List.getElem_cons_zero, List.getElem_cons_succ]
            refine wpAnyH_take (i := 26) (v := .bool true) rfl (by kernel_rfl) (by kernel_rfl) (by kernel_rfl) (fun _ _ _ h => h) (Or.inl ⟨by rfl, fun w hw => by clear hw; go_simp⟩) hHeld ?_
            try simp only [Act.put, List.setIfInBounds_toArray, List.set_cons_zero, List.set_cons_succ, List.getElem_toArray, List.getElem_cons_zero, List.getElem_cons_succ]
            refine wpAnyH_take (i := 27) (v := .bool true) rfl (by kernel_rfl) (by kernel_rfl) (by kernel_rfl) (fun _ _ _ h => h) (Or.inl ⟨by rfl, fun w hw => by clear hw; go_simp⟩) hHeld ?_
            try simp only [Act.put, List.setIfInBounds_toArray, List.set_cons_zero, List.set_cons_succ, List.getElem_toArray, List.getElem_cons_zero, List.getElem_cons_succ]
            refine wpAnyH_done (by kernel_rfl) ?_ _
            go_wp2_with fail
            go_ret
            exact ⟨rfl, below_gn (Below.refl _ _) (g_trans G4.out hHeld) (Nat.le_refl _)⟩
end Go.Proofs.Ytdfompfboopkpaa
