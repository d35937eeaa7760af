/- The laws of registers: the page's example, what an instruction does, what is told. -/
import Derived.Test.YtdfompfboopkpaaN
import Derived.Test.YtdfompfboopkpaaShapes
import Derived.Deep.DeepCutAuto
import Derived.Deep.CutBlock
namespace Go.Proofs.Ytdfompfboopkpaa
open Go.RowKit
set_option linter.unusedVariables false
set_option linter.unusedSimpArgs false

/-- a made row of registers -/
def ZA : Array Value := #[.int .i64 0, .int .i64 0, .int .i64 0, .int .i64 0, .int .i64 0, .int .i64 0, .int .i64 0, .int .i64 0, .int .i64 0, .int .i64 0, .int .i64 0, .int .i64 0, .int .i64 0, .int .i64 0, .int .i64 0, .int .i64 0]
theorem za : ZA = Z25 := rfl
theorem newZ (w : World) : Blk (w.alloc (.cells #[.int .i64 0, .int .i64 0, .int .i64 0, .int .i64 0, .int .i64 0, .int .i64 0, .int .i64 0, .int .i64 0, .int .i64 0, .int .i64 0, .int .i64 0, .int .i64 0, .int .i64 0, .int .i64 0, .int .i64 0, .int .i64 0] 25)) w.heap.size Z25 25 := Blk.new w Z25 25
theorem g_newZ (w : World) : w.grownBy (w.alloc (.cells #[.int .i64 0, .int .i64 0, .int .i64 0, .int .i64 0, .int .i64 0, .int .i64 0, .int .i64 0, .int .i64 0, .int .i64 0, .int .i64 0, .int .i64 0, .int .i64 0, .int .i64 0, .int .i64 0, .int .i64 0, .int .i64 0] 25)) none := g_alloc (g_refl w none) _
theorem eqX (F : Nat → Int) (w : World) : (Op.equalIn 10000 25 (.agg (rgv F)) (.agg (rgv F))).run Try.prog w = .ok true w := by
  have h := eq25 F F w
  rw [eqR_self] at h
  exact h

def Awake : Prop := ∀ w : World, Calls Try.prog 9 #[] w fun e w' => e = .returned (.bool true) ∧ w.grownBy w' none

set_option maxRecDepth 100000 in
set_option maxHeartbeats 3200000 in
theorem do_law (aw : Awake) (F : Nat → Int) (pc k A B C rk rn : Int) (w : World) : Calls Try.prog 3 #[.agg (rgv F), .int .i64 pc, .agg #[.int .i64 k, .int .i64 A, .int .i64 B, .int .i64 C], .agg #[.int .i64 rk, .int .i64 rn]] w fun e w' => e = .returned (.bool true) ∧ Below w.heap.size w w' := by
  have AW := Lib.hid aw
  have HD := Lib.hid (fun w => do_any F pc k A B C rk rn w)
  have HRD := Lib.hid (fun w => rdo_any F pc k A B C rk rn w)
  have hR := rg_rgv F
  have hX := rg_rgv (doR F pc k A B C rk rn)
  have hq := fun w => eqX (doR F pc k A B C rk rn) w
  generalize rgv (doR F pc k A B C rk rn) = X at *
  generalize doN F pc k A B C = n at *
  generalize doE F pc k A B C = er at *
  generalize rgv F = R at *
  have e1 : (n == n) = true := by simp
  have e2 : (er == er) = true := by simp
  have b0 : Hid (Blk (((w.alloc (.cells R 25)).alloc (.cells #[.int .i64 k, .int .i64 A, .int .i64 B, .int .i64 C] 28)).alloc (.cells #[.int .i64 rk, .int .i64 rn] 24)) (w.heap.size) R 25) := Lib.hid (by have h := ((Blk.new w R 25).keepn (g_alloc (g_refl (w.alloc (.cells R 25)) none) (.cells #[.int .i64 k, .int .i64 A, .int .i64 B, .int .i64 C] 28))).keepn (g_alloc (g_refl ((w.alloc (.cells R 25)).alloc (.cells #[.int .i64 k, .int .i64 A, .int .i64 B, .int .i64 C] 28)) none) (.cells #[.int .i64 rk, .int .i64 rn] 24)); simpa using h)
  have b1 : Hid (Blk (((w.alloc (.cells R 25)).alloc (.cells #[.int .i64 k, .int .i64 A, .int .i64 B, .int .i64 C] 28)).alloc (.cells #[.int .i64 rk, .int .i64 rn] 24)) (w.heap.size + 1) #[.int .i64 k, .int .i64 A, .int .i64 B, .int .i64 C] 28) := Lib.hid (by have h := (Blk.new (w.alloc (.cells R 25)) #[.int .i64 k, .int .i64 A, .int .i64 B, .int .i64 C] 28).keepn (g_alloc (g_refl ((w.alloc (.cells R 25)).alloc (.cells #[.int .i64 k, .int .i64 A, .int .i64 B, .int .i64 C] 28)) none) (.cells #[.int .i64 rk, .int .i64 rn] 24)); simpa using h)
  have b2 : Hid (Blk (((w.alloc (.cells R 25)).alloc (.cells #[.int .i64 k, .int .i64 A, .int .i64 B, .int .i64 C] 28)).alloc (.cells #[.int .i64 rk, .int .i64 rn] 24)) (w.heap.size + 1 + 1) #[.int .i64 rk, .int .i64 rn] 24) := Lib.hid (by have h := Blk.new ((w.alloc (.cells R 25)).alloc (.cells #[.int .i64 k, .int .i64 A, .int .i64 B, .int .i64 C] 28)) #[.int .i64 rk, .int .i64 rn] 24; simpa using h)
  have bA := g_alloc (g_alloc (g_alloc (g_refl w none) (.cells R 25)) (.cells #[.int .i64 k, .int .i64 A, .int .i64 B, .int .i64 C] 28)) (.cells #[.int .i64 rk, .int .i64 rn] 24)
  clear aw
  go_enter Try.func3, Try.ntmps3
  go_wp2_with (refine load25 rfl _ rfl (w.heap.size) rfl R hR b0.out ?_)
  refine (HD.out _).mono ?_
  rintro e w1 ⟨rfl, g1⟩
  have z1 := g1.size
  simp at z1
  have x1 := Lib.hid (newZ w1)
  have d0 := Lib.hid ((b0.out.keepn g1).keepn (g_newZ w1))
  have d1 := Lib.hid ((b1.out.keepn g1).keepn (g_newZ w1))
  have d2 := Lib.hid ((b2.out.keepn g1).keepn (g_newZ w1))
  have gA1 := Lib.hid (g_trans (g_trans bA g1) (g_newZ w1))
  go_wp2_with (first | (refine store25 rfl _ _ rfl w1.heap.size rfl X rfl hX Z25 rfl x1.out ?_; intro w2 hb2 hg2; have HB2 := Lib.hid hb2; have GA2 := Lib.hid (g_in gA1.out hg2 (by omega)); have f0 := Lib.hid (d0.out.keeps hg2 (by omega)); have f1 := d1.out.keeps hg2 (by omega); have f2 := d2.out.keeps hg2 (by omega); have c0 := f1.cell 0 (.int .i64 k) rfl; have c1 := f1.cell 1 (.int .i64 A) rfl; have c2 := f1.cell 2 (.int .i64 B) rfl; have c3 := f1.cell 3 (.int .i64 C) rfl; have c4 := f2.cell 0 (.int .i64 rk) rfl; have c5 := f2.cell 1 (.int .i64 rn) rfl; have z2 := hg2.size; clear hb2 f1 f2) | (refine load25 rfl _ rfl (w.heap.size) rfl R hR f0.out ?_))
  simp at z2
  refine (HRD.out _).mono ?_
  rintro e w3 ⟨rfl, g3⟩
  have z3 := g3.size
  have x3 := Lib.hid (newZ w3)
  have h2 := Lib.hid ((HB2.out.keepn g3).keepn (g_newZ w3))
  have GA3 := Lib.hid (g_trans (g_trans GA2.out g3) (g_newZ w3))
  clear c0 c1 c2 c3 c4 c5
  go_wp2_with (first | (refine store25 rfl _ _ rfl w3.heap.size rfl X rfl hX Z25 rfl x3.out ?_; intro w4 hb4 hg4; have HB4 := Lib.hid hb4; have h4 := Lib.hid (h2.out.keeps hg4 (by omega)); have GA4 := Lib.hid (g_in GA3.out hg4 (by omega)); clear hb4) | (refine load25 rfl _ rfl w1.heap.size rfl X hX h4.out ?_) | (refine load25 rfl _ rfl w3.heap.size rfl X hX HB4.out ?_))
  refine (AW.out _).mono ?_
  rintro e w5 ⟨rfl, g5⟩
  go_wp2_with fail
  go_ret
  exact ⟨rfl, below_gn (Below.refl _ _) (g_trans GA4.out g5) (Nat.le_refl _)⟩

def awF : Nat → Int := putF (putF startF 0 1 5) 1 1 7
def awG : Array Value := #[.int .i64 1, .int .i64 5, .int .i64 1, .int .i64 7, .int .i64 1, .int .i64 (-2), .int .i64 1, .int .i64 0, .int .i64 1, .int .i64 0, .int .i64 1, .int .i64 0, .int .i64 1, .int .i64 0, .int .i64 1, .int .i64 0]
theorem aw_R : rgv (doR awF 3 5 2 0 1 2 0) = awG := by kernel_rfl
theorem aw_N : doN awF 3 5 2 0 1 = 4 := by kernel_rfl
theorem aw_E : doE awF 3 5 2 0 1 = 0 := by kernel_rfl

set_option maxRecDepth 100000 in
set_option maxHeartbeats 3200000 in
theorem awake_any : Awake := by
  intro w
  have h1 := rg_rgv awF
  have h2 := rg_rgv (doR awF 3 5 2 0 1 2 0)
  have HD := Lib.hid (fun w => do_any awF 3 5 2 0 1 2 0 w)
  rw [aw_R, aw_N, aw_E] at HD
  rw [aw_R] at h2
  have HP := Lib.hid (fun w => put_any (putF startF 0 1 5) 1 1 7 w)
  change Hid (∀ w, Calls Try.prog 16 #[.agg (rgv (putF startF 0 1 5)), .int .i64 1, .agg #[.int .i64 1, .int .i64 7]] w fun e w' => e = .returned (.agg (rgv awF)) ∧ w.grownBy w' none) at HP
  generalize rgv awF = R at *
  go_enter Try.func9, Try.ntmps9
  go_wp2_with fail
  refine (start_any _).mono ?_
  rintro e w1 ⟨rfl, g1⟩
  go_wp2_with fail
  refine (rnum_any _ _).mono ?_
  rintro e w2 ⟨rfl, g2⟩
  go_wp2_with fail
  refine (put_any _ _ _ _ _).mono ?_
  rintro e w3 ⟨rfl, g3⟩
  go_wp2_with fail
  refine (rnum_any _ _).mono ?_
  rintro e w4 ⟨rfl, g4⟩
  go_wp2_with fail
  refine (HP.out _).mono ?_
  rintro e w5 ⟨rfl, g5⟩
  have gB := g_trans (g_trans (g_trans (g_trans g1 g2) g3) g4) g5
  have z5 := gB.size
  have gA := Lib.hid (g_trans gB (g_newZ w5))
  have x5 := Lib.hid (newZ w5)
  clear g1 g2 g3 g4 g5 gB
  go_upto_region 2 with (refine store25 rfl _ _ rfl w5.heap.size rfl R rfl h1 Z25 rfl x5.out ?_; intro w6 hb6 hg6)
  have B6 := Lib.hid hb6
  have GA6 := Lib.hid (g_in gA.out hg6 (by omega))
  clear hb6 hg6
  try simp only [Act.put, List.setIfInBounds_toArray, List.set_cons_zero, List.set_cons_succ, List.getElem_toArray, List.getElem_cons_zero, List.getElem_cons_succ]
  go_cut [2, 3, 4] (fun s2 s3 s4 wx => ∃ b : Nat, s2 = .pointer (some ⟨b, 0, none⟩) ∧ s3 = .int .i64 4 ∧ s4 = .int .i64 0 ∧ w6.grownBy wx none ∧ Blk wx b awG 25)
  case first =>
    refine wp_region_held_drew (S := fun W' => w6.grownBy W' none) (by kernel_rfl) (g_drew (g_refl _ _)) (fun hHeld => ?_)
    refine wpAnyH_take (i := 0) (v := .agg R.toList.toArray) rfl (by kernel_rfl) (by kernel_rfl) (by kernel_rfl) (fun _ _ _ h => h) (yieldsIf_load_mid (by rfl) 25 _ rfl (w5.heap.size) 0 rfl (R).toList _ (fun w hw => (B6.out.keepn hw).range) Try.underlying25 rfl (by rw [info25]; simp [(h1).1])) hHeld ?_
    try simp only [Act.put, List.setIfInBounds_toArray, List.set_cons_zero, List.set_cons_succ, List.getElem_toArray, List.getElem_cons_zero, List.getElem_cons_succ]
    refine wpAnyH_take (i := 1) (v := .agg #[.int .i64 5, .int .i64 2, .int .i64 0, .int .i64 1]) rfl (by kernel_rfl) (by kernel_rfl) (by kernel_rfl) (fun _ _ _ h => h) (Or.inl ⟨by rfl, fun w hw => by clear hw; go_simp⟩) hHeld ?_
    try simp only [Act.put, List.setIfInBounds_toArray, List.set_cons_zero, List.set_cons_succ, List.getElem_toArray, List.getElem_cons_zero, List.getElem_cons_succ]
    refine wpAnyH_ready (rs := [2, 8]) (by kernel_rfl) (by simp) (AllReadyH.cons rfl (fun K hK => ?_) (AllReadyH.cons rfl (fun K hK => ?_) (AllReadyH.nil)))
    · go_simp
      refine Calls.mono (rnil_any _) ?_
      rintro e wc1 ⟨rfl, gc1⟩
      try go_wp2_with fail
      refine hK.out _ _ (g_trans hHeld gc1) (fun hHeld => ?_)
      clear hK K gc1
      try simp only [Act.put, List.setIfInBounds_toArray, List.set_cons_zero, List.set_cons_succ, List.getElem_toArray, List.getElem_cons_zero, List.getElem_cons_succ]
      refine wpAnyH_ready (rs := [3, 8]) (by kernel_rfl) (by simp) (AllReadyH.cons rfl (fun K hK => ?_) (AllReadyH.cons rfl (fun K hK => ?_) (AllReadyH.nil)))
      · go_simp
        refine Calls.mono (HD.out _) ?_
        rintro e wc2 ⟨rfl, gc2⟩
        try go_wp2_with fail
        refine hK.out _ _ (g_trans hHeld gc2) (fun hHeld => ?_)
        clear hK K gc2
        try simp only [Act.put, List.setIfInBounds_toArray, List.set_cons_zero, List.set_cons_succ, List.getElem_toArray, List.getElem_cons_zero, List.getElem_cons_succ]
        refine wpAnyH_take (i := 4) (v := .tuple #[.agg awG, .int .i64 4, .int .i64 0]) rfl (by kernel_rfl) (by kernel_rfl) (by kernel_rfl) (fun _ _ _ h => h) (Or.inl ⟨by rfl, fun w hw => by clear hw; go_simp⟩) hHeld ?_
        try simp only [Act.put, List.setIfInBounds_toArray, List.set_cons_zero, List.set_cons_succ, List.getElem_toArray, List.getElem_cons_zero, List.getElem_cons_succ]
        refine wpAnyH_take (i := 5) (v := .agg awG) rfl (by kernel_rfl) (by kernel_rfl) (by kernel_rfl) (fun _ _ _ h => h) (Or.inl ⟨by rfl, fun w hw => by clear hw; go_simp⟩) hHeld ?_
        try simp only [Act.put, List.setIfInBounds_toArray, List.set_cons_zero, List.set_cons_succ, List.getElem_toArray, List.getElem_cons_zero, List.getElem_cons_succ]
        refine wpAnyH_take (i := 6) (v := .int .i64 4) rfl (by kernel_rfl) (by kernel_rfl) (by kernel_rfl) (fun _ _ _ h => h) (Or.inl ⟨by rfl, fun w hw => by clear hw; go_simp⟩) hHeld ?_
        try simp only [Act.put, List.setIfInBounds_toArray, List.set_cons_zero, List.set_cons_succ, List.getElem_toArray, List.getElem_cons_zero, List.getElem_cons_succ]
        refine wpAnyH_take (i := 7) (v := .int .i64 0) rfl (by kernel_rfl) (by kernel_rfl) (by kernel_rfl) (fun _ _ _ h => h) (Or.inl ⟨by rfl, fun w hw => by clear hw; go_simp⟩) hHeld ?_
        try simp only [Act.put, List.setIfInBounds_toArray, List.set_cons_zero, List.set_cons_succ, List.getElem_toArray, List.getElem_cons_zero, List.getElem_cons_succ]
        refine wpAnyH_ready (rs := [8]) (by kernel_rfl) (by simp) (AllReadyH.cons rfl (fun K hK => ?_) AllReadyH.nil)
        · go_simp
          have HZ := Lib.hid hHeld.size
          have BZ := Lib.hid (newZ wc2)
          have gm := g_trans hHeld (g_newZ wc2)
          refine hK.out _ _ gm (fun hHeld => ?_)
          clear hK K gm
          try simp only [Act.put, List.setIfInBounds_toArray, List.set_cons_zero, List.set_cons_succ, List.getElem_toArray, List.getElem_cons_zero, List.getElem_cons_succ]
          refine wpAnyH_ready (rs := [9]) (by kernel_rfl) (by simp) (AllReadyH.cons rfl (fun K hK => ?_) AllReadyH.nil)
          rw [if_pos (by rfl)]
          refine wp_store_mid 25 _ _ rfl _ 0 awG rfl rfl (by (have h := BZ.out.there); (have e : (awG).size = Z25.size := by (rw [h2.1]; rfl)); rw [e]; exact h) (by rw [info25, h2.1]) h2.2 ?_
          have gS := g_in hHeld (g_setAll _ awG.toList 0 _ _ (g_refl (wc2.alloc (.cells #[.int .i64 0, .int .i64 0, .int .i64 0, .int .i64 0, .int .i64 0, .int .i64 0, .int .i64 0, .int .i64 0, .int .i64 0, .int .i64 0, .int .i64 0, .int .i64 0, .int .i64 0, .int .i64 0, .int .i64 0, .int .i64 0] 25)) _)) HZ.out
          have BX := Lib.hid (BZ.out.setAll awG (by rw [h2.1]; rfl))
          refine hK.out _ _ gS (fun hHeld => ?_)
          clear hK K
          try simp only [Act.put, List.setIfInBounds_toArray, List.set_cons_zero, List.set_cons_succ, List.getElem_toArray, List.getElem_cons_zero, List.getElem_cons_succ]
          refine wpAnyH_take (i := 10) (v := .int .i64 4) rfl (by kernel_rfl) (by kernel_rfl) (by kernel_rfl) (fun _ _ _ h => h) (Or.inl ⟨by rfl, fun w hw => by clear hw; go_simp⟩) hHeld ?_
          try simp only [Act.put, List.setIfInBounds_toArray, List.set_cons_zero, List.set_cons_succ, List.getElem_toArray, List.getElem_cons_zero, List.getElem_cons_succ]
          refine wpAnyH_take (i := 11) (v := .int .i64 0) rfl (by kernel_rfl) (by kernel_rfl) (by kernel_rfl) (fun _ _ _ h => h) (Or.inl ⟨by rfl, fun w hw => by clear hw; go_simp⟩) hHeld ?_
          try simp only [Act.put, List.setIfInBounds_toArray, List.set_cons_zero, List.set_cons_succ, List.getElem_toArray, List.getElem_cons_zero, List.getElem_cons_succ]
          refine wpAnyH_done (by kernel_rfl) ?_ _
          go_wp2_with fail
          go_meet
          exact ⟨_, rfl, rfl, rfl, hHeld, BX.out⟩
      · go_simp
        have HZ := Lib.hid hHeld.size
        have BZ := Lib.hid (newZ wc1)
        have gm := g_trans hHeld (g_newZ wc1)
        refine hK.out _ _ gm (fun hHeld => ?_)
        clear hK K gm
        try simp only [Act.put, List.setIfInBounds_toArray, List.set_cons_zero, List.set_cons_succ, List.getElem_toArray, List.getElem_cons_zero, List.getElem_cons_succ]
        refine wpAnyH_ready (rs := [3]) (by kernel_rfl) (by simp) (AllReadyH.cons rfl (fun K hK => ?_) (AllReadyH.nil))
        · go_simp
          refine Calls.mono (HD.out _) ?_
          rintro e wc3 ⟨rfl, gc3⟩
          try go_wp2_with fail
          have BZ := Lib.hid (BZ.out.keepn gc3)
          refine hK.out _ _ (g_trans hHeld gc3) (fun hHeld => ?_)
          clear hK K gc3
          try simp only [Act.put, List.setIfInBounds_toArray, List.set_cons_zero, List.set_cons_succ, List.getElem_toArray, List.getElem_cons_zero, List.getElem_cons_succ]
          refine wpAnyH_take (i := 4) (v := .tuple #[.agg awG, .int .i64 4, .int .i64 0]) rfl (by kernel_rfl) (by kernel_rfl) (by kernel_rfl) (fun _ _ _ h => h) (Or.inl ⟨by rfl, fun w hw => by clear hw; go_simp⟩) hHeld ?_
          try simp only [Act.put, List.setIfInBounds_toArray, List.set_cons_zero, List.set_cons_succ, List.getElem_toArray, List.getElem_cons_zero, List.getElem_cons_succ]
          refine wpAnyH_take (i := 5) (v := .agg awG) rfl (by kernel_rfl) (by kernel_rfl) (by kernel_rfl) (fun _ _ _ h => h) (Or.inl ⟨by rfl, fun w hw => by clear hw; go_simp⟩) hHeld ?_
          try simp only [Act.put, List.setIfInBounds_toArray, List.set_cons_zero, List.set_cons_succ, List.getElem_toArray, List.getElem_cons_zero, List.getElem_cons_succ]
          refine wpAnyH_take (i := 6) (v := .int .i64 4) rfl (by kernel_rfl) (by kernel_rfl) (by kernel_rfl) (fun _ _ _ h => h) (Or.inl ⟨by rfl, fun w hw => by clear hw; go_simp⟩) hHeld ?_
          try simp only [Act.put, List.setIfInBounds_toArray, List.set_cons_zero, List.set_cons_succ, List.getElem_toArray, List.getElem_cons_zero, List.getElem_cons_succ]
          refine wpAnyH_take (i := 7) (v := .int .i64 0) rfl (by kernel_rfl) (by kernel_rfl) (by kernel_rfl) (fun _ _ _ h => h) (Or.inl ⟨by rfl, fun w hw => by clear hw; go_simp⟩) hHeld ?_
          try simp only [Act.put, List.setIfInBounds_toArray, List.set_cons_zero, List.set_cons_succ, List.getElem_toArray, List.getElem_cons_zero, List.getElem_cons_succ]
          refine wpAnyH_ready (rs := [9]) (by kernel_rfl) (by simp) (AllReadyH.cons rfl (fun K hK => ?_) AllReadyH.nil)
          rw [if_pos (by rfl)]
          refine wp_store_mid 25 _ _ rfl _ 0 awG rfl rfl (by (have h := BZ.out.there); (have e : (awG).size = Z25.size := by (rw [h2.1]; rfl)); rw [e]; exact h) (by rw [info25, h2.1]) h2.2 ?_
          have gS := g_in hHeld (g_setAll _ awG.toList 0 _ _ (g_refl wc3 _)) HZ.out
          have BX := Lib.hid (BZ.out.setAll awG (by rw [h2.1]; rfl))
          refine hK.out _ _ gS (fun hHeld => ?_)
          clear hK K
          try simp only [Act.put, List.setIfInBounds_toArray, List.set_cons_zero, List.set_cons_succ, List.getElem_toArray, List.getElem_cons_zero, List.getElem_cons_succ]
          refine wpAnyH_take (i := 10) (v := .int .i64 4) rfl (by kernel_rfl) (by kernel_rfl) (by kernel_rfl) (fun _ _ _ h => h) (Or.inl ⟨by rfl, fun w hw => by clear hw; go_simp⟩) hHeld ?_
          try simp only [Act.put, List.setIfInBounds_toArray, List.set_cons_zero, List.set_cons_succ, List.getElem_toArray, List.getElem_cons_zero, List.getElem_cons_succ]
          refine wpAnyH_take (i := 11) (v := .int .i64 0) rfl (by kernel_rfl) (by kernel_rfl) (by kernel_rfl) (fun _ _ _ h => h) (Or.inl ⟨by rfl, fun w hw => by clear hw; go_simp⟩) hHeld ?_
          try simp only [Act.put, List.setIfInBounds_toArray, List.set_cons_zero, List.set_cons_succ, List.getElem_toArray, List.getElem_cons_zero, List.getElem_cons_succ]
          refine wpAnyH_done (by kernel_rfl) ?_ _
          go_wp2_with fail
          go_meet
          exact ⟨_, rfl, rfl, rfl, hHeld, BX.out⟩
    · go_simp
      have HZ := Lib.hid hHeld.size
      have BZ := Lib.hid (newZ w6.drew)
      have gm := g_trans hHeld (g_newZ w6.drew)
      refine hK.out _ _ gm (fun hHeld => ?_)
      clear hK K gm
      try simp only [Act.put, List.setIfInBounds_toArray, List.set_cons_zero, List.set_cons_succ, List.getElem_toArray, List.getElem_cons_zero, List.getElem_cons_succ]
      refine wpAnyH_ready (rs := [2]) (by kernel_rfl) (by simp) (AllReadyH.cons rfl (fun K hK => ?_) (AllReadyH.nil))
      · go_simp
        refine Calls.mono (rnil_any _) ?_
        rintro e wc4 ⟨rfl, gc4⟩
        try go_wp2_with fail
        have BZ := Lib.hid (BZ.out.keepn gc4)
        refine hK.out _ _ (g_trans hHeld gc4) (fun hHeld => ?_)
        clear hK K gc4
        try simp only [Act.put, List.setIfInBounds_toArray, List.set_cons_zero, List.set_cons_succ, List.getElem_toArray, List.getElem_cons_zero, List.getElem_cons_succ]
        refine wpAnyH_ready (rs := [3]) (by kernel_rfl) (by simp) (AllReadyH.cons rfl (fun K hK => ?_) (AllReadyH.nil))
        · go_simp
          refine Calls.mono (HD.out _) ?_
          rintro e wc5 ⟨rfl, gc5⟩
          try go_wp2_with fail
          have BZ := Lib.hid (BZ.out.keepn gc5)
          refine hK.out _ _ (g_trans hHeld gc5) (fun hHeld => ?_)
          clear hK K gc5
          try simp only [Act.put, List.setIfInBounds_toArray, List.set_cons_zero, List.set_cons_succ, List.getElem_toArray, List.getElem_cons_zero, List.getElem_cons_succ]
          refine wpAnyH_take (i := 4) (v := .tuple #[.agg awG, .int .i64 4, .int .i64 0]) rfl (by kernel_rfl) (by kernel_rfl) (by kernel_rfl) (fun _ _ _ h => h) (Or.inl ⟨by rfl, fun w hw => by clear hw; go_simp⟩) hHeld ?_
          try simp only [Act.put, List.setIfInBounds_toArray, List.set_cons_zero, List.set_cons_succ, List.getElem_toArray, List.getElem_cons_zero, List.getElem_cons_succ]
          refine wpAnyH_take (i := 5) (v := .agg awG) rfl (by kernel_rfl) (by kernel_rfl) (by kernel_rfl) (fun _ _ _ h => h) (Or.inl ⟨by rfl, fun w hw => by clear hw; go_simp⟩) hHeld ?_
          try simp only [Act.put, List.setIfInBounds_toArray, List.set_cons_zero, List.set_cons_succ, List.getElem_toArray, List.getElem_cons_zero, List.getElem_cons_succ]
          refine wpAnyH_take (i := 6) (v := .int .i64 4) rfl (by kernel_rfl) (by kernel_rfl) (by kernel_rfl) (fun _ _ _ h => h) (Or.inl ⟨by rfl, fun w hw => by clear hw; go_simp⟩) hHeld ?_
          try simp only [Act.put, List.setIfInBounds_toArray, List.set_cons_zero, List.set_cons_succ, List.getElem_toArray, List.getElem_cons_zero, List.getElem_cons_succ]
          refine wpAnyH_take (i := 7) (v := .int .i64 0) rfl (by kernel_rfl) (by kernel_rfl) (by kernel_rfl) (fun _ _ _ h => h) (Or.inl ⟨by rfl, fun w hw => by clear hw; go_simp⟩) hHeld ?_
          try simp only [Act.put, List.setIfInBounds_toArray, List.set_cons_zero, List.set_cons_succ, List.getElem_toArray, List.getElem_cons_zero, List.getElem_cons_succ]
          refine wpAnyH_ready (rs := [9]) (by kernel_rfl) (by simp) (AllReadyH.cons rfl (fun K hK => ?_) AllReadyH.nil)
          rw [if_pos (by rfl)]
          refine wp_store_mid 25 _ _ rfl _ 0 awG rfl rfl (by (have h := BZ.out.there); (have e : (awG).size = Z25.size := by (rw [h2.1]; rfl)); rw [e]; exact h) (by rw [info25, h2.1]) h2.2 ?_
          have gS := g_in hHeld (g_setAll _ awG.toList 0 _ _ (g_refl wc5 _)) HZ.out
          have BX := Lib.hid (BZ.out.setAll awG (by rw [h2.1]; rfl))
          refine hK.out _ _ gS (fun hHeld => ?_)
          clear hK K
          try simp only [Act.put, List.setIfInBounds_toArray, List.set_cons_zero, List.set_cons_succ, List.getElem_toArray, List.getElem_cons_zero, List.getElem_cons_succ]
          refine wpAnyH_take (i := 10) (v := .int .i64 4) rfl (by kernel_rfl) (by kernel_rfl) (by kernel_rfl) (fun _ _ _ h => h) (Or.inl ⟨by rfl, fun w hw => by clear hw; go_simp⟩) hHeld ?_
          try simp only [Act.put, List.setIfInBounds_toArray, List.set_cons_zero, List.set_cons_succ, List.getElem_toArray, List.getElem_cons_zero, List.getElem_cons_succ]
          refine wpAnyH_take (i := 11) (v := .int .i64 0) rfl (by kernel_rfl) (by kernel_rfl) (by kernel_rfl) (fun _ _ _ h => h) (Or.inl ⟨by rfl, fun w hw => by clear hw; go_simp⟩) hHeld ?_
          try simp only [Act.put, List.setIfInBounds_toArray, List.set_cons_zero, List.set_cons_succ, List.getElem_toArray, List.getElem_cons_zero, List.getElem_cons_succ]
          refine wpAnyH_done (by kernel_rfl) ?_ _
          go_wp2_with fail
          go_meet
          exact ⟨_, rfl, rfl, rfl, hHeld, BX.out⟩
  case rest =>
    obtain ⟨b, rfl, rfl, rfl, g7, hb7⟩ := hcut
    have c0 := hb7.cell 0 (.int .i64 1) rfl
    have c1 := hb7.cell 1 (.int .i64 5) rfl
    have c4 := hb7.cell 4 (.int .i64 1) rfl
    have c5 := hb7.cell 5 (.int .i64 (-2)) rfl
    clear hb7
    have GA7 := Lib.hid (g_trans GA6.out g7)
    clear g7
    have l0 := fun X : GW wc => X.cell c0
    have l1 := fun X : GW wc => X.cell c1
    have l4 := fun X : GW wc => X.cell c4
    have l5 := fun X : GW wc => X.cell c5
    trace_state
    go_wp2_with fail
    trace_state
    refine wp_region_gw (by kernel_rfl) (by kernel_rfl) ?_
    repeat (go_big_quiet_step (first | (go_at_call 26; exact quiet_g (rnum_any _ _))))
    refine wpQuiet_nil ?_
    intro _ hw'
    obtain ⟨X9, hw''⟩ := hw'
    subst hw''
    have hg9 := X9.g
    clear l0 l1 l4 l5
    generalize X9.w = w9 at *
    go_wp2_with fail
    go_ret
    exact ⟨rfl, g_trans GA7.out hg9⟩
end Go.Proofs.Ytdfompfboopkpaa
