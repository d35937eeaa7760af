/- The law RegsRuns. -/
import Derived.Test.YtdfompfboopkpaaO
namespace Go.Proofs.Ytdfompfboopkpaa
open Go.RowKit
set_option linter.unusedVariables false
set_option linter.unusedSimpArgs false

theorem doN_pos {F : Nat → Int} {pc k A B C : Int} (h : doE F pc k A B C = 0) (hp : 0 ≤ pc) : 0 ≤ doN F pc k A B C := by
  unfold doN
  rw [if_pos h]
  unfold doE at h
  split at h
  · rename_i hh
    simp only [Bool.and_eq_true] at hh
    rcases ok_kind hh.1 hh.2 with ⟨n, rfl, hm, ha, hb, hc⟩ | ⟨rfl, ha⟩ | ⟨rfl, ha, hb⟩ | ⟨rfl, ha⟩
    · unfold mkK at hm
      rw [if_neg (by omega), if_neg (by omega)]; omega
    · rw [if_pos rfl]; omega
    · rw [if_neg (by omega)]; split <;> omega
    · rw [if_neg (by omega), if_neg (by omega)]; omega
  · omega

set_option maxRecDepth 100000 in
set_option maxHeartbeats 6400000 in
theorem runs_law (a0 : Option Addr) (a0n a0c : Nat) (rk rn : Int) (w : World) (w0 : Vec w a0 a0n a0c 4 (Q27)) :
    Calls Try.prog 5 #[.slice a0 a0n a0c, .agg #[.int .i64 rk, .int .i64 rn]] w fun e w' => e = .returned (.bool true) ∧ Below w.heap.size w w' := by
  have hS := rg_rgv startF
  have g0 := g_alloc (g_refl w none) (.cells #[.int .i64 rk, .int .i64 rn] 24)
  have b3 := Blk.new w #[.int .i64 rk, .int .i64 rn] 24
  have HV := Lib.hid w0
  have hnc := w0.1
  have hcm := w0.2.1
  unfold maxLen at hcm
  clear w0
  have HST := Lib.hid start_any
  have HRST := Lib.hid rstart_any
  obtain ⟨SF, hSF⟩ : ∃ SF, startF = SF := ⟨_, rfl⟩
  rw [hSF] at hS HST HRST
  clear hSF
  obtain ⟨S, hSe⟩ : ∃ S, rgv SF = S := ⟨_, rfl⟩
  rw [hSe] at hS HST HRST
  have HSE := Lib.hid hSe
  clear hSe
  have B3 := Lib.hid b3
  have G0 := Lib.hid g0
  clear b3 g0
  go_enter Try.func5, Try.ntmps5
  go_wp2_with fail
  refine (HST.out _).mono ?_
  rintro e w1 ⟨rfl, g1⟩
  go_wp2_with fail
  refine (HRST.out _).mono ?_
  rintro e w2 ⟨rfl, g2⟩
  have gz := g_trans (g_trans G0.out g1) g2
  have z2 := gz.size
  have B3' := Lib.hid ((B3.out.keepn g1).keepn g2)
  have z3 := B3'.out.lt
  have gA := Lib.hid (g_trans (g_trans gz (g_newZ w2)) (g_newZ (w2.alloc (.cells #[.int .i64 0, .int .i64 0, .int .i64 0, .int .i64 0, .int .i64 0, .int .i64 0, .int .i64 0, .int .i64 0, .int .i64 0, .int .i64 0, .int .i64 0, .int .i64 0, .int .i64 0, .int .i64 0, .int .i64 0, .int .i64 0] 25))))
  have x5 := Lib.hid ((newZ w2).keepn (g_newZ (w2.alloc (.cells #[.int .i64 0, .int .i64 0, .int .i64 0, .int .i64 0, .int .i64 0, .int .i64 0, .int .i64 0, .int .i64 0, .int .i64 0, .int .i64 0, .int .i64 0, .int .i64 0, .int .i64 0, .int .i64 0, .int .i64 0, .int .i64 0] 25))))
  have x6 : Hid (Blk ((w2.alloc (.cells #[.int .i64 0, .int .i64 0, .int .i64 0, .int .i64 0, .int .i64 0, .int .i64 0, .int .i64 0, .int .i64 0, .int .i64 0, .int .i64 0, .int .i64 0, .int .i64 0, .int .i64 0, .int .i64 0, .int .i64 0, .int .i64 0] 25)).alloc (.cells #[.int .i64 0, .int .i64 0, .int .i64 0, .int .i64 0, .int .i64 0, .int .i64 0, .int .i64 0, .int .i64 0, .int .i64 0, .int .i64 0, .int .i64 0, .int .i64 0, .int .i64 0, .int .i64 0, .int .i64 0, .int .i64 0] 25)) (w2.heap.size + 1) Z25 25) := Lib.hid (by have h := newZ (w2.alloc (.cells #[.int .i64 0, .int .i64 0, .int .i64 0, .int .i64 0, .int .i64 0, .int .i64 0, .int .i64 0, .int .i64 0, .int .i64 0, .int .i64 0, .int .i64 0, .int .i64 0, .int .i64 0, .int .i64 0, .int .i64 0, .int .i64 0] 25)); simpa using h)
  have y3 := Lib.hid ((B3'.out.keepn (g_newZ w2)).keepn (g_newZ (w2.alloc (.cells #[.int .i64 0, .int .i64 0, .int .i64 0, .int .i64 0, .int .i64 0, .int .i64 0, .int .i64 0, .int .i64 0, .int .i64 0, .int .i64 0, .int .i64 0, .int .i64 0, .int .i64 0, .int .i64 0, .int .i64 0, .int .i64 0] 25))))
  clear g1 g2 gz
  go_wp2_with (first | (refine store25 rfl _ _ rfl w2.heap.size rfl S rfl hS Z25 rfl x5.out ?_; intro w3 hb3 hg3; have u5 := Lib.hid hb3; have u6 := Lib.hid (x6.out.keeps hg3 (by omega)); have u3 := Lib.hid (y3.out.keeps hg3 (by omega)); have GA3 := Lib.hid (g_in gA.out hg3 (by omega)); clear hb3 hg3) | (refine store25 rfl _ _ rfl (w2.heap.size + 1) rfl S rfl hS Z25 rfl u6.out ?_; intro w4 hb4 hg4; have v6 := Lib.hid hb4; have v5 := Lib.hid (u5.out.keeps hg4 (by omega)); have v3 := Lib.hid (u3.out.keeps hg4 (by omega)); have GA4 := Lib.hid (g_in GA3.out hg4 (by omega)); clear hb4 hg4))
  have BW := Lib.hid (below_gn (Below.refl w.heap.size w) GA4.out (Nat.le_refl _))
  clear x5 x6 y3 u5 u6 u3 GA3 gA B3' B3 G0 HST HRST
  generalize w2.heap.size = b5 at *
  go_loopw [7, 8] (fun pc k wr => ∃ (p kk : Nat) (F : Nat → Int), pc = .int .i64 p ∧ k = .int .i64 kk ∧ kk ≤ 60 ∧ Blk wr b5 (rgv F) 25 ∧ Blk wr (b5 + 1) (rgv F) 25 ∧ Tr (fun i => i = b5 ∨ i = b5 + 1) w4 wr) (fun _ k _ => (61 - intOf k).toNat)
  case atStart => exact ⟨0, 0, SF, rfl, rfl, by omega, by rw [HSE.out]; exact v5.out, by rw [HSE.out]; exact v6.out, tr_refl _ _⟩
  case round =>
    obtain ⟨p, kk, F, rfl, rfl, hk60, hr5, hr6, htr⟩ := hrel
    have BWR := Lib.hid (Tr.below BW.out htr GA4.out.size (fun i hi => by omega))
    have R5 := Lib.hid hr5
    have R6 := Lib.hid hr6
    have R3 := Lib.hid (htr.blk v3.out (by omega))
    have TR := Lib.hid htr
    have zr : b5 + 1 < wr.heap.size := hr6.lt
    have hR := rg_rgv F
    clear hr5 hr6 htr
    by_cases h1 : kk < 60
    · have h1i : (kk : Int) < 60 := by omega
      by_cases h2 : p < a0n
      · have h2i : (p : Int) < a0n := by omega
        by_cases h3 : p < 100
        · have h3i : (p : Int) < 100 := by omega
          obtain ⟨b, off, cs, rfl, hlen, ⟨k0, A, B, C, rfl, _, _, _, _⟩, hcell⟩ := HV.out.2.2 p h2
          have hc := vec_cell BWR.out hcell
          have c0 : wr.cell? ⟨b, off + p * 4, none⟩ = some (.int .i64 k0) := hc 0 _ rfl
          have c1 : wr.cell? ⟨b, off + p * 4 + 1, none⟩ = some (.int .i64 A) := hc 1 _ rfl
          have c2 : wr.cell? ⟨b, off + p * 4 + 2, none⟩ = some (.int .i64 B) := hc 2 _ rfl
          have c3 : wr.cell? ⟨b, off + p * 4 + 3, none⟩ = some (.int .i64 C) := hc 3 _ rfl
          clear hc hcell hlen HV
          have HD := Lib.hid (fun w => do_any F p k0 A B C rk rn w)
          have HRD := Lib.hid (fun w => rdo_any F p k0 A B C rk rn w)
          have hX := rg_rgv (doR F p k0 A B C rk rn)
          have hq := Lib.hid (fun w => eqX (doR F p k0 A B C rk rn) w)
          have HN := Lib.hid (fun h => doN_pos (F := F) (pc := p) (k := k0) (A := A) (B := B) (C := C) h (by omega))
          obtain ⟨G, hG⟩ : ∃ G, doR F p k0 A B C rk rn = G := ⟨_, rfl⟩
          rw [hG] at HD HRD hX hq
          clear hG
          generalize doN F p k0 A B C = n at *
          generalize doE F p k0 A B C = er at *
          obtain ⟨X, hX2⟩ : ∃ X, rgv G = X := ⟨_, rfl⟩
          rw [hX2] at HD HRD hX hq
          have HXE := Lib.hid hX2
          clear hX2
          obtain ⟨R, hR2⟩ : ∃ R, rgv F = R := ⟨_, rfl⟩
          rw [hR2] at HD HRD hR R5 R6
          clear hR2
          have e1 : (n != n) = false := by simp
          have e2 : (er != er) = false := by simp
          have HC := Lib.hid (And.intro c0 (And.intro c1 (And.intro c2 c3)))
          clear c0 c1 c2 c3
          go_upto_region 6 with fail
          go_cut [9, 10, 11] (fun s9 s10 s11 wx => ∃ b9 : Nat, s9 = .pointer (some ⟨b9, 0, none⟩) ∧ s10 = .int .i64 n ∧ s11 = .int .i64 er ∧ wr.grownBy wx none ∧ Blk wx b9 X 25 ∧ wr.heap.size ≤ b9)
          case first =>
            refine wp_region_held_drew (S := fun W' => wr.grownBy W' none) (by kernel_rfl) (g_drew (g_refl _ _)) (fun hHeld => ?_)
            refine wpAnyH_take (i := 0) (v := .agg R.toList.toArray) rfl (by kernel_rfl) (by kernel_rfl) (by kernel_rfl) (fun _ _ _ h => h) (yieldsIf_load_mid (by rfl) 25 _ rfl (b5) 0 rfl (R).toList _ (fun w hw => (R5.out.keepn hw).range) Try.underlying25 rfl (by rw [info25]; simp [(hR).1])) hHeld ?_
            try simp only [Act.put, List.setIfInBounds_toArray, List.set_cons_zero, List.set_cons_succ, List.getElem_toArray, List.getElem_cons_zero, List.getElem_cons_succ]
            refine wpAnyH_take (i := 1) (v := .int .i64 p) rfl (by kernel_rfl) (by kernel_rfl) (by kernel_rfl) (fun _ _ _ h => h) (Or.inl ⟨by rfl, fun w hw => by clear hw; go_simp⟩) hHeld ?_
            try simp only [Act.put, List.setIfInBounds_toArray, List.set_cons_zero, List.set_cons_succ, List.getElem_toArray, List.getElem_cons_zero, List.getElem_cons_succ]
            refine wpAnyH_take (i := 2) (v := .slice (some ⟨b, off, none⟩) a0n a0c) rfl (by kernel_rfl) (by kernel_rfl) (by kernel_rfl) (fun _ _ _ h => h) (Or.inl ⟨by rfl, fun w hw => by clear hw; go_simp⟩) hHeld ?_
            try simp only [Act.put, List.setIfInBounds_toArray, List.set_cons_zero, List.set_cons_succ, List.getElem_toArray, List.getElem_cons_zero, List.getElem_cons_succ]
            refine wpAnyH_take (i := 3) (v := .int .i64 p) rfl (by kernel_rfl) (by kernel_rfl) (by kernel_rfl) (fun _ _ _ h => h) (Or.inl ⟨by rfl, fun w hw => by clear hw; go_simp⟩) hHeld ?_
            try simp only [Act.put, List.setIfInBounds_toArray, List.set_cons_zero, List.set_cons_succ, List.getElem_toArray, List.getElem_cons_zero, List.getElem_cons_succ]
            refine wpAnyH_take (i := 4) (v := .pointer (some ⟨b, off + p * 4, none⟩)) rfl (by kernel_rfl) (by kernel_rfl) (by kernel_rfl) (fun _ _ _ h => h) (Or.inl ⟨by rfl, fun w hw => by clear hw; go_simp⟩) hHeld ?_
            try simp only [Act.put, List.setIfInBounds_toArray, List.set_cons_zero, List.set_cons_succ, List.getElem_toArray, List.getElem_cons_zero, List.getElem_cons_succ]
            refine wpAnyH_take (i := 5) (v := .agg #[.int .i64 k0, .int .i64 A, .int .i64 B, .int .i64 C]) rfl (by kernel_rfl) (by kernel_rfl) (by kernel_rfl) (fun _ _ _ h => h) (Or.inl ⟨by rfl, fun w hw => by have q0 := hw.cell HC.out.1 (by simp); have q1 := hw.cell HC.out.2.1 (by simp); have q2 := hw.cell HC.out.2.2.1 (by simp); have q3 := hw.cell HC.out.2.2.2 (by simp); clear hw; go_simp⟩) hHeld ?_
            try simp only [Act.put, List.setIfInBounds_toArray, List.set_cons_zero, List.set_cons_succ, List.getElem_toArray, List.getElem_cons_zero, List.getElem_cons_succ]
            refine wpAnyH_take (i := 6) (v := .agg #[.int .i64 rk, .int .i64 rn]) rfl (by kernel_rfl) (by kernel_rfl) (by kernel_rfl) (fun _ _ _ h => h) (Or.inl ⟨by rfl, fun w hw => by have q0 := (R3.out.keepn hw).cell 0 (.int .i64 rk) rfl; have q1 := (R3.out.keepn hw).cell 1 (.int .i64 rn) rfl; clear hw; go_simp⟩) hHeld ?_
            try simp only [Act.put, List.setIfInBounds_toArray, List.set_cons_zero, List.set_cons_succ, List.getElem_toArray, List.getElem_cons_zero, List.getElem_cons_succ]
            refine wpAnyH_ready (rs := [7, 12]) (by kernel_rfl) (by simp) (AllReadyH.cons rfl (fun K hK => ?_) (AllReadyH.cons rfl (fun K hK => ?_) (AllReadyH.nil)))
            · go_simp
              refine Calls.mono (by rw [Array.toArray_toList]; exact HD.out _) ?_
              rintro e wc1 ⟨rfl, gc1⟩
              try go_wp2_with fail
              refine hK.out _ _ (g_trans hHeld gc1) (fun hHeld => ?_)
              clear hK K gc1
              try simp only [Act.put, List.setIfInBounds_toArray, List.set_cons_zero, List.set_cons_succ, List.getElem_toArray, List.getElem_cons_zero, List.getElem_cons_succ]
              refine wpAnyH_take (i := 8) (v := .tuple #[.agg X, .int .i64 n, .int .i64 er]) rfl (by kernel_rfl) (by kernel_rfl) (by kernel_rfl) (fun _ _ _ h => h) (Or.inl ⟨by rfl, fun w hw => by clear hw; go_simp⟩) hHeld ?_
              try simp only [Act.put, List.setIfInBounds_toArray, List.set_cons_zero, List.set_cons_succ, List.getElem_toArray, List.getElem_cons_zero, List.getElem_cons_succ]
              refine wpAnyH_take (i := 9) (v := .agg X) rfl (by kernel_rfl) (by kernel_rfl) (by kernel_rfl) (fun _ _ _ h => h) (Or.inl ⟨by rfl, fun w hw => by clear hw; go_simp⟩) hHeld ?_
              try simp only [Act.put, List.setIfInBounds_toArray, List.set_cons_zero, List.set_cons_succ, List.getElem_toArray, List.getElem_cons_zero, List.getElem_cons_succ]
              refine wpAnyH_take (i := 10) (v := .int .i64 n) rfl (by kernel_rfl) (by kernel_rfl) (by kernel_rfl) (fun _ _ _ h => h) (Or.inl ⟨by rfl, fun w hw => by clear hw; go_simp⟩) hHeld ?_
              try simp only [Act.put, List.setIfInBounds_toArray, List.set_cons_zero, List.set_cons_succ, List.getElem_toArray, List.getElem_cons_zero, List.getElem_cons_succ]
              refine wpAnyH_take (i := 11) (v := .int .i64 er) rfl (by kernel_rfl) (by kernel_rfl) (by kernel_rfl) (fun _ _ _ h => h) (Or.inl ⟨by rfl, fun w hw => by clear hw; go_simp⟩) hHeld ?_
              try simp only [Act.put, List.setIfInBounds_toArray, List.set_cons_zero, List.set_cons_succ, List.getElem_toArray, List.getElem_cons_zero, List.getElem_cons_succ]
              refine wpAnyH_ready (rs := [12]) (by kernel_rfl) (by simp) (AllReadyH.cons rfl (fun K hK => ?_) AllReadyH.nil)
              · go_simp
                have HZ := Lib.hid hHeld.size
                have BZ := Lib.hid (newZ wc1)
                have gm := g_trans hHeld (g_newZ wc1)
                refine hK.out _ _ gm (fun hHeld => ?_)
                clear hK K gm
                try simp only [Act.put, List.setIfInBounds_toArray, List.set_cons_zero, List.set_cons_succ, List.getElem_toArray, List.getElem_cons_zero, List.getElem_cons_succ]
                refine wpAnyH_ready (rs := [13]) (by kernel_rfl) (by simp) (AllReadyH.cons rfl (fun K hK => ?_) AllReadyH.nil)
                rw [if_pos (by rfl)]
                refine wp_store_mid 25 _ _ rfl _ 0 X rfl rfl (by (have h := BZ.out.there); (have e : (X).size = Z25.size := by (rw [hX.1]; rfl)); rw [e]; exact h) (by rw [info25, hX.1]) hX.2 ?_
                have gS := g_in hHeld (g_setAll _ X.toList 0 _ _ (g_refl (wc1.alloc (.cells #[.int .i64 0, .int .i64 0, .int .i64 0, .int .i64 0, .int .i64 0, .int .i64 0, .int .i64 0, .int .i64 0, .int .i64 0, .int .i64 0, .int .i64 0, .int .i64 0, .int .i64 0, .int .i64 0, .int .i64 0, .int .i64 0] 25)) _)) HZ.out
                have BX := Lib.hid (BZ.out.setAll X (by rw [hX.1]; rfl))
                refine hK.out _ _ gS (fun hHeld => ?_)
                clear hK K
                try simp only [Act.put, List.setIfInBounds_toArray, List.set_cons_zero, List.set_cons_succ, List.getElem_toArray, List.getElem_cons_zero, List.getElem_cons_succ]
                refine wpAnyH_take (i := 14) (v := .int .i64 n) rfl (by kernel_rfl) (by kernel_rfl) (by kernel_rfl) (fun _ _ _ h => h) (Or.inl ⟨by rfl, fun w hw => by clear hw; go_simp⟩) hHeld ?_
                try simp only [Act.put, List.setIfInBounds_toArray, List.set_cons_zero, List.set_cons_succ, List.getElem_toArray, List.getElem_cons_zero, List.getElem_cons_succ]
                refine wpAnyH_take (i := 15) (v := .int .i64 er) rfl (by kernel_rfl) (by kernel_rfl) (by kernel_rfl) (fun _ _ _ h => h) (Or.inl ⟨by rfl, fun w hw => by clear hw; go_simp⟩) hHeld ?_
                try simp only [Act.put, List.setIfInBounds_toArray, List.set_cons_zero, List.set_cons_succ, List.getElem_toArray, List.getElem_cons_zero, List.getElem_cons_succ]
                refine wpAnyH_done (by kernel_rfl) ?_ _
                go_wp2_with fail
                go_meet
                exact ⟨_, rfl, rfl, rfl, hHeld, BX.out, HZ.out⟩
            · go_simp
              have HZ := Lib.hid hHeld.size
              have BZ := Lib.hid (newZ wr.drew)
              have gm := g_trans hHeld (g_newZ wr.drew)
              refine hK.out _ _ gm (fun hHeld => ?_)
              clear hK K gm
              try simp only [Act.put, List.setIfInBounds_toArray, List.set_cons_zero, List.set_cons_succ, List.getElem_toArray, List.getElem_cons_zero, List.getElem_cons_succ]
              refine wpAnyH_ready (rs := [7]) (by kernel_rfl) (by simp) (AllReadyH.cons rfl (fun K hK => ?_) (AllReadyH.nil))
              · go_simp
                refine Calls.mono (by rw [Array.toArray_toList]; exact HD.out _) ?_
                rintro e wc2 ⟨rfl, gc2⟩
                try go_wp2_with fail
                have BZ := Lib.hid (BZ.out.keepn gc2)
                refine hK.out _ _ (g_trans hHeld gc2) (fun hHeld => ?_)
                clear hK K gc2
                try simp only [Act.put, List.setIfInBounds_toArray, List.set_cons_zero, List.set_cons_succ, List.getElem_toArray, List.getElem_cons_zero, List.getElem_cons_succ]
                refine wpAnyH_take (i := 8) (v := .tuple #[.agg X, .int .i64 n, .int .i64 er]) rfl (by kernel_rfl) (by kernel_rfl) (by kernel_rfl) (fun _ _ _ h => h) (Or.inl ⟨by rfl, fun w hw => by clear hw; go_simp⟩) hHeld ?_
                try simp only [Act.put, List.setIfInBounds_toArray, List.set_cons_zero, List.set_cons_succ, List.getElem_toArray, List.getElem_cons_zero, List.getElem_cons_succ]
                refine wpAnyH_take (i := 9) (v := .agg X) rfl (by kernel_rfl) (by kernel_rfl) (by kernel_rfl) (fun _ _ _ h => h) (Or.inl ⟨by rfl, fun w hw => by clear hw; go_simp⟩) hHeld ?_
                try simp only [Act.put, List.setIfInBounds_toArray, List.set_cons_zero, List.set_cons_succ, List.getElem_toArray, List.getElem_cons_zero, List.getElem_cons_succ]
                refine wpAnyH_take (i := 10) (v := .int .i64 n) rfl (by kernel_rfl) (by kernel_rfl) (by kernel_rfl) (fun _ _ _ h => h) (Or.inl ⟨by rfl, fun w hw => by clear hw; go_simp⟩) hHeld ?_
                try simp only [Act.put, List.setIfInBounds_toArray, List.set_cons_zero, List.set_cons_succ, List.getElem_toArray, List.getElem_cons_zero, List.getElem_cons_succ]
                refine wpAnyH_take (i := 11) (v := .int .i64 er) rfl (by kernel_rfl) (by kernel_rfl) (by kernel_rfl) (fun _ _ _ h => h) (Or.inl ⟨by rfl, fun w hw => by clear hw; go_simp⟩) hHeld ?_
                try simp only [Act.put, List.setIfInBounds_toArray, List.set_cons_zero, List.set_cons_succ, List.getElem_toArray, List.getElem_cons_zero, List.getElem_cons_succ]
                refine wpAnyH_ready (rs := [13]) (by kernel_rfl) (by simp) (AllReadyH.cons rfl (fun K hK => ?_) AllReadyH.nil)
                rw [if_pos (by rfl)]
                refine wp_store_mid 25 _ _ rfl _ 0 X rfl rfl (by (have h := BZ.out.there); (have e : (X).size = Z25.size := by (rw [hX.1]; rfl)); rw [e]; exact h) (by rw [info25, hX.1]) hX.2 ?_
                have gS := g_in hHeld (g_setAll _ X.toList 0 _ _ (g_refl wc2 _)) HZ.out
                have BX := Lib.hid (BZ.out.setAll X (by rw [hX.1]; rfl))
                refine hK.out _ _ gS (fun hHeld => ?_)
                clear hK K
                try simp only [Act.put, List.setIfInBounds_toArray, List.set_cons_zero, List.set_cons_succ, List.getElem_toArray, List.getElem_cons_zero, List.getElem_cons_succ]
                refine wpAnyH_take (i := 14) (v := .int .i64 n) rfl (by kernel_rfl) (by kernel_rfl) (by kernel_rfl) (fun _ _ _ h => h) (Or.inl ⟨by rfl, fun w hw => by clear hw; go_simp⟩) hHeld ?_
                try simp only [Act.put, List.setIfInBounds_toArray, List.set_cons_zero, List.set_cons_succ, List.getElem_toArray, List.getElem_cons_zero, List.getElem_cons_succ]
                refine wpAnyH_take (i := 15) (v := .int .i64 er) rfl (by kernel_rfl) (by kernel_rfl) (by kernel_rfl) (fun _ _ _ h => h) (Or.inl ⟨by rfl, fun w hw => by clear hw; go_simp⟩) hHeld ?_
                try simp only [Act.put, List.setIfInBounds_toArray, List.set_cons_zero, List.set_cons_succ, List.getElem_toArray, List.getElem_cons_zero, List.getElem_cons_succ]
                refine wpAnyH_done (by kernel_rfl) ?_ _
                go_wp2_with fail
                go_meet
                exact ⟨_, rfl, rfl, rfl, hHeld, BX.out, HZ.out⟩
          case rest =>
            obtain ⟨b9, rfl, rfl, rfl, gA, hb9, hz9⟩ := hcut
            rename World => wA
            have GA := Lib.hid gA
            have B9 := Lib.hid hb9
            have R5 := Lib.hid (R5.out.keepn gA)
            have R6 := Lib.hid (R6.out.keepn gA)
            have R3 := Lib.hid (R3.out.keepn gA)
            have HC := Lib.hid (And.intro (gA.cell HC.out.1 (by simp)) (And.intro (gA.cell HC.out.2.1 (by simp)) (And.intro (gA.cell HC.out.2.2.1 (by simp)) (gA.cell HC.out.2.2.2 (by simp)))))
            have zA := hb9.lt
            have zrA := gA.size
            clear gA hb9
            go_upto_region 7 with fail
            go_cut [12, 13, 14] (fun s12 s13 s14 wx => ∃ b12 : Nat, s12 = .pointer (some ⟨b12, 0, none⟩) ∧ s13 = .int .i64 n ∧ s14 = .int .i64 er ∧ wA.grownBy wx none ∧ Blk wx b12 X 25 ∧ wA.heap.size ≤ b12)
            case first =>
              refine wp_region_held_drew (S := fun W' => wA.grownBy W' none) (by kernel_rfl) (g_drew (g_refl _ _)) (fun hHeld => ?_)
              refine wpAnyH_take (i := 0) (v := .agg R.toList.toArray) rfl (by kernel_rfl) (by kernel_rfl) (by kernel_rfl) (fun _ _ _ h => h) (yieldsIf_load_mid (by rfl) 25 _ rfl (b5 + 1) 0 rfl (R).toList _ (fun w hw => (R6.out.keepn hw).range) Try.underlying25 rfl (by rw [info25]; simp [(hR).1])) hHeld ?_
              try simp only [Act.put, List.setIfInBounds_toArray, List.set_cons_zero, List.set_cons_succ, List.getElem_toArray, List.getElem_cons_zero, List.getElem_cons_succ]
              refine wpAnyH_take (i := 1) (v := .int .i64 p) rfl (by kernel_rfl) (by kernel_rfl) (by kernel_rfl) (fun _ _ _ h => h) (Or.inl ⟨by rfl, fun w hw => by clear hw; go_simp⟩) hHeld ?_
              try simp only [Act.put, List.setIfInBounds_toArray, List.set_cons_zero, List.set_cons_succ, List.getElem_toArray, List.getElem_cons_zero, List.getElem_cons_succ]
              refine wpAnyH_take (i := 2) (v := .slice (some ⟨b, off, none⟩) a0n a0c) rfl (by kernel_rfl) (by kernel_rfl) (by kernel_rfl) (fun _ _ _ h => h) (Or.inl ⟨by rfl, fun w hw => by clear hw; go_simp⟩) hHeld ?_
              try simp only [Act.put, List.setIfInBounds_toArray, List.set_cons_zero, List.set_cons_succ, List.getElem_toArray, List.getElem_cons_zero, List.getElem_cons_succ]
              refine wpAnyH_take (i := 3) (v := .int .i64 p) rfl (by kernel_rfl) (by kernel_rfl) (by kernel_rfl) (fun _ _ _ h => h) (Or.inl ⟨by rfl, fun w hw => by clear hw; go_simp⟩) hHeld ?_
              try simp only [Act.put, List.setIfInBounds_toArray, List.set_cons_zero, List.set_cons_succ, List.getElem_toArray, List.getElem_cons_zero, List.getElem_cons_succ]
              refine wpAnyH_take (i := 4) (v := .pointer (some ⟨b, off + p * 4, none⟩)) rfl (by kernel_rfl) (by kernel_rfl) (by kernel_rfl) (fun _ _ _ h => h) (Or.inl ⟨by rfl, fun w hw => by clear hw; go_simp⟩) hHeld ?_
              try simp only [Act.put, List.setIfInBounds_toArray, List.set_cons_zero, List.set_cons_succ, List.getElem_toArray, List.getElem_cons_zero, List.getElem_cons_succ]
              refine wpAnyH_take (i := 5) (v := .agg #[.int .i64 k0, .int .i64 A, .int .i64 B, .int .i64 C]) rfl (by kernel_rfl) (by kernel_rfl) (by kernel_rfl) (fun _ _ _ h => h) (Or.inl ⟨by rfl, fun w hw => by have q0 := hw.cell HC.out.1 (by simp); have q1 := hw.cell HC.out.2.1 (by simp); have q2 := hw.cell HC.out.2.2.1 (by simp); have q3 := hw.cell HC.out.2.2.2 (by simp); clear hw; go_simp⟩) hHeld ?_
              try simp only [Act.put, List.setIfInBounds_toArray, List.set_cons_zero, List.set_cons_succ, List.getElem_toArray, List.getElem_cons_zero, List.getElem_cons_succ]
              refine wpAnyH_take (i := 6) (v := .agg #[.int .i64 rk, .int .i64 rn]) rfl (by kernel_rfl) (by kernel_rfl) (by kernel_rfl) (fun _ _ _ h => h) (Or.inl ⟨by rfl, fun w hw => by have q0 := (R3.out.keepn hw).cell 0 (.int .i64 rk) rfl; have q1 := (R3.out.keepn hw).cell 1 (.int .i64 rn) rfl; clear hw; go_simp⟩) hHeld ?_
              try simp only [Act.put, List.setIfInBounds_toArray, List.set_cons_zero, List.set_cons_succ, List.getElem_toArray, List.getElem_cons_zero, List.getElem_cons_succ]
              refine wpAnyH_ready (rs := [7, 12]) (by kernel_rfl) (by simp) (AllReadyH.cons rfl (fun K hK => ?_) (AllReadyH.cons rfl (fun K hK => ?_) (AllReadyH.nil)))
              · go_simp
                refine Calls.mono (by rw [Array.toArray_toList]; exact HRD.out _) ?_
                rintro e wc1 ⟨rfl, gc1⟩
                try go_wp2_with fail
                refine hK.out _ _ (g_trans hHeld gc1) (fun hHeld => ?_)
                clear hK K gc1
                try simp only [Act.put, List.setIfInBounds_toArray, List.set_cons_zero, List.set_cons_succ, List.getElem_toArray, List.getElem_cons_zero, List.getElem_cons_succ]
                refine wpAnyH_take (i := 8) (v := .tuple #[.agg X, .int .i64 n, .int .i64 er]) rfl (by kernel_rfl) (by kernel_rfl) (by kernel_rfl) (fun _ _ _ h => h) (Or.inl ⟨by rfl, fun w hw => by clear hw; go_simp⟩) hHeld ?_
                try simp only [Act.put, List.setIfInBounds_toArray, List.set_cons_zero, List.set_cons_succ, List.getElem_toArray, List.getElem_cons_zero, List.getElem_cons_succ]
                refine wpAnyH_take (i := 9) (v := .agg X) rfl (by kernel_rfl) (by kernel_rfl) (by kernel_rfl) (fun _ _ _ h => h) (Or.inl ⟨by rfl, fun w hw => by clear hw; go_simp⟩) hHeld ?_
                try simp only [Act.put, List.setIfInBounds_toArray, List.set_cons_zero, List.set_cons_succ, List.getElem_toArray, List.getElem_cons_zero, List.getElem_cons_succ]
                refine wpAnyH_take (i := 10) (v := .int .i64 n) rfl (by kernel_rfl) (by kernel_rfl) (by kernel_rfl) (fun _ _ _ h => h) (Or.inl ⟨by rfl, fun w hw => by clear hw; go_simp⟩) hHeld ?_
                try simp only [Act.put, List.setIfInBounds_toArray, List.set_cons_zero, List.set_cons_succ, List.getElem_toArray, List.getElem_cons_zero, List.getElem_cons_succ]
                refine wpAnyH_take (i := 11) (v := .int .i64 er) rfl (by kernel_rfl) (by kernel_rfl) (by kernel_rfl) (fun _ _ _ h => h) (Or.inl ⟨by rfl, fun w hw => by clear hw; go_simp⟩) hHeld ?_
                try simp only [Act.put, List.setIfInBounds_toArray, List.set_cons_zero, List.set_cons_succ, List.getElem_toArray, List.getElem_cons_zero, List.getElem_cons_succ]
                refine wpAnyH_ready (rs := [12]) (by kernel_rfl) (by simp) (AllReadyH.cons rfl (fun K hK => ?_) AllReadyH.nil)
                · go_simp
                  have HZ := Lib.hid hHeld.size
                  have BZ := Lib.hid (newZ wc1)
                  have gm := g_trans hHeld (g_newZ wc1)
                  refine hK.out _ _ gm (fun hHeld => ?_)
                  clear hK K gm
                  try simp only [Act.put, List.setIfInBounds_toArray, List.set_cons_zero, List.set_cons_succ, List.getElem_toArray, List.getElem_cons_zero, List.getElem_cons_succ]
                  refine wpAnyH_ready (rs := [13]) (by kernel_rfl) (by simp) (AllReadyH.cons rfl (fun K hK => ?_) AllReadyH.nil)
                  rw [if_pos (by rfl)]
                  refine wp_store_mid 25 _ _ rfl _ 0 X rfl rfl (by (have h := BZ.out.there); (have e : (X).size = Z25.size := by (rw [hX.1]; rfl)); rw [e]; exact h) (by rw [info25, hX.1]) hX.2 ?_
                  have gS := g_in hHeld (g_setAll _ X.toList 0 _ _ (g_refl (wc1.alloc (.cells #[.int .i64 0, .int .i64 0, .int .i64 0, .int .i64 0, .int .i64 0, .int .i64 0, .int .i64 0, .int .i64 0, .int .i64 0, .int .i64 0, .int .i64 0, .int .i64 0, .int .i64 0, .int .i64 0, .int .i64 0, .int .i64 0] 25)) _)) HZ.out
                  have BX := Lib.hid (BZ.out.setAll X (by rw [hX.1]; rfl))
                  refine hK.out _ _ gS (fun hHeld => ?_)
                  clear hK K
                  try simp only [Act.put, List.setIfInBounds_toArray, List.set_cons_zero, List.set_cons_succ, List.getElem_toArray, List.getElem_cons_zero, List.getElem_cons_succ]
                  refine wpAnyH_take (i := 14) (v := .int .i64 n) rfl (by kernel_rfl) (by kernel_rfl) (by kernel_rfl) (fun _ _ _ h => h) (Or.inl ⟨by rfl, fun w hw => by clear hw; go_simp⟩) hHeld ?_
                  try simp only [Act.put, List.setIfInBounds_toArray, List.set_cons_zero, List.set_cons_succ, List.getElem_toArray, List.getElem_cons_zero, List.getElem_cons_succ]
                  refine wpAnyH_take (i := 15) (v := .int .i64 er) rfl (by kernel_rfl) (by kernel_rfl) (by kernel_rfl) (fun _ _ _ h => h) (Or.inl ⟨by rfl, fun w hw => by clear hw; go_simp⟩) hHeld ?_
                  try simp only [Act.put, List.setIfInBounds_toArray, List.set_cons_zero, List.set_cons_succ, List.getElem_toArray, List.getElem_cons_zero, List.getElem_cons_succ]
                  refine wpAnyH_done (by kernel_rfl) ?_ _
                  go_wp2_with fail
                  go_meet
                  exact ⟨_, rfl, rfl, rfl, hHeld, BX.out, HZ.out⟩
              · go_simp
                have HZ := Lib.hid hHeld.size
                have BZ := Lib.hid (newZ wA.drew)
                have gm := g_trans hHeld (g_newZ wA.drew)
                refine hK.out _ _ gm (fun hHeld => ?_)
                clear hK K gm
                try simp only [Act.put, List.setIfInBounds_toArray, List.set_cons_zero, List.set_cons_succ, List.getElem_toArray, List.getElem_cons_zero, List.getElem_cons_succ]
                refine wpAnyH_ready (rs := [7]) (by kernel_rfl) (by simp) (AllReadyH.cons rfl (fun K hK => ?_) (AllReadyH.nil))
                · go_simp
                  refine Calls.mono (by rw [Array.toArray_toList]; exact HRD.out _) ?_
                  rintro e wc2 ⟨rfl, gc2⟩
                  try go_wp2_with fail
                  have BZ := Lib.hid (BZ.out.keepn gc2)
                  refine hK.out _ _ (g_trans hHeld gc2) (fun hHeld => ?_)
                  clear hK K gc2
                  try simp only [Act.put, List.setIfInBounds_toArray, List.set_cons_zero, List.set_cons_succ, List.getElem_toArray, List.getElem_cons_zero, List.getElem_cons_succ]
                  refine wpAnyH_take (i := 8) (v := .tuple #[.agg X, .int .i64 n, .int .i64 er]) rfl (by kernel_rfl) (by kernel_rfl) (by kernel_rfl) (fun _ _ _ h => h) (Or.inl ⟨by rfl, fun w hw => by clear hw; go_simp⟩) hHeld ?_
                  try simp only [Act.put, List.setIfInBounds_toArray, List.set_cons_zero, List.set_cons_succ, List.getElem_toArray, List.getElem_cons_zero, List.getElem_cons_succ]
                  refine wpAnyH_take (i := 9) (v := .agg X) rfl (by kernel_rfl) (by kernel_rfl) (by kernel_rfl) (fun _ _ _ h => h) (Or.inl ⟨by rfl, fun w hw => by clear hw; go_simp⟩) hHeld ?_
                  try simp only [Act.put, List.setIfInBounds_toArray, List.set_cons_zero, List.set_cons_succ, List.getElem_toArray, List.getElem_cons_zero, List.getElem_cons_succ]
                  refine wpAnyH_take (i := 10) (v := .int .i64 n) rfl (by kernel_rfl) (by kernel_rfl) (by kernel_rfl) (fun _ _ _ h => h) (Or.inl ⟨by rfl, fun w hw => by clear hw; go_simp⟩) hHeld ?_
                  try simp only [Act.put, List.setIfInBounds_toArray, List.set_cons_zero, List.set_cons_succ, List.getElem_toArray, List.getElem_cons_zero, List.getElem_cons_succ]
                  refine wpAnyH_take (i := 11) (v := .int .i64 er) rfl (by kernel_rfl) (by kernel_rfl) (by kernel_rfl) (fun _ _ _ h => h) (Or.inl ⟨by rfl, fun w hw => by clear hw; go_simp⟩) hHeld ?_
                  try simp only [Act.put, List.setIfInBounds_toArray, List.set_cons_zero, List.set_cons_succ, List.getElem_toArray, List.getElem_cons_zero, List.getElem_cons_succ]
                  refine wpAnyH_ready (rs := [13]) (by kernel_rfl) (by simp) (AllReadyH.cons rfl (fun K hK => ?_) AllReadyH.nil)
                  rw [if_pos (by rfl)]
                  refine wp_store_mid 25 _ _ rfl _ 0 X rfl rfl (by (have h := BZ.out.there); (have e : (X).size = Z25.size := by (rw [hX.1]; rfl)); rw [e]; exact h) (by rw [info25, hX.1]) hX.2 ?_
                  have gS := g_in hHeld (g_setAll _ X.toList 0 _ _ (g_refl wc2 _)) HZ.out
                  have BX := Lib.hid (BZ.out.setAll X (by rw [hX.1]; rfl))
                  refine hK.out _ _ gS (fun hHeld => ?_)
                  clear hK K
                  try simp only [Act.put, List.setIfInBounds_toArray, List.set_cons_zero, List.set_cons_succ, List.getElem_toArray, List.getElem_cons_zero, List.getElem_cons_succ]
                  refine wpAnyH_take (i := 14) (v := .int .i64 n) rfl (by kernel_rfl) (by kernel_rfl) (by kernel_rfl) (fun _ _ _ h => h) (Or.inl ⟨by rfl, fun w hw => by clear hw; go_simp⟩) hHeld ?_
                  try simp only [Act.put, List.setIfInBounds_toArray, List.set_cons_zero, List.set_cons_succ, List.getElem_toArray, List.getElem_cons_zero, List.getElem_cons_succ]
                  refine wpAnyH_take (i := 15) (v := .int .i64 er) rfl (by kernel_rfl) (by kernel_rfl) (by kernel_rfl) (fun _ _ _ h => h) (Or.inl ⟨by rfl, fun w hw => by clear hw; go_simp⟩) hHeld ?_
                  try simp only [Act.put, List.setIfInBounds_toArray, List.set_cons_zero, List.set_cons_succ, List.getElem_toArray, List.getElem_cons_zero, List.getElem_cons_succ]
                  refine wpAnyH_done (by kernel_rfl) ?_ _
                  go_wp2_with fail
                  go_meet
                  exact ⟨_, rfl, rfl, rfl, hHeld, BX.out, HZ.out⟩
            case rest =>
              obtain ⟨b12, rfl, rfl, rfl, gB, hb12, hz12⟩ := hcut
              rename World => wB
              have GB := Lib.hid (g_trans GA.out gB)
              have B12 := Lib.hid hb12
              have B9 := Lib.hid (B9.out.keepn gB)
              have R5 := Lib.hid (R5.out.keepn gB)
              have R6 := Lib.hid (R6.out.keepn gB)
              have zB := hb12.lt
              clear gB hb12 HC R3 GA
              have hq := hq.out
              by_cases her : er = 0
              · subst her
                obtain ⟨m, rfl⟩ : ∃ m : Nat, n = m := ⟨n.toNat, by have := HN.out rfl; omega⟩
                clear HN
                have hX16 : R.size = 16 := hR.1
                go_wp2_with (first | (refine load25 rfl _ rfl b9 rfl X hX B9.out ?_) | (refine load25 rfl _ rfl b12 rfl X hX B12.out ?_) | (refine store25 rfl _ _ rfl b5 rfl X rfl hX R hX16 R5.out ?_; intro wC hbC hgC; have Q5 := Lib.hid hbC; have R6 := Lib.hid (R6.out.keeps hgC (by omega)); have B12 := Lib.hid (B12.out.keeps hgC (by omega)); have GC := Lib.hid hgC; clear hbC hgC) | (refine load25 rfl _ rfl b12 rfl X hX B12.out ?_) | (refine store25 rfl _ _ rfl (b5 + 1) rfl X rfl hX R hX16 R6.out ?_; intro wD hbD hgD; have Q6 := Lib.hid hbD; have Q5 := Lib.hid (Q5.out.keeps hgD (by omega)); have GD := Lib.hid hgD; clear hbD hgD))
                go_roundw
                case rel => exact ⟨m, kk + 1, G, rfl, by go_num, by omega, by rw [HXE.out]; exact Q5.out, by rw [HXE.out]; exact Q6.out, tr_thens (tr_thens (tr_then TR.out GB.out) GC.out (fun _ => .inl rfl)) GD.out (fun _ => .inr rfl)⟩
                case measure => simp [intOf]; omega
              · have he : (er != 0) = true := by simp [her]
                have BWB := Lib.hid (below_gn BWR.out GB.out (by omega))
                clear her
                go_wp2_with (first | (refine load25 rfl _ rfl b9 rfl X hX B9.out ?_) | (refine load25 rfl _ rfl b12 rfl X hX B12.out ?_))
                refine (awake_any _).mono ?_
                rintro e w9 ⟨rfl, g9⟩
                go_wp2_with fail
                go_ret
                exact ⟨rfl, below_gn BWB.out g9 (by omega)⟩
        · have h3i : ¬ (p : Int) < 100 := by omega
          go_wp2_with fail
          refine (awake_any _).mono ?_
          rintro e w9 ⟨rfl, g9⟩
          go_wp2_with fail
          go_ret
          exact ⟨rfl, below_gn BWR.out g9 (by omega)⟩
      · have h2i : ¬ (p : Int) < a0n := by omega
        go_wp2_with fail
        refine (awake_any _).mono ?_
        rintro e w9 ⟨rfl, g9⟩
        go_wp2_with fail
        go_ret
        exact ⟨rfl, below_gn BWR.out g9 (by omega)⟩
    · have h1i : ¬ (kk : Int) < 60 := by omega
      go_wp2_with fail
      refine (awake_any _).mono ?_
      rintro e w9 ⟨rfl, g9⟩
      go_wp2_with fail
      go_ret
      exact ⟨rfl, below_gn BWR.out g9 (by omega)⟩
end Go.Proofs.Ytdfompfboopkpaa
