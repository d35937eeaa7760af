/- Sets of what was read: new memory, nobody's. -/
import Derived.Test.YtbaocimmpiojeaaG
import Derived.Test.YtbaocimmpiojeaaH
namespace Go.Proofs.Ytbaocimmpiojeaa
open Go.RowKit
set_option linter.unusedVariables false
set_option linter.unusedSimpArgs false

theorem size_al (w : World) (o : Obj) : (w.alloc o).heap.size = w.heap.size + 1 := by simp
theorem ex4 : addP 3 [] 1 2 = (0, [(1, 2)]) := by decide
theorem ex5 : hasP [(1, 2)] 1 = (2, true) := by decide

set_option maxRecDepth 100000 in
set_option maxHeartbeats 12800000 in
theorem walk_RsetOwn (a0_0 : Int) (a0_1 : Int) (a0_2 : Int) (w : World) (w0_0 : (Lit.int .u8 a0_0).wf = true) (w0_1 : (Lit.int .i64 a0_1).wf = true) (w0_2 : (Lit.int .i64 a0_2).wf = true) :
    Calls Try.prog 5 #[.agg #[.int .u8 a0_0, .int .i64 a0_1, .int .i64 a0_2]] w fun e w' => e = .returned (.bool true) ∧ Below w.heap.size w w' := by
  clear w0_0 w0_1 w0_2
  have ga := g_alloc (g_refl w none) (.cells #[.int .u8 a0_0, .int .i64 a0_1, .int .i64 a0_2] 31)
  have gb := g_alloc (g_refl (w.alloc (.cells #[.int .u8 a0_0, .int .i64 a0_1, .int .i64 a0_2] 31)) none) (.cells #[.int .i64 0, .slice none 0 0, .int .u32 0, .int .i32 0, .int .u32 0, .map none] 64)
  have gc := g_alloc (g_refl ((w.alloc (.cells #[.int .u8 a0_0, .int .i64 a0_1, .int .i64 a0_2] 31)).alloc (.cells #[.int .i64 0, .slice none 0 0, .int .u32 0, .int .i32 0, .int .u32 0, .map none] 64)) none) (.cells #[.pointer none, .pointer (some ⟨w.heap.size + 1, 0, none⟩)] 23)
  have B1 := Lib.hid (((Blk.new w #[.int .u8 a0_0, .int .i64 a0_1, .int .i64 a0_2] 31).keepn gb).keepn gc)
  have B2 : Hid (Blk (((w.alloc (.cells #[.int .u8 a0_0, .int .i64 a0_1, .int .i64 a0_2] 31)).alloc (.cells #[.int .i64 0, .slice none 0 0, .int .u32 0, .int .i32 0, .int .u32 0, .map none] 64)).alloc (.cells #[.pointer none, .pointer (some ⟨w.heap.size + 1, 0, none⟩)] 23)) (w.heap.size + 1) #[.int .i64 0, .slice none 0 0, .int .u32 0, .int .i32 0, .int .u32 0, .map none] 64) := Lib.hid (by
    have h := Blk.new (w.alloc (.cells #[.int .u8 a0_0, .int .i64 a0_1, .int .i64 a0_2] 31)) #[.int .i64 0, .slice none 0 0, .int .u32 0, .int .i32 0, .int .u32 0, .map none] 64
    rw [size_al] at h
    exact h.keepn gc)
  have B3 : Hid (Blk (((w.alloc (.cells #[.int .u8 a0_0, .int .i64 a0_1, .int .i64 a0_2] 31)).alloc (.cells #[.int .i64 0, .slice none 0 0, .int .u32 0, .int .i32 0, .int .u32 0, .map none] 64)).alloc (.cells #[.pointer none, .pointer (some ⟨w.heap.size + 1, 0, none⟩)] 23)) (w.heap.size + 1 + 1) #[.pointer none, .pointer (some ⟨w.heap.size + 1, 0, none⟩)] 23) := Lib.hid (by
    have h := Blk.new ((w.alloc (.cells #[.int .u8 a0_0, .int .i64 a0_1, .int .i64 a0_2] 31)).alloc (.cells #[.int .i64 0, .slice none 0 0, .int .u32 0, .int .i32 0, .int .u32 0, .map none] 64)) #[.pointer none, .pointer (some ⟨w.heap.size + 1, 0, none⟩)] 23
    rw [size_al, size_al] at h
    exact h)
  have G0 := Lib.hid (g_trans (g_trans ga gb) gc)
  clear ga gb gc
  go_enter Try.func5, Try.ntmps5
  go_wp2_with fail
  generalize ((w.alloc (.cells #[.int .u8 a0_0, .int .i64 a0_1, .int .i64 a0_2] 31)).alloc (.cells #[.int .i64 0, .slice none 0 0, .int .u32 0, .int .i32 0, .int .u32 0, .map none] 64)).alloc (.cells #[.pointer none, .pointer (some ⟨w.heap.size + 1, 0, none⟩)] 23) = W0 at *
  generalize hpa : w.heap.size = pa at *
  go_loopw [5] (fun i wr => ∃ j : Nat, i = .int .i64 j ∧ j ≤ 2 ∧ W0.grownBy wr none) (fun i _ => (2 - intOf i).toNat)
  case atStart => exact ⟨0, rfl, Nat.zero_le _, g_refl _ _⟩
  case round =>
    obtain ⟨j, rfl, hj, hg⟩ := hrel
    by_cases hlt : j < 2
    · have hji : (j : Int) < 2 := by omega
      have hjj : ¬ (2 : Int) ≤ j := by omega
      have hjj2 : ¬ 2 ≤ j := by omega
      obtain ⟨q, hq, HNB⟩ : ∃ q, wr.cell? ⟨pa + 1 + 1, j, none⟩ = some (.pointer q) ∧ Hid (∀ W, wr.grownBy W none → Nob q W) := by
        rcases (by omega : j = 0 ∨ j = 1) with rfl | rfl
        · exact ⟨none, (B3.out.keepn hg).cell 0 _ rfl, Lib.hid (fun W g => nob_nil W)⟩
        · exact ⟨some ⟨pa + 1, 0, none⟩, (B3.out.keepn hg).cell 1 _ rfl, Lib.hid (fun W g => nob_zero _ W (((B2.out.keepn hg).keepn g).cell 0 _ rfl))⟩
      have HBW := Lib.hid (B1.out.keepn hg)
      have HG := Lib.hid hg
      have HCL := Lib.hid (clear_nob (HNB.out wr (g_refl _ _)))
      have HHA := Lib.hid (has_nob (HNB.out wr (g_refl _ _)) a0_1)
      have HAT := Lib.hid (at_nob (q := q) (w := wr) HNB.out 0)
      clear hg
      go_wp2_with fail
      refine HCL.out.mono ?_
      rintro e w1 ⟨rfl, rfl⟩
      clear hq
      have y1 := HBW.out.cell 1 _ rfl
      go_wp2_with fail
      refine HHA.out.mono ?_
      rintro e w2 ⟨rfl, rfl⟩
      clear y1
      go_wp2_with fail
      refine HAT.out.mono ?_
      rintro e w3 ⟨rfl, g3⟩
      have g4 := g_trans g3 (g_alloc (g_refl w3 none) (.cells #[.int .i64 0, .int .i64 0] 37))
      have G4 := Lib.hid g4
      have XB := Lib.hid (Blk.new w3 #[.int .i64 0, .int .i64 0] 37)
      have y1 := (HBW.out.keepn g4).cell 1 _ rfl
      have y2 := (HBW.out.keepn g4).cell 2 _ rfl
      have HAD := Lib.hid (add_nob (HNB.out _ g4) a0_1 a0_2)
      have HAL := Lib.hid (all_nob (HNB.out _ g4))
      have HLE := Lib.hid (len_nob (HNB.out _ g4))
      have HFO := Lib.hid (fork_nob (HNB.out _ g4))
      have x0 := XB.out.cell 0 (.int .i64 0) rfl
      have x1 := XB.out.cell 1 (.int .i64 0) rfl
      clear g3 g4
      go_wp2_with fail
      refine HAD.out.mono ?_
      rintro e w5 ⟨rfl, rfl⟩
      go_wp2_with fail
      refine HAL.out.mono ?_
      rintro e w6 ⟨rfl, rfl⟩
      go_wp2_with fail
      refine HLE.out.mono ?_
      rintro e w7 ⟨rfl, rfl⟩
      go_wp2_with fail
      refine HFO.out.mono ?_
      rintro e w8 ⟨rfl, rfl⟩
      go_wp2_with fail
      go_roundw
      case rel => exact ⟨j + 1, by go_num, by omega, g_trans HG.out G4.out⟩
      case measure => simp [intOf]; omega
    · obtain rfl : j = 2 := by omega
      obtain ⟨wz, hwz⟩ : ∃ wz : World, wz = wr := ⟨_, rfl⟩
      subst hwz
      have HG := Lib.hid (g_trans G0.out hg)
      have HN := Lib.hid (new_any 3 wz)
      clear hg
      go_wp2_with fail
      refine HN.out.mono ?_
      rintro e w1 ⟨g1, ⟨h, _⟩ | ⟨_, b, rfl, hb, hr⟩⟩
      · exact absurd h (by decide)
      have G1 := Lib.hid g1
      have hS : ∀ i, w1.heap.size ≤ i → wz.heap.size ≤ i := fun i hi => Nat.le_trans G1.out.size hi
      have HA := Lib.hid (add_any (fun i => wz.heap.size ≤ i) b 3 [] 1 2 w1 hr (by decide) hS (by decide) (by decide))
      rw [ex4] at HA
      clear g1 hr hS HN
      go_wp2_with fail
      refine HA.out.mono ?_
      rintro e w2 ⟨rfl, hr, ht⟩
      have T2 := Lib.hid ((tr_trans (tr_g G1.out (fun i => wz.heap.size ≤ i)) ht (fun i _ e => e)).g (fun i hi => by omega))
      have HAL := Lib.hid (all_any (fun i => wz.heap.size ≤ i) b 3 [(1, 2)] w2 hr (by decide) (by decide))
      have HR2 := Lib.hid hr
      clear hr ht
      go_wp2_with fail
      refine HAL.out.mono ?_
      rintro e w3 ⟨v, rfl, how, g3⟩
      have HOW := Lib.hid how
      have G3 := Lib.hid g3
      rcases how.2 with ⟨-, hn⟩ | ⟨g, cap, cur, rfl, hgb, -, hcap, -⟩
      · exact absurd hn (by decide)
      have q0 : w3.cell? ⟨g, 0, none⟩ = some (.int .i64 1) := by simpa [scl] using World.ownsRow.cellAt how 0 (by decide)
      have q1 : w3.cell? ⟨g, 1, none⟩ = some (.int .i64 2) := by simpa [scl] using World.ownsRow.cellAt how 1 (by decide)
      have f0 := World.ownsRow.frozenAt how 0
      have f1 := World.ownsRow.frozenAt how 1
      clear how g3
      simp only [List.length_cons, List.length_nil, Nat.zero_add] at f0 f1 ⊢
      go_wp2_with fail
      go_loopw [14] (fun q wr => ∃ kk : Nat, q = .int .i64 kk ∧ kk ≤ 1 ∧ (kk = 0 → wr = w3) ∧ w2.grownBy wr none) (fun q _ => (1 - intOf q).toNat)
      case atStart => exact ⟨0, rfl, Nat.zero_le _, fun _ => rfl, G3.out⟩
      case round =>
        obtain ⟨kk, rfl, hkk, hw3, hg⟩ := hrel
        by_cases hlk : kk < 1
        · obtain rfl : kk = 0 := by omega
          obtain rfl := hw3 rfl
          have s1 := g_set (g_set (g_refl wr (some g)) (p := ⟨g, 0, none⟩) (.inl rfl) (.int .i64 9)) (p := ⟨g, 1, none⟩) (.inl rfl) (.int .i64 9)
          have HGS := Lib.hid (g_in hg s1 hgb)
          clear s1 hg hw3
          go_wp2_with fail
          go_roundw
          case rel => exact ⟨1, by go_num, by omega, fun h => by omega, HGS.out⟩
          case measure => simp [intOf]
        · obtain rfl : kk = 1 := by omega
          have HRW := Lib.hid (HR2.out.keep hg)
          have GW := Lib.hid (g_trans T2.out hg)
          have hsw : ∀ i, wr.heap.size ≤ i → wz.heap.size ≤ i := fun i hi => Nat.le_trans GW.out.size hi
          have HH := Lib.hid (has_any (fun i => wz.heap.size ≤ i) b 3 [(1, 2)] 1 wr HRW.out (by decide) hsw (by decide) (by decide))
          rw [ex5] at HH
          clear hg hw3 hsw q0 q1 f0 f1
          go_wp2_with fail
          refine HH.out.mono ?_
          rintro e w5 ⟨rfl, hr5, ht5⟩
          have G5 := Lib.hid ((tr_trans (tr_g GW.out (fun i => wz.heap.size ≤ i)) ht5 (fun i _ e => e)).g (fun i hi => by omega))
          have HAL := Lib.hid (all_any (fun i => wz.heap.size ≤ i) b 3 [(1, 2)] w5 hr5 (by decide) (by decide))
          clear hr5 ht5
          go_wp2_with fail
          refine HAL.out.mono ?_
          rintro e w6 ⟨v, rfl, how, g6⟩
          obtain ⟨lo, lc, rfl, hls, -⟩ := srow_of_own how
          have G6 := Lib.hid (g_trans (g_trans HG.out G5.out) g6)
          have ga := g_alloc (g_refl w6 none) (.cells #[.int .i64 1, .int .i64 2] 37)
          have HLS := Lib.hid (hls.keep ga)
          have HMS : Hid (SRow (w6.alloc (.cells #[.int .i64 1, .int .i64 2] 37)) (some ⟨w6.heap.size, 0, none⟩) [(1, 2)]) := Lib.hid (fun i p hp => by
            have hi := (List.getElem?_eq_some_iff.1 hp).1
            simp at hi
            subst hi
            cases hp
            have hb := Blk.new w6 #[.int .i64 1, .int .i64 2] 37
            exact ⟨_, 0, rfl, hb.cell 0 _ rfl, hb.cell 1 _ rfl⟩)
          have HSM := Lib.hid (same_any lo (some ⟨w6.heap.size, 0, none⟩) 1 lc 1 [(1, 2)] _ HLS.out HMS.out rfl (by decide))
          have GA := Lib.hid (g_trans G6.out ga)
          clear how hls g6 ga
          simp only [List.length_cons, List.length_nil, Nat.zero_add]
          go_wp2_with fail
          refine HSM.out.mono ?_
          rintro e w7 ⟨rfl, g7⟩
          have G7 := Lib.hid (g_trans GA.out g7)
          clear g7
          go_wp2_with fail
          refine (awake_any _).mono ?_
          rintro e w8 ⟨rfl, g8⟩
          have G8 := Lib.hid (g_trans G7.out g8)
          clear g8
          go_wp2_with fail
          go_ret
          exact ⟨rfl, below_gn (Below.refl _ _) G8.out (Nat.le_refl _)⟩
end Go.Proofs.Ytbaocimmpiojeaa
