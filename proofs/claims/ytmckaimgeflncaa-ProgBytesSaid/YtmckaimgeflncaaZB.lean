/- The document's Decode. -/
import Derived.Test.YtmckaimgeflncaaY
namespace Go.Proofs.Ytmckaimgeflncaa
open Go.RowKit
set_option linter.unusedVariables false

set_option linter.unusedSimpArgs false

/-- what Decode of the document answers: the rest stands where the row stands -/
def RDecQ (k n a3 : Nat) (v0 v1 v2 : Int) (ao : Option Addr) (L LD : List Int) (w w' : World) (e : Ending) : Prop :=
  w.grownBy w' none ∧ ((n < a3 ∧ e = .returned (.tuple #[.agg #[.int .i64 0, .int .i64 0, .int .i64 0, .int .i64 0], .slice none 0 0, .int .i64 6]))
      ∨ (a3 ≤ n ∧ okI k v0 v1 v2 = false ∧ e = .returned (.tuple #[.agg #[.int .i64 0, .int .i64 0, .int .i64 0, .int .i64 0], .slice none 0 0, .int .i64 100]))
      ∨ (a3 ≤ n ∧ okI k v0 v1 v2 = true ∧ ∃ ad cc, e = .returned (.tuple #[.agg #[.int .i64 k, .int .i64 v0, .int .i64 v1, .int .i64 v2], .slice ad (n - a3) cc, .int .i64 0]) ∧ n - a3 ≤ cc ∧ cc ≤ 9223372036854775807 ∧ ∀ w0, BRow w0 ao L → BRow w0 ad LD))
theorem rdecq_short {k n a3 : Nat} {v0 v1 v2 : Int} {ao : Option Addr} {L LD : List Int} {w w' : World} (g : w.grownBy w' none) (h : n < a3) : RDecQ k n a3 v0 v1 v2 ao L LD w w' (.returned (.tuple #[.agg #[.int .i64 0, .int .i64 0, .int .i64 0, .int .i64 0], .slice none 0 0, .int .i64 6])) := ⟨g, .inl ⟨h, rfl⟩⟩
theorem rdecq_bad {k n a3 : Nat} {v0 v1 v2 : Int} {ao : Option Addr} {L LD : List Int} {w w' : World} (g : w.grownBy w' none) (h : a3 ≤ n) (h2 : okI k v0 v1 v2 = false) : RDecQ k n a3 v0 v1 v2 ao L LD w w' (.returned (.tuple #[.agg #[.int .i64 0, .int .i64 0, .int .i64 0, .int .i64 0], .slice none 0 0, .int .i64 100])) := ⟨g, .inr (.inl ⟨h, h2, rfl⟩)⟩
theorem rdecq_good {k n a3 : Nat} {v0 v1 v2 : Int} {ao : Option Addr} {L LD : List Int} {w w' : World} {ad : Option Addr} {cc : Nat} (g : w.grownBy w' none) (h : a3 ≤ n) (h2 : okI k v0 v1 v2 = true) (c1 : n - a3 ≤ cc) (c2 : cc ≤ 9223372036854775807) (hb : ∀ w0, BRow w0 ao L → BRow w0 ad LD) : RDecQ k n a3 v0 v1 v2 ao L LD w w' (.returned (.tuple #[.agg #[.int .i64 k, .int .i64 v0, .int .i64 v1, .int .i64 v2], .slice ad (n - a3) cc, .int .i64 0])) := ⟨g, .inr (.inr ⟨h, h2, _, _, rfl, c1, c2, hb⟩)⟩

set_option maxRecDepth 100000 in
set_option maxHeartbeats 3200000 in
theorem rdecodeq_k (ao : Option Addr) (n c : Nat) (L : List Int) (w : World) (hL : BRow w ao L) (hn : L.length = n) (k : Nat) (h1 : 1 ≤ k) (h2 : k ≤ 20) (h0 : L[0]? = some (k : Int)) (hnc : n ≤ c) (hcm : c ≤ 9223372036854775807) :
    Calls Try.prog 24 #[.slice ao n c] w fun e w' => RDecQ k n (alN (sA k) (sB k) (sC k) 3) (hv (sA k) (sB k) (sC k) L 0) (hv (sA k) (sB k) (sC k) L 1) (hv (sA k) (sB k) (sC k) L 2) ao L (L.drop (alN (sA k) (sB k) (sC k) 3)) w w' e := by
  have HF := Lib.hid (has_ok k h1 h2)
  have HIS := Lib.hid (fun A B C w => is_ok k h1 h2 A B C w)
  obtain ⟨s0l, s0h, s1l, s1h, s2l, s2h⟩ := sorts_lt k
  generalize sA k = s0 at *
  generalize sB k = s1 at *
  generalize sC k = s2 at *
  have W0 := Lib.hid (rwide_any s0 ⟨s0l, s0h⟩)
  have W1 := Lib.hid (rwide_any s1 ⟨s1l, s1h⟩)
  have W2 := Lib.hid (rwide_any s2 ⟨s2l, s2h⟩)
  have hn0 : 0 < n := by rw [← hn]; exact (List.getElem?_eq_some_iff.1 h0).1
  have hn0' : (0 : Int) < n := by omega
  obtain ⟨_, bb, off, rfl, hc0⟩ := hL 0 _ h0
  rw [Nat.add_zero] at hc0
  have hn00 : ((n : Int) == 0) = false := by simp; omega
  have hk1 : (1 : Int) ≤ k := by omega
  have hk2 : (k : Int) ≤ 20 := by omega
  have e1 : (1 : Int) + (wdN s0 : Nat) = (alN s0 s1 s2 1 : Nat) := by simp [alN]
  have e2 : ((alN s0 s1 s2 1 : Nat) : Int) + (wdN s1 : Nat) = (alN s0 s1 s2 2 : Nat) := by simp [alN]
  have e3 : ((alN s0 s1 s2 2 : Nat) : Int) + (wdN s2 : Nat) = (alN s0 s1 s2 3 : Nat) := by simp [alN]
  have m1 := alN_le s0 s1 s2 1
  have m2 := alN_le s0 s1 s2 2
  have m3 := alN_le s0 s1 s2 3
  have hSL : alN s0 s1 s2 3 ≤ n → (∃ ad c', (∀ w, (Instr.slice 23 (.slice (some ⟨bb, off, none⟩) n c) (some (.int .i64 1)) (some (.int .i64 (alN s0 s1 s2 1 : Nat))) none).run Try.prog w = .ok (.slice ad (wdN s0) c') w) ∧ (∀ w, BRow w (some ⟨bb, off, none⟩) L → BRow w ad (seg s0 s1 s2 L 0)))
      ∧ (∃ ad c', (∀ w, (Instr.slice 23 (.slice (some ⟨bb, off, none⟩) n c) (some (.int .i64 (alN s0 s1 s2 1 : Nat))) (some (.int .i64 (alN s0 s1 s2 2 : Nat))) none).run Try.prog w = .ok (.slice ad (wdN s1) c') w) ∧ (∀ w, BRow w (some ⟨bb, off, none⟩) L → BRow w ad (seg s0 s1 s2 L 1)))
      ∧ (∃ ad c', (∀ w, (Instr.slice 23 (.slice (some ⟨bb, off, none⟩) n c) (some (.int .i64 (alN s0 s1 s2 2 : Nat))) (some (.int .i64 (alN s0 s1 s2 3 : Nat))) none).run Try.prog w = .ok (.slice ad (wdN s2) c') w) ∧ (∀ w, BRow w (some ⟨bb, off, none⟩) L → BRow w ad (seg s0 s1 s2 L 2)))
      ∧ (∃ ad c', (∀ w, (Instr.slice 23 (.slice (some ⟨bb, off, none⟩) n c) (some (.int .i64 (alN s0 s1 s2 3 : Nat))) none none).run Try.prog w = .ok (.slice ad (n - alN s0 s1 s2 3) c') w) ∧ (∀ w, BRow w (some ⟨bb, off, none⟩) L → BRow w ad (L.drop (alN s0 s1 s2 3))) ∧ n - alN s0 s1 s2 3 ≤ c' ∧ c' ≤ 9223372036854775807) := fun hz =>
    ⟨seg_slice _ n c L s0 s1 s2 (j := 0) (by omega) (by omega), seg_slice _ n c L s0 s1 s2 (j := 1) (by omega) (by omega), seg_slice _ n c L s0 s1 s2 (j := 2) (by omega) (by omega), by
      obtain ⟨ad, q1, q2⟩ := slice_l (some ⟨bb, off, none⟩) n c (alN s0 s1 s2 3) hz hnc
      exact ⟨ad, _, q1, fun w hb => q2 L w hb hn, by omega, by omega⟩⟩
  have HSL := Lib.hid hSL
  have SG0 : Hid (alN s0 s1 s2 3 ≤ n → (seg s0 s1 s2 L 0).length = wdN s0) := Lib.hid (fun h => seg_len hn (by omega) h)
  have SG1 : Hid (alN s0 s1 s2 3 ≤ n → (seg s0 s1 s2 L 1).length = wdN s1) := Lib.hid (fun h => seg_len hn (by omega) h)
  have SG2 : Hid (alN s0 s1 s2 3 ≤ n → (seg s0 s1 s2 L 2).length = wdN s2) := Lib.hid (fun h => seg_len hn (by omega) h)
  have D0 := wdN_le s0
  have D1 := wdN_le s1
  have D2 := wdN_le s2
  have HV0 : Hid (hv s0 s1 s2 L 0 = wrap64 (numU (seg s0 s1 s2 L 0))) := Lib.hid rfl
  have HV1 : Hid (hv s0 s1 s2 L 1 = wrap64 (numU (seg s0 s1 s2 L 1))) := Lib.hid rfl
  have HV2 : Hid (hv s0 s1 s2 L 2 = wrap64 (numU (seg s0 s1 s2 L 2))) := Lib.hid rfl
  generalize hv s0 s1 s2 L 0 = v0 at *
  generalize hv s0 s1 s2 L 1 = v1 at *
  generalize hv s0 s1 s2 L 2 = v2 at *
  generalize seg s0 s1 s2 L 0 = M0 at *
  generalize seg s0 s1 s2 L 1 = M1 at *
  generalize seg s0 s1 s2 L 2 = M2 at *
  generalize alN s0 s1 s2 1 = a1 at *
  generalize alN s0 s1 s2 2 = a2 at *
  generalize alN s0 s1 s2 3 = a3 at *
  generalize L.drop a3 = LD at *
  generalize wdN s0 = d0 at *
  generalize wdN s1 = d1 at *
  generalize wdN s2 = d2 at *
  have EW : Hid (IntKind.i64.wrap (a1 : Int) = a1 ∧ IntKind.i64.wrap (a2 : Int) = a2 ∧ IntKind.i64.wrap (k : Int) = k) := Lib.hid ⟨IntWalk.i64_in _ (by omega), IntWalk.i64_in _ (by omega), IntWalk.i64_in _ (by omega)⟩
  have g0 := g_alloc (g_refl w none) (.cells #[.int .i64 0, .int .i64 0, .int .i64 0, .int .i64 0] 43)
  have hb := Blk.new w #[.int .i64 0, .int .i64 0, .int .i64 0, .int .i64 0] 43
  have c0 := g0.cell hc0 (by simp)
  have HL := Lib.hid hL
  have HB := Lib.hid hb
  have HC0 := Lib.hid hc0
  have ez : (a3 : Int) ≤ n ∨ (n : Int) < a3 := by omega
  clear s0l s0h s1l s1h s2l s2h hL hb h0 hn hSL hc0
  go_enter Try.func24, Try.ntmps24
  go_wp2_with fail
  refine (HF.out _).mono ?_
  rintro e w1 ⟨rfl, hg⟩
  have g2 := g_alloc (g_refl w1 none) (.cells #[.int .i64 s0, .int .i64 s1, .int .i64 s2] 64)
  have GA := Lib.hid (g_trans (g_trans g0 hg) g2)
  have R := Lib.hid ((HB.out.keepn hg).keepn g2)
  have FB := Lib.hid (Blk.new w1 #[.int .i64 s0, .int .i64 s1, .int .i64 s2] 64)
  have s01 := (g_trans g0 hg).size
  clear c0 HF HB hg g2 g0
  go_upto_region 6 with fail
  generalize (w1.alloc (.cells #[.int .i64 s0, .int .i64 s1, .int .i64 s2] 64)) = W3 at *
  go_cut [7, 8] (fun s7 s8 wx => s7 = .int .i64 (a1 : Int) ∧ s8 = .int .i64 (a2 : Int) ∧ W3.grownBy wx none)
  case first =>
    refine wp_region_held_drew (S := fun W' => W3.grownBy W' none) (by kernel_rfl) (g_drew (g_refl _ _)) (fun hHeld => ?_)
    refine wpAnyH_take (i := 0) (v := .pointer (some ⟨w1.heap.size, 0, none⟩)) rfl (by kernel_rfl) (by kernel_rfl) (by kernel_rfl) (fun _ _ _ h => h) (Or.inl ⟨by rfl, fun w hw => by clear hw; go_simp⟩) hHeld ?_
    try simp only [Act.put, List.setIfInBounds_toArray, List.set_cons_zero, List.set_cons_succ, List.getElem_toArray, List.getElem_cons_zero, List.getElem_cons_succ]
    refine wpAnyH_take (i := 1) (v := .int .i64 s0) rfl (by kernel_rfl) (by kernel_rfl) (by kernel_rfl) (fun _ _ _ h => h) (Or.inl ⟨by rfl, fun w hw => by have q0 := (FB.out.keepn hw).cell 0 (.int .i64 s0) rfl; clear hw; go_simp⟩) hHeld ?_
    try simp only [Act.put, List.setIfInBounds_toArray, List.set_cons_zero, List.set_cons_succ, List.getElem_toArray, List.getElem_cons_zero, List.getElem_cons_succ]
    refine wpAnyH_take (i := 4) (v := .pointer (some ⟨w1.heap.size, 0, none⟩)) rfl (by kernel_rfl) (by kernel_rfl) (by kernel_rfl) (fun _ _ _ h => h) (Or.inl ⟨by rfl, fun w hw => by clear hw; go_simp⟩) hHeld ?_
    try simp only [Act.put, List.setIfInBounds_toArray, List.set_cons_zero, List.set_cons_succ, List.getElem_toArray, List.getElem_cons_zero, List.getElem_cons_succ]
    refine wpAnyH_take (i := 5) (v := .int .i64 s0) rfl (by kernel_rfl) (by kernel_rfl) (by kernel_rfl) (fun _ _ _ h => h) (Or.inl ⟨by rfl, fun w hw => by have q0 := (FB.out.keepn hw).cell 0 (.int .i64 s0) rfl; clear hw; go_simp⟩) hHeld ?_
    try simp only [Act.put, List.setIfInBounds_toArray, List.set_cons_zero, List.set_cons_succ, List.getElem_toArray, List.getElem_cons_zero, List.getElem_cons_succ]
    refine wpAnyH_take (i := 8) (v := .pointer (some ⟨w1.heap.size, 1, none⟩)) rfl (by kernel_rfl) (by kernel_rfl) (by kernel_rfl) (fun _ _ _ h => h) (Or.inl ⟨by rfl, fun w hw => by clear hw; go_simp⟩) hHeld ?_
    try simp only [Act.put, List.setIfInBounds_toArray, List.set_cons_zero, List.set_cons_succ, List.getElem_toArray, List.getElem_cons_zero, List.getElem_cons_succ]
    refine wpAnyH_take (i := 9) (v := .int .i64 s1) rfl (by kernel_rfl) (by kernel_rfl) (by kernel_rfl) (fun _ _ _ h => h) (Or.inl ⟨by rfl, fun w hw => by have q0 := (FB.out.keepn hw).cell 1 (.int .i64 s1) rfl; clear hw; go_simp⟩) hHeld ?_
    try simp only [Act.put, List.setIfInBounds_toArray, List.set_cons_zero, List.set_cons_succ, List.getElem_toArray, List.getElem_cons_zero, List.getElem_cons_succ]
    refine wpAnyH_ready (rs := [2]) (by kernel_rfl) (by simp) (AllReadyH.cons rfl (fun K hK => ?_) (AllReadyH.nil))
    · go_simp
      refine Calls.mono (W0.out _) ?_
      rintro e xwc1 ⟨rfl, xgc1⟩
      try go_wp2_with fail
      refine hK.out _ _ (g_trans hHeld xgc1) (fun hHeld => ?_)
      clear hK K xgc1
      try simp only [Act.put, List.setIfInBounds_toArray, List.set_cons_zero, List.set_cons_succ, List.getElem_toArray, List.getElem_cons_zero, List.getElem_cons_succ]
      refine wpAnyH_take (i := 3) (v := .int .i64 (a1 : Int)) rfl (by kernel_rfl) (by kernel_rfl) (by kernel_rfl) (fun _ _ _ h => h) (Or.inl ⟨by rfl, fun w hw => by have ew := EW.out.1; clear hw; go_simp⟩) hHeld ?_
      try simp only [Act.put, List.setIfInBounds_toArray, List.set_cons_zero, List.set_cons_succ, List.getElem_toArray, List.getElem_cons_zero, List.getElem_cons_succ]
      refine wpAnyH_ready (rs := [6]) (by kernel_rfl) (by simp) (AllReadyH.cons rfl (fun K hK => ?_) (AllReadyH.nil))
      · go_simp
        refine Calls.mono (W0.out _) ?_
        rintro e xwc2 ⟨rfl, xgc2⟩
        try go_wp2_with fail
        refine hK.out _ _ (g_trans hHeld xgc2) (fun hHeld => ?_)
        clear hK K xgc2
        try simp only [Act.put, List.setIfInBounds_toArray, List.set_cons_zero, List.set_cons_succ, List.getElem_toArray, List.getElem_cons_zero, List.getElem_cons_succ]
        refine wpAnyH_take (i := 7) (v := .int .i64 (a1 : Int)) rfl (by kernel_rfl) (by kernel_rfl) (by kernel_rfl) (fun _ _ _ h => h) (Or.inl ⟨by rfl, fun w hw => by have ew := EW.out.1; clear hw; go_simp⟩) hHeld ?_
        try simp only [Act.put, List.setIfInBounds_toArray, List.set_cons_zero, List.set_cons_succ, List.getElem_toArray, List.getElem_cons_zero, List.getElem_cons_succ]
        refine wpAnyH_ready (rs := [10]) (by kernel_rfl) (by simp) (AllReadyH.cons rfl (fun K hK => ?_) (AllReadyH.nil))
        · go_simp
          refine Calls.mono (W1.out _) ?_
          rintro e xwc3 ⟨rfl, xgc3⟩
          try go_wp2_with fail
          refine hK.out _ _ (g_trans hHeld xgc3) (fun hHeld => ?_)
          clear hK K xgc3
          try simp only [Act.put, List.setIfInBounds_toArray, List.set_cons_zero, List.set_cons_succ, List.getElem_toArray, List.getElem_cons_zero, List.getElem_cons_succ]
          refine wpAnyH_take (i := 11) (v := .int .i64 (a2 : Int)) rfl (by kernel_rfl) (by kernel_rfl) (by kernel_rfl) (fun _ _ _ h => h) (Or.inl ⟨by rfl, fun w hw => by have ew := EW.out.2.1; clear hw; go_simp⟩) hHeld ?_
          try simp only [Act.put, List.setIfInBounds_toArray, List.set_cons_zero, List.set_cons_succ, List.getElem_toArray, List.getElem_cons_zero, List.getElem_cons_succ]
          refine wpAnyH_take (i := 12) (v := .int .i64 (a1 : Int)) rfl (by kernel_rfl) (by kernel_rfl) (by kernel_rfl) (fun _ _ _ h => h) (Or.inl ⟨by rfl, fun w hw => by clear hw; go_simp⟩) hHeld ?_
          try simp only [Act.put, List.setIfInBounds_toArray, List.set_cons_zero, List.set_cons_succ, List.getElem_toArray, List.getElem_cons_zero, List.getElem_cons_succ]
          refine wpAnyH_take (i := 13) (v := .int .i64 (a2 : Int)) rfl (by kernel_rfl) (by kernel_rfl) (by kernel_rfl) (fun _ _ _ h => h) (Or.inl ⟨by rfl, fun w hw => by clear hw; go_simp⟩) hHeld ?_
          try simp only [Act.put, List.setIfInBounds_toArray, List.set_cons_zero, List.set_cons_succ, List.getElem_toArray, List.getElem_cons_zero, List.getElem_cons_succ]
          refine wpAnyH_done (by kernel_rfl) ?_ _
          go_wp2_with fail
          go_meet
          exact ⟨rfl, rfl, hHeld⟩
  case rest =>
    obtain ⟨rfl, rfl, g3⟩ := hcut
    rename World => w3
    have GA := Lib.hid (g_trans GA.out g3)
    have R := Lib.hid (R.out.keepn g3)
    have t2 := (FB.out.keepn g3).cell 2 (.int .i64 s2) rfl
    clear g3
    go_wp2_with fail
    refine (W2.out _).mono ?_
    rintro e w4 ⟨rfl, g4⟩
    have GA := Lib.hid (g_trans GA.out g4)
    have R := Lib.hid (R.out.keepn g4)
    clear g4 t2 FB
    rcases ez with hz | hz
    · have hz' : ¬ (n : Int) < a3 := by omega
      obtain ⟨⟨p0, q0, sl0, br0⟩, ⟨p1, q1, sl1, br1⟩, ⟨p2, q2, sl2, br2⟩, ⟨p3, q3, sl3, br3, bq1, bq2⟩⟩ := HSL.out (by omega)
      have S0 := Lib.hid sl0
      have S1 := Lib.hid sl1
      have S2 := Lib.hid sl2
      have S3 := Lib.hid sl3
      have BR := Lib.hid (And.intro (br0 w HL.out) (And.intro (br1 w HL.out) (And.intro (br2 w HL.out) (br3 w HL.out))))
      have N0 : Hid (M0.length = d0) := Lib.hid (SG0.out (by omega))
      have N1 : Hid (M1.length = d1) := Lib.hid (SG1.out (by omega))
      have N2 : Hid (M2.length = d2) := Lib.hid (SG2.out (by omega))
      have BRW := Lib.hid (And.intro bq1 (And.intro bq2 br3))
      clear bq1 bq2 sl0 sl1 sl2 sl3 br0 br1 br2 br3 HSL SG0 SG1 SG2
      go_upto_region 10 with fail
      go_cut [10] (fun s10 wx => ∃ b10 : Nat, s10 = .pointer (some ⟨b10, 0, none⟩) ∧ w4.grownBy wx none ∧ Blk wx b10 #[.int .i64 k, .int .i64 v0, .int .i64 v1, .int .i64 v2] 43 ∧ w4.heap.size ≤ b10)
      case first =>
        refine wp_region_held_drew (S := fun W' => w4.grownBy W' none) (by kernel_rfl) (g_drew (g_refl _ _)) (fun hHeld => ?_)
        refine wpAnyH_take (i := 0) (v := .slice (some ⟨bb, off, none⟩) n c) rfl (by kernel_rfl) (by kernel_rfl) (by kernel_rfl) (fun _ _ _ h => h) (Or.inl ⟨by rfl, fun w hw => by clear hw; go_simp⟩) hHeld ?_
        try simp only [Act.put, List.setIfInBounds_toArray, List.set_cons_zero, List.set_cons_succ, List.getElem_toArray, List.getElem_cons_zero, List.getElem_cons_succ]
        refine wpAnyH_take (i := 1) (v := .pointer (some ⟨bb, off, none⟩)) rfl (by kernel_rfl) (by kernel_rfl) (by kernel_rfl) (fun _ _ _ h => h) (Or.inl ⟨by rfl, fun w hw => by clear hw; go_simp⟩) hHeld ?_
        try simp only [Act.put, List.setIfInBounds_toArray, List.set_cons_zero, List.set_cons_succ, List.getElem_toArray, List.getElem_cons_zero, List.getElem_cons_succ]
        refine wpAnyH_take (i := 2) (v := .int .u8 k) rfl (by kernel_rfl) (by kernel_rfl) (by kernel_rfl) (fun _ _ _ h => h) (Or.inl ⟨by rfl, fun w hw => by have q0 := hw.cell (GA.out.cell HC0.out (by simp)) (by simp); clear hw; go_simp⟩) hHeld ?_
        try simp only [Act.put, List.setIfInBounds_toArray, List.set_cons_zero, List.set_cons_succ, List.getElem_toArray, List.getElem_cons_zero, List.getElem_cons_succ]
        refine wpAnyH_take (i := 3) (v := .int .i64 k) rfl (by kernel_rfl) (by kernel_rfl) (by kernel_rfl) (fun _ _ _ h => h) (Or.inl ⟨by rfl, fun w hw => by have ew := EW.out.2.2; clear hw; go_simp⟩) hHeld ?_
        try simp only [Act.put, List.setIfInBounds_toArray, List.set_cons_zero, List.set_cons_succ, List.getElem_toArray, List.getElem_cons_zero, List.getElem_cons_succ]
        refine wpAnyH_take (i := 4) (v := .slice (some ⟨bb, off, none⟩) n c) rfl (by kernel_rfl) (by kernel_rfl) (by kernel_rfl) (fun _ _ _ h => h) (Or.inl ⟨by rfl, fun w hw => by clear hw; go_simp⟩) hHeld ?_
        try simp only [Act.put, List.setIfInBounds_toArray, List.set_cons_zero, List.set_cons_succ, List.getElem_toArray, List.getElem_cons_zero, List.getElem_cons_succ]
        refine wpAnyH_take (i := 5) (v := .int .i64 (a1 : Int)) rfl (by kernel_rfl) (by kernel_rfl) (by kernel_rfl) (fun _ _ _ h => h) (Or.inl ⟨by rfl, fun w hw => by clear hw; go_simp⟩) hHeld ?_
        try simp only [Act.put, List.setIfInBounds_toArray, List.set_cons_zero, List.set_cons_succ, List.getElem_toArray, List.getElem_cons_zero, List.getElem_cons_succ]
        refine wpAnyH_take (i := 6) (v := .slice p0 d0 q0) rfl (by kernel_rfl) (by kernel_rfl) (by kernel_rfl) (fun _ _ _ h => h) (Or.inl ⟨by rfl, fun w hw => by have hs := S0.out w; clear hw; go_simp⟩) hHeld ?_
        try simp only [Act.put, List.setIfInBounds_toArray, List.set_cons_zero, List.set_cons_succ, List.getElem_toArray, List.getElem_cons_zero, List.getElem_cons_succ]
        refine wpAnyH_take (i := 8) (v := .slice (some ⟨bb, off, none⟩) n c) rfl (by kernel_rfl) (by kernel_rfl) (by kernel_rfl) (fun _ _ _ h => h) (Or.inl ⟨by rfl, fun w hw => by clear hw; go_simp⟩) hHeld ?_
        try simp only [Act.put, List.setIfInBounds_toArray, List.set_cons_zero, List.set_cons_succ, List.getElem_toArray, List.getElem_cons_zero, List.getElem_cons_succ]
        refine wpAnyH_take (i := 9) (v := .int .i64 (a1 : Int)) rfl (by kernel_rfl) (by kernel_rfl) (by kernel_rfl) (fun _ _ _ h => h) (Or.inl ⟨by rfl, fun w hw => by clear hw; go_simp⟩) hHeld ?_
        try simp only [Act.put, List.setIfInBounds_toArray, List.set_cons_zero, List.set_cons_succ, List.getElem_toArray, List.getElem_cons_zero, List.getElem_cons_succ]
        refine wpAnyH_take (i := 10) (v := .int .i64 (a2 : Int)) rfl (by kernel_rfl) (by kernel_rfl) (by kernel_rfl) (fun _ _ _ h => h) (Or.inl ⟨by rfl, fun w hw => by clear hw; go_simp⟩) hHeld ?_
        try simp only [Act.put, List.setIfInBounds_toArray, List.set_cons_zero, List.set_cons_succ, List.getElem_toArray, List.getElem_cons_zero, List.getElem_cons_succ]
        refine wpAnyH_take (i := 11) (v := .slice p1 d1 q1) rfl (by kernel_rfl) (by kernel_rfl) (by kernel_rfl) (fun _ _ _ h => h) (Or.inl ⟨by rfl, fun w hw => by have hs := S1.out w; clear hw; go_simp⟩) hHeld ?_
        try simp only [Act.put, List.setIfInBounds_toArray, List.set_cons_zero, List.set_cons_succ, List.getElem_toArray, List.getElem_cons_zero, List.getElem_cons_succ]
        refine wpAnyH_take (i := 13) (v := .slice (some ⟨bb, off, none⟩) n c) rfl (by kernel_rfl) (by kernel_rfl) (by kernel_rfl) (fun _ _ _ h => h) (Or.inl ⟨by rfl, fun w hw => by clear hw; go_simp⟩) hHeld ?_
        try simp only [Act.put, List.setIfInBounds_toArray, List.set_cons_zero, List.set_cons_succ, List.getElem_toArray, List.getElem_cons_zero, List.getElem_cons_succ]
        refine wpAnyH_take (i := 14) (v := .int .i64 (a2 : Int)) rfl (by kernel_rfl) (by kernel_rfl) (by kernel_rfl) (fun _ _ _ h => h) (Or.inl ⟨by rfl, fun w hw => by clear hw; go_simp⟩) hHeld ?_
        try simp only [Act.put, List.setIfInBounds_toArray, List.set_cons_zero, List.set_cons_succ, List.getElem_toArray, List.getElem_cons_zero, List.getElem_cons_succ]
        refine wpAnyH_take (i := 15) (v := .int .i64 (a3 : Int)) rfl (by kernel_rfl) (by kernel_rfl) (by kernel_rfl) (fun _ _ _ h => h) (Or.inl ⟨by rfl, fun w hw => by clear hw; go_simp⟩) hHeld ?_
        try simp only [Act.put, List.setIfInBounds_toArray, List.set_cons_zero, List.set_cons_succ, List.getElem_toArray, List.getElem_cons_zero, List.getElem_cons_succ]
        refine wpAnyH_take (i := 16) (v := .slice p2 d2 q2) rfl (by kernel_rfl) (by kernel_rfl) (by kernel_rfl) (fun _ _ _ h => h) (Or.inl ⟨by rfl, fun w hw => by have hs := S2.out w; clear hw; go_simp⟩) hHeld ?_
        try simp only [Act.put, List.setIfInBounds_toArray, List.set_cons_zero, List.set_cons_succ, List.getElem_toArray, List.getElem_cons_zero, List.getElem_cons_succ]
        refine wpAnyH_ready (rs := [7, 19]) (by kernel_rfl) (by simp) (AllReadyH.cons rfl (fun K hK => ?_) (AllReadyH.cons rfl (fun K hK => ?_) (AllReadyH.nil)))
        · go_simp
          refine Calls.mono (get_any _ _ _ M0 _ (((BR.out.1).keep GA.out).keep hHeld) N0.out (by omega)) ?_
          rintro e ywc1 ⟨rfl, ygc1⟩
          try go_wp2_with fail
          refine hK.out _ _ (g_trans hHeld ygc1) (fun hHeld => ?_)
          clear hK K ygc1
          try simp only [Act.put, List.setIfInBounds_toArray, List.set_cons_zero, List.set_cons_succ, List.getElem_toArray, List.getElem_cons_zero, List.getElem_cons_succ]
          refine wpAnyH_ready (rs := [12, 19]) (by kernel_rfl) (by simp) (AllReadyH.cons rfl (fun K hK => ?_) (AllReadyH.cons rfl (fun K hK => ?_) (AllReadyH.nil)))
          · go_simp
            refine Calls.mono (get_any _ _ _ M1 _ (((BR.out.2.1).keep GA.out).keep hHeld) N1.out (by omega)) ?_
            rintro e ywc2 ⟨rfl, ygc2⟩
            try go_wp2_with fail
            refine hK.out _ _ (g_trans hHeld ygc2) (fun hHeld => ?_)
            clear hK K ygc2
            try simp only [Act.put, List.setIfInBounds_toArray, List.set_cons_zero, List.set_cons_succ, List.getElem_toArray, List.getElem_cons_zero, List.getElem_cons_succ]
            refine wpAnyH_ready (rs := [17, 19]) (by kernel_rfl) (by simp) (AllReadyH.cons rfl (fun K hK => ?_) (AllReadyH.cons rfl (fun K hK => ?_) (AllReadyH.nil)))
            · go_simp
              refine Calls.mono (get_any _ _ _ M2 _ (((BR.out.2.2.1).keep GA.out).keep hHeld) N2.out (by omega)) ?_
              rintro e ywc3 ⟨rfl, ygc3⟩
              try go_wp2_with fail
              refine hK.out _ _ (g_trans hHeld ygc3) (fun hHeld => ?_)
              clear hK K ygc3
              try simp only [Act.put, List.setIfInBounds_toArray, List.set_cons_zero, List.set_cons_succ, List.getElem_toArray, List.getElem_cons_zero, List.getElem_cons_succ]
              refine wpAnyH_take (i := 18) (v := .agg #[.int .i64 k, .int .i64 (wrap64 (numU M0)), .int .i64 (wrap64 (numU M1)), .int .i64 (wrap64 (numU M2))]) rfl (by kernel_rfl) (by kernel_rfl) (by kernel_rfl) (fun _ _ _ h => h) (Or.inl ⟨by rfl, fun w hw => by clear hw; go_simp⟩) hHeld ?_
              try simp only [Act.put, List.setIfInBounds_toArray, List.set_cons_zero, List.set_cons_succ, List.getElem_toArray, List.getElem_cons_zero, List.getElem_cons_succ]
              refine wpAnyH_ready (rs := [19]) (by kernel_rfl) (by simp) (AllReadyH.cons rfl (fun K hK => ?_) AllReadyH.nil)
              · go_simp
                have HZ := Lib.hid hHeld.size
                have BZ := Lib.hid (newZ24 ywc3)
                have gm := g_trans hHeld (g_newZ24 ywc3)
                refine hK.out _ _ gm (fun hHeld => ?_)
                clear hK K gm
                try simp only [Act.put, List.setIfInBounds_toArray, List.set_cons_zero, List.set_cons_succ, List.getElem_toArray, List.getElem_cons_zero, List.getElem_cons_succ]
                refine wpAnyH_ready (rs := [20]) (by kernel_rfl) (by simp) (AllReadyH.cons rfl (fun K hK => ?_) AllReadyH.nil)
                rw [if_pos (by rfl)]
                refine wp_store_mid 43 _ _ rfl _ 0 #[.int .i64 k, .int .i64 (wrap64 (numU M0)), .int .i64 (wrap64 (numU M1)), .int .i64 (wrap64 (numU M2))] rfl rfl BZ.out.there info24s (by simp [Value.oneCell']) ?_
                have gS := g_in hHeld (g_setAll _ #[.int .i64 k, .int .i64 (wrap64 (numU M0)), .int .i64 (wrap64 (numU M1)), .int .i64 (wrap64 (numU M2))].toList 0 _ _ (g_refl (ywc3.alloc (.cells #[.int .i64 0, .int .i64 0, .int .i64 0, .int .i64 0] 43)) _)) HZ.out
                have BX := Lib.hid (BZ.out.setAll #[.int .i64 k, .int .i64 (wrap64 (numU M0)), .int .i64 (wrap64 (numU M1)), .int .i64 (wrap64 (numU M2))] (rfl))
                refine hK.out _ _ gS (fun hHeld => ?_)
                clear hK K
                try simp only [Act.put, List.setIfInBounds_toArray, List.set_cons_zero, List.set_cons_succ, List.getElem_toArray, List.getElem_cons_zero, List.getElem_cons_succ]
                refine wpAnyH_done (by kernel_rfl) ?_ _
                go_wp2_with fail
                go_meet
                exact ⟨_, rfl, hHeld, by rw [HV0.out, HV1.out, HV2.out]; exact BX.out, HZ.out⟩
            · go_simp
              have HZ := Lib.hid hHeld.size
              have BZ := Lib.hid (newZ24 ywc2)
              have gm := g_trans hHeld (g_newZ24 ywc2)
              refine hK.out _ _ gm (fun hHeld => ?_)
              clear hK K gm
              try simp only [Act.put, List.setIfInBounds_toArray, List.set_cons_zero, List.set_cons_succ, List.getElem_toArray, List.getElem_cons_zero, List.getElem_cons_succ]
              refine wpAnyH_ready (rs := [17]) (by kernel_rfl) (by simp) (AllReadyH.cons rfl (fun K hK => ?_) (AllReadyH.nil))
              · go_simp
                refine Calls.mono (get_any _ _ _ M2 _ (((BR.out.2.2.1).keep GA.out).keep hHeld) N2.out (by omega)) ?_
                rintro e ywc4 ⟨rfl, ygc4⟩
                try go_wp2_with fail
                have BZ := Lib.hid (BZ.out.keepn ygc4)
                refine hK.out _ _ (g_trans hHeld ygc4) (fun hHeld => ?_)
                clear hK K ygc4
                try simp only [Act.put, List.setIfInBounds_toArray, List.set_cons_zero, List.set_cons_succ, List.getElem_toArray, List.getElem_cons_zero, List.getElem_cons_succ]
                refine wpAnyH_take (i := 18) (v := .agg #[.int .i64 k, .int .i64 (wrap64 (numU M0)), .int .i64 (wrap64 (numU M1)), .int .i64 (wrap64 (numU M2))]) rfl (by kernel_rfl) (by kernel_rfl) (by kernel_rfl) (fun _ _ _ h => h) (Or.inl ⟨by rfl, fun w hw => by clear hw; go_simp⟩) hHeld ?_
                try simp only [Act.put, List.setIfInBounds_toArray, List.set_cons_zero, List.set_cons_succ, List.getElem_toArray, List.getElem_cons_zero, List.getElem_cons_succ]
                refine wpAnyH_ready (rs := [20]) (by kernel_rfl) (by simp) (AllReadyH.cons rfl (fun K hK => ?_) AllReadyH.nil)
                rw [if_pos (by rfl)]
                refine wp_store_mid 43 _ _ rfl _ 0 #[.int .i64 k, .int .i64 (wrap64 (numU M0)), .int .i64 (wrap64 (numU M1)), .int .i64 (wrap64 (numU M2))] rfl rfl BZ.out.there info24s (by simp [Value.oneCell']) ?_
                have gS := g_in hHeld (g_setAll _ #[.int .i64 k, .int .i64 (wrap64 (numU M0)), .int .i64 (wrap64 (numU M1)), .int .i64 (wrap64 (numU M2))].toList 0 _ _ (g_refl ywc4 _)) HZ.out
                have BX := Lib.hid (BZ.out.setAll #[.int .i64 k, .int .i64 (wrap64 (numU M0)), .int .i64 (wrap64 (numU M1)), .int .i64 (wrap64 (numU M2))] (rfl))
                refine hK.out _ _ gS (fun hHeld => ?_)
                clear hK K
                try simp only [Act.put, List.setIfInBounds_toArray, List.set_cons_zero, List.set_cons_succ, List.getElem_toArray, List.getElem_cons_zero, List.getElem_cons_succ]
                refine wpAnyH_done (by kernel_rfl) ?_ _
                go_wp2_with fail
                go_meet
                exact ⟨_, rfl, hHeld, by rw [HV0.out, HV1.out, HV2.out]; exact BX.out, HZ.out⟩
          · go_simp
            have HZ := Lib.hid hHeld.size
            have BZ := Lib.hid (newZ24 ywc1)
            have gm := g_trans hHeld (g_newZ24 ywc1)
            refine hK.out _ _ gm (fun hHeld => ?_)
            clear hK K gm
            try simp only [Act.put, List.setIfInBounds_toArray, List.set_cons_zero, List.set_cons_succ, List.getElem_toArray, List.getElem_cons_zero, List.getElem_cons_succ]
            refine wpAnyH_ready (rs := [12]) (by kernel_rfl) (by simp) (AllReadyH.cons rfl (fun K hK => ?_) (AllReadyH.nil))
            · go_simp
              refine Calls.mono (get_any _ _ _ M1 _ (((BR.out.2.1).keep GA.out).keep hHeld) N1.out (by omega)) ?_
              rintro e ywc5 ⟨rfl, ygc5⟩
              try go_wp2_with fail
              have BZ := Lib.hid (BZ.out.keepn ygc5)
              refine hK.out _ _ (g_trans hHeld ygc5) (fun hHeld => ?_)
              clear hK K ygc5
              try simp only [Act.put, List.setIfInBounds_toArray, List.set_cons_zero, List.set_cons_succ, List.getElem_toArray, List.getElem_cons_zero, List.getElem_cons_succ]
              refine wpAnyH_ready (rs := [17]) (by kernel_rfl) (by simp) (AllReadyH.cons rfl (fun K hK => ?_) (AllReadyH.nil))
              · go_simp
                refine Calls.mono (get_any _ _ _ M2 _ (((BR.out.2.2.1).keep GA.out).keep hHeld) N2.out (by omega)) ?_
                rintro e ywc6 ⟨rfl, ygc6⟩
                try go_wp2_with fail
                have BZ := Lib.hid (BZ.out.keepn ygc6)
                refine hK.out _ _ (g_trans hHeld ygc6) (fun hHeld => ?_)
                clear hK K ygc6
                try simp only [Act.put, List.setIfInBounds_toArray, List.set_cons_zero, List.set_cons_succ, List.getElem_toArray, List.getElem_cons_zero, List.getElem_cons_succ]
                refine wpAnyH_take (i := 18) (v := .agg #[.int .i64 k, .int .i64 (wrap64 (numU M0)), .int .i64 (wrap64 (numU M1)), .int .i64 (wrap64 (numU M2))]) rfl (by kernel_rfl) (by kernel_rfl) (by kernel_rfl) (fun _ _ _ h => h) (Or.inl ⟨by rfl, fun w hw => by clear hw; go_simp⟩) hHeld ?_
                try simp only [Act.put, List.setIfInBounds_toArray, List.set_cons_zero, List.set_cons_succ, List.getElem_toArray, List.getElem_cons_zero, List.getElem_cons_succ]
                refine wpAnyH_ready (rs := [20]) (by kernel_rfl) (by simp) (AllReadyH.cons rfl (fun K hK => ?_) AllReadyH.nil)
                rw [if_pos (by rfl)]
                refine wp_store_mid 43 _ _ rfl _ 0 #[.int .i64 k, .int .i64 (wrap64 (numU M0)), .int .i64 (wrap64 (numU M1)), .int .i64 (wrap64 (numU M2))] rfl rfl BZ.out.there info24s (by simp [Value.oneCell']) ?_
                have gS := g_in hHeld (g_setAll _ #[.int .i64 k, .int .i64 (wrap64 (numU M0)), .int .i64 (wrap64 (numU M1)), .int .i64 (wrap64 (numU M2))].toList 0 _ _ (g_refl ywc6 _)) HZ.out
                have BX := Lib.hid (BZ.out.setAll #[.int .i64 k, .int .i64 (wrap64 (numU M0)), .int .i64 (wrap64 (numU M1)), .int .i64 (wrap64 (numU M2))] (rfl))
                refine hK.out _ _ gS (fun hHeld => ?_)
                clear hK K
                try simp only [Act.put, List.setIfInBounds_toArray, List.set_cons_zero, List.set_cons_succ, List.getElem_toArray, List.getElem_cons_zero, List.getElem_cons_succ]
                refine wpAnyH_done (by kernel_rfl) ?_ _
                go_wp2_with fail
                go_meet
                exact ⟨_, rfl, hHeld, by rw [HV0.out, HV1.out, HV2.out]; exact BX.out, HZ.out⟩
        · go_simp
          have HZ := Lib.hid hHeld.size
          have BZ := Lib.hid (newZ24 w4.drew)
          have gm := g_trans hHeld (g_newZ24 w4.drew)
          refine hK.out _ _ gm (fun hHeld => ?_)
          clear hK K gm
          try simp only [Act.put, List.setIfInBounds_toArray, List.set_cons_zero, List.set_cons_succ, List.getElem_toArray, List.getElem_cons_zero, List.getElem_cons_succ]
          refine wpAnyH_ready (rs := [7]) (by kernel_rfl) (by simp) (AllReadyH.cons rfl (fun K hK => ?_) (AllReadyH.nil))
          · go_simp
            refine Calls.mono (get_any _ _ _ M0 _ (((BR.out.1).keep GA.out).keep hHeld) N0.out (by omega)) ?_
            rintro e ywc7 ⟨rfl, ygc7⟩
            try go_wp2_with fail
            have BZ := Lib.hid (BZ.out.keepn ygc7)
            refine hK.out _ _ (g_trans hHeld ygc7) (fun hHeld => ?_)
            clear hK K ygc7
            try simp only [Act.put, List.setIfInBounds_toArray, List.set_cons_zero, List.set_cons_succ, List.getElem_toArray, List.getElem_cons_zero, List.getElem_cons_succ]
            refine wpAnyH_ready (rs := [12]) (by kernel_rfl) (by simp) (AllReadyH.cons rfl (fun K hK => ?_) (AllReadyH.nil))
            · go_simp
              refine Calls.mono (get_any _ _ _ M1 _ (((BR.out.2.1).keep GA.out).keep hHeld) N1.out (by omega)) ?_
              rintro e ywc8 ⟨rfl, ygc8⟩
              try go_wp2_with fail
              have BZ := Lib.hid (BZ.out.keepn ygc8)
              refine hK.out _ _ (g_trans hHeld ygc8) (fun hHeld => ?_)
              clear hK K ygc8
              try simp only [Act.put, List.setIfInBounds_toArray, List.set_cons_zero, List.set_cons_succ, List.getElem_toArray, List.getElem_cons_zero, List.getElem_cons_succ]
              refine wpAnyH_ready (rs := [17]) (by kernel_rfl) (by simp) (AllReadyH.cons rfl (fun K hK => ?_) (AllReadyH.nil))
              · go_simp
                refine Calls.mono (get_any _ _ _ M2 _ (((BR.out.2.2.1).keep GA.out).keep hHeld) N2.out (by omega)) ?_
                rintro e ywc9 ⟨rfl, ygc9⟩
                try go_wp2_with fail
                have BZ := Lib.hid (BZ.out.keepn ygc9)
                refine hK.out _ _ (g_trans hHeld ygc9) (fun hHeld => ?_)
                clear hK K ygc9
                try simp only [Act.put, List.setIfInBounds_toArray, List.set_cons_zero, List.set_cons_succ, List.getElem_toArray, List.getElem_cons_zero, List.getElem_cons_succ]
                refine wpAnyH_take (i := 18) (v := .agg #[.int .i64 k, .int .i64 (wrap64 (numU M0)), .int .i64 (wrap64 (numU M1)), .int .i64 (wrap64 (numU M2))]) rfl (by kernel_rfl) (by kernel_rfl) (by kernel_rfl) (fun _ _ _ h => h) (Or.inl ⟨by rfl, fun w hw => by clear hw; go_simp⟩) hHeld ?_
                try simp only [Act.put, List.setIfInBounds_toArray, List.set_cons_zero, List.set_cons_succ, List.getElem_toArray, List.getElem_cons_zero, List.getElem_cons_succ]
                refine wpAnyH_ready (rs := [20]) (by kernel_rfl) (by simp) (AllReadyH.cons rfl (fun K hK => ?_) AllReadyH.nil)
                rw [if_pos (by rfl)]
                refine wp_store_mid 43 _ _ rfl _ 0 #[.int .i64 k, .int .i64 (wrap64 (numU M0)), .int .i64 (wrap64 (numU M1)), .int .i64 (wrap64 (numU M2))] rfl rfl BZ.out.there info24s (by simp [Value.oneCell']) ?_
                have gS := g_in hHeld (g_setAll _ #[.int .i64 k, .int .i64 (wrap64 (numU M0)), .int .i64 (wrap64 (numU M1)), .int .i64 (wrap64 (numU M2))].toList 0 _ _ (g_refl ywc9 _)) HZ.out
                have BX := Lib.hid (BZ.out.setAll #[.int .i64 k, .int .i64 (wrap64 (numU M0)), .int .i64 (wrap64 (numU M1)), .int .i64 (wrap64 (numU M2))] (rfl))
                refine hK.out _ _ gS (fun hHeld => ?_)
                clear hK K
                try simp only [Act.put, List.setIfInBounds_toArray, List.set_cons_zero, List.set_cons_succ, List.getElem_toArray, List.getElem_cons_zero, List.getElem_cons_succ]
                refine wpAnyH_done (by kernel_rfl) ?_ _
                go_wp2_with fail
                go_meet
                exact ⟨_, rfl, hHeld, by rw [HV0.out, HV1.out, HV2.out]; exact BX.out, HZ.out⟩
      case rest =>
        obtain ⟨b10, rfl, g5, hb10, hz10⟩ := hcut
        have s04 := R.out.lt
        rename World => w5
        have GA := Lib.hid (g_trans GA.out g5)
        have R := Lib.hid (R.out.keepn g5)
        have t0 := hb10.cell 0 (.int .i64 k) rfl
        have t1 := hb10.cell 1 (.int .i64 v0) rfl
        have t2 := hb10.cell 2 (.int .i64 v1) rfl
        have t3 := hb10.cell 3 (.int .i64 v2) rfl
        have B10 := Lib.hid hb10
        clear hb10 g5
        go_wp2_with fail
        refine (HIS.out _ _ _ _).mono ?_
        rintro e w6 ⟨rfl, g6⟩
        have GA := Lib.hid (g_trans GA.out g6)
        have R := Lib.hid (R.out.keepn g6)
        have B10 := Lib.hid (B10.out.keepn g6)
        clear g6 t0 t1 t2 t3
        cases hok : okI k v0 v1 v2
        · have r0 := R.out.cell 0 (.int .i64 0) rfl
          have r1 := R.out.cell 1 (.int .i64 0) rfl
          have r2 := R.out.cell 2 (.int .i64 0) rfl
          have r3 := R.out.cell 3 (.int .i64 0) rfl
          have f0 := R.out.free 0
          have f1 := R.out.free 1
          have f2 := R.out.free 2
          have f3 := R.out.free 3
          go_wp2_with fail
          have hF := (((R.out.set 0 (.int .i64 0)).set 1 (.int .i64 0)).set 2 (.int .i64 0)).set 3 (.int .i64 0)
          have k0 := hF.cell 0 (.int .i64 0) (by simp)
          have k1 := hF.cell 1 (.int .i64 0) (by simp)
          have k2 := hF.cell 2 (.int .i64 0) (by simp)
          have k3 := hF.cell 3 (.int .i64 0) (by simp)
          have gs := g_set (g_set (g_set (g_set (g_refl w6 (some w.heap.size)) (p := ⟨w.heap.size, 0, none⟩) (.inl rfl) (.int .i64 0)) (p := ⟨w.heap.size, 1, none⟩) (.inl rfl) (.int .i64 0)) (p := ⟨w.heap.size, 2, none⟩) (.inl rfl) (.int .i64 0)) (p := ⟨w.heap.size, 3, none⟩) (.inl rfl) (.int .i64 0)
          exact bodyPost_ret (v := .tuple #[.agg #[.int .i64 0, .int .i64 0, .int .i64 0, .int .i64 0], .slice none 0 0, .int .i64 100]) (by simp [results, Try.results24, go_sem, k0, k1, k2, k3]) rfl (rdecq_bad (g_in GA.out gs (Nat.le_refl _)) (by omega) hok)
        · go_upto_region 13 with fail
          refine wp_region_held_drew (S := fun W' => w.grownBy W' none ∧ Blk W' b10 #[.int .i64 k, .int .i64 v0, .int .i64 v1, .int .i64 v2] 43) (by kernel_rfl) (⟨g_drew GA.out, B10.out.drew⟩) (fun hHeld => ?_)
          refine wpAnyH_take (i := 0) (v := .agg #[.int .i64 k, .int .i64 v0, .int .i64 v1, .int .i64 v2]) rfl (by kernel_rfl) (by kernel_rfl) (by kernel_rfl) (fun _ _ _ h => h) (Or.inl ⟨by rfl, fun w hw => by have q0 := hw.2.cell 0 (.int .i64 k) rfl; have q1 := hw.2.cell 1 (.int .i64 v0) rfl; have q2 := hw.2.cell 2 (.int .i64 v1) rfl; have q3 := hw.2.cell 3 (.int .i64 v2) rfl; clear hw; go_simp⟩) hHeld ?_
          try simp only [Act.put, List.setIfInBounds_toArray, List.set_cons_zero, List.set_cons_succ, List.getElem_toArray, List.getElem_cons_zero, List.getElem_cons_succ]
          refine wpAnyH_take (i := 1) (v := .slice (some ⟨bb, off, none⟩) n c) rfl (by kernel_rfl) (by kernel_rfl) (by kernel_rfl) (fun _ _ _ h => h) (Or.inl ⟨by rfl, fun w hw => by clear hw; go_simp⟩) hHeld ?_
          try simp only [Act.put, List.setIfInBounds_toArray, List.set_cons_zero, List.set_cons_succ, List.getElem_toArray, List.getElem_cons_zero, List.getElem_cons_succ]
          refine wpAnyH_take (i := 2) (v := .int .i64 (a3 : Int)) rfl (by kernel_rfl) (by kernel_rfl) (by kernel_rfl) (fun _ _ _ h => h) (Or.inl ⟨by rfl, fun w hw => by clear hw; go_simp⟩) hHeld ?_
          try simp only [Act.put, List.setIfInBounds_toArray, List.set_cons_zero, List.set_cons_succ, List.getElem_toArray, List.getElem_cons_zero, List.getElem_cons_succ]
          refine wpAnyH_take (i := 3) (v := .slice p3 (n - a3) q3) rfl (by kernel_rfl) (by kernel_rfl) (by kernel_rfl) (fun _ _ _ h => h) (Or.inl ⟨by rfl, fun w hw => by have hs := S3.out w; clear hw; go_simp⟩) hHeld ?_
          try simp only [Act.put, List.setIfInBounds_toArray, List.set_cons_zero, List.set_cons_succ, List.getElem_toArray, List.getElem_cons_zero, List.getElem_cons_succ]
          refine wpAnyH_ready (rs := [4]) (by kernel_rfl) (by simp) (AllReadyH.cons rfl (fun K hK => ?_) (AllReadyH.nil))
          · rw [if_pos (by rfl)]
            refine wp_store_mid 43 _ _ rfl _ 0 #[.int .i64 k, .int .i64 v0, .int .i64 v1, .int .i64 v2] rfl rfl R.out.there info24s (one4 _ _ _ _) ?_
            have gS := g_setAll w.heap.size #[.int .i64 k, .int .i64 v0, .int .i64 v1, .int .i64 v2].toList 0 _ _ (g_refl w6.drew (some w.heap.size))
            have BX := Lib.hid (R.out.drew.setAll #[.int .i64 k, .int .i64 v0, .int .i64 v1, .int .i64 v2] rfl)
            refine hK.out _ _ (⟨g_in hHeld.1 gS (Nat.le_refl _), hHeld.2.keeps gS (by omega)⟩) (fun hHeld => ?_)
            clear hK K
            try simp only [Act.put, List.setIfInBounds_toArray, List.set_cons_zero, List.set_cons_succ, List.getElem_toArray, List.getElem_cons_zero, List.getElem_cons_succ]
            refine wpAnyH_take (i := 5) (v := .slice p3 (n - a3) q3) rfl (by kernel_rfl) (by kernel_rfl) (by kernel_rfl) (fun _ _ _ h => h) (Or.inl ⟨by rfl, fun w hw => by clear hw; go_simp⟩) hHeld ?_
            try simp only [Act.put, List.setIfInBounds_toArray, List.set_cons_zero, List.set_cons_succ, List.getElem_toArray, List.getElem_cons_zero, List.getElem_cons_succ]
            refine wpAnyH_take (i := 6) (v := .int .i64 0) rfl (by kernel_rfl) (by kernel_rfl) (by kernel_rfl) (fun _ _ _ h => h) (Or.inl ⟨by rfl, fun w hw => by clear hw; go_simp⟩) hHeld ?_
            try simp only [Act.put, List.setIfInBounds_toArray, List.set_cons_zero, List.set_cons_succ, List.getElem_toArray, List.getElem_cons_zero, List.getElem_cons_succ]
            refine wpAnyH_done (by kernel_rfl) ?_ _
            go_wp2_with fail
            have k0 := BX.out.cell 0 (.int .i64 k) rfl
            have k1 := BX.out.cell 1 (.int .i64 v0) rfl
            have k2 := BX.out.cell 2 (.int .i64 v1) rfl
            have k3 := BX.out.cell 3 (.int .i64 v2) rfl
            exact bodyPost_ret (v := .tuple #[.agg #[.int .i64 k, .int .i64 v0, .int .i64 v1, .int .i64 v2], .slice p3 (n - a3) q3, .int .i64 0]) (by simp [results, Try.results24, go_sem, k0, k1, k2, k3]) rfl (rdecq_good hHeld.1 (by omega) hok BRW.out.1 BRW.out.2.1 BRW.out.2.2)
    · have hz' : (n : Int) < a3 := hz
      have r0 := R.out.cell 0 (.int .i64 0) rfl
      have r1 := R.out.cell 1 (.int .i64 0) rfl
      have r2 := R.out.cell 2 (.int .i64 0) rfl
      have r3 := R.out.cell 3 (.int .i64 0) rfl
      have f0 := R.out.free 0
      have f1 := R.out.free 1
      have f2 := R.out.free 2
      have f3 := R.out.free 3
      go_wp2_with fail
      have hF := (((R.out.set 0 (.int .i64 0)).set 1 (.int .i64 0)).set 2 (.int .i64 0)).set 3 (.int .i64 0)
      have k0 := hF.cell 0 (.int .i64 0) (by simp)
      have k1 := hF.cell 1 (.int .i64 0) (by simp)
      have k2 := hF.cell 2 (.int .i64 0) (by simp)
      have k3 := hF.cell 3 (.int .i64 0) (by simp)
      have gs := g_set (g_set (g_set (g_set (g_refl w4 (some w.heap.size)) (p := ⟨w.heap.size, 0, none⟩) (.inl rfl) (.int .i64 0)) (p := ⟨w.heap.size, 1, none⟩) (.inl rfl) (.int .i64 0)) (p := ⟨w.heap.size, 2, none⟩) (.inl rfl) (.int .i64 0)) (p := ⟨w.heap.size, 3, none⟩) (.inl rfl) (.int .i64 0)
      exact bodyPost_ret (v := .tuple #[.agg #[.int .i64 0, .int .i64 0, .int .i64 0, .int .i64 0], .slice none 0 0, .int .i64 6]) (by simp [results, Try.results24, go_sem, k0, k1, k2, k3]) rfl (rdecq_short (g_in GA.out gs (Nat.le_refl _)) (by omega))
end Go.Proofs.Ytmckaimgeflncaa

