/- The table of records: Take, Let, New. -/
import Derived.Test.YtmnldcnlnbpbbaaRRB
namespace Go.Proofs.YtmnldcnlnbpbbaaRR
open Go.RowKit
set_option linter.unusedVariables false

theorem info64 : (Try.prog.info? 64).map (fun i => (i.zero, i.size, i.bytes)) = some (some (.agg #[.int .i64 0, .int .i64 0]), 2, 16) := by kernel_rfl
theorem made_cF (m : Nat) : ∀ i, i < m → (madeCells #[Value.int .i64 0, .int .i64 0] m)[i]? = some (cF (fun _ => 0) (fun _ => 0) i) := fun i hi => by
  rcases Nat.mod_two_eq_zero_or_one i with e | e <;> simp [madeCells, cF, hi, e]

set_option maxHeartbeats 800000 in
theorem new_any (n : Nat) (w : World) (h0 : 0 < n) (h1 : n < 100) :
    Calls Try.prog 11 #[.int .i64 n] w fun e w' => ∃ b g, e = .returned (.tuple #[.pointer (some ⟨b, 0, none⟩), .int .i64 0]) ∧ w.heap.size ≤ b ∧ w.heap.size ≤ g ∧ Tb w' b g n (fun _ => 0) (fun _ => 0) ∧ w.grownBy w' none := by
  obtain ⟨i0, hi, hz0, hz1, hz2⟩ := info_parts info64
  have hmk := run_make (P := Try.prog) w 54 64 i0 _ Try.underlying54 hi hz0 .i64 .i64 n n (by omega) (Int.le_refl _) (by rw [hz2]; omega) (by omega)
  simp only [Int.toNat_natCast, hz1, Value.cells] at hmk
  have hh1 : (1 : Int) ≤ n := by omega
  have hh2 : (n : Int) ≤ 1024 := by omega
  go_enter Try.func11, Try.ntmps11
  go_wp2_with fail
  go_ret2
  have bb := Blk.new (w.alloc (.cells (madeCells #[.int .i64 0, .int .i64 0] (n * 2)) 64)) #[.slice (some ⟨w.heap.size, 0, none⟩) n n] 56
  simp only [World.size_alloc] at bb
  refine ⟨_, _, rfl, ?_, Nat.le_refl _, ⟨bb, ABlk.of ((Blk.new w (madeCells #[.int .i64 0, .int .i64 0] (n * 2)) 64).keepn (g_alloc (g_refl _ none) _)) (size_madeCells _ _) (made_cF (n * 2)), by simp⟩, g_alloc (g_alloc (g_refl _ _) _) _⟩
  simp

theorem field0 (a b c : Int) (w : World) : (Instr.field 24 (.agg #[.int .i64 a, .int .i64 b, .int .i64 c]) 0).run Try.prog w = .ok (.int .i64 a) w := by kernel_rfl

set_option maxHeartbeats 800000 in
theorem take_hit (b g n : Nat) (W T : Nat → Int) (w : World) (h : Tb w b g n W T) (i : Nat) (hi : i < n) (hn : n < 4000) (v K N I : Int) (hv : okR 0 v 0) (hW : W i = 4 * v) (hR : okR K N I) (hK : K ≠ 0) (hT : 0 ≤ T i ∧ T i < 1000) :
    Calls Try.prog 13 #[.pointer (some ⟨b, 0, none⟩), .int .i64 i, .int .i64 v, .agg #[.int .i64 K, .int .i64 N, .int .i64 I]] w fun e w' => e = .returned (.bool true) ∧ Tb w' b g n (upd W i (4 * N + K)) (upd T i (T i + 1)) ∧ w.grownBy w' (some g) := by
  have g0 := g_alloc (g_refl w none) (.cells #[.int .i64 K, .int .i64 N, .int .i64 I] 24)
  have hb0 := Blk.new w #[.int .i64 K, .int .i64 N, .int .i64 I] 24
  have q0 : (K == 0) = false := by simp [hK]
  obtain ⟨y, hy⟩ : ∃ y, T i = y := ⟨_, rfl⟩
  rw [hy] at hT ⊢
  obtain ⟨hT0, hT1⟩ := hT
  obtain ⟨z, hz⟩ : ∃ z, z = 4 * v := ⟨_, rfl⟩
  rw [← hz] at hW
  have hwd : ∀ w', w.grownBy w' none → w'.cell? ⟨b, 0, none⟩ = some (.slice (some ⟨g, 0, none⟩) n n) ∧ w'.cell? ⟨g, i * 2, none⟩ = some (.int .i64 z) ∧ w'.cell? ⟨g, i * 2 + 1, none⟩ = some (.int .i64 y) ∧ w'.frozen? ⟨g, i * 2, none⟩ = false ∧ w'.frozen? ⟨g, i * 2 + 1, none⟩ = false := fun w' k => ⟨(h.keep k).c, by rw [← hW]; exact (h.keep k).word hi, by rw [← hy]; exact (h.keep k).taken hi, (h.keep k).2.1.free _, (h.keep k).2.1.free _⟩
  have HWD := Lib.hid hwd
  have HB0 := Lib.hid hb0
  have lb := h.1.lt
  have lg := h.2.1.lt
  have H := Lib.hid h
  have HV := Lib.hid hv
  have HR := Lib.hid hR
  have HY := Lib.hid hy
  clear hwd hy h hb0 hv hR hW
  go_enter Try.func13, Try.ntmps13
  go_wp2_with fail
  refine (word_ok 0 v 0 _ HV.out).mono ?_
  rintro e w1 ⟨rfl, hg1⟩
  have x0 := (HB0.out.keepn hg1).cell 0 (.int .i64 K) rfl
  have x1 := (HB0.out.keepn hg1).cell 1 (.int .i64 N) rfl
  have x2 := (HB0.out.keepn hg1).cell 2 (.int .i64 I) rfl
  go_wp2_with fail
  refine (word_ok K N I _ HR.out).mono ?_
  rintro e w2 ⟨rfl, hg2⟩
  have gA := g_trans (g_trans g0 hg1) hg2
  have x0 := ((HB0.out.keepn hg1).keepn hg2).cell 0 (.int .i64 K) rfl
  go_wp2_with fail
  refine (has_any _ _ _ _ _ _ (H.out.keep gA) i hi).mono ?_
  rintro e w3 ⟨rfl, hg3⟩
  have gB := g_trans gA hg3
  obtain ⟨p1, p2, p3, p4, p5⟩ := HWD.out w3 gB
  have x0 := (((HB0.out.keepn hg1).keepn hg2).keepn hg3).cell 0 (.int .i64 K) rfl
  rw [hz] at p2
  go_wp2_with fail
  refine (cas_hit _ _ _ _ _ p2 p4).mono ?_
  rintro e w4 ⟨rfl, rfl⟩
  clear p2 p3 p4 p5 x0 p1
  have H4 := Lib.hid ((H.out.keep gB).setW hi (4 * N + K))
  have c4 := H4.out.c
  have y4 := H4.out.taken hi
  have f4 := H4.out.2.1.free (i * 2 + 1)
  rw [HY.out] at y4
  go_wp2_with fail
  refine (add_any _ _ _ _ _ y4 f4 (by omega) (by omega)).mono ?_
  rintro e w5 ⟨rfl, rfl⟩
  go_wp2_with fail
  go_ret
  exact ⟨rfl, H4.out.setT hi _, g_set (g_set (g_none gB (some g)) (p := ⟨g, i * 2, none⟩) (.inl rfl) _) (p := ⟨g, i * 2 + 1, none⟩) (.inl rfl) _⟩

set_option maxHeartbeats 800000 in
theorem take_a (b g n : Nat) (W T : Nat → Int) (w : World) (h : Tb w b g n W T) (i : Nat) (hi : i < n) (hn : n < 4000) (v K N I : Int) (hv : okR 0 v 0) (hR : ¬ okR K N I) :
    Calls Try.prog 13 #[.pointer (some ⟨b, 0, none⟩), .int .i64 i, .int .i64 v, .agg #[.int .i64 K, .int .i64 N, .int .i64 I]] w fun e w' => e = .returned (.bool false) ∧ w.grownBy w' none := by
  have g0 := g_alloc (g_refl w none) (.cells #[.int .i64 K, .int .i64 N, .int .i64 I] 24)
  have hb0 := Blk.new w #[.int .i64 K, .int .i64 N, .int .i64 I] 24
  obtain ⟨y, hy⟩ : ∃ y, T i = y := ⟨_, rfl⟩
  obtain ⟨z, hW⟩ : ∃ z, W i = z := ⟨_, rfl⟩
  have hwd : ∀ w', w.grownBy w' none → w'.cell? ⟨b, 0, none⟩ = some (.slice (some ⟨g, 0, none⟩) n n) ∧ w'.cell? ⟨g, i * 2, none⟩ = some (.int .i64 z) ∧ w'.cell? ⟨g, i * 2 + 1, none⟩ = some (.int .i64 y) ∧ w'.frozen? ⟨g, i * 2, none⟩ = false ∧ w'.frozen? ⟨g, i * 2 + 1, none⟩ = false := fun w' k => ⟨(h.keep k).c, by rw [← hW]; exact (h.keep k).word hi, by rw [← hy]; exact (h.keep k).taken hi, (h.keep k).2.1.free _, (h.keep k).2.1.free _⟩
  have HWD := Lib.hid hwd
  have HB0 := Lib.hid hb0
  have lb := h.1.lt
  have lg := h.2.1.lt
  have H := Lib.hid h
  have HV := Lib.hid hv
  have HR := Lib.hid hR
  clear hwd hy h hb0 hv hR hW
  go_enter Try.func13, Try.ntmps13
  go_wp2_with fail
  refine (word_ok 0 v 0 _ HV.out).mono ?_
  rintro e w1 ⟨rfl, hg1⟩
  have x0 := (HB0.out.keepn hg1).cell 0 (.int .i64 K) rfl
  have x1 := (HB0.out.keepn hg1).cell 1 (.int .i64 N) rfl
  have x2 := (HB0.out.keepn hg1).cell 2 (.int .i64 I) rfl
  go_wp2_with fail
  refine (word_bad K N I _ HR.out).mono ?_
  rintro e w2 ⟨rfl, hg2⟩
  have gA := g_trans (g_trans g0 hg1) hg2
  have x0 := ((HB0.out.keepn hg1).keepn hg2).cell 0 (.int .i64 K) rfl
  go_wp2_with fail
  refine (has_any _ _ _ _ _ _ (H.out.keep gA) i hi).mono ?_
  rintro e w3 ⟨rfl, hg3⟩
  have gB := g_trans gA hg3
  obtain ⟨p1, p2, p3, p4, p5⟩ := HWD.out w3 gB
  have x0 := (((HB0.out.keepn hg1).keepn hg2).keepn hg3).cell 0 (.int .i64 K) rfl
  go_wp2_with fail
  go_ret
  exact ⟨rfl, gB⟩

set_option maxHeartbeats 800000 in
theorem take_b (b g n : Nat) (W T : Nat → Int) (w : World) (h : Tb w b g n W T) (i : Nat) (hi : i < n) (hn : n < 4000) (v K N I : Int) (hv : okR 0 v 0) (hR : okR K N I) (hK : K = 0) :
    Calls Try.prog 13 #[.pointer (some ⟨b, 0, none⟩), .int .i64 i, .int .i64 v, .agg #[.int .i64 K, .int .i64 N, .int .i64 I]] w fun e w' => e = .returned (.bool false) ∧ w.grownBy w' none := by
  have g0 := g_alloc (g_refl w none) (.cells #[.int .i64 K, .int .i64 N, .int .i64 I] 24)
  have hb0 := Blk.new w #[.int .i64 K, .int .i64 N, .int .i64 I] 24
  subst hK
  obtain ⟨y, hy⟩ : ∃ y, T i = y := ⟨_, rfl⟩
  obtain ⟨z, hW⟩ : ∃ z, W i = z := ⟨_, rfl⟩
  have hwd : ∀ w', w.grownBy w' none → w'.cell? ⟨b, 0, none⟩ = some (.slice (some ⟨g, 0, none⟩) n n) ∧ w'.cell? ⟨g, i * 2, none⟩ = some (.int .i64 z) ∧ w'.cell? ⟨g, i * 2 + 1, none⟩ = some (.int .i64 y) ∧ w'.frozen? ⟨g, i * 2, none⟩ = false ∧ w'.frozen? ⟨g, i * 2 + 1, none⟩ = false := fun w' k => ⟨(h.keep k).c, by rw [← hW]; exact (h.keep k).word hi, by rw [← hy]; exact (h.keep k).taken hi, (h.keep k).2.1.free _, (h.keep k).2.1.free _⟩
  have HWD := Lib.hid hwd
  have HB0 := Lib.hid hb0
  have lb := h.1.lt
  have lg := h.2.1.lt
  have H := Lib.hid h
  have HV := Lib.hid hv
  have HR := Lib.hid hR
  clear hwd hy h hb0 hv hR hW
  go_enter Try.func13, Try.ntmps13
  go_wp2_with fail
  refine (word_ok 0 v 0 _ HV.out).mono ?_
  rintro e w1 ⟨rfl, hg1⟩
  have x0 := (HB0.out.keepn hg1).cell 0 (.int .i64 0) rfl
  have x1 := (HB0.out.keepn hg1).cell 1 (.int .i64 N) rfl
  have x2 := (HB0.out.keepn hg1).cell 2 (.int .i64 I) rfl
  go_wp2_with fail
  refine (word_ok 0 N I _ HR.out).mono ?_
  rintro e w2 ⟨rfl, hg2⟩
  have gA := g_trans (g_trans g0 hg1) hg2
  have x0 := ((HB0.out.keepn hg1).keepn hg2).cell 0 (.int .i64 0) rfl
  go_wp2_with fail
  refine (has_any _ _ _ _ _ _ (H.out.keep gA) i hi).mono ?_
  rintro e w3 ⟨rfl, hg3⟩
  have gB := g_trans gA hg3
  obtain ⟨p1, p2, p3, p4, p5⟩ := HWD.out w3 gB
  have x0 := (((HB0.out.keepn hg1).keepn hg2).keepn hg3).cell 0 (.int .i64 0) rfl
  go_wp2_with fail
  go_ret
  exact ⟨rfl, gB⟩

set_option maxHeartbeats 800000 in
theorem take_c (b g n : Nat) (W T : Nat → Int) (w : World) (h : Tb w b g n W T) (i : Nat) (hi : i < n) (hn : n < 4000) (v K N I : Int) (hv : okR 0 v 0) (hR : okR K N I) (hK : K ≠ 0) (hne : ¬ W i = 4 * v) :
    Calls Try.prog 13 #[.pointer (some ⟨b, 0, none⟩), .int .i64 i, .int .i64 v, .agg #[.int .i64 K, .int .i64 N, .int .i64 I]] w fun e w' => e = .returned (.bool false) ∧ w.grownBy w' none := by
  have g0 := g_alloc (g_refl w none) (.cells #[.int .i64 K, .int .i64 N, .int .i64 I] 24)
  have hb0 := Blk.new w #[.int .i64 K, .int .i64 N, .int .i64 I] 24
  have q0 : (K == 0) = false := by simp [hK]
  obtain ⟨y, hy⟩ : ∃ y, T i = y := ⟨_, rfl⟩
  obtain ⟨z, hW⟩ : ∃ z, W i = z := ⟨_, rfl⟩
  rw [hW] at hne
  have hwd : ∀ w', w.grownBy w' none → w'.cell? ⟨b, 0, none⟩ = some (.slice (some ⟨g, 0, none⟩) n n) ∧ w'.cell? ⟨g, i * 2, none⟩ = some (.int .i64 z) ∧ w'.cell? ⟨g, i * 2 + 1, none⟩ = some (.int .i64 y) ∧ w'.frozen? ⟨g, i * 2, none⟩ = false ∧ w'.frozen? ⟨g, i * 2 + 1, none⟩ = false := fun w' k => ⟨(h.keep k).c, by rw [← hW]; exact (h.keep k).word hi, by rw [← hy]; exact (h.keep k).taken hi, (h.keep k).2.1.free _, (h.keep k).2.1.free _⟩
  have HWD := Lib.hid hwd
  have HB0 := Lib.hid hb0
  have lb := h.1.lt
  have lg := h.2.1.lt
  have H := Lib.hid h
  have HV := Lib.hid hv
  have HR := Lib.hid hR
  clear hwd hy h hb0 hv hR hW
  go_enter Try.func13, Try.ntmps13
  go_wp2_with fail
  refine (word_ok 0 v 0 _ HV.out).mono ?_
  rintro e w1 ⟨rfl, hg1⟩
  have x0 := (HB0.out.keepn hg1).cell 0 (.int .i64 K) rfl
  have x1 := (HB0.out.keepn hg1).cell 1 (.int .i64 N) rfl
  have x2 := (HB0.out.keepn hg1).cell 2 (.int .i64 I) rfl
  go_wp2_with fail
  refine (word_ok K N I _ HR.out).mono ?_
  rintro e w2 ⟨rfl, hg2⟩
  have gA := g_trans (g_trans g0 hg1) hg2
  have x0 := ((HB0.out.keepn hg1).keepn hg2).cell 0 (.int .i64 K) rfl
  go_wp2_with fail
  refine (has_any _ _ _ _ _ _ (H.out.keep gA) i hi).mono ?_
  rintro e w3 ⟨rfl, hg3⟩
  have gB := g_trans gA hg3
  obtain ⟨p1, p2, p3, p4, p5⟩ := HWD.out w3 gB
  have x0 := (((HB0.out.keepn hg1).keepn hg2).keepn hg3).cell 0 (.int .i64 K) rfl
  go_wp2_with fail
  refine (cas_miss _ _ _ _ _ _ p2 p4 hne).mono ?_
  rintro e w4 ⟨rfl, rfl⟩
  go_wp2_with fail
  go_ret
  exact ⟨rfl, gB⟩

set_option maxHeartbeats 800000 in
theorem let_range (b g n : Nat) (W T : Nat → Int) (w : World) (h : Tb w b g n W T) (i : Nat) (hi : n ≤ i) (h0 : 0 < n) (hn : n < 4000) (v : Int)  :
    Calls Try.prog 14 #[.pointer (some ⟨b, 0, none⟩), .int .i64 i, .int .i64 v] w fun e w' => e = .returned (.int .i64 5) ∧ w.grownBy w' none := by
  have hfd := field0
  have nz : ¬ (n : Int) = 0 := by omega
  have nz' : ((n : Int) == 0) = false := by simp; omega
  have H := Lib.hid h
  clear h
  go_enter Try.func14, Try.ntmps14
  go_wp2_with fail
  refine (size_any _ _ _ _ _ _ H.out).mono ?_
  rintro e w1 ⟨rfl, hg1⟩
  go_wp2_with fail
  refine (has_no _ _ _ _ _ _ (H.out.keep hg1) i hi).mono ?_
  rintro e w2 ⟨rfl, hg2⟩
  go_wp2_with fail
  go_ret
  exact ⟨rfl, g_trans hg1 hg2⟩

set_option maxHeartbeats 800000 in
theorem let_v (b g n : Nat) (W T : Nat → Int) (w : World) (h : Tb w b g n W T) (i : Nat) (hi : i < n) (hok : okW (W i)) (hlt : W i < 4611686018427387904) (h0 : 0 < n) (hn : n < 4000) (v : Int) (hv : ¬ okR 0 v 0) :
    Calls Try.prog 14 #[.pointer (some ⟨b, 0, none⟩), .int .i64 i, .int .i64 v] w fun e w' => e = .returned (.int .i64 30) ∧ w.grownBy w' none := by
  have hfd := field0
  have nz : ¬ (n : Int) = 0 := by omega
  have nz' : ((n : Int) == 0) = false := by simp; omega
  obtain ⟨z, hW⟩ : ∃ z, W i = z := ⟨_, rfl⟩
  obtain ⟨y, hy⟩ : ∃ y, T i = y := ⟨_, rfl⟩
  have hat := fun w h => at_any b g n W T w h i hi hn hok hlt
  rw [hy] at hat
  have hwd : ∀ w', w.grownBy w' none → w'.cell? ⟨b, 0, none⟩ = some (.slice (some ⟨g, 0, none⟩) n n) ∧ w'.cell? ⟨g, i * 2, none⟩ = some (.int .i64 z) ∧ w'.frozen? ⟨g, i * 2, none⟩ = false := fun w' k => ⟨(h.keep k).c, by rw [← hW]; exact (h.keep k).word hi, (h.keep k).2.1.free _⟩
  rw [hW] at hat hok hlt
  have HWD := Lib.hid hwd
  have HAT := Lib.hid hat
  have H := Lib.hid h
  clear h hW hwd hat hok hlt
  go_enter Try.func14, Try.ntmps14
  go_wp2_with fail
  refine (size_any _ _ _ _ _ _ H.out).mono ?_
  rintro e w1 ⟨rfl, hg1⟩
  go_wp2_with fail
  refine (has_any _ _ _ _ _ _ (H.out.keep hg1) i hi).mono ?_
  rintro e w2 ⟨rfl, hg2⟩
  go_wp2_with fail
  refine (word_bad 0 v 0 _ hv).mono ?_
  rintro e w3 ⟨rfl, hg3⟩
  have gB := g_trans (g_trans hg1 hg2) hg3
  go_wp2_with fail
  go_ret
  exact ⟨rfl, gB⟩

set_option maxHeartbeats 800000 in
theorem let_z (b g n : Nat) (W T : Nat → Int) (w : World) (h : Tb w b g n W T) (i : Nat) (hi : i < n) (hok : okW (W i)) (hlt : W i < 4611686018427387904) (h0 : 0 < n) (hn : n < 4000) (v : Int) (hv : okR 0 v 0) (hz : W i % 4 = 0) :
    Calls Try.prog 14 #[.pointer (some ⟨b, 0, none⟩), .int .i64 i, .int .i64 v] w fun e w' => e = .returned (.int .i64 30) ∧ w.grownBy w' none := by
  have hfd := field0
  have nz : ¬ (n : Int) = 0 := by omega
  have nz' : ((n : Int) == 0) = false := by simp; omega
  obtain ⟨z, hW⟩ : ∃ z, W i = z := ⟨_, rfl⟩
  obtain ⟨y, hy⟩ : ∃ y, T i = y := ⟨_, rfl⟩
  have hat := fun w h => at_any b g n W T w h i hi hn hok hlt
  rw [hy] at hat
  have hwd : ∀ w', w.grownBy w' none → w'.cell? ⟨b, 0, none⟩ = some (.slice (some ⟨g, 0, none⟩) n n) ∧ w'.cell? ⟨g, i * 2, none⟩ = some (.int .i64 z) ∧ w'.frozen? ⟨g, i * 2, none⟩ = false := fun w' k => ⟨(h.keep k).c, by rw [← hW]; exact (h.keep k).word hi, (h.keep k).2.1.free _⟩
  rw [hW] at hat hok hlt hz
  have HWD := Lib.hid hwd
  have HAT := Lib.hid hat
  have H := Lib.hid h
  clear h hW hwd hat hok hlt
  go_enter Try.func14, Try.ntmps14
  go_wp2_with fail
  refine (size_any _ _ _ _ _ _ H.out).mono ?_
  rintro e w1 ⟨rfl, hg1⟩
  go_wp2_with fail
  refine (has_any _ _ _ _ _ _ (H.out.keep hg1) i hi).mono ?_
  rintro e w2 ⟨rfl, hg2⟩
  go_wp2_with fail
  refine (word_ok 0 v 0 _ hv).mono ?_
  rintro e w3 ⟨rfl, hg3⟩
  have gB := g_trans (g_trans hg1 hg2) hg3
  go_wp2_with fail
  refine (HAT.out _ (H.out.keep gB)).mono ?_
  rw [hz]
  rintro e w4 ⟨rfl, hg4⟩
  go_wp2_with fail
  go_ret
  exact ⟨rfl, g_trans gB hg4⟩

set_option maxHeartbeats 800000 in
theorem let_hit (b g n : Nat) (W T : Nat → Int) (w : World) (h : Tb w b g n W T) (i : Nat) (hi : i < n) (hok : okW (W i)) (hlt : W i < 4611686018427387904) (h0 : 0 < n) (hn : n < 4000) (v : Int) (hv : okR 0 v 0) (hz : ¬ W i % 4 = 0) :
    Calls Try.prog 14 #[.pointer (some ⟨b, 0, none⟩), .int .i64 i, .int .i64 v] w fun e w' => e = .returned (.int .i64 0) ∧ Tb w' b g n (upd W i (4 * v)) T ∧ w.grownBy w' (some g) := by
  have hfd := field0
  have nz : ¬ (n : Int) = 0 := by omega
  have nz' : ((n : Int) == 0) = false := by simp; omega
  obtain ⟨z, hW⟩ : ∃ z, W i = z := ⟨_, rfl⟩
  obtain ⟨y, hy⟩ : ∃ y, T i = y := ⟨_, rfl⟩
  have hat := fun w h => at_any b g n W T w h i hi hn hok hlt
  rw [hy] at hat
  have hwd : ∀ w', w.grownBy w' none → w'.cell? ⟨b, 0, none⟩ = some (.slice (some ⟨g, 0, none⟩) n n) ∧ w'.cell? ⟨g, i * 2, none⟩ = some (.int .i64 z) ∧ w'.frozen? ⟨g, i * 2, none⟩ = false := fun w' k => ⟨(h.keep k).c, by rw [← hW]; exact (h.keep k).word hi, (h.keep k).2.1.free _⟩
  rw [hW] at hat hok hlt hz
  have HWD := Lib.hid hwd
  have HAT := Lib.hid hat
  have H := Lib.hid h
  clear h hW hwd hat hok hlt
  go_enter Try.func14, Try.ntmps14
  go_wp2_with fail
  refine (size_any _ _ _ _ _ _ H.out).mono ?_
  rintro e w1 ⟨rfl, hg1⟩
  go_wp2_with fail
  refine (has_any _ _ _ _ _ _ (H.out.keep hg1) i hi).mono ?_
  rintro e w2 ⟨rfl, hg2⟩
  go_wp2_with fail
  refine (word_ok 0 v 0 _ hv).mono ?_
  rintro e w3 ⟨rfl, hg3⟩
  have gB := g_trans (g_trans hg1 hg2) hg3
  obtain ⟨zz, hzz⟩ : ∃ zz, z % 4 = zz := ⟨_, rfl⟩
  have q0 : (zz == 0) = false := by simp [← hzz, hz]
  go_wp2_with fail
  refine (HAT.out _ (H.out.keep gB)).mono ?_
  rw [hzz]
  rintro e w4 ⟨rfl, hg4⟩
  have gC := g_trans gB hg4
  obtain ⟨p1, p2, p4⟩ := HWD.out w4 gC
  have H4 := Lib.hid (H.out.keep gC)
  go_wp2_with fail
  obtain ⟨p1, p2, p4⟩ := HWD.out _ gC
  refine (store_any _ _ _ _ _ p2 p4).mono ?_
  rintro e w5 ⟨rfl, rfl⟩
  go_wp2_with fail
  go_ret
  exact ⟨rfl, H4.out.setW hi _, g_set (g_none gC (some g)) (p := ⟨g, i * 2, none⟩) (.inl rfl) _⟩

end Go.Proofs.YtmnldcnlnbpbbaaRR
