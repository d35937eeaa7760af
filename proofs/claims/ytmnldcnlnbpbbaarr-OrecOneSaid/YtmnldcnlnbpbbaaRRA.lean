/- The words of records. -/
import Derived.Test.YtmnldcnlnbpbbaaRRBase
import Derived.Laws.BitsLemmas
namespace Go.Proofs.YtmnldcnlnbpbbaaRR
open Go.RowKit
set_option linter.unusedVariables false

/-- which records may be -/
def okR (K N I : Int) : Prop := (K = 0 ∧ 0 ≤ N ∧ N ≤ 2199023255552 ∧ 0 ≤ I) ∨ ((K = 1 ∨ K = 2) ∧ 0 ≤ N ∧ N < 64 ∧ 0 ≤ I)
instance (K N I : Int) : Decidable (okR K N I) := by unfold okR; infer_instance

set_option maxHeartbeats 800000 in
theorem check_ok (K N I : Int) (w : World) (h : okR K N I) :
    Calls Try.prog 9 #[.agg #[.int .i64 K, .int .i64 N, .int .i64 I]] w fun e w' => e = .returned (.int .i64 0) ∧ w.grownBy w' none := by
  unfold okR at h
  rcases h with ⟨rfl, h1, h2, h3⟩ | ⟨rfl | rfl, h1, h2, h3⟩
  · go_enter Try.func9, Try.ntmps9
    go_wp2_with fail
    go_ret
    exact ⟨rfl, g_alloc (g_refl _ _) _⟩
  · go_enter Try.func9, Try.ntmps9
    go_wp2_with fail
    go_ret
    exact ⟨rfl, g_alloc (g_refl _ _) _⟩
  · go_enter Try.func9, Try.ntmps9
    go_wp2_with fail
    go_ret
    exact ⟨rfl, g_alloc (g_refl _ _) _⟩

set_option maxHeartbeats 800000 in
theorem check_bad (K N I : Int) (w : World) (h : ¬ okR K N I) :
    Calls Try.prog 9 #[.agg #[.int .i64 K, .int .i64 N, .int .i64 I]] w fun e w' => e = .returned (.int .i64 30) ∧ w.grownBy w' none := by
  unfold okR at h
  by_cases k0 : K = 0
  · subst k0
    by_cases c1 : N < 0
    · clear h
      go_enter Try.func9, Try.ntmps9
      go_wp2_with fail
      go_ret
      exact ⟨rfl, g_alloc (g_refl _ _) _⟩
    by_cases c2 : 2199023255552 < N
    · clear h
      go_enter Try.func9, Try.ntmps9
      go_wp2_with fail
      go_ret
      exact ⟨rfl, g_alloc (g_refl _ _) _⟩
    · have c3 : I < 0 := by omega
      clear h
      go_enter Try.func9, Try.ntmps9
      go_wp2_with fail
      go_ret
      exact ⟨rfl, g_alloc (g_refl _ _) _⟩
  by_cases k1 : K = 1
  · subst k1
    by_cases c1 : N < 0
    · clear h
      go_enter Try.func9, Try.ntmps9
      go_wp2_with fail
      go_ret
      exact ⟨rfl, g_alloc (g_refl _ _) _⟩
    by_cases c2 : 63 < N
    · clear h
      go_enter Try.func9, Try.ntmps9
      go_wp2_with fail
      go_ret
      exact ⟨rfl, g_alloc (g_refl _ _) _⟩
    · have c3 : I < 0 := by omega
      clear h
      go_enter Try.func9, Try.ntmps9
      go_wp2_with fail
      go_ret
      exact ⟨rfl, g_alloc (g_refl _ _) _⟩
  by_cases k2 : K = 2
  · subst k2
    by_cases c1 : N < 0
    · clear h
      go_enter Try.func9, Try.ntmps9
      go_wp2_with fail
      go_ret
      exact ⟨rfl, g_alloc (g_refl _ _) _⟩
    by_cases c2 : 63 < N
    · clear h
      go_enter Try.func9, Try.ntmps9
      go_wp2_with fail
      go_ret
      exact ⟨rfl, g_alloc (g_refl _ _) _⟩
    · have c3 : I < 0 := by omega
      clear h
      go_enter Try.func9, Try.ntmps9
      go_wp2_with fail
      go_ret
      exact ⟨rfl, g_alloc (g_refl _ _) _⟩
  have q0 : (K == 0) = false := by simp [k0]
  have q1 : (K == 1) = false := by simp [k1]
  have q2 : (K == 2) = false := by simp [k2]
  clear h k0 k1 k2
  by_cases c1 : N < 0
  · go_enter Try.func9, Try.ntmps9
    go_wp2_with fail
    go_ret
    exact ⟨rfl, g_alloc (g_refl _ _) _⟩
  · have c2 : -1 < N := by omega
    go_enter Try.func9, Try.ntmps9
    go_wp2_with fail
    go_ret
    exact ⟨rfl, g_alloc (g_refl _ _) _⟩

set_option maxHeartbeats 800000 in
theorem is_ok (K N I : Int) (w : World) (h : okR K N I) :
    Calls Try.prog 15 #[.agg #[.int .i64 K, .int .i64 N, .int .i64 I]] w fun e w' => e = .returned (.bool true) ∧ w.grownBy w' none := by
  unfold okR at h
  rcases h with ⟨rfl, h1, h2, h3⟩ | ⟨rfl | rfl, h1, h2, h3⟩
  · go_enter Try.func15, Try.ntmps15
    go_wp2_with fail
    go_ret
    exact ⟨rfl, g_alloc (g_refl _ _) _⟩
  · go_enter Try.func15, Try.ntmps15
    go_wp2_with fail
    go_ret
    exact ⟨rfl, g_alloc (g_refl _ _) _⟩
  · go_enter Try.func15, Try.ntmps15
    go_wp2_with fail
    go_ret
    exact ⟨rfl, g_alloc (g_refl _ _) _⟩

set_option maxHeartbeats 800000 in
theorem is_bad (K N I : Int) (w : World) (h : ¬ okR K N I) :
    Calls Try.prog 15 #[.agg #[.int .i64 K, .int .i64 N, .int .i64 I]] w fun e w' => e = .returned (.bool false) ∧ w.grownBy w' none := by
  unfold okR at h
  by_cases k0 : K = 0
  · subst k0
    by_cases c1 : N < 0
    · clear h
      go_enter Try.func15, Try.ntmps15
      go_wp2_with fail
      go_ret
      exact ⟨rfl, g_alloc (g_refl _ _) _⟩
    by_cases c2 : 2199023255552 < N
    · clear h
      go_enter Try.func15, Try.ntmps15
      go_wp2_with fail
      go_ret
      exact ⟨rfl, g_alloc (g_refl _ _) _⟩
    · have c3 : I < 0 := by omega
      clear h
      go_enter Try.func15, Try.ntmps15
      go_wp2_with fail
      go_ret
      exact ⟨ret_bool (decide_eq_false (by omega)), g_alloc (g_refl _ _) _⟩
  by_cases k1 : K = 1
  · subst k1
    by_cases c1 : N < 0
    · clear h
      go_enter Try.func15, Try.ntmps15
      go_wp2_with fail
      go_ret
      exact ⟨rfl, g_alloc (g_refl _ _) _⟩
    by_cases c2 : 63 < N
    · clear h
      go_enter Try.func15, Try.ntmps15
      go_wp2_with fail
      go_ret
      exact ⟨rfl, g_alloc (g_refl _ _) _⟩
    · have c3 : I < 0 := by omega
      clear h
      go_enter Try.func15, Try.ntmps15
      go_wp2_with fail
      go_ret
      exact ⟨ret_bool (decide_eq_false (by omega)), g_alloc (g_refl _ _) _⟩
  by_cases k2 : K = 2
  · subst k2
    by_cases c1 : N < 0
    · clear h
      go_enter Try.func15, Try.ntmps15
      go_wp2_with fail
      go_ret
      exact ⟨rfl, g_alloc (g_refl _ _) _⟩
    by_cases c2 : 63 < N
    · clear h
      go_enter Try.func15, Try.ntmps15
      go_wp2_with fail
      go_ret
      exact ⟨rfl, g_alloc (g_refl _ _) _⟩
    · have c3 : I < 0 := by omega
      clear h
      go_enter Try.func15, Try.ntmps15
      go_wp2_with fail
      go_ret
      exact ⟨ret_bool (decide_eq_false (by omega)), g_alloc (g_refl _ _) _⟩
  have q0 : (K == 0) = false := by simp [k0]
  have q1 : (K == 1) = false := by simp [k1]
  have q2 : (K == 2) = false := by simp [k2]
  clear h k0 k1 k2
  go_enter Try.func15, Try.ntmps15
  go_wp2_with fail
  go_ret
  exact ⟨rfl, g_alloc (g_refl _ _) _⟩

set_option maxHeartbeats 800000 in
theorem word_ok (K N I : Int) (w : World) (h : okR K N I) :
    Calls Try.prog 5 #[.agg #[.int .i64 K, .int .i64 N, .int .i64 I]] w fun e w' => e = .returned (.tuple #[.int .i64 (4 * N + K), .int .i64 0]) ∧ w.grownBy w' none := by
  have hc := check_ok K N I
  have g0 := g_alloc (g_refl w none) (.cells #[.int .i64 K, .int .i64 N, .int .i64 I] 24)
  have hb := Blk.new w #[.int .i64 K, .int .i64 N, .int .i64 I] 24
  have hw := hc (w.alloc (.cells #[.int .i64 K, .int .i64 N, .int .i64 I] 24)) h
  unfold okR at h
  have hk : 0 ≤ K ∧ K < 4 := by omega
  have hn : 0 ≤ N ∧ N ≤ 2199023255552 := by omega
  obtain ⟨hk0, hk1⟩ := hk
  obtain ⟨hn0, hn1⟩ := hn
  have hor : bits .or .i64 (N * 4) K = 4 * N + K := by
    rw [bits_join .i64 62 (by decide) (fun n h0 h1 => by rw [IntKind.wrap_i64]; omega) 2 (N * 4) K (by omega) (by omega) (by omega) (by omega) (by omega) (by omega)]
    omega
  clear h hc
  go_enter Try.func5, Try.ntmps5
  go_wp2_with fail
  refine hw.mono ?_
  rintro e w1 ⟨rfl, hg⟩
  have c0 := (hb.keepn hg).cell 0 (.int .i64 K) rfl
  have c1 := (hb.keepn hg).cell 1 (.int .i64 N) rfl
  go_wp2_with fail
  go_ret2
  exact ⟨rfl, g_trans g0 hg⟩

set_option maxHeartbeats 800000 in
theorem word_bad (K N I : Int) (w : World) (h : ¬ okR K N I) :
    Calls Try.prog 5 #[.agg #[.int .i64 K, .int .i64 N, .int .i64 I]] w fun e w' => e = .returned (.tuple #[.int .i64 0, .int .i64 30]) ∧ w.grownBy w' none := by
  have g0 := g_alloc (g_refl w none) (.cells #[.int .i64 K, .int .i64 N, .int .i64 I] 24)
  have hw := check_bad K N I (w.alloc (.cells #[.int .i64 K, .int .i64 N, .int .i64 I] 24)) h
  clear h
  go_enter Try.func5, Try.ntmps5
  go_wp2_with fail
  refine hw.mono ?_
  rintro e w1 ⟨rfl, hg⟩
  go_wp2_with fail
  go_ret2
  exact ⟨rfl, g_trans g0 hg⟩

set_option maxHeartbeats 800000 in
theorem rword_ok (K N I : Int) (w : World) (h : okR K N I) :
    Calls Try.prog 6 #[.agg #[.int .i64 K, .int .i64 N, .int .i64 I]] w fun e w' => e = .returned (.tuple #[.int .i64 (4 * N + K), .int .i64 0]) ∧ w.grownBy w' none := by
  have g0 := g_alloc (g_refl w none) (.cells #[.int .i64 K, .int .i64 N, .int .i64 I] 24)
  have hb := Blk.new w #[.int .i64 K, .int .i64 N, .int .i64 I] 24
  have hw := is_ok K N I (w.alloc (.cells #[.int .i64 K, .int .i64 N, .int .i64 I] 24)) h
  unfold okR at h
  have hk : 0 ≤ K ∧ K < 4 := by omega
  have hn : 0 ≤ N ∧ N ≤ 2199023255552 := by omega
  obtain ⟨hk0, hk1⟩ := hk
  obtain ⟨hn0, hn1⟩ := hn
  clear h
  go_enter Try.func6, Try.ntmps6
  go_wp2_with fail
  refine hw.mono ?_
  rintro e w1 ⟨rfl, hg⟩
  have c0 := (hb.keepn hg).cell 0 (.int .i64 K) rfl
  have c1 := (hb.keepn hg).cell 1 (.int .i64 N) rfl
  go_wp2_with fail
  go_ret2
  exact ⟨rfl, g_trans g0 hg⟩

set_option maxHeartbeats 800000 in
theorem rword_bad (K N I : Int) (w : World) (h : ¬ okR K N I) :
    Calls Try.prog 6 #[.agg #[.int .i64 K, .int .i64 N, .int .i64 I]] w fun e w' => e = .returned (.tuple #[.int .i64 0, .int .i64 30]) ∧ w.grownBy w' none := by
  have g0 := g_alloc (g_refl w none) (.cells #[.int .i64 K, .int .i64 N, .int .i64 I] 24)
  have hw := is_bad K N I (w.alloc (.cells #[.int .i64 K, .int .i64 N, .int .i64 I] 24)) h
  clear h
  go_enter Try.func6, Try.ntmps6
  go_wp2_with fail
  refine hw.mono ?_
  rintro e w1 ⟨rfl, hg⟩
  go_wp2_with fail
  go_ret2
  exact ⟨rfl, g_trans g0 hg⟩

/-- a word that is a record's -/
def okW (x : Int) : Prop := 0 ≤ x ∧ okR (x % 4) (x / 4) 0

set_option maxHeartbeats 800000 in
theorem read_ok (x : Int) (w : World) (h : okW x) (hx : x < 9223372036854775808) :
    Calls Try.prog 7 #[.int .i64 x] w fun e w' => e = .returned (.tuple #[.agg #[.int .i64 (x % 4), .int .i64 (x / 4), .int .i64 0], .int .i64 0]) ∧ w.grownBy w' none := by
  have hc := fun w => check_ok (x % 4) (x / 4) 0 w h.2
  obtain ⟨h0, -⟩ := h
  have hand : bits .and .i64 x 3 = x % 4 := bits_mask .i64 63 (by decide) (fun n h0 h1 => by rw [IntKind.wrap_i64]; omega) 2 (by decide) x h0 hx
  have g0 := g_alloc (g_alloc (g_refl w none) (.cells #[.int .i64 0, .int .i64 0, .int .i64 0] 24)) (.cells #[.int .i64 (x % 4), .int .i64 (x / 4), .int .i64 0] 24)
  have b1 := (Blk.new w #[.int .i64 0, .int .i64 0, .int .i64 0] 24).keepn (g_alloc (g_refl _ none) (.cells #[.int .i64 (x % 4), .int .i64 (x / 4), .int .i64 0] 24))
  have b2 := Blk.new (w.alloc (.cells #[.int .i64 0, .int .i64 0, .int .i64 0] 24)) #[.int .i64 (x % 4), .int .i64 (x / 4), .int .i64 0] 24
  simp only [World.size_alloc] at b2
  have HG := Lib.hid g0
  have B1 := Lib.hid b1
  have B2 := Lib.hid b2
  clear g0 b1 b2
  go_enter Try.func7, Try.ntmps7
  go_wp2_with fail
  refine (hc _).mono ?_
  rintro e w1 ⟨rfl, hg⟩
  have R1 := Lib.hid (B1.out.keepn hg)
  have R2 := Lib.hid (B2.out.keepn hg)
  have z0 := R1.out.cell 0 (.int .i64 0) rfl
  have z1 := R1.out.cell 1 (.int .i64 0) rfl
  have z2 := R1.out.cell 2 (.int .i64 0) rfl
  have f0 := R1.out.free 0
  have f1 := R1.out.free 1
  have f2 := R1.out.free 2
  have y0 := R2.out.cell 0 (.int .i64 (x % 4)) rfl
  have y1 := R2.out.cell 1 (.int .i64 (x / 4)) rfl
  have y2 := R2.out.cell 2 (.int .i64 0) rfl
  go_wp2_with fail
  have hF := (((R1.out.set 0 (.int .i64 (x % 4))).set 1 (.int .i64 (x / 4))).set 2 (.int .i64 0))
  have k0 := hF.cell 0 (.int .i64 (x % 4)) (by simp)
  have k1 := hF.cell 1 (.int .i64 (x / 4)) (by simp)
  have k2 := hF.cell 2 (.int .i64 0) (by simp)
  have gs : w1.grownBy _ (some w.heap.size) := g_set (g_set (g_set (g_refl w1 (some w.heap.size)) (p := ⟨w.heap.size, 0, none⟩) (.inl rfl) (.int .i64 (x % 4))) (p := ⟨w.heap.size, 1, none⟩) (.inl rfl) (.int .i64 (x / 4))) (p := ⟨w.heap.size, 2, none⟩) (.inl rfl) (.int .i64 0)
  exact bodyPost_ret (v := .tuple #[.agg #[.int .i64 (x % 4), .int .i64 (x / 4), .int .i64 0], .int .i64 0]) (by simp [results, Try.results7, go_sem, k0, k1, k2]) rfl ⟨rfl, g_in (g_trans HG.out hg) gs (Nat.le_refl _)⟩

set_option maxHeartbeats 800000 in
theorem read_bad (x : Int) (w : World) (h : ¬ okW x) (hx : x < 9223372036854775808) :
    Calls Try.prog 7 #[.int .i64 x] w fun e w' => e = .returned (.tuple #[.agg #[.int .i64 0, .int .i64 0, .int .i64 0], .int .i64 30]) ∧ w.grownBy w' none := by
  obtain ⟨kk, hkk⟩ : ∃ kk, bits .and .i64 x 3 = kk := ⟨_, rfl⟩
  have hbad : ¬ okR kk (x / 4) 0 := fun hh => h (by
    have h0 : 0 ≤ x := by
      unfold okR at hh
      have : 0 ≤ x / 4 := by omega
      omega
    have hand : bits .and .i64 x 3 = x % 4 := bits_mask .i64 63 (by decide) (fun n h0 h1 => by rw [IntKind.wrap_i64]; omega) 2 (by decide) x h0 hx
    rw [← hkk, hand] at hh
    exact ⟨h0, hh⟩)
  have hc := fun w => check_bad kk (x / 4) 0 w hbad
  clear h hbad
  have g0 := g_alloc (g_alloc (g_refl w none) (.cells #[.int .i64 0, .int .i64 0, .int .i64 0] 24)) (.cells #[.int .i64 kk, .int .i64 (x / 4), .int .i64 0] 24)
  have b1 := (Blk.new w #[.int .i64 0, .int .i64 0, .int .i64 0] 24).keepn (g_alloc (g_refl _ none) (.cells #[.int .i64 kk, .int .i64 (x / 4), .int .i64 0] 24))
  have b2 := Blk.new (w.alloc (.cells #[.int .i64 0, .int .i64 0, .int .i64 0] 24)) #[.int .i64 kk, .int .i64 (x / 4), .int .i64 0] 24
  simp only [World.size_alloc] at b2
  have HG := Lib.hid g0
  have B1 := Lib.hid b1
  have B2 := Lib.hid b2
  clear g0 b1 b2
  go_enter Try.func7, Try.ntmps7
  go_wp2_with fail
  refine (hc _).mono ?_
  rintro e w1 ⟨rfl, hg⟩
  have R1 := Lib.hid (B1.out.keepn hg)
  have R2 := Lib.hid (B2.out.keepn hg)
  have z0 := R1.out.cell 0 (.int .i64 0) rfl
  have z1 := R1.out.cell 1 (.int .i64 0) rfl
  have z2 := R1.out.cell 2 (.int .i64 0) rfl
  have f0 := R1.out.free 0
  have f1 := R1.out.free 1
  have f2 := R1.out.free 2
  have y0 := R2.out.cell 0 (.int .i64 kk) rfl
  have y1 := R2.out.cell 1 (.int .i64 (x / 4)) rfl
  have y2 := R2.out.cell 2 (.int .i64 0) rfl
  go_wp2_with fail
  have hF := (((R1.out.set 0 (.int .i64 0)).set 1 (.int .i64 0)).set 2 (.int .i64 0))
  have k0 := hF.cell 0 (.int .i64 0) (by simp)
  have k1 := hF.cell 1 (.int .i64 0) (by simp)
  have k2 := hF.cell 2 (.int .i64 0) (by simp)
  have gs : w1.grownBy _ (some w.heap.size) := g_set (g_set (g_set (g_refl w1 (some w.heap.size)) (p := ⟨w.heap.size, 0, none⟩) (.inl rfl) (.int .i64 0)) (p := ⟨w.heap.size, 1, none⟩) (.inl rfl) (.int .i64 0)) (p := ⟨w.heap.size, 2, none⟩) (.inl rfl) (.int .i64 0)
  exact bodyPost_ret (v := .tuple #[.agg #[.int .i64 0, .int .i64 0, .int .i64 0], .int .i64 30]) (by simp [results, Try.results7, go_sem, k0, k1, k2]) rfl ⟨rfl, g_in (g_trans HG.out hg) gs (Nat.le_refl _)⟩

set_option maxHeartbeats 800000 in
theorem rread_ok (x : Int) (w : World) (h : okW x) (hx : x < 9223372036854775808) :
    Calls Try.prog 8 #[.int .i64 x] w fun e w' => e = .returned (.tuple #[.agg #[.int .i64 (x % 4), .int .i64 (x / 4), .int .i64 0], .int .i64 0]) ∧ w.grownBy w' none := by
  have hc := fun w => is_ok (x % 4) (x / 4) 0 w h.2
  obtain ⟨h0, -⟩ := h
  have hm : x.tmod 4 = x % 4 := Int.tmod_eq_emod_of_nonneg h0
  have hd : x.tdiv 4 = x / 4 := Int.tdiv_eq_ediv_of_nonneg h0
  have g0 := g_alloc (g_alloc (g_refl w none) (.cells #[.int .i64 0, .int .i64 0, .int .i64 0] 24)) (.cells #[.int .i64 (x % 4), .int .i64 (x / 4), .int .i64 0] 24)
  have b1 := (Blk.new w #[.int .i64 0, .int .i64 0, .int .i64 0] 24).keepn (g_alloc (g_refl _ none) (.cells #[.int .i64 (x % 4), .int .i64 (x / 4), .int .i64 0] 24))
  have b2 := Blk.new (w.alloc (.cells #[.int .i64 0, .int .i64 0, .int .i64 0] 24)) #[.int .i64 (x % 4), .int .i64 (x / 4), .int .i64 0] 24
  simp only [World.size_alloc] at b2
  have HG := Lib.hid g0
  have B1 := Lib.hid b1
  have B2 := Lib.hid b2
  clear g0 b1 b2
  go_enter Try.func8, Try.ntmps8
  go_wp2_with fail
  refine (hc _).mono ?_
  rintro e w1 ⟨rfl, hg⟩
  have R1 := Lib.hid (B1.out.keepn hg)
  have R2 := Lib.hid (B2.out.keepn hg)
  have z0 := R1.out.cell 0 (.int .i64 0) rfl
  have z1 := R1.out.cell 1 (.int .i64 0) rfl
  have z2 := R1.out.cell 2 (.int .i64 0) rfl
  have f0 := R1.out.free 0
  have f1 := R1.out.free 1
  have f2 := R1.out.free 2
  have y0 := R2.out.cell 0 (.int .i64 (x % 4)) rfl
  have y1 := R2.out.cell 1 (.int .i64 (x / 4)) rfl
  have y2 := R2.out.cell 2 (.int .i64 0) rfl
  go_wp2_with fail
  have hF := (((R1.out.set 0 (.int .i64 (x % 4))).set 1 (.int .i64 (x / 4))).set 2 (.int .i64 0))
  have k0 := hF.cell 0 (.int .i64 (x % 4)) (by simp)
  have k1 := hF.cell 1 (.int .i64 (x / 4)) (by simp)
  have k2 := hF.cell 2 (.int .i64 0) (by simp)
  have gs : w1.grownBy _ (some w.heap.size) := g_set (g_set (g_set (g_refl w1 (some w.heap.size)) (p := ⟨w.heap.size, 0, none⟩) (.inl rfl) (.int .i64 (x % 4))) (p := ⟨w.heap.size, 1, none⟩) (.inl rfl) (.int .i64 (x / 4))) (p := ⟨w.heap.size, 2, none⟩) (.inl rfl) (.int .i64 0)
  exact bodyPost_ret (v := .tuple #[.agg #[.int .i64 (x % 4), .int .i64 (x / 4), .int .i64 0], .int .i64 0]) (by simp [results, Try.results8, go_sem, k0, k1, k2]) rfl ⟨rfl, g_in (g_trans HG.out hg) gs (Nat.le_refl _)⟩

set_option maxHeartbeats 800000 in
theorem rread_bad (x : Int) (w : World) (h : ¬ okW x) (hx : x < 9223372036854775808) :
    Calls Try.prog 8 #[.int .i64 x] w fun e w' => e = .returned (.tuple #[.agg #[.int .i64 0, .int .i64 0, .int .i64 0], .int .i64 30]) ∧ w.grownBy w' none := by
  by_cases h0 : x < 0
  · clear h
    go_enter Try.func8, Try.ntmps8
    go_wp2_with fail
    have hb := Blk.new w #[.int .i64 0, .int .i64 0, .int .i64 0] 24
    have k0 := hb.cell 0 (.int .i64 0) rfl
    have k1 := hb.cell 1 (.int .i64 0) rfl
    have k2 := hb.cell 2 (.int .i64 0) rfl
    exact bodyPost_ret (v := .tuple #[.agg #[.int .i64 0, .int .i64 0, .int .i64 0], .int .i64 30]) (by simp [results, Try.results8, go_sem, k0, k1, k2]) rfl ⟨rfl, g_alloc (g_refl _ _) _⟩
  have h0' : 0 ≤ x := by omega
  have hc := fun w => is_bad (x % 4) (x / 4) 0 w (fun hh => h ⟨h0', hh⟩)
  have hm : x.tmod 4 = x % 4 := Int.tmod_eq_emod_of_nonneg h0'
  have hd : x.tdiv 4 = x / 4 := Int.tdiv_eq_ediv_of_nonneg h0'
  clear h
  have g0 := g_alloc (g_alloc (g_refl w none) (.cells #[.int .i64 0, .int .i64 0, .int .i64 0] 24)) (.cells #[.int .i64 (x % 4), .int .i64 (x / 4), .int .i64 0] 24)
  have b1 := (Blk.new w #[.int .i64 0, .int .i64 0, .int .i64 0] 24).keepn (g_alloc (g_refl _ none) (.cells #[.int .i64 (x % 4), .int .i64 (x / 4), .int .i64 0] 24))
  have b2 := Blk.new (w.alloc (.cells #[.int .i64 0, .int .i64 0, .int .i64 0] 24)) #[.int .i64 (x % 4), .int .i64 (x / 4), .int .i64 0] 24
  simp only [World.size_alloc] at b2
  have HG := Lib.hid g0
  have B1 := Lib.hid b1
  have B2 := Lib.hid b2
  clear g0 b1 b2
  go_enter Try.func8, Try.ntmps8
  go_wp2_with fail
  refine (hc _).mono ?_
  rintro e w1 ⟨rfl, hg⟩
  have R1 := Lib.hid (B1.out.keepn hg)
  have R2 := Lib.hid (B2.out.keepn hg)
  have z0 := R1.out.cell 0 (.int .i64 0) rfl
  have z1 := R1.out.cell 1 (.int .i64 0) rfl
  have z2 := R1.out.cell 2 (.int .i64 0) rfl
  have f0 := R1.out.free 0
  have f1 := R1.out.free 1
  have f2 := R1.out.free 2
  have y0 := R2.out.cell 0 (.int .i64 (x % 4)) rfl
  have y1 := R2.out.cell 1 (.int .i64 (x / 4)) rfl
  have y2 := R2.out.cell 2 (.int .i64 0) rfl
  go_wp2_with fail
  have hF := (((R1.out.set 0 (.int .i64 0)).set 1 (.int .i64 0)).set 2 (.int .i64 0))
  have k0 := hF.cell 0 (.int .i64 0) (by simp)
  have k1 := hF.cell 1 (.int .i64 0) (by simp)
  have k2 := hF.cell 2 (.int .i64 0) (by simp)
  have gs : w1.grownBy _ (some w.heap.size) := g_set (g_set (g_set (g_refl w1 (some w.heap.size)) (p := ⟨w.heap.size, 0, none⟩) (.inl rfl) (.int .i64 0)) (p := ⟨w.heap.size, 1, none⟩) (.inl rfl) (.int .i64 0)) (p := ⟨w.heap.size, 2, none⟩) (.inl rfl) (.int .i64 0)
  exact bodyPost_ret (v := .tuple #[.agg #[.int .i64 0, .int .i64 0, .int .i64 0], .int .i64 30]) (by simp [results, Try.results8, go_sem, k0, k1, k2]) rfl ⟨rfl, g_in (g_trans HG.out hg) gs (Nat.le_refl _)⟩

end Go.Proofs.YtmnldcnlnbpbbaaRR
