/- The table of records: what it is in memory, its methods. -/
import Derived.Test.YtmnldcnlnbpbbaaRRA
namespace Go.Proofs.YtmnldcnlnbpbbaaRR
open Go.RowKit
set_option linter.unusedVariables false

set_option maxHeartbeats 400000 in
theorem load_any (b o : Nat) (x : Int) (w : World) (h : w.cell? ⟨b, o, none⟩ = some (.int .i64 x)) :
    Calls Try.prog 18 #[.pointer (some ⟨b, o, none⟩)] w fun e w' => e = .returned (.int .i64 x) ∧ w = w' := by
  have hld := run_call_load (P := Try.prog) Try.func22 (by kernel_rfl) (by kernel_rfl) (by kernel_rfl) .i64 (by kernel_rfl) h
  go_enter Try.func18, Try.ntmps18
  go_wp2
  go_ret
  exact ⟨rfl, rfl⟩
set_option maxHeartbeats 400000 in
theorem add_any (b o : Nat) (x d : Int) (w : World) (h : w.cell? ⟨b, o, none⟩ = some (.int .i64 x)) (hf : w.frozen? ⟨b, o, none⟩ = false) (h1 : -4611686018427387904 ≤ x + d) (h2 : x + d < 4611686018427387904) :
    Calls Try.prog 20 #[.pointer (some ⟨b, o, none⟩), .int .i64 d] w fun e w' => e = .returned (.int .i64 (x + d)) ∧ w.setCell ⟨b, o, none⟩ (.int .i64 (x + d)) = w' := by
  have hs : (Op.intArith .add .i64 x d).run Try.prog w = .ok (.int .i64 (x + d)) w := by
    have e : IntKind.i64.wrap (x + d) = x + d := by rw [IntKind.wrap_i64]; omega
    simp [Op.intArith, go_sem, e]
  have had := run_call_add (P := Try.prog) Try.func24 (by kernel_rfl) (by kernel_rfl) (by kernel_rfl) .i64 (by kernel_rfl) h hf hs
  clear hs
  go_enter Try.func20, Try.ntmps20
  go_wp2
  go_ret
  exact ⟨rfl, rfl⟩
set_option maxHeartbeats 400000 in
theorem store_any (b o : Nat) (x d : Int) (w : World) (h : w.cell? ⟨b, o, none⟩ = some (.int .i64 x)) (hf : w.frozen? ⟨b, o, none⟩ = false) :
    Calls Try.prog 21 #[.pointer (some ⟨b, o, none⟩), .int .i64 d] w fun e w' => e = .returned (.tuple #[]) ∧ w.setCell ⟨b, o, none⟩ (.int .i64 d) = w' := by
  have hst := run_call_store (P := Try.prog) Try.func25 (by kernel_rfl) (by kernel_rfl) (by kernel_rfl) (by kernel_rfl) (k := .i64) (y := d) h hf
  go_enter Try.func21, Try.ntmps21
  go_wp2
  go_end0
  exact ⟨rfl, rfl⟩
set_option maxHeartbeats 400000 in
theorem cas_hit (b o : Nat) (x y : Int) (w : World) (h : w.cell? ⟨b, o, none⟩ = some (.int .i64 x)) (hf : w.frozen? ⟨b, o, none⟩ = false) :
    Calls Try.prog 19 #[.pointer (some ⟨b, o, none⟩), .int .i64 x, .int .i64 y] w fun e w' => e = .returned (.bool true) ∧ w.setCell ⟨b, o, none⟩ (.int .i64 y) = w' := by
  have hst := run_call_cas_hit (P := Try.prog) Try.func23 (by kernel_rfl) (by kernel_rfl) (by kernel_rfl) .i64 (by kernel_rfl) (y := y) h hf
  go_enter Try.func19, Try.ntmps19
  go_wp2
  go_ret
  exact ⟨rfl, rfl⟩
set_option maxHeartbeats 400000 in
theorem cas_miss (b o : Nat) (x z y : Int) (w : World) (h : w.cell? ⟨b, o, none⟩ = some (.int .i64 x)) (hf : w.frozen? ⟨b, o, none⟩ = false) (hne : ¬ x = z) :
    Calls Try.prog 19 #[.pointer (some ⟨b, o, none⟩), .int .i64 z, .int .i64 y] w fun e w' => e = .returned (.bool false) ∧ w = w' := by
  have hst := run_call_cas_miss (P := Try.prog) Try.func23 (by kernel_rfl) (by kernel_rfl) (by kernel_rfl) .i64 (by kernel_rfl) (y := y) h hf hne
  go_enter Try.func19, Try.ntmps19
  go_wp2
  go_ret
  exact ⟨rfl, rfl⟩

/-- the cells of a table's row: of each record its word, how often it was taken -/
def cF (W T : Nat → Int) : Nat → Value := fun i => if i % 2 = 0 then .int .i64 (W (i / 2)) else .int .i64 (T (i / 2))
def upd (W : Nat → Int) (i : Nat) (x : Int) : Nat → Int := fun j => if j = i then x else W j
/-- a table of n records, at block b, its row at block g -/
def Tb (w : World) (b g n : Nat) (W T : Nat → Int) : Prop := Blk w b #[.slice (some ⟨g, 0, none⟩) n n] 56 ∧ ABlk w g 64 (n * 2) (cF W T) ∧ b ≠ g
section
variable {w w' : World} {b g n : Nat} {W T : Nat → Int}
theorem Tb.keep (h : Tb w b g n W T) (k : w.grownBy w' none) : Tb w' b g n W T := ⟨h.1.keepn k, h.2.1.keepn k, h.2.2⟩
theorem Tb.keeps {x : Nat} (h : Tb w b g n W T) (k : w.grownBy w' (some x)) (h1 : b ≠ x) (h2 : g ≠ x) : Tb w' b g n W T := ⟨h.1.keeps k h1, h.2.1.keeps k h2, h.2.2⟩
theorem Tb.c (h : Tb w b g n W T) : w.cell? ⟨b, 0, none⟩ = some (.slice (some ⟨g, 0, none⟩) n n) := h.1.cell 0 _ rfl
theorem Tb.word (h : Tb w b g n W T) {i : Nat} (hi : i < n) : w.cell? ⟨g, i * 2, none⟩ = some (.int .i64 (W i)) := by
  have := h.2.1.cell (i * 2) (by omega)
  rw [this]
  unfold cF
  rw [if_pos (by omega), show i * 2 / 2 = i by omega]
theorem Tb.taken (h : Tb w b g n W T) {i : Nat} (hi : i < n) : w.cell? ⟨g, i * 2 + 1, none⟩ = some (.int .i64 (T i)) := by
  have := h.2.1.cell (i * 2 + 1) (by omega)
  rw [this]
  unfold cF
  rw [if_neg (by omega), show (i * 2 + 1) / 2 = i by omega]
theorem Tb.setW (h : Tb w b g n W T) {i : Nat} (hi : i < n) (x : Int) : Tb (w.setCell ⟨g, i * 2, none⟩ (.int .i64 x)) b g n (upd W i x) T := by
  refine ⟨h.1.keeps (g_set (g_refl w (some g)) (.inl rfl) _) h.2.2, (h.2.1.set (i * 2) (.int .i64 x)).congr (fun j hj => ?_), h.2.2⟩
  unfold cF upd
  by_cases e : j = i * 2
  · subst e
    rw [if_pos rfl, if_pos (by omega), if_pos (by omega)]
  · rw [if_neg e]
    by_cases e2 : j % 2 = 0
    · rw [if_pos e2, if_pos e2, if_neg (by omega)]
    · rw [if_neg e2, if_neg e2]
theorem Tb.setT (h : Tb w b g n W T) {i : Nat} (hi : i < n) (x : Int) : Tb (w.setCell ⟨g, i * 2 + 1, none⟩ (.int .i64 x)) b g n W (upd T i x) := by
  refine ⟨h.1.keeps (g_set (g_refl w (some g)) (.inl rfl) _) h.2.2, (h.2.1.set (i * 2 + 1) (.int .i64 x)).congr (fun j hj => ?_), h.2.2⟩
  unfold cF upd
  by_cases e : j = i * 2 + 1
  · subst e
    rw [if_pos rfl, if_neg (by omega), if_pos (by omega)]
  · rw [if_neg e]
    by_cases e2 : j % 2 = 0
    · rw [if_pos e2, if_pos e2]
    · rw [if_neg e2, if_neg e2, if_neg (by omega)]
end

set_option maxHeartbeats 400000 in
theorem size_any (b g n : Nat) (W T : Nat → Int) (w : World) (h : Tb w b g n W T) :
    Calls Try.prog 16 #[.pointer (some ⟨b, 0, none⟩)] w fun e w' => e = .returned (.int .i64 n) ∧ w.grownBy w' none := by
  have c0 := h.c
  go_enter Try.func16, Try.ntmps16
  go_wp2_with fail
  go_ret
  exact ⟨rfl, g_refl _ _⟩

set_option maxHeartbeats 400000 in
theorem has_any (b g n : Nat) (W T : Nat → Int) (w : World) (h : Tb w b g n W T) (i : Nat) (hi : i < n) :
    Calls Try.prog 17 #[.pointer (some ⟨b, 0, none⟩), .int .i64 i] w fun e w' => e = .returned (.bool true) ∧ w.grownBy w' none := by
  go_enter Try.func17, Try.ntmps17
  go_wp2_with (go_at_call 16; refine (size_any _ _ _ _ _ _ h).mono ?_; rintro e w1 ⟨rfl, hg⟩)
  go_ret
  exact ⟨rfl, hg⟩

set_option maxHeartbeats 400000 in
theorem has_no (b g n : Nat) (W T : Nat → Int) (w : World) (h : Tb w b g n W T) (i : Nat) (hi : n ≤ i) :
    Calls Try.prog 17 #[.pointer (some ⟨b, 0, none⟩), .int .i64 i] w fun e w' => e = .returned (.bool false) ∧ w.grownBy w' none := by
  go_enter Try.func17, Try.ntmps17
  go_wp2_with (go_at_call 16; refine (size_any _ _ _ _ _ _ h).mono ?_; rintro e w1 ⟨rfl, hg⟩)
  go_ret
  exact ⟨ret_bool (decide_eq_false (by omega)), hg⟩

set_option maxHeartbeats 800000 in
theorem at_any (b g n : Nat) (W T : Nat → Int) (w : World) (h : Tb w b g n W T) (i : Nat) (hi : i < n) (hn : n < 4000) (hok : okW (W i)) (hb : W i < 4611686018427387904) :
    Calls Try.prog 12 #[.pointer (some ⟨b, 0, none⟩), .int .i64 i] w fun e w' => e = .returned (.agg #[.int .i64 (W i % 4), .int .i64 (W i / 4), .int .i64 (T i)]) ∧ w.grownBy w' none := by
  have g0 := g_alloc (g_refl w none) (.cells #[.int .i64 0, .int .i64 0, .int .i64 0] 24)
  have hb0 := Blk.new w #[.int .i64 0, .int .i64 0, .int .i64 0] 24
  have hr := fun w => read_ok (W i) w hok (by omega)
  obtain ⟨x, hx⟩ : ∃ x, W i = x := ⟨_, rfl⟩
  obtain ⟨y, hy⟩ : ∃ y, T i = y := ⟨_, rfl⟩
  have hwd : ∀ w', w.grownBy w' none → w'.cell? ⟨b, 0, none⟩ = some (.slice (some ⟨g, 0, none⟩) n n) ∧ w'.cell? ⟨g, i * 2, none⟩ = some (.int .i64 x) ∧ w'.cell? ⟨g, i * 2 + 1, none⟩ = some (.int .i64 y) := fun w' k => ⟨(h.keep k).c, by rw [← hx]; exact (h.keep k).word hi, by rw [← hy]; exact (h.keep k).taken hi⟩
  rw [hx, hy]
  rw [hx] at hr
  have HWD := Lib.hid hwd
  have HB0 := Lib.hid hb0
  have lb := h.1.lt
  have lg := h.2.1.lt
  have H := Lib.hid h
  clear hwd hx hy hok hb h hb0
  go_enter Try.func12, Try.ntmps12
  go_wp2_with fail
  refine (has_any _ _ _ _ _ _ (H.out.keep g0) i hi).mono ?_
  rintro e w1 ⟨rfl, hg⟩
  have gA := g_trans g0 hg
  obtain ⟨p1, p2, p3⟩ := HWD.out w1 gA
  go_wp2_with fail
  refine (load_any _ _ _ _ p2).mono ?_
  rintro e w1' ⟨rfl, rfl⟩
  go_wp2_with fail
  refine (hr _).mono ?_
  rintro e w2 ⟨rfl, hg2⟩
  clear p1 p2 p3
  have g3 := g_alloc (g_refl w2 none) (.cells #[.int .i64 (x % 4), .int .i64 (x / 4), .int .i64 0] 24)
  have gB := g_trans gA hg2
  obtain ⟨p1, p2, p3⟩ := HWD.out _ (g_trans gB g3)
  have g4 := g_alloc (g_refl w2 none) (.cells #[.int .i64 (x % 4), .int .i64 (x / 4), .int .i64 y] 24)
  have R := Lib.hid (((HB0.out.keepn hg).keepn hg2).keepn g4)
  have r0 := R.out.cell 0 (.int .i64 0) rfl
  have r1 := R.out.cell 1 (.int .i64 0) rfl
  have r2 := R.out.cell 2 (.int .i64 0) rfl
  have f0 := R.out.free 0
  have f1 := R.out.free 1
  have f2 := R.out.free 2
  go_wp2_with fail
  refine (load_any _ _ _ _ p3).mono ?_
  rintro e w1' ⟨rfl, rfl⟩
  go_wp2_with fail
  have hF := (((R.out.set 0 (.int .i64 (x % 4))).set 1 (.int .i64 (x / 4))).set 2 (.int .i64 y))
  have k0 := hF.cell 0 (.int .i64 (x % 4)) (by simp)
  have k1 := hF.cell 1 (.int .i64 (x / 4)) (by simp)
  have k2 := hF.cell 2 (.int .i64 y) (by simp)
  have gs := g_set (g_set (g_set (g_refl (w2.alloc (.cells #[.int .i64 (x % 4), .int .i64 (x / 4), .int .i64 y] 24)) (some w.heap.size)) (p := ⟨w.heap.size, 0, none⟩) (.inl rfl) (.int .i64 (x % 4))) (p := ⟨w.heap.size, 1, none⟩) (.inl rfl) (.int .i64 (x / 4))) (p := ⟨w.heap.size, 2, none⟩) (.inl rfl) (.int .i64 y)
  exact bodyPost_ret (v := .agg #[.int .i64 (x % 4), .int .i64 (x / 4), .int .i64 y]) (by simp [results, Try.results12, go_sem, k0, k1, k2]) rfl ⟨rfl, g_in (g_trans gB g4) gs (Nat.le_refl _)⟩
end Go.Proofs.YtmnldcnlnbpbbaaRR
