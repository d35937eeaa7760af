/- What an instruction does, and what it tells: any. -/
import Derived.Test.YtdfompfboopkpaaM
namespace Go.Proofs.Ytdfompfboopkpaa
open Go.RowKit
set_option linter.unusedVariables false
set_option linter.unusedSimpArgs false

def okZ (k A B C : Int) : Bool := decide (1 ≤ k ∧ k ≤ 20) && okI k.toNat A B C
def inK (k : Int) : Prop := k = 8 ∨ k = 9 ∨ k = 19
instance (k : Int) : Decidable (inK k) := by unfold inK; infer_instance
def doE (F : Nat → Int) (pc k A B C : Int) : Int := if okZ k A B C && locB k then (if pc < 0 ∨ 511 < pc then 5 else if inK k then 0 else mE k F B C) else 100
def doN (F : Nat → Int) (pc k A B C : Int) : Int := if doE F pc k A B C = 0 then (if k = 8 then A else if k = 9 ∧ zeroB (rK F A) (rN F A) = true then B else pc + 1) else 0
def doR (F : Nat → Int) (pc k A B C rk rn : Int) : Nat → Int := if doE F pc k A B C = 0 then (if inK k then F else upd F A.toNat (mK k F B C rk) (mN k F B C rn)) else fun _ => 0

theorem okZ_in {k : Int} {n : Nat} (hk : k = n) (h1 : 1 ≤ n) (h2 : n ≤ 20) (A B C : Int) : okZ k A B C = okI n A B C := by
  subst hk; unfold okZ
  rw [show decide (1 ≤ (n : Int) ∧ (n : Int) ≤ 20) = true from by simp; omega, Int.toNat_natCast]; rfl
theorem okZ_out {k : Int} (h : k < 1 ∨ 20 < k) (A B C : Int) : okZ k A B C = false := by
  unfold okZ
  rw [show decide (1 ≤ k ∧ k ≤ 20) = false from by simp; omega]; rfl

theorem check_any (k A B C : Int) (w : World) : Calls Try.prog 17 #[.agg #[.int .i64 k, .int .i64 A, .int .i64 B, .int .i64 C]] w fun e w' => e = .returned (.int .i64 (if okZ k A B C then 0 else 100)) ∧ w.grownBy w' none := by
  rcases kind_cases k with ⟨n, rfl, h1, h2⟩ | h
  · rw [okZ_in rfl h1 h2]; exact check_ok n h1 h2 A B C w
  · rw [okZ_out h]; exact check_bad k h A B C w
theorem is_any (k A B C : Int) (w : World) : Calls Try.prog 22 #[.agg #[.int .i64 k, .int .i64 A, .int .i64 B, .int .i64 C]] w fun e w' => e = .returned (.bool (okZ k A B C)) ∧ w.grownBy w' none := by
  rcases kind_cases k with ⟨n, rfl, h1, h2⟩ | h
  · rw [okZ_in rfl h1 h2]; exact is_ok n h1 h2 A B C w
  · rw [okZ_out h]; exact is_bad k h A B C w

theorem fitsP_1 {n f p : Int} (h : fitsP 1 n f p) : 0 ≤ n ∧ n ≤ 7 := h.2.1 rfl
theorem fitsP_3 {n f p : Int} (h : fitsP 3 n f p) : 0 ≤ n ∧ n ≤ 512 := h.2.2.2.1 rfl

theorem okI_fits {k : Nat} {A B C : Int} (h : okI k A B C = true) : fitsP (sA k) A 0 (2 ^ (0 : Int).toNat) ∧ fitsP (sB k) B 0 (2 ^ (0 : Int).toNat) ∧ fitsP (sC k) C B (2 ^ B.toNat) := by
  unfold okI at h; simp only [Bool.and_eq_true, decide_eq_true_eq] at h; exact ⟨h.1.1, h.1.2, h.2⟩

theorem ok_kind {k A B C : Int} (h : okZ k A B C = true) (hl : locB k = true) :
    (∃ n : Nat, k = n ∧ mkK n ∧ (0 ≤ A ∧ A < 8) ∧ (3 ≤ n → n ≤ 7 → 0 ≤ B ∧ B < 8) ∧ (4 ≤ n → n ≤ 7 → 0 ≤ C ∧ C < 8)) ∨ (k = 8 ∧ 0 ≤ A ∧ A ≤ 512) ∨ (k = 9 ∧ (0 ≤ A ∧ A < 8) ∧ 0 ≤ B ∧ B ≤ 512) ∨ (k = 19 ∧ 0 ≤ A ∧ A < 8) := by
  rcases kind_cases k with ⟨n, rfl, h1, h2⟩ | hh
  · rw [okZ_in rfl h1 h2] at h
    obtain ⟨fa, fb, fc⟩ := okI_fits h
    have hn : (1 ≤ n ∧ n ≤ 10) ∨ n = 19 := by
      unfold locB at hl; simp only [decide_eq_true_eq] at hl; omega
    have key : n = 1 ∨ n = 2 ∨ n = 3 ∨ n = 4 ∨ n = 5 ∨ n = 6 ∨ n = 7 ∨ n = 8 ∨ n = 9 ∨ n = 10 ∨ n = 19 := by omega
    rcases key with rfl | rfl | rfl | rfl | rfl | rfl | rfl | rfl | rfl | rfl | rfl
    · have := fitsP_1 fa; exact .inl ⟨_, rfl, by unfold mkK; omega, by omega, by omega, by omega⟩
    · have := fitsP_1 fa; exact .inl ⟨_, rfl, by unfold mkK; omega, by omega, by omega, by omega⟩
    · have := fitsP_1 fa; have := fitsP_1 fb; exact .inl ⟨_, rfl, by unfold mkK; omega, by omega, by omega, by omega⟩
    · have := fitsP_1 fa; have := fitsP_1 fb; have := fitsP_1 fc; exact .inl ⟨_, rfl, by unfold mkK; omega, by omega, by omega, by omega⟩
    · have := fitsP_1 fa; have := fitsP_1 fb; have := fitsP_1 fc; exact .inl ⟨_, rfl, by unfold mkK; omega, by omega, by omega, by omega⟩
    · have := fitsP_1 fa; have := fitsP_1 fb; have := fitsP_1 fc; exact .inl ⟨_, rfl, by unfold mkK; omega, by omega, by omega, by omega⟩
    · have := fitsP_1 fa; have := fitsP_1 fb; have := fitsP_1 fc; exact .inl ⟨_, rfl, by unfold mkK; omega, by omega, by omega, by omega⟩
    · have := fitsP_3 fa; exact .inr (.inl ⟨rfl, by omega, by omega⟩)
    · have := fitsP_1 fa; have := fitsP_3 fb; exact .inr (.inr (.inl ⟨rfl, by omega, by omega, by omega⟩))
    · have := fitsP_1 fa; exact .inl ⟨_, rfl, by unfold mkK; omega, by omega, by omega, by omega⟩
    · have := fitsP_1 fa; exact .inr (.inr (.inr ⟨rfl, by omega, by omega⟩))
  · rw [okZ_out hh] at h; simp at h

theorem doN_err {F : Nat → Int} {pc k A B C : Int} (h : doE F pc k A B C ≠ 0) : doN F pc k A B C = 0 := by unfold doN; rw [if_neg h]
theorem doR_err {F : Nat → Int} {pc k A B C rk rn : Int} (h : doE F pc k A B C ≠ 0) : rgv (doR F pc k A B C rk rn) = Z25 := by unfold doR; rw [if_neg h]; rfl
theorem mkK_not_in {n : Nat} (h : mkK n) : ¬ inK (n : Int) := by unfold mkK at h; unfold inK; omega

def DoP (f : Nat) : Prop := ∀ (F : Nat → Int) (pc k A B C rk rn : Int) (w : World), Calls Try.prog f #[.agg (rgv F), .int .i64 pc, .agg #[.int .i64 k, .int .i64 A, .int .i64 B, .int .i64 C], .agg #[.int .i64 rk, .int .i64 rn]] w fun e w' => e = .returned (.tuple #[.agg (rgv (doR F pc k A B C rk rn)), .int .i64 (doN F pc k A B C), .int .i64 (doE F pc k A B C)]) ∧ w.grownBy w' none

theorem do_cases (f : Nat)
    (bad : ∀ (F : Nat → Int) (pc k A B C rk rn : Int), okZ k A B C = false → ∀ w, Calls Try.prog f #[.agg (rgv F), .int .i64 pc, .agg #[.int .i64 k, .int .i64 A, .int .i64 B, .int .i64 C], .agg #[.int .i64 rk, .int .i64 rn]] w fun e w' => e = .returned (.tuple #[.agg Z25, .int .i64 0, .int .i64 100]) ∧ w.grownBy w' none)
    (far : ∀ (F : Nat → Int) (pc k A B C rk rn : Int), okZ k A B C = true → locB k = false → ∀ w, Calls Try.prog f #[.agg (rgv F), .int .i64 pc, .agg #[.int .i64 k, .int .i64 A, .int .i64 B, .int .i64 C], .agg #[.int .i64 rk, .int .i64 rn]] w fun e w' => e = .returned (.tuple #[.agg Z25, .int .i64 0, .int .i64 100]) ∧ w.grownBy w' none)
    (place : ∀ (F : Nat → Int) (pc k A B C rk rn : Int), okZ k A B C = true → locB k = true → (pc < 0 ∨ 511 < pc) → ∀ w, Calls Try.prog f #[.agg (rgv F), .int .i64 pc, .agg #[.int .i64 k, .int .i64 A, .int .i64 B, .int .i64 C], .agg #[.int .i64 rk, .int .i64 rn]] w fun e w' => e = .returned (.tuple #[.agg Z25, .int .i64 0, .int .i64 5]) ∧ w.grownBy w' none)
    (emit : ∀ (F : Nat → Int) (pc A B C rk rn : Int), okZ 19 A B C = true → 0 ≤ pc → pc < 512 → ∀ w, Calls Try.prog f #[.agg (rgv F), .int .i64 pc, .agg #[.int .i64 19, .int .i64 A, .int .i64 B, .int .i64 C], .agg #[.int .i64 rk, .int .i64 rn]] w fun e w' => e = .returned (.tuple #[.agg (rgv F), .int .i64 (pc + 1), .int .i64 0]) ∧ w.grownBy w' none)
    (jump : ∀ (F : Nat → Int) (pc A B C rk rn : Int), okZ 8 A B C = true → 0 ≤ pc → pc < 512 → ∀ w, Calls Try.prog f #[.agg (rgv F), .int .i64 pc, .agg #[.int .i64 8, .int .i64 A, .int .i64 B, .int .i64 C], .agg #[.int .i64 rk, .int .i64 rn]] w fun e w' => e = .returned (.tuple #[.agg (rgv F), .int .i64 A, .int .i64 0]) ∧ w.grownBy w' none)
    (jz : ∀ (F : Nat → Int) (pc : Int) (A : Nat) (B C rk rn : Int), A < 8 → okZ 9 A B C = true → 0 ≤ pc → pc < 512 → zeroB (F (A * 2)) (F (A * 2 + 1)) = true → ∀ w, Calls Try.prog f #[.agg (rgv F), .int .i64 pc, .agg #[.int .i64 9, .int .i64 A, .int .i64 B, .int .i64 C], .agg #[.int .i64 rk, .int .i64 rn]] w fun e w' => e = .returned (.tuple #[.agg (rgv F), .int .i64 B, .int .i64 0]) ∧ w.grownBy w' none)
    (jn : ∀ (F : Nat → Int) (pc : Int) (A : Nat) (B C rk rn : Int), A < 8 → okZ 9 A B C = true → 0 ≤ pc → pc < 512 → zeroB (F (A * 2)) (F (A * 2 + 1)) = false → ∀ w, Calls Try.prog f #[.agg (rgv F), .int .i64 pc, .agg #[.int .i64 9, .int .i64 A, .int .i64 B, .int .i64 C], .agg #[.int .i64 rk, .int .i64 rn]] w fun e w' => e = .returned (.tuple #[.agg (rgv F), .int .i64 (pc + 1), .int .i64 0]) ∧ w.grownBy w' none)
    (err : ∀ (F : Nat → Int) (pc : Int) (n : Nat) (A B C rk rn : Int), mkK n → (3 ≤ n → n ≤ 7 → 0 ≤ B ∧ B < 8) → (4 ≤ n → n ≤ 7 → 0 ≤ C ∧ C < 8) → okZ n A B C = true → locB n = true → 0 ≤ pc → pc < 512 → mE n F B C ≠ 0 → ∀ w, Calls Try.prog f #[.agg (rgv F), .int .i64 pc, .agg #[.int .i64 n, .int .i64 A, .int .i64 B, .int .i64 C], .agg #[.int .i64 rk, .int .i64 rn]] w fun e w' => e = .returned (.tuple #[.agg Z25, .int .i64 0, .int .i64 (mE n F B C)]) ∧ w.grownBy w' none)
    (ok : ∀ (F : Nat → Int) (pc : Int) (n A : Nat) (B C rk rn : Int), mkK n → A < 8 → (3 ≤ n → n ≤ 7 → 0 ≤ B ∧ B < 8) → (4 ≤ n → n ≤ 7 → 0 ≤ C ∧ C < 8) → okZ n A B C = true → locB n = true → 0 ≤ pc → pc < 512 → mE n F B C = 0 → ∀ w, Calls Try.prog f #[.agg (rgv F), .int .i64 pc, .agg #[.int .i64 n, .int .i64 A, .int .i64 B, .int .i64 C], .agg #[.int .i64 rk, .int .i64 rn]] w fun e w' => e = .returned (.tuple #[.agg (rgv (upd F A (mK n F B C rk) (mN n F B C rn))), .int .i64 (pc + 1), .int .i64 0]) ∧ w.grownBy w' none) : DoP f := by
  intro F pc k A B C rk rn w
  cases h : okZ k A B C
  · have e : doE F pc k A B C = 100 := by unfold doE; rw [h]; rfl
    rw [doR_err (by omega), doN_err (by omega), e]; exact bad F pc k A B C rk rn h w
  cases hl : locB k
  · have e : doE F pc k A B C = 100 := by unfold doE; rw [h, hl]; rfl
    rw [doR_err (by omega), doN_err (by omega), e]; exact far F pc k A B C rk rn h hl w
  by_cases hp : pc < 0 ∨ 511 < pc
  · have e : doE F pc k A B C = 5 := by unfold doE; rw [h, hl, if_pos (by rfl), if_pos hp]
    rw [doR_err (by omega), doN_err (by omega), e]; exact place F pc k A B C rk rn h hl hp w
  have e : doE F pc k A B C = if inK k then 0 else mE k F B C := by unfold doE; rw [h, hl, if_pos (by rfl), if_neg hp]
  rcases ok_kind h hl with ⟨n, rfl, hm, ha, hb, hc⟩ | ⟨rfl, ha⟩ | ⟨rfl, ha, hb⟩ | ⟨rfl, ha⟩
  · have hi := mkK_not_in hm
    rw [if_neg hi] at e
    by_cases hz : mE n F B C = 0
    · have q : doE F pc n A B C = 0 := by rw [e, hz]
      obtain ⟨a, rfl⟩ : ∃ a : Nat, A = a := ⟨A.toNat, by omega⟩
      have hr : doR F pc n a B C rk rn = upd F a (mK n F B C rk) (mN n F B C rn) := by unfold doR; rw [if_pos q, if_neg hi, Int.toNat_natCast]
      have hn : doN F pc n a B C = pc + 1 := by unfold doN; rw [if_pos q, if_neg (by unfold inK at hi; omega), if_neg (by unfold inK at hi; omega)]
      rw [hr, hn, q]; exact ok F pc n a B C rk rn hm (by omega) hb hc h hl (by omega) (by omega) hz w
    · rw [doR_err (by omega), doN_err (by omega), e]; exact err F pc n A B C rk rn hm hb hc h hl (by omega) (by omega) hz w
  · rw [if_pos (by unfold inK; omega)] at e
    have hr : doR F pc 8 A B C rk rn = F := by unfold doR; rw [if_pos e, if_pos (by unfold inK; omega)]
    have hn : doN F pc 8 A B C = A := by unfold doN; rw [if_pos e, if_pos rfl]
    rw [hr, hn, e]; exact jump F pc A B C rk rn h (by omega) (by omega) w
  · rw [if_pos (by unfold inK; omega)] at e
    have hr : doR F pc 9 A B C rk rn = F := by unfold doR; rw [if_pos e, if_pos (by unfold inK; omega)]
    obtain ⟨a, rfl⟩ : ∃ a : Nat, A = a := ⟨A.toNat, by omega⟩
    have hz0 : zeroB (rK F a) (rN F a) = zeroB (F (a * 2)) (F (a * 2 + 1)) := by rw [rK_nat, rN_nat]
    cases hz : zeroB (F (a * 2)) (F (a * 2 + 1))
    · have hn : doN F pc 9 a B C = pc + 1 := by unfold doN; rw [if_pos e, if_neg (by omega), hz0, hz, if_neg (by simp)]
      rw [hr, hn, e]; exact jn F pc a B C rk rn (by omega) h (by omega) (by omega) hz w
    · have hn : doN F pc 9 a B C = B := by unfold doN; rw [if_pos e, if_neg (by omega), hz0, hz, if_pos (by simp)]
      rw [hr, hn, e]; exact jz F pc a B C rk rn (by omega) h (by omega) (by omega) hz w
  · rw [if_pos (by unfold inK; omega)] at e
    have hr : doR F pc 19 A B C rk rn = F := by unfold doR; rw [if_pos e, if_pos (by unfold inK; omega)]
    have hn : doN F pc 19 A B C = pc + 1 := by unfold doN; rw [if_pos e, if_neg (by omega), if_neg (by omega)]
    rw [hr, hn, e]; exact emit F pc A B C rk rn h (by omega) (by omega) w

theorem chk_yes {k A B C : Int} (h : okZ k A B C = true) (w : World) : Calls Try.prog 17 #[.agg #[.int .i64 k, .int .i64 A, .int .i64 B, .int .i64 C]] w fun e w' => e = .returned (.int .i64 0) ∧ w.grownBy w' none := by
  have := check_any k A B C w; rw [h] at this; exact this
theorem chk_no {k A B C : Int} (h : okZ k A B C = false) (w : World) : Calls Try.prog 17 #[.agg #[.int .i64 k, .int .i64 A, .int .i64 B, .int .i64 C]] w fun e w' => e = .returned (.int .i64 100) ∧ w.grownBy w' none := by
  have := check_any k A B C w; rw [h] at this; exact this
theorem is_yes {k A B C : Int} (h : okZ k A B C = true) (w : World) : Calls Try.prog 22 #[.agg #[.int .i64 k, .int .i64 A, .int .i64 B, .int .i64 C]] w fun e w' => e = .returned (.bool true) ∧ w.grownBy w' none := by
  have := is_any k A B C w; rw [h] at this; exact this
theorem is_no {k A B C : Int} (h : okZ k A B C = false) (w : World) : Calls Try.prog 22 #[.agg #[.int .i64 k, .int .i64 A, .int .i64 B, .int .i64 C]] w fun e w' => e = .returned (.bool false) ∧ w.grownBy w' none := by
  have := is_any k A B C w; rw [h] at this; exact this
theorem loc_b {k : Int} {b : Bool} (h : locB k = b) (w : World) : Calls Try.prog 18 #[.int .i64 k] w fun e w' => e = .returned (.bool b) ∧ w.grownBy w' none := h ▸ local_any k w
theorem rloc_b {k : Int} {b : Bool} (h : locB k = b) (w : World) : Calls Try.prog 23 #[.int .i64 k] w fun e w' => e = .returned (.bool b) ∧ w.grownBy w' none := h ▸ rlocal_any k w
theorem zero_b {k n : Int} {b : Bool} (h : zeroB k n = b) (w : World) : Calls Try.prog 19 #[.agg #[.int .i64 k, .int .i64 n]] w fun e w' => e = .returned (.bool b) ∧ w.grownBy w' none := h ▸ zero_any k n w
theorem rzero_b {k n : Int} {b : Bool} (h : zeroB k n = b) (w : World) : Calls Try.prog 24 #[.agg #[.int .i64 k, .int .i64 n]] w fun e w' => e = .returned (.bool b) ∧ w.grownBy w' none := h ▸ rzero_any k n w

theorem do_any : DoP 7 := do_cases 7
  (fun F pc k A B C rk rn h w => do_bad F pc k A B C rk rn 100 (by omega) (chk_no h) w)
  (fun F pc k A B C rk rn h hl w => do_far F pc k A B C rk rn (chk_yes h) (loc_b hl) w)
  (fun F pc k A B C rk rn h hl hp w => do_place F pc k A B C rk rn hp (chk_yes h) (loc_b hl) w)
  (fun F pc A B C rk rn h p1 p2 w => do_emit F pc A B C rk rn p1 p2 (chk_yes h) (loc_b (by decide)) w)
  (fun F pc A B C rk rn h p1 p2 w => do_jump F pc A B C rk rn p1 p2 (chk_yes h) (loc_b (by decide)) (fun w => target_any 8 A B C w) w)
  (fun F pc A B C rk rn hA h p1 p2 hz w => do_jumpz_true F pc B C rk rn A hA p1 p2 (chk_yes h) (loc_b (by decide)) (fun w => target_any 9 A B C w) (zero_b hz) w)
  (fun F pc A B C rk rn hA h p1 p2 hz w => do_jumpz_false F pc B C rk rn A hA p1 p2 (chk_yes h) (loc_b (by decide)) (zero_b hz) w)
  (fun F pc n A B C rk rn hm hb hc h hl p1 p2 hz w => do_made_err F pc B C rk rn _ _ A n hm _ hz p1 p2 (chk_yes h) (loc_b hl) (fun w => made_any F A rk rn n B C hm hb hc w) w)
  (fun F pc n A B C rk rn hm hA hb hc h hl p1 p2 hz w => do_made_ok F pc B C rk rn _ _ A hA n hm p1 p2 (chk_yes h) (loc_b hl) (fun w => hz ▸ made_any F A rk rn n B C hm hb hc w) w)

theorem rdo_any : DoP 8 := do_cases 8
  (fun F pc k A B C rk rn h w => rdo_bad F pc k A B C rk rn (is_no h) w)
  (fun F pc k A B C rk rn h hl w => rdo_far F pc k A B C rk rn (is_yes h) (rloc_b hl) w)
  (fun F pc k A B C rk rn h hl hp w => rdo_place F pc k A B C rk rn hp (is_yes h) (rloc_b hl) w)
  (fun F pc A B C rk rn h p1 p2 w => rdo_emit F pc A B C rk rn p1 p2 (is_yes h) (rloc_b (by decide)) w)
  (fun F pc A B C rk rn h p1 p2 w => rdo_jump F pc A B C rk rn p1 p2 (is_yes h) (rloc_b (by decide)) w)
  (fun F pc A B C rk rn hA h p1 p2 hz w => rdo_jumpz_true F pc B C rk rn A hA p1 p2 (is_yes h) (rloc_b (by decide)) (rzero_b hz) w)
  (fun F pc A B C rk rn hA h p1 p2 hz w => rdo_jumpz_false F pc B C rk rn A hA p1 p2 (is_yes h) (rloc_b (by decide)) (rzero_b hz) w)
  (fun F pc n A B C rk rn hm hb hc h hl p1 p2 hz w => rdo_made_err F pc B C rk rn _ _ A n hm _ hz p1 p2 (is_yes h) (rloc_b hl) (fun w => rmade_any F A rk rn n B C hm hb hc w) w)
  (fun F pc n A B C rk rn hm hA hb hc h hl p1 p2 hz w => rdo_made_ok F pc B C rk rn _ _ A hA n hm p1 p2 (is_yes h) (rloc_b hl) (fun w => hz ▸ rmade_any F A rk rn n B C hm hb hc w) w)

def tB (k A B C : Int) : Bool := decide (k = 19) && okZ k A B C
def tK (F : Nat → Int) (k A B C : Int) : Int := if tB k A B C then rK F A else 0
def tN (F : Nat → Int) (k A B C : Int) : Int := if tB k A B C then rN F A else 0
theorem told_any (F : Nat → Int) (k A B C : Int) (w : World) : Calls Try.prog 14 #[.agg (rgv F), .agg #[.int .i64 k, .int .i64 A, .int .i64 B, .int .i64 C]] w fun e w' => e = .returned (.tuple #[.agg #[.int .i64 (tK F k A B C), .int .i64 (tN F k A B C)], .bool (tB k A B C)]) ∧ w.grownBy w' none := by
  unfold tK tN
  by_cases hk : k = 19
  · subst hk
    cases h : okZ 19 A B C
    · rw [show tB 19 A B C = false from by unfold tB; rw [h]; rfl]; exact told_bad F 100 A B C (by omega) (chk_no h) w
    · rw [show tB 19 A B C = true from by unfold tB; rw [h]; rfl]
      have ha : 0 ≤ A ∧ A < 8 := by
        rcases ok_kind h (by decide) with ⟨n, hn, hm, _⟩ | ⟨hh, _⟩ | ⟨hh, _⟩ | ⟨_, ha⟩
        · unfold mkK at hm; omega
        · omega
        · omega
        · exact ha
      obtain ⟨a, rfl⟩ : ∃ a : Nat, A = a := ⟨A.toNat, by omega⟩
      rw [if_pos rfl, if_pos rfl, rK_nat, rN_nat]; exact told_ok F a B C (by omega) (chk_yes h) w
  · rw [show tB k A B C = false from by unfold tB; rw [show decide (k = 19) = false from by simp [hk]]; rfl]; exact told_other F k A B C hk w
theorem rtold_any (F : Nat → Int) (k A B C : Int) (w : World) : Calls Try.prog 15 #[.agg (rgv F), .agg #[.int .i64 k, .int .i64 A, .int .i64 B, .int .i64 C]] w fun e w' => e = .returned (.tuple #[.agg #[.int .i64 (tK F k A B C), .int .i64 (tN F k A B C)], .bool (tB k A B C)]) ∧ w.grownBy w' none := by
  unfold tK tN
  by_cases hk : k = 19
  · subst hk
    cases h : okZ 19 A B C
    · rw [show tB 19 A B C = false from by unfold tB; rw [h]; rfl]; exact rtold_bad F 100 A B C (by omega) (is_no h) w
    · rw [show tB 19 A B C = true from by unfold tB; rw [h]; rfl]
      have ha : 0 ≤ A ∧ A < 8 := by
        rcases ok_kind h (by decide) with ⟨n, hn, hm, _⟩ | ⟨hh, _⟩ | ⟨hh, _⟩ | ⟨_, ha⟩
        · unfold mkK at hm; omega
        · omega
        · omega
        · exact ha
      obtain ⟨a, rfl⟩ : ∃ a : Nat, A = a := ⟨A.toNat, by omega⟩
      rw [if_pos rfl, if_pos rfl, rK_nat, rN_nat]; exact rtold_ok F a B C (by omega) (is_yes h) w
  · rw [show tB k A B C = false from by unfold tB; rw [show decide (k = 19) = false from by simp [hk]]; rfl]; exact rtold_other F k A B C hk w

def putF (F : Nat → Int) (i k n : Int) : Nat → Int := if 0 ≤ i ∧ i < 8 then upd F i.toNat k n else F
theorem put_any (F : Nat → Int) (i k n : Int) (w : World) : Calls Try.prog 16 #[.agg (rgv F), .int .i64 i, .agg #[.int .i64 k, .int .i64 n]] w fun e w' => e = .returned (.agg (rgv (putF F i k n))) ∧ w.grownBy w' none := by
  unfold putF
  by_cases h : 0 ≤ i ∧ i < 8
  · obtain ⟨a, rfl⟩ : ∃ a : Nat, i = a := ⟨i.toNat, by omega⟩
    rw [if_pos h, Int.toNat_natCast]; exact put_in F a (by omega) k n w
  · rw [if_neg h]; exact put_out F i (by omega) k n w
theorem rput_any (F : Nat → Int) (i k n : Int) (w : World) : Calls Try.prog 11 #[.agg (rgv F), .int .i64 i, .agg #[.int .i64 k, .int .i64 n]] w fun e w' => e = .returned (.agg (rgv (putF F i k n))) ∧ w.grownBy w' none := by
  unfold putF
  by_cases h : 0 ≤ i ∧ i < 8
  · obtain ⟨a, rfl⟩ : ∃ a : Nat, i = a := ⟨i.toNat, by omega⟩
    rw [if_pos h, Int.toNat_natCast]; exact rput_in F a (by omega) k n w
  · rw [if_neg h]; exact rput_out F i (by omega) k n w
end Go.Proofs.Ytdfompfboopkpaa
