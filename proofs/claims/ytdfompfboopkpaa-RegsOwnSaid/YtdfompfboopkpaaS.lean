/- The law RegsOwn. -/
import Derived.Test.YtdfompfboopkpaaO
namespace Go.Proofs.Ytdfompfboopkpaa
open Go.RowKit
set_option linter.unusedVariables false
set_option linter.unusedSimpArgs false

theorem rK_upd {F : Nat → Int} {K : Nat} {a b i : Int} (h0 : 0 ≤ i) (h : i ≠ K) : rK (upd F K a b) i = rK F i ∧ rN (upd F K a b) i = rN F i := by
  unfold rK rN upd
  refine ⟨?_, ?_⟩
  · rw [if_neg (by omega), if_neg (by omega)]
  · rw [if_neg (by omega), if_neg (by omega)]

theorem mk_same {F : Nat → Int} {n K : Nat} {B C rk rn a b : Int} (hm : mkK n) (hb : 3 ≤ n → n ≤ 7 → 0 ≤ B) (hc : 4 ≤ n → n ≤ 7 → 0 ≤ C) (hB : sB n = 1 → (K : Int) ≠ B) (hC : sC n = 1 → (K : Int) ≠ C) :
    mK n (upd F K a b) B C rk = mK n F B C rk ∧ mN n (upd F K a b) B C rn = mN n F B C rn ∧ mE n (upd F K a b) B C = mE n F B C := by
  rcases hm with rfl | rfl | rfl | rfl | rfl | rfl | rfl | rfl
  · exact ⟨rfl, rfl, rfl⟩
  · exact ⟨rfl, rfl, rfl⟩
  · obtain ⟨x1, x2⟩ := rK_upd (F := F) (a := a) (b := b) (hb (by omega) (by omega)) (fun h => hB rfl h.symm)
    simp [mK, mN, mE, x1, x2]
  all_goals first
    | (obtain ⟨x1, x2⟩ := rK_upd (F := F) (a := a) (b := b) (hb (by omega) (by omega)) (fun h => hB rfl h.symm)
       obtain ⟨y1, y2⟩ := rK_upd (F := F) (a := a) (b := b) (hc (by omega) (by omega)) (fun h => hC rfl h.symm)
       simp [mK, mN, mE, x1, x2, y1, y2])
    | exact ⟨rfl, rfl, rfl⟩

theorem doE_ok {F : Nat → Int} {pc k A B C : Int} (h : doE F pc k A B C = 0) : okZ k A B C = true ∧ locB k = true ∧ 0 ≤ pc ∧ pc ≤ 511 ∧ (¬ inK k → mE k F B C = 0) := by
  unfold doE at h
  split at h
  · rename_i hh
    simp only [Bool.and_eq_true] at hh
    split at h
    · omega
    · refine ⟨hh.1, hh.2, by omega, by omega, fun hi => ?_⟩
      rw [if_neg hi] at h; exact h
  · omega

theorem own_same {F : Nat → Int} {k A B C rk rn a b : Int} {n K : Nat} (hk : k = n) (h1 : 1 ≤ n) (h2 : n ≤ 20) (he : doE F 5 k A B C = 0) (hK : K < 8) (hA : (K : Int) ≠ A) (hB : sB n = 1 → (K : Int) ≠ B) (hC : sC n = 1 → (K : Int) ≠ C) :
    doE (upd F K a b) 5 k A B C = 0 ∧ doN (upd F K a b) 5 k A B C = doN F 5 k A B C ∧ rgv (doR (upd F K a b) 5 k A B C rk rn) = rgv (upd (doR F 5 k A B C rk rn) K a b) := by
  obtain ⟨ho, hl, -, -, hm0⟩ := doE_ok he
  rcases ok_kind ho hl with ⟨m, hkm, hm, ha, hb, hc⟩ | ⟨rfl, ha⟩ | ⟨rfl, ha, hb⟩ | ⟨rfl, ha⟩
  · obtain rfl : m = n := by omega
    subst hkm
    have hi := mkK_not_in hm
    obtain ⟨s1, s2, s3⟩ := mk_same (F := F) (rk := rk) (rn := rn) (a := a) (b := b) hm (fun x y => (hb x y).1) (fun x y => (hc x y).1) hB hC
    have e' : doE (upd F K a b) 5 m A B C = 0 := by
      unfold doE
      rw [ho, hl, if_pos (by rfl), if_neg (by omega), if_neg hi, s3]; exact hm0 hi
    have hr : doR F 5 m A B C rk rn = upd F A.toNat (mK m F B C rk) (mN m F B C rn) := by unfold doR; rw [if_pos he, if_neg hi]
    have hr' : doR (upd F K a b) 5 m A B C rk rn = upd (upd F K a b) A.toNat (mK m F B C rk) (mN m F B C rn) := by unfold doR; rw [if_pos e', if_neg hi, s1, s2]
    have hn : doN F 5 m A B C = 5 + 1 := by unfold doN; rw [if_pos he, if_neg (by unfold inK at hi; omega), if_neg (by unfold inK at hi; omega)]
    have hn' : doN (upd F K a b) 5 m A B C = 5 + 1 := by unfold doN; rw [if_pos e', if_neg (by unfold inK at hi; omega), if_neg (by unfold inK at hi; omega)]
    refine ⟨e', by rw [hn, hn'], ?_⟩
    rw [hr, hr']
    refine rgv_congr (fun i _ => ?_)
    unfold upd
    try dsimp only
    repeat' split
    all_goals first | rfl | omega
  · have e' : doE (upd F K a b) 5 8 A B C = 0 := by
      unfold doE
      rw [ho, hl, if_pos (by rfl), if_neg (by omega), if_pos (by unfold inK; omega)]
    refine ⟨e', ?_, ?_⟩
    · have q1 : doN F 5 8 A B C = A := by unfold doN; rw [if_pos he, if_pos rfl]
      have q2 : doN (upd F K a b) 5 8 A B C = A := by unfold doN; rw [if_pos e', if_pos rfl]
      rw [q1, q2]
    · unfold doR; rw [if_pos he, if_pos e', if_pos (by unfold inK; omega), if_pos (by unfold inK; omega)]
  · have e' : doE (upd F K a b) 5 9 A B C = 0 := by
      unfold doE
      rw [ho, hl, if_pos (by rfl), if_neg (by omega), if_pos (by unfold inK; omega)]
    obtain ⟨x1, x2⟩ := rK_upd (F := F) (a := a) (b := b) ha.1 (fun h => hA h.symm)
    refine ⟨e', ?_, ?_⟩
    · unfold doN; rw [if_pos he, if_pos e', x1, x2]
    · unfold doR; rw [if_pos he, if_pos e', if_pos (by unfold inK; omega), if_pos (by unfold inK; omega)]
  · have e' : doE (upd F K a b) 5 19 A B C = 0 := by
      unfold doE
      rw [ho, hl, if_pos (by rfl), if_neg (by omega), if_pos (by unfold inK; omega)]
    refine ⟨e', ?_, ?_⟩
    · unfold doN; rw [if_pos he, if_pos e', if_neg (by omega), if_neg (by omega), if_neg (by omega), if_neg (by omega)]
    · unfold doR; rw [if_pos he, if_pos e', if_pos (by unfold inK; omega), if_pos (by unfold inK; omega)]

theorem own_else {F : Nat → Int} {k A B C rk rn : Int} (he : doE F 5 k A B C = 0) {j : Nat} (hj : j < 8) (hA : (j : Int) ≠ A) :
    doR F 5 k A B C rk rn (j * 2) = F (j * 2) ∧ doR F 5 k A B C rk rn (j * 2 + 1) = F (j * 2 + 1) := by
  unfold doR
  rw [if_pos he]
  split
  · exact ⟨rfl, rfl⟩
  · rename_i hi
    obtain ⟨ho, hl, -⟩ := doE_ok he
    have ha : 0 ≤ A := by
      rcases ok_kind ho hl with ⟨m, hkm, hm, ha, hb, hc⟩ | ⟨rfl, ha⟩ | ⟨rfl, ha, hb⟩ | ⟨rfl, ha⟩ <;> omega
    unfold upd
    refine ⟨?_, ?_⟩ <;> (rw [if_neg (by omega), if_neg (by omega)])

set_option maxRecDepth 100000 in
set_option maxHeartbeats 6400000 in
theorem own_err (F : Nat → Int) (k A B C rk rn ok on a4 : Int) (w : World) (her : doE F 5 k A B C ≠ 0) :
    Calls Try.prog 4 #[.agg (rgv F), .agg #[.int .i64 k, .int .i64 A, .int .i64 B, .int .i64 C], .agg #[.int .i64 rk, .int .i64 rn], .agg #[.int .i64 ok, .int .i64 on], .int .u8 a4] w fun e w' => e = .returned (.bool true) ∧ Below w.heap.size w w' := by
  have HD := Lib.hid (fun w => do_any F 5 k A B C rk rn w)
  rw [doR_err her, doN_err her] at HD
  have hR := rg_rgv F
  have hz : ∀ w, (Op.equalIn 10000 25 (.agg Z25) (.agg #[.int .i64 0, .int .i64 0, .int .i64 0, .int .i64 0, .int .i64 0, .int .i64 0, .int .i64 0, .int .i64 0, .int .i64 0, .int .i64 0, .int .i64 0, .int .i64 0, .int .i64 0, .int .i64 0, .int .i64 0, .int .i64 0])).run Try.prog w = .ok true w := fun w => eqX (fun _ => 0) w
  have hbu := Lib.hid build25
  have hnw := Lib.hid newZ
  have hrz := rg_z
  obtain ⟨V0, hV0⟩ : ∃ V0, Z25 = V0 := ⟨_, rfl⟩
  rw [hV0] at HD hz hbu hnw hrz
  clear hV0
  have he : (doE F 5 k A B C != 0) = true := by simp [her]
  generalize doE F 5 k A B C = er at *
  generalize rgv F = R at *
  clear her
  have b0 : Hid (Blk ((((w.alloc (.cells R 25)).alloc (.cells #[.int .i64 k, .int .i64 A, .int .i64 B, .int .i64 C] 28)).alloc (.cells #[.int .i64 rk, .int .i64 rn] 24)).alloc (.cells #[.int .i64 ok, .int .i64 on] 24)) (w.heap.size) R 25) := Lib.hid (by have h := (((Blk.new w R 25).keepn (g_alloc (g_refl (w.alloc (.cells R 25)) none) (.cells #[.int .i64 k, .int .i64 A, .int .i64 B, .int .i64 C] 28))).keepn (g_alloc (g_refl ((w.alloc (.cells R 25)).alloc (.cells #[.int .i64 k, .int .i64 A, .int .i64 B, .int .i64 C] 28)) none) (.cells #[.int .i64 rk, .int .i64 rn] 24))).keepn (g_alloc (g_refl (((w.alloc (.cells R 25)).alloc (.cells #[.int .i64 k, .int .i64 A, .int .i64 B, .int .i64 C] 28)).alloc (.cells #[.int .i64 rk, .int .i64 rn] 24)) none) (.cells #[.int .i64 ok, .int .i64 on] 24)); simpa using h)
  have b1 : Hid (Blk ((((w.alloc (.cells R 25)).alloc (.cells #[.int .i64 k, .int .i64 A, .int .i64 B, .int .i64 C] 28)).alloc (.cells #[.int .i64 rk, .int .i64 rn] 24)).alloc (.cells #[.int .i64 ok, .int .i64 on] 24)) (w.heap.size + 1) #[.int .i64 k, .int .i64 A, .int .i64 B, .int .i64 C] 28) := Lib.hid (by have h := ((Blk.new (w.alloc (.cells R 25)) #[.int .i64 k, .int .i64 A, .int .i64 B, .int .i64 C] 28).keepn (g_alloc (g_refl ((w.alloc (.cells R 25)).alloc (.cells #[.int .i64 k, .int .i64 A, .int .i64 B, .int .i64 C] 28)) none) (.cells #[.int .i64 rk, .int .i64 rn] 24))).keepn (g_alloc (g_refl (((w.alloc (.cells R 25)).alloc (.cells #[.int .i64 k, .int .i64 A, .int .i64 B, .int .i64 C] 28)).alloc (.cells #[.int .i64 rk, .int .i64 rn] 24)) none) (.cells #[.int .i64 ok, .int .i64 on] 24)); simpa using h)
  have b2 : Hid (Blk ((((w.alloc (.cells R 25)).alloc (.cells #[.int .i64 k, .int .i64 A, .int .i64 B, .int .i64 C] 28)).alloc (.cells #[.int .i64 rk, .int .i64 rn] 24)).alloc (.cells #[.int .i64 ok, .int .i64 on] 24)) (w.heap.size + 1 + 1) #[.int .i64 rk, .int .i64 rn] 24) := Lib.hid (by have h := (Blk.new ((w.alloc (.cells R 25)).alloc (.cells #[.int .i64 k, .int .i64 A, .int .i64 B, .int .i64 C] 28)) #[.int .i64 rk, .int .i64 rn] 24).keepn (g_alloc (g_refl (((w.alloc (.cells R 25)).alloc (.cells #[.int .i64 k, .int .i64 A, .int .i64 B, .int .i64 C] 28)).alloc (.cells #[.int .i64 rk, .int .i64 rn] 24)) none) (.cells #[.int .i64 ok, .int .i64 on] 24)); simpa using h)
  have b3 : Hid (Blk ((((w.alloc (.cells R 25)).alloc (.cells #[.int .i64 k, .int .i64 A, .int .i64 B, .int .i64 C] 28)).alloc (.cells #[.int .i64 rk, .int .i64 rn] 24)).alloc (.cells #[.int .i64 ok, .int .i64 on] 24)) (w.heap.size + 1 + 1 + 1) #[.int .i64 ok, .int .i64 on] 24) := Lib.hid (by have h := Blk.new (((w.alloc (.cells R 25)).alloc (.cells #[.int .i64 k, .int .i64 A, .int .i64 B, .int .i64 C] 28)).alloc (.cells #[.int .i64 rk, .int .i64 rn] 24)) #[.int .i64 ok, .int .i64 on] 24; simpa using h)
  have bA := g_alloc (g_alloc (g_alloc (g_alloc (g_refl w none) (.cells R 25)) (.cells #[.int .i64 k, .int .i64 A, .int .i64 B, .int .i64 C] 28)) (.cells #[.int .i64 rk, .int .i64 rn] 24)) (.cells #[.int .i64 ok, .int .i64 on] 24)
  go_enter Try.func4, Try.ntmps4
  go_wp2_with (refine load25 rfl _ rfl (w.heap.size) rfl R hR b0.out ?_)
  refine (HD.out _).mono ?_
  rintro e w1 ⟨rfl, g1⟩
  have z1 := g1.size
  simp at z1
  have x1 := Lib.hid (hnw.out w1)
  have gA1 := Lib.hid (g_trans (g_trans bA g1) (g_newZ w1))
  go_wp2_with (first | (refine store25 rfl _ _ rfl w1.heap.size rfl V0 rfl hrz V0 hrz.1 x1.out ?_; intro w2 hb2 hg2; have HB2 := Lib.hid hb2; have GA2 := Lib.hid (g_in gA1.out hg2 (by omega)); clear hb2) | (refine load25 rfl _ rfl w1.heap.size rfl V0 hrz HB2.out ?_) | (refine wpList_known rfl 25 _ rfl (.agg V0) (hbu.out _) ?_))
  refine (awake_any _).mono ?_
  rintro e w5 ⟨rfl, g5⟩
  go_wp2_with fail
  go_ret
  exact ⟨rfl, below_gn (Below.refl _ _) (g_trans GA2.out g5) (Nat.le_refl _)⟩

set_option maxRecDepth 100000 in
set_option maxHeartbeats 6400000 in
theorem own_ok (F : Nat → Int) (n : Nat) (h1 : 1 ≤ n) (h2 : n ≤ 20) (A B C rk rn ok on a4 : Int) (w : World) (ha1 : 0 ≤ a4) (ha2 : a4 ≤ 255) (her : doE F 5 n A B C = 0) :
    Calls Try.prog 4 #[.agg (rgv F), .agg #[.int .i64 n, .int .i64 A, .int .i64 B, .int .i64 C], .agg #[.int .i64 rk, .int .i64 rn], .agg #[.int .i64 ok, .int .i64 on], .int .u8 a4] w fun e w' => e = .returned (.bool true) ∧ Below w.heap.size w w' := by
  have HD := Lib.hid (fun w => do_any F 5 n A B C rk rn w)
  rw [her] at HD
  have HHAS := Lib.hid (fun w => has_ok n h1 h2 w)
  obtain ⟨K, hK⟩ : ∃ K : Nat, a4 % 8 = K := ⟨(a4 % 8).toNat, by omega⟩
  have hK8 : K < 8 := by omega
  have HOWN := Lib.hid (fun hA hB hC => own_same (F := F) (k := n) (A := A) (B := B) (C := C) (rk := rk) (rn := rn) (a := ok) (b := on) (n := n) (K := K) rfl h1 h2 her hK8 hA hB hC)
  have HEL := Lib.hid (fun j (hj : j < 8) hA => own_else (F := F) (k := n) (A := A) (B := B) (C := C) (rk := rk) (rn := rn) her (j := j) hj hA)
  have HPUT := Lib.hid (fun w => rput_in F K hK8 ok on w)
  have HDO := Lib.hid (fun w => do_any (upd F K ok on) 5 n A B C rk rn w)
  have hR := rg_rgv F
  have HF := Lib.hid (fun j (hj : j < 8) => And.intro (rgv_get F (i := j * 2) (by omega)) (rgv_get F (i := j * 2 + 1) (by omega)))
  obtain ⟨G, hG⟩ : ∃ G, doR F 5 n A B C rk rn = G := ⟨_, rfl⟩
  rw [hG] at HD HOWN HEL
  have HG := Lib.hid (fun j (hj : j < 8) => And.intro (rgv_get G (i := j * 2) (by omega)) (rgv_get G (i := j * 2 + 1) (by omega)))
  have HPG := Lib.hid (fun w => rput_in G K hK8 ok on w)
  have hX := rg_rgv G
  obtain ⟨X, hXX⟩ : ∃ X, rgv G = X := ⟨_, rfl⟩
  rw [hXX] at HD HG HPG hX
  obtain ⟨R, hRR⟩ : ∃ R, rgv F = R := ⟨_, rfl⟩
  rw [hRR] at HD HF HPUT hR ⊢
  generalize doN F 5 n A B C = nx at *
  generalize sA n = s0 at *
  generalize sB n = s1 at *
  generalize sC n = s2 at *
  clear hG hXX hRR her h1 h2
  have b0 : Hid (Blk ((((w.alloc (.cells R 25)).alloc (.cells #[.int .i64 n, .int .i64 A, .int .i64 B, .int .i64 C] 28)).alloc (.cells #[.int .i64 rk, .int .i64 rn] 24)).alloc (.cells #[.int .i64 ok, .int .i64 on] 24)) (w.heap.size) R 25) := Lib.hid (by have h := (((Blk.new w R 25).keepn (g_alloc (g_refl (w.alloc (.cells R 25)) none) (.cells #[.int .i64 n, .int .i64 A, .int .i64 B, .int .i64 C] 28))).keepn (g_alloc (g_refl ((w.alloc (.cells R 25)).alloc (.cells #[.int .i64 n, .int .i64 A, .int .i64 B, .int .i64 C] 28)) none) (.cells #[.int .i64 rk, .int .i64 rn] 24))).keepn (g_alloc (g_refl (((w.alloc (.cells R 25)).alloc (.cells #[.int .i64 n, .int .i64 A, .int .i64 B, .int .i64 C] 28)).alloc (.cells #[.int .i64 rk, .int .i64 rn] 24)) none) (.cells #[.int .i64 ok, .int .i64 on] 24)); simpa using h)
  have b1 : Hid (Blk ((((w.alloc (.cells R 25)).alloc (.cells #[.int .i64 n, .int .i64 A, .int .i64 B, .int .i64 C] 28)).alloc (.cells #[.int .i64 rk, .int .i64 rn] 24)).alloc (.cells #[.int .i64 ok, .int .i64 on] 24)) (w.heap.size + 1) #[.int .i64 n, .int .i64 A, .int .i64 B, .int .i64 C] 28) := Lib.hid (by have h := ((Blk.new (w.alloc (.cells R 25)) #[.int .i64 n, .int .i64 A, .int .i64 B, .int .i64 C] 28).keepn (g_alloc (g_refl ((w.alloc (.cells R 25)).alloc (.cells #[.int .i64 n, .int .i64 A, .int .i64 B, .int .i64 C] 28)) none) (.cells #[.int .i64 rk, .int .i64 rn] 24))).keepn (g_alloc (g_refl (((w.alloc (.cells R 25)).alloc (.cells #[.int .i64 n, .int .i64 A, .int .i64 B, .int .i64 C] 28)).alloc (.cells #[.int .i64 rk, .int .i64 rn] 24)) none) (.cells #[.int .i64 ok, .int .i64 on] 24)); simpa using h)
  have b2 : Hid (Blk ((((w.alloc (.cells R 25)).alloc (.cells #[.int .i64 n, .int .i64 A, .int .i64 B, .int .i64 C] 28)).alloc (.cells #[.int .i64 rk, .int .i64 rn] 24)).alloc (.cells #[.int .i64 ok, .int .i64 on] 24)) (w.heap.size + 1 + 1) #[.int .i64 rk, .int .i64 rn] 24) := Lib.hid (by have h := (Blk.new ((w.alloc (.cells R 25)).alloc (.cells #[.int .i64 n, .int .i64 A, .int .i64 B, .int .i64 C] 28)) #[.int .i64 rk, .int .i64 rn] 24).keepn (g_alloc (g_refl (((w.alloc (.cells R 25)).alloc (.cells #[.int .i64 n, .int .i64 A, .int .i64 B, .int .i64 C] 28)).alloc (.cells #[.int .i64 rk, .int .i64 rn] 24)) none) (.cells #[.int .i64 ok, .int .i64 on] 24)); simpa using h)
  have b3 : Hid (Blk ((((w.alloc (.cells R 25)).alloc (.cells #[.int .i64 n, .int .i64 A, .int .i64 B, .int .i64 C] 28)).alloc (.cells #[.int .i64 rk, .int .i64 rn] 24)).alloc (.cells #[.int .i64 ok, .int .i64 on] 24)) (w.heap.size + 1 + 1 + 1) #[.int .i64 ok, .int .i64 on] 24) := Lib.hid (by have h := Blk.new (((w.alloc (.cells R 25)).alloc (.cells #[.int .i64 n, .int .i64 A, .int .i64 B, .int .i64 C] 28)).alloc (.cells #[.int .i64 rk, .int .i64 rn] 24)) #[.int .i64 ok, .int .i64 on] 24; simpa using h)
  have bA := g_alloc (g_alloc (g_alloc (g_alloc (g_refl w none) (.cells R 25)) (.cells #[.int .i64 n, .int .i64 A, .int .i64 B, .int .i64 C] 28)) (.cells #[.int .i64 rk, .int .i64 rn] 24)) (.cells #[.int .i64 ok, .int .i64 on] 24)
  go_enter Try.func4, Try.ntmps4
  go_wp2_with (refine load25 rfl _ rfl (w.heap.size) rfl R hR b0.out ?_)
  refine (HD.out _).mono ?_
  rintro e w1 ⟨rfl, g1⟩
  have z1 := g1.size
  simp at z1
  have x1 := Lib.hid (newZ w1)
  have gA1 := Lib.hid (g_trans (g_trans bA g1) (g_newZ w1))
  have d0 := Lib.hid ((b0.out.keepn g1).keepn (g_newZ w1))
  have d1 := Lib.hid ((b1.out.keepn g1).keepn (g_newZ w1))
  have d2 := Lib.hid ((b2.out.keepn g1).keepn (g_newZ w1))
  have d3 := Lib.hid ((b3.out.keepn g1).keepn (g_newZ w1))
  clear b0 b1 b2 b3 bA HD g1
  go_wp2_with (first | (refine store25 rfl _ _ rfl w1.heap.size rfl X rfl hX Z25 rfl x1.out ?_; intro w2 hb2 hg2; have X2 := Lib.hid hb2; have GA2 := Lib.hid (g_in gA1.out hg2 (by omega)); have d0 := Lib.hid (d0.out.keeps hg2 (by omega)); have d1 := Lib.hid (d1.out.keeps hg2 (by omega)); have d2 := Lib.hid (d2.out.keeps hg2 (by omega)); have d3 := Lib.hid (d3.out.keeps hg2 (by omega)); clear hb2 hg2))
  clear x1 gA1
  go_loopw [14] (fun k wr => ∃ j : Nat, k = .int .i64 j ∧ j ≤ 8 ∧ w2.grownBy wr none) (fun k _ => (10 - intOf k).toNat)
  case atStart => exact ⟨0, rfl, by omega, g_refl _ _⟩
  case round =>
    obtain ⟨j, rfl, hj, gr⟩ := hrel
    have GR := Lib.hid (g_trans GA2.out gr)
    have X2 := Lib.hid (X2.out.keepn gr)
    have d0 := Lib.hid (d0.out.keepn gr)
    have d1 := Lib.hid (d1.out.keepn gr)
    have d2 := Lib.hid (d2.out.keepn gr)
    have d3 := Lib.hid (d3.out.keepn gr)
    have GRR := Lib.hid gr
    clear gr
    by_cases hlt : j < 8
    · have hji : (j : Int) < 8 := by omega
      have hw : wrap64 ((j : Int) + 1) = (j : Int) + 1 := by unfold wrap64; omega
      obtain ⟨hx0, hx1⟩ := HG.out j hlt
      obtain ⟨hy0, hy1⟩ := HF.out j hlt
      have hel := HEL.out j hlt
      generalize G (j * 2) = x0 at *
      generalize G (j * 2 + 1) = x1 at *
      generalize F (j * 2) = y0 at *
      generalize F (j * 2 + 1) = y1 at *
      have HX := Lib.hid (And.intro hx0 hx1)
      have HY := Lib.hid (And.intro hy0 hy1)
      clear hx0 hx1 hy0 hy1
      have hcase : (x0 = y0 ∧ x1 = y1) ∨ ((j : Int) = A ∧ (x0 = y0 → ¬ x1 = y1)) := by
        by_cases hA : (j : Int) = A
        · by_cases hh : x0 = y0 ∧ x1 = y1
          · exact .inl hh
          · exact .inr ⟨hA, fun u v => hh ⟨u, v⟩⟩
        · exact .inl (hel hA)
      clear hel
      rcases hcase with ⟨rfl, rfl⟩ | ⟨hA, hne⟩
      · go_upto_region 7 with fail
        refine wp_region_held_drew (S := fun W' => wr.grownBy W' none) (by kernel_rfl) (g_drew (g_refl _ _)) (fun hHeld => ?_)
        refine wpAnyH_take (i := 0) (v := .int .i64 j) rfl (by kernel_rfl) (by kernel_rfl) (by kernel_rfl) (fun _ _ _ h => h) (Or.inl ⟨by rfl, fun w hw => by clear hw; go_simp⟩) hHeld ?_
        try simp only [Act.put, List.setIfInBounds_toArray, List.set_cons_zero, List.set_cons_succ, List.getElem_toArray, List.getElem_cons_zero, List.getElem_cons_succ]
        refine wpAnyH_take (i := 1) (v := .pointer (some ⟨w1.heap.size, j * 2, none⟩)) rfl (by kernel_rfl) (by kernel_rfl) (by kernel_rfl) (fun _ _ _ h => h) (Or.inl ⟨by rfl, fun w hw => by clear hw; go_simp⟩) hHeld ?_
        try simp only [Act.put, List.setIfInBounds_toArray, List.set_cons_zero, List.set_cons_succ, List.getElem_toArray, List.getElem_cons_zero, List.getElem_cons_succ]
        refine wpAnyH_take (i := 2) (v := .agg #[.int .i64 x0, .int .i64 x1]) rfl (by kernel_rfl) (by kernel_rfl) (by kernel_rfl) (fun _ _ _ h => h) (Or.inl ⟨by rfl, fun w hw => by have q0 := (X2.out.keepn hw).cell _ (.int .i64 x0) HX.out.1; have q1 := (X2.out.keepn hw).cell _ (.int .i64 x1) HX.out.2; clear hw; go_simp⟩) hHeld ?_
        try simp only [Act.put, List.setIfInBounds_toArray, List.set_cons_zero, List.set_cons_succ, List.getElem_toArray, List.getElem_cons_zero, List.getElem_cons_succ]
        refine wpAnyH_take (i := 3) (v := .int .i64 j) rfl (by kernel_rfl) (by kernel_rfl) (by kernel_rfl) (fun _ _ _ h => h) (Or.inl ⟨by rfl, fun w hw => by clear hw; go_simp⟩) hHeld ?_
        try simp only [Act.put, List.setIfInBounds_toArray, List.set_cons_zero, List.set_cons_succ, List.getElem_toArray, List.getElem_cons_zero, List.getElem_cons_succ]
        refine wpAnyH_take (i := 4) (v := .pointer (some ⟨w.heap.size, j * 2, none⟩)) rfl (by kernel_rfl) (by kernel_rfl) (by kernel_rfl) (fun _ _ _ h => h) (Or.inl ⟨by rfl, fun w hw => by clear hw; go_simp⟩) hHeld ?_
        try simp only [Act.put, List.setIfInBounds_toArray, List.set_cons_zero, List.set_cons_succ, List.getElem_toArray, List.getElem_cons_zero, List.getElem_cons_succ]
        refine wpAnyH_take (i := 5) (v := .agg #[.int .i64 x0, .int .i64 x1]) rfl (by kernel_rfl) (by kernel_rfl) (by kernel_rfl) (fun _ _ _ h => h) (Or.inl ⟨by rfl, fun w hw => by have q0 := (d0.out.keepn hw).cell _ (.int .i64 x0) HY.out.1; have q1 := (d0.out.keepn hw).cell _ (.int .i64 x1) HY.out.2; clear hw; go_simp⟩) hHeld ?_
        try simp only [Act.put, List.setIfInBounds_toArray, List.set_cons_zero, List.set_cons_succ, List.getElem_toArray, List.getElem_cons_zero, List.getElem_cons_succ]
        refine wpAnyH_take (i := 6) (v := .bool false) rfl (by kernel_rfl) (by kernel_rfl) (by kernel_rfl) (fun _ _ _ h => h) (Or.inl ⟨by rfl, fun w hw => by clear hw; go_simp⟩) hHeld ?_
        try simp only [Act.put, List.setIfInBounds_toArray, List.set_cons_zero, List.set_cons_succ, List.getElem_toArray, List.getElem_cons_zero, List.getElem_cons_succ]
        refine wpAnyH_take (i := 7) (v := .bool false) rfl (by kernel_rfl) (by kernel_rfl) (by kernel_rfl) (fun _ _ _ h => h) (Or.inl ⟨by rfl, fun w hw => by clear hw; go_simp⟩) hHeld ?_
        try simp only [Act.put, List.setIfInBounds_toArray, List.set_cons_zero, List.set_cons_succ, List.getElem_toArray, List.getElem_cons_zero, List.getElem_cons_succ]
        refine wpAnyH_take (i := 8) (v := undef) rfl (by kernel_rfl) (by kernel_rfl) (by kernel_rfl) (fun _ _ _ h => h) (Or.inr ⟨by rfl, rfl⟩) hHeld ?_
        try simp only [Act.put, List.setIfInBounds_toArray, List.set_cons_zero, List.set_cons_succ, List.getElem_toArray, List.getElem_cons_zero, List.getElem_cons_succ]
        refine wpAnyH_take (i := 9) (v := undef) rfl (by kernel_rfl) (by kernel_rfl) (by kernel_rfl) (fun _ _ _ h => h) (Or.inr ⟨by rfl, rfl⟩) hHeld ?_
        try simp only [Act.put, List.setIfInBounds_toArray, List.set_cons_zero, List.set_cons_succ, List.getElem_toArray, List.getElem_cons_zero, List.getElem_cons_succ]
        refine wpAnyH_take (i := 10) (v := undef) rfl (by kernel_rfl) (by kernel_rfl) (by kernel_rfl) (fun _ _ _ h => h) (Or.inr ⟨by rfl, rfl⟩) hHeld ?_
        try simp only [Act.put, List.setIfInBounds_toArray, List.set_cons_zero, List.set_cons_succ, List.getElem_toArray, List.getElem_cons_zero, List.getElem_cons_succ]
        refine wpAnyH_take (i := 11) (v := undef) rfl (by kernel_rfl) (by kernel_rfl) (by kernel_rfl) (fun _ _ _ h => h) (Or.inr ⟨by rfl, rfl⟩) hHeld ?_
        try simp only [Act.put, List.setIfInBounds_toArray, List.set_cons_zero, List.set_cons_succ, List.getElem_toArray, List.getElem_cons_zero, List.getElem_cons_succ]
        refine wpAnyH_take (i := 12) (v := .bool false) rfl (by kernel_rfl) (by kernel_rfl) (by kernel_rfl) (fun _ _ _ h => h) (Or.inl ⟨by rfl, fun w hw => by clear hw; go_simp⟩) hHeld ?_
        try simp only [Act.put, List.setIfInBounds_toArray, List.set_cons_zero, List.set_cons_succ, List.getElem_toArray, List.getElem_cons_zero, List.getElem_cons_succ]
        refine wpAnyH_done (by kernel_rfl) ?_ _
        go_wp2_with fail
        go_roundw
        case rel => exact ⟨j + 1, by go_num, by omega, g_trans GRR.out hHeld⟩
        case measure => simp [intOf]; omega
      · subst hA
        have HNE := Lib.hid hne
        clear hne
        go_upto_region 7 with fail
        refine wp_region_held_drew (S := fun W' => wr.grownBy W' none) (by kernel_rfl) (g_drew (g_refl _ _)) (fun hHeld => ?_)
        refine wpAnyH_take (i := 0) (v := .int .i64 j) rfl (by kernel_rfl) (by kernel_rfl) (by kernel_rfl) (fun _ _ _ h => h) (Or.inl ⟨by rfl, fun w hw => by clear hw; go_simp⟩) hHeld ?_
        try simp only [Act.put, List.setIfInBounds_toArray, List.set_cons_zero, List.set_cons_succ, List.getElem_toArray, List.getElem_cons_zero, List.getElem_cons_succ]
        refine wpAnyH_take (i := 1) (v := .pointer (some ⟨w1.heap.size, j * 2, none⟩)) rfl (by kernel_rfl) (by kernel_rfl) (by kernel_rfl) (fun _ _ _ h => h) (Or.inl ⟨by rfl, fun w hw => by clear hw; go_simp⟩) hHeld ?_
        try simp only [Act.put, List.setIfInBounds_toArray, List.set_cons_zero, List.set_cons_succ, List.getElem_toArray, List.getElem_cons_zero, List.getElem_cons_succ]
        refine wpAnyH_take (i := 2) (v := .agg #[.int .i64 x0, .int .i64 x1]) rfl (by kernel_rfl) (by kernel_rfl) (by kernel_rfl) (fun _ _ _ h => h) (Or.inl ⟨by rfl, fun w hw => by have q0 := (X2.out.keepn hw).cell _ (.int .i64 x0) HX.out.1; have q1 := (X2.out.keepn hw).cell _ (.int .i64 x1) HX.out.2; clear hw; go_simp⟩) hHeld ?_
        try simp only [Act.put, List.setIfInBounds_toArray, List.set_cons_zero, List.set_cons_succ, List.getElem_toArray, List.getElem_cons_zero, List.getElem_cons_succ]
        refine wpAnyH_take (i := 3) (v := .int .i64 j) rfl (by kernel_rfl) (by kernel_rfl) (by kernel_rfl) (fun _ _ _ h => h) (Or.inl ⟨by rfl, fun w hw => by clear hw; go_simp⟩) hHeld ?_
        try simp only [Act.put, List.setIfInBounds_toArray, List.set_cons_zero, List.set_cons_succ, List.getElem_toArray, List.getElem_cons_zero, List.getElem_cons_succ]
        refine wpAnyH_take (i := 4) (v := .pointer (some ⟨w.heap.size, j * 2, none⟩)) rfl (by kernel_rfl) (by kernel_rfl) (by kernel_rfl) (fun _ _ _ h => h) (Or.inl ⟨by rfl, fun w hw => by clear hw; go_simp⟩) hHeld ?_
        try simp only [Act.put, List.setIfInBounds_toArray, List.set_cons_zero, List.set_cons_succ, List.getElem_toArray, List.getElem_cons_zero, List.getElem_cons_succ]
        refine wpAnyH_take (i := 5) (v := .agg #[.int .i64 y0, .int .i64 y1]) rfl (by kernel_rfl) (by kernel_rfl) (by kernel_rfl) (fun _ _ _ h => h) (Or.inl ⟨by rfl, fun w hw => by have q0 := (d0.out.keepn hw).cell _ (.int .i64 y0) HY.out.1; have q1 := (d0.out.keepn hw).cell _ (.int .i64 y1) HY.out.2; clear hw; go_simp⟩) hHeld ?_
        try simp only [Act.put, List.setIfInBounds_toArray, List.set_cons_zero, List.set_cons_succ, List.getElem_toArray, List.getElem_cons_zero, List.getElem_cons_succ]
        refine wpAnyH_take (i := 6) (v := .bool true) rfl (by kernel_rfl) (by kernel_rfl) (by kernel_rfl) (fun _ _ _ h => h) (Or.inl ⟨by rfl, fun w hw => by clear hw; go_simp; exact HNE.out⟩) hHeld ?_
        try simp only [Act.put, List.setIfInBounds_toArray, List.set_cons_zero, List.set_cons_succ, List.getElem_toArray, List.getElem_cons_zero, List.getElem_cons_succ]
        refine wpAnyH_take (i := 7) (v := .bool true) rfl (by kernel_rfl) (by kernel_rfl) (by kernel_rfl) (fun _ _ _ h => h) (Or.inl ⟨by rfl, fun w hw => by clear hw; go_simp⟩) hHeld ?_
        try simp only [Act.put, List.setIfInBounds_toArray, List.set_cons_zero, List.set_cons_succ, List.getElem_toArray, List.getElem_cons_zero, List.getElem_cons_succ]
        refine wpAnyH_take (i := 8) (v := .int .i64 j) rfl (by kernel_rfl) (by kernel_rfl) (by kernel_rfl) (fun _ _ _ h => h) (Or.inl ⟨by rfl, fun w hw => by clear hw; go_simp⟩) hHeld ?_
        try simp only [Act.put, List.setIfInBounds_toArray, List.set_cons_zero, List.set_cons_succ, List.getElem_toArray, List.getElem_cons_zero, List.getElem_cons_succ]
        refine wpAnyH_take (i := 9) (v := .pointer (some ⟨w.heap.size + 1, 1, none⟩)) rfl (by kernel_rfl) (by kernel_rfl) (by kernel_rfl) (fun _ _ _ h => h) (Or.inl ⟨by rfl, fun w hw => by clear hw; go_simp⟩) hHeld ?_
        try simp only [Act.put, List.setIfInBounds_toArray, List.set_cons_zero, List.set_cons_succ, List.getElem_toArray, List.getElem_cons_zero, List.getElem_cons_succ]
        refine wpAnyH_take (i := 10) (v := .int .i64 j) rfl (by kernel_rfl) (by kernel_rfl) (by kernel_rfl) (fun _ _ _ h => h) (Or.inl ⟨by rfl, fun w hw => by have q0 := (d1.out.keepn hw).cell 1 (.int .i64 (j : Int)) rfl; clear hw; go_simp⟩) hHeld ?_
        try simp only [Act.put, List.setIfInBounds_toArray, List.set_cons_zero, List.set_cons_succ, List.getElem_toArray, List.getElem_cons_zero, List.getElem_cons_succ]
        refine wpAnyH_take (i := 11) (v := .bool false) rfl (by kernel_rfl) (by kernel_rfl) (by kernel_rfl) (fun _ _ _ h => h) (Or.inl ⟨by rfl, fun w hw => by clear hw; go_simp⟩) hHeld ?_
        try simp only [Act.put, List.setIfInBounds_toArray, List.set_cons_zero, List.set_cons_succ, List.getElem_toArray, List.getElem_cons_zero, List.getElem_cons_succ]
        refine wpAnyH_take (i := 12) (v := .bool false) rfl (by kernel_rfl) (by kernel_rfl) (by kernel_rfl) (fun _ _ _ h => h) (Or.inl ⟨by rfl, fun w hw => by clear hw; go_simp⟩) hHeld ?_
        try simp only [Act.put, List.setIfInBounds_toArray, List.set_cons_zero, List.set_cons_succ, List.getElem_toArray, List.getElem_cons_zero, List.getElem_cons_succ]
        refine wpAnyH_done (by kernel_rfl) ?_ _
        go_wp2_with fail
        go_roundw
        case rel => exact ⟨j + 1, by go_num, by omega, g_trans GRR.out hHeld⟩
        case measure => simp [intOf]; omega
    · obtain rfl : j = 8 := by omega
      clear hlt hj HG HF HEL
      have c0 := d1.out.cell 0 (.int .i64 n) rfl
      go_wp2_with fail
      refine (HHAS.out _).mono ?_
      rintro e w3 ⟨rfl, g3⟩
      have g3a := g_trans g3 (g_alloc (g_refl w3 none) (.cells #[.int .i64 s0, .int .i64 s1, .int .i64 s2] 34))
      have h34 := Lib.hid (Blk.new w3 #[.int .i64 s0, .int .i64 s1, .int .i64 s2] 34)
      have X2 := Lib.hid (X2.out.keepn g3a)
      have d0 := Lib.hid (d0.out.keepn g3a)
      have d1 := Lib.hid (d1.out.keepn g3a)
      have d2 := Lib.hid (d2.out.keepn g3a)
      have d3 := Lib.hid (d3.out.keepn g3a)
      have GR := Lib.hid (g_trans GR.out g3a)
      clear g3 g3a c0
      go_upto_region 11 with fail
      generalize w3.alloc (.cells #[.int .i64 s0, .int .i64 s1, .int .i64 s2] 34) = W3 at *
      have r0 := h34.out.cell 1 (.int .i64 s1) rfl
      have r1 := h34.out.cell 2 (.int .i64 s2) rfl
      have c1 := d1.out.cell 1 (.int .i64 A) rfl
      have c2 := d1.out.cell 2 (.int .i64 B) rfl
      have c3 := d1.out.cell 3 (.int .i64 C) rfl
      obtain ⟨qA, hqA⟩ : ∃ q, ((K : Int) == A) = q := ⟨_, rfl⟩
      obtain ⟨qB, hqB⟩ : ∃ q, ((K : Int) == B) = q := ⟨_, rfl⟩
      obtain ⟨qC, hqC⟩ : ∃ q, ((K : Int) == C) = q := ⟨_, rfl⟩
      obtain ⟨q1, hq1⟩ : ∃ q, (s1 == 1) = q := ⟨_, rfl⟩
      obtain ⟨q2, hq2⟩ : ∃ q, (s2 == 1) = q := ⟨_, rfl⟩
      go_cut [92] (fun s92 wx => s92 = .bool (qA || (q1 && qB) || (q2 && qC)) ∧ wx = W3)
      case first =>
        cases qA <;> cases q1 <;> cases qB <;> cases q2 <;> cases qC
        all_goals
          go_wp2_with fail
          go_meet
          exact ⟨rfl, rfl⟩
      case rest =>
        obtain ⟨rfl, rfl⟩ := hcut
        rename World => W3
        clear c1 c2 c3 r0 r1 h34
        cases hee : (qA || (q1 && qB) || (q2 && qC))
        · have hown := HOWN.out (by intro h; rw [h, beq_self_eq_true] at hqA; subst hqA; simp at hee) (by intro h h'; rw [h, beq_self_eq_true] at hq1; rw [h', beq_self_eq_true] at hqB; subst hq1 hqB; simp at hee) (by intro h h'; rw [h, beq_self_eq_true] at hq2; rw [h', beq_self_eq_true] at hqC; subst hq2 hqC; simp at hee)
          clear hqA hqB hqC hq1 hq2 hee
          obtain ⟨o1, o2, o3⟩ := hown
          have HDO := HDO.out
          rw [o1, o2, o3] at HDO
          have HDO := Lib.hid HDO
          have hU := rg_rgv (upd F K ok on)
          have hV := rg_rgv (upd G K ok on)
          have hq := Lib.hid (fun w => eqX (upd G K ok on) w)
          have HPG := HPG.out
          generalize rgv (upd G K ok on) = V at *
          have HPG := Lib.hid HPG
          have HPUT := HPUT.out
          generalize rgv (upd F K ok on) = U at *
          have HPUT := Lib.hid HPUT
          clear o1 o2 o3 HOWN
          have e1 : (nx == nx) = true := by simp
          go_upto_region 13 with fail
          go_cut [18, 19, 20] (fun s18 s19 s20 wx => ∃ b18 : Nat, s18 = .pointer (some ⟨b18, 0, none⟩) ∧ s19 = .int .i64 nx ∧ s20 = .int .i64 0 ∧ W3.grownBy wx none ∧ Blk wx b18 V 25)
          case first =>
            refine wp_region_held_drew (S := fun W' => W3.grownBy W' none) (by kernel_rfl) (g_drew (g_refl _ _)) (fun hHeld => ?_)
            refine wpAnyH_take (i := 0) (v := .agg R.toList.toArray) rfl (by kernel_rfl) (by kernel_rfl) (by kernel_rfl) (fun _ _ _ h => h) (yieldsIf_load_mid (by rfl) 25 _ rfl (w.heap.size) 0 rfl (R).toList _ (fun w hw => (d0.out.keepn hw).range) Try.underlying25 rfl (by rw [info25]; simp [(hR).1])) hHeld ?_
            try simp only [Act.put, List.setIfInBounds_toArray, List.set_cons_zero, List.set_cons_succ, List.getElem_toArray, List.getElem_cons_zero, List.getElem_cons_succ]
            refine wpAnyH_take (i := 1) (v := .int .i64 K) rfl (by kernel_rfl) (by kernel_rfl) (by kernel_rfl) (fun _ _ _ h => h) (Or.inl ⟨by rfl, fun w hw => by clear hw; go_simp⟩) hHeld ?_
            try simp only [Act.put, List.setIfInBounds_toArray, List.set_cons_zero, List.set_cons_succ, List.getElem_toArray, List.getElem_cons_zero, List.getElem_cons_succ]
            refine wpAnyH_take (i := 2) (v := .agg #[.int .i64 ok, .int .i64 on]) rfl (by kernel_rfl) (by kernel_rfl) (by kernel_rfl) (fun _ _ _ h => h) (Or.inl ⟨by rfl, fun w hw => by have q0 := (d3.out.keepn hw).cell 0 (.int .i64 ok) rfl; have q1 := (d3.out.keepn hw).cell 1 (.int .i64 on) rfl; clear hw; go_simp⟩) hHeld ?_
            try simp only [Act.put, List.setIfInBounds_toArray, List.set_cons_zero, List.set_cons_succ, List.getElem_toArray, List.getElem_cons_zero, List.getElem_cons_succ]
            refine wpAnyH_take (i := 4) (v := .agg #[.int .i64 n, .int .i64 A, .int .i64 B, .int .i64 C]) rfl (by kernel_rfl) (by kernel_rfl) (by kernel_rfl) (fun _ _ _ h => h) (Or.inl ⟨by rfl, fun w hw => by have q0 := (d1.out.keepn hw).cell 0 (.int .i64 n) rfl; have q1 := (d1.out.keepn hw).cell 1 (.int .i64 A) rfl; have q2 := (d1.out.keepn hw).cell 2 (.int .i64 B) rfl; have q3 := (d1.out.keepn hw).cell 3 (.int .i64 C) rfl; clear hw; go_simp⟩) hHeld ?_
            try simp only [Act.put, List.setIfInBounds_toArray, List.set_cons_zero, List.set_cons_succ, List.getElem_toArray, List.getElem_cons_zero, List.getElem_cons_succ]
            refine wpAnyH_take (i := 5) (v := .agg #[.int .i64 rk, .int .i64 rn]) rfl (by kernel_rfl) (by kernel_rfl) (by kernel_rfl) (fun _ _ _ h => h) (Or.inl ⟨by rfl, fun w hw => by have q0 := (d2.out.keepn hw).cell 0 (.int .i64 rk) rfl; have q1 := (d2.out.keepn hw).cell 1 (.int .i64 rn) rfl; clear hw; go_simp⟩) hHeld ?_
            try simp only [Act.put, List.setIfInBounds_toArray, List.set_cons_zero, List.set_cons_succ, List.getElem_toArray, List.getElem_cons_zero, List.getElem_cons_succ]
            refine wpAnyH_ready (rs := [3, 11]) (by kernel_rfl) (by simp) (AllReadyH.cons rfl (fun K hK => ?_) (AllReadyH.cons rfl (fun K hK => ?_) (AllReadyH.nil)))
            · go_simp
              refine Calls.mono (by rw [Array.toArray_toList]; exact HPUT.out _) ?_
              rintro e wc1 ⟨rfl, gc1⟩
              try go_wp2_with fail
              refine hK.out _ _ (g_trans hHeld gc1) (fun hHeld => ?_)
              clear hK K gc1
              try simp only [Act.put, List.setIfInBounds_toArray, List.set_cons_zero, List.set_cons_succ, List.getElem_toArray, List.getElem_cons_zero, List.getElem_cons_succ]
              refine wpAnyH_ready (rs := [6, 11]) (by kernel_rfl) (by simp) (AllReadyH.cons rfl (fun K hK => ?_) (AllReadyH.cons rfl (fun K hK => ?_) (AllReadyH.nil)))
              · go_simp
                refine Calls.mono (HDO.out _) ?_
                rintro e wc2 ⟨rfl, gc2⟩
                try go_wp2_with fail
                refine hK.out _ _ (g_trans hHeld gc2) (fun hHeld => ?_)
                clear hK K gc2
                try simp only [Act.put, List.setIfInBounds_toArray, List.set_cons_zero, List.set_cons_succ, List.getElem_toArray, List.getElem_cons_zero, List.getElem_cons_succ]
                refine wpAnyH_take (i := 7) (v := .tuple #[.agg V, .int .i64 nx, .int .i64 0]) rfl (by kernel_rfl) (by kernel_rfl) (by kernel_rfl) (fun _ _ _ h => h) (Or.inl ⟨by rfl, fun w hw => by clear hw; go_simp⟩) hHeld ?_
                try simp only [Act.put, List.setIfInBounds_toArray, List.set_cons_zero, List.set_cons_succ, List.getElem_toArray, List.getElem_cons_zero, List.getElem_cons_succ]
                refine wpAnyH_take (i := 8) (v := .agg V) rfl (by kernel_rfl) (by kernel_rfl) (by kernel_rfl) (fun _ _ _ h => h) (Or.inl ⟨by rfl, fun w hw => by clear hw; go_simp⟩) hHeld ?_
                try simp only [Act.put, List.setIfInBounds_toArray, List.set_cons_zero, List.set_cons_succ, List.getElem_toArray, List.getElem_cons_zero, List.getElem_cons_succ]
                refine wpAnyH_take (i := 9) (v := .int .i64 nx) rfl (by kernel_rfl) (by kernel_rfl) (by kernel_rfl) (fun _ _ _ h => h) (Or.inl ⟨by rfl, fun w hw => by clear hw; go_simp⟩) hHeld ?_
                try simp only [Act.put, List.setIfInBounds_toArray, List.set_cons_zero, List.set_cons_succ, List.getElem_toArray, List.getElem_cons_zero, List.getElem_cons_succ]
                refine wpAnyH_take (i := 10) (v := .int .i64 0) rfl (by kernel_rfl) (by kernel_rfl) (by kernel_rfl) (fun _ _ _ h => h) (Or.inl ⟨by rfl, fun w hw => by clear hw; go_simp⟩) hHeld ?_
                try simp only [Act.put, List.setIfInBounds_toArray, List.set_cons_zero, List.set_cons_succ, List.getElem_toArray, List.getElem_cons_zero, List.getElem_cons_succ]
                refine wpAnyH_ready (rs := [11]) (by kernel_rfl) (by simp) (AllReadyH.cons rfl (fun K hK => ?_) AllReadyH.nil)
                · go_simp
                  have HZ := Lib.hid hHeld.size
                  have BZ := Lib.hid (newZ wc2)
                  have gm := g_trans hHeld (g_newZ wc2)
                  refine hK.out _ _ gm (fun hHeld => ?_)
                  clear hK K gm
                  try simp only [Act.put, List.setIfInBounds_toArray, List.set_cons_zero, List.set_cons_succ, List.getElem_toArray, List.getElem_cons_zero, List.getElem_cons_succ]
                  refine wpAnyH_ready (rs := [12]) (by kernel_rfl) (by simp) (AllReadyH.cons rfl (fun K hK => ?_) AllReadyH.nil)
                  rw [if_pos (by rfl)]
                  refine wp_store_mid 25 _ _ rfl _ 0 V rfl rfl (by (have h := BZ.out.there); (have e : (V).size = Z25.size := by (rw [hV.1]; rfl)); rw [e]; exact h) (by rw [info25, hV.1]) hV.2 ?_
                  have gS := g_in hHeld (g_setAll _ V.toList 0 _ _ (g_refl (wc2.alloc (.cells #[.int .i64 0, .int .i64 0, .int .i64 0, .int .i64 0, .int .i64 0, .int .i64 0, .int .i64 0, .int .i64 0, .int .i64 0, .int .i64 0, .int .i64 0, .int .i64 0, .int .i64 0, .int .i64 0, .int .i64 0, .int .i64 0] 25)) _)) HZ.out
                  have BX := Lib.hid (BZ.out.setAll V (by rw [hV.1]; rfl))
                  refine hK.out _ _ gS (fun hHeld => ?_)
                  clear hK K
                  try simp only [Act.put, List.setIfInBounds_toArray, List.set_cons_zero, List.set_cons_succ, List.getElem_toArray, List.getElem_cons_zero, List.getElem_cons_succ]
                  refine wpAnyH_take (i := 13) (v := .int .i64 nx) rfl (by kernel_rfl) (by kernel_rfl) (by kernel_rfl) (fun _ _ _ h => h) (Or.inl ⟨by rfl, fun w hw => by clear hw; go_simp⟩) hHeld ?_
                  try simp only [Act.put, List.setIfInBounds_toArray, List.set_cons_zero, List.set_cons_succ, List.getElem_toArray, List.getElem_cons_zero, List.getElem_cons_succ]
                  refine wpAnyH_take (i := 14) (v := .int .i64 0) rfl (by kernel_rfl) (by kernel_rfl) (by kernel_rfl) (fun _ _ _ h => h) (Or.inl ⟨by rfl, fun w hw => by clear hw; go_simp⟩) hHeld ?_
                  try simp only [Act.put, List.setIfInBounds_toArray, List.set_cons_zero, List.set_cons_succ, List.getElem_toArray, List.getElem_cons_zero, List.getElem_cons_succ]
                  refine wpAnyH_done (by kernel_rfl) ?_ _
                  go_wp2_with fail
                  go_meet
                  exact ⟨_, rfl, rfl, rfl, hHeld, BX.out⟩
              · go_simp
                have HZ := Lib.hid hHeld.size
                have BZ := Lib.hid (newZ wc1)
                have gm := g_trans hHeld (g_newZ wc1)
                refine hK.out _ _ gm (fun hHeld => ?_)
                clear hK K gm
                try simp only [Act.put, List.setIfInBounds_toArray, List.set_cons_zero, List.set_cons_succ, List.getElem_toArray, List.getElem_cons_zero, List.getElem_cons_succ]
                refine wpAnyH_ready (rs := [6]) (by kernel_rfl) (by simp) (AllReadyH.cons rfl (fun K hK => ?_) (AllReadyH.nil))
                · go_simp
                  refine Calls.mono (HDO.out _) ?_
                  rintro e wc3 ⟨rfl, gc3⟩
                  try go_wp2_with fail
                  have BZ := Lib.hid (BZ.out.keepn gc3)
                  refine hK.out _ _ (g_trans hHeld gc3) (fun hHeld => ?_)
                  clear hK K gc3
                  try simp only [Act.put, List.setIfInBounds_toArray, List.set_cons_zero, List.set_cons_succ, List.getElem_toArray, List.getElem_cons_zero, List.getElem_cons_succ]
                  refine wpAnyH_take (i := 7) (v := .tuple #[.agg V, .int .i64 nx, .int .i64 0]) rfl (by kernel_rfl) (by kernel_rfl) (by kernel_rfl) (fun _ _ _ h => h) (Or.inl ⟨by rfl, fun w hw => by clear hw; go_simp⟩) hHeld ?_
                  try simp only [Act.put, List.setIfInBounds_toArray, List.set_cons_zero, List.set_cons_succ, List.getElem_toArray, List.getElem_cons_zero, List.getElem_cons_succ]
                  refine wpAnyH_take (i := 8) (v := .agg V) rfl (by kernel_rfl) (by kernel_rfl) (by kernel_rfl) (fun _ _ _ h => h) (Or.inl ⟨by rfl, fun w hw => by clear hw; go_simp⟩) hHeld ?_
                  try simp only [Act.put, List.setIfInBounds_toArray, List.set_cons_zero, List.set_cons_succ, List.getElem_toArray, List.getElem_cons_zero, List.getElem_cons_succ]
                  refine wpAnyH_take (i := 9) (v := .int .i64 nx) rfl (by kernel_rfl) (by kernel_rfl) (by kernel_rfl) (fun _ _ _ h => h) (Or.inl ⟨by rfl, fun w hw => by clear hw; go_simp⟩) hHeld ?_
                  try simp only [Act.put, List.setIfInBounds_toArray, List.set_cons_zero, List.set_cons_succ, List.getElem_toArray, List.getElem_cons_zero, List.getElem_cons_succ]
                  refine wpAnyH_take (i := 10) (v := .int .i64 0) rfl (by kernel_rfl) (by kernel_rfl) (by kernel_rfl) (fun _ _ _ h => h) (Or.inl ⟨by rfl, fun w hw => by clear hw; go_simp⟩) hHeld ?_
                  try simp only [Act.put, List.setIfInBounds_toArray, List.set_cons_zero, List.set_cons_succ, List.getElem_toArray, List.getElem_cons_zero, List.getElem_cons_succ]
                  refine wpAnyH_ready (rs := [12]) (by kernel_rfl) (by simp) (AllReadyH.cons rfl (fun K hK => ?_) AllReadyH.nil)
                  rw [if_pos (by rfl)]
                  refine wp_store_mid 25 _ _ rfl _ 0 V rfl rfl (by (have h := BZ.out.there); (have e : (V).size = Z25.size := by (rw [hV.1]; rfl)); rw [e]; exact h) (by rw [info25, hV.1]) hV.2 ?_
                  have gS := g_in hHeld (g_setAll _ V.toList 0 _ _ (g_refl wc3 _)) HZ.out
                  have BX := Lib.hid (BZ.out.setAll V (by rw [hV.1]; rfl))
                  refine hK.out _ _ gS (fun hHeld => ?_)
                  clear hK K
                  try simp only [Act.put, List.setIfInBounds_toArray, List.set_cons_zero, List.set_cons_succ, List.getElem_toArray, List.getElem_cons_zero, List.getElem_cons_succ]
                  refine wpAnyH_take (i := 13) (v := .int .i64 nx) rfl (by kernel_rfl) (by kernel_rfl) (by kernel_rfl) (fun _ _ _ h => h) (Or.inl ⟨by rfl, fun w hw => by clear hw; go_simp⟩) hHeld ?_
                  try simp only [Act.put, List.setIfInBounds_toArray, List.set_cons_zero, List.set_cons_succ, List.getElem_toArray, List.getElem_cons_zero, List.getElem_cons_succ]
                  refine wpAnyH_take (i := 14) (v := .int .i64 0) rfl (by kernel_rfl) (by kernel_rfl) (by kernel_rfl) (fun _ _ _ h => h) (Or.inl ⟨by rfl, fun w hw => by clear hw; go_simp⟩) hHeld ?_
                  try simp only [Act.put, List.setIfInBounds_toArray, List.set_cons_zero, List.set_cons_succ, List.getElem_toArray, List.getElem_cons_zero, List.getElem_cons_succ]
                  refine wpAnyH_done (by kernel_rfl) ?_ _
                  go_wp2_with fail
                  go_meet
                  exact ⟨_, rfl, rfl, rfl, hHeld, BX.out⟩
            · go_simp
              have HZ := Lib.hid hHeld.size
              have BZ := Lib.hid (newZ W3.drew)
              have gm := g_trans hHeld (g_newZ W3.drew)
              refine hK.out _ _ gm (fun hHeld => ?_)
              clear hK K gm
              try simp only [Act.put, List.setIfInBounds_toArray, List.set_cons_zero, List.set_cons_succ, List.getElem_toArray, List.getElem_cons_zero, List.getElem_cons_succ]
              refine wpAnyH_ready (rs := [3]) (by kernel_rfl) (by simp) (AllReadyH.cons rfl (fun K hK => ?_) (AllReadyH.nil))
              · go_simp
                refine Calls.mono (by rw [Array.toArray_toList]; exact HPUT.out _) ?_
                rintro e wc4 ⟨rfl, gc4⟩
                try go_wp2_with fail
                have BZ := Lib.hid (BZ.out.keepn gc4)
                refine hK.out _ _ (g_trans hHeld gc4) (fun hHeld => ?_)
                clear hK K gc4
                try simp only [Act.put, List.setIfInBounds_toArray, List.set_cons_zero, List.set_cons_succ, List.getElem_toArray, List.getElem_cons_zero, List.getElem_cons_succ]
                refine wpAnyH_ready (rs := [6]) (by kernel_rfl) (by simp) (AllReadyH.cons rfl (fun K hK => ?_) (AllReadyH.nil))
                · go_simp
                  refine Calls.mono (HDO.out _) ?_
                  rintro e wc5 ⟨rfl, gc5⟩
                  try go_wp2_with fail
                  have BZ := Lib.hid (BZ.out.keepn gc5)
                  refine hK.out _ _ (g_trans hHeld gc5) (fun hHeld => ?_)
                  clear hK K gc5
                  try simp only [Act.put, List.setIfInBounds_toArray, List.set_cons_zero, List.set_cons_succ, List.getElem_toArray, List.getElem_cons_zero, List.getElem_cons_succ]
                  refine wpAnyH_take (i := 7) (v := .tuple #[.agg V, .int .i64 nx, .int .i64 0]) rfl (by kernel_rfl) (by kernel_rfl) (by kernel_rfl) (fun _ _ _ h => h) (Or.inl ⟨by rfl, fun w hw => by clear hw; go_simp⟩) hHeld ?_
                  try simp only [Act.put, List.setIfInBounds_toArray, List.set_cons_zero, List.set_cons_succ, List.getElem_toArray, List.getElem_cons_zero, List.getElem_cons_succ]
                  refine wpAnyH_take (i := 8) (v := .agg V) rfl (by kernel_rfl) (by kernel_rfl) (by kernel_rfl) (fun _ _ _ h => h) (Or.inl ⟨by rfl, fun w hw => by clear hw; go_simp⟩) hHeld ?_
                  try simp only [Act.put, List.setIfInBounds_toArray, List.set_cons_zero, List.set_cons_succ, List.getElem_toArray, List.getElem_cons_zero, List.getElem_cons_succ]
                  refine wpAnyH_take (i := 9) (v := .int .i64 nx) rfl (by kernel_rfl) (by kernel_rfl) (by kernel_rfl) (fun _ _ _ h => h) (Or.inl ⟨by rfl, fun w hw => by clear hw; go_simp⟩) hHeld ?_
                  try simp only [Act.put, List.setIfInBounds_toArray, List.set_cons_zero, List.set_cons_succ, List.getElem_toArray, List.getElem_cons_zero, List.getElem_cons_succ]
                  refine wpAnyH_take (i := 10) (v := .int .i64 0) rfl (by kernel_rfl) (by kernel_rfl) (by kernel_rfl) (fun _ _ _ h => h) (Or.inl ⟨by rfl, fun w hw => by clear hw; go_simp⟩) hHeld ?_
                  try simp only [Act.put, List.setIfInBounds_toArray, List.set_cons_zero, List.set_cons_succ, List.getElem_toArray, List.getElem_cons_zero, List.getElem_cons_succ]
                  refine wpAnyH_ready (rs := [12]) (by kernel_rfl) (by simp) (AllReadyH.cons rfl (fun K hK => ?_) AllReadyH.nil)
                  rw [if_pos (by rfl)]
                  refine wp_store_mid 25 _ _ rfl _ 0 V rfl rfl (by (have h := BZ.out.there); (have e : (V).size = Z25.size := by (rw [hV.1]; rfl)); rw [e]; exact h) (by rw [info25, hV.1]) hV.2 ?_
                  have gS := g_in hHeld (g_setAll _ V.toList 0 _ _ (g_refl wc5 _)) HZ.out
                  have BX := Lib.hid (BZ.out.setAll V (by rw [hV.1]; rfl))
                  refine hK.out _ _ gS (fun hHeld => ?_)
                  clear hK K
                  try simp only [Act.put, List.setIfInBounds_toArray, List.set_cons_zero, List.set_cons_succ, List.getElem_toArray, List.getElem_cons_zero, List.getElem_cons_succ]
                  refine wpAnyH_take (i := 13) (v := .int .i64 nx) rfl (by kernel_rfl) (by kernel_rfl) (by kernel_rfl) (fun _ _ _ h => h) (Or.inl ⟨by rfl, fun w hw => by clear hw; go_simp⟩) hHeld ?_
                  try simp only [Act.put, List.setIfInBounds_toArray, List.set_cons_zero, List.set_cons_succ, List.getElem_toArray, List.getElem_cons_zero, List.getElem_cons_succ]
                  refine wpAnyH_take (i := 14) (v := .int .i64 0) rfl (by kernel_rfl) (by kernel_rfl) (by kernel_rfl) (fun _ _ _ h => h) (Or.inl ⟨by rfl, fun w hw => by clear hw; go_simp⟩) hHeld ?_
                  try simp only [Act.put, List.setIfInBounds_toArray, List.set_cons_zero, List.set_cons_succ, List.getElem_toArray, List.getElem_cons_zero, List.getElem_cons_succ]
                  refine wpAnyH_done (by kernel_rfl) ?_ _
                  go_wp2_with fail
                  go_meet
                  exact ⟨_, rfl, rfl, rfl, hHeld, BX.out⟩
          case rest =>
            obtain ⟨b18, rfl, rfl, rfl, gA, hb18⟩ := hcut
            rename World => wA
            have GR := Lib.hid (g_trans GR.out gA)
            have X2 := Lib.hid (X2.out.keepn gA)
            have d3 := Lib.hid (d3.out.keepn gA)
            have B18 := Lib.hid hb18
            clear gA hb18
            go_upto_region 14 with fail
            refine wp_region_held_drew (S := fun W' => wA.grownBy W' none) (by kernel_rfl) (g_drew (g_refl _ _)) (fun hHeld => ?_)
            refine wpAnyH_take (i := 0) (v := .agg V.toList.toArray) rfl (by kernel_rfl) (by kernel_rfl) (by kernel_rfl) (fun _ _ _ h => h) (yieldsIf_load_mid (by rfl) 25 _ rfl (b18) 0 rfl (V).toList _ (fun w hw => (B18.out.keepn hw).range) Try.underlying25 rfl (by rw [info25]; simp [(hV).1])) hHeld ?_
            try simp only [Act.put, List.setIfInBounds_toArray, List.set_cons_zero, List.set_cons_succ, List.getElem_toArray, List.getElem_cons_zero, List.getElem_cons_succ]
            refine wpAnyH_take (i := 1) (v := .agg X.toList.toArray) rfl (by kernel_rfl) (by kernel_rfl) (by kernel_rfl) (fun _ _ _ h => h) (yieldsIf_load_mid (by rfl) 25 _ rfl (w1.heap.size) 0 rfl (X).toList _ (fun w hw => (X2.out.keepn hw).range) Try.underlying25 rfl (by rw [info25]; simp [(hX).1])) hHeld ?_
            try simp only [Act.put, List.setIfInBounds_toArray, List.set_cons_zero, List.set_cons_succ, List.getElem_toArray, List.getElem_cons_zero, List.getElem_cons_succ]
            refine wpAnyH_take (i := 2) (v := .int .i64 K) rfl (by kernel_rfl) (by kernel_rfl) (by kernel_rfl) (fun _ _ _ h => h) (Or.inl ⟨by rfl, fun w hw => by clear hw; go_simp⟩) hHeld ?_
            try simp only [Act.put, List.setIfInBounds_toArray, List.set_cons_zero, List.set_cons_succ, List.getElem_toArray, List.getElem_cons_zero, List.getElem_cons_succ]
            refine wpAnyH_take (i := 3) (v := .agg #[.int .i64 ok, .int .i64 on]) rfl (by kernel_rfl) (by kernel_rfl) (by kernel_rfl) (fun _ _ _ h => h) (Or.inl ⟨by rfl, fun w hw => by have q0 := (d3.out.keepn hw).cell 0 (.int .i64 ok) rfl; have q1 := (d3.out.keepn hw).cell 1 (.int .i64 on) rfl; clear hw; go_simp⟩) hHeld ?_
            try simp only [Act.put, List.setIfInBounds_toArray, List.set_cons_zero, List.set_cons_succ, List.getElem_toArray, List.getElem_cons_zero, List.getElem_cons_succ]
            refine wpAnyH_ready (rs := [4]) (by kernel_rfl) (by simp) (AllReadyH.cons rfl (fun K hK => ?_) (AllReadyH.nil))
            · go_simp
              refine Calls.mono (by rw [Array.toArray_toList]; exact HPG.out _) ?_
              rintro e wc1 ⟨rfl, gc1⟩
              try go_wp2_with fail
              refine hK.out _ _ (g_trans hHeld gc1) (fun hHeld => ?_)
              clear hK K gc1
              try simp only [Act.put, List.setIfInBounds_toArray, List.set_cons_zero, List.set_cons_succ, List.getElem_toArray, List.getElem_cons_zero, List.getElem_cons_succ]
              refine wpAnyH_take (i := 5) (v := .bool true) rfl (by kernel_rfl) (by kernel_rfl) (by kernel_rfl) (fun _ _ _ h => h) (Or.inl ⟨by rfl, fun w hw => by have hh := hq.out w; clear hw; rw [Array.toArray_toList]; go_simp⟩) hHeld ?_
              try simp only [Act.put, List.setIfInBounds_toArray, List.set_cons_zero, List.set_cons_succ, List.getElem_toArray, List.getElem_cons_zero, List.getElem_cons_succ]
              refine wpAnyH_take (i := 6) (v := .bool true) rfl (by kernel_rfl) (by kernel_rfl) (by kernel_rfl) (fun _ _ _ h => h) (Or.inl ⟨by rfl, fun w hw => by clear hw; go_simp⟩) hHeld ?_
              try simp only [Act.put, List.setIfInBounds_toArray, List.set_cons_zero, List.set_cons_succ, List.getElem_toArray, List.getElem_cons_zero, List.getElem_cons_succ]
              refine wpAnyH_take (i := 7) (v := .int .i64 nx) rfl (by kernel_rfl) (by kernel_rfl) (by kernel_rfl) (fun _ _ _ h => h) (Or.inl ⟨by rfl, fun w hw => by clear hw; go_simp⟩) hHeld ?_
              try simp only [Act.put, List.setIfInBounds_toArray, List.set_cons_zero, List.set_cons_succ, List.getElem_toArray, List.getElem_cons_zero, List.getElem_cons_succ]
              refine wpAnyH_take (i := 8) (v := .int .i64 nx) rfl (by kernel_rfl) (by kernel_rfl) (by kernel_rfl) (fun _ _ _ h => h) (Or.inl ⟨by rfl, fun w hw => by clear hw; go_simp⟩) hHeld ?_
              try simp only [Act.put, List.setIfInBounds_toArray, List.set_cons_zero, List.set_cons_succ, List.getElem_toArray, List.getElem_cons_zero, List.getElem_cons_succ]
              refine wpAnyH_take (i := 9) (v := .bool true) rfl (by kernel_rfl) (by kernel_rfl) (by kernel_rfl) (fun _ _ _ h => h) (Or.inl ⟨by rfl, fun w hw => by clear hw; go_simp⟩) hHeld ?_
              try simp only [Act.put, List.setIfInBounds_toArray, List.set_cons_zero, List.set_cons_succ, List.getElem_toArray, List.getElem_cons_zero, List.getElem_cons_succ]
              refine wpAnyH_take (i := 10) (v := .bool true) rfl (by kernel_rfl) (by kernel_rfl) (by kernel_rfl) (fun _ _ _ h => h) (Or.inl ⟨by rfl, fun w hw => by clear hw; go_simp⟩) hHeld ?_
              try simp only [Act.put, List.setIfInBounds_toArray, List.set_cons_zero, List.set_cons_succ, List.getElem_toArray, List.getElem_cons_zero, List.getElem_cons_succ]
              refine wpAnyH_take (i := 11) (v := .bool true) rfl (by kernel_rfl) (by kernel_rfl) (by kernel_rfl) (fun _ _ _ h => h) (Or.inl ⟨by rfl, fun w hw => by clear hw; go_simp⟩) hHeld ?_
              try simp only [Act.put, List.setIfInBounds_toArray, List.set_cons_zero, List.set_cons_succ, List.getElem_toArray, List.getElem_cons_zero, List.getElem_cons_succ]
              refine wpAnyH_take (i := 12) (v := .int .i64 0) rfl (by kernel_rfl) (by kernel_rfl) (by kernel_rfl) (fun _ _ _ h => h) (Or.inl ⟨by rfl, fun w hw => by clear hw; go_simp⟩) hHeld ?_
              try simp only [Act.put, List.setIfInBounds_toArray, List.set_cons_zero, List.set_cons_succ, List.getElem_toArray, List.getElem_cons_zero, List.getElem_cons_succ]
              refine wpAnyH_take (i := 13) (v := .bool true) rfl (by kernel_rfl) (by kernel_rfl) (by kernel_rfl) (fun _ _ _ h => h) (Or.inl ⟨by rfl, fun w hw => by clear hw; go_simp⟩) hHeld ?_
              try simp only [Act.put, List.setIfInBounds_toArray, List.set_cons_zero, List.set_cons_succ, List.getElem_toArray, List.getElem_cons_zero, List.getElem_cons_succ]
              refine wpAnyH_take (i := 14) (v := .bool true) rfl (by kernel_rfl) (by kernel_rfl) (by kernel_rfl) (fun _ _ _ h => h) (Or.inl ⟨by rfl, fun w hw => by clear hw; go_simp⟩) hHeld ?_
              try simp only [Act.put, List.setIfInBounds_toArray, List.set_cons_zero, List.set_cons_succ, List.getElem_toArray, List.getElem_cons_zero, List.getElem_cons_succ]
              refine wpAnyH_take (i := 15) (v := .bool true) rfl (by kernel_rfl) (by kernel_rfl) (by kernel_rfl) (fun _ _ _ h => h) (Or.inl ⟨by rfl, fun w hw => by clear hw; go_simp⟩) hHeld ?_
              try simp only [Act.put, List.setIfInBounds_toArray, List.set_cons_zero, List.set_cons_succ, List.getElem_toArray, List.getElem_cons_zero, List.getElem_cons_succ]
              refine wpAnyH_ready (rs := [16]) (by kernel_rfl) (by simp) (AllReadyH.cons rfl (fun K hK => ?_) (AllReadyH.nil))
              · go_simp
                refine Calls.mono (awake_any _) ?_
                rintro e wc2 ⟨rfl, gc2⟩
                try go_wp2_with fail
                refine hK.out _ _ (g_trans hHeld gc2) (fun hHeld => ?_)
                clear hK K gc2
                try simp only [Act.put, List.setIfInBounds_toArray, List.set_cons_zero, List.set_cons_succ, List.getElem_toArray, List.getElem_cons_zero, List.getElem_cons_succ]
                refine wpAnyH_take (i := 17) (v := .bool true) rfl (by kernel_rfl) (by kernel_rfl) (by kernel_rfl) (fun _ _ _ h => h) (Or.inl ⟨by rfl, fun w hw => by clear hw; go_simp⟩) hHeld ?_
                try simp only [Act.put, List.setIfInBounds_toArray, List.set_cons_zero, List.set_cons_succ, List.getElem_toArray, List.getElem_cons_zero, List.getElem_cons_succ]
                refine wpAnyH_take (i := 18) (v := .bool true) rfl (by kernel_rfl) (by kernel_rfl) (by kernel_rfl) (fun _ _ _ h => h) (Or.inl ⟨by rfl, fun w hw => by clear hw; go_simp⟩) hHeld ?_
                try simp only [Act.put, List.setIfInBounds_toArray, List.set_cons_zero, List.set_cons_succ, List.getElem_toArray, List.getElem_cons_zero, List.getElem_cons_succ]
                refine wpAnyH_done (by kernel_rfl) ?_ _
                go_wp2_with fail
                go_ret
                exact ⟨rfl, below_gn (Below.refl _ _) (g_trans GR.out hHeld) (Nat.le_refl _)⟩
        · go_wp2_with fail
          refine (awake_any _).mono ?_
          rintro e w9 ⟨rfl, g9⟩
          go_wp2_with fail
          go_ret
          exact ⟨rfl, below_gn (Below.refl _ _) (g_trans GR.out g9) (Nat.le_refl _)⟩

theorem own_law (F : Nat → Int) (k A B C rk rn ok on a4 : Int) (w : World) (ha1 : 0 ≤ a4) (ha2 : a4 ≤ 255) : Calls Try.prog 4 #[.agg (rgv F), .agg #[.int .i64 k, .int .i64 A, .int .i64 B, .int .i64 C], .agg #[.int .i64 rk, .int .i64 rn], .agg #[.int .i64 ok, .int .i64 on], .int .u8 a4] w fun e w' => e = .returned (.bool true) ∧ Below w.heap.size w w' := by
  by_cases her : doE F 5 k A B C = 0
  · obtain ⟨ho, hl, -⟩ := doE_ok her
    rcases kind_cases k with ⟨n, rfl, h1, h2⟩ | h
    · exact own_ok F n h1 h2 A B C rk rn ok on a4 w ha1 ha2 her
    · rw [okZ_out h] at ho; simp at ho
  · exact own_err F k A B C rk rn ok on a4 w her
end Go.Proofs.Ytdfompfboopkpaa
