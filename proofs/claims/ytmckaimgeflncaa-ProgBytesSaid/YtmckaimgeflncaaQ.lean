/- An instruction's bytes, there and back. -/
import Derived.Test.YtmckaimgeflncaaM
import Derived.Lib.SmallJoins
namespace Go.Proofs.Ytmckaimgeflncaa
open Go.RowKit
set_option linter.unusedVariables false


theorem enc_eq (op s0 s1 s2 A B C : Int) : encK op s0 s1 s2 A B C 3 = [op] ++ be (wdN s0) A ++ be (wdN s1) B ++ be (wdN s2) C := rfl
theorem alN_3 (s0 s1 s2 : Int) : alN s0 s1 s2 3 = 1 + wdN s0 + wdN s1 + wdN s2 := rfl
theorem enc_len (op s0 s1 s2 A B C : Int) : (encK op s0 s1 s2 A B C 3).length = alN s0 s1 s2 3 := by
  rw [enc_eq, alN_3]; simp [be_length]; omega
theorem enc_drop (op s0 s1 s2 A B C : Int) (bs : List Int) : (encK op s0 s1 s2 A B C 3 ++ bs).drop (alN s0 s1 s2 3) = bs := by
  rw [← enc_len op s0 s1 s2 A B C, List.drop_left']
  rfl
theorem seg_mid {p q r : List Int} {a b : Nat} (ha : p.length = a) (hb : q.length = b) : ((p ++ q ++ r).drop a).take b = q := by
  rw [List.append_assoc, List.drop_left' ha, List.take_left' hb]
theorem seg_enc (op s0 s1 s2 A B C : Int) (bs : List Int) {j : Nat} (hj : j < 3) : seg s0 s1 s2 (encK op s0 s1 s2 A B C 3 ++ bs) j = be (wdN (pick3 s0 s1 s2 j)) (pick3 A B C j) := by
  rcases (by omega : j = 0 ∨ j = 1 ∨ j = 2) with rfl | rfl | rfl
  · show (([op] ++ be (wdN s0) A ++ be (wdN s1) B ++ be (wdN s2) C ++ bs).drop 1).take (wdN s0) = be (wdN s0) A
    rw [List.append_assoc ([op] ++ be (wdN s0) A ++ be (wdN s1) B), List.append_assoc ([op] ++ be (wdN s0) A)]
    exact seg_mid rfl (be_length _ _)
  · show (([op] ++ be (wdN s0) A ++ be (wdN s1) B ++ be (wdN s2) C ++ bs).drop (1 + wdN s0)).take (wdN s1) = be (wdN s1) B
    rw [List.append_assoc ([op] ++ be (wdN s0) A ++ be (wdN s1) B)]
    exact seg_mid (by simp [be_length]; omega) (be_length _ _)
  · show (([op] ++ be (wdN s0) A ++ be (wdN s1) B ++ be (wdN s2) C ++ bs).drop (1 + wdN s0 + wdN s1)).take (wdN s2) = be (wdN s2) C
    exact seg_mid (by simp [be_length]; omega) (be_length _ _)
/-- what was encoded is read -/
theorem hv_enc {k : Nat} {A B C : Int} (hok : okI k A B C = true) (bs : List Int) :
    hv (sA k) (sB k) (sC k) (encK k (sA k) (sB k) (sC k) A B C 3 ++ bs) 0 = A ∧ hv (sA k) (sB k) (sC k) (encK k (sA k) (sB k) (sC k) A B C 3 ++ bs) 1 = B ∧ hv (sA k) (sB k) (sC k) (encK k (sA k) (sB k) (sC k) A B C 3 ++ bs) 2 = C := by
  unfold okI at hok
  simp only [Bool.and_eq_true, decide_eq_true_eq] at hok
  obtain ⟨⟨h0, h1⟩, h2⟩ := hok
  obtain ⟨a0, a1, b0, b1, c0, c1⟩ := sorts_lt k
  unfold hv
  rw [seg_enc _ _ _ _ _ _ _ _ (by decide), seg_enc _ _ _ _ _ _ _ _ (by decide), seg_enc _ _ _ _ _ _ _ _ (by decide)]
  exact ⟨back_num a0 a1 h0, back_num b0 b1 h1, back_num c0 c1 h2⟩
theorem take_parts (L : List Int) (a b : Nat) : L.take (a + b) = L.take a ++ (L.drop a).take b := List.take_add ..
/-- what was read, encoded, is what stood there -/
theorem enc_hv {k : Nat} {L : List Int} (h0 : L[0]? = some (k : Int)) (hb : ∀ x ∈ L, 0 ≤ x ∧ x ≤ 255) (hl : alN (sA k) (sB k) (sC k) 3 ≤ L.length) :
    encK k (sA k) (sB k) (sC k) (hv (sA k) (sB k) (sC k) L 0) (hv (sA k) (sB k) (sC k) L 1) (hv (sA k) (sB k) (sC k) L 2) 3 = L.take (alN (sA k) (sB k) (sC k) 3) := by
  obtain ⟨a0, a1, b0, b1, c0, c1⟩ := sorts_lt k
  rw [alN_3] at hl
  have hsub : ∀ a b, ∀ x ∈ (L.drop a).take b, 0 ≤ x ∧ x ≤ 255 := fun a b x hx => hb x (List.mem_of_mem_drop (List.mem_of_mem_take hx))
  rw [enc_eq]
  unfold hv
  have e0 : seg (sA k) (sB k) (sC k) L 0 = (L.drop 1).take (wdN (sA k)) := rfl
  have e1 : seg (sA k) (sB k) (sC k) L 1 = (L.drop (1 + wdN (sA k))).take (wdN (sB k)) := rfl
  have e2 : seg (sA k) (sB k) (sC k) L 2 = (L.drop (1 + wdN (sA k) + wdN (sB k))).take (wdN (sC k)) := rfl
  rw [e0, e1, e2, back_bytes a0 a1 (by rw [List.length_take, List.length_drop]; omega) (hsub _ _), back_bytes b0 b1 (by rw [List.length_take, List.length_drop]; omega) (hsub _ _), back_bytes c0 c1 (by rw [List.length_take, List.length_drop]; omega) (hsub _ _)]
  rw [alN_3, take_parts, take_parts, take_parts]
  have : L.take 1 = [(k : Int)] := by
    cases L with
    | nil => simp at h0
    | cons x t => simp at h0; subst h0; rfl
  rw [this]
theorem str_append (l m : List Int) : strOfNums (l ++ m) = strOfNums l ++ strOfNums m := by
  apply ByteArray.ext
  apply Array.toList_inj.1
  rw [Go.Joins.data_append]
  simp [strOfNums]
theorem enc_bytes {k : Nat} (h1 : 1 ≤ k) (h2 : k ≤ 20) (s0 s1 s2 A B C : Int) : ∀ x ∈ encK k s0 s1 s2 A B C 3, 0 ≤ x ∧ x ≤ 255 := by
  have hbe : ∀ m (n : Int), ∀ x ∈ be m n, 0 ≤ x ∧ x ≤ 255 := fun m n => by
    induction m with
    | zero => intro x hx; cases hx
    | succ m ih =>
      intro x hx
      rcases List.mem_cons.1 hx with rfl | hx
      · omega
      · exact ih x hx
  intro x hx
  rw [enc_eq] at hx
  simp only [List.mem_append, List.mem_singleton] at hx
  rcases hx with ((rfl | hx) | hx) | hx
  · omega
  · exact hbe _ _ _ hx
  · exact hbe _ _ _ hx
  · exact hbe _ _ _ hx
end Go.Proofs.Ytmckaimgeflncaa

