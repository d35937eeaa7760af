/- Bytes as strings. -/
import Derived.Test.YtmckaimgeflncaaPM
namespace Go.Proofs.Ytmckaimgeflncaa
open Go.RowKit
set_option linter.unusedVariables false
set_option linter.unusedSimpArgs false
theorem tl_inj {a b : ByteArray} (h : a.toList = b.toList) : a = b := by
  rw [ByteArray.toList_eq, ByteArray.toList_eq] at h
  exact ByteArray.ext (Array.toList_inj.1 h)
theorem tl_ne {a b : ByteArray} (h : a ≠ b) : (a.toList == b.toList) = false := beq_eq_false_iff_ne.2 (fun e => h (tl_inj e))
theorem tl_self (a : ByteArray) : (a.toList == a.toList) = true := beq_self_eq_true _
theorem map_inj : ∀ {l m : List Int}, (∀ y ∈ l, 0 ≤ y ∧ y ≤ 255) → (∀ y ∈ m, 0 ≤ y ∧ y ≤ 255) → l.map (fun n => UInt8.ofNat n.toNat) = m.map (fun n => UInt8.ofNat n.toNat) → l = m := by
  intro l
  induction l with
  | nil => intro m _ _ h; cases m with
    | nil => rfl
    | cons y u => simp at h
  | cons x t ih =>
    intro m hl hm h
    cases m with
    | nil => simp at h
    | cons y u =>
      simp only [List.map_cons, List.cons.injEq] at h
      have hx := hl x (by simp)
      have hy := hm y (by simp)
      have e := congrArg UInt8.toNat h.1
      simp only [UInt8.toNat_ofNat'] at e
      have : x = y := by omega
      subst this
      rw [ih (fun z hz => hl z (by simp [hz])) (fun z hz => hm z (by simp [hz])) h.2]
theorem str_inj {l m : List Int} (hl : ∀ y ∈ l, 0 ≤ y ∧ y ≤ 255) (hm : ∀ y ∈ m, 0 ≤ y ∧ y ≤ 255) (h : strOfNums l = strOfNums m) : l = m := by
  have h1 : (strOfNums l).data.toList = (strOfNums m).data.toList := by rw [h]
  exact map_inj hl hm h1
theorem str_head : strOfNums [71, 78, 84, 1] = { data := #[71, 78, 84, 1] } := by rfl
theorem brow_bytes {w : World} {ao : Option Addr} {L : List Int} (h : BRow w ao L) : ∀ y ∈ L, 0 ≤ y ∧ y ≤ 255 := fun y hy => by
  obtain ⟨i, hi⟩ := List.mem_iff_getElem?.1 hy
  exact (h i y hi).1
end Go.Proofs.Ytmckaimgeflncaa
