/- Fields that were written, each old value pushed ahead, are as they were at first, when all is popped. -/
import Derived.Test.YtllljpmcfjmciaaH
namespace Go.Proofs.Ytllljpmcfjmciaa
open Go.RowKit
set_option linter.unusedVariables false
set_option linter.unusedSimpArgs false

abbrev FV := Nat → Int × Int
def upd (F : FV) (k : Nat) (v : Int × Int) : FV := fun c => if c = k then v else F c
/-- all is popped -/
def undoP (L : List OV) (F : FV) : FV := L.foldr (fun o F => upd F o.f.toNat (o.vk, o.vn)) F
theorem undoP_snoc (L : List OV) (o : OV) (F : FV) : undoP (L ++ [o]) F = undoP L (upd F o.f.toNat (o.vk, o.vn)) := by simp [undoP]
theorem firstP_snoc (rk rn f : Int) (L : List OV) (o : OV) : firstP rk rn f (L ++ [o]) = if (firstP rk rn f L).2.2 then firstP rk rn f L else if hitP rk rn f o then (o.vk, o.vn, true) else (0, 0, false) := by
  induction L with
  | nil => simp [firstP]
  | cons p L ih =>
    rw [List.cons_append, firstP, firstP]
    by_cases h : hitP rk rn f p
    · rw [if_pos h, if_pos h]; rfl
    · rw [if_neg h, if_neg h]; exact ih
structure BackI (L : List OV) (F : FV) : Prop where
  fields : ∀ o ∈ L, 0 ≤ o.f ∧ o.f < 8
  back : ∀ c, c < 8 → undoP L F c = (1, (c : Int))
  first : ∀ c : Nat, c < 8 → firstP 0 0 c L = (1, (c : Int), true) ∨ (firstP 0 0 c L = (0, 0, false) ∧ F c = (1, (c : Int)))
theorem BackI.start {F : FV} (h : ∀ c, c < 8 → F c = (1, (c : Int))) : BackI [] F := ⟨fun o e => (by cases e), h, fun c hc => .inr ⟨rfl, h c hc⟩⟩
theorem BackI.push {L : List OV} {F : FV} (h : BackI L F) {k : Nat} (hk : k < 8) (t : Int) :
    BackI (L ++ [⟨0, 0, k, (F k).1, (F k).2, false, 0⟩]) (upd F k ((F k).1, t)) ∧ firstP 0 0 k (L ++ [⟨0, 0, k, (F k).1, (F k).2, false, 0⟩]) = (1, (k : Int), true) := by
  have hkk : firstP 0 0 k (L ++ [⟨0, 0, k, (F k).1, (F k).2, false, 0⟩]) = (1, (k : Int), true) := by
    rw [firstP_snoc]
    rcases h.first k hk with e | ⟨e, e2⟩
    · rw [e]; rfl
    · rw [e, e2]; simp [hitP]
  refine ⟨⟨fun o ho => ?_, fun c hc => ?_, fun c hc => ?_⟩, hkk⟩
  · rcases List.mem_append.1 ho with ho | ho
    · exact h.fields o ho
    · simp at ho; subst ho; simp; omega
  · rw [undoP_snoc]
    have : upd (upd F k ((F k).1, t)) ((k : Int).toNat) ((F k).1, (F k).2) = F := by
      funext c
      simp only [upd, Int.toNat_natCast]
      split
      · rename_i e; subst e; rfl
      · rfl
    rw [this]
    exact h.back c hc
  · by_cases e : c = k
    · subst e; exact .inl hkk
    · rw [firstP_snoc]
      have hn : ¬ hitP 0 0 c ⟨0, 0, k, (F k).1, (F k).2, false, 0⟩ := fun x => e (by have := x.2.2.2; simp at this; omega)
      rcases h.first c hc with e1 | ⟨e1, e2⟩
      · exact .inl (by rw [e1]; rfl)
      · exact .inr ⟨by rw [e1, if_neg hn]; rfl, by simp [upd, e, e2]⟩
theorem BackI.pop {L : List OV} {F : FV} {o : OV} (h : BackI (L ++ [o]) F) : (0 ≤ o.f ∧ o.f < 8) ∧ (∀ p ∈ L, 0 ≤ p.f ∧ p.f < 8) ∧ ∀ c, c < 8 → undoP L (upd F o.f.toNat (o.vk, o.vn)) c = (1, (c : Int)) :=
  ⟨h.fields o (by simp), fun p hp => h.fields p (by simp [hp]), fun c hc => by rw [← undoP_snoc]; exact h.back c hc⟩

/-- the cells of eight values -/
def cellF (F : FV) (c : Nat) : Value := if c % 2 = 0 then .int .i64 (F (c / 2)).1 else .int .i64 (F (c / 2)).2
def SdA (w : World) (S : Nat → Prop) (x : Nat) (F : FV) : Prop := ABlk w x 32 16 (cellF F) ∧ ¬ S x
section
variable {w w' : World} {S S' : Nat → Prop} {x : Nat} {F : FV}
theorem SdA.cell1 (h : SdA w S x F) (k : Nat) (hk : k < 8) : w.cell? ⟨x, k * 2, none⟩ = some (.int .i64 (F k).1) := by
  have := h.1.cell (k * 2) (by omega)
  rw [this, cellF, if_pos (by omega), show k * 2 / 2 = k by omega]
theorem SdA.cell2 (h : SdA w S x F) (k : Nat) (hk : k < 8) : w.cell? ⟨x, k * 2 + 1, none⟩ = some (.int .i64 (F k).2) := by
  have := h.1.cell (k * 2 + 1) (by omega)
  rw [this, cellF, if_neg (by omega), show (k * 2 + 1) / 2 = k by omega]
theorem SdA.keep (h : SdA w S x F) (g : w.grownBy w' none) : SdA w' S x F := ⟨h.1.keepn g, h.2⟩
theorem SdA.gs {y : Nat} (h : SdA w S x F) (g : w.grownBy w' (some y)) (hne : x ≠ y) : SdA w' S x F := ⟨h.1.keeps g hne, h.2⟩
theorem SdA.move (h : SdA w S x F) (hsd : ∀ x xs T, Sd w S x xs T → Sd w' S' x xs T) : SdA w' S' x F := by
  obtain ⟨⟨xs, h1, h2, h3⟩, h4⟩ := h
  have k := hsd x xs 32 ⟨h1, h4⟩
  exact ⟨⟨xs, k.1, h2, h3⟩, k.2⟩
theorem SdA.set2 (h : SdA w S x F) (k : Nat) (hk : k < 8) (t : Int) : SdA (w.setCell ⟨x, k * 2 + 1, none⟩ (.int .i64 t)) S x (upd F k ((F k).1, t)) := by
  refine ⟨(h.1.set (k * 2 + 1) (.int .i64 t)).congr (fun c hc => ?_), h.2⟩
  by_cases e : c = k * 2 + 1
  · subst e
    rw [if_pos rfl, cellF, if_neg (by omega), show (k * 2 + 1) / 2 = k by omega]; simp [upd]
  · rw [if_neg e, cellF, cellF]
    by_cases e2 : c / 2 = k
    · have : c % 2 = 0 := by omega
      rw [if_pos this, if_pos this, e2]; simp [upd]
    · simp [upd, e2]
theorem SdA.setv (h : SdA w S x F) (k : Nat) (hk : k < 8) (u t : Int) : SdA ((w.setCell ⟨x, k * 2, none⟩ (.int .i64 u)).setCell ⟨x, k * 2 + 1, none⟩ (.int .i64 t)) S x (upd F k (u, t)) := by
  have h1 : SdA (w.setCell ⟨x, k * 2, none⟩ (.int .i64 u)) S x (upd F k (u, (F k).2)) := by
    refine ⟨(h.1.set (k * 2) (.int .i64 u)).congr (fun c hc => ?_), h.2⟩
    by_cases e : c = k * 2
    · subst e
      rw [if_pos rfl, cellF, if_pos (by omega), show (k * 2) / 2 = k by omega]; simp [upd]
    · rw [if_neg e, cellF, cellF]
      by_cases e2 : c / 2 = k
      · have : ¬ c % 2 = 0 := by omega
        rw [if_neg this, if_neg this, e2]; simp [upd]
      · simp [upd, e2]
  have h2 := h1.set2 k hk t
  have e : upd (upd F k (u, (F k).2)) k ((upd F k (u, (F k).2) k).1, t) = upd F k (u, t) := by
    funext c
    simp only [upd, if_true]
    split <;> rfl
  rwa [e] at h2
/-- the eight values that were there first -/
def first8 : Array Value := #[.int .i64 1, .int .i64 0, .int .i64 1, .int .i64 1, .int .i64 1, .int .i64 2, .int .i64 1, .int .i64 3, .int .i64 1, .int .i64 4, .int .i64 1, .int .i64 5, .int .i64 1, .int .i64 6, .int .i64 1, .int .i64 7]
theorem SdA.first (h : SdA w S x F) (hF : ∀ c, c < 8 → F c = (1, (c : Int))) : Sd w S x first8 32 := by
  obtain ⟨⟨xs, h1, h2, h3⟩, h4⟩ := h
  have e : xs = first8 := by
    apply Array.ext
    · rw [h2]; rfl
    · intro i hi hj
      have hi16 : i < 16 := by omega
      have h5 := h3 i hi16
      rw [Array.getElem?_eq_getElem hi] at h5
      have h6 := Option.some.inj h5
      rw [h6, cellF, hF (i / 2) (by omega)]
      rcases (by omega : i = 0 ∨ i = 1 ∨ i = 2 ∨ i = 3 ∨ i = 4 ∨ i = 5 ∨ i = 6 ∨ i = 7 ∨ i = 8 ∨ i = 9 ∨ i = 10 ∨ i = 11 ∨ i = 12 ∨ i = 13 ∨ i = 14 ∨ i = 15) with rfl | rfl | rfl | rfl | rfl | rfl | rfl | rfl | rfl | rfl | rfl | rfl | rfl | rfl | rfl | rfl
      all_goals rfl
  subst e
  exact ⟨h1, h4⟩
theorem SdA.of (h : Sd w S x first8 32) : SdA w S x (fun c => (1, (c : Int))) := by
  refine ⟨⟨_, h.1, rfl, fun i hi => ?_⟩, h.2⟩
  rcases (by omega : i = 0 ∨ i = 1 ∨ i = 2 ∨ i = 3 ∨ i = 4 ∨ i = 5 ∨ i = 6 ∨ i = 7 ∨ i = 8 ∨ i = 9 ∨ i = 10 ∨ i = 11 ∨ i = 12 ∨ i = 13 ∨ i = 14 ∨ i = 15) with rfl | rfl | rfl | rfl | rfl | rfl | rfl | rfl | rfl | rfl | rfl | rfl | rfl | rfl | rfl | rfl
  all_goals rfl
theorem SdA.zero (h : Sd w S x #[.int .i64 0, .int .i64 0, .int .i64 0, .int .i64 0, .int .i64 0, .int .i64 0, .int .i64 0, .int .i64 0, .int .i64 0, .int .i64 0, .int .i64 0, .int .i64 0, .int .i64 0, .int .i64 0, .int .i64 0, .int .i64 0] 32) : SdA w S x (fun _ => (0, 0)) := by
  refine ⟨⟨_, h.1, rfl, fun i hi => ?_⟩, h.2⟩
  rcases (by omega : i = 0 ∨ i = 1 ∨ i = 2 ∨ i = 3 ∨ i = 4 ∨ i = 5 ∨ i = 6 ∨ i = 7 ∨ i = 8 ∨ i = 9 ∨ i = 10 ∨ i = 11 ∨ i = 12 ∨ i = 13 ∨ i = 14 ∨ i = 15) with rfl | rfl | rfl | rfl | rfl | rfl | rfl | rfl | rfl | rfl | rfl | rfl | rfl | rfl | rfl | rfl
  all_goals rfl
end
def lenOf : Option Value → Nat
  | some (.slice _ n _) => n
  | _ => 0
theorem LS.lenOf {w : World} {S : Nat → Prop} {b : Nat} {most : Int} {L : List OV} (h : LS w S b most L) : lenOf (w.cell? ⟨b, 1, none⟩) = L.length := by
  obtain ⟨ao, c, h1, _⟩ := h.1.row
  rw [h1.cell 1 _ rfl]; rfl
end Go.Proofs.Ytllljpmcfjmciaa
