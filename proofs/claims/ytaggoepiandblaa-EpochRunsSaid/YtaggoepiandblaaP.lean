/- Plain laws on slots: turns, bounds, and who has left. No program in sight. -/
import Derived.Test.YtaggoepiandblaaC
namespace Go.Proofs.Ytaggoepiandblaa
open Go.RowKit

/-- bounds -/
def Bd (n : Nat) (f : Nat → Int) (k : Nat) : Prop := ∀ t, t < n → 0 ≤ f t ∧ f t ≤ k
theorem Bd.turn {n : Nat} {f : Nat → Int} {k : Nat} (h : Bd n f k) (t : Int) (i : Bool) : Bd n (turnF n f t i) (k + 1) := fun j hj => by
  have := h j hj
  unfold turnF
  split
  · rename_i e; have := h t.toNat (by omega); omega
  · omega
theorem Bd.more {n : Nat} {f : Nat → Int} {k m : Nat} (h : Bd n f k) (hm : k ≤ m) : Bd n f m := fun j hj => by have := h j hj; omega
theorem Bd.sat {n : Nat} {f : Nat → Int} {k : Nat} (h : Bd n f k) (t : Int) : 0 ≤ sat n f t ∧ sat n f t ≤ k := by
  unfold Go.Proofs.Ytaggoepiandblaa.sat
  split
  · exact h _ (by omega)
  · omega

/-- who was within when z was snapped -/
def wasIn (n : Nat) (z : Nat → Int) (t : Nat) : Bool := decide (t < n ∧ z t % 2 = 1)
/-- L: who has left, of those that were within; z: what was snapped -/
def Left (n : Nat) (z f : Nat → Int) (L : Nat → Bool) : Prop := ∀ t, t < n → z t ≤ f t ∧ (z t % 2 = 1 → (L t = true ↔ f t ≠ z t))
theorem Left.start (n : Nat) (z : Nat → Int) : Left n z z (fun _ => false) := fun t _ => ⟨Int.le_refl _, fun _ => by simp⟩
theorem sin_at {n : Nat} {f : Nat → Int} {t : Nat} (h : t < n) : sin n f (t : Int) = decide (f t % 2 = 1) := by
  unfold sin sat; rw [if_pos (by omega)]; simp
theorem Left.enter {n : Nat} {z f : Nat → Int} {L : Nat → Bool} (h : Left n z f L) (u : Int) : Left n z (turnF n f u false) L := fun t ht => by
  obtain ⟨h1, h2⟩ := h t ht
  unfold turnF
  split
  · rename_i e
    obtain ⟨e0, rfl⟩ := e
    have hu : ¬ (u < 0 ∨ (n : Int) ≤ u) := fun hh => by unfold turnR at e0; rw [if_pos hh] at e0; omega
    unfold turnR at e0
    rw [if_neg hu] at e0
    have hs : sin n f u = false := by cases hs : sin n f u <;> simp_all
    have hu2 : ((u.toNat : Nat) : Int) = u := by omega
    rw [← hu2, sin_at ht] at hs
    have hs := of_decide_eq_false hs
    refine ⟨by omega, fun hz => ?_⟩
    have h3 := h2 hz
    by_cases he : f u.toNat = z u.toNat
    · rw [he] at hs; exact absurd hz hs
    · exact ⟨fun _ => by omega, fun _ => h3.2 he⟩
  · exact ⟨h1, h2⟩
theorem Left.leave {n : Nat} {z f : Nat → Int} {L : Nat → Bool} (h : Left n z f L) (u : Nat) (hu : u < n) (h0 : turnR n f u true = 0) :
    Left n z (turnF n f u true) (fun i => if i = u then true else L i) := fun t ht => by
  obtain ⟨h1, h2⟩ := h t ht
  unfold turnF
  by_cases e : t = u
  · subst e
    rw [if_pos ⟨h0, by simp⟩]
    simp only [Int.toNat_natCast, if_true]
    exact ⟨by omega, fun _ => ⟨fun _ => by omega, fun _ => by simp⟩⟩
  · rw [if_neg (by simp [e])]
    simp only [e, if_false]
    exact ⟨h1, h2⟩
theorem turnF_no {n : Nat} {f : Nat → Int} {u : Int} {i : Bool} (h : turnR n f u i ≠ 0) : turnF n f u i = f := by
  funext t; unfold turnF; rw [if_neg (fun e => h e.1)]
theorem turnR_in {n : Nat} {f : Nat → Int} {u : Int} {i : Bool} (h : turnR n f u i = 0) : 0 ≤ u ∧ u < n := by
  unfold turnR at h
  split at h <;> omega

/-- is thread t none that is waited for? -/
def gone (me : Int) (n : Nat) (z : Nat → Int) (L : Nat → Bool) (t : Nat) : Prop := (t : Int) = me ∨ wasIn n z t = false ∨ L t = true
instance (me : Int) (n : Nat) (z : Nat → Int) (L : Nat → Bool) (t : Nat) : Decidable (gone me n z L t) := by unfold gone; infer_instance
def allb (me : Int) (n : Nat) (z : Nat → Int) (L : Nat → Bool) (m : Nat) : Bool := decide (∀ t, t < m → gone me n z L t)
theorem allb_zero (me : Int) (n : Nat) (z : Nat → Int) (L : Nat → Bool) : allb me n z L 0 = true := by unfold allb; exact decide_eq_true (fun t h => absurd h (Nat.not_lt_zero _))
theorem allb_succ (me : Int) (n : Nat) (z : Nat → Int) (L : Nat → Bool) (m : Nat) : allb me n z L (m + 1) = (allb me n z L m && decide (gone me n z L m)) := by
  unfold allb
  rw [← Bool.decide_and]
  congr 1
  apply propext
  constructor
  · exact fun h => ⟨fun t ht => h t (by omega), h m (by omega)⟩
  · exact fun h t ht => by
      by_cases e : t = m
      · subst e; exact h.2
      · exact h.1 t (by omega)
theorem passb_allb {n : Nat} {z f : Nat → Int} {L : Nat → Bool} (h : Left n z f L) (me : Int) : passb n f me z = allb me n z L n := by
  unfold passb allb
  congr 1
  apply propext
  have key : ∀ t, t < n → (okAt f me z t ↔ gone me n z L t) := fun t ht => by
    obtain ⟨h1, h2⟩ := h t ht
    have hw : wasIn n z t = decide (z t % 2 = 1) := by unfold wasIn; simp [ht]
    unfold okAt gone
    rw [hw]
    by_cases hz : z t % 2 = 1
    · rw [h2 hz]
      simp only [hz, decide_true]
      constructor
      · intro hh
        by_cases c1 : (t : Int) = me
        · exact .inl c1
        · exact .inr (.inr (fun e => hh ⟨c1, by omega, e.symm⟩))
      · rintro (c1 | c1 | c1) ⟨d1, _, d3⟩
        · exact d1 c1
        · cases c1
        · exact c1 d3.symm
    · have hz0 : z t % 2 = 0 := by omega
      simp [hz0]
  exact ⟨fun hh t ht => (key t ht).1 (hh t ht), fun hh t ht => (key t ht).2 (hh t ht)⟩
theorem allb_mono {me : Int} {n : Nat} {z : Nat → Int} {L : Nat → Bool} {m : Nat} (h : allb me n z L m = true) (u : Nat) : allb me n z (fun i => if i = u then true else L i) m = true := by
  unfold allb at *
  have h := of_decide_eq_true h
  refine decide_eq_true (fun t ht => ?_)
  rcases h t ht with c | c | c
  · exact .inl c
  · exact .inr (.inl c)
  · refine .inr (.inr ?_)
    by_cases e : t = u
    · simp [e]
    · simp [e, c]

/-- the law's memory: the slots, who was within, who has left, what was snapped -/
def St (w : World) (B bw bl : Nat) (ao : Option Addr) (n : Nat) (z f : Nat → Int) (L : Nat → Bool) : Prop :=
  Sl w B n f ∧ ABlk w bw 33 8 (fun t => .bool (wasIn n z t)) ∧ ABlk w bl 33 8 (fun t => .bool (L t)) ∧ IRow w ao n z ∧ B ≠ bw ∧ B ≠ bl ∧ bw ≠ bl ∧ ∀ a, ao = some a → a.block ≠ B ∧ a.block ≠ bl
theorem St.keep {w w' : World} {B bw bl : Nat} {ao : Option Addr} {n : Nat} {z f : Nat → Int} {L : Nat → Bool} (h : St w B bw bl ao n z f L) (g : w.grownBy w' none) : St w' B bw bl ao n z f L := by
  obtain ⟨h1, h2, h3, h4, h5⟩ := h
  exact ⟨h1.keep g, h2.keepn g, h3.keepn g, h4.keep g, h5⟩
theorem St.turn {w w' : World} {B bw bl : Nat} {ao : Option Addr} {n : Nat} {z f f' : Nat → Int} {L : Nat → Bool} (h : St w B bw bl ao n z f L) (hs : Sl w' B n f') (g : w.grownBy w' (some B)) : St w' B bw bl ao n z f' L := by
  obtain ⟨h1, h2, h3, h4, h5, h6, h7, h8⟩ := h
  exact ⟨hs, h2.keeps g (Ne.symm h5), h3.keeps g (Ne.symm h6), h4.keeps g (fun a ha => (h8 a ha).1), h5, h6, h7, h8⟩
theorem St.left {w : World} {B bw bl : Nat} {ao : Option Addr} {n : Nat} {z f : Nat → Int} {L : Nat → Bool} (h : St w B bw bl ao n z f L) (t : Nat) :
    St (w.setCell ⟨bl, t, none⟩ (.bool true)) B bw bl ao n z f (fun i => if i = t then true else L i) := by
  obtain ⟨h1, h2, h3, h4, h5, h6, h7, h8⟩ := h
  have g : w.grownBy (w.setCell ⟨bl, t, none⟩ (.bool true)) (some bl) := g_set (g_refl w (some bl)) (.inl rfl) _
  refine ⟨h1.keeps g h6, h2.keeps g h7, (h3.set t _).congr (fun i _ => ?_), h4.keeps g (fun a ha => (h8 a ha).2), h5, h6, h7, h8⟩
  by_cases e : i = t <;> simp [e]
end Go.Proofs.Ytaggoepiandblaa
