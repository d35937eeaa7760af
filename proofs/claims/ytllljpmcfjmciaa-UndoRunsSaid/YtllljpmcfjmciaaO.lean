/- A log of old values and the document's beside it. -/
import Derived.Test.YtllljpmcfjmciaaN
import Derived.Test.YtllljpmcfjmciaaH
namespace Go.Proofs.Ytllljpmcfjmciaa
open Go.RowKit
set_option linter.unusedVariables false
set_option linter.unusedSimpArgs false

/-- the document's log (in block rb, its entries M), beside a log of the blocks S -/
def Dc (w : World) (S : Nat → Prop) (rb : Nat) (most : Int) (M : List OV) (ao : Option Addr) (c : Nat) : Prop :=
  Sd w S rb #[.int .i64 most, .slice ao M.length c] 46 ∧ SRow w ao M ∧ M.length ≤ c ∧ c ≤ 9223372036854775807 ∧ (ao = none → M = []) ∧ ∀ a, ao = some a → M ≠ [] → ¬ S a.block ∧ a.block ≠ rb
section
variable {w0 w w' : World} {S S' : Nat → Prop} {b rb : Nat} {most : Int} {L M : List OV} {ao : Option Addr} {c : Nat}
theorem Dc.keep (h : Dc w S rb most M ao c) (g : w.grownBy w' none) : Dc w' S rb most M ao c := ⟨h.1.keep g, h.2.1.keep g, h.2.2⟩
theorem Dc.move (h : Dc w S rb most M ao c) (hsd : ∀ x xs T, Sd w S x xs T → Sd w' S' x xs T) (hs : ∀ i, S' i → S i ∨ w.heap.size ≤ i) (t : Tr S w w') : Dc w' S' rb most M ao c := by
  obtain ⟨h1, h2, h3, h4, h5, h6⟩ := h
  refine ⟨hsd _ _ _ h1, h2.keept t (fun a e hM => (h6 a e hM).1), h3, h4, h5, fun a e hM => ⟨fun x => ?_, (h6 a e hM).2⟩⟩
  subst e
  have := h2.lt hM
  rcases hs _ x with y | y
  · exact (h6 a rfl hM).1 y
  · omega
/-- a store into another block -/
theorem Dc.gs {y : Nat} (h : Dc w S rb most M ao c) (k : w.grownBy w' (some y)) (hy : rb ≠ y) (hya : ∀ a, ao = some a → M ≠ [] → a.block ≠ y) : Dc w' S rb most M ao c :=
  ⟨h.1.gs k hy, h.2.1.keepr k (fun a e hM => by simpa using hya a e hM), h.2.2⟩
/-- the document's log is stored -/
theorem Dc.store {M' : List OV} {ao' : Option Addr} {c' : Nat} (h : Dc w S rb most M ao c) (k : w.grownBy w' (some rb)) (hB : Blk w' rb #[.int .i64 most, .slice ao' M'.length c'] 46) (hr : SRow w ao' M') (hc : M'.length ≤ c') (hcm : c' ≤ 9223372036854775807) (hn : ao' = none → M' = [])
    (hf : ∀ a, ao' = some a → M' ≠ [] → ¬ S a.block ∧ a.block ≠ rb) : Dc w' S rb most M' ao' c' :=
  ⟨⟨hB, h.1.2⟩, hr.keepr k (fun a e hM => by simpa using (hf a e hM).2), hc, hcm, hn, hf⟩
/-- what the document's call gives can be stored -/
theorem Dc.rv {w1 : World} {M' : List OV} {x : Value} (hls : LS w S b most L) (h : Dc w S rb most M ao c) (r : RV w1 most M ao w.heap.size M' x) :
    ∃ ao' c', x = .agg #[.int .i64 most, .slice ao' M'.length c'] ∧ SRow w1 ao' M' ∧ M'.length ≤ c' ∧ c' ≤ 9223372036854775807 ∧ (ao' = none → M' = []) ∧ ∀ a, ao' = some a → M' ≠ [] → ¬ S a.block ∧ a.block ≠ rb := by
  obtain ⟨ao', c', rfl, r1, r2, r3, r4, r5⟩ := r
  refine ⟨ao', c', rfl, r1, r2, r3, r4, ?_⟩
  rcases r5 with ⟨rfl, rfl⟩ | r5
  · exact h.2.2.2.2.2
  · intro a e hM
    have := r5 a e
    have := h.1.1.lt
    exact ⟨fun hs => by have := hls.2.2 _ hs; omega, by omega⟩
/-- another one goes on, and the old one is turned -/
theorem St0.fork {w1 w2 w3 : World} {k : Nat} {S2 : Nat → Prop} (h : St0 w0 w S b most L) (hd : Dc w S rb most M ao c) (hk : Lg w1 k (fun g => w.heap.size ≤ g) most L) (hkw : w.heap.size ≤ k) (g : w.grownBy w1 none) (t2 : Tr S w1 w2) (hs2 : ∀ i, S2 i → S i ∨ w1.heap.size ≤ i) (t3 : Tr S2 w2 w3) :
    ∃ S', St0 w0 w3 S' k most L ∧ Dc w3 S' rb most M ao c ∧ ∀ x xs T, Sd w S x xs T → Sd w3 S' x xs T := by
  obtain ⟨h1, h2, h3⟩ := h
  have z0 := h3.size
  have z1 := g.size
  have z2 := t2.size
  have z3 := t3.size
  have hSw := h1.2.2
  have far : ∀ x, x < w1.heap.size → ¬ S x → ¬ S2 x := fun x hx hs e => by rcases hs2 _ e with e | e; exact hs e; omega
  have hnew : ∀ i, w.heap.size ≤ i → i < w1.heap.size → ¬ S i ∧ ¬ S2 i := fun i hi hi2 => by
    have hn : ¬ S i := fun e => by have := hSw i e; omega
    exact ⟨hn, far i hi2 hn⟩
  have hkl := hk.lt
  have e1 : LS w1 (fun i => w.heap.size ≤ i ∧ i < w1.heap.size) k most L := ⟨hk.mono (fun i hi hs => ⟨hs, hi⟩), ⟨hkw, hkl⟩, fun i hi => hi.2⟩
  have e2 := e1.far t2 (fun i hi => (hnew i hi.1 hi.2).1)
  have e3 := e2.far t3 (fun i hi => (hnew i hi.1 hi.2).2)
  have mv : ∀ x xs T, Sd w S x xs T → Sd w3 (fun i => w.heap.size ≤ i ∧ i < w1.heap.size) x xs T := fun x xs T hx => by
    have := hx.1.lt
    exact ⟨t3.blk (t2.blk (hx.1.keepn g) hx.2) (far _ (by omega) hx.2), fun e => by omega⟩
  refine ⟨_, ⟨e3, fun i hi => by omega, ?_⟩, ?_, mv⟩
  · have a1 := (tr_trans (tr_g (g_trans h3 g) S) t2 (fun i _ e => e)).g (fun i hi e => by have := h2 i e; omega)
    exact (tr_trans (tr_g a1 S2) t3 (fun i _ e => e)).g (fun i hi e => by rcases hs2 _ e with e | e; have := h2 i e; omega; omega)
  · obtain ⟨d1, d2, d3, d4, d5, d6⟩ := hd
    refine ⟨mv _ _ _ d1, ?_, d3, d4, d5, fun a e hM => ?_⟩
    · refine ((d2.keep g).keept t2 (fun a e hM => (d6 a e hM).1)).keept t3 (fun a e hM => ?_)
      subst e
      have := d2.lt hM
      exact far _ (by omega) (d6 a rfl hM).1
    · subst e
      have := d2.lt hM
      exact ⟨fun x => by omega, (d6 a rfl hM).2⟩
end
theorem pushP_len {most : Int} {L : List OV} {o : OV} (h : (L.length : Int) ≤ most) : ((pushP most L o).2.length : Int) ≤ most := by
  unfold pushP
  split
  · exact h
  · simp; omega
theorem popP_len (L : List OV) : (popP L).2.length ≤ L.length := by
  unfold popP
  split <;> simp
theorem all_i {w : World} {S : Nat → Prop} {b : Nat} {most : Int} {L : List OV} (h : LS w S b most L) (hm : most ≠ 0) (hl : L.length ≤ 5000) (n : Nat) (hn : L.length = n) :
    Calls Try.prog 18 #[.pointer (some ⟨b, 0, none⟩)] w fun e w' => ∃ lo lc, e = .returned (.slice lo n lc) ∧ w'.ownsRow w.heap.size 36 7 (.slice lo n lc) n (scl L) ∧ SRow w' lo L ∧ w.grownBy w' none := by
  refine (all_any b S most L w h.1 hm hl).mono ?_
  rintro e w' ⟨v, rfl, ho, hg⟩
  obtain ⟨lo, lc, rfl, hs, -⟩ := srow_of_own ho
  rw [hn] at ho ⊢
  exact ⟨lo, lc, rfl, ho, hs, hg⟩
theorem len_i {w : World} {S : Nat → Prop} {b : Nat} {most : Int} {L : List OV} (h : LS w S b most L) (hm : most ≠ 0) (n : Nat) (hn : L.length = n) :
    Calls Try.prog 10 #[.pointer (some ⟨b, 0, none⟩)] w fun e w' => e = .returned (.int .i64 (n : Int)) ∧ w.grownBy w' none := by
  refine (len_any b S most L w h.1 hm).mono ?_
  rintro e w' ⟨rfl, rfl⟩
  exact ⟨by rw [hn], g_refl _ _⟩
end Go.Proofs.Ytllljpmcfjmciaa
