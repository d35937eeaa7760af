/- Sets of what was read: a set and the document's set beside it. -/
import Derived.Test.YtbaocimmpiojeaaK
namespace Go.Proofs.Ytbaocimmpiojeaa
open Go.RowKit
set_option linter.unusedVariables false
set_option linter.unusedSimpArgs false

theorem SRow.keept {w w' : World} {ao : Option Addr} {L : List (Int × Int)} {S : Nat → Prop} (h : SRow w ao L) (t : Tr S w w') (hd : ∀ a, ao = some a → L ≠ [] → ¬ S a.block) : SRow w' ao L := fun i p hi => by
  obtain ⟨b, o, rfl, h1, h2⟩ := h i p hi
  have hL : L ≠ [] := fun e => by rw [e] at hi; cases hi
  exact ⟨b, o, rfl, t.cell h1 (hd _ rfl hL), t.cell h2 (hd _ rfl hL)⟩
theorem SRow.lt {w : World} {a : Addr} {L : List (Int × Int)} (h : SRow w (some a) L) (hL : L ≠ []) : a.block < w.heap.size := by
  obtain ⟨b, o, he, h1, h2⟩ := h 0 (L[0]'(List.length_pos_iff.2 hL)) (List.getElem?_eq_getElem _)
  cases he
  exact World.block_lt_of_cell? _ _ h1

/-- how a set's call turns memory -/
def Mv (w w' : World) (S : Nat → Prop) (b : Nat) (most : Int) (L : List (Int × Int)) : Prop :=
  ∃ S' : Nat → Prop, Rs w' S' b most L ∧ (∀ i, S' i → i < w'.heap.size) ∧ (∀ i, S' i → S i ∨ w.heap.size ≤ i) ∧ Tr S w w'
theorem mv_of {w w' : World} {S : Nat → Prop} {b : Nat} {most : Int} {L : List (Int × Int)} (h : Rs w' (fun i => S i ∨ w.heap.size ≤ i) b most L) (t : Tr (fun i => S i ∨ w.heap.size ≤ i) w w') : Mv w w' S b most L :=
  ⟨fun i => (S i ∨ w.heap.size ≤ i) ∧ i < w'.heap.size, h.mono (fun i hi hs => ⟨hs, hi⟩), fun i h => h.2, fun i h => h.1, tr_mono t (fun i hi hs => by rcases hs with hs | hs; exact hs; omega)⟩
theorem Rs.up {w : World} {S : Nat → Prop} {b : Nat} {most : Int} {L : List (Int × Int)} (h : Rs w S b most L) : Rs w (fun i => S i ∨ w.heap.size ≤ i) b most L := h.mono (fun i _ hs => .inl hs)
theorem has_i (S : Nat → Prop) (b : Nat) (most : Int) (L : List (Int × Int)) (k : Int) (w : World) (h : Rs w S b most L) (hl : L.length ≤ 5000) (hm : most ≠ 0) (hk : (Lit.int .i64 k).wf = true) :
    Calls Try.prog 8 #[.pointer (some ⟨b, 0, none⟩), .int .i64 k] w fun e w' => e = .returned (.tuple #[.int .i64 (hasP L k).1, .bool (hasP L k).2]) ∧ Mv w w' S b most L := by
  refine (has_any _ b most L k w h.up hl (fun i hi => .inr hi) hm hk).mono ?_
  rintro e w' ⟨rfl, h1, h2⟩
  exact ⟨rfl, mv_of h1 h2⟩
theorem add_i (S : Nat → Prop) (b : Nat) (most : Int) (L : List (Int × Int)) (k v : Int) (w : World) (h : Rs w S b most L) (hl : L.length ≤ 4999) (hm : most ≠ 0) (hk : (Lit.int .i64 k).wf = true) :
    Calls Try.prog 10 #[.pointer (some ⟨b, 0, none⟩), .int .i64 k, .int .i64 v] w fun e w' => e = .returned (.int .i64 (addP most L k v).1) ∧ Mv w w' S b most (addP most L k v).2 := by
  refine (add_any _ b most L k v w h.up hl (fun i hi => .inr hi) hm hk).mono ?_
  rintro e w' ⟨rfl, h1, h2⟩
  exact ⟨rfl, mv_of h1 h2⟩
theorem clear_i (S : Nat → Prop) (b : Nat) (most : Int) (L : List (Int × Int)) (w : World) (h : Rs w S b most L) (hm : most ≠ 0) :
    Calls Try.prog 13 #[.pointer (some ⟨b, 0, none⟩)] w fun e w' => e = .returned (.tuple #[]) ∧ Mv w w' S b most [] := by
  refine (clear_any _ b most L w h.up (fun i hi => .inr hi) hm).mono ?_
  rintro e w' ⟨rfl, h1, h2⟩
  exact ⟨rfl, mv_of h1 h2⟩

/-- a set (its blocks S, its entries L) and the document's (in block rb, its entries M) -/
def St (w0 w : World) (S : Nat → Prop) (b rb : Nat) (most : Int) (L M : List (Int × Int)) (ao : Option Addr) (c : Nat) : Prop :=
  Rs w S b most L ∧ (∀ i, S i → w0.heap.size ≤ i ∧ i < w.heap.size) ∧ Blk w rb #[.int .i64 most, .slice ao M.length c] 40 ∧ SRow w ao M ∧ (M.length ≤ c ∧ c ≤ 9223372036854775807 ∧ (ao = none → M = [])) ∧ ¬ S rb ∧ (∀ a, ao = some a → M ≠ [] → ¬ S a.block ∧ a.block ≠ rb) ∧ w0.grownBy w none ∧ w0.heap.size ≤ rb
/-- a block beside -/
def Sd (w : World) (S : Nat → Prop) (x : Nat) (xs : Array Value) (T : TypeId) : Prop := Blk w x xs T ∧ ¬ S x
variable {w0 w w' : World} {S : Nat → Prop} {b rb : Nat} {most : Int} {L M : List (Int × Int)} {ao : Option Addr} {c : Nat}
theorem St.keep (h : St w0 w S b rb most L M ao c) (g : w.grownBy w' none) : St w0 w' S b rb most L M ao c := by
  obtain ⟨h1, h2, h3, h4, h5, h6, h7, h8, h9⟩ := h
  exact ⟨h1.keep g, fun i hi => ⟨(h2 i hi).1, Nat.lt_of_lt_of_le (h2 i hi).2 g.size⟩, h3.keepn g, h4.keep g, h5, h6, h7, g_trans h8 g, h9⟩
theorem Sd.keep {x : Nat} {xs : Array Value} {T : TypeId} (h : Sd w S x xs T) (g : w.grownBy w' none) : Sd w' S x xs T := ⟨h.1.keepn g, h.2⟩
theorem St.new (h : St w0 w S b rb most L M ao c) (xs : Array Value) (T : TypeId) : St w0 (w.alloc (.cells xs T)) S b rb most L M ao c ∧ Sd (w.alloc (.cells xs T)) S w.heap.size xs T :=
  ⟨h.keep (g_alloc (g_refl w none) _), Blk.new w xs T, fun hs => absurd (h.2.1 _ hs).2 (Nat.lt_irrefl _)⟩
theorem St.move {L' : List (Int × Int)} (h : St w0 w S b rb most L M ao c) (k : Mv w w' S b most L') : ∃ S', St w0 w' S' b rb most L' M ao c ∧ ∀ x xs T, Sd w S x xs T → Sd w' S' x xs T := by
  obtain ⟨h1, h2, h3, h4, h5, h6, h7, h8, h9⟩ := h
  obtain ⟨S', k1, k2, k3, k4⟩ := k
  have hb := h3.lt
  have hz := h8.size
  refine ⟨S', ⟨k1, fun i hi => ⟨?_, k2 i hi⟩, k4.blk h3 h6, h4.keept k4 (fun a e hM => (h7 a e hM).1), h5, ?_, ?_, (tr_trans (tr_g h8 S) k4 (fun i _ e => e)).g (fun i hi e => by have := (h2 i e).1; omega), h9⟩, ?_⟩
  · rcases k3 i hi with e | e
    · exact (h2 i e).1
    · omega
  · intro e
    rcases k3 _ e with e | e
    · exact h6 e
    · omega
  · intro a e hM
    refine ⟨fun hs => ?_, (h7 a e hM).2⟩
    subst e
    have := h4.lt hM
    rcases k3 _ hs with e | e
    · exact (h7 a rfl hM).1 e
    · omega
  · intro x xs T hx
    have := hx.1.lt
    exact ⟨k4.blk hx.1 hx.2, fun e => by rcases k3 _ e with e | e; exact hx.2 e; omega⟩
theorem St.fork {w1 w2 w3 : World} {k : Nat} {S2 : Nat → Prop} (h : St w0 w S b rb most L M ao c) (hk : Rs w1 (fun i => w.heap.size ≤ i) k most L) (g : w.grownBy w1 none) (t2 : Tr S w1 w2) (hs2 : ∀ i, S2 i → S i ∨ w1.heap.size ≤ i) (t3 : Tr S2 w2 w3) :
    ∃ S', St w0 w3 S' k rb most L M ao c ∧ ∀ x xs T, Sd w S x xs T → Sd w3 S' x xs T := by
  obtain ⟨h1, h2, h3, h4, h5, h6, h7, h8, h9⟩ := h
  have hb := h3.lt
  have hz := h8.size
  have z1 := g.size
  have z2 := t2.size
  have z3 := t3.size
  have far : ∀ x, x < w.heap.size → ¬ S x → ¬ S2 x := fun x hx hs e => by rcases hs2 _ e with e | e; exact hs e; omega
  have hb6 := far _ hb h6
  refine ⟨fun i => w.heap.size ≤ i ∧ i < w1.heap.size, ⟨?_, fun i hi => ⟨by omega, by omega⟩, t3.blk (t2.blk (h3.keepn g) h6) hb6, ?_, h5, fun e => by omega, ?_, ?_, h9⟩, ?_⟩
  · have e1 : Rs w1 (fun i => w.heap.size ≤ i ∧ i < w1.heap.size) k most L := hk.mono (fun i hi hs => ⟨hs, hi⟩)
    have e2 := e1.far t2 (fun i hi _ e => by have := (h2 i e).2; omega)
    exact e2.far t3 (fun i hi _ e => by rcases hs2 _ e with e | e; have := (h2 i e).2; omega; omega)
  · refine ((h4.keep g).keept t2 (fun a e hM => (h7 a e hM).1)).keept t3 (fun a e hM => ?_)
    subst e
    exact far _ (h4.lt hM) (h7 a rfl hM).1
  · intro a e hM
    subst e
    have := h4.lt hM
    exact ⟨fun e => by omega, (h7 a rfl hM).2⟩
  · have e1 := tr_trans (tr_g (g_trans h8 g) S) t2 (fun i _ e => e)
    have e2 := e1.g (fun i hi e => by have := (h2 i e).1; omega)
    exact (tr_trans (tr_g e2 S2) t3 (fun i _ e => e)).g (fun i hi e => by rcases hs2 _ e with e | e; have := (h2 i e).1; omega; omega)
  · intro x xs T hx
    have := hx.1.lt
    exact ⟨t3.blk (t2.blk (hx.1.keepn g) hx.2) (far _ this hx.2), fun e => by omega⟩
/-- the document's set is stored -/
theorem St.store {M' : List (Int × Int)} {ao' : Option Addr} {c' : Nat} (h : St w0 w S b rb most L M ao c) (k : w.grownBy w' (some rb)) (hB : Blk w' rb #[.int .i64 most, .slice ao' M'.length c'] 40) (hr : SRow w ao' M') (hc : M'.length ≤ c' ∧ c' ≤ 9223372036854775807 ∧ (ao' = none → M' = []))
    (hf : ∀ a, ao' = some a → M' ≠ [] → ¬ S a.block ∧ a.block ≠ rb) :
    St w0 w' S b rb most L M' ao' c' ∧ ∀ x xs T, Sd w S x xs T → x ≠ rb → Sd w' S x xs T := by
  obtain ⟨h1, h2, h3, h4, h5, h6, h7, h8, h9⟩ := h
  have t : Tr (fun i => i = rb) w w' := tr_gs k (fun _ => rfl)
  have z := t.size
  refine ⟨⟨h1.far t (fun i hi _ e => by subst e; exact h6 hi), fun i hi => ⟨(h2 i hi).1, by have := (h2 i hi).2; omega⟩, hB, hr.keept t (fun a e hM hx => (hf a e hM).2 hx), hc, h6, hf, g_in h8 k h9, h9⟩, ?_⟩
  intro x xs T hx hne
  exact ⟨hx.1.keeps k hne, hx.2⟩
theorem St.row_nil : ∀ a, (none : Option Addr) = some a → ([] : List (Int × Int)) ≠ [] → ¬ S a.block ∧ a.block ≠ rb := fun a e => (by cases e)
/-- what R.Add gives can be stored -/
theorem St.rv {w1 : World} {M' : List (Int × Int)} {x : Value} (h : St w0 w S b rb most L M ao c) (g : w.grownBy w1 none) (r : RV w1 most M ao w.heap.size M' x) :
    ∃ ao' c', x = .agg #[.int .i64 most, .slice ao' M'.length c'] ∧ SRow w1 ao' M' ∧ (M'.length ≤ c' ∧ c' ≤ 9223372036854775807 ∧ (ao' = none → M' = [])) ∧ ∀ a, ao' = some a → M' ≠ [] → ¬ S a.block ∧ a.block ≠ rb := by
  obtain ⟨ao', c', rfl, r1, r2, r3, r4, r5⟩ := r
  refine ⟨ao', c', rfl, r1, ⟨r2, r3, r4⟩, ?_⟩
  rcases r5 with ⟨rfl, rfl⟩ | r5
  · exact h.2.2.2.2.2.2.1
  · intro a e hM
    have := r5 a e
    have := h.2.2.1.lt
    exact ⟨fun hs => by have := (h.2.1 _ hs).2; omega, by omega⟩
theorem addP_le (most : Int) (L : List (Int × Int)) (k v : Int) : (addP most L k v).2.length ≤ L.length + 1 := by
  unfold addP
  repeat' split
  all_goals simp
theorem St.start {k : Nat} {w1 w2 : World} (hg : w.grownBy w1 none) (h : Rs w1 (fun i => w.heap.size ≤ i) k most []) (g : w1.grownBy w2 none) : ∃ S, St w (w2.alloc (.cells #[.int .i64 most, .slice none 0 0] 40)) S k w2.heap.size most [] [] none 0 := by
  have z := hg.size
  have z2 := g.size
  have ga := g_alloc (g_refl w2 none) (.cells #[.int .i64 most, .slice none 0 0] 40)
  have z3 := ga.size
  refine ⟨fun i => w.heap.size ≤ i ∧ i < w1.heap.size, ((h.mono (fun i hi hs => ⟨hs, hi⟩)).keep g).keep ga, fun i hi => ⟨hi.1, by omega⟩, Blk.new w2 _ 40, fun i p hi => (by cases hi), ⟨Nat.le_refl _, by decide, fun _ => rfl⟩, fun e => by omega, fun a e => (by cases e), g_trans (g_trans hg g) ga, by omega⟩
end Go.Proofs.Ytbaocimmpiojeaa
