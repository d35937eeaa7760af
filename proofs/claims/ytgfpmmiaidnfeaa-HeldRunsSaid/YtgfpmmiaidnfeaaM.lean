/- What is held, and what the document's answer holds, beside one another. -/
import Derived.Test.YtgfpmmiaidnfeaaL
import Derived.Test.YtgfpmmiaidnfeaaShapes
namespace Go.Proofs.Ytgfpmmiaidnfeaa
open Go.RowKit
set_option linter.unusedVariables false

/-- the taken records at block hb hold L; the document's, in box rb, hold M, in the row v; none lies in another's block, nor in a block of E -/
structure HI (w : World) (B rb : Nat) (E : Nat → Prop) (hb : Nat) (L M : List (Int × Int)) (v : Value) : Prop where
  hd : Hd w hb (fun g => B ≤ g ∧ g ≠ rb ∧ v.ownBlock ≠ some g ∧ ¬ E g) L
  rs : RS w (rb + 1) v M
  box : Blk w rb #[v] 41
  hB : B ≤ hb
  hrb : hb ≠ rb
  hv : v.ownBlock ≠ some hb
  rB : B ≤ rb
  hE : ¬ E hb
  rE : ¬ E rb
  vE : ∀ g, v.ownBlock = some g → ¬ E g
  lE : ∀ g, E g → g < w.heap.size
section
variable {w w1 w2 w' : World} {B rb hb k : Nat} {E : Nat → Prop} {L L' M M' : List (Int × Int)} {v v' : Value}
theorem RS.own (h : RS w B v L) {g : Nat} (hg : v.ownBlock = some g) : B ≤ g ∧ g < w.heap.size := by
  obtain ⟨ao, c, rfl, h2, h3, h4, h5, h6⟩ := h
  cases ao with
  | none => cases hg
  | some a => cases hg; exact h6 a rfl
theorem RS.cut (h : RS w B v L) : ∃ ao c, v = .slice ao L.length c ∧ SRow w ao L ∧ L.length ≤ c ∧ c ≤ 9223372036854775807 ∧ RS w B (.slice ao L.dropLast.length c) L.dropLast := by
  obtain ⟨ao, c, rfl, h2, h3, h4, h5, h6⟩ := h
  refine ⟨ao, c, rfl, h2, h3, h4, ao, c, rfl, fun i p hi => h2 i p ?_, ?_, h4, h5, h6⟩
  · rw [List.getElem?_dropLast] at hi
    split at hi
    · exact hi
    · cases hi
  · rw [List.length_dropLast]; omega
theorem HI.keep (h : HI w B rb E hb L M v) (g : w.grownBy w' none) : HI w' B rb E hb L M v :=
  ⟨h.hd.keep g, h.rs.keep g, h.box.keepn g, h.hB, h.hrb, h.hv, h.rB, h.hE, h.rE, h.vE, fun x hx => Nat.lt_of_lt_of_le (h.lE x hx) g.size⟩
/-- blocks of one's own are made -/
theorem HI.enter {n : Nat} (h : HI w B rb (fun _ => False) hb L M v) (g : w.grownBy w' none) (hn : w'.heap.size = w.heap.size + n) : HI w' B rb (fun i => w.heap.size ≤ i ∧ i < w.heap.size + n) hb L M v := by
  have l1 := h.box.lt
  have l2 := h.hd.lt
  refine ⟨(h.hd.strict.keep g).mono (fun x _ hx => ⟨hx.1.1, hx.1.2.1, hx.1.2.2.1, by omega⟩), h.rs.keep g, h.box.keepn g, h.hB, h.hrb, h.hv, h.rB, by omega, by omega, fun x hx => ?_, fun x hx => by omega⟩
  have := (h.rs.own hx).2
  omega
theorem HI.leave (h : HI w B rb E hb L M v) : HI w B rb (fun _ => False) hb L M v :=
  ⟨h.hd.mono (fun x _ hx => ⟨hx.1, hx.2.1, hx.2.2.1, id⟩), h.rs, h.box, h.hB, h.hrb, h.hv, h.rB, id, id, fun _ _ => id, fun _ h => h.elim⟩
/-- blocks of E alone were turned -/
theorem HI.side {S : Nat → Prop} (h : HI w B rb E hb L M v) (t : Tr S w w') (hS : ∀ i, S i → E i) : HI w' B rb E hb L M v :=
  ⟨h.hd.tr t (fun e => h.hE (hS _ e)) (fun g _ hg e => hg.2.2.2 (hS _ e)), h.rs.tr t (fun g hg e => h.vE g hg (hS _ e)), t.blk h.box (fun e => h.rE (hS _ e)), h.hB, h.hrb, h.hv, h.rB, h.hE, h.rE, h.vE, fun x hx => Nat.lt_of_lt_of_le (h.lE x hx) t.size⟩
/-- a call turned what is held -/
theorem HI.turn (h : HI w B rb E hb L M v) (h2 : Hd w' hb (fun g => (B ≤ g ∧ g ≠ rb ∧ v.ownBlock ≠ some g ∧ ¬ E g) ∨ w.heap.size ≤ g) L') (t : Tr (fun i => i = hb ∨ (B ≤ i ∧ i ≠ rb ∧ v.ownBlock ≠ some i ∧ ¬ E i)) w w') : HI w' B rb E hb L' M v := by
  have hl := h.box.lt
  have hr := h.rB
  refine ⟨h2.mono (fun g _ hg => ?_), h.rs.tr t (fun g hg hs => ?_), t.blk h.box (fun e => ?_), h.hB, h.hrb, h.hv, h.rB, h.hE, h.rE, h.vE, fun x hx => Nat.lt_of_lt_of_le (h.lE x hx) t.size⟩
  · rcases hg with hg | hg
    · exact hg
    · exact ⟨by omega, by omega, fun e => by have := (h.rs.own e).2; omega, fun e => by have := h.lE g e; omega⟩
  · rcases hs with e | e
    · exact h.hv (by rw [hg, e])
    · exact e.2.2.1 hg
  · rcases e with e | e
    · exact h.hrb e.symm
    · exact e.2.1 rfl
/-- the document's answer was turned, and laid into its box -/
theorem HI.store (h : HI w B rb E hb L M v) (g : w.grownBy w' none) (r : RS w' (rb + 1) v' M') (ho : ∀ g, v'.ownBlock = some g → v.ownBlock = some g ∨ w.heap.size ≤ g) : HI (w'.setCell ⟨rb, 0, none⟩ v') B rb E hb L M' v' := by
  have hl := h.hd.lt
  have k := g_set (g_refl w' (some rb)) (p := ⟨rb, 0, none⟩) (.inl rfl) v'
  have t : Tr (fun i => i = rb) w' (w'.setCell ⟨rb, 0, none⟩ v') := tr_gs k (fun _ => rfl)
  have hne : ∀ x, v'.ownBlock = some x → x ≠ rb := fun x hx e => by have := (r.own hx).1; omega
  refine ⟨?_, r.tr t (fun x hx => hne x hx), by simpa using (h.box.keepn g).set 0 v', h.hB, h.hrb, fun e => ?_, h.rB, h.hE, h.rE, fun x hx => ?_, fun x hx => Nat.lt_of_lt_of_le (h.lE x hx) (Nat.le_trans g.size t.size)⟩
  · refine (Hd.tr (h.hd.strict.keep g) t h.hrb (fun x _ hx => hx.1.2.1)).mono (fun x _ hx => ⟨hx.1.1, hx.1.2.1, fun e => ?_, hx.1.2.2.2⟩)
    rcases ho x e with e | e
    · exact hx.1.2.2.1 e
    · omega
  · rcases ho hb e with e | e
    · exact h.hv e
    · omega
  · rcases ho x hx with e | e
    · exact h.vE x e
    · exact fun hh => by have := h.lE x hh; omega
/-- of a fork it goes on -/
theorem HI.fork (h : HI w B rb E hb L M v) (g1 : w.grownBy w1 none) (hk : Hd w1 k (fun g => w.heap.size ≤ g) L) (lk : w.heap.size ≤ k) (t : Tr (fun i => i = hb ∨ ((B ≤ i ∧ i ≠ rb ∧ v.ownBlock ≠ some i ∧ ¬ E i) ∧ i < w.heap.size)) w1 w2) : HI w2 B rb E k L M v := by
  have hl := h.hd.lt
  have hr := h.rB
  have hx := h.box.lt
  have hs := g1.size
  refine ⟨(hk.tr t (fun e => ?_) (fun g _ hg e => ?_)).mono (fun g _ hg => ⟨by omega, by omega, fun e => ?_, fun e => by have := h.lE g e; omega⟩), (h.rs.keep g1).tr t (fun g hg e => ?_), t.blk (h.box.keepn g1) (fun e => ?_), by omega, by omega, fun e => ?_, h.rB, fun e => by have := h.lE k e; omega, h.rE, h.vE, fun x hx => Nat.lt_of_lt_of_le (h.lE x hx) (Nat.le_trans hs t.size)⟩
  · rcases e with e | e <;> omega
  · rcases e with e | e <;> omega
  · have := (h.rs.own e).2; omega
  · rcases e with e | e
    · exact h.hv (by rw [hg, e])
    · exact e.1.2.2.1 hg
  · rcases e with e | e
    · exact h.hrb e.symm
    · exact e.1.2.1 rfl
  · have := (h.rs.own e).2; omega
/-- a block of E, behind a call that turned what is held -/
theorem HI.sideBlk {x : Nat} {xs : Array Value} {T : TypeId} (h : HI w B rb E hb L M v) (k : Blk w x xs T) (hx : E x) (t : Tr (fun i => i = hb ∨ (B ≤ i ∧ i ≠ rb ∧ v.ownBlock ≠ some i ∧ ¬ E i)) w w') : Blk w' x xs T :=
  t.blk k (fun e => by
    rcases e with e | e
    · subst e; exact h.hE hx
    · exact e.2.2.2 hx)
theorem HI.below {a : World} (h : HI w B rb E hb L M v) (hb0 : Below B a w) (t : Tr (fun i => i = hb ∨ (B ≤ i ∧ i ≠ rb ∧ v.ownBlock ≠ some i ∧ ¬ E i)) w w') (hB : B ≤ w.heap.size) : Below B a w' :=
  t.below hb0 hB (fun i hi e => by
    have := h.hB
    rcases e with e | e <;> omega)
end
section
variable {w w' : World} {B C : Nat} {L : List (Int × Int)} {v u : Value}
theorem rhas_v (h : RS w B v L) (hl : L.length < 4000) (hnt : NoTwice L) (o : Int) :
    Calls Try.prog 16 #[.agg #[v], .int .i64 o] w fun e w' => e = .returned (.tuple #[.int .i64 ((lastV L o).getD 0), .bool (lastV L o).isSome]) ∧ w.grownBy w' none := by
  obtain ⟨ao, c, rfl, h2, _⟩ := h
  exact rhas_any ao c L w h2 hl hnt o
theorem rlast_v (h : RS w B v L) (hl : L.length < 4000) : Calls Try.prog 18 #[.agg #[v]] w fun e w' => e = .returned (topT L) ∧ w.grownBy w' none := by
  obtain ⟨ao, c, rfl, h2, _⟩ := h
  exact rlast_any ao c L w h2 hl
theorem rtake_v (h : RS w B v L) (hl : L.length < 4000) : Calls Try.prog 12 #[.agg #[v]] w fun e w' => ∃ v' x y ok, topT L = .tuple #[.agg #[.int .i64 x, .int .i64 y], .bool ok] ∧ e = .returned (.tuple #[.agg #[v'], .agg #[.int .i64 x, .int .i64 y], .bool ok]) ∧ RS w' B v' L.dropLast ∧ v'.ownBlock = v.ownBlock ∧ w.grownBy w' none := by
  obtain ⟨ao, c, rfl, h2, h3, h4, h5⟩ := h.cut
  exact (rtake_any ao c L w h2 hl h3 h4).mono fun e w' ⟨x, y, ok, ht, he, hg⟩ => ⟨_, x, y, ok, ht, he, h5.keep hg, by cases ao <;> rfl, hg⟩
theorem same_v (h : RS w B v L) (k : RS w C u L) (hl : L.length < 4000) : Calls Try.prog 19 #[v, u] w fun e w' => e = .returned (.bool true) ∧ w.grownBy w' none := by
  obtain ⟨ao, c, rfl, h2, _⟩ := h
  obtain ⟨ao', c', rfl, k2, _⟩ := k
  exact same_any ao ao' c c' L w h2 k2 hl
end
theorem NoTwice.dropLast {L : List (Int × Int)} (h : NoTwice L) : NoTwice L.dropLast := by
  rcases List.eq_nil_or_concat L with rfl | ⟨M, p, rfl⟩
  · exact h
  · rw [List.concat_eq_append] at h ⊢
    rw [List.dropLast_concat]
    intro m q hq
    have hm : m < M.length := (List.getElem?_eq_some_iff.1 hq).1
    have := h m q (by rw [List.getElem?_append_left hm]; exact hq)
    rwa [List.take_append_of_le_length (by omega)] at this
theorem NoTwice.addL {L : List (Int × Int)} (h : NoTwice L) (o v : Int) : NoTwice (addL L o v) := by
  unfold Proofs.Ytgfpmmiaidnfeaa.addL
  split
  · exact h
  · split
    · exact h
    · rename_i hn
      exact h.snoc (by cases hv : lastV L o with
        | none => rfl
        | some u => rw [hv] at hn; simp at hn)
theorem addL_le (L : List (Int × Int)) (o v : Int) : (addL L o v).length ≤ L.length + 1 := by
  unfold addL
  split
  · omega
  · split
    · omega
    · simp
end Go.Proofs.Ytgfpmmiaidnfeaa
