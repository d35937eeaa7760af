/- Small lemmas on worlds, whatever the program: a block of plain cells, what one call may have changed. -/
import Derived.Test.YtkkcfielmpjgeaaRows
import Derived.WalkKit
import Derived.WalkLawsBesides
import Derived.Handy
import Derived.Deep.QuietTactic
import Derived.BigQuiet
import Derived.Deep.RegionWith
import Derived.Lib.Hide
import Derived.ProofKit
import Derived.OpenShut
import Derived.ShutString
import Derived.Deep.Slices
namespace Go.Proofs.Ytkkcfielmpjgeaa
open Go.RowKit

theorem ret_int {k : IntKind} {a b : Int} (h : a = b) : Ending.returned (.int k a) = .returned (.int k b) := by rw [h]
theorem ret_bool {a b : Bool} (h : a = b) : Ending.returned (.bool a) = .returned (.bool b) := by rw [h]
theorem quiet_add {P : Program} {f : FuncId} {args : Array Value} {w : World} {a n : Nat} {v : Value}
    (h : Calls P f args (w.drewN (a + n)) fun e w' => e = .returned v ∧ ∃ m, w' = (w.drewN (a + n)).drewN m) :
    Calls P f args (w.drewN (a + n)) fun e w'' => e = .returned v ∧ ∃ m, w'' = w.drewN (a + m) :=
  h.mono fun _ _ ⟨he, m, hm⟩ => ⟨he, n + m, by rw [hm, World.drewN_drewN, Nat.add_assoc]⟩

theorem g_refl (w : World) (row : Option Nat) : w.grownBy w row := ⟨rfl, rfl, rfl, Nat.le_refl _, fun _ _ _ => rfl⟩
theorem g_drewN {a w : World} {row : Option Nat} (h : a.grownBy w row) (n : Nat) : a.grownBy (w.drewN n) row := ⟨h.os, h.tape, h.output, h.size, h.block⟩
theorem g_drew {a w : World} {row : Option Nat} (h : a.grownBy w row) : a.grownBy w.drew row := ⟨h.os, h.tape, h.output, h.size, h.block⟩
theorem g_alloc {a w : World} {row : Option Nat} (h : a.grownBy w row) (o : Obj) : a.grownBy (w.alloc o) row :=
  ⟨h.os, h.tape, h.output, Nat.le_trans h.size (by simp), fun i hi hne => (Below.heap_alloc w o i (Nat.lt_of_lt_of_le hi h.size)).trans (h.block i hi hne)⟩
theorem g_set {a w : World} {g : Nat} (h : a.grownBy w (some g)) {p : Addr} (hp : p.block = g ∨ a.heap.size ≤ p.block) (u : Value) : a.grownBy (w.setCell p u) (some g) :=
  ⟨h.os, h.tape, h.output, by simpa [World.setCell] using h.size, fun i hi hne => (Below.heap_setCell w p u i (by
    rintro rfl
    rcases hp with hp | hp
    · exact hne (by rw [hp])
    · omega)).trans (h.block i hi hne)⟩
theorem g_trans {a w w' : World} {row : Option Nat} (h : a.grownBy w row) (k : w.grownBy w' row) : a.grownBy w' row :=
  ⟨k.os.trans h.os, k.tape.trans h.tape, k.output.trans h.output, Nat.le_trans h.size k.size, fun i hi hne => (k.block i (Nat.lt_of_lt_of_le hi h.size) hne).trans (h.block i hi hne)⟩
theorem g_none {a w : World} (h : a.grownBy w none) (row : Option Nat) : a.grownBy w row :=
  ⟨h.os, h.tape, h.output, h.size, fun i hi _ => h.block i hi (by simp)⟩
/-- what was changed besides is new -/
theorem g_in {a w w' : World} {g : Nat} {row : Option Nat} (h : a.grownBy w row) (k : w.grownBy w' (some g)) (hg : a.heap.size ≤ g) : a.grownBy w' row :=
  ⟨k.os.trans h.os, k.tape.trans h.tape, k.output.trans h.output, Nat.le_trans h.size k.size, fun i hi hne => (k.block i (Nat.lt_of_lt_of_le hi h.size) (by simp; omega)).trans (h.block i hi hne)⟩
theorem g_then {a w w' : World} {row : Option Nat} (h : a.grownBy w row) (k : w.grownBy w' none) : a.grownBy w' row := g_trans h (g_none k row)
theorem g_below {a w : World} (h : Below a.heap.size a w) (row : Option Nat) : a.grownBy w row := ⟨h.os, h.tape, h.output, h.size, fun i hi _ => h.block i hi⟩
theorem below_g {B : Nat} {a w w' : World} {row : Option Nat} (h : Below B a w) (k : w.grownBy w' row) (hB : B ≤ w.heap.size) (hr : ∀ g, row = some g → B ≤ g) : Below B a w' := h.grown k hB hr
theorem below_gs {B g : Nat} {a w w' : World} (h : Below B a w) (k : w.grownBy w' (some g)) (hB : B ≤ w.heap.size) (hr : B ≤ g) : Below B a w' :=
  h.grown k hB (by rintro x ⟨⟩; exact hr)
theorem below_gn {B : Nat} {a w w' : World} (h : Below B a w) (k : w.grownBy w' none) (hB : B ≤ w.heap.size) : Below B a w' :=
  h.grown k hB (by rintro x ⟨⟩)
theorem below_drewN {B : Nat} {a w : World} (h : Below B a w) (n : Nat) : Below B a (w.drewN n) := ⟨h.os, h.tape, h.output, h.size, h.block⟩

/-- block b holds the plain cells xs -/
def Blk (w : World) (b : Nat) (xs : Array Value) (T : TypeId) : Prop := w.heap[b]? = some (.cells xs T (0, 0))
section
variable {w w' : World} {b : Nat} {xs : Array Value} {T : TypeId}
theorem Blk.cell (h : Blk w b xs T) (i : Nat) (v : Value) (hv : xs[i]? = some v) : w.cell? ⟨b, i, none⟩ = some v := by
  unfold Blk at h; simp [World.cell?, h, hv]
theorem Blk.free (h : Blk w b xs T) (i : Nat) : w.frozen? ⟨b, i, none⟩ = false := by
  unfold Blk at h; simp [World.frozen?, h]
theorem Blk.lt (h : Blk w b xs T) : b < w.heap.size := (Array.getElem?_eq_some_iff.1 h).1
theorem Blk.drewN (h : Blk w b xs T) (n : Nat) : Blk (w.drewN n) b xs T := h
theorem Blk.drew (h : Blk w b xs T) : Blk w.drew b xs T := h
theorem Blk.set (h : Blk w b xs T) (i : Nat) (v : Value) : Blk (w.setCell ⟨b, i, none⟩ v) b (xs.setIfInBounds i v) T := by
  unfold Blk at *
  simp [World.setCell, Array.getElem?_modify, h]
theorem Blk.new (w : World) (xs : Array Value) (T : TypeId) : Blk (w.alloc (.cells xs T)) w.heap.size xs T := heap_alloc_new w _
theorem Blk.keep {row : Option Nat} (h : Blk w b xs T) (g : w.grownBy w' row) (hne : some b ≠ row) : Blk w' b xs T := (g.block b h.lt hne).trans h
theorem Blk.keepn (h : Blk w b xs T) (g : w.grownBy w' none) : Blk w' b xs T := h.keep g (by simp)
theorem Blk.keeps {g : Nat} (h : Blk w b xs T) (k : w.grownBy w' (some g)) (hne : b ≠ g) : Blk w' b xs T := h.keep k (by simpa using hne)
end

/-- THE WORLDS THAT W MAY HAVE GROWN TO, nothing that was there having turned: a class of worlds for a region that draws its order, whose operations read and whose callees read or make memory of their own. -/
def GW (W : World) : Type := {w' : World // W.grownBy w' none}
instance (W : World) : Nonempty (GW W) := ⟨⟨W, g_refl W none⟩⟩
def GW.w {W : World} (x : GW W) : World := x.1
theorem GW.g {W : World} (x : GW W) : W.grownBy x.w none := x.2
theorem Blk.gw {W : World} {b : Nat} {xs : Array Value} {T : TypeId} (h : Blk W b xs T) (x : GW W) : Blk x.w b xs T := h.keepn x.g
theorem GW.cell {W : World} (x : GW W) {a : Addr} {v : Value} (h : W.cell? a = some v) : x.w.cell? a = some v := x.g.cell h (by simp)
theorem quiet_g {P : Program} {f : FuncId} {args : Array Value} {W : World} {x : GW W} {v : Value}
    (h : Calls P f args x.w fun e w' => e = .returned v ∧ x.w.grownBy w' none) : Calls P f args x.w fun e w'' => e = .returned v ∧ ∃ y : GW W, w'' = y.w :=
  h.mono fun _ w'' ⟨he, hg⟩ => ⟨he, ⟨w'', g_trans x.g hg⟩, rfl⟩
theorem wp_region_gw {P : Program} {id : Nat} {Q : Exit → Act → World → Prop} {a : Act} {W : World} {l : List Oper} (hm : P.follows .mixedOrders = true) (hB : Region.lexB .any l.toArray = true)
    (h : wpQuiet P l.toArray (fun w' => ∃ x : GW W, w' = x.w) (fun a' => ∀ w', (∃ x : GW W, w' = x.w) → Q .normal a' w') l a) : (Code.region id l.toArray true).wp P Q a W :=
  wp_region_quiet (C := fun w' => ∃ x : GW W, w' = x.w) hm hB ⟨⟨_, g_drew (g_refl W none)⟩, rfl⟩ (by simpa using h)

theorem own_keepn {w w' : World} {base : Nat} {e : TypeId} {size : Nat} {v : Value} {n : Nat} {xs : List Value} (h : w.ownsRow base e size v n xs) (g : w.grownBy w' none) : w'.ownsRow base e size v n xs :=
  h.kept g (by cases hv : v.ownBlock <;> simp)
theorem own_gw {W : World} {base : Nat} {e : TypeId} {size : Nat} {v : Value} {n : Nat} {xs : List Value} (h : W.ownsRow base e size v n xs) (x : GW W) : x.w.ownsRow base e size v n xs := own_keepn h x.g
/-- what was turned is nothing, or a row of the call's own -/
theorem g_own {a w w' : World} {e : TypeId} {size n : Nat} {v : Value} {xs : List Value} {row : Option Nat} (h : a.grownBy w row) (ho : w.ownsRow a.heap.size e size v n xs) (k : w.grownBy w' v.ownBlock) : a.grownBy w' row := by
  cases hv : v.ownBlock with
  | none => rw [hv] at k; exact g_then h k
  | some g => rw [hv] at k; exact g_in h k (ho.lt g hv).1

theorem new_cells (w : World) (xs : List Value) (T : TypeId) : ∀ (j : Nat) (u : Value), xs[j]? = some u → (w.alloc (.cells xs.toArray T)).cell? ((⟨w.heap.size, 0, none⟩ : Addr).add j) = some u := fun j u hu => by
  rw [Addr.add_lit, Nat.zero_add]
  exact (Blk.new w xs.toArray T).cell j u (by simpa using hu)

/-- block b holds m cells, the i-th F i -/
def ABlk (w : World) (b : Nat) (T : TypeId) (m : Nat) (F : Nat → Value) : Prop := ∃ xs, Blk w b xs T ∧ xs.size = m ∧ ∀ i, i < m → xs[i]? = some (F i)
section
variable {w w' : World} {b m : Nat} {T : TypeId} {F : Nat → Value}
theorem ABlk.cell (h : ABlk w b T m F) (i : Nat) (hi : i < m) : w.cell? ⟨b, i, none⟩ = some (F i) := by obtain ⟨xs, h1, _, h3⟩ := h; exact h1.cell i _ (h3 i hi)
theorem ABlk.free (h : ABlk w b T m F) (i : Nat) : w.frozen? ⟨b, i, none⟩ = false := by obtain ⟨xs, h1, _, _⟩ := h; exact h1.free i
theorem ABlk.lt (h : ABlk w b T m F) : b < w.heap.size := by obtain ⟨xs, h1, _, _⟩ := h; exact h1.lt
theorem ABlk.keep {row : Option Nat} (h : ABlk w b T m F) (g : w.grownBy w' row) (hne : some b ≠ row) : ABlk w' b T m F := by obtain ⟨xs, h1, h2, h3⟩ := h; exact ⟨xs, h1.keep g hne, h2, h3⟩
theorem ABlk.keepn (h : ABlk w b T m F) (g : w.grownBy w' none) : ABlk w' b T m F := h.keep g (by simp)
theorem ABlk.keeps {c : Nat} (h : ABlk w b T m F) (g : w.grownBy w' (some c)) (hne : b ≠ c) : ABlk w' b T m F := h.keep g (by simpa using hne)
theorem ABlk.set (h : ABlk w b T m F) (t : Nat) (v : Value) : ABlk (w.setCell ⟨b, t, none⟩ v) b T m (fun i => if i = t then v else F i) := by
  obtain ⟨xs, h1, h2, h3⟩ := h
  refine ⟨_, h1.set t v, by simpa using h2, fun i hi => ?_⟩
  have hx := h3 i hi
  by_cases e : i = t
  · subst e
    have : i < xs.size := by omega
    simp [this]
  · rw [Array.getElem?_setIfInBounds_ne (Ne.symm e)]
    simp [e, hx]
theorem ABlk.congr {G : Nat → Value} (h : ABlk w b T m F) (e : ∀ i, i < m → F i = G i) : ABlk w b T m G := by
  obtain ⟨xs, h1, h2, h3⟩ := h
  exact ⟨xs, h1, h2, fun i hi => by rw [← e i hi]; exact h3 i hi⟩
theorem ABlk.of {xs : Array Value} (h : Blk w b xs T) (hm : xs.size = m) (hF : ∀ i, i < m → xs[i]? = some (F i)) : ABlk w b T m F := ⟨xs, h, hm, hF⟩
end

/-- WHAT A SLICE THAT CAME IN LEADS TO: of each of its elements the k cells, of which Q holds. -/
def Vec (w : World) (ao : Option Addr) (len cap k : Nat) (Q : List Value → Prop) : Prop :=
  len ≤ cap ∧ cap ≤ maxLen ∧ ∀ i, i < len → ∃ b off cs, ao = some ⟨b, off, none⟩ ∧ cs.length = k ∧ Q cs ∧ ∀ j v, cs[j]? = some v → w.cell? ⟨b, off + (i * k + j), none⟩ = some v
section
open Go.Deep
variable {H : Type} {enc : TypeId × Value → H} {P : Program} {w : World}
theorem vec_of {t e k len cap : Nat} {ao : Option Addr} {d : DataW H} {ps : List MemPlace} (Q : List Value → Prop) (ht : P.underlying t = some (.slice e)) (hc : P.cellsOf e = k) (hk : 0 < k)
    (hQ : ∀ fuel cs x, DataW.trod enc P w 0 (fun _ => true) true fuel e cs = some x → Q cs)
    (h : DataW.Trod enc P w 0 (fun _ => true) true t (.slice ao len cap) d ps) : Vec w ao len cap k Q := by
  obtain ⟨fuel, h⟩ := h
  simp only [Value.cells, List.toList_toArray] at h
  rcases open_slice ht h with ⟨h1, h2⟩ | ⟨a, len', cap', m, n, D, Pl, h1, h2, hl, hm, hmm, h3, h4⟩
  · simp at h1
    obtain ⟨rfl, rfl, rfl⟩ := h1
    exact ⟨Nat.le_refl _, Nat.zero_le _, fun i hi => absurd hi (Nat.not_lt_zero _)⟩
  · simp at h1
    obtain ⟨rfl, rfl, rfl⟩ := h1
    refine ⟨hl, hm, fun i hi => ?_⟩
    obtain ⟨cs, hcs, ht'⟩ := h4 i (by simp at hmm; omega)
    obtain ⟨_, hlen, hcell⟩ := World.cells?_some hcs
    rw [hc] at hlen hcell
    have hs : a.spot = none := by
      obtain ⟨cs', hcs', _⟩ := h4 0 (by simp at hmm; omega)
      obtain ⟨_, hlen', hcell'⟩ := World.cells?_some hcs'
      rw [hc] at hlen' hcell'
      have h0 := hcell' 0 hk
      have hcs0 : cs'[0]? = some cs'[0] := List.getElem?_eq_getElem (by omega)
      rw [hcs0] at h0
      simpa [Addr.add] using World.cell?_spot h0
    obtain ⟨b, off, sp⟩ := a
    simp only at hs
    subst hs
    refine ⟨b, off, cs, rfl, hlen, hQ _ _ _ ht', fun j v hv => ?_⟩
    have hj : j < k := by rw [← hlen]; exact (List.getElem?_eq_some_iff.1 hv).1
    have := hcell j hj
    rw [hv] at this
    simpa [Addr.add_lit, Nat.add_assoc] using this

/-- a cell of a vector's element -/
theorem Vec.at1 {w : World} {ao : Option Addr} {len cap : Nat} {Q : List Value → Prop} (h : Vec w ao len cap 1 Q) (i : Nat) (hi : i < len) :
    ∃ b off v, ao = some ⟨b, off, none⟩ ∧ Q [v] ∧ w.cell? ⟨b, off + i, none⟩ = some v := by
  obtain ⟨b, off, cs, h1, h2, h3, h4⟩ := h.2.2 i hi
  match cs, h2 with
  | [v], _ =>
    exact ⟨b, off, v, h1, h3, by simpa using h4 0 v rfl⟩
end

/-- an element's cells, where nothing that was there has turned -/
theorem vec_cell {w wr : World} (hb : Below w.heap.size w wr) {b off i k : Nat} {cs : List Value} (hcell : ∀ j v, cs[j]? = some v → w.cell? ⟨b, off + (i * k + j), none⟩ = some v) :
    ∀ j v, cs[j]? = some v → wr.cell? ⟨b, off + i * k + j, none⟩ = some v := fun j v hj => by
  have h := hcell j v hj
  rw [← Nat.add_assoc] at h
  exact (hb.cell (World.block_lt_of_cell? _ _ h)).trans h

/-- WHAT MAY HAVE CHANGED: of the blocks that were there, those of S alone. -/
structure Tr (S : Nat → Prop) (w w' : World) : Prop where
  os : w'.os = w.os
  tape : w'.tape = w.tape
  output : w'.output = w.output
  size : w.heap.size ≤ w'.heap.size
  block : ∀ i, i < w.heap.size → ¬ S i → w'.heap[i]? = w.heap[i]?
section
variable {S S' : Nat → Prop} {a w w' : World}
theorem tr_refl (S : Nat → Prop) (w : World) : Tr S w w := ⟨rfl, rfl, rfl, Nat.le_refl _, fun _ _ _ => rfl⟩
/-- old blocks of the second's set lie in the first's -/
theorem tr_trans (h : Tr S a w) (k : Tr S' w w') (hs : ∀ i, i < a.heap.size → S' i → S i) : Tr S a w' :=
  ⟨k.os.trans h.os, k.tape.trans h.tape, k.output.trans h.output, Nat.le_trans h.size k.size,
    fun i hi hn => (k.block i (Nat.lt_of_lt_of_le hi h.size) (fun hh => hn (hs i hi hh))).trans (h.block i hi hn)⟩
theorem tr_mono (h : Tr S w w') (hs : ∀ i, i < w.heap.size → S i → S' i) : Tr S' w w' :=
  ⟨h.os, h.tape, h.output, h.size, fun i hi hn => h.block i hi (fun hh => hn (hs i hi hh))⟩
theorem tr_g (g : w.grownBy w' none) (S : Nat → Prop) : Tr S w w' := ⟨g.os, g.tape, g.output, g.size, fun i hi _ => g.block i hi (by simp)⟩
theorem tr_gs {g : Nat} (k : w.grownBy w' (some g)) (hs : g < w.heap.size → S g) : Tr S w w' :=
  ⟨k.os, k.tape, k.output, k.size, fun i hi hn => k.block i hi (fun e => hn (by cases e; exact hs hi))⟩
theorem tr_row {row : Option Nat} (k : w.grownBy w' row) (hs : ∀ g, row = some g → g < w.heap.size → S g) : Tr S w w' :=
  ⟨k.os, k.tape, k.output, k.size, fun i hi hn => k.block i hi (fun e => hn (hs i e.symm hi))⟩
theorem tr_then (h : Tr S a w) (k : w.grownBy w' none) : Tr S a w' := tr_trans h (tr_g k S) (fun _ _ hh => hh)
theorem tr_thens {g : Nat} (h : Tr S a w) (k : w.grownBy w' (some g)) (hs : g < a.heap.size → S g) : Tr S a w' :=
  tr_trans h (tr_gs (S := fun i => i = g) k (fun _ => rfl)) (fun i hi e => by subst e; exact hs hi)
theorem Tr.g (h : Tr S w w') (hs : ∀ i, i < w.heap.size → ¬ S i) : w.grownBy w' none := ⟨h.os, h.tape, h.output, h.size, fun i hi _ => h.block i hi (hs i hi)⟩
theorem Tr.gs {g : Nat} (h : Tr S w w') (hs : ∀ i, i < w.heap.size → S i → i = g) : w.grownBy w' (some g) :=
  ⟨h.os, h.tape, h.output, h.size, fun i hi hne => h.block i hi (fun e => hne (by rw [hs i hi e]))⟩
theorem Tr.below {B : Nat} (h : Below B a w) (k : Tr S w w') (hB : B ≤ w.heap.size) (hs : ∀ i, i < B → ¬ S i) : Below B a w' :=
  ⟨k.os.trans h.os, k.tape.trans h.tape, k.output.trans h.output, Nat.le_trans h.size k.size, fun i hi => (k.block i (by omega) (hs i hi)).trans (h.block i hi)⟩
theorem Tr.cell (h : Tr S w w') {b o : Nat} {v : Value} (hc : w.cell? ⟨b, o, none⟩ = some v) (hs : ¬ S b) : w'.cell? ⟨b, o, none⟩ = some v := by
  have hb : b < w.heap.size := World.block_lt_of_cell? _ _ hc
  exact (World.cell?_of_block (a := ⟨b, o, none⟩) (h.block b hb hs)).trans hc
theorem Tr.blk (h : Tr S w w') {b : Nat} {xs : Array Value} {T : TypeId} (hb : Blk w b xs T) (hs : ¬ S b) : Blk w' b xs T := (h.block b hb.lt hs).trans hb
theorem Tr.own (h : Tr S w w') {base : Nat} {e : TypeId} {size n : Nat} {v : Value} {xs : List Value} (ho : w.ownsRow base e size v n xs) (hs : ∀ g, v.ownBlock = some g → ¬ S g) : w'.ownsRow base e size v n xs := by
  refine ⟨ho.1, ?_⟩
  rcases ho.2 with hn | ⟨g, cap, cur, rfl, hb, hgg, rest⟩
  · exact .inl hn
  · exact .inr ⟨g, cap, cur, rfl, hb, (h.block g (Array.getElem?_eq_some_iff.1 hgg).1 (hs g rfl)).trans hgg, rest⟩
end
theorem own_lt {w : World} {base : Nat} {e : TypeId} {size n : Nat} {v : Value} {xs : List Value} (ho : w.ownsRow base e size v n xs) {g : Nat} (hg : v.ownBlock = some g) : base ≤ g ∧ g < w.heap.size := ho.lt g hg

end Go.Proofs.Ytkkcfielmpjgeaa
