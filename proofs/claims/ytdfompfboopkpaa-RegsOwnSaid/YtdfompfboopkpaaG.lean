/- Rows of registers. -/
import Derived.Test.YtdfompfboopkpaaE
import Derived.Test.YtdfompfboopkpaaF
import Derived.Deep.MidRow
import Derived.ChangeKeysEq
namespace Go.Proofs.Ytdfompfboopkpaa
open Go.RowKit
set_option linter.unusedVariables false

def rgv (F : Nat → Int) : Array Value := #[.int .i64 (F 0), .int .i64 (F 1), .int .i64 (F 2), .int .i64 (F 3), .int .i64 (F 4), .int .i64 (F 5), .int .i64 (F 6), .int .i64 (F 7), .int .i64 (F 8), .int .i64 (F 9), .int .i64 (F 10), .int .i64 (F 11), .int .i64 (F 12), .int .i64 (F 13), .int .i64 (F 14), .int .i64 (F 15)]
theorem eight {i : Nat} (hi : i < 8) : i = 0 ∨ i = 1 ∨ i = 2 ∨ i = 3 ∨ i = 4 ∨ i = 5 ∨ i = 6 ∨ i = 7 := by omega
theorem rgv_size (F : Nat → Int) : (rgv F).size = 16 := rfl
theorem rgv_get (F : Nat → Int) {i : Nat} (hi : i < 16) : (rgv F)[i]? = some (.int .i64 (F i)) := by
  rcases (by omega : i = 0 ∨ i = 1 ∨ i = 2 ∨ i = 3 ∨ i = 4 ∨ i = 5 ∨ i = 6 ∨ i = 7 ∨ i = 8 ∨ i = 9 ∨ i = 10 ∨ i = 11 ∨ i = 12 ∨ i = 13 ∨ i = 14 ∨ i = 15) with h | h | h | h | h | h | h | h | h | h | h | h | h | h | h | h <;> subst h <;> rfl
theorem rgv_one (F : Nat → Int) : (rgv F).all (·.oneCell') = true := by kernel_rfl
theorem rgv_congr {F G : Nat → Int} (h : ∀ i, i < 16 → F i = G i) : rgv F = rgv G := by
  apply Array.ext'
  simp only [rgv]
  rw [h 0 (by decide), h 1 (by decide), h 2 (by decide), h 3 (by decide), h 4 (by decide), h 5 (by decide), h 6 (by decide), h 7 (by decide), h 8 (by decide), h 9 (by decide), h 10 (by decide), h 11 (by decide), h 12 (by decide), h 13 (by decide), h 14 (by decide), h 15 (by decide)]
/-- registers, one of which has another value -/
def upd (F : Nat → Int) (i : Nat) (k n : Int) : Nat → Int := fun j => if j = 2 * i then k else if j = 2 * i + 1 then n else F j
theorem rgv_set (F : Nat → Int) {i : Nat} (hi : i < 8) (k n : Int) : ((rgv F).setIfInBounds (i * 2) (.int .i64 k)).setIfInBounds (i * 2 + 1) (.int .i64 n) = rgv (upd F i k n) := by
  rcases eight hi with h | h | h | h | h | h | h | h <;> subst h <;> rfl
/-- the value of a register -/
def rK (F : Nat → Int) (i : Int) : Int := F (i.toNat * 2)
def rN (F : Nat → Int) (i : Int) : Int := F (i.toNat * 2 + 1)
theorem info25 : (Try.prog.info? 25).map (·.size) = some 16 := by kernel_rfl
/-- are two rows the same? -/
def eqR (F G : Nat → Int) : Bool := (List.range 8).all fun i => F (i * 2) == G (i * 2) && F (i * 2 + 1) == G (i * 2 + 1)
theorem eqR_self (F : Nat → Int) : eqR F F = true := by simp [eqR]
theorem eqR_iff {F G : Nat → Int} : eqR F G = true ↔ ∀ i, i < 16 → F i = G i := by
  simp only [eqR, List.all_eq_true, List.mem_range, Bool.and_eq_true, beq_iff_eq]
  constructor
  · intro h i hi
    have := h (i / 2) (by omega)
    rcases Nat.mod_two_eq_zero_or_one i with e | e
    · have : i = i / 2 * 2 := by omega
      rw [this]; exact (h (i / 2) (by omega)).1
    · have : i = i / 2 * 2 + 1 := by omega
      rw [this]; exact (h (i / 2) (by omega)).2
  · intro h i hi
    exact ⟨h _ (by omega), h _ (by omega)⟩
theorem part24 (F : Nat → Int) {i : Nat} (hi : i < 8) (w : World) : (part 24 (rgv F) (i * 2)).run Try.prog w = .ok (.agg #[.int .i64 (F (i * 2)), .int .i64 (F (i * 2 + 1))]) w := by
  rcases eight hi with h | h | h | h | h | h | h | h <;> subst h <;> rfl
theorem eq24 (d : Nat) (a b c e : Int) (w : World) : (Op.equalIn (d + 2) 24 (.agg #[.int .i64 a, .int .i64 b]) (.agg #[.int .i64 c, .int .i64 e])).run Try.prog w = .ok (a == c && b == e) w := by
  rw [run_equalIn_struct w (d + 1) 24 _ _ (by kernel_rfl) (by kernel_rfl)]
  simp [Program.fieldsOf, Op.eqFields, go_sem]
  by_cases h1 : a = c <;> by_cases h2 : b = e <;> simp [h1, h2]
theorem items25 (d : Nat) (F G : Nat → Int) (w : World) : ∀ (is : List Nat), (∀ i ∈ is, i < 8) → (Op.eqItems (d + 2) 24 2 (rgv F) (rgv G) is).run Try.prog w = .ok (is.all fun i => F (i * 2) == G (i * 2) && F (i * 2 + 1) == G (i * 2 + 1)) w
  | [], _ => by simp [Op.eqItems]
  | i :: is, h => by
    have hi := h i (by simp)
    have ih := items25 d F G w is (fun j hj => h j (by simp [hj]))
    simp only [Op.eqItems, Sem.run_bind, part24 F hi, part24 G hi, Result.andThen_ok, eq24, List.all_cons]
    cases hb : (F (i * 2) == G (i * 2) && F (i * 2 + 1) == G (i * 2 + 1)) with
    | false => simp
    | true => simpa using ih
theorem eq25 (F G : Nat → Int) (w : World) : (Op.equalIn 10000 25 (.agg (rgv F)) (.agg (rgv G))).run Try.prog w = .ok (eqR F G) w := by
  obtain ⟨i, hi⟩ := Option.isSome_iff_exists.1 (by kernel_rfl : (Try.prog.info? 24).isSome = true)
  rw [show (10000 : Nat) = 9999 + 1 from rfl, run_equalIn_array w 9999 (n := 8) _ _ Try.underlying25 hi, show Try.prog.cellsOf 24 = 2 from by kernel_rfl]
  exact items25 9997 F G w _ (fun i h => by simpa using h)

theorem Blk.range {w : World} {b : Nat} {xs : Array Value} {T : TypeId} (h : Blk w b xs T) : w.rangeAt b 0 xs.toList := fun j v hv => by
  rw [Nat.zero_add]; exact h.cell j v (by simpa using hv)
theorem Blk.there {w : World} {b : Nat} {xs : Array Value} {T : TypeId} (h : Blk w b xs T) : w.there b 0 xs.size := fun j hj => by
  rw [Nat.zero_add, h.cell j xs[j] (by simp [hj])]; exact ⟨rfl, h.free j⟩
theorem blk_setCells {b : Nat} {T : TypeId} : ∀ (vs : List Value) (o : Nat) (w : World) (xs : Array Value), Blk w b xs T → o + vs.length ≤ xs.size →
    ∃ ys, Blk (w.setCells b o vs) b ys T ∧ ys.size = xs.size ∧ (∀ i, i < o → ys[i]? = xs[i]?) ∧ (∀ j v, vs[j]? = some v → ys[o + j]? = some v)
  | [], o, w, xs, h, _ => ⟨xs, h, rfl, fun _ _ => rfl, fun j v hv => by simp at hv⟩
  | v :: r, o, w, xs, h, hs => by
    rw [World.setCells]
    simp only [List.length_cons] at hs
    obtain ⟨ys, h1, h2, h3, h4⟩ := blk_setCells r (o + 1) _ _ (h.set o v) (by simp; omega)
    refine ⟨ys, h1, by simpa using h2, fun i hi => ?_, fun j u hu => ?_⟩
    · rw [h3 i (by omega), Array.getElem?_setIfInBounds_ne (by omega)]
    · cases j with
      | zero =>
        simp at hu
        subst hu
        rw [Nat.add_zero, h3 o (by omega)]
        have : o < xs.size := by omega
        simp [this]
      | succ j =>
        have := h4 j u (by simpa using hu)
        rw [← this]; congr 1; omega
theorem Blk.setAll {w : World} {b : Nat} {xs : Array Value} {T : TypeId} (h : Blk w b xs T) (zs : Array Value) (hz : zs.size = xs.size) : Blk (w.setCells b 0 zs.toList) b zs T := by
  obtain ⟨ys, h1, h2, _, h4⟩ := blk_setCells zs.toList 0 w xs h (by simp [hz])
  have : ys = zs := by
    apply Array.ext (by omega)
    intro i hi hi'
    have := h4 i zs[i] (by simp [hi'])
    rw [Nat.zero_add] at this
    exact (Array.getElem?_eq_some_iff.1 this).2
  rw [← this]
  rw [this] at h1
  subst this
  exact h1
theorem blk_setCells_other {b c : Nat} {xs : Array Value} {T : TypeId} (hne : b ≠ c) : ∀ (vs : List Value) (o : Nat) (w : World), Blk w b xs T → Blk (w.setCells c o vs) b xs T
  | [], _, _, h => h
  | v :: r, o, w, h => by
    rw [World.setCells]
    exact blk_setCells_other hne r (o + 1) _ (h.keeps (g_set (g_refl w (some c)) (p := ⟨c, o, none⟩) (.inl rfl) v) hne)
theorem res25 {fn : Func} {p : Tmp} (h : fn.results = #[.cell p 25]) (tmps : Array Value) (w : World) (g : Nat) (F : Nat → Int) (hp : tmps.getD p undef = .pointer (some ⟨g, 0, none⟩)) (hb : Blk w g (rgv F) 25) :
    (results fn tmps).run Try.prog w = .ok (.agg (rgv F)) w := by
  have hl := run_loadVar_mid (P := Try.prog) w g 0 25 (rgv F).toList _ hb.range Try.underlying25 rfl info25
  rw [Array.toArray_toList] at hl
  have hp' : tmps[p]?.getD undef = .pointer (some ⟨g, 0, none⟩) := by simpa using hp
  simp [results, h, hp', asAddr, hl]
theorem step_store2 {P : Program} {w : World} {ops : Array Oper} {o : Oper} {a : Act} {K : Act → World → Prop} {Q : Exit → Act → World → Prop} {E : Prop} (hgd : o.guard = none) (ty : TypeId) (x y : Operand) (ho : o.op = .store ty x y)
    (b : Nat) (T : TypeId) (k n : Value) (hx : a.eval x = .pointer (some ⟨b, 0, none⟩)) (hy : a.eval y = .agg #[k, n]) (hk : k.oneCell' = true) (hn : n.oneCell' = true) (hi : (P.info? ty).map (·.size) = some 2)
    {R1 R2 : Prop} (hS : R1 ∧ (∃ X, X.size = 2 ∧ Blk w b X T) ∧ R2)
    (h : ∀ w', Blk w' b #[k, n] T → w.grownBy w' (some b) → K (a.put o.dst undef) w') :
    if Region.wanted o (yielded ops a.tmps) = true then Oper.wp P o a w K Q else E := by
  have hw : Region.wanted o (yielded ops a.tmps) = true := by simp [Region.wanted, hgd]
  rw [if_pos hw]
  obtain ⟨_, ⟨X, hX, hb⟩, _⟩ := hS
  have ht : w.there b 0 (#[k, n] : Array Value).size := by
    have := hb.there
    rw [hX] at this
    exact this
  refine wp_store_mid ty x y ho b 0 #[k, n] hx hy ht hi (by simp [hk, hn]) (h _ (hb.setAll #[k, n] (by simp [hX])) ?_)
  have gg : ∀ (vs : List Value) (o : Nat) (w' : World), w.grownBy w' (some b) → w.grownBy (w'.setCells b o vs) (some b) := by
    intro vs
    induction vs with
    | nil => intro o w' h; exact h
    | cons v r ih => intro o w' h; rw [World.setCells]; exact ih _ _ (g_set h (p := ⟨b, o, none⟩) (.inl rfl) v)
  exact gg _ 0 w (g_refl w _)
/-- what a cell holds, whatever that is -/
def cv (w : World) (a : Addr) : Value := (w.cell? a).getD undef
theorem cv_eq {w : World} {b : Nat} {X : Array Value} {T : TypeId} (h : Blk w b X T) {i : Nat} (hi : i < X.size) : w.cell? ⟨b, i, none⟩ = some (cv w ⟨b, i, none⟩) := by
  have := h.cell i X[i] (by simp [hi])
  unfold cv
  rw [this]
  rfl
end Go.Proofs.Ytdfompfboopkpaa
