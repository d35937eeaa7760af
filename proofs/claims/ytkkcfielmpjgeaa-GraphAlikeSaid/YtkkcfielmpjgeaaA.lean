/- Objects and values in memory; maps keyed by values. -/
import Derived.Test.YtkkcfielmpjgeaaBase
import Derived.Carry
import Derived.Maps.Own
import Derived.Maps.OwnOps
import Derived.Maps.OwnSet
import Derived.Maps.Views
import Derived.DeepKeys4
import Derived.Deep.RegionHeld3
import Derived.Deep.RegionLaw
import Derived.Deep.AppendLies
import Derived.Deep.DeepCutAuto
import Derived.Deep.CutBlock
namespace Go.Proofs.Ytkkcfielmpjgeaa
open Go.RowKit
set_option linter.unusedVariables false
set_option linter.unusedSimpArgs false

/-- the cells of a row of entries -/
def scl (L : List (Int × Int)) : List Value := L.flatMap fun p => [.int .i64 p.1, .int .i64 p.2]
theorem scl_nil : scl [] = [] := rfl
theorem scl_cons (p : Int × Int) (L : List (Int × Int)) : scl (p :: L) = .int .i64 p.1 :: .int .i64 p.2 :: scl L := rfl
theorem scl_append (L M : List (Int × Int)) : scl (L ++ M) = scl L ++ scl M := by simp [scl]
theorem scl_length (L : List (Int × Int)) : (scl L).length = L.length * 2 := by
  induction L with
  | nil => rfl
  | cons p L ih => rw [scl_cons, List.length_cons, List.length_cons, List.length_cons, ih]; omega
theorem scl_at (L : List (Int × Int)) : ∀ i p, L[i]? = some p → (scl L)[i * 2]? = some (.int .i64 p.1) ∧ (scl L)[i * 2 + 1]? = some (.int .i64 p.2) := by
  induction L with
  | nil => intro i p h; simp at h
  | cons q L ih =>
    intro i p h
    cases i with
    | zero => simp at h; subst h; simp [scl_cons]
    | succ i =>
      simp at h
      have := ih i p h
      rw [scl_cons, show (i + 1) * 2 = i * 2 + 1 + 1 by omega]
      simpa using this
theorem scl_take (L : List (Int × Int)) (n : Nat) : scl (L.take n) = (scl L).take (n * 2) := by
  induction L generalizing n with
  | nil => simp [scl]
  | cons q L ih =>
    cases n with
    | zero => simp [scl]
    | succ n => rw [List.take_succ_cons, scl_cons, scl_cons, show (n + 1) * 2 = n * 2 + 1 + 1 by omega]; simp [ih]

/-- a row of entries, of any slice -/
def SRow (w : World) (ao : Option Addr) (L : List (Int × Int)) : Prop :=
  ∀ i p, L[i]? = some p → ∃ b off, ao = some ⟨b, off, none⟩ ∧ w.cell? ⟨b, off + i * 2, none⟩ = some (.int .i64 p.1) ∧ w.cell? ⟨b, off + i * 2 + 1, none⟩ = some (.int .i64 p.2)
theorem SRow.keep {w w' : World} {ao : Option Addr} {L : List (Int × Int)} (h : SRow w ao L) (g : w.grownBy w' none) : SRow w' ao L := fun i p hi => by
  obtain ⟨b, off, h1, h2, h3⟩ := h i p hi
  exact ⟨b, off, h1, g.cell h2 (by simp), g.cell h3 (by simp)⟩
theorem SRow.keeps {w w' : World} {ao : Option Addr} {L : List (Int × Int)} {g : Nat} (h : SRow w ao L) (k : w.grownBy w' (some g)) (hne : ∀ a, ao = some a → a.block ≠ g) : SRow w' ao L := fun i p hi => by
  obtain ⟨b, off, h1, h2, h3⟩ := h i p hi
  have := hne _ h1
  exact ⟨b, off, h1, k.cell h2 (by simpa using this), k.cell h3 (by simpa using this)⟩
/-- a row of one's own, of elements of type T -/
theorem srow_of_own {w : World} {base : Nat} {T : TypeId} {v : Value} {n : Nat} {L : List (Int × Int)} (h : w.ownsRow base T 2 v n (scl L)) :
    ∃ ao c, v = .slice ao n c ∧ SRow w ao L ∧ ∀ a, ao = some a → base ≤ a.block ∧ a.block < w.heap.size := by
  have hc := fun g hg => h.cells (g := g) hg
  have hl := h.1
  rw [scl_length] at hl
  rcases h.2 with ⟨rfl, rfl⟩ | ⟨g, cap, cur, rfl, hb, hh, _⟩
  · refine ⟨none, 0, rfl, fun i p hi => ?_, fun a h => by cases h⟩
    have : i < L.length := (List.getElem?_eq_some_iff.1 hi).1
    omega
  · refine ⟨_, _, rfl, fun i p hi => ⟨g, 0, rfl, ?_, ?_⟩, fun a h => by cases h; exact ⟨hb, (Array.getElem?_eq_some_iff.1 hh).1⟩⟩
    · have := hc g rfl (i * 2) _ (scl_at L i p hi).1
      simpa [Addr.add_lit] using this
    · have := hc g rfl (i * 2 + 1) _ (scl_at L i p hi).2
      simpa [Addr.add_lit, Nat.add_assoc] using this
theorem len_own {w : World} {B : Nat} {T : TypeId} {c n : Nat} {ao : Option Addr} {xs : List Value} {s : Nat} (h : w.ownsRow B T s (.slice ao n c) n xs) : n ≤ c ∧ c ≤ 9223372036854775807 := by
  rcases h.2 with ⟨e, rfl⟩ | ⟨g, cap, cur, e, hb, hh, h1, h2, h3, h4⟩
  · cases e; omega
  · cases e; unfold maxLen at h2; omega


theorem SRow.below {w w' : World} {ao : Option Addr} {L : List (Int × Int)} (h : SRow w ao L) (hb : Below w.heap.size w w') : SRow w' ao L := h.keep ⟨hb.os, hb.tape, hb.output, hb.size, fun i hi _ => hb.block i hi⟩
theorem SRow.bel {w w' : World} {ao : Option Addr} {L : List (Int × Int)} {B : Nat} (h : SRow w ao L) (hb : Below B w w') (ha : ∀ a, ao = some a → L ≠ [] → a.block < B) : SRow w' ao L := fun i p hi => by
  obtain ⟨b, off, rfl, h1, h2⟩ := h i p hi
  have hx := ha _ rfl (fun e => by rw [e] at hi; cases hi)
  exact ⟨b, off, rfl, (hb.cell (p := ⟨b, off + i * 2, none⟩) hx).trans h1, (hb.cell (p := ⟨b, off + i * 2 + 1, none⟩) hx).trans h2⟩
abbrev VV := Int × Int
def WV (v : VV) : Prop := (Lit.int .i64 v.1).wf = true ∧ (Lit.int .i64 v.2).wf = true
structure OB where
  ref : VV
  (gen fields mask state owner : Int)
  F : List VV
deriving DecidableEq
def WO (o : OB) : Prop := WV o.ref ∧ ∀ f ∈ o.F, WV f

theorem laidOut0 : laidOutB Try.prog = true := by kernel_rfl
theorem row25 : (25 : TypeId) < Try.prog.types.size := of_decide_eq_true (by kernel_rfl)
theorem wide25 : (match Try.prog.underlying 25 with | some (.array _ _) | some (.struct _) => true | _ => false) = true := by rw [Try.underlying25]
open Go.WideMaps in
theorem law25 : KeyLaw Try.prog 25 := deep_law_laid laidOut0 (m := 3) (by omega) row25 (by kernel_rfl) wide25
theorem keyed25 : Maps.Keyed Try.prog 25 := Maps.Keyed.of_law law25
/-- what a value reads as, as a key -/
def kl (v : VV) : Lit := .string (keyBytes [.int .i64 v.1, .int .i64 v.2])
theorem key25 (v : VV) (h : WV v) : keyOf Try.prog 25 (.agg #[.int .i64 v.1, .int .i64 v.2]) = some (kl v) := by
  unfold keyOf
  simp only [Try.underlying25]
  have hk : Try.prog.keyType 25 = true := by kernel_rfl
  have hc : Try.prog.cellsOf 25 = 2 := by kernel_rfl
  have hc1 : Try.prog.cellsOf 23 = 1 := by kernel_rfl
  have hc2 : Try.prog.cellsOf 3 = 1 := by kernel_rfl
  obtain ⟨m, hm⟩ : ∃ m, Try.prog.types.size + 1 = m + 2 := ⟨Try.prog.types.size - 1, by have h9 : (25 : Nat) < Try.prog.types.size := row25; omega⟩
  rw [if_pos (by simp [Value.formed, Try.underlying25, hk, hc]), hm]
  simp [Program.keyLits, Try.underlying25, Try.underlying23, Try.underlying3, Value.cells, hc, hc1, hc2, h.1, h.2, kl]
theorem kl_inj {a b : VV} (ha : WV a) (hb : WV b) (h : kl a = kl b) : a = b := by
  have e := keyed25.inj (key25 a ha) (by rw [key25 b hb, h])
  simp at e
  exact Prod.ext e.1 e.2
theorem kl_ne {a b : VV} (ha : WV a) (hb : WV b) (h : a ≠ b) : kl a ≠ kl b := fun e => h (kl_inj ha hb e)

/-- a row of objects, all of it below B -/
def ORow (w : World) (B : Nat) (ao : Option Addr) (Ls : List OB) : Prop :=
  ∀ i o, Ls[i]? = some o → ∃ b off fa fc, ao = some ⟨b, off, none⟩ ∧ b < B ∧ w.cell? ⟨b, off + i * 8, none⟩ = some (.int .i64 o.ref.1) ∧ w.cell? ⟨b, off + i * 8 + 1, none⟩ = some (.int .i64 o.ref.2) ∧
    w.cell? ⟨b, off + i * 8 + 2, none⟩ = some (.int .i64 o.gen) ∧ w.cell? ⟨b, off + i * 8 + 3, none⟩ = some (.int .i64 o.fields) ∧ w.cell? ⟨b, off + i * 8 + 4, none⟩ = some (.int .i64 o.mask) ∧ w.cell? ⟨b, off + i * 8 + 5, none⟩ = some (.int .i64 o.state) ∧
    w.cell? ⟨b, off + i * 8 + 6, none⟩ = some (.int .i64 o.owner) ∧ w.cell? ⟨b, off + i * 8 + 7, none⟩ = some (.slice fa o.F.length fc) ∧ SRow w fa o.F ∧ (∀ a, fa = some a → o.F ≠ [] → a.block < B) ∧ o.F.length ≤ fc ∧ fc ≤ 9223372036854775807 ∧ (fa = none → o.F = [])
theorem ORow.bel {w w' : World} {B : Nat} {ao : Option Addr} {Ls : List OB} (h : ORow w B ao Ls) (hb : Below B w w') : ORow w' B ao Ls := fun i o hi => by
  obtain ⟨b, off, fa, fc, rfl, hlt, h0, h1, h2, h3, h4, h5, h6, h7, h8, h9, h10, h11, h12⟩ := h i o hi
  exact ⟨b, off, fa, fc, rfl, hlt, (hb.cell (p := ⟨b, off + i * 8, none⟩) hlt).trans h0, (hb.cell (p := ⟨b, off + i * 8 + 1, none⟩) hlt).trans h1, (hb.cell (p := ⟨b, off + i * 8 + 2, none⟩) hlt).trans h2, (hb.cell (p := ⟨b, off + i * 8 + 3, none⟩) hlt).trans h3, (hb.cell (p := ⟨b, off + i * 8 + 4, none⟩) hlt).trans h4, (hb.cell (p := ⟨b, off + i * 8 + 5, none⟩) hlt).trans h5, (hb.cell (p := ⟨b, off + i * 8 + 6, none⟩) hlt).trans h6, (hb.cell (p := ⟨b, off + i * 8 + 7, none⟩) hlt).trans h7, h8.bel hb h9, h9, h10, h11, h12⟩
theorem ORow.mono {w : World} {B B' : Nat} {ao : Option Addr} {Ls : List OB} (h : ORow w B ao Ls) (hB : B ≤ B') : ORow w B' ao Ls := fun i o hi => by
  obtain ⟨b, off, fa, fc, rfl, hlt, h0, h1, h2, h3, h4, h5, h6, h7, h8, h9, h10⟩ := h i o hi
  exact ⟨b, off, fa, fc, rfl, by omega, h0, h1, h2, h3, h4, h5, h6, h7, h8, fun a e hn => by have := h9 a e hn; omega, h10⟩
theorem bel_g {w w' : World} {B : Nat} (g : w.grownBy w' none) (hB : B ≤ w.heap.size) : Below B w w' := below_gn (Below.refl B w) g hB
theorem bel_gs {w w' : World} {B m : Nat} (g : w.grownBy w' (some m)) (hB : B ≤ w.heap.size) (hm : B ≤ m) : Below B w w' := below_gs (Below.refl B w) g hB hm

theorem zv3 (w : World) : (zeroValue 3).run Try.prog w = .ok (.int .i64 0) w := by kernel_rfl
theorem zv66 (w : World) : (zeroValue 66).run Try.prog w = .ok (.agg #[]) w := by kernel_rfl
/-- block m is a map from values to numbers -/
def IMap (w : World) (m N : Nat) (f : VV → Option Int) : Prop :=
  ∃ n D, w.ownsMap Try.prog 25 (plainElem (H := Unit) Try.prog 3) m n D ∧ n ≤ N ∧ ∀ v, WV v → Maps.has D (kl v) = (f v).isSome ∧ D.atKey (kl v) (.lit (.int .i64 0)) = .lit (.int .i64 ((f v).getD 0))
theorem IMap.keep {w w' : World} {m N : Nat} {f : VV → Option Int} {row : Option Nat} (h : IMap w m N f) (g : w.grownBy w' row) (hne : some m ≠ row) : IMap w' m N f := by
  obtain ⟨n, D, h1, h2⟩ := h
  exact ⟨n, D, h1.kept g hne, h2⟩
theorem lit_inj {a b : Int} (h : (DataW.lit (.int .i64 a) : DataW Unit) = .lit (.int .i64 b)) : a = b := by simpa using h
theorem IMap.look {w : World} {m N : Nat} {f : VV → Option Int} (h : IMap w m N f) (v : VV) (hv : WV v) :
    (Instr.lookup 48 (.map (some m)) (.agg #[.int .i64 v.1, .int .i64 v.2]) true).run Try.prog w = .ok (.tuple #[.int .i64 ((f v).getD 0), .bool (f v).isSome]) w := by
  obtain ⟨n, D, h1, h2, h3⟩ := h
  obtain ⟨x, ps, hr, hx⟩ := h1.look_ok keyed25 Try.underlying48 (zv3 w) (plainElem_int Try.underlying3 (by decide)) (key25 v hv)
  obtain ⟨a, rfl, ha, _⟩ := plainElem_int_inv Try.underlying3 hx
  simp only [Prod.mk.injEq] at ha
  rw [(h3 v hv).1, ] at hr
  rw [(h3 v hv).2] at ha
  obtain rfl := lit_inj ha.1
  exact hr
theorem IMap.look1 {w : World} {m N : Nat} {f : VV → Option Int} (h : IMap w m N f) (v : VV) (hv : WV v) :
    (Instr.lookup 48 (.map (some m)) (.agg #[.int .i64 v.1, .int .i64 v.2]) false).run Try.prog w = .ok (.int .i64 ((f v).getD 0)) w := by
  obtain ⟨n, D, h1, h2, h3⟩ := h
  obtain ⟨x, ps, hr, hx⟩ := h1.lookup keyed25 Try.underlying48 (zv3 w) (plainElem_int Try.underlying3 (by decide)) (key25 v hv)
  obtain ⟨a, rfl, ha, _⟩ := plainElem_int_inv Try.underlying3 hx
  simp only [Prod.mk.injEq] at ha
  rw [(h3 v hv).2] at ha
  obtain rfl := lit_inj ha.1
  exact hr
/-- block m is a set of values -/
def SMap (w : World) (m N : Nat) (L : List VV) : Prop :=
  ∃ n D, w.ownsMap Try.prog 25 (unitElem (H := Unit)) m n D ∧ n ≤ N ∧ ∀ v, WV v → Maps.has D (kl v) = decide (v ∈ L)
theorem SMap.keep {w w' : World} {m N : Nat} {L : List VV} {row : Option Nat} (h : SMap w m N L) (g : w.grownBy w' row) (hne : some m ≠ row) : SMap w' m N L := by
  obtain ⟨n, D, h1, h2⟩ := h
  exact ⟨n, D, h1.kept g hne, h2⟩
theorem SMap.look {w : World} {m N : Nat} {L : List VV} (h : SMap w m N L) (v : VV) (hv : WV v) :
    (Instr.lookup 49 (.map (some m)) (.agg #[.int .i64 v.1, .int .i64 v.2]) true).run Try.prog w = .ok (.tuple #[.agg #[], .bool (decide (v ∈ L))]) w := by
  obtain ⟨n, D, h1, h2, h3⟩ := h
  obtain ⟨x, ps, hr, hx⟩ := h1.look_ok keyed25 Try.underlying49 (zv66 w) unitElem_mk (key25 v hv)
  obtain ⟨rfl, _⟩ := unitElem_inv hx
  rw [h3 v hv] at hr
  exact hr
end Go.Proofs.Ytkkcfielmpjgeaa
