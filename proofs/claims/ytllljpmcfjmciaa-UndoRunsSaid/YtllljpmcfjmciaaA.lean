/- A log of old values: what it is in memory; the methods that only tell. -/
import Derived.Test.YtllljpmcfjmciaaBase
import Derived.Deep.RegionLaw
import Derived.Deep.AppendLies
import Derived.Lib.SliceRun
namespace Go.Proofs.Ytllljpmcfjmciaa
open Go.RowKit
set_option linter.unusedVariables false
set_option linter.unusedSimpArgs false

structure OV where
  (k n f vk vn : Int)
  h : Bool
  s : Int
deriving DecidableEq

/-- the cells of a row of entries -/
def scl (L : List OV) : List Value := L.flatMap fun p => [.int .i64 p.k, .int .i64 p.n, .int .i64 p.f, .int .i64 p.vk, .int .i64 p.vn, .bool p.h, .int .i64 p.s]
theorem scl_nil : scl [] = [] := rfl
theorem scl_cons (p : OV) (L : List OV) : scl (p :: L) = .int .i64 p.k :: .int .i64 p.n :: .int .i64 p.f :: .int .i64 p.vk :: .int .i64 p.vn :: .bool p.h :: .int .i64 p.s :: scl L := rfl
theorem scl_append (L M : List OV) : scl (L ++ M) = scl L ++ scl M := by simp [scl]
theorem scl_length (L : List OV) : (scl L).length = L.length * 7 := by
  induction L with
  | nil => rfl
  | cons p L ih => rw [scl_cons]; simp only [List.length_cons, ih]; omega
theorem scl_at (L : List OV) : ∀ i p, L[i]? = some p → (scl L)[i * 7 + 0]? = some (.int .i64 p.k) ∧ (scl L)[i * 7 + 1]? = some (.int .i64 p.n) ∧ (scl L)[i * 7 + 2]? = some (.int .i64 p.f) ∧ (scl L)[i * 7 + 3]? = some (.int .i64 p.vk) ∧ (scl L)[i * 7 + 4]? = some (.int .i64 p.vn) ∧ (scl L)[i * 7 + 5]? = some (.bool p.h) ∧ (scl L)[i * 7 + 6]? = some (.int .i64 p.s) := by
  induction L with
  | nil => intro i p h; simp at h
  | cons q L ih =>
    intro i p h
    cases i with
    | zero => simp at h; subst h; simp [scl_cons]
    | succ i =>
      simp at h
      have := ih i p h
      rw [scl_cons]
      simpa [show ∀ j, (i + 1) * 7 + j = (i * 7 + j) + 1 + 1 + 1 + 1 + 1 + 1 + 1 from fun j => by omega] using this
theorem scl_take (L : List OV) (n : Nat) : scl (L.take n) = (scl L).take (n * 7) := by
  induction L generalizing n with
  | nil => simp [scl]
  | cons q L ih =>
    cases n with
    | zero => simp [scl]
    | succ n => rw [List.take_succ_cons, scl_cons, scl_cons, show (n + 1) * 7 = n * 7 + 1 + 1 + 1 + 1 + 1 + 1 + 1 by omega]; simp [ih]
theorem scl_ones (L : List OV) : ∀ u ∈ scl L, u.oneCell' = true := by
  intro u hu
  simp only [scl, List.mem_flatMap] at hu
  obtain ⟨p, _, hp⟩ := hu
  simp at hp
  rcases hp with rfl | rfl | rfl | rfl | rfl | rfl | rfl <;> rfl

/-- a row of entries, of any slice -/
def SRow (w : World) (ao : Option Addr) (L : List OV) : Prop :=
  ∀ i p, L[i]? = some p → ∃ b off, ao = some ⟨b, off, none⟩ ∧ w.cell? ⟨b, off + i * 7, none⟩ = some (.int .i64 p.k) ∧ w.cell? ⟨b, off + i * 7 + 1, none⟩ = some (.int .i64 p.n) ∧ w.cell? ⟨b, off + i * 7 + 2, none⟩ = some (.int .i64 p.f) ∧ w.cell? ⟨b, off + i * 7 + 3, none⟩ = some (.int .i64 p.vk) ∧ w.cell? ⟨b, off + i * 7 + 4, none⟩ = some (.int .i64 p.vn) ∧ w.cell? ⟨b, off + i * 7 + 5, none⟩ = some (.bool p.h) ∧ w.cell? ⟨b, off + i * 7 + 6, none⟩ = some (.int .i64 p.s)
theorem SRow.keepr {w w' : World} {ao : Option Addr} {L : List OV} {row : Option Nat} (h : SRow w ao L) (g : w.grownBy w' row) (hne : ∀ a, ao = some a → L ≠ [] → some a.block ≠ row) : SRow w' ao L := fun i p hi => by
  obtain ⟨b, off, e, h0, h1, h2, h3, h4, h5, h6⟩ := h i p hi
  have hx := hne _ e (fun e => by rw [e] at hi; cases hi)
  exact ⟨b, off, e, g.cell h0 hx, g.cell h1 hx, g.cell h2 hx, g.cell h3 hx, g.cell h4 hx, g.cell h5 hx, g.cell h6 hx⟩
theorem SRow.keep {w w' : World} {ao : Option Addr} {L : List OV} (h : SRow w ao L) (g : w.grownBy w' none) : SRow w' ao L := h.keepr g (fun _ _ _ => by simp)
theorem SRow.keeps {w w' : World} {ao : Option Addr} {L : List OV} {g : Nat} (h : SRow w ao L) (k : w.grownBy w' (some g)) (hne : ∀ a, ao = some a → a.block ≠ g) : SRow w' ao L := h.keepr k (fun a e _ => by simpa using hne a e)
theorem SRow.keept {w w' : World} {ao : Option Addr} {L : List OV} {S : Nat → Prop} (h : SRow w ao L) (t : Tr S w w') (hd : ∀ a, ao = some a → L ≠ [] → ¬ S a.block) : SRow w' ao L := fun i p hi => by
  obtain ⟨b, off, e, h0, h1, h2, h3, h4, h5, h6⟩ := h i p hi
  have hx := hd _ e (fun e => by rw [e] at hi; cases hi)
  exact ⟨b, off, e, t.cell h0 hx, t.cell h1 hx, t.cell h2 hx, t.cell h3 hx, t.cell h4 hx, t.cell h5 hx, t.cell h6 hx⟩
theorem SRow.lt {w : World} {a : Addr} {L : List OV} (h : SRow w (some a) L) (hL : L ≠ []) : a.block < w.heap.size := by
  obtain ⟨b, o, he, h1, h2⟩ := h 0 (L[0]'(List.length_pos_iff.2 hL)) (List.getElem?_eq_getElem _)
  cases he
  exact World.block_lt_of_cell? _ _ h1
theorem SRow.take {w : World} {ao : Option Addr} {L : List OV} (h : SRow w ao L) (n : Nat) : SRow w ao (L.take n) := fun i p hi => by
  refine h i p ?_
  have hl := (List.getElem?_eq_some_iff.1 hi).1
  rw [List.length_take] at hl
  rwa [List.getElem?_take_of_lt (by omega)] at hi
/-- a row of one's own, of elements of type T -/
theorem srow_of_own {w : World} {base : Nat} {T : TypeId} {v : Value} {n : Nat} {L : List OV} (h : w.ownsRow base T 7 v n (scl L)) :
    ∃ ao c, v = .slice ao n c ∧ SRow w ao L ∧ ∀ a, ao = some a → base ≤ a.block ∧ a.block < w.heap.size := by
  have hc := fun g hg => h.cells (g := g) hg
  have hl := h.1
  rw [scl_length] at hl
  rcases h.2 with ⟨rfl, rfl⟩ | ⟨g, cap, cur, rfl, hb, hh, _⟩
  · refine ⟨none, 0, rfl, fun i p hi => ?_, fun a h => by cases h⟩
    have : i < L.length := (List.getElem?_eq_some_iff.1 hi).1
    omega
  · refine ⟨_, _, rfl, fun i p hi => ?_, fun a h => by cases h; exact ⟨hb, (Array.getElem?_eq_some_iff.1 hh).1⟩⟩
    obtain ⟨s0, s1, s2, s3, s4, s5, s6⟩ := scl_at L i p hi
    refine ⟨g, 0, rfl, ?_, ?_, ?_, ?_, ?_, ?_, ?_⟩
    · have := hc g rfl (i * 7 + 0) _ s0
      simpa [Addr.add_lit, Nat.add_assoc] using this
    · have := hc g rfl (i * 7 + 1) _ s1
      simpa [Addr.add_lit, Nat.add_assoc] using this
    · have := hc g rfl (i * 7 + 2) _ s2
      simpa [Addr.add_lit, Nat.add_assoc] using this
    · have := hc g rfl (i * 7 + 3) _ s3
      simpa [Addr.add_lit, Nat.add_assoc] using this
    · have := hc g rfl (i * 7 + 4) _ s4
      simpa [Addr.add_lit, Nat.add_assoc] using this
    · have := hc g rfl (i * 7 + 5) _ s5
      simpa [Addr.add_lit, Nat.add_assoc] using this
    · have := hc g rfl (i * 7 + 6) _ s6
      simpa [Addr.add_lit, Nat.add_assoc] using this
/-- the row without its last entry -/
theorem own_take {w : World} {base : Nat} {T : TypeId} {ao : Option Addr} {c : Nat} {L : List OV} {m : Nat} (h : w.ownsRow base T 7 (.slice ao L.length c) L.length (scl L)) (hm : m ≤ L.length) (h0 : ao = none → m = 0) :
    w.ownsRow base T 7 (.slice ao m c) m (scl (L.take m)) := by
  refine ⟨by rw [scl_length, List.length_take, Nat.min_eq_left hm], ?_⟩
  rcases h.2 with ⟨e, _⟩ | ⟨g, cap, cur, e, hb, hh, h1, h2, h3, h4⟩
  · simp at e
    obtain ⟨rfl, e1, rfl⟩ := e
    obtain rfl := h0 rfl
    exact .inl ⟨rfl, rfl⟩
  · cases e
    refine .inr ⟨g, c, cur, rfl, hb, hh, by omega, h2, h3, ?_⟩
    have := congrArg (List.take (m * 7)) h4
    rw [List.take_take, Nat.min_eq_left (by omega)] at this
    rw [scl_take, ← this]
theorem len_own {w : World} {B : Nat} {T : TypeId} {ao : Option Addr} {n c k : Nat} {xs : List Value} (h : w.ownsRow B T k (.slice ao n c) n xs) : n ≤ c ∧ c ≤ 9223372036854775807 := by
  rcases h.2 with ⟨h, e⟩ | ⟨g, cap, cur, e, hb, hh, h1, h2, h3, h4⟩
  · cases h; omega
  · cases e; unfold maxLen at h2; omega
theorem srow_cells {w : World} {b off : Nat} {L : List OV} (h : SRow w (some ⟨b, off, none⟩) L) : ∀ (j : Nat) (u : Value), (scl L)[j]? = some u → w.cell? ((⟨b, off, none⟩ : Addr).add j) = some u := by
  intro j u hu
  have hj := (List.getElem?_eq_some_iff.1 hu).1
  rw [scl_length] at hj
  have hi : j / 7 < L.length := by omega
  obtain ⟨b', off', hb, c0, c1, c2, c3, c4, c5, c6⟩ := h (j / 7) L[j / 7] (List.getElem?_eq_getElem hi)
  cases hb
  obtain ⟨q0, q1, q2, q3, q4, q5, q6⟩ := scl_at L (j / 7) L[j / 7] (List.getElem?_eq_getElem hi)
  rw [Addr.add_lit]
  rcases (by omega : j = j / 7 * 7 + 0 ∨ j = j / 7 * 7 + 1 ∨ j = j / 7 * 7 + 2 ∨ j = j / 7 * 7 + 3 ∨ j = j / 7 * 7 + 4 ∨ j = j / 7 * 7 + 5 ∨ j = j / 7 * 7 + 6) with e | e | e | e | e | e | e
  · rw [← e, hu] at q0
    rw [e]
    cases q0
    exact c0
  · rw [← e, hu] at q1
    rw [e]
    cases q1
    rw [← Nat.add_assoc]; exact c1
  · rw [← e, hu] at q2
    rw [e]
    cases q2
    rw [← Nat.add_assoc]; exact c2
  · rw [← e, hu] at q3
    rw [e]
    cases q3
    rw [← Nat.add_assoc]; exact c3
  · rw [← e, hu] at q4
    rw [e]
    cases q4
    rw [← Nat.add_assoc]; exact c4
  · rw [← e, hu] at q5
    rw [e]
    cases q5
    rw [← Nat.add_assoc]; exact c5
  · rw [← e, hu] at q6
    rw [e]
    cases q6
    rw [← Nat.add_assoc]; exact c6
theorem own_zero (w : World) (T : TypeId) {B : Nat} (h : B ≤ w.heap.size) : (w.alloc (.cells #[] T)).ownsRow B T 7 (.slice (some ⟨w.heap.size, 0, none⟩) 0 0) 0 [] :=
  ⟨rfl, .inr ⟨w.heap.size, 0, #[], rfl, h, Blk.new w #[] T, Nat.le_refl _, by unfold maxLen; omega, rfl, rfl⟩⟩
theorem g_own2 {a w w' : World} {B : Nat} {e : TypeId} {size n : Nat} {v : Value} {xs : List Value} {row : Option Nat} (h : a.grownBy w row) (hB : a.heap.size ≤ B) (ho : w.ownsRow B e size v n xs) (k : w.grownBy w' v.ownBlock) : a.grownBy w' row := by
  cases hv : v.ownBlock with
  | none => rw [hv] at k; exact g_then h k
  | some g => rw [hv] at k; exact g_in h k (Nat.le_trans hB (ho.lt g hv).1)
theorem own_mono {w : World} {B B' : Nat} {T : TypeId} {k n : Nat} {v : Value} {xs : List Value} (h : w.ownsRow B T k v n xs) (hB : B' ≤ B) : w.ownsRow B' T k v n xs := by
  refine ⟨h.1, ?_⟩
  rcases h.2 with e | ⟨g, cap, cur, e, hb, hh⟩
  · exact .inl e
  · exact .inr ⟨g, cap, cur, e, by omega, hh⟩

/-- a log at block b: its bound, the entries L, in a row of their own, in a block of A -/
def Lg (w : World) (b : Nat) (A : Nat → Prop) (most : Int) (L : List OV) : Prop := ∃ v, Blk w b #[.int .i64 most, v] 60 ∧ w.ownsRow 0 36 7 v L.length (scl L) ∧ ∀ g, v.ownBlock = some g → A g ∧ g ≠ b
section
variable {w w' : World} {b : Nat} {A : Nat → Prop} {most : Int} {L : List OV}
theorem Lg.lt (h : Lg w b A most L) : b < w.heap.size := by obtain ⟨v, h1, _⟩ := h; exact h1.lt
theorem Lg.keep (h : Lg w b A most L) (g : w.grownBy w' none) : Lg w' b A most L := by obtain ⟨v, h1, h2, h3⟩ := h; exact ⟨v, h1.keepn g, own_keepn h2 g, h3⟩
theorem Lg.tr {S : Nat → Prop} (h : Lg w b A most L) (k : Tr S w w') (hb : ¬ S b) (hA : ∀ g, g < w.heap.size → A g → ¬ S g) : Lg w' b A most L := by
  obtain ⟨v, h1, h2, h3⟩ := h
  exact ⟨v, k.blk h1 hb, k.own h2 (fun g hg => hA g (own_lt h2 hg).2 (h3 g hg).1), h3⟩
theorem Lg.mono {A' : Nat → Prop} (h : Lg w b A most L) (hA : ∀ g, g < w.heap.size → A g → A' g) : Lg w b A' most L := by
  obtain ⟨v, h1, h2, h3⟩ := h
  exact ⟨v, h1, h2, fun g hg => ⟨hA g (own_lt h2 hg).2 (h3 g hg).1, (h3 g hg).2⟩⟩
theorem Lg.strict (h : Lg w b A most L) : Lg w b (fun g => A g ∧ g < w.heap.size) most L := h.mono fun _ h1 h2 => ⟨h2, h1⟩
/-- the slice, its row -/
theorem Lg.row (h : Lg w b A most L) : ∃ ao c, Blk w b #[.int .i64 most, .slice ao L.length c] 60 ∧ w.ownsRow 0 36 7 (.slice ao L.length c) L.length (scl L) ∧ SRow w ao L ∧ ∀ a, ao = some a → A a.block ∧ a.block ≠ b := by
  obtain ⟨v, h1, h2, h3⟩ := h
  obtain ⟨ao, c, rfl, hr, hb⟩ := srow_of_own h2
  refine ⟨ao, c, h1, h2, hr, fun a ha => ?_⟩
  subst ha
  exact h3 a.block rfl
end
theorem own_nil {w : World} {B : Nat} {T : TypeId} {c k : Nat} {L : List OV} (h : w.ownsRow B T k (.slice none L.length c) L.length (scl L)) : L = [] := by
  rcases h.2 with ⟨e, h0⟩ | ⟨g, cap, cur, e, _⟩
  · exact List.eq_nil_of_length_eq_zero h0
  · cases e

theorem info36 : (Try.prog.info? 36).map (fun i => (i.zero, i.size, i.bytes)) = some (some (.agg #[.int .i64 0, .int .i64 0, .int .i64 0, .int .i64 0, .int .i64 0, .bool false, .int .i64 0]), 7, 56) := by kernel_rfl
theorem zero36 (w : World) : (zeroValue 36).run Try.prog w = .ok (.agg #[.int .i64 0, .int .i64 0, .int .i64 0, .int .i64 0, .int .i64 0, .bool false, .int .i64 0]) w := by kernel_rfl

set_option maxHeartbeats 400000 in
theorem none_any (b : Nat) (A : Nat → Prop) (most : Int) (L : List OV) (w : World) (h : Lg w b A most L) (hm : most ≠ 0) :
    Calls Try.prog 20 #[.pointer (some ⟨b, 0, none⟩)] w fun e w' => e = .returned (.bool false) ∧ w' = w := by
  obtain ⟨ao, c, h1, _⟩ := h.row
  have c1 := h1.cell 0 (.int .i64 most) rfl
  have hb1 : (most == 0) = false := by simpa using hm
  clear h h1
  go_enter Try.func20, Try.ntmps20
  go_wp2_with fail
  go_ret
  exact ⟨rfl, rfl⟩

set_option maxHeartbeats 400000 in
theorem len_any (b : Nat) (A : Nat → Prop) (most : Int) (L : List OV) (w : World) (h : Lg w b A most L) (hm : most ≠ 0) :
    Calls Try.prog 10 #[.pointer (some ⟨b, 0, none⟩)] w fun e w' => e = .returned (.int .i64 L.length) ∧ w' = w := by
  have HN := Lib.hid (none_any b A most L w h hm)
  obtain ⟨ao, c, h1, _⟩ := h.row
  have c0 := h1.cell 1 (.slice ao L.length c) rfl
  clear h h1
  go_enter Try.func10, Try.ntmps10
  go_wp2_with fail
  refine HN.out.mono ?_
  rintro e w1 ⟨rfl, rfl⟩
  go_wp2_with fail
  go_ret
  exact ⟨rfl, rfl⟩

def newP (most : Int) : Bool := decide (1 ≤ most ∧ most ≤ 4096)
set_option maxHeartbeats 800000 in
theorem new_any (most : Int) (w : World) : Calls Try.prog 6 #[.int .i64 most] w fun e w' => w.grownBy w' none ∧ ((newP most = false ∧ e = .returned (.tuple #[.pointer none, .int .i64 1])) ∨ (newP most = true ∧ ∃ b, e = .returned (.tuple #[.pointer (some ⟨b, 0, none⟩), .int .i64 0]) ∧ w.heap.size ≤ b ∧ Lg w' b (fun i => w.heap.size ≤ i) most [])) := by
  have hcs : (most < 1) ∨ (¬ most < 1 ∧ 4096 < most) ∨ (¬ most < 1 ∧ ¬ 4096 < most) := by omega
  rcases hcs with h1 | ⟨h1, h2⟩ | ⟨h1, h2⟩
  · go_enter Try.func6, Try.ntmps6
    go_wp2_with fail
    go_ret2
    exact ⟨g_refl _ _, .inl ⟨decide_eq_false (by omega), rfl⟩⟩
  · go_enter Try.func6, Try.ntmps6
    go_wp2_with fail
    go_ret2
    exact ⟨g_refl _ _, .inl ⟨decide_eq_false (by omega), rfl⟩⟩
  · go_enter Try.func6, Try.ntmps6
    go_wp2_with fail
    go_ret2
    exact ⟨g_alloc (g_refl _ _) _, .inr ⟨decide_eq_true (by omega), w.heap.size, rfl, Nat.le_refl _, .slice none 0 0, Blk.new w _ _, World.ownsRow_nil _ _ _ _, fun g e => (by cases e)⟩⟩
end Go.Proofs.Ytllljpmcfjmciaa
