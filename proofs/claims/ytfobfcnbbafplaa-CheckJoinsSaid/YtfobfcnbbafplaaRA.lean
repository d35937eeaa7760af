/- The document's answer: a step. -/
import Derived.Test.YtfobfcnbbafplaaO
import Derived.Deep.CutBlock
import Derived.Deep.DeepCutAuto
namespace Go.Proofs.Ytfobfcnbbafplaa
open Go.RowKit
set_option linter.unusedVariables false
set_option linter.unusedSimpArgs false

theorem run_append_empty {P : Program} {w : World} (base : Nat) (t ty e : TypeId) (i : TypeInfo) (size : Nat) (ht : P.underlying t = some (.slice e)) (hi : P.info? e = some i)
    (v : Value) (n : Nat) (xs : List Value) (hown : w.ownsRow base e size v n xs) (ao : Option Addr) (c : Nat) :
    (Builtin.append_ #[t, t] ty #[v, .slice ao 0 c]).run P w = .ok v w := by
  rcases hown.2 with ⟨rfl, rfl⟩ | ⟨g, cap, cur, rfl, _, _, hnc, _⟩
  · cases ao <;> simp [Builtin.append_, run_underlying ht, sizeOf, typeInfo, hi, Builtin.lenOf, Builtin.firstCells, loadCells, loadCellsFrom]
  · cases ao <;> simp [Builtin.append_, run_underlying ht, sizeOf, typeInfo, hi, Builtin.lenOf, Builtin.firstCells, hnc, storeCells, loadCells, loadCellsFrom]
theorem wpList_append_empty {P : Program} {w : World} {ops : Array Oper} {rest : List Oper} {o : Oper} {a : Act} {Q : Exit → Act → World → Prop} (hgd : o.guard = none) (s x : Operand) (t : TypeId)
    (ho : o.op = .call { callee := .builtin .append, args := #[s, x], argTypes := #[t, t] })
    (base : Nat) (e : TypeId) (i : TypeInfo) (size : Nat) (ht : P.underlying t = some (.slice e)) (hi : P.info? e = some i)
    (v : Value) (n : Nat) (xs : List Value) (hs : a.eval s = v) (hown : w.ownsRow base e size v n xs) (ao : Option Addr) (c : Nat) (hx : a.eval x = .slice ao 0 c)
    (h : wpList P ops Q rest (a.put o.dst v) w) : wpList P ops Q (o :: rest) a w := by
  refine wpList_plain hgd fun K hK => ?_
  have hrun := run_append_empty (P := P) (w := w) base t o.type e i size ht hi v n xs hown ao c
  unfold Oper.wp
  simp [execOp, ho, resolve, invoke, builtin, hs, hx, hrun, Result.andThen]
  exact hK _ _ h

/-- a step, by definition: is it right; the ways that are open behind it -/
def rstep (kn k : Int) (L : List (Int × Int)) : Bool × List (Int × Int) :=
  if k = 15 then (if 8 ≤ L.length then (false, L) else (true, L ++ [(kn, 0)]))
  else if k = 16 then (if L = [] ∨ (topP L).2 = 1 then (false, L) else (true, L.dropLast ++ [((topP L).1, 1)]))
  else if k = 17 then (if L = [] then (false, L) else (true, L.dropLast))
  else if k = 18 then (decide (0 < L.length), L)
  else if k = 20 then (decide (L.length = 0), L)
  else (true, L)
def PRst (w w' : World) (e : Ending) (r : Bool × List (Int × Int)) : Prop :=
  ∃ ao c, e = .returned (.tuple #[.slice ao r.2.length c, .bool r.1]) ∧ SRow w' ao r.2 ∧ r.2.length ≤ c ∧ c ≤ 9223372036854775807 ∧ w.grownBy w' none
theorem prst_own {w w' : World} {B : Nat} {T : TypeId} {v : Value} {L : List (Int × Int)} {b : Bool} (h : w'.ownsRow B T 2 v L.length (scl L)) (g : w.grownBy w' none) : PRst w w' (.returned (.tuple #[v, .bool b])) (b, L) := by
  obtain ⟨ao, c, rfl, hs, _⟩ := srow_of_own h
  have hc := len_own h
  exact ⟨ao, c, rfl, hs, hc.1, hc.2, g⟩
theorem own_zero (w : World) (T : TypeId) {B : Nat} (h : B ≤ w.heap.size) : (w.alloc (.cells #[] T)).ownsRow B T 2 (.slice (some ⟨w.heap.size, 0, none⟩) 0 0) 0 [] :=
  ⟨rfl, .inr ⟨w.heap.size, 0, #[], rfl, h, Blk.new w #[] T, Nat.le_refl _, by unfold maxLen; omega, rfl, rfl⟩⟩
theorem size_al (w : World) (o : Obj) : (w.alloc o).heap.size = w.heap.size + 1 := by simp
theorem g_size_alloc (w : World) (o : Obj) : w.heap.size ≤ (w.alloc o).heap.size := (g_alloc (g_refl w none) o).size
theorem info58 : (Try.prog.info? 58).map (fun i => (i.zero, i.size, i.bytes)) = some (some (.agg #[.int .i64 0, .int .i64 0]), 2, 16) := by kernel_rfl
theorem scl_ones (L : List (Int × Int)) : ∀ u ∈ scl L, u.oneCell' = true := by
  intro u hu
  simp only [scl, List.mem_flatMap] at hu
  obtain ⟨p, _, hp⟩ := hu
  simp at hp
  rcases hp with rfl | rfl <;> rfl
theorem srow_cells {w : World} {b off : Nat} {L : List (Int × Int)} (h : SRow w (some ⟨b, off, none⟩) L) : ∀ (j : Nat) (u : Value), (scl L)[j]? = some u → w.cell? ((⟨b, off, none⟩ : Addr).add j) = some u := by
  intro j u hu
  have hj := (List.getElem?_eq_some_iff.1 hu).1
  rw [scl_length] at hj
  have hi : j / 2 < L.length := by omega
  obtain ⟨b', off', hb, c0, c1⟩ := h (j / 2) L[j / 2] (List.getElem?_eq_getElem hi)
  cases hb
  obtain ⟨q0, q1⟩ := scl_at L (j / 2) L[j / 2] (List.getElem?_eq_getElem hi)
  rw [Addr.add_lit]
  rcases (by omega : j = j / 2 * 2 ∨ j = j / 2 * 2 + 1) with e | e
  · rw [← e] at q0 c0
    rw [q0] at hu; cases hu; exact c0
  · rw [← e] at q1
    rw [Nat.add_assoc, ← e] at c1
    rw [q1] at hu; cases hu; exact c1
theorem news2 (w : World) (a b : Int) (T : TypeId) : ∀ (j : Nat) (u : Value), ([.int .i64 a, .int .i64 b] : List Value)[j]? = some u → (w.alloc (.cells #[.int .i64 a, .int .i64 b] T)).cell? ((⟨w.heap.size, 0, none⟩ : Addr).add j) = some u := new_cells w [.int .i64 a, .int .i64 b] T
theorem ones2 (a b : Int) : ∀ u ∈ ([.int .i64 a, .int .i64 b] : List Value), u.oneCell' = true := by intro u hu; simp at hu; rcases hu with rfl | rfl <;> rfl
theorem srow_dropLast {w : World} {ao : Option Addr} {L : List (Int × Int)} (h : SRow w ao L) : SRow w ao L.dropLast := fun i p hi => h i p (by
  have hl := (List.getElem?_eq_some_iff.1 hi).1
  rw [List.length_dropLast] at hl
  rw [List.getElem?_dropLast] at hi
  rw [if_pos hl] at hi; exact hi)

set_option maxRecDepth 100000 in
set_option maxHeartbeats 1600000 in
theorem rstep_begin (ao : Option Addr) (c : Nat) (L : List (Int × Int)) (A B C kn : Int) (w : World) (hS : SRow w ao L) (hc : L.length ≤ c) (hm : c ≤ 9223372036854775807) :
    Calls Try.prog 28 #[.slice ao L.length c, .agg #[.int .i64 15, .int .i64 A, .int .i64 B, .int .i64 C], .int .i64 kn] w fun e w' => PRst w w' e (rstep kn 15 L) := by
  obtain ⟨i0, hi, hz0, hz1, hz2⟩ := info_parts info58
  have ga := g_alloc (g_refl w none) (.cells #[.int .i64 15, .int .i64 A, .int .i64 B, .int .i64 C] 31)
  have z0 := (Blk.new w #[.int .i64 15, .int .i64 A, .int .i64 B, .int .i64 C] 31).cell 0 _ rfl
  have GA := Lib.hid ga
  have HS := Lib.hid hS
  clear ga hS
  by_cases h8 : 8 ≤ L.length
  · have h8i : (8 : Int) ≤ L.length := by omega
    have hr : Hid (rstep kn 15 L = (false, L)) := Lib.hid (by unfold rstep; rw [if_pos rfl, if_pos h8])
    generalize rstep kn 15 L = r at *
    go_enter Try.func28, Try.ntmps28
    go_wp2_with fail
    go_ret2
    rw [hr.out]
    exact ⟨ao, c, rfl, HS.out.keep GA.out, hc, hm, GA.out⟩
  · have h8i : ¬ (8 : Int) ≤ L.length := by omega
    have hr : Hid (rstep kn 15 L = (true, L ++ [(kn, 0)])) := Lib.hid (by unfold rstep; rw [if_pos rfl, if_neg h8])
    generalize rstep kn 15 L = r at *
    have hlen : L.length < 8 := by omega
    generalize hn : L.length = n at *
    have HN := Lib.hid hn
    clear hn h8
    have hnm : n ≤ 9223372036854775807 := by omega
    have HE : Hid (((w.alloc (.cells #[.int .i64 15, .int .i64 A, .int .i64 B, .int .i64 C] 31)).alloc (.cells #[] 58)).ownsRow w.heap.size 58 2 (.slice (some ⟨w.heap.size + 1, 0, none⟩) 0 0) 0 []) := Lib.hid (by have h := own_zero (w.alloc (.cells #[.int .i64 15, .int .i64 A, .int .i64 B, .int .i64 C] 31)) 58 (g_size_alloc w _); rw [size_al] at h; exact h)
    have GE := Lib.hid (g_trans GA.out (g_alloc (g_refl (w.alloc (.cells #[.int .i64 15, .int .i64 A, .int .i64 B, .int .i64 C] 31)) none) (.cells #[] 58)))
    have hE := GE.out.size
    have HSE := Lib.hid (HS.out.keep GE.out)
    have HO1 := Lib.hid (scl_ones L)
    by_cases hn0 : n = 0
    · subst hn0
      obtain rfl : L = [] := List.eq_nil_of_length_eq_zero HN.out
      go_enter Try.func28, Try.ntmps28
      go_wp2_with (at_builtin; first | (refine wpList_append_empty rfl _ _ 53 rfl w.heap.size 58 i0 2 Try.underlying53 hi _ _ _ rfl HE.out ao c rfl ?_; have GN := Lib.hid (g_trans GE.out (g_alloc (g_refl ((w.alloc (.cells #[.int .i64 15, .int .i64 A, .int .i64 B, .int .i64 C] 31)).alloc (.cells #[] 58)) none) (.cells #[.int .i64 kn, .int .i64 0] 58))); have HO := Lib.hid (own_keepn HE.out (g_alloc (g_refl ((w.alloc (.cells #[.int .i64 15, .int .i64 A, .int .i64 B, .int .i64 C] 31)).alloc (.cells #[] 58)) none) (.cells #[.int .i64 kn, .int .i64 0] 58))); have HNW := Lib.hid (by have h := news2 ((w.alloc (.cells #[.int .i64 15, .int .i64 A, .int .i64 B, .int .i64 C] 31)).alloc (.cells #[] 58)) kn 0 58; rw [size_al, size_al] at h; exact h); have HON := Lib.hid (ones2 kn 0); have hz := GN.out.size) | (refine wpList_append_own _ rfl _ _ 53 rfl w.heap.size 58 i0 (.agg #[.int .i64 0, .int .i64 0]) 2 16 Try.underlying53 hi hz0 hz1 hz2 rfl (by decide) _ _ _ rfl HO.out ⟨w.heap.size + 1 + 1, 0, none⟩ 1 1 [.int .i64 kn, .int .i64 0] rfl rfl HNW.out HON.out (by unfold maxLen; omega) (by omega) hz ?_; intro v6 w6 hown hgrow _; have HO6 := Lib.hid hown; have G6 := Lib.hid (g_own2 GN.out (Nat.le_refl _) HO.out hgrow); clear hown hgrow))
      go_ret2
      rw [hr.out]
      exact prst_own HO6.out G6.out
    · obtain ⟨b, off, rfl⟩ : ∃ b off, ao = some ⟨b, off, none⟩ := by
        obtain ⟨b, off, h, _⟩ := HS.out 0 (L[0]'(by rw [HN.out]; omega)) (List.getElem?_eq_getElem _)
        exact ⟨b, off, h⟩
      have HCL := Lib.hid (srow_cells HSE.out)
      have HLL : Hid ((scl L).length = n * 2) := Lib.hid (by rw [scl_length, HN.out])
      go_enter Try.func28, Try.ntmps28
      go_wp2_with (at_builtin; first | (refine wpList_append_own _ rfl _ _ 53 rfl w.heap.size 58 i0 (.agg #[.int .i64 0, .int .i64 0]) 2 16 Try.underlying53 hi hz0 hz1 hz2 rfl (by decide) _ _ _ rfl HE.out ⟨b, off, none⟩ n c (scl L) rfl HLL.out HCL.out HO1.out (by unfold maxLen; omega) (by omega) hE ?_; intro v5 w5 hown hgrow _; have G5 := Lib.hid (g_own2 GE.out (Nat.le_refl _) HE.out hgrow); have HO5 := Lib.hid (own_keepn hown (g_alloc (g_refl w5 none) (.cells #[.int .i64 kn, .int .i64 0] 58))); have GN := Lib.hid (g_trans G5.out (g_alloc (g_refl w5 none) (.cells #[.int .i64 kn, .int .i64 0] 58))); have HNW := Lib.hid (news2 w5 kn 0 58); have HON := Lib.hid (ones2 kn 0); have hz := GN.out.size; clear hown hgrow) | (refine wpList_append_own _ rfl _ _ 53 rfl w.heap.size 58 i0 (.agg #[.int .i64 0, .int .i64 0]) 2 16 Try.underlying53 hi hz0 hz1 hz2 rfl (by decide) _ _ _ rfl HO5.out ⟨w5.heap.size, 0, none⟩ 1 1 [.int .i64 kn, .int .i64 0] rfl rfl HNW.out HON.out (by unfold maxLen; omega) (by omega) hz ?_; intro v6 w6 hown hgrow _; have G6 := Lib.hid (g_own2 GN.out (Nat.le_refl _) HO5.out hgrow); have HO6 : Hid (w6.ownsRow w.heap.size 58 2 v6 (L ++ [(kn, 0)]).length (scl (L ++ [(kn, 0)]))) := Lib.hid (by rw [scl_append, List.length_append, HN.out]; simpa [scl] using hown); clear hown hgrow))
      go_ret2
      rw [hr.out]
      exact prst_own HO6.out G6.out
end Go.Proofs.Ytfobfcnbbafplaa
