/- What is renamed, renamed again, is not turned: in plain. -/
import Derived.Test.YtkkcfielmpjgeaaN
namespace Go.Proofs.Ytkkcfielmpjgeaa
open Go.RowKit
set_option linter.unusedVariables false
set_option linter.unusedSimpArgs false
set_option linter.unusedSectionVars false

theorem Wlk.nodup {V : VV → Bool} {sc : VV → List VV} {L vs L' : List VV} (h : Wlk V sc L vs L') : L.Nodup → L'.Nodup := by
  induction h with
  | nil L => exact id
  | skip h1 h2 ih => exact ih
  | go h1 h2 h3 h4 ih1 ih2 =>
    intro k
    refine ih2 (ih1 ?_)
    rw [List.nodup_append]
    refine ⟨k, by simp, fun a ha b hb e => ?_⟩
    simp at hb; subst hb; subst e
    exact h2 ha
/-- the n-th object's new name -/
def nmd (i : Nat) : VV := (2, 1048576 + ((i : Int) + 1))
/-- the names that are given -/
def nm (met : List VV) (v : VV) : Option VV := (met.findIdx? (fun x => decide (x = v))).map nmd
theorem nm_nil (v : VV) : nm [] v = none := rfl
theorem nm_step {met : List VV} (hd : met.Nodup) {i : Nat} {x : VV} (h : met[i]? = some x) : nm (met.take (i + 1)) = fun v => if v = x then some (nmd i) else nm (met.take i) v := by
  have hi := (List.getElem?_eq_some_iff.1 h).1
  have e : met.take (i + 1) = met.take i ++ [x] := by rw [List.take_add_one, h]; rfl
  have hl : (met.take i).length = i := by rw [List.length_take]; omega
  have hx : x ∉ met.take i := fun hm => by
    obtain ⟨j, hj⟩ := List.mem_iff_getElem?.1 hm
    have hjl := (List.getElem?_eq_some_iff.1 hj).1
    rw [hl] at hjl
    rw [List.getElem?_take_of_lt hjl] at hj
    obtain ⟨a1, a2⟩ := List.getElem?_eq_some_iff.1 hj
    obtain ⟨b1, b2⟩ := List.getElem?_eq_some_iff.1 h
    exact List.pairwise_iff_getElem.1 hd j i a1 hi hjl (a2.trans b2.symm)
  funext v
  unfold nm
  rw [e, List.findIdx?_append, hl]
  by_cases hv : v = x
  · subst hv
    have hn : (met.take i).findIdx? (fun y => decide (y = v)) = none := by
      rw [List.findIdx?_eq_none_iff]
      intro y hy
      exact decide_eq_false (fun e => hx (e ▸ hy))
    rw [hn]
    simp [List.findIdx?_cons]
  · have hv' : ¬ x = v := fun e => hv e.symm
    simp only [List.findIdx?_cons, hv', decide_false, List.findIdx?_nil, if_neg hv]
    cases (met.take i).findIdx? (fun y => decide (y = v)) <;> simp
theorem nm_at {met : List VV} (hd : met.Nodup) {i : Nat} {x : VV} (h : met[i]? = some x) : nm met x = some (nmd i) := by
  have hi := (List.getElem?_eq_some_iff.1 h).1
  have e : met.findIdx? (fun y => decide (y = x)) = some i := by
    rw [List.findIdx?_eq_some_iff_getElem]
    obtain ⟨b1, b2⟩ := List.getElem?_eq_some_iff.1 h
    refine ⟨hi, by simp [b2], fun j hj => ?_⟩
    have := List.pairwise_iff_getElem.1 hd j i (by omega) hi hj
    simp only [decide_eq_true_eq]
    rw [← b2]; exact this
  unfold nm
  rw [e]; rfl
theorem nm_not {met : List VV} {x : VV} (h : x ∉ met) : nm met x = none := by
  have e : met.findIdx? (fun y => decide (y = x)) = none := by
    rw [List.findIdx?_eq_none_iff]
    intro y hy
    exact decide_eq_false (fun e => h (e ▸ hy))
  unfold nm
  rw [e]; rfl
/-- an object under new names -/
def ren (Ls : List OB) (met : List VV) (v : VV) : OB :=
  match obj Ls v with
  | some o => ⟨asP (nm met) v, 1, o.fields, o.mask, o.state, o.owner, o.F.map (asP (nm met))⟩
  | none => ⟨asP (nm met) v, 1, 0, 0, 0, 0, []⟩
def renP (Ls : List OB) (met : List VV) : List OB := met.map (ren Ls met)
theorem ren_ref (Ls : List OB) (met : List VV) (v : VV) : (ren Ls met v).ref = asP (nm met) v := by
  unfold ren; split <;> rfl

theorem Wlk.map {V V' : VV → Bool} {sc sc' : VV → List VV} {g : VV → VV} {met : List VV} (hinj : ∀ a ∈ met, ∀ b ∈ met, g a = g b → a = b) (hm : ∀ v ∈ met, V v = true) (h1 : ∀ v ∈ met, V' (g v) = true) (h2 : ∀ v, v ∉ met → V' (g v) = false)
    (hs : ∀ v ∈ met, sc' (g v) = (sc v).map g) {L vs L' : List VV} (h : Wlk V sc L vs L') : (∀ x ∈ L', x ∈ met) → Wlk V' sc' (L.map g) (vs.map g) (L'.map g) := by
  induction h with
  | nil L => intro _; exact .nil _
  | skip k1 k2 ih =>
    intro hL
    refine .skip ?_ (ih hL)
    rcases k1 with k1 | k1
    · left
      refine h2 _ (fun hmem => ?_)
      rw [hm _ hmem] at k1; cases k1
    · right; exact List.mem_map_of_mem k1
  | @go L v vs L1 L' k1 k2 k3 k4 ih1 ih2 =>
    intro hL
    have hv : v ∈ met := hL _ (k4.sub _ (k3.sub _ (by simp)))
    have i1 := ih1 (fun x hx => hL x (k4.sub x hx))
    rw [List.map_append, ← hs v hv] at i1
    refine .go (h1 v hv) (fun hmem => ?_) i1 (ih2 hL)
    obtain ⟨x, hx, he⟩ := List.mem_map.1 hmem
    have hxm : x ∈ met := hL _ (k4.sub _ (k3.sub _ (by simp [hx])))
    exact k2 (hinj x hxm v hv he ▸ hx)

section
variable {Ls : List OB} {met R : List VV} (hw : Wlk (V Ls ia) (sc Ls) [] R met) (hlen : met.length ≤ 1000)
include hw
theorem met_nodup : met.Nodup := hw.nodup (by simp)
theorem met_V : ∀ v ∈ met, V Ls ia v = true := fun v hv => by
  rcases hw.closed v hv with e | e
  · cases e
  · exact e.1
theorem as_at {i : Nat} {x : VV} (h : met[i]? = some x) : asP (nm met) x = nmd i := by
  unfold asP; rw [nm_at (met_nodup hw) h]
theorem as_in {v : VV} (hv : v ∈ met) : ∃ i, met[i]? = some v ∧ asP (nm met) v = nmd i := by
  obtain ⟨i, hi⟩ := List.mem_iff_getElem?.1 hv
  exact ⟨i, hi, as_at hw hi⟩
omit hw in
theorem as_out {v : VV} (hv : v ∉ met) : asP (nm met) v = if v.1 = 2 ∧ v.2 ≠ 0 then (2, 1125899906842625) else v := by
  unfold asP; rw [nm_not hv]
omit hw in
theorem nmd_inj {i j : Nat} (h : nmd i = nmd j) : i = j := by
  unfold nmd at h
  simp only [Prod.mk.injEq, true_and] at h
  omega
include hlen
theorem as_out_ne {v : VV} (hv : v ∉ met) {i : Nat} (hi : i < met.length) : asP (nm met) v ≠ nmd i := by
  rw [as_out hv]
  unfold nmd
  split
  · intro e
    simp only [Prod.mk.injEq, true_and] at e
    omega
  · rename_i h
    intro e
    apply h
    rw [e]
    exact ⟨rfl, by simp only; omega⟩
theorem map_at {i : Nat} (hi : i < met.length) : (met.map (asP (nm met)))[i]? = some (nmd i) := by
  rw [List.getElem?_map, List.getElem?_eq_getElem hi]
  simp only [Option.map_some, Option.some.injEq]
  exact as_at hw (List.getElem?_eq_getElem hi)
theorem as_inj : ∀ a ∈ met, ∀ b ∈ met, asP (nm met) a = asP (nm met) b → a = b := fun a ha b hb e => by
  obtain ⟨i, hi, h1⟩ := as_in hw ha
  obtain ⟨j, hj, h2⟩ := as_in hw hb
  rw [h1, h2] at e
  obtain rfl := nmd_inj e
  rw [hi] at hj; cases hj; rfl
theorem obj_ren {i : Nat} {v : VV} (hi : met[i]? = some v) : obj (renP Ls met) (nmd i) = some (ren Ls met v) := by
  have hil := (List.getElem?_eq_some_iff.1 hi).1
  have e : fidx (renP Ls met) (nmd i) = some i := by
    unfold fidx
    rw [List.findIdx?_eq_some_iff_getElem]
    refine ⟨by simp [renP]; exact hil, ?_, fun j hj => ?_⟩
    · simp only [renP, List.getElem_map, ren_ref, decide_eq_true_eq]
      have := as_at hw hi
      rwa [(List.getElem?_eq_some_iff.1 hi).2]
    · simp only [renP, List.getElem_map, ren_ref, decide_eq_true_eq]
      rw [as_at hw (List.getElem?_eq_getElem (by omega : j < met.length))]
      exact fun e => by have := nmd_inj e; omega
  unfold obj
  rw [e]
  simp [renP, hi]
theorem obj_ren_not {u : VV} (h : ∀ i, i < met.length → u ≠ nmd i) : obj (renP Ls met) u = none := by
  have e : fidx (renP Ls met) u = none := by
    unfold fidx
    rw [List.findIdx?_eq_none_iff]
    intro o ho
    obtain ⟨v, hv, rfl⟩ := List.mem_map.1 ho
    rw [ren_ref]
    obtain ⟨i, hi, h1⟩ := as_in hw hv
    rw [h1]
    exact decide_eq_false (fun e => h i (List.getElem?_eq_some_iff.1 hi).1 e.symm)
  simp [obj, e]
/-- THE RENAMED ROW IS WALKED AS THE ROW IS -/
theorem walk_ren : Wlk (V (renP Ls met) ia) (sc (renP Ls met)) [] (R.map (asP (nm met))) (met.map (asP (nm met))) := by
  have hV1 : ∀ v ∈ met, V (renP Ls met) ia (asP (nm met) v) = true := fun v hv => by
    obtain ⟨i, hi, h1⟩ := as_in hw hv
    rw [h1]
    have h := obj_ren hw hlen hi
    unfold V
    rw [h]
    have h3 : ¬ (1048576 + ((i : Int) + 1)) = 0 := by omega
    simp [nmd, ia, h3]
  have hV2 : ∀ v, v ∉ met → V (renP Ls met) ia (asP (nm met) v) = false := fun v hv => by
    have h := obj_ren_not hw hlen (fun i hi => as_out_ne hw hlen hv hi)
    simp [V, h]
  refine Wlk.map (met := met) (as_inj hw hlen) (met_V hw) hV1 hV2 (fun v hv => ?_) hw (fun x hx => hx)
  obtain ⟨i, hi, h1⟩ := as_in hw hv
  rw [h1]
  have h := obj_ren hw hlen hi
  obtain ⟨o, _, _, h2, _⟩ := V_obj (met_V hw v hv)
  simp [sc, h, h2, ren]
theorem as_as (v : VV) : asP (nm (met.map (asP (nm met)))) (asP (nm met) v) = asP (nm met) v := by
  have hw2 := walk_ren hw hlen
  by_cases hv : v ∈ met
  · obtain ⟨i, hi, h1⟩ := as_in hw hv
    rw [h1]
    exact as_at hw2 (map_at hw hlen (List.getElem?_eq_some_iff.1 hi).1)
  · have hn : asP (nm met) v ∉ met.map (asP (nm met)) := fun hm => by
      obtain ⟨i, hi⟩ := List.mem_iff_getElem?.1 hm
      have hil : i < met.length := by have := (List.getElem?_eq_some_iff.1 hi).1; simpa using this
      rw [map_at hw hlen hil] at hi
      simp only [Option.some.injEq] at hi
      exact as_out_ne hw hlen hv hil hi.symm
    rw [as_out hn, as_out hv]
    by_cases h : v.1 = 2 ∧ v.2 ≠ 0
    · rw [if_pos h]; simp
    · rw [if_neg h, if_neg h]
/-- WHAT IS RENAMED, RENAMED AGAIN, IS NOT TURNED -/
theorem ren_ren : renP (renP Ls met) (met.map (asP (nm met))) = renP Ls met := by
  apply List.ext_getElem?
  intro i
  show ((met.map (asP (nm met))).map (ren (renP Ls met) (met.map (asP (nm met)))))[i]? = (met.map (ren Ls met))[i]?
  rw [List.getElem?_map, List.getElem?_map, List.getElem?_map]
  cases hi : met[i]? with
  | none => rfl
  | some v =>
    simp only [Option.map_some, Option.some.injEq]
    have h1 := as_at hw hi
    have h2 := as_as hw hlen v
    have h3 := obj_ren hw hlen hi
    obtain ⟨o, _, _, h4, _⟩ := V_obj (met_V hw v (List.mem_of_getElem? hi))
    have h5 : ren (renP Ls met) (met.map (asP (nm met))) (asP (nm met) v) = ⟨asP (nm met) v, 1, (ren Ls met v).fields, (ren Ls met v).mask, (ren Ls met v).state, (ren Ls met v).owner, (ren Ls met v).F.map (asP (nm (met.map (asP (nm met)))))⟩ := by
      conv => lhs; unfold ren
      rw [h2]
      rw [h1, h3]
    rw [h5]
    unfold ren
    rw [h4]
    simp only [List.map_map]
    congr 1
    apply List.map_congr_left
    intro f _
    exact as_as hw hlen f
theorem roots_ren : (R.map (asP (nm met))).map (asP (nm (met.map (asP (nm met))))) = R.map (asP (nm met)) := by
  rw [List.map_map]
  apply List.map_congr_left
  intro f _
  exact as_as hw hlen f
end
end Go.Proofs.Ytkkcfielmpjgeaa
