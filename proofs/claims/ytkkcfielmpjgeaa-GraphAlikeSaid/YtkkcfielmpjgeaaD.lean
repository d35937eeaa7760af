/- What a walk meets, in plain. -/
import Derived.Test.YtkkcfielmpjgeaaC
namespace Go.Proofs.Ytkkcfielmpjgeaa
open Go.RowKit
set_option linter.unusedVariables false
set_option linter.unusedSimpArgs false

/-- a reference's object -/
def obj (Ls : List OB) (v : VV) : Option OB := (fidx Ls v).bind (fun i => Ls[i]?)
/-- is a value gone into? -/
def V (Ls : List OB) (inb : OB → Bool) (v : VV) : Bool := v.1 == 2 && v.2 != 0 && ((obj Ls v).map inb).getD false
/-- what it refers to -/
def sc (Ls : List OB) (v : VV) : List VV := ((obj Ls v).map (·.F)).getD []
theorem obj_some {Ls : List OB} {v : VV} {o : OB} (h : obj Ls v = some o) : o ∈ Ls ∧ o.ref = v := by
  unfold obj at h
  cases hf : fidx Ls v with
  | none => rw [hf] at h; cases h
  | some i =>
    rw [hf] at h
    obtain ⟨o', h1, h2⟩ := fidx_some hf
    simp only [Option.bind_some] at h
    rw [h1] at h; cases h
    exact ⟨List.mem_of_getElem? h1, h2⟩
theorem obj_of_ix {Ls : List OB} {v : VV} {x : Int} (h : ix Ls v = some x) : ∃ (i : Nat) (o : OB), x = i ∧ Ls[i]? = some o ∧ o.ref = v ∧ obj Ls v = some o := by
  unfold ix at h
  cases hf : fidx Ls v with
  | none => rw [hf] at h; cases h
  | some i =>
    rw [hf] at h
    obtain ⟨o, h1, h2⟩ := fidx_some hf
    refine ⟨i, o, ?_, h1, h2, by simp [obj, hf, h1]⟩
    simpa using h.symm
theorem obj_none {Ls : List OB} {v : VV} (h : ix Ls v = none) : obj Ls v = none := by
  unfold ix at h
  cases hf : fidx Ls v with
  | none => simp [obj, hf]
  | some i => rw [hf] at h; cases h
theorem V_obj {Ls : List OB} {inb : OB → Bool} {v : VV} (h : V Ls inb v = true) : ∃ o ∈ Ls, o.ref = v ∧ obj Ls v = some o ∧ inb o = true ∧ v.1 = 2 ∧ v.2 ≠ 0 := by
  unfold V at h
  cases hf : obj Ls v with
  | none => rw [hf] at h; simp at h
  | some o =>
    rw [hf] at h
    simp at h
    exact ⟨o, (obj_some hf).1, (obj_some hf).2, rfl, h.2, h.1.1, h.1.2⟩

/-- the values that are met by a walk -/
inductive Wlk (V : VV → Bool) (sc : VV → List VV) : List VV → List VV → List VV → Prop
  | nil (L) : Wlk V sc L [] L
  | skip {L v vs L'} : (V v = false ∨ v ∈ L) → Wlk V sc L vs L' → Wlk V sc L (v :: vs) L'
  | go {L v vs L1 L'} : V v = true → v ∉ L → Wlk V sc (L ++ [v]) (sc v) L1 → Wlk V sc L1 vs L' → Wlk V sc L (v :: vs) L'
theorem Wlk.append {V : VV → Bool} {sc : VV → List VV} {L vs L1 : List VV} (h : Wlk V sc L vs L1) : ∀ {us L2}, Wlk V sc L1 us L2 → Wlk V sc L (vs ++ us) L2 := by
  induction h with
  | nil L => intro us L2 k; exact k
  | skip h1 h2 ih => intro us L2 k; exact .skip h1 (ih k)
  | go h1 h2 h3 h4 ih1 ih2 => intro us L2 k; exact .go h1 h2 h3 (ih2 k)
theorem Wlk.one_skip {V : VV → Bool} {sc : VV → List VV} {L : List VV} {v : VV} (h : V v = false ∨ v ∈ L) : Wlk V sc L [v] L := .skip h (.nil L)
theorem Wlk.one_go {V : VV → Bool} {sc : VV → List VV} {L L' : List VV} {v : VV} (h : V v = true) (hn : v ∉ L) (k : Wlk V sc (L ++ [v]) (sc v) L') : Wlk V sc L [v] L' := .go h hn k (.nil _)
theorem Wlk.sub {V : VV → Bool} {sc : VV → List VV} {L vs L' : List VV} (h : Wlk V sc L vs L') : ∀ x ∈ L, x ∈ L' := by
  induction h with
  | nil L => exact fun x hx => hx
  | skip h1 h2 ih => exact ih
  | go h1 h2 h3 h4 ih1 ih2 => exact fun x hx => ih2 x (ih1 x (by simp [hx]))
theorem Wlk.met {V : VV → Bool} {sc : VV → List VV} {L vs L' : List VV} (h : Wlk V sc L vs L') : ∀ v ∈ vs, V v = true → v ∈ L' := by
  induction h with
  | nil L => intro v hv; cases hv
  | skip h1 h2 ih =>
    intro x hx hV
    rcases List.mem_cons.1 hx with e | e
    · subst e
      rcases h1 with h1 | h1
      · rw [h1] at hV; cases hV
      · exact h2.sub _ h1
    · exact ih x e hV
  | go h1 h2 h3 h4 ih1 ih2 =>
    intro x hx hV
    rcases List.mem_cons.1 hx with e | e
    · subst e; exact h4.sub _ (h3.sub _ (by simp))
    · exact ih2 x e hV
/-- what was met is closed -/
theorem Wlk.closed {V : VV → Bool} {sc : VV → List VV} {L vs L' : List VV} (h : Wlk V sc L vs L') : ∀ x ∈ L', x ∈ L ∨ (V x = true ∧ ∀ f ∈ sc x, V f = true → f ∈ L') := by
  induction h with
  | nil L => exact fun x hx => .inl hx
  | skip h1 h2 ih => exact ih
  | go h1 h2 h3 h4 ih1 ih2 =>
    intro x hx
    rcases ih2 x hx with e | e
    · rcases ih1 x e with e' | e'
      · rcases List.mem_append.1 e' with e'' | e''
        · exact .inl e''
        · simp at e''; subst e''
          exact .inr ⟨h1, fun f hf hV => h4.sub _ (h3.met f hf hV)⟩
      · exact .inr ⟨e'.1, fun f hf hV => h4.sub _ (e'.2 f hf hV)⟩
    · exact .inr e
/-- .. and the least that is -/
theorem Wlk.least {V : VV → Bool} {sc : VV → List VV} {L vs L' : List VV} (h : Wlk V sc L vs L') (S : VV → Prop) (hS : ∀ x, S x → ∀ f ∈ sc x, V f = true → S f) :
    (∀ x ∈ L, S x) → (∀ x ∈ vs, V x = true → S x) → ∀ x ∈ L', S x := by
  induction h with
  | nil L => exact fun h _ => h
  | skip h1 h2 ih => exact fun h k => ih h (fun x hx => k x (by simp [hx]))
  | go h1 h2 h3 h4 ih1 ih2 =>
    intro h k
    have hv := k _ (by simp) h1
    refine ih2 (ih1 (fun x hx => ?_) (hS _ hv)) (fun x hx => k x (by simp [hx]))
    rcases List.mem_append.1 hx with e | e
    · exact h x e
    · simp at e; subst e; exact hv
/-- a closure is part of what the value reaches -/
theorem closure_in_reach {Ls : List OB} {i1 i2 : OB → Bool} (hi : ∀ o, i1 o = true → i2 o = true) {vs L1 L2 : List VV} (h1 : Wlk (V Ls i1) (sc Ls) [] vs L1) (h2 : Wlk (V Ls i2) (sc Ls) [] vs L2) : ∀ x ∈ L1, x ∈ L2 := by
  have hV : ∀ x, V Ls i1 x = true → V Ls i2 x = true := fun x h => by
    obtain ⟨o, _, _, h1, h2, h3, h4⟩ := V_obj h
    simp [V, h1, hi o h2, h3, h4]
  refine h1.least (fun x => x ∈ L2) (fun x hx f hf hv => ?_) (by simp) (fun x hx hv => h2.met x hx (hV x hv))
  rcases h2.closed x hx with e | e
  · cases e
  · exact e.2 f hf (hV f hv)

theorem meas_mono {Ls : List OB} {L L' : List VV} (h : ∀ x ∈ L, x ∈ L') : meas Ls L' ≤ meas Ls L := by
  unfold meas
  rw [← List.countP_eq_length_filter, ← List.countP_eq_length_filter]
  refine List.countP_mono_left (fun o _ ho => ?_)
  simp at ho ⊢
  exact fun e => ho (h _ e)
theorem meas_go {Ls : List OB} {L : List VV} {o : OB} (ho : o ∈ Ls) (hn : o.ref ∉ L) : meas Ls (L ++ [o.ref]) + 1 ≤ meas Ls L := by
  have e : Ls.filter (fun x => !decide (x.ref ∈ L ++ [o.ref])) = (Ls.filter (fun x => !decide (x.ref ∈ L))).filter (fun x => !decide (x.ref = o.ref)) := by
    rw [List.filter_filter]
    congr 1
    funext x
    simp only [List.mem_append, List.mem_singleton]
    by_cases h1 : x.ref ∈ L <;> by_cases h2 : x.ref = o.ref <;> simp [h1, h2]
  unfold meas
  rw [e]
  exact List.length_filter_lt_length_iff_exists.2 ⟨o, by simp [ho, hn], by simp⟩
end Go.Proofs.Ytkkcfielmpjgeaa
