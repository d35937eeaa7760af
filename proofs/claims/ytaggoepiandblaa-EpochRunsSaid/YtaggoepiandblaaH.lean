/- The document's slots: each function of the reference by its contract. -/
import Derived.Test.YtaggoepiandblaaG
namespace Go.Proofs.Ytaggoepiandblaa
open Go.RowKit
set_option linter.unusedVariables false

/-- a slice of numbers whose row lies from block lo on -/
def RIs (w : World) (ao : Option Addr) (n : Nat) (f : Nat → Int) (lo : Nat) : Prop := IRow w ao n f ∧ ∀ a, ao = some a → lo ≤ a.block ∧ a.block < w.heap.size

theorem ris_of_own {w : World} {base : Nat} {v : Value} {n : Nat} {f : Nat → Int} (h : w.ownsRow base 3 1 v n (firstK f n)) : ∃ ao c, v = .slice ao n c ∧ RIs w ao n f base := by
  obtain ⟨ao, c, h1, h2, h3⟩ := irow_of_own h
  exact ⟨ao, c, h1, h2, h3⟩

theorem made_firstK (n : Nat) : (madeCells #[Value.int .i64 0] n).toList = firstK (fun _ => 0) n := by
  apply List.ext_getElem
  · simp [madeCells, firstK]
  · intro i h1 h2
    simp [madeCells, firstK, Nat.mod_one]

set_option maxHeartbeats 400000 in
theorem rnew_ok (n : Nat) (w : World) (l1 : 1 ≤ n) (l2 : n ≤ 64) :
    Calls Try.prog 13 #[.int .i64 n] w fun e w' => ∃ ao c, e = .returned (.tuple #[.agg #[.slice ao n c], .int .i64 0]) ∧ RIs w' ao n (fun _ => 0) w.heap.size ∧ w.grownBy w' none := by
  obtain ⟨i0, hi, hz0, hz1, hz2⟩ := info_parts info3
  have h1 : (1 : Int) ≤ n := by omega
  have h2 : (n : Int) ≤ 64 := by omega
  go_enter Try.func13, Try.ntmps13
  go_wp2_with (at_make; refine wpList_make_full _ rfl _ _ 28 rfl w.heap.size 3 i0 (.int .i64 0) 1 Try.underlying28 hi hz0 hz1 _ _ _ _ n rfl rfl rfl rfl ?b2 ?b3 ?b4 ?_)
  case b2 => rw [hz2]; omega
  case b3 => unfold maxLen; omega
  case b4 => simp
  intro w1 hown hgrow
  rw [made_firstK] at hown
  have hb := (Blk.new w #[.slice none 0 0] 38).keepn hgrow
  have c0 := hb.cell 0 (.slice none 0 0) rfl
  have f0 := hb.free 0
  have hg := g_trans (g_alloc (g_refl w none) (.cells #[.slice none 0 0] 38)) hgrow
  have HO := Lib.hid hown
  clear hown hgrow hb
  go_wp2_with fail
  refine bodyPost_ret (v := .tuple #[.agg #[.slice (some ⟨w.heap.size + 1, 0, none⟩) n n], .int .i64 0]) (by simp [results, Try.results13, go_sem, c0]) rfl ?_
  obtain ⟨ao, c, hv, hr⟩ := ris_of_own HO.out
  cases hv
  refine ⟨_, _, rfl, ⟨fun i hi => ?_, fun a ha => by rw [World.size_setCell]; exact hr.2 a ha⟩, g_in hg (g_set (g_refl w1 (some w.heap.size)) (.inl rfl) _) (Nat.le_refl _)⟩
  obtain ⟨b, off, e, h⟩ := hr.1 i hi
  cases e
  exact ⟨_, _, rfl, (g_set (g_refl w1 (some w.heap.size)) (p := ⟨w.heap.size, 0, none⟩) (.inl rfl) _).cell h (by simp)⟩

set_option maxHeartbeats 800000 in
theorem rnew_no (n : Int) (w : World) (h : n < 1 ∨ 64 < n) :
    Calls Try.prog 13 #[.int .i64 n] w fun e w' => e = .returned (.tuple #[.agg #[.slice none 0 0], .int .i64 50]) ∧ w.grownBy w' none := by
  rcases h with h | h
  all_goals
    go_enter Try.func13, Try.ntmps13
    go_wp2
    go_returns
    exact ⟨rfl, by repeat (first | exact g_refl _ _ | apply g_alloc)⟩

set_option maxHeartbeats 800000 in
theorem rat_any (ao : Option Addr) (n c : Nat) (f : Nat → Int) (w : World) (hz : IRow w ao n f) (h64 : n ≤ 64) (t : Int) :
    Calls Try.prog 21 #[.agg #[.slice ao n c], .int .i64 t] w fun e w' => e = .returned (.int .i64 (sat n f t)) ∧ w.grownBy w' none := by
  by_cases h1 : t < 0
  · have hs : sat n f t = 0 := by unfold sat; rw [if_neg (by omega)]
    rw [hs]
    clear hs
    go_enter Try.func21, Try.ntmps21
    go_wp2_with fail
    go_ret
    exact ⟨rfl, g_alloc (g_refl _ _) _⟩
  · by_cases h2 : (n : Int) ≤ t
    · have hs : sat n f t = 0 := by unfold sat; rw [if_neg (by omega)]
      rw [hs]
      clear hs
      go_enter Try.func21, Try.ntmps21
      go_wp2_with fail
      go_ret
      exact ⟨rfl, g_alloc (g_refl _ _) _⟩
    · obtain ⟨k, rfl⟩ := Int.eq_ofNat_of_zero_le (show 0 ≤ t by omega)
      have hs : sat n f k = f k := by unfold sat; rw [if_pos (by omega)]; simp
      rw [hs]
      clear hs
      obtain ⟨b, off, rfl, hc⟩ := hz k (by omega)
      have hc2 := (g_alloc (g_refl w none) (.cells #[.slice (some ⟨b, off, none⟩) n c] 38)).cell hc (by simp)
      have hk : (k : Int) < n := by omega
      go_enter Try.func21, Try.ntmps21
      go_wp2_with fail
      go_ret
      exact ⟨rfl, g_alloc (g_refl _ _) _⟩

theorem rin_fact {n : Nat} {f : Nat → Int} {t : Int} (hp : 0 ≤ sat n f t) : (sat n f t % 2 == 1) = sin n f t := by
  unfold sin
  by_cases h : sat n f t % 2 = 1 <;> simp [h]

set_option maxHeartbeats 800000 in
theorem rin_any (ao : Option Addr) (n c : Nat) (f : Nat → Int) (w : World) (hz : IRow w ao n f) (h64 : n ≤ 64) (t : Int) (hp : 0 ≤ sat n f t) :
    Calls Try.prog 22 #[.agg #[.slice ao n c], .int .i64 t] w fun e w' => e = .returned (.bool (sin n f t)) ∧ w.grownBy w' none := by
  have hs := rin_fact hp
  have HS := Lib.hid hs
  clear hs
  have hz1 := hz.keep (g_alloc (g_refl w none) (.cells #[.slice ao n c] 38))
  have HZ := Lib.hid hz1
  clear hz1 hz
  go_enter Try.func22, Try.ntmps22
  go_wp2_with fail
  refine (rat_any _ _ _ _ _ HZ.out h64 _).mono ?_
  rintro e w1 ⟨rfl, hg⟩
  have hg' := g_trans (g_alloc (g_refl w none) (.cells #[.slice ao n c] 38)) hg
  generalize sat n f t = v at hp HS ⊢
  go_wp2_with fail
  go_ret
  exact ⟨ret_bool HS.out, hg'⟩

theorem IRow.set {w : World} {ao : Option Addr} {n : Nat} {f : Nat → Int} {b off t : Nat} (h : IRow w ao n f) (ha : ao = some ⟨b, off, none⟩) (ht : t < n) (v : Int) :
    IRow (w.setCell ⟨b, off + t, none⟩ (.int .i64 v)) ao n (fun i => if i = t then v else f i) := fun i hi => by
  subst ha
  obtain ⟨b', off', e, hc⟩ := h i hi
  cases e
  refine ⟨_, _, rfl, ?_⟩
  by_cases e : i = t
  · subst e
    simp [World.cell?_setCell_same' w ⟨b, off + i, none⟩ (.int .i64 v) (by rw [hc]; rfl)]
  · have ho : (⟨b, off + t, none⟩ : Addr) ≠ ⟨b, off + i, none⟩ := by intro hh; injection hh; omega
    rw [World.cell?_setCell_other (h := ho), hc]
    simp [e]

/-- the turn that is refused -/
theorem rturn_no (ao : Option Addr) (n c : Nat) (f : Nat → Int) (w : World) (hz : IRow w ao n f) (h64 : n ≤ 64) (t : Int) (i : Bool) (hno : turnR n f t i ≠ 0) (hp : 0 ≤ sat n f t) :
    Calls Try.prog 24 #[.agg #[.slice ao n c], .int .i64 t, .int .i64 (if i then 1 else 0)] w fun e w' => e = .returned (.tuple #[.agg #[.slice ao n c], .int .i64 (turnR n f t i)]) ∧ w.grownBy w' none := by
  by_cases h1 : t < 0 ∨ (n : Int) ≤ t
  · have hr : turnR n f t i = 5 := by unfold turnR; rw [if_pos h1]
    rw [hr]
    clear hr hno
    by_cases h2 : t < 0
    · clear h1
      go_enter Try.func24, Try.ntmps24
      go_wp2_with fail
      try go_region
      all_goals
        go_wp2_with fail
        go_returns
        exact ⟨rfl, by repeat (first | exact g_refl _ _ | apply g_drew | apply g_alloc)⟩
    · have h3 : (n : Int) ≤ t := by omega
      clear h1
      go_enter Try.func24, Try.ntmps24
      go_wp2_with fail
      try go_region
      all_goals
        go_wp2_with fail
        go_returns
        exact ⟨rfl, by repeat (first | exact g_refl _ _ | apply g_drew | apply g_alloc)⟩
  · obtain ⟨k, rfl⟩ := Int.eq_ofNat_of_zero_le (show 0 ≤ t by omega)
    have hk : (k : Int) < n := by omega
    have hsn : sin n f k ≠ i := fun e => hno (by unfold turnR; rw [if_neg h1, if_pos e])
    have hr : turnR n f k i = 50 := by unfold turnR; rw [if_neg h1, if_neg hsn]
    rw [hr]
    obtain ⟨b, off, rfl, hc⟩ := hz k (by omega)
    have hs : sat n f k = f k := by unfold sat; rw [if_pos (by omega)]; simp
    rw [hs] at hp
    have hb : (f k % 2 != (if i then 1 else 0)) = true := by
      rw [sin_at (by omega)] at hsn
      cases i <;> simp at hsn ⊢ <;> omega
    have hc2 := (g_alloc (g_refl w none) (.cells #[.slice (some ⟨b, off, none⟩) n c] 38)).cell hc (by simp)
    have hc3 := (g_alloc (g_alloc (g_refl w none) (.cells #[.slice (some ⟨b, off, none⟩) n c] 38)) (.cells #[.slice none 0 0] 38)).cell hc (by simp)
    clear hr hno hsn hs h1
    generalize (if i = true then (1 : Int) else 0) = od at hb ⊢
    generalize f k = v at hp hb hc hc2 hc3
    go_enter Try.func24, Try.ntmps24
    go_wp2_with fail
    try go_region
    all_goals
      go_wp2_with fail
      go_returns
      exact ⟨rfl, by repeat (first | exact g_refl _ _ | apply g_drew | apply g_alloc)⟩

/-- the turn that is done: the row is a new one -/
theorem rturn_yes (ao : Option Addr) (n c : Nat) (f : Nat → Int) (w : World) (hz : IRow w ao n f) (h64 : n ≤ 64) (t : Int) (i : Bool) (hy : turnR n f t i = 0) (hp : 0 ≤ sat n f t) (hp2 : sat n f t < 1000000) :
    Calls Try.prog 24 #[.agg #[.slice ao n c], .int .i64 t, .int .i64 (if i then 1 else 0)] w fun e w' => ∃ ao' c', e = .returned (.tuple #[.agg #[.slice ao' n c'], .int .i64 0]) ∧ RIs w' ao' n (turnF n f t i) w.heap.size ∧ w.grownBy w' none := by
  obtain ⟨i0, hi, hz0, hz1, hz2⟩ := info_parts info3
  obtain ⟨t0, tn⟩ := turnR_in hy
  obtain ⟨k, rfl⟩ := Int.eq_ofNat_of_zero_le t0
  have hk : (k : Int) < n := by omega
  have hs : sat n f k = f k := by unfold sat; rw [if_pos (by omega)]; simp
  have hF : turnF n f k i = fun j => if j = k then f k + 1 else f j := by funext j; unfold turnF; rw [hy]; simp
  have hsn : sin n f k = i := by unfold turnR at hy; rw [if_neg (by omega)] at hy; cases h : decide (sin n f k = i) <;> simp_all
  rw [hs] at hp hp2
  have hb : (f k % 2 != (if i then 1 else 0)) = false := by
    rw [sin_at (by omega)] at hsn
    cases i <;> simp at hsn ⊢ <;> omega
  rw [hF]
  obtain ⟨b, off, rfl, hc⟩ := hz k (by omega)
  have g2 := g_alloc (g_alloc (g_refl w none) (.cells #[.slice (some ⟨b, off, none⟩) n c] 38)) (.cells #[.slice none 0 0] 38)
  have hc2 := (g_alloc (g_refl w none) (.cells #[.slice (some ⟨b, off, none⟩) n c] 38)).cell hc (by simp)
  have hc3 := g2.cell hc (by simp)
  have HB := Lib.hid hb
  clear hsn hs hF hy t0 tn
  generalize hod : (if i = true then (1 : Int) else 0) = od at hb ⊢
  clear hod HB
  go_enter Try.func24, Try.ntmps24
  have hoe : (((w.alloc (.cells #[.slice (some ⟨b, off, none⟩) n c] 38)).alloc (.cells #[.slice none 0 0] 38)).alloc (.cells #[] 3)).ownsRow (w.heap.size + 1 + 1) 3 1 (.slice (some ⟨w.heap.size + 1 + 1, 0, none⟩) 0 0) 0 [] := by
    have := World.ownsRow_made ((w.alloc (.cells #[.slice (some ⟨b, off, none⟩) n c] 38)).alloc (.cells #[.slice none 0 0] 38)) (base := w.heap.size + 1 + 1) (e := 3) (size := 1) #[] 0 (by simp) (by unfold maxLen; omega) rfl
    simpa using this
  have g3 : w.grownBy (((w.alloc (.cells #[.slice (some ⟨b, off, none⟩) n c] 38)).alloc (.cells #[.slice none 0 0] 38)).alloc (.cells #[] 3)) none := g_alloc g2 _
  have hnews : ∀ (j : Nat) (u : Value), (firstK f n)[j]? = some u → (((w.alloc (.cells #[.slice (some ⟨b, off, none⟩) n c] 38)).alloc (.cells #[.slice none 0 0] 38)).alloc (.cells #[] 3)).cell? ((⟨b, off, none⟩ : Addr).add j) = some u := fun j u hu => by
    have hj : j < n := by have := (List.getElem?_eq_some_iff.1 hu).1; simpa [firstK] using this
    obtain ⟨b', off', e, h⟩ := hz j hj
    cases e
    have hu' : u = .int .i64 (f j) := by simpa [firstK, hj] using hu.symm
    rw [Addr.add_lit, hu']
    exact g3.cell h (by simp)
  have HO := Lib.hid hoe
  have HNE := Lib.hid hnews
  clear hoe hnews
  go_wp2_with (at_builtin; refine wpList_append_own _ rfl _ _ 28 rfl (w.heap.size + 1 + 1) 3 i0 (.int .i64 0) 1 8 Try.underlying28 hi hz0 hz1 hz2 rfl (by decide) _ _ _ rfl HO.out ⟨b, off, none⟩ n c (firstK f n) rfl ?c0 ?c1 ?c2 ?c3 ?c4 ?c5 ?_)
  case c0 => simp [firstK]
  case c1 => exact HNE.out
  case c2 => intro u hu; simp [firstK] at hu; obtain ⟨j, _, rfl⟩ := hu; rfl
  case c3 => unfold maxLen; omega
  case c4 => omega
  case c5 => simp
  intro v' w4 hown hgrow _
  obtain ⟨g, cap, hv, hbg, hgl, hrow, hfr⟩ : ∃ g cap, v' = .slice (some ⟨g, 0, none⟩) n cap ∧ w.heap.size + 1 + 1 ≤ g ∧ g < w4.heap.size ∧ IRow w4 (some ⟨g, 0, none⟩) n f ∧ ∀ o, w4.frozen? ⟨g, o, none⟩ = false := by
    obtain ⟨ao, c', e1, e2, e3⟩ := irow_of_own hown
    rcases hown.2 with ⟨_, e⟩ | ⟨g, cap, cur, rfl, hbg, hh, _⟩
    · omega
    · cases e1
      exact ⟨g, _, rfl, hbg, (e3 _ rfl).2, e2, fun o => by simp [World.frozen?, hh]⟩
  have hb0 := ((Blk.new w #[.slice (some ⟨b, off, none⟩) n c] 38).keepn (g_alloc (g_alloc (g_refl _ _) (.cells #[.slice none 0 0] 38)) (.cells #[] 3))).keep hgrow (by simp only [Value.ownBlock, ne_eq, Option.some.injEq]; omega)
  have hb1 : Blk w4 (w.heap.size + 1) #[.slice none 0 0] 38 := by
    have h := (Blk.new (w.alloc (.cells #[.slice (some ⟨b, off, none⟩) n c] 38)) #[.slice none 0 0] 38).keepn (g_alloc (g_refl _ _) (.cells #[] 3))
    have h2 := h.keep hgrow (by simp only [Value.ownBlock, ne_eq, Option.some.injEq]; simp)
    simpa using h2
  have g4 : w.grownBy w4 none := g_in g3 (g := w.heap.size + 1 + 1) (by simpa only [Value.ownBlock] using hgrow) (by omega)
  rw [hv]
  clear hv hown hgrow HO HNE hc2 hc3 g2 g3
  have d0 := hb0.cell 0 (.slice (some ⟨b, off, none⟩) n c) rfl
  have e0 := hb0.free 0
  have d1 := hb1.cell 0 (.slice none 0 0) rfl
  have e1 := hb1.free 0
  obtain ⟨_, _, hx, hck⟩ := hrow k (by omega)
  cases hx
  have hck : w4.cell? ⟨g, k, none⟩ = some (.int .i64 (f k)) := by simpa using hck
  have hfk := hfr k
  have n1 : ¬ g = w.heap.size := by omega
  have n2 : ¬ g = w.heap.size + 1 := by omega
  have n3 : ¬ w.heap.size = g := by omega
  have n4 : ¬ w.heap.size + 1 = g := by omega
  have HR := Lib.hid hrow
  clear hb0 hb1 hrow hfr
  go_wp2_with fail
  refine bodyPost_ret (v := .tuple #[.agg #[.slice (some ⟨g, 0, none⟩) n cap], .int .i64 0]) (by simp [results, Try.results24, go_sem, d1]) rfl ?_
  have k1 : w4.grownBy (w4.setCell ⟨w.heap.size, 0, none⟩ (.slice (some ⟨g, 0, none⟩) n cap)) (some w.heap.size) := g_set (g_refl _ _) (.inl rfl) _
  have r1 := (HR.out.keeps k1 (fun a ha => by cases ha; exact n1)).set rfl (show k < n by omega) (f k + 1)
  simp only [Nat.zero_add] at r1
  have k2 : (w4.setCell ⟨w.heap.size, 0, none⟩ (.slice (some ⟨g, 0, none⟩) n cap)).grownBy ((w4.setCell ⟨w.heap.size, 0, none⟩ (.slice (some ⟨g, 0, none⟩) n cap)).setCell ⟨g, k, none⟩ (.int .i64 (f k + 1))) (some g) := g_set (g_refl _ _) (.inl rfl) _
  have k3 : ((w4.setCell ⟨w.heap.size, 0, none⟩ (.slice (some ⟨g, 0, none⟩) n cap)).setCell ⟨g, k, none⟩ (.int .i64 (f k + 1))).grownBy (((w4.setCell ⟨w.heap.size, 0, none⟩ (.slice (some ⟨g, 0, none⟩) n cap)).setCell ⟨g, k, none⟩ (.int .i64 (f k + 1))).setCell ⟨w.heap.size + 1, 0, none⟩ (.slice (some ⟨g, 0, none⟩) n cap)) (some (w.heap.size + 1)) := g_set (g_refl _ _) (.inl rfl) _
  have r2 := r1.keeps k3 (fun a ha => by cases ha; exact n2)
  refine ⟨_, _, rfl, ⟨r2, fun a ha => ?_⟩, g_in (g_in (g_in g4 k1 (by omega)) k2 (by omega)) k3 (by omega)⟩
  cases ha
  simp only [World.size_setCell]
  exact ⟨by omega, hgl⟩
end Go.Proofs.Ytaggoepiandblaa
