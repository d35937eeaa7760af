/- The document's Add. -/
import Derived.Test.YtgfpmmiaidnfeaaJ
import Derived.Laws.AppendOwnNone
namespace Go.Proofs.Ytgfpmmiaidnfeaa
open Go.RowKit
set_option linter.unusedVariables false

/-- a row that the document's answer holds: the entries L, in a block from B on -/
def RS (w : World) (B : Nat) (v : Value) (L : List (Int × Int)) : Prop :=
  ∃ ao c, v = .slice ao L.length c ∧ SRow w ao L ∧ L.length ≤ c ∧ c ≤ 9223372036854775807 ∧ (ao = none → c = 0) ∧ ∀ a, ao = some a → B ≤ a.block ∧ a.block < w.heap.size
theorem RS.nil (w : World) (B : Nat) : RS w B (.slice none 0 0) [] := ⟨none, 0, rfl, fun i p h => by simp at h, Nat.le_refl _, by omega, fun _ => rfl, fun a h => by cases h⟩
theorem RS.keep {w w' : World} {B : Nat} {v : Value} {L : List (Int × Int)} (h : RS w B v L) (g : w.grownBy w' none) : RS w' B v L := by
  obtain ⟨ao, c, h1, h2, h3, h4, h5, h6⟩ := h
  exact ⟨ao, c, h1, h2.keep g, h3, h4, h5, fun a ha => ⟨(h6 a ha).1, Nat.lt_of_lt_of_le (h6 a ha).2 g.size⟩⟩
theorem RS.tr {S : Nat → Prop} {w w' : World} {B : Nat} {v : Value} {L : List (Int × Int)} (h : RS w B v L) (k : Tr S w w') (hne : ∀ g, v.ownBlock = some g → ¬ S g) : RS w' B v L := by
  obtain ⟨ao, c, rfl, h2, h3, h4, h5, h6⟩ := h
  refine ⟨ao, c, rfl, fun i p hi => ?_, h3, h4, h5, fun a ha => ⟨(h6 a ha).1, Nat.lt_of_lt_of_le (h6 a ha).2 k.size⟩⟩
  obtain ⟨b, off, rfl, h7, h8⟩ := h2 i p hi
  exact ⟨b, off, rfl, k.cell h7 (hne b rfl), k.cell h8 (hne b rfl)⟩
theorem rs_of_own {w : World} {B base : Nat} {v : Value} {n : Nat} {L : List (Int × Int)} (h : w.ownsRow base 34 2 v n (scl L)) (hB : B ≤ base) : RS w B v L := by
  obtain ⟨ao, c, rfl, h2, h3⟩ := srow_of_own h
  have hl := h.1
  rw [scl_length] at hl
  have hnl : n = L.length := by omega
  subst hnl
  rcases h.2 with ⟨e, e0⟩ | ⟨g, cap, cur, e, hb, hh, h4, h5, h6, h7⟩
  · obtain ⟨rfl, -, rfl⟩ : ao = none ∧ L.length = 0 ∧ c = 0 := by simpa using e
    exact ⟨none, 0, rfl, h2, by omega, by omega, fun _ => rfl, fun a ha => by cases ha⟩
  · obtain ⟨rfl, rfl⟩ : ao = some ⟨g, 0, none⟩ ∧ c = cap := by simpa using e
    exact ⟨_, c, rfl, h2, h4, by unfold maxLen at h5; omega, fun e => (by cases e), fun a ha => ⟨Nat.le_trans hB (h3 a ha).1, (h3 a ha).2⟩⟩
/-- the cells that are appended -/
theorem SRow.news {w : World} {a : Addr} {L : List (Int × Int)} (h : SRow w (some a) L) : ∀ (j : Nat) (u : Value), (scl L)[j]? = some u → w.cell? (a.add j) = some u := fun j u hu => by
  have hj : j < L.length * 2 := by rw [← scl_length]; exact (List.getElem?_eq_some_iff.1 hu).1
  have hj2 : j / 2 < L.length := by omega
  obtain ⟨p, hp⟩ : ∃ p, L[j / 2]? = some p := ⟨L[j / 2], List.getElem?_eq_getElem _⟩
  obtain ⟨b, off, e, h1, h2⟩ := h _ _ hp
  cases e
  obtain ⟨s1, s2⟩ := scl_at L _ _ hp
  rcases Nat.mod_two_eq_zero_or_one j with e | e
  · have : j / 2 * 2 = j := by omega
    rw [this] at s1 h1
    rw [hu] at s1
    rw [Addr.add_lit, h1, s1]
  · have : j / 2 * 2 + 1 = j := by omega
    rw [Nat.add_assoc, this] at h2
    rw [this, hu] at s2
    rw [Addr.add_lit, h2, s2]

set_option maxHeartbeats 1600000 in
theorem radd_any (v : Value) (B : Nat) (L : List (Int × Int)) (w : World) (h : RS w B v L) (hl : L.length < 4000) (hnt : NoTwice L) (hBw : B ≤ w.heap.size) (o x : Int) :
    Calls Try.prog 15 #[.agg #[v], .int .i64 o, .int .i64 x] w fun e w' => ∃ v', e = .returned (.tuple #[.agg #[v'], .int .i64 (addR L o x)]) ∧ RS w' B v' (addL L o x) ∧ (∀ g, v'.ownBlock = some g → v.ownBlock = some g ∨ w.heap.size ≤ g) ∧ w.grownBy w' none := by
  obtain ⟨ao, c, rfl, hs, h3, h4, h5, h6⟩ := h
  have hrs : RS w B (.slice ao L.length c) L := ⟨ao, c, rfl, hs, h3, h4, h5, h6⟩
  have hhas := rhas_any ao c L
  obtain ⟨n, hn⟩ : ∃ n, L.length = n := ⟨_, rfl⟩
  rw [hn] at hhas hl hrs ⊢
  have g0 := g_alloc (g_alloc (g_refl w none) (.cells #[.slice ao n c] 41)) (.cells #[.slice none 0 0] 41)
  have b1 := (Blk.new w #[.slice ao n c] 41).keepn (g_alloc (g_refl _ none) (.cells #[.slice none 0 0] 41))
  have b2 := Blk.new (w.alloc (.cells #[.slice ao n c] 41)) #[.slice none 0 0] 41
  simp only [World.size_alloc] at b2
  have c0 := b1.cell 0 (.slice ao n c) rfl
  have fin : ∀ (r : Int) W, addR L o x = r → addL L o x = L → w.grownBy W none → ∃ v', Ending.returned (.tuple #[.agg #[.slice ao n c], .int .i64 r]) = .returned (.tuple #[.agg #[v'], .int .i64 (addR L o x)]) ∧ RS W B v' (addL L o x) ∧ (∀ g, v'.ownBlock = some g → (Value.slice ao n c).ownBlock = some g ∨ w.heap.size ≤ g) ∧ w.grownBy W none := fun r W hr hL hg => ⟨.slice ao n c, by rw [hr], by rw [hL]; exact hrs.keep hg, fun g hg => .inl hg, hg⟩
  have HHAS := Lib.hid hhas
  have FIN := Lib.hid fin
  have HRS := Lib.hid hrs
  have HSR := Lib.hid (hs.keep g0)
  have HNT := Lib.hid hnt
  have HN := Lib.hid hn
  have B1 := Lib.hid b1
  have B2 := Lib.hid b2
  clear hhas fin hrs hs hnt hn h6 h3 b1 b2
  by_cases hbad : badA o x
  · have hr : addR L o x = 1 := by unfold addR; rw [if_pos hbad]
    have hL : addL L o x = L := by unfold addL; rw [if_pos hbad]
    have HR := Lib.hid hr
    have HL := Lib.hid hL
    clear hr hL
    unfold badA at hbad
    by_cases c1 : o < 0
    · clear hbad
      have z2 := B2.out.cell 0 (.slice none 0 0) rfl
      have f2 := B2.out.free 0
      go_enter Try.func15, Try.ntmps15
      go_wp2_with fail
      exact bodyPost_ret (v := .tuple #[.agg #[.slice ao n c], .int .i64 1]) (by simp [results, Try.results15, go_sem]) rfl (FIN.out 1 _ HR.out HL.out (g_alloc (g_alloc (g_refl w none) _) _))
    by_cases c2 : 1024 ≤ o
    · clear hbad
      have z2 := B2.out.cell 0 (.slice none 0 0) rfl
      have f2 := B2.out.free 0
      go_enter Try.func15, Try.ntmps15
      go_wp2_with fail
      exact bodyPost_ret (v := .tuple #[.agg #[.slice ao n c], .int .i64 1]) (by simp [results, Try.results15, go_sem]) rfl (FIN.out 1 _ HR.out HL.out (g_alloc (g_alloc (g_refl w none) _) _))
    by_cases c3 : x < 0
    · clear hbad
      have z2 := B2.out.cell 0 (.slice none 0 0) rfl
      have f2 := B2.out.free 0
      go_enter Try.func15, Try.ntmps15
      go_wp2_with fail
      exact bodyPost_ret (v := .tuple #[.agg #[.slice ao n c], .int .i64 1]) (by simp [results, Try.results15, go_sem]) rfl (FIN.out 1 _ HR.out HL.out (g_alloc (g_alloc (g_refl w none) _) _))
    · have c4 : 2199023255552 < x := by omega
      clear hbad
      have z2 := B2.out.cell 0 (.slice none 0 0) rfl
      have f2 := B2.out.free 0
      go_enter Try.func15, Try.ntmps15
      go_wp2_with fail
      exact bodyPost_ret (v := .tuple #[.agg #[.slice ao n c], .int .i64 1]) (by simp [results, Try.results15, go_sem]) rfl (FIN.out 1 _ HR.out HL.out (g_alloc (g_alloc (g_refl w none) _) _))
  · have hb1 : 0 ≤ o := by unfold badA at hbad; omega
    have hb2 : o < 1024 := by unfold badA at hbad; omega
    have hb3 : 0 ≤ x := by unfold badA at hbad; omega
    have hb4 : x ≤ 2199023255552 := by unfold badA at hbad; omega
    cases hv : lastV L o with
    | some u =>
      have hr : addR L o x = 80 := by unfold addR; rw [if_neg hbad, if_pos (by rw [hv]; rfl)]
      have hL : addL L o x = L := by unfold addL; rw [if_neg hbad, if_pos (by rw [hv]; rfl)]
      have HR := Lib.hid hr
      have HL := Lib.hid hL
      have HV := Lib.hid hv
      clear hr hL hbad hv
      go_enter Try.func15, Try.ntmps15
      go_wp2_with fail
      refine (HHAS.out _ HSR.out hl HNT.out _).mono ?_
      rw [HV.out]
      rintro e w1 ⟨rfl, hg⟩
      have z1 := (B1.out.keepn hg).cell 0 (.slice ao n c) rfl
      have z2 := (B2.out.keepn hg).cell 0 (.slice none 0 0) rfl
      have f2 := (B2.out.keepn hg).free 0
      go_wp2_with fail
      have r0 := ((B2.out.keepn hg).set 0 (.slice ao n c)).cell 0 (.slice ao n c) (by simp)
      exact bodyPost_ret (v := .tuple #[.agg #[.slice ao n c], .int .i64 80]) (by simp [results, Try.results15, go_sem, r0]) rfl (FIN.out 80 _ HR.out HL.out (g_in (g_trans g0 hg) (g_set (g_refl w1 (some (w.heap.size + 1))) (p := ⟨w.heap.size + 1, 0, none⟩) (.inl rfl) _) (by omega)))
    | none =>
      obtain ⟨i0, hi, hz0, hz1, hz2⟩ := info_parts info34
      have hr : addR L o x = 0 := by unfold addR; rw [if_neg hbad, if_neg (by rw [hv]; simp)]
      have hL : addL L o x = L ++ [(o, x)] := by unfold addL; rw [if_neg hbad, if_neg (by rw [hv]; simp)]
      rw [hr, hL]
      have HV := Lib.hid hv
      clear hr hL hbad hv
      go_enter Try.func15, Try.ntmps15
      go_wp2_with fail
      refine (HHAS.out _ HSR.out hl HNT.out _).mono ?_
      rw [HV.out]
      rintro e w1 ⟨rfl, hg⟩
      have b1 := B1.out.keepn hg
      have b2 := B2.out.keepn hg
      have hsr := HSR.out.keep hg
      have gA := g_trans g0 hg
      have s1 := hg.size
      simp only [World.size_alloc] at s1
      have z1 := b1.cell 0 (.slice ao n c) rfl
      have z2 := b2.cell 0 (.slice none 0 0) rfl
      have fin2 : ∀ (v' : Value) (w2 w3 w4 : World), w2.ownsRow w1.heap.size 34 2 v' n (scl L) → w1.grownBy w2 none → w3 = w2.alloc (.cells #[.int .i64 o, .int .i64 x] 34) → (∀ v'' , w4.ownsRow w1.heap.size 34 2 v'' (n + 1) (scl L ++ [.int .i64 o, .int .i64 x]) → w3.grownBy w4 v'.ownBlock → Blk w4 w.heap.size #[.slice ao n c] 41 ∧ Blk w4 (w.heap.size + 1) #[.slice none 0 0] 41 ∧ w.grownBy w4 none ∧ ∃ a c', v'' = .slice a (n + 1) c' ∧ ∀ g, v''.ownBlock = some g → w1.heap.size ≤ g) := by
        intro v' w2 w3 w4 how hg2 hw3 v'' how2 hg3
        subst hw3
        have k3 : w1.grownBy w4 none := g_own (g_trans hg2 (g_alloc (g_refl _ _) _)) (how.alloc _) hg3
        refine ⟨b1.keepn k3, b2.keepn k3, g_trans gA k3, ?_⟩
        rcases how2.2 with ⟨_, e0⟩ | ⟨g, cap, cur, e, hb, hh, h4, h5, h6, h7⟩
        · omega
        · exact ⟨_, _, e, fun g' hg' => by rw [e] at hg'; cases hg'; exact hb⟩
      have FIN2 := Lib.hid fin2
      clear fin2 b1 b2 FIN
      have HSR1 := Lib.hid hsr
      clear hsr
      cases ao with
      | none =>
        obtain rfl : c = 0 := h5 rfl
        have hL0 : L = [] := by
          cases L with
          | nil => rfl
          | cons p L => obtain ⟨b, off, e, _⟩ := HSR1.out 0 p rfl; cases e
        subst hL0
        obtain rfl : n = 0 := HN.out.symm
        have ho0 : w1.ownsRow w1.heap.size 34 2 (.slice none 0 0) 0 [] := World.ownsRow_nil _ _ _ _
        have HO := Lib.hid ho0
        have HA := Lib.hid (ho0.alloc (.cells #[.int .i64 o, .int .i64 x] 34))
        clear ho0
        go_wp2_with (first | (at_builtin; refine wpList_append_own_none _ rfl _ _ 39 rfl w1.heap.size 34 i0 2 Try.underlying39 hi (.slice none 0 0) 0 [] rfl HO.out rfl ?_) | (at_builtin; refine wpList_append_own _ rfl _ _ 39 rfl w1.heap.size 34 i0 (.agg #[.int .i64 0, .int .i64 0]) 2 16 Try.underlying39 hi hz0 hz1 hz2 rfl (by decide) _ _ _ rfl HA.out ⟨w1.heap.size, 0, none⟩ 1 1 [.int .i64 o, .int .i64 x] rfl rfl ?c1 ?c2 ?c3 ?c4 ?c5 ?_))
        case c1 => exact new_cells _ _ _
        case c2 => simp [Value.oneCell']
        case c3 => unfold maxLen; omega
        case c4 => omega
        case c5 => simp
        intro v'' w4 how4 hg4 _
        obtain ⟨k1, k2, gg, a4, c4', rfl, hob⟩ := FIN2.out (.slice none 0 0) w1 _ w4 HO.out (g_refl _ _) rfl v'' how4 hg4
        have q1 := k1.cell 0 (.slice none 0 0) rfl
        have q2 := k2.cell 0 (.slice none 0 0) rfl
        have qf1 := k1.free 0
        have qf2 := k2.free 0
        have K1 := Lib.hid k1
        have K2 := Lib.hid k2
        have H4 := Lib.hid how4
        clear how4 k1 k2 hg4
        go_wp2_with fail
        have t1 := g_set (g_refl w4 (some w.heap.size)) (p := ⟨w.heap.size, 0, none⟩) (.inl rfl) (.slice a4 1 c4')
        have e2 := K2.out.keeps t1 (by omega)
        generalize hW5 : w4.setCell ⟨w.heap.size, 0, none⟩ (.slice a4 1 c4') = W5 at *
        have t2 := g_set (g_refl W5 (some (w.heap.size + 1))) (p := ⟨w.heap.size + 1, 0, none⟩) (.inl rfl) (.slice a4 1 c4')
        have r0 := (e2.set 0 (.slice a4 1 c4')).cell 0 (.slice a4 1 c4') (by simp)
        have h5' := World.ownsRow.kept H4.out t1 (.inr (fun e => by have := hob _ e; omega))
        have h6' := World.ownsRow.kept h5' t2 (.inr (fun e => by have := hob _ e; omega))
        refine bodyPost_ret (v := .tuple #[.agg #[.slice a4 1 c4'], .int .i64 0]) (by simp [results, Try.results15, go_sem, r0]) rfl ⟨_, rfl, ?_, fun g hg => .inr (by have := hob g hg; omega), g_in (g_in gg t1 (Nat.le_refl _)) t2 (by omega)⟩
        refine rs_of_own (base := w1.heap.size) (n := 1) ?_ (by omega)
        rw [scl_append]
        exact h6'
      | some ad =>
        have ho0 : w1.ownsRow w1.heap.size 34 2 (.slice none 0 0) 0 [] := World.ownsRow_nil _ _ _ _
        have hnews := HSR1.out.news
        have hln : (scl L).length = n * 2 := by rw [scl_length, HN.out]
        have HO := Lib.hid ho0
        have HNE := Lib.hid hnews
        have HLN := Lib.hid hln
        clear ho0 hnews hln
        go_wp2_with (at_builtin; refine wpList_append_own _ rfl _ _ 39 rfl w1.heap.size 34 i0 (.agg #[.int .i64 0, .int .i64 0]) 2 16 Try.underlying39 hi hz0 hz1 hz2 rfl (by decide) _ _ _ rfl HO.out ad n c (scl L) rfl HLN.out HNE.out ?c2 ?c3 ?c4 ?c5 ?_)
        case c2 => intro u hu; simp [scl] at hu; obtain ⟨a, b, _, h | h⟩ := hu <;> subst h <;> rfl
        case c3 => unfold maxLen; omega
        case c4 => omega
        case c5 => exact Nat.le_refl _
        intro v' w2 how2 hg2 _
        try simp only [Nat.zero_add, List.nil_append] at how2
        have hg2' : w1.grownBy w2 none := hg2
        have y1 := hg2'.cell z1 (by simp)
        have y2 := hg2'.cell z2 (by simp)
        have HO2 := Lib.hid how2
        have HA := Lib.hid (how2.alloc (.cells #[.int .i64 o, .int .i64 x] 34))
        have HG2 := Lib.hid hg2'
        clear how2 hg2 hg2'
        go_wp2_with (at_builtin; refine wpList_append_own _ rfl _ _ 39 rfl w1.heap.size 34 i0 (.agg #[.int .i64 0, .int .i64 0]) 2 16 Try.underlying39 hi hz0 hz1 hz2 rfl (by decide) _ _ _ rfl HA.out ⟨w2.heap.size, 0, none⟩ 1 1 [.int .i64 o, .int .i64 x] rfl rfl ?c1 ?c2 ?c3 ?c4 ?c5 ?_)
        case c1 => exact new_cells _ _ _
        case c2 => simp [Value.oneCell']
        case c3 => unfold maxLen; omega
        case c4 => omega
        case c5 => have := HG2.out.size; simp; omega
        intro v'' w4 how4 hg4 _
        obtain ⟨k1, k2, gg, a4, c4', rfl, hob⟩ := FIN2.out v' w2 _ w4 HO2.out HG2.out rfl v'' how4 hg4
        have q1 := k1.cell 0 (.slice (some ad) n c) rfl
        have q2 := k2.cell 0 (.slice none 0 0) rfl
        have qf1 := k1.free 0
        have qf2 := k2.free 0
        have K1 := Lib.hid k1
        have K2 := Lib.hid k2
        have H4 := Lib.hid how4
        clear how4 k1 k2 hg4
        go_wp2_with fail
        have t1 := g_set (g_refl w4 (some w.heap.size)) (p := ⟨w.heap.size, 0, none⟩) (.inl rfl) (.slice a4 (n + 1) c4')
        have e2 := K2.out.keeps t1 (by omega)
        generalize hW5 : w4.setCell ⟨w.heap.size, 0, none⟩ (.slice a4 (n + 1) c4') = W5 at *
        have t2 := g_set (g_refl W5 (some (w.heap.size + 1))) (p := ⟨w.heap.size + 1, 0, none⟩) (.inl rfl) (.slice a4 (n + 1) c4')
        have r0 := (e2.set 0 (.slice a4 (n + 1) c4')).cell 0 (.slice a4 (n + 1) c4') (by simp)
        have h5' := World.ownsRow.kept H4.out t1 (.inr (fun e => by have := hob _ e; omega))
        have h6' := World.ownsRow.kept h5' t2 (.inr (fun e => by have := hob _ e; omega))
        refine bodyPost_ret (v := .tuple #[.agg #[.slice a4 (n + 1) c4'], .int .i64 0]) (by simp [results, Try.results15, go_sem, r0]) rfl ⟨_, rfl, ?_, fun g hg => .inr (by have := hob g hg; omega), g_in (g_in gg t1 (Nat.le_refl _)) t2 (by omega)⟩
        refine rs_of_own (base := w1.heap.size) (n := (n + 1)) ?_ (by omega)
        rw [scl_append]
        exact h6'
end Go.Proofs.Ytgfpmmiaidnfeaa
