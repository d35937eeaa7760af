/- Sets of what was read: the document's Add. -/
import Derived.Test.YtbaocimmpiojeaaJ
namespace Go.Proofs.Ytbaocimmpiojeaa
open Go.RowKit
set_option linter.unusedVariables false
set_option linter.unusedSimpArgs false

theorem g_own3 {a w w' : World} {B : Nat} {e : TypeId} {size n : Nat} {v : Value} {xs : List Value} (h : a.grownBy w none) (hB : a.heap.size ≤ B) (ho : w.ownsRow B e size v n xs) (k : w.grownBy w' v.ownBlock) : a.grownBy w' none := g_own2 h hB ho k
/-- a set of the document's, as a value: the old row, or a row behind n0 -/
def RV (w : World) (most : Int) (L0 : List (Int × Int)) (a0 : Option Addr) (n0 : Nat) (L : List (Int × Int)) (x : Value) : Prop := ∃ ao c, x = .agg #[.int .i64 most, .slice ao L.length c] ∧ SRow w ao L ∧ L.length ≤ c ∧ c ≤ 9223372036854775807 ∧ (ao = none → L = []) ∧ ((ao = a0 ∧ L = L0) ∨ ∀ a, ao = some a → n0 ≤ a.block)
theorem size_al2 (w : World) (o : Obj) : (w.alloc o).heap.size = w.heap.size + 1 := by simp

set_option maxRecDepth 100000 in
set_option maxHeartbeats 6400000 in
theorem radd_any (most : Int) (ao : Option Addr) (c : Nat) (L : List (Int × Int)) (k v : Int) (w : World) (hs : SRow w ao L) (hc : L.length ≤ c) (hcm : c ≤ 9223372036854775807) (hnil : ao = none → L = []) (hl : L.length ≤ 4999) :
    Calls Try.prog 15 #[.agg #[.int .i64 most, .slice ao L.length c], .int .i64 k, .int .i64 v] w fun e w' => ∃ x, e = .returned (.tuple #[x, .int .i64 (addP most L k v).1]) ∧ RV w' most L ao w.heap.size (addP most L k v).2 x ∧ w.grownBy w' none := by
  obtain ⟨i0, hi, hz0, hz1, hz2⟩ := info_parts info37
  obtain ⟨ap, hap⟩ : ∃ ap, addP most L k v = ap := ⟨_, rfl⟩
  rw [hap]
  have HAP := Lib.hid hap
  have ga := g_alloc (g_refl w none) (.cells #[.int .i64 most, .slice ao L.length c] 40)
  have gz := g_alloc (g_refl (w.alloc (.cells #[.int .i64 most, .slice ao L.length c] 40)) none) (.cells #[.int .i64 0, .slice none 0 0] 40)
  have BP := Lib.hid ((Blk.new w #[.int .i64 most, .slice ao L.length c] 40).keepn gz)
  have BR : Hid (Blk ((w.alloc (.cells #[.int .i64 most, .slice ao L.length c] 40)).alloc (.cells #[.int .i64 0, .slice none 0 0] 40)) (w.heap.size + 1) #[.int .i64 0, .slice none 0 0] 40) := Lib.hid (by
    have h := Blk.new (w.alloc (.cells #[.int .i64 most, .slice ao L.length c] 40)) #[.int .i64 0, .slice none 0 0] 40
    rw [size_al2] at h; exact h)
  have G0 := Lib.hid (g_trans ga gz)
  have HS := Lib.hid hs
  have HNI := Lib.hid hnil
  clear hap ga gz hs hnil
  by_cases hbad : k < 0 ∨ 1024 ≤ k ∨ v < 0 ∨ 2199023255552 < v
  · obtain rfl : ap = (1, L) := by rw [← HAP.out, addP, if_pos hbad]
    have hcs : k < 0 ∨ (¬ k < 0 ∧ 1023 < k) ∨ (¬ k < 0 ∧ ¬ 1023 < k ∧ v < 0) ∨ (¬ k < 0 ∧ ¬ 1023 < k ∧ ¬ v < 0 ∧ 2199023255552 < v) := by omega
    have hF : Hid (Blk ((w.alloc (.cells #[.int .i64 most, .slice ao L.length c] 40)).alloc (.cells #[.int .i64 most, .slice ao L.length c] 40)) (w.heap.size + 1) #[.int .i64 most, .slice ao L.length c] 40) := Lib.hid (by
      have h := Blk.new (w.alloc (.cells #[.int .i64 most, .slice ao L.length c] 40)) #[.int .i64 most, .slice ao L.length c] 40
      rw [size_al2] at h; exact h)
    have GF := Lib.hid (g_trans (g_alloc (g_refl w none) (.cells #[.int .i64 most, .slice ao L.length c] 40)) (g_alloc (g_refl (w.alloc (.cells #[.int .i64 most, .slice ao L.length c] 40)) none) (.cells #[.int .i64 most, .slice ao L.length c] 40)))
    clear hbad HAP BP BR G0
    have k0 := hF.out.cell 0 (.int .i64 most) rfl
    have k1 := hF.out.cell 1 (.slice ao L.length c) rfl
    rcases hcs with h1 | ⟨h1, h2⟩ | ⟨h1, h2, h3⟩ | ⟨h1, h2, h3, h4⟩
    all_goals
      go_enter Try.func15, Try.ntmps15
      go_wp2_with fail
      exact bodyPost_ret (v := .tuple #[.agg #[.int .i64 most, .slice ao L.length c], .int .i64 1]) (by simp [results, Try.results15, go_sem, k0, k1]) rfl ⟨_, rfl, ⟨ao, c, rfl, HS.out.keep GF.out, hc, hcm, HNI.out, .inl ⟨rfl, rfl⟩⟩, GF.out⟩
  · have b1 : ¬ k < 0 := by omega
    have b2 : ¬ 1023 < k := by omega
    have b3 : ¬ v < 0 := by omega
    have b4 : ¬ 2199023255552 < v := by omega
    have HA2 : Hid (ap = if (hasP L k).2 then (0, L) else if most ≤ L.length then (60, L) else (0, L ++ [(k, v)])) := Lib.hid (by rw [← HAP.out, addP, if_neg hbad])
    clear hbad HAP
    obtain ⟨hp, hhp⟩ : ∃ hp, hasP L k = hp := ⟨_, rfl⟩
    have HH : Hid (∀ W, w.grownBy W none → Calls Try.prog 16 #[.agg #[.int .i64 most, .slice ao L.length c], .int .i64 k] W fun e w' => e = .returned (.tuple #[.int .i64 hp.1, .bool hp.2]) ∧ W.grownBy w' none) := Lib.hid (fun W g => by rw [← hhp]; exact rhas_any most ao L.length c L k W (HS.out.keep g) rfl (by omega))
    rw [hhp] at HA2
    clear hhp
    obtain ⟨n, hn⟩ : ∃ n, L.length = n := ⟨_, rfl⟩
    rw [hn] at BP BR G0 HH HA2 hc hl ⊢
    have HN := Lib.hid hn
    clear hn
    have y0 := BP.out.cell 0 _ rfl
    have y1 := BP.out.cell 1 _ rfl
    go_enter Try.func15, Try.ntmps15
    go_wp2_with fail
    generalize (w.alloc (.cells #[.int .i64 most, .slice ao n c] 40)).alloc (.cells #[.int .i64 0, .slice none 0 0] 40) = W0 at *
    refine (HH.out _ G0.out).mono ?_
    rintro e w1 ⟨rfl, g1⟩
    have BP1 := Lib.hid (BP.out.keepn g1)
    have BR1 := Lib.hid (BR.out.keepn g1)
    have G1 := Lib.hid (g_trans G0.out g1)
    clear g1 y0 y1
    have y0 := BP1.out.cell 0 _ rfl
    have y1 := BP1.out.cell 1 _ rfl
    have r0 := BR1.out.cell 0 _ rfl
    have r1 := BR1.out.cell 1 _ rfl
    have f0 := BR1.out.free 0
    have f1 := BR1.out.free 1
    have p1 := BP1.out.free 1
    have hbs : w.heap.size + 1 < w1.heap.size := BR1.out.lt
    obtain ⟨h1, h2⟩ := hp
    simp only at HA2
    have HRES : Hid (∀ f : Int, ap = (f, L) → (∃ x, Ending.returned (.tuple #[.agg #[.int .i64 most, .slice ao n c], .int .i64 f]) = .returned (.tuple #[x, .int .i64 ap.1]) ∧ RV ((w1.setCell ⟨w.heap.size + 1, 0, none⟩ (.int .i64 most)).setCell ⟨w.heap.size + 1, 1, none⟩ (.slice ao n c)) most L ao w.heap.size ap.2 x ∧ w.grownBy ((w1.setCell ⟨w.heap.size + 1, 0, none⟩ (.int .i64 most)).setCell ⟨w.heap.size + 1, 1, none⟩ (.slice ao n c)) none)) := Lib.hid (fun f e => by
      subst e
      have gg := g_in G1.out (g_set (g_set (g_refl w1 (some (w.heap.size + 1))) (p := ⟨w.heap.size + 1, 0, none⟩) (.inl rfl) (.int .i64 most)) (p := ⟨w.heap.size + 1, 1, none⟩) (.inl rfl) (.slice ao n c)) (by omega)
      exact ⟨_, rfl, ⟨ao, c, by rw [HN.out], HS.out.keep gg, by rw [HN.out]; exact hc, hcm, HNI.out, .inl ⟨rfl, rfl⟩⟩, gg⟩)
    have HFX := Lib.hid ((BR1.out.set 0 (.int .i64 most)).set 1 (.slice ao n c))
    cases h2
    · simp only [Bool.false_eq_true, if_false] at HA2
      by_cases hfull : most ≤ n
      · obtain rfl : ap = (60, L) := by rw [HA2.out, if_pos hfull]
        go_wp2_with fail
        have k0 := HFX.out.cell 0 (.int .i64 most) rfl
        have k1 := HFX.out.cell 1 (.slice ao n c) rfl
        exact bodyPost_ret (v := .tuple #[.agg #[.int .i64 most, .slice ao n c], .int .i64 60]) (by simp [results, Try.results15, go_sem, k0, k1]) rfl (HRES.out 60 rfl)
      · obtain rfl : ap = (0, L ++ [(k, v)]) := by rw [HA2.out, if_neg hfull]
        clear HRES HFX
        have HO1 := Lib.hid (scl_ones L)
        have HLL : Hid ((scl L).length = n * 2) := Lib.hid (by rw [scl_length, HN.out])
        by_cases hn0 : n = 0
        · subst hn0
          obtain rfl : L = [] := List.eq_nil_of_length_eq_zero HN.out
          go_wp2_with (at_builtin; first | (refine wpList_append_empty rfl _ _ 34 rfl w1.heap.size 37 i0 2 Try.underlying34 hi (.slice none 0 0) 0 [] rfl (World.ownsRow_nil _ _ _ _) ao c rfl ?_; obtain ⟨v5, hv5⟩ : ∃ v5 : Value, v5 = .slice none 0 0 := ⟨_, rfl⟩; rw [← hv5]; have hown5 : w1.ownsRow w1.heap.size 37 2 v5 0 [] := by {rw [hv5]; exact World.ownsRow_nil _ _ _ _}; have ga5 := g_alloc (g_refl w1 none) (.cells #[.int .i64 k, .int .i64 v] 37); have HOA := Lib.hid (own_keepn (hown5) ga5); have BPA := Lib.hid (BP1.out.keepn ga5); have BRA := Lib.hid (BR1.out.keepn ga5); have GA5 := Lib.hid (g_trans G1.out ga5); have HNW := Lib.hid (news2 w1 k v); have HON := Lib.hid (ones2 k v); have hszA : w1.heap.size ≤ (w1.alloc (.cells #[.int .i64 k, .int .i64 v] 37)).heap.size := ga5.size; have yA1 := BPA.out.cell 1 _ rfl; clear ga5; clear hown5 hv5) | (refine wpList_append_lies _ rfl _ _ 34 rfl w1.heap.size 37 i0 (.agg #[.int .i64 0, .int .i64 0]) 2 16 Try.underlying34 hi hz0 hz1 hz2 rfl (by decide) v5 0 [] rfl HOA.out ⟨w1.heap.size, 0, none⟩ 1 1 [.int .i64 k, .int .i64 v] rfl rfl HNW.out HON.out (by omega) (by unfold maxLen; omega) (by omega) hszA (w1.heap.size + 1) (by simp) ?_; intro g cap w6 hown6 hgrow6 hat6 hlt6; have hbase : ∀ x, (v5 : Value).ownBlock = some x → w1.heap.size ≤ x := fun x e => (own_lt HOA.out e).1; have BP6 := Lib.hid (BPA.out.keep hgrow6 (fun e => by have := hbase _ e.symm; omega)); have BR6 := Lib.hid (BRA.out.keep hgrow6 (fun e => by have := hbase _ e.symm; omega)); have G6 := Lib.hid (g_own3 GA5.out (by have := G1.out.size; omega) HOA.out hgrow6); have HO6 := Lib.hid hown6; have HG6 : Hid (w1.heap.size ≤ g) := Lib.hid (by rcases hat6 with e | e; exact hbase _ e; omega); have y60 := BP6.out.cell 0 _ rfl; have y61 := BP6.out.cell 1 _ rfl; have p61 := BP6.out.free 1; have r60 := BR6.out.cell 0 _ rfl; have r61 := BR6.out.cell 1 _ rfl; have f60 := BR6.out.free 0; have f61 := BR6.out.free 1; clear hown6 hgrow6 hat6 hbase))
          have hb6 := (BR6.out.set 0 (.int .i64 most)).set 1 (.slice (some ⟨g, 0, none⟩) (0 + 1) cap)
          have hne : w.heap.size + 1 ≠ w.heap.size := by omega
          have hF6 : Blk (((w6.setCell ⟨w.heap.size, 1, none⟩ (.slice (some ⟨g, 0, none⟩) (0 + 1) cap)).setCell ⟨w.heap.size + 1, 0, none⟩ (.int .i64 most)).setCell ⟨w.heap.size + 1, 1, none⟩ (.slice (some ⟨g, 0, none⟩) (0 + 1) cap)) (w.heap.size + 1) #[.int .i64 most, .slice (some ⟨g, 0, none⟩) (0 + 1) cap] 40 := by
            have h := ((BR6.out.keeps (g_set (g_refl w6 (some w.heap.size)) (p := ⟨w.heap.size, 1, none⟩) (.inl rfl) (.slice (some ⟨g, 0, none⟩) (0 + 1) cap)) hne).set 0 (.int .i64 most)).set 1 (.slice (some ⟨g, 0, none⟩) (0 + 1) cap)
            simpa using h
          have s6 := g_set (g_refl w6 (some w.heap.size)) (p := ⟨w.heap.size, 1, none⟩) (.inl rfl) (.slice (some ⟨g, 0, none⟩) (0 + 1) cap)
          have s7 := g_set (g_set (g_refl (w6.setCell ⟨w.heap.size, 1, none⟩ (.slice (some ⟨g, 0, none⟩) (0 + 1) cap)) (some (w.heap.size + 1))) (p := ⟨w.heap.size + 1, 0, none⟩) (.inl rfl) (.int .i64 most)) (p := ⟨w.heap.size + 1, 1, none⟩) (.inl rfl) (.slice (some ⟨g, 0, none⟩) (0 + 1) cap)
          have gF := g_in (g_in G6.out s6 (Nat.le_refl _)) s7 (by omega)
          have hgb := HG6.out
          have hoF := (World.ownsRow.kept HO6.out s6 (.inr (by simp only [Value.ownBlock, ne_eq, Option.some.injEq]; omega))).kept s7 (.inr (by simp only [Value.ownBlock, ne_eq, Option.some.injEq]; omega))
          have hlen : (([] : List (Int × Int)) ++ [(k, v)]).length = 0 + 1 := by simp
          have hoL : World.ownsRow (((w6.setCell ⟨w.heap.size, 1, none⟩ (.slice (some ⟨g, 0, none⟩) (0 + 1) cap)).setCell ⟨w.heap.size + 1, 0, none⟩ (.int .i64 most)).setCell ⟨w.heap.size + 1, 1, none⟩ (.slice (some ⟨g, 0, none⟩) (0 + 1) cap)) w1.heap.size 37 2 (.slice (some ⟨g, 0, none⟩) (([] : List (Int × Int)) ++ [(k, v)]).length cap) (([] : List (Int × Int)) ++ [(k, v)]).length (scl (([] : List (Int × Int)) ++ [(k, v)])) := by
            exact hoF
          obtain ⟨xo, xc, hxe, hxs, -⟩ := srow_of_own hoL
          cases hxe
          have hxl := len_own hoL
          have k0 := hF6.cell 0 (.int .i64 most) rfl
          have k1 := hF6.cell 1 (.slice (some ⟨g, 0, none⟩) (0 + 1) cap) rfl
          exact bodyPost_ret (v := .tuple #[.agg #[.int .i64 most, .slice (some ⟨g, 0, none⟩) (0 + 1) cap], .int .i64 0]) (by simp [results, Try.results15, go_sem, k0, k1]) rfl ⟨_, rfl, ⟨_, cap, rfl, hxs, hxl.1, hxl.2, fun e => (by cases e), .inr (fun a e => by cases e; show w.heap.size ≤ g; omega)⟩, gF⟩
        · obtain ⟨bq, oq, rfl⟩ : ∃ bq oq, ao = some ⟨bq, oq, none⟩ := by
            obtain ⟨bq, oq, h, _⟩ := HS.out 0 (L[0]'(by rw [HN.out]; omega)) (List.getElem?_eq_getElem _)
            exact ⟨bq, oq, h⟩
          have HCL := Lib.hid (srow_cells (HS.out.keep G1.out))
          go_wp2_with (at_builtin; first | (refine wpList_append_own _ rfl _ _ 34 rfl w1.heap.size 37 i0 (.agg #[.int .i64 0, .int .i64 0]) 2 16 Try.underlying34 hi hz0 hz1 hz2 rfl (by decide) (.slice none 0 0) 0 [] rfl (World.ownsRow_nil _ _ _ _) ⟨bq, oq, none⟩ n c (scl L) rfl HLL.out HCL.out HO1.out (by unfold maxLen; omega) (by omega) (Nat.le_refl _) ?_; intro v5 w5 hown5 hgrow5 _; have g5 : w1.grownBy w5 none := hgrow5; have ga5 := g_alloc (g_refl w5 none) (.cells #[.int .i64 k, .int .i64 v] 37); have HOA := Lib.hid (own_keepn (hown5) ga5); have BPA := Lib.hid ((BP1.out.keepn g5).keepn ga5); have BRA := Lib.hid ((BR1.out.keepn g5).keepn ga5); have GA5 := Lib.hid (g_trans (g_trans G1.out g5) ga5); have HNW := Lib.hid (news2 w5 k v); have HON := Lib.hid (ones2 k v); have hsz5 : w1.heap.size ≤ w5.heap.size := g5.size; have hszA : w1.heap.size ≤ (w5.alloc (.cells #[.int .i64 k, .int .i64 v] 37)).heap.size := Nat.le_trans g5.size ga5.size; have yA1 := BPA.out.cell 1 _ rfl; clear g5 ga5; clear hown5 hgrow5) | (refine wpList_append_lies _ rfl _ _ 34 rfl w1.heap.size 37 i0 (.agg #[.int .i64 0, .int .i64 0]) 2 16 Try.underlying34 hi hz0 hz1 hz2 rfl (by decide) v5 (0 + n) ([] ++ scl L) rfl HOA.out ⟨w5.heap.size, 0, none⟩ 1 1 [.int .i64 k, .int .i64 v] rfl rfl HNW.out HON.out (by omega) (by unfold maxLen; omega) (by omega) hszA (w5.heap.size + 1) (by simp) ?_; intro g cap w6 hown6 hgrow6 hat6 hlt6; have hbase : ∀ x, (v5 : Value).ownBlock = some x → w1.heap.size ≤ x := fun x e => (own_lt HOA.out e).1; have BP6 := Lib.hid (BPA.out.keep hgrow6 (fun e => by have := hbase _ e.symm; omega)); have BR6 := Lib.hid (BRA.out.keep hgrow6 (fun e => by have := hbase _ e.symm; omega)); have G6 := Lib.hid (g_own3 GA5.out (by have := G1.out.size; omega) HOA.out hgrow6); have HO6 := Lib.hid hown6; have HG6 : Hid (w1.heap.size ≤ g) := Lib.hid (by rcases hat6 with e | e; exact hbase _ e; omega); have y60 := BP6.out.cell 0 _ rfl; have y61 := BP6.out.cell 1 _ rfl; have p61 := BP6.out.free 1; have r60 := BR6.out.cell 0 _ rfl; have r61 := BR6.out.cell 1 _ rfl; have f60 := BR6.out.free 0; have f61 := BR6.out.free 1; clear hown6 hgrow6 hat6 hbase))
          have hb6 := (BR6.out.set 0 (.int .i64 most)).set 1 (.slice (some ⟨g, 0, none⟩) (n + 1) cap)
          have hne : w.heap.size + 1 ≠ w.heap.size := by omega
          have hF6 : Blk (((w6.setCell ⟨w.heap.size, 1, none⟩ (.slice (some ⟨g, 0, none⟩) (n + 1) cap)).setCell ⟨w.heap.size + 1, 0, none⟩ (.int .i64 most)).setCell ⟨w.heap.size + 1, 1, none⟩ (.slice (some ⟨g, 0, none⟩) (n + 1) cap)) (w.heap.size + 1) #[.int .i64 most, .slice (some ⟨g, 0, none⟩) (n + 1) cap] 40 := by
            have h := ((BR6.out.keeps (g_set (g_refl w6 (some w.heap.size)) (p := ⟨w.heap.size, 1, none⟩) (.inl rfl) (.slice (some ⟨g, 0, none⟩) (n + 1) cap)) hne).set 0 (.int .i64 most)).set 1 (.slice (some ⟨g, 0, none⟩) (n + 1) cap)
            simpa using h
          have s6 := g_set (g_refl w6 (some w.heap.size)) (p := ⟨w.heap.size, 1, none⟩) (.inl rfl) (.slice (some ⟨g, 0, none⟩) (n + 1) cap)
          have s7 := g_set (g_set (g_refl (w6.setCell ⟨w.heap.size, 1, none⟩ (.slice (some ⟨g, 0, none⟩) (n + 1) cap)) (some (w.heap.size + 1))) (p := ⟨w.heap.size + 1, 0, none⟩) (.inl rfl) (.int .i64 most)) (p := ⟨w.heap.size + 1, 1, none⟩) (.inl rfl) (.slice (some ⟨g, 0, none⟩) (n + 1) cap)
          have gF := g_in (g_in G6.out s6 (Nat.le_refl _)) s7 (by omega)
          have hgb := HG6.out
          have HO7 := HO6.out
          simp only [Nat.zero_add, List.nil_append] at HO7
          have hoF := (World.ownsRow.kept HO7 s6 (.inr (by simp only [Value.ownBlock, ne_eq, Option.some.injEq]; omega))).kept s7 (.inr (by simp only [Value.ownBlock, ne_eq, Option.some.injEq]; omega))
          have hlen : (L ++ [(k, v)]).length = n + 1 := by simp [HN.out]
          have hoL : World.ownsRow (((w6.setCell ⟨w.heap.size, 1, none⟩ (.slice (some ⟨g, 0, none⟩) (n + 1) cap)).setCell ⟨w.heap.size + 1, 0, none⟩ (.int .i64 most)).setCell ⟨w.heap.size + 1, 1, none⟩ (.slice (some ⟨g, 0, none⟩) (n + 1) cap)) w1.heap.size 37 2 (.slice (some ⟨g, 0, none⟩) (L ++ [(k, v)]).length cap) (L ++ [(k, v)]).length (scl (L ++ [(k, v)])) := by
            rw [hlen, scl_append]; exact hoF
          obtain ⟨xo, xc, hxe, hxs, -⟩ := srow_of_own hoL
          cases hxe
          have hxl := len_own hoL
          have k0 := hF6.cell 0 (.int .i64 most) rfl
          have k1 := hF6.cell 1 (.slice (some ⟨g, 0, none⟩) (n + 1) cap) rfl
          exact bodyPost_ret (v := .tuple #[.agg #[.int .i64 most, .slice (some ⟨g, 0, none⟩) (n + 1) cap], .int .i64 0]) (by simp [results, Try.results15, go_sem, k0, k1]) rfl ⟨_, rfl, ⟨_, cap, by rw [hlen], hxs, hxl.1, hxl.2, fun e => (by cases e), .inr (fun a e => by cases e; show w.heap.size ≤ g; omega)⟩, gF⟩
    · simp only [if_true] at HA2
      obtain rfl : ap = (0, L) := HA2.out
      go_wp2_with fail
      have k0 := HFX.out.cell 0 (.int .i64 most) rfl
      have k1 := HFX.out.cell 1 (.slice ao n c) rfl
      exact bodyPost_ret (v := .tuple #[.agg #[.int .i64 most, .slice ao n c], .int .i64 0]) (by simp [results, Try.results15, go_sem, k0, k1]) rfl (HRES.out 0 rfl)
end Go.Proofs.Ytbaocimmpiojeaa
