/- A log of old values: the document's Pop. -/
import Derived.Test.YtllljpmcfjmciaaL
namespace Go.Proofs.Ytllljpmcfjmciaa
open Go.RowKit
set_option linter.unusedVariables false
set_option linter.unusedSimpArgs false

set_option maxRecDepth 100000 in
set_option maxHeartbeats 12800000 in
theorem rpop_any (most : Int) (ao : Option Addr) (c : Nat) (M : List OV) (w : World) (hs : SRow w ao M) (hc : M.length ≤ c) (hcm : c ≤ 9223372036854775807) (hnil : ao = none → M = []) (hl : M.length ≤ 5000) :
    Calls Try.prog 14 #[.agg #[.int .i64 most, .slice ao M.length c]] w fun e w' => ∃ x, e = .returned (.tuple #[x, .agg #[.int .i64 (popP M).1.1.k, .int .i64 (popP M).1.1.n, .int .i64 (popP M).1.1.f, .int .i64 (popP M).1.1.vk, .int .i64 (popP M).1.1.vn, .bool (popP M).1.1.h, .int .i64 (popP M).1.1.s], .bool (popP M).1.2]) ∧ RV w' most M ao w.heap.size (popP M).2 x ∧ w.grownBy w' none := by
  obtain ⟨n, hn⟩ : ∃ n, M.length = n := ⟨_, rfl⟩
  rw [hn] at hc hl ⊢
  have HN := Lib.hid hn
  have g1 := g_alloc (g_refl w none) (.cells #[.int .i64 most, .slice ao n c] 46)
  have g2 := g_alloc (g_refl (w.alloc (.cells #[.int .i64 most, .slice ao n c] 46)) none) (.cells #[.int .i64 0, .slice none 0 0] 46)
  have g3 := g_alloc (g_refl ((w.alloc (.cells #[.int .i64 most, .slice ao n c] 46)).alloc (.cells #[.int .i64 0, .slice none 0 0] 46)) none) (.cells #[.int .i64 0, .int .i64 0, .int .i64 0, .int .i64 0, .int .i64 0, .bool false, .int .i64 0] 36)
  have BZ := Lib.hid (((Blk.new w #[.int .i64 most, .slice ao n c] 46).keepn g2).keepn g3)
  have BR : Hid (Blk (((w.alloc (.cells #[.int .i64 most, .slice ao n c] 46)).alloc (.cells #[.int .i64 0, .slice none 0 0] 46)).alloc (.cells #[.int .i64 0, .int .i64 0, .int .i64 0, .int .i64 0, .int .i64 0, .bool false, .int .i64 0] 36)) (w.heap.size + 1) #[.int .i64 0, .slice none 0 0] 46) := Lib.hid (by
    have h := (Blk.new (w.alloc (.cells #[.int .i64 most, .slice ao n c] 46)) #[.int .i64 0, .slice none 0 0] 46).keepn g3
    rw [World.size_alloc] at h; exact h)
  have BQ : Hid (Blk (((w.alloc (.cells #[.int .i64 most, .slice ao n c] 46)).alloc (.cells #[.int .i64 0, .slice none 0 0] 46)).alloc (.cells #[.int .i64 0, .int .i64 0, .int .i64 0, .int .i64 0, .int .i64 0, .bool false, .int .i64 0] 36)) (w.heap.size + 1 + 1) #[.int .i64 0, .int .i64 0, .int .i64 0, .int .i64 0, .int .i64 0, .bool false, .int .i64 0] 36) := Lib.hid (by
    have h := Blk.new ((w.alloc (.cells #[.int .i64 most, .slice ao n c] 46)).alloc (.cells #[.int .i64 0, .slice none 0 0] 46)) #[.int .i64 0, .int .i64 0, .int .i64 0, .int .i64 0, .int .i64 0, .bool false, .int .i64 0] 36
    simp only [World.size_alloc] at h; exact h)
  have G0 := Lib.hid (g_trans (g_trans g1 g2) g3)
  have hWs : (((w.alloc (.cells #[.int .i64 most, .slice ao n c] 46)).alloc (.cells #[.int .i64 0, .slice none 0 0] 46)).alloc (.cells #[.int .i64 0, .int .i64 0, .int .i64 0, .int .i64 0, .int .i64 0, .bool false, .int .i64 0] 36)).heap.size = w.heap.size + 3 := by simp
  have HS := Lib.hid hs
  have HNI := Lib.hid hnil
  clear g1 g2 g3 hs hnil hn
  have z0 := BZ.out.cell 0 _ rfl
  have z1 := BZ.out.cell 1 _ rfl
  have zf0 := BZ.out.free 0
  have zf1 := BZ.out.free 1
  rcases List.eq_nil_or_concat M with rfl | ⟨M0, p, rfl⟩
  · obtain rfl : n = 0 := HN.out.symm
    rw [popP_nil]
    have r0 := BR.out.cell 0 _ rfl
    have r1 := BR.out.cell 1 _ rfl
    have rf0 := BR.out.free 0
    have rf1 := BR.out.free 1
    have q0 := BQ.out.cell 0 (.int .i64 0) rfl
    have qf0 := BQ.out.free 0
    have q1 := BQ.out.cell 1 (.int .i64 0) rfl
    have qf1 := BQ.out.free 1
    have q2 := BQ.out.cell 2 (.int .i64 0) rfl
    have qf2 := BQ.out.free 2
    have q3 := BQ.out.cell 3 (.int .i64 0) rfl
    have qf3 := BQ.out.free 3
    have q4 := BQ.out.cell 4 (.int .i64 0) rfl
    have qf4 := BQ.out.free 4
    have q5 := BQ.out.cell 5 (.bool false) rfl
    have qf5 := BQ.out.free 5
    have q6 := BQ.out.cell 6 (.int .i64 0) rfl
    have qf6 := BQ.out.free 6
    go_enter Try.func14, Try.ntmps14
    go_wp2_with fail
    have F1 := Blk.keepn (Blk.new (w.alloc (.cells #[.int .i64 most, .slice ao 0 c] 46)) #[.int .i64 most, .slice ao 0 c] 46) (g_alloc (g_refl _ none) (.cells #[.int .i64 0, .int .i64 0, .int .i64 0, .int .i64 0, .int .i64 0, .bool false, .int .i64 0] 36))
    have F2 := Blk.new ((w.alloc (.cells #[.int .i64 most, .slice ao 0 c] 46)).alloc (.cells #[.int .i64 most, .slice ao 0 c] 46)) #[.int .i64 0, .int .i64 0, .int .i64 0, .int .i64 0, .int .i64 0, .bool false, .int .i64 0] 36
    simp only [World.size_alloc] at F1 F2
    have k0 := F1.cell 0 _ rfl
    have k1 := F1.cell 1 _ rfl
    have k2 := F2.cell 0 (.int .i64 0) rfl
    have k3 := F2.cell 1 (.int .i64 0) rfl
    have k4 := F2.cell 2 (.int .i64 0) rfl
    have k5 := F2.cell 3 (.int .i64 0) rfl
    have k6 := F2.cell 4 (.int .i64 0) rfl
    have k7 := F2.cell 5 (.bool false) rfl
    have k8 := F2.cell 6 (.int .i64 0) rfl
    have gF : w.grownBy (((w.alloc (.cells #[.int .i64 most, .slice ao 0 c] 46)).alloc (.cells #[.int .i64 most, .slice ao 0 c] 46)).alloc (.cells #[.int .i64 0, .int .i64 0, .int .i64 0, .int .i64 0, .int .i64 0, .bool false, .int .i64 0] 36)) none := g_alloc (g_alloc (g_alloc (g_refl w none) _) _) _
    exact bodyPost_ret (v := .tuple #[.agg #[.int .i64 most, .slice ao 0 c], .agg #[.int .i64 0, .int .i64 0, .int .i64 0, .int .i64 0, .int .i64 0, .bool false, .int .i64 0], .bool false]) (by simp [results, Try.results14, go_sem, k0, k1, k2, k3, k4, k5, k6, k7, k8]) rfl ⟨_, rfl, ⟨ao, c, rfl, fun i p h => (by cases h), hc, hcm, fun _ => rfl, .inl ⟨rfl, rfl⟩⟩, gF⟩
  · rw [List.concat_eq_append] at *
    rw [popP_snoc]
    obtain ⟨m, hm⟩ : ∃ m, M0.length = m := ⟨_, rfl⟩
    have HM0 := Lib.hid hm
    obtain rfl : n = m + 1 := by have := HN.out; simp at this; omega
    obtain ⟨bq, oq, rfl, e0, e1, e2, e3, e4, e5, e6⟩ := (HS.out.keep G0.out) m p (by simp [← hm])
    obtain ⟨pk, pn, pf, pvk, pvn, ph, ps⟩ := p
    simp only at e0 e1 e2 e3 e4 e5 e6 ⊢
    have HR0 : Hid (SRow w (some ⟨bq, oq, none⟩) M0) := Lib.hid (by have h := HS.out.take m; rw [← hm] at h; simpa using h)
    have hn0 : ¬ (m : Int) + 1 = 0 := by omega
    have hwm : IntKind.i64.wrap (m : Int) = m := by simp [IntKind.wrap, IntKind.signed, IntKind.bits]; omega
    have hmc : ¬ c < m := by omega
    have hbq : bq < w.heap.size := by obtain ⟨b', o', h, hh, _⟩ := HS.out m _ (by simp [← hm]; rfl); cases h; exact World.block_lt_of_cell? _ _ hh
    clear hm
    go_enter Try.func14, Try.ntmps14
    go_upto_region 5 with fail
    have ga := g_alloc (g_refl (((w.alloc (.cells #[.int .i64 most, .slice (some ⟨bq, oq, none⟩) (m + 1) c] 46)).alloc (.cells #[.int .i64 0, .slice none 0 0] 46)).alloc (.cells #[.int .i64 0, .int .i64 0, .int .i64 0, .int .i64 0, .int .i64 0, .bool false, .int .i64 0] 36)) none) (.cells #[.int .i64 pk, .int .i64 pn, .int .i64 pf, .int .i64 pvk, .int .i64 pvn, .bool ph, .int .i64 ps] 36)
    have ZZ0 := Lib.hid (BZ.out.keepn ga)
    have ZR0 := Lib.hid (BR.out.keepn ga)
    have ZQ0 := Lib.hid (BQ.out.keepn ga)
    have ZO0 : Hid (Blk ((((w.alloc (.cells #[.int .i64 most, .slice (some ⟨bq, oq, none⟩) (m + 1) c] 46)).alloc (.cells #[.int .i64 0, .slice none 0 0] 46)).alloc (.cells #[.int .i64 0, .int .i64 0, .int .i64 0, .int .i64 0, .int .i64 0, .bool false, .int .i64 0] 36)).alloc (.cells #[.int .i64 pk, .int .i64 pn, .int .i64 pf, .int .i64 pvk, .int .i64 pvn, .bool ph, .int .i64 ps] 36)) (w.heap.size + 3) #[.int .i64 pk, .int .i64 pn, .int .i64 pf, .int .i64 pvk, .int .i64 pvn, .bool ph, .int .i64 ps] 36) := Lib.hid (by have h := Blk.new (((w.alloc (.cells #[.int .i64 most, .slice (some ⟨bq, oq, none⟩) (m + 1) c] 46)).alloc (.cells #[.int .i64 0, .slice none 0 0] 46)).alloc (.cells #[.int .i64 0, .int .i64 0, .int .i64 0, .int .i64 0, .int .i64 0, .bool false, .int .i64 0] 36)) #[.int .i64 pk, .int .i64 pn, .int .i64 pf, .int .i64 pvk, .int .i64 pvn, .bool ph, .int .i64 ps] 36; rw [hWs] at h; exact h)
    have GW0 := Lib.hid (g_trans G0.out ga)
    have hWa : ((((w.alloc (.cells #[.int .i64 most, .slice (some ⟨bq, oq, none⟩) (m + 1) c] 46)).alloc (.cells #[.int .i64 0, .slice none 0 0] 46)).alloc (.cells #[.int .i64 0, .int .i64 0, .int .i64 0, .int .i64 0, .int .i64 0, .bool false, .int .i64 0] 36)).alloc (.cells #[.int .i64 pk, .int .i64 pn, .int .i64 pf, .int .i64 pvk, .int .i64 pvn, .bool ph, .int .i64 ps] 36)).heap.size = w.heap.size + 4 := by rw [World.size_alloc, hWs]
    clear ga z0 z1 zf0 zf1 e0 e1 e2 e3 e4 e5 e6 BZ BR BQ G0
    generalize (((w.alloc (.cells #[.int .i64 most, .slice (some ⟨bq, oq, none⟩) (m + 1) c] 46)).alloc (.cells #[.int .i64 0, .slice none 0 0] 46)).alloc (.cells #[.int .i64 0, .int .i64 0, .int .i64 0, .int .i64 0, .int .i64 0, .bool false, .int .i64 0] 36)).alloc (.cells #[.int .i64 pk, .int .i64 pn, .int .i64 pf, .int .i64 pvk, .int .i64 pvn, .bool ph, .int .i64 ps] 36) = Wa at *
    have z1 := ZZ0.out.cell 1 _ rfl
    have OWN0 : Hid ((Wa.alloc (.cells #[] 36)).ownsRow w.heap.size 36 7 (.slice (some ⟨w.heap.size + 4, 0, none⟩) 0 0) 0 []) := Lib.hid (by have h := own_zero Wa 36 (B := w.heap.size) (by omega); rw [hWa] at h; exact h)
    have hza : w.heap.size ≠ w.heap.size + 4 := by omega
    have GA := Lib.hid (g_alloc (g_refl Wa none) (.cells #[] 36))
    go_wp2_with (at_builtin; go_loud (refine wpList_app rfl _ _ rfl w.heap.size (w.heap.size + 4) rfl OWN0.out (some ⟨bq, oq, none⟩) m c M0 rfl HM0.out (by omega) ((HR0.out.keep GW0.out).keep GA.out) (by have := GA.out.size; omega) ?_; intro g3 cap3 w5 hown hgrow hat; have Z5 := Lib.hid ((ZZ0.out.keepn GA.out).keeps hgrow hza); have c9 := Z5.out.cell 1 _ rfl; have f9 := Z5.out.free 1; have R5 := Lib.hid ((ZR0.out.keepn GA.out).keeps hgrow (by omega)); have Q5 := Lib.hid ((ZQ0.out.keepn GA.out).keeps hgrow (by omega)); have O5 := Lib.hid ((ZO0.out.keepn GA.out).keeps hgrow (by omega)); have HGR := Lib.hid hgrow; have HOWN := Lib.hid hown; have hgs := GA.out.size; have hg3 : w.heap.size + 1 + 1 < g3 := (by rcases hat with e | e; omega; rw [World.size_alloc] at e; omega); have hg3b : w.heap.size + 3 < g3 := (by rcases hat with e | e; omega; rw [World.size_alloc] at e; omega); clear hown hgrow hat z1))
    have s5 := g_set (g_refl w5 (some w.heap.size)) (p := ⟨w.heap.size, 1, none⟩) (.inl rfl) (.slice (some ⟨g3, 0, none⟩) m cap3)
    have ZZ : Hid (Blk (w5.setCell ⟨w.heap.size, 1, none⟩ (.slice (some ⟨g3, 0, none⟩) m cap3)) w.heap.size #[.int .i64 most, .slice (some ⟨g3, 0, none⟩) m cap3] 46) := Lib.hid (by simpa using Z5.out.set 1 (.slice (some ⟨g3, 0, none⟩) m cap3))
    have ZR := Lib.hid (R5.out.keeps s5 (by omega))
    have ZQ := Lib.hid (Q5.out.keeps s5 (by omega))
    have ZO := Lib.hid (O5.out.keeps s5 (by omega))
    have OWN := Lib.hid (HOWN.out.kept s5 (.inr (by simp only [Value.ownBlock, ne_eq, Option.some.injEq]; omega)))
    have GW := Lib.hid (g_in (g_in (g_trans GW0.out GA.out) HGR.out (by omega)) s5 (by omega))
    clear s5 c9 f9 Z5 R5 Q5 O5 HOWN HGR GA OWN0 ZZ0 ZR0 ZQ0 ZO0 GW0
    generalize w5.setCell ⟨w.heap.size, 1, none⟩ (.slice (some ⟨g3, 0, none⟩) m cap3) = W at *
    refine wp_region_held_drew (S := fun W' => Tr (fun i => i = w.heap.size + 1 ∨ i = w.heap.size + 1 + 1) W W') (by kernel_rfl) (tr_g (g_drew (g_refl W none)) _) (fun hHeld => ?_)
    refine wpAnyH_take (i := 0) (v := .agg #[.int .i64 most, .slice (some ⟨g3, 0, none⟩) m cap3]) rfl (by kernel_rfl) (by kernel_rfl) (by kernel_rfl) (fun _ _ _ h => h) (Or.inl ⟨by rfl, fun w hw => by have q0 := hw.cell (ZZ.out.cell 0 _ rfl) (by omega); have q1 := hw.cell (ZZ.out.cell 1 _ rfl) (by omega); clear hw; go_simp⟩) hHeld ?_
    try simp only [Act.put, List.setIfInBounds_toArray, List.set_cons_zero, List.set_cons_succ, List.getElem_toArray, List.getElem_cons_zero, List.getElem_cons_succ]
    refine wpAnyH_take (i := 1) (v := .agg #[.int .i64 pk, .int .i64 pn, .int .i64 pf, .int .i64 pvk, .int .i64 pvn, .bool ph, .int .i64 ps]) rfl (by kernel_rfl) (by kernel_rfl) (by kernel_rfl) (fun _ _ _ h => h) (Or.inl ⟨by rfl, fun w hw => by have q0 := hw.cell (ZO.out.cell 0 _ rfl) (by omega); have q1 := hw.cell (ZO.out.cell 1 _ rfl) (by omega); have q2 := hw.cell (ZO.out.cell 2 _ rfl) (by omega); have q3 := hw.cell (ZO.out.cell 3 _ rfl) (by omega); have q4 := hw.cell (ZO.out.cell 4 _ rfl) (by omega); have q5 := hw.cell (ZO.out.cell 5 _ rfl) (by omega); have q6 := hw.cell (ZO.out.cell 6 _ rfl) (by omega); clear hw; go_simp⟩) hHeld ?_
    try simp only [Act.put, List.setIfInBounds_toArray, List.set_cons_zero, List.set_cons_succ, List.getElem_toArray, List.getElem_cons_zero, List.getElem_cons_succ]
    refine wpAnyH_ready (rs := [2]) (by kernel_rfl) (by simp) (AllReadyH.cons rfl (fun K hK => ?_) (AllReadyH.nil))
    have r0 : W.cell? ⟨w.heap.size + 1, 0, none⟩ = _ := ZR.out.cell 0 _ rfl
    have r1 : W.cell? ⟨w.heap.size + 1, 1, none⟩ = _ := ZR.out.cell 1 _ rfl
    have rf0 : W.frozen? ⟨w.heap.size + 1, 0, none⟩ = _ := ZR.out.free 0
    have rf1 : W.frozen? ⟨w.heap.size + 1, 1, none⟩ = _ := ZR.out.free 1
    go_simp
    refine hK.out _ ((W.setCell ⟨w.heap.size + 1, 0, none⟩ (.int .i64 most)).setCell ⟨w.heap.size + 1, 1, none⟩ (.slice (some ⟨g3, 0, none⟩) m cap3)).drew (tr_trans (tr_set (tr_set (tr_refl _ W) ⟨w.heap.size + 1, 0, none⟩ _ (.inl rfl)) ⟨w.heap.size + 1, 1, none⟩ _ (.inl rfl)) (tr_g (g_drew (g_refl _ none)) (fun i => i = w.heap.size + 1 ∨ i = w.heap.size + 1 + 1)) (fun i _ e => e)) (fun hHeld => ?_)
    clear hK K r0 r1 rf0 rf1
    try simp only [Act.put, List.setIfInBounds_toArray, List.set_cons_zero, List.set_cons_succ, List.getElem_toArray, List.getElem_cons_zero, List.getElem_cons_succ]
    have Z1 : Hid (Blk ((W.setCell ⟨w.heap.size + 1, 0, none⟩ (.int .i64 most)).setCell ⟨w.heap.size + 1, 1, none⟩ (.slice (some ⟨g3, 0, none⟩) m cap3)).drew (w.heap.size + 1) #[.int .i64 most, .slice (some ⟨g3, 0, none⟩) m cap3] 46) := Lib.hid (Blk.drew (by simpa using (ZR.out.set 0 (.int .i64 most)).set 1 (.slice (some ⟨g3, 0, none⟩) m cap3)))
    have hg1 := g_drew (g_set (g_set (g_refl W (some (w.heap.size + 1))) (p := ⟨w.heap.size + 1, 0, none⟩) (.inl rfl) (.int .i64 most)) (p := ⟨w.heap.size + 1, 1, none⟩) (.inl rfl) (.slice (some ⟨g3, 0, none⟩) m cap3))
    have Z2 := Lib.hid (ZQ.out.keeps hg1 (by omega))
    clear hg1
    generalize ((W.setCell ⟨w.heap.size + 1, 0, none⟩ (.int .i64 most)).setCell ⟨w.heap.size + 1, 1, none⟩ (.slice (some ⟨g3, 0, none⟩) m cap3)).drew = V1 at *
    refine wpAnyH_ready (rs := [3]) (by kernel_rfl) (by simp) (AllReadyH.cons rfl (fun K hK => ?_) (AllReadyH.nil))
    have q0 := Z2.out.cell 0 (.int .i64 0) rfl
    have qf0 := Z2.out.free 0
    have q1 := Z2.out.cell 1 (.int .i64 0) rfl
    have qf1 := Z2.out.free 1
    have q2 := Z2.out.cell 2 (.int .i64 0) rfl
    have qf2 := Z2.out.free 2
    have q3 := Z2.out.cell 3 (.int .i64 0) rfl
    have qf3 := Z2.out.free 3
    have q4 := Z2.out.cell 4 (.int .i64 0) rfl
    have qf4 := Z2.out.free 4
    have q5 := Z2.out.cell 5 (.bool false) rfl
    have qf5 := Z2.out.free 5
    have q6 := Z2.out.cell 6 (.int .i64 0) rfl
    have qf6 := Z2.out.free 6
    go_simp
    refine hK.out _ _ (tr_set (tr_set (tr_set (tr_set (tr_set (tr_set (tr_set hHeld ⟨w.heap.size + 1 + 1, 0, none⟩ (.int .i64 pk) (.inr rfl)) ⟨w.heap.size + 1 + 1, 1, none⟩ (.int .i64 pn) (.inr rfl)) ⟨w.heap.size + 1 + 1, 2, none⟩ (.int .i64 pf) (.inr rfl)) ⟨w.heap.size + 1 + 1, 3, none⟩ (.int .i64 pvk) (.inr rfl)) ⟨w.heap.size + 1 + 1, 4, none⟩ (.int .i64 pvn) (.inr rfl)) ⟨w.heap.size + 1 + 1, 5, none⟩ (.bool ph) (.inr rfl)) ⟨w.heap.size + 1 + 1, 6, none⟩ (.int .i64 ps) (.inr rfl)) (fun hHeld => ?_)
    clear hK K q0 qf0 q1 qf1 q2 qf2 q3 qf3 q4 qf4 q5 qf5 q6 qf6
    try simp only [Act.put, List.setIfInBounds_toArray, List.set_cons_zero, List.set_cons_succ, List.getElem_toArray, List.getElem_cons_zero, List.getElem_cons_succ]
    have Z3 : Hid (Blk (((((((V1.setCell ⟨w.heap.size + 1 + 1, 0, none⟩ (.int .i64 pk)).setCell ⟨w.heap.size + 1 + 1, 1, none⟩ (.int .i64 pn)).setCell ⟨w.heap.size + 1 + 1, 2, none⟩ (.int .i64 pf)).setCell ⟨w.heap.size + 1 + 1, 3, none⟩ (.int .i64 pvk)).setCell ⟨w.heap.size + 1 + 1, 4, none⟩ (.int .i64 pvn)).setCell ⟨w.heap.size + 1 + 1, 5, none⟩ (.bool ph)).setCell ⟨w.heap.size + 1 + 1, 6, none⟩ (.int .i64 ps)) (w.heap.size + 1 + 1) #[.int .i64 pk, .int .i64 pn, .int .i64 pf, .int .i64 pvk, .int .i64 pvn, .bool ph, .int .i64 ps] 36) := Lib.hid (by simpa using (((((((Z2.out.set 0 (.int .i64 pk)).set 1 (.int .i64 pn)).set 2 (.int .i64 pf)).set 3 (.int .i64 pvk)).set 4 (.int .i64 pvn)).set 5 (.bool ph)).set 6 (.int .i64 ps)))
    have Z4 := Lib.hid (Z1.out.keeps (g_set (g_set (g_set (g_set (g_set (g_set (g_set (g_refl V1 (some (w.heap.size + 1 + 1))) (p := ⟨w.heap.size + 1 + 1, 0, none⟩) (.inl rfl) (.int .i64 pk)) (p := ⟨w.heap.size + 1 + 1, 1, none⟩) (.inl rfl) (.int .i64 pn)) (p := ⟨w.heap.size + 1 + 1, 2, none⟩) (.inl rfl) (.int .i64 pf)) (p := ⟨w.heap.size + 1 + 1, 3, none⟩) (.inl rfl) (.int .i64 pvk)) (p := ⟨w.heap.size + 1 + 1, 4, none⟩) (.inl rfl) (.int .i64 pvn)) (p := ⟨w.heap.size + 1 + 1, 5, none⟩) (.inl rfl) (.bool ph)) (p := ⟨w.heap.size + 1 + 1, 6, none⟩) (.inl rfl) (.int .i64 ps)) (by omega))
    generalize (((((((V1.setCell ⟨w.heap.size + 1 + 1, 0, none⟩ (.int .i64 pk)).setCell ⟨w.heap.size + 1 + 1, 1, none⟩ (.int .i64 pn)).setCell ⟨w.heap.size + 1 + 1, 2, none⟩ (.int .i64 pf)).setCell ⟨w.heap.size + 1 + 1, 3, none⟩ (.int .i64 pvk)).setCell ⟨w.heap.size + 1 + 1, 4, none⟩ (.int .i64 pvn)).setCell ⟨w.heap.size + 1 + 1, 5, none⟩ (.bool ph)).setCell ⟨w.heap.size + 1 + 1, 6, none⟩ (.int .i64 ps)) = V2 at *
    refine wpAnyH_take (i := 4) (v := .bool true) rfl (by kernel_rfl) (by kernel_rfl) (by kernel_rfl) (fun _ _ _ h => h) (Or.inl ⟨by rfl, fun w hw => by clear hw; go_simp⟩) hHeld ?_
    try simp only [Act.put, List.setIfInBounds_toArray, List.set_cons_zero, List.set_cons_succ, List.getElem_toArray, List.getElem_cons_zero, List.getElem_cons_succ]
    refine wpAnyH_done (by kernel_rfl) ?_ _
    have HH := Lib.hid hHeld
    clear hHeld
    go_wp2_with fail
    have k0 := Z4.out.cell 0 (.int .i64 most) rfl
    have k1 := Z4.out.cell 1 (.slice (some ⟨g3, 0, none⟩) m cap3) rfl
    have k2 := Z3.out.cell 0 (.int .i64 pk) rfl
    have k3 := Z3.out.cell 1 (.int .i64 pn) rfl
    have k4 := Z3.out.cell 2 (.int .i64 pf) rfl
    have k5 := Z3.out.cell 3 (.int .i64 pvk) rfl
    have k6 := Z3.out.cell 4 (.int .i64 pvn) rfl
    have k7 := Z3.out.cell 5 (.bool ph) rfl
    have k8 := Z3.out.cell 6 (.int .i64 ps) rfl
    have gF : w.grownBy V2 none := (tr_trans (tr_g GW.out (fun _ => False)) HH.out (fun i hi e => by omega)).g (fun i _ e => e)
    have hoF : V2.ownsRow w.heap.size 36 7 (.slice (some ⟨g3, 0, none⟩) M0.length cap3) M0.length (scl M0) := by rw [HM0.out]; exact HH.out.own OWN.out (fun g e => by cases e; show ¬ (g3 = _ ∨ g3 = _); omega)
    obtain ⟨xo, xc, hxe, hxs, -⟩ := srow_of_own hoF
    cases hxe
    have hxl := len_own hoF
    exact bodyPost_ret (v := .tuple #[.agg #[.int .i64 most, .slice (some ⟨g3, 0, none⟩) m cap3], .agg #[.int .i64 pk, .int .i64 pn, .int .i64 pf, .int .i64 pvk, .int .i64 pvn, .bool ph, .int .i64 ps], .bool true]) (by simp [results, Try.results14, go_sem, k0, k1, k2, k3, k4, k5, k6, k7, k8]) rfl ⟨_, rfl, ⟨_, cap3, by rw [HM0.out], hxs, hxl.1, hxl.2, fun e => (by cases e), .inr (fun a e => by cases e; show w.heap.size ≤ g3; omega)⟩, gF⟩
end Go.Proofs.Ytllljpmcfjmciaa
