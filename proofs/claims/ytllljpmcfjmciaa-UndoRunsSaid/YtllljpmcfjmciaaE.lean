/- A log of old values: Pop. -/
import Derived.Test.YtllljpmcfjmciaaD
namespace Go.Proofs.Ytllljpmcfjmciaa
open Go.RowKit Go.Shelf
set_option linter.unusedVariables false
set_option linter.unusedSimpArgs false
attribute [local go_sem] Oper.semAt_some

def zOV : OV := ⟨0, 0, 0, 0, 0, false, 0⟩
/-- what Pop tells, what is left -/
def popP (L : List OV) : (OV × Bool) × List OV := match L.getLast? with | some p => ((p, true), L.dropLast) | none => ((zOV, false), [])
theorem popP_nil : popP [] = ((zOV, false), []) := rfl
theorem popP_snoc (L : List OV) (p : OV) : popP (L ++ [p]) = ((p, true), L) := by simp [popP]
theorem Lg.bel {w w' : World} {b B : Nat} {A : Nat → Prop} {most : Int} {L : List OV} (h : Lg w b A most L) (hb : Below B w w') (h1 : b < B) (h2 : ∀ g, A g → g < B) : Lg w' b A most L :=
  h.tr (S := fun k => B ≤ k) ⟨hb.os, hb.tape, hb.output, hb.size, fun i hi hn => hb.block i (by omega)⟩ (by omega) (fun g _ ha => by have := h2 g ha; omega)
theorem Blk.bel {w w' : World} {b B : Nat} {xs : Array Value} {T : TypeId} (h : Blk w b xs T) (hb : Below B w w') (h1 : b < B) : Blk w' b xs T := (hb.block b h1).trans h
theorem tr_bel {a w w' : World} {S : Nat → Prop} {B : Nat} (h : Tr S a w) (hb : Below B w w') (hB : a.heap.size ≤ B) : Tr S a w' :=
  tr_trans h (S' := fun k => B ≤ k) ⟨hb.os, hb.tape, hb.output, hb.size, fun i hi hn => hb.block i (by omega)⟩ (fun i hi e => by omega)

theorem tr_set {S : Nat → Prop} {a w : World} (h : Tr S a w) (p : Addr) (v : Value) (hs : S p.block) : Tr S a (w.setCell p v) := tr_thens h (g_set (g_refl w (some p.block)) (.inl rfl) v) (fun _ => hs)
theorem kf_tr {S : Nat → Prop} {W W' : World} {B : Nat} (t : Tr S W W') (hs : ∀ i, S i → i < B) : KeepsFrom B W W' := ⟨t.size, fun k o hk h _ => (t.block k (Array.getElem?_eq_some_iff.1 h).1 (fun e => by have := hs k e; omega)).trans h⟩
theorem fin8 {W : World} {z1 z2 : Nat} {x0 x1 x2 x3 x4 x5 x6 t v0 v1 v2 v3 v4 v5 v6 u : Value} (Y : Blk W z1 #[x0, x1, x2, x3, x4, x5, x6] 36) (Z : Blk W z2 #[t] 4) (hne : z1 ≠ z2) :
    Blk ((((((((W.setCell ⟨z1, 0, none⟩ v0).setCell ⟨z1, 1, none⟩ v1).setCell ⟨z1, 2, none⟩ v2).setCell ⟨z1, 3, none⟩ v3).setCell ⟨z1, 4, none⟩ v4).setCell ⟨z1, 5, none⟩ v5).setCell ⟨z1, 6, none⟩ v6).setCell ⟨z2, 0, none⟩ u) z1 #[v0, v1, v2, v3, v4, v5, v6] 36 ∧
    Blk ((((((((W.setCell ⟨z1, 0, none⟩ v0).setCell ⟨z1, 1, none⟩ v1).setCell ⟨z1, 2, none⟩ v2).setCell ⟨z1, 3, none⟩ v3).setCell ⟨z1, 4, none⟩ v4).setCell ⟨z1, 5, none⟩ v5).setCell ⟨z1, 6, none⟩ v6).setCell ⟨z2, 0, none⟩ u) z2 #[u] 4 ∧
    Tr (fun i => i = z1 ∨ i = z2) W ((((((((W.setCell ⟨z1, 0, none⟩ v0).setCell ⟨z1, 1, none⟩ v1).setCell ⟨z1, 2, none⟩ v2).setCell ⟨z1, 3, none⟩ v3).setCell ⟨z1, 4, none⟩ v4).setCell ⟨z1, 5, none⟩ v5).setCell ⟨z1, 6, none⟩ v6).setCell ⟨z2, 0, none⟩ u) := by
  have h1 := ((((((Y.set 0 v0).set 1 v1).set 2 v2).set 3 v3).set 4 v4).set 5 v5).set 6 v6
  have t0 := tr_refl (fun i => i = z1 ∨ i = z2) W
  have t7 := tr_set (tr_set (tr_set (tr_set (tr_set (tr_set (tr_set t0 ⟨z1, 0, none⟩ v0 (.inl rfl)) ⟨z1, 1, none⟩ v1 (.inl rfl)) ⟨z1, 2, none⟩ v2 (.inl rfl)) ⟨z1, 3, none⟩ v3 (.inl rfl)) ⟨z1, 4, none⟩ v4 (.inl rfl)) ⟨z1, 5, none⟩ v5 (.inl rfl)) ⟨z1, 6, none⟩ v6 (.inl rfl)
  have s0 := tr_refl (fun i => i = z1) W
  have s7 := tr_set (tr_set (tr_set (tr_set (tr_set (tr_set (tr_set s0 ⟨z1, 0, none⟩ v0 rfl) ⟨z1, 1, none⟩ v1 rfl) ⟨z1, 2, none⟩ v2 rfl) ⟨z1, 3, none⟩ v3 rfl) ⟨z1, 4, none⟩ v4 rfl) ⟨z1, 5, none⟩ v5 rfl) ⟨z1, 6, none⟩ v6 rfl
  refine ⟨?_, ?_, tr_set t7 ⟨z2, 0, none⟩ u (.inr rfl)⟩
  · exact Blk.keeps (by simpa using h1) (g_set (g_refl _ (some z2)) (.inl rfl) u) hne
  · have h2 := (s7.blk Z (fun e => hne e.symm)).set 0 u
    simpa using h2

set_option maxRecDepth 100000 in
set_option maxHeartbeats 6400000 in
theorem pop_any (b : Nat) (A : Nat → Prop) (most : Int) (L : List OV) (w : World) (h : Lg w b A most L) (hm : most ≠ 0) (hl : L.length ≤ 5000) :
    Calls Try.prog 11 #[.pointer (some ⟨b, 0, none⟩)] w fun e w' => e = .returned (.tuple #[.agg #[.int .i64 (popP L).1.1.k, .int .i64 (popP L).1.1.n, .int .i64 (popP L).1.1.f, .int .i64 (popP L).1.1.vk, .int .i64 (popP L).1.1.vn, .bool (popP L).1.1.h, .int .i64 (popP L).1.1.s], .bool (popP L).1.2]) ∧ Lg w' b A most (popP L).2 ∧ Tr (fun i => i = b) w w' := by
  refine (callsIn_wide (n := 12)).1 ?_
  have g1 := g_alloc (g_alloc (g_alloc (g_refl w none) (.cells #[.pointer (some ⟨b, 0, none⟩)] 24)) (.cells #[.int .i64 0, .int .i64 0, .int .i64 0, .int .i64 0, .int .i64 0, .bool false, .int .i64 0] 36)) (.cells #[.bool false] 4)
  have HN := Lib.hid (none_any b A most L _ (h.keep g1) hm)
  have B0 := Blk.keepn (Blk.keepn (Blk.new w #[.pointer (some ⟨b, 0, none⟩)] 24) (g_alloc (g_refl _ none) (.cells #[.int .i64 0, .int .i64 0, .int .i64 0, .int .i64 0, .int .i64 0, .bool false, .int .i64 0] 36))) (g_alloc (g_refl _ none) (.cells #[.bool false] 4))
  have B1 := Blk.keepn (Blk.new (w.alloc (.cells #[.pointer (some ⟨b, 0, none⟩)] 24)) #[.int .i64 0, .int .i64 0, .int .i64 0, .int .i64 0, .int .i64 0, .bool false, .int .i64 0] 36) (g_alloc (g_refl _ none) (.cells #[.bool false] 4))
  have B2 := Blk.new ((w.alloc (.cells #[.pointer (some ⟨b, 0, none⟩)] 24)).alloc (.cells #[.int .i64 0, .int .i64 0, .int .i64 0, .int .i64 0, .int .i64 0, .bool false, .int .i64 0] 36)) #[.bool false] 4
  simp only [World.size_alloc] at B1 B2
  have c0 := B0.cell 0 _ rfl
  refine callsIn_of_wp_marks Try.func11 rfl trivial ?_
  simp only [Try.ntmps11, List.size_toArray, List.length_cons, List.length_nil, Nat.reduceAdd, Nat.reduceSub, Array.replicate_succ, Array.replicate_zero, List.push_toArray, List.append_toArray, List.nil_append, List.cons_append]
  gi_wp2
  refine ⟨trivial, ?_⟩
  refine (callsIn_wide.2 HN.out).mono ?_
  rintro e w' ⟨rfl, rfl⟩
  gi_wp2
  refine ⟨trivial, ?_⟩
  refine (callsIn_wide.2 (behind_any b _)).mono ?_
  rintro e w' ⟨rfl, rfl⟩
  gi_wp2
  have ga := g_alloc (g_refl (((w.alloc (.cells #[.pointer (some ⟨b, 0, none⟩)] 24)).alloc (.cells #[.int .i64 0, .int .i64 0, .int .i64 0, .int .i64 0, .int .i64 0, .bool false, .int .i64 0] 36)).alloc (.cells #[.bool false] 4)) none) (.cells #[.pointer (some ⟨b, 0, none⟩)] 24)
  have B3 := Blk.new (((w.alloc (.cells #[.pointer (some ⟨b, 0, none⟩)] 24)).alloc (.cells #[.int .i64 0, .int .i64 0, .int .i64 0, .int .i64 0, .int .i64 0, .bool false, .int .i64 0] 36)).alloc (.cells #[.bool false] 4)) #[.pointer (some ⟨b, 0, none⟩)] 24
  have hsz : ((((w.alloc (.cells #[.pointer (some ⟨b, 0, none⟩)] 24)).alloc (.cells #[.int .i64 0, .int .i64 0, .int .i64 0, .int .i64 0, .int .i64 0, .bool false, .int .i64 0] 36)).alloc (.cells #[.bool false] 4)).alloc (.cells #[.pointer (some ⟨b, 0, none⟩)] 24)).heap.size = w.heap.size + 4 := by simp
  simp only [World.size_alloc] at B3
  have gi := g_trans g1 ga
  have hbw := h.lt
  have LG := Lib.hid (h.strict.keep gi)
  replace B0 := B0.keepn ga
  replace B1 := B1.keepn ga
  replace B2 := B2.keepn ga
  have cBl := B3.cell 0 _ rfl
  clear g1 ga HN c0 h
  generalize (((w.alloc (.cells #[.pointer (some ⟨b, 0, none⟩)] 24)).alloc (.cells #[.int .i64 0, .int .i64 0, .int .i64 0, .int .i64 0, .int .i64 0, .bool false, .int .i64 0] 36)).alloc (.cells #[.bool false] 4)).alloc (.cells #[.pointer (some ⟨b, 0, none⟩)] 24) = wi at *
  obtain ⟨ao, c, hblk, hown, hsr, hbl⟩ := LG.out.row
  have c1 := hblk.cell 1 _ rfl
  obtain ⟨B, hBe⟩ : ∃ B, wi.heap.size = B := ⟨_, rfl⟩
  have hseq := behind1_seq 11 (by omega) b (w.heap.size + 1 + 1 + 1) (wi.heap.size + 2) ao c L wi hl cBl c1 hsr
  refine wpIn_rangeX (w0 := wi) rfl (by omega) (gf := 23) (lb := #[.pointer (some ⟨w.heap.size + 1 + 1 + 1, 0, none⟩)]) rfl trivial (enters_of Try.func23 (by kernel_rfl) rfl) hseq KB.trans (fun W l o o' _ h ho => KB.putObj W l o o' h ho) (Below.refl _ _) (fun _ => rfl)
    (fun pre W' => pre = [] ∧ Below wi.heap.size wi W')
    (fun cd pre W' => cd = .ret ∧ ∃ p, pre = [p] ∧ Lg W' b (fun g => A g ∧ g < w.heap.size) most (L.take (L.length - 1)) ∧ Blk W' (w.heap.size + 1) #[.int .i64 p.k, .int .i64 p.n, .int .i64 p.f, .int .i64 p.vk, .int .i64 p.vn, .bool p.h, .int .i64 p.s] 36 ∧ Blk W' (w.heap.size + 1 + 1) #[.bool true] 4 ∧ Tr (fun i => i = b) w W')
    (fun s A B' hs hb => ⟨hs.1, hs.2.trans hb⟩)
    (fun cd s A B' hs hb => by
      obtain ⟨e, p, h1, h2, h3, h4, h5⟩ := hs
      exact ⟨e, p, h1, h2.bel hb (by omega) (fun g hg => by omega), h3.bel hb (by omega), h4.bel hb (by omega), tr_bel h5 hb (by omega)⟩)
    ⟨rfl, Below.refl _ _⟩
    (fun x a' W' => ∃ Bx, wi.heap.size + 2 ≤ Bx ∧ Blk W' Bx #[.int .i64 x.k, .int .i64 x.n, .int .i64 x.f, .int .i64 x.vk, .int .i64 x.vn, .bool x.h, .int .i64 x.s] 36 ∧ a' = { tmps := #[.pointer (some ⟨b, 0, none⟩), .pointer (some ⟨w.heap.size, 0, none⟩), .pointer (some ⟨w.heap.size + 1, 0, none⟩), .pointer (some ⟨w.heap.size + 1 + 1, 0, none⟩), .pointer (some ⟨Bx, 0, none⟩), .pointer (some ⟨b, 0, none⟩), .bool false, undef, .pointer (some ⟨b, 0, none⟩), .func (.func 23) #[] #[.pointer (some ⟨w.heap.size + 1 + 1 + 1, 0, none⟩)], .agg #[.int .i64 x.k, .int .i64 x.n, .int .i64 x.f, .int .i64 x.vk, .int .i64 x.vn, .bool x.h, .int .i64 x.s], undef, undef, undef, undef, undef, undef, undef, undef, undef, undef, undef, undef, undef, undef, undef, undef], defers := [] })
    (fun x a' W' l' o' ⟨Bx, h1, h2, h3⟩ hl' => ⟨Bx, h1, (World.putObj_heap_other (by omega)).trans h2, h3⟩) ?assign ?body ?done ?stop
  case assign =>
    intro l' pre x W' K hsz' hi hK
    gi_wp2
    exact hK _ _ ((KeepsOthers.alloc _ _).from _) (KB.of_g (g_alloc (g_refl _ _) _)) ⟨hi.1, hi.2.alloc (by omega) _⟩ ⟨W'.heap.size, hsz', Blk.new _ _ _, rfl⟩
  case body =>
    rintro l' pre x a' W' hsz' ⟨rfl, hb⟩ ⟨Bx, hBx, hblx, rfl⟩ hlen
    obtain ⟨m, hm1⟩ : ∃ m, L.length = m + 1 := ⟨L.length - 1, by simp at hlen; omega⟩
    have hne : w.heap.size ≠ b := by omega
    have TB := Lib.hid ((B0.bel hb (by omega)).cell 0 _ rfl)
    have hbk : Blk W' b #[.int .i64 most, .slice ao (m + 1) c] 60 := by have h := hblk.bel hb (by omega); rw [hm1] at h; exact h
    have cs : W'.drew.cell? ⟨b, 1, none⟩ = some (.slice ao (m + 1) c) := hbk.drew.cell 1 _ rfl
    have fs := hbk.drew.free 1
    have HO : Hid (World.ownsRow W' 0 36 7 (.slice ao L.length c) L.length (scl L)) := Lib.hid (hown.kept (row := none) ⟨hb.os, hb.tape, hb.output, hb.size, fun i hi _ => hb.block i hi⟩ (by cases ao <;> simp [Value.ownBlock]))
    have HM1 := Lib.hid hm1
    have HNL : Hid (ao = none → m = 0) := Lib.hid (fun e => by
      subst e
      have := own_nil hown
      rw [this] at hm1
      simp at hm1)
    have hcap := (len_own hown).1
    rw [hm1] at hcap
    have hwm : IntKind.i64.wrap (m : Int) = m := by simp [IntKind.wrap, IntKind.signed, IntKind.bits]; omega
    have hmc : ¬ c < m := by omega
    clear hseq c1 cBl hsr hm1
    refine wpIn_block ?_
    refine wpIn_seq_k (fun KK hKK => ?_)
    refine region_in_round (S := fun W'' => W'.grownBy W'' (some b)) (by kernel_rfl) (by rintro ⟨a, w, h⟩; exact h) (by kernel_rfl) (g_drew (g_refl W' (some b))) (fun hHeld => ?_)
    refine wpAnyH_take (i := 0) (v := .pointer (some ⟨b, 0, none⟩)) rfl (by kernel_rfl) (by kernel_rfl) (by kernel_rfl) (fun _ _ _ h => h) (Or.inl ⟨by rfl, fun w hw => by have q0 := hw.cell TB.out (by simpa using hne); clear hw; go_simp⟩) hHeld ?_
    try simp only [Act.put, List.setIfInBounds_toArray, List.set_cons_zero, List.set_cons_succ, List.getElem_toArray, List.getElem_cons_zero, List.getElem_cons_succ]
    refine wpAnyH_take (i := 1) (v := .pointer (some ⟨b, 0, none⟩)) rfl (by kernel_rfl) (by kernel_rfl) (by kernel_rfl) (fun _ _ _ h => h) (Or.inl ⟨by rfl, fun w hw => by have q0 := hw.cell TB.out (by simpa using hne); clear hw; go_simp⟩) hHeld ?_
    try simp only [Act.put, List.setIfInBounds_toArray, List.set_cons_zero, List.set_cons_succ, List.getElem_toArray, List.getElem_cons_zero, List.getElem_cons_succ]
    refine wpAnyH_take (i := 2) (v := .pointer (some ⟨b, 0, none⟩)) rfl (by kernel_rfl) (by kernel_rfl) (by kernel_rfl) (fun _ _ _ h => h) (Or.inl ⟨by rfl, fun w hw => by clear hw; go_simp⟩) hHeld ?_
    try simp only [Act.put, List.setIfInBounds_toArray, List.set_cons_zero, List.set_cons_succ, List.getElem_toArray, List.getElem_cons_zero, List.getElem_cons_succ]
    refine wpAnyH_take (i := 3) (v := .pointer (some ⟨b, 1, none⟩)) rfl (by kernel_rfl) (by kernel_rfl) (by kernel_rfl) (fun _ _ _ h => h) (Or.inl ⟨by rfl, fun w hw => by clear hw; go_simp⟩) hHeld ?_
    try simp only [Act.put, List.setIfInBounds_toArray, List.set_cons_zero, List.set_cons_succ, List.getElem_toArray, List.getElem_cons_zero, List.getElem_cons_succ]
    refine wpAnyH_take (i := 5) (v := .pointer (some ⟨b, 0, none⟩)) rfl (by kernel_rfl) (by kernel_rfl) (by kernel_rfl) (fun _ _ _ h => h) (Or.inl ⟨by rfl, fun w hw => by have q0 := hw.cell TB.out (by simpa using hne); clear hw; go_simp⟩) hHeld ?_
    try simp only [Act.put, List.setIfInBounds_toArray, List.set_cons_zero, List.set_cons_succ, List.getElem_toArray, List.getElem_cons_zero, List.getElem_cons_succ]
    refine wpAnyH_take (i := 6) (v := .pointer (some ⟨b, 0, none⟩)) rfl (by kernel_rfl) (by kernel_rfl) (by kernel_rfl) (fun _ _ _ h => h) (Or.inl ⟨by rfl, fun w hw => by clear hw; go_simp⟩) hHeld ?_
    try simp only [Act.put, List.setIfInBounds_toArray, List.set_cons_zero, List.set_cons_succ, List.getElem_toArray, List.getElem_cons_zero, List.getElem_cons_succ]
    refine wpAnyH_take (i := 7) (v := .pointer (some ⟨b, 1, none⟩)) rfl (by kernel_rfl) (by kernel_rfl) (by kernel_rfl) (fun _ _ _ h => h) (Or.inl ⟨by rfl, fun w hw => by clear hw; go_simp⟩) hHeld ?_
    try simp only [Act.put, List.setIfInBounds_toArray, List.set_cons_zero, List.set_cons_succ, List.getElem_toArray, List.getElem_cons_zero, List.getElem_cons_succ]
    refine wpAnyH_ready (rs := [4, 8]) (by kernel_rfl) (by simp) (AllReadyH.cons rfl (fun K hK => ?_) (AllReadyH.cons rfl (fun K hK => ?_) (AllReadyH.nil)))
    · go_simp
      refine hK.out _ _ hHeld (fun hHeld => ?_)
      clear hK K
      try simp only [Act.put, List.setIfInBounds_toArray, List.set_cons_zero, List.set_cons_succ, List.getElem_toArray, List.getElem_cons_zero, List.getElem_cons_succ]
      refine wpAnyH_ready (rs := [8]) (by kernel_rfl) (by simp) (AllReadyH.cons rfl (fun K hK => ?_) (AllReadyH.nil))
      go_simp
      refine hK.out _ _ hHeld (fun hHeld => ?_)
      clear hK K
      try simp only [Act.put, List.setIfInBounds_toArray, List.set_cons_zero, List.set_cons_succ, List.getElem_toArray, List.getElem_cons_zero, List.getElem_cons_succ]
      refine wpAnyH_take (i := 9) (v := .int .i64 ((m + 1 : Nat) : Int)) rfl (by kernel_rfl) (by kernel_rfl) (by kernel_rfl) (fun _ _ _ h => h) (Or.inl ⟨by rfl, fun w hw => by clear hw; go_simp⟩) hHeld ?_
      try simp only [Act.put, List.setIfInBounds_toArray, List.set_cons_zero, List.set_cons_succ, List.getElem_toArray, List.getElem_cons_zero, List.getElem_cons_succ]
      refine wpAnyH_take (i := 10) (v := .int .i64 (m : Int)) rfl (by kernel_rfl) (by kernel_rfl) (by kernel_rfl) (fun _ _ _ h => h) (Or.inl ⟨by rfl, fun w hw => by clear hw; go_simp⟩) hHeld ?_
      try simp only [Act.put, List.setIfInBounds_toArray, List.set_cons_zero, List.set_cons_succ, List.getElem_toArray, List.getElem_cons_zero, List.getElem_cons_succ]
      refine wpAnyH_take (i := 11) (v := .slice ao m c) rfl (by kernel_rfl) (by kernel_rfl) (by kernel_rfl) (fun _ _ _ h => h) (Or.inl ⟨by rfl, fun w hw => by clear hw; go_simp⟩) hHeld ?_
      try simp only [Act.put, List.setIfInBounds_toArray, List.set_cons_zero, List.set_cons_succ, List.getElem_toArray, List.getElem_cons_zero, List.getElem_cons_succ]
      refine wpAnyH_take (i := 12) (v := .pointer (some ⟨b, 0, none⟩)) rfl (by kernel_rfl) (by kernel_rfl) (by kernel_rfl) (fun _ _ _ h => h) (Or.inl ⟨by rfl, fun w hw => by clear hw; go_simp⟩) hHeld ?_
      try simp only [Act.put, List.setIfInBounds_toArray, List.set_cons_zero, List.set_cons_succ, List.getElem_toArray, List.getElem_cons_zero, List.getElem_cons_succ]
      refine wpAnyH_take (i := 13) (v := .pointer (some ⟨b, 1, none⟩)) rfl (by kernel_rfl) (by kernel_rfl) (by kernel_rfl) (fun _ _ _ h => h) (Or.inl ⟨by rfl, fun w hw => by clear hw; go_simp⟩) hHeld ?_
      try simp only [Act.put, List.setIfInBounds_toArray, List.set_cons_zero, List.set_cons_succ, List.getElem_toArray, List.getElem_cons_zero, List.getElem_cons_succ]
      refine wpAnyH_ready (rs := [14]) (by kernel_rfl) (by simp) (AllReadyH.cons rfl (fun K hK => ?_) (AllReadyH.nil))
      go_simp
      refine hK.out _ _ (g_set hHeld (p := ⟨b, 1, none⟩) (.inl rfl) (.slice ao m c)) (fun hHeld => ?_)
      clear hK K
      try simp only [Act.put, List.setIfInBounds_toArray, List.set_cons_zero, List.set_cons_succ, List.getElem_toArray, List.getElem_cons_zero, List.getElem_cons_succ]
      refine wpAnyH_done (by kernel_rfl) ?_ _
      refine hKK _ _ ?_
      have k5 : W'.grownBy (W'.setCell ⟨b, 1, none⟩ (.slice ao m c)).drew (some b) := g_drew (g_set (g_refl W' (some b)) (p := ⟨b, 1, none⟩) (.inl rfl) _)
      have hB5 : Blk (W'.setCell ⟨b, 1, none⟩ (.slice ao m c)).drew b #[.int .i64 most, .slice ao m c] 60 := Blk.drew (by simpa using hbk.set 1 (.slice ao m c))
      clear hHeld hwm hmc fs cs hbk
      generalize (W'.setCell ⟨b, 1, none⟩ (.slice ao m c)).drew = W5 at *
      have X5 := hblx.keeps k5 (by omega)
      have Y5 := (B1.bel hb (by omega)).keeps k5 (by omega)
      have Z5 := (B2.bel hb (by omega)).keeps k5 (by omega)
      have c0 := X5.cell 0 (.int .i64 x.k) rfl
      have c1 := X5.cell 1 (.int .i64 x.n) rfl
      have c2 := X5.cell 2 (.int .i64 x.f) rfl
      have c3 := X5.cell 3 (.int .i64 x.vk) rfl
      have c4 := X5.cell 4 (.int .i64 x.vn) rfl
      have c5 := X5.cell 5 (.bool x.h) rfl
      have c6 := X5.cell 6 (.int .i64 x.s) rfl
      have y0 := Y5.cell 0 (.int .i64 0) rfl
      have y1 := Y5.cell 1 (.int .i64 0) rfl
      have y2 := Y5.cell 2 (.int .i64 0) rfl
      have y3 := Y5.cell 3 (.int .i64 0) rfl
      have y4 := Y5.cell 4 (.int .i64 0) rfl
      have y5 := Y5.cell 5 (.bool false) rfl
      have y6 := Y5.cell 6 (.int .i64 0) rfl
      have f0 := Y5.free 0
      have f1 := Y5.free 1
      have f2 := Y5.free 2
      have f3 := Y5.free 3
      have f4 := Y5.free 4
      have f5 := Y5.free 5
      have f6 := Y5.free 6
      have z0 := Z5.cell 0 (.bool false) rfl
      have zf := Z5.free 0
      have HL : Hid (Lg W5 b (fun g => A g ∧ g < w.heap.size) most (L.take m)) := Lib.hid (by
        have hl1 : m ≤ L.length := by have := HM1.out; omega
        have hlt : (L.take m).length = m := by rw [List.length_take]; omega
        refine ⟨.slice ao m c, hB5, ?_, fun g e => ?_⟩
        · rw [hlt]
          refine (own_take HO.out hl1 HNL.out).kept k5 ?_
          cases ao with
          | none => exact .inl rfl
          | some a => exact .inr (by have := (hbl a rfl).2; simpa [Value.ownBlock] using this)
        · cases ao with
          | none => cases e
          | some a => cases e; exact hbl a rfl)
      gi_wp2
      obtain ⟨F1, F2, F3⟩ := fin8 (v0 := .int .i64 x.k) (v1 := .int .i64 x.n) (v2 := .int .i64 x.f) (v3 := .int .i64 x.vk) (v4 := .int .i64 x.vn) (v5 := .bool x.h) (v6 := .int .i64 x.s) (u := .bool true) Y5 Z5 (by omega)
      have T5 : Tr (fun i => i = b ∨ i = w.heap.size + 1 ∨ i = w.heap.size + 1 + 1) W' _ := tr_trans (tr_gs k5 (fun _ => .inl rfl)) F3 (fun i _ e => .inr e)
      refine ⟨kf_tr T5 (fun i e => by omega), rfl, x, rfl, ?_, F1, F2, tr_trans (tr_bel (tr_g gi (fun i => i = b)) hb (by omega)) T5 (fun i hi e => by omega)⟩
      rw [show L.length - 1 = m by have := HM1.out; omega]
      exact HL.out.tr F3 (by omega) (fun g _ hg => by omega)
    · go_simp
      refine hK.out _ _ hHeld (fun hHeld => ?_)
      clear hK K
      try simp only [Act.put, List.setIfInBounds_toArray, List.set_cons_zero, List.set_cons_succ, List.getElem_toArray, List.getElem_cons_zero, List.getElem_cons_succ]
      refine wpAnyH_take (i := 9) (v := .int .i64 ((m + 1 : Nat) : Int)) rfl (by kernel_rfl) (by kernel_rfl) (by kernel_rfl) (fun _ _ _ h => h) (Or.inl ⟨by rfl, fun w hw => by clear hw; go_simp⟩) hHeld ?_
      try simp only [Act.put, List.setIfInBounds_toArray, List.set_cons_zero, List.set_cons_succ, List.getElem_toArray, List.getElem_cons_zero, List.getElem_cons_succ]
      refine wpAnyH_take (i := 10) (v := .int .i64 (m : Int)) rfl (by kernel_rfl) (by kernel_rfl) (by kernel_rfl) (fun _ _ _ h => h) (Or.inl ⟨by rfl, fun w hw => by clear hw; go_simp⟩) hHeld ?_
      try simp only [Act.put, List.setIfInBounds_toArray, List.set_cons_zero, List.set_cons_succ, List.getElem_toArray, List.getElem_cons_zero, List.getElem_cons_succ]
      refine wpAnyH_ready (rs := [4]) (by kernel_rfl) (by simp) (AllReadyH.cons rfl (fun K hK => ?_) (AllReadyH.nil))
      go_simp
      refine hK.out _ _ hHeld (fun hHeld => ?_)
      clear hK K
      try simp only [Act.put, List.setIfInBounds_toArray, List.set_cons_zero, List.set_cons_succ, List.getElem_toArray, List.getElem_cons_zero, List.getElem_cons_succ]
      refine wpAnyH_take (i := 11) (v := .slice ao m c) rfl (by kernel_rfl) (by kernel_rfl) (by kernel_rfl) (fun _ _ _ h => h) (Or.inl ⟨by rfl, fun w hw => by clear hw; go_simp⟩) hHeld ?_
      try simp only [Act.put, List.setIfInBounds_toArray, List.set_cons_zero, List.set_cons_succ, List.getElem_toArray, List.getElem_cons_zero, List.getElem_cons_succ]
      refine wpAnyH_take (i := 12) (v := .pointer (some ⟨b, 0, none⟩)) rfl (by kernel_rfl) (by kernel_rfl) (by kernel_rfl) (fun _ _ _ h => h) (Or.inl ⟨by rfl, fun w hw => by clear hw; go_simp⟩) hHeld ?_
      try simp only [Act.put, List.setIfInBounds_toArray, List.set_cons_zero, List.set_cons_succ, List.getElem_toArray, List.getElem_cons_zero, List.getElem_cons_succ]
      refine wpAnyH_take (i := 13) (v := .pointer (some ⟨b, 1, none⟩)) rfl (by kernel_rfl) (by kernel_rfl) (by kernel_rfl) (fun _ _ _ h => h) (Or.inl ⟨by rfl, fun w hw => by clear hw; go_simp⟩) hHeld ?_
      try simp only [Act.put, List.setIfInBounds_toArray, List.set_cons_zero, List.set_cons_succ, List.getElem_toArray, List.getElem_cons_zero, List.getElem_cons_succ]
      refine wpAnyH_ready (rs := [14]) (by kernel_rfl) (by simp) (AllReadyH.cons rfl (fun K hK => ?_) (AllReadyH.nil))
      go_simp
      refine hK.out _ _ (g_set hHeld (p := ⟨b, 1, none⟩) (.inl rfl) (.slice ao m c)) (fun hHeld => ?_)
      clear hK K
      try simp only [Act.put, List.setIfInBounds_toArray, List.set_cons_zero, List.set_cons_succ, List.getElem_toArray, List.getElem_cons_zero, List.getElem_cons_succ]
      refine wpAnyH_done (by kernel_rfl) ?_ _
      refine hKK _ _ ?_
      have k5 : W'.grownBy (W'.setCell ⟨b, 1, none⟩ (.slice ao m c)).drew (some b) := g_drew (g_set (g_refl W' (some b)) (p := ⟨b, 1, none⟩) (.inl rfl) _)
      have hB5 : Blk (W'.setCell ⟨b, 1, none⟩ (.slice ao m c)).drew b #[.int .i64 most, .slice ao m c] 60 := Blk.drew (by simpa using hbk.set 1 (.slice ao m c))
      clear hHeld hwm hmc fs cs hbk
      generalize (W'.setCell ⟨b, 1, none⟩ (.slice ao m c)).drew = W5 at *
      have X5 := hblx.keeps k5 (by omega)
      have Y5 := (B1.bel hb (by omega)).keeps k5 (by omega)
      have Z5 := (B2.bel hb (by omega)).keeps k5 (by omega)
      have c0 := X5.cell 0 (.int .i64 x.k) rfl
      have c1 := X5.cell 1 (.int .i64 x.n) rfl
      have c2 := X5.cell 2 (.int .i64 x.f) rfl
      have c3 := X5.cell 3 (.int .i64 x.vk) rfl
      have c4 := X5.cell 4 (.int .i64 x.vn) rfl
      have c5 := X5.cell 5 (.bool x.h) rfl
      have c6 := X5.cell 6 (.int .i64 x.s) rfl
      have y0 := Y5.cell 0 (.int .i64 0) rfl
      have y1 := Y5.cell 1 (.int .i64 0) rfl
      have y2 := Y5.cell 2 (.int .i64 0) rfl
      have y3 := Y5.cell 3 (.int .i64 0) rfl
      have y4 := Y5.cell 4 (.int .i64 0) rfl
      have y5 := Y5.cell 5 (.bool false) rfl
      have y6 := Y5.cell 6 (.int .i64 0) rfl
      have f0 := Y5.free 0
      have f1 := Y5.free 1
      have f2 := Y5.free 2
      have f3 := Y5.free 3
      have f4 := Y5.free 4
      have f5 := Y5.free 5
      have f6 := Y5.free 6
      have z0 := Z5.cell 0 (.bool false) rfl
      have zf := Z5.free 0
      have HL : Hid (Lg W5 b (fun g => A g ∧ g < w.heap.size) most (L.take m)) := Lib.hid (by
        have hl1 : m ≤ L.length := by have := HM1.out; omega
        have hlt : (L.take m).length = m := by rw [List.length_take]; omega
        refine ⟨.slice ao m c, hB5, ?_, fun g e => ?_⟩
        · rw [hlt]
          refine (own_take HO.out hl1 HNL.out).kept k5 ?_
          cases ao with
          | none => exact .inl rfl
          | some a => exact .inr (by have := (hbl a rfl).2; simpa [Value.ownBlock] using this)
        · cases ao with
          | none => cases e
          | some a => cases e; exact hbl a rfl)
      gi_wp2
      obtain ⟨F1, F2, F3⟩ := fin8 (v0 := .int .i64 x.k) (v1 := .int .i64 x.n) (v2 := .int .i64 x.f) (v3 := .int .i64 x.vk) (v4 := .int .i64 x.vn) (v5 := .bool x.h) (v6 := .int .i64 x.s) (u := .bool true) Y5 Z5 (by omega)
      have T5 : Tr (fun i => i = b ∨ i = w.heap.size + 1 ∨ i = w.heap.size + 1 + 1) W' _ := tr_trans (tr_gs k5 (fun _ => .inl rfl)) F3 (fun i _ e => .inr e)
      refine ⟨kf_tr T5 (fun i e => by omega), rfl, x, rfl, ?_, F1, F2, tr_trans (tr_bel (tr_g gi (fun i => i = b)) hb (by omega)) T5 (fun i hi e => by omega)⟩
      rw [show L.length - 1 = m by have := HM1.out; omega]
      exact HL.out.tr F3 (by omega) (fun g _ hg => by omega)
  case done =>
    rintro D xs W' hD hS ⟨rfl, hb⟩ hK
    obtain rfl : L = [] := List.reverse_eq_nil_iff.1 hS.symm
    have HLG := Lib.hid (LG.out.bel hb (by omega) (fun g hg => by omega))
    have Y5 := B1.bel hb (by omega)
    have Z5 := B2.bel hb (by omega)
    have y0 := Y5.cell 0 (.int .i64 0) rfl
    have y1 := Y5.cell 1 (.int .i64 0) rfl
    have y2 := Y5.cell 2 (.int .i64 0) rfl
    have y3 := Y5.cell 3 (.int .i64 0) rfl
    have y4 := Y5.cell 4 (.int .i64 0) rfl
    have y5 := Y5.cell 5 (.bool false) rfl
    have y6 := Y5.cell 6 (.int .i64 0) rfl
    have f0 := Y5.free 0
    have f1 := Y5.free 1
    have f2 := Y5.free 2
    have f3 := Y5.free 3
    have f4 := Y5.free 4
    have f5 := Y5.free 5
    have f6 := Y5.free 6
    have z0 := Z5.cell 0 (.bool false) rfl
    have zf := Z5.free 0
    obtain ⟨F1, F2, F3⟩ := fin8 (v0 := .int .i64 0) (v1 := .int .i64 0) (v2 := .int .i64 0) (v3 := .int .i64 0) (v4 := .int .i64 0) (v5 := .bool false) (v6 := .int .i64 0) (u := .bool false) Y5 Z5 (by omega)
    have HT := Lib.hid (tr_bel (tr_g gi (fun i => i = b)) hb (by omega))
    have HK := Lib.hid ((kf_tr (B := wi.heap.size) F3 (fun i e => by omega)).same D _ hD hK rfl)
    have F1 := Lib.hid F1
    have F2 := Lib.hid F2
    have F3 := Lib.hid F3
    clear hseq c1 cBl hsr hown hblk hbl hb hK
    refine (show _ from ?_)
    gi_wp2
    refine ⟨by simp, .inl ⟨_, _, rfl, run_takeDeferred HK.out, ?_⟩⟩
    have hb' := fun W => bel_putObj (B := wi.heap.size) W D (.deferred none) hD
    have q := F1.out.bel (hb' _) (by omega)
    have q7 := (F2.out.bel (hb' _) (by omega)).cell 0 _ rfl
    have q0 := q.cell 0 (.int .i64 0) rfl
    have q1 := q.cell 1 (.int .i64 0) rfl
    have q2 := q.cell 2 (.int .i64 0) rfl
    have q3 := q.cell 3 (.int .i64 0) rfl
    have q4 := q.cell 4 (.int .i64 0) rfl
    have q5 := q.cell 5 (.bool false) rfl
    have q6 := q.cell 6 (.int .i64 0) rfl
    refine ⟨.tuple #[.agg #[.int .i64 0, .int .i64 0, .int .i64 0, .int .i64 0, .int .i64 0, .bool false, .int .i64 0], .bool false], by simp [results, Try.results11, go_sem, q0, q1, q2, q3, q4, q5, q6, q7], rfl, ?_, tr_bel (tr_trans HT.out F3.out (fun i hi e => by omega)) (hb' _) (by omega)⟩
    exact ((HLG.out.tr F3.out (by omega) (fun g _ hg => by omega)).bel (hb' _) (by omega) (fun g hg => by omega)).mono (fun g _ hg => hg.1)
  case stop =>
    rintro D cd pre W' hD hSp ⟨rfl, p, rfl, hlg, hb1, hb2, ht⟩ hK
    have hb' := bel_putObj (B := wi.heap.size) W' D (.deferred none) hD
    have q := hb1.bel hb' (by omega)
    have q7 := (hb2.bel hb' (by omega)).cell 0 _ rfl
    have hlg' := hlg.bel hb' (by omega) (fun g hg => by omega)
    obtain ⟨L0, rfl⟩ : ∃ L0, L = L0 ++ [p] := by
      obtain ⟨t, ht⟩ := hSp
      refine ⟨t.reverse, ?_⟩
      have := congrArg List.reverse ht
      simpa using this.symm
    gi_wp2
    refine ⟨by simp, .inl ⟨_, _, rfl, run_takeDeferred hK, ?_⟩⟩
    have q0 := q.cell 0 (.int .i64 p.k) rfl
    have q1 := q.cell 1 (.int .i64 p.n) rfl
    have q2 := q.cell 2 (.int .i64 p.f) rfl
    have q3 := q.cell 3 (.int .i64 p.vk) rfl
    have q4 := q.cell 4 (.int .i64 p.vn) rfl
    have q5 := q.cell 5 (.bool p.h) rfl
    have q6 := q.cell 6 (.int .i64 p.s) rfl
    refine ⟨.tuple #[.agg #[.int .i64 p.k, .int .i64 p.n, .int .i64 p.f, .int .i64 p.vk, .int .i64 p.vn, .bool p.h, .int .i64 p.s], .bool true], by simp [results, Try.results11, go_sem, q0, q1, q2, q3, q4, q5, q6, q7], by rw [popP_snoc], ?_, tr_bel ht hb' (by omega)⟩
    rw [popP_snoc]
    have e : (L0 ++ [p]).take ((L0 ++ [p]).length - 1) = L0 := by simp
    rw [e] at hlg'
    exact hlg'.mono (fun g _ hg => hg.1)
end Go.Proofs.Ytllljpmcfjmciaa
