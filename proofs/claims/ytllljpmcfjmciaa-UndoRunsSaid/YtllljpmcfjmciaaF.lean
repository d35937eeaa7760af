/- A log of old values: First. -/
import Derived.Test.YtllljpmcfjmciaaE
namespace Go.Proofs.Ytllljpmcfjmciaa
open Go.RowKit Go.Shelf
set_option linter.unusedVariables false
set_option linter.unusedSimpArgs false
attribute [local go_sem] Oper.semAt_some

def hitP (rk rn f : Int) (o : OV) : Prop := o.h = false ∧ o.k = rk ∧ o.n = rn ∧ o.f = f
instance (rk rn f : Int) (o : OV) : Decidable (hitP rk rn f o) := by unfold hitP; exact inferInstance
/-- what is found when some have come, from behind -/
def stp (rk rn f : Int) (pre : List OV) : Int × Int × Bool := pre.foldl (fun r o => if hitP rk rn f o then (o.vk, o.vn, true) else r) (0, 0, false)
theorem stp_snoc (rk rn f : Int) (pre : List OV) (o : OV) : stp rk rn f (pre ++ [o]) = if hitP rk rn f o then (o.vk, o.vn, true) else stp rk rn f pre := by simp [stp]
/-- what a field had first -/
def firstP (rk rn f : Int) : List OV → Int × Int × Bool
  | [] => (0, 0, false)
  | o :: L => if hitP rk rn f o then (o.vk, o.vn, true) else firstP rk rn f L
theorem stp_rev (rk rn f : Int) (L : List OV) : stp rk rn f L.reverse = firstP rk rn f L := by
  induction L with
  | nil => rfl
  | cons o L ih => rw [List.reverse_cons, stp_snoc, ih, firstP]

theorem wpIn_norm {F : Fence} {n : Nat} {P : Program} {c : Code} {Q : Exit → Act → World → Prop} {a : Act} {w : World} (h : c.wpIn F n P (fun e a w => e = .normal ∧ Q .normal a w) a w) : c.wpIn F n P Q a w := wpIn_mono h (by rintro e a w ⟨rfl, h⟩; exact h)
theorem KB.of_tr {S S' : Nat → Prop} {W W' : World} (t : Tr S' W W') (hd : ∀ k, S k → ¬ S' k) : KB S W W' := ⟨t.size, fun i o hs hi ho => (t.block i (Array.getElem?_eq_some_iff.1 hi).1 (hd i hs)).trans hi⟩

set_option maxRecDepth 100000 in
set_option maxHeartbeats 6400000 in
theorem first_any (b : Nat) (A : Nat → Prop) (most : Int) (L : List OV) (rk rn f : Int) (w : World) (h : Lg w b A most L) (hm : most ≠ 0) (hl : L.length ≤ 5000) :
    Calls Try.prog 9 #[.pointer (some ⟨b, 0, none⟩), .agg #[.int .i64 rk, .int .i64 rn], .int .i64 f] w fun e w' => e = .returned (.tuple #[.agg #[.int .i64 (firstP rk rn f L).1, .int .i64 (firstP rk rn f L).2.1], .bool (firstP rk rn f L).2.2]) ∧ w.grownBy w' none := by
  refine (callsIn_wide (n := 12)).1 ?_
  have g3 := g_alloc (g_alloc (g_alloc (g_refl w none) (.cells #[.int .i64 rk, .int .i64 rn] 31)) (.cells #[.int .i64 f] 3)) (.cells #[.int .i64 0, .int .i64 0] 31)
  have HN := Lib.hid (none_any b A most L _ (h.keep g3) hm)
  refine callsIn_of_wp_marks Try.func9 rfl trivial ?_
  simp only [Try.ntmps9, List.size_toArray, List.length_cons, List.length_nil, Nat.reduceAdd, Nat.reduceSub, Array.replicate_succ, Array.replicate_zero, List.push_toArray, List.append_toArray, List.nil_append, List.cons_append]
  gi_wp2
  refine ⟨trivial, ?_⟩
  refine (callsIn_wide.2 HN.out).mono ?_
  rintro e w' ⟨rfl, rfl⟩
  gi_wp2
  refine ⟨trivial, ?_⟩
  refine (callsIn_wide.2 (behind_any b _)).mono ?_
  rintro e w' ⟨rfl, rfl⟩
  gi_wp2
  have gi : w.grownBy ((((((w.alloc (.cells #[.int .i64 rk, .int .i64 rn] 31)).alloc (.cells #[.int .i64 f] 3)).alloc (.cells #[.int .i64 0, .int .i64 0] 31)).alloc (.cells #[.int .i64 0, .int .i64 0] 31)).alloc (.cells #[.bool false] 4)).alloc (.cells #[.pointer (some ⟨b, 0, none⟩)] 24)) none := g_alloc (g_alloc (g_alloc g3 (.cells #[.int .i64 0, .int .i64 0] 31)) (.cells #[.bool false] 4)) (.cells #[.pointer (some ⟨b, 0, none⟩)] 24)
  have hsz : ((((((w.alloc (.cells #[.int .i64 rk, .int .i64 rn] 31)).alloc (.cells #[.int .i64 f] 3)).alloc (.cells #[.int .i64 0, .int .i64 0] 31)).alloc (.cells #[.int .i64 0, .int .i64 0] 31)).alloc (.cells #[.bool false] 4)).alloc (.cells #[.pointer (some ⟨b, 0, none⟩)] 24)).heap.size = w.heap.size + 6 := by simp
  have B0 : Blk ((((((w.alloc (.cells #[.int .i64 rk, .int .i64 rn] 31)).alloc (.cells #[.int .i64 f] 3)).alloc (.cells #[.int .i64 0, .int .i64 0] 31)).alloc (.cells #[.int .i64 0, .int .i64 0] 31)).alloc (.cells #[.bool false] 4)).alloc (.cells #[.pointer (some ⟨b, 0, none⟩)] 24)) (w.heap.size) #[.int .i64 rk, .int .i64 rn] 31 := by
    have h := Blk.keepn (Blk.keepn (Blk.keepn (Blk.keepn (Blk.keepn (Blk.new w #[.int .i64 rk, .int .i64 rn] 31) (g_alloc (g_refl _ none) (.cells #[.int .i64 f] 3))) (g_alloc (g_refl _ none) (.cells #[.int .i64 0, .int .i64 0] 31))) (g_alloc (g_refl _ none) (.cells #[.int .i64 0, .int .i64 0] 31))) (g_alloc (g_refl _ none) (.cells #[.bool false] 4))) (g_alloc (g_refl _ none) (.cells #[.pointer (some ⟨b, 0, none⟩)] 24))
    simpa only [World.size_alloc] using h
  have B1 : Blk ((((((w.alloc (.cells #[.int .i64 rk, .int .i64 rn] 31)).alloc (.cells #[.int .i64 f] 3)).alloc (.cells #[.int .i64 0, .int .i64 0] 31)).alloc (.cells #[.int .i64 0, .int .i64 0] 31)).alloc (.cells #[.bool false] 4)).alloc (.cells #[.pointer (some ⟨b, 0, none⟩)] 24)) (w.heap.size + 1) #[.int .i64 f] 3 := by
    have h := Blk.keepn (Blk.keepn (Blk.keepn (Blk.keepn (Blk.new (w.alloc (.cells #[.int .i64 rk, .int .i64 rn] 31)) #[.int .i64 f] 3) (g_alloc (g_refl _ none) (.cells #[.int .i64 0, .int .i64 0] 31))) (g_alloc (g_refl _ none) (.cells #[.int .i64 0, .int .i64 0] 31))) (g_alloc (g_refl _ none) (.cells #[.bool false] 4))) (g_alloc (g_refl _ none) (.cells #[.pointer (some ⟨b, 0, none⟩)] 24))
    simpa only [World.size_alloc] using h
  have B2 : Blk ((((((w.alloc (.cells #[.int .i64 rk, .int .i64 rn] 31)).alloc (.cells #[.int .i64 f] 3)).alloc (.cells #[.int .i64 0, .int .i64 0] 31)).alloc (.cells #[.int .i64 0, .int .i64 0] 31)).alloc (.cells #[.bool false] 4)).alloc (.cells #[.pointer (some ⟨b, 0, none⟩)] 24)) (w.heap.size + 1 + 1) #[.int .i64 0, .int .i64 0] 31 := by
    have h := Blk.keepn (Blk.keepn (Blk.keepn (Blk.new ((w.alloc (.cells #[.int .i64 rk, .int .i64 rn] 31)).alloc (.cells #[.int .i64 f] 3)) #[.int .i64 0, .int .i64 0] 31) (g_alloc (g_refl _ none) (.cells #[.int .i64 0, .int .i64 0] 31))) (g_alloc (g_refl _ none) (.cells #[.bool false] 4))) (g_alloc (g_refl _ none) (.cells #[.pointer (some ⟨b, 0, none⟩)] 24))
    simpa only [World.size_alloc] using h
  have B3 : Blk ((((((w.alloc (.cells #[.int .i64 rk, .int .i64 rn] 31)).alloc (.cells #[.int .i64 f] 3)).alloc (.cells #[.int .i64 0, .int .i64 0] 31)).alloc (.cells #[.int .i64 0, .int .i64 0] 31)).alloc (.cells #[.bool false] 4)).alloc (.cells #[.pointer (some ⟨b, 0, none⟩)] 24)) (w.heap.size + 1 + 1 + 1) #[.int .i64 0, .int .i64 0] 31 := by
    have h := Blk.keepn (Blk.keepn (Blk.new (((w.alloc (.cells #[.int .i64 rk, .int .i64 rn] 31)).alloc (.cells #[.int .i64 f] 3)).alloc (.cells #[.int .i64 0, .int .i64 0] 31)) #[.int .i64 0, .int .i64 0] 31) (g_alloc (g_refl _ none) (.cells #[.bool false] 4))) (g_alloc (g_refl _ none) (.cells #[.pointer (some ⟨b, 0, none⟩)] 24))
    simpa only [World.size_alloc] using h
  have B4 : Blk ((((((w.alloc (.cells #[.int .i64 rk, .int .i64 rn] 31)).alloc (.cells #[.int .i64 f] 3)).alloc (.cells #[.int .i64 0, .int .i64 0] 31)).alloc (.cells #[.int .i64 0, .int .i64 0] 31)).alloc (.cells #[.bool false] 4)).alloc (.cells #[.pointer (some ⟨b, 0, none⟩)] 24)) (w.heap.size + 1 + 1 + 1 + 1) #[.bool false] 4 := by
    have h := Blk.keepn (Blk.new ((((w.alloc (.cells #[.int .i64 rk, .int .i64 rn] 31)).alloc (.cells #[.int .i64 f] 3)).alloc (.cells #[.int .i64 0, .int .i64 0] 31)).alloc (.cells #[.int .i64 0, .int .i64 0] 31)) #[.bool false] 4) (g_alloc (g_refl _ none) (.cells #[.pointer (some ⟨b, 0, none⟩)] 24))
    simpa only [World.size_alloc] using h
  have B5 : Blk ((((((w.alloc (.cells #[.int .i64 rk, .int .i64 rn] 31)).alloc (.cells #[.int .i64 f] 3)).alloc (.cells #[.int .i64 0, .int .i64 0] 31)).alloc (.cells #[.int .i64 0, .int .i64 0] 31)).alloc (.cells #[.bool false] 4)).alloc (.cells #[.pointer (some ⟨b, 0, none⟩)] 24)) (w.heap.size + 1 + 1 + 1 + 1 + 1) #[.pointer (some ⟨b, 0, none⟩)] 24 := by
    have h := Blk.new (((((w.alloc (.cells #[.int .i64 rk, .int .i64 rn] 31)).alloc (.cells #[.int .i64 f] 3)).alloc (.cells #[.int .i64 0, .int .i64 0] 31)).alloc (.cells #[.int .i64 0, .int .i64 0] 31)).alloc (.cells #[.bool false] 4)) #[.pointer (some ⟨b, 0, none⟩)] 24
    simpa only [World.size_alloc] using h
  have hbw := h.lt
  have LG := Lib.hid (h.strict.keep gi)
  have cBl := B5.cell 0 _ rfl
  clear g3 HN h
  generalize ((((((w.alloc (.cells #[.int .i64 rk, .int .i64 rn] 31)).alloc (.cells #[.int .i64 f] 3)).alloc (.cells #[.int .i64 0, .int .i64 0] 31)).alloc (.cells #[.int .i64 0, .int .i64 0] 31)).alloc (.cells #[.bool false] 4)).alloc (.cells #[.pointer (some ⟨b, 0, none⟩)] 24)) = wi at *
  obtain ⟨ao, c, hblk, hown, hsr, hbl⟩ := LG.out.row
  have c1 := hblk.cell 1 _ rfl
  have hseq := behind1_seq 11 (by omega) b (w.heap.size + 1 + 1 + 1 + 1 + 1) (wi.heap.size + 2) ao c L wi hl cBl c1 hsr
  have HAO : Hid (∀ a, ao = some a → a.block < w.heap.size) := Lib.hid (fun a e => (hbl a e).1.2)
  refine wpIn_rangeX (w0 := wi) rfl (by omega) (gf := 23) (lb := #[.pointer (some ⟨w.heap.size + 1 + 1 + 1 + 1 + 1, 0, none⟩)]) rfl trivial (enters_of Try.func23 (by kernel_rfl) rfl) hseq KB.trans (fun W l o o' _ h ho => KB.putObj W l o o' h ho) (Below.refl _ _) (fun _ => rfl)
    (fun pre W' => Blk W' (w.heap.size + 1 + 1 + 1) #[.int .i64 (stp rk rn f pre).1, .int .i64 (stp rk rn f pre).2.1] 31 ∧ Blk W' (w.heap.size + 1 + 1 + 1 + 1) #[.bool (stp rk rn f pre).2.2] 4 ∧ Tr (fun i => i = w.heap.size + 1 + 1 + 1 ∨ i = w.heap.size + 1 + 1 + 1 + 1) wi W')
    (fun _ _ _ => False)
    (fun s A B' hs hb => ⟨hs.1.bel hb (by omega), hs.2.1.bel hb (by omega), tr_bel hs.2.2 hb (Nat.le_refl _)⟩)
    (fun cd s A B' hs hb => hs)
    ⟨B3, B4, tr_refl _ _⟩
    (fun x a' W' => ∃ Bx, wi.heap.size + 2 ≤ Bx ∧ Blk W' Bx #[.int .i64 x.k, .int .i64 x.n, .int .i64 x.f, .int .i64 x.vk, .int .i64 x.vn, .bool x.h, .int .i64 x.s] 36 ∧ a' = { tmps := #[.pointer (some ⟨b, 0, none⟩), .agg #[.int .i64 rk, .int .i64 rn], .int .i64 f, undef, .pointer (some ⟨w.heap.size, 0, none⟩), .pointer (some ⟨w.heap.size + 1, 0, none⟩), .pointer (some ⟨w.heap.size + 1 + 1, 0, none⟩), .bool false, .pointer (some ⟨w.heap.size + 1 + 1 + 1, 0, none⟩), .pointer (some ⟨w.heap.size + 1 + 1 + 1 + 1, 0, none⟩), .pointer (some ⟨Bx, 0, none⟩), .pointer (some ⟨b, 0, none⟩), .bool false, undef, .pointer (some ⟨b, 0, none⟩), .func (.func 23) #[] #[.pointer (some ⟨w.heap.size + 1 + 1 + 1 + 1 + 1, 0, none⟩)], .agg #[.int .i64 x.k, .int .i64 x.n, .int .i64 x.f, .int .i64 x.vk, .int .i64 x.vn, .bool x.h, .int .i64 x.s], undef, undef, undef, undef, undef, undef, undef, undef, undef, undef, undef, undef, undef, undef, undef, undef, undef, undef, undef], defers := [] })
    (fun x a' W' l' o' ⟨Bx, h1, h2, h3⟩ hl' => ⟨Bx, h1, (World.putObj_heap_other (by omega)).trans h2, h3⟩) ?assign ?body ?done ?stop
  case assign =>
    intro l' pre x W' K hsz' hi hK
    gi_wp2
    have ga := g_alloc (g_refl W' none) (.cells #[.int .i64 x.k, .int .i64 x.n, .int .i64 x.f, .int .i64 x.vk, .int .i64 x.vn, .bool x.h, .int .i64 x.s] 36)
    exact hK _ _ ((KeepsOthers.alloc _ _).from _) (KB.of_g ga) ⟨hi.1.keepn ga, hi.2.1.keepn ga, tr_then hi.2.2 ga⟩ ⟨W'.heap.size, hsz', Blk.new _ _ _, rfl⟩
  case body =>
    rintro l' pre x a' W' hsz' ⟨hv, hfd, ht⟩ ⟨Bx, hBx, hblx, rfl⟩ hlen
    obtain ⟨pk, pn, pf, pvk, pvn, ph, ps⟩ := x
    simp only at hblx
    have R0 := ht.blk B0 (by omega)
    have R1 := ht.blk B1 (by omega)
    obtain ⟨sv, hsv⟩ : ∃ sv, stp rk rn f pre = sv := ⟨_, rfl⟩
    rw [hsv] at hv hfd
    have HV := Lib.hid hv
    have HFD := Lib.hid hfd
    have HT := Lib.hid ht
    have HSV := Lib.hid hsv
    have r0 := R0.cell 0 (.int .i64 rk) rfl
    have r1 := R0.cell 1 (.int .i64 rn) rfl
    have r2 := R1.cell 0 (.int .i64 f) rfl
    have c0 := hblx.cell 0 (.int .i64 pk) rfl
    have c1 := hblx.cell 1 (.int .i64 pn) rfl
    have c2 := hblx.cell 2 (.int .i64 pf) rfl
    have c3 := hblx.cell 3 (.int .i64 pvk) rfl
    have c4 := hblx.cell 4 (.int .i64 pvn) rfl
    have c5 := hblx.cell 5 (.bool ph) rfl
    have c6 := hblx.cell 6 (.int .i64 ps) rfl
    have v0 := hv.cell 0 _ rfl
    have v1 := hv.cell 1 _ rfl
    have vf0 := hv.free 0
    have vf1 := hv.free 1
    have u0 := hfd.cell 0 _ rfl
    have uf0 := hfd.free 0
    have HNO : Hid (¬ hitP rk rn f ⟨pk, pn, pf, pvk, pvn, ph, ps⟩ → KeepsFrom wi.heap.size W' W' ∧ KB (fun k => wi.heap.size + 2 ≤ k ∨ ∃ a, ao = some a ∧ k = a.block) W' W' ∧ Blk W' (w.heap.size + 1 + 1 + 1) #[.int .i64 (stp rk rn f (pre ++ [⟨pk, pn, pf, pvk, pvn, ph, ps⟩])).1, .int .i64 (stp rk rn f (pre ++ [⟨pk, pn, pf, pvk, pvn, ph, ps⟩])).2.1] 31 ∧ Blk W' (w.heap.size + 1 + 1 + 1 + 1) #[.bool (stp rk rn f (pre ++ [⟨pk, pn, pf, pvk, pvn, ph, ps⟩])).2.2] 4 ∧ Tr (fun i => i = w.heap.size + 1 + 1 + 1 ∨ i = w.heap.size + 1 + 1 + 1 + 1) wi W') := Lib.hid (fun hno => by
      rw [stp_snoc, if_neg hno, HSV.out]
      exact ⟨KeepsFrom.refl _ _, KB.refl _ _, HV.out, HFD.out, HT.out⟩)
    have HLE : Hid (L ≠ []) := Lib.hid (fun e => by subst e; simp at hlen)
    clear hsv hblx hv hfd ht hseq hsr hblk hown cBl
    cases ph with
    | true =>
      gi_wp2
      exact HNO.out (fun e => by cases e.1)
    | false =>
      by_cases h1 : pk = rk
      · have e1 : (pk == rk) = true := by simpa using h1
        by_cases h2 : pn = rn
        · have e2 : (pn == rn) = true := by simpa using h2
          by_cases h3 : pf = f
          · have e3 : (pf == f) = true := by simpa using h3
            gi_wp2
            have hh : hitP rk rn f ⟨pk, pn, pf, pvk, pvn, false, ps⟩ := ⟨rfl, h1, h2, h3⟩
            have T1 := tr_set (tr_set (tr_set (tr_refl (fun i => i = w.heap.size + 1 + 1 + 1 ∨ i = w.heap.size + 1 + 1 + 1 + 1) W') ⟨w.heap.size + 1 + 1 + 1, 0, none⟩ (.int .i64 pvk) (.inl rfl)) ⟨w.heap.size + 1 + 1 + 1, 1, none⟩ (.int .i64 pvn) (.inl rfl)) ⟨w.heap.size + 1 + 1 + 1 + 1, 0, none⟩ (.bool true) (.inr rfl)
            have T2 := tr_set (tr_set (tr_refl (fun i => i = w.heap.size + 1 + 1 + 1) W') ⟨w.heap.size + 1 + 1 + 1, 0, none⟩ (.int .i64 pvk) rfl) ⟨w.heap.size + 1 + 1 + 1, 1, none⟩ (.int .i64 pvn) rfl
            have X1 := (HV.out.set 0 (.int .i64 pvk)).set 1 (.int .i64 pvn)
            have X2 := (T2.blk HFD.out (by omega)).set 0 (.bool true)
            have e : stp rk rn f (pre ++ [⟨pk, pn, pf, pvk, pvn, false, ps⟩]) = (pvk, pvn, true) := by rw [stp_snoc, if_pos hh]
            refine ⟨kf_tr T1 (fun i e => by omega), KB.of_tr T1 (fun k hk => ?_), ?_, ?_, tr_trans HT.out T1 (fun i _ e => e)⟩
            · rcases hk with hk | ⟨a, e, rfl⟩
              · omega
              · have := HAO.out a e; omega
            · show Blk _ _ #[.int .i64 (stp rk rn f (pre ++ [_])).1, .int .i64 (stp rk rn f (pre ++ [_])).2.1] 31
              rw [e]
              exact Blk.keeps (by simpa using X1) (g_set (g_refl _ (some (w.heap.size + 1 + 1 + 1 + 1))) (p := ⟨w.heap.size + 1 + 1 + 1 + 1, 0, none⟩) (.inl rfl) (.bool true)) (by omega)
            · show Blk _ _ #[.bool (stp rk rn f (pre ++ [_])).2.2] 4
              rw [e]
              simpa using X2
          · have e3 : (pf == f) = false := by simpa using h3
            gi_wp2
            exact HNO.out (fun e => h3 e.2.2.2)
        · have e2 : (pn == rn) = false := by simpa using h2
          gi_wp2
          exact HNO.out (fun e => h2 e.2.2.1)
      · have e1 : (pk == rk) = false := by simpa using h1
        gi_wp2
        exact HNO.out (fun e => h1 e.2.1)
  case done =>
    rintro D xs W' hD rfl ⟨hv, hfd, ht⟩ hK
    rw [stp_rev] at hv hfd
    obtain ⟨fp, hfp⟩ : ∃ fp, firstP rk rn f L = fp := ⟨_, rfl⟩
    rw [hfp] at hv hfd
    have HFP := Lib.hid hfp
    obtain ⟨fk, fn, fb⟩ := fp
    simp only at hv hfd
    have Y2 := ht.blk B2 (by omega)
    have TT := Lib.hid (And.intro (hv.cell 0 _ rfl) (And.intro (hv.cell 1 _ rfl) (hfd.cell 0 _ rfl)))
    have y0 : W'.cell? ⟨w.heap.size + 1 + 1, 0, none⟩ = some (.int .i64 0) := Y2.cell 0 _ rfl
    have y1 : W'.cell? ⟨w.heap.size + 1 + 1, 1, none⟩ = some (.int .i64 0) := Y2.cell 1 _ rfl
    have f0 := Y2.free 0
    have f1 := Y2.free 1
    have HY : Hid (Blk ((W'.setCell ⟨w.heap.size + 1 + 1, 0, none⟩ (.int .i64 fk)).setCell ⟨w.heap.size + 1 + 1, 1, none⟩ (.int .i64 fn)).drew (w.heap.size + 1 + 1) #[.int .i64 fk, .int .i64 fn] 31) := Lib.hid (Blk.drew (by simpa using (Y2.set 0 (.int .i64 fk)).set 1 (.int .i64 fn)))
    have HG := Lib.hid ((tr_trans (tr_g gi (fun _ => False)) ht (fun i hi e => by omega)).g (fun i _ e => e))
    have HKD := Lib.hid hK
    clear hv hfd ht hK hfp hseq c1 cBl hsr hown hblk hbl Y2
    gi_wp2
    refine wpIn_norm ?_
    refine wpIn_wide.2 ?_
    refine wp_region_held_drew (S := fun W'' => W'.grownBy W'' (some (w.heap.size + 1 + 1))) (by kernel_rfl) (g_drew (g_refl W' (some (w.heap.size + 1 + 1)))) (fun hHeld => ?_)
    refine wpAnyH_take (i := 0) (v := .agg #[.int .i64 fk, .int .i64 fn]) rfl (by kernel_rfl) (by kernel_rfl) (by kernel_rfl) (fun _ _ _ h => (by cases h.1)) (Or.inl ⟨by rfl, fun w hw => by have q0 := hw.cell TT.out.1 (by simp only [ne_eq, Option.some.injEq]; omega); have q1 := hw.cell TT.out.2.1 (by simp only [ne_eq, Option.some.injEq]; omega); clear hw; go_simp⟩) hHeld ?_
    try simp only [Act.put, List.setIfInBounds_toArray, List.set_cons_zero, List.set_cons_succ, List.getElem_toArray, List.getElem_cons_zero, List.getElem_cons_succ]
    refine wpAnyH_take (i := 1) (v := .bool fb) rfl (by kernel_rfl) (by kernel_rfl) (by kernel_rfl) (fun _ _ _ h => (by cases h.1)) (Or.inl ⟨by rfl, fun w hw => by have q0 := hw.cell TT.out.2.2 (by simp only [ne_eq, Option.some.injEq]; omega); clear hw; go_simp⟩) hHeld ?_
    try simp only [Act.put, List.setIfInBounds_toArray, List.set_cons_zero, List.set_cons_succ, List.getElem_toArray, List.getElem_cons_zero, List.getElem_cons_succ]
    refine wpAnyH_ready (rs := [2]) (by kernel_rfl) (by simp) (AllReadyH.cons rfl (fun K hK => ?_) (AllReadyH.nil))
    go_simp
    refine hK.out _ _ (g_set (g_set hHeld (p := ⟨w.heap.size + 1 + 1, 0, none⟩) (.inl rfl) (.int .i64 fk)) (p := ⟨w.heap.size + 1 + 1, 1, none⟩) (.inl rfl) (.int .i64 fn)) (fun hHeld => ?_)
    clear hK K
    try simp only [Act.put, List.setIfInBounds_toArray, List.set_cons_zero, List.set_cons_succ, List.getElem_toArray, List.getElem_cons_zero, List.getElem_cons_succ]
    refine wpAnyH_take (i := 3) (v := .bool fb) rfl (by kernel_rfl) (by kernel_rfl) (by kernel_rfl) (fun _ _ _ h => (by cases h.1)) (Or.inl ⟨by rfl, fun w hw => by clear hw; go_simp⟩) hHeld ?_
    try simp only [Act.put, List.setIfInBounds_toArray, List.set_cons_zero, List.set_cons_succ, List.getElem_toArray, List.getElem_cons_zero, List.getElem_cons_succ]
    refine wpAnyH_done (by kernel_rfl) ⟨rfl, ?_⟩ _
    have HKF := Lib.hid ((hHeld.block D (Array.getElem?_eq_some_iff.1 HKD.out).1 (by simp; omega)).trans HKD.out)
    have HGF := Lib.hid (g_in HG.out hHeld (by omega))
    gi_wp2
    refine ⟨by simp, .inl ⟨_, _, rfl, run_takeDeferred HKF.out, ?_⟩⟩
    have hb' := fun W => bel_putObj (B := wi.heap.size) W D (.deferred none) hD
    have q := HY.out.bel (hb' _) (by omega)
    have q0 := q.cell 0 (.int .i64 fk) rfl
    have q1 := q.cell 1 (.int .i64 fn) rfl
    exact ⟨.tuple #[.agg #[.int .i64 fk, .int .i64 fn], .bool fb], by simp [results, Try.results9, go_sem, q0, q1], by rw [HFP.out], g_in HGF.out (grownBy_putObj' _ D _) (by omega)⟩
  case stop =>
    intro D cd pre W' hD hSp h
    exact h.elim
end Go.Proofs.Ytllljpmcfjmciaa
