/- Sets of what was read: Add. -/
import Derived.Test.YtbaocimmpiojeaaD
namespace Go.Proofs.Ytbaocimmpiojeaa
open Go.RowKit
set_option linter.unusedVariables false
set_option linter.unusedSimpArgs false

/-- what an Add makes -/
def addP (most : Int) (L : List (Int × Int)) (k v : Int) : Int × List (Int × Int) :=
  if k < 0 ∨ 1024 ≤ k ∨ v < 0 ∨ 2199023255552 < v then (1, L) else if (hasP L k).2 then (0, L) else if most ≤ L.length then (60, L) else (0, L ++ [(k, v)])
theorem dist_snoc {L : List (Int × Int)} {k v : Int} (h : Dist L) (hk : ¬ ∃ p ∈ L, p.1 = k) (h0 : 0 ≤ k) (h1 : k < 1024) : Dist (L ++ [(k, v)]) := by
  refine ⟨?_, fun p hp => ?_⟩
  · refine List.pairwise_append.2 ⟨h.1, List.pairwise_singleton _ _, fun p hp q hq => ?_⟩
    simp at hq; subst hq; exact fun e => hk ⟨p, hp, e⟩
  · rcases List.mem_append.1 hp with hp | hp
    · exact h.2 p hp
    · simp at hp; subst hp; exact ⟨h0, h1⟩
theorem info37 : (Try.prog.info? 37).map (fun i => (i.zero, i.size, i.bytes)) = some (some (.agg #[.int .i64 0, .int .i64 0]), 2, 16) := by kernel_rfl
theorem news2 (w : World) (a b : Int) : ∀ (j : Nat) (u : Value), ([.int .i64 a, .int .i64 b] : List Value)[j]? = some u → (w.alloc (.cells #[.int .i64 a, .int .i64 b] 37)).cell? ((⟨w.heap.size, 0, none⟩ : Addr).add j) = some u := new_cells w [.int .i64 a, .int .i64 b] 37
theorem ones2 (a b : Int) : ∀ u ∈ ([.int .i64 a, .int .i64 b] : List Value), u.oneCell' = true := by intro u hu; simp at hu; rcases hu with rfl | rfl <;> rfl

set_option maxRecDepth 100000 in
set_option maxHeartbeats 6400000 in
theorem add_any (S : Nat → Prop) (b : Nat) (most : Int) (L : List (Int × Int)) (k v : Int) (w : World) (h : Rs w S b most L) (hl : L.length ≤ 4999) (hS : ∀ i, w.heap.size ≤ i → S i) (hm : most ≠ 0) (hk : (Lit.int .i64 k).wf = true) :
    Calls Try.prog 10 #[.pointer (some ⟨b, 0, none⟩), .int .i64 k, .int .i64 v] w fun e w' => e = .returned (.int .i64 (addP most L k v).1) ∧ Rs w' S b most (addP most L k v).2 ∧ Tr S w w' := by
  have HN := Lib.hid (none_any b most w (by obtain ⟨_, lv, d, mo, h1, _⟩ := h; exact Blk.cell h1 0 _ rfl) hm)
  have HI := Lib.hid (index_any S b most L w h (by omega) hS)
  have HS := Lib.hid h
  obtain ⟨ap, hap⟩ : ∃ ap, addP most L k v = ap := ⟨_, rfl⟩
  rw [hap]
  have HAP := Lib.hid hap
  clear hap h
  by_cases hbad : k < 0 ∨ 1024 ≤ k ∨ v < 0 ∨ 2199023255552 < v
  · obtain rfl : ap = (1, L) := by rw [← HAP.out, addP, if_pos hbad]
    have hcs : k < 0 ∨ (¬ k < 0 ∧ 1024 ≤ k) ∨ (¬ k < 0 ∧ ¬ 1024 ≤ k ∧ v < 0) ∨ (¬ k < 0 ∧ ¬ 1024 ≤ k ∧ ¬ v < 0 ∧ 2199023255552 < v) := by omega
    clear hbad HAP HI
    rcases hcs with h1 | ⟨h1, h2⟩ | ⟨h1, h2, h3⟩ | ⟨h1, h2, h3, h4⟩
    all_goals
      go_enter Try.func10, Try.ntmps10
      go_wp2_with fail
      refine HN.out.mono ?_
      rintro e w1 ⟨rfl, rfl⟩
      go_wp2_with fail
      go_ret
      exact ⟨rfl, HS.out, tr_refl _ _⟩
  · have b1 : ¬ k < 0 := by omega
    have b2 : ¬ 1024 ≤ k := by omega
    have b3 : ¬ v < 0 := by omega
    have b4 : ¬ 2199023255552 < v := by omega
    have hap2 : Hid (ap = if (hasP L k).2 then (0, L) else if most ≤ L.length then (60, L) else (0, L ++ [(k, v)])) := Lib.hid (by rw [← HAP.out, addP, if_neg hbad])
    clear hbad HAP HS
    go_enter Try.func10, Try.ntmps10
    go_wp2_with fail
    refine HN.out.mono ?_
    rintro e w1 ⟨rfl, rfl⟩
    go_wp2_with fail
    refine HI.out.mono ?_
    rintro e w2 ⟨m, rfl, hx, ht⟩
    have HX := Lib.hid hx
    have HT := Lib.hid ht
    obtain ⟨h0, lv, h1, h2, h3, h4, h5, h6, h7, nn, D, hown, hnn, hh1, hh2⟩ := hx
    obtain ⟨ao, c, rfl, -, -⟩ := srow_of_own h2
    have HOW := Lib.hid hown
    clear ht
    rcases has_cases L k with hno | ⟨i, v', hi⟩
    · have hhas : Maps.has D (.int .i64 k) = false := by
        cases hh : Maps.has D (.int .i64 k)
        · rfl
        · exact absurd ((hh1 k).1 hh) hno
      have HAP : Hid (ap = if most ≤ L.length then (60, L) else (0, L ++ [(k, v)])) := Lib.hid (by rw [hap2.out, hasP_no hno]; simp)
      have HMD := Lib.hid (And.intro hnn (And.intro hh1 hh2))
      have HNO := Lib.hid hno
      have HD := Lib.hid h4
      have HA := Lib.hid (And.intro h0 (And.intro h3 (And.intro h5 (And.intro h6 h7))))
      have HB2 := Lib.hid h1
      have HO2 := Lib.hid h2
      have H7 := Lib.hid h7
      have hlc := (len_own h2).1
      have hlm := (len_own h2).2
      have hblt := h1.lt
      have C := Lib.hid (And.intro (Blk.cell h1 0 _ rfl) (And.intro (Blk.cell h1 1 _ rfl) (Blk.cell h1 5 _ rfl)))
      clear hh1 hh2 hno h1 h2 h3 h4 h5 h7 hap2 hown hnn
      obtain ⟨n, hn⟩ : ∃ n, L.length = n := ⟨_, rfl⟩
      rw [hn] at HAP HMD HB2 HO2 H7 hlc C HA hl
      have HLN := Lib.hid hn
      clear hn
      go_wp2_with (at_lookup; refine wpList_lookup_own_ok_int _ rfl _ _ 62 rfl 3 3 .i64 (Maps.int_keyed Try.underlying3) Try.underlying62 Try.underlying3 (zv3 _) m nn D rfl HOW.out (.int .i64 k) (.int .i64 k) rfl (Maps.keyOf_int_mk Try.underlying3 hk) ?_; intro cc hat hwc; rw [hhas])
      clear hat hwc
      go_upto_region 8 with fail
      by_cases hfull : most ≤ n
      · obtain rfl : ap = (60, L) := by rw [HAP.out, if_pos hfull]
        refine wp_region_held_drew (S := fun W' => w2.grownBy W' none) (by kernel_rfl) (g_drew (g_refl _ _)) (fun hHeld => ?_)
        refine wpAnyH_take (i := 0) (v := .pointer (some ⟨b, 0, none⟩)) rfl (by kernel_rfl) (by kernel_rfl) (by kernel_rfl) (fun _ _ _ h => h) (Or.inl ⟨by rfl, fun w hw => by clear hw; go_simp⟩) hHeld ?_
        try simp only [Act.put, List.setIfInBounds_toArray, List.set_cons_zero, List.set_cons_succ, List.getElem_toArray, List.getElem_cons_zero, List.getElem_cons_succ]
        refine wpAnyH_take (i := 1) (v := .pointer (some ⟨b, 0, none⟩)) rfl (by kernel_rfl) (by kernel_rfl) (by kernel_rfl) (fun _ _ _ h => h) (Or.inl ⟨by rfl, fun w hw => by clear hw; go_simp⟩) hHeld ?_
        try simp only [Act.put, List.setIfInBounds_toArray, List.set_cons_zero, List.set_cons_succ, List.getElem_toArray, List.getElem_cons_zero, List.getElem_cons_succ]
        refine wpAnyH_take (i := 2) (v := .pointer (some ⟨b, 1, none⟩)) rfl (by kernel_rfl) (by kernel_rfl) (by kernel_rfl) (fun _ _ _ h => h) (Or.inl ⟨by rfl, fun w hw => by clear hw; go_simp⟩) hHeld ?_
        try simp only [Act.put, List.setIfInBounds_toArray, List.set_cons_zero, List.set_cons_succ, List.getElem_toArray, List.getElem_cons_zero, List.getElem_cons_succ]
        refine wpAnyH_take (i := 3) (v := .slice ao n c) rfl (by kernel_rfl) (by kernel_rfl) (by kernel_rfl) (fun _ _ _ h => h) (Or.inl ⟨by rfl, fun w hw => by have q0 := hw.cell C.out.2.1 (by simp); clear hw; go_simp⟩) hHeld ?_
        try simp only [Act.put, List.setIfInBounds_toArray, List.set_cons_zero, List.set_cons_succ, List.getElem_toArray, List.getElem_cons_zero, List.getElem_cons_succ]
        refine wpAnyH_take (i := 4) (v := .int .i64 (n : Int)) rfl (by kernel_rfl) (by kernel_rfl) (by kernel_rfl) (fun _ _ _ h => h) (Or.inl ⟨by rfl, fun w hw => by clear hw; go_simp⟩) hHeld ?_
        try simp only [Act.put, List.setIfInBounds_toArray, List.set_cons_zero, List.set_cons_succ, List.getElem_toArray, List.getElem_cons_zero, List.getElem_cons_succ]
        refine wpAnyH_take (i := 5) (v := .pointer (some ⟨b, 0, none⟩)) rfl (by kernel_rfl) (by kernel_rfl) (by kernel_rfl) (fun _ _ _ h => h) (Or.inl ⟨by rfl, fun w hw => by clear hw; go_simp⟩) hHeld ?_
        try simp only [Act.put, List.setIfInBounds_toArray, List.set_cons_zero, List.set_cons_succ, List.getElem_toArray, List.getElem_cons_zero, List.getElem_cons_succ]
        refine wpAnyH_take (i := 6) (v := .pointer (some ⟨b, 0, none⟩)) rfl (by kernel_rfl) (by kernel_rfl) (by kernel_rfl) (fun _ _ _ h => h) (Or.inl ⟨by rfl, fun w hw => by clear hw; go_simp⟩) hHeld ?_
        try simp only [Act.put, List.setIfInBounds_toArray, List.set_cons_zero, List.set_cons_succ, List.getElem_toArray, List.getElem_cons_zero, List.getElem_cons_succ]
        refine wpAnyH_take (i := 7) (v := .pointer (some ⟨b, 0, none⟩)) rfl (by kernel_rfl) (by kernel_rfl) (by kernel_rfl) (fun _ _ _ h => h) (Or.inl ⟨by rfl, fun w hw => by clear hw; go_simp⟩) hHeld ?_
        try simp only [Act.put, List.setIfInBounds_toArray, List.set_cons_zero, List.set_cons_succ, List.getElem_toArray, List.getElem_cons_zero, List.getElem_cons_succ]
        refine wpAnyH_take (i := 8) (v := .int .i64 most) rfl (by kernel_rfl) (by kernel_rfl) (by kernel_rfl) (fun _ _ _ h => h) (Or.inl ⟨by rfl, fun w hw => by have q0 := hw.cell C.out.1 (by simp); clear hw; go_simp⟩) hHeld ?_
        try simp only [Act.put, List.setIfInBounds_toArray, List.set_cons_zero, List.set_cons_succ, List.getElem_toArray, List.getElem_cons_zero, List.getElem_cons_succ]
        refine wpAnyH_take (i := 9) (v := .bool true) rfl (by kernel_rfl) (by kernel_rfl) (by kernel_rfl) (fun _ _ _ h => h) (Or.inl ⟨by rfl, fun w hw => by clear hw; go_simp⟩) hHeld ?_
        try simp only [Act.put, List.setIfInBounds_toArray, List.set_cons_zero, List.set_cons_succ, List.getElem_toArray, List.getElem_cons_zero, List.getElem_cons_succ]
        refine wpAnyH_done (by kernel_rfl) ?_ _
        go_wp2_with fail
        go_ret
        exact ⟨rfl, (HX.out.keep hHeld).rs, tr_then HT.out hHeld⟩
      · obtain rfl : ap = (0, L ++ [(k, v)]) := by rw [HAP.out, if_neg hfull]
        refine wp_region_held_drew (S := fun W' => w2.grownBy W' none) (by kernel_rfl) (g_drew (g_refl _ _)) (fun hHeld => ?_)
        refine wpAnyH_take (i := 0) (v := .pointer (some ⟨b, 0, none⟩)) rfl (by kernel_rfl) (by kernel_rfl) (by kernel_rfl) (fun _ _ _ h => h) (Or.inl ⟨by rfl, fun w hw => by clear hw; go_simp⟩) hHeld ?_
        try simp only [Act.put, List.setIfInBounds_toArray, List.set_cons_zero, List.set_cons_succ, List.getElem_toArray, List.getElem_cons_zero, List.getElem_cons_succ]
        refine wpAnyH_take (i := 1) (v := .pointer (some ⟨b, 0, none⟩)) rfl (by kernel_rfl) (by kernel_rfl) (by kernel_rfl) (fun _ _ _ h => h) (Or.inl ⟨by rfl, fun w hw => by clear hw; go_simp⟩) hHeld ?_
        try simp only [Act.put, List.setIfInBounds_toArray, List.set_cons_zero, List.set_cons_succ, List.getElem_toArray, List.getElem_cons_zero, List.getElem_cons_succ]
        refine wpAnyH_take (i := 2) (v := .pointer (some ⟨b, 1, none⟩)) rfl (by kernel_rfl) (by kernel_rfl) (by kernel_rfl) (fun _ _ _ h => h) (Or.inl ⟨by rfl, fun w hw => by clear hw; go_simp⟩) hHeld ?_
        try simp only [Act.put, List.setIfInBounds_toArray, List.set_cons_zero, List.set_cons_succ, List.getElem_toArray, List.getElem_cons_zero, List.getElem_cons_succ]
        refine wpAnyH_take (i := 3) (v := .slice ao n c) rfl (by kernel_rfl) (by kernel_rfl) (by kernel_rfl) (fun _ _ _ h => h) (Or.inl ⟨by rfl, fun w hw => by have q0 := hw.cell C.out.2.1 (by simp); clear hw; go_simp⟩) hHeld ?_
        try simp only [Act.put, List.setIfInBounds_toArray, List.set_cons_zero, List.set_cons_succ, List.getElem_toArray, List.getElem_cons_zero, List.getElem_cons_succ]
        refine wpAnyH_take (i := 4) (v := .int .i64 (n : Int)) rfl (by kernel_rfl) (by kernel_rfl) (by kernel_rfl) (fun _ _ _ h => h) (Or.inl ⟨by rfl, fun w hw => by clear hw; go_simp⟩) hHeld ?_
        try simp only [Act.put, List.setIfInBounds_toArray, List.set_cons_zero, List.set_cons_succ, List.getElem_toArray, List.getElem_cons_zero, List.getElem_cons_succ]
        refine wpAnyH_take (i := 5) (v := .pointer (some ⟨b, 0, none⟩)) rfl (by kernel_rfl) (by kernel_rfl) (by kernel_rfl) (fun _ _ _ h => h) (Or.inl ⟨by rfl, fun w hw => by clear hw; go_simp⟩) hHeld ?_
        try simp only [Act.put, List.setIfInBounds_toArray, List.set_cons_zero, List.set_cons_succ, List.getElem_toArray, List.getElem_cons_zero, List.getElem_cons_succ]
        refine wpAnyH_take (i := 6) (v := .pointer (some ⟨b, 0, none⟩)) rfl (by kernel_rfl) (by kernel_rfl) (by kernel_rfl) (fun _ _ _ h => h) (Or.inl ⟨by rfl, fun w hw => by clear hw; go_simp⟩) hHeld ?_
        try simp only [Act.put, List.setIfInBounds_toArray, List.set_cons_zero, List.set_cons_succ, List.getElem_toArray, List.getElem_cons_zero, List.getElem_cons_succ]
        refine wpAnyH_take (i := 7) (v := .pointer (some ⟨b, 0, none⟩)) rfl (by kernel_rfl) (by kernel_rfl) (by kernel_rfl) (fun _ _ _ h => h) (Or.inl ⟨by rfl, fun w hw => by clear hw; go_simp⟩) hHeld ?_
        try simp only [Act.put, List.setIfInBounds_toArray, List.set_cons_zero, List.set_cons_succ, List.getElem_toArray, List.getElem_cons_zero, List.getElem_cons_succ]
        refine wpAnyH_take (i := 8) (v := .int .i64 most) rfl (by kernel_rfl) (by kernel_rfl) (by kernel_rfl) (fun _ _ _ h => h) (Or.inl ⟨by rfl, fun w hw => by have q0 := hw.cell C.out.1 (by simp); clear hw; go_simp⟩) hHeld ?_
        try simp only [Act.put, List.setIfInBounds_toArray, List.set_cons_zero, List.set_cons_succ, List.getElem_toArray, List.getElem_cons_zero, List.getElem_cons_succ]
        refine wpAnyH_take (i := 9) (v := .bool false) rfl (by kernel_rfl) (by kernel_rfl) (by kernel_rfl) (fun _ _ _ h => h) (Or.inl ⟨by rfl, fun w hw => by clear hw; go_simp⟩) hHeld ?_
        try simp only [Act.put, List.setIfInBounds_toArray, List.set_cons_zero, List.set_cons_succ, List.getElem_toArray, List.getElem_cons_zero, List.getElem_cons_succ]
        refine wpAnyH_done (by kernel_rfl) ?_ _
        have HB3 := Lib.hid (Blk.keepn HB2.out hHeld)
        have HO3 := Lib.hid (own_keepn HO2.out hHeld)
        have HOW3 := Lib.hid (HOW.out.kept hHeld (by simp))
        have HT3 := Lib.hid (tr_then HT.out hHeld)
        have C3 := Lib.hid (And.intro (hHeld.cell C.out.2.1 (by simp)) (hHeld.cell C.out.2.2 (by simp)))
        have hnx : nn < maxLen := by have := HMD.out.1; unfold maxLen; omega
        have hmb : ¬ b = m := fun e => h6 e.symm
        clear hHeld
        go_upto_region 10 with fail
        generalize w2.drew = w3 at *
        refine wp_region_held_drew (S := fun W' => w3.grownBy W' (some m)) (by kernel_rfl) (g_drew (g_refl w3 (some m))) (fun hHeld => ?_)
        refine wpAnyH_take (i := 0) (v := .pointer (some ⟨b, 0, none⟩)) rfl (by kernel_rfl) (by kernel_rfl) (by kernel_rfl) (fun _ _ _ h => h) (Or.inl ⟨by rfl, fun w hw => by clear hw; go_simp⟩) hHeld ?_
        try simp only [Act.put, List.setIfInBounds_toArray, List.set_cons_zero, List.set_cons_succ, List.getElem_toArray, List.getElem_cons_zero, List.getElem_cons_succ]
        refine wpAnyH_take (i := 1) (v := .pointer (some ⟨b, 0, none⟩)) rfl (by kernel_rfl) (by kernel_rfl) (by kernel_rfl) (fun _ _ _ h => h) (Or.inl ⟨by rfl, fun w hw => by clear hw; go_simp⟩) hHeld ?_
        try simp only [Act.put, List.setIfInBounds_toArray, List.set_cons_zero, List.set_cons_succ, List.getElem_toArray, List.getElem_cons_zero, List.getElem_cons_succ]
        refine wpAnyH_take (i := 2) (v := .pointer (some ⟨b, 5, none⟩)) rfl (by kernel_rfl) (by kernel_rfl) (by kernel_rfl) (fun _ _ _ h => h) (Or.inl ⟨by rfl, fun w hw => by clear hw; go_simp⟩) hHeld ?_
        try simp only [Act.put, List.setIfInBounds_toArray, List.set_cons_zero, List.set_cons_succ, List.getElem_toArray, List.getElem_cons_zero, List.getElem_cons_succ]
        refine wpAnyH_take (i := 3) (v := .map (some m)) rfl (by kernel_rfl) (by kernel_rfl) (by kernel_rfl) (fun _ _ _ h => h) (Or.inl ⟨by rfl, fun w hw => by have q0 := hw.cell C3.out.2 (by simp; omega); clear hw; go_simp⟩) hHeld ?_
        try simp only [Act.put, List.setIfInBounds_toArray, List.set_cons_zero, List.set_cons_succ, List.getElem_toArray, List.getElem_cons_zero, List.getElem_cons_succ]
        refine wpAnyH_take (i := 4) (v := .int .i64 k) rfl (by kernel_rfl) (by kernel_rfl) (by kernel_rfl) (fun _ _ _ h => h) (Or.inl ⟨by rfl, fun w hw => by clear hw; go_simp⟩) hHeld ?_
        try simp only [Act.put, List.setIfInBounds_toArray, List.set_cons_zero, List.set_cons_succ, List.getElem_toArray, List.getElem_cons_zero, List.getElem_cons_succ]
        refine wpAnyH_take (i := 5) (v := .pointer (some ⟨b, 0, none⟩)) rfl (by kernel_rfl) (by kernel_rfl) (by kernel_rfl) (fun _ _ _ h => h) (Or.inl ⟨by rfl, fun w hw => by clear hw; go_simp⟩) hHeld ?_
        try simp only [Act.put, List.setIfInBounds_toArray, List.set_cons_zero, List.set_cons_succ, List.getElem_toArray, List.getElem_cons_zero, List.getElem_cons_succ]
        refine wpAnyH_take (i := 6) (v := .pointer (some ⟨b, 0, none⟩)) rfl (by kernel_rfl) (by kernel_rfl) (by kernel_rfl) (fun _ _ _ h => h) (Or.inl ⟨by rfl, fun w hw => by clear hw; go_simp⟩) hHeld ?_
        try simp only [Act.put, List.setIfInBounds_toArray, List.set_cons_zero, List.set_cons_succ, List.getElem_toArray, List.getElem_cons_zero, List.getElem_cons_succ]
        refine wpAnyH_take (i := 7) (v := .pointer (some ⟨b, 1, none⟩)) rfl (by kernel_rfl) (by kernel_rfl) (by kernel_rfl) (fun _ _ _ h => h) (Or.inl ⟨by rfl, fun w hw => by clear hw; go_simp⟩) hHeld ?_
        try simp only [Act.put, List.setIfInBounds_toArray, List.set_cons_zero, List.set_cons_succ, List.getElem_toArray, List.getElem_cons_zero, List.getElem_cons_succ]
        refine wpAnyH_take (i := 8) (v := .slice ao n c) rfl (by kernel_rfl) (by kernel_rfl) (by kernel_rfl) (fun _ _ _ h => h) (Or.inl ⟨by rfl, fun w hw => by have q0 := hw.cell C3.out.1 (by simp; omega); clear hw; go_simp⟩) hHeld ?_
        try simp only [Act.put, List.setIfInBounds_toArray, List.set_cons_zero, List.set_cons_succ, List.getElem_toArray, List.getElem_cons_zero, List.getElem_cons_succ]
        refine wpAnyH_take (i := 9) (v := .int .i64 (n : Int)) rfl (by kernel_rfl) (by kernel_rfl) (by kernel_rfl) (fun _ _ _ h => h) (Or.inl ⟨by rfl, fun w hw => by clear hw; go_simp⟩) hHeld ?_
        try simp only [Act.put, List.setIfInBounds_toArray, List.set_cons_zero, List.set_cons_succ, List.getElem_toArray, List.getElem_cons_zero, List.getElem_cons_succ]
        refine wpAnyH_ready (rs := [10]) (by kernel_rfl) (by simp) (AllReadyH.cons rfl (fun K hK => ?_) (AllReadyH.nil))
        · refine step_mapUpdate_own rfl _ _ _ 62 rfl 3 3 (Maps.int_keyed Try.underlying3) Try.underlying62 (plainElem (H := Unit) Try.prog 3) m nn D rfl (HOW3.out.drew) hnx (.int .i64 k) (.int .i64 (n : Int)) (.int .i64 k) rfl rfl (Maps.keyOf_int_mk Try.underlying3 hk) (.lit (.int .i64 (n : Int))) [] (plainElem_int Try.underlying3 (key_i64 (by omega) (by omega))) ?_
          intro w9 hown9 hg9
          refine hK.out _ _ (g_trans hHeld hg9) (fun hHeld => ?_)
          clear hK K
          try simp only [Act.put, List.setIfInBounds_toArray, List.set_cons_zero, List.set_cons_succ, List.getElem_toArray, List.getElem_cons_zero, List.getElem_cons_succ]
          refine wpAnyH_done (by kernel_rfl) ?_ _
          have HB9 := Lib.hid (Blk.keep HB3.out hHeld (by simp; omega))
          have HO9 := Lib.hid (HO3.out.kept hHeld (.inr HA.out.2.2.2.2))
          have HM9 : Hid (MapOf w9 m (L ++ [(k, v)])) := Lib.hid (mapOf_put (by rw [HLN.out]; exact HMD.out.1) HMD.out.2.1 HMD.out.2.2 HOW.out.isMap (fun p hp e => HNO.out ⟨p, hp, e⟩) (by rw [HLN.out]; exact hown9))
          have HT9 : Hid (Tr S w1 w9) := Lib.hid (tr_trans HT3.out (tr_row (S := S) hHeld (fun g e _ => by cases e; exact HA.out.2.2.1)) (fun i _ e => e))
          have hms : m < w9.heap.size := by obtain ⟨_, _, hq, _⟩ := HM9.out; exact hq.lt
          clear hHeld hown9 hg9
          have ga := g_alloc (g_refl w9 none) (.cells #[.int .i64 k, .int .i64 v] 37)
          have HBA := Lib.hid (Blk.keepn HB9.out ga)
          have HOA := Lib.hid (own_keepn HO9.out ga)
          have HMA := Lib.hid (HM9.out.keep ga (by simp))
          have HTA := Lib.hid (tr_then HT9.out ga)
          have HNW := Lib.hid (news2 w9 k v)
          have HON := Lib.hid (ones2 k v)
          have hw9 : w1.heap.size ≤ w9.heap.size := HT9.out.size
          have hbl9 := HB9.out.lt
          have c1 := Blk.cell HB9.out 1 _ rfl
          obtain ⟨i0, hi, hz0, hz1, hz2⟩ := info_parts info37
          clear ga
          go_wp2_with (at_builtin; refine wpList_append_lies _ rfl _ _ 34 rfl 0 37 i0 (.agg #[.int .i64 0, .int .i64 0]) 2 16 Try.underlying34 hi hz0 hz1 hz2 rfl (by decide) (.slice ao n c) n (scl L) rfl HOA.out ⟨w9.heap.size, 0, none⟩ 1 1 [.int .i64 k, .int .i64 v] rfl rfl HNW.out HON.out (by omega) (by unfold maxLen; omega) (by omega) (Nat.zero_le _) (w9.heap.size + 1) (by simp) ?_; intro g cap w5 hown5 hgrow hat hlt5; have c1' := (Blk.keep HBA.out hgrow (Ne.symm HA.out.2.1.1)).cell 1 _ rfl; have f1' := (Blk.keep HBA.out hgrow (Ne.symm HA.out.2.1.1)).free 1)
          have hgb : g ≠ b := by
            rcases hat with e | e
            · exact fun q => HA.out.2.1.1 (by rw [e, q])
            · omega
          have hgm : g ≠ m := by
            rcases hat with e | e
            · exact fun q => HA.out.2.2.2.2 (by rw [e, q])
            · omega
          have s5 := g_set (g_refl w5 (some b)) (p := ⟨b, 1, none⟩) (.inl rfl) (.slice (some ⟨g, 0, none⟩) (n + 1) cap)
          go_ret
          refine ⟨rfl, ⟨HA.out.1, .slice (some ⟨g, 0, none⟩) (n + 1) cap, 1, .map (some m), ?_, ?_, ?_, dist_snoc HD.out HNO.out (by omega) (by omega), .inr ⟨rfl, m, rfl, HA.out.2.2.1, HA.out.2.2.2.1, ?_, ?_⟩⟩, ?_⟩
          · have hb5 := Blk.set (Blk.keep HBA.out hgrow (Ne.symm HA.out.2.1.1)) 1 (.slice (some ⟨g, 0, none⟩) (n + 1) cap)
            unfold RB; simpa using hb5
          · rw [List.length_append, scl_append, HLN.out]
            exact World.ownsRow.kept hown5 s5 (.inr (by simp only [Value.ownBlock, ne_eq, Option.some.injEq]; exact hgb))
          · refine ⟨by simp only [Value.ownBlock, ne_eq, Option.some.injEq]; exact hgb, fun g' e => ?_⟩
            simp only [Value.ownBlock, Option.some.injEq] at e
            subst e
            rcases hat with e | e
            · exact HA.out.2.1.2 _ e
            · exact hS _ (by omega)
          · simp only [Value.ownBlock, ne_eq, Option.some.injEq]; exact hgm
          · exact (HMA.out.keep hgrow (fun e => HA.out.2.2.2.2 e.symm)).keep s5 (by simp only [ne_eq, Option.some.injEq]; exact HA.out.2.2.2.1)
          · exact tr_trans (tr_trans HTA.out (tr_row (S := S) hgrow (fun g' e _ => HA.out.2.1.2 g' e)) (fun i _ e => e)) (tr_row (S := S) s5 (fun g' e _ => by cases e; exact HA.out.1)) (fun i _ e => e)
    · have hhas : Maps.has D (.int .i64 k) = true := (hh1 k).2 ⟨(k, v'), List.mem_of_getElem? hi, rfl⟩
      obtain rfl : ap = (0, L) := by rw [hap2.out, hasP_yes h4 hi rfl, if_pos rfl]
      clear hh1 hh2 hi h1 h2 h3 h4 h5 h6 h7 hap2
      go_wp2_with (at_lookup; refine wpList_lookup_own_ok_int _ rfl _ _ 62 rfl 3 3 .i64 (Maps.int_keyed Try.underlying3) Try.underlying62 Try.underlying3 (zv3 _) m nn D rfl HOW.out (.int .i64 k) (.int .i64 k) rfl (Maps.keyOf_int_mk Try.underlying3 hk) ?_; intro cc hat hwc; rw [hhas])
      go_ret
      exact ⟨rfl, HX.out.rs, HT.out⟩
end Go.Proofs.Ytbaocimmpiojeaa
