/- slices.Repeat of one element. -/
import Derived.Test.YtfobfcnbbafplaaF
import Derived.Laws.CopyOwn
import Derived.Laws.BitsLemmas
import Derived.Laws.MakeOwn
import Derived.Laws.OwnMore
import Derived.Deep.RegionLaw
import Derived.Deep.DeepCutAuto
import Derived.Deep.CutBlock
import Derived.Deep.RegionHeld3
namespace Go.Proofs.Ytfobfcnbbafplaa
open Go.RowKit
set_option linter.unusedVariables false
set_option linter.unusedSimpArgs false

set_option maxHeartbeats 1600000 in
theorem mul64_one (n : Nat) (hn : n < 100000) (w : World) : Calls Try.prog 45 #[.int .u64 1, .int .u64 n] w fun e w' => e = .returned (.tuple #[.int .u64 0, .int .u64 n]) ∧ w.grownBy w' none := by
  have h1 : bits .and .u64 (n : Int) 4294967295 = n := by
    have h := bits_mask .u64 64 (by decide) (fun n h0 h1 => by rw [IntKind.wrap_u64]; omega) 32 (by decide) (n : Int) (by omega) (by omega)
    rw [show ((2 : Int) ^ 32 - 1) = 4294967295 from rfl, show ((2 : Int) ^ 32) = 4294967296 from rfl] at h
    rw [h]; omega
  have h2 : bits .and .u64 (1 : Int) 4294967295 = 1 := by decide
  have h3 : (n : Int) / 4294967296 = 0 := by omega
  have h4 : (n : Int) % 18446744073709551616 = n := by omega
  have h5 : bits .and .u64 (0 : Int) 4294967295 = 0 := by decide
  have w1 : IntKind.u64.wrap (n : Int) = n := by rw [IntKind.wrap_u64]; omega
  go_enter Try.func45, Try.ntmps45
  go_wp2
  go_ret2
  exact ⟨rfl, g_refl _ _⟩

set_option maxHeartbeats 1600000 in
theorem mul_one' (n : Nat) (hn : n < 100000) (w : World) : Calls Try.prog 40 #[.int .u64 1, .int .u64 n] w fun e w' => e = .returned (.tuple #[.int .u64 0, .int .u64 n]) ∧ w.grownBy w' none := by
  have w1 : IntKind.u64.wrap (n : Int) = n := by rw [IntKind.wrap_u64]; omega
  go_enter Try.func40, Try.ntmps40
  go_wp2_with fail
  refine (mul64_one n hn _).mono ?_
  rintro e w2 ⟨rfl, g2⟩
  go_wp2_with fail
  go_ret2
  exact ⟨rfl, g2⟩

theorem info3 : (Try.prog.info? 3).map (fun i => (i.zero, i.size, i.bytes)) = some (some (.int .i64 0), 1, 8) := by kernel_rfl
theorem size3 : (Try.prog.info? 3).map (·.size) = some 1 := by kernel_rfl
theorem g_of_below {w w' : World} (h : Below w.heap.size w w') : w.grownBy w' none := by
  obtain ⟨h1, h2, h3, h4, h5⟩ := h
  exact ⟨h1, h2, h3, h4, fun i hi _ => h5 i hi⟩
theorem all_repl (cur : List Value) (n : Nat) (h : cur.length = n) (v : Value) (hv : ∀ i, i < n → cur[i]? = some v) : cur = List.replicate n v := by
  apply List.ext_getElem?
  intro i
  by_cases hi : i < n
  · rw [hv i hi, List.getElem?_replicate_of_lt hi]
  · rw [List.getElem?_eq_none (by omega), List.getElem?_eq_none (by simp; omega)]

theorem splice_get (cur : List Value) (off k : Nat) (v : Value) (h : off + k ≤ cur.length) (i : Nat) : (splice cur off (List.replicate k v))[i]? = if off ≤ i ∧ i < off + k then some v else cur[i]? := by
  unfold splice
  by_cases h1 : i < off
  · rw [List.getElem?_append_left (by simp; omega), List.getElem?_take_of_lt h1, if_neg (by omega)]
  · rw [List.getElem?_append_right (by simp; omega), List.length_take, Nat.min_eq_left (by omega)]
    by_cases h2 : i < off + k
    · rw [List.getElem?_append_left (by simp; omega), List.getElem?_replicate_of_lt (by omega), if_pos (by omega)]
    · rw [List.getElem?_append_right (by simp; omega), List.getElem?_drop, if_neg (by omega)]
      congr 1
      simp; omega

set_option maxRecDepth 100000 in
set_option maxHeartbeats 3200000 in
theorem rep_any (sg n : Nat) (hn : n < 100000) (w : World) (hc : w.cell? ⟨sg, 0, none⟩ = some (.int .i64 (-1))) :
    Calls Try.prog 34 #[.slice (some ⟨sg, 0, none⟩) 1 1, .int .i64 n] w fun e w' => ∃ g, e = .returned (.slice (some ⟨g, 0, none⟩) n n) ∧ w.heap.size ≤ g ∧ Blk w' g (List.replicate n (Value.int .i64 (-1))).toArray 3 ∧ w.grownBy w' none := by
  obtain ⟨i0, hi, hz0, hz1, hz2⟩ := info_parts info3
  have hmk := fun w => run_makeSlice (P := Try.prog) (w := w) 24 3 i0 (.int .i64 0) Try.underlying24 hi hz0 .i64 .i64 n n (by omega) (Int.le_refl _) (by rw [hz1]; simp; omega) (by rw [hz2]; omega) (by omega)
  simp only [Int.toNat_natCast, hz1, Nat.mul_one] at hmk
  obtain ⟨cur, hcur⟩ : ∃ cur : List Value, madeCells (Value.int .i64 0).cells n = cur.toArray := ⟨_, (Array.toArray_toList).symm⟩
  rw [hcur] at hmk
  have hcl : cur.length = n := by
    have h := size_madeCells (Value.int .i64 0).cells n
    rw [hcur] at h; simpa using h
  have w1 : IntKind.u64.wrap (n : Int) = n := by rw [IntKind.wrap_u64]; omega
  have w2 : IntKind.u64.wrap (1 : Int) = 1 := by decide
  have w3 : IntKind.i64.wrap (n : Int) = n := by rw [IntKind.wrap_i64]; omega
  have hn0 : ¬ (n : Int) < 0 := by omega
  have hbig : ¬ (9223372036854775807 : Int) < n := by omega
  have HC := Lib.hid hc
  have HCL := Lib.hid hcl
  clear hc hcl hcur
  go_enter Try.func34, Try.ntmps34
  go_wp2_with fail
  refine (mul_one' n hn _).mono ?_
  rintro e wa ⟨rfl, ga⟩
  have HB := Lib.hid (Blk.new wa cur.toArray 3)
  have GA := Lib.hid (g_trans ga (g_alloc (g_refl wa none) (.cells cur.toArray 3)))
  have hga := ga.size
  clear ga
  have HSG : Hid (∀ j v, (List.replicate (min 1 n) (Value.int .i64 (-1)))[j]? = some v → (wa.alloc (.cells cur.toArray 3)).cell? ((⟨sg, 0, none⟩ : Addr).add j) = some v) := Lib.hid (by
    intro j v hj
    have hj1 := (List.getElem?_eq_some_iff.1 hj).1
    rw [List.length_replicate] at hj1
    obtain rfl : j = 0 := by omega
    rw [List.getElem?_replicate_of_lt hj1] at hj
    cases hj
    rw [Addr.add_lit]
    exact GA.out.cell HC.out (by simp))
  have HON : Hid (∀ k, ∀ v ∈ List.replicate k (Value.int .i64 (-1)), v.oneCell' = true) := Lib.hid (fun k v hv => by rw [(List.mem_replicate.1 hv).2]; rfl)
  go_wp2_with (refine wpList_copy_splice (o := ⟨some 33, _, _, _, _, _⟩) rfl (.tmp 31) (.tmp 32) 24 24 rfl 3 Try.underlying24 size3 _ _ _ _ _ _ (by rfl) (by rfl) wa.heap.size 0 cur 3 HB.out (List.replicate (min 1 n) (.int .i64 (-1))) (by simp [Nat.min_def]) (fun _ => ⟨rfl, ⟨sg, 0, none⟩, rfl, HSG.out⟩) (by rw [List.length_replicate, HCL.out]; omega) (HON.out _) w.heap.size w (below_gn (Below.refl _ _) GA.out (Nat.le_refl _)) hga ?_; intro w4 hg4 hb4)
  have HH4 : Hid (w4.heap[wa.heap.size]? = some (.cells (splice cur 0 (List.replicate (min 1 n) (Value.int .i64 (-1)))).toArray 3 (0, 0)) ∧ w.grownBy w4 none) := Lib.hid ⟨hg4.out, g_of_below hb4⟩
  clear hg4 hb4
  generalize wa.heap.size = g at *
  go_loopw [8] (fun i wr => ∃ (j : Nat) (cr : List Value), j ≤ n ∧ min 1 n ≤ j ∧ i = .int .i64 j ∧ Blk wr g cr.toArray 3 ∧ cr.length = n ∧ (∀ i, i < j → cr[i]? = some (.int .i64 (-1))) ∧ w.grownBy wr none) (fun i _ => (n - intOf i).toNat)
  case atStart =>
    refine ⟨min 1 n, _, by omega, Nat.le_refl _, rfl, HH4.out.1, ?_, fun i hi => ?_, HH4.out.2⟩
    · rw [length_splice _ _ _ (by rw [List.length_replicate, HCL.out]; omega)]; exact HCL.out
    · rw [splice_get _ _ _ _ (by rw [HCL.out]; omega), if_pos (by omega)]
  case round =>
    obtain ⟨j, cr, hj, hj1, rfl, hb, hl, hv, hg⟩ := hrel
    by_cases hlt : j < n
    · have hji : (j : Int) < n := by omega
      have hnj : ¬ n - j = 0 := by omega
      have hnj2 : ¬ n = j := by omega
      have hjn2 : ¬ n ≤ j := by omega
      have HBB := Lib.hid hb
      have HL := Lib.hid hl
      have HV := Lib.hid hv
      have HG := Lib.hid hg
      have HD : Hid (∀ i v, (List.replicate (min j (n - j)) (Value.int .i64 (-1)))[i]? = some v → wr.drew.cell? ((⟨g, 0, none⟩ : Addr).add i) = some v) := Lib.hid (by
        intro i v hi
        have hi1 := (List.getElem?_eq_some_iff.1 hi).1
        rw [List.length_replicate] at hi1
        rw [List.getElem?_replicate_of_lt hi1] at hi
        cases hi
        rw [Addr.add_lit, Nat.zero_add]
        exact HBB.out.drew.cell i _ (by simpa using HV.out i (by omega)))
      have HBD := Lib.hid (below_gn (Below.refl _ _) (g_trans HG.out (g_drew (g_refl wr none))) (Nat.le_refl w.heap.size))
      have hmin : (List.replicate (min j (n - j)) (Value.int .i64 (-1))).length = Nat.min j (n - j) := by simp [Nat.min_def]
      have HMIN := Lib.hid hmin
      clear hb hl hv hg hmin
      have hkl : min j (n - j) ≤ n := by omega
      have HSUM : Hid (IntKind.i64.wrap ((j : Int) + (min j (n - j) : Nat)) = (j : Int) + (min j (n - j) : Nat)) := Lib.hid (IntWalk.i64_in _ (by omega))
      go_upto_region 9 with fail
      refine wp_region_held_drew (S := fun W' => w.grownBy W' none) (by kernel_rfl) (g_trans HG.out (g_drew (g_refl wr none))) (fun hHeld => ?_)
      refine wpAnyH_take (i := 0) (v := .int .i64 (j : Int)) rfl (by kernel_rfl) (by kernel_rfl) (by kernel_rfl) (fun _ _ _ h => h) (Or.inl ⟨by rfl, fun w hw => by clear hw; go_simp⟩) hHeld ?_
      try simp only [Act.put, List.setIfInBounds_toArray, List.set_cons_zero, List.set_cons_succ, List.getElem_toArray, List.getElem_cons_zero, List.getElem_cons_succ]
      refine wpAnyH_take (i := 1) (v := .slice (some ⟨g, 0, none⟩) n n) rfl (by kernel_rfl) (by kernel_rfl) (by kernel_rfl) (fun _ _ _ h => h) (Or.inl ⟨by rfl, fun w hw => by clear hw; go_simp⟩) hHeld ?_
      try simp only [Act.put, List.setIfInBounds_toArray, List.set_cons_zero, List.set_cons_succ, List.getElem_toArray, List.getElem_cons_zero, List.getElem_cons_succ]
      refine wpAnyH_take (i := 2) (v := .int .i64 (j : Int)) rfl (by kernel_rfl) (by kernel_rfl) (by kernel_rfl) (fun _ _ _ h => h) (Or.inl ⟨by rfl, fun w hw => by clear hw; go_simp⟩) hHeld ?_
      try simp only [Act.put, List.setIfInBounds_toArray, List.set_cons_zero, List.set_cons_succ, List.getElem_toArray, List.getElem_cons_zero, List.getElem_cons_succ]
      refine wpAnyH_take (i := 3) (v := .slice (some ⟨g, j, none⟩) (n - j) (n - j)) rfl (by kernel_rfl) (by kernel_rfl) (by kernel_rfl) (fun _ _ _ h => h) (Or.inl ⟨by rfl, fun w hw => by clear hw; go_simp⟩) hHeld ?_
      try simp only [Act.put, List.setIfInBounds_toArray, List.set_cons_zero, List.set_cons_succ, List.getElem_toArray, List.getElem_cons_zero, List.getElem_cons_succ]
      refine wpAnyH_take (i := 4) (v := .slice (some ⟨g, 0, none⟩) n n) rfl (by kernel_rfl) (by kernel_rfl) (by kernel_rfl) (fun _ _ _ h => h) (Or.inl ⟨by rfl, fun w hw => by clear hw; go_simp⟩) hHeld ?_
      try simp only [Act.put, List.setIfInBounds_toArray, List.set_cons_zero, List.set_cons_succ, List.getElem_toArray, List.getElem_cons_zero, List.getElem_cons_succ]
      refine wpAnyH_take (i := 5) (v := .int .i64 (j : Int)) rfl (by kernel_rfl) (by kernel_rfl) (by kernel_rfl) (fun _ _ _ h => h) (Or.inl ⟨by rfl, fun w hw => by clear hw; go_simp⟩) hHeld ?_
      try simp only [Act.put, List.setIfInBounds_toArray, List.set_cons_zero, List.set_cons_succ, List.getElem_toArray, List.getElem_cons_zero, List.getElem_cons_succ]
      refine wpAnyH_take (i := 6) (v := .slice (some ⟨g, 0, none⟩) j n) rfl (by kernel_rfl) (by kernel_rfl) (by kernel_rfl) (fun _ _ _ h => h) (Or.inl ⟨by rfl, fun w hw => by clear hw; go_simp⟩) hHeld ?_
      try simp only [Act.put, List.setIfInBounds_toArray, List.set_cons_zero, List.set_cons_succ, List.getElem_toArray, List.getElem_cons_zero, List.getElem_cons_succ]
      refine wpAnyH_ready (rs := [7]) (by kernel_rfl) (by simp) (AllReadyH.cons rfl (fun K hK => ?_) (AllReadyH.nil))
      · refine step_copy_splice rfl (.tmp 41) (.tmp 44) 24 24 rfl 3 Try.underlying24 size3 _ _ _ _ _ _ rfl rfl g j cr 3 HBB.out.drew (List.replicate (min j (n - j)) (.int .i64 (-1))) HMIN.out (fun _ => ⟨rfl, ⟨g, 0, none⟩, rfl, HD.out⟩) (by rw [List.length_replicate, HL.out]; omega) (HON.out _) w.heap.size w HBD.out hga ?_
        intro w5 hg5 hb5
        simp only [goInt, List.length_replicate]
        refine hK.out _ _ (g_of_below hb5) (fun hHeld => ?_)
        clear hK K
        try simp only [Act.put, List.setIfInBounds_toArray, List.set_cons_zero, List.set_cons_succ, List.getElem_toArray, List.getElem_cons_zero, List.getElem_cons_succ]
        refine wpAnyH_take (i := 8) (v := .int .i64 ((j : Int) + (min j (n - j) : Nat))) rfl (by kernel_rfl) (by kernel_rfl) (by kernel_rfl) (fun _ _ _ h => h) (Or.inl ⟨by rfl, fun w hw => by have ew := HSUM.out; clear hw; go_simp⟩) hHeld ?_
        try simp only [Act.put, List.setIfInBounds_toArray, List.set_cons_zero, List.set_cons_succ, List.getElem_toArray, List.getElem_cons_zero, List.getElem_cons_succ]
        refine wpAnyH_take (i := 9) (v := .int .i64 ((j : Int) + (min j (n - j) : Nat))) rfl (by kernel_rfl) (by kernel_rfl) (by kernel_rfl) (fun _ _ _ h => h) (Or.inl ⟨by rfl, fun w hw => by clear hw; go_simp⟩) hHeld ?_
        try simp only [Act.put, List.setIfInBounds_toArray, List.set_cons_zero, List.set_cons_succ, List.getElem_toArray, List.getElem_cons_zero, List.getElem_cons_succ]
        refine wpAnyH_done (by kernel_rfl) ?_ _
        have HH5 := Lib.hid (And.intro hg5.out hHeld)
        have H1N := Lib.hid hj1
        clear hg5 hb5 hHeld
        go_wp2_with fail
        go_roundw
        case rel =>
          refine ⟨j + min j (n - j), _, by omega, by omega, by first | rfl | (simp) | go_num, HH5.out.1, ?_, fun i hi => ?_, HH5.out.2⟩
          · rw [length_splice _ _ _ (by rw [List.length_replicate, HL.out]; omega)]; exact HL.out
          · rw [splice_get _ _ _ _ (by rw [HL.out]; omega)]
            by_cases h : i < j
            · rw [if_neg (by omega)]; exact HV.out i h
            · rw [if_pos (by omega)]
        case measure => simp [intOf]; omega
    · obtain rfl : j = n := by omega
      have HBB := Lib.hid hb
      have HE := Lib.hid (all_repl cr j hl _ hv)
      have HG := Lib.hid hg
      clear hb hl hv hg
      go_wp2_with fail
      go_ret
      exact ⟨g, rfl, hga, by rw [← HE.out]; exact HBB.out, HG.out⟩
end Go.Proofs.Ytfobfcnbbafplaa
