/- Sound, where there are no registers. -/
import Derived.Test.YtkkcfielmpjgeaaI
namespace Go.Proofs.Ytkkcfielmpjgeaa
open Go.RowKit
set_option linter.unusedVariables false
set_option linter.unusedSimpArgs false

theorem newZ32 (w : World) : Blk (w.alloc (.cells #[.int .i64 0, .int .i64 0, .int .i64 0, .int .i64 0, .int .i64 0] 32)) w.heap.size #[.int .i64 0, .int .i64 0, .int .i64 0, .int .i64 0, .int .i64 0] 32 := Blk.new w _ 32
theorem g_newZ32 (w : World) : w.grownBy (w.alloc (.cells #[.int .i64 0, .int .i64 0, .int .i64 0, .int .i64 0, .int .i64 0] 32)) none := g_alloc (g_refl w none) _
theorem info32s : (Try.prog.info? 32).map (·.size) = some 5 := by kernel_rfl
/-- what Sound's inner function sees -/
def Seen (w : World) (pl pa pt : Nat) (ao : Option Addr) (n c m : Nat) : Prop := w.cell? ⟨pl, 0, none⟩ = some (.slice ao n c) ∧ w.cell? ⟨pa, 0, none⟩ = some (.map (some m)) ∧ w.cell? ⟨pt, 0, none⟩ = some (.int .i64 (-1))
theorem Seen.keepn {w w' : World} {pl pa pt : Nat} {ao : Option Addr} {n c m : Nat} (h : Seen w pl pa pt ao n c m) (g : w.grownBy w' none) : Seen w' pl pa pt ao n c m := ⟨g.cell h.1 (by simp), g.cell h.2.1 (by simp), g.cell h.2.2 (by simp)⟩
def priv (Ls : List OB) (v : VV) : Bool := ((obj Ls v).map (fun o => o.state == 1)).getD false

set_option maxRecDepth 100000 in
set_option maxHeartbeats 3200000 in
theorem seen_any (B pl pa pt : Nat) (ao : Option Addr) (n c m : Nat) (Ls : List OB) (v1 v2 : Int) (w : World) (hS : Seen w pl pa pt ao n c m) (hR : ORow w B ao Ls) (hI : IMap w m n (ix Ls)) (hl : Ls.length = n) (hv : WV (v1, v2)) (ho : obj Ls (v1, v2) ≠ none) :
    Calls Try.prog 34 #[.agg #[.int .i64 v1, .int .i64 v2], .pointer (some ⟨pl, 0, none⟩), .pointer (some ⟨pa, 0, none⟩), .pointer (some ⟨pt, 0, none⟩)] w fun e w' => e = .returned (.bool (priv Ls (v1, v2))) ∧ w.grownBy w' none := by
  have ga := g_alloc (g_refl w none) (.cells #[.int .i64 v1, .int .i64 v2] 25)
  have HB := Lib.hid (Blk.new w #[.int .i64 v1, .int .i64 v2] 25)
  have HC := Lib.hid (hS.keepn ga)
  have HG := Lib.hid ga
  rcases hq : ix Ls (v1, v2) with _ | xi
  · exact absurd (obj_none hq) ho
  · obtain ⟨j, o, rfl, hoj, hor, hobj⟩ := obj_of_ix hq
    have HLK : Hid (∀ w', (w.alloc (.cells #[.int .i64 v1, .int .i64 v2] 25)).grownBy w' none → (Instr.lookup 48 (.map (some m)) (.agg #[.int .i64 v1, .int .i64 v2]) false).run Try.prog w' = .ok (.int .i64 (j : Int)) w') := Lib.hid (fun w' hw => by
      have q := ((hI.keep ga (by simp)).keep hw (by simp)).look1 (v1, v2) hv
      rw [hq] at q; exact q)
    obtain ⟨ob, off, fa, fc, rfl, hobB, z0, z1, z2, z3, z4, z5, z6, z7, -⟩ := hR.keepn ga j o hoj
    have HO := Lib.hid (And.intro z2 (And.intro z3 (And.intro z4 (And.intro z5 z6))))
    have hjn : j < n := by rw [← hl]; exact (List.getElem?_eq_some_iff.1 hoj).1
    have hji : (j : Int) < n := by omega
    have hjj : ¬ (n : Int) ≤ j := by omega
    have hp : priv Ls (v1, v2) = (o.state == 1) := by simp [priv, hobj]
    rw [hp]
    unfold Seen at HC
    clear hp hS hR hI hl hv ho ga hq hoj hor hobj z0 z1 z2 z3 z4 z5 z6 z7
    go_enter Try.func34, Try.ntmps34
    go_upto_region 1 with fail
    generalize w.alloc (.cells #[.int .i64 v1, .int .i64 v2] 25) = W at *
    refine wp_region_held_drew (S := fun W' => W.grownBy W' none) (by kernel_rfl) (g_drew (g_refl _ _)) (fun hHeld => ?_)
    refine wpAnyH_take (i := 0) (v := .slice (some ⟨ob, off, none⟩) n c) rfl (by kernel_rfl) (by kernel_rfl) (by kernel_rfl) (fun _ _ _ h => h) (Or.inl ⟨by rfl, fun w hw => by have q0 := hw.cell HC.out.1 (by simp); clear hw; go_simp⟩) hHeld ?_
    try simp only [Act.put, List.setIfInBounds_toArray, List.set_cons_zero, List.set_cons_succ, List.getElem_toArray, List.getElem_cons_zero, List.getElem_cons_succ]
    refine wpAnyH_take (i := 1) (v := .map (some m)) rfl (by kernel_rfl) (by kernel_rfl) (by kernel_rfl) (fun _ _ _ h => h) (Or.inl ⟨by rfl, fun w hw => by have q0 := hw.cell HC.out.2.1 (by simp); clear hw; go_simp⟩) hHeld ?_
    try simp only [Act.put, List.setIfInBounds_toArray, List.set_cons_zero, List.set_cons_succ, List.getElem_toArray, List.getElem_cons_zero, List.getElem_cons_succ]
    refine wpAnyH_take (i := 2) (v := .agg #[.int .i64 v1, .int .i64 v2]) rfl (by kernel_rfl) (by kernel_rfl) (by kernel_rfl) (fun _ _ _ h => h) (Or.inl ⟨by rfl, fun w hw => by have q0 := (HB.out.keepn hw).cell 0 _ rfl; have q1 := (HB.out.keepn hw).cell 1 _ rfl; clear hw; go_simp⟩) hHeld ?_
    try simp only [Act.put, List.setIfInBounds_toArray, List.set_cons_zero, List.set_cons_succ, List.getElem_toArray, List.getElem_cons_zero, List.getElem_cons_succ]
    refine wpAnyH_take (i := 3) (v := .int .i64 (j : Int)) rfl (by kernel_rfl) (by kernel_rfl) (by kernel_rfl) (fun _ _ _ h => h) (Or.inl ⟨by rfl, fun w hw => by have q0 := HLK.out w hw; clear hw; go_simp⟩) hHeld ?_
    try simp only [Act.put, List.setIfInBounds_toArray, List.set_cons_zero, List.set_cons_succ, List.getElem_toArray, List.getElem_cons_zero, List.getElem_cons_succ]
    refine wpAnyH_take (i := 4) (v := .pointer (some ⟨ob, off + j * 8, none⟩)) rfl (by kernel_rfl) (by kernel_rfl) (by kernel_rfl) (fun _ _ _ h => h) (Or.inl ⟨by rfl, fun w hw => by clear hw; go_simp⟩) hHeld ?_
    try simp only [Act.put, List.setIfInBounds_toArray, List.set_cons_zero, List.set_cons_succ, List.getElem_toArray, List.getElem_cons_zero, List.getElem_cons_succ]
    refine wpAnyH_take (i := 5) (v := .pointer (some ⟨ob, off + j * 8 + 2, none⟩)) rfl (by kernel_rfl) (by kernel_rfl) (by kernel_rfl) (fun _ _ _ h => h) (Or.inl ⟨by rfl, fun w hw => by clear hw; go_simp⟩) hHeld ?_
    try simp only [Act.put, List.setIfInBounds_toArray, List.set_cons_zero, List.set_cons_succ, List.getElem_toArray, List.getElem_cons_zero, List.getElem_cons_succ]
    refine wpAnyH_take (i := 6) (v := .agg #[.int .i64 o.gen, .int .i64 o.fields, .int .i64 o.mask, .int .i64 o.state, .int .i64 o.owner]) rfl (by kernel_rfl) (by kernel_rfl) (by kernel_rfl) (fun _ _ _ h => h) (Or.inl ⟨by rfl, fun w hw => by have q0 := hw.cell HO.out.1 (by simp); have q1 := hw.cell HO.out.2.1 (by simp); have q2 := hw.cell HO.out.2.2.1 (by simp); have q3 := hw.cell HO.out.2.2.2.1 (by simp); have q4 := hw.cell HO.out.2.2.2.2 (by simp); clear hw; go_simp⟩) hHeld ?_
    try simp only [Act.put, List.setIfInBounds_toArray, List.set_cons_zero, List.set_cons_succ, List.getElem_toArray, List.getElem_cons_zero, List.getElem_cons_succ]
    refine wpAnyH_ready (rs := [7]) (by kernel_rfl) (by simp) (AllReadyH.cons rfl (fun K hK => ?_) AllReadyH.nil)
    · go_simp
      have HZ := Lib.hid hHeld.size
      have BZ := Lib.hid (newZ32 W.drew)
      have gm := g_trans hHeld (g_newZ32 W.drew)
      refine hK.out _ _ gm (fun hHeld => ?_)
      clear hK K gm
      try simp only [Act.put, List.setIfInBounds_toArray, List.set_cons_zero, List.set_cons_succ, List.getElem_toArray, List.getElem_cons_zero, List.getElem_cons_succ]
      refine wpAnyH_ready (rs := [8]) (by kernel_rfl) (by simp) (AllReadyH.cons rfl (fun K hK => ?_) AllReadyH.nil)
      rw [if_pos (by rfl)]
      refine wp_store_mid 32 _ _ rfl _ 0 #[.int .i64 o.gen, .int .i64 o.fields, .int .i64 o.mask, .int .i64 o.state, .int .i64 o.owner] rfl rfl BZ.out.there info32s (by simp [Value.oneCell']) ?_
      have gS := g_in hHeld (g_setAll _ #[.int .i64 o.gen, .int .i64 o.fields, .int .i64 o.mask, .int .i64 o.state, .int .i64 o.owner].toList 0 _ _ (g_refl (W.drew.alloc (.cells #[.int .i64 0, .int .i64 0, .int .i64 0, .int .i64 0, .int .i64 0] 32)) _)) HZ.out
      have BX := Lib.hid (BZ.out.setAll #[.int .i64 o.gen, .int .i64 o.fields, .int .i64 o.mask, .int .i64 o.state, .int .i64 o.owner] (rfl))
      refine hK.out _ _ gS (fun hHeld => ?_)
      clear hK K
      try simp only [Act.put, List.setIfInBounds_toArray, List.set_cons_zero, List.set_cons_succ, List.getElem_toArray, List.getElem_cons_zero, List.getElem_cons_succ]
      refine wpAnyH_done (by kernel_rfl) ?_ _
      have BX : Hid (Blk ((W.alloc (.cells #[.int .i64 0, .int .i64 0, .int .i64 0, .int .i64 0, .int .i64 0] 32)).drew.setCells W.heap.size 0 [.int .i64 o.gen, .int .i64 o.fields, .int .i64 o.mask, .int .i64 o.state, .int .i64 o.owner]) W.heap.size #[.int .i64 o.gen, .int .i64 o.fields, .int .i64 o.mask, .int .i64 o.state, .int .i64 o.owner] 32) := Lib.hid BX.out
      have hHeld : W.grownBy ((W.alloc (.cells #[.int .i64 0, .int .i64 0, .int .i64 0, .int .i64 0, .int .i64 0] 32)).drew.setCells W.heap.size 0 [.int .i64 o.gen, .int .i64 o.fields, .int .i64 o.mask, .int .i64 o.state, .int .i64 o.owner]) none := hHeld
      clear gS BZ
      generalize (W.alloc (.cells #[.int .i64 0, .int .i64 0, .int .i64 0, .int .i64 0, .int .i64 0] 32)).drew.setCells W.heap.size 0 [.int .i64 o.gen, .int .i64 o.fields, .int .i64 o.mask, .int .i64 o.state, .int .i64 o.owner] = WF at *
      have GX := Lib.hid (g_trans HG.out hHeld)
      have ct := hHeld.cell HC.out.2.2 (by simp)
      have k3 := BX.out.cell 3 (.int .i64 o.state) rfl
      have k4 := BX.out.cell 4 (.int .i64 o.owner) rfl
      clear hHeld
      cases hs : o.state == 1
      · have hs2 : ¬ o.state = 1 := by simpa using hs
        go_wp2_with fail
        go_ret
        exact ⟨rfl, GX.out⟩
      · have hs2 : o.state = 1 := by simpa using hs
        rw [hs2] at k3
        go_wp2_with fail
        go_ret
        exact ⟨rfl, GX.out⟩

set_option maxRecDepth 100000 in
set_option maxHeartbeats 3200000 in
theorem indexfunc_any (pl pa pt : Nat) (p : VV → Bool) (L : List VV) (ao : Option Addr) (n c : Nat) (w : World) (hs : SRow w ao L) (hl : L.length = n) (hn : n ≤ 100000)
    (hf : ∀ v ∈ L, ∀ w', w.grownBy w' none → Calls Try.prog 34 #[.agg #[.int .i64 v.1, .int .i64 v.2], .pointer (some ⟨pl, 0, none⟩), .pointer (some ⟨pa, 0, none⟩), .pointer (some ⟨pt, 0, none⟩)] w' fun e w2 => e = .returned (.bool (p v)) ∧ w'.grownBy w2 none) :
    Calls Try.prog 38 #[.slice ao n c, .func (.func 34) #[] #[.pointer (some ⟨pl, 0, none⟩), .pointer (some ⟨pa, 0, none⟩), .pointer (some ⟨pt, 0, none⟩)]] w fun e w' => ∃ x : Int, e = .returned (.int .i64 x) ∧ decide (0 ≤ x) = L.any p ∧ w.grownBy w' none := by
  have HS := Lib.hid hs
  have HL := Lib.hid hl
  have HF := Lib.hid hf
  clear hs hl hf
  go_enter Try.func38, Try.ntmps38
  go_wp2_with fail
  go_loopw [8] (fun i wr => ∃ j : Nat, i = .int .i64 j ∧ j ≤ n ∧ (L.take j).any p = false ∧ w.grownBy wr none) (fun i _ => (n - intOf i).toNat)
  case atStart => exact ⟨0, rfl, Nat.zero_le _, rfl, g_refl _ _⟩
  case round =>
    obtain ⟨j, rfl, hj, hno, hg⟩ := hrel
    by_cases hlt : j < n
    · have hji : (j : Int) < n := by omega
      have hjj : ¬ (n : Int) ≤ j := by omega
      obtain ⟨f, hfq⟩ : ∃ f, L[j]? = some f := ⟨L[j]'(by rw [HL.out]; omega), List.getElem?_eq_getElem _⟩
      obtain ⟨fb, foff, rfl, y0, y1⟩ := HS.out.keep hg j f hfq
      have HC := Lib.hid (HF.out f (List.mem_of_getElem? hfq) wr hg)
      have HX := Lib.hid (And.intro hno (And.intro hfq hg))
      clear hno hfq hg
      go_wp2_with fail
      refine HC.out.mono ?_
      rintro e w5 ⟨rfl, g5⟩
      have HG5 := Lib.hid (g_trans HX.out.2.2 g5)
      have hm : f ∈ L := List.mem_of_getElem? HX.out.2.1
      clear g5 y0 y1
      cases hp : p f
      · go_wp2_with fail
        go_roundw
        case rel =>
          refine ⟨j + 1, by go_num, by omega, ?_, HG5.out⟩
          rw [List.take_add_one, HX.out.2.1, Option.toList_some, List.any_append, HX.out.1]
          simp [hp]
        case measure => simp [intOf]; omega
      · go_wp2_with fail
        go_ret
        refine ⟨_, rfl, ?_, HG5.out⟩
        rw [decide_eq_true (by omega)]
        exact (List.any_eq_true.2 ⟨f, hm, hp⟩).symm
    · obtain rfl : j = n := by omega
      have hjj : ¬ (j : Int) < j := by omega
      have HX := Lib.hid (And.intro hno hg)
      clear hno hg
      go_wp2_with fail
      go_ret
      refine ⟨_, rfl, ?_, HX.out.2⟩
      have h := HX.out.1
      rw [List.take_of_length_le (by rw [HL.out]; exact Nat.le_refl _)] at h
      rw [h]; rfl
theorem contains_any (pl pa pt : Nat) (p : VV → Bool) (L : List VV) (ao : Option Addr) (n c : Nat) (w : World) (hs : SRow w ao L) (hl : L.length = n) (hn : n ≤ 100000)
    (hf : ∀ v ∈ L, ∀ w', w.grownBy w' none → Calls Try.prog 34 #[.agg #[.int .i64 v.1, .int .i64 v.2], .pointer (some ⟨pl, 0, none⟩), .pointer (some ⟨pa, 0, none⟩), .pointer (some ⟨pt, 0, none⟩)] w' fun e w2 => e = .returned (.bool (p v)) ∧ w'.grownBy w2 none) :
    Calls Try.prog 33 #[.slice ao n c, .func (.func 34) #[] #[.pointer (some ⟨pl, 0, none⟩), .pointer (some ⟨pa, 0, none⟩), .pointer (some ⟨pt, 0, none⟩)]] w fun e w' => e = .returned (.bool (L.any p)) ∧ w.grownBy w' none := by
  have H := Lib.hid (indexfunc_any pl pa pt p L ao n c w hs hl hn hf)
  clear hs hl hf
  go_enter Try.func33, Try.ntmps33
  go_wp2_with fail
  refine H.out.mono ?_
  rintro e w1 ⟨x, rfl, hx, g⟩
  have HG := Lib.hid g
  have HX := Lib.hid hx
  clear hx g
  go_wp2_with fail
  go_ret
  exact ⟨by rw [← HX.out]; rfl, HG.out⟩
end Go.Proofs.Ytkkcfielmpjgeaa
