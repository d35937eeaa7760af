/- Rows that are equal are found equal. -/
import Derived.Test.YtkkcfielmpjgeaaP
namespace Go.Proofs.Ytkkcfielmpjgeaa
open Go.RowKit
set_option linter.unusedVariables false
set_option linter.unusedSimpArgs false

set_option maxRecDepth 100000 in
set_option maxHeartbeats 3200000 in
theorem equal_any (ao bo : Option Addr) (n c d : Nat) (L : List (Int × Int)) (w : World) (hL : SRow w ao L) (hM : SRow w bo L) (hn : L.length = n) (h5 : n < 100000) :
    Calls Try.prog 37 #[.slice ao n c, .slice bo n d] w fun e w' => e = .returned (.bool true) ∧ w.grownBy w' none := by
  have HL := Lib.hid hL
  have HM := Lib.hid hM
  have HN := Lib.hid hn
  clear hL hM hn
  go_enter Try.func37, Try.ntmps37
  go_wp2_with fail
  go_loopw [13] (fun i wr => ∃ j : Nat, i = .int .i64 j ∧ j ≤ n ∧ w.grownBy wr none) (fun i _ => (n - intOf i).toNat)
  case atStart => exact ⟨0, rfl, Nat.zero_le _, g_refl _ _⟩
  case round =>
    obtain ⟨j, rfl, hj, hg⟩ := hrel
    by_cases hlt : j < n
    · have hji : (j : Int) < n := by omega
      have hjj : ¬ (n : Int) ≤ j := by omega
      have hjj2 : ¬ n ≤ j := by omega
      obtain ⟨x, hx⟩ : ∃ x, L[j]? = some x := ⟨L[j]'(by rw [HN.out]; exact hlt), List.getElem?_eq_getElem _⟩
      obtain ⟨b, off, rfl, z0, z1⟩ := HL.out.keep hg j x hx
      obtain ⟨b2, off2, rfl, z2, z3⟩ := HM.out.keep hg j x hx
      have D := Lib.hid (And.intro z0 (And.intro z1 (And.intro z2 z3)))
      have HG := Lib.hid hg
      obtain ⟨x1, x2⟩ := x
      simp only at D
      clear z0 z1 z2 z3 hx hg
      go_upto_region 6 with fail
      refine wp_region_held_drew (S := fun W' => wr.grownBy W' none) (by kernel_rfl) (g_drew (g_refl _ _)) (fun hHeld => ?_)
      refine wpAnyH_take (i := 0) (v := .slice (some ⟨b, off, none⟩) n c) rfl (by kernel_rfl) (by kernel_rfl) (by kernel_rfl) (fun _ _ _ h => h) (Or.inl ⟨by rfl, fun w hw => by clear hw; go_simp⟩) hHeld ?_
      try simp only [Act.put, List.setIfInBounds_toArray, List.set_cons_zero, List.set_cons_succ, List.getElem_toArray, List.getElem_cons_zero, List.getElem_cons_succ]
      refine wpAnyH_take (i := 1) (v := .int .i64 (j : Int)) rfl (by kernel_rfl) (by kernel_rfl) (by kernel_rfl) (fun _ _ _ h => h) (Or.inl ⟨by rfl, fun w hw => by clear hw; go_simp⟩) hHeld ?_
      try simp only [Act.put, List.setIfInBounds_toArray, List.set_cons_zero, List.set_cons_succ, List.getElem_toArray, List.getElem_cons_zero, List.getElem_cons_succ]
      refine wpAnyH_take (i := 2) (v := .pointer (some ⟨b, off + j * 2, none⟩)) rfl (by kernel_rfl) (by kernel_rfl) (by kernel_rfl) (fun _ _ _ h => h) (Or.inl ⟨by rfl, fun w hw => by clear hw; go_simp⟩) hHeld ?_
      try simp only [Act.put, List.setIfInBounds_toArray, List.set_cons_zero, List.set_cons_succ, List.getElem_toArray, List.getElem_cons_zero, List.getElem_cons_succ]
      refine wpAnyH_take (i := 3) (v := .agg #[.int .i64 x1, .int .i64 x2]) rfl (by kernel_rfl) (by kernel_rfl) (by kernel_rfl) (fun _ _ _ h => h) (Or.inl ⟨by rfl, fun w hw => by have q0 := hw.cell D.out.1 (by simp); have q1 := hw.cell D.out.2.1 (by simp); clear hw; go_simp⟩) hHeld ?_
      try simp only [Act.put, List.setIfInBounds_toArray, List.set_cons_zero, List.set_cons_succ, List.getElem_toArray, List.getElem_cons_zero, List.getElem_cons_succ]
      refine wpAnyH_take (i := 4) (v := .slice (some ⟨b2, off2, none⟩) n d) rfl (by kernel_rfl) (by kernel_rfl) (by kernel_rfl) (fun _ _ _ h => h) (Or.inl ⟨by rfl, fun w hw => by clear hw; go_simp⟩) hHeld ?_
      try simp only [Act.put, List.setIfInBounds_toArray, List.set_cons_zero, List.set_cons_succ, List.getElem_toArray, List.getElem_cons_zero, List.getElem_cons_succ]
      refine wpAnyH_take (i := 5) (v := .int .i64 (j : Int)) rfl (by kernel_rfl) (by kernel_rfl) (by kernel_rfl) (fun _ _ _ h => h) (Or.inl ⟨by rfl, fun w hw => by clear hw; go_simp⟩) hHeld ?_
      try simp only [Act.put, List.setIfInBounds_toArray, List.set_cons_zero, List.set_cons_succ, List.getElem_toArray, List.getElem_cons_zero, List.getElem_cons_succ]
      refine wpAnyH_take (i := 6) (v := .pointer (some ⟨b2, off2 + j * 2, none⟩)) rfl (by kernel_rfl) (by kernel_rfl) (by kernel_rfl) (fun _ _ _ h => h) (Or.inl ⟨by rfl, fun w hw => by clear hw; go_simp⟩) hHeld ?_
      try simp only [Act.put, List.setIfInBounds_toArray, List.set_cons_zero, List.set_cons_succ, List.getElem_toArray, List.getElem_cons_zero, List.getElem_cons_succ]
      refine wpAnyH_take (i := 7) (v := .agg #[.int .i64 x1, .int .i64 x2]) rfl (by kernel_rfl) (by kernel_rfl) (by kernel_rfl) (fun _ _ _ h => h) (Or.inl ⟨by rfl, fun w hw => by have q0 := hw.cell D.out.2.2.1 (by simp); have q1 := hw.cell D.out.2.2.2 (by simp); clear hw; go_simp⟩) hHeld ?_
      try simp only [Act.put, List.setIfInBounds_toArray, List.set_cons_zero, List.set_cons_succ, List.getElem_toArray, List.getElem_cons_zero, List.getElem_cons_succ]
      refine wpAnyH_take (i := 8) (v := .bool false) rfl (by kernel_rfl) (by kernel_rfl) (by kernel_rfl) (fun _ _ _ h => h) (Or.inl ⟨by rfl, fun w hw => by clear hw; go_simp⟩) hHeld ?_
      try simp only [Act.put, List.setIfInBounds_toArray, List.set_cons_zero, List.set_cons_succ, List.getElem_toArray, List.getElem_cons_zero, List.getElem_cons_succ]
      refine wpAnyH_done (by kernel_rfl) ?_ _
      have GX := Lib.hid (g_trans HG.out hHeld)
      clear hHeld
      go_wp2_with fail
      go_roundw
      case rel => exact ⟨j + 1, by go_num, by omega, GX.out⟩
      case measure => simp [intOf]; omega
    · obtain rfl : j = n := by omega
      have hjj : ¬ (j : Int) < j := by omega
      have HG := Lib.hid hg
      clear hg
      go_wp2_with fail
      go_ret
      exact ⟨rfl, HG.out⟩

theorem vsame_any (ao bo : Option Addr) (n c d : Nat) (L : List (Int × Int)) (w : World) (hL : SRow w ao L) (hM : SRow w bo L) (hn : L.length = n) (h5 : n < 100000) :
    Calls Try.prog 28 #[.slice ao n c, .slice bo n d] w fun e w' => e = .returned (.bool true) ∧ w.grownBy w' none := by
  have H := Lib.hid (equal_any ao bo n c d L w hL hM hn h5)
  clear hL hM hn
  go_enter Try.func28, Try.ntmps28
  go_wp2_with fail
  refine H.out.mono ?_
  rintro e w1 ⟨rfl, g⟩
  have HG := Lib.hid g
  clear g
  go_wp2_with fail
  go_ret
  exact ⟨rfl, HG.out⟩

set_option maxRecDepth 100000 in
set_option maxHeartbeats 3200000 in
theorem sameobj_any (o : OB) (fa fb : Option Addr) (fc fd : Nat) (w : World) (h1 : SRow w fa o.F) (h2 : SRow w fb o.F) (hl : o.F.length ≤ 1000) :
    Calls Try.prog 27 #[.agg #[.int .i64 o.ref.1, .int .i64 o.ref.2, .int .i64 o.gen, .int .i64 o.fields, .int .i64 o.mask, .int .i64 o.state, .int .i64 o.owner, .slice fa o.F.length fc], .agg #[.int .i64 o.ref.1, .int .i64 o.ref.2, .int .i64 o.gen, .int .i64 o.fields, .int .i64 o.mask, .int .i64 o.state, .int .i64 o.owner, .slice fb o.F.length fd]] w fun e w' => e = .returned (.bool true) ∧ w.grownBy w' none := by
  have ga := g_alloc (g_refl w none) (.cells #[.int .i64 o.ref.1, .int .i64 o.ref.2, .int .i64 o.gen, .int .i64 o.fields, .int .i64 o.mask, .int .i64 o.state, .int .i64 o.owner, .slice fa o.F.length fc] 34)
  have gb := g_alloc (g_refl (w.alloc (.cells #[.int .i64 o.ref.1, .int .i64 o.ref.2, .int .i64 o.gen, .int .i64 o.fields, .int .i64 o.mask, .int .i64 o.state, .int .i64 o.owner, .slice fa o.F.length fc] 34)) none) (.cells #[.int .i64 o.ref.1, .int .i64 o.ref.2, .int .i64 o.gen, .int .i64 o.fields, .int .i64 o.mask, .int .i64 o.state, .int .i64 o.owner, .slice fb o.F.length fd] 34)
  have HA := Lib.hid ((Blk.new w #[.int .i64 o.ref.1, .int .i64 o.ref.2, .int .i64 o.gen, .int .i64 o.fields, .int .i64 o.mask, .int .i64 o.state, .int .i64 o.owner, .slice fa o.F.length fc] 34).keepn gb)
  have HBB := Lib.hid (Blk.new (w.alloc (.cells #[.int .i64 o.ref.1, .int .i64 o.ref.2, .int .i64 o.gen, .int .i64 o.fields, .int .i64 o.mask, .int .i64 o.state, .int .i64 o.owner, .slice fa o.F.length fc] 34)) #[.int .i64 o.ref.1, .int .i64 o.ref.2, .int .i64 o.gen, .int .i64 o.fields, .int .i64 o.mask, .int .i64 o.state, .int .i64 o.owner, .slice fb o.F.length fd] 34)
  have hsy : (w.alloc (.cells #[.int .i64 o.ref.1, .int .i64 o.ref.2, .int .i64 o.gen, .int .i64 o.fields, .int .i64 o.mask, .int .i64 o.state, .int .i64 o.owner, .slice fa o.F.length fc] 34)).heap.size = w.heap.size + 1 := by simp
  rw [hsy] at HBB
  have HG := Lib.hid (g_trans ga gb)
  have HS := Lib.hid (same_any fa fb o.F.length fc fd o.F _ (h1.keep HG.out) (h2.keep HG.out) rfl (by omega))
  clear ga gb hsy h1 h2
  go_enter Try.func27, Try.ntmps27
  go_upto_region 1 with fail
  obtain ⟨x, hx⟩ : ∃ x, w.heap.size = x := ⟨_, rfl⟩
  rw [hx] at HA HBB
  generalize (w.alloc (.cells #[.int .i64 o.ref.1, .int .i64 o.ref.2, .int .i64 o.gen, .int .i64 o.fields, .int .i64 o.mask, .int .i64 o.state, .int .i64 o.owner, .slice fa o.F.length fc] 34)).alloc (.cells #[.int .i64 o.ref.1, .int .i64 o.ref.2, .int .i64 o.gen, .int .i64 o.fields, .int .i64 o.mask, .int .i64 o.state, .int .i64 o.owner, .slice fb o.F.length fd] 34) = W at *
  have p0 := HA.out.cell 0 _ rfl
  have p1 := HA.out.cell 1 _ rfl
  have p2 := HA.out.cell 2 _ rfl
  have p3 := HA.out.cell 3 _ rfl
  have p4 := HA.out.cell 4 _ rfl
  have p5 := HA.out.cell 5 _ rfl
  have p6 := HA.out.cell 6 _ rfl
  have p7 := HA.out.cell 7 _ rfl
  have q0 := HBB.out.cell 0 _ rfl
  have q1 := HBB.out.cell 1 _ rfl
  have q2 := HBB.out.cell 2 _ rfl
  have q3 := HBB.out.cell 3 _ rfl
  have q4 := HBB.out.cell 4 _ rfl
  have q5 := HBB.out.cell 5 _ rfl
  have q6 := HBB.out.cell 6 _ rfl
  have q7 := HBB.out.cell 7 _ rfl
  go_wp2_with fail
  refine HS.out.mono ?_
  rintro e w1 ⟨rfl, g⟩
  have GF := Lib.hid (g_trans HG.out g)
  clear g
  go_wp2_with fail
  go_ret
  exact ⟨rfl, GF.out⟩

set_option maxRecDepth 100000 in
set_option maxHeartbeats 3200000 in
theorem sameall_any (B1 B2 : Nat) (ao bo : Option Addr) (n c d : Nat) (Ls : List OB) (w : World) (hA : ORow w B1 ao Ls) (hB : ORow w B2 bo Ls) (hn : Ls.length = n) (h5 : n ≤ 1000) (hF : ∀ o ∈ Ls, o.F.length ≤ 1000) :
    Calls Try.prog 11 #[.slice ao n c, .slice bo n d] w fun e w' => e = .returned (.bool true) ∧ w.grownBy w' none := by
  have hnot : ∀ (x : Bool) (w : World), (Op.unary .not (.bool x)).run Try.prog w = .ok (.bool (!x)) w := fun _ _ => rfl
  have HA0 := Lib.hid hA
  have HB0 := Lib.hid hB
  have HN := Lib.hid hn
  have HF := Lib.hid hF
  clear hA hB hn hF
  go_enter Try.func11, Try.ntmps11
  go_wp2_with fail
  go_loopw [5] (fun i wr => ∃ j : Nat, i = .int .i64 j ∧ j ≤ n ∧ w.grownBy wr none) (fun i _ => (n - intOf i).toNat)
  case atStart => exact ⟨0, rfl, Nat.zero_le _, g_refl _ _⟩
  case round =>
    obtain ⟨j, rfl, hj, hg⟩ := hrel
    by_cases hlt : j < n
    · have hji : (j : Int) < n := by omega
      have hjj : ¬ (n : Int) ≤ j := by omega
      obtain ⟨o, hoj⟩ : ∃ o, Ls[j]? = some o := ⟨Ls[j]'(by rw [HN.out]; exact hlt), List.getElem?_eq_getElem _⟩
      obtain ⟨b, off, fa, fc, rfl, _, z0, z1, z2, z3, z4, z5, z6, z7, z8, -⟩ := HA0.out.keepn hg j o hoj
      obtain ⟨b2, off2, fb, fd, rfl, _, x0, x1, x2, x3, x4, x5, x6, x7, x8, -⟩ := HB0.out.keepn hg j o hoj
      have HS1 := Lib.hid z8
      have HS2 := Lib.hid x8
      have HLE := Lib.hid (HF.out o (List.mem_of_getElem? hoj))
      have HG := Lib.hid hg
      have HA := Lib.hid (And.intro z0 (And.intro z1 (And.intro z2 (And.intro z3 (And.intro z4 (And.intro z5 (And.intro z6 z7)))))))
      have HBB := Lib.hid (And.intro x0 (And.intro x1 (And.intro x2 (And.intro x3 (And.intro x4 (And.intro x5 (And.intro x6 x7)))))))
      clear z0 z1 z2 z3 z4 z5 z6 z7 z8 x0 x1 x2 x3 x4 x5 x6 x7 x8 hoj hg
      go_upto_region 6 with fail
      refine wp_region_held_drew (S := fun W' => wr.grownBy W' none) (by kernel_rfl) (g_drew (g_refl _ _)) (fun hHeld => ?_)
      refine wpAnyH_take (i := 0) (v := .slice (some ⟨b, off, none⟩) n c) rfl (by kernel_rfl) (by kernel_rfl) (by kernel_rfl) (fun _ _ _ h => h) (Or.inl ⟨by rfl, fun w hw => by clear hw; go_simp⟩) hHeld ?_
      try simp only [Act.put, List.setIfInBounds_toArray, List.set_cons_zero, List.set_cons_succ, List.getElem_toArray, List.getElem_cons_zero, List.getElem_cons_succ]
      refine wpAnyH_take (i := 1) (v := .int .i64 (j : Int)) rfl (by kernel_rfl) (by kernel_rfl) (by kernel_rfl) (fun _ _ _ h => h) (Or.inl ⟨by rfl, fun w hw => by clear hw; go_simp⟩) hHeld ?_
      try simp only [Act.put, List.setIfInBounds_toArray, List.set_cons_zero, List.set_cons_succ, List.getElem_toArray, List.getElem_cons_zero, List.getElem_cons_succ]
      refine wpAnyH_take (i := 2) (v := .pointer (some ⟨b, off + j * 8, none⟩)) rfl (by kernel_rfl) (by kernel_rfl) (by kernel_rfl) (fun _ _ _ h => h) (Or.inl ⟨by rfl, fun w hw => by clear hw; go_simp⟩) hHeld ?_
      try simp only [Act.put, List.setIfInBounds_toArray, List.set_cons_zero, List.set_cons_succ, List.getElem_toArray, List.getElem_cons_zero, List.getElem_cons_succ]
      refine wpAnyH_take (i := 3) (v := .agg #[.int .i64 o.ref.1, .int .i64 o.ref.2, .int .i64 o.gen, .int .i64 o.fields, .int .i64 o.mask, .int .i64 o.state, .int .i64 o.owner, .slice fa o.F.length fc]) rfl (by kernel_rfl) (by kernel_rfl) (by kernel_rfl) (fun _ _ _ h => h) (Or.inl ⟨by rfl, fun w hw => by have q0 := hw.cell HA.out.1 (by simp); have q1 := hw.cell HA.out.2.1 (by simp); have q2 := hw.cell HA.out.2.2.1 (by simp); have q3 := hw.cell HA.out.2.2.2.1 (by simp); have q4 := hw.cell HA.out.2.2.2.2.1 (by simp); have q5 := hw.cell HA.out.2.2.2.2.2.1 (by simp); have q6 := hw.cell HA.out.2.2.2.2.2.2.1 (by simp); have q7 := hw.cell HA.out.2.2.2.2.2.2.2 (by simp); clear hw; go_simp⟩) hHeld ?_
      try simp only [Act.put, List.setIfInBounds_toArray, List.set_cons_zero, List.set_cons_succ, List.getElem_toArray, List.getElem_cons_zero, List.getElem_cons_succ]
      refine wpAnyH_take (i := 4) (v := .slice (some ⟨b2, off2, none⟩) n d) rfl (by kernel_rfl) (by kernel_rfl) (by kernel_rfl) (fun _ _ _ h => h) (Or.inl ⟨by rfl, fun w hw => by clear hw; go_simp⟩) hHeld ?_
      try simp only [Act.put, List.setIfInBounds_toArray, List.set_cons_zero, List.set_cons_succ, List.getElem_toArray, List.getElem_cons_zero, List.getElem_cons_succ]
      refine wpAnyH_take (i := 5) (v := .int .i64 (j : Int)) rfl (by kernel_rfl) (by kernel_rfl) (by kernel_rfl) (fun _ _ _ h => h) (Or.inl ⟨by rfl, fun w hw => by clear hw; go_simp⟩) hHeld ?_
      try simp only [Act.put, List.setIfInBounds_toArray, List.set_cons_zero, List.set_cons_succ, List.getElem_toArray, List.getElem_cons_zero, List.getElem_cons_succ]
      refine wpAnyH_take (i := 6) (v := .pointer (some ⟨b2, off2 + j * 8, none⟩)) rfl (by kernel_rfl) (by kernel_rfl) (by kernel_rfl) (fun _ _ _ h => h) (Or.inl ⟨by rfl, fun w hw => by clear hw; go_simp⟩) hHeld ?_
      try simp only [Act.put, List.setIfInBounds_toArray, List.set_cons_zero, List.set_cons_succ, List.getElem_toArray, List.getElem_cons_zero, List.getElem_cons_succ]
      refine wpAnyH_take (i := 7) (v := .agg #[.int .i64 o.ref.1, .int .i64 o.ref.2, .int .i64 o.gen, .int .i64 o.fields, .int .i64 o.mask, .int .i64 o.state, .int .i64 o.owner, .slice fb o.F.length fd]) rfl (by kernel_rfl) (by kernel_rfl) (by kernel_rfl) (fun _ _ _ h => h) (Or.inl ⟨by rfl, fun w hw => by have q0 := hw.cell HBB.out.1 (by simp); have q1 := hw.cell HBB.out.2.1 (by simp); have q2 := hw.cell HBB.out.2.2.1 (by simp); have q3 := hw.cell HBB.out.2.2.2.1 (by simp); have q4 := hw.cell HBB.out.2.2.2.2.1 (by simp); have q5 := hw.cell HBB.out.2.2.2.2.2.1 (by simp); have q6 := hw.cell HBB.out.2.2.2.2.2.2.1 (by simp); have q7 := hw.cell HBB.out.2.2.2.2.2.2.2 (by simp); clear hw; go_simp⟩) hHeld ?_
      try simp only [Act.put, List.setIfInBounds_toArray, List.set_cons_zero, List.set_cons_succ, List.getElem_toArray, List.getElem_cons_zero, List.getElem_cons_succ]
      refine wpAnyH_ready (rs := [8]) (by kernel_rfl) (by simp) (AllReadyH.cons rfl (fun K hK => ?_) (AllReadyH.nil))
      · go_simp
        refine Calls.mono (sameobj_any o fa fb fc fd _ (HS1.out.keep hHeld) (HS2.out.keep hHeld) HLE.out) ?_
        rintro e wc1 ⟨rfl, gc1⟩
        try go_wp2_with fail
        refine hK.out _ _ (g_trans hHeld gc1) (fun hHeld => ?_)
        clear hK K gc1
        try simp only [Act.put, List.setIfInBounds_toArray, List.set_cons_zero, List.set_cons_succ, List.getElem_toArray, List.getElem_cons_zero, List.getElem_cons_succ]
        refine wpAnyH_take (i := 9) (v := .bool false) rfl (by kernel_rfl) (by kernel_rfl) (by kernel_rfl) (fun _ _ _ h => h) (Or.inl ⟨by rfl, fun w hw => by clear hw; go_simp⟩) hHeld ?_
        try simp only [Act.put, List.setIfInBounds_toArray, List.set_cons_zero, List.set_cons_succ, List.getElem_toArray, List.getElem_cons_zero, List.getElem_cons_succ]
        refine wpAnyH_done (by kernel_rfl) ?_ _
        have GX := Lib.hid (g_trans HG.out hHeld)
        clear hHeld
        go_wp2_with fail
        go_roundw
        case rel => exact ⟨j + 1, by go_num, by omega, GX.out⟩
        case measure => simp [intOf]; omega
    · obtain rfl : j = n := by omega
      have hjj : ¬ (j : Int) < j := by omega
      have HG := Lib.hid hg
      clear hg
      go_wp2_with fail
      go_ret
      exact ⟨rfl, HG.out⟩
end Go.Proofs.Ytkkcfielmpjgeaa
