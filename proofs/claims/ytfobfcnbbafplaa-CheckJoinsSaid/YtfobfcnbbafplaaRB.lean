/- The document's answer: a step, its other ways. -/
import Derived.Test.YtfobfcnbbafplaaRA
import Derived.Deep.RegionHeld3
namespace Go.Proofs.Ytfobfcnbbafplaa
open Go.RowKit
set_option linter.unusedVariables false
set_option linter.unusedSimpArgs false

theorem size_drew (w : World) : w.drew.heap.size = w.heap.size := rfl
theorem step_append_own {P : Program} {w : World} {ops : Array Oper} {o : Oper} {a : Act} {K : Act → World → Prop} {Q : Exit → Act → World → Prop} {E : Prop} (hgd : o.guard = none) (s x : Operand) (t : TypeId)
    (ho : o.op = .call { callee := .builtin .append, args := #[s, x], argTypes := #[t, t] })
    (base : Nat) (e : TypeId) (i : TypeInfo) (z : Value) (size bytes : Nat) (ht : P.underlying t = some (.slice e)) (hi : P.info? e = some i) (hz : i.zero = some z)
    (hsize : i.size = size) (hby : i.bytes = bytes) (hzs : z.cells.size = size) (hsz : 0 < size)
    (v : Value) (n : Nat) (xs : List Value) (hs : a.eval s = v) (hown : w.ownsRow base e size v n xs)
    (ad : Addr) (m c : Nat) (news : List Value) (hx : a.eval x = .slice (some ad) m c) (hl : news.length = m * size) (hnews : ∀ j u, news[j]? = some u → w.cell? (ad.add j) = some u) (h1 : ∀ u ∈ news, u.oneCell' = true)
    (h63 : n + m ≤ maxLen) (hbytes : (n + m) * bytes ≤ 140737488355328) (hbase : base ≤ w.heap.size)
    (h : ∀ v' w', w'.ownsRow base e size v' (n + m) (xs ++ news) → w.grownBy w' v.ownBlock → K (a.put o.dst v') w') :
    if Region.wanted o (yielded ops a.tmps) = true then Oper.wp P o a w K Q else E := by
  have hw : Region.wanted o (yielded ops a.tmps) = true := by simp [Region.wanted, hgd]
  rw [if_pos hw]
  exact wp_append_own w s x t ho base e i z size bytes ht hi hz hsize hby hzs hsz v n xs hs hown ad m c news hx hl hnews h1 h63 hbytes hbase fun v' w' h2 h3 _ => h v' w' h2 h3

set_option maxRecDepth 100000 in
set_option maxHeartbeats 1600000 in
theorem rstep_end (ao : Option Addr) (c : Nat) (L : List (Int × Int)) (A B C kn : Int) (w : World) (hS : SRow w ao L) (hc : L.length ≤ c) (hm : c ≤ 9223372036854775807) :
    Calls Try.prog 28 #[.slice ao L.length c, .agg #[.int .i64 17, .int .i64 A, .int .i64 B, .int .i64 C], .int .i64 kn] w fun e w' => PRst w w' e (rstep kn 17 L) := by
  have ga := g_alloc (g_refl w none) (.cells #[.int .i64 17, .int .i64 A, .int .i64 B, .int .i64 C] 31)
  have z0 := (Blk.new w #[.int .i64 17, .int .i64 A, .int .i64 B, .int .i64 C] 31).cell 0 _ rfl
  have GA := Lib.hid ga
  have HS := Lib.hid hS
  clear ga hS
  rcases List.eq_nil_or_concat L with rfl | ⟨R, p, rfl⟩
  · have hr : Hid (rstep kn 17 [] = (false, [])) := Lib.hid rfl
    generalize rstep kn 17 [] = r at *
    go_enter Try.func28, Try.ntmps28
    go_wp2_with fail
    go_ret2
    rw [hr.out]
    exact ⟨ao, c, rfl, HS.out.keep GA.out, hc, hm, GA.out⟩
  · rw [List.concat_eq_append] at *
    have hr : Hid (rstep kn 17 (R ++ [p]) = (true, R)) := Lib.hid (by unfold rstep; simp)
    generalize rstep kn 17 (R ++ [p]) = r at *
    have HR : Hid (SRow (w.alloc (.cells #[.int .i64 17, .int .i64 A, .int .i64 B, .int .i64 C] 31)) ao R) := Lib.hid (by have h := srow_dropLast (HS.out.keep GA.out); simpa using h)
    simp only [List.length_append, List.length_cons, List.length_nil, Nat.zero_add] at *
    clear HS
    obtain ⟨n, hn⟩ : ∃ n, R.length = n := ⟨_, rfl⟩
    rw [hn] at hc ⊢
    have HN := Lib.hid hn
    clear hn
    have hsub : ((n : Int) + 1 - 1) = n := by omega
    have hsub2 : (((n + 1 : Nat) : Int) - 1) = n := by omega
    have hnz : ¬ (((n + 1 : Nat) : Int)) = 0 := by omega
    have hnz2 : ¬ ((n : Int) + 1) = 0 := by omega
    have hnc : (n : Int) ≤ c := by omega
    go_enter Try.func28, Try.ntmps28
    go_wp2_with fail
    go_ret2
    rw [hr.out]
    exact ⟨ao, c, by rw [← HN.out]; rfl, HR.out, (by have := HN.out; omega : R.length ≤ c), hm, GA.out⟩

set_option maxRecDepth 100000 in
set_option maxHeartbeats 1600000 in
theorem rstep_retry (ao : Option Addr) (c : Nat) (L : List (Int × Int)) (A B C kn : Int) (w : World) (hS : SRow w ao L) (hc : L.length ≤ c) (hm : c ≤ 9223372036854775807) :
    Calls Try.prog 28 #[.slice ao L.length c, .agg #[.int .i64 18, .int .i64 A, .int .i64 B, .int .i64 C], .int .i64 kn] w fun e w' => PRst w w' e (rstep kn 18 L) := by
  have ga := g_alloc (g_refl w none) (.cells #[.int .i64 18, .int .i64 A, .int .i64 B, .int .i64 C] 31)
  have z0 := (Blk.new w #[.int .i64 18, .int .i64 A, .int .i64 B, .int .i64 C] 31).cell 0 _ rfl
  have GA := Lib.hid ga
  have HS := Lib.hid hS
  clear ga hS
  have hr : Hid (rstep kn 18 L = (decide (0 < L.length), L)) := Lib.hid (rfl)
  generalize rstep kn 18 L = r at *
  go_enter Try.func28, Try.ntmps28
  go_wp2_with fail
  go_ret2
  rw [hr.out]
  exact ⟨ao, c, by simp, HS.out.keep GA.out, hc, hm, GA.out⟩

set_option maxRecDepth 100000 in
set_option maxHeartbeats 1600000 in
theorem rstep_halt (ao : Option Addr) (c : Nat) (L : List (Int × Int)) (A B C kn : Int) (w : World) (hS : SRow w ao L) (hc : L.length ≤ c) (hm : c ≤ 9223372036854775807) :
    Calls Try.prog 28 #[.slice ao L.length c, .agg #[.int .i64 20, .int .i64 A, .int .i64 B, .int .i64 C], .int .i64 kn] w fun e w' => PRst w w' e (rstep kn 20 L) := by
  have ga := g_alloc (g_refl w none) (.cells #[.int .i64 20, .int .i64 A, .int .i64 B, .int .i64 C] 31)
  have z0 := (Blk.new w #[.int .i64 20, .int .i64 A, .int .i64 B, .int .i64 C] 31).cell 0 _ rfl
  have GA := Lib.hid ga
  have HS := Lib.hid hS
  clear ga hS
  have hr : Hid (rstep kn 20 L = (decide (L.length = 0), L)) := Lib.hid (rfl)
  generalize rstep kn 20 L = r at *
  go_enter Try.func28, Try.ntmps28
  go_wp2_with fail
  go_ret2
  rw [hr.out]
  exact ⟨ao, c, by cases L <;> simp <;> omega, HS.out.keep GA.out, hc, hm, GA.out⟩

set_option maxRecDepth 100000 in
set_option maxHeartbeats 1600000 in
theorem rstep_other (ao : Option Addr) (c : Nat) (L : List (Int × Int)) (k A B C kn : Int) (w : World) (h15 : k ≠ 15) (h16 : k ≠ 16) (h17 : k ≠ 17) (h18 : k ≠ 18) (h20 : k ≠ 20) (hS : SRow w ao L) (hc : L.length ≤ c) (hm : c ≤ 9223372036854775807) :
    Calls Try.prog 28 #[.slice ao L.length c, .agg #[.int .i64 k, .int .i64 A, .int .i64 B, .int .i64 C], .int .i64 kn] w fun e w' => PRst w w' e (rstep kn k L) := by
  have ga := g_alloc (g_refl w none) (.cells #[.int .i64 k, .int .i64 A, .int .i64 B, .int .i64 C] 31)
  have z0 := (Blk.new w #[.int .i64 k, .int .i64 A, .int .i64 B, .int .i64 C] 31).cell 0 _ rfl
  have GA := Lib.hid ga
  have HS := Lib.hid hS
  clear ga hS
  have e15 : (k == 15) = false := by simp [h15]
  have e16 : (k == 16) = false := by simp [h16]
  have e17 : (k == 17) = false := by simp [h17]
  have e18 : (k == 18) = false := by simp [h18]
  have e20 : (k == 20) = false := by simp [h20]
  have hr : Hid (rstep kn k L = (true, L)) := Lib.hid (by unfold rstep; rw [if_neg h15, if_neg h16, if_neg h17, if_neg h18, if_neg h20])
  generalize rstep kn k L = r at *
  go_enter Try.func28, Try.ntmps28
  go_wp2_with fail
  go_ret2
  rw [hr.out]
  exact ⟨ao, c, rfl, HS.out.keep GA.out, hc, hm, GA.out⟩

set_option maxRecDepth 100000 in
set_option maxHeartbeats 1600000 in
theorem rstep_else (ao : Option Addr) (c : Nat) (L : List (Int × Int)) (A B C kn : Int) (w : World) (h1000 : L.length ≤ 1000) (hS : SRow w ao L) (hc : L.length ≤ c) (hm : c ≤ 9223372036854775807) :
    Calls Try.prog 28 #[.slice ao L.length c, .agg #[.int .i64 16, .int .i64 A, .int .i64 B, .int .i64 C], .int .i64 kn] w fun e w' => PRst w w' e (rstep kn 16 L) := by
  have ga := g_alloc (g_refl w none) (.cells #[.int .i64 16, .int .i64 A, .int .i64 B, .int .i64 C] 31)
  have z0 := (Blk.new w #[.int .i64 16, .int .i64 A, .int .i64 B, .int .i64 C] 31).cell 0 _ rfl
  have GA := Lib.hid ga
  have HS := Lib.hid hS
  clear ga hS
  rcases List.eq_nil_or_concat L with rfl | ⟨R, p, rfl⟩
  · have hr : Hid (rstep kn 16 [] = (false, [])) := Lib.hid rfl
    generalize rstep kn 16 [] = r at *
    go_enter Try.func28, Try.ntmps28
    go_wp2_with fail
    go_ret2
    rw [hr.out]
    exact ⟨ao, c, rfl, HS.out.keep GA.out, hc, hm, GA.out⟩
  · rw [List.concat_eq_append] at *
    obtain ⟨p1, p2⟩ := p
    obtain ⟨b, off, hab, q0, q1⟩ := HS.out R.length (p1, p2) (by simp)
    subst hab
    simp only at q0 q1
    have y0 := GA.out.cell q0 (by simp)
    have y1 := GA.out.cell q1 (by simp)
    clear q0 q1
    have HR : Hid (SRow (w.alloc (.cells #[.int .i64 16, .int .i64 A, .int .i64 B, .int .i64 C] 31)) (some ⟨b, off, none⟩) R) := Lib.hid (by have h := srow_dropLast (HS.out.keep GA.out); simpa using h)
    have HSK := Lib.hid (HS.out.keep GA.out)
    clear HS
    have hl : (R ++ [(p1, p2)]).length = R.length + 1 := by simp
    by_cases h1 : p2 = 1
    · subst h1
      have hr : Hid (rstep kn 16 (R ++ [(p1, 1)]) = (false, R ++ [(p1, 1)])) := Lib.hid (by unfold rstep; simp [topP])
      generalize rstep kn 16 (R ++ [(p1, 1)]) = r at *
      rw [hl] at hc ⊢
      have HL := Lib.hid hl
      obtain ⟨n, hn⟩ : ∃ n, R.length = n := ⟨_, rfl⟩
      rw [hn] at hc y0 y1 HL ⊢
      clear hl hn
      have hsub : ((n : Int) + 1 - 1) = n := by omega
      have hnz2 : ¬ ((n : Int) + 1) = 0 := by omega
      have hn1 : n < n + 1 := by omega
      go_enter Try.func28, Try.ntmps28
      go_wp2_with fail
      go_ret2
      rw [hr.out]
      exact ⟨_, c, by rw [HL.out]; rfl, HSK.out, by rw [HL.out]; exact hc, hm, GA.out⟩
    · have hr : Hid (rstep kn 16 (R ++ [(p1, p2)]) = (true, R ++ [(p1, 1)])) := Lib.hid (by unfold rstep; simp [topP, h1])
      generalize rstep kn 16 (R ++ [(p1, p2)]) = r at *
      rw [hl] at hc h1000 ⊢
      have e1 : (p2 == 1) = false := by simp [h1]
      obtain ⟨n, hn⟩ : ∃ n, R.length = n := ⟨_, rfl⟩
      rw [hn] at hc y0 y1 h1000 ⊢
      have HN := Lib.hid hn
      clear hl hn
      have hsub : ((n : Int) + 1 - 1) = n := by omega
      have hnz2 : ¬ ((n : Int) + 1) = 0 := by omega
      have hn1 : n < n + 1 := by omega
      go_enter Try.func28, Try.ntmps28
      go_upto_region 11 with fail
      have HCL : Hid (∀ w', (w.alloc (.cells #[.int .i64 16, .int .i64 A, .int .i64 B, .int .i64 C] 31)).grownBy w' none → ∀ (j : Nat) (u : Value), (scl R)[j]? = some u → w'.cell? ((⟨b, off, none⟩ : Addr).add j) = some u) := Lib.hid (fun w' g => srow_cells (HR.out.keep g))
      have Y0 := Lib.hid y0
      clear HR HSK y0 y1 z0
      generalize w.alloc (.cells #[.int .i64 16, .int .i64 A, .int .i64 B, .int .i64 C] 31) = W at *
      have HLL : Hid ((scl R).length = n * 2) := Lib.hid (by rw [scl_length, HN.out])
      have HO1 := Lib.hid (scl_ones R)
      have hnc : (n : Int) ≤ c := by omega
      have hlim : n + 1 ≤ 100000 := by omega
      obtain ⟨i0, hi, hz0, hz1, hz2⟩ := info_parts info58
      refine wp_region_held_drew (S := fun W' => W.grownBy W' none) (by kernel_rfl) (g_drew (g_refl _ _)) (fun hHeld => ?_)
      refine wpAnyH_take (i := 1) (v := .slice (some ⟨b, off, none⟩) (n + 1) c) rfl (by kernel_rfl) (by kernel_rfl) (by kernel_rfl) (fun _ _ _ h => h) (Or.inl ⟨by rfl, fun w hw => by clear hw; go_simp⟩) hHeld ?_
      try simp only [Act.put, List.setIfInBounds_toArray, List.set_cons_zero, List.set_cons_succ, List.getElem_toArray, List.getElem_cons_zero, List.getElem_cons_succ]
      refine wpAnyH_take (i := 2) (v := .int .i64 ((n : Int) + 1)) rfl (by kernel_rfl) (by kernel_rfl) (by kernel_rfl) (fun _ _ _ h => h) (Or.inl ⟨by rfl, fun w hw => by clear hw; go_simp⟩) hHeld ?_
      try simp only [Act.put, List.setIfInBounds_toArray, List.set_cons_zero, List.set_cons_succ, List.getElem_toArray, List.getElem_cons_zero, List.getElem_cons_succ]
      refine wpAnyH_take (i := 3) (v := .int .i64 (n : Int)) rfl (by kernel_rfl) (by kernel_rfl) (by kernel_rfl) (fun _ _ _ h => h) (Or.inl ⟨by rfl, fun w hw => by clear hw; go_simp; rw [IntKind.wrap_i64]; omega⟩) hHeld ?_
      try simp only [Act.put, List.setIfInBounds_toArray, List.set_cons_zero, List.set_cons_succ, List.getElem_toArray, List.getElem_cons_zero, List.getElem_cons_succ]
      refine wpAnyH_take (i := 4) (v := .slice (some ⟨b, off, none⟩) n c) rfl (by kernel_rfl) (by kernel_rfl) (by kernel_rfl) (fun _ _ _ h => h) (Or.inl ⟨by rfl, fun w hw => by clear hw; go_simp⟩) hHeld ?_
      try simp only [Act.put, List.setIfInBounds_toArray, List.set_cons_zero, List.set_cons_succ, List.getElem_toArray, List.getElem_cons_zero, List.getElem_cons_succ]
      refine wpAnyH_take (i := 6) (v := .slice (some ⟨b, off, none⟩) (n + 1) c) rfl (by kernel_rfl) (by kernel_rfl) (by kernel_rfl) (fun _ _ _ h => h) (Or.inl ⟨by rfl, fun w hw => by clear hw; go_simp⟩) hHeld ?_
      try simp only [Act.put, List.setIfInBounds_toArray, List.set_cons_zero, List.set_cons_succ, List.getElem_toArray, List.getElem_cons_zero, List.getElem_cons_succ]
      refine wpAnyH_take (i := 7) (v := .int .i64 ((n : Int) + 1)) rfl (by kernel_rfl) (by kernel_rfl) (by kernel_rfl) (fun _ _ _ h => h) (Or.inl ⟨by rfl, fun w hw => by clear hw; go_simp⟩) hHeld ?_
      try simp only [Act.put, List.setIfInBounds_toArray, List.set_cons_zero, List.set_cons_succ, List.getElem_toArray, List.getElem_cons_zero, List.getElem_cons_succ]
      refine wpAnyH_take (i := 8) (v := .int .i64 (n : Int)) rfl (by kernel_rfl) (by kernel_rfl) (by kernel_rfl) (fun _ _ _ h => h) (Or.inl ⟨by rfl, fun w hw => by clear hw; go_simp; rw [IntKind.wrap_i64]; omega⟩) hHeld ?_
      try simp only [Act.put, List.setIfInBounds_toArray, List.set_cons_zero, List.set_cons_succ, List.getElem_toArray, List.getElem_cons_zero, List.getElem_cons_succ]
      refine wpAnyH_take (i := 9) (v := .pointer (some ⟨b, off + n * 2, none⟩)) rfl (by kernel_rfl) (by kernel_rfl) (by kernel_rfl) (fun _ _ _ h => h) (Or.inl ⟨by rfl, fun w hw => by clear hw; go_simp⟩) hHeld ?_
      try simp only [Act.put, List.setIfInBounds_toArray, List.set_cons_zero, List.set_cons_succ, List.getElem_toArray, List.getElem_cons_zero, List.getElem_cons_succ]
      refine wpAnyH_take (i := 10) (v := .pointer (some ⟨b, off + n * 2, none⟩)) rfl (by kernel_rfl) (by kernel_rfl) (by kernel_rfl) (fun _ _ _ h => h) (Or.inl ⟨by rfl, fun w hw => by clear hw; go_simp⟩) hHeld ?_
      try simp only [Act.put, List.setIfInBounds_toArray, List.set_cons_zero, List.set_cons_succ, List.getElem_toArray, List.getElem_cons_zero, List.getElem_cons_succ]
      refine wpAnyH_take (i := 11) (v := .int .i64 p1) rfl (by kernel_rfl) (by kernel_rfl) (by kernel_rfl) (fun _ _ _ h => h) (Or.inl ⟨by rfl, fun w hw => by have q0 := hw.cell Y0.out (by simp); clear hw; go_simp⟩) hHeld ?_
      try simp only [Act.put, List.setIfInBounds_toArray, List.set_cons_zero, List.set_cons_succ, List.getElem_toArray, List.getElem_cons_zero, List.getElem_cons_succ]
      refine wpAnyH_take (i := 12) (v := .agg #[.int .i64 p1, .int .i64 1]) rfl (by kernel_rfl) (by kernel_rfl) (by kernel_rfl) (fun _ _ _ h => h) (Or.inl ⟨by rfl, fun w hw => by clear hw; go_simp⟩) hHeld ?_
      try simp only [Act.put, List.setIfInBounds_toArray, List.set_cons_zero, List.set_cons_succ, List.getElem_toArray, List.getElem_cons_zero, List.getElem_cons_succ]
      refine wpAnyH_ready (rs := [0, 13]) (by kernel_rfl) (by simp) (AllReadyH.cons rfl (fun K hK => ?_) (AllReadyH.cons rfl (fun K hK => ?_) (AllReadyH.nil)))
      · go_simp
        have EB := Lib.hid (own_zero W.drew 58 (B := W.heap.size) hHeld.size)
        try simp only [size_al, size_drew] at EB
        try have BZ := Lib.hid (BZ.out.keepn (g_alloc (g_refl _ none) (.cells #[] 58)))
        refine hK.out _ _ (g_trans hHeld (g_alloc (g_refl W.drew none) (.cells #[] 58))) (fun hHeld => ?_)
        clear hK K
        try simp only [Act.put, List.setIfInBounds_toArray, List.set_cons_zero, List.set_cons_succ, List.getElem_toArray, List.getElem_cons_zero, List.getElem_cons_succ]
        refine wpAnyH_ready (rs := [5, 13]) (by kernel_rfl) (by simp) (AllReadyH.cons rfl (fun K hK => ?_) (AllReadyH.cons rfl (fun K hK => ?_) (AllReadyH.nil)))
        · first | (refine step_append_own rfl _ _ 53 rfl W.heap.size 58 i0 (.agg #[.int .i64 0, .int .i64 0]) 2 16 Try.underlying53 hi hz0 hz1 hz2 rfl (by decide) (.slice (some ⟨W.heap.size, 0, none⟩) 0 0) 0 [] rfl (by first | exact EB.out | exact own_keepn EB.out (g_alloc (g_refl _ none) _)) ⟨b, off, none⟩ n c (scl R) rfl HLL.out (HCL.out _ hHeld) HO1.out (by unfold maxLen; omega) (by omega) hHeld.size ?_; intro v5 w5 hown5 hgrow5) | (refine step_append_own rfl _ _ 53 rfl W.heap.size 58 i0 (.agg #[.int .i64 0, .int .i64 0]) 2 16 Try.underlying53 hi hz0 hz1 hz2 rfl (by decide) (.slice (some ⟨W.heap.size + 1, 0, none⟩) 0 0) 0 [] rfl (by first | exact EB.out | exact own_keepn EB.out (g_alloc (g_refl _ none) _)) ⟨b, off, none⟩ n c (scl R) rfl HLL.out (HCL.out _ hHeld) HO1.out (by unfold maxLen; omega) (by omega) hHeld.size ?_; intro v5 w5 hown5 hgrow5)
          have HO5 := Lib.hid hown5
          try have BZ := Lib.hid (BZ.out.keep hgrow5 (by simp [Value.ownBlock]))
          refine hK.out _ _ (g_own2 hHeld (Nat.le_refl _) (by first | exact EB.out | exact own_keepn EB.out (g_alloc (g_refl _ none) _)) hgrow5) (fun hHeld => ?_)
          clear hK K
          try simp only [Act.put, List.setIfInBounds_toArray, List.set_cons_zero, List.set_cons_succ, List.getElem_toArray, List.getElem_cons_zero, List.getElem_cons_succ]
          refine wpAnyH_ready (rs := [13]) (by kernel_rfl) (by simp) (AllReadyH.cons rfl (fun K hK => ?_) AllReadyH.nil)
          · go_simp
            have HZ := Lib.hid hHeld.size
            have BZ := Lib.hid ((fun W => Blk.new W #[.int .i64 p1, .int .i64 1] 58) w5)
            try simp only [size_al, size_drew] at BZ
            have gm := g_trans hHeld ((fun W => g_alloc (g_refl W none) (.cells #[.int .i64 p1, .int .i64 1] 58)) w5)
            refine hK.out _ _ gm (fun hHeld => ?_)
            clear hK K gm
            try simp only [Act.put, List.setIfInBounds_toArray, List.set_cons_zero, List.set_cons_succ, List.getElem_toArray, List.getElem_cons_zero, List.getElem_cons_succ]
            refine wpAnyH_ready (rs := [14]) (by kernel_rfl) (by simp) (AllReadyH.cons rfl (fun K hK => ?_) AllReadyH.nil)
            refine step_append_own rfl _ _ 53 rfl W.heap.size 58 i0 (.agg #[.int .i64 0, .int .i64 0]) 2 16 Try.underlying53 hi hz0 hz1 hz2 rfl (by decide) _ (0 + n) ([] ++ scl R) rfl (by first | exact HO5.out | exact own_keepn HO5.out (g_alloc (g_refl _ none) _)) ⟨_, 0, none⟩ 1 1 [.int .i64 p1, .int .i64 1] rfl rfl (World.news_of_block (cs := #[.int .i64 p1, .int .i64 1]) (t := 58) (fr := (0, 0)) BZ.out) (ones2 _ _) (by unfold maxLen; omega) (by omega) hHeld.size ?_
            intro v6 w6 hown6 hgrow6
            refine hK.out _ _ (g_own2 hHeld (Nat.le_refl _) (by first | exact HO5.out | exact own_keepn HO5.out (g_alloc (g_refl _ none) _)) hgrow6) (fun hHeld => ?_)
            clear hK K
            try simp only [Act.put, List.setIfInBounds_toArray, List.set_cons_zero, List.set_cons_succ, List.getElem_toArray, List.getElem_cons_zero, List.getElem_cons_succ]
            refine wpAnyH_take (i := 15) (v := v6) rfl (by kernel_rfl) (by kernel_rfl) (by kernel_rfl) (fun _ _ _ h => h) (Or.inl ⟨by rfl, fun w hw => by clear hw; go_simp⟩) hHeld ?_
            try simp only [Act.put, List.setIfInBounds_toArray, List.set_cons_zero, List.set_cons_succ, List.getElem_toArray, List.getElem_cons_zero, List.getElem_cons_succ]
            refine wpAnyH_take (i := 16) (v := .bool true) rfl (by kernel_rfl) (by kernel_rfl) (by kernel_rfl) (fun _ _ _ h => h) (Or.inl ⟨by rfl, fun w hw => by clear hw; go_simp⟩) hHeld ?_
            try simp only [Act.put, List.setIfInBounds_toArray, List.set_cons_zero, List.set_cons_succ, List.getElem_toArray, List.getElem_cons_zero, List.getElem_cons_succ]
            refine wpAnyH_done (by kernel_rfl) ?_ _
            have HO6 : Hid (w6.ownsRow W.heap.size 58 2 v6 (R ++ [(p1, 1)]).length (scl (R ++ [(p1, 1)]))) := Lib.hid (by
              rw [scl_append, List.length_append, HN.out]
              simpa [scl] using hown6)
            go_wp2_with fail
            go_ret2
            rw [hr.out]
            exact prst_own HO6.out (g_trans GA.out hHeld)
        · go_simp
          have HZ := Lib.hid hHeld.size
          have BZ := Lib.hid ((fun W => Blk.new W #[.int .i64 p1, .int .i64 1] 58) (W.drew.alloc (.cells #[] 58)))
          try simp only [size_al, size_drew] at BZ
          have gm := g_trans hHeld ((fun W => g_alloc (g_refl W none) (.cells #[.int .i64 p1, .int .i64 1] 58)) (W.drew.alloc (.cells #[] 58)))
          refine hK.out _ _ gm (fun hHeld => ?_)
          clear hK K gm
          try simp only [Act.put, List.setIfInBounds_toArray, List.set_cons_zero, List.set_cons_succ, List.getElem_toArray, List.getElem_cons_zero, List.getElem_cons_succ]
          refine wpAnyH_ready (rs := [5]) (by kernel_rfl) (by simp) (AllReadyH.cons rfl (fun K hK => ?_) (AllReadyH.nil))
          · first | (refine step_append_own rfl _ _ 53 rfl W.heap.size 58 i0 (.agg #[.int .i64 0, .int .i64 0]) 2 16 Try.underlying53 hi hz0 hz1 hz2 rfl (by decide) (.slice (some ⟨W.heap.size, 0, none⟩) 0 0) 0 [] rfl (by first | exact EB.out | exact own_keepn EB.out (g_alloc (g_refl _ none) _)) ⟨b, off, none⟩ n c (scl R) rfl HLL.out (HCL.out _ hHeld) HO1.out (by unfold maxLen; omega) (by omega) hHeld.size ?_; intro v5 w5 hown5 hgrow5) | (refine step_append_own rfl _ _ 53 rfl W.heap.size 58 i0 (.agg #[.int .i64 0, .int .i64 0]) 2 16 Try.underlying53 hi hz0 hz1 hz2 rfl (by decide) (.slice (some ⟨W.heap.size + 1, 0, none⟩) 0 0) 0 [] rfl (by first | exact EB.out | exact own_keepn EB.out (g_alloc (g_refl _ none) _)) ⟨b, off, none⟩ n c (scl R) rfl HLL.out (HCL.out _ hHeld) HO1.out (by unfold maxLen; omega) (by omega) hHeld.size ?_; intro v5 w5 hown5 hgrow5)
            have HO5 := Lib.hid hown5
            try have BZ := Lib.hid (BZ.out.keep hgrow5 (by simp [Value.ownBlock]))
            refine hK.out _ _ (g_own2 hHeld (Nat.le_refl _) (by first | exact EB.out | exact own_keepn EB.out (g_alloc (g_refl _ none) _)) hgrow5) (fun hHeld => ?_)
            clear hK K
            try simp only [Act.put, List.setIfInBounds_toArray, List.set_cons_zero, List.set_cons_succ, List.getElem_toArray, List.getElem_cons_zero, List.getElem_cons_succ]
            refine wpAnyH_ready (rs := [14]) (by kernel_rfl) (by simp) (AllReadyH.cons rfl (fun K hK => ?_) AllReadyH.nil)
            refine step_append_own rfl _ _ 53 rfl W.heap.size 58 i0 (.agg #[.int .i64 0, .int .i64 0]) 2 16 Try.underlying53 hi hz0 hz1 hz2 rfl (by decide) _ (0 + n) ([] ++ scl R) rfl (by first | exact HO5.out | exact own_keepn HO5.out (g_alloc (g_refl _ none) _)) ⟨_, 0, none⟩ 1 1 [.int .i64 p1, .int .i64 1] rfl rfl (World.news_of_block (cs := #[.int .i64 p1, .int .i64 1]) (t := 58) (fr := (0, 0)) BZ.out) (ones2 _ _) (by unfold maxLen; omega) (by omega) hHeld.size ?_
            intro v6 w6 hown6 hgrow6
            refine hK.out _ _ (g_own2 hHeld (Nat.le_refl _) (by first | exact HO5.out | exact own_keepn HO5.out (g_alloc (g_refl _ none) _)) hgrow6) (fun hHeld => ?_)
            clear hK K
            try simp only [Act.put, List.setIfInBounds_toArray, List.set_cons_zero, List.set_cons_succ, List.getElem_toArray, List.getElem_cons_zero, List.getElem_cons_succ]
            refine wpAnyH_take (i := 15) (v := v6) rfl (by kernel_rfl) (by kernel_rfl) (by kernel_rfl) (fun _ _ _ h => h) (Or.inl ⟨by rfl, fun w hw => by clear hw; go_simp⟩) hHeld ?_
            try simp only [Act.put, List.setIfInBounds_toArray, List.set_cons_zero, List.set_cons_succ, List.getElem_toArray, List.getElem_cons_zero, List.getElem_cons_succ]
            refine wpAnyH_take (i := 16) (v := .bool true) rfl (by kernel_rfl) (by kernel_rfl) (by kernel_rfl) (fun _ _ _ h => h) (Or.inl ⟨by rfl, fun w hw => by clear hw; go_simp⟩) hHeld ?_
            try simp only [Act.put, List.setIfInBounds_toArray, List.set_cons_zero, List.set_cons_succ, List.getElem_toArray, List.getElem_cons_zero, List.getElem_cons_succ]
            refine wpAnyH_done (by kernel_rfl) ?_ _
            have HO6 : Hid (w6.ownsRow W.heap.size 58 2 v6 (R ++ [(p1, 1)]).length (scl (R ++ [(p1, 1)]))) := Lib.hid (by
              rw [scl_append, List.length_append, HN.out]
              simpa [scl] using hown6)
            go_wp2_with fail
            go_ret2
            rw [hr.out]
            exact prst_own HO6.out (g_trans GA.out hHeld)
      · go_simp
        have HZ := Lib.hid hHeld.size
        have BZ := Lib.hid ((fun W => Blk.new W #[.int .i64 p1, .int .i64 1] 58) W.drew)
        try simp only [size_al, size_drew] at BZ
        have gm := g_trans hHeld ((fun W => g_alloc (g_refl W none) (.cells #[.int .i64 p1, .int .i64 1] 58)) W.drew)
        refine hK.out _ _ gm (fun hHeld => ?_)
        clear hK K gm
        try simp only [Act.put, List.setIfInBounds_toArray, List.set_cons_zero, List.set_cons_succ, List.getElem_toArray, List.getElem_cons_zero, List.getElem_cons_succ]
        refine wpAnyH_ready (rs := [0]) (by kernel_rfl) (by simp) (AllReadyH.cons rfl (fun K hK => ?_) (AllReadyH.nil))
        · go_simp
          have EB := Lib.hid (own_zero (W.drew.alloc (.cells #[.int .i64 p1, .int .i64 1] 58)) 58 (B := W.heap.size) hHeld.size)
          try simp only [size_al, size_drew] at EB
          try have BZ := Lib.hid (BZ.out.keepn (g_alloc (g_refl _ none) (.cells #[] 58)))
          refine hK.out _ _ (g_trans hHeld (g_alloc (g_refl (W.drew.alloc (.cells #[.int .i64 p1, .int .i64 1] 58)) none) (.cells #[] 58))) (fun hHeld => ?_)
          clear hK K
          try simp only [Act.put, List.setIfInBounds_toArray, List.set_cons_zero, List.set_cons_succ, List.getElem_toArray, List.getElem_cons_zero, List.getElem_cons_succ]
          refine wpAnyH_ready (rs := [5]) (by kernel_rfl) (by simp) (AllReadyH.cons rfl (fun K hK => ?_) (AllReadyH.nil))
          · first | (refine step_append_own rfl _ _ 53 rfl W.heap.size 58 i0 (.agg #[.int .i64 0, .int .i64 0]) 2 16 Try.underlying53 hi hz0 hz1 hz2 rfl (by decide) (.slice (some ⟨W.heap.size, 0, none⟩) 0 0) 0 [] rfl (by first | exact EB.out | exact own_keepn EB.out (g_alloc (g_refl _ none) _)) ⟨b, off, none⟩ n c (scl R) rfl HLL.out (HCL.out _ hHeld) HO1.out (by unfold maxLen; omega) (by omega) hHeld.size ?_; intro v5 w5 hown5 hgrow5) | (refine step_append_own rfl _ _ 53 rfl W.heap.size 58 i0 (.agg #[.int .i64 0, .int .i64 0]) 2 16 Try.underlying53 hi hz0 hz1 hz2 rfl (by decide) (.slice (some ⟨W.heap.size + 1, 0, none⟩) 0 0) 0 [] rfl (by first | exact EB.out | exact own_keepn EB.out (g_alloc (g_refl _ none) _)) ⟨b, off, none⟩ n c (scl R) rfl HLL.out (HCL.out _ hHeld) HO1.out (by unfold maxLen; omega) (by omega) hHeld.size ?_; intro v5 w5 hown5 hgrow5)
            have HO5 := Lib.hid hown5
            try have BZ := Lib.hid (BZ.out.keep hgrow5 (by simp [Value.ownBlock]))
            refine hK.out _ _ (g_own2 hHeld (Nat.le_refl _) (by first | exact EB.out | exact own_keepn EB.out (g_alloc (g_refl _ none) _)) hgrow5) (fun hHeld => ?_)
            clear hK K
            try simp only [Act.put, List.setIfInBounds_toArray, List.set_cons_zero, List.set_cons_succ, List.getElem_toArray, List.getElem_cons_zero, List.getElem_cons_succ]
            refine wpAnyH_ready (rs := [14]) (by kernel_rfl) (by simp) (AllReadyH.cons rfl (fun K hK => ?_) AllReadyH.nil)
            refine step_append_own rfl _ _ 53 rfl W.heap.size 58 i0 (.agg #[.int .i64 0, .int .i64 0]) 2 16 Try.underlying53 hi hz0 hz1 hz2 rfl (by decide) _ (0 + n) ([] ++ scl R) rfl (by first | exact HO5.out | exact own_keepn HO5.out (g_alloc (g_refl _ none) _)) ⟨_, 0, none⟩ 1 1 [.int .i64 p1, .int .i64 1] rfl rfl (World.news_of_block (cs := #[.int .i64 p1, .int .i64 1]) (t := 58) (fr := (0, 0)) BZ.out) (ones2 _ _) (by unfold maxLen; omega) (by omega) hHeld.size ?_
            intro v6 w6 hown6 hgrow6
            refine hK.out _ _ (g_own2 hHeld (Nat.le_refl _) (by first | exact HO5.out | exact own_keepn HO5.out (g_alloc (g_refl _ none) _)) hgrow6) (fun hHeld => ?_)
            clear hK K
            try simp only [Act.put, List.setIfInBounds_toArray, List.set_cons_zero, List.set_cons_succ, List.getElem_toArray, List.getElem_cons_zero, List.getElem_cons_succ]
            refine wpAnyH_take (i := 15) (v := v6) rfl (by kernel_rfl) (by kernel_rfl) (by kernel_rfl) (fun _ _ _ h => h) (Or.inl ⟨by rfl, fun w hw => by clear hw; go_simp⟩) hHeld ?_
            try simp only [Act.put, List.setIfInBounds_toArray, List.set_cons_zero, List.set_cons_succ, List.getElem_toArray, List.getElem_cons_zero, List.getElem_cons_succ]
            refine wpAnyH_take (i := 16) (v := .bool true) rfl (by kernel_rfl) (by kernel_rfl) (by kernel_rfl) (fun _ _ _ h => h) (Or.inl ⟨by rfl, fun w hw => by clear hw; go_simp⟩) hHeld ?_
            try simp only [Act.put, List.setIfInBounds_toArray, List.set_cons_zero, List.set_cons_succ, List.getElem_toArray, List.getElem_cons_zero, List.getElem_cons_succ]
            refine wpAnyH_done (by kernel_rfl) ?_ _
            have HO6 : Hid (w6.ownsRow W.heap.size 58 2 v6 (R ++ [(p1, 1)]).length (scl (R ++ [(p1, 1)]))) := Lib.hid (by
              rw [scl_append, List.length_append, HN.out]
              simpa [scl] using hown6)
            go_wp2_with fail
            go_ret2
            rw [hr.out]
            exact prst_own HO6.out (g_trans GA.out hHeld)
end Go.Proofs.Ytfobfcnbbafplaa
