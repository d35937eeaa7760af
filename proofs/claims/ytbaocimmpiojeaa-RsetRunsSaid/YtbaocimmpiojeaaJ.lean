/- Sets of what was read: Clear, Fork; the document's answer. -/
import Derived.Test.YtbaocimmpiojeaaG
import Derived.Test.YtbaocimmpiojeaaH
namespace Go.Proofs.Ytbaocimmpiojeaa
open Go.RowKit Go.ChangeMaps Go.MapKept
set_option linter.unusedVariables false
set_option linter.unusedSimpArgs false

theorem run_append_empty {P : Program} {w : World} (base : Nat) (t ty e : TypeId) (i : TypeInfo) (size : Nat) (ht : P.underlying t = some (.slice e)) (hi : P.info? e = some i)
    (v : Value) (n : Nat) (xs : List Value) (hown : w.ownsRow base e size v n xs) (ao : Option Addr) (c : Nat) :
    (Builtin.append_ #[t, t] ty #[v, .slice ao 0 c]).run P w = .ok v w := by
  rcases hown.2 with ⟨rfl, rfl⟩ | ⟨g, cap, cur, rfl, _, _, hnc, _⟩
  · cases ao <;> simp [Builtin.append_, run_underlying ht, sizeOf, typeInfo, hi, Builtin.lenOf, Builtin.firstCells, loadCells, loadCellsFrom]
  · cases ao <;> simp [Builtin.append_, run_underlying ht, sizeOf, typeInfo, hi, Builtin.lenOf, Builtin.firstCells, hnc, storeCells, loadCells, loadCellsFrom]
theorem wpList_append_empty {P : Program} {w : World} {ops : Array Oper} {rest : List Oper} {o : Oper} {a : Act} {Q : Exit → Act → World → Prop} (hgd : o.guard = none) (s x : Operand) (t : TypeId)
    (ho : o.op = .call { callee := .builtin .append, args := #[s, x], argTypes := #[t, t] })
    (base : Nat) (e : TypeId) (i : TypeInfo) (size : Nat) (ht : P.underlying t = some (.slice e)) (hi : P.info? e = some i)
    (v : Value) (n : Nat) (xs : List Value) (hs : a.eval s = v) (hown : w.ownsRow base e size v n xs) (ao : Option Addr) (c : Nat) (hx : a.eval x = .slice ao 0 c)
    (h : wpList P ops Q rest (a.put o.dst v) w) : wpList P ops Q (o :: rest) a w := by
  refine wpList_plain hgd fun K hK => ?_
  have hrun := run_append_empty (P := P) (w := w) base t o.type e i size ht hi v n xs hown ao c
  unfold Oper.wp
  simp [execOp, ho, resolve, invoke, builtin, hs, hx, hrun, Result.andThen]
  exact hK _ _ h

theorem run_clear {w : World} {m n : Nat} {D : DataW Unit} (h : w.ownsMap Try.prog 3 (plainElem (H := Unit) Try.prog 3) m n D) (ty : TypeId) :
    ∃ w', (Builtin.clear_ #[62] ty #[.map (some m)]).run Try.prog w = .ok (.tuple #[]) w' ∧ w'.ownsMap Try.prog 3 (plainElem (H := Unit) Try.prog 3) m 0 (.map []) ∧ w.grownBy w' (some m) := by
  obtain ⟨es, clock, hb, F, hs, rfl⟩ := h
  refine ⟨setBlock w m (.map #[] clock), ?_, ⟨#[], clock, heap_setBlock_same hb _, ⟨by simp, stamped_empty clock, by simp⟩, Nat.le_refl _, rfl⟩, ⟨rfl, rfl, rfl, by simp [setBlock], fun i _ hi => heap_setBlock_other hb _ (fun e => hi (by rw [e]))⟩⟩
  simp [Builtin.clear_, run_underlying Try.underlying62, MapKept.run_getObj_map hb, MapKept.run_setObj_map _ hb, Result.andThen, setBlock]
theorem wpList_clear_own {w : World} {ops : Array Oper} {rest : List Oper} {o : Oper} {a : Act} {Q : Exit → Act → World → Prop} (hg : o.guard = none) (x : Operand) (hop : o.op = Op.call { callee := Callee.builtin Builtin.clear, args := #[x], argTypes := #[62] })
    (m n : Nat) (D : DataW Unit) (hm : a.eval x = .map (some m)) (hown : w.ownsMap Try.prog 3 (plainElem (H := Unit) Try.prog 3) m n D)
    (hK : ∀ w', w'.ownsMap Try.prog 3 (plainElem (H := Unit) Try.prog 3) m 0 (.map []) → w.grownBy w' (some m) → wpList Try.prog ops Q rest (a.put o.dst (.tuple #[])) w') :
    wpList Try.prog ops Q (o :: rest) a w := by
  refine wpList_plain hg fun K' hK' => ?_
  obtain ⟨w', hrun, r1, r2⟩ := run_clear hown o.type
  unfold Oper.wp
  simp [execOp, hop, resolve, invoke, builtin, hm, hrun, Result.andThen]
  exact hK' _ _ (hK w' r1 r2)
theorem own_mono {w : World} {B B' : Nat} {e : TypeId} {size n : Nat} {v : Value} {xs : List Value} (h : w.ownsRow B e size v n xs) (hB : B' ≤ B) : w.ownsRow B' e size v n xs := by
  refine ⟨h.1, ?_⟩
  rcases h.2 with hn | ⟨g, cap, cur, rfl, hb, rest⟩
  · exact .inl hn
  · exact .inr ⟨g, cap, cur, rfl, Nat.le_trans hB hb, rest⟩
theorem dist_nil : Dist [] := ⟨List.Pairwise.nil, fun p hp => (by cases hp)⟩
theorem lb_nil (S : Nat → Prop) (b : Nat) : Lb S (.slice none 0 0) b := ⟨fun e => (by cases e), fun g e => (by cases e)⟩

set_option maxRecDepth 100000 in
set_option maxHeartbeats 3200000 in
theorem clear_any (S : Nat → Prop) (b : Nat) (most : Int) (L : List (Int × Int)) (w : World) (h : Rs w S b most L) (hS : ∀ i, w.heap.size ≤ i → S i) (hm : most ≠ 0) :
    Calls Try.prog 13 #[.pointer (some ⟨b, 0, none⟩)] w fun e w' => e = .returned (.tuple #[]) ∧ Rs w' S b most [] ∧ Tr S w w' := by
  have hnot : ∀ (x : Bool) (w : World), (Op.unary .not (.bool x)).run Try.prog w = .ok (.bool (!x)) w := fun _ _ => rfl
  have HN := Lib.hid (none_any b most w h.most hm)
  obtain ⟨h0, lv, d, mo, h1, h2, h3, h4, h5⟩ := h
  have c1 := Blk.cell h1 1 _ rfl
  have f1 := Blk.free h1 1
  have s1 := g_set (g_refl w (some b)) (p := ⟨b, 1, none⟩) (.inl rfl) (.slice none 0 0)
  have hb1 : RB (w.setCell ⟨b, 1, none⟩ (.slice none 0 0)) b most (.slice none 0 0) d 0 mo := by
    have h := Blk.set h1 1 (.slice none 0 0); unfold RB; simpa using h
  have T1 : Hid (Tr S w (w.setCell ⟨b, 1, none⟩ (.slice none 0 0))) := Lib.hid (tr_row (S := S) s1 (fun g e _ => by cases e; exact h0))
  rcases h5 with rfl | ⟨rfl, m, rfl, h6, h7, h8, h9⟩
  · have hrs : Rs (w.setCell ⟨b, 1, none⟩ (.slice none 0 0)) S b most [] := ⟨h0, .slice none 0 0, 0, mo, hb1, World.ownsRow_nil _ _ _ _, lb_nil _ _, dist_nil, .inl rfl⟩
    have HI := Lib.hid (index_any S b most [] _ hrs (by decide) (fun i hi => hS i (by simpa [World.setCell] using hi)))
    obtain ⟨lo, lc, rfl, -, -⟩ := srow_of_own h2
    clear h1 h2 h3 h4 hb1 hrs s1
    · skip
      go_enter Try.func13, Try.ntmps13
      go_wp2_with fail
      refine HN.out.mono ?_
      rintro e w1 ⟨rfl, rfl⟩
      go_wp2_with fail
      refine HI.out.mono ?_
      rintro e w2 ⟨m, rfl, hx, ht⟩
      obtain ⟨_, lv2, k1, k2, k3, k4, k5, k6, k7, nn, D, hown, hnn, hh1, hh2⟩ := hx
      have HOW := Lib.hid hown
      have HB := Lib.hid k1
      have HO := Lib.hid k2
      have HA := Lib.hid (And.intro k3 (And.intro k5 (And.intro k6 k7)))
      have HT := Lib.hid (tr_trans T1.out ht (fun i _ e => e))
      clear k1 k2 k3 k4 k5 k6 k7 hown hnn hh1 hh2 ht
      obtain ⟨w3, hrun, hown3, hg3⟩ := run_clear HOW.out 0
      go_wp2_with fail
      go_end0
      exact ⟨rfl, ⟨h0, lv2, 1, .map (some m), Blk.keep HB.out hg3 (by simpa using Ne.symm HA.out.2.2.1), HO.out.kept hg3 (.inr HA.out.2.2.2), HA.out.1, dist_nil, .inr ⟨rfl, m, rfl, HA.out.2.1, HA.out.2.2.1, HA.out.2.2.2, mapOf_nil hown3 rfl⟩⟩, tr_trans HT.out (tr_row (S := S) hg3 (fun g e _ => by cases e; exact HA.out.2.1)) (fun i _ e => e)⟩
  · obtain ⟨nn, D, hown, -⟩ := h9
    have HI := Lib.hid (index_done b m most (.slice none 0 0) _ hb1)
    have HOW1 := Lib.hid (hown.kept s1 (by simpa using h7))
    have HB1 := Lib.hid hb1
    have HA := Lib.hid (And.intro h6 h7)
    obtain ⟨lo, lc, rfl, -, -⟩ := srow_of_own h2
    clear h1 h2 h3 h4 hb1 s1 hown h8
    · skip
      go_enter Try.func13, Try.ntmps13
      go_wp2_with fail
      refine HN.out.mono ?_
      rintro e w1 ⟨rfl, rfl⟩
      go_wp2_with fail
      refine HI.out.mono ?_
      rintro e w2 ⟨rfl, g2⟩
      have HOW := Lib.hid (HOW1.out.kept g2 (by simp))
      have HB := Lib.hid (Blk.keepn HB1.out g2)
      have HT := Lib.hid (tr_then T1.out g2)
      clear g2
      obtain ⟨w3, hrun, hown3, hg3⟩ := run_clear HOW.out 0
      go_wp2_with fail
      go_end0
      exact ⟨rfl, ⟨h0, .slice none 0 0, 1, .map (some m), Blk.keep HB.out hg3 (by simpa using Ne.symm HA.out.2), World.ownsRow_nil _ _ _ _, lb_nil _ _, dist_nil, .inr ⟨rfl, m, rfl, HA.out.1, HA.out.2, fun e => (by cases e), mapOf_nil hown3 rfl⟩⟩, tr_trans HT.out (tr_row (S := S) hg3 (fun g e _ => by cases e; exact HA.out.1)) (fun i _ e => e)⟩

set_option maxRecDepth 100000 in
set_option maxHeartbeats 3200000 in
theorem fork_any (S : Nat → Prop) (b : Nat) (most : Int) (L : List (Int × Int)) (w : World) (h : Rs w S b most L) (hm : most ≠ 0) (hl : L.length ≤ 5000) :
    Calls Try.prog 14 #[.pointer (some ⟨b, 0, none⟩)] w fun e w' => ∃ k, e = .returned (.pointer (some ⟨k, 0, none⟩)) ∧ Rs w' (fun i => w.heap.size ≤ i) k most L ∧ w.grownBy w' none := by
  have HN := Lib.hid (none_any b most w h.most hm)
  have HD := Lib.hid (dist_of h)
  obtain ⟨ao, c, c1, hs, hc, hcm, hn⟩ := h.row
  have HC : Hid (∀ W, w.grownBy W none → Calls Try.prog 21 #[.slice ao L.length c] W fun e w' => ∃ v, e = .returned v ∧ PRw W w' v L) := Lib.hid (fun W g => clone_any ao c L W (hs.keep g) hn hl hc)
  have C := Lib.hid (And.intro h.most c1)
  clear hs hn h c1
  obtain ⟨n, hn⟩ : ∃ n, L.length = n := ⟨_, rfl⟩
  rw [hn] at HC C
  clear hn hl hc
  go_enter Try.func14, Try.ntmps14
  go_wp2_with fail
  refine HN.out.mono ?_
  rintro e w1 ⟨rfl, rfl⟩
  go_upto_region 3 with fail
  refine wp_region_held_drew (S := fun W' => w1.grownBy W' none) (by kernel_rfl) (g_drew (g_refl _ _)) (fun hHeld => ?_)
  refine wpAnyH_take (i := 0) (v := .pointer (some ⟨b, 0, none⟩)) rfl (by kernel_rfl) (by kernel_rfl) (by kernel_rfl) (fun _ _ _ h => h) (Or.inl ⟨by rfl, fun w hw => by clear hw; go_simp⟩) hHeld ?_
  try simp only [Act.put, List.setIfInBounds_toArray, List.set_cons_zero, List.set_cons_succ, List.getElem_toArray, List.getElem_cons_zero, List.getElem_cons_succ]
  refine wpAnyH_take (i := 1) (v := .pointer (some ⟨b, 0, none⟩)) rfl (by kernel_rfl) (by kernel_rfl) (by kernel_rfl) (fun _ _ _ h => h) (Or.inl ⟨by rfl, fun w hw => by clear hw; go_simp⟩) hHeld ?_
  try simp only [Act.put, List.setIfInBounds_toArray, List.set_cons_zero, List.set_cons_succ, List.getElem_toArray, List.getElem_cons_zero, List.getElem_cons_succ]
  refine wpAnyH_take (i := 2) (v := .pointer (some ⟨b, 0, none⟩)) rfl (by kernel_rfl) (by kernel_rfl) (by kernel_rfl) (fun _ _ _ h => h) (Or.inl ⟨by rfl, fun w hw => by clear hw; go_simp⟩) hHeld ?_
  try simp only [Act.put, List.setIfInBounds_toArray, List.set_cons_zero, List.set_cons_succ, List.getElem_toArray, List.getElem_cons_zero, List.getElem_cons_succ]
  refine wpAnyH_take (i := 3) (v := .int .i64 most) rfl (by kernel_rfl) (by kernel_rfl) (by kernel_rfl) (fun _ _ _ h => h) (Or.inl ⟨by rfl, fun w hw => by have q0 := hw.cell C.out.1 (by simp); clear hw; go_simp⟩) hHeld ?_
  try simp only [Act.put, List.setIfInBounds_toArray, List.set_cons_zero, List.set_cons_succ, List.getElem_toArray, List.getElem_cons_zero, List.getElem_cons_succ]
  refine wpAnyH_take (i := 4) (v := .pointer (some ⟨b, 0, none⟩)) rfl (by kernel_rfl) (by kernel_rfl) (by kernel_rfl) (fun _ _ _ h => h) (Or.inl ⟨by rfl, fun w hw => by clear hw; go_simp⟩) hHeld ?_
  try simp only [Act.put, List.setIfInBounds_toArray, List.set_cons_zero, List.set_cons_succ, List.getElem_toArray, List.getElem_cons_zero, List.getElem_cons_succ]
  refine wpAnyH_take (i := 5) (v := .pointer (some ⟨b, 0, none⟩)) rfl (by kernel_rfl) (by kernel_rfl) (by kernel_rfl) (fun _ _ _ h => h) (Or.inl ⟨by rfl, fun w hw => by clear hw; go_simp⟩) hHeld ?_
  try simp only [Act.put, List.setIfInBounds_toArray, List.set_cons_zero, List.set_cons_succ, List.getElem_toArray, List.getElem_cons_zero, List.getElem_cons_succ]
  refine wpAnyH_take (i := 6) (v := .pointer (some ⟨b, 1, none⟩)) rfl (by kernel_rfl) (by kernel_rfl) (by kernel_rfl) (fun _ _ _ h => h) (Or.inl ⟨by rfl, fun w hw => by clear hw; go_simp⟩) hHeld ?_
  try simp only [Act.put, List.setIfInBounds_toArray, List.set_cons_zero, List.set_cons_succ, List.getElem_toArray, List.getElem_cons_zero, List.getElem_cons_succ]
  refine wpAnyH_take (i := 7) (v := .slice ao n c) rfl (by kernel_rfl) (by kernel_rfl) (by kernel_rfl) (fun _ _ _ h => h) (Or.inl ⟨by rfl, fun w hw => by have q0 := hw.cell C.out.2 (by simp); clear hw; go_simp⟩) hHeld ?_
  try simp only [Act.put, List.setIfInBounds_toArray, List.set_cons_zero, List.set_cons_succ, List.getElem_toArray, List.getElem_cons_zero, List.getElem_cons_succ]
  refine wpAnyH_ready (rs := [8]) (by kernel_rfl) (by simp) (AllReadyH.cons rfl (fun K hK => ?_) (AllReadyH.nil))
  · go_simp
    refine Calls.mono (HC.out _ hHeld) ?_
    rintro e wc1 ⟨v, rfl, how, gc1⟩
    obtain ⟨vo, vn, vc, rfl⟩ : ∃ vo vn vc, v = .slice vo vn vc := by
      rcases how.2 with ⟨e, _⟩ | ⟨_, _, _, e, _⟩
      · exact ⟨_, _, _, e⟩
      · exact ⟨_, _, _, e⟩
    try go_wp2_with fail
    refine hK.out _ _ (g_trans hHeld gc1) (fun hHeld => ?_)
    clear hK K
    try simp only [Act.put, List.setIfInBounds_toArray, List.set_cons_zero, List.set_cons_succ, List.getElem_toArray, List.getElem_cons_zero, List.getElem_cons_succ]
    refine wpAnyH_take (i := 9) (v := .agg #[.int .i64 most, .slice vo vn vc, .int .u32 0, .int .i32 0, .int .u32 0, .map none]) rfl (by kernel_rfl) (by kernel_rfl) (by kernel_rfl) (fun _ _ _ h => h) (Or.inl ⟨by rfl, fun w hw => by clear hw; go_simp⟩) hHeld ?_
    try simp only [Act.put, List.setIfInBounds_toArray, List.set_cons_zero, List.set_cons_succ, List.getElem_toArray, List.getElem_cons_zero, List.getElem_cons_succ]
    refine wpAnyH_ready (rs := [10]) (by kernel_rfl) (by simp) (AllReadyH.cons rfl (fun K hK => ?_) (AllReadyH.nil))
    · go_simp
      have gbx := g_alloc (g_refl wc1 none) (.cells #[.int .i64 most, .slice vo vn vc, .int .u32 0, .int .i32 0, .int .u32 0, .map none] 64)
      have HBX := Lib.hid (Blk.new wc1 #[.int .i64 most, .slice vo vn vc, .int .u32 0, .int .i32 0, .int .u32 0, .map none] 64)
      have HOX := Lib.hid (own_keepn how gbx)
      have hsz := hHeld.size
      have hlb : ∀ g, (Value.slice vo vn vc).ownBlock = some g → w1.heap.size ≤ g ∧ g < wc1.heap.size := fun g e => by
        have h := own_lt how e
        have hd : w1.drew.heap.size = w1.heap.size := rfl
        rw [hd] at h
        exact h
      refine hK.out _ _ (g_trans hHeld (g_alloc (g_refl wc1 none) (.cells #[.int .i64 most, .slice vo vn vc, .int .u32 0, .int .i32 0, .int .u32 0, .map none] 64))) (fun hHeld => ?_)
      clear hK K
      try simp only [Act.put, List.setIfInBounds_toArray, List.set_cons_zero, List.set_cons_succ, List.getElem_toArray, List.getElem_cons_zero, List.getElem_cons_succ]
      refine wpAnyH_take (i := 11) (v := .pointer (some ⟨wc1.heap.size, 0, none⟩)) rfl (by kernel_rfl) (by kernel_rfl) (by kernel_rfl) (fun _ _ _ h => h) (Or.inl ⟨by rfl, fun w hw => by clear hw; go_simp⟩) hHeld ?_
      try simp only [Act.put, List.setIfInBounds_toArray, List.set_cons_zero, List.set_cons_succ, List.getElem_toArray, List.getElem_cons_zero, List.getElem_cons_succ]
      refine wpAnyH_done (by kernel_rfl) ?_ _
      go_wp2_with fail
      go_ret
      refine ⟨wc1.heap.size, rfl, ⟨hsz, .slice vo vn vc, 0, .map none, HBX.out, ?_, ⟨fun e => ?_, fun g e => (hlb g e).1⟩, HD.out, .inl rfl⟩, hHeld⟩
      · exact own_mono HOX.out (Nat.zero_le _)
      · have := (hlb _ e).2; omega

set_option maxHeartbeats 1600000 in
theorem rnew_any (most : Int) (w : World) : Calls Try.prog 12 #[.int .i64 most] w fun e w' => e = .returned (.tuple #[.agg #[.int .i64 (if newP most then most else 0), .slice none 0 0], .int .i64 (if newP most then 0 else 1)]) ∧ w.grownBy w' none := by
  have hcs : (most < 1) ∨ (¬ most < 1 ∧ 4096 < most) ∨ (¬ most < 1 ∧ ¬ 4096 < most) := by omega
  rcases hcs with h1 | ⟨h1, h2⟩ | ⟨h1, h2⟩
  rotate_right 1
  · rw [show newP most = true from decide_eq_true (by omega)]
    have hF := Blk.new w #[.int .i64 most, .slice none 0 0] 40
    have k0 := hF.cell 0 (.int .i64 most) rfl
    have k1 := hF.cell 1 (.slice none 0 0) rfl
    go_enter Try.func12, Try.ntmps12
    go_wp2_with fail
    exact bodyPost_ret (v := .tuple #[.agg #[.int .i64 most, .slice none 0 0], .int .i64 0]) (by simp [results, Try.results12, go_sem, k0, k1]) rfl ⟨by simp, g_alloc (g_refl _ _) _⟩
  all_goals
    rw [show newP most = false from decide_eq_false (by omega)]
    have hF := Blk.new w #[.int .i64 0, .slice none 0 0] 40
    have k0 := hF.cell 0 (.int .i64 0) rfl
    have k1 := hF.cell 1 (.slice none 0 0) rfl
    go_enter Try.func12, Try.ntmps12
    go_wp2_with fail
    exact bodyPost_ret (v := .tuple #[.agg #[.int .i64 0, .slice none 0 0], .int .i64 1]) (by simp [results, Try.results12, go_sem, k0, k1]) rfl ⟨by simp, g_alloc (g_refl _ _) _⟩

set_option maxRecDepth 100000 in
set_option maxHeartbeats 3200000 in
theorem rhas_any (most : Int) (ao : Option Addr) (n c : Nat) (L : List (Int × Int)) (k : Int) (w : World) (hs : SRow w ao L) (hn : L.length = n) (h5 : n < 100000) :
    Calls Try.prog 16 #[.agg #[.int .i64 most, .slice ao n c], .int .i64 k] w fun e w' => e = .returned (.tuple #[.int .i64 (hasP L k).1, .bool (hasP L k).2]) ∧ w.grownBy w' none := by
  have HS := Lib.hid hs
  have HN := Lib.hid hn
  have GA := Lib.hid (g_alloc (g_refl w none) (.cells #[.int .i64 most, .slice ao n c] 40))
  have XB := Lib.hid (Blk.new w #[.int .i64 most, .slice ao n c] 40)
  obtain ⟨hp, hhp⟩ : ∃ hp, hasP L k = hp := ⟨_, rfl⟩
  rw [hhp]
  have HHP := Lib.hid hhp
  clear hs hn hhp
  go_enter Try.func16, Try.ntmps16
  go_wp2_with fail
  generalize w.alloc (.cells #[.int .i64 most, .slice ao n c] 40) = W1 at *
  go_loopw [6] (fun i wr => ∃ j : Nat, i = .int .i64 j ∧ j ≤ n ∧ (∀ t p, t < j → L[t]? = some p → p.1 ≠ k) ∧ wr = W1) (fun i _ => (n - intOf i).toNat)
  case atStart => exact ⟨0, rfl, Nat.zero_le _, fun t p h => absurd h (Nat.not_lt_zero _), rfl⟩
  case round =>
    obtain ⟨j, rfl, hj, hno, rfl⟩ := hrel
    have y1 := XB.out.cell 1 _ rfl
    by_cases hlt : j < n
    · have hji : (j : Int) < n := by omega
      have hjj : ¬ (n : Int) ≤ j := by omega
      have hjj2 : ¬ n ≤ j := by omega
      obtain ⟨p, hpj⟩ : ∃ p, L[j]? = some p := ⟨L[j]'(by rw [HN.out]; exact hlt), List.getElem?_eq_getElem _⟩
      obtain ⟨b, off, rfl, z0, z1⟩ := HS.out.keep GA.out j p hpj
      have HNO := Lib.hid hno
      have HPJ := Lib.hid hpj
      obtain ⟨p1, p2⟩ := p
      simp only at z0 z1
      clear hno hpj
      by_cases he : p1 = k
      · have hv : Hid (hp = (p2, true)) := Lib.hid (by
          rw [← HHP.out]
          unfold hasP
          rw [show L.find? (fun p => decide (p.1 = k)) = some (p1, p2) from by
            rw [List.find?_eq_some_iff_getElem]
            refine ⟨by simpa using he, j, (List.getElem?_eq_some_iff.1 HPJ.out).1, (List.getElem?_eq_some_iff.1 HPJ.out).2, fun t ht => ?_⟩
            have := HNO.out t _ ht (List.getElem?_eq_getElem (by rw [HN.out]; omega))
            simpa using this])
        have e1 : (p1 == k) = true := by simp [he]
        clear he
        go_wp2_with fail
        go_ret2
        exact ⟨by rw [hv.out]; rfl, GA.out⟩
      · have e1 : (p1 == k) = false := by simp [he]
        have HE := Lib.hid he
        clear he
        go_wp2_with fail
        go_roundw
        case rel => exact ⟨j + 1, by go_num, by omega, fun t p ht hp => by
          rcases Nat.lt_or_ge t j with h | h
          · exact HNO.out t p h hp
          · obtain rfl : t = j := by omega
            rw [HPJ.out] at hp
            cases hp
            exact HE.out, by simp⟩
        case measure => simp [intOf]; omega
    · obtain rfl : j = n := by omega
      have hjj : ¬ (j : Int) < j := by omega
      have hv : Hid (hp = (0, false)) := Lib.hid (by
        rw [← HHP.out]
        refine hasP_no ?_
        rintro ⟨p, hp, he⟩
        obtain ⟨t, ht⟩ := List.mem_iff_getElem?.1 hp
        exact hno t p (by have := (List.getElem?_eq_some_iff.1 ht).1; rw [HN.out] at this; exact this) ht he)
      clear hno
      go_wp2_with fail
      go_ret2
      exact ⟨by rw [hv.out]; rfl, GA.out⟩
end Go.Proofs.Ytbaocimmpiojeaa
