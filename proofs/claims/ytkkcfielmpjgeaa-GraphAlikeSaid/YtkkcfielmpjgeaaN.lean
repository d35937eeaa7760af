/- New names. -/
import Derived.Test.YtkkcfielmpjgeaaL
import Derived.Laws.BitsLemmas
namespace Go.Proofs.Ytkkcfielmpjgeaa
open Go.RowKit
set_option linter.unusedVariables false
set_option linter.unusedSimpArgs false

/-- how a value reads, as a map's element -/
def valElem : Value → Option (DataW Unit × List MemPlace)
  | .agg cs => match cs.toList with
    | [.int .i64 a, .int .i64 b] => some (.agg [.lit (.int .i64 a), .lit (.int .i64 b)], [])
    | _ => none
  | _ => none
theorem valElem_mk (a b : Int) : valElem (.agg #[.int .i64 a, .int .i64 b]) = some (.agg [.lit (.int .i64 a), .lit (.int .i64 b)], []) := rfl
theorem valElem_inv {v : Value} {z : DataW Unit × List MemPlace} (h : valElem v = some z) : ∃ a b, v = .agg #[.int .i64 a, .int .i64 b] ∧ z = (.agg [.lit (.int .i64 a), .lit (.int .i64 b)], []) := by
  unfold valElem at h
  split at h
  · rename_i cs
    split at h
    · rename_i a b e
      cases h
      refine ⟨a, b, ?_, rfl⟩
      congr 1
      apply Array.ext'
      simpa using e
    · cases h
  · cases h
theorem zv25 (w : World) : (zeroValue 25).run Try.prog w = .ok (.agg #[.int .i64 0, .int .i64 0]) w := by kernel_rfl
def VE (v : VV) : DataW Unit := .agg [.lit (.int .i64 v.1), .lit (.int .i64 v.2)]
theorem VE_inj {a b : VV} (h : VE a = VE b) : a = b := by
  unfold VE at h
  simp at h
  exact Prod.ext h.1 h.2
/-- block m is a map from values to values -/
def VMap (w : World) (m N : Nat) (f : VV → Option VV) : Prop :=
  ∃ n D, w.ownsMap Try.prog 25 valElem m n D ∧ n ≤ N ∧ ∀ v, WV v → Maps.has D (kl v) = (f v).isSome ∧ D.atKey (kl v) (VE (0, 0)) = VE ((f v).getD (0, 0))
theorem VMap.keep {w w' : World} {m N : Nat} {f : VV → Option VV} {row : Option Nat} (h : VMap w m N f) (g : w.grownBy w' row) (hne : some m ≠ row) : VMap w' m N f := by
  obtain ⟨n, D, h1, h2⟩ := h
  exact ⟨n, D, h1.kept g hne, h2⟩
theorem VMap.look {w : World} {m N : Nat} {f : VV → Option VV} (h : VMap w m N f) (v : VV) (hv : WV v) :
    (Instr.lookup 57 (.map (some m)) (.agg #[.int .i64 v.1, .int .i64 v.2]) true).run Try.prog w = .ok (.tuple #[.agg #[.int .i64 ((f v).getD (0, 0)).1, .int .i64 ((f v).getD (0, 0)).2], .bool (f v).isSome]) w := by
  obtain ⟨n, D, h1, h2, h3⟩ := h
  obtain ⟨x, ps, hr, hx⟩ := h1.look_ok keyed25 Try.underlying57 (zv25 w) (valElem_mk 0 0) (key25 v hv)
  obtain ⟨a, b, rfl, ha⟩ := valElem_inv hx
  simp only [Prod.mk.injEq] at ha
  rw [(h3 v hv).1] at hr
  have e : VE ((f v).getD (0, 0)) = VE (a, b) := (h3 v hv).2.symm.trans ha.1
  rw [VE_inj e]
  exact hr
theorem VMap.put {w' : World} {m N n : Nat} {D : DataW Unit} {f : VV → Option VV} {k x : VV} (hn : n ≤ N) (hm : Maps.IsMap D) (hk : WV k)
    (h3 : ∀ v, WV v → Maps.has D (kl v) = (f v).isSome ∧ D.atKey (kl v) (VE (0, 0)) = VE ((f v).getD (0, 0)))
    (ho : w'.ownsMap Try.prog 25 valElem m (n + 1) (D.put (kl k) (VE x))) : VMap w' m (N + 1) (fun v => if v = k then some x else f v) := by
  refine ⟨n + 1, _, ho, by omega, fun v hv => ?_⟩
  by_cases e : v = k
  · subst e
    rw [Maps.has_put_same hm (kl_key v), Maps.atKey_put_same hm (kl_key v)]
    simp
  · rw [Maps.has_put_other (kl_ne hv hk e), Maps.atKey_put_other (kl_ne hv hk e)]
    simpa [e] using h3 v hv
theorem VMap.nil {w : World} {m : Nat} (h : w.ownsMap Try.prog 25 valElem m 0 (.map [])) : VMap w m 0 (fun _ => none) :=
  ⟨0, _, h, Nat.le_refl _, fun v _ => by simp [Maps.has, DataW.atKey]⟩

theorem two {w : World} {y : Nat} {p q : Value} (h : Blk w y #[p, q] 25) (a b : Value) : Blk ((w.setCell ⟨y, 0, none⟩ a).setCell ⟨y, 1, none⟩ b) y #[a, b] 25 := by simpa using (h.set 0 a).set 1 b
theorem g_two2 (w : World) (y : Nat) (a b : Value) : w.grownBy ((w.setCell ⟨y, 0, none⟩ a).setCell ⟨y, 1, none⟩ b) (some y) := g_set (g_set (g_refl w (some y)) (p := ⟨y, 0, none⟩) (.inl rfl) a) (p := ⟨y, 1, none⟩) (.inl rfl) b
set_option maxRecDepth 100000 in
theorem of_any (g a : Int) (h0 : 1 ≤ g) (h1 : g ≤ 1073741824) (h2 : 1 ≤ a) (h3 : a ≤ 1048575) (w : World) : Calls Try.prog 35 #[.int .i64 g, .int .i64 a] w fun e w' => e = .returned (.tuple #[.agg #[.int .i64 2, .int .i64 (g * 1048576 + a)], .int .i64 0]) ∧ w.grownBy w' none := by
  have b1 : ¬ g < 1 := by omega
  have b2 : ¬ (1073741824 : Int) < g := by omega
  have b3 : ¬ a < 1 := by omega
  have b4 : ¬ (1048575 : Int) < a := by omega
  have hb : bits .or .i64 (g * 1048576) a = g * 1048576 + a := bits_join .i64 62 (by decide) (fun n h0 h1 => by rw [IntKind.wrap_i64]; omega) 20 (g * 1048576) a (by omega) (by omega) (by omega) (by omega) (by omega) (by omega)
  have ga := g_alloc (g_refl w none) (.cells #[.int .i64 2, .int .i64 (g * 1048576 + a)] 25)
  have B := Blk.new w #[.int .i64 2, .int .i64 (g * 1048576 + a)] 25
  have c0 := B.cell 0 (.int .i64 2) rfl
  have c1 := B.cell 1 (.int .i64 (g * 1048576 + a)) rfl
  have G := Lib.hid ga
  have HBI := Lib.hid hb
  clear B ga hb
  go_enter Try.func35, Try.ntmps35
  go_wp2_with fail
  rw [HBI.out]
  exact bodyPost_ret (v := .tuple #[.agg #[.int .i64 2, .int .i64 (g * 1048576 + a)], .int .i64 0]) (by simp [results, Try.results35, go_sem, c0, c1]) rfl ⟨rfl, G.out⟩
set_option maxRecDepth 100000 in
theorem named_any (n : Int) (h0 : 1 ≤ n) (h1 : n ≤ 1000) (w : World) : Calls Try.prog 22 #[.int .i64 n] w fun e w' => e = .returned (.agg #[.int .i64 2, .int .i64 (1048576 + n)]) ∧ w.grownBy w' none := by
  have ga := g_alloc (g_refl w none) (.cells #[.int .i64 0, .int .i64 0] 25)
  have HB := Lib.hid (Blk.new w #[.int .i64 0, .int .i64 0] 25)
  have HO := Lib.hid (of_any 1 n (by omega) (by omega) h0 (by omega) (w.alloc (.cells #[.int .i64 0, .int .i64 0] 25)))
  have HG := Lib.hid ga
  clear ga
  obtain ⟨y, hy⟩ : ∃ y, w.heap.size = y := ⟨_, rfl⟩
  rw [hy] at HB
  have e1 : (1 : Int) * 1048576 + n = 1048576 + n := by omega
  rw [e1] at HO
  clear e1
  go_enter Try.func22, Try.ntmps22
  go_wp2_with fail
  refine HO.out.mono ?_
  rintro e w1 ⟨rfl, g1⟩
  have HBN := Lib.hid (Blk.new w1 #[.int .i64 2, .int .i64 (1048576 + n)] 25)
  have gb := g_alloc (g_refl w1 none) (.cells #[.int .i64 2, .int .i64 (1048576 + n)] 25)
  have HB1 := Lib.hid (HB.out.keepn g1)
  have HB2 := Lib.hid (HB1.out.keepn gb)
  have hlt := HB1.out.lt
  have hne : ¬ y = w1.heap.size := by omega
  have x0 := HBN.out.cell 0 (.int .i64 2) rfl
  have x1 := HBN.out.cell 1 (.int .i64 (1048576 + n)) rfl
  have c0 := HB1.out.cell 0 (.int .i64 0) rfl
  have c1 := HB1.out.cell 1 (.int .i64 0) rfl
  have f0 := HB1.out.free 0
  have f1 := HB1.out.free 1
  have hT := two HB1.out (.int .i64 2) (.int .i64 (1048576 + n))
  have gT := g_two2 w1 y (.int .i64 2) (.int .i64 (1048576 + n))
  have gA := g_alloc (g_refl ((w1.setCell ⟨y, 0, none⟩ (.int .i64 2)).setCell ⟨y, 1, none⟩ (.int .i64 (1048576 + n))) none) (.cells #[.int .i64 2, .int .i64 (1048576 + n)] 25)
  have HT := Lib.hid (hT.keepn gA)
  have G1 := Lib.hid (g_then (g_in (g_trans HG.out g1) gT (by omega)) gA)
  clear g1 gb hT gT gA
  go_wp2_with fail
  have k0 := HT.out.cell 0 (.int .i64 2) rfl
  have k1 := HT.out.cell 1 (.int .i64 (1048576 + n)) rfl
  exact bodyPost_ret (v := .agg #[.int .i64 2, .int .i64 (1048576 + n)]) (by simp [results, Try.results22, go_sem, k0, k1]) rfl ⟨rfl, G1.out⟩
set_option maxRecDepth 100000 in
theorem gone_any (w : World) : Calls Try.prog 25 #[] w fun e w' => e = .returned (.agg #[.int .i64 2, .int .i64 1125899906842625]) ∧ w.grownBy w' none := by
  have ga := g_alloc (g_refl w none) (.cells #[.int .i64 0, .int .i64 0] 25)
  have HB := Lib.hid (Blk.new w #[.int .i64 0, .int .i64 0] 25)
  have HO := Lib.hid (of_any 1073741824 1 (by omega) (by omega) (by omega) (by omega) (w.alloc (.cells #[.int .i64 0, .int .i64 0] 25)))
  have HG := Lib.hid ga
  clear ga
  obtain ⟨y, hy⟩ : ∃ y, w.heap.size = y := ⟨_, rfl⟩
  rw [hy] at HB
  have e1 : (1073741824 : Int) * 1048576 + 1 = 1125899906842625 := by omega
  rw [e1] at HO
  clear e1
  go_enter Try.func25, Try.ntmps25
  go_wp2_with fail
  refine HO.out.mono ?_
  rintro e w1 ⟨rfl, g1⟩
  have HBN := Lib.hid (Blk.new w1 #[.int .i64 2, .int .i64 1125899906842625] 25)
  have HB1 := Lib.hid (HB.out.keepn g1)
  have hlt := HB1.out.lt
  have hne : ¬ y = w1.heap.size := by omega
  have x0 := HBN.out.cell 0 (.int .i64 2) rfl
  have x1 := HBN.out.cell 1 (.int .i64 1125899906842625) rfl
  have c0 := HB1.out.cell 0 (.int .i64 0) rfl
  have c1 := HB1.out.cell 1 (.int .i64 0) rfl
  have f0 := HB1.out.free 0
  have f1 := HB1.out.free 1
  have hT := two HB1.out (.int .i64 2) (.int .i64 1125899906842625)
  have gT := g_two2 w1 y (.int .i64 2) (.int .i64 1125899906842625)
  have gA := g_alloc (g_refl ((w1.setCell ⟨y, 0, none⟩ (.int .i64 2)).setCell ⟨y, 1, none⟩ (.int .i64 1125899906842625)) none) (.cells #[.int .i64 2, .int .i64 1125899906842625] 25)
  have HT := Lib.hid (hT.keepn gA)
  have G1 := Lib.hid (g_then (g_in (g_trans HG.out g1) gT (by omega)) gA)
  clear g1 hT gT gA
  go_wp2_with fail
  have k0 := HT.out.cell 0 (.int .i64 2) rfl
  have k1 := HT.out.cell 1 (.int .i64 1125899906842625) rfl
  exact bodyPost_ret (v := .agg #[.int .i64 2, .int .i64 1125899906842625]) (by simp [results, Try.results25, go_sem, k0, k1]) rfl ⟨rfl, G1.out⟩

/-- a value under new names -/
def asP (f : VV → Option VV) (v : VV) : VV := match f v with
  | some x => x
  | none => if v.1 = 2 ∧ v.2 ≠ 0 then (2, 1125899906842625) else v
set_option maxRecDepth 100000 in
set_option maxHeartbeats 1600000 in
theorem as_any (pn m N : Nat) (f : VV → Option VV) (v1 v2 : Int) (w : World) (hc : w.cell? ⟨pn, 0, none⟩ = some (.map (some m))) (hM : VMap w m N f) (hv : WV (v1, v2)) :
    Calls Try.prog 23 #[.agg #[.int .i64 v1, .int .i64 v2], .pointer (some ⟨pn, 0, none⟩)] w fun e w' => e = .returned (.agg #[.int .i64 (asP f (v1, v2)).1, .int .i64 (asP f (v1, v2)).2]) ∧ w.grownBy w' none := by
  have hnot : ∀ (x : Bool) (w : World), (Op.unary .not (.bool x)).run Try.prog w = .ok (.bool (!x)) w := fun _ _ => rfl
  have ga := g_alloc (g_refl w none) (.cells #[.int .i64 v1, .int .i64 v2] 25)
  have gb := g_alloc (g_refl (w.alloc (.cells #[.int .i64 v1, .int .i64 v2] 25)) none) (.cells #[.int .i64 0, .int .i64 0] 25)
  have HX := Lib.hid ((Blk.new w #[.int .i64 v1, .int .i64 v2] 25).keepn gb)
  have HY := Lib.hid (Blk.new (w.alloc (.cells #[.int .i64 v1, .int .i64 v2] 25)) #[.int .i64 0, .int .i64 0] 25)
  have HG := Lib.hid (g_trans ga gb)
  have c := HG.out.cell hc (by simp)
  have hlook := (hM.keep HG.out (by simp)).look (v1, v2) hv
  have hsy : (w.alloc (.cells #[.int .i64 v1, .int .i64 v2] 25)).heap.size = w.heap.size + 1 := by simp
  rw [hsy] at HY
  simp only at hlook
  clear ga gb hc hM hv hsy
  obtain ⟨x, hx⟩ : ∃ x, w.heap.size = x := ⟨_, rfl⟩
  rw [hx] at HX HY
  have hWs : ((w.alloc (.cells #[.int .i64 v1, .int .i64 v2] 25)).alloc (.cells #[.int .i64 0, .int .i64 0] 25)).heap.size = x + 2 := by simp; omega
  have v0 := HX.out.cell 0 (.int .i64 v1) rfl
  have v1c := HX.out.cell 1 (.int .i64 v2) rfl
  have hxy : ¬ x = x + 1 := by omega
  rcases hf : f (v1, v2) with _ | r
  · rw [hf] at hlook
    simp only [Option.getD_none, Option.isSome_none] at hlook
    have HF := Lib.hid hf
    clear hf
    by_cases h1 : v1 = 2
    · subst h1
      by_cases h2 : v2 = 0
      · subst h2
        have e : asP f (2, 0) = (2, 0) := by simp [asP, HF.out]
        rw [e]
        go_enter Try.func23, Try.ntmps23
        go_upto_region 1 with fail
        generalize (w.alloc (.cells #[.int .i64 2, .int .i64 0] 25)).alloc (.cells #[.int .i64 0, .int .i64 0] 25) = W at *
        have gZ := g_alloc (g_refl W none) (.cells #[.int .i64 0, .int .i64 0] 25)
        have HY1 := Lib.hid (HY.out.keepn gZ)
        have HX1 := Lib.hid (HX.out.keepn gZ)
        have HG1 := Lib.hid (g_trans HG.out gZ)
        have a0 := HX1.out.cell 0 (.int .i64 2) rfl
        have a1 := HX1.out.cell 1 (.int .i64 0) rfl
        clear gZ
        go_wp2_with fail
        refine (isnil_any 2 0 true rfl _).mono ?_
        rintro e w2 ⟨rfl, g2⟩
        have HY2 := Lib.hid (HY1.out.keepn g2)
        have HX2 := Lib.hid (HX1.out.keepn g2)
        have HG2 := Lib.hid (g_trans HG1.out g2)
        have d0 := HX2.out.cell 0 (.int .i64 2) rfl
        have d1 := HX2.out.cell 1 (.int .i64 0) rfl
        clear g2 a0 a1 v0 v1c
        have c0 := HY2.out.cell 0 (.int .i64 0) rfl
        have c1 := HY2.out.cell 1 (.int .i64 0) rfl
        have f0 := HY2.out.free 0
        have f1 := HY2.out.free 1
        have hT := two HY2.out (.int .i64 2) (.int .i64 0)
        have gT := g_two2 w2 (x + 1) (.int .i64 2) (.int .i64 0)
        have HT := Lib.hid hT
        have GF := Lib.hid (g_in HG2.out gT (by omega))
        clear hT gT
        go_wp2_with fail
        have k0 := HT.out.cell 0 (.int .i64 2) rfl
        have k1 := HT.out.cell 1 (.int .i64 0) rfl
        exact bodyPost_ret (v := .agg #[.int .i64 2, .int .i64 0]) (by simp [results, Try.results23, go_sem, k0, k1]) rfl ⟨rfl, GF.out⟩
      · have e : asP f (2, v2) = (2, 1125899906842625) := by simp [asP, HF.out, h2]
        rw [e]
        go_enter Try.func23, Try.ntmps23
        go_upto_region 1 with fail
        generalize (w.alloc (.cells #[.int .i64 2, .int .i64 v2] 25)).alloc (.cells #[.int .i64 0, .int .i64 0] 25) = W at *
        have gZ := g_alloc (g_refl W none) (.cells #[.int .i64 0, .int .i64 0] 25)
        have HY1 := Lib.hid (HY.out.keepn gZ)
        have HX1 := Lib.hid (HX.out.keepn gZ)
        have HG1 := Lib.hid (g_trans HG.out gZ)
        have a0 := HX1.out.cell 0 (.int .i64 2) rfl
        have a1 := HX1.out.cell 1 (.int .i64 v2) rfl
        clear gZ
        go_wp2_with fail
        refine (isnil_any 2 v2 false (by simp [h2]) _).mono ?_
        rintro e w2 ⟨rfl, g2⟩
        have HY2 := Lib.hid (HY1.out.keepn g2)
        have HG2 := Lib.hid (g_trans HG1.out g2)
        clear g2 a0 a1 v0 v1c
        go_wp2_with fail
        refine (gone_any _).mono ?_
        rintro e w3 ⟨rfl, g3⟩
        have HY3 := Lib.hid (HY2.out.keepn g3)
        have HG3 := Lib.hid (g_trans HG2.out g3)
        clear g3
        have c0 := HY3.out.cell 0 (.int .i64 0) rfl
        have c1 := HY3.out.cell 1 (.int .i64 0) rfl
        have f0 := HY3.out.free 0
        have f1 := HY3.out.free 1
        have hT := two HY3.out (.int .i64 2) (.int .i64 1125899906842625)
        have gT := g_two2 w3 (x + 1) (.int .i64 2) (.int .i64 1125899906842625)
        have HT := Lib.hid hT
        have GF := Lib.hid (g_in HG3.out gT (by omega))
        clear hT gT
        go_wp2_with fail
        have k0 := HT.out.cell 0 (.int .i64 2) rfl
        have k1 := HT.out.cell 1 (.int .i64 1125899906842625) rfl
        exact bodyPost_ret (v := .agg #[.int .i64 2, .int .i64 1125899906842625]) (by simp [results, Try.results23, go_sem, k0, k1]) rfl ⟨rfl, GF.out⟩
    · have e : asP f (v1, v2) = (v1, v2) := by simp [asP, HF.out, h1]
      rw [e]
      go_enter Try.func23, Try.ntmps23
      go_upto_region 1 with fail
      generalize (w.alloc (.cells #[.int .i64 v1, .int .i64 v2] 25)).alloc (.cells #[.int .i64 0, .int .i64 0] 25) = W at *
      have gZ := g_alloc (g_refl W none) (.cells #[.int .i64 0, .int .i64 0] 25)
      have HY1 := Lib.hid (HY.out.keepn gZ)
      have HX1 := Lib.hid (HX.out.keepn gZ)
      have HG1 := Lib.hid (g_trans HG.out gZ)
      have a0 := HX1.out.cell 0 (.int .i64 v1) rfl
      have a1 := HX1.out.cell 1 (.int .i64 v2) rfl
      clear gZ
      have c0 := HY.out.cell 0 (.int .i64 0) rfl
      have c1 := HY.out.cell 1 (.int .i64 0) rfl
      have f0 := HY.out.free 0
      have f1 := HY.out.free 1
      have hT := two HY.out (.int .i64 v1) (.int .i64 v2)
      have gT := g_two2 W (x + 1) (.int .i64 v1) (.int .i64 v2)
      have gA := g_alloc (g_refl ((W.setCell ⟨x + 1, 0, none⟩ (.int .i64 v1)).setCell ⟨x + 1, 1, none⟩ (.int .i64 v2)) none) (.cells #[.int .i64 0, .int .i64 0] 25)
      have HT := Lib.hid (hT.keepn gA)
      have GF := Lib.hid (g_then (g_in HG.out gT (by omega)) gA)
      clear hT gT gA
      go_wp2_with fail
      have k0 := HT.out.cell 0 (.int .i64 v1) rfl
      have k1 := HT.out.cell 1 (.int .i64 v2) rfl
      exact bodyPost_ret (v := .agg #[.int .i64 v1, .int .i64 v2]) (by simp [results, Try.results23, go_sem, k0, k1]) rfl ⟨rfl, GF.out⟩
  · obtain ⟨r1, r2⟩ := r
    have e : asP f (v1, v2) = (r1, r2) := by simp [asP, hf]
    rw [e]
    rw [hf] at hlook
    simp only [Option.getD_some, Option.isSome_some] at hlook
    clear e hf
    go_enter Try.func23, Try.ntmps23
    go_upto_region 1 with fail
    generalize (w.alloc (.cells #[.int .i64 v1, .int .i64 v2] 25)).alloc (.cells #[.int .i64 0, .int .i64 0] 25) = W at *
    have HN := Lib.hid (Blk.new W #[.int .i64 r1, .int .i64 r2] 25)
    rw [hWs] at HN
    have n0 := HN.out.cell 0 (.int .i64 r1) rfl
    have n1 := HN.out.cell 1 (.int .i64 r2) rfl
    have c0 := HY.out.cell 0 (.int .i64 0) rfl
    have c1 := HY.out.cell 1 (.int .i64 0) rfl
    have f0 := HY.out.free 0
    have f1 := HY.out.free 1
    have hT := two HY.out (.int .i64 r1) (.int .i64 r2)
    have gT := g_two2 W (x + 1) (.int .i64 r1) (.int .i64 r2)
    have gA := g_alloc (g_refl ((W.setCell ⟨x + 1, 0, none⟩ (.int .i64 r1)).setCell ⟨x + 1, 1, none⟩ (.int .i64 r2)) none) (.cells #[.int .i64 r1, .int .i64 r2] 25)
    have HT := Lib.hid (hT.keepn gA)
    have G1 := Lib.hid (g_then (g_in HG.out gT (by omega)) gA)
    clear hT gT gA
    go_wp2_with fail
    have k0 := HT.out.cell 0 (.int .i64 r1) rfl
    have k1 := HT.out.cell 1 (.int .i64 r2) rfl
    exact bodyPost_ret (v := .agg #[.int .i64 r1, .int .i64 r2]) (by simp [results, Try.results23, go_sem, k0, k1]) rfl ⟨rfl, G1.out⟩
end Go.Proofs.Ytkkcfielmpjgeaa
