/- The walk through what refers to what: small parts. -/
import Derived.Test.YtkkcfielmpjgeaaB
namespace Go.Proofs.Ytkkcfielmpjgeaa
open Go.RowKit
set_option linter.unusedVariables false
set_option linter.unusedSimpArgs false

theorem Blk.range {w : World} {b : Nat} {xs : Array Value} {T : TypeId} (h : Blk w b xs T) : w.rangeAt b 0 xs.toList := fun j v hv => by
  rw [Nat.zero_add]; exact h.cell j v (by simpa using hv)
theorem Blk.there {w : World} {b : Nat} {xs : Array Value} {T : TypeId} (h : Blk w b xs T) : w.there b 0 xs.size := fun j hj => by
  rw [Nat.zero_add, h.cell j xs[j] (by simp [hj])]; exact ⟨rfl, h.free j⟩
theorem blk_setCells {b : Nat} {T : TypeId} : ∀ (vs : List Value) (o : Nat) (w : World) (xs : Array Value), Blk w b xs T → o + vs.length ≤ xs.size →
    ∃ ys, Blk (w.setCells b o vs) b ys T ∧ ys.size = xs.size ∧ (∀ i, i < o → ys[i]? = xs[i]?) ∧ (∀ j v, vs[j]? = some v → ys[o + j]? = some v)
  | [], o, w, xs, h, _ => ⟨xs, h, rfl, fun _ _ => rfl, fun j v hv => by simp at hv⟩
  | v :: r, o, w, xs, h, hs => by
    rw [World.setCells]
    simp only [List.length_cons] at hs
    obtain ⟨ys, h1, h2, h3, h4⟩ := blk_setCells r (o + 1) _ _ (h.set o v) (by simp; omega)
    refine ⟨ys, h1, by simpa using h2, fun i hi => ?_, fun j u hu => ?_⟩
    · rw [h3 i (by omega), Array.getElem?_setIfInBounds_ne (by omega)]
    · cases j with
      | zero =>
        simp at hu
        subst hu
        rw [Nat.add_zero, h3 o (by omega)]
        have : o < xs.size := by omega
        simp [this]
      | succ j =>
        have := h4 j u (by simpa using hu)
        rw [← this]; congr 1; omega
theorem Blk.setAll {w : World} {b : Nat} {xs : Array Value} {T : TypeId} (h : Blk w b xs T) (zs : Array Value) (hz : zs.size = xs.size) : Blk (w.setCells b 0 zs.toList) b zs T := by
  obtain ⟨ys, h1, h2, _, h4⟩ := blk_setCells zs.toList 0 w xs h (by simp [hz])
  have : ys = zs := by
    apply Array.ext (by omega)
    intro i hi hi'
    have := h4 i zs[i] (by simp [hi'])
    rw [Nat.zero_add] at this
    exact (Array.getElem?_eq_some_iff.1 this).2
  rw [← this]
  rw [this] at h1
  subst this
  exact h1
theorem g_setAll (b : Nat) : ∀ (vs : List Value) (o : Nat) (a w : World), a.grownBy w (some b) → a.grownBy (w.setCells b o vs) (some b)
  | [], _, _, _, h => h
  | v :: r, o, a, w, h => by
    rw [World.setCells]
    exact g_setAll b r (o + 1) a _ (g_set h (p := ⟨b, o, none⟩) (.inl rfl) v)
theorem step_mapUpdate_own {H : Type} {P : Program} {w : World} {ops : Array Oper} {o : Oper} {a : Act} {K : Act → World → Prop} {Q : Exit → Act → World → Prop} {E : Prop} (hgd : o.guard = none) (m x v : Operand) (t : TypeId) (hop : o.op = Op.mapUpdate t m x v)
    (k e : TypeId) (Ky : Maps.Keyed P k) (ht : P.underlying t = some (.map k e)) (R : Value → Option (DataW H × List MemPlace)) (b n : Nat) (D : DataW H)
    (hm : a.eval m = .map (some b)) (hown : w.ownsMap P k R b n D) (hn : n < maxLen) (key val : Value) (kl : Lit) (hx : a.eval x = key) (hv : a.eval v = val) (hkey : keyOf P k key = some kl)
    (d : DataW H) (ps : List MemPlace) (hval : R val = some (d, ps))
    (hK : ∀ w', w'.ownsMap P k R b (n + 1) (D.put kl d) → w.grownBy w' (some b) → K (a.put o.dst undef) w') :
    if Region.wanted o (yielded ops a.tmps) = true then Oper.wp P o a w K Q else E := by
  have hw : Region.wanted o (yielded ops a.tmps) = true := by simp [Region.wanted, hgd]
  rw [if_pos hw]
  obtain ⟨w', hrun, r1, r2⟩ := hown.update Ky ht hn hkey hval
  unfold Oper.wp
  simp [execOp, hop, hm, hx, hv, hrun, Result.andThen]
  exact hK w' r1 r2


theorem eq2 (d : Nat) (a b c e : Int) (w : World) : (Op.equalIn (d + 2) 25 (.agg #[.int .i64 a, .int .i64 b]) (.agg #[.int .i64 c, .int .i64 e])).run Try.prog w = .ok (a == c && b == e) w := by
  rw [run_equalIn_struct w (d + 1) 25 _ _ (by kernel_rfl) (by kernel_rfl)]
  simp [Program.fieldsOf, Op.eqFields, go_sem]
  by_cases h1 : a = c <;> by_cases h2 : b = e <;> simp [h1, h2]
theorem nil_any (w : World) : Calls Try.prog 36 #[] w fun e w' => e = .returned (.agg #[.int .i64 2, .int .i64 0]) ∧ w.grownBy w' none := by
  have g := g_alloc (g_refl w none) (.cells #[.int .i64 2, .int .i64 0] 25)
  have B := Blk.new w #[.int .i64 2, .int .i64 0] 25
  have c0 := B.cell 0 _ rfl
  have c1 := B.cell 1 _ rfl
  have G := Lib.hid g
  clear B g
  go_enter Try.func36, Try.ntmps36
  go_wp2_with fail
  exact bodyPost_ret (v := .agg #[.int .i64 2, .int .i64 0]) (by simp [results, Try.results36, go_sem, c0, c1]) rfl ⟨rfl, G.out⟩
theorem rnil_any (w : World) : Calls Try.prog 20 #[] w fun e w' => e = .returned (.agg #[.int .i64 2, .int .i64 0]) ∧ w.grownBy w' none := by
  have g := g_alloc (g_refl w none) (.cells #[.int .i64 2, .int .i64 0] 25)
  have B := Blk.new w #[.int .i64 2, .int .i64 0] 25
  have c0 := B.cell 0 _ rfl
  have c1 := B.cell 1 _ rfl
  have G := Lib.hid g
  clear B g
  go_enter Try.func20, Try.ntmps20
  go_wp2_with fail
  exact bodyPost_ret (v := .agg #[.int .i64 2, .int .i64 0]) (by simp [results, Try.results20, go_sem, c0, c1]) rfl ⟨rfl, G.out⟩
set_option maxRecDepth 100000 in
theorem isnil_any (v1 v2 : Int) (r : Bool) (hr : decide (v1 = 2 ∧ v2 = 0) = r) (w : World) : Calls Try.prog 24 #[.agg #[.int .i64 v1, .int .i64 v2]] w fun e w' => e = .returned (.bool r) ∧ w.grownBy w' none := by
  have HB := Lib.hid (Blk.new w #[.int .i64 v1, .int .i64 v2] 25)
  have HG := Lib.hid (g_alloc (g_refl w none) (.cells #[.int .i64 v1, .int .i64 v2] 25))
  have HE := Lib.hid hr
  clear hr
  go_enter Try.func24, Try.ntmps24
  go_upto_region 1 with fail
  generalize w.alloc (.cells #[.int .i64 v1, .int .i64 v2] 25) = W at *
  refine wp_region_held_drew (S := fun W' => W.grownBy W' none) (by kernel_rfl) (g_drew (g_refl _ _)) (fun hHeld => ?_)
  refine wpAnyH_take (i := 0) (v := .agg #[.int .i64 v1, .int .i64 v2]) rfl (by kernel_rfl) (by kernel_rfl) (by kernel_rfl) (fun _ _ _ h => h) (Or.inl ⟨by rfl, fun w hw => by have q0 := (HB.out.keepn hw).cell 0 _ rfl; have q1 := (HB.out.keepn hw).cell 1 _ rfl; clear hw; go_simp⟩) hHeld ?_
  try simp only [Act.put, List.setIfInBounds_toArray, List.set_cons_zero, List.set_cons_succ, List.getElem_toArray, List.getElem_cons_zero, List.getElem_cons_succ]
  refine wpAnyH_ready (rs := [1]) (by kernel_rfl) (by simp) (AllReadyH.cons rfl (fun K hK => ?_) (AllReadyH.nil))
  · go_simp
    refine Calls.mono (nil_any _) ?_
    rintro e wc1 ⟨rfl, gc1⟩
    try go_wp2_with fail
    refine hK.out _ _ (g_trans hHeld gc1) (fun hHeld => ?_)
    clear hK K gc1
    try simp only [Act.put, List.setIfInBounds_toArray, List.set_cons_zero, List.set_cons_succ, List.getElem_toArray, List.getElem_cons_zero, List.getElem_cons_succ]
    refine wpAnyH_take (i := 2) (v := .bool r) rfl (by kernel_rfl) (by kernel_rfl) (by kernel_rfl) (fun _ _ _ h => h) (Or.inl ⟨by rfl, fun w hw => by clear hw; go_simp; have q := HE.out; subst q; by_cases h1 : v1 = 2 <;> by_cases h2 : v2 = 0 <;> simp [h1, h2]⟩) hHeld ?_
    try simp only [Act.put, List.setIfInBounds_toArray, List.set_cons_zero, List.set_cons_succ, List.getElem_toArray, List.getElem_cons_zero, List.getElem_cons_succ]
    refine wpAnyH_take (i := 3) (v := .bool r) rfl (by kernel_rfl) (by kernel_rfl) (by kernel_rfl) (fun _ _ _ h => h) (Or.inl ⟨by rfl, fun w hw => by clear hw; go_simp⟩) hHeld ?_
    try simp only [Act.put, List.setIfInBounds_toArray, List.set_cons_zero, List.set_cons_succ, List.getElem_toArray, List.getElem_cons_zero, List.getElem_cons_succ]
    refine wpAnyH_done (by kernel_rfl) ?_ _
    go_wp2_with fail
    go_ret
    exact ⟨rfl, g_trans HG.out hHeld⟩

theorem in_all (o : OB) (fa : Option Addr) (fc : Nat) (w : World) : Calls Try.prog 17 #[.agg #[.int .i64 o.ref.1, .int .i64 o.ref.2, .int .i64 o.gen, .int .i64 o.fields, .int .i64 o.mask, .int .i64 o.state, .int .i64 o.owner, .slice fa o.F.length fc]] w fun e w' => e = .returned (.bool true) ∧ w.grownBy w' none := by
  have HG := Lib.hid (g_alloc (g_refl w none) (.cells #[.int .i64 o.ref.1, .int .i64 o.ref.2, .int .i64 o.gen, .int .i64 o.fields, .int .i64 o.mask, .int .i64 o.state, .int .i64 o.owner, .slice fa o.F.length fc] 34))
  go_enter Try.func17, Try.ntmps17
  go_wp2_with fail
  go_ret
  exact ⟨rfl, HG.out⟩
theorem in_private (o : OB) (fa : Option Addr) (fc : Nat) (w : World) : Calls Try.prog 15 #[.agg #[.int .i64 o.ref.1, .int .i64 o.ref.2, .int .i64 o.gen, .int .i64 o.fields, .int .i64 o.mask, .int .i64 o.state, .int .i64 o.owner, .slice fa o.F.length fc]] w fun e w' => e = .returned (.bool (o.state == 1)) ∧ w.grownBy w' none := by
  have HG := Lib.hid (g_alloc (g_refl w none) (.cells #[.int .i64 o.ref.1, .int .i64 o.ref.2, .int .i64 o.gen, .int .i64 o.fields, .int .i64 o.mask, .int .i64 o.state, .int .i64 o.owner, .slice fa o.F.length fc] 34))
  have c := (Blk.new w #[.int .i64 o.ref.1, .int .i64 o.ref.2, .int .i64 o.gen, .int .i64 o.fields, .int .i64 o.mask, .int .i64 o.state, .int .i64 o.owner, .slice fa o.F.length fc] 34).cell 5 _ rfl
  go_enter Try.func15, Try.ntmps15
  go_wp2_with fail
  go_ret
  exact ⟨rfl, HG.out⟩

/-- of how many objects the references are not met -/
def meas (Ls : List OB) (L : List VV) : Nat := (Ls.filter (fun o => !decide (o.ref ∈ L))).length
/-- A WALK -/
def Wk (w : World) (B b m ms : Nat) (ao : Option Addr) (n c : Nat) (Ls : List OB) (fv : Value) (L : List VV) : Prop :=
  B ≤ b ∧ B ≤ m ∧ B ≤ ms ∧ b ≠ m ∧ b ≠ ms ∧ m ≠ ms ∧ L.length + meas Ls L ≤ n ∧ ∃ mv, Blk w b #[.slice ao n c, .map (some m), mv, .map (some ms), fv] 51 ∧ IMap w m n (ix Ls) ∧ SMap w ms L.length L ∧ w.ownsRow B 25 2 mv L.length (scl L) ∧ 
    (mv.ownBlock ≠ some b ∧ mv.ownBlock ≠ some m ∧ mv.ownBlock ≠ some ms) ∧ ORow w B ao Ls
theorem Wk.keepn {w w' : World} {B b m ms : Nat} {ao : Option Addr} {n c : Nat} {Ls : List OB} {fv : Value} {L : List VV} (h : Wk w B b m ms ao n c Ls fv L) (g : w.grownBy w' none) : Wk w' B b m ms ao n c Ls fv L := by
  obtain ⟨h1, h2, h3, h4, h5, h6, h7, mv, k1, k2, k3, k4, k5, k6⟩ := h
  exact ⟨h1, h2, h3, h4, h5, h6, h7, mv, k1.keepn g, k2.keep g (by simp), k3.keep g (by simp), own_keepn k4 g, k5, k6.keepn g⟩

set_option maxRecDepth 100000 in
/-- a new walk -/
theorem newWalk_any (B : Nat) (ao : Option Addr) (c n : Nat) (Ls : List OB) (K : FuncId) (w : World) (hR : ORow w B ao Ls) (hW : ∀ o ∈ Ls, WO o) (hl : Ls.length = n) (hn : n ≤ 1000) (hB : B ≤ w.heap.size) :
    Calls Try.prog 14 #[.slice ao n c, .func (.func K) #[] #[]] w fun e w' => ∃ b m ms, e = .returned (.pointer (some ⟨b, 0, none⟩)) ∧ Wk w' B b m ms ao n c Ls (.func (.func K) #[] #[]) [] ∧ w.grownBy w' none := by
  have hmm := @run_makeMap Try.prog
  have HI := Lib.hid (index_any B ao c n Ls w hR hW hl hn)
  have HR := Lib.hid (And.intro hR hl)
  clear hR hW
  go_enter Try.func14, Try.ntmps14
  go_wp2_with fail
  refine HI.out.mono ?_
  rintro e w1 ⟨m, rfl, h1, h2, h3, g1⟩
  have HS : Hid (SMap (w1.alloc (.map #[] 0)) w1.heap.size 0 []) := Lib.hid (SMap.nil (World.ownsMap_made (H := Unit) w1 Try.prog 25 (unitElem (H := Unit))))
  have g2 := g_alloc (g_refl w1 none) (.map #[] 0)
  have g3 := g_alloc (g_refl (w1.alloc (.map #[] 0)) none) (.cells #[.slice ao n c, .map (some m), .slice none 0 0, .map (some w1.heap.size), .func (.func K) #[] #[]] 51)
  have HB := Lib.hid (Blk.new (w1.alloc (.map #[] 0)) #[.slice ao n c, .map (some m), .slice none 0 0, .map (some w1.heap.size), .func (.func K) #[] #[]] 51)
  have HM := Lib.hid ((h3.keep g2 (by simp)).keep g3 (by simp))
  have HS3 := Lib.hid (HS.out.keep g3 (by simp))
  have HO := Lib.hid (ORow.keepn (ORow.keepn (ORow.keepn HR.out.1 g1) g2) g3)
  have HG := Lib.hid (g_trans (g_trans g1 g2) g3)
  have hs := g1.size
  clear g2 g3 h3 g1
  go_wp2_with fail
  go_ret
  refine ⟨_, m, w1.heap.size, rfl, ⟨?_, by omega, by omega, ?_, ?_, by omega, ?_, .slice none 0 0, (by have h := HB.out; simpa using h), HM.out, HS3.out, World.ownsRow_nil _ _ _ _, ⟨by simp [Value.ownBlock], by simp [Value.ownBlock], by simp [Value.ownBlock]⟩, HO.out⟩, HG.out⟩
  · omega
  · omega
  · omega
  · have h1 := HR.out.2
    have h2 := List.length_filter_le (fun o : OB => !decide (o.ref ∈ ([] : List VV))) Ls
    simp only [meas, List.length_nil]; omega
end Go.Proofs.Ytkkcfielmpjgeaa
