/- The index of a row of objects. -/
import Derived.Test.YtkkcfielmpjgeaaA
namespace Go.Proofs.Ytkkcfielmpjgeaa
open Go.RowKit
set_option linter.unusedVariables false
set_option linter.unusedSimpArgs false

def fidx (Ls : List OB) (v : VV) : Option Nat := Ls.findIdx? (fun o => decide (o.ref = v))
/-- where a reference's object stands -/
def ix (Ls : List OB) (v : VV) : Option Int := (fidx Ls v).map (fun n : Nat => (n : Int))
theorem fidx_some {Ls : List OB} {v : VV} {i : Nat} (h : fidx Ls v = some i) : ∃ o, Ls[i]? = some o ∧ o.ref = v := by
  unfold fidx at h
  obtain ⟨hi, h1, h2⟩ := List.findIdx?_eq_some_iff_getElem.1 h
  exact ⟨Ls[i], by simp [hi], by simpa using h1⟩
theorem fidx_step {Ls : List OB} {i : Nat} {o : OB} (h : Ls[i]? = some o) (v : VV) : fidx (Ls.take (i + 1)) v = (fidx (Ls.take i) v).or (if o.ref = v then some i else none) := by
  have hi := (List.getElem?_eq_some_iff.1 h).1
  have e : Ls.take (i + 1) = Ls.take i ++ [o] := by rw [List.take_add_one, h]; rfl
  unfold fidx
  rw [e, List.findIdx?_append]
  have hl : (Ls.take i).length = i := by rw [List.length_take]; omega
  rw [hl]
  by_cases hv : o.ref = v <;> simp [hv, List.findIdx?_cons]
theorem ix_some {Ls : List OB} {i : Nat} {o : OB} (h : Ls[i]? = some o) {x : Int} (hx : ix (Ls.take i) o.ref = some x) : ix (Ls.take (i + 1)) = ix (Ls.take i) := by
  funext v
  unfold ix at hx ⊢
  rw [fidx_step h]
  cases hf : fidx (Ls.take i) v with
  | some y => simp
  | none =>
    rw [Option.none_or]
    split
    · rename_i e; subst e; rw [hf] at hx; cases hx
    · rfl
theorem ix_none {Ls : List OB} {i : Nat} {o : OB} (h : Ls[i]? = some o) (hx : ix (Ls.take i) o.ref = none) : ix (Ls.take (i + 1)) = fun v => if v = o.ref then some (i : Int) else ix (Ls.take i) v := by
  funext v
  unfold ix at hx ⊢
  rw [fidx_step h]
  by_cases e : v = o.ref
  · subst e
    cases hf : fidx (Ls.take i) o.ref with
    | some y => rw [hf] at hx; cases hx
    | none => simp
  · rw [if_neg e, if_neg (fun q => e q.symm), Option.or_none]
theorem kl_key (v : VV) : WideAt.IsKeyLit (kl v) := by simp [kl, WideAt.IsKeyLit]
theorem IMap.put {w' : World} {m N n : Nat} {D : DataW Unit} {f : VV → Option Int} {k : VV} {x : Int} (hn : n ≤ N) (hm : Maps.IsMap D) (hk : WV k)
    (h3 : ∀ v, WV v → Maps.has D (kl v) = (f v).isSome ∧ D.atKey (kl v) (.lit (.int .i64 0)) = .lit (.int .i64 ((f v).getD 0)))
    (ho : w'.ownsMap Try.prog 25 (plainElem (H := Unit) Try.prog 3) m (n + 1) (D.put (kl k) (.lit (.int .i64 x)))) : IMap w' m (N + 1) (fun v => if v = k then some x else f v) := by
  refine ⟨n + 1, _, ho, by omega, fun v hv => ?_⟩
  by_cases e : v = k
  · subst e
    rw [Maps.has_put_same hm (kl_key v), Maps.atKey_put_same hm (kl_key v)]
    simp
  · rw [Maps.has_put_other (kl_ne hv hk e), Maps.atKey_put_other (kl_ne hv hk e)]
    simpa [e] using h3 v hv
theorem IMap.nil {w : World} {m : Nat} (h : w.ownsMap Try.prog 25 (plainElem (H := Unit) Try.prog 3) m 0 (.map [])) : IMap w m 0 (ix []) :=
  ⟨0, _, h, Nat.le_refl _, fun v _ => by simp [Maps.has, DataW.atKey, ix, fidx]⟩
theorem SMap.put {w' : World} {m N n : Nat} {D : DataW Unit} {L : List VV} {k : VV} (hn : n ≤ N) (hm : Maps.IsMap D) (hk : WV k)
    (h3 : ∀ v, WV v → Maps.has D (kl v) = decide (v ∈ L)) {d : DataW Unit}
    (ho : w'.ownsMap Try.prog 25 (unitElem (H := Unit)) m (n + 1) (D.put (kl k) d)) : SMap w' m (N + 1) (L ++ [k]) := by
  refine ⟨n + 1, _, ho, by omega, fun v hv => ?_⟩
  by_cases e : v = k
  · subst e
    rw [Maps.has_put_same hm (kl_key v)]
    simp
  · rw [Maps.has_put_other (kl_ne hv hk e), h3 v hv]
    simp [e]
theorem SMap.nil {w : World} {m : Nat} (h : w.ownsMap Try.prog 25 (unitElem (H := Unit)) m 0 (.map [])) : SMap w m 0 [] :=
  ⟨0, _, h, Nat.le_refl _, fun v _ => by simp [Maps.has]⟩
theorem ORow.keepn {w w' : World} {B : Nat} {ao : Option Addr} {Ls : List OB} (h : ORow w B ao Ls) (g : w.grownBy w' none) : ORow w' B ao Ls := fun i o hi => by
  obtain ⟨b, off, fa, fc, rfl, hlt, h0, h1, h2, h3, h4, h5, h6, h7, h8, h9, h10, h11, h12⟩ := h i o hi
  exact ⟨b, off, fa, fc, rfl, hlt, g.cell h0 (by simp), g.cell h1 (by simp), g.cell h2 (by simp), g.cell h3 (by simp), g.cell h4 (by simp), g.cell h5 (by simp), g.cell h6 (by simp), g.cell h7 (by simp), h8.keep g, h9, h10, h11, h12⟩

set_option maxRecDepth 100000 in
set_option maxHeartbeats 3200000 in
/-- the index of a row of objects -/
theorem index_any (B : Nat) (ao : Option Addr) (c n : Nat) (Ls : List OB) (w : World) (hR : ORow w B ao Ls) (hW : ∀ o ∈ Ls, WO o) (hl : Ls.length = n) (hn : n ≤ 1000) :
    Calls Try.prog 26 #[.slice ao n c] w fun e w' => ∃ m, e = .returned (.map (some m)) ∧ w.heap.size ≤ m ∧ m < w'.heap.size ∧ IMap w' m n (ix Ls) ∧ w.grownBy w' none := by
  have hmm := @run_makeMap Try.prog
  have hnot : ∀ (x : Bool) (w : World), (Op.unary .not (.bool x)).run Try.prog w = .ok (.bool (!x)) w := fun _ _ => rfl
  have HR := Lib.hid hR
  have HW := Lib.hid hW
  have HL := Lib.hid hl
  have HM : Hid (IMap (w.alloc (.map #[] 0)) w.heap.size 0 (ix [])) := Lib.hid (IMap.nil (World.ownsMap_made (H := Unit) w Try.prog 25 (plainElem (H := Unit) Try.prog 3)))
  have HG := Lib.hid (g_alloc (g_refl w none) (.map #[] 0))
  have hsz : w.heap.size < (w.alloc (.map #[] 0)).heap.size := by simp
  clear hR hW hl
  go_enter Try.func26, Try.ntmps26
  go_wp2_with fail
  obtain ⟨m, hm⟩ : ∃ m, w.heap.size = m := ⟨_, rfl⟩
  rw [hm] at HM hsz ⊢
  generalize w.alloc (.map #[] 0) = W0 at *
  go_loopw [11] (fun i wr => ∃ j : Nat, i = .int .i64 j ∧ j ≤ n ∧ IMap wr m j (ix (Ls.take j)) ∧ w.grownBy wr none ∧ m < wr.heap.size) (fun i _ => (n - intOf i).toNat)
  case atStart => exact ⟨0, rfl, Nat.zero_le _, HM.out, HG.out, hsz⟩
  case round =>
    obtain ⟨j, rfl, hj, hmo, hg, hmw⟩ := hrel
    by_cases hlt : j < n
    · have hji : (j : Int) < n := by omega
      have hjj : ¬ (n : Int) ≤ j := by omega
      obtain ⟨o, hoj⟩ : ∃ o, Ls[j]? = some o := ⟨Ls[j]'(by rw [HL.out]; omega), List.getElem?_eq_getElem _⟩
      obtain ⟨b, off, fa, fc, rfl, hbl, x0, x1, x2, x3, x4, x5, x6, x7, -⟩ := HR.out.keepn hg j o hoj
      have hwo := HW.out o (List.mem_of_getElem? hoj)
      have ga0 := g_alloc (g_refl wr none) (.cells #[.int .i64 o.ref.1, .int .i64 o.ref.2, .int .i64 o.gen, .int .i64 o.fields, .int .i64 o.mask, .int .i64 o.state, .int .i64 o.owner, .slice fa o.F.length fc] 34)
      have XB := Blk.new wr #[.int .i64 o.ref.1, .int .i64 o.ref.2, .int .i64 o.gen, .int .i64 o.fields, .int .i64 o.mask, .int .i64 o.state, .int .i64 o.owner, .slice fa o.F.length fc] 34
      have y0 := XB.cell 0 _ rfl
      have y1 := XB.cell 1 _ rfl
      have HM7 := hmo.keep ga0 (by simp)
      have hlook := HM7.look o.ref hwo.1
      have HG7 := Lib.hid (g_trans hg ga0)
      have hm7 : m < (wr.alloc (.cells #[.int .i64 o.ref.1, .int .i64 o.ref.2, .int .i64 o.gen, .int .i64 o.fields, .int .i64 o.mask, .int .i64 o.state, .int .i64 o.owner, .slice fa o.F.length fc] 34)).heap.size := by simp; omega
      have HXK := Lib.hid (And.intro hoj hwo)
      have HMM := Lib.hid HM7
      clear ga0 XB hmo hg hoj hwo HM7
      rcases hq : ix (Ls.take j) o.ref with _ | x
      · rw [hq] at hlook
        simp only [Option.getD_none, Option.isSome_none] at hlook
        have HQ := Lib.hid hq
        obtain ⟨nn, D, hown, hnn, hh⟩ := HMM.out
        have HOW := Lib.hid hown
        have HH := Lib.hid (And.intro hnn hh)
        have hnj : nn < maxLen := by unfold maxLen; omega
        have HJ : Hid (plainElem (H := Unit) Try.prog 3 (.int .i64 (j : Int)) = some (.lit (.int .i64 (j : Int)), [])) := Lib.hid (plainElem_int Try.underlying3 (WalkArith.wf_i64 (by omega)))
        have hms : w.heap.size ≤ m := by omega
        clear hq hown hnn hh
        go_wp2_with (at_mapUpdate; refine wpList_mapUpdate_own _ rfl _ _ _ 48 rfl 25 3 keyed25 Try.underlying48 (plainElem (H := Unit) Try.prog 3) m nn D rfl HOW.out hnj (.agg #[.int .i64 o.ref.1, .int .i64 o.ref.2]) (.int .i64 (j : Int)) (kl o.ref) rfl rfl (key25 o.ref HXK.out.2.1) (.lit (.int .i64 (j : Int))) [] HJ.out ?_; intro w9 hown9 hg9)
        go_roundw
        case rel =>
          refine ⟨j + 1, by go_num, by omega, ?_, g_in HG7.out hg9 hms, by have := hg9.size; omega⟩
          rw [ix_none HXK.out.1 HQ.out]
          exact IMap.put HH.out.1 HOW.out.isMap HXK.out.2.1 HH.out.2 hown9
        case measure => simp [intOf]; omega
      · rw [hq] at hlook
        simp only [Option.getD_some, Option.isSome_some] at hlook
        have HQ := Lib.hid hq
        clear hq
        go_wp2_with fail
        go_roundw
        case rel =>
          refine ⟨j + 1, by go_num, by omega, ?_, HG7.out, hm7⟩
          rw [ix_some HXK.out.1 HQ.out]
          obtain ⟨nn, D, a1, a2, a3⟩ := HMM.out
          exact ⟨nn, D, a1, by omega, a3⟩
        case measure => simp [intOf]; omega
    · obtain rfl : j = n := by omega
      have hjj : ¬ (j : Int) < j := by omega
      go_wp2_with fail
      go_ret
      refine ⟨m, rfl, by omega, hmw, ?_, hg⟩
      rw [List.take_of_length_le (by rw [HL.out]; exact Nat.le_refl _)] at hmo
      exact hmo
end Go.Proofs.Ytkkcfielmpjgeaa
