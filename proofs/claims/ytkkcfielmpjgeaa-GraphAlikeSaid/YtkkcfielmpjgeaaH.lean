/- few. -/
import Derived.Test.YtkkcfielmpjgeaaG
namespace Go.Proofs.Ytkkcfielmpjgeaa
open Go.RowKit
set_option linter.unusedVariables false
set_option linter.unusedSimpArgs false

def cut (o : OB) : OB := { o with F := o.F.take 6 }
def fewP (Ls : List OB) : List OB := (Ls.take 12).map cut
theorem fewP_length (Ls : List OB) : (fewP Ls).length ≤ 12 := by simp [fewP]; omega
theorem fewP_wf {Ls : List OB} (h : ∀ o ∈ Ls, WO o) : ∀ o ∈ fewP Ls, WO o := by
  intro o ho
  obtain ⟨o', h1, rfl⟩ := List.mem_map.1 ho
  have := h o' (List.mem_of_mem_take h1)
  exact ⟨this.1, fun f hf => this.2 f (List.mem_of_mem_take hf)⟩
/-- OK at the first world stays -/
theorem OK.keepn0 {w w' : World} {B : Nat} {x : OX} (h : OK w B x) (g : w.grownBy w' none) : OK w' B x := h.keepn g

set_option maxRecDepth 100000 in
set_option maxHeartbeats 3200000 in
theorem few_any (ao : Option Addr) (n c : Nat) (Ls : List OB) (w : World) (hR : ORow w w.heap.size ao Ls) (hl : Ls.length = n) :
    Calls Try.prog 5 #[.slice ao n c] w fun e w' => ∃ rv cs, e = .returned rv ∧ w'.ownsRow w.heap.size 34 8 rv (fewP Ls).length (ocl cs) ∧ cs.map (·.1) = fewP Ls ∧ (∀ x ∈ cs, OK w w.heap.size x) ∧ w.grownBy w' none := by
  obtain ⟨i0, hi, hz0, hz1, hz2⟩ := info_parts info34
  have HR := Lib.hid hR
  have HL := Lib.hid hl
  clear hR hl
  go_enter Try.func5, Try.ntmps5
  go_wp2_with fail
  go_loopw [3, 4] (fun s i wr => ∃ (j : Nat) (cs : List OX), i = .int .i64 j ∧ j ≤ 12 ∧ j ≤ n ∧ cs.map (·.1) = (Ls.take j).map cut ∧ cs.length = j ∧ wr.ownsRow w.heap.size 34 8 s j (ocl cs) ∧ (∀ x ∈ cs, OK w w.heap.size x) ∧ w.grownBy wr none) (fun _ i _ => (12 - intOf i).toNat)
  case atStart => exact ⟨0, [], rfl, by omega, by omega, rfl, rfl, World.ownsRow_nil _ _ _ _, fun x h => (by cases h), g_refl _ _⟩
  case round =>
    obtain ⟨j, cs, rfl, hj1, hj2, hcs, hcl, hrw, hok, hg⟩ := hrel
    have HE : Hid (¬ j < n ∨ ¬ j < 12 → fewP Ls = (Ls.take j).map cut) := Lib.hid (fun h => by
      unfold fewP
      rcases h with h | h
      · have e : j = n := by omega
        rw [e, List.take_of_length_le (by rw [HL.out]; omega), List.take_of_length_le (by rw [HL.out]; exact Nat.le_refl _)]
      · have e : j = 12 := by omega
        rw [e])
    have HCS := Lib.hid (And.intro hcs (And.intro hcl hok))
    have HRW := Lib.hid hrw
    have HG := Lib.hid hg
    clear hcs hcl hrw hok hg
    by_cases hlt : j < n
    · have hji : (j : Int) < n := by omega
      have hjj : ¬ (n : Int) ≤ j := by omega
      by_cases h12 : j < 12
      · have hji2 : (j : Int) < 12 := by omega
        obtain ⟨o, hoj⟩ : ∃ o, Ls[j]? = some o := ⟨Ls[j]'(by rw [HL.out]; omega), List.getElem?_eq_getElem _⟩
        obtain ⟨b, off, fa, fc, rfl, hbl, z0, z1, z2, z3, z4, z5, z6, z7, k1, k2, k3, k4, k5⟩ := (HR.out.keepn HG.out) j o hoj
        have HK0 : Hid (SRow w fa o.F) := Lib.hid (by
          obtain ⟨b', off', fa', fc', e1, _, _, _, _, _, _, _, _, e7, e8, _⟩ := HR.out j o hoj
          cases e1
          have q := HG.out.cell e7 (by simp)
          rw [z7] at q; cases q; exact e8)
        have ga := g_alloc (g_refl wr none) (.cells #[.int .i64 o.ref.1, .int .i64 o.ref.2, .int .i64 o.gen, .int .i64 o.fields, .int .i64 o.mask, .int .i64 o.state, .int .i64 o.owner, .slice fa o.F.length fc] 34)
        have HB0 := Lib.hid (Blk.new wr #[.int .i64 o.ref.1, .int .i64 o.ref.2, .int .i64 o.gen, .int .i64 o.fields, .int .i64 o.mask, .int .i64 o.state, .int .i64 o.owner, .slice fa o.F.length fc] 34)
        have y7 := HB0.out.cell 7 _ rfl
        have f7 := HB0.out.free 7
        have HG0 := Lib.hid (g_trans HG.out ga)
        have HRW0 := Lib.hid (own_keepn HRW.out ga)
        have HOJ := Lib.hid hoj
        have HOK0 := Lib.hid (And.intro k2 k5)
        clear ga hoj k1 k2 k5
        by_cases h6 : 6 < o.F.length
        · have h6i : (6 : Int) < o.F.length := by omega
          have h6c : ¬ fc < 6 := by omega
          obtain ⟨p0, hp0⟩ : ∃ p, o.F[0]? = some p := ⟨o.F[0]'(by omega), List.getElem?_eq_getElem _⟩
          obtain ⟨fb, fo, rfl, -, -⟩ := HK0.out 0 p0 hp0
          clear hp0
          go_upto_region 8 with fail
          have HB1 := Lib.hid (Blk.new wr #[.int .i64 o.ref.1, .int .i64 o.ref.2, .int .i64 o.gen, .int .i64 o.fields, .int .i64 o.mask, .int .i64 o.state, .int .i64 o.owner, .slice (some ⟨fb, fo, none⟩) 6 fc] 34)
          have gs := g_alloc (g_refl wr none) (.cells #[.int .i64 o.ref.1, .int .i64 o.ref.2, .int .i64 o.gen, .int .i64 o.fields, .int .i64 o.mask, .int .i64 o.state, .int .i64 o.owner, .slice (some ⟨fb, fo, none⟩) 6 fc] 34)
          have HG1 := Lib.hid (g_trans HG.out gs)
          have HRW1 := Lib.hid (own_keepn HRW.out gs)
          have HCUT : Hid ((cut o).F.length = 6) := Lib.hid (by simp [cut]; omega)
          have HOC : Hid (ocl [(cut o, some ⟨fb, fo, none⟩, fc)] = [.int .i64 o.ref.1, .int .i64 o.ref.2, .int .i64 o.gen, .int .i64 o.fields, .int .i64 o.mask, .int .i64 o.state, .int .i64 o.owner, .slice (some ⟨fb, fo, none⟩) 6 fc]) := Lib.hid (by
            have h := HCUT.out
            simp only [ocl, oc, h]; rfl)
          have HKT : SRow w (some ⟨fb, fo, none⟩) (cut o).F := by
            intro i p hi
            have hi : (o.F.take 6)[i]? = some p := hi
            rw [List.getElem?_take] at hi
            split at hi
            · exact HK0.out i p hi
            · cases hi
          have hne : o.F ≠ [] := fun q => by rw [q] at h6; simp at h6
          have HOK : Hid (OK w w.heap.size (cut o, some ⟨fb, fo, none⟩, fc)) := Lib.hid ⟨HKT, fun a e _ => HOK0.out.1 a e hne, by have h := HCUT.out; show (cut o).F.length ≤ fc; omega, k4, fun e => nomatch e⟩
          clear z0 z1 z2 z3 z4 z5 z6 z7 y7 f7 gs
          generalize wr.alloc (.cells #[.int .i64 o.ref.1, .int .i64 o.ref.2, .int .i64 o.gen, .int .i64 o.fields, .int .i64 o.mask, .int .i64 o.state, .int .i64 o.owner, .slice (some ⟨fb, fo, none⟩) 6 fc] 34) = W1 at *
          have e0 := HB1.out.cell 0 _ rfl
          have e1 := HB1.out.cell 1 _ rfl
          have e2 := HB1.out.cell 2 _ rfl
          have e3 := HB1.out.cell 3 _ rfl
          have e4 := HB1.out.cell 4 _ rfl
          have e5 := HB1.out.cell 5 _ rfl
          have e6 := HB1.out.cell 6 _ rfl
          have e7 := HB1.out.cell 7 _ rfl
          have HNW := Lib.hid (new_cells W1 [.int .i64 o.ref.1, .int .i64 o.ref.2, .int .i64 o.gen, .int .i64 o.fields, .int .i64 o.mask, .int .i64 o.state, .int .i64 o.owner, .slice (some ⟨fb, fo, none⟩) 6 fc] 34)
          have hwW := HG1.out.size
          have ga := g_alloc (g_refl W1 none) (.cells #[.int .i64 o.ref.1, .int .i64 o.ref.2, .int .i64 o.gen, .int .i64 o.fields, .int .i64 o.mask, .int .i64 o.state, .int .i64 o.owner, .slice (some ⟨fb, fo, none⟩) 6 fc] 34)
          have HRA := Lib.hid (own_keepn HRW1.out ga)
          have HGA := Lib.hid (g_trans HG1.out ga)
          clear ga
          go_wp2_with (at_builtin; refine wpList_append_lies _ rfl _ _ 22 rfl w.heap.size 34 i0 (.agg #[.int .i64 0, .int .i64 0, .int .i64 0, .int .i64 0, .int .i64 0, .int .i64 0, .int .i64 0, .slice none 0 0]) 8 80 Try.underlying22 hi hz0 hz1 hz2 rfl (by decide) u3 j (ocl cs) rfl HRA.out ⟨W1.heap.size, 0, none⟩ 1 1 [.int .i64 o.ref.1, .int .i64 o.ref.2, .int .i64 o.gen, .int .i64 o.fields, .int .i64 o.mask, .int .i64 o.state, .int .i64 o.owner, .slice (some ⟨fb, fo, none⟩) 6 fc] rfl rfl HNW.out (by simp [Value.oneCell']) (by omega) (by unfold maxLen; omega) (by omega) (by simp; omega) (W1.heap.size + 1) (by simp) ?_; intro g cap w5 hown5 hgrow hat hlt5)
          have HE := Lib.hid (And.intro hown5 (g_own HGA.out HRA.out hgrow))
          clear hown5 hgrow hat hlt5 e0 e1 e2 e3 e4 e5 e6 e7
          go_roundw
          case rel =>
            refine ⟨j + 1, cs ++ [(cut o, some ⟨fb, fo, none⟩, fc)], by go_num, by omega, by omega, ?_, by rw [List.length_append, HCS.out.2.1]; rfl, ?_, ?_, HE.out.2⟩
            · rw [List.take_add_one, HOJ.out, Option.toList_some, List.map_append, List.map_append, HCS.out.1]
              simp
            · rw [ocl_append]
              have e : ocl [(cut o, some ⟨fb, fo, none⟩, fc)] = [.int .i64 o.ref.1, .int .i64 o.ref.2, .int .i64 o.gen, .int .i64 o.fields, .int .i64 o.mask, .int .i64 o.state, .int .i64 o.owner, .slice (some ⟨fb, fo, none⟩) 6 fc] := HOC.out
              rw [e]; exact HE.out.1
            · intro q hq
              rcases List.mem_append.1 hq with h | h
              · exact HCS.out.2.2 _ h
              · simp only [List.mem_singleton] at h; subst h; exact HOK.out
          case measure => simp [intOf]; omega
        · have h6i : ¬ (6 : Int) < o.F.length := by omega
          go_upto_region 8 with fail
          have HB1 := HB0
          have HG1 := HG0
          have HRW1 := HRW0
          have HCUT : Hid (cut o = o) := Lib.hid (by unfold cut; rw [List.take_of_length_le (by omega)])
          have HOC : Hid (ocl [(o, fa, fc)] = [.int .i64 o.ref.1, .int .i64 o.ref.2, .int .i64 o.gen, .int .i64 o.fields, .int .i64 o.mask, .int .i64 o.state, .int .i64 o.owner, .slice fa o.F.length fc]) := Lib.hid (by simp [ocl, oc])
          have HOK : Hid (OK w w.heap.size (o, fa, fc)) := Lib.hid ⟨HK0.out, HOK0.out.1, k3, k4, HOK0.out.2⟩
          clear z0 z1 z2 z3 z4 z5 z6 z7 y7 f7
          generalize wr.alloc (.cells #[.int .i64 o.ref.1, .int .i64 o.ref.2, .int .i64 o.gen, .int .i64 o.fields, .int .i64 o.mask, .int .i64 o.state, .int .i64 o.owner, .slice fa o.F.length fc] 34) = W1 at *
          have e0 := HB1.out.cell 0 _ rfl
          have e1 := HB1.out.cell 1 _ rfl
          have e2 := HB1.out.cell 2 _ rfl
          have e3 := HB1.out.cell 3 _ rfl
          have e4 := HB1.out.cell 4 _ rfl
          have e5 := HB1.out.cell 5 _ rfl
          have e6 := HB1.out.cell 6 _ rfl
          have e7 := HB1.out.cell 7 _ rfl
          have HNW := Lib.hid (new_cells W1 [.int .i64 o.ref.1, .int .i64 o.ref.2, .int .i64 o.gen, .int .i64 o.fields, .int .i64 o.mask, .int .i64 o.state, .int .i64 o.owner, .slice fa o.F.length fc] 34)
          have hwW := HG1.out.size
          have ga := g_alloc (g_refl W1 none) (.cells #[.int .i64 o.ref.1, .int .i64 o.ref.2, .int .i64 o.gen, .int .i64 o.fields, .int .i64 o.mask, .int .i64 o.state, .int .i64 o.owner, .slice fa o.F.length fc] 34)
          have HRA := Lib.hid (own_keepn HRW1.out ga)
          have HGA := Lib.hid (g_trans HG1.out ga)
          clear ga
          go_wp2_with (at_builtin; refine wpList_append_lies _ rfl _ _ 22 rfl w.heap.size 34 i0 (.agg #[.int .i64 0, .int .i64 0, .int .i64 0, .int .i64 0, .int .i64 0, .int .i64 0, .int .i64 0, .slice none 0 0]) 8 80 Try.underlying22 hi hz0 hz1 hz2 rfl (by decide) u3 j (ocl cs) rfl HRA.out ⟨W1.heap.size, 0, none⟩ 1 1 [.int .i64 o.ref.1, .int .i64 o.ref.2, .int .i64 o.gen, .int .i64 o.fields, .int .i64 o.mask, .int .i64 o.state, .int .i64 o.owner, .slice fa o.F.length fc] rfl rfl HNW.out (by simp [Value.oneCell']) (by omega) (by unfold maxLen; omega) (by omega) (by simp; omega) (W1.heap.size + 1) (by simp) ?_; intro g cap w5 hown5 hgrow hat hlt5)
          have HE := Lib.hid (And.intro hown5 (g_own HGA.out HRA.out hgrow))
          clear hown5 hgrow hat hlt5 e0 e1 e2 e3 e4 e5 e6 e7
          go_roundw
          case rel =>
            refine ⟨j + 1, cs ++ [(o, fa, fc)], by go_num, by omega, by omega, ?_, by rw [List.length_append, HCS.out.2.1]; rfl, ?_, ?_, HE.out.2⟩
            · rw [List.take_add_one, HOJ.out, Option.toList_some, List.map_append, List.map_append, HCS.out.1]
              simp [HCUT.out]
            · rw [ocl_append]
              have e : ocl [(o, fa, fc)] = [.int .i64 o.ref.1, .int .i64 o.ref.2, .int .i64 o.gen, .int .i64 o.fields, .int .i64 o.mask, .int .i64 o.state, .int .i64 o.owner, .slice fa o.F.length fc] := HOC.out
              rw [e]; exact HE.out.1
            · intro q hq
              rcases List.mem_append.1 hq with h | h
              · exact HCS.out.2.2 _ h
              · simp only [List.mem_singleton] at h; subst h; exact HOK.out
          case measure => simp [intOf]; omega
      · have hji2 : ¬ (j : Int) < 12 := by omega
        go_wp2_with fail
        go_ret
        exact ⟨_, rfl, cs, by rw [HE.out (.inr h12)]; rw [List.length_map, List.length_take, HL.out, Nat.min_eq_left hj2]; exact HRW.out, by rw [HE.out (.inr h12)]; exact HCS.out.1, (fun _ _ _ h => HCS.out.2.2 _ h), HG.out⟩
    · have hjj : ¬ (j : Int) < n := by omega
      go_wp2_with fail
      go_ret
      exact ⟨_, rfl, cs, by rw [HE.out (.inl hlt)]; rw [List.length_map, List.length_take, HL.out, Nat.min_eq_left hj2]; exact HRW.out, by rw [HE.out (.inl hlt)]; exact HCS.out.1, (fun _ _ _ h => HCS.out.2.2 _ h), HG.out⟩
end Go.Proofs.Ytkkcfielmpjgeaa
