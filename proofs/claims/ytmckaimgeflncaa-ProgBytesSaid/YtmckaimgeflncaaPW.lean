/- Programs as bytes: the page's example. -/
import Derived.Test.YtmckaimgeflncaaPD
namespace Go.Proofs.Ytmckaimgeflncaa
open Go.RowKit
set_option linter.unusedVariables false
set_option linter.unusedSimpArgs false

theorem pdecode_any (ao : Option Addr) (n c : Nat) (B : List Int) (w : World) (hB : BRow w ao B) (hn : B.length = n) (hn4 : n < 100000) (hnc : n ≤ c) (hcm : c ≤ 9223372036854775807) :
    Calls Try.prog 11 #[.slice ao n c] w fun e w' => PDec B w w' e := by
  by_cases h : n < 7
  · exact pdecode_short ao n c B w hn h
  · exact pdecode_long ao n c B w hB hn hn4 hnc hcm (by omega)

theorem own_islice {w : World} {base : Nat} {e : TypeId} {size n : Nat} {v : Value} {xs : List Value} (h : w.ownsRow base e size v n xs) (hpos : 0 < n) :
    ∃ g c, v = .slice (some ⟨g, 0, none⟩) n c ∧ base ≤ g ∧ g < w.heap.size ∧ n ≤ c ∧ c ≤ 9223372036854775807 ∧ ∀ (j : Nat) (u : Value), xs[j]? = some u → w.cell? ⟨g, j, none⟩ = some u := by
  have hcs := fun g hg => h.cells (g := g) hg
  rcases h.2 with ⟨rfl, hn⟩ | ⟨g, cap, cur, rfl, hbg, hh, h1, h2, h3, h4⟩
  · omega
  · exact ⟨g, cap, rfl, hbg, (Array.getElem?_eq_some_iff.1 hh).1, h1, by unfold maxLen at h2; omega, fun j u hu => by have := hcs g rfl j u hu; rwa [Addr.add_lit, Nat.zero_add] at this⟩

def hlt : I4 := ⟨20, 0, 0, 0⟩
def jmp : I4 := ⟨8, 1, 0, 0⟩
theorem irow_one (w : World) (x : I4) : IRow (w.alloc (.cells #[.int .i64 x.k, .int .i64 x.a, .int .i64 x.b, .int .i64 x.c] 43)) (some ⟨w.heap.size, 0, none⟩) [x] := fun i y hy => by
  have hi := (List.getElem?_eq_some_iff.1 hy).1
  simp at hi
  subst hi
  cases hy
  have hb := Blk.new w #[.int .i64 x.k, .int .i64 x.a, .int .i64 x.b, .int .i64 x.c] 43
  exact ⟨w.heap.size, 0, rfl, hb.cell 0 _ rfl, hb.cell 1 _ rfl, hb.cell 2 _ rfl, hb.cell 3 _ rfl⟩
theorem prow_new (w : World) (P : List Pt) (h : ∀ x ∈ P, IRow w x.a x.L ∧ x.L.length = x.n ∧ x.n ≤ 520) : PRow (w.alloc (.cells (P.map fun x => Value.slice x.a x.n x.c).toArray 22)) (some ⟨w.heap.size, 0, none⟩) P := fun i x hi => by
  obtain ⟨h1, h2, h3⟩ := h x (List.mem_of_getElem? hi)
  refine ⟨⟨w.heap.size, 0, rfl, ?_⟩, h1.keep (g_alloc (g_refl w none) _), h2, h3⟩
  have := new_cells w (P.map fun x => Value.slice x.a x.n x.c) 22 i (.slice x.a x.n x.c) (by rw [List.getElem?_map, hi]; rfl)
  rwa [Addr.add_lit] at this
theorem full_hlt : full [hlt] = [71, 78, 84, 1, 0, 1, 20, 255] := by decide
theorem ok_hlt : okL [hlt] = true := by decide
theorem str_hlt : strOfNums [71, 78, 84, 1, 0, 1, 20, 255] = { data := #[71, 78, 84, 1, 0, 1, 20, 255] } := by rfl

set_option maxRecDepth 100000 in
set_option maxHeartbeats 3200000 in
theorem awake_any (w : World) : Calls Try.prog 14 #[] w fun e w' => e = .returned (.bool true) ∧ w.grownBy w' none := by
  have HE := Lib.hid (pencode_any (some ⟨w.heap.size, 0, none⟩) 1 1 [hlt] _ (irow_one w hlt) rfl)
  have G0 := Lib.hid (g_alloc (g_refl w none) (.cells #[.int .i64 20, .int .i64 0, .int .i64 0, .int .i64 0] 43))
  go_enter Try.func14, Try.ntmps14
  go_wp2_with fail
  refine HE.out.mono ?_
  rintro e w1 ⟨g1, ⟨h, _⟩ | ⟨_, h, _⟩ | ⟨_, _, v, rfl, how⟩⟩
  · exact absurd h (by decide)
  · rw [ok_hlt] at h; cases h
  rw [full_hlt] at how
  obtain ⟨g, cc, rfl, hgb, hgl, hcc1, hcc2, hll, hcell⟩ := own_slice how (by decide)
  obtain ⟨ao2, c2, hv2, hbr, _⟩ := brow_own how (by intro y hy; simp at hy; omega)
  have hbr' : BRow w1 (some ⟨g, 0, none⟩) [71, 78, 84, 1, 0, 1, 20, 255] := by injection hv2 with q1 q2 q3; rw [q1]; exact hbr
  have HBR := Lib.hid hbr'
  have G1 := Lib.hid (g_trans G0.out g1)
  clear how hv2 hbr hbr' hcell g1 HE
  have HD := Lib.hid (pdecode_any (some ⟨g, 0, none⟩) 8 cc [71, 78, 84, 1, 0, 1, 20, 255] w1 HBR.out rfl (by decide) hcc1 hcc2)
  go_wp2_with fail
  refine HD.out.mono ?_
  rintro e w2 ⟨g2, ⟨p, hp, v, rfl, how⟩ | ⟨hno, _⟩⟩
  rotate_left
  · exact absurd ⟨[hlt], by decide, ok_hlt, full_hlt.symm⟩ hno
  obtain rfl : p = [hlt] := isB_uniq hp ⟨by decide, ok_hlt, full_hlt.symm⟩
  obtain ⟨pg, pc, rfl, hpb, hpl, hpc1, hpc2, hpcell⟩ := own_islice how (by decide)
  have P0 := Lib.hid (hpcell 0 _ rfl)
  have G2 := Lib.hid (g_trans G1.out g2)
  have HBR := Lib.hid (HBR.out.keep g2)
  clear how hp hpcell g2 HD
  have HD := Lib.hid (pdecode_any none 0 0 [] w2 (fun i y hy => (by cases hy)) rfl (by decide) (by decide) (by decide))
  go_wp2_with fail
  refine HD.out.mono ?_
  rintro e w3 ⟨g3, ⟨p, hp, _⟩ | ⟨hno, rfl⟩⟩
  · have := isB_len hp; simp at this
  have P0 := Lib.hid (g3.cell P0.out (by simp))
  have G3 := Lib.hid (g_trans G2.out g3)
  have HBR := Lib.hid (HBR.out.keep g3)
  clear hno g3 HD
  have hP0 := prow_new ((w3.alloc (.cells #[.int .i64 20, .int .i64 0, .int .i64 0, .int .i64 0] 43)).alloc (.cells #[.int .i64 8, .int .i64 1, .int .i64 0, .int .i64 0] 43)) [⟨some ⟨w3.heap.size, 0, none⟩, 1, 1, [hlt]⟩, ⟨some ⟨w3.heap.size + 1, 0, none⟩, 1, 1, [jmp]⟩] (by
    intro x hx
    simp only [List.mem_cons, List.not_mem_nil, or_false] at hx
    rcases hx with rfl | rfl
    · exact ⟨(irow_one w3 hlt).keep (g_alloc (g_refl _ none) _), rfl, (by show (1 : Nat) ≤ 520; omega)⟩
    · refine ⟨?_, rfl, (by show (1 : Nat) ≤ 520; omega)⟩
      have h := irow_one (w3.alloc (.cells #[.int .i64 20, .int .i64 0, .int .i64 0, .int .i64 0] 43)) jmp
      simp only [World.size_alloc] at h
      exact h)
  have hP : PRow (((w3.alloc (.cells #[.int .i64 20, .int .i64 0, .int .i64 0, .int .i64 0] 43)).alloc (.cells #[.int .i64 8, .int .i64 1, .int .i64 0, .int .i64 0] 43)).alloc (.cells #[.slice (some ⟨w3.heap.size, 0, none⟩) 1 1, .slice (some ⟨w3.heap.size + 1, 0, none⟩) 1 1] 22)) (some ⟨w3.heap.size + 1 + 1, 0, none⟩) [⟨some ⟨w3.heap.size, 0, none⟩, 1, 1, [hlt]⟩, ⟨some ⟨w3.heap.size + 1, 0, none⟩, 1, 1, [jmp]⟩] := by
    simp only [World.size_alloc] at hP0
    exact hP0
  have HL := Lib.hid (link_all _ 2 2 _ _ hP rfl (by omega))
  have g4 := g_alloc (g_alloc (g_alloc (g_refl w3 none) (.cells #[.int .i64 20, .int .i64 0, .int .i64 0, .int .i64 0] 43)) (.cells #[.int .i64 8, .int .i64 1, .int .i64 0, .int .i64 0] 43)) (.cells #[.slice (some ⟨w3.heap.size, 0, none⟩) 1 1, .slice (some ⟨w3.heap.size + 1, 0, none⟩) 1 1] 22)
  have P0 := Lib.hid (g4.cell P0.out (by simp))
  have G4 := Lib.hid (g_trans G3.out g4)
  have HBR := Lib.hid (HBR.out.keep g4)
  clear hP0 hP g4
  go_wp2_with fail
  refine HL.out.mono ?_
  rintro e w5 ⟨g5, ⟨h, _⟩ | ⟨_, ⟨x, hx, hf⟩, _⟩ | ⟨_, _, v, rfl, how⟩⟩
  · exact absurd h (by show ¬ (512 : Nat) < 2; omega)
  · simp only [List.mem_cons, List.not_mem_nil, or_false] at hx
    rcases hx with rfl | rfl
    · exact absurd hf (by show ¬ fitL [hlt] = false; decide)
    · exact absurd hf (by show ¬ fitL [jmp] = false; decide)
  obtain ⟨lg, lc, rfl, hlb, hll5, hlc1, hlc2, hlcell⟩ := own_islice how (show 0 < 2 by omega)
  have L5 : Hid (w5.cell? ⟨lg, 5, none⟩ = some (.int .i64 2)) := Lib.hid (hlcell 5 _ rfl)
  have P0 := Lib.hid (g5.cell P0.out (by simp))
  have G5 := Lib.hid (g_trans G4.out g5)
  have hs := str_row (c := cc) (HBR.out.keep g5) (n := 8) rfl
  rw [str_hlt] at hs
  have l5 := L5.out
  have p0 := P0.out
  clear how hlcell g5 HL
  go_wp2_with fail
  go_ret
  exact ⟨rfl, G5.out⟩
end Go.Proofs.Ytmckaimgeflncaa
