/- The example at the laws' head. -/
import Derived.Test.YtcjeiafhcpgaoaaG
import Derived.Laws.BytesArg
namespace Go.Proofs.Ytcjeiafhcpgaoaa
open Go.RowKit
set_option linter.unusedVariables false

/-- bytes of one's own as a string -/
theorem str_own {w : World} {base : Nat} {v : Value} {n : Nat} {xs : List Int} (h : w.ownsRow base 5 1 v n (byV xs)) : (convert 25 9 v).run Try.prog w = .ok (.string (strOfNums xs)) w := by
  have hl := h.1
  rw [byV_length, Nat.mul_one] at hl
  have hcs := fun g hg => h.cells (g := g) hg
  rcases h.2 with ⟨rfl, rfl⟩ | ⟨g, cap, cur, rfl, hb, hh, h1, h2, h3, h4⟩
  · have : xs = [] := List.eq_nil_of_length_eq_zero hl
    subst this
    exact run_convert_bytes_nil (P := Try.prog) w 25 5 Try.underlying25 Try.underlying5 0 0 9 Try.underlying9
  · refine run_convert_bytes_arg (P := Try.prog) w 25 5 Try.underlying25 Try.underlying5 g 0 n cap xs hl (fun i hi => ?_) 9 Try.underlying9
    have hx : xs[i]? = some (xs.getD i 0) := by
      rw [List.getElem?_eq_getElem (by omega)]
      simp [List.getD, List.getElem?_eq_getElem (show i < xs.length by omega)]
    have hb : (byV xs)[i]? = some (.int .u8 (xs.getD i 0)) := by
      unfold byV
      rw [List.getElem?_map, hx]
      rfl
    have := hcs g rfl i _ hb
    rwa [Addr.add_lit] at this

set_option maxRecDepth 100000 in
set_option maxHeartbeats 3200000 in
theorem awake_any (w : World) : Calls Try.prog 13 #[] w fun e w' => e = .returned (.bool true) ∧ w.grownBy w' none := by
  have hok : okI 14 2 5 1 = true := by decide
  have HE := Lib.hid (fun w => encode_ok 14 (by decide) (by decide) 2 5 1 w hok)
  clear hok
  go_enter Try.func13, Try.ntmps13
  go_wp2_with fail
  refine (HE.out _).mono ?_
  rintro e w1 ⟨v, rfl, how0, hg1⟩
  have how : w1.ownsRow w.heap.size 5 1 v 4 (byV [14, 2, 5, 1]) := how0
  have g2 := g_alloc (g_refl w1 none) (.cells #[.int .u8 14, .int .u8 2, .int .u8 5, .int .u8 1, .int .u8 9] 5)
  have hb2 := Blk.new w1 #[.int .u8 14, .int .u8 2, .int .u8 5, .int .u8 1, .int .u8 9] 5
  have HOW := Lib.hid (own_keepn how g2)
  have hbr : BRow (w1.alloc (.cells #[.int .u8 14, .int .u8 2, .int .u8 5, .int .u8 1, .int .u8 9] 5)) (some ⟨w1.heap.size, 0, none⟩) [14, 2, 5, 1, 9] := fun i x hx => by
    have hi : i < 5 := (List.getElem?_eq_some_iff.1 hx).1
    rcases (by omega : i = 0 ∨ i = 1 ∨ i = 2 ∨ i = 3 ∨ i = 4) with rfl | rfl | rfl | rfl | rfl <;> (cases hx; exact ⟨by decide, _, _, rfl, by rw [Nat.zero_add]; exact hb2.cell _ _ rfl⟩)
  have HBR := Lib.hid hbr
  have gA := g_trans hg1 g2
  clear how how0 hbr hb2 hg1 g2
  go_wp2_with fail
  generalize (w1.alloc (.cells #[.int .u8 14, .int .u8 2, .int .u8 5, .int .u8 1, .int .u8 9] 5)) = W2 at *
  have v0 : hv (sA 14) (sB 14) (sC 14) [14, 2, 5, 1, 9] 0 = 2 := by kernel_rfl
  have v1 : hv (sA 14) (sB 14) (sC 14) [14, 2, 5, 1, 9] 1 = 5 := by kernel_rfl
  have v2 : hv (sA 14) (sB 14) (sC 14) [14, 2, 5, 1, 9] 2 = 1 := by kernel_rfl
  have hd := decode_k _ 5 5 [14, 2, 5, 1, 9] _ HBR.out rfl 14 (by decide) (by decide) rfl (by decide) (by decide) (by decide)
  rw [v0, v1, v2] at hd
  clear v0 v1 v2
  refine hd.mono ?_
  rintro e w3 ⟨hg3, ⟨hbad, _⟩ | ⟨_, hbad, _⟩ | ⟨_, _, v2, he, how2⟩⟩
  · exact absurd hbad (by decide)
  · exact absurd hbad (by decide)
  · have he' : e = .returned (.tuple #[.agg #[.int .i64 14, .int .i64 2, .int .i64 5, .int .i64 1], v2, .int .i64 0]) := he
    subst he'
    clear he
    have how2' : w3.ownsRow W2.heap.size 5 1 v2 1 (byV [9]) := how2
    have g4 := g_alloc (g_refl w3 none) (.cells #[.int .i64 14, .int .i64 2, .int .i64 5, .int .i64 1] 24)
    have s1 := str_own (own_keepn (own_keepn HOW.out hg3) g4)
    have s2 := str_own (own_keepn how2' g4)
    have e1 : strOfNums [14, 2, 5, 1] = { data := #[14, 2, 5, 1] } := by decide
    have e2 : strOfNums [9] = { data := #[9] } := by decide
    rw [e1] at s1
    rw [e2] at s2
    have ib := Blk.new w3 #[.int .i64 14, .int .i64 2, .int .i64 5, .int .i64 1] 24
    have i0 := ib.cell 0 (.int .i64 14) rfl
    have i1 := ib.cell 1 (.int .i64 2) rfl
    have i2 := ib.cell 2 (.int .i64 5) rfl
    have i3 := ib.cell 3 (.int .i64 1) rfl
    have gB := g_trans (g_trans gA hg3) g4
    clear how2 how2' e1 e2 ib g4
    go_wp2_with fail
    go_ret
    exact ⟨rfl, gB⟩
end Go.Proofs.Ytcjeiafhcpgaoaa
