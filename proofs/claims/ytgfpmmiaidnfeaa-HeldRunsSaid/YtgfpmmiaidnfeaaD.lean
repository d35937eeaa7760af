/- The taken records: all in memory from block B on; the example at the laws' head. -/
import Derived.Test.YtgfpmmiaidnfeaaC
namespace Go.Proofs.Ytgfpmmiaidnfeaa
open Go.RowKit
set_option linter.unusedVariables false

/-- all that a call may turn lies from block B on -/
abbrev Fr (B : Nat) (w w' : World) : Prop := Tr (fun i => B ≤ i) w w'
theorem fr_trans {B : Nat} {a w w' : World} (h : Fr B a w) (k : Fr B w w') : Fr B a w' := tr_trans h k (fun _ _ h => h)
theorem fr_g {B : Nat} {a w w' : World} (h : Fr B a w) (k : w.grownBy w' none) : Fr B a w' := tr_then h k
theorem fr_new {w w' : World} (h : Fr w.heap.size w w') : w.grownBy w' none := h.g (fun i hi => by omega)
theorem fr_below {B : Nat} {a w w' : World} (h : Below B a w) (k : Fr B w w') (hB : B ≤ w.heap.size) : Below B a w' := k.below h hB (fun i hi => by omega)
abbrev HdB (w : World) (b B : Nat) (L : List (Int × Int)) : Prop := Hd w b (fun g => B ≤ g) L

theorem add_fr (b B : Nat) (L : List (Int × Int)) (w : World) (h : HdB w b B L) (o v : Int) (hl : L.length < 4000) (hb : B ≤ b) (hB : B ≤ w.heap.size) :
    Calls Try.prog 9 #[.pointer (some ⟨b, 0, none⟩), .int .i64 o, .int .i64 v] w fun e w' => e = .returned (.int .i64 (addR L o v)) ∧ HdB w' b B (addL L o v) ∧ Fr B w w' :=
  (add_any b _ L w h o v hl).mono fun _ _ ⟨h1, h2, h3⟩ => ⟨h1, h2.mono (fun g _ h => by rcases h with h | h <;> omega), tr_mono h3 (fun i _ h => by rcases h with h | h <;> omega)⟩
theorem take_fr (b B : Nat) (L : List (Int × Int)) (w : World) (h : HdB w b B L) (hb : B ≤ b) :
    Calls Try.prog 11 #[.pointer (some ⟨b, 0, none⟩)] w fun e w' => e = .returned (topT L) ∧ HdB w' b B L.dropLast ∧ Fr B w w' ∧ w.grownBy w' (some b) :=
  (take_any b _ L w h).mono fun _ _ ⟨h1, h2, h3⟩ => ⟨h1, h2, tr_gs h3 (fun _ => hb), h3⟩
theorem new_fr (w : World) : Calls Try.prog 6 #[] w fun e w' => e = .returned (.pointer (some ⟨w.heap.size, 0, none⟩)) ∧ HdB w' w.heap.size w.heap.size [] ∧ w.grownBy w' none :=
  (new_any w).mono fun _ _ ⟨h1, h2, h3⟩ => ⟨h1, h2.mono (fun g _ h => h.elim), h3⟩

set_option maxHeartbeats 1600000 in
theorem awake_any (w : World) : Calls Try.prog 7 #[] w fun e w' => e = .returned (.bool true) ∧ w.grownBy w' none := by
  have a1 : addR [] 5 3 = 0 := by decide
  have l1 : addL [] 5 3 = [(5, 3)] := by decide
  have a2 : addR [(5, 3)] 6 4 = 0 := by decide
  have l2 : addL [(5, 3)] 6 4 = [(5, 3), (6, 4)] := by decide
  have a3 : addR [(5, 3), (6, 4)] 5 9 = 80 := by decide
  have l3 : addL [(5, 3), (6, 4)] 5 9 = [(5, 3), (6, 4)] := by decide
  have HA1 := Lib.hid a1
  have HA2 := Lib.hid a2
  have HA3 := Lib.hid a3
  have HL1 := Lib.hid l1
  have HL2 := Lib.hid l2
  have HL3 := Lib.hid l3
  clear a1 a2 a3 l1 l2 l3
  go_enter Try.func7, Try.ntmps7
  go_wp2_with fail
  refine (new_fr _).mono ?_
  rintro e w1 ⟨rfl, h1, hg1⟩
  have s1 := hg1.size
  go_wp2_with fail
  have lb : w.heap.size < w1.heap.size := h1.lt
  have H1 := Lib.hid h1
  clear h1
  refine (add_fr _ _ _ _ H1.out _ _ (by simp) (Nat.le_refl _) s1).mono ?_
  rw [HA1.out, HL1.out]
  rintro e w2 ⟨rfl, h2, f2⟩
  have s2 := f2.size
  have H2 := Lib.hid h2
  clear h2
  go_wp2_with fail
  refine (add_fr _ _ _ _ H2.out _ _ (by simp) (Nat.le_refl _) (by omega)).mono ?_
  rw [HA2.out, HL2.out]
  rintro e w3 ⟨rfl, h3, f3⟩
  have s3 := f3.size
  have H3 := Lib.hid h3
  clear h3
  go_wp2_with fail
  refine (add_fr _ _ _ _ H3.out _ _ (by simp) (Nat.le_refl _) (by omega)).mono ?_
  rw [HA3.out, HL3.out]
  rintro e w4 ⟨rfl, h4, f4⟩
  have s4 := f4.size
  have H4 := Lib.hid h4
  clear h4
  go_wp2_with fail
  refine (take_fr _ _ _ _ H4.out (Nat.le_refl _)).mono ?_
  rintro e w5 ⟨rfl, h5, f5, -⟩
  have s5 := f5.size
  have H5 := Lib.hid h5
  clear h5
  have e5 : topT [(5, 3), (6, 4)] = .tuple #[.agg #[.int .i64 6, .int .i64 4], .bool true] := rfl
  rw [e5]
  go_wp2_with fail
  have g6 := g_alloc (g_refl w5 none) (.cells #[.int .i64 6, .int .i64 4] 34)
  have hx := Blk.new w5 #[.int .i64 6, .int .i64 4] 34
  have lx : w5.heap.size < (w5.alloc (.cells #[.int .i64 6, .int .i64 4] 34)).heap.size := hx.lt
  refine (take_fr _ _ _ _ (H5.out.keep g6) (Nat.le_refl _)).mono ?_
  rintro e w6 ⟨rfl, h6, f6, k6⟩
  have e6 : topT [(5, 3), (6, 4)].dropLast = .tuple #[.agg #[.int .i64 5, .int .i64 3], .bool true] := rfl
  rw [e6]
  have s6 := f6.size
  have hx6 := hx.keeps k6 (by omega)
  have H6 := Lib.hid h6
  clear h6 hx k6
  go_wp2_with fail
  have g7 := g_alloc (g_refl w6 none) (.cells #[.int .i64 5, .int .i64 3] 34)
  have hy := Blk.new w6 #[.int .i64 5, .int .i64 3] 34
  refine (take_fr _ _ _ _ (H6.out.keep g7) (Nat.le_refl _)).mono ?_
  rintro e w7 ⟨rfl, h7, f7, k7⟩
  have e7 : topT [(5, 3), (6, 4)].dropLast.dropLast = .tuple #[.agg #[.int .i64 0, .int .i64 0], .bool false] := rfl
  rw [e7]
  have hx7 := (hx6.keepn g7).keeps k7 (by omega)
  have hy7 := hy.keeps k7 (by omega)
  have g8 := g_alloc (g_refl w7 none) (.cells #[.int .i64 0, .int .i64 0] 34)
  have x0 := (hx7.keepn g8).cell 0 (.int .i64 6) rfl
  have x1 := (hx7.keepn g8).cell 1 (.int .i64 4) rfl
  have y0 := (hy7.keepn g8).cell 0 (.int .i64 5) rfl
  have y1 := (hy7.keepn g8).cell 1 (.int .i64 3) rfl
  have fin : w.grownBy w7 none := fr_new (fr_trans (fr_trans (tr_g g7 _) f7 |> fr_trans (fr_trans (tr_g g6 _) f6) |> fr_trans (fr_trans (fr_trans (fr_trans f2 f3) f4) f5) |> fr_trans (tr_g hg1 _)) (tr_refl _ _))
  have FIN := Lib.hid fin
  clear fin hx7 hy7 hx6 hy f2 f3 f4 f5 f6 f7 k7
  go_wp2_with fail
  go_ret
  exact ⟨rfl, g_trans FIN.out g8⟩
end Go.Proofs.Ytgfpmmiaidnfeaa
