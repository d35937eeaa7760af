/- The page's example. -/
import Derived.Test.YtkkcfielmpjgeaaK
namespace Go.Proofs.Ytkkcfielmpjgeaa
open Go.RowKit
set_option linter.unusedVariables false
set_option linter.unusedSimpArgs false

def L3 : List OB := [⟨(2, 1048581), 1, 1, 1, 1, 0, [(2, 1048582)]⟩, ⟨(2, 1048582), 1, 1, 1, 2, 0, [(2, 1048583)]⟩, ⟨(2, 1048583), 1, 1, 1, 1, 0, [(2, 0)]⟩]
theorem wv_lit (a b : Int) (h1 : 0 ≤ a) (h2 : a ≤ 2000000) (h3 : 0 ≤ b) (h4 : b ≤ 2000000) : WV (a, b) := ⟨WalkArith.wf_i64 (by omega), WalkArith.wf_i64 (by omega)⟩
theorem L3_wf : ∀ o ∈ L3, WO o := by
  intro o ho
  simp only [L3, List.mem_cons, List.not_mem_nil, or_false] at ho
  rcases ho with rfl | rfl | rfl
  all_goals
    refine ⟨wv_lit _ _ (by omega) (by omega) (by omega) (by omega), fun f hf => ?_⟩
    simp only [List.mem_cons, List.not_mem_nil, or_false] at hf
    subst hf
    exact wv_lit _ _ (by omega) (by omega) (by omega) (by omega)
theorem sc5 : sc L3 (2, 1048581) = [(2, 1048582)] := by decide
theorem sc6 : sc L3 (2, 1048582) = [(2, 1048583)] := by decide
theorem sc7 : sc L3 (2, 1048583) = [(2, 0)] := by decide
theorem w_closure : Wlk (V L3 ip) (sc L3) [] [(2, 1048581)] [(2, 1048581)] := by
  refine .go (by decide) (by simp) ?_ (.nil _)
  rw [sc5]
  exact .skip (.inl (by decide)) (.nil _)
theorem w_reach5 : Wlk (V L3 ia) (sc L3) [] [(2, 1048581)] [(2, 1048581), (2, 1048582), (2, 1048583)] := by
  refine .go (by decide) (by simp) ?_ (.nil _)
  rw [sc5]
  refine .go (by decide) (by simp) ?_ (.nil _)
  rw [sc6]
  refine .go (by decide) (by simp) ?_ (.nil _)
  rw [sc7]
  exact .skip (.inl (by decide)) (.nil _)
theorem w_reach6 : Wlk (V L3 ia) (sc L3) [] [(2, 1048582)] [(2, 1048582), (2, 1048583)] := by
  refine .go (by decide) (by simp) ?_ (.nil _)
  rw [sc6]
  refine .go (by decide) (by simp) ?_ (.nil _)
  rw [sc7]
  exact .skip (.inl (by decide)) (.nil _)
theorem srow1 {w : World} {z : Nat} {a b : Int} (h : Blk w z #[.int .i64 a, .int .i64 b] 25) : SRow w (some ⟨z, 0, none⟩) [(a, b)] := by
  intro i p hi
  cases i with
  | zero => simp at hi; subst hi; exact ⟨z, 0, rfl, h.cell 0 _ rfl, h.cell 1 _ rfl⟩
  | succ i => simp at hi
theorem srow3 {w : World} {z : Nat} {a b c d e f : Int} (h : Blk w z #[.int .i64 a, .int .i64 b, .int .i64 c, .int .i64 d, .int .i64 e, .int .i64 f] 25) : SRow w (some ⟨z, 0, none⟩) [(a, b), (c, d), (e, f)] := by
  intro i p hi
  match i with
  | 0 => simp at hi; subst hi; exact ⟨z, 0, rfl, h.cell 0 _ rfl, h.cell 1 _ rfl⟩
  | 1 => simp at hi; subst hi; exact ⟨z, 0, rfl, h.cell 2 _ rfl, h.cell 3 _ rfl⟩
  | 2 => simp at hi; subst hi; exact ⟨z, 0, rfl, h.cell 4 _ rfl, h.cell 5 _ rfl⟩
  | i + 3 => simp at hi
theorem orow3 {w : World} {lb z1 z2 z3 : Nat} (h : Blk w lb #[.int .i64 2, .int .i64 1048581, .int .i64 1, .int .i64 1, .int .i64 1, .int .i64 1, .int .i64 0, .slice (some ⟨z1, 0, none⟩) 1 1, .int .i64 2, .int .i64 1048582, .int .i64 1, .int .i64 1, .int .i64 1, .int .i64 2, .int .i64 0, .slice (some ⟨z2, 0, none⟩) 1 1, .int .i64 2, .int .i64 1048583, .int .i64 1, .int .i64 1, .int .i64 1, .int .i64 1, .int .i64 0, .slice (some ⟨z3, 0, none⟩) 1 1] 34) (h1 : Blk w z1 #[.int .i64 2, .int .i64 1048582] 25) (h2 : Blk w z2 #[.int .i64 2, .int .i64 1048583] 25) (h3 : Blk w z3 #[.int .i64 2, .int .i64 0] 25) : ORow w w.heap.size (some ⟨lb, 0, none⟩) L3 := by
  intro i o hi
  match i with
  | 0 =>
    simp [L3] at hi; subst hi
    exact ⟨lb, 0, some ⟨z1, 0, none⟩, 1, rfl, h.lt, h.cell 0 _ rfl, h.cell 1 _ rfl, h.cell 2 _ rfl, h.cell 3 _ rfl, h.cell 4 _ rfl, h.cell 5 _ rfl, h.cell 6 _ rfl, h.cell 7 _ rfl, srow1 h1, fun a e _ => by cases e; exact h1.lt, by simp, by omega, fun e => by cases e⟩
  | 1 =>
    simp [L3] at hi; subst hi
    exact ⟨lb, 0, some ⟨z2, 0, none⟩, 1, rfl, h.lt, h.cell 8 _ rfl, h.cell 9 _ rfl, h.cell 10 _ rfl, h.cell 11 _ rfl, h.cell 12 _ rfl, h.cell 13 _ rfl, h.cell 14 _ rfl, h.cell 15 _ rfl, srow1 h2, fun a e _ => by cases e; exact h2.lt, by simp, by omega, fun e => by cases e⟩
  | 2 =>
    simp [L3] at hi; subst hi
    exact ⟨lb, 0, some ⟨z3, 0, none⟩, 1, rfl, h.lt, h.cell 16 _ rfl, h.cell 17 _ rfl, h.cell 18 _ rfl, h.cell 19 _ rfl, h.cell 20 _ rfl, h.cell 21 _ rfl, h.cell 22 _ rfl, h.cell 23 _ rfl, srow1 h3, fun a e _ => by cases e; exact h3.lt, by simp, by omega, fun e => by cases e⟩
  | i + 3 => simp [L3] at hi

set_option maxRecDepth 100000 in
set_option maxHeartbeats 3200000 in
theorem awake_any (w : World) : Calls Try.prog 8 #[] w fun e w' => e = .returned (.bool true) ∧ w.grownBy w' none := by
  go_enter Try.func8, Try.ntmps8
  go_wp2_with fail
  refine (ref_any 6 (by omega) (by omega) w).mono ?_
  rintro e w1 ⟨rfl, g1⟩
  have G1 := Lib.hid g1
  clear g1
  go_wp2_with fail
  refine (object_any 5 1 _ _ (by omega) (by omega) w1).mono ?_
  rintro e w2 ⟨z1, rfl, hz, hb, g2⟩
  have HZ1 := Lib.hid hb
  have G2 := Lib.hid (g_trans G1.out g2)
  clear hz hb g2
  go_wp2_with fail
  refine (ref_any 7 (by omega) (by omega) w2).mono ?_
  rintro e w3 ⟨rfl, g3⟩
  have HZ1 := Lib.hid (HZ1.out.keepn g3)
  have G3 := Lib.hid (g_trans G2.out g3)
  clear g3
  go_wp2_with fail
  refine (object_any 6 2 _ _ (by omega) (by omega) w3).mono ?_
  rintro e w4 ⟨z2, rfl, hz, hb, g4⟩
  have HZ2 := Lib.hid hb
  have HZ1 := Lib.hid (HZ1.out.keepn g4)
  have G4 := Lib.hid (g_trans G3.out g4)
  clear hz hb g4
  go_wp2_with fail
  refine (rnil_any w4).mono ?_
  rintro e w5 ⟨rfl, g5⟩
  have HZ1 := Lib.hid (HZ1.out.keepn g5)
  have HZ2 := Lib.hid (HZ2.out.keepn g5)
  have G5 := Lib.hid (g_trans G4.out g5)
  clear g5
  go_wp2_with fail
  refine (object_any 7 1 _ _ (by omega) (by omega) w5).mono ?_
  rintro e w6 ⟨z3, rfl, hz, hb, g6⟩
  have ga := g_alloc (g_refl w6 none) (.cells #[.int .i64 2, .int .i64 1048581, .int .i64 1, .int .i64 1, .int .i64 1, .int .i64 1, .int .i64 0, .slice (some ⟨z1, 0, none⟩) 1 1, .int .i64 2, .int .i64 1048582, .int .i64 1, .int .i64 1, .int .i64 1, .int .i64 2, .int .i64 0, .slice (some ⟨z2, 0, none⟩) 1 1, .int .i64 2, .int .i64 1048583, .int .i64 1, .int .i64 1, .int .i64 1, .int .i64 1, .int .i64 0, .slice (some ⟨z3, 0, none⟩) 1 1] 34)
  have HB := Lib.hid (Blk.new w6 #[.int .i64 2, .int .i64 1048581, .int .i64 1, .int .i64 1, .int .i64 1, .int .i64 1, .int .i64 0, .slice (some ⟨z1, 0, none⟩) 1 1, .int .i64 2, .int .i64 1048582, .int .i64 1, .int .i64 1, .int .i64 1, .int .i64 2, .int .i64 0, .slice (some ⟨z2, 0, none⟩) 1 1, .int .i64 2, .int .i64 1048583, .int .i64 1, .int .i64 1, .int .i64 1, .int .i64 1, .int .i64 0, .slice (some ⟨z3, 0, none⟩) 1 1] 34)
  have HZ3 := Lib.hid (hb.keepn ga)
  have HZ1 := Lib.hid ((HZ1.out.keepn g6).keepn ga)
  have HZ2 := Lib.hid ((HZ2.out.keepn g6).keepn ga)
  have G6 := Lib.hid (g_trans (g_trans G5.out g6) ga)
  clear hz hb g6 ga
  have HR := Lib.hid (orow3 HB.out HZ1.out HZ2.out HZ3.out)
  go_wp2_with fail
  obtain ⟨lb, hlb⟩ : ∃ lb, w6.heap.size = lb := ⟨_, rfl⟩
  rw [hlb] at HR HB ⊢
  generalize w6.alloc (.cells #[.int .i64 2, .int .i64 1048581, .int .i64 1, .int .i64 1, .int .i64 1, .int .i64 1, .int .i64 0, .slice (some ⟨z1, 0, none⟩) 1 1, .int .i64 2, .int .i64 1048582, .int .i64 1, .int .i64 1, .int .i64 1, .int .i64 2, .int .i64 0, .slice (some ⟨z2, 0, none⟩) 1 1, .int .i64 2, .int .i64 1048583, .int .i64 1, .int .i64 1, .int .i64 1, .int .i64 1, .int .i64 0, .slice (some ⟨z3, 0, none⟩) 1 1] 34) = W at *
  have GW0 := Lib.hid (g_refl W none)
  refine (ref_any 5 (by omega) (by omega) _).mono ?_
  rintro e w7 ⟨rfl, g⟩
  have GW7 := Lib.hid (g_trans GW0.out g)
  clear g
  go_wp2_with fail
  refine (closure_any W.heap.size (some ⟨lb, 0, none⟩) 3 3 L3 2 1048581 w7 (HR.out.keepn GW7.out) GW7.out.size L3_wf rfl (by omega) (wv_lit _ _ (by omega) (by omega) (by omega) (by omega))).mono ?_
  rintro e w8 ⟨rv, L, rfl, hwl, hrow, -, g8⟩
  obtain rfl := hwl.det w_closure
  obtain ⟨lo, lc, rfl, hsr, -⟩ := srow_of_own hrow
  have HSR := Lib.hid hsr
  have GW8 := Lib.hid (g_trans GW7.out g8)
  clear hwl hrow hsr g8
  simp only [List.length_cons, List.length_nil, Nat.zero_add]
  go_wp2_with fail
  refine (ref_any 5 (by omega) (by omega) _).mono ?_
  rintro e w9 ⟨rfl, g⟩
  have GW9 := Lib.hid (g_trans GW8.out g)
  have HSR := Lib.hid (HSR.out.keep g)
  have ga := g_alloc (g_refl w9 none) (.cells #[.int .i64 2, .int .i64 1048581] 25)
  have HSR := Lib.hid (HSR.out.keep ga)
  have GW10 := Lib.hid (g_trans GW9.out ga)
  have HS2 := Lib.hid (srow1 (Blk.new w9 #[.int .i64 2, .int .i64 1048581] 25))
  clear ga
  clear g
  go_wp2_with fail
  refine (same_any lo (some ⟨w9.heap.size, 0, none⟩) 1 lc 1 [(2, 1048581)] _ HSR.out HS2.out rfl (by omega)).mono ?_
  rintro e w11 ⟨rfl, g11⟩
  have GW11 := Lib.hid (g_trans GW10.out g11)
  clear g11
  go_wp2_with fail
  refine (ref_any 5 (by omega) (by omega) _).mono ?_
  rintro e w12 ⟨rfl, g⟩
  have GW12 := Lib.hid (g_trans GW11.out g)
  have ga := g_alloc (g_refl w12 none) (.cells #[.int .i64 2, .int .i64 1048581] 25)
  have GW13 := Lib.hid (g_trans GW12.out ga)
  have HS3 := Lib.hid (srow1 (Blk.new w12 #[.int .i64 2, .int .i64 1048581] 25))
  clear ga
  clear g
  go_wp2_with fail
  refine (reach_any W.heap.size (some ⟨lb, 0, none⟩) 3 3 L3 (some ⟨w12.heap.size, 0, none⟩) 1 1 [(2, 1048581)] _ (HR.out.keepn GW13.out) GW13.out.size L3_wf rfl (by omega) HS3.out rfl (by omega) (by intro v hv; simp at hv; subst hv; exact (wv_lit _ _ (by omega) (by omega) (by omega) (by omega)))).mono ?_
  rintro e w14 ⟨rv, L, rfl, hwl, hrow, -, g14⟩
  obtain rfl := hwl.det w_reach5
  obtain ⟨lo2, lc2, rfl, hsr, -⟩ := srow_of_own hrow
  have HSR := Lib.hid hsr
  have GW14 := Lib.hid (g_trans GW13.out g14)
  clear hwl hrow hsr g14
  simp only [List.length_cons, List.length_nil, Nat.zero_add, Nat.reduceAdd]
  go_wp2_with fail
  refine (ref_any 5 (by omega) (by omega) _).mono ?_
  rintro e w15 ⟨rfl, g⟩
  have GW15 := Lib.hid (g_trans GW14.out g)
  have HSR := Lib.hid (HSR.out.keep g)
  clear g
  go_wp2_with fail
  refine (ref_any 6 (by omega) (by omega) _).mono ?_
  rintro e w16 ⟨rfl, g⟩
  have GW16 := Lib.hid (g_trans GW15.out g)
  have HSR := Lib.hid (HSR.out.keep g)
  clear g
  go_wp2_with fail
  refine (ref_any 7 (by omega) (by omega) _).mono ?_
  rintro e w17 ⟨rfl, g⟩
  have GW17 := Lib.hid (g_trans GW16.out g)
  have HSR := Lib.hid (HSR.out.keep g)
  have ga := g_alloc (g_refl w17 none) (.cells #[.int .i64 2, .int .i64 1048581, .int .i64 2, .int .i64 1048582, .int .i64 2, .int .i64 1048583] 25)
  have HSR := Lib.hid (HSR.out.keep ga)
  have GW18 := Lib.hid (g_trans GW17.out ga)
  have HS4 := Lib.hid (srow3 (Blk.new w17 #[.int .i64 2, .int .i64 1048581, .int .i64 2, .int .i64 1048582, .int .i64 2, .int .i64 1048583] 25))
  clear ga
  clear g
  go_wp2_with fail
  refine (same_any lo2 (some ⟨w17.heap.size, 0, none⟩) 3 lc2 3 [(2, 1048581), (2, 1048582), (2, 1048583)] _ HSR.out HS4.out rfl (by omega)).mono ?_
  rintro e w19 ⟨rfl, g19⟩
  have GW19 := Lib.hid (g_trans GW18.out g19)
  clear g19
  go_wp2_with fail
  refine (ref_any 6 (by omega) (by omega) _).mono ?_
  rintro e w20 ⟨rfl, g⟩
  have GW20 := Lib.hid (g_trans GW19.out g)
  clear g
  go_wp2_with fail
  refine (sound_any W.heap.size (some ⟨lb, 0, none⟩) 3 3 L3 2 1048582 _ (HR.out.keepn GW20.out) GW20.out.size L3_wf rfl (by omega) (wv_lit _ _ (by omega) (by omega) (by omega) (by omega)) w_reach6 (by decide)).mono ?_
  rintro e w21 ⟨rfl, g21⟩
  have GF := Lib.hid (g_trans G6.out (g_trans GW20.out g21))
  clear g21
  go_wp2_with fail
  go_ret
  exact ⟨rfl, GF.out⟩
end Go.Proofs.Ytkkcfielmpjgeaa
