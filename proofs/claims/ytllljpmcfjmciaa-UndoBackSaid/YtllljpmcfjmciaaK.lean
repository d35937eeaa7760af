/- Fields that were written, each old value pushed ahead: the walk. -/
import Derived.Test.YtllljpmcfjmciaaJ
namespace Go.Proofs.Ytllljpmcfjmciaa
open Go.RowKit
set_option linter.unusedVariables false
set_option linter.unusedSimpArgs false

theorem eq8 (w : World) : (Op.equalIn 10000 32 (.agg #[.int .i64 1, .int .i64 0, .int .i64 1, .int .i64 1, .int .i64 1, .int .i64 2, .int .i64 1, .int .i64 3, .int .i64 1, .int .i64 4, .int .i64 1, .int .i64 5, .int .i64 1, .int .i64 6, .int .i64 1, .int .i64 7]) (.agg #[.int .i64 1, .int .i64 0, .int .i64 1, .int .i64 1, .int .i64 1, .int .i64 2, .int .i64 1, .int .i64 3, .int .i64 1, .int .i64 4, .int .i64 1, .int .i64 5, .int .i64 1, .int .i64 6, .int .i64 1, .int .i64 7])).run Try.prog w = .ok true w := by kernel_rfl

set_option maxRecDepth 100000 in
set_option maxHeartbeats 12800000 in
theorem walk_UndoBack (a0 : Option Addr) (a0n a0c : Nat) (a1 : Option Addr) (a1n a1c : Nat) (w : World) (w0 : Vec w a0 a0n a0c 1 (Q5)) (w1 : Vec w a1 a1n a1c 1 (Q3)) :
    Calls Try.prog 3 #[.slice a0 a0n a0c, .slice a1 a1n a1c] w fun e w' => e = .returned (.bool true) ∧ Below w.heap.size w w' := by
  have V0 := Lib.hid w0
  have V1 := Lib.hid w1
  have m0 := w0.1
  have m1 := w0.2.1
  have m2 := w1.1
  have m3 := w1.2.1
  clear w0 w1
  go_enter Try.func3, Try.ntmps3
  go_wp2_with fail
  refine (new_i 200 w).mono ?_
  rintro e w1 ⟨g1, ⟨hnp, -⟩ | ⟨-, b, rfl, hls⟩⟩
  · exact absurd hnp (by decide)
  have HX := Lib.hid (St0.start g1 hls)
  clear g1 hls
  generalize (fun i => w.heap.size ≤ i ∧ i < w1.heap.size) = S0 at *
  go_wp2_with fail
  refine (awake_any _).mono ?_
  rintro e w2 ⟨rfl, g2⟩
  have HX2 := Lib.hid (HX.out.keep g2)
  clear g2 HX
  go_upto_block 0 with fail
  have H3 := Lib.hid ((HX2.out.new #[.int .i64 0, .int .i64 0, .int .i64 0, .int .i64 0, .int .i64 0, .int .i64 0, .int .i64 0, .int .i64 0, .int .i64 0, .int .i64 0, .int .i64 0, .int .i64 0, .int .i64 0, .int .i64 0, .int .i64 0, .int .i64 0] 32).1.new #[.int .i64 0, .int .i64 0, .int .i64 0, .int .i64 0, .int .i64 0, .int .i64 0, .int .i64 0, .int .i64 0, .int .i64 0, .int .i64 0, .int .i64 0, .int .i64 0, .int .i64 0, .int .i64 0, .int .i64 0, .int .i64 0] 32).1
  have FZ := Lib.hid ((HX2.out.new #[.int .i64 0, .int .i64 0, .int .i64 0, .int .i64 0, .int .i64 0, .int .i64 0, .int .i64 0, .int .i64 0, .int .i64 0, .int .i64 0, .int .i64 0, .int .i64 0, .int .i64 0, .int .i64 0, .int .i64 0, .int .i64 0] 32).2.keep (g_alloc (g_refl _ none) (.cells #[.int .i64 0, .int .i64 0, .int .i64 0, .int .i64 0, .int .i64 0, .int .i64 0, .int .i64 0, .int .i64 0, .int .i64 0, .int .i64 0, .int .i64 0, .int .i64 0, .int .i64 0, .int .i64 0, .int .i64 0, .int .i64 0] 32)))
  have GZ := Lib.hid (by have h := ((HX2.out.new #[.int .i64 0, .int .i64 0, .int .i64 0, .int .i64 0, .int .i64 0, .int .i64 0, .int .i64 0, .int .i64 0, .int .i64 0, .int .i64 0, .int .i64 0, .int .i64 0, .int .i64 0, .int .i64 0, .int .i64 0, .int .i64 0] 32).1.new #[.int .i64 0, .int .i64 0, .int .i64 0, .int .i64 0, .int .i64 0, .int .i64 0, .int .i64 0, .int .i64 0, .int .i64 0, .int .i64 0, .int .i64 0, .int .i64 0, .int .i64 0, .int .i64 0, .int .i64 0, .int .i64 0] 32).2; rw [World.size_alloc] at h; exact h)
  have hfg : w2.heap.size ≠ w2.heap.size + 1 := by omega
  have hf0 : w.heap.size ≤ w2.heap.size := HX2.out.2.2.size
  have hg0 : w.heap.size ≤ w2.heap.size + 1 := by omega
  clear HX2
  generalize (w2.alloc (.cells #[.int .i64 0, .int .i64 0, .int .i64 0, .int .i64 0, .int .i64 0, .int .i64 0, .int .i64 0, .int .i64 0, .int .i64 0, .int .i64 0, .int .i64 0, .int .i64 0, .int .i64 0, .int .i64 0, .int .i64 0, .int .i64 0] 32)).alloc (.cells #[.int .i64 0, .int .i64 0, .int .i64 0, .int .i64 0, .int .i64 0, .int .i64 0, .int .i64 0, .int .i64 0, .int .i64 0, .int .i64 0, .int .i64 0, .int .i64 0, .int .i64 0, .int .i64 0, .int .i64 0, .int .i64 0] 32) = W3 at *
  generalize w2.heap.size + 1 = gb at *
  generalize w2.heap.size = fb at *
  go_cut [9] (fun s9 wx => St0 w wx S0 b 200 [] ∧ Sd wx S0 fb first8 32 ∧ Sd wx S0 gb #[.int .i64 0, .int .i64 0, .int .i64 0, .int .i64 0, .int .i64 0, .int .i64 0, .int .i64 0, .int .i64 0, .int .i64 0, .int .i64 0, .int .i64 0, .int .i64 0, .int .i64 0, .int .i64 0, .int .i64 0, .int .i64 0] 32)
  case first =>
    go_wp2_with fail
    go_loopw [9] (fun i wr => ∃ j : Nat, i = .int .i64 j ∧ j ≤ 8 ∧ St0 w wr S0 b 200 [] ∧ SdA wr S0 fb (fun c => if c < j then (1, (c : Int)) else (0, 0)) ∧ Sd wr S0 gb #[.int .i64 0, .int .i64 0, .int .i64 0, .int .i64 0, .int .i64 0, .int .i64 0, .int .i64 0, .int .i64 0, .int .i64 0, .int .i64 0, .int .i64 0, .int .i64 0, .int .i64 0, .int .i64 0, .int .i64 0, .int .i64 0] 32) (fun i _ => (8 - intOf i).toNat)
    case atStart => exact ⟨0, rfl, by omega, H3.out, by simpa using SdA.zero FZ.out, GZ.out⟩
    case round =>
      obtain ⟨j, rfl, hj, h1, h2, h3⟩ := hrel
      have H1 := Lib.hid h1
      have H2 := Lib.hid h2
      have H3 := Lib.hid h3
      by_cases hlt : j < 8
      · have hji : (j : Int) < 8 := by omega
        have c0 := h2.cell1 j hlt
        have c1 := h2.cell2 j hlt
        have f0 := h2.1.free (j * 2)
        have f1 := h2.1.free (j * 2 + 1)
        clear h1 h2 h3
        go_wp2_with fail
        have gk := g_set (g_set (g_refl wr (some fb)) (p := ⟨fb, j * 2, none⟩) (.inl rfl) (.int .i64 1)) (p := ⟨fb, j * 2 + 1, none⟩) (.inl rfl) (.int .i64 (j : Int))
        go_roundw
        case rel =>
          refine ⟨j + 1, by go_num, by omega, H1.out.gs gk H2.out.2 hf0, ?_, H3.out.gs gk (Ne.symm hfg)⟩
          have h := H2.out.setv j hlt 1 (j : Int)
          have e : upd (fun c => if c < j then (1, (c : Int)) else (0, 0)) j (1, (j : Int)) = fun c => if c < j + 1 then (1, (c : Int)) else (0, 0) := by
            funext c
            simp only [upd]
            by_cases e : c = j
            · subst e; simp
            · rw [if_neg e]
              by_cases e2 : c < j
              · rw [if_pos e2, if_pos (by omega)]
              · rw [if_neg e2, if_neg (by omega)]
          rwa [e] at h
        case measure => simp [intOf]; omega
      · obtain rfl : j = 8 := by omega
        clear h1 h2 h3
        go_wp2_with fail
        go_meet
        case rel => exact ⟨H1.out, H2.out.first (fun c hc => by simp [hc]), H3.out⟩
  case rest =>
    obtain ⟨h1, h2, h3⟩ := hcut
    have H1 := Lib.hid h1
    have FB := Lib.hid h2
    have GZ := h3
    have c0 := h2.1.cell 0 (.int .i64 1) rfl
    have c1 := h2.1.cell 1 (.int .i64 0) rfl
    have c2 := h2.1.cell 2 (.int .i64 1) rfl
    have c3 := h2.1.cell 3 (.int .i64 1) rfl
    have c4 := h2.1.cell 4 (.int .i64 1) rfl
    have c5 := h2.1.cell 5 (.int .i64 2) rfl
    have c6 := h2.1.cell 6 (.int .i64 1) rfl
    have c7 := h2.1.cell 7 (.int .i64 3) rfl
    have c8 := h2.1.cell 8 (.int .i64 1) rfl
    have c9 := h2.1.cell 9 (.int .i64 4) rfl
    have c10 := h2.1.cell 10 (.int .i64 1) rfl
    have c11 := h2.1.cell 11 (.int .i64 5) rfl
    have c12 := h2.1.cell 12 (.int .i64 1) rfl
    have c13 := h2.1.cell 13 (.int .i64 6) rfl
    have c14 := h2.1.cell 14 (.int .i64 1) rfl
    have c15 := h2.1.cell 15 (.int .i64 7) rfl
    have d0 := h3.1.cell 0 (.int .i64 0) rfl
    have d1 := h3.1.cell 1 (.int .i64 0) rfl
    have d2 := h3.1.cell 2 (.int .i64 0) rfl
    have d3 := h3.1.cell 3 (.int .i64 0) rfl
    have d4 := h3.1.cell 4 (.int .i64 0) rfl
    have d5 := h3.1.cell 5 (.int .i64 0) rfl
    have d6 := h3.1.cell 6 (.int .i64 0) rfl
    have d7 := h3.1.cell 7 (.int .i64 0) rfl
    have d8 := h3.1.cell 8 (.int .i64 0) rfl
    have d9 := h3.1.cell 9 (.int .i64 0) rfl
    have d10 := h3.1.cell 10 (.int .i64 0) rfl
    have d11 := h3.1.cell 11 (.int .i64 0) rfl
    have d12 := h3.1.cell 12 (.int .i64 0) rfl
    have d13 := h3.1.cell 13 (.int .i64 0) rfl
    have d14 := h3.1.cell 14 (.int .i64 0) rfl
    have d15 := h3.1.cell 15 (.int .i64 0) rfl
    have e0 := h3.1.free 0
    have e1 := h3.1.free 1
    have e2 := h3.1.free 2
    have e3 := h3.1.free 3
    have e4 := h3.1.free 4
    have e5 := h3.1.free 5
    have e6 := h3.1.free 6
    have e7 := h3.1.free 7
    have e8 := h3.1.free 8
    have e9 := h3.1.free 9
    have e10 := h3.1.free 10
    have e11 := h3.1.free 11
    have e12 := h3.1.free 12
    have e13 := h3.1.free 13
    have e14 := h3.1.free 14
    have e15 := h3.1.free 15
    rename World => W5
    have gch : W5.grownBy ((((((((((((((((W5.setCell ⟨gb, 0, none⟩ (.int .i64 1)).setCell ⟨gb, 1, none⟩ (.int .i64 0)).setCell ⟨gb, 2, none⟩ (.int .i64 1)).setCell ⟨gb, 3, none⟩ (.int .i64 1)).setCell ⟨gb, 4, none⟩ (.int .i64 1)).setCell ⟨gb, 5, none⟩ (.int .i64 2)).setCell ⟨gb, 6, none⟩ (.int .i64 1)).setCell ⟨gb, 7, none⟩ (.int .i64 3)).setCell ⟨gb, 8, none⟩ (.int .i64 1)).setCell ⟨gb, 9, none⟩ (.int .i64 4)).setCell ⟨gb, 10, none⟩ (.int .i64 1)).setCell ⟨gb, 11, none⟩ (.int .i64 5)).setCell ⟨gb, 12, none⟩ (.int .i64 1)).setCell ⟨gb, 13, none⟩ (.int .i64 6)).setCell ⟨gb, 14, none⟩ (.int .i64 1)).setCell ⟨gb, 15, none⟩ (.int .i64 7)) (some gb) := g_set (g_set (g_set (g_set (g_set (g_set (g_set (g_set (g_set (g_set (g_set (g_set (g_set (g_set (g_set (g_set (g_refl W5 (some gb)) (p := ⟨gb, 0, none⟩) (.inl rfl) (.int .i64 1)) (p := ⟨gb, 1, none⟩) (.inl rfl) (.int .i64 0)) (p := ⟨gb, 2, none⟩) (.inl rfl) (.int .i64 1)) (p := ⟨gb, 3, none⟩) (.inl rfl) (.int .i64 1)) (p := ⟨gb, 4, none⟩) (.inl rfl) (.int .i64 1)) (p := ⟨gb, 5, none⟩) (.inl rfl) (.int .i64 2)) (p := ⟨gb, 6, none⟩) (.inl rfl) (.int .i64 1)) (p := ⟨gb, 7, none⟩) (.inl rfl) (.int .i64 3)) (p := ⟨gb, 8, none⟩) (.inl rfl) (.int .i64 1)) (p := ⟨gb, 9, none⟩) (.inl rfl) (.int .i64 4)) (p := ⟨gb, 10, none⟩) (.inl rfl) (.int .i64 1)) (p := ⟨gb, 11, none⟩) (.inl rfl) (.int .i64 5)) (p := ⟨gb, 12, none⟩) (.inl rfl) (.int .i64 1)) (p := ⟨gb, 13, none⟩) (.inl rfl) (.int .i64 6)) (p := ⟨gb, 14, none⟩) (.inl rfl) (.int .i64 1)) (p := ⟨gb, 15, none⟩) (.inl rfl) (.int .i64 7)
    have HG5 : Hid (Sd ((((((((((((((((W5.setCell ⟨gb, 0, none⟩ (.int .i64 1)).setCell ⟨gb, 1, none⟩ (.int .i64 0)).setCell ⟨gb, 2, none⟩ (.int .i64 1)).setCell ⟨gb, 3, none⟩ (.int .i64 1)).setCell ⟨gb, 4, none⟩ (.int .i64 1)).setCell ⟨gb, 5, none⟩ (.int .i64 2)).setCell ⟨gb, 6, none⟩ (.int .i64 1)).setCell ⟨gb, 7, none⟩ (.int .i64 3)).setCell ⟨gb, 8, none⟩ (.int .i64 1)).setCell ⟨gb, 9, none⟩ (.int .i64 4)).setCell ⟨gb, 10, none⟩ (.int .i64 1)).setCell ⟨gb, 11, none⟩ (.int .i64 5)).setCell ⟨gb, 12, none⟩ (.int .i64 1)).setCell ⟨gb, 13, none⟩ (.int .i64 6)).setCell ⟨gb, 14, none⟩ (.int .i64 1)).setCell ⟨gb, 15, none⟩ (.int .i64 7)) S0 gb first8 32) := Lib.hid ⟨by have h := ((((((((((((((((GZ.1.set 0 (.int .i64 1)).set 1 (.int .i64 0)).set 2 (.int .i64 1)).set 3 (.int .i64 1)).set 4 (.int .i64 1)).set 5 (.int .i64 2)).set 6 (.int .i64 1)).set 7 (.int .i64 3)).set 8 (.int .i64 1)).set 9 (.int .i64 4)).set 10 (.int .i64 1)).set 11 (.int .i64 5)).set 12 (.int .i64 1)).set 13 (.int .i64 6)).set 14 (.int .i64 1)).set 15 (.int .i64 7)); simpa [first8] using h, h3.2⟩
    have H5 := Lib.hid (h1.gs gch h3.2 hg0)
    have FB5 := Lib.hid (h2.gs gch hfg)
    clear h1 h2 h3 gch H3 FZ
    go_upto_block 2 with fail
    clear c0 d0 e0 c1 d1 e1 c2 d2 e2 c3 d3 e3 c4 d4 e4 c5 d5 e5 c6 d6 e6 c7 d7 e7 c8 d8 e8 c9 d9 e9 c10 d10 e10 c11 d11 e11 c12 d12 e12 c13 d13 e13 c14 d14 e14 c15 d15 e15 GZ
    generalize ((((((((((((((((W5.setCell ⟨gb, 0, none⟩ (.int .i64 1)).setCell ⟨gb, 1, none⟩ (.int .i64 0)).setCell ⟨gb, 2, none⟩ (.int .i64 1)).setCell ⟨gb, 3, none⟩ (.int .i64 1)).setCell ⟨gb, 4, none⟩ (.int .i64 1)).setCell ⟨gb, 5, none⟩ (.int .i64 2)).setCell ⟨gb, 6, none⟩ (.int .i64 1)).setCell ⟨gb, 7, none⟩ (.int .i64 3)).setCell ⟨gb, 8, none⟩ (.int .i64 1)).setCell ⟨gb, 9, none⟩ (.int .i64 4)).setCell ⟨gb, 10, none⟩ (.int .i64 1)).setCell ⟨gb, 11, none⟩ (.int .i64 5)).setCell ⟨gb, 12, none⟩ (.int .i64 1)).setCell ⟨gb, 13, none⟩ (.int .i64 6)).setCell ⟨gb, 14, none⟩ (.int .i64 1)).setCell ⟨gb, 15, none⟩ (.int .i64 7)) = W6 at *
    go_cut [10] (fun s10 wx => ∃ (S : Nat → Prop) (L : List OV) (F : FV), L.length ≤ 200 ∧ St0 w wx S b 200 L ∧ SdA wx S fb F ∧ Sd wx S gb first8 32 ∧ BackI L F)
    case first =>
      go_wp2_with fail
      go_loopw [10] (fun i wr => ∃ (j : Nat) (S : Nat → Prop) (L : List OV) (F : FV), i = .int .i64 j ∧ j ≤ a0n ∧ j ≤ a1n ∧ j ≤ 200 ∧ L.length = j ∧ St0 w wr S b 200 L ∧ SdA wr S fb F ∧ Sd wr S gb first8 32 ∧ BackI L F) (fun i _ => (a0n - intOf i).toNat)
      case atStart => exact ⟨0, S0, [], _, rfl, by omega, by omega, by omega, rfl, H5.out, SdA.of FB5.out, HG5.out, BackI.start (fun c hc => rfl)⟩
      case round =>
        obtain ⟨j, S, L, F, rfl, hj0, hj1, hj2, hl, h1, h2, h3, h4⟩ := hrel
        have H1 := Lib.hid h1
        have FB := Lib.hid h2
        have GB := Lib.hid h3
        have HB := Lib.hid h4
        have HL := Lib.hid hl
        clear h1 h2 h3 h4 hl
        by_cases x0 : j < a0n
        · by_cases x1 : j < a1n
          · by_cases x2 : j < 200
            · have y0 : (j : Int) < a0n := by omega
              have y1 : (j : Int) < a1n := by omega
              have y2 : (j : Int) < 200 := by omega
              obtain ⟨b0, o0, v0, rfl, ⟨q, hqe, hq⟩, e0⟩ := V0.out.at1 j x0
              obtain ⟨b1, o1, v1, rfl, ⟨t, hte, ht⟩, e1⟩ := V1.out.at1 j x1
              obtain rfl : v0 = .int .u8 q := by simpa using hqe
              obtain rfl : v1 = .int .i64 t := by simpa using hte
              have e0 := H1.out.2.2.cell e0 (by simp)
              have HE1 := Lib.hid e1
              clear hqe hte
              have hq : 0 ≤ q ∧ q ≤ 255 := by simpa [Lit.wf, IntKind.min, IntKind.max, IntKind.signed, IntKind.bits] using hq
              obtain ⟨k, hk⟩ : ∃ k : Nat, q % 8 = k := ⟨(q % 8).toNat, by omega⟩
              have hk8 : k < 8 := by omega
              have hki : (k : Int) < 8 := by omega
              have hmod : (wrap64 q).tmod 8 = (k : Int) := by
                have e : wrap64 q = q := by unfold wrap64; omega
                rw [e, Int.tmod_eq_emod_of_nonneg hq.1, hk]
              have hk0 : ¬ (k : Int) < 0 := by omega
              have z0 := FB.out.cell1 k hk8
              have z1 := FB.out.cell2 k hk8
              have HF0 : Hid (∀ F2 : Int × Int, F k = F2 → F2 = F k) := Lib.hid (fun _ e => e.symm)
              obtain ⟨⟨fk, fv⟩, hfk⟩ : ∃ F2, F k = F2 := ⟨_, rfl⟩
              rw [hfk] at z0 z1
              have HFK := Lib.hid hfk
              clear hk hfk ht hq HF0 e1
              go_wp2_with fail
              refine (push_i (L := L) H1.out.1 (by decide) 0 0 (k : Int) fk fv false 0 (by rw [HL.out]; omega)).mono ?_
              rw [show pushP 200 L ⟨0, 0, (k : Int), fk, fv, false, 0⟩ = (0, L ++ [⟨0, 0, (k : Int), fk, fv, false, 0⟩]) by unfold pushP; rw [if_neg (by rw [HL.out]; omega)]]
              rintro e w7 ⟨rfl, hmv⟩
              obtain ⟨S1, h1, hsd, -, -⟩ := H1.out.move hmv
              have H7 := Lib.hid h1
              have FB7 := Lib.hid (FB.out.move hsd)
              have GB7 := Lib.hid (hsd _ _ _ GB.out)
              obtain ⟨hbi, hfirst⟩ := HB.out.push hk8 t
              rw [HFK.out] at hbi hfirst
              have HBI := Lib.hid hbi
              have HFI := Lib.hid hfirst
              have e1 := H7.out.2.2.cell HE1.out (by simp)
              have z1 := FB7.out.cell2 k hk8
              have f1 := FB7.out.1.free (k * 2 + 1)
              clear hmv h1 hsd hbi hfirst z0 H1 FB GB HB
              go_wp2_with fail
              have gk := g_set (g_refl w7 (some fb)) (p := ⟨fb, k * 2 + 1, none⟩) (.inl rfl) (.int .i64 t)
              have H8 := Lib.hid (H7.out.gs gk FB7.out.2 hf0)
              have GB8 := Lib.hid (GB7.out.gs gk (Ne.symm hfg))
              have FB8 : Hid (SdA (w7.setCell ⟨fb, k * 2 + 1, none⟩ (.int .i64 t)) S1 fb (upd F k (fk, t))) := Lib.hid (by have h := FB7.out.set2 k hk8 t; rw [HFK.out] at h; exact h)
              clear gk H7 FB7 GB7 z1 f1 e1
              generalize w7.setCell ⟨fb, k * 2 + 1, none⟩ (.int .i64 t) = w8 at *
              refine (first_any b _ 200 _ 0 0 (k : Int) w8 H8.out.1.1 (by decide) (by simp [HL.out]; omega)).mono ?_
              rw [HFI.out]
              rintro e wf ⟨rfl, gf⟩
              obtain ⟨h1, x1⟩ := (H8.out.keep gf).new #[.int .i64 1, .int .i64 (k : Int)] 31
              have ga := g_alloc (g_refl wf none) (.cells #[.int .i64 1, .int .i64 (k : Int)] 31)
              have H9 := Lib.hid h1
              have FB9 := Lib.hid ((FB8.out.keep gf).keep ga)
              have GB9 := Lib.hid ((GB8.out.keep gf).keep ga)
              have gc := SdA.of GB9.out
              have TT := Lib.hid (And.intro (x1.1.cell 0 _ rfl) (And.intro (x1.1.cell 1 _ rfl) (And.intro (gc.cell1 k hk8) (gc.cell2 k hk8))))
              clear gf h1 x1 ga gc H8 FB8 GB8
              go_wp2_with fail
              generalize wf.alloc (.cells #[.int .i64 1, .int .i64 (k : Int)] 31) = W9 at *
              refine wp_region_held_drew (S := fun W' => W9.grownBy W' none) (by kernel_rfl) (g_drew (g_refl _ _)) (fun hHeld => ?_)
              refine wpAnyH_take (i := 0) (v := .bool true) rfl (by kernel_rfl) (by kernel_rfl) (by kernel_rfl) (fun _ _ _ h => h) (Or.inl ⟨by rfl, fun w hw => by clear hw; go_simp⟩) hHeld ?_
              try simp only [Act.put, List.setIfInBounds_toArray, List.set_cons_zero, List.set_cons_succ, List.getElem_toArray, List.getElem_cons_zero, List.getElem_cons_succ]
              refine wpAnyH_take (i := 1) (v := .bool false) rfl (by kernel_rfl) (by kernel_rfl) (by kernel_rfl) (fun _ _ _ h => h) (Or.inl ⟨by rfl, fun w hw => by clear hw; go_simp⟩) hHeld ?_
              try simp only [Act.put, List.setIfInBounds_toArray, List.set_cons_zero, List.set_cons_succ, List.getElem_toArray, List.getElem_cons_zero, List.getElem_cons_succ]
              refine wpAnyH_take (i := 2) (v := .bool false) rfl (by kernel_rfl) (by kernel_rfl) (by kernel_rfl) (fun _ _ _ h => h) (Or.inl ⟨by rfl, fun w hw => by clear hw; go_simp⟩) hHeld ?_
              try simp only [Act.put, List.setIfInBounds_toArray, List.set_cons_zero, List.set_cons_succ, List.getElem_toArray, List.getElem_cons_zero, List.getElem_cons_succ]
              refine wpAnyH_take (i := 3) (v := .agg #[.int .i64 1, .int .i64 (k : Int)]) rfl (by kernel_rfl) (by kernel_rfl) (by kernel_rfl) (fun _ _ _ h => h) (Or.inl ⟨by rfl, fun w hw => by have q0 := hw.cell TT.out.1 (by simp); have q1 := hw.cell TT.out.2.1 (by simp); clear hw; go_simp⟩) hHeld ?_
              try simp only [Act.put, List.setIfInBounds_toArray, List.set_cons_zero, List.set_cons_succ, List.getElem_toArray, List.getElem_cons_zero, List.getElem_cons_succ]
              refine wpAnyH_take (i := 4) (v := .int .i64 (k : Int)) rfl (by kernel_rfl) (by kernel_rfl) (by kernel_rfl) (fun _ _ _ h => h) (Or.inl ⟨by rfl, fun w hw => by clear hw; go_simp⟩) hHeld ?_
              try simp only [Act.put, List.setIfInBounds_toArray, List.set_cons_zero, List.set_cons_succ, List.getElem_toArray, List.getElem_cons_zero, List.getElem_cons_succ]
              refine wpAnyH_take (i := 5) (v := .pointer (some ⟨gb, k * 2, none⟩)) rfl (by kernel_rfl) (by kernel_rfl) (by kernel_rfl) (fun _ _ _ h => h) (Or.inl ⟨by rfl, fun w hw => by clear hw; go_simp⟩) hHeld ?_
              try simp only [Act.put, List.setIfInBounds_toArray, List.set_cons_zero, List.set_cons_succ, List.getElem_toArray, List.getElem_cons_zero, List.getElem_cons_succ]
              refine wpAnyH_take (i := 6) (v := .agg #[.int .i64 1, .int .i64 (k : Int)]) rfl (by kernel_rfl) (by kernel_rfl) (by kernel_rfl) (fun _ _ _ h => h) (Or.inl ⟨by rfl, fun w hw => by have q0 := hw.cell TT.out.2.2.1 (by simp); have q1 := hw.cell TT.out.2.2.2 (by simp); clear hw; go_simp⟩) hHeld ?_
              try simp only [Act.put, List.setIfInBounds_toArray, List.set_cons_zero, List.set_cons_succ, List.getElem_toArray, List.getElem_cons_zero, List.getElem_cons_succ]
              refine wpAnyH_take (i := 7) (v := .bool false) rfl (by kernel_rfl) (by kernel_rfl) (by kernel_rfl) (fun _ _ _ h => h) (Or.inl ⟨by rfl, fun w hw => by clear hw; go_simp⟩) hHeld ?_
              try simp only [Act.put, List.setIfInBounds_toArray, List.set_cons_zero, List.set_cons_succ, List.getElem_toArray, List.getElem_cons_zero, List.getElem_cons_succ]
              refine wpAnyH_take (i := 8) (v := .bool false) rfl (by kernel_rfl) (by kernel_rfl) (by kernel_rfl) (fun _ _ _ h => h) (Or.inl ⟨by rfl, fun w hw => by clear hw; go_simp⟩) hHeld ?_
              try simp only [Act.put, List.setIfInBounds_toArray, List.set_cons_zero, List.set_cons_succ, List.getElem_toArray, List.getElem_cons_zero, List.getElem_cons_succ]
              refine wpAnyH_done (by kernel_rfl) ?_ _
              go_wp2_with fail
              go_roundw
              case rel => exact ⟨j + 1, S1, _, _, by go_num, by omega, by omega, by omega, by simp [HL.out], H9.out.keep hHeld, FB9.out.keep hHeld, GB9.out.keep hHeld, HBI.out⟩
              case measure => simp [intOf]; omega
            · have y0 : (j : Int) < a0n := by omega
              have y1 : (j : Int) < a1n := by omega
              have y2 : ¬ (j : Int) < 200 := by omega
              go_wp2_with fail
              go_meet
              case rel => exact ⟨S, L, F, by rw [HL.out]; omega, H1.out, FB.out, GB.out, HB.out⟩
          · have y0 : (j : Int) < a0n := by omega
            have y1 : ¬ (j : Int) < a1n := by omega
            go_wp2_with fail
            go_meet
            case rel => exact ⟨S, L, F, by rw [HL.out]; omega, H1.out, FB.out, GB.out, HB.out⟩
        · have y0 : ¬ (j : Int) < a0n := by omega
          go_wp2_with fail
          go_meet
          case rel => exact ⟨S, L, F, by rw [HL.out]; omega, H1.out, FB.out, GB.out, HB.out⟩
    case rest =>
      obtain ⟨S, L, F, hl, h1, h2, h3, h4⟩ := hcut
      have H1 := Lib.hid h1
      have FB := Lib.hid h2
      have GB := Lib.hid h3
      have HB := Lib.hid h4
      clear h1 h2 h3 h4 H5 FB5 HG5 V0 V1
      go_wp2_with fail
      go_loopw [14] (fun _ wr => ∃ (S : Nat → Prop) (L : List OV) (F : FV), L.length ≤ 200 ∧ St0 w wr S b 200 L ∧ SdA wr S fb F ∧ Sd wr S gb first8 32 ∧ (∀ p ∈ L, 0 ≤ p.f ∧ p.f < 8) ∧ (∀ c, c < 8 → undoP L F c = (1, (c : Int)))) (fun _ wr => lenOf (wr.cell? ⟨b, 1, none⟩))
      case atStart => exact ⟨S, L, F, hl, H1.out, FB.out, GB.out, HB.out.fields, HB.out.back⟩
      case round =>
        clear H1 FB GB HB hl
        obtain ⟨S, L, F, hl, h1, h2, h3, h4, h5⟩ := hrel
        have H1 := Lib.hid h1
        have FB := Lib.hid h2
        have GB := Lib.hid h3
        rcases List.eq_nil_or_concat L with rfl | ⟨L0, o, rfl⟩
        · have f8 := h2.first h5
          clear h1 h2 h3 h4 h5 hl
          go_wp2_with fail
          refine (len_any b _ 200 [] wr H1.out.1.1 (by decide)).mono ?_
          rintro e wz ⟨rfl, rfl⟩
          have c0 := f8.1.cell 0 (.int .i64 1) rfl
          have d0 := GB.out.1.cell 0 (.int .i64 1) rfl
          have c1 := f8.1.cell 1 (.int .i64 0) rfl
          have d1 := GB.out.1.cell 1 (.int .i64 0) rfl
          have c2 := f8.1.cell 2 (.int .i64 1) rfl
          have d2 := GB.out.1.cell 2 (.int .i64 1) rfl
          have c3 := f8.1.cell 3 (.int .i64 1) rfl
          have d3 := GB.out.1.cell 3 (.int .i64 1) rfl
          have c4 := f8.1.cell 4 (.int .i64 1) rfl
          have d4 := GB.out.1.cell 4 (.int .i64 1) rfl
          have c5 := f8.1.cell 5 (.int .i64 2) rfl
          have d5 := GB.out.1.cell 5 (.int .i64 2) rfl
          have c6 := f8.1.cell 6 (.int .i64 1) rfl
          have d6 := GB.out.1.cell 6 (.int .i64 1) rfl
          have c7 := f8.1.cell 7 (.int .i64 3) rfl
          have d7 := GB.out.1.cell 7 (.int .i64 3) rfl
          have c8 := f8.1.cell 8 (.int .i64 1) rfl
          have d8 := GB.out.1.cell 8 (.int .i64 1) rfl
          have c9 := f8.1.cell 9 (.int .i64 4) rfl
          have d9 := GB.out.1.cell 9 (.int .i64 4) rfl
          have c10 := f8.1.cell 10 (.int .i64 1) rfl
          have d10 := GB.out.1.cell 10 (.int .i64 1) rfl
          have c11 := f8.1.cell 11 (.int .i64 5) rfl
          have d11 := GB.out.1.cell 11 (.int .i64 5) rfl
          have c12 := f8.1.cell 12 (.int .i64 1) rfl
          have d12 := GB.out.1.cell 12 (.int .i64 1) rfl
          have c13 := f8.1.cell 13 (.int .i64 6) rfl
          have d13 := GB.out.1.cell 13 (.int .i64 6) rfl
          have c14 := f8.1.cell 14 (.int .i64 1) rfl
          have d14 := GB.out.1.cell 14 (.int .i64 1) rfl
          have c15 := f8.1.cell 15 (.int .i64 7) rfl
          have d15 := GB.out.1.cell 15 (.int .i64 7) rfl
          have heq := eq8
          go_wp2_with fail
          go_ret
          exact ⟨rfl, below_gn (Below.refl _ _) H1.out.2.2 (Nat.le_refl _)⟩
        · rw [List.concat_eq_append] at *
          have hf := h4 o (by simp)
          have HP4 : Hid (∀ p ∈ L0, 0 ≤ p.f ∧ p.f < 8) := Lib.hid (fun p hp => h4 p (by simp [hp]))
          have HP5 : Hid (∀ c, c < 8 → undoP L0 (upd F o.f.toNat (o.vk, o.vn)) c = (1, (c : Int))) := Lib.hid (fun c hc => by rw [← undoP_snoc]; exact h5 c hc)
          obtain ⟨m, hm⟩ : ∃ m, L0.length = m := ⟨_, rfl⟩
          have HLM : Hid ((L0 ++ [o]).length = m + 1) := Lib.hid (by simp [hm])
          have HM := Lib.hid hm
          have HLL : Hid (L0.length ≤ 200) := Lib.hid (by simp at hl; omega)
          have HLO := Lib.hid hl
          clear h1 h2 h3 h4 h5 hl hm
          have hpos : (0 : Int) < (m : Int) + 1 := by omega
          have hpos2 : ¬ (m : Int) + 1 ≤ m := by omega
          have LEN : Hid (∀ W, LS W S b 200 (L0 ++ [o]) → Calls Try.prog 10 #[.pointer (some ⟨b, 0, none⟩)] W fun e w' => e = .returned (.int .i64 ((m : Int) + 1)) ∧ w' = W) := Lib.hid (fun W h => by
            refine (len_any b _ 200 _ W h.1 (by decide)).mono ?_
            rintro e w' ⟨rfl, rfl⟩
            exact ⟨by rw [HLM.out]; simp, rfl⟩)
          go_wp2_with fail
          refine (LEN.out _ H1.out.1).mono ?_
          rintro e wz ⟨rfl, rfl⟩
          go_wp2_with fail
          refine (LEN.out _ H1.out.1).mono ?_
          rintro e wz ⟨rfl, rfl⟩
          go_wp2_with fail
          refine (pop_i H1.out.1 (by decide) (by have := HLO.out; omega)).mono ?_
          rw [popP_snoc]
          rintro e w7 ⟨rfl, hmv⟩
          obtain ⟨S1, h1, hsd, -, -⟩ := H1.out.move hmv
          have FB7 := Lib.hid (FB.out.move hsd)
          have GB7 := Lib.hid (hsd _ _ _ GB.out)
          have HO := Lib.hid H1.out.1.lenOf
          obtain ⟨ok, on, of, ovk, ovn, oh, os⟩ := o
          simp only at hf HP5 ⊢
          obtain ⟨k, rfl⟩ : ∃ k : Nat, of = k := ⟨of.toNat, by omega⟩
          have hk8 : k < 8 := by omega
          have hki : (k : Int) < 8 := by omega
          have hk7 : ¬ (7 : Int) < k := by omega
          have hk0 : ¬ (k : Int) < 0 := by omega
          obtain ⟨h8, x8⟩ := h1.new #[.int .i64 ok, .int .i64 on, .int .i64 (k : Int), .int .i64 ovk, .int .i64 ovn, .bool oh, .int .i64 os] 36
          have ga := g_alloc (g_refl w7 none) (.cells #[.int .i64 ok, .int .i64 on, .int .i64 (k : Int), .int .i64 ovk, .int .i64 ovn, .bool oh, .int .i64 os] 36)
          have H8 := Lib.hid h8
          have FB8 := Lib.hid (FB7.out.keep ga)
          have GB8 := Lib.hid (GB7.out.keep ga)
          have x2 := x8.1.cell 2 _ rfl
          have x3 := x8.1.cell 3 _ rfl
          have x4 := x8.1.cell 4 _ rfl
          have z0 := FB8.out.cell1 k hk8
          have z1 := FB8.out.cell2 k hk8
          have f0 := FB8.out.1.free (k * 2)
          have f1 := FB8.out.1.free (k * 2 + 1)
          clear hmv h1 hsd ga h8 x8 FB7 GB7
          go_wp2_with fail
          generalize w7.alloc (.cells #[.int .i64 ok, .int .i64 on, .int .i64 (k : Int), .int .i64 ovk, .int .i64 ovn, .bool oh, .int .i64 os] 36) = w8 at *
          refine (len_any b _ 200 L0 w8 H8.out.1.1 (by decide)).mono ?_
          rw [HM.out]
          rintro e wz ⟨rfl, rfl⟩
          go_wp2_with fail
          have gk := g_set (g_set (g_refl wz (some fb)) (p := ⟨fb, k * 2, none⟩) (.inl rfl) (.int .i64 ovk)) (p := ⟨fb, k * 2 + 1, none⟩) (.inl rfl) (.int .i64 ovn)
          have H9 := H8.out.gs gk FB8.out.2 hf0
          have HN := H9.1.lenOf
          go_roundw
          case rel => exact ⟨S1, L0, _, HLL.out, H9, FB8.out.setv k hk8 ovk ovn, GB8.out.gs gk (Ne.symm hfg), HP4.out, by have := HP5.out; simpa using this⟩
          case measure => rw [HN, HO.out, HLM.out, HM.out]; omega
end Go.Proofs.Ytllljpmcfjmciaa
