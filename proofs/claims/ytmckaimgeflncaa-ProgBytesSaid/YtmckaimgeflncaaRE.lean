/- The document's Encode of a program. -/
import Derived.Test.YtmckaimgeflncaaPZ
namespace Go.Proofs.Ytmckaimgeflncaa
open Go.RowKit
set_option linter.unusedVariables false
set_option linter.unusedSimpArgs false

set_option maxHeartbeats 1600000 in
theorem rpencode_many (ao : Option Addr) (n c : Nat) (L : List I4) (w : World) (hn : L.length = n) (h : 512 < n) :
    Calls Try.prog 10 #[.slice ao n c] w fun e w' => PEnc L w w' e := by
  have h' : (512 : Int) < n := by omega
  have HN := Lib.hid hn
  clear hn
  go_enter Try.func10, Try.ntmps10
  go_wp2_with fail
  go_ret2
  exact penc_many (g_refl _ _) (by rw [HN.out]; exact h)

set_option maxRecDepth 100000 in
set_option maxHeartbeats 3200000 in
theorem rpencode_few (ao : Option Addr) (n c : Nat) (L : List I4) (w : World) (hL : IRow w ao L) (hn : L.length = n) (h : n ≤ 512) :
    Calls Try.prog 10 #[.slice ao n c] w fun e w' => PEnc L w w' e := by
  obtain ⟨i0, hi, hz0, hz1, hz2⟩ := info_parts info5
  have h' : (n : Int) ≤ 512 := by omega
  have h'' : ¬ (512 : Int) < n := by omega
  have HN := Lib.hid hn
  have HL := Lib.hid hL
  clear hn hL
  have HW1 : Hid ((w.alloc (.cells #[.int .u8 71, .int .u8 78, .int .u8 84, .int .u8 1, .int .u8 ((n : Int) / 256), .int .u8 ((n : Int) % 256)] 5)).ownsRow w.heap.size 5 1 (.slice (some ⟨w.heap.size, 0, none⟩) 6 6) 6 (byV (hdB n))) := Lib.hid (World.ownsRow_lit w (base := w.heap.size) (e := 5) (size := 1) #[.int .u8 71, .int .u8 78, .int .u8 84, .int .u8 1, .int .u8 ((n : Int) / 256), .int .u8 ((n : Int) % 256)] 6 (Nat.le_refl _) (by unfold maxLen; omega) rfl)
  have G1 : Hid (w.grownBy (w.alloc (.cells #[.int .u8 71, .int .u8 78, .int .u8 84, .int .u8 1, .int .u8 ((n : Int) / 256), .int .u8 ((n : Int) % 256)] 5)) none) := Lib.hid (g_alloc (g_refl w none) _)
  go_enter Try.func10, Try.ntmps10
  go_wp2_with fail
  generalize w.alloc (.cells #[.int .u8 71, .int .u8 78, .int .u8 84, .int .u8 1, .int .u8 ((n : Int) / 256), .int .u8 ((n : Int) % 256)] 5) = w1 at *
  go_loopw [4, 5] (fun b i wr => ∃ j : Nat, j ≤ n ∧ i = .int .i64 j ∧ okL (L.take j) = true ∧ wr.ownsRow w.heap.size 5 1 b (hdB n ++ flatB (L.take j)).length (byV (hdB n ++ flatB (L.take j))) ∧ w.grownBy wr none) (fun _ i _ => (n - intOf i).toNat)
  case atStart => exact ⟨0, Nat.zero_le _, rfl, rfl, by simpa [flatB, hdB] using HW1.out, G1.out⟩
  case round =>
    obtain ⟨j, hj, rfl, hok, how, hg⟩ := hrel
    by_cases hlt : j < n
    · have hji : (j : Int) < n := by omega
      obtain ⟨x, hx⟩ : ∃ x, L[j]? = some x := ⟨L[j]'(by rw [HN.out]; exact hlt), List.getElem?_eq_getElem _⟩
      obtain ⟨b, off, rfl, x0, x1, x2, x3⟩ := HL.out.keep hg j x hx
      have GR := Lib.hid hg
      have HOW := Lib.hid how
      have HX := Lib.hid hx
      have HOK := Lib.hid hok
      cases ho : okx x
      · have HNO := Lib.hid (renc_not ho)
        have HBAD := Lib.hid (okL_get hx ho)
        clear hx hok ho how hg
        go_wp2_with fail
        refine (HNO.out _).mono ?_
        rintro e w2 ⟨rfl, g2⟩
        go_wp2_with fail
        go_ret2
        exact penc_bad (g_trans GR.out g2) (by rw [HN.out]; exact h) HBAD.out
      · have HYES := Lib.hid (renc_yes ho)
        have e1 : hdB n ++ flatB (L.take (j + 1)) = (hdB n ++ flatB (L.take j)) ++ encx x := by rw [List.take_add_one, hx, List.append_assoc]; congr 1; exact flatB_snoc _ _
        have HE1 := Lib.hid e1
        have HOK1 : Hid (okL (L.take (j + 1)) = true) := Lib.hid (by rw [List.take_add_one, hx]; exact (okL_snoc _ _).trans (by rw [hok, ho]; rfl))
        have hfl := flatB_len (L.take j)
        have htl : (L.take j).length ≤ j := List.length_take_le _ _
        have hhl : (hdB n ++ flatB (L.take j)).length = 6 + (flatB (L.take j)).length := by simp [hdB]; omega
        have hel := encx_len x
        have hlen : (hdB n ++ flatB (L.take j)).length + (encx x).length ≤ 20000 := by omega
        have hone := byV_one (encx x)
        have hposx : 0 < (encx x).length := (List.getElem?_eq_some_iff.1 (show (encx x)[0]? = some x.k from rfl)).1
        have HONE := Lib.hid hone
        clear hfl htl hhl hel e1 hx hok ho how hg hone
        generalize hdB n ++ flatB (L.take j) = bs at *
        go_wp2_with fail
        refine (HYES.out _).mono ?_
        rintro e w2 ⟨v, rfl, how2, g2⟩
        obtain ⟨g, cc, rfl, hgb, hgl, hcc1, hcc2, hll, hcell⟩ := own_slice how2 hposx
        have HO3 := Lib.hid (own_keepn HOW.out g2)
        have G3 := Lib.hid (g_trans GR.out g2)
        have HCELL := Lib.hid hcell
        have hsz3 := G3.out.size
        clear how2 g2 hcell x0 x1 x2 x3
        go_wp2_with (at_builtin; refine wpList_append_own _ rfl _ _ 23 rfl w.heap.size 5 i0 (.int .u8 0) 1 1 Try.underlying23 hi hz0 hz1 hz2 rfl (by decide) _ _ _ rfl HO3.out ⟨g, 0, none⟩ (encx x).length cc (byV (encx x)) rfl (by rw [byV_length, Nat.mul_one]) HCELL.out HONE.out (by unfold maxLen; omega) (by omega) hsz3 ?_; intro v4 w4 hown hgrow _)
        have HO4 := Lib.hid hown
        have G4 := Lib.hid (g_own2 G3.out (Nat.le_refl _) HO3.out hgrow)
        clear hown hgrow hsz3
        go_wp2_with fail
        go_roundw
        case rel => exact ⟨j + 1, by omega, by go_num, HOK1.out, by rw [HE1.out, List.length_append, byV_append]; exact HO4.out, G4.out⟩
        case measure => simp [intOf]; omega
    · obtain rfl : j = n := by omega
      rw [List.take_of_length_le (by rw [HN.out]; exact Nat.le_refl _)] at hok how
      have hbb : hdB j ++ flatB L = bodyB L := by unfold bodyB; rw [HN.out]
      rw [hbb] at how
      have hby : ∀ y ∈ bodyB L, 0 ≤ y ∧ y ≤ 255 := by rw [← hbb]; exact bytes_app (hdB_bytes h) (flatB_bytes hok)
      have hfl := flatB_len L
      have hll : (bodyB L).length = 6 + (flatB L).length := by rw [← hbb]; simp [hdB]; omega
      have hlen : (bodyB L).length ≤ 20000 := by have := HN.out; omega
      have hposb : 0 < (bodyB L).length := by omega
      obtain ⟨g, cc, rfl, hgb, hgl, hcc1, hcc2, hll2, hbr, _⟩ := own_slice2 how hposb hby
      have HFULL : Hid (bodyB L ++ [sumB (bodyB L)] = full L) := Lib.hid rfl
      have hsum := sumB_sum (bodyB L)
      have HOK := Lib.hid hok
      have HOW := Lib.hid how
      have GR := Lib.hid hg
      have HBR : Hid (BRow wr (some ⟨g, 0, none⟩) (bodyB L)) := Lib.hid hbr
      clear hbb hok how hg hfl hll hbr hby
      generalize bodyB L = BL at *
      generalize hblen : BL.length = bl at *
      have HBL := Lib.hid hblen
      generalize sumB BL = sm at *
      have HSM := Lib.hid hsum
      clear hblen hsum
      go_wp2_with fail
      go_loopw [8, 9] (fun s i wr' => ∃ q : Nat, q ≤ bl ∧ i = .int .i64 q ∧ s = .int .i64 (BL.take q).sum ∧ 0 ≤ (BL.take q).sum ∧ (BL.take q).sum ≤ 255 * (q : Int) ∧ wr' = wr) (fun _ i _ => (bl - intOf i).toNat)
      case atStart => exact ⟨0, Nat.zero_le _, rfl, rfl, by simp, by simp, rfl⟩
      case round =>
        obtain ⟨q, hq, rfl, rfl, hs0, hs1, rfl⟩ := hrel
        by_cases hlt : q < bl
        · have hqi : (q : Int) < bl := by omega
          obtain ⟨x, hx⟩ : ∃ x, BL[q]? = some x := ⟨BL[q]'(by rw [HBL.out]; exact hlt), List.getElem?_eq_getElem _⟩
          obtain ⟨⟨x0, x1⟩, b, off, hbo, hcell⟩ := HBR.out q x hx
          injection hbo with hbo
          injection hbo with q1 q2 q3
          subst q1 q2
          rw [Nat.zero_add] at hcell
          have hs : (BL.take (q + 1)).sum = (BL.take q).sum + x := by rw [List.take_add_one, hx]; simp
          have HS := Lib.hid hs
          generalize (BL.take q).sum = s at *
          clear hs hx
          go_wp2_with fail
          go_roundw
          case rel => exact ⟨q + 1, by omega, by go_num, by rw [HS.out], by rw [HS.out]; omega, by rw [HS.out]; omega, trivial⟩
          case measure => simp [intOf]; omega
        · obtain rfl : q = bl := by omega
          rw [List.take_of_length_le (by rw [HBL.out]; exact Nat.le_refl _)] at hs0 hs1 ⊢
          have hmod : 0 ≤ BL.sum % 256 ∧ BL.sum % 256 ≤ 255 := by omega
          have HSMo := HSM.out
          clear HSM
          generalize BL.sum = s at *
          subst HSMo
          have g6 := g_alloc (g_refl wr none) (.cells #[.int .u8 (s % 256)] 5)
          have HO6 := Lib.hid (own_keepn HOW.out g6)
          have G6 := Lib.hid (g_trans GR.out g6)
          have HN6 := Lib.hid (new_cells wr [.int .u8 (s % 256)] 5)
          have HON6 : Hid (∀ u ∈ ([.int .u8 (s % 256)] : List Value), u.oneCell' = true) := Lib.hid (by intro u hu; simp at hu; subst hu; rfl)
          have hsz6 := G6.out.size
          clear g6
          go_wp2_with (at_builtin; refine wpList_append_own _ rfl _ _ 23 rfl w.heap.size 5 i0 (.int .u8 0) 1 1 Try.underlying23 hi hz0 hz1 hz2 rfl (by decide) _ _ _ rfl HO6.out ⟨wr.heap.size, 0, none⟩ 1 1 [.int .u8 (s % 256)] rfl rfl HN6.out HON6.out (by unfold maxLen; omega) (by omega) hsz6 ?_; intro v7 w7 hown hgrow _)
          have HO7 := Lib.hid hown
          have G7 := Lib.hid (g_own2 G6.out (Nat.le_refl _) HO6.out hgrow)
          clear hown hgrow hsz6
          go_wp2_with fail
          go_ret2
          exact penc_ok G7.out (by rw [HN.out]; exact h) HOK.out (by rw [← HFULL.out, List.length_append, byV_append, HBL.out]; exact HO7.out)

theorem rpencode_any (ao : Option Addr) (n c : Nat) (L : List I4) (w : World) (hL : IRow w ao L) (hn : L.length = n) :
    Calls Try.prog 10 #[.slice ao n c] w fun e w' => PEnc L w w' e := by
  by_cases h : n ≤ 512
  · exact rpencode_few ao n c L w hL hn h
  · exact rpencode_many ao n c L w hn (by omega)
end Go.Proofs.Ytmckaimgeflncaa
