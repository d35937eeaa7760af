/- The document's branches and blocks; the program's blocks; CheckMates. -/
import Derived.Test.YtfobfcnbbafplaaRD
import Derived.Test.YtfobfcnbbafplaaCS
namespace Go.Proofs.Ytfobfcnbbafplaa
open Go.RowKit
set_option linter.unusedVariables false
set_option linter.unusedSimpArgs false

set_option maxRecDepth 100000 in
set_option maxHeartbeats 6400000 in
theorem rbranch_any (ao : Option Addr) (n c : Nat) (P : List I4) (pl : Int) (w : World) (hP : IRow w ao P) (hn : P.length = n) (h5 : n < 10000) :
    Calls Try.prog 22 #[.slice ao n c, .int .i64 pl] w fun e w' => e = .returned (.tuple #[.int .i64 (brA P pl).1, .int .i64 (brA P pl).2]) ∧ w.grownBy w' none := by
  have HC := Lib.hid (rcheck_any ao n c P w hP hn (by omega))
  have HN := Lib.hid hn
  have HB : Hid (brA P pl = if chkR (thrA P) = 0 ∧ 0 ≤ pl ∧ pl ≤ P.length then topP (opn P pl.toNat) else (-1, 0)) := Lib.hid (by unfold brA; simp only [chk_zero])
  have HBR := Lib.hid (fun m hm W g => branch_any ao n c P m W (hP.keep g) hn (by omega) hm)
  generalize brA P pl = br at *
  generalize chkR (thrA P) = ck at *
  obtain ⟨br1, br2⟩ := br
  clear hP hn
  by_cases hin : ck = 0 ∧ 0 ≤ pl ∧ pl ≤ n
  · obtain ⟨rfl, hp0, hp1⟩ := hin
    obtain ⟨p, rfl⟩ : ∃ p : Nat, pl = p := ⟨pl.toNat, by omega⟩
    have hbr : topP (opn P p) = (br1, br2) := by rw [HB.out, if_pos (by rw [HN.out]; exact ⟨rfl, hp0, hp1⟩), Int.toNat_natCast]
    have HB1 := Lib.hid (fun W g => HBR.out p (by omega) W g)
    rw [hbr] at HB1
    have hp2 : ¬ (p : Int) < 0 := by omega
    have hp3 : ¬ (n : Int) < p := by omega
    clear hbr HB HBR
    simp only at HB1
    go_enter Try.func22, Try.ntmps22
    go_wp2_with fail
    refine HC.out.mono ?_
    rintro e w1 ⟨rfl, g1⟩
    have G1 := Lib.hid g1
    clear g1
    go_wp2_with fail
    refine (HB1.out _ G1.out).mono ?_
    rintro e w2 ⟨rfl, g2⟩
    have G2 := Lib.hid (g_trans (g_trans G1.out g2) (g_alloc (g_refl w2 none) (.cells #[.int .i64 br1, .int .i64 br2] 58)))
    have XB := Lib.hid (Blk.new w2 #[.int .i64 br1, .int .i64 br2] 58)
    clear g2
    go_upto_region 4 with fail
    have hW2 : w2.heap.size = w2.heap.size := rfl
    generalize w2.alloc (.cells #[.int .i64 br1, .int .i64 br2] 58) = W at *
    have D := Lib.hid (And.intro (XB.out.cell 0 _ rfl) (XB.out.cell 1 _ rfl))
    refine wp_region_held_drew (S := fun W' => W.grownBy W' none) (by kernel_rfl) (g_drew (g_refl _ _)) (fun hHeld => ?_)
    refine wpAnyH_take (i := 0) (v := .pointer (some ⟨w2.heap.size, 0, none⟩)) rfl (by kernel_rfl) (by kernel_rfl) (by kernel_rfl) (fun _ _ _ h => h) (Or.inl ⟨by rfl, fun w hw => by clear hw; go_simp⟩) hHeld ?_
    try simp only [Act.put, List.setIfInBounds_toArray, List.set_cons_zero, List.set_cons_succ, List.getElem_toArray, List.getElem_cons_zero, List.getElem_cons_succ]
    refine wpAnyH_take (i := 1) (v := .int .i64 br1) rfl (by kernel_rfl) (by kernel_rfl) (by kernel_rfl) (fun _ _ _ h => h) (Or.inl ⟨by rfl, fun w hw => by have q0 := hw.cell D.out.1 (by simp); clear hw; go_simp⟩) hHeld ?_
    try simp only [Act.put, List.setIfInBounds_toArray, List.set_cons_zero, List.set_cons_succ, List.getElem_toArray, List.getElem_cons_zero, List.getElem_cons_succ]
    refine wpAnyH_take (i := 2) (v := .pointer (some ⟨w2.heap.size, 1, none⟩)) rfl (by kernel_rfl) (by kernel_rfl) (by kernel_rfl) (fun _ _ _ h => h) (Or.inl ⟨by rfl, fun w hw => by clear hw; go_simp⟩) hHeld ?_
    try simp only [Act.put, List.setIfInBounds_toArray, List.set_cons_zero, List.set_cons_succ, List.getElem_toArray, List.getElem_cons_zero, List.getElem_cons_succ]
    refine wpAnyH_take (i := 3) (v := .int .i64 br2) rfl (by kernel_rfl) (by kernel_rfl) (by kernel_rfl) (fun _ _ _ h => h) (Or.inl ⟨by rfl, fun w hw => by have q0 := hw.cell D.out.2 (by simp); clear hw; go_simp⟩) hHeld ?_
    try simp only [Act.put, List.setIfInBounds_toArray, List.set_cons_zero, List.set_cons_succ, List.getElem_toArray, List.getElem_cons_zero, List.getElem_cons_succ]
    refine wpAnyH_take (i := 4) (v := .int .i64 br1) rfl (by kernel_rfl) (by kernel_rfl) (by kernel_rfl) (fun _ _ _ h => h) (Or.inl ⟨by rfl, fun w hw => by clear hw; go_simp⟩) hHeld ?_
    try simp only [Act.put, List.setIfInBounds_toArray, List.set_cons_zero, List.set_cons_succ, List.getElem_toArray, List.getElem_cons_zero, List.getElem_cons_succ]
    refine wpAnyH_take (i := 5) (v := .int .i64 br2) rfl (by kernel_rfl) (by kernel_rfl) (by kernel_rfl) (fun _ _ _ h => h) (Or.inl ⟨by rfl, fun w hw => by clear hw; go_simp⟩) hHeld ?_
    try simp only [Act.put, List.setIfInBounds_toArray, List.set_cons_zero, List.set_cons_succ, List.getElem_toArray, List.getElem_cons_zero, List.getElem_cons_succ]
    refine wpAnyH_done (by kernel_rfl) ?_ _
    go_wp2_with fail
    go_ret2
    exact ⟨rfl, g_trans G2.out hHeld⟩
  · obtain ⟨h1, h2⟩ : br1 = -1 ∧ br2 = 0 := by
      have := HB.out
      rw [if_neg (by rw [HN.out]; exact hin)] at this
      injection this with q1 q2
      exact ⟨q1, q2⟩
    subst h1 h2
    have hcs : pl < 0 ∨ (¬ pl < 0 ∧ (n : Int) < pl) ∨ (¬ pl < 0 ∧ ¬ (n : Int) < pl ∧ ¬ ck = 0) := by omega
    clear HB hin HBR
    rcases hcs with h1 | ⟨h1, h2⟩ | ⟨h1, h2, h3⟩
    · go_enter Try.func22, Try.ntmps22
      go_wp2_with fail
      go_ret2
      exact ⟨rfl, g_refl _ _⟩
    · go_enter Try.func22, Try.ntmps22
      go_wp2_with fail
      go_ret2
      exact ⟨rfl, g_refl _ _⟩
    · have hz2 : (ck != 0) = true := by simp [h3]
      go_enter Try.func22, Try.ntmps22
      go_wp2_with fail
      refine HC.out.mono ?_
      rintro e w1 ⟨rfl, g1⟩
      go_wp2_with fail
      go_ret2
      exact ⟨rfl, g1⟩

/-- the outermost blocks -/
def blk (P : List I4) : Nat → List Int
  | 0 => []
  | k + 1 => if kd P k = 15 ∧ opn P k = [] then blk P k ++ [(k : Int)] else blk P k
def blkA (P : List I4) : List Int := if chkR (thrA P) = 0 then blk P P.length else []
def PBlk (w w' : World) (e : Ending) (L : List Int) : Prop := ∃ v, e = .returned v ∧ w'.ownsRow w.heap.size 3 1 v L.length (icl L) ∧ w.grownBy w' none
theorem pblk_nil {w w' : World} (g : w.grownBy w' none) : PBlk w w' (.returned (.slice none 0 0)) [] := ⟨_, rfl, World.ownsRow_nil _ _ _ _, g⟩
theorem blk_len (P : List I4) : ∀ k, (blk P k).length ≤ k := fun k => by
  induction k with
  | zero => exact Nat.le_refl _
  | succ k ih =>
    rw [blk]
    split
    · rw [List.length_append, List.length_cons, List.length_nil]; omega
    · omega

set_option maxRecDepth 100000 in
set_option maxHeartbeats 6400000 in
theorem rblocks_any (ao : Option Addr) (n c : Nat) (P : List I4) (w : World) (hP : IRow w ao P) (hn : P.length = n) (h5 : n < 10000) :
    Calls Try.prog 25 #[.slice ao n c] w fun e w' => PBlk w w' e (blkA P) := by
  obtain ⟨i0, hi, hz0, hz1, hz2⟩ := info_parts info3'
  have HC := Lib.hid (rcheck_any ao n c P w hP hn (by omega))
  have HP := Lib.hid hP
  have HN := Lib.hid hn
  clear hP hn
  by_cases hz : chkR (thrA P) = 0
  · have HD : Hid (blkA P = blk P n) := Lib.hid (by unfold blkA; rw [if_pos hz, HN.out])
    rw [hz] at HC
    generalize blkA P = dp at *
    clear hz
    go_enter Try.func25, Try.ntmps25
    go_wp2_with fail
    refine HC.out.mono ?_
    rintro e w1 ⟨rfl, g1⟩
    have G1 := Lib.hid g1
    clear g1
    go_wp2_with fail
    go_loopw [3, 4] (fun o i wr => ∃ (k : Nat) (v : Value), o = v ∧ i = .int .i64 k ∧ k ≤ n ∧ wr.ownsRow w.heap.size 3 1 v (blk P k).length (icl (blk P k)) ∧ w.grownBy wr none) (fun _ i _ => (n - intOf i).toNat)
    case atStart => exact ⟨0, _, rfl, rfl, Nat.zero_le _, World.ownsRow_nil _ _ _ _, G1.out⟩
    case round =>
      obtain ⟨k, v, rfl, rfl, hk, how, hg⟩ := hrel
      have hbl := blk_len P k
      by_cases hlt : k < n
      · have hki : (k : Int) < n := by omega
        have hkk : ¬ (n : Int) ≤ k := by omega
        obtain ⟨x, hx, hxk⟩ := kd_ex (P := P) (s := k) (by rw [HN.out]; exact hlt)
        obtain ⟨bp, offp, rfl, x0, -⟩ := HP.out.keep hg k x hx
        have HO := Lib.hid (opens_any (some ⟨bp, offp, none⟩) n c P k wr (HP.out.keep hg) HN.out (by omega) (by omega))
        have HOW0 := Lib.hid how
        have HG := Lib.hid hg
        have HX : Hid (blk P (k + 1) = if x.k = 15 ∧ opn P k = [] then blk P k ++ [(k : Int)] else blk P k) := Lib.hid (by rw [blk, hxk])
        clear how hg hx hxk
        obtain ⟨xk, xa, xb, xc⟩ := x
        simp only at x0 HX
        by_cases h15 : xk = 15
        · subst h15
          go_wp2_with fail
          refine HO.out.mono ?_
          rintro e w2 ⟨v2, rfl, bo, d, rfl, hr, hc1, hc2, hg⟩
          have HOW := Lib.hid (own_keepn HOW0.out hg)
          have HG9 := Lib.hid (g_trans HG.out hg)
          clear hr hc1 hc2 hg
          by_cases hO : opn P k = []
          · have HY : Hid (blk P (k + 1) = blk P k ++ [(k : Int)]) := Lib.hid (by rw [HX.out, if_pos ⟨by simp, hO⟩])
            rw [hO, List.length_nil]
            clear HX hO
            have ga := g_alloc (g_refl w2 none) (.cells #[.int .i64 (k : Int)] 3)
            have HO5 := Lib.hid (own_keepn HOW.out ga)
            have G5 := Lib.hid (g_trans HG9.out ga)
            have HNW := Lib.hid (news1 w2 (k : Int) 3)
            have HON := Lib.hid (ones1 (k : Int))
            have hz5 := G5.out.size
            clear ga
            go_wp2_with (at_builtin; refine wpList_append_own _ rfl _ _ 24 rfl w.heap.size 3 i0 (.int .i64 0) 1 8 Try.underlying24 hi hz0 hz1 hz2 rfl (by decide) _ _ _ rfl HO5.out ⟨w2.heap.size, 0, none⟩ 1 1 [.int .i64 (k : Int)] rfl rfl HNW.out HON.out (by unfold maxLen; omega) (by omega) hz5 ?_; intro v6 w6 hown hgrow _)
            have HO6 := Lib.hid hown
            have G6 := Lib.hid (g_own2 G5.out (Nat.le_refl _) HO5.out hgrow)
            clear hown hgrow
            go_wp2_with fail
            go_roundw
            case rel => exact ⟨k + 1, _, rfl, by go_num, by omega, by rw [HY.out]; simpa [icl_snoc] using HO6.out, G6.out⟩
            case measure => simp [intOf]; omega
          · have HY : Hid (blk P (k + 1) = blk P k) := Lib.hid (by rw [HX.out, if_neg (fun h => hO h.2)])
            have hpos : ¬ (opn P k).length = 0 := fun h => hO (List.eq_nil_of_length_eq_zero h)
            generalize (opn P k).length = ol at *
            have e0 : ((ol : Int) == 0) = false := by simp [hpos]
            have e1 : ¬ (ol : Int) = 0 := by omega
            clear HX hO
            go_wp2_with fail
            go_roundw
            case rel => exact ⟨k + 1, _, rfl, by go_num, by omega, by rw [HY.out]; exact HOW.out, HG9.out⟩
            case measure => simp [intOf]; omega
        · have HY : Hid (blk P (k + 1) = blk P k) := Lib.hid (by rw [HX.out, if_neg (fun h => h15 h.1)])
          have e15 : (xk == 15) = false := by simp [h15]
          clear HX
          go_wp2_with fail
          go_roundw
          case rel => exact ⟨k + 1, _, rfl, by go_num, by omega, by rw [HY.out]; exact HOW0.out, HG.out⟩
          case measure => simp [intOf]; omega
      · obtain rfl : k = n := by omega
        have hkk : ¬ (k : Int) < k := by omega
        have HO := Lib.hid how
        have HG := Lib.hid hg
        clear how hg
        go_wp2_with fail
        go_ret
        exact ⟨_, rfl, by rw [HD.out]; exact HO.out, HG.out⟩
  · have HD : Hid (blkA P = []) := Lib.hid (by unfold blkA; rw [if_neg hz])
    generalize blkA P = dp at *
    generalize chkR (thrA P) = ck at *
    obtain rfl : dp = [] := HD.out
    have hz2 : (ck != 0) = true := by simp [hz]
    go_enter Try.func25, Try.ntmps25
    go_wp2_with fail
    refine HC.out.mono ?_
    rintro e w1 ⟨rfl, g1⟩
    go_wp2_with fail
    go_ret
    exact pblk_nil g1

set_option maxRecDepth 100000 in
set_option maxHeartbeats 6400000 in
theorem blocks_any (ao : Option Addr) (n c : Nat) (P : List I4) (w : World) (hP : IRow w ao P) (hn : P.length = n) (h5 : n < 10000) :
    Calls Try.prog 20 #[.slice ao n c] w fun e w' => PBlk w w' e (blkA P) := by
  obtain ⟨i0, hi, hz0, hz1, hz2⟩ := info_parts info3'
  have HT := Lib.hid (through_all ao n c P w hP hn (by omega))
  have HP := Lib.hid hP
  have HN := Lib.hid hn
  clear hP hn
  by_cases hz : (thrA P).bad < 0
  · have HD : Hid (blkA P = blk P n) := Lib.hid (by unfold blkA; rw [if_pos ((chk_zero _).2 hz), HN.out])
    obtain ⟨-, -, -, -, -, hres⟩ := thr_acc hz
    rw [hres] at HT
    have HTL : Hid ((tops P (P.length + 1)).length = n + 1) := Lib.hid (by rw [tops_len, HN.out])
    generalize blkA P = dp at *
    have hneg : ¬ (0 : Int) ≤ -1 := by decide
    clear hz hres
    go_enter Try.func20, Try.ntmps20
    go_wp2_with fail
    refine HT.out.mono ?_
    rintro e w1 ⟨b, rfl, hw, hg⟩
    have c3 := (hw.bset 0).1
    have HW := Lib.hid hw
    have HG1 := Lib.hid hg
    simp only at c3
    clear hw hg
    go_wp2_with fail
    go_loopw [4, 16] (fun o i wr => ∃ (k : Nat) (v : Value), o = v ∧ i = .int .i64 k ∧ k ≤ n ∧ wr.ownsRow w1.heap.size 3 1 v (blk P k).length (icl (blk P k)) ∧ w1.grownBy wr none) (fun _ i _ => (n - intOf i).toNat)
    case atStart => exact ⟨0, _, rfl, rfl, Nat.zero_le _, World.ownsRow_nil _ _ _ _, g_refl _ _⟩
    case round =>
      obtain ⟨k, v, rfl, rfl, hk, how, hg⟩ := hrel
      have hbl := blk_len P k
      by_cases hlt : k < n
      · have hki : (k : Int) < n := by omega
        have hkk : ¬ (n : Int) ≤ k := by omega
        obtain ⟨x, hx, hxk⟩ := kd_ex (P := P) (s := k) (by rw [HN.out]; exact hlt)
        obtain ⟨bp, offp, rfl, x0, x1, x2, x3⟩ := HP.out.keep (g_trans HG1.out hg) k x hx
        have HX : Hid (blk P (k + 1) = if x.k = 15 ∧ opn P k = [] then blk P k ++ [(k : Int)] else blk P k) := Lib.hid (by rw [blk, hxk])
        have ga := g_alloc (g_refl wr none) (.cells #[.int .i64 x.k, .int .i64 x.a, .int .i64 x.b, .int .i64 x.c] 31)
        have HOW0 := Lib.hid (own_keepn how ga)
        have HG := Lib.hid (g_trans hg ga)
        have XB := Lib.hid (Blk.new wr #[.int .i64 x.k, .int .i64 x.a, .int .i64 x.b, .int .i64 x.c] 31)
        have HTK : Hid ((tops P (P.length + 1))[k]? = some (topP (opn P k))) := Lib.hid (tops_get P (by rw [HN.out]; omega))
        have HNN : Hid (topP (opn P k) ≠ (-1, 0) ↔ opn P k ≠ []) := Lib.hid (topP_ne (opn_nn P k))
        clear how hg hx hxk ga
        obtain ⟨xk, xa, xb, xc⟩ := x
        simp only at x0 x1 x2 x3 HX HOW0 HG XB
        go_upto_region 8 with fail
        generalize wr.alloc (.cells #[.int .i64 xk, .int .i64 xa, .int .i64 xb, .int .i64 xc] 31) = W at *
        have z0 := XB.out.cell 0 (.int .i64 xk) rfl
        have Z0 := Lib.hid z0
        clear x0 x1 x2 x3 z0
        generalize opn P k = O at *
        obtain ⟨t1, ht1⟩ : ∃ t, (topP O).1 = t := ⟨_, rfl⟩
        obtain ⟨t2, ht2⟩ : ∃ t, (topP O).2 = t := ⟨_, rfl⟩
        have htt : topP O = (t1, t2) := by rw [← ht1, ← ht2]
        rw [htt] at HTK HNN
        clear ht1 ht2 htt
        go_cut [34] (fun s34 wx => s34 = .bool (decide (xk = 15 ∧ O = [])) ∧ W.grownBy wx none)
        case first =>
          by_cases h15 : xk = 15
          · subst h15
            obtain ⟨hBb, lv, av, mv, k1, k2, k3, k4, k5⟩ := HW.out.keep HG.out
            obtain ⟨aa, ac, rfl, hsr, -⟩ := srow_of_own k3
            have hlc := (len_own k3).1
            have hlm := (len_own k3).2
            have c1 := k1.cell 1 _ rfl
            rw [HTL.out] at c1 hlc
            obtain ⟨ab, aoff, rfl, u0, u1⟩ := hsr k _ HTK.out
            have D := Lib.hid (And.intro c1 (And.intro u0 u1))
            clear k1 k2 k3 k4 k5 hsr u0 u1 c1
            have hk4 : ¬ (n : Int) + 1 ≤ k := by omega
            have HOUT := Lib.hid (fun W' (g : W.grownBy W' none) => outside_any W')
            have hcs : (¬ t1 = -1 ∧ O ≠ []) ∨ (t1 = -1 ∧ ¬ t2 = 0 ∧ O ≠ []) ∨ (t1 = -1 ∧ t2 = 0 ∧ O = []) := by
              have h := HNN.out
              by_cases q1 : t1 = -1
              · by_cases q2 : t2 = 0
                · right; right
                  refine ⟨q1, q2, ?_⟩
                  by_cases q3 : O = []
                  · exact q3
                  · exact absurd (by rw [q1, q2]) (h.2 q3)
                · exact .inr (.inl ⟨q1, q2, h.1 (fun e => q2 (by injection e))⟩)
              · exact .inl ⟨q1, h.1 (fun e => q1 (by injection e))⟩
            rcases hcs with ⟨q1, q3⟩ | ⟨rfl, q2, q3⟩ | ⟨rfl, rfl, q3⟩
            · refine wp_region_held_drew (S := fun W' => W.grownBy W' none) (by kernel_rfl) (g_drew (g_refl _ _)) (fun hHeld => ?_)
              refine wpAnyH_take (i := 0) (v := .pointer (some ⟨wr.heap.size, 0, none⟩)) rfl (by kernel_rfl) (by kernel_rfl) (by kernel_rfl) (fun _ _ _ h => h) (Or.inl ⟨by rfl, fun w hw => by clear hw; go_simp⟩) hHeld ?_
              try simp only [Act.put, List.setIfInBounds_toArray, List.set_cons_zero, List.set_cons_succ, List.getElem_toArray, List.getElem_cons_zero, List.getElem_cons_succ]
              refine wpAnyH_take (i := 1) (v := .int .i64 15) rfl (by kernel_rfl) (by kernel_rfl) (by kernel_rfl) (fun _ _ _ h => h) (Or.inl ⟨by rfl, fun w hw => by have q0 := hw.cell Z0.out (by simp); clear hw; go_simp⟩) hHeld ?_
              try simp only [Act.put, List.setIfInBounds_toArray, List.set_cons_zero, List.set_cons_succ, List.getElem_toArray, List.getElem_cons_zero, List.getElem_cons_succ]
              refine wpAnyH_take (i := 2) (v := .bool true) rfl (by kernel_rfl) (by kernel_rfl) (by kernel_rfl) (fun _ _ _ h => h) (Or.inl ⟨by rfl, fun w hw => by clear hw; go_simp⟩) hHeld ?_
              try simp only [Act.put, List.setIfInBounds_toArray, List.set_cons_zero, List.set_cons_succ, List.getElem_toArray, List.getElem_cons_zero, List.getElem_cons_succ]
              refine wpAnyH_take (i := 3) (v := .bool true) rfl (by kernel_rfl) (by kernel_rfl) (by kernel_rfl) (fun _ _ _ h => h) (Or.inl ⟨by rfl, fun w hw => by clear hw; go_simp⟩) hHeld ?_
              try simp only [Act.put, List.setIfInBounds_toArray, List.set_cons_zero, List.set_cons_succ, List.getElem_toArray, List.getElem_cons_zero, List.getElem_cons_succ]
              refine wpAnyH_take (i := 4) (v := .pointer (some ⟨b, 0, none⟩)) rfl (by kernel_rfl) (by kernel_rfl) (by kernel_rfl) (fun _ _ _ h => h) (Or.inl ⟨by rfl, fun w hw => by clear hw; go_simp⟩) hHeld ?_
              try simp only [Act.put, List.setIfInBounds_toArray, List.set_cons_zero, List.set_cons_succ, List.getElem_toArray, List.getElem_cons_zero, List.getElem_cons_succ]
              refine wpAnyH_take (i := 5) (v := .pointer (some ⟨b, 0, none⟩)) rfl (by kernel_rfl) (by kernel_rfl) (by kernel_rfl) (fun _ _ _ h => h) (Or.inl ⟨by rfl, fun w hw => by clear hw; go_simp⟩) hHeld ?_
              try simp only [Act.put, List.setIfInBounds_toArray, List.set_cons_zero, List.set_cons_succ, List.getElem_toArray, List.getElem_cons_zero, List.getElem_cons_succ]
              refine wpAnyH_take (i := 6) (v := .pointer (some ⟨b, 1, none⟩)) rfl (by kernel_rfl) (by kernel_rfl) (by kernel_rfl) (fun _ _ _ h => h) (Or.inl ⟨by rfl, fun w hw => by clear hw; go_simp⟩) hHeld ?_
              try simp only [Act.put, List.setIfInBounds_toArray, List.set_cons_zero, List.set_cons_succ, List.getElem_toArray, List.getElem_cons_zero, List.getElem_cons_succ]
              refine wpAnyH_take (i := 7) (v := .slice (some ⟨ab, aoff, none⟩) (n + 1) ac) rfl (by kernel_rfl) (by kernel_rfl) (by kernel_rfl) (fun _ _ _ h => h) (Or.inl ⟨by rfl, fun w hw => by have q0 := hw.cell D.out.1 (by simp); clear hw; go_simp⟩) hHeld ?_
              try simp only [Act.put, List.setIfInBounds_toArray, List.set_cons_zero, List.set_cons_succ, List.getElem_toArray, List.getElem_cons_zero, List.getElem_cons_succ]
              refine wpAnyH_take (i := 8) (v := .int .i64 (k : Int)) rfl (by kernel_rfl) (by kernel_rfl) (by kernel_rfl) (fun _ _ _ h => h) (Or.inl ⟨by rfl, fun w hw => by clear hw; go_simp⟩) hHeld ?_
              try simp only [Act.put, List.setIfInBounds_toArray, List.set_cons_zero, List.set_cons_succ, List.getElem_toArray, List.getElem_cons_zero, List.getElem_cons_succ]
              refine wpAnyH_take (i := 9) (v := .pointer (some ⟨ab, aoff + k * 2, none⟩)) rfl (by kernel_rfl) (by kernel_rfl) (by kernel_rfl) (fun _ _ _ h => h) (Or.inl ⟨by rfl, fun w hw => by clear hw; go_simp⟩) hHeld ?_
              try simp only [Act.put, List.setIfInBounds_toArray, List.set_cons_zero, List.set_cons_succ, List.getElem_toArray, List.getElem_cons_zero, List.getElem_cons_succ]
              refine wpAnyH_take (i := 10) (v := .agg #[.int .i64 t1, .int .i64 t2]) rfl (by kernel_rfl) (by kernel_rfl) (by kernel_rfl) (fun _ _ _ h => h) (Or.inl ⟨by rfl, fun w hw => by have q0 := hw.cell D.out.2.1 (by simp); have q1 := hw.cell D.out.2.2 (by simp); clear hw; go_simp⟩) hHeld ?_
              try simp only [Act.put, List.setIfInBounds_toArray, List.set_cons_zero, List.set_cons_succ, List.getElem_toArray, List.getElem_cons_zero, List.getElem_cons_succ]
              refine wpAnyH_ready (rs := [11]) (by kernel_rfl) (by simp) (AllReadyH.cons rfl (fun K hK => ?_) (AllReadyH.nil))
              · go_simp
                refine Calls.mono (HOUT.out _ hHeld) ?_
                rintro e wc1 ⟨rfl, gc1⟩
                try go_wp2_with fail
                refine hK.out _ _ (g_trans hHeld gc1) (fun hHeld => ?_)
                clear hK K gc1
                try simp only [Act.put, List.setIfInBounds_toArray, List.set_cons_zero, List.set_cons_succ, List.getElem_toArray, List.getElem_cons_zero, List.getElem_cons_succ]
                refine wpAnyH_take (i := 12) (v := .bool false) rfl (by kernel_rfl) (by kernel_rfl) (by kernel_rfl) (fun _ _ _ h => h) (Or.inl ⟨by rfl, fun w hw => by clear hw; go_simp⟩) hHeld ?_
                try simp only [Act.put, List.setIfInBounds_toArray, List.set_cons_zero, List.set_cons_succ, List.getElem_toArray, List.getElem_cons_zero, List.getElem_cons_succ]
                refine wpAnyH_take (i := 13) (v := .bool false) rfl (by kernel_rfl) (by kernel_rfl) (by kernel_rfl) (fun _ _ _ h => h) (Or.inl ⟨by rfl, fun w hw => by clear hw; go_simp⟩) hHeld ?_
                try simp only [Act.put, List.setIfInBounds_toArray, List.set_cons_zero, List.set_cons_succ, List.getElem_toArray, List.getElem_cons_zero, List.getElem_cons_succ]
                refine wpAnyH_done (by kernel_rfl) ?_ _
                go_wp2_with fail
                go_meet
                exact ⟨by simp [q3], hHeld⟩
            · refine wp_region_held_drew (S := fun W' => W.grownBy W' none) (by kernel_rfl) (g_drew (g_refl _ _)) (fun hHeld => ?_)
              refine wpAnyH_take (i := 0) (v := .pointer (some ⟨wr.heap.size, 0, none⟩)) rfl (by kernel_rfl) (by kernel_rfl) (by kernel_rfl) (fun _ _ _ h => h) (Or.inl ⟨by rfl, fun w hw => by clear hw; go_simp⟩) hHeld ?_
              try simp only [Act.put, List.setIfInBounds_toArray, List.set_cons_zero, List.set_cons_succ, List.getElem_toArray, List.getElem_cons_zero, List.getElem_cons_succ]
              refine wpAnyH_take (i := 1) (v := .int .i64 15) rfl (by kernel_rfl) (by kernel_rfl) (by kernel_rfl) (fun _ _ _ h => h) (Or.inl ⟨by rfl, fun w hw => by have q0 := hw.cell Z0.out (by simp); clear hw; go_simp⟩) hHeld ?_
              try simp only [Act.put, List.setIfInBounds_toArray, List.set_cons_zero, List.set_cons_succ, List.getElem_toArray, List.getElem_cons_zero, List.getElem_cons_succ]
              refine wpAnyH_take (i := 2) (v := .bool true) rfl (by kernel_rfl) (by kernel_rfl) (by kernel_rfl) (fun _ _ _ h => h) (Or.inl ⟨by rfl, fun w hw => by clear hw; go_simp⟩) hHeld ?_
              try simp only [Act.put, List.setIfInBounds_toArray, List.set_cons_zero, List.set_cons_succ, List.getElem_toArray, List.getElem_cons_zero, List.getElem_cons_succ]
              refine wpAnyH_take (i := 3) (v := .bool true) rfl (by kernel_rfl) (by kernel_rfl) (by kernel_rfl) (fun _ _ _ h => h) (Or.inl ⟨by rfl, fun w hw => by clear hw; go_simp⟩) hHeld ?_
              try simp only [Act.put, List.setIfInBounds_toArray, List.set_cons_zero, List.set_cons_succ, List.getElem_toArray, List.getElem_cons_zero, List.getElem_cons_succ]
              refine wpAnyH_take (i := 4) (v := .pointer (some ⟨b, 0, none⟩)) rfl (by kernel_rfl) (by kernel_rfl) (by kernel_rfl) (fun _ _ _ h => h) (Or.inl ⟨by rfl, fun w hw => by clear hw; go_simp⟩) hHeld ?_
              try simp only [Act.put, List.setIfInBounds_toArray, List.set_cons_zero, List.set_cons_succ, List.getElem_toArray, List.getElem_cons_zero, List.getElem_cons_succ]
              refine wpAnyH_take (i := 5) (v := .pointer (some ⟨b, 0, none⟩)) rfl (by kernel_rfl) (by kernel_rfl) (by kernel_rfl) (fun _ _ _ h => h) (Or.inl ⟨by rfl, fun w hw => by clear hw; go_simp⟩) hHeld ?_
              try simp only [Act.put, List.setIfInBounds_toArray, List.set_cons_zero, List.set_cons_succ, List.getElem_toArray, List.getElem_cons_zero, List.getElem_cons_succ]
              refine wpAnyH_take (i := 6) (v := .pointer (some ⟨b, 1, none⟩)) rfl (by kernel_rfl) (by kernel_rfl) (by kernel_rfl) (fun _ _ _ h => h) (Or.inl ⟨by rfl, fun w hw => by clear hw; go_simp⟩) hHeld ?_
              try simp only [Act.put, List.setIfInBounds_toArray, List.set_cons_zero, List.set_cons_succ, List.getElem_toArray, List.getElem_cons_zero, List.getElem_cons_succ]
              refine wpAnyH_take (i := 7) (v := .slice (some ⟨ab, aoff, none⟩) (n + 1) ac) rfl (by kernel_rfl) (by kernel_rfl) (by kernel_rfl) (fun _ _ _ h => h) (Or.inl ⟨by rfl, fun w hw => by have q0 := hw.cell D.out.1 (by simp); clear hw; go_simp⟩) hHeld ?_
              try simp only [Act.put, List.setIfInBounds_toArray, List.set_cons_zero, List.set_cons_succ, List.getElem_toArray, List.getElem_cons_zero, List.getElem_cons_succ]
              refine wpAnyH_take (i := 8) (v := .int .i64 (k : Int)) rfl (by kernel_rfl) (by kernel_rfl) (by kernel_rfl) (fun _ _ _ h => h) (Or.inl ⟨by rfl, fun w hw => by clear hw; go_simp⟩) hHeld ?_
              try simp only [Act.put, List.setIfInBounds_toArray, List.set_cons_zero, List.set_cons_succ, List.getElem_toArray, List.getElem_cons_zero, List.getElem_cons_succ]
              refine wpAnyH_take (i := 9) (v := .pointer (some ⟨ab, aoff + k * 2, none⟩)) rfl (by kernel_rfl) (by kernel_rfl) (by kernel_rfl) (fun _ _ _ h => h) (Or.inl ⟨by rfl, fun w hw => by clear hw; go_simp⟩) hHeld ?_
              try simp only [Act.put, List.setIfInBounds_toArray, List.set_cons_zero, List.set_cons_succ, List.getElem_toArray, List.getElem_cons_zero, List.getElem_cons_succ]
              refine wpAnyH_take (i := 10) (v := .agg #[.int .i64 (-1), .int .i64 t2]) rfl (by kernel_rfl) (by kernel_rfl) (by kernel_rfl) (fun _ _ _ h => h) (Or.inl ⟨by rfl, fun w hw => by have q0 := hw.cell D.out.2.1 (by simp); have q1 := hw.cell D.out.2.2 (by simp); clear hw; go_simp⟩) hHeld ?_
              try simp only [Act.put, List.setIfInBounds_toArray, List.set_cons_zero, List.set_cons_succ, List.getElem_toArray, List.getElem_cons_zero, List.getElem_cons_succ]
              refine wpAnyH_ready (rs := [11]) (by kernel_rfl) (by simp) (AllReadyH.cons rfl (fun K hK => ?_) (AllReadyH.nil))
              · go_simp
                refine Calls.mono (HOUT.out _ hHeld) ?_
                rintro e wc1 ⟨rfl, gc1⟩
                try go_wp2_with fail
                refine hK.out _ _ (g_trans hHeld gc1) (fun hHeld => ?_)
                clear hK K gc1
                try simp only [Act.put, List.setIfInBounds_toArray, List.set_cons_zero, List.set_cons_succ, List.getElem_toArray, List.getElem_cons_zero, List.getElem_cons_succ]
                refine wpAnyH_take (i := 12) (v := .bool false) rfl (by kernel_rfl) (by kernel_rfl) (by kernel_rfl) (fun _ _ _ h => h) (Or.inl ⟨by rfl, fun w hw => by clear hw; go_simp⟩) hHeld ?_
                try simp only [Act.put, List.setIfInBounds_toArray, List.set_cons_zero, List.set_cons_succ, List.getElem_toArray, List.getElem_cons_zero, List.getElem_cons_succ]
                refine wpAnyH_take (i := 13) (v := .bool false) rfl (by kernel_rfl) (by kernel_rfl) (by kernel_rfl) (fun _ _ _ h => h) (Or.inl ⟨by rfl, fun w hw => by clear hw; go_simp⟩) hHeld ?_
                try simp only [Act.put, List.setIfInBounds_toArray, List.set_cons_zero, List.set_cons_succ, List.getElem_toArray, List.getElem_cons_zero, List.getElem_cons_succ]
                refine wpAnyH_done (by kernel_rfl) ?_ _
                go_wp2_with fail
                go_meet
                exact ⟨by simp [q3], hHeld⟩
            · refine wp_region_held_drew (S := fun W' => W.grownBy W' none) (by kernel_rfl) (g_drew (g_refl _ _)) (fun hHeld => ?_)
              refine wpAnyH_take (i := 0) (v := .pointer (some ⟨wr.heap.size, 0, none⟩)) rfl (by kernel_rfl) (by kernel_rfl) (by kernel_rfl) (fun _ _ _ h => h) (Or.inl ⟨by rfl, fun w hw => by clear hw; go_simp⟩) hHeld ?_
              try simp only [Act.put, List.setIfInBounds_toArray, List.set_cons_zero, List.set_cons_succ, List.getElem_toArray, List.getElem_cons_zero, List.getElem_cons_succ]
              refine wpAnyH_take (i := 1) (v := .int .i64 15) rfl (by kernel_rfl) (by kernel_rfl) (by kernel_rfl) (fun _ _ _ h => h) (Or.inl ⟨by rfl, fun w hw => by have q0 := hw.cell Z0.out (by simp); clear hw; go_simp⟩) hHeld ?_
              try simp only [Act.put, List.setIfInBounds_toArray, List.set_cons_zero, List.set_cons_succ, List.getElem_toArray, List.getElem_cons_zero, List.getElem_cons_succ]
              refine wpAnyH_take (i := 2) (v := .bool true) rfl (by kernel_rfl) (by kernel_rfl) (by kernel_rfl) (fun _ _ _ h => h) (Or.inl ⟨by rfl, fun w hw => by clear hw; go_simp⟩) hHeld ?_
              try simp only [Act.put, List.setIfInBounds_toArray, List.set_cons_zero, List.set_cons_succ, List.getElem_toArray, List.getElem_cons_zero, List.getElem_cons_succ]
              refine wpAnyH_take (i := 3) (v := .bool true) rfl (by kernel_rfl) (by kernel_rfl) (by kernel_rfl) (fun _ _ _ h => h) (Or.inl ⟨by rfl, fun w hw => by clear hw; go_simp⟩) hHeld ?_
              try simp only [Act.put, List.setIfInBounds_toArray, List.set_cons_zero, List.set_cons_succ, List.getElem_toArray, List.getElem_cons_zero, List.getElem_cons_succ]
              refine wpAnyH_take (i := 4) (v := .pointer (some ⟨b, 0, none⟩)) rfl (by kernel_rfl) (by kernel_rfl) (by kernel_rfl) (fun _ _ _ h => h) (Or.inl ⟨by rfl, fun w hw => by clear hw; go_simp⟩) hHeld ?_
              try simp only [Act.put, List.setIfInBounds_toArray, List.set_cons_zero, List.set_cons_succ, List.getElem_toArray, List.getElem_cons_zero, List.getElem_cons_succ]
              refine wpAnyH_take (i := 5) (v := .pointer (some ⟨b, 0, none⟩)) rfl (by kernel_rfl) (by kernel_rfl) (by kernel_rfl) (fun _ _ _ h => h) (Or.inl ⟨by rfl, fun w hw => by clear hw; go_simp⟩) hHeld ?_
              try simp only [Act.put, List.setIfInBounds_toArray, List.set_cons_zero, List.set_cons_succ, List.getElem_toArray, List.getElem_cons_zero, List.getElem_cons_succ]
              refine wpAnyH_take (i := 6) (v := .pointer (some ⟨b, 1, none⟩)) rfl (by kernel_rfl) (by kernel_rfl) (by kernel_rfl) (fun _ _ _ h => h) (Or.inl ⟨by rfl, fun w hw => by clear hw; go_simp⟩) hHeld ?_
              try simp only [Act.put, List.setIfInBounds_toArray, List.set_cons_zero, List.set_cons_succ, List.getElem_toArray, List.getElem_cons_zero, List.getElem_cons_succ]
              refine wpAnyH_take (i := 7) (v := .slice (some ⟨ab, aoff, none⟩) (n + 1) ac) rfl (by kernel_rfl) (by kernel_rfl) (by kernel_rfl) (fun _ _ _ h => h) (Or.inl ⟨by rfl, fun w hw => by have q0 := hw.cell D.out.1 (by simp); clear hw; go_simp⟩) hHeld ?_
              try simp only [Act.put, List.setIfInBounds_toArray, List.set_cons_zero, List.set_cons_succ, List.getElem_toArray, List.getElem_cons_zero, List.getElem_cons_succ]
              refine wpAnyH_take (i := 8) (v := .int .i64 (k : Int)) rfl (by kernel_rfl) (by kernel_rfl) (by kernel_rfl) (fun _ _ _ h => h) (Or.inl ⟨by rfl, fun w hw => by clear hw; go_simp⟩) hHeld ?_
              try simp only [Act.put, List.setIfInBounds_toArray, List.set_cons_zero, List.set_cons_succ, List.getElem_toArray, List.getElem_cons_zero, List.getElem_cons_succ]
              refine wpAnyH_take (i := 9) (v := .pointer (some ⟨ab, aoff + k * 2, none⟩)) rfl (by kernel_rfl) (by kernel_rfl) (by kernel_rfl) (fun _ _ _ h => h) (Or.inl ⟨by rfl, fun w hw => by clear hw; go_simp⟩) hHeld ?_
              try simp only [Act.put, List.setIfInBounds_toArray, List.set_cons_zero, List.set_cons_succ, List.getElem_toArray, List.getElem_cons_zero, List.getElem_cons_succ]
              refine wpAnyH_take (i := 10) (v := .agg #[.int .i64 (-1), .int .i64 0]) rfl (by kernel_rfl) (by kernel_rfl) (by kernel_rfl) (fun _ _ _ h => h) (Or.inl ⟨by rfl, fun w hw => by have q0 := hw.cell D.out.2.1 (by simp); have q1 := hw.cell D.out.2.2 (by simp); clear hw; go_simp⟩) hHeld ?_
              try simp only [Act.put, List.setIfInBounds_toArray, List.set_cons_zero, List.set_cons_succ, List.getElem_toArray, List.getElem_cons_zero, List.getElem_cons_succ]
              refine wpAnyH_ready (rs := [11]) (by kernel_rfl) (by simp) (AllReadyH.cons rfl (fun K hK => ?_) (AllReadyH.nil))
              · go_simp
                refine Calls.mono (HOUT.out _ hHeld) ?_
                rintro e wc1 ⟨rfl, gc1⟩
                try go_wp2_with fail
                refine hK.out _ _ (g_trans hHeld gc1) (fun hHeld => ?_)
                clear hK K gc1
                try simp only [Act.put, List.setIfInBounds_toArray, List.set_cons_zero, List.set_cons_succ, List.getElem_toArray, List.getElem_cons_zero, List.getElem_cons_succ]
                refine wpAnyH_take (i := 12) (v := .bool true) rfl (by kernel_rfl) (by kernel_rfl) (by kernel_rfl) (fun _ _ _ h => h) (Or.inl ⟨by rfl, fun w hw => by clear hw; go_simp⟩) hHeld ?_
                try simp only [Act.put, List.setIfInBounds_toArray, List.set_cons_zero, List.set_cons_succ, List.getElem_toArray, List.getElem_cons_zero, List.getElem_cons_succ]
                refine wpAnyH_take (i := 13) (v := .bool true) rfl (by kernel_rfl) (by kernel_rfl) (by kernel_rfl) (fun _ _ _ h => h) (Or.inl ⟨by rfl, fun w hw => by clear hw; go_simp⟩) hHeld ?_
                try simp only [Act.put, List.setIfInBounds_toArray, List.set_cons_zero, List.set_cons_succ, List.getElem_toArray, List.getElem_cons_zero, List.getElem_cons_succ]
                refine wpAnyH_done (by kernel_rfl) ?_ _
                go_wp2_with fail
                go_meet
                exact ⟨by simp [q3], hHeld⟩
          · have e0 : (decide (xk = 15 ∧ O = [])) = false := by simp [h15]
            have e15 : (xk == 15) = false := by simp [h15]
            refine wp_region_held_drew (S := fun W' => W.grownBy W' none) (by kernel_rfl) (g_drew (g_refl _ _)) (fun hHeld => ?_)
            refine wpAnyH_take (i := 0) (v := .pointer (some ⟨wr.heap.size, 0, none⟩)) rfl (by kernel_rfl) (by kernel_rfl) (by kernel_rfl) (fun _ _ _ h => h) (Or.inl ⟨by rfl, fun w hw => by clear hw; go_simp⟩) hHeld ?_
            try simp only [Act.put, List.setIfInBounds_toArray, List.set_cons_zero, List.set_cons_succ, List.getElem_toArray, List.getElem_cons_zero, List.getElem_cons_succ]
            refine wpAnyH_take (i := 1) (v := .int .i64 xk) rfl (by kernel_rfl) (by kernel_rfl) (by kernel_rfl) (fun _ _ _ h => h) (Or.inl ⟨by rfl, fun w hw => by have q0 := hw.cell Z0.out (by simp); clear hw; go_simp⟩) hHeld ?_
            try simp only [Act.put, List.setIfInBounds_toArray, List.set_cons_zero, List.set_cons_succ, List.getElem_toArray, List.getElem_cons_zero, List.getElem_cons_succ]
            refine wpAnyH_take (i := 2) (v := .bool false) rfl (by kernel_rfl) (by kernel_rfl) (by kernel_rfl) (fun _ _ _ h => h) (Or.inl ⟨by rfl, fun w hw => by clear hw; go_simp⟩) hHeld ?_
            try simp only [Act.put, List.setIfInBounds_toArray, List.set_cons_zero, List.set_cons_succ, List.getElem_toArray, List.getElem_cons_zero, List.getElem_cons_succ]
            refine wpAnyH_take (i := 3) (v := .bool false) rfl (by kernel_rfl) (by kernel_rfl) (by kernel_rfl) (fun _ _ _ h => h) (Or.inl ⟨by rfl, fun w hw => by clear hw; go_simp⟩) hHeld ?_
            try simp only [Act.put, List.setIfInBounds_toArray, List.set_cons_zero, List.set_cons_succ, List.getElem_toArray, List.getElem_cons_zero, List.getElem_cons_succ]
            refine wpAnyH_take (i := 4) (v := undef) rfl (by kernel_rfl) (by kernel_rfl) (by kernel_rfl) (fun _ _ _ h => h) (Or.inr ⟨by rfl, rfl⟩) hHeld ?_
            try simp only [Act.put, List.setIfInBounds_toArray, List.set_cons_zero, List.set_cons_succ, List.getElem_toArray, List.getElem_cons_zero, List.getElem_cons_succ]
            refine wpAnyH_take (i := 5) (v := undef) rfl (by kernel_rfl) (by kernel_rfl) (by kernel_rfl) (fun _ _ _ h => h) (Or.inr ⟨by rfl, rfl⟩) hHeld ?_
            try simp only [Act.put, List.setIfInBounds_toArray, List.set_cons_zero, List.set_cons_succ, List.getElem_toArray, List.getElem_cons_zero, List.getElem_cons_succ]
            refine wpAnyH_take (i := 6) (v := undef) rfl (by kernel_rfl) (by kernel_rfl) (by kernel_rfl) (fun _ _ _ h => h) (Or.inr ⟨by rfl, rfl⟩) hHeld ?_
            try simp only [Act.put, List.setIfInBounds_toArray, List.set_cons_zero, List.set_cons_succ, List.getElem_toArray, List.getElem_cons_zero, List.getElem_cons_succ]
            refine wpAnyH_take (i := 7) (v := undef) rfl (by kernel_rfl) (by kernel_rfl) (by kernel_rfl) (fun _ _ _ h => h) (Or.inr ⟨by rfl, rfl⟩) hHeld ?_
            try simp only [Act.put, List.setIfInBounds_toArray, List.set_cons_zero, List.set_cons_succ, List.getElem_toArray, List.getElem_cons_zero, List.getElem_cons_succ]
            refine wpAnyH_take (i := 8) (v := undef) rfl (by kernel_rfl) (by kernel_rfl) (by kernel_rfl) (fun _ _ _ h => h) (Or.inr ⟨by rfl, rfl⟩) hHeld ?_
            try simp only [Act.put, List.setIfInBounds_toArray, List.set_cons_zero, List.set_cons_succ, List.getElem_toArray, List.getElem_cons_zero, List.getElem_cons_succ]
            refine wpAnyH_take (i := 9) (v := undef) rfl (by kernel_rfl) (by kernel_rfl) (by kernel_rfl) (fun _ _ _ h => h) (Or.inr ⟨by rfl, rfl⟩) hHeld ?_
            try simp only [Act.put, List.setIfInBounds_toArray, List.set_cons_zero, List.set_cons_succ, List.getElem_toArray, List.getElem_cons_zero, List.getElem_cons_succ]
            refine wpAnyH_take (i := 10) (v := undef) rfl (by kernel_rfl) (by kernel_rfl) (by kernel_rfl) (fun _ _ _ h => h) (Or.inr ⟨by rfl, rfl⟩) hHeld ?_
            try simp only [Act.put, List.setIfInBounds_toArray, List.set_cons_zero, List.set_cons_succ, List.getElem_toArray, List.getElem_cons_zero, List.getElem_cons_succ]
            refine wpAnyH_take (i := 11) (v := undef) rfl (by kernel_rfl) (by kernel_rfl) (by kernel_rfl) (fun _ _ _ h => h) (Or.inr ⟨by rfl, rfl⟩) hHeld ?_
            try simp only [Act.put, List.setIfInBounds_toArray, List.set_cons_zero, List.set_cons_succ, List.getElem_toArray, List.getElem_cons_zero, List.getElem_cons_succ]
            refine wpAnyH_take (i := 12) (v := undef) rfl (by kernel_rfl) (by kernel_rfl) (by kernel_rfl) (fun _ _ _ h => h) (Or.inr ⟨by rfl, rfl⟩) hHeld ?_
            try simp only [Act.put, List.setIfInBounds_toArray, List.set_cons_zero, List.set_cons_succ, List.getElem_toArray, List.getElem_cons_zero, List.getElem_cons_succ]
            refine wpAnyH_take (i := 13) (v := .bool false) rfl (by kernel_rfl) (by kernel_rfl) (by kernel_rfl) (fun _ _ _ h => h) (Or.inl ⟨by rfl, fun w hw => by clear hw; go_simp⟩) hHeld ?_
            try simp only [Act.put, List.setIfInBounds_toArray, List.set_cons_zero, List.set_cons_succ, List.getElem_toArray, List.getElem_cons_zero, List.getElem_cons_succ]
            refine wpAnyH_done (by kernel_rfl) ?_ _
            go_wp2_with fail
            go_meet
            exact ⟨by rw [e0], hHeld⟩
        case rest =>
          obtain ⟨rfl, g2⟩ := hcut
          rename World => w2
          have HOW := Lib.hid (own_keepn HOW0.out g2)
          have HG9 := Lib.hid (g_trans HG.out g2)
          clear g2
          by_cases hc : xk = 15 ∧ O = []
          · have hcd : decide (xk = 15 ∧ O = []) = true := decide_eq_true hc
            rw [hcd]
            have HY : Hid (blk P (k + 1) = blk P k ++ [(k : Int)]) := Lib.hid (by rw [HX.out, if_pos hc])
            clear HX hc hcd
            have ga := g_alloc (g_refl w2 none) (.cells #[.int .i64 (k : Int)] 3)
            have HO5 := Lib.hid (own_keepn HOW.out ga)
            have G5 := Lib.hid (g_trans HG9.out ga)
            have HNW := Lib.hid (news1 w2 (k : Int) 3)
            have HON := Lib.hid (ones1 (k : Int))
            have hz5 := G5.out.size
            clear ga
            go_wp2_with (at_builtin; refine wpList_append_own _ rfl _ _ 24 rfl w1.heap.size 3 i0 (.int .i64 0) 1 8 Try.underlying24 hi hz0 hz1 hz2 rfl (by decide) _ _ _ rfl HO5.out ⟨w2.heap.size, 0, none⟩ 1 1 [.int .i64 (k : Int)] rfl rfl HNW.out HON.out (by unfold maxLen; omega) (by omega) hz5 ?_; intro v6 w6 hown hgrow _)
            have HO6 := Lib.hid hown
            have G6 := Lib.hid (g_own2 G5.out (Nat.le_refl _) HO5.out hgrow)
            clear hown hgrow
            go_wp2_with fail
            go_roundw
            case rel => exact ⟨k + 1, _, rfl, by go_num, by omega, by rw [HY.out]; simpa [icl_snoc] using HO6.out, G6.out⟩
            case measure => simp [intOf]; omega
          · have hcd : decide (xk = 15 ∧ O = []) = false := decide_eq_false hc
            rw [hcd]
            have HY : Hid (blk P (k + 1) = blk P k) := Lib.hid (by rw [HX.out, if_neg hc])
            clear HX hc hcd
            go_wp2_with fail
            go_roundw
            case rel => exact ⟨k + 1, _, rfl, by go_num, by omega, by rw [HY.out]; exact HOW.out, HG9.out⟩
            case measure => simp [intOf]; omega
      · obtain rfl : k = n := by omega
        have hkk : ¬ (k : Int) < k := by omega
        have HO := Lib.hid (own_mono how HG1.out.size)
        have HG := Lib.hid (g_trans HG1.out hg)
        clear how hg
        go_wp2_with fail
        go_ret
        exact ⟨_, rfl, by rw [HD.out]; exact HO.out, HG.out⟩
  · have HD : Hid (blkA P = []) := Lib.hid (by unfold blkA; rw [if_neg (fun h => hz ((chk_zero _).1 h))])
    generalize blkA P = dp at *
    obtain rfl : dp = [] := HD.out
    generalize thrA P = r at *
    obtain ⟨L, T, M, bad, deep⟩ := r
    simp only at hz
    have hz2 : (0 : Int) ≤ bad := by omega
    go_enter Try.func20, Try.ntmps20
    go_wp2_with fail
    refine HT.out.mono ?_
    rintro e w1 ⟨b, rfl, hw, hg⟩
    have c3 := (hw.bset 0).1
    simp only at c3
    have HG := Lib.hid hg
    clear hw hg
    go_wp2_with fail
    go_ret
    exact pblk_nil HG.out
end Go.Proofs.Ytfobfcnbbafplaa
