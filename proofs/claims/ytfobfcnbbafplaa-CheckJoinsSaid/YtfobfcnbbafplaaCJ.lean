/- Two programs, one behind the other: CheckJoins. -/
import Derived.Test.YtfobfcnbbafplaaJP
import Derived.Test.YtfobfcnbbafplaaCM
namespace Go.Proofs.Ytfobfcnbbafplaa
open Go.RowKit
set_option linter.unusedVariables false
set_option linter.unusedSimpArgs false

theorem aimx_eq (t : Int) (x : I4) : aimx t x = ⟨x.k, aimA x.k x.a t, aimB x.k x.b t, x.c⟩ := by
  obtain ⟨k, a, b, c⟩ := x
  unfold aimx aimA aimB
  by_cases h8 : k = 8
  · subst h8; simp
  · by_cases h9 : k = 9
    · subst h9; simp
    · simp [h8, h9]
theorem irow_cells {w : World} {b off : Nat} {L : List I4} (h : IRow w (some ⟨b, off, none⟩) L) : ∀ (j : Nat) (u : Value), (iv L)[j]? = some u → w.cell? ((⟨b, off, none⟩ : Addr).add j) = some u := by
  intro j u hu
  have hj := (List.getElem?_eq_some_iff.1 hu).1
  rw [iv_len] at hj
  have hi : j / 4 < L.length := by omega
  obtain ⟨b', off', hb, c0, c1, c2, c3⟩ := h (j / 4) L[j / 4] (List.getElem?_eq_getElem hi)
  cases hb
  obtain ⟨q0, q1, q2, q3⟩ := iv_at L (j / 4) L[j / 4] (List.getElem?_eq_getElem hi)
  rw [Addr.add_lit]
  rcases (by omega : j = j / 4 * 4 ∨ j = j / 4 * 4 + 1 ∨ j = j / 4 * 4 + 2 ∨ j = j / 4 * 4 + 3) with e | e | e | e
  · rw [← e] at q0 c0; rw [q0] at hu; cases hu; exact c0
  · rw [← e] at q1; rw [Nat.add_assoc, ← e] at c1; rw [q1] at hu; cases hu; exact c1
  · rw [← e] at q2; rw [Nat.add_assoc, ← e] at c2; rw [q2] at hu; cases hu; exact c2
  · rw [← e] at q3; rw [Nat.add_assoc, ← e] at c3; rw [q3] at hu; cases hu; exact c3
theorem iv_ones (L : List I4) : ∀ u ∈ iv L, u.oneCell' = true := by
  intro u hu
  simp only [iv, List.mem_flatMap] at hu
  obtain ⟨x, _, hx⟩ := hu
  exact ones4 _ _ _ _ u hx
theorem own_zero4 (w : World) (T : TypeId) {B : Nat} (h : B ≤ w.heap.size) : (w.alloc (.cells #[] T)).ownsRow B T 4 (.slice (some ⟨w.heap.size, 0, none⟩) 0 0) 0 [] :=
  ⟨rfl, .inr ⟨w.heap.size, 0, #[], rfl, h, Blk.new w #[] T, Nat.le_refl _, by unfold maxLen; omega, rfl, rfl⟩⟩

set_option maxRecDepth 100000 in
set_option maxHeartbeats 12800000 in
theorem walk_CheckJoins (a0 : Option Addr) (a0n a0c : Nat) (a1 : Option Addr) (a1n a1c : Nat) (w : World) (w0 : Vec w a0 a0n a0c 4 (Q30)) (w1 : Vec w a1 a1n a1c 4 (Q30)) :
    Calls Try.prog 7 #[.slice a0 a0n a0c, .slice a1 a1n a1c] w fun e w' => e = .returned (.bool true) ∧ Below w.heap.size w w' := by
  obtain ⟨i0, hi, hz0, hz1, hz2⟩ := info_parts info31
  obtain ⟨L, hLl, hL⟩ := vec_instrs w0 (min a0n 60) (by omega)
  obtain ⟨Q, hQl, hQ⟩ := vec_instrs w1 (min a1n 60) (by omega)
  have hF0 := Lib.hid (fun W => few_any a0 a0n a0c W w0.1 (by have := w0.2.1; unfold maxLen at this; omega))
  have hF1 := Lib.hid (fun W => few_any a1 a1n a1c W w1.1 (by have := w1.2.1; unfold maxLen at this; omega))
  have h60 : min a0n 60 ≤ 60 := by omega
  have h61 : min a1n 60 ≤ 60 := by omega
  generalize min a0n 60 = n at *
  generalize min a1n 60 = m at *
  have HCP := Lib.hid (fun W g => check_any a0 n a0c L W (hL.keep g) hLl (by omega))
  have HCQ := Lib.hid (fun W g => check_any a1 m a1c Q W (hQ.keep g) hQl (by omega))
  have HDP := Lib.hid (fun W g => depth_any a0 n a0c L W (hL.keep g) hLl (by omega))
  have HDQ := Lib.hid (fun W g => depth_any a1 m a1c Q W (hQ.keep g) hQl (by omega))
  have HBP := Lib.hid (fun W g => blocks_any a0 n a0c L W (hL.keep g) hLl (by omega))
  have HBQ := Lib.hid (fun W g => blocks_any a1 m a1c Q W (hQ.keep g) hQl (by omega))
  have HP := Lib.hid hL
  have HQ := Lib.hid hQ
  have HN := Lib.hid (And.intro hLl hQl)
  have HZ := Lib.hid (And.intro (chk_zero (thrA L)) (chk_zero (thrA Q)))
  generalize chkR (thrA L) = cp at *
  generalize chkR (thrA Q) = cq at *
  clear w0 w1 hL hQ hLl hQl
  by_cases hp : cp = 0
  · subst hp
    by_cases hq : cq = 0
    · subst hq
      have bp := HZ.out.1.1 rfl
      have bq := HZ.out.2.1 rfl
      have hl60 : L.length ≤ 60 := by rw [HN.out.1]; exact h60
      have hq60 : Q.length ≤ 60 := by rw [HN.out.2]; exact h61
      have JC := Lib.hid (chk_join bp bq hl60 hq60)
      have JD := Lib.hid (dep_join bp bq hl60 hq60)
      have JB := Lib.hid (blk_join bp bq hl60 hq60)
      have hbl := blkA_len L
      have hbq := blkA_len Q
      have hbj := blkA_len (join L Q)
      rw [HN.out.1] at hbl
      rw [HN.out.2] at hbq
      rw [join_len, HN.out.1, HN.out.2] at hbj
      have hn1 : 1 ≤ n := by have := (thr_acc bp).1; rw [HN.out.1] at this; exact this
      have HTB : Hid (∀ x ∈ Q, 0 ≤ tgt x.k x.a x.b ∧ tgt x.k x.a x.b ≤ 512) := Lib.hid (fun x hx => by
        obtain ⟨s, hs⟩ := List.mem_iff_getElem?.1 hx
        have hok := ((thr_acc bq).2.2.1 s x (List.getElem?_eq_some_iff.1 hs).1 hs).1
        cases hj : isJ x.k
        · have : tgt x.k x.a x.b = 0 := by
            have h8 : ¬ (x.k = 8 ∨ x.k = 9) := by simpa [isJ] using hj
            unfold tgt; rw [if_neg (fun e => h8 (.inl e)), if_neg (fun e => h8 (.inr e))]
          rw [this]; decide
        · obtain ⟨t, ht, ht5⟩ := tgt_in hok hj
          rw [ht]; omega)
      obtain ⟨bL, offL, rfl⟩ : ∃ b off, a0 = some ⟨b, off, none⟩ := by
        obtain ⟨b, off, h, _⟩ := HP.out 0 (L[0]'(by rw [HN.out.1]; exact hn1)) (List.getElem?_eq_getElem _)
        exact ⟨b, off, h⟩
      have HOJ : Hid (∀ (v : Value) (W : World), W.ownsRow w.heap.size 31 4 v (n + m) (iv (join L Q)) → ∃ ao c, v = .slice ao (n + m) c ∧ IRow W ao (join L Q)) := Lib.hid (fun v W h => by
        obtain ⟨ao, c, h1, h2, _⟩ := irow_own h
        exact ⟨ao, c, h1, h2⟩)
      have HJL : Hid ((join L Q).length = n + m) := Lib.hid (by rw [join_len, HN.out.1, HN.out.2])
      have HLL : Hid ((iv L).length = n * 4) := Lib.hid (by rw [iv_len, HN.out.1])
      have HL1 := Lib.hid (iv_ones L)
      have HCL := Lib.hid (fun W (g : w.grownBy W none) => irow_cells (HP.out.keep g))
      have HJJ : Hid (L ++ Q.map (shx (n : Int)) = join L Q) := Lib.hid (by unfold join; rw [HN.out.1])
      clear bp bq hl60 hq60 HZ
      go_enter Try.func7, Try.ntmps7
      go_wp2_with fail
      refine (hF0.out _).mono ?_
      rintro e w1 ⟨rfl, g1⟩
      have G1 := Lib.hid g1
      clear g1
      go_wp2_with fail
      refine (hF1.out _).mono ?_
      rintro e w2 ⟨rfl, g2⟩
      have G2 := Lib.hid (g_trans G1.out g2)
      clear g2
      go_wp2_with fail
      refine (HCP.out _ G2.out).mono ?_
      rintro e w3 ⟨rfl, g3⟩
      have G3 := Lib.hid (g_trans G2.out g3)
      clear g3
      go_wp2_with fail
      refine (HCQ.out _ G3.out).mono ?_
      rintro e w4 ⟨rfl, g4⟩
      have G4 := Lib.hid (g_trans G3.out g4)
      clear g4
      go_wp2_with fail
      refine (awake_any _).mono ?_
      rintro e w5 ⟨rfl, g5⟩
      have G5 := Lib.hid (g_trans G4.out g5)
      have GE := Lib.hid (g_trans G5.out (g_alloc (g_refl w5 none) (.cells #[] 31)))
      have HE := Lib.hid (own_zero4 w5 31 G5.out.size)
      have hE := GE.out.size
      have HCW := Lib.hid (HCL.out _ GE.out)
      clear g5
      go_wp2_with (at_builtin; refine wpList_append_own _ rfl _ _ 22 rfl w.heap.size 31 i0 (.agg #[.int .i64 0, .int .i64 0, .int .i64 0, .int .i64 0]) 4 32 Try.underlying22 hi hz0 hz1 hz2 rfl (by decide) _ _ _ rfl HE.out ⟨bL, offL, none⟩ n a0c (iv L) rfl HLL.out HCW.out HL1.out (by unfold maxLen; omega) (by omega) hE ?_; intro v6 w6 hown hgrow _)
      have HO6 : Hid (w6.ownsRow w.heap.size 31 4 v6 n (iv L)) := Lib.hid (by simpa using hown)
      have G6 := Lib.hid (g_own2 GE.out (Nat.le_refl _) HE.out hgrow)
      clear hown hgrow
      go_wp2_with fail
      go_loopw [5, 6] (fun o i wr => ∃ (j : Nat) (v : Value), o = v ∧ i = .int .i64 j ∧ j ≤ m ∧ wr.ownsRow w.heap.size 31 4 v (n + j) (iv (L ++ (Q.take j).map (shx (n : Int)))) ∧ w.grownBy wr none) (fun _ i _ => (m - intOf i).toNat)
      case atStart => exact ⟨0, _, rfl, rfl, Nat.zero_le _, by simpa using HO6.out, G6.out⟩
      case round =>
        obtain ⟨j, v, rfl, rfl, hj, how, hg⟩ := hrel
        by_cases hlt : j < m
        · have hji : (j : Int) < m := by omega
          have hjj : ¬ (m : Int) ≤ j := by omega
          obtain ⟨x, hx⟩ : ∃ x, Q[j]? = some x := ⟨Q[j]'(by rw [HN.out.2]; exact hlt), List.getElem?_eq_getElem _⟩
          obtain ⟨bp, offp, rfl, x0, x1, x2, x3⟩ := HQ.out.keep hg j x hx
          have htb := HTB.out x (List.mem_of_getElem? hx)
          have HT : Hid (iv (L ++ (Q.take (j + 1)).map (shx (n : Int))) = iv (L ++ (Q.take j).map (shx (n : Int))) ++ [.int .i64 (shx n x).k, .int .i64 (shx n x).a, .int .i64 (shx n x).b, .int .i64 (shx n x).c]) := Lib.hid (by
            rw [List.take_add_one, hx, Option.toList_some, List.map_append, ← List.append_assoc, show [x].map (shx (n : Int)) = [shx n x] from rfl, iv_snoc])
          have HTG := Lib.hid (fun W => rtarget_any x.k x.a x.b x.c W)
          have HAI : Hid (∀ W, Calls Try.prog 19 #[.agg #[.int .i64 x.k, .int .i64 x.a, .int .i64 x.b, .int .i64 x.c], .int .i64 (tgt x.k x.a x.b + n)] W fun e w' => e = .returned (.agg #[.int .i64 (shx n x).k, .int .i64 (shx n x).a, .int .i64 (shx n x).b, .int .i64 (shx n x).c]) ∧ W.grownBy w' none) := Lib.hid (fun W => by
            unfold shx; rw [aimx_eq]; exact raim_any _ _ _ _ _ _)
          have HOW := Lib.hid how
          have HG := Lib.hid hg
          clear hx how hg
          generalize shx (n : Int) x = z at *
          generalize tgt x.k x.a x.b = tt at *
          go_wp2_with fail
          refine (HTG.out _).mono ?_
          rintro e w7 ⟨rfl, g7⟩
          have y0 := g7.cell x0 (by simp)
          have y1 := g7.cell x1 (by simp)
          have y2 := g7.cell x2 (by simp)
          have y3 := g7.cell x3 (by simp)
          have G7 := Lib.hid g7
          clear x0 x1 x2 x3 g7
          go_wp2_with fail
          refine (HAI.out _).mono ?_
          rintro e w8 ⟨rfl, g8⟩
          obtain ⟨zk, za, zb, zc⟩ := z
          simp only at HT
          have ga := g_alloc (g_refl w8 none) (.cells #[.int .i64 zk, .int .i64 za, .int .i64 zb, .int .i64 zc] 31)
          have gw := g_trans (g_trans G7.out g8) ga
          have HO5 := Lib.hid (own_keepn HOW.out gw)
          have G9 := Lib.hid (g_trans HG.out gw)
          have HNW := Lib.hid (news4 w8 zk za zb zc)
          have HON := Lib.hid (ones4 zk za zb zc)
          have hz5 := G9.out.size
          clear g8 ga gw y0 y1 y2 y3
          simp only
          go_wp2_with (at_builtin; refine wpList_append_own _ rfl _ _ 22 rfl w.heap.size 31 i0 (.agg #[.int .i64 0, .int .i64 0, .int .i64 0, .int .i64 0]) 4 32 Try.underlying22 hi hz0 hz1 hz2 rfl (by decide) _ _ _ rfl HO5.out ⟨w8.heap.size, 0, none⟩ 1 1 [.int .i64 zk, .int .i64 za, .int .i64 zb, .int .i64 zc] rfl rfl HNW.out HON.out (by unfold maxLen; omega) (by omega) hz5 ?_; intro v6 w6 hown hgrow _)
          have HO6 := Lib.hid hown
          have G6 := Lib.hid (g_own2 G9.out (Nat.le_refl _) HO5.out hgrow)
          clear hown hgrow
          go_wp2_with fail
          go_roundw
          case rel => exact ⟨j + 1, _, rfl, by go_num, by omega, by rw [HT.out]; exact HO6.out, G6.out⟩
          case measure => simp [intOf]; omega
        · obtain rfl : j = m := by omega
          have hjj : ¬ (j : Int) < j := by omega
          rw [List.take_of_length_le (by rw [HN.out.2]; exact Nat.le_refl _), HJJ.out] at how
          obtain ⟨lo, lc, rfl, hlr⟩ := HOJ.out _ _ how
          have HCJ := Lib.hid (fun W g => check_any lo (n + j) lc (join L Q) W (hlr.keep g) HJL.out (by omega))
          have HDJ := Lib.hid (fun W g => depth_any lo (n + j) lc (join L Q) W (hlr.keep g) HJL.out (by omega))
          have HBJ := Lib.hid (fun W g => blocks_any lo (n + j) lc (join L Q) W (hlr.keep g) HJL.out (by omega))
          rw [JC.out] at HCJ
          rw [JD.out] at HDJ
          have HG := Lib.hid hg
          clear how hlr hg
          generalize blkA (join L Q) = kj at *
          generalize blkA L = kp at *
          generalize blkA Q = kq at *
          generalize depA L = dp at *
          generalize depA Q = dq at *
          have hjb : (kj.length : Int) = kp.length + kq.length := by rw [JB.out]; omega
          have hdec : (dp < dq ∧ max dp dq = dq) ∨ (¬ dp < dq ∧ max dp dq = dp) := by omega
          rcases hdec with ⟨hd1, hd2⟩ | ⟨hd1, hd2⟩
          all_goals
            rw [hd2] at HDJ
            clear hd2
            go_wp2_with fail
            refine (HCJ.out _ (g_refl _ _)).mono ?_
            rintro e wa ⟨rfl, ga⟩
            have GA := Lib.hid ga
            clear ga
            go_wp2_with fail
            refine (HDJ.out _ GA.out).mono ?_
            rintro e wb ⟨rfl, gb⟩
            have GB := Lib.hid (g_trans GA.out gb)
            clear gb
            go_wp2_with fail
            refine (HDP.out _ (g_trans HG.out GB.out)).mono ?_
            rintro e wc ⟨rfl, gc⟩
            have GC := Lib.hid (g_trans GB.out gc)
            clear gc
            go_wp2_with fail
            refine (HDQ.out _ (g_trans HG.out GC.out)).mono ?_
            rintro e wd ⟨rfl, gd⟩
            have GD := Lib.hid (g_trans GC.out gd)
            clear gd
            go_wp2_with fail
            refine (HBJ.out _ GD.out).mono ?_
            rintro e we ⟨v, rfl, ho, ge⟩
            obtain ⟨xo, xc, rfl, -, -⟩ := nrow_own ho
            have GE := Lib.hid (g_trans GD.out ge)
            clear ge ho
            go_wp2_with fail
            refine (HBP.out _ (g_trans HG.out GE.out)).mono ?_
            rintro e wf ⟨v, rfl, ho, gf⟩
            obtain ⟨yo, yc, rfl, -, -⟩ := nrow_own ho
            have GF := Lib.hid (g_trans GE.out gf)
            clear gf ho
            go_wp2_with fail
            refine (HBQ.out _ (g_trans HG.out GF.out)).mono ?_
            rintro e wg ⟨v, rfl, ho, gg⟩
            obtain ⟨zo, zc, rfl, -, -⟩ := nrow_own ho
            have GG := Lib.hid (g_trans GF.out gg)
            clear gg ho
            go_wp2_with fail
            go_ret
            exact ⟨rfl, below_gn (Below.refl _ _) (g_trans HG.out GG.out) (Nat.le_refl _)⟩
    · have hq2 : (cq != 0) = true := by simp [hq]
      go_enter Try.func7, Try.ntmps7
      go_wp2_with fail
      refine (hF0.out _).mono ?_
      rintro e w1 ⟨rfl, g1⟩
      have G1 := Lib.hid g1
      clear g1
      go_wp2_with fail
      refine (hF1.out _).mono ?_
      rintro e w2 ⟨rfl, g2⟩
      have G2 := Lib.hid (g_trans G1.out g2)
      clear g2
      go_wp2_with fail
      refine (HCP.out _ G2.out).mono ?_
      rintro e w3 ⟨rfl, g3⟩
      have G3 := Lib.hid (g_trans G2.out g3)
      clear g3
      go_wp2_with fail
      refine (HCQ.out _ G3.out).mono ?_
      rintro e w4 ⟨rfl, g4⟩
      have G4 := Lib.hid (g_trans G3.out g4)
      clear g4
      go_wp2_with fail
      refine (awake_any _).mono ?_
      rintro e w5 ⟨rfl, g5⟩
      have G5 := Lib.hid (g_trans G4.out g5)
      clear g5
      go_wp2_with fail
      go_ret
      exact ⟨rfl, below_gn (Below.refl _ _) G5.out (Nat.le_refl _)⟩
  · have hp2 : (cp != 0) = true := by simp [hp]
    go_enter Try.func7, Try.ntmps7
    go_wp2_with fail
    refine (hF0.out _).mono ?_
    rintro e w1 ⟨rfl, g1⟩
    have G1 := Lib.hid g1
    clear g1
    go_wp2_with fail
    refine (hF1.out _).mono ?_
    rintro e w2 ⟨rfl, g2⟩
    have G2 := Lib.hid (g_trans G1.out g2)
    clear g2
    go_wp2_with fail
    refine (HCP.out _ G2.out).mono ?_
    rintro e w3 ⟨rfl, g3⟩
    have G3 := Lib.hid (g_trans G2.out g3)
    clear g3
    go_wp2_with fail
    refine (awake_any _).mono ?_
    rintro e w5 ⟨rfl, g5⟩
    have G5 := Lib.hid (g_trans G3.out g5)
    clear g5
    go_wp2_with fail
    go_ret
    exact ⟨rfl, below_gn (Below.refl _ _) G5.out (Nat.le_refl _)⟩
end Go.Proofs.Ytfobfcnbbafplaa
