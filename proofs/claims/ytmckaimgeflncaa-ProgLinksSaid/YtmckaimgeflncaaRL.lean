/- The document's Link. -/
import Derived.Test.YtmckaimgeflncaaPX
namespace Go.Proofs.Ytmckaimgeflncaa
open Go.RowKit
set_option linter.unusedVariables false
set_option linter.unusedSimpArgs false

theorem fit_no {L : List I4} {n q : Nat} {y : I4} (hn : L.length = n) (hy : L[q]? = some y) (h : unf n y = true) : fitL L = false := by
  unfold fitL
  rw [hn]
  have : L.any (unf n) = true := List.any_eq_true.2 ⟨y, List.mem_of_getElem? hy, h⟩
  rw [this]; rfl
theorem fit_yes {L : List I4} {n : Nat} (hn : L.length = n) (h : L.any (unf n) = false) : fitL L = true := by
  unfold fitL
  rw [hn, h]; rfl
theorem any_snoc {L : List I4} {n q : Nat} {y : I4} (hy : L[q]? = some y) (h : (L.take q).any (unf n) = false) (hu : unf n y = false) : (L.take (q + 1)).any (unf n) = false := by
  rw [List.take_add_one, hy]; simp [h, hu]
theorem map_snoc {L o : List I4} {q : Nat} {y : I4} (hy : L[q]? = some y) (n : Nat) : o ++ (L.take (q + 1)).map (aimx n) = (o ++ (L.take q).map (aimx n)) ++ [aimx n y] := by
  rw [List.take_add_one, hy, List.append_assoc]; simp

set_option maxRecDepth 100000 in
set_option maxHeartbeats 3200000 in
theorem rlink_all (po : Option Addr) (m mc : Nat) (P : List Pt) (w : World) (hP : PRow w po P) (hm : P.length = m) (hm4 : m ≤ 4) :
    Calls Try.prog 18 #[.slice po m mc] w fun e w' => PLink P w w' e := by
  obtain ⟨i0, hi, hz0, hz1, hz2⟩ := info_parts info43
  have HP := Lib.hid hP
  have HM := Lib.hid hm
  have HLL : Hid (∀ x ∈ P, x.L.length = x.n) := Lib.hid (fun x hx => by obtain ⟨i, hi⟩ := List.getElem?_of_mem hx; exact (hP i x hi).2.2.1)
  clear hP hm
  go_enter Try.func18, Try.ntmps18
  go_wp2_with fail
  go_loopw [4, 5] (fun s i wr => ∃ j : Nat, j ≤ m ∧ i = .int .i64 j ∧ s = .int .i64 (tot (P.take j)) ∧ tot (P.take j) ≤ 512 ∧ w.grownBy wr none) (fun _ i _ => (m - intOf i).toNat)
  case atStart => exact ⟨0, Nat.zero_le _, rfl, rfl, by simp [tot], g_refl _ _⟩
  case round =>
    obtain ⟨j, hj, rfl, rfl, ht, hg⟩ := hrel
    by_cases hlt : j < m
    · have hji : (j : Int) < m := by omega
      obtain ⟨x, hx⟩ : ∃ x, P[j]? = some x := ⟨P[j]'(by rw [HM.out]; exact hlt), List.getElem?_eq_getElem _⟩
      obtain ⟨⟨b, off, rfl, hc⟩, _, _, hx520⟩ := HP.out.keep hg j x hx
      have hs : tot (P.take (j + 1)) = tot (P.take j) + x.n := by rw [List.take_add_one, hx]; exact tot_snoc _ _
      have hle := tot_le (P := P) (j + 1)
      have HS := Lib.hid hs
      have GR := Lib.hid hg
      have HLE := Lib.hid hle
      clear hs hx hg hle
      generalize tot (P.take j) = t at *
      by_cases hb : t + x.n ≤ 512
      · have hbi : ¬ (512 : Int) < t + x.n := by omega
        go_wp2_with fail
        go_roundw
        case rel => exact ⟨j + 1, by omega, by go_num, by rw [HS.out]; go_num, by rw [HS.out]; exact hb, GR.out⟩
        case measure => simp [intOf]; omega
      · have hbi : (512 : Int) < t + x.n := by omega
        go_wp2_with fail
        go_ret2
        exact plink_many GR.out (by have := HS.out; have := HLE.out; omega)
    · obtain rfl : j = m := by omega
      rw [List.take_of_length_le (by rw [HM.out]; exact Nat.le_refl _)] at ht
      have G1 := Lib.hid hg
      have HT := Lib.hid ht
      obtain ⟨w1, hw1⟩ : ∃ w1, w1 = wr := ⟨_, rfl⟩
      rw [← hw1] at G1 ⊢
      clear hg ht hj hlt hw1
      go_wp2_with fail
      go_loopw [6, 7] (fun o i wr => ∃ i' : Nat, i' ≤ j ∧ i = .int .i64 i' ∧ (∀ y ∈ P.take i', fitL y.L = true) ∧ wr.ownsRow w.heap.size 43 4 o (lk (P.take i')).length (iv (lk (P.take i'))) ∧ w.grownBy wr none) (fun _ i _ => (j - intOf i).toNat)
      case atStart => exact ⟨0, Nat.zero_le _, rfl, by simp, World.ownsRow_nil _ _ _ _, G1.out⟩
      case round =>
        obtain ⟨i', hi', rfl, hf, how, hg⟩ := hrel
        by_cases hlt : i' < j
        · have hji : (i' : Int) < j := by omega
          obtain ⟨x, hx⟩ : ∃ x, P[i']? = some x := ⟨P[i']'(by rw [HM.out]; exact hlt), List.getElem?_eq_getElem _⟩
          have hIR := (HP.out i' x hx).2.1
          obtain ⟨⟨b, off, rfl, hc⟩, -, hxn, hx520⟩ := HP.out.keep hg i' x hx
          have hs : lk (P.take (i' + 1)) = lk (P.take i') ++ x.L.map (aimx (lk (P.take i')).length) := by rw [List.take_add_one, hx]; exact lk_snoc _ _
          have hs2 : tot (P.take (i' + 1)) = tot (P.take i') + x.n := by rw [List.take_add_one, hx]; exact tot_snoc _ _
          have hle := tot_le (P := P) (i' + 1)
          have hlen : (lk (P.take i')).length = tot (P.take i') := lk_len _ (fun y hy => HLL.out y (List.mem_of_mem_take hy))
          have HS := Lib.hid hs
          have GR := Lib.hid hg
          have HIR := Lib.hid hIR
          have HXN := Lib.hid hxn
          have HXX := Lib.hid hx
          have HF := Lib.hid hf
          have HOW := Lib.hid how
          have hm512 : (lk (P.take i')).length + x.n ≤ 512 := by have := HT.out; omega
          clear hs hs2 hle hlen hg hIR hxn hx hf how
          generalize lk (P.take i') = o at *
          obtain ⟨vo, oc, rfl⟩ := own_val (by decide) HOW.out
          have HC := Lib.hid hc
          clear hc
          obtain ⟨w3, hw3⟩ : ∃ w3, w3 = wr := ⟨_, rfl⟩
          rw [← hw3] at GR HOW HC ⊢
          clear hw3
          go_wp2_with fail
          go_loopw [6, 9] (fun ov k wr => ∃ q : Nat, q ≤ x.n ∧ k = .int .i64 q ∧ (x.L.take q).any (unf x.n) = false ∧ wr.ownsRow w.heap.size 43 4 ov (o.length + q) (iv (o ++ (x.L.take q).map (aimx o.length))) ∧ w.grownBy wr none) (fun _ k _ => (x.n - intOf k).toNat)
          case atStart => exact ⟨0, Nat.zero_le _, rfl, rfl, by simpa using HOW.out, GR.out⟩
          case round =>
            obtain ⟨q, hq, rfl, hany, how, hg⟩ := hrel
            obtain ⟨⟨b', off', hbo, hc⟩, -, -, -⟩ := HP.out.keep hg i' x HXX.out
            injection hbo with hbo
            injection hbo with q1 q2 q3
            subst q1 q2
            by_cases hlt2 : q < x.n
            · have hqi : (q : Int) < x.n := by omega
              obtain ⟨y, hy⟩ : ∃ y, x.L[q]? = some y := ⟨x.L[q]'(by rw [HXN.out]; exact hlt2), List.getElem?_eq_getElem _⟩
              obtain ⟨b1, off1, hxa, y0, y1, y2, y3⟩ := HIR.out.keep hg q y hy
              have HIS := Lib.hid (is_x y)
              have HTG := Lib.hid (rtarget_any y.k y.a y.b y.c)
              have HAM := Lib.hid (fun w => raim_any y.k y.a y.b y.c (tgt y.k y.a y.b + o.length) w)
              have HE2 := Lib.hid (map_snoc (o := o) hy o.length)
              have HANY := Lib.hid (fun h => any_snoc hy hany h)
              have HNO := Lib.hid (fun h => fit_no HXN.out hy h)
              have HOW2 := Lib.hid how
              have GQ := Lib.hid hg
              have hwa := g_alloc (g_refl wr none) (.cells #[.int .i64 y.k, .int .i64 y.a, .int .i64 y.b, .int .i64 y.c] 43)
              have YB := Lib.hid (Blk.new wr #[.int .i64 y.k, .int .i64 y.a, .int .i64 y.b, .int .i64 y.c] 43)
              have HWA := Lib.hid hwa
              have HC := Lib.hid hc
              have hunf : unf x.n y = (!okx y || (isJ y.k && decide ((x.n : Int) < tgt y.k y.a y.b))) := rfl
              have htin := fun h => tgt_in (x := y) h
              have hplain := fun h => aimx_plain (x := y) h o.length
              have hax : aimx o.length y = ⟨y.k, aimA y.k y.a (tgt y.k y.a y.b + o.length), aimB y.k y.b (tgt y.k y.a y.b + o.length), y.c⟩ := rfl
              clear how hg hy hwa hany
              cases hok : okx y
              · rw [hok] at HIS hunf
                have HUN := Lib.hid (HNO.out hunf)
                clear hok hunf htin hplain hax
                go_wp2_with fail
                refine (HIS.out _).mono ?_
                rintro e w4 ⟨rfl, g4⟩
                go_wp2_with fail
                go_ret2
                exact plink_bad (g_trans (g_trans GQ.out HWA.out) g4) HT.out (List.mem_of_getElem? HXX.out) HUN.out
              · rw [hok] at HIS hunf
                obtain ⟨t0, t1⟩ := htin hok
                clear hok htin
                cases hJ : isJ y.k
                · rw [hJ] at HTG hunf
                  have HUN := Lib.hid (HANY.out hunf)
                  rw [hplain hJ] at HE2
                  clear hunf hJ hplain hax
                  generalize tgt y.k y.a y.b = t at *
                  go_wp2_with fail
                  refine (HIS.out _).mono ?_
                  rintro e w4 ⟨rfl, g4⟩
                  have YB := Lib.hid (YB.out.keepn g4)
                  have z0 := YB.out.cell 0 _ rfl
                  have z1 := YB.out.cell 1 _ rfl
                  have z2 := YB.out.cell 2 _ rfl
                  have z3 := YB.out.cell 3 _ rfl
                  go_wp2_with fail
                  refine (HTG.out _).mono ?_
                  rintro e w5 ⟨rfl, g5⟩
                  have YB := Lib.hid (YB.out.keepn g5)
                  have G5 := Lib.hid (g_trans (g_trans HWA.out g4) g5)
                  clear z0 z1 z2 z3
                  have z0 := YB.out.cell 0 _ rfl
                  have z1 := YB.out.cell 1 _ rfl
                  have z2 := YB.out.cell 2 _ rfl
                  have z3 := YB.out.cell 3 _ rfl
                  have HO5 := Lib.hid (own_keepn HOW2.out G5.out)
                  have G6 := Lib.hid (g_trans GQ.out G5.out)
                  clear g4 g5 y0 y1 y2 y3 hc hxa
                  have g9 := g_alloc (g_refl w5 none) (.cells #[.int .i64 y.k, .int .i64 y.a, .int .i64 y.b, .int .i64 y.c] 43)
                  have HO6 := Lib.hid (own_keepn HO5.out g9)
                  have G9 := Lib.hid (g_trans G6.out g9)
                  have HNW := Lib.hid (news4 w5 y.k y.a y.b y.c)
                  have HON : Hid (∀ u ∈ ([.int .i64 y.k, .int .i64 y.a, .int .i64 y.b, .int .i64 y.c] : List Value), u.oneCell' = true) := Lib.hid (by intro u hu; simp at hu; rcases hu with rfl | rfl | rfl | rfl <;> rfl)
                  have hz9 := G9.out.size
                  clear g9
                  go_wp2_with (at_builtin; refine wpList_append_own _ rfl _ _ 22 rfl w.heap.size 43 i0 (.agg #[.int .i64 0, .int .i64 0, .int .i64 0, .int .i64 0]) 4 32 Try.underlying22 hi hz0 hz1 hz2 rfl (by decide) _ _ _ rfl HO6.out ⟨w5.heap.size, 0, none⟩ 1 1 [.int .i64 y.k, .int .i64 y.a, .int .i64 y.b, .int .i64 y.c] rfl rfl HNW.out HON.out (by unfold maxLen; omega) (by omega) hz9 ?_; intro v6 w9 hown hgrow _)
                  have HO8 := Lib.hid hown
                  have GG := Lib.hid (g_own2 G9.out (Nat.le_refl _) HO6.out hgrow)
                  clear hown hgrow hz9 z0 z1 z2 z3
                  go_wp2_with fail
                  go_roundw
                  case rel => exact ⟨q + 1, by omega, by go_num, HUN.out, by rw [HE2.out, iv_snoc]; have h := HO8.out; exact h, GG.out⟩
                  case measure => simp [intOf]; omega
                · rw [hJ] at HTG hunf
                  by_cases hlt3 : (x.n : Int) < tgt y.k y.a y.b
                  · have HUN := Lib.hid (HNO.out (by rw [hunf]; simp [hlt3]))
                    clear hunf hJ hplain hax
                    generalize tgt y.k y.a y.b = t at *
                    go_wp2_with fail
                    refine (HIS.out _).mono ?_
                    rintro e w4 ⟨rfl, g4⟩
                    have YB := Lib.hid (YB.out.keepn g4)
                    have z0 := YB.out.cell 0 _ rfl
                    have z1 := YB.out.cell 1 _ rfl
                    have z2 := YB.out.cell 2 _ rfl
                    have z3 := YB.out.cell 3 _ rfl
                    go_wp2_with fail
                    refine (HTG.out _).mono ?_
                    rintro e w5 ⟨rfl, g5⟩
                    have hc5 := (g_trans (g_trans HWA.out g4) g5).cell HC.out (by simp)
                    go_wp2_with fail
                    go_ret2
                    exact plink_bad (g_trans (g_trans (g_trans GQ.out HWA.out) g4) g5) HT.out (List.mem_of_getElem? HXX.out) HUN.out
                  · have HUN := Lib.hid (HANY.out (by rw [hunf]; simp [hlt3]))
                    rw [hax] at HE2
                    clear hunf hJ hplain hax
                    generalize aimA y.k y.a (tgt y.k y.a y.b + o.length) = ya at *
                    generalize aimB y.k y.b (tgt y.k y.a y.b + o.length) = yb at *
                    generalize tgt y.k y.a y.b = t at *
                    go_wp2_with fail
                    refine (HIS.out _).mono ?_
                    rintro e w4 ⟨rfl, g4⟩
                    have YB := Lib.hid (YB.out.keepn g4)
                    have z0 := YB.out.cell 0 _ rfl
                    have z1 := YB.out.cell 1 _ rfl
                    have z2 := YB.out.cell 2 _ rfl
                    have z3 := YB.out.cell 3 _ rfl
                    go_wp2_with fail
                    refine (HTG.out _).mono ?_
                    rintro e w5 ⟨rfl, g5⟩
                    have YB := Lib.hid (YB.out.keepn g5)
                    have hc5 := (g_trans (g_trans HWA.out g4) g5).cell HC.out (by simp)
                    clear z0 z1 z2 z3
                    have z0 := YB.out.cell 0 _ rfl
                    have z1 := YB.out.cell 1 _ rfl
                    have z2 := YB.out.cell 2 _ rfl
                    have z3 := YB.out.cell 3 _ rfl
                    go_wp2_with fail
                    refine (HAM.out _).mono ?_
                    rintro e w6 ⟨rfl, g6⟩
                    have YB := Lib.hid (YB.out.keepn g6)
                    have gq := g_trans (g_trans (g_trans HWA.out g4) g5) g6
                    have G6 := Lib.hid (g_trans GQ.out gq)
                    have HOW3 := Lib.hid (own_keepn HOW2.out gq)
                    clear z0 z1 z2 z3 hc5
                    have z0 := YB.out.cell 0 _ rfl
                    have z1 := YB.out.cell 1 _ rfl
                    have z2 := YB.out.cell 2 _ rfl
                    have z3 := YB.out.cell 3 _ rfl
                    have f0 := YB.out.free 0
                    have f1 := YB.out.free 1
                    have f2 := YB.out.free 2
                    have f3 := YB.out.free 3
                    have xf := (((YB.out.set 0 (.int .i64 y.k)).set 1 (.int .i64 ya)).set 2 (.int .i64 yb)).set 3 (.int .i64 y.c)
                    have gs := g_set (g_set (g_set (g_set (g_refl w6 (some wr.heap.size)) (p := ⟨wr.heap.size, 0, none⟩) (.inl rfl) (.int .i64 y.k)) (p := ⟨wr.heap.size, 1, none⟩) (.inl rfl) (.int .i64 ya)) (p := ⟨wr.heap.size, 2, none⟩) (.inl rfl) (.int .i64 yb)) (p := ⟨wr.heap.size, 3, none⟩) (.inl rfl) (.int .i64 y.c)
                    have HO5 := Lib.hid ((tr_gs (S := fun i => i = wr.heap.size) gs (fun _ => rfl)).own HOW3.out (fun g hg e => by have := (HOW2.out.lt g hg).2; omega))
                    have XF := Lib.hid xf
                    have G7 := Lib.hid (g_in G6.out gs (by have := GQ.out.size; omega))
                    clear xf gs gq g4 g5 g6 y0 y1 y2 y3 hc hxa
                    go_upto_region 24 with fail
                    generalize ((((w6.setCell ⟨wr.heap.size, 0, none⟩ (.int .i64 y.k)).setCell ⟨wr.heap.size, 1, none⟩ (.int .i64 ya)).setCell ⟨wr.heap.size, 2, none⟩ (.int .i64 yb)).setCell ⟨wr.heap.size, 3, none⟩ (.int .i64 y.c)) = WW at *
                    clear z0 z1 z2 z3 f0 f1 f2 f3
                    have z0 := XF.out.cell 0 (.int .i64 y.k) rfl
                    have z1 := XF.out.cell 1 (.int .i64 ya) rfl
                    have z2 := XF.out.cell 2 (.int .i64 yb) rfl
                    have z3 := XF.out.cell 3 (.int .i64 y.c) rfl
                    have g9 := g_alloc (g_refl WW none) (.cells #[.int .i64 y.k, .int .i64 ya, .int .i64 yb, .int .i64 y.c] 43)
                    have HO6 := Lib.hid (own_keepn HO5.out g9)
                    have G9 := Lib.hid (g_trans G7.out g9)
                    have HNW := Lib.hid (news4 WW y.k ya yb y.c)
                    have HON : Hid (∀ u ∈ ([.int .i64 y.k, .int .i64 ya, .int .i64 yb, .int .i64 y.c] : List Value), u.oneCell' = true) := Lib.hid (by intro u hu; simp at hu; rcases hu with rfl | rfl | rfl | rfl <;> rfl)
                    have hz9 := G9.out.size
                    clear g9
                    go_wp2_with (at_builtin; refine wpList_append_own _ rfl _ _ 22 rfl w.heap.size 43 i0 (.agg #[.int .i64 0, .int .i64 0, .int .i64 0, .int .i64 0]) 4 32 Try.underlying22 hi hz0 hz1 hz2 rfl (by decide) _ _ _ rfl HO6.out ⟨WW.heap.size, 0, none⟩ 1 1 [.int .i64 y.k, .int .i64 ya, .int .i64 yb, .int .i64 y.c] rfl rfl HNW.out HON.out (by unfold maxLen; omega) (by omega) hz9 ?_; intro v6 w9 hown hgrow _)
                    have HO8 := Lib.hid hown
                    have GG := Lib.hid (g_own2 G9.out (Nat.le_refl _) HO6.out hgrow)
                    clear hown hgrow hz9 z0 z1 z2 z3
                    go_wp2_with fail
                    go_roundw
                    case rel => exact ⟨q + 1, by omega, by go_num, HUN.out, by rw [HE2.out, iv_snoc]; have h := HO8.out; exact h, GG.out⟩
                    case measure => simp [intOf]; omega
            · obtain rfl : q = x.n := by omega
              rw [List.take_of_length_le (by rw [HXN.out]; exact Nat.le_refl _)] at how hany
              have HO7 := Lib.hid how
              have G7 := Lib.hid hg
              have HFIT := Lib.hid (fit_yes HXN.out hany)
              clear how hg hany
              go_wp2_with fail
              go_roundw
              case rel => exact ⟨i' + 1, by omega, by go_num, all_snoc HXX.out HF.out HFIT.out, by rw [HS.out, List.length_append, List.length_map, HXN.out]; exact HO7.out, G7.out⟩
              case measure => simp [intOf]; omega
        · obtain rfl : i' = j := by omega
          rw [List.take_of_length_le (by rw [HM.out]; exact Nat.le_refl _)] at how hf
          have HO7 := Lib.hid how
          have G7 := Lib.hid hg
          have HF := Lib.hid hf
          clear how hg hf
          go_wp2_with fail
          go_ret2
          exact plink_ok G7.out HT.out HF.out HO7.out
end Go.Proofs.Ytmckaimgeflncaa
