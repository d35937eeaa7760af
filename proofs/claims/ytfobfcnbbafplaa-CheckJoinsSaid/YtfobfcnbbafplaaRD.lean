/- The document's mates, branches, depths and blocks; the program's blocks. -/
import Derived.Test.YtfobfcnbbafplaaCR
import Derived.Test.YtfobfcnbbafplaaRX
namespace Go.Proofs.Ytfobfcnbbafplaa
open Go.RowKit
set_option linter.unusedVariables false
set_option linter.unusedSimpArgs false

theorem field58 (a b : Int) (w : World) : (Instr.field 58 (.agg #[.int .i64 a, .int .i64 b]) 0).run Try.prog w = .ok (.int .i64 a) w := by kernel_rfl
set_option maxRecDepth 100000 in
set_option maxHeartbeats 6400000 in
theorem mate_any (ao : Option Addr) (n c : Nat) (P : List I4) (k : Nat) (w : World) (hP : IRow w ao P) (hn : P.length = n) (h5 : n < 100000) (hk : k < n) (hok : Okj P P.length) (ho : opn P P.length = []) :
    Calls Try.prog 32 #[.slice ao n c, .int .i64 k] w fun e w' => ∃ m, e = .returned (.int .i64 m) ∧ (matJ P P.length)[k]? = some m ∧ w.grownBy w' none := by
  obtain ⟨x, hx, hxk⟩ := kd_ex (P := P) (s := k) (by rw [hn]; exact hk)
  obtain ⟨bp, offp, rfl, x0, -⟩ := hP k x hx
  have hki : (k : Int) < n := by omega
  have hkk : ¬ (n : Int) ≤ k := by omega
  have HP := Lib.hid hP
  have HN := Lib.hid hn
  have HOK := Lib.hid (And.intro hok ho)
  have hkl : k < P.length := by rw [hn]; exact hk
  by_cases hbe : x.k = 15 ∨ x.k = 16
  · have HM : Hid (∀ i, i < P.length → opn P i = opn P (k + 1) → (kd P i = 16 ∨ kd P i = 17) → (matJ P P.length)[k]? = some (i : Int)) := Lib.hid (fun i hi hs h => by
      rcases hbe with h1 | h1
      · exact mate_begin hok hkl (by rw [← hxk]; exact h1) hi hs h
      · exact (mate_else hok hkl (by rw [← hxk]; exact h1) hi hs h).1)
    have HB : Hid (opn P (k + 1) ≠ []) := Lib.hid (by
      rcases hbe with h1 | h1
      · rw [begin_open hok hkl (by rw [← hxk]; exact h1)]; simp
      · obtain ⟨R, b, w, _, _, e3⟩ := else_open hok hkl (by rw [← hxk]; exact h1)
        rw [e3]; simp)
    have hcs : x.k = 15 ∨ (¬ x.k = 15 ∧ x.k = 16) := by omega
    clear hP hn hok ho hx hxk hbe
    obtain ⟨xk, xa, xb, xc⟩ := x
    simp only at hcs x0
    rcases hcs with rfl | ⟨-, rfl⟩
    all_goals
      go_enter Try.func32, Try.ntmps32
      go_wp2_with fail
      go_loopw [5, 6] (fun d i wr => ∃ (j : Nat) (D : List (Int × Int)) (m : Nat), i = .int .i64 j ∧ d = .int .i64 m ∧ D.length = m ∧ k < j ∧ j ≤ n ∧ opn P j = opn P (k + 1) ++ D ∧ wr = w ∧ m ≤ 8) (fun _ i _ => (n - intOf i).toNat)
      case atStart => exact ⟨k + 1, [], 0, by go_num, rfl, rfl, by omega, by omega, by simp, rfl, by omega⟩
      case round =>
        obtain ⟨j, D, m, rfl, rfl, hm, hkj, hj, hD, rfl, hm8⟩ := hrel
        by_cases hlt : j < n
        · have hji : (j : Int) < n := by omega
          have hjj : ¬ (n : Int) ≤ j := by omega
          obtain ⟨y, hy, hyk⟩ := kd_ex (P := P) (s := j) (by rw [HN.out]; exact hlt)
          obtain ⟨bp', offp', hbo, y0, -⟩ := HP.out j y hy
          cases hbo
          have HL8 : Hid (opn P (j + 1) = opn P (j + 1) ∧ (opn P (j + 1)).length ≤ 8) := Lib.hid ⟨rfl, opn_len P _⟩
          have HSC : Hid (¬ (m = 0 ∧ (y.k = 16 ∨ y.k = 17)) → ∃ D', opn P (j + 1) = opn P (k + 1) ++ D' ∧ (D'.length : Int) = (m : Int) + (if y.k = 15 then 1 else if y.k = 17 then -1 else 0) ∧ D'.length ≤ 8) := Lib.hid (fun h => by
            obtain ⟨D', q1, q2⟩ := scan_next (okj_le HOK.out.1 (by rw [HN.out]; omega)) hy hD (by rw [← hyk]; rintro ⟨rfl, h2⟩; exact h ⟨by simpa using hm.symm, h2⟩)
            refine ⟨D', q1, by rw [q2, hm, hyk], ?_⟩
            have := HL8.out.2
            rw [q1, List.length_append] at this
            omega)
          have HFD : Hid (m = 0 → (y.k = 16 ∨ y.k = 17) → (matJ P P.length)[k]? = some (j : Int)) := Lib.hid (fun h1 h2 => HM.out j (by rw [HN.out]; exact hlt) (by rw [hD, show D = [] from List.eq_nil_of_length_eq_zero (by omega), List.append_nil]) (by rw [← hyk]; exact h2))
          clear hy hyk hD hm
          obtain ⟨yk, ya, yb, yc⟩ := y
          simp only at HSC HFD y0
          by_cases hm0 : m = 0
          · subst hm0
            by_cases h17 : yk = 17
            · subst h17
              go_wp2_with fail
              go_ret
              exact ⟨_, rfl, HFD.out (by simp) (.inr (by simp)), g_refl _ _⟩
            by_cases h16 : yk = 16
            · subst h16
              go_wp2_with fail
              go_ret
              exact ⟨_, rfl, HFD.out (by simp) (.inl (by simp)), g_refl _ _⟩
            by_cases h15 : yk = 15
            · subst h15
              obtain ⟨D', q1, q2, q3⟩ := HSC.out (by omega)
              have Q := Lib.hid (And.intro q1 (And.intro q2 q3))
              clear q1 q2 q3
              go_wp2_with fail
              go_roundw
              case rel => exact ⟨j + 1, D', 1, by go_num, by go_num, by have := Q.out.2.1; simp at this; omega, by omega, by omega, Q.out.1, by simp, by omega⟩
              case measure => simp [intOf]; omega
            · obtain ⟨D', q1, q2, q3⟩ := HSC.out (by omega)
              rw [if_neg h15, if_neg h17] at q2
              have Q := Lib.hid (And.intro q1 (And.intro q2 q3))
              have e15 : (yk == 15) = false := by simp [h15]
              have e16 : (yk == 16) = false := by simp [h16]
              have e17 : (yk == 17) = false := by simp [h17]
              clear q1 q2 q3
              go_wp2_with fail
              go_roundw
              case rel => exact ⟨j + 1, D', 0, by go_num, by go_num, by have := Q.out.2.1; omega, by omega, by omega, Q.out.1, by simp, by omega⟩
              case measure => simp [intOf]; omega
          · have hmi : ¬ (m : Int) = 0 := by omega
            have hmb : ((m : Int) == 0) = false := by simp [hm0]
            obtain ⟨D', q1, q2, q3⟩ := HSC.out (by omega)
            by_cases h17 : yk = 17
            · subst h17
              have Q := Lib.hid (And.intro q1 (And.intro q2 q3))
              clear q1 q2 q3
              go_wp2_with fail
              go_roundw
              case rel => exact ⟨j + 1, D', m - 1, by go_num, by (have e : ((m - 1 : Nat) : Int) = (m : Int) - 1 := by omega); rw [e], by have := Q.out.2.1; simp at this; omega, by omega, by omega, Q.out.1, by simp, by omega⟩
              case measure => simp [intOf]; omega
            by_cases h15 : yk = 15
            · subst h15
              have Q := Lib.hid (And.intro q1 (And.intro q2 q3))
              clear q1 q2 q3
              go_wp2_with fail
              go_roundw
              case rel => exact ⟨j + 1, D', m + 1, by go_num, by go_num, by have := Q.out.2.1; simp at this; omega, by omega, by omega, Q.out.1, by simp, by have := Q.out.2.1; have := Q.out.2.2; simp at *; omega⟩
              case measure => simp [intOf]; omega
            · rw [if_neg h15, if_neg h17] at q2
              have Q := Lib.hid (And.intro q1 (And.intro q2 q3))
              have e15 : (yk == 15) = false := by simp [h15]
              have e17 : (yk == 17) = false := by simp [h17]
              clear q1 q2 q3
              go_wp2_with fail
              go_roundw
              case rel => exact ⟨j + 1, D', m, by go_num, by go_num, by have := Q.out.2.1; omega, by omega, by omega, Q.out.1, by simp, by omega⟩
              case measure => simp [intOf]; omega
        · obtain rfl : j = n := by omega
          exfalso
          have h := HOK.out.2
          rw [HN.out, hD] at h
          exact HB.out (List.append_eq_nil_iff.1 h).1
  · have hk15 : ¬ x.k = 15 := fun h => hbe (.inl h)
    have hk16 : ¬ x.k = 16 := fun h => hbe (.inr h)
    have e15 : (x.k == 15) = false := by simp [hk15]
    have e16 : (x.k == 16) = false := by simp [hk16]
    by_cases hk17 : x.k = 17
    · have HM := Lib.hid (mate_end hok hkl (by rw [← hxk]; exact hk17))
      have HBR := Lib.hid (branch_any (some ⟨bp, offp, none⟩) n c P k w hP hn h5 (by omega))
      rw [hk17] at x0
      clear hP hn hok ho hx hxk hbe hk15 hk16 e15 e16 hk17
      go_enter Try.func32, Try.ntmps32
      go_wp2_with fail
      refine HBR.out.mono ?_
      rintro e w1 ⟨rfl, g1⟩
      have hfl := fun w => field58 (topP (opn P k)).1 (topP (opn P k)).2 w
      go_wp2_with fail
      go_ret
      exact ⟨_, rfl, HM.out, g1⟩
    · have HM := Lib.hid (mate_other hok hkl (by rw [← hxk]; exact hk15) (by rw [← hxk]; exact hk16) (by rw [← hxk]; exact hk17))
      have e17 : (x.k == 17) = false := by simp [hk17]
      clear hP hn hok ho hx hxk hbe hk15 hk16 hk17
      go_enter Try.func32, Try.ntmps32
      go_wp2_with fail
      go_ret
      exact ⟨_, rfl, HM.out, g_refl _ _⟩

theorem info3' : (Try.prog.info? 3).map (fun i => (i.zero, i.size, i.bytes)) = some (some (.int .i64 0), 1, 8) := by kernel_rfl
theorem news1 (w : World) (a : Int) (T : TypeId) : ∀ (j : Nat) (u : Value), ([.int .i64 a] : List Value)[j]? = some u → (w.alloc (.cells #[.int .i64 a] T)).cell? ((⟨w.heap.size, 0, none⟩ : Addr).add j) = some u := new_cells w [.int .i64 a] T
theorem ones1 (a : Int) : ∀ u ∈ ([.int .i64 a] : List Value), u.oneCell' = true := by intro u hu; simp at hu; subst hu; rfl
theorem icl_snoc (L : List Int) (x : Int) : icl (L ++ [x]) = icl L ++ [.int .i64 x] := by simp [icl]

set_option maxRecDepth 100000 in
set_option maxHeartbeats 6400000 in
theorem rmates_any (ao : Option Addr) (n c : Nat) (P : List I4) (w : World) (hP : IRow w ao P) (hn : P.length = n) (h5 : n < 100000) :
    Calls Try.prog 21 #[.slice ao n c] w fun e w' => PMat w w' e (thrA P) := by
  obtain ⟨i0, hi, hz0, hz1, hz2⟩ := info_parts info3'
  have HC := Lib.hid (rcheck_any ao n c P w hP hn h5)
  have HP := Lib.hid hP
  have HN := Lib.hid hn
  clear hP hn
  by_cases hz : chkR (thrA P) = 0
  · obtain ⟨m1, m2⟩ := matR_acc hz
    obtain ⟨-, -, hok, ho, -, -⟩ := thr_acc ((chk_zero _).1 hz)
    have HE : Hid (∀ w' v, w'.ownsRow w.heap.size 3 1 v n (icl (matJ P P.length)) → w.grownBy w' none → PMat w w' (.returned (.tuple #[v, .int .i64 0])) (thrA P)) := Lib.hid (fun w' v h g => ⟨v, by rw [hz], by rw [m1, m2.trans HN.out]; exact h, g⟩)
    rw [hz] at HC
    have HOK := Lib.hid (And.intro hok ho)
    have HML := Lib.hid (m2.trans HN.out)
    clear hz m1 m2 hok ho
    go_enter Try.func21, Try.ntmps21
    go_wp2_with fail
    refine HC.out.mono ?_
    rintro e w1 ⟨rfl, g1⟩
    have G1 := Lib.hid g1
    clear g1
    go_wp2_with fail
    go_loopw [5, 6] (fun o i wr => ∃ (k : Nat) (v : Value), o = v ∧ i = .int .i64 k ∧ k ≤ n ∧ wr.ownsRow w.heap.size 3 1 v k (icl ((matJ P P.length).take k)) ∧ w.grownBy wr none) (fun _ i _ => (n - intOf i).toNat)
    case atStart => exact ⟨0, _, rfl, rfl, Nat.zero_le _, World.ownsRow_nil _ _ _ _, G1.out⟩
    case round =>
      obtain ⟨k, v, rfl, rfl, hk, how, hg⟩ := hrel
      by_cases hlt : k < n
      · have hki : (k : Int) < n := by omega
        have HMA := Lib.hid (mate_any ao n c P k wr (HP.out.keep hg) HN.out h5 hlt HOK.out.1 HOK.out.2)
        have HOW := Lib.hid how
        have HG := Lib.hid hg
        clear how hg
        go_wp2_with fail
        refine HMA.out.mono ?_
        rintro e w2 ⟨m, rfl, hm, g2⟩
        have HT : Hid (icl ((matJ P P.length).take (k + 1)) = icl ((matJ P P.length).take k) ++ [.int .i64 m]) := Lib.hid (by rw [List.take_add_one, hm, Option.toList_some, icl_snoc])
        have ga := g_alloc (g_refl w2 none) (.cells #[.int .i64 m] 3)
        have HO5 := Lib.hid (own_keepn (own_keepn HOW.out g2) ga)
        have G5 := Lib.hid (g_trans (g_trans HG.out g2) ga)
        have HNW := Lib.hid (news1 w2 m 3)
        have HON := Lib.hid (ones1 m)
        have hz5 := G5.out.size
        clear hm g2 ga
        go_wp2_with (at_builtin; refine wpList_append_own _ rfl _ _ 24 rfl w.heap.size 3 i0 (.int .i64 0) 1 8 Try.underlying24 hi hz0 hz1 hz2 rfl (by decide) _ _ _ rfl HO5.out ⟨w2.heap.size, 0, none⟩ 1 1 [.int .i64 m] rfl rfl HNW.out HON.out (by unfold maxLen; omega) (by omega) hz5 ?_; intro v6 w6 hown hgrow _)
        have HO6 := Lib.hid hown
        have G6 := Lib.hid (g_own2 G5.out (Nat.le_refl _) HO5.out hgrow)
        clear hown hgrow
        go_wp2_with fail
        go_roundw
        case rel => exact ⟨k + 1, _, rfl, by go_num, by omega, by rw [HT.out]; exact HO6.out, G6.out⟩
        case measure => simp [intOf]; omega
      · obtain rfl : k = n := by omega
        have hkk : ¬ (k : Int) < k := by omega
        rw [List.take_of_length_le (by rw [HML.out]; exact Nat.le_refl _)] at how
        have HOW := Lib.hid how
        have HG := Lib.hid hg
        clear how hg
        go_wp2_with fail
        go_ret2
        exact HE.out _ _ HOW.out HG.out
  · have HQ : Hid (∀ w', w.grownBy w' none → PMat w w' (.returned (.tuple #[.slice none 0 0, .int .i64 (chkR (thrA P))])) (thrA P)) := Lib.hid (fun w' h3 => ⟨_, rfl, by unfold matR; rw [if_neg hz]; exact World.ownsRow_nil _ _ _ _, h3⟩)
    generalize chkR (thrA P) = ck at *
    have hz2 : (ck != 0) = true := by simp [hz]
    go_enter Try.func21, Try.ntmps21
    go_wp2_with fail
    refine HC.out.mono ?_
    rintro e w1 ⟨rfl, g1⟩
    go_wp2_with fail
    go_ret2
    exact HQ.out _ g1

/-- how deep a program is, up to a place -/
def mx (P : List I4) : Nat → Int
  | 0 => 0
  | k + 1 => max (mx P k) ((opn P (k + 1)).length : Int)
theorem mx_depG {P : List I4} (hok : Okj P P.length) : ∀ j, j ≤ P.length → depG 0 0 P = depG ((opn P j).length : Int) (mx P j) (P.drop j) := fun j => by
  induction j with
  | zero => intro _; rfl
  | succ j ih =>
    intro hj
    rw [ih (by omega), List.drop_eq_getElem_cons (by omega), depG]
    have hx : P[j]? = some P[j] := List.getElem?_eq_getElem (by omega)
    have hl : depI P[j].k ((opn P j).length : Int) = ((opn P (j + 1)).length : Int) := by
      rw [← kd_at hx]
      rcases step_cases (okj_le hok hj) hx with ⟨hk, hS, _⟩ | ⟨hk, R, b0, w, hS0, hw, hS, _⟩ | ⟨hk, R, b0, w, hS0, hS, _⟩ | ⟨hk1, hk2, hk3, hS, _⟩
      · rw [hS, hk]; simp [depI]
      · rw [hS, hS0, hk]; simp [depI]
      · rw [hS, hS0, hk]; simp [depI]
      · rw [hS, depI, if_neg hk1, if_neg hk3]
    rw [hl, mx]
theorem mx_end {P : List I4} (hok : Okj P P.length) : depG 0 0 P = mx P P.length := by
  rw [mx_depG hok _ (Nat.le_refl _), List.drop_eq_nil_of_le (Nat.le_refl _)]; rfl
theorem mx_bound (P : List I4) : ∀ j, 0 ≤ mx P j ∧ mx P j ≤ 8 := fun j => by
  induction j with
  | zero => exact ⟨Int.le_refl _, show (0 : Int) ≤ 8 by decide⟩
  | succ j ih => have := opn_len P (j + 1); rw [mx]; omega
theorem mx_next (P : List I4) : ∀ k, max (mx P (k - 1)) ((opn P k).length : Int) = mx P k := fun k => by
  cases k with
  | zero => rfl
  | succ k => rfl

set_option maxRecDepth 100000 in
set_option maxHeartbeats 6400000 in
theorem rdepth_any (ao : Option Addr) (n c : Nat) (P : List I4) (w : World) (hP : IRow w ao P) (hn : P.length = n) (h5 : n < 10000) :
    Calls Try.prog 24 #[.slice ao n c] w fun e w' => e = .returned (.int .i64 (depA P)) ∧ w.grownBy w' none := by
  have HC := Lib.hid (rcheck_any ao n c P w hP hn (by omega))
  have HP := Lib.hid hP
  have HN := Lib.hid hn
  clear hP hn
  by_cases hz : chkR (thrA P) = 0
  · obtain ⟨-, -, hok, ho, -, -⟩ := thr_acc ((chk_zero _).1 hz)
    have HD : Hid (depA P = mx P n) := Lib.hid (by unfold depA; rw [if_pos hz, mx_end hok, HN.out])
    rw [hz] at HC
    generalize depA P = dp at *
    clear hz hok ho
    go_enter Try.func24, Try.ntmps24
    go_wp2_with fail
    refine HC.out.mono ?_
    rintro e w1 ⟨rfl, g1⟩
    have G1 := Lib.hid g1
    clear g1
    go_wp2_with fail
    go_loopw [3, 4] (fun m i wr => ∃ (k : Nat) (mm : Int), m = .int .i64 mm ∧ i = .int .i64 k ∧ k ≤ n + 1 ∧ mm = mx P (k - 1) ∧ w.grownBy wr none) (fun _ i _ => (n + 1 - intOf i).toNat)
    case atStart => exact ⟨0, 0, rfl, rfl, Nat.zero_le _, rfl, G1.out⟩
    case round =>
      obtain ⟨k, mm, rfl, rfl, hk, hmm, hg⟩ := hrel
      by_cases hlt : k ≤ n
      · have hki : (k : Int) ≤ n := by omega
        have HO := Lib.hid (opens_any ao n c P k wr (HP.out.keep hg) HN.out (by omega) (by omega))
        have HX := Lib.hid (mx_next P k)
        rw [← hmm] at HX
        have hb1 : 0 ≤ mm ∧ mm ≤ 8 := by rw [hmm]; exact mx_bound P _
        have hb2 := opn_len P k
        have HG := Lib.hid hg
        clear hg hmm
        generalize opn P k = O at *
        generalize hol : O.length = ol at *
        go_wp2_with fail
        refine HO.out.mono ?_
        rintro e w2 ⟨v, rfl, bo, d, rfl, hr, hc1, hc2, hg⟩
        rw [hol] at *
        have G2 := Lib.hid (g_trans HG.out hg)
        clear hr hc1 hc2 hg
        by_cases hml : mm < ol
        · rw [show max mm (ol : Int) = ol by omega] at HX
          go_wp2_with fail
          go_roundw
          case rel => exact ⟨k + 1, _, rfl, by go_num, by omega, HX.out, G2.out⟩
          case measure => simp [intOf]; omega
        · rw [show max mm (ol : Int) = mm by omega] at HX
          go_wp2_with fail
          go_roundw
          case rel => exact ⟨k + 1, _, rfl, by go_num, by omega, HX.out, G2.out⟩
          case measure => simp [intOf]; omega
      · obtain rfl : k = n + 1 := by omega
        have hkk : ¬ ((n : Int) + 1) ≤ n := by omega
        have HE : Hid (dp = mm) := Lib.hid (by rw [HD.out, hmm]; rfl)
        have HG := Lib.hid hg
        clear hg hmm
        go_wp2_with fail
        go_ret
        exact ⟨by rw [HE.out]; rfl, HG.out⟩
  · have HD : Hid (depA P = 0) := Lib.hid (by unfold depA; rw [if_neg hz])
    generalize depA P = dp at *
    generalize chkR (thrA P) = ck at *
    obtain rfl : dp = 0 := HD.out
    have hz2 : (ck != 0) = true := by simp [hz]
    go_enter Try.func24, Try.ntmps24
    go_wp2_with fail
    refine HC.out.mono ?_
    rintro e w1 ⟨rfl, g1⟩
    go_wp2_with fail
    go_ret
    exact ⟨rfl, g1⟩
end Go.Proofs.Ytfobfcnbbafplaa
