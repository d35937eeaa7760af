/- Programs one behind the other: Link. -/
import Derived.Test.YtmckaimgeflncaaPF
import Derived.Test.YtmckaimgeflncaaF
namespace Go.Proofs.Ytmckaimgeflncaa
open Go.RowKit
set_option linter.unusedVariables false
set_option linter.unusedSimpArgs false

/-- a part: where it lies, and what it is -/
structure Pt where
  a : Option Addr
  n : Nat
  c : Nat
  L : List I4
def PRow (w : World) (po : Option Addr) (P : List Pt) : Prop :=
  ∀ i x, P[i]? = some x → (∃ b off, po = some ⟨b, off, none⟩ ∧ w.cell? ⟨b, off + i, none⟩ = some (.slice x.a x.n x.c)) ∧ IRow w x.a x.L ∧ x.L.length = x.n ∧ x.n ≤ 520
theorem PRow.keep {w w' : World} {po : Option Addr} {P : List Pt} (h : PRow w po P) (g : w.grownBy w' none) : PRow w' po P := fun i x hi => by
  obtain ⟨⟨b, off, h1, h2⟩, h3, h4, h5⟩ := h i x hi
  exact ⟨⟨b, off, h1, g.cell h2 (by simp)⟩, h3.keep g, h4, h5⟩
def tot (P : List Pt) : Nat := (P.map (·.n)).sum
theorem tot_snoc (P : List Pt) (x : Pt) : tot (P ++ [x]) = tot P + x.n := by simp [tot]
def aimx (at' : Nat) (x : I4) : I4 := ⟨x.k, aimA x.k x.a (tgt x.k x.a x.b + at'), aimB x.k x.b (tgt x.k x.a x.b + at'), x.c⟩
def lk (P : List Pt) : List I4 := P.foldl (fun o x => o ++ x.L.map (aimx o.length)) []
theorem lk_snoc (P : List Pt) (x : Pt) : lk (P ++ [x]) = lk P ++ x.L.map (aimx (lk P).length) := by simp [lk, List.foldl_append]
def iv (L : List I4) : List Value := L.flatMap fun x => [.int .i64 x.k, .int .i64 x.a, .int .i64 x.b, .int .i64 x.c]
theorem iv_snoc (L : List I4) (x : I4) : iv (L ++ [x]) = iv L ++ [.int .i64 x.k, .int .i64 x.a, .int .i64 x.b, .int .i64 x.c] := by simp [iv]
theorem info43 : (Try.prog.info? 43).map (fun i => (i.zero, i.size, i.bytes)) = some (some (.agg #[.int .i64 0, .int .i64 0, .int .i64 0, .int .i64 0]), 4, 32) := by kernel_rfl
theorem lk_len_from (P : List Pt) : ∀ (o : List I4), (∀ x ∈ P, x.L.length = x.n) → (P.foldl (fun o x => o ++ x.L.map (aimx o.length)) o).length = o.length + tot P := by
  induction P with
  | nil => intro o _; simp [tot]
  | cons x t ih =>
    intro o h
    rw [List.foldl_cons, ih _ (fun y hy => h y (by simp [hy])), List.length_append, List.length_map, h x (by simp)]
    simp [tot]; omega
theorem lk_len (P : List Pt) (h : ∀ x ∈ P, x.L.length = x.n) : (lk P).length = tot P := by
  have := lk_len_from P [] h
  unfold lk
  simpa using this
theorem own_val {w : World} {base : Nat} {e : TypeId} {size : Nat} {v : Value} {n : Nat} {xs : List Value} (hs : 0 < size) (h : w.ownsRow base e size v n xs) : ∃ ao c, v = .slice ao n c := by
  have hl := h.1
  rcases h.2 with ⟨rfl, hx⟩ | ⟨g, cap, cur, rfl, _⟩
  · have h0 : n = 0 := by
      first
      | exact hx
      | (rcases Nat.eq_zero_or_pos n with h | h
         · exact h
         · have := Nat.mul_pos h hs; simp_all)
    subst h0; exact ⟨_, _, rfl⟩
  · exact ⟨_, _, rfl⟩
theorem tgt_in {x : I4} (h : okx x = true) : 0 ≤ tgt x.k x.a x.b ∧ tgt x.k x.a x.b ≤ 512 := by
  obtain ⟨n, hn, h1, h2, ho⟩ := okx_in h
  unfold okI at ho
  simp only [Bool.and_eq_true, decide_eq_true_eq] at ho
  obtain ⟨⟨f1, f2⟩, _⟩ := ho
  unfold tgt
  rw [hn]
  by_cases h8 : n = 8
  · subst h8
    have := f1.2.2.2.1 rfl
    rw [if_pos (by omega)]; omega
  · by_cases h9 : n = 9
    · subst h9
      have := f2.2.2.2.1 rfl
      rw [if_neg (by omega), if_pos (by omega)]; omega
    · rw [if_neg (by omega), if_neg (by omega)]; omega
theorem fit_mem {L : List I4} (h : fitL L = true) {x : I4} (hx : x ∈ L) : okx x = true ∧ (isJ x.k = true → tgt x.k x.a x.b ≤ L.length) := by
  unfold fitL at h
  simp only [Bool.not_eq_true', List.any_eq_false] at h
  have := h x hx
  unfold unf at this
  simp only [Bool.or_eq_true, Bool.not_eq_true', Bool.and_eq_true, decide_eq_true_eq, not_or, not_and] at this
  refine ⟨by simpa using this.1, fun hj => ?_⟩
  have := this.2 hj
  omega

/-- what Link answers -/
def PLink (P : List Pt) (w w' : World) (e : Ending) : Prop :=
  w.grownBy w' none ∧ ((512 < tot P ∧ e = .returned (.tuple #[.slice none 0 0, .int .i64 3])) ∨ (tot P ≤ 512 ∧ (∃ x ∈ P, fitL x.L = false) ∧ e = .returned (.tuple #[.slice none 0 0, .int .i64 110]))
    ∨ (tot P ≤ 512 ∧ (∀ x ∈ P, fitL x.L = true) ∧ ∃ v, e = .returned (.tuple #[v, .int .i64 0]) ∧ w'.ownsRow w.heap.size 43 4 v (lk P).length (iv (lk P))))
theorem plink_many {P : List Pt} {w w' : World} (g : w.grownBy w' none) (h : 512 < tot P) : PLink P w w' (.returned (.tuple #[.slice none 0 0, .int .i64 3])) := ⟨g, .inl ⟨h, rfl⟩⟩
theorem plink_bad {P : List Pt} {w w' : World} (g : w.grownBy w' none) (h : tot P ≤ 512) {x : Pt} (hx : x ∈ P) (hf : fitL x.L = false) : PLink P w w' (.returned (.tuple #[.slice none 0 0, .int .i64 110])) := ⟨g, .inr (.inl ⟨h, ⟨x, hx, hf⟩, rfl⟩)⟩
theorem plink_ok {P : List Pt} {w w' : World} {v : Value} (g : w.grownBy w' none) (h : tot P ≤ 512) (hf : ∀ x ∈ P, fitL x.L = true) (ho : w'.ownsRow w.heap.size 43 4 v (lk P).length (iv (lk P))) : PLink P w w' (.returned (.tuple #[v, .int .i64 0])) := ⟨g, .inr (.inr ⟨h, hf, _, rfl, ho⟩)⟩
theorem tot_le {P : List Pt} (j : Nat) : tot (P.take j) ≤ tot P := by
  have h := List.take_append_drop j P
  have : tot P = tot (P.take j) + tot (P.drop j) := by
    calc tot P = tot (P.take j ++ P.drop j) := by rw [h]
      _ = _ := by simp only [tot, List.map_append, List.sum_append]
  omega
theorem all_snoc {P : List Pt} {j : Nat} {x : Pt} (hx : P[j]? = some x) (h : ∀ y ∈ P.take j, fitL y.L = true) (hf : fitL x.L = true) : ∀ y ∈ P.take (j + 1), fitL y.L = true := fun y hy => by
  rw [List.take_add_one, hx] at hy
  simp at hy
  rcases hy with hy | rfl
  · exact h y hy
  · exact hf
theorem news4 (w : World) (k a b c : Int) : ∀ (j : Nat) (u : Value), ([.int .i64 k, .int .i64 a, .int .i64 b, .int .i64 c] : List Value)[j]? = some u → (w.alloc (.cells #[.int .i64 k, .int .i64 a, .int .i64 b, .int .i64 c] 43)).cell? ((⟨w.heap.size, 0, none⟩ : Addr).add j) = some u :=
  new_cells w [.int .i64 k, .int .i64 a, .int .i64 b, .int .i64 c] 43

set_option maxRecDepth 100000 in
set_option maxHeartbeats 3200000 in
theorem link_all (po : Option Addr) (m mc : Nat) (P : List Pt) (w : World) (hP : PRow w po P) (hm : P.length = m) (hm4 : m ≤ 4) :
    Calls Try.prog 15 #[.slice po m mc] w fun e w' => PLink P w w' e := by
  obtain ⟨i0, hi, hz0, hz1, hz2⟩ := info_parts info43
  have HP := Lib.hid hP
  have HM := Lib.hid hm
  have HLL : Hid (∀ x ∈ P, x.L.length = x.n) := Lib.hid (fun x hx => by obtain ⟨i, hi⟩ := List.getElem?_of_mem hx; exact (hP i x hi).2.2.1)
  clear hP hm
  go_enter Try.func15, Try.ntmps15
  go_wp2_with fail
  go_loopw [4, 17] (fun s i wr => ∃ j : Nat, j ≤ m ∧ i = .int .i64 j ∧ s = .int .i64 (tot (P.take j)) ∧ tot (P.take j) ≤ 512 ∧ w.grownBy wr none) (fun _ i _ => (m - intOf i).toNat)
  case atStart => exact ⟨0, Nat.zero_le _, rfl, rfl, by simp [tot], g_refl _ _⟩
  case round =>
    obtain ⟨j, hj, rfl, rfl, ht, hg⟩ := hrel
    by_cases hlt : j < m
    · have hji : (j : Int) < m := by omega
      obtain ⟨x, hx⟩ : ∃ x, P[j]? = some x := ⟨P[j]'(by rw [HM.out]; exact hlt), List.getElem?_eq_getElem _⟩
      obtain ⟨⟨b, off, rfl, hc⟩, _, _, hx520⟩ := HP.out.keep hg j x hx
      have hs : tot (P.take (j + 1)) = tot (P.take j) + x.n := by rw [List.take_add_one, hx]; exact tot_snoc _ _
      have hle := tot_le (P := P) (j + 1)
      have HS := Lib.hid hs
      have GR := Lib.hid hg
      have HLE := Lib.hid hle
      clear hs hx hg hle
      generalize tot (P.take j) = t at *
      by_cases hb : t + x.n ≤ 512
      · have hbi : ¬ (512 : Int) < t + x.n := by omega
        go_wp2_with fail
        go_roundw
        case rel => exact ⟨j + 1, by omega, by go_num, by rw [HS.out]; go_num, by rw [HS.out]; exact hb, GR.out⟩
        case measure => simp [intOf]; omega
      · have hbi : (512 : Int) < t + x.n := by omega
        go_wp2_with fail
        go_ret2
        exact plink_many GR.out (by have := HS.out; have := HLE.out; omega)
    · obtain rfl : j = m := by omega
      rw [List.take_of_length_le (by rw [HM.out]; exact Nat.le_refl _)] at ht
      have G1 := Lib.hid hg
      have HT := Lib.hid ht
      obtain ⟨w1, hw1⟩ : ∃ w1, w1 = wr := ⟨_, rfl⟩
      rw [← hw1] at G1 ⊢
      clear hg ht hj hlt hw1
      go_wp2_with fail
      go_loopw [7, 30] (fun o i wr => ∃ i' : Nat, i' ≤ j ∧ i = .int .i64 i' ∧ (∀ y ∈ P.take i', fitL y.L = true) ∧ wr.ownsRow w.heap.size 43 4 o (lk (P.take i')).length (iv (lk (P.take i'))) ∧ w.grownBy wr none) (fun _ i _ => (j - intOf i).toNat)
      case atStart => exact ⟨0, Nat.zero_le _, rfl, by simp, World.ownsRow_nil _ _ _ _, G1.out⟩
      case round =>
        obtain ⟨i', hi', rfl, hf, how, hg⟩ := hrel
        by_cases hlt : i' < j
        · have hji : (i' : Int) < j := by omega
          obtain ⟨x, hx⟩ : ∃ x, P[i']? = some x := ⟨P[i']'(by rw [HM.out]; exact hlt), List.getElem?_eq_getElem _⟩
          have hIR := (HP.out i' x hx).2.1
          obtain ⟨⟨b, off, rfl, hc⟩, -, hxn, hx520⟩ := HP.out.keep hg i' x hx
          have hs : lk (P.take (i' + 1)) = lk (P.take i') ++ x.L.map (aimx (lk (P.take i')).length) := by rw [List.take_add_one, hx]; exact lk_snoc _ _
          have hs2 : tot (P.take (i' + 1)) = tot (P.take i') + x.n := by rw [List.take_add_one, hx]; exact tot_snoc _ _
          have hle := tot_le (P := P) (i' + 1)
          have hlen : (lk (P.take i')).length = tot (P.take i') := lk_len _ (fun y hy => HLL.out y (List.mem_of_mem_take hy))
          have HS := Lib.hid hs
          have GR := Lib.hid hg
          have HIR := Lib.hid hIR
          have HXN := Lib.hid hxn
          have HXX := Lib.hid hx
          have HF := Lib.hid hf
          have HOW := Lib.hid how
          have hm512 : (lk (P.take i')).length + x.n ≤ 512 := by have := HT.out; omega
          clear hs hs2 hle hlen hg hIR hxn hx hf how
          generalize lk (P.take i') = o at *
          have HFA := Lib.hid (fits_all x.a x.n x.c x.L wr (HIR.out.keep GR.out) HXN.out (by omega))
          cases hfit : fitL x.L
          · rw [hfit] at HFA
            have HFIT := Lib.hid hfit
            clear hfit
            go_wp2_with fail
            refine HFA.out.mono ?_
            rintro e w2 ⟨rfl, g2⟩
            go_wp2_with fail
            go_ret2
            exact plink_bad (g_trans GR.out g2) HT.out (List.mem_of_getElem? HXX.out) HFIT.out
          · rw [hfit] at HFA
            have HFIT := Lib.hid hfit
            clear hfit
            go_wp2_with fail
            refine HFA.out.mono ?_
            rintro e w2 ⟨rfl, g2⟩
            have GR := Lib.hid (g_trans GR.out g2)
            have HOW := Lib.hid (own_keepn HOW.out g2)
            clear g2 hc
            rename Value => vv
            obtain ⟨oa, oc, rfl⟩ := own_val (by decide) HOW.out
            go_wp2_with fail
            obtain ⟨w3, hw3⟩ : ∃ w3, w3 = w2 := ⟨_, rfl⟩
            rw [← hw3] at GR HOW ⊢
            clear hw3
            go_loopw [7, 41] (fun ov k wr => ∃ q : Nat, q ≤ x.n ∧ k = .int .i64 q ∧ wr.ownsRow w.heap.size 43 4 ov (o.length + q) (iv (o ++ (x.L.take q).map (aimx o.length))) ∧ w.grownBy wr none) (fun _ k _ => (x.n - intOf k).toNat)
            case atStart => exact ⟨0, Nat.zero_le _, rfl, by simpa using HOW.out, GR.out⟩
            case round =>
              obtain ⟨q, hq, rfl, how, hg⟩ := hrel
              by_cases hlt2 : q < x.n
              · have hqi : (q : Int) < x.n := by omega
                obtain ⟨y, hy⟩ : ∃ y, x.L[q]? = some y := ⟨x.L[q]'(by rw [HXN.out]; exact hlt2), List.getElem?_eq_getElem _⟩
                obtain ⟨b1, off1, hxa, y0, y1, y2, y3⟩ := HIR.out.keep hg q y hy
                have hyt := tgt_in (fit_mem HFIT.out (List.mem_of_getElem? hy)).1
                have HTG := Lib.hid (target_any y.k y.a y.b y.c)
                have HAM := Lib.hid (fun w => aim_any y.k y.a y.b y.c (tgt y.k y.a y.b + o.length) w)
                have e2 : o ++ (x.L.take (q + 1)).map (aimx o.length) = (o ++ (x.L.take q).map (aimx o.length)) ++ [⟨y.k, aimA y.k y.a (tgt y.k y.a y.b + o.length), aimB y.k y.b (tgt y.k y.a y.b + o.length), y.c⟩] := by
                  rw [List.take_add_one, hy, List.append_assoc]; simp [aimx]
                have HE2 := Lib.hid e2
                have HOW2 := Lib.hid how
                have GQ := Lib.hid hg
                have hwa := g_alloc (g_refl wr none) (.cells #[.int .i64 y.k, .int .i64 y.a, .int .i64 y.b, .int .i64 y.c] 43)
                have YB := Lib.hid (Blk.new wr #[.int .i64 y.k, .int .i64 y.a, .int .i64 y.b, .int .i64 y.c] 43)
                have HWA := Lib.hid hwa
                clear e2 how hg hy hwa
                generalize aimA y.k y.a (tgt y.k y.a y.b + o.length) = ya at *
                generalize aimB y.k y.b (tgt y.k y.a y.b + o.length) = yb at *
                generalize tgt y.k y.a y.b = t at *
                go_wp2_with fail
                refine (HTG.out _).mono ?_
                rintro e w4 ⟨rfl, g4⟩
                have z0 := (YB.out.keepn g4).cell 0 _ rfl
                have z1 := (YB.out.keepn g4).cell 1 _ rfl
                have z2 := (YB.out.keepn g4).cell 2 _ rfl
                have z3 := (YB.out.keepn g4).cell 3 _ rfl
                go_wp2_with fail
                refine (HAM.out _).mono ?_
                rintro e w5 ⟨rfl, g5⟩
                have G5 := Lib.hid (g_trans (g_trans HWA.out g4) g5)
                have g6 := g_alloc (g_refl w5 none) (.cells #[.int .i64 y.k, .int .i64 ya, .int .i64 yb, .int .i64 y.c] 43)
                have HO5 := Lib.hid (own_keepn (own_keepn HOW2.out G5.out) g6)
                have HNW := Lib.hid (news4 w5 y.k ya yb y.c)
                have hz := (g_trans (g_trans GQ.out G5.out) g6).size
                have G6 := Lib.hid (g_trans (g_trans GQ.out G5.out) g6)
                have HXA := Lib.hid hxa
                clear g4 g5 g6 z0 z1 z2 z3 y0 y1 y2 y3 hxa
                go_wp2_with (at_builtin; refine wpList_append_own _ rfl _ _ 22 rfl w.heap.size 43 i0 (.agg #[.int .i64 0, .int .i64 0, .int .i64 0, .int .i64 0]) 4 32 Try.underlying22 hi hz0 hz1 hz2 rfl (by decide) _ _ _ rfl HO5.out ⟨w5.heap.size, 0, none⟩ 1 1 [.int .i64 y.k, .int .i64 ya, .int .i64 yb, .int .i64 y.c] rfl rfl HNW.out ?c2 ?c3 ?c4 ?c5 ?_)
                case c2 => intro u hu; simp at hu; rcases hu with rfl | rfl | rfl | rfl <;> rfl
                case c3 => unfold maxLen; omega
                case c4 => omega
                case c5 => simpa using hz
                intro v6 w6 hown hgrow _
                have HO6 := Lib.hid hown
                have GG := Lib.hid (g_own2 G6.out (Nat.le_refl _) HO5.out hgrow)
                clear hown hgrow
                go_wp2_with fail
                rw [← HXA.out]
                go_roundw
                case rel => exact ⟨q + 1, by omega, by go_num, by rw [HE2.out, iv_snoc]; have h := HO6.out; rw [← List.map_take] at h; exact h, GG.out⟩
                case measure => simp [intOf]; omega
              · obtain rfl : q = x.n := by omega
                rw [List.take_of_length_le (by rw [HXN.out]; exact Nat.le_refl _)] at how
                have HO7 := Lib.hid how
                have G7 := Lib.hid hg
                clear how hg
                go_wp2_with fail
                go_roundw
                case rel => exact ⟨i' + 1, by omega, by go_num, all_snoc HXX.out HF.out HFIT.out, by rw [HS.out, List.length_append, List.length_map, HXN.out]; exact HO7.out, G7.out⟩
                case measure => simp [intOf]; omega
        · obtain rfl : i' = j := by omega
          rw [List.take_of_length_le (by rw [HM.out]; exact Nat.le_refl _)] at how hf
          have HO7 := Lib.hid how
          have G7 := Lib.hid hg
          have HF := Lib.hid hf
          clear how hg hf
          go_wp2_with fail
          go_ret2
          exact plink_ok G7.out HT.out HF.out HO7.out
end Go.Proofs.Ytmckaimgeflncaa
