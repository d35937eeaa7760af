/- The walk through a program: through. -/
import Derived.Test.YtfobfcnbbafplaaS
import Derived.Test.YtfobfcnbbafplaaN
import Derived.Deep.DeepCutAuto
import Derived.Deep.CutBlock
import Derived.Deep.RegionHeld3
namespace Go.Proofs.Ytfobfcnbbafplaa
open Go.RowKit
set_option linter.unusedVariables false
set_option linter.unusedSimpArgs false

/-- what the first part of through leaves: ways, branches, mates, what is wrong (-1: nothing), too deep -/
structure Res where
  L : List (Int × Int)
  T : List (Int × Int)
  M : List Int
  bad : Int
  deep : Bool
def goP : Nat → List I4 → List (Int × Int) → List (Int × Int) → List Int → Res
  | _, [], L, T, M => ⟨L, T, M, -1, false⟩
  | kn, x :: r, L, T, M => if (stepP kn x L M).1 then goP (kn + 1) r (stepP kn x L M).2.1 (T ++ [topP L]) (stepP kn x L M).2.2.1 else ⟨(stepP kn x L M).2.1, T ++ [topP L], (stepP kn x L M).2.2.1, kn, (stepP kn x L M).2.2.2⟩
theorem stepP_deep {kn : Nat} {x : I4} {L : List (Int × Int)} {M : List Int} (h : (stepP kn x L M).1 = true) : (stepP kn x L M).2.2.2 = false := by
  unfold stepP at *
  repeat' split
  all_goals first | rfl | (simp_all)
theorem goP_ok (P : List I4) : ∀ (kn : Nat) (L T : List (Int × Int)) (M : List Int), (goP kn P L T M).bad < 0 → ∀ x ∈ P, okx x = true := by
  induction P with
  | nil => intro kn L T M _ x hx; cases hx
  | cons y r ih =>
    intro kn L T M h x hx
    unfold goP at h
    split at h
    next hs =>
      rcases List.mem_cons.1 hx with rfl | hx
      · unfold stepP at hs
        split at hs
        · simp at hs
        · next h => simpa using h
      · exact ih _ _ _ _ h x hx
    next => simp only at h; omega
/-- where a jump leads out first -/
def firstBad (n : Nat) (T : List (Int × Int)) : Nat → List I4 → Int
  | _, [] => -1
  | k, x :: r => if isJ x.k && (decide ((n : Int) < tgt x.k x.a x.b) || decide (T.getD (tgt x.k x.a x.b).toNat (0, 0) ≠ T.getD k (0, 0))) then k else firstBad n T (k + 1) r
/-- what through leaves, of a program that is neither empty nor too long -/
def thr (P : List I4) : Res :=
  let r := goP 0 P [] [] (List.replicate P.length (-1))
  if 0 ≤ r.bad then r else if topP r.L ≠ (-1, 0) then ⟨r.L, r.T ++ [topP r.L], r.M, P.length, r.deep⟩ else ⟨r.L, r.T ++ [topP r.L], r.M, firstBad P.length (r.T ++ [topP r.L]) 0 P, r.deep⟩
/-- what through answers -/
def ThrP (w w' : World) (e : Ending) (r : Res) : Prop := ∃ b, e = .returned (.pointer (some ⟨b, 0, none⟩)) ∧ Wk w' w.heap.size b r.L r.T r.M r.bad r.deep ∧ w.grownBy w' none
theorem thr_open {P : List I4} {j : Nat} {L T : List (Int × Int)} {M : List Int} {t1 t2 : Int} (hP : P.length = j) (hg : goP 0 P [] [] (List.replicate j (-1)) = ⟨L, T, M, -1, false⟩) (ht : (topP L).1 = t1 ∧ (topP L).2 = t2) (hb : t1 ≠ -1 ∨ t2 ≠ 0) :
    thr P = ⟨L, T ++ [(t1, t2)], M, j, false⟩ := by
  obtain ⟨rfl, rfl⟩ := ht
  unfold thr
  rw [hP, hg]
  have : topP L ≠ (-1, 0) := fun e => by rw [e] at hb; simp at hb
  simp [this]
theorem thr_shut {P : List I4} {j : Nat} {L T : List (Int × Int)} {M : List Int} (hP : P.length = j) (hg : goP 0 P [] [] (List.replicate j (-1)) = ⟨L, T, M, -1, false⟩) (ht : (topP L).1 = -1 ∧ (topP L).2 = 0) :
    thr P = ⟨L, T ++ [(-1, 0)], M, firstBad j (T ++ [(-1, 0)]) 0 P, false⟩ := by
  have : topP L = (-1, 0) := Prod.ext ht.1 ht.2
  unfold thr
  rw [hP, hg]
  simp [this]
theorem tgt_in {x : I4} (h : okx x = true) (hj : isJ x.k = true) : ∃ t : Nat, tgt x.k x.a x.b = t ∧ t ≤ 512 := by
  obtain ⟨k, a, b, c⟩ := x
  have h8 : k = 8 ∨ k = 9 := by simpa [isJ] using hj
  rcases h8 with rfl | rfl
  · have h2 : okI 8 a b c = true := by rw [← okZ_in (k := 8) (n := 8) rfl (by decide) (by decide)]; exact h
    simp [okI, fitsP, sA] at h2
    exact ⟨a.toNat, by simp [tgt]; omega, by omega⟩
  · have h2 : okI 9 a b c = true := by rw [← okZ_in (k := 9) (n := 9) rfl (by decide) (by decide)]; exact h
    simp [okI, fitsP, sB] at h2
    exact ⟨b.toNat, by simp [tgt]; omega, by omega⟩
/-- how the test of a jump goes -/
theorem jump_cases {x : I4} {T : List (Int × Int)} {n k : Nat} (h : okx x = true) (hT : T.length = n + 1) (hk : k < n) :
    ∃ bd tt : _, tgt x.k x.a x.b = tt ∧ (isJ x.k && (decide ((n : Int) < tgt x.k x.a x.b) || decide (T.getD (tgt x.k x.a x.b).toNat (0, 0) ≠ T.getD k (0, 0)))) = bd ∧
    ((isJ x.k = false ∧ bd = false) ∨ (isJ x.k = true ∧ (n : Int) < tt ∧ bd = true) ∨ (isJ x.k = true ∧ ∃ (t : Nat) (p1 p2 q1 q2 : Int), tt = (t : Int) ∧ t ≤ n ∧ T[t]? = some (p1, p2) ∧ T[k]? = some (q1, q2) ∧
      ((bd = true ∧ ¬ p1 = q1) ∨ (bd = true ∧ p1 = q1 ∧ ¬ p2 = q2) ∨ (bd = false ∧ p1 = q1 ∧ p2 = q2)))) := by
  refine ⟨_, _, rfl, rfl, ?_⟩
  cases hj : isJ x.k
  · exact .inl ⟨rfl, by simp⟩
  · obtain ⟨t, ht, ht5⟩ := tgt_in h hj
    rw [ht]
    by_cases hn : (n : Int) < t
    · exact .inr (.inl ⟨rfl, hn, by simp [hn]⟩)
    · have hlt : t < T.length := by omega
      have hkt : k < T.length := by omega
      refine .inr (.inr ⟨rfl, t, (T[t]).1, (T[t]).2, (T[k]).1, (T[k]).2, rfl, by omega, List.getElem?_eq_getElem hlt, List.getElem?_eq_getElem hkt, ?_⟩)
      have e1 : T.getD t (0, 0) = T[t] := by simp [List.getD, List.getElem?_eq_getElem hlt]
      have e2 : T.getD k (0, 0) = T[k] := by simp [List.getD, List.getElem?_eq_getElem hkt]
      rw [Int.toNat_natCast, e1, e2]
      generalize T[t] = p
      generalize T[k] = q
      obtain ⟨p1, p2⟩ := p
      obtain ⟨q1, q2⟩ := q
      simp only [Bool.true_and, decide_eq_false hn, Bool.false_or, ne_eq, Prod.mk.injEq]
      by_cases a : p1 = q1 <;> by_cases b : p2 = q2 <;> simp [a, b]
/-- the new walk -/
theorem wk_new {w wa : World} {g n : Nat} (hg : w.heap.size ≤ g) (hb : Blk wa g (List.replicate n (Value.int .i64 (-1))).toArray 3) (h63 : n ≤ maxLen) (hga : w.heap.size ≤ wa.heap.size) :
    Wk (wa.alloc (.cells #[.slice none 0 0, .slice none 0 0, .slice (some ⟨g, 0, none⟩) n n, .int .i64 (-1), .bool false] 49)) w.heap.size wa.heap.size [] [] (List.replicate n (-1)) (-1) false := by
  have hlt := hb.lt
  refine ⟨hga, .slice none 0 0, .slice none 0 0, .slice (some ⟨g, 0, none⟩) n n, Blk.new _ _ _, World.ownsRow_nil _ _ _ _, World.ownsRow_nil _ _ _ _, ?_, show Apart _ _ _ _ from ⟨fun e => (by cases e), fun e => (by cases e), fun e => ?_, fun g' e => (by cases e), fun g' e => (by cases e)⟩⟩
  · have hi : icl (List.replicate n (-1)) = List.replicate n (Value.int .i64 (-1)) := by simp [icl]
    rw [hi, List.length_replicate]
    refine ⟨by simp, .inr ⟨g, n, _, rfl, hg, hb.keepn (g_alloc (g_refl wa none) _), Nat.le_refl _, h63, by simp, by simp⟩⟩
  · cases e
    exact absurd hlt (Nat.lt_irrefl _)

theorem wk_tpush {W7 wx w1 : World} {B b : Nat} {L T : List (Int × Int)} {M : List Int} {bad : Int} {deep : Bool} {lv av mv : Value} {gg cap sz : Nat} {t1 t2 : Int} (hBb : B ≤ b) (k1 : Blk W7 b #[lv, av, mv, .int .i64 bad, .bool deep] 49)
    (k2 : W7.ownsRow B 61 2 lv L.length (scl L)) (k3 : W7.ownsRow B 61 2 av T.length (scl T)) (k4 : W7.ownsRow B 3 1 mv M.length (icl M)) (k5 : Apart b lv av mv) (gx : W7.grownBy wx none)
    (hown : w1.ownsRow B 61 2 (.slice (some ⟨gg, 0, none⟩) (T.length + 1) cap) (T.length + 1) (scl T ++ [.int .i64 t1, .int .i64 t2])) (hgrow : wx.grownBy w1 av.ownBlock) (hat : av.ownBlock = some gg ∨ gg = sz) (hsz : W7.heap.size ≤ sz) :
    Wk (w1.setCell ⟨b, 1, none⟩ (.slice (some ⟨gg, 0, none⟩) (T.length + 1) cap)) B b L (T ++ [(t1, t2)]) M bad deep ∧ Tr (fun i => B ≤ i) W7 (w1.setCell ⟨b, 1, none⟩ (.slice (some ⟨gg, 0, none⟩) (T.length + 1) cap)) := by
  have hB := ((k1.keepn gx).keep hgrow (Ne.symm k5.2.1)).set 1 (.slice (some ⟨gg, 0, none⟩) (T.length + 1) cap)
  have s1 := g_set (g_refl w1 (some b)) (p := ⟨b, 1, none⟩) (.inl rfl) (.slice (some ⟨gg, 0, none⟩) (T.length + 1) cap)
  have hblt := k1.lt
  have hgb : gg ≠ b := by
    rcases hat with e | e
    · exact fun q => k5.2.1 (by rw [e, q])
    · omega
  have hgl : lv.ownBlock ≠ some gg := fun q => by
    rcases hat with e | e
    · exact (k5.2.2.2.1 gg q).1 e
    · have := (own_lt k2 q).2; omega
  have hgm : mv.ownBlock ≠ some gg := fun q => by
    rcases hat with e | e
    · exact k5.2.2.2.2 gg e q
    · have := (own_lt k4 q).2; omega
  have hk : ∀ (v : Value), (∀ g, v.ownBlock = some g → av.ownBlock ≠ some g) → v.ownBlock = none ∨ v.ownBlock ≠ av.ownBlock := fun v hv => by
    cases hq : v.ownBlock with
    | none => exact .inl rfl
    | some g => exact .inr (fun e => hv g hq e.symm)
  refine ⟨⟨hBb, lv, _, mv, by simpa using hB, ((own_keepn k2 gx).kept hgrow (hk lv (fun g e => (k5.2.2.2.1 g e).1))).kept s1 (.inr k5.1), ?_, ((own_keepn k4 gx).kept hgrow (hk mv (fun g e e2 => k5.2.2.2.2 g e2 e))).kept s1 (.inr k5.2.2.1), ?_⟩, ?_⟩
  · rw [scl_append, List.length_append]
    exact World.ownsRow.kept hown s1 (.inr (by simp only [Value.ownBlock, ne_eq, Option.some.injEq]; exact hgb))
  · exact ⟨k5.1, fun e => hgb (by injection e), k5.2.2.1, fun g e => ⟨fun e2 => hgl (by rw [e, ← e2]; rfl), (k5.2.2.2.1 g e).2⟩, fun g e => by cases e; exact hgm⟩
  · exact tr_trans (tr_trans (tr_g gx _) (tr_B hgrow (fun g e => (own_lt k3 e).1)) (fun i hi e => e)) (tr_B s1 (fun g e => by cases e; exact hBb)) (fun i hi e => e)

set_option maxRecDepth 100000 in
set_option maxHeartbeats 6400000 in
theorem through_any (ao : Option Addr) (n c : Nat) (P : List I4) (w : World) (hP : IRow w ao P) (hn : P.length = n) (h1 : 1 ≤ n) (h5 : n ≤ 512) :
    Calls Try.prog 26 #[.slice ao n c] w fun e w' => ThrP w w' e (thr P) := by
  have HP := Lib.hid hP
  have HN := Lib.hid hn
  have hi1 : ¬ (n : Int) < 1 := by omega
  have hi5 : ¬ (512 : Int) < n := by omega
  have hs := Blk.new w #[.int .i64 (-1)] 3
  have HR := Lib.hid (rep_any w.heap.size n (by omega) (w.alloc (.cells #[.int .i64 (-1)] 3)) (hs.cell 0 _ rfl))
  have G0 := Lib.hid (g_alloc (g_refl w none) (.cells #[.int .i64 (-1)] 3))
  clear hs hP hn
  go_enter Try.func26, Try.ntmps26
  go_wp2_with fail
  refine wp_scope_straight ?_
  go_wp2_with fail
  refine HR.out.mono ?_
  rintro e wa ⟨g, rfl, hg, hb, ga⟩
  have GA := Lib.hid (g_trans G0.out ga)
  have hgs := G0.out.size
  have HW := Lib.hid (wk_new (n := n) (Nat.le_trans hgs hg) hb (by unfold maxLen; omega) GA.out.size)
  have G1 := Lib.hid (g_trans GA.out (g_alloc (g_refl wa none) (.cells #[.slice none 0 0, .slice none 0 0, .slice (some ⟨g, 0, none⟩) n n, .int .i64 (-1), .bool false] 49)))
  clear ga hb hg hgs
  go_wp2_with fail
  refine wp_label ?_
  go_wp2_with fail
  generalize hbb : wa.heap.size = b at *
  generalize wa.alloc (.cells #[.slice none 0 0, .slice none 0 0, .slice (some ⟨g, 0, none⟩) n n, .int .i64 (-1), .bool false] 49) = W1 at *
  go_loopw [30] (fun i wr => ∃ (j : Nat) (L T : List (Int × Int)) (M : List Int), i = .int .i64 j ∧ j ≤ n ∧ Wk wr w.heap.size b L T M (-1) false ∧ Good j L M ∧ M.length = n ∧ T.length = j ∧ goP 0 P [] [] (List.replicate n (-1)) = goP j (P.drop j) L T M ∧ w.grownBy wr none) (fun i _ => (n - intOf i).toNat)
  case atStart => exact ⟨0, [], [], _, rfl, Nat.zero_le _, HW.out, good_nil _, by simp, rfl, by simp, G1.out⟩
  case round =>
    obtain ⟨j, L, T, M, rfl, hj, hw, hgd, hml, htl, hgo, hg⟩ := hrel
    by_cases hlt : j < n
    · have hji : (j : Int) < n := by omega
      obtain ⟨x, hx⟩ : ∃ x, P[j]? = some x := ⟨P[j]'(by rw [HN.out]; exact hlt), List.getElem?_eq_getElem _⟩
      obtain ⟨bp, offp, rfl, x0, x1, x2, x3⟩ := HP.out.keep hg j x hx
      have ga := g_alloc (g_refl wr none) (.cells #[.int .i64 x.k, .int .i64 x.a, .int .i64 x.b, .int .i64 x.c] 31)
      have XB := Lib.hid (Blk.new wr #[.int .i64 x.k, .int .i64 x.a, .int .i64 x.b, .int .i64 x.c] 31)
      have HW7 := Lib.hid (hw.keep ga)
      have HOLT : Hid (∀ aa ac, (wr.alloc (.cells #[.int .i64 x.k, .int .i64 x.a, .int .i64 x.b, .int .i64 x.c] 31)).cell? ⟨b, 1, none⟩ = some (.slice aa T.length ac) → some wr.heap.size ≠ (Value.slice aa T.length ac).ownBlock) := Lib.hid (by
        intro aa ac h e
        obtain ⟨_, lv, av, mv, k1, _, k3, _, _⟩ := hw
        have := (k1.keepn ga).cell 1 av rfl
        rw [h] at this
        cases this
        have := (own_lt k3 e.symm).2
        omega)
      have hblr : b ≠ wr.heap.size := by have := hw.lt; omega
      have G7 := Lib.hid (g_trans hg ga)
      have HST := Lib.hid (And.intro hgd (And.intro hml (And.intro htl hgo)))
      have HX := Lib.hid hx
      clear hw ga hgd hml htl hgo hg hx
      go_upto_region 8 with fail
      generalize wr.alloc (.cells #[.int .i64 x.k, .int .i64 x.a, .int .i64 x.b, .int .i64 x.c] 31) = W7 at *
      obtain ⟨t1, ht1⟩ : ∃ t, (topP L).1 = t := ⟨_, rfl⟩
      obtain ⟨t2, ht2⟩ : ∃ t, (topP L).2 = t := ⟨_, rfl⟩
      have HTOP : Hid (∀ W, W7.grownBy W none → Calls Try.prog 35 #[.pointer (some ⟨b, 0, none⟩)] W fun e w' => e = .returned (.agg #[.int .i64 t1, .int .i64 t2]) ∧ W.grownBy w' none) := Lib.hid (fun W g => by rw [← ht1, ← ht2]; exact top_any _ _ _ _ _ _ _ _ (HW7.out.keep g))
      have HT12 := Lib.hid (And.intro ht1 ht2)
      clear ht1 ht2 x0 x1 x2 x3
      obtain ⟨hBb, lv, av, mv, k1, k2, k3, k4, k5⟩ := HW7.out
      obtain ⟨aa, ac, rfl, -, -⟩ := srow_of_own k3
      have HK1 := Lib.hid k1
      have HK2 := Lib.hid k2
      have HK4 := Lib.hid k4
      have HK3 := Lib.hid k3
      have HK5 := Lib.hid k5
      have c1 := k1.cell 1 _ rfl
      have hlb := k1.lt
      have hab : (Value.slice aa T.length ac).ownBlock ≠ some b := k5.2.1
      have HC1 := Lib.hid c1
      have HF1 := Lib.hid (k1.free 1)
      have htl : T.length ≤ 512 := by have := HST.out.2.2.1; omega
      obtain ⟨i0, hi, hz0, hz1, hz2⟩ := info_parts info61
      have hol := HOLT.out aa ac c1
      clear k1 k2 k3 k4 k5
      go_cut [45] (fun s45 wx => Wk wx w.heap.size b L (T ++ [(t1, t2)]) M (-1) false ∧ w.grownBy wx none ∧ Blk wx wr.heap.size #[.int .i64 x.k, .int .i64 x.a, .int .i64 x.b, .int .i64 x.c] 31)
      case first =>
       go_region_law ((first | (go_simp; refine Calls.mono (HTOP.out _ (g_drew (g_refl _ _))) ?_; rintro e wt ⟨rfl, gt⟩; have GT := Lib.hid (g_trans (g_drew (g_refl W7 none)) gt); have c1t := GT.out.cell HC1.out (by simp); have NB := Lib.hid (Blk.new wt #[.int .i64 t1, .int .i64 t2] 61); have GX := Lib.hid (g_trans GT.out (g_alloc (g_refl wt none) (.cells #[.int .i64 t1, .int .i64 t2] 61))); have c1x := GX.out.cell HC1.out (by simp); have hsz := GX.out.size; have hsz7 := G7.out.size; clear gt) | (refine step_append_lies _ (by rfl) _ _ _ (by rfl) w.heap.size 61 i0 _ 2 16 Try.underlying45 hi hz0 hz1 hz2 rfl (by omega) (.slice aa T.length ac) T.length (scl T) (by rfl) (own_keepn HK3.out GX.out) ⟨wt.heap.size, 0, none⟩ 1 1 [.int .i64 t1, .int .i64 t2] (by rfl) (by rfl) (World.news_of_block (cs := #[.int .i64 t1, .int .i64 t2]) (t := 61) (fr := (0, 0)) NB.out) (by simp [Value.oneCell']) (by omega) (by unfold maxLen; omega) (by omega) (Nat.le_trans G7.out.size GX.out.size) (wt.heap.size + 1) (by simp) ?_; intro gg cap w1 hown1 hgrow hat hlt9; have c9 := (hgrow.cell_far ⟨b, 1, none⟩ (Nat.lt_of_lt_of_le hlb GX.out.size) (Ne.symm hab)).trans (GX.out.cell HC1.out (by simp)); have f9 := (hgrow.frozen_far ⟨b, 1, none⟩ (Nat.lt_of_lt_of_le hlb GX.out.size) (Ne.symm hab)).trans ((GX.out.frozen_far ⟨b, 1, none⟩ hlb (by simp)).trans HF1.out))))
       all_goals
        obtain ⟨q1, q2⟩ := wk_tpush hBb HK1.out HK2.out HK3.out HK4.out HK5.out GX.out hown1 hgrow hat (by simpa using GX.out.size)
        have q3 := tr_trans (tr_g G7.out _) q2 (fun i hi e => e)
        have q4 := ((XB.out.keepn GX.out).keep hgrow (HOLT.out aa ac HC1.out)).keeps (g_set (g_refl w1 (some b)) (p := ⟨b, 1, none⟩) (.inl rfl) (.slice (some ⟨gg, 0, none⟩) (T.length + 1) cap)) (Ne.symm hblr)
        have HQ := Lib.hid (And.intro q1 (And.intro (q3.g (fun i hi => by omega)) q4))
        clear q1 q2 q3 q4
        go_wp2_with fail
        go_meet
        exact HQ.out
      case rest =>
       obtain ⟨hw8, hg8, hx8⟩ := hcut
       have hgd := HST.out.1
       have hml := HST.out.2.1
       have HSP := Lib.hid (step_any _ _ _ _ _ _ _ x j wc hw8 hgd (by omega))
       have hgn := stepP_good (x := x) hgd (by omega)
       have HGN := Lib.hid hgn
       have HG8 := Lib.hid hg8
       have z0 := hx8.cell 0 _ rfl
       have z1 := hx8.cell 1 _ rfl
       have z2 := hx8.cell 2 _ rfl
       have z3 := hx8.cell 3 _ rfl
       have HGO : Hid (goP 0 P [] [] (List.replicate n (-1)) = if (stepP j x L M).1 then goP (j + 1) (P.drop (j + 1)) (stepP j x L M).2.1 (T ++ [topP L]) (stepP j x L M).2.2.1 else ⟨(stepP j x L M).2.1, T ++ [topP L], (stepP j x L M).2.2.1, j, (stepP j x L M).2.2.2⟩) := Lib.hid (by
         rw [HST.out.2.2.2, List.drop_eq_getElem_cons (by rw [HN.out]; exact hlt)]
         have : P[j]'(by rw [HN.out]; exact hlt) = x := by have := HX.out; rw [List.getElem?_eq_getElem (by rw [HN.out]; exact hlt)] at this; injection this
         rw [this]; rfl)
       have hT : T ++ [(t1, t2)] = T ++ [topP L] := by rw [← HT12.out.1, ← HT12.out.2]
       rw [hT] at HSP
       have HDP := Lib.hid (fun h => stepP_deep (kn := j) (x := x) (L := L) (M := M) h)
       generalize stepP j x L M = sp at *
       obtain ⟨ok, L2, M2, dp⟩ := sp
       simp only at HSP HGO HGN HDP
       clear hw8 hg8 hx8 hgd hgn hT c1
       cases ok
       · go_wp2_with fail
         refine HSP.out.mono ?_
         rintro e w9 ⟨rfl, hw9, ht9⟩
         have H9 := Lib.hid (And.intro hw9 ((tr_trans (tr_g HG8.out (fun i => w.heap.size ≤ i)) ht9 (fun i hi e => e)).g (fun i hi => by omega)))
         obtain ⟨b3, f3, b4, b5⟩ := hw9.bset (j : Int)
         have HB4 := Lib.hid (And.intro b4 ((tr_trans (tr_g H9.out.2 (fun i => w.heap.size ≤ i)) b5 (fun i hi e => e)).g (fun i hi => by omega)))
         have c3 := HB4.out.1.bset 0
         have c3 := c3.1
         have hjn : ¬ (j : Int) < 0 := by omega
         have hj0 : (0 : Int) ≤ j := by omega
         clear hw9 ht9 b4 b5 z0 z1 z2 z3
         go_wp2_with fail
         simp only [Exit.noGoto]
         go_ret
         refine ⟨b, rfl, ?_, HB4.out.2⟩
         have e : thr P = ⟨L2, T ++ [topP L], M2, j, dp⟩ := by
           have h := HGO.out
           simp only [Bool.false_eq_true, if_false] at h
           unfold thr
           rw [HN.out, h]
           simp [hj0]
         rw [e]
         simpa using HB4.out.1
       · go_wp2_with fail
         refine HSP.out.mono ?_
         rintro e w9 ⟨rfl, hw9, ht9⟩
         have H9 := Lib.hid (And.intro hw9 ((tr_trans (tr_g HG8.out (fun i => w.heap.size ≤ i)) ht9 (fun i hi e => e)).g (fun i hi => by omega)))
         clear hw9 ht9 z0 z1 z2 z3
         go_wp2_with fail
         go_roundw
         case rel => exact ⟨j + 1, L2, T ++ [topP L], M2, by go_num, by omega, by have h := H9.out.1; rw [HDP.out trivial] at h; exact h, HGN.out.1, by rw [HGN.out.2]; exact hml, by simp [HST.out.2.2.1], by simpa using HGO.out, H9.out.2⟩
         case measure => simp [intOf]; omega
    · obtain rfl : j = n := by omega
      have HG0 : Hid (goP 0 P [] [] (List.replicate j (-1)) = ⟨L, T, M, -1, false⟩) := Lib.hid (by rw [hgo, List.drop_eq_nil_of_le (by rw [HN.out]; exact Nat.le_refl _)]; rfl)
      have HOK : Hid (∀ x ∈ P, okx x = true) := Lib.hid (goP_ok P 0 [] [] _ (by rw [HG0.out]; exact (by decide : (-1 : Int) < 0)))
      have hjj : ¬ (j : Int) < j := by omega
      have hneg : ¬ (0 : Int) ≤ -1 := by decide
      have c3 := (hw.bset 0).1
      have HW7 := Lib.hid hw
      have G7 := Lib.hid hg
      clear hgd hgo hw hg
      go_upto_region 14 with fail
      obtain ⟨t1, ht1⟩ : ∃ t, (topP L).1 = t := ⟨_, rfl⟩
      obtain ⟨t2, ht2⟩ : ∃ t, (topP L).2 = t := ⟨_, rfl⟩
      have HTOP : Hid (∀ W, wr.grownBy W none → Calls Try.prog 35 #[.pointer (some ⟨b, 0, none⟩)] W fun e w' => e = .returned (.agg #[.int .i64 t1, .int .i64 t2]) ∧ W.grownBy w' none) := Lib.hid (fun W g => by rw [← ht1, ← ht2]; exact top_any _ _ _ _ _ _ _ _ (HW7.out.keep g))
      have HT12 := Lib.hid (And.intro ht1 ht2)
      clear ht1 ht2
      obtain ⟨hBb, lv, av, mv, k1, k2, k3, k4, k5⟩ := HW7.out
      obtain ⟨aa, ac, rfl, -, -⟩ := srow_of_own k3
      have HK1 := Lib.hid k1
      have HK2 := Lib.hid k2
      have HK4 := Lib.hid k4
      have HK3 := Lib.hid k3
      have HK5 := Lib.hid k5
      have c1 := k1.cell 1 _ rfl
      have hlb := k1.lt
      have hab : (Value.slice aa T.length ac).ownBlock ≠ some b := k5.2.1
      have HC1 := Lib.hid c1
      have HF1 := Lib.hid (k1.free 1)
      have HTL := Lib.hid htl
      have htl5 : T.length ≤ 512 := by omega
      clear htl
      obtain ⟨i0, hi, hz0, hz1, hz2⟩ := info_parts info61
      clear k1 k2 k3 k4 k5
      go_cut [74] (fun s74 wx => Wk wx w.heap.size b L (T ++ [(t1, t2)]) M (-1) false ∧ w.grownBy wx none)
      case first =>
       go_region_law ((first | (go_simp; refine Calls.mono (HTOP.out _ (g_drew (g_refl _ _))) ?_; rintro e wt ⟨rfl, gt⟩; have GT := Lib.hid (g_trans (g_drew (g_refl wr none)) gt); have c1t := GT.out.cell HC1.out (by simp); have NB := Lib.hid (Blk.new wt #[.int .i64 t1, .int .i64 t2] 61); have GX := Lib.hid (g_trans GT.out (g_alloc (g_refl wt none) (.cells #[.int .i64 t1, .int .i64 t2] 61))); have c1x := GX.out.cell HC1.out (by simp); have hsz := GX.out.size; have hsz7 := G7.out.size; clear gt) | (refine step_append_lies _ (by rfl) _ _ _ (by rfl) w.heap.size 61 i0 _ 2 16 Try.underlying45 hi hz0 hz1 hz2 rfl (by omega) (.slice aa T.length ac) T.length (scl T) (by rfl) (own_keepn HK3.out GX.out) ⟨wt.heap.size, 0, none⟩ 1 1 [.int .i64 t1, .int .i64 t2] (by rfl) (by rfl) (World.news_of_block (cs := #[.int .i64 t1, .int .i64 t2]) (t := 61) (fr := (0, 0)) NB.out) (by simp [Value.oneCell']) (by omega) (by unfold maxLen; omega) (by omega) (Nat.le_trans G7.out.size GX.out.size) (wt.heap.size + 1) (by simp) ?_; intro gg cap w1 hown1 hgrow hat hlt9; have c9 := (hgrow.cell_far ⟨b, 1, none⟩ (Nat.lt_of_lt_of_le hlb GX.out.size) (Ne.symm hab)).trans (GX.out.cell HC1.out (by simp)); have f9 := (hgrow.frozen_far ⟨b, 1, none⟩ (Nat.lt_of_lt_of_le hlb GX.out.size) (Ne.symm hab)).trans ((GX.out.frozen_far ⟨b, 1, none⟩ hlb (by simp)).trans HF1.out))))
       all_goals
        obtain ⟨q1, q2⟩ := wk_tpush hBb HK1.out HK2.out HK3.out HK4.out HK5.out GX.out hown1 hgrow hat (by simpa using GX.out.size)
        have q3 := tr_trans (tr_g G7.out _) q2 (fun i hi e => e)
        have HQ := Lib.hid (And.intro q1 (q3.g (fun i hi => by omega)))
        clear q1 q2 q3
        go_wp2_with fail
        go_meet
        exact HQ.out
      case rest =>
       obtain ⟨hw8, hg8⟩ := hcut
       have HW8 := Lib.hid hw8
       have HG8 := Lib.hid hg8
       clear hw8 hg8 c1
       have HT8 : Hid (Calls Try.prog 35 #[.pointer (some ⟨b, 0, none⟩)] wc fun e w' => e = .returned (.agg #[.int .i64 t1, .int .i64 t2]) ∧ wc.grownBy w' none) := Lib.hid (by rw [← HT12.out.1, ← HT12.out.2]; exact top_any _ _ _ _ _ _ _ _ HW8.out)
       by_cases hbad : t1 ≠ -1 ∨ t2 ≠ 0
       · have HBAD : Hid (thr P = ⟨L, T ++ [(t1, t2)], M, j, false⟩) := Lib.hid (thr_open HN.out HG0.out HT12.out hbad)
         by_cases e1 : t1 = -1
         · have e2 : ¬ t2 = 0 := by
             rcases hbad with h | h
             · exact absurd e1 h
             · exact h
           subst e1
           clear hbad
           go_wp2_with fail
           refine HT8.out.mono ?_
           rintro e w9 ⟨rfl, g9⟩
           have HW9 := Lib.hid (HW8.out.keep g9)
           have HG9 := Lib.hid (g_trans HG8.out g9)
           clear g9
           go_wp2_with fail
           refine (outside_any _).mono ?_
           rintro e wA ⟨rfl, gA⟩
           have HWA := Lib.hid (HW9.out.keep gA)
           have HGA := Lib.hid (g_trans HG9.out gA)
           clear gA
           obtain ⟨b3, f3, b4, b5⟩ := HWA.out.bset (j : Int)
           have HB4 := Lib.hid (And.intro b4 ((tr_trans (tr_g HGA.out (fun i => w.heap.size ≤ i)) b5 (fun i hi e => e)).g (fun i hi => by omega)))
           clear b4 b5
           go_wp2_with fail
           simp only [Exit.noGoto]
           go_ret
           refine ⟨b, rfl, ?_, HB4.out.2⟩
           rw [HBAD.out]
           exact HB4.out.1
         · clear hbad
           go_wp2_with fail
           refine HT8.out.mono ?_
           rintro e w9 ⟨rfl, g9⟩
           have HW9 := Lib.hid (HW8.out.keep g9)
           have HG9 := Lib.hid (g_trans HG8.out g9)
           clear g9
           go_wp2_with fail
           refine (outside_any _).mono ?_
           rintro e wA ⟨rfl, gA⟩
           have HWA := Lib.hid (HW9.out.keep gA)
           have HGA := Lib.hid (g_trans HG9.out gA)
           clear gA
           obtain ⟨b3, f3, b4, b5⟩ := HWA.out.bset (j : Int)
           have HB4 := Lib.hid (And.intro b4 ((tr_trans (tr_g HGA.out (fun i => w.heap.size ≤ i)) b5 (fun i hi e => e)).g (fun i hi => by omega)))
           clear b4 b5
           go_wp2_with fail
           simp only [Exit.noGoto]
           go_ret
           refine ⟨b, rfl, ?_, HB4.out.2⟩
           rw [HBAD.out]
           exact HB4.out.1
       · obtain rfl : t1 = -1 := Classical.byContradiction fun h => hbad (.inl h)
         obtain rfl : t2 = 0 := Classical.byContradiction fun h => hbad (.inr h)
         have HEND : Hid (thr P = ⟨L, T ++ [(-1, 0)], M, firstBad j (T ++ [(-1, 0)]) 0 P, false⟩) := Lib.hid (thr_shut HN.out HG0.out HT12.out)
         clear hbad
         go_wp2_with fail
         refine HT8.out.mono ?_
         rintro e w9 ⟨rfl, g9⟩
         have HW9 := Lib.hid (HW8.out.keep g9)
         have HG9 := Lib.hid (g_trans HG8.out g9)
         clear g9
         go_wp2_with fail
         refine (outside_any _).mono ?_
         rintro e wA ⟨rfl, gA⟩
         have HWA := Lib.hid (HW9.out.keep gA)
         have HGA := Lib.hid (g_trans HG9.out gA)
         go_wp2_with fail
         go_loopw [91] (fun i wr => ∃ k : Nat, i = .int .i64 k ∧ k ≤ j ∧ Wk wr w.heap.size b L (T ++ [(-1, 0)]) M (-1) false ∧ w.grownBy wr none ∧ firstBad j (T ++ [(-1, 0)]) 0 P = firstBad j (T ++ [(-1, 0)]) k (P.drop k)) (fun i _ => (j - intOf i).toNat)
         case atStart => exact ⟨0, rfl, Nat.zero_le _, HWA.out, HGA.out, rfl⟩
         case round =>
           obtain ⟨k, rfl, hk, hw, hg, hf⟩ := hrel
           by_cases hlt : k < j
           · have hki : (k : Int) < j := by omega
             obtain ⟨x, hx⟩ : ∃ x, P[k]? = some x := ⟨P[k]'(by rw [HN.out]; exact hlt), List.getElem?_eq_getElem _⟩
             obtain ⟨bp, offp, rfl, x0, x1, x2, x3⟩ := HP.out.keep hg k x hx
             have hko : okx x = true := HOK.out x (List.mem_of_getElem? hx)
             have hTL : (T ++ [(-1, 0)]).length = j + 1 := by have := HTL.out; simp [this]
             obtain ⟨bd, tt, htt, hbd, hcs⟩ := jump_cases hko hTL hlt
             have HF : Hid (firstBad j (T ++ [(-1, 0)]) 0 P = if bd then (k : Int) else firstBad j (T ++ [(-1, 0)]) (k + 1) (P.drop (k + 1))) := Lib.hid (by
               rw [hf, List.drop_eq_getElem_cons (by rw [HN.out]; exact hlt)]
               have : P[k]'(by rw [HN.out]; exact hlt) = x := by rw [List.getElem?_eq_getElem (by rw [HN.out]; exact hlt)] at hx; injection hx
               rw [this, ← hbd]; rfl)
             have HCS := Lib.hid hcs
             have HTGT : Hid (∀ W, Calls Try.prog 37 #[.agg #[.int .i64 x.k, .int .i64 x.a, .int .i64 x.b, .int .i64 x.c]] W fun e w' => e = .returned (.tuple #[.int .i64 tt, .bool (isJ x.k)]) ∧ W.grownBy w' none) := Lib.hid (fun W => by rw [← htt]; exact target_any _ _ _ _ _)
             have HWK := Lib.hid hw
             have HGR := Lib.hid hg
             have ga := g_alloc (g_refl wr none) (.cells #[.int .i64 x.k, .int .i64 x.a, .int .i64 x.b, .int .i64 x.c] 31)
             have HGR7 := Lib.hid (g_trans hg ga)
             have HW7 := Lib.hid (hw.keep ga)
             have XB := (Blk.new wr #[.int .i64 x.k, .int .i64 x.a, .int .i64 x.b, .int .i64 x.c] 31)
             have z0 := XB.cell 0 _ rfl
             have z1 := XB.cell 1 _ rfl
             have z2 := XB.cell 2 _ rfl
             have z3 := XB.cell 3 _ rfl
             clear hx hko hTL htt hbd hcs hf hw hg ga XB
             go_wp2_with fail
             refine (HTGT.out _).mono ?_
             rintro e wB ⟨rfl, gB⟩
             have HWB := Lib.hid (HW7.out.keep gB)
             have HGB := Lib.hid (g_trans HGR7.out gB)
             clear gB x0 x1 x2 x3 z0 z1 z2 z3
             generalize isJ x.k = jj at *
             go_upto_region 22 with fail
             go_cut [124] (fun s124 wx => s124 = .bool bd ∧ wB.grownBy wx none)
             case first =>
               obtain ⟨hBb, lv, av, mv, k1, k2, k3, k4, k5⟩ := HWB.out
               obtain ⟨aa, ac, rfl, hsr, -⟩ := srow_of_own k3
               have hlc := (len_own k3).1
               have hlm := (len_own k3).2
               have c1 := k1.cell 1 _ rfl
               rw [show (T ++ [((-1 : Int), (0 : Int))]).length = j + 1 from by have := HTL.out; simp [this]] at c1 hlc
               clear hBb k1 k2 k3 k4 k5
               rcases HCS.out with ⟨rfl, rfl⟩ | ⟨rfl, hnt, rfl⟩ | ⟨rfl, t, p1, p2, q1, q2, rfl, htn, hp, hq, hcase⟩
               · refine wp_region_held_drew (S := fun W' => wB.grownBy W' none) (by kernel_rfl) (g_drew (g_refl _ _)) (fun hHeld => ?_)
                 refine wpAnyH_take (i := 0) (v := .bool false) rfl (by kernel_rfl) (by kernel_rfl) (by kernel_rfl) (fun _ _ _ h => h) (Or.inl ⟨by rfl, fun w hw => by clear hw; go_simp⟩) hHeld ?_
                 try simp only [Act.put, List.setIfInBounds_toArray, List.set_cons_zero, List.set_cons_succ, List.getElem_toArray, List.getElem_cons_zero, List.getElem_cons_succ]
                 refine wpAnyH_take (i := 1) (v := .bool false) rfl (by kernel_rfl) (by kernel_rfl) (by kernel_rfl) (fun _ _ _ h => h) (Or.inl ⟨by rfl, fun w hw => by clear hw; go_simp⟩) hHeld ?_
                 try simp only [Act.put, List.setIfInBounds_toArray, List.set_cons_zero, List.set_cons_succ, List.getElem_toArray, List.getElem_cons_zero, List.getElem_cons_succ]
                 refine wpAnyH_take (i := 2) (v := undef) rfl (by kernel_rfl) (by kernel_rfl) (by kernel_rfl) (fun _ _ _ h => h) (Or.inr ⟨by rfl, rfl⟩) hHeld ?_
                 try simp only [Act.put, List.setIfInBounds_toArray, List.set_cons_zero, List.set_cons_succ, List.getElem_toArray, List.getElem_cons_zero, List.getElem_cons_succ]
                 refine wpAnyH_take (i := 3) (v := undef) rfl (by kernel_rfl) (by kernel_rfl) (by kernel_rfl) (fun _ _ _ h => h) (Or.inr ⟨by rfl, rfl⟩) hHeld ?_
                 try simp only [Act.put, List.setIfInBounds_toArray, List.set_cons_zero, List.set_cons_succ, List.getElem_toArray, List.getElem_cons_zero, List.getElem_cons_succ]
                 refine wpAnyH_take (i := 4) (v := undef) rfl (by kernel_rfl) (by kernel_rfl) (by kernel_rfl) (fun _ _ _ h => h) (Or.inr ⟨by rfl, rfl⟩) hHeld ?_
                 try simp only [Act.put, List.setIfInBounds_toArray, List.set_cons_zero, List.set_cons_succ, List.getElem_toArray, List.getElem_cons_zero, List.getElem_cons_succ]
                 refine wpAnyH_take (i := 5) (v := undef) rfl (by kernel_rfl) (by kernel_rfl) (by kernel_rfl) (fun _ _ _ h => h) (Or.inr ⟨by rfl, rfl⟩) hHeld ?_
                 try simp only [Act.put, List.setIfInBounds_toArray, List.set_cons_zero, List.set_cons_succ, List.getElem_toArray, List.getElem_cons_zero, List.getElem_cons_succ]
                 refine wpAnyH_take (i := 6) (v := undef) rfl (by kernel_rfl) (by kernel_rfl) (by kernel_rfl) (fun _ _ _ h => h) (Or.inr ⟨by rfl, rfl⟩) hHeld ?_
                 try simp only [Act.put, List.setIfInBounds_toArray, List.set_cons_zero, List.set_cons_succ, List.getElem_toArray, List.getElem_cons_zero, List.getElem_cons_succ]
                 refine wpAnyH_take (i := 7) (v := undef) rfl (by kernel_rfl) (by kernel_rfl) (by kernel_rfl) (fun _ _ _ h => h) (Or.inr ⟨by rfl, rfl⟩) hHeld ?_
                 try simp only [Act.put, List.setIfInBounds_toArray, List.set_cons_zero, List.set_cons_succ, List.getElem_toArray, List.getElem_cons_zero, List.getElem_cons_succ]
                 refine wpAnyH_take (i := 8) (v := undef) rfl (by kernel_rfl) (by kernel_rfl) (by kernel_rfl) (fun _ _ _ h => h) (Or.inr ⟨by rfl, rfl⟩) hHeld ?_
                 try simp only [Act.put, List.setIfInBounds_toArray, List.set_cons_zero, List.set_cons_succ, List.getElem_toArray, List.getElem_cons_zero, List.getElem_cons_succ]
                 refine wpAnyH_take (i := 9) (v := undef) rfl (by kernel_rfl) (by kernel_rfl) (by kernel_rfl) (fun _ _ _ h => h) (Or.inr ⟨by rfl, rfl⟩) hHeld ?_
                 try simp only [Act.put, List.setIfInBounds_toArray, List.set_cons_zero, List.set_cons_succ, List.getElem_toArray, List.getElem_cons_zero, List.getElem_cons_succ]
                 refine wpAnyH_take (i := 10) (v := undef) rfl (by kernel_rfl) (by kernel_rfl) (by kernel_rfl) (fun _ _ _ h => h) (Or.inr ⟨by rfl, rfl⟩) hHeld ?_
                 try simp only [Act.put, List.setIfInBounds_toArray, List.set_cons_zero, List.set_cons_succ, List.getElem_toArray, List.getElem_cons_zero, List.getElem_cons_succ]
                 refine wpAnyH_take (i := 11) (v := undef) rfl (by kernel_rfl) (by kernel_rfl) (by kernel_rfl) (fun _ _ _ h => h) (Or.inr ⟨by rfl, rfl⟩) hHeld ?_
                 try simp only [Act.put, List.setIfInBounds_toArray, List.set_cons_zero, List.set_cons_succ, List.getElem_toArray, List.getElem_cons_zero, List.getElem_cons_succ]
                 refine wpAnyH_take (i := 12) (v := undef) rfl (by kernel_rfl) (by kernel_rfl) (by kernel_rfl) (fun _ _ _ h => h) (Or.inr ⟨by rfl, rfl⟩) hHeld ?_
                 try simp only [Act.put, List.setIfInBounds_toArray, List.set_cons_zero, List.set_cons_succ, List.getElem_toArray, List.getElem_cons_zero, List.getElem_cons_succ]
                 refine wpAnyH_take (i := 13) (v := undef) rfl (by kernel_rfl) (by kernel_rfl) (by kernel_rfl) (fun _ _ _ h => h) (Or.inr ⟨by rfl, rfl⟩) hHeld ?_
                 try simp only [Act.put, List.setIfInBounds_toArray, List.set_cons_zero, List.set_cons_succ, List.getElem_toArray, List.getElem_cons_zero, List.getElem_cons_succ]
                 refine wpAnyH_take (i := 14) (v := undef) rfl (by kernel_rfl) (by kernel_rfl) (by kernel_rfl) (fun _ _ _ h => h) (Or.inr ⟨by rfl, rfl⟩) hHeld ?_
                 try simp only [Act.put, List.setIfInBounds_toArray, List.set_cons_zero, List.set_cons_succ, List.getElem_toArray, List.getElem_cons_zero, List.getElem_cons_succ]
                 refine wpAnyH_take (i := 15) (v := undef) rfl (by kernel_rfl) (by kernel_rfl) (by kernel_rfl) (fun _ _ _ h => h) (Or.inr ⟨by rfl, rfl⟩) hHeld ?_
                 try simp only [Act.put, List.setIfInBounds_toArray, List.set_cons_zero, List.set_cons_succ, List.getElem_toArray, List.getElem_cons_zero, List.getElem_cons_succ]
                 refine wpAnyH_take (i := 16) (v := undef) rfl (by kernel_rfl) (by kernel_rfl) (by kernel_rfl) (fun _ _ _ h => h) (Or.inr ⟨by rfl, rfl⟩) hHeld ?_
                 try simp only [Act.put, List.setIfInBounds_toArray, List.set_cons_zero, List.set_cons_succ, List.getElem_toArray, List.getElem_cons_zero, List.getElem_cons_succ]
                 refine wpAnyH_take (i := 17) (v := undef) rfl (by kernel_rfl) (by kernel_rfl) (by kernel_rfl) (fun _ _ _ h => h) (Or.inr ⟨by rfl, rfl⟩) hHeld ?_
                 try simp only [Act.put, List.setIfInBounds_toArray, List.set_cons_zero, List.set_cons_succ, List.getElem_toArray, List.getElem_cons_zero, List.getElem_cons_succ]
                 refine wpAnyH_take (i := 18) (v := undef) rfl (by kernel_rfl) (by kernel_rfl) (by kernel_rfl) (fun _ _ _ h => h) (Or.inr ⟨by rfl, rfl⟩) hHeld ?_
                 try simp only [Act.put, List.setIfInBounds_toArray, List.set_cons_zero, List.set_cons_succ, List.getElem_toArray, List.getElem_cons_zero, List.getElem_cons_succ]
                 refine wpAnyH_take (i := 19) (v := undef) rfl (by kernel_rfl) (by kernel_rfl) (by kernel_rfl) (fun _ _ _ h => h) (Or.inr ⟨by rfl, rfl⟩) hHeld ?_
                 try simp only [Act.put, List.setIfInBounds_toArray, List.set_cons_zero, List.set_cons_succ, List.getElem_toArray, List.getElem_cons_zero, List.getElem_cons_succ]
                 refine wpAnyH_take (i := 20) (v := undef) rfl (by kernel_rfl) (by kernel_rfl) (by kernel_rfl) (fun _ _ _ h => h) (Or.inr ⟨by rfl, rfl⟩) hHeld ?_
                 try simp only [Act.put, List.setIfInBounds_toArray, List.set_cons_zero, List.set_cons_succ, List.getElem_toArray, List.getElem_cons_zero, List.getElem_cons_succ]
                 refine wpAnyH_take (i := 21) (v := undef) rfl (by kernel_rfl) (by kernel_rfl) (by kernel_rfl) (fun _ _ _ h => h) (Or.inr ⟨by rfl, rfl⟩) hHeld ?_
                 try simp only [Act.put, List.setIfInBounds_toArray, List.set_cons_zero, List.set_cons_succ, List.getElem_toArray, List.getElem_cons_zero, List.getElem_cons_succ]
                 refine wpAnyH_take (i := 22) (v := undef) rfl (by kernel_rfl) (by kernel_rfl) (by kernel_rfl) (fun _ _ _ h => h) (Or.inr ⟨by rfl, rfl⟩) hHeld ?_
                 try simp only [Act.put, List.setIfInBounds_toArray, List.set_cons_zero, List.set_cons_succ, List.getElem_toArray, List.getElem_cons_zero, List.getElem_cons_succ]
                 refine wpAnyH_take (i := 23) (v := .bool false) rfl (by kernel_rfl) (by kernel_rfl) (by kernel_rfl) (fun _ _ _ h => h) (Or.inl ⟨by rfl, fun w hw => by clear hw; go_simp⟩) hHeld ?_
                 try simp only [Act.put, List.setIfInBounds_toArray, List.set_cons_zero, List.set_cons_succ, List.getElem_toArray, List.getElem_cons_zero, List.getElem_cons_succ]
                 refine wpAnyH_done (by kernel_rfl) ?_ _
                 go_wp2_with fail
                 go_meet
                 exact ⟨rfl, hHeld⟩
               · refine wp_region_held_drew (S := fun W' => wB.grownBy W' none) (by kernel_rfl) (g_drew (g_refl _ _)) (fun hHeld => ?_)
                 refine wpAnyH_take (i := 0) (v := .bool true) rfl (by kernel_rfl) (by kernel_rfl) (by kernel_rfl) (fun _ _ _ h => h) (Or.inl ⟨by rfl, fun w hw => by clear hw; go_simp⟩) hHeld ?_
                 try simp only [Act.put, List.setIfInBounds_toArray, List.set_cons_zero, List.set_cons_succ, List.getElem_toArray, List.getElem_cons_zero, List.getElem_cons_succ]
                 refine wpAnyH_take (i := 1) (v := .bool true) rfl (by kernel_rfl) (by kernel_rfl) (by kernel_rfl) (fun _ _ _ h => h) (Or.inl ⟨by rfl, fun w hw => by clear hw; go_simp⟩) hHeld ?_
                 try simp only [Act.put, List.setIfInBounds_toArray, List.set_cons_zero, List.set_cons_succ, List.getElem_toArray, List.getElem_cons_zero, List.getElem_cons_succ]
                 refine wpAnyH_take (i := 2) (v := .int .i64 tt) rfl (by kernel_rfl) (by kernel_rfl) (by kernel_rfl) (fun _ _ _ h => h) (Or.inl ⟨by rfl, fun w hw => by clear hw; go_simp⟩) hHeld ?_
                 try simp only [Act.put, List.setIfInBounds_toArray, List.set_cons_zero, List.set_cons_succ, List.getElem_toArray, List.getElem_cons_zero, List.getElem_cons_succ]
                 refine wpAnyH_take (i := 3) (v := .slice (some ⟨bp, offp, none⟩) j c) rfl (by kernel_rfl) (by kernel_rfl) (by kernel_rfl) (fun _ _ _ h => h) (Or.inl ⟨by rfl, fun w hw => by clear hw; go_simp⟩) hHeld ?_
                 try simp only [Act.put, List.setIfInBounds_toArray, List.set_cons_zero, List.set_cons_succ, List.getElem_toArray, List.getElem_cons_zero, List.getElem_cons_succ]
                 refine wpAnyH_take (i := 4) (v := .int .i64 (j : Int)) rfl (by kernel_rfl) (by kernel_rfl) (by kernel_rfl) (fun _ _ _ h => h) (Or.inl ⟨by rfl, fun w hw => by clear hw; go_simp⟩) hHeld ?_
                 try simp only [Act.put, List.setIfInBounds_toArray, List.set_cons_zero, List.set_cons_succ, List.getElem_toArray, List.getElem_cons_zero, List.getElem_cons_succ]
                 refine wpAnyH_take (i := 5) (v := .bool true) rfl (by kernel_rfl) (by kernel_rfl) (by kernel_rfl) (fun _ _ _ h => h) (Or.inl ⟨by rfl, fun w hw => by clear hw; go_simp⟩) hHeld ?_
                 try simp only [Act.put, List.setIfInBounds_toArray, List.set_cons_zero, List.set_cons_succ, List.getElem_toArray, List.getElem_cons_zero, List.getElem_cons_succ]
                 refine wpAnyH_take (i := 6) (v := .bool true) rfl (by kernel_rfl) (by kernel_rfl) (by kernel_rfl) (fun _ _ _ h => h) (Or.inl ⟨by rfl, fun w hw => by clear hw; go_simp⟩) hHeld ?_
                 try simp only [Act.put, List.setIfInBounds_toArray, List.set_cons_zero, List.set_cons_succ, List.getElem_toArray, List.getElem_cons_zero, List.getElem_cons_succ]
                 refine wpAnyH_take (i := 7) (v := undef) rfl (by kernel_rfl) (by kernel_rfl) (by kernel_rfl) (fun _ _ _ h => h) (Or.inr ⟨by rfl, rfl⟩) hHeld ?_
                 try simp only [Act.put, List.setIfInBounds_toArray, List.set_cons_zero, List.set_cons_succ, List.getElem_toArray, List.getElem_cons_zero, List.getElem_cons_succ]
                 refine wpAnyH_take (i := 8) (v := undef) rfl (by kernel_rfl) (by kernel_rfl) (by kernel_rfl) (fun _ _ _ h => h) (Or.inr ⟨by rfl, rfl⟩) hHeld ?_
                 try simp only [Act.put, List.setIfInBounds_toArray, List.set_cons_zero, List.set_cons_succ, List.getElem_toArray, List.getElem_cons_zero, List.getElem_cons_succ]
                 refine wpAnyH_take (i := 9) (v := undef) rfl (by kernel_rfl) (by kernel_rfl) (by kernel_rfl) (fun _ _ _ h => h) (Or.inr ⟨by rfl, rfl⟩) hHeld ?_
                 try simp only [Act.put, List.setIfInBounds_toArray, List.set_cons_zero, List.set_cons_succ, List.getElem_toArray, List.getElem_cons_zero, List.getElem_cons_succ]
                 refine wpAnyH_take (i := 10) (v := undef) rfl (by kernel_rfl) (by kernel_rfl) (by kernel_rfl) (fun _ _ _ h => h) (Or.inr ⟨by rfl, rfl⟩) hHeld ?_
                 try simp only [Act.put, List.setIfInBounds_toArray, List.set_cons_zero, List.set_cons_succ, List.getElem_toArray, List.getElem_cons_zero, List.getElem_cons_succ]
                 refine wpAnyH_take (i := 11) (v := undef) rfl (by kernel_rfl) (by kernel_rfl) (by kernel_rfl) (fun _ _ _ h => h) (Or.inr ⟨by rfl, rfl⟩) hHeld ?_
                 try simp only [Act.put, List.setIfInBounds_toArray, List.set_cons_zero, List.set_cons_succ, List.getElem_toArray, List.getElem_cons_zero, List.getElem_cons_succ]
                 refine wpAnyH_take (i := 12) (v := undef) rfl (by kernel_rfl) (by kernel_rfl) (by kernel_rfl) (fun _ _ _ h => h) (Or.inr ⟨by rfl, rfl⟩) hHeld ?_
                 try simp only [Act.put, List.setIfInBounds_toArray, List.set_cons_zero, List.set_cons_succ, List.getElem_toArray, List.getElem_cons_zero, List.getElem_cons_succ]
                 refine wpAnyH_take (i := 13) (v := undef) rfl (by kernel_rfl) (by kernel_rfl) (by kernel_rfl) (fun _ _ _ h => h) (Or.inr ⟨by rfl, rfl⟩) hHeld ?_
                 try simp only [Act.put, List.setIfInBounds_toArray, List.set_cons_zero, List.set_cons_succ, List.getElem_toArray, List.getElem_cons_zero, List.getElem_cons_succ]
                 refine wpAnyH_take (i := 14) (v := undef) rfl (by kernel_rfl) (by kernel_rfl) (by kernel_rfl) (fun _ _ _ h => h) (Or.inr ⟨by rfl, rfl⟩) hHeld ?_
                 try simp only [Act.put, List.setIfInBounds_toArray, List.set_cons_zero, List.set_cons_succ, List.getElem_toArray, List.getElem_cons_zero, List.getElem_cons_succ]
                 refine wpAnyH_take (i := 15) (v := undef) rfl (by kernel_rfl) (by kernel_rfl) (by kernel_rfl) (fun _ _ _ h => h) (Or.inr ⟨by rfl, rfl⟩) hHeld ?_
                 try simp only [Act.put, List.setIfInBounds_toArray, List.set_cons_zero, List.set_cons_succ, List.getElem_toArray, List.getElem_cons_zero, List.getElem_cons_succ]
                 refine wpAnyH_take (i := 16) (v := undef) rfl (by kernel_rfl) (by kernel_rfl) (by kernel_rfl) (fun _ _ _ h => h) (Or.inr ⟨by rfl, rfl⟩) hHeld ?_
                 try simp only [Act.put, List.setIfInBounds_toArray, List.set_cons_zero, List.set_cons_succ, List.getElem_toArray, List.getElem_cons_zero, List.getElem_cons_succ]
                 refine wpAnyH_take (i := 17) (v := undef) rfl (by kernel_rfl) (by kernel_rfl) (by kernel_rfl) (fun _ _ _ h => h) (Or.inr ⟨by rfl, rfl⟩) hHeld ?_
                 try simp only [Act.put, List.setIfInBounds_toArray, List.set_cons_zero, List.set_cons_succ, List.getElem_toArray, List.getElem_cons_zero, List.getElem_cons_succ]
                 refine wpAnyH_take (i := 18) (v := undef) rfl (by kernel_rfl) (by kernel_rfl) (by kernel_rfl) (fun _ _ _ h => h) (Or.inr ⟨by rfl, rfl⟩) hHeld ?_
                 try simp only [Act.put, List.setIfInBounds_toArray, List.set_cons_zero, List.set_cons_succ, List.getElem_toArray, List.getElem_cons_zero, List.getElem_cons_succ]
                 refine wpAnyH_take (i := 19) (v := undef) rfl (by kernel_rfl) (by kernel_rfl) (by kernel_rfl) (fun _ _ _ h => h) (Or.inr ⟨by rfl, rfl⟩) hHeld ?_
                 try simp only [Act.put, List.setIfInBounds_toArray, List.set_cons_zero, List.set_cons_succ, List.getElem_toArray, List.getElem_cons_zero, List.getElem_cons_succ]
                 refine wpAnyH_take (i := 20) (v := undef) rfl (by kernel_rfl) (by kernel_rfl) (by kernel_rfl) (fun _ _ _ h => h) (Or.inr ⟨by rfl, rfl⟩) hHeld ?_
                 try simp only [Act.put, List.setIfInBounds_toArray, List.set_cons_zero, List.set_cons_succ, List.getElem_toArray, List.getElem_cons_zero, List.getElem_cons_succ]
                 refine wpAnyH_take (i := 21) (v := undef) rfl (by kernel_rfl) (by kernel_rfl) (by kernel_rfl) (fun _ _ _ h => h) (Or.inr ⟨by rfl, rfl⟩) hHeld ?_
                 try simp only [Act.put, List.setIfInBounds_toArray, List.set_cons_zero, List.set_cons_succ, List.getElem_toArray, List.getElem_cons_zero, List.getElem_cons_succ]
                 refine wpAnyH_take (i := 22) (v := .bool true) rfl (by kernel_rfl) (by kernel_rfl) (by kernel_rfl) (fun _ _ _ h => h) (Or.inl ⟨by rfl, fun w hw => by clear hw; go_simp⟩) hHeld ?_
                 try simp only [Act.put, List.setIfInBounds_toArray, List.set_cons_zero, List.set_cons_succ, List.getElem_toArray, List.getElem_cons_zero, List.getElem_cons_succ]
                 refine wpAnyH_take (i := 23) (v := .bool true) rfl (by kernel_rfl) (by kernel_rfl) (by kernel_rfl) (fun _ _ _ h => h) (Or.inl ⟨by rfl, fun w hw => by clear hw; go_simp⟩) hHeld ?_
                 try simp only [Act.put, List.setIfInBounds_toArray, List.set_cons_zero, List.set_cons_succ, List.getElem_toArray, List.getElem_cons_zero, List.getElem_cons_succ]
                 refine wpAnyH_done (by kernel_rfl) ?_ _
                 go_wp2_with fail
                 go_meet
                 exact ⟨rfl, hHeld⟩
               · obtain ⟨ab, aoff, rfl, u0, u1⟩ := hsr t _ hp
                 obtain ⟨ab', aoff', e', v0, v1⟩ := hsr k _ hq
                 cases e'
                 simp only at u0 u1 v0 v1
                 have hnt : ¬ (j : Int) < t := by omega
                 have hti : (t : Int).toNat = t := by omega
                 have ht1 : ¬ (j : Int) + 1 ≤ t := by omega
                 have hk1 : ¬ (j : Int) + 1 ≤ k := by omega
                 have D := Lib.hid (And.intro c1 (And.intro u0 (And.intro u1 (And.intro v0 v1))))
                 clear c1 u0 u1 v0 v1 hp hq hsr
                 rcases hcase with ⟨rfl, hne⟩ | ⟨rfl, rfl, hne⟩ | ⟨rfl, rfl, rfl⟩
                 · refine wp_region_held_drew (S := fun W' => wB.grownBy W' none) (by kernel_rfl) (g_drew (g_refl _ _)) (fun hHeld => ?_)
                   refine wpAnyH_take (i := 0) (v := .bool true) rfl (by kernel_rfl) (by kernel_rfl) (by kernel_rfl) (fun _ _ _ h => h) (Or.inl ⟨by rfl, fun w hw => by clear hw; go_simp⟩) hHeld ?_
                   try simp only [Act.put, List.setIfInBounds_toArray, List.set_cons_zero, List.set_cons_succ, List.getElem_toArray, List.getElem_cons_zero, List.getElem_cons_succ]
                   refine wpAnyH_take (i := 1) (v := .bool true) rfl (by kernel_rfl) (by kernel_rfl) (by kernel_rfl) (fun _ _ _ h => h) (Or.inl ⟨by rfl, fun w hw => by clear hw; go_simp⟩) hHeld ?_
                   try simp only [Act.put, List.setIfInBounds_toArray, List.set_cons_zero, List.set_cons_succ, List.getElem_toArray, List.getElem_cons_zero, List.getElem_cons_succ]
                   refine wpAnyH_take (i := 2) (v := .int .i64 (t : Int)) rfl (by kernel_rfl) (by kernel_rfl) (by kernel_rfl) (fun _ _ _ h => h) (Or.inl ⟨by rfl, fun w hw => by clear hw; go_simp⟩) hHeld ?_
                   try simp only [Act.put, List.setIfInBounds_toArray, List.set_cons_zero, List.set_cons_succ, List.getElem_toArray, List.getElem_cons_zero, List.getElem_cons_succ]
                   refine wpAnyH_take (i := 3) (v := .slice (some ⟨bp, offp, none⟩) j c) rfl (by kernel_rfl) (by kernel_rfl) (by kernel_rfl) (fun _ _ _ h => h) (Or.inl ⟨by rfl, fun w hw => by clear hw; go_simp⟩) hHeld ?_
                   try simp only [Act.put, List.setIfInBounds_toArray, List.set_cons_zero, List.set_cons_succ, List.getElem_toArray, List.getElem_cons_zero, List.getElem_cons_succ]
                   refine wpAnyH_take (i := 4) (v := .int .i64 (j : Int)) rfl (by kernel_rfl) (by kernel_rfl) (by kernel_rfl) (fun _ _ _ h => h) (Or.inl ⟨by rfl, fun w hw => by clear hw; go_simp⟩) hHeld ?_
                   try simp only [Act.put, List.setIfInBounds_toArray, List.set_cons_zero, List.set_cons_succ, List.getElem_toArray, List.getElem_cons_zero, List.getElem_cons_succ]
                   refine wpAnyH_take (i := 5) (v := .bool false) rfl (by kernel_rfl) (by kernel_rfl) (by kernel_rfl) (fun _ _ _ h => h) (Or.inl ⟨by rfl, fun w hw => by clear hw; go_simp⟩) hHeld ?_
                   try simp only [Act.put, List.setIfInBounds_toArray, List.set_cons_zero, List.set_cons_succ, List.getElem_toArray, List.getElem_cons_zero, List.getElem_cons_succ]
                   refine wpAnyH_take (i := 6) (v := .bool false) rfl (by kernel_rfl) (by kernel_rfl) (by kernel_rfl) (fun _ _ _ h => h) (Or.inl ⟨by rfl, fun w hw => by clear hw; go_simp⟩) hHeld ?_
                   try simp only [Act.put, List.setIfInBounds_toArray, List.set_cons_zero, List.set_cons_succ, List.getElem_toArray, List.getElem_cons_zero, List.getElem_cons_succ]
                   refine wpAnyH_take (i := 7) (v := .pointer (some ⟨b, 0, none⟩)) rfl (by kernel_rfl) (by kernel_rfl) (by kernel_rfl) (fun _ _ _ h => h) (Or.inl ⟨by rfl, fun w hw => by clear hw; go_simp⟩) hHeld ?_
                   try simp only [Act.put, List.setIfInBounds_toArray, List.set_cons_zero, List.set_cons_succ, List.getElem_toArray, List.getElem_cons_zero, List.getElem_cons_succ]
                   refine wpAnyH_take (i := 8) (v := .pointer (some ⟨b, 0, none⟩)) rfl (by kernel_rfl) (by kernel_rfl) (by kernel_rfl) (fun _ _ _ h => h) (Or.inl ⟨by rfl, fun w hw => by clear hw; go_simp⟩) hHeld ?_
                   try simp only [Act.put, List.setIfInBounds_toArray, List.set_cons_zero, List.set_cons_succ, List.getElem_toArray, List.getElem_cons_zero, List.getElem_cons_succ]
                   refine wpAnyH_take (i := 9) (v := .pointer (some ⟨b, 1, none⟩)) rfl (by kernel_rfl) (by kernel_rfl) (by kernel_rfl) (fun _ _ _ h => h) (Or.inl ⟨by rfl, fun w hw => by clear hw; go_simp⟩) hHeld ?_
                   try simp only [Act.put, List.setIfInBounds_toArray, List.set_cons_zero, List.set_cons_succ, List.getElem_toArray, List.getElem_cons_zero, List.getElem_cons_succ]
                   refine wpAnyH_take (i := 10) (v := .slice (some ⟨ab, aoff, none⟩) (j + 1) ac) rfl (by kernel_rfl) (by kernel_rfl) (by kernel_rfl) (fun _ _ _ h => h) (Or.inl ⟨by rfl, fun w hw => by have q0 := hw.cell D.out.1 (by simp); clear hw; go_simp⟩) hHeld ?_
                   try simp only [Act.put, List.setIfInBounds_toArray, List.set_cons_zero, List.set_cons_succ, List.getElem_toArray, List.getElem_cons_zero, List.getElem_cons_succ]
                   refine wpAnyH_take (i := 11) (v := .int .i64 (t : Int)) rfl (by kernel_rfl) (by kernel_rfl) (by kernel_rfl) (fun _ _ _ h => h) (Or.inl ⟨by rfl, fun w hw => by clear hw; go_simp⟩) hHeld ?_
                   try simp only [Act.put, List.setIfInBounds_toArray, List.set_cons_zero, List.set_cons_succ, List.getElem_toArray, List.getElem_cons_zero, List.getElem_cons_succ]
                   refine wpAnyH_take (i := 12) (v := .pointer (some ⟨ab, aoff + t * 2, none⟩)) rfl (by kernel_rfl) (by kernel_rfl) (by kernel_rfl) (fun _ _ _ h => h) (Or.inl ⟨by rfl, fun w hw => by clear hw; go_simp⟩) hHeld ?_
                   try simp only [Act.put, List.setIfInBounds_toArray, List.set_cons_zero, List.set_cons_succ, List.getElem_toArray, List.getElem_cons_zero, List.getElem_cons_succ]
                   refine wpAnyH_take (i := 13) (v := .agg #[.int .i64 p1, .int .i64 p2]) rfl (by kernel_rfl) (by kernel_rfl) (by kernel_rfl) (fun _ _ _ h => h) (Or.inl ⟨by rfl, fun w hw => by have q0 := hw.cell D.out.2.1 (by simp); have q1 := hw.cell D.out.2.2.1 (by simp); clear hw; go_simp⟩) hHeld ?_
                   try simp only [Act.put, List.setIfInBounds_toArray, List.set_cons_zero, List.set_cons_succ, List.getElem_toArray, List.getElem_cons_zero, List.getElem_cons_succ]
                   refine wpAnyH_take (i := 14) (v := .pointer (some ⟨b, 0, none⟩)) rfl (by kernel_rfl) (by kernel_rfl) (by kernel_rfl) (fun _ _ _ h => h) (Or.inl ⟨by rfl, fun w hw => by clear hw; go_simp⟩) hHeld ?_
                   try simp only [Act.put, List.setIfInBounds_toArray, List.set_cons_zero, List.set_cons_succ, List.getElem_toArray, List.getElem_cons_zero, List.getElem_cons_succ]
                   refine wpAnyH_take (i := 15) (v := .pointer (some ⟨b, 0, none⟩)) rfl (by kernel_rfl) (by kernel_rfl) (by kernel_rfl) (fun _ _ _ h => h) (Or.inl ⟨by rfl, fun w hw => by clear hw; go_simp⟩) hHeld ?_
                   try simp only [Act.put, List.setIfInBounds_toArray, List.set_cons_zero, List.set_cons_succ, List.getElem_toArray, List.getElem_cons_zero, List.getElem_cons_succ]
                   refine wpAnyH_take (i := 16) (v := .pointer (some ⟨b, 1, none⟩)) rfl (by kernel_rfl) (by kernel_rfl) (by kernel_rfl) (fun _ _ _ h => h) (Or.inl ⟨by rfl, fun w hw => by clear hw; go_simp⟩) hHeld ?_
                   try simp only [Act.put, List.setIfInBounds_toArray, List.set_cons_zero, List.set_cons_succ, List.getElem_toArray, List.getElem_cons_zero, List.getElem_cons_succ]
                   refine wpAnyH_take (i := 17) (v := .slice (some ⟨ab, aoff, none⟩) (j + 1) ac) rfl (by kernel_rfl) (by kernel_rfl) (by kernel_rfl) (fun _ _ _ h => h) (Or.inl ⟨by rfl, fun w hw => by have q0 := hw.cell D.out.1 (by simp); clear hw; go_simp⟩) hHeld ?_
                   try simp only [Act.put, List.setIfInBounds_toArray, List.set_cons_zero, List.set_cons_succ, List.getElem_toArray, List.getElem_cons_zero, List.getElem_cons_succ]
                   refine wpAnyH_take (i := 18) (v := .int .i64 (k : Int)) rfl (by kernel_rfl) (by kernel_rfl) (by kernel_rfl) (fun _ _ _ h => h) (Or.inl ⟨by rfl, fun w hw => by clear hw; go_simp⟩) hHeld ?_
                   try simp only [Act.put, List.setIfInBounds_toArray, List.set_cons_zero, List.set_cons_succ, List.getElem_toArray, List.getElem_cons_zero, List.getElem_cons_succ]
                   refine wpAnyH_take (i := 19) (v := .pointer (some ⟨ab, aoff + k * 2, none⟩)) rfl (by kernel_rfl) (by kernel_rfl) (by kernel_rfl) (fun _ _ _ h => h) (Or.inl ⟨by rfl, fun w hw => by clear hw; go_simp⟩) hHeld ?_
                   try simp only [Act.put, List.setIfInBounds_toArray, List.set_cons_zero, List.set_cons_succ, List.getElem_toArray, List.getElem_cons_zero, List.getElem_cons_succ]
                   refine wpAnyH_take (i := 20) (v := .agg #[.int .i64 q1, .int .i64 q2]) rfl (by kernel_rfl) (by kernel_rfl) (by kernel_rfl) (fun _ _ _ h => h) (Or.inl ⟨by rfl, fun w hw => by have q0 := hw.cell D.out.2.2.2.1 (by simp); have q1 := hw.cell D.out.2.2.2.2 (by simp); clear hw; go_simp⟩) hHeld ?_
                   try simp only [Act.put, List.setIfInBounds_toArray, List.set_cons_zero, List.set_cons_succ, List.getElem_toArray, List.getElem_cons_zero, List.getElem_cons_succ]
                   refine wpAnyH_take (i := 21) (v := .bool true) rfl (by kernel_rfl) (by kernel_rfl) (by kernel_rfl) (fun _ _ _ h => h) (Or.inl ⟨by rfl, fun w hw => by clear hw; go_simp⟩) hHeld ?_
                   try simp only [Act.put, List.setIfInBounds_toArray, List.set_cons_zero, List.set_cons_succ, List.getElem_toArray, List.getElem_cons_zero, List.getElem_cons_succ]
                   refine wpAnyH_take (i := 22) (v := .bool true) rfl (by kernel_rfl) (by kernel_rfl) (by kernel_rfl) (fun _ _ _ h => h) (Or.inl ⟨by rfl, fun w hw => by clear hw; go_simp⟩) hHeld ?_
                   try simp only [Act.put, List.setIfInBounds_toArray, List.set_cons_zero, List.set_cons_succ, List.getElem_toArray, List.getElem_cons_zero, List.getElem_cons_succ]
                   refine wpAnyH_take (i := 23) (v := .bool true) rfl (by kernel_rfl) (by kernel_rfl) (by kernel_rfl) (fun _ _ _ h => h) (Or.inl ⟨by rfl, fun w hw => by clear hw; go_simp⟩) hHeld ?_
                   try simp only [Act.put, List.setIfInBounds_toArray, List.set_cons_zero, List.set_cons_succ, List.getElem_toArray, List.getElem_cons_zero, List.getElem_cons_succ]
                   refine wpAnyH_done (by kernel_rfl) ?_ _
                   go_wp2_with fail
                   go_meet
                   exact ⟨rfl, hHeld⟩
                 · refine wp_region_held_drew (S := fun W' => wB.grownBy W' none) (by kernel_rfl) (g_drew (g_refl _ _)) (fun hHeld => ?_)
                   refine wpAnyH_take (i := 0) (v := .bool true) rfl (by kernel_rfl) (by kernel_rfl) (by kernel_rfl) (fun _ _ _ h => h) (Or.inl ⟨by rfl, fun w hw => by clear hw; go_simp⟩) hHeld ?_
                   try simp only [Act.put, List.setIfInBounds_toArray, List.set_cons_zero, List.set_cons_succ, List.getElem_toArray, List.getElem_cons_zero, List.getElem_cons_succ]
                   refine wpAnyH_take (i := 1) (v := .bool true) rfl (by kernel_rfl) (by kernel_rfl) (by kernel_rfl) (fun _ _ _ h => h) (Or.inl ⟨by rfl, fun w hw => by clear hw; go_simp⟩) hHeld ?_
                   try simp only [Act.put, List.setIfInBounds_toArray, List.set_cons_zero, List.set_cons_succ, List.getElem_toArray, List.getElem_cons_zero, List.getElem_cons_succ]
                   refine wpAnyH_take (i := 2) (v := .int .i64 (t : Int)) rfl (by kernel_rfl) (by kernel_rfl) (by kernel_rfl) (fun _ _ _ h => h) (Or.inl ⟨by rfl, fun w hw => by clear hw; go_simp⟩) hHeld ?_
                   try simp only [Act.put, List.setIfInBounds_toArray, List.set_cons_zero, List.set_cons_succ, List.getElem_toArray, List.getElem_cons_zero, List.getElem_cons_succ]
                   refine wpAnyH_take (i := 3) (v := .slice (some ⟨bp, offp, none⟩) j c) rfl (by kernel_rfl) (by kernel_rfl) (by kernel_rfl) (fun _ _ _ h => h) (Or.inl ⟨by rfl, fun w hw => by clear hw; go_simp⟩) hHeld ?_
                   try simp only [Act.put, List.setIfInBounds_toArray, List.set_cons_zero, List.set_cons_succ, List.getElem_toArray, List.getElem_cons_zero, List.getElem_cons_succ]
                   refine wpAnyH_take (i := 4) (v := .int .i64 (j : Int)) rfl (by kernel_rfl) (by kernel_rfl) (by kernel_rfl) (fun _ _ _ h => h) (Or.inl ⟨by rfl, fun w hw => by clear hw; go_simp⟩) hHeld ?_
                   try simp only [Act.put, List.setIfInBounds_toArray, List.set_cons_zero, List.set_cons_succ, List.getElem_toArray, List.getElem_cons_zero, List.getElem_cons_succ]
                   refine wpAnyH_take (i := 5) (v := .bool false) rfl (by kernel_rfl) (by kernel_rfl) (by kernel_rfl) (fun _ _ _ h => h) (Or.inl ⟨by rfl, fun w hw => by clear hw; go_simp⟩) hHeld ?_
                   try simp only [Act.put, List.setIfInBounds_toArray, List.set_cons_zero, List.set_cons_succ, List.getElem_toArray, List.getElem_cons_zero, List.getElem_cons_succ]
                   refine wpAnyH_take (i := 6) (v := .bool false) rfl (by kernel_rfl) (by kernel_rfl) (by kernel_rfl) (fun _ _ _ h => h) (Or.inl ⟨by rfl, fun w hw => by clear hw; go_simp⟩) hHeld ?_
                   try simp only [Act.put, List.setIfInBounds_toArray, List.set_cons_zero, List.set_cons_succ, List.getElem_toArray, List.getElem_cons_zero, List.getElem_cons_succ]
                   refine wpAnyH_take (i := 7) (v := .pointer (some ⟨b, 0, none⟩)) rfl (by kernel_rfl) (by kernel_rfl) (by kernel_rfl) (fun _ _ _ h => h) (Or.inl ⟨by rfl, fun w hw => by clear hw; go_simp⟩) hHeld ?_
                   try simp only [Act.put, List.setIfInBounds_toArray, List.set_cons_zero, List.set_cons_succ, List.getElem_toArray, List.getElem_cons_zero, List.getElem_cons_succ]
                   refine wpAnyH_take (i := 8) (v := .pointer (some ⟨b, 0, none⟩)) rfl (by kernel_rfl) (by kernel_rfl) (by kernel_rfl) (fun _ _ _ h => h) (Or.inl ⟨by rfl, fun w hw => by clear hw; go_simp⟩) hHeld ?_
                   try simp only [Act.put, List.setIfInBounds_toArray, List.set_cons_zero, List.set_cons_succ, List.getElem_toArray, List.getElem_cons_zero, List.getElem_cons_succ]
                   refine wpAnyH_take (i := 9) (v := .pointer (some ⟨b, 1, none⟩)) rfl (by kernel_rfl) (by kernel_rfl) (by kernel_rfl) (fun _ _ _ h => h) (Or.inl ⟨by rfl, fun w hw => by clear hw; go_simp⟩) hHeld ?_
                   try simp only [Act.put, List.setIfInBounds_toArray, List.set_cons_zero, List.set_cons_succ, List.getElem_toArray, List.getElem_cons_zero, List.getElem_cons_succ]
                   refine wpAnyH_take (i := 10) (v := .slice (some ⟨ab, aoff, none⟩) (j + 1) ac) rfl (by kernel_rfl) (by kernel_rfl) (by kernel_rfl) (fun _ _ _ h => h) (Or.inl ⟨by rfl, fun w hw => by have q0 := hw.cell D.out.1 (by simp); clear hw; go_simp⟩) hHeld ?_
                   try simp only [Act.put, List.setIfInBounds_toArray, List.set_cons_zero, List.set_cons_succ, List.getElem_toArray, List.getElem_cons_zero, List.getElem_cons_succ]
                   refine wpAnyH_take (i := 11) (v := .int .i64 (t : Int)) rfl (by kernel_rfl) (by kernel_rfl) (by kernel_rfl) (fun _ _ _ h => h) (Or.inl ⟨by rfl, fun w hw => by clear hw; go_simp⟩) hHeld ?_
                   try simp only [Act.put, List.setIfInBounds_toArray, List.set_cons_zero, List.set_cons_succ, List.getElem_toArray, List.getElem_cons_zero, List.getElem_cons_succ]
                   refine wpAnyH_take (i := 12) (v := .pointer (some ⟨ab, aoff + t * 2, none⟩)) rfl (by kernel_rfl) (by kernel_rfl) (by kernel_rfl) (fun _ _ _ h => h) (Or.inl ⟨by rfl, fun w hw => by clear hw; go_simp⟩) hHeld ?_
                   try simp only [Act.put, List.setIfInBounds_toArray, List.set_cons_zero, List.set_cons_succ, List.getElem_toArray, List.getElem_cons_zero, List.getElem_cons_succ]
                   refine wpAnyH_take (i := 13) (v := .agg #[.int .i64 p1, .int .i64 p2]) rfl (by kernel_rfl) (by kernel_rfl) (by kernel_rfl) (fun _ _ _ h => h) (Or.inl ⟨by rfl, fun w hw => by have q0 := hw.cell D.out.2.1 (by simp); have q1 := hw.cell D.out.2.2.1 (by simp); clear hw; go_simp⟩) hHeld ?_
                   try simp only [Act.put, List.setIfInBounds_toArray, List.set_cons_zero, List.set_cons_succ, List.getElem_toArray, List.getElem_cons_zero, List.getElem_cons_succ]
                   refine wpAnyH_take (i := 14) (v := .pointer (some ⟨b, 0, none⟩)) rfl (by kernel_rfl) (by kernel_rfl) (by kernel_rfl) (fun _ _ _ h => h) (Or.inl ⟨by rfl, fun w hw => by clear hw; go_simp⟩) hHeld ?_
                   try simp only [Act.put, List.setIfInBounds_toArray, List.set_cons_zero, List.set_cons_succ, List.getElem_toArray, List.getElem_cons_zero, List.getElem_cons_succ]
                   refine wpAnyH_take (i := 15) (v := .pointer (some ⟨b, 0, none⟩)) rfl (by kernel_rfl) (by kernel_rfl) (by kernel_rfl) (fun _ _ _ h => h) (Or.inl ⟨by rfl, fun w hw => by clear hw; go_simp⟩) hHeld ?_
                   try simp only [Act.put, List.setIfInBounds_toArray, List.set_cons_zero, List.set_cons_succ, List.getElem_toArray, List.getElem_cons_zero, List.getElem_cons_succ]
                   refine wpAnyH_take (i := 16) (v := .pointer (some ⟨b, 1, none⟩)) rfl (by kernel_rfl) (by kernel_rfl) (by kernel_rfl) (fun _ _ _ h => h) (Or.inl ⟨by rfl, fun w hw => by clear hw; go_simp⟩) hHeld ?_
                   try simp only [Act.put, List.setIfInBounds_toArray, List.set_cons_zero, List.set_cons_succ, List.getElem_toArray, List.getElem_cons_zero, List.getElem_cons_succ]
                   refine wpAnyH_take (i := 17) (v := .slice (some ⟨ab, aoff, none⟩) (j + 1) ac) rfl (by kernel_rfl) (by kernel_rfl) (by kernel_rfl) (fun _ _ _ h => h) (Or.inl ⟨by rfl, fun w hw => by have q0 := hw.cell D.out.1 (by simp); clear hw; go_simp⟩) hHeld ?_
                   try simp only [Act.put, List.setIfInBounds_toArray, List.set_cons_zero, List.set_cons_succ, List.getElem_toArray, List.getElem_cons_zero, List.getElem_cons_succ]
                   refine wpAnyH_take (i := 18) (v := .int .i64 (k : Int)) rfl (by kernel_rfl) (by kernel_rfl) (by kernel_rfl) (fun _ _ _ h => h) (Or.inl ⟨by rfl, fun w hw => by clear hw; go_simp⟩) hHeld ?_
                   try simp only [Act.put, List.setIfInBounds_toArray, List.set_cons_zero, List.set_cons_succ, List.getElem_toArray, List.getElem_cons_zero, List.getElem_cons_succ]
                   refine wpAnyH_take (i := 19) (v := .pointer (some ⟨ab, aoff + k * 2, none⟩)) rfl (by kernel_rfl) (by kernel_rfl) (by kernel_rfl) (fun _ _ _ h => h) (Or.inl ⟨by rfl, fun w hw => by clear hw; go_simp⟩) hHeld ?_
                   try simp only [Act.put, List.setIfInBounds_toArray, List.set_cons_zero, List.set_cons_succ, List.getElem_toArray, List.getElem_cons_zero, List.getElem_cons_succ]
                   refine wpAnyH_take (i := 20) (v := .agg #[.int .i64 p1, .int .i64 q2]) rfl (by kernel_rfl) (by kernel_rfl) (by kernel_rfl) (fun _ _ _ h => h) (Or.inl ⟨by rfl, fun w hw => by have q0 := hw.cell D.out.2.2.2.1 (by simp); have q1 := hw.cell D.out.2.2.2.2 (by simp); clear hw; go_simp⟩) hHeld ?_
                   try simp only [Act.put, List.setIfInBounds_toArray, List.set_cons_zero, List.set_cons_succ, List.getElem_toArray, List.getElem_cons_zero, List.getElem_cons_succ]
                   refine wpAnyH_take (i := 21) (v := .bool true) rfl (by kernel_rfl) (by kernel_rfl) (by kernel_rfl) (fun _ _ _ h => h) (Or.inl ⟨by rfl, fun w hw => by clear hw; go_simp⟩) hHeld ?_
                   try simp only [Act.put, List.setIfInBounds_toArray, List.set_cons_zero, List.set_cons_succ, List.getElem_toArray, List.getElem_cons_zero, List.getElem_cons_succ]
                   refine wpAnyH_take (i := 22) (v := .bool true) rfl (by kernel_rfl) (by kernel_rfl) (by kernel_rfl) (fun _ _ _ h => h) (Or.inl ⟨by rfl, fun w hw => by clear hw; go_simp⟩) hHeld ?_
                   try simp only [Act.put, List.setIfInBounds_toArray, List.set_cons_zero, List.set_cons_succ, List.getElem_toArray, List.getElem_cons_zero, List.getElem_cons_succ]
                   refine wpAnyH_take (i := 23) (v := .bool true) rfl (by kernel_rfl) (by kernel_rfl) (by kernel_rfl) (fun _ _ _ h => h) (Or.inl ⟨by rfl, fun w hw => by clear hw; go_simp⟩) hHeld ?_
                   try simp only [Act.put, List.setIfInBounds_toArray, List.set_cons_zero, List.set_cons_succ, List.getElem_toArray, List.getElem_cons_zero, List.getElem_cons_succ]
                   refine wpAnyH_done (by kernel_rfl) ?_ _
                   go_wp2_with fail
                   go_meet
                   exact ⟨rfl, hHeld⟩
                 · refine wp_region_held_drew (S := fun W' => wB.grownBy W' none) (by kernel_rfl) (g_drew (g_refl _ _)) (fun hHeld => ?_)
                   refine wpAnyH_take (i := 0) (v := .bool true) rfl (by kernel_rfl) (by kernel_rfl) (by kernel_rfl) (fun _ _ _ h => h) (Or.inl ⟨by rfl, fun w hw => by clear hw; go_simp⟩) hHeld ?_
                   try simp only [Act.put, List.setIfInBounds_toArray, List.set_cons_zero, List.set_cons_succ, List.getElem_toArray, List.getElem_cons_zero, List.getElem_cons_succ]
                   refine wpAnyH_take (i := 1) (v := .bool true) rfl (by kernel_rfl) (by kernel_rfl) (by kernel_rfl) (fun _ _ _ h => h) (Or.inl ⟨by rfl, fun w hw => by clear hw; go_simp⟩) hHeld ?_
                   try simp only [Act.put, List.setIfInBounds_toArray, List.set_cons_zero, List.set_cons_succ, List.getElem_toArray, List.getElem_cons_zero, List.getElem_cons_succ]
                   refine wpAnyH_take (i := 2) (v := .int .i64 (t : Int)) rfl (by kernel_rfl) (by kernel_rfl) (by kernel_rfl) (fun _ _ _ h => h) (Or.inl ⟨by rfl, fun w hw => by clear hw; go_simp⟩) hHeld ?_
                   try simp only [Act.put, List.setIfInBounds_toArray, List.set_cons_zero, List.set_cons_succ, List.getElem_toArray, List.getElem_cons_zero, List.getElem_cons_succ]
                   refine wpAnyH_take (i := 3) (v := .slice (some ⟨bp, offp, none⟩) j c) rfl (by kernel_rfl) (by kernel_rfl) (by kernel_rfl) (fun _ _ _ h => h) (Or.inl ⟨by rfl, fun w hw => by clear hw; go_simp⟩) hHeld ?_
                   try simp only [Act.put, List.setIfInBounds_toArray, List.set_cons_zero, List.set_cons_succ, List.getElem_toArray, List.getElem_cons_zero, List.getElem_cons_succ]
                   refine wpAnyH_take (i := 4) (v := .int .i64 (j : Int)) rfl (by kernel_rfl) (by kernel_rfl) (by kernel_rfl) (fun _ _ _ h => h) (Or.inl ⟨by rfl, fun w hw => by clear hw; go_simp⟩) hHeld ?_
                   try simp only [Act.put, List.setIfInBounds_toArray, List.set_cons_zero, List.set_cons_succ, List.getElem_toArray, List.getElem_cons_zero, List.getElem_cons_succ]
                   refine wpAnyH_take (i := 5) (v := .bool false) rfl (by kernel_rfl) (by kernel_rfl) (by kernel_rfl) (fun _ _ _ h => h) (Or.inl ⟨by rfl, fun w hw => by clear hw; go_simp⟩) hHeld ?_
                   try simp only [Act.put, List.setIfInBounds_toArray, List.set_cons_zero, List.set_cons_succ, List.getElem_toArray, List.getElem_cons_zero, List.getElem_cons_succ]
                   refine wpAnyH_take (i := 6) (v := .bool false) rfl (by kernel_rfl) (by kernel_rfl) (by kernel_rfl) (fun _ _ _ h => h) (Or.inl ⟨by rfl, fun w hw => by clear hw; go_simp⟩) hHeld ?_
                   try simp only [Act.put, List.setIfInBounds_toArray, List.set_cons_zero, List.set_cons_succ, List.getElem_toArray, List.getElem_cons_zero, List.getElem_cons_succ]
                   refine wpAnyH_take (i := 7) (v := .pointer (some ⟨b, 0, none⟩)) rfl (by kernel_rfl) (by kernel_rfl) (by kernel_rfl) (fun _ _ _ h => h) (Or.inl ⟨by rfl, fun w hw => by clear hw; go_simp⟩) hHeld ?_
                   try simp only [Act.put, List.setIfInBounds_toArray, List.set_cons_zero, List.set_cons_succ, List.getElem_toArray, List.getElem_cons_zero, List.getElem_cons_succ]
                   refine wpAnyH_take (i := 8) (v := .pointer (some ⟨b, 0, none⟩)) rfl (by kernel_rfl) (by kernel_rfl) (by kernel_rfl) (fun _ _ _ h => h) (Or.inl ⟨by rfl, fun w hw => by clear hw; go_simp⟩) hHeld ?_
                   try simp only [Act.put, List.setIfInBounds_toArray, List.set_cons_zero, List.set_cons_succ, List.getElem_toArray, List.getElem_cons_zero, List.getElem_cons_succ]
                   refine wpAnyH_take (i := 9) (v := .pointer (some ⟨b, 1, none⟩)) rfl (by kernel_rfl) (by kernel_rfl) (by kernel_rfl) (fun _ _ _ h => h) (Or.inl ⟨by rfl, fun w hw => by clear hw; go_simp⟩) hHeld ?_
                   try simp only [Act.put, List.setIfInBounds_toArray, List.set_cons_zero, List.set_cons_succ, List.getElem_toArray, List.getElem_cons_zero, List.getElem_cons_succ]
                   refine wpAnyH_take (i := 10) (v := .slice (some ⟨ab, aoff, none⟩) (j + 1) ac) rfl (by kernel_rfl) (by kernel_rfl) (by kernel_rfl) (fun _ _ _ h => h) (Or.inl ⟨by rfl, fun w hw => by have q0 := hw.cell D.out.1 (by simp); clear hw; go_simp⟩) hHeld ?_
                   try simp only [Act.put, List.setIfInBounds_toArray, List.set_cons_zero, List.set_cons_succ, List.getElem_toArray, List.getElem_cons_zero, List.getElem_cons_succ]
                   refine wpAnyH_take (i := 11) (v := .int .i64 (t : Int)) rfl (by kernel_rfl) (by kernel_rfl) (by kernel_rfl) (fun _ _ _ h => h) (Or.inl ⟨by rfl, fun w hw => by clear hw; go_simp⟩) hHeld ?_
                   try simp only [Act.put, List.setIfInBounds_toArray, List.set_cons_zero, List.set_cons_succ, List.getElem_toArray, List.getElem_cons_zero, List.getElem_cons_succ]
                   refine wpAnyH_take (i := 12) (v := .pointer (some ⟨ab, aoff + t * 2, none⟩)) rfl (by kernel_rfl) (by kernel_rfl) (by kernel_rfl) (fun _ _ _ h => h) (Or.inl ⟨by rfl, fun w hw => by clear hw; go_simp⟩) hHeld ?_
                   try simp only [Act.put, List.setIfInBounds_toArray, List.set_cons_zero, List.set_cons_succ, List.getElem_toArray, List.getElem_cons_zero, List.getElem_cons_succ]
                   refine wpAnyH_take (i := 13) (v := .agg #[.int .i64 p1, .int .i64 p2]) rfl (by kernel_rfl) (by kernel_rfl) (by kernel_rfl) (fun _ _ _ h => h) (Or.inl ⟨by rfl, fun w hw => by have q0 := hw.cell D.out.2.1 (by simp); have q1 := hw.cell D.out.2.2.1 (by simp); clear hw; go_simp⟩) hHeld ?_
                   try simp only [Act.put, List.setIfInBounds_toArray, List.set_cons_zero, List.set_cons_succ, List.getElem_toArray, List.getElem_cons_zero, List.getElem_cons_succ]
                   refine wpAnyH_take (i := 14) (v := .pointer (some ⟨b, 0, none⟩)) rfl (by kernel_rfl) (by kernel_rfl) (by kernel_rfl) (fun _ _ _ h => h) (Or.inl ⟨by rfl, fun w hw => by clear hw; go_simp⟩) hHeld ?_
                   try simp only [Act.put, List.setIfInBounds_toArray, List.set_cons_zero, List.set_cons_succ, List.getElem_toArray, List.getElem_cons_zero, List.getElem_cons_succ]
                   refine wpAnyH_take (i := 15) (v := .pointer (some ⟨b, 0, none⟩)) rfl (by kernel_rfl) (by kernel_rfl) (by kernel_rfl) (fun _ _ _ h => h) (Or.inl ⟨by rfl, fun w hw => by clear hw; go_simp⟩) hHeld ?_
                   try simp only [Act.put, List.setIfInBounds_toArray, List.set_cons_zero, List.set_cons_succ, List.getElem_toArray, List.getElem_cons_zero, List.getElem_cons_succ]
                   refine wpAnyH_take (i := 16) (v := .pointer (some ⟨b, 1, none⟩)) rfl (by kernel_rfl) (by kernel_rfl) (by kernel_rfl) (fun _ _ _ h => h) (Or.inl ⟨by rfl, fun w hw => by clear hw; go_simp⟩) hHeld ?_
                   try simp only [Act.put, List.setIfInBounds_toArray, List.set_cons_zero, List.set_cons_succ, List.getElem_toArray, List.getElem_cons_zero, List.getElem_cons_succ]
                   refine wpAnyH_take (i := 17) (v := .slice (some ⟨ab, aoff, none⟩) (j + 1) ac) rfl (by kernel_rfl) (by kernel_rfl) (by kernel_rfl) (fun _ _ _ h => h) (Or.inl ⟨by rfl, fun w hw => by have q0 := hw.cell D.out.1 (by simp); clear hw; go_simp⟩) hHeld ?_
                   try simp only [Act.put, List.setIfInBounds_toArray, List.set_cons_zero, List.set_cons_succ, List.getElem_toArray, List.getElem_cons_zero, List.getElem_cons_succ]
                   refine wpAnyH_take (i := 18) (v := .int .i64 (k : Int)) rfl (by kernel_rfl) (by kernel_rfl) (by kernel_rfl) (fun _ _ _ h => h) (Or.inl ⟨by rfl, fun w hw => by clear hw; go_simp⟩) hHeld ?_
                   try simp only [Act.put, List.setIfInBounds_toArray, List.set_cons_zero, List.set_cons_succ, List.getElem_toArray, List.getElem_cons_zero, List.getElem_cons_succ]
                   refine wpAnyH_take (i := 19) (v := .pointer (some ⟨ab, aoff + k * 2, none⟩)) rfl (by kernel_rfl) (by kernel_rfl) (by kernel_rfl) (fun _ _ _ h => h) (Or.inl ⟨by rfl, fun w hw => by clear hw; go_simp⟩) hHeld ?_
                   try simp only [Act.put, List.setIfInBounds_toArray, List.set_cons_zero, List.set_cons_succ, List.getElem_toArray, List.getElem_cons_zero, List.getElem_cons_succ]
                   refine wpAnyH_take (i := 20) (v := .agg #[.int .i64 p1, .int .i64 p2]) rfl (by kernel_rfl) (by kernel_rfl) (by kernel_rfl) (fun _ _ _ h => h) (Or.inl ⟨by rfl, fun w hw => by have q0 := hw.cell D.out.2.2.2.1 (by simp); have q1 := hw.cell D.out.2.2.2.2 (by simp); clear hw; go_simp⟩) hHeld ?_
                   try simp only [Act.put, List.setIfInBounds_toArray, List.set_cons_zero, List.set_cons_succ, List.getElem_toArray, List.getElem_cons_zero, List.getElem_cons_succ]
                   refine wpAnyH_take (i := 21) (v := .bool false) rfl (by kernel_rfl) (by kernel_rfl) (by kernel_rfl) (fun _ _ _ h => h) (Or.inl ⟨by rfl, fun w hw => by clear hw; go_simp⟩) hHeld ?_
                   try simp only [Act.put, List.setIfInBounds_toArray, List.set_cons_zero, List.set_cons_succ, List.getElem_toArray, List.getElem_cons_zero, List.getElem_cons_succ]
                   refine wpAnyH_take (i := 22) (v := .bool false) rfl (by kernel_rfl) (by kernel_rfl) (by kernel_rfl) (fun _ _ _ h => h) (Or.inl ⟨by rfl, fun w hw => by clear hw; go_simp⟩) hHeld ?_
                   try simp only [Act.put, List.setIfInBounds_toArray, List.set_cons_zero, List.set_cons_succ, List.getElem_toArray, List.getElem_cons_zero, List.getElem_cons_succ]
                   refine wpAnyH_take (i := 23) (v := .bool false) rfl (by kernel_rfl) (by kernel_rfl) (by kernel_rfl) (fun _ _ _ h => h) (Or.inl ⟨by rfl, fun w hw => by clear hw; go_simp⟩) hHeld ?_
                   try simp only [Act.put, List.setIfInBounds_toArray, List.set_cons_zero, List.set_cons_succ, List.getElem_toArray, List.getElem_cons_zero, List.getElem_cons_succ]
                   refine wpAnyH_done (by kernel_rfl) ?_ _
                   go_wp2_with fail
                   go_meet
                   exact ⟨rfl, hHeld⟩
             case rest =>
               obtain ⟨rfl, g2⟩ := hcut
               rename World => w2
               have HW2 := Lib.hid (HWB.out.keep g2)
               have HG2 := Lib.hid (g_trans HGB.out g2)
               clear g2
               cases bd
               · go_wp2_with fail
                 go_roundw
                 case rel => exact ⟨k + 1, by go_num, by omega, HW2.out, HG2.out, by simpa using HF.out⟩
                 case measure => simp [intOf]; omega
               · obtain ⟨b3, f3, b4, b5⟩ := HW2.out.bset (k : Int)
                 have HB4 := Lib.hid (And.intro b4 ((tr_trans (tr_g HG2.out (fun i => w.heap.size ≤ i)) b5 (fun i hi e => e)).g (fun i hi => by omega)))
                 clear b4 b5
                 go_wp2_with fail
                 try simp only [Exit.noGoto]
                 go_ret
                 refine ⟨b, rfl, ?_, HB4.out.2⟩
                 rw [HEND.out, show firstBad j (T ++ [(-1, 0)]) 0 P = (k : Int) from by simpa using HF.out]
                 exact HB4.out.1
           · obtain rfl : k = j := by omega
             have hkk : ¬ (k : Int) < k := by omega
             have HR := Lib.hid (And.intro hw (And.intro hg hf))
             clear hw hg hf
             go_wp2_with fail
             try simp only [Exit.noGoto]
             go_ret
             refine ⟨b, rfl, ?_, HR.out.2.1⟩
             rw [HEND.out, show firstBad k (T ++ [(-1, 0)]) 0 P = -1 from by rw [HR.out.2.2, List.drop_eq_nil_of_le (by rw [HN.out]; exact Nat.le_refl _)]; rfl]
             exact HR.out.1
end Go.Proofs.Ytfobfcnbbafplaa
