/- The law ProgParts. -/
import Derived.Test.YtmckaimgeflncaaPW
import Derived.Test.YtmckaimgeflncaaPN
namespace Go.Proofs.Ytmckaimgeflncaa
open Go.RowKit
set_option linter.unusedVariables false
set_option linter.unusedSimpArgs false

theorem aimx_jump {x : I4} (h : isJ x.k = true) (n : Nat) : tgt x.k (aimx n x).a (aimx n x).b = tgt x.k x.a x.b + n ∧ aimA x.k (aimx n x).a (tgt x.k x.a x.b) = x.a ∧ aimB x.k (aimx n x).b (tgt x.k x.a x.b) = x.b := by
  have hk := of_decide_eq_true h
  unfold aimx tgt aimA aimB
  rcases hk with hk | hk
  · simp [hk]
  · simp [hk]
theorem aimx_plain {x : I4} (h : isJ x.k = false) (n : Nat) : aimx n x = x := by
  have hk := of_decide_eq_false h
  unfold aimx aimA aimB
  rw [if_neg (fun e => hk (.inl e)), if_neg (fun e => hk (.inr e))]
theorem aimx_zero (x : I4) : aimx 0 x = x := by
  unfold aimx aimA aimB tgt
  obtain ⟨k, a, b, c⟩ := x
  simp only
  by_cases h8 : k = 8
  · subst h8; simp
  · by_cases h9 : k = 9
    · subst h9; simp
    · simp [h8, h9]
theorem lk_two (a b : Option Addr) (n c m d : Nat) (L M : List I4) : lk [⟨a, n, c, L⟩, ⟨b, m, d, M⟩] = L ++ M.map (aimx L.length) := by
  have h0 : L.map (aimx 0) = L := by
    rw [List.map_congr_left (fun x _ => aimx_zero x)]; simp
  unfold lk
  simp [h0]
theorem own_form {w : World} {base : Nat} {e : TypeId} {size n : Nat} {v : Value} {xs : List Value} (hs : 0 < size) (h : w.ownsRow base e size v n xs) :
    (v = .slice none 0 0 ∧ n = 0) ∨ ∃ g c, v = .slice (some ⟨g, 0, none⟩) n c ∧ n ≤ c ∧ c ≤ 9223372036854775807 ∧ ∀ (j : Nat) (u : Value), xs[j]? = some u → w.cell? ⟨g, j, none⟩ = some u := by
  have hcs := fun g hg => h.cells (g := g) hg
  rcases h.2 with ⟨rfl, hn⟩ | ⟨g, cap, cur, rfl, hbg, hh, h1, h2, h3, h4⟩
  · exact .inl ⟨rfl, hn⟩
  · exact .inr ⟨g, cap, rfl, h1, by unfold maxLen at h2; omega, fun j u hu => by have := hcs g rfl j u hu; rwa [Addr.add_lit, Nat.zero_add] at this⟩
theorem iv_get {L : List I4} {i : Nat} {x : I4} (hx : L[i]? = some x) : (iv L)[i * 4]? = some (.int .i64 x.k) ∧ (iv L)[i * 4 + 1]? = some (.int .i64 x.a) ∧ (iv L)[i * 4 + 2]? = some (.int .i64 x.b) ∧ (iv L)[i * 4 + 3]? = some (.int .i64 x.c) := by
  induction L generalizing i with
  | nil => cases hx
  | cons y t ih =>
    have e : iv (y :: t) = [.int .i64 y.k, .int .i64 y.a, .int .i64 y.b, .int .i64 y.c] ++ iv t := by simp [iv]
    cases i with
    | zero => cases hx; exact ⟨rfl, rfl, rfl, rfl⟩
    | succ i =>
      obtain ⟨h0, h1, h2, h3⟩ := ih (i := i) (by simpa using hx)
      rw [e]
      refine ⟨?_, ?_, ?_, ?_⟩
      · rw [show (i + 1) * 4 = i * 4 + 4 by omega, List.getElem?_append_right (by simp), show i * 4 + 4 - [Value.int .i64 y.k, .int .i64 y.a, .int .i64 y.b, .int .i64 y.c].length = i * 4 by simp]; exact h0
      · rw [show (i + 1) * 4 + 1 = i * 4 + 1 + 4 by omega, List.getElem?_append_right (by simp), show i * 4 + 1 + 4 - [Value.int .i64 y.k, .int .i64 y.a, .int .i64 y.b, .int .i64 y.c].length = i * 4 + 1 by simp]; exact h1
      · rw [show (i + 1) * 4 + 2 = i * 4 + 2 + 4 by omega, List.getElem?_append_right (by simp), show i * 4 + 2 + 4 - [Value.int .i64 y.k, .int .i64 y.a, .int .i64 y.b, .int .i64 y.c].length = i * 4 + 2 by simp]; exact h2
      · rw [show (i + 1) * 4 + 3 = i * 4 + 3 + 4 by omega, List.getElem?_append_right (by simp), show i * 4 + 3 + 4 - [Value.int .i64 y.k, .int .i64 y.a, .int .i64 y.b, .int .i64 y.c].length = i * 4 + 3 by simp]; exact h3
/-- an own row of instructions, read -/
theorem irow_own {w : World} {g : Nat} {L : List I4} (h : ∀ (j : Nat) (u : Value), (iv L)[j]? = some u → w.cell? ⟨g, j, none⟩ = some u) : IRow w (some ⟨g, 0, none⟩) L := fun i x hx => by
  obtain ⟨h0, h1, h2, h3⟩ := iv_get hx
  exact ⟨g, 0, rfl, by rw [Nat.zero_add]; exact h _ _ h0, by rw [Nat.zero_add]; exact h _ _ h1, by rw [Nat.zero_add]; exact h _ _ h2, by rw [Nat.zero_add]; exact h _ _ h3⟩
theorem irow_take {w : World} {ao : Option Addr} {L : List I4} (h : IRow w ao L) (k : Nat) : IRow w ao (L.take k) := fun i x hx => h i x (by
  have hi := (List.getElem?_eq_some_iff.1 hx).1
  rw [List.length_take] at hi
  rw [List.getElem?_take_of_lt (by omega)] at hx
  exact hx)
theorem irow_nil' (w : World) (ao : Option Addr) : IRow w ao [] := fun i x h => by cases h

set_option maxRecDepth 100000 in
set_option maxHeartbeats 6400000 in
theorem walk_ProgParts (a0 : Option Addr) (a0n a0c : Nat) (a1 : Option Addr) (a1n a1c : Nat) (w : World) (w0 : Vec w a0 a0n a0c 4 (Q42)) (w1 : Vec w a1 a1n a1c 4 (Q42)) :
    Calls Try.prog 5 #[.slice a0 a0n a0c, .slice a1 a1n a1c] w fun e w' => e = .returned (.bool true) ∧ Below w.heap.size w w' := by
  obtain ⟨L, hLl, hL⟩ := vec_instrs w0 (min a0n 520) (by omega)
  obtain ⟨M, hMl, hM⟩ := vec_instrs w1 (min a1n 520) (by omega)
  have hf0 := fun w => few_any a0 a0n a0c w w0.1 (by have := w0.2.1; unfold maxLen at this; omega)
  have hf1 := fun w => few_any a1 a1n a1c w w1.1 (by have := w1.2.1; unfold maxLen at this; omega)
  have hc0 : min a0n 520 ≤ a0c := by have := w0.1; omega
  have hc1 : min a1n 520 ≤ a1c := by have := w1.1; omega
  have hcc0 : a0c ≤ 9223372036854775807 := by have := w0.2.1; unfold maxLen at this; omega
  have hcc1 : a1c ≤ 9223372036854775807 := by have := w1.2.1; unfold maxLen at this; omega
  have hn520 : min a0n 520 ≤ 520 := by omega
  have hm520 : min a1n 520 ≤ 520 := by omega
  generalize min a0n 520 = n at *
  generalize min a1n 520 = m at *
  clear w0 w1
  have HF0 := Lib.hid hf0
  have HF1 := Lib.hid hf1
  have HL := Lib.hid hL
  have HM := Lib.hid hM
  have HLL := Lib.hid hLl
  have HML := Lib.hid hMl
  clear hf0 hf1 hL hM hLl hMl
  go_enter Try.func5, Try.ntmps5
  go_wp2_with fail
  refine (HF0.out _).mono ?_
  rintro e w2 ⟨rfl, g2⟩
  go_wp2_with fail
  refine (HF1.out _).mono ?_
  rintro e w3 ⟨rfl, g3⟩
  have G3 := Lib.hid (g_trans g2 g3)
  clear g2 g3
  have hP := prow_new w3 [⟨a0, n, a0c, L⟩, ⟨a1, m, a1c, M⟩] (by
    intro x hx
    simp only [List.mem_cons, List.not_mem_nil, or_false] at hx
    rcases hx with rfl | rfl
    · exact ⟨HL.out.keep G3.out, HLL.out, hn520⟩
    · exact ⟨HM.out.keep G3.out, HML.out, hm520⟩)
  have HLK := Lib.hid (link_all _ 2 2 _ _ hP rfl (by omega))
  have G4 := Lib.hid (g_trans G3.out (g_alloc (g_refl w3 none) (.cells #[.slice a0 n a0c, .slice a1 m a1c] 22)))
  clear hP
  go_wp2_with fail
  refine HLK.out.mono ?_
  rintro e w5 ⟨g5, ⟨h, rfl⟩ | ⟨_, _, rfl⟩ | ⟨ht, hfit, v, rfl, how⟩⟩
  · go_wp2_with fail
    refine (awake_any _).mono ?_
    rintro e w6 ⟨rfl, g6⟩
    go_wp2_with fail
    go_ret
    exact ⟨rfl, below_gn (Below.refl _ _) (g_trans (g_trans G4.out g5) g6) (Nat.le_refl _)⟩
  · go_wp2_with fail
    refine (awake_any _).mono ?_
    rintro e w6 ⟨rfl, g6⟩
    go_wp2_with fail
    go_ret
    exact ⟨rfl, below_gn (Below.refl _ _) (g_trans (g_trans G4.out g5) g6) (Nat.le_refl _)⟩
  have hfM := Lib.hid (hfit ⟨a1, m, a1c, M⟩ (by simp))
  have G5 := Lib.hid (g_trans G4.out g5)
  have ht5 : n + m ≤ 512 := by simpa [tot] using ht
  rw [lk_two] at how
  have hlen : (L ++ M.map (aimx L.length)).length = n + m := by rw [List.length_append, List.length_map, HLL.out, HML.out]
  rw [hlen, HLL.out] at how
  clear hfit ht g5 hlen
  have hN1 : ∃ t : Nat, t = n + m ∧ (t : Int) = (n : Int) + (m : Int) := ⟨n + m, rfl, by omega⟩
  obtain ⟨t, ht, hti⟩ := hN1
  rw [← ht] at how
  have e0 : ((t : Int) != (n : Int) + (m : Int)) = false := by simp [hti]
  have htt : t ≤ 512 := by omega
  have hnt : n ≤ t := by omega
  have HT := Lib.hid ht
  have HTI := Lib.hid hti
  clear hti
  have key : ∃ ao c, v = .slice ao t c ∧ t ≤ c ∧ c ≤ 9223372036854775807 ∧ IRow w5 ao (L ++ M.map (aimx n)) ∧ (ao = none ∨ ∃ g, ao = some ⟨g, 0, none⟩) ∧ (ao = none → t = 0 ∧ c = 0) := by
    rcases own_form (by decide) how with ⟨rfl, h0⟩ | ⟨g, c, rfl, h1, h2, h3⟩
    · subst h0
      have hl0 : (L ++ M.map (aimx n)) = [] := List.eq_nil_of_length_eq_zero (by rw [List.length_append, List.length_map, HLL.out, HML.out]; omega)
      exact ⟨none, 0, rfl, by omega, by omega, by rw [hl0]; exact irow_nil' _ _, .inl rfl, fun _ => ⟨rfl, rfl⟩⟩
    · exact ⟨_, c, rfl, h1, h2, irow_own h3, .inr ⟨g, rfl⟩, fun h => by cases h⟩
  obtain ⟨ao, c, rfl, htc, hcm, hrow, hao, hao0⟩ := key
  have hsame : Hid ((L ++ M.map (aimx n)).take n = L) := Lib.hid (by rw [← HLL.out]; exact List.take_left)
  have HROW := Lib.hid hrow
  have HS := Lib.hid (rsame_any ao a0 n c n a0c L L w5 (by rw [← hsame.out]; exact irow_take hrow n) (HL.out.keep G5.out) HLL.out HLL.out (by omega))
  rw [eqL_self] at HS
  clear how hrow ht
  rcases hao with rfl | ⟨g, rfl⟩
  · obtain ⟨rfl, rfl⟩ := hao0 rfl
    obtain rfl : n = 0 := by omega
    obtain rfl : m = 0 := by have := HTI.out; omega
    clear hao0
    go_wp2_with fail
    refine HS.out.mono ?_
    rintro e w6 ⟨rfl, g6⟩
    have G6 := Lib.hid (g_trans G5.out g6)
    clear g6
    go_wp2_with fail
    go_loopw [7] (fun i wr => i = .int .i64 0 ∧ w.grownBy wr none) (fun _ _ => 0)
    case atStart => exact ⟨rfl, G6.out⟩
    case round =>
      obtain ⟨rfl, gr⟩ := hrel
      have GR := Lib.hid gr
      clear gr
      go_wp2_with fail
      refine (awake_any _).mono ?_
      rintro e w7 ⟨rfl, g7⟩
      go_wp2_with fail
      go_ret
      exact ⟨rfl, below_gn (Below.refl _ _) (g_trans GR.out g7) (Nat.le_refl _)⟩
  · clear hao0
    have hcn : ¬ (c : Int) < n := by omega
    go_wp2_with fail
    refine HS.out.mono ?_
    rintro e w6 ⟨rfl, g6⟩
    have G6 := Lib.hid (g_trans G5.out g6)
    have HROW := Lib.hid (HROW.out.keep g6)
    clear g6 HS
    go_wp2_with fail
    go_loopw [7] (fun i wr => ∃ j : Nat, i = .int .i64 j ∧ j ≤ m ∧ w6.grownBy wr none) (fun i _ => (m - intOf i).toNat)
    case atStart => exact ⟨0, rfl, Nat.zero_le _, g_refl _ _⟩
    case round =>
      obtain ⟨j, rfl, hj, gr⟩ := hrel
      by_cases hlt : j < m
      · have hji : (j : Int) < m := by omega
        obtain ⟨y, hy⟩ : ∃ y, M[j]? = some y := ⟨M[j]'(by rw [HML.out]; exact hlt), List.getElem?_eq_getElem _⟩
        have hyy : (L ++ M.map (aimx n))[n + j]? = some (aimx n y) := by
          rw [List.getElem?_append_right (by rw [HLL.out]; omega), HLL.out, Nat.add_sub_cancel_left, List.getElem?_map, hy]; rfl
        obtain ⟨b9, off9, hb9, x0, x1, x2, x3⟩ := HROW.out.keep gr _ _ hyy
        injection hb9 with hb9
        injection hb9 with q1 q2 q3
        subst q1 q2
        simp only [Nat.zero_add] at x0 x1 x2 x3
        obtain ⟨b8, off8, rfl, y0, y1, y2, y3⟩ := (HM.out.keep (g_trans G6.out gr)) j y hy
        have hidx : (n : Int) + (j : Int) < t := by have := HTI.out; omega
        have hb8 := World.block_lt_of_cell? _ _ y0
        simp only at hb8
        have htn : ((n : Int) + (j : Int)).toNat = n + j := by omega
        have hty := tgt_in (fit_mem hfM.out (List.mem_of_getElem? hy)).1
        have hk9 : (aimx n y).k = y.k := rfl
        have hc9 : (aimx n y).c = y.c := rfl
        rw [hk9] at x0
        rw [hc9] at x3
        have hjump := aimx_jump (x := y) (n := n)
        have hplain := aimx_plain (x := y) (n := n)
        have HT1 := Lib.hid (rtarget_any y.k y.a y.b y.c)
        have HT2 := Lib.hid (rtarget_any y.k (aimx n y).a (aimx n y).b y.c)
        have HT3 := Lib.hid (raim_any y.k (aimx n y).a (aimx n y).b y.c (tgt y.k y.a y.b))
        have hpa : isJ y.k = false → (aimx n y).a = y.a ∧ (aimx n y).b = y.b := fun h => by rw [aimx_plain h]; exact ⟨rfl, rfl⟩
        have GR := Lib.hid gr
        have GW := Lib.hid (g_trans G6.out gr)
        generalize (aimx n y).a = ya at *
        generalize (aimx n y).b = yb at *
        have ga := g_alloc (g_refl wr none) (.cells #[.int .i64 y.k, .int .i64 ya, .int .i64 yb, .int .i64 y.c] 43)
        have XB := Lib.hid (Blk.new wr #[.int .i64 y.k, .int .i64 ya, .int .i64 yb, .int .i64 y.c] 43)
        have GA := Lib.hid ga
        have hwz := GW.out.size
        have Y := Lib.hid (And.intro y0 (And.intro y1 (And.intro y2 y3)))
        clear hyy gr hy ga hk9 hc9 hplain
        cases hJ : isJ y.k
        · obtain ⟨rfl, rfl⟩ := hpa hJ
          rw [hJ] at HT1
          clear hpa hjump hJ
          have z0 := GA.out.cell y0 (by simp)
          have z1 := GA.out.cell y1 (by simp)
          have z2 := GA.out.cell y2 (by simp)
          have z3 := GA.out.cell y3 (by simp)
          clear y0 y1 y2 y3
          go_wp2_with fail
          refine (HT1.out _).mono ?_
          rintro e w7 ⟨rfl, g7⟩
          have XB := Lib.hid (XB.out.keepn g7)
          have G7 := Lib.hid (g_trans (g_trans GR.out GA.out) g7)
          have Y := Lib.hid (And.intro ((g_trans GA.out g7).cell Y.out.1 (by simp)) (And.intro ((g_trans GA.out g7).cell Y.out.2.1 (by simp)) (And.intro ((g_trans GA.out g7).cell Y.out.2.2.1 (by simp)) ((g_trans GA.out g7).cell Y.out.2.2.2 (by simp)))))
          clear g7 z0 z1 z2 z3 x0 x1 x2 x3
          go_upto_region 17 with fail
          refine wp_region_held_drew (S := fun W' => w7.grownBy W' none) (by kernel_rfl) (g_drew (g_refl _ _)) (fun hHeld => ?_)
          refine wpAnyH_take (i := 0) (v := .agg #[.int .i64 y.k, .int .i64 y.a, .int .i64 y.b, .int .i64 y.c]) rfl (by kernel_rfl) (by kernel_rfl) (by kernel_rfl) (fun _ _ _ h => h) (Or.inl ⟨by rfl, fun w hw => by have q0 := (XB.out.keepn hw).cell 0 _ rfl; have q1 := (XB.out.keepn hw).cell 1 _ rfl; have q2 := (XB.out.keepn hw).cell 2 _ rfl; have q3 := (XB.out.keepn hw).cell 3 _ rfl; clear hw; go_simp⟩) hHeld ?_
          try simp only [Act.put, List.setIfInBounds_toArray, List.set_cons_zero, List.set_cons_succ, List.getElem_toArray, List.getElem_cons_zero, List.getElem_cons_succ]
          refine wpAnyH_take (i := 1) (v := .slice (some ⟨b8, off8, none⟩) m a1c) rfl (by kernel_rfl) (by kernel_rfl) (by kernel_rfl) (fun _ _ _ h => h) (Or.inl ⟨by rfl, fun w hw => by clear hw; go_simp⟩) hHeld ?_
          try simp only [Act.put, List.setIfInBounds_toArray, List.set_cons_zero, List.set_cons_succ, List.getElem_toArray, List.getElem_cons_zero, List.getElem_cons_succ]
          refine wpAnyH_take (i := 2) (v := .int .i64 j) rfl (by kernel_rfl) (by kernel_rfl) (by kernel_rfl) (fun _ _ _ h => h) (Or.inl ⟨by rfl, fun w hw => by clear hw; go_simp⟩) hHeld ?_
          try simp only [Act.put, List.setIfInBounds_toArray, List.set_cons_zero, List.set_cons_succ, List.getElem_toArray, List.getElem_cons_zero, List.getElem_cons_succ]
          refine wpAnyH_take (i := 3) (v := .pointer (some ⟨b8, off8 + j * 4, none⟩)) rfl (by kernel_rfl) (by kernel_rfl) (by kernel_rfl) (fun _ _ _ h => h) (Or.inl ⟨by rfl, fun w hw => by clear hw; go_simp⟩) hHeld ?_
          try simp only [Act.put, List.setIfInBounds_toArray, List.set_cons_zero, List.set_cons_succ, List.getElem_toArray, List.getElem_cons_zero, List.getElem_cons_succ]
          refine wpAnyH_take (i := 4) (v := .agg #[.int .i64 y.k, .int .i64 y.a, .int .i64 y.b, .int .i64 y.c]) rfl (by kernel_rfl) (by kernel_rfl) (by kernel_rfl) (fun _ _ _ h => h) (Or.inl ⟨by rfl, fun w hw => by have q0 := hw.cell Y.out.1 (by simp); have q1 := hw.cell Y.out.2.1 (by simp); have q2 := hw.cell Y.out.2.2.1 (by simp); have q3 := hw.cell Y.out.2.2.2 (by simp); clear hw; go_simp⟩) hHeld ?_
          try simp only [Act.put, List.setIfInBounds_toArray, List.set_cons_zero, List.set_cons_succ, List.getElem_toArray, List.getElem_cons_zero, List.getElem_cons_succ]
          refine wpAnyH_take (i := 5) (v := .bool false) rfl (by kernel_rfl) (by kernel_rfl) (by kernel_rfl) (fun _ _ _ h => h) (Or.inl ⟨by rfl, fun w hw => by clear hw; go_simp⟩) hHeld ?_
          try simp only [Act.put, List.setIfInBounds_toArray, List.set_cons_zero, List.set_cons_succ, List.getElem_toArray, List.getElem_cons_zero, List.getElem_cons_succ]
          refine wpAnyH_done (by kernel_rfl) ?_ _
          go_wp2_with fail
          go_roundw
          case rel => exact ⟨j + 1, by go_num, by omega, g_trans G7.out hHeld⟩
          case measure => simp [intOf]; omega
        · obtain ⟨j1, j2, j3⟩ := hjump hJ
          rw [hJ] at HT1 HT2
          rw [j1] at HT2
          rw [j2, j3] at HT3
          clear hpa hjump hJ j1 j2 j3
          generalize tgt y.k y.a y.b = tg at *
          have z0 := GA.out.cell y0 (by simp)
          have z1 := GA.out.cell y1 (by simp)
          have z2 := GA.out.cell y2 (by simp)
          have z3 := GA.out.cell y3 (by simp)
          clear y0 y1 y2 y3
          go_wp2_with fail
          refine (HT1.out _).mono ?_
          rintro e w7 ⟨rfl, g7⟩
          clear z0 z1 z2 z3 x0 x1 x2 x3
          have XB := Lib.hid (XB.out.keepn g7)
          have z0 := XB.out.cell 0 _ rfl
          have z1 := XB.out.cell 1 _ rfl
          have z2 := XB.out.cell 2 _ rfl
          have z3 := XB.out.cell 3 _ rfl
          go_wp2_with fail
          refine (HT2.out _).mono ?_
          rintro e w8 ⟨rfl, g8⟩
          have XB := Lib.hid (XB.out.keepn g8)
          clear z0 z1 z2 z3
          have z0 := XB.out.cell 0 _ rfl
          have z1 := XB.out.cell 1 _ rfl
          have z2 := XB.out.cell 2 _ rfl
          have z3 := XB.out.cell 3 _ rfl
          go_wp2_with fail
          refine (HT3.out _).mono ?_
          rintro e w9 ⟨rfl, g9⟩
          have XB := Lib.hid (XB.out.keepn g9)
          have gg := g_trans (g_trans (g_trans GA.out g7) g8) g9
          clear z0 z1 z2 z3
          have z0 := XB.out.cell 0 _ rfl
          have z1 := XB.out.cell 1 _ rfl
          have z2 := XB.out.cell 2 _ rfl
          have z3 := XB.out.cell 3 _ rfl
          have f0 := XB.out.free 0
          have f1 := XB.out.free 1
          have f2 := XB.out.free 2
          have f3 := XB.out.free 3
          have G9 := Lib.hid (g_trans GR.out gg)
          have Y9 := Lib.hid (And.intro (gg.cell Y.out.1 (by simp)) (And.intro (gg.cell Y.out.2.1 (by simp)) (And.intro (gg.cell Y.out.2.2.1 (by simp)) (gg.cell Y.out.2.2.2 (by simp)))))
          clear g7 g8 g9 gg
          have xf := (((XB.out.set 0 (.int .i64 y.k)).set 1 (.int .i64 y.a)).set 2 (.int .i64 y.b)).set 3 (.int .i64 y.c)
          have gs := g_set (g_set (g_set (g_set (g_refl w9 (some wr.heap.size)) (p := ⟨wr.heap.size, 0, none⟩) (.inl rfl) (.int .i64 y.k)) (p := ⟨wr.heap.size, 1, none⟩) (.inl rfl) (.int .i64 y.a)) (p := ⟨wr.heap.size, 2, none⟩) (.inl rfl) (.int .i64 y.b)) (p := ⟨wr.heap.size, 3, none⟩) (.inl rfl) (.int .i64 y.c)
          have hne : some b8 ≠ some wr.heap.size := fun e => by injection e with e; omega
          have yf := And.intro (gs.cell Y9.out.1 hne) (And.intro (gs.cell Y9.out.2.1 hne) (And.intro (gs.cell Y9.out.2.2.1 hne) (gs.cell Y9.out.2.2.2 hne)))
          have GF := Lib.hid (g_in G9.out gs (by have := GR.out.size; omega))
          have XF := Lib.hid xf
          have YF := Lib.hid yf
          clear xf gs hne yf
          go_upto_region 17 with fail
          generalize ((((w9.setCell ⟨wr.heap.size, 0, none⟩ (.int .i64 y.k)).setCell ⟨wr.heap.size, 1, none⟩ (.int .i64 y.a)).setCell ⟨wr.heap.size, 2, none⟩ (.int .i64 y.b)).setCell ⟨wr.heap.size, 3, none⟩ (.int .i64 y.c)) = WW at *
          refine wp_region_held_drew (S := fun W' => WW.grownBy W' none) (by kernel_rfl) (g_drew (g_refl _ _)) (fun hHeld => ?_)
          refine wpAnyH_take (i := 0) (v := .agg #[.int .i64 y.k, .int .i64 y.a, .int .i64 y.b, .int .i64 y.c]) rfl (by kernel_rfl) (by kernel_rfl) (by kernel_rfl) (fun _ _ _ h => h) (Or.inl ⟨by rfl, fun w hw => by have q0 := (XF.out.keepn hw).cell 0 _ rfl; have q1 := (XF.out.keepn hw).cell 1 _ rfl; have q2 := (XF.out.keepn hw).cell 2 _ rfl; have q3 := (XF.out.keepn hw).cell 3 _ rfl; clear hw; go_simp⟩) hHeld ?_
          try simp only [Act.put, List.setIfInBounds_toArray, List.set_cons_zero, List.set_cons_succ, List.getElem_toArray, List.getElem_cons_zero, List.getElem_cons_succ]
          refine wpAnyH_take (i := 1) (v := .slice (some ⟨b8, off8, none⟩) m a1c) rfl (by kernel_rfl) (by kernel_rfl) (by kernel_rfl) (fun _ _ _ h => h) (Or.inl ⟨by rfl, fun w hw => by clear hw; go_simp⟩) hHeld ?_
          try simp only [Act.put, List.setIfInBounds_toArray, List.set_cons_zero, List.set_cons_succ, List.getElem_toArray, List.getElem_cons_zero, List.getElem_cons_succ]
          refine wpAnyH_take (i := 2) (v := .int .i64 j) rfl (by kernel_rfl) (by kernel_rfl) (by kernel_rfl) (fun _ _ _ h => h) (Or.inl ⟨by rfl, fun w hw => by clear hw; go_simp⟩) hHeld ?_
          try simp only [Act.put, List.setIfInBounds_toArray, List.set_cons_zero, List.set_cons_succ, List.getElem_toArray, List.getElem_cons_zero, List.getElem_cons_succ]
          refine wpAnyH_take (i := 3) (v := .pointer (some ⟨b8, off8 + j * 4, none⟩)) rfl (by kernel_rfl) (by kernel_rfl) (by kernel_rfl) (fun _ _ _ h => h) (Or.inl ⟨by rfl, fun w hw => by clear hw; go_simp⟩) hHeld ?_
          try simp only [Act.put, List.setIfInBounds_toArray, List.set_cons_zero, List.set_cons_succ, List.getElem_toArray, List.getElem_cons_zero, List.getElem_cons_succ]
          refine wpAnyH_take (i := 4) (v := .agg #[.int .i64 y.k, .int .i64 y.a, .int .i64 y.b, .int .i64 y.c]) rfl (by kernel_rfl) (by kernel_rfl) (by kernel_rfl) (fun _ _ _ h => h) (Or.inl ⟨by rfl, fun w hw => by have q0 := hw.cell YF.out.1 (by simp); have q1 := hw.cell YF.out.2.1 (by simp); have q2 := hw.cell YF.out.2.2.1 (by simp); have q3 := hw.cell YF.out.2.2.2 (by simp); clear hw; go_simp⟩) hHeld ?_
          try simp only [Act.put, List.setIfInBounds_toArray, List.set_cons_zero, List.set_cons_succ, List.getElem_toArray, List.getElem_cons_zero, List.getElem_cons_succ]
          refine wpAnyH_take (i := 5) (v := .bool false) rfl (by kernel_rfl) (by kernel_rfl) (by kernel_rfl) (fun _ _ _ h => h) (Or.inl ⟨by rfl, fun w hw => by clear hw; go_simp⟩) hHeld ?_
          try simp only [Act.put, List.setIfInBounds_toArray, List.set_cons_zero, List.set_cons_succ, List.getElem_toArray, List.getElem_cons_zero, List.getElem_cons_succ]
          refine wpAnyH_done (by kernel_rfl) ?_ _
          go_wp2_with fail
          go_roundw
          case rel => exact ⟨j + 1, by go_num, by omega, g_trans GF.out hHeld⟩
          case measure => simp [intOf]; omega
      · obtain rfl : j = m := by omega
        have GW := Lib.hid (g_trans G6.out gr)
        clear gr
        go_wp2_with fail
        refine (awake_any _).mono ?_
        rintro e w7 ⟨rfl, g7⟩
        go_wp2_with fail
        go_ret
        exact ⟨rfl, below_gn (Below.refl _ _) (g_trans GW.out g7) (Nat.le_refl _)⟩
end Go.Proofs.Ytmckaimgeflncaa
