/- The law HeldOwn: a row that nobody made; what is told is new memory. -/
import Derived.Test.YtgfpmmiaidnfeaaF
import Derived.Test.YtgfpmmiaidnfeaaShapes
namespace Go.Proofs.Ytgfpmmiaidnfeaa
open Go.RowKit
set_option linter.unusedVariables false

/-- nothing held: nil, or none made -/
def NoH (w : World) (p : Option Addr) : Prop := p = none ∨ ∃ b, p = some ⟨b, 0, none⟩ ∧ w.cell? ⟨b, 1, none⟩ = some (.bool false)
theorem NoH.keep {w w' : World} {p : Option Addr} (h : NoH w p) (g : w.grownBy w' none) : NoH w' p := by
  rcases h with rfl | ⟨b, rfl, h0⟩
  · exact .inl rfl
  · exact .inr ⟨b, rfl, g.cell h0 (by simp)⟩

set_option maxHeartbeats 400000 in
theorem no_none (p : Option Addr) (w : World) (h : NoH w p) :
    Calls Try.prog 21 #[.pointer p] w fun e w' => e = .returned (.bool true) ∧ w.grownBy w' none := by
  rcases h with rfl | ⟨b, rfl, h0⟩
  · go_enter Try.func21, Try.ntmps21
    go_wp2
    go_ret
    exact ⟨rfl, g_refl _ _⟩
  · go_enter Try.func21, Try.ntmps21
    go_wp2
    go_ret
    exact ⟨rfl, g_refl _ _⟩

set_option maxHeartbeats 400000 in
theorem no_clear (p : Option Addr) (w : World) (h : NoH w p) :
    Calls Try.prog 13 #[.pointer p] w fun e w' => e = .returned (.tuple #[]) ∧ w.grownBy w' none := by
  go_enter Try.func13, Try.ntmps13
  go_wp2_with fail
  refine (no_none _ _ h).mono ?_
  rintro e w1 ⟨rfl, hg⟩
  go_wp2_with fail
  go_end0
  exact ⟨rfl, hg⟩

set_option maxHeartbeats 400000 in
theorem no_has (p : Option Addr) (w : World) (h : NoH w p) (o : Int) :
    Calls Try.prog 8 #[.pointer p, .int .i64 o] w fun e w' => e = .returned (.tuple #[.int .i64 0, .bool false]) ∧ w.grownBy w' none := by
  go_enter Try.func8, Try.ntmps8
  go_wp2_with fail
  refine wp_scope_straight ?_
  go_wp2_with fail
  refine (no_none _ _ h).mono ?_
  rintro e w1 ⟨rfl, hg⟩
  go_wp2_with fail
  try rw [Exit.noGoto_ret]
  go_ret2
  exact ⟨rfl, hg⟩

set_option maxHeartbeats 400000 in
theorem no_add (p : Option Addr) (w : World) (h : NoH w p) (o v : Int) :
    Calls Try.prog 9 #[.pointer p, .int .i64 o, .int .i64 v] w fun e w' => e = .returned (.int .i64 4) ∧ w.grownBy w' none := by
  go_enter Try.func9, Try.ntmps9
  go_wp2_with fail
  refine (no_none _ _ h).mono ?_
  rintro e w1 ⟨rfl, hg⟩
  go_wp2_with fail
  go_ret
  exact ⟨rfl, hg⟩

set_option maxHeartbeats 400000 in
theorem no_len (p : Option Addr) (w : World) (h : NoH w p) :
    Calls Try.prog 10 #[.pointer p] w fun e w' => e = .returned (.int .i64 0) ∧ w.grownBy w' none := by
  go_enter Try.func10, Try.ntmps10
  go_wp2_with fail
  refine (no_none _ _ h).mono ?_
  rintro e w1 ⟨rfl, hg⟩
  go_wp2_with fail
  go_ret
  exact ⟨rfl, hg⟩

set_option maxHeartbeats 400000 in
theorem no_all (p : Option Addr) (w : World) (h : NoH w p) :
    Calls Try.prog 20 #[.pointer p] w fun e w' => e = .returned (.slice none 0 0) ∧ w.grownBy w' none := by
  go_enter Try.func20, Try.ntmps20
  go_wp2_with fail
  refine (no_none _ _ h).mono ?_
  rintro e w1 ⟨rfl, hg⟩
  go_wp2_with fail
  go_ret
  exact ⟨rfl, hg⟩

set_option maxHeartbeats 400000 in
theorem no_fork (p : Option Addr) (w : World) (h : NoH w p) :
    Calls Try.prog 14 #[.pointer p] w fun e w' => e = .returned (.pointer none) ∧ w.grownBy w' none := by
  go_enter Try.func14, Try.ntmps14
  go_wp2_with fail
  refine (no_none _ _ h).mono ?_
  rintro e w1 ⟨rfl, hg⟩
  go_wp2_with fail
  go_ret
  exact ⟨rfl, hg⟩

set_option maxHeartbeats 400000 in
theorem no_last (p : Option Addr) (w : World) (h : NoH w p) :
    Calls Try.prog 17 #[.pointer p] w fun e w' => e = .returned (.tuple #[.agg #[.int .i64 0, .int .i64 0], .bool false]) ∧ w.grownBy w' none := by
  have g0 := g_alloc (g_refl w none) (.cells #[.int .i64 0, .int .i64 0] 34)
  have hn := Blk.new w #[.int .i64 0, .int .i64 0] 34
  go_enter Try.func17, Try.ntmps17
  go_wp2_with fail
  refine (no_none _ _ (h.keep g0)).mono ?_
  rintro e w1 ⟨rfl, hg⟩
  have hb := hn.keepn hg
  have z0 := hb.cell 0 (.int .i64 0) rfl
  have z1 := hb.cell 1 (.int .i64 0) rfl
  have f0 := hb.free 0
  have f1 := hb.free 1
  have HB0 := Lib.hid hb
  clear hb hn
  go_wp2_with fail
  have hF := ((HB0.out.set 0 (.int .i64 0)).set 1 (.int .i64 0))
  have k0 := hF.cell 0 (.int .i64 0) (by simp)
  have k1 := hF.cell 1 (.int .i64 0) (by simp)
  exact bodyPost_ret (v := .tuple #[.agg #[.int .i64 0, .int .i64 0], .bool false]) (by simp [results, Try.results17, go_sem, k0, k1]) rfl ⟨rfl, g_two (g_trans g0 hg) (Nat.le_refl _)⟩

set_option maxHeartbeats 400000 in
theorem no_take (p : Option Addr) (w : World) (h : NoH w p) :
    Calls Try.prog 11 #[.pointer p] w fun e w' => e = .returned (.tuple #[.agg #[.int .i64 0, .int .i64 0], .bool false]) ∧ w.grownBy w' none := by
  have g0 := g_alloc (g_refl w none) (.cells #[.int .i64 0, .int .i64 0] 34)
  have hn := Blk.new w #[.int .i64 0, .int .i64 0] 34
  go_enter Try.func11, Try.ntmps11
  go_wp2_with fail
  refine (no_none _ _ (h.keep g0)).mono ?_
  rintro e w1 ⟨rfl, hg⟩
  have hb := hn.keepn hg
  have z0 := hb.cell 0 (.int .i64 0) rfl
  have z1 := hb.cell 1 (.int .i64 0) rfl
  have f0 := hb.free 0
  have f1 := hb.free 1
  have HB0 := Lib.hid hb
  clear hb hn
  go_wp2_with fail
  have hF := ((HB0.out.set 0 (.int .i64 0)).set 1 (.int .i64 0))
  have k0 := hF.cell 0 (.int .i64 0) (by simp)
  have k1 := hF.cell 1 (.int .i64 0) (by simp)
  exact bodyPost_ret (v := .tuple #[.agg #[.int .i64 0, .int .i64 0], .bool false]) (by simp [results, Try.results11, go_sem, k0, k1]) rfl ⟨rfl, g_two (g_trans g0 hg) (Nat.le_refl _)⟩

set_option maxRecDepth 100000 in
set_option maxHeartbeats 1600000 in
theorem walk_HeldOwn (a0_0 : Int) (a0_1 : Int) (a0_2 : Int) (w : World) (w0_0 : (Lit.int .u8 a0_0).wf = true) (w0_1 : (Lit.int .i64 a0_1).wf = true) (w0_2 : (Lit.int .i64 a0_2).wf = true) :
    Calls Try.prog 5 #[.agg #[.int .u8 a0_0, .int .i64 a0_1, .int .i64 a0_2]] w fun e w' => e = .returned (.bool true) ∧ Below w.heap.size w w' := by
  go_enter Try.func5, Try.ntmps5
  go_wp2_with fail
  have hg : w.grownBy (((w.alloc (.cells #[.int .u8 a0_0, .int .i64 a0_1, .int .i64 a0_2] 43)).alloc (.cells #[.slice none 0 0, .bool false] 56)).alloc (.cells #[.pointer none, .pointer (some ⟨w.heap.size + 1, 0, none⟩)] 24)) none := g_alloc (g_alloc (g_alloc (g_refl _ _) _) _) _
  have ho : Blk (((w.alloc (.cells #[.int .u8 a0_0, .int .i64 a0_1, .int .i64 a0_2] 43)).alloc (.cells #[.slice none 0 0, .bool false] 56)).alloc (.cells #[.pointer none, .pointer (some ⟨w.heap.size + 1, 0, none⟩)] 24)) w.heap.size #[.int .u8 a0_0, .int .i64 a0_1, .int .i64 a0_2] 43 := (Blk.new w _ 43).keepn (g_alloc (g_alloc (g_refl _ _) _) _)
  have hn : NoH (((w.alloc (.cells #[.int .u8 a0_0, .int .i64 a0_1, .int .i64 a0_2] 43)).alloc (.cells #[.slice none 0 0, .bool false] 56)).alloc (.cells #[.pointer none, .pointer (some ⟨w.heap.size + 1, 0, none⟩)] 24)) (some ⟨w.heap.size + 1, 0, none⟩) := by
    have h1 := (Blk.new (w.alloc (.cells #[.int .u8 a0_0, .int .i64 a0_1, .int .i64 a0_2] 43)) #[.slice none 0 0, .bool false] 56).keepn (g_alloc (g_refl _ none) (.cells #[.pointer none, .pointer (some ⟨w.heap.size + 1, 0, none⟩)] 24))
    have h2 := h1.cell 1 (.bool false) rfl
    exact .inr ⟨_, rfl, by simpa using h2⟩
  have hl : Blk (((w.alloc (.cells #[.int .u8 a0_0, .int .i64 a0_1, .int .i64 a0_2] 43)).alloc (.cells #[.slice none 0 0, .bool false] 56)).alloc (.cells #[.pointer none, .pointer (some ⟨w.heap.size + 1, 0, none⟩)] 24)) (w.heap.size + 1 + 1) #[.pointer none, .pointer (some ⟨w.heap.size + 1, 0, none⟩)] 24 := by
    have := Blk.new ((w.alloc (.cells #[.int .u8 a0_0, .int .i64 a0_1, .int .i64 a0_2] 43)).alloc (.cells #[.slice none 0 0, .bool false] 56)) #[.pointer none, .pointer (some ⟨w.heap.size + 1, 0, none⟩)] 24
    simpa using this
  generalize (((w.alloc (.cells #[.int .u8 a0_0, .int .i64 a0_1, .int .i64 a0_2] 43)).alloc (.cells #[.slice none 0 0, .bool false] 56)).alloc (.cells #[.pointer none, .pointer (some ⟨w.heap.size + 1, 0, none⟩)] 24)) = W at hg ho hn hl ⊢
  have HL := Lib.hid hl
  have HN := Lib.hid hn
  have HO := Lib.hid ho
  clear hl hn ho
  go_loopw [5] (fun i wr => ∃ k : Nat, k ≤ 2 ∧ i = .int .i64 k ∧ W.grownBy wr none) (fun i _ => (300 - intOf i).toNat)
  case atStart => exact ⟨0, by omega, rfl, g_refl _ _⟩
  case round =>
    obtain ⟨k, hk, rfl, hgr⟩ := hrel
    by_cases hlt : k < 2
    · obtain ⟨p, hp, hc⟩ : ∃ p, NoH wr p ∧ wr.cell? ⟨w.heap.size + 1 + 1, k, none⟩ = some (.pointer p) := by
        have hlr := HL.out.keepn hgr
        match k, hlt with
        | 0, _ => exact ⟨none, .inl rfl, hlr.cell 0 _ rfl⟩
        | 1, _ => exact ⟨_, HN.out.keep hgr, hlr.cell 1 _ rfl⟩
      have HP := Lib.hid hp
      clear hp
      go_wp2_with fail
      refine (no_clear _ _ HP.out).mono ?_
      rintro e w1 ⟨rfl, hg1⟩
      have o1 := (HO.out.keepn (g_trans hgr hg1)).cell 1 (.int .i64 a0_1) rfl
      have HP1 := Lib.hid (HP.out.keep hg1)
      go_wp2_with fail
      refine (no_has _ _ HP1.out _).mono ?_
      rintro e w2 ⟨rfl, hg2⟩
      have HP2 := Lib.hid (HP1.out.keep hg2)
      go_wp2_with fail
      refine (no_last _ _ HP2.out).mono ?_
      rintro e w3 ⟨rfl, hg3⟩
      have g3 := g_alloc (g_refl w3 none) (.cells #[.int .i64 0, .int .i64 0] 34)
      have hx := Blk.new w3 #[.int .i64 0, .int .i64 0] 34
      have HP3 := Lib.hid ((HP2.out.keep hg3).keep g3)
      go_wp2_with fail
      refine (no_take _ _ HP3.out).mono ?_
      rintro e w4 ⟨rfl, hg4⟩
      have g4 := g_alloc (g_refl w4 none) (.cells #[.int .i64 0, .int .i64 0] 34)
      have hy := Blk.new w4 #[.int .i64 0, .int .i64 0] 34
      have HP4 := Lib.hid ((HP3.out.keep hg4).keep g4)
      have hx4 := (hx.keepn hg4).keepn g4
      have gA := g_trans (g_trans (g_trans (g_trans (g_trans (g_trans hgr hg1) hg2) hg3) g3) hg4) g4
      have o4 := (HO.out.keepn gA).cell 1 (.int .i64 a0_1) rfl
      have o5 := (HO.out.keepn gA).cell 2 (.int .i64 a0_2) rfl
      go_wp2_with fail
      refine (no_add _ _ HP4.out _ _).mono ?_
      rintro e w5 ⟨rfl, hg5⟩
      have x0 := (hx4.keepn hg5).cell 0 (.int .i64 0) rfl
      have x1 := (hx4.keepn hg5).cell 1 (.int .i64 0) rfl
      have y0 := (hy.keepn hg5).cell 0 (.int .i64 0) rfl
      have y1 := (hy.keepn hg5).cell 1 (.int .i64 0) rfl
      have HP5 := Lib.hid (HP4.out.keep hg5)
      go_wp2_with fail
      refine (no_all _ _ HP5.out).mono ?_
      rintro e w6 ⟨rfl, hg6⟩
      have HP6 := Lib.hid (HP5.out.keep hg6)
      go_wp2_with fail
      refine (no_len _ _ HP6.out).mono ?_
      rintro e w7 ⟨rfl, hg7⟩
      have HP7 := Lib.hid (HP6.out.keep hg7)
      go_wp2_with fail
      refine (no_fork _ _ HP7.out).mono ?_
      rintro e w8 ⟨rfl, hg8⟩
      have gB := g_trans (g_trans (g_trans (g_trans gA hg5) hg6) hg7) hg8
      clear HP HP1 HP2 HP3 HP4 HP5 HP6 HP7 gA hg1 hg2 hg3 hg4 hg5 hg6 hg7 hg8
      go_wp2_with fail
      go_roundw
      case rel => exact ⟨k + 1, by omega, by go_num, gB⟩
      case measure => simp [intOf]; omega
    · go_wp2_with fail
      refine (new_fr _).mono ?_
      rintro e w9 ⟨rfl, h9, hg9⟩
      have l9 := h9.lt
      have s9 := hg9.size
      have gW := g_trans hg hgr
      have sW := gW.size
      have ea : addR [] 1 2 = 0 := by decide
      have el : addL [] 1 2 = [(1, 2)] := by decide
      have H9 := Lib.hid h9
      clear h9
      go_wp2_with fail
      refine (add_fr _ _ _ _ H9.out _ _ (by simp) (Nat.le_refl _) s9).mono ?_
      rw [ea, el]
      rintro e w10 ⟨rfl, h10, f10⟩
      have s10 := f10.size
      have H10 := Lib.hid h10
      have F10 := Lib.hid f10
      clear h10 f10
      go_wp2_with fail
      refine (all_any _ _ _ _ H10.out (by simp)).mono ?_
      rintro e w11 ⟨v, rfl, ho11, hg11⟩
      obtain ⟨g, cap, cur, rfl, hgb, hgh, hcap, hcap2, hcs⟩ : ∃ g cap cur, v = .slice (some ⟨g, 0, none⟩) 1 cap ∧ w10.heap.size ≤ g ∧ w11.heap[g]? = some (.cells cur 34 (0, 0)) ∧ 1 ≤ cap ∧ cap ≤ maxLen ∧ cur.size = cap * 2 := by
        rcases ho11.2 with ⟨_, e0⟩ | ⟨g, cap, cur, e1, e2, e3, e4, e5, e6, _⟩
        · simp at e0
        · exact ⟨g, cap, cur, e1, e2, e3, e4, e5, e6⟩
      have hbg : Blk w11 g cur 34 := hgh
      have c0 := hbg.cell 0 (cur[0]'(by omega)) (by simp)
      have c1 := hbg.cell 1 (cur[1]'(by omega)) (by simp)
      have f0 := hbg.free 0
      have f1 := hbg.free 1
      have H11 := Lib.hid (H10.out.keep hg11)
      clear ho11 hgh hbg
      have kk : w11.grownBy ((w11.setCell ⟨g, 0, none⟩ (.int .i64 0)).setCell ⟨g, 1, none⟩ (.int .i64 0)) (some g) := g_set (g_set (g_refl w11 (some g)) (p := ⟨g, 0, none⟩) (.inl rfl) _) (p := ⟨g, 1, none⟩) (.inl rfl) _
      have h12 := (H10.out.strict.keep hg11).tr (tr_gs (S := fun i => i = g) kk (fun _ => rfl)) (by omega) (fun i _ hi => by have := hi.2; omega)
      have H12 := Lib.hid h12
      have KK := Lib.hid kk
      clear h12 kk
      go_wp2_with fail
      refine wp_loop_rounds 2 ?_
      rw [rounds_succ]
      go_wp2_with fail
      rw [rounds_succ]
      go_wp2_with fail
      refine (has_any _ _ _ _ H12.out _).mono ?_
      have ev : lastV [(1, 2)] 1 = some 2 := by decide
      rw [ev]
      rintro e w13 ⟨rfl, hg13⟩
      go_wp2_with fail
      refine (awake_any _).mono ?_
      rintro e w14 ⟨rfl, hg14⟩
      go_wp2_with fail
      go_ret
      have b9 := below_gn (below_gn (Below.refl w.heap.size w) gW (Nat.le_refl _)) hg9 (by omega)
      have b10 := F10.out.below b9 (by omega) (fun i hi e => by omega)
      have b11 := below_gs (below_gn b10 hg11 (by omega)) KK.out (by have := hg11.size; omega) (by omega)
      have b13 := below_gn b11 hg13 (by have := b11.size; omega)
      exact ⟨rfl, below_gn b13 hg14 (by have := b13.size; omega)⟩
end Go.Proofs.Ytgfpmmiaidnfeaa
