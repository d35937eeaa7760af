/- The law EpochNobody: slots that nobody made. -/
import Derived.Test.YtaggoepiandblaaC
import Derived.Test.YtaggoepiandblaaShapes
namespace Go.Proofs.Ytaggoepiandblaa
open Go.RowKit
set_option linter.unusedVariables false

/-- no slots: nil, or none -/
def NoSl (w : World) (p : Option Addr) : Prop := p = none ∨ ∃ b, p = some ⟨b, 0, none⟩ ∧ w.cell? ⟨b, 64, none⟩ = some (.int .i64 0)
theorem NoSl.keep {w w' : World} {p : Option Addr} (h : NoSl w p) (g : w.grownBy w' none) : NoSl w' p := by
  rcases h with rfl | ⟨b, rfl, h0⟩
  · exact .inl rfl
  · exact .inr ⟨b, rfl, g.cell h0 (by simp)⟩

set_option maxHeartbeats 400000 in
theorem no_len (p : Option Addr) (w : World) (h : NoSl w p) :
    Calls Try.prog 19 #[.pointer p] w fun e w' => e = .returned (.int .i64 0) ∧ w.grownBy w' none := by
  rcases h with rfl | ⟨b, rfl, h0⟩
  · go_enter Try.func19, Try.ntmps19
    go_wp2
    go_ret
    exact ⟨rfl, g_refl _ _⟩
  · go_enter Try.func19, Try.ntmps19
    go_wp2
    go_ret
    exact ⟨rfl, g_refl _ _⟩

set_option maxHeartbeats 400000 in
theorem no_at (p : Option Addr) (w : World) (h : NoSl w p) (t : Int) :
    Calls Try.prog 20 #[.pointer p, .int .i64 t] w fun e w' => e = .returned (.int .i64 0) ∧ w.grownBy w' none := by
  by_cases h0 : t < 0
  · go_enter Try.func20, Try.ntmps20
    go_wp2
    go_ret
    exact ⟨rfl, g_refl _ _⟩
  · have h1 : (0 : Int) ≤ t := by omega
    go_enter Try.func20, Try.ntmps20
    go_wp2_with fail
    refine (no_len _ _ h).mono ?_
    rintro e w1 ⟨rfl, hg⟩
    go_wp2_with fail
    go_ret
    exact ⟨rfl, hg⟩

set_option maxHeartbeats 400000 in
theorem no_in (p : Option Addr) (w : World) (h : NoSl w p) (t : Int) :
    Calls Try.prog 11 #[.pointer p, .int .i64 t] w fun e w' => e = .returned (.bool false) ∧ w.grownBy w' none := by
  go_enter Try.func11, Try.ntmps11
  go_wp2_with fail
  refine (no_at _ _ h _).mono ?_
  rintro e w1 ⟨rfl, hg⟩
  go_wp2_with fail
  go_ret
  exact ⟨rfl, hg⟩

set_option maxHeartbeats 400000 in
theorem no_turn (p : Option Addr) (w : World) (h : NoSl w p) (t : Int) (i : Bool) :
    Calls Try.prog 23 #[.pointer p, .int .i64 t, .bool i] w fun e w' => e = .returned (.int .i64 4) ∧ w.grownBy w' none := by
  go_enter Try.func23, Try.ntmps23
  go_wp2_with fail
  refine (no_len _ _ h).mono ?_
  rintro e w1 ⟨rfl, hg⟩
  go_wp2_with fail
  go_ret
  exact ⟨rfl, hg⟩

set_option maxHeartbeats 400000 in
theorem no_enter (p : Option Addr) (w : World) (h : NoSl w p) (t : Int) :
    Calls Try.prog 8 #[.pointer p, .int .i64 t] w fun e w' => e = .returned (.int .i64 4) ∧ w.grownBy w' none := by
  go_enter Try.func8, Try.ntmps8
  go_wp2_with fail
  refine (no_turn _ _ h _ _).mono ?_
  rintro e w1 ⟨rfl, hg⟩
  go_wp2_with fail
  go_ret
  exact ⟨rfl, hg⟩

set_option maxHeartbeats 400000 in
theorem no_leave (p : Option Addr) (w : World) (h : NoSl w p) (t : Int) :
    Calls Try.prog 9 #[.pointer p, .int .i64 t] w fun e w' => e = .returned (.int .i64 4) ∧ w.grownBy w' none := by
  go_enter Try.func9, Try.ntmps9
  go_wp2_with fail
  refine (no_turn _ _ h _ _).mono ?_
  rintro e w1 ⟨rfl, hg⟩
  go_wp2_with fail
  go_ret
  exact ⟨rfl, hg⟩

set_option maxHeartbeats 400000 in
theorem no_snap (p : Option Addr) (w : World) (h : NoSl w p) :
    Calls Try.prog 10 #[.pointer p] w fun e w' => e = .returned (.slice none 0 0) ∧ w.grownBy w' none := by
  go_enter Try.func10, Try.ntmps10
  go_wp2_with fail
  refine (no_len _ _ h).mono ?_
  rintro e w1 ⟨rfl, hg⟩
  go_wp2_with fail
  refine wp_loop_rounds 1 ?_
  rw [rounds_succ]
  go_wp2_with fail
  go_ret
  exact ⟨rfl, hg⟩

set_option maxHeartbeats 400000 in
theorem no_passed (p : Option Addr) (w : World) (h : NoSl w p) (t : Int) :
    Calls Try.prog 12 #[.pointer p, .int .i64 t, .slice none 0 0] w fun e w' => e = .returned (.bool false) ∧ w.grownBy w' none := by
  go_enter Try.func12, Try.ntmps12
  go_wp2_with fail
  refine (no_len _ _ h).mono ?_
  rintro e w1 ⟨rfl, hg⟩
  go_wp2_with fail
  go_ret
  exact ⟨rfl, hg⟩

set_option maxHeartbeats 400000 in
theorem no_fork (p : Option Addr) (w : World) (h : NoSl w p) :
    Calls Try.prog 17 #[.pointer p] w fun e w' => e = .returned (.pointer none) ∧ w.grownBy w' none := by
  go_enter Try.func17, Try.ntmps17
  go_wp2_with fail
  refine (no_len _ _ h).mono ?_
  rintro e w1 ⟨rfl, hg⟩
  go_wp2_with fail
  go_ret
  exact ⟨rfl, hg⟩

set_option maxHeartbeats 800000 in
theorem walk_EpochNobody (a0_0 : Int) (a0_1 : Int) (a0_2 : Option Addr) (a0_2n : Nat) (a0_2c : Nat) (w : World) (w0_0 : (Lit.int .i64 a0_0).wf = true) (w0_1 : (Lit.int .i64 a0_1).wf = true) (w0_2 : Vec w a0_2 a0_2n a0_2c 1 (Q3)) :
    Calls Try.prog 5 #[.agg #[.int .i64 a0_0, .int .i64 a0_1, .slice a0_2 a0_2n a0_2c]] w fun e w' => e = .returned (.bool true) ∧ Below w.heap.size w w' := by
  have hz := zero57
  go_enter Try.func5, Try.ntmps5
  go_wp2_with fail
  have hg : w.grownBy (((w.alloc (.cells #[.int .i64 a0_0, .int .i64 a0_1, .slice a0_2 a0_2n a0_2c] 30)).alloc (.cells zeros 57)).alloc (.cells #[.pointer none, .pointer (some ⟨w.heap.size + 1, 0, none⟩)] 23)) none := g_alloc (g_alloc (g_alloc (g_refl _ _) _) _) _
  have ho : Blk (((w.alloc (.cells #[.int .i64 a0_0, .int .i64 a0_1, .slice a0_2 a0_2n a0_2c] 30)).alloc (.cells zeros 57)).alloc (.cells #[.pointer none, .pointer (some ⟨w.heap.size + 1, 0, none⟩)] 23)) w.heap.size #[.int .i64 a0_0, .int .i64 a0_1, .slice a0_2 a0_2n a0_2c] 30 := (Blk.new w _ 30).keepn (g_alloc (g_alloc (g_refl _ _) _) _)
  have hn : NoSl (((w.alloc (.cells #[.int .i64 a0_0, .int .i64 a0_1, .slice a0_2 a0_2n a0_2c] 30)).alloc (.cells zeros 57)).alloc (.cells #[.pointer none, .pointer (some ⟨w.heap.size + 1, 0, none⟩)] 23)) (some ⟨w.heap.size + 1, 0, none⟩) := by
    have h1 := (Blk.new (w.alloc (.cells #[.int .i64 a0_0, .int .i64 a0_1, .slice a0_2 a0_2n a0_2c] 30)) zeros 57).keepn (g_alloc (g_refl _ none) (.cells #[.pointer none, .pointer (some ⟨w.heap.size + 1, 0, none⟩)] 23))
    have h2 := h1.cell 64 (.int .i64 0) (by unfold zeros; simp)
    exact .inr ⟨_, rfl, by simpa using h2⟩
  have hl : Blk (((w.alloc (.cells #[.int .i64 a0_0, .int .i64 a0_1, .slice a0_2 a0_2n a0_2c] 30)).alloc (.cells zeros 57)).alloc (.cells #[.pointer none, .pointer (some ⟨w.heap.size + 1, 0, none⟩)] 23)) (w.heap.size + 1 + 1) #[.pointer none, .pointer (some ⟨w.heap.size + 1, 0, none⟩)] 23 := by
    have := Blk.new ((w.alloc (.cells #[.int .i64 a0_0, .int .i64 a0_1, .slice a0_2 a0_2n a0_2c] 30)).alloc (.cells zeros 57)) #[.pointer none, .pointer (some ⟨w.heap.size + 1, 0, none⟩)] 23
    simpa using this
  generalize (((w.alloc (.cells #[.int .i64 a0_0, .int .i64 a0_1, .slice a0_2 a0_2n a0_2c] 30)).alloc (.cells zeros 57)).alloc (.cells #[.pointer none, .pointer (some ⟨w.heap.size + 1, 0, none⟩)] 23)) = W at hg ho hn hl ⊢
  have HL := Lib.hid hl
  have HN := Lib.hid hn
  have HO := Lib.hid ho
  clear hl hn ho hz
  go_loopw [11] (fun i wr => ∃ k : Nat, k ≤ 2 ∧ i = .int .i64 k ∧ W.grownBy wr none) (fun i _ => (300 - intOf i).toNat)
  case atStart => exact ⟨0, by omega, rfl, g_refl _ _⟩
  case round =>
    obtain ⟨k, hk, rfl, hgr⟩ := hrel
    by_cases hlt : k < 2
    · obtain ⟨p, hp, hc⟩ : ∃ p, NoSl wr p ∧ wr.cell? ⟨w.heap.size + 1 + 1, k, none⟩ = some (.pointer p) := by
        have hlr := HL.out.keepn hgr
        match k, hlt with
        | 0, _ => exact ⟨none, .inl rfl, hlr.cell 0 _ rfl⟩
        | 1, _ => exact ⟨_, HN.out.keep hgr, hlr.cell 1 _ rfl⟩
      have HP := Lib.hid hp
      clear hp
      have hor := HO.out.keepn hgr
      obtain ⟨wo, hwo⟩ : ∃ wo : World, wo = wr := ⟨_, rfl⟩
      rw [← hwo] at HP hgr hc hor ⊢
      clear hwo
      have HR := Lib.hid hor
      clear hor
      go_wp2_with fail
      have q0 := fun x : GW wo => x.cell (HR.out.cell 1 _ rfl)
      refine wp_region_gw (by kernel_rfl) (by kernel_rfl) ?_
      repeat (go_big_quiet_step ((first | (go_at_call 8; exact quiet_g (no_enter _ _ (HP.out.keep (GW.g _)) _)) | (go_at_call 9; exact quiet_g (no_leave _ _ (HP.out.keep (GW.g _)) _)) | (go_at_call 19; exact quiet_g (no_len _ _ (HP.out.keep (GW.g _)))) | (go_at_call 20; exact quiet_g (no_at _ _ (HP.out.keep (GW.g _)) _)) | (go_at_call 10; exact quiet_g (no_snap _ _ (HP.out.keep (GW.g _)))) | (go_at_call 11; exact quiet_g (no_in _ _ (HP.out.keep (GW.g _)) _)) | (go_at_call 12; exact quiet_g (no_passed _ _ (HP.out.keep (GW.g _)) _)) | (go_at_call 17; exact quiet_g (no_fork _ _ (HP.out.keep (GW.g _)))))))
      refine wpQuiet_nil ?_
      intro _ hw'
      obtain ⟨x, hw''⟩ := hw'
      subst hw''
      clear q0
      go_wp2_with fail
      go_roundw
      case rel => exact ⟨k + 1, by omega, by go_num, g_trans hgr x.g⟩
      case measure => simp [intOf]; omega
    · go_wp2_with fail
      refine (awake_any _).mono ?_
      rintro e w4 ⟨rfl, hg4⟩
      go_wp2_with fail
      go_ret
      exact ⟨rfl, below_gn (Below.refl _ _) (g_trans hg (g_trans hgr hg4)) (Nat.le_refl _)⟩
end Go.Proofs.Ytaggoepiandblaa
