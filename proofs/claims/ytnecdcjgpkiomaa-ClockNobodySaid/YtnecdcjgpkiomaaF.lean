/- The law ClockNobody: clocks that nobody made. -/
import Derived.Test.YtnecdcjgpkiomaaB
namespace Go.Proofs.Ytnecdcjgpkiomaa
open Go.RowKit

/-- no clock: nil, or one whose limit is 0 -/
def NoClk (w : World) (p : Option Addr) : Prop := p = none ∨ ∃ b, p = some ⟨b, 0, none⟩ ∧ w.cell? ⟨b, 0, none⟩ = some (.int .i64 0)

set_option maxHeartbeats 400000 in
theorem none_yes (p : Option Addr) (w : World) (h : NoClk w p) :
    Calls Try.prog 21 #[.pointer p] w fun e w' => e = .returned (.bool true) ∧ w.grownBy w' none := by
  rcases h with rfl | ⟨b, rfl, h0⟩
  · go_enter Try.func21, Try.ntmps21
    go_wp2
    go_ret
    exact ⟨rfl, g_refl _ _⟩
  · go_enter Try.func21, Try.ntmps21
    go_wp2
    go_ret
    exact ⟨rfl, g_refl _ _⟩

set_option maxHeartbeats 400000 in
theorem no_next (p : Option Addr) (w : World) (h : NoClk w p) :
    Calls Try.prog 11 #[.pointer p] w fun e w' => e = .returned (.int .i64 0) ∧ w.grownBy w' none := by
  go_enter Try.func11, Try.ntmps11
  go_wp2_with fail
  refine (none_yes _ _ h).mono ?_
  rintro e w1 ⟨rfl, hg⟩
  go_wp2_with fail
  go_ret
  exact ⟨rfl, hg⟩

set_option maxHeartbeats 400000 in
theorem no_now (p : Option Addr) (w : World) (h : NoClk w p) :
    Calls Try.prog 12 #[.pointer p] w fun e w' => e = .returned (.int .i64 0) ∧ w.grownBy w' none := by
  go_enter Try.func12, Try.ntmps12
  go_wp2_with fail
  refine (none_yes _ _ h).mono ?_
  rintro e w1 ⟨rfl, hg⟩
  go_wp2_with fail
  go_ret
  exact ⟨rfl, hg⟩

set_option maxHeartbeats 400000 in
theorem no_last (p : Option Addr) (w : World) (h : NoClk w p) :
    Calls Try.prog 13 #[.pointer p] w fun e w' => e = .returned (.int .i64 0) ∧ w.grownBy w' none := by
  go_enter Try.func13, Try.ntmps13
  go_wp2_with fail
  refine (none_yes _ _ h).mono ?_
  rintro e w1 ⟨rfl, hg⟩
  go_wp2_with fail
  go_ret
  exact ⟨rfl, hg⟩

set_option maxHeartbeats 400000 in
theorem no_stamp (p : Option Addr) (w : World) (h : NoClk w p) :
    Calls Try.prog 14 #[.pointer p] w fun e w' => e = .returned (.int .i64 0) ∧ w.grownBy w' none := by
  go_enter Try.func14, Try.ntmps14
  go_wp2_with fail
  refine (none_yes _ _ h).mono ?_
  rintro e w1 ⟨rfl, hg⟩
  go_wp2_with fail
  go_ret
  exact ⟨rfl, hg⟩

set_option maxHeartbeats 400000 in
theorem no_left (p : Option Addr) (w : World) (h : NoClk w p) :
    Calls Try.prog 10 #[.pointer p] w fun e w' => e = .returned (.int .i64 0) ∧ w.grownBy w' none := by
  go_enter Try.func10, Try.ntmps10
  go_wp2_with fail
  refine (none_yes _ _ h).mono ?_
  rintro e w1 ⟨rfl, hg⟩
  go_wp2_with fail
  go_ret
  exact ⟨rfl, hg⟩

set_option maxHeartbeats 400000 in
theorem no_fork (p : Option Addr) (w : World) (h : NoClk w p) :
    Calls Try.prog 18 #[.pointer p] w fun e w' => e = .returned (.pointer none) ∧ w.grownBy w' none := by
  go_enter Try.func18, Try.ntmps18
  go_wp2_with fail
  refine (none_yes _ _ h).mono ?_
  rintro e w1 ⟨rfl, hg⟩
  go_wp2_with fail
  go_ret
  exact ⟨rfl, hg⟩

theorem NoClk.keep {w w' : World} {p : Option Addr} (h : NoClk w p) (g : w.grownBy w' none) : NoClk w' p := by
  rcases h with rfl | ⟨b, rfl, h0⟩
  · exact .inl rfl
  · exact .inr ⟨b, rfl, g.cell h0 (by simp)⟩

set_option maxHeartbeats 400000 in
theorem no_full (p : Option Addr) (w : World) (h : NoClk w p) :
    Calls Try.prog 9 #[.pointer p] w fun e w' => e = .returned (.bool true) ∧ w.grownBy w' none := by
  go_enter Try.func9, Try.ntmps9
  go_wp2_with fail
  refine wp_region_gw (by kernel_rfl) (by kernel_rfl) ?_
  repeat (go_big_quiet_step ((first | (go_at_call 21; exact quiet_g (none_yes _ _ (h.keep (GW.g _)))))))
  refine wpQuiet_nil ?_
  intro _ hw'
  obtain ⟨x, hw''⟩ := hw'
  subst hw''
  go_wp2_with fail
  go_ret
  exact ⟨rfl, x.g⟩

set_option maxHeartbeats 800000 in
theorem walk_ClockNobody (a0 : Int) (w : World) (w0 : (Lit.int .u8 a0).wf = true) :
    Calls Try.prog 6 #[.int .u8 a0] w fun e w' => e = .returned (.bool true) ∧ Below w.heap.size w w' := by
  have hx : 0 ≤ a0 ∧ a0 ≤ 255 := by simpa [Lit.wf, IntKind.min, IntKind.max, IntKind.signed, IntKind.bits] using w0
  clear w0
  obtain ⟨ha, hb⟩ := hx
  go_enter Try.func6, Try.ntmps6
  go_wp2_with fail
  have hg : w.grownBy ((w.alloc (.cells #[.int .i64 0, .int .i64 0, .int .i64 0] 48)).alloc (.cells #[.pointer none, .pointer (some ⟨w.heap.size, 0, none⟩)] 22)) none := g_alloc (g_alloc (g_refl _ _) _) _
  have hn : NoClk ((w.alloc (.cells #[.int .i64 0, .int .i64 0, .int .i64 0] 48)).alloc (.cells #[.pointer none, .pointer (some ⟨w.heap.size, 0, none⟩)] 22)) (some ⟨w.heap.size, 0, none⟩) :=
    .inr ⟨_, rfl, (Blk.keepn (Blk.new w #[.int .i64 0, .int .i64 0, .int .i64 0] 48) (g_alloc (g_refl _ _) _)).cell 0 _ rfl⟩
  have hl : Blk ((w.alloc (.cells #[.int .i64 0, .int .i64 0, .int .i64 0] 48)).alloc (.cells #[.pointer none, .pointer (some ⟨w.heap.size, 0, none⟩)] 22)) (w.heap.size + 1) #[.pointer none, .pointer (some ⟨w.heap.size, 0, none⟩)] 22 := by
    have := Blk.new (w.alloc (.cells #[.int .i64 0, .int .i64 0, .int .i64 0] 48)) #[.pointer none, .pointer (some ⟨w.heap.size, 0, none⟩)] 22
    simpa using this
  generalize ((w.alloc (.cells #[.int .i64 0, .int .i64 0, .int .i64 0] 48)).alloc (.cells #[.pointer none, .pointer (some ⟨w.heap.size, 0, none⟩)] 22)) = W at hg hn hl ⊢
  have HL := Lib.hid hl
  have HN := Lib.hid hn
  clear hl hn
  go_loopw [5] (fun i wr => ∃ k : Nat, k ≤ 2 ∧ i = .int .i64 k ∧ W.grownBy wr none) (fun i _ => (300 - intOf i).toNat)
  case atStart => exact ⟨0, by omega, rfl, g_refl _ _⟩
  case round =>
    obtain ⟨k, hk, rfl, hgr⟩ := hrel
    by_cases hlt : k < 2
    · obtain ⟨p, hp, hc⟩ : ∃ p, NoClk wr p ∧ wr.cell? ⟨w.heap.size + 1, k, none⟩ = some (.pointer p) := by
        have hlr := HL.out.keepn hgr
        match k, hlt with
        | 0, _ => exact ⟨none, .inl rfl, hlr.cell 0 _ rfl⟩
        | 1, _ => exact ⟨_, HN.out.keep hgr, hlr.cell 1 _ rfl⟩
      have HP := Lib.hid hp
      clear hp
      have hd : decide ((k : Int) < 2) = true := by simp; omega
      go_wp2_with fail
      clear hd
      clear hc
      obtain ⟨wo, hwo⟩ : ∃ wo : World, wo = wr := ⟨_, rfl⟩
      rw [← hwo] at HP hgr ⊢
      clear hwo
      go_loopw [7] (fun i wr => ∃ m : Nat, (m : Int) ≤ a0 % 4 ∧ i = .int .i64 m ∧ wo.grownBy wr none) (fun i _ => (300 - intOf i).toNat)
      case atStart => exact ⟨0, by omega, rfl, g_refl _ _⟩
      case round =>
        obtain ⟨m, hm, rfl, hgm⟩ := hrel
        by_cases hlt2 : (m : Int) < a0 % 4
        · go_wp2_with fail
          refine (no_next _ _ (HP.out.keep hgm)).mono ?_
          rintro e w4 ⟨rfl, hg4⟩
          go_wp2_with fail
          go_roundw
          case rel => exact ⟨m + 1, by omega, by go_num, g_trans hgm hg4⟩
          case measure => simp [intOf]; omega
        · go_wp2_with fail
          refine (no_next _ _ (HP.out.keep hgm)).mono ?_
          rintro e w5 ⟨rfl, hg5⟩
          have ht5 := g_trans hgm hg5
          go_wp2_with fail
          refine (no_now _ _ (HP.out.keep ht5)).mono ?_
          rintro e w6 ⟨rfl, hg6⟩
          have ht6 := g_trans ht5 hg6
          go_wp2_with fail
          refine (no_stamp _ _ (HP.out.keep ht6)).mono ?_
          rintro e w7 ⟨rfl, hg7⟩
          have ht7 := g_trans ht6 hg7
          go_wp2_with fail
          refine (no_last _ _ (HP.out.keep ht7)).mono ?_
          rintro e w8 ⟨rfl, hg8⟩
          have ht8 := g_trans ht7 hg8
          go_wp2_with fail
          refine (no_left _ _ (HP.out.keep ht8)).mono ?_
          rintro e w9 ⟨rfl, hg9⟩
          have ht9 := g_trans ht8 hg9
          go_wp2_with fail
          refine (no_full _ _ (HP.out.keep ht9)).mono ?_
          rintro e w10 ⟨rfl, hg10⟩
          have ht10 := g_trans ht9 hg10
          go_wp2_with fail
          refine (no_fork _ _ (HP.out.keep ht10)).mono ?_
          rintro e w11 ⟨rfl, hg11⟩
          have ht11 := g_trans ht10 hg11
          go_wp2_with fail
          go_roundw
          case rel => exact ⟨k + 1, by omega, by go_num, g_trans hgr ht11⟩
          case measure => simp [intOf]; omega
    · go_wp2_with fail
      refine (awake_any _).mono ?_
      rintro e w4 ⟨rfl, hg4⟩
      go_wp2_with fail
      go_ret
      exact ⟨rfl, below_gn (Below.refl _ _) (g_trans hg (g_trans hgr hg4)) (Nat.le_refl _)⟩
end Go.Proofs.Ytnecdcjgpkiomaa
