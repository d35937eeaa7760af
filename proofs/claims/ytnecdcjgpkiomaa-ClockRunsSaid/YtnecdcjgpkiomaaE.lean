/- The law ClockRuns: any calls of a clock. (Printed by wip/law04/gen_E.py.) -/
import Derived.Test.YtnecdcjgpkiomaaD
namespace Go.Proofs.Ytnecdcjgpkiomaa
open Go.RowKit

theorem now_g (b : Nat) (l n s : Int) (w : World) (h : Clk w b l n s) (hl : (l == 0) = false) :
    Calls Try.prog 12 #[.pointer (some ⟨b, 0, none⟩)] w fun e w' => e = .returned (.int .i64 n) ∧ w.grownBy w' none :=
  (now_any b l n s w h hl).mono fun _ _ ⟨he, m, hw⟩ => ⟨he, by rw [hw]; exact g_drewN (g_refl _ _) _⟩
theorem last_g (b : Nat) (l n s : Int) (w : World) (h : Clk w b l n s) (hl : (l == 0) = false) :
    Calls Try.prog 13 #[.pointer (some ⟨b, 0, none⟩)] w fun e w' => e = .returned (.int .i64 s) ∧ w.grownBy w' none :=
  (last_any b l n s w h hl).mono fun _ _ ⟨he, m, hw⟩ => ⟨he, by rw [hw]; exact g_drewN (g_refl _ _) _⟩
theorem full_g (b : Nat) (l n s : Int) (w : World) (h : Clk w b l n s) (hl : (l == 0) = false) :
    Calls Try.prog 9 #[.pointer (some ⟨b, 0, none⟩)] w fun e w' => e = .returned (.bool (decide (l ≤ n))) ∧ w.grownBy w' none :=
  (full_any b l n s w h hl).mono fun _ _ ⟨he, m, hw⟩ => ⟨he, by rw [hw]; exact g_drewN (g_refl _ _) _⟩
def leftv (l n : Int) : Int := if l ≤ n then 0 else l - n
theorem left_g (b : Nat) (l n s : Int) (w : World) (h : Clk w b l n s) (hl : (l == 0) = false) (l1 : 0 ≤ l) (l2 : l < 4611686018427387904) (n1 : 0 ≤ n) (n2 : n < 4611686018427387904) :
    Calls Try.prog 10 #[.pointer (some ⟨b, 0, none⟩)] w fun e w' => e = .returned (.int .i64 (leftv l n)) ∧ w.grownBy w' none :=
  (left_any b l n s w h hl l1 l2 n1 n2).mono fun _ _ ⟨he, m, hw⟩ => ⟨by rw [he]; exact ret_int (by unfold leftv; split <;> omega), by rw [hw]; exact g_drewN (g_refl _ _) _⟩
theorem ref_left (l n s : Int) (w : World) (n1 : 0 ≤ n) (l2 : l < 4611686018427387904) :
    Calls Try.prog 20 #[.agg #[.int .i64 l, .int .i64 n, .int .i64 s]] w fun e w' => e = .returned (.int .i64 (leftv l n)) ∧ w.grownBy w' none := by
  by_cases h : l ≤ n
  · exact (ref_left_hi l n s w h).mono fun _ _ ⟨he, hg⟩ => ⟨by rw [he]; exact ret_int (by unfold leftv; rw [if_pos h]), hg⟩
  · exact (ref_left_lo l n s w (by omega) n1 l2).mono fun _ _ ⟨he, hg⟩ => ⟨by rw [he]; exact ret_int (by unfold leftv; rw [if_neg h]), hg⟩
theorem Clk.gw {W : World} {b : Nat} {l n s : Int} (h : Clk W b l n s) (x : GW W) : Clk x.w b l n s := h.keep x.g
/-- another block is not turned by three stores -/
theorem three {W : World} {rb : Nat} (u v t : Value) : W.grownBy (((W.setCell ⟨rb, 0, none⟩ u).setCell ⟨rb, 1, none⟩ v).setCell ⟨rb, 2, none⟩ t) (some rb) := by
  have h1 : W.grownBy (W.setCell ⟨rb, 0, none⟩ u) (some rb) := g_set (g_refl W (some rb)) (.inl rfl) u
  have h2 := g_set h1 (p := ⟨rb, 1, none⟩) (.inl rfl) v
  exact g_set h2 (p := ⟨rb, 2, none⟩) (.inl rfl) t

set_option maxRecDepth 100000 in
set_option maxHeartbeats 3200000 in
theorem runs_ok (a0 : Int) (a1 : Option Addr) (a1n a1c : Nat) (w : World) (wv : Vec w a1 a1n a1c 1 (Q5)) (l1 : 1 ≤ a0) (l2 : a0 ≤ 1099511627776) :
    Calls Try.prog 5 #[.int .i64 a0, .slice a1 a1n a1c] w fun e w' => e = .returned (.bool true) ∧ Below w.heap.size w w' := by
  have hm : a1n ≤ 9223372036854775807 := by have := wv.1; have := wv.2.1; unfold maxLen at this; omega
  have hl0 : (a0 == 0) = false := by rw [beq_eq_false_iff_ne]; omega
  go_enter Try.func5, Try.ntmps5
  go_wp2_with fail
  refine (new_ok _ _ l1 l2).mono ?_
  rintro e w1 ⟨rfl, hc1, hg1⟩
  go_wp2_with fail
  refine (ref_new_ok _ _ l1 l2).mono ?_
  rintro e w2 ⟨rfl, hg2⟩
  go_wp2_with fail
  refine (awake_any _).mono ?_
  rintro e w3 ⟨rfl, hg3⟩
  have hlt := hc1.lt
  have hs2 := hg2.size
  have hk3 : Clk w3 w.heap.size a0 0 0 := (hc1.keep hg2).keep (g_trans (g_alloc (g_refl _ _) _) hg3)
  have hr3 : Blk w3 w2.heap.size #[.int .i64 a0, .int .i64 0, .int .i64 0] 33 := (Blk.new _ _ _).keepn hg3
  have hB : Below w.heap.size w w3 := below_gn (Below.refl _ _) (g_trans (g_alloc (g_trans hg1 hg2) _) hg3) (Nat.le_refl _)
  have hrb : w.heap.size < w2.heap.size := by omega
  clear hc1 hg1 hg2 hg3 hlt hs2
  have HK := Lib.hid hk3
  have HR := Lib.hid hr3
  clear hk3 hr3
  go_wp2_with fail
  go_loopw [5, 9] (fun c i wr => ∃ (k g : Nat) (n s : Int), k ≤ a1n ∧ k ≤ 100 ∧ i = .int .i64 k ∧ c = .pointer (some ⟨g, 0, none⟩) ∧ w.heap.size ≤ g ∧ g ≠ w2.heap.size ∧ 0 ≤ n ∧ n ≤ k ∧ 0 ≤ s ∧ s ≤ k ∧ Clk wr g a0 n s ∧ Blk wr w2.heap.size #[.int .i64 a0, .int .i64 n, .int .i64 s] 33 ∧ Below w.heap.size w wr) (fun _ i _ => (300 - intOf i).toNat)
  case atStart => exact ⟨0, _, 0, 0, by omega, by omega, rfl, rfl, Nat.le_refl _, by omega, by omega, by omega, by omega, by omega, HK.out, HR.out, hB⟩
  case round =>
    obtain ⟨k, g, n, s, hk, hk2, rfl, rfl, hg, hgr, n0, n1, s0, s1, hc, hr, hb⟩ := hrel
    clear HK HR hB
    by_cases hlt : k < a1n
    · by_cases hlt2 : k < 100
      · obtain ⟨b, off, v, rfl, ⟨u, hz, hu⟩, hv⟩ := wv.at1 k hlt
        simp only [List.cons.injEq, and_true] at hz
        subst hz
        have hcell : wr.cell? ⟨b, off + k, none⟩ = some (.int .u8 u) := (hb.cell (World.block_lt_of_cell? _ _ hv)).trans hv
        clear hv
        have hx : 0 ≤ u ∧ u ≤ 255 := by simpa [Lit.wf, IntKind.min, IntKind.max, IntKind.signed, IntKind.bits] using hu
        obtain ⟨u0, u1⟩ := hx
        clear hu
        have h6 : u % 6 = 0 ∨ u % 6 = 1 ∨ u % 6 = 2 ∨ u % 6 = 3 ∨ u % 6 = 4 ∨ u % 6 = 5 := by omega
        have hrg := hr.lt
        rcases h6 with h6 | h6 | h6 | h6 | h6 | h6
        · go_wp2_with fail
          refine (next_any _ _ _ _ _ hc hl0 (by omega) (by omega)).mono ?_
          rintro e w4 ⟨rfl, hc4, hg4⟩
          have hr4 := hr.keeps hg4 (Ne.symm hgr)
          have p0 := hr4.cell 0 _ rfl
          have p1 := hr4.cell 1 _ rfl
          have p2 := hr4.cell 2 _ rfl
          have hb4 := below_gs hb hg4 hb.size hg
          have HR := Lib.hid hr4
          clear hr hr4
          go_wp2_with fail
          refine (ref_next _ _ _ _ (by omega) (by omega)).mono ?_
          rintro e w5 ⟨rfl, hg5⟩
          clear p0 p1 p2
          have hr5 := HR.out.keepn hg5
          have p0 := hr5.cell 0 _ rfl
          have p1 := hr5.cell 1 _ rfl
          have p2 := hr5.cell 2 _ rfl
          have f0 := hr5.free 0
          have f1 := hr5.free 1
          have f2 := hr5.free 2
          have hcW : Clk (((w5.setCell ⟨w2.heap.size, 0, none⟩ (.int .i64 a0)).setCell ⟨w2.heap.size, 1, none⟩ (.int .i64 (n + 1))).setCell ⟨w2.heap.size, 2, none⟩ (.int .i64 (s))) g a0 (n + 1) (s) := Blk.keeps (hc4.keep hg5) (three _ _ _) hgr
          have hrW : Blk (((w5.setCell ⟨w2.heap.size, 0, none⟩ (.int .i64 a0)).setCell ⟨w2.heap.size, 1, none⟩ (.int .i64 (n + 1))).setCell ⟨w2.heap.size, 2, none⟩ (.int .i64 (s))) w2.heap.size #[.int .i64 a0, .int .i64 (n + 1), .int .i64 (s)] 33 := ((hr5.set 0 _).set 1 _).set 2 _
          have hbW : Below w.heap.size w (((w5.setCell ⟨w2.heap.size, 0, none⟩ (.int .i64 a0)).setCell ⟨w2.heap.size, 1, none⟩ (.int .i64 (n + 1))).setCell ⟨w2.heap.size, 2, none⟩ (.int .i64 (s))) := below_gs (below_gn hb4 hg5 hb4.size) (three _ _ _) (by have := hb4.size; have := hg5.size; omega) (by omega)
          have HC := Lib.hid hcW
          have HRW := Lib.hid hrW
          clear hcW hrW hr5 HR hc4 hg5
          go_wp2_with fail
          clear p0 p1 p2 f0 f1 f2
          generalize (((w5.setCell ⟨w2.heap.size, 0, none⟩ (.int .i64 a0)).setCell ⟨w2.heap.size, 1, none⟩ (.int .i64 (n + 1))).setCell ⟨w2.heap.size, 2, none⟩ (.int .i64 (s))) = W at HC HRW hbW ⊢
          have q0 := fun x : GW W => x.cell (HRW.out.cell 0 _ rfl)
          have q1 := fun x : GW W => x.cell (HRW.out.cell 1 _ rfl)
          have q2 := fun x : GW W => x.cell (HRW.out.cell 2 _ rfl)
          refine wp_region_gw (by kernel_rfl) (by kernel_rfl) ?_
          repeat (go_big_quiet_step ((first | (go_at_call 12; exact quiet_g (now_g _ _ _ _ _ (HC.out.gw _) hl0)) | (go_at_call 13; exact quiet_g (last_g _ _ _ _ _ (HC.out.gw _) hl0)) | (go_at_call 9; exact quiet_g (full_g _ _ _ _ _ (HC.out.gw _) hl0)) | (go_at_call 10; exact quiet_g (left_g _ _ _ _ _ (HC.out.gw _) hl0 (by omega) (by omega) (by omega) (by omega))) | (go_at_call 19; exact quiet_g (ref_full _ _ _ _)) | (go_at_call 20; exact quiet_g (ref_left _ _ _ _ (by omega) (by omega))))))
          refine wpQuiet_nil ?_
          intro _ hw'
          obtain ⟨x, hw''⟩ := hw'
          subst hw''
          clear q0 q1 q2
          go_wp2_with fail
          go_roundw
          case rel => exact ⟨k + 1, g, n + 1, s, by omega, by omega, by go_num, rfl, hg, hgr, by omega, by omega, by omega, by omega, HC.out.gw x, HRW.out.gw x, below_gn hbW x.g hbW.size⟩
          case measure => simp [intOf]; omega
        · go_wp2_with fail
          refine (next_any _ _ _ _ _ hc hl0 (by omega) (by omega)).mono ?_
          rintro e w4 ⟨rfl, hc4, hg4⟩
          have hr4 := hr.keeps hg4 (Ne.symm hgr)
          have p0 := hr4.cell 0 _ rfl
          have p1 := hr4.cell 1 _ rfl
          have p2 := hr4.cell 2 _ rfl
          have hb4 := below_gs hb hg4 hb.size hg
          have HR := Lib.hid hr4
          clear hr hr4
          go_wp2_with fail
          refine (ref_next _ _ _ _ (by omega) (by omega)).mono ?_
          rintro e w5 ⟨rfl, hg5⟩
          clear p0 p1 p2
          have hr5 := HR.out.keepn hg5
          have p0 := hr5.cell 0 _ rfl
          have p1 := hr5.cell 1 _ rfl
          have p2 := hr5.cell 2 _ rfl
          have f0 := hr5.free 0
          have f1 := hr5.free 1
          have f2 := hr5.free 2
          have hcW : Clk (((w5.setCell ⟨w2.heap.size, 0, none⟩ (.int .i64 a0)).setCell ⟨w2.heap.size, 1, none⟩ (.int .i64 (n + 1))).setCell ⟨w2.heap.size, 2, none⟩ (.int .i64 (s))) g a0 (n + 1) (s) := Blk.keeps (hc4.keep hg5) (three _ _ _) hgr
          have hrW : Blk (((w5.setCell ⟨w2.heap.size, 0, none⟩ (.int .i64 a0)).setCell ⟨w2.heap.size, 1, none⟩ (.int .i64 (n + 1))).setCell ⟨w2.heap.size, 2, none⟩ (.int .i64 (s))) w2.heap.size #[.int .i64 a0, .int .i64 (n + 1), .int .i64 (s)] 33 := ((hr5.set 0 _).set 1 _).set 2 _
          have hbW : Below w.heap.size w (((w5.setCell ⟨w2.heap.size, 0, none⟩ (.int .i64 a0)).setCell ⟨w2.heap.size, 1, none⟩ (.int .i64 (n + 1))).setCell ⟨w2.heap.size, 2, none⟩ (.int .i64 (s))) := below_gs (below_gn hb4 hg5 hb4.size) (three _ _ _) (by have := hb4.size; have := hg5.size; omega) (by omega)
          have HC := Lib.hid hcW
          have HRW := Lib.hid hrW
          clear hcW hrW hr5 HR hc4 hg5
          go_wp2_with fail
          clear p0 p1 p2 f0 f1 f2
          generalize (((w5.setCell ⟨w2.heap.size, 0, none⟩ (.int .i64 a0)).setCell ⟨w2.heap.size, 1, none⟩ (.int .i64 (n + 1))).setCell ⟨w2.heap.size, 2, none⟩ (.int .i64 (s))) = W at HC HRW hbW ⊢
          have q0 := fun x : GW W => x.cell (HRW.out.cell 0 _ rfl)
          have q1 := fun x : GW W => x.cell (HRW.out.cell 1 _ rfl)
          have q2 := fun x : GW W => x.cell (HRW.out.cell 2 _ rfl)
          refine wp_region_gw (by kernel_rfl) (by kernel_rfl) ?_
          repeat (go_big_quiet_step ((first | (go_at_call 12; exact quiet_g (now_g _ _ _ _ _ (HC.out.gw _) hl0)) | (go_at_call 13; exact quiet_g (last_g _ _ _ _ _ (HC.out.gw _) hl0)) | (go_at_call 9; exact quiet_g (full_g _ _ _ _ _ (HC.out.gw _) hl0)) | (go_at_call 10; exact quiet_g (left_g _ _ _ _ _ (HC.out.gw _) hl0 (by omega) (by omega) (by omega) (by omega))) | (go_at_call 19; exact quiet_g (ref_full _ _ _ _)) | (go_at_call 20; exact quiet_g (ref_left _ _ _ _ (by omega) (by omega))))))
          refine wpQuiet_nil ?_
          intro _ hw'
          obtain ⟨x, hw''⟩ := hw'
          subst hw''
          clear q0 q1 q2
          go_wp2_with fail
          go_roundw
          case rel => exact ⟨k + 1, g, n + 1, s, by omega, by omega, by go_num, rfl, hg, hgr, by omega, by omega, by omega, by omega, HC.out.gw x, HRW.out.gw x, below_gn hbW x.g hbW.size⟩
          case measure => simp [intOf]; omega
        · go_wp2_with fail
          refine (next_any _ _ _ _ _ hc hl0 (by omega) (by omega)).mono ?_
          rintro e w4 ⟨rfl, hc4, hg4⟩
          have hr4 := hr.keeps hg4 (Ne.symm hgr)
          have p0 := hr4.cell 0 _ rfl
          have p1 := hr4.cell 1 _ rfl
          have p2 := hr4.cell 2 _ rfl
          have hb4 := below_gs hb hg4 hb.size hg
          have HR := Lib.hid hr4
          clear hr hr4
          go_wp2_with fail
          refine (ref_next _ _ _ _ (by omega) (by omega)).mono ?_
          rintro e w5 ⟨rfl, hg5⟩
          clear p0 p1 p2
          have hr5 := HR.out.keepn hg5
          have p0 := hr5.cell 0 _ rfl
          have p1 := hr5.cell 1 _ rfl
          have p2 := hr5.cell 2 _ rfl
          have f0 := hr5.free 0
          have f1 := hr5.free 1
          have f2 := hr5.free 2
          have hcW : Clk (((w5.setCell ⟨w2.heap.size, 0, none⟩ (.int .i64 a0)).setCell ⟨w2.heap.size, 1, none⟩ (.int .i64 (n + 1))).setCell ⟨w2.heap.size, 2, none⟩ (.int .i64 (s))) g a0 (n + 1) (s) := Blk.keeps (hc4.keep hg5) (three _ _ _) hgr
          have hrW : Blk (((w5.setCell ⟨w2.heap.size, 0, none⟩ (.int .i64 a0)).setCell ⟨w2.heap.size, 1, none⟩ (.int .i64 (n + 1))).setCell ⟨w2.heap.size, 2, none⟩ (.int .i64 (s))) w2.heap.size #[.int .i64 a0, .int .i64 (n + 1), .int .i64 (s)] 33 := ((hr5.set 0 _).set 1 _).set 2 _
          have hbW : Below w.heap.size w (((w5.setCell ⟨w2.heap.size, 0, none⟩ (.int .i64 a0)).setCell ⟨w2.heap.size, 1, none⟩ (.int .i64 (n + 1))).setCell ⟨w2.heap.size, 2, none⟩ (.int .i64 (s))) := below_gs (below_gn hb4 hg5 hb4.size) (three _ _ _) (by have := hb4.size; have := hg5.size; omega) (by omega)
          have HC := Lib.hid hcW
          have HRW := Lib.hid hrW
          clear hcW hrW hr5 HR hc4 hg5
          go_wp2_with fail
          clear p0 p1 p2 f0 f1 f2
          generalize (((w5.setCell ⟨w2.heap.size, 0, none⟩ (.int .i64 a0)).setCell ⟨w2.heap.size, 1, none⟩ (.int .i64 (n + 1))).setCell ⟨w2.heap.size, 2, none⟩ (.int .i64 (s))) = W at HC HRW hbW ⊢
          have q0 := fun x : GW W => x.cell (HRW.out.cell 0 _ rfl)
          have q1 := fun x : GW W => x.cell (HRW.out.cell 1 _ rfl)
          have q2 := fun x : GW W => x.cell (HRW.out.cell 2 _ rfl)
          refine wp_region_gw (by kernel_rfl) (by kernel_rfl) ?_
          repeat (go_big_quiet_step ((first | (go_at_call 12; exact quiet_g (now_g _ _ _ _ _ (HC.out.gw _) hl0)) | (go_at_call 13; exact quiet_g (last_g _ _ _ _ _ (HC.out.gw _) hl0)) | (go_at_call 9; exact quiet_g (full_g _ _ _ _ _ (HC.out.gw _) hl0)) | (go_at_call 10; exact quiet_g (left_g _ _ _ _ _ (HC.out.gw _) hl0 (by omega) (by omega) (by omega) (by omega))) | (go_at_call 19; exact quiet_g (ref_full _ _ _ _)) | (go_at_call 20; exact quiet_g (ref_left _ _ _ _ (by omega) (by omega))))))
          refine wpQuiet_nil ?_
          intro _ hw'
          obtain ⟨x, hw''⟩ := hw'
          subst hw''
          clear q0 q1 q2
          go_wp2_with fail
          go_roundw
          case rel => exact ⟨k + 1, g, n + 1, s, by omega, by omega, by go_num, rfl, hg, hgr, by omega, by omega, by omega, by omega, HC.out.gw x, HRW.out.gw x, below_gn hbW x.g hbW.size⟩
          case measure => simp [intOf]; omega
        · go_wp2_with fail
          refine (stamp_any _ _ _ _ _ hc hl0 (by omega) (by omega)).mono ?_
          rintro e w4 ⟨rfl, hc4, hg4⟩
          have hr4 := hr.keeps hg4 (Ne.symm hgr)
          have p0 := hr4.cell 0 _ rfl
          have p1 := hr4.cell 1 _ rfl
          have p2 := hr4.cell 2 _ rfl
          have hb4 := below_gs hb hg4 hb.size hg
          have HR := Lib.hid hr4
          clear hr hr4
          go_wp2_with fail
          refine (ref_stamp _ _ _ _ (by omega) (by omega)).mono ?_
          rintro e w5 ⟨rfl, hg5⟩
          clear p0 p1 p2
          have hr5 := HR.out.keepn hg5
          have p0 := hr5.cell 0 _ rfl
          have p1 := hr5.cell 1 _ rfl
          have p2 := hr5.cell 2 _ rfl
          have f0 := hr5.free 0
          have f1 := hr5.free 1
          have f2 := hr5.free 2
          have hcW : Clk (((w5.setCell ⟨w2.heap.size, 0, none⟩ (.int .i64 a0)).setCell ⟨w2.heap.size, 1, none⟩ (.int .i64 (n))).setCell ⟨w2.heap.size, 2, none⟩ (.int .i64 (s + 1))) g a0 (n) (s + 1) := Blk.keeps (hc4.keep hg5) (three _ _ _) hgr
          have hrW : Blk (((w5.setCell ⟨w2.heap.size, 0, none⟩ (.int .i64 a0)).setCell ⟨w2.heap.size, 1, none⟩ (.int .i64 (n))).setCell ⟨w2.heap.size, 2, none⟩ (.int .i64 (s + 1))) w2.heap.size #[.int .i64 a0, .int .i64 (n), .int .i64 (s + 1)] 33 := ((hr5.set 0 _).set 1 _).set 2 _
          have hbW : Below w.heap.size w (((w5.setCell ⟨w2.heap.size, 0, none⟩ (.int .i64 a0)).setCell ⟨w2.heap.size, 1, none⟩ (.int .i64 (n))).setCell ⟨w2.heap.size, 2, none⟩ (.int .i64 (s + 1))) := below_gs (below_gn hb4 hg5 hb4.size) (three _ _ _) (by have := hb4.size; have := hg5.size; omega) (by omega)
          have HC := Lib.hid hcW
          have HRW := Lib.hid hrW
          clear hcW hrW hr5 HR hc4 hg5
          go_wp2_with fail
          clear p0 p1 p2 f0 f1 f2
          generalize (((w5.setCell ⟨w2.heap.size, 0, none⟩ (.int .i64 a0)).setCell ⟨w2.heap.size, 1, none⟩ (.int .i64 (n))).setCell ⟨w2.heap.size, 2, none⟩ (.int .i64 (s + 1))) = W at HC HRW hbW ⊢
          have q0 := fun x : GW W => x.cell (HRW.out.cell 0 _ rfl)
          have q1 := fun x : GW W => x.cell (HRW.out.cell 1 _ rfl)
          have q2 := fun x : GW W => x.cell (HRW.out.cell 2 _ rfl)
          refine wp_region_gw (by kernel_rfl) (by kernel_rfl) ?_
          repeat (go_big_quiet_step ((first | (go_at_call 12; exact quiet_g (now_g _ _ _ _ _ (HC.out.gw _) hl0)) | (go_at_call 13; exact quiet_g (last_g _ _ _ _ _ (HC.out.gw _) hl0)) | (go_at_call 9; exact quiet_g (full_g _ _ _ _ _ (HC.out.gw _) hl0)) | (go_at_call 10; exact quiet_g (left_g _ _ _ _ _ (HC.out.gw _) hl0 (by omega) (by omega) (by omega) (by omega))) | (go_at_call 19; exact quiet_g (ref_full _ _ _ _)) | (go_at_call 20; exact quiet_g (ref_left _ _ _ _ (by omega) (by omega))))))
          refine wpQuiet_nil ?_
          intro _ hw'
          obtain ⟨x, hw''⟩ := hw'
          subst hw''
          clear q0 q1 q2
          go_wp2_with fail
          go_roundw
          case rel => exact ⟨k + 1, g, n, s + 1, by omega, by omega, by go_num, rfl, hg, hgr, by omega, by omega, by omega, by omega, HC.out.gw x, HRW.out.gw x, below_gn hbW x.g hbW.size⟩
          case measure => simp [intOf]; omega
        · go_wp2_with fail
          refine (stamp_any _ _ _ _ _ hc hl0 (by omega) (by omega)).mono ?_
          rintro e w4 ⟨rfl, hc4, hg4⟩
          have hr4 := hr.keeps hg4 (Ne.symm hgr)
          have p0 := hr4.cell 0 _ rfl
          have p1 := hr4.cell 1 _ rfl
          have p2 := hr4.cell 2 _ rfl
          have hb4 := below_gs hb hg4 hb.size hg
          have HR := Lib.hid hr4
          clear hr hr4
          go_wp2_with fail
          refine (ref_stamp _ _ _ _ (by omega) (by omega)).mono ?_
          rintro e w5 ⟨rfl, hg5⟩
          clear p0 p1 p2
          have hr5 := HR.out.keepn hg5
          have p0 := hr5.cell 0 _ rfl
          have p1 := hr5.cell 1 _ rfl
          have p2 := hr5.cell 2 _ rfl
          have f0 := hr5.free 0
          have f1 := hr5.free 1
          have f2 := hr5.free 2
          have hcW : Clk (((w5.setCell ⟨w2.heap.size, 0, none⟩ (.int .i64 a0)).setCell ⟨w2.heap.size, 1, none⟩ (.int .i64 (n))).setCell ⟨w2.heap.size, 2, none⟩ (.int .i64 (s + 1))) g a0 (n) (s + 1) := Blk.keeps (hc4.keep hg5) (three _ _ _) hgr
          have hrW : Blk (((w5.setCell ⟨w2.heap.size, 0, none⟩ (.int .i64 a0)).setCell ⟨w2.heap.size, 1, none⟩ (.int .i64 (n))).setCell ⟨w2.heap.size, 2, none⟩ (.int .i64 (s + 1))) w2.heap.size #[.int .i64 a0, .int .i64 (n), .int .i64 (s + 1)] 33 := ((hr5.set 0 _).set 1 _).set 2 _
          have hbW : Below w.heap.size w (((w5.setCell ⟨w2.heap.size, 0, none⟩ (.int .i64 a0)).setCell ⟨w2.heap.size, 1, none⟩ (.int .i64 (n))).setCell ⟨w2.heap.size, 2, none⟩ (.int .i64 (s + 1))) := below_gs (below_gn hb4 hg5 hb4.size) (three _ _ _) (by have := hb4.size; have := hg5.size; omega) (by omega)
          have HC := Lib.hid hcW
          have HRW := Lib.hid hrW
          clear hcW hrW hr5 HR hc4 hg5
          go_wp2_with fail
          clear p0 p1 p2 f0 f1 f2
          generalize (((w5.setCell ⟨w2.heap.size, 0, none⟩ (.int .i64 a0)).setCell ⟨w2.heap.size, 1, none⟩ (.int .i64 (n))).setCell ⟨w2.heap.size, 2, none⟩ (.int .i64 (s + 1))) = W at HC HRW hbW ⊢
          have q0 := fun x : GW W => x.cell (HRW.out.cell 0 _ rfl)
          have q1 := fun x : GW W => x.cell (HRW.out.cell 1 _ rfl)
          have q2 := fun x : GW W => x.cell (HRW.out.cell 2 _ rfl)
          refine wp_region_gw (by kernel_rfl) (by kernel_rfl) ?_
          repeat (go_big_quiet_step ((first | (go_at_call 12; exact quiet_g (now_g _ _ _ _ _ (HC.out.gw _) hl0)) | (go_at_call 13; exact quiet_g (last_g _ _ _ _ _ (HC.out.gw _) hl0)) | (go_at_call 9; exact quiet_g (full_g _ _ _ _ _ (HC.out.gw _) hl0)) | (go_at_call 10; exact quiet_g (left_g _ _ _ _ _ (HC.out.gw _) hl0 (by omega) (by omega) (by omega) (by omega))) | (go_at_call 19; exact quiet_g (ref_full _ _ _ _)) | (go_at_call 20; exact quiet_g (ref_left _ _ _ _ (by omega) (by omega))))))
          refine wpQuiet_nil ?_
          intro _ hw'
          obtain ⟨x, hw''⟩ := hw'
          subst hw''
          clear q0 q1 q2
          go_wp2_with fail
          go_roundw
          case rel => exact ⟨k + 1, g, n, s + 1, by omega, by omega, by go_num, rfl, hg, hgr, by omega, by omega, by omega, by omega, HC.out.gw x, HRW.out.gw x, below_gn hbW x.g hbW.size⟩
          case measure => simp [intOf]; omega
        · go_wp2_with fail
          refine (fork_any _ _ _ _ _ hc hl0).mono ?_
          rintro e w4 ⟨g', rfl, hg', hc4, hg4⟩
          have hcl := hc.lt
          have ho4 := hc.keep hg4
          have hr4 := hr.keepn hg4
          have hb4 := below_gn hb hg4 hb.size
          go_wp2_with fail
          refine (next_any _ _ _ _ _ ho4 hl0 (by omega) (by omega)).mono ?_
          rintro e w5 ⟨rfl, ho5, hg5⟩
          have hc5 : Clk w5 g' a0 n s := Blk.keeps hc4 hg5 (by omega)
          have hr5 := hr4.keeps hg5 (Ne.symm hgr)
          have hb5 := below_gs hb4 hg5 hb4.size hg
          go_wp2_with fail
          refine (stamp_any _ _ _ _ _ ho5 hl0 (by omega) (by omega)).mono ?_
          rintro e W ⟨rfl, ho6, hg6⟩
          have HC : Hid (Clk W g' a0 n s) := Lib.hid (Blk.keeps hc5 hg6 (by omega))
          have HRW := Lib.hid (hr5.keeps hg6 (Ne.symm hgr))
          have hbW := below_gs hb5 hg6 hb5.size hg
          have hbs := hb.size
          clear ho6 hg6 hc5 hr5 hb5 hg5 ho5 ho4 hr4 hb4 hg4 hc4
          go_wp2_with fail
          have q0 := fun x : GW W => x.cell (HRW.out.cell 0 _ rfl)
          have q1 := fun x : GW W => x.cell (HRW.out.cell 1 _ rfl)
          have q2 := fun x : GW W => x.cell (HRW.out.cell 2 _ rfl)
          refine wp_region_gw (by kernel_rfl) (by kernel_rfl) ?_
          repeat (go_big_quiet_step ((first | (go_at_call 12; exact quiet_g (now_g _ _ _ _ _ (HC.out.gw _) hl0)) | (go_at_call 13; exact quiet_g (last_g _ _ _ _ _ (HC.out.gw _) hl0)) | (go_at_call 9; exact quiet_g (full_g _ _ _ _ _ (HC.out.gw _) hl0)) | (go_at_call 10; exact quiet_g (left_g _ _ _ _ _ (HC.out.gw _) hl0 (by omega) (by omega) (by omega) (by omega))) | (go_at_call 19; exact quiet_g (ref_full _ _ _ _)) | (go_at_call 20; exact quiet_g (ref_left _ _ _ _ (by omega) (by omega))))))
          refine wpQuiet_nil ?_
          intro _ hw'
          obtain ⟨x, hw''⟩ := hw'
          subst hw''
          clear q0 q1 q2
          go_wp2_with fail
          go_roundw
          case rel => exact ⟨k + 1, g', n, s, by omega, by omega, by go_num, rfl, by omega, by omega, by omega, by omega, by omega, by omega, HC.out.gw x, HRW.out.gw x, below_gn hbW x.g hbW.size⟩
          case measure => simp [intOf]; omega
      · go_wp2
        go_ret
        exact ⟨rfl, hb⟩
    · go_wp2
      go_ret
      exact ⟨rfl, hb⟩

theorem walk_ClockRuns (a0 : Int) (a1 : Option Addr) (a1n a1c : Nat) (w : World) (_w0 : (Lit.int .i64 a0).wf = true) (w1 : Vec w a1 a1n a1c 1 (Q5)) :
    Calls Try.prog 5 #[.int .i64 a0, .slice a1 a1n a1c] w fun e w' => e = .returned (.bool true) ∧ Below w.heap.size w w' := by
  by_cases h : a0 < 1 ∨ 1099511627776 < a0
  · exact runs_no a0 a1 a1n a1c w h
  · exact runs_ok a0 a1 a1n a1c w w1 (by omega) (by omega)
end Go.Proofs.Ytnecdcjgpkiomaa
