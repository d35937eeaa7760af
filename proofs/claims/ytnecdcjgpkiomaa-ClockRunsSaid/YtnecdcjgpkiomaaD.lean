/- The clock's Fork, by its contract; the law ClockRuns. -/
import Derived.Test.YtnecdcjgpkiomaaC
namespace Go.Proofs.Ytnecdcjgpkiomaa
open Go.RowKit

set_option maxHeartbeats 800000 in
theorem fork_any (b : Nat) (l n s : Int) (w : World) (h : Clk w b l n s) (hl : (l == 0) = false) :
    Calls Try.prog 18 #[.pointer (some ⟨b, 0, none⟩)] w fun e w' => ∃ g, e = .returned (.pointer (some ⟨g, 0, none⟩)) ∧ w.heap.size ≤ g ∧ Clk w' g l n s ∧ w.grownBy w' none := by
  have h0 := h.c0
  have hb := h.lt
  have H := Lib.hid h
  clear h
  go_enter Try.func18, Try.ntmps18
  go_wp2_with fail
  refine (none_no _ _ _ h0 hl).mono ?_
  rintro e w' ⟨rfl, m, rfl⟩
  go_wp2_with fail
  have hk : Clk ((w.drewN m).alloc (.cells #[.int .i64 l, .int .i64 0, .int .i64 0] 48)) b l n s := Blk.keepn H.out (g_alloc (g_drewN (g_refl _ _) _) _)
  have hn : Clk ((w.drewN m).alloc (.cells #[.int .i64 l, .int .i64 0, .int .i64 0] 48)) w.heap.size l 0 0 := Blk.new _ _ _
  have hg : w.grownBy ((w.drewN m).alloc (.cells #[.int .i64 l, .int .i64 0, .int .i64 0] 48)) none := g_alloc (g_drewN (g_refl _ _) _) _
  generalize ((w.drewN m).alloc (.cells #[.int .i64 l, .int .i64 0, .int .i64 0] 48)) = W at hk hn hg ⊢
  have k1 := hk.c1
  have n1 := hn.c1
  have f1 := Blk.free hn 1
  have HK := Lib.hid hk
  have HN := Lib.hid hn
  clear hk hn
  go_region_with (first | (go_at_call 22; refine Calls.mono (load_any _ _ _ _ (by exact k1)) ?_; rintro e w' ⟨rfl, rfl⟩) | (go_at_call 25; refine Calls.mono (store_any _ _ _ _ _ (by exact n1) (by exact f1)) ?_; rintro e w' ⟨rfl, rfl⟩))
  clear k1 n1 f1
  have hk : Clk (W.setCell ⟨w.heap.size, 1, none⟩ (.int .i64 n)).drew b l n s := Blk.keeps HK.out (g_drew (g_set (g_refl W (some w.heap.size)) (.inl rfl) _)) (by omega)
  have hn : Clk (W.setCell ⟨w.heap.size, 1, none⟩ (.int .i64 n)).drew w.heap.size l n 0 := Blk.drew (Blk.set HN.out 1 _)
  have hg2 : w.grownBy (W.setCell ⟨w.heap.size, 1, none⟩ (.int .i64 n)).drew none := g_in hg (g_drew (g_set (g_refl W (some w.heap.size)) (.inl rfl) _)) (Nat.le_refl _)
  generalize (W.setCell ⟨w.heap.size, 1, none⟩ (.int .i64 n)).drew = W2 at hk hn hg2 ⊢
  clear HK HN hg
  have k2 := hk.c2
  have n2 := hn.c2
  have f2 := Blk.free hn 2
  have HN := Lib.hid hn
  clear hk hn
  go_wp2_with fail
  go_region_with (first | (go_at_call 22; refine Calls.mono (load_any _ _ _ _ (by exact k2)) ?_; rintro e w' ⟨rfl, rfl⟩) | (go_at_call 25; refine Calls.mono (store_any _ _ _ _ _ (by exact n2) (by exact f2)) ?_; rintro e w' ⟨rfl, rfl⟩))
  clear k2 n2 f2
  go_wp2_with fail
  go_ret
  exact ⟨_, rfl, Nat.le_refl _, Blk.drew (Blk.set HN.out 2 _), g_in hg2 (g_drew (g_set (g_refl W2 (some w.heap.size)) (.inl rfl) _)) (Nat.le_refl _)⟩

set_option maxHeartbeats 800000 in
theorem runs_no (a0 : Int) (a1 : Option Addr) (a1n a1c : Nat) (w : World) (h : a0 < 1 ∨ 1099511627776 < a0) :
    Calls Try.prog 5 #[.int .i64 a0, .slice a1 a1n a1c] w fun e w' => e = .returned (.bool true) ∧ Below w.heap.size w w' := by
  go_enter Try.func5, Try.ntmps5
  go_wp2_with fail
  refine (new_no _ _ h).mono ?_
  rintro e w1 ⟨rfl, rfl⟩
  go_wp2_with fail
  refine (ref_new_no _ _ h).mono ?_
  rintro e w2 ⟨rfl, hg2⟩
  go_wp2_with fail
  refine (awake_any _).mono ?_
  rintro e w3 ⟨rfl, hg3⟩
  go_wp2_with fail
  go_ret
  exact ⟨rfl, below_gn (Below.refl _ _) (g_trans (g_alloc hg2 _) hg3) (Nat.le_refl _)⟩
end Go.Proofs.Ytnecdcjgpkiomaa
