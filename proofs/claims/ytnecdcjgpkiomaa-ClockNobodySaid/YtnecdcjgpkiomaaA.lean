/- The clock's methods, each by its contract: a clock at a block. -/
import Derived.Test.YtnecdcjgpkiomaaBase
namespace Go.Proofs.Ytnecdcjgpkiomaa
open Go.RowKit

set_option maxHeartbeats 400000 in
theorem load_any (b o : Nat) (x : Int) (w : World) (h : w.cell? ⟨b, o, none⟩ = some (.int .i64 x)) :
    Calls Try.prog 22 #[.pointer (some ⟨b, o, none⟩)] w fun e w' => e = .returned (.int .i64 x) ∧ w = w' := by
  have hld := run_call_load (P := Try.prog) Try.func26 (by kernel_rfl) (by kernel_rfl) (by kernel_rfl) .i64 (by kernel_rfl) h
  go_enter Try.func22, Try.ntmps22
  go_wp2
  go_ret
  exact ⟨rfl, rfl⟩

theorem load_q (b o : Nat) (x : Int) (w : World) (h : w.cell? ⟨b, o, none⟩ = some (.int .i64 x)) :
    Calls Try.prog 22 #[.pointer (some ⟨b, o, none⟩)] w fun e w' => e = .returned (.int .i64 x) ∧ ∃ m, w' = w.drewN m :=
  (load_any b o x w h).mono fun _ _ ⟨he, hw⟩ => ⟨he, 0, hw.symm⟩

set_option maxHeartbeats 400000 in
theorem none_no (b : Nat) (l : Int) (w : World) (h0 : w.cell? ⟨b, 0, none⟩ = some (.int .i64 l)) (hl : (l == 0) = false) :
    Calls Try.prog 21 #[.pointer (some ⟨b, 0, none⟩)] w fun e w' => e = .returned (.bool false) ∧ ∃ m, w' = w.drewN m := by
  go_enter Try.func21, Try.ntmps21
  go_wp2
  go_ret
  exact ⟨rfl, 0, rfl⟩

set_option maxHeartbeats 400000 in
theorem add_any (b o : Nat) (x d : Int) (w : World) (h : w.cell? ⟨b, o, none⟩ = some (.int .i64 x)) (hf : w.frozen? ⟨b, o, none⟩ = false) (h1 : -4611686018427387904 ≤ x + d) (h2 : x + d < 4611686018427387904) :
    Calls Try.prog 23 #[.pointer (some ⟨b, o, none⟩), .int .i64 d] w fun e w' => e = .returned (.int .i64 (x + d)) ∧ w.setCell ⟨b, o, none⟩ (.int .i64 (x + d)) = w' := by
  have hs : (Op.intArith .add .i64 x d).run Try.prog w = .ok (.int .i64 (x + d)) w := by
    have e : IntKind.i64.wrap (x + d) = x + d := by rw [IntKind.wrap_i64]; omega
    simp [Op.intArith, go_sem, e]
  have had := run_call_add (P := Try.prog) Try.func27 (by kernel_rfl) (by kernel_rfl) (by kernel_rfl) .i64 (by kernel_rfl) h hf hs
  clear hs
  go_enter Try.func23, Try.ntmps23
  go_wp2
  go_ret
  exact ⟨rfl, rfl⟩

set_option maxHeartbeats 400000 in
theorem store_any (b o : Nat) (x d : Int) (w : World) (h : w.cell? ⟨b, o, none⟩ = some (.int .i64 x)) (hf : w.frozen? ⟨b, o, none⟩ = false) :
    Calls Try.prog 25 #[.pointer (some ⟨b, o, none⟩), .int .i64 d] w fun e w' => e = .returned (.tuple #[]) ∧ w.setCell ⟨b, o, none⟩ (.int .i64 d) = w' := by
  have hst := run_call_store (P := Try.prog) Try.func28 (by kernel_rfl) (by kernel_rfl) (by kernel_rfl) (by kernel_rfl) (k := .i64) (y := d) h hf
  go_enter Try.func25, Try.ntmps25
  go_wp2
  go_end0
  exact ⟨rfl, rfl⟩

/-- a clock at block b: its limit, what it is at, its last stamp -/
def Clk (w : World) (b : Nat) (l n s : Int) : Prop := Blk w b #[.int .i64 l, .int .i64 n, .int .i64 s] 48
section
variable {w w' : World} {b : Nat} {l n s : Int}
theorem Clk.c0 (h : Clk w b l n s) : w.cell? ⟨b, 0, none⟩ = some (.int .i64 l) := Blk.cell h 0 _ rfl
theorem Clk.c1 (h : Clk w b l n s) : w.cell? ⟨b, 1, none⟩ = some (.int .i64 n) := Blk.cell h 1 _ rfl
theorem Clk.c2 (h : Clk w b l n s) : w.cell? ⟨b, 2, none⟩ = some (.int .i64 s) := Blk.cell h 2 _ rfl
theorem Clk.drewN (h : Clk w b l n s) (k : Nat) : Clk (w.drewN k) b l n s := h
theorem Clk.lt (h : Clk w b l n s) : b < w.heap.size := Blk.lt h
theorem Clk.keep (h : Clk w b l n s) (g : w.grownBy w' none) : Clk w' b l n s := Blk.keepn h g
end

set_option maxHeartbeats 400000 in
theorem next_any (b : Nat) (l n s : Int) (w : World) (h : Clk w b l n s) (hl : (l == 0) = false) (hn : 0 ≤ n) (hn' : n < 1000000) :
    Calls Try.prog 11 #[.pointer (some ⟨b, 0, none⟩)] w fun e w' => e = .returned (.int .i64 (n + 1)) ∧ Clk w' b l (n + 1) s ∧ w.grownBy w' (some b) := by
  have h0 := h.c0
  have h1 := h.c1
  have hf := Blk.free h 1
  have H := Lib.hid h
  clear h
  go_enter Try.func11, Try.ntmps11
  go_wp2_with (first | (go_at_call 23; refine (add_any _ _ _ _ _ h1 hf (by omega) (by omega)).mono ?_; rintro e w' ⟨rfl, rfl⟩) | go_in)
  go_ret
  exact ⟨rfl, Blk.set H.out 1 _, g_set (g_refl _ _) (.inl rfl) _⟩

set_option maxHeartbeats 400000 in
theorem stamp_any (b : Nat) (l n s : Int) (w : World) (h : Clk w b l n s) (hl : (l == 0) = false) (hn : 0 ≤ s) (hn' : s < 1000000) :
    Calls Try.prog 14 #[.pointer (some ⟨b, 0, none⟩)] w fun e w' => e = .returned (.int .i64 (s + 1)) ∧ Clk w' b l n (s + 1) ∧ w.grownBy w' (some b) := by
  have h0 := h.c0
  have h2 := h.c2
  have hf := Blk.free h 2
  have H := Lib.hid h
  clear h
  go_enter Try.func14, Try.ntmps14
  go_wp2_with (first | (go_at_call 23; refine (add_any _ _ _ _ _ h2 hf (by omega) (by omega)).mono ?_; rintro e w' ⟨rfl, rfl⟩) | go_in)
  go_ret
  exact ⟨rfl, Blk.set H.out 2 _, g_set (g_refl _ _) (.inl rfl) _⟩

set_option maxHeartbeats 400000 in
theorem now_any (b : Nat) (l n s : Int) (w : World) (h : Clk w b l n s) (hl : (l == 0) = false) :
    Calls Try.prog 12 #[.pointer (some ⟨b, 0, none⟩)] w fun e w' => e = .returned (.int .i64 n) ∧ ∃ m, w' = w.drewN m := by
  have h0 := h.c0
  have h1 := h.c1
  clear h
  go_enter Try.func12, Try.ntmps12
  go_wp2_with (first | (go_at_call 22; refine (load_any _ _ _ _ h1).mono ?_; rintro e w' ⟨rfl, rfl⟩) | go_in)
  go_ret
  exact ⟨rfl, 0, rfl⟩

set_option maxHeartbeats 400000 in
theorem last_any (b : Nat) (l n s : Int) (w : World) (h : Clk w b l n s) (hl : (l == 0) = false) :
    Calls Try.prog 13 #[.pointer (some ⟨b, 0, none⟩)] w fun e w' => e = .returned (.int .i64 s) ∧ ∃ m, w' = w.drewN m := by
  have h0 := h.c0
  have h2 := h.c2
  clear h
  go_enter Try.func13, Try.ntmps13
  go_wp2_with (first | (go_at_call 22; refine (load_any _ _ _ _ h2).mono ?_; rintro e w' ⟨rfl, rfl⟩) | go_in)
  go_ret
  exact ⟨rfl, 0, rfl⟩

set_option maxHeartbeats 400000 in
theorem full_any (b : Nat) (l n s : Int) (w : World) (h : Clk w b l n s) (hl : (l == 0) = false) :
    Calls Try.prog 9 #[.pointer (some ⟨b, 0, none⟩)] w fun e w' => e = .returned (.bool (decide (l ≤ n))) ∧ ∃ m, w' = w.drewN m := by
  have h0 := h.c0
  have h1 := h.c1
  clear h
  go_enter Try.func9, Try.ntmps9
  go_wp2
  go_quiet ((first | (go_at_call 22; exact Calls.quiet_of (load_q _ _ _ _ h1)) | (go_at_call 21; exact Calls.quiet_of (none_no _ _ _ h0 hl))))
  go_wp2
  go_ret
  exact ⟨rfl, _, rfl⟩

set_option maxHeartbeats 400000 in
theorem left_any (b : Nat) (l n s : Int) (w : World) (h : Clk w b l n s)
    (hl : (l == 0) = false) (l1 : 0 ≤ l) (l2 : l < 4611686018427387904) (n1 : 0 ≤ n) (n2 : n < 4611686018427387904) :
    Calls Try.prog 10 #[.pointer (some ⟨b, 0, none⟩)] w fun e w' => e = .returned (.int .i64 (max 0 (l - n))) ∧ ∃ m, w' = w.drewN m := by
  have h0 := h.c0
  have h1 := h.c1
  clear h
  go_enter Try.func10, Try.ntmps10
  go_wp2
  go_quiet ((go_at_call 22; exact Calls.quiet_of (load_q _ _ _ _ h1)))
  go_wp2
  all_goals
    go_ret
    exact ⟨ret_int (by omega), _, rfl⟩

set_option maxHeartbeats 400000 in
theorem new_ok (l : Int) (w : World) (l1 : 1 ≤ l) (l2 : l ≤ 1099511627776) :
    Calls Try.prog 7 #[.int .i64 l] w fun e w' => e = .returned (.tuple #[.pointer (some ⟨w.heap.size, 0, none⟩), .int .i64 0]) ∧ Clk w' w.heap.size l 0 0 ∧ w.grownBy w' none := by
  go_enter Try.func7, Try.ntmps7
  go_wp2
  go_ret2
  exact ⟨rfl, Blk.new _ _ _, g_alloc (g_refl _ _) _⟩

set_option maxHeartbeats 400000 in
theorem new_no (l : Int) (w : World) (h : l < 1 ∨ 1099511627776 < l) :
    Calls Try.prog 7 #[.int .i64 l] w fun e w' => e = .returned (.tuple #[.pointer none, .int .i64 1]) ∧ w = w' := by
  rcases h with h | h
  all_goals
    go_enter Try.func7, Try.ntmps7
    go_wp2
    go_ret2
    exact ⟨rfl, rfl⟩

theorem left_hi (b : Nat) (l n s : Int) (w : World) (h : Clk w b l n s)
    (hl : (l == 0) = false) (l1 : 0 ≤ l) (l2 : l < 4611686018427387904) (n1 : 0 ≤ n) (n2 : n < 4611686018427387904) (hle : l ≤ n) :
    Calls Try.prog 10 #[.pointer (some ⟨b, 0, none⟩)] w fun e w' => e = .returned (.int .i64 0) ∧ ∃ m, w' = w.drewN m :=
  (left_any b l n s w h hl l1 l2 n1 n2).mono fun _ _ ⟨he, hw⟩ => ⟨by rw [he]; exact ret_int (by omega), hw⟩

theorem left_lo (b : Nat) (l n s : Int) (w : World) (h : Clk w b l n s)
    (hl : (l == 0) = false) (l1 : 0 ≤ l) (l2 : l < 4611686018427387904) (n1 : 0 ≤ n) (n2 : n < 4611686018427387904) (hle : n ≤ l) :
    Calls Try.prog 10 #[.pointer (some ⟨b, 0, none⟩)] w fun e w' => e = .returned (.int .i64 (l - n)) ∧ ∃ m, w' = w.drewN m :=
  (left_any b l n s w h hl l1 l2 n1 n2).mono fun _ _ ⟨he, hw⟩ => ⟨by rw [he]; exact ret_int (by omega), hw⟩
end Go.Proofs.Ytnecdcjgpkiomaa
