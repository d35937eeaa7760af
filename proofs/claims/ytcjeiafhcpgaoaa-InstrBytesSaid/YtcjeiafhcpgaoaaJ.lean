/- The kind of a name. -/
import Derived.Test.YtcjeiafhcpgaoaaI
namespace Go.Proofs.Ytcjeiafhcpgaoaa
open Go.RowKit
set_option linter.unusedVariables false

theorem tl_inj {a b : ByteArray} (h : a.toList = b.toList) : a = b := by
  rw [ByteArray.toList_eq, ByteArray.toList_eq] at h
  exact ByteArray.ext (Array.toList_inj.1 h)
theorem tl_ne {a b : ByteArray} (h : a ≠ b) : (a.toList == b.toList) = false := beq_eq_false_iff_ne.2 (fun e => h (tl_inj e))
theorem tl_self (a : ByteArray) : (a.toList == a.toList) = true := beq_self_eq_true _
/-- what is told of a name -/
def Named (s : ByteArray) (a : Int) (ok : Bool) : Prop :=
  (ok = true ∧ ∃ n : Nat, a = n ∧ 1 ≤ n ∧ n ≤ 20 ∧ nmB n = s ∧ ∀ j, 1 ≤ j → j < n → nmB j ≠ s) ∨ (ok = false ∧ a = 0 ∧ ∀ j, 1 ≤ j → j ≤ 20 → nmB j ≠ s)
theorem ix61' {k : Nat} (h2 : k ≤ 20) (w : World) : (Instr.index 61 (.agg F84) (.int .i64 k)).run Try.prog w = .ok (.agg #[.string (nmB k), .int .i64 (sA k), .int .i64 (sB k), .int .i64 (sC k)]) w := by
  by_cases h : 1 ≤ k
  · exact ix61 h h2 w
  · obtain rfl : k = 0 := by omega
    kernel_rfl

set_option maxRecDepth 100000 in
set_option maxHeartbeats 1600000 in
theorem byname_any (s : ByteArray) (w : World) : Calls Try.prog 14 #[.string s] w fun e w' => ∃ a ok, e = .returned (.tuple #[.int .i64 a, .bool ok]) ∧ Named s a ok ∧ w.grownBy w' none := by
  go_enter Try.func14, Try.ntmps14
  go_wp2_with fail
  refine (forms_any _).mono ?_
  rintro e w1 ⟨rfl, hg⟩
  go_wp2_with fail
  go_loopw [7] (fun i wr => ∃ k : Nat, k ≤ 21 ∧ i = .int .i64 k ∧ (∀ j, 1 ≤ j → j < k → nmB j ≠ s) ∧ w.grownBy wr none) (fun i _ => (50 - intOf i).toNat)
  case atStart => exact ⟨0, by omega, rfl, fun j _ h => absurd h (Nat.not_lt_zero _), hg⟩
  case round =>
    obtain ⟨k, hk, rfl, hno, hgr⟩ := hrel
    by_cases hlt : k < 21
    · have hix := ix61' (k := k) (by omega)
      have HNO := Lib.hid hno
      have HGR := Lib.hid hgr
      have hkb : (k : Int) < 21 := by omega
      obtain ⟨nm, hnm⟩ : ∃ nm, nmB k = nm := ⟨_, rfl⟩
      rw [hnm] at hix
      generalize sA k = s0 at *
      generalize sB k = s1 at *
      generalize sC k = s2 at *
      have HNM := Lib.hid hnm
      have g2 := g_alloc (g_refl wr none) (.cells #[.string nm, .int .i64 s0, .int .i64 s1, .int .i64 s2] 49)
      have fb := (Blk.new wr #[.string nm, .int .i64 s0, .int .i64 s1, .int .i64 s2] 49).cell 0 (.string nm) rfl
      have HG2 := Lib.hid (g_trans hgr g2)
      clear hno hgr g2 hnm hg
      by_cases hk0 : k = 0
      · subst hk0
        have hix0 : ∀ w, (Instr.index 61 (.agg F84) (.int .i64 0)).run Try.prog w = .ok (.agg #[.string nm, .int .i64 s0, .int .i64 s1, .int .i64 s2]) w := hix
        clear hix
        rw [show ((0 : Nat) : Int) = 0 from rfl]
        go_wp2_with fail
        go_roundw
        case rel => exact ⟨1, by omega, by go_num, fun j h1 h2 => by omega, HG2.out⟩
        case measure => simp [intOf]
      · have hkp : (0 : Int) < k := by omega
        by_cases he : nm = s
        · subst he
          have hbt := tl_self nm
          have HE : Hid (∃ n : Nat, (k : Int) = n ∧ 1 ≤ n ∧ n ≤ 20 ∧ nmB n = nm ∧ ∀ j, 1 ≤ j → j < n → nmB j ≠ nm) := Lib.hid ⟨k, rfl, by omega, by omega, HNM.out, HNO.out⟩
          go_wp2_with fail
          go_ret2
          exact ⟨_, _, rfl, .inl ⟨rfl, HE.out⟩, HG2.out⟩
        · have hbf := tl_ne he
          have HEE := Lib.hid he
          clear he
          go_wp2_with fail
          go_roundw
          case rel => exact ⟨k + 1, by omega, by go_num, fun j h1 h2 => by
            by_cases e : j = k
            · subst e; rw [HNM.out]; exact HEE.out
            · exact HNO.out j h1 (by omega), HG2.out⟩
          case measure => simp [intOf]; omega
    · obtain rfl : k = 21 := by omega
      have HNO := Lib.hid hno
      have HGR := Lib.hid hgr
      clear hno hgr hg
      go_wp2_with fail
      go_ret2
      exact ⟨_, _, rfl, .inr ⟨rfl, rfl, fun j h1 h2 => HNO.out j h1 (by omega)⟩, HGR.out⟩

set_option maxRecDepth 100000 in
set_option maxHeartbeats 1600000 in
theorem rbyname_any (s : ByteArray) (w : World) : Calls Try.prog 15 #[.string s] w fun e w' => ∃ a ok, e = .returned (.tuple #[.int .i64 a, .bool ok]) ∧ Named s a ok ∧ w.grownBy w' none := by
  go_enter Try.func15, Try.ntmps15
  go_wp2_with fail
  go_loopw [4] (fun i wr => ∃ k : Nat, 1 ≤ k ∧ k ≤ 21 ∧ i = .int .i64 k ∧ (∀ j, 1 ≤ j → j < k → nmB j ≠ s) ∧ w.grownBy wr none) (fun i _ => (50 - intOf i).toNat)
  case atStart => exact ⟨1, by omega, by omega, rfl, fun j h1 h => by omega, g_refl _ _⟩
  case round =>
    obtain ⟨k, hk1, hk, rfl, hno, hgr⟩ := hrel
    have HNO := Lib.hid hno
    have HGR := Lib.hid hgr
    clear hno hgr
    by_cases hlt : k < 21
    · have hkb : (k : Int) < 21 := by omega
      have hn := n21 hk1 (by omega)
      obtain ⟨nm, hnm⟩ : ∃ nm, nmB k = nm := ⟨_, rfl⟩
      rw [hnm] at hn
      have HNM := Lib.hid hnm
      have HN := Lib.hid hn
      clear hnm hn
      go_wp2_with fail
      refine (names_any _).mono ?_
      rintro e w2 ⟨rfl, -, hg2⟩
      go_wp2_with fail
      refine (names_any _).mono ?_
      rintro e w3 ⟨rfl, hb3, hg3⟩
      have c3 := hb3.cell k _ HN.out
      have HG3 := Lib.hid (g_trans (g_trans HGR.out hg2) hg3)
      clear hb3 hg2 hg3
      by_cases he : nm = s
      · subst he
        have hbt := tl_self nm
        have HE : Hid (∃ n : Nat, (k : Int) = n ∧ 1 ≤ n ∧ n ≤ 20 ∧ nmB n = nm ∧ ∀ j, 1 ≤ j → j < n → nmB j ≠ nm) := Lib.hid ⟨k, rfl, by omega, by omega, HNM.out, HNO.out⟩
        go_wp2_with fail
        go_ret2
        exact ⟨_, _, rfl, .inl ⟨rfl, HE.out⟩, HG3.out⟩
      · have hbf := tl_ne he
        have HEE := Lib.hid he
        clear he
        go_wp2_with fail
        go_roundw
        case rel => exact ⟨k + 1, by omega, by omega, by go_num, fun j h1 h2 => by
          by_cases e : j = k
          · subst e; rw [HNM.out]; exact HEE.out
          · exact HNO.out j h1 (by omega), HG3.out⟩
        case measure => simp [intOf]; omega
    · obtain rfl : k = 21 := by omega
      go_wp2_with fail
      refine (names_any _).mono ?_
      rintro e w2 ⟨rfl, -, hg2⟩
      go_wp2_with fail
      go_ret2
      exact ⟨_, _, rfl, .inr ⟨rfl, rfl, fun j h1 h2 => HNO.out j h1 (by omega)⟩, g_trans HGR.out hg2⟩

theorem Named.det {s : ByteArray} {a b : Int} {p q : Bool} (h : Named s a p) (k : Named s b q) : a = b ∧ p = q := by
  rcases h with ⟨rfl, n, rfl, h1, h2, h3, h4⟩ | ⟨rfl, rfl, h1⟩ <;> rcases k with ⟨rfl, m, rfl, k1, k2, k3, k4⟩ | ⟨rfl, rfl, k1⟩
  · refine ⟨?_, rfl⟩
    rcases Nat.lt_trichotomy n m with e | e | e
    · exact absurd h3 (k4 n h1 e)
    · rw [e]
    · exact absurd k3 (h4 m k1 e)
  · exact absurd h3 (k1 n h1 h2)
  · exact absurd k3 (h1 m k1 k2)
  · exact ⟨rfl, rfl⟩
end Go.Proofs.Ytcjeiafhcpgaoaa
