/- The epochs' slots: New, Enter, Leave, Passed, Snap, each by its contract. -/
import Derived.Test.YtaggoepiandblaaA
namespace Go.Proofs.Ytaggoepiandblaa
open Go.RowKit

/-- no slot has moved, so many threads -/
def zeros : Array Value := Array.replicate 65 (.int .i64 0)
theorem zero57 (w : World) : (zeroValue 57).run Try.prog w = .ok (.agg zeros) w := by kernel_rfl
theorem zeros_size : ¬ zeros.size < 65 := by unfold zeros; simp

set_option maxHeartbeats 800000 in
theorem new_ok (l : Nat) (w : World) (l1 : 1 ≤ l) (l2 : l ≤ 64) :
    Calls Try.prog 6 #[.int .i64 l] w fun e w' => e = .returned (.tuple #[.pointer (some ⟨w.heap.size, 0, none⟩), .int .i64 0]) ∧ Sl w' w.heap.size l (fun _ => 0) ∧ w.grownBy w' none := by
  have h1 : (1 : Int) ≤ l := by omega
  have h2 : (l : Int) ≤ 64 := by omega
  have hz := zero57
  have hs := zeros_size
  go_enter Try.func6, Try.ntmps6
  go_wp2
  go_ret2
  refine ⟨rfl, ⟨l2, _, Blk.new _ _ _, fun i hi => ?_, ?_⟩, g_alloc (g_refl _ _) _⟩
  · rw [Array.getElem?_setIfInBounds_ne (by omega)]
    unfold zeros
    rw [Array.getElem?_replicate, if_pos (by omega)]
  · rw [Array.getElem?_setIfInBounds_self_of_lt (by unfold zeros; simp)]

set_option maxHeartbeats 400000 in
theorem new_no (l : Int) (w : World) (h : l < 1 ∨ 64 < l) :
    Calls Try.prog 6 #[.int .i64 l] w fun e w' => e = .returned (.tuple #[.pointer none, .int .i64 50]) ∧ w = w' := by
  rcases h with h | h
  all_goals
    go_enter Try.func6, Try.ntmps6
    go_wp2
    go_ret2
    exact ⟨rfl, rfl⟩

set_option maxHeartbeats 400000 in
theorem enter_any (b n : Nat) (f : Nat → Int) (w : World) (h : Sl w b n f) (t : Int) (hn : 0 < n) (hp : 0 ≤ sat n f t) (hp2 : sat n f t < 1000000) :
    Calls Try.prog 8 #[.pointer (some ⟨b, 0, none⟩), .int .i64 t] w fun e w' => e = .returned (.int .i64 (turnR n f t false)) ∧ Sl w' b n (turnF n f t false) ∧ w.grownBy w' (some b) := by
  go_enter Try.func8, Try.ntmps8
  go_wp2_with fail
  refine (turn_any _ _ _ _ h _ _ hn hp hp2).mono ?_
  rintro e w1 ⟨rfl, h1, hg⟩
  go_wp2_with fail
  go_ret
  exact ⟨rfl, h1, hg⟩

set_option maxHeartbeats 400000 in
theorem leave_any (b n : Nat) (f : Nat → Int) (w : World) (h : Sl w b n f) (t : Int) (hn : 0 < n) (hp : 0 ≤ sat n f t) (hp2 : sat n f t < 1000000) :
    Calls Try.prog 9 #[.pointer (some ⟨b, 0, none⟩), .int .i64 t] w fun e w' => e = .returned (.int .i64 (turnR n f t true)) ∧ Sl w' b n (turnF n f t true) ∧ w.grownBy w' (some b) := by
  go_enter Try.func9, Try.ntmps9
  go_wp2_with fail
  refine (turn_any _ _ _ _ h _ _ hn hp hp2).mono ?_
  rintro e w1 ⟨rfl, h1, hg⟩
  go_wp2_with fail
  go_ret
  exact ⟨rfl, h1, hg⟩

/-- a slice of n numbers, as it reads -/
def IRow (w : World) (ao : Option Addr) (n : Nat) (z : Nat → Int) : Prop := ∀ i, i < n → ∃ b off, ao = some ⟨b, off, none⟩ ∧ w.cell? ⟨b, off + i, none⟩ = some (.int .i64 (z i))
theorem IRow.keep {w w' : World} {ao : Option Addr} {n : Nat} {z : Nat → Int} (h : IRow w ao n z) (g : w.grownBy w' none) : IRow w' ao n z := fun i hi => by
  obtain ⟨b, off, h1, h2⟩ := h i hi
  exact ⟨b, off, h1, g.cell h2 (by simp)⟩

/-- has everybody gone on? -/
def okAt (f : Nat → Int) (me : Int) (z : Nat → Int) (t : Nat) : Prop := ¬ ((t : Int) ≠ me ∧ z t % 2 ≠ 0 ∧ z t = f t)
instance (f : Nat → Int) (me : Int) (z : Nat → Int) (t : Nat) : Decidable (okAt f me z t) := by unfold okAt; infer_instance
def passb (n : Nat) (f : Nat → Int) (me : Int) (z : Nat → Int) : Bool := decide (∀ t, t < n → okAt f me z t)

theorem tmod2 (z : Int) : z.tmod 2 = 0 ↔ z % 2 = 0 :=
  ⟨fun h => Int.emod_eq_zero_of_dvd (Int.dvd_of_tmod_eq_zero h), fun h => Int.tmod_eq_zero_of_dvd (Int.dvd_of_emod_eq_zero h)⟩

set_option maxHeartbeats 800000 in
theorem passed_same (b n : Nat) (f : Nat → Int) (w : World) (h : Sl w b n f) (me : Int) (ao : Option Addr) (c : Nat) (z : Nat → Int) (hn : 0 < n) (hz : IRow w ao n z) :
    Calls Try.prog 12 #[.pointer (some ⟨b, 0, none⟩), .int .i64 me, .slice ao n c] w fun e w' => e = .returned (.bool (passb n f me z)) ∧ w.grownBy w' none := by
  have hn0 : ((n : Int) == 0) = false := by rw [beq_eq_false_iff_ne]; omega
  have h64 := h.1
  have hcn := h.cn
  have HZ := Lib.hid hz
  clear hz
  go_enter Try.func12, Try.ntmps12
  go_wp2_with fail
  refine (len_any _ _ _ _ h).mono ?_
  rintro e w1 ⟨rfl, hg⟩
  have hcn1 := hg.cell hcn (by simp)
  clear hcn
  go_wp2_with fail
  go_loopw [23] (fun i wr => ∃ k : Nat, k ≤ n ∧ i = .int .i64 k ∧ (∀ t, t < k → okAt f me z t) ∧ w.grownBy wr none) (fun i _ => (300 - intOf i).toNat)
  case atStart => exact ⟨0, by omega, rfl, fun t ht => absurd ht (Nat.not_lt_zero _), hg⟩
  case round =>
    obtain ⟨k, hk, rfl, hok, hgr⟩ := hrel
    have HOK := Lib.hid hok
    clear hok hcn1
    by_cases hlt : k < n
    · obtain ⟨bb, off, rfl, hzc0⟩ := HZ.out k hlt
      have hzc := hgr.cell hzc0 (by simp)
      clear hzc0
      have hsl := h.keep hgr
      by_cases c1 : me = (k : Int)
      · subst c1
        have HK : Hid (okAt f k z k) := Lib.hid (by unfold okAt; simp)
        go_wp2_with fail
        go_roundw
        case rel => exact ⟨k + 1, by omega, by go_num, fun t ht => by
          by_cases e : t = k
          · subst e; exact HK.out
          · exact HOK.out t (by omega), hgr⟩
        case measure => simp [intOf]; omega
      · have b1 : ((k : Int) != me) = true := bne_iff_ne.2 (fun e => c1 e.symm)
        by_cases c2 : z k % 2 = 0
        · have HK : Hid (okAt f me z k) := Lib.hid (by unfold okAt; simp [c2])
          have b2 : ((z k).tmod 2 != 0) = false := by simpa using (tmod2 _).2 c2
          clear c1 c2
          generalize z k = zk at *
          go_wp2_with fail
          go_roundw
          case rel => exact ⟨k + 1, by omega, by go_num, fun t ht => by
            by_cases e : t = k
            · subst e; exact HK.out
            · exact HOK.out t (by omega), hgr⟩
          case measure => simp [intOf]; omega
        · have b2 : ((z k).tmod 2 != 0) = true := bne_iff_ne.2 (fun e => c2 ((tmod2 _).1 e))
          by_cases c3 : z k = f k
          · have hno : ¬ okAt f me z k := fun h => h ⟨fun e => c1 e.symm, c2, c3⟩
            have hp : passb n f me z = false := by unfold passb; exact decide_eq_false (fun h => hno (h k hlt))
            have HP := Lib.hid hp
            have b3 := beq_iff_eq.2 c3
            clear hp hno c1 c2
            rw [c3] at b2 hzc
            clear b3 c3
            go_wp2_with fail
            refine (at_in _ _ _ _ hsl k hlt).mono ?_
            rintro e w2 ⟨rfl, hg2⟩
            go_wp2_with fail
            go_ret
            exact ⟨ret_bool HP.out.symm, g_trans hgr hg2⟩
          · have HK : Hid (okAt f me z k) := Lib.hid (fun h => c3 h.2.2)
            have b3 : (z k == f k) = false := beq_eq_false_iff_ne.2 c3
            clear c1 c2 c3
            go_wp2_with fail
            refine (at_in _ _ _ _ hsl k hlt).mono ?_
            rintro e w2 ⟨rfl, hg2⟩
            go_wp2_with fail
            go_roundw
            case rel => exact ⟨k + 1, by omega, by go_num, fun t ht => by
              by_cases e : t = k
              · subst e; exact HK.out
              · exact HOK.out t (by omega), g_trans hgr hg2⟩
            case measure => simp [intOf]; omega
    · have hp : passb n f me z = true := by unfold passb; exact decide_eq_true (fun t ht => HOK.out t (by omega))
      have HP := Lib.hid hp
      clear hp
      go_wp2_with fail
      go_ret
      exact ⟨ret_bool HP.out.symm, hgr⟩

theorem info3 : (Try.prog.info? 3).map (fun i => (i.zero, i.size, i.bytes)) = some (some (.int .i64 0), 1, 8) := by kernel_rfl
/-- the first k slots -/
def firstK (f : Nat → Int) (k : Nat) : List Value := (List.range k).map fun i => .int .i64 (f i)
theorem firstK_succ (f : Nat → Int) (k : Nat) : firstK f (k + 1) = firstK f k ++ [.int .i64 (f k)] := by simp [firstK, List.range_succ]

set_option maxHeartbeats 800000 in
theorem snap_any (b n : Nat) (f : Nat → Int) (w : World) (h : Sl w b n f) :
    Calls Try.prog 10 #[.pointer (some ⟨b, 0, none⟩)] w fun e w' => ∃ v, e = .returned v ∧ w'.ownsRow w.heap.size 3 1 v n (firstK f n) ∧ w.grownBy w' none := by
  obtain ⟨i0, hi, hz0, hz1, hz2⟩ := info_parts info3
  have h64 := h.1
  go_enter Try.func10, Try.ntmps10
  go_wp2_with fail
  refine (len_any _ _ _ _ h).mono ?_
  rintro e w1 ⟨rfl, hg⟩
  go_wp2_with fail
  go_loopw [3, 7] (fun v i wr => ∃ k : Nat, k ≤ n ∧ i = .int .i64 k ∧ wr.ownsRow w.heap.size 3 1 v k (firstK f k) ∧ w.grownBy wr none) (fun _ i _ => (300 - intOf i).toNat)
  case atStart => exact ⟨0, by omega, rfl, World.ownsRow_nil _ _ _ _, hg⟩
  case round =>
    obtain ⟨k, hk, rfl, hown, hgr⟩ := hrel
    by_cases hlt : k < n
    · go_wp2_with fail
      refine (at_in _ _ _ _ (h.keep hgr) k hlt).mono ?_
      rintro e w2 ⟨rfl, hg2⟩
      have hown2 := own_keepn hown hg2
      have hgr2 := g_trans hgr hg2
      clear hown
      have HO := Lib.hid hown2
      clear hown2
      go_wp2_with (at_builtin; refine wpList_append_own _ rfl _ _ 28 rfl w.heap.size 3 i0 (.int .i64 0) 1 8 Try.underlying28 hi hz0 hz1 hz2 rfl (by decide) _ _ _ rfl (HO.out.alloc _) ⟨w2.heap.size, 0, none⟩ 1 1 [.int .i64 (f k)] rfl rfl ?c1 ?c2 ?c3 ?c4 ?c5 ?_)
      case c1 => exact new_cells _ _ _
      case c2 => simp [Value.oneCell']
      case c3 => unfold maxLen; omega
      case c4 => omega
      case c5 => have := hgr2.size; simp; omega
      intro v' w3 hown3 hgrow _
      have hgr3 := g_own (g_alloc hgr2 _) (HO.out.alloc _) hgrow
      rw [← firstK_succ] at hown3
      clear hgrow
      go_wp2_with fail
      go_roundw
      case rel => exact ⟨k + 1, by omega, by go_num, hown3, hgr3⟩
      case measure => simp [intOf]; omega
    · obtain rfl : k = n := by omega
      go_wp2_with fail
      go_ret
      exact ⟨_, rfl, hown, hgr⟩
end Go.Proofs.Ytaggoepiandblaa
