/- Passed, of both; rows of any length. -/
import Derived.Test.YtaggoepiandblaaI
import Derived.Test.YtaggoepiandblaaC
namespace Go.Proofs.Ytaggoepiandblaa
open Go.RowKit
set_option linter.unusedVariables false

/-- passed: for a row of any length -/
def passx (n m : Nat) (f : Nat → Int) (me : Int) (z : Nat → Int) : Bool := decide (m = n) && passb n f me z

set_option maxHeartbeats 400000 in
theorem passed_any (b n : Nat) (f : Nat → Int) (w : World) (h : Sl w b n f) (me : Int) (ao : Option Addr) (m c : Nat) (z : Nat → Int) (hn : 0 < n) (hz : IRow w ao m z) :
    Calls Try.prog 12 #[.pointer (some ⟨b, 0, none⟩), .int .i64 me, .slice ao m c] w fun e w' => e = .returned (.bool (passx n m f me z)) ∧ w.grownBy w' none := by
  by_cases hmn : m = n
  · subst hmn
    have : passx m m f me z = passb m f me z := by simp [passx]
    rw [this]
    exact passed_same _ _ _ _ h _ _ _ _ hn hz
  · have hp : passx n m f me z = false := by simp [passx, hmn]
    rw [hp]
    have hn0 : ((n : Int) == 0) = false := by rw [beq_eq_false_iff_ne]; omega
    have hne : ((m : Int) != n) = true := by rw [bne_iff_ne]; omega
    have hcn := h.cn
    clear hp hmn hz
    go_enter Try.func12, Try.ntmps12
    go_wp2_with fail
    refine (len_any _ _ _ _ h).mono ?_
    rintro e w1 ⟨rfl, hg⟩
    have hcn1 := hg.cell hcn (by simp)
    clear hcn
    go_wp2_with fail
    go_ret
    exact ⟨rfl, hg⟩

set_option maxHeartbeats 800000 in
theorem rpassed_any (so : Option Addr) (n sc : Nat) (f : Nat → Int) (w : World) (hf : IRow w so n f) (h64 : n ≤ 64) (me : Int) (ao : Option Addr) (m c : Nat) (z : Nat → Int) (hz : IRow w ao m z) :
    Calls Try.prog 16 #[.agg #[.slice so n sc], .int .i64 me, .slice ao m c] w fun e w' => e = .returned (.bool (passx n m f me z)) ∧ w.grownBy w' none := by
  have hg0 := g_alloc (g_refl w none) (.cells #[.slice so n sc] 38)
  have hbl := Blk.new w #[.slice so n sc] 38
  have hc0 := hbl.cell 0 (.slice so n sc) rfl
  by_cases hmn : m = n
  · subst hmn
    have hpx : passx m m f me z = passb m f me z := by simp [passx]
    rw [hpx]
    have hfk := hf.keep hg0
    have hzk := hz.keep hg0
    clear hf hz hpx hbl
    go_enter Try.func16, Try.ntmps16
    have HZ := Lib.hid hzk
    have HF := Lib.hid hfk
    clear hzk hfk
    go_wp2_with fail
    generalize w.alloc (.cells #[.slice so m sc] 38) = W at hc0 hg0 HF HZ ⊢
    go_loopw [7] (fun i wr => ∃ k : Nat, k ≤ m ∧ i = .int .i64 k ∧ (∀ t, t < k → okAt f me z t) ∧ W.grownBy wr none) (fun i _ => (300 - intOf i).toNat)
    case atStart => exact ⟨0, by omega, rfl, fun t ht => absurd ht (Nat.not_lt_zero _), g_refl _ _⟩
    case round =>
      obtain ⟨k, hk, rfl, hok, hgr⟩ := hrel
      have hc1 := hgr.cell hc0 (by simp)
      obtain ⟨wo, hwo⟩ : ∃ wo : World, wo = wr := ⟨_, rfl⟩
      rw [← hwo] at hc1 hgr ⊢
      clear hwo
      have HOK := Lib.hid hok
      clear hok
      by_cases hlt : k < m
      · obtain ⟨bb, off, rfl, hzc⟩ := HZ.out.keep hgr k hlt
        obtain ⟨bf, offf, rfl, hfc⟩ := HF.out.keep hgr k hlt
        have hkm : (k : Int) < m := by omega
        by_cases c1 : me = (k : Int)
        · subst c1
          have HK : Hid (okAt f k z k) := Lib.hid (by unfold okAt; simp)
          go_wp2_with fail
          go_quiet (fail)
          go_wp2_with fail
          go_roundw
          case rel => exact ⟨k + 1, by omega, by go_num, fun t ht => by
            by_cases e : t = k
            · subst e; exact HK.out
            · exact HOK.out t (by omega), g_drewN hgr _⟩
          case measure => simp [intOf]; omega
        · have b1 : ((k : Int) != me) = true := bne_iff_ne.2 (fun e => c1 e.symm)
          by_cases c2 : z k % 2 = 0
          · have HK : Hid (okAt f me z k) := Lib.hid (by unfold okAt; simp [c2])
            have b2 : ((z k).tmod 2 != 0) = false := by simpa using (tmod2 _).2 c2
            clear c1 c2
            generalize z k = zk at *
            go_wp2_with fail
            go_quiet (fail)
            go_wp2_with fail
            go_roundw
            case rel => exact ⟨k + 1, by omega, by go_num, fun t ht => by
              by_cases e : t = k
              · subst e; exact HK.out
              · exact HOK.out t (by omega), g_drewN hgr _⟩
            case measure => simp [intOf]; omega
          · have b2 : ((z k).tmod 2 != 0) = true := bne_iff_ne.2 (fun e => c2 ((tmod2 _).1 e))
            by_cases c3 : z k = f k
            · have hno : ¬ okAt f me z k := fun h => h ⟨fun e => c1 e.symm, c2, c3⟩
              have hp : passb m f me z = false := by unfold passb; exact decide_eq_false (fun h => hno (h k hlt))
              have HP := Lib.hid hp
              clear hp hno c1 c2
              rw [c3] at b2 hzc
              clear c3
              go_wp2_with fail
              go_quiet (fail)
              go_wp2_with fail
              go_ret
              exact ⟨ret_bool HP.out.symm, g_trans hg0 (g_drewN hgr _)⟩
            · have HK : Hid (okAt f me z k) := Lib.hid (fun h => c3 h.2.2)
              have b3 : (z k == f k) = false := beq_eq_false_iff_ne.2 c3
              clear c1 c2 c3
              go_wp2_with fail
              go_quiet (fail)
              go_wp2_with fail
              go_roundw
              case rel => exact ⟨k + 1, by omega, by go_num, fun t ht => by
                by_cases e : t = k
                · subst e; exact HK.out
                · exact HOK.out t (by omega), g_drewN hgr _⟩
              case measure => simp [intOf]; omega
      · have hp : passb m f me z = true := by unfold passb; exact decide_eq_true (fun t ht => HOK.out t (by omega))
        have HP := Lib.hid hp
        clear hp
        go_wp2_with fail
        go_ret
        exact ⟨ret_bool HP.out.symm, g_trans hg0 hgr⟩
  · have hp : passx n m f me z = false := by simp [passx, hmn]
    rw [hp]
    have hne : ((m : Int) != n) = true := by rw [bne_iff_ne]; omega
    clear hp hmn hz hf hbl
    go_enter Try.func16, Try.ntmps16
    go_wp2_with fail
    go_ret
    exact ⟨rfl, hg0⟩
end Go.Proofs.Ytaggoepiandblaa
