/- The document's row of taken records, each function by its contract. -/
import Derived.Test.YtgfpmmiaidnfeaaE
import Derived.Test.YtgfpmmiaidnfeaaF
namespace Go.Proofs.Ytgfpmmiaidnfeaa
open Go.RowKit
set_option linter.unusedVariables false

theorem lastV_of {L : List (Int × Int)} (h : NoTwice L) {m : Nat} {p : Int × Int} (hp : L[m]? = some p) : ∀ k, m + 1 ≤ k → lastV (L.take k) p.1 = some p.2 := fun k hk => by
  induction k with
  | zero => omega
  | succ k ih =>
    cases hq : L[k]? with
    | none => rw [List.take_add_one, hq, Option.toList_none, List.append_nil]; exact ih (by
        have h1 : m < L.length := (List.getElem?_eq_some_iff.1 hp).1
        have h2 : L.length ≤ k := List.getElem?_eq_none_iff.1 hq
        omega)
    | some q =>
      rw [lastV_take hq]
      by_cases hm : m = k
      · subst hm
        rw [hp] at hq
        cases hq
        rw [if_pos rfl]
      · have h3 := ih (by omega)
        have h4 := h k q hq
        split
        · rename_i e
          rw [e] at h4
          rw [h4] at h3
          cases h3
        · exact h3
theorem lastV_has {L : List (Int × Int)} (h : NoTwice L) {m : Nat} {p : Int × Int} (hp : L[m]? = some p) : lastV L p.1 = some p.2 := by
  have := lastV_of h hp L.length (List.getElem?_eq_some_iff.1 hp).1
  rwa [List.take_length] at this
theorem lastV_no {L : List (Int × Int)} {o : Int} (h : ∀ (m : Nat) (p : Int × Int), L[m]? = some p → p.1 ≠ o) : lastV L o = none := by
  suffices ∀ k, lastV (L.take k) o = none by have := this L.length; rwa [List.take_length] at this
  intro k
  induction k with
  | zero => rfl
  | succ k ih =>
    cases hq : L[k]? with
    | none => rw [List.take_add_one, hq, Option.toList_none, List.append_nil]; exact ih
    | some q => rw [lastV_take hq, if_neg (h k q hq)]; exact ih

set_option maxHeartbeats 800000 in
theorem rhas_any (ao : Option Addr) (c : Nat) (L : List (Int × Int)) (w : World) (h : SRow w ao L) (hl : L.length < 4000) (hnt : NoTwice L) (o : Int) :
    Calls Try.prog 16 #[.agg #[.slice ao L.length c], .int .i64 o] w fun e w' => e = .returned (.tuple #[.int .i64 ((lastV L o).getD 0), .bool (lastV L o).isSome]) ∧ w.grownBy w' none := by
  have g0 := g_alloc (g_refl w none) (.cells #[.slice ao L.length c] 41)
  have hb := Blk.new w #[.slice ao L.length c] 41
  have hk := h.keep g0
  have c0 := hb.cell 0 (.slice ao L.length c) rfl
  have HR := Lib.hid hk
  have HNT := Lib.hid hnt
  clear h hk hb hnt
  obtain ⟨n, hn⟩ : ∃ n, L.length = n := ⟨_, rfl⟩
  rw [hn] at c0 ⊢
  have hn4 : n < 4000 := by omega
  have HN := Lib.hid hn
  clear hl
  rw [hn] at g0 HR
  clear hn
  go_enter Try.func16, Try.ntmps16
  go_wp2_with fail
  go_loop [6] (fun i => ∃ m : Nat, m ≤ n ∧ i = .int .i64 m ∧ ∀ (j : Nat) (p : Int × Int), j < m → L[j]? = some p → p.1 ≠ o) (fun i => (5000 - intOf i).toNat)
  case atStart => exact ⟨0, by omega, rfl, fun j p hj => absurd hj (Nat.not_lt_zero _)⟩
  case round =>
    obtain ⟨m, hm, rfl, hno⟩ := hrel
    have HNO := Lib.hid hno
    clear hno
    by_cases hlt : m < n
    · obtain ⟨p, hp⟩ : ∃ p, L[m]? = some p := ⟨L[m]'(by rw [HN.out]; omega), List.getElem?_eq_getElem _⟩
      obtain ⟨bb, off, rfl, hc1, hc2⟩ := HR.out m p hp
      by_cases he : p.1 = o
      · have hv := lastV_has HNT.out hp
        rw [he] at hv
        have hb : (p.1 == o) = true := beq_iff_eq.2 he
        have HV := Lib.hid hv
        have hmn : (m : Int) < n := by omega
        obtain ⟨p1, p2⟩ := p
        simp only at hc1 hc2 hb he
        subst he
        clear hp hv hb
        go_wp2_with fail
        go_ret2
        exact ⟨by rw [HV.out]; rfl, g0⟩
      · have hb : (p.1 == o) = false := beq_eq_false_iff_ne.2 he
        have HP := Lib.hid hp
        have HE := Lib.hid he
        clear hp he
        go_wp2_with fail
        go_round
        case rel => exact ⟨m + 1, by omega, by go_num, fun j q hj hq => by
          by_cases e : j = m
          · subst e
            have := HP.out.symm.trans hq
            cases this
            exact HE.out
          · exact HNO.out j q (by omega) hq⟩
        case measure => simp [intOf]; omega
    · have hv : lastV L o = none := lastV_no (fun j p hp => HNO.out j p (by have := (List.getElem?_eq_some_iff.1 hp).1; have := HN.out; omega) hp)
      have HV := Lib.hid hv
      clear hv
      go_wp2_with fail
      go_ret2
      exact ⟨by rw [HV.out]; rfl, g0⟩
end Go.Proofs.Ytgfpmmiaidnfeaa
