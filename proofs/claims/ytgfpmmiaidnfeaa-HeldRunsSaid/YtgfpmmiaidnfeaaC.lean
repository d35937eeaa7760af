/- The taken records: Add; the example at the laws' head. -/
import Derived.Test.YtgfpmmiaidnfeaaB
namespace Go.Proofs.Ytgfpmmiaidnfeaa
open Go.RowKit
set_option linter.unusedVariables false

def badA (o v : Int) : Prop := o < 0 ∨ 1024 ≤ o ∨ v < 0 ∨ 2199023255552 < v
instance (o v : Int) : Decidable (badA o v) := by unfold badA; infer_instance
/-- what Add answers, what is held behind it -/
def addR (L : List (Int × Int)) (o v : Int) : Int := if badA o v then 1 else if (lastV L o).isSome then 80 else 0
def addL (L : List (Int × Int)) (o v : Int) : List (Int × Int) := if badA o v then L else if (lastV L o).isSome then L else L ++ [(o, v)]

set_option maxHeartbeats 800000 in
theorem add_any (b : Nat) (A : Nat → Prop) (L : List (Int × Int)) (w : World) (h : Hd w b A L) (o v : Int) (hl : L.length < 4000) :
    Calls Try.prog 9 #[.pointer (some ⟨b, 0, none⟩), .int .i64 o, .int .i64 v] w fun e w' => e = .returned (.int .i64 (addR L o v)) ∧ Hd w' b (fun g => A g ∨ w.heap.size ≤ g) (addL L o v) ∧ Tr (fun i => i = b ∨ A i) w w' := by
  by_cases hbad : badA o v
  · have hr : addR L o v = 1 := by unfold addR; rw [if_pos hbad]
    have hL : addL L o v = L := by unfold addL; rw [if_pos hbad]
    rw [hr, hL]
    have fin : ∀ w1, w.grownBy w1 none → Hd w1 b (fun g => A g ∨ w.heap.size ≤ g) L ∧ Tr (fun i => i = b ∨ A i) w w1 := fun w1 hg => ⟨(h.keep hg).mono (fun _ _ h => .inl h), tr_g hg _⟩
    have H := Lib.hid h
    have FIN := Lib.hid fin
    clear h fin
    clear hr hL
    unfold badA at hbad
    by_cases c1 : o < 0
    · clear hbad
      go_enter Try.func9, Try.ntmps9
      go_wp2_with fail
      refine (none_any _ _ _ _ H.out).mono ?_
      rintro e w1 ⟨rfl, hg⟩
      go_wp2_with fail
      go_ret
      exact ⟨rfl, FIN.out _ hg⟩
    by_cases c2 : 1024 ≤ o
    · clear hbad
      go_enter Try.func9, Try.ntmps9
      go_wp2_with fail
      refine (none_any _ _ _ _ H.out).mono ?_
      rintro e w1 ⟨rfl, hg⟩
      go_wp2_with fail
      go_ret
      exact ⟨rfl, FIN.out _ hg⟩
    by_cases c3 : v < 0
    · clear hbad
      go_enter Try.func9, Try.ntmps9
      go_wp2_with fail
      refine (none_any _ _ _ _ H.out).mono ?_
      rintro e w1 ⟨rfl, hg⟩
      go_wp2_with fail
      go_ret
      exact ⟨rfl, FIN.out _ hg⟩
    · have c4 : 2199023255552 < v := by omega
      clear hbad
      go_enter Try.func9, Try.ntmps9
      go_wp2_with fail
      refine (none_any _ _ _ _ H.out).mono ?_
      rintro e w1 ⟨rfl, hg⟩
      go_wp2_with fail
      go_ret
      exact ⟨rfl, FIN.out _ hg⟩
  · have hb1 : 0 ≤ o := by unfold badA at hbad; omega
    have hb2 : o < 1024 := by unfold badA at hbad; omega
    have hb3 : 0 ≤ v := by unfold badA at hbad; omega
    have hb4 : v ≤ 2199023255552 := by unfold badA at hbad; omega
    cases hs : lastV L o with
    | some u =>
      have hr : addR L o v = 80 := by unfold addR; rw [if_neg hbad, if_pos (by rw [hs]; rfl)]
      have hL : addL L o v = L := by unfold addL; rw [if_neg hbad, if_pos (by rw [hs]; rfl)]
      rw [hr, hL]
      have hh := has_any b A L
      have fin : ∀ w1, w.grownBy w1 none → Hd w1 b (fun g => A g ∨ w.heap.size ≤ g) L ∧ Tr (fun i => i = b ∨ A i) w w1 := fun w1 hg => ⟨(h.keep hg).mono (fun _ _ h => .inl h), tr_g hg _⟩
      have H := Lib.hid h
      have FIN := Lib.hid fin
      have HS := Lib.hid hs
      clear h fin hr hL hh hbad hs
      go_enter Try.func9, Try.ntmps9
      go_wp2_with fail
      refine (none_any _ _ _ _ H.out).mono ?_
      rintro e w1 ⟨rfl, hg⟩
      go_wp2_with fail
      refine (has_any _ _ _ _ (H.out.keep hg) _).mono ?_
      rw [HS.out]
      rintro e w2 ⟨rfl, hg2⟩
      go_wp2_with fail
      go_ret
      exact ⟨rfl, FIN.out _ (g_trans hg hg2)⟩
    | none =>
      have hr : addR L o v = 0 := by unfold addR; rw [if_neg hbad, if_neg (by rw [hs]; simp)]
      have hL : addL L o v = L ++ [(o, v)] := by unfold addL; rw [if_neg hbad, if_neg (by rw [hs]; simp)]
      rw [hr, hL]
      have H := Lib.hid h
      have HS := Lib.hid hs
      clear h hr hL hbad hs
      go_enter Try.func9, Try.ntmps9
      go_wp2_with fail
      refine (none_any _ _ _ _ H.out).mono ?_
      rintro e w1 ⟨rfl, hg⟩
      go_wp2_with fail
      refine (has_any _ _ _ _ (H.out.keep hg) _).mono ?_
      rw [HS.out]
      rintro e w2 ⟨rfl, hg2⟩
      go_wp2_with fail
      refine (push_any _ _ _ _ ((H.out.keep hg).keep hg2) _ _ hl).mono ?_
      rintro e w3 ⟨rfl, h3, ht3⟩
      go_wp2_with fail
      go_ret
      have gg := g_trans hg hg2
      exact ⟨rfl, h3.mono (fun g _ h => h.imp id (fun h => Nat.le_trans gg.size h)), tr_trans (tr_g gg _) ht3 (fun _ _ h => h)⟩
end Go.Proofs.Ytgfpmmiaidnfeaa
