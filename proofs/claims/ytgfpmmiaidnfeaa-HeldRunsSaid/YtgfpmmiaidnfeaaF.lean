/- The taken records: slices.Clone, All, Fork. -/
import Derived.Test.YtgfpmmiaidnfeaaD
import Derived.Lib.SliceRun
namespace Go.Proofs.Ytgfpmmiaidnfeaa
open Go.RowKit
set_option linter.unusedVariables false

set_option maxHeartbeats 800000 in
theorem clone_any (ao : Option Addr) (c : Nat) (L : List (Int × Int)) (w : World) (h : w.ownsRow 0 34 2 (.slice ao L.length c) L.length (scl L)) (hl : L.length < 4000) :
    Calls Try.prog 24 #[.slice ao L.length c] w fun e w' => ∃ v, e = .returned v ∧ w'.ownsRow w.heap.size 34 2 v L.length (scl L) ∧ w.grownBy w' none := by
  obtain ⟨i0, hi, hz0, hz1, hz2⟩ := info_parts info34
  have hcells := fun g hg => h.cells (g := g) hg
  have heq := fun (w : World) (a : Option Addr) (n c : Nat) => Lib.run_eql_slice_nil (P := Try.prog) w 39 34 a n c 0 0 Try.underlying39
  obtain ⟨n, hn⟩ : ∃ n, L.length = n := ⟨_, rfl⟩
  have hln : (scl L).length = n * 2 := by rw [scl_length, hn]
  have hn4 : n < 4000 := by omega
  rcases h.2 with ⟨e, e0⟩ | ⟨g, cap, cur, e, hb, hh, h1, h2, h3, h4⟩
  · have : L = [] := List.eq_nil_of_length_eq_zero e0
    subst this
    cases e
    go_enter Try.func24, Try.ntmps24
    go_wp2_with fail
    go_ret
    exact ⟨_, rfl, World.ownsRow_nil _ _ _ _, g_refl _ _⟩
  · cases e
    rw [hn] at *
    have hoe : (w.alloc (.cells #[] 34)).ownsRow w.heap.size 34 2 (.slice (some ⟨w.heap.size, 0, none⟩) 0 0) 0 [] := by
      have := World.ownsRow_made w (base := w.heap.size) (e := 34) (size := 2) #[] 0 (by simp) (by unfold maxLen; omega) rfl
      simpa using this
    have g1 : w.grownBy (w.alloc (.cells #[] 34)) none := g_alloc (g_refl _ _) _
    have hnews : ∀ (j : Nat) (u : Value), (scl L)[j]? = some u → (w.alloc (.cells #[] 34)).cell? ((⟨g, 0, none⟩ : Addr).add j) = some u := fun j u hu => by
      have := hcells g rfl j u hu
      rw [Addr.add_lit] at this ⊢
      exact g1.cell this (by simp)
    have HO := Lib.hid hoe
    have HNE := Lib.hid hnews
    have HL := Lib.hid hln
    clear hoe hnews hcells h h4 hh h3 hln
    go_enter Try.func24, Try.ntmps24
    go_wp2_with (at_builtin; refine wpList_append_own _ rfl _ _ 39 rfl w.heap.size 34 i0 (.agg #[.int .i64 0, .int .i64 0]) 2 16 Try.underlying39 hi hz0 hz1 hz2 rfl (by decide) _ _ _ rfl HO.out ⟨g, 0, none⟩ n c (scl L) rfl HL.out HNE.out ?c2 ?c3 ?c4 ?c5 ?_)
    case c2 => intro u hu; simp [scl] at hu; obtain ⟨a, b, _, h | h⟩ := hu <;> subst h <;> rfl
    case c3 => unfold maxLen; omega
    case c4 => omega
    intro v' w4 hown hgrow _
    have g4 : w.grownBy w4 none := g_in g1 (g := w.heap.size) (by simpa only [Value.ownBlock] using hgrow) (Nat.le_refl _)
    have HOW := Lib.hid hown
    clear hown hgrow HO HNE
    go_wp2_with fail
    go_ret
    exact ⟨_, rfl, by simpa using HOW.out, g4⟩

set_option maxHeartbeats 800000 in
theorem all_any (b : Nat) (A : Nat → Prop) (L : List (Int × Int)) (w : World) (h : Hd w b A L) (hl : L.length < 4000) :
    Calls Try.prog 20 #[.pointer (some ⟨b, 0, none⟩)] w fun e w' => ∃ v, e = .returned v ∧ w'.ownsRow w.heap.size 34 2 v L.length (scl L) ∧ w.grownBy w' none := by
  go_enter Try.func20, Try.ntmps20
  go_wp2_with fail
  refine (none_any _ _ _ _ h).mono ?_
  rintro e w1 ⟨rfl, hg⟩
  obtain ⟨ao, c, h1, h2, -, -⟩ := (h.keep hg).row
  have c0 := h1.cell 0 (.slice ao L.length c) rfl
  have H2 := Lib.hid h2
  clear h1 h2 h
  go_wp2_with fail
  refine (clone_any _ _ _ _ H2.out hl).mono ?_
  rintro e w2 ⟨v, rfl, ho, hg2⟩
  have hs := hg.size
  have HO := Lib.hid ho
  clear ho
  go_wp2_with fail
  go_ret
  exact ⟨_, rfl, ⟨HO.out.1, HO.out.2.imp id (fun ⟨g, cap, cur, e, hb, r⟩ => ⟨g, cap, cur, e, Nat.le_trans hs hb, r⟩)⟩, g_trans hg hg2⟩

set_option maxHeartbeats 800000 in
theorem fork_any (b : Nat) (A : Nat → Prop) (L : List (Int × Int)) (w : World) (h : Hd w b A L) (hl : L.length < 4000) :
    Calls Try.prog 14 #[.pointer (some ⟨b, 0, none⟩)] w fun e w' => ∃ k, e = .returned (.pointer (some ⟨k, 0, none⟩)) ∧ w.heap.size ≤ k ∧ Hd w' k (fun g => w.heap.size ≤ g) L ∧ w.grownBy w' none := by
  go_enter Try.func14, Try.ntmps14
  go_wp2_with fail
  refine (none_any _ _ _ _ h).mono ?_
  rintro e w1 ⟨rfl, hg⟩
  obtain ⟨ao, c, h1, h2, -, -⟩ := (h.keep hg).row
  have c0 := h1.cell 0 (.slice ao L.length c) rfl
  have H2 := Lib.hid h2
  clear h1 h2 h
  go_wp2_with fail
  refine (clone_any _ _ _ _ H2.out hl).mono ?_
  rintro e w2 ⟨v, rfl, ho, hg2⟩
  have hs := hg.size
  have hs2 := hg2.size
  obtain ⟨ao2, c2, rfl, -, -⟩ := srow_of_own ho
  have HO := Lib.hid ho
  clear ho
  go_wp2_with fail
  go_ret
  have g3 := g_alloc (g_refl w2 none) (.cells #[.slice ao2 L.length c2, .bool true] 56)
  refine ⟨_, rfl, by omega, ⟨_, Blk.new _ _ _, ?_, fun g hg => ?_⟩, g_trans (g_trans hg hg2) g3⟩
  · exact ⟨HO.out.1, (own_keepn HO.out g3).2.imp id (fun ⟨g, cap, cur, e, hb, r⟩ => ⟨g, cap, cur, e, Nat.zero_le _, r⟩)⟩
  · have := own_lt HO.out hg
    exact ⟨by omega, by omega⟩
end Go.Proofs.Ytgfpmmiaidnfeaa
