/- The epochs' slots: Fork; the document's slots, each function by its contract. -/
import Derived.Test.YtaggoepiandblaaP
namespace Go.Proofs.Ytaggoepiandblaa
open Go.RowKit
set_option linter.unusedVariables false

theorem Sl.congr {w : World} {b n : Nat} {f g : Nat → Int} (h : Sl w b n f) (e : ∀ i, i < 64 → f i = g i) : Sl w b n g := by
  obtain ⟨h0, xs, h1, h2, h3⟩ := h
  exact ⟨h0, xs, h1, fun i hi => by rw [← e i hi]; exact h2 i hi, h3⟩
theorem sl_zeros (w : World) (n : Nat) (hn : n ≤ 64) : Sl (w.alloc (.cells (zeros.setIfInBounds 64 (.int .i64 n)) 57)) w.heap.size n (fun _ => 0) := by
  refine ⟨hn, _, Blk.new _ _ _, fun i hi => ?_, ?_⟩
  · rw [Array.getElem?_setIfInBounds_ne (by omega)]
    unfold zeros
    rw [Array.getElem?_replicate, if_pos (by omega)]
  · rw [Array.getElem?_setIfInBounds_self_of_lt (by unfold zeros; simp)]

set_option maxHeartbeats 800000 in
theorem fork_any (b n : Nat) (f : Nat → Int) (w : World) (h : Sl w b n f) (hn : 0 < n) :
    Calls Try.prog 17 #[.pointer (some ⟨b, 0, none⟩)] w fun e w' => ∃ g, e = .returned (.pointer (some ⟨g, 0, none⟩)) ∧ w.heap.size ≤ g ∧ (∃ f', Sl w' g n f' ∧ ∀ t, t < n → f' t = f t) ∧ w.grownBy w' none := by
  have hn0 : ((n : Int) == 0) = false := by rw [beq_eq_false_iff_ne]; omega
  have h64 := h.1
  have hcn := h.cn
  have hz := zero57
  have hs := zeros_size
  have hblt := h.lt
  go_enter Try.func17, Try.ntmps17
  go_wp2_with fail
  refine (len_any _ _ _ _ h).mono ?_
  rintro e w1 ⟨rfl, hg⟩
  have hcn1 := hg.cell hcn (by simp)
  clear hcn
  have g12 : w1.grownBy (w1.alloc (.cells (zeros.setIfInBounds 64 (.int .i64 n)) 57)) none := g_alloc (g_refl _ _) _
  have hcn2 := g12.cell hcn1 (by simp)
  have hs1 := hg.size
  have H1 := Lib.hid (h.keep hg)
  clear h
  go_wp2_with fail
  have h2 : Sl (w1.alloc (.cells (zeros.setIfInBounds 64 (.int .i64 n)) 57)) b n f := H1.out.keep g12
  have hz2 : Sl (w1.alloc (.cells (zeros.setIfInBounds 64 (.int .i64 n)) 57)) w1.heap.size n (fun _ => 0) := sl_zeros w1 n h64
  have hg2 : w.grownBy (w1.alloc (.cells (zeros.setIfInBounds 64 (.int .i64 n)) 57)) none := g_trans hg g12
  clear hcn1 hcn2 g12 hz hs
  generalize (w1.alloc (.cells (zeros.setIfInBounds 64 (.int .i64 n)) 57)) = W at h2 hz2 hg2 ⊢
  have H2 := Lib.hid h2
  have HZ := Lib.hid hz2
  clear h2 hz2
  go_loopw [18] (fun i wr => ∃ k : Nat, k ≤ n ∧ i = .int .i64 k ∧ Sl wr w1.heap.size n (fun i => if i < k then f i else 0) ∧ W.grownBy wr (some w1.heap.size)) (fun i _ => (300 - intOf i).toNat)
  case atStart => exact ⟨0, by omega, rfl, HZ.out.congr (fun i _ => by simp), g_refl _ _⟩
  case round =>
    obtain ⟨k, hk, rfl, hsl, hgr⟩ := hrel
    by_cases hlt : k < n
    · have hbk := H2.out.keeps hgr (by omega)
      have c1 := hbk.ct k hlt
      have c2 := hsl.ct k hlt
      have f2 := hsl.free k
      have hk64 : (k : Int) < 64 := by omega
      have HS := Lib.hid hsl
      clear hsl hbk
      obtain ⟨wo, hwo⟩ : ∃ wo : World, wo = wr := ⟨_, rfl⟩
      rw [← hwo] at c1 c2 f2 HS hgr ⊢
      clear hwo
      go_wp2_with fail
      go_region_with (first | (go_at_call 26; refine Calls.mono (load_any _ _ _ _ (by exact c1)) ?_; rintro e w' ⟨rfl, rfl⟩) | (go_at_call 25; refine Calls.mono (store_any _ _ _ _ _ (by exact c2) (by exact f2)) ?_; rintro e w' ⟨rfl, rfl⟩))
      clear c1 c2 f2
      go_wp2_with fail
      go_roundw
      case rel => exact ⟨k + 1, by omega, by go_num, (show Sl (wo.setCell ⟨w1.heap.size, k, none⟩ (.int .i64 (f k))).drew w1.heap.size n _ from HS.out.set k hlt (f k)).congr (fun i _ => by
        by_cases e : i = k
        · subst e; simp
        · have : (i < k + 1) = (i < k) := by apply propext; omega
          simp [e, this]), g_drew (g_set hgr (.inl rfl) _)⟩
      case measure => simp [intOf]; omega
    · obtain rfl : n = k := by omega
      go_wp2_with fail
      go_ret
      exact ⟨_, rfl, hs1, ⟨_, hsl, fun t ht => by simp [ht]⟩, g_in hg2 hgr hs1⟩
end Go.Proofs.Ytaggoepiandblaa
