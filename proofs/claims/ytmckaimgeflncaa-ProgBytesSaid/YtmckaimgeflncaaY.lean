/- The document's Decode. -/
import Derived.Test.YtmckaimgeflncaaX
import Derived.IntWalk
import Derived.Test.YtmckaimgeflncaaU
namespace Go.Proofs.Ytmckaimgeflncaa
open Go.RowKit
set_option linter.unusedVariables false

set_option linter.unusedSimpArgs false

theorem elem25 : Try.prog.underlying 23 = some (.slice (Try.prog.elem 23)) := by kernel_rfl
theorem size25 (w : World) : (sizeOf (Try.prog.elem 23)).run Try.prog w = .ok 1 w := by kernel_rfl

theorem brow_sliced {w : World} {ao : Option Addr} {L : List Int} (h : BRow w ao L) (l h' c : Nat) (hl : l ≤ h') (hc : h' ≤ c) :
    BRow w (if c = l then ao else ao.map (·.add (l * 1))) ((L.drop l).take (h' - l)) := by
  intro i x hi
  have hi' : i < h' - l := by
    have := (List.getElem?_eq_some_iff.1 hi).1
    rw [List.length_take] at this; omega
  rw [List.getElem?_take_of_lt hi', List.getElem?_drop] at hi
  obtain ⟨h0, b, off, rfl, hcell⟩ := h _ x hi
  refine ⟨h0, b, off + l, ?_, ?_⟩
  · rw [if_neg (by omega), Nat.mul_one]; simp [Addr.add_lit]
  · rw [Nat.add_assoc]; exact hcell

theorem slice_lh (ao : Option Addr) (n c l h : Nat) (h1 : l ≤ h) (h2 : h ≤ c) :
    ∃ ad, (∀ w, (Instr.slice 23 (.slice ao n c) (some (.int .i64 l)) (some (.int .i64 h)) none).run Try.prog w = .ok (.slice ad (h - l) (c - l)) w) ∧ (∀ L w, BRow w ao L → BRow w ad ((L.drop l).take (h - l))) := by
  refine ⟨_, fun w => ?_, fun L w hb => brow_sliced hb l h c h1 h2⟩
  rw [run_slice_lh w 23 ao n c elem25 .i64 .i64 l h (by omega) (by omega) (by omega), size25]
  rfl
theorem slice_l (ao : Option Addr) (n c l : Nat) (h1 : l ≤ n) (h2 : n ≤ c) :
    ∃ ad, (∀ w, (Instr.slice 23 (.slice ao n c) (some (.int .i64 l)) none none).run Try.prog w = .ok (.slice ad (n - l) (c - l)) w) ∧ (∀ L w, BRow w ao L → L.length = n → BRow w ad (L.drop l)) := by
  refine ⟨if c = l then ao else ao.map (·.add (l * 1)), fun w => ?_, fun L w hb hl => ?_⟩
  · rw [run_slice_l w 23 ao n c elem25 .i64 l (by omega) (by omega), size25]
    rfl
  · have := brow_sliced hb l n c h1 h2
    rwa [List.take_of_length_le (by rw [List.length_drop]; omega)] at this

theorem u64_step (u x : Int) : IntKind.u64.wrap (IntKind.u64.wrap (256 * u) + x) = (u * 256 + x) % 18446744073709551616 := by
  rw [IntKind.wrap_u64, IntKind.wrap_u64]; omega

set_option maxHeartbeats 1600000 in
theorem get_any (ao : Option Addr) (n c : Nat) (M : List Int) (w : World) (hM : BRow w ao M) (hn : M.length = n) (hn4 : n < 100000) :
    Calls Try.prog 38 #[.slice ao n c] w fun e w' => e = .returned (.int .i64 (wrap64 (numU M))) ∧ w.grownBy w' none := by
  have HM := Lib.hid hM
  have HN := Lib.hid hn
  clear hM
  go_enter Try.func38, Try.ntmps38
  go_wp2_with fail
  go_loop [3, 4] (fun u i => ∃ k : Nat, k ≤ n ∧ i = .int .i64 k ∧ u = .int .u64 (numU (M.take k))) (fun _ i => (n - intOf i).toNat)
  case atStart => exact ⟨0, Nat.zero_le _, rfl, rfl⟩
  case round =>
    obtain ⟨k, hk, rfl, rfl⟩ := hrel
    by_cases hlt : k < n
    · have hki : (k : Int) < n := by omega
      obtain ⟨x, hx⟩ : ∃ x, M[k]? = some x := ⟨M[k]'(by rw [HN.out]; exact hlt), List.getElem?_eq_getElem _⟩
      obtain ⟨⟨x0, x1⟩, b, off, rfl, hcell⟩ := HM.out k x hx
      have hs : M.take (k + 1) = M.take k ++ [x] := by rw [List.take_add_one, hx]; rfl
      have hu := numU_snoc (M.take k) x
      rw [← hs] at hu
      obtain ⟨u0, u1⟩ := numU_range (M.take k)
      have HU := Lib.hid (hu.trans (u64_step _ _).symm)
      generalize numU (M.take k) = u at *
      clear hu hs hx
      go_wp2_with fail
      go_round
      case rel => exact ⟨k + 1, by omega, by go_num, by rw [HU.out]⟩
      case measure => simp [intOf]; omega
    · obtain rfl : k = n := by omega
      rw [List.take_of_length_le (by rw [HN.out]; omega)]
      go_wp2_with fail
      go_ret
      exact ⟨rfl, g_refl _ _⟩
theorem Blk.range {w : World} {b : Nat} {xs : Array Value} {T : TypeId} (h : Blk w b xs T) : w.rangeAt b 0 xs.toList := fun j v hv => by
  rw [Nat.zero_add]; exact h.cell j v (by simpa using hv)
theorem Blk.there {w : World} {b : Nat} {xs : Array Value} {T : TypeId} (h : Blk w b xs T) : w.there b 0 xs.size := fun j hj => by
  rw [Nat.zero_add, h.cell j xs[j] (by simp [hj])]; exact ⟨rfl, h.free j⟩
theorem blk_setCells {b : Nat} {T : TypeId} : ∀ (vs : List Value) (o : Nat) (w : World) (xs : Array Value), Blk w b xs T → o + vs.length ≤ xs.size →
    ∃ ys, Blk (w.setCells b o vs) b ys T ∧ ys.size = xs.size ∧ (∀ i, i < o → ys[i]? = xs[i]?) ∧ (∀ j v, vs[j]? = some v → ys[o + j]? = some v)
  | [], o, w, xs, h, _ => ⟨xs, h, rfl, fun _ _ => rfl, fun j v hv => by simp at hv⟩
  | v :: r, o, w, xs, h, hs => by
    rw [World.setCells]
    simp only [List.length_cons] at hs
    obtain ⟨ys, h1, h2, h3, h4⟩ := blk_setCells r (o + 1) _ _ (h.set o v) (by simp; omega)
    refine ⟨ys, h1, by simpa using h2, fun i hi => ?_, fun j u hu => ?_⟩
    · rw [h3 i (by omega), Array.getElem?_setIfInBounds_ne (by omega)]
    · cases j with
      | zero =>
        simp at hu
        subst hu
        rw [Nat.add_zero, h3 o (by omega)]
        have : o < xs.size := by omega
        simp [this]
      | succ j =>
        have := h4 j u (by simpa using hu)
        rw [← this]; congr 1; omega
theorem Blk.setAll {w : World} {b : Nat} {xs : Array Value} {T : TypeId} (h : Blk w b xs T) (zs : Array Value) (hz : zs.size = xs.size) : Blk (w.setCells b 0 zs.toList) b zs T := by
  obtain ⟨ys, h1, h2, _, h4⟩ := blk_setCells zs.toList 0 w xs h (by simp [hz])
  have : ys = zs := by
    apply Array.ext (by omega)
    intro i hi hi'
    have := h4 i zs[i] (by simp [hi'])
    rw [Nat.zero_add] at this
    exact (Array.getElem?_eq_some_iff.1 this).2
  rw [← this]
  rw [this] at h1
  subst this
  exact h1
theorem g_setAll (b : Nat) : ∀ (vs : List Value) (o : Nat) (a w : World), a.grownBy w (some b) → a.grownBy (w.setCells b o vs) (some b)
  | [], _, _, _, h => h
  | v :: r, o, a, w, h => by
    rw [World.setCells]
    exact g_setAll b r (o + 1) a _ (g_set h (p := ⟨b, o, none⟩) (.inl rfl) v)

theorem newZ24 (w : World) : Blk (w.alloc (.cells #[.int .i64 0, .int .i64 0, .int .i64 0, .int .i64 0] 43)) w.heap.size #[.int .i64 0, .int .i64 0, .int .i64 0, .int .i64 0] 43 := Blk.new w _ 43
theorem g_newZ24 (w : World) : w.grownBy (w.alloc (.cells #[.int .i64 0, .int .i64 0, .int .i64 0, .int .i64 0] 43)) none := g_alloc (g_refl w none) _
theorem one4 (a b c d : Int) : (#[.int .i64 a, .int .i64 b, .int .i64 c, .int .i64 d] : Array Value).all (·.oneCell') = true := by simp [Value.oneCell']
theorem info24s : (Try.prog.info? 43).map (·.size) = some 4 := by kernel_rfl

theorem seg_slice (ao : Option Addr) (n c : Nat) (L : List Int) (s0 s1 s2 : Int) {j : Nat} (hj : j < 3) (h2 : alN s0 s1 s2 3 ≤ c) :
    ∃ ad c', (∀ w, (Instr.slice 23 (.slice ao n c) (some (.int .i64 (alN s0 s1 s2 j))) (some (.int .i64 (alN s0 s1 s2 (j + 1)))) none).run Try.prog w = .ok (.slice ad (wdN (pick3 s0 s1 s2 j)) c') w) ∧ (∀ w, BRow w ao L → BRow w ad (seg s0 s1 s2 L j)) := by
  have hm : alN s0 s1 s2 (j + 1) ≤ alN s0 s1 s2 3 := alN_mono s0 s1 s2 (by omega)
  have hs := alN_succ s0 s1 s2 hj
  obtain ⟨ad, h3, h4⟩ := slice_lh ao n c (alN s0 s1 s2 j) (alN s0 s1 s2 (j + 1)) (by omega) (by omega)
  have e : alN s0 s1 s2 (j + 1) - alN s0 s1 s2 j = wdN (pick3 s0 s1 s2 j) := by omega
  rw [e] at h3 h4
  exact ⟨ad, _, h3, fun w hb => h4 L w hb⟩
theorem seg_len {s0 s1 s2 : Int} {L : List Int} {n j : Nat} (hn : L.length = n) (hj : j < 3) (hz : alN s0 s1 s2 3 ≤ n) : (seg s0 s1 s2 L j).length = wdN (pick3 s0 s1 s2 j) := by
  have hm : alN s0 s1 s2 (j + 1) ≤ alN s0 s1 s2 3 := alN_mono s0 s1 s2 (by omega)
  have hs := alN_succ s0 s1 s2 hj
  unfold seg
  rw [List.length_take, List.length_drop, hn]
  omega

set_option maxHeartbeats 800000 in
theorem rdecode_none (ao : Option Addr) (c : Nat) (w : World) : Calls Try.prog 24 #[.slice ao 0 c] w fun e w' => e = .returned (.tuple #[.agg #[.int .i64 0, .int .i64 0, .int .i64 0, .int .i64 0], .slice none 0 0, .int .i64 6]) ∧ w.grownBy w' none := by
  go_enter Try.func24, Try.ntmps24
  go_wp2_with fail
  exact bodyPost_ret (v := .tuple #[.agg #[.int .i64 0, .int .i64 0, .int .i64 0, .int .i64 0], .slice none 0 0, .int .i64 6]) (by simp [results, Try.results24, go_sem]) rfl ⟨rfl, g_alloc (g_refl _ _) _⟩

set_option maxHeartbeats 1600000 in
theorem rdecode_badk (b off n c : Nat) (x : Int) (w : World) (hn : 0 < n) (hc : w.cell? ⟨b, off, none⟩ = some (.int .u8 x)) (hx : x < 1 ∨ 20 < x) (hx0 : 0 ≤ x) (hx1 : x ≤ 255) (hcm : n ≤ 9223372036854775807) :
    Calls Try.prog 24 #[.slice (some ⟨b, off, none⟩) n c] w fun e w' => e = .returned (.tuple #[.agg #[.int .i64 0, .int .i64 0, .int .i64 0, .int .i64 0], .slice none 0 0, .int .i64 100]) ∧ w.grownBy w' none := by
  have HF := Lib.hid (has_bad x hx)
  have hn0 : (0 : Int) < n := by omega
  have hn00 : ((n : Int) == 0) = false := by simp; omega
  have g0 := g_alloc (g_refl w none) (.cells #[.int .i64 0, .int .i64 0, .int .i64 0, .int .i64 0] 43)
  have hb := Blk.new w #[.int .i64 0, .int .i64 0, .int .i64 0, .int .i64 0] 43
  have HB := Lib.hid hb
  have c0 := g0.cell hc (by simp)
  clear hb hx hc
  go_enter Try.func24, Try.ntmps24
  go_wp2_with fail
  refine (HF.out _).mono ?_
  rintro e w1 ⟨rfl, hg⟩
  have g2 := g_alloc (g_refl w1 none) (.cells #[.int .i64 0, .int .i64 0, .int .i64 0] 64)
  have R := Lib.hid ((HB.out.keepn hg).keepn g2)
  have gA := g_trans (g_trans g0 hg) g2
  have r0 := R.out.cell 0 (.int .i64 0) rfl
  have r1 := R.out.cell 1 (.int .i64 0) rfl
  have r2 := R.out.cell 2 (.int .i64 0) rfl
  have r3 := R.out.cell 3 (.int .i64 0) rfl
  have f0 := R.out.free 0
  have f1 := R.out.free 1
  have f2 := R.out.free 2
  have f3 := R.out.free 3
  go_wp2_with fail
  generalize (w1.alloc (.cells #[.int .i64 0, .int .i64 0, .int .i64 0] 64)) = W2 at *
  have hF := (((R.out.set 0 (.int .i64 0)).set 1 (.int .i64 0)).set 2 (.int .i64 0)).set 3 (.int .i64 0)
  have k0 := hF.cell 0 (.int .i64 0) (by simp)
  have k1 := hF.cell 1 (.int .i64 0) (by simp)
  have k2 := hF.cell 2 (.int .i64 0) (by simp)
  have k3 := hF.cell 3 (.int .i64 0) (by simp)
  have gs := g_set (g_set (g_set (g_set (g_refl W2 (some w.heap.size)) (p := ⟨w.heap.size, 0, none⟩) (.inl rfl) (.int .i64 0)) (p := ⟨w.heap.size, 1, none⟩) (.inl rfl) (.int .i64 0)) (p := ⟨w.heap.size, 2, none⟩) (.inl rfl) (.int .i64 0)) (p := ⟨w.heap.size, 3, none⟩) (.inl rfl) (.int .i64 0)
  exact bodyPost_ret (v := .tuple #[.agg #[.int .i64 0, .int .i64 0, .int .i64 0, .int .i64 0], .slice none 0 0, .int .i64 100]) (by simp [results, Try.results24, go_sem, k0, k1, k2, k3]) rfl ⟨rfl, (g_in gA gs (Nat.le_refl _))⟩

end Go.Proofs.Ytmckaimgeflncaa

