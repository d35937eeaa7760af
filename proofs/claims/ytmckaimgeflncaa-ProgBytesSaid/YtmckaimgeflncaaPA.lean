/- Programs as bytes: the words, and the sum of bytes. -/
import Derived.Test.YtmckaimgeflncaaAA
import Derived.Test.YtmckaimgeflncaaU
import Derived.Test.YtmckaimgeflncaaPK
namespace Go.Proofs.Ytmckaimgeflncaa
open Go.RowKit
set_option linter.unusedVariables false
set_option linter.unusedSimpArgs false

def encx (x : I4) : List Int := encK x.k (sA x.k.toNat) (sB x.k.toNat) (sC x.k.toNat) x.a x.b x.c 3
theorem encx_len (x : I4) : (encx x).length ≤ 25 := encK_len _ _ _ _ _ _ _ 3
theorem encx_eq {x : I4} {n : Nat} (hn : x.k = n) : encx x = encK n (sA n) (sB n) (sC n) x.a x.b x.c 3 := by
  unfold encx; rw [hn, Int.toNat_natCast]
theorem encx_bytes {x : I4} (h : okx x = true) : ∀ y ∈ encx x, 0 ≤ y ∧ y ≤ 255 := by
  obtain ⟨n, hn, h1, h2, _⟩ := okx_in h
  rw [encx_eq hn]; exact enc_bytes h1 h2 _ _ _ _ _ _

theorem enc_yes {x : I4} (h : okx x = true) (w : World) : Calls Try.prog 20 #[.agg #[.int .i64 x.k, .int .i64 x.a, .int .i64 x.b, .int .i64 x.c]] w fun e w' => ∃ v, e = .returned (.tuple #[v, .int .i64 0]) ∧ w'.ownsRow w.heap.size 5 1 v (encx x).length (byV (encx x)) ∧ w.grownBy w' none := by
  obtain ⟨n, hn, h1, h2, ho⟩ := okx_in h
  rw [encx_eq hn, hn]; exact encode_ok n h1 h2 _ _ _ w ho
theorem enc_not {x : I4} (h : okx x = false) (w : World) : Calls Try.prog 20 #[.agg #[.int .i64 x.k, .int .i64 x.a, .int .i64 x.b, .int .i64 x.c]] w fun e w' => e = .returned (.tuple #[.slice none 0 0, .int .i64 100]) ∧ w.grownBy w' none := by
  rcases kind_cases x.k with ⟨n, hn, h1, h2⟩ | hh
  · unfold okx at h; rw [okZ_in hn h1 h2] at h; rw [hn]; exact encode_no n h1 h2 _ _ _ h w
  · exact encode_bad _ hh _ _ _ w
theorem renc_yes {x : I4} (h : okx x = true) (w : World) : Calls Try.prog 22 #[.agg #[.int .i64 x.k, .int .i64 x.a, .int .i64 x.b, .int .i64 x.c]] w fun e w' => ∃ v, e = .returned (.tuple #[v, .int .i64 0]) ∧ w'.ownsRow w.heap.size 5 1 v (encx x).length (byV (encx x)) ∧ w.grownBy w' none := by
  obtain ⟨n, hn, h1, h2, ho⟩ := okx_in h
  rw [encx_eq hn, hn]; exact rencode_ok n h1 h2 _ _ _ w ho
theorem renc_not {x : I4} (h : okx x = false) (w : World) : Calls Try.prog 22 #[.agg #[.int .i64 x.k, .int .i64 x.a, .int .i64 x.b, .int .i64 x.c]] w fun e w' => e = .returned (.tuple #[.slice none 0 0, .int .i64 100]) ∧ w.grownBy w' none := by
  rcases kind_cases x.k with ⟨n, hn, h1, h2⟩ | hh
  · unfold okx at h; rw [okZ_in hn h1 h2] at h; rw [hn]
    exact rencode_core n _ _ _ (fun w => by have := is_ok n h1 h2 x.a x.b x.c w; rw [h] at this; exact this) w
  · exact rencode_core _ _ _ _ (is_bad _ hh _ _ _) w

/-- the sum of bytes -/
def sumB (l : List Int) : Int := l.foldl (fun s x => (s + x) % 256) 0
theorem sumB_snoc (l : List Int) (x : Int) : sumB (l ++ [x]) = (sumB l + x) % 256 := by simp [sumB, List.foldl_append]
theorem sumB_range (l : List Int) : 0 ≤ sumB l ∧ sumB l < 256 := by
  rcases List.eq_nil_or_concat l with rfl | ⟨M, x, rfl⟩
  · decide
  · rw [List.concat_eq_append, sumB_snoc]; omega

set_option maxHeartbeats 800000 in
theorem add1_any (x s : Int) (b : Nat) (w : World) (h : Blk w b #[.int .u8 s] 5) :
    Calls Try.prog 33 #[.int .u8 x, .pointer (some ⟨b, 0, none⟩)] w fun e w' => e = .returned (.tuple #[]) ∧ Blk w' b #[.int .u8 ((s + x) % 256)] 5 ∧ w.grownBy w' (some b) := by
  have c0 := h.cell 0 (.int .u8 s) rfl
  have f0 := h.free 0
  have hs := h.set 0 (.int .u8 ((s + x) % 256))
  have gs := g_set (g_refl w (some b)) (p := ⟨b, 0, none⟩) (.inl rfl) (.int .u8 ((s + x) % 256))
  have HS := Lib.hid hs
  have GS := Lib.hid gs
  have e1 : IntKind.u8.wrap (s + x) = (s + x) % 256 := IntKind.wrap_u8 _
  clear hs gs h
  go_enter Try.func33, Try.ntmps33
  go_wp2_with fail
  go_end0
  exact ⟨rfl, HS.out, GS.out⟩

set_option maxHeartbeats 1600000 in
theorem sum_any (ao : Option Addr) (n c : Nat) (L : List Int) (w : World) (hL : BRow w ao L) (hn : L.length = n) (hc : n ≤ 9223372036854775807) :
    Calls Try.prog 21 #[.slice ao n c] w fun e w' => e = .returned (.int .u8 (sumB L)) ∧ w.grownBy w' none := by
  have HL := Lib.hid hL
  have HN := Lib.hid hn
  have HB := Lib.hid (Blk.new w #[.int .u8 0] 5)
  have G0 := Lib.hid (g_alloc (g_refl w none) (.cells #[.int .u8 0] 5))
  clear hL
  go_enter Try.func21, Try.ntmps21
  go_wp2_with fail
  generalize w.alloc (.cells #[.int .u8 0] 5) = W1 at *
  go_loopw [10] (fun i wr => ∃ k : Nat, k ≤ n ∧ i = .int .i64 k ∧ Blk wr w.heap.size #[.int .u8 (sumB (L.take k))] 5 ∧ W1.grownBy wr (some w.heap.size)) (fun i _ => (n - intOf i).toNat)
  case atStart => exact ⟨0, Nat.zero_le _, rfl, HB.out, g_refl _ _⟩
  case round =>
    obtain ⟨k, hk, rfl, hb, hg⟩ := hrel
    by_cases hlt : k < n
    · have hki : (k : Int) < n := by omega
      obtain ⟨x, hx⟩ : ∃ x, L[k]? = some x := ⟨L[k]'(by rw [HN.out]; exact hlt), List.getElem?_eq_getElem _⟩
      obtain ⟨⟨x0, x1⟩, b, off, rfl, hcell⟩ := HL.out k x hx
      have hs : L.take (k + 1) = L.take k ++ [x] := by rw [List.take_add_one, hx]; rfl
      have hu := sumB_snoc (L.take k) x
      rw [← hs] at hu
      have HU := Lib.hid hu
      have hbl := World.block_lt_of_cell? _ _ hcell
      have gg := g_in G0.out hg (Nat.le_refl _)
      have hcr := gg.cell hcell (by simp)
      generalize sumB (L.take k) = s at *
      have HBB := Lib.hid hb
      have HG := Lib.hid hg
      clear hu hs hx hb hg gg hcell
      go_wp2_with fail
      refine (add1_any _ _ _ _ HBB.out).mono ?_
      rintro e w2 ⟨rfl, hb2, hg2⟩
      have HB2 := Lib.hid hb2
      have HG2 := Lib.hid (g_trans HG.out hg2)
      clear hb2 hg2 hcr
      go_wp2_with fail
      go_roundw
      case rel => exact ⟨k + 1, by omega, by go_num, by rw [HU.out]; exact HB2.out, HG2.out⟩
      case measure => simp [intOf]; omega
    · obtain rfl : k = n := by omega
      rw [List.take_of_length_le (by rw [HN.out]; exact Nat.le_refl _)] at hb
      have c0 := hb.cell 0 _ rfl
      have gg := g_in G0.out hg (Nat.le_refl _)
      clear hb hg
      go_wp2_with fail
      go_ret
      exact ⟨rfl, gg⟩
end Go.Proofs.Ytmckaimgeflncaa
