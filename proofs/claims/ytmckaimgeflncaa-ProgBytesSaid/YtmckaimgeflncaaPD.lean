/- Programs as bytes: Decode. -/
import Derived.Test.YtmckaimgeflncaaPS
import Derived.Test.YtmckaimgeflncaaPL
import Derived.Deep.RegionHeld3
import Derived.Deep.DeepCutAuto
import Derived.Deep.CutBlock
import Derived.IntWalk
namespace Go.Proofs.Ytmckaimgeflncaa
open Go.RowKit
set_option linter.unusedVariables false
set_option linter.unusedSimpArgs false

theorem brow_take {w : World} {ao : Option Addr} {L : List Int} (h : BRow w ao L) (k : Nat) : BRow w ao (L.take k) := fun i x hx => h i x (by
  have hi := (List.getElem?_eq_some_iff.1 hx).1
  rw [List.length_take] at hi
  rw [List.getElem?_take_of_lt (by omega)] at hx
  exact hx)
theorem brow_drop {w : World} {b off : Nat} {L : List Int} (h : BRow w (some ⟨b, off, none⟩) L) (k : Nat) : BRow w (some ⟨b, off + k, none⟩) (L.drop k) := fun i x hx => by
  rw [List.getElem?_drop] at hx
  obtain ⟨h0, b', off', hb, hc⟩ := h _ x hx
  cases hb
  exact ⟨h0, b, off + k, rfl, by rw [Nat.add_assoc]; exact hc⟩

/-- what Decode answers -/
def PDec (B : List Int) (w w' : World) (e : Ending) : Prop :=
  w.grownBy w' none ∧ ((∃ p, IsB B p ∧ ∃ v, e = .returned (.tuple #[v, .int .i64 0]) ∧ w'.ownsRow w.heap.size 43 4 v p.length (iv p))
    ∨ ((¬ ∃ p, IsB B p) ∧ e = .returned (.tuple #[.slice none 0 0, .int .i64 (if B.length < 7 then 6 else 110)])))
theorem pdec_short {B : List Int} {w w' : World} (g : w.grownBy w' none) (h : B.length < 7) : PDec B w w' (.returned (.tuple #[.slice none 0 0, .int .i64 6])) :=
  ⟨g, .inr ⟨fun ⟨p, hp⟩ => by have := isB_len hp; omega, by rw [if_pos h]⟩⟩
theorem pdec_bad {B : List Int} {w w' : World} (g : w.grownBy w' none) (h : ¬ B.length < 7) (h2 : ¬ ∃ p, IsB B p) : PDec B w w' (.returned (.tuple #[.slice none 0 0, .int .i64 110])) :=
  ⟨g, .inr ⟨h2, by rw [if_neg h]⟩⟩
theorem pdec_ok {B : List Int} {w w' : World} {v : Value} {p : List I4} (g : w.grownBy w' none) (h : IsB B p) (ho : w'.ownsRow w.heap.size 43 4 v p.length (iv p)) : PDec B w w' (.returned (.tuple #[v, .int .i64 0])) :=
  ⟨g, .inl ⟨p, h, v, rfl, ho⟩⟩

set_option maxHeartbeats 800000 in
theorem pdecode_short (ao : Option Addr) (n c : Nat) (B : List Int) (w : World) (hn : B.length = n) (h : n < 7) :
    Calls Try.prog 11 #[.slice ao n c] w fun e w' => PDec B w w' e := by
  have h' : (n : Int) < 7 := by omega
  have HN := Lib.hid hn
  clear hn
  go_enter Try.func11, Try.ntmps11
  go_wp2_with fail
  go_ret2
  exact pdec_short (g_refl _ _) (by rw [HN.out]; exact h)

set_option maxRecDepth 100000 in
set_option maxHeartbeats 6400000 in
theorem pdecode_long (ao : Option Addr) (n c : Nat) (B : List Int) (w : World) (hB : BRow w ao B) (hn : B.length = n) (hn4 : n < 100000) (hnc : n ≤ c) (hcm : c ≤ 9223372036854775807) (h7 : 7 ≤ n) :
    Calls Try.prog 11 #[.slice ao n c] w fun e w' => PDec B w w' e := by
  obtain ⟨i0, hi, hz0, hz1, hz2⟩ := info_parts info43
  obtain ⟨H, x4, x5, M, z, eB, hH4, hT4, h4, h5, hM, hzz, hTl, hD6, hMl⟩ := parts (B := B) (by omega)
  obtain ⟨l, hl⟩ : ∃ l, n = l + 1 := ⟨n - 1, by omega⟩
  have hli : (n : Int) - 1 = l := by omega
  have hl6 : 6 ≤ l := by omega
  have hnl : B.length - 1 = l := by omega
  rw [hnl] at hzz hTl
  obtain ⟨⟨x40, x41⟩, b, off, rfl, c4⟩ := hB 4 x4 h4
  obtain ⟨⟨x50, x51⟩, b', off', hbo, c5⟩ := hB 5 x5 h5
  cases hbo
  obtain ⟨⟨z0, z1⟩, b', off', hbo, cz⟩ := hB l z hzz
  cases hbo
  obtain ⟨N, hN⟩ : ∃ N : Nat, x4 * 256 + x5 = N := ⟨(x4 * 256 + x5).toNat, by omega⟩
  have hISB := fun p => isB_iff (H := H) (M := M) (x4 := x4) (x5 := x5) (z := z) (p := p) hH4 x40 x50 x51
  rw [← eB] at hISB
  have hN65 : N < 65536 := by omega
  have r0 : BRow w (some ⟨b, off, none⟩) H := by rw [← hT4]; exact brow_take hB 4
  have r2 : BRow w (some ⟨b, off, none⟩) (H ++ [x4, x5] ++ M) := by rw [← hTl]; exact brow_take hB l
  have r3' : BRow w (some ⟨b, off + 6, none⟩) M := by
    have h := brow_take (brow_drop hB 6) (n - 7)
    rw [show n - 7 = B.length - 7 by omega, hM] at h
    exact h
  have hSUM := fun w' (hb : BRow w' (some ⟨b, off, none⟩) (H ++ [x4, x5] ++ M)) => sum_any (some ⟨b, off, none⟩) l c (H ++ [x4, x5] ++ M) w' hb (by rw [← hTl, List.length_take]; omega) (by omega)
  have hcase : ∃ bad : Bool, (bad = false ↔ H = [71, 78, 84, 1] ∧ N ≤ 512 ∧ z = sumB (H ++ [x4, x5] ++ M)) ∧ ((bad = true ∧ ¬ (strOfNums H).toList = [71, 78, 84, 1]) ∨ (bad = true ∧ H = [71, 78, 84, 1] ∧ (512 : Int) < N) ∨ (bad = (sumB (H ++ [x4, x5] ++ M) != z) ∧ H = [71, 78, 84, 1] ∧ ¬ (512 : Int) < N)) := by
    by_cases hH : H = [71, 78, 84, 1]
    · by_cases hN5 : N ≤ 512
      · refine ⟨_, ?_, .inr (.inr ⟨rfl, hH, by omega⟩)⟩
        simp only [bne_eq_false_iff_eq]
        exact ⟨fun h => ⟨hH, hN5, h.symm⟩, fun h => h.2.2.symm⟩
      · exact ⟨true, ⟨fun h => (by cases h), fun h => absurd h.2.1 hN5⟩, .inr (.inl ⟨rfl, hH, by omega⟩)⟩
    · refine ⟨true, ⟨fun h => (by cases h), fun h => absurd h.1 hH⟩, .inl ⟨rfl, ?_⟩⟩
      intro e
      rw [ByteArray.toList_eq] at e
      exact hH (map_inj (m := [71, 78, 84, 1]) (brow_bytes r0) (by intro y hy; simp at hy; omega) e)
  obtain ⟨bad, hbad, hcase⟩ := hcase
  have HBAD := Lib.hid hbad
  have HCASE := Lib.hid hcase
  have KS := tl_self ({ data := #[71, 78, 84, 1] } : ByteArray)
  clear hcase hbad
  have EW : Hid (IntKind.i64.wrap x4 = x4 ∧ IntKind.i64.wrap x5 = x5 ∧ IntKind.i64.wrap (x4 * 256) = x4 * 256 ∧ bits .or .i64 (x4 * 256) x5 = N) := Lib.hid ⟨IntWalk.i64_in _ (by omega), IntWalk.i64_in _ (by omega), IntWalk.i64_in _ (by omega), by
    rw [bits_join .i64 63 (by decide) (fun n h0 h1 => by rw [IntKind.wrap_i64]; omega) 8 _ x5 (by omega) (by omega) (by omega) (by omega) (by omega) (by omega)]
    exact hN⟩
  have R0 := Lib.hid (And.intro r0 hH4)
  have R2 := Lib.hid r2
  have R3 := Lib.hid r3'
  have HSUM := Lib.hid hSUM
  have c5' : w.cell? ⟨b, off + 4 + 1, none⟩ = some (.int .u8 x5) := c5
  have D45 := Lib.hid (And.intro c4 c5')
  clear c5'
  have HNN : Hid (x4 * 256 + x5 = N) := Lib.hid hN
  have hc6 : ¬ c - 4 = 2 := by omega
  have hc4 : ¬ (c : Int) < 4 := by omega
  have hcl : ¬ c < l := by omega
  have hnl2 : ¬ n ≤ l := by omega
  have hb0 : ¬ l - 4 = 0 := by omega
  have hb1 : ¬ ((l - 4 : Nat) : Int) ≤ 1 := by omega
  have CZ := Lib.hid cz
  have HI := Lib.hid hISB
  have HN7 : Hid (¬ B.length < 7) := Lib.hid (by omega)
  have HML : Hid (M.length = l - 4 - 2) := Lib.hid (by omega)
  have h7i : ¬ (n : Int) < 7 := by omega
  have hl1 : (4 : Int) ≤ l := by omega
  have hl3 : (2 : Int) ≤ (l - 4 : Nat) := by omega
  clear r0 r2 r3' hSUM cz c4 c5 hISB hM hD6 hTl hT4 eB hB hn hzz h4 h5 hH4 hMl hN hl
  go_enter Try.func11, Try.ntmps11
  go_upto_region 5 with fail
  refine wp_region_held_drew (S := fun W' => w.grownBy W' none) (by kernel_rfl) (g_drew (g_refl _ _)) (fun hHeld => ?_)
  refine wpAnyH_take (i := 0) (v := .slice (some ⟨b, off + 4, none⟩) (l - 4) (c - 4)) rfl (by kernel_rfl) (by kernel_rfl) (by kernel_rfl) (fun _ _ _ h => h) (Or.inl ⟨by rfl, fun w hw => by clear hw; go_simp⟩) hHeld ?_
  try simp only [Act.put, List.setIfInBounds_toArray, List.set_cons_zero, List.set_cons_succ, List.getElem_toArray, List.getElem_cons_zero, List.getElem_cons_succ]
  refine wpAnyH_take (i := 1) (v := .pointer (some ⟨b, off + 4, none⟩)) rfl (by kernel_rfl) (by kernel_rfl) (by kernel_rfl) (fun _ _ _ h => h) (Or.inl ⟨by rfl, fun w hw => by clear hw; go_simp⟩) hHeld ?_
  try simp only [Act.put, List.setIfInBounds_toArray, List.set_cons_zero, List.set_cons_succ, List.getElem_toArray, List.getElem_cons_zero, List.getElem_cons_succ]
  refine wpAnyH_take (i := 2) (v := .int .u8 x4) rfl (by kernel_rfl) (by kernel_rfl) (by kernel_rfl) (fun _ _ _ h => h) (Or.inl ⟨by rfl, fun w hw => by have q0 := hw.cell D45.out.1 (by simp); clear hw; go_simp⟩) hHeld ?_
  try simp only [Act.put, List.setIfInBounds_toArray, List.set_cons_zero, List.set_cons_succ, List.getElem_toArray, List.getElem_cons_zero, List.getElem_cons_succ]
  refine wpAnyH_take (i := 3) (v := .int .i64 x4) rfl (by kernel_rfl) (by kernel_rfl) (by kernel_rfl) (fun _ _ _ h => h) (Or.inl ⟨by rfl, fun w hw => by have ew := EW.out.1; clear hw; go_simp⟩) hHeld ?_
  try simp only [Act.put, List.setIfInBounds_toArray, List.set_cons_zero, List.set_cons_succ, List.getElem_toArray, List.getElem_cons_zero, List.getElem_cons_succ]
  refine wpAnyH_take (i := 4) (v := .int .i64 (x4 * 256)) rfl (by kernel_rfl) (by kernel_rfl) (by kernel_rfl) (fun _ _ _ h => h) (Or.inl ⟨by rfl, fun w hw => by have ew := EW.out.2.2.1; clear hw; go_simp⟩) hHeld ?_
  try simp only [Act.put, List.setIfInBounds_toArray, List.set_cons_zero, List.set_cons_succ, List.getElem_toArray, List.getElem_cons_zero, List.getElem_cons_succ]
  refine wpAnyH_take (i := 5) (v := .slice (some ⟨b, off + 4, none⟩) (l - 4) (c - 4)) rfl (by kernel_rfl) (by kernel_rfl) (by kernel_rfl) (fun _ _ _ h => h) (Or.inl ⟨by rfl, fun w hw => by clear hw; go_simp⟩) hHeld ?_
  try simp only [Act.put, List.setIfInBounds_toArray, List.set_cons_zero, List.set_cons_succ, List.getElem_toArray, List.getElem_cons_zero, List.getElem_cons_succ]
  refine wpAnyH_take (i := 6) (v := .pointer (some ⟨b, off + 4 + 1, none⟩)) rfl (by kernel_rfl) (by kernel_rfl) (by kernel_rfl) (fun _ _ _ h => h) (Or.inl ⟨by rfl, fun w hw => by clear hw; go_simp⟩) hHeld ?_
  try simp only [Act.put, List.setIfInBounds_toArray, List.set_cons_zero, List.set_cons_succ, List.getElem_toArray, List.getElem_cons_zero, List.getElem_cons_succ]
  refine wpAnyH_take (i := 7) (v := .int .u8 x5) rfl (by kernel_rfl) (by kernel_rfl) (by kernel_rfl) (fun _ _ _ h => h) (Or.inl ⟨by rfl, fun w hw => by have q0 := hw.cell D45.out.2 (by simp); clear hw; go_simp⟩) hHeld ?_
  try simp only [Act.put, List.setIfInBounds_toArray, List.set_cons_zero, List.set_cons_succ, List.getElem_toArray, List.getElem_cons_zero, List.getElem_cons_succ]
  refine wpAnyH_take (i := 8) (v := .int .i64 x5) rfl (by kernel_rfl) (by kernel_rfl) (by kernel_rfl) (fun _ _ _ h => h) (Or.inl ⟨by rfl, fun w hw => by have ew := EW.out.2.1; clear hw; go_simp⟩) hHeld ?_
  try simp only [Act.put, List.setIfInBounds_toArray, List.set_cons_zero, List.set_cons_succ, List.getElem_toArray, List.getElem_cons_zero, List.getElem_cons_succ]
  refine wpAnyH_take (i := 9) (v := .int .i64 (N : Int)) rfl (by kernel_rfl) (by kernel_rfl) (by kernel_rfl) (fun _ _ _ h => h) (Or.inl ⟨by rfl, fun w hw => by have ew := EW.out.2.2.2; clear hw; go_simp⟩) hHeld ?_
  try simp only [Act.put, List.setIfInBounds_toArray, List.set_cons_zero, List.set_cons_succ, List.getElem_toArray, List.getElem_cons_zero, List.getElem_cons_succ]
  refine wpAnyH_take (i := 10) (v := .int .i64 (N : Int)) rfl (by kernel_rfl) (by kernel_rfl) (by kernel_rfl) (fun _ _ _ h => h) (Or.inl ⟨by rfl, fun w hw => by clear hw; go_simp⟩) hHeld ?_
  try simp only [Act.put, List.setIfInBounds_toArray, List.set_cons_zero, List.set_cons_succ, List.getElem_toArray, List.getElem_cons_zero, List.getElem_cons_succ]
  refine wpAnyH_done (by kernel_rfl) ?_ _
  go_upto_region 6 with fail
  have HG := Lib.hid hHeld
  clear hHeld
  generalize w.drew = w1 at *
  go_cut [48] (fun s48 wx => s48 = .bool bad ∧ w1.grownBy wx none)
  case first =>
    rcases HCASE.out with ⟨rfl, hne⟩ | ⟨rfl, rfl, hN5⟩ | ⟨hbq, rfl, hN5⟩
    · have HNE := Lib.hid hne
      clear hne
      refine wp_region_held_drew (S := fun W' => w1.grownBy W' none) (by kernel_rfl) (g_drew (g_refl _ _)) (fun hHeld => ?_)
      refine wpAnyH_take (i := 0) (v := .slice (some ⟨b, off, none⟩) n c) rfl (by kernel_rfl) (by kernel_rfl) (by kernel_rfl) (fun _ _ _ h => h) (Or.inl ⟨by rfl, fun w hw => by clear hw; go_simp⟩) hHeld ?_
      try simp only [Act.put, List.setIfInBounds_toArray, List.set_cons_zero, List.set_cons_succ, List.getElem_toArray, List.getElem_cons_zero, List.getElem_cons_succ]
      refine wpAnyH_take (i := 1) (v := .slice (some ⟨b, off, none⟩) 4 c) rfl (by kernel_rfl) (by kernel_rfl) (by kernel_rfl) (fun _ _ _ h => h) (Or.inl ⟨by rfl, fun w hw => by clear hw; go_simp⟩) hHeld ?_
      try simp only [Act.put, List.setIfInBounds_toArray, List.set_cons_zero, List.set_cons_succ, List.getElem_toArray, List.getElem_cons_zero, List.getElem_cons_succ]
      refine wpAnyH_take (i := 2) (v := .string (strOfNums H)) rfl (by kernel_rfl) (by kernel_rfl) (by kernel_rfl) (fun _ _ _ h => h) (Or.inl ⟨by rfl, fun w hw => by have hs := str_row (c := c) (R0.out.1.keep (g_trans HG.out hw)) R0.out.2; clear hw; go_simp⟩) hHeld ?_
      try simp only [Act.put, List.setIfInBounds_toArray, List.set_cons_zero, List.set_cons_succ, List.getElem_toArray, List.getElem_cons_zero, List.getElem_cons_succ]
      refine wpAnyH_take (i := 3) (v := .bool true) rfl (by kernel_rfl) (by kernel_rfl) (by kernel_rfl) (fun _ _ _ h => h) (Or.inl ⟨by rfl, fun w hw => by clear hw; go_simp; exact HNE.out⟩) hHeld ?_
      try simp only [Act.put, List.setIfInBounds_toArray, List.set_cons_zero, List.set_cons_succ, List.getElem_toArray, List.getElem_cons_zero, List.getElem_cons_succ]
      refine wpAnyH_take (i := 4) (v := .bool true) rfl (by kernel_rfl) (by kernel_rfl) (by kernel_rfl) (fun _ _ _ h => h) (Or.inl ⟨by rfl, fun w hw => by clear hw; go_simp⟩) hHeld ?_
      try simp only [Act.put, List.setIfInBounds_toArray, List.set_cons_zero, List.set_cons_succ, List.getElem_toArray, List.getElem_cons_zero, List.getElem_cons_succ]
      refine wpAnyH_take (i := 5) (v := undef) rfl (by kernel_rfl) (by kernel_rfl) (by kernel_rfl) (fun _ _ _ h => h) (Or.inr ⟨by rfl, rfl⟩) hHeld ?_
      try simp only [Act.put, List.setIfInBounds_toArray, List.set_cons_zero, List.set_cons_succ, List.getElem_toArray, List.getElem_cons_zero, List.getElem_cons_succ]
      refine wpAnyH_take (i := 6) (v := undef) rfl (by kernel_rfl) (by kernel_rfl) (by kernel_rfl) (fun _ _ _ h => h) (Or.inr ⟨by rfl, rfl⟩) hHeld ?_
      try simp only [Act.put, List.setIfInBounds_toArray, List.set_cons_zero, List.set_cons_succ, List.getElem_toArray, List.getElem_cons_zero, List.getElem_cons_succ]
      refine wpAnyH_take (i := 7) (v := .bool true) rfl (by kernel_rfl) (by kernel_rfl) (by kernel_rfl) (fun _ _ _ h => h) (Or.inl ⟨by rfl, fun w hw => by clear hw; go_simp⟩) hHeld ?_
      try simp only [Act.put, List.setIfInBounds_toArray, List.set_cons_zero, List.set_cons_succ, List.getElem_toArray, List.getElem_cons_zero, List.getElem_cons_succ]
      refine wpAnyH_take (i := 8) (v := .bool true) rfl (by kernel_rfl) (by kernel_rfl) (by kernel_rfl) (fun _ _ _ h => h) (Or.inl ⟨by rfl, fun w hw => by clear hw; go_simp⟩) hHeld ?_
      try simp only [Act.put, List.setIfInBounds_toArray, List.set_cons_zero, List.set_cons_succ, List.getElem_toArray, List.getElem_cons_zero, List.getElem_cons_succ]
      refine wpAnyH_take (i := 9) (v := undef) rfl (by kernel_rfl) (by kernel_rfl) (by kernel_rfl) (fun _ _ _ h => h) (Or.inr ⟨by rfl, rfl⟩) hHeld ?_
      try simp only [Act.put, List.setIfInBounds_toArray, List.set_cons_zero, List.set_cons_succ, List.getElem_toArray, List.getElem_cons_zero, List.getElem_cons_succ]
      refine wpAnyH_take (i := 10) (v := undef) rfl (by kernel_rfl) (by kernel_rfl) (by kernel_rfl) (fun _ _ _ h => h) (Or.inr ⟨by rfl, rfl⟩) hHeld ?_
      try simp only [Act.put, List.setIfInBounds_toArray, List.set_cons_zero, List.set_cons_succ, List.getElem_toArray, List.getElem_cons_zero, List.getElem_cons_succ]
      refine wpAnyH_take (i := 11) (v := undef) rfl (by kernel_rfl) (by kernel_rfl) (by kernel_rfl) (fun _ _ _ h => h) (Or.inr ⟨by rfl, rfl⟩) hHeld ?_
      try simp only [Act.put, List.setIfInBounds_toArray, List.set_cons_zero, List.set_cons_succ, List.getElem_toArray, List.getElem_cons_zero, List.getElem_cons_succ]
      refine wpAnyH_take (i := 12) (v := undef) rfl (by kernel_rfl) (by kernel_rfl) (by kernel_rfl) (fun _ _ _ h => h) (Or.inr ⟨by rfl, rfl⟩) hHeld ?_
      try simp only [Act.put, List.setIfInBounds_toArray, List.set_cons_zero, List.set_cons_succ, List.getElem_toArray, List.getElem_cons_zero, List.getElem_cons_succ]
      refine wpAnyH_take (i := 13) (v := undef) rfl (by kernel_rfl) (by kernel_rfl) (by kernel_rfl) (fun _ _ _ h => h) (Or.inr ⟨by rfl, rfl⟩) hHeld ?_
      try simp only [Act.put, List.setIfInBounds_toArray, List.set_cons_zero, List.set_cons_succ, List.getElem_toArray, List.getElem_cons_zero, List.getElem_cons_succ]
      refine wpAnyH_take (i := 14) (v := undef) rfl (by kernel_rfl) (by kernel_rfl) (by kernel_rfl) (fun _ _ _ h => h) (Or.inr ⟨by rfl, rfl⟩) hHeld ?_
      try simp only [Act.put, List.setIfInBounds_toArray, List.set_cons_zero, List.set_cons_succ, List.getElem_toArray, List.getElem_cons_zero, List.getElem_cons_succ]
      refine wpAnyH_take (i := 15) (v := undef) rfl (by kernel_rfl) (by kernel_rfl) (by kernel_rfl) (fun _ _ _ h => h) (Or.inr ⟨by rfl, rfl⟩) hHeld ?_
      try simp only [Act.put, List.setIfInBounds_toArray, List.set_cons_zero, List.set_cons_succ, List.getElem_toArray, List.getElem_cons_zero, List.getElem_cons_succ]
      refine wpAnyH_take (i := 16) (v := undef) rfl (by kernel_rfl) (by kernel_rfl) (by kernel_rfl) (fun _ _ _ h => h) (Or.inr ⟨by rfl, rfl⟩) hHeld ?_
      try simp only [Act.put, List.setIfInBounds_toArray, List.set_cons_zero, List.set_cons_succ, List.getElem_toArray, List.getElem_cons_zero, List.getElem_cons_succ]
      refine wpAnyH_take (i := 17) (v := undef) rfl (by kernel_rfl) (by kernel_rfl) (by kernel_rfl) (fun _ _ _ h => h) (Or.inr ⟨by rfl, rfl⟩) hHeld ?_
      try simp only [Act.put, List.setIfInBounds_toArray, List.set_cons_zero, List.set_cons_succ, List.getElem_toArray, List.getElem_cons_zero, List.getElem_cons_succ]
      refine wpAnyH_take (i := 18) (v := .bool true) rfl (by kernel_rfl) (by kernel_rfl) (by kernel_rfl) (fun _ _ _ h => h) (Or.inl ⟨by rfl, fun w hw => by clear hw; go_simp⟩) hHeld ?_
      try simp only [Act.put, List.setIfInBounds_toArray, List.set_cons_zero, List.set_cons_succ, List.getElem_toArray, List.getElem_cons_zero, List.getElem_cons_succ]
      refine wpAnyH_done (by kernel_rfl) ?_ _
      go_wp2_with fail
      go_meet
      exact ⟨rfl, hHeld⟩
    · refine wp_region_held_drew (S := fun W' => w1.grownBy W' none) (by kernel_rfl) (g_drew (g_refl _ _)) (fun hHeld => ?_)
      refine wpAnyH_take (i := 0) (v := .slice (some ⟨b, off, none⟩) n c) rfl (by kernel_rfl) (by kernel_rfl) (by kernel_rfl) (fun _ _ _ h => h) (Or.inl ⟨by rfl, fun w hw => by clear hw; go_simp⟩) hHeld ?_
      try simp only [Act.put, List.setIfInBounds_toArray, List.set_cons_zero, List.set_cons_succ, List.getElem_toArray, List.getElem_cons_zero, List.getElem_cons_succ]
      refine wpAnyH_take (i := 1) (v := .slice (some ⟨b, off, none⟩) 4 c) rfl (by kernel_rfl) (by kernel_rfl) (by kernel_rfl) (fun _ _ _ h => h) (Or.inl ⟨by rfl, fun w hw => by clear hw; go_simp⟩) hHeld ?_
      try simp only [Act.put, List.setIfInBounds_toArray, List.set_cons_zero, List.set_cons_succ, List.getElem_toArray, List.getElem_cons_zero, List.getElem_cons_succ]
      refine wpAnyH_take (i := 2) (v := .string { data := #[71, 78, 84, 1] }) rfl (by kernel_rfl) (by kernel_rfl) (by kernel_rfl) (fun _ _ _ h => h) (Or.inl ⟨by rfl, fun w hw => by have hs := str_row (c := c) (R0.out.1.keep (g_trans HG.out hw)) R0.out.2; rw [str_head] at hs; clear hw; go_simp⟩) hHeld ?_
      try simp only [Act.put, List.setIfInBounds_toArray, List.set_cons_zero, List.set_cons_succ, List.getElem_toArray, List.getElem_cons_zero, List.getElem_cons_succ]
      refine wpAnyH_take (i := 3) (v := .bool false) rfl (by kernel_rfl) (by kernel_rfl) (by kernel_rfl) (fun _ _ _ h => h) (Or.inl ⟨by rfl, fun w hw => by clear hw; go_simp⟩) hHeld ?_
      try simp only [Act.put, List.setIfInBounds_toArray, List.set_cons_zero, List.set_cons_succ, List.getElem_toArray, List.getElem_cons_zero, List.getElem_cons_succ]
      refine wpAnyH_take (i := 4) (v := .bool false) rfl (by kernel_rfl) (by kernel_rfl) (by kernel_rfl) (fun _ _ _ h => h) (Or.inl ⟨by rfl, fun w hw => by clear hw; go_simp⟩) hHeld ?_
      try simp only [Act.put, List.setIfInBounds_toArray, List.set_cons_zero, List.set_cons_succ, List.getElem_toArray, List.getElem_cons_zero, List.getElem_cons_succ]
      refine wpAnyH_take (i := 5) (v := .int .i64 (N : Int)) rfl (by kernel_rfl) (by kernel_rfl) (by kernel_rfl) (fun _ _ _ h => h) (Or.inl ⟨by rfl, fun w hw => by clear hw; go_simp⟩) hHeld ?_
      try simp only [Act.put, List.setIfInBounds_toArray, List.set_cons_zero, List.set_cons_succ, List.getElem_toArray, List.getElem_cons_zero, List.getElem_cons_succ]
      refine wpAnyH_take (i := 6) (v := .bool true) rfl (by kernel_rfl) (by kernel_rfl) (by kernel_rfl) (fun _ _ _ h => h) (Or.inl ⟨by rfl, fun w hw => by clear hw; go_simp⟩) hHeld ?_
      try simp only [Act.put, List.setIfInBounds_toArray, List.set_cons_zero, List.set_cons_succ, List.getElem_toArray, List.getElem_cons_zero, List.getElem_cons_succ]
      refine wpAnyH_take (i := 7) (v := .bool true) rfl (by kernel_rfl) (by kernel_rfl) (by kernel_rfl) (fun _ _ _ h => h) (Or.inl ⟨by rfl, fun w hw => by clear hw; go_simp⟩) hHeld ?_
      try simp only [Act.put, List.setIfInBounds_toArray, List.set_cons_zero, List.set_cons_succ, List.getElem_toArray, List.getElem_cons_zero, List.getElem_cons_succ]
      refine wpAnyH_take (i := 8) (v := .bool true) rfl (by kernel_rfl) (by kernel_rfl) (by kernel_rfl) (fun _ _ _ h => h) (Or.inl ⟨by rfl, fun w hw => by clear hw; go_simp⟩) hHeld ?_
      try simp only [Act.put, List.setIfInBounds_toArray, List.set_cons_zero, List.set_cons_succ, List.getElem_toArray, List.getElem_cons_zero, List.getElem_cons_succ]
      refine wpAnyH_take (i := 9) (v := undef) rfl (by kernel_rfl) (by kernel_rfl) (by kernel_rfl) (fun _ _ _ h => h) (Or.inr ⟨by rfl, rfl⟩) hHeld ?_
      try simp only [Act.put, List.setIfInBounds_toArray, List.set_cons_zero, List.set_cons_succ, List.getElem_toArray, List.getElem_cons_zero, List.getElem_cons_succ]
      refine wpAnyH_take (i := 10) (v := undef) rfl (by kernel_rfl) (by kernel_rfl) (by kernel_rfl) (fun _ _ _ h => h) (Or.inr ⟨by rfl, rfl⟩) hHeld ?_
      try simp only [Act.put, List.setIfInBounds_toArray, List.set_cons_zero, List.set_cons_succ, List.getElem_toArray, List.getElem_cons_zero, List.getElem_cons_succ]
      refine wpAnyH_take (i := 11) (v := undef) rfl (by kernel_rfl) (by kernel_rfl) (by kernel_rfl) (fun _ _ _ h => h) (Or.inr ⟨by rfl, rfl⟩) hHeld ?_
      try simp only [Act.put, List.setIfInBounds_toArray, List.set_cons_zero, List.set_cons_succ, List.getElem_toArray, List.getElem_cons_zero, List.getElem_cons_succ]
      refine wpAnyH_take (i := 12) (v := undef) rfl (by kernel_rfl) (by kernel_rfl) (by kernel_rfl) (fun _ _ _ h => h) (Or.inr ⟨by rfl, rfl⟩) hHeld ?_
      try simp only [Act.put, List.setIfInBounds_toArray, List.set_cons_zero, List.set_cons_succ, List.getElem_toArray, List.getElem_cons_zero, List.getElem_cons_succ]
      refine wpAnyH_take (i := 13) (v := undef) rfl (by kernel_rfl) (by kernel_rfl) (by kernel_rfl) (fun _ _ _ h => h) (Or.inr ⟨by rfl, rfl⟩) hHeld ?_
      try simp only [Act.put, List.setIfInBounds_toArray, List.set_cons_zero, List.set_cons_succ, List.getElem_toArray, List.getElem_cons_zero, List.getElem_cons_succ]
      refine wpAnyH_take (i := 14) (v := undef) rfl (by kernel_rfl) (by kernel_rfl) (by kernel_rfl) (fun _ _ _ h => h) (Or.inr ⟨by rfl, rfl⟩) hHeld ?_
      try simp only [Act.put, List.setIfInBounds_toArray, List.set_cons_zero, List.set_cons_succ, List.getElem_toArray, List.getElem_cons_zero, List.getElem_cons_succ]
      refine wpAnyH_take (i := 15) (v := undef) rfl (by kernel_rfl) (by kernel_rfl) (by kernel_rfl) (fun _ _ _ h => h) (Or.inr ⟨by rfl, rfl⟩) hHeld ?_
      try simp only [Act.put, List.setIfInBounds_toArray, List.set_cons_zero, List.set_cons_succ, List.getElem_toArray, List.getElem_cons_zero, List.getElem_cons_succ]
      refine wpAnyH_take (i := 16) (v := undef) rfl (by kernel_rfl) (by kernel_rfl) (by kernel_rfl) (fun _ _ _ h => h) (Or.inr ⟨by rfl, rfl⟩) hHeld ?_
      try simp only [Act.put, List.setIfInBounds_toArray, List.set_cons_zero, List.set_cons_succ, List.getElem_toArray, List.getElem_cons_zero, List.getElem_cons_succ]
      refine wpAnyH_take (i := 17) (v := undef) rfl (by kernel_rfl) (by kernel_rfl) (by kernel_rfl) (fun _ _ _ h => h) (Or.inr ⟨by rfl, rfl⟩) hHeld ?_
      try simp only [Act.put, List.setIfInBounds_toArray, List.set_cons_zero, List.set_cons_succ, List.getElem_toArray, List.getElem_cons_zero, List.getElem_cons_succ]
      refine wpAnyH_take (i := 18) (v := .bool true) rfl (by kernel_rfl) (by kernel_rfl) (by kernel_rfl) (fun _ _ _ h => h) (Or.inl ⟨by rfl, fun w hw => by clear hw; go_simp⟩) hHeld ?_
      try simp only [Act.put, List.setIfInBounds_toArray, List.set_cons_zero, List.set_cons_succ, List.getElem_toArray, List.getElem_cons_zero, List.getElem_cons_succ]
      refine wpAnyH_done (by kernel_rfl) ?_ _
      go_wp2_with fail
      go_meet
      exact ⟨rfl, hHeld⟩
    · generalize sumB ([71, 78, 84, 1] ++ [x4, x5] ++ M) = sm at *
      have hbq2 := hbq.symm
      clear hbq
      refine wp_region_held_drew (S := fun W' => w1.grownBy W' none) (by kernel_rfl) (g_drew (g_refl _ _)) (fun hHeld => ?_)
      refine wpAnyH_take (i := 0) (v := .slice (some ⟨b, off, none⟩) n c) rfl (by kernel_rfl) (by kernel_rfl) (by kernel_rfl) (fun _ _ _ h => h) (Or.inl ⟨by rfl, fun w hw => by clear hw; go_simp⟩) hHeld ?_
      try simp only [Act.put, List.setIfInBounds_toArray, List.set_cons_zero, List.set_cons_succ, List.getElem_toArray, List.getElem_cons_zero, List.getElem_cons_succ]
      refine wpAnyH_take (i := 1) (v := .slice (some ⟨b, off, none⟩) 4 c) rfl (by kernel_rfl) (by kernel_rfl) (by kernel_rfl) (fun _ _ _ h => h) (Or.inl ⟨by rfl, fun w hw => by clear hw; go_simp⟩) hHeld ?_
      try simp only [Act.put, List.setIfInBounds_toArray, List.set_cons_zero, List.set_cons_succ, List.getElem_toArray, List.getElem_cons_zero, List.getElem_cons_succ]
      refine wpAnyH_take (i := 2) (v := .string { data := #[71, 78, 84, 1] }) rfl (by kernel_rfl) (by kernel_rfl) (by kernel_rfl) (fun _ _ _ h => h) (Or.inl ⟨by rfl, fun w hw => by have hs := str_row (c := c) (R0.out.1.keep (g_trans HG.out hw)) R0.out.2; rw [str_head] at hs; clear hw; go_simp⟩) hHeld ?_
      try simp only [Act.put, List.setIfInBounds_toArray, List.set_cons_zero, List.set_cons_succ, List.getElem_toArray, List.getElem_cons_zero, List.getElem_cons_succ]
      refine wpAnyH_take (i := 3) (v := .bool false) rfl (by kernel_rfl) (by kernel_rfl) (by kernel_rfl) (fun _ _ _ h => h) (Or.inl ⟨by rfl, fun w hw => by clear hw; go_simp⟩) hHeld ?_
      try simp only [Act.put, List.setIfInBounds_toArray, List.set_cons_zero, List.set_cons_succ, List.getElem_toArray, List.getElem_cons_zero, List.getElem_cons_succ]
      refine wpAnyH_take (i := 4) (v := .bool false) rfl (by kernel_rfl) (by kernel_rfl) (by kernel_rfl) (fun _ _ _ h => h) (Or.inl ⟨by rfl, fun w hw => by clear hw; go_simp⟩) hHeld ?_
      try simp only [Act.put, List.setIfInBounds_toArray, List.set_cons_zero, List.set_cons_succ, List.getElem_toArray, List.getElem_cons_zero, List.getElem_cons_succ]
      refine wpAnyH_take (i := 5) (v := .int .i64 (N : Int)) rfl (by kernel_rfl) (by kernel_rfl) (by kernel_rfl) (fun _ _ _ h => h) (Or.inl ⟨by rfl, fun w hw => by clear hw; go_simp⟩) hHeld ?_
      try simp only [Act.put, List.setIfInBounds_toArray, List.set_cons_zero, List.set_cons_succ, List.getElem_toArray, List.getElem_cons_zero, List.getElem_cons_succ]
      refine wpAnyH_take (i := 6) (v := .bool false) rfl (by kernel_rfl) (by kernel_rfl) (by kernel_rfl) (fun _ _ _ h => h) (Or.inl ⟨by rfl, fun w hw => by clear hw; go_simp⟩) hHeld ?_
      try simp only [Act.put, List.setIfInBounds_toArray, List.set_cons_zero, List.set_cons_succ, List.getElem_toArray, List.getElem_cons_zero, List.getElem_cons_succ]
      refine wpAnyH_take (i := 7) (v := .bool false) rfl (by kernel_rfl) (by kernel_rfl) (by kernel_rfl) (fun _ _ _ h => h) (Or.inl ⟨by rfl, fun w hw => by clear hw; go_simp⟩) hHeld ?_
      try simp only [Act.put, List.setIfInBounds_toArray, List.set_cons_zero, List.set_cons_succ, List.getElem_toArray, List.getElem_cons_zero, List.getElem_cons_succ]
      refine wpAnyH_take (i := 8) (v := .bool false) rfl (by kernel_rfl) (by kernel_rfl) (by kernel_rfl) (fun _ _ _ h => h) (Or.inl ⟨by rfl, fun w hw => by clear hw; go_simp⟩) hHeld ?_
      try simp only [Act.put, List.setIfInBounds_toArray, List.set_cons_zero, List.set_cons_succ, List.getElem_toArray, List.getElem_cons_zero, List.getElem_cons_succ]
      refine wpAnyH_take (i := 9) (v := .slice (some ⟨b, off, none⟩) n c) rfl (by kernel_rfl) (by kernel_rfl) (by kernel_rfl) (fun _ _ _ h => h) (Or.inl ⟨by rfl, fun w hw => by clear hw; go_simp⟩) hHeld ?_
      try simp only [Act.put, List.setIfInBounds_toArray, List.set_cons_zero, List.set_cons_succ, List.getElem_toArray, List.getElem_cons_zero, List.getElem_cons_succ]
      refine wpAnyH_take (i := 10) (v := .int .i64 (l : Int)) rfl (by kernel_rfl) (by kernel_rfl) (by kernel_rfl) (fun _ _ _ h => h) (Or.inl ⟨by rfl, fun w hw => by clear hw; go_simp⟩) hHeld ?_
      try simp only [Act.put, List.setIfInBounds_toArray, List.set_cons_zero, List.set_cons_succ, List.getElem_toArray, List.getElem_cons_zero, List.getElem_cons_succ]
      refine wpAnyH_take (i := 11) (v := .slice (some ⟨b, off, none⟩) l c) rfl (by kernel_rfl) (by kernel_rfl) (by kernel_rfl) (fun _ _ _ h => h) (Or.inl ⟨by rfl, fun w hw => by clear hw; go_simp⟩) hHeld ?_
      try simp only [Act.put, List.setIfInBounds_toArray, List.set_cons_zero, List.set_cons_succ, List.getElem_toArray, List.getElem_cons_zero, List.getElem_cons_succ]
      refine wpAnyH_take (i := 13) (v := .slice (some ⟨b, off, none⟩) n c) rfl (by kernel_rfl) (by kernel_rfl) (by kernel_rfl) (fun _ _ _ h => h) (Or.inl ⟨by rfl, fun w hw => by clear hw; go_simp⟩) hHeld ?_
      try simp only [Act.put, List.setIfInBounds_toArray, List.set_cons_zero, List.set_cons_succ, List.getElem_toArray, List.getElem_cons_zero, List.getElem_cons_succ]
      refine wpAnyH_take (i := 14) (v := .int .i64 (l : Int)) rfl (by kernel_rfl) (by kernel_rfl) (by kernel_rfl) (fun _ _ _ h => h) (Or.inl ⟨by rfl, fun w hw => by clear hw; go_simp⟩) hHeld ?_
      try simp only [Act.put, List.setIfInBounds_toArray, List.set_cons_zero, List.set_cons_succ, List.getElem_toArray, List.getElem_cons_zero, List.getElem_cons_succ]
      refine wpAnyH_take (i := 15) (v := .pointer (some ⟨b, off + l, none⟩)) rfl (by kernel_rfl) (by kernel_rfl) (by kernel_rfl) (fun _ _ _ h => h) (Or.inl ⟨by rfl, fun w hw => by clear hw; go_simp⟩) hHeld ?_
      try simp only [Act.put, List.setIfInBounds_toArray, List.set_cons_zero, List.set_cons_succ, List.getElem_toArray, List.getElem_cons_zero, List.getElem_cons_succ]
      refine wpAnyH_take (i := 16) (v := .int .u8 z) rfl (by kernel_rfl) (by kernel_rfl) (by kernel_rfl) (fun _ _ _ h => h) (Or.inl ⟨by rfl, fun w hw => by have q0 := (g_trans HG.out hw).cell CZ.out (by simp); clear hw; go_simp⟩) hHeld ?_
      try simp only [Act.put, List.setIfInBounds_toArray, List.set_cons_zero, List.set_cons_succ, List.getElem_toArray, List.getElem_cons_zero, List.getElem_cons_succ]
      refine wpAnyH_ready (rs := [12]) (by kernel_rfl) (by simp) (AllReadyH.cons rfl (fun K hK => ?_) (AllReadyH.nil))
      · go_simp
        refine Calls.mono (HSUM.out _ (R2.out.keep (g_trans HG.out hHeld))) ?_
        rintro e wc1 ⟨rfl, gc1⟩
        try go_wp2_with fail
        refine hK.out _ _ (g_trans hHeld gc1) (fun hHeld => ?_)
        clear hK K gc1
        try simp only [Act.put, List.setIfInBounds_toArray, List.set_cons_zero, List.set_cons_succ, List.getElem_toArray, List.getElem_cons_zero, List.getElem_cons_succ]
        refine wpAnyH_take (i := 17) (v := .bool bad) rfl (by kernel_rfl) (by kernel_rfl) (by kernel_rfl) (fun _ _ _ h => h) (Or.inl ⟨by rfl, fun w hw => by clear hw; go_simp⟩) hHeld ?_
        try simp only [Act.put, List.setIfInBounds_toArray, List.set_cons_zero, List.set_cons_succ, List.getElem_toArray, List.getElem_cons_zero, List.getElem_cons_succ]
        refine wpAnyH_take (i := 18) (v := .bool bad) rfl (by kernel_rfl) (by kernel_rfl) (by kernel_rfl) (fun _ _ _ h => h) (Or.inl ⟨by rfl, fun w hw => by clear hw; go_simp⟩) hHeld ?_
        try simp only [Act.put, List.setIfInBounds_toArray, List.set_cons_zero, List.set_cons_succ, List.getElem_toArray, List.getElem_cons_zero, List.getElem_cons_succ]
        refine wpAnyH_done (by kernel_rfl) ?_ _
        go_wp2_with fail
        go_meet
        exact ⟨rfl, hHeld⟩
  case rest =>
    obtain ⟨rfl, g2⟩ := hcut
    rename World => w2
    have G2 := Lib.hid (g_trans HG.out g2)
    clear g2
    cases bad
    · obtain ⟨hH, hN5, hzs⟩ := HBAD.out.1 rfl
      have HHH := Lib.hid (And.intro hH hzs)
      clear hH hzs
      go_wp2_with fail
      go_loopw [5, 7, 52] (fun rest pv i wr => ∃ (j m cc : Nat) (p : List I4) (R : List Int) (a : Option Addr), i = .int .i64 j ∧ j ≤ N ∧ p.length = j ∧ okL p = true ∧ flatB p ++ R = M ∧ rest = .slice a m cc ∧ BRow wr a R ∧ R.length = m ∧ m ≤ cc ∧ cc ≤ 9223372036854775807 ∧ wr.ownsRow w.heap.size 43 4 pv p.length (iv p) ∧ w.grownBy wr none) (fun _ _ i _ => (N - intOf i).toNat)
      case atStart => exact ⟨0, l - 4 - 2, c - 4 - 2, [], M, some ⟨b, off + 6, none⟩, rfl, Nat.zero_le _, rfl, rfl, by simp [flatB], rfl, R3.out.keep G2.out, HML.out, by omega, by omega, World.ownsRow_nil _ _ _ _, G2.out⟩
      case round =>
        obtain ⟨j, m, cc, p, R, a, rfl, hj, hpl, hpo, hM, rfl, hbr, hRl, hmc, hcc, how, hg⟩ := hrel
        have hmM : m < 100000 := by
          have h1 := congrArg List.length hM
          rw [List.length_append, HML.out, hRl] at h1
          omega
        have HPL := Lib.hid hpl
        have HPO := Lib.hid hpo
        have HMM := Lib.hid hM
        have HBR := Lib.hid hbr
        have HRL := Lib.hid hRl
        have HOW := Lib.hid how
        have GR := Lib.hid hg
        clear hpl hpo hM hbr hRl how hg
        by_cases hlt : j < N
        · have hji : (j : Int) < N := by omega
          have HD := Lib.hid (decx_any a m cc R wr HBR.out HRL.out hmM hmc hcc)
          go_wp2_with fail
          refine HD.out.mono ?_
          rintro e w3 ⟨g3, ⟨hno, r, hr0, rfl⟩ | ⟨x, S, hx, hS, a', m', cc', rfl, hb', hl', hm', hcc', hpos'⟩⟩
          · have hrr : (r != 0) = true := by simp [hr0]
            have HNO := Lib.hid hno
            clear hno hr0
            go_wp2_with fail
            go_ret2
            refine pdec_bad (g_trans (g_trans GR.out g3) (g_alloc (g_refl _ none) _)) HN7.out ?_
            rintro ⟨p', hp'⟩
            obtain ⟨-, k2, k3, k4, k5, -⟩ := (HI.out p').1 hp'
            have hnl3 : p'.length = N := by have := HNN.out; omega
            obtain ⟨q, q1, q2⟩ := flat_cancel (S := []) HPO.out k4 (by rw [HPL.out]; omega) (by rw [HMM.out, k5]; simp)
            cases q with
            | nil => rw [q1, List.append_nil, HPL.out] at hnl3; omega
            | cons y u =>
              refine HNO.out ⟨y, flatB u, ?_, ?_⟩
              · rw [q1] at k4
                simp only [okL, List.all_append, List.all_cons, Bool.and_eq_true] at k4
                exact k4.2.1
              · rw [q2]; simp [flatB]
          · have HXO := Lib.hid hx
            have HXS := Lib.hid hS
            have HB' := Lib.hid hb'
            have HL' := Lib.hid hl'
            have ga := g_alloc (g_refl w3 none) (.cells #[.int .i64 x.k, .int .i64 x.a, .int .i64 x.b, .int .i64 x.c] 43)
            have gb := g_alloc (g_refl (w3.alloc (.cells #[.int .i64 x.k, .int .i64 x.a, .int .i64 x.b, .int .i64 x.c] 43)) none) (.cells #[.int .i64 x.k, .int .i64 x.a, .int .i64 x.b, .int .i64 x.c] 43)
            have HO5 := Lib.hid (own_keepn (own_keepn (own_keepn HOW.out g3) ga) gb)
            have G5 := Lib.hid (g_trans (g_trans (g_trans GR.out g3) ga) gb)
            have HBK := Lib.hid ((HB'.out.keep ga).keep gb)
            have HNW : Hid (∀ (j : Nat) (u : Value), ([.int .i64 x.k, .int .i64 x.a, .int .i64 x.b, .int .i64 x.c] : List Value)[j]? = some u → ((w3.alloc (.cells #[.int .i64 x.k, .int .i64 x.a, .int .i64 x.b, .int .i64 x.c] 43)).alloc (.cells #[.int .i64 x.k, .int .i64 x.a, .int .i64 x.b, .int .i64 x.c] 43)).cell? ((⟨w3.heap.size + 1, 0, none⟩ : Addr).add j) = some u) := Lib.hid (by
              have h := news4 (w3.alloc (.cells #[.int .i64 x.k, .int .i64 x.a, .int .i64 x.b, .int .i64 x.c] 43)) x.k x.a x.b x.c
              simpa using h)
            have HON : Hid (∀ u ∈ ([.int .i64 x.k, .int .i64 x.a, .int .i64 x.b, .int .i64 x.c] : List Value), u.oneCell' = true) := Lib.hid (by intro u hu; simp at hu; rcases hu with rfl | rfl | rfl | rfl <;> rfl)
            have hz5 := G5.out.size
            have hpl5 : p.length ≤ 65536 := by have := HPL.out; omega
            clear hx hS hb' hl' ga gb
            go_wp2_with (at_builtin; refine wpList_append_own _ rfl _ _ 22 rfl w.heap.size 43 i0 (.agg #[.int .i64 0, .int .i64 0, .int .i64 0, .int .i64 0]) 4 32 Try.underlying22 hi hz0 hz1 hz2 rfl (by decide) _ _ _ rfl HO5.out ⟨w3.heap.size + 1, 0, none⟩ 1 1 [.int .i64 x.k, .int .i64 x.a, .int .i64 x.b, .int .i64 x.c] rfl rfl HNW.out HON.out (by unfold maxLen; omega) (by omega) hz5 ?_; intro v6 w6 hown hgrow _)
            have HO6 := Lib.hid hown
            have G6 := Lib.hid (g_own2 G5.out (Nat.le_refl _) HO5.out hgrow)
            have HGR := Lib.hid hgrow
            clear hown hgrow hz5
            go_wp2_with fail
            go_roundw
            case rel =>
              refine ⟨j + 1, m', cc', p ++ [x], S, a', by go_num, by omega, by rw [List.length_append, HPL.out]; rfl, by rw [okL_snoc, HPO.out, HXO.out]; rfl, by rw [flatB_snoc, List.append_assoc, ← HXS.out]; exact HMM.out, rfl, ?_, HL'.out, hm', hcc', by rw [List.length_append, iv_snoc]; exact HO6.out, G6.out⟩
              by_cases hm0 : 0 < m'
              · obtain ⟨g, rfl, hgl⟩ := hpos' hm0
                intro i y hy
                obtain ⟨h0, b9, off9, e9, hc9⟩ := HBK.out i y hy
                cases e9
                exact ⟨h0, g, 0, rfl, HGR.out.cell hc9 (fun e => by have := (HOW.out.lt g e.symm).2; omega)⟩
              · have h0 : S = [] := List.eq_nil_of_length_eq_zero (by have := HL'.out; omega)
                rw [h0]
                exact fun i y hy => (by cases hy)
            case measure => simp [intOf]; omega
        · obtain rfl : j = N := by omega
          by_cases hm0 : m = 0
          · subst hm0
            go_wp2_with fail
            go_ret2
            refine pdec_ok GR.out ((HI.out p).2 ⟨HHH.out.1, by rw [HNN.out, HPL.out], by rw [HPL.out]; exact hN5, HPO.out, ?_, HHH.out.2⟩) HOW.out
            have h0 : R = [] := List.eq_nil_of_length_eq_zero HRL.out
            have := HMM.out
            rw [h0, List.append_nil] at this
            exact this.symm
          · have hmi : (0 : Int) < m := by omega
            go_wp2_with fail
            go_ret2
            refine pdec_bad GR.out HN7.out ?_
            rintro ⟨p', hp'⟩
            obtain ⟨-, k2, k3, k4, k5, -⟩ := (HI.out p').1 hp'
            have hnl3 : p'.length = j := by have := HNN.out; omega
            obtain ⟨q, q1, q2⟩ := flat_cancel (S := []) HPO.out k4 (by rw [HPL.out]; omega) (by rw [HMM.out, k5]; simp)
            have hq : q = [] := by
              have h1 := congrArg List.length q1
              rw [List.length_append, HPL.out] at h1
              exact List.eq_nil_of_length_eq_zero (by omega)
            rw [hq] at q2
            have h1 := HRL.out
            rw [q2] at h1
            simp [flatB] at h1
            exact hm0 h1.symm
    · go_wp2_with fail
      go_ret2
      refine pdec_bad G2.out HN7.out ?_
      rintro ⟨p', hp'⟩
      obtain ⟨k1, k2, k3, k4, k5, k6⟩ := (HI.out p').1 hp'
      have := HBAD.out.2 ⟨k1, by have := HNN.out; omega, k6⟩
      cases this

end Go.Proofs.Ytmckaimgeflncaa
