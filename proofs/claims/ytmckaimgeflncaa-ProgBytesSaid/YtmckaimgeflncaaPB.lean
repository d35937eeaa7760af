/- Programs as bytes: Encode. -/
import Derived.Test.YtmckaimgeflncaaPA
import Derived.Laws.AppendOwnNone
import Derived.ArgAppend
import Derived.Lib.SlBytesConst
import Derived.Lib.SmallJoins
namespace Go.Proofs.Ytmckaimgeflncaa
open Go.RowKit
set_option linter.unusedVariables false
set_option linter.unusedSimpArgs false

def hdB (n : Nat) : List Int := [71, 78, 84, 1, (n : Int) / 256, (n : Int) % 256]
def flatB (L : List I4) : List Int := L.flatMap encx
def bodyB (L : List I4) : List Int := hdB L.length ++ flatB L
def full (L : List I4) : List Int := bodyB L ++ [sumB (bodyB L)]
def okL (L : List I4) : Bool := L.all okx

theorem flatB_snoc (L : List I4) (x : I4) : flatB (L ++ [x]) = flatB L ++ encx x := by simp [flatB]
theorem flatB_len (L : List I4) : (flatB L).length ≤ L.length * 25 := by
  induction L with
  | nil => simp [flatB]
  | cons x t ih =>
    have e : flatB (x :: t) = encx x ++ flatB t := by simp [flatB]
    have := encx_len x
    rw [e, List.length_append, List.length_cons]; omega
theorem okL_snoc (L : List I4) (x : I4) : okL (L ++ [x]) = (okL L && okx x) := by simp [okL]
theorem flatB_bytes {L : List I4} (h : okL L = true) : ∀ y ∈ flatB L, 0 ≤ y ∧ y ≤ 255 := by
  intro y hy
  unfold flatB at hy
  obtain ⟨x, hx, hy⟩ := List.mem_flatMap.1 hy
  exact encx_bytes (List.all_eq_true.1 h x hx) y hy
theorem hdB_bytes {n : Nat} (h : n ≤ 512) : ∀ y ∈ hdB n, 0 ≤ y ∧ y ≤ 255 := by
  intro y hy
  simp only [hdB, List.mem_cons, List.not_mem_nil, or_false] at hy
  rcases hy with rfl | rfl | rfl | rfl | rfl | rfl <;> omega
theorem bytes_app {l m : List Int} (h : ∀ y ∈ l, 0 ≤ y ∧ y ≤ 255) (k : ∀ y ∈ m, 0 ≤ y ∧ y ≤ 255) : ∀ y ∈ l ++ m, 0 ≤ y ∧ y ≤ 255 := fun y hy => (List.mem_append.1 hy).elim (h y) (k y)
theorem okL_take {L : List I4} (h : okL L = true) (j : Nat) : okL (L.take j) = true := List.all_eq_true.2 fun x hx => List.all_eq_true.1 h x (List.mem_of_mem_take hx)
theorem okL_get {L : List I4} {j : Nat} {x : I4} (hx : L[j]? = some x) (h : okx x = false) : okL L = false := by
  cases hk : okL L with
  | false => rfl
  | true => rw [List.all_eq_true.1 hk x (List.mem_of_getElem? hx)] at h; cases h

theorem own_slice {w : World} {base : Nat} {v : Value} {n : Nat} {M : List Int} (h : w.ownsRow base 5 1 v n (byV M)) (hpos : 0 < n) :
    ∃ g c, v = .slice (some ⟨g, 0, none⟩) n c ∧ base ≤ g ∧ g < w.heap.size ∧ n ≤ c ∧ c ≤ 9223372036854775807 ∧ M.length = n ∧ ∀ (j : Nat) (u : Value), (byV M)[j]? = some u → w.cell? ((⟨g, 0, none⟩ : Addr).add j) = some u := by
  have hl := h.1
  rw [byV_length, Nat.mul_one] at hl
  have hcs := fun g hg => h.cells (g := g) hg
  rcases h.2 with ⟨rfl, hn⟩ | ⟨g, cap, cur, rfl, hbg, hh, h1, h2, h3, h4⟩
  · exfalso
    have h0 : n = 0 := by first | exact hn | (cases M with | nil => simp at hl; omega | cons a t => simp [byV] at hn)
    omega
  · exact ⟨g, cap, rfl, hbg, (Array.getElem?_eq_some_iff.1 hh).1, h1, by unfold maxLen at h2; omega, hl, fun j u hu => hcs g rfl j u hu⟩
theorem byV_one (M : List Int) : ∀ u ∈ byV M, u.oneCell' = true := fun u hu => by simp [byV] at hu; obtain ⟨a, _, h⟩ := hu; subst h; rfl

/-- what Encode answers -/
def PEnc (L : List I4) (w w' : World) (e : Ending) : Prop :=
  w.grownBy w' none ∧ ((512 < L.length ∧ e = .returned (.tuple #[.slice none 0 0, .int .i64 3])) ∨ (L.length ≤ 512 ∧ okL L = false ∧ e = .returned (.tuple #[.slice none 0 0, .int .i64 110]))
    ∨ (L.length ≤ 512 ∧ okL L = true ∧ ∃ v, e = .returned (.tuple #[v, .int .i64 0]) ∧ w'.ownsRow w.heap.size 5 1 v (full L).length (byV (full L))))
theorem penc_many {L : List I4} {w w' : World} (g : w.grownBy w' none) (h : 512 < L.length) : PEnc L w w' (.returned (.tuple #[.slice none 0 0, .int .i64 3])) := ⟨g, .inl ⟨h, rfl⟩⟩
theorem penc_bad {L : List I4} {w w' : World} (g : w.grownBy w' none) (h : L.length ≤ 512) (h2 : okL L = false) : PEnc L w w' (.returned (.tuple #[.slice none 0 0, .int .i64 110])) := ⟨g, .inr (.inl ⟨h, h2, rfl⟩)⟩
theorem penc_ok {L : List I4} {w w' : World} {v : Value} (g : w.grownBy w' none) (h : L.length ≤ 512) (h2 : okL L = true) (ho : w'.ownsRow w.heap.size 5 1 v (full L).length (byV (full L))) : PEnc L w w' (.returned (.tuple #[v, .int .i64 0])) := ⟨g, .inr (.inr ⟨h, h2, _, rfl, ho⟩)⟩

set_option maxHeartbeats 1600000 in
theorem pencode_many (ao : Option Addr) (n c : Nat) (L : List I4) (w : World) (hn : L.length = n) (h : 512 < n) :
    Calls Try.prog 9 #[.slice ao n c] w fun e w' => PEnc L w w' e := by
  have h' : (512 : Int) < n := by omega
  have HN := Lib.hid hn
  clear hn
  go_enter Try.func9, Try.ntmps9
  go_wp2_with fail
  go_ret2
  exact penc_many (g_refl _ _) (by rw [HN.out]; exact h)

set_option maxRecDepth 100000 in
set_option maxHeartbeats 3200000 in
theorem pencode_few (ao : Option Addr) (n c : Nat) (L : List I4) (w : World) (hL : IRow w ao L) (hn : L.length = n) (h : n ≤ 512) :
    Calls Try.prog 9 #[.slice ao n c] w fun e w' => PEnc L w w' e := by
  obtain ⟨i0, hi, hz0, hz1, hz2⟩ := info_parts info5
  have h' : (n : Int) ≤ 512 := by omega
  have h'' : ¬ (512 : Int) < n := by omega
  have HN := Lib.hid hn
  have HL := Lib.hid hL
  clear hn hL
  have hcv := Lib.run_convert_bytes_const (P := Try.prog) w 23 5 #[.int .u8 71, .int .u8 78, .int .u8 84, .int .u8 1] 4 4 Try.underlying23 Try.underlying5
  have HOLD : Hid (∀ (j : Nat) (u : Value), ([.int .u8 71, .int .u8 78, .int .u8 84, .int .u8 1] : List Value)[j]? = some u → ((w.alloc (.cells #[.int .u8 71, .int .u8 78, .int .u8 84, .int .u8 1] 5 (4, 5))).alloc (.cells #[.int .u8 ((n : Int) / 256), .int .u8 ((n : Int) % 256)] 5)).cell? ⟨w.heap.size, 0 + j, none⟩ = some u) := Lib.hid fun j u hu => by
    refine (g_alloc (g_refl (w.alloc (.cells #[.int .u8 71, .int .u8 78, .int .u8 84, .int .u8 1] 5 (4, 5))) none) _).cell ?_ (by simp)
    rw [Nat.zero_add, World.cell?_alloc_mark]
    simpa using hu
  have HNEW : Hid (∀ (j : Nat) (u : Value), ([.int .u8 ((n : Int) / 256), .int .u8 ((n : Int) % 256)] : List Value)[j]? = some u → ((w.alloc (.cells #[.int .u8 71, .int .u8 78, .int .u8 84, .int .u8 1] 5 (4, 5))).alloc (.cells #[.int .u8 ((n : Int) / 256), .int .u8 ((n : Int) % 256)] 5)).cell? ((⟨w.heap.size + 1, 0, none⟩ : Addr).add j) = some u) := Lib.hid (by
    have h := new_cells (w.alloc (.cells #[.int .u8 71, .int .u8 78, .int .u8 84, .int .u8 1] 5 (4, 5))) [.int .u8 ((n : Int) / 256), .int .u8 ((n : Int) % 256)] 5
    simpa using h)
  have GA : Hid (w.grownBy ((w.alloc (.cells #[.int .u8 71, .int .u8 78, .int .u8 84, .int .u8 1] 5 (4, 5))).alloc (.cells #[.int .u8 ((n : Int) / 256), .int .u8 ((n : Int) % 256)] 5)) none) := Lib.hid (g_alloc (g_alloc (g_refl w none) _) _)
  have HON : Hid (∀ u ∈ ([.int .u8 ((n : Int) / 256), .int .u8 ((n : Int) % 256)] : List Value), u.oneCell' = true) := Lib.hid (by intro u hu; simp at hu; rcases hu with rfl | rfl <;> rfl)
  have hgs := GA.out.size
  go_enter Try.func9, Try.ntmps9
  go_wp2_with (at_builtin; refine wpList_append_arg _ rfl _ _ 23 rfl 5 i0 (.int .u8 0) 1 1 Try.underlying23 hi hz0 hz1 hz2 rfl (by decide) w.heap.size 0 4 4 [.int .u8 71, .int .u8 78, .int .u8 84, .int .u8 1] rfl rfl HOLD.out ⟨w.heap.size + 1, 0, none⟩ 2 2 [.int .u8 ((n : Int) / 256), .int .u8 ((n : Int) % 256)] rfl rfl HNEW.out HON.out (fun h => absurd h (by decide)) (by unfold maxLen; omega) (by omega) (fun h => absurd h (by decide)) ?_; intro _ v1 w1 how1 hg1)
  have HW1 : Hid (w1.ownsRow w.heap.size 5 1 v1 6 (byV (hdB n))) := Lib.hid (own_down how1 (by simpa using hgs))
  have G1 := Lib.hid (g_trans GA.out hg1)
  clear how1 hg1 hcv HOLD HNEW GA hgs
  go_wp2_with fail
  go_loopw [4, 25] (fun b i wr => ∃ j : Nat, j ≤ n ∧ i = .int .i64 j ∧ okL (L.take j) = true ∧ wr.ownsRow w.heap.size 5 1 b (hdB n ++ flatB (L.take j)).length (byV (hdB n ++ flatB (L.take j))) ∧ w.grownBy wr none) (fun _ i _ => (n - intOf i).toNat)
  case atStart => exact ⟨0, Nat.zero_le _, rfl, rfl, by simpa [flatB, hdB] using HW1.out, G1.out⟩
  case round =>
    obtain ⟨j, hj, rfl, hok, how, hg⟩ := hrel
    by_cases hlt : j < n
    · have hji : (j : Int) < n := by omega
      obtain ⟨x, hx⟩ : ∃ x, L[j]? = some x := ⟨L[j]'(by rw [HN.out]; exact hlt), List.getElem?_eq_getElem _⟩
      obtain ⟨b, off, rfl, x0, x1, x2, x3⟩ := HL.out.keep hg j x hx
      have YB := Lib.hid (Blk.new wr #[.int .i64 x.k, .int .i64 x.a, .int .i64 x.b, .int .i64 x.c] 43)
      have GR := Lib.hid (g_trans hg (g_alloc (g_refl wr none) (.cells #[.int .i64 x.k, .int .i64 x.a, .int .i64 x.b, .int .i64 x.c] 43)))
      have HOW := Lib.hid (own_keepn how (g_alloc (g_refl wr none) (.cells #[.int .i64 x.k, .int .i64 x.a, .int .i64 x.b, .int .i64 x.c] 43)))
      have HX := Lib.hid hx
      have HOK := Lib.hid hok
      cases ho : okx x
      · have HNO := Lib.hid (enc_not ho)
        have HBAD := Lib.hid (okL_get hx ho)
        clear hx hok ho how hg
        go_wp2_with fail
        refine (HNO.out _).mono ?_
        rintro e w2 ⟨rfl, g2⟩
        go_wp2_with fail
        go_ret2
        exact penc_bad (g_trans GR.out g2) (by rw [HN.out]; exact h) HBAD.out
      · have HYES := Lib.hid (enc_yes ho)
        have e1 : hdB n ++ flatB (L.take (j + 1)) = (hdB n ++ flatB (L.take j)) ++ encx x := by rw [List.take_add_one, hx, List.append_assoc]; congr 1; exact flatB_snoc _ _
        have HE1 := Lib.hid e1
        have HOK1 : Hid (okL (L.take (j + 1)) = true) := Lib.hid (by rw [List.take_add_one, hx]; exact (okL_snoc _ _).trans (by rw [hok, ho]; rfl))
        have hfl := flatB_len (L.take j)
        have htl : (L.take j).length ≤ j := List.length_take_le _ _
        have hhl : (hdB n ++ flatB (L.take j)).length = 6 + (flatB (L.take j)).length := by simp [hdB]; omega
        have hel := encx_len x
        have hlen : (hdB n ++ flatB (L.take j)).length + (encx x).length ≤ 20000 := by omega
        have hone := byV_one (encx x)
        have hposx : 0 < (encx x).length := (List.getElem?_eq_some_iff.1 (show (encx x)[0]? = some x.k from rfl)).1
        have HONE := Lib.hid hone
        clear hfl htl hhl hel e1 hx hok ho how hg hone
        generalize hdB n ++ flatB (L.take j) = bs at *
        go_wp2_with fail
        refine (HYES.out _).mono ?_
        rintro e w2 ⟨v, rfl, how2, g2⟩
        obtain ⟨g, cc, rfl, hgb, hgl, hcc1, hcc2, hll, hcell⟩ := own_slice how2 hposx
        have HO3 := Lib.hid (own_keepn HOW.out g2)
        have G3 := Lib.hid (g_trans GR.out g2)
        have HCELL := Lib.hid hcell
        have hsz3 := G3.out.size
        clear how2 g2 hcell x0 x1 x2 x3
        go_wp2_with (at_builtin; refine wpList_append_own _ rfl _ _ 23 rfl w.heap.size 5 i0 (.int .u8 0) 1 1 Try.underlying23 hi hz0 hz1 hz2 rfl (by decide) _ _ _ rfl HO3.out ⟨g, 0, none⟩ (encx x).length cc (byV (encx x)) rfl (by rw [byV_length, Nat.mul_one]) HCELL.out HONE.out (by unfold maxLen; omega) (by omega) hsz3 ?_; intro v4 w4 hown hgrow _)
        have HO4 := Lib.hid hown
        have G4 := Lib.hid (g_own2 G3.out (Nat.le_refl _) HO3.out hgrow)
        clear hown hgrow hsz3
        go_wp2_with fail
        go_roundw
        case rel => exact ⟨j + 1, by omega, by go_num, HOK1.out, by rw [HE1.out, List.length_append, byV_append]; exact HO4.out, G4.out⟩
        case measure => simp [intOf]; omega
    · obtain rfl : j = n := by omega
      rw [List.take_of_length_le (by rw [HN.out]; exact Nat.le_refl _)] at hok how
      have hbb : hdB j ++ flatB L = bodyB L := by unfold bodyB; rw [HN.out]
      rw [hbb] at how
      have hby : ∀ y ∈ bodyB L, 0 ≤ y ∧ y ≤ 255 := by rw [← hbb]; exact bytes_app (hdB_bytes h) (flatB_bytes hok)
      have hfl := flatB_len L
      have hll : (bodyB L).length = 6 + (flatB L).length := by rw [← hbb]; simp [hdB]; omega
      have hlen : (bodyB L).length ≤ 20000 := by have := HN.out; omega
      have hposb : 0 < (bodyB L).length := by omega
      obtain ⟨g, cc, rfl, hgb, hgl, hcc1, hcc2, hll2, hcell⟩ := own_slice how hposb
      obtain ⟨ao2, c2, hv2, hbr, _⟩ := brow_own how hby
      have HBR : Hid (BRow wr (some ⟨g, 0, none⟩) (bodyB L)) := Lib.hid (by injection hv2 with q1 q2 q3; rw [q1]; exact hbr)
      have HOK := Lib.hid hok
      have HOW := Lib.hid how
      have GR := Lib.hid hg
      have HFULL : Hid (bodyB L ++ [sumB (bodyB L)] = full L) := Lib.hid rfl
      clear hbb hok how hg hfl hll hby hcell hv2 hbr
      generalize hblen : (bodyB L).length = bl at *
      have HS := Lib.hid (sum_any (some ⟨g, 0, none⟩) bl cc (bodyB L) wr HBR.out hblen (by omega))
      have HBL := Lib.hid hblen
      clear hblen
      generalize sumB (bodyB L) = sm at *
      go_wp2_with fail
      refine HS.out.mono ?_
      rintro e w5 ⟨rfl, g5⟩
      have g6 := g_alloc (g_refl w5 none) (.cells #[.int .u8 sm] 5)
      have HO6 := Lib.hid (own_keepn (own_keepn HOW.out g5) g6)
      have G6 := Lib.hid (g_trans (g_trans GR.out g5) g6)
      have HN6 := Lib.hid (new_cells w5 [.int .u8 sm] 5)
      have HON6 : Hid (∀ u ∈ ([.int .u8 sm] : List Value), u.oneCell' = true) := Lib.hid (by intro u hu; simp at hu; subst hu; rfl)
      have hsz6 := G6.out.size
      clear g5 g6
      go_wp2_with (at_builtin; refine wpList_append_own _ rfl _ _ 23 rfl w.heap.size 5 i0 (.int .u8 0) 1 1 Try.underlying23 hi hz0 hz1 hz2 rfl (by decide) _ _ _ rfl HO6.out ⟨w5.heap.size, 0, none⟩ 1 1 [.int .u8 sm] rfl rfl HN6.out HON6.out (by unfold maxLen; omega) (by omega) hsz6 ?_; intro v7 w7 hown hgrow _)
      have HO7 := Lib.hid hown
      have G7 := Lib.hid (g_own2 G6.out (Nat.le_refl _) HO6.out hgrow)
      clear hown hgrow hsz6
      go_wp2_with fail
      go_ret2
      exact penc_ok G7.out (by rw [HN.out]; exact h) HOK.out (by rw [← HFULL.out, List.length_append, byV_append, HBL.out]; exact HO7.out)

theorem pencode_any (ao : Option Addr) (n c : Nat) (L : List I4) (w : World) (hL : IRow w ao L) (hn : L.length = n) :
    Calls Try.prog 9 #[.slice ao n c] w fun e w' => PEnc L w w' e := by
  by_cases h : n ≤ 512
  · exact pencode_few ao n c L w hL hn h
  · exact pencode_many ao n c L w hn (by omega)
end Go.Proofs.Ytmckaimgeflncaa
