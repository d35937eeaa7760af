/- Encode: an instruction's bytes. -/
import Derived.Test.YtmckaimgeflncaaE
import Derived.Deep.AppendLies
namespace Go.Proofs.Ytmckaimgeflncaa
open Go.RowKit
set_option linter.unusedVariables false


/-- how many bytes a sort takes -/
def wdN (s : Int) : Nat := if s = 0 then 0 else if s = 3 then 2 else if s = 6 then 3 else if s = 2 then 8 else 1
theorem wdN_le (s : Int) : wdN s ≤ 8 := by unfold wdN; split <;> first | omega | (split <;> first | omega | (split <;> first | omega | (split <;> omega)))
/-- a number's last m bytes, the first ahead -/
def be : Nat → Int → List Int
  | 0, _ => []
  | m + 1, n => (n % 18446744073709551616 / 256 ^ m % 256) :: be m n
theorem be_length (m : Nat) (n : Int) : (be m n).length = m := by
  induction m with
  | zero => rfl
  | succ m ih => simp [be, ih]
def byV (xs : List Int) : List Value := xs.map fun x => .int .u8 x
theorem byV_append (xs ys : List Int) : byV (xs ++ ys) = byV xs ++ byV ys := by simp [byV]
theorem byV_length (xs : List Int) : (byV xs).length = xs.length := by simp [byV]
theorem info5 : (Try.prog.info? 5).map (fun i => (i.zero, i.size, i.bytes)) = some (some (.int .u8 0), 1, 1) := by kernel_rfl

set_option maxHeartbeats 800000 in
theorem wide_any (s : Int) (hs : 0 ≤ s ∧ s ≤ 6) (w : World) : Calls Try.prog 32 #[.int .i64 s] w fun e w' => e = .returned (.int .i64 (wdN s)) ∧ w.grownBy w' none := by
  have hcs : s = 0 ∨ s = 1 ∨ s = 2 ∨ s = 3 ∨ s = 4 ∨ s = 5 ∨ s = 6 := by omega
  clear hs
  rcases hcs with rfl | rfl | rfl | rfl | rfl | rfl | rfl
  all_goals
    go_enter Try.func32, Try.ntmps32
    go_wp2_with fail
    go_ret
    exact ⟨rfl, g_refl _ _⟩

/-- what is there of the bytes when k numbers are done -/
def encK (op : Int) (s0 s1 s2 A B C : Int) : Nat → List Int
  | 0 => [op]
  | 1 => [op] ++ be (wdN s0) A
  | 2 => [op] ++ be (wdN s0) A ++ be (wdN s1) B
  | _ => [op] ++ be (wdN s0) A ++ be (wdN s1) B ++ be (wdN s2) C
def pick3 (a b c : Int) : Nat → Int
  | 0 => a
  | 1 => b
  | _ => c
theorem encK_succ (op s0 s1 s2 A B C : Int) {k : Nat} (hk : k < 3) : encK op s0 s1 s2 A B C (k + 1) = encK op s0 s1 s2 A B C k ++ be (wdN (pick3 s0 s1 s2 k)) (pick3 A B C k) := by
  match k, hk with
  | 0, _ => rfl
  | 1, _ => rfl
  | 2, _ => rfl
theorem encK_len (op s0 s1 s2 A B C : Int) (k : Nat) : (encK op s0 s1 s2 A B C k).length ≤ 25 := by
  have h0 := wdN_le s0
  have h1 := wdN_le s1
  have h2 := wdN_le s2
  unfold encK
  split <;> simp [be_length] <;> omega
theorem ix52 (A B C : Int) {k : Nat} (hk : k < 3) (w : World) : (Instr.index 64 (.agg #[.int .i64 A, .int .i64 B, .int .i64 C]) (.int .i64 k)).run Try.prog w = .ok (.int .i64 (pick3 A B C k)) w := by
  rcases (by omega : k = 0 ∨ k = 1 ∨ k = 2) with rfl | rfl | rfl <;> kernel_rfl
/-- what was turned is nothing, or a row from base on -/
theorem g_own2 {a w w' : World} {base : Nat} {e : TypeId} {size n : Nat} {v : Value} {xs : List Value} {row : Option Nat} (h : a.grownBy w row) (hb : a.heap.size ≤ base) (ho : w.ownsRow base e size v n xs) (k : w.grownBy w' v.ownBlock) : a.grownBy w' row := by
  cases hv : v.ownBlock with
  | none => rw [hv] at k; exact g_then h k
  | some g => rw [hv] at k; exact g_in h k (by have := (ho.lt g hv).1; omega)
theorem own_down {w : World} {b b' : Nat} {e : TypeId} {size n : Nat} {v : Value} {xs : List Value} (h : w.ownsRow b e size v n xs) (hb : b' ≤ b) : w.ownsRow b' e size v n xs :=
  ⟨h.1, h.2.imp id (fun ⟨g, cap, cur, e, hg, r⟩ => ⟨g, cap, cur, e, Nat.le_trans hb hg, r⟩)⟩
theorem pow28 (m : Nat) : (2 : Int) ^ (8 * m) = 256 ^ m := by
  induction m with
  | zero => rfl
  | succ m ih => rw [Nat.mul_succ, Int.pow_add, ih, Int.pow_succ]; rfl
theorem byte_at (n : Int) (m : Nat) : be (m + 1) n = (IntKind.u64.wrap n / 2 ^ (8 * m) % 256) :: be m n := by
  rw [pow28, IntKind.wrap_u64]; rfl

set_option maxRecDepth 100000 in
set_option maxHeartbeats 3200000 in
theorem encode_ok (k : Nat) (h1 : 1 ≤ k) (h2 : k ≤ 20) (A B C : Int) (w : World) (hok : okI k A B C = true) :
    Calls Try.prog 20 #[.agg #[.int .i64 k, .int .i64 A, .int .i64 B, .int .i64 C]] w fun e w' => ∃ v, e = .returned (.tuple #[v, .int .i64 0]) ∧ w'.ownsRow w.heap.size 5 1 v (encK k (sA k) (sB k) (sC k) A B C 3).length (byV (encK k (sA k) (sB k) (sC k) A B C 3)) ∧ w.grownBy w' none := by
  obtain ⟨i0, hi, hz0, hz1, hz2⟩ := info_parts info5
  have HC := Lib.hid (check_ok k h1 h2 A B C)
  rw [hok] at HC
  have HF := Lib.hid (of_ok k h1 h2)
  obtain ⟨s0l, s0h, s1l, s1h, s2l, s2h⟩ := sorts_lt k
  generalize nmB k = nm at *
  generalize sA k = s0 at *
  generalize sB k = s1 at *
  generalize sC k = s2 at *
  have hps : ∀ j, 0 ≤ pick3 s0 s1 s2 j ∧ pick3 s0 s1 s2 j ≤ 6 := fun j => by
    unfold pick3
    split <;> omega
  have HPS := Lib.hid hps
  have hk1 : (1 : Int) ≤ k := by omega
  have hk2 : (k : Int) ≤ 20 := by omega
  have hkb : IntKind.u8.wrap (k : Int) = k := by rw [IntKind.wrap_u8]; omega
  have hb := Blk.new w #[.int .i64 k, .int .i64 A, .int .i64 B, .int .i64 C] 43
  have g0 := g_alloc (g_refl w none) (.cells #[.int .i64 k, .int .i64 A, .int .i64 B, .int .i64 C] 43)
  have HB := Lib.hid hb
  clear hb hok hps s0l s0h s1l s1h s2l s2h h1 h2
  go_enter Try.func20, Try.ntmps20
  go_wp2_with fail
  refine (HC.out _).mono ?_
  rintro e w1 ⟨rfl, hg⟩
  have t0 := (HB.out.keepn hg).cell 0 (.int .i64 k) rfl
  have t1 := (HB.out.keepn hg).cell 1 (.int .i64 A) rfl
  have t2 := (HB.out.keepn hg).cell 2 (.int .i64 B) rfl
  have t3 := (HB.out.keepn hg).cell 3 (.int .i64 C) rfl
  go_wp2_with fail
  refine (HF.out _).mono ?_
  rintro e w2 ⟨rfl, hg2⟩
  clear t0 t1 t2 t3
  have g3 := g_alloc (g_alloc (g_refl w2 none) (.cells #[.string nm, .int .i64 s0, .int .i64 s1, .int .i64 s2] 61)) (.cells #[.int .u8 k] 5)
  have R := Lib.hid (((HB.out.keepn hg).keepn hg2).keepn g3)
  have ob := (Blk.new w2 #[.string nm, .int .i64 s0, .int .i64 s1, .int .i64 s2] 61).keepn (g_alloc (g_refl _ none) (.cells #[.int .u8 k] 5))
  have OB := Lib.hid ob
  have gA := g_trans (g_trans (g_trans g0 hg) hg2) g3
  have sA1 := (g_trans (g_trans g0 hg) hg2).size
  have t0 := R.out.cell 0 (.int .i64 k) rfl
  have t1 := R.out.cell 1 (.int .i64 A) rfl
  have t2 := R.out.cell 2 (.int .i64 B) rfl
  have t3 := R.out.cell 3 (.int .i64 C) rfl
  have t0' := (((HB.out.keepn hg).keepn hg2).keepn (g_alloc (g_refl w2 none) (.cells #[.string nm, .int .i64 s0, .int .i64 s1, .int .i64 s2] 61))).cell 0 (.int .i64 k) rfl
  have how : ((w2.alloc (.cells #[.string nm, .int .i64 s0, .int .i64 s1, .int .i64 s2] 61)).alloc (.cells #[.int .u8 k] 5)).ownsRow (w2.heap.size + 1) 5 1 (.slice (some ⟨w2.heap.size + 1, 0, none⟩) 1 1) 1 (byV (encK k s0 s1 s2 A B C 0)) := by
    have := World.ownsRow_lit (w2.alloc (.cells #[.string nm, .int .i64 s0, .int .i64 s1, .int .i64 s2] 61)) (base := w2.heap.size + 1) (e := 5) (size := 1) #[.int .u8 k] 1 (by simp) (by unfold maxLen; omega) rfl
    have e0 : byV (encK k s0 s1 s2 A B C 0) = [.int .u8 k] := rfl
    rw [e0]
    simpa using this
  have HO := Lib.hid how
  clear ob how g3
  have gF : (w2.alloc (.cells #[.string nm, .int .i64 s0, .int .i64 s1, .int .i64 s2] 61)).grownBy ((w2.alloc (.cells #[.string nm, .int .i64 s0, .int .i64 s1, .int .i64 s2] 61)).alloc (.cells #[.int .u8 k] 5)) none := g_alloc (g_refl _ _) _
  have gP : w.grownBy (w2.alloc (.cells #[.string nm, .int .i64 s0, .int .i64 s1, .int .i64 s2] 61)) none := g_trans (g_trans (g_trans g0 hg) hg2) (g_alloc (g_refl _ _) _)
  have ob0 := Blk.new w2 #[.string nm, .int .i64 s0, .int .i64 s1, .int .i64 s2] 61
  have szF : (w2.alloc (.cells #[.string nm, .int .i64 s0, .int .i64 s1, .int .i64 s2] 61)).heap.size = w2.heap.size + 1 := by simp
  go_wp2_with fail
  generalize (w2.alloc (.cells #[.string nm, .int .i64 s0, .int .i64 s1, .int .i64 s2] 61)) = W3 at *
  have GF := Lib.hid gF
  have GP := Lib.hid gP
  have OB0 := Lib.hid ob0
  have hocl : ∀ j, j < 3 → W3.cell? ⟨w2.heap.size, 1 + j, none⟩ = some (.int .i64 (pick3 s0 s1 s2 j)) := fun j hj => by
    rcases (by omega : j = 0 ∨ j = 1 ∨ j = 2) with rfl | rfl | rfl
    · exact OB0.out.cell 1 _ rfl
    · exact OB0.out.cell 2 _ rfl
    · exact OB0.out.cell 3 _ rfl
  have HOC := Lib.hid hocl
  clear t0 t1 t2 t3 t0' R OB gA gF gP ob0 HB HF HC g0 hocl
  go_loopw [7, 33] (fun b i wr => ∃ (j : Nat), j ≤ 3 ∧ i = .int .i64 j ∧ wr.ownsRow (w2.heap.size + 1) 5 1 b (encK k s0 s1 s2 A B C j).length (byV (encK k s0 s1 s2 A B C j)) ∧ W3.grownBy wr none) (fun _ i _ => (10 - intOf i).toNat)
  case atStart => exact ⟨0, by omega, rfl, HO.out, GF.out⟩
  case round =>
    obtain ⟨j, hj, rfl, how, hgr⟩ := hrel
    by_cases hlt : j < 3
    · have hix := ix52 A B C hlt
      have hc := hgr.cell (HOC.out j hlt) (by simp)
      have hw := wide_any (pick3 s0 s1 s2 j) (HPS.out j)
      have hse := encK_succ k s0 s1 s2 A B C hlt
      have hlp := encK_len k s0 s1 s2 A B C j
      have hjb : (j : Int) < 3 := by omega
      generalize pick3 s0 s1 s2 j = sj at *
      generalize pick3 A B C j = nj at *
      generalize encK k s0 s1 s2 A B C j = pre at *
      have hwl := wdN_le sj
      generalize wdN sj = wd at *
      have HW := Lib.hid hw
      have HSE := Lib.hid hse
      have HLP := Lib.hid hlp
      have HOW := Lib.hid how
      have HGR := Lib.hid hgr
      clear hw hse how hgr hlp
      go_wp2_with fail
      refine (HW.out _).mono ?_
      rintro e w6 ⟨rfl, hg6⟩
      have HOW6 := Lib.hid (own_keepn HOW.out hg6)
      have HGR6 := Lib.hid (g_trans HGR.out hg6)
      clear hg6
      go_wp2_with fail
      obtain ⟨wo, hwo⟩ : ∃ wo : World, wo = w6 := ⟨_, rfl⟩
      rw [← hwo] at HOW6 HGR6 ⊢
      clear hwo
      go_loopw [7, 10] (fun b x wr => ∃ (m : Nat) (y : Int) (xs : List Int), m ≤ wd ∧ y = (m : Int) - 1 ∧ x = .int .i64 y ∧ wr.ownsRow (w2.heap.size + 1) 5 1 b xs.length (byV xs) ∧ xs ++ be m nj = pre ++ be wd nj ∧ W3.grownBy wr none) (fun _ x _ => (intOf x + 1).toNat)
      case atStart => exact ⟨wd, _, pre, Nat.le_refl _, rfl, by go_num, HOW6.out, rfl, HGR6.out⟩
      case round =>
        obtain ⟨m, y, xs, hm, hy, rfl, how, hxs, hgr⟩ := hrel
        clear HOW6 HGR6 HOW HGR
        rcases m with _ | m
        · obtain rfl : y = -1 := by omega
          clear hy
          have hfin : xs = pre ++ be wd nj := by simpa [be] using hxs
          have HFI := Lib.hid hfin
          have HOW := Lib.hid how
          have HGR := Lib.hid hgr
          clear hfin hxs how hgr
          go_wp2_with fail
          go_roundw
          case rel => exact ⟨j + 1, by omega, by go_num, by rw [HSE.out, ← HFI.out]; exact HOW.out, HGR.out⟩
          case measure => simp [intOf]; omega
        · obtain rfl : y = (m : Int) := by omega
          have HXS := Lib.hid hxs
          have HOW := Lib.hid how
          have HGR := Lib.hid hgr
          clear hxs how hgr hy
          obtain ⟨bx, hbx⟩ : ∃ bx, IntKind.u64.wrap nj / 2 ^ (8 * m) % 256 = bx := ⟨_, rfl⟩
          have hxs2 := HXS.out
          rw [byte_at, hbx] at hxs2
          have HX2 := Lib.hid hxs2
          have hlen : xs.length ≤ 100 := by
            have := congrArg List.length hxs2
            simp only [List.length_append, List.length_cons, be_length] at this
            have := HLP.out
            omega
          have HA := Lib.hid (HOW.out.alloc (.cells #[.int .u8 bx] 5))
          have hsz := HGR.out.size
          clear hxs2
          go_wp2_with (at_builtin; refine wpList_append_own _ rfl _ _ 23 rfl (w2.heap.size + 1) 5 i0 (.int .u8 0) 1 1 Try.underlying23 hi hz0 hz1 hz2 rfl (by decide) _ _ _ rfl HA.out ⟨wr.heap.size, 0, none⟩ 1 1 [.int .u8 bx] rfl rfl ?c1 ?c2 ?c3 ?c4 ?c5 ?_)
          case c1 => exact new_cells _ _ _
          case c2 => simp [Value.oneCell']
          case c3 => unfold maxLen; omega
          case c4 => omega
          case c5 => simp; omega
          intro v' w7 how7 hg7 _
          have HOW7 : Hid (w7.ownsRow (w2.heap.size + 1) 5 1 v' (xs ++ [bx]).length (byV (xs ++ [bx]))) := Lib.hid (by rw [byV_append, List.length_append]; exact how7)
          have HGR7 := Lib.hid (g_own2 (g_trans HGR.out (g_alloc (g_refl _ _) _)) (by omega) HA.out hg7)
          clear how7 hg7 HA HOW HGR
          go_wp2_with fail
          go_roundw
          case rel => exact ⟨m, _, xs ++ [bx], by omega, rfl, rfl, HOW7.out, by rw [List.append_assoc]; exact HX2.out, HGR7.out⟩
          case measure => simp [intOf]
    · obtain rfl : j = 3 := by omega
      have HOW := Lib.hid how
      have HGR := Lib.hid hgr
      clear how hgr
      go_wp2_with fail
      go_ret2
      exact ⟨_, rfl, own_down HOW.out (by omega), g_trans GP.out HGR.out⟩
end Go.Proofs.Ytmckaimgeflncaa

