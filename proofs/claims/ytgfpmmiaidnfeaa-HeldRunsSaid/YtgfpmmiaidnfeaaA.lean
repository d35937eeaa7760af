/- The taken records: what they are in memory; the methods that only tell. -/
import Derived.Test.YtgfpmmiaidnfeaaBase
namespace Go.Proofs.Ytgfpmmiaidnfeaa
open Go.RowKit
set_option linter.unusedVariables false

/-- the cells of a row of entries -/
def scl (L : List (Int × Int)) : List Value := L.flatMap fun p => [.int .i64 p.1, .int .i64 p.2]
theorem scl_nil : scl [] = [] := rfl
theorem scl_cons (p : Int × Int) (L : List (Int × Int)) : scl (p :: L) = .int .i64 p.1 :: .int .i64 p.2 :: scl L := rfl
theorem scl_append (L M : List (Int × Int)) : scl (L ++ M) = scl L ++ scl M := by simp [scl]
theorem scl_length (L : List (Int × Int)) : (scl L).length = L.length * 2 := by
  induction L with
  | nil => rfl
  | cons p L ih => rw [scl_cons, List.length_cons, List.length_cons, List.length_cons, ih]; omega
theorem scl_at (L : List (Int × Int)) : ∀ i p, L[i]? = some p → (scl L)[i * 2]? = some (.int .i64 p.1) ∧ (scl L)[i * 2 + 1]? = some (.int .i64 p.2) := by
  induction L with
  | nil => intro i p h; simp at h
  | cons q L ih =>
    intro i p h
    cases i with
    | zero => simp at h; subst h; simp [scl_cons]
    | succ i =>
      simp at h
      have := ih i p h
      rw [scl_cons, show (i + 1) * 2 = i * 2 + 1 + 1 by omega]
      simpa using this
theorem scl_take (L : List (Int × Int)) (n : Nat) : scl (L.take n) = (scl L).take (n * 2) := by
  induction L generalizing n with
  | nil => simp [scl]
  | cons q L ih =>
    cases n with
    | zero => simp [scl]
    | succ n => rw [List.take_succ_cons, scl_cons, scl_cons, show (n + 1) * 2 = n * 2 + 1 + 1 by omega]; simp [ih]

/-- a row of entries, of any slice -/
def SRow (w : World) (ao : Option Addr) (L : List (Int × Int)) : Prop :=
  ∀ i p, L[i]? = some p → ∃ b off, ao = some ⟨b, off, none⟩ ∧ w.cell? ⟨b, off + i * 2, none⟩ = some (.int .i64 p.1) ∧ w.cell? ⟨b, off + i * 2 + 1, none⟩ = some (.int .i64 p.2)
theorem SRow.keep {w w' : World} {ao : Option Addr} {L : List (Int × Int)} (h : SRow w ao L) (g : w.grownBy w' none) : SRow w' ao L := fun i p hi => by
  obtain ⟨b, off, h1, h2, h3⟩ := h i p hi
  exact ⟨b, off, h1, g.cell h2 (by simp), g.cell h3 (by simp)⟩
theorem SRow.keeps {w w' : World} {ao : Option Addr} {L : List (Int × Int)} {g : Nat} (h : SRow w ao L) (k : w.grownBy w' (some g)) (hne : ∀ a, ao = some a → a.block ≠ g) : SRow w' ao L := fun i p hi => by
  obtain ⟨b, off, h1, h2, h3⟩ := h i p hi
  have := hne _ h1
  exact ⟨b, off, h1, k.cell h2 (by simpa using this), k.cell h3 (by simpa using this)⟩
/-- a row of one's own, of elements of type T -/
theorem srow_of_own {w : World} {base : Nat} {T : TypeId} {v : Value} {n : Nat} {L : List (Int × Int)} (h : w.ownsRow base T 2 v n (scl L)) :
    ∃ ao c, v = .slice ao n c ∧ SRow w ao L ∧ ∀ a, ao = some a → base ≤ a.block ∧ a.block < w.heap.size := by
  have hc := fun g hg => h.cells (g := g) hg
  have hl := h.1
  rw [scl_length] at hl
  rcases h.2 with ⟨rfl, rfl⟩ | ⟨g, cap, cur, rfl, hb, hh, _⟩
  · refine ⟨none, 0, rfl, fun i p hi => ?_, fun a h => by cases h⟩
    have : i < L.length := (List.getElem?_eq_some_iff.1 hi).1
    omega
  · refine ⟨_, _, rfl, fun i p hi => ⟨g, 0, rfl, ?_, ?_⟩, fun a h => by cases h; exact ⟨hb, (Array.getElem?_eq_some_iff.1 hh).1⟩⟩
    · have := hc g rfl (i * 2) _ (scl_at L i p hi).1
      simpa [Addr.add_lit] using this
    · have := hc g rfl (i * 2 + 1) _ (scl_at L i p hi).2
      simpa [Addr.add_lit, Nat.add_assoc] using this
/-- the row without its last entry -/
theorem own_pop {w : World} {base : Nat} {T : TypeId} {ao : Option Addr} {c : Nat} {L : List (Int × Int)} {p : Int × Int} (h : w.ownsRow base T 2 (.slice ao (L.length + 1) c) (L.length + 1) (scl (L ++ [p]))) :
    w.ownsRow base T 2 (.slice ao L.length c) L.length (scl L) := by
  refine ⟨by rw [scl_length], ?_⟩
  rcases h.2 with ⟨_, e⟩ | ⟨g, cap, cur, e, hb, hh, h1, h2, h3, h4⟩
  · omega
  · cases e
    refine .inr ⟨g, c, cur, rfl, hb, hh, by omega, h2, h3, ?_⟩
    have := congrArg (List.take (L.length * 2)) h4
    rw [List.take_take, scl_append, List.take_left' (by rw [scl_length])] at this
    rw [show min (L.length * 2) ((L.length + 1) * 2) = L.length * 2 by omega] at this
    exact this

/-- taken records at block b: the entries L, in a row of their own, in a block of A -/
def Hd (w : World) (b : Nat) (A : Nat → Prop) (L : List (Int × Int)) : Prop := ∃ v, Blk w b #[v, .bool true] 56 ∧ w.ownsRow 0 34 2 v L.length (scl L) ∧ ∀ g, v.ownBlock = some g → A g ∧ g ≠ b
section
variable {w w' : World} {b : Nat} {A : Nat → Prop} {L : List (Int × Int)}
theorem Hd.lt (h : Hd w b A L) : b < w.heap.size := by obtain ⟨v, h1, _⟩ := h; exact h1.lt
theorem Hd.keep (h : Hd w b A L) (g : w.grownBy w' none) : Hd w' b A L := by obtain ⟨v, h1, h2, h3⟩ := h; exact ⟨v, h1.keepn g, own_keepn h2 g, h3⟩
theorem Hd.tr {S : Nat → Prop} (h : Hd w b A L) (k : Tr S w w') (hb : ¬ S b) (hA : ∀ g, g < w.heap.size → A g → ¬ S g) : Hd w' b A L := by
  obtain ⟨v, h1, h2, h3⟩ := h
  exact ⟨v, k.blk h1 hb, k.own h2 (fun g hg => hA g (own_lt h2 hg).2 (h3 g hg).1), h3⟩
theorem Hd.mono {A' : Nat → Prop} (h : Hd w b A L) (hA : ∀ g, g < w.heap.size → A g → A' g) : Hd w b A' L := by
  obtain ⟨v, h1, h2, h3⟩ := h
  exact ⟨v, h1, h2, fun g hg => ⟨hA g (own_lt h2 hg).2 (h3 g hg).1, (h3 g hg).2⟩⟩
theorem Hd.strict (h : Hd w b A L) : Hd w b (fun g => A g ∧ g < w.heap.size) L := h.mono fun _ h1 h2 => ⟨h2, h1⟩
theorem Hd.gw {W : World} (h : Hd W b A L) (x : GW W) : Hd x.w b A L := h.keep x.g
/-- the slice, its row -/
theorem Hd.row (h : Hd w b A L) : ∃ ao c, Blk w b #[.slice ao L.length c, .bool true] 56 ∧ w.ownsRow 0 34 2 (.slice ao L.length c) L.length (scl L) ∧ SRow w ao L ∧ ∀ a, ao = some a → A a.block ∧ a.block ≠ b := by
  obtain ⟨v, h1, h2, h3⟩ := h
  obtain ⟨ao, c, rfl, hr, hb⟩ := srow_of_own h2
  refine ⟨ao, c, h1, h2, hr, fun a ha => ?_⟩
  subst ha
  exact h3 a.block rfl
end

set_option maxHeartbeats 400000 in
theorem none_any (b : Nat) (A : Nat → Prop) (L : List (Int × Int)) (w : World) (h : Hd w b A L) :
    Calls Try.prog 21 #[.pointer (some ⟨b, 0, none⟩)] w fun e w' => e = .returned (.bool false) ∧ w.grownBy w' none := by
  obtain ⟨ao, c, h1, _⟩ := h.row
  have c1 := h1.cell 1 (.bool true) rfl
  go_enter Try.func21, Try.ntmps21
  go_wp2_with fail
  go_ret
  exact ⟨rfl, g_refl _ _⟩

set_option maxHeartbeats 400000 in
theorem len_any (b : Nat) (A : Nat → Prop) (L : List (Int × Int)) (w : World) (h : Hd w b A L) :
    Calls Try.prog 10 #[.pointer (some ⟨b, 0, none⟩)] w fun e w' => e = .returned (.int .i64 L.length) ∧ w.grownBy w' none := by
  go_enter Try.func10, Try.ntmps10
  go_wp2_with fail
  refine (none_any _ _ _ _ h).mono ?_
  rintro e w1 ⟨rfl, hg⟩
  obtain ⟨ao, c, h1, _⟩ := (h.keep hg).row
  have c0 := h1.cell 0 (.slice ao L.length c) rfl
  go_wp2_with fail
  go_ret
  exact ⟨rfl, hg⟩

/-- the last entry's version of a record -/
def lastV (L : List (Int × Int)) (o : Int) : Option Int := L.foldl (fun r p => if p.1 = o then some p.2 else r) none
theorem lastV_snoc (L : List (Int × Int)) (p : Int × Int) (o : Int) : lastV (L ++ [p]) o = if p.1 = o then some p.2 else lastV L o := by simp [lastV, List.foldl_append]
theorem lastV_take {L : List (Int × Int)} {m : Nat} {p : Int × Int} (h : L[m]? = some p) (o : Int) : lastV (L.take (m + 1)) o = if p.1 = o then some p.2 else lastV (L.take m) o := by
  rw [List.take_add_one, h]
  exact lastV_snoc _ _ _
theorem len_max {L : List (Int × Int)} {w : World} {c : Nat} {ao : Option Addr} (h : w.ownsRow 0 34 2 (.slice ao L.length c) L.length (scl L)) : L.length ≤ 9223372036854775807 := by
  rcases h.2 with ⟨_, e⟩ | ⟨g, cap, cur, e, hb, hh, h1, h2, h3, h4⟩
  · omega
  · unfold maxLen at h2; omega

set_option maxHeartbeats 800000 in
theorem has_any (b : Nat) (A : Nat → Prop) (L : List (Int × Int)) (w : World) (h : Hd w b A L) (o : Int) :
    Calls Try.prog 8 #[.pointer (some ⟨b, 0, none⟩), .int .i64 o] w fun e w' => e = .returned (.tuple #[.int .i64 ((lastV L o).getD 0), .bool (lastV L o).isSome]) ∧ w.grownBy w' none := by
  go_enter Try.func8, Try.ntmps8
  go_wp2_with fail
  refine wp_scope_straight ?_
  go_wp2_with fail
  refine (none_any _ _ _ _ h).mono ?_
  rintro e w1 ⟨rfl, hg⟩
  obtain ⟨ao, c, h1, h2, h3, _⟩ := (h.keep hg).row
  have c0 := h1.cell 0 (.slice ao L.length c) rfl
  have hmax := len_max h2
  clear h1 h2 h
  have HR := Lib.hid h3
  clear h3
  obtain ⟨n, hn⟩ : ∃ n, L.length = n := ⟨_, rfl⟩
  rw [hn] at c0 hmax
  have HN := Lib.hid hn
  clear hn
  go_wp2_with fail
  refine wp_label ?_
  go_wp2_with fail
  go_loop [6, 7] (fun a i => ∃ (m : Nat) (x : Int), m ≤ n ∧ x = (m : Int) - 1 ∧ a = .int .i64 (-1) ∧ i = .int .i64 x ∧ lastV L o = lastV (L.take m) o) (fun _ i => (intOf i + 1).toNat)
  case atStart => exact ⟨n, _, by omega, rfl, rfl, by go_num, by rw [← HN.out, List.take_length]⟩
  case round =>
    obtain ⟨m, x, hm, hx, rfl, rfl, hl⟩ := hrel
    have HL := Lib.hid hl
    clear hl
    rcases m with _ | m
    · obtain rfl : x = -1 := by omega
      clear hx
      go_wp2_with fail
      go_ret2
      refine ⟨?_, hg⟩
      rw [HL.out]
      rfl
    · obtain rfl : x = (m : Int) := by omega
      clear hx
      obtain ⟨p, hp⟩ : ∃ p, L[m]? = some p := ⟨L[m]'(by rw [HN.out]; omega), List.getElem?_eq_getElem _⟩
      obtain ⟨bb, off, rfl, hc1, hc2⟩ := HR.out m p hp
      have hlt := lastV_take hp o
      obtain ⟨p1, p2⟩ := p
      simp only at hc1 hc2 hlt
      by_cases he : p1 = o
      · subst he
        rw [if_pos rfl] at hlt
        have HLT := Lib.hid hlt
        clear hlt hp
        go_wp2_with fail
        go_ret2
        refine ⟨?_, hg⟩
        rw [HL.out, HLT.out]
        rfl
      · rw [if_neg he] at hlt
        have hb : (p1 == o) = false := beq_eq_false_iff_ne.2 he
        have HLT := Lib.hid hlt
        clear hlt hp he
        go_wp2_with fail
        go_round
        case rel => exact ⟨m, _, by omega, rfl, rfl, rfl, by rw [HL.out, HLT.out]⟩
        case measure => simp [intOf]

/-- the last entry, if any -/
def topT (L : List (Int × Int)) : Value := .tuple #[.agg #[.int .i64 ((L.getLast?.map Prod.fst).getD 0), .int .i64 ((L.getLast?.map Prod.snd).getD 0)], .bool L.getLast?.isSome]

set_option maxHeartbeats 800000 in
theorem top_any (b : Nat) (A : Nat → Prop) (L : List (Int × Int)) (w : World) (h : Hd w b A L) :
    Calls Try.prog 25 #[.pointer (some ⟨b, 0, none⟩)] w fun e w' => e = .returned (topT L) ∧ w.grownBy w' none := by
  have g1 : w.grownBy (w.alloc (.cells #[.int .i64 0, .int .i64 0] 34)) none := g_alloc (g_refl _ _) _
  have hn := Blk.new w #[.int .i64 0, .int .i64 0] 34
  obtain ⟨ao, c, h1, h2, h3, _⟩ := (h.keep g1).row
  have c0 := h1.cell 0 (.slice ao L.length c) rfl
  have z0 := hn.cell 0 (.int .i64 0) rfl
  have z1 := hn.cell 1 (.int .i64 0) rfl
  have zf := hn.free 0
  have zf1 := hn.free 1
  have hmax := len_max h2
  clear h1 h2 h hn
  rcases List.eq_nil_or_concat L with rfl | ⟨M, p, rfl⟩
  · simp only [List.length_nil] at c0
    go_enter Try.func25, Try.ntmps25
    go_wp2_with fail
    have k := g_alloc (g_refl (w.alloc (.cells #[.int .i64 0, .int .i64 0] 34)) none) (.cells #[.int .i64 0, .int .i64 0] 34)
    have k0 := k.cell z0 (by simp)
    have k1 := k.cell z1 (by simp)
    refine bodyPost_ret (v := topT []) (by simp [results, Try.results25, go_sem, topT, k0, k1]) rfl ⟨rfl, g_alloc g1 _⟩
  · rw [List.concat_eq_append] at *
    obtain ⟨bb, off, rfl, hc1, hc2⟩ := h3 M.length p (by simp)
    simp only [List.length_append, List.length_cons, List.length_nil, Nat.zero_add] at c0 hmax
    obtain ⟨n, hn⟩ : ∃ n, M.length = n := ⟨_, rfl⟩
    rw [hn] at c0 hmax hc1 hc2
    have hr : topT (M ++ [p]) = .tuple #[.agg #[.int .i64 p.1, .int .i64 p.2], .bool true] := by simp [topT]
    rw [hr]
    obtain ⟨p1, p2⟩ := p
    simp only at hc1 hc2 ⊢
    clear hr hn h3
    go_enter Try.func25, Try.ntmps25
    go_wp2_with fail
    go_region
    go_wp2_with fail
    have hk := (Blk.new w #[.int .i64 p1, .int .i64 p2] 34).drew
    have k0 := hk.cell 0 (.int .i64 p1) rfl
    have k1 := hk.cell 1 (.int .i64 p2) rfl
    exact bodyPost_ret (v := .tuple #[.agg #[.int .i64 p1, .int .i64 p2], .bool true]) (by simp [results, Try.results25, go_sem, k0, k1]) rfl ⟨rfl, g_drew (g_alloc (g_refl _ _) _)⟩

/-- what top tells, by its parts -/
theorem topT_parts (L : List (Int × Int)) : ∃ x y ok, topT L = .tuple #[.agg #[.int .i64 x, .int .i64 y], .bool ok] ∧ ok = L.getLast?.isSome := ⟨_, _, _, rfl, rfl⟩
/-- a result's own cells are written -/
theorem g_two {w w2 : World} {u v : Value} {rb : Nat} (h : w.grownBy w2 none) (hb : w.heap.size ≤ rb) : w.grownBy ((w2.setCell ⟨rb, 0, none⟩ u).setCell ⟨rb, 1, none⟩ v) none :=
  g_in h (g_set (g_set (g_refl w2 (some rb)) (p := ⟨rb, 0, none⟩) (.inl rfl) u) (p := ⟨rb, 1, none⟩) (.inl rfl) v) hb

set_option maxHeartbeats 800000 in
theorem last_any (b : Nat) (A : Nat → Prop) (L : List (Int × Int)) (w : World) (h : Hd w b A L) :
    Calls Try.prog 17 #[.pointer (some ⟨b, 0, none⟩)] w fun e w' => e = .returned (topT L) ∧ w.grownBy w' none := by
  have g0 := g_alloc (g_refl w none) (.cells #[.int .i64 0, .int .i64 0] 34)
  have hn := Blk.new w #[.int .i64 0, .int .i64 0] 34
  obtain ⟨x, y, ok, hT, -⟩ := topT_parts L
  rw [hT]
  go_enter Try.func17, Try.ntmps17
  go_wp2_with fail
  refine (none_any _ _ _ _ (h.keep g0)).mono ?_
  rintro e w1 ⟨rfl, hg1⟩
  go_wp2_with fail
  refine (top_any _ _ _ _ ((h.keep g0).keep hg1)).mono ?_
  rw [hT]
  rintro e w2 ⟨rfl, hg2⟩
  have hb := (hn.keepn hg1).keepn hg2
  have z0 := hb.cell 0 (.int .i64 0) rfl
  have z1 := hb.cell 1 (.int .i64 0) rfl
  have f0 := hb.free 0
  have f1 := hb.free 1
  clear hb hn
  go_wp2_with fail
  refine bodyPost_ret (v := .tuple #[.agg #[.int .i64 x, .int .i64 y], .bool ok]) (by simp [results, Try.results17, go_sem, z0, z1]) rfl ⟨rfl, g_two (g_trans (g_trans g0 hg1) hg2) (Nat.le_refl _)⟩

set_option maxHeartbeats 800000 in
theorem clear_any (b : Nat) (A : Nat → Prop) (L : List (Int × Int)) (w : World) (h : Hd w b A L) :
    Calls Try.prog 13 #[.pointer (some ⟨b, 0, none⟩)] w fun e w' => e = .returned (.tuple #[]) ∧ Hd w' b A [] ∧ w.grownBy w' (some b) := by
  go_enter Try.func13, Try.ntmps13
  go_wp2_with fail
  refine (none_any _ _ _ _ h).mono ?_
  rintro e w1 ⟨rfl, hg⟩
  obtain ⟨ao, c, h1, h2, h3, _⟩ := (h.keep hg).row
  have c0 := h1.cell 0 (.slice ao L.length c) rfl
  have f0 := h1.free 0
  have HB := Lib.hid h1
  clear h1 h2 h3 h
  go_wp2_with fail
  go_end0
  exact ⟨rfl, ⟨.slice none 0 0, by simpa using HB.out.set 0 (.slice none 0 0), World.ownsRow_nil _ _ _ _, fun g hg => by cases hg⟩, g_set (g_none hg _) (.inl rfl) _⟩

set_option maxHeartbeats 800000 in
theorem pop_any (b : Nat) (A : Nat → Prop) (L : List (Int × Int)) (w : World) (h : Hd w b A L) :
    Calls Try.prog 23 #[.pointer (some ⟨b, 0, none⟩)] w fun e w' => e = .returned (topT L) ∧ Hd w' b A L.dropLast ∧ w.grownBy w' (some b) := by
  have g0 := g_alloc (g_refl w none) (.cells #[.int .i64 0, .int .i64 0] 34)
  have hn := Blk.new w #[.int .i64 0, .int .i64 0] 34
  obtain ⟨x, y, ok, hT, hok⟩ := topT_parts L
  rw [hT]
  go_enter Try.func23, Try.ntmps23
  go_wp2_with fail
  refine (top_any _ _ _ _ (h.keep g0)).mono ?_
  rw [hT]
  rintro e w2 ⟨rfl, hg2⟩
  have g3 := g_alloc (g_refl w2 none) (.cells #[.int .i64 x, .int .i64 y] 34)
  have h2 := ((h.keep g0).keep hg2).keep g3
  have hb := hn.keepn hg2
  have g02 := g_trans g0 hg2
  have h20 := (h.strict.keep g0).keep hg2
  have gA := g_trans (g_trans g0 hg2) g3
  have hbx := Blk.new w2 #[.int .i64 x, .int .i64 y] 34
  have x0 := hbx.cell 0 (.int .i64 x) rfl
  have x1 := hbx.cell 1 (.int .i64 y) rfl
  obtain ⟨ao, c, h3, h4, h5, h6⟩ := h20.row
  have c0 := h3.cell 0 (.slice ao L.length c) rfl
  have cf := h3.free 0
  have z0 := hb.cell 0 (.int .i64 0) rfl
  have z1 := hb.cell 1 (.int .i64 0) rfl
  have f0 := hb.free 0
  have f1 := hb.free 1
  have lb := h.lt
  have hne : ¬ b = w.heap.size := by omega
  have hne2 : ¬ w.heap.size = b := by omega
  have hw2 : w.heap.size < w2.heap.size := by have := hg2.size; simp at this; omega
  have hne3 : ¬ w2.heap.size = b := by omega
  have hne4 : ¬ w2.heap.size = w.heap.size := by omega
  have HB0 := Lib.hid hb
  clear hb hn g0 hbx h5 hg2 hT x0 x1
  cases ok
  · have hL : L = [] := by cases L with
      | nil => rfl
      | cons a l => simp [List.getLast?_cons] at hok
    subst hL
    clear hok h3 h4 h6 c0 cf g3
    go_wp2_with fail
    have gB : w2.grownBy ((w2.setCell ⟨w.heap.size, 0, none⟩ (.int .i64 x)).setCell ⟨w.heap.size, 1, none⟩ (.int .i64 y)) (some w.heap.size) := g_set (g_set (g_refl w2 (some w.heap.size)) (p := ⟨w.heap.size, 0, none⟩) (.inl rfl) _) (p := ⟨w.heap.size, 1, none⟩) (.inl rfl) _
    have hF := ((HB0.out.set 0 (.int .i64 x)).set 1 (.int .i64 y)).keepn (g_alloc (g_refl _ none) (.cells #[.int .i64 x, .int .i64 y] 34))
    have k0 := hF.cell 0 (.int .i64 x) (by simp)
    have k1 := hF.cell 1 (.int .i64 y) (by simp)
    have gF := g_alloc (g_in g02 gB (Nat.le_refl _)) (.cells #[.int .i64 x, .int .i64 y] 34)
    exact bodyPost_ret (v := .tuple #[.agg #[.int .i64 x, .int .i64 y], .bool false]) (by simp [results, Try.results23, go_sem, k0, k1]) rfl ⟨rfl, h.keep gF, g_none gF _⟩
  · obtain ⟨M, q, rfl⟩ : ∃ M q, L = M ++ [q] := by
      rcases List.eq_nil_or_concat L with rfl | ⟨M, q, rfl⟩
      · simp at hok
      · exact ⟨M, q, by rw [List.concat_eq_append]⟩
    simp only [List.length_append, List.length_cons, List.length_nil, Nat.zero_add] at c0 h3 h4
    have hmax : M.length + 1 ≤ c ∧ c ≤ 9223372036854775807 := by
      rcases h4.2 with ⟨_, e⟩ | ⟨g, cap, cur, e, hb, hh, h1, h2, h3, h4⟩
      · omega
      · cases e; unfold maxLen at h2; omega
    have h7 := own_pop h4
    clear hok h2 h4
    have H3 := Lib.hid h3
    have H6 := Lib.hid h6
    have H7 := Lib.hid h7
    clear h3 h6 h7
    obtain ⟨n, hn⟩ : ∃ n, M.length = n := ⟨_, rfl⟩
    rw [hn] at c0 hmax H3 H7
    obtain ⟨hm1, hm2⟩ := hmax
    have c3 := g3.cell c0 (by simp)
    have cf3 := (H3.out.keepn g3).free 0
    clear g3
    go_wp2_with fail
    go_region
    go_wp2_with fail
    have g3 := g_alloc (g_refl w2 none) (.cells #[.int .i64 x, .int .i64 y] 34)
    have hb3 := HB0.out.keepn g3
    generalize (w2.alloc (.cells #[.int .i64 x, .int .i64 y] 34)) = W3 at g3 hb3 gA ⊢
    have s1 := g_set (g_refl W3 (some b)) (p := ⟨b, 0, none⟩) (.inl rfl) (.slice ao n c)
    have s2 := g_two (u := .int .i64 x) (v := .int .i64 y) (rb := w.heap.size) (g_refl (W3.setCell ⟨b, 0, none⟩ (.slice ao n c)) none)
    have hF := (((hb3.keeps s1 hne2).set 0 (.int .i64 x)).set 1 (.int .i64 y))
    have k0 := hF.drew.cell 0 (.int .i64 x) (by simp)
    have k1 := hF.drew.cell 1 (.int .i64 y) (by simp)
    have s3 : (W3.setCell ⟨b, 0, none⟩ (.slice ao n c)).grownBy (((W3.setCell ⟨b, 0, none⟩ (.slice ao n c)).setCell ⟨w.heap.size, 0, none⟩ (.int .i64 x)).setCell ⟨w.heap.size, 1, none⟩ (.int .i64 y)).drew (some w.heap.size) := g_drew (g_set (g_set (g_refl _ (some w.heap.size)) (p := ⟨w.heap.size, 0, none⟩) (.inl rfl) _) (p := ⟨w.heap.size, 1, none⟩) (.inl rfl) _)
    have hB := (H3.out.keepn g3).set 0 (.slice ao n c)
    refine bodyPost_ret (v := .tuple #[.agg #[.int .i64 x, .int .i64 y], .bool true]) (by simp [results, Try.results23, go_sem, k0, k1]) rfl ⟨rfl, ?_, g_in (g_trans (g_none gA (some b)) s1) s3 (Nat.le_refl _)⟩
    rw [List.dropLast_concat]
    have ho : ∀ g, (Value.slice ao n c).ownBlock = some g → (A g ∧ g < w.heap.size) ∧ g ≠ b := fun g hg => by
      cases ao with
      | none => cases hg
      | some a => cases hg; exact H6.out a rfl
    have hown1 := World.ownsRow.kept (H7.out.kept (g_none g3 (some b)) (.inr (fun e => (ho b e).2 rfl))) s1 (.inr (fun e => (ho b e).2 rfl))
    have hown2 := World.ownsRow.kept hown1 s3 (.inr (fun e => by have := (ho _ e).1.2; omega))
    exact ⟨.slice ao n c, by simpa using hB.keeps s3 hne, by rw [hn]; exact hown2, fun g hg => ⟨(ho g hg).1.1, (ho g hg).2⟩⟩

set_option maxHeartbeats 800000 in
theorem take_any (b : Nat) (A : Nat → Prop) (L : List (Int × Int)) (w : World) (h : Hd w b A L) :
    Calls Try.prog 11 #[.pointer (some ⟨b, 0, none⟩)] w fun e w' => e = .returned (topT L) ∧ Hd w' b A L.dropLast ∧ w.grownBy w' (some b) := by
  have g0 := g_alloc (g_refl w none) (.cells #[.int .i64 0, .int .i64 0] 34)
  have hn := Blk.new w #[.int .i64 0, .int .i64 0] 34
  have hlt := h.lt
  obtain ⟨x, y, ok, hT, -⟩ := topT_parts L
  rw [hT]
  go_enter Try.func11, Try.ntmps11
  go_wp2_with fail
  refine (none_any _ _ _ _ (h.keep g0)).mono ?_
  rintro e w1 ⟨rfl, hg1⟩
  go_wp2_with fail
  refine (pop_any _ (fun g => A g ∧ g < w.heap.size) _ _ ((h.strict.keep g0).keep hg1)).mono ?_
  rw [hT]
  rintro e w2 ⟨rfl, h2, hg2⟩
  have hb := (hn.keepn hg1).keeps hg2 (by omega)
  have z0 := hb.cell 0 (.int .i64 0) rfl
  have z1 := hb.cell 1 (.int .i64 0) rfl
  have f0 := hb.free 0
  have f1 := hb.free 1
  have HB0 := Lib.hid hb
  clear hb hn
  go_wp2_with fail
  have hF := ((HB0.out.set 0 (.int .i64 x)).set 1 (.int .i64 y))
  have k0 := hF.cell 0 (.int .i64 x) (by simp)
  have k1 := hF.cell 1 (.int .i64 y) (by simp)
  have gB : w2.grownBy ((w2.setCell ⟨w.heap.size, 0, none⟩ (.int .i64 x)).setCell ⟨w.heap.size, 1, none⟩ (.int .i64 y)) (some w.heap.size) := g_set (g_set (g_refl w2 (some w.heap.size)) (p := ⟨w.heap.size, 0, none⟩) (.inl rfl) _) (p := ⟨w.heap.size, 1, none⟩) (.inl rfl) _
  refine bodyPost_ret (v := .tuple #[.agg #[.int .i64 x, .int .i64 y], .bool ok]) (by simp [results, Try.results11, go_sem, k0, k1]) rfl ⟨rfl, ?_, ?_⟩
  · have h2' := h2.tr (tr_gs (S := fun i => i = w.heap.size) gB (fun _ => rfl)) (by omega) (fun g _ hg => by have := hg.2; omega)
    exact h2'.mono (fun g _ hg => hg.1)
  · exact g_in (g_trans (g_none (g_trans g0 hg1) (some b)) hg2) gB (Nat.le_refl _)
end Go.Proofs.Ytgfpmmiaidnfeaa
