/- Which programs may be: rows of numbers, rows of one's own, the page's example. -/
import Derived.Test.YtfobfcnbbafplaaKD
namespace Go.Proofs.Ytfobfcnbbafplaa
open Go.RowKit
set_option linter.unusedVariables false
set_option linter.unusedSimpArgs false

/-- a row of numbers, of any slice -/
def NRow (w : World) (ao : Option Addr) (L : List Int) : Prop :=
  ∀ i x, L[i]? = some x → ∃ b off, ao = some ⟨b, off, none⟩ ∧ w.cell? ⟨b, off + i, none⟩ = some (.int .i64 x)
theorem NRow.keep {w w' : World} {ao : Option Addr} {L : List Int} (h : NRow w ao L) (g : w.grownBy w' none) : NRow w' ao L := fun i x hi => by
  obtain ⟨b, off, h1, h2⟩ := h i x hi
  exact ⟨b, off, h1, g.cell h2 (by simp)⟩
theorem nrow_new (w : World) (L : List Int) (T : TypeId) : NRow (w.alloc (.cells (icl L).toArray T)) (some ⟨w.heap.size, 0, none⟩) L := fun i x hi => by
  refine ⟨w.heap.size, 0, rfl, ?_⟩
  have := new_cells w (icl L) T i (.int .i64 x) (by simp [icl, hi])
  rwa [Addr.add_lit] at this
theorem nrow_own {w : World} {base n : Nat} {T : TypeId} {v : Value} {L : List Int} (h : w.ownsRow base T 1 v n (icl L)) : ∃ ao c, v = .slice ao n c ∧ NRow w ao L ∧ n ≤ c ∧ c ≤ 9223372036854775807 ∧ L.length = n := by
  have hl := h.1
  rw [icl_len] at hl
  rcases h.2 with ⟨rfl, rfl⟩ | ⟨g, cap, cur, rfl, hb, hh, h1, h2, h3, h4⟩
  · exact ⟨none, 0, rfl, fun i x hx => (by have := (List.getElem?_eq_some_iff.1 hx).1; omega), Nat.le_refl _, by decide, by omega⟩
  · refine ⟨_, cap, rfl, fun i x hx => ⟨g, 0, rfl, ?_⟩, h1, by unfold maxLen at h2; omega, by omega⟩
    have := h.cells (g := g) rfl i (.int .i64 x) (by simp [icl, hx])
    rwa [Addr.add_lit] at this

/-- the cells of a row of instructions -/
def iv (L : List I4) : List Value := L.flatMap fun x => [.int .i64 x.k, .int .i64 x.a, .int .i64 x.b, .int .i64 x.c]
theorem iv_cons (x : I4) (L : List I4) : iv (x :: L) = .int .i64 x.k :: .int .i64 x.a :: .int .i64 x.b :: .int .i64 x.c :: iv L := rfl
theorem iv_snoc (L : List I4) (x : I4) : iv (L ++ [x]) = iv L ++ [.int .i64 x.k, .int .i64 x.a, .int .i64 x.b, .int .i64 x.c] := by simp [iv]
theorem iv_len (L : List I4) : (iv L).length = L.length * 4 := by
  induction L with
  | nil => rfl
  | cons x L ih => rw [iv_cons]; simp only [List.length_cons, ih]; omega
theorem iv_at (L : List I4) : ∀ i x, L[i]? = some x → (iv L)[i * 4]? = some (.int .i64 x.k) ∧ (iv L)[i * 4 + 1]? = some (.int .i64 x.a) ∧ (iv L)[i * 4 + 2]? = some (.int .i64 x.b) ∧ (iv L)[i * 4 + 3]? = some (.int .i64 x.c) := by
  induction L with
  | nil => intro i x h; simp at h
  | cons q L ih =>
    intro i x h
    cases i with
    | zero => simp at h; subst h; simp [iv_cons]
    | succ i =>
      simp at h
      have := ih i x h
      rw [iv_cons, show (i + 1) * 4 = i * 4 + 1 + 1 + 1 + 1 by omega]
      simpa using this
theorem irow_own {w : World} {base n : Nat} {T : TypeId} {v : Value} {L : List I4} (h : w.ownsRow base T 4 v n (iv L)) : ∃ ao c, v = .slice ao n c ∧ IRow w ao L ∧ n ≤ c ∧ c ≤ 9223372036854775807 ∧ L.length = n := by
  have hl := h.1
  rw [iv_len] at hl
  rcases h.2 with ⟨rfl, rfl⟩ | ⟨g, cap, cur, rfl, hb, hh, h1, h2, h3, h4⟩
  · exact ⟨none, 0, rfl, fun i x hx => (by have := (List.getElem?_eq_some_iff.1 hx).1; omega), Nat.le_refl _, by decide, by omega⟩
  · refine ⟨_, cap, rfl, fun i x hx => ?_, h1, by unfold maxLen at h2; omega, by omega⟩
    obtain ⟨q0, q1, q2, q3⟩ := iv_at L i x hx
    refine ⟨g, 0, rfl, ?_, ?_, ?_, ?_⟩
    · have := h.cells (g := g) rfl _ _ q0; rwa [Addr.add_lit] at this
    · have := h.cells (g := g) rfl _ _ q1; rw [Addr.add_lit] at this; simpa [Nat.add_assoc] using this
    · have := h.cells (g := g) rfl _ _ q2; rw [Addr.add_lit] at this; simpa [Nat.add_assoc] using this
    · have := h.cells (g := g) rfl _ _ q3; rw [Addr.add_lit] at this; simpa [Nat.add_assoc] using this
theorem info31 : (Try.prog.info? 31).map (fun i => (i.zero, i.size, i.bytes)) = some (some (.agg #[.int .i64 0, .int .i64 0, .int .i64 0, .int .i64 0]), 4, 32) := by kernel_rfl
theorem news4 (w : World) (k A B C : Int) : ∀ (j : Nat) (u : Value), ([.int .i64 k, .int .i64 A, .int .i64 B, .int .i64 C] : List Value)[j]? = some u → (w.alloc (.cells #[.int .i64 k, .int .i64 A, .int .i64 B, .int .i64 C] 31)).cell? ((⟨w.heap.size, 0, none⟩ : Addr).add j) = some u := new_cells w [.int .i64 k, .int .i64 A, .int .i64 B, .int .i64 C] 31
theorem ones4 (k A B C : Int) : ∀ u ∈ ([.int .i64 k, .int .i64 A, .int .i64 B, .int .i64 C] : List Value), u.oneCell' = true := by intro u hu; simp at hu; rcases hu with rfl | rfl | rfl | rfl <;> rfl
theorem g_own2 {a w w' : World} {B : Nat} {e : TypeId} {size n : Nat} {v : Value} {xs : List Value} {row : Option Nat} (h : a.grownBy w row) (hB : a.heap.size ≤ B) (ho : w.ownsRow B e size v n xs) (k : w.grownBy w' v.ownBlock) : a.grownBy w' row := by
  cases hv : v.ownBlock with
  | none => rw [hv] at k; exact g_then h k
  | some g => rw [hv] at k; exact g_in h k (Nat.le_trans hB (ho.lt g hv).1)

set_option maxHeartbeats 800000 in
theorem few_any (ao : Option Addr) (n c : Nat) (w : World) (hnc : n ≤ c) (hcm : c ≤ 9223372036854775807) :
    Calls Try.prog 9 #[.slice ao n c] w fun e w' => e = .returned (.slice ao (min n 60) c) ∧ w.grownBy w' none := by
  by_cases h : 60 < n
  · have h' : (60 : Int) < n := by omega
    have h3 : ¬ (n : Int) ≤ 60 := by omega
    have h2 : (60 : Int) ≤ c := by omega
    have hm : min n 60 = 60 := by omega
    have hmi : min (n : Int) 60 = 60 := by omega
    rw [hm]
    clear hm
    go_enter Try.func9, Try.ntmps9
    go_wp2_with fail
    go_ret
    exact ⟨rfl, g_refl _ _⟩
  · have h' : (n : Int) ≤ 60 := by omega
    have hm : min n 60 = n := by omega
    have hmi : min (n : Int) 60 = n := by omega
    rw [hm]
    clear hm
    go_enter Try.func9, Try.ntmps9
    go_wp2_with fail
    go_ret
    exact ⟨rfl, g_refl _ _⟩

/-- an instruction of a kind that has nothing -/
def op1 (k : Int) : I4 := ⟨k, 0, 0, 0⟩
set_option maxRecDepth 100000 in
set_option maxHeartbeats 3200000 in
theorem ops_any (ao : Option Addr) (n c : Nat) (K : List Int) (w : World) (hK : NRow w ao K) (hn : K.length = n) (h5 : n < 1000) (hnc : n ≤ c) :
    Calls Try.prog 27 #[.slice ao n c] w fun e w' => ∃ v, e = .returned v ∧ w'.ownsRow w.heap.size 31 4 v n (iv (K.map op1)) ∧ w.grownBy w' none := by
  obtain ⟨i0, hi, hz0, hz1, hz2⟩ := info_parts info31
  have HK := Lib.hid hK
  have HN := Lib.hid hn
  clear hK hn
  go_enter Try.func27, Try.ntmps27
  go_wp2_with fail
  go_loopw [3, 4] (fun o i wr => ∃ (j : Nat) (v : Value), o = v ∧ i = .int .i64 j ∧ j ≤ n ∧ wr.ownsRow w.heap.size 31 4 v j (iv ((K.take j).map op1)) ∧ w.grownBy wr none) (fun _ i _ => (n - intOf i).toNat)
  case atStart => exact ⟨0, _, rfl, rfl, Nat.zero_le _, World.ownsRow_nil _ _ _ _, g_refl _ _⟩
  case round =>
    obtain ⟨j, v, rfl, rfl, hj, ho, hg⟩ := hrel
    by_cases hlt : j < n
    · have hji : (j : Int) < n := by omega
      obtain ⟨k, hk⟩ : ∃ k, K[j]? = some k := ⟨K[j]'(by rw [HN.out]; exact hlt), List.getElem?_eq_getElem _⟩
      obtain ⟨b, off, rfl, z0⟩ := HK.out.keep hg j k hk
      have HT : Hid (iv ((K.take (j + 1)).map op1) = iv ((K.take j).map op1) ++ [.int .i64 k, .int .i64 0, .int .i64 0, .int .i64 0]) := Lib.hid (by
        rw [List.take_add_one, hk, Option.toList_some, List.map_append, show [k].map op1 = [op1 k] from rfl, iv_snoc]; rfl)
      have ga := g_alloc (g_refl wr none) (.cells #[.int .i64 k, .int .i64 0, .int .i64 0, .int .i64 0] 31)
      have HO5 := Lib.hid (own_keepn ho ga)
      have G5 := Lib.hid (g_trans hg ga)
      have HNW := Lib.hid (news4 wr k 0 0 0)
      have HON := Lib.hid (ones4 k 0 0 0)
      have hz5 := G5.out.size
      clear hk ho hg ga
      go_wp2_with (at_builtin; refine wpList_append_own _ rfl _ _ 22 rfl w.heap.size 31 i0 (.agg #[.int .i64 0, .int .i64 0, .int .i64 0, .int .i64 0]) 4 32 Try.underlying22 hi hz0 hz1 hz2 rfl (by decide) _ _ _ rfl HO5.out ⟨wr.heap.size, 0, none⟩ 1 1 [.int .i64 k, .int .i64 0, .int .i64 0, .int .i64 0] rfl rfl HNW.out HON.out (by unfold maxLen; omega) (by omega) hz5 ?_; intro v6 w6 hown hgrow _)
      have HO6 := Lib.hid hown
      have G6 := Lib.hid (g_own2 G5.out (Nat.le_refl _) HO5.out hgrow)
      clear hown hgrow
      go_wp2_with fail
      go_roundw
      case rel => exact ⟨j + 1, _, rfl, by go_num, by omega, by rw [HT.out]; exact HO6.out, G6.out⟩
      case measure => simp [intOf]; omega
    · obtain rfl : j = n := by omega
      have hjj : ¬ (j : Int) < j := by omega
      have HO : Hid (wr.ownsRow w.heap.size 31 4 _ j (iv (K.map op1))) := Lib.hid (by rw [List.take_of_length_le (by rw [HN.out]; exact Nat.le_refl _)] at ho; exact ho)
      have HG := Lib.hid hg
      clear ho hg
      go_wp2_with fail
      go_ret
      exact ⟨_, rfl, HO.out, HG.out⟩

set_option maxRecDepth 100000 in
set_option maxHeartbeats 3200000 in
theorem same_any (ao bo : Option Addr) (n m c d : Nat) (L M : List Int) (w : World) (hL : NRow w ao L) (hM : NRow w bo M) (hn : L.length = n) (hm : M.length = m) (h5 : n < 100000) :
    Calls Try.prog 23 #[.slice ao n c, .slice bo m d] w fun e w' => e = .returned (.bool (decide (L = M))) ∧ w.grownBy w' none := by
  have HL := Lib.hid hL
  have HM := Lib.hid hM
  have HN := Lib.hid (And.intro hn hm)
  obtain ⟨r, hr⟩ : ∃ r, decide (L = M) = r := ⟨_, rfl⟩
  have HR := Lib.hid hr
  rw [hr]
  clear hL hM hn hm hr
  by_cases hnm : n = m
  · subst hnm
    go_enter Try.func23, Try.ntmps23
    go_wp2_with fail
    go_loopw [5] (fun i wr => ∃ j : Nat, i = .int .i64 j ∧ j ≤ n ∧ (∀ t, t < j → L[t]? = M[t]?) ∧ w.grownBy wr none) (fun i _ => (n - intOf i).toNat)
    case atStart => exact ⟨0, rfl, Nat.zero_le _, fun t ht => absurd ht (Nat.not_lt_zero _), g_refl _ _⟩
    case round =>
      obtain ⟨j, rfl, hj, hs, hg⟩ := hrel
      by_cases hlt : j < n
      · have hji : (j : Int) < n := by omega
        have hjj : ¬ (n : Int) ≤ j := by omega
        obtain ⟨x, hx⟩ : ∃ x, L[j]? = some x := ⟨L[j]'(by rw [HN.out.1]; exact hlt), List.getElem?_eq_getElem _⟩
        obtain ⟨y, hy⟩ : ∃ y, M[j]? = some y := ⟨M[j]'(by rw [HN.out.2]; exact hlt), List.getElem?_eq_getElem _⟩
        obtain ⟨b, off, rfl, z0⟩ := HL.out.keep hg j x hx
        obtain ⟨b2, off2, rfl, z1⟩ := HM.out.keep hg j y hy
        have D := Lib.hid (And.intro z0 z1)
        have HS := Lib.hid hs
        have HXY := Lib.hid (And.intro hx hy)
        have HG := Lib.hid hg
        clear z0 z1 hs hx hy hg
        go_upto_region 6 with fail
        by_cases hxy : x = y
        · have e1 : (x != y) = false := by simp [hxy]
          refine wp_region_held_drew (S := fun W' => wr.grownBy W' none) (by kernel_rfl) (g_drew (g_refl _ _)) (fun hHeld => ?_)
          refine wpAnyH_take (i := 0) (v := .slice (some ⟨b, off, none⟩) n c) rfl (by kernel_rfl) (by kernel_rfl) (by kernel_rfl) (fun _ _ _ h => h) (Or.inl ⟨by rfl, fun w hw => by clear hw; go_simp⟩) hHeld ?_
          try simp only [Act.put, List.setIfInBounds_toArray, List.set_cons_zero, List.set_cons_succ, List.getElem_toArray, List.getElem_cons_zero, List.getElem_cons_succ]
          refine wpAnyH_take (i := 1) (v := .int .i64 (j : Int)) rfl (by kernel_rfl) (by kernel_rfl) (by kernel_rfl) (fun _ _ _ h => h) (Or.inl ⟨by rfl, fun w hw => by clear hw; go_simp⟩) hHeld ?_
          try simp only [Act.put, List.setIfInBounds_toArray, List.set_cons_zero, List.set_cons_succ, List.getElem_toArray, List.getElem_cons_zero, List.getElem_cons_succ]
          refine wpAnyH_take (i := 2) (v := .pointer (some ⟨b, off + j, none⟩)) rfl (by kernel_rfl) (by kernel_rfl) (by kernel_rfl) (fun _ _ _ h => h) (Or.inl ⟨by rfl, fun w hw => by clear hw; go_simp⟩) hHeld ?_
          try simp only [Act.put, List.setIfInBounds_toArray, List.set_cons_zero, List.set_cons_succ, List.getElem_toArray, List.getElem_cons_zero, List.getElem_cons_succ]
          refine wpAnyH_take (i := 3) (v := .int .i64 x) rfl (by kernel_rfl) (by kernel_rfl) (by kernel_rfl) (fun _ _ _ h => h) (Or.inl ⟨by rfl, fun w hw => by have q0 := hw.cell D.out.1 (by simp); clear hw; go_simp⟩) hHeld ?_
          try simp only [Act.put, List.setIfInBounds_toArray, List.set_cons_zero, List.set_cons_succ, List.getElem_toArray, List.getElem_cons_zero, List.getElem_cons_succ]
          refine wpAnyH_take (i := 4) (v := .slice (some ⟨b2, off2, none⟩) n d) rfl (by kernel_rfl) (by kernel_rfl) (by kernel_rfl) (fun _ _ _ h => h) (Or.inl ⟨by rfl, fun w hw => by clear hw; go_simp⟩) hHeld ?_
          try simp only [Act.put, List.setIfInBounds_toArray, List.set_cons_zero, List.set_cons_succ, List.getElem_toArray, List.getElem_cons_zero, List.getElem_cons_succ]
          refine wpAnyH_take (i := 5) (v := .int .i64 (j : Int)) rfl (by kernel_rfl) (by kernel_rfl) (by kernel_rfl) (fun _ _ _ h => h) (Or.inl ⟨by rfl, fun w hw => by clear hw; go_simp⟩) hHeld ?_
          try simp only [Act.put, List.setIfInBounds_toArray, List.set_cons_zero, List.set_cons_succ, List.getElem_toArray, List.getElem_cons_zero, List.getElem_cons_succ]
          refine wpAnyH_take (i := 6) (v := .pointer (some ⟨b2, off2 + j, none⟩)) rfl (by kernel_rfl) (by kernel_rfl) (by kernel_rfl) (fun _ _ _ h => h) (Or.inl ⟨by rfl, fun w hw => by clear hw; go_simp⟩) hHeld ?_
          try simp only [Act.put, List.setIfInBounds_toArray, List.set_cons_zero, List.set_cons_succ, List.getElem_toArray, List.getElem_cons_zero, List.getElem_cons_succ]
          refine wpAnyH_take (i := 7) (v := .int .i64 y) rfl (by kernel_rfl) (by kernel_rfl) (by kernel_rfl) (fun _ _ _ h => h) (Or.inl ⟨by rfl, fun w hw => by have q0 := hw.cell D.out.2 (by simp); clear hw; go_simp⟩) hHeld ?_
          try simp only [Act.put, List.setIfInBounds_toArray, List.set_cons_zero, List.set_cons_succ, List.getElem_toArray, List.getElem_cons_zero, List.getElem_cons_succ]
          refine wpAnyH_take (i := 8) (v := .bool false) rfl (by kernel_rfl) (by kernel_rfl) (by kernel_rfl) (fun _ _ _ h => h) (Or.inl ⟨by rfl, fun w hw => by clear hw; go_simp⟩) hHeld ?_
          try simp only [Act.put, List.setIfInBounds_toArray, List.set_cons_zero, List.set_cons_succ, List.getElem_toArray, List.getElem_cons_zero, List.getElem_cons_succ]
          refine wpAnyH_done (by kernel_rfl) ?_ _
          have GX := Lib.hid (g_trans HG.out hHeld)
          clear hHeld
          go_wp2_with fail
          go_roundw
          case rel => exact ⟨j + 1, by go_num, by omega, fun t ht => by
            by_cases e : t = j
            · subst e; rw [HXY.out.1, HXY.out.2, hxy]
            · exact HS.out t (by omega), GX.out⟩
          case measure => simp [intOf]; omega
        · have e1 : (x != y) = true := by simp [hxy]
          have hrf : Hid (r = false) := Lib.hid (by rw [← HR.out]; exact decide_eq_false (fun e => hxy (by have h1 := HXY.out.1; have h2 := HXY.out.2; rw [e, h2] at h1; exact (Option.some.inj h1).symm)))
          refine wp_region_held_drew (S := fun W' => wr.grownBy W' none) (by kernel_rfl) (g_drew (g_refl _ _)) (fun hHeld => ?_)
          refine wpAnyH_take (i := 0) (v := .slice (some ⟨b, off, none⟩) n c) rfl (by kernel_rfl) (by kernel_rfl) (by kernel_rfl) (fun _ _ _ h => h) (Or.inl ⟨by rfl, fun w hw => by clear hw; go_simp⟩) hHeld ?_
          try simp only [Act.put, List.setIfInBounds_toArray, List.set_cons_zero, List.set_cons_succ, List.getElem_toArray, List.getElem_cons_zero, List.getElem_cons_succ]
          refine wpAnyH_take (i := 1) (v := .int .i64 (j : Int)) rfl (by kernel_rfl) (by kernel_rfl) (by kernel_rfl) (fun _ _ _ h => h) (Or.inl ⟨by rfl, fun w hw => by clear hw; go_simp⟩) hHeld ?_
          try simp only [Act.put, List.setIfInBounds_toArray, List.set_cons_zero, List.set_cons_succ, List.getElem_toArray, List.getElem_cons_zero, List.getElem_cons_succ]
          refine wpAnyH_take (i := 2) (v := .pointer (some ⟨b, off + j, none⟩)) rfl (by kernel_rfl) (by kernel_rfl) (by kernel_rfl) (fun _ _ _ h => h) (Or.inl ⟨by rfl, fun w hw => by clear hw; go_simp⟩) hHeld ?_
          try simp only [Act.put, List.setIfInBounds_toArray, List.set_cons_zero, List.set_cons_succ, List.getElem_toArray, List.getElem_cons_zero, List.getElem_cons_succ]
          refine wpAnyH_take (i := 3) (v := .int .i64 x) rfl (by kernel_rfl) (by kernel_rfl) (by kernel_rfl) (fun _ _ _ h => h) (Or.inl ⟨by rfl, fun w hw => by have q0 := hw.cell D.out.1 (by simp); clear hw; go_simp⟩) hHeld ?_
          try simp only [Act.put, List.setIfInBounds_toArray, List.set_cons_zero, List.set_cons_succ, List.getElem_toArray, List.getElem_cons_zero, List.getElem_cons_succ]
          refine wpAnyH_take (i := 4) (v := .slice (some ⟨b2, off2, none⟩) n d) rfl (by kernel_rfl) (by kernel_rfl) (by kernel_rfl) (fun _ _ _ h => h) (Or.inl ⟨by rfl, fun w hw => by clear hw; go_simp⟩) hHeld ?_
          try simp only [Act.put, List.setIfInBounds_toArray, List.set_cons_zero, List.set_cons_succ, List.getElem_toArray, List.getElem_cons_zero, List.getElem_cons_succ]
          refine wpAnyH_take (i := 5) (v := .int .i64 (j : Int)) rfl (by kernel_rfl) (by kernel_rfl) (by kernel_rfl) (fun _ _ _ h => h) (Or.inl ⟨by rfl, fun w hw => by clear hw; go_simp⟩) hHeld ?_
          try simp only [Act.put, List.setIfInBounds_toArray, List.set_cons_zero, List.set_cons_succ, List.getElem_toArray, List.getElem_cons_zero, List.getElem_cons_succ]
          refine wpAnyH_take (i := 6) (v := .pointer (some ⟨b2, off2 + j, none⟩)) rfl (by kernel_rfl) (by kernel_rfl) (by kernel_rfl) (fun _ _ _ h => h) (Or.inl ⟨by rfl, fun w hw => by clear hw; go_simp⟩) hHeld ?_
          try simp only [Act.put, List.setIfInBounds_toArray, List.set_cons_zero, List.set_cons_succ, List.getElem_toArray, List.getElem_cons_zero, List.getElem_cons_succ]
          refine wpAnyH_take (i := 7) (v := .int .i64 y) rfl (by kernel_rfl) (by kernel_rfl) (by kernel_rfl) (fun _ _ _ h => h) (Or.inl ⟨by rfl, fun w hw => by have q0 := hw.cell D.out.2 (by simp); clear hw; go_simp⟩) hHeld ?_
          try simp only [Act.put, List.setIfInBounds_toArray, List.set_cons_zero, List.set_cons_succ, List.getElem_toArray, List.getElem_cons_zero, List.getElem_cons_succ]
          refine wpAnyH_take (i := 8) (v := .bool true) rfl (by kernel_rfl) (by kernel_rfl) (by kernel_rfl) (fun _ _ _ h => h) (Or.inl ⟨by rfl, fun w hw => by clear hw; go_simp⟩) hHeld ?_
          try simp only [Act.put, List.setIfInBounds_toArray, List.set_cons_zero, List.set_cons_succ, List.getElem_toArray, List.getElem_cons_zero, List.getElem_cons_succ]
          refine wpAnyH_done (by kernel_rfl) ?_ _
          have GX := Lib.hid (g_trans HG.out hHeld)
          clear hHeld
          go_wp2_with fail
          go_ret
          exact ⟨by rw [hrf.out]; rfl, GX.out⟩
      · obtain rfl : j = n := by omega
        have hjj : ¬ (j : Int) < j := by omega
        have hrt : Hid (r = true) := Lib.hid (by
          rw [← HR.out]
          refine decide_eq_true (List.ext_getElem? (fun t => ?_))
          by_cases ht : t < j
          · exact hs t ht
          · rw [List.getElem?_eq_none (by rw [HN.out.1]; omega), List.getElem?_eq_none (by rw [HN.out.2]; omega)])
        have HG := Lib.hid hg
        clear hs hg
        go_wp2_with fail
        go_ret
        exact ⟨by rw [hrt.out]; rfl, HG.out⟩
  · have h1 : ¬ (n : Int) = m := by omega
    have h2 : ((n : Int) != m) = true := by simp [h1]
    have hrf : Hid (r = false) := Lib.hid (by rw [← HR.out]; exact decide_eq_false (fun e => hnm (by rw [← HN.out.1, ← HN.out.2, e])))
    go_enter Try.func23, Try.ntmps23
    go_wp2_with fail
    go_ret
    exact ⟨by rw [hrf.out]; rfl, g_refl _ _⟩
end Go.Proofs.Ytfobfcnbbafplaa
