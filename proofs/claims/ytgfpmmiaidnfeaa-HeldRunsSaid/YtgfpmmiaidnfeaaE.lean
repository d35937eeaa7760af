/- The law HeldBehind: from behind. -/
import Derived.Test.YtgfpmmiaidnfeaaD
import Derived.Test.YtgfpmmiaidnfeaaShapes
import Derived.Deep.AppendLies
namespace Go.Proofs.Ytgfpmmiaidnfeaa
open Go.RowKit
set_option linter.unusedVariables false

theorem info3 : (Try.prog.info? 3).map (fun i => (i.zero, i.size, i.bytes)) = some (some (.int .i64 0), 1, 8) := by kernel_rfl
/-- no record is held twice -/
def NoTwice (L : List (Int × Int)) : Prop := ∀ m p, L[m]? = some p → lastV (L.take m) p.1 = none
theorem NoTwice.nil : NoTwice [] := fun m p h => by simp at h
theorem NoTwice.snoc {L : List (Int × Int)} (h : NoTwice L) {k v : Int} (hk : lastV L k = none) : NoTwice (L ++ [(k, v)]) := fun m p hp => by
  rcases Nat.lt_trichotomy m L.length with hm | hm | hm
  · rw [List.getElem?_append_left hm] at hp
    rw [List.take_append_of_le_length (by omega)]
    exact h m p hp
  · subst hm
    simp at hp
    subst hp
    rw [List.take_append_of_le_length (Nat.le_refl _), List.take_length]
    exact hk
  · rw [List.getElem?_eq_none (by simp; omega)] at hp
    cases hp
def keys (L : List (Int × Int)) : List Value := L.map fun p => .int .i64 p.1
theorem keys_snoc (L : List (Int × Int)) (p : Int × Int) : keys (L ++ [p]) = keys L ++ [.int .i64 p.1] := by simp [keys]
theorem keys_length (L : List (Int × Int)) : (keys L).length = L.length := by simp [keys]

/-- what is held, and the law's own row of keys beside it -/
def HB (w : World) (b B : Nat) (L M : List (Int × Int)) (lv : Value) : Prop :=
  Hd w b (fun g => B ≤ g ∧ lv.ownBlock ≠ some g) L ∧ w.ownsRow B 3 1 lv M.length (keys M) ∧ lv.ownBlock ≠ some b
theorem HB.keep {w w' : World} {b B : Nat} {L M : List (Int × Int)} {lv : Value} (h : HB w b B L M lv) (g : w.grownBy w' none) : HB w' b B L M lv := ⟨h.1.keep g, own_keepn h.2.1 g, h.2.2⟩
theorem HB.turn {w w' : World} {b B : Nat} {L L' M : List (Int × Int)} {lv : Value} (h : HB w b B L M lv) (hB : B ≤ w.heap.size)
    (h2 : Hd w' b (fun g => (B ≤ g ∧ lv.ownBlock ≠ some g) ∨ w.heap.size ≤ g) L') (t : Tr (fun i => i = b ∨ (B ≤ i ∧ lv.ownBlock ≠ some i)) w w') : HB w' b B L' M lv := by
  obtain ⟨h1, h3, h4⟩ := h
  refine ⟨h2.mono (fun g _ hg => ?_), t.own h3 (fun g hg => ?_), h4⟩
  · rcases hg with hg | hg
    · exact hg
    · exact ⟨by omega, fun e => by have := (own_lt h3 e).2; omega⟩
  · rintro (e | e)
    · exact h4 (by rw [hg, e])
    · exact e.2 hg

theorem HB.key {w : World} {b B n c : Nat} {L M : List (Int × Int)} {ao : Option Addr} (h : HB w b B L M (.slice ao n c)) {m : Nat} {p : Int × Int} (hp : M[m]? = some p) :
    ∃ g, ao = some ⟨g, 0, none⟩ ∧ w.cell? ⟨g, m, none⟩ = some (.int .i64 p.1) := by
  have hc := fun g hg => h.2.1.cells (g := g) hg
  have hm : m < M.length := (List.getElem?_eq_some_iff.1 hp).1
  rcases h.2.1.2 with ⟨_, e⟩ | ⟨g, cap, cur, e, _⟩
  · omega
  · cases e
    refine ⟨g, rfl, ?_⟩
    have := hc g rfl m (.int .i64 p.1) (by simp [keys, hp])
    simpa [Addr.add_lit] using this

theorem HB.take {w w' : World} {b B : Nat} {L L' M : List (Int × Int)} {lv : Value} (h : HB w b B L M lv) (hB : B ≤ w.heap.size)
    (h2 : Hd w' b (fun g => B ≤ g ∧ lv.ownBlock ≠ some g) L') (k : w.grownBy w' (some b)) : HB w' b B L' M lv :=
  h.turn hB (h2.mono (fun _ _ h => .inl h)) (tr_gs k (fun _ => .inl rfl))

set_option maxRecDepth 100000 in
set_option maxHeartbeats 3200000 in
theorem walk_HeldBehind (a0 : Option Addr) (a0n a0c : Nat) (a1 : Int) (w : World) (w0 : Vec w a0 a0n a0c 1 (Q23)) (w1 : (Lit.int .u16 a1).wf = true) :
    Calls Try.prog 3 #[.slice a0 a0n a0c, .int .u16 a1] w fun e w' => e = .returned (.bool true) ∧ Below w.heap.size w w' := by
  obtain ⟨i0, hi, hz0, hz1, hz2⟩ := info_parts info3
  have hm0 : a0n ≤ 9223372036854775807 := by have := w0.1; have := w0.2.1; unfold maxLen at this; omega
  have hx : 0 ≤ a1 ∧ a1 ≤ 65535 := by simpa [Lit.wf, IntKind.min, IntKind.max, IntKind.signed, IntKind.bits] using w1
  obtain ⟨hv0, hv1⟩ := hx
  clear w1
  go_enter Try.func3, Try.ntmps3
  go_wp2_with fail
  refine (new_fr _).mono ?_
  rintro e w4 ⟨rfl, h4, hg4⟩
  have s4 := hg4.size
  have hb4 := h4.lt
  go_wp2_with fail
  refine (awake_any _).mono ?_
  rintro e w5 ⟨rfl, hg5⟩
  have s5 := hg5.size
  have hb : HB w5 w.heap.size w.heap.size [] [] (.slice none 0 0) := ⟨(h4.keep hg5).mono (fun g _ h => ⟨h, by simp [Value.ownBlock]⟩), World.ownsRow_nil _ _ _ _, by simp [Value.ownBlock]⟩
  have hB5 : Below w.heap.size w w5 := below_gn (Below.refl _ _) (g_trans hg4 hg5) (Nat.le_refl _)
  have HB0 := Lib.hid hb
  clear hb h4 hg4 hg5
  go_wp2_with fail
  go_loopw [6, 7] (fun s i wr => ∃ (k : Nat) (L : List (Int × Int)) (ao : Option Addr) (c : Nat), k ≤ a0n ∧ k ≤ 60 ∧ i = .int .i64 k ∧ s = .slice ao L.length c ∧ HB wr w.heap.size w.heap.size L L (.slice ao L.length c) ∧ NoTwice L ∧ L.length ≤ k ∧ Below w.heap.size w wr) (fun _ i _ => (300 - intOf i).toNat)
  case atStart => exact ⟨0, [], none, 0, by omega, by omega, rfl, rfl, HB0.out, NoTwice.nil, by simp, hB5⟩
  case round =>
    clear HB0 hB5
    obtain ⟨k, L, ao, c, hk, hk2, rfl, rfl, hhb, hnt, hlen, hbl⟩ := hrel
    by_cases hgo : k < a0n ∧ k < 60
    · obtain ⟨hlt, hlt2⟩ := hgo
      obtain ⟨vb, off, v, rfl, ⟨n0, hq, hwf⟩, hcell⟩ := w0.at1 k hlt
      cases hq
      have hnx : 0 ≤ n0 ∧ n0 ≤ 65535 := by simpa [Lit.wf, IntKind.min, IntKind.max, IntKind.signed, IntKind.bits] using hwf
      obtain ⟨hn0, hn1⟩ := hnx
      have hc0 : wr.cell? ⟨vb, off + k, none⟩ = some (.int .u16 n0) := (hbl.cell (World.block_lt_of_cell? _ _ hcell)).trans hcell
      have hmod : n0.tmod 1024 = n0 % 1024 := Int.tmod_eq_emod_of_nonneg hn0
      obtain ⟨o, ho⟩ : ∃ o, n0 % 1024 = o := ⟨_, rfl⟩
      have ho1 : 0 ≤ o ∧ o < 1024 := by omega
      rw [ho] at hmod
      have HM := Lib.hid hmod
      have HH := Lib.hid hhb
      have HNT := Lib.hid hnt
      have HBL := Lib.hid hbl
      have hsz := hbl.size
      clear hcell hwf hhb hnt hbl ho
      go_wp2_with fail
      have hnb : ¬ badA o (a1 + k) := by unfold badA; omega
      cases hs : lastV L o with
      | some u =>
        have hr : addR L o (a1 + k) = 80 := by unfold addR; rw [if_neg hnb, if_pos (by rw [hs]; rfl)]
        have hL : addL L o (a1 + k) = L := by unfold addL; rw [if_neg hnb, if_pos (by rw [hs]; rfl)]
        refine (has_any _ _ _ _ HH.out.1 _).mono ?_
        rw [hs]
        rintro e w6 ⟨rfl, hg6⟩
        have HR := Lib.hid hr
        have HL := Lib.hid hL
        have HH6 := Lib.hid (HH.out.keep hg6)
        clear hs hr hL hnb
        go_wp2_with fail
        refine (add_any _ _ _ _ HH6.out.1 _ _ (by omega)).mono ?_
        rw [HR.out, HL.out]
        rintro e w7 ⟨rfl, h7, t7⟩
        have hs6 := hg6.size
        have HH7 := Lib.hid (HH6.out.turn (by omega) h7 t7)
        have HB7 := Lib.hid (Tr.below (below_gn HBL.out hg6 HBL.out.size) t7 (by omega) (fun i hi e => by rcases e with e | e <;> omega))
        clear h7 t7
        go_wp2_with fail
        go_roundw
        case rel => exact ⟨k + 1, L, ao, c, by omega, by omega, by go_num, rfl, HH7.out, HNT.out, by omega, HB7.out⟩
        case measure => simp [intOf]; omega
      | none =>
        have hr : addR L o (a1 + k) = 0 := by unfold addR; rw [if_neg hnb, if_neg (by rw [hs]; simp)]
        have hL : addL L o (a1 + k) = L ++ [(o, a1 + k)] := by unfold addL; rw [if_neg hnb, if_neg (by rw [hs]; simp)]
        refine (has_any _ _ _ _ HH.out.1 _).mono ?_
        rw [hs]
        rintro e w6 ⟨rfl, hg6⟩
        have HR := Lib.hid hr
        have HL := Lib.hid hL
        have HH6 := Lib.hid (HH.out.keep hg6)
        have HNT2 := Lib.hid (HNT.out.snoc (v := a1 + k) hs)
        clear hs hr hL hnb
        go_wp2_with fail
        refine (add_any _ _ _ _ HH6.out.1 _ _ (by omega)).mono ?_
        rw [HR.out, HL.out]
        rintro e w7 ⟨rfl, h7, t7⟩
        have hs6 := hg6.size
        have hs7 := t7.size
        have HH7 := Lib.hid (HH6.out.turn (by omega) h7 t7)
        have HB7 := Lib.hid (Tr.below (below_gn HBL.out hg6 HBL.out.size) t7 (by omega) (fun i hi e => by rcases e with e | e <;> omega))
        clear h7 t7
        have HA := Lib.hid (HH7.out.2.1.alloc (.cells #[.int .i64 o] 3))
        go_wp2_with (at_builtin; refine wpList_append_lies _ rfl _ _ 27 rfl w.heap.size 3 i0 (.int .i64 0) 1 8 Try.underlying27 hi hz0 hz1 hz2 rfl (by decide) _ _ _ rfl HA.out ⟨w7.heap.size, 0, none⟩ 1 1 [.int .i64 o] rfl rfl ?c1 ?c2 (by decide) ?c3 ?c4 ?c5 (w7.heap.size + 1) ?c6 ?_)
        case c1 => exact new_cells _ _ _
        case c2 => simp [Value.oneCell']
        case c3 => unfold maxLen; omega
        case c4 => omega
        case c5 => simp; omega
        case c6 => simp
        intro gg cap w8 hown8 hgrow hat hlt8
        have gA : w7.grownBy (w7.alloc (.cells #[.int .i64 o] 3)) none := g_alloc (g_refl _ _) _
        have hown8' : w8.ownsRow w.heap.size 3 1 (.slice (some ⟨gg, 0, none⟩) (L.length + 1) cap) (L ++ [(o, a1 + k)]).length (keys (L ++ [(o, a1 + k)])) := by
          rw [keys_snoc, List.length_append]; exact hown8
        have hgb : w.heap.size ≤ gg := (own_lt hown8 (g := gg) rfl).1
        have tr8 : Tr (fun i => (Value.slice ao L.length c).ownBlock = some i) w7 w8 := tr_trans (tr_g gA _) (tr_row hgrow (fun g e _ => e)) (fun _ _ h => h)
        have h8 : Hd w8 w.heap.size (fun g => w.heap.size ≤ g ∧ (Value.slice (some ⟨gg, 0, none⟩) (L.length + 1) cap).ownBlock ≠ some g) (L ++ [(o, a1 + k)]) := by
          have h1 := HH7.out.1.strict.tr tr8 HH7.out.2.2 (fun g _ hg e => hg.1.2 e)
          refine h1.mono (fun g _ hg => ⟨hg.1.1, fun e => ?_⟩)
          simp only [Value.ownBlock, Option.some.injEq] at e
          subst e
          rcases hat with e | e
          · exact hg.1.2 e
          · omega
        have HH8 : Hid (HB w8 w.heap.size w.heap.size (L ++ [(o, a1 + k)]) (L ++ [(o, a1 + k)]) (.slice (some ⟨gg, 0, none⟩) (L.length + 1) cap)) := Lib.hid ⟨h8, hown8', by
          simp only [Value.ownBlock, ne_eq, Option.some.injEq]
          rcases hat with e | e
          · exact fun e2 => HH7.out.2.2 (by rw [e, e2])
          · omega⟩
        have HB8 := Lib.hid (Tr.below HB7.out tr8 (by omega) (fun i hi e => by have := (own_lt HH7.out.2.1 e).1; omega))
        clear h8 hown8' hown8 hgrow tr8 hat HA HH7 HB7
        go_wp2_with fail
        go_roundw
        case rel => exact ⟨k + 1, L ++ [(o, a1 + k)], some ⟨gg, 0, none⟩, cap, by omega, by omega, by go_num, by simp, by simpa using HH8.out, HNT2.out, by simp; omega, HB8.out⟩
        case measure => simp [intOf]; omega
    · have HH := Lib.hid hhb
      have HNT := Lib.hid hnt
      have HBL := Lib.hid hbl
      have hsz := hbl.size
      clear hhb hnt hbl
      by_cases hlt : k < a0n
      all_goals
        go_wp2_with fail
        refine (len_any _ _ _ _ HH.out.1).mono ?_
        rintro e w6 ⟨rfl, hg6⟩
        have hne : ((L.length : Int) != (L.length : Int)) = false := by simp
        have HH6 := Lib.hid (HH.out.keep hg6)
        have HB6 := Lib.hid (below_gn HBL.out hg6 HBL.out.size)
        go_wp2_with fail
        obtain ⟨n, hn⟩ : ∃ n, L.length = n := ⟨_, rfl⟩
        have hlen60 : n ≤ 60 := by omega
        rw [hn] at HH6 ⊢
        have HN := Lib.hid hn
        clear hn hne hlen HH HBL hg6
        obtain ⟨wo, hwo⟩ : ∃ wo : World, wo = w6 := ⟨_, rfl⟩
        rw [← hwo] at HH6 HB6 ⊢
        clear hwo
        go_loopw [12] (fun i wr => ∃ (m : Nat) (x : Int), m ≤ n ∧ x = (m : Int) - 1 ∧ i = .int .i64 x ∧ HB wr w.heap.size w.heap.size (L.take m) L (.slice ao n c) ∧ Below w.heap.size w wr) (fun i _ => (intOf i + 1).toNat)
        case atStart => exact ⟨n, _, by omega, rfl, by go_num, by rw [← HN.out, List.take_length]; rw [HN.out]; exact HH6.out, HB6.out⟩
        case round =>
          obtain ⟨m, x, hm, hx, rfl, hhb, hbl⟩ := hrel
          have hsz := hbl.size
          have HH := Lib.hid hhb
          have HBL := Lib.hid hbl
          clear hhb hbl HH6 HB6
          rcases m with _ | m
          · obtain rfl : x = -1 := by omega
            clear hx
            go_wp2_with fail
            refine (take_any _ _ _ _ HH.out.1).mono ?_
            rintro e w7 ⟨rfl, h7, k7⟩
            have et : topT (L.take 0) = .tuple #[.agg #[.int .i64 0, .int .i64 0], .bool false] := rfl
            rw [et]
            have el : (L.take 0).dropLast = [] := rfl
            rw [el] at h7
            have g8 := g_alloc (g_refl w7 none) (.cells #[.int .i64 0, .int .i64 0] 34)
            have H8 := Lib.hid (h7.keep g8)
            have hs7 := k7.size
            have B8 := Lib.hid (below_gn (below_gs HBL.out k7 (by omega) (Nat.le_refl _)) g8 (by omega))
            clear h7 k7 et el
            go_wp2_with fail
            refine (len_any _ _ _ _ H8.out).mono ?_
            rintro e w9 ⟨rfl, hg9⟩
            have ea : addR [] 5 1 = 0 := by decide
            have hs9 := hg9.size
            have hs8 := g8.size
            go_wp2_with fail
            refine (add_any _ _ _ _ (H8.out.keep hg9) _ _ (by simp)).mono ?_
            rw [ea]
            rintro e w10 ⟨rfl, _, t10⟩
            have B10 := Lib.hid (Tr.below (below_gn B8.out hg9 (by omega)) t10 (by omega) (fun i hi e => by rcases e with e | e <;> omega))
            clear t10
            go_wp2_with fail
            go_ret
            exact ⟨rfl, B10.out⟩
          · obtain rfl : x = (m : Int) := by omega
            clear hx
            obtain ⟨p, hp⟩ : ∃ p, L[m]? = some p := ⟨L[m]'(by rw [HN.out]; omega), List.getElem?_eq_getElem _⟩
            have htk : L.take (m + 1) = L.take m ++ [p] := by rw [List.take_add_one, hp]; rfl
            have hnone := HNT.out m p hp
            have et : topT (L.take m ++ [p]) = .tuple #[.agg #[.int .i64 p.1, .int .i64 p.2], .bool true] := by simp [topT]
            have HP := Lib.hid hp
            have HNO := Lib.hid hnone
            go_wp2_with fail
            refine (take_any _ _ _ _ HH.out.1).mono ?_
            rintro e w7 ⟨rfl, h7, k7⟩
            rw [htk, List.dropLast_concat] at h7
            rw [htk, et]
            have hs7 := k7.size
            have HB7 := Lib.hid (below_gs HBL.out k7 (by omega) (Nat.le_refl _))
            have HH7 := Lib.hid (HH.out.take (by omega) h7 k7)
            clear h7 k7 et htk hp hnone
            have g8 := g_alloc (g_refl w7 none) (.cells #[.int .i64 p.1, .int .i64 p.2] 34)
            have hx8 := Blk.new w7 #[.int .i64 p.1, .int .i64 p.2] 34
            obtain ⟨g, rfl, hk8⟩ := (HH7.out.keep g8).key HP.out
            go_wp2_with fail
            refine (has_any _ _ _ _ (HH7.out.1.keep g8) _).mono ?_
            rw [HNO.out]
            rintro e w9 ⟨rfl, hg9⟩
            have hs9 := hg9.size
            have hs8 := g8.size
            have x0 := (hx8.keepn hg9).cell 0 (.int .i64 p.1) rfl
            have x1 := (hx8.keepn hg9).cell 1 (.int .i64 p.2) rfl
            have k9 := hg9.cell hk8 (by simp)
            have HH9 := Lib.hid ((HH7.out.keep g8).keep hg9)
            have HB9 := Lib.hid (below_gn (below_gn HB7.out g8 (by omega)) hg9 (by omega))
            have hpp : (p.1 != p.1) = false := by simp
            have hmn : (m : Int) < n := by omega
            generalize p.1 = p1 at *
            clear hx8 hk8 HH7 HB7 g8 hg9
            go_wp2_with fail
            go_quiet (fail)
            go_wp2_with fail
            go_roundw
            case rel => exact ⟨m, _, by omega, rfl, rfl, HH9.out.keep (g_drewN (g_refl _ _) _), below_drewN HB9.out _⟩
            case measure => simp [intOf]
end Go.Proofs.Ytgfpmmiaidnfeaa
