/- The law InstrBack. -/
import Derived.Test.YtcjeiafhcpgaoaaT
import Derived.Test.YtcjeiafhcpgaoaaJ
import Derived.Test.YtcjeiafhcpgaoaaShapes
import Derived.Laws.AppendOwnNone
namespace Go.Proofs.Ytcjeiafhcpgaoaa
open Go.RowKit
set_option linter.unusedVariables false

/-- the bytes of a slice that came in -/
theorem vec_bytes {w : World} {ao : Option Addr} {n c : Nat} (h : Vec w ao n c 1 Q5) : ∀ m, m ≤ n → ∃ L : List Int, L.length = m ∧ BRow w ao L := fun m => by
  induction m with
  | zero => exact fun _ => ⟨[], rfl, fun i x hx => by cases hx⟩
  | succ m ih =>
    intro hm
    obtain ⟨L, hl, hL⟩ := ih (by omega)
    obtain ⟨b, off, v, rfl, hq, hc⟩ := h.at1 m (by omega)
    obtain ⟨x, hx, hwf⟩ := hq
    cases hx
    have hxx : 0 ≤ x ∧ x ≤ 255 := by simpa [Lit.wf, IntKind.min, IntKind.max, IntKind.signed, IntKind.bits] using hwf
    refine ⟨L ++ [x], by simp [hl], fun i y hy => ?_⟩
    by_cases e : i < L.length
    · rw [List.getElem?_append_left e] at hy
      exact hL i y hy
    · have hi := (List.getElem?_eq_some_iff.1 hy).1
      simp at hi
      obtain rfl : i = L.length := by omega
      rw [List.getElem?_append_right (Nat.le_refl _), Nat.sub_self] at hy
      cases hy
      exact ⟨hxx, b, off, rfl, by rw [hl]; exact hc⟩
theorem brow_own {w : World} {base : Nat} {v : Value} {n : Nat} {M : List Int} (h : w.ownsRow base 5 1 v n (byV M)) (hb : ∀ x ∈ M, 0 ≤ x ∧ x ≤ 255) :
    ∃ ao c, v = .slice ao n c ∧ BRow w ao M ∧ M.length = n ∧ n ≤ c ∧ c ≤ 9223372036854775807 ∧ (0 < n → ∃ g, ao = some ⟨g, 0, none⟩ ∧ base ≤ g ∧ g < w.heap.size) := by
  have hl := h.1
  rw [byV_length, Nat.mul_one] at hl
  have hcs := fun g hg => h.cells (g := g) hg
  rcases h.2 with ⟨rfl, rfl⟩ | ⟨g, cap, cur, rfl, hbg, hh, h1, h2, h3, h4⟩
  · have : M = [] := List.eq_nil_of_length_eq_zero hl
    subst this
    exact ⟨none, 0, rfl, fun i x hx => (by cases hx), rfl, Nat.le_refl _, by omega, fun h => by omega⟩
  · refine ⟨_, cap, rfl, fun i x hx => ⟨hb x (List.mem_of_getElem? hx), g, 0, rfl, ?_⟩, hl, h1, by unfold maxLen at h2; omega, fun _ => ⟨g, rfl, hbg, (Array.getElem?_eq_some_iff.1 hh).1⟩⟩
    have hv : (byV M)[i]? = some (.int .u8 x) := by
      unfold byV
      rw [List.getElem?_map, hx]
      rfl
    have := hcs g rfl i _ hv
    rwa [Addr.add_lit] at this
theorem run_append_empty {P : Program} {w : World} (base : Nat) (t ty e : TypeId) (i : TypeInfo) (size : Nat) (ht : P.underlying t = some (.slice e)) (hi : P.info? e = some i)
    (v : Value) (n : Nat) (xs : List Value) (hown : w.ownsRow base e size v n xs) (ao : Option Addr) (c : Nat) :
    (Builtin.append_ #[t, t] ty #[v, .slice ao 0 c]).run P w = .ok v w := by
  rcases hown.2 with ⟨rfl, rfl⟩ | ⟨g, cap, cur, rfl, _, _, hnc, _⟩
  · cases ao <;> simp [Builtin.append_, run_underlying ht, sizeOf, typeInfo, hi, Builtin.lenOf, Builtin.firstCells, loadCells, loadCellsFrom]
  · cases ao <;> simp [Builtin.append_, run_underlying ht, sizeOf, typeInfo, hi, Builtin.lenOf, Builtin.firstCells, hnc, storeCells, loadCells, loadCellsFrom]
theorem wpList_append_empty {P : Program} {w : World} {ops : Array Oper} {rest : List Oper} {o : Oper} {a : Act} {Q : Exit → Act → World → Prop} (hgd : o.guard = none) (s x : Operand) (t : TypeId)
    (ho : o.op = .call { callee := .builtin .append, args := #[s, x], argTypes := #[t, t] })
    (base : Nat) (e : TypeId) (i : TypeInfo) (size : Nat) (ht : P.underlying t = some (.slice e)) (hi : P.info? e = some i)
    (v : Value) (n : Nat) (xs : List Value) (hs : a.eval s = v) (hown : w.ownsRow base e size v n xs) (ao : Option Addr) (c : Nat) (hx : a.eval x = .slice ao 0 c)
    (h : wpList P ops Q rest (a.put o.dst v) w) : wpList P ops Q (o :: rest) a w := by
  refine wpList_plain hgd fun K hK => ?_
  have hrun := run_append_empty (P := P) (w := w) base t o.type e i size ht hi v n xs hown ao c
  unfold Oper.wp
  simp [execOp, ho, resolve, invoke, builtin, hs, hx, hrun, Result.andThen]
  exact hK _ _ h
/-- bytes as a string -/
theorem str_row {w : World} {ao : Option Addr} {n c : Nat} {L : List Int} (h : BRow w ao L) (hl : L.length = n) : (convert 25 9 (.slice ao n c)).run Try.prog w = .ok (.string (strOfNums L)) w := by
  rcases Nat.eq_zero_or_pos n with e | e
  · subst e
    have : L = [] := List.eq_nil_of_length_eq_zero hl
    subst this
    cases ao with
    | none => exact run_convert_bytes_nil (P := Try.prog) w 25 5 Try.underlying25 Try.underlying5 0 c 9 Try.underlying9
    | some a =>
      rw [run_convert_bytes_string (P := Try.prog) w 25 9 5 _ 0 c Try.underlying25 Try.underlying5 Try.underlying9, run_bytesToString (P := Try.prog) w a 0 c [] (by simp [loadCells, loadCellsFrom])]
      rfl
  · obtain ⟨x, hx⟩ : ∃ x, L[0]? = some x := ⟨L[0], List.getElem?_eq_getElem _⟩
    obtain ⟨_, b, off, rfl, _⟩ := h 0 x hx
    refine run_convert_bytes_arg (P := Try.prog) w 25 5 Try.underlying25 Try.underlying5 b off n c L hl (fun i hi => ?_) 9 Try.underlying9
    have hx : L[i]? = some (L.getD i 0) := by
      rw [List.getElem?_eq_getElem (by omega)]
      simp [List.getD, List.getElem?_eq_getElem (show i < L.length by omega)]
    obtain ⟨_, b', off', he, hc⟩ := h i _ hx
    cases he
    exact hc

set_option maxRecDepth 100000 in
set_option maxHeartbeats 3200000 in
theorem walk_InstrBack (a0_0 : Int) (a0_1 : Int) (a0_2 : Int) (a0_3 : Int) (a1 : Option Addr) (a1n a1c : Nat) (w : World) (w0_0 : (Lit.int .i64 a0_0).wf = true) (w0_1 : (Lit.int .i64 a0_1).wf = true) (w0_2 : (Lit.int .i64 a0_2).wf = true) (w0_3 : (Lit.int .i64 a0_3).wf = true) (w1 : Vec w a1 a1n a1c 1 (Q5)) :
    Calls Try.prog 4 #[.agg #[.int .i64 a0_0, .int .i64 a0_1, .int .i64 a0_2, .int .i64 a0_3], .slice a1 a1n a1c] w fun e w' => e = .returned (.bool true) ∧ Below w.heap.size w w' := by
  clear w0_0 w0_1 w0_2 w0_3
  have hnc := w1.1
  have hcm : a1c ≤ 9223372036854775807 := by have := w1.2.1; unfold maxLen at this; omega
  obtain ⟨L, hLl, hL⟩ := vec_bytes w1 (min a1n 20) (by omega)
  have HL := Lib.hid hL
  have HLL := Lib.hid hLl
  obtain ⟨n, hn⟩ : ∃ n, min a1n 20 = n := ⟨_, rfl⟩
  have hn20 : n ≤ 20 := by omega
  have hnc' : n ≤ a1c := by omega
  have hcut := fun w => cut_any a1 a1n a1c w hnc hcm
  rw [hn] at hcut HLL
  have HCUT := Lib.hid hcut
  have g0 := g_alloc (g_refl w none) (.cells #[.int .i64 a0_0, .int .i64 a0_1, .int .i64 a0_2, .int .i64 a0_3] 24)
  have hb := Blk.new w #[.int .i64 a0_0, .int .i64 a0_1, .int .i64 a0_2, .int .i64 a0_3] 24
  have HB := Lib.hid hb
  clear hb hL hLl hn w1 hcut hnc
  have hcase : (∃ k : Nat, a0_0 = k ∧ 1 ≤ k ∧ k ≤ 20 ∧ okI k a0_1 a0_2 a0_3 = true) ∨ (∀ w, Calls Try.prog 9 #[.agg #[.int .i64 a0_0, .int .i64 a0_1, .int .i64 a0_2, .int .i64 a0_3]] w fun e w' => e = .returned (.tuple #[.slice none 0 0, .int .i64 100]) ∧ w.grownBy w' none) := by
    rcases kind_cases a0_0 with ⟨k, rfl, h1, h2⟩ | h
    · cases hr : okI k a0_1 a0_2 a0_3 with
      | true => exact .inl ⟨k, rfl, h1, h2, hr⟩
      | false => exact .inr (encode_no k h1 h2 _ _ _ hr)
    · exact .inr (encode_bad a0_0 h _ _ _)
  rcases hcase with ⟨k, rfl, h1, h2, hok⟩ | hno
  · have HE := Lib.hid (fun w => encode_ok k h1 h2 a0_1 a0_2 a0_3 w hok)
    go_enter Try.func4, Try.ntmps4
    go_wp2_with fail
    refine (HCUT.out _).mono ?_
    rintro e w2 ⟨rfl, hg2⟩
    have b2 := HB.out.keepn hg2
    have c0 := b2.cell 0 (.int .i64 k) rfl
    have c1 := b2.cell 1 (.int .i64 a0_1) rfl
    have c2 := b2.cell 2 (.int .i64 a0_2) rfl
    have c3 := b2.cell 3 (.int .i64 a0_3) rfl
    go_wp2_with fail
    refine (HE.out _).mono ?_
    rintro e w3 ⟨v, rfl, how, hg3⟩
    obtain ⟨i0, hi, hz0, hz1, hz2⟩ := info_parts info5
    obtain ⟨E, hE⟩ : ∃ E, encK k (sA k) (sB k) (sC k) a0_1 a0_2 a0_3 3 = E := ⟨_, rfl⟩
    have hEb := enc_bytes h1 h2 (sA k) (sB k) (sC k) a0_1 a0_2 a0_3
    have hE25 := encK_len k (sA k) (sB k) (sC k) a0_1 a0_2 a0_3 3
    have hEl := enc_len k (sA k) (sB k) (sC k) a0_1 a0_2 a0_3
    have hE0 : E[0]? = some (k : Int) := by rw [← hE]; rfl
    rw [hE] at how hEb hE25 hEl
    obtain ⟨al, hal⟩ : ∃ al, E.length = al := ⟨_, rfl⟩
    rw [hal] at how hE25 hEl
    have hal0 : 0 < al := by rw [← hal]; exact (List.getElem?_eq_some_iff.1 hE0).1
    obtain ⟨ao, cap, rfl, hbrE, -, hcE, hcmE, hpos⟩ := brow_own how hEb
    obtain ⟨g, rfl, hgb, hgl⟩ := hpos hal0
    have g4 := g_alloc (g_refl w3 none) (.cells #[] 5)
    have hoe : (w3.alloc (.cells #[] 5)).ownsRow w3.heap.size 5 1 (.slice (some ⟨w3.heap.size, 0, none⟩) 0 0) 0 [] := by
      have := World.ownsRow_made w3 (base := w3.heap.size) (e := 5) (size := 1) #[] 0 (by simp) (by unfold maxLen; omega) rfl
      simpa using this
    have hnews : ∀ (j : Nat) (u : Value), (byV E)[j]? = some u → (w3.alloc (.cells #[] 5)).cell? ((⟨g, 0, none⟩ : Addr).add j) = some u := fun j u hu => by
      unfold byV at hu
      rw [List.getElem?_map] at hu
      cases hx : E[j]? with
      | none => rw [hx] at hu; cases hu
      | some x =>
        rw [hx] at hu
        cases hu
        obtain ⟨_, b', o', he, hc⟩ := hbrE j x hx
        cases he
        rw [Addr.add_lit]
        exact g4.cell hc (by simp)
    have hln : (byV E).length = al * 1 := by rw [byV_length, hal, Nat.mul_one]
    have HEE := Lib.hid hE
    have HEB := Lib.hid hEb
    have HEL := Lib.hid hEl
    have HE0 := Lib.hid hE0
    have HAL := Lib.hid hal
    have HBE := Lib.hid hbrE
    have HO := Lib.hid hoe
    have HNE := Lib.hid hnews
    have HLN := Lib.hid hln
    have gA := g_trans (g_trans g0 hg2) hg3
    have HB3 := Lib.hid (b2.keepn hg3)
    clear hE hEb hEl hE0 hal hbrE hoe hnews hln how c0 c1 c2 c3 b2 hpos hg2 hg3 g0
    go_wp2_with (at_builtin; refine wpList_append_own _ rfl _ _ 25 rfl w3.heap.size 5 i0 (.int .u8 0) 1 1 Try.underlying25 hi hz0 hz1 hz2 rfl (by decide) _ _ _ rfl HO.out ⟨g, 0, none⟩ al cap (byV E) rfl HLN.out HNE.out ?c2 ?c3 ?c4 ?c5 ?_)
    case c2 => intro u hu; simp [byV] at hu; obtain ⟨a, _, h⟩ := hu; subst h; rfl
    case c3 => unfold maxLen; omega
    case c4 => omega
    case c5 => simp
    intro v4 w4 how4 hg4 _
    have g34 : w3.grownBy w4 none := g_own2 g4 (Nat.le_refl _) HO.out hg4
    have how4' : w4.ownsRow w3.heap.size 5 1 v4 al (byV E) := by simpa using how4
    have HOW4 := Lib.hid how4'
    clear how4 how4' hg4 g4 HO HNE HLN
    by_cases hn0 : n = 0
    · subst hn0
      go_wp2_with (at_builtin; refine wpList_append_empty rfl _ _ 25 rfl w3.heap.size 5 i0 1 Try.underlying25 hi _ _ _ rfl HOW4.out a1 a1c rfl ?_)
      have HOW5 : Hid (w4.ownsRow w3.heap.size 5 1 v4 (al + 0) (byV (E ++ L))) := Lib.hid (by
        have hL0 : L = [] := List.eq_nil_of_length_eq_zero HLL.out
        rw [hL0, List.append_nil]
        exact HOW4.out)
      have G5 := Lib.hid g34
      have hb5 : ∀ x ∈ E ++ L, 0 ≤ x ∧ x ≤ 255 := fun x hx => by
        rcases List.mem_append.1 hx with h | h
        · exact HEB.out x h
        · obtain ⟨i, hi⟩ := List.mem_iff_getElem?.1 h
          exact (HL.out i x hi).1
      obtain ⟨ao5, c5, rfl, hbr5, hl5, hc5, hcm5, -⟩ := brow_own HOW5.out hb5
      obtain ⟨v0, v1, v2⟩ := hv_enc hok L
      rw [HEE.out] at v0 v1 v2
      have h05 : (E ++ L)[0]? = some (k : Int) := by rw [List.getElem?_append_left (by rw [HAL.out]; exact hal0)]; exact HE0.out
      have hd5 := decode_k ao5 (al + 0) c5 (E ++ L) w4 hbr5 hl5 k h1 h2 h05 (by omega) hc5 hcm5
      rw [v0, v1, v2, ← HEL.out] at hd5
      have hdr : (E ++ L).drop al = L := by rw [← HAL.out]; exact List.drop_left' rfl
      rw [hdr] at hd5
      clear v0 v1 v2 hb5 hbr5 hl5 hc5 hcm5 hdr h05
      refine hd5.mono ?_
      rintro e w6 ⟨hg6, ⟨hbad, _⟩ | ⟨_, hbad, _⟩ | ⟨_, _, vr, rfl, howr⟩⟩
      · omega
      · rw [hok] at hbad; cases hbad
      · have g7 := g_alloc (g_refl w6 none) (.cells #[.int .i64 k, .int .i64 a0_1, .int .i64 a0_2, .int .i64 a0_3] 24)
        have ub := Blk.new w6 #[.int .i64 k, .int .i64 a0_1, .int .i64 a0_2, .int .i64 a0_3] 24
        have G36 := Lib.hid (g_trans (g_trans G5.out hg6) g7)
        have ib := HB3.out.keepn G36.out
        have q0 := ub.cell 0 (.int .i64 k) rfl
        have q1 := ub.cell 1 (.int .i64 a0_1) rfl
        have q2 := ub.cell 2 (.int .i64 a0_2) rfl
        have q3 := ub.cell 3 (.int .i64 a0_3) rfl
        have p0 := ib.cell 0 (.int .i64 k) rfl
        have p1 := ib.cell 1 (.int .i64 a0_1) rfl
        have p2 := ib.cell 2 (.int .i64 a0_2) rfl
        have p3 := ib.cell 3 (.int .i64 a0_3) rfl
        have hnn : al + 0 - al = 0 := by omega
        rw [hnn] at howr
        have s1 := str_own (own_keepn howr g7)
        have s2 := str_row (c := a1c) (HL.out.keep (g_trans gA G36.out)) HLL.out
        have htt := tl_self (strOfNums L)
        have e0 : ((k : Int) != (k : Int)) = false := by simp
        have e1 : (a0_1 != a0_1) = false := by simp
        have e2 : (a0_2 != a0_2) = false := by simp
        have e3 : (a0_3 != a0_3) = false := by simp
        generalize strOfNums L = tl at *
        clear hd5 hg6 g7 ub ib howr
        go_wp2_with fail
        generalize (w6.alloc (.cells #[.int .i64 k, .int .i64 a0_1, .int .i64 a0_2, .int .i64 a0_3] 24)) = W7 at *
        have HBE7 := Lib.hid (HBE.out.keep G36.out)
        clear q0 q1 q2 q3 p0 p1 p2 p3 s1 s2 htt
        go_loopw [10] (fun i wr => ∃ j : Nat, j ≤ al ∧ i = .int .i64 j ∧ W7.grownBy wr none) (fun i _ => (100 - intOf i).toNat)
        case atStart => exact ⟨0, by omega, rfl, g_refl _ _⟩
        case round =>
          obtain ⟨j, hj, rfl, hgr⟩ := hrel
          by_cases hlt : j < al
          · have hjb : (j : Int) < al := by omega
            have hjc : (j : Int) ≤ cap := by omega
            have hdj : ∀ w, BRow w (some ⟨g, 0, none⟩) E → Calls Try.prog 11 #[.slice (some ⟨g, 0, none⟩) j cap] w fun e w' => e = .returned (.tuple #[.agg #[.int .i64 0, .int .i64 0, .int .i64 0, .int .i64 0], .slice none 0 0, .int .i64 6]) ∧ w.grownBy w' none := fun w hE => by
              by_cases hj0 : j = 0
              · subst hj0
                exact decode_none _ _ w
              · refine (decode_k (some ⟨g, 0, none⟩) j cap (E.take j) w (fun i x hx => ?_) (by rw [List.length_take, HAL.out]; omega) k h1 h2 (by rw [List.getElem?_take_of_lt (by omega)]; exact HE0.out) (by omega) (by omega) hcmE).mono ?_
                · rw [List.getElem?_take] at hx
                  split at hx
                  · exact hE i x hx
                  · cases hx
                · rintro e w' ⟨hg, ⟨_, he⟩ | ⟨hbad, _⟩ | ⟨hbad, _⟩⟩
                  · exact ⟨he, hg⟩
                  · rw [← HEL.out] at hbad; omega
                  · rw [← HEL.out] at hbad; omega
            have HDJ := Lib.hid hdj
            have HGR := Lib.hid hgr
            clear hdj hgr
            go_wp2_with fail
            refine (HDJ.out _ (HBE7.out.keep HGR.out)).mono ?_
            rintro e w8 ⟨rfl, hg8⟩
            have HG8 := Lib.hid (g_alloc (g_trans HGR.out hg8) (.cells #[.int .i64 0, .int .i64 0, .int .i64 0, .int .i64 0] 24))
            clear hg8
            go_wp2_with fail
            go_roundw
            case rel => exact ⟨j + 1, by omega, by go_num, HG8.out⟩
            case measure => simp [intOf]; omega
          · obtain rfl : j = al := by omega
            have GT := Lib.hid (g_trans (g_trans gA G36.out) hgr)
            clear hgr
            go_wp2_with fail
            refine (decode_all _ 0 a1c L _ (HL.out.keep GT.out) HLL.out (by omega) hnc' hcm).mono ?_
            rintro e w7 ⟨hg7, ⟨r, hr, rfl⟩ | ⟨k', A', B', C', v', m, h1', h2', hok', hEq, rfl, how'⟩⟩
            · have hrb : (r != 0) = true := by simp [hr]
              have g8 := g_alloc (g_refl w7 none) (.cells #[.int .i64 0, .int .i64 0, .int .i64 0, .int .i64 0] 24)
              have ub := Blk.new w7 #[.int .i64 0, .int .i64 0, .int .i64 0, .int .i64 0] 24
              have u0 := ub.cell 0 (.int .i64 0) rfl
              have u1 := ub.cell 1 (.int .i64 0) rfl
              have u2 := ub.cell 2 (.int .i64 0) rfl
              have u3 := ub.cell 3 (.int .i64 0) rfl
              have G8 := Lib.hid (g_trans (g_trans GT.out hg7) g8)
              clear ub hg7 g8
              go_wp2_with fail
              refine (awake_any _).mono ?_
              rintro e w9 ⟨rfl, hg9⟩
              go_wp2_with fail
              go_ret
              exact ⟨rfl, below_gn (Below.refl _ _) (g_trans G8.out hg9) (Nat.le_refl _)⟩
            · have g8 := g_alloc (g_refl w7 none) (.cells #[.int .i64 k', .int .i64 A', .int .i64 B', .int .i64 C'] 24)
              have ub := Blk.new w7 #[.int .i64 k', .int .i64 A', .int .i64 B', .int .i64 C'] 24
              have u0 := ub.cell 0 (.int .i64 k') rfl
              have u1 := ub.cell 1 (.int .i64 A') rfl
              have u2 := ub.cell 2 (.int .i64 B') rfl
              have u3 := ub.cell 3 (.int .i64 C') rfl
              have G8 := Lib.hid (g_trans (g_trans GT.out hg7) g8)
              have HREST := Lib.hid (own_keepn how' g8)
              have HEQ := Lib.hid hEq
              have HEN := Lib.hid (fun w => encode_ok k' h1' h2' A' B' C' w hok')
              clear ub hg7 g8 how' hEq
              go_wp2_with fail
              refine (HEN.out _).mono ?_
              rintro e w8 ⟨y, rfl, howy, hg8⟩
              have s1 := str_own howy
              have s2 := str_own (own_keepn HREST.out hg8)
              have s3 := str_row (c := a1c) (HL.out.keep (g_trans G8.out hg8)) HLL.out
              have hse : strOfNums (encK k' (sA k') (sB k') (sC k') A' B' C' 3) ++ strOfNums (L.drop m) = strOfNums L := by rw [← str_append, HEQ.out]
              have z1 : (strOfNums (encK k' (sA k') (sB k') (sC k') A' B' C' 3)).size ≤ 25 := by rw [strOfNums_size]; exact encK_len _ _ _ _ _ _ _ _
              have z2 : (strOfNums (L.drop m)).size ≤ 20 := by rw [strOfNums_size, List.length_drop]; have := HLL.out; omega
              generalize strOfNums (encK k' (sA k') (sB k') (sC k') A' B' C' 3) = t1 at *
              generalize strOfNums (L.drop m) = t2 at *
              generalize strOfNums L = t3 at *
              subst hse
              have z3 : (t1.size : Int) + t2.size ≤ 9223372036854775807 := by omega
              have htt := tl_self (t1 ++ t2)
              have G9 := Lib.hid (g_trans G8.out hg8)
              clear howy hg8
              go_wp2_with fail
              refine (awake_any _).mono ?_
              rintro e w9 ⟨rfl, hg9⟩
              go_wp2_with fail
              go_ret
              exact ⟨rfl, below_gn (Below.refl _ _) (g_trans G9.out hg9) (Nat.le_refl _)⟩
    · obtain ⟨x0, hx0⟩ : ∃ x0, L[0]? = some x0 := ⟨L[0]'(by rw [HLL.out]; omega), List.getElem?_eq_getElem _⟩
      obtain ⟨_, bb, off, rfl, _⟩ := HL.out 0 x0 hx0
      have hnews2 : ∀ (j : Nat) (u : Value), (byV L)[j]? = some u → w4.cell? ((⟨bb, off, none⟩ : Addr).add j) = some u := fun j u hu => by
        unfold byV at hu
        rw [List.getElem?_map] at hu
        cases hx : L[j]? with
        | none => rw [hx] at hu; cases hu
        | some x =>
          rw [hx] at hu
          cases hu
          obtain ⟨_, b', o', he, hc⟩ := HL.out j x hx
          cases he
          rw [Addr.add_lit]
          exact (g_trans gA g34).cell hc (by simp)
      have hln2 : (byV L).length = n * 1 := by rw [byV_length, HLL.out, Nat.mul_one]
      have HN2 := Lib.hid hnews2
      have HL2 := Lib.hid hln2
      have s34 := g34.size
      clear hnews2 hln2 hx0
      go_wp2_with (at_builtin; refine wpList_append_own _ rfl _ _ 25 rfl w3.heap.size 5 i0 (.int .u8 0) 1 1 Try.underlying25 hi hz0 hz1 hz2 rfl (by decide) _ _ _ rfl HOW4.out ⟨bb, off, none⟩ n a1c (byV L) rfl HL2.out HN2.out ?c2 ?c3 ?c4 ?c5 ?_)
      case c2 => intro u hu; simp [byV] at hu; obtain ⟨a, _, h⟩ := hu; subst h; rfl
      case c3 => unfold maxLen; omega
      case c4 => omega
      case c5 => omega
      intro v5 w5 how5 hg5 _
      have HOW5 : Hid (w5.ownsRow w3.heap.size 5 1 v5 (al + n) (byV (E ++ L))) := Lib.hid (by rw [byV_append]; exact how5)
      have G5 := Lib.hid (g_own2 g34 (Nat.le_refl _) HOW4.out hg5)
      clear how5 hg5 HN2 HL2
      go_wp2_with fail
      have hb5 : ∀ x ∈ E ++ L, 0 ≤ x ∧ x ≤ 255 := fun x hx => by
        rcases List.mem_append.1 hx with h | h
        · exact HEB.out x h
        · obtain ⟨i, hi⟩ := List.mem_iff_getElem?.1 h
          exact (HL.out i x hi).1
      obtain ⟨ao5, c5, rfl, hbr5, hl5, hc5, hcm5, -⟩ := brow_own HOW5.out hb5
      obtain ⟨v0, v1, v2⟩ := hv_enc hok L
      rw [HEE.out] at v0 v1 v2
      have h05 : (E ++ L)[0]? = some (k : Int) := by rw [List.getElem?_append_left (by rw [HAL.out]; exact hal0)]; exact HE0.out
      have hd5 := decode_k ao5 (al + n) c5 (E ++ L) w5 hbr5 hl5 k h1 h2 h05 (by omega) hc5 hcm5
      rw [v0, v1, v2, ← HEL.out] at hd5
      have hdr : (E ++ L).drop al = L := by rw [← HAL.out]; exact List.drop_left' rfl
      rw [hdr] at hd5
      clear v0 v1 v2 hb5 hbr5 hl5 hc5 hcm5 hdr h05
      refine hd5.mono ?_
      rintro e w6 ⟨hg6, ⟨hbad, _⟩ | ⟨_, hbad, _⟩ | ⟨_, _, vr, rfl, howr⟩⟩
      · omega
      · rw [hok] at hbad; cases hbad
      · have g7 := g_alloc (g_refl w6 none) (.cells #[.int .i64 k, .int .i64 a0_1, .int .i64 a0_2, .int .i64 a0_3] 24)
        have ub := Blk.new w6 #[.int .i64 k, .int .i64 a0_1, .int .i64 a0_2, .int .i64 a0_3] 24
        have G36 := Lib.hid (g_trans (g_trans G5.out hg6) g7)
        have ib := HB3.out.keepn G36.out
        have q0 := ub.cell 0 (.int .i64 k) rfl
        have q1 := ub.cell 1 (.int .i64 a0_1) rfl
        have q2 := ub.cell 2 (.int .i64 a0_2) rfl
        have q3 := ub.cell 3 (.int .i64 a0_3) rfl
        have p0 := ib.cell 0 (.int .i64 k) rfl
        have p1 := ib.cell 1 (.int .i64 a0_1) rfl
        have p2 := ib.cell 2 (.int .i64 a0_2) rfl
        have p3 := ib.cell 3 (.int .i64 a0_3) rfl
        have hnn : al + n - al = n := by omega
        rw [hnn] at howr
        have s1 := str_own (own_keepn howr g7)
        have s2 := str_row (c := a1c) (HL.out.keep (g_trans gA G36.out)) HLL.out
        have htt := tl_self (strOfNums L)
        have e0 : ((k : Int) != (k : Int)) = false := by simp
        have e1 : (a0_1 != a0_1) = false := by simp
        have e2 : (a0_2 != a0_2) = false := by simp
        have e3 : (a0_3 != a0_3) = false := by simp
        generalize strOfNums L = tl at *
        clear hd5 hg6 g7 ub ib howr
        go_wp2_with fail
        generalize (w6.alloc (.cells #[.int .i64 k, .int .i64 a0_1, .int .i64 a0_2, .int .i64 a0_3] 24)) = W7 at *
        have HBE7 := Lib.hid (HBE.out.keep G36.out)
        clear q0 q1 q2 q3 p0 p1 p2 p3 s1 s2 htt
        go_loopw [10] (fun i wr => ∃ j : Nat, j ≤ al ∧ i = .int .i64 j ∧ W7.grownBy wr none) (fun i _ => (100 - intOf i).toNat)
        case atStart => exact ⟨0, by omega, rfl, g_refl _ _⟩
        case round =>
          obtain ⟨j, hj, rfl, hgr⟩ := hrel
          by_cases hlt : j < al
          · have hjb : (j : Int) < al := by omega
            have hjc : (j : Int) ≤ cap := by omega
            have hdj : ∀ w, BRow w (some ⟨g, 0, none⟩) E → Calls Try.prog 11 #[.slice (some ⟨g, 0, none⟩) j cap] w fun e w' => e = .returned (.tuple #[.agg #[.int .i64 0, .int .i64 0, .int .i64 0, .int .i64 0], .slice none 0 0, .int .i64 6]) ∧ w.grownBy w' none := fun w hE => by
              by_cases hj0 : j = 0
              · subst hj0
                exact decode_none _ _ w
              · refine (decode_k (some ⟨g, 0, none⟩) j cap (E.take j) w (fun i x hx => ?_) (by rw [List.length_take, HAL.out]; omega) k h1 h2 (by rw [List.getElem?_take_of_lt (by omega)]; exact HE0.out) (by omega) (by omega) hcmE).mono ?_
                · rw [List.getElem?_take] at hx
                  split at hx
                  · exact hE i x hx
                  · cases hx
                · rintro e w' ⟨hg, ⟨_, he⟩ | ⟨hbad, _⟩ | ⟨hbad, _⟩⟩
                  · exact ⟨he, hg⟩
                  · rw [← HEL.out] at hbad; omega
                  · rw [← HEL.out] at hbad; omega
            have HDJ := Lib.hid hdj
            have HGR := Lib.hid hgr
            clear hdj hgr
            go_wp2_with fail
            refine (HDJ.out _ (HBE7.out.keep HGR.out)).mono ?_
            rintro e w8 ⟨rfl, hg8⟩
            have HG8 := Lib.hid (g_alloc (g_trans HGR.out hg8) (.cells #[.int .i64 0, .int .i64 0, .int .i64 0, .int .i64 0] 24))
            clear hg8
            go_wp2_with fail
            go_roundw
            case rel => exact ⟨j + 1, by omega, by go_num, HG8.out⟩
            case measure => simp [intOf]; omega
          · obtain rfl : j = al := by omega
            have GT := Lib.hid (g_trans (g_trans gA G36.out) hgr)
            clear hgr
            go_wp2_with fail
            refine (decode_all _ n a1c L _ (HL.out.keep GT.out) HLL.out (by omega) hnc' hcm).mono ?_
            rintro e w7 ⟨hg7, ⟨r, hr, rfl⟩ | ⟨k', A', B', C', v', m, h1', h2', hok', hEq, rfl, how'⟩⟩
            · have hrb : (r != 0) = true := by simp [hr]
              have g8 := g_alloc (g_refl w7 none) (.cells #[.int .i64 0, .int .i64 0, .int .i64 0, .int .i64 0] 24)
              have ub := Blk.new w7 #[.int .i64 0, .int .i64 0, .int .i64 0, .int .i64 0] 24
              have u0 := ub.cell 0 (.int .i64 0) rfl
              have u1 := ub.cell 1 (.int .i64 0) rfl
              have u2 := ub.cell 2 (.int .i64 0) rfl
              have u3 := ub.cell 3 (.int .i64 0) rfl
              have G8 := Lib.hid (g_trans (g_trans GT.out hg7) g8)
              clear ub hg7 g8
              go_wp2_with fail
              refine (awake_any _).mono ?_
              rintro e w9 ⟨rfl, hg9⟩
              go_wp2_with fail
              go_ret
              exact ⟨rfl, below_gn (Below.refl _ _) (g_trans G8.out hg9) (Nat.le_refl _)⟩
            · have g8 := g_alloc (g_refl w7 none) (.cells #[.int .i64 k', .int .i64 A', .int .i64 B', .int .i64 C'] 24)
              have ub := Blk.new w7 #[.int .i64 k', .int .i64 A', .int .i64 B', .int .i64 C'] 24
              have u0 := ub.cell 0 (.int .i64 k') rfl
              have u1 := ub.cell 1 (.int .i64 A') rfl
              have u2 := ub.cell 2 (.int .i64 B') rfl
              have u3 := ub.cell 3 (.int .i64 C') rfl
              have G8 := Lib.hid (g_trans (g_trans GT.out hg7) g8)
              have HREST := Lib.hid (own_keepn how' g8)
              have HEQ := Lib.hid hEq
              have HEN := Lib.hid (fun w => encode_ok k' h1' h2' A' B' C' w hok')
              clear ub hg7 g8 how' hEq
              go_wp2_with fail
              refine (HEN.out _).mono ?_
              rintro e w8 ⟨y, rfl, howy, hg8⟩
              have s1 := str_own howy
              have s2 := str_own (own_keepn HREST.out hg8)
              have s3 := str_row (c := a1c) (HL.out.keep (g_trans G8.out hg8)) HLL.out
              have hse : strOfNums (encK k' (sA k') (sB k') (sC k') A' B' C' 3) ++ strOfNums (L.drop m) = strOfNums L := by rw [← str_append, HEQ.out]
              have z1 : (strOfNums (encK k' (sA k') (sB k') (sC k') A' B' C' 3)).size ≤ 25 := by rw [strOfNums_size]; exact encK_len _ _ _ _ _ _ _ _
              have z2 : (strOfNums (L.drop m)).size ≤ 20 := by rw [strOfNums_size, List.length_drop]; have := HLL.out; omega
              generalize strOfNums (encK k' (sA k') (sB k') (sC k') A' B' C' 3) = t1 at *
              generalize strOfNums (L.drop m) = t2 at *
              generalize strOfNums L = t3 at *
              subst hse
              have z3 : (t1.size : Int) + t2.size ≤ 9223372036854775807 := by omega
              have htt := tl_self (t1 ++ t2)
              have G9 := Lib.hid (g_trans G8.out hg8)
              clear howy hg8
              go_wp2_with fail
              refine (awake_any _).mono ?_
              rintro e w9 ⟨rfl, hg9⟩
              go_wp2_with fail
              go_ret
              exact ⟨rfl, below_gn (Below.refl _ _) (g_trans G9.out hg9) (Nat.le_refl _)⟩
  · have HNO := Lib.hid hno
    clear hno
    go_enter Try.func4, Try.ntmps4
    go_wp2_with fail
    refine (HCUT.out _).mono ?_
    rintro e w2 ⟨rfl, hg2⟩
    have b2 := HB.out.keepn hg2
    have c0 := b2.cell 0 (.int .i64 a0_0) rfl
    have c1 := b2.cell 1 (.int .i64 a0_1) rfl
    have c2 := b2.cell 2 (.int .i64 a0_2) rfl
    have c3 := b2.cell 3 (.int .i64 a0_3) rfl
    go_wp2_with fail
    refine (HNO.out _).mono ?_
    rintro e w3 ⟨rfl, hg3⟩
    have GT := Lib.hid (g_trans (g_trans g0 hg2) hg3)
    clear c0 c1 c2 c3 b2 hg2 hg3 g0
    go_wp2_with fail
    refine (decode_all _ n a1c L _ (HL.out.keep GT.out) HLL.out (by omega) hnc' hcm).mono ?_
    rintro e w7 ⟨hg7, ⟨r, hr, rfl⟩ | ⟨k', A', B', C', v', m, h1', h2', hok', hEq, rfl, how'⟩⟩
    · have hrb : (r != 0) = true := by simp [hr]
      have g8 := g_alloc (g_refl w7 none) (.cells #[.int .i64 0, .int .i64 0, .int .i64 0, .int .i64 0] 24)
      have ub := Blk.new w7 #[.int .i64 0, .int .i64 0, .int .i64 0, .int .i64 0] 24
      have u0 := ub.cell 0 (.int .i64 0) rfl
      have u1 := ub.cell 1 (.int .i64 0) rfl
      have u2 := ub.cell 2 (.int .i64 0) rfl
      have u3 := ub.cell 3 (.int .i64 0) rfl
      have G8 := Lib.hid (g_trans (g_trans GT.out hg7) g8)
      clear ub hg7 g8
      go_wp2_with fail
      refine (awake_any _).mono ?_
      rintro e w9 ⟨rfl, hg9⟩
      go_wp2_with fail
      go_ret
      exact ⟨rfl, below_gn (Below.refl _ _) (g_trans G8.out hg9) (Nat.le_refl _)⟩
    · have g8 := g_alloc (g_refl w7 none) (.cells #[.int .i64 k', .int .i64 A', .int .i64 B', .int .i64 C'] 24)
      have ub := Blk.new w7 #[.int .i64 k', .int .i64 A', .int .i64 B', .int .i64 C'] 24
      have u0 := ub.cell 0 (.int .i64 k') rfl
      have u1 := ub.cell 1 (.int .i64 A') rfl
      have u2 := ub.cell 2 (.int .i64 B') rfl
      have u3 := ub.cell 3 (.int .i64 C') rfl
      have G8 := Lib.hid (g_trans (g_trans GT.out hg7) g8)
      have HREST := Lib.hid (own_keepn how' g8)
      have HEQ := Lib.hid hEq
      have HEN := Lib.hid (fun w => encode_ok k' h1' h2' A' B' C' w hok')
      clear ub hg7 g8 how' hEq
      go_wp2_with fail
      refine (HEN.out _).mono ?_
      rintro e w8 ⟨y, rfl, howy, hg8⟩
      have s1 := str_own howy
      have s2 := str_own (own_keepn HREST.out hg8)
      have s3 := str_row (c := a1c) (HL.out.keep (g_trans G8.out hg8)) HLL.out
      have hse : strOfNums (encK k' (sA k') (sB k') (sC k') A' B' C' 3) ++ strOfNums (L.drop m) = strOfNums L := by rw [← str_append, HEQ.out]
      have z1 : (strOfNums (encK k' (sA k') (sB k') (sC k') A' B' C' 3)).size ≤ 25 := by rw [strOfNums_size]; exact encK_len _ _ _ _ _ _ _ _
      have z2 : (strOfNums (L.drop m)).size ≤ 20 := by rw [strOfNums_size, List.length_drop]; have := HLL.out; omega
      generalize strOfNums (encK k' (sA k') (sB k') (sC k') A' B' C' 3) = t1 at *
      generalize strOfNums (L.drop m) = t2 at *
      generalize strOfNums L = t3 at *
      subst hse
      have z3 : (t1.size : Int) + t2.size ≤ 9223372036854775807 := by omega
      have htt := tl_self (t1 ++ t2)
      have G9 := Lib.hid (g_trans G8.out hg8)
      clear howy hg8
      go_wp2_with fail
      refine (awake_any _).mono ?_
      rintro e w9 ⟨rfl, hg9⟩
      go_wp2_with fail
      go_ret
      exact ⟨rfl, below_gn (Below.refl _ _) (g_trans G9.out hg9) (Nat.le_refl _)⟩
end Go.Proofs.Ytcjeiafhcpgaoaa
