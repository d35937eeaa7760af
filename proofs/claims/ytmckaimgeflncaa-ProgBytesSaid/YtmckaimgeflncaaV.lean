/- The document's bytes: wide, put, Encode. -/
import Derived.Test.YtmckaimgeflncaaT
import Derived.Deep.RegionHeld3
namespace Go.Proofs.Ytmckaimgeflncaa
open Go.RowKit
set_option linter.unusedVariables false


theorem step_append_own {P : Program} {w : World} {ops : Array Oper} {o : Oper} {a : Act} {K : Act → World → Prop} {Q : Exit → Act → World → Prop} {E : Prop} (hgd : o.guard = none) (s x : Operand) (t : TypeId)
    (ho : o.op = .call { callee := .builtin .append, args := #[s, x], argTypes := #[t, t] })
    (base : Nat) (e : TypeId) (i : TypeInfo) (z : Value) (size bytes : Nat) (ht : P.underlying t = some (.slice e)) (hi : P.info? e = some i) (hz : i.zero = some z)
    (hsize : i.size = size) (hby : i.bytes = bytes) (hzs : z.cells.size = size) (hsz : 0 < size)
    (v : Value) (n : Nat) (xs : List Value) (hs : a.eval s = v) (hown : w.ownsRow base e size v n xs)
    (ad : Addr) (m c : Nat) (news : List Value) (hx : a.eval x = .slice (some ad) m c) (hl : news.length = m * size) (hnews : ∀ j u, news[j]? = some u → w.cell? (ad.add j) = some u) (h1 : ∀ u ∈ news, u.oneCell' = true)
    (h63 : n + m ≤ maxLen) (hbytes : (n + m) * bytes ≤ 140737488355328) (hbase : base ≤ w.heap.size)
    (h : ∀ v' w', w'.ownsRow base e size v' (n + m) (xs ++ news) → w.grownBy w' v.ownBlock → K (a.put o.dst v') w') :
    if Region.wanted o (yielded ops a.tmps) = true then Oper.wp P o a w K Q else E := by
  have hw : Region.wanted o (yielded ops a.tmps) = true := by simp [Region.wanted, hgd]
  rw [if_pos hw]
  exact wp_append_own w s x t ho base e i z size bytes ht hi hz hsize hby hzs hsz v n xs hs hown ad m c news hx hl hnews h1 h63 hbytes hbase fun v' w' h2 h3 _ => h v' w' h2 h3

set_option maxHeartbeats 800000 in
theorem rwide_any (s : Int) (hs : 0 ≤ s ∧ s ≤ 6) (w : World) : Calls Try.prog 36 #[.int .i64 s] w fun e w' => e = .returned (.int .i64 (wdN s)) ∧ w.grownBy w' none := by
  have hcs : s = 0 ∨ s = 1 ∨ s = 2 ∨ s = 3 ∨ s = 4 ∨ s = 5 ∨ s = 6 := by omega
  clear hs
  rcases hcs with rfl | rfl | rfl | rfl | rfl | rfl | rfl
  all_goals
    go_enter Try.func36, Try.ntmps36
    go_wp2_with fail
    go_ret
    exact ⟨rfl, g_refl _ _⟩

theorem be_get (m : Nat) (n : Int) : ∀ j, j < m → (be m n)[j]? = some (n % 18446744073709551616 / 256 ^ (m - 1 - j) % 256) := by
  induction m with
  | zero => intro j hj; omega
  | succ m ih =>
    intro j hj
    cases j with
    | zero => rfl
    | succ j =>
      show (be m n)[j]? = _
      rw [ih j (by omega), show m + 1 - 1 - (j + 1) = m - 1 - j by omega]

set_option maxHeartbeats 1600000 in
theorem put_any (n : Int) (size : Nat) (hs : size ≤ 8) (w : World) :
    Calls Try.prog 35 #[.int .i64 n, .int .i64 size] w fun e w' => ∃ g, e = .returned (.slice (some ⟨g, 0, none⟩) size size) ∧ w.heap.size ≤ g ∧ (∀ (j : Nat) (u : Value), (byV (be size n))[j]? = some u → w'.cell? ((⟨g, 0, none⟩ : Addr).add j) = some u) ∧ w.grownBy w' none := by
  obtain ⟨i0, hi, hz0, hz1, hz2⟩ := info_parts info5
  have hmk := run_make (P := Try.prog) w 23 5 i0 _ Try.underlying23 hi hz0 .i64 .i64 size size (by omega) (Int.le_refl _) (by rw [hz2]; omega) (by omega)
  simp only [Int.toNat_natCast, hz1, Value.cells, Nat.mul_one] at hmk
  have gk := g_alloc (g_refl w none) (.cells (madeCells #[.int .u8 0] size) 5)
  have hbk := Blk.new w (madeCells #[.int .u8 0] size) 5
  have hU : IntKind.u64.wrap n = n % 18446744073709551616 := IntKind.wrap_u64 n
  obtain ⟨U, hUU⟩ : ∃ U, IntKind.u64.wrap n = U := ⟨_, rfl⟩
  have hU0 : 0 ≤ U := by rw [← hUU, hU]; omega
  have hU1 : U < 18446744073709551616 := by rw [← hUU, hU]; omega
  have HU := Lib.hid (hUU.symm.trans hU)
  have hab : ABlk (w.alloc (.cells (madeCells #[.int .u8 0] size) 5)) w.heap.size 5 size (fun j => .int .u8 (if j < size then 0 else U / 256 ^ (size - 1 - j) % 256)) := ABlk.of hbk (size_madeCells _ _) (fun i hi => by
    rw [if_pos hi]
    simp [madeCells, hi, Nat.mod_one])
  have HAB := Lib.hid hab
  have hszi : (size : Int) ≤ 8 := by omega
  clear hab hbk hU
  go_enter Try.func35, Try.ntmps35
  go_wp2_with fail
  generalize (w.alloc (.cells (madeCells #[.int .u8 0] size) 5)) = W2 at *
  clear hmk
  go_loopw [6, 7] (fun u i wr => ∃ (m : Nat) (y : Int), m ≤ size ∧ y = (m : Int) - 1 ∧ i = .int .i64 y ∧ u = .int .u64 (U / 256 ^ (size - m)) ∧ ABlk wr w.heap.size 5 size (fun j => .int .u8 (if j < m then 0 else U / 256 ^ (size - 1 - j) % 256)) ∧ W2.grownBy wr (some w.heap.size)) (fun _ i _ => (intOf i + 1).toNat)
  case atStart => exact ⟨size, _, Nat.le_refl _, rfl, by go_num, by rw [Nat.sub_self]; simp, HAB.out, g_refl _ _⟩
  case round =>
    obtain ⟨m, y, hm, hy, rfl, rfl, hab, hgr⟩ := hrel
    rcases m with _ | m
    · obtain rfl : y = -1 := by omega
      have HABR := Lib.hid hab
      have HGR := Lib.hid hgr
      clear hab hgr HAB hy
      go_wp2_with fail
      go_ret
      refine ⟨_, rfl, Nat.le_refl _, fun j u hu => ?_, g_in gk HGR.out (Nat.le_refl _)⟩
      unfold byV at hu
      rw [List.getElem?_map] at hu
      cases hx : (be size n)[j]? with
      | none => rw [hx] at hu; cases hu
      | some x =>
        rw [hx] at hu
        cases hu
        have hj : j < size := by
          have := (List.getElem?_eq_some_iff.1 hx).1
          rwa [be_length] at this
        have h2 := HABR.out.cell j hj
        rw [if_neg (by omega)] at h2
        rw [be_get _ _ _ hj] at hx
        cases hx
        rw [Addr.add_lit, Nat.zero_add, h2, HU.out]
    · obtain rfl : y = (m : Int) := by omega
      have hv0 : 0 ≤ U / 256 ^ (size - (m + 1)) := Int.ediv_nonneg hU0 (Int.le_of_lt (Int.pow_pos (by decide)))
      have hv1 : U / 256 ^ (size - (m + 1)) < 18446744073709551616 := Int.lt_of_le_of_lt (Int.ediv_le_self _ hU0) hU1
      have hnext : U / 256 ^ (size - (m + 1)) / 256 = U / 256 ^ (size - m) := by
        rw [Int.ediv_ediv_of_nonneg (Int.le_of_lt (Int.pow_pos (by decide))), ← Int.pow_succ, show (size - (m + 1)).succ = size - m by omega]
      obtain ⟨V, hV⟩ : ∃ V, U / 256 ^ (size - (m + 1)) = V := ⟨_, rfl⟩
      rw [hV] at hv0 hv1 hnext ⊢
      have hmod : V.tmod 256 = V % 256 := Int.tmod_eq_emod_of_nonneg hv0
      have hdiv : V.tdiv 256 = V / 256 := Int.tdiv_eq_ediv_of_nonneg hv0
      have hwb : IntKind.u8.wrap (V % 256) = V % 256 := by rw [IntKind.wrap_u8]; omega
      have hmz : (m : Int) < size := by omega
      have hc := hab.cell m (by omega)
      have hf := hab.free m
      have HABR := Lib.hid hab
      have HGR := Lib.hid hgr
      have HV := Lib.hid hV
      have HNX := Lib.hid hnext
      clear hab hgr HAB hy hV hnext
      go_wp2_with fail
      have hab8 := (HABR.out.set m (.int .u8 (V % 256))).congr (G := fun j => .int .u8 (if j < m then 0 else U / 256 ^ (size - 1 - j) % 256)) (fun j hj => by
        by_cases e : j = m
        · subst e
          rw [if_pos rfl, if_neg (by omega), ← HV.out, show size - (j + 1) = size - 1 - j by omega]
        · rw [if_neg e]
          by_cases e2 : j < m
          · rw [if_pos (by omega), if_pos e2]
          · rw [if_neg (by omega), if_neg e2])
      have kst := g_set HGR.out (p := ⟨w.heap.size, m, none⟩) (.inl rfl) (.int .u8 (V % 256))
      go_roundw
      case rel => exact ⟨m, _, by omega, rfl, rfl, by rw [← HNX.out], hab8, kst⟩
      case measure => simp [intOf]

end Go.Proofs.Ytmckaimgeflncaa

