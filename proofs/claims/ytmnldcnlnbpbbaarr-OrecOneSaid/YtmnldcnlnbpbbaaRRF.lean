/- The law OrecOne. -/
import Derived.Test.YtmnldcnlnbpbbaaRRE
import Derived.Deep.DeepCutAuto
import Derived.Deep.CutBlock
namespace Go.Proofs.YtmnldcnlnbpbbaaRR
open Go.RowKit
set_option linter.unusedVariables false

/-- by whom each record is held: a cell of the law's own row -/
def bF (W T : Nat → Int) : Nat → Value := fun j => if W (j / 3) % 4 = 0 then .int .i64 0 else if j % 3 = 0 then .int .i64 (W (j / 3) % 4) else if j % 3 = 1 then .int .i64 (W (j / 3) / 4) else .int .i64 (T (j / 3))
theorem bF_upd {W T : Nat → Int} {k : Nat} {v y : Int} {A B C : Value} (hz : v % 4 = 0 → A = .int .i64 0 ∧ B = .int .i64 0 ∧ C = .int .i64 0) (hn : ¬ v % 4 = 0 → A = .int .i64 (v % 4) ∧ B = .int .i64 (v / 4) ∧ C = .int .i64 y) (j : Nat) :
    (if j = k * 3 + 2 then C else if j = k * 3 + 1 then B else if j = k * 3 then A else bF W T j) = bF (upd W k v) (upd T k y) j := by
  unfold bF upd
  by_cases e : j / 3 = k
  · simp only [e, if_true]
    by_cases h : v % 4 = 0
    · obtain ⟨rfl, rfl, rfl⟩ := hz h
      rw [if_pos h]
      split
      · rfl
      · split
        · rfl
        · rw [if_pos (by omega)]
    · obtain ⟨rfl, rfl, rfl⟩ := hn h
      rw [if_neg h]
      by_cases e2 : j = k * 3 + 2
      · rw [if_pos e2, if_neg (by omega), if_neg (by omega)]
      · rw [if_neg e2]
        by_cases e1 : j = k * 3 + 1
        · rw [if_pos e1, if_neg (by omega), if_pos (by omega)]
        · rw [if_neg e1, if_pos (by omega), if_pos (by omega)]
  · rw [if_neg (by omega), if_neg (by omega), if_neg (by omega), if_neg e, if_neg e]
theorem bF_same {W T : Nat → Int} {k : Nat} {v y : Int} (h0 : W k % 4 = 0) (h1 : v % 4 = 0) (j : Nat) : bF W T j = bF (upd W k v) (upd T k y) j := by
  unfold bF upd
  by_cases e : j / 3 = k
  · simp only [e, if_true]
    rw [if_pos h0, if_pos h1]
  · rw [if_neg e, if_neg e]

/-- what all records are -/
def Good (W T : Nat → Int) (m : Nat) : Prop := ∀ i, okW (W i) ∧ W i < 4611686018427387904 ∧ 0 ≤ T i ∧ T i ≤ m
theorem Good.zero : Good (fun _ => 0) (fun _ => 0) 0 := fun i => by
  have h : okW 0 := by unfold okW; decide
  exact ⟨h, by show (0 : Int) < _; decide, Int.le_refl _, Int.le_refl _⟩
theorem Good.mono {W T : Nat → Int} {m m' : Nat} (h : Good W T m) (hm : m ≤ m') : Good W T m' := fun i => ⟨(h i).1, (h i).2.1, (h i).2.2.1, by have := (h i).2.2.2; omega⟩
theorem Good.upd {W T : Nat → Int} {m k : Nat} {v y : Int} (h : Good W T m) (hv : okW v) (hb : v < 4611686018427387904) (hy : 0 ≤ y ∧ y ≤ m + 1) : Good (upd W k v) (upd T k y) (m + 1) := fun i => by
  unfold Proofs.YtmnldcnlnbpbbaaRR.upd
  by_cases e : i = k
  · rw [if_pos e, if_pos e]; exact ⟨hv, hb, hy.1, by omega⟩
  · rw [if_neg e, if_neg e]; exact h.mono (Nat.le_succ m) i
theorem upd_self (T : Nat → Int) (k : Nat) : upd T k (T k) = T := by
  funext j; unfold upd; split
  · rename_i e; rw [e]
  · rfl

theorem at_v {b g n i : Nat} {W T : Nat → Int} {w : World} {z y zz zq : Int} (h : Tb w b g n W T) (hi : i < n) (hn : n < 4000) (hz : W i = z) (hy : T i = y) (h1 : z % 4 = zz) (h2 : z / 4 = zq) (hok : okW (W i)) (hb : W i < 4611686018427387904) :
    Calls Try.prog 12 #[.pointer (some ⟨b, 0, none⟩), .int .i64 i] w fun e w' => e = .returned (.agg #[.int .i64 zz, .int .i64 zq, .int .i64 y]) ∧ w.grownBy w' none := by
  subst hz hy h1 h2
  exact at_any b g n W T w h i hi hn hok hb

set_option maxRecDepth 100000 in
set_option maxHeartbeats 6400000 in
theorem walk_OrecOne (a0 : Int) (a1 : Option Addr) (a1n a1c : Nat) (w : World) (w0 : (Lit.int .u8 a0).wf = true) (w1 : Vec w a1 a1n a1c 8 (Q45)) :
    Calls Try.prog 4 #[.int .u8 a0, .slice a1 a1n a1c] w fun e w' => e = .returned (.bool true) ∧ Below w.heap.size w w' := by
  have hm0 : a1n ≤ 9223372036854775807 := by have := w1.1; have := w1.2.1; unfold maxLen at this; omega
  have hx : 0 ≤ a0 ∧ a0 ≤ 255 := by simpa [Lit.wf, IntKind.min, IntKind.max, IntKind.signed, IntKind.bits] using w0
  obtain ⟨hx0, hx1⟩ := hx
  have hmod : a0.tmod 8 = a0 % 8 := Int.tmod_eq_emod_of_nonneg hx0
  obtain ⟨n, hn⟩ : ∃ n : Nat, (n : Int) = 1 + a0 % 8 := ⟨(1 + a0 % 8).toNat, by omega⟩
  have hn' : 1 + a0 % 8 = n := hn.symm
  have hn1 : 0 < n := by omega
  have hn8 : n ≤ 8 := by omega
  clear hn w0
  go_enter Try.func4, Try.ntmps4
  go_wp2_with fail
  refine (new_any n _ hn1 (by omega)).mono ?_
  rintro e w2 ⟨b, g, rfl, hlb, hlg, h2, hg2⟩
  have H2 := Lib.hid h2
  have lg := h2.2.1.lt
  have lb := h2.1.lt
  have hbg := h2.2.2
  clear h2
  go_wp2_with fail
  refine (awake_any _).mono ?_
  rintro e w3 ⟨rfl, hg3⟩
  have H3 := Lib.hid (H2.out.keep hg3)
  have s3 := hg3.size
  have gA := g_trans hg2 hg3
  clear hmod hn' H2
  go_wp2_with fail
  have gb := g_alloc (g_refl w3 none) (.cells #[.int .i64 0, .int .i64 0, .int .i64 0, .int .i64 0, .int .i64 0, .int .i64 0, .int .i64 0, .int .i64 0, .int .i64 0, .int .i64 0, .int .i64 0, .int .i64 0, .int .i64 0, .int .i64 0, .int .i64 0, .int .i64 0, .int .i64 0, .int .i64 0, .int .i64 0, .int .i64 0, .int .i64 0, .int .i64 0, .int .i64 0, .int .i64 0] 41)
  have hby0 : ABlk (w3.alloc (.cells #[.int .i64 0, .int .i64 0, .int .i64 0, .int .i64 0, .int .i64 0, .int .i64 0, .int .i64 0, .int .i64 0, .int .i64 0, .int .i64 0, .int .i64 0, .int .i64 0, .int .i64 0, .int .i64 0, .int .i64 0, .int .i64 0, .int .i64 0, .int .i64 0, .int .i64 0, .int .i64 0, .int .i64 0, .int .i64 0, .int .i64 0, .int .i64 0] 41)) w3.heap.size 41 24 (bF (fun _ => 0) (fun _ => 0)) :=
    ABlk.of (Blk.new w3 (Array.replicate 24 (.int .i64 0)) 41) (by simp) (fun i hi => by rw [Array.getElem?_replicate, if_pos hi]; rfl)
  have H4 := Lib.hid (H3.out.keep gb)
  have BY := Lib.hid hby0
  have BL := Lib.hid (below_gn (Below.refl w.heap.size w) (g_trans gA gb) (Nat.le_refl _))
  have s4 := gb.size
  have lbb := hby0.lt
  generalize (w3.alloc (.cells #[.int .i64 0, .int .i64 0, .int .i64 0, .int .i64 0, .int .i64 0, .int .i64 0, .int .i64 0, .int .i64 0, .int .i64 0, .int .i64 0, .int .i64 0, .int .i64 0, .int .i64 0, .int .i64 0, .int .i64 0, .int .i64 0, .int .i64 0, .int .i64 0, .int .i64 0, .int .i64 0, .int .i64 0, .int .i64 0, .int .i64 0, .int .i64 0] 41)) = W4 at *
  clear hby0 gb H3 gA
  go_loopw [9] (fun i wr => ∃ (m : Nat) (W T : Nat → Int), m ≤ a1n ∧ m ≤ 60 ∧ i = .int .i64 m ∧ Tb wr b g n W T ∧ ABlk wr w3.heap.size 41 24 (bF W T) ∧ Good W T m ∧ Below w.heap.size w wr) (fun i _ => (300 - intOf i).toNat)
  case atStart => exact ⟨0, _, _, by omega, by omega, rfl, H4.out, BY.out, Good.zero, BL.out⟩
  case round =>
    clear H4 BY BL
    obtain ⟨m, W, T, hm, hm2, rfl, htb, hby, hgood, hbl⟩ := hrel
    by_cases hgo : m < a1n ∧ m < 60
    · obtain ⟨hlt, hlt2⟩ := hgo
      obtain ⟨vb, off, cs, rfl, hcl, ⟨d, x, nn, bK, bN, bI, rK, rN, rfl, hwd, hwx, hwn, _⟩, hcell⟩ := w1.2.2 m hlt
      have hck := vec_cell hbl hcell
      have hxb : -9223372036854775808 ≤ x ∧ x ≤ 9223372036854775807 := by simpa [Lit.wf, IntKind.min, IntKind.max, IntKind.signed, IntKind.bits] using hwx
      have q0 := hck 0 _ rfl
      have q1 := hck 1 _ rfl
      have q2 := hck 2 _ rfl
      have q3 := hck 3 _ rfl
      have q4 := hck 4 _ rfl
      have q5 := hck 5 _ rfl
      have q6 := hck 6 _ rfl
      have q7 := hck 7 _ rfl
      simp only [Nat.add_zero] at q0
      have HT := Lib.hid htb
      have HBY := Lib.hid hby
      have HG := Lib.hid hgood
      have HBL := Lib.hid hbl
      have hsz := hbl.size
      have ltb := htb.1.lt
      have ltg := htb.2.1.lt
      have ltby := hby.lt
      clear hcl hcell hck hwd hwx hwn htb hby hgood hbl
      obtain ⟨wo, hwo⟩ : ∃ wo : World, wo = wr := ⟨_, rfl⟩
      rw [← hwo] at HT HBY HBL hsz ltb ltg ltby q0 q1 q2 q3 q4 q5 q6 q7 ⊢
      clear hwo
      have hnz : ¬ (n : Int) = 0 := by omega
      obtain ⟨k, hk, hkn⟩ : ∃ k : Nat, wrap64 ((IntKind.u64.wrap x).tmod (n : Int)) = (k : Int) ∧ k < n := by
        have hu : 0 ≤ IntKind.u64.wrap x := by rw [IntKind.wrap_u64]; omega
        have hr := Int.tmod_eq_emod_of_nonneg (b := (n : Int)) hu
        have h1 := Int.emod_nonneg (IntKind.u64.wrap x) hnz
        have h2 := Int.emod_lt_of_pos (IntKind.u64.wrap x) (show (0 : Int) < n by omega)
        rw [hr]
        refine ⟨(IntKind.u64.wrap x % (n : Int)).toNat, ?_, by omega⟩
        generalize IntKind.u64.wrap x % (n : Int) = r at *
        unfold wrap64
        omega
      have gW := g_alloc (g_refl wo none) (.cells #[.int .i64 d, .int .i64 x, .int .i64 nn, .int .i64 bK, .int .i64 bN, .int .i64 bI, .int .i64 rK, .int .i64 rN] 46)
      have ob := Blk.new wo #[.int .i64 d, .int .i64 x, .int .i64 nn, .int .i64 bK, .int .i64 bN, .int .i64 bI, .int .i64 rK, .int .i64 rN] 46
      have tb5 := HT.out.keep gW
      have by5 := HBY.out.keepn gW
      have bl5 := below_gn HBL.out gW (by omega)
      have s5 := gW.size
      obtain ⟨hokz, hltz, hy0, hy1⟩ := HG.out k
      obtain ⟨z, hz⟩ : ∃ z, W k = z := ⟨_, rfl⟩
      obtain ⟨y, hy⟩ : ∃ y, T k = y := ⟨_, rfl⟩
      obtain ⟨zz, hzz⟩ : ∃ zz, z % 4 = zz := ⟨_, rfl⟩
      obtain ⟨zq, hzq⟩ : ∃ zq, z / 4 = zq := ⟨_, rfl⟩
      have o0 := ob.cell 0 (.int .i64 d) rfl
      have o1 := ob.cell 1 (.int .i64 x) rfl
      have o2 := ob.cell 2 (.int .i64 nn) rfl
      have o3 := ob.cell 3 (.int .i64 bK) rfl
      have o4 := ob.cell 4 (.int .i64 bN) rfl
      have o5 := ob.cell 5 (.int .i64 bI) rfl
      have hok0 : okR 0 zq 0 := by
        have := hokz.2
        rw [hz, hzz, hzq] at this
        unfold okR at this ⊢
        omega
      rw [hy] at hy0 hy1
      rw [hz] at hltz
      have c0 := by5.cell (k * 3) (by omega)
      have c1 := by5.cell (k * 3 + 1) (by omega)
      have c2 := by5.cell (k * 3 + 2) (by omega)
      unfold bF at c0 c1 c2
      rw [show k * 3 / 3 = k by omega, hz, hzz, hzq, hy] at c0
      rw [show (k * 3 + 1) / 3 = k by omega, hz, hzz, hzq, hy] at c1
      rw [show (k * 3 + 2) / 3 = k by omega, hz, hzz, hzq, hy] at c2
      have HTB := Lib.hid tb5
      have HBY5 := Lib.hid by5
      have HBL5 := Lib.hid bl5
      have HOB := Lib.hid ob
      have HZ := Lib.hid hz
      have HY := Lib.hid hy
      have HZZ := Lib.hid hzz
      have HZQ := Lib.hid hzq
      have HOKZ := Lib.hid hokz
      have HOK0 := Lib.hid hok0
      clear tb5 by5 bl5 ob hz hy hzz hzq hokz hok0 HT HBY HBL gW
      by_cases hheld : zz = 0
      · rw [if_pos hheld] at c0 c1 c2
        subst hheld
        have hfd := field0
        go_upto_block 2 with fail
        simp only [hk]
        generalize (wo.alloc (.cells #[.int .i64 d, .int .i64 x, .int .i64 nn, .int .i64 bK, .int .i64 bN, .int .i64 bI, .int .i64 rK, .int .i64 rN] 46)) = W5 at *
        go_cut [9] (fun s9 wx => ∃ (W' T' : Nat → Int), s9 = .int .i64 m ∧ Tb wx b g n W' T' ∧ ABlk wx w3.heap.size 41 24 (bF W' T') ∧ Good W' T' (m + 1) ∧ Below w.heap.size w wx)
        case first =>
          by_cases d1 : d = 1
          · subst d1
            go_wp2_with fail
            refine (at_v HTB.out hkn (by omega) HZ.out HY.out HZZ.out HZQ.out HOKZ.out (by rw [HZ.out]; omega)).mono ?_
            rintro e w6 ⟨rfl, hg6⟩
            have gw := g_alloc (g_refl w6 none) (.cells #[.int .i64 0, .int .i64 zq, .int .i64 y] 24)
            have wb := Blk.new w6 #[.int .i64 0, .int .i64 zq, .int .i64 y] 24
            have w0' := wb.cell 0 (.int .i64 0) rfl
            have w1' := wb.cell 1 (.int .i64 zq) rfl
            have w2' := wb.cell 2 (.int .i64 y) rfl
            have g7 := g_trans hg6 gw
            have o3 := (HOB.out.keepn g7).cell 3 (.int .i64 bK) rfl
            have o4 := (HOB.out.keepn g7).cell 4 (.int .i64 bN) rfl
            have o5 := (HOB.out.keepn g7).cell 5 (.int .i64 bI) rfl
            have HT7 := Lib.hid (HTB.out.keep g7)
            have s7 := g7.size
            have HWB := Lib.hid wb
            clear wb
            by_cases hR : okR bK bN bI
            · by_cases hK : bK = 0
              · subst hK
                have HRR := Lib.hid hR
                clear hR
                go_wp2_with fail
                refine (take_b b g n _ _ _ HT7.out k hkn (by omega) zq 0 bN bI HOK0.out HRR.out rfl).mono ?_
                rintro e w8 ⟨rfl, hg8⟩
                go_wp2_with fail
                go_meet
                case rel => exact ⟨W, T, rfl, HT7.out.keep hg8, (HBY5.out.keepn g7).keepn hg8, HG.out.mono (Nat.le_succ m), below_gn (below_gn HBL5.out g7 (by omega)) hg8 (by omega)⟩
              · obtain ⟨hw1, hw2, hw3, hw4, hw5⟩ := okW_word hR
                have HRR := Lib.hid hR
                have HKK := Lib.hid hK
                have HW1 := Lib.hid hw1
                have HW2 := Lib.hid hw2
                have HW3 := Lib.hid hw3
                have ebK : (bK != bK) = false := by simp
                have ebN : (bN != bN) = false := by simp
                have ey : (y + 1 != y + 1) = false := by simp
                clear hR hK hw1 hw2 hw3
                go_wp2_with fail
                have hz4 : W k = 4 * zq := by have := HZ.out; have := HZZ.out; have := HZQ.out; omega
                refine (take_hit b g n _ _ _ HT7.out k hkn (by omega) zq bK bN bI HOK0.out hz4 HRR.out HKK.out (by rw [HY.out]; omega)).mono ?_
                rw [HY.out]
                rintro e w8 ⟨rfl, ht8, hg8⟩
                clear hz4
                have nb1 : w3.heap.size ≠ g := by omega
                have nb2 : wo.heap.size ≠ g := by omega
                have nb3 : w6.heap.size ≠ g := by have := hg6.size; omega
                have HBY8 := Lib.hid ((HBY5.out.keepn g7).keeps hg8 nb1)
                have HBL8 := Lib.hid (below_gs (below_gn HBL5.out g7 (by omega)) hg8 (by omega) hlg)
                have HT8 := Lib.hid ht8
                have HOB8 := Lib.hid ((HOB.out.keepn g7).keeps hg8 nb2)
                have HWB8 := Lib.hid (HWB.out.keeps hg8 nb3)
                have HG8 := Lib.hid (HG.out.upd (k := k) (v := 4 * bN + bK) (y := y + 1) HW1.out hw5 (by omega))
                have s8 := hg8.size
                clear ht8 o3 o4 o5 w0' w1' w2' hg8
                have x3 := HOB8.out.cell 3 (.int .i64 bK) rfl
                have x4 := HOB8.out.cell 4 (.int .i64 bN) rfl
                have x5 := HOB8.out.cell 5 (.int .i64 bI) rfl
                have w2' := HWB8.out.cell 2 (.int .i64 y) rfl
                have HAT := Lib.hid (fun w (h : Tb w b g n (upd W k (4 * bN + bK)) (upd T k (y + 1))) => at_v h hkn (by omega) (z := 4 * bN + bK) (y := y + 1) (by unfold upd; rw [if_pos rfl]) (by unfold upd; rw [if_pos rfl]) HW2.out HW3.out (by unfold upd; rw [if_pos rfl]; exact HW1.out) (by unfold upd; rw [if_pos rfl]; exact hw5))
                go_wp2_with fail
                have l3 := fun X : GW w8 => X.cell x3
                have l4 := fun X : GW w8 => X.cell x4
                have l5 := fun X : GW w8 => X.cell w2'
                refine wp_region_gw (by kernel_rfl) (by kernel_rfl) ?_
                repeat (go_big_quiet_step (first | (go_at_call 12; exact quiet_g (HAT.out _ (HT8.out.keep (GW.g _))))))
                refine wpQuiet_nil ?_
                intro _ hw'
                obtain ⟨X9, hw''⟩ := hw'
                subst hw''
                have hg9 := X9.g
                generalize X9.w = w9 at *
                have HT9 := Lib.hid (HT8.out.keep hg9)
                have HBY9 := Lib.hid (HBY8.out.keepn hg9)
                have HBL9 := Lib.hid (below_gn HBL8.out hg9 (by omega))
                have HOB9 := Lib.hid (HOB8.out.keepn hg9)
                have HWB9 := Lib.hid (HWB8.out.keepn hg9)
                have s9 := hg9.size
                clear hg9 x3 x4 x5 w2'
                have x3 := HOB9.out.cell 3 (.int .i64 bK) rfl
                have x4 := HOB9.out.cell 4 (.int .i64 bN) rfl
                have x5 := HOB9.out.cell 5 (.int .i64 bI) rfl
                have w2' := HWB9.out.cell 2 (.int .i64 y) rfl
                go_wp2_with fail
                refine (at_v HT9.out hkn (by omega) (z := 4 * bN + bK) (y := y + 1) (by unfold upd; rw [if_pos rfl]) (by unfold upd; rw [if_pos rfl]) HW2.out HW3.out (by unfold upd; rw [if_pos rfl]; exact HW1.out) (by unfold upd; rw [if_pos rfl]; exact hw5)).mono ?_
                rintro e wa ⟨rfl, hga⟩
                have HTa := Lib.hid (HT9.out.keep hga)
                have HBYa := Lib.hid (HBY9.out.keepn hga)
                have HBLa := Lib.hid (below_gn HBL9.out hga (by omega))
                have sa := hga.size
                clear hga x3 x4 x5 w2'
                have b0 := HBYa.out.cell (k * 3) (by omega)
                have b1 := HBYa.out.cell (k * 3 + 1) (by omega)
                have b2 := HBYa.out.cell (k * 3 + 2) (by omega)
                have f0 := HBYa.out.free (k * 3)
                have f1 := HBYa.out.free (k * 3 + 1)
                have f2 := HBYa.out.free (k * 3 + 2)
                have kst := g_set (g_set (g_set (g_refl wa (some w3.heap.size)) (p := ⟨w3.heap.size, k * 3, none⟩) (.inl rfl) (.int .i64 bK)) (p := ⟨w3.heap.size, k * 3 + 1, none⟩) (.inl rfl) (.int .i64 bN)) (p := ⟨w3.heap.size, k * 3 + 2, none⟩) (.inl rfl) (.int .i64 (y + 1))
                have HTb := Lib.hid (HTa.out.keeps kst (by omega) (by omega))
                have HBLb := Lib.hid (below_gs HBLa.out kst (by omega) (by have := hlb; omega))
                have HBYb := Lib.hid ((((HBYa.out.set (k * 3) (.int .i64 bK)).set (k * 3 + 1) (.int .i64 bN)).set (k * 3 + 2) (.int .i64 (y + 1))).congr (fun j _ => bF_upd (W := W) (T := T) (k := k) (v := 4 * bN + bK) (y := y + 1) (fun h => absurd (HW2.out.symm.trans h) HKK.out) (fun _ => ⟨by rw [HW2.out], by rw [HW3.out], rfl⟩) j))
                clear kst
                go_wp2_with fail
                go_meet
                case rel => exact ⟨_, _, rfl, HTb.out, HBYb.out, HG8.out, HBLb.out⟩
            · have HRR := Lib.hid hR
              clear hR
              go_wp2_with fail
              refine (take_a b g n _ _ _ HT7.out k hkn (by omega) zq bK bN bI HOK0.out HRR.out).mono ?_
              rintro e w8 ⟨rfl, hg8⟩
              go_wp2_with fail
              go_meet
              case rel => exact ⟨W, T, rfl, HT7.out.keep hg8, (HBY5.out.keepn g7).keepn hg8, HG.out.mono (Nat.le_succ m), below_gn (below_gn HBL5.out g7 (by omega)) hg8 (by omega)⟩
          by_cases d2 : d = 2
          · subst d2
            clear d1
            go_wp2_with fail
            by_cases hR : okR 0 nn 0
            · have HRR := Lib.hid hR
              have hnn : 0 ≤ nn ∧ nn ≤ 2199023255552 := by unfold okR at hR; omega
              obtain ⟨hnn0, hnn1⟩ := hnn
              clear hR
              refine (let_z b g n _ _ _ HTB.out k hkn HOKZ.out (by rw [HZ.out]; omega) (by omega) (by omega) nn HRR.out (by rw [HZ.out, HZZ.out])).mono ?_
              rintro e w6 ⟨rfl, hg6⟩
              have s6 := hg6.size
              go_wp2_with fail
              refine (at_v (HTB.out.keep hg6) hkn (by omega) HZ.out HY.out HZZ.out HZQ.out HOKZ.out (by rw [HZ.out]; omega)).mono ?_
              rintro e wa ⟨rfl, hga⟩
              have gga := g_trans hg6 hga
              have sa := hga.size
              have HTa := Lib.hid (HTB.out.keep gga)
              have HBYa := Lib.hid (HBY5.out.keepn gga)
              have HBLa := Lib.hid (below_gn HBL5.out gga (by omega))
              clear gga hg6 hga
              have b0 := HBYa.out.cell (k * 3) (by omega)
              have b1 := HBYa.out.cell (k * 3 + 1) (by omega)
              have b2 := HBYa.out.cell (k * 3 + 2) (by omega)
              have f0 := HBYa.out.free (k * 3)
              have f1 := HBYa.out.free (k * 3 + 1)
              have f2 := HBYa.out.free (k * 3 + 2)
              have kst := g_set (g_set (g_set (g_refl wa (some w3.heap.size)) (p := ⟨w3.heap.size, k * 3, none⟩) (.inl rfl) (.int .i64 0)) (p := ⟨w3.heap.size, k * 3 + 1, none⟩) (.inl rfl) (.int .i64 0)) (p := ⟨w3.heap.size, k * 3 + 2, none⟩) (.inl rfl) (.int .i64 0)
              have HTb := Lib.hid (HTa.out.keeps kst (by omega) (by omega))
              have HBLb := Lib.hid (below_gs HBLa.out kst (by omega) (by have := hlb; omega))
              have HBYb := Lib.hid ((((HBYa.out.set (k * 3) (.int .i64 0)).set (k * 3 + 1) (.int .i64 0)).set (k * 3 + 2) (.int .i64 0)).congr (fun j _ => bF_upd (W := W) (T := T) (k := k) (v := W k) (y := T k) (fun _ => ⟨rfl, rfl, rfl⟩) (fun h => absurd (by rw [HZ.out, HZZ.out]) h) j))
              clear kst
              go_wp2_with fail
              go_meet
              case rel =>
                refine ⟨W, T, rfl, HTb.out, ?_, HG.out.mono (Nat.le_succ m), HBLb.out⟩
                have := HBYb.out
                rwa [upd_self, upd_self] at this
            · have HRR := Lib.hid hR
              clear hR
              refine (let_v b g n _ _ _ HTB.out k hkn HOKZ.out (by rw [HZ.out]; omega) (by omega) (by omega) nn HRR.out).mono ?_
              rintro e w6 ⟨rfl, hg6⟩
              have s6 := hg6.size
              go_wp2_with fail
              refine (at_v (HTB.out.keep hg6) hkn (by omega) HZ.out HY.out HZZ.out HZQ.out HOKZ.out (by rw [HZ.out]; omega)).mono ?_
              rintro e wa ⟨rfl, hga⟩
              have gga := g_trans hg6 hga
              have sa := hga.size
              have HTa := Lib.hid (HTB.out.keep gga)
              have HBYa := Lib.hid (HBY5.out.keepn gga)
              have HBLa := Lib.hid (below_gn HBL5.out gga (by omega))
              clear gga hg6 hga
              have b0 := HBYa.out.cell (k * 3) (by omega)
              have b1 := HBYa.out.cell (k * 3 + 1) (by omega)
              have b2 := HBYa.out.cell (k * 3 + 2) (by omega)
              have f0 := HBYa.out.free (k * 3)
              have f1 := HBYa.out.free (k * 3 + 1)
              have f2 := HBYa.out.free (k * 3 + 2)
              have kst := g_set (g_set (g_set (g_refl wa (some w3.heap.size)) (p := ⟨w3.heap.size, k * 3, none⟩) (.inl rfl) (.int .i64 0)) (p := ⟨w3.heap.size, k * 3 + 1, none⟩) (.inl rfl) (.int .i64 0)) (p := ⟨w3.heap.size, k * 3 + 2, none⟩) (.inl rfl) (.int .i64 0)
              have HTb := Lib.hid (HTa.out.keeps kst (by omega) (by omega))
              have HBLb := Lib.hid (below_gs HBLa.out kst (by omega) (by have := hlb; omega))
              have HBYb := Lib.hid ((((HBYa.out.set (k * 3) (.int .i64 0)).set (k * 3 + 1) (.int .i64 0)).set (k * 3 + 2) (.int .i64 0)).congr (fun j _ => bF_upd (W := W) (T := T) (k := k) (v := W k) (y := T k) (fun _ => ⟨rfl, rfl, rfl⟩) (fun h => absurd (by rw [HZ.out, HZZ.out]) h) j))
              clear kst
              go_wp2_with fail
              go_meet
              case rel =>
                refine ⟨W, T, rfl, HTb.out, ?_, HG.out.mono (Nat.le_succ m), HBLb.out⟩
                have := HBYb.out
                rwa [upd_self, upd_self] at this
          · have dd1 : (d == 1) = false := by simp [d1]
            have dd2 : (d == 2) = false := by simp [d2]
            go_wp2_with fail
            go_meet
            case rel => exact ⟨W, T, rfl, HTB.out, HBY5.out, HG.out.mono (Nat.le_succ m), HBL5.out⟩
        case rest =>
          clear c0 c1 c2 o0 o1 o2 o3 o4 o5 HTB HBY5 HBL5 HOB HZ HY HZZ HZQ HOKZ HOK0 HG
          obtain ⟨W', T', rfl, htb, hby, hgood, hbl⟩ := hcut
          obtain ⟨hokz', hltz', -, -⟩ := hgood k
          have sx := hbl.size
          obtain ⟨z', hz'⟩ : ∃ z', W' k = z' := ⟨_, rfl⟩
          obtain ⟨y', hy'⟩ : ∃ y', T' k = y' := ⟨_, rfl⟩
          obtain ⟨zz', hzz'⟩ : ∃ zz', z' % 4 = zz' := ⟨_, rfl⟩
          obtain ⟨zq', hzq'⟩ : ∃ zq', z' / 4 = zq' := ⟨_, rfl⟩
          have c0 := hby.cell (k * 3) (by omega)
          have c1 := hby.cell (k * 3 + 1) (by omega)
          have c2 := hby.cell (k * 3 + 2) (by omega)
          unfold bF at c0 c1 c2
          rw [show k * 3 / 3 = k by omega, hz', hzz', hzq', hy'] at c0
          rw [show (k * 3 + 1) / 3 = k by omega, hz', hzz', hzq', hy'] at c1
          rw [show (k * 3 + 2) / 3 = k by omega, hz', hzz', hzq', hy'] at c2
          have HTX := Lib.hid htb
          have HBX := Lib.hid hby
          have HGX := Lib.hid hgood
          have HLX := Lib.hid hbl
          have HAT := Lib.hid (fun w (h : Tb w b g n W' T') => at_v h hkn (by omega) hz' hy' hzz' hzq' hokz' hltz')
          clear htb hby hgood hbl hz' hy' hokz' hltz' hzq' hzz'
          by_cases hh' : zz' = 0
          · rw [if_pos hh'] at c0 c1 c2
            go_wp2_with fail
            have m0 := fun X : GW wc => X.cell c0
            refine wp_region_gw (by kernel_rfl) (by kernel_rfl) ?_
            repeat (go_big_quiet_step (first | (go_at_call 12; exact quiet_g (HAT.out _ (HTX.out.keep (GW.g _))))))
            refine wpQuiet_nil ?_
            intro _ hw'
            obtain ⟨X9, hw''⟩ := hw'
            subst hw''
            have hg9 := X9.g
            clear m0
            generalize X9.w = w9 at *
            go_wp2_with fail
            go_roundw
            case rel => exact ⟨m + 1, W', T', by omega, by omega, by go_num, HTX.out.keep hg9, HBX.out.keepn hg9, HGX.out, below_gn HLX.out hg9 (by omega)⟩
            case measure => simp [intOf]; omega
          · rw [if_neg hh', if_pos (by omega)] at c0
            rw [if_neg hh', if_neg (by omega), if_pos (by omega)] at c1
            rw [if_neg hh', if_neg (by omega), if_neg (by omega)] at c2
            have hzb' : (zz' != 0) = true := by simp [hh']
            have x0 : (zz' != zz') = false := by simp
            have x1 : (zq' != zq') = false := by simp
            have x2 : (y' != y') = false := by simp
            go_wp2_with fail
            have m0 := fun X : GW wc => X.cell c0
            have m1 := fun X : GW wc => X.cell c1
            have m2 := fun X : GW wc => X.cell c2
            refine wp_region_gw (by kernel_rfl) (by kernel_rfl) ?_
            repeat (go_big_quiet_step (first | (go_at_call 12; exact quiet_g (HAT.out _ (HTX.out.keep (GW.g _))))))
            refine wpQuiet_nil ?_
            intro _ hw'
            obtain ⟨X9, hw''⟩ := hw'
            subst hw''
            have hg9 := X9.g
            clear m0 m1 m2
            generalize X9.w = w9 at *
            go_wp2_with fail
            go_roundw
            case rel => exact ⟨m + 1, W', T', by omega, by omega, by go_num, HTX.out.keep hg9, HBX.out.keepn hg9, HGX.out, below_gn HLX.out hg9 (by omega)⟩
            case measure => simp [intOf]; omega
      · rw [if_neg hheld, if_pos (by omega)] at c0
        rw [if_neg hheld, if_neg (by omega), if_pos (by omega)] at c1
        rw [if_neg hheld, if_neg (by omega), if_neg (by omega)] at c2
        have hzb : (zz != 0) = true := by simp [hheld]
        have hzb2 : (zz == 0) = false := by simp [hheld]
        have hfd := field0
        go_upto_block 2 with fail
        simp only [hk]
        generalize (wo.alloc (.cells #[.int .i64 d, .int .i64 x, .int .i64 nn, .int .i64 bK, .int .i64 bN, .int .i64 bI, .int .i64 rK, .int .i64 rN] 46)) = W5 at *
        go_cut [9] (fun s9 wx => ∃ (W' T' : Nat → Int), s9 = .int .i64 m ∧ Tb wx b g n W' T' ∧ ABlk wx w3.heap.size 41 24 (bF W' T') ∧ Good W' T' (m + 1) ∧ Below w.heap.size w wx)
        case first =>
          by_cases d1 : d = 1
          · subst d1
            go_wp2_with fail
            refine (at_v HTB.out hkn (by omega) HZ.out HY.out HZZ.out HZQ.out HOKZ.out (by rw [HZ.out]; omega)).mono ?_
            rintro e w6 ⟨rfl, hg6⟩
            have gw := g_alloc (g_refl w6 none) (.cells #[.int .i64 zz, .int .i64 zq, .int .i64 y] 24)
            have wb := Blk.new w6 #[.int .i64 zz, .int .i64 zq, .int .i64 y] 24
            have w0' := wb.cell 0 (.int .i64 zz) rfl
            have w1' := wb.cell 1 (.int .i64 zq) rfl
            have w2' := wb.cell 2 (.int .i64 y) rfl
            have g7 := g_trans hg6 gw
            have o3 := (HOB.out.keepn g7).cell 3 (.int .i64 bK) rfl
            have o4 := (HOB.out.keepn g7).cell 4 (.int .i64 bN) rfl
            have o5 := (HOB.out.keepn g7).cell 5 (.int .i64 bI) rfl
            have HT7 := Lib.hid (HTB.out.keep g7)
            have s7 := g7.size
            have HWB := Lib.hid wb
            clear wb
            by_cases hR : okR bK bN bI
            · by_cases hK : bK = 0
              · subst hK
                have HRR := Lib.hid hR
                clear hR
                go_wp2_with fail
                refine (take_b b g n _ _ _ HT7.out k hkn (by omega) zq 0 bN bI HOK0.out HRR.out rfl).mono ?_
                rintro e w8 ⟨rfl, hg8⟩
                go_wp2_with fail
                go_meet
                case rel => exact ⟨W, T, rfl, HT7.out.keep hg8, (HBY5.out.keepn g7).keepn hg8, HG.out.mono (Nat.le_succ m), below_gn (below_gn HBL5.out g7 (by omega)) hg8 (by omega)⟩
              · have HRR := Lib.hid hR
                clear hR
                go_wp2_with fail
                refine (take_c b g n _ _ _ HT7.out k hkn (by omega) zq bK bN bI HOK0.out HRR.out hK (fun e => hheld (by have := HZ.out; have := HZZ.out; omega))).mono ?_
                rintro e w8 ⟨rfl, hg8⟩
                go_wp2_with fail
                go_meet
                case rel => exact ⟨W, T, rfl, HT7.out.keep hg8, (HBY5.out.keepn g7).keepn hg8, HG.out.mono (Nat.le_succ m), below_gn (below_gn HBL5.out g7 (by omega)) hg8 (by omega)⟩
            · have HRR := Lib.hid hR
              clear hR
              go_wp2_with fail
              refine (take_a b g n _ _ _ HT7.out k hkn (by omega) zq bK bN bI HOK0.out HRR.out).mono ?_
              rintro e w8 ⟨rfl, hg8⟩
              go_wp2_with fail
              go_meet
              case rel => exact ⟨W, T, rfl, HT7.out.keep hg8, (HBY5.out.keepn g7).keepn hg8, HG.out.mono (Nat.le_succ m), below_gn (below_gn HBL5.out g7 (by omega)) hg8 (by omega)⟩
          by_cases d2 : d = 2
          · subst d2
            clear d1
            go_wp2_with fail
            by_cases hR : okR 0 nn 0
            · have HRR := Lib.hid hR
              have hnn : 0 ≤ nn ∧ nn ≤ 2199023255552 := by unfold okR at hR; omega
              obtain ⟨hnn0, hnn1⟩ := hnn
              clear hR
              refine (let_hit b g n _ _ _ HTB.out k hkn HOKZ.out (by rw [HZ.out]; omega) (by omega) (by omega) nn HRR.out (by rw [HZ.out, HZZ.out]; exact hheld)).mono ?_
              rintro e w6 ⟨rfl, ht6, hg6⟩
              have s6 := hg6.size
              have HT6 := Lib.hid ht6
              have hw1 : okW (4 * nn) := ⟨by omega, by rw [show 4 * nn % 4 = 0 by omega, show 4 * nn / 4 = nn by omega]; exact HRR.out⟩
              have HW1 := Lib.hid hw1
              have HBY6 := Lib.hid (HBY5.out.keeps hg6 (by omega))
              have o2 := (HOB.out.keeps hg6 (by omega)).cell 2 (.int .i64 nn) rfl
              have HBL6 := Lib.hid (below_gs HBL5.out hg6 (by omega) hlg)
              clear ht6 hg6 hw1
              go_wp2_with fail
              refine (at_v HT6.out hkn (by omega) (z := 4 * nn) (y := y) (zz := 0) (zq := nn) (by unfold upd; rw [if_pos rfl]) HY.out (by omega) (by omega) (by unfold upd; rw [if_pos rfl]; exact HW1.out) (by unfold upd; rw [if_pos rfl]; omega)).mono ?_
              rintro e wa ⟨rfl, hga⟩
              have sa := hga.size
              have HTa := Lib.hid (HT6.out.keep hga)
              have HBYa := Lib.hid (HBY6.out.keepn hga)
              have HBLa := Lib.hid (below_gn HBL6.out hga (by omega))
              clear hga
              have b0 := HBYa.out.cell (k * 3) (by omega)
              have b1 := HBYa.out.cell (k * 3 + 1) (by omega)
              have b2 := HBYa.out.cell (k * 3 + 2) (by omega)
              have f0 := HBYa.out.free (k * 3)
              have f1 := HBYa.out.free (k * 3 + 1)
              have f2 := HBYa.out.free (k * 3 + 2)
              have kst := g_set (g_set (g_set (g_refl wa (some w3.heap.size)) (p := ⟨w3.heap.size, k * 3, none⟩) (.inl rfl) (.int .i64 0)) (p := ⟨w3.heap.size, k * 3 + 1, none⟩) (.inl rfl) (.int .i64 0)) (p := ⟨w3.heap.size, k * 3 + 2, none⟩) (.inl rfl) (.int .i64 0)
              have HTb := Lib.hid (HTa.out.keeps kst (by omega) (by omega))
              have HBLb := Lib.hid (below_gs HBLa.out kst (by omega) (by have := hlb; omega))
              have HBYb := Lib.hid ((((HBYa.out.set (k * 3) (.int .i64 0)).set (k * 3 + 1) (.int .i64 0)).set (k * 3 + 2) (.int .i64 0)).congr (fun j _ => bF_upd (W := W) (T := T) (k := k) (v := 4 * nn) (y := T k) (fun _ => ⟨rfl, rfl, rfl⟩) (fun h => absurd (by omega) h) j))
              have HG8 := Lib.hid (HG.out.upd (k := k) (v := 4 * nn) (y := T k) HW1.out (by omega) (by rw [HY.out]; omega))
              clear kst
              go_wp2_with fail
              go_meet
              case rel =>
                refine ⟨upd W k (4 * nn), T, rfl, HTb.out, ?_, ?_, HBLb.out⟩
                · have := HBYb.out
                  rwa [upd_self] at this
                · have := HG8.out
                  rwa [upd_self] at this
            · have HRR := Lib.hid hR
              have hRb : nn < 0 ∨ 2199023255552 < nn := by unfold okR at hR; omega
              clear hR
              refine (let_v b g n _ _ _ HTB.out k hkn HOKZ.out (by rw [HZ.out]; omega) (by omega) (by omega) nn HRR.out).mono ?_
              rintro e w6 ⟨rfl, hg6⟩
              have s6 := hg6.size
              have o2 := (HOB.out.keepn hg6).cell 2 (.int .i64 nn) rfl
              rcases hRb with hRb | hRb
              all_goals
                go_wp2_with fail
                refine (at_v (HTB.out.keep hg6) hkn (by omega) HZ.out HY.out HZZ.out HZQ.out HOKZ.out (by rw [HZ.out]; omega)).mono ?_
                rintro e wa ⟨rfl, hga⟩
                have gga := g_trans hg6 hga
                go_wp2_with fail
                go_meet
                case rel => exact ⟨W, T, rfl, HTB.out.keep gga, HBY5.out.keepn gga, HG.out.mono (Nat.le_succ m), below_gn HBL5.out gga (by omega)⟩
          · have dd1 : (d == 1) = false := by simp [d1]
            have dd2 : (d == 2) = false := by simp [d2]
            go_wp2_with fail
            go_meet
            case rel => exact ⟨W, T, rfl, HTB.out, HBY5.out, HG.out.mono (Nat.le_succ m), HBL5.out⟩
        case rest =>
          clear c0 c1 c2 o0 o1 o2 o3 o4 o5 HTB HBY5 HBL5 HOB HZ HY HZZ HZQ HOKZ HOK0 HG
          obtain ⟨W', T', rfl, htb, hby, hgood, hbl⟩ := hcut
          obtain ⟨hokz', hltz', -, -⟩ := hgood k
          have sx := hbl.size
          obtain ⟨z', hz'⟩ : ∃ z', W' k = z' := ⟨_, rfl⟩
          obtain ⟨y', hy'⟩ : ∃ y', T' k = y' := ⟨_, rfl⟩
          obtain ⟨zz', hzz'⟩ : ∃ zz', z' % 4 = zz' := ⟨_, rfl⟩
          obtain ⟨zq', hzq'⟩ : ∃ zq', z' / 4 = zq' := ⟨_, rfl⟩
          have c0 := hby.cell (k * 3) (by omega)
          have c1 := hby.cell (k * 3 + 1) (by omega)
          have c2 := hby.cell (k * 3 + 2) (by omega)
          unfold bF at c0 c1 c2
          rw [show k * 3 / 3 = k by omega, hz', hzz', hzq', hy'] at c0
          rw [show (k * 3 + 1) / 3 = k by omega, hz', hzz', hzq', hy'] at c1
          rw [show (k * 3 + 2) / 3 = k by omega, hz', hzz', hzq', hy'] at c2
          have HTX := Lib.hid htb
          have HBX := Lib.hid hby
          have HGX := Lib.hid hgood
          have HLX := Lib.hid hbl
          have HAT := Lib.hid (fun w (h : Tb w b g n W' T') => at_v h hkn (by omega) hz' hy' hzz' hzq' hokz' hltz')
          clear htb hby hgood hbl hz' hy' hokz' hltz' hzq' hzz'
          by_cases hh' : zz' = 0
          · rw [if_pos hh'] at c0 c1 c2
            go_wp2_with fail
            have m0 := fun X : GW wc => X.cell c0
            refine wp_region_gw (by kernel_rfl) (by kernel_rfl) ?_
            repeat (go_big_quiet_step (first | (go_at_call 12; exact quiet_g (HAT.out _ (HTX.out.keep (GW.g _))))))
            refine wpQuiet_nil ?_
            intro _ hw'
            obtain ⟨X9, hw''⟩ := hw'
            subst hw''
            have hg9 := X9.g
            clear m0
            generalize X9.w = w9 at *
            go_wp2_with fail
            go_roundw
            case rel => exact ⟨m + 1, W', T', by omega, by omega, by go_num, HTX.out.keep hg9, HBX.out.keepn hg9, HGX.out, below_gn HLX.out hg9 (by omega)⟩
            case measure => simp [intOf]; omega
          · rw [if_neg hh', if_pos (by omega)] at c0
            rw [if_neg hh', if_neg (by omega), if_pos (by omega)] at c1
            rw [if_neg hh', if_neg (by omega), if_neg (by omega)] at c2
            have hzb' : (zz' != 0) = true := by simp [hh']
            have x0 : (zz' != zz') = false := by simp
            have x1 : (zq' != zq') = false := by simp
            have x2 : (y' != y') = false := by simp
            go_wp2_with fail
            have m0 := fun X : GW wc => X.cell c0
            have m1 := fun X : GW wc => X.cell c1
            have m2 := fun X : GW wc => X.cell c2
            refine wp_region_gw (by kernel_rfl) (by kernel_rfl) ?_
            repeat (go_big_quiet_step (first | (go_at_call 12; exact quiet_g (HAT.out _ (HTX.out.keep (GW.g _))))))
            refine wpQuiet_nil ?_
            intro _ hw'
            obtain ⟨X9, hw''⟩ := hw'
            subst hw''
            have hg9 := X9.g
            clear m0 m1 m2
            generalize X9.w = w9 at *
            go_wp2_with fail
            go_roundw
            case rel => exact ⟨m + 1, W', T', by omega, by omega, by go_num, HTX.out.keep hg9, HBX.out.keepn hg9, HGX.out, below_gn HLX.out hg9 (by omega)⟩
            case measure => simp [intOf]; omega
    · have HBL := Lib.hid hbl
      clear htb hby hgood hbl
      by_cases hlt : m < a1n
      all_goals
        go_wp2_with fail
        go_ret
        exact ⟨rfl, HBL.out⟩
end Go.Proofs.YtmnldcnlnbpbbaaRR
