/- The law HeldRuns. -/
import Derived.Test.YtgfpmmiaidnfeaaM
import Derived.Test.YtgfpmmiaidnfeaaShapes
import Derived.Deep.RegionHeld3
import Derived.Deep.DeepCutAuto
import Derived.Deep.CutBlock
namespace Go.Proofs.Ytgfpmmiaidnfeaa
open Go.RowKit
set_option linter.unusedVariables false

set_option maxRecDepth 100000 in
set_option maxHeartbeats 6400000 in
theorem walk_HeldRuns (a0 : Option Addr) (a0n a0c : Nat) (w : World) (w0 : Vec w a0 a0n a0c 3 (Q42)) :
    Calls Try.prog 4 #[.slice a0 a0n a0c] w fun e w' => e = .returned (.bool true) ∧ Below w.heap.size w w' := by
  have hm0 : a0n ≤ 9223372036854775807 := by have := w0.1; have := w0.2.1; unfold maxLen at this; omega
  go_enter Try.func4, Try.ntmps4
  go_wp2_with fail
  refine (new_fr _).mono ?_
  rintro e w4 ⟨rfl, h4, hg4⟩
  have s4 := hg4.size
  have hb4 := h4.lt
  have g5 := g_alloc (g_refl w4 none) (.cells #[.slice none 0 0] 41)
  have hr5 := Blk.new w4 #[.slice none 0 0] 41
  go_wp2_with fail
  refine (awake_any _).mono ?_
  rintro e w5 ⟨rfl, hg5⟩
  have s5 := hg5.size
  simp only [World.size_alloc] at s5
  have hg45 := g_trans g5 hg5
  have hh : HI w5 w.heap.size w4.heap.size (fun _ => False) w.heap.size [] [] (.slice none 0 0) :=
    ⟨(h4.strict.keep hg45).mono (fun g _ h => ⟨h.1, by omega, by simp [Value.ownBlock], id⟩), RS.nil _ _, hr5.keepn hg5, Nat.le_refl _, by omega, by simp [Value.ownBlock], by omega, id, id, fun _ _ => id, fun _ h => h.elim⟩
  have hB5 : Below w.heap.size w w5 := below_gn (Below.refl _ _) (g_trans hg4 hg45) (Nat.le_refl _)
  have HH0 := Lib.hid hh
  have HB0 := Lib.hid hB5
  clear hh h4 hg4 hg5 g5 hr5 hg45 hB5
  go_wp2_with fail
  go_loopw [3, 5] (fun hp i wr => ∃ (k hb : Nat) (L : List (Int × Int)) (v : Value), k ≤ a0n ∧ k ≤ 80 ∧ i = .int .i64 k ∧ hp = .pointer (some ⟨hb, 0, none⟩) ∧ HI wr w.heap.size w4.heap.size (fun _ => False) hb L L v ∧ NoTwice L ∧ L.length ≤ k ∧ Below w.heap.size w wr) (fun _ i _ => (300 - intOf i).toNat)
  case atStart => exact ⟨0, _, [], _, by omega, by omega, rfl, rfl, HH0.out, NoTwice.nil, by simp, HB0.out⟩
  case round =>
    clear HH0 HB0
    obtain ⟨k, hb, L, v, hk, hk2, rfl, rfl, hhi, hnt, hlen, hbl⟩ := hrel
    by_cases hgo : k < a0n ∧ k < 80
    · obtain ⟨hlt, hlt2⟩ := hgo
      obtain ⟨vb, off, cs, rfl, hcl, ⟨d0, o, x, rfl, hwd, hwo', hwx⟩, hcell⟩ := w0.2.2 k hlt
      have hck := vec_cell hbl hcell
      have hd : 0 ≤ d0 ∧ d0 ≤ 255 := by simpa [Lit.wf, IntKind.min, IntKind.max, IntKind.signed, IntKind.bits] using hwd
      have hmod : d0.tmod 9 = d0 % 9 := Int.tmod_eq_emod_of_nonneg hd.1
      obtain ⟨d, hdd⟩ : ∃ d, d0 % 9 = d := ⟨_, rfl⟩
      have hd9 : 0 ≤ d ∧ d < 9 := by omega
      rw [hdd] at hmod
      have q0 := hck 0 _ rfl
      have q1 := hck 1 _ rfl
      have q2 := hck 2 _ rfl
      simp only [Nat.add_zero] at q0
      have HI0 := Lib.hid hhi
      have HNT := Lib.hid hnt
      have HBL := Lib.hid hbl
      have hsz := hbl.size
      have l1 := hhi.box.lt
      have l2 := hhi.hd.lt
      clear hcl hcell hck hwd hwo' hwx hhi hnt hbl hdd
      obtain ⟨wo, hwo⟩ : ∃ wo : World, wo = wr := ⟨_, rfl⟩
      rw [← hwo] at HI0 HBL hsz l1 l2 q0 q1 q2 ⊢
      clear hwo
      have gW := g_alloc (g_alloc (g_alloc (g_refl wo none) (.cells #[.int .u8 d0, .int .i64 o, .int .i64 x] 43)) (.cells #[.int .i64 0, .int .i64 0] 34)) (.cells #[.int .i64 0, .int .i64 0] 34)
      have h1 := HI0.out.enter (n := 3) gW (by simp)
      have ob := ((Blk.new wo #[.int .u8 d0, .int .i64 o, .int .i64 x] 43).keepn (g_alloc (g_refl _ none) (.cells #[.int .i64 0, .int .i64 0] 34))).keepn (g_alloc (g_refl _ none) (.cells #[.int .i64 0, .int .i64 0] 34))
      have xb := (Blk.new (wo.alloc (.cells #[.int .u8 d0, .int .i64 o, .int .i64 x] 43)) #[.int .i64 0, .int .i64 0] 34).keepn (g_alloc (g_refl _ none) (.cells #[.int .i64 0, .int .i64 0] 34))
      have yb := Blk.new ((wo.alloc (.cells #[.int .u8 d0, .int .i64 o, .int .i64 x] 43)).alloc (.cells #[.int .i64 0, .int .i64 0] 34)) #[.int .i64 0, .int .i64 0] 34
      simp only [World.size_alloc] at xb yb
      have hB1 := below_gn HBL.out gW (by omega)
      have o0 := ob.cell 0 (.int .u8 d0) rfl
      have o1 := ob.cell 1 (.int .i64 o) rfl
      have o2 := ob.cell 2 (.int .i64 x) rfl
      have sW := gW.size
      have H1 := Lib.hid h1
      have OB := Lib.hid ob
      have XB := Lib.hid xb
      have YB := Lib.hid yb
      have HB1 := Lib.hid hB1
      have rc := h1.box.cell 0 v rfl
      have rf := h1.box.free 0
      have l1 := h1.box.lt
      have l2 := h1.hd.lt
      have lne := h1.hrb
      clear gW h1 ob xb yb hB1 HI0 HBL
      have hl4 : L.length < 4000 := by omega
      go_upto_block 2 with fail
      go_cut [3, 9, 10, 11, 12] (fun s3 s9 s10 s11 s12 wx => ∃ (hbx : Nat) (LL : List (Int × Int)) (va : Option Addr) (vn vc : Nat) (x1 x2 r : Int) (tk : Bool), s3 = .pointer (some ⟨hbx, 0, none⟩) ∧ s9 = .int .i64 r ∧ s10 = .int .i64 r ∧ s11 = .bool tk ∧ s12 = .bool tk ∧ HI wx w.heap.size w4.heap.size (fun i => wo.heap.size ≤ i ∧ i < wo.heap.size + 3) hbx LL LL (.slice va vn vc) ∧ NoTwice LL ∧ LL.length ≤ k + 1 ∧ Blk wx wo.heap.size #[.int .u8 d0, .int .i64 o, .int .i64 x] 43 ∧ Blk wx (wo.heap.size + 1) #[.int .i64 x1, .int .i64 x2] 34 ∧ Blk wx (wo.heap.size + 1 + 1) #[.int .i64 x1, .int .i64 x2] 34 ∧ Below w.heap.size w wx)
      case first =>
        by_cases d5 : d = 5
        · subst d5
          go_wp2_with fail
          generalize (((wo.alloc (.cells #[.int .u8 d0, .int .i64 o, .int .i64 x] 43)).alloc (.cells #[.int .i64 0, .int .i64 0] 34)).alloc (.cells #[.int .i64 0, .int .i64 0] 34)) = W at *
          obtain ⟨y1, y2, tk, hT, -⟩ := topT_parts L
          have HT := Lib.hid hT
          clear hT
          refine (take_any _ _ _ _ H1.out.hd).mono ?_
          rw [HT.out]
          rintro e w1 ⟨rfl, h2, k2⟩
          have t2 : Tr (fun i => i = hb ∨ (w.heap.size ≤ i ∧ i ≠ w4.heap.size ∧ v.ownBlock ≠ some i ∧ ¬ (wo.heap.size ≤ i ∧ i < wo.heap.size + 3))) W w1 := tr_gs k2 (fun _ => .inl rfl)
          have H2 := Lib.hid (H1.out.turn (h2.mono (fun _ _ h => .inl h)) t2)
          have OB2 := Lib.hid (H1.out.sideBlk OB.out (by omega) t2)
          have XB2 := Lib.hid (H1.out.sideBlk XB.out (by omega) t2)
          have YB2 := Lib.hid (H1.out.sideBlk YB.out (by omega) t2)
          have HB2 := Lib.hid (H1.out.below HB1.out t2 (by omega))
          have s2 := t2.size
          clear h2 t2 k2 H1 OB XB YB HB1 rc rf o0 o1 o2
          have z0 := XB2.out.cell 0 (.int .i64 0) rfl
          have z1 := XB2.out.cell 1 (.int .i64 0) rfl
          have f0 := XB2.out.free 0
          have f1 := XB2.out.free 1
          have n1 : ¬ w4.heap.size = wo.heap.size + 1 := by omega
          have rc := H2.out.box.cell 0 v rfl
          have k3 := g_set (g_set (g_refl w1 (some (wo.heap.size + 1))) (p := ⟨wo.heap.size + 1, 0, none⟩) (.inl rfl) (.int .i64 y1)) (p := ⟨wo.heap.size + 1, 1, none⟩) (.inl rfl) (.int .i64 y2)
          have t3 : Tr (fun i => i = wo.heap.size + 1) w1 ((w1.setCell ⟨wo.heap.size + 1, 0, none⟩ (.int .i64 y1)).setCell ⟨wo.heap.size + 1, 1, none⟩ (.int .i64 y2)) := tr_gs k3 (fun _ => rfl)
          have H3 := Lib.hid (H2.out.side t3 (fun i e => by omega))
          have OB3 := Lib.hid (OB2.out.keeps k3 (by omega))
          have XB3 := Lib.hid ((XB2.out.set 0 (.int .i64 y1)).set 1 (.int .i64 y2))
          have YB3 := Lib.hid (YB2.out.keeps k3 (by omega))
          have HB3 := Lib.hid (below_gs HB2.out k3 (by omega) (by omega))
          have s4' := k3.size
          clear k3 t3 H2 OB2 XB2 YB2 HB2
          go_wp2_with fail
          generalize (w1.setCell ⟨wo.heap.size + 1, 0, none⟩ (.int .i64 y1)).setCell ⟨wo.heap.size + 1, 1, none⟩ (.int .i64 y2) = W2 at *
          refine (rtake_v H3.out.rs hl4).mono ?_
          rintro e w2 ⟨v', b1, b2, bk, hT2, rfl, hr2, ho2, hg2⟩
          have hsame := HT.out.symm.trans hT2
          obtain ⟨⟨rfl, rfl⟩, rfl⟩ : (y1 = b1 ∧ y2 = b2) ∧ tk = bk := by simpa using hsame
          obtain ⟨va, vn, vc, rfl⟩ : ∃ a n c, v' = .slice a n c := by
            obtain ⟨a, c, e, _⟩ := hr2
            exact ⟨a, _, c, e⟩
          clear hsame hT2 HT z0 z1 f0 f1 rc
          have rc := (H3.out.keep hg2).box.cell 0 v rfl
          have rf := (H3.out.keep hg2).box.free 0
          have z0 := (YB3.out.keepn hg2).cell 0 (.int .i64 0) rfl
          have z1 := (YB3.out.keepn hg2).cell 1 (.int .i64 0) rfl
          have f0 := (YB3.out.keepn hg2).free 0
          have f1 := (YB3.out.keepn hg2).free 1
          have n2 : ¬ w4.heap.size = wo.heap.size + 1 + 1 := by omega
          have n3 : ¬ wo.heap.size + 1 + 1 = w4.heap.size := by omega
          have H4 := Lib.hid (H3.out.store hg2 hr2 (fun g hg => .inl (ho2 ▸ hg)))
          have kst := g_set (g_refl w2 (some w4.heap.size)) (p := ⟨w4.heap.size, 0, none⟩) (.inl rfl) (.slice va vn vc)
          have OB4 := Lib.hid ((OB3.out.keepn hg2).keeps kst (by omega))
          have XB4 := Lib.hid ((XB3.out.keepn hg2).keeps kst (by omega))
          have YB4 := Lib.hid ((YB3.out.keepn hg2).keeps kst (by omega))
          have s3 := hg2.size
          have HB4 := Lib.hid (below_gs (below_gn HB3.out hg2 (by omega)) kst (by omega) (by omega))
          have k5 := g_set (g_set (g_refl (w2.setCell ⟨w4.heap.size, 0, none⟩ (.slice va vn vc)) (some (wo.heap.size + 1 + 1))) (p := ⟨wo.heap.size + 1 + 1, 0, none⟩) (.inl rfl) (.int .i64 y1)) (p := ⟨wo.heap.size + 1 + 1, 1, none⟩) (.inl rfl) (.int .i64 y2)
          have t5 : Tr (fun i => i = wo.heap.size + 1 + 1) (w2.setCell ⟨w4.heap.size, 0, none⟩ (.slice va vn vc)) (((w2.setCell ⟨w4.heap.size, 0, none⟩ (.slice va vn vc)).setCell ⟨wo.heap.size + 1 + 1, 0, none⟩ (.int .i64 y1)).setCell ⟨wo.heap.size + 1 + 1, 1, none⟩ (.int .i64 y2)) := tr_gs k5 (fun _ => rfl)
          have H5 := Lib.hid (H4.out.side t5 (fun i e => by omega))
          have OB5 := Lib.hid (OB4.out.keeps k5 (by omega))
          have XB5 := Lib.hid (XB4.out.keeps k5 (by omega))
          have YB5 := Lib.hid ((YB4.out.set 0 (.int .i64 y1)).set 1 (.int .i64 y2))
          have HB5' := Lib.hid (below_gs HB4.out k5 (by have := kst.size; omega) (by omega))
          clear k5 t5 kst H3 H4 OB3 XB3 YB3 HB3 OB4 XB4 YB4 HB4 hr2 ho2 hg2
          go_wp2_with fail
          go_meet
          case rel => exact ⟨hb, L.dropLast, va, vn, vc, y1, y2, 0, tk, rfl, rfl, rfl, rfl, rfl, H5.out, HNT.out.dropLast, by rw [List.length_dropLast]; omega, OB5.out, by simpa using XB5.out, by simpa using YB5.out, HB5'.out⟩
        by_cases d6 : d = 6
        · subst d6
          clear d5
          go_wp2_with fail
          generalize (((wo.alloc (.cells #[.int .u8 d0, .int .i64 o, .int .i64 x] 43)).alloc (.cells #[.int .i64 0, .int .i64 0] 34)).alloc (.cells #[.int .i64 0, .int .i64 0] 34)) = W at *
          obtain ⟨y1, y2, tk, hT, -⟩ := topT_parts L
          have HT := Lib.hid hT
          clear hT
          refine (take_any _ _ _ _ H1.out.hd).mono ?_
          rw [HT.out]
          rintro e w1 ⟨rfl, h2, k2⟩
          have t2 : Tr (fun i => i = hb ∨ (w.heap.size ≤ i ∧ i ≠ w4.heap.size ∧ v.ownBlock ≠ some i ∧ ¬ (wo.heap.size ≤ i ∧ i < wo.heap.size + 3))) W w1 := tr_gs k2 (fun _ => .inl rfl)
          have H2 := Lib.hid (H1.out.turn (h2.mono (fun _ _ h => .inl h)) t2)
          have OB2 := Lib.hid (H1.out.sideBlk OB.out (by omega) t2)
          have XB2 := Lib.hid (H1.out.sideBlk XB.out (by omega) t2)
          have YB2 := Lib.hid (H1.out.sideBlk YB.out (by omega) t2)
          have HB2 := Lib.hid (H1.out.below HB1.out t2 (by omega))
          have s2 := t2.size
          clear h2 t2 k2 H1 OB XB YB HB1 rc rf o0 o1 o2
          have z0 := XB2.out.cell 0 (.int .i64 0) rfl
          have z1 := XB2.out.cell 1 (.int .i64 0) rfl
          have f0 := XB2.out.free 0
          have f1 := XB2.out.free 1
          have n1 : ¬ w4.heap.size = wo.heap.size + 1 := by omega
          have rc := H2.out.box.cell 0 v rfl
          have k3 := g_set (g_set (g_refl w1 (some (wo.heap.size + 1))) (p := ⟨wo.heap.size + 1, 0, none⟩) (.inl rfl) (.int .i64 y1)) (p := ⟨wo.heap.size + 1, 1, none⟩) (.inl rfl) (.int .i64 y2)
          have t3 : Tr (fun i => i = wo.heap.size + 1) w1 ((w1.setCell ⟨wo.heap.size + 1, 0, none⟩ (.int .i64 y1)).setCell ⟨wo.heap.size + 1, 1, none⟩ (.int .i64 y2)) := tr_gs k3 (fun _ => rfl)
          have H3 := Lib.hid (H2.out.side t3 (fun i e => by omega))
          have OB3 := Lib.hid (OB2.out.keeps k3 (by omega))
          have XB3 := Lib.hid ((XB2.out.set 0 (.int .i64 y1)).set 1 (.int .i64 y2))
          have YB3 := Lib.hid (YB2.out.keeps k3 (by omega))
          have HB3 := Lib.hid (below_gs HB2.out k3 (by omega) (by omega))
          have s4' := k3.size
          clear k3 t3 H2 OB2 XB2 YB2 HB2
          go_wp2_with fail
          generalize (w1.setCell ⟨wo.heap.size + 1, 0, none⟩ (.int .i64 y1)).setCell ⟨wo.heap.size + 1, 1, none⟩ (.int .i64 y2) = W2 at *
          refine (rtake_v H3.out.rs hl4).mono ?_
          rintro e w2 ⟨v', b1, b2, bk, hT2, rfl, hr2, ho2, hg2⟩
          have hsame := HT.out.symm.trans hT2
          obtain ⟨⟨rfl, rfl⟩, rfl⟩ : (y1 = b1 ∧ y2 = b2) ∧ tk = bk := by simpa using hsame
          obtain ⟨va, vn, vc, rfl⟩ : ∃ a n c, v' = .slice a n c := by
            obtain ⟨a, c, e, _⟩ := hr2
            exact ⟨a, _, c, e⟩
          clear hsame hT2 HT z0 z1 f0 f1 rc
          have rc := (H3.out.keep hg2).box.cell 0 v rfl
          have rf := (H3.out.keep hg2).box.free 0
          have z0 := (YB3.out.keepn hg2).cell 0 (.int .i64 0) rfl
          have z1 := (YB3.out.keepn hg2).cell 1 (.int .i64 0) rfl
          have f0 := (YB3.out.keepn hg2).free 0
          have f1 := (YB3.out.keepn hg2).free 1
          have n2 : ¬ w4.heap.size = wo.heap.size + 1 + 1 := by omega
          have n3 : ¬ wo.heap.size + 1 + 1 = w4.heap.size := by omega
          have H4 := Lib.hid (H3.out.store hg2 hr2 (fun g hg => .inl (ho2 ▸ hg)))
          have kst := g_set (g_refl w2 (some w4.heap.size)) (p := ⟨w4.heap.size, 0, none⟩) (.inl rfl) (.slice va vn vc)
          have OB4 := Lib.hid ((OB3.out.keepn hg2).keeps kst (by omega))
          have XB4 := Lib.hid ((XB3.out.keepn hg2).keeps kst (by omega))
          have YB4 := Lib.hid ((YB3.out.keepn hg2).keeps kst (by omega))
          have s3 := hg2.size
          have HB4 := Lib.hid (below_gs (below_gn HB3.out hg2 (by omega)) kst (by omega) (by omega))
          have k5 := g_set (g_set (g_refl (w2.setCell ⟨w4.heap.size, 0, none⟩ (.slice va vn vc)) (some (wo.heap.size + 1 + 1))) (p := ⟨wo.heap.size + 1 + 1, 0, none⟩) (.inl rfl) (.int .i64 y1)) (p := ⟨wo.heap.size + 1 + 1, 1, none⟩) (.inl rfl) (.int .i64 y2)
          have t5 : Tr (fun i => i = wo.heap.size + 1 + 1) (w2.setCell ⟨w4.heap.size, 0, none⟩ (.slice va vn vc)) (((w2.setCell ⟨w4.heap.size, 0, none⟩ (.slice va vn vc)).setCell ⟨wo.heap.size + 1 + 1, 0, none⟩ (.int .i64 y1)).setCell ⟨wo.heap.size + 1 + 1, 1, none⟩ (.int .i64 y2)) := tr_gs k5 (fun _ => rfl)
          have H5 := Lib.hid (H4.out.side t5 (fun i e => by omega))
          have OB5 := Lib.hid (OB4.out.keeps k5 (by omega))
          have XB5 := Lib.hid (XB4.out.keeps k5 (by omega))
          have YB5 := Lib.hid ((YB4.out.set 0 (.int .i64 y1)).set 1 (.int .i64 y2))
          have HB5' := Lib.hid (below_gs HB4.out k5 (by have := kst.size; omega) (by omega))
          clear k5 t5 kst H3 H4 OB3 XB3 YB3 HB3 OB4 XB4 YB4 HB4 hr2 ho2 hg2
          go_wp2_with fail
          go_meet
          case rel => exact ⟨hb, L.dropLast, va, vn, vc, y1, y2, 0, tk, rfl, rfl, rfl, rfl, rfl, H5.out, HNT.out.dropLast, by rw [List.length_dropLast]; omega, OB5.out, by simpa using XB5.out, by simpa using YB5.out, HB5'.out⟩
        by_cases d7 : d = 7
        · subst d7
          clear d5 d6
          go_wp2_with fail
          generalize (((wo.alloc (.cells #[.int .u8 d0, .int .i64 o, .int .i64 x] 43)).alloc (.cells #[.int .i64 0, .int .i64 0] 34)).alloc (.cells #[.int .i64 0, .int .i64 0] 34)) = W at *
          refine (clear_any _ _ _ _ H1.out.hd).mono ?_
          rintro e w1 ⟨rfl, h2, k2⟩
          have t2 : Tr (fun i => i = hb ∨ (w.heap.size ≤ i ∧ i ≠ w4.heap.size ∧ v.ownBlock ≠ some i ∧ ¬ (wo.heap.size ≤ i ∧ i < wo.heap.size + 3))) W w1 := tr_gs k2 (fun _ => .inl rfl)
          have H2 := Lib.hid (H1.out.turn (h2.mono (fun _ _ h => .inl h)) t2)
          have OB2 := Lib.hid (H1.out.sideBlk OB.out (by omega) t2)
          have XB2 := Lib.hid (H1.out.sideBlk XB.out (by omega) t2)
          have YB2 := Lib.hid (H1.out.sideBlk YB.out (by omega) t2)
          have HB2 := Lib.hid (H1.out.below HB1.out t2 (by omega))
          have s2 := t2.size
          clear h2 t2 k2 H1 OB XB YB HB1 rc rf o0 o1 o2
          have rc := H2.out.box.cell 0 v rfl
          have rf := H2.out.box.free 0
          have H3 := Lib.hid (H2.out.store (g_refl _ _) (RS.nil w1 (w4.heap.size + 1)) (fun g hg => by cases hg))
          have kst := g_set (g_refl w1 (some w4.heap.size)) (p := ⟨w4.heap.size, 0, none⟩) (.inl rfl) (.slice none 0 0)
          have OB4 := Lib.hid (OB2.out.keeps kst (by omega))
          have XB4 := Lib.hid (XB2.out.keeps kst (by omega))
          have YB4 := Lib.hid (YB2.out.keeps kst (by omega))
          have HB4 := Lib.hid (below_gs HB2.out kst (by omega) (by omega))
          clear kst H2 OB2 XB2 YB2 HB2
          go_wp2_with fail
          go_meet
          case rel => exact ⟨hb, [], none, 0, 0, 0, 0, 0, false, rfl, rfl, rfl, rfl, rfl, H3.out, NoTwice.nil, by simp, OB4.out, XB4.out, YB4.out, HB4.out⟩
        by_cases d8 : d = 8
        · subst d8
          clear d5 d6 d7
          obtain ⟨va, vn, vc, rfl⟩ : ∃ a n c, v = .slice a n c := by
            obtain ⟨a, c, e, _⟩ := H1.out.rs
            exact ⟨a, _, c, e⟩
          go_wp2_with fail
          generalize (((wo.alloc (.cells #[.int .u8 d0, .int .i64 o, .int .i64 x] 43)).alloc (.cells #[.int .i64 0, .int .i64 0] 34)).alloc (.cells #[.int .i64 0, .int .i64 0] 34)) = W at *
          refine (fork_any _ _ _ _ H1.out.hd hl4).mono ?_
          rintro e w1 ⟨kf, rfl, hkf, h2, hg1⟩
          have s1 := hg1.size
          have HF := Lib.hid h2
          have HG1 := Lib.hid hg1
          clear h2 hg1 rc rf o0 o1 o2
          go_wp2_with fail
          refine (add_any _ _ _ _ (H1.out.hd.strict.keep HG1.out) _ _ hl4).mono ?_
          rintro e w2 ⟨rfl, h3, t3⟩
          have s3 := t3.size
          have H3 := Lib.hid h3
          have T3 := Lib.hid t3
          clear h3 t3
          go_wp2_with fail
          refine (take_any _ _ _ _ H3.out).mono ?_
          obtain ⟨y1, y2, tk, hT, -⟩ := topT_parts (addL L 7 7)
          rw [hT]
          clear hT
          rintro e w3 ⟨rfl, h4, k4⟩
          have s5 := k4.size
          have H4 := Lib.hid h4
          have K4 := Lib.hid k4
          clear h4 k4
          go_wp2_with fail
          refine (clear_any _ _ _ _ H4.out).mono ?_
          rintro e w5' ⟨rfl, -, k5⟩
          have tt := tr_thens (tr_thens T3.out K4.out (fun _ => .inl rfl)) k5 (fun _ => .inl rfl)
          have tg := tr_trans (S := fun i => i = hb ∨ ((w.heap.size ≤ i ∧ i ≠ w4.heap.size ∧ (Value.slice va vn vc).ownBlock ≠ some i ∧ ¬ (wo.heap.size ≤ i ∧ i < wo.heap.size + 3)) ∧ i < W.heap.size)) (tr_g HG1.out _) tt (fun i _ h => h)
          have tm : Tr (fun i => i = hb ∨ (w.heap.size ≤ i ∧ i ≠ w4.heap.size ∧ (Value.slice va vn vc).ownBlock ≠ some i ∧ ¬ (wo.heap.size ≤ i ∧ i < wo.heap.size + 3))) W w5' := tr_mono tg (fun i _ h => h.imp id And.left)
          have H5 := Lib.hid (H1.out.fork HG1.out HF.out hkf tt)
          have OB5 := Lib.hid (H1.out.sideBlk OB.out (by omega) tm)
          have XB5 := Lib.hid (H1.out.sideBlk XB.out (by omega) tm)
          have YB5 := Lib.hid (H1.out.sideBlk YB.out (by omega) tm)
          have HB5' := Lib.hid (H1.out.below HB1.out tm (by omega))
          clear tt tg tm k5 H4 K4 H3 T3 HG1 HF H1 OB XB YB HB1
          go_wp2_with fail
          go_meet
          case rel => exact ⟨kf, L, va, vn, vc, 0, 0, 0, false, rfl, rfl, rfl, rfl, rfl, H5.out, HNT.out, by omega, OB5.out, XB5.out, YB5.out, HB5'.out⟩
        · clear hd9
          have q5 : (d == 5) = false := by simp [d5]
          have q6 : (d == 6) = false := by simp [d6]
          have q7 : (d == 7) = false := by simp [d7]
          have q8 : (d == 8) = false := by simp [d8]
          clear d5 d6 d7 d8
          go_wp2_with fail
          generalize (((wo.alloc (.cells #[.int .u8 d0, .int .i64 o, .int .i64 x] 43)).alloc (.cells #[.int .i64 0, .int .i64 0] 34)).alloc (.cells #[.int .i64 0, .int .i64 0] 34)) = W at *
          refine (add_any _ _ _ _ H1.out.hd _ _ hl4).mono ?_
          rintro e w1 ⟨rfl, h2, t2⟩
          have H2 := Lib.hid (H1.out.turn h2 t2)
          have OB2 := Lib.hid (H1.out.sideBlk OB.out (by omega) t2)
          have XB2 := Lib.hid (H1.out.sideBlk XB.out (by omega) t2)
          have YB2 := Lib.hid (H1.out.sideBlk YB.out (by omega) t2)
          have HB2 := Lib.hid (H1.out.below HB1.out t2 (by omega))
          have s2 := t2.size
          clear h2 t2 H1 OB XB YB HB1 rc rf o0 o1 o2
          have rc := H2.out.box.cell 0 v rfl
          have o1 := OB2.out.cell 1 (.int .i64 o) rfl
          have o2 := OB2.out.cell 2 (.int .i64 x) rfl
          obtain ⟨ra, hra⟩ : ∃ ra, addR L o x = ra := ⟨_, rfl⟩
          rw [hra]
          have HRA := Lib.hid hra
          clear hra
          go_wp2_with fail
          refine (radd_any _ _ _ _ H2.out.rs hl4 HNT.out (by have := H2.out.box.lt; omega) _ _).mono ?_
          rw [HRA.out]
          rintro e w2 ⟨v', rfl, hr2, ho2, hg2⟩
          obtain ⟨va, vn, vc, rfl⟩ : ∃ a n c, v' = .slice a n c := by
            obtain ⟨a, c, e, _⟩ := hr2
            exact ⟨a, _, c, e⟩
          have rc := (H2.out.keep hg2).box.cell 0 v rfl
          have rf := (H2.out.keep hg2).box.free 0
          have H3 := Lib.hid (H2.out.store hg2 hr2 ho2)
          have kst := g_set (g_refl w2 (some w4.heap.size)) (p := ⟨w4.heap.size, 0, none⟩) (.inl rfl) (.slice va vn vc)
          have OBW := Lib.hid ((OB2.out.keepn hg2).keeps kst (by omega))
          have XBW := Lib.hid ((XB2.out.keepn hg2).keeps kst (by omega))
          have YBW := Lib.hid ((YB2.out.keepn hg2).keeps kst (by omega))
          have s3 := hg2.size
          have BW := Lib.hid (below_gs (below_gn HB2.out hg2 (by omega)) kst (by omega) (by omega))
          clear H2 OB2 XB2 YB2 HB2 hr2 ho2 hg2 kst o1 o2
          go_wp2_with fail
          go_meet
          case rel => exact ⟨hb, addL L o x, va, vn, vc, 0, 0, ra, false, rfl, rfl, rfl, rfl, rfl, H3.out, HNT.out.addL o x, by have := addL_le L o x; omega, OBW.out, XBW.out, YBW.out, BW.out⟩
      case rest =>
        clear H1 OB XB YB HB1 rc rf o0 o1 o2 hmod
        obtain ⟨hbx, LL, va, vn, vc, x1, x2, r, tk, rfl, rfl, rfl, rfl, rfl, hW, hnt, hlx, obw, xbw, ybw, bw⟩ := hcut
        have HW := Lib.hid hW
        have NTW := Lib.hid hnt
        have OBW := Lib.hid obw
        have XBW := Lib.hid xbw
        have YBW := Lib.hid ybw
        have BW := Lib.hid bw
        have er : (r != r) = false := by simp
        have etk : (tk != tk) = false := by simp
        clear hW hnt obw xbw ybw bw HNT
        obtain ⟨a1, a2, aok, hT, -⟩ := topT_parts LL
        obtain ⟨u1, hu1⟩ : ∃ u1, (lastV LL o).getD 0 = u1 := ⟨_, rfl⟩
        obtain ⟨u2, hu2⟩ : ∃ u2, (lastV LL o).isSome = u2 := ⟨_, rfl⟩
        obtain ⟨ll, hll⟩ : ∃ ll, LL.length = ll := ⟨_, rfl⟩
        have HT := Lib.hid hT
        have HU1 := Lib.hid hu1
        have HU2 := Lib.hid hu2
        have HLL := Lib.hid hll
        rw [hll] at hlx
        have p1 := OBW.out.cell 1 (.int .i64 o) rfl
        have SW := Lib.hid (OBW.out.lt)
        clear hT hu1 hu2 hll
        go_wp2_with fail
        refine (has_any _ _ _ _ HW.out.hd _).mono ?_
        rw [HU1.out, HU2.out]
        rintro e w6 ⟨rfl, hg6⟩
        have HW6 := Lib.hid (HW.out.keep hg6)
        have c6 := HW6.out.box.cell 0 (.slice va vn vc) rfl
        have p6 := (OBW.out.keepn hg6).cell 1 (.int .i64 o) rfl
        go_wp2_with fail
        refine (rhas_v HW6.out.rs (by rw [HLL.out]; omega) NTW.out _).mono ?_
        rw [HU1.out, HU2.out]
        rintro e w7 ⟨rfl, hg7⟩
        have HW7 := Lib.hid (HW6.out.keep hg7)
        go_wp2_with fail
        refine (last_any _ _ _ _ HW7.out.hd).mono ?_
        rw [HT.out]
        rintro e w8 ⟨rfl, hg8⟩
        have g8 := g_alloc (g_refl w8 none) (.cells #[.int .i64 a1, .int .i64 a2] 34)
        have HW8 := Lib.hid ((HW7.out.keep hg8).keep g8)
        have c8 := HW8.out.box.cell 0 (.slice va vn vc) rfl
        go_wp2_with fail
        refine (rlast_v HW8.out.rs (by rw [HLL.out]; omega)).mono ?_
        rw [HT.out]
        rintro e w9 ⟨rfl, hg9⟩
        have g9 := g_alloc (g_refl w9 none) (.cells #[.int .i64 a1, .int .i64 a2] 34)
        have gA := g_trans (g_trans (g_trans (g_trans (g_trans hg6 hg7) hg8) g8) hg9) g9
        have HW9 := Lib.hid (HW.out.keep gA)
        have t0 := (XBW.out.keepn gA).cell 0 (.int .i64 x1) rfl
        have t1 := (XBW.out.keepn gA).cell 1 (.int .i64 x2) rfl
        have t2 := (YBW.out.keepn gA).cell 0 (.int .i64 x1) rfl
        have t3 := (YBW.out.keepn gA).cell 1 (.int .i64 x2) rfl
        have ab := ((Blk.new w8 #[.int .i64 a1, .int .i64 a2] 34).keepn hg9).keepn g9
        have bb := Blk.new w9 #[.int .i64 a1, .int .i64 a2] 34
        have t4 := ab.cell 0 (.int .i64 a1) rfl
        have t5 := ab.cell 1 (.int .i64 a2) rfl
        have t6 := bb.cell 0 (.int .i64 a1) rfl
        have t7 := bb.cell 1 (.int .i64 a2) rfl
        have t8 := HW9.out.box.cell 0 (.slice va vn vc) rfl
        have BW9 := Lib.hid (below_gn BW.out gA (by have := SW.out; omega))
        have e1 : (x1 != x1) = false := by simp
        have e2 : (x2 != x2) = false := by simp
        have e3 : (a1 != a1) = false := by simp
        have e4 : (a2 != a2) = false := by simp
        have e5 : (u1 != u1) = false := by simp
        have e6 : (u2 != u2) = false := by simp
        have e7 : (aok != aok) = false := by simp
        have e8 : ((ll : Int) != (ll : Int)) = false := by simp
        clear hg6 hg7 hg8 g8 hg9 c6 c8 p6 ab bb HW6 HW7 HW8
        go_wp2_with fail
        clear g9 gA
        generalize (w9.alloc (.cells #[.int .i64 a1, .int .i64 a2] 34)) = W1 at *
        obtain ⟨ao, cc, hvx, hsr, hcc, hcm, -⟩ := HW9.out.rs
        have HHD := Lib.hid HW9.out.hd
        have HRS := Lib.hid HW9.out.rs
        have HLL4 : Hid (LL.length < 4000) := Lib.hid (by rw [HLL.out]; omega)
        rw [HLL.out] at hvx
        rw [hvx] at t8
        clear hsr hcc hcm
        have hvx' := Lib.hid hvx
        clear hvx
        have KS : Hid (∀ W', W1.grownBy W' none → W1.grownBy W' none ∧ W'.cell? ⟨wo.heap.size + 1, 0, none⟩ = some (.int .i64 x1) ∧ W'.cell? ⟨wo.heap.size + 1, 1, none⟩ = some (.int .i64 x2) ∧ W'.cell? ⟨wo.heap.size + 1 + 1, 0, none⟩ = some (.int .i64 x1) ∧ W'.cell? ⟨wo.heap.size + 1 + 1, 1, none⟩ = some (.int .i64 x2) ∧ W'.cell? ⟨w8.heap.size, 0, none⟩ = some (.int .i64 a1) ∧ W'.cell? ⟨w8.heap.size, 1, none⟩ = some (.int .i64 a2) ∧ W'.cell? ⟨w9.heap.size, 0, none⟩ = some (.int .i64 a1) ∧ W'.cell? ⟨w9.heap.size, 1, none⟩ = some (.int .i64 a2) ∧ W'.cell? ⟨w4.heap.size, 0, none⟩ = some (.slice ao ll cc)) :=
          Lib.hid (fun W' g => ⟨g, g.cell t0 (by simp), g.cell t1 (by simp), g.cell t2 (by simp), g.cell t3 (by simp), g.cell t4 (by simp), g.cell t5 (by simp), g.cell t6 (by simp), g.cell t7 (by simp), g.cell t8 (by simp)⟩)
        go_region_held3 (fun W' => W1.grownBy W' none ∧ W'.cell? ⟨wo.heap.size + 1, 0, none⟩ = some (.int .i64 x1) ∧ W'.cell? ⟨wo.heap.size + 1, 1, none⟩ = some (.int .i64 x2) ∧ W'.cell? ⟨wo.heap.size + 1 + 1, 0, none⟩ = some (.int .i64 x1) ∧ W'.cell? ⟨wo.heap.size + 1 + 1, 1, none⟩ = some (.int .i64 x2) ∧ W'.cell? ⟨w8.heap.size, 0, none⟩ = some (.int .i64 a1) ∧ W'.cell? ⟨w8.heap.size, 1, none⟩ = some (.int .i64 a2) ∧ W'.cell? ⟨w9.heap.size, 0, none⟩ = some (.int .i64 a1) ∧ W'.cell? ⟨w9.heap.size, 1, none⟩ = some (.int .i64 a2) ∧ W'.cell? ⟨w4.heap.size, 0, none⟩ = some (.slice ao ll cc)) (first | exact KS.out _ (g_drew (g_refl _ _)) | exact KS.out _ gZ) (first | (go_at_call 10; refine Calls.mono (len_any _ _ _ _ (HHD.out.keep (And.left (by assumption)))) ?_; rw [HLL.out]; rintro e wz ⟨rfl, gz⟩; have gZ := g_trans (And.left (by assumption)) gz) | (go_at_call 20; refine Calls.mono (all_any _ _ _ _ (HHD.out.keep (And.left (by assumption))) HLL4.out) ?_; rintro e wz ⟨vz, rfl, hva, gz⟩; have gZ := g_trans (And.left (by assumption)) gz) | (go_at_call 19; refine Calls.mono (same_v (rs_of_own hva (Nat.zero_le _)) (hvx'.out ▸ HRS.out.keep (And.left (by assumption))) HLL4.out) ?_; rintro e wz ⟨rfl, gz⟩; have gZ := g_trans (And.left (by assumption)) gz))
        go_wp2_with fail
        go_roundw
        case rel => exact ⟨k + 1, hbx, LL, (.slice va vn vc), by omega, by omega, by go_num, rfl, (HW9.out.keep gZ).leave, NTW.out, by rw [HLL.out]; omega, below_gn BW9.out gZ (Nat.le_trans HW9.out.rB (Nat.le_of_lt HW9.out.box.lt))⟩
        case measure => simp [intOf]; omega
    · have HBL := Lib.hid hbl
      have hsz := hbl.size
      clear hhi hnt hbl
      by_cases hlt : k < a0n
      all_goals
        go_wp2_with fail
        go_ret
        exact ⟨rfl, HBL.out⟩
end Go.Proofs.Ytgfpmmiaidnfeaa
