/- The law EpochRuns: any calls. -/
import Derived.Test.YtaggoepiandblaaJ
import Derived.Test.YtaggoepiandblaaShapes
namespace Go.Proofs.Ytaggoepiandblaa
open Go.RowKit
set_option linter.unusedVariables false

/-- the memory of the law: the program's slots, the document's -/
def Inv (w wr : World) (b rb n : Nat) (f : Nat → Int) (so : Option Addr) (sc : Nat) : Prop :=
  Sl wr b n f ∧ Blk wr rb #[.slice so n sc] 38 ∧ IRow wr so n f ∧ (∀ a, so = some a → w.heap.size ≤ a.block ∧ a.block < wr.heap.size ∧ a.block ≠ b ∧ a.block ≠ rb) ∧ b ≠ rb ∧ w.heap.size ≤ b ∧ w.heap.size ≤ rb ∧ Below w.heap.size w wr
section
variable {w wr w' : World} {b rb n : Nat} {f f' : Nat → Int} {so so' : Option Addr} {sc sc' : Nat}
theorem Inv.sl (h : Inv w wr b rb n f so sc) : Sl wr b n f := h.1
theorem Inv.blk (h : Inv w wr b rb n f so sc) : Blk wr rb #[.slice so n sc] 38 := h.2.1
theorem Inv.row (h : Inv w wr b rb n f so sc) : IRow wr so n f := h.2.2.1
theorem Inv.below (h : Inv w wr b rb n f so sc) : Below w.heap.size w wr := h.2.2.2.2.2.2.2
theorem Inv.keep (h : Inv w wr b rb n f so sc) (g : wr.grownBy w' none) : Inv w w' b rb n f so sc := by
  obtain ⟨h1, h2, h3, h4, h5, h6, h7, h8⟩ := h
  exact ⟨h1.keep g, h2.keepn g, h3.keep g, fun a ha => by obtain ⟨x1, x2, x3⟩ := h4 a ha; exact ⟨x1, Nat.lt_of_lt_of_le x2 g.size, x3⟩, h5, h6, h7, below_gn h8 g h8.size⟩
theorem Inv.keeps {c : Nat} (h : Inv w wr b rb n f so sc) (g : wr.grownBy w' (some c)) (hb : wr.heap.size ≤ c) : Inv w w' b rb n f so sc := by
  obtain ⟨h1, h2, h3, h4, h5, h6, h7, h8⟩ := h
  have l1 := h1.lt
  have l2 := h2.lt
  have l3 := h8.size
  exact ⟨h1.keeps g (by omega), h2.keeps g (by omega), h3.keeps g (fun a ha => by have := h4 a ha; omega), fun a ha => by obtain ⟨x1, x2, x3⟩ := h4 a ha; exact ⟨x1, Nat.lt_of_lt_of_le x2 g.size, x3⟩, h5, h6, h7, below_gs h8 g h8.size (by omega)⟩
/-- the program's slots take a turn, then the document's; its new row is laid into the box -/
theorem Inv.turn {w1 : World} (h : Inv w wr b rb n f so sc) (hs : Sl w1 b n f') (g : wr.grownBy w1 (some b)) (ha : After w1 so n f' w' so') :
    Inv w (w'.setCell ⟨rb, 0, none⟩ (.slice so' n sc')) b rb n f' so' sc' := by
  obtain ⟨h1, h2, h3, h4, h5, h6, h7, h8⟩ := h
  obtain ⟨a1, a2, a3⟩ := ha
  have l1 := h1.lt
  have l2 := h2.lt
  have l3 := g.size
  have l4 := a3.size
  have k : w'.grownBy (w'.setCell ⟨rb, 0, none⟩ (.slice so' n sc')) (some rb) := g_set (g_refl w' (some rb)) (.inl rfl) _
  have hx : ∀ a, so' = some a → w.heap.size ≤ a.block ∧ a.block < w'.heap.size ∧ a.block ≠ b ∧ a.block ≠ rb := fun a ha => by
    rcases a2 a ha with e | e
    · have := h4 a e; exact ⟨this.1, by omega, this.2.2⟩
    · have := h8.size; exact ⟨by omega, e.2, by omega, by omega⟩
  refine ⟨(hs.keep a3).keeps k h5, ?_, a1.keeps k (fun a ha => (hx a ha).2.2.2), fun a ha => by rw [World.size_setCell]; exact hx a ha, h5, h6, h7, below_gs (below_gn (below_gs h8 g h8.size h6) a3 (Nat.le_trans h8.size l3)) k (by have := h8.size; omega) h7⟩
  have := ((h2.keeps g (Ne.symm h5)).keepn a3).set 0 (.slice so' n sc')
  simpa using this
theorem Inv.free (h : Inv w wr b rb n f so sc) : wr.frozen? ⟨rb, 0, none⟩ = false := h.blk.free 0
/-- of a fork it goes on; the other one takes a turn -/
theorem Inv.fork {w1 : World} {g : Nat} (h : Inv w wr b rb n f so sc) (g1 : wr.grownBy w1 none) (hg : wr.heap.size ≤ g) (hs : Sl w1 g n f') (e : ∀ t, t < n → f' t = f t) (g2 : w1.grownBy w' (some b)) : Inv w w' g rb n f' so sc := by
  obtain ⟨h1, h2, h3, h4, h5, h6, h7, h8⟩ := h
  have l1 := h1.lt
  have l2 := h2.lt
  have l3 := g1.size
  have l4 := g2.size
  have l5 := h8.size
  have h3' : IRow wr so n f' := fun i hi => by rw [e i hi]; exact h3 i hi
  exact ⟨hs.keeps g2 (by omega), (h2.keepn g1).keeps g2 (Ne.symm h5), (h3'.keep g1).keeps g2 (fun a ha => (h4 a ha).2.2.1), fun a ha => by have := h4 a ha; exact ⟨this.1, by omega, by omega, this.2.2.2⟩, by omega, by omega, h7, below_gs (below_gn h8 g1 h8.size) g2 (by omega) h6⟩
end

/-- a row of one's own, that may be written -/
def Row99 (w : World) (ao : Option Addr) (n lo : Nat) : Prop := ∀ i, i < n → ∃ g xs, ao = some ⟨g, 0, none⟩ ∧ Blk w g xs 3 ∧ n ≤ xs.size ∧ lo ≤ g
theorem row99_of_own {w : World} {base : Nat} {ao : Option Addr} {n c : Nat} {f : Nat → Int} (h : w.ownsRow base 3 1 (.slice ao n c) n (firstK f n)) : Row99 w ao n base := fun i hi => by
  rcases h.2 with ⟨_, rfl⟩ | ⟨g, cap, cur, e, hb, hh, h1, h2, h3, _⟩
  · omega
  · cases e
    exact ⟨g, cur, rfl, hh, by omega, hb⟩

theorem same_self (w : World) (ao bo : Option Addr) (n c d : Nat) (z : Nat → Int) (hn : n ≤ 4611686018427387904) (hz : IRow w ao n z) (hy : IRow w bo n z) :
    Calls Try.prog 18 #[.slice ao n c, .slice bo n d] w fun e w' => e = .returned (.bool true) ∧ w.grownBy w' none := by
  have h := same_any w ao bo n n c d z z hn hn hz hy
  have hs : sameb n n z z = true := by simp [sameb]
  rwa [hs] at h
theorem at_v {b n : Nat} {f : Nat → Int} {w : World} (h : Sl w b n f) {t v : Int} (hv : sat n f t = v) :
    Calls Try.prog 20 #[.pointer (some ⟨b, 0, none⟩), .int .i64 t] w fun e w' => e = .returned (.int .i64 v) ∧ w.grownBy w' none := by subst hv; exact at_any _ _ _ _ h _
theorem rat_v {ao : Option Addr} {n c : Nat} {f : Nat → Int} {w : World} (hz : IRow w ao n f) (h64 : n ≤ 64) {t v : Int} (hv : sat n f t = v) :
    Calls Try.prog 21 #[.agg #[.slice ao n c], .int .i64 t] w fun e w' => e = .returned (.int .i64 v) ∧ w.grownBy w' none := by subst hv; exact rat_any _ _ _ _ _ hz h64 _
theorem in_v {b n : Nat} {f : Nat → Int} {w : World} (h : Sl w b n f) {t : Int} (hp : 0 ≤ sat n f t) (hp2 : sat n f t < 1000000) {v : Bool} (hv : sin n f t = v) :
    Calls Try.prog 11 #[.pointer (some ⟨b, 0, none⟩), .int .i64 t] w fun e w' => e = .returned (.bool v) ∧ w.grownBy w' none := by subst hv; exact in_any _ _ _ _ h _ hp hp2
theorem rin_v {ao : Option Addr} {n c : Nat} {f : Nat → Int} {w : World} (hz : IRow w ao n f) (h64 : n ≤ 64) {t : Int} (hp : 0 ≤ sat n f t) {v : Bool} (hv : sin n f t = v) :
    Calls Try.prog 22 #[.agg #[.slice ao n c], .int .i64 t] w fun e w' => e = .returned (.bool v) ∧ w.grownBy w' none := by subst hv; exact rin_any _ _ _ _ _ hz h64 _ hp
theorem passed_v {b n : Nat} {f : Nat → Int} {w : World} (h : Sl w b n f) {me : Int} {ao : Option Addr} {m c : Nat} {z : Nat → Int} (hn : 0 < n) (hz : IRow w ao m z) {v : Bool} (hv : passx n m f me z = v) :
    Calls Try.prog 12 #[.pointer (some ⟨b, 0, none⟩), .int .i64 me, .slice ao m c] w fun e w' => e = .returned (.bool v) ∧ w.grownBy w' none := by subst hv; exact passed_any _ _ _ _ h _ _ _ _ _ hn hz
theorem rpassed_v {so : Option Addr} {n sc : Nat} {f : Nat → Int} {w : World} (hf : IRow w so n f) (h64 : n ≤ 64) {me : Int} {ao : Option Addr} {m c : Nat} {z : Nat → Int} (hz : IRow w ao m z) {v : Bool} (hv : passx n m f me z = v) :
    Calls Try.prog 16 #[.agg #[.slice so n sc], .int .i64 me, .slice ao m c] w fun e w' => e = .returned (.bool v) ∧ w.grownBy w' none := by subst hv; exact rpassed_any _ _ _ _ _ hf h64 _ _ _ _ _ hz

theorem vec_ints {w : World} {ao : Option Addr} {n c : Nat} (h : Vec w ao n c 1 Q3) : ∃ z : Nat → Int, ∀ m, m ≤ n → IRow w ao m z := by
  have : ∀ i, ∃ x : Int, i < n → ∃ b off, ao = some ⟨b, off, none⟩ ∧ w.cell? ⟨b, off + i, none⟩ = some (.int .i64 x) := fun i => by
    by_cases hi : i < n
    · obtain ⟨b, off, v, h1, ⟨x, h2, _⟩, h3⟩ := h.at1 i hi
      cases h2
      exact ⟨x, fun _ => ⟨b, off, h1, h3⟩⟩
    · exact ⟨0, fun h => absurd h hi⟩
  obtain ⟨z, hz⟩ := Classical.axiomOfChoice this
  exact ⟨z, fun m hm i hi => hz i (by omega)⟩
theorem irow_in {w w' : World} {ao : Option Addr} {n : Nat} {z : Nat → Int} (h : IRow w ao n z) (hb : Below w.heap.size w w') : IRow w' ao n z := fun i hi => by
  obtain ⟨b, off, e, hc⟩ := h i hi
  exact ⟨b, off, e, (hb.cell (World.block_lt_of_cell? _ _ hc)).trans hc⟩

set_option maxRecDepth 100000 in
set_option maxHeartbeats 20000000 in
theorem walk_EpochRuns (a0 : Int) (a1 : Option Addr) (a1n a1c : Nat) (w : World) (w0 : (Lit.int .i64 a0).wf = true) (w1 : Vec w a1 a1n a1c 3 (Q29 w)) :
    Calls Try.prog 4 #[.int .i64 a0, .slice a1 a1n a1c] w fun e w' => e = .returned (.bool true) ∧ Below w.heap.size w w' := by
  have hm2 : a1n ≤ 9223372036854775807 := by have := w1.1; have := w1.2.1; unfold maxLen at this; omega
  by_cases hok : 1 ≤ a0 ∧ a0 ≤ 64
  · obtain ⟨n, rfl⟩ := Int.eq_ofNat_of_zero_le (show 0 ≤ a0 by omega)
    have hn1 : 1 ≤ n := by omega
    have hn64 : n ≤ 64 := by omega
    clear hok w0
    go_enter Try.func4, Try.ntmps4
    go_wp2_with fail
    refine (new_ok n _ hn1 hn64).mono ?_
    rintro e w4 ⟨rfl, h4, hg4⟩
    go_wp2_with fail
    refine (rnew_ok n _ hn1 hn64).mono ?_
    rintro e w5 ⟨so, sc, rfl, hr5, hg5⟩
    go_wp2_with fail
    refine (awake_any _).mono ?_
    rintro e w6 ⟨rfl, hg6⟩
    have l4 := hg4.size
    have l5 := hg5.size
    have l4b := h4.lt
    have hinv : Inv w w6 w.heap.size w5.heap.size n (fun _ => 0) so sc :=
      Inv.keep ⟨(h4.keep hg5).keep (g_alloc (g_refl _ _) _), Blk.new _ _ _, hr5.1.keep (g_alloc (g_refl _ _) _), fun a ha => by have := hr5.2 a ha; simp; omega, by omega, by omega, by omega, below_gn (Below.refl _ _) (g_alloc (g_trans hg4 hg5) _) (Nat.le_refl _)⟩ hg6
    have HI := Lib.hid hinv
    clear hinv h4 hr5 hg4 hg5 hg6 l4b
    generalize w5.heap.size = rb at *
    go_wp2_with fail
    go_loopw [5, 9] (fun s i wr => ∃ (k b : Nat) (f : Nat → Int) (so : Option Addr) (sc : Nat), k ≤ a1n ∧ k ≤ 60 ∧ s = .pointer (some ⟨b, 0, none⟩) ∧ i = .int .i64 k ∧ Inv w wr b rb n f so sc ∧ Bd n f k) (fun _ i _ => (300 - intOf i).toNat)
    case atStart => exact ⟨0, _, _, so, sc, by omega, by omega, rfl, rfl, HI.out, fun _ _ => by simp⟩
    case round =>
      clear HI
      obtain ⟨k, b, f, so, sc, hk, hk2, rfl, rfl, hinv, hbd⟩ := hrel
      by_cases hgo : k < a1n ∧ k < 60
      · obtain ⟨hlt, hlt2⟩ := hgo
        obtain ⟨vb, off, cs, rfl, hl, ⟨kd, tt, sa, sn, ssc, rfl, hkd, htt, hvec⟩, hcell⟩ := w1.2.2 k hlt
        have hcell := vec_cell hinv.below hcell
        have hc0 : wr.cell? ⟨vb, off + k * 3, none⟩ = some (.int .i64 kd) := hcell 0 _ rfl
        have hc1 : wr.cell? ⟨vb, off + k * 3 + 1, none⟩ = some (.int .i64 tt) := hcell 1 _ rfl
        have hc2 : wr.cell? ⟨vb, off + k * 3 + 2, none⟩ = some (.slice sa sn ssc) := hcell 2 _ rfl
        have hssc : sn ≤ ssc := hvec.1
        clear hcell hl hkd htt
        have b1 := (hbd.sat tt).1
        have b2 : sat n f tt < 1000000 := by have := (hbd.sat tt).2; omega
        have HBD := Lib.hid hbd
        have HI := Lib.hid hinv
        have HV := Lib.hid hvec
        clear hbd hinv hvec
        obtain ⟨wo, hwo⟩ : ∃ wo : World, wo = wr := ⟨_, rfl⟩
        rw [← hwo] at hc0 hc1 hc2 HI ⊢
        clear hwo
        have lb := HI.out.sl.lt
        have lr := HI.out.blk.lt
        by_cases e1 : kd = 1
        · subst e1
          have g1 : wo.grownBy (wo.alloc (.cells #[.int .i64 1, .int .i64 tt, .slice sa sn ssc] 30)) none := g_alloc (g_refl _ _) _
          have HI1 := Lib.hid (HI.out.keep g1)
          have HO1 := Lib.hid (Blk.new wo #[.int .i64 1, .int .i64 tt, .slice sa sn ssc] 30)
          go_wp2_with fail
          clear HI
          generalize (wo.alloc (.cells #[.int .i64 1, .int .i64 tt, .slice sa sn ssc] 30)) = W at HI1 HO1 ⊢
          generalize wo.heap.size = ob at *
          clear hc0 hc1 hc2 g1
          refine (enter_any _ _ _ _ HI1.out.sl tt (by omega) b1 b2).mono ?_
          rintro e w7 ⟨rfl, h7, hg7⟩
          have hr7 : IRow w7 so n f := HI1.out.row.keeps hg7 (fun a ha => (HI1.out.2.2.2.1 a ha).2.2.1)
          have hb7 := HI1.out.blk.keeps hg7 (Ne.symm HI1.out.2.2.2.2.1)
          have ho7 := HO1.out.keeps hg7 (by omega)
          have d0 := hb7.cell 0 (.slice so n sc) rfl
          have d1 := ho7.cell 1 (.int .i64 tt) rfl
          have HB7 := Lib.hid hb7
          have HO7 := Lib.hid ho7
          clear hb7 ho7
          go_wp2_with fail
          refine (renter_any _ _ _ _ _ hr7 (by omega) tt b1 b2).mono ?_
          rintro e w8 ⟨so', sc', rfl, ha8⟩
          have hgf := g_set (g_refl w8 (some rb)) (p := ⟨rb, 0, none⟩) (.inl rfl) (.slice so' n sc')
          have HI9 := Lib.hid (HI1.out.turn (sc' := sc') h7 hg7 ha8)
          have HO9 := Lib.hid ((HO7.out.keepn ha8.2.2).keeps hgf (by omega))
          have HBD9 := Lib.hid (HBD.out.turn tt false)
          have d2 := (HB7.out.keepn ha8.2.2).cell 0 (.slice so n sc) rfl
          have d3 := (HB7.out.keepn ha8.2.2).free 0
          clear HI1 HO1 HO7 HB7 d0 d1 h7 hg7 hr7 ha8 HBD hgf b1 b2
          generalize turnR n f tt false = gv
          obtain ⟨F9, hF9⟩ : ∃ F9, turnF n f tt false = F9 := ⟨_, rfl⟩
          rw [hF9] at HI9 HBD9
          clear hF9
          go_wp2_with fail
          clear d2 d3
          generalize (w8.setCell ⟨rb, 0, none⟩ (.slice so' n sc')) = W9 at HI9 HO9 ⊢
          refine (snap_any _ _ _ _ HI9.out.sl).mono ?_
          rintro e w10 ⟨v, rfl, ho10, hg10⟩
          obtain ⟨ao, c, rfl, hz, hzb⟩ := irow_of_own ho10
          obtain ⟨g, xs, rfl, hxs, hxsz, hxlo⟩ := row99_of_own ho10 0 (by omega)
          have HZ := Lib.hid hz
          have HX := Lib.hid hxs
          have HI10 := Lib.hid (HI9.out.keep hg10)
          have HO10 := Lib.hid (HO9.out.keepn hg10)
          clear hz hxs ho10 hzb
          have hgg : (gv != gv) = false := by simp
          obtain ⟨sv, hsv⟩ : ∃ sv, sat n F9 tt = sv := ⟨_, rfl⟩
          obtain ⟨nv, hnv⟩ : ∃ nv, sin n F9 tt = nv := ⟨_, rfl⟩
          have hss : (sv != sv) = false := by simp
          have hnn : (nv != nv) = false := by simp
          have hl9 : ((n : Int) != n) = false := by simp
          have s1 : 0 ≤ sat n F9 tt := (HBD9.out.sat tt).1
          have s2 : sat n F9 tt < 1000000 := by have := (HBD9.out.sat tt).2; omega
          have q0 := fun x : GW w10 => x.cell (HI10.out.blk.cell 0 (.slice so' n sc') rfl)
          have q1 := fun x : GW w10 => x.cell (HO10.out.cell 1 (.int .i64 tt) rfl)
          have HS1 := Lib.hid s1
          have HS2 := Lib.hid s2
          have HSV := Lib.hid hsv
          have HNV := Lib.hid hnv
          clear s1 s2 hsv hnv
          go_wp2_with fail
          refine wp_region_gw (by kernel_rfl) (by kernel_rfl) ?_
          repeat (go_big_quiet_step (first
            | (go_at_call 18; exact quiet_g (same_self _ _ _ _ _ _ _ (by omega) (HZ.out.keep (GW.g _)) (HI10.out.row.keep (GW.g _))))
            | (go_at_call 19; exact quiet_g (len_any _ _ _ _ (HI10.out.sl.keep (GW.g _))))
            | (go_at_call 20; exact quiet_g (at_v (HI10.out.sl.keep (GW.g _)) HSV.out))
            | (go_at_call 21; exact quiet_g (rat_v (HI10.out.row.keep (GW.g _)) (by omega) HSV.out))
            | (go_at_call 11; exact quiet_g (in_v (HI10.out.sl.keep (GW.g _)) HS1.out HS2.out HNV.out))
            | (go_at_call 22; exact quiet_g (rin_v (HI10.out.row.keep (GW.g _)) (by omega) HS1.out HNV.out))))
          refine wpQuiet_nil ?_
          intro _ hw'
          obtain ⟨x, hw''⟩ := hw'
          subst hw''
          clear q0 q1 hgg hss hnn hl9
          have hX : Blk x.w g xs 3 := HX.out.keepn x.g
          have gX : W9.grownBy x.w (some g) := g_none (g_trans hg10 x.g) _
          generalize x.w = w11 at hX gX ⊢
          clear x
          have HX1 := Lib.hid hX
          clear hX HX
          go_wp2_with fail
          go_loopw [16] (fun i wr => ∃ (m : Nat) (xs : Array Value), m ≤ n ∧ i = .int .i64 m ∧ Blk wr g xs 3 ∧ n ≤ xs.size ∧ W9.grownBy wr (some g)) (fun i _ => (300 - intOf i).toNat)
          case atStart => exact ⟨0, xs, by omega, rfl, HX1.out, by omega, gX⟩
          case round =>
            obtain ⟨m, ys, hm, rfl, hy, hysz, hgr⟩ := hrel
            by_cases hltm : m < n
            · have hcm := hy.cell m ys[m] (by simp)
              have hfm := hy.free m
              have HY := Lib.hid hy
              clear hy
              go_wp2_with fail
              go_roundw
              case rel => exact ⟨m + 1, _, by omega, by go_num, HY.out.set m _, by simpa using hysz, g_set hgr (.inl rfl) _⟩
              case measure => simp [intOf]; omega
            · go_wp2_with fail
              go_roundw
              case rel => exact ⟨k + 1, b, F9, so', sc', by omega, by omega, rfl, by go_num, HI9.out.keeps hgr hxlo, HBD9.out⟩
              case measure => simp [intOf]; omega
        by_cases e2 : kd = 2
        · subst e2
          have g1 : wo.grownBy (wo.alloc (.cells #[.int .i64 2, .int .i64 tt, .slice sa sn ssc] 30)) none := g_alloc (g_refl _ _) _
          have HI1 := Lib.hid (HI.out.keep g1)
          have HO1 := Lib.hid (Blk.new wo #[.int .i64 2, .int .i64 tt, .slice sa sn ssc] 30)
          go_wp2_with fail
          clear HI
          generalize (wo.alloc (.cells #[.int .i64 2, .int .i64 tt, .slice sa sn ssc] 30)) = W at HI1 HO1 ⊢
          generalize wo.heap.size = ob at *
          clear hc0 hc1 hc2 g1
          refine (leave_any _ _ _ _ HI1.out.sl tt (by omega) b1 b2).mono ?_
          rintro e w7 ⟨rfl, h7, hg7⟩
          have hr7 : IRow w7 so n f := HI1.out.row.keeps hg7 (fun a ha => (HI1.out.2.2.2.1 a ha).2.2.1)
          have hb7 := HI1.out.blk.keeps hg7 (Ne.symm HI1.out.2.2.2.2.1)
          have ho7 := HO1.out.keeps hg7 (by omega)
          have d0 := hb7.cell 0 (.slice so n sc) rfl
          have d1 := ho7.cell 1 (.int .i64 tt) rfl
          have HB7 := Lib.hid hb7
          have HO7 := Lib.hid ho7
          clear hb7 ho7
          go_wp2_with fail
          refine (rleave_any _ _ _ _ _ hr7 (by omega) tt b1 b2).mono ?_
          rintro e w8 ⟨so', sc', rfl, ha8⟩
          have hgf := g_set (g_refl w8 (some rb)) (p := ⟨rb, 0, none⟩) (.inl rfl) (.slice so' n sc')
          have HI9 := Lib.hid (HI1.out.turn (sc' := sc') h7 hg7 ha8)
          have HO9 := Lib.hid ((HO7.out.keepn ha8.2.2).keeps hgf (by omega))
          have HBD9 := Lib.hid (HBD.out.turn tt true)
          have d2 := (HB7.out.keepn ha8.2.2).cell 0 (.slice so n sc) rfl
          have d3 := (HB7.out.keepn ha8.2.2).free 0
          clear HI1 HO1 HO7 HB7 d0 d1 h7 hg7 hr7 ha8 HBD hgf b1 b2
          generalize turnR n f tt true = gv
          obtain ⟨F9, hF9⟩ : ∃ F9, turnF n f tt true = F9 := ⟨_, rfl⟩
          rw [hF9] at HI9 HBD9
          clear hF9
          go_wp2_with fail
          clear d2 d3
          generalize (w8.setCell ⟨rb, 0, none⟩ (.slice so' n sc')) = W9 at HI9 HO9 ⊢
          refine (snap_any _ _ _ _ HI9.out.sl).mono ?_
          rintro e w10 ⟨v, rfl, ho10, hg10⟩
          obtain ⟨ao, c, rfl, hz, hzb⟩ := irow_of_own ho10
          obtain ⟨g, xs, rfl, hxs, hxsz, hxlo⟩ := row99_of_own ho10 0 (by omega)
          have HZ := Lib.hid hz
          have HX := Lib.hid hxs
          have HI10 := Lib.hid (HI9.out.keep hg10)
          have HO10 := Lib.hid (HO9.out.keepn hg10)
          clear hz hxs ho10 hzb
          have hgg : (gv != gv) = false := by simp
          obtain ⟨sv, hsv⟩ : ∃ sv, sat n F9 tt = sv := ⟨_, rfl⟩
          obtain ⟨nv, hnv⟩ : ∃ nv, sin n F9 tt = nv := ⟨_, rfl⟩
          have hss : (sv != sv) = false := by simp
          have hnn : (nv != nv) = false := by simp
          have hl9 : ((n : Int) != n) = false := by simp
          have s1 : 0 ≤ sat n F9 tt := (HBD9.out.sat tt).1
          have s2 : sat n F9 tt < 1000000 := by have := (HBD9.out.sat tt).2; omega
          have q0 := fun x : GW w10 => x.cell (HI10.out.blk.cell 0 (.slice so' n sc') rfl)
          have q1 := fun x : GW w10 => x.cell (HO10.out.cell 1 (.int .i64 tt) rfl)
          have HS1 := Lib.hid s1
          have HS2 := Lib.hid s2
          have HSV := Lib.hid hsv
          have HNV := Lib.hid hnv
          clear s1 s2 hsv hnv
          go_wp2_with fail
          refine wp_region_gw (by kernel_rfl) (by kernel_rfl) ?_
          repeat (go_big_quiet_step (first
            | (go_at_call 18; exact quiet_g (same_self _ _ _ _ _ _ _ (by omega) (HZ.out.keep (GW.g _)) (HI10.out.row.keep (GW.g _))))
            | (go_at_call 19; exact quiet_g (len_any _ _ _ _ (HI10.out.sl.keep (GW.g _))))
            | (go_at_call 20; exact quiet_g (at_v (HI10.out.sl.keep (GW.g _)) HSV.out))
            | (go_at_call 21; exact quiet_g (rat_v (HI10.out.row.keep (GW.g _)) (by omega) HSV.out))
            | (go_at_call 11; exact quiet_g (in_v (HI10.out.sl.keep (GW.g _)) HS1.out HS2.out HNV.out))
            | (go_at_call 22; exact quiet_g (rin_v (HI10.out.row.keep (GW.g _)) (by omega) HS1.out HNV.out))))
          refine wpQuiet_nil ?_
          intro _ hw'
          obtain ⟨x, hw''⟩ := hw'
          subst hw''
          clear q0 q1 hgg hss hnn hl9
          have hX : Blk x.w g xs 3 := HX.out.keepn x.g
          have gX : W9.grownBy x.w (some g) := g_none (g_trans hg10 x.g) _
          generalize x.w = w11 at hX gX ⊢
          clear x
          have HX1 := Lib.hid hX
          clear hX HX
          go_wp2_with fail
          go_loopw [16] (fun i wr => ∃ (m : Nat) (xs : Array Value), m ≤ n ∧ i = .int .i64 m ∧ Blk wr g xs 3 ∧ n ≤ xs.size ∧ W9.grownBy wr (some g)) (fun i _ => (300 - intOf i).toNat)
          case atStart => exact ⟨0, xs, by omega, rfl, HX1.out, by omega, gX⟩
          case round =>
            obtain ⟨m, ys, hm, rfl, hy, hysz, hgr⟩ := hrel
            by_cases hltm : m < n
            · have hcm := hy.cell m ys[m] (by simp)
              have hfm := hy.free m
              have HY := Lib.hid hy
              clear hy
              go_wp2_with fail
              go_roundw
              case rel => exact ⟨m + 1, _, by omega, by go_num, HY.out.set m _, by simpa using hysz, g_set hgr (.inl rfl) _⟩
              case measure => simp [intOf]; omega
            · go_wp2_with fail
              go_roundw
              case rel => exact ⟨k + 1, b, F9, so', sc', by omega, by omega, rfl, by go_num, HI9.out.keeps hgr hxlo, HBD9.out⟩
              case measure => simp [intOf]; omega
        by_cases e3 : kd = 3
        · subst e3
          have g1 : wo.grownBy (wo.alloc (.cells #[.int .i64 3, .int .i64 tt, .slice sa sn ssc] 30)) none := g_alloc (g_refl _ _) _
          have HI1 := Lib.hid (HI.out.keep g1)
          have HO1 := Lib.hid (Blk.new wo #[.int .i64 3, .int .i64 tt, .slice sa sn ssc] 30)
          obtain ⟨z, hzv⟩ := vec_ints HV.out
          have HZW := Lib.hid (fun m (hm : m ≤ sn) => irow_in (hzv m hm) HI1.out.below)
          clear hzv HV
          by_cases h70 : (sn : Int) ≤ 70
          · skip
            go_wp2_with fail
            clear HI g1
            have HZM := Lib.hid (HZW.out sn (by omega))
            clear HZW
            generalize (wo.alloc (.cells #[.int .i64 3, .int .i64 tt, .slice sa sn ssc] 30)) = W at HI1 HO1 HZM ⊢
            generalize wo.heap.size = ob at *
            clear hc0 hc1 hc2
            obtain ⟨pv, hpv⟩ : ∃ pv, passx n sn f tt z = pv := ⟨_, rfl⟩
            have HPV := Lib.hid hpv
            have hpp : (pv != pv) = false := by simp
            have q0 := fun x : GW W => x.cell (HI1.out.blk.cell 0 (.slice so n sc) rfl)
            have q1 := fun x : GW W => x.cell (HO1.out.cell 1 (.int .i64 tt) rfl)
            clear hpv h70
            refine wp_region_gw (by kernel_rfl) (by kernel_rfl) ?_
            repeat (go_big_quiet_step (first
              | (go_at_call 12; exact quiet_g (passed_v (HI1.out.sl.keep (GW.g _)) (by omega) (HZM.out.keep (GW.g _)) HPV.out))
              | (go_at_call 16; exact quiet_g (rpassed_v (HI1.out.row.keep (GW.g _)) (by omega) (HZM.out.keep (GW.g _)) HPV.out))))
            refine wpQuiet_nil ?_
            intro _ hw'
            obtain ⟨x, hw''⟩ := hw'
            subst hw''
            clear q0 q1 hpp
            have HI9 := Lib.hid (HI1.out.keep x.g)
            have HO9 := Lib.hid (HO1.out.keepn x.g)
            have HBD9 := Lib.hid (HBD.out.more (show k ≤ k + 1 by omega))
            clear HI1 HO1 HBD b1 b2 HPV HZM
            generalize x.w = W9 at HI9 HO9 ⊢
            clear x
            obtain ⟨gv, hgv⟩ : ∃ gv : Int, gv = 0 := ⟨_, rfl⟩
            go_wp2_with fail
            refine (snap_any _ _ _ _ HI9.out.sl).mono ?_
            rintro e w10 ⟨v, rfl, ho10, hg10⟩
            obtain ⟨ao, c, rfl, hz, hzb⟩ := irow_of_own ho10
            obtain ⟨g, xs, rfl, hxs, hxsz, hxlo⟩ := row99_of_own ho10 0 (by omega)
            have HZ := Lib.hid hz
            have HX := Lib.hid hxs
            have HI10 := Lib.hid (HI9.out.keep hg10)
            have HO10 := Lib.hid (HO9.out.keepn hg10)
            clear hz hxs ho10 hzb
            have hgg : ((0 : Int) != 0) = false := by simp
            obtain ⟨sv, hsv⟩ : ∃ sv, sat n f tt = sv := ⟨_, rfl⟩
            obtain ⟨nv, hnv⟩ : ∃ nv, sin n f tt = nv := ⟨_, rfl⟩
            have hss : (sv != sv) = false := by simp
            have hnn : (nv != nv) = false := by simp
            have hl9 : ((n : Int) != n) = false := by simp
            have s1 : 0 ≤ sat n f tt := (HBD9.out.sat tt).1
            have s2 : sat n f tt < 1000000 := by have := (HBD9.out.sat tt).2; omega
            have q0 := fun x : GW w10 => x.cell (HI10.out.blk.cell 0 (.slice so n sc) rfl)
            have q1 := fun x : GW w10 => x.cell (HO10.out.cell 1 (.int .i64 tt) rfl)
            have HS1 := Lib.hid s1
            have HS2 := Lib.hid s2
            have HSV := Lib.hid hsv
            have HNV := Lib.hid hnv
            clear s1 s2 hsv hnv
            go_wp2_with fail
            refine wp_region_gw (by kernel_rfl) (by kernel_rfl) ?_
            repeat (go_big_quiet_step (first
              | (go_at_call 18; exact quiet_g (same_self _ _ _ _ _ _ _ (by omega) (HZ.out.keep (GW.g _)) (HI10.out.row.keep (GW.g _))))
              | (go_at_call 19; exact quiet_g (len_any _ _ _ _ (HI10.out.sl.keep (GW.g _))))
              | (go_at_call 20; exact quiet_g (at_v (HI10.out.sl.keep (GW.g _)) HSV.out))
              | (go_at_call 21; exact quiet_g (rat_v (HI10.out.row.keep (GW.g _)) (by omega) HSV.out))
              | (go_at_call 11; exact quiet_g (in_v (HI10.out.sl.keep (GW.g _)) HS1.out HS2.out HNV.out))
              | (go_at_call 22; exact quiet_g (rin_v (HI10.out.row.keep (GW.g _)) (by omega) HS1.out HNV.out))))
            refine wpQuiet_nil ?_
            intro _ hw'
            obtain ⟨x, hw''⟩ := hw'
            subst hw''
            clear q0 q1 hgg hss hnn hl9
            have hX : Blk x.w g xs 3 := HX.out.keepn x.g
            have gX : W9.grownBy x.w (some g) := g_none (g_trans hg10 x.g) _
            generalize x.w = w11 at hX gX ⊢
            clear x
            have HX1 := Lib.hid hX
            clear hX HX
            go_wp2_with fail
            go_loopw [16] (fun i wr => ∃ (m : Nat) (xs : Array Value), m ≤ n ∧ i = .int .i64 m ∧ Blk wr g xs 3 ∧ n ≤ xs.size ∧ W9.grownBy wr (some g)) (fun i _ => (300 - intOf i).toNat)
            case atStart => exact ⟨0, xs, by omega, rfl, HX1.out, by omega, gX⟩
            case round =>
              obtain ⟨m, ys, hm, rfl, hy, hysz, hgr⟩ := hrel
              by_cases hltm : m < n
              · have hcm := hy.cell m ys[m] (by simp)
                have hfm := hy.free m
                have HY := Lib.hid hy
                clear hy
                go_wp2_with fail
                go_roundw
                case rel => exact ⟨m + 1, _, by omega, by go_num, HY.out.set m _, by simpa using hysz, g_set hgr (.inl rfl) _⟩
                case measure => simp [intOf]; omega
              · go_wp2_with fail
                go_roundw
                case rel => exact ⟨k + 1, b, f, so, sc, by omega, by omega, rfl, by go_num, HI9.out.keeps hgr hxlo, HBD9.out⟩
                case measure => simp [intOf]; omega
          · skip
            go_wp2_with fail
            clear HI g1
            have HZM := Lib.hid (HZW.out 70 (by omega))
            clear HZW
            generalize (wo.alloc (.cells #[.int .i64 3, .int .i64 tt, .slice sa sn ssc] 30)) = W at HI1 HO1 HZM ⊢
            generalize wo.heap.size = ob at *
            clear hc0 hc1 hc2
            obtain ⟨pv, hpv⟩ : ∃ pv, passx n 70 f tt z = pv := ⟨_, rfl⟩
            have HPV := Lib.hid hpv
            have hpp : (pv != pv) = false := by simp
            have q0 := fun x : GW W => x.cell (HI1.out.blk.cell 0 (.slice so n sc) rfl)
            have q1 := fun x : GW W => x.cell (HO1.out.cell 1 (.int .i64 tt) rfl)
            clear hpv h70
            refine wp_region_gw (by kernel_rfl) (by kernel_rfl) ?_
            repeat (go_big_quiet_step (first
              | (go_at_call 12; exact quiet_g (passed_v (HI1.out.sl.keep (GW.g _)) (by omega) (HZM.out.keep (GW.g _)) HPV.out))
              | (go_at_call 16; exact quiet_g (rpassed_v (HI1.out.row.keep (GW.g _)) (by omega) (HZM.out.keep (GW.g _)) HPV.out))))
            refine wpQuiet_nil ?_
            intro _ hw'
            obtain ⟨x, hw''⟩ := hw'
            subst hw''
            clear q0 q1 hpp
            have HI9 := Lib.hid (HI1.out.keep x.g)
            have HO9 := Lib.hid (HO1.out.keepn x.g)
            have HBD9 := Lib.hid (HBD.out.more (show k ≤ k + 1 by omega))
            clear HI1 HO1 HBD b1 b2 HPV HZM
            generalize x.w = W9 at HI9 HO9 ⊢
            clear x
            obtain ⟨gv, hgv⟩ : ∃ gv : Int, gv = 0 := ⟨_, rfl⟩
            go_wp2_with fail
            refine (snap_any _ _ _ _ HI9.out.sl).mono ?_
            rintro e w10 ⟨v, rfl, ho10, hg10⟩
            obtain ⟨ao, c, rfl, hz, hzb⟩ := irow_of_own ho10
            obtain ⟨g, xs, rfl, hxs, hxsz, hxlo⟩ := row99_of_own ho10 0 (by omega)
            have HZ := Lib.hid hz
            have HX := Lib.hid hxs
            have HI10 := Lib.hid (HI9.out.keep hg10)
            have HO10 := Lib.hid (HO9.out.keepn hg10)
            clear hz hxs ho10 hzb
            have hgg : ((0 : Int) != 0) = false := by simp
            obtain ⟨sv, hsv⟩ : ∃ sv, sat n f tt = sv := ⟨_, rfl⟩
            obtain ⟨nv, hnv⟩ : ∃ nv, sin n f tt = nv := ⟨_, rfl⟩
            have hss : (sv != sv) = false := by simp
            have hnn : (nv != nv) = false := by simp
            have hl9 : ((n : Int) != n) = false := by simp
            have s1 : 0 ≤ sat n f tt := (HBD9.out.sat tt).1
            have s2 : sat n f tt < 1000000 := by have := (HBD9.out.sat tt).2; omega
            have q0 := fun x : GW w10 => x.cell (HI10.out.blk.cell 0 (.slice so n sc) rfl)
            have q1 := fun x : GW w10 => x.cell (HO10.out.cell 1 (.int .i64 tt) rfl)
            have HS1 := Lib.hid s1
            have HS2 := Lib.hid s2
            have HSV := Lib.hid hsv
            have HNV := Lib.hid hnv
            clear s1 s2 hsv hnv
            go_wp2_with fail
            refine wp_region_gw (by kernel_rfl) (by kernel_rfl) ?_
            repeat (go_big_quiet_step (first
              | (go_at_call 18; exact quiet_g (same_self _ _ _ _ _ _ _ (by omega) (HZ.out.keep (GW.g _)) (HI10.out.row.keep (GW.g _))))
              | (go_at_call 19; exact quiet_g (len_any _ _ _ _ (HI10.out.sl.keep (GW.g _))))
              | (go_at_call 20; exact quiet_g (at_v (HI10.out.sl.keep (GW.g _)) HSV.out))
              | (go_at_call 21; exact quiet_g (rat_v (HI10.out.row.keep (GW.g _)) (by omega) HSV.out))
              | (go_at_call 11; exact quiet_g (in_v (HI10.out.sl.keep (GW.g _)) HS1.out HS2.out HNV.out))
              | (go_at_call 22; exact quiet_g (rin_v (HI10.out.row.keep (GW.g _)) (by omega) HS1.out HNV.out))))
            refine wpQuiet_nil ?_
            intro _ hw'
            obtain ⟨x, hw''⟩ := hw'
            subst hw''
            clear q0 q1 hgg hss hnn hl9
            have hX : Blk x.w g xs 3 := HX.out.keepn x.g
            have gX : W9.grownBy x.w (some g) := g_none (g_trans hg10 x.g) _
            generalize x.w = w11 at hX gX ⊢
            clear x
            have HX1 := Lib.hid hX
            clear hX HX
            go_wp2_with fail
            go_loopw [16] (fun i wr => ∃ (m : Nat) (xs : Array Value), m ≤ n ∧ i = .int .i64 m ∧ Blk wr g xs 3 ∧ n ≤ xs.size ∧ W9.grownBy wr (some g)) (fun i _ => (300 - intOf i).toNat)
            case atStart => exact ⟨0, xs, by omega, rfl, HX1.out, by omega, gX⟩
            case round =>
              obtain ⟨m, ys, hm, rfl, hy, hysz, hgr⟩ := hrel
              by_cases hltm : m < n
              · have hcm := hy.cell m ys[m] (by simp)
                have hfm := hy.free m
                have HY := Lib.hid hy
                clear hy
                go_wp2_with fail
                go_roundw
                case rel => exact ⟨m + 1, _, by omega, by go_num, HY.out.set m _, by simpa using hysz, g_set hgr (.inl rfl) _⟩
                case measure => simp [intOf]; omega
              · go_wp2_with fail
                go_roundw
                case rel => exact ⟨k + 1, b, f, so, sc, by omega, by omega, rfl, by go_num, HI9.out.keeps hgr hxlo, HBD9.out⟩
                case measure => simp [intOf]; omega
        by_cases e4 : kd = 4
        · subst e4
          have g1 : wo.grownBy (wo.alloc (.cells #[.int .i64 4, .int .i64 tt, .slice sa sn ssc] 30)) none := g_alloc (g_refl _ _) _
          have HI1 := Lib.hid (HI.out.keep g1)
          have HO1 := Lib.hid (Blk.new wo #[.int .i64 4, .int .i64 tt, .slice sa sn ssc] 30)
          go_wp2_with fail
          clear HI g1
          generalize (wo.alloc (.cells #[.int .i64 4, .int .i64 tt, .slice sa sn ssc] 30)) = W at HI1 HO1 ⊢
          generalize wo.heap.size = ob at *
          clear hc0 hc1 hc2
          refine (fork_any _ _ _ _ HI1.out.sl (by omega)).mono ?_
          rintro e w7 ⟨fg, rfl, hfg, ⟨F9, h7, hF9⟩, hg7⟩
          have hs7 := HI1.out.sl.keep hg7
          have HB7 := Lib.hid (HO1.out.keepn hg7)
          go_wp2_with fail
          refine (enter_any _ _ _ _ hs7 0 (by omega) (HBD.out.sat 0).1 (by have := (HBD.out.sat 0).2; omega)).mono ?_
          rintro e W9 ⟨rfl, _, hg8⟩
          have HI9 := Lib.hid (HI1.out.fork hg7 hfg h7 hF9 hg8)
          have HO9 := Lib.hid (HB7.out.keeps hg8 (by omega))
          have HBD9 : Hid (Bd n F9 (k + 1)) := Lib.hid (fun t ht => by rw [hF9 t ht]; have := HBD.out t ht; omega)
          clear HI1 HO1 HB7 h7 hg7 hfg hs7 HBD hg8 b1 b2
          generalize turnR n f 0 false = gz
          obtain ⟨gv, hgv⟩ : ∃ gv : Int, gv = 0 := ⟨_, rfl⟩
          go_wp2_with fail
          refine (snap_any _ _ _ _ HI9.out.sl).mono ?_
          rintro e w10 ⟨v, rfl, ho10, hg10⟩
          obtain ⟨ao, c, rfl, hz, hzb⟩ := irow_of_own ho10
          obtain ⟨g, xs, rfl, hxs, hxsz, hxlo⟩ := row99_of_own ho10 0 (by omega)
          have HZ := Lib.hid hz
          have HX := Lib.hid hxs
          have HI10 := Lib.hid (HI9.out.keep hg10)
          have HO10 := Lib.hid (HO9.out.keepn hg10)
          clear hz hxs ho10 hzb
          have hgg : ((0 : Int) != 0) = false := by simp
          obtain ⟨sv, hsv⟩ : ∃ sv, sat n F9 tt = sv := ⟨_, rfl⟩
          obtain ⟨nv, hnv⟩ : ∃ nv, sin n F9 tt = nv := ⟨_, rfl⟩
          have hss : (sv != sv) = false := by simp
          have hnn : (nv != nv) = false := by simp
          have hl9 : ((n : Int) != n) = false := by simp
          have s1 : 0 ≤ sat n F9 tt := (HBD9.out.sat tt).1
          have s2 : sat n F9 tt < 1000000 := by have := (HBD9.out.sat tt).2; omega
          have q0 := fun x : GW w10 => x.cell (HI10.out.blk.cell 0 (.slice so n sc) rfl)
          have q1 := fun x : GW w10 => x.cell (HO10.out.cell 1 (.int .i64 tt) rfl)
          have HS1 := Lib.hid s1
          have HS2 := Lib.hid s2
          have HSV := Lib.hid hsv
          have HNV := Lib.hid hnv
          clear s1 s2 hsv hnv
          go_wp2_with fail
          refine wp_region_gw (by kernel_rfl) (by kernel_rfl) ?_
          repeat (go_big_quiet_step (first
            | (go_at_call 18; exact quiet_g (same_self _ _ _ _ _ _ _ (by omega) (HZ.out.keep (GW.g _)) (HI10.out.row.keep (GW.g _))))
            | (go_at_call 19; exact quiet_g (len_any _ _ _ _ (HI10.out.sl.keep (GW.g _))))
            | (go_at_call 20; exact quiet_g (at_v (HI10.out.sl.keep (GW.g _)) HSV.out))
            | (go_at_call 21; exact quiet_g (rat_v (HI10.out.row.keep (GW.g _)) (by omega) HSV.out))
            | (go_at_call 11; exact quiet_g (in_v (HI10.out.sl.keep (GW.g _)) HS1.out HS2.out HNV.out))
            | (go_at_call 22; exact quiet_g (rin_v (HI10.out.row.keep (GW.g _)) (by omega) HS1.out HNV.out))))
          refine wpQuiet_nil ?_
          intro _ hw'
          obtain ⟨x, hw''⟩ := hw'
          subst hw''
          clear q0 q1 hgg hss hnn hl9
          have hX : Blk x.w g xs 3 := HX.out.keepn x.g
          have gX : W9.grownBy x.w (some g) := g_none (g_trans hg10 x.g) _
          generalize x.w = w11 at hX gX ⊢
          clear x
          have HX1 := Lib.hid hX
          clear hX HX
          go_wp2_with fail
          go_loopw [16] (fun i wr => ∃ (m : Nat) (xs : Array Value), m ≤ n ∧ i = .int .i64 m ∧ Blk wr g xs 3 ∧ n ≤ xs.size ∧ W9.grownBy wr (some g)) (fun i _ => (300 - intOf i).toNat)
          case atStart => exact ⟨0, xs, by omega, rfl, HX1.out, by omega, gX⟩
          case round =>
            obtain ⟨m, ys, hm, rfl, hy, hysz, hgr⟩ := hrel
            by_cases hltm : m < n
            · have hcm := hy.cell m ys[m] (by simp)
              have hfm := hy.free m
              have HY := Lib.hid hy
              clear hy
              go_wp2_with fail
              go_roundw
              case rel => exact ⟨m + 1, _, by omega, by go_num, HY.out.set m _, by simpa using hysz, g_set hgr (.inl rfl) _⟩
              case measure => simp [intOf]; omega
            · go_wp2_with fail
              go_roundw
              case rel => exact ⟨k + 1, fg, F9, so, sc, by omega, by omega, rfl, by go_num, HI9.out.keeps hgr hxlo, HBD9.out⟩
              case measure => simp [intOf]; omega
        have k1 : (kd == 1) = false := beq_eq_false_iff_ne.2 e1
        have k2 : (kd == 2) = false := beq_eq_false_iff_ne.2 e2
        have k3 : (kd == 3) = false := beq_eq_false_iff_ne.2 e3
        have k4 : (kd == 4) = false := beq_eq_false_iff_ne.2 e4
        clear e1 e2 e3 e4
        have g1 : wo.grownBy (wo.alloc (.cells #[.int .i64 kd, .int .i64 tt, .slice sa sn ssc] 30)) none := g_alloc (g_refl _ _) _
        have HI1 := Lib.hid (HI.out.keep g1)
        have HO1 := Lib.hid (Blk.new wo #[.int .i64 kd, .int .i64 tt, .slice sa sn ssc] 30)
        go_wp2_with fail
        clear HI g1
        generalize (wo.alloc (.cells #[.int .i64 kd, .int .i64 tt, .slice sa sn ssc] 30)) = W9 at HI1 HO1 ⊢
        generalize wo.heap.size = ob at *
        clear hc0 hc1 hc2
        have HI9 := HI1
        have HO9 := HO1
        have HBD9 := Lib.hid (HBD.out.more (show k ≤ k + 1 by omega))
        clear HI1 HO1 HBD b1 b2
        obtain ⟨gv, hgv⟩ : ∃ gv : Int, gv = 0 := ⟨_, rfl⟩
        go_wp2_with fail
        refine (snap_any _ _ _ _ HI9.out.sl).mono ?_
        rintro e w10 ⟨v, rfl, ho10, hg10⟩
        obtain ⟨ao, c, rfl, hz, hzb⟩ := irow_of_own ho10
        obtain ⟨g, xs, rfl, hxs, hxsz, hxlo⟩ := row99_of_own ho10 0 (by omega)
        have HZ := Lib.hid hz
        have HX := Lib.hid hxs
        have HI10 := Lib.hid (HI9.out.keep hg10)
        have HO10 := Lib.hid (HO9.out.keepn hg10)
        clear hz hxs ho10 hzb
        have hgg : ((0 : Int) != 0) = false := by simp
        obtain ⟨sv, hsv⟩ : ∃ sv, sat n f tt = sv := ⟨_, rfl⟩
        obtain ⟨nv, hnv⟩ : ∃ nv, sin n f tt = nv := ⟨_, rfl⟩
        have hss : (sv != sv) = false := by simp
        have hnn : (nv != nv) = false := by simp
        have hl9 : ((n : Int) != n) = false := by simp
        have s1 : 0 ≤ sat n f tt := (HBD9.out.sat tt).1
        have s2 : sat n f tt < 1000000 := by have := (HBD9.out.sat tt).2; omega
        have q0 := fun x : GW w10 => x.cell (HI10.out.blk.cell 0 (.slice so n sc) rfl)
        have q1 := fun x : GW w10 => x.cell (HO10.out.cell 1 (.int .i64 tt) rfl)
        have HS1 := Lib.hid s1
        have HS2 := Lib.hid s2
        have HSV := Lib.hid hsv
        have HNV := Lib.hid hnv
        clear s1 s2 hsv hnv
        go_wp2_with fail
        refine wp_region_gw (by kernel_rfl) (by kernel_rfl) ?_
        repeat (go_big_quiet_step (first
          | (go_at_call 18; exact quiet_g (same_self _ _ _ _ _ _ _ (by omega) (HZ.out.keep (GW.g _)) (HI10.out.row.keep (GW.g _))))
          | (go_at_call 19; exact quiet_g (len_any _ _ _ _ (HI10.out.sl.keep (GW.g _))))
          | (go_at_call 20; exact quiet_g (at_v (HI10.out.sl.keep (GW.g _)) HSV.out))
          | (go_at_call 21; exact quiet_g (rat_v (HI10.out.row.keep (GW.g _)) (by omega) HSV.out))
          | (go_at_call 11; exact quiet_g (in_v (HI10.out.sl.keep (GW.g _)) HS1.out HS2.out HNV.out))
          | (go_at_call 22; exact quiet_g (rin_v (HI10.out.row.keep (GW.g _)) (by omega) HS1.out HNV.out))))
        refine wpQuiet_nil ?_
        intro _ hw'
        obtain ⟨x, hw''⟩ := hw'
        subst hw''
        clear q0 q1 hgg hss hnn hl9
        have hX : Blk x.w g xs 3 := HX.out.keepn x.g
        have gX : W9.grownBy x.w (some g) := g_none (g_trans hg10 x.g) _
        generalize x.w = w11 at hX gX ⊢
        clear x
        have HX1 := Lib.hid hX
        clear hX HX
        go_wp2_with fail
        go_loopw [16] (fun i wr => ∃ (m : Nat) (xs : Array Value), m ≤ n ∧ i = .int .i64 m ∧ Blk wr g xs 3 ∧ n ≤ xs.size ∧ W9.grownBy wr (some g)) (fun i _ => (300 - intOf i).toNat)
        case atStart => exact ⟨0, xs, by omega, rfl, HX1.out, by omega, gX⟩
        case round =>
          obtain ⟨m, ys, hm, rfl, hy, hysz, hgr⟩ := hrel
          by_cases hltm : m < n
          · have hcm := hy.cell m ys[m] (by simp)
            have hfm := hy.free m
            have HY := Lib.hid hy
            clear hy
            go_wp2_with fail
            go_roundw
            case rel => exact ⟨m + 1, _, by omega, by go_num, HY.out.set m _, by simpa using hysz, g_set hgr (.inl rfl) _⟩
            case measure => simp [intOf]; omega
          · go_wp2_with fail
            go_roundw
            case rel => exact ⟨k + 1, b, f, so, sc, by omega, by omega, rfl, by go_num, HI9.out.keeps hgr hxlo, HBD9.out⟩
            case measure => simp [intOf]; omega
      · have HI := Lib.hid hinv
        clear hinv hbd
        by_cases hlt : k < a1n
        all_goals
          go_wp2_with fail
          go_ret
          exact ⟨rfl, HI.out.below⟩
  · have hno : a0 < 1 ∨ 64 < a0 := by omega
    clear hok w0
    go_enter Try.func4, Try.ntmps4
    go_wp2_with fail
    refine (new_no a0 _ hno).mono ?_
    rintro e w4 ⟨rfl, rfl⟩
    go_wp2_with fail
    refine (rnew_no a0 _ hno).mono ?_
    rintro e w5 ⟨rfl, hg5⟩
    go_wp2_with fail
    refine (awake_any _).mono ?_
    rintro e w6 ⟨rfl, hg6⟩
    go_wp2_with fail
    refine wp_loop_rounds 1 ?_
    rw [rounds_succ]
    have hb := below_gn (Below.refl w.heap.size w) (g_trans (g_alloc hg5 _) hg6) (Nat.le_refl _)
    by_cases hl : (0 : Int) < a1n
    all_goals
      go_wp2_with fail
      go_ret
      exact ⟨rfl, hb⟩
end Go.Proofs.Ytaggoepiandblaa
