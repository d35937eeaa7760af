/- The law EpochQuiet: what was snapped is passed just when each other thread that was within has left. -/
import Derived.Test.YtaggoepiandblaaP
import Derived.Test.YtaggoepiandblaaShapes
namespace Go.Proofs.Ytaggoepiandblaa
open Go.RowKit

theorem false8 (i : Nat) : i < 8 → (#[.bool false, .bool false, .bool false, .bool false, .bool false, .bool false, .bool false, .bool false] : Array Value)[i]? = some (.bool false) := by
  intro h
  have : i = 0 ∨ i = 1 ∨ i = 2 ∨ i = 3 ∨ i = 4 ∨ i = 5 ∨ i = 6 ∨ i = 7 := by omega
  rcases this with rfl | rfl | rfl | rfl | rfl | rfl | rfl | rfl <;> rfl
theorem new8 (w : World) : ABlk (w.alloc (.cells #[.bool false, .bool false, .bool false, .bool false, .bool false, .bool false, .bool false, .bool false] 33)) w.heap.size 33 8 (fun _ => .bool false) :=
  ABlk.of (Blk.new w #[.bool false, .bool false, .bool false, .bool false, .bool false, .bool false, .bool false, .bool false] 33) rfl false8

set_option maxRecDepth 100000 in
set_option maxHeartbeats 3200000 in
theorem walk_EpochQuiet (a0 : Int) (a1 : Int) (a2 : Option Addr) (a2n a2c : Nat) (a3 : Option Addr) (a3n a3c : Nat) (w : World) (w0 : (Lit.int .u8 a0).wf = true) (_w1 : (Lit.int .i64 a1).wf = true) (w2 : Vec w a2 a2n a2c 3 (Q29 w)) (w3 : Vec w a3 a3n a3c 3 (Q29 w)) :
    Calls Try.prog 3 #[.int .u8 a0, .int .i64 a1, .slice a2 a2n a2c, .slice a3 a3n a3c] w fun e w' => e = .returned (.bool true) ∧ Below w.heap.size w w' := by
  have hx : 0 ≤ a0 ∧ a0 ≤ 255 := by simpa [Lit.wf, IntKind.min, IntKind.max, IntKind.signed, IntKind.bits] using w0
  clear w0
  obtain ⟨ha, hb⟩ := hx
  have hm2 : a2n ≤ 9223372036854775807 := by have := w2.1; have := w2.2.1; unfold maxLen at this; omega
  have hm3 : a3n ≤ 9223372036854775807 := by have := w3.1; have := w3.2.1; unfold maxLen at this; omega
  obtain ⟨n, hn, hn1, hn6⟩ : ∃ n : Nat, 1 + a0 % 6 = (n : Int) ∧ 1 ≤ n ∧ n ≤ 6 := ⟨(1 + a0 % 6).toNat, by omega, by omega, by omega⟩
  go_enter Try.func3, Try.ntmps3
  go_wp2_with fail
  refine (new_ok n _ hn1 (by omega)).mono ?_
  rintro e w4 ⟨rfl, h4, hg4⟩
  go_wp2_with fail
  refine (awake_any _).mono ?_
  rintro e w5 ⟨rfl, hg5⟩
  have h5 := h4.keep hg5
  have hB5 : Below w.heap.size w w5 := below_gn (Below.refl _ _) (g_trans hg4 hg5) (Nat.le_refl _)
  clear h4 hg4 hg5
  go_wp2_with fail
  go_loopw [12] (fun i wr => ∃ (k : Nat) (f : Nat → Int), k ≤ a2n ∧ k ≤ 60 ∧ i = .int .i64 k ∧ Sl wr w.heap.size n f ∧ Bd n f k ∧ Below w.heap.size w wr) (fun i _ => (300 - intOf i).toNat)
  case atStart => exact ⟨0, _, by omega, by omega, rfl, h5, fun _ _ => by simp, hB5⟩
  case round =>
    obtain ⟨k, f, hk, hk2, rfl, hf, hbd, hb⟩ := hrel
    clear h5 hB5
    by_cases hgo : k < a2n ∧ k < 60
    · obtain ⟨hlt, hlt2⟩ := hgo
      · obtain ⟨b, off, cs, rfl, hl, ⟨kd, tt, sa, sn, sc, rfl, hkd, htt, _⟩, hcell⟩ := w2.2.2 k hlt
        have hcell := vec_cell hb hcell
        have hc0 : wr.cell? ⟨b, off + k * 3, none⟩ = some (.int .i64 kd) := hcell 0 _ rfl
        have hc1 : wr.cell? ⟨b, off + k * 3 + 1, none⟩ = some (.int .i64 tt) := hcell 1 _ rfl
        clear hcell hl hkd htt
        have b1 := (hbd.sat tt).1
        have b2 : sat n f tt < 1000000 := by have := (hbd.sat tt).2; omega
        have HBD := Lib.hid hbd
        have HB := Lib.hid hb
        clear hbd hb
        by_cases e1 : kd = 1
        · subst e1
          go_wp2_with fail
          refine (enter_any _ _ _ _ hf tt (by omega) b1 b2).mono ?_
          rintro e w6 ⟨rfl, h6, hg6⟩
          go_wp2_with fail
          go_roundw
          case rel => exact ⟨k + 1, _, by omega, by omega, by go_num, h6, HBD.out.turn _ _, below_gs HB.out hg6 HB.out.size (Nat.le_refl _)⟩
          case measure => simp [intOf]; omega
        · have hk1 : (kd == 1) = false := beq_eq_false_iff_ne.2 e1
          clear e1
          go_wp2_with fail
          refine (leave_any _ _ _ _ hf tt (by omega) b1 b2).mono ?_
          rintro e w6 ⟨rfl, h6, hg6⟩
          go_wp2_with fail
          go_roundw
          case rel => exact ⟨k + 1, _, by omega, by omega, by go_num, h6, HBD.out.turn _ _, below_gs HB.out hg6 HB.out.size (Nat.le_refl _)⟩
          case measure => simp [intOf]; omega
    · have hbd60 : Bd n f 60 := hbd.more hk2
      have HBD := Lib.hid hbd60
      have HB := Lib.hid hb
      clear hbd hbd60 hb
      by_cases hlt : k < a2n
      all_goals
        go_wp2_with fail
        refine (snap_any _ _ _ _ hf).mono ?_
        rintro e w6 ⟨v, rfl, ho6, hg6⟩
        obtain ⟨ao, c, rfl, hz, hzb⟩ := irow_of_own ho6
        have hf6 := hf.keep hg6
        have hs6 := hg6.size
        have hlt6 := hf6.lt
        have hltr := hf.lt
        have hb6 := below_gn HB.out hg6 HB.out.size
        have HZ := Lib.hid hz
        clear hz ho6 hg6
        go_wp2_with fail
        have g67 : w6.grownBy ((w6.alloc (.cells #[.bool false, .bool false, .bool false, .bool false, .bool false, .bool false, .bool false, .bool false] 33)).alloc (.cells #[.bool false, .bool false, .bool false, .bool false, .bool false, .bool false, .bool false, .bool false] 33)) none := g_alloc (g_alloc (g_refl _ _) _) _
        have hw7 : ABlk ((w6.alloc (.cells #[.bool false, .bool false, .bool false, .bool false, .bool false, .bool false, .bool false, .bool false] 33)).alloc (.cells #[.bool false, .bool false, .bool false, .bool false, .bool false, .bool false, .bool false, .bool false] 33)) w6.heap.size 33 8 (fun _ => .bool false) := (new8 w6).keepn (g_alloc (g_refl _ _) _)
        have hl7 : ABlk ((w6.alloc (.cells #[.bool false, .bool false, .bool false, .bool false, .bool false, .bool false, .bool false, .bool false] 33)).alloc (.cells #[.bool false, .bool false, .bool false, .bool false, .bool false, .bool false, .bool false, .bool false] 33)) (w6.heap.size + 1) 33 8 (fun _ => .bool false) := by
          have := new8 (w6.alloc (.cells #[.bool false, .bool false, .bool false, .bool false, .bool false, .bool false, .bool false, .bool false] 33))
          simpa using this
        have hf7 : Sl ((w6.alloc (.cells #[.bool false, .bool false, .bool false, .bool false, .bool false, .bool false, .bool false, .bool false] 33)).alloc (.cells #[.bool false, .bool false, .bool false, .bool false, .bool false, .bool false, .bool false, .bool false] 33)) w.heap.size n f := hf6.keep g67
        have hb7 : Below w.heap.size w ((w6.alloc (.cells #[.bool false, .bool false, .bool false, .bool false, .bool false, .bool false, .bool false, .bool false] 33)).alloc (.cells #[.bool false, .bool false, .bool false, .bool false, .bool false, .bool false, .bool false, .bool false] 33)) := below_gn hb6 g67 hb6.size
        have HZ7 : Hid (IRow ((w6.alloc (.cells #[.bool false, .bool false, .bool false, .bool false, .bool false, .bool false, .bool false, .bool false] 33)).alloc (.cells #[.bool false, .bool false, .bool false, .bool false, .bool false, .bool false, .bool false, .bool false] 33)) ao n f) := Lib.hid (HZ.out.keep g67)
        generalize ((w6.alloc (.cells #[.bool false, .bool false, .bool false, .bool false, .bool false, .bool false, .bool false, .bool false] 33)).alloc (.cells #[.bool false, .bool false, .bool false, .bool false, .bool false, .bool false, .bool false, .bool false] 33)) = W7 at hw7 hl7 hf7 hb7 HZ7 ⊢
        clear g67 hf6 hb6 HZ hf HB
        have HW := Lib.hid hw7
        have HL := Lib.hid hl7
        have HF := Lib.hid hf7
        clear hw7 hl7 hf7
        go_loopw [16] (fun i wr => ∃ m : Nat, m ≤ n ∧ i = .int .i64 m ∧ ABlk wr w6.heap.size 33 8 (fun t => .bool (decide (t < m ∧ f t % 2 = 1))) ∧ W7.grownBy wr (some w6.heap.size)) (fun i _ => (300 - intOf i).toNat)
        case atStart => exact ⟨0, by omega, rfl, HW.out.congr (fun i _ => by simp), g_refl _ _⟩
        case round =>
          obtain ⟨m, hm, rfl, hwm, hgm⟩ := hrel
          have hfm := HF.out.keeps hgm (by omega)
          by_cases hltm : m < n
          · have b1 := (HBD.out.sat m).1
            have b2 : sat n f m < 1000000 := by have := (HBD.out.sat m).2; omega
            have hm8 : (m : Int) < 8 := by omega
            go_wp2_with fail
            refine (in_any _ _ _ _ hfm m b1 b2).mono ?_
            rintro e w8 ⟨rfl, hg8⟩
            have hw8 := hwm.keepn hg8
            have hc8 := hw8.cell m (by omega)
            have hfr8 := hw8.free m
            clear b1 b2
            have HW8 := Lib.hid hw8
            clear hw8 hwm
            go_wp2_with fail
            go_roundw
            case rel => exact ⟨m + 1, by omega, by go_num, (HW8.out.set m _).congr (fun i _ => by
              by_cases e : i = m
              · subst e; simp [sin_at hltm]
              · have : (i < m ∧ f i % 2 = 1) = (i < m + 1 ∧ f i % 2 = 1) := by apply propext; constructor <;> (rintro ⟨h1, h2⟩; exact ⟨by omega, h2⟩)
                simp only [e, if_false, this]), g_set (g_then hgm hg8) (.inl rfl) _⟩
            case measure => simp [intOf]; omega
          · obtain rfl : n = m := by omega
            have hst0 : St wr w.heap.size w6.heap.size (w6.heap.size + 1) ao n f f (fun _ => false) :=
              ⟨hfm, hwm.congr (fun i _ => by simp [wasIn]), HL.out.keeps hgm (by omega), HZ7.out.keeps hgm (fun a ha => by have := (hzb a ha).2; omega), by omega, by omega, by omega, fun a ha => by have := hzb a ha; omega⟩
            have HST := Lib.hid hst0
            have hb8 := below_gs hb7 hgm hb7.size (by omega)
            clear hst0 hfm hwm hgm HL HZ7 HW HF hb7
            obtain ⟨wo, hwo⟩ : ∃ wo : World, wo = wr := ⟨_, rfl⟩
            rw [← hwo] at HST hb8 ⊢
            clear hwo
            go_wp2_with fail
            go_loopw [17, 18] (fun pv i wr => ∃ (j : Nat) (g : Nat → Int) (L : Nat → Bool) (p : Bool), j ≤ a3n ∧ j ≤ 60 ∧ i = .int .i64 j ∧ pv = .bool p ∧ St wr w.heap.size w6.heap.size (w6.heap.size + 1) ao n f g L ∧ Left n f g L ∧ Bd n g (60 + j) ∧ (p = true → allb a1 n f L n = true) ∧ Below w.heap.size w wr) (fun _ i _ => (300 - intOf i).toNat)
            case atStart => exact ⟨0, f, _, false, by omega, by omega, rfl, rfl, HST.out, Left.start n f, HBD.out.more (by omega), by simp, hb8⟩
            case round =>
              obtain ⟨j, g, L, p, hj, hj2, rfl, rfl, hst, hleft, hbdg, hp, hb⟩ := hrel
              clear HST hb8 HBD
              have hjl : (j : Int) ≤ a3n := by omega
              have hj60 : (j : Int) ≤ 60 := by omega
              have HBD := Lib.hid hbdg
              have HP := Lib.hid hp
              have HLE := Lib.hid hleft
              have HS := Lib.hid hst
              clear hbdg hp hleft hst
              go_wp2_with fail
              go_loop [19, 20] (fun a t => ∃ (m : Nat) (q : Bool), m ≤ n ∧ t = .int .i64 m ∧ a = .bool q ∧ q = allb a1 n f L m) (fun _ t => (300 - intOf t).toNat)
              case atStart => exact ⟨0, true, by omega, rfl, rfl, (allb_zero _ _ _ _).symm⟩
              case round =>
                obtain ⟨m, q, hm, rfl, rfl, hq⟩ := hrel
                by_cases hltm : m < n
                · have hm8 : (m : Int) < 8 := by omega
                  have hsucc := allb_succ a1 n f L m
                  rw [← hq] at hsucc
                  have HSU := Lib.hid hsucc
                  clear hq hsucc
                  have hcw := HS.out.2.1.cell m (by omega)
                  have hcl := HS.out.2.2.1.cell m (by omega)
                  cases q
                  · clear hcw hcl
                    go_wp2_with fail
                    go_round
                    case rel => exact ⟨m + 1, false, by omega, by go_num, rfl, by rw [HSU.out]; simp⟩
                    case measure => simp [intOf]; omega
                  · by_cases c1 : a1 = (m : Int)
                    · clear hcw hcl
                      have HG : Hid (gone a1 n f L m) := Lib.hid (.inl c1.symm)
                      have b1 := beq_iff_eq.2 c1.symm
                      clear c1
                      go_wp2_with fail
                      go_round
                      case rel => exact ⟨m + 1, true, by omega, by go_num, rfl, by rw [HSU.out]; simp [HG.out]⟩
                      case measure => simp [intOf]; omega
                    · have b1 : ((m : Int) == a1) = false := beq_eq_false_iff_ne.2 (fun e => c1 e.symm)
                      cases c2 : wasIn n f m
                      · rw [c2] at hcw
                        have HG : Hid (gone a1 n f L m) := Lib.hid (.inr (.inl c2))
                        clear c1 c2 hcl
                        go_wp2_with fail
                        go_round
                        case rel => exact ⟨m + 1, true, by omega, by go_num, rfl, by rw [HSU.out]; simp [HG.out]⟩
                        case measure => simp [intOf]; omega
                      · rw [c2] at hcw
                        cases c3 : L m
                        · rw [c3] at hcl
                          have HG : Hid (¬ gone a1 n f L m) := Lib.hid (by rintro (h | h | h); exact c1 h.symm; rw [h] at c2; cases c2; rw [h] at c3; cases c3)
                          clear c1 c2 c3
                          go_wp2_with fail
                          go_round
                          case rel => exact ⟨m + 1, false, by omega, by go_num, rfl, by rw [HSU.out]; simp [HG.out]⟩
                          case measure => simp [intOf]; omega
                        · rw [c3] at hcl
                          have HG : Hid (gone a1 n f L m) := Lib.hid (.inr (.inr c3))
                          clear c1 c2 c3
                          go_wp2_with fail
                          go_round
                          case rel => exact ⟨m + 1, true, by omega, by go_num, rfl, by rw [HSU.out]; simp [HG.out]⟩
                          case measure => simp [intOf]; omega
                · obtain rfl : n = m := by omega
                  have hpa := passb_allb HLE.out a1
                  rw [← hq] at hpa
                  have HPA := Lib.hid hpa
                  have HQ := Lib.hid hq
                  clear hpa hq
                  go_wp2_with fail
                  refine (passed_same _ _ _ _ HS.out.1 _ _ _ _ (by omega) HS.out.2.2.2.1).mono ?_
                  rw [HPA.out]
                  rintro e w8 ⟨rfl, hg8⟩
                  have HS8 := Lib.hid (HS.out.keep hg8)
                  have hb8 := below_gn hb hg8 hb.size
                  have hpq : p = true → q = true := fun h => by rw [HQ.out]; exact HP.out h
                  have HB8 := Lib.hid hb8
                  have HPQ := Lib.hid hpq
                  clear hb hb8 hg8 hpq HPA HS
                  by_cases hend : j = a3n
                  · obtain rfl : a3n = j := hend.symm
                    cases q <;> cases p
                    case false.true => exact absurd (HPQ.out rfl) (by simp)
                    all_goals
                      go_wp2_with fail
                      go_ret
                      exact ⟨rfl, HB8.out⟩
                  · by_cases hend2 : j = 60
                    · subst hend2
                      cases q <;> cases p
                      case false.true => exact absurd (HPQ.out rfl) (by simp)
                      all_goals
                        go_wp2_with fail
                        go_ret
                        exact ⟨rfl, HB8.out⟩
                    · have hltj : j < a3n := by omega
                      have e1 : ((j : Int) == a3n) = false := beq_eq_false_iff_ne.2 (by omega)
                      have e2 : ((j : Int) == 60) = false := beq_eq_false_iff_ne.2 (by omega)
                      obtain ⟨b, off, cs, rfl, hl, ⟨kd, tt, sa, sn, sc, rfl, hkd, htt, _⟩, hcell⟩ := w3.2.2 j hltj
                      have hcell := vec_cell HB8.out hcell
                      have hc0 : w8.cell? ⟨b, off + j * 3, none⟩ = some (.int .i64 kd) := hcell 0 _ rfl
                      have hc1 : w8.cell? ⟨b, off + j * 3 + 1, none⟩ = some (.int .i64 tt) := hcell 1 _ rfl
                      have hc2 : w8.cell? ⟨b, off + j * 3 + 2, none⟩ = some (.slice sa sn sc) := hcell 2 _ rfl
                      clear hcell hl hkd htt
                      have b1 := (HBD.out.sat tt).1
                      have b2 : sat n g tt < 1000000 := by have := (HBD.out.sat tt).2; omega
                      cases q <;> cases p
                      case false.true => exact absurd (HPQ.out rfl) (by simp)
                      all_goals
                        by_cases k1 : kd = 1
                        · subst k1
                          go_wp2_with fail
                          refine (enter_any _ _ _ _ (HS8.out.keep (g_alloc (g_refl _ _) _)).1 tt (by omega) b1 b2).mono ?_
                          rintro e w9 ⟨rfl, h9, hg9⟩
                          have hs9 := (HS8.out.keep (g_alloc (g_refl _ _) _)).turn h9 hg9
                          have hg89 := g_trans (g_alloc (g_refl w8 (some w.heap.size)) (.cells #[.int .i64 1, .int .i64 tt, .slice sa sn sc] 30)) hg9
                          clear h9 hg9
                          have HS9 := Lib.hid hs9
                          clear hs9
                          go_wp2_with fail
                          go_roundw
                          case rel => exact ⟨j + 1, _, L, _, by omega, by omega, by go_num, rfl, HS9.out, HLE.out.enter tt, HBD.out.turn tt false, fun h => HQ.out.symm.trans h, below_gs HB8.out hg89 HB8.out.size (Nat.le_refl _)⟩
                          case measure => simp [intOf]; omega
                        · have hk1 : (kd == 1) = false := beq_eq_false_iff_ne.2 k1
                          clear k1
                          by_cases h0 : turnR n g tt true = 0
                          · obtain ⟨u0, un⟩ := turnR_in h0
                            obtain ⟨u, rfl⟩ := Int.eq_ofNat_of_zero_le u0
                            have H0 := Lib.hid h0
                            clear h0
                            go_wp2_with fail
                            refine (leave_any _ _ _ _ (HS8.out.keep (g_alloc (g_refl _ _) _)).1 u (by omega) b1 b2).mono ?_
                            rw [H0.out]
                            rintro e w9 ⟨rfl, h9, hg9⟩
                            have hs9 := (HS8.out.keep (g_alloc (g_refl _ _) _)).turn h9 hg9
                            have hg89 := g_trans (g_alloc (g_refl w8 (some w.heap.size)) (.cells #[.int .i64 kd, .int .i64 u, .slice sa sn sc] 30)) hg9
                            have hbo := (Blk.new w8 #[.int .i64 kd, .int .i64 u, .slice sa sn sc] 30).keeps hg9 (by have := HS8.out.1.lt; omega)
                            have hco := hbo.cell 1 _ rfl
                            have hcl := hs9.2.2.1.cell u (by omega)
                            have hfl := hs9.2.2.1.free u
                            have hu8 : (u : Int) < 8 := by omega
                            have HS9 := Lib.hid hs9
                            clear hs9 h9 hg9 hbo
                            go_wp2_with fail
                            go_roundw
                            case rel => exact ⟨j + 1, _, _, _, by omega, by omega, by go_num, rfl, HS9.out.left u, HLE.out.leave u (by omega) H0.out, HBD.out.turn u true, fun h => allb_mono (HQ.out.symm.trans h) u, below_gs (below_gs HB8.out hg89 HB8.out.size (Nat.le_refl _)) (g_set (g_refl w9 (some (w6.heap.size + 1))) (.inl rfl) _) (by have := HB8.out.size; have := hg89.size; omega) (by omega)⟩
                            case measure => simp [intOf]; omega
                          · have hno := turnF_no h0
                            have hr : (turnR n g tt true == 0) = false := beq_eq_false_iff_ne.2 h0
                            have HN := Lib.hid hno
                            clear h0 hno
                            go_wp2_with fail
                            refine (leave_any _ _ _ _ (HS8.out.keep (g_alloc (g_refl _ _) _)).1 tt (by omega) b1 b2).mono ?_
                            rw [HN.out]
                            generalize turnR n g tt true = r at hr ⊢
                            rintro e w9 ⟨rfl, h9, hg9⟩
                            have hs9 := (HS8.out.keep (g_alloc (g_refl _ _) _)).turn h9 hg9
                            have hg89 := g_trans (g_alloc (g_refl w8 (some w.heap.size)) (.cells #[.int .i64 kd, .int .i64 tt, .slice sa sn sc] 30)) hg9
                            have HS9 := Lib.hid hs9
                            clear hs9 h9 hg9
                            go_wp2_with fail
                            go_roundw
                            case rel => exact ⟨j + 1, _, _, _, by omega, by omega, by go_num, rfl, HS9.out, HLE.out, HBD.out.more (by omega), fun h => HQ.out.symm.trans h, below_gs HB8.out hg89 HB8.out.size (Nat.le_refl _)⟩
                            case measure => simp [intOf]; omega
end Go.Proofs.Ytaggoepiandblaa
