/- Sound, where there are no registers; the page's example. -/
import Derived.Test.YtkkcfielmpjgeaaJ
namespace Go.Proofs.Ytkkcfielmpjgeaa
open Go.RowKit
set_option linter.unusedVariables false
set_option linter.unusedSimpArgs false

theorem walk_obj {Ls : List OB} {inb : OB → Bool} {vs L : List VV} (h : Wlk (V Ls inb) (sc Ls) [] vs L) : ∀ v ∈ L, obj Ls v ≠ none := fun v hv e => by
  rcases h.closed v hv with q | ⟨q, _⟩
  · cases q
  · obtain ⟨o, _, _, h1, _⟩ := V_obj q
    rw [e] at h1; cases h1
theorem walk_wv {Ls : List OB} (hW : ∀ o ∈ Ls, WO o) {inb : OB → Bool} {vs L : List VV} (h : Wlk (V Ls inb) (sc Ls) [] vs L) : ∀ v ∈ L, WV v := fun v hv => by
  rcases h.closed v hv with q | ⟨q, _⟩
  · cases q
  · obtain ⟨o, h0, rfl, _⟩ := V_obj q
    exact (hW o h0).1

set_option maxRecDepth 100000 in
set_option maxHeartbeats 3200000 in
theorem soundv_any (B pl pa : Nat) (ao : Option Addr) (n c m : Nat) (Ls : List OB) (ro : Option Addr) (rn rc : Nat) (R : List VV) (w : World) (c1 : w.cell? ⟨pl, 0, none⟩ = some (.slice ao n c)) (c2 : w.cell? ⟨pa, 0, none⟩ = some (.map (some m)))
    (hR : ORow w B ao Ls) (hB : B ≤ w.heap.size) (hW : ∀ o ∈ Ls, WO o) (hI : IMap w m n (ix Ls)) (hl : Ls.length = n) (hn : n ≤ 1000) (hs : SRow w ro R) (hrl : R.length = rn) (hrc : rn ≤ 1000) (hv : ∀ v ∈ R, WV v) :
    Calls Try.prog 32 #[.int .i64 (-1), .slice ro rn rc, .pointer (some ⟨pl, 0, none⟩), .pointer (some ⟨pa, 0, none⟩)] w fun e w' => ∃ L, e = .returned (.bool (L.any (priv Ls))) ∧ Wlk (V Ls ia) (sc Ls) [] R L ∧ w.grownBy w' none := by
  have hmf : ∀ (fn : Fn) (first cap : Array Value) (w : World), (Instr.makeFunc fn first cap).run Try.prog w = .ok (.func fn first cap) w := fun _ _ _ _ => rfl
  have ga := g_alloc (g_refl w none) (.cells #[.int .i64 (-1)] 3)
  have ct := (Blk.new w #[.int .i64 (-1)] 3).cell 0 _ rfl
  have HG := Lib.hid ga
  have k1 := ga.cell c1 (by simp)
  have k2 := ga.cell c2 (by simp)
  have HRE := Lib.hid (reach_any B ao n c Ls ro rn rc R _ (hR.keepn ga) (Nat.le_trans hB ga.size) hW hl hn (hs.keep ga) hrl hrc hv)
  have HX := Lib.hid (And.intro (hR.keepn ga) (And.intro hW (hI.keep ga (by simp))))
  have HL := Lib.hid hl
  clear c1 c2 hR hB hI hs hrl hv ga hl hW
  obtain ⟨pt, hpt⟩ : ∃ pt, w.heap.size = pt := ⟨_, rfl⟩
  rw [hpt] at ct
  have HSE : Hid (Seen (w.alloc (.cells #[.int .i64 (-1)] 3)) pl pa pt ao n c m) := Lib.hid ⟨k1, k2, ct⟩
  go_enter Try.func32, Try.ntmps32
  go_wp2_with fail
  refine HRE.out.mono ?_
  rintro e w1 ⟨rv, L, rfl, hwl, hrow, hll, g1⟩
  obtain ⟨lo, lc, rfl, hsr, -⟩ := srow_of_own hrow
  have HC := Lib.hid (contains_any pl pa pt (priv Ls) L lo L.length lc w1 hsr rfl (by omega) (fun v hv w' g => seen_any B pl pa pt ao n c m Ls v.1 v.2 w' ((HSE.out.keepn g1).keepn g) ((HX.out.1.keepn g1).keepn g) ((HX.out.2.2.keep g1 (by simp)).keep g (by simp)) HL.out (walk_wv HX.out.2.1 hwl v hv) (walk_obj hwl v hv)))
  have HE := Lib.hid (And.intro hwl (g_trans HG.out g1))
  clear hwl hrow g1 hsr k1 k2 ct
  go_wp2_with fail
  refine HC.out.mono ?_
  rintro e w2 ⟨rfl, g2⟩
  have HE2 := Lib.hid (g_trans HE.out.2 g2)
  clear g2
  go_wp2_with fail
  go_ret
  exact ⟨L, rfl, HE.out.1, HE2.out⟩

theorem Wlk.det {V : VV → Bool} {sc : VV → List VV} {L vs A : List VV} (h : Wlk V sc L vs A) : ∀ {B}, Wlk V sc L vs B → A = B := by
  induction h with
  | nil L => intro B k; cases k; rfl
  | skip h1 h2 ih =>
    intro B k
    cases k with
    | skip k1 k2 => exact ih k2
    | go k1 k2 k3 k4 =>
      rcases h1 with h1 | h1
      · rw [h1] at k1; cases k1
      · exact absurd h1 k2
  | go h1 h2 h3 h4 ih1 ih2 =>
    intro B k
    cases k with
    | skip k1 k2 =>
      rcases k1 with k1 | k1
      · rw [h1] at k1; cases k1
      · exact absurd k1 h2
    | go k1 k2 k3 k4 =>
      obtain rfl := ih1 k3
      exact ih2 k4

set_option maxRecDepth 100000 in
set_option maxHeartbeats 3200000 in
theorem sound_any (B : Nat) (ao : Option Addr) (n c : Nat) (Ls : List OB) (v1 v2 : Int) (w : World) (hR : ORow w B ao Ls) (hB : B ≤ w.heap.size) (hW : ∀ o ∈ Ls, WO o) (hl : Ls.length = n) (hn : n ≤ 1000) (hv : WV (v1, v2)) {M : List VV} (hM : Wlk (V Ls ia) (sc Ls) [] [(v1, v2)] M) (hP : M.any (priv Ls) = true) :
    Calls Try.prog 21 #[.slice ao n c, .agg #[.int .i64 v1, .int .i64 v2], .slice none 0 0] w fun e w' => e = .returned (.int .i64 10) ∧ w.grownBy w' none := by
  have hmf : ∀ (fn : Fn) (first cap : Array Value) (w : World), (Instr.makeFunc fn first cap).run Try.prog w = .ok (.func fn first cap) w := fun _ _ _ _ => rfl
  have g1 := g_alloc (g_refl w none) (.cells #[.slice ao n c] 22)
  have g2 := g_alloc (g_refl (w.alloc (.cells #[.slice ao n c] 22)) none) (.cells #[.int .i64 v1, .int .i64 v2] 25)
  have HB1 := Lib.hid ((Blk.new w #[.slice ao n c] 22).keepn g2)
  have HB2 := Lib.hid (Blk.new (w.alloc (.cells #[.slice ao n c] 22)) #[.int .i64 v1, .int .i64 v2] 25)
  have hsy : (w.alloc (.cells #[.slice ao n c] 22)).heap.size = w.heap.size + 1 := by simp
  rw [hsy] at HB2
  have HG := Lib.hid (g_trans g1 g2)
  have HR := Lib.hid (hR.keepn HG.out)
  have HW := Lib.hid hW
  have HL := Lib.hid hl
  have HV := Lib.hid hv
  have HM := Lib.hid (And.intro hM hP)
  have HB := Lib.hid (Nat.le_trans hB HG.out.size)
  have c0 := HB1.out.cell 0 _ rfl
  clear hR hB hW hl hv hM hP g1 g2 hsy
  go_enter Try.func21, Try.ntmps21
  go_upto_region 3 with fail
  obtain ⟨pl, hpl⟩ : ∃ pl, w.heap.size = pl := ⟨_, rfl⟩
  rw [hpl] at HB1 HB2 c0 ⊢
  generalize (w.alloc (.cells #[.slice ao n c] 22)).alloc (.cells #[.int .i64 v1, .int .i64 v2] 25) = W at *
  go_wp2_with fail
  refine (index_any B ao c n Ls W HR.out HW.out HL.out hn).mono ?_
  rintro e w1 ⟨m, rfl, h1, h2, h3, gi⟩
  have ga := g_alloc (g_refl w1 none) (.cells #[.map (some m)] 48)
  have HPA := Lib.hid (Blk.new w1 #[.map (some m)] 48)
  have gb := g_alloc (g_refl (w1.alloc (.cells #[.map (some m)] 48)) none) (.cells #[.int .i64 v1, .int .i64 v2] 25)
  have HRT := Lib.hid (Blk.new (w1.alloc (.cells #[.map (some m)] 48)) #[.int .i64 v1, .int .i64 v2] 25)
  have GA := Lib.hid (g_trans gi ga)
  have GB := Lib.hid (g_trans GA.out gb)
  have e0 := (HB2.out.keepn GA.out).cell 0 _ rfl
  have e1 := (HB2.out.keepn GA.out).cell 1 _ rfl
  have HSR : Hid (SRow ((w1.alloc (.cells #[.map (some m)] 48)).alloc (.cells #[.int .i64 v1, .int .i64 v2] 25)) (some ⟨w1.heap.size + 1, 0, none⟩) [(v1, v2)]) := Lib.hid (by
    intro i p hi
    cases i with
    | zero =>
      simp at hi; subst hi
      have q := HRT.out
      simp at q
      exact ⟨_, 0, rfl, q.cell 0 _ rfl, q.cell 1 _ rfl⟩
    | succ i => simp at hi)
  have HC := Lib.hid (soundv_any B pl w1.heap.size ao n c m Ls (some ⟨w1.heap.size + 1, 0, none⟩) 1 1 [(v1, v2)] _ ((HB1.out.keepn GB.out).cell 0 _ rfl) ((HPA.out.keepn gb).cell 0 _ rfl) (HR.out.keepn GB.out) (Nat.le_trans HB.out GB.out.size) HW.out ((h3.keep ga (by simp)).keep gb (by simp)) HL.out hn HSR.out rfl (by omega) (by intro v hv; simp at hv; subst hv; exact HV.out))
  clear h1 h2 h3 gi ga gb c0
  go_wp2_with fail
  refine HC.out.mono ?_
  rintro e w5 ⟨L, rfl, hwl, g5⟩
  obtain rfl := hwl.det HM.out.1
  have hany := HM.out.2
  have HE := Lib.hid (g_trans HG.out (g_trans GB.out g5))
  clear hwl g5 e0 e1
  rw [hany]
  go_wp2_with fail
  go_ret
  exact ⟨rfl, HE.out⟩
end Go.Proofs.Ytkkcfielmpjgeaa
