/- Closure and Reach. -/
import Derived.Test.YtkkcfielmpjgeaaE
namespace Go.Proofs.Ytkkcfielmpjgeaa
open Go.RowKit
set_option linter.unusedVariables false
set_option linter.unusedSimpArgs false

theorem enter15 (args : Array Value) (w : World) : (callFunc 15 args).run Try.prog w = .ok (.enter 15 args) w := by
  have h1 : ¬ Try.f15.name = "runtime.NumGoroutine" := fun h => by
    have q : (Try.f15.name == "runtime.NumGoroutine") = false := by kernel_rfl
    rw [h] at q; simp at q
  have h2 : ¬ Try.f15.body = none := fun h => by
    have q : Try.f15.body.isNone = false := by kernel_rfl
    rw [h] at q; cases q
  simp [callFunc, go_sem, h1, h2]
theorem enter17 (args : Array Value) (w : World) : (callFunc 17 args).run Try.prog w = .ok (.enter 17 args) w := by
  have h1 : ¬ Try.f17.name = "runtime.NumGoroutine" := fun h => by
    have q : (Try.f17.name == "runtime.NumGoroutine") = false := by kernel_rfl
    rw [h] at q; simp at q
  have h2 : ¬ Try.f17.body = none := fun h => by
    have q : Try.f17.body.isNone = false := by kernel_rfl
    rw [h] at q; cases q
  simp [callFunc, go_sem, h1, h2]
def ip (o : OB) : Bool := o.state == 1
def ia (_ : OB) : Bool := true

set_option maxRecDepth 100000 in
set_option maxHeartbeats 1600000 in
theorem closure_any (B : Nat) (ao : Option Addr) (n c : Nat) (Ls : List OB) (v1 v2 : Int) (w : World) (hR : ORow w B ao Ls) (hB : B ≤ w.heap.size) (hW : ∀ o ∈ Ls, WO o) (hl : Ls.length = n) (hn : n ≤ 1000) (hv : WV (v1, v2)) :
    Calls Try.prog 6 #[.slice ao n c, .agg #[.int .i64 v1, .int .i64 v2]] w fun e w' => ∃ rv L, e = .returned rv ∧ Wlk (V Ls ip) (sc Ls) [] [(v1, v2)] L ∧ w'.ownsRow w.heap.size 25 2 rv L.length (scl L) ∧ L.length ≤ n ∧ w.grownBy w' none := by
  have ga := g_alloc (g_refl w none) (.cells #[.int .i64 v1, .int .i64 v2] 25)
  have HN := Lib.hid (newWalk_any w.heap.size ao c n Ls 15 (w.alloc (.cells #[.int .i64 v1, .int .i64 v2] 25)) ((hR.keepn ga).mono hB) hW hl hn ga.size)
  have HB := Lib.hid (Blk.new w #[.int .i64 v1, .int .i64 v2] 25)
  have HG := Lib.hid ga
  have HH := Lib.hid (And.intro hW (And.intro hl (And.intro hn hv)))
  clear hR hB hW hl hn hv ga
  go_enter Try.func6, Try.ntmps6
  go_wp2_with fail
  refine HN.out.mono ?_
  rintro e w1 ⟨b, m, ms, rfl, hwk, g1⟩
  have x0 := (HB.out.keepn g1).cell 0 _ rfl
  have x1 := (HB.out.keepn g1).cell 1 _ rfl
  have G := Lib.hid (g_trans HG.out g1)
  have HI := Lib.hid (into_any 15 ip (fun o fa fc w => in_private o fa fc w) enter15 w.heap.size b m ms ao n c Ls HH.out.1 HH.out.2.1 HH.out.2.2.1 (meas Ls [] + 1) [] (v1, v2) w1 (by omega) HH.out.2.2.2 G.out.size hwk)
  clear hwk g1
  go_wp2_with fail
  refine HI.out.mono ?_
  rintro e w2 ⟨rfl, L, hw, hwk, hb⟩
  obtain ⟨_, _, _, _, _, _, hms, mv, k1, k2, k3, k4, k5, k6⟩ := hwk
  have c2 := k1.cell 2 _ rfl
  have HF := Lib.hid (And.intro hw (And.intro k4 (And.intro (by omega : L.length ≤ n) (g_below ((below_gn (Below.refl _ w) G.out (Nat.le_refl _)).trans hb) none))))
  clear hw hb k1 k2 k3 k4 k5 k6 x0 x1
  go_wp2_with fail
  go_ret
  exact ⟨_, L, rfl, HF.out.1, HF.out.2.1, HF.out.2.2.1, HF.out.2.2.2⟩

set_option maxRecDepth 100000 in
set_option maxHeartbeats 1600000 in
theorem reach_any (B : Nat) (ao : Option Addr) (n c : Nat) (Ls : List OB) (ro : Option Addr) (rn rc : Nat) (R : List VV) (w : World) (hR : ORow w B ao Ls) (hB : B ≤ w.heap.size) (hW : ∀ o ∈ Ls, WO o) (hl : Ls.length = n) (hn : n ≤ 1000)
    (hs : SRow w ro R) (hrl : R.length = rn) (hrc : rn ≤ 1000) (hv : ∀ v ∈ R, WV v) :
    Calls Try.prog 7 #[.slice ao n c, .slice ro rn rc] w fun e w' => ∃ rv L, e = .returned rv ∧ Wlk (V Ls ia) (sc Ls) [] R L ∧ w'.ownsRow w.heap.size 25 2 rv L.length (scl L) ∧ L.length ≤ n ∧ w.grownBy w' none := by
  have HN := Lib.hid (newWalk_any w.heap.size ao c n Ls 17 w (hR.mono hB) hW hl hn (Nat.le_refl _))
  have HH := Lib.hid (And.intro hW (And.intro hl (And.intro hn hv)))
  have HS := Lib.hid hs
  have HL := Lib.hid hrl
  clear hR hB hW hl hn hv hs hrl
  go_enter Try.func7, Try.ntmps7
  go_wp2_with fail
  refine HN.out.mono ?_
  rintro e w1 ⟨b, m, ms, rfl, hwk, g1⟩
  have G := Lib.hid g1
  have HI := Lib.hid (fun L v w2 (hv : WV v) (hb : w.heap.size ≤ w2.heap.size) (hwk : Wk w2 w.heap.size b m ms ao n c Ls (.func (.func 17) #[] #[]) L) => into_any 17 ia (fun o fa fc w => in_all o fa fc w) enter17 w.heap.size b m ms ao n c Ls HH.out.1 HH.out.2.1 HH.out.2.2.1 (meas Ls L + 1) L v w2 (by omega) hv hb hwk)
  have HWK := Lib.hid hwk
  have HSR : Hid (∀ wr, w.grownBy wr none → SRow wr ro R) := Lib.hid (fun wr g => HS.out.keep g)
  clear hwk g1
  go_wp2_with fail
  go_loopw [12] (fun i wr => ∃ q : Nat, i = .int .i64 q ∧ q ≤ rn ∧ ∃ L2, Wlk (V Ls ia) (sc Ls) [] (R.take q) L2 ∧ Wk wr w.heap.size b m ms ao n c Ls (.func (.func 17) #[] #[]) L2 ∧ w.grownBy wr none) (fun i _ => (rn - intOf i).toNat)
  case atStart => exact ⟨0, rfl, Nat.zero_le _, _, .nil _, HWK.out, G.out⟩
  case round =>
    obtain ⟨q, rfl, hq, L2, hwl, hwk, hg⟩ := hrel
    by_cases hlt : q < rn
    · have hqi : (q : Int) < rn := by omega
      have hqq : ¬ (rn : Int) ≤ q := by omega
      obtain ⟨f, hfq⟩ : ∃ f, R[q]? = some f := ⟨R[q]'(by rw [HL.out]; omega), List.getElem?_eq_getElem _⟩
      obtain ⟨fb, foff, rfl, y0, y1⟩ := HSR.out wr hg q f hfq
      have ga := g_alloc (g_refl wr none) (.cells #[.int .i64 f.1, .int .i64 f.2] 25)
      have XB := Blk.new wr #[.int .i64 f.1, .int .i64 f.2] 25
      have t0 := XB.cell 0 _ rfl
      have t1 := XB.cell 1 _ rfl
      have HGR := Lib.hid (g_trans hg ga)
      have HC := Lib.hid (HI.out L2 f _ (HH.out.2.2.2 f (List.mem_of_getElem? hfq)) HGR.out.size (hwk.keepn ga))
      have HX := Lib.hid (And.intro hwl hfq)
      clear hwl hwk hg hfq ga XB
      go_wp2_with fail
      refine HC.out.mono ?_
      rintro e w5 ⟨rfl, L3, hwl3, hwk3, hbl3⟩
      have HY := Lib.hid (And.intro hwl3 (And.intro hwk3 (g_below ((below_gn (Below.refl _ w) HGR.out (Nat.le_refl _)).trans hbl3) none)))
      clear hwl3 hwk3 hbl3 y0 y1 t0 t1
      go_wp2_with fail
      go_roundw
      case rel =>
        refine ⟨q + 1, by go_num, by omega, L3, ?_, HY.out.2.1, HY.out.2.2⟩
        rw [List.take_add_one, HX.out.2, Option.toList_some]
        exact HX.out.1.append HY.out.1
      case measure => simp [intOf]; omega
    · obtain rfl : q = rn := by omega
      have hqq : ¬ (q : Int) < q := by omega
      obtain ⟨_, _, _, _, _, _, hms, mv, k1, k2, k3, k4, k5, k6⟩ := hwk
      have c2 := k1.cell 2 _ rfl
      have HF := Lib.hid (And.intro hwl (And.intro k4 (And.intro (by omega : L2.length ≤ n) hg)))
      clear hwl hg k1 k2 k3 k4 k5 k6
      go_wp2_with fail
      go_ret
      have h := HF.out.1
      rw [List.take_of_length_le (by rw [HL.out]; exact Nat.le_refl _)] at h
      exact ⟨_, rfl, L2, h, HF.out.2.1, HF.out.2.2.1, HF.out.2.2.2⟩
end Go.Proofs.Ytkkcfielmpjgeaa
