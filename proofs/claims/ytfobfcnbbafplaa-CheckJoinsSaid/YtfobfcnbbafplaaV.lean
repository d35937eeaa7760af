/- The walk through a program: through, of any program. -/
import Derived.Test.YtfobfcnbbafplaaU
namespace Go.Proofs.Ytfobfcnbbafplaa
open Go.RowKit
set_option linter.unusedVariables false
set_option linter.unusedSimpArgs false

/-- what through leaves, of any program -/
def thrA (P : List I4) : Res := if P.length < 1 ∨ 512 < P.length then ⟨[], [], List.replicate P.length (-1), 0, false⟩ else thr P

theorem wk_new0 {w wa : World} {g n : Nat} (hg : w.heap.size ≤ g) (hb : Blk wa g (List.replicate n (Value.int .i64 (-1))).toArray 3) (h63 : n ≤ maxLen) (hga : w.heap.size ≤ wa.heap.size) :
    Wk (wa.alloc (.cells #[.slice none 0 0, .slice none 0 0, .slice (some ⟨g, 0, none⟩) n n, .int .i64 0, .bool false] 49)) w.heap.size wa.heap.size [] [] (List.replicate n (-1)) 0 false := by
  have hlt := hb.lt
  refine ⟨hga, .slice none 0 0, .slice none 0 0, .slice (some ⟨g, 0, none⟩) n n, Blk.new _ _ _, World.ownsRow_nil _ _ _ _, World.ownsRow_nil _ _ _ _, ?_, show Apart _ _ _ _ from ⟨fun e => (by cases e), fun e => (by cases e), fun e => ?_, fun g' e => (by cases e), fun g' e => (by cases e)⟩⟩
  · have hi : icl (List.replicate n (-1)) = List.replicate n (Value.int .i64 (-1)) := by simp [icl]
    rw [hi, List.length_replicate]
    refine ⟨by simp, .inr ⟨g, n, _, rfl, hg, hb.keepn (g_alloc (g_refl wa none) _), Nat.le_refl _, h63, by simp, by simp⟩⟩
  · cases e
    exact absurd hlt (Nat.lt_irrefl _)


set_option maxRecDepth 100000 in
set_option maxHeartbeats 6400000 in
theorem through_short (ao : Option Addr) (n c : Nat) (w : World) (hc : n < 1 ∨ 512 < n) (hn : n < 100000) :
    Calls Try.prog 26 #[.slice ao n c] w fun e w' => ThrP w w' e ⟨[], [], List.replicate n (-1), 0, false⟩ := by
  have hs := Blk.new w #[.int .i64 (-1)] 3
  have HR := Lib.hid (rep_any w.heap.size n hn (w.alloc (.cells #[.int .i64 (-1)] 3)) (hs.cell 0 _ rfl))
  have G0 := Lib.hid (g_alloc (g_refl w none) (.cells #[.int .i64 (-1)] 3))
  have hdec : (n : Int) < 1 ∨ (¬ (n : Int) < 1 ∧ (512 : Int) < n) := by omega
  clear hs hc
  rcases hdec with h1 | ⟨h1, h5⟩
  all_goals
    go_enter Try.func26, Try.ntmps26
    go_wp2_with fail
    refine wp_scope_straight ?_
    go_wp2_with fail
    refine HR.out.mono ?_
    rintro e wa ⟨g, rfl, hg, hb, ga⟩
    have GA := Lib.hid (g_trans G0.out ga)
    have hgs := G0.out.size
    have hw0 := Lib.hid (wk_new0 (n := n) (Nat.le_trans hgs hg) hb (by unfold maxLen; omega) GA.out.size)
    have G10 := Lib.hid (g_trans GA.out (g_alloc (g_refl wa none) (.cells #[.slice none 0 0, .slice none 0 0, .slice (some ⟨g, 0, none⟩) n n, .int .i64 0, .bool false] 49)))
    have hw := wk_new (n := n) (Nat.le_trans hgs hg) hb (by unfold maxLen; omega) GA.out.size
    have G1 := g_trans GA.out (g_alloc (g_refl wa none) (.cells #[.slice none 0 0, .slice none 0 0, .slice (some ⟨g, 0, none⟩) n n, .int .i64 (-1), .bool false] 49))
    obtain ⟨b3, f3, b4, b5⟩ := hw.bset 0
    have HB4 := Lib.hid (And.intro b4 ((tr_trans (tr_g G1 (fun i => w.heap.size ≤ i)) b5 (fun i hi e => e)).g (fun i hi => by omega)))
    clear ga hb hg hgs b4 b5 hw G1
    go_wp2_with fail
    try simp only [Exit.noGoto]
    go_ret
    exact ⟨_, rfl, hw0.out, G10.out⟩

theorem through_all (ao : Option Addr) (n c : Nat) (P : List I4) (w : World) (hP : IRow w ao P) (hn : P.length = n) (h5 : n < 100000) :
    Calls Try.prog 26 #[.slice ao n c] w fun e w' => ThrP w w' e (thrA P) := by
  unfold thrA
  split
  · rw [hn] at *
    exact through_short ao n c w (by assumption) h5
  · next h => exact through_any ao n c P w hP hn (by omega) (by omega)
end Go.Proofs.Ytfobfcnbbafplaa
