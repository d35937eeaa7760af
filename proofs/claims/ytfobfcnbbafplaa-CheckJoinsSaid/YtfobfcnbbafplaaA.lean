/- The instructions' forms. -/
import Derived.Test.YtfobfcnbbafplaaBase
import Derived.Deep.MidRow
namespace Go.Proofs.Ytfobfcnbbafplaa
open Go.RowKit
set_option linter.unusedVariables false


def Z84 : Array Value := #[.string { data := #[] }, .int .i64 0, .int .i64 0, .int .i64 0, .string { data := #[] }, .int .i64 0, .int .i64 0, .int .i64 0, .string { data := #[] }, .int .i64 0, .int .i64 0, .int .i64 0, .string { data := #[] }, .int .i64 0, .int .i64 0, .int .i64 0, .string { data := #[] }, .int .i64 0, .int .i64 0, .int .i64 0, .string { data := #[] }, .int .i64 0, .int .i64 0, .int .i64 0, .string { data := #[] }, .int .i64 0, .int .i64 0, .int .i64 0, .string { data := #[] }, .int .i64 0, .int .i64 0, .int .i64 0, .string { data := #[] }, .int .i64 0, .int .i64 0, .int .i64 0, .string { data := #[] }, .int .i64 0, .int .i64 0, .int .i64 0, .string { data := #[] }, .int .i64 0, .int .i64 0, .int .i64 0, .string { data := #[] }, .int .i64 0, .int .i64 0, .int .i64 0, .string { data := #[] }, .int .i64 0, .int .i64 0, .int .i64 0, .string { data := #[] }, .int .i64 0, .int .i64 0, .int .i64 0, .string { data := #[] }, .int .i64 0, .int .i64 0, .int .i64 0, .string { data := #[] }, .int .i64 0, .int .i64 0, .int .i64 0, .string { data := #[] }, .int .i64 0, .int .i64 0, .int .i64 0, .string { data := #[] }, .int .i64 0, .int .i64 0, .int .i64 0, .string { data := #[] }, .int .i64 0, .int .i64 0, .int .i64 0, .string { data := #[] }, .int .i64 0, .int .i64 0, .int .i64 0, .string { data := #[] }, .int .i64 0, .int .i64 0, .int .i64 0]
def F84 : Array Value := #[.string { data := #[] }, .int .i64 0, .int .i64 0, .int .i64 0, .string { data := #[99, 111, 110, 115, 116] }, .int .i64 1, .int .i64 2, .int .i64 0, .string { data := #[110, 105, 108] }, .int .i64 1, .int .i64 0, .int .i64 0, .string { data := #[109, 111, 118, 101] }, .int .i64 1, .int .i64 1, .int .i64 0, .string { data := #[97, 100, 100] }, .int .i64 1, .int .i64 1, .int .i64 1, .string { data := #[115, 117, 98] }, .int .i64 1, .int .i64 1, .int .i64 1, .string { data := #[108, 101, 115, 115] }, .int .i64 1, .int .i64 1, .int .i64 1, .string { data := #[101, 113] }, .int .i64 1, .int .i64 1, .int .i64 1, .string { data := #[106, 117, 109, 112] }, .int .i64 3, .int .i64 0, .int .i64 0, .string { data := #[106, 117, 109, 112, 122] }, .int .i64 1, .int .i64 3, .int .i64 0, .string { data := #[114, 111, 111, 116] }, .int .i64 1, .int .i64 0, .int .i64 0, .string { data := #[110, 101, 119] }, .int .i64 1, .int .i64 5, .int .i64 6, .string { data := #[102, 114, 101, 101] }, .int .i64 1, .int .i64 0, .int .i64 0, .string { data := #[103, 101, 116] }, .int .i64 1, .int .i64 1, .int .i64 4, .string { data := #[115, 101, 116] }, .int .i64 1, .int .i64 4, .int .i64 1, .string { data := #[98, 101, 103, 105, 110] }, .int .i64 0, .int .i64 0, .int .i64 0, .string { data := #[101, 108, 115, 101] }, .int .i64 0, .int .i64 0, .int .i64 0, .string { data := #[101, 110, 100] }, .int .i64 0, .int .i64 0, .int .i64 0, .string { data := #[114, 101, 116, 114, 121] }, .int .i64 0, .int .i64 0, .int .i64 0, .string { data := #[101, 109, 105, 116] }, .int .i64 1, .int .i64 0, .int .i64 0, .string { data := #[104, 97, 108, 116] }, .int .i64 0, .int .i64 0, .int .i64 0]
theorem zero61 (w : World) : (zeroValue 91).run Try.prog w = .ok (.agg Z84) w := by kernel_rfl
theorem size61 : (Try.prog.info? 91).map (·.size) = some F84.size := by kernel_rfl
theorem one61 : F84.all (·.oneCell') = true := by kernel_rfl

/-- an operation whose run is known -/
theorem wpList_known {P : Program} {w : World} {ops : Array Oper} {rest : List Oper} {o : Oper} {a : Act} {Q : Exit → Act → World → Prop} (hgd : o.guard = none) (t : TypeId) (parts : Array (Nat × Operand)) (ho : o.op = .build t parts) (v : Value)
    (hrun : (Instr.build t (parts.map fun (i, x) => (i, a.eval x))).run P w = .ok v w) (h : wpList P ops Q rest (a.put o.dst v) w) : wpList P ops Q (o :: rest) a w := by
  refine wpList_plain hgd fun K hK => ?_
  unfold Oper.wp
  simp [execOp, ho, hrun, Result.andThen]
  exact hK _ _ h

theorem g_setCells {a : World} {g : Nat} : ∀ (vs : List Value) (o : Nat) (w : World), a.grownBy w (some g) → a.grownBy (w.setCells g o vs) (some g)
  | [], _, _, h => h
  | v :: r, o, w, h => by
    rw [World.setCells]
    exact g_setCells r (o + 1) _ (g_set h (p := ⟨g, o, none⟩) (.inl rfl) v)

theorem results_cell_v {P : Program} {fn : Func} {p : Tmp} {ty : TypeId} (h : fn.results = #[.cell p ty]) (tmps : Array Value) (w : World) (g : Nat) (v : Value) (hp : tmps.getD p undef = .pointer (some ⟨g, 0, none⟩))
    (hl : (loadVar ty ⟨g, 0, none⟩).run P w = .ok v w) : (results fn tmps).run P w = .ok v w := by
  have hp' : tmps[p]?.getD undef = .pointer (some ⟨g, 0, none⟩) := by simpa using hp
  simp [results, h, hp', asAddr, hl]

set_option maxRecDepth 100000 in
set_option maxHeartbeats 610000000 in
theorem forms_any (w : World) : Calls Try.prog 48 #[] w fun e w' => e = .returned (.agg F84) ∧ w.grownBy w' none := by
  have hz := zero61
  have b0 := ((Blk.new w Z84 91).keepn (g_alloc (g_refl _ none) (.cells #[.int .i64 1, .int .i64 0, .int .i64 0] 85))).keepn (g_alloc (g_refl _ none) (.cells #[.int .i64 1, .int .i64 1, .int .i64 1] 85))
  have gW := g_alloc (g_alloc (g_alloc (g_refl w none) (.cells Z84 91)) (.cells #[.int .i64 1, .int .i64 0, .int .i64 0] 85)) (.cells #[.int .i64 1, .int .i64 1, .int .i64 1] 85)
  have ht : World.there (((w.alloc (.cells Z84 91)).alloc (.cells #[.int .i64 1, .int .i64 0, .int .i64 0] 85)).alloc (.cells #[.int .i64 1, .int .i64 1, .int .i64 1] 85)) w.heap.size 0 F84.size := fun j hj => by
    have h1 : j < Z84.size := hj
    have h2 := b0.cell j (Z84[j]) (by simp)
    rw [Nat.zero_add, h2]
    exact ⟨rfl, b0.free j⟩
  have HT := Lib.hid ht
  have HG := Lib.hid gW
  clear ht gW b0
  go_enter Try.func48, Try.ntmps48
  go_wp2_with (first | (refine wpList_known rfl 91 _ rfl (.agg F84) (by kernel_rfl) ?_) | (refine wpList_store_mid rfl 91 _ _ rfl w.heap.size 0 F84 rfl rfl HT.out size61 one61 ?_))
  have hr := World.rangeAt_setCells_same (((w.alloc (.cells Z84 91)).alloc (.cells #[.int .i64 1, .int .i64 0, .int .i64 0] 85)).alloc (.cells #[.int .i64 1, .int .i64 1, .int .i64 1] 85)) w.heap.size 0 F84.toList (by simpa using HT.out)
  have hl := run_loadVar_mid (P := Try.prog) _ w.heap.size 0 91 F84.toList _ hr Try.underlying91 rfl (by simpa using size61)
  rw [Array.toArray_toList] at hl
  exact bodyPost_ret (v := .agg F84) (results_cell_v Try.results48 _ _ _ _ rfl hl) rfl ⟨rfl, g_in HG.out (g_setCells F84.toList 0 _ (g_refl _ _)) (Nat.le_refl _)⟩
end Go.Proofs.Ytfobfcnbbafplaa

