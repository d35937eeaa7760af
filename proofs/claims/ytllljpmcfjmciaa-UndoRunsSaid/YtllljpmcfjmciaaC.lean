/- A log of old values: the walk from behind. -/
import Derived.Test.YtllljpmcfjmciaaB
import Derived.Test.YtllljpmcfjmciaaX
import Derived.Shelf.Abstract
import Derived.Shelf.RegionOpen
import Derived.OwnWalkIn
import Derived.TacticsInMore
import Derived.LoopNIn
import Derived.LoopIn
namespace Go.Proofs.Ytllljpmcfjmciaa
open Go.RowKit Go.Shelf
set_option linter.unusedVariables false
set_option linter.unusedSimpArgs false
attribute [local go_sem] Oper.semAt_some

/-- the cells of the blocks of S lie as they lay -/
def KB (S : Nat → Prop) (W W' : World) : Prop := W.heap.size ≤ W'.heap.size ∧ ∀ k o, S k → W.heap[k]? = some o → o.isCells = true → W'.heap[k]? = some o
theorem KB.refl (S : Nat → Prop) (W : World) : KB S W W := ⟨Nat.le_refl _, fun _ _ _ h _ => h⟩
theorem KB.trans {S : Nat → Prop} {A B C : World} (h : KB S A B) (k : KB S B C) : KB S A C := ⟨Nat.le_trans h.1 k.1, fun i o hs hi ho => k.2 i o hs (h.2 i o hs hi ho) ho⟩
theorem KB.mono {S S' : Nat → Prop} {A B : World} (h : KB S A B) (hs : ∀ k, S' k → S k) : KB S' A B := ⟨h.1, fun i o h1 => h.2 i o (hs i h1)⟩
theorem KB.cell {S : Nat → Prop} {W W' : World} {b i : Nat} {v : Value} (h : KB S W W') (hc : W.cell? ⟨b, i, none⟩ = some v) (hs : S b) : W'.cell? ⟨b, i, none⟩ = some v := by
  obtain ⟨o, ho, hoc⟩ := cells_of_cell hc
  exact (World.cell?_of_block ((h.2 _ o hs ho hoc).trans ho.symm)).trans hc
theorem KB.putObj {S : Nat → Prop} (W : World) (l : Nat) (o o' : Obj) (h : W.heap[l]? = some o) (ho : o.isCells = false) : KB S W (W.putObj l o') :=
  ⟨by simp, fun k o2 hs hk h2 => by
    by_cases e : k = l
    · subst e; rw [h] at hk; cases hk; rw [ho] at h2; cases h2
    · exact (World.putObj_heap_other e).trans hk⟩
theorem KB.of_g {S : Nat → Prop} {W W' : World} (g : W.grownBy W' none) : KB S W W' := ⟨g.size, fun k o hs hk ho => (g.block k (Array.getElem?_eq_some_iff.1 hk).1 (by simp)).trans hk⟩
theorem KB.of_gs {S : Nat → Prop} {W W' : World} {g : Nat} (k : W.grownBy W' (some g)) (hg : ¬ S g) : KB S W W' := ⟨k.size, fun i o hs hi ho => (k.block i (Array.getElem?_eq_some_iff.1 hi).1 (fun e => hg (by cases e; exact hs))).trans hi⟩
theorem SRow.kb {S : Nat → Prop} {w w' : World} {ao : Option Addr} {L : List OV} (h : SRow w ao L) (g : KB S w w') (hne : ∀ a, ao = some a → S a.block) : SRow w' ao L := fun i p hi => by
  obtain ⟨b, off, e, h0, h1, h2, h3, h4, h5, h6⟩ := h i p hi
  have hx := hne _ e
  exact ⟨b, off, e, g.cell h0 hx, g.cell h1 hx, g.cell h2 hx, g.cell h3 hx, g.cell h4 hx, g.cell h5 hx, g.cell h6 hx⟩
theorem YieldAt.wide {m m' : Nat} {P : Program} {l : Nat} {args : Array Value} {W : World} {R : Ending → World → Prop} (h : YieldAt Fence.wide m P l args W R) : YieldAt Fence.wide m' P l args W R := by
  obtain ⟨fn, tmps, assign, body, hy, hR⟩ := h
  exact ⟨fn, tmps, assign, body, hy, hR.1, fun c cs _ => hR.2 c cs (room_wide _)⟩

set_option maxHeartbeats 800000 in
theorem behind_any (b : Nat) (w : World) :
    Calls Try.prog 21 #[.pointer (some ⟨b, 0, none⟩)] w fun e w' => e = .returned (.func (.func 23) #[] #[.pointer (some ⟨w.heap.size, 0, none⟩)]) ∧ w' = w.alloc (.cells #[.pointer (some ⟨b, 0, none⟩)] 24) := by
  go_enter Try.func21, Try.ntmps21
  go_wp2_with fail
  go_ret
  exact ⟨rfl, rfl⟩
set_option maxHeartbeats 800000 in
theorem backward_any (ao : Option Addr) (n c : Nat) (w : World) :
    Calls Try.prog 24 #[.slice ao n c] w fun e w' => e = .returned (.func (.func 25) #[] #[.pointer (some ⟨w.heap.size, 0, none⟩)]) ∧ w' = w.alloc (.cells #[.slice ao n c] 44) := by
  go_enter Try.func24, Try.ntmps24
  go_wp2_with fail
  go_ret
  exact ⟨rfl, rfl⟩

set_option maxRecDepth 100000 in
set_option maxHeartbeats 2000000 in
theorem back1_in (n : Nat) (hn : 1 ≤ n) (l Bs B : Nat) (ao : Option Addr) (c : Nat) (L : List OV) (S : Nat → Prop) (J Jx : List (Int × OV) → World → Prop) (hl : L.length ≤ 5000)
    (hY : ∀ pre x W, J pre W → pre.length < L.length → YieldAt Fence.wide (n - 1) Try.prog l #[.int .i64 x.1, .agg #[.int .i64 x.2.k, .int .i64 x.2.n, .int .i64 x.2.f, .int .i64 x.2.vk, .int .i64 x.2.vn, .bool x.2.h, .int .i64 x.2.s]] W fun e W' =>
      (e = .returned (.bool true) ∧ J (pre ++ [x]) W' ∧ KB S W W' ∧ KeepsFrom B W W') ∨ (e = .returned (.bool false) ∧ Jx (pre ++ [x]) W' ∧ KeepsFrom B W W'))
    (W : World) (hBs : W.cell? ⟨Bs, 0, none⟩ = some (.slice ao L.length c)) (hr : SRow W ao L) (hS : S Bs) (hSa : ∀ a, ao = some a → S a.block) (h0 : J [] W) :
    CallsIn Fence.wide n Try.prog 25 #[.func (.yield l) #[] #[], .pointer (some ⟨Bs, 0, none⟩)] W fun e W' => (∃ v, e = .returned v) ∧
      ((∃ xs : List (Int × OV), xs.map Prod.snd = L.reverse ∧ J xs W') ∨ (∃ pre : List (Int × OV), pre.map Prod.snd <+: L.reverse ∧ Jx pre W')) := by
  have HR := Lib.hid hr
  have HSa := Lib.hid hSa
  have HB := Lib.hid hBs
  obtain ⟨m, hm⟩ : ∃ m, L.length = m := ⟨_, rfl⟩
  rw [hm] at hl hBs HB hY
  have HM := Lib.hid hm
  clear hr hSa hm
  refine callsIn_of_wp Try.func25 rfl trivial ?_ rfl
  simp only [Try.ntmps25, List.size_toArray, List.length_cons, List.length_nil, Nat.reduceAdd, Nat.reduceSub, Array.replicate_succ, Array.replicate_zero, List.push_toArray, List.append_toArray, List.nil_append, List.cons_append]
  gi_wp2
  gi_loopw [3] (fun i wr => ∃ (k : Nat) (pre : List (Int × OV)), i = .int .i64 ((k : Int) - 1) ∧ k ≤ m ∧ pre.map Prod.snd = L.reverse.take (m - k) ∧ J pre wr ∧ KB S W wr) (fun i _ => (intOf i + 1).toNat)
  case atStart => exact ⟨m, [], by go_num, Nat.le_refl _, by simp, h0, KB.refl _ _⟩
  case round =>
    obtain ⟨k, pre, rfl, hk, hp, hJs, hkb⟩ := hrel
    have HP := Lib.hid hp
    have HKB := Lib.hid hkb
    have hpl : pre.length = m - k := by
      have := congrArg List.length hp
      rw [List.length_map, List.length_take, List.length_reverse, HM.out] at this
      omega
    clear hp hkb hBs
    have hBs := HKB.out.cell HB.out hS
    by_cases hk0 : k = 0
    · subst hk0
      gi_wp2
      go_end0
      refine ⟨⟨_, rfl⟩, .inl ⟨pre, ?_, hJs⟩⟩
      rw [HP.out]
      exact List.take_of_length_le (by simp [HM.out])
    · obtain ⟨j, rfl⟩ : ∃ j, k = j + 1 := ⟨k - 1, by omega⟩
      have hj : j < m := by omega
      have hji : (j : Int) < m := by omega
      have hjL : j < L.length := by rw [HM.out]; exact hj
      obtain ⟨p, hpj⟩ : ∃ p, L[j]? = some p := ⟨L[j], List.getElem?_eq_getElem hjL⟩
      obtain ⟨b, off, rfl, c0, c1, c2, c3, c4, c5, c6⟩ := (HR.out.kb HKB.out HSa.out) j p hpj
      have HPJ := Lib.hid hpj
      clear hpj
      rw [show ((j + 1 : Nat) : Int) - 1 = j by omega]
      obtain ⟨fn, tmps, assign, body, hy, hR⟩ := hY pre ((j : Int), p) wr hJs (by omega)
      dsimp only at hy
      obtain ⟨pk, pn, pf, pvk, pvn, ph, ps⟩ := p
      simp only at c0 c1 c2 c3 c4 c5 c6 hy
      have hge : (0 : Int) ≤ (j : Int) := by omega
      gi_wp2
      refine hR.mono ?_
      rintro e W3 (⟨rfl, hJ3, hk3, -⟩ | ⟨rfl, hJx3, -⟩)
      · gi_wp2
        go_roundw
        case rel =>
          refine ⟨j, _, by go_num, by omega, ?_, hJ3, HKB.out.trans hk3⟩
          rw [List.map_append, HP.out, show m - j = (m - (j + 1)) + 1 by omega, List.take_add_one]
          congr 1
          rw [List.getElem?_reverse (by have := HM.out; omega), show L.length - 1 - (m - (j + 1)) = j by rw [HM.out]; omega, HPJ.out]
          rfl
        case measure => simp [intOf]
      · gi_wp2
        refine bodyPost_ret (results_none rfl _ _ _) rfl ?_
        refine ⟨⟨_, rfl⟩, .inr ⟨_, ?_, hJx3⟩⟩
        rw [List.map_append, HP.out]
        have e : L.reverse.take (m - (j + 1)) ++ List.map Prod.snd [((j : Int), (⟨pk, pn, pf, pvk, pvn, ph, ps⟩ : OV))] = L.reverse.take (m - j) := by
          rw [show m - j = (m - (j + 1)) + 1 by omega, List.take_add_one]
          congr 1
          rw [List.getElem?_reverse (by have := HM.out; omega), show L.length - 1 - (m - (j + 1)) = j by rw [HM.out]; omega, HPJ.out]
          rfl
        rw [e]
        exact List.take_prefix _ _
end Go.Proofs.Ytllljpmcfjmciaa
