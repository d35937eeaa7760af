/- A log of old values: a log and what stands beside it; a log that nobody made. -/
import Derived.Test.YtllljpmcfjmciaaF
namespace Go.Proofs.Ytllljpmcfjmciaa
open Go.RowKit
set_option linter.unusedVariables false
set_option linter.unusedSimpArgs false

/-- a log by its blocks -/
def LS (w : World) (S : Nat → Prop) (b : Nat) (most : Int) (L : List OV) : Prop := Lg w b S most L ∧ S b ∧ ∀ i, S i → i < w.heap.size
/-- how a log's call turns memory -/
def Mv (w w' : World) (S : Nat → Prop) (b : Nat) (most : Int) (L : List OV) : Prop :=
  ∃ S' : Nat → Prop, LS w' S' b most L ∧ (∀ i, S' i → S i ∨ w.heap.size ≤ i) ∧ Tr S w w'
section
variable {w w' : World} {S : Nat → Prop} {b : Nat} {most : Int} {L L' : List OV}
theorem LS.keep (h : LS w S b most L) (g : w.grownBy w' none) : LS w' S b most L := ⟨h.1.keep g, h.2.1, fun i hi => Nat.lt_of_lt_of_le (h.2.2 i hi) g.size⟩
theorem LS.far {S' : Nat → Prop} (h : LS w S b most L) (t : Tr S' w w') (hd : ∀ i, S i → ¬ S' i) : LS w' S b most L := ⟨h.1.tr t (hd _ h.2.1) (fun g _ hg => hd g hg), h.2.1, fun i hi => Nat.lt_of_lt_of_le (h.2.2 i hi) t.size⟩
theorem push_i (h : LS w S b most L) (hm : most ≠ 0) (k n f vk vn : Int) (hh : Bool) (s : Int) (hl : L.length < 5000) :
    Calls Try.prog 8 #[.pointer (some ⟨b, 0, none⟩), .agg #[.int .i64 k, .int .i64 n, .int .i64 f, .int .i64 vk, .int .i64 vn, .bool hh, .int .i64 s]] w fun e w' => e = .returned (.int .i64 (pushP most L ⟨k, n, f, vk, vn, hh, s⟩).1) ∧ Mv w w' S b most (pushP most L ⟨k, n, f, vk, vn, hh, s⟩).2 := by
  refine (push_any b S most L w h.1 hm k n f vk vn hh s hl).mono ?_
  rintro e w' ⟨rfl, h1, h2⟩
  have z := h2.size
  exact ⟨rfl, fun i => (S i ∨ w.heap.size ≤ i) ∧ i < w'.heap.size, ⟨h1.mono (fun g hg ha => ⟨ha, hg⟩), ⟨.inl h.2.1, by have := h.1.lt; omega⟩, fun i hi => hi.2⟩, fun i hi => hi.1, tr_mono h2 (fun i hi e => by rcases e with rfl | e; exact h.2.1; exact e)⟩
theorem pop_i (h : LS w S b most L) (hm : most ≠ 0) (hl : L.length ≤ 5000) :
    Calls Try.prog 11 #[.pointer (some ⟨b, 0, none⟩)] w fun e w' => e = .returned (.tuple #[.agg #[.int .i64 (popP L).1.1.k, .int .i64 (popP L).1.1.n, .int .i64 (popP L).1.1.f, .int .i64 (popP L).1.1.vk, .int .i64 (popP L).1.1.vn, .bool (popP L).1.1.h, .int .i64 (popP L).1.1.s], .bool (popP L).1.2]) ∧ Mv w w' S b most (popP L).2 := by
  refine (pop_any b S most L w h.1 hm hl).mono ?_
  rintro e w' ⟨rfl, h1, h2⟩
  exact ⟨rfl, S, ⟨h1, h.2.1, fun i hi => Nat.lt_of_lt_of_le (h.2.2 i hi) h2.size⟩, fun i hi => .inl hi, tr_mono h2 (fun i hi e => by subst e; exact h.2.1)⟩
theorem clear_i (h : LS w S b most L) (hm : most ≠ 0) :
    Calls Try.prog 16 #[.pointer (some ⟨b, 0, none⟩)] w fun e w' => e = .returned (.int .i64 L.length) ∧ Mv w w' S b most [] := by
  refine (clear_any b S most L w h.1 hm).mono ?_
  rintro e w' ⟨rfl, h1, h2⟩
  exact ⟨rfl, S, ⟨h1, h.2.1, fun i hi => Nat.lt_of_lt_of_le (h.2.2 i hi) h2.size⟩, fun i hi => .inl hi, tr_mono h2 (fun i hi e => by subst e; exact h.2.1)⟩
theorem new_i (most : Int) (w : World) : Calls Try.prog 6 #[.int .i64 most] w fun e w' => w.grownBy w' none ∧ ((newP most = false ∧ e = .returned (.tuple #[.pointer none, .int .i64 1])) ∨ (newP most = true ∧ ∃ b, e = .returned (.tuple #[.pointer (some ⟨b, 0, none⟩), .int .i64 0]) ∧ LS w' (fun i => w.heap.size ≤ i ∧ i < w'.heap.size) b most [])) := by
  refine (new_any most w).mono ?_
  rintro e w' ⟨g, h | ⟨h1, b, h2, h3, h4⟩⟩
  · exact ⟨g, .inl h⟩
  · exact ⟨g, .inr ⟨h1, b, h2, h4.mono (fun i hi hs => ⟨hs, hi⟩), ⟨h3, h4.lt⟩, fun i hi => hi.2⟩⟩
end

/-- a log, behind a world where it was not -/
def St0 (w0 w : World) (S : Nat → Prop) (b : Nat) (most : Int) (L : List OV) : Prop := LS w S b most L ∧ (∀ i, S i → w0.heap.size ≤ i) ∧ w0.grownBy w none
/-- a block beside -/
def Sd (w : World) (S : Nat → Prop) (x : Nat) (xs : Array Value) (T : TypeId) : Prop := Blk w x xs T ∧ ¬ S x
section
variable {w0 w w' : World} {S : Nat → Prop} {b : Nat} {most : Int} {L L' : List OV}
theorem St0.keep (h : St0 w0 w S b most L) (g : w.grownBy w' none) : St0 w0 w' S b most L := ⟨h.1.keep g, h.2.1, g_trans h.2.2 g⟩
theorem Sd.keep {x : Nat} {xs : Array Value} {T : TypeId} (h : Sd w S x xs T) (g : w.grownBy w' none) : Sd w' S x xs T := ⟨h.1.keepn g, h.2⟩
theorem St0.new (h : St0 w0 w S b most L) (xs : Array Value) (T : TypeId) : St0 w0 (w.alloc (.cells xs T)) S b most L ∧ Sd (w.alloc (.cells xs T)) S w.heap.size xs T :=
  ⟨h.keep (g_alloc (g_refl w none) _), Blk.new w xs T, fun hs => absurd (h.1.2.2 _ hs) (Nat.lt_irrefl _)⟩
theorem St0.move (h : St0 w0 w S b most L) (k : Mv w w' S b most L') : ∃ S', St0 w0 w' S' b most L' ∧ (∀ x xs T, Sd w S x xs T → Sd w' S' x xs T) ∧ (∀ i, S' i → S i ∨ w.heap.size ≤ i) ∧ Tr S w w' := by
  obtain ⟨h1, h2, h3⟩ := h
  obtain ⟨S', k1, k2, k3⟩ := k
  have z := h3.size
  refine ⟨S', ⟨k1, fun i hi => by rcases k2 i hi with e | e; exact h2 i e; omega, (tr_trans (tr_g h3 S) k3 (fun i _ e => e)).g (fun i hi e => by have := h2 i e; omega)⟩, fun x xs T hx => ?_, k2, k3⟩
  have := hx.1.lt
  exact ⟨k3.blk hx.1 hx.2, fun e => by rcases k2 _ e with e | e; exact hx.2 e; omega⟩
/-- a store into a block beside -/
theorem St0.gs {x : Nat} (h : St0 w0 w S b most L) (k : w.grownBy w' (some x)) (hx : ¬ S x) (hx0 : w0.heap.size ≤ x) : St0 w0 w' S b most L :=
  ⟨h.1.far (tr_gs (S := fun i => i = x) k (fun _ => rfl)) (fun i hi e => by subst e; exact hx hi), h.2.1, g_in h.2.2 k hx0⟩
theorem Sd.gs {x y : Nat} {xs : Array Value} {T : TypeId} (h : Sd w S x xs T) (k : w.grownBy w' (some y)) (hne : x ≠ y) : Sd w' S x xs T := ⟨h.1.keeps k hne, h.2⟩
theorem St0.start (g : w.grownBy w' none) (h : LS w' (fun i => w.heap.size ≤ i ∧ i < w'.heap.size) b most []) : St0 w w' (fun i => w.heap.size ≤ i ∧ i < w'.heap.size) b most [] := ⟨h, fun i hi => hi.1, g⟩
end

/-- nobody made it -/
def Nob (q : Option Addr) (w : World) : Prop := q = none ∨ ∃ b, q = some ⟨b, 0, none⟩ ∧ Blk w b #[.int .i64 0, .slice none 0 0] 60
theorem Nob.keep {q : Option Addr} {w w' : World} (h : Nob q w) (g : w.grownBy w' none) : Nob q w' := by
  rcases h with h | ⟨b, h1, h2⟩
  · exact .inl h
  · exact .inr ⟨b, h1, h2.keepn g⟩
theorem none_nob {q : Option Addr} {w : World} (h : Nob q w) : Calls Try.prog 20 #[.pointer q] w fun e w' => e = .returned (.bool true) ∧ w' = w := by
  rcases h with rfl | ⟨b, rfl, h2⟩
  · go_enter Try.func20, Try.ntmps20
    go_wp2_with fail
    go_ret
    exact ⟨rfl, rfl⟩
  · have c0 := h2.cell 0 (.int .i64 0) rfl
    go_enter Try.func20, Try.ntmps20
    go_wp2_with fail
    go_ret
    exact ⟨rfl, rfl⟩
section
variable {q : Option Addr} {w : World} (h : Nob q w)
include h
theorem len_nob : Calls Try.prog 10 #[.pointer q] w fun e w' => e = .returned (.int .i64 0) ∧ w' = w := by
  have H := Lib.hid (none_nob h)
  clear h
  go_enter Try.func10, Try.ntmps10
  go_wp2_with fail
  refine H.out.mono ?_
  rintro e w1 ⟨rfl, rfl⟩
  go_wp2_with fail
  go_ret
  exact ⟨rfl, rfl⟩
theorem all_nob : Calls Try.prog 18 #[.pointer q] w fun e w' => e = .returned (.slice none 0 0) ∧ w' = w := by
  have H := Lib.hid (none_nob h)
  clear h
  go_enter Try.func18, Try.ntmps18
  go_wp2_with fail
  refine H.out.mono ?_
  rintro e w1 ⟨rfl, rfl⟩
  go_wp2_with fail
  go_ret
  exact ⟨rfl, rfl⟩
theorem fork_nob : Calls Try.prog 17 #[.pointer q] w fun e w' => e = .returned (.pointer none) ∧ w' = w := by
  have H := Lib.hid (none_nob h)
  clear h
  go_enter Try.func17, Try.ntmps17
  go_wp2_with fail
  refine H.out.mono ?_
  rintro e w1 ⟨rfl, rfl⟩
  go_wp2_with fail
  go_ret
  exact ⟨rfl, rfl⟩
theorem clear_nob : Calls Try.prog 16 #[.pointer q] w fun e w' => e = .returned (.int .i64 0) ∧ w' = w := by
  have H := Lib.hid (len_nob h)
  clear h
  go_enter Try.func16, Try.ntmps16
  go_wp2_with fail
  refine H.out.mono ?_
  rintro e w1 ⟨rfl, rfl⟩
  go_wp2_with fail
  go_ret
  exact ⟨rfl, rfl⟩
theorem push_nob (k n f vk vn : Int) (hh : Bool) (s : Int) : Calls Try.prog 8 #[.pointer q, .agg #[.int .i64 k, .int .i64 n, .int .i64 f, .int .i64 vk, .int .i64 vn, .bool hh, .int .i64 s]] w fun e w' => e = .returned (.int .i64 4) ∧ w.grownBy w' none := by
  have g := g_alloc (g_refl w none) (.cells #[.int .i64 k, .int .i64 n, .int .i64 f, .int .i64 vk, .int .i64 vn, .bool hh, .int .i64 s] 36)
  have H := Lib.hid (none_nob (h.keep g))
  have G := Lib.hid g
  clear h g
  go_enter Try.func8, Try.ntmps8
  go_wp2_with fail
  refine H.out.mono ?_
  rintro e w1 ⟨rfl, rfl⟩
  go_wp2_with fail
  go_ret
  exact ⟨rfl, G.out⟩
set_option maxHeartbeats 1600000 in
theorem pop_nob : Calls Try.prog 11 #[.pointer q] w fun e w' => e = .returned (.tuple #[.agg #[.int .i64 0, .int .i64 0, .int .i64 0, .int .i64 0, .int .i64 0, .bool false, .int .i64 0], .bool false]) ∧ w.grownBy w' none := by
  have g := g_alloc (g_alloc (g_alloc (g_refl w none) (.cells #[.pointer q] 24)) (.cells #[.int .i64 0, .int .i64 0, .int .i64 0, .int .i64 0, .int .i64 0, .bool false, .int .i64 0] 36)) (.cells #[.bool false] 4)
  have H := Lib.hid (none_nob (h.keep g))
  have G := Lib.hid g
  clear h g
  go_enter Try.func11, Try.ntmps11
  go_wp2_with fail
  refine H.out.mono ?_
  rintro e w1 ⟨rfl, rfl⟩
  go_wp2_with fail
  have B1 := Blk.keepn (Blk.new (w.alloc (.cells #[.pointer q] 24)) #[.int .i64 0, .int .i64 0, .int .i64 0, .int .i64 0, .int .i64 0, .bool false, .int .i64 0] 36) (g_alloc (g_refl _ none) (.cells #[.bool false] 4))
  have B2 := Blk.new ((w.alloc (.cells #[.pointer q] 24)).alloc (.cells #[.int .i64 0, .int .i64 0, .int .i64 0, .int .i64 0, .int .i64 0, .bool false, .int .i64 0] 36)) #[.bool false] 4
  simp only [World.size_alloc] at B1 B2
  have q0 := B1.cell 0 (.int .i64 0) rfl
  have q1 := B1.cell 1 (.int .i64 0) rfl
  have q2 := B1.cell 2 (.int .i64 0) rfl
  have q3 := B1.cell 3 (.int .i64 0) rfl
  have q4 := B1.cell 4 (.int .i64 0) rfl
  have q5 := B1.cell 5 (.bool false) rfl
  have q6 := B1.cell 6 (.int .i64 0) rfl
  have q7 := B2.cell 0 (.bool false) rfl
  exact bodyPost_ret (v := .tuple #[.agg #[.int .i64 0, .int .i64 0, .int .i64 0, .int .i64 0, .int .i64 0, .bool false, .int .i64 0], .bool false]) (by simp [results, Try.results11, go_sem, q0, q1, q2, q3, q4, q5, q6, q7]) rfl ⟨rfl, G.out⟩
set_option maxHeartbeats 1600000 in
theorem first_nob (rk rn f : Int) : Calls Try.prog 9 #[.pointer q, .agg #[.int .i64 rk, .int .i64 rn], .int .i64 f] w fun e w' => e = .returned (.tuple #[.agg #[.int .i64 0, .int .i64 0], .bool false]) ∧ w.grownBy w' none := by
  have g := g_alloc (g_alloc (g_alloc (g_refl w none) (.cells #[.int .i64 rk, .int .i64 rn] 31)) (.cells #[.int .i64 f] 3)) (.cells #[.int .i64 0, .int .i64 0] 31)
  have H := Lib.hid (none_nob (h.keep g))
  have G := Lib.hid g
  clear h g
  go_enter Try.func9, Try.ntmps9
  go_wp2_with fail
  refine H.out.mono ?_
  rintro e w1 ⟨rfl, rfl⟩
  go_wp2_with fail
  have B2 := Blk.new ((w.alloc (.cells #[.int .i64 rk, .int .i64 rn] 31)).alloc (.cells #[.int .i64 f] 3)) #[.int .i64 0, .int .i64 0] 31
  simp only [World.size_alloc] at B2
  have q0 := B2.cell 0 (.int .i64 0) rfl
  have q1 := B2.cell 1 (.int .i64 0) rfl
  exact bodyPost_ret (v := .tuple #[.agg #[.int .i64 0, .int .i64 0], .bool false]) (by simp [results, Try.results9, go_sem, q0, q1]) rfl ⟨rfl, G.out⟩
end
end Go.Proofs.Ytllljpmcfjmciaa
