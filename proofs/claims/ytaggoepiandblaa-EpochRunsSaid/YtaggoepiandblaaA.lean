/- The epochs' slots: the methods that only tell, and turn, each by its contract. -/
import Derived.Test.YtaggoepiandblaaBase
namespace Go.Proofs.Ytaggoepiandblaa
open Go.RowKit

set_option maxHeartbeats 400000 in
theorem load_any (b o : Nat) (x : Int) (w : World) (h : w.cell? ⟨b, o, none⟩ = some (.int .i64 x)) :
    Calls Try.prog 26 #[.pointer (some ⟨b, o, none⟩)] w fun e w' => e = .returned (.int .i64 x) ∧ w = w' := by
  have hld := run_call_load (P := Try.prog) Try.func29 (by kernel_rfl) (by kernel_rfl) (by kernel_rfl) .i64 (by kernel_rfl) h
  go_enter Try.func26, Try.ntmps26
  go_wp2
  go_ret
  exact ⟨rfl, rfl⟩
theorem load_g (b o : Nat) (x : Int) (w : World) (h : w.cell? ⟨b, o, none⟩ = some (.int .i64 x)) :
    Calls Try.prog 26 #[.pointer (some ⟨b, o, none⟩)] w fun e w' => e = .returned (.int .i64 x) ∧ w.grownBy w' none :=
  (load_any b o x w h).mono fun _ _ ⟨he, hw⟩ => ⟨he, by rw [← hw]; exact g_refl _ _⟩

set_option maxHeartbeats 400000 in
theorem add_any (b o : Nat) (x d : Int) (w : World) (h : w.cell? ⟨b, o, none⟩ = some (.int .i64 x)) (hf : w.frozen? ⟨b, o, none⟩ = false) (h1 : -4611686018427387904 ≤ x + d) (h2 : x + d < 4611686018427387904) :
    Calls Try.prog 27 #[.pointer (some ⟨b, o, none⟩), .int .i64 d] w fun e w' => e = .returned (.int .i64 (x + d)) ∧ w.setCell ⟨b, o, none⟩ (.int .i64 (x + d)) = w' := by
  have hs : (Op.intArith .add .i64 x d).run Try.prog w = .ok (.int .i64 (x + d)) w := by
    have e : IntKind.i64.wrap (x + d) = x + d := by rw [IntKind.wrap_i64]; omega
    simp [Op.intArith, go_sem, e]
  have had := run_call_add (P := Try.prog) Try.func30 (by kernel_rfl) (by kernel_rfl) (by kernel_rfl) .i64 (by kernel_rfl) h hf hs
  clear hs
  go_enter Try.func27, Try.ntmps27
  go_wp2
  go_ret
  exact ⟨rfl, rfl⟩

set_option maxHeartbeats 400000 in
theorem store_any (b o : Nat) (x d : Int) (w : World) (h : w.cell? ⟨b, o, none⟩ = some (.int .i64 x)) (hf : w.frozen? ⟨b, o, none⟩ = false) :
    Calls Try.prog 25 #[.pointer (some ⟨b, o, none⟩), .int .i64 d] w fun e w' => e = .returned (.tuple #[]) ∧ w.setCell ⟨b, o, none⟩ (.int .i64 d) = w' := by
  have hst := run_call_store (P := Try.prog) Try.func28 (by kernel_rfl) (by kernel_rfl) (by kernel_rfl) (by kernel_rfl) (k := .i64) (y := d) h hf
  go_enter Try.func25, Try.ntmps25
  go_wp2
  go_end0
  exact ⟨rfl, rfl⟩

/-- slots at block b: f t for each thread t of n -/
def Sl (w : World) (b : Nat) (n : Nat) (f : Nat → Int) : Prop := n ≤ 64 ∧ ∃ xs, Blk w b xs 57 ∧ (∀ i, i < 64 → xs[i]? = some (.int .i64 (f i))) ∧ xs[64]? = some (.int .i64 n)
section
variable {w w' : World} {b n : Nat} {f : Nat → Int}
theorem Sl.cn (h : Sl w b n f) : w.cell? ⟨b, 64, none⟩ = some (.int .i64 n) := by obtain ⟨_, xs, h1, _, h3⟩ := h; exact h1.cell 64 _ h3
theorem Sl.ct (h : Sl w b n f) (t : Nat) (ht : t < n) : w.cell? ⟨b, t, none⟩ = some (.int .i64 (f t)) := by obtain ⟨h0, xs, h1, h2, _⟩ := h; exact h1.cell t _ (h2 t (by omega))
theorem Sl.free (h : Sl w b n f) (t : Nat) : w.frozen? ⟨b, t, none⟩ = false := by obtain ⟨_, xs, h1, h2, _⟩ := h; exact h1.free t
theorem Sl.lt (h : Sl w b n f) : b < w.heap.size := by obtain ⟨_, xs, h1, h2, _⟩ := h; exact h1.lt
theorem Sl.keep (h : Sl w b n f) (g : w.grownBy w' none) : Sl w' b n f := by obtain ⟨h0, xs, h1, h2, h3⟩ := h; exact ⟨h0, xs, h1.keepn g, h2, h3⟩
theorem Sl.keeps {c : Nat} (h : Sl w b n f) (g : w.grownBy w' (some c)) (hne : b ≠ c) : Sl w' b n f := by obtain ⟨h0, xs, h1, h2, h3⟩ := h; exact ⟨h0, xs, h1.keeps g hne, h2, h3⟩
theorem Sl.gw {W : World} (h : Sl W b n f) (x : GW W) : Sl x.w b n f := h.keep x.g
theorem Sl.set (h : Sl w b n f) (t : Nat) (ht : t < n) (v : Int) : Sl (w.setCell ⟨b, t, none⟩ (.int .i64 v)) b n (fun i => if i = t then v else f i) := by
  obtain ⟨h0, xs, h1, h2, h3⟩ := h
  refine ⟨h0, _, h1.set t _, fun i hi => ?_, ?_⟩
  · have hx := h2 i hi
    by_cases e : i = t
    · subst e
      have := (Array.getElem?_eq_some_iff.1 hx).1
      simp [this]
    · simp [e, hx, Ne.symm e]
  · have : t ≠ 64 := by omega
    simp [this, h3]
end
/-- what a slot is told to be -/
def sat (n : Nat) (f : Nat → Int) (t : Int) : Int := if 0 ≤ t ∧ t < n then f t.toNat else 0

set_option maxHeartbeats 400000 in
theorem len_any (b n : Nat) (f : Nat → Int) (w : World) (h : Sl w b n f) :
    Calls Try.prog 19 #[.pointer (some ⟨b, 0, none⟩)] w fun e w' => e = .returned (.int .i64 n) ∧ w.grownBy w' none := by
  have h0 := h.cn
  clear h
  go_enter Try.func19, Try.ntmps19
  go_wp2
  go_ret
  exact ⟨rfl, g_refl _ _⟩

set_option maxHeartbeats 400000 in
theorem at_in (b n : Nat) (f : Nat → Int) (w : World) (h : Sl w b n f) (t : Nat) (ht : t < n) :
    Calls Try.prog 20 #[.pointer (some ⟨b, 0, none⟩), .int .i64 t] w fun e w' => e = .returned (.int .i64 (f t)) ∧ w.grownBy w' none := by
  have hn := h.1
  have hc := h.ct t ht
  have h64 : (t : Int) < 64 := by omega
  go_enter Try.func20, Try.ntmps20
  go_wp2_with fail
  refine (len_any _ _ _ _ h).mono ?_
  rintro e w1 ⟨rfl, hg⟩
  have hc1 := hg.cell hc (by simp)
  clear hc
  go_wp2_with fail
  refine (load_any _ _ _ _ hc1).mono ?_
  rintro e w2 ⟨rfl, rfl⟩
  go_wp2_with fail
  go_ret
  exact ⟨rfl, hg⟩

set_option maxHeartbeats 400000 in
theorem at_out (b n : Nat) (f : Nat → Int) (w : World) (h : Sl w b n f) (t : Int) (ht : t < 0 ∨ (n : Int) ≤ t) :
    Calls Try.prog 20 #[.pointer (some ⟨b, 0, none⟩), .int .i64 t] w fun e w' => e = .returned (.int .i64 0) ∧ w.grownBy w' none := by
  by_cases h0 : t < 0
  · go_enter Try.func20, Try.ntmps20
    go_wp2
    go_ret
    exact ⟨rfl, g_refl _ _⟩
  · have h1 : (n : Int) ≤ t := by omega
    clear ht
    go_enter Try.func20, Try.ntmps20
    go_wp2_with fail
    refine (len_any _ _ _ _ h).mono ?_
    rintro e w1 ⟨rfl, hg⟩
    go_wp2_with fail
    go_ret
    exact ⟨rfl, hg⟩

theorem at_any (b n : Nat) (f : Nat → Int) (w : World) (h : Sl w b n f) (t : Int) :
    Calls Try.prog 20 #[.pointer (some ⟨b, 0, none⟩), .int .i64 t] w fun e w' => e = .returned (.int .i64 (sat n f t)) ∧ w.grownBy w' none := by
  by_cases ht : 0 ≤ t ∧ t < n
  · obtain ⟨k, rfl⟩ := Int.eq_ofNat_of_zero_le ht.1
    exact (at_in b n f w h k (by omega)).mono fun _ _ ⟨he, hg⟩ => ⟨by rw [he]; exact ret_int (by unfold sat; rw [if_pos ht]; simp), hg⟩
  · exact (at_out b n f w h t (by omega)).mono fun _ _ ⟨he, hg⟩ => ⟨by rw [he]; exact ret_int (by unfold sat; rw [if_neg ht]), hg⟩

/-- is a thread within? -/
def sin (n : Nat) (f : Nat → Int) (t : Int) : Bool := decide (sat n f t % 2 = 1)

set_option maxHeartbeats 400000 in
theorem in_any (b n : Nat) (f : Nat → Int) (w : World) (h : Sl w b n f) (t : Int) (hp : 0 ≤ sat n f t) (hp2 : sat n f t < 1000000) :
    Calls Try.prog 11 #[.pointer (some ⟨b, 0, none⟩), .int .i64 t] w fun e w' => e = .returned (.bool (sin n f t)) ∧ w.grownBy w' none := by
  by_cases ho : sat n f t % 2 = 1
  · have hs : sin n f t = true := by unfold sin; rw [ho]; rfl
    have HS := Lib.hid hs
    have hb := beq_iff_eq.2 ho
    clear hs
    go_enter Try.func11, Try.ntmps11
    go_wp2_with fail
    refine (at_any _ _ _ _ h _).mono ?_
    rintro e w1 ⟨rfl, hg⟩
    generalize sat n f t = v at *
    go_wp2_with fail
    go_ret
    exact ⟨ret_bool HS.out.symm, hg⟩
  · have hs : sin n f t = false := by unfold sin; simp [ho]
    have HS := Lib.hid hs
    have hb := beq_eq_false_iff_ne.2 ho
    clear hs
    go_enter Try.func11, Try.ntmps11
    go_wp2_with fail
    refine (at_any _ _ _ _ h _).mono ?_
    rintro e w1 ⟨rfl, hg⟩
    generalize sat n f t = v at *
    go_wp2_with fail
    go_ret
    exact ⟨ret_bool HS.out.symm, hg⟩

/-- what a turn answers, and what the slots are behind it -/
def turnR (n : Nat) (f : Nat → Int) (t : Int) (i : Bool) : Int := if t < 0 ∨ (n : Int) ≤ t then 5 else if sin n f t = i then 0 else 50
def turnF (n : Nat) (f : Nat → Int) (t : Int) (i : Bool) : Nat → Int := fun k => if turnR n f t i = 0 ∧ k = t.toNat then f t.toNat + 1 else f k

set_option maxHeartbeats 800000 in
theorem turn_any (b n : Nat) (f : Nat → Int) (w : World) (h : Sl w b n f) (t : Int) (i : Bool) (hn : 0 < n) (hp : 0 ≤ sat n f t) (hp2 : sat n f t < 1000000) :
    Calls Try.prog 23 #[.pointer (some ⟨b, 0, none⟩), .int .i64 t, .bool i] w fun e w' => e = .returned (.int .i64 (turnR n f t i)) ∧ Sl w' b n (turnF n f t i) ∧ w.grownBy w' (some b) := by
  have hn0 : ((n : Int) == 0) = false := by rw [beq_eq_false_iff_ne]; omega
  by_cases h1 : t < 0 ∨ (n : Int) ≤ t
  · have hr : turnR n f t i = 5 := by unfold turnR; rw [if_pos h1]
    have hf : turnF n f t i = f := by funext k; unfold turnF; rw [hr]; simp
    rw [hr, hf]
    clear hr hf hp hp2
    by_cases h2 : t < 0
    · clear h1
      go_enter Try.func23, Try.ntmps23
      go_wp2_with fail
      refine (len_any _ _ _ _ h).mono ?_
      rintro e w1 ⟨rfl, hg⟩
      go_wp2_with fail
      go_ret
      exact ⟨rfl, h.keep hg, g_none hg _⟩
    · have h3 : (n : Int) ≤ t := by omega
      have hcn := h.cn
      clear h1
      go_enter Try.func23, Try.ntmps23
      go_wp2_with fail
      refine (len_any _ _ _ _ h).mono ?_
      rintro e w1 ⟨rfl, hg⟩
      have hcn1 := hg.cell hcn (by simp)
      clear hcn
      go_wp2_with fail
      go_ret
      exact ⟨rfl, h.keep hg, g_none hg _⟩
  · obtain ⟨k, rfl⟩ := Int.eq_ofNat_of_zero_le (show 0 ≤ t by omega)
    have hk : k < n := by omega
    have h64 := h.1
    have h65 : (k : Int) < 64 := by omega
    have hcn := h.cn
    by_cases h2 : sin n f k = i
    · have hr : turnR n f k i = 0 := by unfold turnR; rw [if_neg h1, if_pos h2]
      have hf : turnF n f k i = fun j => if j = k then f k + 1 else f j := by funext j; unfold turnF; rw [hr]; simp
      have hs : sat n f k = f k := by unfold sat; rw [if_pos (by omega)]; simp
      have hck := h.ct k hk
      rw [hr, hf]
      have hb1 : 0 ≤ f k ∧ f k < 1000000 := by rw [hs] at hp hp2; exact ⟨hp, hp2⟩
      obtain ⟨hb1, hb2⟩ := hb1
      have HS := Lib.hid hs
      have H2 := Lib.hid h2
      clear hr hf h1 hs h2
      go_enter Try.func23, Try.ntmps23
      go_wp2_with fail
      refine (len_any _ _ _ _ h).mono ?_
      rintro e w1 ⟨rfl, hg⟩
      have hcn1 := hg.cell hcn (by simp)
      clear hcn
      go_wp2_with fail
      refine (in_any _ _ _ _ (h.keep hg) _ hp hp2).mono ?_
      rw [H2.out]
      rintro e w2 ⟨rfl, hg2⟩
      have hk2 := (h.keep hg).keep hg2
      have hck2 := hg2.cell (hg.cell hck (by simp)) (by simp)
      clear hcn1 hck
      go_wp2_with fail
      refine (add_any _ _ _ _ _ hck2 (hk2.free _) (by omega) (by omega)).mono ?_
      rintro e w3 ⟨rfl, rfl⟩
      go_wp2_with fail
      go_ret
      exact ⟨rfl, hk2.set k hk _, g_set (g_none (g_trans hg hg2) _) (.inl rfl) _⟩
    · have hr : turnR n f k i = 50 := by unfold turnR; rw [if_neg h1, if_neg h2]
      have hf : turnF n f k i = f := by funext j; unfold turnF; rw [hr]; simp
      rw [hr, hf]
      have hd : (sin n f k != i) = true := by simp [h2]
      have HD : (sin n f k) = !i := by cases hs : sin n f k <;> cases i <;> simp_all
      have H2 := Lib.hid HD
      clear hr hf h1 h2 hd HD
      go_enter Try.func23, Try.ntmps23
      go_wp2_with fail
      refine (len_any _ _ _ _ h).mono ?_
      rintro e w1 ⟨rfl, hg⟩
      have hcn1 := hg.cell hcn (by simp)
      clear hcn
      go_wp2_with fail
      refine (in_any _ _ _ _ (h.keep hg) _ hp hp2).mono ?_
      rw [H2.out]
      rintro e w2 ⟨rfl, hg2⟩
      have hk2 := (h.keep hg).keep hg2
      clear hcn1
      cases i
      · go_wp2_with fail
        go_ret
        exact ⟨rfl, hk2, g_none (g_trans hg hg2) _⟩
      · go_wp2_with fail
        go_ret
        exact ⟨rfl, hk2, g_none (g_trans hg hg2) _⟩
end Go.Proofs.Ytaggoepiandblaa
