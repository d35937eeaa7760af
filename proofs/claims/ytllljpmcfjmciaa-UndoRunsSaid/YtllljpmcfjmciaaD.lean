/- A log of old values: the walk from behind, as an iterator's contract. -/
import Derived.Test.YtllljpmcfjmciaaC
namespace Go.Proofs.Ytllljpmcfjmciaa
open Go.RowKit Go.Shelf
set_option linter.unusedVariables false
set_option linter.unusedSimpArgs false
attribute [local go_sem] Oper.semAt_some

theorem SRow.below {w w' : World} {ao : Option Addr} {L : List OV} (h : SRow w ao L) (hb : Below w.heap.size w w') : SRow w' ao L := h.keep ⟨hb.os, hb.tape, hb.output, hb.size, fun i hi _ => hb.block i hi⟩
set_option maxRecDepth 100000 in
set_option maxHeartbeats 2000000 in
theorem behind1_seq (n : Nat) (hn : 6 ≤ n) (b Bl B : Nat) (ao : Option Addr) (c : Nat) (L : List OV) (w : World) (hl : L.length ≤ 5000) (hBl : w.cell? ⟨Bl, 0, none⟩ = some (.pointer (some ⟨b, 0, none⟩))) (hlog : w.cell? ⟨b, 1, none⟩ = some (.slice ao L.length c)) (hr : SRow w ao L) :
    SeqX Fence.wide n Try.prog 23 #[.pointer (some ⟨Bl, 0, none⟩)] (fun x : OV => #[.agg #[.int .i64 x.k, .int .i64 x.n, .int .i64 x.f, .int .i64 x.vk, .int .i64 x.vn, .bool x.h, .int .i64 x.s]]) (KB (fun k => B ≤ k ∨ ∃ a, ao = some a ∧ k = a.block)) (fun xs => xs = L.reverse) (fun pre => pre <+: L.reverse) L.length B w := fun l J Jx W hW hWB hJ hJx hY h0 => by
  have hn1 : 1 ≤ n := by omega
  have k0 := (hW.cell (p := ⟨Bl, 0, none⟩) (World.block_lt_of_cell? _ _ hBl)).trans hBl
  have k1 := (hW.cell (p := ⟨b, 1, none⟩) (World.block_lt_of_cell? _ _ hlog)).trans hlog
  have HR : Hid (SRow W ao L) := Lib.hid (hr.below hW)
  have ga := g_alloc (g_refl W none) (.cells #[Value.func (.yield l) #[] #[]] 62)
  replace k0 := ga.cell k0 (by simp)
  replace k1 := ga.cell k1 (by simp)
  refine callsIn_of_wp_marks Try.func23 rfl trivial ?_
  simp only [Try.ntmps23, List.size_toArray, List.length_cons, List.length_nil, Nat.reduceAdd, Nat.reduceSub, Array.replicate_succ, Array.replicate_zero, List.push_toArray, List.append_toArray, List.nil_append, List.cons_append]
  gi_wp2
  refine ⟨trivial, ?_⟩
  refine (callsIn_wide.2 (backward_any ao L.length c _)).mono ?_
  rintro e w' ⟨rfl, rfl⟩
  gi_wp2
  have gb := g_alloc ga (.cells #[.slice ao L.length c] 44)
  have cBy : ((W.alloc (.cells #[Value.func (.yield l) #[] #[]] 62)).alloc (.cells #[.slice ao L.length c] 44)).cell? ⟨B, 0, none⟩ = some (.func (.yield l) #[] #[]) := by
    have h := (g_alloc (g_refl (W.alloc (.cells #[Value.func (.yield l) #[] #[]] 62)) none) (.cells #[.slice ao L.length c] 44)).cell ((Blk.new W #[Value.func (.yield l) #[] #[]] 62).cell 0 _ rfl) (by simp)
    rw [hWB] at h; exact h
  have cBs : ((W.alloc (.cells #[Value.func (.yield l) #[] #[]] 62)).alloc (.cells #[.slice ao L.length c] 44)).cell? ⟨B + 1, 0, none⟩ = some (.slice ao L.length c) := by
    have h := (Blk.new (W.alloc (.cells #[Value.func (.yield l) #[] #[]] 62)) #[.slice ao L.length c] 44).cell 0 _ rfl
    rw [World.size_alloc, hWB] at h; exact h
  have hsz : ((W.alloc (.cells #[Value.func (.yield l) #[] #[]] 62)).alloc (.cells #[.slice ao L.length c] 44)).heap.size = B + 2 := by simp [hWB]
  have hwi : J [] ((W.alloc (.cells #[Value.func (.yield l) #[] #[]] 62)).alloc (.cells #[.slice ao L.length c] 44)) := hJ _ _ _ h0 (((Below.refl _ W).alloc (by omega) _).alloc (by simp; omega) _)
  have HRi := Lib.hid (HR.out.keep gb)
  clear ga gb k0 k1 HR
  generalize (W.alloc (.cells #[Value.func (.yield l) #[] #[]] 62)).alloc (.cells #[.slice ao L.length c] 44) = wi at *
  have hseq : SeqX Fence.wide (n - 1) Try.prog 25 #[.pointer (some ⟨B + 1, 0, none⟩)] (fun x : Int × OV => #[.int .i64 x.1, .agg #[.int .i64 x.2.k, .int .i64 x.2.n, .int .i64 x.2.f, .int .i64 x.2.vk, .int .i64 x.2.vn, .bool x.2.h, .int .i64 x.2.s]]) (KB (fun k => k = B + 1 ∨ ∃ a, ao = some a ∧ k = a.block)) (fun xs => xs.map Prod.snd = L.reverse) (fun pre => pre.map Prod.snd <+: L.reverse) L.length (wi.heap.size + 2) wi := fun l' J' Jx' W' hW' hB' _ _ hY' h0' =>
    back1_in (n - 1) (by omega) l' (B + 1) (wi.heap.size + 2) ao c L _ J' Jx' hl hY' W' ((hW'.cell (p := ⟨B + 1, 0, none⟩) (by show B + 1 < _; omega)).trans cBs) (HRi.out.below hW') (.inl rfl) (fun a e => .inr ⟨a, e, rfl⟩) h0'
  refine wpIn_rangeX (w0 := wi) rfl (by omega) (gf := 25) (lb := #[.pointer (some ⟨B + 1, 0, none⟩)]) rfl trivial (enters_of Try.func25 (by kernel_rfl) rfl) hseq KB.trans (fun W l o o' _ h ho => KB.putObj W l o o' h ho) (Below.refl _ _) (fun _ => rfl)
    (fun pre W' => J (pre.map Prod.snd) W' ∧ W'.cell? ⟨B, 0, none⟩ = some (.func (.yield l) #[] #[]))
    (fun cd pre W' => cd = .ret ∧ Jx (pre.map Prod.snd) W')
    (fun s A B' hs hb => ⟨hJ _ _ _ hs.1 (hb.mono (by omega)), (hb.cell (p := ⟨B, 0, none⟩) (by show B < _; omega)).trans hs.2⟩)
    (fun cd s A B' hs hb => ⟨hs.1, hJx _ _ _ hs.2 (hb.mono (by omega))⟩)
    ⟨hwi, cBy⟩
    (fun x a' W' => ∃ Bx, wi.heap.size + 2 ≤ Bx ∧ Blk W' Bx #[.int .i64 x.2.k, .int .i64 x.2.n, .int .i64 x.2.f, .int .i64 x.2.vk, .int .i64 x.2.vn, .bool x.2.h, .int .i64 x.2.s] 36 ∧ a' = { tmps := #[.func (.yield l) #[] #[], .pointer (some ⟨Bl, 0, none⟩), .pointer (some ⟨B, 0, none⟩), undef, .pointer (some ⟨Bx, 0, none⟩), .pointer (some ⟨b, 0, none⟩), .pointer (some ⟨b, 0, none⟩), .pointer (some ⟨b, 1, none⟩), .slice ao L.length c, .func (.func 25) #[] #[.pointer (some ⟨B + 1, 0, none⟩)], .int .i64 x.1, .agg #[.int .i64 x.2.k, .int .i64 x.2.n, .int .i64 x.2.f, .int .i64 x.2.vk, .int .i64 x.2.vn, .bool x.2.h, .int .i64 x.2.s], undef, undef, undef, undef], defers := [] })
    (fun x a' W' l' o' ⟨Bx, h1, h2, h3⟩ hl' => ⟨Bx, h1, (World.putObj_heap_other (by omega)).trans h2, h3⟩) ?assign ?body ?done ?stop
  case assign =>
    intro l' pre x W' K hsz' hi hK
    gi_wp2
    exact hK _ _ ((KeepsOthers.alloc _ _).from _) (KB.of_g (g_alloc (g_refl _ _) _)) ⟨hJ _ _ _ hi.1 ((Below.refl _ _).alloc (by omega) _), (g_alloc (g_refl W' none) _).cell hi.2 (by simp)⟩ ⟨W'.heap.size, hsz', Blk.new _ _ _, rfl⟩
  case body =>
    rintro l' pre x a' W' hsz' ⟨hj, hby⟩ ⟨Bx, hBx, hblk, rfl⟩ hlen
    obtain ⟨fn, tmps, assign, body, hy, hR⟩ := YieldAt.wide (m' := n - 1 - 1 - 1) (hY (pre.map Prod.snd) x.2 W' hj (by rw [List.length_map]; exact hlen))
    have c0 := hblk.cell 0 (.int .i64 x.2.k) rfl
    have c1 := hblk.cell 1 (.int .i64 x.2.n) rfl
    have c2 := hblk.cell 2 (.int .i64 x.2.f) rfl
    have c3 := hblk.cell 3 (.int .i64 x.2.vk) rfl
    have c4 := hblk.cell 4 (.int .i64 x.2.vn) rfl
    have c5 := hblk.cell 5 (.bool x.2.h) rfl
    have c6 := hblk.cell 6 (.int .i64 x.2.s) rfl
    clear hblk
    gi_wp2
    refine ⟨fun _ => by omega, ?_⟩
    refine RoundIn.mono (F := Fence.wide.inRound l') hR ?_
    rintro e W3 (⟨rfl, h1, h2, h3⟩ | ⟨rfl, h1, h2⟩)
    · gi_wp2
      exact ⟨KeepsFrom.mono' h3 (by omega), h2.mono (fun k hk => by rcases hk with rfl | hk; exact .inl (by omega); exact .inr hk), by simpa using h1, h2.cell hby (.inl (Nat.le_refl _))⟩
    · gi_wp2
      exact ⟨KeepsFrom.mono' h2 (by omega), rfl, by simpa using h1⟩
  case done =>
    rintro D xs W' hD hS ⟨hj, _⟩ hK
    gi_wp2
    refine ⟨by simp, .inl ⟨_, _, rfl, run_takeDeferred hK, ?_⟩⟩
    exact ⟨_, results_none rfl _ _ _, ⟨⟨_, rfl⟩, .inl ⟨_, hS, hJ _ _ _ hj (bel_putObj _ _ _ (by omega))⟩⟩⟩
  case stop =>
    rintro D cd pre W' hD hSp ⟨rfl, hj⟩ hK
    gi_wp2
    refine ⟨by simp, .inl ⟨_, _, rfl, run_takeDeferred hK, ?_⟩⟩
    exact ⟨_, results_none rfl _ _ _, ⟨⟨_, rfl⟩, .inr ⟨_, hSp, hJx _ _ _ hj (bel_putObj _ _ _ (by omega))⟩⟩⟩
end Go.Proofs.Ytllljpmcfjmciaa
