/- Decode: the instruction of bytes. -/
import Derived.Test.YtmckaimgeflncaaF
import Derived.Laws.BitsLemmas
import Derived.Lib.SliceRun
namespace Go.Proofs.Ytmckaimgeflncaa
open Go.RowKit
set_option linter.unusedVariables false


/-- a row of bytes, of any slice -/
def BRow (w : World) (ao : Option Addr) (L : List Int) : Prop :=
  ∀ i x, L[i]? = some x → (0 ≤ x ∧ x ≤ 255) ∧ ∃ b off, ao = some ⟨b, off, none⟩ ∧ w.cell? ⟨b, off + i, none⟩ = some (.int .u8 x)
theorem BRow.keep {w w' : World} {ao : Option Addr} {L : List Int} (h : BRow w ao L) (g : w.grownBy w' none) : BRow w' ao L := fun i x hi => by
  obtain ⟨h0, b, off, h1, h2⟩ := h i x hi
  exact ⟨h0, b, off, h1, g.cell h2 (by simp)⟩

set_option maxHeartbeats 800000 in
theorem clone_any (b o n c : Nat) (M : List Int) (w : World) (hM : M.length = n) (hn4 : n < 100000) (hnc : n ≤ c) (hc : c ≤ 9223372036854775807) (hcl : ∀ j x, M[j]? = some x → w.cell? ⟨b, o + j, none⟩ = some (.int .u8 x)) :
    Calls Try.prog 37 #[.slice (some ⟨b, o, none⟩) n c] w fun e w' => ∃ v, e = .returned v ∧ w'.ownsRow w.heap.size 5 1 v n (byV M) ∧ w.grownBy w' none := by
  obtain ⟨i0, hi, hz0, hz1, hz2⟩ := info_parts info5
  have heq := fun (w : World) (a : Option Addr) (n c : Nat) => Lib.run_eql_slice_nil (P := Try.prog) w 23 5 a n c 0 0 Try.underlying23
  have hoe : (w.alloc (.cells #[] 5)).ownsRow w.heap.size 5 1 (.slice (some ⟨w.heap.size, 0, none⟩) 0 0) 0 [] := by
    have := World.ownsRow_made w (base := w.heap.size) (e := 5) (size := 1) #[] 0 (by simp) (by unfold maxLen; omega) rfl
    simpa using this
  have g1 : w.grownBy (w.alloc (.cells #[] 5)) none := g_alloc (g_refl _ _) _
  have hnews : ∀ (j : Nat) (u : Value), (byV M)[j]? = some u → (w.alloc (.cells #[] 5)).cell? ((⟨b, o, none⟩ : Addr).add j) = some u := fun j u hu => by
    unfold byV at hu
    rw [List.getElem?_map] at hu
    cases hx : M[j]? with
    | none => rw [hx] at hu; cases hu
    | some x =>
      rw [hx] at hu
      cases hu
      rw [Addr.add_lit]
      exact g1.cell (hcl j x hx) (by simp)
  have hln : (byV M).length = n * 1 := by rw [byV_length, hM, Nat.mul_one]
  have HO := Lib.hid hoe
  have HNE := Lib.hid hnews
  have HL := Lib.hid hln
  clear hoe hnews hcl hln
  go_enter Try.func37, Try.ntmps37
  go_wp2_with (at_builtin; refine wpList_append_own _ rfl _ _ 23 rfl w.heap.size 5 i0 (.int .u8 0) 1 1 Try.underlying23 hi hz0 hz1 hz2 rfl (by decide) _ _ _ rfl HO.out ⟨b, o, none⟩ n c (byV M) rfl HL.out HNE.out ?c2 ?c3 ?c4 ?c5 ?_)
  case c2 => intro u hu; simp [byV] at hu; obtain ⟨a, _, h⟩ := hu; subst h; rfl
  case c3 => unfold maxLen; omega
  case c4 => omega
  case c5 => simp
  intro v' w4 hown hgrow _
  have g4 : w.grownBy w4 none := g_in g1 (g := w.heap.size) (by simpa only [Value.ownBlock] using hgrow) (Nat.le_refl _)
  have HOW := Lib.hid hown
  clear hown hgrow HO HNE
  go_wp2_with fail
  go_ret
  exact ⟨_, rfl, by simpa using HOW.out, g4⟩

/-- how many bytes are ahead of the j-th number -/
def alN (s0 s1 s2 : Int) : Nat → Nat
  | 0 => 1
  | 1 => 1 + wdN s0
  | 2 => 1 + wdN s0 + wdN s1
  | _ => 1 + wdN s0 + wdN s1 + wdN s2
theorem alN_succ (s0 s1 s2 : Int) {j : Nat} (h : j < 3) : alN s0 s1 s2 (j + 1) = alN s0 s1 s2 j + wdN (pick3 s0 s1 s2 j) := by
  match j, h with
  | 0, _ => rfl
  | 1, _ => rfl
  | 2, _ => rfl
theorem alN_le (s0 s1 s2 : Int) (j : Nat) : alN s0 s1 s2 j ≤ 25 := by
  have h0 := wdN_le s0
  have h1 := wdN_le s1
  have h2 := wdN_le s2
  unfold alN
  split <;> omega
theorem alN_mono (s0 s1 s2 : Int) {j : Nat} (h : j ≤ 3) : alN s0 s1 s2 j ≤ alN s0 s1 s2 3 := by
  match j, h with
  | 0, _ => show 1 ≤ 1 + wdN s0 + wdN s1 + wdN s2; omega
  | 1, _ => show 1 + wdN s0 ≤ 1 + wdN s0 + wdN s1 + wdN s2; omega
  | 2, _ => show 1 + wdN s0 + wdN s1 ≤ 1 + wdN s0 + wdN s1 + wdN s2; omega
  | 3, _ => exact Nat.le_refl _
theorem ix47 (A B C : Int) {k : Nat} (hk : k < 3) (w : World) : (Instr.index 59 (.agg #[.int .i64 A, .int .i64 B, .int .i64 C]) (.int .i64 k)).run Try.prog w = .ok (.int .i64 (pick3 A B C k)) w := by
  rcases (by omega : k = 0 ∨ k = 1 ∨ k = 2) with rfl | rfl | rfl <;> kernel_rfl
/-- bytes as a number -/
def numU (l : List Int) : Int := l.foldl (fun u x => (u * 256 + x) % 18446744073709551616) 0
theorem numU_snoc (l : List Int) (x : Int) : numU (l ++ [x]) = (numU l * 256 + x) % 18446744073709551616 := by simp [numU, List.foldl_append]

/-- the j-th number's bytes; the j-th number -/
def seg (s0 s1 s2 : Int) (L : List Int) (j : Nat) : List Int := (L.drop (alN s0 s1 s2 j)).take (wdN (pick3 s0 s1 s2 j))
def hv (s0 s1 s2 : Int) (L : List Int) (j : Nat) : Int := wrap64 (numU (seg s0 s1 s2 L j))
theorem seg_at (s0 s1 s2 : Int) {L : List Int} {j t : Nat} (ht : t < wdN (pick3 s0 s1 s2 j)) : (seg s0 s1 s2 L j)[t]? = L[alN s0 s1 s2 j + t]? := by
  unfold seg
  rw [List.getElem?_take_of_lt ht, List.getElem?_drop]
theorem numU_range (l : List Int) : 0 ≤ numU l ∧ numU l < 18446744073709551616 := by
  rcases List.eq_nil_or_concat l with rfl | ⟨M, x, rfl⟩
  · decide
  · rw [List.concat_eq_append, numU_snoc]
    omega
theorem or_byte (u x : Int) (h0 : 0 ≤ u) (hx0 : 0 ≤ x) (hx1 : x ≤ 255) : bits .or .u64 (IntKind.u64.wrap (u * 256)) x = (u * 256 + x) % 18446744073709551616 := by
  have e : IntKind.u64.wrap (u * 256) = u * 256 % 18446744073709551616 := IntKind.wrap_u64 _
  rw [e, bits_join .u64 64 (by decide) (fun n h0 h1 => by rw [IntKind.wrap_u64]; omega) 8 _ x (by omega) (by omega) (by omega) (by omega) (by omega) (by omega)]
  omega

set_option maxRecDepth 100000 in
set_option maxHeartbeats 3200000 in
theorem decode_k (ao : Option Addr) (n c : Nat) (L : List Int) (w : World) (hL : BRow w ao L) (hn : L.length = n) (k : Nat) (h1 : 1 ≤ k) (h2 : k ≤ 20) (h0 : L[0]? = some (k : Int)) (hn4 : n < 100000) (hnc : n ≤ c) (hcm : c ≤ 9223372036854775807) :
    Calls Try.prog 23 #[.slice ao n c] w fun e w' => w.grownBy w' none ∧ ((n < alN (sA k) (sB k) (sC k) 3 ∧ e = .returned (.tuple #[.agg #[.int .i64 0, .int .i64 0, .int .i64 0, .int .i64 0], .slice none 0 0, .int .i64 6]))
      ∨ (alN (sA k) (sB k) (sC k) 3 ≤ n ∧ okI k (hv (sA k) (sB k) (sC k) L 0) (hv (sA k) (sB k) (sC k) L 1) (hv (sA k) (sB k) (sC k) L 2) = false ∧ e = .returned (.tuple #[.agg #[.int .i64 0, .int .i64 0, .int .i64 0, .int .i64 0], .slice none 0 0, .int .i64 100]))
      ∨ (alN (sA k) (sB k) (sC k) 3 ≤ n ∧ okI k (hv (sA k) (sB k) (sC k) L 0) (hv (sA k) (sB k) (sC k) L 1) (hv (sA k) (sB k) (sC k) L 2) = true ∧ ∃ v, e = .returned (.tuple #[.agg #[.int .i64 k, .int .i64 (hv (sA k) (sB k) (sC k) L 0), .int .i64 (hv (sA k) (sB k) (sC k) L 1), .int .i64 (hv (sA k) (sB k) (sC k) L 2)], v, .int .i64 0]) ∧ w'.ownsRow w.heap.size 5 1 v (n - alN (sA k) (sB k) (sC k) 3) (byV (L.drop (alN (sA k) (sB k) (sC k) 3))))) := by
  have HF := Lib.hid (of_ok k h1 h2)
  obtain ⟨s0l, s0h, s1l, s1h, s2l, s2h⟩ := sorts_lt k
  generalize nmB k = nm at *
  generalize sA k = s0 at *
  generalize sB k = s1 at *
  generalize sC k = s2 at *
  have hps : ∀ j, 0 ≤ pick3 s0 s1 s2 j ∧ pick3 s0 s1 s2 j ≤ 6 := fun j => by
    unfold pick3
    split <;> omega
  have HPS := Lib.hid hps
  have hn0 : 0 < n := by rw [← hn]; exact (List.getElem?_eq_some_iff.1 h0).1
  have hn0' : (0 : Int) < n := by omega
  obtain ⟨_, bb, off, rfl, hc0⟩ := hL 0 _ h0
  rw [Nat.add_zero] at hc0
  have hn00 : ((n : Int) == 0) = false := by simp; omega
  have g0 := g_alloc (g_refl w none) (.cells #[.int .i64 0, .int .i64 0, .int .i64 0, .int .i64 0] 43)
  have hb := Blk.new w #[.int .i64 0, .int .i64 0, .int .i64 0, .int .i64 0] 43
  have c0 := g0.cell hc0 (by simp)
  have HL := Lib.hid hL
  have HB := Lib.hid hb
  have HN := Lib.hid hn
  have HL0 := Lib.hid h0
  clear hps s0l s0h s1l s1h s2l s2h hL hb h0 hn
  go_enter Try.func23, Try.ntmps23
  go_wp2_with fail
  refine (HF.out _).mono ?_
  rintro e w1 ⟨rfl, hg⟩
  have g2 := g_alloc (g_refl w1 none) (.cells #[.string nm, .int .i64 s0, .int .i64 s1, .int .i64 s2] 61)
  have gA := g_trans (g_trans g0 hg) g2
  have HBA := Lib.hid ((HB.out.keepn hg).keepn g2)
  have FB := Lib.hid (Blk.new w1 #[.string nm, .int .i64 s0, .int .i64 s1, .int .i64 s2] 61)
  have s01 := (g_trans g0 hg).size
  go_wp2_with fail
  clear c0 hc0 HF HB hg g2 g0
  generalize (w1.alloc (.cells #[.string nm, .int .i64 s0, .int .i64 s1, .int .i64 s2] 61)) = W2 at *
  go_loopw [7, 34] (fun a i wr => ∃ j : Nat, j ≤ 3 ∧ i = .int .i64 j ∧ a = .int .i64 (alN s0 s1 s2 j) ∧ W2.grownBy wr none) (fun _ i _ => (10 - intOf i).toNat)
  case atStart => exact ⟨0, by omega, rfl, rfl, g_refl _ _⟩
  case round =>
    obtain ⟨j, hj, rfl, rfl, hgr⟩ := hrel
    by_cases hlt : j < 3
    · have hix := ix47 s0 s1 s2 hlt
      have hw := wide_any (pick3 s0 s1 s2 j) (HPS.out j)
      have hse := alN_succ s0 s1 s2 hlt
      have hjb : (j : Int) < 3 := by omega
      have hal := alN_le s0 s1 s2 j
      generalize pick3 s0 s1 s2 j = sj at *
      have hwl := wdN_le sj
      generalize wdN sj = wd at *
      have HW := Lib.hid hw
      have HSE := Lib.hid hse
      have HGR := Lib.hid hgr
      clear hw hse hgr
      generalize alN s0 s1 s2 j = al at *
      go_wp2_with fail
      refine (HW.out _).mono ?_
      rintro e w6 ⟨rfl, hg6⟩
      have HGR6 := Lib.hid (g_trans HGR.out hg6)
      clear hg6
      go_wp2_with fail
      go_roundw
      case rel => exact ⟨j + 1, by omega, by go_num, by rw [HSE.out]; go_num, HGR6.out⟩
      case measure => simp [intOf]; omega
    · obtain rfl : j = 3 := by omega
      obtain ⟨al, hal⟩ : ∃ al, alN s0 s1 s2 3 = al := ⟨_, rfl⟩
      have hal25 := alN_le s0 s1 s2 3
      rw [hal] at hal25 ⊢
      have HAL := Lib.hid hal
      clear hal hj
      by_cases hshort : n < al
      · have hs' : (n : Int) < al := by omega
        have R := Lib.hid (HBA.out.keepn hgr)
        have r0 := R.out.cell 0 (.int .i64 0) rfl
        have r1 := R.out.cell 1 (.int .i64 0) rfl
        have r2 := R.out.cell 2 (.int .i64 0) rfl
        have r3 := R.out.cell 3 (.int .i64 0) rfl
        have f0 := R.out.free 0
        have f1 := R.out.free 1
        have f2 := R.out.free 2
        have f3 := R.out.free 3
        go_wp2_with fail
        have hF := (((R.out.set 0 (.int .i64 0)).set 1 (.int .i64 0)).set 2 (.int .i64 0)).set 3 (.int .i64 0)
        have k0 := hF.cell 0 (.int .i64 0) (by simp)
        have k1 := hF.cell 1 (.int .i64 0) (by simp)
        have k2 := hF.cell 2 (.int .i64 0) (by simp)
        have k3 := hF.cell 3 (.int .i64 0) (by simp)
        have gs := g_set (g_set (g_set (g_set (g_refl wr (some w.heap.size)) (p := ⟨w.heap.size, 0, none⟩) (.inl rfl) (.int .i64 0)) (p := ⟨w.heap.size, 1, none⟩) (.inl rfl) (.int .i64 0)) (p := ⟨w.heap.size, 2, none⟩) (.inl rfl) (.int .i64 0)) (p := ⟨w.heap.size, 3, none⟩) (.inl rfl) (.int .i64 0)
        exact bodyPost_ret (v := .tuple #[.agg #[.int .i64 0, .int .i64 0, .int .i64 0, .int .i64 0], .slice none 0 0, .int .i64 6]) (by simp [results, Try.results23, go_sem, k0, k1, k2, k3]) rfl ⟨g_in (g_trans gA hgr) gs (Nat.le_refl _), .inl ⟨by rw [HAL.out]; exact hshort, rfl⟩⟩
      · have hs' : (al : Int) ≤ n := by omega
        have HGR := Lib.hid hgr
        have FB3 := Lib.hid (FB.out.keepn hgr)
        clear hgr
        obtain ⟨wo, hwo⟩ : ∃ wo : World, wo = wr := ⟨_, rfl⟩
        rw [← hwo] at HGR FB3 ⊢
        clear hwo
        have g4 := g_alloc (g_refl wo none) (.cells #[.int .i64 0, .int .i64 0, .int .i64 0] 64)
        have u1 := (FB3.out.keepn g4).cell 1 (.int .i64 s0) rfl
        have u2 := (FB3.out.keepn g4).cell 2 (.int .i64 s1) rfl
        have u3 := (FB3.out.keepn g4).cell 3 (.int .i64 s2) rfl
        have hb4 := Blk.new wo #[.int .i64 0, .int .i64 0, .int .i64 0] 64
        go_wp2_with fail
        clear u1 u2 u3
        have HB4 := Lib.hid hb4
        have GW4 := Lib.hid (g_trans HGR.out g4)
        clear hb4
        generalize hW4 : (wo.alloc (.cells #[.int .i64 0, .int .i64 0, .int .i64 0] 64)) = W4 at *
        have GWW := Lib.hid (g_trans gA GW4.out)
        have hsz4 : wo.heap.size < W4.heap.size := HB4.out.lt
        have hszw : w.heap.size ≤ wo.heap.size := (g_trans gA HGR.out).size
        have hab : ABlk W4 wo.heap.size 64 3 (fun i => .int .i64 (if i < 0 then hv s0 s1 s2 L i else 0)) := ABlk.of HB4.out rfl (fun i hi => by
          rcases (by omega : i = 0 ∨ i = 1 ∨ i = 2) with rfl | rfl | rfl <;> rfl)
        have HAB := Lib.hid hab
        clear hab hW4
        rw [show ((3 : Nat) : Int) = 3 from rfl]
        go_loopw [11, 49] (fun a i wr => ∃ j : Nat, j ≤ 3 ∧ i = .int .i64 j ∧ a = .int .i64 (alN s0 s1 s2 j) ∧ ABlk wr wo.heap.size 64 3 (fun i => .int .i64 (if i < j then hv s0 s1 s2 L i else 0)) ∧ W4.grownBy wr (some wo.heap.size)) (fun _ i _ => (10 - intOf i).toNat)
        case atStart => exact ⟨0, by omega, rfl, rfl, HAB.out, g_refl _ _⟩
        case round =>
          obtain ⟨j, hj, rfl, rfl, hab, hgr⟩ := hrel
          by_cases hlt : j < 3
          · have hix := ix47 s0 s1 s2 hlt
            have hw := wide_any (pick3 s0 s1 s2 j) (HPS.out j)
            have hse := alN_succ s0 s1 s2 hlt
            have hsa := fun t (ht : t < wdN (pick3 s0 s1 s2 j)) => seg_at s0 s1 s2 (L := L) ht
            have hmo := alN_mono s0 s1 s2 (j := j + 1) (by omega)
            have hjb : (j : Int) < 3 := by omega
            have hal2 := alN_le s0 s1 s2 j
            obtain ⟨sg, hsg⟩ : ∃ sg, seg s0 s1 s2 L j = sg := ⟨_, rfl⟩
            have hslen : sg.length ≤ wdN (pick3 s0 s1 s2 j) := by rw [← hsg]; unfold seg; rw [List.length_take]; omega
            have hhv : hv s0 s1 s2 L j = wrap64 (numU sg) := by unfold hv; rw [hsg]
            rw [hsg] at hsa
            rw [HAL.out] at hmo
            generalize pick3 s0 s1 s2 j = sj at *
            have hwl := wdN_le sj
            generalize wdN sj = wd at *
            rw [hse] at hmo
            have HW := Lib.hid hw
            have HSE := Lib.hid hse
            have HSA := Lib.hid hsa
            have HHV := Lib.hid hhv
            have HABR := Lib.hid hab
            have HGRR := Lib.hid hgr
            clear hw hse hsa hsg hhv hab hgr
            generalize halj : alN s0 s1 s2 j = alj at *
            clear halj
            go_wp2_with fail
            refine (HW.out _).mono ?_
            rintro e w6 ⟨rfl, hg6⟩
            have HABR6 := Lib.hid (HABR.out.keepn hg6)
            have HGRR6 := Lib.hid (g_trans HGRR.out (g_none hg6 _))
            have GW6 := Lib.hid (g_in GWW.out HGRR6.out hszw)
            clear hg6
            go_wp2_with fail
            obtain ⟨w7, hw7⟩ : ∃ w7 : World, w7 = w6 := ⟨_, rfl⟩
            rw [← hw7] at HABR6 HGRR6 GW6 ⊢
            clear hw7
            go_loopw [11, 14, 55] (fun a u i wr => ∃ t : Nat, t ≤ wd ∧ i = .int .i64 t ∧ a = .int .i64 ((alj : Int) + t) ∧ u = .int .u64 (numU (sg.take t)) ∧ w7.grownBy wr none) (fun _ _ i _ => (20 - intOf i).toNat)
            case atStart => exact ⟨0, by omega, rfl, by go_num, rfl, g_refl _ _⟩
            case round =>
              obtain ⟨t, ht, rfl, rfl, rfl, hgr⟩ := hrel
              clear HABR HGRR
              by_cases hlt2 : t < wd
              · have htb : (t : Int) < wd := by omega
                obtain ⟨x, hx⟩ : ∃ x, L[alj + t]? = some x := ⟨L[alj + t]'(by rw [HN.out]; omega), List.getElem?_eq_getElem _⟩
                obtain ⟨⟨hx0, hx1⟩, b', off', he, hcx⟩ := HL.out _ x hx
                cases he
                have hxx := (g_trans GW6.out hgr).cell hcx (by simp)
                have hts : numU (sg.take (t + 1)) = (numU (sg.take t) * 256 + x) % 18446744073709551616 := by
                  rw [List.take_add_one, HSA.out t hlt2, hx]
                  exact numU_snoc _ _
                obtain ⟨hu0, hu1⟩ := numU_range (sg.take t)
                have HTS := Lib.hid hts
                have HGR7 := Lib.hid hgr
                generalize numU (sg.take t) = u at *
                have hor := or_byte u x hu0 hx0 hx1
                clear hts hgr hx hcx
                go_wp2_with fail
                go_roundw
                case rel => exact ⟨t + 1, by omega, by go_num, by go_num, by rw [HTS.out], HGR7.out⟩
                case measure => simp [intOf]; omega
              · obtain rfl : t = wd := by omega
                have htk : sg.take t = sg := List.take_of_length_le hslen
                rw [htk]
                have HGR7 := Lib.hid hgr
                have HAB7 := Lib.hid (HABR6.out.keepn hgr)
                have hc7 := HAB7.out.cell j (by omega)
                have hf7 := HAB7.out.free j
                have hhv := HHV.out
                generalize numU sg = u at *
                have HHV2 := Lib.hid hhv
                clear hgr htk hhv HABR6
                obtain ⟨h9, hh9⟩ : ∃ h9, wrap64 u = h9 := ⟨_, rfl⟩
                have HH9 := Lib.hid hh9
                go_wp2_with fail
                have kst := g_set (g_refl wr (some wo.heap.size)) (p := ⟨wo.heap.size, j, none⟩) (.inl rfl) (.int .i64 h9)
                have hab8 := (HAB7.out.set j (.int .i64 h9)).congr (G := fun i => .int .i64 (if i < j + 1 then hv s0 s1 s2 L i else 0)) (fun i hi => by
                  by_cases e : i = j
                  · subst e
                    rw [if_pos rfl, if_pos (by omega), HHV2.out, HH9.out]
                  · rw [if_neg e]
                    by_cases e2 : i < j
                    · rw [if_pos e2, if_pos (by omega)]
                    · rw [if_neg e2, if_neg (by omega)])
                go_roundw
                case rel => exact ⟨j + 1, by omega, by go_num, by rw [HSE.out]; go_num, hab8, g_trans (g_trans HGRR6.out (g_none HGR7.out _)) kst⟩
                case measure => simp [intOf]; omega
          · obtain rfl : j = 3 := by omega
            have hx0 := hab.cell 0 (by omega)
            have hx1 := hab.cell 1 (by omega)
            have hx2 := hab.cell 2 (by omega)
            rw [if_pos (by omega)] at hx0 hx1 hx2
            have GWR := Lib.hid (g_in GWW.out hgr hszw)
            have G2R := Lib.hid (g_in GW4.out hgr HGR.out.size)
            obtain ⟨_, b', off', he, hc0⟩ := HL.out 0 _ HL0.out
            cases he
            obtain ⟨A, hA⟩ : ∃ A, hv s0 s1 s2 L 0 = A := ⟨_, rfl⟩
            obtain ⟨B, hB⟩ : ∃ B, hv s0 s1 s2 L 1 = B := ⟨_, rfl⟩
            obtain ⟨C, hC⟩ : ∃ C, hv s0 s1 s2 L 2 = C := ⟨_, rfl⟩
            rw [hA] at hx0
            rw [hB] at hx1
            rw [hC] at hx2
            have HA := Lib.hid hA
            have HBv := Lib.hid hB
            have HCv := Lib.hid hC
            clear hA hB hC
            have hc00 := GWR.out.cell hc0 (by simp)
            rw [Nat.add_zero] at hc00
            clear hab hgr hc0
            rw [HAL.out]
            have gz := g_alloc (g_refl wr none) (.cells #[.int .i64 0, .int .i64 0, .int .i64 0, .int .i64 0] 43)
            have z0 := gz.cell hx0 (by simp)
            have z1 := gz.cell hx1 (by simp)
            have z2 := gz.cell hx2 (by simp)
            have z3 := gz.cell hc00 (by simp)
            go_wp2_with fail
            go_region
            all_goals
              clear z0 z1 z2 z3 gz
              go_wp2_with fail
            have g5 := g_drew (g_alloc (g_refl wr none) (.cells #[.int .i64 k, .int .i64 A, .int .i64 B, .int .i64 C] 43))
            have ib := (Blk.new wr #[.int .i64 k, .int .i64 A, .int .i64 B, .int .i64 C] 43).drew
            have HC := check_ok k h1 h2 A B C
            obtain ⟨r, hr⟩ : ∃ r, okI k A B C = r := ⟨_, rfl⟩
            rw [hr] at HC
            have HR := Lib.hid hr
            clear hr
            have GW5 := Lib.hid (g_trans GWR.out g5)
            have HIB := Lib.hid ib
            clear ib
            cases r with
            | false =>
              refine (HC _).mono ?_
              rintro e w8 ⟨rfl, hg8⟩
              have GW8 := Lib.hid (g_trans GW5.out hg8)
              have RB8 := Lib.hid (HBA.out.keepn (g_trans G2R.out (g_trans g5 hg8)))
              have r0' := RB8.out.cell 0 (.int .i64 0) rfl
              have r1' := RB8.out.cell 1 (.int .i64 0) rfl
              have r2' := RB8.out.cell 2 (.int .i64 0) rfl
              have r3' := RB8.out.cell 3 (.int .i64 0) rfl
              have q0' := RB8.out.free 0
              have q1' := RB8.out.free 1
              have q2' := RB8.out.free 2
              have q3' := RB8.out.free 3
              clear hg8 g5
              go_wp2_with fail
              have hF := (((RB8.out.set 0 (.int .i64 0)).set 1 (.int .i64 0)).set 2 (.int .i64 0)).set 3 (.int .i64 0)
              have k0 := hF.cell 0 (.int .i64 0) (by simp)
              have k1 := hF.cell 1 (.int .i64 0) (by simp)
              have k2 := hF.cell 2 (.int .i64 0) (by simp)
              have k3 := hF.cell 3 (.int .i64 0) (by simp)
              have gs := g_set (g_set (g_set (g_set (g_refl w8 (some w.heap.size)) (p := ⟨w.heap.size, 0, none⟩) (.inl rfl) (.int .i64 0)) (p := ⟨w.heap.size, 1, none⟩) (.inl rfl) (.int .i64 0)) (p := ⟨w.heap.size, 2, none⟩) (.inl rfl) (.int .i64 0)) (p := ⟨w.heap.size, 3, none⟩) (.inl rfl) (.int .i64 0)
              exact bodyPost_ret (v := .tuple #[.agg #[.int .i64 0, .int .i64 0, .int .i64 0, .int .i64 0], .slice none 0 0, .int .i64 100]) (by simp [results, Try.results23, go_sem, k0, k1, k2, k3]) rfl ⟨g_in GW8.out gs (Nat.le_refl _), .inr (.inl ⟨by rw [HAL.out]; omega, by rw [HA.out, HBv.out, HCv.out]; exact HR.out, rfl⟩)⟩
            | true =>
              refine (HC _).mono ?_
              rintro e w8 ⟨rfl, hg8⟩
              have GW8 := Lib.hid (g_trans GW5.out hg8)
              have IB8 := Lib.hid (HIB.out.keepn hg8)
              have RB8 := Lib.hid (HBA.out.keepn (g_trans G2R.out (g_trans g5 hg8)))
              have hcl : ∀ W', w.grownBy W' none → ∀ j x, (L.drop al)[j]? = some x → W'.cell? ⟨bb, off + al + j, none⟩ = some (.int .u8 x) := fun W' g j x hx => by
                rw [List.getElem?_drop] at hx
                obtain ⟨_, b', off', he, hc⟩ := HL.out _ x hx
                cases he
                have := g.cell hc (by simp)
                rwa [← Nat.add_assoc] at this
              have HCL := Lib.hid hcl
              obtain ⟨d, rfl⟩ := Nat.exists_eq_add_of_le (show al ≤ n by omega)
              obtain ⟨cd, rfl⟩ := Nat.exists_eq_add_of_le (show al ≤ c by omega)
              have hML : (L.drop al).length = d := by rw [List.length_drop, HN.out]; omega
              have HML := Lib.hid hML
              clear hcl hML hg8 g5
              have i0' := IB8.out.cell 0 (.int .i64 k) rfl
              have i1' := IB8.out.cell 1 (.int .i64 A) rfl
              have i2' := IB8.out.cell 2 (.int .i64 B) rfl
              have i3' := IB8.out.cell 3 (.int .i64 C) rfl
              have r0' := RB8.out.cell 0 (.int .i64 0) rfl
              have r1' := RB8.out.cell 1 (.int .i64 0) rfl
              have r2' := RB8.out.cell 2 (.int .i64 0) rfl
              have r3' := RB8.out.cell 3 (.int .i64 0) rfl
              have q0' := RB8.out.free 0
              have q1' := RB8.out.free 1
              have q2' := RB8.out.free 2
              have q3' := RB8.out.free 3
              have hsw8 := (g_trans GWW.out (g_refl W4 none)).size
              have hsw8 : w.heap.size < w8.heap.size := RB8.out.lt
              try clear hx0 hx1 hx2 hc00
              by_cases hcd : cd = 0
              · obtain rfl : d = 0 := by omega
                subst hcd
                have HCL0 := Lib.hid (show ∀ W', w.grownBy W' none → ∀ j x, (L.drop al)[j]? = some x → W'.cell? ⟨bb, off + j, none⟩ = some (.int .u8 x) from fun W' g j x hx => by
                  have h1 := (List.getElem?_eq_some_iff.1 hx).1
                  have h2 := HML.out
                  omega)
                go_wp2_with fail
                go_region_with (first | (go_at_call 37; refine Calls.mono (clone_any bb (off) 0 0 (L.drop al) _ HML.out (by omega) (by omega) (by omega) (by first | exact HCL0.out _ (g_drew GW8.out) | exact HCL0.out _ (g_in (g := w.heap.size) (g_drew GW8.out) (g_set (g_set (g_set (g_set (g_refl _ _) (.inl rfl) _) (.inl rfl) _) (.inl rfl) _) (.inl rfl) _) (Nat.le_refl _)))) ?_; rintro e wq ⟨v, rfl, hoq, hgq⟩; have HOQ := Lib.hid hoq; have HGQ := Lib.hid hgq; try (have j0 := hgq.cell i0' (by simp); have j1 := hgq.cell i1' (by simp); have j2 := hgq.cell i2' (by simp); have j3 := hgq.cell i3' (by simp); have j4 := hgq.cell r0' (by simp); have j5 := hgq.cell r1' (by simp); have j6 := hgq.cell r2' (by simp); have j7 := hgq.cell r3' (by simp); have k0 := (RB8.out.drew.keepn hgq).free 0; have k1 := (RB8.out.drew.keepn hgq).free 1; have k2 := (RB8.out.drew.keepn hgq).free 2; have k3 := (RB8.out.drew.keepn hgq).free 3); clear hoq hgq))
                all_goals
                  go_wp2_with fail
                all_goals
                  have hF := ((((RB8.out.drew.keepn HGQ.out).set 0 (.int .i64 k)).set 1 (.int .i64 A)).set 2 (.int .i64 B)).set 3 (.int .i64 C)
                  have m0 := hF.cell 0 (.int .i64 k) (by simp)
                  have m1 := hF.cell 1 (.int .i64 A) (by simp)
                  have m2 := hF.cell 2 (.int .i64 B) (by simp)
                  have m3 := hF.cell 3 (.int .i64 C) (by simp)
                  have gs := g_set (g_set (g_set (g_set (g_refl wq (some w.heap.size)) (p := ⟨w.heap.size, 0, none⟩) (.inl rfl) (.int .i64 k)) (p := ⟨w.heap.size, 1, none⟩) (.inl rfl) (.int .i64 A)) (p := ⟨w.heap.size, 2, none⟩) (.inl rfl) (.int .i64 B)) (p := ⟨w.heap.size, 3, none⟩) (.inl rfl) (.int .i64 C)
                  refine bodyPost_ret (v := .tuple #[.agg #[.int .i64 k, .int .i64 A, .int .i64 B, .int .i64 C], v, .int .i64 0]) (by simp [results, Try.results23, go_sem, m0, m1, m2, m3]) rfl ⟨g_in (g_trans (g_drew GW8.out) HGQ.out) gs (Nat.le_refl _), .inr (.inr ⟨by rw [HAL.out]; omega, by rw [HA.out, HBv.out, HCv.out]; exact HR.out, v, by rw [HA.out, HBv.out, HCv.out], ?_⟩)⟩
                  rw [HAL.out]
                  have how9 := World.ownsRow.kept HOQ.out gs (.inr (fun e => by have h9 : w8.heap.size ≤ w.heap.size := (HOQ.out.lt _ e).1; omega))
                  have hsub : al + 0 - al = 0 := by omega
                  rw [hsub]
                  exact own_down how9 (show w.heap.size ≤ w8.heap.size by omega)
              · have hcd1 : (0 : Int) < cd := by omega
                have hcd2 : ¬ ((al : Int) + cd - al) = 0 := by omega
                go_wp2_with fail
                go_region_with (first | (go_at_call 37; refine Calls.mono (clone_any bb (off + al) d cd (L.drop al) _ HML.out (by omega) (by omega) (by omega) (by first | exact HCL.out _ (g_drew GW8.out) | exact HCL.out _ (g_in (g := w.heap.size) (g_drew GW8.out) (g_set (g_set (g_set (g_set (g_refl _ _) (.inl rfl) _) (.inl rfl) _) (.inl rfl) _) (.inl rfl) _) (Nat.le_refl _)))) ?_; rintro e wq ⟨v, rfl, hoq, hgq⟩; have HOQ := Lib.hid hoq; have HGQ := Lib.hid hgq; try (have j0 := hgq.cell i0' (by simp); have j1 := hgq.cell i1' (by simp); have j2 := hgq.cell i2' (by simp); have j3 := hgq.cell i3' (by simp); have j4 := hgq.cell r0' (by simp); have j5 := hgq.cell r1' (by simp); have j6 := hgq.cell r2' (by simp); have j7 := hgq.cell r3' (by simp); have k0 := (RB8.out.drew.keepn hgq).free 0; have k1 := (RB8.out.drew.keepn hgq).free 1; have k2 := (RB8.out.drew.keepn hgq).free 2; have k3 := (RB8.out.drew.keepn hgq).free 3); clear hoq hgq))
                all_goals
                  go_wp2_with fail
                all_goals
                  have hF := ((((RB8.out.drew.keepn HGQ.out).set 0 (.int .i64 k)).set 1 (.int .i64 A)).set 2 (.int .i64 B)).set 3 (.int .i64 C)
                  have m0 := hF.cell 0 (.int .i64 k) (by simp)
                  have m1 := hF.cell 1 (.int .i64 A) (by simp)
                  have m2 := hF.cell 2 (.int .i64 B) (by simp)
                  have m3 := hF.cell 3 (.int .i64 C) (by simp)
                  have gs := g_set (g_set (g_set (g_set (g_refl wq (some w.heap.size)) (p := ⟨w.heap.size, 0, none⟩) (.inl rfl) (.int .i64 k)) (p := ⟨w.heap.size, 1, none⟩) (.inl rfl) (.int .i64 A)) (p := ⟨w.heap.size, 2, none⟩) (.inl rfl) (.int .i64 B)) (p := ⟨w.heap.size, 3, none⟩) (.inl rfl) (.int .i64 C)
                  refine bodyPost_ret (v := .tuple #[.agg #[.int .i64 k, .int .i64 A, .int .i64 B, .int .i64 C], v, .int .i64 0]) (by simp [results, Try.results23, go_sem, m0, m1, m2, m3]) rfl ⟨g_in (g_trans (g_drew GW8.out) HGQ.out) gs (Nat.le_refl _), .inr (.inr ⟨by rw [HAL.out]; omega, by rw [HA.out, HBv.out, HCv.out]; exact HR.out, v, by rw [HA.out, HBv.out, HCv.out], ?_⟩)⟩
                  rw [HAL.out]
                  have how9 := World.ownsRow.kept HOQ.out gs (.inr (fun e => by have h9 : w8.heap.size ≤ w.heap.size := (HOQ.out.lt _ e).1; omega))
                  have hsub : al + d - al = d := by omega
                  rw [hsub]
                  exact own_down how9 (show w.heap.size ≤ w8.heap.size by omega)
end Go.Proofs.Ytmckaimgeflncaa

