/- Awake: of Dekker's code three finals are told on one machine and four on the other. -/
import Derived.Test.YtnlkbboghcdpnaaDekker
namespace Go.Proofs.Ytnlkbboghcdpnaa
open Go.RowKit

def dekS (m : Int) : List StateD := (exploreS dekkerC ⟨m, 1⟩ 400 1).1.states
def dekF0 : List FinalD := [⟨[1, 1], [[0, 0, 0, 0], [1, 0, 0, 0]]⟩, ⟨[1, 1], [[1, 0, 0, 0], [0, 0, 0, 0]]⟩, ⟨[1, 1], [[1, 0, 0, 0], [1, 0, 0, 0]]⟩]
def dekF1 : List FinalD := [⟨[1, 1], [[0, 0, 0, 0], [0, 0, 0, 0]]⟩, ⟨[1, 1], [[0, 0, 0, 0], [1, 0, 0, 0]]⟩, ⟨[1, 1], [[1, 0, 0, 0], [0, 0, 0, 0]]⟩, ⟨[1, 1], [[1, 0, 0, 0], [1, 0, 0, 0]]⟩]
set_option maxRecDepth 100000 in
theorem dek_f0 : finalsS dekkerC (dekS 0) = dekF0 := by decide +kernel
set_option maxRecDepth 100000 in
theorem dek_f1 : finalsS dekkerC (dekS 1) = dekF1 := by decide +kernel
set_option maxRecDepth 100000 in
theorem dek_m0 : ∀ s ∈ dekS 0, s.mem.length = 2 ∧ s.threads.length = 2 := by decide +kernel
set_option maxRecDepth 100000 in
theorem dek_m1 : ∀ s ∈ dekS 1, s.mem.length = 2 ∧ s.threads.length = 2 := by decide +kernel
set_option maxRecDepth 100000 in
theorem dek_l0 : (dekS 0).length = 13 := by decide +kernel
set_option maxRecDepth 100000 in
theorem dek_l1 : (dekS 1).length = 34 := by decide +kernel
set_option maxRecDepth 100000 in
theorem dek_e0 : endedS dekkerC ((dekS 0).getD 0 default) = false := by decide +kernel
set_option maxRecDepth 100000 in
theorem dek_c0 : clearS ((dekS 0).getD 0 default) = true := by decide +kernel
theorem few_of {l : List StateD} (h : ∀ s ∈ l, s.mem.length = 2 ∧ s.threads.length = 2) : ∀ s ∈ l, fewS s := fun s hs => by
  obtain ⟨a, b⟩ := h s hs
  exact ⟨by omega, by omega⟩
set_option maxRecDepth 100000 in
set_option maxHeartbeats 8000000 in
theorem awakeF_any (w : World) : Calls Try.prog 7 #[] w fun e w' => e = .returned (.bool true) ∧ Below w.heap.size w w' := by
  have hx : ∀ y tv (m : Int), RowsAt 1 y tv dekkerC.threads → Calls Try.prog 17 #[.agg #[.int .i64 2, .int .i64 2, tv], .agg #[.int .i64 m, .int .i64 1], .int .i64 400] y fun e w' => (∃ (sa ma na : Option Addr) (sc mn mc nn nc : Nat) (k : Int), e = .returned (.tuple #[.agg #[.slice sa (dekS m).length sc, .slice ma mn mc, .slice na nn nc], .int .i64 k]) ∧ StatesAt w' (.slice sa (dekS m).length sc) (dekS m)) ∧ Below y.heap.size y w' := fun y tv m ht => by
    refine (explore_any y dekkerC tv 1 ht ⟨m, 1⟩ 400).mono ?_
    rintro e w' ⟨⟨sv, mv, nv, rfl, hs, -, -⟩, hb⟩
    obtain ⟨sa, sc, rfl, -⟩ := SliceR.slice hs.1
    obtain ⟨ma, mc, rfl, -⟩ := SliceR.slice hs.2.1
    obtain ⟨na, nc, rfl, -⟩ := SliceR.slice hs.2.2
    exact ⟨⟨sa, ma, na, sc, _, mc, _, nc, _, rfl, hs.1⟩, hb⟩
  have hf0 : ∀ y tv sv, RowsAt 1 y tv dekkerC.threads → StatesAt y sv (dekS 0) → Calls Try.prog 14 #[.agg #[.int .i64 2, .int .i64 2, tv], sv] y fun e w' => (∃ (xa : Option Addr) (xc : Nat), e = .returned (.slice xa 3 xc) ∧ FinalsAt w' (.slice xa 3 xc) dekF0) ∧ Below y.heap.size y w' := fun y tv sv ht hs => by
    have := finals_any y 1 dekkerC tv ht (dekS 0) sv hs 2 (fun s h => (dek_m0 s h).1) (few_of dek_m0) (by rw [dek_l0]; decide)
    rw [dek_f0] at this
    exact this
  have hf1 : ∀ y tv sv, RowsAt 1 y tv dekkerC.threads → StatesAt y sv (dekS 1) → Calls Try.prog 14 #[.agg #[.int .i64 2, .int .i64 2, tv], sv] y fun e w' => (∃ (xa : Option Addr) (xc : Nat), e = .returned (.slice xa 4 xc) ∧ FinalsAt w' (.slice xa 4 xc) dekF1) ∧ Below y.heap.size y w' := fun y tv sv ht hs => by
    have := finals_any y 1 dekkerC tv ht (dekS 1) sv hs 2 (fun s h => (dek_m1 s h).1) (few_of dek_m1) (by rw [dek_l1]; decide)
    rw [dek_f1] at this
    exact this
  have hd : Calls Try.prog 24 #[] w fun e w' => (∃ (ta : Option Addr) (tc : Nat), e = .returned (.agg #[.int .i64 2, .int .i64 2, .slice ta 2 tc]) ∧ RowsAt 1 w' (.slice ta 2 tc) dekkerC.threads) ∧ Below w.heap.size w w' := by
    refine (dekker_any w).mono ?_
    rintro e w' ⟨⟨tv, rfl, ht⟩, hb⟩
    obtain ⟨ta, tc, rfl, -⟩ := SliceR.slice ht
    exact ⟨⟨ta, tc, rfl, ht⟩, hb⟩
  have HD := Lib.hid hd
  have hx0 := fun y tv ht => hx y tv 0 ht
  have hx1 := fun y tv ht => hx y tv 1 ht
  rw [dek_l0] at hx0
  rw [dek_l1] at hx1
  have he := dek_e0
  have hc := dek_c0
  have hlen := dek_l0
  generalize dekS 0 = S0 at hx0 hf0 he hc hlen
  generalize dekS 1 = S1 at hx1 hf1
  have HX0 := Lib.hid hx0
  have HX1 := Lib.hid hx1
  have HF0 := Lib.hid hf0
  have HF1 := Lib.hid hf1
  have HE := Lib.hid he
  have HCL := Lib.hid hc
  have HLEN := Lib.hid hlen
  clear hd hx hx0 hx1 hf0 hf1 he hc hlen
  go_enter Try.func7, Try.ntmps7
  go_upto_region 2 with (go_at_call 24; go_must (refine HD.out.mono ?_); rintro e W1 ⟨⟨ta, tc, rfl, ht⟩, hb⟩; have HT1 := Lib.hid ht; have L1 := Lib.hid (((Loc.start w).later hb).alloc 24 [.int .i64 2, .int .i64 2, .slice ta 2 tc]); clear ht hb)
  have HT2 := Lib.hid (SliceR.below (RowR.stays 1) HT1.out ((Below.refl W1.heap.size W1).alloc (Nat.le_refl _) (.cells #[.int .i64 2, .int .i64 2, .slice ta 2 tc] 24)))
  generalize World.alloc W1 _ = X1 at L1 HT2 ⊢
  generalize W1.heap.size = g1 at L1 ⊢
  clear HT1
  have hg := (L1.out.news (g1, 24, [.int .i64 2, .int .i64 2, .slice ta 2 tc]) (by simp)).1
  have k0 := cell_of_block hg 0
  have k1 := cell_of_block hg 1
  have k2 := cell_of_block hg 2
  clear hg
  go_upto_region 3 with (go_at_call 17; go_must (refine (HX0.out X1 _ HT2.out).mono ?_); rintro e W2 ⟨⟨sa, ma, na, sc, mn, mc, nn, nc, er, rfl, hs⟩, hb⟩; have HS1 := Lib.hid hs; have HB2 := Lib.hid hb; clear hs hb)
  have L2 := Lib.hid ((L1.out.later HB2.out).alloc 42 [.slice sa 13 sc, .slice ma mn mc, .slice na nn nc])
  have hb2 := HB2.out.alloc HB2.out.size (.cells #[.slice sa 13 sc, .slice ma mn mc, .slice na nn nc] 42)
  have HT3 := Lib.hid (SliceR.below (RowR.stays 1) HT2.out hb2)
  have HS2 := Lib.hid (SliceR.below StateR.stays HS1.out ((Below.refl W2.heap.size W2).alloc (Nat.le_refl _) (.cells #[.slice sa 13 sc, .slice ma mn mc, .slice na nn nc] 42)))
  clear L1 HT2 HS1 HB2 hb2
  clear k0 k1 k2
  generalize World.alloc W2 _ = X2 at L2 HT3 HS2 ⊢
  generalize W2.heap.size = g2 at L2 ⊢
  have hg := (L2.out.news (g1, 24, [.int .i64 2, .int .i64 2, .slice ta 2 tc]) (by simp)).1
  have k0 := cell_of_block hg 0
  have k1 := cell_of_block hg 1
  have k2 := cell_of_block hg 2
  clear hg
  go_upto_region 4 with (go_at_call 17; go_must (refine (HX1.out X2 _ HT3.out).mono ?_); rintro e W3 ⟨⟨ua, pa, qa, uc, pn, pc, qn, qc, er2, rfl, hs⟩, hb⟩; have HU1 := Lib.hid hs; have HB3 := Lib.hid hb; clear hs hb)
  have L3 := Lib.hid ((L2.out.later HB3.out).alloc 42 [.slice ua 34 uc, .slice pa pn pc, .slice qa qn qc])
  have hb3 := HB3.out.alloc HB3.out.size (.cells #[.slice ua 34 uc, .slice pa pn pc, .slice qa qn qc] 42)
  have HT4 := Lib.hid (SliceR.below (RowR.stays 1) HT3.out hb3)
  have HS3 := Lib.hid (SliceR.below StateR.stays HS2.out hb3)
  have HU2 := Lib.hid (SliceR.below StateR.stays HU1.out ((Below.refl W3.heap.size W3).alloc (Nat.le_refl _) (.cells #[.slice ua 34 uc, .slice pa pn pc, .slice qa qn qc] 42)))
  clear L2 HT3 HS2 HU1 HB3 hb3
  clear k0 k1 k2
  generalize World.alloc W3 _ = X3 at L3 HT4 HS3 HU2 ⊢
  generalize W3.heap.size = g3 at L3 ⊢
  have CX : Hid (∀ y, Below X3.heap.size X3 y → y.cell? ⟨g1, 0, none⟩ = some (.int .i64 2) ∧ y.cell? ⟨g1, 1, none⟩ = some (.int .i64 2) ∧ y.cell? ⟨g1, 2, none⟩ = some (.slice ta 2 tc) ∧ y.cell? ⟨g2, 0, none⟩ = some (.slice sa 13 sc) ∧ y.cell? ⟨g3, 0, none⟩ = some (.slice ua 34 uc)) := fun y hy => by
    have h := L3.out.later hy
    have a1 := (h.news (g1, 24, [.int .i64 2, .int .i64 2, .slice ta 2 tc]) (by simp)).1
    have a2 := (h.news (g2, 42, [.slice sa 13 sc, .slice ma mn mc, .slice na nn nc]) (by simp)).1
    have a3 := (h.news (g3, 42, [.slice ua 34 uc, .slice pa pn pc, .slice qa qn qc]) (by simp)).1
    exact ⟨cell_of_block a1 0, cell_of_block a1 1, cell_of_block a1 2, cell_of_block a2 0, cell_of_block a3 0⟩
  refine wp_region_noPanic ?_
  refine wp_region_held_drew (S := fun x => Below X3.heap.size X3 x) (by kernel_rfl) (Below.refl _ _).drew (fun hH => ?_)
  refine wpAnyH_take (i := 0) (v := ?vh1) rfl (by kernel_rfl) (by kernel_rfl) (by kernel_rfl) (fun _ _ _ h => h) (Or.inl ⟨by rfl, ?hyh1⟩) (by assumption) ?_
  case hyh1 => (intro x' hxx; obtain ⟨e0, e1, e2, e3, e4⟩ := CX.out x' hxx; go_simp; try with_reducible rfl)
  change wpAnyH _ _ _ _ _ _ _ (Act.put _ (some 21) _) _
  simp only [Act.put, List.setIfInBounds_toArray, List.set_cons_zero, List.set_cons_succ]
  refine wpAnyH_take (i := 1) (v := ?vh2) rfl (by kernel_rfl) (by kernel_rfl) (by kernel_rfl) (fun _ _ _ h => h) (Or.inl ⟨by rfl, ?hyh2⟩) (by assumption) ?_
  case hyh2 => (intro x' hxx; obtain ⟨e0, e1, e2, e3, e4⟩ := CX.out x' hxx; go_simp; try with_reducible rfl)
  change wpAnyH _ _ _ _ _ _ _ (Act.put _ (some 22) _) _
  simp only [Act.put, List.setIfInBounds_toArray, List.set_cons_zero, List.set_cons_succ]
  refine wpAnyH_take (i := 2) (v := ?vh3) rfl (by kernel_rfl) (by kernel_rfl) (by kernel_rfl) (fun _ _ _ h => h) (Or.inl ⟨by rfl, ?hyh3⟩) (by assumption) ?_
  case hyh3 => (intro x' hxx; obtain ⟨e0, e1, e2, e3, e4⟩ := CX.out x' hxx; go_simp; try with_reducible rfl)
  change wpAnyH _ _ _ _ _ _ _ (Act.put _ (some 23) _) _
  simp only [Act.put, List.setIfInBounds_toArray, List.set_cons_zero, List.set_cons_succ]
  refine wpAnyH_take (i := 4) (v := ?vh4) rfl (by kernel_rfl) (by kernel_rfl) (by kernel_rfl) (fun _ _ _ h => h) (Or.inl ⟨by rfl, ?hyh4⟩) (by assumption) ?_
  case hyh4 => (intro x' hxx; obtain ⟨e0, e1, e2, e3, e4⟩ := CX.out x' hxx; go_simp; try with_reducible rfl)
  change wpAnyH _ _ _ _ _ _ _ (Act.put _ (some 25) _) _
  simp only [Act.put, List.setIfInBounds_toArray, List.set_cons_zero, List.set_cons_succ]
  refine wpAnyH_take (i := 5) (v := ?vh5) rfl (by kernel_rfl) (by kernel_rfl) (by kernel_rfl) (fun _ _ _ h => h) (Or.inl ⟨by rfl, ?hyh5⟩) (by assumption) ?_
  case hyh5 => (intro x' hxx; obtain ⟨e0, e1, e2, e3, e4⟩ := CX.out x' hxx; go_simp; try with_reducible rfl)
  change wpAnyH _ _ _ _ _ _ _ (Act.put _ (some 26) _) _
  simp only [Act.put, List.setIfInBounds_toArray, List.set_cons_zero, List.set_cons_succ]
  refine wpAnyH_take (i := 6) (v := ?vh6) rfl (by kernel_rfl) (by kernel_rfl) (by kernel_rfl) (fun _ _ _ h => h) (Or.inl ⟨by rfl, ?hyh6⟩) (by assumption) ?_
  case hyh6 => (intro x' hxx; obtain ⟨e0, e1, e2, e3, e4⟩ := CX.out x' hxx; go_simp; try with_reducible rfl)
  change wpAnyH _ _ _ _ _ _ _ (Act.put _ (some 27) _) _
  simp only [Act.put, List.setIfInBounds_toArray, List.set_cons_zero, List.set_cons_succ]
  refine wpAnyH_ready (rs := [3]) (by kernel_rfl) (by simp) ?_
  refine AllReadyH.cons rfl (fun K hK => ?_) AllReadyH.nil
  go_simp
  refine (HF0.out X3.drew _ _ (SliceR.below (RowR.stays 1) HT4.out hH) (SliceR.below StateR.stays HS3.out hH)).mono ?_
  rintro e hw3 ⟨⟨xa, xc, rfl, hx⟩, hb⟩
  have HX := Lib.hid hx
  clear hx
  have hHh3 : Below X3.heap.size X3 hw3 := below_then hH hb
  refine hK.out _ _ hHh3 (fun _ => ?_)
  clear hK K hb hH
  refine wpAnyH_ready (rs := [7]) (by kernel_rfl) (by simp) ?_
  refine AllReadyH.cons rfl (fun K hK => ?_) AllReadyH.nil
  go_simp
  refine (HF1.out hw3 _ _ (SliceR.below (RowR.stays 1) HT4.out hHh3) (SliceR.below StateR.stays HU2.out hHh3)).mono ?_
  rintro e hw7 ⟨⟨ya, yc, rfl, hy⟩, hb⟩
  have HY := Lib.hid hy
  have HB5 := Lib.hid hb
  clear hy
  have hHh7 : Below X3.heap.size X3 hw7 := below_then hHh3 hb
  refine hK.out _ _ hHh7 (fun _ => ?_)
  clear hK K hb hHh3
  refine wpAnyH_take (i := 8) (v := ?vh7) rfl (by kernel_rfl) (by kernel_rfl) (by kernel_rfl) (fun _ _ _ h => h) (Or.inl ⟨by rfl, ?hyh7⟩) (by assumption) ?_
  case hyh7 => (intro x' hxx; obtain ⟨e0, e1, e2, e3, e4⟩ := CX.out x' hxx; go_simp; try with_reducible rfl)
  change wpAnyH _ _ _ _ _ _ _ (Act.put _ (some 6) _) _
  simp only [Act.put, List.setIfInBounds_toArray, List.set_cons_zero, List.set_cons_succ]
  refine wpAnyH_take (i := 9) (v := ?vh8) rfl (by kernel_rfl) (by kernel_rfl) (by kernel_rfl) (fun _ _ _ h => h) (Or.inl ⟨by rfl, ?hyh8⟩) (by assumption) ?_
  case hyh8 => (intro x' hxx; obtain ⟨e0, e1, e2, e3, e4⟩ := CX.out x' hxx; go_simp; try with_reducible rfl)
  change wpAnyH _ _ _ _ _ _ _ (Act.put _ (some 7) _) _
  simp only [Act.put, List.setIfInBounds_toArray, List.set_cons_zero, List.set_cons_succ]
  refine wpAnyH_done (by kernel_rfl) ?_ _
  refine NoPanic.normal ?_
  have HB5' := Lib.hid hHh7
  clear hHh7
  obtain ⟨W5, rfl⟩ : ∃ W5, W5 = hw7 := ⟨_, rfl⟩
  have hx := SliceR.below FinalR.stays HX.out HB5.out
  have hs := SliceR.below StateR.stays HS3.out HB5'.out
  -- what is looked at
  obtain ⟨b1, o1, m1, c1, r1, d1, rfl, -, x0, x1, xf⟩ := FinalsAt.part hx 0 (by decide)
  obtain ⟨b2, o2, m2, c2, r2, d2, rfl, -, y0, y1, yf⟩ := FinalsAt.part HY.out 0 (by decide)
  obtain ⟨b3, o3, tv, yv, hse, -, s0, s1, s2, hst⟩ := StatesAt.part hs 0 (by rw [HLEN.out]; decide)
  subst hse
  obtain ⟨ia, io, rfl, -, i0⟩ := IntsAt.part xf.mem 0 (by decide)
  obtain ⟨ra, ro, hre, -, -, r0, -⟩ := RegsAt.part yf.regs 0 (by decide)
  obtain ⟨ra', ro', hre', -, -, r0', -⟩ := RegsAt.part yf.regs 1 (by decide)
  subst hre
  obtain ⟨rfl, rfl⟩ : ra = ra' ∧ ro = ro' := by simpa using hre'
  obtain ⟨na1, nc1, rfl, -⟩ := SliceR.slice hst.threads
  obtain ⟨na2, nc2, rfl, -⟩ := SliceR.slice hst.mem
  have hend := fun y (hy : Below W5.heap.size W5 y) => ended_any y 1 dekkerC _ (SliceR.below (RowR.stays 1) HT4.out (below_then HB5'.out hy)) (S0.getD 0 default) _ _ (hst.below hy)
  have hclr := fun y (hy : Below W5.heap.size W5 y) => clear_any y (S0.getD 0 default) _ _ (hst.below hy)
  rw [HE.out] at hend
  rw [HCL.out] at hclr
  unfold codeV stateV at hend
  unfold stateV at hclr
  generalize S0.getD 0 default = s0' at s0 s1 s2 hend hclr
  generalize s0'.threads.length = n1 at s0 hend hclr
  generalize s0'.mem.length = n2 at s1 hend hclr
  generalize s0'.bad = bd at s2 hend hclr
  have HEND := Lib.hid hend
  have HCLR := Lib.hid hclr
  have CY : Hid (∀ y, Below W5.heap.size W5 y → y.cell? ⟨g1, 0, none⟩ = some (.int .i64 2) ∧ y.cell? ⟨g1, 1, none⟩ = some (.int .i64 2) ∧ y.cell? ⟨g1, 2, none⟩ = some (.slice ta 2 tc) ∧ y.cell? ⟨g2, 0, none⟩ = some (.slice (some ⟨b3, o3, none⟩) 13 sc) ∧
      y.cell? ⟨b1, o1, none⟩ = some (.slice (some ⟨ia, io, none⟩) 2 c1) ∧ y.cell? ⟨ia, io, none⟩ = some (.int .i64 1) ∧ y.cell? ⟨b1, o1 + 1, none⟩ = some (.slice r1 2 d1) ∧ y.cell? ⟨b2, o2 + 1, none⟩ = some (.slice (some ⟨ra, ro, none⟩) 2 d2) ∧
      y.cell? ⟨ra, ro, none⟩ = some (.int .i64 0) ∧ y.cell? ⟨ra, ro + 4, none⟩ = some (.int .i64 0) ∧ y.cell? ⟨b3, o3, none⟩ = some (.slice na1 n1 nc1) ∧ y.cell? ⟨b3, o3 + 1, none⟩ = some (.slice na2 n2 nc2) ∧ y.cell? ⟨b3, o3 + 2, none⟩ = some (.bool bd)) := fun y hy => by
    obtain ⟨p0, p1, p2, p3, -⟩ := CX.out y (below_then HB5'.out hy)
    refine ⟨p0, p1, p2, p3, ?_, ?_, ?_, ?_, ?_, ?_, ?_, ?_, ?_⟩
    · have := cells_kept hy _ _ x0; rw [Nat.zero_mul, Nat.add_zero] at this; exact this
    · have := cells_kept hy _ _ i0; rw [Nat.add_zero] at this; exact this
    · have := cells_kept hy _ _ x1; rw [Nat.zero_mul, Nat.add_zero] at this; exact this
    · have := cells_kept hy _ _ y1; rw [Nat.zero_mul, Nat.add_zero] at this; exact this
    · have := cells_kept hy _ _ r0; rw [Nat.zero_mul, Nat.add_zero] at this; exact this
    · have := cells_kept hy _ _ r0'; rw [Nat.one_mul] at this; exact this
    · have := cells_kept hy _ _ s0; rw [Nat.zero_mul, Nat.add_zero] at this; exact this
    · have := cells_kept hy _ _ s1; rw [Nat.zero_mul, Nat.add_zero] at this; exact this
    · have := cells_kept hy _ _ s2; rw [Nat.zero_mul, Nat.add_zero] at this; exact this
  have HFIN : Hid (∀ y, Below W5.heap.size W5 y → Below w.heap.size w y) := fun y hy => below_then L3.out.below (below_then HB5'.out hy)
  clear hend hclr x0 x1 y0 y1 i0 r0 r0' s0 s1 s2 hx hs xf yf hst HX HY HB5
  go_wp2_with fail
  refine wp_region_noPanic ?_
  refine wp_region_held_drew (S := fun x => Below W5.heap.size W5 x) (by kernel_rfl) (Below.refl _ _).drew (fun hH => ?_)
  refine wpAnyH_take (i := 0) (v := ?vm1) rfl (by kernel_rfl) (by kernel_rfl) (by kernel_rfl) (fun _ _ _ h => h) (Or.inl ⟨by rfl, ?hym1⟩) (by assumption) ?_
  case hym1 => (intro x' hxx; obtain ⟨e0, e1, e2, e3, e4, e5, e6, e7, e8, e9, e10, e11, e12⟩ := CY.out x' hxx; go_simp; try with_reducible rfl)
  change wpAnyH _ _ _ _ _ _ _ (Act.put _ (some 29) _) _
  simp only [Act.put, List.setIfInBounds_toArray, List.set_cons_zero, List.set_cons_succ]
  refine wpAnyH_take (i := 1) (v := ?vm2) rfl (by kernel_rfl) (by kernel_rfl) (by kernel_rfl) (fun _ _ _ h => h) (Or.inl ⟨by rfl, ?hym2⟩) (by assumption) ?_
  case hym2 => (intro x' hxx; obtain ⟨e0, e1, e2, e3, e4, e5, e6, e7, e8, e9, e10, e11, e12⟩ := CY.out x' hxx; go_simp; try with_reducible rfl)
  change wpAnyH _ _ _ _ _ _ _ (Act.put _ (some 30) _) _
  simp only [Act.put, List.setIfInBounds_toArray, List.set_cons_zero, List.set_cons_succ]
  refine wpAnyH_take (i := 2) (v := ?vm3) rfl (by kernel_rfl) (by kernel_rfl) (by kernel_rfl) (fun _ _ _ h => h) (Or.inl ⟨by rfl, ?hym3⟩) (by assumption) ?_
  case hym3 => (intro x' hxx; obtain ⟨e0, e1, e2, e3, e4, e5, e6, e7, e8, e9, e10, e11, e12⟩ := CY.out x' hxx; go_simp; try with_reducible rfl)
  change wpAnyH _ _ _ _ _ _ _ (Act.put _ (some 31) _) _
  simp only [Act.put, List.setIfInBounds_toArray, List.set_cons_zero, List.set_cons_succ]
  refine wpAnyH_take (i := 3) (v := ?vm4) rfl (by kernel_rfl) (by kernel_rfl) (by kernel_rfl) (fun _ _ _ h => h) (Or.inl ⟨by rfl, ?hym4⟩) (by assumption) ?_
  case hym4 => (intro x' hxx; obtain ⟨e0, e1, e2, e3, e4, e5, e6, e7, e8, e9, e10, e11, e12⟩ := CY.out x' hxx; go_simp; try with_reducible rfl)
  change wpAnyH _ _ _ _ _ _ _ (Act.put _ (some 32) _) _
  simp only [Act.put, List.setIfInBounds_toArray, List.set_cons_zero, List.set_cons_succ]
  refine wpAnyH_take (i := 4) (v := ?vm5) rfl (by kernel_rfl) (by kernel_rfl) (by kernel_rfl) (fun _ _ _ h => h) (Or.inl ⟨by rfl, ?hym5⟩) (by assumption) ?_
  case hym5 => (intro x' hxx; obtain ⟨e0, e1, e2, e3, e4, e5, e6, e7, e8, e9, e10, e11, e12⟩ := CY.out x' hxx; go_simp; try with_reducible rfl)
  change wpAnyH _ _ _ _ _ _ _ (Act.put _ (some 33) _) _
  simp only [Act.put, List.setIfInBounds_toArray, List.set_cons_zero, List.set_cons_succ]
  refine wpAnyH_take (i := 5) (v := ?vm6) rfl (by kernel_rfl) (by kernel_rfl) (by kernel_rfl) (fun _ _ _ h => h) (Or.inl ⟨by rfl, ?hym6⟩) (by assumption) ?_
  case hym6 => (intro x' hxx; obtain ⟨e0, e1, e2, e3, e4, e5, e6, e7, e8, e9, e10, e11, e12⟩ := CY.out x' hxx; go_simp; try with_reducible rfl)
  change wpAnyH _ _ _ _ _ _ _ (Act.put _ (some 34) _) _
  simp only [Act.put, List.setIfInBounds_toArray, List.set_cons_zero, List.set_cons_succ]
  refine wpAnyH_take (i := 6) (v := ?vm7) rfl (by kernel_rfl) (by kernel_rfl) (by kernel_rfl) (fun _ _ _ h => h) (Or.inl ⟨by rfl, ?hym7⟩) (by assumption) ?_
  case hym7 => (intro x' hxx; obtain ⟨e0, e1, e2, e3, e4, e5, e6, e7, e8, e9, e10, e11, e12⟩ := CY.out x' hxx; go_simp; try with_reducible rfl)
  change wpAnyH _ _ _ _ _ _ _ (Act.put _ (some 35) _) _
  simp only [Act.put, List.setIfInBounds_toArray, List.set_cons_zero, List.set_cons_succ]
  refine wpAnyH_take (i := 7) (v := ?vm8) rfl (by kernel_rfl) (by kernel_rfl) (by kernel_rfl) (fun _ _ _ h => h) (Or.inl ⟨by rfl, ?hym8⟩) (by assumption) ?_
  case hym8 => (intro x' hxx; obtain ⟨e0, e1, e2, e3, e4, e5, e6, e7, e8, e9, e10, e11, e12⟩ := CY.out x' hxx; go_simp; try with_reducible rfl)
  change wpAnyH _ _ _ _ _ _ _ (Act.put _ (some 36) _) _
  simp only [Act.put, List.setIfInBounds_toArray, List.set_cons_zero, List.set_cons_succ]
  refine wpAnyH_take (i := 8) (v := ?vm9) rfl (by kernel_rfl) (by kernel_rfl) (by kernel_rfl) (fun _ _ _ h => h) (Or.inl ⟨by rfl, ?hym9⟩) (by assumption) ?_
  case hym9 => (intro x' hxx; obtain ⟨e0, e1, e2, e3, e4, e5, e6, e7, e8, e9, e10, e11, e12⟩ := CY.out x' hxx; go_simp; try with_reducible rfl)
  change wpAnyH _ _ _ _ _ _ _ (Act.put _ (some 37) _) _
  simp only [Act.put, List.setIfInBounds_toArray, List.set_cons_zero, List.set_cons_succ]
  refine wpAnyH_take (i := 9) (v := ?vm10) rfl (by kernel_rfl) (by kernel_rfl) (by kernel_rfl) (fun _ _ _ h => h) (Or.inl ⟨by rfl, ?hym10⟩) (by assumption) ?_
  case hym10 => (intro x' hxx; obtain ⟨e0, e1, e2, e3, e4, e5, e6, e7, e8, e9, e10, e11, e12⟩ := CY.out x' hxx; go_simp; try with_reducible rfl)
  change wpAnyH _ _ _ _ _ _ _ (Act.put _ (some 38) _) _
  simp only [Act.put, List.setIfInBounds_toArray, List.set_cons_zero, List.set_cons_succ]
  refine wpAnyH_take (i := 10) (v := ?vm11) rfl (by kernel_rfl) (by kernel_rfl) (by kernel_rfl) (fun _ _ _ h => h) (Or.inl ⟨by rfl, ?hym11⟩) (by assumption) ?_
  case hym11 => (intro x' hxx; obtain ⟨e0, e1, e2, e3, e4, e5, e6, e7, e8, e9, e10, e11, e12⟩ := CY.out x' hxx; go_simp; try with_reducible rfl)
  change wpAnyH _ _ _ _ _ _ _ (Act.put _ (some 39) _) _
  simp only [Act.put, List.setIfInBounds_toArray, List.set_cons_zero, List.set_cons_succ]
  refine wpAnyH_take (i := 11) (v := ?vm12) rfl (by kernel_rfl) (by kernel_rfl) (by kernel_rfl) (fun _ _ _ h => h) (Or.inl ⟨by rfl, ?hym12⟩) (by assumption) ?_
  case hym12 => (intro x' hxx; obtain ⟨e0, e1, e2, e3, e4, e5, e6, e7, e8, e9, e10, e11, e12⟩ := CY.out x' hxx; go_simp; try with_reducible rfl)
  change wpAnyH _ _ _ _ _ _ _ (Act.put _ (some 40) _) _
  simp only [Act.put, List.setIfInBounds_toArray, List.set_cons_zero, List.set_cons_succ]
  refine wpAnyH_take (i := 12) (v := ?vm13) rfl (by kernel_rfl) (by kernel_rfl) (by kernel_rfl) (fun _ _ _ h => h) (Or.inl ⟨by rfl, ?hym13⟩) (by assumption) ?_
  case hym13 => (intro x' hxx; obtain ⟨e0, e1, e2, e3, e4, e5, e6, e7, e8, e9, e10, e11, e12⟩ := CY.out x' hxx; go_simp; try with_reducible rfl)
  change wpAnyH _ _ _ _ _ _ _ (Act.put _ (some 41) _) _
  simp only [Act.put, List.setIfInBounds_toArray, List.set_cons_zero, List.set_cons_succ]
  refine wpAnyH_take (i := 13) (v := ?vm14) rfl (by kernel_rfl) (by kernel_rfl) (by kernel_rfl) (fun _ _ _ h => h) (Or.inl ⟨by rfl, ?hym14⟩) (by assumption) ?_
  case hym14 => (intro x' hxx; obtain ⟨e0, e1, e2, e3, e4, e5, e6, e7, e8, e9, e10, e11, e12⟩ := CY.out x' hxx; go_simp; try with_reducible rfl)
  change wpAnyH _ _ _ _ _ _ _ (Act.put _ (some 42) _) _
  simp only [Act.put, List.setIfInBounds_toArray, List.set_cons_zero, List.set_cons_succ]
  refine wpAnyH_take (i := 14) (v := ?vm15) rfl (by kernel_rfl) (by kernel_rfl) (by kernel_rfl) (fun _ _ _ h => h) (Or.inl ⟨by rfl, ?hym15⟩) (by assumption) ?_
  case hym15 => (intro x' hxx; obtain ⟨e0, e1, e2, e3, e4, e5, e6, e7, e8, e9, e10, e11, e12⟩ := CY.out x' hxx; go_simp; try with_reducible rfl)
  change wpAnyH _ _ _ _ _ _ _ (Act.put _ (some 43) _) _
  simp only [Act.put, List.setIfInBounds_toArray, List.set_cons_zero, List.set_cons_succ]
  refine wpAnyH_take (i := 15) (v := ?vm16) rfl (by kernel_rfl) (by kernel_rfl) (by kernel_rfl) (fun _ _ _ h => h) (Or.inl ⟨by rfl, ?hym16⟩) (by assumption) ?_
  case hym16 => (intro x' hxx; obtain ⟨e0, e1, e2, e3, e4, e5, e6, e7, e8, e9, e10, e11, e12⟩ := CY.out x' hxx; go_simp; try with_reducible rfl)
  change wpAnyH _ _ _ _ _ _ _ (Act.put _ (some 44) _) _
  simp only [Act.put, List.setIfInBounds_toArray, List.set_cons_zero, List.set_cons_succ]
  refine wpAnyH_take (i := 16) (v := ?vm17) rfl (by kernel_rfl) (by kernel_rfl) (by kernel_rfl) (fun _ _ _ h => h) (Or.inl ⟨by rfl, ?hym17⟩) (by assumption) ?_
  case hym17 => (intro x' hxx; obtain ⟨e0, e1, e2, e3, e4, e5, e6, e7, e8, e9, e10, e11, e12⟩ := CY.out x' hxx; go_simp; try with_reducible rfl)
  change wpAnyH _ _ _ _ _ _ _ (Act.put _ (some 45) _) _
  simp only [Act.put, List.setIfInBounds_toArray, List.set_cons_zero, List.set_cons_succ]
  refine wpAnyH_take (i := 17) (v := ?vm18) rfl (by kernel_rfl) (by kernel_rfl) (by kernel_rfl) (fun _ _ _ h => h) (Or.inl ⟨by rfl, ?hym18⟩) (by assumption) ?_
  case hym18 => (intro x' hxx; obtain ⟨e0, e1, e2, e3, e4, e5, e6, e7, e8, e9, e10, e11, e12⟩ := CY.out x' hxx; go_simp; try with_reducible rfl)
  change wpAnyH _ _ _ _ _ _ _ (Act.put _ (some 46) _) _
  simp only [Act.put, List.setIfInBounds_toArray, List.set_cons_zero, List.set_cons_succ]
  refine wpAnyH_take (i := 18) (v := ?vm19) rfl (by kernel_rfl) (by kernel_rfl) (by kernel_rfl) (fun _ _ _ h => h) (Or.inl ⟨by rfl, ?hym19⟩) (by assumption) ?_
  case hym19 => (intro x' hxx; obtain ⟨e0, e1, e2, e3, e4, e5, e6, e7, e8, e9, e10, e11, e12⟩ := CY.out x' hxx; go_simp; try with_reducible rfl)
  change wpAnyH _ _ _ _ _ _ _ (Act.put _ (some 47) _) _
  simp only [Act.put, List.setIfInBounds_toArray, List.set_cons_zero, List.set_cons_succ]
  refine wpAnyH_take (i := 19) (v := ?vm20) rfl (by kernel_rfl) (by kernel_rfl) (by kernel_rfl) (fun _ _ _ h => h) (Or.inl ⟨by rfl, ?hym20⟩) (by assumption) ?_
  case hym20 => (intro x' hxx; obtain ⟨e0, e1, e2, e3, e4, e5, e6, e7, e8, e9, e10, e11, e12⟩ := CY.out x' hxx; go_simp; try with_reducible rfl)
  change wpAnyH _ _ _ _ _ _ _ (Act.put _ (some 48) _) _
  simp only [Act.put, List.setIfInBounds_toArray, List.set_cons_zero, List.set_cons_succ]
  refine wpAnyH_take (i := 20) (v := ?vm21) rfl (by kernel_rfl) (by kernel_rfl) (by kernel_rfl) (fun _ _ _ h => h) (Or.inl ⟨by rfl, ?hym21⟩) (by assumption) ?_
  case hym21 => (intro x' hxx; obtain ⟨e0, e1, e2, e3, e4, e5, e6, e7, e8, e9, e10, e11, e12⟩ := CY.out x' hxx; go_simp; try with_reducible rfl)
  change wpAnyH _ _ _ _ _ _ _ (Act.put _ (some 49) _) _
  simp only [Act.put, List.setIfInBounds_toArray, List.set_cons_zero, List.set_cons_succ]
  refine wpAnyH_take (i := 21) (v := ?vm22) rfl (by kernel_rfl) (by kernel_rfl) (by kernel_rfl) (fun _ _ _ h => h) (Or.inl ⟨by rfl, ?hym22⟩) (by assumption) ?_
  case hym22 => (intro x' hxx; obtain ⟨e0, e1, e2, e3, e4, e5, e6, e7, e8, e9, e10, e11, e12⟩ := CY.out x' hxx; go_simp; try with_reducible rfl)
  change wpAnyH _ _ _ _ _ _ _ (Act.put _ (some 50) _) _
  simp only [Act.put, List.setIfInBounds_toArray, List.set_cons_zero, List.set_cons_succ]
  refine wpAnyH_take (i := 22) (v := ?vm23) rfl (by kernel_rfl) (by kernel_rfl) (by kernel_rfl) (fun _ _ _ h => h) (Or.inl ⟨by rfl, ?hym23⟩) (by assumption) ?_
  case hym23 => (intro x' hxx; obtain ⟨e0, e1, e2, e3, e4, e5, e6, e7, e8, e9, e10, e11, e12⟩ := CY.out x' hxx; go_simp; try with_reducible rfl)
  change wpAnyH _ _ _ _ _ _ _ (Act.put _ (some 51) _) _
  simp only [Act.put, List.setIfInBounds_toArray, List.set_cons_zero, List.set_cons_succ]
  refine wpAnyH_take (i := 23) (v := ?vm24) rfl (by kernel_rfl) (by kernel_rfl) (by kernel_rfl) (fun _ _ _ h => h) (Or.inl ⟨by rfl, ?hym24⟩) (by assumption) ?_
  case hym24 => (intro x' hxx; obtain ⟨e0, e1, e2, e3, e4, e5, e6, e7, e8, e9, e10, e11, e12⟩ := CY.out x' hxx; go_simp; try with_reducible rfl)
  change wpAnyH _ _ _ _ _ _ _ (Act.put _ (some 52) _) _
  simp only [Act.put, List.setIfInBounds_toArray, List.set_cons_zero, List.set_cons_succ]
  refine wpAnyH_take (i := 24) (v := ?vm25) rfl (by kernel_rfl) (by kernel_rfl) (by kernel_rfl) (fun _ _ _ h => h) (Or.inl ⟨by rfl, ?hym25⟩) (by assumption) ?_
  case hym25 => (intro x' hxx; obtain ⟨e0, e1, e2, e3, e4, e5, e6, e7, e8, e9, e10, e11, e12⟩ := CY.out x' hxx; go_simp; try with_reducible rfl)
  change wpAnyH _ _ _ _ _ _ _ (Act.put _ (some 53) _) _
  simp only [Act.put, List.setIfInBounds_toArray, List.set_cons_zero, List.set_cons_succ]
  refine wpAnyH_take (i := 25) (v := ?vm26) rfl (by kernel_rfl) (by kernel_rfl) (by kernel_rfl) (fun _ _ _ h => h) (Or.inl ⟨by rfl, ?hym26⟩) (by assumption) ?_
  case hym26 => (intro x' hxx; obtain ⟨e0, e1, e2, e3, e4, e5, e6, e7, e8, e9, e10, e11, e12⟩ := CY.out x' hxx; go_simp; try with_reducible rfl)
  change wpAnyH _ _ _ _ _ _ _ (Act.put _ (some 54) _) _
  simp only [Act.put, List.setIfInBounds_toArray, List.set_cons_zero, List.set_cons_succ]
  refine wpAnyH_take (i := 26) (v := ?vm27) rfl (by kernel_rfl) (by kernel_rfl) (by kernel_rfl) (fun _ _ _ h => h) (Or.inl ⟨by rfl, ?hym27⟩) (by assumption) ?_
  case hym27 => (intro x' hxx; obtain ⟨e0, e1, e2, e3, e4, e5, e6, e7, e8, e9, e10, e11, e12⟩ := CY.out x' hxx; go_simp; try with_reducible rfl)
  change wpAnyH _ _ _ _ _ _ _ (Act.put _ (some 55) _) _
  simp only [Act.put, List.setIfInBounds_toArray, List.set_cons_zero, List.set_cons_succ]
  refine wpAnyH_take (i := 27) (v := ?vm28) rfl (by kernel_rfl) (by kernel_rfl) (by kernel_rfl) (fun _ _ _ h => h) (Or.inl ⟨by rfl, ?hym28⟩) (by assumption) ?_
  case hym28 => (intro x' hxx; obtain ⟨e0, e1, e2, e3, e4, e5, e6, e7, e8, e9, e10, e11, e12⟩ := CY.out x' hxx; go_simp; try with_reducible rfl)
  change wpAnyH _ _ _ _ _ _ _ (Act.put _ (some 56) _) _
  simp only [Act.put, List.setIfInBounds_toArray, List.set_cons_zero, List.set_cons_succ]
  refine wpAnyH_take (i := 28) (v := ?vm29) rfl (by kernel_rfl) (by kernel_rfl) (by kernel_rfl) (fun _ _ _ h => h) (Or.inl ⟨by rfl, ?hym29⟩) (by assumption) ?_
  case hym29 => (intro x' hxx; obtain ⟨e0, e1, e2, e3, e4, e5, e6, e7, e8, e9, e10, e11, e12⟩ := CY.out x' hxx; go_simp; try with_reducible rfl)
  change wpAnyH _ _ _ _ _ _ _ (Act.put _ (some 57) _) _
  simp only [Act.put, List.setIfInBounds_toArray, List.set_cons_zero, List.set_cons_succ]
  refine wpAnyH_take (i := 29) (v := ?vm30) rfl (by kernel_rfl) (by kernel_rfl) (by kernel_rfl) (fun _ _ _ h => h) (Or.inl ⟨by rfl, ?hym30⟩) (by assumption) ?_
  case hym30 => (intro x' hxx; obtain ⟨e0, e1, e2, e3, e4, e5, e6, e7, e8, e9, e10, e11, e12⟩ := CY.out x' hxx; go_simp; try with_reducible rfl)
  change wpAnyH _ _ _ _ _ _ _ (Act.put _ (some 58) _) _
  simp only [Act.put, List.setIfInBounds_toArray, List.set_cons_zero, List.set_cons_succ]
  refine wpAnyH_take (i := 30) (v := ?vm31) rfl (by kernel_rfl) (by kernel_rfl) (by kernel_rfl) (fun _ _ _ h => h) (Or.inl ⟨by rfl, ?hym31⟩) (by assumption) ?_
  case hym31 => (intro x' hxx; obtain ⟨e0, e1, e2, e3, e4, e5, e6, e7, e8, e9, e10, e11, e12⟩ := CY.out x' hxx; go_simp; try with_reducible rfl)
  change wpAnyH _ _ _ _ _ _ _ (Act.put _ (some 59) _) _
  simp only [Act.put, List.setIfInBounds_toArray, List.set_cons_zero, List.set_cons_succ]
  refine wpAnyH_take (i := 31) (v := ?vm32) rfl (by kernel_rfl) (by kernel_rfl) (by kernel_rfl) (fun _ _ _ h => h) (Or.inl ⟨by rfl, ?hym32⟩) (by assumption) ?_
  case hym32 => (intro x' hxx; obtain ⟨e0, e1, e2, e3, e4, e5, e6, e7, e8, e9, e10, e11, e12⟩ := CY.out x' hxx; go_simp; try with_reducible rfl)
  change wpAnyH _ _ _ _ _ _ _ (Act.put _ (some 60) _) _
  simp only [Act.put, List.setIfInBounds_toArray, List.set_cons_zero, List.set_cons_succ]
  refine wpAnyH_take (i := 32) (v := ?vm33) rfl (by kernel_rfl) (by kernel_rfl) (by kernel_rfl) (fun _ _ _ h => h) (Or.inl ⟨by rfl, ?hym33⟩) (by assumption) ?_
  case hym33 => (intro x' hxx; obtain ⟨e0, e1, e2, e3, e4, e5, e6, e7, e8, e9, e10, e11, e12⟩ := CY.out x' hxx; go_simp; try with_reducible rfl)
  change wpAnyH _ _ _ _ _ _ _ (Act.put _ (some 61) _) _
  simp only [Act.put, List.setIfInBounds_toArray, List.set_cons_zero, List.set_cons_succ]
  refine wpAnyH_take (i := 33) (v := ?vm34) rfl (by kernel_rfl) (by kernel_rfl) (by kernel_rfl) (fun _ _ _ h => h) (Or.inl ⟨by rfl, ?hym34⟩) (by assumption) ?_
  case hym34 => (intro x' hxx; obtain ⟨e0, e1, e2, e3, e4, e5, e6, e7, e8, e9, e10, e11, e12⟩ := CY.out x' hxx; go_simp; try with_reducible rfl)
  change wpAnyH _ _ _ _ _ _ _ (Act.put _ (some 62) _) _
  simp only [Act.put, List.setIfInBounds_toArray, List.set_cons_zero, List.set_cons_succ]
  refine wpAnyH_take (i := 34) (v := ?vm35) rfl (by kernel_rfl) (by kernel_rfl) (by kernel_rfl) (fun _ _ _ h => h) (Or.inl ⟨by rfl, ?hym35⟩) (by assumption) ?_
  case hym35 => (intro x' hxx; obtain ⟨e0, e1, e2, e3, e4, e5, e6, e7, e8, e9, e10, e11, e12⟩ := CY.out x' hxx; go_simp; try with_reducible rfl)
  change wpAnyH _ _ _ _ _ _ _ (Act.put _ (some 63) _) _
  simp only [Act.put, List.setIfInBounds_toArray, List.set_cons_zero, List.set_cons_succ]
  refine wpAnyH_take (i := 35) (v := ?vm36) rfl (by kernel_rfl) (by kernel_rfl) (by kernel_rfl) (fun _ _ _ h => h) (Or.inl ⟨by rfl, ?hym36⟩) (by assumption) ?_
  case hym36 => (intro x' hxx; obtain ⟨e0, e1, e2, e3, e4, e5, e6, e7, e8, e9, e10, e11, e12⟩ := CY.out x' hxx; go_simp; try with_reducible rfl)
  change wpAnyH _ _ _ _ _ _ _ (Act.put _ (some 64) _) _
  simp only [Act.put, List.setIfInBounds_toArray, List.set_cons_zero, List.set_cons_succ]
  refine wpAnyH_take (i := 36) (v := ?vm37) rfl (by kernel_rfl) (by kernel_rfl) (by kernel_rfl) (fun _ _ _ h => h) (Or.inl ⟨by rfl, ?hym37⟩) (by assumption) ?_
  case hym37 => (intro x' hxx; obtain ⟨e0, e1, e2, e3, e4, e5, e6, e7, e8, e9, e10, e11, e12⟩ := CY.out x' hxx; go_simp; try with_reducible rfl)
  change wpAnyH _ _ _ _ _ _ _ (Act.put _ (some 65) _) _
  simp only [Act.put, List.setIfInBounds_toArray, List.set_cons_zero, List.set_cons_succ]
  refine wpAnyH_take (i := 37) (v := ?vm38) rfl (by kernel_rfl) (by kernel_rfl) (by kernel_rfl) (fun _ _ _ h => h) (Or.inl ⟨by rfl, ?hym38⟩) (by assumption) ?_
  case hym38 => (intro x' hxx; obtain ⟨e0, e1, e2, e3, e4, e5, e6, e7, e8, e9, e10, e11, e12⟩ := CY.out x' hxx; go_simp; try with_reducible rfl)
  change wpAnyH _ _ _ _ _ _ _ (Act.put _ (some 66) _) _
  simp only [Act.put, List.setIfInBounds_toArray, List.set_cons_zero, List.set_cons_succ]
  refine wpAnyH_take (i := 38) (v := ?vm39) rfl (by kernel_rfl) (by kernel_rfl) (by kernel_rfl) (fun _ _ _ h => h) (Or.inl ⟨by rfl, ?hym39⟩) (by assumption) ?_
  case hym39 => (intro x' hxx; obtain ⟨e0, e1, e2, e3, e4, e5, e6, e7, e8, e9, e10, e11, e12⟩ := CY.out x' hxx; go_simp; try with_reducible rfl)
  change wpAnyH _ _ _ _ _ _ _ (Act.put _ (some 67) _) _
  simp only [Act.put, List.setIfInBounds_toArray, List.set_cons_zero, List.set_cons_succ]
  refine wpAnyH_take (i := 39) (v := ?vm40) rfl (by kernel_rfl) (by kernel_rfl) (by kernel_rfl) (fun _ _ _ h => h) (Or.inl ⟨by rfl, ?hym40⟩) (by assumption) ?_
  case hym40 => (intro x' hxx; obtain ⟨e0, e1, e2, e3, e4, e5, e6, e7, e8, e9, e10, e11, e12⟩ := CY.out x' hxx; go_simp; try with_reducible rfl)
  change wpAnyH _ _ _ _ _ _ _ (Act.put _ (some 68) _) _
  simp only [Act.put, List.setIfInBounds_toArray, List.set_cons_zero, List.set_cons_succ]
  refine wpAnyH_take (i := 40) (v := ?vm41) rfl (by kernel_rfl) (by kernel_rfl) (by kernel_rfl) (fun _ _ _ h => h) (Or.inl ⟨by rfl, ?hym41⟩) (by assumption) ?_
  case hym41 => (intro x' hxx; obtain ⟨e0, e1, e2, e3, e4, e5, e6, e7, e8, e9, e10, e11, e12⟩ := CY.out x' hxx; go_simp; try with_reducible rfl)
  change wpAnyH _ _ _ _ _ _ _ (Act.put _ (some 69) _) _
  simp only [Act.put, List.setIfInBounds_toArray, List.set_cons_zero, List.set_cons_succ]
  refine wpAnyH_take (i := 41) (v := ?vm42) rfl (by kernel_rfl) (by kernel_rfl) (by kernel_rfl) (fun _ _ _ h => h) (Or.inl ⟨by rfl, ?hym42⟩) (by assumption) ?_
  case hym42 => (intro x' hxx; obtain ⟨e0, e1, e2, e3, e4, e5, e6, e7, e8, e9, e10, e11, e12⟩ := CY.out x' hxx; go_simp; try with_reducible rfl)
  change wpAnyH _ _ _ _ _ _ _ (Act.put _ (some 70) _) _
  simp only [Act.put, List.setIfInBounds_toArray, List.set_cons_zero, List.set_cons_succ]
  refine wpAnyH_take (i := 42) (v := ?vm43) rfl (by kernel_rfl) (by kernel_rfl) (by kernel_rfl) (fun _ _ _ h => h) (Or.inl ⟨by rfl, ?hym43⟩) (by assumption) ?_
  case hym43 => (intro x' hxx; obtain ⟨e0, e1, e2, e3, e4, e5, e6, e7, e8, e9, e10, e11, e12⟩ := CY.out x' hxx; go_simp; try with_reducible rfl)
  change wpAnyH _ _ _ _ _ _ _ (Act.put _ (some 71) _) _
  simp only [Act.put, List.setIfInBounds_toArray, List.set_cons_zero, List.set_cons_succ]
  refine wpAnyH_take (i := 43) (v := ?vm44) rfl (by kernel_rfl) (by kernel_rfl) (by kernel_rfl) (fun _ _ _ h => h) (Or.inl ⟨by rfl, ?hym44⟩) (by assumption) ?_
  case hym44 => (intro x' hxx; obtain ⟨e0, e1, e2, e3, e4, e5, e6, e7, e8, e9, e10, e11, e12⟩ := CY.out x' hxx; go_simp; try with_reducible rfl)
  change wpAnyH _ _ _ _ _ _ _ (Act.put _ (some 72) _) _
  simp only [Act.put, List.setIfInBounds_toArray, List.set_cons_zero, List.set_cons_succ]
  refine wpAnyH_take (i := 44) (v := ?vm45) rfl (by kernel_rfl) (by kernel_rfl) (by kernel_rfl) (fun _ _ _ h => h) (Or.inl ⟨by rfl, ?hym45⟩) (by assumption) ?_
  case hym45 => (intro x' hxx; obtain ⟨e0, e1, e2, e3, e4, e5, e6, e7, e8, e9, e10, e11, e12⟩ := CY.out x' hxx; go_simp; try with_reducible rfl)
  change wpAnyH _ _ _ _ _ _ _ (Act.put _ (some 73) _) _
  simp only [Act.put, List.setIfInBounds_toArray, List.set_cons_zero, List.set_cons_succ]
  refine wpAnyH_take (i := 45) (v := ?vm46) rfl (by kernel_rfl) (by kernel_rfl) (by kernel_rfl) (fun _ _ _ h => h) (Or.inl ⟨by rfl, ?hym46⟩) (by assumption) ?_
  case hym46 => (intro x' hxx; obtain ⟨e0, e1, e2, e3, e4, e5, e6, e7, e8, e9, e10, e11, e12⟩ := CY.out x' hxx; go_simp; try with_reducible rfl)
  change wpAnyH _ _ _ _ _ _ _ (Act.put _ (some 74) _) _
  simp only [Act.put, List.setIfInBounds_toArray, List.set_cons_zero, List.set_cons_succ]
  refine wpAnyH_take (i := 46) (v := ?vm47) rfl (by kernel_rfl) (by kernel_rfl) (by kernel_rfl) (fun _ _ _ h => h) (Or.inl ⟨by rfl, ?hym47⟩) (by assumption) ?_
  case hym47 => (intro x' hxx; obtain ⟨e0, e1, e2, e3, e4, e5, e6, e7, e8, e9, e10, e11, e12⟩ := CY.out x' hxx; go_simp; try with_reducible rfl)
  change wpAnyH _ _ _ _ _ _ _ (Act.put _ (some 75) _) _
  simp only [Act.put, List.setIfInBounds_toArray, List.set_cons_zero, List.set_cons_succ]
  refine wpAnyH_take (i := 47) (v := ?vm48) rfl (by kernel_rfl) (by kernel_rfl) (by kernel_rfl) (fun _ _ _ h => h) (Or.inl ⟨by rfl, ?hym48⟩) (by assumption) ?_
  case hym48 => (intro x' hxx; obtain ⟨e0, e1, e2, e3, e4, e5, e6, e7, e8, e9, e10, e11, e12⟩ := CY.out x' hxx; go_simp; try with_reducible rfl)
  change wpAnyH _ _ _ _ _ _ _ (Act.put _ (some 76) _) _
  simp only [Act.put, List.setIfInBounds_toArray, List.set_cons_zero, List.set_cons_succ]
  refine wpAnyH_take (i := 48) (v := ?vm49) rfl (by kernel_rfl) (by kernel_rfl) (by kernel_rfl) (fun _ _ _ h => h) (Or.inl ⟨by rfl, ?hym49⟩) (by assumption) ?_
  case hym49 => (intro x' hxx; obtain ⟨e0, e1, e2, e3, e4, e5, e6, e7, e8, e9, e10, e11, e12⟩ := CY.out x' hxx; go_simp; try with_reducible rfl)
  change wpAnyH _ _ _ _ _ _ _ (Act.put _ (some 77) _) _
  simp only [Act.put, List.setIfInBounds_toArray, List.set_cons_zero, List.set_cons_succ]
  refine wpAnyH_take (i := 49) (v := ?vm50) rfl (by kernel_rfl) (by kernel_rfl) (by kernel_rfl) (fun _ _ _ h => h) (Or.inl ⟨by rfl, ?hym50⟩) (by assumption) ?_
  case hym50 => (intro x' hxx; obtain ⟨e0, e1, e2, e3, e4, e5, e6, e7, e8, e9, e10, e11, e12⟩ := CY.out x' hxx; go_simp; try with_reducible rfl)
  change wpAnyH _ _ _ _ _ _ _ (Act.put _ (some 78) _) _
  simp only [Act.put, List.setIfInBounds_toArray, List.set_cons_zero, List.set_cons_succ]
  refine wpAnyH_take (i := 50) (v := ?vm51) rfl (by kernel_rfl) (by kernel_rfl) (by kernel_rfl) (fun _ _ _ h => h) (Or.inl ⟨by rfl, ?hym51⟩) (by assumption) ?_
  case hym51 => (intro x' hxx; obtain ⟨e0, e1, e2, e3, e4, e5, e6, e7, e8, e9, e10, e11, e12⟩ := CY.out x' hxx; go_simp; try with_reducible rfl)
  change wpAnyH _ _ _ _ _ _ _ (Act.put _ (some 79) _) _
  simp only [Act.put, List.setIfInBounds_toArray, List.set_cons_zero, List.set_cons_succ]
  refine wpAnyH_take (i := 51) (v := ?vm52) rfl (by kernel_rfl) (by kernel_rfl) (by kernel_rfl) (fun _ _ _ h => h) (Or.inl ⟨by rfl, ?hym52⟩) (by assumption) ?_
  case hym52 => (intro x' hxx; obtain ⟨e0, e1, e2, e3, e4, e5, e6, e7, e8, e9, e10, e11, e12⟩ := CY.out x' hxx; go_simp; try with_reducible rfl)
  change wpAnyH _ _ _ _ _ _ _ (Act.put _ (some 80) _) _
  simp only [Act.put, List.setIfInBounds_toArray, List.set_cons_zero, List.set_cons_succ]
  refine wpAnyH_take (i := 52) (v := ?vm53) rfl (by kernel_rfl) (by kernel_rfl) (by kernel_rfl) (fun _ _ _ h => h) (Or.inl ⟨by rfl, ?hym53⟩) (by assumption) ?_
  case hym53 => (intro x' hxx; obtain ⟨e0, e1, e2, e3, e4, e5, e6, e7, e8, e9, e10, e11, e12⟩ := CY.out x' hxx; go_simp; try with_reducible rfl)
  change wpAnyH _ _ _ _ _ _ _ (Act.put _ (some 81) _) _
  simp only [Act.put, List.setIfInBounds_toArray, List.set_cons_zero, List.set_cons_succ]
  refine wpAnyH_take (i := 53) (v := ?vm54) rfl (by kernel_rfl) (by kernel_rfl) (by kernel_rfl) (fun _ _ _ h => h) (Or.inl ⟨by rfl, ?hym54⟩) (by assumption) ?_
  case hym54 => (intro x' hxx; obtain ⟨e0, e1, e2, e3, e4, e5, e6, e7, e8, e9, e10, e11, e12⟩ := CY.out x' hxx; go_simp; try with_reducible rfl)
  change wpAnyH _ _ _ _ _ _ _ (Act.put _ (some 82) _) _
  simp only [Act.put, List.setIfInBounds_toArray, List.set_cons_zero, List.set_cons_succ]
  refine wpAnyH_take (i := 54) (v := ?vm55) rfl (by kernel_rfl) (by kernel_rfl) (by kernel_rfl) (fun _ _ _ h => h) (Or.inl ⟨by rfl, ?hym55⟩) (by assumption) ?_
  case hym55 => (intro x' hxx; obtain ⟨e0, e1, e2, e3, e4, e5, e6, e7, e8, e9, e10, e11, e12⟩ := CY.out x' hxx; go_simp; try with_reducible rfl)
  change wpAnyH _ _ _ _ _ _ _ (Act.put _ (some 83) _) _
  simp only [Act.put, List.setIfInBounds_toArray, List.set_cons_zero, List.set_cons_succ]
  refine wpAnyH_take (i := 55) (v := ?vm56) rfl (by kernel_rfl) (by kernel_rfl) (by kernel_rfl) (fun _ _ _ h => h) (Or.inl ⟨by rfl, ?hym56⟩) (by assumption) ?_
  case hym56 => (intro x' hxx; obtain ⟨e0, e1, e2, e3, e4, e5, e6, e7, e8, e9, e10, e11, e12⟩ := CY.out x' hxx; go_simp; try with_reducible rfl)
  change wpAnyH _ _ _ _ _ _ _ (Act.put _ (some 84) _) _
  simp only [Act.put, List.setIfInBounds_toArray, List.set_cons_zero, List.set_cons_succ]
  refine wpAnyH_take (i := 56) (v := ?vm57) rfl (by kernel_rfl) (by kernel_rfl) (by kernel_rfl) (fun _ _ _ h => h) (Or.inl ⟨by rfl, ?hym57⟩) (by assumption) ?_
  case hym57 => (intro x' hxx; obtain ⟨e0, e1, e2, e3, e4, e5, e6, e7, e8, e9, e10, e11, e12⟩ := CY.out x' hxx; go_simp; try with_reducible rfl)
  change wpAnyH _ _ _ _ _ _ _ (Act.put _ (some 85) _) _
  simp only [Act.put, List.setIfInBounds_toArray, List.set_cons_zero, List.set_cons_succ]
  refine wpAnyH_take (i := 57) (v := ?vm58) rfl (by kernel_rfl) (by kernel_rfl) (by kernel_rfl) (fun _ _ _ h => h) (Or.inl ⟨by rfl, ?hym58⟩) (by assumption) ?_
  case hym58 => (intro x' hxx; obtain ⟨e0, e1, e2, e3, e4, e5, e6, e7, e8, e9, e10, e11, e12⟩ := CY.out x' hxx; go_simp; try with_reducible rfl)
  change wpAnyH _ _ _ _ _ _ _ (Act.put _ (some 86) _) _
  simp only [Act.put, List.setIfInBounds_toArray, List.set_cons_zero, List.set_cons_succ]
  refine wpAnyH_take (i := 58) (v := ?vm59) rfl (by kernel_rfl) (by kernel_rfl) (by kernel_rfl) (fun _ _ _ h => h) (Or.inl ⟨by rfl, ?hym59⟩) (by assumption) ?_
  case hym59 => (intro x' hxx; obtain ⟨e0, e1, e2, e3, e4, e5, e6, e7, e8, e9, e10, e11, e12⟩ := CY.out x' hxx; go_simp; try with_reducible rfl)
  change wpAnyH _ _ _ _ _ _ _ (Act.put _ (some 87) _) _
  simp only [Act.put, List.setIfInBounds_toArray, List.set_cons_zero, List.set_cons_succ]
  refine wpAnyH_ready (rs := [59]) (by kernel_rfl) (by simp) ?_
  refine AllReadyH.cons rfl (fun K hK => ?_) AllReadyH.nil
  go_simp
  refine (HEND.out W5.drew hH).mono ?_
  rintro e mw59 ⟨rfl, hb⟩
  have hHm59 : Below W5.heap.size W5 mw59 := below_then hH hb
  refine hK.out _ _ hHm59 (fun _ => ?_)
  clear hK K hb hH
  refine wpAnyH_take (i := 60) (v := ?vm60) rfl (by kernel_rfl) (by kernel_rfl) (by kernel_rfl) (fun _ _ _ h => h) (Or.inl ⟨by rfl, ?hym60⟩) (by assumption) ?_
  case hym60 => (intro x' hxx; obtain ⟨e0, e1, e2, e3, e4, e5, e6, e7, e8, e9, e10, e11, e12⟩ := CY.out x' hxx; go_simp; try with_reducible rfl)
  change wpAnyH _ _ _ _ _ _ _ (Act.put _ (some 89) _) _
  simp only [Act.put, List.setIfInBounds_toArray, List.set_cons_zero, List.set_cons_succ]
  refine wpAnyH_take (i := 61) (v := ?vm61) rfl (by kernel_rfl) (by kernel_rfl) (by kernel_rfl) (fun _ _ _ h => h) (Or.inl ⟨by rfl, ?hym61⟩) (by assumption) ?_
  case hym61 => (intro x' hxx; obtain ⟨e0, e1, e2, e3, e4, e5, e6, e7, e8, e9, e10, e11, e12⟩ := CY.out x' hxx; go_simp; try with_reducible rfl)
  change wpAnyH _ _ _ _ _ _ _ (Act.put _ (some 90) _) _
  simp only [Act.put, List.setIfInBounds_toArray, List.set_cons_zero, List.set_cons_succ]
  refine wpAnyH_take (i := 62) (v := ?vm62) rfl (by kernel_rfl) (by kernel_rfl) (by kernel_rfl) (fun _ _ _ h => h) (Or.inl ⟨by rfl, ?hym62⟩) (by assumption) ?_
  case hym62 => (intro x' hxx; obtain ⟨e0, e1, e2, e3, e4, e5, e6, e7, e8, e9, e10, e11, e12⟩ := CY.out x' hxx; go_simp; try with_reducible rfl)
  change wpAnyH _ _ _ _ _ _ _ (Act.put _ (some 91) _) _
  simp only [Act.put, List.setIfInBounds_toArray, List.set_cons_zero, List.set_cons_succ]
  refine wpAnyH_take (i := 63) (v := ?vm63) rfl (by kernel_rfl) (by kernel_rfl) (by kernel_rfl) (fun _ _ _ h => h) (Or.inl ⟨by rfl, ?hym63⟩) (by assumption) ?_
  case hym63 => (intro x' hxx; obtain ⟨e0, e1, e2, e3, e4, e5, e6, e7, e8, e9, e10, e11, e12⟩ := CY.out x' hxx; go_simp; try with_reducible rfl)
  change wpAnyH _ _ _ _ _ _ _ (Act.put _ (some 92) _) _
  simp only [Act.put, List.setIfInBounds_toArray, List.set_cons_zero, List.set_cons_succ]
  refine wpAnyH_take (i := 64) (v := ?vm64) rfl (by kernel_rfl) (by kernel_rfl) (by kernel_rfl) (fun _ _ _ h => h) (Or.inl ⟨by rfl, ?hym64⟩) (by assumption) ?_
  case hym64 => (intro x' hxx; obtain ⟨e0, e1, e2, e3, e4, e5, e6, e7, e8, e9, e10, e11, e12⟩ := CY.out x' hxx; go_simp; try with_reducible rfl)
  change wpAnyH _ _ _ _ _ _ _ (Act.put _ (some 93) _) _
  simp only [Act.put, List.setIfInBounds_toArray, List.set_cons_zero, List.set_cons_succ]
  refine wpAnyH_take (i := 65) (v := ?vm65) rfl (by kernel_rfl) (by kernel_rfl) (by kernel_rfl) (fun _ _ _ h => h) (Or.inl ⟨by rfl, ?hym65⟩) (by assumption) ?_
  case hym65 => (intro x' hxx; obtain ⟨e0, e1, e2, e3, e4, e5, e6, e7, e8, e9, e10, e11, e12⟩ := CY.out x' hxx; go_simp; try with_reducible rfl)
  change wpAnyH _ _ _ _ _ _ _ (Act.put _ (some 94) _) _
  simp only [Act.put, List.setIfInBounds_toArray, List.set_cons_zero, List.set_cons_succ]
  refine wpAnyH_take (i := 66) (v := ?vm66) rfl (by kernel_rfl) (by kernel_rfl) (by kernel_rfl) (fun _ _ _ h => h) (Or.inl ⟨by rfl, ?hym66⟩) (by assumption) ?_
  case hym66 => (intro x' hxx; obtain ⟨e0, e1, e2, e3, e4, e5, e6, e7, e8, e9, e10, e11, e12⟩ := CY.out x' hxx; go_simp; try with_reducible rfl)
  change wpAnyH _ _ _ _ _ _ _ (Act.put _ (some 95) _) _
  simp only [Act.put, List.setIfInBounds_toArray, List.set_cons_zero, List.set_cons_succ]
  refine wpAnyH_ready (rs := [67]) (by kernel_rfl) (by simp) ?_
  refine AllReadyH.cons rfl (fun K hK => ?_) AllReadyH.nil
  go_simp
  refine (HCLR.out mw59 hHm59).mono ?_
  rintro e mw67 ⟨rfl, hb⟩
  have hHm67 : Below W5.heap.size W5 mw67 := below_then hHm59 hb
  refine hK.out _ _ hHm67 (fun _ => ?_)
  clear hK K hb hHm59
  refine wpAnyH_take (i := 68) (v := ?vm67) rfl (by kernel_rfl) (by kernel_rfl) (by kernel_rfl) (fun _ _ _ h => h) (Or.inl ⟨by rfl, ?hym67⟩) (by assumption) ?_
  case hym67 => (intro x' hxx; obtain ⟨e0, e1, e2, e3, e4, e5, e6, e7, e8, e9, e10, e11, e12⟩ := CY.out x' hxx; go_simp; try with_reducible rfl)
  change wpAnyH _ _ _ _ _ _ _ (Act.put _ (some 97) _) _
  simp only [Act.put, List.setIfInBounds_toArray, List.set_cons_zero, List.set_cons_succ]
  refine wpAnyH_take (i := 69) (v := ?vm68) rfl (by kernel_rfl) (by kernel_rfl) (by kernel_rfl) (fun _ _ _ h => h) (Or.inl ⟨by rfl, ?hym68⟩) (by assumption) ?_
  case hym68 => (intro x' hxx; obtain ⟨e0, e1, e2, e3, e4, e5, e6, e7, e8, e9, e10, e11, e12⟩ := CY.out x' hxx; go_simp; try with_reducible rfl)
  change wpAnyH _ _ _ _ _ _ _ (Act.put _ (some 0) _) _
  simp only [Act.put, List.setIfInBounds_toArray, List.set_cons_zero]
  refine wpAnyH_done (by kernel_rfl) ?_ _
  refine NoPanic.normal ?_
  have HE5 := Lib.hid hHm67
  clear hHm67
  go_wp2_with fail
  go_ret
  exact ⟨by first | rfl | simp, HFIN.out _ HE5.out⟩
end Go.Proofs.Ytnlkbboghcdpnaa
