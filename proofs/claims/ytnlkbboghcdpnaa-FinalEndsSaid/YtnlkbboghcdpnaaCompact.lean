/- slices.CompactFunc at finals: the walk. -/
import Derived.Test.YtnlkbboghcdpnaaCompP
import Derived.IntWalk
import Derived.Deep.CutBlock
namespace Go.Proofs.Ytnlkbboghcdpnaa
open Go.RowKit

theorem wrap_nat (k : Nat) (h : k ≤ 9223372036854775807) : IntKind.i64.wrap (k : Int) = (k : Int) := IntWalk.i64_in _ (by omega)
theorem one_info : (Try.prog.info? 103).map (fun i => (i.zero, i.size, i.bytes)) = some (some (.agg #[.slice none 0 0, .slice none 0 0]), 2, 48) := by kernel_rfl
theorem one_zero (w : World) : (zeroValue 103).run Try.prog w = .ok (.agg #[.slice none 0 0, .slice none 0 0]) w := by kernel_rfl
set_option maxRecDepth 100000 in
set_option maxHeartbeats 4000000 in
theorem sameP_any (w : World) (a b : FinalD) (ma ra mb rb : Value) (ha : FinalAt w a ma ra) (hb : FinalAt w b mb rb) (hfa : fewD a) (hfb : fewD b) (ca cb : List Value) :
    Calls Try.prog 50 #[finalV ma ra, finalV mb rb] w fun e w' => e = .returned (.bool (eqP (a, ca) (b, cb))) ∧ Below w.heap.size w w' := by
  obtain ⟨ma1, mac, rfl, -⟩ := SliceR.slice ha.mem
  obtain ⟨ra1, rac, rfl, -⟩ := SliceR.slice ha.regs
  obtain ⟨mb1, mbc, rfl, -⟩ := SliceR.slice hb.mem
  obtain ⟨rb1, rbc, rfl, -⟩ := SliceR.slice hb.regs
  obtain ⟨r, hr⟩ : ∃ r, r = eqP (a, ca) (b, cb) := ⟨_, rfl⟩
  obtain ⟨c, hc⟩ : ∃ c, c = cmpI (flatD a) (flatD b) := ⟨_, rfl⟩
  have hr2 : r = (decide (c = 0) && decide (a.mem.length = b.mem.length)) := by rw [hr, hc]; rfl
  have h1 := fun W (h : Below w.heap.size w W) => order_any W a b _ _ _ _ (ha.below h) (hb.below h) hfa hfb
  rw [← hc] at h1
  rw [← hr]
  unfold finalV at h1 ⊢
  clear ha hb hr hc
  generalize a.mem.length = n1 at h1 hr2 ⊢
  generalize a.regs.length = n2 at h1 ⊢
  generalize b.mem.length = n3 at h1 hr2 ⊢
  generalize b.regs.length = n4 at h1 ⊢
  have hB := boxes_below w (.cells #[.slice ma1 n1 mac, .slice ra1 n2 rac] 103) (.cells #[.slice mb1 n3 mbc, .slice rb1 n4 rbc] 103)
  have H1 := Lib.hid (boxes_first w (.cells #[.slice ma1 n1 mac, .slice ra1 n2 rac] 103) (.cells #[.slice mb1 n3 mbc, .slice rb1 n4 rbc] 103))
  have H2 := Lib.hid (boxes_second w (.cells #[.slice ma1 n1 mac, .slice ra1 n2 rac] 103) (.cells #[.slice mb1 n3 mbc, .slice rb1 n4 rbc] 103))
  have HB := Lib.hid hB
  have HR := Lib.hid hr2
  have HA := Lib.hid h1
  clear h1 hr2 hB hfa hfb
  go_enter Try.func50, Try.ntmps50
  go_upto_region 1 with fail
  generalize World.alloc (World.alloc w _) _ = W at HB H1 H2 ⊢
  obtain ⟨gx, hgx⟩ : ∃ gx, gx = w.heap.size := ⟨_, rfl⟩
  rw [← hgx] at H1 H2 ⊢
  clear hgx
  have HFIN : Hid (∀ x, Below W.heap.size W x → Below w.heap.size w x) := fun x hx => HB.out.trans (hx.mono HB.out.size)
  have HC : Hid (∀ x, Below W.heap.size W x → x.cell? ⟨gx, 0, none⟩ = some (.slice ma1 n1 mac) ∧ x.cell? ⟨gx, 1, none⟩ = some (.slice ra1 n2 rac) ∧ x.cell? ⟨gx + 1, 0, none⟩ = some (.slice mb1 n3 mbc) ∧ x.cell? ⟨gx + 1, 1, none⟩ = some (.slice rb1 n4 rbc)) := fun x hx =>
    ⟨cells_kept hx _ _ (cell_of_block H1.out 0), cells_kept hx _ _ (cell_of_block H1.out 1), cells_kept hx _ _ (cell_of_block H2.out 0), cells_kept hx _ _ (cell_of_block H2.out 1)⟩
  obtain ⟨c0, c1, c2, c3⟩ := HC.out W (Below.refl _ _)
  by_cases h0 : c = 0
  · subst h0
    have HR2 : Hid (r = decide (n1 = n3)) := by rw [Hid, HR.out]; simp
    clear HR
    by_cases hn : n1 = n3
    · subst hn
      obtain rfl : r = true := by rw [HR2.out]; simp
      go_wp2_with (go_at_call 48; go_must (refine (HA.out W HB.out).mono ?_); rintro e w1 ⟨rfl, hb, -⟩; have HB1 := Lib.hid hb; obtain ⟨d0, d1, d2, d3⟩ := HC.out w1 hb; clear hb c0 c1 c2 c3)
      go_ret
      exact ⟨by first | rfl | simp, HFIN.out _ HB1.out⟩
    · obtain rfl : r = false := by rw [HR2.out, decide_eq_false hn]
      have hn2 : ((n1 : Int) == (n3 : Int)) = false := by simp; omega
      go_wp2_with (go_at_call 48; go_must (refine (HA.out W HB.out).mono ?_); rintro e w1 ⟨rfl, hb, -⟩; have HB1 := Lib.hid hb; obtain ⟨d0, d1, d2, d3⟩ := HC.out w1 hb; clear hb c0 c1 c2 c3)
      go_ret
      exact ⟨by first | rfl | simp, HFIN.out _ HB1.out⟩
  · obtain rfl : r = false := by rw [HR.out, decide_eq_false h0]; rfl
    have h2 : ((c : Int) == 0) = false := by simpa using h0
    go_wp2_with (go_at_call 48; go_must (refine (HA.out W HB.out).mono ?_); rintro e w1 ⟨rfl, hb, -⟩; have HB1 := Lib.hid hb; clear hb c0 c1 c2 c3)
    go_ret
    exact ⟨by first | rfl | simp, HFIN.out _ HB1.out⟩
/-- A final's cells lie somewhere, and what they tell stays. -/
def okP (F : Nat → Prop) (w : World) (p : FinP) : Prop := p.2.length = 2 ∧ Away F w (fun y => FinalR y p.1 p.2) ∧ fewD p.1
theorem sliceP {w X : World} {g n cap : Nat} {cur : Array Value} {t : TypeId} {D : List FinP} (hX : X.heap[g]? = some (.cells cur t (0, 0))) (hD : ∀ p ∈ D, okP (fun k => k = g) w p) (hs : Since (fun k => k = g) w X) (hn : n = D.length) (hl : D.length ≤ 9223372036854775807) (hc : ∀ j i, j < D.length → i < 2 → cur[j * 2 + i]? = (D.getD j default).2[i]?) :
    SliceR FinalR 2 X (.slice (some ⟨g, 0, none⟩) n cap) (D.map (·.1)) := by
  subst hn
  refine ⟨some ⟨g, 0, none⟩, cap, by simp, by simpa using hl, fun j hj => ?_⟩
  have hj' : j < D.length := by simpa using hj
  obtain ⟨h1, h2, -⟩ := hD _ (getD_mem (x := default) hj')
  refine ⟨g, 0, (D.getD j default).2, rfl, lt_of_block hX, h1, fun i hi => ?_, ?_⟩
  · rw [Nat.zero_add, cell_of_block hX, hc j i hj' hi]
  · have : (D.map (·.1)).getD j default = (D.getD j default).1 := by
      rw [List.getD_eq_getElem?_getD, List.getD_eq_getElem?_getD, List.getElem?_map, List.getElem?_eq_getElem hj']; rfl
    rw [this]
    exact h2 X hs
def CompEnd (w : World) (v : Value) (D : List FinP) (e : Ending) (w' : World) : Prop := (∃ xa xc, e = .returned (.slice xa D.length xc) ∧ SliceR FinalR 2 w' (.slice xa D.length xc) (D.map (·.1))) ∧ Since (fun k => v.ownBlock = some k) w w'
theorem row_blk {w : World} {B g n cap : Nat} {e : TypeId} {size : Nat} {xs : List Value} (h : w.ownsRow B e size (.slice (some ⟨g, 0, none⟩) n cap) n xs) : ∃ cur, w.heap[g]? = some (.cells cur e (0, 0)) ∧ cur.size = cap * size ∧ ∀ j, j < n * size → cur[j]? = xs[j]? := by
  rcases h.2 with ⟨h1, -⟩ | ⟨g', cap', cur, h1, -, h3, -, -, h6, h7⟩
  · cases h1
  · cases h1
    refine ⟨cur, h3, h6, fun j hj => ?_⟩
    rw [← h7, List.getElem?_take_of_lt hj]
    simp
set_option maxRecDepth 100000 in
set_option maxHeartbeats 8000000 in
theorem compact_any (w : World) (B : Nat) (v : Value) (P : List FinP) (hrow : w.ownsRow B 103 2 v P.length (cellsP P)) (hok : ∀ p ∈ P, okP (fun k => v.ownBlock = some k) w p) (hn : P.length ≤ 1000000) :
    Calls Try.prog 49 #[v, .func (.func 50) #[] #[]] w (CompEnd w v (compTo P P.length)) := by
  obtain ⟨n, hnn⟩ : ∃ n, n = P.length := ⟨_, rfl⟩
  obtain ⟨R, hR⟩ : ∃ R, R = compTo P P.length := ⟨_, rfl⟩
  rw [← hR]
  rw [← hnn] at hrow hn hR
  have h2P : ∀ p ∈ P, p.2.length = 2 := fun p hp => (hok p hp).1
  by_cases hn2 : n < 2
  · have hRP : R = P := by rw [hR, compTo_take (by omega) (fun j h1 h2 => by omega), hnn, List.take_length]
    have hsl : SliceR FinalR 2 w v (P.map (·.1)) := by
      have hlen : (P.map (·.1)).length = P.length := by simp
      refine SliceR.of_row (xs := cellsP P) (B := B) (e := 103) (by rw [hlen, ← hnn]; exact hrow) fun j hj => ?_
      have hj' : j < P.length := by simpa using hj
      have h := hok _ (getD_mem (x := default) hj')
      refine ⟨(P.getD j default).2, h.1, fun i hi => cellsP_at h2P hj' hi, ?_⟩
      have : (P.map (·.1)).getD j default = (P.getD j default).1 := by
        rw [List.getD_eq_getElem?_getD, List.getD_eq_getElem?_getD, List.getElem?_map, List.getElem?_eq_getElem hj']; rfl
      rw [this]
      exact h.2.1.now
    obtain ⟨xa, xc, rfl, -, -⟩ := row_slice hrow
    have HSL := Lib.hid hsl
    have HRP := Lib.hid hRP
    have HN := Lib.hid hnn
    have hn2I : (n : Int) < 2 := by omega
    clear hrow hok h2P hsl hRP hR hnn
    go_enter Try.func49, Try.ntmps49
    go_wp2_with fail
    go_ret
    exact ⟨⟨xa, xc, by rw [HRP.out, ← HN.out]; first | rfl | simp, by rw [HRP.out, ← HN.out]; exact HSL.out⟩, Since.refl _ _⟩
  · obtain ⟨g, cap, rfl, hcap, hcapm⟩ := row_some hrow (by omega)
    have hok2 : ∀ p ∈ P, okP (fun k => k = g) w p := fun p hp => by
      obtain ⟨a, b, c⟩ := hok p hp
      exact ⟨a, fun y hy => b y (hy.mono (fun k _ hk => by rw [hk]; rfl)), c⟩
    have hend : ∀ e w', (∃ xa xc, e = .returned (.slice xa R.length xc) ∧ SliceR FinalR 2 w' (.slice xa R.length xc) (R.map (·.1))) → Since (fun k => k = g) w w' → CompEnd w (.slice (some ⟨g, 0, none⟩) n cap) R e w' := fun e w' h1 h2 => ⟨h1, h2.mono (fun k _ hk => by rw [hk]; rfl)⟩
    unfold maxLen at hcapm
    have hcap2 : cap ≤ 9223372036854775807 := by omega
    have HOK := Lib.hid hok2
    have HEND := Lib.hid hend
    have HROW := Lib.hid hrow
    have HN := Lib.hid hnn
    have HR := Lib.hid hR
    have H2 := Lib.hid h2P
    have hn2I : ¬ (n : Int) < 2 := by omega
    -- the pairs' cells
    have HCELL : Hid (∀ (X : World) (Q : List FinP) (j : Nat), X.ownsRow B 103 2 (.slice (some ⟨g, 0, none⟩) n cap) n (cellsP Q) → Q.length = n → (∀ p ∈ Q, p ∈ P) → j < n → Since (fun k => k = g) w X →
        ∃ ma ml mc ra rl rc, (Q.getD j default).2 = [.slice ma ml mc, .slice ra rl rc] ∧ X.cell? ⟨g, j * 2, none⟩ = some (.slice ma ml mc) ∧ X.cell? ⟨g, j * 2 + 1, none⟩ = some (.slice ra rl rc) ∧ FinalAt X (Q.getD j default).1 (.slice ma ml mc) (.slice ra rl rc) ∧ fewD (Q.getD j default).1) := fun X Q j h1 h2 h3 h4 h5 => by
      have hq := h3 _ (getD_mem (x := default) (by rw [h2]; exact h4))
      obtain ⟨o1, o2, o3⟩ := hok2 _ hq
      obtain ⟨mv, rv, e, hf⟩ := o2 X h5
      obtain ⟨ma, mc, rfl, -⟩ := SliceR.slice hf.mem
      obtain ⟨ra, rc, rfl, -⟩ := SliceR.slice hf.regs
      have h2Q : ∀ p ∈ Q, p.2.length = 2 := fun p hp => (hok2 p (h3 p hp)).1
      have k0 := cellsP_at h2Q (j := j) (i := 0) (by rw [h2]; exact h4) (by omega)
      have k1 := cellsP_at h2Q (j := j) (i := 1) (by rw [h2]; exact h4) (by omega)
      rw [e] at k0 k1
      rw [Nat.add_zero] at k0
      obtain ⟨g1, c1, e1, -, d1, -⟩ := row_ptr h1 k0
      obtain ⟨g2, c2, e2, -, d2, -⟩ := row_ptr h1 k1
      cases e1
      cases e2
      exact ⟨ma, _, mc, ra, _, rc, e, d1, d2, hf, o3⟩
    clear hrow hok hok2 hend hnn hR h2P hcapm
    go_enter Try.func49, Try.ntmps49
    go_wp2_with fail
    go_loopg [5] (n - 1) (fun gg s5 wr => ∃ k : Nat, 1 ≤ k ∧ k ≤ n ∧ Hid (gg = n - k) ∧ s5 = .int .i64 k ∧ Hid (Below w.heap.size w wr) ∧ Hid (∀ j, 1 ≤ j → j < k → eqP (P.getD j default) (P.getD (j - 1) default) = false))
    case atStart => exact ⟨1, Nat.le_refl _, by omega, rfl, rfl, Below.refl _ _, fun j h1 h2 => by omega⟩
    case round =>
      obtain ⟨k, hk1, hkn, HG, rfl, HBR, HJ⟩ := hrel
      by_cases hlt : k < n
      · have hltI : (k : Int) < (n : Int) := by omega
        have hs := since_of (fun k => k = g) HBR.out
        have hrw := row_below HROW.out HBR.out
        obtain ⟨ma, ml, mc, ra, rl, rc, e1, x0, x1, hf1, hw1⟩ := HCELL.out wr P k hrw HN.out.symm (fun p hp => hp) hlt hs
        obtain ⟨mb, ml2, mc2, rb, rl2, rc2, e2, y0, y1, hf2, hw2⟩ := HCELL.out wr P (k - 1) hrw HN.out.symm (fun p hp => hp) (by omega) hs
        have hsame := fun y (hy : Below wr.heap.size wr y) => sameP_any y _ _ _ _ _ _ (hf1.below hy) (hf2.below hy) hw1 hw2 (P.getD k default).2 (P.getD (k - 1) default).2
        obtain ⟨eq, heq⟩ : ∃ q, q = eqP (P.getD k default) (P.getD (k - 1) default) := ⟨_, rfl⟩
        have hsame2 : ∀ y, Below wr.heap.size wr y → Calls Try.prog 50 #[.agg #[.slice ma ml mc, .slice ra rl rc], .agg #[.slice mb ml2 mc2, .slice rb rl2 rc2]] y fun e w' => e = .returned (.bool eq) ∧ Below y.heap.size y w' := fun y hy => by
          rw [heq]; exact hsame y hy
        have HSAME := Lib.hid hsame2
        have HEQ := Lib.hid heq
        have hk1I : IntKind.i64.wrap ((k : Int) - 1) = ((k - 1 : Nat) : Int) := by rw [IntWalk.i64_in _ (by omega)]; omega
        have hkk : ((k : Int) - 1) = ((k - 1 : Nat) : Int) := by omega
        obtain ⟨k', hk'⟩ : ∃ k', k' = k - 1 := ⟨_, rfl⟩
        rw [← hk'] at y0 y1
        obtain rfl : k = k' + 1 := by omega
        have C6 : Hid (∀ y, Below wr.heap.size wr y → y.cell? ⟨g, (k' + 1) * 2, none⟩ = some (.slice ma ml mc) ∧ y.cell? ⟨g, (k' + 1) * 2 + 1, none⟩ = some (.slice ra rl rc) ∧ y.cell? ⟨g, k' * 2, none⟩ = some (.slice mb ml2 mc2) ∧ y.cell? ⟨g, k' * 2 + 1, none⟩ = some (.slice rb rl2 rc2)) := fun y hy => ⟨cells_kept hy _ _ x0, cells_kept hy _ _ x1, cells_kept hy _ _ y0, cells_kept hy _ _ y1⟩
        clear hsame hsame2 heq hs hrw hf1 hf2 hw1 hw2 e1 e2 x0 x1 y0 y1 hk' hk1I hkk
        have hk0 : (0 : Int) ≤ (k' : Int) + 1 := by omega
        have hwr := wrap_nat k' (by omega)
        have hltI2 : ((k' : Int) + 1) < (n : Int) := by omega
        have hk'I : (k' : Int) < (n : Int) := by omega
        go_upto_region 6 with fail
        refine wp_region_noPanic ?_
        refine wp_region_held_drew (S := fun x => Below wr.heap.size wr x) (by kernel_rfl) (Below.refl _ _).drew (fun hH => ?_)
        refine wpAnyH_take (i := 0) (v := ?vh1) rfl (by kernel_rfl) (by kernel_rfl) (by kernel_rfl) (fun _ _ _ h => h) (Or.inl ⟨by rfl, ?hyh1⟩) (by assumption) ?_
        case hyh1 => (intro x' hxx; obtain ⟨e0, e1, e2, e3⟩ := C6.out x' hxx; go_simp; try with_reducible rfl)
        change wpAnyH _ _ _ _ _ _ _ (Act.put _ (some 18) _) _
        simp only [Act.put, List.setIfInBounds_toArray, List.set_cons_zero, List.set_cons_succ]
        refine wpAnyH_take (i := 1) (v := ?vh2) rfl (by kernel_rfl) (by kernel_rfl) (by kernel_rfl) (fun _ _ _ h => h) (Or.inl ⟨by rfl, ?hyh2⟩) (by assumption) ?_
        case hyh2 => (intro x' hxx; obtain ⟨e0, e1, e2, e3⟩ := C6.out x' hxx; go_simp; try with_reducible rfl)
        change wpAnyH _ _ _ _ _ _ _ (Act.put _ (some 19) _) _
        simp only [Act.put, List.setIfInBounds_toArray, List.set_cons_zero, List.set_cons_succ]
        refine wpAnyH_take (i := 2) (v := ?vh3) rfl (by kernel_rfl) (by kernel_rfl) (by kernel_rfl) (fun _ _ _ h => h) (Or.inl ⟨by rfl, ?hyh3⟩) (by assumption) ?_
        case hyh3 => (intro x' hxx; obtain ⟨e0, e1, e2, e3⟩ := C6.out x' hxx; go_simp; try with_reducible rfl)
        change wpAnyH _ _ _ _ _ _ _ (Act.put _ (some 20) _) _
        simp only [Act.put, List.setIfInBounds_toArray, List.set_cons_zero, List.set_cons_succ]
        refine wpAnyH_take (i := 3) (v := ?vh4) rfl (by kernel_rfl) (by kernel_rfl) (by kernel_rfl) (fun _ _ _ h => h) (Or.inl ⟨by rfl, ?hyh4⟩) (by assumption) ?_
        case hyh4 => (intro x' hxx; obtain ⟨e0, e1, e2, e3⟩ := C6.out x' hxx; go_simp; try with_reducible rfl)
        change wpAnyH _ _ _ _ _ _ _ (Act.put _ (some 21) _) _
        simp only [Act.put, List.setIfInBounds_toArray, List.set_cons_zero, List.set_cons_succ]
        refine wpAnyH_take (i := 4) (v := ?vh5) rfl (by kernel_rfl) (by kernel_rfl) (by kernel_rfl) (fun _ _ _ h => h) (Or.inl ⟨by rfl, ?hyh5⟩) (by assumption) ?_
        case hyh5 => (intro x' hxx; obtain ⟨e0, e1, e2, e3⟩ := C6.out x' hxx; go_simp; try with_reducible rfl)
        change wpAnyH _ _ _ _ _ _ _ (Act.put _ (some 22) _) _
        simp only [Act.put, List.setIfInBounds_toArray, List.set_cons_zero, List.set_cons_succ]
        refine wpAnyH_take (i := 5) (v := ?vh6) rfl (by kernel_rfl) (by kernel_rfl) (by kernel_rfl) (fun _ _ _ h => h) (Or.inl ⟨by rfl, ?hyh6⟩) (by assumption) ?_
        case hyh6 => (intro x' hxx; obtain ⟨e0, e1, e2, e3⟩ := C6.out x' hxx; go_simp; try with_reducible rfl)
        change wpAnyH _ _ _ _ _ _ _ (Act.put _ (some 23) _) _
        simp only [Act.put, List.setIfInBounds_toArray, List.set_cons_zero, List.set_cons_succ]
        refine wpAnyH_take (i := 6) (v := ?vh7) rfl (by kernel_rfl) (by kernel_rfl) (by kernel_rfl) (fun _ _ _ h => h) (Or.inl ⟨by rfl, ?hyh7⟩) (by assumption) ?_
        case hyh7 => (intro x' hxx; obtain ⟨e0, e1, e2, e3⟩ := C6.out x' hxx; go_simp; try with_reducible rfl)
        change wpAnyH _ _ _ _ _ _ _ (Act.put _ (some 24) _) _
        simp only [Act.put, List.setIfInBounds_toArray, List.set_cons_zero, List.set_cons_succ]
        refine wpAnyH_take (i := 7) (v := ?vh8) rfl (by kernel_rfl) (by kernel_rfl) (by kernel_rfl) (fun _ _ _ h => h) (Or.inl ⟨by rfl, ?hyh8⟩) (by assumption) ?_
        case hyh8 => (intro x' hxx; obtain ⟨e0, e1, e2, e3⟩ := C6.out x' hxx; go_simp; try with_reducible rfl)
        change wpAnyH _ _ _ _ _ _ _ (Act.put _ (some 25) _) _
        simp only [Act.put, List.setIfInBounds_toArray, List.set_cons_zero, List.set_cons_succ]
        refine wpAnyH_take (i := 8) (v := ?vh9) rfl (by kernel_rfl) (by kernel_rfl) (by kernel_rfl) (fun _ _ _ h => h) (Or.inl ⟨by rfl, ?hyh9⟩) (by assumption) ?_
        case hyh9 => (intro x' hxx; obtain ⟨e0, e1, e2, e3⟩ := C6.out x' hxx; go_simp; try with_reducible rfl)
        change wpAnyH _ _ _ _ _ _ _ (Act.put _ (some 26) _) _
        simp only [Act.put, List.setIfInBounds_toArray, List.set_cons_zero, List.set_cons_succ]
        refine wpAnyH_take (i := 9) (v := ?vh10) rfl (by kernel_rfl) (by kernel_rfl) (by kernel_rfl) (fun _ _ _ h => h) (Or.inl ⟨by rfl, ?hyh10⟩) (by assumption) ?_
        case hyh10 => (intro x' hxx; obtain ⟨e0, e1, e2, e3⟩ := C6.out x' hxx; go_simp; try with_reducible rfl)
        change wpAnyH _ _ _ _ _ _ _ (Act.put _ (some 27) _) _
        simp only [Act.put, List.setIfInBounds_toArray, List.set_cons_zero, List.set_cons_succ]
        refine wpAnyH_ready (rs := [10]) (by kernel_rfl) (by simp) ?_
        refine AllReadyH.cons rfl (fun K hK => ?_) AllReadyH.nil
        go_simp
        refine (HSAME.out wr.drew hH).mono ?_
        rintro e hw10 ⟨rfl, hb⟩
        have hHh10 : Below wr.heap.size wr hw10 := below_then hH hb
        refine hK.out _ _ hHh10 (fun _ => ?_)
        clear hK K hb hH
        refine wpAnyH_done (by kernel_rfl) ?_ _
        refine NoPanic.normal ?_
        have HE6 := Lib.hid hHh10
        clear hHh10 C6
        cases eq with
        | false =>
          have hj2 : ∀ j, 1 ≤ j → j < k' + 1 + 1 → eqP (P.getD j default) (P.getD (j - 1) default) = false := fun j h1 h2 => by
            by_cases e : j = k' + 1
            · subst e; exact HEQ.out.symm
            · exact HJ.out j h1 (by omega)
          have HJ2 := Lib.hid hj2
          clear hj2
          go_wp2_with fail
          go_roundg (n - (k' + 1 + 1))
          case measure => rw [HG.out]; omega
          case rel => exact ⟨k' + 1 + 1, by omega, by omega, rfl, by simp, below_then HBR.out HE6.out, HJ2.out⟩
        | true =>
          have hb2 := Lib.hid (below_then HBR.out HE6.out)
          go_upto_region 8 with fail
          obtain ⟨m, hm⟩ : ∃ m, m = n - (k' + 1) := ⟨_, rfl⟩
          rw [← hm]
          have hmn : n = k' + 1 + m := by omega
          have hm1 : 1 ≤ m := by omega
          have hct : compTo P (k' + 1 + 1) = P.take (k' + 1) := by
            rw [compTo_no (by omega) HEQ.out.symm, compTo_take (by rw [← HN.out]; omega) HJ.out]
          have hctl : (compTo P (k' + 1 + 1)).length = k' + 1 := by rw [hct, List.length_take, ← HN.out]; omega
          have hctg : ∀ j, j < k' + 1 → P.getD j default = (compTo P (k' + 1 + 1)).getD j default := fun j hj => by
            rw [hct, List.getD_eq_getElem?_getD, List.getD_eq_getElem?_getD, List.getElem?_take_of_lt hj]
          have HCL := Lib.hid hctl
          have HCG := Lib.hid hctg
          have HMN := Lib.hid hmn
          have hcapk : k' + 1 ≤ cap := by omega
          clear hm hct hctl hctg hmn HEQ HSAME
          go_wp2_with fail
          go_loopg [5, 7] (m - 1) (fun gg s5 s7 wr => ∃ (q k3 : Nat) (Q : List FinP), k3 + 1 ≤ m ∧ Hid (gg = m - (k3 + 1)) ∧ s5 = .int .i64 q ∧ s7 = .int .i64 (k3 + 1 : Nat) ∧ q ≤ k' + 1 + k3 ∧ Hid (wr.ownsRow B 103 2 (.slice (some ⟨g, 0, none⟩) n cap) n (cellsP Q)) ∧ Hid (Q.length = n) ∧ Hid (∀ p ∈ Q, p ∈ P) ∧ Hid (Since (fun k => k = g) w wr) ∧ Hid ((compTo P (k' + 1 + (k3 + 1))).length = q) ∧ Hid (∀ j, j < q → Q.getD j default = (compTo P (k' + 1 + (k3 + 1))).getD j default) ∧ Hid (∀ j, k' + 1 + k3 ≤ j → j < n → Q.getD j default = P.getD j default))
          case atStart => exact ⟨k' + 1, 0, P, by omega, rfl, by simp, rfl, by omega, row_below HROW.out hb2.out, HN.out.symm, fun p hp => hp, since_of _ hb2.out, HCL.out, HCG.out, fun j _ _ => rfl⟩
          case round =>
            obtain ⟨q, k3, Q, hk3, HG2, rfl, rfl, hq, HRQ, HQL, HQP, HSW, HDL, HDG, HDR⟩ := hrel
            by_cases hlt2 : k3 + 1 < m
            · have ha : k' + 1 + (k3 + 1) < n := by have := HMN.out; omega
              obtain ⟨ma', ml', mc', ra', rl', rc', e1, x0, x1, hf1, hw1⟩ := HCELL.out wr Q (k' + 1 + (k3 + 1)) HRQ.out HQL.out HQP.out ha HSW.out
              obtain ⟨mb', ml2', mc2', rb', rl2', rc2', e2, y0, y1, hf2, hw2⟩ := HCELL.out wr Q (k' + 1 + k3) HRQ.out HQL.out HQP.out (by omega) HSW.out
              obtain ⟨hz0, hz1⟩ : (wr.cell? ⟨g, q * 2, none⟩).isSome = true ∧ (wr.cell? ⟨g, q * 2 + 1, none⟩).isSome = true := by
                obtain ⟨_, _, _, _, _, _, -, z0, z1, -⟩ := HCELL.out wr Q q HRQ.out HQL.out HQP.out (by omega) HSW.out
                rw [z0, z1]; exact ⟨rfl, rfl⟩
              obtain ⟨cur0, hcur0, -, -⟩ := row_blk HRQ.out
              have hpa := HDR.out (k' + 1 + (k3 + 1)) (by omega) ha
              have hpb := HDR.out (k' + 1 + k3) (by omega) (by omega)
              have hsame := fun y (hy : Below wr.heap.size wr y) => sameP_any y _ _ _ _ _ _ (hf1.below hy) (hf2.below hy) hw1 hw2 (Q.getD (k' + 1 + (k3 + 1)) default).2 (Q.getD (k' + 1 + k3) default).2
              obtain ⟨eq, heq⟩ : ∃ q, q = eqP (P.getD (k' + 1 + (k3 + 1)) default) (P.getD (k' + 1 + k3) default) := ⟨_, rfl⟩
              have hsame2 : ∀ y, Below wr.heap.size wr y → Calls Try.prog 50 #[.agg #[.slice ma' ml' mc', .slice ra' rl' rc'], .agg #[.slice mb' ml2' mc2', .slice rb' rl2' rc2']] y fun e w' => e = .returned (.bool eq) ∧ Below y.heap.size y w' := fun y hy => by
                rw [heq, ← hpa, ← hpb]; exact hsame y hy
              have HSAME2 := Lib.hid hsame2
              have HEQ2 := Lib.hid heq
              have HPA := Lib.hid hpa
              have HE1 := Lib.hid e1
              have hidx1 : (k' + 1) * 2 + (k3 + 1) * 2 = (k' + 1 + (k3 + 1)) * 2 := by omega
              have hidx2 : (k' + 1) * 2 + k3 * 2 = (k' + 1 + k3) * 2 := by omega
              have C11 : Hid (∀ y, Below wr.heap.size wr y → y.cell? ⟨g, (k' + 1) * 2 + (k3 + 1) * 2, none⟩ = some (.slice ma' ml' mc') ∧ y.cell? ⟨g, (k' + 1) * 2 + (k3 + 1) * 2 + 1, none⟩ = some (.slice ra' rl' rc') ∧ y.cell? ⟨g, (k' + 1) * 2 + k3 * 2, none⟩ = some (.slice mb' ml2' mc2') ∧ y.cell? ⟨g, (k' + 1) * 2 + k3 * 2 + 1, none⟩ = some (.slice rb' rl2' rc2')) := fun y hy => by
                rw [hidx1, hidx2]
                exact ⟨cells_kept hy _ _ x0, cells_kept hy _ _ x1, cells_kept hy _ _ y0, cells_kept hy _ _ y1⟩
              have HZ : Hid (∀ y, Below wr.heap.size wr y → (∃ u, y.cell? ⟨g, q * 2, none⟩ = some u) ∧ (∃ u, y.cell? ⟨g, q * 2 + 1, none⟩ = some u) ∧ y.frozen? ⟨g, q * 2, none⟩ = false ∧ y.frozen? ⟨g, q * 2 + 1, none⟩ = false) := fun y hy => by
                obtain ⟨u0, hu0⟩ := Option.isSome_iff_exists.1 hz0
                obtain ⟨u1, hu1⟩ := Option.isSome_iff_exists.1 hz1
                have hb := (hy.block _ (lt_of_block hcur0)).trans hcur0
                exact ⟨⟨u0, cells_kept hy _ _ hu0⟩, ⟨u1, cells_kept hy _ _ hu1⟩, free_of_block hb _, free_of_block hb _⟩
              have C11b := C11
              clear hsame hsame2 heq hf1 hf2 hw1 hw2 e1 e2 x0 x1 y0 y1 hidx1 hidx2 hpa hpb hz0 hz1 hcur0
              have i0 : (0 : Int) ≤ (k3 : Int) + 1 := by omega
              have i1 : ((k3 : Int) + 1) < (m : Int) := by omega
              have i2 : (k3 : Int) < (m : Int) := by omega
              have i3 := wrap_nat k3 (by omega)
              have i4 : (q : Int) < (n : Int) := by omega
              go_upto_region 11 with fail
              refine wp_region_noPanic ?_
              refine wp_region_held_drew (S := fun x => Below wr.heap.size wr x) (by kernel_rfl) (Below.refl _ _).drew (fun hH => ?_)
              refine wpAnyH_take (i := 0) (v := ?vk1) rfl (by kernel_rfl) (by kernel_rfl) (by kernel_rfl) (fun _ _ _ h => h) (Or.inl ⟨by rfl, ?hyk1⟩) (by assumption) ?_
              case hyk1 => (intro x' hxx; obtain ⟨e0, e1, e2, e3⟩ := C11.out x' hxx; go_simp; try with_reducible rfl)
              change wpAnyH _ _ _ _ _ _ _ (Act.put _ (some 38) _) _
              simp only [Act.put, List.setIfInBounds_toArray, List.set_cons_zero, List.set_cons_succ]
              refine wpAnyH_take (i := 1) (v := ?vk2) rfl (by kernel_rfl) (by kernel_rfl) (by kernel_rfl) (fun _ _ _ h => h) (Or.inl ⟨by rfl, ?hyk2⟩) (by assumption) ?_
              case hyk2 => (intro x' hxx; obtain ⟨e0, e1, e2, e3⟩ := C11.out x' hxx; go_simp; try with_reducible rfl)
              change wpAnyH _ _ _ _ _ _ _ (Act.put _ (some 39) _) _
              simp only [Act.put, List.setIfInBounds_toArray, List.set_cons_zero, List.set_cons_succ]
              refine wpAnyH_take (i := 2) (v := ?vk3) rfl (by kernel_rfl) (by kernel_rfl) (by kernel_rfl) (fun _ _ _ h => h) (Or.inl ⟨by rfl, ?hyk3⟩) (by assumption) ?_
              case hyk3 => (intro x' hxx; obtain ⟨e0, e1, e2, e3⟩ := C11.out x' hxx; go_simp; try with_reducible rfl)
              change wpAnyH _ _ _ _ _ _ _ (Act.put _ (some 40) _) _
              simp only [Act.put, List.setIfInBounds_toArray, List.set_cons_zero, List.set_cons_succ]
              refine wpAnyH_take (i := 3) (v := ?vk4) rfl (by kernel_rfl) (by kernel_rfl) (by kernel_rfl) (fun _ _ _ h => h) (Or.inl ⟨by rfl, ?hyk4⟩) (by assumption) ?_
              case hyk4 => (intro x' hxx; obtain ⟨e0, e1, e2, e3⟩ := C11.out x' hxx; go_simp; try with_reducible rfl)
              change wpAnyH _ _ _ _ _ _ _ (Act.put _ (some 41) _) _
              simp only [Act.put, List.setIfInBounds_toArray, List.set_cons_zero, List.set_cons_succ]
              refine wpAnyH_take (i := 4) (v := ?vk5) rfl (by kernel_rfl) (by kernel_rfl) (by kernel_rfl) (fun _ _ _ h => h) (Or.inl ⟨by rfl, ?hyk5⟩) (by assumption) ?_
              case hyk5 => (intro x' hxx; obtain ⟨e0, e1, e2, e3⟩ := C11.out x' hxx; go_simp; try with_reducible rfl)
              change wpAnyH _ _ _ _ _ _ _ (Act.put _ (some 42) _) _
              simp only [Act.put, List.setIfInBounds_toArray, List.set_cons_zero, List.set_cons_succ]
              refine wpAnyH_take (i := 5) (v := ?vk6) rfl (by kernel_rfl) (by kernel_rfl) (by kernel_rfl) (fun _ _ _ h => h) (Or.inl ⟨by rfl, ?hyk6⟩) (by assumption) ?_
              case hyk6 => (intro x' hxx; obtain ⟨e0, e1, e2, e3⟩ := C11.out x' hxx; go_simp; try with_reducible rfl)
              change wpAnyH _ _ _ _ _ _ _ (Act.put _ (some 43) _) _
              simp only [Act.put, List.setIfInBounds_toArray, List.set_cons_zero, List.set_cons_succ]
              refine wpAnyH_take (i := 6) (v := ?vk7) rfl (by kernel_rfl) (by kernel_rfl) (by kernel_rfl) (fun _ _ _ h => h) (Or.inl ⟨by rfl, ?hyk7⟩) (by assumption) ?_
              case hyk7 => (intro x' hxx; obtain ⟨e0, e1, e2, e3⟩ := C11.out x' hxx; go_simp; try with_reducible rfl)
              change wpAnyH _ _ _ _ _ _ _ (Act.put _ (some 44) _) _
              simp only [Act.put, List.setIfInBounds_toArray, List.set_cons_zero, List.set_cons_succ]
              refine wpAnyH_take (i := 7) (v := ?vk8) rfl (by kernel_rfl) (by kernel_rfl) (by kernel_rfl) (fun _ _ _ h => h) (Or.inl ⟨by rfl, ?hyk8⟩) (by assumption) ?_
              case hyk8 => (intro x' hxx; obtain ⟨e0, e1, e2, e3⟩ := C11.out x' hxx; go_simp; try with_reducible rfl)
              change wpAnyH _ _ _ _ _ _ _ (Act.put _ (some 45) _) _
              simp only [Act.put, List.setIfInBounds_toArray, List.set_cons_zero, List.set_cons_succ]
              refine wpAnyH_take (i := 8) (v := ?vk9) rfl (by kernel_rfl) (by kernel_rfl) (by kernel_rfl) (fun _ _ _ h => h) (Or.inl ⟨by rfl, ?hyk9⟩) (by assumption) ?_
              case hyk9 => (intro x' hxx; obtain ⟨e0, e1, e2, e3⟩ := C11.out x' hxx; go_simp; try with_reducible rfl)
              change wpAnyH _ _ _ _ _ _ _ (Act.put _ (some 46) _) _
              simp only [Act.put, List.setIfInBounds_toArray, List.set_cons_zero, List.set_cons_succ]
              refine wpAnyH_take (i := 9) (v := ?vk10) rfl (by kernel_rfl) (by kernel_rfl) (by kernel_rfl) (fun _ _ _ h => h) (Or.inl ⟨by rfl, ?hyk10⟩) (by assumption) ?_
              case hyk10 => (intro x' hxx; obtain ⟨e0, e1, e2, e3⟩ := C11.out x' hxx; go_simp; try with_reducible rfl)
              change wpAnyH _ _ _ _ _ _ _ (Act.put _ (some 47) _) _
              simp only [Act.put, List.setIfInBounds_toArray, List.set_cons_zero, List.set_cons_succ]
              refine wpAnyH_ready (rs := [10]) (by kernel_rfl) (by simp) ?_
              refine AllReadyH.cons rfl (fun K hK => ?_) AllReadyH.nil
              go_simp
              refine (HSAME2.out wr.drew hH).mono ?_
              rintro e kw10 ⟨rfl, hb⟩
              have hHk10 : Below wr.heap.size wr kw10 := below_then hH hb
              refine hK.out _ _ hHk10 (fun _ => ?_)
              clear hK K hb hH
              refine wpAnyH_take (i := 11) (v := ?vk11) rfl (by kernel_rfl) (by kernel_rfl) (by kernel_rfl) (fun _ _ _ h => h) (Or.inl ⟨by rfl, ?hyk11⟩) (by assumption) ?_
              case hyk11 => (intro x' hxx; obtain ⟨e0, e1, e2, e3⟩ := C11.out x' hxx; go_simp; try with_reducible rfl)
              change wpAnyH _ _ _ _ _ _ _ (Act.put _ (some 49) _) _
              simp only [Act.put, List.setIfInBounds_toArray, List.set_cons_zero, List.set_cons_succ]
              refine wpAnyH_done (by kernel_rfl) ?_ _
              refine NoPanic.normal ?_
              have HE11 := Lib.hid hHk10
              clear hHk10 C11
              have HSW2 := Lib.hid (HSW.out.trans (since_of (fun k => k = g) HE11.out) (fun _ h => .inl h))
              have HRQ2 := Lib.hid (row_below HRQ.out HE11.out)
              cases eq with
              | true =>
                have hcn : compTo P (k' + 1 + (k3 + 1 + 1)) = compTo P (k' + 1 + (k3 + 1)) := by
                  rw [show k' + 1 + (k3 + 1 + 1) = (k' + 1 + (k3 + 1)) + 1 by omega]
                  exact compTo_no (by omega) (by rw [show k' + 1 + (k3 + 1) - 1 = k' + 1 + k3 by omega]; exact HEQ2.out.symm)
                have HCN := Lib.hid hcn
                clear hcn
                go_wp2_with fail
                go_roundg (m - (k3 + 1 + 1))
                case measure => rw [HG2.out]; omega
                case rel => exact ⟨q, k3 + 1, Q, by omega, rfl, rfl, by simp, by omega, HRQ2.out, HQL.out, HQP.out, HSW2.out, by rw [Hid, HCN.out]; exact HDL.out, by rw [Hid, HCN.out]; exact HDG.out, fun j h1 h2 => HDR.out j (by omega) h2⟩
              | false =>
                have hcn : compTo P (k' + 1 + (k3 + 1 + 1)) = compTo P (k' + 1 + (k3 + 1)) ++ [P.getD (k' + 1 + (k3 + 1)) default] := by
                  rw [show k' + 1 + (k3 + 1 + 1) = (k' + 1 + (k3 + 1)) + 1 by omega]
                  exact compTo_yes (by rw [show k' + 1 + (k3 + 1) - 1 = k' + 1 + k3 by omega]; exact HEQ2.out.symm)
                have HCN := Lib.hid hcn
                clear hcn
                obtain ⟨x0, x1, -, -⟩ := C11b.out kw10 HE11.out
                obtain ⟨⟨u0, z0⟩, ⟨u1, z1⟩, z2, z3⟩ := HZ.out kw10 HE11.out
                go_wp2_with fail
                clear x0 x1 z0 z1 z2 z3
                have hset := own_set (j := q * 2 + 1) (own_set (j := q * 2) HRQ2.out (.slice ma' ml' mc')) (.slice ra' rl' rc')
                have hpe : Q.getD (k' + 1 + (k3 + 1)) default = ((Q.getD (k' + 1 + (k3 + 1)) default).1, [.slice ma' ml' mc', .slice ra' rl' rc']) := by rw [← HE1.out]
                have hqset : (Q.set q (Q.getD (k' + 1 + (k3 + 1)) default)) = Q.set q ((Q.getD (k' + 1 + (k3 + 1)) default).1, [.slice ma' ml' mc', .slice ra' rl' rc']) := by rw [← hpe]
                rw [← cellsP_set (f := (Q.getD (k' + 1 + (k3 + 1)) default).1) (fun p hp => H2.out p (HQP.out p hp)) (by rw [HQL.out]; omega), ← hqset] at hset
                have hS2 : Since (fun k => k = g) w ((kw10.setCell ⟨g, q * 2, none⟩ (.slice ma' ml' mc')).setCell ⟨g, q * 2 + 1, none⟩ (.slice ra' rl' rc')) := (HSW2.out.setCell (p := ⟨g, q * 2, none⟩) (.inl rfl) _).setCell (p := ⟨g, q * 2 + 1, none⟩) (.inl rfl) _
                have HSET := Lib.hid hset
                have HS2 := Lib.hid hS2
                have hgl : ∀ j, j < n → (Q.set q (Q.getD (k' + 1 + (k3 + 1)) default)).getD j default = if j = q then Q.getD (k' + 1 + (k3 + 1)) default else Q.getD j default := fun j hj => getD_set (by rw [HQL.out]; exact hj)
                have HGL := Lib.hid hgl
                clear hset hS2 hgl hpe hqset
                go_roundg (m - (k3 + 1 + 1))
                case measure => rw [HG2.out]; omega
                case rel => exact ⟨q + 1, k3 + 1, Q.set q (Q.getD (k' + 1 + (k3 + 1)) default), by omega, rfl, by simp, by simp, by omega, HSET.out, by rw [Hid, List.length_set]; exact HQL.out, fun p hp => by
                    rcases List.mem_or_eq_of_mem_set hp with h | h
                    · exact HQP.out p h
                    · rw [h]; exact HQP.out _ (getD_mem (by rw [HQL.out]; omega)), HS2.out, by rw [Hid, HCN.out, List.length_append, HDL.out]; rfl, fun j hj => by
                    rw [HCN.out, HGL.out j (by omega)]
                    by_cases e : j = q
                    · subst e
                      rw [if_pos rfl, HPA.out]
                      have := getD_snoc_eq (l := compTo P (k' + 1 + (k3 + 1))) (x := P.getD (k' + 1 + (k3 + 1)) default) (d := default)
                      rw [HDL.out] at this
                      exact this.symm
                    · rw [if_neg e, getD_snoc_lt (by rw [HDL.out]; omega)]
                      exact HDG.out j (by omega), fun j h1 h2 => by rw [HGL.out j h2, if_neg (by omega)]; exact HDR.out j (by omega) h2⟩
            · obtain rfl : m = k3 + 1 := by omega
              have hqn : q < n := by have := HMN.out; omega
              have hqI : (q : Int) ≤ (n : Int) := by omega
              have hRq : R = compTo P (k' + 1 + (k3 + 1)) := by rw [HR.out]; rw [← HMN.out]
              obtain ⟨cur, hcb, hcs, hcur⟩ := row_blk HRQ.out
              have HCB := Lib.hid hcb
              have HCS := Lib.hid hcs
              have HCUR := Lib.hid hcur
              have HRQ3 := Lib.hid hRq
              have hqc : q ≤ cap := by omega
              clear hcb hcs hcur hRq
              go_upto_region 15 with (refine wpList_clear _ rfl (.tmp 61) 102 rfl 103 (.agg #[.slice none 0 0, .slice none 0 0]) Try.underlying102 one_zero (by simp [Value.cells, Value.oneCell']) g (q * 2) (n - q) (cap - q) (by first | rfl | simp) (by omega) cur 103 HCB.out (by have := HCS.out; simp only [Value.cells]; simp; omega) ?_; intro w5 cur5 f1 f2 f3 f4; have HC5 := Lib.hid f1; have HK5 := Lib.hid f3; have HS5 := Lib.hid (HSW.out.trans f4 (fun _ h => .inl h)); clear f1 f2 f3 f4)
              go_wp2_with fail
              go_ret
              have hlr : R.length = q := by rw [HRQ3.out]; exact HDL.out
              refine HEND.out _ _ ⟨some ⟨g, 0, none⟩, cap, by rw [hlr]; first | rfl | simp, ?_⟩ HS5.out
              rw [hlr]
              refine sliceP (w := w) HC5.out (fun p hp => HOK.out p ?_) HS5.out hlr.symm (by omega) (fun j i hj hi => ?_)
              · rw [HRQ3.out] at hp; exact compTo_mem (by have := HMN.out; have := HN.out; omega) hp
              · rw [hlr] at hj
                rw [HK5.out _ (by omega), HCUR.out _ (by omega), cellsP_at (fun p hp => H2.out p (HQP.out p hp)) (by rw [HQL.out]; omega) hi, HDG.out j hj, HRQ3.out]
      · obtain rfl : k = n := by omega
        have hRP : R = P := by rw [HR.out, compTo_take (by rw [← HN.out]; exact Nat.le_refl _) HJ.out, HN.out, List.take_length]
        have HRP := Lib.hid hRP
        clear hRP
        go_wp2_with fail
        go_ret
        obtain ⟨cur, hb, hcs, hcur⟩ := row_blk (row_below HROW.out HBR.out)
        have hlp : R.length = k := by rw [HRP.out]; exact HN.out.symm
        refine HEND.out _ _ ⟨some ⟨g, 0, none⟩, cap, by rw [hlp]; first | rfl | simp, ?_⟩ (since_of _ HBR.out)
        rw [hlp, HRP.out]
        exact sliceP (w := w) hb HOK.out (since_of _ HBR.out) HN.out (by have := HN.out; omega) (fun j i hj hi => by rw [hcur _ (by have := HN.out; omega), cellsP_at H2.out hj hi])
end Go.Proofs.Ytnlkbboghcdpnaa
