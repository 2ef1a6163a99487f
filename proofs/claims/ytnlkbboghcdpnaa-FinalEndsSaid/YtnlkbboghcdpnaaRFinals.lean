/- What is there in the end, of states; are two lists the same: the document's answer: the walks. -/
import Derived.Test.YtnlkbboghcdpnaaRAdd
import Derived.Test.YtnlkbboghcdpnaaEndedR
namespace Go.Proofs.Ytnlkbboghcdpnaa
open Go.RowKit

theorem finalsTo_mem {c : CodeD} {l : List StateD} {i : Nat} {x : FinalD} (h : x ∈ finalsTo c l i) : ∃ s ∈ l, x = ofS s := by
  have key : ∀ (k : List StateD) (out : List FinalD), (∀ x ∈ out, ∃ s ∈ l, x = ofS s) → (∀ s ∈ k, s ∈ l) → ∀ x ∈ k.foldl (fun out s => if endedS c s then addF out (ofS s) else out) out, ∃ s ∈ l, x = ofS s := by
    intro k
    induction k with
    | nil => intro out h1 _ x hx; exact h1 x hx
    | cons s k ih =>
      intro out h1 h2
      refine ih _ (fun x hx => ?_) (fun t ht => h2 t (List.mem_cons_of_mem _ ht))
      dsimp only at hx
      split at hx
      · rcases addF_mem hx with rfl | hx
        · exact ⟨s, h2 s (List.mem_cons_self ..), rfl⟩
        · exact h1 x hx
      · exact h1 x hx
  exact key (l.take i) [] (fun x hx => by cases hx) (fun s hs => List.mem_of_mem_take hs) x h
theorem addF_len (l : List FinalD) (f : FinalD) : (addF l f).length ≤ l.length + 1 := by
  induction l with
  | nil => simp [addF]
  | cons x l ih =>
    unfold addF
    split
    · simp
    · split
      · simp
      · simp; exact ih
theorem finalsTo_len (c : CodeD) (l : List StateD) : ∀ i, i ≤ l.length → (finalsTo c l i).length ≤ i := by
  intro i
  induction i with
  | zero => intro _; simp [finalsTo]
  | succ i ih =>
    intro hi
    rw [finalsTo_succ (by omega)]
    have := ih (by omega)
    split
    · have := addF_len (finalsTo c l i) (ofS (l.getD i default)); omega
    · omega
/-- Are states' rows short? -/
def fewS (s : StateD) : Prop := s.mem.length ≤ 1000000 ∧ s.threads.length ≤ 1000000
theorem fewS_of {s : StateD} (h : fewS s) : fewD (ofS s) := ⟨h.1, by simp [ofS]; exact h.2⟩
set_option maxRecDepth 100000 in
set_option maxHeartbeats 8000000 in
theorem refFinals_any (w : World) (d : Nat) (c : CodeD) (cv : Value) (hc : RowsAt d w cv c.threads) (l : List StateD) (lv : Value) (hl : StatesAt w lv l) (hfew : ∀ s ∈ l, fewS s) (hn : l.length ≤ 100000) :
    Calls Try.prog 15 #[codeV c cv, lv] w (AddEnd w (finalsS c l)) := by
  obtain ⟨ca, cc, rfl, -⟩ := SliceR.slice hc
  obtain ⟨la, lc, rfl, -⟩ := SliceR.slice hl
  obtain ⟨R, hR⟩ : ∃ R, R = finalsS c l := ⟨_, rfl⟩
  have hR2 : R = finalsTo c l l.length := hR
  rw [← hR]
  have hend := fun W hc s sv mv hs => refEnded_any W d c (.slice ca c.threads.length cc) hc s sv mv hs
  have hst := fun i (hi : i < l.length) => finalsTo_succ (c := c) (l := l) hi
  have hln := fun i (hi : i ≤ l.length) => finalsTo_len c l i hi
  have hfm : ∀ i j, j < (finalsTo c l i).length → fewD ((finalsTo c l i).getD j default) := fun i j hj => by
    obtain ⟨s, hs, e⟩ := finalsTo_mem (getD_mem (x := default) hj)
    rw [e]; exact fewS_of (hfew s hs)
  have hz : finalsTo c l 0 = [] := rfl
  obtain ⟨FT, hFT⟩ : ∃ FT, FT = finalsTo c l := ⟨_, rfl⟩
  obtain ⟨ES, hES⟩ : ∃ ES, ES = endedS c := ⟨_, rfl⟩
  have hES2 : ∀ s, endedS c s = ES s := fun s => by rw [hES]
  rw [← hFT] at hR2 hst hln hfm hz
  simp only [hES2] at hend hst
  unfold codeV at hend ⊢
  generalize c.vars = vars at hend ⊢
  generalize c.domain = dom at hend ⊢
  obtain ⟨n, hnn⟩ : ∃ n, n = l.length := ⟨_, rfl⟩
  obtain ⟨cn, hcn⟩ : ∃ n, n = c.threads.length := ⟨_, rfl⟩
  rw [← hnn] at hl hn hR2 hst hln ⊢
  rw [← hcn] at hc hend ⊢
  have hB := (Below.refl w.heap.size w).alloc (Nat.le_refl _) (.cells #[.int .i64 vars, .int .i64 dom, .slice ca cn cc] 24)
  have H1 := Lib.hid (heap_alloc_new w (.cells #[.int .i64 vars, .int .i64 dom, .slice ca cn cc] 24))
  have HL := Lib.hid (SliceR.below StateR.stays hl hB)
  have HCS := Lib.hid (SliceR.below (RowR.stays d) hc hB)
  have HB := Lib.hid hB
  have HN := Lib.hid hnn
  have HFEW := Lib.hid hfew
  have HR := Lib.hid hR2
  have HEND := Lib.hid hend
  have HST := Lib.hid hst
  have HLN := Lib.hid hln
  have HFM := Lib.hid hfm
  have HZ := Lib.hid hz
  clear hc hl hB hnn hcn hfew hR hR2 hend hst hln hfm hz hFT hES hES2
  go_enter Try.func15, Try.ntmps15
  go_upto_region 1 with fail
  generalize World.alloc w _ = W at HB H1 HL HCS ⊢
  generalize w.heap.size = gx at H1 ⊢
  have HFIN : Hid (∀ x, Below W.heap.size W x → Below w.heap.size w x) := fun x hx => HB.out.trans (hx.mono HB.out.size)
  go_wp2_with fail
  go_loopg [5, 6] n (fun gg s5 s6 wr => ∃ (i : Nat) (oa : Option Addr) (on oc : Nat), i ≤ n ∧ Hid (gg = n - i) ∧ s5 = .slice oa on oc ∧ s6 = .int .i64 i ∧ Hid (FinalsAt wr (.slice oa on oc) (FT i)) ∧ Hid (on = (FT i).length) ∧ Hid (Below W.heap.size W wr))
  case atStart => exact ⟨0, none, 0, 0, Nat.zero_le _, rfl, rfl, rfl, by rw [Hid, HZ.out]; exact SliceR.nil _, by rw [Hid, HZ.out]; rfl, Below.refl _ _⟩
  case round =>
    obtain ⟨i, oa, on, oc, hi, HG, rfl, rfl, HO, HON, HBR⟩ := hrel
    by_cases hlt : i < n
    · have hltI : (i : Int) < (n : Int) := by omega
      obtain ⟨b, off, tv, yv, hea, -, x0, x1, x2, hst⟩ := StatesAt.part HL.out i (by rw [← HN.out]; exact hlt)
      subst hea
      have hfw := HFEW.out (l.getD i default) (getD_mem (by rw [← HN.out]; exact hlt))
      have hs1 := HST.out i hlt
      generalize l.getD i default = s at x2 hst hfw hs1
      obtain ⟨ta, tac, rfl, -⟩ := SliceR.slice hst.threads
      obtain ⟨ya, yac, rfl, -⟩ := SliceR.slice hst.mem
      have hEN := fun y (hy : Below W.heap.size W y) => HEND.out y (SliceR.below (RowR.stays d) HCS.out hy) s _ _ (hst.below hy)
      have hOF := fun y (hy : Below W.heap.size W y) => refOf_any y s _ _ (hst.below hy) hfw.1 hfw.2
      have hfo := fewS_of hfw
      obtain ⟨f, hf⟩ : ∃ f, f = ofS s := ⟨_, rfl⟩
      obtain ⟨en, hen⟩ : ∃ q, q = ES s := ⟨_, rfl⟩
      rw [← hen] at hEN hs1
      rw [← hf] at hOF hs1 hfo
      unfold stateV at hEN hOF
      generalize s.threads.length = n1 at x0 hEN hOF
      generalize s.mem.length = n2 at x1 hEN hOF
      generalize s.bad = bd at x2 hEN hOF
      have HEN := Lib.hid hEN
      have HOF := Lib.hid hOF
      have HS1 := Lib.hid hs1
      have HFO := Lib.hid hfo
      have C5 : Hid (∀ y, Below wr.heap.size wr y → y.cell? ⟨gx, 0, none⟩ = some (.int .i64 vars) ∧ y.cell? ⟨gx, 1, none⟩ = some (.int .i64 dom) ∧ y.cell? ⟨gx, 2, none⟩ = some (.slice ca cn cc) ∧ y.cell? ⟨b, off + i * 3, none⟩ = some (.slice ta n1 tac) ∧ y.cell? ⟨b, off + i * 3 + 1, none⟩ = some (.slice ya n2 yac) ∧ y.cell? ⟨b, off + i * 3 + 2, none⟩ = some (.bool bd)) := fun y hy => by
        have hw := below_then HBR.out hy
        exact ⟨cells_kept hw _ _ (cell_of_block H1.out 0), cells_kept hw _ _ (cell_of_block H1.out 1), cells_kept hw _ _ (cell_of_block H1.out 2), cells_kept hw _ _ x0, cells_kept hw _ _ x1, cells_kept hw _ _ x2⟩
      clear hst hfw hs1 hEN hOF hfo hf hen x0 x1 x2
      go_upto_region 5 with fail
      refine wp_region_noPanic ?_
      refine wp_region_held_drew (S := fun x => Below wr.heap.size wr x) (by kernel_rfl) (Below.refl _ _).drew (fun hH => ?_)
      refine wpAnyH_take (i := 0) (v := ?vh1) rfl (by kernel_rfl) (by kernel_rfl) (by kernel_rfl) (fun _ _ _ h => h) (Or.inl ⟨by rfl, ?hyh1⟩) (by assumption) ?_
      case hyh1 => (intro x' hxx; obtain ⟨e0, e1, e2, e3, e4, e5⟩ := C5.out x' hxx; go_simp; try with_reducible rfl)
      change wpAnyH _ _ _ _ _ _ _ (Act.put _ (some 13) _) _
      simp only [Act.put, List.setIfInBounds_toArray, List.set_cons_zero, List.set_cons_succ]
      refine wpAnyH_take (i := 1) (v := ?vh2) rfl (by kernel_rfl) (by kernel_rfl) (by kernel_rfl) (fun _ _ _ h => h) (Or.inl ⟨by rfl, ?hyh2⟩) (by assumption) ?_
      case hyh2 => (intro x' hxx; obtain ⟨e0, e1, e2, e3, e4, e5⟩ := C5.out x' hxx; go_simp; try with_reducible rfl)
      change wpAnyH _ _ _ _ _ _ _ (Act.put _ (some 14) _) _
      simp only [Act.put, List.setIfInBounds_toArray, List.set_cons_zero, List.set_cons_succ]
      refine wpAnyH_take (i := 2) (v := ?vh3) rfl (by kernel_rfl) (by kernel_rfl) (by kernel_rfl) (fun _ _ _ h => h) (Or.inl ⟨by rfl, ?hyh3⟩) (by assumption) ?_
      case hyh3 => (intro x' hxx; obtain ⟨e0, e1, e2, e3, e4, e5⟩ := C5.out x' hxx; go_simp; try with_reducible rfl)
      change wpAnyH _ _ _ _ _ _ _ (Act.put _ (some 15) _) _
      simp only [Act.put, List.setIfInBounds_toArray, List.set_cons_zero, List.set_cons_succ]
      refine wpAnyH_take (i := 3) (v := ?vh4) rfl (by kernel_rfl) (by kernel_rfl) (by kernel_rfl) (fun _ _ _ h => h) (Or.inl ⟨by rfl, ?hyh4⟩) (by assumption) ?_
      case hyh4 => (intro x' hxx; obtain ⟨e0, e1, e2, e3, e4, e5⟩ := C5.out x' hxx; go_simp; try with_reducible rfl)
      change wpAnyH _ _ _ _ _ _ _ (Act.put _ (some 16) _) _
      simp only [Act.put, List.setIfInBounds_toArray, List.set_cons_zero, List.set_cons_succ]
      refine wpAnyH_take (i := 4) (v := ?vh5) rfl (by kernel_rfl) (by kernel_rfl) (by kernel_rfl) (fun _ _ _ h => h) (Or.inl ⟨by rfl, ?hyh5⟩) (by assumption) ?_
      case hyh5 => (intro x' hxx; obtain ⟨e0, e1, e2, e3, e4, e5⟩ := C5.out x' hxx; go_simp; try with_reducible rfl)
      change wpAnyH _ _ _ _ _ _ _ (Act.put _ (some 17) _) _
      simp only [Act.put, List.setIfInBounds_toArray, List.set_cons_zero, List.set_cons_succ]
      refine wpAnyH_ready (rs := [5]) (by kernel_rfl) (by simp) ?_
      refine AllReadyH.cons rfl (fun K hK => ?_) AllReadyH.nil
      go_simp
      refine (HEN.out wr.drew (below_then HBR.out hH)).mono ?_
      rintro e hw5 ⟨rfl, hb⟩
      have hHh5 : Below wr.heap.size wr hw5 := below_then hH hb
      refine hK.out _ _ hHh5 (fun _ => ?_)
      clear hK K hb hH
      refine wpAnyH_done (by kernel_rfl) ?_ _
      refine NoPanic.normal ?_
      have HE5 := Lib.hid hHh5
      clear hHh5
      cases en with
      | true =>
        have hs2 : FT (i + 1) = addF (FT i) f := by rw [HS1.out, if_pos rfl]
        have HS2 := Lib.hid hs2
        have hol : on ≤ i := by rw [HON.out]; exact HLN.out i hi
        obtain ⟨-, -, -, x0, x1, x2⟩ := C5.out hw5 HE5.out
        have HBE := Lib.hid (below_then HBR.out HE5.out)
        have HO5 := Lib.hid (SliceR.below FinalR.stays HO.out HE5.out)
        have hadd : ∀ y rv' mv', Below hw5.heap.size hw5 y → FinalAt y f mv' rv' → Calls Try.prog 32 #[.slice oa on oc, finalV mv' rv'] y (AddEnd y (FT (i + 1))) := fun y rv' mv' hy hf => by
          rw [hs2]
          exact refAdd_any y (FT i) _ (SliceR.below FinalR.stays HO5.out hy) f mv' rv' hf (fun j hj => HFM.out i j hj) HFO.out (by rw [← HON.out]; omega)
        have HADD := Lib.hid hadd
        clear hs2 hadd
        go_wp2_with (first | (go_at_call 32; go_must (refine (HADD.out w6 _ _ HBF.out HAW.out.now).mono ?_); rintro e w7 ⟨⟨xa, xc, rfl, hx⟩, hb⟩; have HX := Lib.hid hx; have HB7 := Lib.hid hb; clear hx hb) | (go_at_call 33; go_must (refine (HOF.out hw5 HBE.out).mono ?_); rintro e w6 ⟨⟨mv, rv, rfl, haw⟩, hb⟩; have HAW := Lib.hid haw; have HBF := Lib.hid hb; clear haw hb x0 x1 x2))
        go_roundg (n - (i + 1))
        case measure => rw [HG.out]; omega
        case rel => exact ⟨i + 1, xa, _, xc, by omega, rfl, rfl, by simp, HX.out, rfl, below_then (below_then HBE.out HBF.out) HB7.out⟩
      | false =>
        have hs2 : FT (i + 1) = FT i := by rw [HS1.out, if_neg (by simp)]
        have HS2 := Lib.hid hs2
        clear hs2
        go_wp2_with fail
        go_roundg (n - (i + 1))
        case measure => rw [HG.out]; omega
        case rel => exact ⟨i + 1, oa, on, oc, by omega, rfl, rfl, by simp, by rw [Hid, HS2.out]; exact SliceR.below FinalR.stays HO.out HE5.out, by rw [Hid, HS2.out]; exact HON.out, below_then HBR.out HE5.out⟩
    · obtain rfl : n = i := by omega
      go_wp2_with fail
      go_ret
      exact addEnd_of (by rw [HR.out]; exact HON.out) (by rw [HR.out]; exact HO.out) (HFIN.out _ HBR.out)
def sameF (l r : List FinalD) : Bool := decide (l.length = r.length) && (List.range l.length).all fun j => sameOneD (l.getD j default) (r.getD j default) && decide ((l.getD j default).regs.length = (r.getD j default).regs.length)
set_option maxRecDepth 100000 in
set_option maxHeartbeats 8000000 in
theorem refSame_any (w : World) (l r : List FinalD) (lv rv : Value) (hl : FinalsAt w lv l) (hr : FinalsAt w rv r) (hfl : ∀ j, j < l.length → fewD (l.getD j default)) (hfr : ∀ j, j < r.length → fewD (r.getD j default)) :
    Calls Try.prog 13 #[lv, rv] w fun e w' => e = .returned (.bool (sameF l r)) ∧ Below w.heap.size w w' := by
  obtain ⟨la, lc, rfl, hll⟩ := SliceR.slice hl
  obtain ⟨ra, rc, rfl, -⟩ := SliceR.slice hr
  obtain ⟨R, hR⟩ : ∃ R, R = sameF l r := ⟨_, rfl⟩
  obtain ⟨p, hp⟩ : ∃ p : Nat → Bool, p = fun j => sameOneD (l.getD j default) (r.getD j default) && decide ((l.getD j default).regs.length = (r.getD j default).regs.length) := ⟨_, rfl⟩
  have hR2 : R = (decide (l.length = r.length) && (List.range l.length).all p) := by rw [hR, hp]; rfl
  rw [← hR]
  have hp2 : ∀ j, p j = (sameOneD (l.getD j default) (r.getD j default) && decide ((l.getD j default).regs.length = (r.getD j default).regs.length)) := fun j => by rw [hp]
  clear hp
  obtain ⟨n, hnn⟩ : ∃ n, n = l.length := ⟨_, rfl⟩
  obtain ⟨m, hmm⟩ : ∃ n, n = r.length := ⟨_, rfl⟩
  rw [← hnn] at hl hll hR2 hfl ⊢
  rw [← hmm] at hr hR2 hfr ⊢
  have HL := Lib.hid hl
  have HRR := Lib.hid hr
  have HN := Lib.hid hnn
  have HM := Lib.hid hmm
  have HR := Lib.hid hR2
  have HP := Lib.hid hp2
  have HFL := Lib.hid hfl
  have HFR := Lib.hid hfr
  clear hl hr hnn hmm hR hR2 hp2 hfl hfr
  by_cases hnm : n = m
  · subst hnm
    have HR3 : Hid (R = (List.range n).all p) := by rw [Hid, HR.out]; simp
    clear HR
    go_enter Try.func13, Try.ntmps13
    go_wp2_with fail
    go_loopg [5] n (fun gg s5 wr => ∃ i : Nat, i ≤ n ∧ Hid (gg = n - i) ∧ s5 = .int .i64 i ∧ Hid (Below w.heap.size w wr) ∧ Hid (∀ j, j < i → p j = true))
    case atStart => exact ⟨0, Nat.zero_le _, rfl, rfl, Below.refl _ _, fun j hj => by omega⟩
    case round =>
      obtain ⟨i, hi, HG, rfl, HBR, HJ⟩ := hrel
      by_cases hlt : i < n
      · have hltI : (i : Int) < (n : Int) := by omega
        obtain ⟨b, off, ga, gc, ka, kc, hea, -, x0, x1, hfi⟩ := FinalsAt.part HL.out i (by rw [← HN.out]; exact hlt)
        obtain ⟨b2, off2, ga2, gc2, ka2, kc2, heb, -, y0, y1, hfi2⟩ := FinalsAt.part HRR.out i (by rw [← HM.out]; exact hlt)
        subst hea
        subst heb
        have hpi := HP.out i
        have f1 := HFL.out i hlt
        have f2 := HFR.out i hlt
        generalize l.getD i default = g at x0 x1 hfi hpi f1
        generalize r.getD i default = g2 at y0 y1 hfi2 hpi f2
        have hsame := fun y (hy : Below w.heap.size w y) => refSameOne_any y g g2 _ _ _ _ (hfi.below hy) (hfi2.below hy) f1 f2
        obtain ⟨so, hso⟩ : ∃ q, q = sameOneD g g2 := ⟨_, rfl⟩
        rw [← hso] at hsame hpi
        unfold finalV at hsame
        generalize g.mem.length = gm at x0 hsame
        generalize g.regs.length = gr at x1 hsame hpi
        generalize g2.mem.length = gm2 at y0 hsame
        generalize g2.regs.length = gr2 at y1 hsame hpi
        have HSAME := Lib.hid hsame
        have HPI := Lib.hid hpi
        have HNO : Hid (p i = false → R = false) := fun e => by rw [HR3.out, range_no i hlt e]
        have HYES : Hid (p i = true → ∀ j, j < i + 1 → p j = true) := fun e j hj => by
          by_cases he : j = i
          · subst he; exact e
          · exact HJ.out j (by omega)
        have C6 : Hid (∀ y, Below wr.heap.size wr y → y.cell? ⟨b, off + i * 2, none⟩ = some (.slice ga gm gc) ∧ y.cell? ⟨b, off + i * 2 + 1, none⟩ = some (.slice ka gr kc) ∧ y.cell? ⟨b2, off2 + i * 2, none⟩ = some (.slice ga2 gm2 gc2) ∧ y.cell? ⟨b2, off2 + i * 2 + 1, none⟩ = some (.slice ka2 gr2 kc2)) := fun y hy => by
          have hw := below_then HBR.out hy
          exact ⟨cells_kept hw _ _ x0, cells_kept hw _ _ x1, cells_kept hw _ _ y0, cells_kept hw _ _ y1⟩
        clear hsame hpi hfi hfi2 hso x0 x1 y0 y1 f1 f2
        go_upto_region 6 with fail
        cases so with
        | false =>
          obtain rfl := HNO.out (by rw [HPI.out]; rfl)
          refine wp_region_noPanic ?_
          refine wp_region_held_drew (S := fun x => Below wr.heap.size wr x) (by kernel_rfl) (Below.refl _ _).drew (fun hH => ?_)
          refine wpAnyH_take (i := 0) (v := ?vn1) rfl (by kernel_rfl) (by kernel_rfl) (by kernel_rfl) (fun _ _ _ h => h) (Or.inl ⟨by rfl, ?hyn1⟩) (by assumption) ?_
          case hyn1 => (intro x' hxx; obtain ⟨e0, e1, e2, e3⟩ := C6.out x' hxx; go_simp; try with_reducible rfl)
          change wpAnyH _ _ _ _ _ _ _ (Act.put _ (some 17) _) _
          simp only [Act.put, List.setIfInBounds_toArray, List.set_cons_zero, List.set_cons_succ]
          refine wpAnyH_take (i := 1) (v := ?vn2) rfl (by kernel_rfl) (by kernel_rfl) (by kernel_rfl) (fun _ _ _ h => h) (Or.inl ⟨by rfl, ?hyn2⟩) (by assumption) ?_
          case hyn2 => (intro x' hxx; obtain ⟨e0, e1, e2, e3⟩ := C6.out x' hxx; go_simp; try with_reducible rfl)
          change wpAnyH _ _ _ _ _ _ _ (Act.put _ (some 18) _) _
          simp only [Act.put, List.setIfInBounds_toArray, List.set_cons_zero, List.set_cons_succ]
          refine wpAnyH_take (i := 2) (v := ?vn3) rfl (by kernel_rfl) (by kernel_rfl) (by kernel_rfl) (fun _ _ _ h => h) (Or.inl ⟨by rfl, ?hyn3⟩) (by assumption) ?_
          case hyn3 => (intro x' hxx; obtain ⟨e0, e1, e2, e3⟩ := C6.out x' hxx; go_simp; try with_reducible rfl)
          change wpAnyH _ _ _ _ _ _ _ (Act.put _ (some 19) _) _
          simp only [Act.put, List.setIfInBounds_toArray, List.set_cons_zero, List.set_cons_succ]
          refine wpAnyH_take (i := 3) (v := ?vn4) rfl (by kernel_rfl) (by kernel_rfl) (by kernel_rfl) (fun _ _ _ h => h) (Or.inl ⟨by rfl, ?hyn4⟩) (by assumption) ?_
          case hyn4 => (intro x' hxx; obtain ⟨e0, e1, e2, e3⟩ := C6.out x' hxx; go_simp; try with_reducible rfl)
          change wpAnyH _ _ _ _ _ _ _ (Act.put _ (some 20) _) _
          simp only [Act.put, List.setIfInBounds_toArray, List.set_cons_zero, List.set_cons_succ]
          refine wpAnyH_take (i := 4) (v := ?vn5) rfl (by kernel_rfl) (by kernel_rfl) (by kernel_rfl) (fun _ _ _ h => h) (Or.inl ⟨by rfl, ?hyn5⟩) (by assumption) ?_
          case hyn5 => (intro x' hxx; obtain ⟨e0, e1, e2, e3⟩ := C6.out x' hxx; go_simp; try with_reducible rfl)
          change wpAnyH _ _ _ _ _ _ _ (Act.put _ (some 21) _) _
          simp only [Act.put, List.setIfInBounds_toArray, List.set_cons_zero, List.set_cons_succ]
          refine wpAnyH_take (i := 5) (v := ?vn6) rfl (by kernel_rfl) (by kernel_rfl) (by kernel_rfl) (fun _ _ _ h => h) (Or.inl ⟨by rfl, ?hyn6⟩) (by assumption) ?_
          case hyn6 => (intro x' hxx; obtain ⟨e0, e1, e2, e3⟩ := C6.out x' hxx; go_simp; try with_reducible rfl)
          change wpAnyH _ _ _ _ _ _ _ (Act.put _ (some 22) _) _
          simp only [Act.put, List.setIfInBounds_toArray, List.set_cons_zero, List.set_cons_succ]
          refine wpAnyH_take (i := 6) (v := ?vn7) rfl (by kernel_rfl) (by kernel_rfl) (by kernel_rfl) (fun _ _ _ h => h) (Or.inl ⟨by rfl, ?hyn7⟩) (by assumption) ?_
          case hyn7 => (intro x' hxx; obtain ⟨e0, e1, e2, e3⟩ := C6.out x' hxx; go_simp; try with_reducible rfl)
          change wpAnyH _ _ _ _ _ _ _ (Act.put _ (some 23) _) _
          simp only [Act.put, List.setIfInBounds_toArray, List.set_cons_zero, List.set_cons_succ]
          refine wpAnyH_take (i := 7) (v := ?vn8) rfl (by kernel_rfl) (by kernel_rfl) (by kernel_rfl) (fun _ _ _ h => h) (Or.inl ⟨by rfl, ?hyn8⟩) (by assumption) ?_
          case hyn8 => (intro x' hxx; obtain ⟨e0, e1, e2, e3⟩ := C6.out x' hxx; go_simp; try with_reducible rfl)
          change wpAnyH _ _ _ _ _ _ _ (Act.put _ (some 24) _) _
          simp only [Act.put, List.setIfInBounds_toArray, List.set_cons_zero, List.set_cons_succ]
          refine wpAnyH_ready (rs := [8]) (by kernel_rfl) (by simp) ?_
          refine AllReadyH.cons rfl (fun K hK => ?_) AllReadyH.nil
          go_simp
          refine (HSAME.out wr.drew (below_then HBR.out hH)).mono ?_
          rintro e nw8 ⟨rfl, hb⟩
          have hHn8 : Below wr.heap.size wr nw8 := below_then hH hb
          refine hK.out _ _ hHn8 (fun _ => ?_)
          clear hK K hb hH
          refine wpAnyH_take (i := 9) (v := ?vn9) rfl (by kernel_rfl) (by kernel_rfl) (by kernel_rfl) (fun _ _ _ h => h) (Or.inl ⟨by rfl, ?hyn9⟩) (by assumption) ?_
          case hyn9 => (intro x' hxx; obtain ⟨e0, e1, e2, e3⟩ := C6.out x' hxx; go_simp; try with_reducible rfl)
          change wpAnyH _ _ _ _ _ _ _ (Act.put _ (some 26) _) _
          simp only [Act.put, List.setIfInBounds_toArray, List.set_cons_zero, List.set_cons_succ]
          refine wpAnyH_take (i := 10) (v := ?vn10) rfl (by kernel_rfl) (by kernel_rfl) (by kernel_rfl) (fun _ _ _ h => h) (Or.inl ⟨by rfl, ?hyn10⟩) (by assumption) ?_
          case hyn10 => (intro x' hxx; obtain ⟨e0, e1, e2, e3⟩ := C6.out x' hxx; go_simp; try with_reducible rfl)
          change wpAnyH _ _ _ _ _ _ _ (Act.put _ (some 27) _) _
          simp only [Act.put, List.setIfInBounds_toArray, List.set_cons_zero, List.set_cons_succ]
          refine wpAnyH_take (i := 11) (v := undef) rfl (by kernel_rfl) (by kernel_rfl) (by kernel_rfl) (fun _ _ _ h => h) (Or.inr ⟨by rfl, rfl⟩) (by assumption) ?_
          change wpAnyH _ _ _ _ _ _ _ (Act.put _ (some 28) _) _
          simp only [Act.put, List.setIfInBounds_toArray, List.set_cons_zero, List.set_cons_succ]
          refine wpAnyH_take (i := 12) (v := undef) rfl (by kernel_rfl) (by kernel_rfl) (by kernel_rfl) (fun _ _ _ h => h) (Or.inr ⟨by rfl, rfl⟩) (by assumption) ?_
          change wpAnyH _ _ _ _ _ _ _ (Act.put _ (some 29) _) _
          simp only [Act.put, List.setIfInBounds_toArray, List.set_cons_zero, List.set_cons_succ]
          refine wpAnyH_take (i := 13) (v := undef) rfl (by kernel_rfl) (by kernel_rfl) (by kernel_rfl) (fun _ _ _ h => h) (Or.inr ⟨by rfl, rfl⟩) (by assumption) ?_
          change wpAnyH _ _ _ _ _ _ _ (Act.put _ (some 30) _) _
          simp only [Act.put, List.setIfInBounds_toArray, List.set_cons_zero, List.set_cons_succ]
          refine wpAnyH_take (i := 14) (v := undef) rfl (by kernel_rfl) (by kernel_rfl) (by kernel_rfl) (fun _ _ _ h => h) (Or.inr ⟨by rfl, rfl⟩) (by assumption) ?_
          change wpAnyH _ _ _ _ _ _ _ (Act.put _ (some 31) _) _
          simp only [Act.put, List.setIfInBounds_toArray, List.set_cons_zero, List.set_cons_succ]
          refine wpAnyH_take (i := 15) (v := undef) rfl (by kernel_rfl) (by kernel_rfl) (by kernel_rfl) (fun _ _ _ h => h) (Or.inr ⟨by rfl, rfl⟩) (by assumption) ?_
          change wpAnyH _ _ _ _ _ _ _ (Act.put _ (some 32) _) _
          simp only [Act.put, List.setIfInBounds_toArray, List.set_cons_zero, List.set_cons_succ]
          refine wpAnyH_take (i := 16) (v := undef) rfl (by kernel_rfl) (by kernel_rfl) (by kernel_rfl) (fun _ _ _ h => h) (Or.inr ⟨by rfl, rfl⟩) (by assumption) ?_
          change wpAnyH _ _ _ _ _ _ _ (Act.put _ (some 33) _) _
          simp only [Act.put, List.setIfInBounds_toArray, List.set_cons_zero, List.set_cons_succ]
          refine wpAnyH_take (i := 17) (v := undef) rfl (by kernel_rfl) (by kernel_rfl) (by kernel_rfl) (fun _ _ _ h => h) (Or.inr ⟨by rfl, rfl⟩) (by assumption) ?_
          change wpAnyH _ _ _ _ _ _ _ (Act.put _ (some 34) _) _
          simp only [Act.put, List.setIfInBounds_toArray, List.set_cons_zero, List.set_cons_succ]
          refine wpAnyH_take (i := 18) (v := undef) rfl (by kernel_rfl) (by kernel_rfl) (by kernel_rfl) (fun _ _ _ h => h) (Or.inr ⟨by rfl, rfl⟩) (by assumption) ?_
          change wpAnyH _ _ _ _ _ _ _ (Act.put _ (some 35) _) _
          simp only [Act.put, List.setIfInBounds_toArray, List.set_cons_zero, List.set_cons_succ]
          refine wpAnyH_take (i := 19) (v := undef) rfl (by kernel_rfl) (by kernel_rfl) (by kernel_rfl) (fun _ _ _ h => h) (Or.inr ⟨by rfl, rfl⟩) (by assumption) ?_
          change wpAnyH _ _ _ _ _ _ _ (Act.put _ (some 36) _) _
          simp only [Act.put, List.setIfInBounds_toArray, List.set_cons_zero, List.set_cons_succ]
          refine wpAnyH_take (i := 20) (v := undef) rfl (by kernel_rfl) (by kernel_rfl) (by kernel_rfl) (fun _ _ _ h => h) (Or.inr ⟨by rfl, rfl⟩) (by assumption) ?_
          change wpAnyH _ _ _ _ _ _ _ (Act.put _ (some 37) _) _
          simp only [Act.put, List.setIfInBounds_toArray, List.set_cons_zero, List.set_cons_succ]
          refine wpAnyH_take (i := 21) (v := undef) rfl (by kernel_rfl) (by kernel_rfl) (by kernel_rfl) (fun _ _ _ h => h) (Or.inr ⟨by rfl, rfl⟩) (by assumption) ?_
          change wpAnyH _ _ _ _ _ _ _ (Act.put _ (some 38) _) _
          simp only [Act.put, List.setIfInBounds_toArray, List.set_cons_zero, List.set_cons_succ]
          refine wpAnyH_take (i := 22) (v := undef) rfl (by kernel_rfl) (by kernel_rfl) (by kernel_rfl) (fun _ _ _ h => h) (Or.inr ⟨by rfl, rfl⟩) (by assumption) ?_
          change wpAnyH _ _ _ _ _ _ _ (Act.put _ (some 39) _) _
          simp only [Act.put, List.setIfInBounds_toArray, List.set_cons_zero, List.set_cons_succ]
          refine wpAnyH_take (i := 23) (v := undef) rfl (by kernel_rfl) (by kernel_rfl) (by kernel_rfl) (fun _ _ _ h => h) (Or.inr ⟨by rfl, rfl⟩) (by assumption) ?_
          change wpAnyH _ _ _ _ _ _ _ (Act.put _ (some 40) _) _
          simp only [Act.put, List.setIfInBounds_toArray, List.set_cons_zero, List.set_cons_succ]
          refine wpAnyH_take (i := 24) (v := ?vn24) rfl (by kernel_rfl) (by kernel_rfl) (by kernel_rfl) (fun _ _ _ h => h) (Or.inl ⟨by rfl, ?hyn24⟩) (by assumption) ?_
          case hyn24 => (intro x' hxx; obtain ⟨e0, e1, e2, e3⟩ := C6.out x' hxx; go_simp; try with_reducible rfl)
          change wpAnyH _ _ _ _ _ _ _ (Act.put _ (some 41) _) _
          simp only [Act.put, List.setIfInBounds_toArray, List.set_cons_zero, List.set_cons_succ]
          refine wpAnyH_done (by kernel_rfl) ?_ _
          refine NoPanic.normal ?_
          have HE6 := Lib.hid hHn8
          clear hHn8
          go_wp2_with fail
          go_ret
          exact ⟨by first | rfl | simp, below_then HBR.out HE6.out⟩
        | true =>
          refine wp_region_noPanic ?_
          refine wp_region_held_drew (S := fun x => Below wr.heap.size wr x) (by kernel_rfl) (Below.refl _ _).drew (fun hH => ?_)
          refine wpAnyH_take (i := 0) (v := ?vy1) rfl (by kernel_rfl) (by kernel_rfl) (by kernel_rfl) (fun _ _ _ h => h) (Or.inl ⟨by rfl, ?hyy1⟩) (by assumption) ?_
          case hyy1 => (intro x' hxx; obtain ⟨e0, e1, e2, e3⟩ := C6.out x' hxx; go_simp; try with_reducible rfl)
          change wpAnyH _ _ _ _ _ _ _ (Act.put _ (some 17) _) _
          simp only [Act.put, List.setIfInBounds_toArray, List.set_cons_zero, List.set_cons_succ]
          refine wpAnyH_take (i := 1) (v := ?vy2) rfl (by kernel_rfl) (by kernel_rfl) (by kernel_rfl) (fun _ _ _ h => h) (Or.inl ⟨by rfl, ?hyy2⟩) (by assumption) ?_
          case hyy2 => (intro x' hxx; obtain ⟨e0, e1, e2, e3⟩ := C6.out x' hxx; go_simp; try with_reducible rfl)
          change wpAnyH _ _ _ _ _ _ _ (Act.put _ (some 18) _) _
          simp only [Act.put, List.setIfInBounds_toArray, List.set_cons_zero, List.set_cons_succ]
          refine wpAnyH_take (i := 2) (v := ?vy3) rfl (by kernel_rfl) (by kernel_rfl) (by kernel_rfl) (fun _ _ _ h => h) (Or.inl ⟨by rfl, ?hyy3⟩) (by assumption) ?_
          case hyy3 => (intro x' hxx; obtain ⟨e0, e1, e2, e3⟩ := C6.out x' hxx; go_simp; try with_reducible rfl)
          change wpAnyH _ _ _ _ _ _ _ (Act.put _ (some 19) _) _
          simp only [Act.put, List.setIfInBounds_toArray, List.set_cons_zero, List.set_cons_succ]
          refine wpAnyH_take (i := 3) (v := ?vy4) rfl (by kernel_rfl) (by kernel_rfl) (by kernel_rfl) (fun _ _ _ h => h) (Or.inl ⟨by rfl, ?hyy4⟩) (by assumption) ?_
          case hyy4 => (intro x' hxx; obtain ⟨e0, e1, e2, e3⟩ := C6.out x' hxx; go_simp; try with_reducible rfl)
          change wpAnyH _ _ _ _ _ _ _ (Act.put _ (some 20) _) _
          simp only [Act.put, List.setIfInBounds_toArray, List.set_cons_zero, List.set_cons_succ]
          refine wpAnyH_take (i := 4) (v := ?vy5) rfl (by kernel_rfl) (by kernel_rfl) (by kernel_rfl) (fun _ _ _ h => h) (Or.inl ⟨by rfl, ?hyy5⟩) (by assumption) ?_
          case hyy5 => (intro x' hxx; obtain ⟨e0, e1, e2, e3⟩ := C6.out x' hxx; go_simp; try with_reducible rfl)
          change wpAnyH _ _ _ _ _ _ _ (Act.put _ (some 21) _) _
          simp only [Act.put, List.setIfInBounds_toArray, List.set_cons_zero, List.set_cons_succ]
          refine wpAnyH_take (i := 5) (v := ?vy6) rfl (by kernel_rfl) (by kernel_rfl) (by kernel_rfl) (fun _ _ _ h => h) (Or.inl ⟨by rfl, ?hyy6⟩) (by assumption) ?_
          case hyy6 => (intro x' hxx; obtain ⟨e0, e1, e2, e3⟩ := C6.out x' hxx; go_simp; try with_reducible rfl)
          change wpAnyH _ _ _ _ _ _ _ (Act.put _ (some 22) _) _
          simp only [Act.put, List.setIfInBounds_toArray, List.set_cons_zero, List.set_cons_succ]
          refine wpAnyH_take (i := 6) (v := ?vy7) rfl (by kernel_rfl) (by kernel_rfl) (by kernel_rfl) (fun _ _ _ h => h) (Or.inl ⟨by rfl, ?hyy7⟩) (by assumption) ?_
          case hyy7 => (intro x' hxx; obtain ⟨e0, e1, e2, e3⟩ := C6.out x' hxx; go_simp; try with_reducible rfl)
          change wpAnyH _ _ _ _ _ _ _ (Act.put _ (some 23) _) _
          simp only [Act.put, List.setIfInBounds_toArray, List.set_cons_zero, List.set_cons_succ]
          refine wpAnyH_take (i := 7) (v := ?vy8) rfl (by kernel_rfl) (by kernel_rfl) (by kernel_rfl) (fun _ _ _ h => h) (Or.inl ⟨by rfl, ?hyy8⟩) (by assumption) ?_
          case hyy8 => (intro x' hxx; obtain ⟨e0, e1, e2, e3⟩ := C6.out x' hxx; go_simp; try with_reducible rfl)
          change wpAnyH _ _ _ _ _ _ _ (Act.put _ (some 24) _) _
          simp only [Act.put, List.setIfInBounds_toArray, List.set_cons_zero, List.set_cons_succ]
          refine wpAnyH_ready (rs := [8]) (by kernel_rfl) (by simp) ?_
          refine AllReadyH.cons rfl (fun K hK => ?_) AllReadyH.nil
          go_simp
          refine (HSAME.out wr.drew (below_then HBR.out hH)).mono ?_
          rintro e yw8 ⟨rfl, hb⟩
          have hHy8 : Below wr.heap.size wr yw8 := below_then hH hb
          refine hK.out _ _ hHy8 (fun _ => ?_)
          clear hK K hb hH
          refine wpAnyH_take (i := 9) (v := ?vy9) rfl (by kernel_rfl) (by kernel_rfl) (by kernel_rfl) (fun _ _ _ h => h) (Or.inl ⟨by rfl, ?hyy9⟩) (by assumption) ?_
          case hyy9 => (intro x' hxx; obtain ⟨e0, e1, e2, e3⟩ := C6.out x' hxx; go_simp; try with_reducible rfl)
          change wpAnyH _ _ _ _ _ _ _ (Act.put _ (some 26) _) _
          simp only [Act.put, List.setIfInBounds_toArray, List.set_cons_zero, List.set_cons_succ]
          refine wpAnyH_take (i := 10) (v := ?vy10) rfl (by kernel_rfl) (by kernel_rfl) (by kernel_rfl) (fun _ _ _ h => h) (Or.inl ⟨by rfl, ?hyy10⟩) (by assumption) ?_
          case hyy10 => (intro x' hxx; obtain ⟨e0, e1, e2, e3⟩ := C6.out x' hxx; go_simp; try with_reducible rfl)
          change wpAnyH _ _ _ _ _ _ _ (Act.put _ (some 27) _) _
          simp only [Act.put, List.setIfInBounds_toArray, List.set_cons_zero, List.set_cons_succ]
          refine wpAnyH_take (i := 11) (v := ?vy11) rfl (by kernel_rfl) (by kernel_rfl) (by kernel_rfl) (fun _ _ _ h => h) (Or.inl ⟨by rfl, ?hyy11⟩) (by assumption) ?_
          case hyy11 => (intro x' hxx; obtain ⟨e0, e1, e2, e3⟩ := C6.out x' hxx; go_simp; try with_reducible rfl)
          change wpAnyH _ _ _ _ _ _ _ (Act.put _ (some 28) _) _
          simp only [Act.put, List.setIfInBounds_toArray, List.set_cons_zero, List.set_cons_succ]
          refine wpAnyH_take (i := 12) (v := ?vy12) rfl (by kernel_rfl) (by kernel_rfl) (by kernel_rfl) (fun _ _ _ h => h) (Or.inl ⟨by rfl, ?hyy12⟩) (by assumption) ?_
          case hyy12 => (intro x' hxx; obtain ⟨e0, e1, e2, e3⟩ := C6.out x' hxx; go_simp; try with_reducible rfl)
          change wpAnyH _ _ _ _ _ _ _ (Act.put _ (some 29) _) _
          simp only [Act.put, List.setIfInBounds_toArray, List.set_cons_zero, List.set_cons_succ]
          refine wpAnyH_take (i := 13) (v := ?vy13) rfl (by kernel_rfl) (by kernel_rfl) (by kernel_rfl) (fun _ _ _ h => h) (Or.inl ⟨by rfl, ?hyy13⟩) (by assumption) ?_
          case hyy13 => (intro x' hxx; obtain ⟨e0, e1, e2, e3⟩ := C6.out x' hxx; go_simp; try with_reducible rfl)
          change wpAnyH _ _ _ _ _ _ _ (Act.put _ (some 30) _) _
          simp only [Act.put, List.setIfInBounds_toArray, List.set_cons_zero, List.set_cons_succ]
          refine wpAnyH_take (i := 14) (v := ?vy14) rfl (by kernel_rfl) (by kernel_rfl) (by kernel_rfl) (fun _ _ _ h => h) (Or.inl ⟨by rfl, ?hyy14⟩) (by assumption) ?_
          case hyy14 => (intro x' hxx; obtain ⟨e0, e1, e2, e3⟩ := C6.out x' hxx; go_simp; try with_reducible rfl)
          change wpAnyH _ _ _ _ _ _ _ (Act.put _ (some 31) _) _
          simp only [Act.put, List.setIfInBounds_toArray, List.set_cons_zero, List.set_cons_succ]
          refine wpAnyH_take (i := 15) (v := ?vy15) rfl (by kernel_rfl) (by kernel_rfl) (by kernel_rfl) (fun _ _ _ h => h) (Or.inl ⟨by rfl, ?hyy15⟩) (by assumption) ?_
          case hyy15 => (intro x' hxx; obtain ⟨e0, e1, e2, e3⟩ := C6.out x' hxx; go_simp; try with_reducible rfl)
          change wpAnyH _ _ _ _ _ _ _ (Act.put _ (some 32) _) _
          simp only [Act.put, List.setIfInBounds_toArray, List.set_cons_zero, List.set_cons_succ]
          refine wpAnyH_take (i := 16) (v := ?vy16) rfl (by kernel_rfl) (by kernel_rfl) (by kernel_rfl) (fun _ _ _ h => h) (Or.inl ⟨by rfl, ?hyy16⟩) (by assumption) ?_
          case hyy16 => (intro x' hxx; obtain ⟨e0, e1, e2, e3⟩ := C6.out x' hxx; go_simp; try with_reducible rfl)
          change wpAnyH _ _ _ _ _ _ _ (Act.put _ (some 33) _) _
          simp only [Act.put, List.setIfInBounds_toArray, List.set_cons_zero, List.set_cons_succ]
          refine wpAnyH_take (i := 17) (v := ?vy17) rfl (by kernel_rfl) (by kernel_rfl) (by kernel_rfl) (fun _ _ _ h => h) (Or.inl ⟨by rfl, ?hyy17⟩) (by assumption) ?_
          case hyy17 => (intro x' hxx; obtain ⟨e0, e1, e2, e3⟩ := C6.out x' hxx; go_simp; try with_reducible rfl)
          change wpAnyH _ _ _ _ _ _ _ (Act.put _ (some 34) _) _
          simp only [Act.put, List.setIfInBounds_toArray, List.set_cons_zero, List.set_cons_succ]
          refine wpAnyH_take (i := 18) (v := ?vy18) rfl (by kernel_rfl) (by kernel_rfl) (by kernel_rfl) (fun _ _ _ h => h) (Or.inl ⟨by rfl, ?hyy18⟩) (by assumption) ?_
          case hyy18 => (intro x' hxx; obtain ⟨e0, e1, e2, e3⟩ := C6.out x' hxx; go_simp; try with_reducible rfl)
          change wpAnyH _ _ _ _ _ _ _ (Act.put _ (some 35) _) _
          simp only [Act.put, List.setIfInBounds_toArray, List.set_cons_zero, List.set_cons_succ]
          refine wpAnyH_take (i := 19) (v := ?vy19) rfl (by kernel_rfl) (by kernel_rfl) (by kernel_rfl) (fun _ _ _ h => h) (Or.inl ⟨by rfl, ?hyy19⟩) (by assumption) ?_
          case hyy19 => (intro x' hxx; obtain ⟨e0, e1, e2, e3⟩ := C6.out x' hxx; go_simp; try with_reducible rfl)
          change wpAnyH _ _ _ _ _ _ _ (Act.put _ (some 36) _) _
          simp only [Act.put, List.setIfInBounds_toArray, List.set_cons_zero, List.set_cons_succ]
          refine wpAnyH_take (i := 20) (v := ?vy20) rfl (by kernel_rfl) (by kernel_rfl) (by kernel_rfl) (fun _ _ _ h => h) (Or.inl ⟨by rfl, ?hyy20⟩) (by assumption) ?_
          case hyy20 => (intro x' hxx; obtain ⟨e0, e1, e2, e3⟩ := C6.out x' hxx; go_simp; try with_reducible rfl)
          change wpAnyH _ _ _ _ _ _ _ (Act.put _ (some 37) _) _
          simp only [Act.put, List.setIfInBounds_toArray, List.set_cons_zero, List.set_cons_succ]
          refine wpAnyH_take (i := 21) (v := ?vy21) rfl (by kernel_rfl) (by kernel_rfl) (by kernel_rfl) (fun _ _ _ h => h) (Or.inl ⟨by rfl, ?hyy21⟩) (by assumption) ?_
          case hyy21 => (intro x' hxx; obtain ⟨e0, e1, e2, e3⟩ := C6.out x' hxx; go_simp; try with_reducible rfl)
          change wpAnyH _ _ _ _ _ _ _ (Act.put _ (some 38) _) _
          simp only [Act.put, List.setIfInBounds_toArray, List.set_cons_zero, List.set_cons_succ]
          refine wpAnyH_take (i := 22) (v := ?vy22) rfl (by kernel_rfl) (by kernel_rfl) (by kernel_rfl) (fun _ _ _ h => h) (Or.inl ⟨by rfl, ?hyy22⟩) (by assumption) ?_
          case hyy22 => (intro x' hxx; obtain ⟨e0, e1, e2, e3⟩ := C6.out x' hxx; go_simp; try with_reducible rfl)
          change wpAnyH _ _ _ _ _ _ _ (Act.put _ (some 39) _) _
          simp only [Act.put, List.setIfInBounds_toArray, List.set_cons_zero, List.set_cons_succ]
          refine wpAnyH_take (i := 23) (v := ?vy23) rfl (by kernel_rfl) (by kernel_rfl) (by kernel_rfl) (fun _ _ _ h => h) (Or.inl ⟨by rfl, ?hyy23⟩) (by assumption) ?_
          case hyy23 => (intro x' hxx; obtain ⟨e0, e1, e2, e3⟩ := C6.out x' hxx; go_simp; try with_reducible rfl)
          change wpAnyH _ _ _ _ _ _ _ (Act.put _ (some 40) _) _
          simp only [Act.put, List.setIfInBounds_toArray, List.set_cons_zero, List.set_cons_succ]
          refine wpAnyH_take (i := 24) (v := ?vy24) rfl (by kernel_rfl) (by kernel_rfl) (by kernel_rfl) (fun _ _ _ h => h) (Or.inl ⟨by rfl, ?hyy24⟩) (by assumption) ?_
          case hyy24 => (intro x' hxx; obtain ⟨e0, e1, e2, e3⟩ := C6.out x' hxx; go_simp; try with_reducible rfl)
          change wpAnyH _ _ _ _ _ _ _ (Act.put _ (some 41) _) _
          simp only [Act.put, List.setIfInBounds_toArray, List.set_cons_zero, List.set_cons_succ]
          refine wpAnyH_done (by kernel_rfl) ?_ _
          refine NoPanic.normal ?_
          have HE6 := Lib.hid hHy8
          clear hHy8
          by_cases hg : gr = gr2
          · subst hg
            have HY2 := Lib.hid (HYES.out (by rw [HPI.out]; simp))
            go_wp2_with fail
            go_roundg (n - (i + 1))
            case measure => rw [HG.out]; omega
            case rel => exact ⟨i + 1, by omega, rfl, by simp, below_then HBR.out HE6.out, HY2.out⟩
          · obtain rfl := HNO.out (by rw [HPI.out, decide_eq_false hg]; rfl)
            have hg2 : ((gr : Int) == (gr2 : Int)) = false := by simp; omega
            go_wp2_with fail
            go_ret
            exact ⟨by first | rfl | simp, below_then HBR.out HE6.out⟩
      · obtain rfl : n = i := by omega
        obtain rfl : R = true := by rw [HR3.out, range_yes HJ.out]
        go_wp2_with fail
        go_ret
        exact ⟨by first | rfl | simp, HBR.out⟩
  · obtain rfl : R = false := by rw [HR.out, decide_eq_false hnm]; rfl
    have hnm2 : ((n : Int) != (m : Int)) = true := by simp; omega
    go_enter Try.func13, Try.ntmps13
    go_wp2_with fail
    go_ret
    exact ⟨by first | rfl | simp, Below.refl _ _⟩
theorem sameF_self (l : List FinalD) : sameF l l = true := by
  unfold sameF
  simp [sameOne_self]
end Go.Proofs.Ytnlkbboghcdpnaa
