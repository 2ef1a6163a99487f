/- The moves that may be: the document's answer: the walk. Two lists of moves that are the same: the walk. -/
import Derived.Laws.StructEq
import Derived.Test.YtliajkheeniljaaGreatDoorQFits
import Derived.Test.YtliajkheeniljaaGreatDoorQSame7
import Derived.Test.YtliajkheeniljaaGreatDoorQStep
import Derived.Test.YtliajkheeniljaaGreatDoorQStepQ
import Derived.Test.YtliajkheeniljaaGreatDoorQShort
set_option linter.all false
namespace Go.Proofs.YtliajkheeniljaaGreatDoor
open Go.RowKit
set_option maxRecDepth 100000
set_option maxHeartbeats 16000000
theorem boxes3_all (w : World) (o1 o2 o3 : Obj) : Below w.heap.size w (((w.alloc o1).alloc o2).alloc o3) ∧ (((w.alloc o1).alloc o2).alloc o3).heap[w.heap.size]? = some o1 ∧ (((w.alloc o1).alloc o2).alloc o3).heap[w.heap.size + 1]? = some o2 ∧ (((w.alloc o1).alloc o2).alloc o3).heap[w.heap.size + 2]? = some o3 :=
 ⟨boxes3_below w _ _ _, boxes3_first w _ _ _, boxes3_second w _ _ _, boxes3_third w _ _ _⟩
theorem move_len (x : MoveD) : (MoveD.cells x).length = 3 := rfl
theorem move_info : (Tryz.prog.info? 32).map (fun i => (i.zero, i.size, i.bytes)) = some (some (.agg #[.int .i64 0, .int .i64 0, .int .i64 0]), 3, 24) := by kernel_rfl
theorem headsB_len (l : List EntryD) (model : Int) : (headsB l model).length ≤ l.length := by
 unfold headsB
 split
 ·exact headsTo_len _ _
 ·split
  ·cases l <;> simp
  ·simp
theorem movesT_len (c : CodeD) (m : MachD) (s : StateD) (d i : Nat) (h : (s.threads.getD i default).buf.length ≤ 100000) : (movesT c m s d i).length ≤ 100001 := by
 unfold movesT
 have := headsB_len (s.threads.getD i default).buf m.model
 rw [List.length_append, List.length_map]
 split <;> simp only [List.length_cons, List.length_nil] <;> omega
theorem flat_snoc {α : Type} (f : α → List Value) (l : List α) (x : α) : flatC f (l ++ [x]) = flatC f l ++ f x := by simp [flatC]
theorem range_flat {α : Type} (f : Nat → List α) (i : Nat) : (List.range (i + 1)).flatMap f = (List.range i).flatMap f ++ f i := by rw [List.range_succ]; simp
theorem push_row {α : Type} {f : α → List Value} {B : Nat} {e : TypeId} {size : Nat} {w X : World} {a a' : Option Addr} {n m c c' : Nat} {l : List α} {x : α} {o : Obj} (ho : w.ownsRow B e size (.slice a n c) n (flatC f l)) (h1 : X.ownsRow B e size (.slice a' m c') m (flatC f l ++ f x))
  (h4 : Since (fun k => (Value.slice a n c).ownBlock = some k) (w.alloc o) X) {V : World} (hV : Below V.heap.size V w) (hB : V.heap.size ≤ B) : X.ownsRow B e size (.slice a' m c') m (flatC f (l ++ [x])) ∧ Below V.heap.size V X := by
 refine ⟨by rw [flat_snoc]; exact h1, hV.trans ((((Since.refl _ w).alloc o).trans h4 (fun k hk => .inl hk)).below hV.size (fun k hk => Nat.le_trans hB (ho.lt k hk).1))⟩
theorem push_beside {B : Nat} {e : TypeId} {size n : Nat} {w X : World} {v v' hv : Value} {xs : List Value} {o : Obj} (h : w.ownsRow B e size hv n xs) (hne : ∀ k, v.ownBlock = some k → hv.ownBlock ≠ some k) (h4 : Since (fun k => v.ownBlock = some k) (w.alloc o) X)
  (h5 : ∀ k, v'.ownBlock = some k → v.ownBlock = some k ∨ k = (w.alloc o).heap.size) : X.ownsRow B e size hv n xs ∧ ∀ k, v'.ownBlock = some k → hv.ownBlock ≠ some k := by
 refine ⟨h4.row (h.alloc o) (fun k h1 h2 => hne k h2 h1), fun k h1 h2 => ?_⟩
 rcases h5 k h1 with h3 | h3
 ·exact hne k h3 h2
 ·have := (h.lt k h2).2; simp at h3; omega
def MovesEnd (w : World) (l : List MoveD) (e : Ending) (w' : World) : Prop := (∃ va vc, e = .returned (.slice va l.length vc) ∧ w'.ownsRow w.heap.size 32 3 (.slice va l.length vc) l.length (flatC MoveD.cells l)) ∧ Below w.heap.size w w'
theorem movesEnd_of {w w' : World} {l : List MoveD} {va : Option Addr} {vn vc : Nat} (h : l.length = vn) (ho : w'.ownsRow w.heap.size 32 3 (.slice va vn vc) vn (flatC MoveD.cells l)) (hb : Below w.heap.size w w') : MovesEnd w l (.returned (.slice va vn vc)) w' := by
 subst h; exact ⟨⟨va, vc, rfl, ho⟩, hb⟩
theorem moves_any (w : World) (c : CodeD) (cv : Value) (d : Nat) (hc : RowsAt d w cv c.threads) (m : MachD) (s : StateD) (sv mv : Value) (hs : StateAt w s sv mv) (hb : ∀ j, j < s.threads.length → (s.threads.getD j default).buf.length ≤ 100000) :
  Calls Tryz.prog 36 #[codeV c cv, machV m, stateV s sv mv] w (MovesEnd w (movesS c m s d)) := by
 obtain ⟨ca, cc, rfl, -⟩ := SliceR.slice hc
 obtain ⟨ta, tc0, rfl, -⟩ := SliceR.slice hs.threads
 obtain ⟨ma, mc0, rfl, -⟩ := SliceR.slice hs.mem
 obtain ⟨fo, hfo⟩ : ∃ fo, fo = fitsOk c m s := ⟨_, rfl⟩
 obtain ⟨R, hR⟩ : ∃ R, R = movesS c m s d := ⟨_, rfl⟩
 rw [← hR]
 have hfits := fun W hc hs => fits_any W c (.slice ca c.threads.length cc) d hc m s (.slice ta s.threads.length tc0) (.slice ma s.mem.length mc0) hs (fun j hj => by have := hb j hj; omega)
 rw [← hfo] at hfits
 have hstep := fun W hc hs i => fun (hf : fo = true) hi => step_any W c (.slice ca c.threads.length cc) d hc m s (.slice ta s.threads.length tc0) (.slice ma s.mem.length mc0) hs (hfo.symm.trans hf) i hi hb
 have hn4 : fo = true → s.threads.length ≤ 4 := fun e => by
  obtain ⟨h1, -, h2, h3, -⟩ := fits_facts (hfo.symm.trans e)
  have h4 := codeOk_bounds h1
  rw [h2]; exact h4.2.2.2.2.2
 have hmt := fun i (hi : i < s.threads.length) => movesT_len c m s d i (hb i hi)
 have hR2 : R = if fo then (List.range s.threads.length).flatMap (movesT c m s d) else [] := by rw [hR, hfo]; rfl
 have hmT : ∀ i, movesT c m s d i = (if (stepS c m s i d).isSome then [⟨1, i, 0⟩] else []) ++ (headsB (s.threads.getD i default).buf m.model).map fun v => (⟨2, i, v⟩ : MoveD) := fun i => rfl
 obtain ⟨MT, hMT⟩ : ∃ MT, MT = movesT c m s d := ⟨_, rfl⟩
 rw [← hMT] at hR2 hmt hmT
 have hT := hs.threads
 obtain ⟨vars, dom, cs⟩ := c
 obtain ⟨mod, bnd⟩ := m
 obtain ⟨ts, mem, bad⟩ := s
 obtain ⟨SS, hSS⟩ : ∃ SS, SS = fun i => stepS ⟨vars, dom, cs⟩ ⟨mod, bnd⟩ ⟨ts, mem, bad⟩ i d := ⟨_, rfl⟩
 have hSS2 : ∀ i, stepS ⟨vars, dom, cs⟩ ⟨mod, bnd⟩ ⟨ts, mem, bad⟩ i d = SS i := fun i => by rw [hSS]
 simp only [] at hc hs hb hn4 hfits hstep hR2 hmt hT hmT ⊢
 simp only [hSS2] at hstep hmT
 unfold codeV machV stateV
 unfold codeV machV stateV at hfits
 have hstep2 : ∀ W, RowsAt d W (.slice ca cs.length cc) cs → StateAt W ⟨ts, mem, bad⟩ (.slice ta ts.length tc0) (.slice ma mem.length mc0) → ∀ i, fo = true → i < ts.length → Calls Tryz.prog 62 #[.agg #[.int .i64 vars, .int .i64 dom, .slice ca cs.length cc], .agg #[.int .i64 mod, .int .i64 bnd], .agg #[.slice ta ts.length tc0, .slice ma mem.length mc0, .bool bad], .int .i64 i] W fun e w' => (∃ xa xn xc ya yn yc b', e = .returned (.tuple #[.agg #[.slice xa xn xc, .slice ya yn yc, .bool b'], .bool (SS i).isSome])) ∧ Below W.heap.size W w' := fun W h1 h2 i h3 h4 =>
  (hstep W h1 h2 i h3 h4).mono fun e w' ⟨⟨xa, xn, xc, ya, yn, yc, s', he, _⟩, hb⟩ => ⟨⟨xa, xn, xc, ya, yn, yc, s'.bad, he⟩, hb⟩
 clear hstep
 simp only [] at hfits ⊢
 obtain ⟨n, hn⟩ : ∃ n, n = ts.length := ⟨_, rfl⟩
 obtain ⟨cn, hcn⟩ : ∃ cn, cn = cs.length := ⟨_, rfl⟩
 obtain ⟨mn, hmn⟩ : ∃ mn, mn = mem.length := ⟨_, rfl⟩
 rw [← hn] at hs hT hb hfits hstep2 hn4 hR2 hmt ⊢
 rw [← hmn] at hs hfits hstep2 ⊢
 rw [← hcn] at hc hfits hstep2 ⊢
 obtain ⟨hB, h1, h2, h3⟩ := boxes3_all w (.cells #[.int .i64 vars, .int .i64 dom, .slice ca cn cc] 24) (.cells #[.int .i64 mod, .int .i64 bnd] 26) (.cells #[.slice ta n tc0, .slice ma mn mc0, .bool bad] 30)
 have HB := qh hB
 have H1 := qh h1
 have H2 := qh h2
 have H3 := qh h3
 have HCS := qh (SliceR.below (RowR.stays d) hc hB)
 have HSW := qh (StateAt.below hs hB)
 have HT := qh (SliceR.below ThreadR.stays hT hB)
 have HN := qh hn
 have HBU := qh hb
 have HFITS := qh hfits
 have HSTEP := qh hstep2
 have HN4 := qh hn4
 have HMT := qh hmt
 have HMTT := qh hmT
 have HRR := qh hR2
 clear hn hcn hmn hb hfits hstep2 hn4 hR2 hfo hB h1 h2 h3 hT hc hs hR hMT hSS hSS2 hmt hmT
 go_enter Tryz.func36, Tryz.ntmps36
 go_upto_region 1 with fail
 generalize World.alloc (World.alloc (World.alloc w _) _) _ = W at HB H1 H2 H3 HCS HSW HT ⊢
 obtain ⟨gx, hgx⟩ : ∃ gx, gx = w.heap.size := ⟨_, rfl⟩
 rw [← hgx] at H1 H2 H3 ⊢
 have HGX : Hid (w.heap.size ≤ W.heap.size) := HB.out.size
 clear hgx
 have HCC : Hid (∀ y, Below W.heap.size W y → y.cell? ⟨gx, 0, none⟩ = some (.int .i64 vars) ∧ y.cell? ⟨gx, 1, none⟩ = some (.int .i64 dom) ∧ y.cell? ⟨gx, 2, none⟩ = some (.slice ca cn cc) ∧
   y.cell? ⟨gx + 1, 0, none⟩ = some (.int .i64 mod) ∧ y.cell? ⟨gx + 1, 1, none⟩ = some (.int .i64 bnd) ∧ y.cell? ⟨gx + 2, 0, none⟩ = some (.slice ta n tc0) ∧ y.cell? ⟨gx + 2, 1, none⟩ = some (.slice ma mn mc0) ∧ y.cell? ⟨gx + 2, 2, none⟩ = some (.bool bad)) := fun y hx =>
  ⟨qck hx _ _ (qcb H1.out 0), qck hx _ _ (qcb H1.out 1), qck hx _ _ (qcb H1.out 2), qck hx _ _ (qcb H2.out 0), qck hx _ _ (qcb H2.out 1), qck hx _ _ (qcb H3.out 0), qck hx _ _ (qcb H3.out 1), qck hx _ _ (qcb H3.out 2)⟩
 have HFIN : Hid (∀ x, Below W.heap.size W x → Below w.heap.size w x) := fun x hx => HB.out.trans (hx.mono HB.out.size)
 obtain ⟨c0, c1, c2, c3, c4, c5, c6, c7⟩ := HCC.out W (Below.refl _ _)
 go_wp2_with fail
 refine (HFITS.out W HCS.out HSW.out).mono ?_
 rintro e W1 ⟨rfl, hb1⟩
 have HB1 := qh hb1
 clear hb1 HFITS c0 c1 c2 c3 c4 c5 c6 c7
 cases fo with
 | false =>
  have hr : R.length = 0 := by rw [HRR.out]; rfl
  have hr2 : flatC MoveD.cells R = [] := by rw [HRR.out]; rfl
  have HR := qh hr
  have HR2 := qh hr2
  clear hr hr2
  go_wp2_with fail
  go_ret
  exact movesEnd_of HR.out (by rw [HR2.out]; exact World.ownsRow_nil _ _ _ _) (HFIN.out _ HB1.out)
 | true =>
  have hn4 : n ≤ 4 := HN4.out (by trivial)
  have HR : Hid (R = (List.range n).flatMap MT) := by rw [Hid, HRR.out]; rfl
  clear HRR HN4
  go_wp2_with fail
  go_loopg [7, 8] n (fun gg s7 s8 wr => ∃ (i : Nat) (oa : Option Addr) (on oc : Nat) (ml : List MoveD), i ≤ n ∧ Hid (gg = n - i) ∧ s7 = .slice oa on oc ∧ s8 = .int .i64 i ∧ on ≤ 100001 * i ∧ Hid (wr.ownsRow W.heap.size 32 3 (.slice oa on oc) on (flatC MoveD.cells ml)) ∧ Hid (ml.length = on) ∧ Hid (ml = (List.range i).flatMap MT) ∧ Hid (Below W.heap.size W wr))
  case atStart => exact ⟨0, none, 0, 0, [], Nat.zero_le _, rfl, rfl, rfl, by omega, World.ownsRow_nil _ _ _ _, rfl, rfl, HB1.out⟩
  case round =>
   obtain ⟨i, oa, on, oc, ml, hi, HG, rfl, rfl, hon, HRO, HON, HML, HBR⟩ := hrel
   obtain ⟨wo, rfl⟩ : ∃ wo : World, wo = wr := ⟨_, rfl⟩
   obtain ⟨c0, c1, c2, c3, c4, c5, c6, c7⟩ := HCC.out wo HBR.out
   by_cases hlt : i < n
   rotate_left
   ·obtain rfl : n = i := by omega
    have HR2 : Hid (R = ml) := by rw [Hid, HR.out, HML.out]
    go_wp2_with fail
    go_ret
    exact movesEnd_of (by rw [HR2.out]; exact HON.out) (by rw [HR2.out]; exact own_lower HRO.out HGX.out) (HFIN.out _ HBR.out)
   have hltI : (i : Int) < (n : Int) := by omega
   obtain ⟨tb, to_, ba, bc, hta, -, -, -, -, -, -, -, x5, hbuf⟩ := ThreadsAt.part HT.out i (by rw [← HN.out]; exact hlt)
   subst hta
   have hbl := HBU.out i hlt
   have hmt := HMTT.out i
   have hml := HMT.out i hlt
   generalize ts.getD i default = t at x5 hbuf hbl hmt
   have HML1 := qh hml
   obtain ⟨hh, hhh⟩ : ∃ hh, hh = headsB t.buf mod := ⟨_, rfl⟩
   rw [← hhh] at hmt
   have HMT1 := qh hmt
   have hhl : hh.length ≤ 100000 := by have := headsB_len t.buf mod; rw [hhh]; omega
   obtain ⟨bl, hbl2⟩ : ∃ bl, bl = t.buf.length := ⟨_, rfl⟩
   rw [← hbl2] at x5 hbuf
   have HHEADS : Hid (∀ y, Below W.heap.size W y → Calls Tryz.prog 63 #[.slice ba bl bc, .int .i64 mod] y fun e w' => (∃ va vc, e = .returned (.slice va hh.length vc) ∧ w'.ownsRow y.heap.size 3 1 (.slice va hh.length vc) hh.length (flatC intC hh)) ∧ Below y.heap.size y w') := fun y hy =>
    (heads_own y (.slice ba bl bc) t.buf (BufAt.below hbuf hy) (by omega) mod).mono fun e w' ⟨⟨sv, sn, he, hsn, hi⟩, hb⟩ => by
     rw [← hhh] at hi hsn
     subst hsn
     obtain ⟨a, cp, rfl, -⟩ := row_slice hi
     exact ⟨⟨a, cp, he, hi⟩, hb⟩
   have HX5 : Hid (∀ y, Below W.heap.size W y → y.cell? ⟨tb, to_ + i * 6 + 5, none⟩ = some (.slice ba bl bc)) := fun y hy => qck hy _ _ x5
   obtain ⟨hn, hhn⟩ : ∃ hn, hn = hh.length := ⟨_, rfl⟩
   rw [← hhn] at HHEADS hhl
   have HHN := qh hhn
   clear hhn hhh hbl2 x5 hbuf hbl hmt hml
   go_upto_if 33 with (go_at_call 62; go_must (refine (HSTEP.out wo (SliceR.below (RowR.stays d) HCS.out HBR.out) (HSW.out.below HBR.out) i (by trivial) hlt).mono ?_); rintro e W2 ⟨⟨xa, xn, xc, ya, yn, yc, b', rfl⟩, hb2⟩; have HB2 := qh hb2; clear hb2)
   have hbx := (Below.refl wo.heap.size wo).trans ((HB2.out).alloc HB2.out.size (.cells #[.slice xa xn xc, .slice ya yn yc, .bool b'] 30))
   have HBX := qh hbx
   clear hbx c0 c1 c2 c3 c4 c5 c6 c7
   generalize World.alloc W2 _ = W3 at HBX ⊢
   have HRO3 := qh (row_below HRO.out HBX.out)
   have HB3 := qh (qbt HBR.out HBX.out)
   clear HB2 HBX HRO HBR
   generalize hSS : (SS i).isSome = is at HMT1 ⊢
   clear hSS
   go_cut [7] (fun s7 w' => ∃ (pa : Option Addr) (pn pc : Nat) (pl : List MoveD), s7 = .slice pa pn pc ∧ pn ≤ on + 1 ∧ Hid (w'.ownsRow W.heap.size 32 3 (.slice pa pn pc) pn (flatC MoveD.cells pl)) ∧ Hid (pl.length = pn) ∧ Hid (pl = ml ++ (if is then [⟨1, i, 0⟩] else [])) ∧ Hid (Below W.heap.size W w'))
   case first =>
    cases is with
    | true =>
     go_wp2_with (at_builtin; go_must (refine wpList_append_at_ _ rfl _ _ 52 rfl 32 (.agg #[.int .i64 0, .int .i64 0, .int .i64 0]) 3 24 Tryz.underlying52 move_info rfl (by decide) W.heap.size (.slice oa on oc) on (flatC MoveD.cells ml) rfl ((HRO3.out).alloc _) ⟨W3.heap.size, 0, none⟩ 1 1 (MoveD.cells ⟨1, i, 0⟩) rfl rfl (row_new _ (MoveD.cells ⟨1, i, 0⟩) _) (by simp [MoveD.cells, Value.oneCell']) (by unfold maxLen; omega) (by omega) (by have := HB3.out.size; simp; omega) ?_); intro ja jc X f1 f2 f3 f4 f5 f6; have HE := qh (push_row (HRO3.out) f1 f4 (HB3.out) (Nat.le_refl _)); clear f1 f2 f3 f4 f5 f6)
     go_meet
     case rel => exact ⟨ja, on + 1, jc, ml ++ [(⟨1, (i : Int), 0⟩ : MoveD)], rfl, by omega, HE.out.1, by rw [Hid, List.length_append, HON.out]; rfl, by simp [Hid], HE.out.2⟩
    | false =>
     go_wp2_with fail
     go_meet
     case rel => exact ⟨oa, on, oc, ml, rfl, by omega, HRO3.out, HON.out, by simp [Hid], HB3.out⟩
   case rest =>
    obtain ⟨pa, pn, pc, pl, rfl, hpn, HPR, HPN, HPL, HB4⟩ := hcut
    obtain ⟨W4, rfl⟩ : ∃ W4 : World, W4 = wc := ⟨_, rfl⟩
    go_upto_region 10 with fail
    have HCX : Hid (∀ y, Below W4.heap.size W4 y → y.cell? ⟨gx + 2, 0, none⟩ = some (.slice (some ⟨tb, to_, none⟩) n tc0) ∧ y.cell? ⟨gx + 1, 0, none⟩ = some (.int .i64 mod) ∧ y.cell? ⟨tb, to_ + i * 6 + 5, none⟩ = some (.slice ba bl bc)) := fun y hy => by
     have hw := qbt HB4.out hy
     obtain ⟨-, -, -, c3, -, c5, -, -⟩ := HCC.out y hw
     exact ⟨c5, c3, HX5.out y hw⟩
    have HHEADS4 : Hid (∀ y, Below W4.heap.size W4 y → Calls Tryz.prog 63 #[.slice ba bl bc, .int .i64 mod] y fun e w' => (∃ va vc, e = .returned (.slice va hn vc) ∧ w'.ownsRow y.heap.size 3 1 (.slice va hn vc) hn (flatC intC hh)) ∧ Below y.heap.size y w') := fun y hy => HHEADS.out y (qbt HB4.out hy)
    refine wp_region_noPanic ?_
    refine wp_region_held_drew (S := fun x => Below W4.heap.size W4 x) (by kernel_rfl) (Below.refl _ _).drew (fun hH => ?_)
    refine qta 0 39 ?vh1 rfl ?hyh1 ?_
    case hyh1 => (intro x h; have e := HCX.out x h; go_simp <;> rfl)
    simp only [Act.put, qz1, qz2, qz3]
    refine qta 1 40 ?vh2 rfl ?hyh2 ?_
    case hyh2 => (intro x h; have e := HCX.out x h; go_simp <;> rfl)
    simp only [Act.put, qz1, qz2, qz3]
    refine qta 2 41 ?vh3 rfl ?hyh3 ?_
    case hyh3 => (intro x h; have e := HCX.out x h; go_simp <;> rfl)
    simp only [Act.put, qz1, qz2, qz3]
    refine qta 3 42 ?vh4 rfl ?hyh4 ?_
    case hyh4 => (intro x h; have e := HCX.out x h; go_simp <;> rfl)
    simp only [Act.put, qz1, qz2, qz3]
    refine qta 4 43 ?vh5 rfl ?hyh5 ?_
    case hyh5 => (intro x h; have e := HCX.out x h; go_simp <;> rfl)
    simp only [Act.put, qz1, qz2, qz3]
    refine qta 5 44 ?vh6 rfl ?hyh6 ?_
    case hyh6 => (intro x h; have e := HCX.out x h; go_simp <;> rfl)
    simp only [Act.put, qz1, qz2, qz3]
    refine qta 6 45 ?vh7 rfl ?hyh7 ?_
    case hyh7 => (intro x h; have e := HCX.out x h; go_simp <;> rfl)
    simp only [Act.put, qz1, qz2, qz3]
    refine qta 7 46 ?vh8 rfl ?hyh8 ?_
    case hyh8 => (intro x h; have e := HCX.out x h; go_simp <;> rfl)
    simp only [Act.put, qz1, qz2, qz3]
    refine qrH 8 rfl (fun K hK => ?_)
    go_simp
    refine (HHEADS4.out W4.drew hH).mono ?_
    rintro e hw8 ⟨⟨va, vc, rfl, hhr⟩, hb⟩
    have HHI := qh hhr
    have HHG : Hid (W4.heap.size ≤ W4.drew.heap.size) := (hH).size
    clear hhr
    have hHh8 : Below W4.heap.size W4 hw8 := qbt hH hb
    refine hK.out _ _ hHh8 (fun _ => ?_)
    clear hK K hb hH
    refine qta 9 11 ?vh9 rfl ?hyh9 ?_
    case hyh9 => (intro x h; have e := HCX.out x h; go_simp <;> rfl)
    simp only [Act.put, qz1, qz2, qz3]
    refine wpAnyH_done (by kernel_rfl) ?_ _
    refine NoPanic.normal ?_
    have HEND := qh hHh8
    clear hHh8
    go_wp2_with fail
    obtain ⟨W5, hW5⟩ : ∃ W5, W5 = hw8 := ⟨_, rfl⟩
    rw [← hW5] at HEND HHI ⊢
    clear hW5
    have HPR5 := qh (row_below HPR.out HEND.out)
    have HB5 := qh (qbt HB4.out HEND.out)
    have HNE5 : Hid (∀ x, (Value.slice pa pn pc).ownBlock = some x → (Value.slice va hn vc).ownBlock ≠ some x) := fun x h1 h2 => by have := (HPR.out.lt x h1).2; have := (HHI.out.lt x h2).1; have := HHG.out; omega
    clear HHEADS HHEADS4 HCX HEND HB4 HPR HHG
    go_loopg [7, 12] hn (fun gg s7 s12 wr => ∃ (k : Nat) (qa : Option Addr) (qn qc : Nat) (ql : List MoveD), k ≤ hn ∧ Hid (gg = hn - k) ∧ s7 = .slice qa qn qc ∧ s12 = .int .i64 k ∧ qn ≤ on + 1 + k ∧ Hid (wr.ownsRow W.heap.size 32 3 (.slice qa qn qc) qn (flatC MoveD.cells ql)) ∧ Hid (ql.length = qn) ∧ Hid (ql = pl ++ (hh.take k).map (fun v => ⟨2, i, v⟩)) ∧ Hid (∃ B, wr.ownsRow B 3 1 (.slice va hn vc) hn (flatC intC hh)) ∧ Hid (∀ x, (Value.slice qa qn qc).ownBlock = some x → (Value.slice va hn vc).ownBlock ≠ some x) ∧ Hid (Below W.heap.size W wr))
    case atStart => exact ⟨0, pa, pn, pc, pl, Nat.zero_le _, rfl, rfl, rfl, by omega, HPR5.out, HPN.out, by simp [Hid], ⟨_, HHI.out⟩, HNE5.out, HB5.out⟩
    case round =>
     obtain ⟨k, qa, qn, qc, ql, hk, HG2, rfl, rfl, hqn, HQR, HQN, HQL, HHR, HNE, HBW⟩ := hrel
     by_cases hkl : k < hn
     rotate_left
     ·obtain rfl : hn = k := by omega
      have hst : ql = (List.range (i + 1)).flatMap MT := by
       rw [range_flat, HMT1.out, ← HML.out, HQL.out, HPL.out, HHN.out, List.take_length, List.append_assoc]
      have hqn2 : qn ≤ 100001 * (i + 1) := by
       have h1 := HML1.out
       have h2 := congrArg List.length hst
       rw [range_flat, List.length_append, ← HML.out, HON.out, HQN.out] at h2
       omega
      have HST := qh hst
      clear hst
      go_wp2_with fail
      go_roundg (n - (i + 1))
      case measure => rw [HG.out]; omega
      case rel => exact ⟨i + 1, qa, qn, qc, ql, by omega, rfl, rfl, by simp, hqn2, HQR.out, HQN.out, HST.out, HBW.out⟩
     have hklI : (k : Int) < (hn : Int) := by omega
     obtain ⟨BH, hhr⟩ := HHR.out
     have hrw := hhr
     rw [HHN.out] at hrw
     obtain ⟨b9, o9, hea, -, e1⟩ := IntsAt.part (ints_of hrw) k (by rw [← HHN.out]; exact hkl)
     subst hea
     have HRB := qh hhr
     clear hhr hrw
     have HTK : Hid (hh.take (k + 1) = hh.take k ++ [hh.getD k 0]) := by rw [Hid, List.take_succ_eq_append_getElem (by rw [← HHN.out]; exact hkl), List.getD_eq_getElem?_getD, List.getElem?_eq_getElem (by rw [← HHN.out]; exact hkl)]; rfl
     generalize hh.getD k 0 = v at e1 HTK
     go_wp2_with (at_builtin; go_must (refine wpList_append_at_ _ rfl _ _ 52 rfl 32 (.agg #[.int .i64 0, .int .i64 0, .int .i64 0]) 3 24 Tryz.underlying52 move_info rfl (by decide) W.heap.size (.slice qa qn qc) qn (flatC MoveD.cells ql) rfl ((HQR.out).alloc _) ⟨wr.heap.size, 0, none⟩ 1 1 (MoveD.cells ⟨2, i, v⟩) rfl rfl (row_new _ (MoveD.cells ⟨2, i, v⟩) _) (by simp [MoveD.cells, Value.oneCell']) (by unfold maxLen; omega) (by omega) (by have := HBW.out.size; simp; omega) ?_); intro ja jc X f1 f2 f3 f4 f5 f6; have HE := qh (push_row (HQR.out) f1 f4 (HBW.out) (Nat.le_refl _)); have HE2 := qh (push_beside HRB.out HNE.out f4 f5); clear f1 f2 f3 f4 f5 f6)
     go_roundg (hn - (k + 1))
     case measure => rw [HG2.out]; omega
     case rel => exact ⟨k + 1, ja, qn + 1, jc, ql ++ [(⟨2, (i : Int), v⟩ : MoveD)], by omega, rfl, rfl, by simp, by omega, HE.out.1, by rw [Hid, List.length_append, HQN.out]; rfl, by rw [Hid, HQL.out, HTK.out]; simp, ⟨_, HE2.out.1⟩, HE2.out.2, HE.out.2⟩
theorem move_under : Tryz.prog.underlying 32 = some (.struct (Tryz.prog.fieldsOf 32)) := by kernel_rfl
theorem move_stood : Tryz.prog.stoodInHeld 32 = false := by kernel_rfl
@[go_sem] theorem move_guard : Tryz.prog.eqGuardType Tryz.prog.depth 32 = false := by kernel_rfl
theorem move_fields : (Tryz.prog.fieldsOf 32).toList.map (fun f => (f.name, f.type, f.offset)) = [("Kind", 3, 0), ("Thread", 3, 1), ("Var", 3, 2)] := by kernel_rfl
@[go_sem] theorem run_eq_move (w : World) (a b c x y z : Int) : (Op.equalIn 10000 32 (.agg #[.int .i64 a, .int .i64 b, .int .i64 c]) (.agg #[.int .i64 x, .int .i64 y, .int .i64 z])).run Tryz.prog w
  = .ok (a == x && b == y && c == z) w := by
 rw [run_equalIn_agg w 9999 _ _ _ move_under move_stood]
 obtain ⟨f0, f1, f2, hf, h0, h1, h2⟩ : ∃ f0 f1 f2, (Tryz.prog.fieldsOf 32).toList = [f0, f1, f2] ∧ (f0.name, f0.type, f0.offset) = ("Kind", 3, 0) ∧ (f1.name, f1.type, f1.offset) = ("Thread", 3, 1) ∧ (f2.name, f2.type, f2.offset) = ("Var", 3, 2) := by
  have h := move_fields
  generalize (Tryz.prog.fieldsOf 32).toList = l at h
  have hl : l.length = 3 := by have := congrArg List.length h; simpa using this
  match l, hl, h with
  | [f0, f1, f2], _, h =>
   simp only [List.map_cons, List.map_nil, List.cons.injEq, and_true] at h
   exact ⟨f0, f1, f2, rfl, h.1, h.2.1, h.2.2⟩
 simp only [Prod.mk.injEq] at h0 h1 h2
 rw [hf]
 have p0 := fun (w : World) (a b c : Int) => run_part_int w #[.int .i64 a, .int .i64 b, .int .i64 c] 0 a rfl
 have p1 := fun (w : World) (a b c : Int) => run_part_int w #[.int .i64 a, .int .i64 b, .int .i64 c] 1 b rfl
 have p2 := fun (w : World) (a b c : Int) => run_part_int w #[.int .i64 a, .int .i64 b, .int .i64 c] 2 c rfl
 have ge := run_eq_int_ 9998
 cases e0 : a == x <;> cases e1 : b == y <;> cases e2 : c == z <;> simp [Op.eqFields, h0, h1, h2, p0, p1, p2, ge, e0, e1, e2]
theorem sameM_any (w : World) (av bv : Value) (l : List MoveD) (ha : MovesAt w av l) (hb : MovesAt w bv l) : Calls Tryz.prog 42 #[av, bv] w fun e w' => e = .returned (.bool true) ∧ Below w.heap.size w w' := by
 obtain ⟨aa, ac, rfl, hal⟩ := SliceR.slice ha
 obtain ⟨ba, bc, rfl, -⟩ := SliceR.slice hb
 obtain ⟨n, hn⟩ : ∃ n, n = l.length := ⟨_, rfl⟩
 rw [← hn] at ha hb hal ⊢
 have HA := qh ha
 have HB := qh hb
 have HN := qh hn
 clear ha hb hn
 go_enter Tryz.func42, Tryz.ntmps42
 go_wp2_with fail
 go_loopg [5] n (fun gg s5 wr => ∃ i : Nat, i ≤ n ∧ Hid (gg = n - i) ∧ s5 = .int .i64 i ∧ Hid (Below w.heap.size w wr))
 case atStart => exact ⟨0, Nat.zero_le _, rfl, rfl, Below.refl _ _⟩
 case round =>
  obtain ⟨i, hi, HG, rfl, HBR⟩ := hrel
  by_cases hlt : i < n
  rotate_left
  ·obtain rfl : n = i := by omega
   go_wp2_with fail
   go_ret
   exact ⟨rfl, HBR.out⟩
  have hltI : (i : Int) < (n : Int) := by omega
  obtain ⟨eb, eo, hea, -, x0, x1, x2⟩ := MovesAt.part HA.out i (by rw [← HN.out]; exact hlt)
  subst hea
  obtain ⟨fb, fo, hfa, -, y0, y1, y2⟩ := MovesAt.part HB.out i (by rw [← HN.out]; exact hlt)
  subst hfa
  generalize l.getD i default = x at x0 x1 x2 y0 y1 y2
  obtain ⟨k, t, v⟩ := x
  simp only [] at x0 x1 x2 y0 y1 y2
  replace x0 := qck HBR.out _ _ x0
  replace x1 := qck HBR.out _ _ x1
  replace x2 := qck HBR.out _ _ x2
  replace y0 := qck HBR.out _ _ y0
  replace y1 := qck HBR.out _ _ y1
  replace y2 := qck HBR.out _ _ y2
  have CC : Hid (∀ y, Below wr.heap.size wr y → y.cell? ⟨eb, eo + i * 3, none⟩ = some (.int .i64 k) ∧ y.cell? ⟨eb, eo + i * 3 + 1, none⟩ = some (.int .i64 t) ∧ y.cell? ⟨eb, eo + i * 3 + 2, none⟩ = some (.int .i64 v) ∧ y.cell? ⟨fb, fo + i * 3, none⟩ = some (.int .i64 k) ∧ y.cell? ⟨fb, fo + i * 3 + 1, none⟩ = some (.int .i64 t) ∧ y.cell? ⟨fb, fo + i * 3 + 2, none⟩ = some (.int .i64 v)) := fun y hy =>
   ⟨qck hy _ _ x0, qck hy _ _ x1, qck hy _ _ x2, qck hy _ _ y0, qck hy _ _ y1, qck hy _ _ y2⟩
  clear x0 x1 x2 y0 y1 y2
  go_upto_region 6 with fail
  refine wp_region_noPanic ?_
  refine wp_region_held_drew (S := fun x => Below wr.heap.size wr x) (by kernel_rfl) ((Below.refl _ _).drew) (fun hH => ?_)
  refine qta 0 17 ?vh1 rfl ?hyh1 ?_
  case hyh1 => (intro x h; have e := CC.out x h; go_simp <;> rfl)
  simp only [Act.put, qz1, qz2, qz3]
  refine qta 1 18 ?vh2 rfl ?hyh2 ?_
  case hyh2 => (intro x h; have e := CC.out x h; go_simp <;> rfl)
  simp only [Act.put, qz1, qz2, qz3]
  refine qta 2 19 ?vh3 rfl ?hyh3 ?_
  case hyh3 => (intro x h; have e := CC.out x h; go_simp <;> rfl)
  simp only [Act.put, qz1, qz2, qz3]
  refine qta 3 20 ?vh4 rfl ?hyh4 ?_
  case hyh4 => (intro x h; have e := CC.out x h; go_simp <;> rfl)
  simp only [Act.put, qz1, qz2, qz3]
  refine qta 4 21 ?vh5 rfl ?hyh5 ?_
  case hyh5 => (intro x h; have e := CC.out x h; go_simp <;> rfl)
  simp only [Act.put, qz1, qz2, qz3]
  refine qta 5 22 ?vh6 rfl ?hyh6 ?_
  case hyh6 => (intro x h; have e := CC.out x h; go_simp <;> rfl)
  simp only [Act.put, qz1, qz2, qz3]
  refine qta 6 23 ?vh7 rfl ?hyh7 ?_
  case hyh7 => (intro x h; have e := CC.out x h; go_simp <;> rfl)
  simp only [Act.put, qz1, qz2, qz3]
  refine qta 7 24 ?vh8 rfl ?hyh8 ?_
  case hyh8 => (intro x h; have e := CC.out x h; go_simp <;> rfl)
  simp only [Act.put, qz1, qz2, qz3]
  refine qta 8 25 ?vh9 rfl ?hyh9 ?_
  case hyh9 => (intro x h; have e := CC.out x h; go_simp <;> rfl)
  simp only [Act.put, qz1, qz2, qz3]
  refine wpAnyH_done (by kernel_rfl) ?_ _
  refine NoPanic.normal ?_
  go_wp2_with fail
  go_roundg (n - (i + 1))
  case measure => rw [HG.out]; omega
  case rel => exact ⟨i + 1, by omega, rfl, by simp, qbt (a := w) HBR.out (hH)⟩
end Go.Proofs.YtliajkheeniljaaGreatDoor
