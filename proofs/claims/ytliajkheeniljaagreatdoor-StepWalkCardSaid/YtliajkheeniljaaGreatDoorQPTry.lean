/- A move in a state, by the program: the walk. -/
import Derived.Test.YtliajkheeniljaaGreatDoorQPTryQ
import Derived.Test.YtliajkheeniljaaGreatDoorQShort
set_option linter.all false
namespace Go.Proofs.YtliajkheeniljaaGreatDoor
open Go.RowKit
set_option maxRecDepth 100000
set_option maxHeartbeats 16000000
theorem ptry_any (w : World) (c : CodeD) (cv : Value) (d : Nat) (hc : RowsAt d w cv c.threads) (m : MachD) (s : StateD) (sv mv : Value) (hs : StateAt w s sv mv) (hb : ∀ j, j < s.threads.length → (s.threads.getD j default).buf.length ≤ 1000000) (hf : fitsOk c m s = true) (i : Nat) (hi : i < s.threads.length) (kind vr : Int) :
  Calls Tryz.prog 50 #[codeV c cv, machV m, stateV s sv mv, .agg #[.int .i64 kind, .int .i64 (i : Int), .int .i64 vr]] w (TryEnd w (Follows w s sv mv) (tryS c m s i kind vr d)) := by
 obtain ⟨hco, -, hlen, hml, hpcs⟩ := fits_facts hf
 have hbd := codeOk_bounds hco
 have hic : i < c.threads.length := by omega
 have hpc0 := hpcs i hi
 have hfl := fun hv => fits_heads hf hi (v := vr) hv
 obtain ⟨R, hR⟩ : ∃ R, R = tryS c m s i kind vr d := ⟨_, rfl⟩
 have hR1 : kind = 1 → vr = 0 → R = _ := fun h1 h2 => hR.trans (tryS_step h1 h2)
 have hR2 : kind = 2 → R = _ := fun h1 => hR.trans (tryS_flush h1 (fun hv => (hfl hv).2.2))
 have hR3 : ¬ (kind = 1 ∧ vr = 0) → ¬ kind = 2 → R = none := fun h1 h2 => hR.trans (tryS_none h1 h2)
 rw [← hR]
 clear hR
 obtain ⟨ca, cc, rfl, -⟩ := SliceR.slice hc
 obtain ⟨ta, tc0, rfl, -⟩ := SliceR.slice hs.threads
 obtain ⟨ma, mc0, rfl, -⟩ := SliceR.slice hs.mem
 obtain ⟨bs, hbs, hsrc, hts, hone⟩ := SrcOf.threads hs.threads
 have hmsrc : SrcOf w (.slice ma s.mem.length mc0) s.mem.length 1 (flatC intC s.mem) := SrcOf.of_slice (R := IntR) (by decide) int_len (fun _ _ _ h => h) hs.mem
 obtain ⟨eb, eo, ba, bc, hea, -, hrl, q0, q1, q2, q3, q4, q5, hbf⟩ := ThreadsAt.part hs.threads i hi
 subst hea
 obtain ⟨kb, ko, ka, kc, hka, -, hrow, hins⟩ := RowsAt.part hc i hic
 subst hka
 have hbl := hb i hi
 have hx : ∀ j, j < (c.threads.getD i []).length → InstrFit s.mem.length ((c.threads.getD i []).getD j default) := fun j hj => by
  have h1 := code_instr hco hic hj
  exact ⟨⟨h1.2.1, h1.2.2.1⟩, ⟨h1.2.2.2.1, by rw [hml]; exact h1.2.2.2.2⟩, code_op hco hic hj⟩
 have hclm := fun x (hx : Below w.heap.size w x) => cloneInt_any x _ s.mem.length _ (hmsrc.below hx) (fun u hu => by obtain ⟨z, -, rfl⟩ : ∃ z, z ∈ s.mem ∧ u = .int .i64 z := (by unfold flatC intC at hu; simpa [eq_comm] using hu); rfl) (by omega)
 have hclt := fun x (hx : Below w.heap.size w x) => cloneThread_any x _ s.threads.length _ (hsrc.below hx) hone (by omega)
 obtain ⟨T, hT⟩ : ∃ t, t = s.threads.getD i default := ⟨_, rfl⟩
 rw [← hT] at hrl q0 q1 q2 q3 q4 q5 hbf hbl hR1 hR2 hpc0 hfl
 obtain ⟨pc, regs, buf⟩ := T
 obtain ⟨g0, g1, g2, g3, rfl⟩ := four_of hrl
 simp only [List.getD_cons_zero, List.getD_cons_succ] at q0 q1 q2 q3 q4 q5 hbf hbl hR1 hR2 hpc0 hfl
 obtain ⟨pc, rfl⟩ : ∃ k : Nat, pc = (k : Int) := ⟨pc.toNat, by omega⟩
 simp only [Int.toNat_natCast] at hR1
 have hstep : ∀ W1 B gr mb mc, RunR (.slice ba buf.length bc) W1 B gr (pc : Int) g0 g1 g2 g3 buf (.slice ba buf.length bc) m c.domain s.mem mb mc s.bad → B ≤ W1.heap.size → Below w.heap.size w W1 → w.heap.size ≤ B → Calls Tryz.prog 81 #[.pointer (some ⟨gr, 0, none⟩), .slice ka (c.threads.getD i []).length kc] W1 fun e w' =>
   WayEnd (.slice ba buf.length bc) W1 B gr m c.domain mb mc (if (pc : Int) < ((c.threads.getD i []).length : Int) then stepT c m s ⟨(pc : Int), [g0, g1, g2, g3], buf⟩ ((c.threads.getD i []).getD pc default) d else none) e w' := fun W1 B gr mb mc hr hB h0 hw => pstep_any hr hB (by omega) (by omega) d _ _ hins h0 hw hx hbl
 have hflush : ∀ W1 B gr mb mc, RunR (.slice ba buf.length bc) W1 B gr (pc : Int) g0 g1 g2 g3 buf (.slice ba buf.length bc) m c.domain s.mem mb mc s.bad → B ≤ W1.heap.size → Calls Tryz.prog 82 #[.pointer (some ⟨gr, 0, none⟩), .int .i64 vr] W1 fun e w' =>
   WayEnd (.slice ba buf.length bc) W1 B gr m c.domain mb mc (if vr ∈ headsB buf m.model then some (⟨(pc : Int), [g0, g1, g2, g3], (takeB buf vr).2⟩, s.mem.set vr.toNat ((takeB buf vr).1.getD default).n, s.bad) else none) e w' := fun W1 B gr mb mc hr hB => pflush_any hr hB hbl vr (fun hv => by obtain ⟨h1, h2, h3⟩ := hfl hv; exact ⟨h1, by rw [hml]; exact h2, h3⟩)
 obtain ⟨res1, hres1⟩ : ∃ r, r = (if (pc : Int) < ((c.threads.getD i []).length : Int) then stepT c m s ⟨(pc : Int), [g0, g1, g2, g3], buf⟩ ((c.threads.getD i []).getD pc default) d else none) := ⟨_, rfl⟩
 obtain ⟨res2, hres2⟩ : ∃ r : Option (ThreadD × List Int × Bool), r = (if vr ∈ headsB buf m.model then some (⟨(pc : Int), [g0, g1, g2, g3], (takeB buf vr).2⟩, s.mem.set vr.toNat ((takeB buf vr).1.getD default).n, s.bad) else none) := ⟨_, rfl⟩
 rw [← hres1] at hstep hR1
 rw [← hres2] at hflush hR2
 clear hres1 hres2 hfl hx hins
 have hmade := fun (V : World) (B mb mc : Nat) (h1 : Below w.heap.size w V) h2 h3 h4 => run_made (V := V) (B := B) (mb := mb) (mc := mc) (pc := (pc : Int)) (r0 := g0) (r1 := g1) (r2 := g2) (r3 := g3) (dom := c.domain) (m := m) (mem := s.mem) (bad := s.bad) hbf h1 h2 h3 h4
 have hvi := buf_src hsrc rfl hi q5
 have hends := fun (w5 w6 : World) (B gr gs mb mc tb cc' : Nat) (pc' r0 r1 r2 r3 : Int) (buf' : List EntryD) (bv : Value) (mem' : List Int) (bad' : Bool) (sa ma' : Option Addr) (sn sc mn0 mc1 : Nat) (h : RunR (.slice ba buf.length bc) w5 B gr pc' r0 r1 r2 r3 buf' bv m c.domain mem' mb mc bad') h2 h3 h4 h5 h6 h7 hwB Z hZ => try_ends (w := w) (w6 := w6) (gs := gs) (tb := tb) (cc := cc') (i := i) (bad0 := s.bad) (ts := s.threads) (bs := bs) (sa := sa) (ma := ma') (sn := sn) (sc := sc) (mn0 := mn0) (mc0 := mc1) h h2 h3 h4 h5 h6 h7 hi hbs hts hs rfl hsrc hvi hwB Z hZ
 generalize Follows w s (.slice (some ⟨eb, eo, none⟩) s.threads.length tc0) (.slice ma s.mem.length mc0) = FW at hends ⊢
 have hold : ∀ k, k < 6 → ∃ u, (threadsC s.threads bs)[i * 6 + k]? = some u := fun k hk => by
  rw [threadsC_at hi hk]
  rcases k with _ | _ | _ | _ | _ | _ | k
  ·exact ⟨_, rfl⟩
  ·exact ⟨_, rfl⟩
  ·exact ⟨_, rfl⟩
  ·exact ⟨_, rfl⟩
  ·exact ⟨_, rfl⟩
  ·exact ⟨_, rfl⟩
  ·omega
 have hml1 : 0 < s.mem.length := by omega
 have htl1 : 0 < s.threads.length := by omega
 have hLS : ranS s i = fun r => (⟨s.threads.set i r.1, r.2.1, r.2.2⟩ : StateD) := rfl
 rw [hLS] at hR1 hR2
 clear hLS
 have HR1 := qh hR1
 have HR2 := qh hR2
 have HR3 := qh hR3
 have HCLM := qh hclm
 have HCLT := qh hclt
 have HSTEP := qh hstep
 have HFLUSH := qh hflush
 have HMADE := qh hmade
 have HENDS := qh hends
 have HOLD := qh hold
 clear hR1 hR2 hR3 hclm hclt hstep hflush hmade hends hold hco hlen hml hpcs hbd hpc0 hb hs hc hbs hsrc hts hone hmsrc hbl hf hbf
 obtain ⟨vars, dom, cs⟩ := c
 obtain ⟨mod, bnd⟩ := m
 obtain ⟨ts, mem, bad⟩ := s
 simp only [] at hT hi hic hrow hml1 htl1 HR1 HR2 HCLM HCLT HSTEP HFLUSH HMADE HENDS HOLD ⊢
 unfold codeV machV stateV
 simp only []
 obtain ⟨n, hn⟩ : ∃ n, n = ts.length := ⟨_, rfl⟩
 obtain ⟨cn, hcn⟩ : ∃ cn, cn = cs.length := ⟨_, rfl⟩
 obtain ⟨ln, hln⟩ : ∃ x, x = (cs.getD i []).length := ⟨_, rfl⟩
 obtain ⟨mn, hmn⟩ : ∃ mn, mn = mem.length := ⟨_, rfl⟩
 obtain ⟨un, hun⟩ : ∃ n, n = buf.length := ⟨_, rfl⟩
 rw [← hn] at hi htl1 HCLT HENDS ⊢
 rw [← hcn] at hic ⊢
 rw [← hln] at hrow HSTEP
 rw [← hmn] at hml1 HCLM HMADE ⊢
 rw [← hun] at q5 HSTEP HFLUSH HMADE HENDS
 have HN := qh hn
 have HMN := qh hmn
 have hiI : (i : Int) < (n : Int) := by omega
 have hicI : (i : Int) < (cn : Int) := by omega
 clear hn hcn hln hmn hun hT hrl
 obtain ⟨hB, h1, h2, h3, h4, h5⟩ := boxes5_below w (.cells #[.int .i64 vars, .int .i64 dom, .slice (some ⟨kb, ko, none⟩) cn cc] 24) (.cells #[.int .i64 mod, .int .i64 bnd] 26) (.cells #[.slice (some ⟨eb, eo, none⟩) n tc0, .slice ma mn mc0, .bool bad] 30) (.cells #[.int .i64 kind, .int .i64 (i : Int), .int .i64 vr] 32) (.cells #[.slice none 0 0, .slice none 0 0, .bool false] 30)
 have HB := qh hB
 have H1 := qh h1
 have H2 := qh h2
 have H3 := qh h3
 have H4 := qh h4
 have H5 := qh h5
 have HQ : Hid (∀ x, Below w.heap.size w x → (x.cell? ⟨eb, eo + i * 6, none⟩ = some (.int .i64 (pc : Int)) ∧ x.cell? ⟨eb, eo + i * 6 + 1, none⟩ = some (.int .i64 g0) ∧ x.cell? ⟨eb, eo + i * 6 + 2, none⟩ = some (.int .i64 g1) ∧ x.cell? ⟨eb, eo + i * 6 + 3, none⟩ = some (.int .i64 g2) ∧ x.cell? ⟨eb, eo + i * 6 + 4, none⟩ = some (.int .i64 g3) ∧ x.cell? ⟨eb, eo + i * 6 + 5, none⟩ = some (.slice ba un bc)) ∧ x.cell? ⟨kb, ko + i, none⟩ = some (.slice ka ln kc)) := fun x hx =>
  ⟨⟨qck hx _ _ q0, qck hx _ _ q1, qck hx _ _ q2, qck hx _ _ q3, qck hx _ _ q4, qck hx _ _ q5⟩, qck hx _ _ hrow⟩
 clear hB h1 h2 h3 h4 h5 q0 q1 q2 q3 q4 q5 hrow
 go_enter Tryz.func50, Tryz.ntmps50
 go_upto_region 1 with fail
 generalize World.alloc (World.alloc (World.alloc (World.alloc (World.alloc w _) _) _) _) _ = W at HB H1 H2 H3 H4 H5 ⊢
 obtain ⟨gx, hgx⟩ : ∃ gx, gx = w.heap.size := ⟨_, rfl⟩
 rw [← hgx] at H1 H2 H3 H4 H5 ⊢
 have HGX := qh hgx
 clear hgx
 have HCC : Hid (∀ y, Below W.heap.size W y → y.cell? ⟨gx, 1, none⟩ = some (.int .i64 dom) ∧ y.cell? ⟨gx + 1, 0, none⟩ = some (.int .i64 mod) ∧ y.cell? ⟨gx + 1, 1, none⟩ = some (.int .i64 bnd) ∧ y.cell? ⟨gx + 2, 0, none⟩ = some (.slice (some ⟨eb, eo, none⟩) n tc0) ∧ y.cell? ⟨gx + 2, 1, none⟩ = some (.slice ma mn mc0) ∧ y.cell? ⟨gx + 2, 2, none⟩ = some (.bool bad) ∧
   y.cell? ⟨gx + 3, 0, none⟩ = some (.int .i64 kind) ∧ y.cell? ⟨gx + 3, 1, none⟩ = some (.int .i64 (i : Int)) ∧ y.cell? ⟨gx + 3, 2, none⟩ = some (.int .i64 vr) ∧ y.cell? ⟨gx, 2, none⟩ = some (.slice (some ⟨kb, ko, none⟩) cn cc) ∧
   y.cell? ⟨eb, eo + i * 6, none⟩ = some (.int .i64 (pc : Int)) ∧ y.cell? ⟨eb, eo + i * 6 + 1, none⟩ = some (.int .i64 g0) ∧ y.cell? ⟨eb, eo + i * 6 + 2, none⟩ = some (.int .i64 g1) ∧ y.cell? ⟨eb, eo + i * 6 + 3, none⟩ = some (.int .i64 g2) ∧ y.cell? ⟨eb, eo + i * 6 + 4, none⟩ = some (.int .i64 g3) ∧ y.cell? ⟨eb, eo + i * 6 + 5, none⟩ = some (.slice ba un bc) ∧ y.cell? ⟨kb, ko + i, none⟩ = some (.slice ka ln kc)) := fun y hx => by
  obtain ⟨⟨p0, p1, p2, p3, p4, p5⟩, p6⟩ := HQ.out y (HB.out.trans (hx.mono HB.out.size))
  exact ⟨qck hx _ _ (qcb H1.out 1), qck hx _ _ (qcb H2.out 0), qck hx _ _ (qcb H2.out 1), qck hx _ _ (qcb H3.out 0), qck hx _ _ (qcb H3.out 1), qck hx _ _ (qcb H3.out 2), qck hx _ _ (qcb H4.out 0), qck hx _ _ (qcb H4.out 1), qck hx _ _ (qcb H4.out 2), qck hx _ _ (qcb H1.out 2), p0, p1, p2, p3, p4, p5, p6⟩
 clear HQ
 refine wp_region_noPanic ?_
 refine wp_region_held_drew (S := fun x => Below W.heap.size W x) (by kernel_rfl) ((Below.refl _ _).drew) (fun hH => ?_)
 refine qta 0 12 ?vh1 rfl ?hyh1 ?_
 case hyh1 => (intro x h; have e := HCC.out x h; go_simp <;> rfl)
 simp only [Act.put, qz1, qz2, qz3]
 refine qta 1 13 ?vh2 rfl ?hyh2 ?_
 case hyh2 => (intro x h; have e := HCC.out x h; go_simp <;> rfl)
 simp only [Act.put, qz1, qz2, qz3]
 refine qta 2 14 ?vh3 rfl ?hyh3 ?_
 case hyh3 => (intro x h; have e := HCC.out x h; go_simp <;> rfl)
 simp only [Act.put, qz1, qz2, qz3]
 refine qta 3 15 ?vh4 rfl ?hyh4 ?_
 case hyh4 => (intro x h; have e := HCC.out x h; go_simp <;> rfl)
 simp only [Act.put, qz1, qz2, qz3]
 refine qta 4 16 ?vh5 rfl ?hyh5 ?_
 case hyh5 => (intro x h; have e := HCC.out x h; go_simp <;> rfl)
 simp only [Act.put, qz1, qz2, qz3]
 refine qta 5 17 ?vh6 rfl ?hyh6 ?_
 case hyh6 => (intro x h; have e := HCC.out x h; go_simp <;> rfl)
 simp only [Act.put, qz1, qz2, qz3]
 refine qta 6 18 ?vh7 rfl ?hyh7 ?_
 case hyh7 => (intro x h; have e := HCC.out x h; go_simp <;> rfl)
 simp only [Act.put, qz1, qz2, qz3]
 refine qta 7 19 ?vh8 rfl ?hyh8 ?_
 case hyh8 => (intro x h; have e := HCC.out x h; go_simp <;> rfl)
 simp only [Act.put, qz1, qz2, qz3]
 refine qta 8 20 ?vh9 rfl ?hyh9 ?_
 case hyh9 => (intro x h; have e := HCC.out x h; go_simp <;> rfl)
 simp only [Act.put, qz1, qz2, qz3]
 refine qta 9 21 ?vh10 rfl ?hyh10 ?_
 case hyh10 => (intro x h; have e := HCC.out x h; go_simp <;> rfl)
 simp only [Act.put, qz1, qz2, qz3]
 refine qta 10 22 ?vh11 rfl ?hyh11 ?_
 case hyh11 => (intro x h; have e := HCC.out x h; go_simp <;> rfl)
 simp only [Act.put, qz1, qz2, qz3]
 refine qta 12 24 ?vh12 rfl ?hyh12 ?_
 case hyh12 => (intro x h; have e := HCC.out x h; go_simp <;> rfl)
 simp only [Act.put, qz1, qz2, qz3]
 refine qta 13 25 ?vh13 rfl ?hyh13 ?_
 case hyh13 => (intro x h; have e := HCC.out x h; go_simp <;> rfl)
 simp only [Act.put, qz1, qz2, qz3]
 refine qrH 11 rfl (fun K hK => ?_)
 go_simp
 refine (HCLM.out W.drew (HB.out.trans ((hH).mono HB.out.size))).mono ?_
 rintro e hw11 ⟨⟨mba, mcc, rfl, hmr⟩, hb⟩
 obtain ⟨mb, rfl⟩ := ints_ptr hmr (by rw [← HMN.out]; exact hml1)
 have HMR := qh (row_below hmr (Below.refl _ _))
 clear hmr
 have hHh11 : Below W.heap.size W hw11 := qbt hH hb
 refine hK.out _ _ hHh11 (fun _ => ?_)
 clear hK K hb hH
 refine qta 14 26 ?vh14 rfl ?hyh14 ?_
 case hyh14 => (intro x h; have e := HCC.out x h; go_simp <;> rfl)
 simp only [Act.put, qz1, qz2, qz3]
 refine qrH 15 rfl (fun K hK => ?_)
 go_simp
 have HWV := qh hHh11
 have hHs15 := (hHh11).alloc (hHh11).size (.cells #[.int .i64 (pc : Int), .int .i64 g0, .int .i64 g1, .int .i64 g2, .int .i64 g3, .slice ba un bc, .int .i64 mod, .int .i64 bnd, .int .i64 dom, .slice (some ⟨mb, 0, none⟩) mn mcc, .bool bad] 138)
 refine hK.out _ _ hHs15 (fun _ => ?_)
 clear hK K hHh11
 refine qta 16 10 ?vh15 rfl ?hyh15 ?_
 case hyh15 => (intro x h; have e := HCC.out x h; go_simp <;> rfl)
 simp only [Act.put, qz1, qz2, qz3]
 refine wpAnyH_done (by kernel_rfl) ?_ _
 refine NoPanic.normal ?_
 go_upto_region 3 with fail
 have HV : Hid (Below W.heap.size W hw11 ∧ hw11.ownsRow W.heap.size 3 1 (.slice (some ⟨mb, 0, none⟩) mn mcc) mn (flatC intC mem)) := ⟨HWV.out, HMR.out⟩
 have HRUN := qh (HMADE.out hw11 W.heap.size mb mcc (HB.out.trans (HV.out.1.mono HB.out.size)) HB.out.size HV.out.1.size HV.out.2)
 have HW1 : Hid (Below W.heap.size W (hw11.alloc (.cells #[.int .i64 (pc : Int), .int .i64 g0, .int .i64 g1, .int .i64 g2, .int .i64 g3, .slice ba un bc, .int .i64 mod, .int .i64 bnd, .int .i64 dom, .slice (some ⟨mb, 0, none⟩) mn mcc, .bool bad] 138))) := HV.out.1.alloc HV.out.1.size _
 generalize World.alloc hw11 _ = W1 at HRUN HW1 ⊢
 obtain ⟨gr, hgr⟩ : ∃ g, g = hw11.heap.size := ⟨_, rfl⟩
 rw [← hgr] at HRUN ⊢
 clear hgr
 obtain ⟨-, -, -, -, -, -, k0, k1, k2, k3, -, -, -, -, -, -, k4⟩ := HCC.out W1 HW1.out
 by_cases hk1 : kind = 1
 rotate_left
 ·by_cases hk2 : kind = 2
  rotate_left
  ·have hk3 : ((kind : Int) == 1) = false := by simp [hk1]
   have hk4 : ((kind : Int) == 2) = false := by simp [hk2]
   have hr := HR3.out (fun h => hk1 h.1) hk2
   have HRR := qh hr
   clear hr HR1 HR2 HR3 HSTEP HFLUSH hk1 hk2
   clear k3 k4
   have hr : R = none := HRR.out
   have HRN := qh hr
   clear hr
   obtain ⟨⟨q0, q1, q2⟩, ⟨f0, f1, f2⟩, hend⟩ := res_box (w := w) ((HW1.out.block (gx + 4) (qlb H5.out)).trans H5.out) (HB.out.trans (HW1.out.mono HB.out.size)) (by rw [HGX.out]; omega)
   obtain ⟨hset, -, hbe⟩ := hend (.slice none 0 0) (.slice none 0 0) (.bool false)
   have HSET := qh hset
   have HBE := qh hbe
   clear hset hbe hend
   go_wp2_with fail
   (try simp only [Exit.inBlock, Exit.then])
   refine bodyPost_ret (results_cell1 rfl _ _ (gx + 4) 30 _ (0, 0) _ rfl HSET.out Tryz.underlying30 rfl state_size) rfl ?_
   exact ⟨HBE.out, .inl ⟨HRN.out, rfl⟩⟩
  subst hk2
  have HRR := qh (HR2.out rfl)
  clear HR1 HR2 HR3 HSTEP hk1
  go_wp2_with fail
  refine (HFLUSH.out W1 W.heap.size gr mb mcc HRUN.out HW1.out.size).mono ?_
  rintro e W3 ⟨hbe, ⟨hres, rfl⟩ | ⟨⟨tp, trg, tbf⟩, mem', bad', bv, hres, rfl, hrl', hrun⟩⟩
  ·have HW3 : Hid (Below W.heap.size W W3) := HW1.out.trans hbe
   clear k0 k1 k2 k3 k4 hbe
   have hr : R = none := by rw [HRR.out, hres]; rfl
   have HRN := qh hr
   clear hr
   obtain ⟨⟨q0, q1, q2⟩, ⟨f0, f1, f2⟩, hend⟩ := res_box (w := w) ((HW3.out.block (gx + 4) (qlb H5.out)).trans H5.out) (HB.out.trans (HW3.out.mono HB.out.size)) (by rw [HGX.out]; omega)
   obtain ⟨hset, -, hbe⟩ := hend (.slice none 0 0) (.slice none 0 0) (.bool false)
   have HSET := qh hset
   have HBE := qh hbe
   clear hset hbe hend
   go_wp2_with fail
   (try simp only [Exit.inBlock, Exit.then])
   refine bodyPost_ret (results_cell1 rfl _ _ (gx + 4) 30 _ (0, 0) _ rfl HSET.out Tryz.underlying30 rfl state_size) rfl ?_
   exact ⟨HBE.out, .inl ⟨HRN.out, rfl⟩⟩
  ·have HW3 : Hid (Below W.heap.size W W3) := HW1.out.trans hbe
   clear k0 k1 k2 k3 k4 hbe
   simp only [] at hres hrl' hrun
   obtain ⟨r0, r1, r2, r3, rfl⟩ := four_of hrl'
   simp only [List.getD_cons_zero, List.getD_cons_succ] at hrun
   obtain ⟨xa, xc, rfl, -⟩ := SliceR.slice hrun.bufAt
   obtain ⟨xn, hxn⟩ : ∃ n, n = tbf.length := ⟨_, rfl⟩
   rw [← hxn] at hrun
   clear hxn
   have hr : R = some ⟨ts.set i ⟨tp, [r0, r1, r2, r3], tbf⟩, mem', bad'⟩ := by rw [HRR.out, hres]; rfl
   have HRS := qh hr
   have HRUN3 := qh hrun
   clear hr hres hrl' hrun HRUN
   have HG3 : Hid (W3.heap[gx + 2]? = some (.cells #[.slice (some ⟨eb, eo, none⟩) n tc0, .slice ma mn mc0, .bool bad] 30 (0, 0))) := (HW3.out.block _ (qlb H3.out)).trans H3.out
   have p0 : W3.cell? ⟨gx + 2, 0, none⟩ = some (.slice (some ⟨eb, eo, none⟩) n tc0) := qcb HG3.out 0
   go_wp2_with fail
   refine (HCLT.out W3 (HB.out.trans (HW3.out.mono HB.out.size))).mono ?_
   rintro e W4 ⟨⟨tba, tcc, rfl, hrw⟩, hb4⟩
   obtain ⟨tb, rfl⟩ := threads_ptr hrw (by rw [← HN.out]; exact htl1)
   have HRW := qh hrw
   have HB4 := qh hb4
   clear hrw hb4 p0
   have HG4 : Hid (W4.heap[gx + 2]? = some (.cells #[.slice (some ⟨eb, eo, none⟩) n tc0, .slice ma mn mc0, .bool bad] 30 (0, 0))) := (HB4.out.block _ (qlb HG3.out)).trans HG3.out
   have p0 : W4.cell? ⟨gx + 2, 0, none⟩ = some (.slice (some ⟨eb, eo, none⟩) n tc0) := qcb HG4.out 0
   have p1 : W4.frozen? ⟨gx + 2, 0, none⟩ = false := qfb HG4.out 0
   go_upto_region 10 with fail
   clear p0 p1
   have HNE : Hid (tb ≠ gx + 2 ∧ gx + 3 ≠ gx + 2 ∧ gr ≠ gx + 2) := ⟨by have := (HRW.out.lt tb rfl).1; have := qlb HG3.out; omega, by omega, by have := HRUN3.out.base; have := qlb H3.out; omega⟩
   have HSX : Hid (Since (fun k => k = gx + 2) W4 (W4.setCell ⟨gx + 2, 0, none⟩ (.slice (some ⟨tb, 0, none⟩) n tcc))) := Since.setCell (F := fun k => k = gx + 2) (p := ⟨gx + 2, 0, none⟩) (Since.refl _ _) (.inl rfl) _
   have HGX4 : Hid ((W4.setCell ⟨gx + 2, 0, none⟩ (.slice (some ⟨tb, 0, none⟩) n tcc)).heap[gx + 2]? = some (.cells #[.slice (some ⟨tb, 0, none⟩) n tcc, .slice ma mn mc0, .bool bad] 30 (0, 0))) := set_of_block HG4.out 0 _
   obtain ⟨X, hX⟩ : ∃ X, X = W4.setCell ⟨gx + 2, 0, none⟩ (.slice (some ⟨tb, 0, none⟩) n tcc) := ⟨_, rfl⟩
   rw [← hX] at HSX HGX4 ⊢
   have HXE := qh hX
   clear hX
   have HRX := qh (HSX.out.row HRW.out (fun k hk e => by cases hk; exact HNE.out.1 e))
   have HR4 := qh (HRUN3.out.below HB4.out)
   have HGR : Hid (X.heap[gr]? = _) := (HSX.out.block gr (qlb HR4.out.block) HNE.out.2.2).trans HR4.out.block
   have HG33 : Hid (X.heap[gx + 3]? = _) := (HSX.out.block (gx + 3) (Nat.lt_of_lt_of_le (qlb H4.out) (Nat.le_trans HW3.out.size HB4.out.size)) HNE.out.2.1).trans ((HB4.out.block _ (Nat.lt_of_lt_of_le (qlb H4.out) HW3.out.size)).trans ((HW3.out.block _ (qlb H4.out)).trans H4.out))
   have C4 : Hid (∀ x, Below X.heap.size X x → x.cell? ⟨gx + 2, 0, none⟩ = some (.slice (some ⟨tb, 0, none⟩) n tcc) ∧ x.cell? ⟨gx + 3, 1, none⟩ = some (.int .i64 (i : Int)) ∧ x.cell? ⟨gr, 0, none⟩ = some (.int .i64 tp) ∧ x.cell? ⟨gr, 1, none⟩ = some (.int .i64 r0) ∧ x.cell? ⟨gr, 2, none⟩ = some (.int .i64 r1) ∧ x.cell? ⟨gr, 3, none⟩ = some (.int .i64 r2) ∧ x.cell? ⟨gr, 4, none⟩ = some (.int .i64 r3) ∧ x.cell? ⟨gr, 5, none⟩ = some (.slice xa xn xc) ∧ x.cell? ⟨gr, 9, none⟩ = some (.slice (some ⟨mb, 0, none⟩) mem'.length mcc) ∧ x.cell? ⟨gr, 10, none⟩ = some (.bool bad')) := fun x hx => ⟨qck hx _ _ (qcb HGX4.out 0), qck hx _ _ (qcb HG33.out 1), qck hx _ _ (qcb HGR.out 0), qck hx _ _ (qcb HGR.out 1), qck hx _ _ (qcb HGR.out 2), qck hx _ _ (qcb HGR.out 3), qck hx _ _ (qcb HGR.out 4), qck hx _ _ (qcb HGR.out 5), qck hx _ _ (qcb HGR.out 9), qck hx _ _ (qcb HGR.out 10)⟩
   obtain ⟨⟨v0, hv0⟩, ⟨v1, hv1⟩, ⟨v2, hv2⟩, ⟨v3, hv3⟩, ⟨v4, hv4⟩, ⟨v5, hv5⟩⟩ := (⟨HOLD.out 0 (by omega), HOLD.out 1 (by omega), HOLD.out 2 (by omega), HOLD.out 3 (by omega), HOLD.out 4 (by omega), HOLD.out 5 (by omega)⟩ : (∃ u, (threadsC ts bs)[i * 6 + 0]? = some u) ∧ (∃ u, (threadsC ts bs)[i * 6 + 1]? = some u) ∧ (∃ u, (threadsC ts bs)[i * 6 + 2]? = some u) ∧ (∃ u, (threadsC ts bs)[i * 6 + 3]? = some u) ∧ (∃ u, (threadsC ts bs)[i * 6 + 4]? = some u) ∧ (∃ u, (threadsC ts bs)[i * 6 + 5]? = some u))
   obtain ⟨t0, u0⟩ : X.cell? ⟨tb, i * 6, none⟩ = some v0 ∧ X.frozen? ⟨tb, i * 6, none⟩ = false := by obtain ⟨g, cap, he, -, h1, h2⟩ := row_ptr HRX.out hv0; cases he; exact ⟨h1, h2⟩
   obtain ⟨t1, u1⟩ : X.cell? ⟨tb, i * 6 + 1, none⟩ = some v1 ∧ X.frozen? ⟨tb, i * 6 + 1, none⟩ = false := by obtain ⟨g, cap, he, -, h1, h2⟩ := row_ptr HRX.out hv1; cases he; exact ⟨h1, h2⟩
   obtain ⟨t2, u2⟩ : X.cell? ⟨tb, i * 6 + 2, none⟩ = some v2 ∧ X.frozen? ⟨tb, i * 6 + 2, none⟩ = false := by obtain ⟨g, cap, he, -, h1, h2⟩ := row_ptr HRX.out hv2; cases he; exact ⟨h1, h2⟩
   obtain ⟨t3, u3⟩ : X.cell? ⟨tb, i * 6 + 3, none⟩ = some v3 ∧ X.frozen? ⟨tb, i * 6 + 3, none⟩ = false := by obtain ⟨g, cap, he, -, h1, h2⟩ := row_ptr HRX.out hv3; cases he; exact ⟨h1, h2⟩
   obtain ⟨t4, u4⟩ : X.cell? ⟨tb, i * 6 + 4, none⟩ = some v4 ∧ X.frozen? ⟨tb, i * 6 + 4, none⟩ = false := by obtain ⟨g, cap, he, -, h1, h2⟩ := row_ptr HRX.out hv4; cases he; exact ⟨h1, h2⟩
   obtain ⟨t5, u5⟩ : X.cell? ⟨tb, i * 6 + 5, none⟩ = some v5 ∧ X.frozen? ⟨tb, i * 6 + 5, none⟩ = false := by obtain ⟨g, cap, he, -, h1, h2⟩ := row_ptr HRX.out hv5; cases he; exact ⟨h1, h2⟩
   clear hv0 hv1 hv2 hv3 hv4 hv5
   have HSN : Hid (Since (fun k => k = tb) X ((((((X.setCell ⟨tb, i * 6, none⟩ (.int .i64 tp)).setCell ⟨tb, i * 6 + 1, none⟩ (.int .i64 r0)).setCell ⟨tb, i * 6 + 2, none⟩ (.int .i64 r1)).setCell ⟨tb, i * 6 + 3, none⟩ (.int .i64 r2)).setCell ⟨tb, i * 6 + 4, none⟩ (.int .i64 r3)).setCell ⟨tb, i * 6 + 5, none⟩ (.slice xa xn xc))) := (((((((Since.refl (fun k => k = tb) X).setCell (p := ⟨tb, i * 6, none⟩) (.inl rfl) (.int .i64 tp)).setCell (p := ⟨tb, i * 6 + 1, none⟩) (.inl rfl) (.int .i64 r0)).setCell (p := ⟨tb, i * 6 + 2, none⟩) (.inl rfl) (.int .i64 r1)).setCell (p := ⟨tb, i * 6 + 3, none⟩) (.inl rfl) (.int .i64 r2)).setCell (p := ⟨tb, i * 6 + 4, none⟩) (.inl rfl) (.int .i64 r3)).setCell (p := ⟨tb, i * 6 + 5, none⟩) (.inl rfl) (.slice xa xn xc))
   have HGN := qh ((HSN.out.block (gx + 2) (qlb HGX4.out) (fun e => HNE.out.1 e.symm)).trans HGX4.out)
   have n1 : ((((((X.setCell ⟨tb, i * 6, none⟩ (.int .i64 tp)).setCell ⟨tb, i * 6 + 1, none⟩ (.int .i64 r0)).setCell ⟨tb, i * 6 + 2, none⟩ (.int .i64 r1)).setCell ⟨tb, i * 6 + 3, none⟩ (.int .i64 r2)).setCell ⟨tb, i * 6 + 4, none⟩ (.int .i64 r3)).setCell ⟨tb, i * 6 + 5, none⟩ (.slice xa xn xc)).cell? ⟨gx + 2, 1, none⟩ = some (.slice ma mn mc0) := qcb HGN.out 1
   have n2 : ((((((X.setCell ⟨tb, i * 6, none⟩ (.int .i64 tp)).setCell ⟨tb, i * 6 + 1, none⟩ (.int .i64 r0)).setCell ⟨tb, i * 6 + 2, none⟩ (.int .i64 r1)).setCell ⟨tb, i * 6 + 3, none⟩ (.int .i64 r2)).setCell ⟨tb, i * 6 + 4, none⟩ (.int .i64 r3)).setCell ⟨tb, i * 6 + 5, none⟩ (.slice xa xn xc)).cell? ⟨gx + 2, 2, none⟩ = some (.bool bad) := qcb HGN.out 2
   have n3 : X.frozen? ⟨gx + 2, 1, none⟩ = false := qfb HGX4.out 1
   have n4 : X.frozen? ⟨gx + 2, 2, none⟩ = false := qfb HGX4.out 2
   refine wp_region_noPanic ?_
   refine wp_region_tail (n0 := 17) (S := fun x => Below X.heap.size X x) (by kernel_rfl) ((Below.refl _ _).drew) (fun hZ => ?_)
   refine qtF 0 60 ?vzb1 rfl ?hyzb1 (fun _ => hZ) ?_
   case hyzb1 => (intro _ _; go_simp <;> rfl)
   simp only [Act.put, qz1, qz2, qz3]
   refine qtT [16, 17, 18, 19, 20, 21] 1 61 ?vzb2 rfl ?hyzb2 hZ ?_
   case hyzb2 => (intro x h; have e := C4.out x h; go_simp <;> rfl)
   simp only [Act.put, qz1, qz2, qz3]
   refine qtF 2 62 ?vzb3 rfl ?hyzb3 (fun _ => hZ) ?_
   case hyzb3 => (intro _ _; go_simp <;> rfl)
   simp only [Act.put, qz1, qz2, qz3]
   refine qtT [16, 17, 18, 19, 20, 21] 3 63 ?vzb4 rfl ?hyzb4 hZ ?_
   case hyzb4 => (intro x h; have e := C4.out x h; go_simp <;> rfl)
   simp only [Act.put, qz1, qz2, qz3]
   refine qtF 4 64 ?vzb5 rfl ?hyzb5 (fun _ => hZ) ?_
   case hyzb5 => (intro _ _; go_simp <;> rfl)
   simp only [Act.put, qz1, qz2, qz3]
   refine qtF 5 65 ?vzb6 rfl ?hyzb6 (fun _ => hZ) ?_
   case hyzb6 => (intro _ _; go_simp <;> rfl)
   simp only [Act.put, qz1, qz2, qz3]
   refine qtF 6 66 ?vzb7 rfl ?hyzb7 (fun _ => hZ) ?_
   case hyzb7 => (intro _ _; go_simp <;> rfl)
   simp only [Act.put, qz1, qz2, qz3]
   refine qtT [16, 17, 18, 19, 20, 21] 7 67 ?vzb8 rfl ?hyzb8 hZ ?_
   case hyzb8 => (intro x h; have e := C4.out x h; go_simp <;> rfl)
   simp only [Act.put, qz1, qz2, qz3]
   refine qtF 8 68 ?vzb9 rfl ?hyzb9 (fun _ => hZ) ?_
   case hyzb9 => (intro _ _; go_simp <;> rfl)
   simp only [Act.put, qz1, qz2, qz3]
   refine qtF 9 69 ?vzb10 rfl ?hyzb10 (fun _ => hZ) ?_
   case hyzb10 => (intro _ _; go_simp <;> rfl)
   simp only [Act.put, qz1, qz2, qz3]
   refine qtF 10 70 ?vzb11 rfl ?hyzb11 (fun _ => hZ) ?_
   case hyzb11 => (intro _ _; go_simp <;> rfl)
   simp only [Act.put, qz1, qz2, qz3]
   refine qtT [16, 17, 18, 19, 20, 21] 11 71 ?vzb12 rfl ?hyzb12 hZ ?_
   case hyzb12 => (intro x h; have e := C4.out x h; go_simp <;> rfl)
   simp only [Act.put, qz1, qz2, qz3]
   refine qtF 12 72 ?vzb13 rfl ?hyzb13 (fun _ => hZ) ?_
   case hyzb13 => (intro _ _; go_simp <;> rfl)
   simp only [Act.put, qz1, qz2, qz3]
   refine qtF 13 73 ?vzb14 rfl ?hyzb14 (fun _ => hZ) ?_
   case hyzb14 => (intro _ _; go_simp <;> rfl)
   simp only [Act.put, qz1, qz2, qz3]
   refine qtF 14 74 ?vzb15 rfl ?hyzb15 (fun _ => hZ) ?_
   case hyzb15 => (intro _ _; go_simp <;> rfl)
   simp only [Act.put, qz1, qz2, qz3]
   refine qtT [16, 17, 18, 19, 20, 21] 15 75 ?vzb16 rfl ?hyzb16 hZ ?_
   case hyzb16 => (intro x h; have e := C4.out x h; go_simp <;> rfl)
   simp only [Act.put, qz1, qz2, qz3]
   refine qtF 16 76 ?vzb17 rfl ?hyzb17 (fun _ => hZ) ?_
   case hyzb17 => (intro _ _; go_simp <;> rfl)
   simp only [Act.put, qz1, qz2, qz3]
   refine qrT 17 rfl (fun K hK => ?_)
   go_simp
   refine hK.out _ _ (fun h => absurd rfl h) ?_
   clear hK K
   refine qtF 18 77 ?vzb18 rfl ?hyzb18 (fun h => absurd h (by decide +kernel)) ?_
   case hyzb18 => (intro _ _; go_simp <;> rfl)
   simp only [Act.put, qz1, qz2, qz3]
   refine qrT 19 rfl (fun K hK => ?_)
   go_simp
   refine hK.out _ _ (fun _ h => absurd h (by decide +kernel)) ?_
   clear hK K
   refine qtF 20 78 ?vzb19 rfl ?hyzb19 (fun h => absurd h (by decide +kernel)) ?_
   case hyzb19 => (intro _ _; go_simp <;> rfl)
   simp only [Act.put, qz1, qz2, qz3]
   refine qrT 21 rfl (fun K hK => ?_)
   go_simp
   refine hK.out _ _ (fun _ h => absurd h (by decide +kernel)) ?_
   clear hK K
   refine wpAnyT_done (by kernel_rfl) ?_ _
   refine NoPanic.normal ?_
   clear n1 n2 n3 n4 t0 u0 t1 u1 t2 u2 t3 u3 t4 u4 t5 u5
   go_upto_region 11 with fail
   obtain ⟨hst, hzb, hzs, hzw⟩ := HENDS.out _ _ _ _ _ _ _ _ _ _ _ _ _ _ _ _ _ _ _ _ _ _ _ _ HRUN3.out HG3.out (qlb H3.out) (by rw [HGX.out]; omega) (HB.out.trans (HW3.out.mono HB.out.size)) HRW.out HB4.out HB.out.size (((((((((X.setCell ⟨tb, i * 6, none⟩ (.int .i64 tp)).setCell ⟨tb, i * 6 + 1, none⟩ (.int .i64 r0)).setCell ⟨tb, i * 6 + 2, none⟩ (.int .i64 r1)).setCell ⟨tb, i * 6 + 3, none⟩ (.int .i64 r2)).setCell ⟨tb, i * 6 + 4, none⟩ (.int .i64 r3)).setCell ⟨tb, i * 6 + 5, none⟩ (.slice xa xn xc)).setCell ⟨gx + 2, 1, none⟩ (.slice (some ⟨mb, 0, none⟩) mem'.length mcc)).setCell ⟨gx + 2, 2, none⟩ (.bool bad')).drew) (by rw [HXE.out]; exact drew_out _ _ _ _ _ _ _ _ _ _ _ _ _ _ _ _ _)
   have HG5 : Hid (X.heap[gx + 4]? = _) := (HSX.out.block (gx + 4) (Nat.lt_of_lt_of_le (qlb H5.out) (Nat.le_trans HW3.out.size HB4.out.size)) (by omega)).trans ((HB4.out.block _ (Nat.lt_of_lt_of_le (qlb H5.out) HW3.out.size)).trans ((HW3.out.block _ (qlb H5.out)).trans H5.out))
   have HG5Z := (hzs.block (gx + 4) (Nat.lt_of_lt_of_le (qlb H5.out) (Nat.le_trans HW3.out.size HB4.out.size)) (by have := (HRW.out.lt tb rfl).1; have := HW3.out.size; have := qlb H5.out; omega)).trans ((HB4.out.block _ (Nat.lt_of_lt_of_le (qlb H5.out) HW3.out.size)).trans ((HW3.out.block _ (qlb H5.out)).trans H5.out))
   generalize ((((((((X.setCell ⟨tb, i * 6, none⟩ (.int .i64 tp)).setCell ⟨tb, i * 6 + 1, none⟩ (.int .i64 r0)).setCell ⟨tb, i * 6 + 2, none⟩ (.int .i64 r1)).setCell ⟨tb, i * 6 + 3, none⟩ (.int .i64 r2)).setCell ⟨tb, i * 6 + 4, none⟩ (.int .i64 r3)).setCell ⟨tb, i * 6 + 5, none⟩ (.slice xa xn xc)).setCell ⟨gx + 2, 1, none⟩ (.slice (some ⟨mb, 0, none⟩) mem'.length mcc)).setCell ⟨gx + 2, 2, none⟩ (.bool bad')).drew = Z at hst hzb hzs hzw HG5Z ⊢
   have z0 : Z.cell? ⟨gx + 2, 0, none⟩ = some (.slice (some ⟨tb, 0, none⟩) n tcc) := qcb hzb 0
   have z1 : Z.cell? ⟨gx + 2, 1, none⟩ = some (.slice (some ⟨mb, 0, none⟩) mem'.length mcc) := qcb hzb 1
   have z2 : Z.cell? ⟨gx + 2, 2, none⟩ = some (.bool bad') := qcb hzb 2
   obtain ⟨⟨q0, q1, q2⟩, ⟨f0, f1, f2⟩, hend⟩ := res_box (w := w) HG5Z hzw (by rw [HGX.out]; omega)
   obtain ⟨hset, hsi, hbe⟩ := hend (.slice (some ⟨tb, 0, none⟩) n tcc) (.slice (some ⟨mb, 0, none⟩) mem'.length mcc) (.bool bad')
   have HFIN := qh (hst (gx + 4) _ (by rw [HGX.out]; omega) (qlb H5.out) hsi)
   have HSET := qh hset
   have HBE := qh hbe
   clear hset hbe hend hsi hst hzb hzs hzw HG5Z
   go_wp2_with fail
   (try simp only [Exit.inBlock, Exit.then])
   refine bodyPost_ret (results_cell1 rfl _ _ (gx + 4) 30 _ (0, 0) _ rfl HSET.out Tryz.underlying30 rfl state_size) rfl ?_
   exact ⟨HBE.out, .inr ⟨_, _, _, _, _, _, _, HRS.out, rfl, HFIN.out⟩⟩
 subst hk1
 by_cases hv0 : vr = 0
 rotate_left
 ·have hv1 : ((vr : Int) == 0) = false := by simp [hv0]
  have hr := HR3.out (fun h => hv0 h.2) (by omega)
  have HRR := qh hr
  clear hr HR1 HR2 HR3 HSTEP HFLUSH hv0
  clear k3 k4
  have hr : R = none := HRR.out
  have HRN := qh hr
  clear hr
  obtain ⟨⟨q0, q1, q2⟩, ⟨f0, f1, f2⟩, hend⟩ := res_box (w := w) ((HW1.out.block (gx + 4) (qlb H5.out)).trans H5.out) (HB.out.trans (HW1.out.mono HB.out.size)) (by rw [HGX.out]; omega)
  obtain ⟨hset, -, hbe⟩ := hend (.slice none 0 0) (.slice none 0 0) (.bool false)
  have HSET := qh hset
  have HBE := qh hbe
  clear hset hbe hend
  go_wp2_with fail
  (try simp only [Exit.inBlock, Exit.then])
  refine bodyPost_ret (results_cell1 rfl _ _ (gx + 4) 30 _ (0, 0) _ rfl HSET.out Tryz.underlying30 rfl state_size) rfl ?_
  exact ⟨HBE.out, .inl ⟨HRN.out, rfl⟩⟩
 subst hv0
 have HRR := qh (HR1.out rfl rfl)
 clear HR1 HR2 HR3 HFLUSH
 go_wp2_with fail
 refine (HSTEP.out W1 W.heap.size gr mb mcc HRUN.out HW1.out.size (HB.out.trans (HW1.out.mono HB.out.size)) HB.out.size).mono ?_
 rintro e W3 ⟨hbe, ⟨hres, rfl⟩ | ⟨⟨tp, trg, tbf⟩, mem', bad', bv, hres, rfl, hrl', hrun⟩⟩
 ·have HW3 : Hid (Below W.heap.size W W3) := HW1.out.trans hbe
  clear k0 k1 k2 k3 k4 hbe
  have hr : R = none := by rw [HRR.out, hres]; rfl
  have HRN := qh hr
  clear hr
  obtain ⟨⟨q0, q1, q2⟩, ⟨f0, f1, f2⟩, hend⟩ := res_box (w := w) ((HW3.out.block (gx + 4) (qlb H5.out)).trans H5.out) (HB.out.trans (HW3.out.mono HB.out.size)) (by rw [HGX.out]; omega)
  obtain ⟨hset, -, hbe⟩ := hend (.slice none 0 0) (.slice none 0 0) (.bool false)
  have HSET := qh hset
  have HBE := qh hbe
  clear hset hbe hend
  go_wp2_with fail
  (try simp only [Exit.inBlock, Exit.then])
  refine bodyPost_ret (results_cell1 rfl _ _ (gx + 4) 30 _ (0, 0) _ rfl HSET.out Tryz.underlying30 rfl state_size) rfl ?_
  exact ⟨HBE.out, .inl ⟨HRN.out, rfl⟩⟩
 ·have HW3 : Hid (Below W.heap.size W W3) := HW1.out.trans hbe
  clear k0 k1 k2 k3 k4 hbe
  simp only [] at hres hrl' hrun
  obtain ⟨r0, r1, r2, r3, rfl⟩ := four_of hrl'
  simp only [List.getD_cons_zero, List.getD_cons_succ] at hrun
  obtain ⟨xa, xc, rfl, -⟩ := SliceR.slice hrun.bufAt
  obtain ⟨xn, hxn⟩ : ∃ n, n = tbf.length := ⟨_, rfl⟩
  rw [← hxn] at hrun
  clear hxn
  have hr : R = some ⟨ts.set i ⟨tp, [r0, r1, r2, r3], tbf⟩, mem', bad'⟩ := by rw [HRR.out, hres]; rfl
  have HRS := qh hr
  have HRUN3 := qh hrun
  clear hr hres hrl' hrun HRUN
  have HG3 : Hid (W3.heap[gx + 2]? = some (.cells #[.slice (some ⟨eb, eo, none⟩) n tc0, .slice ma mn mc0, .bool bad] 30 (0, 0))) := (HW3.out.block _ (qlb H3.out)).trans H3.out
  have p0 : W3.cell? ⟨gx + 2, 0, none⟩ = some (.slice (some ⟨eb, eo, none⟩) n tc0) := qcb HG3.out 0
  go_wp2_with fail
  refine (HCLT.out W3 (HB.out.trans (HW3.out.mono HB.out.size))).mono ?_
  rintro e W4 ⟨⟨tba, tcc, rfl, hrw⟩, hb4⟩
  obtain ⟨tb, rfl⟩ := threads_ptr hrw (by rw [← HN.out]; exact htl1)
  have HRW := qh hrw
  have HB4 := qh hb4
  clear hrw hb4 p0
  have HG4 : Hid (W4.heap[gx + 2]? = some (.cells #[.slice (some ⟨eb, eo, none⟩) n tc0, .slice ma mn mc0, .bool bad] 30 (0, 0))) := (HB4.out.block _ (qlb HG3.out)).trans HG3.out
  have p0 : W4.cell? ⟨gx + 2, 0, none⟩ = some (.slice (some ⟨eb, eo, none⟩) n tc0) := qcb HG4.out 0
  have p1 : W4.frozen? ⟨gx + 2, 0, none⟩ = false := qfb HG4.out 0
  go_upto_region 10 with fail
  clear p0 p1
  have HNE : Hid (tb ≠ gx + 2 ∧ gx + 3 ≠ gx + 2 ∧ gr ≠ gx + 2) := ⟨by have := (HRW.out.lt tb rfl).1; have := qlb HG3.out; omega, by omega, by have := HRUN3.out.base; have := qlb H3.out; omega⟩
  have HSX : Hid (Since (fun k => k = gx + 2) W4 (W4.setCell ⟨gx + 2, 0, none⟩ (.slice (some ⟨tb, 0, none⟩) n tcc))) := Since.setCell (F := fun k => k = gx + 2) (p := ⟨gx + 2, 0, none⟩) (Since.refl _ _) (.inl rfl) _
  have HGX4 : Hid ((W4.setCell ⟨gx + 2, 0, none⟩ (.slice (some ⟨tb, 0, none⟩) n tcc)).heap[gx + 2]? = some (.cells #[.slice (some ⟨tb, 0, none⟩) n tcc, .slice ma mn mc0, .bool bad] 30 (0, 0))) := set_of_block HG4.out 0 _
  obtain ⟨X, hX⟩ : ∃ X, X = W4.setCell ⟨gx + 2, 0, none⟩ (.slice (some ⟨tb, 0, none⟩) n tcc) := ⟨_, rfl⟩
  rw [← hX] at HSX HGX4 ⊢
  have HXE := qh hX
  clear hX
  have HRX := qh (HSX.out.row HRW.out (fun k hk e => by cases hk; exact HNE.out.1 e))
  have HR4 := qh (HRUN3.out.below HB4.out)
  have HGR : Hid (X.heap[gr]? = _) := (HSX.out.block gr (qlb HR4.out.block) HNE.out.2.2).trans HR4.out.block
  have HG33 : Hid (X.heap[gx + 3]? = _) := (HSX.out.block (gx + 3) (Nat.lt_of_lt_of_le (qlb H4.out) (Nat.le_trans HW3.out.size HB4.out.size)) HNE.out.2.1).trans ((HB4.out.block _ (Nat.lt_of_lt_of_le (qlb H4.out) HW3.out.size)).trans ((HW3.out.block _ (qlb H4.out)).trans H4.out))
  have C4 : Hid (∀ x, Below X.heap.size X x → x.cell? ⟨gx + 2, 0, none⟩ = some (.slice (some ⟨tb, 0, none⟩) n tcc) ∧ x.cell? ⟨gx + 3, 1, none⟩ = some (.int .i64 (i : Int)) ∧ x.cell? ⟨gr, 0, none⟩ = some (.int .i64 tp) ∧ x.cell? ⟨gr, 1, none⟩ = some (.int .i64 r0) ∧ x.cell? ⟨gr, 2, none⟩ = some (.int .i64 r1) ∧ x.cell? ⟨gr, 3, none⟩ = some (.int .i64 r2) ∧ x.cell? ⟨gr, 4, none⟩ = some (.int .i64 r3) ∧ x.cell? ⟨gr, 5, none⟩ = some (.slice xa xn xc) ∧ x.cell? ⟨gr, 9, none⟩ = some (.slice (some ⟨mb, 0, none⟩) mem'.length mcc) ∧ x.cell? ⟨gr, 10, none⟩ = some (.bool bad')) := fun x hx => ⟨qck hx _ _ (qcb HGX4.out 0), qck hx _ _ (qcb HG33.out 1), qck hx _ _ (qcb HGR.out 0), qck hx _ _ (qcb HGR.out 1), qck hx _ _ (qcb HGR.out 2), qck hx _ _ (qcb HGR.out 3), qck hx _ _ (qcb HGR.out 4), qck hx _ _ (qcb HGR.out 5), qck hx _ _ (qcb HGR.out 9), qck hx _ _ (qcb HGR.out 10)⟩
  obtain ⟨⟨v0, hv0⟩, ⟨v1, hv1⟩, ⟨v2, hv2⟩, ⟨v3, hv3⟩, ⟨v4, hv4⟩, ⟨v5, hv5⟩⟩ := (⟨HOLD.out 0 (by omega), HOLD.out 1 (by omega), HOLD.out 2 (by omega), HOLD.out 3 (by omega), HOLD.out 4 (by omega), HOLD.out 5 (by omega)⟩ : (∃ u, (threadsC ts bs)[i * 6 + 0]? = some u) ∧ (∃ u, (threadsC ts bs)[i * 6 + 1]? = some u) ∧ (∃ u, (threadsC ts bs)[i * 6 + 2]? = some u) ∧ (∃ u, (threadsC ts bs)[i * 6 + 3]? = some u) ∧ (∃ u, (threadsC ts bs)[i * 6 + 4]? = some u) ∧ (∃ u, (threadsC ts bs)[i * 6 + 5]? = some u))
  obtain ⟨t0, u0⟩ : X.cell? ⟨tb, i * 6, none⟩ = some v0 ∧ X.frozen? ⟨tb, i * 6, none⟩ = false := by obtain ⟨g, cap, he, -, h1, h2⟩ := row_ptr HRX.out hv0; cases he; exact ⟨h1, h2⟩
  obtain ⟨t1, u1⟩ : X.cell? ⟨tb, i * 6 + 1, none⟩ = some v1 ∧ X.frozen? ⟨tb, i * 6 + 1, none⟩ = false := by obtain ⟨g, cap, he, -, h1, h2⟩ := row_ptr HRX.out hv1; cases he; exact ⟨h1, h2⟩
  obtain ⟨t2, u2⟩ : X.cell? ⟨tb, i * 6 + 2, none⟩ = some v2 ∧ X.frozen? ⟨tb, i * 6 + 2, none⟩ = false := by obtain ⟨g, cap, he, -, h1, h2⟩ := row_ptr HRX.out hv2; cases he; exact ⟨h1, h2⟩
  obtain ⟨t3, u3⟩ : X.cell? ⟨tb, i * 6 + 3, none⟩ = some v3 ∧ X.frozen? ⟨tb, i * 6 + 3, none⟩ = false := by obtain ⟨g, cap, he, -, h1, h2⟩ := row_ptr HRX.out hv3; cases he; exact ⟨h1, h2⟩
  obtain ⟨t4, u4⟩ : X.cell? ⟨tb, i * 6 + 4, none⟩ = some v4 ∧ X.frozen? ⟨tb, i * 6 + 4, none⟩ = false := by obtain ⟨g, cap, he, -, h1, h2⟩ := row_ptr HRX.out hv4; cases he; exact ⟨h1, h2⟩
  obtain ⟨t5, u5⟩ : X.cell? ⟨tb, i * 6 + 5, none⟩ = some v5 ∧ X.frozen? ⟨tb, i * 6 + 5, none⟩ = false := by obtain ⟨g, cap, he, -, h1, h2⟩ := row_ptr HRX.out hv5; cases he; exact ⟨h1, h2⟩
  clear hv0 hv1 hv2 hv3 hv4 hv5
  have HSN : Hid (Since (fun k => k = tb) X ((((((X.setCell ⟨tb, i * 6, none⟩ (.int .i64 tp)).setCell ⟨tb, i * 6 + 1, none⟩ (.int .i64 r0)).setCell ⟨tb, i * 6 + 2, none⟩ (.int .i64 r1)).setCell ⟨tb, i * 6 + 3, none⟩ (.int .i64 r2)).setCell ⟨tb, i * 6 + 4, none⟩ (.int .i64 r3)).setCell ⟨tb, i * 6 + 5, none⟩ (.slice xa xn xc))) := (((((((Since.refl (fun k => k = tb) X).setCell (p := ⟨tb, i * 6, none⟩) (.inl rfl) (.int .i64 tp)).setCell (p := ⟨tb, i * 6 + 1, none⟩) (.inl rfl) (.int .i64 r0)).setCell (p := ⟨tb, i * 6 + 2, none⟩) (.inl rfl) (.int .i64 r1)).setCell (p := ⟨tb, i * 6 + 3, none⟩) (.inl rfl) (.int .i64 r2)).setCell (p := ⟨tb, i * 6 + 4, none⟩) (.inl rfl) (.int .i64 r3)).setCell (p := ⟨tb, i * 6 + 5, none⟩) (.inl rfl) (.slice xa xn xc))
  have HGN := qh ((HSN.out.block (gx + 2) (qlb HGX4.out) (fun e => HNE.out.1 e.symm)).trans HGX4.out)
  have n1 : ((((((X.setCell ⟨tb, i * 6, none⟩ (.int .i64 tp)).setCell ⟨tb, i * 6 + 1, none⟩ (.int .i64 r0)).setCell ⟨tb, i * 6 + 2, none⟩ (.int .i64 r1)).setCell ⟨tb, i * 6 + 3, none⟩ (.int .i64 r2)).setCell ⟨tb, i * 6 + 4, none⟩ (.int .i64 r3)).setCell ⟨tb, i * 6 + 5, none⟩ (.slice xa xn xc)).cell? ⟨gx + 2, 1, none⟩ = some (.slice ma mn mc0) := qcb HGN.out 1
  have n2 : ((((((X.setCell ⟨tb, i * 6, none⟩ (.int .i64 tp)).setCell ⟨tb, i * 6 + 1, none⟩ (.int .i64 r0)).setCell ⟨tb, i * 6 + 2, none⟩ (.int .i64 r1)).setCell ⟨tb, i * 6 + 3, none⟩ (.int .i64 r2)).setCell ⟨tb, i * 6 + 4, none⟩ (.int .i64 r3)).setCell ⟨tb, i * 6 + 5, none⟩ (.slice xa xn xc)).cell? ⟨gx + 2, 2, none⟩ = some (.bool bad) := qcb HGN.out 2
  have n3 : X.frozen? ⟨gx + 2, 1, none⟩ = false := qfb HGX4.out 1
  have n4 : X.frozen? ⟨gx + 2, 2, none⟩ = false := qfb HGX4.out 2
  refine wp_region_noPanic ?_
  refine wp_region_tail (n0 := 17) (S := fun x => Below X.heap.size X x) (by kernel_rfl) ((Below.refl _ _).drew) (fun hZ => ?_)
  refine qtF 0 60 ?vza1 rfl ?hyza1 (fun _ => hZ) ?_
  case hyza1 => (intro _ _; go_simp <;> rfl)
  simp only [Act.put, qz1, qz2, qz3]
  refine qtT [16, 17, 18, 19, 20, 21] 1 61 ?vza2 rfl ?hyza2 hZ ?_
  case hyza2 => (intro x h; have e := C4.out x h; go_simp <;> rfl)
  simp only [Act.put, qz1, qz2, qz3]
  refine qtF 2 62 ?vza3 rfl ?hyza3 (fun _ => hZ) ?_
  case hyza3 => (intro _ _; go_simp <;> rfl)
  simp only [Act.put, qz1, qz2, qz3]
  refine qtT [16, 17, 18, 19, 20, 21] 3 63 ?vza4 rfl ?hyza4 hZ ?_
  case hyza4 => (intro x h; have e := C4.out x h; go_simp <;> rfl)
  simp only [Act.put, qz1, qz2, qz3]
  refine qtF 4 64 ?vza5 rfl ?hyza5 (fun _ => hZ) ?_
  case hyza5 => (intro _ _; go_simp <;> rfl)
  simp only [Act.put, qz1, qz2, qz3]
  refine qtF 5 65 ?vza6 rfl ?hyza6 (fun _ => hZ) ?_
  case hyza6 => (intro _ _; go_simp <;> rfl)
  simp only [Act.put, qz1, qz2, qz3]
  refine qtF 6 66 ?vza7 rfl ?hyza7 (fun _ => hZ) ?_
  case hyza7 => (intro _ _; go_simp <;> rfl)
  simp only [Act.put, qz1, qz2, qz3]
  refine qtT [16, 17, 18, 19, 20, 21] 7 67 ?vza8 rfl ?hyza8 hZ ?_
  case hyza8 => (intro x h; have e := C4.out x h; go_simp <;> rfl)
  simp only [Act.put, qz1, qz2, qz3]
  refine qtF 8 68 ?vza9 rfl ?hyza9 (fun _ => hZ) ?_
  case hyza9 => (intro _ _; go_simp <;> rfl)
  simp only [Act.put, qz1, qz2, qz3]
  refine qtF 9 69 ?vza10 rfl ?hyza10 (fun _ => hZ) ?_
  case hyza10 => (intro _ _; go_simp <;> rfl)
  simp only [Act.put, qz1, qz2, qz3]
  refine qtF 10 70 ?vza11 rfl ?hyza11 (fun _ => hZ) ?_
  case hyza11 => (intro _ _; go_simp <;> rfl)
  simp only [Act.put, qz1, qz2, qz3]
  refine qtT [16, 17, 18, 19, 20, 21] 11 71 ?vza12 rfl ?hyza12 hZ ?_
  case hyza12 => (intro x h; have e := C4.out x h; go_simp <;> rfl)
  simp only [Act.put, qz1, qz2, qz3]
  refine qtF 12 72 ?vza13 rfl ?hyza13 (fun _ => hZ) ?_
  case hyza13 => (intro _ _; go_simp <;> rfl)
  simp only [Act.put, qz1, qz2, qz3]
  refine qtF 13 73 ?vza14 rfl ?hyza14 (fun _ => hZ) ?_
  case hyza14 => (intro _ _; go_simp <;> rfl)
  simp only [Act.put, qz1, qz2, qz3]
  refine qtF 14 74 ?vza15 rfl ?hyza15 (fun _ => hZ) ?_
  case hyza15 => (intro _ _; go_simp <;> rfl)
  simp only [Act.put, qz1, qz2, qz3]
  refine qtT [16, 17, 18, 19, 20, 21] 15 75 ?vza16 rfl ?hyza16 hZ ?_
  case hyza16 => (intro x h; have e := C4.out x h; go_simp <;> rfl)
  simp only [Act.put, qz1, qz2, qz3]
  refine qtF 16 76 ?vza17 rfl ?hyza17 (fun _ => hZ) ?_
  case hyza17 => (intro _ _; go_simp <;> rfl)
  simp only [Act.put, qz1, qz2, qz3]
  refine qrT 17 rfl (fun K hK => ?_)
  go_simp
  refine hK.out _ _ (fun h => absurd rfl h) ?_
  clear hK K
  refine qtF 18 77 ?vza18 rfl ?hyza18 (fun h => absurd h (by decide +kernel)) ?_
  case hyza18 => (intro _ _; go_simp <;> rfl)
  simp only [Act.put, qz1, qz2, qz3]
  refine qrT 19 rfl (fun K hK => ?_)
  go_simp
  refine hK.out _ _ (fun _ h => absurd h (by decide +kernel)) ?_
  clear hK K
  refine qtF 20 78 ?vza19 rfl ?hyza19 (fun h => absurd h (by decide +kernel)) ?_
  case hyza19 => (intro _ _; go_simp <;> rfl)
  simp only [Act.put, qz1, qz2, qz3]
  refine qrT 21 rfl (fun K hK => ?_)
  go_simp
  refine hK.out _ _ (fun _ h => absurd h (by decide +kernel)) ?_
  clear hK K
  refine wpAnyT_done (by kernel_rfl) ?_ _
  refine NoPanic.normal ?_
  clear n1 n2 n3 n4 t0 u0 t1 u1 t2 u2 t3 u3 t4 u4 t5 u5
  go_upto_region 11 with fail
  obtain ⟨hst, hzb, hzs, hzw⟩ := HENDS.out _ _ _ _ _ _ _ _ _ _ _ _ _ _ _ _ _ _ _ _ _ _ _ _ HRUN3.out HG3.out (qlb H3.out) (by rw [HGX.out]; omega) (HB.out.trans (HW3.out.mono HB.out.size)) HRW.out HB4.out HB.out.size (((((((((X.setCell ⟨tb, i * 6, none⟩ (.int .i64 tp)).setCell ⟨tb, i * 6 + 1, none⟩ (.int .i64 r0)).setCell ⟨tb, i * 6 + 2, none⟩ (.int .i64 r1)).setCell ⟨tb, i * 6 + 3, none⟩ (.int .i64 r2)).setCell ⟨tb, i * 6 + 4, none⟩ (.int .i64 r3)).setCell ⟨tb, i * 6 + 5, none⟩ (.slice xa xn xc)).setCell ⟨gx + 2, 1, none⟩ (.slice (some ⟨mb, 0, none⟩) mem'.length mcc)).setCell ⟨gx + 2, 2, none⟩ (.bool bad')).drew) (by rw [HXE.out]; exact drew_out _ _ _ _ _ _ _ _ _ _ _ _ _ _ _ _ _)
  have HG5 : Hid (X.heap[gx + 4]? = _) := (HSX.out.block (gx + 4) (Nat.lt_of_lt_of_le (qlb H5.out) (Nat.le_trans HW3.out.size HB4.out.size)) (by omega)).trans ((HB4.out.block _ (Nat.lt_of_lt_of_le (qlb H5.out) HW3.out.size)).trans ((HW3.out.block _ (qlb H5.out)).trans H5.out))
  have HG5Z := (hzs.block (gx + 4) (Nat.lt_of_lt_of_le (qlb H5.out) (Nat.le_trans HW3.out.size HB4.out.size)) (by have := (HRW.out.lt tb rfl).1; have := HW3.out.size; have := qlb H5.out; omega)).trans ((HB4.out.block _ (Nat.lt_of_lt_of_le (qlb H5.out) HW3.out.size)).trans ((HW3.out.block _ (qlb H5.out)).trans H5.out))
  generalize ((((((((X.setCell ⟨tb, i * 6, none⟩ (.int .i64 tp)).setCell ⟨tb, i * 6 + 1, none⟩ (.int .i64 r0)).setCell ⟨tb, i * 6 + 2, none⟩ (.int .i64 r1)).setCell ⟨tb, i * 6 + 3, none⟩ (.int .i64 r2)).setCell ⟨tb, i * 6 + 4, none⟩ (.int .i64 r3)).setCell ⟨tb, i * 6 + 5, none⟩ (.slice xa xn xc)).setCell ⟨gx + 2, 1, none⟩ (.slice (some ⟨mb, 0, none⟩) mem'.length mcc)).setCell ⟨gx + 2, 2, none⟩ (.bool bad')).drew = Z at hst hzb hzs hzw HG5Z ⊢
  have z0 : Z.cell? ⟨gx + 2, 0, none⟩ = some (.slice (some ⟨tb, 0, none⟩) n tcc) := qcb hzb 0
  have z1 : Z.cell? ⟨gx + 2, 1, none⟩ = some (.slice (some ⟨mb, 0, none⟩) mem'.length mcc) := qcb hzb 1
  have z2 : Z.cell? ⟨gx + 2, 2, none⟩ = some (.bool bad') := qcb hzb 2
  obtain ⟨⟨q0, q1, q2⟩, ⟨f0, f1, f2⟩, hend⟩ := res_box (w := w) HG5Z hzw (by rw [HGX.out]; omega)
  obtain ⟨hset, hsi, hbe⟩ := hend (.slice (some ⟨tb, 0, none⟩) n tcc) (.slice (some ⟨mb, 0, none⟩) mem'.length mcc) (.bool bad')
  have HFIN := qh (hst (gx + 4) _ (by rw [HGX.out]; omega) (qlb H5.out) hsi)
  have HSET := qh hset
  have HBE := qh hbe
  clear hset hbe hend hsi hst hzb hzs hzw HG5Z
  go_wp2_with fail
  (try simp only [Exit.inBlock, Exit.then])
  refine bodyPost_ret (results_cell1 rfl _ _ (gx + 4) 30 _ (0, 0) _ rfl HSET.out Tryz.underlying30 rfl state_size) rfl ?_
  exact ⟨HBE.out, .inr ⟨_, _, _, _, _, _, _, HRS.out, rfl, HFIN.out⟩⟩
end Go.Proofs.YtliajkheeniljaaGreatDoor
