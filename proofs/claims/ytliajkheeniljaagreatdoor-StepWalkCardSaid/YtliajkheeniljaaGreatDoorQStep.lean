/- A thread's step: the document's answer: the walk. -/
import Derived.Deep.CutBlock
import Derived.Test.YtliajkheeniljaaGreatDoorQOwn
import Derived.Test.YtliajkheeniljaaGreatDoorQStepQ
import Derived.Test.YtliajkheeniljaaGreatDoorQShort
set_option linter.all false
namespace Go.Proofs.YtliajkheeniljaaGreatDoor
open Go.RowKit
set_option maxRecDepth 100000
set_option maxHeartbeats 16000000
structure RunAt (W X : World) (gb gi tb n tc mb mn mc : Nat) (bad : Bool) (ts : List ThreadD) (mem : List Int) (bs : List Value) (ics : List Value) : Prop where
 own : OwnL W X gb (.slice (some ⟨tb, 0, none⟩) n tc) (.slice (some ⟨mb, 0, none⟩) mn mc) bad ts mem bs
 instr : X.heap[gi]? = some (.cells ics.toArray 64 (0, 0))
 g1 : gi ≠ gb
 g2 : gi ≠ tb
 g3 : gi ≠ mb
theorem RunAt.below {W X X' : World} {gb gi tb n tc mb mn mc : Nat} {bad : Bool} {ts : List ThreadD} {mem : List Int} {bs ics : List Value} (h : RunAt W X gb gi tb n tc mb mn mc bad ts mem bs ics) (hb : Below X.heap.size X X') : RunAt W X' gb gi tb n tc mb mn mc bad ts mem bs ics :=
 ⟨h.own.later hb, (hb.block _ (qlb h.instr)).trans h.instr, h.g1, h.g2, h.g3⟩
theorem RunAt.thread {W X : World} {gb gi tb n tc mb mn mc : Nat} {bad : Bool} {ts : List ThreadD} {mem : List Int} {bs ics : List Value} (h : RunAt W X gb gi tb n tc mb mn mc bad ts mem bs ics) {i k : Nat} (hi : i < ts.length) (hk : k < 6) {t : ThreadD} {b u : Value}
  (hc : t.cells b = ((ts.getD i default).cells (bs.getD i (.slice none 0 0))).set k u) (hr : t.regs.length = 4) (hb : X.ownsRow W.heap.size 50 2 b t.buf.length (flatC EntryD.cells t.buf)) (hn : ∀ k, b.ownBlock = some k → k ≠ tb ∧ k ≠ mb ∧ k ≠ gb) :
  RunAt W (X.setCell ⟨tb, i * 6 + k, none⟩ u) gb gi tb n tc mb mn mc bad (ts.set i t) mem (bs.set i b) ics :=
 ⟨h.own.thread hi hk hc hr hb (fun k hk => ⟨(hn k hk).1, fun e => (hn k hk).2.1 (by simpa [Value.ownBlock] using e.symm), (hn k hk).2.2⟩), (Below.heap_setCell _ _ _ _ h.g2).trans h.instr, h.g1, h.g2, h.g3⟩
theorem RunAt.mem {W X : World} {gb gi tb n tc mb mn mc : Nat} {bad : Bool} {ts : List ThreadD} {mem : List Int} {bs ics : List Value} (h : RunAt W X gb gi tb n tc mb mn mc bad ts mem bs ics) (j : Nat) (x : Int) :
  RunAt W (X.setCell ⟨mb, j, none⟩ (.int .i64 x)) gb gi tb n tc mb mn mc bad ts (mem.set j x) bs ics :=
 ⟨h.own.mem j x, (Below.heap_setCell _ _ _ _ h.g3).trans h.instr, h.g1, h.g2, h.g3⟩
theorem RunAt.isBad {W X : World} {gb gi tb n tc mb mn mc : Nat} {bad : Bool} {ts : List ThreadD} {mem : List Int} {bs ics : List Value} (h : RunAt W X gb gi tb n tc mb mn mc bad ts mem bs ics) (b : Bool) :
  RunAt W (X.setCell ⟨gb, 2, none⟩ (.bool b)) gb gi tb n tc mb mn mc b ts mem bs ics :=
 ⟨h.own.isBad b, (Below.heap_setCell _ _ _ _ h.g1).trans h.instr, h.g1, h.g2, h.g3⟩
theorem RunAt.tcell {W X : World} {gb gi tb n tc mb mn mc : Nat} {bad : Bool} {ts : List ThreadD} {mem : List Int} {bs ics : List Value} (h : RunAt W X gb gi tb n tc mb mn mc bad ts mem bs ics) {i : Nat} (hi : i < ts.length) :
  ∀ k u, k < 6 → ((ts.getD i default).cells (bs.getD i (.slice none 0 0)))[k]? = some u → X.cell? ⟨tb, i * 6 + k, none⟩ = some u ∧ X.frozen? ⟨tb, i * 6 + k, none⟩ = false := by
 obtain ⟨tb', tc', e, -, h2⟩ := h.own.threads hi
 cases e
 exact h2
theorem RunAt.mcell {W X : World} {gb gi tb n tc mb mn mc : Nat} {bad : Bool} {ts : List ThreadD} {mem : List Int} {bs ics : List Value} (h : RunAt W X gb gi tb n tc mb mn mc bad ts mem bs ics) {j : Nat} (hj : j < mem.length) :
  X.cell? ⟨mb, j, none⟩ = some (.int .i64 (mem.getD j 0)) ∧ X.frozen? ⟨mb, j, none⟩ = false := by
 obtain ⟨mb', mc', e, -, h2⟩ := h.own.vars (by omega)
 cases e
 exact h2 j hj
theorem RunAt.buf {W X : World} {gb gi tb n tc mb mn mc : Nat} {bad : Bool} {ts : List ThreadD} {mem : List Int} {bs ics : List Value} (h : RunAt W X gb gi tb n tc mb mn mc bad ts mem bs ics) {i : Nat} (hi : i < ts.length) :
  X.ownsRow W.heap.size 50 2 (bs.getD i (.slice none 0 0)) (ts.getD i default).buf.length (flatC EntryD.cells (ts.getD i default).buf) ∧ ∀ k, (bs.getD i (.slice none 0 0)).ownBlock = some k → k ≠ tb ∧ k ≠ mb ∧ k ≠ gb :=
 ⟨h.own.own.buf i hi, fun k hk => ⟨fun e => (h.own.own.ne i hi k hk).1 (by rw [e]; rfl), fun e => (h.own.own.ne i hi k hk).2 (by rw [e]; rfl), fun e => h.own.n3 i hi (e ▸ hk)⟩⟩
theorem RunAt.set {W X : World} {gb gi tb n tc mb mn mc : Nat} {bad : Bool} {ts : List ThreadD} {mem : List Int} {bs ics : List Value} (h : RunAt W X gb gi tb n tc mb mn mc bad ts mem bs ics) {i k : Nat} (hi : i < ts.length) (hk : k < 6) {t t' : ThreadD} {b u : Value}
  (ht : ts.getD i default = t) (hbs : bs.getD i (.slice none 0 0) = b) (hc : t'.cells b = (t.cells b).set k u) (hr : t'.regs.length = 4) (hbf : t'.buf = t.buf) :
  RunAt W (X.setCell ⟨tb, i * 6 + k, none⟩ u) gb gi tb n tc mb mn mc bad (ts.set i t') mem (bs.set i b) ics ∧ (ts.set i t').getD i default = t' ∧ (bs.set i b).getD i (.slice none 0 0) = b ∧ i < (ts.set i t').length := by
 have hl := h.own.own.len
 have hB := h.buf hi
 rw [ht, hbs] at hB
 refine ⟨h.thread hi hk (by rw [ht, hbs]; exact hc) hr (by rw [hbf]; exact hB.1) hB.2, by rw [getD_set hi, if_pos rfl], by rw [getD_set (by rw [hl]; exact hi), if_pos rfl], by rw [List.length_set]; exact hi⟩
theorem RunAt.cells_of {W X : World} {gb gi tb n tc mb mn mc : Nat} {bad : Bool} {ts : List ThreadD} {mem : List Int} {bs ics : List Value} (h : RunAt W X gb gi tb n tc mb mn mc bad ts mem bs ics) {i : Nat} (hi : i < ts.length) {t : ThreadD} {b : Value}
  (ht : ts.getD i default = t) (hbs : bs.getD i (.slice none 0 0) = b) : ∀ k u, k < 6 → (t.cells b)[k]? = some u → X.cell? ⟨tb, i * 6 + k, none⟩ = some u ∧ X.frozen? ⟨tb, i * 6 + k, none⟩ = false := by
 have := h.tcell hi
 rw [ht, hbs] at this
 exact this
theorem regs_cells {pc r0 r1 r2 r3 v : Int} {bf : List EntryD} {b : Value} {k : Nat} (hk : k < 4) : (⟨pc, [r0, r1, r2, r3].set k v, bf⟩ : ThreadD).cells b = ((⟨pc, [r0, r1, r2, r3], bf⟩ : ThreadD).cells b).set (1 + k) (.int .i64 v) := by
 have : k = 0 ∨ k = 1 ∨ k = 2 ∨ k = 3 := by omega
 rcases this with rfl | rfl | rfl | rfl <;> rfl
theorem regs_get {pc r0 r1 r2 r3 : Int} {bf : List EntryD} {b : Value} {k : Nat} (hk : k < 4) : ((⟨pc, [r0, r1, r2, r3], bf⟩ : ThreadD).cells b)[1 + k]? = some (.int .i64 ([r0, r1, r2, r3].getD k 0)) := by
 have : k = 0 ∨ k = 1 ∨ k = 2 ∨ k = 3 := by omega
 rcases this with rfl | rfl | rfl | rfl <;> rfl
theorem regs_get0 {pc r0 r1 r2 r3 : Int} {bf : List EntryD} {b : Value} {k : Nat} (hk : k < 4) : ((⟨pc, [r0, r1, r2, r3].set k 0, bf⟩ : ThreadD).cells b)[1 + k]? = some (.int .i64 ([0, 0, 0, 0].getD k 0)) := by
 have : k = 0 ∨ k = 1 ∨ k = 2 ∨ k = 3 := by omega
 rcases this with rfl | rfl | rfl | rfl <;> rfl
theorem regs_cells3 {pc r0 r1 r2 r3 : Int} {bf : List EntryD} {b : Value} {k : Nat} (hk : k < 4) : (⟨pc, [r0, r1, r2, r3].set k 1, bf⟩ : ThreadD).cells b = ((⟨pc, [r0, r1, r2, r3].set k 0, bf⟩ : ThreadD).cells b).set (1 + k) (.int .i64 1) := by
 have : k = 0 ∨ k = 1 ∨ k = 2 ∨ k = 3 := by omega
 rcases this with rfl | rfl | rfl | rfl <;> rfl
theorem fin_none {R : Option StateD} {xa ya : Option Addr} {xn xc yn yc B : Nat} {b : Bool} {X : World} (h : R = none) : ∃ xa' xn' xc' ya' yn' yc' s', Ending.returned (.tuple #[.agg #[.slice xa xn xc, .slice ya yn yc, .bool b], .bool false]) = .returned (.tuple #[stateV s' (.slice xa' xn' xc') (.slice ya' yn' yc'), .bool R.isSome]) ∧ ∀ t, R = some t → s' = t ∧ ∃ bs, OwnAt B X (.slice xa' xn' xc') (.slice ya' yn' yc') t.threads t.mem bs :=
 ⟨xa, xn, xc, ya, yn, yc, ⟨[], [], b⟩, by rw [h]; rfl, fun t e => by rw [h] at e; cases e⟩
theorem fin_some {R : Option StateD} {xa ya : Option Addr} {xn xc yn yc B : Nat} {s : StateD} {bs : List Value} {X : World} (h : R = some s) (hs : OwnAt B X (.slice xa xn xc) (.slice ya yn yc) s.threads s.mem bs) : ∃ xa' xn' xc' ya' yn' yc' s', Ending.returned (.tuple #[.agg #[.slice xa xn xc, .slice ya yn yc, .bool s.bad], .bool true]) = .returned (.tuple #[stateV s' (.slice xa' xn' xc') (.slice ya' yn' yc'), .bool R.isSome]) ∧ ∀ t, R = some t → s' = t ∧ ∃ bs, OwnAt B X (.slice xa' xn' xc') (.slice ya' yn' yc') t.threads t.mem bs :=
 ⟨xa, xn, xc, ya, yn, yc, s, by rw [h]; rfl, fun t e => by rw [h] at e; cases e; exact ⟨rfl, bs, hs⟩⟩
theorem AppT.store12 {e t : TypeId} {size : Nat} {V X : World} {v : Value} {n : Nat} {xs : List Value} {bs : List (Nat × List Value)} (h : AppT e size t V X v n xs bs) {g : Nat} {cs : List Value} (hb : (g, cs) ∈ bs) (l : List Value) (hl : cs.length = l.length) :
  Below V.heap.size V (setAll X g 0 l) ∧ (setAll X g 0 l).heap[g]? = some (.cells l.toArray t (0, 0)) ∧ V.heap.size ≤ g := by
 obtain ⟨h1, -, h3⟩ := h.news _ hb
 exact ⟨h.below.trans ((setAll_since l X 0).below h.below.size (fun k e => by omega)), setAll_new l hl h1, h3⟩
theorem step_any (w : World) (c : CodeD) (cv : Value) (d : Nat) (hc : RowsAt d w cv c.threads) (m : MachD) (s : StateD) (sv mv : Value) (hs : StateAt w s sv mv) (hfit : fitsOk c m s = true) (i : Nat) (hi : i < s.threads.length) (hb : ∀ j, j < s.threads.length → (s.threads.getD j default).buf.length ≤ 100000) :
  Calls Tryz.prog 62 #[codeV c cv, machV m, stateV s sv mv, .int .i64 i] w fun e w' => (∃ xa xn xc ya yn yc s', e = .returned (.tuple #[stateV s' (.slice xa xn xc) (.slice ya yn yc), .bool (stepS c m s i d).isSome]) ∧ ∀ t, stepS c m s i d = some t → s' = t ∧ ∃ bs, OwnAt w.heap.size w' (.slice xa xn xc) (.slice ya yn yc) t.threads t.mem bs) ∧ Below w.heap.size w w' := by
 obtain ⟨hcode, hmay, hlen, hmem, hpcs⟩ := fits_facts hfit
 have hbd := codeOk_bounds hcode
 obtain ⟨hpc0, hpc1⟩ := hpcs i hi
 have hins := fun k (hk : k < (c.threads.getD i []).length) => code_instr hcode (i := i) (k := k) (by rw [← hlen]; exact hi) hk
 clear hcode hmay hpcs hfit
 obtain ⟨ca, cc, rfl, -⟩ := SliceR.slice hc
 obtain ⟨ta, tc0, rfl, -⟩ := SliceR.slice hs.threads
 obtain ⟨ma, mc0, rfl, -⟩ := SliceR.slice hs.mem
 have hown := fun W hW => own_any W s (.slice ta s.threads.length tc0) (.slice ma s.mem.length mc0) hW (by omega) (by omega) (fun j hj => by have := hb j hj; omega)
 obtain ⟨R, hR⟩ : ∃ R, R = stepS c m s i d := ⟨_, rfl⟩
 rw [← hR]
 obtain ⟨l, hl⟩ : ∃ l, l = c.threads.getD i [] := ⟨_, rfl⟩
 obtain ⟨t, ht⟩ : ∃ t, t = s.threads.getD i default := ⟨_, rfl⟩
 have hR2 : R = if t.pc < (l.length : Int) then (stepT c m s t (l.getD t.pc.toNat default) d).map (fun r => ⟨s.threads.set i r.1, r.2.1, r.2.2⟩) else none := by rw [hR, hl, ht]; rfl
 rw [← ht] at hpc0 hpc1
 rw [← hl] at hpc1 hins
 have HST : Hid (∀ x, stepT c m s t x d = stepT c m s t x d) := fun _ => rfl
 obtain ⟨C, hC⟩ : ∃ C, C = c := ⟨_, rfl⟩
 obtain ⟨M, hM⟩ : ∃ M, M = m := ⟨_, rfl⟩
 obtain ⟨S, hS⟩ : ∃ S, S = s := ⟨_, rfl⟩
 rw [← hC, ← hM, ← hS] at hR2
 clear HST
 have HRR := qh hR2
 have hT := hs.threads
 have hME := hs.mem
 obtain ⟨vars, dom, cs⟩ := c
 obtain ⟨mod, bnd⟩ := m
 obtain ⟨ts, mem, bad⟩ := s
 simp only [] at hc hs hi hb hlen hmem hbd hl ht hT hME hown hins hpc0 hpc1 hR2 ⊢
 unfold codeV machV stateV
 unfold stateV at hown
 simp only [] at hown ⊢
 obtain ⟨n, hn⟩ : ∃ n, n = ts.length := ⟨_, rfl⟩
 obtain ⟨cn, hcn⟩ : ∃ cn, cn = cs.length := ⟨_, rfl⟩
 obtain ⟨mn, hmn⟩ : ∃ mn, mn = mem.length := ⟨_, rfl⟩
 rw [← hn] at hT hown hi hb hlen ⊢
 rw [← hmn] at hME hown hmem ⊢
 rw [← hcn] at hc hlen hbd ⊢
 rw [← hn, ← hmn] at hs
 have HLN := qh hlen
 have HME := qh hmem
 have HC := qh hC
 have HM := qh hM
 have HS := qh hS
 have HL := qh hl
 have HT := qh ht
 have HN := qh hn
 have HCN := qh hcn
 have HMN := qh hmn
 have HBU := qh hb
 have HINS := qh hins
 have HOWN := qh hown
 have hB4 := boxes4_below w (.cells #[.int .i64 vars, .int .i64 dom, .slice ca cn cc] 24) (.cells #[.int .i64 mod, .int .i64 bnd] 26) (.cells #[.slice ta n tc0, .slice ma mn mc0, .bool bad] 30) (.cells #[.slice none 0 0, .slice none 0 0, .bool false] 30)
 obtain ⟨hB, h1, h2, h3, h4, h5⟩ := hB4
 have HB := qh hB
 have H1 := qh h1
 have H2 := qh h2
 have H3 := qh h3
 have H4 := qh h4
 have H5 := qh h5
 have HCS := qh (SliceR.below (RowR.stays d) hc hB)
 have HSW := qh (StateAt.below hs hB)
 have HMEM := qh (SliceR.below IntR.stays hME hB)
 have HME0 := qh hME
 have HSZ5 := qh h5
 clear hlen hmem hC hM hS hl ht hn hcn hmn hb hins hown hB h1 h2 h3 h4 h5 hT hME hc hs hR hR2
 go_enter Tryz.func62, Tryz.ntmps62
 go_upto_region 1 with fail
 generalize World.alloc (World.alloc (World.alloc (World.alloc w _) _) _) _ = W at HB H1 H2 H3 H4 H5 HCS HSW HMEM HSZ5 ⊢
 obtain ⟨gx, hgx⟩ : ∃ gx, gx = w.heap.size := ⟨_, rfl⟩
 rw [← hgx] at H1 H2 H3 H4 H5 ⊢
 have HGX := qh hgx
 clear hgx
 have HCC : Hid (∀ x, Below W.heap.size W x → x.cell? ⟨gx, 0, none⟩ = some (.int .i64 vars) ∧ x.cell? ⟨gx, 1, none⟩ = some (.int .i64 dom) ∧ x.cell? ⟨gx, 2, none⟩ = some (.slice ca cn cc) ∧
   x.cell? ⟨gx + 1, 0, none⟩ = some (.int .i64 mod) ∧ x.cell? ⟨gx + 1, 1, none⟩ = some (.int .i64 bnd) ∧ x.cell? ⟨gx + 2, 0, none⟩ = some (.slice ta n tc0) ∧ x.cell? ⟨gx + 2, 1, none⟩ = some (.slice ma mn mc0) ∧ x.cell? ⟨gx + 2, 2, none⟩ = some (.bool bad)) := fun x hx =>
  ⟨qck hx _ _ (qcb H1.out 0), qck hx _ _ (qcb H1.out 1), qck hx _ _ (qcb H1.out 2), qck hx _ _ (qcb H2.out 0), qck hx _ _ (qcb H2.out 1), qck hx _ _ (qcb H3.out 0), qck hx _ _ (qcb H3.out 1), qck hx _ _ (qcb H3.out 2)⟩
 obtain ⟨c0, c1, c2, c3, c4, c5, c6, c7⟩ := HCC.out W (Below.refl _ _)
 go_upto_region 2 with (go_at_call 64; refine (HOWN.out W HSW.out).mono ?_; rintro e W1 ⟨⟨tv1, mv1, bs, rfl, ho1⟩, hb1⟩; have HO1 := qh ho1; have HB1 := qh hb1; obtain ⟨xa, xc, rfl, -, -⟩ := row_slice ho1.row; obtain ⟨ya, yc, rfl, -, -⟩ := row_slice ho1.mem; clear ho1 hb1)
 rw [← HN.out, ← HMN.out]
 have hbd1 : 1 ≤ vars := hbd.1
 have hdom1 : 2 ≤ dom := hbd.2.2.1
 have hdom2 : dom ≤ 16 := hbd.2.2.2.1
 have hn4 : n ≤ 4 := by have := hbd.2.2.2.2.2; have := HLN.out; omega
 have hmn4 : mn ≤ 4 ∧ 1 ≤ mn := by have := hbd.2.1; have := HME.out; omega
 clear c0 c1 c2 c3 c4 c5 c6 c7 hbd
 have hol := OwnL.of_own HO1.out HB1.out bad
 rw [← HN.out, ← HMN.out] at hol
 have HOL := qh hol
 clear hol
 generalize World.alloc W1 _ = X0 at HOL ⊢
 obtain ⟨gb, hgb⟩ : ∃ gb, gb = W1.heap.size := ⟨_, rfl⟩
 rw [← hgb] at HOL ⊢
 clear hgb HO1 HB1 HOWN
 obtain ⟨tb, tc, hxa, -, htc⟩ := HOL.out.threads (by rw [← HN.out]; exact hi)
 rw [← HN.out] at hxa
 cases hxa
 obtain ⟨mb, mc, hya, -, hmc⟩ := HOL.out.vars (by rw [← HMN.out]; omega)
 rw [← HMN.out] at hya
 cases hya
 have hr4 := HOL.out.own.regs i (by rw [← HN.out]; exact hi)
 obtain ⟨bv, hbv⟩ : ∃ bv, bv = bs.getD i (.slice none 0 0) := ⟨_, rfl⟩
 have hbuf := (HOL.out.own.buf i (by rw [← HN.out]; exact hi))
 have hbl := HBU.out i hi
 rw [← HT.out] at hr4 htc hbuf hbl
 rw [← hbv] at htc hbuf
 obtain ⟨ba, bc, rfl, -, -⟩ := row_slice hbuf
 obtain ⟨pc, rg, bf⟩ := t
 obtain ⟨r0, r1, r2, r3, rfl⟩ := four_of hr4
 simp only [] at hpc0 hpc1 htc hbuf hbl HRR
 obtain ⟨bl, hbl2⟩ : ∃ bl, bl = bf.length := ⟨_, rfl⟩
 rw [← hbl2] at htc hbuf hbl hbv
 obtain ⟨pcn, rfl⟩ : ∃ pcn : Nat, pc = pcn := ⟨pc.toNat, by omega⟩
 have HBL := qh hbl2
 have HBV := qh hbv
 have HTC : Hid (∀ k u, k < 6 → [Value.int .i64 pcn, .int .i64 r0, .int .i64 r1, .int .i64 r2, .int .i64 r3, .slice ba bl bc][k]? = some u → X0.cell? ⟨tb, i * 6 + k, none⟩ = some u ∧ X0.frozen? ⟨tb, i * 6 + k, none⟩ = false) := by
  have e : (⟨(pcn : Int), [r0, r1, r2, r3], bf⟩ : ThreadD).cells (.slice ba bl bc) = [Value.int .i64 pcn, .int .i64 r0, .int .i64 r1, .int .i64 r2, .int .i64 r3, .slice ba bl bc] := rfl
  rw [← e]; exact htc
 clear hbl2 hbv hbuf htc hr4 hmc hpc0
 obtain ⟨ln, hln⟩ : ∃ ln, ln = l.length := ⟨_, rfl⟩
 rw [← hln] at hpc1 HRR
 obtain ⟨eb, eo, ka, kc, hea, -, hec, hel⟩ := RowsAt.part HCS.out i (by rw [← HCN.out, ← HLN.out]; exact hi)
 rw [← HL.out, ← hln] at hec hel
 subst hea
 have HLNN := qh hln
 clear hln
 have HEL := qh hel
 have HEC : Hid (∀ x, Below W.heap.size W x → x.cell? ⟨eb, eo + i, none⟩ = some (.slice ka ln kc)) := fun x hx => qck hx _ _ hec
 clear hel hec
 have hcnI : (i : Int) < (cn : Int) := by have := HLN.out; omega
 obtain ⟨c0, c1, c2, c3, c4, c5, c6, c7⟩ := HCC.out X0 HOL.out.below
 have e0 := HEC.out X0 HOL.out.below
 have t0 := (HTC.out 0 _ (by omega) rfl).1
 rw [Nat.add_zero] at t0
 have b0 := qcb HOL.out.box 0
 by_cases hp : pcn < ln
 rotate_left
 ·have hpN : (ln : Int) ≤ (pcn : Int) := by omega
  have hres : R = none := by rw [HRR.out, if_neg (by omega)]
  have HRES := qh hres
  clear hres
  go_upto_region 3 with fail
  go_quiet (fail)
  go_upto_region 4 with fail
  generalize hX9 : World.drewN X0 _ = X9
  have hb9 : Below X0.heap.size X0 X9 := by rw [← hX9]; exact drewN_below (Below.refl _ _) _
  clear hX9 c0 c1 c2 c3 c4 c5 c6 c7 e0 t0 b0
  have hbw := qbt HOL.out.below hb9
  have HB9 := qh hbw
  obtain ⟨c0, c1, c2, c3, c4, c5, c6, c7⟩ := HCC.out X9 hbw
  have hr := (hbw.block _ (qlb H4.out)).trans H4.out
  have q0 := qcb hr 0
  have q1 := qcb hr 1
  have q2 := qcb hr 2
  have f0 := qfb hr 0
  have f1 := qfb hr 1
  have f2 := qfb hr 2
  have hset := set_of_block (set_of_block (set_of_block hr 0 (.slice ta n tc0)) 1 (.slice ma mn mc0)) 2 (.bool bad)
  simp only [List.setIfInBounds_toArray, List.set_cons_zero, List.set_cons_succ] at hset
  have hS : Since (fun k => k = gx + 3) X9 (((X9.setCell ⟨gx + 3, 0, none⟩ (.slice ta n tc0)).setCell ⟨gx + 3, 1, none⟩ (.slice ma mn mc0)).setCell ⟨gx + 3, 2, none⟩ (.bool bad)) := Since.setCell (F := fun k => k = gx + 3) (p := ⟨gx + 3, 2, none⟩) (Since.setCell (F := fun k => k = gx + 3) (p := ⟨gx + 3, 1, none⟩) (Since.setCell (F := fun k => k = gx + 3) (p := ⟨gx + 3, 0, none⟩) (Since.refl _ X9) (.inl rfl) _) (.inl rfl) _) (.inl rfl) _
  have HSET := qh hset
  have HSN := qh hS
  clear hr hset hS hb9 hbw
  go_wp2_with fail
  (try simp only [Exit.inBlock, Exit.then])
  refine bodyPost_ret (results_cell1 rfl _ _ (gx + 3) 30 _ (0, 0) _ rfl HSET.out Tryz.underlying30 rfl state_size) rfl ?_
  exact ⟨fin_none HRES.out, (HB.out.trans (HB9.out.mono HB.out.size)).trans (HSN.out.below (by have := HB.out.size; have := HB9.out.size; omega) (fun k e => by have := HGX.out; omega))⟩
 have hpI : (pcn : Int) < (ln : Int) := by omega
 have hpN : ¬ (ln : Int) ≤ (pcn : Int) := by omega
 go_upto_region 3 with fail
 go_quiet (fail)
 go_upto_region 5 with fail
 generalize hX9 : World.drewN X0 _ = X9
 have hb9 : Below X0.heap.size X0 X9 := by rw [← hX9]; exact drewN_below (Below.refl _ _) _
 clear hX9 c0 c1 c2 c3 c4 c5 c6 c7 e0 t0 b0
 have HOL9 := qh (HOL.out.later hb9)
 have HTC9 : Hid (∀ k u, k < 6 → [Value.int .i64 pcn, .int .i64 r0, .int .i64 r1, .int .i64 r2, .int .i64 r3, .slice ba bl bc][k]? = some u → ∀ x, Below X9.heap.size X9 x → x.cell? ⟨tb, i * 6 + k, none⟩ = some u) := fun k u hk hu x hx => qck (qbt hb9 hx) _ _ (HTC.out k u hk hu).1
 clear HTC
 have HB9 := qh hb9
 clear hb9
 obtain ⟨fb, fo, aa, ac, xba, xbc, hka, -, ⟨x0, x1, x2⟩, ⟨x3, x4, x5, x6⟩, ⟨x7, x8, x9, x10⟩, x11, xa, xb⟩ := InstrsAt.part HEL.out pcn (by rw [← HLNN.out]; exact hp)
 subst hka
 obtain ⟨x, hx⟩ : ∃ x, x = l.getD pcn default := ⟨_, rfl⟩
 rw [← hx] at x0 x1 x2 x3 x4 x5 x6 x7 x8 x9 x10 x11 xa xb
 have hins := HINS.out pcn (by rw [← HLNN.out]; exact hp)
 rw [← hx, ← HLNN.out] at hins
 obtain ⟨hln6, hrg0, hrg4, hvr0, hvr4⟩ := hins
 rw [← HME.out] at hvr4
 have hr5 := HRR.out
 rw [if_pos hpI, show ((pcn : Int)).toNat = pcn from rfl, ← hx] at hr5
 have HR5 := qh hr5
 clear hr5 HRR HINS hx
 obtain ⟨op, hop⟩ : ∃ v, v = x.op := ⟨_, rfl⟩
 obtain ⟨rgn, hrgn⟩ : ∃ v : Nat, (v : Int) = x.reg := ⟨x.reg.toNat, by omega⟩
 obtain ⟨vrn, hvrn⟩ : ∃ v : Nat, (v : Int) = x.var := ⟨x.var.toNat, by omega⟩
 obtain ⟨dst, hdst⟩ : ∃ v, v = x.dest := ⟨_, rfl⟩
 obtain ⟨ak, hak⟩ : ∃ v, v = x.a.kind := ⟨_, rfl⟩
 obtain ⟨an, han⟩ : ∃ v, v = x.a.n := ⟨_, rfl⟩
 obtain ⟨ao, hao⟩ : ∃ v, v = x.a.op := ⟨_, rfl⟩
 obtain ⟨al, hal⟩ : ∃ v, v = x.a.kids.length := ⟨_, rfl⟩
 obtain ⟨bk, hbk⟩ : ∃ v, v = x.b.kind := ⟨_, rfl⟩
 obtain ⟨bn, hbn⟩ : ∃ v, v = x.b.n := ⟨_, rfl⟩
 obtain ⟨bo, hbo⟩ : ∃ v, v = x.b.op := ⟨_, rfl⟩
 obtain ⟨bkl, hbkl⟩ : ∃ v, v = x.b.kids.length := ⟨_, rfl⟩
 obtain ⟨A, hA⟩ : ∃ v, v = evalN [r0, r1, r2, r3] dom d x.a := ⟨_, rfl⟩
 obtain ⟨B, hBB⟩ : ∃ v, v = evalN [r0, r1, r2, r3] dom d x.b := ⟨_, rfl⟩
 have HEVA : Hid (∀ X, Below W.heap.size W X → Calls Tryz.prog 90 #[.agg #[.int .i64 ak, .int .i64 an, .int .u8 ao, .slice aa al ac], .agg #[.int .i64 r0, .int .i64 r1, .int .i64 r2, .int .i64 r3], .int .i64 dom] X fun e w' => e = .returned (.int .i64 A) ∧ Below X.heap.size X w') := fun X hX => by
  rw [hak, han, hao, hal, hA]; exact eval_any r0 r1 r2 r3 dom (by omega) (by omega) d X x.a _ (xa.below hX)
 have HEVB : Hid (∀ X, Below W.heap.size W X → Calls Tryz.prog 90 #[.agg #[.int .i64 bk, .int .i64 bn, .int .u8 bo, .slice xba bkl xbc], .agg #[.int .i64 r0, .int .i64 r1, .int .i64 r2, .int .i64 r3], .int .i64 dom] X fun e w' => e = .returned (.int .i64 B) ∧ Below X.heap.size X w') := fun X hX => by
  rw [hbk, hbn, hbo, hbkl, hBB]; exact eval_any r0 r1 r2 r3 dom (by omega) (by omega) d X x.b _ (xb.below hX)
 rw [← hop] at x0
 rw [← hrgn] at x1 hrg4
 have hrg4 : rgn < 4 := by omega
 rw [← hvrn] at x2 hvr4
 rw [← hak] at x3
 rw [← han] at x4
 rw [← hao] at x5
 rw [← hal] at x6
 rw [← hbk] at x7
 rw [← hbn] at x8
 rw [← hbo] at x9
 rw [← hbkl] at x10
 rw [← hdst] at x11
 have HOP := qh hop
 have HRG := qh hrgn
 have HVR := qh hvrn
 have HDS := qh hdst
 have HA := qh hA
 have HBE := qh hBB
 clear hop hrgn hvrn hdst hak han hao hal hbk hbn hbo hbkl hA hBB xa xb hrg0 hvr0
 have C5 : Hid (∀ y, Below X9.heap.size X9 y → y.cell? ⟨gx, 2, none⟩ = some (.slice (some ⟨eb, eo, none⟩) cn cc) ∧ y.cell? ⟨eb, eo + i, none⟩ = some (.slice (some ⟨fb, fo, none⟩) ln kc) ∧ y.cell? ⟨tb, i * 6, none⟩ = some (.int .i64 pcn) ∧
   y.cell? ⟨fb, fo + pcn * 12, none⟩ = some (.int .i64 op) ∧ y.cell? ⟨fb, fo + pcn * 12 + 1, none⟩ = some (.int .i64 rgn) ∧ y.cell? ⟨fb, fo + pcn * 12 + 2, none⟩ = some (.int .i64 vrn) ∧
   y.cell? ⟨fb, fo + pcn * 12 + 3, none⟩ = some (.int .i64 ak) ∧ y.cell? ⟨fb, fo + pcn * 12 + 4, none⟩ = some (.int .i64 an) ∧ y.cell? ⟨fb, fo + pcn * 12 + 5, none⟩ = some (.int .u8 ao) ∧ y.cell? ⟨fb, fo + pcn * 12 + 6, none⟩ = some (.slice aa al ac) ∧
   y.cell? ⟨fb, fo + pcn * 12 + 7, none⟩ = some (.int .i64 bk) ∧ y.cell? ⟨fb, fo + pcn * 12 + 8, none⟩ = some (.int .i64 bn) ∧ y.cell? ⟨fb, fo + pcn * 12 + 9, none⟩ = some (.int .u8 bo) ∧ y.cell? ⟨fb, fo + pcn * 12 + 10, none⟩ = some (.slice xba bkl xbc) ∧ y.cell? ⟨fb, fo + pcn * 12 + 11, none⟩ = some (.int .i64 dst)) := fun y hy =>
  have hw := qbt HOL9.out.below hy
  have k2 := fun p v h => qck hw p v h
  ⟨(HCC.out y hw).2.2.1, HEC.out y hw, HTC9.out 0 _ (by omega) rfl y hy, k2 _ _ x0, k2 _ _ x1, k2 _ _ x2, k2 _ _ x3, k2 _ _ x4, k2 _ _ x5, k2 _ _ x6, k2 _ _ x7, k2 _ _ x8, k2 _ _ x9, k2 _ _ x10, k2 _ _ x11⟩
 clear x0 x1 x2 x3 x4 x5 x6 x7 x8 x9 x10 x11
 have h0 := AppT.start 3 1 64 X9
 have hT0 := qh h0.drew
 clear h0
 refine wp_region_noPanic ?_
 refine wp_region_held_drew (S := fun x => Below X9.heap.size X9 x) (by kernel_rfl) (Below.refl _ _).drew (fun _ => ?_)
 obtain ⟨wd, hwd⟩ : ∃ wd, wd = X9.drew := ⟨_, rfl⟩
 rw [← hwd] at hT0 ⊢
 clear hwd
 refine qtk 0 38 ?vq61 rfl ?hyq61 (hT0.out.below) ?_
 case hyq61 => (intro _ _; go_simp <;> rfl)
 simp only [Act.put, qz1, qz2, qz3]
 refine qtk 1 39 ?vq62 rfl ?hyq62 (hT0.out.below) ?_
 case hyq62 => (intro x h; have e := C5.out x h; go_simp <;> rfl)
 simp only [Act.put, qz1, qz2, qz3]
 refine qtk 2 40 ?vq63 rfl ?hyq63 (hT0.out.below) ?_
 case hyq63 => (intro _ _; go_simp <;> rfl)
 simp only [Act.put, qz1, qz2, qz3]
 refine qtk 3 41 ?vq64 rfl ?hyq64 (hT0.out.below) ?_
 case hyq64 => (intro _ _; go_simp <;> rfl)
 simp only [Act.put, qz1, qz2, qz3]
 refine qtk 4 42 ?vq65 rfl ?hyq65 (hT0.out.below) ?_
 case hyq65 => (intro x h; have e := C5.out x h; go_simp <;> rfl)
 simp only [Act.put, qz1, qz2, qz3]
 refine qtk 5 43 ?vq66 rfl ?hyq66 (hT0.out.below) ?_
 case hyq66 => (intro _ _; go_simp <;> rfl)
 simp only [Act.put, qz1, qz2, qz3]
 refine qtk 6 44 ?vq67 rfl ?hyq67 (hT0.out.below) ?_
 case hyq67 => (intro _ _; go_simp <;> rfl)
 simp only [Act.put, qz1, qz2, qz3]
 refine qtk 7 45 ?vq68 rfl ?hyq68 (hT0.out.below) ?_
 case hyq68 => (intro _ _; go_simp <;> rfl)
 simp only [Act.put, qz1, qz2, qz3]
 refine qtk 8 46 ?vq69 rfl ?hyq69 (hT0.out.below) ?_
 case hyq69 => (intro x h; have e := C5.out x h; go_simp <;> rfl)
 simp only [Act.put, qz1, qz2, qz3]
 refine qtk 9 47 ?vq70 rfl ?hyq70 (hT0.out.below) ?_
 case hyq70 => (intro _ _; go_simp <;> rfl)
 simp only [Act.put, qz1, qz2, qz3]
 refine qtk 10 48 ?vq71 rfl ?hyq71 (hT0.out.below) ?_
 case hyq71 => (intro x h; have e := C5.out x h; go_simp <;> rfl)
 simp only [Act.put, qz1, qz2, qz3]
 refine qrH 11 rfl (fun K hK => ?_)
 go_simp
 have hTq1 := hT0.out.alloc [.int .i64 0, .int .i64 0, .int .i64 0, .int .i64 0, .int .i64 0, .int .u8 0, .slice none 0 0, .int .i64 0, .int .i64 0, .int .u8 0, .slice none 0 0, .int .i64 0]
 refine hK.out _ _ hTq1.below (fun _ => ?_)
 obtain ⟨gi, hgi⟩ : ∃ n, n = wd.heap.size := ⟨_, rfl⟩
 rw [← hgi] at hTq1 ⊢
 clear hgi
 generalize World.alloc wd _ = Xq2 at hTq1 ⊢
 replace hTq1 := qh hTq1
 clear hK K
 refine qrH 12 rfl (fun K hK => ?_)
 have hb1 := hTq1.out.store12 (g := gi) (cs := [.int .i64 0, .int .i64 0, .int .i64 0, .int .i64 0, .int .i64 0, .int .u8 0, .slice none 0 0, .int .i64 0, .int .i64 0, .int .u8 0, .slice none 0 0, .int .i64 0]) (by simp) [.int .i64 op, .int .i64 rgn, .int .i64 vrn, .int .i64 ak, .int .i64 an, .int .u8 ao, .slice aa al ac, .int .i64 bk, .int .i64 bn, .int .u8 bo, .slice xba bkl xbc, .int .i64 dst] rfl
 obtain ⟨hn, -, -⟩ := hTq1.out.news (gi, [.int .i64 0, .int .i64 0, .int .i64 0, .int .i64 0, .int .i64 0, .int .u8 0, .slice none 0 0, .int .i64 0, .int .i64 0, .int .u8 0, .slice none 0 0, .int .i64 0]) (by simp)
 have d0 := qcb hn 0
 have f0 := qfb hn 0
 have d1 := qcb hn 1
 have f1 := qfb hn 1
 have d2 := qcb hn 2
 have f2 := qfb hn 2
 have d3 := qcb hn 3
 have f3 := qfb hn 3
 have d4 := qcb hn 4
 have f4 := qfb hn 4
 have d5 := qcb hn 5
 have f5 := qfb hn 5
 have d6 := qcb hn 6
 have f6 := qfb hn 6
 have d7 := qcb hn 7
 have f7 := qfb hn 7
 have d8 := qcb hn 8
 have f8 := qfb hn 8
 have d9 := qcb hn 9
 have f9 := qfb hn 9
 have d10 := qcb hn 10
 have f10 := qfb hn 10
 have d11 := qcb hn 11
 have f11 := qfb hn 11
 clear hn
 have HS1 := qh hb1
 clear hb1
 go_simp
 clear d0 f0 d1 f1 d2 f2 d3 f3 d4 f4 d5 f5 d6 f6 d7 f7 d8 f8 d9 f9 d10 f10 d11 f11
 refine hK.out _ (setAll Xq2 gi 0 [.int .i64 op, .int .i64 rgn, .int .i64 vrn, .int .i64 ak, .int .i64 an, .int .u8 ao, .slice aa al ac, .int .i64 bk, .int .i64 bn, .int .u8 bo, .slice xba bkl xbc, .int .i64 dst]) HS1.out.1 (fun _ => ?_)
 generalize setAll Xq2 gi 0 _ = X1 at HS1 ⊢
 clear hK K
 refine wpAnyH_done (by kernel_rfl) ?_ _
 refine NoPanic.normal ?_
 have hgi := HS1.out.2.2
 have hru : RunAt W X1 gb gi tb n xc mb mn yc bad ts mem bs [.int .i64 op, .int .i64 rgn, .int .i64 vrn, .int .i64 ak, .int .i64 an, .int .u8 ao, .slice aa al ac, .int .i64 bk, .int .i64 bn, .int .u8 bo, .slice xba bkl xbc, .int .i64 dst] :=
  ⟨HOL9.out.later HS1.out.1, HS1.out.2.1, fun e => by have := qlb HOL9.out.box; omega, fun e => by have := (HOL9.out.own.row.lt tb rfl).2; omega, fun e => by have := (HOL9.out.own.mem.lt mb rfl).2; omega⟩
 have HRUN1 := qh hru
 clear hgi hru C5
 have HTC1 : Hid (∀ y, Below X1.heap.size X1 y → y.cell? ⟨tb, i * 6 + 1, none⟩ = some (.int .i64 r0) ∧ y.cell? ⟨tb, i * 6 + 2, none⟩ = some (.int .i64 r1) ∧ y.cell? ⟨tb, i * 6 + 3, none⟩ = some (.int .i64 r2) ∧ y.cell? ⟨tb, i * 6 + 4, none⟩ = some (.int .i64 r3)) := fun y hy =>
  have h := qbt HS1.out.1 hy
  ⟨HTC9.out 1 _ (by omega) rfl y h, HTC9.out 2 _ (by omega) rfl y h, HTC9.out 3 _ (by omega) rfl y h, HTC9.out 4 _ (by omega) rfl y h⟩
 have HB1 := qh HRUN1.out.own.below
 have hgi3 : ¬ gi = gx + 3 := fun e => by
  have h1 := qlb H4.out
  have h2 := HS1.out.2.2
  have h3 := HOL9.out.below.size
  omega
 have HGI := qh hgi3
 clear hgi3
 go_upto_region 6 with fail
 obtain ⟨t1, t2, t3, t4⟩ := HTC1.out X1 (Below.refl _ _)
 have z3 := qcb HRUN1.out.instr 3
 have z4 := qcb HRUN1.out.instr 4
 have z5 := qcb HRUN1.out.instr 5
 have z6 := qcb HRUN1.out.instr 6
 have c1 := (HCC.out X1 HB1.out).2.1
 refine wp_region_still_tail 8 (by kernel_rfl) (by kernel_rfl) ?_
 simp only [List.take_succ_cons, List.take_zero, List.drop_succ_cons, List.drop_zero]
 repeat still_step
 try refine wpStill_nil ?_
 change wpList _ _ _ _ _ X1.drew
 obtain ⟨wd, hwd⟩ : ∃ wd, wd = X1.drew := ⟨_, rfl⟩
 rw [← hwd]
 have HBD : Hid (Below X1.heap.size X1 wd) := by rw [Hid, hwd]; exact (Below.refl _ _).drew
 clear hwd t1 t2 t3 t4 z3 z4 z5 z6 c1
 go_upto_region 7 with (go_at_call 90; refine (HEVA.out wd (qbt HB1.out HBD.out)).mono ?_; rintro e X2 ⟨rfl, hb⟩; have HB2 := qh (qbt HBD.out hb); clear hb)
 have HRUN2 := qh (HRUN1.out.below HB2.out)
 clear HBD
 obtain ⟨t1, t2, t3, t4⟩ := HTC1.out X2 HB2.out
 have z7 := qcb HRUN2.out.instr 7
 have z8 := qcb HRUN2.out.instr 8
 have z9 := qcb HRUN2.out.instr 9
 have z10 := qcb HRUN2.out.instr 10
 have c1 := (HCC.out X2 HRUN2.out.own.below).2.1
 refine wp_region_still_tail 8 (by kernel_rfl) (by kernel_rfl) ?_
 simp only [List.take_succ_cons, List.take_zero, List.drop_succ_cons, List.drop_zero]
 repeat still_step
 try refine wpStill_nil ?_
 change wpList _ _ _ _ _ X2.drew
 obtain ⟨wd', hwd⟩ : ∃ wd, wd = X2.drew := ⟨_, rfl⟩
 rw [← hwd]
 have HBD : Hid (Below X2.heap.size X2 wd') := by rw [Hid, hwd]; exact (Below.refl _ _).drew
 clear hwd t1 t2 t3 t4 z7 z8 z9 z10 c1
 go_upto_region 8 with (go_at_call 90; refine (HEVB.out wd' (qbt HRUN2.out.own.below HBD.out)).mono ?_; rintro e X3 ⟨rfl, hb⟩; have HB3 := qh (qbt HBD.out hb); clear hb)
 have HRUN3 := qh (HRUN2.out.below HB3.out)
 clear HBD
 have hin : i < ts.length := by rw [← HN.out]; exact hi
 have hcl : (ts.getD i default).cells (bs.getD i (.slice none 0 0)) = [.int .i64 pcn, .int .i64 r0, .int .i64 r1, .int .i64 r2, .int .i64 r3, .slice ba bl bc] := by rw [← HT.out, ← HBV.out]; rfl
 have hpc := HRUN3.out.tcell hin 0 (.int .i64 pcn) (by omega) (by rw [hcl]; rfl)
 rw [Nat.add_zero] at hpc
 obtain ⟨t0, f0⟩ := hpc
 have hth := HRUN3.out.thread hin (k := 0) (by omega) (t := ⟨(pcn : Int) + 1, [r0, r1, r2, r3], bf⟩) (b := .slice ba bl bc) (u := .int .i64 ((pcn : Int) + 1)) (by rw [hcl]; rfl) rfl (by have := (HRUN3.out.buf hin).1; rw [← HT.out, ← HBV.out] at this; exact this) (by have := (HRUN3.out.buf hin).2; rw [← HBV.out] at this; exact this)
 rw [Nat.add_zero] at hth
 have HRUN4 := qh hth
 have HIN := qh hin
 clear hin hcl hth
 go_upto_region 9 with fail
 clear t0 f0
 generalize World.setCell X3 _ _ = X4 at HRUN4 ⊢
 clear HRUN1 HRUN2 HRUN3 HTC1 HTC9 HOL9 HB1 HB2 HB3 HS1 HB9 HOL HEVA HEVB HSW HCS HEL HEC HBU
 obtain ⟨ts1, hts1⟩ : ∃ ts1, ts1 = ts.set i ⟨(pcn : Int) + 1, [r0, r1, r2, r3], bf⟩ := ⟨_, rfl⟩
 obtain ⟨bs1, hbs1⟩ : ∃ bs1, bs1 = bs.set i (.slice ba bl bc) := ⟨_, rfl⟩
 have hlb : bs.length = ts.length := by have := HRUN4.out.own.own.len; rw [List.length_set, List.length_set] at this; exact this
 rw [← hts1, ← hbs1] at HRUN4
 have HTS1 : Hid (ts1.getD i default = ⟨(pcn : Int) + 1, [r0, r1, r2, r3], bf⟩) := by rw [Hid, hts1, getD_set HIN.out, if_pos rfl]
 have HBS1 : Hid (bs1.getD i (.slice none 0 0) = .slice ba bl bc) := by rw [Hid, hbs1, getD_set (by rw [hlb]; exact HIN.out), if_pos rfl]
 have HL1 : Hid (i < ts1.length) := by rw [Hid, hts1, List.length_set]; exact HIN.out
 have HSS : Hid (∀ t', ts1.set i t' = ts.set i t') := fun t' => by rw [hts1, List.set_set]
 have HT1 : Hid (ts1 = ts.set i ⟨(pcn : Int) + 1, [r0, r1, r2, r3], bf⟩) := hts1
 clear hts1 hbs1 hlb HT
 have HTC : Hid (∀ k u, k < 6 → [Value.int .i64 ((pcn : Int) + 1), .int .i64 r0, .int .i64 r1, .int .i64 r2, .int .i64 r3, .slice ba bl bc][k]? = some u → X4.cell? ⟨tb, i * 6 + k, none⟩ = some u ∧ X4.frozen? ⟨tb, i * 6 + k, none⟩ = false) := by
  have h := HRUN4.out.tcell HL1.out
  rw [HTS1.out, HBS1.out] at h
  exact h
 have HRR6 : Hid (R = Option.map (fun r => (⟨ts.set i r.1, r.2.1, r.2.2⟩ : StateD)) (stepT ⟨vars, dom, cs⟩ ⟨mod, bnd⟩ ⟨ts, mem, bad⟩ ⟨pcn, [r0, r1, r2, r3], bf⟩ x d)) := by rw [Hid, HR5.out, HC.out, HM.out, HS.out]
 clear HR5 HC HM HS
 have HBUF := qh (HRUN4.out.buf HL1.out)
 have HFIN : Hid (∀ (X : World) (b' : Bool), X.heap[gb]? = some (.cells #[.slice (some ⟨tb, 0, none⟩) n xc, .slice (some ⟨mb, 0, none⟩) mn yc, .bool b'] 30 (0, 0)) → Below W.heap.size W X →
   (X.cell? ⟨gb, 0, none⟩ = some (.slice (some ⟨tb, 0, none⟩) n xc) ∧ X.cell? ⟨gb, 1, none⟩ = some (.slice (some ⟨mb, 0, none⟩) mn yc) ∧ X.cell? ⟨gb, 2, none⟩ = some (.bool b')) ∧
   (X.cell? ⟨gx + 3, 0, none⟩ = some (.slice none 0 0) ∧ X.cell? ⟨gx + 3, 1, none⟩ = some (.slice none 0 0) ∧ X.cell? ⟨gx + 3, 2, none⟩ = some (.bool false)) ∧
   (X.frozen? ⟨gx + 3, 0, none⟩ = false ∧ X.frozen? ⟨gx + 3, 1, none⟩ = false ∧ X.frozen? ⟨gx + 3, 2, none⟩ = false) ∧
   (((X.setCell ⟨gx + 3, 0, none⟩ (.slice (some ⟨tb, 0, none⟩) n xc)).setCell ⟨gx + 3, 1, none⟩ (.slice (some ⟨mb, 0, none⟩) mn yc)).setCell ⟨gx + 3, 2, none⟩ (.bool b')).heap[gx + 3]? = some (.cells #[.slice (some ⟨tb, 0, none⟩) n xc, .slice (some ⟨mb, 0, none⟩) mn yc, .bool b'] 30 (0, 0)) ∧
   Since (fun k => k = gx + 3) X (((X.setCell ⟨gx + 3, 0, none⟩ (.slice (some ⟨tb, 0, none⟩) n xc)).setCell ⟨gx + 3, 1, none⟩ (.slice (some ⟨mb, 0, none⟩) mn yc)).setCell ⟨gx + 3, 2, none⟩ (.bool b')) ∧
   Below w.heap.size w (((X.setCell ⟨gx + 3, 0, none⟩ (.slice (some ⟨tb, 0, none⟩) n xc)).setCell ⟨gx + 3, 1, none⟩ (.slice (some ⟨mb, 0, none⟩) mn yc)).setCell ⟨gx + 3, 2, none⟩ (.bool b'))) := fun X b' hX hW => by
  have hres := (hW.block _ (qlb H4.out)).trans H4.out
  have hset := set_of_block (set_of_block (set_of_block hres 0 (.slice (some ⟨tb, 0, none⟩) n xc)) 1 (.slice (some ⟨mb, 0, none⟩) mn yc)) 2 (.bool b')
  simp only [List.setIfInBounds_toArray, List.set_cons_zero, List.set_cons_succ] at hset
  have hS : Since (fun k => k = gx + 3) X (((X.setCell ⟨gx + 3, 0, none⟩ (.slice (some ⟨tb, 0, none⟩) n xc)).setCell ⟨gx + 3, 1, none⟩ (.slice (some ⟨mb, 0, none⟩) mn yc)).setCell ⟨gx + 3, 2, none⟩ (.bool b')) := Since.setCell (F := fun k => k = gx + 3) (p := ⟨gx + 3, 2, none⟩) (Since.setCell (F := fun k => k = gx + 3) (p := ⟨gx + 3, 1, none⟩) (Since.setCell (F := fun k => k = gx + 3) (p := ⟨gx + 3, 0, none⟩) (Since.refl _ X) (.inl rfl) _) (.inl rfl) _) (.inl rfl) _
  exact ⟨⟨qcb hX 0, qcb hX 1, qcb hX 2⟩, ⟨qcb hres 0, qcb hres 1, qcb hres 2⟩, ⟨qfb hres 0, qfb hres 1, qfb hres 2⟩, hset, hS, (HB.out.trans (hW.mono HB.out.size)).trans (hS.below (by have := HB.out.size; have := hW.size; omega) (fun k e => by have := HGX.out; omega))⟩
 have HSTA : Hid (∀ (X X' : World) (b' : Bool) (ts' : List ThreadD) (mem' : List Int) (bs' ics : List Value), RunAt W X gb gi tb n xc mb mn yc b' ts' mem' bs' ics → Since (fun k => k = gx + 3) X X' → OwnAt w.heap.size X' (.slice (some ⟨tb, 0, none⟩) n xc) (.slice (some ⟨mb, 0, none⟩) mn yc) ts' mem' bs') := fun X X' b' ts' mem' bs' ics h hS => by
  have hlt := qlb H4.out
  exact OwnAt.lower (B := W.heap.size) (h.own.own.since hS (fun k hk e => by have := (h.own.own.row.lt k hk).1; omega) (fun k hk e => by have := (h.own.own.mem.lt k hk).1; omega) (fun j hj k hk e => by have := ((h.own.own.buf j hj).lt k hk).1; omega)) HB.out.size
 go_cut [15] (fun s15 w' => ∃ em : Bool, s15 = .bool em ∧ w' = X4 ∧ Hid (em = decide (bl = 0)))
 case first =>
  have t5 := (HTC.out 5 _ (by omega) rfl).1
  by_cases hb0 : bl = 0
  ·have hb1 : ((bl : Int) == 0) = true := by simp [hb0]
   go_wp2_with fail
   go_meet
   case rel => exact ⟨true, by first | rfl | simp, rfl, by simp [Hid, hb0]⟩
  ·have hb1 : ((bl : Int) == 0) = false := by simp [hb0]
   go_wp2_with fail
   go_meet
   case rel => exact ⟨false, by first | rfl | simp, rfl, by simp [Hid, hb0]⟩
 case rest =>
  obtain ⟨em, rfl, hww, HEM⟩ := hcut
  obtain rfl : X4 = wc := hww.symm
  have k0 := qcb HRUN4.out.instr 0
  go_upto_region 11 with fail
  clear k0
  by_cases o1 : op = 1
  ·have HOPK : Hid ((1 : Int) = x.op) := by rw [Hid, ← HOP.out, o1]
   clear HOP
   have HOP := HOPK
   clear HOPK
   have p1 : ((op : Int) == 1) = true := by simp [o1]
   clear o1
   as_aux_lemma =>
    go_upto_region 12 with fail
    obtain ⟨lk, hlk⟩ : ∃ lk, lk = lookB bf vrn := ⟨_, rfl⟩
    have hloo := fun Y hY => look_any Y (.slice ba bl bc) bf hY (by rw [← HBL.out]; omega) vrn
    rw [← hlk] at hloo
    have HLOO := qh hloo
    have HLK := qh hlk
    clear hloo hlk
    have hbu := HBUF.out.1
    rw [HTS1.out, HBS1.out] at hbu
    have HBUFX : Hid (∀ Y, Below X4.heap.size X4 Y → BufAt Y (.slice ba bl bc) bf) := fun Y hY => BufAt.below (buf_of hbu) hY
    clear hbu
    have CZ : Hid (∀ y, Below X4.heap.size X4 y → y.cell? ⟨tb, i * 6 + 5, none⟩ = some (.slice ba bl bc) ∧ y.cell? ⟨gi, 2, none⟩ = some (.int .i64 vrn)) := fun y hy => ⟨qck hy _ _ (HTC.out 5 _ (by omega) rfl).1, qck hy _ _ (qcb HRUN4.out.instr 2)⟩
    refine wp_region_noPanic ?_
    refine wp_region_held_drew (S := fun x => Below X4.heap.size X4 x) (by kernel_rfl) (Below.refl _ _).drew (fun hH => ?_)
    refine qta 0 85 ?vkl1 rfl ?hykl1 ?_
    case hykl1 => (intro x h; have e := CZ.out x h; go_simp <;> rfl)
    simp only [Act.put, qz1, qz2, qz3]
    refine qta 1 86 ?vkl2 rfl ?hykl2 ?_
    case hykl2 => (intro x h; have e := CZ.out x h; go_simp <;> rfl)
    simp only [Act.put, qz1, qz2, qz3]
    refine qta 2 87 ?vkl3 rfl ?hykl3 ?_
    case hykl3 => (intro x h; have e := CZ.out x h; go_simp <;> rfl)
    simp only [Act.put, qz1, qz2, qz3]
    refine qta 3 88 ?vkl4 rfl ?hykl4 ?_
    case hykl4 => (intro x h; have e := CZ.out x h; go_simp <;> rfl)
    simp only [Act.put, qz1, qz2, qz3]
    refine qta 4 89 ?vkl5 rfl ?hykl5 ?_
    case hykl5 => (intro x h; have e := CZ.out x h; go_simp <;> rfl)
    simp only [Act.put, qz1, qz2, qz3]
    refine qta 5 90 ?vkl6 rfl ?hykl6 ?_
    case hykl6 => (intro x h; have e := CZ.out x h; go_simp <;> rfl)
    simp only [Act.put, qz1, qz2, qz3]
    refine qrH 6 rfl (fun K hK => ?_)
    go_simp
    refine (HLOO.out X4.drew (HBUFX.out X4.drew hH)).mono ?_
    rintro e klw6 ⟨rfl, hb⟩
    have hHkl6 : Below X4.heap.size X4 klw6 := qbt hH hb
    refine hK.out _ _ hHkl6 (fun _ => ?_)
    clear hK K hb hH
    refine qta 7 84 ?vkl7 rfl ?hykl7 ?_
    case hykl7 => (intro x h; have e := CZ.out x h; go_simp <;> rfl)
    simp only [Act.put, qz1, qz2, qz3]
    refine qta 8 92 ?vkl8 rfl ?hykl8 ?_
    case hykl8 => (intro x h; have e := CZ.out x h; go_simp <;> rfl)
    simp only [Act.put, qz1, qz2, qz3]
    refine qta 9 93 ?vkl9 rfl ?hykl9 ?_
    case hykl9 => (intro x h; have e := CZ.out x h; go_simp <;> rfl)
    simp only [Act.put, qz1, qz2, qz3]
    refine qta 10 16 ?vkl10 rfl ?hykl10 ?_
    case hykl10 => (intro x h; have e := CZ.out x h; go_simp <;> rfl)
    simp only [Act.put, qz1, qz2, qz3]
    refine qta 11 17 ?vkl11 rfl ?hykl11 ?_
    case hykl11 => (intro x h; have e := CZ.out x h; go_simp <;> rfl)
    simp only [Act.put, qz1, qz2, qz3]
    refine wpAnyH_done (by kernel_rfl) ?_ _
    refine NoPanic.normal ?_
    have HRY := qh (HRUN4.out.below hHkl6)
    clear hHkl6
    skip
    cases lk with
    | some lv =>
     simp only [Option.getD_some, Option.isSome_some]
     go_upto_region 15 with fail
     have z1 := qcb HRY.out.instr 1
     refine wp_region_still_tail 7 (by kernel_rfl) (by kernel_rfl) ?_
     simp only [List.take_succ_cons, List.take_zero, List.drop_succ_cons, List.drop_zero]
     repeat still_step
     try refine wpStill_nil ?_
     change wpList _ _ _ _ _ klw6.drew
     obtain ⟨X5, hX5⟩ : ∃ wd, wd = klw6.drew := ⟨_, rfl⟩
     rw [← hX5]
     have HBX5 : Hid (Below klw6.heap.size klw6 X5) := by rw [Hid, hX5]; exact (Below.refl _ _).drew
     clear hX5
     have HRUN5 := qh (HRY.out.below HBX5.out)
     clear z1
     obtain ⟨u0, v0⟩ := HRUN5.out.cells_of HL1.out HTS1.out HBS1.out (1 + rgn) (.int .i64 ([r0, r1, r2, r3].getD rgn 0)) (by omega) (regs_get hrg4)
     rw [← Nat.add_assoc] at u0 v0
     have hw6 := HRUN5.out.set HL1.out (k := 1 + rgn) (by omega) (t' := ⟨(pcn : Int) + 1, ([r0, r1, r2, r3].set rgn lv), bf⟩) (u := (.int .i64 lv)) HTS1.out HBS1.out (regs_cells hrg4) (by simp) rfl
     rw [← Nat.add_assoc] at hw6
     have HW6 := qh hw6
     clear hw6
     go_upto_region 48 with fail
     clear u0 v0
     generalize World.setCell X5 _ _ = X6 at HW6 ⊢
     obtain ⟨hr6, ht6, hb6, hl6⟩ := HW6.out
     have HRUN6 := qh hr6
     have HTS6 := qh ht6
     have HBS6 := qh hb6
     have HL6 := qh hl6
     clear hr6 ht6 hb6 hl6 HW6
     have hres : R = some ⟨ts.set i ⟨(pcn : Int) + 1, [r0, r1, r2, r3].set rgn lv, bf⟩, mem, bad⟩ := by
      rw [HRR6.out, stepT_load HOP.out.symm]
      simp only [Option.map_some]
      rw [← HVR.out, ← HLK.out, ← HRG.out]
      rfl
     have HRES := qh hres
     clear hres
     have hru := HRUN6.out
     rw [HSS.out] at hru
     have HRU := qh hru
     clear hru
     obtain ⟨⟨a0, a1, a2⟩, ⟨q0, q1, q2⟩, ⟨f0, f1, f2⟩, hset, hsn, hbe⟩ := HFIN.out X6 bad HRU.out.own.box HRU.out.own.below
     have HSET := qh hset
     have HSN := qh hsn
     have HBE := qh hbe
     clear hset hsn hbe
     go_wp2_with fail
     (try simp only [Exit.inBlock, Exit.then])
     refine bodyPost_ret (results_cell1 rfl _ _ (gx + 3) 30 _ (0, 0) _ rfl HSET.out Tryz.underlying30 rfl state_size) rfl ?_
     exact ⟨fin_some HRES.out (HSTA.out _ _ _ _ _ _ _ HRU.out HSN.out), HBE.out⟩
    | none =>
     simp only [Option.getD_none, Option.isSome_none]
     go_upto_region 14 with fail
     obtain ⟨nv, hnv⟩ : ∃ nv, nv = mem.getD vrn 0 := ⟨_, rfl⟩
     obtain ⟨sb, so, hsa, -, hsc⟩ := IntsAt.part HMEM.out vrn (by rw [← HMN.out]; omega)
     subst hsa
     rw [← hnv] at hsc
     have HNV := qh hnv
     clear hnv
     have s1 := qck HRY.out.own.below _ _ hsc
     have c6 := (HCC.out _ HRY.out.own.below).2.2.2.2.2.2.1
     have hvI : (vrn : Int) < (mn : Int) := by omega
     have z2 := qcb HRY.out.instr 2
     go_upto_region 15 with fail
     clear z2 s1 c6 hsc
     go_upto_region 15 with fail
     have z1 := qcb HRY.out.instr 1
     refine wp_region_still_tail 7 (by kernel_rfl) (by kernel_rfl) ?_
     simp only [List.take_succ_cons, List.take_zero, List.drop_succ_cons, List.drop_zero]
     repeat still_step
     try refine wpStill_nil ?_
     change wpList _ _ _ _ _ klw6.drew
     obtain ⟨X7, hX7⟩ : ∃ wd, wd = klw6.drew := ⟨_, rfl⟩
     rw [← hX7]
     have HBX7 : Hid (Below klw6.heap.size klw6 X7) := by rw [Hid, hX7]; exact (Below.refl _ _).drew
     clear hX7
     have HRUN7 := qh (HRY.out.below HBX7.out)
     clear z1
     obtain ⟨u0, v0⟩ := HRUN7.out.cells_of HL1.out HTS1.out HBS1.out (1 + rgn) (.int .i64 ([r0, r1, r2, r3].getD rgn 0)) (by omega) (regs_get hrg4)
     rw [← Nat.add_assoc] at u0 v0
     have hw8 := HRUN7.out.set HL1.out (k := 1 + rgn) (by omega) (t' := ⟨(pcn : Int) + 1, ([r0, r1, r2, r3].set rgn nv), bf⟩) (u := (.int .i64 nv)) HTS1.out HBS1.out (regs_cells hrg4) (by simp) rfl
     rw [← Nat.add_assoc] at hw8
     have HW8 := qh hw8
     clear hw8
     go_upto_region 48 with fail
     clear u0 v0
     generalize World.setCell X7 _ _ = X8 at HW8 ⊢
     obtain ⟨hr8, ht8, hb8, hl8⟩ := HW8.out
     have HRUN8 := qh hr8
     have HTS8 := qh ht8
     have HBS8 := qh hb8
     have HL8 := qh hl8
     clear hr8 ht8 hb8 hl8 HW8
     have hres : R = some ⟨ts.set i ⟨(pcn : Int) + 1, [r0, r1, r2, r3].set rgn nv, bf⟩, mem, bad⟩ := by
      rw [HRR6.out, stepT_load HOP.out.symm]
      simp only [Option.map_some]
      rw [← HVR.out, ← HLK.out, ← HRG.out]
      rw [show ((vrn : Int)).toNat = vrn from rfl, ← HNV.out]
      rfl
     have HRES := qh hres
     clear hres
     have hru := HRUN8.out
     rw [HSS.out] at hru
     have HRU := qh hru
     clear hru
     obtain ⟨⟨a0, a1, a2⟩, ⟨q0, q1, q2⟩, ⟨f0, f1, f2⟩, hset, hsn, hbe⟩ := HFIN.out X8 bad HRU.out.own.box HRU.out.own.below
     have HSET := qh hset
     have HSN := qh hsn
     have HBE := qh hbe
     clear hset hsn hbe
     go_wp2_with fail
     (try simp only [Exit.inBlock, Exit.then])
     refine bodyPost_ret (results_cell1 rfl _ _ (gx + 3) 30 _ (0, 0) _ rfl HSET.out Tryz.underlying30 rfl state_size) rfl ?_
     exact ⟨fin_some HRES.out (HSTA.out _ _ _ _ _ _ _ HRU.out HSN.out), HBE.out⟩
  have p1 : ((op : Int) == 1) = false := by simp [o1]
  by_cases o2 : op = 2
  ·have HOPK : Hid ((2 : Int) = x.op) := by rw [Hid, ← HOP.out, o2]
   clear HOP
   have HOP := HOPK
   clear HOPK
   have p2 : ((op : Int) == 2) = true := by simp [o2]
   clear o2
   as_aux_lemma =>
    go_upto_region 17 with fail
    have c3 := (HCC.out _ HRUN4.out.own.below).2.2.2.1
    by_cases hm0 : mod = 0
    ·have hm1 : ((mod : Int) == 0) = true := by simp [hm0]
     have HM0 := qh hm0
     clear hm0
     go_upto_region 18 with fail
     clear c3 hm1
     go_upto_region 18 with fail
     have z2 := qcb HRUN4.out.instr 2
     have hbx := HRUN4.out.own.box
     have g1 := qcb hbx 1
     clear hbx
     have hml : vrn < mem.length := by rw [← HMN.out]; omega
     obtain ⟨m0, m1⟩ := HRUN4.out.mcell hml
     have hvI : (vrn : Int) < (mn : Int) := by omega
     have HRUN9 := qh (HRUN4.out.mem vrn A)
     clear hml
     go_upto_region 19 with fail
     clear z2 g1 m0 m1 hvI
     generalize World.setCell X4 _ _ = X9 at HRUN9 ⊢
     have hres : R = some ⟨ts1, (mem.set vrn A), bad⟩ := by
      rw [HRR6.out, stepT_store0 HOP.out.symm HM0.out]
      simp only [Option.map_some]
      rw [← HVR.out, ← HA.out, HT1.out]
      rfl
     have HRES := qh hres
     clear hres
     have hru := HRUN9.out
     have HRU := qh hru
     clear hru
     obtain ⟨⟨a0, a1, a2⟩, ⟨q0, q1, q2⟩, ⟨f0, f1, f2⟩, hset, hsn, hbe⟩ := HFIN.out X9 bad HRU.out.own.box HRU.out.own.below
     have HSET := qh hset
     have HSN := qh hsn
     have HBE := qh hbe
     clear hset hsn hbe
     go_wp2_with fail
     (try simp only [Exit.inBlock, Exit.then])
     refine bodyPost_ret (results_cell1 rfl _ _ (gx + 3) 30 _ (0, 0) _ rfl HSET.out Tryz.underlying30 rfl state_size) rfl ?_
     exact ⟨fin_some HRES.out (HSTA.out _ _ _ _ _ _ _ HRU.out HSN.out), HBE.out⟩
    have hm1 : ((mod : Int) == 0) = false := by simp [hm0]
    have HM0 := qh hm0
    clear hm0
    go_upto_region 20 with fail
    clear c3 hm1
    obtain ⟨ok, hok⟩ : ∃ ok, ok = putOk bf ⟨mod, bnd⟩ ⟨vrn, A⟩ := ⟨_, rfl⟩
    have hput := fun Y hY => put_any Y (.slice ba bl bc) bf hY (by rw [← HBL.out]; omega) ⟨mod, bnd⟩ ⟨vrn, A⟩
    rw [← hok] at hput
    have HPUT := qh hput
    have HOK := qh hok
    clear hput hok
    have hbu := HBUF.out.1
    rw [HTS1.out, HBS1.out] at hbu
    have HBUFX : Hid (∀ Y, Below X4.heap.size X4 Y → BufAt Y (.slice ba bl bc) bf) := fun Y hY => BufAt.below (buf_of hbu) hY
    clear hbu
    have CZ : Hid (∀ y, Below X4.heap.size X4 y → y.cell? ⟨tb, i * 6 + 5, none⟩ = some (.slice ba bl bc) ∧ y.cell? ⟨gi, 2, none⟩ = some (.int .i64 vrn) ∧ y.cell? ⟨gx + 1, 0, none⟩ = some (.int .i64 mod) ∧ y.cell? ⟨gx + 1, 1, none⟩ = some (.int .i64 bnd)) := fun y hy => ⟨qck hy _ _ (HTC.out 5 _ (by omega) rfl).1, qck hy _ _ (qcb HRUN4.out.instr 2), (HCC.out y (qbt HRUN4.out.own.below hy)).2.2.2.1, (HCC.out y (qbt HRUN4.out.own.below hy)).2.2.2.2.1⟩
    refine wp_region_noPanic ?_
    refine wp_region_held_drew (S := fun x => Below X4.heap.size X4 x) (by kernel_rfl) (Below.refl _ _).drew (fun hH => ?_)
    refine qta 0 122 ?vks1 rfl ?hyks1 ?_
    case hyks1 => (intro x h; have e := CZ.out x h; go_simp <;> rfl)
    simp only [Act.put, qz1, qz2, qz3]
    refine qta 1 123 ?vks2 rfl ?hyks2 ?_
    case hyks2 => (intro x h; have e := CZ.out x h; go_simp <;> rfl)
    simp only [Act.put, qz1, qz2, qz3]
    refine qta 2 124 ?vks3 rfl ?hyks3 ?_
    case hyks3 => (intro x h; have e := CZ.out x h; go_simp <;> rfl)
    simp only [Act.put, qz1, qz2, qz3]
    refine qta 3 125 ?vks4 rfl ?hyks4 ?_
    case hyks4 => (intro x h; have e := CZ.out x h; go_simp <;> rfl)
    simp only [Act.put, qz1, qz2, qz3]
    refine qta 4 126 ?vks5 rfl ?hyks5 ?_
    case hyks5 => (intro x h; have e := CZ.out x h; go_simp <;> rfl)
    simp only [Act.put, qz1, qz2, qz3]
    refine qta 5 127 ?vks6 rfl ?hyks6 ?_
    case hyks6 => (intro x h; have e := CZ.out x h; go_simp <;> rfl)
    simp only [Act.put, qz1, qz2, qz3]
    refine qta 6 128 ?vks7 rfl ?hyks7 ?_
    case hyks7 => (intro x h; have e := CZ.out x h; go_simp <;> rfl)
    simp only [Act.put, qz1, qz2, qz3]
    refine qta 7 129 ?vks8 rfl ?hyks8 ?_
    case hyks8 => (intro x h; have e := CZ.out x h; go_simp <;> rfl)
    simp only [Act.put, qz1, qz2, qz3]
    refine qta 8 130 ?vks9 rfl ?hyks9 ?_
    case hyks9 => (intro x h; have e := CZ.out x h; go_simp <;> rfl)
    simp only [Act.put, qz1, qz2, qz3]
    refine qrH 9 rfl (fun K hK => ?_)
    go_simp
    refine (HPUT.out X4.drew (HBUFX.out X4.drew hH)).mono ?_
    rintro e ksw9 ⟨⟨bv, rfl, hbv, hrow⟩, hb⟩
    obtain ⟨pa, pc2, rfl, -⟩ := SliceR.slice hbv
    have HROW := qh hrow
    clear hbv hrow
    have hHks9 : Below X4.heap.size X4 ksw9 := qbt hH hb
    refine hK.out _ _ hHks9 (fun _ => ?_)
    clear hK K hb hH
    refine qta 10 121 ?vks10 rfl ?hyks10 ?_
    case hyks10 => (intro x h; have e := CZ.out x h; go_simp <;> rfl)
    simp only [Act.put, qz1, qz2, qz3]
    refine qta 11 132 ?vks11 rfl ?hyks11 ?_
    case hyks11 => (intro x h; have e := CZ.out x h; go_simp <;> rfl)
    simp only [Act.put, qz1, qz2, qz3]
    refine qta 12 133 ?vks12 rfl ?hyks12 ?_
    case hyks12 => (intro x h; have e := CZ.out x h; go_simp <;> rfl)
    simp only [Act.put, qz1, qz2, qz3]
    refine qta 13 18 ?vks13 rfl ?hyks13 ?_
    case hyks13 => (intro x h; have e := CZ.out x h; go_simp <;> rfl)
    simp only [Act.put, qz1, qz2, qz3]
    refine qta 14 19 ?vks14 rfl ?hyks14 ?_
    case hyks14 => (intro x h; have e := CZ.out x h; go_simp <;> rfl)
    simp only [Act.put, qz1, qz2, qz3]
    refine wpAnyH_done (by kernel_rfl) ?_ _
    refine NoPanic.normal ?_
    have HRY := qh (HRUN4.out.below hHks9)
    clear hHks9
    have HSZX := qh (qlb HRUN4.out.own.box)
    have HSZT := qh (HRUN4.out.own.own.row.lt tb rfl).2
    have HSZM := qh (HRUN4.out.own.own.mem.lt mb rfl).2
    have HSZW := qh HRUN4.out.own.below.size
    go_upto_region 21 with fail
    obtain ⟨t5, v5⟩ := HRY.out.cells_of HL1.out HTS1.out HBS1.out 5 (.slice ba bl bc) (by omega) rfl
    obtain ⟨pl, hpl⟩ : ∃ pl, pl = (putB bf ⟨mod, bnd⟩ ⟨vrn, A⟩).length := ⟨_, rfl⟩
    rw [← hpl] at HROW ⊢
    have HPL := qh hpl
    clear hpl
    cases ok with
    | true =>
     have hrw := own_lower (C := W.heap.size) (HROW.out rfl) HSZW.out
     have hpw := HRY.out.thread HL1.out (k := 5) (by omega) (t := ⟨(pcn : Int) + 1, [r0, r1, r2, r3], putB bf ⟨mod, bnd⟩ ⟨vrn, A⟩⟩) (b := .slice pa pl pc2) (u := .slice pa pl pc2) (by rw [HTS1.out, HBS1.out]; rfl) rfl (by rw [← HPL.out]; exact hrw) (fun k hk => by have h1 : X4.heap.size ≤ k := ((HROW.out rfl).lt k hk).1; have := HSZX.out; have := HSZT.out; have := HSZM.out; exact ⟨by omega, by omega, by omega⟩)
     rw [HSS.out] at hpw
     have HPW := qh hpw
     clear hpw hrw
     go_upto_region 22 with fail
     clear t5 v5
     generalize World.setCell ksw9 _ _ = XY at HPW ⊢
     have hres : R = some ⟨(ts.set i ⟨(pcn : Int) + 1, [r0, r1, r2, r3], putB bf ⟨mod, bnd⟩ ⟨vrn, A⟩⟩), mem, bad⟩ := by
      rw [HRR6.out, stepT_storeY HOP.out.symm HM0.out (by rw [← HVR.out, ← HA.out, ← HOK.out])]
      simp only [Option.map_some]
      rw [← HVR.out, ← HA.out]
     have HRES := qh hres
     clear hres
     have hru := HPW.out
     have HRU := qh hru
     clear hru
     obtain ⟨⟨a0, a1, a2⟩, ⟨q0, q1, q2⟩, ⟨f0, f1, f2⟩, hset, hsn, hbe⟩ := HFIN.out XY bad HRU.out.own.box HRU.out.own.below
     have HSET := qh hset
     have HSN := qh hsn
     have HBE := qh hbe
     clear hset hsn hbe
     go_wp2_with fail
     (try simp only [Exit.inBlock, Exit.then])
     refine bodyPost_ret (results_cell1 rfl _ _ (gx + 3) 30 _ (0, 0) _ rfl HSET.out Tryz.underlying30 rfl state_size) rfl ?_
     exact ⟨fin_some HRES.out (HSTA.out _ _ _ _ _ _ _ HRU.out HSN.out), HBE.out⟩
    | false =>
     have hbx := HRY.out.own.box
     have hsY : Since (fun x => x = tb) ksw9 (ksw9.setCell ⟨tb, i * 6 + 5, none⟩ (.slice pa pl pc2)) := Since.setCell (F := fun x => x = tb) (p := ⟨tb, i * 6 + 5, none⟩) (Since.refl _ _) (.inl rfl) _
     have hbx2 := (hsY.block gb (qlb hbx) (fun e => HRY.out.own.n1 (by rw [e]; rfl))).trans hbx
     have hbe2 := HRY.out.own.below.trans (hsY.below HRY.out.own.below.size (fun x e => by have := (HRY.out.own.own.row.lt tb rfl).1; omega))
     have HBX := qh hbx2
     have HBEW := qh hbe2
     clear hbx hsY hbx2 hbe2
     have hres : R = none := by
      rw [HRR6.out, stepT_storeN HOP.out.symm HM0.out (by rw [← HVR.out, ← HA.out, ← HOK.out])]
      rfl
     have HRES := qh hres
     clear hres
     go_upto_region 22 with fail
     clear t5 v5
     generalize World.setCell ksw9 _ _ = XY at HBX HBEW ⊢
     obtain ⟨⟨a0, a1, a2⟩, ⟨q0, q1, q2⟩, ⟨f0, f1, f2⟩, hset, -, hbe⟩ := HFIN.out XY bad HBX.out HBEW.out
     have HSET := qh hset
     have HBE := qh hbe
     clear hset hbe
     go_wp2_with fail
     (try simp only [Exit.inBlock, Exit.then])
     refine bodyPost_ret (results_cell1 rfl _ _ (gx + 3) 30 _ (0, 0) _ rfl HSET.out Tryz.underlying30 rfl state_size) rfl ?_
     exact ⟨fin_none HRES.out, HBE.out⟩
  have p2 : ((op : Int) == 2) = false := by simp [o2]
  by_cases o3 : op = 3
  ·have HOPK : Hid ((3 : Int) = x.op) := by rw [Hid, ← HOP.out, o3]
   clear HOP
   have HOP := HOPK
   clear HOPK
   have p3 : ((op : Int) == 3) = true := by simp [o3]
   clear o3
   as_aux_lemma =>
    go_upto_region 24 with fail
    have z1 := qcb HRUN4.out.instr 1
    refine wp_region_still_tail 7 (by kernel_rfl) (by kernel_rfl) ?_
    simp only [List.take_succ_cons, List.take_zero, List.drop_succ_cons, List.drop_zero]
    repeat still_step
    try refine wpStill_nil ?_
    change wpList _ _ _ _ _ X4.drew
    obtain ⟨X10, hX10⟩ : ∃ wd, wd = X4.drew := ⟨_, rfl⟩
    rw [← hX10]
    have HBX10 : Hid (Below X4.heap.size X4 X10) := by rw [Hid, hX10]; exact (Below.refl _ _).drew
    clear hX10
    have HRUN10 := qh (HRUN4.out.below HBX10.out)
    clear z1
    obtain ⟨u0, v0⟩ := HRUN10.out.cells_of HL1.out HTS1.out HBS1.out (1 + rgn) (.int .i64 ([r0, r1, r2, r3].getD rgn 0)) (by omega) (regs_get hrg4)
    rw [← Nat.add_assoc] at u0 v0
    have hw11 := HRUN10.out.set HL1.out (k := 1 + rgn) (by omega) (t' := ⟨(pcn : Int) + 1, ([r0, r1, r2, r3].set rgn A), bf⟩) (u := (.int .i64 A)) HTS1.out HBS1.out (regs_cells hrg4) (by simp) rfl
    rw [← Nat.add_assoc] at hw11
    have HW11 := qh hw11
    clear hw11
    go_upto_region 48 with fail
    clear u0 v0
    generalize World.setCell X10 _ _ = X11 at HW11 ⊢
    obtain ⟨hr11, ht11, hb11, hl11⟩ := HW11.out
    have HRUN11 := qh hr11
    have HTS11 := qh ht11
    have HBS11 := qh hb11
    have HL11 := qh hl11
    clear hr11 ht11 hb11 hl11 HW11
    have hres : R = some ⟨ts.set i ⟨(pcn : Int) + 1, [r0, r1, r2, r3].set rgn A, bf⟩, mem, bad⟩ := by
     rw [HRR6.out, stepT_set HOP.out.symm]
     simp only [Option.map_some]
     rw [← HA.out, ← HRG.out]
     rfl
    have HRES := qh hres
    clear hres
    have hru := HRUN11.out
    rw [HSS.out] at hru
    have HRU := qh hru
    clear hru
    obtain ⟨⟨a0, a1, a2⟩, ⟨q0, q1, q2⟩, ⟨f0, f1, f2⟩, hset, hsn, hbe⟩ := HFIN.out X11 bad HRU.out.own.box HRU.out.own.below
    have HSET := qh hset
    have HSN := qh hsn
    have HBE := qh hbe
    clear hset hsn hbe
    go_wp2_with fail
    (try simp only [Exit.inBlock, Exit.then])
    refine bodyPost_ret (results_cell1 rfl _ _ (gx + 3) 30 _ (0, 0) _ rfl HSET.out Tryz.underlying30 rfl state_size) rfl ?_
    exact ⟨fin_some HRES.out (HSTA.out _ _ _ _ _ _ _ HRU.out HSN.out), HBE.out⟩
  have p3 : ((op : Int) == 3) = false := by simp [o3]
  by_cases o4 : op = 4
  ·have HOPK : Hid ((4 : Int) = x.op) := by rw [Hid, ← HOP.out, o4]
   clear HOP
   have HOP := HOPK
   clear HOPK
   have p4 : ((op : Int) == 4) = true := by simp [o4]
   clear o4
   as_aux_lemma =>
    go_upto_region 26 with fail
    cases em with
    | true =>
     have hb0 : bf.length = 0 := by rw [← HBL.out]; exact of_decide_eq_true HEM.out.symm
     have HB0 := qh hb0
     clear hb0
     have hres : R = some ⟨ts1, mem, bad⟩ := by
      rw [HRR6.out, stepT_fence HOP.out.symm]
      rw [if_pos HB0.out, HT1.out]
      rfl
     have HRES := qh hres
     clear hres
     have hru := HRUN4.out
     have HRU := qh hru
     clear hru
     obtain ⟨⟨a0, a1, a2⟩, ⟨q0, q1, q2⟩, ⟨f0, f1, f2⟩, hset, hsn, hbe⟩ := HFIN.out X4 bad HRU.out.own.box HRU.out.own.below
     have HSET := qh hset
     have HSN := qh hsn
     have HBE := qh hbe
     clear hset hsn hbe
     go_wp2_with fail
     (try simp only [Exit.inBlock, Exit.then])
     refine bodyPost_ret (results_cell1 rfl _ _ (gx + 3) 30 _ (0, 0) _ rfl HSET.out Tryz.underlying30 rfl state_size) rfl ?_
     exact ⟨fin_some HRES.out (HSTA.out _ _ _ _ _ _ _ HRU.out HSN.out), HBE.out⟩
    | false =>
     have hb0 : ¬ bf.length = 0 := by rw [← HBL.out]; exact of_decide_eq_false HEM.out.symm
     have HB0 := qh hb0
     clear hb0
     have hres : R = none := by
      rw [HRR6.out, stepT_fence HOP.out.symm]
      rw [if_neg HB0.out]
      rfl
     have HRES := qh hres
     clear hres
     have hru := HRUN4.out
     have HRU := qh hru
     clear hru
     obtain ⟨⟨a0, a1, a2⟩, ⟨q0, q1, q2⟩, ⟨f0, f1, f2⟩, hset, hsn, hbe⟩ := HFIN.out X4 bad HRU.out.own.box HRU.out.own.below
     have HSET := qh hset
     have HSN := qh hsn
     have HBE := qh hbe
     clear hset hsn hbe
     go_wp2_with fail
     (try simp only [Exit.inBlock, Exit.then])
     refine bodyPost_ret (results_cell1 rfl _ _ (gx + 3) 30 _ (0, 0) _ rfl HSET.out Tryz.underlying30 rfl state_size) rfl ?_
     exact ⟨fin_none HRES.out, HBE.out⟩
  have p4 : ((op : Int) == 4) = false := by simp [o4]
  by_cases o5 : op = 5
  ·have HOPK : Hid ((5 : Int) = x.op) := by rw [Hid, ← HOP.out, o5]
   clear HOP
   have HOP := HOPK
   clear HOPK
   have p5 : ((op : Int) == 5) = true := by simp [o5]
   clear o5
   as_aux_lemma =>
    go_upto_region 28 with fail
    have CZ : Hid (∀ y, Since (fun k => k = gx + 3) X4 y → y.cell? ⟨gb, 0, none⟩ = some (.slice (some ⟨tb, 0, none⟩) n xc) ∧ y.cell? ⟨gb, 1, none⟩ = some (.slice (some ⟨mb, 0, none⟩) mn yc) ∧ y.cell? ⟨gb, 2, none⟩ = some (.bool bad) ∧ y.cell? ⟨gx + 1, 0, none⟩ = some (.int .i64 mod)) := fun y hy => by
     have h1 := HRUN4.out.own.box
     have hlo := HRUN4.out.own.lo
     have hlt := qlb H4.out
     have h2 := (hy.block _ (qlb h1) (by omega)).trans h1
     have h3 := (HRUN4.out.own.below.block _ (qlb H2.out)).trans H2.out
     have h4 := (hy.block _ (qlb h3) (by omega)).trans h3
     exact ⟨qcb h2 0, qcb h2 1, qcb h2 2, qcb h4 0⟩
    cases em with
    | true =>
     have hb0 : bf.length = 0 := by rw [← HBL.out]; exact of_decide_eq_true HEM.out.symm
     have HB0 := qh hb0
     clear hb0
     have hres : R = some ⟨ts1, mem, bad⟩ := by
      rw [HRR6.out, stepT_weak HOP.out.symm]
      rw [if_pos (.inl HB0.out), HT1.out]
      rfl
     have HRES := qh hres
     clear hres
     have hru := HRUN4.out
     have HRU := qh hru
     clear hru
     refine wp_region_noPanic ?_
     refine wp_region_held_drew (S := fun y => Since (fun k => k = gx + 3) X4 y) (by kernel_rfl) (Since.refl _ _).drew (fun _ => ?_)
     obtain ⟨wd, hwd⟩ : ∃ wd, wd = X4.drew := ⟨_, rfl⟩
     rw [← hwd]
     have HFX := HFIN.out wd bad (by rw [hwd]; exact HRU.out.own.box) (by rw [hwd]; exact HRU.out.own.below.drew)
     have HSD : Hid (Since (fun k => k = gx + 3) X4 wd) := by rw [Hid, hwd]; exact (Since.refl _ _).drew
     clear hwd
     refine qtk 0 155 ?vz121 rfl ?hyz121 (HSD.out) ?_
     case hyz121 => (intro x h; have e := CZ.out x h; go_simp <;> rfl)
     simp only [Act.put, qz1, qz2, qz3]
     refine qtk 1 156 ?vz122 rfl ?hyz122 (HSD.out) ?_
     case hyz122 => (intro _ _; go_simp <;> rfl)
     simp only [Act.put, qz1, qz2, qz3]
     refine qtk 2 157 ?vz123 rfl ?hyz123 (HSD.out) ?_
     case hyz123 => (intro _ _; go_simp <;> rfl)
     simp only [Act.put, qz1, qz2, qz3]
     refine wpAnyH_take (i := 3) (v := undef) rfl (by kernel_rfl) (by kernel_rfl) (by kernel_rfl) (fun _ _ _ h => h) (Or.inr ⟨by rfl, rfl⟩) (HSD.out) ?_
     change wpAnyH _ _ _ _ _ _ _ (Act.put _ (some 158) _) _
     simp only [Act.put, qz1]
     try simp only [qz2, qz3]
     refine wpAnyH_take (i := 4) (v := undef) rfl (by kernel_rfl) (by kernel_rfl) (by kernel_rfl) (fun _ _ _ h => h) (Or.inr ⟨by rfl, rfl⟩) (HSD.out) ?_
     change wpAnyH _ _ _ _ _ _ _ (Act.put _ (some 159) _) _
     simp only [Act.put, qz1]
     try simp only [qz2, qz3]
     refine wpAnyH_take (i := 5) (v := undef) rfl (by kernel_rfl) (by kernel_rfl) (by kernel_rfl) (fun _ _ _ h => h) (Or.inr ⟨by rfl, rfl⟩) (HSD.out) ?_
     change wpAnyH _ _ _ _ _ _ _ (Act.put _ (some 160) _) _
     simp only [Act.put, qz1]
     try simp only [qz2, qz3]
     refine qtk 6 161 ?vz127 rfl ?hyz127 (HSD.out) ?_
     case hyz127 => (intro _ _; go_simp <;> rfl)
     simp only [Act.put, qz1, qz2, qz3]
     refine qrH 7 rfl (fun K hK => ?_)
     obtain ⟨-, ⟨q0, q1, q2⟩, ⟨f0, f1, f2⟩, hset, hsn, hbe⟩ := HFX
     have HSET := qh hset
     have HSN := qh hsn
     have HBE := qh hbe
     clear hset hsn hbe
     go_simp
     refine hK.out _ _ (HSD.out.trans HSN.out (fun _ h => .inl h)) (fun _ => ?_)
     clear hK K
     refine qtk 8 9 ?vz128 rfl ?hyz128 ((HSD.out.trans HSN.out (fun _ h => .inl h))) ?_
     case hyz128 => (intro _ _; go_simp <;> rfl)
     simp only [Act.put, qz1, qz2, qz3]
     refine wpAnyH_done (by kernel_rfl) ?_ _
     refine NoPanic.normal ?_
     go_wp2_with fail
     (try simp only [Exit.inBlock, Exit.then])
     refine bodyPost_ret (results_cell1 rfl _ _ (gx + 3) 30 _ (0, 0) _ rfl HSET.out Tryz.underlying30 rfl state_size) rfl ?_
     exact ⟨fin_some HRES.out (HSTA.out _ _ _ _ _ _ _ HRU.out (HSD.out.trans HSN.out (fun _ h => .inl h))), HBE.out⟩
    | false =>
     have hb0 : ¬ bf.length = 0 := by rw [← HBL.out]; exact of_decide_eq_false HEM.out.symm
     have HB0 := qh hb0
     clear hb0
     by_cases hm2 : mod = 2
     rotate_left
     ·have hm3 : ((mod : Int) != 2) = true := by simp [hm2]
      have HM2 := qh hm2
      clear hm2
      have hres : R = some ⟨ts1, mem, bad⟩ := by
       rw [HRR6.out, stepT_weak HOP.out.symm]
       rw [if_pos (.inr HM2.out), HT1.out]
       rfl
      have HRES := qh hres
      clear hres
      have hru := HRUN4.out
      have HRU := qh hru
      clear hru
      refine wp_region_noPanic ?_
      refine wp_region_held_drew (S := fun y => Since (fun k => k = gx + 3) X4 y) (by kernel_rfl) (Since.refl _ _).drew (fun _ => ?_)
      obtain ⟨wd, hwd⟩ : ∃ wd, wd = X4.drew := ⟨_, rfl⟩
      rw [← hwd]
      have HFX := HFIN.out wd bad (by rw [hwd]; exact HRU.out.own.box) (by rw [hwd]; exact HRU.out.own.below.drew)
      have HSD : Hid (Since (fun k => k = gx + 3) X4 wd) := by rw [Hid, hwd]; exact (Since.refl _ _).drew
      clear hwd
      refine qtk 0 155 ?vz1417 rfl ?hyz1417 (HSD.out) ?_
      case hyz1417 => (intro x h; have e := CZ.out x h; go_simp <;> rfl)
      simp only [Act.put, qz1, qz2, qz3]
      refine qtk 1 156 ?vz1418 rfl ?hyz1418 (HSD.out) ?_
      case hyz1418 => (intro _ _; go_simp <;> rfl)
      simp only [Act.put, qz1, qz2, qz3]
      refine qtk 2 157 ?vz1419 rfl ?hyz1419 (HSD.out) ?_
      case hyz1419 => (intro _ _; go_simp <;> rfl)
      simp only [Act.put, qz1, qz2, qz3]
      refine qtk 3 158 ?vz1420 rfl ?hyz1420 (HSD.out) ?_
      case hyz1420 => (intro _ _; go_simp <;> rfl)
      simp only [Act.put, qz1, qz2, qz3]
      refine qtk 4 159 ?vz1421 rfl ?hyz1421 (HSD.out) ?_
      case hyz1421 => (intro x h; have e := CZ.out x h; go_simp <;> rfl)
      simp only [Act.put, qz1, qz2, qz3]
      refine qtk 5 160 ?vz1422 rfl ?hyz1422 (HSD.out) ?_
      case hyz1422 => (intro _ _; go_simp <;> rfl)
      simp only [Act.put, qz1, qz2, qz3]
      refine qtk 6 161 ?vz1423 rfl ?hyz1423 (HSD.out) ?_
      case hyz1423 => (intro _ _; go_simp <;> rfl)
      simp only [Act.put, qz1, qz2, qz3]
      refine qrH 7 rfl (fun K hK => ?_)
      obtain ⟨-, ⟨q0, q1, q2⟩, ⟨f0, f1, f2⟩, hset, hsn, hbe⟩ := HFX
      have HSET := qh hset
      have HSN := qh hsn
      have HBE := qh hbe
      clear hset hsn hbe
      go_simp
      refine hK.out _ _ (HSD.out.trans HSN.out (fun _ h => .inl h)) (fun _ => ?_)
      clear hK K
      refine qtk 8 9 ?vz1424 rfl ?hyz1424 ((HSD.out.trans HSN.out (fun _ h => .inl h))) ?_
      case hyz1424 => (intro _ _; go_simp <;> rfl)
      simp only [Act.put, qz1, qz2, qz3]
      refine wpAnyH_done (by kernel_rfl) ?_ _
      refine NoPanic.normal ?_
      go_wp2_with fail
      (try simp only [Exit.inBlock, Exit.then])
      refine bodyPost_ret (results_cell1 rfl _ _ (gx + 3) 30 _ (0, 0) _ rfl HSET.out Tryz.underlying30 rfl state_size) rfl ?_
      exact ⟨fin_some HRES.out (HSTA.out _ _ _ _ _ _ _ HRU.out (HSD.out.trans HSN.out (fun _ h => .inl h))), HBE.out⟩
     have hm3 : ((mod : Int) != 2) = false := by simp [hm2]
     have HM2 := qh hm2
     clear hm2
     have hres : R = none := by
      rw [HRR6.out, stepT_weak HOP.out.symm]
      rw [if_neg (fun h => h.elim HB0.out (fun h => h HM2.out))]
      rfl
     have HRES := qh hres
     clear hres
     have hru := HRUN4.out
     have HRU := qh hru
     clear hru
     refine wp_region_noPanic ?_
     refine wp_region_held_drew (S := fun y => Since (fun k => k = gx + 3) X4 y) (by kernel_rfl) (Since.refl _ _).drew (fun _ => ?_)
     obtain ⟨wd, hwd⟩ : ∃ wd, wd = X4.drew := ⟨_, rfl⟩
     rw [← hwd]
     have HFX := HFIN.out wd bad (by rw [hwd]; exact HRU.out.own.box) (by rw [hwd]; exact HRU.out.own.below.drew)
     have HSD : Hid (Since (fun k => k = gx + 3) X4 wd) := by rw [Hid, hwd]; exact (Since.refl _ _).drew
     clear hwd
     refine qtk 0 155 ?vz139 rfl ?hyz139 (HSD.out) ?_
     case hyz139 => (intro x h; have e := CZ.out x h; go_simp <;> rfl)
     simp only [Act.put, qz1, qz2, qz3]
     refine qtk 1 156 ?vz1310 rfl ?hyz1310 (HSD.out) ?_
     case hyz1310 => (intro _ _; go_simp <;> rfl)
     simp only [Act.put, qz1, qz2, qz3]
     refine qtk 2 157 ?vz1311 rfl ?hyz1311 (HSD.out) ?_
     case hyz1311 => (intro _ _; go_simp <;> rfl)
     simp only [Act.put, qz1, qz2, qz3]
     refine qtk 3 158 ?vz1312 rfl ?hyz1312 (HSD.out) ?_
     case hyz1312 => (intro _ _; go_simp <;> rfl)
     simp only [Act.put, qz1, qz2, qz3]
     refine qtk 4 159 ?vz1313 rfl ?hyz1313 (HSD.out) ?_
     case hyz1313 => (intro x h; have e := CZ.out x h; go_simp <;> rfl)
     simp only [Act.put, qz1, qz2, qz3]
     refine qtk 5 160 ?vz1314 rfl ?hyz1314 (HSD.out) ?_
     case hyz1314 => (intro _ _; go_simp <;> rfl)
     simp only [Act.put, qz1, qz2, qz3]
     refine qtk 6 161 ?vz1315 rfl ?hyz1315 (HSD.out) ?_
     case hyz1315 => (intro _ _; go_simp <;> rfl)
     simp only [Act.put, qz1, qz2, qz3]
     refine qrH 7 rfl (fun K hK => ?_)
     obtain ⟨-, ⟨q0, q1, q2⟩, ⟨f0, f1, f2⟩, hset, hsn, hbe⟩ := HFX
     have HSET := qh hset
     have HSN := qh hsn
     have HBE := qh hbe
     clear hset hsn hbe
     go_simp
     refine hK.out _ _ (HSD.out.trans HSN.out (fun _ h => .inl h)) (fun _ => ?_)
     clear hK K
     refine qtk 8 9 ?vz1316 rfl ?hyz1316 ((HSD.out.trans HSN.out (fun _ h => .inl h))) ?_
     case hyz1316 => (intro _ _; go_simp <;> rfl)
     simp only [Act.put, qz1, qz2, qz3]
     refine wpAnyH_done (by kernel_rfl) ?_ _
     refine NoPanic.normal ?_
     go_wp2_with fail
     (try simp only [Exit.inBlock, Exit.then])
     refine bodyPost_ret (results_cell1 rfl _ _ (gx + 3) 30 _ (0, 0) _ rfl HSET.out Tryz.underlying30 rfl state_size) rfl ?_
     exact ⟨fin_none HRES.out, HBE.out⟩
  have p5 : ((op : Int) == 5) = false := by simp [o5]
  by_cases o6 : op = 6
  ·have HOPK : Hid ((6 : Int) = x.op) := by rw [Hid, ← HOP.out, o6]
   clear HOP
   have HOP := HOPK
   clear HOPK
   have p6 : ((op : Int) == 6) = true := by simp [o6]
   clear o6
   as_aux_lemma =>
    go_upto_region 30 with fail
    have z1 := qcb HRUN4.out.instr 1
    refine wp_region_still_tail 6 (by kernel_rfl) (by kernel_rfl) ?_
    simp only [List.take_succ_cons, List.take_zero, List.drop_succ_cons, List.drop_zero]
    repeat still_step
    try refine wpStill_nil ?_
    change wpList _ _ _ _ _ X4.drew
    obtain ⟨X15, hX15⟩ : ∃ wd, wd = X4.drew := ⟨_, rfl⟩
    rw [← hX15]
    have HBX15 : Hid (Below X4.heap.size X4 X15) := by rw [Hid, hX15]; exact (Below.refl _ _).drew
    clear hX15
    have HRUN15 := qh (HRUN4.out.below HBX15.out)
    clear z1
    obtain ⟨u0, v0⟩ := HRUN15.out.cells_of HL1.out HTS1.out HBS1.out (1 + rgn) (.int .i64 ([r0, r1, r2, r3].getD rgn 0)) (by omega) (regs_get hrg4)
    rw [← Nat.add_assoc] at u0 v0
    have hw16 := HRUN15.out.set HL1.out (k := 1 + rgn) (by omega) (t' := ⟨(pcn : Int) + 1, ([r0, r1, r2, r3].set rgn 0), bf⟩) (u := (.int .i64 0)) HTS1.out HBS1.out (regs_cells hrg4) (by simp) rfl
    rw [← Nat.add_assoc] at hw16
    have HW16 := qh hw16
    clear hw16
    go_upto_region 31 with fail
    clear u0 v0
    generalize World.setCell X15 _ _ = X16 at HW16 ⊢
    obtain ⟨hr16, ht16, hb16, hl16⟩ := HW16.out
    have HRUN16 := qh hr16
    have HTS16 := qh ht16
    have HBS16 := qh hb16
    have HL16 := qh hl16
    clear hr16 ht16 hb16 hl16 HW16
    obtain ⟨nv, hnv⟩ : ∃ nv, nv = mem.getD vrn 0 := ⟨_, rfl⟩
    obtain ⟨sb, so, hsa, -, hsc⟩ := IntsAt.part HMEM.out vrn (by rw [← HMN.out]; omega)
    subst hsa
    rw [← hnv] at hsc
    have HNV := qh hnv
    clear hnv
    have s1 := qck HRUN16.out.own.below _ _ hsc
    have c6 := (HCC.out _ HRUN16.out.own.below).2.2.2.2.2.2.1
    have hvI : (vrn : Int) < (mn : Int) := by omega
    have z2 := qcb HRUN16.out.instr 2
    by_cases ha0 : nv = A
    rotate_left
    ·have ha1 : ((nv : Int) == A) = false := by simp [ha0]
     have HA0 := qh ha0
     clear ha0
     go_upto_region 34 with fail
     clear z2 s1 c6 hsc hvI ha1
     cases em with
     | true =>
      have hb0 : bf.length = 0 := by rw [← HBL.out]; exact of_decide_eq_true HEM.out.symm
      have HB0 := qh hb0
      clear hb0
      have hres : R = some ⟨ts.set i ⟨(pcn : Int) + 1, [r0, r1, r2, r3].set rgn 0, bf⟩, mem, bad⟩ := by
       rw [HRR6.out, stepT_casN HOP.out.symm (by rw [← HVR.out, ← HA.out]; exact fun e => HA0.out (HNV.out.trans e)), if_pos HB0.out]
       simp only [Option.map_some]
       rw [← HRG.out]
       rfl
      have HRES := qh hres
      clear hres
      have hru := HRUN16.out
      rw [HSS.out] at hru
      have HRU := qh hru
      clear hru
      obtain ⟨⟨a0, a1, a2⟩, ⟨q0, q1, q2⟩, ⟨f0, f1, f2⟩, hset, hsn, hbe⟩ := HFIN.out X16 bad HRU.out.own.box HRU.out.own.below
      have HSET := qh hset
      have HSN := qh hsn
      have HBE := qh hbe
      clear hset hsn hbe
      go_wp2_with fail
      (try simp only [Exit.inBlock, Exit.then])
      refine bodyPost_ret (results_cell1 rfl _ _ (gx + 3) 30 _ (0, 0) _ rfl HSET.out Tryz.underlying30 rfl state_size) rfl ?_
      exact ⟨fin_some HRES.out (HSTA.out _ _ _ _ _ _ _ HRU.out HSN.out), HBE.out⟩
     | false =>
      have hb0 : ¬ bf.length = 0 := by rw [← HBL.out]; exact of_decide_eq_false HEM.out.symm
      have HB0 := qh hb0
      clear hb0
      have hres : R = none := by
       rw [HRR6.out, stepT_casN HOP.out.symm (by rw [← HVR.out, ← HA.out]; exact fun e => HA0.out (HNV.out.trans e)), if_neg HB0.out]
       rfl
      have HRES := qh hres
      clear hres
      have hru := HRUN16.out
      have HRU := qh hru
      clear hru
      obtain ⟨⟨a0, a1, a2⟩, ⟨q0, q1, q2⟩, ⟨f0, f1, f2⟩, hset, hsn, hbe⟩ := HFIN.out X16 bad HRU.out.own.box HRU.out.own.below
      have HSET := qh hset
      have HSN := qh hsn
      have HBE := qh hbe
      clear hset hsn hbe
      go_wp2_with fail
      (try simp only [Exit.inBlock, Exit.then])
      refine bodyPost_ret (results_cell1 rfl _ _ (gx + 3) 30 _ (0, 0) _ rfl HSET.out Tryz.underlying30 rfl state_size) rfl ?_
      exact ⟨fin_none HRES.out, HBE.out⟩
    have ha1 : ((nv : Int) == A) = true := by simp [ha0]
    have HA0 := qh ha0
    clear ha0
    go_upto_region 32 with fail
    clear z2 s1 c6 hsc hvI ha1
    go_upto_region 32 with fail
    have z2 := qcb HRUN16.out.instr 2
    have hbx := HRUN16.out.own.box
    have g1 := qcb hbx 1
    clear hbx
    have hml : vrn < mem.length := by rw [← HMN.out]; omega
    obtain ⟨m0, m1⟩ := HRUN16.out.mcell hml
    have hvI : (vrn : Int) < (mn : Int) := by omega
    have HRUN17 := qh (HRUN16.out.mem vrn B)
    clear hml
    go_upto_region 33 with fail
    clear z2 g1 m0 m1 hvI
    generalize World.setCell X16 _ _ = X17 at HRUN17 ⊢
    go_upto_region 33 with fail
    have z1 := qcb HRUN17.out.instr 1
    refine wp_region_still_tail 6 (by kernel_rfl) (by kernel_rfl) ?_
    simp only [List.take_succ_cons, List.take_zero, List.drop_succ_cons, List.drop_zero]
    repeat still_step
    try refine wpStill_nil ?_
    change wpList _ _ _ _ _ X17.drew
    obtain ⟨X18, hX18⟩ : ∃ wd, wd = X17.drew := ⟨_, rfl⟩
    rw [← hX18]
    have HBX18 : Hid (Below X17.heap.size X17 X18) := by rw [Hid, hX18]; exact (Below.refl _ _).drew
    clear hX18
    have HRUN18 := qh (HRUN17.out.below HBX18.out)
    clear z1
    obtain ⟨u0, v0⟩ := HRUN18.out.cells_of HL16.out HTS16.out HBS16.out (1 + rgn) (.int .i64 ([0, 0, 0, 0].getD rgn 0)) (by omega) (regs_get0 hrg4)
    rw [← Nat.add_assoc] at u0 v0
    have hw19 := HRUN18.out.set HL16.out (k := 1 + rgn) (by omega) (t' := ⟨(pcn : Int) + 1, ([r0, r1, r2, r3].set rgn 1), bf⟩) (u := (.int .i64 1)) HTS16.out HBS16.out (regs_cells3 hrg4) (by simp) rfl
    rw [← Nat.add_assoc] at hw19
    have HW19 := qh hw19
    clear hw19
    go_upto_region 34 with fail
    clear u0 v0
    generalize World.setCell X18 _ _ = X19 at HW19 ⊢
    obtain ⟨hr19, ht19, hb19, hl19⟩ := HW19.out
    have HRUN19 := qh hr19
    have HTS19 := qh ht19
    have HBS19 := qh hb19
    have HL19 := qh hl19
    clear hr19 ht19 hb19 hl19 HW19
    cases em with
    | true =>
     have hb0 : bf.length = 0 := by rw [← HBL.out]; exact of_decide_eq_true HEM.out.symm
     have HB0 := qh hb0
     clear hb0
     have hres : R = some ⟨ts.set i ⟨(pcn : Int) + 1, [r0, r1, r2, r3].set rgn 1, bf⟩, (mem.set vrn B), bad⟩ := by
      rw [HRR6.out, stepT_casY HOP.out.symm (by rw [← HVR.out, ← HA.out, ← HA0.out, HNV.out]; rfl), if_pos HB0.out]
      simp only [Option.map_some]
      rw [← HVR.out, ← HBE.out, ← HRG.out]
      rfl
     have HRES := qh hres
     clear hres
     have hru := HRUN19.out
     rw [List.set_set, HSS.out] at hru
     have HRU := qh hru
     clear hru
     obtain ⟨⟨a0, a1, a2⟩, ⟨q0, q1, q2⟩, ⟨f0, f1, f2⟩, hset, hsn, hbe⟩ := HFIN.out X19 bad HRU.out.own.box HRU.out.own.below
     have HSET := qh hset
     have HSN := qh hsn
     have HBE := qh hbe
     clear hset hsn hbe
     go_wp2_with fail
     (try simp only [Exit.inBlock, Exit.then])
     refine bodyPost_ret (results_cell1 rfl _ _ (gx + 3) 30 _ (0, 0) _ rfl HSET.out Tryz.underlying30 rfl state_size) rfl ?_
     exact ⟨fin_some HRES.out (HSTA.out _ _ _ _ _ _ _ HRU.out HSN.out), HBE.out⟩
    | false =>
     have hb0 : ¬ bf.length = 0 := by rw [← HBL.out]; exact of_decide_eq_false HEM.out.symm
     have HB0 := qh hb0
     clear hb0
     have hres : R = none := by
      rw [HRR6.out, stepT_casY HOP.out.symm (by rw [← HVR.out, ← HA.out, ← HA0.out, HNV.out]; rfl), if_neg HB0.out]
      rfl
     have HRES := qh hres
     clear hres
     have hru := HRUN19.out
     have HRU := qh hru
     clear hru
     obtain ⟨⟨a0, a1, a2⟩, ⟨q0, q1, q2⟩, ⟨f0, f1, f2⟩, hset, hsn, hbe⟩ := HFIN.out X19 bad HRU.out.own.box HRU.out.own.below
     have HSET := qh hset
     have HSN := qh hsn
     have HBE := qh hbe
     clear hset hsn hbe
     go_wp2_with fail
     (try simp only [Exit.inBlock, Exit.then])
     refine bodyPost_ret (results_cell1 rfl _ _ (gx + 3) 30 _ (0, 0) _ rfl HSET.out Tryz.underlying30 rfl state_size) rfl ?_
     exact ⟨fin_none HRES.out, HBE.out⟩
  have p6 : ((op : Int) == 6) = false := by simp [o6]
  by_cases o7 : op = 7
  ·have HOPK : Hid ((7 : Int) = x.op) := by rw [Hid, ← HOP.out, o7]
   clear HOP
   have HOP := HOPK
   clear HOPK
   have p7 : ((op : Int) == 7) = true := by simp [o7]
   clear o7
   as_aux_lemma =>
    obtain ⟨nv, hnv⟩ : ∃ nv, nv = mem.getD vrn 0 := ⟨_, rfl⟩
    obtain ⟨sb, so, hsa, hsb, hsc⟩ := IntsAt.part HMEM.out vrn (by rw [← HMN.out]; omega)
    subst hsa
    rw [← hnv] at hsc
    have HNV := qh hnv
    have HSC := qh hsc
    clear hnv hsc hsb
    obtain ⟨sb2, so2, he2, hsb2, -⟩ := IntsAt.part HME0.out vrn (by rw [← HMN.out]; omega)
    cases he2
    have HSG : Hid (¬ sb = gx + 3) := fun e => by have := HGX.out; omega
    clear hsb2
    go_upto_region 36 with fail
    have z2 := qcb HRUN4.out.instr 2
    have hbx := HRUN4.out.own.box
    have g1 := qcb hbx 1
    clear hbx
    have hml : vrn < mem.length := by rw [← HMN.out]; omega
    obtain ⟨m0, m1⟩ := HRUN4.out.mcell hml
    have hvI : (vrn : Int) < (mn : Int) := by omega
    have HRUN20 := qh (HRUN4.out.mem vrn 1)
    clear hml
    go_upto_region 37 with fail
    clear z2 g1 m0 m1 hvI
    generalize World.setCell X4 _ _ = X20 at HRUN20 ⊢
    have hvI : (vrn : Int) < (mn : Int) := by omega
    have CZ : Hid (∀ y, Since (fun k => k = gx + 3) X20 y → y.cell? ⟨gb, 0, none⟩ = some (.slice (some ⟨tb, 0, none⟩) n xc) ∧ y.cell? ⟨gb, 1, none⟩ = some (.slice (some ⟨mb, 0, none⟩) mn yc) ∧ y.cell? ⟨gb, 2, none⟩ = some (.bool bad) ∧ y.cell? ⟨gx + 2, 1, none⟩ = some (.slice (some ⟨sb, so, none⟩) mn mc0) ∧ y.cell? ⟨gi, 2, none⟩ = some (.int .i64 vrn) ∧ y.cell? ⟨sb, so + vrn, none⟩ = some (.int .i64 nv)) := fun y hy => by
     have h1 := HRUN20.out.own.box
     have hlo := HRUN20.out.own.lo
     have hlt := qlb H4.out
     have h2 := (hy.block _ (qlb h1) (by omega)).trans h1
     have h3 := (HRUN20.out.own.below.block _ (qlb H3.out)).trans H3.out
     have h4 := (hy.block _ (qlb h3) (by omega)).trans h3
     have h5 := HRUN20.out.instr
     have h6 := (hy.block _ (qlb h5) HGI.out).trans h5
     have h7 := qck HRUN20.out.own.below _ _ HSC.out
     have h8 := (hy.cell (p := ⟨sb, so + vrn, none⟩) (World.block_lt_of_cell? _ _ h7) HSG.out).trans h7
     exact ⟨qcb h2 0, qcb h2 1, qcb h2 2, qcb h4 1, qcb h6 2, h8⟩
    cases em with
    | true =>
     have hb0 : bf.length = 0 := by rw [← HBL.out]; exact of_decide_eq_true HEM.out.symm
     have HB0 := qh hb0
     clear hb0
     by_cases ha0 : nv = 0
     rotate_left
     ·have ha1 : ((nv : Int) == 0) = false := by simp [ha0]
      have HA0 := qh ha0
      clear ha0
      have hres : R = none := by
       rw [HRR6.out, stepT_lock HOP.out.symm]
       rw [if_neg (fun h => HA0.out (by have := h.2; rw [← HVR.out] at this; exact HNV.out.trans this))]
       rfl
      have HRES := qh hres
      clear hres
      have hru := HRUN20.out
      have HRU := qh hru
      clear hru
      refine wp_region_noPanic ?_
      refine wp_region_held_drew (S := fun y => Since (fun k => k = gx + 3) X20 y) (by kernel_rfl) (Since.refl _ _).drew (fun _ => ?_)
      obtain ⟨wd, hwd⟩ : ∃ wd, wd = X20.drew := ⟨_, rfl⟩
      rw [← hwd]
      have HFX := HFIN.out wd bad (by rw [hwd]; exact HRU.out.own.box) (by rw [hwd]; exact HRU.out.own.below.drew)
      have HSD : Hid (Since (fun k => k = gx + 3) X20 wd) := by rw [Hid, hwd]; exact (Since.refl _ _).drew
      clear hwd
      refine qtk 0 199 ?vz2237 rfl ?hyz2237 (HSD.out) ?_
      case hyz2237 => (intro x h; have e := CZ.out x h; go_simp <;> rfl)
      simp only [Act.put, qz1, qz2, qz3]
      refine qtk 1 200 ?vz2238 rfl ?hyz2238 (HSD.out) ?_
      case hyz2238 => (intro _ _; go_simp <;> rfl)
      simp only [Act.put, qz1, qz2, qz3]
      refine qtk 2 201 ?vz2239 rfl ?hyz2239 (HSD.out) ?_
      case hyz2239 => (intro _ _; go_simp <;> rfl)
      simp only [Act.put, qz1, qz2, qz3]
      refine qtk 3 202 ?vz2240 rfl ?hyz2240 (HSD.out) ?_
      case hyz2240 => (intro _ _; go_simp <;> rfl)
      simp only [Act.put, qz1, qz2, qz3]
      refine qtk 4 203 ?vz2241 rfl ?hyz2241 (HSD.out) ?_
      case hyz2241 => (intro x h; have e := CZ.out x h; go_simp <;> rfl)
      simp only [Act.put, qz1, qz2, qz3]
      refine qtk 5 204 ?vz2242 rfl ?hyz2242 (HSD.out) ?_
      case hyz2242 => (intro _ _; go_simp <;> rfl)
      simp only [Act.put, qz1, qz2, qz3]
      refine qtk 6 205 ?vz2243 rfl ?hyz2243 (HSD.out) ?_
      case hyz2243 => (intro x h; have e := CZ.out x h; go_simp <;> rfl)
      simp only [Act.put, qz1, qz2, qz3]
      refine qtk 7 206 ?vz2244 rfl ?hyz2244 (HSD.out) ?_
      case hyz2244 => (intro _ _; go_simp <;> rfl)
      simp only [Act.put, qz1, qz2, qz3]
      refine qtk 8 207 ?vz2245 rfl ?hyz2245 (HSD.out) ?_
      case hyz2245 => (intro x h; have e := CZ.out x h; go_simp <;> rfl)
      simp only [Act.put, qz1, qz2, qz3]
      refine qtk 9 208 ?vz2246 rfl ?hyz2246 (HSD.out) ?_
      case hyz2246 => (intro _ _; go_simp <;> rfl)
      simp only [Act.put, qz1, qz2, qz3]
      refine qtk 10 209 ?vz2247 rfl ?hyz2247 (HSD.out) ?_
      case hyz2247 => (intro _ _; go_simp <;> rfl)
      simp only [Act.put, qz1, qz2, qz3]
      refine qrH 11 rfl (fun K hK => ?_)
      obtain ⟨-, ⟨q0, q1, q2⟩, ⟨f0, f1, f2⟩, hset, hsn, hbe⟩ := HFX
      have HSET := qh hset
      have HSN := qh hsn
      have HBE := qh hbe
      clear hset hsn hbe
      go_simp
      refine hK.out _ _ (HSD.out.trans HSN.out (fun _ h => .inl h)) (fun _ => ?_)
      clear hK K
      refine qtk 12 9 ?vz2248 rfl ?hyz2248 ((HSD.out.trans HSN.out (fun _ h => .inl h))) ?_
      case hyz2248 => (intro _ _; go_simp <;> rfl)
      simp only [Act.put, qz1, qz2, qz3]
      refine wpAnyH_done (by kernel_rfl) ?_ _
      refine NoPanic.normal ?_
      go_wp2_with fail
      (try simp only [Exit.inBlock, Exit.then])
      refine bodyPost_ret (results_cell1 rfl _ _ (gx + 3) 30 _ (0, 0) _ rfl HSET.out Tryz.underlying30 rfl state_size) rfl ?_
      exact ⟨fin_none HRES.out, HBE.out⟩
     have ha1 : ((nv : Int) == 0) = true := by simp [ha0]
     have HA0 := qh ha0
     clear ha0
     have hres : R = some ⟨ts1, (mem.set vrn 1), bad⟩ := by
      rw [HRR6.out, stepT_lock HOP.out.symm]
      rw [if_pos ⟨HB0.out, by rw [← HVR.out]; exact HNV.out.symm.trans HA0.out⟩]
      simp only [Option.map_some]
      rw [← HVR.out, HT1.out]
      rfl
     have HRES := qh hres
     clear hres
     have hru := HRUN20.out
     have HRU := qh hru
     clear hru
     refine wp_region_noPanic ?_
     refine wp_region_held_drew (S := fun y => Since (fun k => k = gx + 3) X20 y) (by kernel_rfl) (Since.refl _ _).drew (fun _ => ?_)
     obtain ⟨wd, hwd⟩ : ∃ wd, wd = X20.drew := ⟨_, rfl⟩
     rw [← hwd]
     have HFX := HFIN.out wd bad (by rw [hwd]; exact HRU.out.own.box) (by rw [hwd]; exact HRU.out.own.below.drew)
     have HSD : Hid (Since (fun k => k = gx + 3) X20 wd) := by rw [Hid, hwd]; exact (Since.refl _ _).drew
     clear hwd
     refine qtk 0 199 ?vz2125 rfl ?hyz2125 (HSD.out) ?_
     case hyz2125 => (intro x h; have e := CZ.out x h; go_simp <;> rfl)
     simp only [Act.put, qz1, qz2, qz3]
     refine qtk 1 200 ?vz2126 rfl ?hyz2126 (HSD.out) ?_
     case hyz2126 => (intro _ _; go_simp <;> rfl)
     simp only [Act.put, qz1, qz2, qz3]
     refine qtk 2 201 ?vz2127 rfl ?hyz2127 (HSD.out) ?_
     case hyz2127 => (intro _ _; go_simp <;> rfl)
     simp only [Act.put, qz1, qz2, qz3]
     refine qtk 3 202 ?vz2128 rfl ?hyz2128 (HSD.out) ?_
     case hyz2128 => (intro _ _; go_simp <;> rfl)
     simp only [Act.put, qz1, qz2, qz3]
     refine qtk 4 203 ?vz2129 rfl ?hyz2129 (HSD.out) ?_
     case hyz2129 => (intro x h; have e := CZ.out x h; go_simp <;> rfl)
     simp only [Act.put, qz1, qz2, qz3]
     refine qtk 5 204 ?vz2130 rfl ?hyz2130 (HSD.out) ?_
     case hyz2130 => (intro _ _; go_simp <;> rfl)
     simp only [Act.put, qz1, qz2, qz3]
     refine qtk 6 205 ?vz2131 rfl ?hyz2131 (HSD.out) ?_
     case hyz2131 => (intro x h; have e := CZ.out x h; go_simp <;> rfl)
     simp only [Act.put, qz1, qz2, qz3]
     refine qtk 7 206 ?vz2132 rfl ?hyz2132 (HSD.out) ?_
     case hyz2132 => (intro _ _; go_simp <;> rfl)
     simp only [Act.put, qz1, qz2, qz3]
     refine qtk 8 207 ?vz2133 rfl ?hyz2133 (HSD.out) ?_
     case hyz2133 => (intro x h; have e := CZ.out x h; go_simp <;> rfl)
     simp only [Act.put, qz1, qz2, qz3]
     refine qtk 9 208 ?vz2134 rfl ?hyz2134 (HSD.out) ?_
     case hyz2134 => (intro _ _; go_simp <;> rfl)
     simp only [Act.put, qz1, qz2, qz3]
     refine qtk 10 209 ?vz2135 rfl ?hyz2135 (HSD.out) ?_
     case hyz2135 => (intro _ _; go_simp <;> rfl)
     simp only [Act.put, qz1, qz2, qz3]
     refine qrH 11 rfl (fun K hK => ?_)
     obtain ⟨-, ⟨q0, q1, q2⟩, ⟨f0, f1, f2⟩, hset, hsn, hbe⟩ := HFX
     have HSET := qh hset
     have HSN := qh hsn
     have HBE := qh hbe
     clear hset hsn hbe
     go_simp
     refine hK.out _ _ (HSD.out.trans HSN.out (fun _ h => .inl h)) (fun _ => ?_)
     clear hK K
     refine qtk 12 9 ?vz2136 rfl ?hyz2136 ((HSD.out.trans HSN.out (fun _ h => .inl h))) ?_
     case hyz2136 => (intro _ _; go_simp <;> rfl)
     simp only [Act.put, qz1, qz2, qz3]
     refine wpAnyH_done (by kernel_rfl) ?_ _
     refine NoPanic.normal ?_
     go_wp2_with fail
     (try simp only [Exit.inBlock, Exit.then])
     refine bodyPost_ret (results_cell1 rfl _ _ (gx + 3) 30 _ (0, 0) _ rfl HSET.out Tryz.underlying30 rfl state_size) rfl ?_
     exact ⟨fin_some HRES.out (HSTA.out _ _ _ _ _ _ _ HRU.out (HSD.out.trans HSN.out (fun _ h => .inl h))), HBE.out⟩
    | false =>
     have hb0 : ¬ bf.length = 0 := by rw [← HBL.out]; exact of_decide_eq_false HEM.out.symm
     have HB0 := qh hb0
     clear hb0
     have hres : R = none := by
      rw [HRR6.out, stepT_lock HOP.out.symm]
      rw [if_neg (fun h => HB0.out h.1)]
      rfl
     have HRES := qh hres
     clear hres
     have hru := HRUN20.out
     have HRU := qh hru
     clear hru
     refine wp_region_noPanic ?_
     refine wp_region_held_drew (S := fun y => Since (fun k => k = gx + 3) X20 y) (by kernel_rfl) (Since.refl _ _).drew (fun _ => ?_)
     obtain ⟨wd, hwd⟩ : ∃ wd, wd = X20.drew := ⟨_, rfl⟩
     rw [← hwd]
     have HFX := HFIN.out wd bad (by rw [hwd]; exact HRU.out.own.box) (by rw [hwd]; exact HRU.out.own.below.drew)
     have HSD : Hid (Since (fun k => k = gx + 3) X20 wd) := by rw [Hid, hwd]; exact (Since.refl _ _).drew
     clear hwd
     refine qtk 0 199 ?vz2349 rfl ?hyz2349 (HSD.out) ?_
     case hyz2349 => (intro x h; have e := CZ.out x h; go_simp <;> rfl)
     simp only [Act.put, qz1, qz2, qz3]
     refine qtk 1 200 ?vz2350 rfl ?hyz2350 (HSD.out) ?_
     case hyz2350 => (intro _ _; go_simp <;> rfl)
     simp only [Act.put, qz1, qz2, qz3]
     refine qtk 2 201 ?vz2351 rfl ?hyz2351 (HSD.out) ?_
     case hyz2351 => (intro _ _; go_simp <;> rfl)
     simp only [Act.put, qz1, qz2, qz3]
     refine wpAnyH_take (i := 3) (v := undef) rfl (by kernel_rfl) (by kernel_rfl) (by kernel_rfl) (fun _ _ _ h => h) (Or.inr ⟨by rfl, rfl⟩) (HSD.out) ?_
     change wpAnyH _ _ _ _ _ _ _ (Act.put _ (some 202) _) _
     simp only [Act.put, qz1]
     try simp only [qz2, qz3]
     refine wpAnyH_take (i := 4) (v := undef) rfl (by kernel_rfl) (by kernel_rfl) (by kernel_rfl) (fun _ _ _ h => h) (Or.inr ⟨by rfl, rfl⟩) (HSD.out) ?_
     change wpAnyH _ _ _ _ _ _ _ (Act.put _ (some 203) _) _
     simp only [Act.put, qz1]
     try simp only [qz2, qz3]
     refine wpAnyH_take (i := 5) (v := undef) rfl (by kernel_rfl) (by kernel_rfl) (by kernel_rfl) (fun _ _ _ h => h) (Or.inr ⟨by rfl, rfl⟩) (HSD.out) ?_
     change wpAnyH _ _ _ _ _ _ _ (Act.put _ (some 204) _) _
     simp only [Act.put, qz1]
     try simp only [qz2, qz3]
     refine wpAnyH_take (i := 6) (v := undef) rfl (by kernel_rfl) (by kernel_rfl) (by kernel_rfl) (fun _ _ _ h => h) (Or.inr ⟨by rfl, rfl⟩) (HSD.out) ?_
     change wpAnyH _ _ _ _ _ _ _ (Act.put _ (some 205) _) _
     simp only [Act.put, qz1]
     try simp only [qz2, qz3]
     refine wpAnyH_take (i := 7) (v := undef) rfl (by kernel_rfl) (by kernel_rfl) (by kernel_rfl) (fun _ _ _ h => h) (Or.inr ⟨by rfl, rfl⟩) (HSD.out) ?_
     change wpAnyH _ _ _ _ _ _ _ (Act.put _ (some 206) _) _
     simp only [Act.put, qz1]
     try simp only [qz2, qz3]
     refine wpAnyH_take (i := 8) (v := undef) rfl (by kernel_rfl) (by kernel_rfl) (by kernel_rfl) (fun _ _ _ h => h) (Or.inr ⟨by rfl, rfl⟩) (HSD.out) ?_
     change wpAnyH _ _ _ _ _ _ _ (Act.put _ (some 207) _) _
     simp only [Act.put, qz1]
     try simp only [qz2, qz3]
     refine wpAnyH_take (i := 9) (v := undef) rfl (by kernel_rfl) (by kernel_rfl) (by kernel_rfl) (fun _ _ _ h => h) (Or.inr ⟨by rfl, rfl⟩) (HSD.out) ?_
     change wpAnyH _ _ _ _ _ _ _ (Act.put _ (some 208) _) _
     simp only [Act.put, qz1]
     try simp only [qz2, qz3]
     refine qtk 10 209 ?vz2359 rfl ?hyz2359 (HSD.out) ?_
     case hyz2359 => (intro _ _; go_simp <;> rfl)
     simp only [Act.put, qz1, qz2, qz3]
     refine qrH 11 rfl (fun K hK => ?_)
     obtain ⟨-, ⟨q0, q1, q2⟩, ⟨f0, f1, f2⟩, hset, hsn, hbe⟩ := HFX
     have HSET := qh hset
     have HSN := qh hsn
     have HBE := qh hbe
     clear hset hsn hbe
     go_simp
     refine hK.out _ _ (HSD.out.trans HSN.out (fun _ h => .inl h)) (fun _ => ?_)
     clear hK K
     refine qtk 12 9 ?vz2360 rfl ?hyz2360 ((HSD.out.trans HSN.out (fun _ h => .inl h))) ?_
     case hyz2360 => (intro _ _; go_simp <;> rfl)
     simp only [Act.put, qz1, qz2, qz3]
     refine wpAnyH_done (by kernel_rfl) ?_ _
     refine NoPanic.normal ?_
     go_wp2_with fail
     (try simp only [Exit.inBlock, Exit.then])
     refine bodyPost_ret (results_cell1 rfl _ _ (gx + 3) 30 _ (0, 0) _ rfl HSET.out Tryz.underlying30 rfl state_size) rfl ?_
     exact ⟨fin_none HRES.out, HBE.out⟩
  have p7 : ((op : Int) == 7) = false := by simp [o7]
  by_cases o8 : op = 8
  ·have HOPK : Hid ((8 : Int) = x.op) := by rw [Hid, ← HOP.out, o8]
   clear HOP
   have HOP := HOPK
   clear HOPK
   have p8 : ((op : Int) == 8) = true := by simp [o8]
   clear o8
   as_aux_lemma =>
    go_upto_region 39 with fail
    have z2 := qcb HRUN4.out.instr 2
    have hbx := HRUN4.out.own.box
    have g1 := qcb hbx 1
    clear hbx
    have hml : vrn < mem.length := by rw [← HMN.out]; omega
    obtain ⟨m0, m1⟩ := HRUN4.out.mcell hml
    have hvI : (vrn : Int) < (mn : Int) := by omega
    have HRUN24 := qh (HRUN4.out.mem vrn 0)
    clear hml
    go_upto_region 40 with fail
    clear z2 g1 m0 m1 hvI
    generalize World.setCell X4 _ _ = X24 at HRUN24 ⊢
    cases em with
    | true =>
     have hb0 : bf.length = 0 := by rw [← HBL.out]; exact of_decide_eq_true HEM.out.symm
     have HB0 := qh hb0
     clear hb0
     have hres : R = some ⟨ts1, (mem.set vrn 0), bad⟩ := by
      rw [HRR6.out, stepT_unlock HOP.out.symm]
      rw [if_pos HB0.out]
      simp only [Option.map_some]
      rw [← HVR.out, HT1.out]
      rfl
     have HRES := qh hres
     clear hres
     have hru := HRUN24.out
     have HRU := qh hru
     clear hru
     obtain ⟨⟨a0, a1, a2⟩, ⟨q0, q1, q2⟩, ⟨f0, f1, f2⟩, hset, hsn, hbe⟩ := HFIN.out X24 bad HRU.out.own.box HRU.out.own.below
     have HSET := qh hset
     have HSN := qh hsn
     have HBE := qh hbe
     clear hset hsn hbe
     go_wp2_with fail
     (try simp only [Exit.inBlock, Exit.then])
     refine bodyPost_ret (results_cell1 rfl _ _ (gx + 3) 30 _ (0, 0) _ rfl HSET.out Tryz.underlying30 rfl state_size) rfl ?_
     exact ⟨fin_some HRES.out (HSTA.out _ _ _ _ _ _ _ HRU.out HSN.out), HBE.out⟩
    | false =>
     have hb0 : ¬ bf.length = 0 := by rw [← HBL.out]; exact of_decide_eq_false HEM.out.symm
     have HB0 := qh hb0
     clear hb0
     have hres : R = none := by
      rw [HRR6.out, stepT_unlock HOP.out.symm]
      rw [if_neg HB0.out]
      rfl
     have HRES := qh hres
     clear hres
     have hru := HRUN24.out
     have HRU := qh hru
     clear hru
     obtain ⟨⟨a0, a1, a2⟩, ⟨q0, q1, q2⟩, ⟨f0, f1, f2⟩, hset, hsn, hbe⟩ := HFIN.out X24 bad HRU.out.own.box HRU.out.own.below
     have HSET := qh hset
     have HSN := qh hsn
     have HBE := qh hbe
     clear hset hsn hbe
     go_wp2_with fail
     (try simp only [Exit.inBlock, Exit.then])
     refine bodyPost_ret (results_cell1 rfl _ _ (gx + 3) 30 _ (0, 0) _ rfl HSET.out Tryz.underlying30 rfl state_size) rfl ?_
     exact ⟨fin_none HRES.out, HBE.out⟩
  have p8 : ((op : Int) == 8) = false := by simp [o8]
  by_cases o9 : op = 9
  ·have HOPK : Hid ((9 : Int) = x.op) := by rw [Hid, ← HOP.out, o9]
   clear HOP
   have HOP := HOPK
   clear HOPK
   have p9 : ((op : Int) == 9) = true := by simp [o9]
   clear o9
   as_aux_lemma =>
    go_upto_region 42 with fail
    have hbx := HRUN4.out.own.box
    have g2 := qcb hbx 2
    have h2 := qfb hbx 2
    clear hbx
    cases bad with
    | true =>
     have HRUN25 := qh (HRUN4.out.isBad true)
     go_upto_region 48 with fail
     clear g2 h2
     generalize World.setCell X4 _ _ = X25 at HRUN25 ⊢
     have hres : R = some ⟨ts1, mem, true⟩ := by
      rw [HRR6.out, stepT_assert HOP.out.symm]
      rw [HT1.out]
      rfl
     have HRES := qh hres
     clear hres
     have hru := HRUN25.out
     have HRU := qh hru
     clear hru
     obtain ⟨⟨a0, a1, a2⟩, ⟨q0, q1, q2⟩, ⟨f0, f1, f2⟩, hset, hsn, hbe⟩ := HFIN.out X25 true HRU.out.own.box HRU.out.own.below
     have HSET := qh hset
     have HSN := qh hsn
     have HBE := qh hbe
     clear hset hsn hbe
     go_wp2_with fail
     (try simp only [Exit.inBlock, Exit.then])
     refine bodyPost_ret (results_cell1 rfl _ _ (gx + 3) 30 _ (0, 0) _ rfl HSET.out Tryz.underlying30 rfl state_size) rfl ?_
     exact ⟨fin_some HRES.out (HSTA.out _ _ _ _ _ _ _ HRU.out HSN.out), HBE.out⟩
    | false =>
     by_cases ha0 : A = 0
     rotate_left
     ·have ha1 : ((A : Int) == 0) = false := by simp [ha0]
      have HA0 := qh ha0
      clear ha0
      have HRUN27 := qh (HRUN4.out.isBad false)
      go_upto_region 48 with fail
      clear g2 h2
      generalize World.setCell X4 _ _ = X27 at HRUN27 ⊢
      have hres : R = some ⟨ts1, mem, false⟩ := by
       rw [HRR6.out, stepT_assert HOP.out.symm]
       rw [HT1.out, ← HA.out, decide_eq_false HA0.out]
       rfl
      have HRES := qh hres
      clear hres
      have hru := HRUN27.out
      have HRU := qh hru
      clear hru
      obtain ⟨⟨a0, a1, a2⟩, ⟨q0, q1, q2⟩, ⟨f0, f1, f2⟩, hset, hsn, hbe⟩ := HFIN.out X27 false HRU.out.own.box HRU.out.own.below
      have HSET := qh hset
      have HSN := qh hsn
      have HBE := qh hbe
      clear hset hsn hbe
      go_wp2_with fail
      (try simp only [Exit.inBlock, Exit.then])
      refine bodyPost_ret (results_cell1 rfl _ _ (gx + 3) 30 _ (0, 0) _ rfl HSET.out Tryz.underlying30 rfl state_size) rfl ?_
      exact ⟨fin_some HRES.out (HSTA.out _ _ _ _ _ _ _ HRU.out HSN.out), HBE.out⟩
     have ha1 : ((A : Int) == 0) = true := by simp [ha0]
     have HA0 := qh ha0
     clear ha0
     have HRUN26 := qh (HRUN4.out.isBad true)
     go_upto_region 48 with fail
     clear g2 h2
     generalize World.setCell X4 _ _ = X26 at HRUN26 ⊢
     have hres : R = some ⟨ts1, mem, true⟩ := by
      rw [HRR6.out, stepT_assert HOP.out.symm]
      rw [HT1.out, ← HA.out, decide_eq_true HA0.out]
      rfl
     have HRES := qh hres
     clear hres
     have hru := HRUN26.out
     have HRU := qh hru
     clear hru
     obtain ⟨⟨a0, a1, a2⟩, ⟨q0, q1, q2⟩, ⟨f0, f1, f2⟩, hset, hsn, hbe⟩ := HFIN.out X26 true HRU.out.own.box HRU.out.own.below
     have HSET := qh hset
     have HSN := qh hsn
     have HBE := qh hbe
     clear hset hsn hbe
     go_wp2_with fail
     (try simp only [Exit.inBlock, Exit.then])
     refine bodyPost_ret (results_cell1 rfl _ _ (gx + 3) 30 _ (0, 0) _ rfl HSET.out Tryz.underlying30 rfl state_size) rfl ?_
     exact ⟨fin_some HRES.out (HSTA.out _ _ _ _ _ _ _ HRU.out HSN.out), HBE.out⟩
  have p9 : ((op : Int) == 9) = false := by simp [o9]
  by_cases o12 : op = 12
  rotate_left
  ·have p12 : ((op : Int) == 12) = false := by simp [o12]
   by_cases o13 : op = 13
   rotate_left
   ·have p13 : ((op : Int) == 13) = false := by simp [o13]
    as_aux_lemma =>
     go_upto_region 48 with fail
     have hres : R = some ⟨ts1, mem, bad⟩ := by
      rw [HRR6.out, stepT_other (by rw [← HOP.out]; exact o1) (by rw [← HOP.out]; exact o2) (by rw [← HOP.out]; exact o3) (by rw [← HOP.out]; exact o4) (by rw [← HOP.out]; exact o5) (by rw [← HOP.out]; exact o6) (by rw [← HOP.out]; exact o7) (by rw [← HOP.out]; exact o8) (by rw [← HOP.out]; exact o9) (by rw [← HOP.out]; exact o12) (by rw [← HOP.out]; exact o13), HT1.out]
      rfl
     have HRES := qh hres
     clear hres
     have hru := HRUN4.out
     have HRU := qh hru
     clear hru
     obtain ⟨⟨a0, a1, a2⟩, ⟨q0, q1, q2⟩, ⟨f0, f1, f2⟩, hset, hsn, hbe⟩ := HFIN.out X4 bad HRU.out.own.box HRU.out.own.below
     have HSET := qh hset
     have HSN := qh hsn
     have HBE := qh hbe
     clear hset hsn hbe
     go_wp2_with fail
     (try simp only [Exit.inBlock, Exit.then])
     refine bodyPost_ret (results_cell1 rfl _ _ (gx + 3) 30 _ (0, 0) _ rfl HSET.out Tryz.underlying30 rfl state_size) rfl ?_
     exact ⟨fin_some HRES.out (HSTA.out _ _ _ _ _ _ _ HRU.out HSN.out), HBE.out⟩
   have HOPK : Hid ((13 : Int) = x.op) := by rw [Hid, ← HOP.out, o13]
   clear HOP
   have HOP := HOPK
   clear HOPK
   have p13 : ((op : Int) == 13) = true := by simp [o13]
   clear o13
   as_aux_lemma =>
    go_upto_region 47 with fail
    have z11 := qcb HRUN4.out.instr 11
    obtain ⟨u0, v0⟩ := HRUN4.out.cells_of HL1.out HTS1.out HBS1.out 0 (.int .i64 ((pcn : Int) + 1)) (by omega) rfl
    rw [Nat.add_zero] at u0 v0
    have hw29 := HRUN4.out.set HL1.out (k := 0) (by omega) (t' := ⟨dst, [r0, r1, r2, r3], bf⟩) (u := (.int .i64 dst)) HTS1.out HBS1.out rfl (by simp) rfl
    rw [Nat.add_zero] at hw29
    have HW29 := qh hw29
    clear hw29
    go_upto_region 48 with fail
    clear u0 v0 z11
    generalize World.setCell X4 _ _ = X29 at HW29 ⊢
    obtain ⟨hr29, ht29, hb29, hl29⟩ := HW29.out
    have HRUN29 := qh hr29
    have HTS29 := qh ht29
    have HBS29 := qh hb29
    have HL29 := qh hl29
    clear hr29 ht29 hb29 hl29 HW29
    have hres : R = some ⟨ts.set i ⟨dst, [r0, r1, r2, r3], bf⟩, mem, bad⟩ := by
     rw [HRR6.out, stepT_jump HOP.out.symm]
     simp only [Option.map_some]
     rw [← HDS.out]
    have HRES := qh hres
    clear hres
    have hru := HRUN29.out
    rw [HSS.out] at hru
    have HRU := qh hru
    clear hru
    obtain ⟨⟨a0, a1, a2⟩, ⟨q0, q1, q2⟩, ⟨f0, f1, f2⟩, hset, hsn, hbe⟩ := HFIN.out X29 bad HRU.out.own.box HRU.out.own.below
    have HSET := qh hset
    have HSN := qh hsn
    have HBE := qh hbe
    clear hset hsn hbe
    go_wp2_with fail
    (try simp only [Exit.inBlock, Exit.then])
    refine bodyPost_ret (results_cell1 rfl _ _ (gx + 3) 30 _ (0, 0) _ rfl HSET.out Tryz.underlying30 rfl state_size) rfl ?_
    exact ⟨fin_some HRES.out (HSTA.out _ _ _ _ _ _ _ HRU.out HSN.out), HBE.out⟩
  have HOPK : Hid ((12 : Int) = x.op) := by rw [Hid, ← HOP.out, o12]
  clear HOP
  have HOP := HOPK
  clear HOPK
  have p12 : ((op : Int) == 12) = true := by simp [o12]
  clear o12
  as_aux_lemma =>
   go_upto_region 44 with fail
   by_cases ha0 : A = 0
   rotate_left
   ·have ha1 : ((A : Int) == 0) = false := by simp [ha0]
    have HA0 := qh ha0
    clear ha0
    go_upto_region 48 with fail
    clear ha1
    have hres : R = some ⟨ts1, mem, bad⟩ := by
     rw [HRR6.out, stepT_branch HOP.out.symm]
     rw [← HA.out, if_neg HA0.out, HT1.out]
     rfl
    have HRES := qh hres
    clear hres
    have hru := HRUN4.out
    have HRU := qh hru
    clear hru
    obtain ⟨⟨a0, a1, a2⟩, ⟨q0, q1, q2⟩, ⟨f0, f1, f2⟩, hset, hsn, hbe⟩ := HFIN.out X4 bad HRU.out.own.box HRU.out.own.below
    have HSET := qh hset
    have HSN := qh hsn
    have HBE := qh hbe
    clear hset hsn hbe
    go_wp2_with fail
    (try simp only [Exit.inBlock, Exit.then])
    refine bodyPost_ret (results_cell1 rfl _ _ (gx + 3) 30 _ (0, 0) _ rfl HSET.out Tryz.underlying30 rfl state_size) rfl ?_
    exact ⟨fin_some HRES.out (HSTA.out _ _ _ _ _ _ _ HRU.out HSN.out), HBE.out⟩
   have ha1 : ((A : Int) == 0) = true := by simp [ha0]
   have HA0 := qh ha0
   clear ha0
   go_upto_region 45 with fail
   clear ha1
   have z11 := qcb HRUN4.out.instr 11
   obtain ⟨u0, v0⟩ := HRUN4.out.cells_of HL1.out HTS1.out HBS1.out 0 (.int .i64 ((pcn : Int) + 1)) (by omega) rfl
   rw [Nat.add_zero] at u0 v0
   have hw28 := HRUN4.out.set HL1.out (k := 0) (by omega) (t' := ⟨dst, [r0, r1, r2, r3], bf⟩) (u := (.int .i64 dst)) HTS1.out HBS1.out rfl (by simp) rfl
   rw [Nat.add_zero] at hw28
   have HW28 := qh hw28
   clear hw28
   go_upto_region 48 with fail
   clear u0 v0 z11
   generalize World.setCell X4 _ _ = X28 at HW28 ⊢
   obtain ⟨hr28, ht28, hb28, hl28⟩ := HW28.out
   have HRUN28 := qh hr28
   have HTS28 := qh ht28
   have HBS28 := qh hb28
   have HL28 := qh hl28
   clear hr28 ht28 hb28 hl28 HW28
   have hres : R = some ⟨ts.set i ⟨dst, [r0, r1, r2, r3], bf⟩, mem, bad⟩ := by
    rw [HRR6.out, stepT_branch HOP.out.symm]
    rw [← HA.out, if_pos HA0.out, ← HDS.out]
    rfl
   have HRES := qh hres
   clear hres
   have hru := HRUN28.out
   rw [HSS.out] at hru
   have HRU := qh hru
   clear hru
   obtain ⟨⟨a0, a1, a2⟩, ⟨q0, q1, q2⟩, ⟨f0, f1, f2⟩, hset, hsn, hbe⟩ := HFIN.out X28 bad HRU.out.own.box HRU.out.own.below
   have HSET := qh hset
   have HSN := qh hsn
   have HBE := qh hbe
   clear hset hsn hbe
   go_wp2_with fail
   (try simp only [Exit.inBlock, Exit.then])
   refine bodyPost_ret (results_cell1 rfl _ _ (gx + 3) 30 _ (0, 0) _ rfl HSET.out Tryz.underlying30 rfl state_size) rfl ?_
   exact ⟨fin_some HRES.out (HSTA.out _ _ _ _ _ _ _ HRU.out HSN.out), HBE.out⟩
end Go.Proofs.YtliajkheeniljaaGreatDoor
