/- The moves that may be: the program's answer: the walk. Awake: what a few moves do in Dekker's code. -/
import Derived.Test.YtliajkheeniljaaGreatDoorQExpQ
import Derived.Test.YtliajkheeniljaaGreatDoorQPDo
import Derived.Test.YtliajkheeniljaaGreatDoorQPFits
import Derived.Test.YtliajkheeniljaaGreatDoorQPNext
import Derived.Test.YtliajkheeniljaaGreatDoorQPStart
import Derived.Test.YtliajkheeniljaaGreatDoorQShort
set_option linter.all false
namespace Go.Proofs.YtliajkheeniljaaGreatDoor
open Go.RowKit
set_option maxRecDepth 100000
set_option maxHeartbeats 16000000
theorem away_no {w : World} {s : StateD} {sv mv : Value} (hs : StateAt w s sv mv) : Away (fun _ => False) w (fun y => StateAt y s sv mv) := fun _ hy => hs.below (hy.below (Nat.le_refl _) (fun _ h => h.elim))
theorem pmoves_any (w : World) (c : CodeD) (cv : Value) (d : Nat) (hc : RowsAt d w cv c.threads) (m : MachD) (s : StateD) (sv mv : Value) (hs : StateAt w s sv mv) (hb : ∀ j, j < s.threads.length → (s.threads.getD j default).buf.length ≤ 1000000) :
  Calls Tryz.prog 24 #[codeV c cv, machV m, stateV s sv mv] w (MovesEnd w (movesS c m s d)) := by
 obtain ⟨fo, hfo⟩ : ∃ fo, fo = fitsOk c m s := ⟨_, rfl⟩
 have hfits := fun W (hW : Below w.heap.size w W) => pfits_any W c cv d (SliceR.below (RowR.stays d) hc hW) m s sv mv (hs.below hW) hb
 rw [← hfo] at hfits
 have hnext := fun (hf : fo = true) W (hW : Below w.heap.size w W) => pnext_any W c cv d (SliceR.below (RowR.stays d) hc hW) m s sv mv (hs.below hW) hb (hfo.symm.trans hf) (fun _ => False) (fun _ h => h.elim) (away_no (hs.below hW))
 have hno : fo = false → movesS c m s d = [] := fun e => by unfold movesS; rw [if_neg (by rw [← hfo, e]; decide)]
 obtain ⟨R, hR⟩ : ∃ R, R = movesS c m s d := ⟨_, rfl⟩
 obtain ⟨NX, hNX⟩ : ∃ R, R = nextS c m s d := ⟨_, rfl⟩
 rw [← hR, ← hNX] at hnext
 rw [← hR] at hno ⊢
 clear hR hNX hfo
 obtain ⟨ca, cc, rfl, -⟩ := SliceR.slice hc
 obtain ⟨ta, tc0, rfl, -⟩ := SliceR.slice hs.threads
 obtain ⟨ma, mc0, rfl, -⟩ := SliceR.slice hs.mem
 unfold codeV machV stateV at hfits hnext ⊢
 clear hb hc hs
 generalize c.threads.length = cn at hfits hnext ⊢
 generalize s.threads.length = n at hfits hnext ⊢
 generalize s.mem.length = mn at hfits hnext ⊢
 generalize s.bad = bad at hfits hnext ⊢
 generalize c.vars = vars at hfits hnext ⊢
 generalize c.domain = dom at hfits hnext ⊢
 generalize m.model = mod at hfits hnext ⊢
 generalize m.bound = bnd at hfits hnext ⊢
 obtain ⟨hB, h1, h2, h3⟩ := boxes3_all w (.cells #[.int .i64 vars, .int .i64 dom, .slice ca cn cc] 24) (.cells #[.int .i64 mod, .int .i64 bnd] 26) (.cells #[.slice ta n tc0, .slice ma mn mc0, .bool bad] 30)
 have HB := qh hB
 have H1 := qh h1
 have H2 := qh h2
 have H3 := qh h3
 have HFITS := qh hfits
 have HNEXT := qh hnext
 have HNO := qh hno
 clear hB h1 h2 h3 hfits hnext hno
 go_enter Tryz.func24, Tryz.ntmps24
 go_upto_region 1 with fail
 generalize World.alloc (World.alloc (World.alloc w _) _) _ = W at HB H1 H2 H3 ⊢
 obtain ⟨gx, hgx⟩ : ∃ gx, gx = w.heap.size := ⟨_, rfl⟩
 rw [← hgx] at H1 H2 H3 ⊢
 clear hgx
 have HCC : Hid (∀ y, Below W.heap.size W y → y.cell? ⟨gx, 0, none⟩ = some (.int .i64 vars) ∧ y.cell? ⟨gx, 1, none⟩ = some (.int .i64 dom) ∧ y.cell? ⟨gx, 2, none⟩ = some (.slice ca cn cc) ∧
   y.cell? ⟨gx + 1, 0, none⟩ = some (.int .i64 mod) ∧ y.cell? ⟨gx + 1, 1, none⟩ = some (.int .i64 bnd) ∧ y.cell? ⟨gx + 2, 0, none⟩ = some (.slice ta n tc0) ∧ y.cell? ⟨gx + 2, 1, none⟩ = some (.slice ma mn mc0) ∧ y.cell? ⟨gx + 2, 2, none⟩ = some (.bool bad)) := fun y hx =>
  ⟨qck hx _ _ (qcb H1.out 0), qck hx _ _ (qcb H1.out 1), qck hx _ _ (qcb H1.out 2), qck hx _ _ (qcb H2.out 0), qck hx _ _ (qcb H2.out 1), qck hx _ _ (qcb H3.out 0), qck hx _ _ (qcb H3.out 1), qck hx _ _ (qcb H3.out 2)⟩
 obtain ⟨c0, c1, c2, c3, c4, c5, c6, c7⟩ := HCC.out W (Below.refl _ _)
 go_wp2_with fail
 refine (HFITS.out W HB.out).mono ?_
 rintro e W1 ⟨rfl, hb1⟩
 have HB1 := qh (HB.out.trans (hb1.mono HB.out.size))
 obtain ⟨d0, d1, d2, d3, d4, d5, d6, d7⟩ := HCC.out W1 hb1
 clear hb1 HFITS c0 c1 c2 c3 c4 c5 c6 c7
 cases fo with
 | false =>
  have HR := qh (HNO.out rfl)
  go_wp2_with fail
  go_ret
  exact movesEnd_of (by rw [HR.out]; rfl) (by rw [HR.out]; exact World.ownsRow_nil _ _ _ _) HB1.out
 | true =>
  go_wp2_with fail
  refine (HNEXT.out (by trivial) W1 HB1.out).mono ?_
  rintro e W2 ⟨⟨va, vc, xa, xc, css, rfl, hrow, -⟩, hb2⟩
  have HRW := qh (own_lower hrow HB1.out.size)
  have HB2 := qh (HB1.out.trans (hb2.mono HB1.out.size))
  clear hrow hb2 d0 d1 d2 d3 d4 d5 d6 d7
  go_wp2_with fail
  go_ret
  exact movesEnd_of rfl HRW.out HB2.out
def dekM : MachD := ⟨1, 1⟩
def dekS0 : StateD := ⟨[⟨0, [0, 0, 0, 0], []⟩, ⟨0, [0, 0, 0, 0], []⟩], [0, 0], false⟩
def dekS1 : StateD := ⟨[⟨1, [0, 0, 0, 0], [⟨0, 1⟩]⟩, ⟨0, [0, 0, 0, 0], []⟩], [0, 0], false⟩
def dekS2 : StateD := ⟨[⟨1, [0, 0, 0, 0], []⟩, ⟨0, [0, 0, 0, 0], []⟩], [1, 0], false⟩
theorem dek_s0 : startS dekkerC = dekS0 := by decide +kernel
theorem dek_s1 : doS dekkerC dekM dekS0 ⟨1, 0, 0⟩ 1 = (dekS1, 0) := by decide +kernel
theorem dek_s2 : doS dekkerC dekM dekS1 ⟨2, 0, 0⟩ 1 = (dekS2, 0) := by decide +kernel
theorem dek_s3 : doS dekkerC dekM dekS1 ⟨2, 1, 0⟩ 1 = (emptyS, 50) := by decide +kernel
theorem dek_s4 : doS dekkerC dekM emptyS ⟨1, 0, 0⟩ 1 = (emptyS, 1) := by decide +kernel
theorem dek_mv : (movesS dekkerC dekM dekS1 1).length = 3 := by decide +kernel
theorem dek_ft : fitsOk dekkerC dekM dekS1 = true := by decide +kernel
theorem bufs_dek {s : StateD} (h : s = dekS0 ∨ s = dekS1 ∨ s = emptyS) : ∀ j, j < s.threads.length → (s.threads.getD j default).buf.length ≤ 1000000 := by
 intro j hj
 have hd : ∀ s : StateD, (s.threads.all fun t => decide (t.buf.length ≤ 1)) = true → ∀ j, j < s.threads.length → (s.threads.getD j default).buf.length ≤ 1000000 := fun s hs j hj => by
  have := List.all_eq_true.1 hs _ (getD_mem (x := default) hj)
  simp only [decide_eq_true_eq] at this
  omega
 rcases h with rfl | rfl | rfl <;> exact hd _ (by decide) j hj
theorem awake7_any (w : World) : Calls Tryz.prog 15 #[] w fun e w' => e = .returned (.bool true) ∧ Below w.heap.size w w' := by
 have hd : Calls Tryz.prog 41 #[] w fun e w' => (∃ (ta : Option Addr) (tc : Nat), e = .returned (.agg #[.int .i64 2, .int .i64 2, .slice ta 2 tc]) ∧ RowsAt 1 w' (.slice ta 2 tc) dekkerC.threads) ∧ Below w.heap.size w w' := by
  refine (dekker_any w).mono ?_
  rintro e w' ⟨⟨tv, rfl, ht⟩, hb⟩
  obtain ⟨ta, tc, rfl, -⟩ := SliceR.slice ht
  exact ⟨⟨ta, tc, rfl, ht⟩, hb⟩
 have hst : ∀ y tv, RowsAt 1 y tv dekkerC.threads → Calls Tryz.prog 18 #[.agg #[.int .i64 2, .int .i64 2, tv]] y fun e w' => (∃ (a b : Option Addr) (c k : Nat), e = .returned (.agg #[.slice a 2 c, .slice b 2 k, .bool false]) ∧ StateAt w' dekS0 (.slice a 2 c) (.slice b 2 k)) ∧ Below y.heap.size y w' := fun y tv ht => by
  refine (pstart_own y dekkerC tv 1 ht).mono ?_
  rintro e w' ⟨⟨sv, mv, rfl, hs⟩, hb⟩
  rw [dek_s0] at hs ⊢
  obtain ⟨a, c, rfl, -⟩ := SliceR.slice hs.now.threads
  obtain ⟨b, k, rfl, -⟩ := SliceR.slice hs.now.mem
  exact ⟨⟨a, b, c, k, rfl, hs.now⟩, hb⟩
 have hdo : ∀ (s t : StateD) (kd th vr er : Int), doS dekkerC dekM s ⟨kd, th, vr⟩ 1 = (t, er) → (s = dekS0 ∨ s = dekS1 ∨ s = emptyS) → ∀ y tv (a : Option Addr) (n c : Nat) (b : Option Addr) (m k : Nat) (bd : Bool), bd = s.bad → RowsAt 1 y tv dekkerC.threads → StateAt y s (.slice a n c) (.slice b m k) →
   Calls Tryz.prog 25 #[.agg #[.int .i64 2, .int .i64 2, tv], .agg #[.int .i64 1, .int .i64 1], .agg #[.slice a n c, .slice b m k, .bool bd], .agg #[.int .i64 kd, .int .i64 th, .int .i64 vr]] y fun e w' =>
    (∃ (a b : Option Addr) (c k : Nat), e = .returned (.tuple #[.agg #[.slice a t.threads.length c, .slice b t.mem.length k, .bool t.bad], .int .i64 er]) ∧ StateAt w' t (.slice a t.threads.length c) (.slice b t.mem.length k)) ∧ Below y.heap.size y w' := fun s t kd th vr er he hs y tv a n c b m k bd hbd ht hst => by
  have h := pdo_any y dekkerC tv 1 ht dekM s _ _ hst (bufs_dek hs) ⟨kd, th, vr⟩
  rw [he] at h
  subst hbd
  refine h.mono ?_
  rintro e w' ⟨hb, xa, xn, xc, ya, yn, yc, rfl, hf⟩
  have hs2 := hf.now hst
  obtain ⟨_, _, e1, -⟩ := SliceR.slice hs2.threads
  obtain ⟨_, _, e2, -⟩ := SliceR.slice hs2.mem
  cases e1
  cases e2
  exact ⟨⟨_, _, _, _, rfl, hs2⟩, hb⟩
 have hd1 := hdo dekS0 dekS1 1 0 0 0 dek_s1 (.inl rfl)
 have hd2 := hdo dekS1 dekS2 2 0 0 0 dek_s2 (.inr (.inl rfl))
 have hd3 := hdo dekS1 emptyS 2 1 0 50 dek_s3 (.inr (.inl rfl))
 have hd4 := hdo emptyS emptyS 1 0 0 1 dek_s4 (.inr (.inr rfl))
 have hmv : ∀ y tv (a : Option Addr) (n c : Nat) (b : Option Addr) (m k : Nat), RowsAt 1 y tv dekkerC.threads → StateAt y dekS1 (.slice a n c) (.slice b m k) →
   Calls Tryz.prog 24 #[.agg #[.int .i64 2, .int .i64 2, tv], .agg #[.int .i64 1, .int .i64 1], .agg #[.slice a n c, .slice b m k, .bool false]] y fun e w' => (∃ (a : Option Addr) (c : Nat), e = .returned (.slice a 3 c)) ∧ Below y.heap.size y w' := fun y tv a n c b m k ht hst => by
  refine (pmoves_any y dekkerC tv 1 ht dekM dekS1 _ _ hst (bufs_dek (.inr (.inl rfl)))).mono ?_
  rintro e w' ⟨⟨va, vc, rfl, -⟩, hb⟩
  rw [dek_mv]
  exact ⟨⟨va, vc, rfl⟩, hb⟩
 have hft : ∀ y tv (a : Option Addr) (n c : Nat) (b : Option Addr) (m k : Nat), RowsAt 1 y tv dekkerC.threads → StateAt y dekS1 (.slice a n c) (.slice b m k) →
   Calls Tryz.prog 26 #[.agg #[.int .i64 2, .int .i64 2, tv], .agg #[.int .i64 1, .int .i64 1], .agg #[.slice a n c, .slice b m k, .bool false]] y fun e w' => e = .returned (.bool true) ∧ Below y.heap.size y w' := fun y tv a n c b m k ht hst => by
  have h := pfits_any y dekkerC tv 1 ht dekM dekS1 _ _ hst (bufs_dek (.inr (.inl rfl)))
  rw [dek_ft] at h
  exact h
 have HD := qh hd
 have HST := qh hst
 have HD1 := qh hd1
 have HD2 := qh hd2
 have HD3 := qh hd3
 have HD4 := qh hd4
 have HMV := qh hmv
 have HFT := qh hft
 clear hd hst hdo hd1 hd2 hd3 hd4 hmv hft
 go_enter Tryz.func15, Tryz.ntmps15
 go_upto_region 2 with (go_at_call 41; go_must (refine HD.out.mono ?_); rintro e W1 ⟨⟨ta, tc, rfl, ht⟩, hb⟩; have HT1 := qh ht; have L1 := qh ((((Loc.start w).later hb).alloc 24 [.int .i64 2, .int .i64 2, .slice ta 2 tc]).alloc 26 [.int .i64 1, .int .i64 1]); clear ht hb)
 have HT2 := qh (SliceR.below (RowR.stays 1) HT1.out (((Below.refl W1.heap.size W1).alloc (Nat.le_refl _) (.cells #[.int .i64 2, .int .i64 2, .slice ta 2 tc] 24)).alloc (by simp) (.cells #[.int .i64 1, .int .i64 1] 26)))
 obtain ⟨g1, hg1⟩ : ∃ g, g = W1.heap.size := ⟨_, rfl⟩
 have hg2 : (World.alloc W1 (.cells [.int .i64 2, .int .i64 2, .slice ta 2 tc].toArray 24)).heap.size = g1 + 1 := by simp [hg1]
 have l1 := L1.out
 rw [hg2, ← hg1] at l1
 have L2 := qh l1
 rw [← hg1]
 clear l1 hg1 hg2 L1 HT1
 generalize World.alloc (World.alloc W1 _) _ = X1 at L2 HT2 ⊢
 have CX : Hid (∀ y, Below X1.heap.size X1 y → y.cell? ⟨g1, 0, none⟩ = some (.int .i64 2) ∧ y.cell? ⟨g1, 1, none⟩ = some (.int .i64 2) ∧ y.cell? ⟨g1, 2, none⟩ = some (.slice ta 2 tc) ∧ y.cell? ⟨g1 + 1, 0, none⟩ = some (.int .i64 1) ∧ y.cell? ⟨g1 + 1, 1, none⟩ = some (.int .i64 1)) := fun y hy => by
  have h := L2.out.later hy
  have a1 := (h.news (g1, 24, [.int .i64 2, .int .i64 2, .slice ta 2 tc]) (by simp)).1
  have a2 := (h.news (g1 + 1, 26, [.int .i64 1, .int .i64 1]) (by simp)).1
  exact ⟨qcb a1 0, qcb a1 1, qcb a1 2, qcb a2 0, qcb a2 1⟩
 have HB1 : Hid (Below w.heap.size w X1) := L2.out.below
 go_cut [3, 4] (fun s3 s4 w' => ∃ (g : Nat) (a b : Option Addr) (c k : Nat), s3 = .pointer (some ⟨g, 0, none⟩) ∧ s4 = .int .i64 0 ∧ Hid (w'.heap[g]? = some (.cells #[.slice a 2 c, .slice b 2 k, .bool false] 30 (0, 0))) ∧ Hid (StateAt w' dekS1 (.slice a 2 c) (.slice b 2 k)) ∧ Hid (Below X1.heap.size X1 w'))
 case first =>
  refine wp_region_noPanic ?_
  refine wp_region_held_drew (S := fun x => Below X1.heap.size X1 x) (by kernel_rfl) (Below.refl _ _).drew (fun _ => ?_)
  obtain ⟨V1, hV1⟩ : ∃ V1, V1 = X1.drew := ⟨_, rfl⟩
  have hT0 : Hid (Below X1.heap.size X1 V1) := by rw [hV1]; exact (Below.refl _ _).drew
  rw [← hV1]
  clear hV1
  refine qtk 0 14 ?va1 rfl ?hya1 (hT0.out) ?_
  case hya1 => (intro x h; have e := CX.out x h; go_simp <;> rfl)
  simp only [Act.put, qz1, qz2, qz3]
  refine qtk 1 15 ?va2 rfl ?hya2 (hT0.out) ?_
  case hya2 => (intro x h; have e := CX.out x h; go_simp <;> rfl)
  simp only [Act.put, qz1, qz2, qz3]
  refine qtk 2 16 ?va3 rfl ?hya3 (hT0.out) ?_
  case hya3 => (intro x h; have e := CX.out x h; go_simp <;> rfl)
  simp only [Act.put, qz1, qz2, qz3]
  refine qtk 4 18 ?va4 rfl ?hya4 (hT0.out) ?_
  case hya4 => (intro _ _; go_simp <;> rfl)
  simp only [Act.put, qz1, qz2, qz3]
  refine wpAnyH_ready (rs := [3, 9]) (by kernel_rfl) (by simp) ?_
  refine AllReadyH.cons rfl (fun K hK => ?_) (AllReadyH.cons rfl (fun K hK => ?_) AllReadyH.nil)
  ·skip
   go_simp
   refine (HST.out V1 _ (SliceR.below (RowR.stays 1) HT2.out hT0.out)).mono ?_
   rintro e Ya1 ⟨⟨sa, sb, sc, sk, rfl, hs⟩, hb⟩
   have H0Ya1 := qh hs
   have HYa2 := qh (qbt hT0.out hb)
   clear hs hb
   refine hK.out _ _ HYa2.out (fun _ => ?_)
   clear hK K
   refine wpAnyH_ready (rs := [5, 9]) (by kernel_rfl) (by simp) ?_
   refine AllReadyH.cons rfl (fun K hK => ?_) (AllReadyH.cons rfl (fun K hK => ?_) AllReadyH.nil)
   ·skip
    go_simp
    refine (HD1.out Ya1 _ _ _ _ _ _ _ _ rfl (SliceR.below (RowR.stays 1) HT2.out HYa2.out) H0Ya1.out).mono ?_
    rintro e Ya3 ⟨⟨sa1, sb1, sc1, sk1, rfl, hs⟩, hb⟩
    have H0Ya3 := qh (H0Ya1.out.below hb)
    have H1Ya3 := qh hs
    have HYa4 := qh (qbt HYa2.out hb)
    clear hs hb
    refine hK.out _ _ HYa4.out (fun _ => ?_)
    clear hK K
    refine qtk 6 13 ?va5 rfl ?hya5 (HYa4.out) ?_
    case hya5 => (intro _ _; go_simp <;> rfl)
    simp only [Act.put, qz1, qz2, qz3]
    refine qtk 7 20 ?va6 rfl ?hya6 (HYa4.out) ?_
    case hya6 => (intro _ _; go_simp <;> rfl)
    simp only [Act.put, qz1, qz2, qz3]
    refine qtk 8 21 ?va7 rfl ?hya7 (HYa4.out) ?_
    case hya7 => (intro _ _; go_simp <;> rfl)
    simp only [Act.put, qz1, qz2, qz3]
    refine qrH 9 rfl (fun K hK => ?_)
    go_simp
    have hz := qhn Ya3 (.cells #[.slice none 0 0, .slice none 0 0, .bool false] 30)
    have hb := (Below.refl Ya3.heap.size Ya3).alloc (Nat.le_refl _) (.cells #[.slice none 0 0, .slice none 0 0, .bool false] 30)
    have HGL : Hid (X1.heap.size ≤ Ya3.heap.size) := (HYa4.out).size
    have H0Ya5 := qh (H0Ya3.out.below hb)
    have H1Ya5 := qh (H1Ya3.out.below hb)
    have HYa6 := qh (qbt HYa4.out hb)
    clear hb
    refine hK.out _ _ HYa6.out (fun _ => ?_)
    obtain ⟨gs, hgs⟩ : ∃ g, g = Ya3.heap.size := ⟨_, rfl⟩
    rw [← hgs] at hz HGL ⊢
    clear hgs
    generalize World.alloc Ya3 _ = Ya5 at hz H0Ya5 H1Ya5 HYa6 ⊢
    have HZYa5 := qh hz
    clear hz
    clear hK K
    refine qrH 10 rfl (fun K hK => ?_)
    have d0 := qcb HZYa5.out 0
    have d1 := qcb HZYa5.out 1
    have d2 := qcb HZYa5.out 2
    have f0 := qfb HZYa5.out 0
    have f1 := qfb HZYa5.out 1
    have f2 := qfb HZYa5.out 2
    have HZ2 := qh (setAll_new (cs := [.slice none 0 0, .slice none 0 0, .bool false]) [.slice sa1 2 sc1, .slice sb1 2 sk1, .bool false] rfl HZYa5.out)
    have hsi := setAll_since (g := gs) [.slice sa1 2 sc1, .slice sb1 2 sk1, .bool false] Ya5 0
    have HS3 := qh (state_off H1Ya5.out HZYa5.out hsi)
    have HY4 : Hid (Below X1.heap.size X1 (setAll Ya5 gs 0 [.slice sa1 2 sc1, .slice sb1 2 sk1, .bool false])) := (HYa6.out).trans (hsi.below (HYa6.out).size (fun k hk => by have := HGL.out; omega))
    clear hsi
    go_simp
    clear d0 d1 d2 f0 f1 f2
    refine hK.out _ (setAll Ya5 gs 0 [.slice sa1 2 sc1, .slice sb1 2 sk1, .bool false]) HY4.out (fun _ => ?_)
    generalize setAll Ya5 gs 0 _ = Y4 at HZ2 HS3 HY4 ⊢
    clear hK K
    refine qtk 11 4 ?va8 rfl ?hya8 (HY4.out) ?_
    case hya8 => (intro _ _; go_simp <;> rfl)
    simp only [Act.put, qz1, qz2, qz3]
    refine wpAnyH_done (by kernel_rfl) ?_ _
    refine NoPanic.normal ?_
    go_wp2_with fail
    go_meet
    case rel => exact ⟨gs, sa1, sb1, sc1, sk1, rfl, rfl, HZ2.out, HS3.out, HY4.out⟩
   ·skip
    go_simp
    have hz := qhn Ya1 (.cells #[.slice none 0 0, .slice none 0 0, .bool false] 30)
    have hb := (Below.refl Ya1.heap.size Ya1).alloc (Nat.le_refl _) (.cells #[.slice none 0 0, .slice none 0 0, .bool false] 30)
    have HGL : Hid (X1.heap.size ≤ Ya1.heap.size) := (HYa2.out).size
    have H0Ya7 := qh (H0Ya1.out.below hb)
    have HYa8 := qh (qbt HYa2.out hb)
    clear hb
    refine hK.out _ _ HYa8.out (fun _ => ?_)
    obtain ⟨gs, hgs⟩ : ∃ g, g = Ya1.heap.size := ⟨_, rfl⟩
    rw [← hgs] at hz HGL ⊢
    clear hgs
    generalize World.alloc Ya1 _ = Ya7 at hz H0Ya7 HYa8 ⊢
    have HZYa7 := qh hz
    clear hz
    clear hK K
    refine qrH 5 rfl (fun K hK => ?_)
    go_simp
    refine (HD1.out Ya7 _ _ _ _ _ _ _ _ rfl (SliceR.below (RowR.stays 1) HT2.out HYa8.out) H0Ya7.out).mono ?_
    rintro e Ya9 ⟨⟨sa1, sb1, sc1, sk1, rfl, hs⟩, hb⟩
    have H0Ya9 := qh (H0Ya7.out.below hb)
    have HZYa9 := qh ((hb.block gs (qlb HZYa7.out)).trans HZYa7.out)
    have H1Ya9 := qh hs
    have HYa10 := qh (qbt HYa8.out hb)
    clear hs hb
    refine hK.out _ _ HYa10.out (fun _ => ?_)
    clear hK K
    refine qtk 6 13 ?va9 rfl ?hya9 (HYa10.out) ?_
    case hya9 => (intro _ _; go_simp <;> rfl)
    simp only [Act.put, qz1, qz2, qz3]
    refine qtk 7 20 ?va10 rfl ?hya10 (HYa10.out) ?_
    case hya10 => (intro _ _; go_simp <;> rfl)
    simp only [Act.put, qz1, qz2, qz3]
    refine qtk 8 21 ?va11 rfl ?hya11 (HYa10.out) ?_
    case hya11 => (intro _ _; go_simp <;> rfl)
    simp only [Act.put, qz1, qz2, qz3]
    refine qrH 10 rfl (fun K hK => ?_)
    have d0 := qcb HZYa9.out 0
    have d1 := qcb HZYa9.out 1
    have d2 := qcb HZYa9.out 2
    have f0 := qfb HZYa9.out 0
    have f1 := qfb HZYa9.out 1
    have f2 := qfb HZYa9.out 2
    have HZ2 := qh (setAll_new (cs := [.slice none 0 0, .slice none 0 0, .bool false]) [.slice sa1 2 sc1, .slice sb1 2 sk1, .bool false] rfl HZYa9.out)
    have hsi := setAll_since (g := gs) [.slice sa1 2 sc1, .slice sb1 2 sk1, .bool false] Ya9 0
    have HS3 := qh (state_off H1Ya9.out HZYa9.out hsi)
    have HY4 : Hid (Below X1.heap.size X1 (setAll Ya9 gs 0 [.slice sa1 2 sc1, .slice sb1 2 sk1, .bool false])) := (HYa10.out).trans (hsi.below (HYa10.out).size (fun k hk => by have := HGL.out; omega))
    clear hsi
    go_simp
    clear d0 d1 d2 f0 f1 f2
    refine hK.out _ (setAll Ya9 gs 0 [.slice sa1 2 sc1, .slice sb1 2 sk1, .bool false]) HY4.out (fun _ => ?_)
    generalize setAll Ya9 gs 0 _ = Y4 at HZ2 HS3 HY4 ⊢
    clear hK K
    refine qtk 11 4 ?va12 rfl ?hya12 (HY4.out) ?_
    case hya12 => (intro _ _; go_simp <;> rfl)
    simp only [Act.put, qz1, qz2, qz3]
    refine wpAnyH_done (by kernel_rfl) ?_ _
    refine NoPanic.normal ?_
    go_wp2_with fail
    go_meet
    case rel => exact ⟨gs, sa1, sb1, sc1, sk1, rfl, rfl, HZ2.out, HS3.out, HY4.out⟩
  ·skip
   go_simp
   have hz := qhn V1 (.cells #[.slice none 0 0, .slice none 0 0, .bool false] 30)
   have hb := (Below.refl V1.heap.size V1).alloc (Nat.le_refl _) (.cells #[.slice none 0 0, .slice none 0 0, .bool false] 30)
   have HGL : Hid (X1.heap.size ≤ V1.heap.size) := (hT0.out).size
   have HYa12 := qh (qbt hT0.out hb)
   clear hb
   refine hK.out _ _ HYa12.out (fun _ => ?_)
   obtain ⟨gs, hgs⟩ : ∃ g, g = V1.heap.size := ⟨_, rfl⟩
   rw [← hgs] at hz HGL ⊢
   clear hgs
   generalize World.alloc V1 _ = Ya11 at hz  HYa12 ⊢
   have HZYa11 := qh hz
   clear hz
   clear hK K
   refine qrH 3 rfl (fun K hK => ?_)
   go_simp
   refine (HST.out Ya11 _ (SliceR.below (RowR.stays 1) HT2.out HYa12.out)).mono ?_
   rintro e Ya13 ⟨⟨sa, sb, sc, sk, rfl, hs⟩, hb⟩
   have HZYa13 := qh ((hb.block gs (qlb HZYa11.out)).trans HZYa11.out)
   have H0Ya13 := qh hs
   have HYa14 := qh (qbt HYa12.out hb)
   clear hs hb
   refine hK.out _ _ HYa14.out (fun _ => ?_)
   clear hK K
   refine qrH 5 rfl (fun K hK => ?_)
   go_simp
   refine (HD1.out Ya13 _ _ _ _ _ _ _ _ rfl (SliceR.below (RowR.stays 1) HT2.out HYa14.out) H0Ya13.out).mono ?_
   rintro e Ya15 ⟨⟨sa1, sb1, sc1, sk1, rfl, hs⟩, hb⟩
   have HZYa15 := qh ((hb.block gs (qlb HZYa13.out)).trans HZYa13.out)
   have H0Ya15 := qh (H0Ya13.out.below hb)
   have H1Ya15 := qh hs
   have HYa16 := qh (qbt HYa14.out hb)
   clear hs hb
   refine hK.out _ _ HYa16.out (fun _ => ?_)
   clear hK K
   refine qtk 6 13 ?va13 rfl ?hya13 (HYa16.out) ?_
   case hya13 => (intro _ _; go_simp <;> rfl)
   simp only [Act.put, qz1, qz2, qz3]
   refine qtk 7 20 ?va14 rfl ?hya14 (HYa16.out) ?_
   case hya14 => (intro _ _; go_simp <;> rfl)
   simp only [Act.put, qz1, qz2, qz3]
   refine qtk 8 21 ?va15 rfl ?hya15 (HYa16.out) ?_
   case hya15 => (intro _ _; go_simp <;> rfl)
   simp only [Act.put, qz1, qz2, qz3]
   refine qrH 10 rfl (fun K hK => ?_)
   have d0 := qcb HZYa15.out 0
   have d1 := qcb HZYa15.out 1
   have d2 := qcb HZYa15.out 2
   have f0 := qfb HZYa15.out 0
   have f1 := qfb HZYa15.out 1
   have f2 := qfb HZYa15.out 2
   have HZ2 := qh (setAll_new (cs := [.slice none 0 0, .slice none 0 0, .bool false]) [.slice sa1 2 sc1, .slice sb1 2 sk1, .bool false] rfl HZYa15.out)
   have hsi := setAll_since (g := gs) [.slice sa1 2 sc1, .slice sb1 2 sk1, .bool false] Ya15 0
   have HS3 := qh (state_off H1Ya15.out HZYa15.out hsi)
   have HY4 : Hid (Below X1.heap.size X1 (setAll Ya15 gs 0 [.slice sa1 2 sc1, .slice sb1 2 sk1, .bool false])) := (HYa16.out).trans (hsi.below (HYa16.out).size (fun k hk => by have := HGL.out; omega))
   clear hsi
   go_simp
   clear d0 d1 d2 f0 f1 f2
   refine hK.out _ (setAll Ya15 gs 0 [.slice sa1 2 sc1, .slice sb1 2 sk1, .bool false]) HY4.out (fun _ => ?_)
   generalize setAll Ya15 gs 0 _ = Y4 at HZ2 HS3 HY4 ⊢
   clear hK K
   refine qtk 11 4 ?va16 rfl ?hya16 (HY4.out) ?_
   case hya16 => (intro _ _; go_simp <;> rfl)
   simp only [Act.put, qz1, qz2, qz3]
   refine wpAnyH_done (by kernel_rfl) ?_ _
   refine NoPanic.normal ?_
   go_wp2_with fail
   go_meet
   case rel => exact ⟨gs, sa1, sb1, sc1, sk1, rfl, rfl, HZ2.out, HS3.out, HY4.out⟩
 case rest =>
  obtain ⟨gs, sa1, sb1, sc1, sk1, rfl, rfl, HZ2, HS3, HY4⟩ := hcut
  obtain ⟨Y4, rfl⟩ : ∃ Y : World, Y = wc := ⟨_, rfl⟩
  have CY : Hid (∀ y, Below Y4.heap.size Y4 y → (y.cell? ⟨g1, 0, none⟩ = some (.int .i64 2) ∧ y.cell? ⟨g1, 1, none⟩ = some (.int .i64 2) ∧ y.cell? ⟨g1, 2, none⟩ = some (.slice ta 2 tc) ∧ y.cell? ⟨g1 + 1, 0, none⟩ = some (.int .i64 1) ∧ y.cell? ⟨g1 + 1, 1, none⟩ = some (.int .i64 1)) ∧ y.cell? ⟨gs, 0, none⟩ = some (.slice sa1 2 sc1) ∧ y.cell? ⟨gs, 1, none⟩ = some (.slice sb1 2 sk1) ∧ y.cell? ⟨gs, 2, none⟩ = some (.bool false)) := fun y hy => ⟨CX.out y (qbt HY4.out hy), qck hy _ _ (qcb HZ2.out 0), qck hy _ _ (qcb HZ2.out 1), qck hy _ _ (qcb HZ2.out 2)⟩
  have HYB := HY4
  have HT4 := qh (SliceR.below (RowR.stays 1) HT2.out HY4.out)
  clear HZ2 CX HT2 L2 HD HST HD1
  obtain ⟨⟨k0, k1, k2, k3, k4⟩, k5, k6, k7⟩ := CY.out Y4 (Below.refl _ _)
  go_upto_region 4 with (go_at_call 25; go_must (refine (HD2.out Y4 _ _ _ _ _ _ _ _ rfl HT4.out HS3.out).mono ?_); rintro e Z1 ⟨⟨ta2, tb2, tc2, tk2, rfl, hs⟩, hb⟩; (have HT5 := qh hs); (have HZ1 := qh hb); clear hs hb)
  have hb2 := HZ1.out.alloc HZ1.out.size (.cells #[.slice ta2 2 tc2, .slice tb2 2 tk2, .bool false] 30)
  have HQ1 := qh (qhn Z1 (.cells #[.slice ta2 2 tc2, .slice tb2 2 tk2, .bool false] 30))
  have HT6 := qh (HT5.out.below ((Below.refl Z1.heap.size Z1).alloc (Nat.le_refl _) (.cells #[.slice ta2 2 tc2, .slice tb2 2 tk2, .bool false] 30)))
  have HB2 := qh hb2
  clear hb2 k0 k1 k2 k3 k4 k5 k6 k7 HT5 HZ1 HD2
  show Code.wp _ _ _ _ (World.alloc Z1 (.cells #[.slice ta2 2 tc2, .slice tb2 2 tk2, .bool false] 30))
  generalize World.alloc Z1 _ = Z2 at HQ1 HT6 HB2 ⊢
  generalize Z1.heap.size = gt at HQ1 ⊢
  obtain ⟨⟨k0, k1, k2, k3, k4⟩, k5, k6, k7⟩ := CY.out Z2 HB2.out
  have hq := fun y (hy : Below Z2.heap.size Z2 y) => qck hy _ _ (qcb HQ1.out 0)
  have hq' := fun y (hy : Below Z2.heap.size Z2 y) => qck hy _ _ (qcb HQ1.out 1)
  have HQA := qh hq
  have HQB := qh hq'
  clear hq hq'
  go_upto_region 5 with (go_at_call 25; go_must (refine (HD3.out Z2 _ _ _ _ _ _ _ _ rfl (SliceR.below (RowR.stays 1) HT4.out HB2.out) (HS3.out.below HB2.out)).mono ?_); rintro e Z3 ⟨⟨ta3, tb3, tc3, tk3, rfl, hs⟩, hb⟩; (have HZ3 := qh hb); clear hs hb)
  have hb3 := HZ3.out.alloc HZ3.out.size (.cells #[.slice ta3 0 tc3, .slice tb3 0 tk3, .bool false] 30)
  have HB3 := qh hb3
  clear hb3 k0 k1 k2 k3 k4 k5 k6 k7 HD3 HZ3
  show Code.wp _ _ _ _ (World.alloc Z3 (.cells #[.slice ta3 0 tc3, .slice tb3 0 tk3, .bool false] 30))
  generalize World.alloc Z3 _ = Z4 at HB3 ⊢
  generalize Z3.heap.size = gu
  have HB4 := qh (qbt HB2.out HB3.out)
  obtain ⟨⟨k0, k1, k2, k3, k4⟩, k5, k6, k7⟩ := CY.out Z4 HB4.out
  have HEMP : Hid (StateAt Z4 emptyS (.slice none 0 0) (.slice none 0 0)) := empty_at _
  go_upto_region 6 with (go_at_call 25; go_must (refine (HD4.out Z4 _ _ _ _ _ _ _ _ rfl (SliceR.below (RowR.stays 1) HT4.out HB4.out) HEMP.out).mono ?_); rintro e Z5 ⟨⟨ta4, tb4, tc4, tk4, rfl, hs⟩, hb⟩; (have HZ5 := qh hb); clear hs hb)
  have hb5 := HZ5.out.alloc HZ5.out.size (.cells #[.slice ta4 0 tc4, .slice tb4 0 tk4, .bool false] 30)
  have HB5 := qh (qbt HB3.out hb5)
  clear hb5 k0 k1 k2 k3 k4 k5 k6 k7 HD4 HZ5 HEMP
  show Code.wp _ _ _ _ (World.alloc Z5 (.cells #[.slice ta4 0 tc4, .slice tb4 0 tk4, .bool false] 30))
  generalize World.alloc Z5 _ = Z6 at HB5 ⊢
  generalize Z5.heap.size = gv
  have HB6 := qh (qbt HB2.out HB5.out)
  obtain ⟨⟨k0, k1, k2, k3, k4⟩, k5, k6, k7⟩ := CY.out Z6 HB6.out
  have k8 := HQA.out Z6 HB5.out
  have k9 := HQB.out Z6 HB5.out
  obtain ⟨xb, xo, xba, xbc, hxa, -, -, x0, -, -, -, -, x5, -⟩ := ThreadsAt.part (HS3.out.below HB6.out).threads 0 (by decide)
  obtain ⟨yb, yo, hya, -, y0⟩ := IntsAt.part (HS3.out.below HB6.out).mem 0 (by decide)
  obtain ⟨ub, uo, uba, ubc, hua, -, -, u0, -, -, -, -, u5, -⟩ := ThreadsAt.part (HT6.out.below HB5.out).threads 0 (by decide)
  obtain ⟨vb, vo, hva, -, v0⟩ := IntsAt.part (HT6.out.below HB5.out).mem 0 (by decide)
  subst hxa hya hua hva
  rw [Nat.zero_mul, Nat.add_zero] at x0 x5 u0 u5
  rw [Nat.add_zero] at y0 v0
  replace x0 : Z6.cell? ⟨xb, xo, none⟩ = some (.int .i64 1) := x0
  replace x5 : Z6.cell? ⟨xb, xo + 5, none⟩ = some (.slice xba 1 xbc) := x5
  replace y0 : Z6.cell? ⟨yb, yo, none⟩ = some (.int .i64 0) := y0
  replace u5 : Z6.cell? ⟨ub, uo + 5, none⟩ = some (.slice uba 0 ubc) := u5
  replace v0 : Z6.cell? ⟨vb, vo, none⟩ = some (.int .i64 1) := v0
  clear u0
  have HMVZ := qh (HMV.out Z6 _ _ _ _ _ _ _ (SliceR.below (RowR.stays 1) HT4.out HB6.out) (HS3.out.below HB6.out))
  have HFTZ := qh (fun y (hy : Below Z6.heap.size Z6 y) => HFT.out y _ _ _ _ _ _ _ (SliceR.below (RowR.stays 1) HT4.out (qbt HB6.out hy)) (HS3.out.below (qbt HB6.out hy)))
  have HCZ := qh (fun y (hy : Below Z6.heap.size Z6 y) => CY.out y (qbt HB6.out hy))
  have HBZ : Hid (Below w.heap.size w Z6) := HB1.out.trans ((qbt HY4.out HB6.out).mono HB1.out.size)
  clear HMV HFT CY HS3 HT6 HT4 HB6 HB5 HB4 HB3 HB2 HQA HQB HQ1 HY4
  go_wp2_with (first | (go_at_call 24; go_must (refine HMVZ.out.mono ?_); rintro e Z7 ⟨⟨ma, mc, rfl⟩, hb⟩; (have HB7 := qh hb); (obtain ⟨⟨p0, p1, p2, p3, p4⟩, p5, p6, p7⟩ := HCZ.out Z7 hb); clear hb) | (go_at_call 26; go_must (refine (HFTZ.out Z7 HB7.out).mono ?_); rintro e Z8 ⟨rfl, hb⟩; (have HB8 := qh hb); clear hb))
  go_ret
  exact ⟨rfl, HBZ.out.trans ((qbt HB7.out HB8.out).mono HBZ.out.size)⟩
end Go.Proofs.YtliajkheeniljaaGreatDoor
