/- What moves do in a state is what the document says: the walk. -/
import Derived.Test.YtliajkheeniljaaGreatDoorQMoves
import Derived.Test.YtliajkheeniljaaGreatDoorQPDo
import Derived.Test.YtliajkheeniljaaGreatDoorQPMoves
import Derived.Test.YtliajkheeniljaaGreatDoorQWalk7
import Derived.Test.YtliajkheeniljaaGreatDoorQShort
set_option linter.all false
namespace Go.Proofs.YtliajkheeniljaaGreatDoor
open Go.RowKit
set_option maxRecDepth 100000
set_option maxHeartbeats 16000000
def ToldAt (y : World) (S : StateD) (er : Int) (e : Ending) (w' : World) : Prop := (∃ (a b : Option Addr) (n c k f : Nat), e = .returned (.tuple #[.agg #[.slice a n c, .slice b k f, .bool S.bad], .int .i64 er]) ∧ StateAt w' S (.slice a n c) (.slice b k f)) ∧ Below y.heap.size y w'
theorem same_any (w : World) (c : CodeD) (cv : Value) (d : Nat) (hc : RowsAt d w cv c.threads) (m : MachD) (s : StateD) (sv mv : Value) (hs : StateAt w s sv mv) (hb : ∀ j, j < s.threads.length → (s.threads.getD j default).buf.length ≤ 100000) (x : MoveD) :
  Calls Tryz.prog 16 #[codeV c cv, machV m, stateV s sv mv, moveV x] w fun e w' => e = .returned (.bool true) ∧ Below w.heap.size w w' := by
 have hb6 : ∀ j, j < s.threads.length → (s.threads.getD j default).buf.length ≤ 1000000 := fun j hj => by have := hb j hj; omega
 have hpdo := fun y (hy : Below w.heap.size w y) (x : MoveD) => (pdo_any y c cv d (SliceR.below (RowR.stays d) hc hy) m s sv mv (hs.below hy) hb6 x).mono (R' := ToldAt y (doS c m s x d).1 (doS c m s x d).2) (by
  rintro e w' ⟨hb, xa, xn, xc, ya, yn, yc, rfl, hf⟩
  exact ⟨⟨xa, ya, xn, xc, yn, yc, rfl, hf.now (hs.below hy)⟩, hb⟩)
 have hrdo := fun y (hy : Below w.heap.size w y) (x : MoveD) => (do_any y c cv d (SliceR.below (RowR.stays d) hc hy) m s sv mv (hs.below hy) hb x).mono (R' := ToldAt y (doS c m s x d).1 (doS c m s x d).2) (by
  rintro e w' ⟨⟨xa, xn, xc, ya, yn, yc, bs, rfl, ho⟩, hb⟩
  exact ⟨⟨xa, ya, xn, xc, yn, yc, rfl, ho.state _⟩, hb⟩)
 have hpmv := fun y (hy : Below w.heap.size w y) => pmoves_any y c cv d (SliceR.below (RowR.stays d) hc hy) m s sv mv (hs.below hy) hb6
 have hrmv := fun y (hy : Below w.heap.size w y) => moves_any y c cv d (SliceR.below (RowR.stays d) hc hy) m s sv mv (hs.below hy) hb
 have hpft := fun y (hy : Below w.heap.size w y) => pfits_any y c cv d (SliceR.below (RowR.stays d) hc hy) m s sv mv (hs.below hy) hb6
 have hrft := fun y (hy : Below w.heap.size w y) => fits_any y c cv d (SliceR.below (RowR.stays d) hc hy) m s sv mv (hs.below hy) hb6
 have hsame : ∀ y (S : StateD) (a b a' b' : Option Addr) (n c k f n' c' k' f' : Nat) (bd : Bool), bd = S.bad → StateAt y S (.slice a n c) (.slice b k f) → StateAt y S (.slice a' n' c') (.slice b' k' f') → Calls Tryz.prog 17 #[.agg #[.slice a n c, .slice b k f, .bool bd], .agg #[.slice a' n' c', .slice b' k' f', .bool bd]] y fun e w' => e = .returned (.bool true) ∧ Below y.heap.size y w' := fun y S a b a' b' n c k f n' c' k' f' bd hbd h1 h2 => by
  subst hbd
  have h := same7_any y S S _ _ _ _ h1 h2
  rw [decide_eq_true rfl] at h
  exact h
 have hok : ∀ x ∈ movesS c m s d, (doS c m s x d).2 = 0 := fun x hx => moves_ok hx
 obtain ⟨DS, hDS⟩ : ∃ f, f = fun x => (doS c m s x d).1 := ⟨_, rfl⟩
 obtain ⟨DE, hDE⟩ : ∃ f, f = fun x => (doS c m s x d).2 := ⟨_, rfl⟩
 have e1 : ∀ x, (doS c m s x d).1 = DS x := fun x => by rw [hDS]
 have e2 : ∀ x, (doS c m s x d).2 = DE x := fun x => by rw [hDE]
 simp only [e1, e2] at hpdo hrdo hok
 obtain ⟨ML, hML⟩ : ∃ l, l = movesS c m s d := ⟨_, rfl⟩
 rw [← hML] at hpmv hrmv hok
 obtain ⟨fo, hfo⟩ : ∃ b, b = fitsOk c m s := ⟨_, rfl⟩
 rw [← hfo] at hpft hrft
 clear hDS hDE e1 e2 hML hfo hb hb6
 obtain ⟨ca, cc, rfl, -⟩ := SliceR.slice hc
 obtain ⟨ta, tc0, rfl, -⟩ := SliceR.slice hs.threads
 obtain ⟨ma, mc0, rfl, -⟩ := SliceR.slice hs.mem
 clear hc hs
 unfold codeV machV stateV moveV at hpdo hrdo
 unfold codeV machV stateV at hpmv hrmv hpft hrft
 unfold codeV machV stateV moveV
 generalize c.threads.length = cn at hpdo hrdo hpmv hrmv hpft hrft ⊢
 generalize s.threads.length = n at hpdo hrdo hpmv hrmv hpft hrft ⊢
 generalize s.mem.length = mn at hpdo hrdo hpmv hrmv hpft hrft ⊢
 generalize s.bad = bad at hpdo hrdo hpmv hrmv hpft hrft ⊢
 generalize c.vars = vars at hpdo hrdo hpmv hrmv hpft hrft ⊢
 generalize c.domain = dom at hpdo hrdo hpmv hrmv hpft hrft ⊢
 generalize m.model = mod at hpdo hrdo hpmv hrmv hpft hrft ⊢
 generalize m.bound = bnd at hpdo hrdo hpmv hrmv hpft hrft ⊢
 have hp1 := fun y hy => hpdo y hy x
 have hr1 := fun y hy => hrdo y hy x
 generalize DS x = S1 at hp1 hr1
 generalize DE x = E1 at hp1 hr1
 obtain ⟨kd, th, vr⟩ := x
 simp only [] at hp1 hr1 ⊢
 have HL0 := qh ((((Loc.start w).alloc 24 [.int .i64 vars, .int .i64 dom, .slice ca cn cc]).alloc 26 [.int .i64 mod, .int .i64 bnd]).alloc 30 [.slice ta n tc0, .slice ma mn mc0, .bool bad] |>.alloc 32 [.int .i64 kd, .int .i64 th, .int .i64 vr])
 obtain ⟨hB, hx1, hx2, hx3, hx4, -⟩ := boxes4_below w (.cells #[.int .i64 vars, .int .i64 dom, .slice ca cn cc] 24) (.cells #[.int .i64 mod, .int .i64 bnd] 26) (.cells #[.slice ta n tc0, .slice ma mn mc0, .bool bad] 30) (.cells #[.int .i64 kd, .int .i64 th, .int .i64 vr] 32)
 have HB := qh hB
 have H1 := qh hx1
 have H2 := qh hx2
 have H3 := qh hx3
 have H4 := qh hx4
 have HP1 := qh hp1
 have HR1 := qh hr1
 have HPDO := qh hpdo
 have HRDO := qh hrdo
 have HPMV := qh hpmv
 have HRMV := qh hrmv
 have HPFT := qh hpft
 have HRFT := qh hrft
 have HSAME := qh hsame
 have HOK := qh hok
 clear hB hx1 hx2 hx3 hx4 hp1 hr1 hpdo hrdo hpmv hrmv hpft hrft hsame hok HL0
 go_enter Tryz.func16, Tryz.ntmps16
 go_upto_region 1 with fail
 generalize World.alloc (World.alloc (World.alloc (World.alloc w _) _) _) _ = W at HB H1 H2 H3 H4 ⊢
 obtain ⟨gx, hgx⟩ : ∃ gx, gx = w.heap.size := ⟨_, rfl⟩
 rw [← hgx] at H1 H2 H3 H4 ⊢
 clear hgx
 have HCC : Hid (∀ y, Below W.heap.size W y → y.cell? ⟨gx, 0, none⟩ = some (.int .i64 vars) ∧ y.cell? ⟨gx, 1, none⟩ = some (.int .i64 dom) ∧ y.cell? ⟨gx, 2, none⟩ = some (.slice ca cn cc) ∧
   y.cell? ⟨gx + 1, 0, none⟩ = some (.int .i64 mod) ∧ y.cell? ⟨gx + 1, 1, none⟩ = some (.int .i64 bnd) ∧ y.cell? ⟨gx + 2, 0, none⟩ = some (.slice ta n tc0) ∧ y.cell? ⟨gx + 2, 1, none⟩ = some (.slice ma mn mc0) ∧ y.cell? ⟨gx + 2, 2, none⟩ = some (.bool bad) ∧
   y.cell? ⟨gx + 3, 0, none⟩ = some (.int .i64 kd) ∧ y.cell? ⟨gx + 3, 1, none⟩ = some (.int .i64 th) ∧ y.cell? ⟨gx + 3, 2, none⟩ = some (.int .i64 vr)) := fun y hx =>
  ⟨qck hx _ _ (qcb H1.out 0), qck hx _ _ (qcb H1.out 1), qck hx _ _ (qcb H1.out 2), qck hx _ _ (qcb H2.out 0), qck hx _ _ (qcb H2.out 1), qck hx _ _ (qcb H3.out 0), qck hx _ _ (qcb H3.out 1), qck hx _ _ (qcb H3.out 2), qck hx _ _ (qcb H4.out 0), qck hx _ _ (qcb H4.out 1), qck hx _ _ (qcb H4.out 2)⟩
 have HBW : Hid (∀ y, Below W.heap.size W y → Below w.heap.size w y) := fun y hy => HB.out.trans (hy.mono HB.out.size)
 clear H1 H2 H3 H4
 obtain ⟨c0, c1, c2, c3, c4, c5, c6, c7, c8, c9, c10⟩ := HCC.out W (Below.refl _ _)
 go_upto_region 2 with (go_at_call 25; go_must (refine (HP1.out W HB.out).mono ?_); rintro e X1 ⟨⟨a1, b1, n1, k1, m1, f1, rfl, hs⟩, hb⟩; (have HS1 := qh hs); (have HX1 := qh hb); clear hs hb)
 have hbx := HX1.out.alloc HX1.out.size (.cells #[.slice a1 n1 k1, .slice b1 m1 f1, .bool S1.bad] 30)
 have HG1 := qh (qhn X1 (.cells #[.slice a1 n1 k1, .slice b1 m1 f1, .bool S1.bad] 30))
 have HS2 := qh (HS1.out.below ((Below.refl X1.heap.size X1).alloc (Nat.le_refl _) (.cells #[.slice a1 n1 k1, .slice b1 m1 f1, .bool S1.bad] 30)))
 have HX2 := qh hbx
 clear hbx HS1 HX1 HP1 c0 c1 c2 c3 c4 c5 c6 c7 c8 c9 c10
 generalize World.alloc X1 _ = X2 at HG1 HS2 HX2 ⊢
 generalize X1.heap.size = g1 at HG1 ⊢
 obtain ⟨c0, c1, c2, c3, c4, c5, c6, c7, c8, c9, c10⟩ := HCC.out X2 HX2.out
 go_upto_region 3 with (go_at_call 37; go_must (refine (HR1.out X2 (HBW.out X2 HX2.out)).mono ?_); rintro e X3 ⟨⟨a2, b2, n2, k2, m2, f2, rfl, hs⟩, hb⟩; (have HS3 := qh hs); (have HX3 := qh hb); clear hs hb)
 have hbx := HX3.out.alloc HX3.out.size (.cells #[.slice a2 n2 k2, .slice b2 m2 f2, .bool S1.bad] 30)
 have HG2 := qh (qhn X3 (.cells #[.slice a2 n2 k2, .slice b2 m2 f2, .bool S1.bad] 30))
 have HS4 := qh (HS3.out.below ((Below.refl X3.heap.size X3).alloc (Nat.le_refl _) (.cells #[.slice a2 n2 k2, .slice b2 m2 f2, .bool S1.bad] 30)))
 have HG3 := qh ((hbx.block g1 (qlb HG1.out)).trans HG1.out)
 have HS5 := qh (HS2.out.below hbx)
 have HX4 := qh (qbt HX2.out hbx)
 clear hbx HS3 HX3 HX2 HS2 HG1 HR1 c0 c1 c2 c3 c4 c5 c6 c7 c8 c9 c10
 generalize World.alloc X3 _ = X4 at HG2 HS4 HG3 HS5 HX4 ⊢
 generalize X3.heap.size = g2 at HG2 ⊢
 have HC4 : Hid (∀ y, Below X4.heap.size X4 y → y.cell? ⟨gx, 0, none⟩ = some (.int .i64 vars) ∧ y.cell? ⟨gx, 1, none⟩ = some (.int .i64 dom) ∧ y.cell? ⟨gx, 2, none⟩ = some (.slice ca cn cc) ∧ y.cell? ⟨gx + 1, 0, none⟩ = some (.int .i64 mod) ∧ y.cell? ⟨gx + 1, 1, none⟩ = some (.int .i64 bnd) ∧ y.cell? ⟨gx + 2, 0, none⟩ = some (.slice ta n tc0) ∧ y.cell? ⟨gx + 2, 1, none⟩ = some (.slice ma mn mc0) ∧ y.cell? ⟨gx + 2, 2, none⟩ = some (.bool bad)) := fun y hy => by
  obtain ⟨p0, p1, p2, p3, p4, p5, p6, p7, p8, p9, p10⟩ := HCC.out y (qbt HX4.out hy)
  exact ⟨p0, p1, p2, p3, p4, p5, p6, p7⟩
 refine wp_region_noPanic ?_
 refine wp_region_held_drew (S := fun x => Below X4.heap.size X4 x) (by kernel_rfl) ((Below.refl _ _).drew) (fun hH => ?_)
 refine qta 0 36 ?vh1 rfl ?hyh1 ?_
 case hyh1 => (intro x h; have e := HC4.out x h; go_simp <;> rfl)
 simp only [Act.put, qz1, qz2, qz3]
 refine qta 1 37 ?vh2 rfl ?hyh2 ?_
 case hyh2 => (intro x h; have e := HC4.out x h; go_simp <;> rfl)
 simp only [Act.put, qz1, qz2, qz3]
 refine qta 2 38 ?vh3 rfl ?hyh3 ?_
 case hyh3 => (intro x h; have e := HC4.out x h; go_simp <;> rfl)
 simp only [Act.put, qz1, qz2, qz3]
 refine qta 4 40 ?vh4 rfl ?hyh4 ?_
 case hyh4 => (intro x h; have e := HC4.out x h; go_simp <;> rfl)
 simp only [Act.put, qz1, qz2, qz3]
 refine qta 5 41 ?vh5 rfl ?hyh5 ?_
 case hyh5 => (intro x h; have e := HC4.out x h; go_simp <;> rfl)
 simp only [Act.put, qz1, qz2, qz3]
 refine qta 6 42 ?vh6 rfl ?hyh6 ?_
 case hyh6 => (intro x h; have e := HC4.out x h; go_simp <;> rfl)
 simp only [Act.put, qz1, qz2, qz3]
 refine qrH 3 rfl (fun K hK => ?_)
 go_simp
 refine (HPMV.out X4.drew (HBW.out _ (qbt HX4.out hH))).mono ?_
 rintro e hw3 ⟨⟨ma1, mc1, rfl, hrw⟩, hb⟩
 have hm1 := qh (moves_of hrw)
 clear hrw
 have hHh3 : Below X4.heap.size X4 hw3 := qbt hH hb
 refine hK.out _ _ hHh3 (fun _ => ?_)
 clear hK K hb hH
 refine qrH 7 rfl (fun K hK => ?_)
 go_simp
 refine (HRMV.out hw3 (HBW.out _ (qbt HX4.out hHh3))).mono ?_
 rintro e hw7 ⟨⟨ma2, mc2, rfl, hrw⟩, hb⟩
 have HM2 := qh (moves_of hrw)
 have HM1 := qh (SliceR.below MoveR.stays hm1.out hb)
 clear hrw hm1
 have hHh7 : Below X4.heap.size X4 hw7 := qbt hHh3 hb
 refine hK.out _ _ hHh7 (fun _ => ?_)
 clear hK K hb hHh3
 refine qta 8 13 ?vh7 rfl ?hyh7 ?_
 case hyh7 => (intro x h; have e := HC4.out x h; go_simp <;> rfl)
 simp only [Act.put, qz1, qz2, qz3]
 refine qta 9 14 ?vh8 rfl ?hyh8 ?_
 case hyh8 => (intro x h; have e := HC4.out x h; go_simp <;> rfl)
 simp only [Act.put, qz1, qz2, qz3]
 refine wpAnyH_done (by kernel_rfl) ?_ _
 refine NoPanic.normal ?_
 have HX5 := qh (hHh7)
 obtain ⟨X5, hX5⟩ : ∃ X5, X5 = hw7 := ⟨_, rfl⟩
 rw [← hX5] at HX5 HM1 HM2 ⊢
 clear hX5
 have HX5W := qh (qbt HX4.out HX5.out)
 have HS1' := qh (HS5.out.below HX5.out)
 have HS2' := qh (HS4.out.below HX5.out)
 obtain ⟨sb1, hsb⟩ : ∃ b, b = S1.bad := ⟨_, rfl⟩
 rw [← hsb] at HG2 HG3
 have HSB := qh hsb
 clear hsb
 have HC5 : Hid (∀ y, Below X5.heap.size X5 y → y.cell? ⟨gx, 0, none⟩ = some (.int .i64 vars) ∧ y.cell? ⟨gx, 1, none⟩ = some (.int .i64 dom) ∧ y.cell? ⟨gx, 2, none⟩ = some (.slice ca cn cc) ∧ y.cell? ⟨gx + 1, 0, none⟩ = some (.int .i64 mod) ∧ y.cell? ⟨gx + 1, 1, none⟩ = some (.int .i64 bnd) ∧ y.cell? ⟨gx + 2, 0, none⟩ = some (.slice ta n tc0) ∧ y.cell? ⟨gx + 2, 1, none⟩ = some (.slice ma mn mc0) ∧ y.cell? ⟨gx + 2, 2, none⟩ = some (.bool bad) ∧ y.cell? ⟨g1, 0, none⟩ = some (.slice a1 n1 k1) ∧ y.cell? ⟨g1, 1, none⟩ = some (.slice b1 m1 f1) ∧ y.cell? ⟨g1, 2, none⟩ = some (.bool sb1) ∧ y.cell? ⟨g2, 0, none⟩ = some (.slice a2 n2 k2) ∧ y.cell? ⟨g2, 1, none⟩ = some (.slice b2 m2 f2) ∧ y.cell? ⟨g2, 2, none⟩ = some (.bool sb1)) := fun y hy => by
  obtain ⟨p0, p1, p2, p3, p4, p5, p6, p7, p8, p9, p10⟩ := HCC.out y (qbt HX5W.out hy)
  exact ⟨p0, p1, p2, p3, p4, p5, p6, p7, qck (qbt HX5.out hy) _ _ (qcb HG3.out 0), qck (qbt HX5.out hy) _ _ (qcb HG3.out 1), qck (qbt HX5.out hy) _ _ (qcb HG3.out 2), qck (qbt HX5.out hy) _ _ (qcb HG2.out 0), qck (qbt HX5.out hy) _ _ (qcb HG2.out 1), qck (qbt HX5.out hy) _ _ (qcb HG2.out 2)⟩
 clear HS5 HS4 HG2 HG3 HC4 HX5
 have hne1 : ((E1 : Int) != E1) = false := by simp
 have hne2 : ((fo : Bool) != fo) = false := by simp
 go_upto_region 4 with fail
 refine wp_region_noPanic ?_
 refine wp_region_held_drew (S := fun x => Below X5.heap.size X5 x) (by kernel_rfl) ((Below.refl _ _).drew) (fun kK => ?_)
 refine qta 0 44 ?vk1 rfl ?hyk1 ?_
 case hyk1 => (intro x h; have e := HC5.out x h; go_simp <;> rfl)
 simp only [Act.put, qz1, qz2, qz3]
 refine qta 1 45 ?vk2 rfl ?hyk2 ?_
 case hyk2 => (intro x h; have e := HC5.out x h; go_simp <;> rfl)
 simp only [Act.put, qz1, qz2, qz3]
 refine qrH 2 rfl (fun K hK => ?_)
 go_simp
 refine (HSAME.out X5.drew S1 _ _ _ _ _ _ _ _ _ _ _ _ _ HSB.out (HS1'.out.below kK) (HS2'.out.below kK)).mono ?_
 rintro e kw2 ⟨rfl, hb⟩
 have kKk2 : Below X5.heap.size X5 kw2 := qbt kK hb
 refine hK.out _ _ kKk2 (fun _ => ?_)
 clear hK K hb kK
 refine qta 3 47 ?vk3 rfl ?hyk3 ?_
 case hyk3 => (intro x h; have e := HC5.out x h; go_simp <;> rfl)
 simp only [Act.put, qz1, qz2, qz3]
 refine qta 4 48 ?vk4 rfl ?hyk4 ?_
 case hyk4 => (intro x h; have e := HC5.out x h; go_simp <;> rfl)
 simp only [Act.put, qz1, qz2, qz3]
 refine qta 5 49 ?vk5 rfl ?hyk5 ?_
 case hyk5 => (intro x h; have e := HC5.out x h; go_simp <;> rfl)
 simp only [Act.put, qz1, qz2, qz3]
 refine qta 6 50 ?vk6 rfl ?hyk6 ?_
 case hyk6 => (intro x h; have e := HC5.out x h; go_simp <;> rfl)
 simp only [Act.put, qz1, qz2, qz3]
 refine qta 7 51 ?vk7 rfl ?hyk7 ?_
 case hyk7 => (intro x h; have e := HC5.out x h; go_simp <;> rfl)
 simp only [Act.put, qz1, qz2, qz3]
 refine qta 8 52 ?vk8 rfl ?hyk8 ?_
 case hyk8 => (intro x h; have e := HC5.out x h; go_simp <;> rfl)
 simp only [Act.put, qz1, qz2, qz3]
 refine qta 9 53 ?vk9 rfl ?hyk9 ?_
 case hyk9 => (intro x h; have e := HC5.out x h; go_simp <;> rfl)
 simp only [Act.put, qz1, qz2, qz3]
 refine qta 10 54 ?vk10 rfl ?hyk10 ?_
 case hyk10 => (intro x h; have e := HC5.out x h; go_simp <;> rfl)
 simp only [Act.put, qz1, qz2, qz3]
 refine qta 11 55 ?vk11 rfl ?hyk11 ?_
 case hyk11 => (intro x h; have e := HC5.out x h; go_simp <;> rfl)
 simp only [Act.put, qz1, qz2, qz3]
 refine qrH 12 rfl (fun K hK => ?_)
 go_simp
 refine (sameM_any kw2 _ _ ML (SliceR.below MoveR.stays HM1.out kKk2) (SliceR.below MoveR.stays HM2.out kKk2)).mono ?_
 rintro e kw12 ⟨rfl, hb⟩
 have kKk12 : Below X5.heap.size X5 kw12 := qbt kKk2 hb
 refine hK.out _ _ kKk12 (fun _ => ?_)
 clear hK K hb kKk2
 refine qta 13 57 ?vk12 rfl ?hyk12 ?_
 case hyk12 => (intro x h; have e := HC5.out x h; go_simp <;> rfl)
 simp only [Act.put, qz1, qz2, qz3]
 refine qta 14 58 ?vk13 rfl ?hyk13 ?_
 case hyk13 => (intro x h; have e := HC5.out x h; go_simp <;> rfl)
 simp only [Act.put, qz1, qz2, qz3]
 refine qta 15 59 ?vk14 rfl ?hyk14 ?_
 case hyk14 => (intro x h; have e := HC5.out x h; go_simp <;> rfl)
 simp only [Act.put, qz1, qz2, qz3]
 refine qta 16 60 ?vk15 rfl ?hyk15 ?_
 case hyk15 => (intro x h; have e := HC5.out x h; go_simp <;> rfl)
 simp only [Act.put, qz1, qz2, qz3]
 refine qta 17 61 ?vk16 rfl ?hyk16 ?_
 case hyk16 => (intro x h; have e := HC5.out x h; go_simp <;> rfl)
 simp only [Act.put, qz1, qz2, qz3]
 refine qta 18 62 ?vk17 rfl ?hyk17 ?_
 case hyk17 => (intro x h; have e := HC5.out x h; go_simp <;> rfl)
 simp only [Act.put, qz1, qz2, qz3]
 refine qta 20 64 ?vk18 rfl ?hyk18 ?_
 case hyk18 => (intro x h; have e := HC5.out x h; go_simp <;> rfl)
 simp only [Act.put, qz1, qz2, qz3]
 refine qta 21 65 ?vk19 rfl ?hyk19 ?_
 case hyk19 => (intro x h; have e := HC5.out x h; go_simp <;> rfl)
 simp only [Act.put, qz1, qz2, qz3]
 refine qta 22 66 ?vk20 rfl ?hyk20 ?_
 case hyk20 => (intro x h; have e := HC5.out x h; go_simp <;> rfl)
 simp only [Act.put, qz1, qz2, qz3]
 refine qrH 19 rfl (fun K hK => ?_)
 go_simp
 refine (HPFT.out kw12 (HBW.out _ (qbt HX5W.out kKk12))).mono ?_
 rintro e kw19 ⟨rfl, hb⟩
 have kKk19 : Below X5.heap.size X5 kw19 := qbt kKk12 hb
 refine hK.out _ _ kKk19 (fun _ => ?_)
 clear hK K hb kKk12
 refine qrH 23 rfl (fun K hK => ?_)
 go_simp
 refine (HRFT.out kw19 (HBW.out _ (qbt HX5W.out kKk19))).mono ?_
 rintro e kw23 ⟨rfl, hb⟩
 have kKk23 : Below X5.heap.size X5 kw23 := qbt kKk19 hb
 refine hK.out _ _ kKk23 (fun _ => ?_)
 clear hK K hb kKk19
 refine qta 24 68 ?vk21 rfl ?hyk21 ?_
 case hyk21 => (intro x h; have e := HC5.out x h; go_simp <;> rfl)
 simp only [Act.put, qz1, qz2, qz3]
 refine qta 25 69 ?vk22 rfl ?hyk22 ?_
 case hyk22 => (intro x h; have e := HC5.out x h; go_simp <;> rfl)
 simp only [Act.put, qz1, qz2, qz3]
 refine wpAnyH_done (by kernel_rfl) ?_ _
 refine NoPanic.normal ?_
 have HX6 := qh (qbt HX5W.out kKk23)
 have HX56 := qh (kKk23)
 obtain ⟨X6, hX6⟩ : ∃ X6, X6 = kw23 := ⟨_, rfl⟩
 rw [← hX6] at HX6 HX56 ⊢
 clear hX6
 have HMS : Hid (MovesAt X6 (.slice ma2 ML.length mc2) ML) := SliceR.below MoveR.stays HM2.out HX56.out
 obtain ⟨q, hq⟩ : ∃ q, q = ML.length := ⟨_, rfl⟩
 rw [← hq] at HMS ⊢
 have HQ := qh hq
 have hqm : q ≤ 9223372036854775807 := by obtain ⟨a, cap, e, h, -⟩ := HMS.out; omega
 clear hq hne1 hne2 HM1 HM2 HC5 HS1' HS2' HX5W
 go_wp2_with fail
 go_loopg [15] q (fun gg s15 wr => ∃ i : Nat, i ≤ q ∧ Hid (gg = q - i) ∧ s15 = .int .i64 i ∧ Hid (Below X6.heap.size X6 wr))
 case atStart => exact ⟨0, Nat.zero_le _, rfl, rfl, Below.refl _ _⟩
 case round =>
  obtain ⟨i, hi, HG, rfl, HBR⟩ := hrel
  obtain ⟨wo, rfl⟩ : ∃ wo : World, wo = wr := ⟨_, rfl⟩
  by_cases hlt : i < q
  rotate_left
  ·obtain rfl : q = i := by omega
   have HEND : Hid (Below w.heap.size w wo) := HBW.out wo (qbt HX6.out HBR.out)
   go_wp2_with fail
   go_ret
   exact ⟨rfl, HEND.out⟩
  have hltI : (i : Int) < (q : Int) := by omega
  obtain ⟨mb, mo, hma, -, x0, x1, x2⟩ := MovesAt.part HMS.out i (by rw [← HQ.out]; exact hlt)
  subst hma
  have hmem : ML.getD i default ∈ ML := getD_mem (by rw [← HQ.out]; exact hlt)
  have hp := fun y hy => HPDO.out y hy (ML.getD i default)
  have hr := fun y hy => HRDO.out y hy (ML.getD i default)
  have hk := HOK.out _ hmem
  generalize DE (ML.getD i default) = Ei at hp hr hk
  subst hk
  generalize DS (ML.getD i default) = Si at hp hr
  generalize ML.getD i default = xi at x0 x1 x2 hp hr
  obtain ⟨ki, ti, vi⟩ := xi
  simp only [] at x0 x1 x2 hp hr
  have HPI := qh hp
  have HRI := qh hr
  have HBX := qh (qbt HX6.out HBR.out)
  replace x0 := qck HBR.out _ _ x0
  replace x1 := qck HBR.out _ _ x1
  replace x2 := qck HBR.out _ _ x2
  have HC9 : Hid (∀ y, Below wo.heap.size wo y → y.cell? ⟨gx, 0, none⟩ = some (.int .i64 vars) ∧ y.cell? ⟨gx, 1, none⟩ = some (.int .i64 dom) ∧ y.cell? ⟨gx, 2, none⟩ = some (.slice ca cn cc) ∧ y.cell? ⟨gx + 1, 0, none⟩ = some (.int .i64 mod) ∧ y.cell? ⟨gx + 1, 1, none⟩ = some (.int .i64 bnd) ∧ y.cell? ⟨gx + 2, 0, none⟩ = some (.slice ta n tc0) ∧ y.cell? ⟨gx + 2, 1, none⟩ = some (.slice ma mn mc0) ∧ y.cell? ⟨gx + 2, 2, none⟩ = some (.bool bad) ∧ y.cell? ⟨mb, mo + i * 3, none⟩ = some (.int .i64 ki) ∧ y.cell? ⟨mb, mo + i * 3 + 1, none⟩ = some (.int .i64 ti) ∧ y.cell? ⟨mb, mo + i * 3 + 2, none⟩ = some (.int .i64 vi)) := fun y hy => by
   obtain ⟨p0, p1, p2, p3, p4, p5, p6, p7, p8, p9, p10⟩ := HCC.out y (qbt HBX.out hy)
   exact ⟨p0, p1, p2, p3, p4, p5, p6, p7, qck hy _ _ x0, qck hy _ _ x1, qck hy _ _ x2⟩
  clear x0 x1 x2 hp hr hmem
  go_upto_region 9 with fail
  go_cut [16, 17] (fun s16 s17 w' => ∃ (g : Nat) (a b : Option Addr) (n c k f : Nat), s16 = .pointer (some ⟨g, 0, none⟩) ∧ s17 = .int .i64 0 ∧ Hid (w'.heap[g]? = some (.cells #[.slice a n c, .slice b k f, .bool Si.bad] 30 (0, 0))) ∧ Hid (StateAt w' Si (.slice a n c) (.slice b k f)) ∧ Hid (Below wo.heap.size wo w'))
  case first =>
   refine wp_region_noPanic ?_
   refine wp_region_held_drew (S := fun x => Below wo.heap.size wo x) (by kernel_rfl) (Below.refl _ _).drew (fun _ => ?_)
   obtain ⟨V1a, hV1⟩ : ∃ V1, V1 = wo.drew := ⟨_, rfl⟩
   have hT0a : Hid (Below wo.heap.size wo V1a) := by rw [hV1]; exact (Below.refl _ _).drew
   rw [← hV1]
   clear hV1
   refine qtk 0 77 ?va1 rfl ?hya1 (hT0a.out) ?_
   case hya1 => (intro x h; have e := HC9.out x h; go_simp <;> rfl)
   simp only [Act.put, qz1, qz2, qz3]
   refine qtk 1 78 ?va2 rfl ?hya2 (hT0a.out) ?_
   case hya2 => (intro x h; have e := HC9.out x h; go_simp <;> rfl)
   simp only [Act.put, qz1, qz2, qz3]
   refine qtk 2 79 ?va3 rfl ?hya3 (hT0a.out) ?_
   case hya3 => (intro x h; have e := HC9.out x h; go_simp <;> rfl)
   simp only [Act.put, qz1, qz2, qz3]
   refine qtk 3 80 ?va4 rfl ?hya4 (hT0a.out) ?_
   case hya4 => (intro _ _; go_simp <;> rfl)
   simp only [Act.put, qz1, qz2, qz3]
   refine qtk 4 81 ?va5 rfl ?hya5 (hT0a.out) ?_
   case hya5 => (intro _ _; go_simp <;> rfl)
   simp only [Act.put, qz1, qz2, qz3]
   refine qtk 5 82 ?va6 rfl ?hya6 (hT0a.out) ?_
   case hya6 => (intro _ _; go_simp <;> rfl)
   simp only [Act.put, qz1, qz2, qz3]
   refine qtk 6 83 ?va7 rfl ?hya7 (hT0a.out) ?_
   case hya7 => (intro x h; have e := HC9.out x h; go_simp <;> rfl)
   simp only [Act.put, qz1, qz2, qz3]
   refine wpAnyH_ready (rs := [7, 11]) (by kernel_rfl) (by simp) ?_
   refine AllReadyH.cons rfl (fun K hK => ?_) (AllReadyH.cons rfl (fun K hK => ?_) AllReadyH.nil)
   ·skip
    go_simp
    refine (HPI.out V1a (HBW.out _ (qbt HBX.out hT0a.out))).mono ?_
    rintro e Ya1 ⟨⟨pa1, pb1, pn1, pc1, pm1, pf1, rfl, hs⟩, hb⟩
    have HSYa1 := qh hs
    have HYa2 := qh (qbt hT0a.out hb)
    clear hs hb
    refine hK.out _ _ HYa2.out (fun _ => ?_)
    clear hK K
    refine qtk 8 76 ?va8 rfl ?hya8 (HYa2.out) ?_
    case hya8 => (intro _ _; go_simp <;> rfl)
    simp only [Act.put, qz1, qz2, qz3]
    refine qtk 9 85 ?va9 rfl ?hya9 (HYa2.out) ?_
    case hya9 => (intro _ _; go_simp <;> rfl)
    simp only [Act.put, qz1, qz2, qz3]
    refine qtk 10 86 ?va10 rfl ?hya10 (HYa2.out) ?_
    case hya10 => (intro _ _; go_simp <;> rfl)
    simp only [Act.put, qz1, qz2, qz3]
    refine qrH 11 rfl (fun K hK => ?_)
    go_simp
    have hz := qhn Ya1 (.cells #[.slice none 0 0, .slice none 0 0, .bool false] 30)
    have hb := (Below.refl Ya1.heap.size Ya1).alloc (Nat.le_refl _) (.cells #[.slice none 0 0, .slice none 0 0, .bool false] 30)
    have HGL : Hid (wo.heap.size ≤ Ya1.heap.size) := (HYa2.out).size
    have HSYa3 := qh (HSYa1.out.below hb)
    have HYa4 := qh (qbt HYa2.out hb)
    clear hb
    refine hK.out _ _ HYa4.out (fun _ => ?_)
    obtain ⟨gsa, hgs⟩ : ∃ g, g = Ya1.heap.size := ⟨_, rfl⟩
    rw [← hgs] at hz HGL ⊢
    clear hgs
    generalize World.alloc Ya1 _ = Ya3 at hz HSYa3 HYa4 ⊢
    have HZYa3 := qh hz
    clear hz
    clear hK K
    refine qrH 12 rfl (fun K hK => ?_)
    have d0 := qcb HZYa3.out 0
    have d1 := qcb HZYa3.out 1
    have d2 := qcb HZYa3.out 2
    have f0 := qfb HZYa3.out 0
    have f1 := qfb HZYa3.out 1
    have f2 := qfb HZYa3.out 2
    have HZ9a := qh (setAll_new (cs := [.slice none 0 0, .slice none 0 0, .bool false]) [.slice pa1 pn1 pc1, .slice pb1 pm1 pf1, .bool Si.bad] rfl HZYa3.out)
    have hsi := setAll_since (g := gsa) [.slice pa1 pn1 pc1, .slice pb1 pm1 pf1, .bool Si.bad] Ya3 0
    have HS9a := qh (state_off HSYa3.out HZYa3.out hsi)
    have HY9a : Hid (Below wo.heap.size wo (setAll Ya3 gsa 0 [.slice pa1 pn1 pc1, .slice pb1 pm1 pf1, .bool Si.bad])) := (HYa4.out).trans (hsi.below (HYa4.out).size (fun k hk => by have := HGL.out; omega))
    clear hsi HGL
    go_simp
    clear d0 d1 d2 f0 f1 f2
    refine hK.out _ (setAll Ya3 gsa 0 [.slice pa1 pn1 pc1, .slice pb1 pm1 pf1, .bool Si.bad]) HY9a.out (fun _ => ?_)
    generalize setAll Ya3 gsa 0 _ = Y9a at HZ9a HS9a HY9a ⊢
    clear hK K
    refine qtk 13 17 ?va11 rfl ?hya11 (HY9a.out) ?_
    case hya11 => (intro _ _; go_simp <;> rfl)
    simp only [Act.put, qz1, qz2, qz3]
    refine wpAnyH_done (by kernel_rfl) ?_ _
    refine NoPanic.normal ?_
    go_wp2_with fail
    go_meet
    case rel => exact ⟨gsa, pa1, pb1, pn1, pc1, pm1, pf1, rfl, rfl, HZ9a.out, HS9a.out, HY9a.out⟩
   ·skip
    go_simp
    have hz := qhn V1a (.cells #[.slice none 0 0, .slice none 0 0, .bool false] 30)
    have hb := (Below.refl V1a.heap.size V1a).alloc (Nat.le_refl _) (.cells #[.slice none 0 0, .slice none 0 0, .bool false] 30)
    have HGL : Hid (wo.heap.size ≤ V1a.heap.size) := (hT0a.out).size
    have HYa6 := qh (qbt hT0a.out hb)
    clear hb
    refine hK.out _ _ HYa6.out (fun _ => ?_)
    obtain ⟨gsa, hgs⟩ : ∃ g, g = V1a.heap.size := ⟨_, rfl⟩
    rw [← hgs] at hz HGL ⊢
    clear hgs
    generalize World.alloc V1a _ = Ya5 at hz  HYa6 ⊢
    have HZYa5 := qh hz
    clear hz
    clear hK K
    refine qrH 7 rfl (fun K hK => ?_)
    go_simp
    refine (HPI.out Ya5 (HBW.out _ (qbt HBX.out HYa6.out))).mono ?_
    rintro e Ya7 ⟨⟨pa1, pb1, pn1, pc1, pm1, pf1, rfl, hs⟩, hb⟩
    have HZYa7 := qh ((hb.block gsa (qlb HZYa5.out)).trans HZYa5.out)
    have HSYa7 := qh hs
    have HYa8 := qh (qbt HYa6.out hb)
    clear hs hb
    refine hK.out _ _ HYa8.out (fun _ => ?_)
    clear hK K
    refine qtk 8 76 ?va12 rfl ?hya12 (HYa8.out) ?_
    case hya12 => (intro _ _; go_simp <;> rfl)
    simp only [Act.put, qz1, qz2, qz3]
    refine qtk 9 85 ?va13 rfl ?hya13 (HYa8.out) ?_
    case hya13 => (intro _ _; go_simp <;> rfl)
    simp only [Act.put, qz1, qz2, qz3]
    refine qtk 10 86 ?va14 rfl ?hya14 (HYa8.out) ?_
    case hya14 => (intro _ _; go_simp <;> rfl)
    simp only [Act.put, qz1, qz2, qz3]
    refine qrH 12 rfl (fun K hK => ?_)
    have d0 := qcb HZYa7.out 0
    have d1 := qcb HZYa7.out 1
    have d2 := qcb HZYa7.out 2
    have f0 := qfb HZYa7.out 0
    have f1 := qfb HZYa7.out 1
    have f2 := qfb HZYa7.out 2
    have HZ9a := qh (setAll_new (cs := [.slice none 0 0, .slice none 0 0, .bool false]) [.slice pa1 pn1 pc1, .slice pb1 pm1 pf1, .bool Si.bad] rfl HZYa7.out)
    have hsi := setAll_since (g := gsa) [.slice pa1 pn1 pc1, .slice pb1 pm1 pf1, .bool Si.bad] Ya7 0
    have HS9a := qh (state_off HSYa7.out HZYa7.out hsi)
    have HY9a : Hid (Below wo.heap.size wo (setAll Ya7 gsa 0 [.slice pa1 pn1 pc1, .slice pb1 pm1 pf1, .bool Si.bad])) := (HYa8.out).trans (hsi.below (HYa8.out).size (fun k hk => by have := HGL.out; omega))
    clear hsi HGL
    go_simp
    clear d0 d1 d2 f0 f1 f2
    refine hK.out _ (setAll Ya7 gsa 0 [.slice pa1 pn1 pc1, .slice pb1 pm1 pf1, .bool Si.bad]) HY9a.out (fun _ => ?_)
    generalize setAll Ya7 gsa 0 _ = Y9a at HZ9a HS9a HY9a ⊢
    clear hK K
    refine qtk 13 17 ?va15 rfl ?hya15 (HY9a.out) ?_
    case hya15 => (intro _ _; go_simp <;> rfl)
    simp only [Act.put, qz1, qz2, qz3]
    refine wpAnyH_done (by kernel_rfl) ?_ _
    refine NoPanic.normal ?_
    go_wp2_with fail
    go_meet
    case rel => exact ⟨gsa, pa1, pb1, pn1, pc1, pm1, pf1, rfl, rfl, HZ9a.out, HS9a.out, HY9a.out⟩
  case rest =>
   obtain ⟨gsa, pa1, pb1, pn1, pc1, pm1, pf1, rfl, rfl, HZ9a, HS9a, HY9a⟩ := hcut
   obtain ⟨Y9a, rfl⟩ : ∃ Y : World, Y = wc := ⟨_, rfl⟩
   obtain ⟨-, -, -, -, -, -, -, -, x0', x1', x2'⟩ := HC9.out wo (Below.refl _ _)
   have HC10 : Hid (∀ y, Below Y9a.heap.size Y9a y → y.cell? ⟨gx, 0, none⟩ = some (.int .i64 vars) ∧ y.cell? ⟨gx, 1, none⟩ = some (.int .i64 dom) ∧ y.cell? ⟨gx, 2, none⟩ = some (.slice ca cn cc) ∧ y.cell? ⟨gx + 1, 0, none⟩ = some (.int .i64 mod) ∧ y.cell? ⟨gx + 1, 1, none⟩ = some (.int .i64 bnd) ∧ y.cell? ⟨gx + 2, 0, none⟩ = some (.slice ta n tc0) ∧ y.cell? ⟨gx + 2, 1, none⟩ = some (.slice ma mn mc0) ∧ y.cell? ⟨gx + 2, 2, none⟩ = some (.bool bad) ∧ y.cell? ⟨mb, mo + i * 3, none⟩ = some (.int .i64 ki) ∧ y.cell? ⟨mb, mo + i * 3 + 1, none⟩ = some (.int .i64 ti) ∧ y.cell? ⟨mb, mo + i * 3 + 2, none⟩ = some (.int .i64 vi)) := fun y hy => by
    obtain ⟨p0, p1, p2, p3, p4, p5, p6, p7, p8, p9, p10⟩ := HCC.out y (qbt (qbt HBX.out HY9a.out) hy)
    exact ⟨p0, p1, p2, p3, p4, p5, p6, p7, qck (qbt HY9a.out hy) _ _ x0', qck (qbt HY9a.out hy) _ _ x1', qck (qbt HY9a.out hy) _ _ x2'⟩
   clear x0' x1' x2'
   clear HC9
   go_upto_region 10 with fail
   go_cut [18, 19] (fun s18 s19 w' => ∃ (g : Nat) (a b : Option Addr) (n c k f : Nat), s18 = .pointer (some ⟨g, 0, none⟩) ∧ s19 = .int .i64 0 ∧ Hid (w'.heap[g]? = some (.cells #[.slice a n c, .slice b k f, .bool Si.bad] 30 (0, 0))) ∧ Hid (StateAt w' Si (.slice a n c) (.slice b k f)) ∧ Hid (Below Y9a.heap.size Y9a w'))
   case first =>
    refine wp_region_noPanic ?_
    refine wp_region_held_drew (S := fun x => Below Y9a.heap.size Y9a x) (by kernel_rfl) (Below.refl _ _).drew (fun _ => ?_)
    obtain ⟨V1b, hV1⟩ : ∃ V1, V1 = Y9a.drew := ⟨_, rfl⟩
    have hT0b : Hid (Below Y9a.heap.size Y9a V1b) := by rw [hV1]; exact (Below.refl _ _).drew
    rw [← hV1]
    clear hV1
    refine qtk 0 88 ?vb16 rfl ?hyb16 (hT0b.out) ?_
    case hyb16 => (intro x h; have e := HC10.out x h; go_simp <;> rfl)
    simp only [Act.put, qz1, qz2, qz3]
    refine qtk 1 89 ?vb17 rfl ?hyb17 (hT0b.out) ?_
    case hyb17 => (intro x h; have e := HC10.out x h; go_simp <;> rfl)
    simp only [Act.put, qz1, qz2, qz3]
    refine qtk 2 90 ?vb18 rfl ?hyb18 (hT0b.out) ?_
    case hyb18 => (intro x h; have e := HC10.out x h; go_simp <;> rfl)
    simp only [Act.put, qz1, qz2, qz3]
    refine qtk 3 91 ?vb19 rfl ?hyb19 (hT0b.out) ?_
    case hyb19 => (intro _ _; go_simp <;> rfl)
    simp only [Act.put, qz1, qz2, qz3]
    refine qtk 4 92 ?vb20 rfl ?hyb20 (hT0b.out) ?_
    case hyb20 => (intro _ _; go_simp <;> rfl)
    simp only [Act.put, qz1, qz2, qz3]
    refine qtk 5 93 ?vb21 rfl ?hyb21 (hT0b.out) ?_
    case hyb21 => (intro _ _; go_simp <;> rfl)
    simp only [Act.put, qz1, qz2, qz3]
    refine qtk 6 94 ?vb22 rfl ?hyb22 (hT0b.out) ?_
    case hyb22 => (intro x h; have e := HC10.out x h; go_simp <;> rfl)
    simp only [Act.put, qz1, qz2, qz3]
    refine wpAnyH_ready (rs := [7, 11]) (by kernel_rfl) (by simp) ?_
    refine AllReadyH.cons rfl (fun K hK => ?_) (AllReadyH.cons rfl (fun K hK => ?_) AllReadyH.nil)
    ·skip
     go_simp
     refine (HRI.out V1b (HBW.out _ (qbt HBX.out (qbt HY9a.out hT0b.out)))).mono ?_
     rintro e Yb1 ⟨⟨qa1, qb1, qn1, qc1, qm1, qf1, rfl, hs⟩, hb⟩
     have HSYb1 := qh hs
     have HYb2 := qh (qbt hT0b.out hb)
     clear hs hb
     refine hK.out _ _ HYb2.out (fun _ => ?_)
     clear hK K
     refine qtk 8 87 ?vb23 rfl ?hyb23 (HYb2.out) ?_
     case hyb23 => (intro _ _; go_simp <;> rfl)
     simp only [Act.put, qz1, qz2, qz3]
     refine qtk 9 96 ?vb24 rfl ?hyb24 (HYb2.out) ?_
     case hyb24 => (intro _ _; go_simp <;> rfl)
     simp only [Act.put, qz1, qz2, qz3]
     refine qtk 10 97 ?vb25 rfl ?hyb25 (HYb2.out) ?_
     case hyb25 => (intro _ _; go_simp <;> rfl)
     simp only [Act.put, qz1, qz2, qz3]
     refine qrH 11 rfl (fun K hK => ?_)
     go_simp
     have hz := qhn Yb1 (.cells #[.slice none 0 0, .slice none 0 0, .bool false] 30)
     have hb := (Below.refl Yb1.heap.size Yb1).alloc (Nat.le_refl _) (.cells #[.slice none 0 0, .slice none 0 0, .bool false] 30)
     have HGL : Hid (Y9a.heap.size ≤ Yb1.heap.size) := (HYb2.out).size
     have HSYb3 := qh (HSYb1.out.below hb)
     have HYb4 := qh (qbt HYb2.out hb)
     clear hb
     refine hK.out _ _ HYb4.out (fun _ => ?_)
     obtain ⟨gsb, hgs⟩ : ∃ g, g = Yb1.heap.size := ⟨_, rfl⟩
     rw [← hgs] at hz HGL ⊢
     clear hgs
     generalize World.alloc Yb1 _ = Yb3 at hz HSYb3 HYb4 ⊢
     have HZYb3 := qh hz
     clear hz
     clear hK K
     refine qrH 12 rfl (fun K hK => ?_)
     have d0 := qcb HZYb3.out 0
     have d1 := qcb HZYb3.out 1
     have d2 := qcb HZYb3.out 2
     have f0 := qfb HZYb3.out 0
     have f1 := qfb HZYb3.out 1
     have f2 := qfb HZYb3.out 2
     have HZ9b := qh (setAll_new (cs := [.slice none 0 0, .slice none 0 0, .bool false]) [.slice qa1 qn1 qc1, .slice qb1 qm1 qf1, .bool Si.bad] rfl HZYb3.out)
     have hsi := setAll_since (g := gsb) [.slice qa1 qn1 qc1, .slice qb1 qm1 qf1, .bool Si.bad] Yb3 0
     have HS9b := qh (state_off HSYb3.out HZYb3.out hsi)
     have HY9b : Hid (Below Y9a.heap.size Y9a (setAll Yb3 gsb 0 [.slice qa1 qn1 qc1, .slice qb1 qm1 qf1, .bool Si.bad])) := (HYb4.out).trans (hsi.below (HYb4.out).size (fun k hk => by have := HGL.out; omega))
     clear hsi HGL
     go_simp
     clear d0 d1 d2 f0 f1 f2
     refine hK.out _ (setAll Yb3 gsb 0 [.slice qa1 qn1 qc1, .slice qb1 qm1 qf1, .bool Si.bad]) HY9b.out (fun _ => ?_)
     generalize setAll Yb3 gsb 0 _ = Y9b at HZ9b HS9b HY9b ⊢
     clear hK K
     refine qtk 13 19 ?vb26 rfl ?hyb26 (HY9b.out) ?_
     case hyb26 => (intro _ _; go_simp <;> rfl)
     simp only [Act.put, qz1, qz2, qz3]
     refine wpAnyH_done (by kernel_rfl) ?_ _
     refine NoPanic.normal ?_
     go_wp2_with fail
     go_meet
     case rel => exact ⟨gsb, qa1, qb1, qn1, qc1, qm1, qf1, rfl, rfl, HZ9b.out, HS9b.out, HY9b.out⟩
    ·skip
     go_simp
     have hz := qhn V1b (.cells #[.slice none 0 0, .slice none 0 0, .bool false] 30)
     have hb := (Below.refl V1b.heap.size V1b).alloc (Nat.le_refl _) (.cells #[.slice none 0 0, .slice none 0 0, .bool false] 30)
     have HGL : Hid (Y9a.heap.size ≤ V1b.heap.size) := (hT0b.out).size
     have HYb6 := qh (qbt hT0b.out hb)
     clear hb
     refine hK.out _ _ HYb6.out (fun _ => ?_)
     obtain ⟨gsb, hgs⟩ : ∃ g, g = V1b.heap.size := ⟨_, rfl⟩
     rw [← hgs] at hz HGL ⊢
     clear hgs
     generalize World.alloc V1b _ = Yb5 at hz  HYb6 ⊢
     have HZYb5 := qh hz
     clear hz
     clear hK K
     refine qrH 7 rfl (fun K hK => ?_)
     go_simp
     refine (HRI.out Yb5 (HBW.out _ (qbt HBX.out (qbt HY9a.out HYb6.out)))).mono ?_
     rintro e Yb7 ⟨⟨qa1, qb1, qn1, qc1, qm1, qf1, rfl, hs⟩, hb⟩
     have HZYb7 := qh ((hb.block gsb (qlb HZYb5.out)).trans HZYb5.out)
     have HSYb7 := qh hs
     have HYb8 := qh (qbt HYb6.out hb)
     clear hs hb
     refine hK.out _ _ HYb8.out (fun _ => ?_)
     clear hK K
     refine qtk 8 87 ?vb27 rfl ?hyb27 (HYb8.out) ?_
     case hyb27 => (intro _ _; go_simp <;> rfl)
     simp only [Act.put, qz1, qz2, qz3]
     refine qtk 9 96 ?vb28 rfl ?hyb28 (HYb8.out) ?_
     case hyb28 => (intro _ _; go_simp <;> rfl)
     simp only [Act.put, qz1, qz2, qz3]
     refine qtk 10 97 ?vb29 rfl ?hyb29 (HYb8.out) ?_
     case hyb29 => (intro _ _; go_simp <;> rfl)
     simp only [Act.put, qz1, qz2, qz3]
     refine qrH 12 rfl (fun K hK => ?_)
     have d0 := qcb HZYb7.out 0
     have d1 := qcb HZYb7.out 1
     have d2 := qcb HZYb7.out 2
     have f0 := qfb HZYb7.out 0
     have f1 := qfb HZYb7.out 1
     have f2 := qfb HZYb7.out 2
     have HZ9b := qh (setAll_new (cs := [.slice none 0 0, .slice none 0 0, .bool false]) [.slice qa1 qn1 qc1, .slice qb1 qm1 qf1, .bool Si.bad] rfl HZYb7.out)
     have hsi := setAll_since (g := gsb) [.slice qa1 qn1 qc1, .slice qb1 qm1 qf1, .bool Si.bad] Yb7 0
     have HS9b := qh (state_off HSYb7.out HZYb7.out hsi)
     have HY9b : Hid (Below Y9a.heap.size Y9a (setAll Yb7 gsb 0 [.slice qa1 qn1 qc1, .slice qb1 qm1 qf1, .bool Si.bad])) := (HYb8.out).trans (hsi.below (HYb8.out).size (fun k hk => by have := HGL.out; omega))
     clear hsi HGL
     go_simp
     clear d0 d1 d2 f0 f1 f2
     refine hK.out _ (setAll Yb7 gsb 0 [.slice qa1 qn1 qc1, .slice qb1 qm1 qf1, .bool Si.bad]) HY9b.out (fun _ => ?_)
     generalize setAll Yb7 gsb 0 _ = Y9b at HZ9b HS9b HY9b ⊢
     clear hK K
     refine qtk 13 19 ?vb30 rfl ?hyb30 (HY9b.out) ?_
     case hyb30 => (intro _ _; go_simp <;> rfl)
     simp only [Act.put, qz1, qz2, qz3]
     refine wpAnyH_done (by kernel_rfl) ?_ _
     refine NoPanic.normal ?_
     go_wp2_with fail
     go_meet
     case rel => exact ⟨gsb, qa1, qb1, qn1, qc1, qm1, qf1, rfl, rfl, HZ9b.out, HS9b.out, HY9b.out⟩
   case rest =>
    obtain ⟨gsb, qa1, qb1, qn1, qc1, qm1, qf1, rfl, rfl, HZ9b, HS9b, HY9b⟩ := hcut
    obtain ⟨Y9b, rfl⟩ : ∃ Y : World, Y = wc := ⟨_, rfl⟩
    have HZ9P := qh ((HY9b.out.block gsa (qlb HZ9a.out)).trans HZ9a.out)
    have HS9P := qh (HS9a.out.below HY9b.out)
    go_upto_region 11 with fail
    obtain ⟨si1, hsi1⟩ : ∃ b, b = Si.bad := ⟨_, rfl⟩
    rw [← hsi1] at HZ9b HZ9P
    have HSI := qh hsi1
    clear hsi1
    have t0 := qcb HZ9P.out 0
    have t1 := qcb HZ9P.out 1
    have t2 := qcb HZ9P.out 2
    have u0 := qcb HZ9b.out 0
    have u1 := qcb HZ9b.out 1
    have u2 := qcb HZ9b.out 2
    have HBE := qh (qbt HBR.out (qbt HY9a.out HY9b.out))
    go_wp2_with (go_at_call 17; go_must (refine (HSAME.out Y9b Si _ _ _ _ _ _ _ _ _ _ _ _ _ HSI.out HS9P.out HS9b.out).mono ?_); rintro e Z ⟨rfl, hb⟩; (have HBZ := qh (qbt HBE.out hb)); clear hb)
    go_roundg (q - (i + 1))
    case measure => rw [HG.out]; omega
    case rel => exact ⟨i + 1, by omega, rfl, by simp, HBZ.out⟩
end Go.Proofs.YtliajkheeniljaaGreatDoor
