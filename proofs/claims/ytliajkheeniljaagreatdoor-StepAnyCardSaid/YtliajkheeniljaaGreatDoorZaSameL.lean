/- What moves do in a state is what the document says: the walk. -/
import Derived.Test.YtliajkheeniljaaGreatDoorZaMoves
import Derived.Test.YtliajkheeniljaaGreatDoorZaPDo
import Derived.Test.YtliajkheeniljaaGreatDoorZaPMoves
import Derived.Test.YtliajkheeniljaaGreatDoorZaTail
import Derived.Test.YtliajkheeniljaaGreatDoorZaShort
set_option linter.all false
namespace Go.Proofs.YtliajkheeniljaaGreatDoor
open Go.RowKit
set_option maxRecDepth 100000
set_option maxHeartbeats 16000000
def zl1 (y:World) (S:zu) (er:Int) (e:Ending) (w':World):Prop:=(∃(a b:Option Addr) (n c k f:Nat),e= .returned (.tuple #[.agg #[.slice a n c, .slice b k f, .bool S.bad], .int .i64 er])/\zN w' S (.slice a n c) (.slice b k f))/\Below y.heap.size y w'
theorem zon (w:World) (c:zS) (cv:Value) (d:Nat) (hc:yF d w cv c.threads) (m:zM) (s:zu) (sv mv:Value) (hs:zN w s sv mv) (hb:∀j,j<s.threads.length->(s.threads.getD j default).buf.length<=100000) (x:zG):
  Calls Tryz.prog 16 #[yD c cv,yR m,zW s sv mv,gJ x] w fun e w'=>e= .returned (.bool true)/\Below w.heap.size w w':=by
 have hb6:∀j,j<s.threads.length->(s.threads.getD j default).buf.length<=1000000:=fun j hj=>by have:=hb j hj;omega
 have uw:=fun y (hy:Below w.heap.size w y) (x:zG)=>(zhG y c cv d (zl.below (xu.stays d) hc hy) m s sv mv (hs.below hy) hb6 x).mono (R':=zl1 y (vg c m s x d).1 (vg c m s x d).2) (by
  rintro e w' ⟨hb,xa,xn,xc,ya,yn,yc,rfl,hf⟩
  exact⟨⟨xa,ya,xn,xc,yn,yc,rfl,hf.now (hs.below hy)⟩,hb⟩)
 have uy:=fun y (hy:Below w.heap.size w y) (x:zG)=>(zug y c cv d (zl.below (xu.stays d) hc hy) m s sv mv (hs.below hy) hb x).mono (R':=zl1 y (vg c m s x d).1 (vg c m s x d).2) (by
  rintro e w' ⟨⟨xa,xn,xc,ya,yn,yc,bs,rfl,ho⟩,hb⟩
  exact⟨⟨xa,ya,xn,xc,yn,yc,rfl,ho.state _⟩,hb⟩)
 have uZ:=fun y (hy:Below w.heap.size w y)=>zd0 y c cv d (zl.below (xu.stays d) hc hy) m s sv mv (hs.below hy) hb6
 have bg:=fun y (hy:Below w.heap.size w y)=>zl2 y c cv d (zl.below (xu.stays d) hc hy) m s sv mv (hs.below hy) hb
 have bq:=fun y (hy:Below w.heap.size w y)=>zae y c cv d (zl.below (xu.stays d) hc hy) m s sv mv (hs.below hy) hb6
 have bA:=fun y (hy:Below w.heap.size w y)=>zcZ y c cv d (zl.below (xu.stays d) hc hy) m s sv mv (hs.below hy) hb6
 have hsame:∀y (S:zu) (a b a' b':Option Addr) (n c k f n' c' k' f':Nat) (bd:Bool),bd=S.bad->zN y S (.slice a n c) (.slice b k f)->zN y S (.slice a' n' c') (.slice b' k' f')->Calls Tryz.prog 17 #[.agg #[.slice a n c, .slice b k f, .bool bd], .agg #[.slice a' n' c', .slice b' k' f', .bool bd]] y fun e w'=>e= .returned (.bool true)/\Below y.heap.size y w':=fun y S a b a' b' n c k f n' c' k' f' bd hbd h1 h2=>by
  subst hbd
  have h:=zeX y S S _ _ _ _ h1 h2
  rw [decide_eq_true rfl] at h
  exact h
 have hok:∀x∈qL c m s d,(vg c m s x d).2=0:=fun x hx=>znI hx
 obtain⟨DS,hDS⟩:∃f,f=fun x=>(vg c m s x d).1:=⟨_,rfl⟩
 obtain⟨DE,hDE⟩:∃f,f=fun x=>(vg c m s x d).2:=⟨_,rfl⟩
 have e1:∀x,(vg c m s x d).1=DS x:=fun x=>by rw [hDS]
 have e2:∀x,(vg c m s x d).2=DE x:=fun x=>by rw [hDE]
 simp only [e1,e2] at uw uy hok
 obtain⟨ML,hML⟩:∃l,l=qL c m s d:=⟨_,rfl⟩
 rw [<-hML] at uZ bg hok
 obtain⟨fo,hfo⟩:∃b,b=xX c m s:=⟨_,rfl⟩
 rw [<-hfo] at bq bA
 clear hDS hDE e1 e2 hML hfo hb hb6
 obtain⟨ca,cc,rfl, -⟩:=zl.slice hc
 obtain⟨ta,xB,rfl, -⟩:=zl.slice hs.threads
 obtain⟨ma,yZ,rfl, -⟩:=zl.slice hs.mem
 clear hc hs
 unfold yD yR zW gJ at uw uy
 unfold yD yR zW at uZ bg bq bA
 unfold yD yR zW gJ
 generalize c.threads.length=cn at uw uy uZ bg bq bA ⊢
 generalize s.threads.length=n at uw uy uZ bg bq bA ⊢
 generalize s.mem.length=mn at uw uy uZ bg bq bA ⊢
 generalize s.bad=bad at uw uy uZ bg bq bA ⊢
 generalize c.vars=vars at uw uy uZ bg bq bA ⊢
 generalize c.domain=dom at uw uy uZ bg bq bA ⊢
 generalize m.model=mod at uw uy uZ bg bq bA ⊢
 generalize m.bound=bnd at uw uy uZ bg bq bA ⊢
 have hp1:=fun y hy=>uw y hy x
 have hr1:=fun y hy=>uy y hy x
 generalize DS x=S1 at hp1 hr1
 generalize DE x=E1 at hp1 hr1
 obtain⟨kd,th,vr⟩:=x
 simp only [] at hp1 hr1 ⊢
 have HL0:=qh ((((Loc.start w).alloc 24 [.int .i64 vars, .int .i64 dom, .slice ca cn cc]).alloc 26 [.int .i64 mod, .int .i64 bnd]).alloc 30 [.slice ta n xB, .slice ma mn yZ, .bool bad] |>.alloc 32 [.int .i64 kd, .int .i64 th, .int .i64 vr])
 obtain⟨hB,hx1,hx2,hx3,hx4, -⟩:=kM w (.cells #[.int .i64 vars, .int .i64 dom, .slice ca cn cc] 24) (.cells #[.int .i64 mod, .int .i64 bnd] 26) (.cells #[.slice ta n xB, .slice ma mn yZ, .bool bad] 30) (.cells #[.int .i64 kd, .int .i64 th, .int .i64 vr] 32)
 have HB:=qh hB
 have H1:=qh hx1
 have H2:=qh hx2
 have H3:=qh hx3
 have H4:=qh hx4
 have HP1:=qh hp1
 have HR1:=qh hr1
 have z2H:=qh uw
 have z2I:=qh uy
 have z2J:=qh uZ
 have z2K:=qh bg
 have z2L:=qh bq
 have z2M:=qh bA
 have zf3:=qh hsame
 have uh:=qh hok
 clear hB hx1 hx2 hx3 hx4 hp1 hr1 uw uy uZ bg bq bA hsame hok HL0
 go_enter Tryz.func16,Tryz.ntmps16
 go_upto_region 1 with fail
 generalize World.alloc (World.alloc (World.alloc (World.alloc w _) _) _) _=W at HB H1 H2 H3 H4 ⊢
 obtain⟨gx,hgx⟩:∃gx,gx=w.heap.size:=⟨_,rfl⟩
 rw [<-hgx] at H1 H2 H3 H4 ⊢
 clear hgx
 have yJ:Hid (∀y,Below W.heap.size W y->y.cell? ⟨gx,0,none⟩=some (.int .i64 vars)/\y.cell? ⟨gx,1,none⟩=some (.int .i64 dom)/\y.cell? ⟨gx,2,none⟩=some (.slice ca cn cc)/\
   y.cell? ⟨gx+1,0,none⟩=some (.int .i64 mod)/\y.cell? ⟨gx+1,1,none⟩=some (.int .i64 bnd)/\y.cell? ⟨gx+2,0,none⟩=some (.slice ta n xB)/\y.cell? ⟨gx+2,1,none⟩=some (.slice ma mn yZ)/\y.cell? ⟨gx+2,2,none⟩=some (.bool bad)/\
   y.cell? ⟨gx+3,0,none⟩=some (.int .i64 kd)/\y.cell? ⟨gx+3,1,none⟩=some (.int .i64 th)/\y.cell? ⟨gx+3,2,none⟩=some (.int .i64 vr)):=fun y hx=>
  ⟨zm hx _ _ (zh H1.out 0),zm hx _ _ (zh H1.out 1),zm hx _ _ (zh H1.out 2),zm hx _ _ (zh H2.out 0),zm hx _ _ (zh H2.out 1),zm hx _ _ (zh H3.out 0),zm hx _ _ (zh H3.out 1),zm hx _ _ (zh H3.out 2),zm hx _ _ (zh H4.out 0),zm hx _ _ (zh H4.out 1),zm hx _ _ (zh H4.out 2)⟩
 have yu:Hid (∀y,Below W.heap.size W y->Below w.heap.size w y):=fun y hy=>HB.out.trans (hy.mono HB.out.size)
 clear H1 H2 H3 H4
 obtain⟨c0,c1,c2,c3,c4,c5,c6,c7,c8,c9,c10⟩:=yJ.out W (Below.refl _ _)
 go_upto_region 2 with(go_at_call 25;go_must(refine(HP1.out W HB.out).mono ?_);rintro e X1 ⟨⟨a1,b1,n1,k1,m1,f1,rfl,hs⟩,hb⟩;(have qF:=qh hs);(have bZ:=qh hb);clear hs hb)
 have hbx:=bZ.out.alloc bZ.out.size (.cells #[.slice a1 n1 k1, .slice b1 m1 f1, .bool S1.bad] 30)
 have pz:=qh (yK X1 (.cells #[.slice a1 n1 k1, .slice b1 m1 f1, .bool S1.bad] 30))
 have HS2:=qh (qF.out.below ((Below.refl X1.heap.size X1).alloc (Nat.le_refl _) (.cells #[.slice a1 n1 k1, .slice b1 m1 f1, .bool S1.bad] 30)))
 have HX2:=qh hbx
 clear hbx qF bZ HP1 c0 c1 c2 c3 c4 c5 c6 c7 c8 c9 c10
 generalize World.alloc X1 _=X2 at pz HS2 HX2 ⊢
 generalize X1.heap.size=g1 at pz ⊢
 obtain⟨c0,c1,c2,c3,c4,c5,c6,c7,c8,c9,c10⟩:=yJ.out X2 HX2.out
 go_upto_region 3 with(go_at_call 37;go_must(refine(HR1.out X2 (yu.out X2 HX2.out)).mono ?_);rintro e X3 ⟨⟨a2,b2,n2,k2,m2,f2,rfl,hs⟩,hb⟩;(have kg:=qh hs);(have HX3:=qh hb);clear hs hb)
 have hbx:=HX3.out.alloc HX3.out.size (.cells #[.slice a2 n2 k2, .slice b2 m2 f2, .bool S1.bad] 30)
 have HG2:=qh (yK X3 (.cells #[.slice a2 n2 k2, .slice b2 m2 f2, .bool S1.bad] 30))
 have HS4:=qh (kg.out.below ((Below.refl X3.heap.size X3).alloc (Nat.le_refl _) (.cells #[.slice a2 n2 k2, .slice b2 m2 f2, .bool S1.bad] 30)))
 have jk:=qh ((hbx.block g1 (zJ pz.out)).trans pz.out)
 have HS5:=qh (HS2.out.below hbx)
 have HX4:=qh (zB HX2.out hbx)
 clear hbx kg HX3 HX2 HS2 pz HR1 c0 c1 c2 c3 c4 c5 c6 c7 c8 c9 c10
 generalize World.alloc X3 _=X4 at HG2 HS4 jk HS5 HX4 ⊢
 generalize X3.heap.size=g2 at HG2 ⊢
 have HC4:Hid (∀y,Below X4.heap.size X4 y->y.cell? ⟨gx,0,none⟩=some (.int .i64 vars)/\y.cell? ⟨gx,1,none⟩=some (.int .i64 dom)/\y.cell? ⟨gx,2,none⟩=some (.slice ca cn cc)/\y.cell? ⟨gx+1,0,none⟩=some (.int .i64 mod)/\y.cell? ⟨gx+1,1,none⟩=some (.int .i64 bnd)/\y.cell? ⟨gx+2,0,none⟩=some (.slice ta n xB)/\y.cell? ⟨gx+2,1,none⟩=some (.slice ma mn yZ)/\y.cell? ⟨gx+2,2,none⟩=some (.bool bad)):=fun y hy=>by
  obtain⟨p0,p1,p2,p3,p4,p5,p6,p7,p8,p9,p10⟩:=yJ.out y (zB HX4.out hy)
  exact⟨p0,p1,p2,p3,p4,p5,p6,p7⟩
 refine wp_region_noPanic ?_
 refine wp_region_held_drew (S:=fun x=>Below X4.heap.size X4 x) (by kernel_rfl) ((Below.refl _ _).drew) (fun hH=> ?_)
 refine zo 0 36 ?vh1 rfl ?kr ?_
 case kr=>(intro x h;have e:=HC4.out x h;go_simp<;>rfl)
 simp only [Act.put,za,ze,zf]
 refine zo 1 37 ?vh2 rfl ?ku ?_
 case ku=>(intro x h;have e:=HC4.out x h;go_simp<;>rfl)
 simp only [Act.put,za,ze,zf]
 refine zo 2 38 ?vh3 rfl ?kC ?_
 case kC=>(intro x h;have e:=HC4.out x h;go_simp<;>rfl)
 simp only [Act.put,za,ze,zf]
 refine zo 4 40 ?vh4 rfl ?kD ?_
 case kD=>(intro x h;have e:=HC4.out x h;go_simp<;>rfl)
 simp only [Act.put,za,ze,zf]
 refine zo 5 41 ?vh5 rfl ?kE ?_
 case kE=>(intro x h;have e:=HC4.out x h;go_simp<;>rfl)
 simp only [Act.put,za,ze,zf]
 refine zo 6 42 ?vh6 rfl ?kF ?_
 case kF=>(intro x h;have e:=HC4.out x h;go_simp<;>rfl)
 simp only [Act.put,za,ze,zf]
 refine zT 3 rfl (fun K hK=> ?_)
 go_simp
 refine(z2J.out X4.drew (yu.out _ (zB HX4.out hH))).mono ?_
 rintro e hw3 ⟨⟨ma1,mc1,rfl,hrw⟩,hb⟩
 have hm1:=qh (zcW hrw)
 clear hrw
 have za0:Below X4.heap.size X4 hw3:=zB hH hb
 refine hK.out _ _ za0 (fun _=> ?_)
 clear hK K hb hH
 refine zT 7 rfl (fun K hK=> ?_)
 go_simp
 refine(z2K.out hw3 (yu.out _ (zB HX4.out za0))).mono ?_
 rintro e hw7 ⟨⟨ma2,mc2,rfl,hrw⟩,hb⟩
 have HM2:=qh (zcW hrw)
 have HM1:=qh (zl.below zak.stays hm1.out hb)
 clear hrw hm1
 have wH:Below X4.heap.size X4 hw7:=zB za0 hb
 refine hK.out _ _ wH (fun _=> ?_)
 clear hK K hb za0
 refine zo 8 13 ?vh7 rfl ?kG ?_
 case kG=>(intro x h;have e:=HC4.out x h;go_simp<;>rfl)
 simp only [Act.put,za,ze,zf]
 refine zo 9 14 ?vh8 rfl ?kH ?_
 case kH=>(intro x h;have e:=HC4.out x h;go_simp<;>rfl)
 simp only [Act.put,za,ze,zf]
 refine wpAnyH_done (by kernel_rfl) ?_ _
 refine NoPanic.normal ?_
 have HX5:=qh (wH)
 obtain⟨X5,hX5⟩:∃X5,X5=hw7:=⟨_,rfl⟩
 rw [<-hX5] at HX5 HM1 HM2 ⊢
 clear hX5
 have zgt:=qh (zB HX4.out HX5.out)
 have zul:=qh (HS5.out.below HX5.out)
 have zum:=qh (HS4.out.below HX5.out)
 obtain⟨sb1,hsb⟩:∃b,b=S1.bad:=⟨_,rfl⟩
 rw [<-hsb] at HG2 jk
 have HSB:=qh hsb
 clear hsb
 have kN:Hid (∀y,Below X5.heap.size X5 y->y.cell? ⟨gx,0,none⟩=some (.int .i64 vars)/\y.cell? ⟨gx,1,none⟩=some (.int .i64 dom)/\y.cell? ⟨gx,2,none⟩=some (.slice ca cn cc)/\y.cell? ⟨gx+1,0,none⟩=some (.int .i64 mod)/\y.cell? ⟨gx+1,1,none⟩=some (.int .i64 bnd)/\y.cell? ⟨gx+2,0,none⟩=some (.slice ta n xB)/\y.cell? ⟨gx+2,1,none⟩=some (.slice ma mn yZ)/\y.cell? ⟨gx+2,2,none⟩=some (.bool bad)/\y.cell? ⟨g1,0,none⟩=some (.slice a1 n1 k1)/\y.cell? ⟨g1,1,none⟩=some (.slice b1 m1 f1)/\y.cell? ⟨g1,2,none⟩=some (.bool sb1)/\y.cell? ⟨g2,0,none⟩=some (.slice a2 n2 k2)/\y.cell? ⟨g2,1,none⟩=some (.slice b2 m2 f2)/\y.cell? ⟨g2,2,none⟩=some (.bool sb1)):=fun y hy=>by
  obtain⟨p0,p1,p2,p3,p4,p5,p6,p7,p8,p9,p10⟩:=yJ.out y (zB zgt.out hy)
  exact⟨p0,p1,p2,p3,p4,p5,p6,p7,zm (zB HX5.out hy) _ _ (zh jk.out 0),zm (zB HX5.out hy) _ _ (zh jk.out 1),zm (zB HX5.out hy) _ _ (zh jk.out 2),zm (zB HX5.out hy) _ _ (zh HG2.out 0),zm (zB HX5.out hy) _ _ (zh HG2.out 1),zm (zB HX5.out hy) _ _ (zh HG2.out 2)⟩
 clear HS5 HS4 HG2 jk HC4 HX5
 have hne1:((E1:Int) !=E1)=false:=by simp
 have hne2:((fo:Bool) !=fo)=false:=by simp
 go_upto_region 4 with fail
 refine wp_region_noPanic ?_
 refine wp_region_held_drew (S:=fun x=>Below X5.heap.size X5 x) (by kernel_rfl) ((Below.refl _ _).drew) (fun kK=> ?_)
 refine zo 0 44 ?vk1 rfl ?z2N ?_
 case z2N=>(intro x h;have e:=kN.out x h;go_simp<;>rfl)
 simp only [Act.put,za,ze,zf]
 refine zo 1 45 ?vk2 rfl ?z2O ?_
 case z2O=>(intro x h;have e:=kN.out x h;go_simp<;>rfl)
 simp only [Act.put,za,ze,zf]
 refine zT 2 rfl (fun K hK=> ?_)
 go_simp
 refine(zf3.out X5.drew S1 _ _ _ _ _ _ _ _ _ _ _ _ _ HSB.out (zul.out.below kK) (zum.out.below kK)).mono ?_
 rintro e kw2 ⟨rfl,hb⟩
 have zgu:Below X5.heap.size X5 kw2:=zB kK hb
 refine hK.out _ _ zgu (fun _=> ?_)
 clear hK K hb kK
 refine zo 3 47 ?vk3 rfl ?z2P ?_
 case z2P=>(intro x h;have e:=kN.out x h;go_simp<;>rfl)
 simp only [Act.put,za,ze,zf]
 refine zo 4 48 ?vk4 rfl ?z2Q ?_
 case z2Q=>(intro x h;have e:=kN.out x h;go_simp<;>rfl)
 simp only [Act.put,za,ze,zf]
 refine zo 5 49 ?vk5 rfl ?z2R ?_
 case z2R=>(intro x h;have e:=kN.out x h;go_simp<;>rfl)
 simp only [Act.put,za,ze,zf]
 refine zo 6 50 ?vk6 rfl ?z2S ?_
 case z2S=>(intro x h;have e:=kN.out x h;go_simp<;>rfl)
 simp only [Act.put,za,ze,zf]
 refine zo 7 51 ?vk7 rfl ?z2T ?_
 case z2T=>(intro x h;have e:=kN.out x h;go_simp<;>rfl)
 simp only [Act.put,za,ze,zf]
 refine zo 8 52 ?vk8 rfl ?z2U ?_
 case z2U=>(intro x h;have e:=kN.out x h;go_simp<;>rfl)
 simp only [Act.put,za,ze,zf]
 refine zo 9 53 ?vk9 rfl ?z2V ?_
 case z2V=>(intro x h;have e:=kN.out x h;go_simp<;>rfl)
 simp only [Act.put,za,ze,zf]
 refine zo 10 54 ?zBA rfl ?zxk ?_
 case zxk=>(intro x h;have e:=kN.out x h;go_simp<;>rfl)
 simp only [Act.put,za,ze,zf]
 refine zo 11 55 ?zBB rfl ?zxl ?_
 case zxl=>(intro x h;have e:=kN.out x h;go_simp<;>rfl)
 simp only [Act.put,za,ze,zf]
 refine zT 12 rfl (fun K hK=> ?_)
 go_simp
 refine(zl4 kw2 _ _ ML (zl.below zak.stays HM1.out zgu) (zl.below zak.stays HM2.out zgu)).mono ?_
 rintro e zuo ⟨rfl,hb⟩
 have zf4:Below X5.heap.size X5 zuo:=zB zgu hb
 refine hK.out _ _ zf4 (fun _=> ?_)
 clear hK K hb zgu
 refine zo 13 57 ?zBC rfl ?zxm ?_
 case zxm=>(intro x h;have e:=kN.out x h;go_simp<;>rfl)
 simp only [Act.put,za,ze,zf]
 refine zo 14 58 ?zBD rfl ?zxn ?_
 case zxn=>(intro x h;have e:=kN.out x h;go_simp<;>rfl)
 simp only [Act.put,za,ze,zf]
 refine zo 15 59 ?zBE rfl ?zxo ?_
 case zxo=>(intro x h;have e:=kN.out x h;go_simp<;>rfl)
 simp only [Act.put,za,ze,zf]
 refine zo 16 60 ?zBF rfl ?zxp ?_
 case zxp=>(intro x h;have e:=kN.out x h;go_simp<;>rfl)
 simp only [Act.put,za,ze,zf]
 refine zo 17 61 ?zBG rfl ?zxq ?_
 case zxq=>(intro x h;have e:=kN.out x h;go_simp<;>rfl)
 simp only [Act.put,za,ze,zf]
 refine zo 18 62 ?zBH rfl ?zxr ?_
 case zxr=>(intro x h;have e:=kN.out x h;go_simp<;>rfl)
 simp only [Act.put,za,ze,zf]
 refine zo 20 64 ?zBI rfl ?zxs ?_
 case zxs=>(intro x h;have e:=kN.out x h;go_simp<;>rfl)
 simp only [Act.put,za,ze,zf]
 refine zo 21 65 ?zBJ rfl ?zxt ?_
 case zxt=>(intro x h;have e:=kN.out x h;go_simp<;>rfl)
 simp only [Act.put,za,ze,zf]
 refine zo 22 66 ?zBK rfl ?zxu ?_
 case zxu=>(intro x h;have e:=kN.out x h;go_simp<;>rfl)
 simp only [Act.put,za,ze,zf]
 refine zT 19 rfl (fun K hK=> ?_)
 go_simp
 refine(z2L.out zuo (yu.out _ (zB zgt.out zf4))).mono ?_
 rintro e zup ⟨rfl,hb⟩
 have zf5:Below X5.heap.size X5 zup:=zB zf4 hb
 refine hK.out _ _ zf5 (fun _=> ?_)
 clear hK K hb zf4
 refine zT 23 rfl (fun K hK=> ?_)
 go_simp
 refine(z2M.out zup (yu.out _ (zB zgt.out zf5))).mono ?_
 rintro e zuq ⟨rfl,hb⟩
 have ziZ:Below X5.heap.size X5 zuq:=zB zf5 hb
 refine hK.out _ _ ziZ (fun _=> ?_)
 clear hK K hb zf5
 refine zo 24 68 ?zBL rfl ?zxv ?_
 case zxv=>(intro x h;have e:=kN.out x h;go_simp<;>rfl)
 simp only [Act.put,za,ze,zf]
 refine zo 25 69 ?zBM rfl ?zxw ?_
 case zxw=>(intro x h;have e:=kN.out x h;go_simp<;>rfl)
 simp only [Act.put,za,ze,zf]
 refine wpAnyH_done (by kernel_rfl) ?_ _
 refine NoPanic.normal ?_
 have HX6:=qh (zB zgt.out ziZ)
 have zus:=qh (ziZ)
 obtain⟨X6,hX6⟩:∃X6,X6=zuq:=⟨_,rfl⟩
 rw [<-hX6] at HX6 zus ⊢
 clear hX6
 have HMS:Hid (jl X6 (.slice ma2 ML.length mc2) ML):=zl.below zak.stays HM2.out zus.out
 obtain⟨q,hq⟩:∃q,q=ML.length:=⟨_,rfl⟩
 rw [<-hq] at HMS ⊢
 have HQ:=qh hq
 have hqm:q<=9223372036854775807:=by obtain⟨a,cap,e,h, -⟩:=HMS.out;omega
 clear hq hne1 hne2 HM1 HM2 kN zul zum zgt
 go_wp2_with fail
 go_loopg [15] q (fun gg s15 wr=>∃i:Nat,i<=q/\Hid (gg=q - i)/\s15= .int .i64 i/\Hid (Below X6.heap.size X6 wr))
 case atStart=>exact⟨0,Nat.zero_le _,rfl,rfl,Below.refl _ _⟩
 case round=>
  obtain⟨i,hi,HG,rfl,zX⟩:=hrel
  obtain⟨wo,rfl⟩:∃wo:World,wo=wr:=⟨_,rfl⟩
  by_cases hlt:i<q
  rotate_left
  ·obtain rfl:q=i:=by omega
   have yT:Hid (Below w.heap.size w wo):=yu.out wo (zB HX6.out zX.out)
   go_wp2_with fail
   go_ret
   exact⟨rfl,yT.out⟩
  have qg:(i:Int)<(q:Int):=by omega
  obtain⟨mb,mo,hma, -,x0,x1,x2⟩:=jl.part HMS.out i (by rw [<-HQ.out];exact hlt)
  subst hma
  have hmem:ML.getD i default∈ML:=jB (by rw [<-HQ.out];exact hlt)
  have hp:=fun y hy=>z2H.out y hy (ML.getD i default)
  have hr:=fun y hy=>z2I.out y hy (ML.getD i default)
  have hk:=uh.out _ hmem
  generalize DE (ML.getD i default)=Ei at hp hr hk
  subst hk
  generalize DS (ML.getD i default)=Si at hp hr
  generalize ML.getD i default=xi at x0 x1 x2 hp hr
  obtain⟨ki,ti,vi⟩:=xi
  simp only [] at x0 x1 x2 hp hr
  have HPI:=qh hp
  have HRI:=qh hr
  have xC:=qh (zB HX6.out zX.out)
  replace x0:=zm zX.out _ _ x0
  replace x1:=zm zX.out _ _ x1
  replace x2:=zm zX.out _ _ x2
  have HC9:Hid (∀y,Below wo.heap.size wo y->y.cell? ⟨gx,0,none⟩=some (.int .i64 vars)/\y.cell? ⟨gx,1,none⟩=some (.int .i64 dom)/\y.cell? ⟨gx,2,none⟩=some (.slice ca cn cc)/\y.cell? ⟨gx+1,0,none⟩=some (.int .i64 mod)/\y.cell? ⟨gx+1,1,none⟩=some (.int .i64 bnd)/\y.cell? ⟨gx+2,0,none⟩=some (.slice ta n xB)/\y.cell? ⟨gx+2,1,none⟩=some (.slice ma mn yZ)/\y.cell? ⟨gx+2,2,none⟩=some (.bool bad)/\y.cell? ⟨mb,mo+i*3,none⟩=some (.int .i64 ki)/\y.cell? ⟨mb,mo+i*3+1,none⟩=some (.int .i64 ti)/\y.cell? ⟨mb,mo+i*3+2,none⟩=some (.int .i64 vi)):=fun y hy=>by
   obtain⟨p0,p1,p2,p3,p4,p5,p6,p7,p8,p9,p10⟩:=yJ.out y (zB xC.out hy)
   exact⟨p0,p1,p2,p3,p4,p5,p6,p7,zm hy _ _ x0,zm hy _ _ x1,zm hy _ _ x2⟩
  clear x0 x1 x2 hp hr hmem
  go_upto_region 9 with fail
  go_cut [16,17] (fun s16 s17 w'=>∃(g:Nat) (a b:Option Addr) (n c k f:Nat),s16= .pointer (some ⟨g,0,none⟩)/\s17= .int .i64 0/\Hid (w'.heap[g]? =some (.cells #[.slice a n c, .slice b k f, .bool Si.bad] 30 (0,0)))/\Hid (zN w' Si (.slice a n c) (.slice b k f))/\Hid (Below wo.heap.size wo w'))
  case first=>
   refine wp_region_noPanic ?_
   refine wp_region_held_drew (S:=fun x=>Below wo.heap.size wo x) (by kernel_rfl) (Below.refl _ _).drew (fun _=> ?_)
   obtain⟨V1a,hV1⟩:∃V1,V1=wo.drew:=⟨_,rfl⟩
   have pK:Hid (Below wo.heap.size wo V1a):=by rw [hV1];exact(Below.refl _ _).drew
   rw [<-hV1]
   clear hV1
   refine zA 0 77 ?va1 rfl ?zn7 (pK.out) ?_
   case zn7=>(intro x h;have e:=HC9.out x h;go_simp<;>rfl)
   simp only [Act.put,za,ze,zf]
   refine zA 1 78 ?va2 rfl ?zn8 (pK.out) ?_
   case zn8=>(intro x h;have e:=HC9.out x h;go_simp<;>rfl)
   simp only [Act.put,za,ze,zf]
   refine zA 2 79 ?va3 rfl ?zn9 (pK.out) ?_
   case zn9=>(intro x h;have e:=HC9.out x h;go_simp<;>rfl)
   simp only [Act.put,za,ze,zf]
   refine zA 3 80 ?va4 rfl ?znA (pK.out) ?_
   case znA=>(intro _ _;go_simp<;>rfl)
   simp only [Act.put,za,ze,zf]
   refine zA 4 81 ?va5 rfl ?znB (pK.out) ?_
   case znB=>(intro _ _;go_simp<;>rfl)
   simp only [Act.put,za,ze,zf]
   refine zA 5 82 ?va6 rfl ?znC (pK.out) ?_
   case znC=>(intro _ _;go_simp<;>rfl)
   simp only [Act.put,za,ze,zf]
   refine zA 6 83 ?va7 rfl ?znD (pK.out) ?_
   case znD=>(intro x h;have e:=HC9.out x h;go_simp<;>rfl)
   simp only [Act.put,za,ze,zf]
   refine wpAnyH_ready (rs:= [7,11]) (by kernel_rfl) (by simp) ?_
   refine AllReadyH.cons rfl (fun K hK=> ?_) (AllReadyH.cons rfl (fun K hK=> ?_) AllReadyH.nil)
   ·skip
    go_simp
    refine(HPI.out V1a (yu.out _ (zB xC.out pK.out))).mono ?_
    rintro e Ya1 ⟨⟨pa1,pb1,pn1,pc1,pm1,pf1,rfl,hs⟩,hb⟩
    have zxx:=qh hs
    have uX:=qh (zB pK.out hb)
    clear hs hb
    refine hK.out _ _ uX.out (fun _=> ?_)
    clear hK K
    refine zA 8 76 ?va8 rfl ?znE (uX.out) ?_
    case znE=>(intro _ _;go_simp<;>rfl)
    simp only [Act.put,za,ze,zf]
    refine zA 9 85 ?va9 rfl ?znF (uX.out) ?_
    case znF=>(intro _ _;go_simp<;>rfl)
    simp only [Act.put,za,ze,zf]
    refine zA 10 86 ?z2h rfl ?zi8 (uX.out) ?_
    case zi8=>(intro _ _;go_simp<;>rfl)
    simp only [Act.put,za,ze,zf]
    refine zT 11 rfl (fun K hK=> ?_)
    go_simp
    have hz:=yK Ya1 (.cells #[.slice none 0 0, .slice none 0 0, .bool false] 30)
    have hb:=(Below.refl Ya1.heap.size Ya1).alloc (Nat.le_refl _) (.cells #[.slice none 0 0, .slice none 0 0, .bool false] 30)
    have jv:Hid (wo.heap.size<=Ya1.heap.size):=(uX.out).size
    have zpO:=qh (zxx.out.below hb)
    have pF:=qh (zB uX.out hb)
    clear hb
    refine hK.out _ _ pF.out (fun _=> ?_)
    obtain⟨gsa,hgs⟩:∃g,g=Ya1.heap.size:=⟨_,rfl⟩
    rw [<-hgs] at hz jv ⊢
    clear hgs
    generalize World.alloc Ya1 _=Ya3 at hz zpO pF ⊢
    have zal:=qh hz
    clear hz
    clear hK K
    refine zT 12 rfl (fun K hK=> ?_)
    have d0:=zh zal.out 0
    have d1:=zh zal.out 1
    have d2:=zh zal.out 2
    have f0:=zK zal.out 0
    have f1:=zK zal.out 1
    have f2:=zK zal.out 2
    have zca:=qh (qX (cs:= [.slice none 0 0, .slice none 0 0, .bool false]) [.slice pa1 pn1 pc1, .slice pb1 pm1 pf1, .bool Si.bad] rfl zal.out)
    have hsi:=xK (g:=gsa) [.slice pa1 pn1 pc1, .slice pb1 pm1 pf1, .bool Si.bad] Ya3 0
    have zda:=qh (kJ zpO.out zal.out hsi)
    have kP:Hid (Below wo.heap.size wo (zU Ya3 gsa 0 [.slice pa1 pn1 pc1, .slice pb1 pm1 pf1, .bool Si.bad])):=(pF.out).trans (hsi.below (pF.out).size (fun k hk=>by have:=jv.out;omega))
    clear hsi jv
    go_simp
    clear d0 d1 d2 f0 f1 f2
    refine hK.out _ (zU Ya3 gsa 0 [.slice pa1 pn1 pc1, .slice pb1 pm1 pf1, .bool Si.bad]) kP.out (fun _=> ?_)
    generalize zU Ya3 gsa 0 _=uO at zca zda kP ⊢
    clear hK K
    refine zA 13 17 ?z2i rfl ?zi9 (kP.out) ?_
    case zi9=>(intro _ _;go_simp<;>rfl)
    simp only [Act.put,za,ze,zf]
    refine wpAnyH_done (by kernel_rfl) ?_ _
    refine NoPanic.normal ?_
    go_wp2_with fail
    go_meet
    case rel=>exact⟨gsa,pa1,pb1,pn1,pc1,pm1,pf1,rfl,rfl,zca.out,zda.out,kP.out⟩
   ·skip
    go_simp
    have hz:=yK V1a (.cells #[.slice none 0 0, .slice none 0 0, .bool false] 30)
    have hb:=(Below.refl V1a.heap.size V1a).alloc (Nat.le_refl _) (.cells #[.slice none 0 0, .slice none 0 0, .bool false] 30)
    have jv:Hid (wo.heap.size<=V1a.heap.size):=(pK.out).size
    have zaW:=qh (zB pK.out hb)
    clear hb
    refine hK.out _ _ zaW.out (fun _=> ?_)
    obtain⟨gsa,hgs⟩:∃g,g=V1a.heap.size:=⟨_,rfl⟩
    rw [<-hgs] at hz jv ⊢
    clear hgs
    generalize World.alloc V1a _=Ya5 at hz zaW ⊢
    have gq:=qh hz
    clear hz
    clear hK K
    refine zT 7 rfl (fun K hK=> ?_)
    go_simp
    refine(HPI.out Ya5 (yu.out _ (zB xC.out zaW.out))).mono ?_
    rintro e Ya7 ⟨⟨pa1,pb1,pn1,pc1,pm1,pf1,rfl,hs⟩,hb⟩
    have gy:=qh ((hb.block gsa (zJ gq.out)).trans gq.out)
    have zxy:=qh hs
    have pG:=qh (zB zaW.out hb)
    clear hs hb
    refine hK.out _ _ pG.out (fun _=> ?_)
    clear hK K
    refine zA 8 76 ?z2j rfl ?ziA (pG.out) ?_
    case ziA=>(intro _ _;go_simp<;>rfl)
    simp only [Act.put,za,ze,zf]
    refine zA 9 85 ?z2m rfl ?ziD (pG.out) ?_
    case ziD=>(intro _ _;go_simp<;>rfl)
    simp only [Act.put,za,ze,zf]
    refine zA 10 86 ?z2n rfl ?ziE (pG.out) ?_
    case ziE=>(intro _ _;go_simp<;>rfl)
    simp only [Act.put,za,ze,zf]
    refine zT 12 rfl (fun K hK=> ?_)
    have d0:=zh gy.out 0
    have d1:=zh gy.out 1
    have d2:=zh gy.out 2
    have f0:=zK gy.out 0
    have f1:=zK gy.out 1
    have f2:=zK gy.out 2
    have zca:=qh (qX (cs:= [.slice none 0 0, .slice none 0 0, .bool false]) [.slice pa1 pn1 pc1, .slice pb1 pm1 pf1, .bool Si.bad] rfl gy.out)
    have hsi:=xK (g:=gsa) [.slice pa1 pn1 pc1, .slice pb1 pm1 pf1, .bool Si.bad] Ya7 0
    have zda:=qh (kJ zxy.out gy.out hsi)
    have kP:Hid (Below wo.heap.size wo (zU Ya7 gsa 0 [.slice pa1 pn1 pc1, .slice pb1 pm1 pf1, .bool Si.bad])):=(pG.out).trans (hsi.below (pG.out).size (fun k hk=>by have:=jv.out;omega))
    clear hsi jv
    go_simp
    clear d0 d1 d2 f0 f1 f2
    refine hK.out _ (zU Ya7 gsa 0 [.slice pa1 pn1 pc1, .slice pb1 pm1 pf1, .bool Si.bad]) kP.out (fun _=> ?_)
    generalize zU Ya7 gsa 0 _=uO at zca zda kP ⊢
    clear hK K
    refine zA 13 17 ?z2o rfl ?ziF (kP.out) ?_
    case ziF=>(intro _ _;go_simp<;>rfl)
    simp only [Act.put,za,ze,zf]
    refine wpAnyH_done (by kernel_rfl) ?_ _
    refine NoPanic.normal ?_
    go_wp2_with fail
    go_meet
    case rel=>exact⟨gsa,pa1,pb1,pn1,pc1,pm1,pf1,rfl,rfl,zca.out,zda.out,kP.out⟩
  case rest=>
   obtain⟨gsa,pa1,pb1,pn1,pc1,pm1,pf1,rfl,rfl,zca,zda,kP⟩:=hcut
   obtain⟨uO,rfl⟩:∃Y:World,Y=wc:=⟨_,rfl⟩
   obtain⟨-, -, -, -, -, -, -, -,x0',x1',x2'⟩:=HC9.out wo (Below.refl _ _)
   have zja:Hid (∀y,Below uO.heap.size uO y->y.cell? ⟨gx,0,none⟩=some (.int .i64 vars)/\y.cell? ⟨gx,1,none⟩=some (.int .i64 dom)/\y.cell? ⟨gx,2,none⟩=some (.slice ca cn cc)/\y.cell? ⟨gx+1,0,none⟩=some (.int .i64 mod)/\y.cell? ⟨gx+1,1,none⟩=some (.int .i64 bnd)/\y.cell? ⟨gx+2,0,none⟩=some (.slice ta n xB)/\y.cell? ⟨gx+2,1,none⟩=some (.slice ma mn yZ)/\y.cell? ⟨gx+2,2,none⟩=some (.bool bad)/\y.cell? ⟨mb,mo+i*3,none⟩=some (.int .i64 ki)/\y.cell? ⟨mb,mo+i*3+1,none⟩=some (.int .i64 ti)/\y.cell? ⟨mb,mo+i*3+2,none⟩=some (.int .i64 vi)):=fun y hy=>by
    obtain⟨p0,p1,p2,p3,p4,p5,p6,p7,p8,p9,p10⟩:=yJ.out y (zB (zB xC.out kP.out) hy)
    exact⟨p0,p1,p2,p3,p4,p5,p6,p7,zm (zB kP.out hy) _ _ x0',zm (zB kP.out hy) _ _ x1',zm (zB kP.out hy) _ _ x2'⟩
   clear x0' x1' x2'
   clear HC9
   go_upto_region 10 with fail
   go_cut [18,19] (fun s18 s19 w'=>∃(g:Nat) (a b:Option Addr) (n c k f:Nat),s18= .pointer (some ⟨g,0,none⟩)/\s19= .int .i64 0/\Hid (w'.heap[g]? =some (.cells #[.slice a n c, .slice b k f, .bool Si.bad] 30 (0,0)))/\Hid (zN w' Si (.slice a n c) (.slice b k f))/\Hid (Below uO.heap.size uO w'))
   case first=>
    refine wp_region_noPanic ?_
    refine wp_region_held_drew (S:=fun x=>Below uO.heap.size uO x) (by kernel_rfl) (Below.refl _ _).drew (fun _=> ?_)
    obtain⟨V1b,hV1⟩:∃V1,V1=uO.drew:=⟨_,rfl⟩
    have jD:Hid (Below uO.heap.size uO V1b):=by rw [hV1];exact(Below.refl _ _).drew
    rw [<-hV1]
    clear hV1
    refine zA 0 88 ?zBN rfl ?zxz (jD.out) ?_
    case zxz=>(intro x h;have e:=zja.out x h;go_simp<;>rfl)
    simp only [Act.put,za,ze,zf]
    refine zA 1 89 ?zBO rfl ?zx0 (jD.out) ?_
    case zx0=>(intro x h;have e:=zja.out x h;go_simp<;>rfl)
    simp only [Act.put,za,ze,zf]
    refine zA 2 90 ?zBP rfl ?zx1 (jD.out) ?_
    case zx1=>(intro x h;have e:=zja.out x h;go_simp<;>rfl)
    simp only [Act.put,za,ze,zf]
    refine zA 3 91 ?zBQ rfl ?zx2 (jD.out) ?_
    case zx2=>(intro _ _;go_simp<;>rfl)
    simp only [Act.put,za,ze,zf]
    refine zA 4 92 ?zBR rfl ?zx3 (jD.out) ?_
    case zx3=>(intro _ _;go_simp<;>rfl)
    simp only [Act.put,za,ze,zf]
    refine zA 5 93 ?zBS rfl ?zx4 (jD.out) ?_
    case zx4=>(intro _ _;go_simp<;>rfl)
    simp only [Act.put,za,ze,zf]
    refine zA 6 94 ?zBT rfl ?zx5 (jD.out) ?_
    case zx5=>(intro x h;have e:=zja.out x h;go_simp<;>rfl)
    simp only [Act.put,za,ze,zf]
    refine wpAnyH_ready (rs:= [7,11]) (by kernel_rfl) (by simp) ?_
    refine AllReadyH.cons rfl (fun K hK=> ?_) (AllReadyH.cons rfl (fun K hK=> ?_) AllReadyH.nil)
    ·skip
     go_simp
     refine(HRI.out V1b (yu.out _ (zB xC.out (zB kP.out jD.out)))).mono ?_
     rintro e Yb1 ⟨⟨qa1,qb1,qn1,qc1,qm1,qf1,rfl,hs⟩,hb⟩
     have zx6:=qh hs
     have zew:=qh (zB jD.out hb)
     clear hs hb
     refine hK.out _ _ zew.out (fun _=> ?_)
     clear hK K
     refine zA 8 87 ?zBU rfl ?zx7 (zew.out) ?_
     case zx7=>(intro _ _;go_simp<;>rfl)
     simp only [Act.put,za,ze,zf]
     refine zA 9 96 ?zBV rfl ?zx8 (zew.out) ?_
     case zx8=>(intro _ _;go_simp<;>rfl)
     simp only [Act.put,za,ze,zf]
     refine zA 10 97 ?zBW rfl ?zx9 (zew.out) ?_
     case zx9=>(intro _ _;go_simp<;>rfl)
     simp only [Act.put,za,ze,zf]
     refine zT 11 rfl (fun K hK=> ?_)
     go_simp
     have hz:=yK Yb1 (.cells #[.slice none 0 0, .slice none 0 0, .bool false] 30)
     have hb:=(Below.refl Yb1.heap.size Yb1).alloc (Nat.le_refl _) (.cells #[.slice none 0 0, .slice none 0 0, .bool false] 30)
     have jv:Hid (uO.heap.size<=Yb1.heap.size):=(zew.out).size
     have zpP:=qh (zx6.out.below hb)
     have zjb:=qh (zB zew.out hb)
     clear hb
     refine hK.out _ _ zjb.out (fun _=> ?_)
     obtain⟨gsb,hgs⟩:∃g,g=Yb1.heap.size:=⟨_,rfl⟩
     rw [<-hgs] at hz jv ⊢
     clear hgs
     generalize World.alloc Yb1 _=Yb3 at hz zpP zjb ⊢
     have zam:=qh hz
     clear hz
     clear hK K
     refine zT 12 rfl (fun K hK=> ?_)
     have d0:=zh zam.out 0
     have d1:=zh zam.out 1
     have d2:=zh zam.out 2
     have f0:=zK zam.out 0
     have f1:=zK zam.out 1
     have f2:=zK zam.out 2
     have za1:=qh (qX (cs:= [.slice none 0 0, .slice none 0 0, .bool false]) [.slice qa1 qn1 qc1, .slice qb1 qm1 qf1, .bool Si.bad] rfl zam.out)
     have hsi:=xK (g:=gsb) [.slice qa1 qn1 qc1, .slice qb1 qm1 qf1, .bool Si.bad] Yb3 0
     have zdb:=qh (kJ zpP.out zam.out hsi)
     have uz:Hid (Below uO.heap.size uO (zU Yb3 gsb 0 [.slice qa1 qn1 qc1, .slice qb1 qm1 qf1, .bool Si.bad])):=(zjb.out).trans (hsi.below (zjb.out).size (fun k hk=>by have:=jv.out;omega))
     clear hsi jv
     go_simp
     clear d0 d1 d2 f0 f1 f2
     refine hK.out _ (zU Yb3 gsb 0 [.slice qa1 qn1 qc1, .slice qb1 qm1 qf1, .bool Si.bad]) uz.out (fun _=> ?_)
     generalize zU Yb3 gsb 0 _=Y9b at za1 zdb uz ⊢
     clear hK K
     refine zA 13 19 ?zBX rfl ?zxA (uz.out) ?_
     case zxA=>(intro _ _;go_simp<;>rfl)
     simp only [Act.put,za,ze,zf]
     refine wpAnyH_done (by kernel_rfl) ?_ _
     refine NoPanic.normal ?_
     go_wp2_with fail
     go_meet
     case rel=>exact⟨gsb,qa1,qb1,qn1,qc1,qm1,qf1,rfl,rfl,za1.out,zdb.out,uz.out⟩
    ·skip
     go_simp
     have hz:=yK V1b (.cells #[.slice none 0 0, .slice none 0 0, .bool false] 30)
     have hb:=(Below.refl V1b.heap.size V1b).alloc (Nat.le_refl _) (.cells #[.slice none 0 0, .slice none 0 0, .bool false] 30)
     have jv:Hid (uO.heap.size<=V1b.heap.size):=(jD.out).size
     have zjc:=qh (zB jD.out hb)
     clear hb
     refine hK.out _ _ zjc.out (fun _=> ?_)
     obtain⟨gsb,hgs⟩:∃g,g=V1b.heap.size:=⟨_,rfl⟩
     rw [<-hgs] at hz jv ⊢
     clear hgs
     generalize World.alloc V1b _=Yb5 at hz zjc ⊢
     have zpR:=qh hz
     clear hz
     clear hK K
     refine zT 7 rfl (fun K hK=> ?_)
     go_simp
     refine(HRI.out Yb5 (yu.out _ (zB xC.out (zB kP.out zjc.out)))).mono ?_
     rintro e Yb7 ⟨⟨qa1,qb1,qn1,qc1,qm1,qf1,rfl,hs⟩,hb⟩
     have zan:=qh ((hb.block gsb (zJ zpR.out)).trans zpR.out)
     have zxB:=qh hs
     have zex:=qh (zB zjc.out hb)
     clear hs hb
     refine hK.out _ _ zex.out (fun _=> ?_)
     clear hK K
     refine zA 8 87 ?zBY rfl ?zxC (zex.out) ?_
     case zxC=>(intro _ _;go_simp<;>rfl)
     simp only [Act.put,za,ze,zf]
     refine zA 9 96 ?zBZ rfl ?zxD (zex.out) ?_
     case zxD=>(intro _ _;go_simp<;>rfl)
     simp only [Act.put,za,ze,zf]
     refine zA 10 97 ?zCa rfl ?zxE (zex.out) ?_
     case zxE=>(intro _ _;go_simp<;>rfl)
     simp only [Act.put,za,ze,zf]
     refine zT 12 rfl (fun K hK=> ?_)
     have d0:=zh zan.out 0
     have d1:=zh zan.out 1
     have d2:=zh zan.out 2
     have f0:=zK zan.out 0
     have f1:=zK zan.out 1
     have f2:=zK zan.out 2
     have za1:=qh (qX (cs:= [.slice none 0 0, .slice none 0 0, .bool false]) [.slice qa1 qn1 qc1, .slice qb1 qm1 qf1, .bool Si.bad] rfl zan.out)
     have hsi:=xK (g:=gsb) [.slice qa1 qn1 qc1, .slice qb1 qm1 qf1, .bool Si.bad] Yb7 0
     have zdb:=qh (kJ zxB.out zan.out hsi)
     have uz:Hid (Below uO.heap.size uO (zU Yb7 gsb 0 [.slice qa1 qn1 qc1, .slice qb1 qm1 qf1, .bool Si.bad])):=(zex.out).trans (hsi.below (zex.out).size (fun k hk=>by have:=jv.out;omega))
     clear hsi jv
     go_simp
     clear d0 d1 d2 f0 f1 f2
     refine hK.out _ (zU Yb7 gsb 0 [.slice qa1 qn1 qc1, .slice qb1 qm1 qf1, .bool Si.bad]) uz.out (fun _=> ?_)
     generalize zU Yb7 gsb 0 _=Y9b at za1 zdb uz ⊢
     clear hK K
     refine zA 13 19 ?zCb rfl ?zxF (uz.out) ?_
     case zxF=>(intro _ _;go_simp<;>rfl)
     simp only [Act.put,za,ze,zf]
     refine wpAnyH_done (by kernel_rfl) ?_ _
     refine NoPanic.normal ?_
     go_wp2_with fail
     go_meet
     case rel=>exact⟨gsb,qa1,qb1,qn1,qc1,qm1,qf1,rfl,rfl,za1.out,zdb.out,uz.out⟩
   case rest=>
    obtain⟨gsb,qa1,qb1,qn1,qc1,qm1,qf1,rfl,rfl,za1,zdb,uz⟩:=hcut
    obtain⟨Y9b,rfl⟩:∃Y:World,Y=wc:=⟨_,rfl⟩
    have zjd:=qh ((uz.out.block gsa (zJ zca.out)).trans zca.out)
    have z2W:=qh (zda.out.below uz.out)
    go_upto_region 11 with fail
    obtain⟨si1,zoo⟩:∃b,b=Si.bad:=⟨_,rfl⟩
    rw [<-zoo] at za1 zjd
    have HSI:=qh zoo
    clear zoo
    have t0:=zh zjd.out 0
    have t1:=zh zjd.out 1
    have t2:=zh zjd.out 2
    have u0:=zh za1.out 0
    have u1:=zh za1.out 1
    have u2:=zh za1.out 2
    have yg:=qh (zB zX.out (zB kP.out uz.out))
    go_wp2_with(go_at_call 17;go_must(refine(zf3.out Y9b Si _ _ _ _ _ _ _ _ _ _ _ _ _ HSI.out z2W.out zdb.out).mono ?_);rintro e Z ⟨rfl,hb⟩;(have wR:=qh (zB yg.out hb));clear hb)
    go_roundg (q - (i+1))
    case measure=>rw [HG.out];omega
    case rel=>exact⟨i+1,by omega,rfl,by simp,wR.out⟩
end Go.Proofs.YtliajkheeniljaaGreatDoor
