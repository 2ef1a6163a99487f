/- What moves do in a state is what the document says: the walk. -/
import Derived.Test.YtliajkheeniljaaGreatDoorZsMoves
import Derived.Test.YtliajkheeniljaaGreatDoorZsPDo
import Derived.Test.YtliajkheeniljaaGreatDoorZsPMoves
import Derived.Test.YtliajkheeniljaaGreatDoorZsWalk7
import Derived.Test.YtliajkheeniljaaGreatDoorZsShort
set_option linter.all false
namespace Go.Proofs.YtliajkheeniljaaGreatDoor
open Go.RowKit
set_option maxRecDepth 100000
set_option maxHeartbeats 16000000
def zq4 (y:World) (S:zu) (er:Int) (e:Ending) (w':World):Prop:=(∃(a b:Option Addr) (n c k f:Nat),e= .returned (.tuple #[.agg #[.slice a n c, .slice b k f, .bool S.bad], .int .i64 er])/\zZ w' S (.slice a n c) (.slice b k f))/\Below y.heap.size y w'
theorem zt5 (w:World) (c:zX) (cv:Value) (d:Nat) (hc:yZ d w cv c.threads) (m:zK) (s:zu) (sv mv:Value) (hs:zZ w s sv mv) (hb:∀j,j<s.threads.length->(s.threads.getD j default).buf.length<=100000) (x:zM):
  Calls Tryz.prog 16 #[yL c cv,yY m,yH s sv mv,zaR x] w fun e w'=>e= .returned (.bool true)/\Below w.heap.size w w':=by
 have hb6:∀j,j<s.threads.length->(s.threads.getD j default).buf.length<=1000000:=fun j hj=>by have:=hb j hj;omega
 have zaj:=fun y (hy:Below w.heap.size w y) (x:zM)=>(zkE y c cv d (zk.below (xC.stays d) hc hy) m s sv mv (hs.below hy) hb6 x).mono (R':=zq4 y (vN c m s x d).1 (vN c m s x d).2) (by
  rintro e w' ⟨hb,xa,xn,xc,ya,yn,yc,rfl,hf⟩
  exact⟨⟨xa,ya,xn,xc,yn,yc,rfl,hf.now (hs.below hy)⟩,hb⟩)
 have zak:=fun y (hy:Below w.heap.size w y) (x:zM)=>(zo0 y c cv d (zk.below (xC.stays d) hc hy) m s sv mv (hs.below hy) hb x).mono (R':=zq4 y (vN c m s x d).1 (vN c m s x d).2) (by
  rintro e w' ⟨⟨xa,xn,xc,ya,yn,yc,bs,rfl,ho⟩,hb⟩
  exact⟨⟨xa,ya,xn,xc,yn,yc,rfl,ho.state _⟩,hb⟩)
 have zaA:=fun y (hy:Below w.heap.size w y)=>zfB y c cv d (zk.below (xC.stays d) hc hy) m s sv mv (hs.below hy) hb6
 have zaB:=fun y (hy:Below w.heap.size w y)=>zhj y c cv d (zk.below (xC.stays d) hc hy) m s sv mv (hs.below hy) hb
 have zaC:=fun y (hy:Below w.heap.size w y)=>zb1 y c cv d (zk.below (xC.stays d) hc hy) m s sv mv (hs.below hy) hb6
 have zaD:=fun y (hy:Below w.heap.size w y)=>zeP y c cv d (zk.below (xC.stays d) hc hy) m s sv mv (hs.below hy) hb6
 have hsame:∀y (S:zu) (a b a' b':Option Addr) (n c k f n' c' k' f':Nat) (bd:Bool),bd=S.bad->zZ y S (.slice a n c) (.slice b k f)->zZ y S (.slice a' n' c') (.slice b' k' f')->Calls Tryz.prog 17 #[.agg #[.slice a n c, .slice b k f, .bool bd], .agg #[.slice a' n' c', .slice b' k' f', .bool bd]] y fun e w'=>e= .returned (.bool true)/\Below y.heap.size y w':=fun y S a b a' b' n c k f n' c' k' f' bd hbd h1 h2=>by
  subst hbd
  have h:=zqo y S S _ _ _ _ h1 h2
  rw [decide_eq_true rfl] at h
  exact h
 have hok:∀x∈qO c m s d,(vN c m s x d).2=0:=fun x hx=>zsc hx
 obtain⟨DS,hDS⟩:∃f,f=fun x=>(vN c m s x d).1:=⟨_,rfl⟩
 obtain⟨DE,hDE⟩:∃f,f=fun x=>(vN c m s x d).2:=⟨_,rfl⟩
 have e1:∀x,(vN c m s x d).1=DS x:=fun x=>by rw [hDS]
 have e2:∀x,(vN c m s x d).2=DE x:=fun x=>by rw [hDE]
 simp only [e1,e2] at zaj zak hok
 obtain⟨ML,hML⟩:∃l,l=qO c m s d:=⟨_,rfl⟩
 rw [<-hML] at zaA zaB hok
 obtain⟨fo,hfo⟩:∃b,b=xX c m s:=⟨_,rfl⟩
 rw [<-hfo] at zaC zaD
 clear hDS hDE e1 e2 hML hfo hb hb6
 obtain⟨ca,cc,rfl, -⟩:=zk.slice hc
 obtain⟨ta,qm,rfl, -⟩:=zk.slice hs.threads
 obtain⟨ma,xV,rfl, -⟩:=zk.slice hs.mem
 clear hc hs
 unfold yL yY yH zaR at zaj zak
 unfold yL yY yH at zaA zaB zaC zaD
 unfold yL yY yH zaR
 generalize c.threads.length=cn at zaj zak zaA zaB zaC zaD ⊢
 generalize s.threads.length=n at zaj zak zaA zaB zaC zaD ⊢
 generalize s.mem.length=mn at zaj zak zaA zaB zaC zaD ⊢
 generalize s.bad=bad at zaj zak zaA zaB zaC zaD ⊢
 generalize c.vars=vars at zaj zak zaA zaB zaC zaD ⊢
 generalize c.domain=dom at zaj zak zaA zaB zaC zaD ⊢
 generalize m.model=mod at zaj zak zaA zaB zaC zaD ⊢
 generalize m.bound=bnd at zaj zak zaA zaB zaC zaD ⊢
 have hp1:=fun y hy=>zaj y hy x
 have hr1:=fun y hy=>zak y hy x
 generalize DS x=S1 at hp1 hr1
 generalize DE x=E1 at hp1 hr1
 obtain⟨kd,th,vr⟩:=x
 simp only [] at hp1 hr1 ⊢
 have bT:=qh ((((Loc.start w).alloc 24 [.int .i64 vars, .int .i64 dom, .slice ca cn cc]).alloc 26 [.int .i64 mod, .int .i64 bnd]).alloc 30 [.slice ta n qm, .slice ma mn xV, .bool bad] |>.alloc 32 [.int .i64 kd, .int .i64 th, .int .i64 vr])
 obtain⟨hB,hx1,hx2,hx3,hx4, -⟩:=pF w (.cells #[.int .i64 vars, .int .i64 dom, .slice ca cn cc] 24) (.cells #[.int .i64 mod, .int .i64 bnd] 26) (.cells #[.slice ta n qm, .slice ma mn xV, .bool bad] 30) (.cells #[.int .i64 kd, .int .i64 th, .int .i64 vr] 32)
 have HB:=qh hB
 have H1:=qh hx1
 have H2:=qh hx2
 have H3:=qh hx3
 have H4:=qh hx4
 have HP1:=qh hp1
 have HR1:=qh hr1
 have zBO:=qh zaj
 have zBP:=qh zak
 have zBQ:=qh zaA
 have zBR:=qh zaB
 have zBS:=qh zaC
 have zBT:=qh zaD
 have zgG:=qh hsame
 have vC:=qh hok
 clear hB hx1 hx2 hx3 hx4 hp1 hr1 zaj zak zaA zaB zaC zaD hsame hok bT
 go_enter Tryz.func16,Tryz.ntmps16
 go_upto_region 1 with fail
 generalize World.alloc (World.alloc (World.alloc (World.alloc w _) _) _) _=W at HB H1 H2 H3 H4 ⊢
 obtain⟨gx,hgx⟩:∃gx,gx=w.heap.size:=⟨_,rfl⟩
 rw [<-hgx] at H1 H2 H3 H4 ⊢
 clear hgx
 have xD:Hid (∀y,Below W.heap.size W y->y.cell? ⟨gx,0,none⟩=some (.int .i64 vars)/\y.cell? ⟨gx,1,none⟩=some (.int .i64 dom)/\y.cell? ⟨gx,2,none⟩=some (.slice ca cn cc)/\
   y.cell? ⟨gx+1,0,none⟩=some (.int .i64 mod)/\y.cell? ⟨gx+1,1,none⟩=some (.int .i64 bnd)/\y.cell? ⟨gx+2,0,none⟩=some (.slice ta n qm)/\y.cell? ⟨gx+2,1,none⟩=some (.slice ma mn xV)/\y.cell? ⟨gx+2,2,none⟩=some (.bool bad)/\
   y.cell? ⟨gx+3,0,none⟩=some (.int .i64 kd)/\y.cell? ⟨gx+3,1,none⟩=some (.int .i64 th)/\y.cell? ⟨gx+3,2,none⟩=some (.int .i64 vr)):=fun y hx=>
  ⟨zl hx _ _ (zi H1.out 0),zl hx _ _ (zi H1.out 1),zl hx _ _ (zi H1.out 2),zl hx _ _ (zi H2.out 0),zl hx _ _ (zi H2.out 1),zl hx _ _ (zi H3.out 0),zl hx _ _ (zi H3.out 1),zl hx _ _ (zi H3.out 2),zl hx _ _ (zi H4.out 0),zl hx _ _ (zi H4.out 1),zl hx _ _ (zi H4.out 2)⟩
 have yu:Hid (∀y,Below W.heap.size W y->Below w.heap.size w y):=fun y hy=>HB.out.trans (hy.mono HB.out.size)
 clear H1 H2 H3 H4
 obtain⟨c0,c1,c2,c3,c4,c5,c6,c7,c8,c9,c10⟩:=xD.out W (Below.refl _ _)
 go_upto_region 2 with(go_at_call 25;go_must(refine(HP1.out W HB.out).mono ?_);rintro e X1 ⟨⟨a1,b1,n1,k1,m1,f1,rfl,hs⟩,hb⟩;(have vE:=qh hs);(have HX1:=qh hb);clear hs hb)
 have hbx:=HX1.out.alloc HX1.out.size (.cells #[.slice a1 n1 k1, .slice b1 m1 f1, .bool S1.bad] 30)
 have xL:=qh (yD X1 (.cells #[.slice a1 n1 k1, .slice b1 m1 f1, .bool S1.bad] 30))
 have HS2:=qh (vE.out.below ((Below.refl X1.heap.size X1).alloc (Nat.le_refl _) (.cells #[.slice a1 n1 k1, .slice b1 m1 f1, .bool S1.bad] 30)))
 have HX2:=qh hbx
 clear hbx vE HX1 HP1 c0 c1 c2 c3 c4 c5 c6 c7 c8 c9 c10
 generalize World.alloc X1 _=X2 at xL HS2 HX2 ⊢
 generalize X1.heap.size=g1 at xL ⊢
 obtain⟨c0,c1,c2,c3,c4,c5,c6,c7,c8,c9,c10⟩:=xD.out X2 HX2.out
 go_upto_region 3 with(go_at_call 37;go_must(refine(HR1.out X2 (yu.out X2 HX2.out)).mono ?_);rintro e X3 ⟨⟨a2,b2,n2,k2,m2,f2,rfl,hs⟩,hb⟩;(have wJ:=qh hs);(have HX3:=qh hb);clear hs hb)
 have hbx:=HX3.out.alloc HX3.out.size (.cells #[.slice a2 n2 k2, .slice b2 m2 f2, .bool S1.bad] 30)
 have HG2:=qh (yD X3 (.cells #[.slice a2 n2 k2, .slice b2 m2 f2, .bool S1.bad] 30))
 have HS4:=qh (wJ.out.below ((Below.refl X3.heap.size X3).alloc (Nat.le_refl _) (.cells #[.slice a2 n2 k2, .slice b2 m2 f2, .bool S1.bad] 30)))
 have jk:=qh ((hbx.block g1 (zw xL.out)).trans xL.out)
 have HS5:=qh (HS2.out.below hbx)
 have HX4:=qh (zF HX2.out hbx)
 clear hbx wJ HX3 HX2 HS2 xL HR1 c0 c1 c2 c3 c4 c5 c6 c7 c8 c9 c10
 generalize World.alloc X3 _=X4 at HG2 HS4 jk HS5 HX4 ⊢
 generalize X3.heap.size=g2 at HG2 ⊢
 have HC4:Hid (∀y,Below X4.heap.size X4 y->y.cell? ⟨gx,0,none⟩=some (.int .i64 vars)/\y.cell? ⟨gx,1,none⟩=some (.int .i64 dom)/\y.cell? ⟨gx,2,none⟩=some (.slice ca cn cc)/\y.cell? ⟨gx+1,0,none⟩=some (.int .i64 mod)/\y.cell? ⟨gx+1,1,none⟩=some (.int .i64 bnd)/\y.cell? ⟨gx+2,0,none⟩=some (.slice ta n qm)/\y.cell? ⟨gx+2,1,none⟩=some (.slice ma mn xV)/\y.cell? ⟨gx+2,2,none⟩=some (.bool bad)):=fun y hy=>by
  obtain⟨p0,p1,p2,p3,p4,p5,p6,p7,p8,p9,p10⟩:=xD.out y (zF HX4.out hy)
  exact⟨p0,p1,p2,p3,p4,p5,p6,p7⟩
 refine wp_region_noPanic ?_
 refine wp_region_held_drew (S:=fun x=>Below X4.heap.size X4 x) (by kernel_rfl) ((Below.refl _ _).drew) (fun hH=> ?_)
 refine zo 0 36 ?vh1 rfl ?uH ?_
 case uH=>(intro x h;have e:=HC4.out x h;go_simp<;>rfl)
 simp only [Act.put,za,ze,zh]
 refine zo 1 37 ?vh2 rfl ?uI ?_
 case uI=>(intro x h;have e:=HC4.out x h;go_simp<;>rfl)
 simp only [Act.put,za,ze,zh]
 refine zo 2 38 ?vh3 rfl ?uJ ?_
 case uJ=>(intro x h;have e:=HC4.out x h;go_simp<;>rfl)
 simp only [Act.put,za,ze,zh]
 refine zo 4 40 ?vh4 rfl ?uK ?_
 case uK=>(intro x h;have e:=HC4.out x h;go_simp<;>rfl)
 simp only [Act.put,za,ze,zh]
 refine zo 5 41 ?vh5 rfl ?uL ?_
 case uL=>(intro x h;have e:=HC4.out x h;go_simp<;>rfl)
 simp only [Act.put,za,ze,zh]
 refine zo 6 42 ?vh6 rfl ?uM ?_
 case uM=>(intro x h;have e:=HC4.out x h;go_simp<;>rfl)
 simp only [Act.put,za,ze,zh]
 refine zY 3 rfl (fun K hK=> ?_)
 go_simp
 refine(zBQ.out X4.drew (yu.out _ (zF HX4.out hH))).mono ?_
 rintro e hw3 ⟨⟨ma1,mc1,rfl,hrw⟩,hb⟩
 have hm1:=qh (zcy hrw)
 clear hrw
 have zbR:Below X4.heap.size X4 hw3:=zF hH hb
 refine hK.out _ _ zbR (fun _=> ?_)
 clear hK K hb hH
 refine zY 7 rfl (fun K hK=> ?_)
 go_simp
 refine(zBR.out hw3 (yu.out _ (zF HX4.out zbR))).mono ?_
 rintro e hw7 ⟨⟨ma2,mc2,rfl,hrw⟩,hb⟩
 have bC:=qh (zcy hrw)
 have HM1:=qh (zk.below zbu.stays hm1.out hb)
 clear hrw hm1
 have uR:Below X4.heap.size X4 hw7:=zF zbR hb
 refine hK.out _ _ uR (fun _=> ?_)
 clear hK K hb zbR
 refine zo 8 13 ?vh7 rfl ?uN ?_
 case uN=>(intro x h;have e:=HC4.out x h;go_simp<;>rfl)
 simp only [Act.put,za,ze,zh]
 refine zo 9 14 ?vh8 rfl ?uO ?_
 case uO=>(intro x h;have e:=HC4.out x h;go_simp<;>rfl)
 simp only [Act.put,za,ze,zh]
 refine wpAnyH_done (by kernel_rfl) ?_ _
 refine NoPanic.normal ?_
 have HX5:=qh (uR)
 obtain⟨X5,hX5⟩:∃X5,X5=hw7:=⟨_,rfl⟩
 rw [<-hX5] at HX5 HM1 bC ⊢
 clear hX5
 have zjZ:=qh (zF HX4.out HX5.out)
 have z1g:=qh (HS5.out.below HX5.out)
 have z1h:=qh (HS4.out.below HX5.out)
 obtain⟨sb1,hsb⟩:∃b,b=S1.bad:=⟨_,rfl⟩
 rw [<-hsb] at HG2 jk
 have HSB:=qh hsb
 clear hsb
 have gH:Hid (∀y,Below X5.heap.size X5 y->y.cell? ⟨gx,0,none⟩=some (.int .i64 vars)/\y.cell? ⟨gx,1,none⟩=some (.int .i64 dom)/\y.cell? ⟨gx,2,none⟩=some (.slice ca cn cc)/\y.cell? ⟨gx+1,0,none⟩=some (.int .i64 mod)/\y.cell? ⟨gx+1,1,none⟩=some (.int .i64 bnd)/\y.cell? ⟨gx+2,0,none⟩=some (.slice ta n qm)/\y.cell? ⟨gx+2,1,none⟩=some (.slice ma mn xV)/\y.cell? ⟨gx+2,2,none⟩=some (.bool bad)/\y.cell? ⟨g1,0,none⟩=some (.slice a1 n1 k1)/\y.cell? ⟨g1,1,none⟩=some (.slice b1 m1 f1)/\y.cell? ⟨g1,2,none⟩=some (.bool sb1)/\y.cell? ⟨g2,0,none⟩=some (.slice a2 n2 k2)/\y.cell? ⟨g2,1,none⟩=some (.slice b2 m2 f2)/\y.cell? ⟨g2,2,none⟩=some (.bool sb1)):=fun y hy=>by
  obtain⟨p0,p1,p2,p3,p4,p5,p6,p7,p8,p9,p10⟩:=xD.out y (zF zjZ.out hy)
  exact⟨p0,p1,p2,p3,p4,p5,p6,p7,zl (zF HX5.out hy) _ _ (zi jk.out 0),zl (zF HX5.out hy) _ _ (zi jk.out 1),zl (zF HX5.out hy) _ _ (zi jk.out 2),zl (zF HX5.out hy) _ _ (zi HG2.out 0),zl (zF HX5.out hy) _ _ (zi HG2.out 1),zl (zF HX5.out hy) _ _ (zi HG2.out 2)⟩
 clear HS5 HS4 HG2 jk HC4 HX5
 have hne1:((E1:Int) !=E1)=false:=by simp
 have hne2:((fo:Bool) !=fo)=false:=by simp
 go_upto_region 4 with fail
 refine wp_region_noPanic ?_
 refine wp_region_held_drew (S:=fun x=>Below X5.heap.size X5 x) (by kernel_rfl) ((Below.refl _ _).drew) (fun kK=> ?_)
 refine zo 0 44 ?vk1 rfl ?zBU ?_
 case zBU=>(intro x h;have e:=gH.out x h;go_simp<;>rfl)
 simp only [Act.put,za,ze,zh]
 refine zo 1 45 ?vk2 rfl ?zBV ?_
 case zBV=>(intro x h;have e:=gH.out x h;go_simp<;>rfl)
 simp only [Act.put,za,ze,zh]
 refine zY 2 rfl (fun K hK=> ?_)
 go_simp
 refine(zgG.out X5.drew S1 _ _ _ _ _ _ _ _ _ _ _ _ _ HSB.out (z1g.out.below kK) (z1h.out.below kK)).mono ?_
 rintro e kw2 ⟨rfl,hb⟩
 have zka:Below X5.heap.size X5 kw2:=zF kK hb
 refine hK.out _ _ zka (fun _=> ?_)
 clear hK K hb kK
 refine zo 3 47 ?vk3 rfl ?zBW ?_
 case zBW=>(intro x h;have e:=gH.out x h;go_simp<;>rfl)
 simp only [Act.put,za,ze,zh]
 refine zo 4 48 ?vk4 rfl ?zBX ?_
 case zBX=>(intro x h;have e:=gH.out x h;go_simp<;>rfl)
 simp only [Act.put,za,ze,zh]
 refine zo 5 49 ?vk5 rfl ?zBY ?_
 case zBY=>(intro x h;have e:=gH.out x h;go_simp<;>rfl)
 simp only [Act.put,za,ze,zh]
 refine zo 6 50 ?vk6 rfl ?zBZ ?_
 case zBZ=>(intro x h;have e:=gH.out x h;go_simp<;>rfl)
 simp only [Act.put,za,ze,zh]
 refine zo 7 51 ?vk7 rfl ?zCa ?_
 case zCa=>(intro x h;have e:=gH.out x h;go_simp<;>rfl)
 simp only [Act.put,za,ze,zh]
 refine zo 8 52 ?vk8 rfl ?zCb ?_
 case zCb=>(intro x h;have e:=gH.out x h;go_simp<;>rfl)
 simp only [Act.put,za,ze,zh]
 refine zo 9 53 ?vk9 rfl ?zCc ?_
 case zCc=>(intro x h;have e:=gH.out x h;go_simp<;>rfl)
 simp only [Act.put,za,ze,zh]
 refine zo 10 54 ?zKU rfl ?z5r ?_
 case z5r=>(intro x h;have e:=gH.out x h;go_simp<;>rfl)
 simp only [Act.put,za,ze,zh]
 refine zo 11 55 ?zKV rfl ?z5s ?_
 case z5s=>(intro x h;have e:=gH.out x h;go_simp<;>rfl)
 simp only [Act.put,za,ze,zh]
 refine zY 12 rfl (fun K hK=> ?_)
 go_simp
 refine(zob kw2 _ _ ML (zk.below zbu.stays HM1.out zka) (zk.below zbu.stays bC.out zka)).mono ?_
 rintro e z1i ⟨rfl,hb⟩
 have zib:Below X5.heap.size X5 z1i:=zF zka hb
 refine hK.out _ _ zib (fun _=> ?_)
 clear hK K hb zka
 refine zo 13 57 ?zKW rfl ?z5t ?_
 case z5t=>(intro x h;have e:=gH.out x h;go_simp<;>rfl)
 simp only [Act.put,za,ze,zh]
 refine zo 14 58 ?zKX rfl ?z5u ?_
 case z5u=>(intro x h;have e:=gH.out x h;go_simp<;>rfl)
 simp only [Act.put,za,ze,zh]
 refine zo 15 59 ?zKY rfl ?z5v ?_
 case z5v=>(intro x h;have e:=gH.out x h;go_simp<;>rfl)
 simp only [Act.put,za,ze,zh]
 refine zo 16 60 ?zKZ rfl ?z5w ?_
 case z5w=>(intro x h;have e:=gH.out x h;go_simp<;>rfl)
 simp only [Act.put,za,ze,zh]
 refine zo 17 61 ?zLa rfl ?z5x ?_
 case z5x=>(intro x h;have e:=gH.out x h;go_simp<;>rfl)
 simp only [Act.put,za,ze,zh]
 refine zo 18 62 ?zLb rfl ?z5y ?_
 case z5y=>(intro x h;have e:=gH.out x h;go_simp<;>rfl)
 simp only [Act.put,za,ze,zh]
 refine zo 20 64 ?zLc rfl ?z5z ?_
 case z5z=>(intro x h;have e:=gH.out x h;go_simp<;>rfl)
 simp only [Act.put,za,ze,zh]
 refine zo 21 65 ?zLd rfl ?z5A ?_
 case z5A=>(intro x h;have e:=gH.out x h;go_simp<;>rfl)
 simp only [Act.put,za,ze,zh]
 refine zo 22 66 ?zLe rfl ?z5B ?_
 case z5B=>(intro x h;have e:=gH.out x h;go_simp<;>rfl)
 simp only [Act.put,za,ze,zh]
 refine zY 19 rfl (fun K hK=> ?_)
 go_simp
 refine(zBS.out z1i (yu.out _ (zF zjZ.out zib))).mono ?_
 rintro e z1j ⟨rfl,hb⟩
 have zic:Below X5.heap.size X5 z1j:=zF zib hb
 refine hK.out _ _ zic (fun _=> ?_)
 clear hK K hb zib
 refine zY 23 rfl (fun K hK=> ?_)
 go_simp
 refine(zBT.out z1j (yu.out _ (zF zjZ.out zic))).mono ?_
 rintro e z1k ⟨rfl,hb⟩
 have znF:Below X5.heap.size X5 z1k:=zF zic hb
 refine hK.out _ _ znF (fun _=> ?_)
 clear hK K hb zic
 refine zo 24 68 ?zLf rfl ?z5C ?_
 case z5C=>(intro x h;have e:=gH.out x h;go_simp<;>rfl)
 simp only [Act.put,za,ze,zh]
 refine zo 25 69 ?zLg rfl ?z5D ?_
 case z5D=>(intro x h;have e:=gH.out x h;go_simp<;>rfl)
 simp only [Act.put,za,ze,zh]
 refine wpAnyH_done (by kernel_rfl) ?_ _
 refine NoPanic.normal ?_
 have HX6:=qh (zF zjZ.out znF)
 have z1m:=qh (znF)
 obtain⟨X6,hX6⟩:∃X6,X6=z1k:=⟨_,rfl⟩
 rw [<-hX6] at HX6 z1m ⊢
 clear hX6
 have HMS:Hid (j3 X6 (.slice ma2 ML.length mc2) ML):=zk.below zbu.stays bC.out z1m.out
 obtain⟨q,hq⟩:∃q,q=ML.length:=⟨_,rfl⟩
 rw [<-hq] at HMS ⊢
 have HQ:=qh hq
 have hqm:q<=9223372036854775807:=by obtain⟨a,cap,e,h, -⟩:=HMS.out;omega
 clear hq hne1 hne2 HM1 bC gH z1g z1h zjZ
 go_wp2_with fail
 go_loopg [15] q (fun gg s15 wr=>∃i:Nat,i<=q/\Hid (gg=q - i)/\s15= .int .i64 i/\Hid (Below X6.heap.size X6 wr))
 case atStart=>exact⟨0,Nat.zero_le _,rfl,rfl,Below.refl _ _⟩
 case round=>
  obtain⟨i,hi,HG,rfl,zP⟩:=hrel
  obtain⟨wo,rfl⟩:∃wo:World,wo=wr:=⟨_,rfl⟩
  by_cases hlt:i<q
  rotate_left
  ·obtain rfl:q=i:=by omega
   have yj:Hid (Below w.heap.size w wo):=yu.out wo (zF HX6.out zP.out)
   go_wp2_with fail
   go_ret
   exact⟨rfl,yj.out⟩
  have qQ:(i:Int)<(q:Int):=by omega
  obtain⟨mb,mo,hma, -,x0,x1,x2⟩:=j3.part HMS.out i (by rw [<-HQ.out];exact hlt)
  subst hma
  have hmem:ML.getD i default∈ML:=vG (by rw [<-HQ.out];exact hlt)
  have hp:=fun y hy=>zBO.out y hy (ML.getD i default)
  have hr:=fun y hy=>zBP.out y hy (ML.getD i default)
  have hk:=vC.out _ hmem
  generalize DE (ML.getD i default)=Ei at hp hr hk
  subst hk
  generalize DS (ML.getD i default)=Si at hp hr
  generalize ML.getD i default=xi at x0 x1 x2 hp hr
  obtain⟨ki,ti,vi⟩:=xi
  simp only [] at x0 x1 x2 hp hr
  have HPI:=qh hp
  have HRI:=qh hr
  have xg:=qh (zF HX6.out zP.out)
  replace x0:=zl zP.out _ _ x0
  replace x1:=zl zP.out _ _ x1
  replace x2:=zl zP.out _ _ x2
  have HC9:Hid (∀y,Below wo.heap.size wo y->y.cell? ⟨gx,0,none⟩=some (.int .i64 vars)/\y.cell? ⟨gx,1,none⟩=some (.int .i64 dom)/\y.cell? ⟨gx,2,none⟩=some (.slice ca cn cc)/\y.cell? ⟨gx+1,0,none⟩=some (.int .i64 mod)/\y.cell? ⟨gx+1,1,none⟩=some (.int .i64 bnd)/\y.cell? ⟨gx+2,0,none⟩=some (.slice ta n qm)/\y.cell? ⟨gx+2,1,none⟩=some (.slice ma mn xV)/\y.cell? ⟨gx+2,2,none⟩=some (.bool bad)/\y.cell? ⟨mb,mo+i*3,none⟩=some (.int .i64 ki)/\y.cell? ⟨mb,mo+i*3+1,none⟩=some (.int .i64 ti)/\y.cell? ⟨mb,mo+i*3+2,none⟩=some (.int .i64 vi)):=fun y hy=>by
   obtain⟨p0,p1,p2,p3,p4,p5,p6,p7,p8,p9,p10⟩:=xD.out y (zF xg.out hy)
   exact⟨p0,p1,p2,p3,p4,p5,p6,p7,zl hy _ _ x0,zl hy _ _ x1,zl hy _ _ x2⟩
  clear x0 x1 x2 hp hr hmem
  go_upto_region 9 with fail
  go_cut [16,17] (fun s16 s17 w'=>∃(g:Nat) (a b:Option Addr) (n c k f:Nat),s16= .pointer (some ⟨g,0,none⟩)/\s17= .int .i64 0/\Hid (w'.heap[g]? =some (.cells #[.slice a n c, .slice b k f, .bool Si.bad] 30 (0,0)))/\Hid (zZ w' Si (.slice a n c) (.slice b k f))/\Hid (Below wo.heap.size wo w'))
  case first=>
   refine wp_region_noPanic ?_
   refine wp_region_held_drew (S:=fun x=>Below wo.heap.size wo x) (by kernel_rfl) (Below.refl _ _).drew (fun _=> ?_)
   obtain⟨V1a,hV1⟩:∃V1,V1=wo.drew:=⟨_,rfl⟩
   have zbt:Hid (Below wo.heap.size wo V1a):=by rw [hV1];exact(Below.refl _ _).drew
   rw [<-hV1]
   clear hV1
   refine zy 0 77 ?va1 rfl ?zqX (zbt.out) ?_
   case zqX=>(intro x h;have e:=HC9.out x h;go_simp<;>rfl)
   simp only [Act.put,za,ze,zh]
   refine zy 1 78 ?va2 rfl ?zqY (zbt.out) ?_
   case zqY=>(intro x h;have e:=HC9.out x h;go_simp<;>rfl)
   simp only [Act.put,za,ze,zh]
   refine zy 2 79 ?va3 rfl ?zqZ (zbt.out) ?_
   case zqZ=>(intro x h;have e:=HC9.out x h;go_simp<;>rfl)
   simp only [Act.put,za,ze,zh]
   refine zy 3 80 ?va4 rfl ?zra (zbt.out) ?_
   case zra=>(intro _ _;go_simp<;>rfl)
   simp only [Act.put,za,ze,zh]
   refine zy 4 81 ?va5 rfl ?zrb (zbt.out) ?_
   case zrb=>(intro _ _;go_simp<;>rfl)
   simp only [Act.put,za,ze,zh]
   refine zy 5 82 ?va6 rfl ?zrc (zbt.out) ?_
   case zrc=>(intro _ _;go_simp<;>rfl)
   simp only [Act.put,za,ze,zh]
   refine zy 6 83 ?va7 rfl ?zrd (zbt.out) ?_
   case zrd=>(intro x h;have e:=HC9.out x h;go_simp<;>rfl)
   simp only [Act.put,za,ze,zh]
   refine wpAnyH_ready (rs:= [7,11]) (by kernel_rfl) (by simp) ?_
   refine AllReadyH.cons rfl (fun K hK=> ?_) (AllReadyH.cons rfl (fun K hK=> ?_) AllReadyH.nil)
   ·skip
    go_simp
    refine(HPI.out V1a (yu.out _ (zF xg.out zbt.out))).mono ?_
    rintro e Ya1 ⟨⟨pa1,pb1,pn1,pc1,pm1,pf1,rfl,hs⟩,hb⟩
    have z5E:=qh hs
    have za7:=qh (zF zbt.out hb)
    clear hs hb
    refine hK.out _ _ za7.out (fun _=> ?_)
    clear hK K
    refine zy 8 76 ?va8 rfl ?zre (za7.out) ?_
    case zre=>(intro _ _;go_simp<;>rfl)
    simp only [Act.put,za,ze,zh]
    refine zy 9 85 ?va9 rfl ?zrf (za7.out) ?_
    case zrf=>(intro _ _;go_simp<;>rfl)
    simp only [Act.put,za,ze,zh]
    refine zy 10 86 ?z8V rfl ?zl9 (za7.out) ?_
    case zl9=>(intro _ _;go_simp<;>rfl)
    simp only [Act.put,za,ze,zh]
    refine zY 11 rfl (fun K hK=> ?_)
    go_simp
    have hz:=yD Ya1 (.cells #[.slice none 0 0, .slice none 0 0, .bool false] 30)
    have hb:=(Below.refl Ya1.heap.size Ya1).alloc (Nat.le_refl _) (.cells #[.slice none 0 0, .slice none 0 0, .bool false] 30)
    have kG:Hid (wo.heap.size<=Ya1.heap.size):=(za7.out).size
    have zuT:=qh (z5E.out.below hb)
    have zbe:=qh (zF za7.out hb)
    clear hb
    refine hK.out _ _ zbe.out (fun _=> ?_)
    obtain⟨gsa,hgs⟩:∃g,g=Ya1.heap.size:=⟨_,rfl⟩
    rw [<-hgs] at hz kG ⊢
    clear hgs
    generalize World.alloc Ya1 _=Ya3 at hz zuT zbe ⊢
    have zbJ:=qh hz
    clear hz
    clear hK K
    refine zY 12 rfl (fun K hK=> ?_)
    have d0:=zi zbJ.out 0
    have d1:=zi zbJ.out 1
    have d2:=zi zbJ.out 2
    have f0:=zB zbJ.out 0
    have f1:=zB zbJ.out 1
    have f2:=zB zbJ.out 2
    have zdX:=qh (xG (cs:= [.slice none 0 0, .slice none 0 0, .bool false]) [.slice pa1 pn1 pc1, .slice pb1 pm1 pf1, .bool Si.bad] rfl zbJ.out)
    have hsi:=yP (g:=gsa) [.slice pa1 pn1 pc1, .slice pb1 pm1 pf1, .bool Si.bad] Ya3 0
    have zfq:=qh (wX zuT.out zbJ.out hsi)
    have gI:Hid (Below wo.heap.size wo (zU Ya3 gsa 0 [.slice pa1 pn1 pc1, .slice pb1 pm1 pf1, .bool Si.bad])):=(zbe.out).trans (hsi.below (zbe.out).size (fun k hk=>by have:=kG.out;omega))
    clear hsi kG
    go_simp
    clear d0 d1 d2 f0 f1 f2
    refine hK.out _ (zU Ya3 gsa 0 [.slice pa1 pn1 pc1, .slice pb1 pm1 pf1, .bool Si.bad]) gI.out (fun _=> ?_)
    generalize zU Ya3 gsa 0 _=Y9a at zdX zfq gI ⊢
    clear hK K
    refine zy 13 17 ?z8W rfl ?zlA (gI.out) ?_
    case zlA=>(intro _ _;go_simp<;>rfl)
    simp only [Act.put,za,ze,zh]
    refine wpAnyH_done (by kernel_rfl) ?_ _
    refine NoPanic.normal ?_
    go_wp2_with fail
    go_meet
    case rel=>exact⟨gsa,pa1,pb1,pn1,pc1,pm1,pf1,rfl,rfl,zdX.out,zfq.out,gI.out⟩
   ·skip
    go_simp
    have hz:=yD V1a (.cells #[.slice none 0 0, .slice none 0 0, .bool false] 30)
    have hb:=(Below.refl V1a.heap.size V1a).alloc (Nat.le_refl _) (.cells #[.slice none 0 0, .slice none 0 0, .bool false] 30)
    have kG:Hid (wo.heap.size<=V1a.heap.size):=(zbt.out).size
    have zc4:=qh (zF zbt.out hb)
    clear hb
    refine hK.out _ _ zc4.out (fun _=> ?_)
    obtain⟨gsa,hgs⟩:∃g,g=V1a.heap.size:=⟨_,rfl⟩
    rw [<-hgs] at hz kG ⊢
    clear hgs
    generalize World.alloc V1a _=Ya5 at hz zc4 ⊢
    have pz:=qh hz
    clear hz
    clear hK K
    refine zY 7 rfl (fun K hK=> ?_)
    go_simp
    refine(HPI.out Ya5 (yu.out _ (zF xg.out zc4.out))).mono ?_
    rintro e Ya7 ⟨⟨pa1,pb1,pn1,pc1,pm1,pf1,rfl,hs⟩,hb⟩
    have pE:=qh ((hb.block gsa (zw pz.out)).trans pz.out)
    have z5F:=qh hs
    have zbf:=qh (zF zc4.out hb)
    clear hs hb
    refine hK.out _ _ zbf.out (fun _=> ?_)
    clear hK K
    refine zy 8 76 ?z8X rfl ?zlB (zbf.out) ?_
    case zlB=>(intro _ _;go_simp<;>rfl)
    simp only [Act.put,za,ze,zh]
    refine zy 9 85 ?z9a rfl ?zlE (zbf.out) ?_
    case zlE=>(intro _ _;go_simp<;>rfl)
    simp only [Act.put,za,ze,zh]
    refine zy 10 86 ?z9b rfl ?zlF (zbf.out) ?_
    case zlF=>(intro _ _;go_simp<;>rfl)
    simp only [Act.put,za,ze,zh]
    refine zY 12 rfl (fun K hK=> ?_)
    have d0:=zi pE.out 0
    have d1:=zi pE.out 1
    have d2:=zi pE.out 2
    have f0:=zB pE.out 0
    have f1:=zB pE.out 1
    have f2:=zB pE.out 2
    have zdX:=qh (xG (cs:= [.slice none 0 0, .slice none 0 0, .bool false]) [.slice pa1 pn1 pc1, .slice pb1 pm1 pf1, .bool Si.bad] rfl pE.out)
    have hsi:=yP (g:=gsa) [.slice pa1 pn1 pc1, .slice pb1 pm1 pf1, .bool Si.bad] Ya7 0
    have zfq:=qh (wX z5F.out pE.out hsi)
    have gI:Hid (Below wo.heap.size wo (zU Ya7 gsa 0 [.slice pa1 pn1 pc1, .slice pb1 pm1 pf1, .bool Si.bad])):=(zbf.out).trans (hsi.below (zbf.out).size (fun k hk=>by have:=kG.out;omega))
    clear hsi kG
    go_simp
    clear d0 d1 d2 f0 f1 f2
    refine hK.out _ (zU Ya7 gsa 0 [.slice pa1 pn1 pc1, .slice pb1 pm1 pf1, .bool Si.bad]) gI.out (fun _=> ?_)
    generalize zU Ya7 gsa 0 _=Y9a at zdX zfq gI ⊢
    clear hK K
    refine zy 13 17 ?z9c rfl ?zlG (gI.out) ?_
    case zlG=>(intro _ _;go_simp<;>rfl)
    simp only [Act.put,za,ze,zh]
    refine wpAnyH_done (by kernel_rfl) ?_ _
    refine NoPanic.normal ?_
    go_wp2_with fail
    go_meet
    case rel=>exact⟨gsa,pa1,pb1,pn1,pc1,pm1,pf1,rfl,rfl,zdX.out,zfq.out,gI.out⟩
  case rest=>
   obtain⟨gsa,pa1,pb1,pn1,pc1,pm1,pf1,rfl,rfl,zdX,zfq,gI⟩:=hcut
   obtain⟨Y9a,rfl⟩:∃Y:World,Y=wc:=⟨_,rfl⟩
   obtain⟨-, -, -, -, -, -, -, -,x0',x1',x2'⟩:=HC9.out wo (Below.refl _ _)
   have znG:Hid (∀y,Below Y9a.heap.size Y9a y->y.cell? ⟨gx,0,none⟩=some (.int .i64 vars)/\y.cell? ⟨gx,1,none⟩=some (.int .i64 dom)/\y.cell? ⟨gx,2,none⟩=some (.slice ca cn cc)/\y.cell? ⟨gx+1,0,none⟩=some (.int .i64 mod)/\y.cell? ⟨gx+1,1,none⟩=some (.int .i64 bnd)/\y.cell? ⟨gx+2,0,none⟩=some (.slice ta n qm)/\y.cell? ⟨gx+2,1,none⟩=some (.slice ma mn xV)/\y.cell? ⟨gx+2,2,none⟩=some (.bool bad)/\y.cell? ⟨mb,mo+i*3,none⟩=some (.int .i64 ki)/\y.cell? ⟨mb,mo+i*3+1,none⟩=some (.int .i64 ti)/\y.cell? ⟨mb,mo+i*3+2,none⟩=some (.int .i64 vi)):=fun y hy=>by
    obtain⟨p0,p1,p2,p3,p4,p5,p6,p7,p8,p9,p10⟩:=xD.out y (zF (zF xg.out gI.out) hy)
    exact⟨p0,p1,p2,p3,p4,p5,p6,p7,zl (zF gI.out hy) _ _ x0',zl (zF gI.out hy) _ _ x1',zl (zF gI.out hy) _ _ x2'⟩
   clear x0' x1' x2'
   clear HC9
   go_upto_region 10 with fail
   go_cut [18,19] (fun s18 s19 w'=>∃(g:Nat) (a b:Option Addr) (n c k f:Nat),s18= .pointer (some ⟨g,0,none⟩)/\s19= .int .i64 0/\Hid (w'.heap[g]? =some (.cells #[.slice a n c, .slice b k f, .bool Si.bad] 30 (0,0)))/\Hid (zZ w' Si (.slice a n c) (.slice b k f))/\Hid (Below Y9a.heap.size Y9a w'))
   case first=>
    refine wp_region_noPanic ?_
    refine wp_region_held_drew (S:=fun x=>Below Y9a.heap.size Y9a x) (by kernel_rfl) (Below.refl _ _).drew (fun _=> ?_)
    obtain⟨V1b,hV1⟩:∃V1,V1=Y9a.drew:=⟨_,rfl⟩
    have kS:Hid (Below Y9a.heap.size Y9a V1b):=by rw [hV1];exact(Below.refl _ _).drew
    rw [<-hV1]
    clear hV1
    refine zy 0 88 ?zLh rfl ?z5G (kS.out) ?_
    case z5G=>(intro x h;have e:=znG.out x h;go_simp<;>rfl)
    simp only [Act.put,za,ze,zh]
    refine zy 1 89 ?zLi rfl ?z5H (kS.out) ?_
    case z5H=>(intro x h;have e:=znG.out x h;go_simp<;>rfl)
    simp only [Act.put,za,ze,zh]
    refine zy 2 90 ?zLj rfl ?z5I (kS.out) ?_
    case z5I=>(intro x h;have e:=znG.out x h;go_simp<;>rfl)
    simp only [Act.put,za,ze,zh]
    refine zy 3 91 ?zLk rfl ?z5J (kS.out) ?_
    case z5J=>(intro _ _;go_simp<;>rfl)
    simp only [Act.put,za,ze,zh]
    refine zy 4 92 ?zLl rfl ?z5K (kS.out) ?_
    case z5K=>(intro _ _;go_simp<;>rfl)
    simp only [Act.put,za,ze,zh]
    refine zy 5 93 ?zLm rfl ?z5L (kS.out) ?_
    case z5L=>(intro _ _;go_simp<;>rfl)
    simp only [Act.put,za,ze,zh]
    refine zy 6 94 ?zLn rfl ?z5M (kS.out) ?_
    case z5M=>(intro x h;have e:=znG.out x h;go_simp<;>rfl)
    simp only [Act.put,za,ze,zh]
    refine wpAnyH_ready (rs:= [7,11]) (by kernel_rfl) (by simp) ?_
    refine AllReadyH.cons rfl (fun K hK=> ?_) (AllReadyH.cons rfl (fun K hK=> ?_) AllReadyH.nil)
    ·skip
     go_simp
     refine(HRI.out V1b (yu.out _ (zF xg.out (zF gI.out kS.out)))).mono ?_
     rintro e Yb1 ⟨⟨qa1,qb1,qn1,qc1,qm1,qf1,rfl,hs⟩,hb⟩
     have z5N:=qh hs
     have zhe:=qh (zF kS.out hb)
     clear hs hb
     refine hK.out _ _ zhe.out (fun _=> ?_)
     clear hK K
     refine zy 8 87 ?zLo rfl ?z5O (zhe.out) ?_
     case z5O=>(intro _ _;go_simp<;>rfl)
     simp only [Act.put,za,ze,zh]
     refine zy 9 96 ?zLp rfl ?z5P (zhe.out) ?_
     case z5P=>(intro _ _;go_simp<;>rfl)
     simp only [Act.put,za,ze,zh]
     refine zy 10 97 ?zLq rfl ?z5Q (zhe.out) ?_
     case z5Q=>(intro _ _;go_simp<;>rfl)
     simp only [Act.put,za,ze,zh]
     refine zY 11 rfl (fun K hK=> ?_)
     go_simp
     have hz:=yD Yb1 (.cells #[.slice none 0 0, .slice none 0 0, .bool false] 30)
     have hb:=(Below.refl Yb1.heap.size Yb1).alloc (Nat.le_refl _) (.cells #[.slice none 0 0, .slice none 0 0, .bool false] 30)
     have kG:Hid (Y9a.heap.size<=Yb1.heap.size):=(zhe.out).size
     have zuU:=qh (z5N.out.below hb)
     have znH:=qh (zF zhe.out hb)
     clear hb
     refine hK.out _ _ znH.out (fun _=> ?_)
     obtain⟨gsb,hgs⟩:∃g,g=Yb1.heap.size:=⟨_,rfl⟩
     rw [<-hgs] at hz kG ⊢
     clear hgs
     generalize World.alloc Yb1 _=Yb3 at hz zuU znH ⊢
     have zbK:=qh hz
     clear hz
     clear hK K
     refine zY 12 rfl (fun K hK=> ?_)
     have d0:=zi zbK.out 0
     have d1:=zi zbK.out 1
     have d2:=zi zbK.out 2
     have f0:=zB zbK.out 0
     have f1:=zB zbK.out 1
     have f2:=zB zbK.out 2
     have zbX:=qh (xG (cs:= [.slice none 0 0, .slice none 0 0, .bool false]) [.slice qa1 qn1 qc1, .slice qb1 qm1 qf1, .bool Si.bad] rfl zbK.out)
     have hsi:=yP (g:=gsb) [.slice qa1 qn1 qc1, .slice qb1 qm1 qf1, .bool Si.bad] Yb3 0
     have zfr:=qh (wX zuU.out zbK.out hsi)
     have zal:Hid (Below Y9a.heap.size Y9a (zU Yb3 gsb 0 [.slice qa1 qn1 qc1, .slice qb1 qm1 qf1, .bool Si.bad])):=(znH.out).trans (hsi.below (znH.out).size (fun k hk=>by have:=kG.out;omega))
     clear hsi kG
     go_simp
     clear d0 d1 d2 f0 f1 f2
     refine hK.out _ (zU Yb3 gsb 0 [.slice qa1 qn1 qc1, .slice qb1 qm1 qf1, .bool Si.bad]) zal.out (fun _=> ?_)
     generalize zU Yb3 gsb 0 _=Y9b at zbX zfr zal ⊢
     clear hK K
     refine zy 13 19 ?zLr rfl ?z5R (zal.out) ?_
     case z5R=>(intro _ _;go_simp<;>rfl)
     simp only [Act.put,za,ze,zh]
     refine wpAnyH_done (by kernel_rfl) ?_ _
     refine NoPanic.normal ?_
     go_wp2_with fail
     go_meet
     case rel=>exact⟨gsb,qa1,qb1,qn1,qc1,qm1,qf1,rfl,rfl,zbX.out,zfr.out,zal.out⟩
    ·skip
     go_simp
     have hz:=yD V1b (.cells #[.slice none 0 0, .slice none 0 0, .bool false] 30)
     have hb:=(Below.refl V1b.heap.size V1b).alloc (Nat.le_refl _) (.cells #[.slice none 0 0, .slice none 0 0, .bool false] 30)
     have kG:Hid (Y9a.heap.size<=V1b.heap.size):=(kS.out).size
     have znI:=qh (zF kS.out hb)
     clear hb
     refine hK.out _ _ znI.out (fun _=> ?_)
     obtain⟨gsb,hgs⟩:∃g,g=V1b.heap.size:=⟨_,rfl⟩
     rw [<-hgs] at hz kG ⊢
     clear hgs
     generalize World.alloc V1b _=Yb5 at hz znI ⊢
     have zuW:=qh hz
     clear hz
     clear hK K
     refine zY 7 rfl (fun K hK=> ?_)
     go_simp
     refine(HRI.out Yb5 (yu.out _ (zF xg.out (zF gI.out znI.out)))).mono ?_
     rintro e Yb7 ⟨⟨qa1,qb1,qn1,qc1,qm1,qf1,rfl,hs⟩,hb⟩
     have zbL:=qh ((hb.block gsb (zw zuW.out)).trans zuW.out)
     have z5S:=qh hs
     have zhf:=qh (zF znI.out hb)
     clear hs hb
     refine hK.out _ _ zhf.out (fun _=> ?_)
     clear hK K
     refine zy 8 87 ?zLs rfl ?z5T (zhf.out) ?_
     case z5T=>(intro _ _;go_simp<;>rfl)
     simp only [Act.put,za,ze,zh]
     refine zy 9 96 ?zLt rfl ?z5U (zhf.out) ?_
     case z5U=>(intro _ _;go_simp<;>rfl)
     simp only [Act.put,za,ze,zh]
     refine zy 10 97 ?zLu rfl ?z5V (zhf.out) ?_
     case z5V=>(intro _ _;go_simp<;>rfl)
     simp only [Act.put,za,ze,zh]
     refine zY 12 rfl (fun K hK=> ?_)
     have d0:=zi zbL.out 0
     have d1:=zi zbL.out 1
     have d2:=zi zbL.out 2
     have f0:=zB zbL.out 0
     have f1:=zB zbL.out 1
     have f2:=zB zbL.out 2
     have zbX:=qh (xG (cs:= [.slice none 0 0, .slice none 0 0, .bool false]) [.slice qa1 qn1 qc1, .slice qb1 qm1 qf1, .bool Si.bad] rfl zbL.out)
     have hsi:=yP (g:=gsb) [.slice qa1 qn1 qc1, .slice qb1 qm1 qf1, .bool Si.bad] Yb7 0
     have zfr:=qh (wX z5S.out zbL.out hsi)
     have zal:Hid (Below Y9a.heap.size Y9a (zU Yb7 gsb 0 [.slice qa1 qn1 qc1, .slice qb1 qm1 qf1, .bool Si.bad])):=(zhf.out).trans (hsi.below (zhf.out).size (fun k hk=>by have:=kG.out;omega))
     clear hsi kG
     go_simp
     clear d0 d1 d2 f0 f1 f2
     refine hK.out _ (zU Yb7 gsb 0 [.slice qa1 qn1 qc1, .slice qb1 qm1 qf1, .bool Si.bad]) zal.out (fun _=> ?_)
     generalize zU Yb7 gsb 0 _=Y9b at zbX zfr zal ⊢
     clear hK K
     refine zy 13 19 ?zLv rfl ?z5W (zal.out) ?_
     case z5W=>(intro _ _;go_simp<;>rfl)
     simp only [Act.put,za,ze,zh]
     refine wpAnyH_done (by kernel_rfl) ?_ _
     refine NoPanic.normal ?_
     go_wp2_with fail
     go_meet
     case rel=>exact⟨gsb,qa1,qb1,qn1,qc1,qm1,qf1,rfl,rfl,zbX.out,zfr.out,zal.out⟩
   case rest=>
    obtain⟨gsb,qa1,qb1,qn1,qc1,qm1,qf1,rfl,rfl,zbX,zfr,zal⟩:=hcut
    obtain⟨Y9b,rfl⟩:∃Y:World,Y=wc:=⟨_,rfl⟩
    have znJ:=qh ((zal.out.block gsa (zw zdX.out)).trans zdX.out)
    have zCd:=qh (zfq.out.below zal.out)
    go_upto_region 11 with fail
    obtain⟨si1,zfb⟩:∃b,b=Si.bad:=⟨_,rfl⟩
    rw [<-zfb] at zbX znJ
    have HSI:=qh zfb
    clear zfb
    have t0:=zi znJ.out 0
    have t1:=zi znJ.out 1
    have t2:=zi znJ.out 2
    have u0:=zi zbX.out 0
    have u1:=zi zbX.out 1
    have u2:=zi zbX.out 2
    have yE:=qh (zF zP.out (zF gI.out zal.out))
    go_wp2_with(go_at_call 17;go_must(refine(zgG.out Y9b Si _ _ _ _ _ _ _ _ _ _ _ _ _ HSI.out zCd.out zfr.out).mono ?_);rintro e Z ⟨rfl,hb⟩;(have bg:=qh (zF yE.out hb));clear hb)
    go_roundg (q - (i+1))
    case measure=>rw [HG.out];omega
    case rel=>exact⟨i+1,by omega,rfl,by simp,bg.out⟩
end Go.Proofs.YtliajkheeniljaaGreatDoor
