/- Steps. -/
import Derived.Test.YteggflahafiieaaGreatDoorZgPTryQ
set_option linter.all false
namespace Go.Proofs.YteggflahafiieaaGreatDoor
open Go.RowKit
set_option maxRecDepth 100000
set_option maxHeartbeats 16000000
theorem zln (w:World) (c:zK) (cv:Value) (d:Nat) (hc:yZ d w cv c.threads) (m:zF) (s:zm) (sv mv:Value) (hs:yh w s sv mv) (hb:∀j,j<s.threads.length->(s.threads.getD j default).buf.length<=1000000) (hf:xR c m s=true) (i:Nat) (hi:i<s.threads.length) (kind vr:Int):
  Calls Tryz.prog 33 #[yT c cv,xD m,yR s sv mv, .agg #[.int .i64 kind, .int .i64 (i:Int), .int .i64 vr]] w (zgb w (Follows w s sv mv) (wS c m s i kind vr d)):=by
 obtain⟨hco, -,hlen,hml,zlE⟩:=bD hf
 have hbd:=qA hco
 have hic:i<c.threads.length:=by omega
 have zdw:=zlE i hi
 have hfl:=λhv=>zaC hf hi (v:=vr) hv
 obtain⟨R,hR⟩:∃R,R=wS c m s i kind vr d:=⟨_,rfl⟩
 have hR1:kind=1->vr=0->R=_:=λh1 h2=>hR.trans (zrV h1 h2)
 have hR2:kind=2->R=_:=λh1=>hR.trans (zqi h1 (λhv=>(hfl hv).2.2))
 have hR3:¬(kind=1/\vr=0)->¬kind=2->R=none:=λh1 h2=>hR.trans (zrW h1 h2)
 rw [<-hR]
 clear hR
 obtain⟨ca,cc,rfl, -⟩:=ze.slice hc
 obtain⟨ta,vE,rfl, -⟩:=ze.slice hs.threads
 obtain⟨ma,qN,rfl, -⟩:=ze.slice hs.mem
 obtain⟨bs,hbs,hsrc,hts,hone⟩:=SrcOf.threads hs.threads
 have zw1:SrcOf w (.slice ma s.mem.length qN) s.mem.length 1 (zl yO s.mem):=SrcOf.of_slice (R:=uQ) (by decide) uZ (λ_ _ _ h=>h) hs.mem
 obtain⟨eb,eo,ba,bc,yG, -,hrl,q0,q1,q2,q3,q4,q5,hbf⟩:=qj.part hs.threads i hi
 subst yG
 obtain⟨kb,ko,ka,kc,hka, -,hrow,hins⟩:=yZ.part hc i hic
 subst hka
 have hbl:=hb i hi
 have hx:∀j,j<(c.threads.getD i []).length->zlF s.mem.length ((c.threads.getD i []).getD j default):=λj hj=>by
  have h1:=zgu hco hic hj
  exact⟨⟨h1.2.1,h1.2.2.1⟩,⟨h1.2.2.2.1,by rw [hml];exact h1.2.2.2.2⟩,zx0 hco hic hj⟩
 have zyW:=λx (hx:Below w.heap.size w x)=>zlG x _ s.mem.length _ (zw1.below hx) (λu hu=>by obtain⟨z, -,rfl⟩:∃z,z∈s.mem/\u= .int .i64 z:=(by unfold zl yO at hu;simpa [eq_comm] using hu);rfl) (by omega)
 have zyX:=λx (hx:Below w.heap.size w x)=>zgv x _ s.threads.length _ (hsrc.below hx) hone (by omega)
 obtain⟨T,hT⟩:∃t,t=s.threads.getD i default:=⟨_,rfl⟩
 rw [<-hT] at hrl q0 q1 q2 q3 q4 q5 hbf hbl hR1 hR2 zdw hfl
 obtain⟨pc,regs,buf⟩:=T
 obtain⟨g0,g1,g2,g3,rfl⟩:=jS hrl
 simp only [List.getD_cons_zero,List.getD_cons_succ] at q0 q1 q2 q3 q4 q5 hbf hbl hR1 hR2 zdw hfl
 obtain⟨pc,rfl⟩:∃k:Nat,pc=(k:Int):=⟨pc.toNat,by omega⟩
 simp only [Int.toNat_natCast] at hR1
 have hstep:∀W1 B gr mb mc,xq (.slice ba buf.length bc) W1 B gr (pc:Int) g0 g1 g2 g3 buf (.slice ba buf.length bc) m c.domain s.mem mb mc s.bad->B<=W1.heap.size->Below w.heap.size w W1->w.heap.size<=B->Calls Tryz.prog 65 #[.pointer (some ⟨gr,0,none⟩), .slice ka (c.threads.getD i []).length kc] W1 λe w'=>
   qo (.slice ba buf.length bc) W1 B gr m c.domain mb mc (if (pc:Int)<((c.threads.getD i []).length:Int) then stepT c m s ⟨(pc:Int), [g0,g1,g2,g3],buf⟩ ((c.threads.getD i []).getD pc default) d else none) e w':=λW1 B gr mb mc hr hB h0 hw=>zrX hr hB (by omega) (by omega) d _ _ hins h0 hw hx hbl
 have zlH:∀W1 B gr mb mc,xq (.slice ba buf.length bc) W1 B gr (pc:Int) g0 g1 g2 g3 buf (.slice ba buf.length bc) m c.domain s.mem mb mc s.bad->B<=W1.heap.size->Calls Tryz.prog 66 #[.pointer (some ⟨gr,0,none⟩), .int .i64 vr] W1 λe w'=>
   qo (.slice ba buf.length bc) W1 B gr m c.domain mb mc (if vr∈yD buf m.model then some (⟨(pc:Int), [g0,g1,g2,g3],(takeB buf vr).2⟩,s.mem.set vr.toNat ((takeB buf vr).1.getD default).n,s.bad) else none) e w':=λW1 B gr mb mc hr hB=>zqj hr hB hbl vr (λhv=>by obtain⟨h1,h2,h3⟩:=hfl hv;exact⟨h1,by rw [hml];exact h2,h3⟩)
 obtain⟨res1,zw2⟩:∃r,r=(if (pc:Int)<((c.threads.getD i []).length:Int) then stepT c m s ⟨(pc:Int), [g0,g1,g2,g3],buf⟩ ((c.threads.getD i []).getD pc default) d else none):=⟨_,rfl⟩
 obtain⟨res2,hres2⟩:∃r:Option (zo × List Int × Bool),r=(if vr∈yD buf m.model then some (⟨(pc:Int), [g0,g1,g2,g3],(takeB buf vr).2⟩,s.mem.set vr.toNat ((takeB buf vr).1.getD default).n,s.bad) else none):=⟨_,rfl⟩
 rw [<-zw2] at hstep hR1
 rw [<-hres2] at zlH hR2
 clear zw2 hres2 hfl hx hins
 have zcr:=λ(V:World) (B mb mc:Nat) (h1:Below w.heap.size w V) h2 h3 h4=>zuB (V:=V) (B:=B) (mb:=mb) (mc:=mc) (pc:=(pc:Int)) (r0:=g0) (r1:=g1) (r2:=g2) (r3:=g3) (dom:=c.domain) (m:=m) (mem:=s.mem) (bad:=s.bad) hbf h1 h2 h3 h4
 have hvi:=zx1 hsrc rfl hi q5
 have zqk:=λ(w5 w6:World) (B gr gs mb mc tb cc':Nat) (pc' r0 r1 r2 r3:Int) (buf':List zi) (bv:Value) (mem':List Int) (bad':Bool) (sa ma':Option Addr) (sn sc mn0 mc1:Nat) (h:xq (.slice ba buf.length bc) w5 B gr pc' r0 r1 r2 r3 buf' bv m c.domain mem' mb mc bad') h2 h3 h4 h5 h6 h7 hwB Z hZ=>zuC (w:=w) (w6:=w6) (gs:=gs) (tb:=tb) (cc:=cc') (i:=i) (zuD:=s.bad) (ts:=s.threads) (bs:=bs) (sa:=sa) (ma:=ma') (sn:=sn) (sc:=sc) (mn0:=mn0) (qN:=mc1) h h2 h3 h4 h5 h6 h7 hi hbs hts hs rfl hsrc hvi hwB Z hZ
 generalize Follows w s (.slice (some ⟨eb,eo,none⟩) s.threads.length vE) (.slice ma s.mem.length qN)=FW at zqk ⊢
 have hold:∀k,k<6->∃u,(zU s.threads bs)[i*6+k]? =some u:=λk hk=>by
  rw [qV hi hk]
  rcases k with _|_|_|_|_|_|k
  ·exact⟨_,rfl⟩
  ·exact⟨_,rfl⟩
  ·exact⟨_,rfl⟩
  ·exact⟨_,rfl⟩
  ·exact⟨_,rfl⟩
  ·exact⟨_,rfl⟩
  omega
 have zuE:0<s.mem.length:=by omega
 have zql:0<s.threads.length:=by omega
 have hLS:zqm s i=λr=>(⟨s.threads.set i r.1,r.2.1,r.2.2⟩:zm):=rfl
 rw [hLS] at hR1 hR2
 clear hLS
 have HR1:=qh hR1
 have HR2:=qh hR2
 have HR3:=qh hR3
 have zuF:=qh zyW
 have zqn:=qh zyX
 have wu:=qh hstep
 have zcb:=qh zlH
 have zcs:=qh zcr
 have zgw:=qh zqk
 have HOLD:=qh hold
 clear hR1 hR2 hR3 zyW zyX hstep zlH zcr zqk hold hco hlen hml zlE hbd zdw hb hs hc hbs hsrc hts hone zw1 hbl hf hbf
 obtain⟨vars,dom,cs⟩:=c
 obtain⟨mod,bnd⟩:=m
 obtain⟨ts,mem,bad⟩:=s
 simp only [] at hT hi hic hrow zuE zql HR1 HR2 zuF zqn wu zcb zcs zgw HOLD ⊢
 unfold yT xD yR
 simp only []
 obtain⟨n,hn⟩:∃n,n=ts.length:=⟨_,rfl⟩
 obtain⟨cn,hcn⟩:∃cn,cn=cs.length:=⟨_,rfl⟩
 obtain⟨ln,hln⟩:∃x,x=(cs.getD i []).length:=⟨_,rfl⟩
 obtain⟨mn,hmn⟩:∃mn,mn=mem.length:=⟨_,rfl⟩
 obtain⟨un,hun⟩:∃n,n=buf.length:=⟨_,rfl⟩
 rw [<-hn] at hi zql zqn zgw ⊢
 rw [<-hcn] at hic ⊢
 rw [<-hln] at hrow wu
 rw [<-hmn] at zuE zuF zcs ⊢
 rw [<-hun] at q5 wu zcb zcs zgw
 have HN:=qh hn
 have vW:=qh hmn
 have hiI:(i:Int)<(n:Int):=by omega
 have zA3:(i:Int)<(cn:Int):=by omega
 clear hn hcn hln hmn hun hT hrl
 obtain⟨hB,h1,h2,h3,h4,h5⟩:=zaV w (.cells #[.int .i64 vars, .int .i64 dom, .slice (some ⟨kb,ko,none⟩) cn cc] 26) (.cells #[.int .i64 mod, .int .i64 bnd] 31) (.cells #[.slice (some ⟨eb,eo,none⟩) n vE, .slice ma mn qN, .bool bad] 35) (.cells #[.int .i64 kind, .int .i64 (i:Int), .int .i64 vr] 43) (.cells #[.slice none 0 0, .slice none 0 0, .bool false] 35)
 have HB:=qh hB
 have H1:=qh h1
 have H2:=qh h2
 have H3:=qh h3
 have H4:=qh h4
 have H5:=qh h5
 have HQ:Hid (∀x,Below w.heap.size w x->(x.cell? ⟨eb,eo+i*6,none⟩=some (.int .i64 (pc:Int))/\x.cell? ⟨eb,eo+i*6+1,none⟩=some (.int .i64 g0)/\x.cell? ⟨eb,eo+i*6+2,none⟩=some (.int .i64 g1)/\x.cell? ⟨eb,eo+i*6+3,none⟩=some (.int .i64 g2)/\x.cell? ⟨eb,eo+i*6+4,none⟩=some (.int .i64 g3)/\x.cell? ⟨eb,eo+i*6+5,none⟩=some (.slice ba un bc))/\x.cell? ⟨kb,ko+i,none⟩=some (.slice ka ln kc)):=λx hx=>
  ⟨⟨zh hx _ _ q0,zh hx _ _ q1,zh hx _ _ q2,zh hx _ _ q3,zh hx _ _ q4,zh hx _ _ q5⟩,zh hx _ _ hrow⟩
 clear hB h1 h2 h3 h4 h5 q0 q1 q2 q3 q4 q5 hrow
 go_enter Tryz.func33,Tryz.ntmps33
 go_upto_region 1 with fail
 generalize World.alloc (World.alloc (World.alloc (World.alloc (World.alloc w _) _) _) _) _=W at HB H1 H2 H3 H4 H5 ⊢
 obtain⟨gx,hgx⟩:∃gx,gx=w.heap.size:=⟨_,rfl⟩
 rw [<-hgx] at H1 H2 H3 H4 H5 ⊢
 have yV:=qh hgx
 clear hgx
 have xJ:Hid (∀y,Below W.heap.size W y->y.cell? ⟨gx,1,none⟩=some (.int .i64 dom)/\y.cell? ⟨gx+1,0,none⟩=some (.int .i64 mod)/\y.cell? ⟨gx+1,1,none⟩=some (.int .i64 bnd)/\y.cell? ⟨gx+2,0,none⟩=some (.slice (some ⟨eb,eo,none⟩) n vE)/\y.cell? ⟨gx+2,1,none⟩=some (.slice ma mn qN)/\y.cell? ⟨gx+2,2,none⟩=some (.bool bad)/\
   y.cell? ⟨gx+3,0,none⟩=some (.int .i64 kind)/\y.cell? ⟨gx+3,1,none⟩=some (.int .i64 (i:Int))/\y.cell? ⟨gx+3,2,none⟩=some (.int .i64 vr)/\y.cell? ⟨gx,2,none⟩=some (.slice (some ⟨kb,ko,none⟩) cn cc)/\
   y.cell? ⟨eb,eo+i*6,none⟩=some (.int .i64 (pc:Int))/\y.cell? ⟨eb,eo+i*6+1,none⟩=some (.int .i64 g0)/\y.cell? ⟨eb,eo+i*6+2,none⟩=some (.int .i64 g1)/\y.cell? ⟨eb,eo+i*6+3,none⟩=some (.int .i64 g2)/\y.cell? ⟨eb,eo+i*6+4,none⟩=some (.int .i64 g3)/\y.cell? ⟨eb,eo+i*6+5,none⟩=some (.slice ba un bc)/\y.cell? ⟨kb,ko+i,none⟩=some (.slice ka ln kc)):=λy hx=>by
  obtain⟨⟨p0,p1,p2,p3,p4,p5⟩,p6⟩:=HQ.out y (HB.out.trans (hx.mono HB.out.size))
  exact⟨zh hx _ _ (za H1.out 1),zh hx _ _ (za H2.out 0),zh hx _ _ (za H2.out 1),zh hx _ _ (za H3.out 0),zh hx _ _ (za H3.out 1),zh hx _ _ (za H3.out 2),zh hx _ _ (za H4.out 0),zh hx _ _ (za H4.out 1),zh hx _ _ (za H4.out 2),zh hx _ _ (za H1.out 2),p0,p1,p2,p3,p4,p5,p6⟩
 clear HQ
 refine vJ (S:=λx=>Below W.heap.size W x) ((Below.refl _ _).drew) (λhH=> ?_)
 refine zk 0 xJ.out ?_
 refine zk 1 xJ.out ?_
 refine zk 2 xJ.out ?_
 refine zk 3 xJ.out ?_
 refine zk 4 xJ.out ?_
 refine zk 5 xJ.out ?_
 refine zk 6 xJ.out ?_
 refine zk 7 xJ.out ?_
 refine zk 8 xJ.out ?_
 refine zk 9 xJ.out ?_
 refine zk 10 xJ.out ?_
 refine zk 12 xJ.out ?_
 refine zk 13 xJ.out ?_
 refine yw 11 rfl (λK hK=> ?_)
 go_simp
 refine(zuF.out W.drew (HB.out.trans ((hH).mono HB.out.size))).mono ?_
 rintro e zaY ⟨⟨mba,mcc,rfl,hmr⟩,hb⟩
 obtain⟨mb,rfl⟩:=zuG hmr (by rw [<-vW.out];exact zuE)
 have HMR:=qh (xX hmr (Below.refl _ _))
 clear hmr
 have zgx:Below W.heap.size W zaY:=zB hH hb
 refine hK.out _ _ zgx (λ_=> ?_)
 clear hK K hb hH
 refine zk 14 xJ.out ?_
 refine yw 15 rfl (λK hK=> ?_)
 go_simp
 have HWV:=qh zgx
 have z1E:=(zgx).alloc (zgx).size (.cells #[.int .i64 (pc:Int), .int .i64 g0, .int .i64 g1, .int .i64 g2, .int .i64 g3, .slice ba un bc, .int .i64 mod, .int .i64 bnd, .int .i64 dom, .slice (some ⟨mb,0,none⟩) mn mcc, .bool bad] 142)
 refine hK.out _ _ z1E (λ_=> ?_)
 clear hK K zgx
 refine zk 16 xJ.out ?_
 refine xM ?_
 go_upto_region 3 with fail
 have HV:Hid (Below W.heap.size W zaY/\zaY.ownsRow W.heap.size 3 1 (.slice (some ⟨mb,0,none⟩) mn mcc) mn (zl yO mem)):=⟨HWV.out,HMR.out⟩
 have zgW:=qh (zcs.out zaY W.heap.size mb mcc (HB.out.trans (HV.out.1.mono HB.out.size)) HB.out.size HV.out.1.size HV.out.2)
 have HW1:Hid (Below W.heap.size W (zaY.alloc (.cells #[.int .i64 (pc:Int), .int .i64 g0, .int .i64 g1, .int .i64 g2, .int .i64 g3, .slice ba un bc, .int .i64 mod, .int .i64 bnd, .int .i64 dom, .slice (some ⟨mb,0,none⟩) mn mcc, .bool bad] 142))):=HV.out.1.alloc HV.out.1.size _
 generalize World.alloc zaY _=W1 at zgW HW1 ⊢
 obtain⟨gr,hgr⟩:∃g,g=zaY.heap.size:=⟨_,rfl⟩
 rw [<-hgr] at zgW ⊢
 clear hgr
 obtain⟨-, -, -, -, -, -,k0,k1,k2,k3, -, -, -, -, -, -,k4⟩:=xJ.out W1 HW1.out
 by_cases hk1:kind=1
 rotate_left
 ·by_cases hk2:kind=2
  rotate_left
  ·have hk3:((kind:Int)==1)=false:=by simp [hk1]
   have hk4:((kind:Int)==2)=false:=by simp [hk2]
   have hr:=HR3.out (λh=>hk1 h.1) hk2
   have HRR:=qh hr
   clear hr HR1 HR2 HR3 wu zcb hk1 hk2
   clear k3 k4
   have hr:R=none:=HRR.out
   have jr:=qh hr
   clear hr
   obtain⟨⟨q0,q1,q2⟩,⟨f0,f1,f2⟩,hend⟩:=gY (w:=w) ((HW1.out.block (gx+4) (zq H5.out)).trans H5.out) (HB.out.trans (HW1.out.mono HB.out.size)) (by rw [yV.out];omega)
   obtain⟨hset, -,hbe⟩:=hend (.slice none 0 0) (.slice none 0 0) (.bool false)
   have zI:=qh hset
   have yH:=qh hbe
   clear hset hbe hend
   go_wp2_with fail
   (try simp only [Exit.inBlock,Exit.then])
   refine bodyPost_ret (zy rfl _ _ (gx+4) 35 _ (0,0) _ rfl zI.out Tryz.underlying35 rfl zC) rfl ?_
   exact⟨yH.out, .inl ⟨jr.out,rfl⟩⟩
  subst hk2
  have HRR:=qh (HR2.out rfl)
  clear HR1 HR2 HR3 wu hk1
  go_wp2_with fail
  refine(zcb.out W1 W.heap.size gr mb mcc zgW.out HW1.out.size).mono ?_
  rintro e W3 ⟨hbe,⟨hres,rfl⟩|⟨⟨tp,trg,tbf⟩,mem',bad',bv,hres,rfl,zfp,hrun⟩⟩
  ·have HW3:Hid (Below W.heap.size W W3):=HW1.out.trans hbe
   clear k0 k1 k2 k3 k4 hbe
   have hr:R=none:=by rw [HRR.out,hres];rfl
   have jr:=qh hr
   clear hr
   obtain⟨⟨q0,q1,q2⟩,⟨f0,f1,f2⟩,hend⟩:=gY (w:=w) ((HW3.out.block (gx+4) (zq H5.out)).trans H5.out) (HB.out.trans (HW3.out.mono HB.out.size)) (by rw [yV.out];omega)
   obtain⟨hset, -,hbe⟩:=hend (.slice none 0 0) (.slice none 0 0) (.bool false)
   have zI:=qh hset
   have yH:=qh hbe
   clear hset hbe hend
   go_wp2_with fail
   (try simp only [Exit.inBlock,Exit.then])
   refine bodyPost_ret (zy rfl _ _ (gx+4) 35 _ (0,0) _ rfl zI.out Tryz.underlying35 rfl zC) rfl ?_
   exact⟨yH.out, .inl ⟨jr.out,rfl⟩⟩
  have HW3:Hid (Below W.heap.size W W3):=HW1.out.trans hbe
  clear k0 k1 k2 k3 k4 hbe
  simp only [] at hres zfp hrun
  obtain⟨r0,r1,r2,r3,rfl⟩:=jS zfp
  simp only [List.getD_cons_zero,List.getD_cons_succ] at hrun
  obtain⟨xa,xc,rfl, -⟩:=ze.slice hrun.qJ
  obtain⟨xn,hxn⟩:∃n,n=tbf.length:=⟨_,rfl⟩
  rw [<-hxn] at hrun
  clear hxn
  have hr:R=some ⟨ts.set i ⟨tp, [r0,r1,r2,r3],tbf⟩,mem',bad'⟩:=by rw [HRR.out,hres];rfl
  have HRS:=qh hr
  have wZ:=qh hrun
  clear hr hres zfp hrun zgW
  have jQ:Hid (W3.heap[gx+2]? =some (.cells #[.slice (some ⟨eb,eo,none⟩) n vE, .slice ma mn qN, .bool bad] 35 (0,0))):=(HW3.out.block _ (zq H3.out)).trans H3.out
  have p0:W3.cell? ⟨gx+2,0,none⟩=some (.slice (some ⟨eb,eo,none⟩) n vE):=za jQ.out 0
  go_wp2_with fail
  refine(zqn.out W3 (HB.out.trans (HW3.out.mono HB.out.size))).mono ?_
  rintro e W4 ⟨⟨tba,tcc,rfl,hrw⟩,hb4⟩
  obtain⟨tb,rfl⟩:=zeJ hrw (by rw [<-HN.out];exact zql)
  have HRW:=qh hrw
  have vL:=qh hb4
  clear hrw hb4 p0
  have j4:Hid (W4.heap[gx+2]? =some (.cells #[.slice (some ⟨eb,eo,none⟩) n vE, .slice ma mn qN, .bool bad] 35 (0,0))):=(vL.out.block _ (zq jQ.out)).trans jQ.out
  have p0:W4.cell? ⟨gx+2,0,none⟩=some (.slice (some ⟨eb,eo,none⟩) n vE):=za j4.out 0
  have p1:W4.frozen? ⟨gx+2,0,none⟩=false:=zw j4.out 0
  go_upto_region 10 with fail
  clear p0 p1
  have HNE:Hid (tb≠gx+2/\gx+3≠gx+2/\gr≠gx+2):=⟨by have:=(HRW.out.lt tb rfl).1;have:=zq jQ.out;omega,by omega,by have:=wZ.out.base;have:=zq H3.out;omega⟩
  have HSX:Hid (Since (λk=>k=gx+2) W4 (W4.setCell ⟨gx+2,0,none⟩ (.slice (some ⟨tb,0,none⟩) n tcc))):=Since.setCell (F:=λk=>k=gx+2) (p:=⟨gx+2,0,none⟩) (Since.refl _ _) (.inl rfl) _
  have pK:Hid ((W4.setCell ⟨gx+2,0,none⟩ (.slice (some ⟨tb,0,none⟩) n tcc)).heap[gx+2]? =some (.cells #[.slice (some ⟨tb,0,none⟩) n tcc, .slice ma mn qN, .bool bad] 35 (0,0))):=zu j4.out 0 _
  obtain⟨X,hX⟩:∃X,X=W4.setCell ⟨gx+2,0,none⟩ (.slice (some ⟨tb,0,none⟩) n tcc):=⟨_,rfl⟩
  rw [<-hX] at HSX pK ⊢
  have HXE:=qh hX
  clear hX
  have uw:=qh (HSX.out.row HRW.out (λk hk e=>by cases hk;exact HNE.out.1 e))
  have HR4:=qh (wZ.out.below vL.out)
  have wT:Hid (X.heap[gr]? =_):=(HSX.out.block gr (zq HR4.out.block) HNE.out.2.2).trans HR4.out.block
  have zuH:Hid (X.heap[gx+3]? =_):=(HSX.out.block (gx+3) (Nat.lt_of_lt_of_le (zq H4.out) (Nat.le_trans HW3.out.size vL.out.size)) HNE.out.2.1).trans ((vL.out.block _ (Nat.lt_of_lt_of_le (zq H4.out) HW3.out.size)).trans ((HW3.out.block _ (zq H4.out)).trans H4.out))
  have C4:Hid (∀x,Below X.heap.size X x->x.cell? ⟨gx+2,0,none⟩=some (.slice (some ⟨tb,0,none⟩) n tcc)/\x.cell? ⟨gx+3,1,none⟩=some (.int .i64 (i:Int))/\x.cell? ⟨gr,0,none⟩=some (.int .i64 tp)/\x.cell? ⟨gr,1,none⟩=some (.int .i64 r0)/\x.cell? ⟨gr,2,none⟩=some (.int .i64 r1)/\x.cell? ⟨gr,3,none⟩=some (.int .i64 r2)/\x.cell? ⟨gr,4,none⟩=some (.int .i64 r3)/\x.cell? ⟨gr,5,none⟩=some (.slice xa xn xc)/\x.cell? ⟨gr,9,none⟩=some (.slice (some ⟨mb,0,none⟩) mem'.length mcc)/\x.cell? ⟨gr,10,none⟩=some (.bool bad')):=λx hx=>⟨zh hx _ _ (za pK.out 0),zh hx _ _ (za zuH.out 1),zh hx _ _ (za wT.out 0),zh hx _ _ (za wT.out 1),zh hx _ _ (za wT.out 2),zh hx _ _ (za wT.out 3),zh hx _ _ (za wT.out 4),zh hx _ _ (za wT.out 5),zh hx _ _ (za wT.out 9),zh hx _ _ (za wT.out 10)⟩
  obtain⟨⟨v0,hv0⟩,⟨v1,hv1⟩,⟨v2,hv2⟩,⟨v3,hv3⟩,⟨v4,hv4⟩,⟨v5,hv5⟩⟩:=(⟨HOLD.out 0 (by omega),HOLD.out 1 (by omega),HOLD.out 2 (by omega),HOLD.out 3 (by omega),HOLD.out 4 (by omega),HOLD.out 5 (by omega)⟩:(∃u,(zU ts bs)[i*6+0]? =some u)/\(∃u,(zU ts bs)[i*6+1]? =some u)/\(∃u,(zU ts bs)[i*6+2]? =some u)/\(∃u,(zU ts bs)[i*6+3]? =some u)/\(∃u,(zU ts bs)[i*6+4]? =some u)/\(∃u,(zU ts bs)[i*6+5]? =some u))
  obtain⟨t0,u0⟩:X.cell? ⟨tb,i*6,none⟩=some v0/\X.frozen? ⟨tb,i*6,none⟩=false:=by obtain⟨g,cap,he, -,h1,h2⟩:=qX uw.out hv0;cases he;exact⟨h1,h2⟩
  obtain⟨t1,u1⟩:X.cell? ⟨tb,i*6+1,none⟩=some v1/\X.frozen? ⟨tb,i*6+1,none⟩=false:=by obtain⟨g,cap,he, -,h1,h2⟩:=qX uw.out hv1;cases he;exact⟨h1,h2⟩
  obtain⟨t2,u2⟩:X.cell? ⟨tb,i*6+2,none⟩=some v2/\X.frozen? ⟨tb,i*6+2,none⟩=false:=by obtain⟨g,cap,he, -,h1,h2⟩:=qX uw.out hv2;cases he;exact⟨h1,h2⟩
  obtain⟨t3,u3⟩:X.cell? ⟨tb,i*6+3,none⟩=some v3/\X.frozen? ⟨tb,i*6+3,none⟩=false:=by obtain⟨g,cap,he, -,h1,h2⟩:=qX uw.out hv3;cases he;exact⟨h1,h2⟩
  obtain⟨t4,u4⟩:X.cell? ⟨tb,i*6+4,none⟩=some v4/\X.frozen? ⟨tb,i*6+4,none⟩=false:=by obtain⟨g,cap,he, -,h1,h2⟩:=qX uw.out hv4;cases he;exact⟨h1,h2⟩
  obtain⟨t5,u5⟩:X.cell? ⟨tb,i*6+5,none⟩=some v5/\X.frozen? ⟨tb,i*6+5,none⟩=false:=by obtain⟨g,cap,he, -,h1,h2⟩:=qX uw.out hv5;cases he;exact⟨h1,h2⟩
  clear hv0 hv1 hv2 hv3 hv4 hv5
  have xH:Hid (Since (λk=>k=tb) X ((((((X.setCell ⟨tb,i*6,none⟩ (.int .i64 tp)).setCell ⟨tb,i*6+1,none⟩ (.int .i64 r0)).setCell ⟨tb,i*6+2,none⟩ (.int .i64 r1)).setCell ⟨tb,i*6+3,none⟩ (.int .i64 r2)).setCell ⟨tb,i*6+4,none⟩ (.int .i64 r3)).setCell ⟨tb,i*6+5,none⟩ (.slice xa xn xc))):=(((((((Since.refl (λk=>k=tb) X).setCell (p:=⟨tb,i*6,none⟩) (.inl rfl) (.int .i64 tp)).setCell (p:=⟨tb,i*6+1,none⟩) (.inl rfl) (.int .i64 r0)).setCell (p:=⟨tb,i*6+2,none⟩) (.inl rfl) (.int .i64 r1)).setCell (p:=⟨tb,i*6+3,none⟩) (.inl rfl) (.int .i64 r2)).setCell (p:=⟨tb,i*6+4,none⟩) (.inl rfl) (.int .i64 r3)).setCell (p:=⟨tb,i*6+5,none⟩) (.inl rfl) (.slice xa xn xc))
  have HGN:=qh ((xH.out.block (gx+2) (zq pK.out) (λe=>HNE.out.1 e.symm)).trans pK.out)
  have n1:((((((X.setCell ⟨tb,i*6,none⟩ (.int .i64 tp)).setCell ⟨tb,i*6+1,none⟩ (.int .i64 r0)).setCell ⟨tb,i*6+2,none⟩ (.int .i64 r1)).setCell ⟨tb,i*6+3,none⟩ (.int .i64 r2)).setCell ⟨tb,i*6+4,none⟩ (.int .i64 r3)).setCell ⟨tb,i*6+5,none⟩ (.slice xa xn xc)).cell? ⟨gx+2,1,none⟩=some (.slice ma mn qN):=za HGN.out 1
  have n2:((((((X.setCell ⟨tb,i*6,none⟩ (.int .i64 tp)).setCell ⟨tb,i*6+1,none⟩ (.int .i64 r0)).setCell ⟨tb,i*6+2,none⟩ (.int .i64 r1)).setCell ⟨tb,i*6+3,none⟩ (.int .i64 r2)).setCell ⟨tb,i*6+4,none⟩ (.int .i64 r3)).setCell ⟨tb,i*6+5,none⟩ (.slice xa xn xc)).cell? ⟨gx+2,2,none⟩=some (.bool bad):=za HGN.out 2
  have n3:X.frozen? ⟨gx+2,1,none⟩=false:=zw pK.out 1
  have n4:X.frozen? ⟨gx+2,2,none⟩=false:=zw pK.out 2
  refine wp_region_noPanic ?_
  refine yS (n0:=17) (S:=λx=>Below X.heap.size X x) (by kernel_rfl) ((Below.refl _ _).drew) (λhZ=> ?_)
  refine zP 0 (λ_=>hZ) ?_
  refine vK [16,17,18,19,20,21] 1 C4.out hZ ?_
  refine zP 2 (λ_=>hZ) ?_
  refine vK [16,17,18,19,20,21] 3 C4.out hZ ?_
  refine zP 4 (λ_=>hZ) ?_
  refine zP 5 (λ_=>hZ) ?_
  refine zP 6 (λ_=>hZ) ?_
  refine vK [16,17,18,19,20,21] 7 C4.out hZ ?_
  refine zP 8 (λ_=>hZ) ?_
  refine zP 9 (λ_=>hZ) ?_
  refine zP 10 (λ_=>hZ) ?_
  refine vK [16,17,18,19,20,21] 11 C4.out hZ ?_
  refine zP 12 (λ_=>hZ) ?_
  refine zP 13 (λ_=>hZ) ?_
  refine zP 14 (λ_=>hZ) ?_
  refine vK [16,17,18,19,20,21] 15 C4.out hZ ?_
  refine zP 16 (λ_=>hZ) ?_
  refine jD 17 rfl (λK hK=> ?_)
  go_simp
  refine hK.out _ _ (λh=>absurd rfl h) ?_
  clear hK K
  refine zP 18 (λh=>absurd h (by decide+kernel)) ?_
  refine jD 19 rfl (λK hK=> ?_)
  go_simp
  refine hK.out _ _ (λ_ h=>absurd h (by decide+kernel)) ?_
  clear hK K
  refine zP 20 (λh=>absurd h (by decide+kernel)) ?_
  refine jD 21 rfl (λK hK=> ?_)
  go_simp
  refine hK.out _ _ (λ_ h=>absurd h (by decide+kernel)) ?_
  clear hK K
  refine xO (by kernel_rfl) ?_ _
  refine NoPanic.normal ?_
  clear n1 n2 n3 n4 t0 u0 t1 u1 t2 u2 t3 u3 t4 u4 t5 u5
  go_upto_region 11 with fail
  obtain⟨hst,hzb,hzs,hzw⟩:=zgw.out _ _ _ _ _ _ _ _ _ _ _ _ _ _ _ _ _ _ _ _ _ _ _ _ wZ.out jQ.out (zq H3.out) (by rw [yV.out];omega) (HB.out.trans (HW3.out.mono HB.out.size)) HRW.out vL.out HB.out.size (((((((((X.setCell ⟨tb,i*6,none⟩ (.int .i64 tp)).setCell ⟨tb,i*6+1,none⟩ (.int .i64 r0)).setCell ⟨tb,i*6+2,none⟩ (.int .i64 r1)).setCell ⟨tb,i*6+3,none⟩ (.int .i64 r2)).setCell ⟨tb,i*6+4,none⟩ (.int .i64 r3)).setCell ⟨tb,i*6+5,none⟩ (.slice xa xn xc)).setCell ⟨gx+2,1,none⟩ (.slice (some ⟨mb,0,none⟩) mem'.length mcc)).setCell ⟨gx+2,2,none⟩ (.bool bad')).drew) (by rw [HXE.out];exact zlJ _ _ _ _ _ _ _ _ _ _ _ _ _ _ _ _ _)
  have HG5:Hid (X.heap[gx+4]? =_):=(HSX.out.block (gx+4) (Nat.lt_of_lt_of_le (zq H5.out) (Nat.le_trans HW3.out.size vL.out.size)) (by omega)).trans ((vL.out.block _ (Nat.lt_of_lt_of_le (zq H5.out) HW3.out.size)).trans ((HW3.out.block _ (zq H5.out)).trans H5.out))
  have zfq:=(hzs.block (gx+4) (Nat.lt_of_lt_of_le (zq H5.out) (Nat.le_trans HW3.out.size vL.out.size)) (by have:=(HRW.out.lt tb rfl).1;have:=HW3.out.size;have:=zq H5.out;omega)).trans ((vL.out.block _ (Nat.lt_of_lt_of_le (zq H5.out) HW3.out.size)).trans ((HW3.out.block _ (zq H5.out)).trans H5.out))
  generalize ((((((((X.setCell ⟨tb,i*6,none⟩ (.int .i64 tp)).setCell ⟨tb,i*6+1,none⟩ (.int .i64 r0)).setCell ⟨tb,i*6+2,none⟩ (.int .i64 r1)).setCell ⟨tb,i*6+3,none⟩ (.int .i64 r2)).setCell ⟨tb,i*6+4,none⟩ (.int .i64 r3)).setCell ⟨tb,i*6+5,none⟩ (.slice xa xn xc)).setCell ⟨gx+2,1,none⟩ (.slice (some ⟨mb,0,none⟩) mem'.length mcc)).setCell ⟨gx+2,2,none⟩ (.bool bad')).drew=Z at hst hzb hzs hzw zfq ⊢
  have z0:Z.cell? ⟨gx+2,0,none⟩=some (.slice (some ⟨tb,0,none⟩) n tcc):=za hzb 0
  have z1:Z.cell? ⟨gx+2,1,none⟩=some (.slice (some ⟨mb,0,none⟩) mem'.length mcc):=za hzb 1
  have z2:Z.cell? ⟨gx+2,2,none⟩=some (.bool bad'):=za hzb 2
  obtain⟨⟨q0,q1,q2⟩,⟨f0,f1,f2⟩,hend⟩:=gY (w:=w) zfq hzw (by rw [yV.out];omega)
  obtain⟨hset,hsi,hbe⟩:=hend (.slice (some ⟨tb,0,none⟩) n tcc) (.slice (some ⟨mb,0,none⟩) mem'.length mcc) (.bool bad')
  have yL:=qh (hst (gx+4) _ (by rw [yV.out];omega) (zq H5.out) hsi)
  have zI:=qh hset
  have yH:=qh hbe
  clear hset hbe hend hsi hst hzb hzs hzw zfq
  go_wp2_with fail
  (try simp only [Exit.inBlock,Exit.then])
  refine bodyPost_ret (zy rfl _ _ (gx+4) 35 _ (0,0) _ rfl zI.out Tryz.underlying35 rfl zC) rfl ?_
  exact⟨yH.out, .inr ⟨_,_,_,_,_,_,_,HRS.out,rfl,yL.out⟩⟩
 subst hk1
 by_cases hv0:vr=0
 rotate_left
 ·have hv1:((vr:Int)==0)=false:=by simp [hv0]
  have hr:=HR3.out (λh=>hv0 h.2) (by omega)
  have HRR:=qh hr
  clear hr HR1 HR2 HR3 wu zcb hv0
  clear k3 k4
  have hr:R=none:=HRR.out
  have jr:=qh hr
  clear hr
  obtain⟨⟨q0,q1,q2⟩,⟨f0,f1,f2⟩,hend⟩:=gY (w:=w) ((HW1.out.block (gx+4) (zq H5.out)).trans H5.out) (HB.out.trans (HW1.out.mono HB.out.size)) (by rw [yV.out];omega)
  obtain⟨hset, -,hbe⟩:=hend (.slice none 0 0) (.slice none 0 0) (.bool false)
  have zI:=qh hset
  have yH:=qh hbe
  clear hset hbe hend
  go_wp2_with fail
  (try simp only [Exit.inBlock,Exit.then])
  refine bodyPost_ret (zy rfl _ _ (gx+4) 35 _ (0,0) _ rfl zI.out Tryz.underlying35 rfl zC) rfl ?_
  exact⟨yH.out, .inl ⟨jr.out,rfl⟩⟩
 subst hv0
 have HRR:=qh (HR1.out rfl rfl)
 clear HR1 HR2 HR3 zcb
 go_wp2_with fail
 refine(wu.out W1 W.heap.size gr mb mcc zgW.out HW1.out.size (HB.out.trans (HW1.out.mono HB.out.size)) HB.out.size).mono ?_
 rintro e W3 ⟨hbe,⟨hres,rfl⟩|⟨⟨tp,trg,tbf⟩,mem',bad',bv,hres,rfl,zfp,hrun⟩⟩
 ·have HW3:Hid (Below W.heap.size W W3):=HW1.out.trans hbe
  clear k0 k1 k2 k3 k4 hbe
  have hr:R=none:=by rw [HRR.out,hres];rfl
  have jr:=qh hr
  clear hr
  obtain⟨⟨q0,q1,q2⟩,⟨f0,f1,f2⟩,hend⟩:=gY (w:=w) ((HW3.out.block (gx+4) (zq H5.out)).trans H5.out) (HB.out.trans (HW3.out.mono HB.out.size)) (by rw [yV.out];omega)
  obtain⟨hset, -,hbe⟩:=hend (.slice none 0 0) (.slice none 0 0) (.bool false)
  have zI:=qh hset
  have yH:=qh hbe
  clear hset hbe hend
  go_wp2_with fail
  (try simp only [Exit.inBlock,Exit.then])
  refine bodyPost_ret (zy rfl _ _ (gx+4) 35 _ (0,0) _ rfl zI.out Tryz.underlying35 rfl zC) rfl ?_
  exact⟨yH.out, .inl ⟨jr.out,rfl⟩⟩
 have HW3:Hid (Below W.heap.size W W3):=HW1.out.trans hbe
 clear k0 k1 k2 k3 k4 hbe
 simp only [] at hres zfp hrun
 obtain⟨r0,r1,r2,r3,rfl⟩:=jS zfp
 simp only [List.getD_cons_zero,List.getD_cons_succ] at hrun
 obtain⟨xa,xc,rfl, -⟩:=ze.slice hrun.qJ
 obtain⟨xn,hxn⟩:∃n,n=tbf.length:=⟨_,rfl⟩
 rw [<-hxn] at hrun
 clear hxn
 have hr:R=some ⟨ts.set i ⟨tp, [r0,r1,r2,r3],tbf⟩,mem',bad'⟩:=by rw [HRR.out,hres];rfl
 have HRS:=qh hr
 have wZ:=qh hrun
 clear hr hres zfp hrun zgW
 have jQ:Hid (W3.heap[gx+2]? =some (.cells #[.slice (some ⟨eb,eo,none⟩) n vE, .slice ma mn qN, .bool bad] 35 (0,0))):=(HW3.out.block _ (zq H3.out)).trans H3.out
 have p0:W3.cell? ⟨gx+2,0,none⟩=some (.slice (some ⟨eb,eo,none⟩) n vE):=za jQ.out 0
 go_wp2_with fail
 refine(zqn.out W3 (HB.out.trans (HW3.out.mono HB.out.size))).mono ?_
 rintro e W4 ⟨⟨tba,tcc,rfl,hrw⟩,hb4⟩
 obtain⟨tb,rfl⟩:=zeJ hrw (by rw [<-HN.out];exact zql)
 have HRW:=qh hrw
 have vL:=qh hb4
 clear hrw hb4 p0
 have j4:Hid (W4.heap[gx+2]? =some (.cells #[.slice (some ⟨eb,eo,none⟩) n vE, .slice ma mn qN, .bool bad] 35 (0,0))):=(vL.out.block _ (zq jQ.out)).trans jQ.out
 have p0:W4.cell? ⟨gx+2,0,none⟩=some (.slice (some ⟨eb,eo,none⟩) n vE):=za j4.out 0
 have p1:W4.frozen? ⟨gx+2,0,none⟩=false:=zw j4.out 0
 go_upto_region 10 with fail
 clear p0 p1
 have HNE:Hid (tb≠gx+2/\gx+3≠gx+2/\gr≠gx+2):=⟨by have:=(HRW.out.lt tb rfl).1;have:=zq jQ.out;omega,by omega,by have:=wZ.out.base;have:=zq H3.out;omega⟩
 have HSX:Hid (Since (λk=>k=gx+2) W4 (W4.setCell ⟨gx+2,0,none⟩ (.slice (some ⟨tb,0,none⟩) n tcc))):=Since.setCell (F:=λk=>k=gx+2) (p:=⟨gx+2,0,none⟩) (Since.refl _ _) (.inl rfl) _
 have pK:Hid ((W4.setCell ⟨gx+2,0,none⟩ (.slice (some ⟨tb,0,none⟩) n tcc)).heap[gx+2]? =some (.cells #[.slice (some ⟨tb,0,none⟩) n tcc, .slice ma mn qN, .bool bad] 35 (0,0))):=zu j4.out 0 _
 obtain⟨X,hX⟩:∃X,X=W4.setCell ⟨gx+2,0,none⟩ (.slice (some ⟨tb,0,none⟩) n tcc):=⟨_,rfl⟩
 rw [<-hX] at HSX pK ⊢
 have HXE:=qh hX
 clear hX
 have uw:=qh (HSX.out.row HRW.out (λk hk e=>by cases hk;exact HNE.out.1 e))
 have HR4:=qh (wZ.out.below vL.out)
 have wT:Hid (X.heap[gr]? =_):=(HSX.out.block gr (zq HR4.out.block) HNE.out.2.2).trans HR4.out.block
 have zuH:Hid (X.heap[gx+3]? =_):=(HSX.out.block (gx+3) (Nat.lt_of_lt_of_le (zq H4.out) (Nat.le_trans HW3.out.size vL.out.size)) HNE.out.2.1).trans ((vL.out.block _ (Nat.lt_of_lt_of_le (zq H4.out) HW3.out.size)).trans ((HW3.out.block _ (zq H4.out)).trans H4.out))
 have C4:Hid (∀x,Below X.heap.size X x->x.cell? ⟨gx+2,0,none⟩=some (.slice (some ⟨tb,0,none⟩) n tcc)/\x.cell? ⟨gx+3,1,none⟩=some (.int .i64 (i:Int))/\x.cell? ⟨gr,0,none⟩=some (.int .i64 tp)/\x.cell? ⟨gr,1,none⟩=some (.int .i64 r0)/\x.cell? ⟨gr,2,none⟩=some (.int .i64 r1)/\x.cell? ⟨gr,3,none⟩=some (.int .i64 r2)/\x.cell? ⟨gr,4,none⟩=some (.int .i64 r3)/\x.cell? ⟨gr,5,none⟩=some (.slice xa xn xc)/\x.cell? ⟨gr,9,none⟩=some (.slice (some ⟨mb,0,none⟩) mem'.length mcc)/\x.cell? ⟨gr,10,none⟩=some (.bool bad')):=λx hx=>⟨zh hx _ _ (za pK.out 0),zh hx _ _ (za zuH.out 1),zh hx _ _ (za wT.out 0),zh hx _ _ (za wT.out 1),zh hx _ _ (za wT.out 2),zh hx _ _ (za wT.out 3),zh hx _ _ (za wT.out 4),zh hx _ _ (za wT.out 5),zh hx _ _ (za wT.out 9),zh hx _ _ (za wT.out 10)⟩
 obtain⟨⟨v0,hv0⟩,⟨v1,hv1⟩,⟨v2,hv2⟩,⟨v3,hv3⟩,⟨v4,hv4⟩,⟨v5,hv5⟩⟩:=(⟨HOLD.out 0 (by omega),HOLD.out 1 (by omega),HOLD.out 2 (by omega),HOLD.out 3 (by omega),HOLD.out 4 (by omega),HOLD.out 5 (by omega)⟩:(∃u,(zU ts bs)[i*6+0]? =some u)/\(∃u,(zU ts bs)[i*6+1]? =some u)/\(∃u,(zU ts bs)[i*6+2]? =some u)/\(∃u,(zU ts bs)[i*6+3]? =some u)/\(∃u,(zU ts bs)[i*6+4]? =some u)/\(∃u,(zU ts bs)[i*6+5]? =some u))
 obtain⟨t0,u0⟩:X.cell? ⟨tb,i*6,none⟩=some v0/\X.frozen? ⟨tb,i*6,none⟩=false:=by obtain⟨g,cap,he, -,h1,h2⟩:=qX uw.out hv0;cases he;exact⟨h1,h2⟩
 obtain⟨t1,u1⟩:X.cell? ⟨tb,i*6+1,none⟩=some v1/\X.frozen? ⟨tb,i*6+1,none⟩=false:=by obtain⟨g,cap,he, -,h1,h2⟩:=qX uw.out hv1;cases he;exact⟨h1,h2⟩
 obtain⟨t2,u2⟩:X.cell? ⟨tb,i*6+2,none⟩=some v2/\X.frozen? ⟨tb,i*6+2,none⟩=false:=by obtain⟨g,cap,he, -,h1,h2⟩:=qX uw.out hv2;cases he;exact⟨h1,h2⟩
 obtain⟨t3,u3⟩:X.cell? ⟨tb,i*6+3,none⟩=some v3/\X.frozen? ⟨tb,i*6+3,none⟩=false:=by obtain⟨g,cap,he, -,h1,h2⟩:=qX uw.out hv3;cases he;exact⟨h1,h2⟩
 obtain⟨t4,u4⟩:X.cell? ⟨tb,i*6+4,none⟩=some v4/\X.frozen? ⟨tb,i*6+4,none⟩=false:=by obtain⟨g,cap,he, -,h1,h2⟩:=qX uw.out hv4;cases he;exact⟨h1,h2⟩
 obtain⟨t5,u5⟩:X.cell? ⟨tb,i*6+5,none⟩=some v5/\X.frozen? ⟨tb,i*6+5,none⟩=false:=by obtain⟨g,cap,he, -,h1,h2⟩:=qX uw.out hv5;cases he;exact⟨h1,h2⟩
 clear hv0 hv1 hv2 hv3 hv4 hv5
 have xH:Hid (Since (λk=>k=tb) X ((((((X.setCell ⟨tb,i*6,none⟩ (.int .i64 tp)).setCell ⟨tb,i*6+1,none⟩ (.int .i64 r0)).setCell ⟨tb,i*6+2,none⟩ (.int .i64 r1)).setCell ⟨tb,i*6+3,none⟩ (.int .i64 r2)).setCell ⟨tb,i*6+4,none⟩ (.int .i64 r3)).setCell ⟨tb,i*6+5,none⟩ (.slice xa xn xc))):=(((((((Since.refl (λk=>k=tb) X).setCell (p:=⟨tb,i*6,none⟩) (.inl rfl) (.int .i64 tp)).setCell (p:=⟨tb,i*6+1,none⟩) (.inl rfl) (.int .i64 r0)).setCell (p:=⟨tb,i*6+2,none⟩) (.inl rfl) (.int .i64 r1)).setCell (p:=⟨tb,i*6+3,none⟩) (.inl rfl) (.int .i64 r2)).setCell (p:=⟨tb,i*6+4,none⟩) (.inl rfl) (.int .i64 r3)).setCell (p:=⟨tb,i*6+5,none⟩) (.inl rfl) (.slice xa xn xc))
 have HGN:=qh ((xH.out.block (gx+2) (zq pK.out) (λe=>HNE.out.1 e.symm)).trans pK.out)
 have n1:((((((X.setCell ⟨tb,i*6,none⟩ (.int .i64 tp)).setCell ⟨tb,i*6+1,none⟩ (.int .i64 r0)).setCell ⟨tb,i*6+2,none⟩ (.int .i64 r1)).setCell ⟨tb,i*6+3,none⟩ (.int .i64 r2)).setCell ⟨tb,i*6+4,none⟩ (.int .i64 r3)).setCell ⟨tb,i*6+5,none⟩ (.slice xa xn xc)).cell? ⟨gx+2,1,none⟩=some (.slice ma mn qN):=za HGN.out 1
 have n2:((((((X.setCell ⟨tb,i*6,none⟩ (.int .i64 tp)).setCell ⟨tb,i*6+1,none⟩ (.int .i64 r0)).setCell ⟨tb,i*6+2,none⟩ (.int .i64 r1)).setCell ⟨tb,i*6+3,none⟩ (.int .i64 r2)).setCell ⟨tb,i*6+4,none⟩ (.int .i64 r3)).setCell ⟨tb,i*6+5,none⟩ (.slice xa xn xc)).cell? ⟨gx+2,2,none⟩=some (.bool bad):=za HGN.out 2
 have n3:X.frozen? ⟨gx+2,1,none⟩=false:=zw pK.out 1
 have n4:X.frozen? ⟨gx+2,2,none⟩=false:=zw pK.out 2
 refine wp_region_noPanic ?_
 refine yS (n0:=17) (S:=λx=>Below X.heap.size X x) (by kernel_rfl) ((Below.refl _ _).drew) (λhZ=> ?_)
 refine zP 0 (λ_=>hZ) ?_
 refine vK [16,17,18,19,20,21] 1 C4.out hZ ?_
 refine zP 2 (λ_=>hZ) ?_
 refine vK [16,17,18,19,20,21] 3 C4.out hZ ?_
 refine zP 4 (λ_=>hZ) ?_
 refine zP 5 (λ_=>hZ) ?_
 refine zP 6 (λ_=>hZ) ?_
 refine vK [16,17,18,19,20,21] 7 C4.out hZ ?_
 refine zP 8 (λ_=>hZ) ?_
 refine zP 9 (λ_=>hZ) ?_
 refine zP 10 (λ_=>hZ) ?_
 refine vK [16,17,18,19,20,21] 11 C4.out hZ ?_
 refine zP 12 (λ_=>hZ) ?_
 refine zP 13 (λ_=>hZ) ?_
 refine zP 14 (λ_=>hZ) ?_
 refine vK [16,17,18,19,20,21] 15 C4.out hZ ?_
 refine zP 16 (λ_=>hZ) ?_
 refine jD 17 rfl (λK hK=> ?_)
 go_simp
 refine hK.out _ _ (λh=>absurd rfl h) ?_
 clear hK K
 refine zP 18 (λh=>absurd h (by decide+kernel)) ?_
 refine jD 19 rfl (λK hK=> ?_)
 go_simp
 refine hK.out _ _ (λ_ h=>absurd h (by decide+kernel)) ?_
 clear hK K
 refine zP 20 (λh=>absurd h (by decide+kernel)) ?_
 refine jD 21 rfl (λK hK=> ?_)
 go_simp
 refine hK.out _ _ (λ_ h=>absurd h (by decide+kernel)) ?_
 clear hK K
 refine xO (by kernel_rfl) ?_ _
 refine NoPanic.normal ?_
 clear n1 n2 n3 n4 t0 u0 t1 u1 t2 u2 t3 u3 t4 u4 t5 u5
 go_upto_region 11 with fail
 obtain⟨hst,hzb,hzs,hzw⟩:=zgw.out _ _ _ _ _ _ _ _ _ _ _ _ _ _ _ _ _ _ _ _ _ _ _ _ wZ.out jQ.out (zq H3.out) (by rw [yV.out];omega) (HB.out.trans (HW3.out.mono HB.out.size)) HRW.out vL.out HB.out.size (((((((((X.setCell ⟨tb,i*6,none⟩ (.int .i64 tp)).setCell ⟨tb,i*6+1,none⟩ (.int .i64 r0)).setCell ⟨tb,i*6+2,none⟩ (.int .i64 r1)).setCell ⟨tb,i*6+3,none⟩ (.int .i64 r2)).setCell ⟨tb,i*6+4,none⟩ (.int .i64 r3)).setCell ⟨tb,i*6+5,none⟩ (.slice xa xn xc)).setCell ⟨gx+2,1,none⟩ (.slice (some ⟨mb,0,none⟩) mem'.length mcc)).setCell ⟨gx+2,2,none⟩ (.bool bad')).drew) (by rw [HXE.out];exact zlJ _ _ _ _ _ _ _ _ _ _ _ _ _ _ _ _ _)
 have HG5:Hid (X.heap[gx+4]? =_):=(HSX.out.block (gx+4) (Nat.lt_of_lt_of_le (zq H5.out) (Nat.le_trans HW3.out.size vL.out.size)) (by omega)).trans ((vL.out.block _ (Nat.lt_of_lt_of_le (zq H5.out) HW3.out.size)).trans ((HW3.out.block _ (zq H5.out)).trans H5.out))
 have zfq:=(hzs.block (gx+4) (Nat.lt_of_lt_of_le (zq H5.out) (Nat.le_trans HW3.out.size vL.out.size)) (by have:=(HRW.out.lt tb rfl).1;have:=HW3.out.size;have:=zq H5.out;omega)).trans ((vL.out.block _ (Nat.lt_of_lt_of_le (zq H5.out) HW3.out.size)).trans ((HW3.out.block _ (zq H5.out)).trans H5.out))
 generalize ((((((((X.setCell ⟨tb,i*6,none⟩ (.int .i64 tp)).setCell ⟨tb,i*6+1,none⟩ (.int .i64 r0)).setCell ⟨tb,i*6+2,none⟩ (.int .i64 r1)).setCell ⟨tb,i*6+3,none⟩ (.int .i64 r2)).setCell ⟨tb,i*6+4,none⟩ (.int .i64 r3)).setCell ⟨tb,i*6+5,none⟩ (.slice xa xn xc)).setCell ⟨gx+2,1,none⟩ (.slice (some ⟨mb,0,none⟩) mem'.length mcc)).setCell ⟨gx+2,2,none⟩ (.bool bad')).drew=Z at hst hzb hzs hzw zfq ⊢
 have z0:Z.cell? ⟨gx+2,0,none⟩=some (.slice (some ⟨tb,0,none⟩) n tcc):=za hzb 0
 have z1:Z.cell? ⟨gx+2,1,none⟩=some (.slice (some ⟨mb,0,none⟩) mem'.length mcc):=za hzb 1
 have z2:Z.cell? ⟨gx+2,2,none⟩=some (.bool bad'):=za hzb 2
 obtain⟨⟨q0,q1,q2⟩,⟨f0,f1,f2⟩,hend⟩:=gY (w:=w) zfq hzw (by rw [yV.out];omega)
 obtain⟨hset,hsi,hbe⟩:=hend (.slice (some ⟨tb,0,none⟩) n tcc) (.slice (some ⟨mb,0,none⟩) mem'.length mcc) (.bool bad')
 have yL:=qh (hst (gx+4) _ (by rw [yV.out];omega) (zq H5.out) hsi)
 have zI:=qh hset
 have yH:=qh hbe
 clear hset hbe hend hsi hst hzb hzs hzw zfq
 go_wp2_with fail
 (try simp only [Exit.inBlock,Exit.then])
 refine bodyPost_ret (zy rfl _ _ (gx+4) 35 _ (0,0) _ rfl zI.out Tryz.underlying35 rfl zC) rfl ?_
 exact⟨yH.out, .inr ⟨_,_,_,_,_,_,_,HRS.out,rfl,yL.out⟩⟩
