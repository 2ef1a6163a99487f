/- A move in a state, by the program: the walk. -/
import Derived.Test.YtliajkheeniljaaGreatDoorZaPTryQ
import Derived.Test.YtliajkheeniljaaGreatDoorZaShort
set_option linter.all false
namespace Go.Proofs.YtliajkheeniljaaGreatDoor
open Go.RowKit
set_option maxRecDepth 100000
set_option maxHeartbeats 16000000
theorem zgg (w:World) (c:zS) (cv:Value) (d:Nat) (hc:yF d w cv c.threads) (m:zM) (s:zu) (sv mv:Value) (hs:zN w s sv mv) (hb:∀j,j<s.threads.length->(s.threads.getD j default).buf.length<=1000000) (hf:xX c m s=true) (i:Nat) (hi:i<s.threads.length) (kind vr:Int):
  Calls Tryz.prog 50 #[yD c cv,yR m,zW s sv mv, .agg #[.int .i64 kind, .int .i64 (i:Int), .int .i64 vr]] w (zd7 w (Follows w s sv mv) (jT c m s i kind vr d)):=by
 obtain⟨hco, -,hlen,hml,zgE⟩:=gM hf
 have hbd:=qP hco
 have hic:i<c.threads.length:=by omega
 have zcf:=zgE i hi
 have hfl:=fun hv=>zdJ hf hi (v:=vr) hv
 obtain⟨R,hR⟩:∃R,R=jT c m s i kind vr d:=⟨_,rfl⟩
 have hR1:kind=1->vr=0->R=_:=fun h1 h2=>hR.trans (zm9 h1 h2)
 have hR2:kind=2->R=_:=fun h1=>hR.trans (zjH h1 (fun hv=>(hfl hv).2.2))
 have hR3:¬(kind=1/\vr=0)->¬kind=2->R=none:=fun h1 h2=>hR.trans (zmA h1 h2)
 rw [<-hR]
 clear hR
 obtain⟨ca,cc,rfl, -⟩:=zl.slice hc
 obtain⟨ta,xB,rfl, -⟩:=zl.slice hs.threads
 obtain⟨ma,yZ,rfl, -⟩:=zl.slice hs.mem
 obtain⟨bs,hbs,hsrc,hts,hone⟩:=SrcOf.threads hs.threads
 have zqo:SrcOf w (.slice ma s.mem.length yZ) s.mem.length 1 (zq yE s.mem):=SrcOf.of_slice (R:=jY) (by decide) wO (fun _ _ _ h=>h) hs.mem
 obtain⟨eb,eo,ba,bc,yw, -,hrl,q0,q1,q2,q3,q4,q5,hbf⟩:=xD.part hs.threads i hi
 subst yw
 obtain⟨kb,ko,ka,kc,hka, -,hrow,hins⟩:=yF.part hc i hic
 subst hka
 have hbl:=hb i hi
 have hx:∀j,j<(c.threads.getD i []).length->zgM s.mem.length ((c.threads.getD i []).getD j default):=fun j hj=>by
  have h1:=zdQ hco hic hj
  exact⟨⟨h1.2.1,h1.2.2.1⟩,⟨h1.2.2.2.1,by rw [hml];exact h1.2.2.2.2⟩,zs9 hco hic hj⟩
 have zvF:=fun x (hx:Below w.heap.size w x)=>zgU x _ s.mem.length _ (zqo.below hx) (fun u hu=>by obtain⟨z, -,rfl⟩:∃z,z∈s.mem/\u= .int .i64 z:=(by unfold zq yE at hu;simpa [eq_comm] using hu);rfl) (by omega)
 have zvG:=fun x (hx:Below w.heap.size w x)=>zdZ x _ s.threads.length _ (hsrc.below hx) hone (by omega)
 obtain⟨T,hT⟩:∃t,t=s.threads.getD i default:=⟨_,rfl⟩
 rw [<-hT] at hrl q0 q1 q2 q3 q4 q5 hbf hbl hR1 hR2 zcf hfl
 obtain⟨pc,regs,buf⟩:=T
 obtain⟨g0,g1,g2,g3,rfl⟩:=vT hrl
 simp only [List.getD_cons_zero,List.getD_cons_succ] at q0 q1 q2 q3 q4 q5 hbf hbl hR1 hR2 zcf hfl
 obtain⟨pc,rfl⟩:∃k:Nat,pc=(k:Int):=⟨pc.toNat,by omega⟩
 simp only [Int.toNat_natCast] at hR1
 have hstep:∀W1 B gr mb mc,yL (.slice ba buf.length bc) W1 B gr (pc:Int) g0 g1 g2 g3 buf (.slice ba buf.length bc) m c.domain s.mem mb mc s.bad->B<=W1.heap.size->Below w.heap.size w W1->w.heap.size<=B->Calls Tryz.prog 81 #[.pointer (some ⟨gr,0,none⟩), .slice ka (c.threads.getD i []).length kc] W1 fun e w'=>
   xL (.slice ba buf.length bc) W1 B gr m c.domain mb mc (if (pc:Int)<((c.threads.getD i []).length:Int) then stepT c m s ⟨(pc:Int), [g0,g1,g2,g3],buf⟩ ((c.threads.getD i []).getD pc default) d else none) e w':=fun W1 B gr mb mc hr hB h0 hw=>zmy hr hB (by omega) (by omega) d _ _ hins h0 hw hx hbl
 have zgV:∀W1 B gr mb mc,yL (.slice ba buf.length bc) W1 B gr (pc:Int) g0 g1 g2 g3 buf (.slice ba buf.length bc) m c.domain s.mem mb mc s.bad->B<=W1.heap.size->Calls Tryz.prog 82 #[.pointer (some ⟨gr,0,none⟩), .int .i64 vr] W1 fun e w'=>
   xL (.slice ba buf.length bc) W1 B gr m c.domain mb mc (if vr∈yh buf m.model then some (⟨(pc:Int), [g0,g1,g2,g3],(takeB buf vr).2⟩,s.mem.set vr.toNat ((takeB buf vr).1.getD default).n,s.bad) else none) e w':=fun W1 B gr mb mc hr hB=>zj5 hr hB hbl vr (fun hv=>by obtain⟨h1,h2,h3⟩:=hfl hv;exact⟨h1,by rw [hml];exact h2,h3⟩)
 obtain⟨res1,zqp⟩:∃r,r=(if (pc:Int)<((c.threads.getD i []).length:Int) then stepT c m s ⟨(pc:Int), [g0,g1,g2,g3],buf⟩ ((c.threads.getD i []).getD pc default) d else none):=⟨_,rfl⟩
 obtain⟨res2,hres2⟩:∃r:Option (zw × List Int × Bool),r=(if vr∈yh buf m.model then some (⟨(pc:Int), [g0,g1,g2,g3],(takeB buf vr).2⟩,s.mem.set vr.toNat ((takeB buf vr).1.getD default).n,s.bad) else none):=⟨_,rfl⟩
 rw [<-zqp] at hstep hR1
 rw [<-hres2] at zgV hR2
 clear zqp hres2 hfl hx hins
 have zqq:=fun(V:World) (B mb mc:Nat) (h1:Below w.heap.size w V) h2 h3 h4=>zpi (V:=V) (B:=B) (mb:=mb) (mc:=mc) (pc:=(pc:Int)) (r0:=g0) (r1:=g1) (r2:=g2) (r3:=g3) (dom:=c.domain) (m:=m) (mem:=s.mem) (bad:=s.bad) hbf h1 h2 h3 h4
 have hvi:=zsA hsrc rfl hi q5
 have zjI:=fun(w5 w6:World) (B gr gs mb mc tb cc':Nat) (pc' r0 r1 r2 r3:Int) (buf':List zn) (bv:Value) (mem':List Int) (bad':Bool) (sa ma':Option Addr) (sn sc mn0 mc1:Nat) (h:yL (.slice ba buf.length bc) w5 B gr pc' r0 r1 r2 r3 buf' bv m c.domain mem' mb mc bad') h2 h3 h4 h5 h6 h7 hwB Z hZ=>zpj (w:=w) (w6:=w6) (gs:=gs) (tb:=tb) (cc:=cc') (i:=i) (zpk:=s.bad) (ts:=s.threads) (bs:=bs) (sa:=sa) (ma:=ma') (sn:=sn) (sc:=sc) (mn0:=mn0) (yZ:=mc1) h h2 h3 h4 h5 h6 h7 hi hbs hts hs rfl hsrc hvi hwB Z hZ
 generalize Follows w s (.slice (some ⟨eb,eo,none⟩) s.threads.length xB) (.slice ma s.mem.length yZ)=FW at zjI ⊢
 have hold:∀k,k<6->∃u,(zL s.threads bs)[i*6+k]? =some u:=fun k hk=>by
  rw [qd hi hk]
  rcases k with _|_|_|_|_|_|k
  ·exact⟨_,rfl⟩
  ·exact⟨_,rfl⟩
  ·exact⟨_,rfl⟩
  ·exact⟨_,rfl⟩
  ·exact⟨_,rfl⟩
  ·exact⟨_,rfl⟩
  ·omega
 have zpl:0<s.mem.length:=by omega
 have zjJ:0<s.threads.length:=by omega
 have hLS:zjK s i=fun r=>(⟨s.threads.set i r.1,r.2.1,r.2.2⟩:zu):=rfl
 rw [hLS] at hR1 hR2
 clear hLS
 have HR1:=qh hR1
 have HR2:=qh hR2
 have HR3:=qh hR3
 have zpm:=qh zvF
 have zjL:=qh zvG
 have jC:=qh hstep
 have zaJ:=qh zgV
 have zf9:=qh zqq
 have zea:=qh zjI
 have HOLD:=qh hold
 clear hR1 hR2 hR3 zvF zvG hstep zgV zqq zjI hold hco hlen hml zgE hbd zcf hb hs hc hbs hsrc hts hone zqo hbl hf hbf
 obtain⟨vars,dom,cs⟩:=c
 obtain⟨mod,bnd⟩:=m
 obtain⟨ts,mem,bad⟩:=s
 simp only [] at hT hi hic hrow zpl zjJ HR1 HR2 zpm zjL jC zaJ zf9 zea HOLD ⊢
 unfold yD yR zW
 simp only []
 obtain⟨n,hn⟩:∃n,n=ts.length:=⟨_,rfl⟩
 obtain⟨cn,hcn⟩:∃cn,cn=cs.length:=⟨_,rfl⟩
 obtain⟨ln,hln⟩:∃x,x=(cs.getD i []).length:=⟨_,rfl⟩
 obtain⟨mn,hmn⟩:∃mn,mn=mem.length:=⟨_,rfl⟩
 obtain⟨un,hun⟩:∃n,n=buf.length:=⟨_,rfl⟩
 rw [<-hn] at hi zjJ zjL zea ⊢
 rw [<-hcn] at hic ⊢
 rw [<-hln] at hrow jC
 rw [<-hmn] at zpl zpm zf9 ⊢
 rw [<-hun] at q5 jC zaJ zf9 zea
 have HN:=qh hn
 have vH:=qh hmn
 have hiI:(i:Int)<(n:Int):=by omega
 have zDu:(i:Int)<(cn:Int):=by omega
 clear hn hcn hln hmn hun hT hrl
 obtain⟨hB,h1,h2,h3,h4,h5⟩:=pO w (.cells #[.int .i64 vars, .int .i64 dom, .slice (some ⟨kb,ko,none⟩) cn cc] 24) (.cells #[.int .i64 mod, .int .i64 bnd] 26) (.cells #[.slice (some ⟨eb,eo,none⟩) n xB, .slice ma mn yZ, .bool bad] 30) (.cells #[.int .i64 kind, .int .i64 (i:Int), .int .i64 vr] 32) (.cells #[.slice none 0 0, .slice none 0 0, .bool false] 30)
 have HB:=qh hB
 have H1:=qh h1
 have H2:=qh h2
 have H3:=qh h3
 have H4:=qh h4
 have H5:=qh h5
 have HQ:Hid (∀x,Below w.heap.size w x->(x.cell? ⟨eb,eo+i*6,none⟩=some (.int .i64 (pc:Int))/\x.cell? ⟨eb,eo+i*6+1,none⟩=some (.int .i64 g0)/\x.cell? ⟨eb,eo+i*6+2,none⟩=some (.int .i64 g1)/\x.cell? ⟨eb,eo+i*6+3,none⟩=some (.int .i64 g2)/\x.cell? ⟨eb,eo+i*6+4,none⟩=some (.int .i64 g3)/\x.cell? ⟨eb,eo+i*6+5,none⟩=some (.slice ba un bc))/\x.cell? ⟨kb,ko+i,none⟩=some (.slice ka ln kc)):=fun x hx=>
  ⟨⟨zm hx _ _ q0,zm hx _ _ q1,zm hx _ _ q2,zm hx _ _ q3,zm hx _ _ q4,zm hx _ _ q5⟩,zm hx _ _ hrow⟩
 clear hB h1 h2 h3 h4 h5 q0 q1 q2 q3 q4 q5 hrow
 go_enter Tryz.func50,Tryz.ntmps50
 go_upto_region 1 with fail
 generalize World.alloc (World.alloc (World.alloc (World.alloc (World.alloc w _) _) _) _) _=W at HB H1 H2 H3 H4 H5 ⊢
 obtain⟨gx,hgx⟩:∃gx,gx=w.heap.size:=⟨_,rfl⟩
 rw [<-hgx] at H1 H2 H3 H4 H5 ⊢
 have xO:=qh hgx
 clear hgx
 have yJ:Hid (∀y,Below W.heap.size W y->y.cell? ⟨gx,1,none⟩=some (.int .i64 dom)/\y.cell? ⟨gx+1,0,none⟩=some (.int .i64 mod)/\y.cell? ⟨gx+1,1,none⟩=some (.int .i64 bnd)/\y.cell? ⟨gx+2,0,none⟩=some (.slice (some ⟨eb,eo,none⟩) n xB)/\y.cell? ⟨gx+2,1,none⟩=some (.slice ma mn yZ)/\y.cell? ⟨gx+2,2,none⟩=some (.bool bad)/\
   y.cell? ⟨gx+3,0,none⟩=some (.int .i64 kind)/\y.cell? ⟨gx+3,1,none⟩=some (.int .i64 (i:Int))/\y.cell? ⟨gx+3,2,none⟩=some (.int .i64 vr)/\y.cell? ⟨gx,2,none⟩=some (.slice (some ⟨kb,ko,none⟩) cn cc)/\
   y.cell? ⟨eb,eo+i*6,none⟩=some (.int .i64 (pc:Int))/\y.cell? ⟨eb,eo+i*6+1,none⟩=some (.int .i64 g0)/\y.cell? ⟨eb,eo+i*6+2,none⟩=some (.int .i64 g1)/\y.cell? ⟨eb,eo+i*6+3,none⟩=some (.int .i64 g2)/\y.cell? ⟨eb,eo+i*6+4,none⟩=some (.int .i64 g3)/\y.cell? ⟨eb,eo+i*6+5,none⟩=some (.slice ba un bc)/\y.cell? ⟨kb,ko+i,none⟩=some (.slice ka ln kc)):=fun y hx=>by
  obtain⟨⟨p0,p1,p2,p3,p4,p5⟩,p6⟩:=HQ.out y (HB.out.trans (hx.mono HB.out.size))
  exact⟨zm hx _ _ (zh H1.out 1),zm hx _ _ (zh H2.out 0),zm hx _ _ (zh H2.out 1),zm hx _ _ (zh H3.out 0),zm hx _ _ (zh H3.out 1),zm hx _ _ (zh H3.out 2),zm hx _ _ (zh H4.out 0),zm hx _ _ (zh H4.out 1),zm hx _ _ (zh H4.out 2),zm hx _ _ (zh H1.out 2),p0,p1,p2,p3,p4,p5,p6⟩
 clear HQ
 refine wp_region_noPanic ?_
 refine wp_region_held_drew (S:=fun x=>Below W.heap.size W x) (by kernel_rfl) ((Below.refl _ _).drew) (fun hH=> ?_)
 refine zo 0 12 ?vh1 rfl ?kr ?_
 case kr=>(intro x h;have e:=yJ.out x h;go_simp<;>rfl)
 simp only [Act.put,za,ze,zf]
 refine zo 1 13 ?vh2 rfl ?ku ?_
 case ku=>(intro x h;have e:=yJ.out x h;go_simp<;>rfl)
 simp only [Act.put,za,ze,zf]
 refine zo 2 14 ?vh3 rfl ?kC ?_
 case kC=>(intro x h;have e:=yJ.out x h;go_simp<;>rfl)
 simp only [Act.put,za,ze,zf]
 refine zo 3 15 ?vh4 rfl ?kD ?_
 case kD=>(intro x h;have e:=yJ.out x h;go_simp<;>rfl)
 simp only [Act.put,za,ze,zf]
 refine zo 4 16 ?vh5 rfl ?kE ?_
 case kE=>(intro x h;have e:=yJ.out x h;go_simp<;>rfl)
 simp only [Act.put,za,ze,zf]
 refine zo 5 17 ?vh6 rfl ?kF ?_
 case kF=>(intro x h;have e:=yJ.out x h;go_simp<;>rfl)
 simp only [Act.put,za,ze,zf]
 refine zo 6 18 ?vh7 rfl ?kG ?_
 case kG=>(intro x h;have e:=yJ.out x h;go_simp<;>rfl)
 simp only [Act.put,za,ze,zf]
 refine zo 7 19 ?vh8 rfl ?kH ?_
 case kH=>(intro x h;have e:=yJ.out x h;go_simp<;>rfl)
 simp only [Act.put,za,ze,zf]
 refine zo 8 20 ?vh9 rfl ?wG ?_
 case wG=>(intro x h;have e:=yJ.out x h;go_simp<;>rfl)
 simp only [Act.put,za,ze,zf]
 refine zo 9 21 ?zi3 rfl ?bL ?_
 case bL=>(intro x h;have e:=yJ.out x h;go_simp<;>rfl)
 simp only [Act.put,za,ze,zf]
 refine zo 10 22 ?zom rfl ?zbf ?_
 case zbf=>(intro x h;have e:=yJ.out x h;go_simp<;>rfl)
 simp only [Act.put,za,ze,zf]
 refine zo 12 24 ?z2D rfl ?ziU ?_
 case ziU=>(intro x h;have e:=yJ.out x h;go_simp<;>rfl)
 simp only [Act.put,za,ze,zf]
 refine zo 13 25 ?z2E rfl ?ziV ?_
 case ziV=>(intro x h;have e:=yJ.out x h;go_simp<;>rfl)
 simp only [Act.put,za,ze,zf]
 refine zT 11 rfl (fun K hK=> ?_)
 go_simp
 refine(zpm.out W.drew (HB.out.trans ((hH).mono HB.out.size))).mono ?_
 rintro e pX ⟨⟨mba,bH,rfl,hmr⟩,hb⟩
 obtain⟨mb,rfl⟩:=zpn hmr (by rw [<-vH.out];exact zpl)
 have HMR:=qh (xJ hmr (Below.refl _ _))
 clear hmr
 have zeb:Below W.heap.size W pX:=zB hH hb
 refine hK.out _ _ zeb (fun _=> ?_)
 clear hK K hb hH
 refine zo 14 26 ?z2F rfl ?ziW ?_
 case ziW=>(intro x h;have e:=yJ.out x h;go_simp<;>rfl)
 simp only [Act.put,za,ze,zf]
 refine zT 15 rfl (fun K hK=> ?_)
 go_simp
 have HWV:=qh zeb
 have zyQ:=(zeb).alloc (zeb).size (.cells #[.int .i64 (pc:Int), .int .i64 g0, .int .i64 g1, .int .i64 g2, .int .i64 g3, .slice ba un bc, .int .i64 mod, .int .i64 bnd, .int .i64 dom, .slice (some ⟨mb,0,none⟩) mn bH, .bool bad] 138)
 refine hK.out _ _ zyQ (fun _=> ?_)
 clear hK K zeb
 refine zo 16 10 ?z2G rfl ?ziX ?_
 case ziX=>(intro x h;have e:=yJ.out x h;go_simp<;>rfl)
 simp only [Act.put,za,ze,zf]
 refine wpAnyH_done (by kernel_rfl) ?_ _
 refine NoPanic.normal ?_
 go_upto_region 3 with fail
 have HV:Hid (Below W.heap.size W pX/\pX.ownsRow W.heap.size 3 1 (.slice (some ⟨mb,0,none⟩) mn bH) mn (zq yE mem)):=⟨HWV.out,HMR.out⟩
 have ze7:=qh (zf9.out pX W.heap.size mb bH (HB.out.trans (HV.out.1.mono HB.out.size)) HB.out.size HV.out.1.size HV.out.2)
 have HW1:Hid (Below W.heap.size W (pX.alloc (.cells #[.int .i64 (pc:Int), .int .i64 g0, .int .i64 g1, .int .i64 g2, .int .i64 g3, .slice ba un bc, .int .i64 mod, .int .i64 bnd, .int .i64 dom, .slice (some ⟨mb,0,none⟩) mn bH, .bool bad] 138))):=HV.out.1.alloc HV.out.1.size _
 generalize World.alloc pX _=W1 at ze7 HW1 ⊢
 obtain⟨gr,hgr⟩:∃g,g=pX.heap.size:=⟨_,rfl⟩
 rw [<-hgr] at ze7 ⊢
 clear hgr
 obtain⟨-, -, -, -, -, -,k0,k1,k2,k3, -, -, -, -, -, -,k4⟩:=yJ.out W1 HW1.out
 by_cases hk1:kind=1
 rotate_left
 ·by_cases hk2:kind=2
  rotate_left
  ·have hk3:((kind:Int)==1)=false:=by simp [hk1]
   have hk4:((kind:Int)==2)=false:=by simp [hk2]
   have hr:=HR3.out (fun h=>hk1 h.1) hk2
   have HRR:=qh hr
   clear hr HR1 HR2 HR3 jC zaJ hk1 hk2
   clear k3 k4
   have hr:R=none:=HRR.out
   have vX:=qh hr
   clear hr
   obtain⟨⟨q0,q1,q2⟩,⟨f0,f1,f2⟩,hend⟩:=kX (w:=w) ((HW1.out.block (gx+4) (zJ H5.out)).trans H5.out) (HB.out.trans (HW1.out.mono HB.out.size)) (by rw [xO.out];omega)
   obtain⟨hset, -,hbe⟩:=hend (.slice none 0 0) (.slice none 0 0) (.bool false)
   have zI:=qh hset
   have yg:=qh hbe
   clear hset hbe hend
   go_wp2_with fail
   (try simp only [Exit.inBlock,Exit.then])
   refine bodyPost_ret (zy rfl _ _ (gx+4) 30 _ (0,0) _ rfl zI.out Tryz.underlying30 rfl zC) rfl ?_
   exact⟨yg.out, .inl ⟨vX.out,rfl⟩⟩
  subst hk2
  have HRR:=qh (HR2.out rfl)
  clear HR1 HR2 HR3 jC hk1
  go_wp2_with fail
  refine(zaJ.out W1 W.heap.size gr mb bH ze7.out HW1.out.size).mono ?_
  rintro e W3 ⟨hbe,⟨hres,rfl⟩|⟨⟨tp,trg,tbf⟩,mem',bad',bv,hres,rfl,zdk,hrun⟩⟩
  ·have HW3:Hid (Below W.heap.size W W3):=HW1.out.trans hbe
   clear k0 k1 k2 k3 k4 hbe
   have hr:R=none:=by rw [HRR.out,hres];rfl
   have vX:=qh hr
   clear hr
   obtain⟨⟨q0,q1,q2⟩,⟨f0,f1,f2⟩,hend⟩:=kX (w:=w) ((HW3.out.block (gx+4) (zJ H5.out)).trans H5.out) (HB.out.trans (HW3.out.mono HB.out.size)) (by rw [xO.out];omega)
   obtain⟨hset, -,hbe⟩:=hend (.slice none 0 0) (.slice none 0 0) (.bool false)
   have zI:=qh hset
   have yg:=qh hbe
   clear hset hbe hend
   go_wp2_with fail
   (try simp only [Exit.inBlock,Exit.then])
   refine bodyPost_ret (zy rfl _ _ (gx+4) 30 _ (0,0) _ rfl zI.out Tryz.underlying30 rfl zC) rfl ?_
   exact⟨yg.out, .inl ⟨vX.out,rfl⟩⟩
  ·have HW3:Hid (Below W.heap.size W W3):=HW1.out.trans hbe
   clear k0 k1 k2 k3 k4 hbe
   simp only [] at hres zdk hrun
   obtain⟨r0,r1,r2,r3,rfl⟩:=vT zdk
   simp only [List.getD_cons_zero,List.getD_cons_succ] at hrun
   obtain⟨xa,xc,rfl, -⟩:=zl.slice hrun.xW
   obtain⟨xn,hxn⟩:∃n,n=tbf.length:=⟨_,rfl⟩
   rw [<-hxn] at hrun
   clear hxn
   have hr:R=some ⟨ts.set i ⟨tp, [r0,r1,r2,r3],tbf⟩,mem',bad'⟩:=by rw [HRR.out,hres];rfl
   have HRS:=qh hr
   have jW:=qh hrun
   clear hr hres zdk hrun ze7
   have jk:Hid (W3.heap[gx+2]? =some (.cells #[.slice (some ⟨eb,eo,none⟩) n xB, .slice ma mn yZ, .bool bad] 30 (0,0))):=(HW3.out.block _ (zJ H3.out)).trans H3.out
   have p0:W3.cell? ⟨gx+2,0,none⟩=some (.slice (some ⟨eb,eo,none⟩) n xB):=zh jk.out 0
   go_wp2_with fail
   refine(zjL.out W3 (HB.out.trans (HW3.out.mono HB.out.size))).mono ?_
   rintro e W4 ⟨⟨tba,pY,rfl,hrw⟩,hb4⟩
   obtain⟨tb,rfl⟩:=zcO hrw (by rw [<-HN.out];exact zjJ)
   have HRW:=qh hrw
   have qO:=qh hb4
   clear hrw hb4 p0
   have HG4:Hid (W4.heap[gx+2]? =some (.cells #[.slice (some ⟨eb,eo,none⟩) n xB, .slice ma mn yZ, .bool bad] 30 (0,0))):=(qO.out.block _ (zJ jk.out)).trans jk.out
   have p0:W4.cell? ⟨gx+2,0,none⟩=some (.slice (some ⟨eb,eo,none⟩) n xB):=zh HG4.out 0
   have p1:W4.frozen? ⟨gx+2,0,none⟩=false:=zK HG4.out 0
   go_upto_region 10 with fail
   clear p0 p1
   have jo:Hid (tb≠gx+2/\gx+3≠gx+2/\gr≠gx+2):=⟨by have:=(HRW.out.lt tb rfl).1;have:=zJ jk.out;omega,by omega,by have:=jW.out.base;have:=zJ H3.out;omega⟩
   have HSX:Hid (Since (fun k=>k=gx+2) W4 (W4.setCell ⟨gx+2,0,none⟩ (.slice (some ⟨tb,0,none⟩) n pY))):=Since.setCell (F:=fun k=>k=gx+2) (p:=⟨gx+2,0,none⟩) (Since.refl _ _) (.inl rfl) _
   have uF:Hid ((W4.setCell ⟨gx+2,0,none⟩ (.slice (some ⟨tb,0,none⟩) n pY)).heap[gx+2]? =some (.cells #[.slice (some ⟨tb,0,none⟩) n pY, .slice ma mn yZ, .bool bad] 30 (0,0))):=zx HG4.out 0 _
   obtain⟨X,hX⟩:∃X,X=W4.setCell ⟨gx+2,0,none⟩ (.slice (some ⟨tb,0,none⟩) n pY):=⟨_,rfl⟩
   rw [<-hX] at HSX uF ⊢
   have HXE:=qh hX
   clear hX
   have wm:=qh (HSX.out.row HRW.out (fun k hk e=>by cases hk;exact jo.out.1 e))
   have HR4:=qh (jW.out.below qO.out)
   have uT:Hid (X.heap[gr]? =_):=(HSX.out.block gr (zJ HR4.out.block) jo.out.2.2).trans HR4.out.block
   have zpo:Hid (X.heap[gx+3]? =_):=(HSX.out.block (gx+3) (Nat.lt_of_lt_of_le (zJ H4.out) (Nat.le_trans HW3.out.size qO.out.size)) jo.out.2.1).trans ((qO.out.block _ (Nat.lt_of_lt_of_le (zJ H4.out) HW3.out.size)).trans ((HW3.out.block _ (zJ H4.out)).trans H4.out))
   have C4:Hid (∀x,Below X.heap.size X x->x.cell? ⟨gx+2,0,none⟩=some (.slice (some ⟨tb,0,none⟩) n pY)/\x.cell? ⟨gx+3,1,none⟩=some (.int .i64 (i:Int))/\x.cell? ⟨gr,0,none⟩=some (.int .i64 tp)/\x.cell? ⟨gr,1,none⟩=some (.int .i64 r0)/\x.cell? ⟨gr,2,none⟩=some (.int .i64 r1)/\x.cell? ⟨gr,3,none⟩=some (.int .i64 r2)/\x.cell? ⟨gr,4,none⟩=some (.int .i64 r3)/\x.cell? ⟨gr,5,none⟩=some (.slice xa xn xc)/\x.cell? ⟨gr,9,none⟩=some (.slice (some ⟨mb,0,none⟩) mem'.length bH)/\x.cell? ⟨gr,10,none⟩=some (.bool bad')):=fun x hx=>⟨zm hx _ _ (zh uF.out 0),zm hx _ _ (zh zpo.out 1),zm hx _ _ (zh uT.out 0),zm hx _ _ (zh uT.out 1),zm hx _ _ (zh uT.out 2),zm hx _ _ (zh uT.out 3),zm hx _ _ (zh uT.out 4),zm hx _ _ (zh uT.out 5),zm hx _ _ (zh uT.out 9),zm hx _ _ (zh uT.out 10)⟩
   obtain⟨⟨v0,hv0⟩,⟨v1,hv1⟩,⟨v2,hv2⟩,⟨v3,hv3⟩,⟨v4,hv4⟩,⟨v5,hv5⟩⟩:=(⟨HOLD.out 0 (by omega),HOLD.out 1 (by omega),HOLD.out 2 (by omega),HOLD.out 3 (by omega),HOLD.out 4 (by omega),HOLD.out 5 (by omega)⟩:(∃u,(zL ts bs)[i*6+0]? =some u)/\(∃u,(zL ts bs)[i*6+1]? =some u)/\(∃u,(zL ts bs)[i*6+2]? =some u)/\(∃u,(zL ts bs)[i*6+3]? =some u)/\(∃u,(zL ts bs)[i*6+4]? =some u)/\(∃u,(zL ts bs)[i*6+5]? =some u))
   obtain⟨t0,u0⟩:X.cell? ⟨tb,i*6,none⟩=some v0/\X.frozen? ⟨tb,i*6,none⟩=false:=by obtain⟨g,cap,he, -,h1,h2⟩:=qj wm.out hv0;cases he;exact⟨h1,h2⟩
   obtain⟨t1,u1⟩:X.cell? ⟨tb,i*6+1,none⟩=some v1/\X.frozen? ⟨tb,i*6+1,none⟩=false:=by obtain⟨g,cap,he, -,h1,h2⟩:=qj wm.out hv1;cases he;exact⟨h1,h2⟩
   obtain⟨t2,u2⟩:X.cell? ⟨tb,i*6+2,none⟩=some v2/\X.frozen? ⟨tb,i*6+2,none⟩=false:=by obtain⟨g,cap,he, -,h1,h2⟩:=qj wm.out hv2;cases he;exact⟨h1,h2⟩
   obtain⟨t3,u3⟩:X.cell? ⟨tb,i*6+3,none⟩=some v3/\X.frozen? ⟨tb,i*6+3,none⟩=false:=by obtain⟨g,cap,he, -,h1,h2⟩:=qj wm.out hv3;cases he;exact⟨h1,h2⟩
   obtain⟨t4,u4⟩:X.cell? ⟨tb,i*6+4,none⟩=some v4/\X.frozen? ⟨tb,i*6+4,none⟩=false:=by obtain⟨g,cap,he, -,h1,h2⟩:=qj wm.out hv4;cases he;exact⟨h1,h2⟩
   obtain⟨t5,u5⟩:X.cell? ⟨tb,i*6+5,none⟩=some v5/\X.frozen? ⟨tb,i*6+5,none⟩=false:=by obtain⟨g,cap,he, -,h1,h2⟩:=qj wm.out hv5;cases he;exact⟨h1,h2⟩
   clear hv0 hv1 hv2 hv3 hv4 hv5
   have yY:Hid (Since (fun k=>k=tb) X ((((((X.setCell ⟨tb,i*6,none⟩ (.int .i64 tp)).setCell ⟨tb,i*6+1,none⟩ (.int .i64 r0)).setCell ⟨tb,i*6+2,none⟩ (.int .i64 r1)).setCell ⟨tb,i*6+3,none⟩ (.int .i64 r2)).setCell ⟨tb,i*6+4,none⟩ (.int .i64 r3)).setCell ⟨tb,i*6+5,none⟩ (.slice xa xn xc))):=(((((((Since.refl (fun k=>k=tb) X).setCell (p:=⟨tb,i*6,none⟩) (.inl rfl) (.int .i64 tp)).setCell (p:=⟨tb,i*6+1,none⟩) (.inl rfl) (.int .i64 r0)).setCell (p:=⟨tb,i*6+2,none⟩) (.inl rfl) (.int .i64 r1)).setCell (p:=⟨tb,i*6+3,none⟩) (.inl rfl) (.int .i64 r2)).setCell (p:=⟨tb,i*6+4,none⟩) (.inl rfl) (.int .i64 r3)).setCell (p:=⟨tb,i*6+5,none⟩) (.inl rfl) (.slice xa xn xc))
   have HGN:=qh ((yY.out.block (gx+2) (zJ uF.out) (fun e=>jo.out.1 e.symm)).trans uF.out)
   have n1:((((((X.setCell ⟨tb,i*6,none⟩ (.int .i64 tp)).setCell ⟨tb,i*6+1,none⟩ (.int .i64 r0)).setCell ⟨tb,i*6+2,none⟩ (.int .i64 r1)).setCell ⟨tb,i*6+3,none⟩ (.int .i64 r2)).setCell ⟨tb,i*6+4,none⟩ (.int .i64 r3)).setCell ⟨tb,i*6+5,none⟩ (.slice xa xn xc)).cell? ⟨gx+2,1,none⟩=some (.slice ma mn yZ):=zh HGN.out 1
   have n2:((((((X.setCell ⟨tb,i*6,none⟩ (.int .i64 tp)).setCell ⟨tb,i*6+1,none⟩ (.int .i64 r0)).setCell ⟨tb,i*6+2,none⟩ (.int .i64 r1)).setCell ⟨tb,i*6+3,none⟩ (.int .i64 r2)).setCell ⟨tb,i*6+4,none⟩ (.int .i64 r3)).setCell ⟨tb,i*6+5,none⟩ (.slice xa xn xc)).cell? ⟨gx+2,2,none⟩=some (.bool bad):=zh HGN.out 2
   have n3:X.frozen? ⟨gx+2,1,none⟩=false:=zK uF.out 1
   have n4:X.frozen? ⟨gx+2,2,none⟩=false:=zK uF.out 2
   refine wp_region_noPanic ?_
   refine yP (n0:=17) (S:=fun x=>Below X.heap.size X x) (by kernel_rfl) ((Below.refl _ _).drew) (fun hZ=> ?_)
   refine zO 0 60 ?zDv rfl ?zyR (fun _=>hZ) ?_
   case zyR=>(intro _ _;go_simp<;>rfl)
   simp only [Act.put,za,ze,zf]
   refine qZ [16,17,18,19,20,21] 1 61 ?zDw rfl ?zyS hZ ?_
   case zyS=>(intro x h;have e:=C4.out x h;go_simp<;>rfl)
   simp only [Act.put,za,ze,zf]
   refine zO 2 62 ?zDx rfl ?zyT (fun _=>hZ) ?_
   case zyT=>(intro _ _;go_simp<;>rfl)
   simp only [Act.put,za,ze,zf]
   refine qZ [16,17,18,19,20,21] 3 63 ?zDy rfl ?zyU hZ ?_
   case zyU=>(intro x h;have e:=C4.out x h;go_simp<;>rfl)
   simp only [Act.put,za,ze,zf]
   refine zO 4 64 ?zDz rfl ?zyV (fun _=>hZ) ?_
   case zyV=>(intro _ _;go_simp<;>rfl)
   simp only [Act.put,za,ze,zf]
   refine zO 5 65 ?zD0 rfl ?zyW (fun _=>hZ) ?_
   case zyW=>(intro _ _;go_simp<;>rfl)
   simp only [Act.put,za,ze,zf]
   refine zO 6 66 ?zD1 rfl ?zyX (fun _=>hZ) ?_
   case zyX=>(intro _ _;go_simp<;>rfl)
   simp only [Act.put,za,ze,zf]
   refine qZ [16,17,18,19,20,21] 7 67 ?zD2 rfl ?zyY hZ ?_
   case zyY=>(intro x h;have e:=C4.out x h;go_simp<;>rfl)
   simp only [Act.put,za,ze,zf]
   refine zO 8 68 ?zD3 rfl ?zyZ (fun _=>hZ) ?_
   case zyZ=>(intro _ _;go_simp<;>rfl)
   simp only [Act.put,za,ze,zf]
   refine zO 9 69 ?zAQ rfl ?zvJ (fun _=>hZ) ?_
   case zvJ=>(intro _ _;go_simp<;>rfl)
   simp only [Act.put,za,ze,zf]
   refine zO 10 70 ?zAR rfl ?zvK (fun _=>hZ) ?_
   case zvK=>(intro _ _;go_simp<;>rfl)
   simp only [Act.put,za,ze,zf]
   refine qZ [16,17,18,19,20,21] 11 71 ?zAS rfl ?zvL hZ ?_
   case zvL=>(intro x h;have e:=C4.out x h;go_simp<;>rfl)
   simp only [Act.put,za,ze,zf]
   refine zO 12 72 ?zAT rfl ?zvM (fun _=>hZ) ?_
   case zvM=>(intro _ _;go_simp<;>rfl)
   simp only [Act.put,za,ze,zf]
   refine zO 13 73 ?zAU rfl ?zvN (fun _=>hZ) ?_
   case zvN=>(intro _ _;go_simp<;>rfl)
   simp only [Act.put,za,ze,zf]
   refine zO 14 74 ?zAV rfl ?zvO (fun _=>hZ) ?_
   case zvO=>(intro _ _;go_simp<;>rfl)
   simp only [Act.put,za,ze,zf]
   refine qZ [16,17,18,19,20,21] 15 75 ?zAW rfl ?zvP hZ ?_
   case zvP=>(intro x h;have e:=C4.out x h;go_simp<;>rfl)
   simp only [Act.put,za,ze,zf]
   refine zO 16 76 ?zAX rfl ?zvQ (fun _=>hZ) ?_
   case zvQ=>(intro _ _;go_simp<;>rfl)
   simp only [Act.put,za,ze,zf]
   refine jV 17 rfl (fun K hK=> ?_)
   go_simp
   refine hK.out _ _ (fun h=>absurd rfl h) ?_
   clear hK K
   refine zO 18 77 ?zAY rfl ?zvR (fun h=>absurd h (by decide+kernel)) ?_
   case zvR=>(intro _ _;go_simp<;>rfl)
   simp only [Act.put,za,ze,zf]
   refine jV 19 rfl (fun K hK=> ?_)
   go_simp
   refine hK.out _ _ (fun _ h=>absurd h (by decide+kernel)) ?_
   clear hK K
   refine zO 20 78 ?zAZ rfl ?zvS (fun h=>absurd h (by decide+kernel)) ?_
   case zvS=>(intro _ _;go_simp<;>rfl)
   simp only [Act.put,za,ze,zf]
   refine jV 21 rfl (fun K hK=> ?_)
   go_simp
   refine hK.out _ _ (fun _ h=>absurd h (by decide+kernel)) ?_
   clear hK K
   refine xE (by kernel_rfl) ?_ _
   refine NoPanic.normal ?_
   clear n1 n2 n3 n4 t0 u0 t1 u1 t2 u2 t3 u3 t4 u4 t5 u5
   go_upto_region 11 with fail
   obtain⟨hst,hzb,hzs,hzw⟩:=zea.out _ _ _ _ _ _ _ _ _ _ _ _ _ _ _ _ _ _ _ _ _ _ _ _ jW.out jk.out (zJ H3.out) (by rw [xO.out];omega) (HB.out.trans (HW3.out.mono HB.out.size)) HRW.out qO.out HB.out.size (((((((((X.setCell ⟨tb,i*6,none⟩ (.int .i64 tp)).setCell ⟨tb,i*6+1,none⟩ (.int .i64 r0)).setCell ⟨tb,i*6+2,none⟩ (.int .i64 r1)).setCell ⟨tb,i*6+3,none⟩ (.int .i64 r2)).setCell ⟨tb,i*6+4,none⟩ (.int .i64 r3)).setCell ⟨tb,i*6+5,none⟩ (.slice xa xn xc)).setCell ⟨gx+2,1,none⟩ (.slice (some ⟨mb,0,none⟩) mem'.length bH)).setCell ⟨gx+2,2,none⟩ (.bool bad')).drew) (by rw [HXE.out];exact zgX _ _ _ _ _ _ _ _ _ _ _ _ _ _ _ _ _)
   have HG5:Hid (X.heap[gx+4]? =_):=(HSX.out.block (gx+4) (Nat.lt_of_lt_of_le (zJ H5.out) (Nat.le_trans HW3.out.size qO.out.size)) (by omega)).trans ((qO.out.block _ (Nat.lt_of_lt_of_le (zJ H5.out) HW3.out.size)).trans ((HW3.out.block _ (zJ H5.out)).trans H5.out))
   have zdl:=(hzs.block (gx+4) (Nat.lt_of_lt_of_le (zJ H5.out) (Nat.le_trans HW3.out.size qO.out.size)) (by have:=(HRW.out.lt tb rfl).1;have:=HW3.out.size;have:=zJ H5.out;omega)).trans ((qO.out.block _ (Nat.lt_of_lt_of_le (zJ H5.out) HW3.out.size)).trans ((HW3.out.block _ (zJ H5.out)).trans H5.out))
   generalize ((((((((X.setCell ⟨tb,i*6,none⟩ (.int .i64 tp)).setCell ⟨tb,i*6+1,none⟩ (.int .i64 r0)).setCell ⟨tb,i*6+2,none⟩ (.int .i64 r1)).setCell ⟨tb,i*6+3,none⟩ (.int .i64 r2)).setCell ⟨tb,i*6+4,none⟩ (.int .i64 r3)).setCell ⟨tb,i*6+5,none⟩ (.slice xa xn xc)).setCell ⟨gx+2,1,none⟩ (.slice (some ⟨mb,0,none⟩) mem'.length bH)).setCell ⟨gx+2,2,none⟩ (.bool bad')).drew=Z at hst hzb hzs hzw zdl ⊢
   have z0:Z.cell? ⟨gx+2,0,none⟩=some (.slice (some ⟨tb,0,none⟩) n pY):=zh hzb 0
   have z1:Z.cell? ⟨gx+2,1,none⟩=some (.slice (some ⟨mb,0,none⟩) mem'.length bH):=zh hzb 1
   have z2:Z.cell? ⟨gx+2,2,none⟩=some (.bool bad'):=zh hzb 2
   obtain⟨⟨q0,q1,q2⟩,⟨f0,f1,f2⟩,hend⟩:=kX (w:=w) zdl hzw (by rw [xO.out];omega)
   obtain⟨hset,hsi,hbe⟩:=hend (.slice (some ⟨tb,0,none⟩) n pY) (.slice (some ⟨mb,0,none⟩) mem'.length bH) (.bool bad')
   have zY:=qh (hst (gx+4) _ (by rw [xO.out];omega) (zJ H5.out) hsi)
   have zI:=qh hset
   have yg:=qh hbe
   clear hset hbe hend hsi hst hzb hzs hzw zdl
   go_wp2_with fail
   (try simp only [Exit.inBlock,Exit.then])
   refine bodyPost_ret (zy rfl _ _ (gx+4) 30 _ (0,0) _ rfl zI.out Tryz.underlying30 rfl zC) rfl ?_
   exact⟨yg.out, .inr ⟨_,_,_,_,_,_,_,HRS.out,rfl,zY.out⟩⟩
 subst hk1
 by_cases hv0:vr=0
 rotate_left
 ·have hv1:((vr:Int)==0)=false:=by simp [hv0]
  have hr:=HR3.out (fun h=>hv0 h.2) (by omega)
  have HRR:=qh hr
  clear hr HR1 HR2 HR3 jC zaJ hv0
  clear k3 k4
  have hr:R=none:=HRR.out
  have vX:=qh hr
  clear hr
  obtain⟨⟨q0,q1,q2⟩,⟨f0,f1,f2⟩,hend⟩:=kX (w:=w) ((HW1.out.block (gx+4) (zJ H5.out)).trans H5.out) (HB.out.trans (HW1.out.mono HB.out.size)) (by rw [xO.out];omega)
  obtain⟨hset, -,hbe⟩:=hend (.slice none 0 0) (.slice none 0 0) (.bool false)
  have zI:=qh hset
  have yg:=qh hbe
  clear hset hbe hend
  go_wp2_with fail
  (try simp only [Exit.inBlock,Exit.then])
  refine bodyPost_ret (zy rfl _ _ (gx+4) 30 _ (0,0) _ rfl zI.out Tryz.underlying30 rfl zC) rfl ?_
  exact⟨yg.out, .inl ⟨vX.out,rfl⟩⟩
 subst hv0
 have HRR:=qh (HR1.out rfl rfl)
 clear HR1 HR2 HR3 zaJ
 go_wp2_with fail
 refine(jC.out W1 W.heap.size gr mb bH ze7.out HW1.out.size (HB.out.trans (HW1.out.mono HB.out.size)) HB.out.size).mono ?_
 rintro e W3 ⟨hbe,⟨hres,rfl⟩|⟨⟨tp,trg,tbf⟩,mem',bad',bv,hres,rfl,zdk,hrun⟩⟩
 ·have HW3:Hid (Below W.heap.size W W3):=HW1.out.trans hbe
  clear k0 k1 k2 k3 k4 hbe
  have hr:R=none:=by rw [HRR.out,hres];rfl
  have vX:=qh hr
  clear hr
  obtain⟨⟨q0,q1,q2⟩,⟨f0,f1,f2⟩,hend⟩:=kX (w:=w) ((HW3.out.block (gx+4) (zJ H5.out)).trans H5.out) (HB.out.trans (HW3.out.mono HB.out.size)) (by rw [xO.out];omega)
  obtain⟨hset, -,hbe⟩:=hend (.slice none 0 0) (.slice none 0 0) (.bool false)
  have zI:=qh hset
  have yg:=qh hbe
  clear hset hbe hend
  go_wp2_with fail
  (try simp only [Exit.inBlock,Exit.then])
  refine bodyPost_ret (zy rfl _ _ (gx+4) 30 _ (0,0) _ rfl zI.out Tryz.underlying30 rfl zC) rfl ?_
  exact⟨yg.out, .inl ⟨vX.out,rfl⟩⟩
 ·have HW3:Hid (Below W.heap.size W W3):=HW1.out.trans hbe
  clear k0 k1 k2 k3 k4 hbe
  simp only [] at hres zdk hrun
  obtain⟨r0,r1,r2,r3,rfl⟩:=vT zdk
  simp only [List.getD_cons_zero,List.getD_cons_succ] at hrun
  obtain⟨xa,xc,rfl, -⟩:=zl.slice hrun.xW
  obtain⟨xn,hxn⟩:∃n,n=tbf.length:=⟨_,rfl⟩
  rw [<-hxn] at hrun
  clear hxn
  have hr:R=some ⟨ts.set i ⟨tp, [r0,r1,r2,r3],tbf⟩,mem',bad'⟩:=by rw [HRR.out,hres];rfl
  have HRS:=qh hr
  have jW:=qh hrun
  clear hr hres zdk hrun ze7
  have jk:Hid (W3.heap[gx+2]? =some (.cells #[.slice (some ⟨eb,eo,none⟩) n xB, .slice ma mn yZ, .bool bad] 30 (0,0))):=(HW3.out.block _ (zJ H3.out)).trans H3.out
  have p0:W3.cell? ⟨gx+2,0,none⟩=some (.slice (some ⟨eb,eo,none⟩) n xB):=zh jk.out 0
  go_wp2_with fail
  refine(zjL.out W3 (HB.out.trans (HW3.out.mono HB.out.size))).mono ?_
  rintro e W4 ⟨⟨tba,pY,rfl,hrw⟩,hb4⟩
  obtain⟨tb,rfl⟩:=zcO hrw (by rw [<-HN.out];exact zjJ)
  have HRW:=qh hrw
  have qO:=qh hb4
  clear hrw hb4 p0
  have HG4:Hid (W4.heap[gx+2]? =some (.cells #[.slice (some ⟨eb,eo,none⟩) n xB, .slice ma mn yZ, .bool bad] 30 (0,0))):=(qO.out.block _ (zJ jk.out)).trans jk.out
  have p0:W4.cell? ⟨gx+2,0,none⟩=some (.slice (some ⟨eb,eo,none⟩) n xB):=zh HG4.out 0
  have p1:W4.frozen? ⟨gx+2,0,none⟩=false:=zK HG4.out 0
  go_upto_region 10 with fail
  clear p0 p1
  have jo:Hid (tb≠gx+2/\gx+3≠gx+2/\gr≠gx+2):=⟨by have:=(HRW.out.lt tb rfl).1;have:=zJ jk.out;omega,by omega,by have:=jW.out.base;have:=zJ H3.out;omega⟩
  have HSX:Hid (Since (fun k=>k=gx+2) W4 (W4.setCell ⟨gx+2,0,none⟩ (.slice (some ⟨tb,0,none⟩) n pY))):=Since.setCell (F:=fun k=>k=gx+2) (p:=⟨gx+2,0,none⟩) (Since.refl _ _) (.inl rfl) _
  have uF:Hid ((W4.setCell ⟨gx+2,0,none⟩ (.slice (some ⟨tb,0,none⟩) n pY)).heap[gx+2]? =some (.cells #[.slice (some ⟨tb,0,none⟩) n pY, .slice ma mn yZ, .bool bad] 30 (0,0))):=zx HG4.out 0 _
  obtain⟨X,hX⟩:∃X,X=W4.setCell ⟨gx+2,0,none⟩ (.slice (some ⟨tb,0,none⟩) n pY):=⟨_,rfl⟩
  rw [<-hX] at HSX uF ⊢
  have HXE:=qh hX
  clear hX
  have wm:=qh (HSX.out.row HRW.out (fun k hk e=>by cases hk;exact jo.out.1 e))
  have HR4:=qh (jW.out.below qO.out)
  have uT:Hid (X.heap[gr]? =_):=(HSX.out.block gr (zJ HR4.out.block) jo.out.2.2).trans HR4.out.block
  have zpo:Hid (X.heap[gx+3]? =_):=(HSX.out.block (gx+3) (Nat.lt_of_lt_of_le (zJ H4.out) (Nat.le_trans HW3.out.size qO.out.size)) jo.out.2.1).trans ((qO.out.block _ (Nat.lt_of_lt_of_le (zJ H4.out) HW3.out.size)).trans ((HW3.out.block _ (zJ H4.out)).trans H4.out))
  have C4:Hid (∀x,Below X.heap.size X x->x.cell? ⟨gx+2,0,none⟩=some (.slice (some ⟨tb,0,none⟩) n pY)/\x.cell? ⟨gx+3,1,none⟩=some (.int .i64 (i:Int))/\x.cell? ⟨gr,0,none⟩=some (.int .i64 tp)/\x.cell? ⟨gr,1,none⟩=some (.int .i64 r0)/\x.cell? ⟨gr,2,none⟩=some (.int .i64 r1)/\x.cell? ⟨gr,3,none⟩=some (.int .i64 r2)/\x.cell? ⟨gr,4,none⟩=some (.int .i64 r3)/\x.cell? ⟨gr,5,none⟩=some (.slice xa xn xc)/\x.cell? ⟨gr,9,none⟩=some (.slice (some ⟨mb,0,none⟩) mem'.length bH)/\x.cell? ⟨gr,10,none⟩=some (.bool bad')):=fun x hx=>⟨zm hx _ _ (zh uF.out 0),zm hx _ _ (zh zpo.out 1),zm hx _ _ (zh uT.out 0),zm hx _ _ (zh uT.out 1),zm hx _ _ (zh uT.out 2),zm hx _ _ (zh uT.out 3),zm hx _ _ (zh uT.out 4),zm hx _ _ (zh uT.out 5),zm hx _ _ (zh uT.out 9),zm hx _ _ (zh uT.out 10)⟩
  obtain⟨⟨v0,hv0⟩,⟨v1,hv1⟩,⟨v2,hv2⟩,⟨v3,hv3⟩,⟨v4,hv4⟩,⟨v5,hv5⟩⟩:=(⟨HOLD.out 0 (by omega),HOLD.out 1 (by omega),HOLD.out 2 (by omega),HOLD.out 3 (by omega),HOLD.out 4 (by omega),HOLD.out 5 (by omega)⟩:(∃u,(zL ts bs)[i*6+0]? =some u)/\(∃u,(zL ts bs)[i*6+1]? =some u)/\(∃u,(zL ts bs)[i*6+2]? =some u)/\(∃u,(zL ts bs)[i*6+3]? =some u)/\(∃u,(zL ts bs)[i*6+4]? =some u)/\(∃u,(zL ts bs)[i*6+5]? =some u))
  obtain⟨t0,u0⟩:X.cell? ⟨tb,i*6,none⟩=some v0/\X.frozen? ⟨tb,i*6,none⟩=false:=by obtain⟨g,cap,he, -,h1,h2⟩:=qj wm.out hv0;cases he;exact⟨h1,h2⟩
  obtain⟨t1,u1⟩:X.cell? ⟨tb,i*6+1,none⟩=some v1/\X.frozen? ⟨tb,i*6+1,none⟩=false:=by obtain⟨g,cap,he, -,h1,h2⟩:=qj wm.out hv1;cases he;exact⟨h1,h2⟩
  obtain⟨t2,u2⟩:X.cell? ⟨tb,i*6+2,none⟩=some v2/\X.frozen? ⟨tb,i*6+2,none⟩=false:=by obtain⟨g,cap,he, -,h1,h2⟩:=qj wm.out hv2;cases he;exact⟨h1,h2⟩
  obtain⟨t3,u3⟩:X.cell? ⟨tb,i*6+3,none⟩=some v3/\X.frozen? ⟨tb,i*6+3,none⟩=false:=by obtain⟨g,cap,he, -,h1,h2⟩:=qj wm.out hv3;cases he;exact⟨h1,h2⟩
  obtain⟨t4,u4⟩:X.cell? ⟨tb,i*6+4,none⟩=some v4/\X.frozen? ⟨tb,i*6+4,none⟩=false:=by obtain⟨g,cap,he, -,h1,h2⟩:=qj wm.out hv4;cases he;exact⟨h1,h2⟩
  obtain⟨t5,u5⟩:X.cell? ⟨tb,i*6+5,none⟩=some v5/\X.frozen? ⟨tb,i*6+5,none⟩=false:=by obtain⟨g,cap,he, -,h1,h2⟩:=qj wm.out hv5;cases he;exact⟨h1,h2⟩
  clear hv0 hv1 hv2 hv3 hv4 hv5
  have yY:Hid (Since (fun k=>k=tb) X ((((((X.setCell ⟨tb,i*6,none⟩ (.int .i64 tp)).setCell ⟨tb,i*6+1,none⟩ (.int .i64 r0)).setCell ⟨tb,i*6+2,none⟩ (.int .i64 r1)).setCell ⟨tb,i*6+3,none⟩ (.int .i64 r2)).setCell ⟨tb,i*6+4,none⟩ (.int .i64 r3)).setCell ⟨tb,i*6+5,none⟩ (.slice xa xn xc))):=(((((((Since.refl (fun k=>k=tb) X).setCell (p:=⟨tb,i*6,none⟩) (.inl rfl) (.int .i64 tp)).setCell (p:=⟨tb,i*6+1,none⟩) (.inl rfl) (.int .i64 r0)).setCell (p:=⟨tb,i*6+2,none⟩) (.inl rfl) (.int .i64 r1)).setCell (p:=⟨tb,i*6+3,none⟩) (.inl rfl) (.int .i64 r2)).setCell (p:=⟨tb,i*6+4,none⟩) (.inl rfl) (.int .i64 r3)).setCell (p:=⟨tb,i*6+5,none⟩) (.inl rfl) (.slice xa xn xc))
  have HGN:=qh ((yY.out.block (gx+2) (zJ uF.out) (fun e=>jo.out.1 e.symm)).trans uF.out)
  have n1:((((((X.setCell ⟨tb,i*6,none⟩ (.int .i64 tp)).setCell ⟨tb,i*6+1,none⟩ (.int .i64 r0)).setCell ⟨tb,i*6+2,none⟩ (.int .i64 r1)).setCell ⟨tb,i*6+3,none⟩ (.int .i64 r2)).setCell ⟨tb,i*6+4,none⟩ (.int .i64 r3)).setCell ⟨tb,i*6+5,none⟩ (.slice xa xn xc)).cell? ⟨gx+2,1,none⟩=some (.slice ma mn yZ):=zh HGN.out 1
  have n2:((((((X.setCell ⟨tb,i*6,none⟩ (.int .i64 tp)).setCell ⟨tb,i*6+1,none⟩ (.int .i64 r0)).setCell ⟨tb,i*6+2,none⟩ (.int .i64 r1)).setCell ⟨tb,i*6+3,none⟩ (.int .i64 r2)).setCell ⟨tb,i*6+4,none⟩ (.int .i64 r3)).setCell ⟨tb,i*6+5,none⟩ (.slice xa xn xc)).cell? ⟨gx+2,2,none⟩=some (.bool bad):=zh HGN.out 2
  have n3:X.frozen? ⟨gx+2,1,none⟩=false:=zK uF.out 1
  have n4:X.frozen? ⟨gx+2,2,none⟩=false:=zK uF.out 2
  refine wp_region_noPanic ?_
  refine yP (n0:=17) (S:=fun x=>Below X.heap.size X x) (by kernel_rfl) ((Below.refl _ _).drew) (fun hZ=> ?_)
  refine zO 0 60 ?zD4 rfl ?zza (fun _=>hZ) ?_
  case zza=>(intro _ _;go_simp<;>rfl)
  simp only [Act.put,za,ze,zf]
  refine qZ [16,17,18,19,20,21] 1 61 ?zD5 rfl ?zzb hZ ?_
  case zzb=>(intro x h;have e:=C4.out x h;go_simp<;>rfl)
  simp only [Act.put,za,ze,zf]
  refine zO 2 62 ?zD6 rfl ?zzc (fun _=>hZ) ?_
  case zzc=>(intro _ _;go_simp<;>rfl)
  simp only [Act.put,za,ze,zf]
  refine qZ [16,17,18,19,20,21] 3 63 ?zD7 rfl ?zzd hZ ?_
  case zzd=>(intro x h;have e:=C4.out x h;go_simp<;>rfl)
  simp only [Act.put,za,ze,zf]
  refine zO 4 64 ?zD8 rfl ?zze (fun _=>hZ) ?_
  case zze=>(intro _ _;go_simp<;>rfl)
  simp only [Act.put,za,ze,zf]
  refine zO 5 65 ?zD9 rfl ?zzf (fun _=>hZ) ?_
  case zzf=>(intro _ _;go_simp<;>rfl)
  simp only [Act.put,za,ze,zf]
  refine zO 6 66 ?zDA rfl ?zzg (fun _=>hZ) ?_
  case zzg=>(intro _ _;go_simp<;>rfl)
  simp only [Act.put,za,ze,zf]
  refine qZ [16,17,18,19,20,21] 7 67 ?zDB rfl ?zzh hZ ?_
  case zzh=>(intro x h;have e:=C4.out x h;go_simp<;>rfl)
  simp only [Act.put,za,ze,zf]
  refine zO 8 68 ?zDC rfl ?zzi (fun _=>hZ) ?_
  case zzi=>(intro _ _;go_simp<;>rfl)
  simp only [Act.put,za,ze,zf]
  refine zO 9 69 ?zBa rfl ?zvT (fun _=>hZ) ?_
  case zvT=>(intro _ _;go_simp<;>rfl)
  simp only [Act.put,za,ze,zf]
  refine zO 10 70 ?zBb rfl ?zvU (fun _=>hZ) ?_
  case zvU=>(intro _ _;go_simp<;>rfl)
  simp only [Act.put,za,ze,zf]
  refine qZ [16,17,18,19,20,21] 11 71 ?zBc rfl ?zvV hZ ?_
  case zvV=>(intro x h;have e:=C4.out x h;go_simp<;>rfl)
  simp only [Act.put,za,ze,zf]
  refine zO 12 72 ?zBd rfl ?zvW (fun _=>hZ) ?_
  case zvW=>(intro _ _;go_simp<;>rfl)
  simp only [Act.put,za,ze,zf]
  refine zO 13 73 ?zBe rfl ?zvX (fun _=>hZ) ?_
  case zvX=>(intro _ _;go_simp<;>rfl)
  simp only [Act.put,za,ze,zf]
  refine zO 14 74 ?zBf rfl ?zvY (fun _=>hZ) ?_
  case zvY=>(intro _ _;go_simp<;>rfl)
  simp only [Act.put,za,ze,zf]
  refine qZ [16,17,18,19,20,21] 15 75 ?zBg rfl ?zvZ hZ ?_
  case zvZ=>(intro x h;have e:=C4.out x h;go_simp<;>rfl)
  simp only [Act.put,za,ze,zf]
  refine zO 16 76 ?zBh rfl ?zwa (fun _=>hZ) ?_
  case zwa=>(intro _ _;go_simp<;>rfl)
  simp only [Act.put,za,ze,zf]
  refine jV 17 rfl (fun K hK=> ?_)
  go_simp
  refine hK.out _ _ (fun h=>absurd rfl h) ?_
  clear hK K
  refine zO 18 77 ?zBi rfl ?zwb (fun h=>absurd h (by decide+kernel)) ?_
  case zwb=>(intro _ _;go_simp<;>rfl)
  simp only [Act.put,za,ze,zf]
  refine jV 19 rfl (fun K hK=> ?_)
  go_simp
  refine hK.out _ _ (fun _ h=>absurd h (by decide+kernel)) ?_
  clear hK K
  refine zO 20 78 ?zBj rfl ?zwc (fun h=>absurd h (by decide+kernel)) ?_
  case zwc=>(intro _ _;go_simp<;>rfl)
  simp only [Act.put,za,ze,zf]
  refine jV 21 rfl (fun K hK=> ?_)
  go_simp
  refine hK.out _ _ (fun _ h=>absurd h (by decide+kernel)) ?_
  clear hK K
  refine xE (by kernel_rfl) ?_ _
  refine NoPanic.normal ?_
  clear n1 n2 n3 n4 t0 u0 t1 u1 t2 u2 t3 u3 t4 u4 t5 u5
  go_upto_region 11 with fail
  obtain⟨hst,hzb,hzs,hzw⟩:=zea.out _ _ _ _ _ _ _ _ _ _ _ _ _ _ _ _ _ _ _ _ _ _ _ _ jW.out jk.out (zJ H3.out) (by rw [xO.out];omega) (HB.out.trans (HW3.out.mono HB.out.size)) HRW.out qO.out HB.out.size (((((((((X.setCell ⟨tb,i*6,none⟩ (.int .i64 tp)).setCell ⟨tb,i*6+1,none⟩ (.int .i64 r0)).setCell ⟨tb,i*6+2,none⟩ (.int .i64 r1)).setCell ⟨tb,i*6+3,none⟩ (.int .i64 r2)).setCell ⟨tb,i*6+4,none⟩ (.int .i64 r3)).setCell ⟨tb,i*6+5,none⟩ (.slice xa xn xc)).setCell ⟨gx+2,1,none⟩ (.slice (some ⟨mb,0,none⟩) mem'.length bH)).setCell ⟨gx+2,2,none⟩ (.bool bad')).drew) (by rw [HXE.out];exact zgX _ _ _ _ _ _ _ _ _ _ _ _ _ _ _ _ _)
  have HG5:Hid (X.heap[gx+4]? =_):=(HSX.out.block (gx+4) (Nat.lt_of_lt_of_le (zJ H5.out) (Nat.le_trans HW3.out.size qO.out.size)) (by omega)).trans ((qO.out.block _ (Nat.lt_of_lt_of_le (zJ H5.out) HW3.out.size)).trans ((HW3.out.block _ (zJ H5.out)).trans H5.out))
  have zdl:=(hzs.block (gx+4) (Nat.lt_of_lt_of_le (zJ H5.out) (Nat.le_trans HW3.out.size qO.out.size)) (by have:=(HRW.out.lt tb rfl).1;have:=HW3.out.size;have:=zJ H5.out;omega)).trans ((qO.out.block _ (Nat.lt_of_lt_of_le (zJ H5.out) HW3.out.size)).trans ((HW3.out.block _ (zJ H5.out)).trans H5.out))
  generalize ((((((((X.setCell ⟨tb,i*6,none⟩ (.int .i64 tp)).setCell ⟨tb,i*6+1,none⟩ (.int .i64 r0)).setCell ⟨tb,i*6+2,none⟩ (.int .i64 r1)).setCell ⟨tb,i*6+3,none⟩ (.int .i64 r2)).setCell ⟨tb,i*6+4,none⟩ (.int .i64 r3)).setCell ⟨tb,i*6+5,none⟩ (.slice xa xn xc)).setCell ⟨gx+2,1,none⟩ (.slice (some ⟨mb,0,none⟩) mem'.length bH)).setCell ⟨gx+2,2,none⟩ (.bool bad')).drew=Z at hst hzb hzs hzw zdl ⊢
  have z0:Z.cell? ⟨gx+2,0,none⟩=some (.slice (some ⟨tb,0,none⟩) n pY):=zh hzb 0
  have z1:Z.cell? ⟨gx+2,1,none⟩=some (.slice (some ⟨mb,0,none⟩) mem'.length bH):=zh hzb 1
  have z2:Z.cell? ⟨gx+2,2,none⟩=some (.bool bad'):=zh hzb 2
  obtain⟨⟨q0,q1,q2⟩,⟨f0,f1,f2⟩,hend⟩:=kX (w:=w) zdl hzw (by rw [xO.out];omega)
  obtain⟨hset,hsi,hbe⟩:=hend (.slice (some ⟨tb,0,none⟩) n pY) (.slice (some ⟨mb,0,none⟩) mem'.length bH) (.bool bad')
  have zY:=qh (hst (gx+4) _ (by rw [xO.out];omega) (zJ H5.out) hsi)
  have zI:=qh hset
  have yg:=qh hbe
  clear hset hbe hend hsi hst hzb hzs hzw zdl
  go_wp2_with fail
  (try simp only [Exit.inBlock,Exit.then])
  refine bodyPost_ret (zy rfl _ _ (gx+4) 30 _ (0,0) _ rfl zI.out Tryz.underlying30 rfl zC) rfl ?_
  exact⟨yg.out, .inr ⟨_,_,_,_,_,_,_,HRS.out,rfl,zY.out⟩⟩
end Go.Proofs.YtliajkheeniljaaGreatDoor
