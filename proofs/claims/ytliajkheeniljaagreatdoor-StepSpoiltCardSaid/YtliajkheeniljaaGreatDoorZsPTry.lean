/- A move in a state, by the program: the walk. -/
import Derived.Test.YtliajkheeniljaaGreatDoorZsPTryQ
import Derived.Test.YtliajkheeniljaaGreatDoorZsShort
set_option linter.all false
namespace Go.Proofs.YtliajkheeniljaaGreatDoor
open Go.RowKit
set_option maxRecDepth 100000
set_option maxHeartbeats 16000000
theorem zju (w:World) (c:zX) (cv:Value) (d:Nat) (hc:yZ d w cv c.threads) (m:zK) (s:zu) (sv mv:Value) (hs:zZ w s sv mv) (hb:∀j,j<s.threads.length->(s.threads.getD j default).buf.length<=1000000) (hf:xX c m s=true) (i:Nat) (hi:i<s.threads.length) (kind vr:Int):
  Calls Tryz.prog 50 #[yL c cv,yY m,yH s sv mv, .agg #[.int .i64 kind, .int .i64 (i:Int), .int .i64 vr]] w (zfN w (Follows w s sv mv) (wH c m s i kind vr d)):=by
 obtain⟨hco, -,hlen,hml,zjB⟩:=bU hf
 have hbd:=qj hco
 have hic:i<c.threads.length:=by omega
 have zdL:=zjB i hi
 have hfl:=fun hv=>zfF hf hi (v:=vr) hv
 obtain⟨R,hR⟩:∃R,R=wH c m s i kind vr d:=⟨_,rfl⟩
 have hR1:kind=1->vr=0->R=_:=fun h1 h2=>hR.trans (zoX h1 h2)
 have hR2:kind=2->R=_:=fun h1=>hR.trans (zmg h1 (fun hv=>(hfl hv).2.2))
 have hR3:¬(kind=1/\vr=0)->¬kind=2->R=none:=fun h1 h2=>hR.trans (zoY h1 h2)
 rw [<-hR]
 clear hR
 obtain⟨ca,cc,rfl, -⟩:=zk.slice hc
 obtain⟨ta,qm,rfl, -⟩:=zk.slice hs.threads
 obtain⟨ma,xV,rfl, -⟩:=zk.slice hs.mem
 obtain⟨bs,hbs,hsrc,hts,hone⟩:=SrcOf.threads hs.threads
 have zuK:SrcOf w (.slice ma s.mem.length xV) s.mem.length 1 (zq yK s.mem):=SrcOf.of_slice (R:=wV) (by decide) uZ (fun _ _ _ h=>h) hs.mem
 obtain⟨eb,eo,ba,bc,yx, -,hrl,q0,q1,q2,q3,q4,q5,hbf⟩:=xY.part hs.threads i hi
 subst yx
 obtain⟨kb,ko,ka,kc,hka, -,hrow,hins⟩:=yZ.part hc i hic
 subst hka
 have hbl:=hb i hi
 have hx:∀j,j<(c.threads.getD i []).length->ziA s.mem.length ((c.threads.getD i []).getD j default):=fun j hj=>by
  have h1:=zgc hco hic hj
  exact⟨⟨h1.2.1,h1.2.2.1⟩,⟨h1.2.2.2.1,by rw [hml];exact h1.2.2.2.2⟩,zvi hco hic hj⟩
 have z00:=fun x (hx:Below w.heap.size w x)=>zjj x _ s.mem.length _ (zuK.below hx) (fun u hu=>by obtain⟨z, -,rfl⟩:∃z,z∈s.mem/\u= .int .i64 z:=(by unfold zq yK at hu;simpa [eq_comm] using hu);rfl) (by omega)
 have z01:=fun x (hx:Below w.heap.size w x)=>zfW x _ s.threads.length _ (hsrc.below hx) hone (by omega)
 obtain⟨T,hT⟩:∃t,t=s.threads.getD i default:=⟨_,rfl⟩
 rw [<-hT] at hrl q0 q1 q2 q3 q4 q5 hbf hbl hR1 hR2 zdL hfl
 obtain⟨pc,regs,buf⟩:=T
 obtain⟨g0,g1,g2,g3,rfl⟩:=j4 hrl
 simp only [List.getD_cons_zero,List.getD_cons_succ] at q0 q1 q2 q3 q4 q5 hbf hbl hR1 hR2 zdL hfl
 obtain⟨pc,rfl⟩:∃k:Nat,pc=(k:Int):=⟨pc.toNat,by omega⟩
 simp only [Int.toNat_natCast] at hR1
 have hstep:∀W1 B gr mb mc,xq (.slice ba buf.length bc) W1 B gr (pc:Int) g0 g1 g2 g3 buf (.slice ba buf.length bc) m c.domain s.mem mb mc s.bad->B<=W1.heap.size->Below w.heap.size w W1->w.heap.size<=B->Calls Tryz.prog 81 #[.pointer (some ⟨gr,0,none⟩), .slice ka (c.threads.getD i []).length kc] W1 fun e w'=>
   xZ (.slice ba buf.length bc) W1 B gr m c.domain mb mc (if (pc:Int)<((c.threads.getD i []).length:Int) then stepT c m s ⟨(pc:Int), [g0,g1,g2,g3],buf⟩ ((c.threads.getD i []).getD pc default) d else none) e w':=fun W1 B gr mb mc hr hB h0 hw=>zoc hr hB (by omega) (by omega) d _ _ hins h0 hw hx hbl
 have zjV:∀W1 B gr mb mc,xq (.slice ba buf.length bc) W1 B gr (pc:Int) g0 g1 g2 g3 buf (.slice ba buf.length bc) m c.domain s.mem mb mc s.bad->B<=W1.heap.size->Calls Tryz.prog 82 #[.pointer (some ⟨gr,0,none⟩), .int .i64 vr] W1 fun e w'=>
   xZ (.slice ba buf.length bc) W1 B gr m c.domain mb mc (if vr∈yF buf m.model then some (⟨(pc:Int), [g0,g1,g2,g3],(takeB buf vr).2⟩,s.mem.set vr.toNat ((takeB buf vr).1.getD default).n,s.bad) else none) e w':=fun W1 B gr mb mc hr hB=>zlw hr hB hbl vr (fun hv=>by obtain⟨h1,h2,h3⟩:=hfl hv;exact⟨h1,by rw [hml];exact h2,h3⟩)
 obtain⟨res1,zuL⟩:∃r,r=(if (pc:Int)<((c.threads.getD i []).length:Int) then stepT c m s ⟨(pc:Int), [g0,g1,g2,g3],buf⟩ ((c.threads.getD i []).getD pc default) d else none):=⟨_,rfl⟩
 obtain⟨res2,hres2⟩:∃r:Option (zx × List Int × Bool),r=(if vr∈yF buf m.model then some (⟨(pc:Int), [g0,g1,g2,g3],(takeB buf vr).2⟩,s.mem.set vr.toNat ((takeB buf vr).1.getD default).n,s.bad) else none):=⟨_,rfl⟩
 rw [<-zuL] at hstep hR1
 rw [<-hres2] at zjV hR2
 clear zuL hres2 hfl hx hins
 have zc5:=fun(V:World) (B mb mc:Nat) (h1:Below w.heap.size w V) h2 h3 h4=>zr5 (V:=V) (B:=B) (mb:=mb) (mc:=mc) (pc:=(pc:Int)) (r0:=g0) (r1:=g1) (r2:=g2) (r3:=g3) (dom:=c.domain) (m:=m) (mem:=s.mem) (bad:=s.bad) hbf h1 h2 h3 h4
 have hvi:=zvj hsrc rfl hi q5
 have zn1:=fun(w5 w6:World) (B gr gs mb mc tb cc':Nat) (pc' r0 r1 r2 r3:Int) (buf':List zm) (bv:Value) (mem':List Int) (bad':Bool) (sa ma':Option Addr) (sn sc mn0 mc1:Nat) (h:xq (.slice ba buf.length bc) w5 B gr pc' r0 r1 r2 r3 buf' bv m c.domain mem' mb mc bad') h2 h3 h4 h5 h6 h7 hwB Z hZ=>zs3 (w:=w) (w6:=w6) (gs:=gs) (tb:=tb) (cc:=cc') (i:=i) (zs4:=s.bad) (ts:=s.threads) (bs:=bs) (sa:=sa) (ma:=ma') (sn:=sn) (sc:=sc) (mn0:=mn0) (xV:=mc1) h h2 h3 h4 h5 h6 h7 hi hbs hts hs rfl hsrc hvi hwB Z hZ
 generalize Follows w s (.slice (some ⟨eb,eo,none⟩) s.threads.length qm) (.slice ma s.mem.length xV)=FW at zn1 ⊢
 have hold:∀k,k<6->∃u,(zR s.threads bs)[i*6+k]? =some u:=fun k hk=>by
  rw [qK hi hk]
  rcases k with _|_|_|_|_|_|k
  ·exact⟨_,rfl⟩
  ·exact⟨_,rfl⟩
  ·exact⟨_,rfl⟩
  ·exact⟨_,rfl⟩
  ·exact⟨_,rfl⟩
  ·exact⟨_,rfl⟩
  ·omega
 have zty:0<s.mem.length:=by omega
 have zn2:0<s.threads.length:=by omega
 have hLS:zmf s i=fun r=>(⟨s.threads.set i r.1,r.2.1,r.2.2⟩:zu):=rfl
 rw [hLS] at hR1 hR2
 clear hLS
 have HR1:=qh hR1
 have HR2:=qh hR2
 have HR3:=qh hR3
 have ztz:=qh z00
 have zn3:=qh z01
 have kJ:=qh hstep
 have zcu:=qh zjV
 have zc6:=qh zc5
 have zg9:=qh zn1
 have HOLD:=qh hold
 clear hR1 hR2 hR3 z00 z01 hstep zjV zc5 zn1 hold hco hlen hml zjB hbd zdL hb hs hc hbs hsrc hts hone zuK hbl hf hbf
 obtain⟨vars,dom,cs⟩:=c
 obtain⟨mod,bnd⟩:=m
 obtain⟨ts,mem,bad⟩:=s
 simp only [] at hT hi hic hrow zty zn2 HR1 HR2 ztz zn3 kJ zcu zc6 zg9 HOLD ⊢
 unfold yL yY yH
 simp only []
 obtain⟨n,hn⟩:∃n,n=ts.length:=⟨_,rfl⟩
 obtain⟨cn,hcn⟩:∃cn,cn=cs.length:=⟨_,rfl⟩
 obtain⟨ln,hln⟩:∃x,x=(cs.getD i []).length:=⟨_,rfl⟩
 obtain⟨mn,hmn⟩:∃mn,mn=mem.length:=⟨_,rfl⟩
 obtain⟨un,hun⟩:∃n,n=buf.length:=⟨_,rfl⟩
 rw [<-hn] at hi zn2 zn3 zg9 ⊢
 rw [<-hcn] at hic ⊢
 rw [<-hln] at hrow kJ
 rw [<-hmn] at zty ztz zc6 ⊢
 rw [<-hun] at q5 kJ zcu zc6 zg9
 have HN:=qh hn
 have vS:=qh hmn
 have hiI:(i:Int)<(n:Int):=by omega
 have zK5:(i:Int)<(cn:Int):=by omega
 clear hn hcn hln hmn hun hT hrl
 obtain⟨hB,h1,h2,h3,h4,h5⟩:=zbh w (.cells #[.int .i64 vars, .int .i64 dom, .slice (some ⟨kb,ko,none⟩) cn cc] 24) (.cells #[.int .i64 mod, .int .i64 bnd] 26) (.cells #[.slice (some ⟨eb,eo,none⟩) n qm, .slice ma mn xV, .bool bad] 30) (.cells #[.int .i64 kind, .int .i64 (i:Int), .int .i64 vr] 32) (.cells #[.slice none 0 0, .slice none 0 0, .bool false] 30)
 have HB:=qh hB
 have H1:=qh h1
 have H2:=qh h2
 have H3:=qh h3
 have H4:=qh h4
 have H5:=qh h5
 have HQ:Hid (∀x,Below w.heap.size w x->(x.cell? ⟨eb,eo+i*6,none⟩=some (.int .i64 (pc:Int))/\x.cell? ⟨eb,eo+i*6+1,none⟩=some (.int .i64 g0)/\x.cell? ⟨eb,eo+i*6+2,none⟩=some (.int .i64 g1)/\x.cell? ⟨eb,eo+i*6+3,none⟩=some (.int .i64 g2)/\x.cell? ⟨eb,eo+i*6+4,none⟩=some (.int .i64 g3)/\x.cell? ⟨eb,eo+i*6+5,none⟩=some (.slice ba un bc))/\x.cell? ⟨kb,ko+i,none⟩=some (.slice ka ln kc)):=fun x hx=>
  ⟨⟨zl hx _ _ q0,zl hx _ _ q1,zl hx _ _ q2,zl hx _ _ q3,zl hx _ _ q4,zl hx _ _ q5⟩,zl hx _ _ hrow⟩
 clear hB h1 h2 h3 h4 h5 q0 q1 q2 q3 q4 q5 hrow
 go_enter Tryz.func50,Tryz.ntmps50
 go_upto_region 1 with fail
 generalize World.alloc (World.alloc (World.alloc (World.alloc (World.alloc w _) _) _) _) _=W at HB H1 H2 H3 H4 H5 ⊢
 obtain⟨gx,hgx⟩:∃gx,gx=w.heap.size:=⟨_,rfl⟩
 rw [<-hgx] at H1 H2 H3 H4 H5 ⊢
 have yS:=qh hgx
 clear hgx
 have xD:Hid (∀y,Below W.heap.size W y->y.cell? ⟨gx,1,none⟩=some (.int .i64 dom)/\y.cell? ⟨gx+1,0,none⟩=some (.int .i64 mod)/\y.cell? ⟨gx+1,1,none⟩=some (.int .i64 bnd)/\y.cell? ⟨gx+2,0,none⟩=some (.slice (some ⟨eb,eo,none⟩) n qm)/\y.cell? ⟨gx+2,1,none⟩=some (.slice ma mn xV)/\y.cell? ⟨gx+2,2,none⟩=some (.bool bad)/\
   y.cell? ⟨gx+3,0,none⟩=some (.int .i64 kind)/\y.cell? ⟨gx+3,1,none⟩=some (.int .i64 (i:Int))/\y.cell? ⟨gx+3,2,none⟩=some (.int .i64 vr)/\y.cell? ⟨gx,2,none⟩=some (.slice (some ⟨kb,ko,none⟩) cn cc)/\
   y.cell? ⟨eb,eo+i*6,none⟩=some (.int .i64 (pc:Int))/\y.cell? ⟨eb,eo+i*6+1,none⟩=some (.int .i64 g0)/\y.cell? ⟨eb,eo+i*6+2,none⟩=some (.int .i64 g1)/\y.cell? ⟨eb,eo+i*6+3,none⟩=some (.int .i64 g2)/\y.cell? ⟨eb,eo+i*6+4,none⟩=some (.int .i64 g3)/\y.cell? ⟨eb,eo+i*6+5,none⟩=some (.slice ba un bc)/\y.cell? ⟨kb,ko+i,none⟩=some (.slice ka ln kc)):=fun y hx=>by
  obtain⟨⟨p0,p1,p2,p3,p4,p5⟩,p6⟩:=HQ.out y (HB.out.trans (hx.mono HB.out.size))
  exact⟨zl hx _ _ (zi H1.out 1),zl hx _ _ (zi H2.out 0),zl hx _ _ (zi H2.out 1),zl hx _ _ (zi H3.out 0),zl hx _ _ (zi H3.out 1),zl hx _ _ (zi H3.out 2),zl hx _ _ (zi H4.out 0),zl hx _ _ (zi H4.out 1),zl hx _ _ (zi H4.out 2),zl hx _ _ (zi H1.out 2),p0,p1,p2,p3,p4,p5,p6⟩
 clear HQ
 refine wp_region_noPanic ?_
 refine wp_region_held_drew (S:=fun x=>Below W.heap.size W x) (by kernel_rfl) ((Below.refl _ _).drew) (fun hH=> ?_)
 refine zo 0 12 ?vh1 rfl ?uH ?_
 case uH=>(intro x h;have e:=xD.out x h;go_simp<;>rfl)
 simp only [Act.put,za,ze,zh]
 refine zo 1 13 ?vh2 rfl ?uI ?_
 case uI=>(intro x h;have e:=xD.out x h;go_simp<;>rfl)
 simp only [Act.put,za,ze,zh]
 refine zo 2 14 ?vh3 rfl ?uJ ?_
 case uJ=>(intro x h;have e:=xD.out x h;go_simp<;>rfl)
 simp only [Act.put,za,ze,zh]
 refine zo 3 15 ?vh4 rfl ?uK ?_
 case uK=>(intro x h;have e:=xD.out x h;go_simp<;>rfl)
 simp only [Act.put,za,ze,zh]
 refine zo 4 16 ?vh5 rfl ?uL ?_
 case uL=>(intro x h;have e:=xD.out x h;go_simp<;>rfl)
 simp only [Act.put,za,ze,zh]
 refine zo 5 17 ?vh6 rfl ?uM ?_
 case uM=>(intro x h;have e:=xD.out x h;go_simp<;>rfl)
 simp only [Act.put,za,ze,zh]
 refine zo 6 18 ?vh7 rfl ?uN ?_
 case uN=>(intro x h;have e:=xD.out x h;go_simp<;>rfl)
 simp only [Act.put,za,ze,zh]
 refine zo 7 19 ?vh8 rfl ?uO ?_
 case uO=>(intro x h;have e:=xD.out x h;go_simp<;>rfl)
 simp only [Act.put,za,ze,zh]
 refine zo 8 20 ?vh9 rfl ?zaa ?_
 case zaa=>(intro x h;have e:=xD.out x h;go_simp<;>rfl)
 simp only [Act.put,za,ze,zh]
 refine zo 9 21 ?zrE rfl ?zcD ?_
 case zcD=>(intro x h;have e:=xD.out x h;go_simp<;>rfl)
 simp only [Act.put,za,ze,zh]
 refine zo 10 22 ?z0q rfl ?zg5 ?_
 case zg5=>(intro x h;have e:=xD.out x h;go_simp<;>rfl)
 simp only [Act.put,za,ze,zh]
 refine zo 12 24 ?zB9 rfl ?znt ?_
 case znt=>(intro x h;have e:=xD.out x h;go_simp<;>rfl)
 simp only [Act.put,za,ze,zh]
 refine zo 13 25 ?zBA rfl ?znu ?_
 case znu=>(intro x h;have e:=xD.out x h;go_simp<;>rfl)
 simp only [Act.put,za,ze,zh]
 refine zY 11 rfl (fun K hK=> ?_)
 go_simp
 refine(ztz.out W.drew (HB.out.trans ((hH).mono HB.out.size))).mono ?_
 rintro e zbp ⟨⟨mba,mcc,rfl,hmr⟩,hb⟩
 obtain⟨mb,rfl⟩:=zr6 hmr (by rw [<-vS.out];exact zty)
 have HMR:=qh (xS hmr (Below.refl _ _))
 clear hmr
 have zgA:Below W.heap.size W zbp:=zF hH hb
 refine hK.out _ _ zgA (fun _=> ?_)
 clear hK K hb hH
 refine zo 14 26 ?zBB rfl ?znv ?_
 case znv=>(intro x h;have e:=xD.out x h;go_simp<;>rfl)
 simp only [Act.put,za,ze,zh]
 refine zY 15 rfl (fun K hK=> ?_)
 go_simp
 have HWV:=qh zgA
 have z4Y:=(zgA).alloc (zgA).size (.cells #[.int .i64 (pc:Int), .int .i64 g0, .int .i64 g1, .int .i64 g2, .int .i64 g3, .slice ba un bc, .int .i64 mod, .int .i64 bnd, .int .i64 dom, .slice (some ⟨mb,0,none⟩) mn mcc, .bool bad] 138)
 refine hK.out _ _ z4Y (fun _=> ?_)
 clear hK K zgA
 refine zo 16 10 ?zBC rfl ?znw ?_
 case znw=>(intro x h;have e:=xD.out x h;go_simp<;>rfl)
 simp only [Act.put,za,ze,zh]
 refine wpAnyH_done (by kernel_rfl) ?_ _
 refine NoPanic.normal ?_
 go_upto_region 3 with fail
 have HV:Hid (Below W.heap.size W zbp/\zbp.ownsRow W.heap.size 3 1 (.slice (some ⟨mb,0,none⟩) mn mcc) mn (zq yK mem)):=⟨HWV.out,HMR.out⟩
 have zhc:=qh (zc6.out zbp W.heap.size mb mcc (HB.out.trans (HV.out.1.mono HB.out.size)) HB.out.size HV.out.1.size HV.out.2)
 have HW1:Hid (Below W.heap.size W (zbp.alloc (.cells #[.int .i64 (pc:Int), .int .i64 g0, .int .i64 g1, .int .i64 g2, .int .i64 g3, .slice ba un bc, .int .i64 mod, .int .i64 bnd, .int .i64 dom, .slice (some ⟨mb,0,none⟩) mn mcc, .bool bad] 138))):=HV.out.1.alloc HV.out.1.size _
 generalize World.alloc zbp _=W1 at zhc HW1 ⊢
 obtain⟨gr,hgr⟩:∃g,g=zbp.heap.size:=⟨_,rfl⟩
 rw [<-hgr] at zhc ⊢
 clear hgr
 obtain⟨-, -, -, -, -, -,k0,k1,k2,k3, -, -, -, -, -, -,k4⟩:=xD.out W1 HW1.out
 by_cases hk1:kind=1
 rotate_left
 ·by_cases hk2:kind=2
  rotate_left
  ·have hk3:((kind:Int)==1)=false:=by simp [hk1]
   have hk4:((kind:Int)==2)=false:=by simp [hk2]
   have hr:=HR3.out (fun h=>hk1 h.1) hk2
   have HRR:=qh hr
   clear hr HR1 HR2 HR3 kJ zcu hk1 hk2
   clear k3 k4
   have hr:R=none:=HRR.out
   have jK:=qh hr
   clear hr
   obtain⟨⟨q0,q1,q2⟩,⟨f0,f1,f2⟩,hend⟩:=gT (w:=w) ((HW1.out.block (gx+4) (zw H5.out)).trans H5.out) (HB.out.trans (HW1.out.mono HB.out.size)) (by rw [yS.out];omega)
   obtain⟨hset, -,hbe⟩:=hend (.slice none 0 0) (.slice none 0 0) (.bool false)
   have zI:=qh hset
   have yE:=qh hbe
   clear hset hbe hend
   go_wp2_with fail
   (try simp only [Exit.inBlock,Exit.then])
   refine bodyPost_ret (zD rfl _ _ (gx+4) 30 _ (0,0) _ rfl zI.out Tryz.underlying30 rfl zG) rfl ?_
   exact⟨yE.out, .inl ⟨jK.out,rfl⟩⟩
  subst hk2
  have HRR:=qh (HR2.out rfl)
  clear HR1 HR2 HR3 kJ hk1
  go_wp2_with fail
  refine(zcu.out W1 W.heap.size gr mb mcc zhc.out HW1.out.size).mono ?_
  rintro e W3 ⟨hbe,⟨hres,rfl⟩|⟨⟨tp,trg,tbf⟩,mem',bad',bv,hres,rfl,zfo,hrun⟩⟩
  ·have HW3:Hid (Below W.heap.size W W3):=HW1.out.trans hbe
   clear k0 k1 k2 k3 k4 hbe
   have hr:R=none:=by rw [HRR.out,hres];rfl
   have jK:=qh hr
   clear hr
   obtain⟨⟨q0,q1,q2⟩,⟨f0,f1,f2⟩,hend⟩:=gT (w:=w) ((HW3.out.block (gx+4) (zw H5.out)).trans H5.out) (HB.out.trans (HW3.out.mono HB.out.size)) (by rw [yS.out];omega)
   obtain⟨hset, -,hbe⟩:=hend (.slice none 0 0) (.slice none 0 0) (.bool false)
   have zI:=qh hset
   have yE:=qh hbe
   clear hset hbe hend
   go_wp2_with fail
   (try simp only [Exit.inBlock,Exit.then])
   refine bodyPost_ret (zD rfl _ _ (gx+4) 30 _ (0,0) _ rfl zI.out Tryz.underlying30 rfl zG) rfl ?_
   exact⟨yE.out, .inl ⟨jK.out,rfl⟩⟩
  ·have HW3:Hid (Below W.heap.size W W3):=HW1.out.trans hbe
   clear k0 k1 k2 k3 k4 hbe
   simp only [] at hres zfo hrun
   obtain⟨r0,r1,r2,r3,rfl⟩:=j4 zfo
   simp only [List.getD_cons_zero,List.getD_cons_succ] at hrun
   obtain⟨xa,xc,rfl, -⟩:=zk.slice hrun.qF
   obtain⟨xn,hxn⟩:∃n,n=tbf.length:=⟨_,rfl⟩
   rw [<-hxn] at hrun
   clear hxn
   have hr:R=some ⟨ts.set i ⟨tp, [r0,r1,r2,r3],tbf⟩,mem',bad'⟩:=by rw [HRR.out,hres];rfl
   have HRS:=qh hr
   have wN:=qh hrun
   clear hr hres zfo hrun zhc
   have jk:Hid (W3.heap[gx+2]? =some (.cells #[.slice (some ⟨eb,eo,none⟩) n qm, .slice ma mn xV, .bool bad] 30 (0,0))):=(HW3.out.block _ (zw H3.out)).trans H3.out
   have p0:W3.cell? ⟨gx+2,0,none⟩=some (.slice (some ⟨eb,eo,none⟩) n qm):=zi jk.out 0
   go_wp2_with fail
   refine(zn3.out W3 (HB.out.trans (HW3.out.mono HB.out.size))).mono ?_
   rintro e W4 ⟨⟨tba,tcc,rfl,hrw⟩,hb4⟩
   obtain⟨tb,rfl⟩:=ze7 hrw (by rw [<-HN.out];exact zn2)
   have HRW:=qh hrw
   have vB:=qh hb4
   clear hrw hb4 p0
   have jq:Hid (W4.heap[gx+2]? =some (.cells #[.slice (some ⟨eb,eo,none⟩) n qm, .slice ma mn xV, .bool bad] 30 (0,0))):=(vB.out.block _ (zw jk.out)).trans jk.out
   have p0:W4.cell? ⟨gx+2,0,none⟩=some (.slice (some ⟨eb,eo,none⟩) n qm):=zi jq.out 0
   have p1:W4.frozen? ⟨gx+2,0,none⟩=false:=zB jq.out 0
   go_upto_region 10 with fail
   clear p0 p1
   have kr:Hid (tb≠gx+2/\gx+3≠gx+2/\gr≠gx+2):=⟨by have:=(HRW.out.lt tb rfl).1;have:=zw jk.out;omega,by omega,by have:=wN.out.base;have:=zw H3.out;omega⟩
   have HSX:Hid (Since (fun k=>k=gx+2) W4 (W4.setCell ⟨gx+2,0,none⟩ (.slice (some ⟨tb,0,none⟩) n tcc))):=Since.setCell (F:=fun k=>k=gx+2) (p:=⟨gx+2,0,none⟩) (Since.refl _ _) (.inl rfl) _
   have zah:Hid ((W4.setCell ⟨gx+2,0,none⟩ (.slice (some ⟨tb,0,none⟩) n tcc)).heap[gx+2]? =some (.cells #[.slice (some ⟨tb,0,none⟩) n tcc, .slice ma mn xV, .bool bad] 30 (0,0))):=zA jq.out 0 _
   obtain⟨X,hX⟩:∃X,X=W4.setCell ⟨gx+2,0,none⟩ (.slice (some ⟨tb,0,none⟩) n tcc):=⟨_,rfl⟩
   rw [<-hX] at HSX zah ⊢
   have HXE:=qh hX
   clear hX
   have gW:=qh (HSX.out.row HRW.out (fun k hk e=>by cases hk;exact kr.out.1 e))
   have HR4:=qh (wN.out.below vB.out)
   have wK:Hid (X.heap[gr]? =_):=(HSX.out.block gr (zw HR4.out.block) kr.out.2.2).trans HR4.out.block
   have zt0:Hid (X.heap[gx+3]? =_):=(HSX.out.block (gx+3) (Nat.lt_of_lt_of_le (zw H4.out) (Nat.le_trans HW3.out.size vB.out.size)) kr.out.2.1).trans ((vB.out.block _ (Nat.lt_of_lt_of_le (zw H4.out) HW3.out.size)).trans ((HW3.out.block _ (zw H4.out)).trans H4.out))
   have C4:Hid (∀x,Below X.heap.size X x->x.cell? ⟨gx+2,0,none⟩=some (.slice (some ⟨tb,0,none⟩) n tcc)/\x.cell? ⟨gx+3,1,none⟩=some (.int .i64 (i:Int))/\x.cell? ⟨gr,0,none⟩=some (.int .i64 tp)/\x.cell? ⟨gr,1,none⟩=some (.int .i64 r0)/\x.cell? ⟨gr,2,none⟩=some (.int .i64 r1)/\x.cell? ⟨gr,3,none⟩=some (.int .i64 r2)/\x.cell? ⟨gr,4,none⟩=some (.int .i64 r3)/\x.cell? ⟨gr,5,none⟩=some (.slice xa xn xc)/\x.cell? ⟨gr,9,none⟩=some (.slice (some ⟨mb,0,none⟩) mem'.length mcc)/\x.cell? ⟨gr,10,none⟩=some (.bool bad')):=fun x hx=>⟨zl hx _ _ (zi zah.out 0),zl hx _ _ (zi zt0.out 1),zl hx _ _ (zi wK.out 0),zl hx _ _ (zi wK.out 1),zl hx _ _ (zi wK.out 2),zl hx _ _ (zi wK.out 3),zl hx _ _ (zi wK.out 4),zl hx _ _ (zi wK.out 5),zl hx _ _ (zi wK.out 9),zl hx _ _ (zi wK.out 10)⟩
   obtain⟨⟨v0,hv0⟩,⟨v1,hv1⟩,⟨v2,hv2⟩,⟨v3,hv3⟩,⟨v4,hv4⟩,⟨v5,hv5⟩⟩:=(⟨HOLD.out 0 (by omega),HOLD.out 1 (by omega),HOLD.out 2 (by omega),HOLD.out 3 (by omega),HOLD.out 4 (by omega),HOLD.out 5 (by omega)⟩:(∃u,(zR ts bs)[i*6+0]? =some u)/\(∃u,(zR ts bs)[i*6+1]? =some u)/\(∃u,(zR ts bs)[i*6+2]? =some u)/\(∃u,(zR ts bs)[i*6+3]? =some u)/\(∃u,(zR ts bs)[i*6+4]? =some u)/\(∃u,(zR ts bs)[i*6+5]? =some u))
   obtain⟨t0,u0⟩:X.cell? ⟨tb,i*6,none⟩=some v0/\X.frozen? ⟨tb,i*6,none⟩=false:=by obtain⟨g,cap,he, -,h1,h2⟩:=qM gW.out hv0;cases he;exact⟨h1,h2⟩
   obtain⟨t1,u1⟩:X.cell? ⟨tb,i*6+1,none⟩=some v1/\X.frozen? ⟨tb,i*6+1,none⟩=false:=by obtain⟨g,cap,he, -,h1,h2⟩:=qM gW.out hv1;cases he;exact⟨h1,h2⟩
   obtain⟨t2,u2⟩:X.cell? ⟨tb,i*6+2,none⟩=some v2/\X.frozen? ⟨tb,i*6+2,none⟩=false:=by obtain⟨g,cap,he, -,h1,h2⟩:=qM gW.out hv2;cases he;exact⟨h1,h2⟩
   obtain⟨t3,u3⟩:X.cell? ⟨tb,i*6+3,none⟩=some v3/\X.frozen? ⟨tb,i*6+3,none⟩=false:=by obtain⟨g,cap,he, -,h1,h2⟩:=qM gW.out hv3;cases he;exact⟨h1,h2⟩
   obtain⟨t4,u4⟩:X.cell? ⟨tb,i*6+4,none⟩=some v4/\X.frozen? ⟨tb,i*6+4,none⟩=false:=by obtain⟨g,cap,he, -,h1,h2⟩:=qM gW.out hv4;cases he;exact⟨h1,h2⟩
   obtain⟨t5,u5⟩:X.cell? ⟨tb,i*6+5,none⟩=some v5/\X.frozen? ⟨tb,i*6+5,none⟩=false:=by obtain⟨g,cap,he, -,h1,h2⟩:=qM gW.out hv5;cases he;exact⟨h1,h2⟩
   clear hv0 hv1 hv2 hv3 hv4 hv5
   have xI:Hid (Since (fun k=>k=tb) X ((((((X.setCell ⟨tb,i*6,none⟩ (.int .i64 tp)).setCell ⟨tb,i*6+1,none⟩ (.int .i64 r0)).setCell ⟨tb,i*6+2,none⟩ (.int .i64 r1)).setCell ⟨tb,i*6+3,none⟩ (.int .i64 r2)).setCell ⟨tb,i*6+4,none⟩ (.int .i64 r3)).setCell ⟨tb,i*6+5,none⟩ (.slice xa xn xc))):=(((((((Since.refl (fun k=>k=tb) X).setCell (p:=⟨tb,i*6,none⟩) (.inl rfl) (.int .i64 tp)).setCell (p:=⟨tb,i*6+1,none⟩) (.inl rfl) (.int .i64 r0)).setCell (p:=⟨tb,i*6+2,none⟩) (.inl rfl) (.int .i64 r1)).setCell (p:=⟨tb,i*6+3,none⟩) (.inl rfl) (.int .i64 r2)).setCell (p:=⟨tb,i*6+4,none⟩) (.inl rfl) (.int .i64 r3)).setCell (p:=⟨tb,i*6+5,none⟩) (.inl rfl) (.slice xa xn xc))
   have HGN:=qh ((xI.out.block (gx+2) (zw zah.out) (fun e=>kr.out.1 e.symm)).trans zah.out)
   have n1:((((((X.setCell ⟨tb,i*6,none⟩ (.int .i64 tp)).setCell ⟨tb,i*6+1,none⟩ (.int .i64 r0)).setCell ⟨tb,i*6+2,none⟩ (.int .i64 r1)).setCell ⟨tb,i*6+3,none⟩ (.int .i64 r2)).setCell ⟨tb,i*6+4,none⟩ (.int .i64 r3)).setCell ⟨tb,i*6+5,none⟩ (.slice xa xn xc)).cell? ⟨gx+2,1,none⟩=some (.slice ma mn xV):=zi HGN.out 1
   have n2:((((((X.setCell ⟨tb,i*6,none⟩ (.int .i64 tp)).setCell ⟨tb,i*6+1,none⟩ (.int .i64 r0)).setCell ⟨tb,i*6+2,none⟩ (.int .i64 r1)).setCell ⟨tb,i*6+3,none⟩ (.int .i64 r2)).setCell ⟨tb,i*6+4,none⟩ (.int .i64 r3)).setCell ⟨tb,i*6+5,none⟩ (.slice xa xn xc)).cell? ⟨gx+2,2,none⟩=some (.bool bad):=zi HGN.out 2
   have n3:X.frozen? ⟨gx+2,1,none⟩=false:=zB zah.out 1
   have n4:X.frozen? ⟨gx+2,2,none⟩=false:=zB zah.out 2
   refine wp_region_noPanic ?_
   refine yT (n0:=17) (S:=fun x=>Below X.heap.size X x) (by kernel_rfl) ((Below.refl _ _).drew) (fun hZ=> ?_)
   refine zO 0 60 ?zK6 rfl ?z4Z (fun _=>hZ) ?_
   case z4Z=>(intro _ _;go_simp<;>rfl)
   simp only [Act.put,za,ze,zh]
   refine vD [16,17,18,19,20,21] 1 61 ?zK7 rfl ?z5a hZ ?_
   case z5a=>(intro x h;have e:=C4.out x h;go_simp<;>rfl)
   simp only [Act.put,za,ze,zh]
   refine zO 2 62 ?zK8 rfl ?z5b (fun _=>hZ) ?_
   case z5b=>(intro _ _;go_simp<;>rfl)
   simp only [Act.put,za,ze,zh]
   refine vD [16,17,18,19,20,21] 3 63 ?zK9 rfl ?z5c hZ ?_
   case z5c=>(intro x h;have e:=C4.out x h;go_simp<;>rfl)
   simp only [Act.put,za,ze,zh]
   refine zO 4 64 ?zKA rfl ?z5d (fun _=>hZ) ?_
   case z5d=>(intro _ _;go_simp<;>rfl)
   simp only [Act.put,za,ze,zh]
   refine zO 5 65 ?zKB rfl ?z5e (fun _=>hZ) ?_
   case z5e=>(intro _ _;go_simp<;>rfl)
   simp only [Act.put,za,ze,zh]
   refine zO 6 66 ?zKC rfl ?z5f (fun _=>hZ) ?_
   case z5f=>(intro _ _;go_simp<;>rfl)
   simp only [Act.put,za,ze,zh]
   refine vD [16,17,18,19,20,21] 7 67 ?zKD rfl ?z5g hZ ?_
   case z5g=>(intro x h;have e:=C4.out x h;go_simp<;>rfl)
   simp only [Act.put,za,ze,zh]
   refine zO 8 68 ?zKE rfl ?z5h (fun _=>hZ) ?_
   case z5h=>(intro _ _;go_simp<;>rfl)
   simp only [Act.put,za,ze,zh]
   refine zO 9 69 ?zGO rfl ?z04 (fun _=>hZ) ?_
   case z04=>(intro _ _;go_simp<;>rfl)
   simp only [Act.put,za,ze,zh]
   refine zO 10 70 ?zGP rfl ?z05 (fun _=>hZ) ?_
   case z05=>(intro _ _;go_simp<;>rfl)
   simp only [Act.put,za,ze,zh]
   refine vD [16,17,18,19,20,21] 11 71 ?zGQ rfl ?z06 hZ ?_
   case z06=>(intro x h;have e:=C4.out x h;go_simp<;>rfl)
   simp only [Act.put,za,ze,zh]
   refine zO 12 72 ?zGR rfl ?z07 (fun _=>hZ) ?_
   case z07=>(intro _ _;go_simp<;>rfl)
   simp only [Act.put,za,ze,zh]
   refine zO 13 73 ?zGS rfl ?z08 (fun _=>hZ) ?_
   case z08=>(intro _ _;go_simp<;>rfl)
   simp only [Act.put,za,ze,zh]
   refine zO 14 74 ?zGT rfl ?z09 (fun _=>hZ) ?_
   case z09=>(intro _ _;go_simp<;>rfl)
   simp only [Act.put,za,ze,zh]
   refine vD [16,17,18,19,20,21] 15 75 ?zGU rfl ?z0A hZ ?_
   case z0A=>(intro x h;have e:=C4.out x h;go_simp<;>rfl)
   simp only [Act.put,za,ze,zh]
   refine zO 16 76 ?zGV rfl ?z0B (fun _=>hZ) ?_
   case z0B=>(intro _ _;go_simp<;>rfl)
   simp only [Act.put,za,ze,zh]
   refine jB 17 rfl (fun K hK=> ?_)
   go_simp
   refine hK.out _ _ (fun h=>absurd rfl h) ?_
   clear hK K
   refine zO 18 77 ?zGW rfl ?z0C (fun h=>absurd h (by decide+kernel)) ?_
   case z0C=>(intro _ _;go_simp<;>rfl)
   simp only [Act.put,za,ze,zh]
   refine jB 19 rfl (fun K hK=> ?_)
   go_simp
   refine hK.out _ _ (fun _ h=>absurd h (by decide+kernel)) ?_
   clear hK K
   refine zO 20 78 ?zGX rfl ?z0D (fun h=>absurd h (by decide+kernel)) ?_
   case z0D=>(intro _ _;go_simp<;>rfl)
   simp only [Act.put,za,ze,zh]
   refine jB 21 rfl (fun K hK=> ?_)
   go_simp
   refine hK.out _ _ (fun _ h=>absurd h (by decide+kernel)) ?_
   clear hK K
   refine xM (by kernel_rfl) ?_ _
   refine NoPanic.normal ?_
   clear n1 n2 n3 n4 t0 u0 t1 u1 t2 u2 t3 u3 t4 u4 t5 u5
   go_upto_region 11 with fail
   obtain⟨hst,hzb,hzs,hzw⟩:=zg9.out _ _ _ _ _ _ _ _ _ _ _ _ _ _ _ _ _ _ _ _ _ _ _ _ wN.out jk.out (zw H3.out) (by rw [yS.out];omega) (HB.out.trans (HW3.out.mono HB.out.size)) HRW.out vB.out HB.out.size (((((((((X.setCell ⟨tb,i*6,none⟩ (.int .i64 tp)).setCell ⟨tb,i*6+1,none⟩ (.int .i64 r0)).setCell ⟨tb,i*6+2,none⟩ (.int .i64 r1)).setCell ⟨tb,i*6+3,none⟩ (.int .i64 r2)).setCell ⟨tb,i*6+4,none⟩ (.int .i64 r3)).setCell ⟨tb,i*6+5,none⟩ (.slice xa xn xc)).setCell ⟨gx+2,1,none⟩ (.slice (some ⟨mb,0,none⟩) mem'.length mcc)).setCell ⟨gx+2,2,none⟩ (.bool bad')).drew) (by rw [HXE.out];exact zjf _ _ _ _ _ _ _ _ _ _ _ _ _ _ _ _ _)
   have HG5:Hid (X.heap[gx+4]? =_):=(HSX.out.block (gx+4) (Nat.lt_of_lt_of_le (zw H5.out) (Nat.le_trans HW3.out.size vB.out.size)) (by omega)).trans ((vB.out.block _ (Nat.lt_of_lt_of_le (zw H5.out) HW3.out.size)).trans ((HW3.out.block _ (zw H5.out)).trans H5.out))
   have zfp:=(hzs.block (gx+4) (Nat.lt_of_lt_of_le (zw H5.out) (Nat.le_trans HW3.out.size vB.out.size)) (by have:=(HRW.out.lt tb rfl).1;have:=HW3.out.size;have:=zw H5.out;omega)).trans ((vB.out.block _ (Nat.lt_of_lt_of_le (zw H5.out) HW3.out.size)).trans ((HW3.out.block _ (zw H5.out)).trans H5.out))
   generalize ((((((((X.setCell ⟨tb,i*6,none⟩ (.int .i64 tp)).setCell ⟨tb,i*6+1,none⟩ (.int .i64 r0)).setCell ⟨tb,i*6+2,none⟩ (.int .i64 r1)).setCell ⟨tb,i*6+3,none⟩ (.int .i64 r2)).setCell ⟨tb,i*6+4,none⟩ (.int .i64 r3)).setCell ⟨tb,i*6+5,none⟩ (.slice xa xn xc)).setCell ⟨gx+2,1,none⟩ (.slice (some ⟨mb,0,none⟩) mem'.length mcc)).setCell ⟨gx+2,2,none⟩ (.bool bad')).drew=Z at hst hzb hzs hzw zfp ⊢
   have z0:Z.cell? ⟨gx+2,0,none⟩=some (.slice (some ⟨tb,0,none⟩) n tcc):=zi hzb 0
   have z1:Z.cell? ⟨gx+2,1,none⟩=some (.slice (some ⟨mb,0,none⟩) mem'.length mcc):=zi hzb 1
   have z2:Z.cell? ⟨gx+2,2,none⟩=some (.bool bad'):=zi hzb 2
   obtain⟨⟨q0,q1,q2⟩,⟨f0,f1,f2⟩,hend⟩:=gT (w:=w) zfp hzw (by rw [yS.out];omega)
   obtain⟨hset,hsi,hbe⟩:=hend (.slice (some ⟨tb,0,none⟩) n tcc) (.slice (some ⟨mb,0,none⟩) mem'.length mcc) (.bool bad')
   have yC:=qh (hst (gx+4) _ (by rw [yS.out];omega) (zw H5.out) hsi)
   have zI:=qh hset
   have yE:=qh hbe
   clear hset hbe hend hsi hst hzb hzs hzw zfp
   go_wp2_with fail
   (try simp only [Exit.inBlock,Exit.then])
   refine bodyPost_ret (zD rfl _ _ (gx+4) 30 _ (0,0) _ rfl zI.out Tryz.underlying30 rfl zG) rfl ?_
   exact⟨yE.out, .inr ⟨_,_,_,_,_,_,_,HRS.out,rfl,yC.out⟩⟩
 subst hk1
 by_cases hv0:vr=0
 rotate_left
 ·have hv1:((vr:Int)==0)=false:=by simp [hv0]
  have hr:=HR3.out (fun h=>hv0 h.2) (by omega)
  have HRR:=qh hr
  clear hr HR1 HR2 HR3 kJ zcu hv0
  clear k3 k4
  have hr:R=none:=HRR.out
  have jK:=qh hr
  clear hr
  obtain⟨⟨q0,q1,q2⟩,⟨f0,f1,f2⟩,hend⟩:=gT (w:=w) ((HW1.out.block (gx+4) (zw H5.out)).trans H5.out) (HB.out.trans (HW1.out.mono HB.out.size)) (by rw [yS.out];omega)
  obtain⟨hset, -,hbe⟩:=hend (.slice none 0 0) (.slice none 0 0) (.bool false)
  have zI:=qh hset
  have yE:=qh hbe
  clear hset hbe hend
  go_wp2_with fail
  (try simp only [Exit.inBlock,Exit.then])
  refine bodyPost_ret (zD rfl _ _ (gx+4) 30 _ (0,0) _ rfl zI.out Tryz.underlying30 rfl zG) rfl ?_
  exact⟨yE.out, .inl ⟨jK.out,rfl⟩⟩
 subst hv0
 have HRR:=qh (HR1.out rfl rfl)
 clear HR1 HR2 HR3 zcu
 go_wp2_with fail
 refine(kJ.out W1 W.heap.size gr mb mcc zhc.out HW1.out.size (HB.out.trans (HW1.out.mono HB.out.size)) HB.out.size).mono ?_
 rintro e W3 ⟨hbe,⟨hres,rfl⟩|⟨⟨tp,trg,tbf⟩,mem',bad',bv,hres,rfl,zfo,hrun⟩⟩
 ·have HW3:Hid (Below W.heap.size W W3):=HW1.out.trans hbe
  clear k0 k1 k2 k3 k4 hbe
  have hr:R=none:=by rw [HRR.out,hres];rfl
  have jK:=qh hr
  clear hr
  obtain⟨⟨q0,q1,q2⟩,⟨f0,f1,f2⟩,hend⟩:=gT (w:=w) ((HW3.out.block (gx+4) (zw H5.out)).trans H5.out) (HB.out.trans (HW3.out.mono HB.out.size)) (by rw [yS.out];omega)
  obtain⟨hset, -,hbe⟩:=hend (.slice none 0 0) (.slice none 0 0) (.bool false)
  have zI:=qh hset
  have yE:=qh hbe
  clear hset hbe hend
  go_wp2_with fail
  (try simp only [Exit.inBlock,Exit.then])
  refine bodyPost_ret (zD rfl _ _ (gx+4) 30 _ (0,0) _ rfl zI.out Tryz.underlying30 rfl zG) rfl ?_
  exact⟨yE.out, .inl ⟨jK.out,rfl⟩⟩
 ·have HW3:Hid (Below W.heap.size W W3):=HW1.out.trans hbe
  clear k0 k1 k2 k3 k4 hbe
  simp only [] at hres zfo hrun
  obtain⟨r0,r1,r2,r3,rfl⟩:=j4 zfo
  simp only [List.getD_cons_zero,List.getD_cons_succ] at hrun
  obtain⟨xa,xc,rfl, -⟩:=zk.slice hrun.qF
  obtain⟨xn,hxn⟩:∃n,n=tbf.length:=⟨_,rfl⟩
  rw [<-hxn] at hrun
  clear hxn
  have hr:R=some ⟨ts.set i ⟨tp, [r0,r1,r2,r3],tbf⟩,mem',bad'⟩:=by rw [HRR.out,hres];rfl
  have HRS:=qh hr
  have wN:=qh hrun
  clear hr hres zfo hrun zhc
  have jk:Hid (W3.heap[gx+2]? =some (.cells #[.slice (some ⟨eb,eo,none⟩) n qm, .slice ma mn xV, .bool bad] 30 (0,0))):=(HW3.out.block _ (zw H3.out)).trans H3.out
  have p0:W3.cell? ⟨gx+2,0,none⟩=some (.slice (some ⟨eb,eo,none⟩) n qm):=zi jk.out 0
  go_wp2_with fail
  refine(zn3.out W3 (HB.out.trans (HW3.out.mono HB.out.size))).mono ?_
  rintro e W4 ⟨⟨tba,tcc,rfl,hrw⟩,hb4⟩
  obtain⟨tb,rfl⟩:=ze7 hrw (by rw [<-HN.out];exact zn2)
  have HRW:=qh hrw
  have vB:=qh hb4
  clear hrw hb4 p0
  have jq:Hid (W4.heap[gx+2]? =some (.cells #[.slice (some ⟨eb,eo,none⟩) n qm, .slice ma mn xV, .bool bad] 30 (0,0))):=(vB.out.block _ (zw jk.out)).trans jk.out
  have p0:W4.cell? ⟨gx+2,0,none⟩=some (.slice (some ⟨eb,eo,none⟩) n qm):=zi jq.out 0
  have p1:W4.frozen? ⟨gx+2,0,none⟩=false:=zB jq.out 0
  go_upto_region 10 with fail
  clear p0 p1
  have kr:Hid (tb≠gx+2/\gx+3≠gx+2/\gr≠gx+2):=⟨by have:=(HRW.out.lt tb rfl).1;have:=zw jk.out;omega,by omega,by have:=wN.out.base;have:=zw H3.out;omega⟩
  have HSX:Hid (Since (fun k=>k=gx+2) W4 (W4.setCell ⟨gx+2,0,none⟩ (.slice (some ⟨tb,0,none⟩) n tcc))):=Since.setCell (F:=fun k=>k=gx+2) (p:=⟨gx+2,0,none⟩) (Since.refl _ _) (.inl rfl) _
  have zah:Hid ((W4.setCell ⟨gx+2,0,none⟩ (.slice (some ⟨tb,0,none⟩) n tcc)).heap[gx+2]? =some (.cells #[.slice (some ⟨tb,0,none⟩) n tcc, .slice ma mn xV, .bool bad] 30 (0,0))):=zA jq.out 0 _
  obtain⟨X,hX⟩:∃X,X=W4.setCell ⟨gx+2,0,none⟩ (.slice (some ⟨tb,0,none⟩) n tcc):=⟨_,rfl⟩
  rw [<-hX] at HSX zah ⊢
  have HXE:=qh hX
  clear hX
  have gW:=qh (HSX.out.row HRW.out (fun k hk e=>by cases hk;exact kr.out.1 e))
  have HR4:=qh (wN.out.below vB.out)
  have wK:Hid (X.heap[gr]? =_):=(HSX.out.block gr (zw HR4.out.block) kr.out.2.2).trans HR4.out.block
  have zt0:Hid (X.heap[gx+3]? =_):=(HSX.out.block (gx+3) (Nat.lt_of_lt_of_le (zw H4.out) (Nat.le_trans HW3.out.size vB.out.size)) kr.out.2.1).trans ((vB.out.block _ (Nat.lt_of_lt_of_le (zw H4.out) HW3.out.size)).trans ((HW3.out.block _ (zw H4.out)).trans H4.out))
  have C4:Hid (∀x,Below X.heap.size X x->x.cell? ⟨gx+2,0,none⟩=some (.slice (some ⟨tb,0,none⟩) n tcc)/\x.cell? ⟨gx+3,1,none⟩=some (.int .i64 (i:Int))/\x.cell? ⟨gr,0,none⟩=some (.int .i64 tp)/\x.cell? ⟨gr,1,none⟩=some (.int .i64 r0)/\x.cell? ⟨gr,2,none⟩=some (.int .i64 r1)/\x.cell? ⟨gr,3,none⟩=some (.int .i64 r2)/\x.cell? ⟨gr,4,none⟩=some (.int .i64 r3)/\x.cell? ⟨gr,5,none⟩=some (.slice xa xn xc)/\x.cell? ⟨gr,9,none⟩=some (.slice (some ⟨mb,0,none⟩) mem'.length mcc)/\x.cell? ⟨gr,10,none⟩=some (.bool bad')):=fun x hx=>⟨zl hx _ _ (zi zah.out 0),zl hx _ _ (zi zt0.out 1),zl hx _ _ (zi wK.out 0),zl hx _ _ (zi wK.out 1),zl hx _ _ (zi wK.out 2),zl hx _ _ (zi wK.out 3),zl hx _ _ (zi wK.out 4),zl hx _ _ (zi wK.out 5),zl hx _ _ (zi wK.out 9),zl hx _ _ (zi wK.out 10)⟩
  obtain⟨⟨v0,hv0⟩,⟨v1,hv1⟩,⟨v2,hv2⟩,⟨v3,hv3⟩,⟨v4,hv4⟩,⟨v5,hv5⟩⟩:=(⟨HOLD.out 0 (by omega),HOLD.out 1 (by omega),HOLD.out 2 (by omega),HOLD.out 3 (by omega),HOLD.out 4 (by omega),HOLD.out 5 (by omega)⟩:(∃u,(zR ts bs)[i*6+0]? =some u)/\(∃u,(zR ts bs)[i*6+1]? =some u)/\(∃u,(zR ts bs)[i*6+2]? =some u)/\(∃u,(zR ts bs)[i*6+3]? =some u)/\(∃u,(zR ts bs)[i*6+4]? =some u)/\(∃u,(zR ts bs)[i*6+5]? =some u))
  obtain⟨t0,u0⟩:X.cell? ⟨tb,i*6,none⟩=some v0/\X.frozen? ⟨tb,i*6,none⟩=false:=by obtain⟨g,cap,he, -,h1,h2⟩:=qM gW.out hv0;cases he;exact⟨h1,h2⟩
  obtain⟨t1,u1⟩:X.cell? ⟨tb,i*6+1,none⟩=some v1/\X.frozen? ⟨tb,i*6+1,none⟩=false:=by obtain⟨g,cap,he, -,h1,h2⟩:=qM gW.out hv1;cases he;exact⟨h1,h2⟩
  obtain⟨t2,u2⟩:X.cell? ⟨tb,i*6+2,none⟩=some v2/\X.frozen? ⟨tb,i*6+2,none⟩=false:=by obtain⟨g,cap,he, -,h1,h2⟩:=qM gW.out hv2;cases he;exact⟨h1,h2⟩
  obtain⟨t3,u3⟩:X.cell? ⟨tb,i*6+3,none⟩=some v3/\X.frozen? ⟨tb,i*6+3,none⟩=false:=by obtain⟨g,cap,he, -,h1,h2⟩:=qM gW.out hv3;cases he;exact⟨h1,h2⟩
  obtain⟨t4,u4⟩:X.cell? ⟨tb,i*6+4,none⟩=some v4/\X.frozen? ⟨tb,i*6+4,none⟩=false:=by obtain⟨g,cap,he, -,h1,h2⟩:=qM gW.out hv4;cases he;exact⟨h1,h2⟩
  obtain⟨t5,u5⟩:X.cell? ⟨tb,i*6+5,none⟩=some v5/\X.frozen? ⟨tb,i*6+5,none⟩=false:=by obtain⟨g,cap,he, -,h1,h2⟩:=qM gW.out hv5;cases he;exact⟨h1,h2⟩
  clear hv0 hv1 hv2 hv3 hv4 hv5
  have xI:Hid (Since (fun k=>k=tb) X ((((((X.setCell ⟨tb,i*6,none⟩ (.int .i64 tp)).setCell ⟨tb,i*6+1,none⟩ (.int .i64 r0)).setCell ⟨tb,i*6+2,none⟩ (.int .i64 r1)).setCell ⟨tb,i*6+3,none⟩ (.int .i64 r2)).setCell ⟨tb,i*6+4,none⟩ (.int .i64 r3)).setCell ⟨tb,i*6+5,none⟩ (.slice xa xn xc))):=(((((((Since.refl (fun k=>k=tb) X).setCell (p:=⟨tb,i*6,none⟩) (.inl rfl) (.int .i64 tp)).setCell (p:=⟨tb,i*6+1,none⟩) (.inl rfl) (.int .i64 r0)).setCell (p:=⟨tb,i*6+2,none⟩) (.inl rfl) (.int .i64 r1)).setCell (p:=⟨tb,i*6+3,none⟩) (.inl rfl) (.int .i64 r2)).setCell (p:=⟨tb,i*6+4,none⟩) (.inl rfl) (.int .i64 r3)).setCell (p:=⟨tb,i*6+5,none⟩) (.inl rfl) (.slice xa xn xc))
  have HGN:=qh ((xI.out.block (gx+2) (zw zah.out) (fun e=>kr.out.1 e.symm)).trans zah.out)
  have n1:((((((X.setCell ⟨tb,i*6,none⟩ (.int .i64 tp)).setCell ⟨tb,i*6+1,none⟩ (.int .i64 r0)).setCell ⟨tb,i*6+2,none⟩ (.int .i64 r1)).setCell ⟨tb,i*6+3,none⟩ (.int .i64 r2)).setCell ⟨tb,i*6+4,none⟩ (.int .i64 r3)).setCell ⟨tb,i*6+5,none⟩ (.slice xa xn xc)).cell? ⟨gx+2,1,none⟩=some (.slice ma mn xV):=zi HGN.out 1
  have n2:((((((X.setCell ⟨tb,i*6,none⟩ (.int .i64 tp)).setCell ⟨tb,i*6+1,none⟩ (.int .i64 r0)).setCell ⟨tb,i*6+2,none⟩ (.int .i64 r1)).setCell ⟨tb,i*6+3,none⟩ (.int .i64 r2)).setCell ⟨tb,i*6+4,none⟩ (.int .i64 r3)).setCell ⟨tb,i*6+5,none⟩ (.slice xa xn xc)).cell? ⟨gx+2,2,none⟩=some (.bool bad):=zi HGN.out 2
  have n3:X.frozen? ⟨gx+2,1,none⟩=false:=zB zah.out 1
  have n4:X.frozen? ⟨gx+2,2,none⟩=false:=zB zah.out 2
  refine wp_region_noPanic ?_
  refine yT (n0:=17) (S:=fun x=>Below X.heap.size X x) (by kernel_rfl) ((Below.refl _ _).drew) (fun hZ=> ?_)
  refine zO 0 60 ?zKF rfl ?z5i (fun _=>hZ) ?_
  case z5i=>(intro _ _;go_simp<;>rfl)
  simp only [Act.put,za,ze,zh]
  refine vD [16,17,18,19,20,21] 1 61 ?zKG rfl ?z5j hZ ?_
  case z5j=>(intro x h;have e:=C4.out x h;go_simp<;>rfl)
  simp only [Act.put,za,ze,zh]
  refine zO 2 62 ?zKH rfl ?z5k (fun _=>hZ) ?_
  case z5k=>(intro _ _;go_simp<;>rfl)
  simp only [Act.put,za,ze,zh]
  refine vD [16,17,18,19,20,21] 3 63 ?zKI rfl ?z5l hZ ?_
  case z5l=>(intro x h;have e:=C4.out x h;go_simp<;>rfl)
  simp only [Act.put,za,ze,zh]
  refine zO 4 64 ?zKJ rfl ?z5m (fun _=>hZ) ?_
  case z5m=>(intro _ _;go_simp<;>rfl)
  simp only [Act.put,za,ze,zh]
  refine zO 5 65 ?zKK rfl ?z5n (fun _=>hZ) ?_
  case z5n=>(intro _ _;go_simp<;>rfl)
  simp only [Act.put,za,ze,zh]
  refine zO 6 66 ?zKL rfl ?z5o (fun _=>hZ) ?_
  case z5o=>(intro _ _;go_simp<;>rfl)
  simp only [Act.put,za,ze,zh]
  refine vD [16,17,18,19,20,21] 7 67 ?zKM rfl ?z5p hZ ?_
  case z5p=>(intro x h;have e:=C4.out x h;go_simp<;>rfl)
  simp only [Act.put,za,ze,zh]
  refine zO 8 68 ?zKN rfl ?z5q (fun _=>hZ) ?_
  case z5q=>(intro _ _;go_simp<;>rfl)
  simp only [Act.put,za,ze,zh]
  refine zO 9 69 ?zGY rfl ?z0E (fun _=>hZ) ?_
  case z0E=>(intro _ _;go_simp<;>rfl)
  simp only [Act.put,za,ze,zh]
  refine zO 10 70 ?zGZ rfl ?z0F (fun _=>hZ) ?_
  case z0F=>(intro _ _;go_simp<;>rfl)
  simp only [Act.put,za,ze,zh]
  refine vD [16,17,18,19,20,21] 11 71 ?zHa rfl ?z0G hZ ?_
  case z0G=>(intro x h;have e:=C4.out x h;go_simp<;>rfl)
  simp only [Act.put,za,ze,zh]
  refine zO 12 72 ?zHb rfl ?z0H (fun _=>hZ) ?_
  case z0H=>(intro _ _;go_simp<;>rfl)
  simp only [Act.put,za,ze,zh]
  refine zO 13 73 ?zHc rfl ?z0I (fun _=>hZ) ?_
  case z0I=>(intro _ _;go_simp<;>rfl)
  simp only [Act.put,za,ze,zh]
  refine zO 14 74 ?zHd rfl ?z0J (fun _=>hZ) ?_
  case z0J=>(intro _ _;go_simp<;>rfl)
  simp only [Act.put,za,ze,zh]
  refine vD [16,17,18,19,20,21] 15 75 ?zHe rfl ?z0K hZ ?_
  case z0K=>(intro x h;have e:=C4.out x h;go_simp<;>rfl)
  simp only [Act.put,za,ze,zh]
  refine zO 16 76 ?zHf rfl ?z0L (fun _=>hZ) ?_
  case z0L=>(intro _ _;go_simp<;>rfl)
  simp only [Act.put,za,ze,zh]
  refine jB 17 rfl (fun K hK=> ?_)
  go_simp
  refine hK.out _ _ (fun h=>absurd rfl h) ?_
  clear hK K
  refine zO 18 77 ?zHg rfl ?z0M (fun h=>absurd h (by decide+kernel)) ?_
  case z0M=>(intro _ _;go_simp<;>rfl)
  simp only [Act.put,za,ze,zh]
  refine jB 19 rfl (fun K hK=> ?_)
  go_simp
  refine hK.out _ _ (fun _ h=>absurd h (by decide+kernel)) ?_
  clear hK K
  refine zO 20 78 ?zHh rfl ?z0N (fun h=>absurd h (by decide+kernel)) ?_
  case z0N=>(intro _ _;go_simp<;>rfl)
  simp only [Act.put,za,ze,zh]
  refine jB 21 rfl (fun K hK=> ?_)
  go_simp
  refine hK.out _ _ (fun _ h=>absurd h (by decide+kernel)) ?_
  clear hK K
  refine xM (by kernel_rfl) ?_ _
  refine NoPanic.normal ?_
  clear n1 n2 n3 n4 t0 u0 t1 u1 t2 u2 t3 u3 t4 u4 t5 u5
  go_upto_region 11 with fail
  obtain⟨hst,hzb,hzs,hzw⟩:=zg9.out _ _ _ _ _ _ _ _ _ _ _ _ _ _ _ _ _ _ _ _ _ _ _ _ wN.out jk.out (zw H3.out) (by rw [yS.out];omega) (HB.out.trans (HW3.out.mono HB.out.size)) HRW.out vB.out HB.out.size (((((((((X.setCell ⟨tb,i*6,none⟩ (.int .i64 tp)).setCell ⟨tb,i*6+1,none⟩ (.int .i64 r0)).setCell ⟨tb,i*6+2,none⟩ (.int .i64 r1)).setCell ⟨tb,i*6+3,none⟩ (.int .i64 r2)).setCell ⟨tb,i*6+4,none⟩ (.int .i64 r3)).setCell ⟨tb,i*6+5,none⟩ (.slice xa xn xc)).setCell ⟨gx+2,1,none⟩ (.slice (some ⟨mb,0,none⟩) mem'.length mcc)).setCell ⟨gx+2,2,none⟩ (.bool bad')).drew) (by rw [HXE.out];exact zjf _ _ _ _ _ _ _ _ _ _ _ _ _ _ _ _ _)
  have HG5:Hid (X.heap[gx+4]? =_):=(HSX.out.block (gx+4) (Nat.lt_of_lt_of_le (zw H5.out) (Nat.le_trans HW3.out.size vB.out.size)) (by omega)).trans ((vB.out.block _ (Nat.lt_of_lt_of_le (zw H5.out) HW3.out.size)).trans ((HW3.out.block _ (zw H5.out)).trans H5.out))
  have zfp:=(hzs.block (gx+4) (Nat.lt_of_lt_of_le (zw H5.out) (Nat.le_trans HW3.out.size vB.out.size)) (by have:=(HRW.out.lt tb rfl).1;have:=HW3.out.size;have:=zw H5.out;omega)).trans ((vB.out.block _ (Nat.lt_of_lt_of_le (zw H5.out) HW3.out.size)).trans ((HW3.out.block _ (zw H5.out)).trans H5.out))
  generalize ((((((((X.setCell ⟨tb,i*6,none⟩ (.int .i64 tp)).setCell ⟨tb,i*6+1,none⟩ (.int .i64 r0)).setCell ⟨tb,i*6+2,none⟩ (.int .i64 r1)).setCell ⟨tb,i*6+3,none⟩ (.int .i64 r2)).setCell ⟨tb,i*6+4,none⟩ (.int .i64 r3)).setCell ⟨tb,i*6+5,none⟩ (.slice xa xn xc)).setCell ⟨gx+2,1,none⟩ (.slice (some ⟨mb,0,none⟩) mem'.length mcc)).setCell ⟨gx+2,2,none⟩ (.bool bad')).drew=Z at hst hzb hzs hzw zfp ⊢
  have z0:Z.cell? ⟨gx+2,0,none⟩=some (.slice (some ⟨tb,0,none⟩) n tcc):=zi hzb 0
  have z1:Z.cell? ⟨gx+2,1,none⟩=some (.slice (some ⟨mb,0,none⟩) mem'.length mcc):=zi hzb 1
  have z2:Z.cell? ⟨gx+2,2,none⟩=some (.bool bad'):=zi hzb 2
  obtain⟨⟨q0,q1,q2⟩,⟨f0,f1,f2⟩,hend⟩:=gT (w:=w) zfp hzw (by rw [yS.out];omega)
  obtain⟨hset,hsi,hbe⟩:=hend (.slice (some ⟨tb,0,none⟩) n tcc) (.slice (some ⟨mb,0,none⟩) mem'.length mcc) (.bool bad')
  have yC:=qh (hst (gx+4) _ (by rw [yS.out];omega) (zw H5.out) hsi)
  have zI:=qh hset
  have yE:=qh hbe
  clear hset hbe hend hsi hst hzb hzs hzw zfp
  go_wp2_with fail
  (try simp only [Exit.inBlock,Exit.then])
  refine bodyPost_ret (zD rfl _ _ (gx+4) 30 _ (0,0) _ rfl zI.out Tryz.underlying30 rfl zG) rfl ?_
  exact⟨yE.out, .inr ⟨_,_,_,_,_,_,_,HRS.out,rfl,yC.out⟩⟩
end Go.Proofs.YtliajkheeniljaaGreatDoor
