/- Steps. -/
import Derived.Test.YtmijlmglnnbdjaaGreatDoorUtPTryP
set_option linter.all false
namespace Go.Proofs.YtmijlmglnnbdjaaGreatDoor
open Go.RowKit
set_option maxRecDepth 100000
set_option maxHeartbeats 16000000
theorem zn1 (w:World) (c:zG) (cv:Value) (d:Nat) (hc:yP d w cv c.threads) (m:zC) (s:zo) (sv mv:Value) (hs:yD w s sv mv) (hb:∀j,j<s.threads.length->(s.threads.getD j default).buf.length<=1000000) (hf:yJ c m s=true) (i:Nat) (hi:i<s.threads.length) (kind vr:Int):
  Calls Tryz.prog 64 #[yj c cv,yE m,yB s sv mv, .agg #[I4 kind,I4 (i:Int),I4 vr]] w (ziR w (Follows w s sv mv) (bS c m s i kind vr d)):=by
 obtain⟨hco, -,hlen,hml,zmo⟩:=zam hf;have hbd:=xY hco;have hic:i<c.threads.length:=by omega
 have zgf:=zmo i hi;have hfl:=λhv=>zcO hf hi (v:=vr) hv;obtain⟨R,hR⟩:=qxE (bS c m s i kind vr d);have hR1:kind=1->vr=0->R=_:=λE I=>hR.trans (zt5 E I);have hR2:kind=2->R=_:=λE=>hR.trans (zqF E (λhv=>(hfl hv).2.2));have hR3:¬(kind=1/\vr=0)->¬kind=2->R=none:=λE I=>hR.trans (zt6 E I);rw [<-hR];clear hR;obtain⟨ca,cc,rfl, -⟩:=zh.slice hc;obtain⟨ta,j6,rfl, -⟩:=zh.slice hs.threads;obtain⟨ma,vU,rfl, -⟩:=zh.slice hs.mem;obtain⟨bs,hbs,hsrc,hts,hone⟩:=SrcOf.threads hs.threads
 have zzH:SrcOf w (.slice ma s.mem.length vU) s.mem.length 1 (zx xI s.mem):=SrcOf.of_slice (R:=uV) (by decide) zbe (λ_ _ _ h=>h) hs.mem;obtain⟨eb,eo,ba,bc,yI, -,hrl,q0,q1,q2,q3,q4,q5,hbf⟩:=qR.part hs.threads i hi;subst yI;obtain⟨kb,ko,ka,kc,hka, -,hrow,hins⟩:=yP.part hc i hic;subst hka;have hbl:=hb i hi
 have hx:∀j,j<(c.threads.getD i []).length->zmw s.mem.length ((c.threads.getD i []).getD j default):=λj hj=>by
  have E:=ziB hco hic hj;exact⟨⟨E.2.1,E.2.2.1⟩,⟨E.2.2.2.1,by rw [hml];exact E.2.2.2.2⟩,z0I hco hic hj⟩
 have z5l:=λx (hx:Below w.heap.size w x)=>zn2 x _ s.mem.length _ (zzH.below hx) (λu hu=>by obtain⟨z, -,rfl⟩:∃z,z∈s.mem/\u=I4 z:=(by unfold zx xI at hu;simpa [eq_comm] using hu);rfl) (by omega)
 have z5m:=λx (hx:Below w.heap.size w x)=>zjE x _ s.threads.length _ (hsrc.below hx) hone (by omega);obtain⟨T,hT⟩:=qxE (s.threads.getD i default);rw [<-hT] at hrl q0 q1 q2 q3 q4 q5 hbf hbl hR1 hR2 zgf hfl;obtain⟨pc,regs,buf⟩:=T;obtain⟨g0,g1,g2,g3,rfl⟩:=wM hrl;simp only [List.getD_cons_zero,List.getD_cons_succ] at q0 q1 q2 q3 q4 q5 hbf hbl hR1 hR2 zgf hfl;obtain⟨pc,rfl⟩:∃k:Nat,pc=(k:Int):=⟨pc.toNat,by omega⟩;simp only [Int.toNat_natCast] at hR1
 have hstep:∀W1 B J mb mc,xP (.slice ba buf.length bc) W1 B J (pc:Int) g0 g1 g2 g3 buf (.slice ba buf.length bc) m c.domain s.mem mb mc s.bad->B<=W1.heap.size->Below w.heap.size w W1->w.heap.size<=B->Calls Tryz.prog 97 #[.pointer (some ⟨J,0,none⟩), .slice ka (c.threads.getD i []).length kc] W1 λe w'=>
   vk (.slice ba buf.length bc) W1 B J m c.domain mb mc (if (pc:Int)<((c.threads.getD i []).length:Int) then stepT c m s ⟨(pc:Int), [g0,g1,g2,g3],buf⟩ ((c.threads.getD i []).getD pc default) d else none) e w':=λW1 B J mb mc Y hB h0 hw=>ztb Y hB (by omega) (by omega) d _ _ hins h0 hw hx hbl
 have zn3:∀W1 B J mb mc,xP (.slice ba buf.length bc) W1 B J (pc:Int) g0 g1 g2 g3 buf (.slice ba buf.length bc) m c.domain s.mem mb mc s.bad->B<=W1.heap.size->Calls Tryz.prog 98 #[.pointer (some ⟨J,0,none⟩),I4 vr] W1 λe w'=>
   vk (.slice ba buf.length bc) W1 B J m c.domain mb mc (if vr∈yX buf m.model then some (⟨(pc:Int), [g0,g1,g2,g3],(takeB buf vr).2⟩,s.mem.set vr.toNat ((takeB buf vr).1.getD default).n,s.bad) else none) e w':=λW1 B J mb mc Y hB=>zqp Y hB hbl vr (λhv=>by obtain⟨E,I,h3⟩:=hfl hv;exact⟨E,by rw [hml];exact I,h3⟩)
 obtain⟨res1,zzI⟩:=qxE (if (pc:Int)<((c.threads.getD i []).length:Int) then stepT c m s ⟨(pc:Int), [g0,g1,g2,g3],buf⟩ ((c.threads.getD i []).getD pc default) d else none);obtain⟨res2,hres2⟩:∃r:Option (zD × List Int × Bool),r=(if vr∈yX buf m.model then some (⟨(pc:Int), [g0,g1,g2,g3],(takeB buf vr).2⟩,s.mem.set vr.toNat ((takeB buf vr).1.getD default).n,s.bad) else none):=⟨_,rfl⟩;rw [<-zzI] at hstep hR1;rw [<-hres2] at zn3 hR2;clear zzI hres2 hfl hx hins
 have zf0:=λ(V:World) (B mb mc:Nat) (E:Below w.heap.size w V) I h3 h4=>zw6 (V:=V) (B:=B) (mb:=mb) (mc:=mc) (pc:=(pc:Int)) (r0:=g0) (r1:=g1) (r2:=g2) (r3:=g3) (dom:=c.domain) (m:=m) (mem:=s.mem) (bad:=s.bad) hbf E I h3 h4;have hvi:=z0J hsrc rfl hi q5
 have zr0:=λ(w5 w6:World) (B J gs mb mc tb cc':Nat) (pc' r0 r1 r2 r3:Int) (buf':List zq) (bv:Value) (A:List Int) (C:Bool) (sa ma':Option Addr) (sn sc mn0 mc1:Nat) (h:xP (.slice ba buf.length bc) w5 B J pc' r0 r1 r2 r3 buf' bv m c.domain A mb mc C) I h3 h4 h5 h6 h7 hwB Z H=>zw4 (w:=w) (w6:=w6) (gs:=gs) (tb:=tb) (cc:=cc') (i:=i) (zw5:=s.bad) (ts:=s.threads) (bs:=bs) (sa:=sa) (ma:=ma') (sn:=sn) (sc:=sc) (mn0:=mn0) (vU:=mc1) h I h3 h4 h5 h6 h7 hi hbs hts hs rfl hsrc hvi hwB Z H;generalize Follows w s (.slice (some ⟨eb,eo,none⟩) s.threads.length j6) (.slice ma s.mem.length vU)=FW at zr0 ⊢
 have hold:∀k,k<6->∃u,(yu s.threads bs)[i*6+k]? =some u:=λk hk=>by
  rw [je hi hk];rcases k with _|_|_|_|_|_|k
  ·exact⟨_,rfl⟩
  ·exact⟨_,rfl⟩
  ·exact⟨_,rfl⟩
  ·exact⟨_,rfl⟩
  ·exact⟨_,rfl⟩
  ·exact⟨_,rfl⟩
  omega
 have zxQ:0<s.mem.length:=by omega
 have zr1:0<s.threads.length:=by omega
 have hLS:zqE s i=λr=>(⟨s.threads.set i r.1,r.2.1,r.2.2⟩:zo):=rfl;rw [hLS] at hR1 hR2;clear hLS;have HR1:=qh hR1;have HR2:=qh hR2;have HR3:=qh hR3;have zxR:=qh z5l;have zr2:=qh z5m;have bq:=qh hstep;have zeD:=qh zn3;have zf1:=qh zf0;have zjF:=qh zr0;have G:=qh hold;clear hR1 hR2 hR3 z5l z5m hstep zn3 zf0 zr0 hold hco hlen hml zmo hbd zgf hb hs hc hbs hsrc hts hone zzH hbl hf hbf;obtain⟨vars,dom,cs⟩:=c;obtain⟨mod,bnd⟩:=m;obtain⟨ts,mem,bad⟩:=s;simp only [] at hT hi hic hrow zxQ zr1 HR1 HR2 zxR zr2 bq zeD zf1 zjF G ⊢;unfold yj yE yB;simp only [];obtain⟨n,hn⟩:=qxE ts.length
 obtain⟨cn,hcn⟩:=qxE cs.length;obtain⟨ln,hln⟩:=qxE ((cs.getD i []).length);obtain⟨mn,hmn⟩:=qxE mem.length;obtain⟨un,hun⟩:=qxE buf.length;rw [<-hn] at hi zr1 zr2 zjF ⊢;rw [<-hcn] at hic ⊢;rw [<-hln] at hrow bq;rw [<-hmn] at zxQ zxR zf1 ⊢;rw [<-hun] at q5 bq zeD zf1 zjF;have HN:=qh hn;have jE:=qh hmn;have hiI:(i:Int)<(n:Int):=by omega
 have zFK:(i:Int)<(cn:Int):=by omega
 clear hn hcn hln hmn hun hT hrl;obtain⟨hB,E,I,h3,h4,h5⟩:=zds w (.cells #[I4 vars,I4 dom, .slice (some ⟨kb,ko,none⟩) cn cc] 25) (.cells #[I4 mod,I4 bnd] 30) (.cells #[.slice (some ⟨eb,eo,none⟩) n j6, .slice ma mn vU, .bool bad] 61) (.cells #[I4 kind,I4 (i:Int),I4 vr] 46) (.cells #[N7,N7, .bool false] 61);have P:=qh hB;have H1:=qh E;have H2:=qh I;have H3:=qh h3;have H4:=qh h4;have O:=qh h5
 have HQ:J2 (∀x,Below w.heap.size w x->(K3 x eb (eo+i*6) (I4 (pc:Int))/\K3 x eb (eo+i*6+1) (I4 g0)/\K3 x eb (eo+i*6+2) (I4 g1)/\K3 x eb (eo+i*6+3) (I4 g2)/\K3 x eb (eo+i*6+4) (I4 g3)/\K3 x eb (eo+i*6+5) (.slice ba un bc))/\K3 x kb (ko+i) (.slice ka ln kc)):=λx hx=>
  ⟨⟨zl hx _ _ q0,zl hx _ _ q1,zl hx _ _ q2,zl hx _ _ q3,zl hx _ _ q4,zl hx _ _ q5⟩,zl hx _ _ hrow⟩
 clear hB E I h3 h4 h5 q0 q1 q2 q3 q4 q5 hrow;go_enter Tryz.func64,Tryz.ntmps64
 go_upto_region 1 with fail
 generalize World.alloc (World.alloc (World.alloc (World.alloc (World.alloc w _) _) _) _) _=W at P H1 H2 H3 H4 O ⊢;obtain⟨b,hgx⟩:=qxE w.heap.size;rw [<-hgx] at H1 H2 H3 H4 O ⊢;have xG:=qh hgx;clear hgx
 have qy:J2 (∀y,Below W.heap.size W y->K3 y b 1 (I4 dom)/\K3 y (b+1) 0 (I4 mod)/\K3 y (b+1) 1 (I4 bnd)/\K3 y (b+2) 0 (.slice (some ⟨eb,eo,none⟩) n j6)/\K3 y (b+2) 1 (.slice ma mn vU)/\K3 y (b+2) 2 (.bool bad)/\
   K3 y (b+3) 0 (I4 kind)/\K3 y (b+3) 1 (I4 (i:Int))/\K3 y (b+3) 2 (I4 vr)/\K3 y b 2 (.slice (some ⟨kb,ko,none⟩) cn cc)/\
   K3 y eb (eo+i*6) (I4 (pc:Int))/\K3 y eb (eo+i*6+1) (I4 g0)/\K3 y eb (eo+i*6+2) (I4 g1)/\K3 y eb (eo+i*6+3) (I4 g2)/\K3 y eb (eo+i*6+4) (I4 g3)/\K3 y eb (eo+i*6+5) (.slice ba un bc)/\K3 y kb (ko+i) (.slice ka ln kc)):=λy hx=>by
  obtain⟨⟨p0,p1,p2,p3,p4,p5⟩,p6⟩:=HQ.o y (P.o.trans (hx.mono P.o.size));exact⟨zl hx _ _ (ze H1.o 1),zl hx _ _ (ze H2.o 0),zl hx _ _ (ze H2.o 1),zl hx _ _ (ze H3.o 0),zl hx _ _ (ze H3.o 1),zl hx _ _ (ze H3.o 2),zl hx _ _ (ze H4.o 0),zl hx _ _ (ze H4.o 1),zl hx _ _ (ze H4.o 2),zl hx _ _ (ze H1.o 2),p0,p1,p2,p3,p4,p5,p6⟩
 clear HQ;refine qz (S:=λx=>Below W.heap.size W x) ((Below.refl _ _).drew) (λhH=> ?_)
 refine zi 0 qy.o ?_
 refine zi 1 qy.o ?_
 refine zi 2 qy.o ?_
 refine zi 3 qy.o ?_
 refine zi 4 qy.o ?_
 refine zi 5 qy.o ?_
 refine zi 6 qy.o ?_
 refine zi 7 qy.o ?_
 refine zi 8 qy.o ?_
 refine zi 9 qy.o ?_
 refine zi 10 qy.o ?_
 refine zi 12 qy.o ?_
 refine zi 13 qy.o ?_
 refine yA 11 rfl (λK hK=> ?_)
 go_simp
 refine(zxR.o W.drew (P.o.trans ((hH).mono P.o.size))).mono ?_
 rintro e zdf ⟨⟨mba,M,rfl,hmr⟩,hb⟩;obtain⟨mb,rfl⟩:=zw7 hmr (by rw [<-jE.o];exact zxQ);have HMR:=qh (xD hmr (Below.refl _ _));clear hmr;have zjG:Below W.heap.size W zdf:=zy hH hb;refine hK.out _ _ zjG (λ_=> ?_)
 clear hK K hb hH;refine zi 14 qy.o ?_
 refine yA 15 rfl (λK hK=> ?_)
 go_simp
 have HWV:=qh zjG;have z7n:=(zjG).alloc (zjG).size (.cells #[I4 (pc:Int),I4 g0,I4 g1,I4 g2,I4 g3, .slice ba un bc,I4 mod,I4 bnd,I4 dom, .slice (some ⟨mb,0,none⟩) mn M, .bool bad] 167);refine hK.out _ _ z7n (λ_=> ?_)
 clear hK K zjG;refine zi 16 qy.o ?_
 refine xC ?_
 go_upto_region 3 with fail
 have HV:J2 (Below W.heap.size W zdf/\zdf.ownsRow W.heap.size 3 1 (.slice (some ⟨mb,0,none⟩) mn M) mn (zx xI mem)):=⟨HWV.o,HMR.o⟩;have zec:=qh (zf1.o zdf W.heap.size mb M (P.o.trans (HV.o.1.mono P.o.size)) P.o.size HV.o.1.size HV.o.2);have Q:J2 (Below W.heap.size W (zdf.alloc (.cells #[I4 (pc:Int),I4 g0,I4 g1,I4 g2,I4 g3, .slice ba un bc,I4 mod,I4 bnd,I4 dom, .slice (some ⟨mb,0,none⟩) mn M, .bool bad] 167))):=HV.o.1.alloc HV.o.1.size _;generalize World.alloc zdf _=W1 at zec Q ⊢;obtain⟨J,hgr⟩:=qxE zdf.heap.size;rw [<-hgr] at zec ⊢;clear hgr
 obtain⟨-, -, -, -, -, -,k0,k1,k2,k3, -, -, -, -, -, -,k4⟩:=qy.o W1 Q.o;by_cases hk1:kind=1
 rotate_left
 ·by_cases hk2:kind=2
  rotate_left
  ·have hk3:((kind:Int)==1)=false:=by simp [hk1]
   have hk4:((kind:Int)==2)=false:=by simp [hk2]
   have Y:=HR3.o (λh=>hk1 h.1) hk2;have HRR:=qh Y;clear Y HR1 HR2 HR3 bq zeD hk1 hk2;clear k3 k4;have Y:R=none:=HRR.o;have jS:=qh Y;clear Y;obtain⟨⟨q0,q1,q2⟩,⟨f0,f1,f2⟩,t⟩:=zat (w:=w) ((Q.o.block (b+4) (zA O.o)).trans O.o) (P.o.trans (Q.o.mono P.o.size)) (by rw [xG.o];omega)
   obtain⟨q, -,l⟩:=t (N7) (N7) (.bool false);have zL:=qh q;have yR:=qh l;clear q l t;go_wp2_with fail
   (try simp only [Exit.inBlock,Exit.then])
   refine bodyPost_ret (zK rfl _ _ (b+4) 61 _ (0,0) _ rfl zL.o Tryz.underlying61 rfl zN) rfl ?_
   exact⟨yR.o, .inl ⟨jS.o,rfl⟩⟩
  subst hk2;have HRR:=qh (HR2.o rfl);clear HR1 HR2 HR3 bq hk1;go_wp2_with fail
  refine(zeD.o W1 W.heap.size J mb M zec.o Q.o.size).mono ?_
  rintro e W3 ⟨l,⟨L,rfl⟩|⟨⟨tp,trg,tbf⟩,A,C,bv,L,rfl,zit,D⟩⟩
  ·have f:J2 (Below W.heap.size W W3):=Q.o.trans l;clear k0 k1 k2 k3 k4 l;have Y:R=none:=by rw [HRR.o,L];rfl
   have jS:=qh Y;clear Y;obtain⟨⟨q0,q1,q2⟩,⟨f0,f1,f2⟩,t⟩:=zat (w:=w) ((f.o.block (b+4) (zA O.o)).trans O.o) (P.o.trans (f.o.mono P.o.size)) (by rw [xG.o];omega)
   obtain⟨q, -,l⟩:=t (N7) (N7) (.bool false);have zL:=qh q;have yR:=qh l;clear q l t;go_wp2_with fail
   (try simp only [Exit.inBlock,Exit.then])
   refine bodyPost_ret (zK rfl _ _ (b+4) 61 _ (0,0) _ rfl zL.o Tryz.underlying61 rfl zN) rfl ?_
   exact⟨yR.o, .inl ⟨jS.o,rfl⟩⟩
  have f:J2 (Below W.heap.size W W3):=Q.o.trans l;clear k0 k1 k2 k3 k4 l;simp only [] at L zit D;obtain⟨r0,r1,r2,r3,rfl⟩:=wM zit;simp only [List.getD_cons_zero,List.getD_cons_succ] at D;obtain⟨xa,xc,rfl, -⟩:=zh.slice D.vR;obtain⟨xn,hxn⟩:=qxE tbf.length;rw [<-hxn] at D;clear hxn;have Y:R=some ⟨ts.set i ⟨tp, [r0,r1,r2,r3],tbf⟩,A,C⟩:=by rw [HRR.o,L];rfl
  have HRS:=qh Y;have bV:=qh D;clear Y L zit D zec;have kZ:J2 (W3.heap[b+2]? =some (.cells #[.slice (some ⟨eb,eo,none⟩) n j6, .slice ma mn vU, .bool bad] 61 (0,0))):=(f.o.block _ (zA H3.o)).trans H3.o;have p0:W3.cell? ⟨b+2,0,none⟩=some (.slice (some ⟨eb,eo,none⟩) n j6):=ze kZ.o 0;go_wp2_with fail
  refine(zr2.o W3 (P.o.trans (f.o.mono P.o.size))).mono ?_
  rintro e W4 ⟨⟨tba,N,rfl,hrw⟩,hb4⟩;obtain⟨tb,rfl⟩:=zhv hrw (by rw [<-HN.o];exact zr1);have HRW:=qh hrw;have qZ:=qh hb4;clear hrw hb4 p0;have kI:J2 (W4.heap[b+2]? =some (.cells #[.slice (some ⟨eb,eo,none⟩) n j6, .slice ma mn vU, .bool bad] 61 (0,0))):=(qZ.o.block _ (zA kZ.o)).trans kZ.o;have p0:W4.cell? ⟨b+2,0,none⟩=some (.slice (some ⟨eb,eo,none⟩) n j6):=ze kI.o 0;have p1:W4.frozen? ⟨b+2,0,none⟩=false:=zH kI.o 0;go_upto_region 10 with fail
  clear p0 p1;have uI:J2 (tb≠b+2/\b+3≠b+2/\J≠b+2):=⟨by have:=(HRW.o.lt tb rfl).1;have:=zA kZ.o;omega,by omega,by have:=bV.o.base;have:=zA H3.o;omega⟩
  have HSX:J2 (Since (λk=>k=b+2) W4 (W4.setCell ⟨b+2,0,none⟩ (.slice (some ⟨tb,0,none⟩) n N))):=Since.setCell (F:=λk=>k=b+2) (p:=⟨b+2,0,none⟩) (Since.refl _ _) (.inl rfl) _;have U:J2 ((W4.setCell ⟨b+2,0,none⟩ (.slice (some ⟨tb,0,none⟩) n N)).heap[b+2]? =some (.cells #[.slice (some ⟨tb,0,none⟩) n N, .slice ma mn vU, .bool bad] 61 (0,0))):=zu kI.o 0 _;obtain⟨X,hX⟩:=qxE (W4.setCell ⟨b+2,0,none⟩ (.slice (some ⟨tb,0,none⟩) n N));rw [<-hX] at HSX U ⊢;have HXE:=qh hX;clear hX;have a:=qh (HSX.o.row HRW.o (λk hk e=>by cases hk;exact uI.o.1 e));have HR4:=qh (bV.o.below qZ.o)
  have pq:J2 (X.heap[J]? =_):=(HSX.o.block J (zA HR4.o.block) uI.o.2.2).trans HR4.o.block;have zxS:J2 (X.heap[b+3]? =_):=(HSX.o.block (b+3) (Nat.lt_of_lt_of_le (zA H4.o) (Nat.le_trans f.o.size qZ.o.size)) uI.o.2.1).trans ((qZ.o.block _ (Nat.lt_of_lt_of_le (zA H4.o) f.o.size)).trans ((f.o.block _ (zA H4.o)).trans H4.o))
  have C4:J2 (∀x,Below X.heap.size X x->K3 x (b+2) 0 (.slice (some ⟨tb,0,none⟩) n N)/\K3 x (b+3) 1 (I4 (i:Int))/\K3 x J 0 (I4 tp)/\K3 x J 1 (I4 r0)/\K3 x J 2 (I4 r1)/\K3 x J 3 (I4 r2)/\K3 x J 4 (I4 r3)/\K3 x J 5 (.slice xa xn xc)/\K3 x J 9 (.slice (some ⟨mb,0,none⟩) A.length M)/\K3 x J 10 (.bool C)):=λx hx=>⟨zl hx _ _ (ze U.o 0),zl hx _ _ (ze zxS.o 1),zl hx _ _ (ze pq.o 0),zl hx _ _ (ze pq.o 1),zl hx _ _ (ze pq.o 2),zl hx _ _ (ze pq.o 3),zl hx _ _ (ze pq.o 4),zl hx _ _ (ze pq.o 5),zl hx _ _ (ze pq.o 9),zl hx _ _ (ze pq.o 10)⟩
  obtain⟨⟨v0,hv0⟩,⟨v1,hv1⟩,⟨v2,hv2⟩,⟨v3,hv3⟩,⟨v4,hv4⟩,⟨v5,hv5⟩⟩:=(⟨G.o 0 (by omega),G.o 1 (by omega),G.o 2 (by omega),G.o 3 (by omega),G.o 4 (by omega),G.o 5 (by omega)⟩:(∃u,(yu ts bs)[i*6+0]? =some u)/\(∃u,(yu ts bs)[i*6+1]? =some u)/\(∃u,(yu ts bs)[i*6+2]? =some u)/\(∃u,(yu ts bs)[i*6+3]? =some u)/\(∃u,(yu ts bs)[i*6+4]? =some u)/\(∃u,(yu ts bs)[i*6+5]? =some u));obtain⟨t0,u0⟩:X.cell? ⟨tb,i*6,none⟩=some v0/\X.frozen? ⟨tb,i*6,none⟩=false:=by obtain⟨g,cap,he, -,E,I⟩:=jh a.o hv0;cases he;exact⟨E,I⟩
  obtain⟨t1,u1⟩:X.cell? ⟨tb,i*6+1,none⟩=some v1/\X.frozen? ⟨tb,i*6+1,none⟩=false:=by obtain⟨g,cap,he, -,E,I⟩:=jh a.o hv1;cases he;exact⟨E,I⟩
  obtain⟨t2,u2⟩:X.cell? ⟨tb,i*6+2,none⟩=some v2/\X.frozen? ⟨tb,i*6+2,none⟩=false:=by obtain⟨g,cap,he, -,E,I⟩:=jh a.o hv2;cases he;exact⟨E,I⟩
  obtain⟨t3,u3⟩:X.cell? ⟨tb,i*6+3,none⟩=some v3/\X.frozen? ⟨tb,i*6+3,none⟩=false:=by obtain⟨g,cap,he, -,E,I⟩:=jh a.o hv3;cases he;exact⟨E,I⟩
  obtain⟨t4,u4⟩:X.cell? ⟨tb,i*6+4,none⟩=some v4/\X.frozen? ⟨tb,i*6+4,none⟩=false:=by obtain⟨g,cap,he, -,E,I⟩:=jh a.o hv4;cases he;exact⟨E,I⟩
  obtain⟨t5,u5⟩:X.cell? ⟨tb,i*6+5,none⟩=some v5/\X.frozen? ⟨tb,i*6+5,none⟩=false:=by obtain⟨g,cap,he, -,E,I⟩:=jh a.o hv5;cases he;exact⟨E,I⟩
  clear hv0 hv1 hv2 hv3 hv4 hv5
  have qp:J2 (Since (λk=>k=tb) X ((((((X.setCell ⟨tb,i*6,none⟩ (I4 tp)).setCell ⟨tb,i*6+1,none⟩ (I4 r0)).setCell ⟨tb,i*6+2,none⟩ (I4 r1)).setCell ⟨tb,i*6+3,none⟩ (I4 r2)).setCell ⟨tb,i*6+4,none⟩ (I4 r3)).setCell ⟨tb,i*6+5,none⟩ (.slice xa xn xc))):=(((((((Since.refl (λk=>k=tb) X).setCell (p:=⟨tb,i*6,none⟩) (.inl rfl) (I4 tp)).setCell (p:=⟨tb,i*6+1,none⟩) (.inl rfl) (I4 r0)).setCell (p:=⟨tb,i*6+2,none⟩) (.inl rfl) (I4 r1)).setCell (p:=⟨tb,i*6+3,none⟩) (.inl rfl) (I4 r2)).setCell (p:=⟨tb,i*6+4,none⟩) (.inl rfl) (I4 r3)).setCell (p:=⟨tb,i*6+5,none⟩) (.inl rfl) (.slice xa xn xc))
  have HGN:=qh ((qp.o.block (b+2) (zA U.o) (λe=>uI.o.1 e.symm)).trans U.o);have n1:((((((X.setCell ⟨tb,i*6,none⟩ (I4 tp)).setCell ⟨tb,i*6+1,none⟩ (I4 r0)).setCell ⟨tb,i*6+2,none⟩ (I4 r1)).setCell ⟨tb,i*6+3,none⟩ (I4 r2)).setCell ⟨tb,i*6+4,none⟩ (I4 r3)).setCell ⟨tb,i*6+5,none⟩ (.slice xa xn xc)).cell? ⟨b+2,1,none⟩=some (.slice ma mn vU):=ze HGN.o 1
  have n2:((((((X.setCell ⟨tb,i*6,none⟩ (I4 tp)).setCell ⟨tb,i*6+1,none⟩ (I4 r0)).setCell ⟨tb,i*6+2,none⟩ (I4 r1)).setCell ⟨tb,i*6+3,none⟩ (I4 r2)).setCell ⟨tb,i*6+4,none⟩ (I4 r3)).setCell ⟨tb,i*6+5,none⟩ (.slice xa xn xc)).cell? ⟨b+2,2,none⟩=some (.bool bad):=ze HGN.o 2;have n3:X.frozen? ⟨b+2,1,none⟩=false:=zH U.o 1;have n4:X.frozen? ⟨b+2,2,none⟩=false:=zH U.o 2;refine wp_region_noPanic ?_
  refine xg (n0:=17) (S:=λx=>Below X.heap.size X x) (by kernel_rfl) ((Below.refl _ _).drew) (λH=> ?_)
  refine zU 0 (λ_=>H) ?_
  refine vX [16,17,18,19,20,21] 1 C4.o H ?_
  refine zU 2 (λ_=>H) ?_
  refine vX [16,17,18,19,20,21] 3 C4.o H ?_
  refine zU 4 (λ_=>H) ?_
  refine zU 5 (λ_=>H) ?_
  refine zU 6 (λ_=>H) ?_
  refine vX [16,17,18,19,20,21] 7 C4.o H ?_
  refine zU 8 (λ_=>H) ?_
  refine zU 9 (λ_=>H) ?_
  refine zU 10 (λ_=>H) ?_
  refine vX [16,17,18,19,20,21] 11 C4.o H ?_
  refine zU 12 (λ_=>H) ?_
  refine zU 13 (λ_=>H) ?_
  refine zU 14 (λ_=>H) ?_
  refine vX [16,17,18,19,20,21] 15 C4.o H ?_
  refine zU 16 (λ_=>H) ?_
  refine kg 17 rfl (λK hK=> ?_)
  go_simp
  refine hK.out _ _ (λh=>absurd rfl h) ?_
  clear hK K;refine zU 18 (λh=>absurd h (by decide+kernel)) ?_
  refine kg 19 rfl (λK hK=> ?_)
  go_simp
  refine hK.out _ _ (λ_ h=>absurd h (by decide+kernel)) ?_
  clear hK K;refine zU 20 (λh=>absurd h (by decide+kernel)) ?_
  refine kg 21 rfl (λK hK=> ?_)
  go_simp
  refine hK.out _ _ (λ_ h=>absurd h (by decide+kernel)) ?_
  clear hK K;refine xZ (by kernel_rfl) ?_ _
  refine NoPanic.normal ?_
  clear n1 n2 n3 n4 t0 u0 t1 u1 t2 u2 t3 u3 t4 u4 t5 u5;go_upto_region 11 with fail
  obtain⟨hst,hzb,hzs,hzw⟩:=zjF.o _ _ _ _ _ _ _ _ _ _ _ _ _ _ _ _ _ _ _ _ _ _ _ _ bV.o kZ.o (zA H3.o) (by rw [xG.o];omega) (P.o.trans (f.o.mono P.o.size)) HRW.o qZ.o P.o.size (((((((((X.setCell ⟨tb,i*6,none⟩ (I4 tp)).setCell ⟨tb,i*6+1,none⟩ (I4 r0)).setCell ⟨tb,i*6+2,none⟩ (I4 r1)).setCell ⟨tb,i*6+3,none⟩ (I4 r2)).setCell ⟨tb,i*6+4,none⟩ (I4 r3)).setCell ⟨tb,i*6+5,none⟩ (.slice xa xn xc)).setCell ⟨b+2,1,none⟩ (.slice (some ⟨mb,0,none⟩) A.length M)).setCell ⟨b+2,2,none⟩ (.bool C)).drew) (by rw [HXE.o];exact zmE _ _ _ _ _ _ _ _ _ _ _ _ _ _ _ _ _)
  have HG5:J2 (X.heap[b+4]? =_):=(HSX.o.block (b+4) (Nat.lt_of_lt_of_le (zA O.o) (Nat.le_trans f.o.size qZ.o.size)) (by omega)).trans ((qZ.o.block _ (Nat.lt_of_lt_of_le (zA O.o) f.o.size)).trans ((f.o.block _ (zA O.o)).trans O.o));have ziu:=(hzs.block (b+4) (Nat.lt_of_lt_of_le (zA O.o) (Nat.le_trans f.o.size qZ.o.size)) (by have:=(HRW.o.lt tb rfl).1;have:=f.o.size;have:=zA O.o;omega)).trans ((qZ.o.block _ (Nat.lt_of_lt_of_le (zA O.o) f.o.size)).trans ((f.o.block _ (zA O.o)).trans O.o))
  generalize ((((((((X.setCell ⟨tb,i*6,none⟩ (I4 tp)).setCell ⟨tb,i*6+1,none⟩ (I4 r0)).setCell ⟨tb,i*6+2,none⟩ (I4 r1)).setCell ⟨tb,i*6+3,none⟩ (I4 r2)).setCell ⟨tb,i*6+4,none⟩ (I4 r3)).setCell ⟨tb,i*6+5,none⟩ (.slice xa xn xc)).setCell ⟨b+2,1,none⟩ (.slice (some ⟨mb,0,none⟩) A.length M)).setCell ⟨b+2,2,none⟩ (.bool C)).drew=Z at hst hzb hzs hzw ziu ⊢;have z0:Z.cell? ⟨b+2,0,none⟩=some (.slice (some ⟨tb,0,none⟩) n N):=ze hzb 0;have z1:Z.cell? ⟨b+2,1,none⟩=some (.slice (some ⟨mb,0,none⟩) A.length M):=ze hzb 1;have z2:Z.cell? ⟨b+2,2,none⟩=some (.bool C):=ze hzb 2
  obtain⟨⟨q0,q1,q2⟩,⟨f0,f1,f2⟩,t⟩:=zat (w:=w) ziu hzw (by rw [xG.o];omega)
  obtain⟨q,hsi,l⟩:=t (.slice (some ⟨tb,0,none⟩) n N) (.slice (some ⟨mb,0,none⟩) A.length M) (.bool C);have yV:=qh (hst (b+4) _ (by rw [xG.o];omega) (zA O.o) hsi)
  have zL:=qh q;have yR:=qh l;clear q l t hsi hst hzb hzs hzw ziu;go_wp2_with fail
  (try simp only [Exit.inBlock,Exit.then])
  refine bodyPost_ret (zK rfl _ _ (b+4) 61 _ (0,0) _ rfl zL.o Tryz.underlying61 rfl zN) rfl ?_
  exact⟨yR.o, .inr ⟨_,_,_,_,_,_,_,HRS.o,rfl,yV.o⟩⟩
 subst hk1;by_cases hv0:vr=0
 rotate_left
 ·have hv1:((vr:Int)==0)=false:=by simp [hv0]
  have Y:=HR3.o (λh=>hv0 h.2) (by omega);have HRR:=qh Y;clear Y HR1 HR2 HR3 bq zeD hv0;clear k3 k4;have Y:R=none:=HRR.o;have jS:=qh Y;clear Y;obtain⟨⟨q0,q1,q2⟩,⟨f0,f1,f2⟩,t⟩:=zat (w:=w) ((Q.o.block (b+4) (zA O.o)).trans O.o) (P.o.trans (Q.o.mono P.o.size)) (by rw [xG.o];omega)
  obtain⟨q, -,l⟩:=t (N7) (N7) (.bool false);have zL:=qh q;have yR:=qh l;clear q l t;go_wp2_with fail
  (try simp only [Exit.inBlock,Exit.then])
  refine bodyPost_ret (zK rfl _ _ (b+4) 61 _ (0,0) _ rfl zL.o Tryz.underlying61 rfl zN) rfl ?_
  exact⟨yR.o, .inl ⟨jS.o,rfl⟩⟩
 subst hv0;have HRR:=qh (HR1.o rfl rfl);clear HR1 HR2 HR3 zeD;go_wp2_with fail
 refine(bq.o W1 W.heap.size J mb M zec.o Q.o.size (P.o.trans (Q.o.mono P.o.size)) P.o.size).mono ?_
 rintro e W3 ⟨l,⟨L,rfl⟩|⟨⟨tp,trg,tbf⟩,A,C,bv,L,rfl,zit,D⟩⟩
 ·have f:J2 (Below W.heap.size W W3):=Q.o.trans l;clear k0 k1 k2 k3 k4 l;have Y:R=none:=by rw [HRR.o,L];rfl
  have jS:=qh Y;clear Y;obtain⟨⟨q0,q1,q2⟩,⟨f0,f1,f2⟩,t⟩:=zat (w:=w) ((f.o.block (b+4) (zA O.o)).trans O.o) (P.o.trans (f.o.mono P.o.size)) (by rw [xG.o];omega)
  obtain⟨q, -,l⟩:=t (N7) (N7) (.bool false);have zL:=qh q;have yR:=qh l;clear q l t;go_wp2_with fail
  (try simp only [Exit.inBlock,Exit.then])
  refine bodyPost_ret (zK rfl _ _ (b+4) 61 _ (0,0) _ rfl zL.o Tryz.underlying61 rfl zN) rfl ?_
  exact⟨yR.o, .inl ⟨jS.o,rfl⟩⟩
 have f:J2 (Below W.heap.size W W3):=Q.o.trans l;clear k0 k1 k2 k3 k4 l;simp only [] at L zit D;obtain⟨r0,r1,r2,r3,rfl⟩:=wM zit;simp only [List.getD_cons_zero,List.getD_cons_succ] at D;obtain⟨xa,xc,rfl, -⟩:=zh.slice D.vR;obtain⟨xn,hxn⟩:=qxE tbf.length;rw [<-hxn] at D;clear hxn;have Y:R=some ⟨ts.set i ⟨tp, [r0,r1,r2,r3],tbf⟩,A,C⟩:=by rw [HRR.o,L];rfl
 have HRS:=qh Y;have bV:=qh D;clear Y L zit D zec;have kZ:J2 (W3.heap[b+2]? =some (.cells #[.slice (some ⟨eb,eo,none⟩) n j6, .slice ma mn vU, .bool bad] 61 (0,0))):=(f.o.block _ (zA H3.o)).trans H3.o;have p0:W3.cell? ⟨b+2,0,none⟩=some (.slice (some ⟨eb,eo,none⟩) n j6):=ze kZ.o 0;go_wp2_with fail
 refine(zr2.o W3 (P.o.trans (f.o.mono P.o.size))).mono ?_
 rintro e W4 ⟨⟨tba,N,rfl,hrw⟩,hb4⟩;obtain⟨tb,rfl⟩:=zhv hrw (by rw [<-HN.o];exact zr1);have HRW:=qh hrw;have qZ:=qh hb4;clear hrw hb4 p0;have kI:J2 (W4.heap[b+2]? =some (.cells #[.slice (some ⟨eb,eo,none⟩) n j6, .slice ma mn vU, .bool bad] 61 (0,0))):=(qZ.o.block _ (zA kZ.o)).trans kZ.o;have p0:W4.cell? ⟨b+2,0,none⟩=some (.slice (some ⟨eb,eo,none⟩) n j6):=ze kI.o 0;have p1:W4.frozen? ⟨b+2,0,none⟩=false:=zH kI.o 0;go_upto_region 10 with fail
 clear p0 p1;have uI:J2 (tb≠b+2/\b+3≠b+2/\J≠b+2):=⟨by have:=(HRW.o.lt tb rfl).1;have:=zA kZ.o;omega,by omega,by have:=bV.o.base;have:=zA H3.o;omega⟩
 have HSX:J2 (Since (λk=>k=b+2) W4 (W4.setCell ⟨b+2,0,none⟩ (.slice (some ⟨tb,0,none⟩) n N))):=Since.setCell (F:=λk=>k=b+2) (p:=⟨b+2,0,none⟩) (Since.refl _ _) (.inl rfl) _;have U:J2 ((W4.setCell ⟨b+2,0,none⟩ (.slice (some ⟨tb,0,none⟩) n N)).heap[b+2]? =some (.cells #[.slice (some ⟨tb,0,none⟩) n N, .slice ma mn vU, .bool bad] 61 (0,0))):=zu kI.o 0 _;obtain⟨X,hX⟩:=qxE (W4.setCell ⟨b+2,0,none⟩ (.slice (some ⟨tb,0,none⟩) n N));rw [<-hX] at HSX U ⊢;have HXE:=qh hX;clear hX;have a:=qh (HSX.o.row HRW.o (λk hk e=>by cases hk;exact uI.o.1 e));have HR4:=qh (bV.o.below qZ.o)
 have pq:J2 (X.heap[J]? =_):=(HSX.o.block J (zA HR4.o.block) uI.o.2.2).trans HR4.o.block;have zxS:J2 (X.heap[b+3]? =_):=(HSX.o.block (b+3) (Nat.lt_of_lt_of_le (zA H4.o) (Nat.le_trans f.o.size qZ.o.size)) uI.o.2.1).trans ((qZ.o.block _ (Nat.lt_of_lt_of_le (zA H4.o) f.o.size)).trans ((f.o.block _ (zA H4.o)).trans H4.o))
 have C4:J2 (∀x,Below X.heap.size X x->K3 x (b+2) 0 (.slice (some ⟨tb,0,none⟩) n N)/\K3 x (b+3) 1 (I4 (i:Int))/\K3 x J 0 (I4 tp)/\K3 x J 1 (I4 r0)/\K3 x J 2 (I4 r1)/\K3 x J 3 (I4 r2)/\K3 x J 4 (I4 r3)/\K3 x J 5 (.slice xa xn xc)/\K3 x J 9 (.slice (some ⟨mb,0,none⟩) A.length M)/\K3 x J 10 (.bool C)):=λx hx=>⟨zl hx _ _ (ze U.o 0),zl hx _ _ (ze zxS.o 1),zl hx _ _ (ze pq.o 0),zl hx _ _ (ze pq.o 1),zl hx _ _ (ze pq.o 2),zl hx _ _ (ze pq.o 3),zl hx _ _ (ze pq.o 4),zl hx _ _ (ze pq.o 5),zl hx _ _ (ze pq.o 9),zl hx _ _ (ze pq.o 10)⟩
 obtain⟨⟨v0,hv0⟩,⟨v1,hv1⟩,⟨v2,hv2⟩,⟨v3,hv3⟩,⟨v4,hv4⟩,⟨v5,hv5⟩⟩:=(⟨G.o 0 (by omega),G.o 1 (by omega),G.o 2 (by omega),G.o 3 (by omega),G.o 4 (by omega),G.o 5 (by omega)⟩:(∃u,(yu ts bs)[i*6+0]? =some u)/\(∃u,(yu ts bs)[i*6+1]? =some u)/\(∃u,(yu ts bs)[i*6+2]? =some u)/\(∃u,(yu ts bs)[i*6+3]? =some u)/\(∃u,(yu ts bs)[i*6+4]? =some u)/\(∃u,(yu ts bs)[i*6+5]? =some u));obtain⟨t0,u0⟩:X.cell? ⟨tb,i*6,none⟩=some v0/\X.frozen? ⟨tb,i*6,none⟩=false:=by obtain⟨g,cap,he, -,E,I⟩:=jh a.o hv0;cases he;exact⟨E,I⟩
 obtain⟨t1,u1⟩:X.cell? ⟨tb,i*6+1,none⟩=some v1/\X.frozen? ⟨tb,i*6+1,none⟩=false:=by obtain⟨g,cap,he, -,E,I⟩:=jh a.o hv1;cases he;exact⟨E,I⟩
 obtain⟨t2,u2⟩:X.cell? ⟨tb,i*6+2,none⟩=some v2/\X.frozen? ⟨tb,i*6+2,none⟩=false:=by obtain⟨g,cap,he, -,E,I⟩:=jh a.o hv2;cases he;exact⟨E,I⟩
 obtain⟨t3,u3⟩:X.cell? ⟨tb,i*6+3,none⟩=some v3/\X.frozen? ⟨tb,i*6+3,none⟩=false:=by obtain⟨g,cap,he, -,E,I⟩:=jh a.o hv3;cases he;exact⟨E,I⟩
 obtain⟨t4,u4⟩:X.cell? ⟨tb,i*6+4,none⟩=some v4/\X.frozen? ⟨tb,i*6+4,none⟩=false:=by obtain⟨g,cap,he, -,E,I⟩:=jh a.o hv4;cases he;exact⟨E,I⟩
 obtain⟨t5,u5⟩:X.cell? ⟨tb,i*6+5,none⟩=some v5/\X.frozen? ⟨tb,i*6+5,none⟩=false:=by obtain⟨g,cap,he, -,E,I⟩:=jh a.o hv5;cases he;exact⟨E,I⟩
 clear hv0 hv1 hv2 hv3 hv4 hv5
 have qp:J2 (Since (λk=>k=tb) X ((((((X.setCell ⟨tb,i*6,none⟩ (I4 tp)).setCell ⟨tb,i*6+1,none⟩ (I4 r0)).setCell ⟨tb,i*6+2,none⟩ (I4 r1)).setCell ⟨tb,i*6+3,none⟩ (I4 r2)).setCell ⟨tb,i*6+4,none⟩ (I4 r3)).setCell ⟨tb,i*6+5,none⟩ (.slice xa xn xc))):=(((((((Since.refl (λk=>k=tb) X).setCell (p:=⟨tb,i*6,none⟩) (.inl rfl) (I4 tp)).setCell (p:=⟨tb,i*6+1,none⟩) (.inl rfl) (I4 r0)).setCell (p:=⟨tb,i*6+2,none⟩) (.inl rfl) (I4 r1)).setCell (p:=⟨tb,i*6+3,none⟩) (.inl rfl) (I4 r2)).setCell (p:=⟨tb,i*6+4,none⟩) (.inl rfl) (I4 r3)).setCell (p:=⟨tb,i*6+5,none⟩) (.inl rfl) (.slice xa xn xc))
 have HGN:=qh ((qp.o.block (b+2) (zA U.o) (λe=>uI.o.1 e.symm)).trans U.o);have n1:((((((X.setCell ⟨tb,i*6,none⟩ (I4 tp)).setCell ⟨tb,i*6+1,none⟩ (I4 r0)).setCell ⟨tb,i*6+2,none⟩ (I4 r1)).setCell ⟨tb,i*6+3,none⟩ (I4 r2)).setCell ⟨tb,i*6+4,none⟩ (I4 r3)).setCell ⟨tb,i*6+5,none⟩ (.slice xa xn xc)).cell? ⟨b+2,1,none⟩=some (.slice ma mn vU):=ze HGN.o 1
 have n2:((((((X.setCell ⟨tb,i*6,none⟩ (I4 tp)).setCell ⟨tb,i*6+1,none⟩ (I4 r0)).setCell ⟨tb,i*6+2,none⟩ (I4 r1)).setCell ⟨tb,i*6+3,none⟩ (I4 r2)).setCell ⟨tb,i*6+4,none⟩ (I4 r3)).setCell ⟨tb,i*6+5,none⟩ (.slice xa xn xc)).cell? ⟨b+2,2,none⟩=some (.bool bad):=ze HGN.o 2;have n3:X.frozen? ⟨b+2,1,none⟩=false:=zH U.o 1;have n4:X.frozen? ⟨b+2,2,none⟩=false:=zH U.o 2;refine wp_region_noPanic ?_
 refine xg (n0:=17) (S:=λx=>Below X.heap.size X x) (by kernel_rfl) ((Below.refl _ _).drew) (λH=> ?_)
 refine zU 0 (λ_=>H) ?_
 refine vX [16,17,18,19,20,21] 1 C4.o H ?_
 refine zU 2 (λ_=>H) ?_
 refine vX [16,17,18,19,20,21] 3 C4.o H ?_
 refine zU 4 (λ_=>H) ?_
 refine zU 5 (λ_=>H) ?_
 refine zU 6 (λ_=>H) ?_
 refine vX [16,17,18,19,20,21] 7 C4.o H ?_
 refine zU 8 (λ_=>H) ?_
 refine zU 9 (λ_=>H) ?_
 refine zU 10 (λ_=>H) ?_
 refine vX [16,17,18,19,20,21] 11 C4.o H ?_
 refine zU 12 (λ_=>H) ?_
 refine zU 13 (λ_=>H) ?_
 refine zU 14 (λ_=>H) ?_
 refine vX [16,17,18,19,20,21] 15 C4.o H ?_
 refine zU 16 (λ_=>H) ?_
 refine kg 17 rfl (λK hK=> ?_)
 go_simp
 refine hK.out _ _ (λh=>absurd rfl h) ?_
 clear hK K;refine zU 18 (λh=>absurd h (by decide+kernel)) ?_
 refine kg 19 rfl (λK hK=> ?_)
 go_simp
 refine hK.out _ _ (λ_ h=>absurd h (by decide+kernel)) ?_
 clear hK K;refine zU 20 (λh=>absurd h (by decide+kernel)) ?_
 refine kg 21 rfl (λK hK=> ?_)
 go_simp
 refine hK.out _ _ (λ_ h=>absurd h (by decide+kernel)) ?_
 clear hK K;refine xZ (by kernel_rfl) ?_ _
 refine NoPanic.normal ?_
 clear n1 n2 n3 n4 t0 u0 t1 u1 t2 u2 t3 u3 t4 u4 t5 u5;go_upto_region 11 with fail
 obtain⟨hst,hzb,hzs,hzw⟩:=zjF.o _ _ _ _ _ _ _ _ _ _ _ _ _ _ _ _ _ _ _ _ _ _ _ _ bV.o kZ.o (zA H3.o) (by rw [xG.o];omega) (P.o.trans (f.o.mono P.o.size)) HRW.o qZ.o P.o.size (((((((((X.setCell ⟨tb,i*6,none⟩ (I4 tp)).setCell ⟨tb,i*6+1,none⟩ (I4 r0)).setCell ⟨tb,i*6+2,none⟩ (I4 r1)).setCell ⟨tb,i*6+3,none⟩ (I4 r2)).setCell ⟨tb,i*6+4,none⟩ (I4 r3)).setCell ⟨tb,i*6+5,none⟩ (.slice xa xn xc)).setCell ⟨b+2,1,none⟩ (.slice (some ⟨mb,0,none⟩) A.length M)).setCell ⟨b+2,2,none⟩ (.bool C)).drew) (by rw [HXE.o];exact zmE _ _ _ _ _ _ _ _ _ _ _ _ _ _ _ _ _)
 have HG5:J2 (X.heap[b+4]? =_):=(HSX.o.block (b+4) (Nat.lt_of_lt_of_le (zA O.o) (Nat.le_trans f.o.size qZ.o.size)) (by omega)).trans ((qZ.o.block _ (Nat.lt_of_lt_of_le (zA O.o) f.o.size)).trans ((f.o.block _ (zA O.o)).trans O.o));have ziu:=(hzs.block (b+4) (Nat.lt_of_lt_of_le (zA O.o) (Nat.le_trans f.o.size qZ.o.size)) (by have:=(HRW.o.lt tb rfl).1;have:=f.o.size;have:=zA O.o;omega)).trans ((qZ.o.block _ (Nat.lt_of_lt_of_le (zA O.o) f.o.size)).trans ((f.o.block _ (zA O.o)).trans O.o))
 generalize ((((((((X.setCell ⟨tb,i*6,none⟩ (I4 tp)).setCell ⟨tb,i*6+1,none⟩ (I4 r0)).setCell ⟨tb,i*6+2,none⟩ (I4 r1)).setCell ⟨tb,i*6+3,none⟩ (I4 r2)).setCell ⟨tb,i*6+4,none⟩ (I4 r3)).setCell ⟨tb,i*6+5,none⟩ (.slice xa xn xc)).setCell ⟨b+2,1,none⟩ (.slice (some ⟨mb,0,none⟩) A.length M)).setCell ⟨b+2,2,none⟩ (.bool C)).drew=Z at hst hzb hzs hzw ziu ⊢;have z0:Z.cell? ⟨b+2,0,none⟩=some (.slice (some ⟨tb,0,none⟩) n N):=ze hzb 0;have z1:Z.cell? ⟨b+2,1,none⟩=some (.slice (some ⟨mb,0,none⟩) A.length M):=ze hzb 1;have z2:Z.cell? ⟨b+2,2,none⟩=some (.bool C):=ze hzb 2
 obtain⟨⟨q0,q1,q2⟩,⟨f0,f1,f2⟩,t⟩:=zat (w:=w) ziu hzw (by rw [xG.o];omega)
 obtain⟨q,hsi,l⟩:=t (.slice (some ⟨tb,0,none⟩) n N) (.slice (some ⟨mb,0,none⟩) A.length M) (.bool C);have yV:=qh (hst (b+4) _ (by rw [xG.o];omega) (zA O.o) hsi)
 have zL:=qh q;have yR:=qh l;clear q l t hsi hst hzb hzs hzw ziu;go_wp2_with fail
 (try simp only [Exit.inBlock,Exit.then])
 refine bodyPost_ret (zK rfl _ _ (b+4) 61 _ (0,0) _ rfl zL.o Tryz.underlying61 rfl zN) rfl ?_
 exact⟨yR.o, .inr ⟨_,_,_,_,_,_,_,HRS.o,rfl,yV.o⟩⟩
def zuD (w:World) (FW:World->zo->Value->Value->Prop) (r:zo × Int) (e:Ending) (w':World):Prop:=Below w.heap.size w w'/\∃xa xn xc ya yn yc,e= .returned (.tuple #[.agg #[.slice xa xn xc, .slice ya yn yc, .bool r.1.bad],I4 r.2])/\FW w' r.1 (.slice xa xn xc) (.slice ya yn yc)
theorem zxT (w:World):yD w qj (N7) (N7):=
 ⟨⟨none,0,rfl,by simp [qj],λj b=>by simp [qj] at b⟩,⟨none,0,rfl,by simp [qj],λj b=>by simp [qj] at b⟩⟩
theorem zf2 {w b:World} {c:World->zo->Value->Value->Prop} {r:zo × Int} {k:Int} (f:∀y,c y qj (N7) (N7)) (h:r=(qj,k)) (d:Below w.heap.size w b):zuD w c r (.returned (.tuple #[.agg #[N7,N7, .bool false],I4 k])) b:=by
 subst h;exact⟨d,none,0,0,none,0,0,rfl,f _⟩
theorem zjH {y:World} {g:Nat} {j i h:Value} (f:y.heap[g]? =some (.cells #[j,i,h] 61 (0,0))):
  (y.cell? ⟨g,0,none⟩=some j/\y.cell? ⟨g,1,none⟩=some i/\y.cell? ⟨g,2,none⟩=some h)/\(y.frozen? ⟨g,0,none⟩=false/\y.frozen? ⟨g,1,none⟩=false/\y.frozen? ⟨g,2,none⟩=false)/\
   ∀a b c:Value,(((y.setCell ⟨g,0,none⟩ a).setCell ⟨g,1,none⟩ b).setCell ⟨g,2,none⟩ c).heap[g]? =some (.cells #[a,b,c] 61 (0,0))/\Since (λk=>k=g) y (((y.setCell ⟨g,0,none⟩ a).setCell ⟨g,1,none⟩ b).setCell ⟨g,2,none⟩ c):=by
 refine⟨⟨ze f 0,ze f 1,ze f 2⟩,⟨zH f 0,zH f 1,zH f 2⟩,λa b c=> ?_⟩
 have d:=zu (zu (zu f 0 a) 1 b) 2 c;simp only [List.setIfInBounds_toArray,List.set_cons_zero,List.set_cons_succ] at d;exact⟨d,Since.setCell (F:=λk=>k=g) (p:=⟨g,2,none⟩) (Since.setCell (F:=λk=>k=g) (p:=⟨g,1,none⟩) (Since.setCell (F:=λk=>k=g) (p:=⟨g,0,none⟩) (Since.refl _ y) (.inl rfl) _) (.inl rfl) _) (.inl rfl) _⟩
theorem z0Z (w:World) (c:zG) (cv:Value) (d:Nat) (hc:yP d w cv c.threads) (m:zC) (s:zo) (sv mv:Value) (hs:yD w s sv mv) (hb:∀j,j<s.threads.length->(s.threads.getD j default).buf.length<=1000000) (x:zw):
  Calls Tryz.prog 36 #[yj c cv,yE m,yB s sv mv,vF x] w (zuD w (Follows w s sv mv) (jR c m s x d)):=by
 obtain⟨fo,C⟩:=qxE (yJ c m s);have f:=λW (hW:Below w.heap.size w W)=>zlj W c cv d (zh.below (xV.stays d) hc hW) m s sv mv (hs.below hW) hb;have A:=λ(hf:fo=true) W (hW:Below w.heap.size w W) (i:Nat) (hi:i<s.threads.length)=>zn1 W c cv d (zh.below (xV.stays d) hc hW) m s sv mv (hs.below hW) hb (C.symm.trans hf) i hi x.kind x.var;have hfe:∀y,Follows w s sv mv y qj (N7) (N7):=λ_ _ _ _ y _=>zxT y
 have hfw:∀(D V Y X:World) (S:zo) (a b:Value) (g1 g2:Nat),Below w.heap.size w D->Follows D s sv mv V S a b->Since (λk=>k=g1) V Y->Since (λk=>k=g2) Y X->w.heap.size<=g1/\g1<D.heap.size->w.heap.size<=g2/\g2<D.heap.size->Follows w s sv mv X S a b:=λD V Y X S a b g1 g2 hb hf h1 h2 h3 h4=>
  hf.later (G:=λk=>k=g1\/k=g2) hb ((h1.mono (G:=λk=>k=g1\/k=g2) (λ_ _ e=> .inl e)).trans (h2.mono (G:=λk=>k=g1\/k=g2) (λ_ _ e=> .inr e)) (λ_ e=> .inl e)) (λk hk=> .inl (by rcases hk with e|e<;>subst e<;>assumption))
 obtain⟨FO,hFO⟩:∃FO:World->World->zo->Value->Value->Prop,FO=λW=>Follows W s sv mv:=⟨_,rfl⟩;have zn5:∀W,Follows W s sv mv=FO W:=λW=>by rw [hFO]
 simp only [zn5] at A hfw hfe ⊢;have HFW:=qh hfw;have K:=qh hfe;clear hFO zn5 hfw hfe;obtain⟨R,hR⟩:=qxE (jR c m s x d);have hRa:fo=false->R=(qj,1):=λe=>by rw [hR];unfold jR;rw [if_neg (by rw [<-C,e];decide)]
 have U:fo=true->¬(0<=x.thread/\x.thread<(s.threads.length:Int))->R=(qj,50):=λe h=>by rw [hR];unfold jR;rw [if_pos (C.symm.trans e),if_neg h]
 have F:fo=true->∀i:Nat,x.thread=(i:Int)->i<s.threads.length->R=zlH (bS c m s i x.kind x.var d):=λe i hi hlt=>by rw [hR,zkp (C.symm.trans e) ⟨by omega,by omega⟩,hi,Int.toNat_natCast]
 rw [<-hR];rw [<-C] at f;clear hR C;obtain⟨ca,cc,rfl, -⟩:=zh.slice hc;obtain⟨ta,j6,rfl, -⟩:=zh.slice hs.threads;obtain⟨ma,vU,rfl, -⟩:=zh.slice hs.mem;obtain⟨T,hT⟩:∃T,T=λi=>bS c m s i x.kind x.var d:=⟨_,rfl⟩;have hTi:∀i,bS c m s i x.kind x.var d=T i:=λi=>by rw [hT]
 simp only [hTi] at A F;clear hTi hT hb hc hs;unfold yj yE yB at f A ⊢;unfold vF;obtain⟨n,hn⟩:=qxE s.threads.length;rw [<-hn] at f A U F ⊢;clear hn;generalize s.mem.length=mn at f A ⊢;generalize s.bad=bad at f A ⊢;generalize c.threads.length=cn at f A ⊢;generalize c.vars=vars at f A ⊢;generalize c.domain=dom at f A ⊢;generalize m.model=mod at f A ⊢;generalize m.bound=bnd at f A ⊢;obtain⟨kind,th,vr⟩:=x;simp only [] at A U F ⊢;have HRA:=qh hRa;have HRB:=qh U;have HRC:=qh F;have zb2:=qh f;have zxU:=qh A;clear hRa U F f A
 obtain⟨hB,h1,h2,h3,h4,h5⟩:=zds w (.cells #[I4 vars,I4 dom, .slice ca cn cc] 25) (.cells #[I4 mod,I4 bnd] 30) (.cells #[.slice ta n j6, .slice ma mn vU, .bool bad] 61) (.cells #[I4 kind,I4 th,I4 vr] 46) (.cells #[N7,N7, .bool false] 61);have B:=qh hB;have H1:=qh h1;have H2:=qh h2;have L:=qh h3;have H4:=qh h4;have I:=qh h5;clear hB h1 h2 h3 h4 h5;go_enter Tryz.func36,Tryz.ntmps36
 go_upto_region 1 with fail
 generalize World.alloc (World.alloc (World.alloc (World.alloc (World.alloc w _) _) _) _) _=W at B H1 H2 L H4 I ⊢;obtain⟨v,hgx⟩:=qxE w.heap.size;rw [<-hgx] at H1 H2 L H4 I ⊢;have Q:=qh hgx;clear hgx
 have qy:J2 (∀y,Below W.heap.size W y->K3 y v 0 (I4 vars)/\K3 y v 1 (I4 dom)/\K3 y v 2 (.slice ca cn cc)/\
   K3 y (v+1) 0 (I4 mod)/\K3 y (v+1) 1 (I4 bnd)/\K3 y (v+2) 0 (.slice ta n j6)/\K3 y (v+2) 1 (.slice ma mn vU)/\K3 y (v+2) 2 (.bool bad)/\
   K3 y (v+3) 0 (I4 kind)/\K3 y (v+3) 1 (I4 th)/\K3 y (v+3) 2 (I4 vr)):=λy hx=>
  ⟨zl hx _ _ (ze H1.o 0),zl hx _ _ (ze H1.o 1),zl hx _ _ (ze H1.o 2),zl hx _ _ (ze H2.o 0),zl hx _ _ (ze H2.o 1),zl hx _ _ (ze L.o 0),zl hx _ _ (ze L.o 1),zl hx _ _ (ze L.o 2),zl hx _ _ (ze H4.o 0),zl hx _ _ (ze H4.o 1),zl hx _ _ (ze H4.o 2)⟩
 have zT:J2 (∀y,Below W.heap.size W y->_):=λy hy=>zat (w:=w) (g:=v+4) ((hy.block _ (zA I.o)).trans I.o) (B.o.trans (hy.mono B.o.size)) (by rw [Q.o];omega)
 obtain⟨c0,c1,c2,c3,c4,c5,c6,c7, -, -, -⟩:=qy.o W (Below.refl _ _);go_wp2_with fail
 refine(zb2.o W B.o).mono ?_
 rintro e D ⟨rfl,hb1⟩;have r:=qh hb1;clear hb1 zb2 c0 c1 c2 c3 c4 c5 c6 c7;cases fo with
 |false=>
  have Z:=qh (HRA.o rfl);obtain⟨⟨q0,q1,q2⟩,⟨f0,f1,f2⟩,p⟩:=zT.o D r.o;obtain⟨l, -,q⟩:=p (N7) (N7) (.bool false);have M:=qh l;have N:=qh q;clear l q p;go_wp2_with fail
  (try simp only [Exit.inBlock,Exit.then])
  refine bodyPost_ret (zK rfl _ _ (v+4) 61 _ (0,0) _ rfl M.o Tryz.underlying61 rfl zN) rfl ?_
  exact zf2 K.o Z.o N.o
 |true=>
 obtain⟨c0,c1,c2,c3,c4,c5,c6,c7,c8,c9,c10⟩:=qy.o D r.o;by_cases J:0<=th/\th<(n:Int)
 rotate_left
 ·have Z:=qh (HRB.o rfl J);by_cases h0:th<0
  ·have z0:decide (th<0)=true:=decide_eq_true h0;clear J h0;obtain⟨⟨q0,q1,q2⟩,⟨f0,f1,f2⟩,p⟩:=zT.o D r.o;obtain⟨l, -,q⟩:=p (N7) (N7) (.bool false);have M:=qh l;have N:=qh q;clear l q p;go_wp2_with fail
   (try simp only [Exit.inBlock,Exit.then])
   refine bodyPost_ret (zK rfl _ _ (v+4) 61 _ (0,0) _ rfl M.o Tryz.underlying61 rfl zN) rfl ?_
   exact zf2 K.o Z.o N.o
  have z0:decide (th<0)=false:=decide_eq_false h0;have z1:decide ((n:Int)<=th)=true:=decide_eq_true (by omega);clear J h0;obtain⟨⟨q0,q1,q2⟩,⟨f0,f1,f2⟩,p⟩:=zT.o D r.o;obtain⟨l, -,q⟩:=p (N7) (N7) (.bool false);have M:=qh l;have N:=qh q;clear l q p;go_wp2_with fail
  (try simp only [Exit.inBlock,Exit.then])
  refine bodyPost_ret (zK rfl _ _ (v+4) 61 _ (0,0) _ rfl M.o Tryz.underlying61 rfl zN) rfl ?_
  exact zf2 K.o Z.o N.o
 obtain⟨i,rfl⟩:∃i:Nat,th=(i:Int):=⟨th.toNat,by omega⟩;have hlt:i<n:=by omega
 have z0:decide ((i:Int)<0)=false:=decide_eq_false (by omega);have z1:decide ((n:Int)<=(i:Int))=false:=decide_eq_false (by omega);have hr:=HRC.o rfl i rfl hlt;clear J;go_wp2_with fail
 refine(zxU.o (by trivial) D (B.o.trans (r.o.mono B.o.size)) i hlt).mono ?_
 rintro e V ⟨P,⟨J,rfl⟩|⟨S,xa,xn,xc,ya,yn,yc,J,rfl,hst⟩⟩
 ·have Z:J2 (R=(qj,50)):=by rw [J2,hr,J];rfl
  clear hr J;have t:J2 (Below W.heap.size W V):=r.o.trans (P.mono r.o.size);clear P c0 c1 c2 c3 c4 c5 c6 c7 c8 c9 c10;obtain⟨⟨p0,p1,p2⟩,⟨u0,u1,u2⟩,E⟩:=zjH ((t.o.block _ (zA L.o)).trans L.o);obtain⟨z,u⟩:=E (N7) (N7) (.bool false);have kI:=qh ((u.block (v+4) (Nat.lt_of_lt_of_le (zA I.o) t.o.size) (by omega)).trans ((t.o.block _ (zA I.o)).trans I.o));have H:=qh ((B.o.trans (t.o.mono B.o.size)).trans (u.below (Nat.le_trans B.o.size t.o.size) (λk e=>by have:=Q.o;omega)))
  clear E;go_upto_region 6 with fail
  clear p0 p1 p2 u0 u1 u2;generalize World.setCell (World.setCell (World.setCell V _ _) _ _) _ _=Y at z u kI H ⊢;obtain⟨y0,y1,y2⟩:=(zjH z).1;obtain⟨⟨q0,q1,q2⟩,⟨f0,f1,f2⟩,p⟩:=zat (w:=w) kI.o H.o (by rw [Q.o];omega)
  obtain⟨l,O,q⟩:=p (N7) (N7) (.bool false);have M:=qh l;have N:=qh q;clear l q p O z u;go_wp2_with fail
  (try simp only [Exit.inBlock,Exit.then])
  refine bodyPost_ret (zK rfl _ _ (v+4) 61 _ (0,0) _ rfl M.o Tryz.underlying61 rfl zN) rfl ?_
  exact zf2 K.o Z.o N.o
 have Z:J2 (R=(S,0)):=by rw [J2,hr,J];rfl
 clear hr J;have t:J2 (Below W.heap.size W V):=r.o.trans (P.mono r.o.size);clear P c0 c1 c2 c3 c4 c5 c6 c7 c8 c9 c10;obtain⟨⟨p0,p1,p2⟩,⟨u0,u1,u2⟩,E⟩:=zjH ((t.o.block _ (zA L.o)).trans L.o);obtain⟨z,u⟩:=E (.slice xa xn xc) (.slice ya yn yc) (.bool S.bad);have kI:=qh ((u.block (v+4) (Nat.lt_of_lt_of_le (zA I.o) t.o.size) (by omega)).trans ((t.o.block _ (zA I.o)).trans I.o));have H:=qh ((B.o.trans (t.o.mono B.o.size)).trans (u.below (Nat.le_trans B.o.size t.o.size) (λk e=>by have:=Q.o;omega)))
 have HST:=qh hst;have HYS:=qh u;clear hst;clear E;go_upto_region 6 with fail
 clear p0 p1 p2 u0 u1 u2;generalize World.setCell (World.setCell (World.setCell V _ _) _ _) _ _=Y at z u HYS kI H ⊢;obtain⟨y0,y1,y2⟩:=(zjH z).1;obtain⟨⟨q0,q1,q2⟩,⟨f0,f1,f2⟩,p⟩:=zat (w:=w) kI.o H.o (by rw [Q.o];omega)
 obtain⟨l,O,q⟩:=p (.slice xa xn xc) (.slice ya yn yc) (.bool S.bad);have yV:=qh (HFW.o D V Y _ S _ _ (v+2) (v+4) (B.o.trans (r.o.mono B.o.size)) HST.o HYS.o O ⟨by rw [Q.o];omega,Nat.lt_of_lt_of_le (zA L.o) r.o.size⟩ ⟨by rw [Q.o];omega,Nat.lt_of_lt_of_le (zA I.o) r.o.size⟩)
 clear HST HYS;have M:=qh l;have N:=qh q;clear l q p O z u;go_wp2_with fail
 (try simp only [Exit.inBlock,Exit.then])
 refine bodyPost_ret (zK rfl _ _ (v+4) 61 _ (0,0) _ rfl M.o Tryz.underlying61 rfl zN) rfl ?_
 exact⟨N.o,xa,xn,xc,ya,yn,yc,by rw [Z.o];rfl,by rw [Z.o];exact yV.o⟩
