/- Steps. -/
import Derived.Test.YtmijlmglnnbdjaaGreatDoorUtPMoves
set_option linter.all false
namespace Go.Proofs.YtmijlmglnnbdjaaGreatDoor
open Go.RowKit
set_option maxRecDepth 100000
set_option maxHeartbeats 16000000
theorem bP (w:World) (c:zG) (cv:Value) (d:Nat) (hc:yP d w cv c.threads) (m:zC) (lv:Value) (l:List zw) (hl:qB w lv l) (back:Int):Calls Tryz.prog 14 #[yj c cv,yE m, .agg #[lv,I4 back]] w (zgR w (yM c m l back d)):=by
 obtain⟨ca,cc,rfl, -⟩:=zh.slice hc;obtain⟨la,lc,rfl,hl63⟩:=zh.slice hl;have u:=λW (hW:Below w.heap.size w W)=>zmL W c (.slice ca c.threads.length cc) d (zh.below (xV.stays d) hc hW) m;have q:=λW (hW:Below w.heap.size w W)=>zwI W c (.slice ca c.threads.length cc) d (zh.below (xV.stays d) hc hW);have qg:=λW (hW:Below w.heap.size w W) s (g:yJ c m s=true) sv mv hs n hn=>zwJ W c (.slice ca c.threads.length cc) d (zh.below (xV.stays d) hc hW) m s (ziZ g) sv mv hs n hn
 have I:=λW (hW:Below w.heap.size w W) s (g:yJ c m s=true) sv mv hs F hF ha x=>z7h W c (.slice ca c.threads.length cc) d (zh.below (xV.stays d) hc hW) m s (ziZ g) sv mv hs F hF ha x;have a:=λW s sv mv (hs:yD W s sv mv) (hf:yJ c m s=true)=>z0L W s sv mv hs (ztJ hf hs.zau);have M:∀s t,yJ c m s=true->yJ c m t=true->zau s->zau t->(keyOf s !=keyOf t)= !decide (s=t):=λs t h1 h2 h3 h4=>z0M h1 h2 h3 h4;have hrf:=ztK c m l back d;obtain⟨mo,hmo⟩:=qxE (jU c m);obtain⟨S0,hS0⟩:=qxE (vM c);obtain⟨R,V⟩:=qxE (yM c m l back d);obtain⟨MV,hMV⟩:∃A,A=λs=>xL c m s d:=⟨_,rfl⟩
 obtain⟨DO,hDO⟩:∃A,A=λs x=>jR c m s x d:=⟨_,rfl⟩;obtain⟨FT,hFT⟩:∃A,A=λs=>yJ c m s=true:=⟨_,rfl⟩;obtain⟨RL,hRL⟩:=qxE (zb3 c m d);have e1:∀s,xL c m s d=MV s:=λs=>by rw [hMV]
 have e2:∀s x,jR c m s x d=DO s x:=λs x=>by rw [hDO]
 have e3:∀s,(yJ c m s=true)=FT s:=λs=>by rw [hFT]
 rw [<-hmo, <-hS0, <-V, <-hMV, <-hDO, <-hFT, <-hRL] at hrf;rw [<-hmo] at u;rw [<-hS0] at q;simp only [e1,e2,e3] at qg I a M;rw [<-V];clear e1 e2 e3 hmo hS0 V hMV hDO hFT hRL hc;unfold yj yE yB at qg;unfold yj yE yB vF at I;unfold yj at q;unfold yj yE;unfold yB at a;unfold yj yE at u;generalize c.threads.length=cn at u q qg I ⊢;generalize c.vars=vars at u q qg I ⊢;generalize c.domain=dom at u q qg I ⊢;generalize m.model=mod at u qg I ⊢;generalize m.bound=bnd at u qg I ⊢;clear c m;obtain⟨z,hln⟩:=qxE l.length;rw [<-hln] at hl hl63 hrf ⊢
 obtain⟨hB,h1,h2,h3⟩:=jX w (.cells #[I4 vars,I4 dom, .slice ca cn cc] 25) (.cells #[I4 mod,I4 bnd] 30) (.cells #[.slice la z lc,I4 back] 42);have J:=qh hB;have H1:=qh h1;have H2:=qh h2;have H3:=qh h3;have zb0:=qh u;have HST:=qh q;have HMV:=qh qg;have HDO:=qh I;have HKEY:=qh a;have HKN:=qh M;have B:=qh hrf;have HL:=qh hl;have qP:=qh hln;clear hB h1 h2 h3 u q qg I a M hrf hl hln;go_enter Tryz.func14,Tryz.ntmps14
 go_upto_region 1 with fail
 generalize World.alloc (World.alloc (World.alloc w _) _) _=W at J H1 H2 H3 ⊢;obtain⟨N,hgx⟩:=qxE w.heap.size;rw [<-hgx] at H1 H2 H3 ⊢;clear hgx;have hg2:N+1+1=N+2:=rfl
 have CC:J2 (∀y,Below W.heap.size W y->K3 y N 0 (I4 vars)/\K3 y N 1 (I4 dom)/\K3 y N 2 (.slice ca cn cc)/\K3 y (N+1) 0 (I4 mod)/\K3 y (N+1) 1 (I4 bnd)/\
   K3 y (N+2) 0 (.slice la z lc)/\K3 y (N+2) 1 (I4 back)):=λy r=>
  ⟨zl r _ _ (ze H1.o 0),zl r _ _ (ze H1.o 1),zl r _ _ (ze H1.o 2),zl r _ _ (ze H2.o 0),zl r _ _ (ze H2.o 1),zl r _ _ (ze H3.o 0),zl r _ _ (ze H3.o 1)⟩
 obtain⟨c0,c1,c2,c3,c4,c5,c6⟩:=CC.o W (Below.refl _ _);clear H1 H2 H3;cases mo with
 |false=>
  have j:R=([],1):=B.o.bad (.inl rfl);have v:=qh j;clear j;go_wp2_with(go_at_call 33;go_must(refine(zb0.o W J.o).mono ?_);rintro e X1 ⟨rfl,g⟩;obtain⟨d0,d1,d2,d3,d4,d5,d6⟩:=CC.o X1 g;have Z:=qh g;clear g);go_ret2
  exact bB v.o (zy J.o Z.o)
 |true=>
 by_cases a1:z<1
 ·have z1:(z:Int)<1:=by omega
  have z1d:decide ((z:Int)<1)=true:=decide_eq_true z1;have j:R=([],1):=B.o.bad (.inr (.inl a1));have v:=qh j;clear j;go_wp2_with(go_at_call 33;go_must(refine(zb0.o W J.o).mono ?_);rintro e X1 ⟨rfl,g⟩;obtain⟨d0,d1,d2,d3,d4,d5,d6⟩:=CC.o X1 g;have Z:=qh g;clear g);go_ret2
  exact bB v.o (zy J.o Z.o)
 have z1:¬(z:Int)<1:=by omega
 have z1d:decide ((z:Int)<1)=false:=decide_eq_false z1;by_cases a2:100000<z
 ·have z2:(100000:Int)<z:=by omega
  have z2d:decide ((100000:Int)<(z:Int))=true:=decide_eq_true z2;have j:R=([],1):=B.o.bad (.inr (.inr (.inl a2)));have v:=qh j;clear j;go_wp2_with(go_at_call 33;go_must(refine(zb0.o W J.o).mono ?_);rintro e X1 ⟨rfl,g⟩;obtain⟨d0,d1,d2,d3,d4,d5,d6⟩:=CC.o X1 g;have Z:=qh g;clear g);go_ret2
  exact bB v.o (zy J.o Z.o)
 have z2:¬(100000:Int)<z:=by omega
 have z2d:decide ((100000:Int)<(z:Int))=false:=decide_eq_false z2;by_cases a3:back<0
 ·have z3d:decide (back<0)=true:=decide_eq_true a3;have j:R=([],1):=B.o.bad (.inr (.inr (.inr (.inl a3))));have v:=qh j;clear j;go_wp2_with(go_at_call 33;go_must(refine(zb0.o W J.o).mono ?_);rintro e X1 ⟨rfl,g⟩;obtain⟨d0,d1,d2,d3,d4,d5,d6⟩:=CC.o X1 g;have Z:=qh g;clear g);go_ret2
  exact bB v.o (zy J.o Z.o)
 have z3d:decide (back<0)=false:=decide_eq_false a3;by_cases a4:(z:Int)<=back
 ·have z4d:decide ((z:Int)<=back)=true:=decide_eq_true a4;have j:R=([],1):=B.o.bad (.inr (.inr (.inr (.inr a4))));have v:=qh j;clear j;go_wp2_with(go_at_call 33;go_must(refine(zb0.o W J.o).mono ?_);rintro e X1 ⟨rfl,g⟩;obtain⟨d0,d1,d2,d3,d4,d5,d6⟩:=CC.o X1 g;have Z:=qh g;clear g);go_ret2
  exact bB v.o (zy J.o Z.o)
 have z4d:decide ((z:Int)<=back)=false:=decide_eq_false a4;have V:=B.o.good rfl (by omega) (by omega) (by omega) (by omega);have HR:=qh V;have HF0:=qh (B.o.zAy rfl);clear V;go_upto_region 4 with(go_at_call 33;go_must(refine(zb0.o W J.o).mono ?_);rintro e X1 ⟨rfl,g⟩;obtain⟨d0,d1,d2,d3,d4,d5,d6⟩:=CC.o X1 g;have Z:=qh g;clear g)
 clear c0 c1 c2 c3 c4 c5 c6 z1 z1d z2 z2d z3d z4d;go_upto_region 5 with(go_at_call 34;go_must(refine(HST.o X1 (zy J.o Z.o)).mono ?_);rintro e X2 ⟨⟨za,zb,zn,zc,zk,zf,rfl,hst⟩,g⟩;have bZ:=qh (zkV hst (Nat.le_refl _));have HX2:=qh g;clear hst g)
 obtain⟨bd,C⟩:=qxE S0.bad;rw [<-C] at bZ ⊢
 have hL:wC (λ_=>False) W (X2.alloc (.cells #[.slice za zn zc, .slice zb zk zf, .bool S0.bad] 61)) X2.heap.size (N7) [] [] S0 (.slice za zn zc) (.slice zb zk zf):=
  wC.start (zy Z.o HX2.o) (λ_ h=>h.elim) (zkV (by rw [<-C];exact bZ.o) Z.o.size)
 rw [<-C] at hL;have HG0:=qh hL;clear hL d0 d1 d2 d3 d4 d5 d6 bZ Z HX2 C;generalize World.alloc X2 _=X3 at HG0 ⊢;generalize X2.heap.size=gs at HG0 ⊢;obtain⟨c0,c1,c2,c3,c4,c5,c6⟩:=CC.o X3 HG0.o.below;go_wp2_with fail
 clear c0 c1 c2 c3 c4 c5 c6;go_loopg [6,43] z (λgg s6 s43 wr=>∃(i:Nat) (oc:Nat) (oa:Option Addr) (out:List zo) (css:List (List Value)) (s:zo) (pa qa:Option Addr) (pn pc qn qc:Nat),i<=z/\J2 (gg=z - i)/\s43=I4 i/\s6= .slice oa i oc/\J2 (wC (λ_=>False) W wr gs (.slice oa i oc) out css s (.slice pa pn pc) (.slice qa qn qc))/\J2 (R=pW back (RL out s (l.drop i)))/\J2 (FT s/\∀t∈out,FT t)/\J2 (i=out.length))
 case atStart=>exact⟨0,0,none, [], [],S0,za,zb,zn,zc,zk,zf,Nat.zero_le _,rfl,rfl,rfl,HG0.o,HR.o,⟨HF0.o,by simp⟩,rfl⟩
 case round=>
 obtain⟨i,oc,oa,out,css,s,pa,qa,pn,pc,qn,qc,hi,HG,rfl,rfl,bK,HRI,X,HOL⟩:=hrel;obtain⟨D,rfl⟩:=qxE (wr:World);clear HG0 HR;by_cases hlt:i<z
 rotate_left
 ·obtain rfl:z=i:=by omega
  obtain⟨bk,rfl⟩:∃b:Nat,back=b:=⟨back.toNat,by omega⟩;have hbk:bk<z:=by omega
  have zAz:(bk:Int)<(z:Int):=by omega
  have z3C:jY D (.slice oa z oc) out:=bK.o.rows.slice;obtain⟨ob,oo,tv,mv2,heo, -,y0,y1,y2,P⟩:=jY.part z3C bk (by rw [<-HOL.o];exact hbk);obtain⟨ta,tc,rfl, -⟩:=zh.slice P.threads;obtain⟨ua,uc,rfl, -⟩:=zh.slice P.mem;have hft:=X.o.2 (out.getD bk default) (by rw [List.getD_eq_getElem?_getD,List.getElem?_eq_getElem (by rw [<-HOL.o];exact hbk)];exact List.getElem_mem _);have hcy:=λh=>ztL (back:=(bk:Int)) (b:=bk) (out:=out) (s:=s) rfl h;have hcn:=λh=>zwK (back:=(bk:Int)) (b:=bk) (out:=out) (s:=s) rfl h;have hRE:R=pW bk (some (out,s)):=by rw [HRI.o,B.o.fin]
  rw [<-hRE] at hcy hcn;obtain⟨t,ht⟩:=qxE (out.getD bk default);rw [<-ht] at y0 y1 y2 P hft hcy hcn;obtain⟨tn,htn⟩:=qxE t.threads.length;obtain⟨un,hun⟩:=qxE t.mem.length;obtain⟨tb,O⟩:=qxE t.bad;obtain⟨bd,C⟩:=qxE s.bad;rw [<-htn, <-hun] at P;rw [<-htn] at y0;rw [<-hun] at y1;rw [<-O] at y2;have HEO:=qh heo;subst heo;have f:=bK.o.box;rw [<-C] at f
  have CW:J2 (∀y,Below D.heap.size D y->K3 y (N+2) 1 (I4 bk)/\K3 y gs 0 (.slice pa pn pc)/\K3 y gs 1 (.slice qa qn qc)/\K3 y gs 2 (.bool bd)/\
    K3 y ob (oo+bk*3) (.slice ta tn tc)/\K3 y ob (oo+bk*3+1) (.slice ua un uc)/\K3 y ob (oo+bk*3+2) (.bool tb)):=λy r=>by
   obtain⟨-, -, -, -, -, -,k6⟩:=CC.o y (zy bK.o.below r);exact⟨k6,zl r _ _ (ze f 0),zl r _ _ (ze f 1),zl r _ _ (ze f 2),zl r _ _ y0,zl r _ _ y1,zl r _ _ y2⟩
  have HCY:=qh hcy;have HCN:=qh hcn;have zmM:=HKN.o s t X.o.1 hft bK.o.now.zau P.zau;have hk1:=λy (r:Below D.heap.size D y)=>HKEY.o y s _ _ (bK.o.now.below r) X.o.1;have hk2:=λy (r:Below D.heap.size D y)=>HKEY.o y t _ _ (P.below r) hft;rw [<-C] at hk1;rw [<-O] at hk2;generalize keyOf s=ks at hk1 zmM;generalize keyOf t=kt at hk2 zmM;have HK1:=qh hk1;have HK2:=qh hk2;clear hk1 hk2;obtain⟨sm,hsm⟩:=qxE (decide (s=t));rw [<-hsm] at zmM;have HSM:=qh hsm;clear hsm z3C y0 y1 y2 P hft hcy hcn hRE ht htn hun O C f
  have M:(ks==kt)=sm:=by have h:=zmM;unfold bne at h;revert h;cases (ks==kt)<;>cases sm<;>simp
  clear zmM;go_upto_region 14 with fail
  refine qz (S:=λx=>Below D.heap.size D x) (Below.refl _ _).drew (λ_=> ?_)
  obtain⟨V1z,hV1⟩:=qxE D.drew;have L:J2 (Below D.heap.size D V1z):=by rw [hV1];exact(Below.refl _ _).drew
  rw [<-hV1];clear hV1;refine zB 0 CW.o (L.o) ?_
  refine zB 2 zM (L.o) ?_
  refine zB 3 zM (L.o) ?_
  refine zB 4 CW.o (L.o) ?_
  refine zB 5 zM (L.o) ?_
  refine zB 6 CW.o (L.o) ?_
  refine yA 1 rfl (λK hK=> ?_)
  go_simp
  refine(HK1.o V1z (L.o)).mono ?_
  rintro e Wz1 ⟨rfl,g⟩;have zwL:=qh (zy L.o g);clear g;refine hK.out _ _ zwL.o (λ_=> ?_)
  clear hK K;refine yA 7 rfl (λK hK=> ?_)
  go_simp
  refine(HK2.o Wz1 (zwL.o)).mono ?_
  rintro e Wz3 ⟨rfl,g⟩;have zwM:=qh (zy zwL.o g);clear g;refine hK.out _ _ zwM.o (λ_=> ?_)
  clear hK K;refine zB 8 zM (zwM.o) ?_
  refine xC ?_
  have yR:=qh (zwM.o);cases sm with
  |false=>
   have hkl:(ks.toList==kt.toList)=false:=zwN (λe=>by rw [bytes_beq,e,decide_eq_true rfl] at M;cases M)
   have zwO:(!(ks.toList==kt.toList))=true:=by rw [hkl];rfl
   have V:R=([],50):=HCN.o (of_decide_eq_false HSM.o.symm);have HRR:=qh V;clear V;go_wp2_with fail
   ·go_ret2
    exact bB HRR.o (zy J.o (zy bK.o.below yR.o))
   rename_i hz;exact Bool.noConfusion (hz.symm.trans zwO)
  |true=>
  have hke:ks=kt:=by rw [bytes_beq] at M;exact of_decide_eq_true M
  have hkl:(ks.toList==kt.toList)=true:=by rw [hke];exact beq_self_eq_true _
  have zwO:(!(ks.toList==kt.toList))=false:=by rw [hkl];rfl
  have V:R=(out,0):=HCY.o (of_decide_eq_true HSM.o.symm);have HRR:=qh V;clear V;go_wp2_with fail
  ·rename_i hz;exact Bool.noConfusion (hz.symm.trans zwO)
  go_ret2
  exact zqL HRR.o HOL.o J.o bK.o yR.o
 have vC:(i:Int)<(z:Int):=by omega
 obtain⟨mb,mof,yI, -,x0,x1,x2⟩:=qB.part (zh.below zdC.stays HL.o J.o) i (by rw [<-qP.o];exact hlt);have HEA:=qh yI;subst yI;have zqM:=B.o.stay out s i hlt;have U:=B.o.go out s i hlt;have T:=B.o.no out s i hlt;obtain⟨x,hx⟩:=qxE (l.getD i default);rw [<-hx] at x0 x1 x2 zqM U T;have zzr:=qh zqM;have HGO:=qh U;have HNO:=qh T;obtain⟨xk,xt,xv⟩:=x;simp only [] at x0 x1 x2
 have CM:J2 (∀y,Below W.heap.size W y->K3 y N 0 (I4 vars)/\K3 y N 1 (I4 dom)/\K3 y N 2 (.slice ca cn cc)/\K3 y (N+1) 0 (I4 mod)/\K3 y (N+1) 1 (I4 bnd)/\
   K3 y (N+2) 0 (.slice (some ⟨mb,mof,none⟩) z lc)/\K3 y mb (mof+i*3) (I4 xk)/\K3 y mb (mof+i*3+1) (I4 xt)/\K3 y mb (mof+i*3+2) (I4 xv)):=λy r=>by
  obtain⟨k0,k1,k2,k3,k4,k5, -⟩:=CC.o y r;exact⟨k0,k1,k2,k3,k4,k5,zl r _ _ x0,zl r _ _ x1,zl r _ _ x2⟩
 clear zqM U T hx x0 x1 x2;obtain⟨bd,C⟩:=qxE s.bad;have kG:=qh C;clear C;obtain⟨k0,k1,k2,k3,k4,k5,k6,k7,k8⟩:=CM.o D bK.o.below;go_upto_region 8 with fail
 have hA:Below D.heap.size D (D.alloc (.cells #[I4 xk,I4 xt,I4 xv] 46)):=(Below.refl _ _).alloc (Nat.le_refl _) _;have HLA:=qh (bK.o.call hA);have HMX:=qh (zQ D (.cells #[I4 xk,I4 xt,I4 xv] 46));have HGM:J2 (D.heap.size≠gs/\∀k,(Value.slice oa i oc).ownBlock=some k->k≠D.heap.size):=⟨λe=>by have:=bK.o.lt gs (.inr rfl);omega,λk hk e=>by have:=bK.o.lt k (.inl hk);omega⟩
 clear k0 k1 k2 k3 k4 k5 k6 k7 k8 hA bK;generalize World.alloc D _=W3 at HLA HMX ⊢;generalize D.heap.size=gm at HMX HGM ⊢;have f:=HLA.o.box;rw [<-kG.o] at f;have b0:=ze f 0;have b1:=ze f 1;have b2:=ze f 2;have hrow:=HLA.o.rows.row;rw [<-HOL.o] at hrow;have vW:=qh hrow;have uh:=qh HLA.o.below.size;clear f hrow
 go_upto_region 9 with(at_builtin;go_must(refine zO _ rfl _ _ 48 rfl 61 (.agg #[N7,N7, .bool false]) 3 56 Tryz.underlying48 zby rfl (by decide) W.heap.size (.slice oa i oc) i css.flatten rfl ((vW.o).alloc _) ⟨W3.heap.size,0,none⟩ 1 1 [.slice pa pn pc, .slice qa qn qc, .bool bd] rfl rfl (j4 _ [.slice pa pn pc, .slice qa qn qc, .bool bd] _) (by simp [Value.oneCell']) (by unfold maxLen;omega) (by omega) (by have:=uh.o;simp;omega) ?_);intro ja jc X4 f1 f2 f3 f4 f5 f6;(have HP:=qh (HLA.o.push (by rw [<-HOL.o, <-kG.o];exact f1) f4 f5));(have G:=qh (((f4.block _ (by have:=zA HMX.o;simp;omega) (λe=>HGM.o.2 _ e rfl)).trans (Below.heap_alloc _ _ _ (zA HMX.o))).trans HMX.o));clear f1 f2 f3 f4 f5 f6)
 clear b0 b1 b2 vW uh HLA;have zfh:J2 (i+1=(out++ [s]).length):=by rw [J2,List.length_append,HOL.o];rfl
 have zmP:J2 (FT s/\∀t∈out++ [s],FT t):=⟨X.o.1,λt ht=>(List.mem_append.1 ht).elim (X.o.2 t) (λh=>by rw [List.mem_singleton.1 h];exact X.o.1)⟩;clear X;obtain⟨mn,hmn⟩:=qxE ((MV s).length);have hmz:mn=0->MV s= [] :=λe=>List.length_eq_zero_iff.1 (hmn.symm.trans e);have z3D:mn≠0->MV s≠ [] :=λe h=>e (by rw [hmn,h];rfl)
 have jE:=qh hmn;have HMZ:=qh hmz;have z3E:=qh z3D;clear hmn hmz z3D;have hmv:=HMV.o X4 (zy J.o HP.o.below) s zmP.o.1 _ _ HP.o.now mn jE.o;rw [<-kG.o] at hmv;have zqN:=qh hmv;clear hmv;go_cut [61] (λs61 w'=>∃st:Bool,s61= .bool st/\J2 (wC (λ_=>False) W w' gs (.slice ja (i+1) jc) (out++ [s]) (css++ [[.slice pa pn pc, .slice qa qn qc, .bool s.bad]]) s (.slice pa pn pc) (.slice qa qn qc))/\J2 (w'.heap[gm]? =some (.cells #[I4 xk,I4 xt,I4 xv] 46 (0,0)))/\J2 (if st then(⟨xk,xt,xv⟩:zw)=jP/\MV s= [] else¬((⟨xk,xt,xv⟩:zw)=jP/\MV s= [])))
 case first=>
  obtain⟨k0,k1,k2,k3,k4,k5,k6,k7,k8⟩:=CM.o X4 HP.o.below;have f:=HP.o.box;rw [<-kG.o] at f;have b0:=ze f 0;have b1:=ze f 1;have b2:=ze f 2;have g0:=zH f 0;have g1:=zH f 1;have g2:=zH f 2;have H:=G.o;have m0:=ze H 0;have m1:=ze H 1;have m2:=ze H 2;clear H;clear f;by_cases e1:xk=0
  rotate_left
  ·go_wp2_with fail
   go_meet
   case rel=>exact⟨false,rfl,HP.o,G.o,λh=>e1 (by have:=h.1;unfold jP at this;rw [zw.mk.injEq] at this;exact this.1)⟩
  by_cases e2:xt=0
  rotate_left
  ·go_wp2_with fail
   go_meet
   case rel=>exact⟨false,rfl,HP.o,G.o,λh=>e2 (by have:=h.1;unfold jP at this;rw [zw.mk.injEq] at this;exact this.2.1)⟩
  by_cases e3:xv=0
  rotate_left
  ·go_wp2_with fail
   go_meet
   case rel=>exact⟨false,rfl,HP.o,G.o,λh=>e3 (by have:=h.1;unfold jP at this;rw [zw.mk.injEq] at this;exact this.2.2)⟩
  subst e1 e2 e3;by_cases zwP:mn=0
  ·subst zwP;go_wp2_with(go_at_call 35;go_must(refine(zqN.o).mono ?_);rintro e X5 ⟨⟨va,vc,rfl, -⟩,g⟩;have gK:=qh g;clear g);go_meet
   case rel=>exact⟨true,rfl,HP.o.call gK.o,(gK.o.block _ (zA G.o)).trans G.o,by rw [J2,if_pos rfl];exact⟨rfl,HMZ.o (by first|rfl|trivial)⟩⟩
  have zFz:((mn:Int)==0)=false:=by rw [beq_eq_false_iff_ne];omega
  have zEO:(mn==0)=false:=by rw [beq_eq_false_iff_ne];omega
  go_wp2_with(go_at_call 35;go_must(refine(zqN.o).mono ?_);rintro e X5 ⟨⟨va,vc,rfl, -⟩,g⟩;have gK:=qh g;clear g);go_meet
  case rel=>exact⟨false,rfl,HP.o.call gK.o,(gK.o.block _ (zA G.o)).trans G.o,λh=>z3E.o zwP h.2⟩
 case rest=>
 clear HP zqN jE HMZ z3E G;obtain⟨st,rfl,E,zA0,HNS⟩:=hcut;obtain⟨X5,rfl⟩:=qxE (wc:World);cases st with
 |true=>
  have zwQ:J2 (R=pW back (RL (out++ [s]) s (l.drop (i+1)))):=by rw [J2,HRI.o,zzr.o HNS.o.1 HNS.o.2]
  go_wp2_with fail
  go_roundg (z - (i+1))
  case measure=>rw [HG.o];omega
  case rel=>exact⟨i+1,jc,ja,out++ [s],_,s,pa,qa,pn,pc,qn,qc,by omega,rfl,by simp,rfl,E.o,zwQ.o,⟨zmP.o.1,zmP.o.2⟩,zfh.o⟩
 |false=>
 have z3F:J2 (¬((⟨xk,xt,xv⟩:zw)=jP/\MV s= [])):=HNS.o;clear HNS zzr;obtain⟨k0,k1,k2,k3,k4,k5,k6,k7,k8⟩:=CM.o X5 E.o.below;have f:=E.o.box;rw [<-kG.o] at f;have b0:=ze f 0;have b1:=ze f 1;have b2:=ze f 2;have g0:=zH f 0;have g1:=zH f 1;have g2:=zH f 2;have H:=zA0.o;have m0:=ze H 0;have m1:=ze H 1;have m2:=ze H 2;clear H;clear f;obtain⟨⟨t,er⟩,hdd⟩:∃p,p=DO s ⟨xk,xt,xv⟩:=⟨_,rfl⟩;have hst:=E.o.now
 have hD:=λy (r:Below X5.heap.size X5 y)=>HDO.o y (zy J.o (zy E.o.below r)) s zmP.o.1 _ _ (hst.below r) (GF (λ_=>False) (.slice ja (i+1) jc) gs) (λk hk=>Nat.lt_of_lt_of_le (E.o.lt k (hk.elim .inl (λe=>e.elim .inr False.elim))) r.size) (E.o.call r).st ⟨xk,xt,xv⟩;rw [<-hdd, <-kG.o] at hD;have U:=λh1 h2=>HGO.o h1 h2;have T:=λh1 h2=>HNO.o h1 h2;rw [<-hdd] at U T;have z3G:=qh U;have zbK:=qh T;have HFT:J2 (er=0->FT t):=λh=>by have:=B.o.fit s ⟨xk,xt,xv⟩;rw [<-hdd] at this;exact this h
 have HDD:=qh hD;clear hD hst U T hdd;obtain⟨tb,O⟩:=qxE t.bad;simp only [] at HDD z3G zbK;rw [<-O] at HDD;have HTB:=qh O;clear O;have HD0:=qh (HDD.o X5 (Below.refl _ _));go_upto_region 11 with(go_at_call 36;go_must(refine(HD0.o).mono ?_);rintro e Y ⟨⟨ra,ua,rn,rc,un,uc,rfl,haw⟩,g⟩;have vT:=qh g;have bZ:=qh haw;(have f:=(g.block _ (zA E.o.box)).trans E.o.box);(have j0:=ze f 0);(have j1:=ze f 1);(have j2:=ze f 2);(have i0:=zH f 0);(have i1:=zH f 1);(have i2:=zH f 2);clear g haw f)
 have Q:=E.o.put vT.o (t:=t) (pv:= .slice ra rn rc) (qv:= .slice ua un uc) (by rw [<-HTB.o];exact bZ.o);rw [<-HTB.o] at Q;simp only [yU] at Q;have kT:=qh Q;clear Q bZ j0 j1 j2 i0 i1 i2 k0 k1 k2 k3 k4 k5 k6 k7 k8 b0 b1 b2 g0 g1 g2 m0 m1 m2;generalize World.setCell (World.setCell (World.setCell Y _ _) _ _) _ _=X7 at kT ⊢;by_cases her:er=0
 ·subst her;have zwQ:J2 (R=pW back (RL (out++ [s]) t (l.drop (i+1)))):=by rw [J2,HRI.o,z3G.o z3F.o (by first|rfl|trivial)]
  go_wp2_with fail
  go_roundg (z - (i+1))
  case measure=>rw [HG.o];omega
  case rel=>exact⟨i+1,jc,ja,out++ [s],_,t,ra,ua,rn,rc,un,uc,by omega,rfl,by simp,rfl,kT.o,zwQ.o,⟨HFT.o (by first|rfl|trivial),zmP.o.2⟩,zfh.o⟩
 skip
 have V:R=([],50):=by rw [HRI.o,zbK.o z3F.o her];rfl
 have HRR:=qh V;clear V;have zF0:(er !=0)=true:=by simpa using her
 go_wp2_with fail
 go_ret2
 exact bB HRR.o (zy J.o kT.o.below)
