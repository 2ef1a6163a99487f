/- Steps. -/
import Derived.Test.YtmijlmglnnbdjaaGreatDoorUtBuf
set_option linter.all false
namespace Go.Proofs.YtmijlmglnnbdjaaGreatDoor
open Go.RowKit
set_option maxRecDepth 100000
set_option maxHeartbeats 16000000
def evalOp (op a b:Int):Int:=
 if op=43 then wrap64 (a+b) else if op=45 then wrap64 (a - b) else if op=42 then wrap64 (a*b) else if op=38 then bits .and .i64 a b else if op=124 then bits .or .i64 a b
 else if op=60 then(if a<b then 1 else 0) else if op=61 then(if a=b then 1 else 0) else if op=33 then(if a=b then 0 else 1) else 0
def yF (regs:List Int) (dom:Int):Nat->zR->Int
 |0,_=>0
 |d+1,x=>
 if x.kind=1 then x.n
 else if x.kind=2 then(if 0<=x.n/\x.n<4 then regs.getD x.n.toNat 0 else 0)
 else if x.kind=3/\x.kids.length=2 then evalOp x.op (yF regs dom d (x.kids.getD 0 default)) (yF regs dom d (x.kids.getD 1 default)) % dom
 else 0
theorem kL (n dom:Int) (h:1<=dom):(n.tmod dom+dom).tmod dom=n % dom:=by
 have c:=Int.tmod_lt_of_pos n (show 0<dom by omega);have b:=Int.lt_tmod_of_pos n (show 0<dom by omega);rw [Int.tmod_eq_emod_of_nonneg (by omega),Int.add_emod_right];rw [Int.tmod_def];rw [Int.sub_emod,Int.mul_emod_right];simp
theorem wrap_add {q dom:Int} (c:q<dom) (b: -dom<q) (d:1<=dom) (h:dom<=1000):wrap64 (q+dom)=q+dom:=by unfold wrap64;omega
theorem znw (w:World) (b:Obj) (r0 r1 r2 r3:Int):∀m:Nat,m<4->((w.alloc b).alloc (.cells #[I4 r0,I4 r1,I4 r2,I4 r3] 72)).cell? ⟨w.heap.size+1,m,none⟩=some (I4 ([r0,r1,r2,r3].getD m 0)):=λm c=>by
 rw [ze (xq w _ _) m];have:m=0\/m=1\/m=2\/m=3:=by omega
 rcases this with rfl|rfl|rfl|rfl<;>rfl
theorem zmq (r0 r1 r2 r3 dom:Int) (c:1<=dom) (v:dom<=1000) (d:Nat):∀(w:World) (x:zR) (kv:Value),zJ d w x kv->
  Calls Tryz.prog 87 #[qD x kv, .agg #[I4 r0,I4 r1,I4 r2,I4 r3],I4 dom] w λe w'=>e= .returned (I4 (yF [r0,r1,r2,r3] dom d x))/\Below w.heap.size w w':=by
 induction d with
 |zero=>intro w x kv h;exact h.elim
 |succ d ih=>
 intro w x kv h;obtain⟨ka,kc,rfl,hkl⟩:=h.slice;obtain⟨k,C⟩:=qxE x.kind;obtain⟨n,hn⟩:=qxE x.n;obtain⟨o,ho⟩:=qxE x.op;obtain⟨m,hm⟩:=qxE x.kids.length;obtain⟨r,hr⟩:=qxE (yF [r0,r1,r2,r3] dom (d+1) x)
 have hr2:r=(if k=1 then n else if k=2 then(if 0<=n/\n<4 then [r0,r1,r2,r3].getD n.toNat 0 else 0)
  else if k=3/\m=2 then evalOp o (yF [r0,r1,r2,r3] dom d (x.kids.getD 0 default)) (yF [r0,r1,r2,r3] dom d (x.kids.getD 1 default)) % dom else 0):=by rw [hr,C,hn,ho,hm];rfl
 rw [<-hr];have M:=qh hr2;have HM:=qh hm;rw [<-hm] at h hkl;have HE:=qh h;have HIH:=qh ih;unfold qD;rw [<-C, <-hn, <-ho, <-hm];clear C hn ho hm hr hr2 h ih;have j:=qh (xK w (.cells #[I4 k,I4 n, .int .u8 o, .slice ka m kc] 104) (.cells #[I4 r0,I4 r1,I4 r2,I4 r3] 72));have H1:=qh (xA w (.cells #[I4 k,I4 n, .int .u8 o, .slice ka m kc] 104) (.cells #[I4 r0,I4 r1,I4 r2,I4 r3] 72));have H2:=qh (znw w (.cells #[I4 k,I4 n, .int .u8 o, .slice ka m kc] 104) r0 r1 r2 r3);go_enter Tryz.func87,Tryz.ntmps87
 go_upto_region 1 with fail
 generalize World.alloc (World.alloc w _) _=W at j H1 H2 ⊢;obtain⟨L,hgx⟩:=qxE w.heap.size;rw [<-hgx] at H1 H2 ⊢;clear hgx;have c0:W.cell? ⟨L,0,none⟩=some (I4 k):=ze H1.o 0;have c1:W.cell? ⟨L,1,none⟩=some (I4 n):=ze H1.o 1;have c2:W.cell? ⟨L,2,none⟩=some (.int .u8 o):=ze H1.o 2;have c3:W.cell? ⟨L,3,none⟩=some (.slice ka m kc):=ze H1.o 3;by_cases k1:k=1
 ·have kb:((k:Int)==1)=true:=by simp [k1]
  obtain rfl:r=n:=by rw [M.o,if_pos k1]
  clear M k1;go_wp2_with fail
  go_ret;exact⟨by first|rfl|simp,j.o⟩
 have kb:((k:Int)==1)=false:=by simp [k1]
 by_cases k2:k=2
 ·have kb2:((k:Int)==2)=true:=by simp [k2]
  by_cases a1:0<=n
  rotate_left
  ·obtain rfl:r=0:=by rw [M.o,if_neg k1,if_pos k2,if_neg (λh=>a1 h.1)]
   clear M k1 k2;go_wp2_with fail
   go_ret;exact⟨by first|rfl|simp,j.o⟩
  by_cases a2:n<4
  ·obtain⟨q,rfl⟩:∃q:Nat,n=(q:Int):=⟨n.toNat,by omega⟩;have hq4:q<4:=by omega
   have qC:=H2.o q hq4;have hr3:r= [r0,r1,r2,r3].getD q 0:=by rw [M.o,if_neg k1,if_pos k2,if_pos ⟨a1,a2⟩];simp
   rw [<-hr3] at qC;clear M k1 k2 hr3;go_wp2_with fail
   go_ret;exact⟨by first|rfl|simp,j.o⟩
  obtain rfl:r=0:=by rw [M.o,if_neg k1,if_pos k2,if_neg (λh=>a2 h.2)]
  clear M k1 k2;go_wp2_with fail
  go_ret;exact⟨by first|rfl|simp,j.o⟩
 have kb2:((k:Int)==2)=false:=by simp [k2]
 have D:J2 (r=if k=3/\m=2 then evalOp o (yF [r0,r1,r2,r3] dom d (x.kids.getD 0 default)) (yF [r0,r1,r2,r3] dom d (x.kids.getD 1 default)) % dom else 0):=by rw [J2,M.o,if_neg k1,if_neg k2]
 clear M k1 k2;by_cases k3:k=3
 rotate_left
 ·have kb3:((k:Int) !=3)=true:=by simp [k3]
  obtain rfl:r=0:=by rw [D.o,if_neg (λh=>k3 h.1)]
  clear D;go_wp2_with fail
  go_ret;exact⟨by first|rfl|simp,j.o⟩
 have kb3:((k:Int) !=3)=false:=by simp [k3]
 by_cases m2:m=2
 rotate_left
 ·have m2b:((m:Int) !=2)=true:=by rw [bne_iff_ne];omega
  have m2c:(m !=2)=true:=by simp [m2]
  obtain rfl:r=0:=by rw [D.o,if_neg (λh=>m2 h.2)]
  clear D;go_wp2_with fail
  go_ret;exact⟨by first|rfl|simp,j.o⟩
 have b:J2 (r=evalOp o (yF [r0,r1,r2,r3] dom d (x.kids.getD 0 default)) (yF [r0,r1,r2,r3] dom d (x.kids.getD 1 default)) % dom):=by rw [J2,D.o,if_pos ⟨k3,m2⟩]
 clear D k3;subst m2;obtain⟨O,P,ka0,kc0,s, -,p0,p1,p2,p3,Q⟩:=HE.o.part 0 (by rw [<-HM.o];omega)
 subst s;obtain⟨z5g,ko2,ka1,kc1,s, -,q0,q1,q2,q3,Z⟩:=HE.o.part 1 (by rw [<-HM.o];omega)
 cases s
 obtain⟨H,V⟩:=qxE (x.kids.getD 0 default);obtain⟨G,U⟩:=qxE (x.kids.getD 1 default);rw [<-V] at p0 p1 p2 p3 Q;rw [<-U] at q0 q1 q2 q3 Z;rw [<-V, <-U] at b;rw [Nat.zero_mul,Nat.add_zero] at p0 p1 p2 p3;rw [Nat.one_mul] at q0 q1 q2 q3;have C:=λX (y:Below W.heap.size W X)=>zl (j.o.trans (y.mono j.o.size))
 have A:J2 (∀X,Below W.heap.size W X->K3 X L 3 (.slice (some ⟨O,P,none⟩) 2 kc)/\K3 X (L+1) 0 (I4 r0)/\K3 X (L+1) 1 (I4 r1)/\K3 X (L+1) 2 (I4 r2)/\K3 X (L+1) 3 (I4 r3)/\
   X.cell? ⟨O,P,none⟩=some (I4 H.kind)/\X.cell? ⟨O,P+1,none⟩=some (I4 H.n)/\X.cell? ⟨O,P+2,none⟩=some (.int .u8 H.op)/\X.cell? ⟨O,P+3,none⟩=some (.slice ka0 H.kids.length kc0)/\
   X.cell? ⟨O,P+4,none⟩=some (I4 G.kind)/\X.cell? ⟨O,P+4+1,none⟩=some (I4 G.n)/\X.cell? ⟨O,P+4+2,none⟩=some (.int .u8 G.op)/\X.cell? ⟨O,P+4+3,none⟩=some (.slice ka1 G.kids.length kc1)):=λX y=>
  ⟨zl y _ _ c3,zl y _ _ (H2.o 0 (by omega)),zl y _ _ (H2.o 1 (by omega)),zl y _ _ (H2.o 2 (by omega)),zl y _ _ (H2.o 3 (by omega)),C X y _ _ p0,C X y _ _ p1,C X y _ _ p2,C X y _ _ p3,C X y _ _ q0,C X y _ _ q1,C X y _ _ q2,C X y _ _ q3⟩
 have HX0:J2 (∀X,Below W.heap.size W X->Calls Tryz.prog 87 #[.agg #[I4 H.kind,I4 H.n, .int .u8 H.op, .slice ka0 H.kids.length kc0], .agg #[I4 r0,I4 r1,I4 r2,I4 r3],I4 dom] X λe w'=>e= .returned (I4 (yF [r0,r1,r2,r3] dom d H))/\Below X.heap.size X w'):=λX y=>HIH.o X H _ (Q.below (j.o.trans (y.mono j.o.size)))
 have wL:J2 (∀X,Below W.heap.size W X->Calls Tryz.prog 87 #[.agg #[I4 G.kind,I4 G.n, .int .u8 G.op, .slice ka1 G.kids.length kc1], .agg #[I4 r0,I4 r1,I4 r2,I4 r3],I4 dom] X λe w'=>e= .returned (I4 (yF [r0,r1,r2,r3] dom d G))/\Below X.heap.size X w'):=λX y=>HIH.o X G _ (Z.below (j.o.trans (y.mono j.o.size)));obtain⟨F,hva⟩:=qxE (yF [r0,r1,r2,r3] dom d H);obtain⟨E,hvb⟩:=qxE (yF [r0,r1,r2,r3] dom d G);rw [<-hva] at HX0 b;rw [<-hvb] at wL b;clear p0 p1 p2 p3 q0 q1 q2 q3 Q Z C V U hva hvb;go_upto_region 10 with fail
 clear c0 c1 c2 c3;have hS0:=Below.refl W.heap.size W;refine qz (S:=λx=>Below W.heap.size W x) (Below.refl _ _).drew (λ_=> ?_)
 obtain⟨wd,a⟩:=qxE W.drew;rw [<-a];have z:J2 (Below W.heap.size W wd):=by rw [J2,a];exact(Below.refl _ _).drew
 clear a hS0;refine zB 0 A.o (z.o) ?_
 refine zB 1 A.o (z.o) ?_
 refine zB 2 A.o (z.o) ?_
 refine zB 3 A.o (z.o) ?_
 refine zB 4 A.o (z.o) ?_
 refine zB 5 A.o (z.o) ?_
 refine zB 7 A.o (z.o) ?_
 refine zB 8 A.o (z.o) ?_
 refine zB 9 A.o (z.o) ?_
 refine zB 10 A.o (z.o) ?_
 refine zB 11 A.o (z.o) ?_
 refine zB 12 A.o (z.o) ?_
 refine yA 6 rfl (λK hK=> ?_)
 go_simp
 refine(HX0.o wd (z.o)).mono ?_
 rintro e Wq1 ⟨rfl,hb⟩;have T:=qh (zy z.o hb);clear hb;refine hK.out _ _ T.o (λ_=> ?_)
 clear hK K;refine yA 13 rfl (λK hK=> ?_)
 go_simp
 refine(wL.o Wq1 (T.o)).mono ?_
 rintro e Wq3 ⟨rfl,hb⟩;have N:=qh (zy T.o hb);clear hb;refine hK.out _ _ N.o (λ_=> ?_)
 clear hK K;refine zB 14 A.o (N.o) ?_
 refine zB 15 A.o (N.o) ?_
 refine xC ?_
 have B:=qh (N.o);have c2:Wq3.cell? ⟨L,2,none⟩=some (.int .u8 o):=zl B.o _ _ (ze H1.o 2);obtain⟨Y,rfl⟩:=qxE (Wq3:World);have t6:¬dom=0:=by omega
 have t7:¬dom<1:=by omega
 have t8:(dom==0)=false:=by simp [t6]
 by_cases o0:o=43
 ·subst o0;obtain⟨u,R⟩:∃u:Int,wrap64 (F+E)=u:=⟨_,rfl⟩;have t:r=u % dom:=by rw [b.o, <-R];simp [evalOp]
  obtain⟨i,p⟩:∃i,u.tmod dom=i:=⟨_,rfl⟩;have g:=Int.tmod_lt_of_pos u (show 0<dom by omega);have f:=Int.lt_tmod_of_pos u (show 0<dom by omega);rw [p] at g f;have J:=wrap_add g f c v;have I:(i+dom).tmod dom=r:=by rw [t, <-p];exact kL _ dom c
  clear b t g f;go_wp2_with fail
  go_ret;exact⟨by first|rfl|simp,j.o.trans (B.o.mono j.o.size)⟩
 have b0:((o:Int)==43)=false:=by simp [o0]
 by_cases o1:o=45
 ·subst o1;obtain⟨u,R⟩:∃u:Int,wrap64 (F - E)=u:=⟨_,rfl⟩;have t:r=u % dom:=by rw [b.o, <-R];simp [evalOp]
  obtain⟨i,p⟩:∃i,u.tmod dom=i:=⟨_,rfl⟩;have g:=Int.tmod_lt_of_pos u (show 0<dom by omega);have f:=Int.lt_tmod_of_pos u (show 0<dom by omega);rw [p] at g f;have J:=wrap_add g f c v;have I:(i+dom).tmod dom=r:=by rw [t, <-p];exact kL _ dom c
  clear b t g f;go_wp2_with fail
  go_ret;exact⟨by first|rfl|simp,j.o.trans (B.o.mono j.o.size)⟩
 have b1:((o:Int)==45)=false:=by simp [o1]
 by_cases o2:o=42
 ·subst o2;obtain⟨u,R⟩:∃u:Int,wrap64 (F*E)=u:=⟨_,rfl⟩;have t:r=u % dom:=by rw [b.o, <-R];simp [evalOp]
  obtain⟨i,p⟩:∃i,u.tmod dom=i:=⟨_,rfl⟩;have g:=Int.tmod_lt_of_pos u (show 0<dom by omega);have f:=Int.lt_tmod_of_pos u (show 0<dom by omega);rw [p] at g f;have J:=wrap_add g f c v;have I:(i+dom).tmod dom=r:=by rw [t, <-p];exact kL _ dom c
  clear b t g f;go_wp2_with fail
  go_ret;exact⟨by first|rfl|simp,j.o.trans (B.o.mono j.o.size)⟩
 have b2:((o:Int)==42)=false:=by simp [o2]
 by_cases o3:o=38
 ·subst o3;obtain⟨u,R⟩:∃u:Int,bits .and .i64 F E=u:=⟨_,rfl⟩;have t:r=u % dom:=by rw [b.o, <-R];simp [evalOp]
  obtain⟨i,p⟩:∃i,u.tmod dom=i:=⟨_,rfl⟩;have g:=Int.tmod_lt_of_pos u (show 0<dom by omega);have f:=Int.lt_tmod_of_pos u (show 0<dom by omega);rw [p] at g f;have J:=wrap_add g f c v;have I:(i+dom).tmod dom=r:=by rw [t, <-p];exact kL _ dom c
  clear b t g f;go_wp2_with fail
  go_ret;exact⟨by first|rfl|simp,j.o.trans (B.o.mono j.o.size)⟩
 have b3:((o:Int)==38)=false:=by simp [o3]
 by_cases o4:o=124
 ·subst o4;obtain⟨u,R⟩:∃u:Int,bits .or .i64 F E=u:=⟨_,rfl⟩;have t:r=u % dom:=by rw [b.o, <-R];simp [evalOp]
  obtain⟨i,p⟩:∃i,u.tmod dom=i:=⟨_,rfl⟩;have g:=Int.tmod_lt_of_pos u (show 0<dom by omega);have f:=Int.lt_tmod_of_pos u (show 0<dom by omega);rw [p] at g f;have J:=wrap_add g f c v;have I:(i+dom).tmod dom=r:=by rw [t, <-p];exact kL _ dom c
  clear b t g f;go_wp2_with fail
  go_ret;exact⟨by first|rfl|simp,j.o.trans (B.o.mono j.o.size)⟩
 have b4:((o:Int)==124)=false:=by simp [o4]
 by_cases o5:o=60
 ·subst o5;by_cases l:F<E
  rotate_left
  ·skip
   have t:r=(0:Int) % dom:=by rw [b.o];simp [evalOp,l]
   obtain⟨i,p⟩:∃i,(0:Int).tmod dom=i:=⟨_,rfl⟩;have g:=Int.tmod_lt_of_pos (0:Int) (show 0<dom by omega);have f:=Int.lt_tmod_of_pos (0:Int) (show 0<dom by omega);rw [p] at g f;have J:=wrap_add g f c v;have I:(i+dom).tmod dom=r:=by rw [t, <-p];exact kL _ dom c
   clear b t g f;go_wp2_with fail
   go_ret;exact⟨by first|rfl|simp,j.o.trans (B.o.mono j.o.size)⟩
  skip
  have t:r=(1:Int) % dom:=by rw [b.o];simp [evalOp,l]
  obtain⟨i,p⟩:∃i,(1:Int).tmod dom=i:=⟨_,rfl⟩;have g:=Int.tmod_lt_of_pos (1:Int) (show 0<dom by omega);have f:=Int.lt_tmod_of_pos (1:Int) (show 0<dom by omega);rw [p] at g f;have J:=wrap_add g f c v;have I:(i+dom).tmod dom=r:=by rw [t, <-p];exact kL _ dom c
  clear b t g f;go_wp2_with fail
  go_ret;exact⟨by first|rfl|simp,j.o.trans (B.o.mono j.o.size)⟩
 have b5:((o:Int)==60)=false:=by simp [o5]
 by_cases o6:o=61
 ·subst o6;by_cases l:F=E
  rotate_left
  ·have lb:((F:Int)==E)=false:=by simp [l]
   have t:r=(0:Int) % dom:=by rw [b.o];simp [evalOp,l]
   obtain⟨i,p⟩:∃i,(0:Int).tmod dom=i:=⟨_,rfl⟩;have g:=Int.tmod_lt_of_pos (0:Int) (show 0<dom by omega);have f:=Int.lt_tmod_of_pos (0:Int) (show 0<dom by omega);rw [p] at g f;have J:=wrap_add g f c v;have I:(i+dom).tmod dom=r:=by rw [t, <-p];exact kL _ dom c
   clear b t g f;go_wp2_with fail
   go_ret;exact⟨by first|rfl|simp,j.o.trans (B.o.mono j.o.size)⟩
  have lb:((F:Int)==E)=true:=by simp [l]
  have HL:=qh l;clear l;have t:r=(1:Int) % dom:=by rw [b.o];simp [evalOp,HL.o]
  obtain⟨i,p⟩:∃i,(1:Int).tmod dom=i:=⟨_,rfl⟩;have g:=Int.tmod_lt_of_pos (1:Int) (show 0<dom by omega);have f:=Int.lt_tmod_of_pos (1:Int) (show 0<dom by omega);rw [p] at g f;have J:=wrap_add g f c v;have I:(i+dom).tmod dom=r:=by rw [t, <-p];exact kL _ dom c
  clear b t g f;go_wp2_with fail
  go_ret;exact⟨by first|rfl|simp,j.o.trans (B.o.mono j.o.size)⟩
 have b6:((o:Int)==61)=false:=by simp [o6]
 by_cases o7:o=33
 rotate_left
 ·have b7:((o:Int)==33)=false:=by simp [o7]
  have t:r=(0:Int) % dom:=by rw [b.o];simp [evalOp,o0,o1,o2,o3,o4,o5,o6,o7]
  obtain⟨i,p⟩:∃i,(0:Int).tmod dom=i:=⟨_,rfl⟩;have g:=Int.tmod_lt_of_pos (0:Int) (show 0<dom by omega);have f:=Int.lt_tmod_of_pos (0:Int) (show 0<dom by omega);rw [p] at g f;have J:=wrap_add g f c v;have I:(i+dom).tmod dom=r:=by rw [t, <-p];exact kL _ dom c
  clear b t g f;go_wp2_with fail
  go_ret;exact⟨by first|rfl|simp,j.o.trans (B.o.mono j.o.size)⟩
 subst o7;by_cases l:F=E
 rotate_left
 ·have lb:((F:Int) !=E)=true:=by simp [l]
  have t:r=(1:Int) % dom:=by rw [b.o];simp [evalOp,l]
  obtain⟨i,p⟩:∃i,(1:Int).tmod dom=i:=⟨_,rfl⟩;have g:=Int.tmod_lt_of_pos (1:Int) (show 0<dom by omega);have f:=Int.lt_tmod_of_pos (1:Int) (show 0<dom by omega);rw [p] at g f;have J:=wrap_add g f c v;have I:(i+dom).tmod dom=r:=by rw [t, <-p];exact kL _ dom c
  clear b t g f;go_wp2_with fail
  go_ret;exact⟨by first|rfl|simp,j.o.trans (B.o.mono j.o.size)⟩
 have lb:((F:Int) !=E)=false:=by simp [l]
 have HL:=qh l;clear l;have t:r=(0:Int) % dom:=by rw [b.o];simp [evalOp,HL.o]
 obtain⟨i,p⟩:∃i,(0:Int).tmod dom=i:=⟨_,rfl⟩;have g:=Int.tmod_lt_of_pos (0:Int) (show 0<dom by omega);have f:=Int.lt_tmod_of_pos (0:Int) (show 0<dom by omega);rw [p] at g f;have J:=wrap_add g f c v;have I:(i+dom).tmod dom=r:=by rw [t, <-p];exact kL _ dom c
 clear b t g f;go_wp2_with fail
 go_ret;exact⟨by first|rfl|simp,j.o.trans (B.o.mono j.o.size)⟩
