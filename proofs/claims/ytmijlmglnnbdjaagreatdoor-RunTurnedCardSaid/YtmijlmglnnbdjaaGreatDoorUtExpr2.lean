/- Steps. -/
import Derived.Test.YtmijlmglnnbdjaaGreatDoorUtBuf
set_option linter.all false
namespace Go.Proofs.YtmijlmglnnbdjaaGreatDoor
open Go.RowKit
set_option maxRecDepth 100000
set_option maxHeartbeats 16000000
def zV (dom:Int):Nat->zR->Bool
 |0,_=>false
 |d+1,x=>
 if x.kind=1 then decide (0<=x.n) && decide (x.n<dom) && decide (x.op=0) && decide (x.kids.length=0)
 else if x.kind=2 then decide (0<=x.n) && decide (x.n<4) && decide (x.op=0) && decide (x.kids.length=0)
 else if x.kind=3 then decide (x.n=0) && jC x.op && decide (x.kids.length=2) && zV dom d (x.kids.getD 0 default) && zV dom d (x.kids.getD 1 default)
 else false
theorem zyA (dom:Int) (d:Nat) (hd:d<=1000):∀(e:Nat) (w:World) (x:zR) (kv:Value),zJ e w x kv->
  Calls Tryz.prog 146 #[qD x kv,I4 d,I4 dom] w λe P=>e= .returned (.bool (zV dom d x))/\Below w.heap.size w P:=by
 induction d with
 |zero=>
  intro e w x kv h;obtain⟨ka,kc,rfl,C⟩:=h.slice;have M:zV dom 0 x=false:=rfl;rw [M];clear M;have f:=qh ((Below.refl w.heap.size w).alloc (Nat.le_refl _) (.cells #[I4 x.kind,I4 x.n, .int .u8 x.op, .slice ka x.kids.length kc] 104));unfold qD;clear h C;go_enter Tryz.func146,Tryz.ntmps146
  go_wp2_with fail
  go_ret;exact⟨by first|rfl|simp,f.o⟩
 |succ d ih=>
 intro e w x kv h;obtain⟨ka,kc,rfl,C⟩:=h.slice;obtain⟨k,j⟩:=qxE x.kind;obtain⟨n,hn⟩:=qxE x.n;obtain⟨o,ho⟩:=qxE x.op;obtain⟨m,Y⟩:=qxE x.kids.length;obtain⟨r,M⟩:=qxE (zV dom (d+1) x)
 have V:r=(if k=1 then decide (0<=n) && decide (n<dom) && decide (o=0) && decide (m=0)
  else if k=2 then decide (0<=n) && decide (n<4) && decide (o=0) && decide (m=0)
  else if k=3 then decide (n=0) && jC o && decide (m=2) && zV dom d (x.kids.getD 0 default) && zV dom d (x.kids.getD 1 default) else false):=by rw [M,j,hn,ho,Y];rfl
 rw [<-M];have u:=qh V;have HM:=qh Y;rw [<-Y] at h C;have HE:=qh h;have HIH:=qh (ih (by omega));unfold qD;rw [<-j, <-hn, <-ho, <-Y];clear j hn ho Y M V h ih;have f:=qh ((Below.refl w.heap.size w).alloc (Nat.le_refl _) (.cells #[I4 k,I4 n, .int .u8 o, .slice ka m kc] 104));have G:=qh (zQ w (.cells #[I4 k,I4 n, .int .u8 o, .slice ka m kc] 104));go_enter Tryz.func146,Tryz.ntmps146
 go_upto_region 1 with fail
 generalize World.alloc w _=W at f G ⊢;obtain⟨gx,Z⟩:=qxE w.heap.size;rw [<-Z] at G ⊢;clear Z;have HC:J2 (∀x,Below W.heap.size W x->K3 x gx 0 (I4 k)/\K3 x gx 1 (I4 n)/\K3 x gx 2 (.int .u8 o)/\K3 x gx 3 (.slice ka m kc)):=λx hx=>⟨zl hx _ _ (ze G.o 0),zl hx _ _ (ze G.o 1),zl hx _ _ (ze G.o 2),zl hx _ _ (ze G.o 3)⟩;obtain⟨c0,c1,c2,c3⟩:=HC.o W (Below.refl _ _);have hd1:¬((d:Int)+1<1):=by omega
 have hd2:wrap64 ((d:Int)+1 - 1)=(d:Int):=by unfold wrap64;omega
 have K:(((d+1:Nat):Int))=(d:Int)+1:=by omega
 simp only [K];clear K;by_cases k1:k=1
 ·have kb:((k:Int)==1)=true:=by simp [k1]
  have c:J2 (r=(decide (0<=n) && decide (n<dom) && decide (o=0) && decide (m=0))):=by rw [J2,u.o,if_pos k1]
  clear u k1;by_cases a1:0<=n
  rotate_left
  ·skip
   have x1:n<0:=by omega
   obtain rfl:r=false:=by rw [c.o];simp [a1]
   clear c;go_wp2_with fail
   go_ret;exact⟨by first|rfl|simp,f.o⟩
  skip
  have x1:¬n<0:=by omega
  by_cases a2:n<dom
  rotate_left
  ·skip
   obtain rfl:r=false:=by rw [c.o];simp [a2]
   clear c;go_wp2_with fail
   go_ret;exact⟨by first|rfl|simp,f.o⟩
  skip
  by_cases a3:o=0
  rotate_left
  ·skip
   have F:((o:Int)==0)=false:=by simp [a3]
   obtain rfl:r=false:=by rw [c.o];simp [a3]
   clear c;go_wp2_with fail
   go_ret;exact⟨by first|rfl|simp,f.o⟩
  skip
  have F:((o:Int)==0)=true:=by simp [a3]
  by_cases a4:m=0
  ·skip
   have E:((m:Int)==0)=true:=by simp [a4]
   obtain rfl:r=true:=by rw [c.o];simp [a1,a2,a3,a4]
   subst a4;clear c a3;go_wp2_with fail
   go_ret;exact⟨by first|rfl|simp,f.o⟩
  skip
  have E:((m:Int)==0)=false:=by simp [a4]
  obtain rfl:r=false:=by rw [c.o];simp [a4]
  clear c;go_wp2_with fail
  go_ret;exact⟨by first|rfl|simp,f.o⟩
 have kb:((k:Int)==1)=false:=by simp [k1]
 by_cases k2:k=2
 ·have kb2:((k:Int)==2)=true:=by simp [k2]
  have c:J2 (r=(decide (0<=n) && decide (n<4) && decide (o=0) && decide (m=0))):=by rw [J2,u.o,if_neg k1,if_pos k2]
  clear u k1 k2;by_cases a1:0<=n
  rotate_left
  ·skip
   have x1:n<0:=by omega
   obtain rfl:r=false:=by rw [c.o];simp [a1]
   clear c;go_wp2_with fail
   go_ret;exact⟨by first|rfl|simp,f.o⟩
  skip
  have x1:¬n<0:=by omega
  by_cases a2:n<4
  rotate_left
  ·skip
   obtain rfl:r=false:=by rw [c.o];simp [a2]
   clear c;go_wp2_with fail
   go_ret;exact⟨by first|rfl|simp,f.o⟩
  skip
  by_cases a3:o=0
  rotate_left
  ·skip
   have F:((o:Int)==0)=false:=by simp [a3]
   obtain rfl:r=false:=by rw [c.o];simp [a3]
   clear c;go_wp2_with fail
   go_ret;exact⟨by first|rfl|simp,f.o⟩
  skip
  have F:((o:Int)==0)=true:=by simp [a3]
  by_cases a4:m=0
  ·skip
   have E:((m:Int)==0)=true:=by simp [a4]
   obtain rfl:r=true:=by rw [c.o];simp [a1,a2,a3,a4]
   subst a4;clear c a3;go_wp2_with fail
   go_ret;exact⟨by first|rfl|simp,f.o⟩
  skip
  have E:((m:Int)==0)=false:=by simp [a4]
  obtain rfl:r=false:=by rw [c.o];simp [a4]
  clear c;go_wp2_with fail
  go_ret;exact⟨by first|rfl|simp,f.o⟩
 have kb2:((k:Int)==2)=false:=by simp [k2]
 by_cases k3:k=3
 rotate_left
 ·have kb3:((k:Int)==3)=false:=by simp [k3]
  obtain rfl:r=false:=by rw [u.o,if_neg k1,if_neg k2,if_neg k3]
  clear k1 k2 k3;clear u;go_wp2_with fail
  go_ret;exact⟨by first|rfl|simp,f.o⟩
 have kb3:((k:Int)==3)=true:=by simp [k3]
 have c:J2 (r=(decide (n=0) && jC o && decide (m=2) && zV dom d (x.kids.getD 0 default) && zV dom d (x.kids.getD 1 default))):=by rw [J2,u.o,if_neg k1,if_neg k2,if_pos k3]
 clear u k1 k2 k3;by_cases a1:n=0
 rotate_left
 ·have b1:((n:Int)==0)=false:=by simp [a1]
  obtain rfl:r=false:=by rw [c.o];simp [a1]
  clear c;go_wp2_with fail
  go_ret;exact⟨by first|rfl|simp,f.o⟩
 have b1:((n:Int)==0)=true:=by simp [a1]
 go_wp2_with fail
 refine(zxW W o).mono ?_
 rintro e O ⟨⟨s,rfl,U⟩,hb1⟩;have g:=qh hb1;clear c0 c1 c2 c3 hb1;obtain⟨c0,c1,c2,c3⟩:=HC.o O g.o;cases hsg:jC o with
 |false=>
  have T:(s.toList== [])=true:=by have:=U;rw [hsg] at this;simpa using this
  have t:(s.toList.isEmpty)=true:=by have:=U;rw [hsg] at this;simpa using this
  have hs4:(s.toList != [])=false:=by have:=t;simpa using this
  obtain rfl:r=false:=by rw [c.o,hsg];simp
  clear c U hsg;go_wp2_with fail
  go_ret;exact⟨by first|rfl|simp,f.o.trans (g.o.mono f.o.size)⟩
 |true=>
 have t:(s.toList.isEmpty)=false:=by have:=U;rw [hsg] at this;simpa using this
 have T:(s.toList== [])=false:=by cases hq:s.toList with|nil=>rw [hq] at t;simp at t|cons a b=>rfl
 have hs4:(s.toList != [])=true:=by have:=T;simpa using this
 have i:J2 (r=(decide (m=2) && zV dom d (x.kids.getD 0 default) && zV dom d (x.kids.getD 1 default))):=by rw [J2,c.o,hsg,a1];simp
 clear c U hsg;by_cases a2:m=2
 rotate_left
 ·have b2:((m:Int)==2)=false:=by rw [beq_eq_false_iff_ne];omega
  have b3:(m==2)=false:=by simp [a2]
  obtain rfl:r=false:=by rw [i.o];simp [a2]
  clear i;go_wp2_with fail
  go_ret;exact⟨by first|rfl|simp,f.o.trans (g.o.mono f.o.size)⟩
 obtain⟨N,rfl⟩:∃N,e=N+1:=by
  cases e with
  |zero=>exact HE.o.elim
  |succ N=>exact⟨N,rfl⟩
 have hx:=HE.o;subst a2;obtain⟨wG,ko,ka0,kc0,D, -,p0,p1,p2,p3,B⟩:=hx.part 0 (by rw [<-HM.o];omega)
 subst D;obtain⟨z5g,ko2,S,R,D, -,L,J,I,H,A⟩:=hx.part 1 (by rw [<-HM.o];omega)
 cases D
 obtain⟨v,z⟩:=qxE (x.kids.getD 0 default);obtain⟨l,y⟩:=qxE (x.kids.getD 1 default);rw [<-z] at p0 p1 p2 p3 B;rw [<-y] at L J I H A;rw [<-z, <-y] at i;have j:=λX (q:Below W.heap.size W X)=>zl (f.o.trans (q.mono f.o.size));rw [Nat.zero_mul,Nat.add_zero] at p0 p1 p2 p3;rw [Nat.one_mul] at L J I H;have HQ:J2 (∀X,Below W.heap.size W X->K3 X wG (ko+4) (I4 l.kind)/\K3 X wG (ko+4+1) (I4 l.n)/\K3 X wG (ko+4+2) (.int .u8 l.op)/\K3 X wG (ko+4+3) (.slice S l.kids.length R)):=λX q=>⟨j X q _ _ L,j X q _ _ J,j X q _ _ I,j X q _ _ H⟩
 have HX0:J2 (∀X,Below W.heap.size W X->Calls Tryz.prog 146 #[.agg #[I4 v.kind,I4 v.n, .int .u8 v.op, .slice ka0 v.kids.length kc0],I4 d,I4 dom] X λe P=>e= .returned (.bool (zV dom d v))/\Below X.heap.size X P):=λX q=>HIH.o N X v _ (B.below (f.o.trans (q.mono f.o.size)));have wL:J2 (∀X,Below W.heap.size W X->Calls Tryz.prog 146 #[.agg #[I4 l.kind,I4 l.n, .int .u8 l.op, .slice S l.kids.length R],I4 d,I4 dom] X λe P=>e= .returned (.bool (zV dom d l))/\Below X.heap.size X P):=λX q=>HIH.o N X l _ (A.below (f.o.trans (q.mono f.o.size)));have d0:=j O g.o _ _ p0;have d1:=j O g.o _ _ p1
 have d2:=j O g.o _ _ p2;have d3:=j O g.o _ _ p3;clear p0 p1 p2 p3 L J I H hx B A j z y;go_wp2_with fail
 refine(HX0.o O g.o).mono ?_
 rintro e W2 ⟨rfl,hb2⟩;have p:=qh (zy g.o hb2);clear c0 c1 c2 c3 d0 d1 d2 d3 hb2;cases hr0:zV dom d v with
 |false=>
  obtain rfl:r=false:=by rw [i.o,hr0];simp
  clear i hr0;go_wp2_with fail
  go_ret;exact⟨by first|rfl|simp,f.o.trans (p.o.mono f.o.size)⟩
 |true=>
 have HR4:J2 (r=zV dom d l):=by rw [J2,i.o,hr0];simp
 obtain⟨c0,c1,c2,c3⟩:=HC.o W2 p.o;obtain⟨L,J,I,H⟩:=HQ.o W2 p.o;clear i hr0;go_wp2_with fail
 refine(wL.o W2 p.o).mono ?_
 rw [<-HR4.o];rintro e W3 ⟨rfl,Q⟩;have HB3:=qh (zy p.o Q);clear c0 c1 c2 c3 L J I H Q;go_wp2_with fail
 go_ret;exact⟨by first|rfl|simp,f.o.trans (HB3.o.mono f.o.size)⟩
theorem zhk (dom:Int) (e:Nat) (w:World) (x:zR) (kv:Value) (h:zJ e w x kv):
  Calls Tryz.prog 112 #[qD x kv,I4 dom] w λe i=>e= .returned (.bool (zV dom 20 x))/\Below w.heap.size w i:=by
 obtain⟨ka,kc,rfl,j⟩:=h.slice;have g:=qh ((Below.refl w.heap.size w).alloc (Nat.le_refl _) (.cells #[I4 x.kind,I4 x.n, .int .u8 x.op, .slice ka x.kids.length kc] 104));have b:=qh (zQ w (.cells #[I4 x.kind,I4 x.n, .int .u8 x.op, .slice ka x.kids.length kc] 104))
 have l:J2 (Calls Tryz.prog 146 #[.agg #[I4 x.kind,I4 x.n, .int .u8 x.op, .slice ka x.kids.length kc],I4 20,I4 dom] (w.alloc (.cells #[I4 x.kind,I4 x.n, .int .u8 x.op, .slice ka x.kids.length kc] 104)) λe i=>e= .returned (.bool (zV dom 20 x))/\Below (w.alloc (.cells #[I4 x.kind,I4 x.n, .int .u8 x.op, .slice ka x.kids.length kc] 104)).heap.size (w.alloc (.cells #[I4 x.kind,I4 x.n, .int .u8 x.op, .slice ka x.kids.length kc] 104)) i):=zyA dom 20 (by omega) e _ x _ (h.below g.o);unfold qD;clear h j;go_enter Tryz.func112,Tryz.ntmps112
 go_upto_region 1 with fail
 generalize World.alloc w _=W at g b l ⊢;obtain⟨f,c⟩:=qxE w.heap.size;rw [<-c] at b ⊢;clear c;have r:W.cell? ⟨f,0,none⟩=some (I4 x.kind):=ze b.o 0;have q:W.cell? ⟨f,1,none⟩=some (I4 x.n):=ze b.o 1;have p:W.cell? ⟨f,2,none⟩=some (.int .u8 x.op):=ze b.o 2;have m:W.cell? ⟨f,3,none⟩=some (.slice ka x.kids.length kc):=ze b.o 3;go_wp2_with fail
 refine l.o.mono ?_
 rintro e t ⟨rfl,d⟩;have k:=qh d;clear d r q p m;go_wp2_with fail
 go_ret;exact⟨by first|rfl|simp,g.o.trans (k.o.mono g.o.size)⟩
def pQ (k:Int):Bool:=decide (k=1\/k=3\/k=6)
def uy (k:Int):Bool:=decide (k=1\/k=2\/k=6\/k=7\/k=8)
def uz (k:Int):Bool:=decide (k=2\/k=3\/k=6\/k=9\/k=10\/k=11)
def hasB (k:Int):Bool:=decide (k=6)
theorem zod:(Tryz.prog.info? 182).map (·.size)=some 4:=by kernel_rfl
theorem z08 (w:World) (k:Int):Calls Tryz.prog 111 #[I4 k] w λe x=>e= .returned (.agg #[.bool (pQ k), .bool (uy k), .bool (uz k), .bool (hasB k)])/\Below w.heap.size w x:=by
 have r:=qh ((Below.refl w.heap.size w).alloc (Nat.le_refl _) (.cells #[.bool false, .bool false, .bool false, .bool false] 182));have c:=qh (zQ w (.cells #[.bool false, .bool false, .bool false, .bool false] 182));go_enter Tryz.func111,Tryz.ntmps111
 go_upto_region 1 with fail
 generalize World.alloc w _=W at r c ⊢;obtain⟨b,d⟩:=qxE w.heap.size;rw [<-d] at c ⊢;have v:=qh d;clear d;have V:W.cell? ⟨b,0,none⟩=some (.bool false):=ze c.o 0;have U:W.cell? ⟨b,1,none⟩=some (.bool false):=ze c.o 1;have T:W.cell? ⟨b,2,none⟩=some (.bool false):=ze c.o 2;have S:W.cell? ⟨b,3,none⟩=some (.bool false):=ze c.o 3;have I:W.frozen? ⟨b,0,none⟩=false:=zH c.o 0;have H:W.frozen? ⟨b,1,none⟩=false:=zH c.o 1;have G:W.frozen? ⟨b,2,none⟩=false:=zH c.o 2;have E:W.frozen? ⟨b,3,none⟩=false:=zH c.o 3
 have m:J2 (∀l i h g:Bool,((((W.setCell ⟨b,0,none⟩ (.bool l)).setCell ⟨b,1,none⟩ (.bool i)).setCell ⟨b,2,none⟩ (.bool h)).setCell ⟨b,3,none⟩ (.bool g)).heap[b]? =some (.cells #[.bool l, .bool i, .bool h, .bool g] 182 (0,0))/\Below w.heap.size w ((((W.setCell ⟨b,0,none⟩ (.bool l)).setCell ⟨b,1,none⟩ (.bool i)).setCell ⟨b,2,none⟩ (.bool h)).setCell ⟨b,3,none⟩ (.bool g))):=λl i h g=>by
  have f:=zu (zu (zu (zu c.o 0 (.bool l)) 1 (.bool i)) 2 (.bool h)) 3 (.bool g);simp only [List.setIfInBounds_toArray,List.set_cons_zero,List.set_cons_succ] at f;have A:Since (λk=>k=b) W ((((W.setCell ⟨b,0,none⟩ (.bool l)).setCell ⟨b,1,none⟩ (.bool i)).setCell ⟨b,2,none⟩ (.bool h)).setCell ⟨b,3,none⟩ (.bool g)):=Since.setCell (p:=⟨b,3,none⟩) (Since.setCell (p:=⟨b,2,none⟩) (Since.setCell (p:=⟨b,1,none⟩) (Since.setCell (F:=λk=>k=b) (p:=⟨b,0,none⟩) (Since.refl _ W) (.inl rfl) _) (.inl rfl) _) (.inl rfl) _) (.inl rfl) _;exact⟨f,r.o.trans (A.below r.o.size (λy D=>by have:=v.o;omega))⟩
 by_cases hk:1<=k/\k<=11
 ·have z:k=1\/k=2\/k=3\/k=4\/k=5\/k=6\/k=7\/k=8\/k=9\/k=10\/k=11:=by omega
  clear hk;rcases z with rfl|rfl|rfl|rfl|rfl|rfl|rfl|rfl|rfl|rfl|rfl
  all_goals
   go_wp2_with fail
   (try simp only [Exit.inBlock,Exit.then])
   exact bodyPost_ret (xu rfl _ _ b 182 _ (0,0) _ rfl (m.o _ _ _ _).1 Tryz.underlying182 rfl zod) rfl ⟨rfl,(m.o _ _ _ _).2⟩
 have e:∀j:Int,1<=j->j<=11->(k==j)=false:=λj f q=>by rw [beq_eq_false_iff_ne];omega
 have R:=e 1 (by omega) (by omega);have P:=e 2 (by omega) (by omega);have O:=e 3 (by omega) (by omega);have N:=e 6 (by omega) (by omega);have M:=e 7 (by omega) (by omega);have L:=e 8 (by omega) (by omega);have J:=e 9 (by omega) (by omega);have C:=e 10 (by omega) (by omega);have B:=e 11 (by omega) (by omega);have f:pQ k=false:=by unfold pQ;rw [decide_eq_false_iff_not];omega
 have q:uy k=false:=by unfold uy;rw [decide_eq_false_iff_not];omega
 have u:uz k=false:=by unfold uz;rw [decide_eq_false_iff_not];omega
 have t:hasB k=false:=by unfold hasB;rw [decide_eq_false_iff_not];omega
 have n:=qh (And.intro f (And.intro q (And.intro u t)));clear e f q u t hk;go_wp2_with fail
 (try simp only [Exit.inBlock,Exit.then])
 refine bodyPost_ret (xu rfl _ _ b 182 _ (0,0) _ rfl (m.o _ _ _ _).1 Tryz.underlying182 rfl zod) rfl ⟨?_,(m.o _ _ _ _).2⟩
 rw [n.o.1,n.o.2.1,n.o.2.2.1,n.o.2.2.2]
