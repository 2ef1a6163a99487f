/- Steps. -/
import Derived.Test.YtmijlmglnnbdjaaGreatDoorUtForm
import Derived.Test.YtmijlmglnnbdjaaGreatDoorUtOwnS
set_option linter.all false
namespace Go.Proofs.YtmijlmglnnbdjaaGreatDoor
open Go.RowKit
set_option maxRecDepth 100000
set_option maxHeartbeats 16000000
theorem zrZ (dom:Int) (d:Nat) (D:d<=1000) (t:∀(e:Nat) (w:World) (x:zR) (kv:Value),zJ e w x kv->Calls Tryz.prog 193 #[qD x kv,I4 d,I4 dom] w λe j=>e= .returned (.bool (zV dom d x))/\Below w.heap.size w j)
  (e:Nat) (w:World) (x:zR) (kv:Value) (h:zJ e w x kv) (y v:Nat) (p:w.cell? ⟨y,0,none⟩=some (I4 ((d:Int)+1))) (l:w.cell? ⟨v,0,none⟩=some (I4 dom)):
  Calls Tryz.prog 213 #[qD x kv, .pointer (some ⟨y,0,none⟩), .pointer (some ⟨v,0,none⟩)] w λe j=>e= .returned (.bool (!zV dom d x))/\Below w.heap.size w j:=by
 have b:=λW (A:Below w.heap.size w W)=>t e W x kv (h.below A);obtain⟨ka,kc,rfl, -⟩:=h.slice;have z:wrap64 ((d:Int)+1 - 1)=(d:Int):=by unfold wrap64;omega
 generalize zV dom d x=r at b ⊢;unfold qD at b ⊢;generalize x.kind=k at b ⊢;generalize x.n=n at b ⊢;generalize x.op=o at b ⊢;generalize x.kids.length=m at b ⊢;have B:=qh b;clear b t h;have g:=qh ((Below.refl w.heap.size w).alloc (Nat.le_refl _) (.cells #[I4 k,I4 n, .int .u8 o, .slice ka m kc] 104));have c:=qh (zQ w (.cells #[I4 k,I4 n, .int .u8 o, .slice ka m kc] 104));replace p:=zl g.o _ _ p;replace l:=zl g.o _ _ l;go_enter Tryz.func213,Tryz.ntmps213
 go_upto_region 1 with fail
 generalize World.alloc w _=W at g c p l ⊢;obtain⟨i,f⟩:=qxE w.heap.size;rw [<-f] at c ⊢;clear f;have H:W.cell? ⟨i,0,none⟩=some (I4 k):=ze c.o 0;have G:W.cell? ⟨i,1,none⟩=some (I4 n):=ze c.o 1;have F:W.cell? ⟨i,2,none⟩=some (.int .u8 o):=ze c.o 2;have E:W.cell? ⟨i,3,none⟩=some (.slice ka m kc):=ze c.o 3;go_wp2_with(go_at_call 193;go_must(refine(B.o _ g.o).mono ?_);rintro e C ⟨rfl,u⟩;have q:=qh (zy g.o u);clear u);go_ret;exact⟨by first|rfl|simp,q.o⟩
def zsa (e:Nat) (w:World) (y:zR) (cs:List Value):Prop:=∃kv',cs=y.cells kv'/\zJ e w y kv'
theorem zsa.stays (e:Nat):wH (zsa e):=λ_ _ _ _ ⟨b,q1,q2⟩ hb=>⟨b,q1,q2.below hb⟩
def zeI (dom k:Int):Int:=if k=1 then dom else if k=2 then 4 else if k=3 then 1 else 0
theorem zvq (dom k:Int):(kF (zaA (zaA (zaA [] 1 (Value.int .i64 dom)) 2 (I4 4)) 3 (I4 1)) k).getD (I4 0)=I4 (zeI dom k):=by
 simp only [zaA,kF,zeI];by_cases h1:k=1
 ·subst h1;rfl
 by_cases h2:k=2
 ·subst h2;rfl
 by_cases h3:k=3
 ·subst h3;rfl
 rw [if_neg h1,if_neg h2,if_neg h3];simp [zaA,kF,Ne.symm h1,Ne.symm h2,Ne.symm h3]
theorem zsb (dom k n o:Int) (m:Nat) (A B:Bool):(if k=1 then decide (0<=n) && decide (n<dom) && decide (o=0) && decide (m=0)
   else if k=2 then decide (0<=n) && decide (n<4) && decide (o=0) && decide (m=0)
   else if k=3 then decide (n=0) && jC o && decide (m=2) && A && B else false)=
  (decide (0<=n) && decide (n<zeI dom k) && (if k=3 then jC o && decide (m=2) && (A && B) else decide (o=0) && decide (m=0))):=by
 unfold zeI;by_cases h1:k=1
 ·subst h1;simp [Bool.and_assoc]
 by_cases h2:k=2
 ·subst h2;simp [Bool.and_assoc]
 by_cases h3:k=3
 ·subst h3
  have e:decide (n=0)=(decide (0<=n) && decide (n<1)):=by
   by_cases h:n=0
   ·subst h;rfl
   rw [decide_eq_false h];by_cases h0:0<=n
   ·rw [decide_eq_false (by omega:¬n<1)];simp
   rw [decide_eq_false h0];rfl
  simp only [e];simp [Bool.and_assoc]
 rw [if_neg h1,if_neg h2,if_neg h3,if_neg h1,if_neg h2,if_neg h3];by_cases h0:0<=n
 ·rw [decide_eq_false (by omega:¬n<0)];simp
 rw [decide_eq_false h0];rfl
theorem zgF (P:World):(zeroValue 3).run Tryz.prog P= .ok (I4 0) P:=by
 obtain⟨g,f,b,d,c⟩:=info_parts jG;simp [zeroValue,typeInfo,f,b]
theorem zvr (dom:Int) (d:Nat) (hd:d<=1000):∀(e:Nat) (w:World) (x:zR) (kv:Value),zJ e w x kv->
  Calls Tryz.prog 193 #[qD x kv,I4 d,I4 dom] w λe w'=>e= .returned (.bool (zV dom d x))/\Below w.heap.size w w':=by
 induction d with
 |zero=>
  intro e w x kv h;obtain⟨ka,kc,rfl, -⟩:=h.slice;have J:zV dom 0 x=false:=rfl;rw [J];clear J;unfold qD;clear h;have HB:=qh (zjn w (.cells #[I4 x.kind,I4 x.n, .int .u8 x.op, .slice ka x.kids.length kc] 104) (.cells #[I4 0] 3) (.cells #[I4 dom] 3)).1;go_enter Tryz.func193,Tryz.ntmps193
  go_wp2_with fail
  go_ret;exact⟨by first|rfl|simp,HB.o⟩
 |succ d ih=>
 intro e w x kv h;obtain⟨ka,kc,rfl, -⟩:=h.slice;obtain⟨k,L⟩:=qxE x.kind;obtain⟨n,hn⟩:=qxE x.n;obtain⟨o,ho⟩:=qxE x.op;obtain⟨m,Y⟩:=qxE x.kids.length;obtain⟨r,J⟩:=qxE (zV dom (d+1) x)
 have V:r=(if k=1 then decide (0<=n) && decide (n<dom) && decide (o=0) && decide (m=0)
  else if k=2 then decide (0<=n) && decide (n<4) && decide (o=0) && decide (m=0)
  else if k=3 then decide (n=0) && jC o && decide (m=2) && zV dom d (x.kids.getD 0 default) && zV dom d (x.kids.getD 1 default) else false):=by rw [J,L,hn,ho,Y];rfl
 rw [<-J];have HR:=qh V;have HM:=qh Y;rw [<-Y] at h;have HE:=qh h;unfold qD;rw [<-L, <-hn, <-ho, <-Y];have M:=zjn w (.cells #[I4 k,I4 n, .int .u8 o, .slice ka m kc] 104) (.cells #[I4 ((d:Int)+1)] 3) (.cells #[I4 dom] 3);have HB:=qh M.1;have P:=qh M.2.1;have HD:=qh M.2.2.1;have HO:=qh M.2.2.2.1;have HS:=qh M.2.2.2.2;clear L hn ho Y J V h M;have hd1:¬((d:Int)+1<1):=by omega
 have Q:(((d+1:Nat):Int))=(d:Int)+1:=by omega
 simp only [Q];clear Q;go_enter Tryz.func193,Tryz.ntmps193
 go_upto_region 3 with fail
 generalize World.alloc (World.alloc (World.alloc w _) _) _=W at HB P HD HO HS ⊢;obtain⟨q,K⟩:=qxE w.heap.size;rw [<-K] at P HD HO ⊢
 have R:J2 (∀x,Below W.heap.size W x->(K3 x q 0 (I4 k)/\K3 x q 1 (I4 n)/\K3 x q 2 (.int .u8 o)/\K3 x q 3 (.slice ka m kc))/\K3 x (q+1) 0 (I4 ((d:Int)+1))/\K3 x (q+2) 0 (I4 dom)):=λx hx=>
  ⟨⟨zl hx _ _ (ze P.o 0),zl hx _ _ (ze P.o 1),zl hx _ _ (ze P.o 2),zl hx _ _ (ze P.o 3)⟩,zl hx _ _ (ze HD.o 0),zl hx _ _ (ze HO.o 0)⟩
 clear K;have hmm:= @run_makeMap Tryz.prog;have u:qN (W.alloc (.map #[] 0)) W.heap.size [] :=⟨#[],0,zQ W _,rfl⟩;have g:=qh ((Below.refl W.heap.size W).alloc (Nat.le_refl _) (.map #[] 0));obtain⟨⟨H,G,A,z⟩,O,N⟩:=R.o _ g.o
 go_upto_region 4 with(first|(refine qJ _ rfl _ _ _ 191 rfl 3 3 .i64 Tryz.underlying191 Tryz.underlying3 W.heap.size _ rfl _ rfl (I4 dom) rfl u ?_;clear u;intro D u i t;replace g:=qh (g.o.trans (i.below g.o.size (λk L=>by omega)));clear i t;clear H G A z O N;obtain⟨⟨H,G,A,z⟩,O,N⟩:=R.o _ g.o)|(refine qJ _ rfl _ _ _ 191 rfl 3 3 .i64 Tryz.underlying191 Tryz.underlying3 W.heap.size _ rfl _ rfl (I4 4) rfl u ?_;clear u;intro D u i t;replace g:=qh (g.o.trans (i.below g.o.size (λk L=>by omega)));clear i t;clear H G A z O N;obtain⟨⟨H,G,A,z⟩,O,N⟩:=R.o _ g.o)|(refine qJ _ rfl _ _ _ 191 rfl 3 3 .i64 Tryz.underlying191 Tryz.underlying3 W.heap.size _ rfl _ rfl (I4 1) rfl u ?_;clear u;intro D u i t;replace g:=qh (g.o.trans (i.below g.o.size (λk L=>by omega)));clear i t;clear H G A z O N;obtain⟨⟨H,G,A,z⟩,O,N⟩:=R.o _ g.o;have Z:=qm u Tryz.underlying191 Tryz.underlying3 (zgF D) k false;rw [zvq] at Z;clear u))
 have c:J2 (Below w.heap.size w D):=HB.o.trans (g.o.mono HB.o.size);clear Z hmm;have p:J2 (r=(decide (0<=n) && decide (n<zeI dom k) && (if k=3 then jC o && decide (m=2) && (zV dom d (x.kids.getD 0 default) && zV dom d (x.kids.getD 1 default)) else decide (o=0) && decide (m=0)))):=HR.o.trans (zsb dom k n o m _ _);clear HR;generalize zeI dom k=mo at p ⊢;by_cases a1:0<=n
 rotate_left
 ·obtain rfl:r=false:=by rw [p.o,decide_eq_false a1];simp
  clear p;go_wp2_with fail
  go_ret;exact⟨by first|rfl|simp,c.o⟩
 by_cases a2:n<mo
 rotate_left
 ·obtain rfl:r=false:=by rw [p.o,decide_eq_false a2];simp
  clear p;go_wp2_with fail
  go_ret;exact⟨by first|rfl|simp,c.o⟩
 have C:J2 (r=(if k=3 then jC o && decide (m=2) && (zV dom d (x.kids.getD 0 default) && zV dom d (x.kids.getD 1 default)) else decide (o=0) && decide (m=0))):=by rw [J2,p.o,decide_eq_true a1,decide_eq_true a2];rfl
 clear p;by_cases k3:k=3
 rotate_left
 ·have f:J2 (r=(decide (o=0) && decide (m=0))):=by rw [J2,C.o,if_neg k3]
  have k3b:(k==3)=false:=by simp [k3]
  clear C;by_cases a3:o=0
  ·have ba3:((o:Int)==0)=true:=by simp [a3]
   by_cases a4:m=0
   ·subst a4;obtain rfl:r=true:=by rw [f.o];simp [a3]
    clear f a3;go_wp2_with fail
    go_ret;exact⟨by first|rfl|simp,c.o⟩
   have ba4:((m:Int)==0)=false:=by simp [a4]
   obtain rfl:r=false:=by rw [f.o];simp [a4]
   clear f a3;go_wp2_with fail
   go_ret;exact⟨by first|rfl|simp,c.o⟩
  have ba3:((o:Int)==0)=false:=by simp [a3]
  obtain rfl:r=false:=by rw [f.o];simp [a3]
  clear f;go_wp2_with fail
  go_ret;exact⟨by first|rfl|simp,c.o⟩
 have f:J2 (r=(jC o && decide (m=2) && (zV dom d (x.kids.getD 0 default) && zV dom d (x.kids.getD 1 default)))):=by rw [J2,C.o,if_pos k3]
 have kb3:((k:Int)==3)=true:=by simp [k3]
 clear C k3
 have HC2:J2 (∀X,Below D.heap.size D X->K3 X q 2 (.int .u8 o)/\K3 X q 3 (.slice ka m kc)):=λX hX=>by
  obtain⟨⟨-, -,r2,r3⟩, -, -⟩:=R.o X (g.o.trans (hX.mono g.o.size));exact⟨r2,r3⟩
 go_wp2_with fail
 refine(zug D o).mono ?_
 rintro e I ⟨⟨s,rfl,U⟩,hb2⟩;have l:=qh hb2;clear H G A z hb2;obtain⟨A,z⟩:=HC2.o I l.o;cases hsg:jC o with
 |false=>
  have T:(s.toList== [])=true:=by have:=U;rw [hsg] at this;simpa using this
  have v:(s.toList.isEmpty)=true:=by have:=U;rw [hsg] at this;simpa using this
  have hs4:(s.toList != [])=false:=by have:=v;simpa using this
  obtain rfl:r=false:=by rw [f.o,hsg];simp
  clear f U hsg;go_wp2_with fail
  go_ret;exact⟨by first|rfl|simp,c.o.trans (l.o.mono c.o.size)⟩
 |true=>
 have v:(s.toList.isEmpty)=false:=by have:=U;rw [hsg] at this;simpa using this
 have T:(s.toList== [])=false:=by cases hq:s.toList with|nil=>rw [hq] at v;simp at v|cons a b=>rfl
 have hs4:(s.toList != [])=true:=by have:=T;simpa using this
 have B:J2 (r=(decide (m=2) && (zV dom d (x.kids.getD 0 default) && zV dom d (x.kids.getD 1 default)))):=by rw [J2,f.o,hsg];simp
 clear f U hsg;by_cases a5:m=2
 rotate_left
 ·have b2:((m:Int)==2)=false:=by rw [beq_eq_false_iff_ne];omega
  have b3:(m==2)=false:=by simp [a5]
  obtain rfl:r=false:=by rw [B.o];simp [a5]
  clear B;go_wp2_with fail
  go_ret;exact⟨by first|rfl|simp,c.o.trans (l.o.mono c.o.size)⟩
 obtain⟨F,rfl⟩:∃F,e=F+1:=by
  cases e with
  |zero=>exact HE.o.elim
  |succ F=>exact⟨F,rfl⟩
 have vV:J2 (r= !((List.range x.kids.length).any λj=> !zV dom d (x.kids.getD j default))):=by
  rw [J2,B.o, <-HM.o,a5];simp [List.range_succ]
 clear B;have S:Below w.heap.size w I:=c.o.trans (l.o.mono c.o.size);have E:=zJ.below HE.o S;rw [HM.o] at E
 have y:Calls Tryz.prog 215 #[.slice ka x.kids.length kc, .func (.func 213) #[] #[.pointer (some ⟨q+1,0,none⟩), .pointer (some ⟨q+1+1,0,none⟩)]] I λe w'=>e= .returned (.bool ((List.range x.kids.length).any λj=> !zV dom d (x.kids.getD j default)))/\Below I.heap.size I w':=
  zih (zsa F) (zsa.stays F) I _ x.kids E 213 #[] _ _ (λ_ _=>rfl)
   (λj hj W' cs hcl ⟨kv',q1,q2⟩ hW'=>by
    subst q1;obtain⟨-,cd',co'⟩:=R.o W' (g.o.trans ((l.o.trans (hW'.mono l.o.size)).mono g.o.size));exact zrZ dom d (by omega) (λe W X kv hx=>ih (by omega) e W X kv hx) F W' _ kv' q2 (q+1) (q+2) cd' co')
 rw [<-HM.o] at y;rw [<-HM.o] at vV;subst a5;generalize ((List.range 2).any λj=> !zV dom d (x.kids.getD j default))=rr at vV y;have HCO:=qh y;clear y S E;go_wp2_with fail
 refine HCO.o.mono ?_
 rintro e w3 ⟨rfl,hb3⟩;have HB3:=qh hb3;have HW5:J2 (Below w.heap.size w w3):=c.o.trans ((l.o.trans (HB3.o.mono l.o.size)).mono c.o.size);clear hb3 A z;obtain rfl:r= !rr:=vV.o;clear vV HCO;go_wp2_with fail
 go_ret;exact⟨by first|rfl|simp,HW5.o⟩
theorem zob (dom:Int) (e:Nat) (w:World) (x:zR) (kv:Value) (h:zJ e w x kv):Calls Tryz.prog 153 #[qD x kv,I4 dom] w λe l=>e= .returned (.bool (zV dom 20 x))/\Below w.heap.size w l:=by
 have b:=λW (p:Below w.heap.size w W)=>zvr dom 20 (by omega) e W x kv (h.below p);obtain⟨ka,kc,rfl, -⟩:=h.slice;generalize zV dom 20 x=r at b ⊢;unfold qD at b ⊢;generalize x.kind=k at b ⊢;generalize x.n=n at b ⊢;generalize x.op=o at b ⊢;generalize x.kids.length=m at b ⊢;have q:=qh b;clear b h;have i:=qh ((Below.refl w.heap.size w).alloc (Nat.le_refl _) (.cells #[I4 k,I4 n, .int .u8 o, .slice ka m kc] 104));have c:=qh (zQ w (.cells #[I4 k,I4 n, .int .u8 o, .slice ka m kc] 104));go_enter Tryz.func153,Tryz.ntmps153
 go_upto_region 1 with fail
 generalize World.alloc w _=W at i c ⊢;obtain⟨f,d⟩:=qxE w.heap.size;rw [<-d] at c ⊢;clear d;have z:W.cell? ⟨f,0,none⟩=some (I4 k):=ze c.o 0;have y:W.cell? ⟨f,1,none⟩=some (I4 n):=ze c.o 1;have v:W.cell? ⟨f,2,none⟩=some (.int .u8 o):=ze c.o 2;have u:W.cell? ⟨f,3,none⟩=some (.slice ka m kc):=ze c.o 3;go_wp2_with fail
 refine(q.o _ i.o).mono ?_
 rintro e t ⟨rfl,j⟩;have g:=qh (zy i.o j);clear j;go_wp2_with fail
 go_ret;exact⟨by first|rfl|simp,g.o⟩
def zdX (dom:Int) (has:Bool) (x:zR):Bool:=if has then zV dom 20 x else vK x
theorem zka (dom:Int) (e:Nat) (w:World) (x:zR) (kv:Value) (h:zJ e w x kv) (d:Bool) (v:Nat) (t:w.cell? ⟨v,0,none⟩=some (I4 dom)):
  Calls Tryz.prog 152 #[qD x kv, .bool d, .pointer (some ⟨v,0,none⟩)] w λe z=>e= .returned (.bool (zdX dom d x))/\Below w.heap.size w z:=by
 have i:=λW (C:Below w.heap.size w W)=>zob dom e W x kv (h.below C);obtain⟨ka,kc,rfl, -⟩:=h.slice;have g:=λW=>zuh W x ka kc;obtain⟨B,l⟩:=qxE (vK x);obtain⟨A,j⟩:=qxE (zV dom 20 x);have u:zdX dom d x=if d then A else B:=by rw [l,j];rfl
 rw [<-j] at i;rw [<-l] at g;rw [u];clear u l j;unfold qD at i g ⊢;generalize x.kind=k at i g ⊢;generalize x.n=n at i g ⊢;generalize x.op=o at i g ⊢;generalize x.kids.length=m at i g ⊢;have I:=qh i;have H:=qh g;clear i g h;have q:=qh ((Below.refl w.heap.size w).alloc (Nat.le_refl _) (.cells #[I4 k,I4 n, .int .u8 o, .slice ka m kc] 104));have b:=qh (zQ w (.cells #[I4 k,I4 n, .int .u8 o, .slice ka m kc] 104));replace t:=zl q.o _ _ t;cases d with
 |true=>
  go_enter Tryz.func152,Tryz.ntmps152
  go_upto_region 1 with fail
  generalize World.alloc w _=W at q b t ⊢;obtain⟨f,c⟩:=qxE w.heap.size;rw [<-c] at b ⊢;clear c;have G:W.cell? ⟨f,0,none⟩=some (I4 k):=ze b.o 0;have F:W.cell? ⟨f,1,none⟩=some (I4 n):=ze b.o 1;have E:W.cell? ⟨f,2,none⟩=some (.int .u8 o):=ze b.o 2;have D:W.cell? ⟨f,3,none⟩=some (.slice ka m kc):=ze b.o 3;go_wp2_with fail
  refine(I.o _ q.o).mono ?_
  rintro e y ⟨rfl,r⟩;have p:=qh (zy q.o r);clear r;go_wp2_with fail
  go_ret;exact⟨by first|rfl|simp,p.o⟩
 |false=>
 go_enter Tryz.func152,Tryz.ntmps152
 go_upto_region 1 with fail
 generalize World.alloc w _=W at q b t ⊢;obtain⟨f,c⟩:=qxE w.heap.size;rw [<-c] at b ⊢;clear c;have G:W.cell? ⟨f,0,none⟩=some (I4 k):=ze b.o 0;have F:W.cell? ⟨f,1,none⟩=some (I4 n):=ze b.o 1;have E:W.cell? ⟨f,2,none⟩=some (.int .u8 o):=ze b.o 2;have D:W.cell? ⟨f,3,none⟩=some (.slice ka m kc):=ze b.o 3;go_wp2_with fail
 refine(H.o _).mono ?_
 rintro e y ⟨rfl,r⟩;have p:=qh (zy q.o r);clear r;go_wp2_with fail
 go_ret;exact⟨by first|rfl|simp,p.o⟩
def fmZ:Value:= .agg #[.bool false, .bool false, .bool false, .bool false, .bool false, .bool false, .nilFunc]
theorem zvu:(Tryz.prog.info? 217).map (λi=>(i.zero,i.size,i.bytes))=some (some fmZ,7,16):=by kernel_rfl
theorem zlC (P:World):(zeroValue 217).run Tryz.prog P= .ok fmZ P:=by
 obtain⟨g,f,b,d,c⟩:=info_parts zvu;simp [zeroValue,typeInfo,f,b]
theorem zvv (k:Int):∃t o d,d.oneCell'=true/\(kF fmL k).getD fmZ= .agg #[.bool (pQ k), .bool (uy k), .bool (uz k), .bool (hasB k), .bool t, .bool o,d] :=by
 by_cases h:1<=k/\k<=11
 ·have:k=1\/k=2\/k=3\/k=4\/k=5\/k=6\/k=7\/k=8\/k=9\/k=10\/k=11:=by omega
  rcases this with rfl|rfl|rfl|rfl|rfl|rfl|rfl|rfl|rfl|rfl|rfl<;>exact⟨_,_,_,rfl,rfl⟩
 have e:(kF fmL k).getD fmZ=fmZ:=by
  have q:¬(1:Int)=k:=by omega
  have p:¬(2:Int)=k:=by omega
  have n:¬(3:Int)=k:=by omega
  have m:¬(4:Int)=k:=by omega
  have l:¬(5:Int)=k:=by omega
  have j:¬(6:Int)=k:=by omega
  have i:¬(7:Int)=k:=by omega
  have g:¬(8:Int)=k:=by omega
  have f:¬(9:Int)=k:=by omega
  have c:¬(10:Int)=k:=by omega
  have b:¬(11:Int)=k:=by omega
  simp [fmL,kF,q,p,n,m,l,j,i,g,f,c,b]
 rw [e];refine⟨false,false, .nilFunc,rfl, ?_⟩
 have x:pQ k=false:=by unfold pQ;exact decide_eq_false (by omega)
 have v:uy k=false:=by unfold uy;exact decide_eq_false (by omega)
 have u:uz k=false:=by unfold uz;exact decide_eq_false (by omega)
 have r:hasB k=false:=by unfold hasB;exact decide_eq_false (by omega)
 rw [x,v,u,r];rfl
def zfB (n m:Int) (h:Bool):Bool:=if h then decide (0<=n) && decide (n<m) else decide (n=0)
theorem zsc (k reg v:Int) (a b:zR) (vars dom:Int):vg k reg v a b vars dom=(zfB reg 4 (pQ k) && zfB v vars (uy k) && zdX dom (uz k) a && zdX dom (hasB k) b):=rfl
theorem zvw (w:World) (k reg v:Int) (a b:zR) (ka Y:Value) (e:Nat) (s:zJ e w a ka) (Q:zJ e w b Y) (vars dom:Int):
  Calls Tryz.prog 124 #[I4 k,I4 reg,I4 v,qD a ka,qD b Y,I4 vars,I4 dom] w λe w'=>e= .returned (.bool (vg k reg v a b vars dom))/\Below w.heap.size w w':=by
 rw [zsc];have d:=λW (B:Below w.heap.size w W) has l g=>zka dom e W a ka (s.below B) has l g;have c:=λW (B:Below w.heap.size w W) has l g=>zka dom e W b Y (Q.below B) has l g;obtain⟨aa,ac,rfl, -⟩:=s.slice;obtain⟨ba,bc,rfl, -⟩:=Q.slice;obtain⟨fo,ft,S,K,f⟩:=zvv k;have Z:∀a W,(store a S .plain).run Tryz.prog W=stored Tryz.prog W a S .plain:=λa W=>run_store _ _ _ _ _ K;generalize pQ k=h0 at f ⊢;generalize uy k=h1 at f ⊢;generalize uz k=h2 at f ⊢;generalize hasB k=h3 at f ⊢;obtain⟨r1,q⟩:=qxE (zfB reg 4 h0);obtain⟨r2,m⟩:=qxE (zfB v vars h1);obtain⟨r3,u⟩:=qxE (zdX dom h2 a)
 obtain⟨r4,t⟩:=qxE (zdX dom h3 b);have z:=λW=>zh5 W reg 4 h0;have y:=λW=>zh5 W v vars h1;unfold zfB at q m;rw [<-q] at z;rw [<-m] at y;replace d:=λW B l g=>d W B h2 l g;replace c:=λW B l g=>c W B h3 l g;rw [<-u] at d;rw [<-t] at c;have G:(zfB reg 4 h0 && zfB v vars h1 && zdX dom h2 a && zdX dom h3 b)=(r1 && r2 && r3 && r4):=by rw [q,m,u,t];rfl
 rw [G];clear G q m u t s Q;unfold qD at d c ⊢;generalize a.kind=ak at d ⊢;generalize a.n=an at d ⊢;generalize a.op=ao at d ⊢;generalize a.kids.length=am at d ⊢;generalize b.kind=bk at c ⊢;generalize b.n=bn at c ⊢;generalize b.op=l at c ⊢;generalize b.kids.length=bm at c ⊢;have HIA:=qh d;have HIB:=qh c;have HN1:=qh z;have HN2:=qh y;clear d c z y;have O:=zjn w (.cells #[I4 ak,I4 an, .int .u8 ao, .slice aa am ac] 104) (.cells #[I4 bk,I4 bn, .int .u8 l, .slice ba bm bc] 104) (.cells #[I4 dom] 3);have U:=qh O.1;have C:=qh O.2.1;have E:=qh O.2.2.1;have T:=qh O.2.2.2.1;clear O;have R:=qh f;clear f
 go_enter Tryz.func124,Tryz.ntmps124
 go_upto_region 1 with fail
 generalize World.alloc (World.alloc (World.alloc w _) _) _=W at U C E T ⊢;obtain⟨i,J⟩:=qxE w.heap.size;rw [<-J] at C E T ⊢;clear J;go_wp2_with fail
 refine(zrb W).mono ?_
 rintro e F ⟨mb,rfl,H, -,N⟩;have j:=qh N;have I:=qm H Tryz.underlying218 Tryz.underlying3 (zlC F) k false;rw [R.o] at I;have V:=qh ((Below.refl F.heap.size F).alloc (Nat.le_refl _) (.cells #[.bool h0, .bool h1, .bool h2, .bool h3, .bool fo, .bool ft,S] 217));have D:=qh (zQ F (.cells #[.bool h0, .bool h1, .bool h2, .bool h3, .bool fo, .bool ft,S] 217));clear H R N;go_upto_region 2 with fail
 generalize World.alloc F _=X at V D ⊢;obtain⟨gf,L⟩:=qxE F.heap.size;rw [<-L] at D ⊢;clear L;have P:J2 (Below w.heap.size w X):=U.o.trans ((j.o.trans (V.o.mono j.o.size)).mono U.o.size)
 have HC:J2 (∀x,Below X.heap.size X x->(K3 x i 0 (I4 ak)/\K3 x i 1 (I4 an)/\K3 x i 2 (.int .u8 ao)/\K3 x i 3 (.slice aa am ac))/\
   (x.cell? ⟨i+1,0,none⟩=some (I4 bk)/\x.cell? ⟨i+1,1,none⟩=some (I4 bn)/\x.cell? ⟨i+1,2,none⟩=some (.int .u8 l)/\x.cell? ⟨i+1,3,none⟩=some (.slice ba bm bc))/\
   (x.cell? ⟨gf,0,none⟩=some (.bool h0)/\x.cell? ⟨gf,1,none⟩=some (.bool h1)/\x.cell? ⟨gf,2,none⟩=some (.bool h2)/\x.cell? ⟨gf,3,none⟩=some (.bool h3))/\x.cell? ⟨i+1+1,0,none⟩=some (I4 dom)):=λx hx=>
  have k:=λp v h=>zl (zy (j.o.trans (V.o.mono j.o.size)) hx) p v h
  ⟨⟨k _ _ (ze C.o 0),k _ _ (ze C.o 1),k _ _ (ze C.o 2),k _ _ (ze C.o 3)⟩,⟨k _ _ (ze E.o 0),k _ _ (ze E.o 1),k _ _ (ze E.o 2),k _ _ (ze E.o 3)⟩,⟨zl hx _ _ (ze D.o 0),zl hx _ _ (ze D.o 1),zl hx _ _ (ze D.o 2),zl hx _ _ (ze D.o 3)⟩,k _ _ (ze T.o 0)⟩
 clear I Z C E T D U j V;have HXX:=qh (Below.refl X.heap.size X);obtain⟨⟨c0,c1,c2,c3⟩,⟨d0,d1,d2,d3⟩,⟨e0,e1,e2,e3⟩,g⟩:=HC.o X HXX.o;go_wp2_with fail
 refine(HN1.o X).mono ?_
 rintro e w2 ⟨rfl,rfl⟩;cases r1 with
 |false=>
  go_wp2_with fail
  go_ret;exact⟨by first|rfl|simp,P.o⟩
 |true=>
 go_wp2_with fail
 refine(HN2.o w2).mono ?_
 rintro e w3 ⟨rfl,rfl⟩;cases r2 with
 |false=>
  go_wp2_with fail
  go_ret;exact⟨by first|rfl|simp,P.o⟩
 |true=>
 go_wp2_with fail
 refine(HIA.o w3 P.o (i+1+1) g).mono ?_
 rintro e w4 ⟨rfl,A⟩;have qZ:=qh A;have r:=qh (P.o.trans (A.mono P.o.size));clear A c0 c1 c2 c3 d0 d1 d2 d3 e0 e1 e2 e3 g;obtain⟨-,⟨d0,d1,d2,d3⟩,⟨-, -, -,e3⟩,g⟩:=HC.o w4 qZ.o;cases r3 with
 |false=>
  go_wp2_with fail
  go_ret;exact⟨by first|rfl|simp,r.o⟩
 |true=>
 go_wp2_with fail
 refine(HIB.o w4 r.o (i+1+1) g).mono ?_
 rintro e w5 ⟨rfl,M⟩;have HW5:=qh (r.o.trans (M.mono r.o.size));clear M d0 d1 d2 d3 e3 g;go_wp2_with fail
 go_ret;exact⟨by first|rfl|simp,HW5.o⟩
def zeJ (k:Int):Bool:=decide (k=12)||decide (k=13)
theorem zsd (w:World) (k:Int):Calls Tryz.prog 123 #[I4 k] w λe c=>e= .returned (.bool (zeJ k))/\c=w:=by
 unfold zeJ;by_cases h:k=12
 ·subst h;go_enter Tryz.func123,Tryz.ntmps123
  go_wp2_with fail
  go_ret;exact⟨by first|rfl|simp,rfl⟩
 have b:((k:Int)==12)=false:=by simp [h]
 go_enter Tryz.func123,Tryz.ntmps123
 go_wp2_with fail
 go_ret;exact⟨by rw [show decide (k=12)=false from by simp [h],Bool.false_or];exact congrArg (λq=>Ending.returned (.bool q)) (by rw [Bool.eq_iff_iff];simp),rfl⟩
def kindOf (op:Int):Int:=if op=12 then 9 else if op=13 then 4 else op
def zha (op many:Int):Int:=if op=12\/op=13 then many else 0
theorem zoQ (vars dom:Int) (b:Nat) (x:yg):qH vars dom b x=jf vars dom (kindOf x.op) (zha x.op b) x:=by
 unfold qH kindOf zha;by_cases h1:x.op=12
 ·rw [if_pos h1,if_pos h1,if_pos (.inl h1)]
 by_cases h2:x.op=13
 ·rw [if_neg h1,if_neg h1,if_pos h2,if_pos h2,if_pos (.inr h2)]
 rw [if_neg h1,if_neg h1,if_neg h2,if_neg h2,if_neg (by omega:¬(x.op=12\/x.op=13))];by_cases h3:x.op=10\/x.op=11
 ·rw [if_pos h3];unfold jf;have e:decide (x.op<=9)=false:=decide_eq_false (by omega);rw [e];simp
 rw [if_neg h3]
theorem zvx (k:Int) (h:k=12\/k=13):(kF (zaA (zaA [] 12 (Value.int .i64 9)) 13 (I4 4)) k).getD (I4 0)=I4 (kindOf k):=by
 rcases h with rfl|rfl<;>rfl
def qO (x:yg) (ka kb:Value):Value:= .agg #[I4 x.op,I4 x.reg,I4 x.var,I4 x.a.kind,I4 x.a.n, .int .u8 x.a.op,ka,I4 x.b.kind,I4 x.b.n, .int .u8 x.b.op,kb,I4 x.dest]
theorem zse (w:World) (vars dom:Int) (tv:Value) (hta:∃ta tn tc,tv= .slice ta tn tc) (x:yg) (ka kb:Value) (e:Nat) (ha:zJ e w x.a ka) (hb:zJ e w x.b kb) (f:Nat):
  Calls Tryz.prog 91 #[.agg #[I4 vars,I4 dom,tv],qO x ka kb,I4 f] w λe w'=>e= .returned (.bool (qH vars dom f x))/\Below w.heap.size w w':=by
 rw [zoQ];have c:=λW (hW:Below w.heap.size w W) kind=>zvw W kind x.reg x.var x.a x.b ka kb e (ha.below hW) (hb.below hW) vars dom;obtain⟨ta,tn,tc,rfl⟩:=hta;obtain⟨aa,ac,rfl, -⟩:=ha.slice;obtain⟨ba,bc,rfl, -⟩:=hb.slice;obtain⟨op,reg,v,a,b,z⟩:=x;simp only [] at c ha hb ⊢;have hw:∀g fr:Int,jf vars dom g fr ⟨op,reg,v,a,b,z⟩=(decide (1<=g) && decide (g<=9) && decide (0<=z) && decide (z<=fr) && vg g reg v a b vars dom):=λ_ _=>rfl;rw [hw];unfold qO;unfold qD at c;simp only [];generalize hpo:(λg=>vg g reg v a b vars dom)=po at c;have Y:∀g,vg g reg v a b vars dom=po g:=λg=>by rw [<-hpo]
 rw [Y];simp only [Y] at c;clear hpo Y hw ha hb;generalize a.kind=ak at c ⊢;generalize a.n=an at c ⊢;generalize a.op=ao at c ⊢;generalize a.kids.length=am at c ⊢;generalize b.kind=bk at c ⊢;generalize b.n=bn at c ⊢;generalize b.op=bo at c ⊢;generalize b.kids.length=bm at c ⊢;have HPA:=qh c;clear c;obtain⟨g,Q⟩:=qxE (kindOf op);obtain⟨fr,s⟩:=qxE (zha op f);obtain⟨r,hr⟩:=qxE (decide (1<=kindOf op) && decide (kindOf op<=9) && decide (0<=z) && decide (z<=zha op f) && po (kindOf op));rw [<-hr];rw [<-Q, <-s] at hr;have d:=qh hr;have G:=qh Q;have H:=qh s;clear hr Q s
 have HX:=qh (xA w (.cells #[I4 vars,I4 dom, .slice ta tn tc] 25) (.cells #[I4 op,I4 reg,I4 v,I4 ak,I4 an, .int .u8 ao, .slice aa am ac,I4 bk,I4 bn, .int .u8 bo, .slice ba bm bc,I4 z] 107));have HY:=qh (xq w (.cells #[I4 vars,I4 dom, .slice ta tn tc] 25) (.cells #[I4 op,I4 reg,I4 v,I4 ak,I4 an, .int .u8 ao, .slice aa am ac,I4 bk,I4 bn, .int .u8 bo, .slice ba bm bc,I4 z] 107));have F:=qh (xK w (.cells #[I4 vars,I4 dom, .slice ta tn tc] 25) (.cells #[I4 op,I4 reg,I4 v,I4 ak,I4 an, .int .u8 ao, .slice aa am ac,I4 bk,I4 bn, .int .u8 bo, .slice ba bm bc,I4 z] 107));have HK:=qh (zvx op)
 go_enter Tryz.func91,Tryz.ntmps91
 go_upto_region 1 with fail
 generalize World.alloc (World.alloc w _) _=W at HX HY F ⊢;obtain⟨t,hgx⟩:=qxE w.heap.size;rw [<-hgx] at HX HY ⊢;clear hgx
 have HC:J2 (∀x,Below W.heap.size W x->(K3 x t 0 (I4 vars)/\K3 x t 1 (I4 dom))/\K3 x (t+1) 0 (I4 op)/\K3 x (t+1) 1 (I4 reg)/\K3 x (t+1) 2 (I4 v)/\
   (x.cell? ⟨t+1,3,none⟩=some (I4 ak)/\x.cell? ⟨t+1,4,none⟩=some (I4 an)/\x.cell? ⟨t+1,5,none⟩=some (.int .u8 ao)/\x.cell? ⟨t+1,6,none⟩=some (.slice aa am ac))/\
   (x.cell? ⟨t+1,7,none⟩=some (I4 bk)/\x.cell? ⟨t+1,8,none⟩=some (I4 bn)/\x.cell? ⟨t+1,9,none⟩=some (.int .u8 bo)/\x.cell? ⟨t+1,10,none⟩=some (.slice ba bm bc))/\x.cell? ⟨t+1,11,none⟩=some (I4 z)):=λx hx=>
  have p:=λj v h=>zl hx ⟨t,j,none⟩ v ((ze HX.o j).trans h);have q:=λj v h=>zl hx ⟨t+1,j,none⟩ v ((ze HY.o j).trans h)
  ⟨⟨p 0 _ rfl,p 1 _ rfl⟩,q 0 _ rfl,q 1 _ rfl,q 2 _ rfl,⟨q 3 _ rfl,q 4 _ rfl,q 5 _ rfl,q 6 _ rfl⟩,⟨q 7 _ rfl,q 8 _ rfl,q 9 _ rfl,q 10 _ rfl⟩,q 11 _ rfl⟩
 clear HX HY;obtain⟨⟨V,U⟩,T,S,R,⟨P,O,N,M⟩,⟨L,J,I,m⟩,l⟩:=HC.o W (Below.refl _ _);go_wp2_with fail
 refine(zsd W op).mono ?_
 rintro e Z ⟨rfl,rfl⟩;by_cases hop:op=12\/op=13
 rotate_left
 ·have B:zeJ op=false:=by unfold zeJ;simpa using hop
  rw [B];obtain rfl:fr=0:=by rw [H.o];unfold zha;rw [if_neg hop]
  obtain rfl:g=op:=by rw [G.o];unfold kindOf;rw [if_neg (by omega),if_neg (by omega)]
  clear B G H hop HK;go_upto_region 5 with fail
  by_cases b0:1<=g
  rotate_left
  ·obtain rfl:r=false:=by rw [d.o];simp [b0]
   clear d;go_wp2_with fail
   go_ret;exact⟨by first|rfl|simp,F.o⟩
  have i:=d;by_cases b1:g<=9
  rotate_left
  ·obtain rfl:r=false:=by rw [d.o];simp [b1]
   clear d i;go_wp2_with fail
   go_ret;exact⟨by first|rfl|simp,F.o⟩
  have y:=d;by_cases b2:0<=z
  rotate_left
  ·obtain rfl:r=false:=by rw [d.o];simp [b2]
   clear d i y;go_wp2_with fail
   go_ret;exact⟨by first|rfl|simp,F.o⟩
  have D:=d;by_cases b3:z<=0
  ·have HR3:=d;obtain rfl:r=po g:=by rw [d.o];simp [b0,b1,b2,b3]
   clear d i y D HR3;go_wp2_with fail
   refine(HPA.o _ F.o g).mono ?_
   rintro e w9 ⟨rfl,C⟩;have HW9:=qh (F.o.trans (C.mono F.o.size));clear C V U T S R P O N M L J I m l;go_wp2_with fail
   go_ret;exact⟨by first|rfl|simp,HW9.o⟩
  obtain rfl:r=false:=by rw [d.o];simp [b3]
  clear d i y D;go_wp2_with fail
  go_ret;exact⟨by first|rfl|simp,F.o⟩
 have B:zeJ op=true:=by unfold zeJ;simpa using hop
 rw [B];obtain rfl:fr=f:=by rw [H.o];unfold zha;rw [if_pos hop]
 have hmm:= @run_makeMap Tryz.prog;have X:qN (Z.alloc (.map #[] 0)) Z.heap.size [] :=⟨#[],0,zQ Z _,rfl⟩;have E:=qh ((Below.refl Z.heap.size Z).alloc (Nat.le_refl _) (.map #[] 0));clear V U T S R P O N M L J I m l;obtain⟨⟨V,U⟩,T,S,R,⟨P,O,N,M⟩,⟨L,J,I,m⟩,l⟩:=HC.o _ E.o;clear B H
 go_upto_region 5 with(first|(refine qJ _ rfl _ _ _ 191 rfl 3 3 .i64 Tryz.underlying191 Tryz.underlying3 Z.heap.size _ rfl _ rfl (I4 9) rfl X ?_;clear X;intro w1 X A K;replace E:=qh (E.o.trans (A.below E.o.size (λk hk=>by omega)));clear A K;clear V U T S R P O N M L J I m l;obtain⟨⟨V,U⟩,T,S,R,⟨P,O,N,M⟩,⟨L,J,I,m⟩,l⟩:=HC.o _ E.o)|(refine qJ _ rfl _ _ _ 191 rfl 3 3 .i64 Tryz.underlying191 Tryz.underlying3 Z.heap.size _ rfl _ rfl (I4 4) rfl X ?_;clear X;intro w1 X A K;replace E:=qh (E.o.trans (A.below E.o.size (λk hk=>by omega)));clear A K;clear V U T S R P O N M L J I m l;obtain⟨⟨V,U⟩,T,S,R,⟨P,O,N,M⟩,⟨L,J,I,m⟩,l⟩:=HC.o _ E.o;have hlk:=qm X Tryz.underlying191 Tryz.underlying3 (zgF w1) op false;rw [HK.o hop, <-G.o] at hlk;clear X))
 have u:J2 (Below w.heap.size w w1):=F.o.trans (E.o.mono F.o.size);clear hlk hmm HK hop G;by_cases b0:1<=g
 rotate_left
 ·obtain rfl:r=false:=by rw [d.o];simp [b0]
  clear d;go_wp2_with fail
  go_ret;exact⟨by first|rfl|simp,u.o⟩
 have i:=d;by_cases b1:g<=9
 rotate_left
 ·obtain rfl:r=false:=by rw [d.o];simp [b1]
  clear d i;go_wp2_with fail
  go_ret;exact⟨by first|rfl|simp,u.o⟩
 have y:=d;by_cases b2:0<=z
 rotate_left
 ·obtain rfl:r=false:=by rw [d.o];simp [b2]
  clear d i y;go_wp2_with fail
  go_ret;exact⟨by first|rfl|simp,u.o⟩
 have D:=d;by_cases b3:z<=(f:Int)
 ·have HR3:=d;obtain rfl:r=po g:=by rw [d.o];simp [b0,b1,b2,b3]
  clear d i y D HR3;go_wp2_with fail
  refine(HPA.o _ u.o g).mono ?_
  rintro e w9 ⟨rfl,C⟩;have HW9:=qh (u.o.trans (C.mono u.o.size));clear C V U T S R P O N M L J I m l;go_wp2_with fail
  go_ret;exact⟨by first|rfl|simp,HW9.o⟩
 obtain rfl:r=false:=by rw [d.o];simp [b3]
 clear d i y D;go_wp2_with fail
 go_ret;exact⟨by first|rfl|simp,u.o⟩
theorem zoR (w:World) (vars dom:Int) (I:Option Addr) (H tc:Nat) (x:yg) (ka z:Value) (e:Nat) (B:zJ e w x.a ka) (A:zJ e w x.b z) (k L:Nat) (K:Option Addr) (j Z:Nat)
  (q:w.cell? ⟨k,0,none⟩=some (I4 vars)) (p:w.cell? ⟨k,1,none⟩=some (I4 dom)) (m:w.cell? ⟨k,2,none⟩=some (.slice I H tc)) (l:w.cell? ⟨L,0,none⟩=some (.slice K j Z)):
  Calls Tryz.prog 90 #[qO x ka z, .pointer (some ⟨k,0,none⟩), .pointer (some ⟨L,0,none⟩)] w λe Y=>e= .returned (.bool (!qH vars dom j x))/\Below w.heap.size w Y:=by
 have d:=λW (J:Below w.heap.size w W)=>zse W vars dom _ ⟨I,H,tc,rfl⟩ x ka z e (B.below J) (A.below J) j;obtain⟨F,E,rfl, -⟩:=B.slice;obtain⟨D,C,rfl, -⟩:=A.slice;generalize qH vars dom j x=r at d ⊢;unfold qO at d ⊢;obtain⟨op,reg,v,a,b,t⟩:=x;simp only [] at d ⊢;clear B A;generalize a.kind=ak at d ⊢;generalize a.n=an at d ⊢;generalize a.op=ao at d ⊢;generalize a.kids.length=am at d ⊢;generalize b.kind=bk at d ⊢;generalize b.n=bn at d ⊢;generalize b.op=bo at d ⊢;generalize b.kids.length=bm at d ⊢;have Q:=qh d;clear d
 have g:=qh ((Below.refl w.heap.size w).alloc (Nat.le_refl _) (.cells #[I4 op,I4 reg,I4 v,I4 ak,I4 an, .int .u8 ao, .slice F am E,I4 bk,I4 bn, .int .u8 bo, .slice D bm C,I4 t] 107));have c:=qh (zQ w (.cells #[I4 op,I4 reg,I4 v,I4 ak,I4 an, .int .u8 ao, .slice F am E,I4 bk,I4 bn, .int .u8 bo, .slice D bm C,I4 t] 107));replace q:=zl g.o _ _ q;replace p:=zl g.o _ _ p;replace m:=zl g.o _ _ m;replace l:=zl g.o _ _ l;go_enter Tryz.func90,Tryz.ntmps90
 go_upto_region 1 with fail
 generalize World.alloc w _=W at g c q p m l ⊢;obtain⟨f,h⟩:=qxE w.heap.size;rw [<-h] at c ⊢;clear h;have X:W.cell? ⟨f,0,none⟩=some (I4 op):=ze c.o 0;have V:W.cell? ⟨f,1,none⟩=some (I4 reg):=ze c.o 1;have U:W.cell? ⟨f,2,none⟩=some (I4 v):=ze c.o 2;have T:W.cell? ⟨f,3,none⟩=some (I4 ak):=ze c.o 3;have S:W.cell? ⟨f,4,none⟩=some (I4 an):=ze c.o 4;have R:W.cell? ⟨f,5,none⟩=some (.int .u8 ao):=ze c.o 5;have P:W.cell? ⟨f,6,none⟩=some (.slice F am E):=ze c.o 6;have O:W.cell? ⟨f,7,none⟩=some (I4 bk):=ze c.o 7;have N:W.cell? ⟨f,8,none⟩=some (I4 bn):=ze c.o 8
 have M:W.cell? ⟨f,9,none⟩=some (.int .u8 bo):=ze c.o 9;have y:W.cell? ⟨f,10,none⟩=some (.slice D bm C):=ze c.o 10;have u:W.cell? ⟨f,11,none⟩=some (I4 t):=ze c.o 11;go_wp2_with fail
 refine(Q.o _ g.o).mono ?_
 rintro e s ⟨rfl,i⟩;have G:=qh (zy g.o i);clear i q p m l X V U T S R P O N M y u;go_wp2_with fail
 go_ret;exact⟨by first|rfl|simp,G.o⟩
theorem zhr (w:World) (c:zG) (tv:Value) (d:Nat) (h:yP d w tv c.threads):Calls Tryz.prog 61 #[yj c tv] w λe T=>e= .returned (.bool (codeOk c))/\Below w.heap.size w T:=by
 obtain⟨Y,tc,rfl,D⟩:=zh.slice h;obtain⟨vars,dom,ts⟩:=c;simp only [] at h D ⊢;obtain⟨n,P⟩:=qxE ts.length;obtain⟨r,s⟩:=qxE (codeOk ⟨vars,dom,ts⟩);have E:r=(decide (1<=vars) && decide (vars<=4) && decide (2<=dom) && decide (dom<=16) && decide (1<=n) && decide (n<=4) && ts.all (rowOk vars dom)):=by rw [s,P];rfl
 rw [<-s];unfold yj;simp only [];rw [<-P] at h D ⊢;have hA:=(Below.refl w.heap.size w).alloc (Nat.le_refl _) (.cells #[I4 vars,I4 dom, .slice Y n tc] 25);have f:=qh hA;have N:=qh (zQ w (.cells #[I4 vars,I4 dom, .slice Y n tc] 25));have HT:=qh (zh.below (xV.stays d) h hA);have t:=qh E;have S:=qh P;clear h hA s E P;go_enter Tryz.func61,Tryz.ntmps61
 go_upto_region 1 with fail
 generalize World.alloc w _=W at f N HT ⊢;obtain⟨I,F⟩:=qxE w.heap.size;rw [<-F] at N ⊢;clear F;have HC:J2 (∀x,Below W.heap.size W x->K3 x I 0 (I4 vars)/\K3 x I 1 (I4 dom)/\K3 x I 2 (.slice Y n tc)):=λx hx=>⟨zl hx _ _ (ze N.o 0),zl hx _ _ (ze N.o 1),zl hx _ _ (ze N.o 2)⟩;obtain⟨R,c1,c2⟩:=HC.o W (Below.refl _ _);by_cases hv:1<=vars/\vars<=4
 rotate_left
 ·obtain rfl:r=false:=by
   have:(decide (1<=vars) && decide (vars<=4))=false:=by simp;omega
   rw [t.o,this];simp
  clear t;by_cases V:vars<1
  ·clear hv;go_wp2_with fail
   go_ret;exact⟨by first|rfl|simp,f.o⟩
  have U:4<vars:=by omega
  clear hv;go_wp2_with fail
  go_ret;exact⟨by first|rfl|simp,f.o⟩
 by_cases hd:2<=dom/\dom<=16
 rotate_left
 ·obtain rfl:r=false:=by
   have:(decide (2<=dom) && decide (dom<=16))=false:=by simp;omega
   rw [t.o,Bool.and_assoc (decide (1<=vars) && decide (vars<=4)),this];simp
  clear t;obtain⟨V,U⟩:=hv;have C:¬vars<1:=by omega
  have B:¬4<vars:=by omega
  by_cases d1:dom<2
  ·clear hd;go_wp2_with fail
   go_ret;exact⟨by first|rfl|simp,f.o⟩
  have d2:16<dom:=by omega
  clear hd;go_wp2_with fail
  go_ret;exact⟨by first|rfl|simp,f.o⟩
 by_cases ht:1<=n/\n<=4
 rotate_left
 ·obtain rfl:r=false:=by
   have:(decide (1<=n) && decide (n<=4))=false:=by simp;omega
   rw [t.o,Bool.and_assoc (decide (1<=vars) && decide (vars<=4) && decide (2<=dom) && decide (dom<=16)),this];simp
  clear t;obtain⟨V,U⟩:=hv;obtain⟨d1,d2⟩:=hd;have C:¬vars<1:=by omega
  have B:¬4<vars:=by omega
  have d1n:¬dom<2:=by omega
  have d2n:¬16<dom:=by omega
  by_cases n1:n=0
  ·subst n1;clear ht;go_wp2_with fail
   go_ret;exact⟨by first|rfl|simp,f.o⟩
  have Q:¬(n:Int)<1:=by omega
  have K:(4:Int)<(n:Int):=by omega
  clear ht;go_wp2_with fail
  go_ret;exact⟨by first|rfl|simp,f.o⟩
 have b:J2 (r=ts.all (rowOk vars dom)):=by rw [J2,t.o];simp [hv.1,hv.2,hd.1,hd.2,ht.1,ht.2]
 clear t;obtain⟨V,U⟩:=hv;obtain⟨d1,d2⟩:=hd;obtain⟨n1,n2⟩:=ht;have C:¬vars<1:=by omega
 have B:¬4<vars:=by omega
 have d1n:¬dom<2:=by omega
 have d2n:¬16<dom:=by omega
 have Q:¬(n:Int)<1:=by omega
 have K:¬(4:Int)<(n:Int):=by omega
 go_wp2_with fail
 clear R c1 c2;go_loopg [4,38] n (λgg s4 Z wr=>∃i:Nat,i<=n/\J2 (gg=n - i)/\Z=I4 i/\J2 (Below W.heap.size W wr)/\J2 (∀j,j<i->rowOk vars dom (ts.getD j [])=true))
 case atStart=>exact⟨0,Nat.zero_le _,rfl,rfl,Below.refl _ _,λj k=>by omega⟩
 case round=>
 obtain⟨i,hi,HG,rfl,O,HJ⟩:=hrel;by_cases hlt:i<n
 rotate_left
 ·obtain rfl:n=i:=by omega
  obtain rfl:r=true:=by rw [b.o];exact zeS ts [] (rowOk vars dom) (λj k=>HJ.o j (by rw [S.o];exact k))
  clear b;go_wp2_with fail
  go_ret;exact⟨by first|rfl|simp,f.o.trans (O.o.mono f.o.size)⟩
 have vC:(i:Int)<(n:Int):=by omega
 obtain⟨eb,eo,ka,kc,rfl,heb,p,m⟩:=yP.part HT.o i (by rw [<-S.o];exact hlt);obtain⟨l,hl⟩:=qxE (ts.getD i [] );rw [<-hl] at p m;obtain⟨g,v⟩:=qxE l.length;rw [<-v] at p m;have e0:=zl O.o _ _ p;have HL:=qh hl;have z:=qh v;have HEL:=qh m;have HA:=qh ((Below.refl wr.heap.size wr).alloc (Nat.le_refl _) (.cells #[.slice ka g kc] 95));have HX:=qh (zQ wr (.cells #[.slice ka g kc] 95));clear hl v p m heb;go_upto_region 6 with fail
 generalize World.alloc wr _=X at HA HX ⊢;obtain⟨gl,G⟩:=qxE wr.heap.size;rw [<-G] at HX ⊢;clear G e0;have y:J2 (Below W.heap.size W X):=O.o.trans (HA.o.mono O.o.size);have R:X.cell? ⟨gl,0,none⟩=some (.slice ka g kc):=ze HX.o 0;by_cases h6:g<=600
 rotate_left
 ·have h6n:(600:Int)<(g:Int):=by omega
  obtain rfl:r=false:=by
   rw [b.o];refine zcj ts [] (rowOk vars dom) i (by rw [<-S.o];exact hlt) ?_;rw [<-HL.o];unfold rowOk;rw [<-z.o,decide_eq_false h6];rfl
  clear b h6;go_wp2_with fail
  go_ret;exact⟨by first|rfl|simp,f.o.trans (y.o.mono f.o.size)⟩
 have h6n:¬(600:Int)<(g:Int):=by omega
 have q:Calls Tryz.prog 89 #[.slice ka l.length kc, .func (.func 90) #[] #[.pointer (some ⟨I,0,none⟩), .pointer (some ⟨gl,0,none⟩)]] X λe T=>e= .returned (.bool ((List.range l.length).any λj=> !qH vars dom g (l.getD j default)))/\Below X.heap.size X T:=
  zhd (vY d) (vY.stays d) X _ l (by have:=zh.below (vY.stays d) HEL.o y.o;rw [z.o] at this;exact this) 90 #[] _ _ (λ_ _=>rfl)
   (λj k W' cs hcl ⟨qa,qb,q1,q2,q3⟩ hW'=>by
    subst q1;obtain⟨p0,p1,p2⟩:=HC.o W' (y.o.trans (hW'.mono y.o.size));exact zoR W' vars dom _ n tc _ qa qb d q2 q3 I gl ka g kc p0 p1 p2 (zl hW' _ _ R))
 obtain⟨ro,u⟩:=qxE (rowOk vars dom l)
 have A:((List.range l.length).any λj=> !qH vars dom g (l.getD j default))= !ro:=by
  rw [u];unfold rowOk;rw [<-z.o,decide_eq_true h6,Bool.true_and];by_cases ha:l.all (qH vars dom g)=true
  ·rw [ha];refine any_none λj k=> ?_
   rw [List.all_eq_true.1 ha _ (jF (by rw [<-z.o];exact k))];rfl
  rw [Bool.not_eq_true] at ha;rw [ha];obtain⟨x,hx,a⟩:=List.all_eq_false.1 ha;obtain⟨j,k,rfl⟩:=List.getElem_of_mem hx;refine zdN j (by rw [z.o];exact k) ?_;rw [List.getD_eq_getElem?_getD,List.getElem?_eq_getElem k];simpa using a
 rw [A] at q;rw [<-z.o] at q;have L:=qh q;have J:=qh u;clear q u A;go_wp2_with fail
 refine L.o.mono ?_
 rintro e w2 ⟨rfl,H⟩;have M:J2 (Below W.heap.size W w2):=y.o.trans (H.mono y.o.size);clear H L R;cases ro with
 |true=>
  go_wp2_with fail
  go_roundg (n - (i+1))
  case measure=>rw [HG.o];omega
  case rel=>exact⟨i+1,by omega,rfl,by simp,M.o,λj k=>by
   by_cases he:j=i
   ·subst he;rw [<-HL.o];exact J.o.symm
   exact HJ.o j (by omega)⟩
 |false=>
 obtain rfl:r=false:=by rw [b.o];exact zcj ts [] (rowOk vars dom) i (by rw [<-S.o];exact hlt) (by rw [<-HL.o];exact J.o.symm)
 clear b;go_wp2_with fail
 go_ret;exact⟨by first|rfl|simp,f.o.trans (M.o.mono f.o.size)⟩
