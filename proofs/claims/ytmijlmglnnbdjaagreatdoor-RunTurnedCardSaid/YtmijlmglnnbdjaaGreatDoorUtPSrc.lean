/- Steps. -/
import Derived.Deep.RegionLaw
import Derived.LoopIn
import Derived.LoopNIn
import Derived.OwnWalkIn
import Derived.RangeFuncBound
import Derived.RangeFuncNested
import Derived.Shelf.RegionOpen
import Derived.Test.YtmijlmglnnbdjaaGreatDoorUtOwnS
set_option linter.all false
namespace Go.Proofs.YtmijlmglnnbdjaaGreatDoor
open Go.RowKit
set_option maxRecDepth 100000
set_option maxHeartbeats 16000000
def SrcOf (w:World) (sv:Value) (n size:Nat) (xs:List Value):Prop:=∃a cap,sv= .slice a n cap/\xs.length=n*size/\(a=none->n=0)/\∀A,a=some A->∀j u,xs[j]? =some u->w.cell? (A.add j)=some u
theorem SrcOf.below {w c:World} {sv:Value} {n size:Nat} {xs:List Value} (h:SrcOf w sv n size xs) (f:Below w.heap.size w c):SrcOf c sv n size xs:=by
 obtain⟨a,b,m,l,k,i⟩:=h;exact⟨a,b,m,l,k,λA g j u d=>zl f _ _ (i A g j u d)⟩
theorem SrcOf.of_slice {α:Type} [Inhabited α] {R:World->α->List Value->Prop} {size:Nat} {f:α->List Value} (n:0<size) (i:∀x,(f x).length=size) (p:∀w x cs,R w x cs->cs=f x) {w:World} {sv:Value} {l:List α} (h:zh R size w sv l):SrcOf w sv l.length size (zx f l):=by
 obtain⟨a,m,rfl, -⟩:=zh.slice h;refine⟨a,m,rfl,wK i l,λe=> ?_,λA q j u g=> ?_⟩
 ·subst e;rcases Nat.eq_zero_or_pos l.length with c|c
  ·exact c
  obtain⟨b,d,cs,k, -⟩:=zh.part h 0 c;cases k
 subst q
 have o:0<l.length:=by
  rcases Nat.eq_zero_or_pos l.length with c|c
  ·rw [List.getElem?_eq_none (by rw [wK i,c];omega)] at g;cases g
  exact c
 obtain⟨b,d,cs,k, -⟩:=zh.part h 0 o;cases k
 exact zh.news n i p h j u g
theorem zyt {n:Nat} {P:Nat->Value->Prop} (h:∀j,j<n->∃v,P j v):∃l:List Value,l.length=n/\∀j,j<n->P j (l.getD j (N7)):=by
 induction n with
 |zero=>exact⟨[],rfl,λj b=>by omega⟩
 |succ n ih=>
 obtain⟨l,c,f⟩:=ih λj b=>h j (by omega);obtain⟨v,d⟩:=h n (by omega);refine⟨l++ [v],by simp [c],λj b=> ?_⟩
 rw [uQ (by omega)];by_cases e:j=n
 ·subst e;rw [if_pos c.symm];exact d
 rw [if_neg (by omega)];exact f j (by omega)
theorem SrcOf.threads {w:World} {sv:Value} {l:List zD} (h:qR w sv l):∃bs:List Value,bs.length=l.length/\SrcOf w sv l.length 6 (yu l bs)/\(∀j,j<l.length->(l.getD j default).regs.length=4/\zX w (bs.getD j (N7)) (l.getD j default).buf)/\∀u∈yu l bs,u.oneCell'=true:=by
 obtain⟨a,t,rfl, -⟩:=zh.slice h
 obtain⟨bs,C,g⟩:=zyt (n:=l.length) (P:=λj v=>(l.getD j default).regs.length=4/\zX w v (l.getD j default).buf/\∃b c,a=some ⟨b,c,none⟩/\∀i,i<6->w.cell? ⟨b,c+j*6+i,none⟩=((l.getD j default).cells v)[i]?) λj d=>by
  obtain⟨b,c,cs,G, -,J,F,k,I,o,E⟩:=zh.part h j d;subst o;exact⟨I,k,E,b,c,G,F⟩
 refine⟨bs,C,⟨a,t,rfl,uF l bs,λe=> ?_,λA D j u d=> ?_⟩,λj d=>⟨(g j d).1,(g j d).2.1⟩,λu y=> ?_⟩
 ·subst e;rcases Nat.eq_zero_or_pos l.length with p|p
  ·exact p
  obtain⟨-, -,b,c,k, -⟩:=g 0 p;cases k
 ·subst D
  have B:j<l.length*6:=by
   rcases Nat.lt_or_ge j (l.length*6) with e|e
   ·exact e
   rw [List.getElem?_eq_none (by rw [uF];exact e)] at d;cases d
  obtain⟨q,r,f,m,rfl⟩:∃q r,q<l.length/\r<6/\j=q*6+r:=⟨j / 6,j % 6,by omega,by omega,by omega⟩;rw [je f m] at d;obtain⟨-, -,b,c,k,o⟩:=g q f;cases k
  rw [show(⟨b,c,none⟩:Addr).add (q*6+r)=⟨b,c+q*6+r,none⟩ by
   simp only [Addr.add];split
   ·rename_i h;rw [show c+q*6+r=c by omega]
   rw [Nat.add_assoc],o r m]
  exact d
 obtain⟨j,d,rfl⟩:=List.getElem_of_mem y;rw [uF] at d;obtain⟨q,r,f,m,rfl⟩:∃q r,q<l.length/\r<6/\j=q*6+r:=⟨j / 6,j % 6,by omega,by omega,by omega⟩;have e:=je (bs:=bs) f m;rw [List.getElem?_eq_getElem (by rw [uF];omega)] at e
 have z:=List.mem_of_getElem? e.symm;refine zqm ?_ _ z
 obtain⟨L,x,H, -⟩:=zh.slice (g q f).2.1;rw [H];rfl
theorem zkn {w:World} {B:Nat} {sv:Value} {l:List zD} {bs:List Value} (h:w.ownsRow B 75 6 sv l.length (yu l bs)) (c:∀j,j<l.length->(l.getD j default).regs.length=4/\zX w (bs.getD j (N7)) (l.getD j default).buf):qR w sv l:=
 zh.jB h λj b=>⟨(l.getD j default).cells (bs.getD j (N7)),wI _ _,λ_ d=>je b d,(c j b).1,_,rfl,(c j b).2⟩
theorem zad {P:Program} (w:World) {F:Array Oper} {rest:List Oper} {o:Oper} {a:Act} {Q:Exit->Act->World->Prop} (I:o.guard=none) (s x:Operand) (t:TypeId)
  (X:o.op= .call { callee:= .builtin .append,args:= #[s,x],argTypes:= #[t,t] })
  (e:TypeId) (z:Value) (size bytes:Nat) (T:P.underlying t=some (.slice e)) (l:(P.info? e).map (λi=>(i.zero,i.size,i.bytes))=some (some z,size,bytes)) (R:z.cells.size=size) (U:0<size)
  (base:Nat) (v:Value) (n:Nat) (xs:List Value) (W:a.eval s=v) (f:w.ownsRow base e size v n xs)
  (sv:Value) (m:Nat) (news:List Value) (hx:a.eval x=sv) (G:SrcOf w sv m size news) (Z:∀u∈news,u.oneCell'=true)
  (J:n+m<=maxLen) (g:(n+m)*bytes<=140737488355328) (B:base<=w.heap.size)
  (h:∀L b E,E.ownsRow base e size (.slice L (n+m) b) (n+m) (xs++news)->b<=9223372036854775807->n+m<=b->Since (λk=>v.ownBlock=some k) w E->
   (∀k,(Value.slice L (n+m) b).ownBlock=some k->v.ownBlock=some k\/k=w.heap.size)->wpList P F Q rest (a.put o.dst (.slice L (n+m) b)) E):wpList P F Q (o::rest) a w:=by
 obtain⟨ad,c,rfl,V,q,j⟩:=G;cases ad with
 |some A=>
  obtain⟨i,O,S,d,y⟩:=info_parts l;obtain⟨v',E,N,Y,h3,h4⟩:=run_append_own (P:=P) w base t o.type e i z size bytes T O S d y R U v n xs f A m c news V (j A rfl) Z J g B;have D:=zb5 T O S d y f V (j A rfl) Z J g N;obtain⟨L,b,rfl,p,r⟩:=xS Y;refine wpList_plain I λ_ hK=> ?_
  unfold Oper.wp execOp;simp only [X,resolve,invoke,builtin,Sem.run_bind,Sem.run_pure,Result.andThen_ok,List.map_toArray,List.map_cons,List.map_nil,W,hx,N];refine hK _ _ (h L b E Y (by unfold maxLen at r;omega) p ((Since.refl _ _).grown h3 (λk H=> .inl H)) (λk H=> ?_))
  rw [H] at D;rcases D with D|D
  ·exact .inl D.symm
  exact .inr (by simpa using D)
 |none=>
 have hm:=q rfl;subst hm;have K:news= [] :=List.eq_nil_of_length_eq_zero (by simpa using V);subst K;obtain⟨i,O,S,d,y⟩:=info_parts l;obtain⟨M,C,rfl,p,r⟩:=xS f
 have N:(Builtin.append_ #[t,t] o.type #[.slice M n C, .slice none 0 c]).run P w= .ok (.slice M n C) w:=by
  cases M<;>simp [Builtin.append_,run_underlying T,sizeOf,typeInfo,O,Builtin.lenOf,Builtin.firstCells,p,storeCells]
 refine wpList_plain I λ_ hK=> ?_
 unfold Oper.wp execOp;simp only [X,resolve,invoke,builtin,Sem.run_bind,Sem.run_pure,Result.andThen_ok,List.map_toArray,List.map_cons,List.map_nil,W,hx,N];exact hK _ _ (h M C w (by rw [List.append_nil];exact f) (by unfold maxLen at r;omega) p (Since.refl _ _) (λk H=> .inl H))
theorem zjQ {P:Program} (w:World) (t G:TypeId) (e:TypeId) (z:Value) (size bytes:Nat) (O:P.underlying t=some (.slice e)) (r:(P.info? e).map (λi=>(i.zero,i.size,i.bytes))=some (some z,size,bytes)) (x:z.cells.size=size) (y:0<size)
  (H:Option Addr) (n:Nat) (f:List Value) (A:SrcOf w (.slice H n n) n size f)
  (F:Addr) (m c:Nat) (news:List Value) (R:news.length=m*size) (o:∀j u,news[j]? =some u->w.cell? (F.add j)=some u) (Z:∀u∈news,u.oneCell'=true) (Q:0<m)
  (E:n+m<=maxLen) (g:(n+m)*bytes<=140737488355328):
  ∃I d h,(Builtin.append_ #[t,t] G #[.slice H n n, .slice (some F) m c]).run P w= .ok (.slice I (n+m) d) h/\h.ownsRow w.heap.size e size (.slice I (n+m) d) (n+m) (f++news)/\d<=9223372036854775807/\n+m<=d/\Since (λ_=>False) w h:=by
 obtain⟨i,S,N,l,D⟩:=info_parts r;obtain⟨K,U,X,C,q,p⟩:=A;cases X
 have J:∃v h,(Builtin.append_ #[t,t] G #[.slice H n n, .slice (some F) m c]).run P w= .ok v h/\h.ownsRow w.heap.size e size v (n+m) (f++news)/\w.grownBy h none:=by
  cases H with
  |some b=>exact run_append_arg_grows (P:=P) w t G e i z size bytes O S N l D x y b n n f C (p b rfl) F m c news R o (by omega) E g
  |none=>
  obtain rfl:=q rfl;obtain rfl:f= [] :=List.eq_nil_of_length_eq_zero (by simpa using C);obtain⟨v,h,B,r1,r2, -⟩:=run_append_own (P:=P) w w.heap.size t G e i z size bytes O S N l D x y (N7) 0 [] (World.ownsRow_nil w _ e size) F m c news R o Z E g (Nat.le_refl _);exact⟨v,h,B,r1,r2⟩
 obtain⟨v,h,V,T,Y⟩:=J;obtain⟨I,d,rfl,M,L⟩:=xS T;exact⟨I,d,h,V,T,by unfold maxLen at L;omega,M,(Since.refl _ _).grown Y (λk W=>by cases W)⟩
theorem zc5 {P:Program} (w:World) {p:Array Oper} {o:Oper} {a:Act} {K:Act->World->Prop} {Q:Exit->Act->World->Prop} {E:Prop} (D:Region.wanted o (yielded p a.tmps)=true) (s x:Operand) (t:TypeId)
  (I:o.op= .call { callee:= .builtin .append,args:= #[s,x],argTypes:= #[t,t] })
  (e:TypeId) (z:Value) (size bytes:Nat) (F:P.underlying t=some (.slice e)) (k:(P.info? e).map (λi=>(i.zero,i.size,i.bytes))=some (some z,size,bytes)) (v:z.cells.size=size) (y:0<size)
  (B:Option Addr) (n:Nat) (d:List Value) (G:a.eval s= .slice B n n) (q:SrcOf w (.slice B n n) n size d)
  (C:Addr) (m c:Nat) (news:List Value) (hx:a.eval x= .slice (some C) m c) (L:news.length=m*size) (g:∀j u,news[j]? =some u->w.cell? (C.add j)=some u) (S:∀u∈news,u.oneCell'=true) (J:0<m)
  (A:n+m<=maxLen) (f:(n+m)*bytes<=140737488355328)
  (h:∀r b l,l.ownsRow w.heap.size e size (.slice r (n+m) b) (n+m) (d++news)->b<=9223372036854775807->n+m<=b->Since (λ_=>False) w l->K (a.put o.dst (.slice r (n+m) b)) l):
  if Region.wanted o (yielded p a.tmps)=true then Oper.wp P o a w K Q else E:=by
 rw [if_pos D];obtain⟨r,b,l,H,R,O,N,M⟩:=zjQ (P:=P) w t o.type e z size bytes F k v y B n d q C m c news L g S J A f;unfold Oper.wp execOp;simp only [I,resolve,invoke,builtin,Sem.run_bind,Sem.run_pure,Result.andThen_ok,List.map_toArray,List.map_cons,List.map_nil,G,hx,H];exact h r b l R O N M
theorem row_zero {X:World} {B m c:Nat} {e:TypeId} {size:Nat} {a:Option Addr} {xs:List Value} (h:X.ownsRow B e size (.slice a (0+m) c) (0+m) ([] ++xs)):X.ownsRow B e size (.slice a m c) m xs:=by simpa using h
theorem gB {X:World} {B g size n:Nat} {e:TypeId} {cs:List Value} (h:X.heap[g]? =some (.cells cs.toArray e (0,0))) (d:B<=g) (b:cs.length=n*size) (c:n<=maxLen):X.ownsRow B e size (.slice (some ⟨g,0,none⟩) n n) n cs:=
 ⟨b, .inr ⟨g,n,cs.toArray,rfl,d,h,Nat.le_refl _,c,by simp [b],by rw [List.take_of_length_le (by simp [b])]⟩⟩
theorem znQ (w:World) (a:Option Addr) (n c:Nat) (f:n<=c):Calls Tryz.prog 156 #[.slice a n c] w λe b=>e= .returned (.slice a n n)/\b=w:=by
 have g:¬((n:Int)<0):=by omega
 cases a with
 |none=>
  go_enter Tryz.func156,Tryz.ntmps156
  go_wp2_with fail
  go_ret;exact⟨by first|rfl|simp,rfl⟩
 |some a=>
 obtain⟨i,h,d⟩:=a;go_enter Tryz.func156,Tryz.ntmps156
 go_wp2_with fail
 go_ret;exact⟨by first|rfl|simp,rfl⟩
theorem zjR {a b c:World} (h:Below a.heap.size a b) (k:Since (λ_=>False) b c):Below a.heap.size a c:=h.trans (k.below h.size (λ_ d=>d.elim))
theorem wW (w:World) (o:Obj):Below w.heap.size w (w.drew.alloc o):=(Below.refl _ _).drew.alloc (Nat.le_refl _) o
theorem zmR (w:World) (bv:Value) (l:List zq) (h:zX w bv l) (hl:l.length<=1000000) (m:zC) (x:zq):
  Calls Tryz.prog 126 #[bv,yE m,x.val] w λe w'=>(∃bJ,e= .returned (.tuple #[bJ, .bool (qM l m x)])/\zX w' bJ (jQ l m x)/\(qM l m x=true->w'.ownsRow w.heap.size 116 2 bJ (jQ l m x).length (zx zq.cells (jQ l m x))))/\Below w.heap.size w w':=by
 obtain⟨M,bc,rfl, -⟩:=zh.slice h;obtain⟨n,hn⟩:=qxE l.length;obtain⟨d,mb⟩:=m;obtain⟨b,f⟩:=x;obtain⟨p,hp⟩:∃p:zq->Bool,p=(λy=>decide (d=1)||decide (y.var=b)):=⟨_,rfl⟩;obtain⟨T,r⟩:=qxE (qM l ⟨d,mb⟩ ⟨b,f⟩);have u:T=((decide (d=1)||decide (d=2)) && decide ((l.countP p:Int)<mb)):=by rw [r,hp];rfl
 have U:jQ l ⟨d,mb⟩ ⟨b,f⟩=if T then l++ [⟨b,f⟩] else l:=by rw [r];rfl
 rw [<-r,U];rw [<-hn] at h hl ⊢;have q:=h.room;rw [<-hn] at q;have z7z:=qh q;have L:=qh u;have HP:=qh hp;have HN:=qh hn;clear r u U hp hn q;have C:=xK w (.cells #[I4 d,I4 mb] 30) (.cells #[I4 b,I4 f] 116);have HB:=qh C;have HM:=qh (xA w (.cells #[I4 d,I4 mb] 30) (.cells #[I4 b,I4 f] 116));have s:=qh (xq w (.cells #[I4 d,I4 mb] 30) (.cells #[I4 b,I4 f] 116));have HL:=qh (zX.below h C);clear h C;unfold yE zq.val;simp only [];go_enter Tryz.func126,Tryz.ntmps126
 go_upto_region 1 with fail
 generalize World.alloc (World.alloc w _) _=W at HB HM s HL ⊢;obtain⟨gx,V⟩:=qxE w.heap.size;rw [<-V] at HM s ⊢;clear V
 have HC:J2 (∀x,Below W.heap.size W x->K3 x gx 0 (I4 d)/\K3 x gx 1 (I4 mb)/\K3 x (gx+1) 0 (I4 b)/\K3 x (gx+1) 1 (I4 f)):=λx hx=>
  ⟨zl hx _ _ (ze HM.o 0),zl hx _ _ (ze HM.o 1),zl hx _ _ (ze s.o 0),zl hx _ _ (ze s.o 1)⟩
 clear HM s;go_wp2_with fail
 go_loopg [8,10,13] n (λgg s8 s10 s13 wr=>∃i c:Nat,i<=n/\J2 (gg=n - i)/\s8=I4 c/\s13=I4 i/\J2 (c=(l.take i).countP p)/\c<=i/\J2 (Below W.heap.size W wr))
 case atStart=>exact⟨0,0,Nat.zero_le _,rfl,rfl,rfl,by simp [J2],Nat.le_refl _,Below.refl _ _⟩
 case round=>
 obtain⟨i,c,hi,HG,rfl,rfl,I,hci,t⟩:=hrel;by_cases hlt:i<n
 ·have vC:(i:Int)<(n:Int):=by omega
  obtain⟨eb,eo,yI, -,B,A⟩:=HL.o.part i (by rw [<-HN.o];exact hlt);subst yI;obtain⟨D,z⟩:=qxE ((l.getD i default).var);obtain⟨en,Z⟩:=qxE ((l.getD i default).n);rw [<-z] at B;rw [<-Z] at A;have e1:=zl t.o _ _ B;have e2:=zl t.o _ _ A;have v:=zjI (l:=l) (i:=i) (by rw [<-HN.o];exact hlt) p;rw [<-I.o] at v;have E:=qh v;have F:J2 (p (l.getD i default)=(decide (d=1)||decide (D=b))):=by rw [J2,HP.o,z]
  have HA:=qh ((Below.refl wr.heap.size wr).alloc (Nat.le_refl _) (.cells #[I4 D,I4 en] 116));have HY:=qh (zQ wr (.cells #[I4 D,I4 en] 116));clear B A z Z v;go_upto_region 5 with fail
  generalize World.alloc wr _=X at HA HY ⊢;obtain⟨gl,Y⟩:=qxE wr.heap.size;rw [<-Y] at HY ⊢;clear Y e1 e2;have yh:J2 (Below W.heap.size W X):=t.o.trans (HA.o.mono t.o.size);have d0:X.cell? ⟨gl,0,none⟩=some (I4 D):=ze HY.o 0;obtain⟨c0,c1,c2,c3⟩:=HC.o X yh.o;clear HY HA;by_cases g:d=1
  ·have a1b:((d:Int)==1)=true:=by simp [g]
   have S:J2 (c+1=(l.take (i+1)).countP p):=by rw [J2,E.o,F.o,g];simp
   have A1:=qh g;clear g;go_wp2_with fail
   go_roundg (n - (i+1))
   case measure=>rw [HG.o];omega
   case rel=>exact⟨i+1,c+1,by omega,rfl,by simp,by simp,S.o,by omega,yh.o⟩
  have a1b:((d:Int)==1)=false:=by simp [g]
  have A1:=qh g;clear g;by_cases a2:D=b
  ·have a2b:((D:Int)==b)=true:=by simp [a2]
   have S:J2 (c+1=(l.take (i+1)).countP p):=by rw [J2,E.o,F.o,a2];simp
   clear a2;go_wp2_with fail
   go_roundg (n - (i+1))
   case measure=>rw [HG.o];omega
   case rel=>exact⟨i+1,c+1,by omega,rfl,by simp,by simp,S.o,by omega,yh.o⟩
  have a2b:((D:Int)==b)=false:=by simp [a2]
  have A2:=qh a2;have S:J2 (c=(l.take (i+1)).countP p):=by rw [J2,E.o,F.o];simp [A1.o,A2.o]
  clear a2;go_wp2_with fail
  go_roundg (n - (i+1))
  case measure=>rw [HG.o];omega
  case rel=>exact⟨i+1,c,by omega,rfl,rfl,by simp,S.o,by omega,yh.o⟩
 obtain rfl:n=i:=by omega
 obtain⟨c0,c1,c2,c3⟩:=HC.o wr t.o;have K:c=l.countP p:=by rw [I.o,HN.o,List.take_length]
 have P:=qh K;have bK:=qh (zX.below HL.o t.o);have k:=qh (HB.o.trans (t.o.mono HB.o.size));clear K HP I;by_cases a2:(c:Int)<mb
 rotate_left
 ·obtain rfl:T=false:=by
   rw [L.o, <-P.o];simp [a2]
  clear L P;go_wp2_with fail
  go_ret2
  exact⟨⟨_,by first|rfl|simp,by simpa using bK.o⟩,k.o⟩
 have a2n:¬mb<=(c:Int):=by omega
 by_cases g:d=1\/d=2
 rotate_left
 ·obtain rfl:T=false:=by
   rw [L.o];have b1:decide (d=1)=false:=decide_eq_false (λe=>g (.inl e));have b2:decide (d=2)=false:=decide_eq_false (λe=>g (.inr e));rw [b1,b2];rfl
  have b1:((d:Int)==1)=false:=by rw [beq_eq_false_iff_ne];exact λe=>g (.inl e)
  have b2:((d:Int)==2)=false:=by rw [beq_eq_false_iff_ne];exact λe=>g (.inr e)
  have b3:((d:Int) !=1)=true:=by rw [bne_iff_ne];exact λe=>g (.inl e)
  have b4:((d:Int) !=2)=true:=by rw [bne_iff_ne];exact λe=>g (.inr e)
  clear L P g;go_wp2_with fail
  go_ret2
  exact⟨⟨_,by first|rfl|simp,by simpa using bK.o⟩,k.o⟩
 obtain rfl:T=true:=by rw [L.o, <-P.o];rcases g with g|g<;>simp [g,a2]
 have O:J2 (∀X,Below wr.heap.size wr X->SrcOf X (.slice M n n) n 2 (zx zq.cells l)):=λX hX=>by
  have:=SrcOf.of_slice (R:=zaK) (by decide) gT (λ_ _ _ h=>h) (zX.below bK.o hX)
  rw [<-HN.o] at this;obtain⟨N,c',h1,h2,h3,h4⟩:=this;cases h1
  exact⟨M,n,rfl,h2,h3,h4⟩
 have yG:J2 (∀N j X,X.ownsRow (wr.drew.alloc (.cells #[I4 b,I4 f] 116)).heap.size 116 2 (.slice N (n+1) j) (n+1) (zx zq.cells l++ [I4 b,I4 f])->zX X (.slice N (n+1) j) (l++ [⟨b,f⟩])/\X.ownsRow w.heap.size 116 2 (.slice N (n+1) j) (l++ [(⟨b,f⟩:zq)]).length (zx zq.cells (l++ [⟨b,f⟩]))):=λN j X hX=>by
  have e1:(l++ [(⟨b,f⟩:zq)]).length=n+1:=by rw [List.length_append, <-HN.o];rfl
  have e2:zx zq.cells (l++ [⟨b,f⟩])=zx zq.cells l++ [I4 b,I4 f] :=by rw [kS];rfl
  have h3:X.ownsRow (wr.drew.alloc (.cells #[I4 b,I4 f] 116)).heap.size 116 2 (.slice N (n+1) j) (l++ [(⟨b,f⟩:zq)]).length (zx zq.cells (l++ [⟨b,f⟩])):=by rw [e1,e2];exact hX
  exact⟨wQ h3,xO h3 (k.o.trans ((wW wr _).mono k.o.size)).size⟩
 have k1:=z7z.o.1;clear L P bK HC HL t HB;rcases g with rfl|rfl
 ·go_upto_region 10 with fail
  go_region_law (first|(refine zc5 _ (by rfl) (.tmp 46) (.tmp 48) 73 rfl 116 (.agg #[I4 0,I4 0]) 2 16 Tryz.underlying73 xQ rfl (by decide) M n (zx zq.cells l) rfl (O.o _ (wW _ _)) ⟨wr.heap.size,0,none⟩ 1 1 [I4 b,I4 f] rfl rfl (zgY wr.drew _ _ _) (by simp [Value.oneCell']) (by decide) (by unfold maxLen;omega) (by omega) ?_;intro ra rc X a f2 f3 Q;have H:=qh a;have G:=qh Q;clear a f2 f3 Q)|(go_simp;go_at_call 156;refine(znQ _ M n bc k1).mono ?_;rintro e w2 ⟨rfl,rfl⟩))
  all_goals
   have J:J2 (Below w.heap.size w X):=k.o.trans ((zjR (wW wr _) G.o).mono k.o.size);go_wp2_with fail
   go_ret2
   have HE:=yG.o _ _ _ H.o;exact⟨⟨_,by first|rfl|simp,by simpa using HE.1,by simpa using HE.2⟩,J.o⟩
 go_upto_region 10 with fail
 go_region_law (first|(refine zc5 _ (by rfl) (.tmp 46) (.tmp 48) 73 rfl 116 (.agg #[I4 0,I4 0]) 2 16 Tryz.underlying73 xQ rfl (by decide) M n (zx zq.cells l) rfl (O.o _ (wW _ _)) ⟨wr.heap.size,0,none⟩ 1 1 [I4 b,I4 f] rfl rfl (zgY wr.drew _ _ _) (by simp [Value.oneCell']) (by decide) (by unfold maxLen;omega) (by omega) ?_;intro ra rc X a f2 f3 Q;have H:=qh a;have G:=qh Q;clear a f2 f3 Q)|(go_simp;go_at_call 156;refine(znQ _ M n bc k1).mono ?_;rintro e w2 ⟨rfl,rfl⟩))
 all_goals
  have J:J2 (Below w.heap.size w X):=k.o.trans ((zjR (wW wr _) G.o).mono k.o.size);go_wp2_with fail
  go_ret2
  have HE:=yG.o _ _ _ H.o;exact⟨⟨_,by first|rfl|simp,by simpa using HE.1,by simpa using HE.2⟩,J.o⟩
end Go.Proofs.YtmijlmglnnbdjaaGreatDoor
namespace Go.Proofs.YtmijlmglnnbdjaaGreatDoor
open Go.RowKit Go.Shelf
set_option maxRecDepth 100000
set_option maxHeartbeats 16000000
attribute [local go_sem] Oper.semAt_some
def upTo {α:Type} (f:Nat->α) (k:Nat):List α:=(List.range k).map f
theorem zdV {α:Type} (f:Nat->α) (k:Nat):upTo f (k+1)=upTo f k++ [f k] :=by simp [upTo,List.range_succ]
theorem zoI {α:Type} (f:Nat->α) (k:Nat):(upTo f k).length=k:=by simp [upTo]
def gV (l:List zq) (k:Nat):Int × zq:=((l.length:Int) - 1 - (k:Int),l.getD (l.length - 1 - k) default)
theorem zyu (n l F n0 c O:Nat) (a:Option Addr) (L:List zq) (m:c=L.length) (K:c<=1000000) (hn:1<=n) (J Z:List (Int × zq)->World->Prop)
  (w:∀d x W,J d W->d.length<c->YieldAt Fence.wide (n - 1) Tryz.prog l #[I4 x.1, .agg #[I4 x.2.var,I4 x.2.n]] W λe r=>
   (e= .returned (.bool true)/\J (d++ [x]) r/\Below n0 W r)\/(e= .returned (.bool false)/\Z (d++ [x]) r))
  (W:World) (M:W.cell? ⟨F,0,none⟩=some (.slice a c O)) (N:F<n0) (s:∀j,j<c->∃b f,a=some ⟨b,f,none⟩/\b<n0/\W.cell? ⟨b,f+j*2,none⟩=some (I4 (L.getD j default).var)/\W.cell? ⟨b,f+j*2+1,none⟩=some (I4 (L.getD j default).n)) (h0:J [] W):
  CallsIn Fence.wide n Tryz.prog 230 #[.func (.yield l) #[] #[], .pointer (some ⟨F,0,none⟩)] W λe r=>(∃v,e= .returned v)/\
   ((∃ys,ys=upTo (gV L) c/\J ys r)\/(∃d,(∃k,k<=c/\d=upTo (gV L) k)/\Z d r)):=by
 refine callsIn_of_wp Tryz.func230 rfl trivial ?_ rfl
 simp only [Tryz.ntmps230,List.size_toArray,List.length_cons,List.length_nil,Nat.reduceAdd,Nat.reduceSub,Array.replicate_succ,Array.replicate_zero,List.push_toArray,List.append_toArray,List.nil_append,List.cons_append];have P:=qh m;clear m;gi_wp2
 gi_loopw [3] (λi wr=>∃k:Nat,k<=c/\i=I4 ((c:Int) - 1 - k)/\J (upTo (gV L) k) wr/\Below n0 W wr)
  (λi _=>(intOf i+1).toNat)
 case atStart=>exact⟨0,Nat.zero_le _,by simp,h0,Below.refl _ _⟩
 case round=>
 obtain⟨k,hk,rfl,A,h⟩:=hrel;by_cases hlt:k<c
 rotate_left
 ·obtain rfl:c=k:=by omega
  have S:(c:Int) - 1 - (c:Int)= -1:=by omega
  rw [S];clear S;gi_wp2
  go_end0
  exact⟨⟨_,rfl⟩, .inl ⟨_,rfl,A⟩⟩
 obtain⟨q,T⟩:=qxE (c - 1 - k:Nat);have g:(c:Int) - 1 - (k:Int)=(q:Int):=by omega
 have G:q<c:=by omega
 obtain⟨b,f,rfl,U,X,V⟩:=s q G;have e0:=(h.cell (p:=⟨b,f+q*2,none⟩) U).trans X;have e1:=(h.cell (p:=⟨b,f+q*2+1,none⟩) U).trans V;clear X V;have eb:=(h.cell (p:=⟨F,0,none⟩) N).trans M;obtain⟨fn,R,E,Y,D,hR⟩:=w _ (gV L k) wr A (by rw [zoI];exact hlt);have y:gV L k=((q:Int),L.getD q default):=by unfold gV;rw [<-P.o,g, <-T]
 rw [y] at D;dsimp only at D
 obtain⟨ev,t⟩:=qxE ((L.getD q default).var);obtain⟨en,u⟩:=qxE ((L.getD q default).n);rw [<-t] at e0 D;rw [<-u] at e1 D;clear t u;rw [g];have Q:(q:Int)<(c:Int):=by omega
 have B:=qh (show wrap64 ((q:Int) - 1)=(q:Int) - 1 by unfold wrap64;omega)
 have C:=qh g;clear T g y;gi_wp2
 refine hR.mono ?_
 rintro e W3 (⟨rfl,I,H⟩|⟨rfl,z⟩)
 ·gi_wp2
  go_roundw
  case rel=>exact⟨k+1,by omega,by have:=C.o;have:=B.o;simp<;>omega,by rw [zdV];exact I,h.trans H⟩
  case measure=>have:=C.o;have:=B.o;simp [intOf] <;>omega
 gi_wp2
 refine bodyPost_ret (results_none rfl _ _ _) rfl ?_
 exact⟨⟨_,rfl⟩, .inr ⟨_,⟨k+1,by omega,(zdV _ _).symm⟩,z⟩⟩
theorem zrO (n d n0:Nat) (a:Option Addr) (g:Nat) (L:List zq) (h:L.length<=1000000) (t:1<=n) (w:World) (q:d<w.heap.size) (r:d<n0) (f:n0<=w.heap.size) (v:w.cell? ⟨d,0,none⟩=some (.slice a L.length g))
  (z:∀j,j<L.length->∃b c,a=some ⟨b,c,none⟩/\b<n0/\w.cell? ⟨b,c+j*2,none⟩=some (I4 (L.getD j default).var)/\w.cell? ⟨b,c+j*2+1,none⟩=some (I4 (L.getD j default).n)):
  SeqStopsK Fence.wide n Tryz.prog 230 #[.pointer (some ⟨d,0,none⟩)] (λx:Int × zq=> #[Value.int .i64 x.1,Value.agg #[Value.int .i64 x.2.var,Value.int .i64 x.2.n]]) (Below n0) (λys=>ys=upTo (gV L) L.length)
   (λi=>∃k,k<=L.length/\i=upTo (gV L) k) L.length w:=λl J D W o _ _ y A=>
 zyu n l d n0 L.length g a L rfl h t J D y W ((o.cell (p:=⟨d,0,none⟩) q).trans v) r (λj u=>by
  obtain⟨b,c,e,m,C,B⟩:=z j u;exact⟨b,c,e,m,(o.cell (p:=⟨b,c+j*2,none⟩) (Nat.lt_of_lt_of_le m f)).trans C,(o.cell (p:=⟨b,c+j*2+1,none⟩) (Nat.lt_of_lt_of_le m f)).trans B⟩) A
theorem z1r (n:Nat) (a:Option Addr) (b c:Nat) (w:World):
  CallsIn Fence.wide n Tryz.prog 222 #[.slice a b c] w λe d=>e= .returned (.func (.func 230) #[] #[.pointer (some ⟨w.heap.size,0,none⟩)])/\d=w.alloc (.cells #[.slice a b c] 73):=by
 refine callsIn_of_wp Tryz.func222 rfl trivial ?_ rfl
 simp only [Tryz.ntmps222,List.size_toArray,List.length_cons,List.length_nil,Nat.reduceAdd,Nat.reduceSub,Array.replicate_succ,Array.replicate_zero,List.push_toArray,List.append_toArray,List.nil_append,List.cons_append];gi_wp2
 go_ret;exact⟨rfl,rfl⟩
theorem znR (l:List zq) (v:Int):∀k,k<=l.length->(∀p∈upTo (gV l) k,p.2.var≠v)->uo l v=zax l v (l.length - k):=by
 intro k;induction k with
 |zero=>intro _ _;rfl
 |succ k ih=>
 intro i h;rw [zdV] at h;rw [ih (by omega) (λp g=>h p (List.mem_append.2 (.inl g)))];have b:=h (gV l k) (List.mem_append.2 (.inr (by simp)));obtain⟨q,f⟩:∃q,l.length - k=q+1:=⟨l.length - k - 1,by omega⟩;have d:l.length - (k+1)=q:=by omega
 have c:l.length - 1 - k=q:=by omega
 rw [f,d];unfold gV at b;rw [c] at b;rw [show zax l v (q+1)=if (l.getD q default).var=v then some (l.getD q default).n else zax l v q from rfl,if_neg b]
theorem zyv (l:List zq) (v:Int) (k:Nat) (f:k<l.length) (h:∀p∈upTo (gV l) k,p.2.var≠v) (b:(gV l k).2.var=v):uo l v=some (gV l k).2.n:=by
 rw [znR l v k (by omega) h];obtain⟨q,d⟩:∃q,l.length - k=q+1:=⟨l.length - k - 1,by omega⟩;have c:l.length - 1 - k=q:=by omega
 rw [d];unfold gV at b ⊢;rw [c] at b ⊢;rw [show zax l v (q+1)=if (l.getD q default).var=v then some (l.getD q default).n else zax l v q from rfl,if_pos b]
theorem zve (w:World) (bv:Value) (l:List zq) (h:zX w bv l) (hl:l.length<=1000000) (v:Int):
  Calls Tryz.prog 205 #[bv,I4 v] w λe w'=>e= .returned (.tuple #[I4 ((uo l v).getD 0), .bool (uo l v).isSome])/\Below w.heap.size w w':=by
 obtain⟨J,O,rfl, -⟩:=zh.slice h;have hI:∀j,j<l.length->∃b q,J=some ⟨b,q,none⟩/\b<w.heap.size/\w.cell? ⟨b,q+j*2,none⟩=some (I4 (l.getD j default).var)/\w.cell? ⟨b,q+j*2+1,none⟩=some (I4 (l.getD j default).n):=λj U=>h.part j U;refine(callsIn_wide (n:=8)).1 ?_
 refine callsIn_of_wp_marks Tryz.func205 rfl trivial ?_ rfl
 simp only [Tryz.ntmps205,List.size_toArray,List.length_cons,List.length_nil,Nat.reduceAdd,Nat.reduceSub,Array.replicate_succ,Array.replicate_zero,List.push_toArray,List.append_toArray,List.nil_append,List.cons_append];have hB:=zdc w (.cells #[I4 v] 3) (.cells #[I4 0] 3) (.cells #[.bool false] 4) (.cells #[.slice J l.length O] 73);obtain⟨u,b0,b1,b2,b3,S⟩:=hB;gi_wp2_with (refine⟨trivial, ?_⟩;gi_at_call 222;refine(z1r (8 - 1) _ _ _ _).mono ?_;rintro e w' ⟨rfl,rfl⟩)
 obtain⟨R,M⟩:∃R,(((w.alloc (.cells #[I4 v] 3)).alloc (.cells #[I4 0] 3)).alloc (.cells #[.bool false] 4)).alloc (.cells #[.slice J l.length O] 73)=R:=⟨_,rfl⟩;rw [M] at u b0 b1 b2 b3 S ⊢;clear M
 refine wpIn_rangeFunc_ownH rfl (by decide) (gf:=230) (lb:= #[.pointer (some ⟨w.heap.size+1+1+1,0,none⟩)]) rfl trivial (enters_of Tryz.func230 (by kernel_rfl) rfl)
  (zrO (8 - 1) (w.heap.size+3) (w.heap.size+4) J O l hl (by decide) R (by omega) (by omega) (by omega) (ze b3 0) (λj U=>by
   obtain⟨b,q,e,hb,f0,f1⟩:=hI j U;exact⟨b,q,e,by omega,zl u _ _ f0,zl u _ _ f1⟩)) belowK_t (belowK_b (by omega)) (Below.refl _ _) (λ_=>rfl)
  (λg W=>((∀p∈g,p.2.var≠v)/\Boxed W w.heap.size 3 (I4 v)/\Boxed W (w.heap.size+1) 3 (I4 0)/\Boxed W (w.heap.size+2) 4 (.bool false))/\Below (w.heap.size+4) R W)
  (λc g W=>(c= .ret/\∃t d,g=t++ [d] /\(∀p∈t,p.2.var≠v)/\d.2.var=v/\Boxed W (w.heap.size+1) 3 (I4 d.2.n)/\Boxed W (w.heap.size+2) 4 (.bool true))/\Below w.heap.size w W)
  (OwnFrom.and (λs X Y row A C B=>⟨A.1,boxed_own _ _ (λ(_:Unit)=>Value.int .i64 v) () X Y row A.2.1 C (λr e=>(B r e).2),boxed_own _ _ (λ(_:Unit)=>Value.int .i64 0) () X Y row A.2.2.1 C (λr e=>(B r e).2),boxed_own _ _ (λ(_:Unit)=>Value.bool false) () X Y row A.2.2.2 C (λr e=>(B r e).2)⟩) (ownFrom_below (by omega) (by omega)))
  (λc=>OwnFrom.and (λs X Y row A C B=>by
   obtain⟨V,t,d,N,e2,a,e4,Q⟩:=A;exact⟨V,t,d,N,e2,a,boxed_own _ _ (λ(_:Unit)=>Value.int .i64 d.2.n) () X Y row e4 C (λr e=>(B r e).2),boxed_own _ _ (λ(_:Unit)=>Value.bool true) () X Y row Q C (λr e=>(B r e).2)⟩) (ownFrom_below (Nat.le_refl _) (by omega)))
  ⟨⟨by simp,b0,b1,b2⟩,(Below.refl _ _)⟩
  (λx a' W=>∃y,w.heap.size+3<y/\W.heap[y]? =some (.cells #[I4 x.2.var,I4 x.2.n] 116 (0,0))/\a'= { tmps:= #[.slice J l.length O,I4 v,undef, .pointer (some ⟨w.heap.size,0,none⟩), .pointer (some ⟨w.heap.size+1,0,none⟩), .pointer (some ⟨w.heap.size+1+1,0,none⟩),undef, .pointer (some ⟨y,0,none⟩), .slice J l.length O, .func (.func 230) #[] #[.pointer (some ⟨w.heap.size+1+1+1,0,none⟩)],I4 x.1, .agg #[I4 x.2.var,I4 x.2.n],undef,undef,undef,undef,undef,undef],defers:= [] })
  (λx a' _ X Y row A C B=>by
   obtain⟨y,h1,Z,h3⟩:=A;refine⟨y,h1, ?_,h3⟩
   refine(C.block y (zA Z) (λe=> ?_)).trans Z
   obtain⟨o,ho,V⟩:=(B y e.symm).2;rw [Z] at ho;cases ho;cases V)
  ?assign ?body ?done ?stop
 case assign=>
  rintro l2 g x W K ⟨⟨I,L,m,i⟩,f⟩ hK;gi_wp2
  exact hK _ _ ((KeepsOthers.alloc _ _).from _) ((Below.refl _ W).alloc (by have:=f.size;omega) _) ⟨⟨I,L.alloc _,m.alloc _,i.alloc _⟩,f.alloc (by have:=f.size;omega) _⟩ ⟨W.heap.size,by have:=i.lt;have:=f.size;omega,zQ W _,rfl⟩
 case body=>
  rintro l2 g x a' W hl2 - ⟨⟨I,L,m,i⟩,f⟩ ⟨y,hBx,bX,rfl⟩ hlt;have d0:W.cell? ⟨y,0,none⟩=some (I4 x.2.var):=ze bX 0;have d1:W.cell? ⟨y,1,none⟩=some (I4 x.2.n):=ze bX 1;have c1:=L.cell;have c2:=m.cell;have c3:=i.cell;have f2:=m.frozen;have f3:=i.frozen;gi_wp2
  ·have hx:(x.2.var==v)=true:=by assumption
   have F:x.2.var=v:=by simpa using hx
   refine⟨((KeepsOthers.setCell _ _ _).trans (KeepsOthers.setCell _ _ _)).from _,⟨rfl,g,x,rfl,I,F,(m.set _).other (by omega) _,(i.other (by omega) _).set _⟩, ?_⟩
   exact((u.trans (f.mono (by omega))).setCell (p:=⟨w.heap.size+1,0,none⟩) (by simp) _).setCell (p:=⟨w.heap.size+2,0,none⟩) (by simp) _
  have hx:(x.2.var==v)=false:=by assumption
  have F:x.2.var≠v:=by simpa using hx
  exact⟨KeepsFrom.refl _ _,Below.refl _ _,⟨λp T=>(List.mem_append.1 T).elim (I p) (λe=>by simp at e;subst e;exact F),L,m,i⟩,f⟩
 case done=>
  rintro D ys W hD rfl ⟨⟨I,L,m,i⟩,f⟩ hK;have c2:=m.cell;have c3:=i.cell;have f2:=m.frozen;have f3:=i.frozen;have P:uo l v=none:=by rw [znR l v l.length (Nat.le_refl _) I,Nat.sub_self];rfl
  have HN:=qh P;clear P;gi_wp2
  have y2:=(m.set (I4 0)).other (B':=w.heap.size+2) (by omega) (.bool false);have y3:=(i.other (B':=w.heap.size+1) (by omega) (I4 0)).set (.bool false);have z:=((KeepsOthers.setCell W ⟨w.heap.size+1,0,none⟩ (I4 0)).trans (KeepsOthers.setCell _ ⟨w.heap.size+2,0,none⟩ (.bool false))).same D _ hK rfl;refine⟨by simp, .inl ⟨_,_,rfl,run_takeDeferred z, ?_⟩⟩
  have H:=cell_kept y2.cell (grownBy_putObj' _ D (.deferred none)) (λr e=>by cases e;exact⟨_,z,rfl⟩);have G:=cell_kept y3.cell (grownBy_putObj' _ D (.deferred none)) (λr e=>by cases e;exact⟨_,z,rfl⟩);refine⟨.tuple #[I4 0, .bool false], ?_,by rw [HN.o];rfl,(((u.trans (f.mono (by omega))).setCell (p:=⟨w.heap.size+1,0,none⟩) (by simp) _).setCell (p:=⟨w.heap.size+2,0,none⟩) (by simp) _).trans (belowK_b (w:=w) (Nat.le_refl _) _ D _ _ (by omega) z rfl rfl)⟩
  simp [results,Tryz.f205,go_sem,H,G]
 case stop=>
 rintro D c g W hD ⟨k,hk,rfl⟩ ⟨⟨rfl,t,d,N,e2,a,m,i⟩,f⟩ hK;gi_wp2
 refine⟨by simp, .inl ⟨_,_,rfl,run_takeDeferred hK, ?_⟩⟩
 have H:=cell_kept m.cell (grownBy_putObj' _ D (.deferred none)) (λr e=>by cases e;exact⟨_,hK,rfl⟩);have G:=cell_kept i.cell (grownBy_putObj' _ D (.deferred none)) (λr e=>by cases e;exact⟨_,hK,rfl⟩)
 obtain⟨E,rfl⟩:∃E,k=E+1:=by
  cases k with
  |zero=>simp [upTo] at N
  |succ E=>exact⟨E,rfl⟩
 rw [zdV] at N;obtain⟨rfl,Q⟩:=List.append_inj' N rfl;obtain rfl:gV l E=d:=by simpa using Q
 have P:=zyv l v E (by omega) e2 a;refine⟨.tuple #[I4 (gV l E).2.n, .bool true], ?_,by rw [P];rfl,f.trans (belowK_b (w:=w) (Nat.le_refl _) W D _ _ (by omega) hK rfl rfl)⟩
 simp [results,Tryz.f205,go_sem,H,G]
