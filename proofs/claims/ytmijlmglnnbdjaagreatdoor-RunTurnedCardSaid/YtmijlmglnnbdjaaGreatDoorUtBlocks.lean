/- Steps. -/
import Derived.Test.YtmijlmglnnbdjaaGreatDoorUtMoves
set_option linter.all false
namespace Go.Proofs.YtmijlmglnnbdjaaGreatDoor
open Go.RowKit
set_option maxRecDepth 100000
set_option maxHeartbeats 16000000
inductive zP where
 |mk (kind reg var:Int) (a b:zR) (yes no:List zP)
def zP.kind:zP->Int| .mk k _ _ _ _ _ _=>k
def zP.reg:zP->Int| .mk _ r _ _ _ _ _=>r
def zP.var:zP->Int| .mk _ _ v _ _ _ _=>v
def zP.a:zP->zR| .mk _ _ _ a _ _ _=>a
def zP.b:zP->zR| .mk _ _ _ _ b _ _=>b
def zP.yes:zP->List zP| .mk _ _ _ _ _ l _=>l
def zP.no:zP->List zP| .mk _ _ _ _ _ _ l=>l
instance:Inhabited zP:=⟨.mk 0 0 0 default default [] []⟩
def zP.cells (x:zP) (ka kb yv nv:Value):List Value:= [I4 x.kind,I4 x.reg,I4 x.var,I4 x.a.kind,I4 x.a.n, .int .u8 x.a.op,ka,I4 x.b.kind,I4 x.b.n, .int .u8 x.b.op,kb,yv,nv]
def yQ (e:Nat):Nat->World->List zP->Value->Prop
 |0,_,_,_=>False
 |d+1,w,l,v=>zh (λw y cs=>∃ka kb yv nv,cs=y.cells ka kb yv nv/\zJ e w y.a ka/\zJ e w y.b kb/\yQ e d w y.yes yv/\yQ e d w y.no nv) 13 w v l
def z7m (e d:Nat) (w:World) (y:zP) (cs:List Value):Prop:=∃ka kb yv nv,cs=y.cells ka kb yv nv/\zJ e w y.a ka/\zJ e w y.b kb/\yQ e d w y.yes yv/\yQ e d w y.no nv
theorem yQ.below {e d:Nat} {w b:World} {l:List zP} {v:Value} (h:yQ e d w l v) (c:Below w.heap.size w b):yQ e d b l v:=by
 induction d generalizing w b l v with
 |zero=>exact h.elim
 |succ d ih=>exact zh.below (λ_ _ _ _ ⟨ka,kb,yv,nv,e,h1,h2,h3,h4⟩ hb'=>⟨ka,kb,yv,nv,e,h1.below hb',h2.below hb',ih h3 hb',ih h4 hb'⟩) h c
theorem yQ.slice {e d:Nat} {w:World} {l:List zP} {v:Value} (h:yQ e d w l v):∃a b,v= .slice a l.length b/\l.length<=9223372036854775807:=by
 cases d with
 |zero=>exact h.elim
 |succ d=>exact zh.slice h
theorem yQ.part {e d:Nat} {w:World} {l:List zP} {a:Option Addr} {n t:Nat} (h:yQ e (d+1) w l (.slice a n t)) (j:Nat) (A:j<l.length):∃b c r q p o g f m k,a=some ⟨b,c,none⟩/\b<w.heap.size/\
  (∀i,i<13->w.cell? ⟨b,c+j*13+i,none⟩=((l.getD j default).cells (.slice r (l.getD j default).a.kids.length q) (.slice p (l.getD j default).b.kids.length o) (.slice g (l.getD j default).yes.length f) (.slice m (l.getD j default).no.length k))[i]?)/\
  zJ e w (l.getD j default).a (.slice r (l.getD j default).a.kids.length q)/\zJ e w (l.getD j default).b (.slice p (l.getD j default).b.kids.length o)/\
  yQ e d w (l.getD j default).yes (.slice g (l.getD j default).yes.length f)/\yQ e d w (l.getD j default).no (.slice m (l.getD j default).no.length k):=by
 obtain⟨b,c,cs,D,C, -,B,ka,G,E,F,rfl,z,y,x,u⟩:=zh.part h j A;obtain⟨r,q,rfl, -⟩:=z.slice;obtain⟨p,o,rfl, -⟩:=y.slice;obtain⟨g,f,rfl, -⟩:=x.slice;obtain⟨m,k,rfl, -⟩:=u.slice;exact⟨b,c,r,q,p,o,g,f,m,k,D,C,B,z,y,x,u⟩
def pz (x:zP) (ka kb yv nv:Value):Value:= .agg (x.cells ka kb yv nv).toArray
def znS (x:zP):yg:=⟨x.kind,x.reg,x.var,x.a,x.b,0⟩
def j3 (a:zR) (yT:Int):yg:=⟨12,0,0,a,default,yT⟩
def zak (yT:Int):yg:=⟨13,0,0,default,default,yT⟩
mutual
def jD:zP->Int->List yg
 | .mk k r v a b y n,at_=>
 if k=10 then
  if n.length=0 then j3 a (at_+1+(zW y (at_+1)).length)::zW y (at_+1)
  else j3 a (at_+2+(zW y (at_+1)).length)::(zW y (at_+1)++zak (at_+2+(zW y (at_+1)).length+(zW n (at_+2+(zW y (at_+1)).length)).length)::zW n (at_+2+(zW y (at_+1)).length))
 else if k=11 then j3 a (at_+2+(zW y (at_+1)).length)::(zW y (at_+1)++ [zak at_])
 else [⟨k,r,v,a,b,0⟩]
def zW:List zP->Int->List yg
 | [],_=> []
 |x::l,at_=>jD x at_++zW l (at_+(jD x at_).length)
end
structure zc6 where
 vars:List (List UInt8)
 domain:Int
 threads:List (List zP)
end Go.Proofs.YtmijlmglnnbdjaaGreatDoor
namespace Go.Proofs.YtmijlmglnnbdjaaGreatDoor
open Go.RowKit
set_option maxRecDepth 100000
set_option maxHeartbeats 16000000
section
variable {α:Type} [Inhabited α] {X X':World} {R:World->α->List Value->Prop} {size:Nat} {e:TypeId} {v v':Value} {l:List α} {css:List (List Value)}
theorem zhK {β:Type} {l r:List β} {d:β} {j:Nat} (b:j<l.length):(l++r).getD j d=l.getD j d:=by
 simp only [List.getD_eq_getElem?_getD,List.getElem?_append_left b]
theorem zhL {β:Type} {l r:List β} {d:β} {j:Nat} (b:l.length<=j):(l++r).getD j d=r.getD (j - l.length) d:=by
 simp only [List.getD_eq_getElem?_getD,List.getElem?_append_right b]
structure gZ (V:World) (B:Nat) (X:World) (R:World->α->List Value->Prop) (size:Nat) (e:TypeId) (v:Value) (l:List α) (css:List (List Value)):Prop where
 len:css.length=l.length
 part:∀j,j<l.length->(css.getD j []).length=size/\R V (l.getD j default) (css.getD j [])
 row:X.ownsRow B e size v l.length css.flatten
theorem gZ.nil (V:World) (B:Nat) (X:World) (R:World->α->List Value->Prop) (size:Nat) (e:TypeId):gZ V B X R size e (N7) [] [] :=⟨rfl,λj b=>by simp at b,World.ownsRow_nil _ _ _ _⟩
theorem gZ.later {V:World} {B:Nat} (h:gZ V B X R size e v l css) (b:Below X.heap.size X X'):gZ V B X' R size e v l css:=⟨h.len,h.part,xD h.row b⟩
theorem gZ.app {V:World} {B:Nat} (h:gZ V B X R size e v l css) {r:List α} {b:List (List Value)} (c:b.length=r.length) (hx:∀j,j<r.length->(b.getD j []).length=size/\R V (r.getD j default) (b.getD j [])) (f:X'.ownsRow B e size v' (l.length+r.length) (css.flatten++b.flatten)):gZ V B X' R size e v' (l++r) (css++b):=by
 refine⟨by simp [h.len,c],λj d=> ?_, ?_⟩
 ·rw [List.length_append] at d;by_cases e:j<l.length
  ·rw [show(css++b).getD j [] =css.getD j [] from zhK (by rw [h.len];exact e),show(l++r).getD j default=l.getD j default from zhK e];exact h.part j e
  rw [show(css++b).getD j [] =b.getD (j - l.length) [] by rw [zhL (by rw [h.len];omega),h.len],show(l++r).getD j default=r.getD (j - l.length) default from zhL (by omega)];exact hx _ (by omega)
 rw [List.length_append,List.flatten_append];exact f
theorem gZ.slice {V:World} {B:Nat} (h:gZ V B X R size e v l css) (f:wH R) (d:Below V.heap.size V X):zh R size X v l:=
 zh.jB h.row λj b=>⟨css.getD j [],(h.part j b).1,λi c=>ziP (λj b=>(h.part j (by rw [<-h.len];exact b)).1) (by rw [h.len];exact b) c,f _ _ _ _ (h.part j b).2 d⟩
end
theorem zjS:∀(l r:List zP) (a:Int),zW (l++r) a=zW l a++zW r (a+(zW l a).length):=by
 intro l;induction l with
 |nil=>intro r a;simp [zW]
 |cons x l ih=>
 intro r a;rw [List.cons_append,zW,zW,ih,List.append_assoc,List.length_append];congr 3
 omega
theorem zrP (x:zP) (a:Int):zW [x] a=jD x a:=by simp [zW]
theorem zoJ {l:List zP} {i:Nat} (b:i<l.length) (a:Int):zW (l.take (i+1)) a=zW (l.take i) a++jD (l.getD i default) (a+(zW (l.take i) a).length):=by
 rw [List.take_succ_eq_append_getElem b,zjS,zrP,List.getD_eq_getElem?_getD,List.getElem?_eq_getElem b];rfl
theorem zvg (l:List zP) (i:Nat) (a:Int):(zW (l.take i) a).length<=(zW l a).length:=by
 have:=zjS (l.take i) (l.drop i) a
 rw [List.take_append_drop] at this;rw [this,List.length_append];omega
theorem bF:(Tryz.prog.info? 107).map (λi=>(i.zero,i.size,i.bytes))=some (some (.agg #[I4 0,I4 0,I4 0,I4 0,I4 0, .int .u8 0,N7,I4 0,I4 0, .int .u8 0,N7,I4 0]),12,128):=by kernel_rfl
theorem cells_one {e d:Nat} {w:World} {l:List yg} {css:List (List Value)} (o:e=d) (g:∀j,j<l.length->(css.getD j []).length=12/\vY d w (l.getD j default) (css.getD j [])) (n:css.length=l.length):∀u∈css.flatten,u.oneCell'=true:=by
 intro u b;obtain⟨cs,c,b⟩:=List.mem_flatten.1 b;obtain⟨j,h,rfl⟩:=List.getElem_of_mem c;have f:=(g j (by omega)).2;rw [show css.getD j [] =css[j] by rw [List.getD_eq_getElem?_getD,List.getElem?_eq_getElem h];rfl] at f
 obtain⟨ka,m,e,k,i⟩:=f;obtain⟨_,_,rfl, -⟩:=k.slice;obtain⟨_,_,rfl, -⟩:=i.slice;rw [e] at b;simp only [yg.cells,List.mem_cons,List.not_mem_nil,or_false] at b;rcases b with rfl|rfl|rfl|rfl|rfl|rfl|rfl|rfl|rfl|rfl|rfl|rfl<;>rfl
def zah (e:Nat) (V w:World) (l:List yg) (en:Ending) (w':World):Prop:=(∃a cap css,en= .returned (.slice a l.length cap)/\gZ V w.heap.size w' (vY e) 12 107 (.slice a l.length cap) l css)/\Below w.heap.size w w'
def znT (e d:Nat):Prop:=∀(V w:World),Below V.heap.size V w->∀(x:zP) (ka kb yv nv:Value),zJ e V x.a ka->zJ e V x.b kb->yQ e d V x.yes yv->yQ e d V x.no nv->∀at_:Int,0<=at_->at_+(jD x at_).length<=1000000->
 Calls Tryz.prog 81 #[pz x ka kb yv nv,I4 at_] w (zah e V w (jD x at_))
def zbn (e d:Nat):Prop:=∀(V w:World),Below V.heap.size V w->∀(l:List zP) (v:Value),yQ e d V l v->∀at_:Int,0<=at_->at_+(zW l at_).length<=1000000->
 Calls Tryz.prog 47 #[v,I4 at_] w (zah e V w (zW l at_))
theorem wu {w:World} {B size n:Nat} {e:TypeId} {a:Option Addr} {m k:Nat} {xs:List Value} (h:w.ownsRow B e size (.slice a m k) n xs):(∀A,a=some A->∀j u,xs[j]? =some u->w.cell? (A.add j)=some u)/\(a=none->m=0):=by
 rcases h.2 with⟨b,hx⟩|⟨g,c,p,b,y,t,x,r,q,o⟩
 ·cases b
  exact⟨λA i=>(by cases i),λ_=>rfl⟩
 cases b
 refine⟨λA i j u d=> ?_,λh=>(by cases h)⟩
 cases i
 have f:j<xs.length:=by
  rcases Nat.lt_or_ge j xs.length with h|h
  ·exact h
  rw [List.getElem?_eq_none h] at d;cases d
 have:=h.cellAt j (by rw [<-h.1];exact f);rw [show(⟨g,0,none⟩:Addr).add j=⟨g,j,none⟩ by simp only [Addr.add];split<;>simp_all]
 rw [this];exact d
theorem zyw (e d:Nat) (hs:znT e d):zbn e (d+1):=by
 intro V w hV l v O at_ h0 r;obtain⟨la,lc,rfl,hll⟩:=O.slice;have j:=λi=>zvg l i at_;have u:=λi (hi:i<l.length)=>zoJ (l:=l) (i:=i) hi at_;have K:zW (l.take 0) at_= [] :=by simp [zW]
 obtain⟨R,hR⟩:=qxE (zW l at_);have z:R=zW (l.take l.length) at_:=by rw [List.take_length];exact hR
 rw [<-hR] at r j ⊢;obtain⟨C,L⟩:∃C:Nat->List yg,C=λi=>zW (l.take i) at_:=⟨_,rfl⟩;have D:∀i,zW (l.take i) at_=C i:=λi=>by rw [L]
 simp only [D] at j u K z;obtain⟨n,A⟩:=qxE l.length;rw [<-A] at O hll u z ⊢;have HL:=qh O;have m:=qh hV;have HN:=qh A;have HS:=qh hs;have M:=qh j;have gF:=qh u;have HZ:=qh K;have HR:=qh z;have W:=qh r;have HA0:=qh h0;clear O hV A hs j u K hR z r L D h0;go_enter Tryz.func47,Tryz.ntmps47
 go_wp2_with fail
 go_loopg [5,6] n (λgg s5 s6 wr=>∃(i:Nat) (I:Option Addr) (p H:Nat) (css:List (List Value)),i<=n/\J2 (gg=n - i)/\s5= .slice I p H/\s6=I4 i/\J2 (gZ V w.heap.size wr (vY e) 12 107 (.slice I p H) (C i) css)/\J2 (p=(C i).length)/\J2 (Below w.heap.size w wr))
 case atStart=>exact⟨0,none,0,0, [],Nat.zero_le _,rfl,rfl,rfl,by rw [J2,HZ.o];exact gZ.nil _ _ _ _ _ _,by rw [J2,HZ.o];rfl,Below.refl _ _⟩
 case round=>
 obtain⟨i,I,p,H,css,hi,HG,rfl,rfl,HO,G,h⟩:=hrel;by_cases hlt:i<n
 rotate_left
 ·obtain rfl:n=i:=by omega
  go_wp2_with fail
  go_ret;have Q:p=R.length:=by rw [HR.o];exact G.o
  subst Q;have:=HO.o
  rw [<-HR.o] at this;exact⟨⟨I,H,css,rfl,this⟩,h.o⟩
 have vC:(i:Int)<(n:Int):=by omega
 obtain⟨b,g,aa,ac,ba,bc,ya,yc,na,nc,yI, -,c,hA,hB,hY,B⟩:=yQ.part HL.o i (by rw [<-HN.o];exact hlt);subst yI;have hx:=gF.o i hlt;have s:(C (i+1)).length<=R.length:=M.o (i+1);generalize l.getD i default=x at c hA hB hY B hx;rw [<-G.o] at hx;obtain⟨T,P⟩:=qxE (jD x (at_+p));rw [<-P] at hx;have J:(C (i+1)).length=p+T.length:=by rw [hx,List.length_append, <-G.o]
 have hat:0<=at_:=HA0.o;have hsum:at_+(p:Int)+(T.length:Int)<=1000000:=by have:=W.o;omega
 have f:=λy (hy:Below w.heap.size w y)=>HS.o V y (zy m.o hy) x _ _ _ _ hA hB hY B (at_+p) (by omega) (by rw [<-P];omega)
 rw [<-P] at f;simp only [pz,zP.cells] at f;have x0:wr.cell? ⟨b,g+i*13,none⟩=some (I4 x.kind):=zl (zy m.o h.o) _ _ (c 0 (by omega));have x1:wr.cell? ⟨b,g+i*13+1,none⟩=some (I4 x.reg):=zl (zy m.o h.o) _ _ (c 1 (by omega));have x2:wr.cell? ⟨b,g+i*13+2,none⟩=some (I4 x.var):=zl (zy m.o h.o) _ _ (c 2 (by omega));have x3:wr.cell? ⟨b,g+i*13+3,none⟩=some (I4 x.a.kind):=zl (zy m.o h.o) _ _ (c 3 (by omega));have x4:wr.cell? ⟨b,g+i*13+4,none⟩=some (I4 x.a.n):=zl (zy m.o h.o) _ _ (c 4 (by omega));have x5:wr.cell? ⟨b,g+i*13+5,none⟩=some (.int .u8 x.a.op):=zl (zy m.o h.o) _ _ (c 5 (by omega))
 have x6:wr.cell? ⟨b,g+i*13+6,none⟩=some (.slice aa x.a.kids.length ac):=zl (zy m.o h.o) _ _ (c 6 (by omega));have x7:wr.cell? ⟨b,g+i*13+7,none⟩=some (I4 x.b.kind):=zl (zy m.o h.o) _ _ (c 7 (by omega));have x8:wr.cell? ⟨b,g+i*13+8,none⟩=some (I4 x.b.n):=zl (zy m.o h.o) _ _ (c 8 (by omega));have x9:wr.cell? ⟨b,g+i*13+9,none⟩=some (.int .u8 x.b.op):=zl (zy m.o h.o) _ _ (c 9 (by omega));have F:wr.cell? ⟨b,g+i*13+10,none⟩=some (.slice ba x.b.kids.length bc):=zl (zy m.o h.o) _ _ (c 10 (by omega))
 have uf:wr.cell? ⟨b,g+i*13+11,none⟩=some (.slice ya x.yes.length yc):=zl (zy m.o h.o) _ _ (c 11 (by omega));have E:wr.cell? ⟨b,g+i*13+12,none⟩=some (.slice na x.no.length nc):=zl (zy m.o h.o) _ _ (c 12 (by omega));generalize x.kind=q0 at x0 f;generalize x.reg=q1 at x1 f;generalize x.var=q2 at x2 f;generalize x.a.kind=q3 at x3 f;generalize x.a.n=q4 at x4 f;generalize x.a.op=q5 at x5 f;generalize x.a.kids.length=q6 at x6 f;generalize x.b.kind=q7 at x7 f;generalize x.b.n=q8 at x8 f;generalize x.b.op=q9 at x9 f;generalize x.b.kids.length=q10 at F f;generalize x.yes.length=q11 at uf f
 generalize x.no.length=q12 at E f;have HST:=qh f;have HX:=qh hx;have HLX:=qh J;clear c hA hB hY B f hx J s P
 go_wp2_with(first|(at_builtin;go_must(refine jo Y rfl _ _ 95 rfl 107 (.agg #[I4 0,I4 0,I4 0,I4 0,I4 0, .int .u8 0,N7,I4 0,I4 0, .int .u8 0,N7,I4 0]) 12 128 Tryz.underlying95 bF rfl (by decide) w.heap.size (.slice I p H) p (css.flatten) rfl vW.o ta T.length U (cs2.flatten) rfl t.o.row.1 (wu t.o.row).1 (wu t.o.row).2 S.o (by unfold maxLen;omega) (by omega) Z.o.size ?_);intro ja jc X2 f1 f2 f3 f4 f5;have HP:=qh (gL.o.app t.o.len t.o.part (by rw [<-G.o];exact f1));have yh:=qh (Z.o.trans (f4.below Z.o.size (λk hk=>(vW.o.lt k hk).1)));clear f1 f2 f3 f4 f5)|(go_at_call 81;go_must(refine(HST.o wr h.o).mono ?_);rintro e' Y ⟨⟨ta,U,cs2,rfl,N⟩,hb⟩;have t:=qh N;have Z:=qh (zy h.o hb);have gL:=qh (HO.o.later hb);(have q:=gL.o.row);rw [<-G.o] at q;(have vW:=qh q);(have S:=qh (cells_one rfl N.part N.len));clear N hb q x0 x1 x2 x3 x4 x5 x6 x7 x8 x9 F uf E))
 go_roundg (n - (i+1))
 case measure=>rw [HG.o];omega
 case rel=>exact⟨i+1,ja,p+T.length,jc,_,by omega,rfl,rfl,by simp,by rw [J2,HX.o];exact HP.o,HLX.o.symm,yh.o⟩
end Go.Proofs.YtmijlmglnnbdjaaGreatDoor
namespace Go.Proofs.YtmijlmglnnbdjaaGreatDoor
open Go.RowKit
set_option maxRecDepth 100000
set_option maxHeartbeats 16000000
def znU:zR:= .mk 0 0 0 []
theorem zai {e:Nat} (c:0<e) (w:World):zJ e w znU (N7):=by
 obtain⟨e,rfl⟩:∃f,e=f+1:=⟨e - 1,by omega⟩;exact⟨none,0,rfl,by simp [znU,zR.kids],λj b=>by simp [znU,zR.kids] at b⟩
theorem zbb {e:Nat} {w:World} {x:zR} {v:Value} (h:zJ e w x v):0<e:=by
 cases e with
 |zero=>exact h.elim
 |succ e=>omega
theorem zbS {e B g:Nat} {V X:World} {t:TypeId} {x:yg} {cs:List Value} (d:X.heap[g]? =some (.cells cs.toArray t (0,0))) (f:B<=g) (b:cs.length=12) (hx:vY e V x cs):gZ V B X (vY e) 12 t (.slice (some ⟨g,0,none⟩) 1 1) [x] [cs] :=
 ⟨rfl,λj c=>by
  obtain rfl:j=0:=by simpa using c
  exact⟨b,hx⟩,by
  have:=pV (B:=B) (n:=1) (size:=12) d f (by rw [b]) (by decide)
  simpa using this⟩
theorem zrQ (e d:Nat) (V w:World) (E:Below V.heap.size V w) (x:zP) (ka p j m:Value) (g:zJ e V x.a ka) (f:zJ e V x.b p) (q:yQ e d V x.yes j) (t:yQ e d V x.no m) (at_:Int) (i:x.kind≠10) (h:x.kind≠11):
  Calls Tryz.prog 81 #[pz x ka p j m,I4 at_] w (zah e V w (jD x at_)):=by
 obtain⟨D,C,rfl, -⟩:=g.slice;obtain⟨B,A,rfl, -⟩:=f.slice;obtain⟨G,F,rfl, -⟩:=q.slice;obtain⟨I,H,rfl, -⟩:=t.slice
 have u:jD x at_= [znS x] :=by
  obtain⟨k,r,v,a,b,y,n⟩:=x;simp only [zP.kind] at i h;unfold jD;rw [if_neg i,if_neg h];rfl
 have z:vY e V (znS x) [I4 x.kind,I4 x.reg,I4 x.var,I4 x.a.kind,I4 x.a.n, .int .u8 x.a.op, .slice D x.a.kids.length C,I4 x.b.kind,I4 x.b.n, .int .u8 x.b.op, .slice B x.b.kids.length A,I4 0] :=⟨_,_,rfl,g,f⟩;have c:=qh z;rw [u];simp only [pz,zP.cells];clear z u g f q t;generalize znS x=P at c ⊢;generalize x.kind=q0 at c i h ⊢;generalize x.reg=q1 at c ⊢;generalize x.var=q2 at c ⊢;generalize x.a.kind=q3 at c ⊢;generalize x.a.n=q4 at c ⊢;generalize x.a.op=q5 at c ⊢;generalize x.a.kids.length=q6 at c ⊢;generalize x.b.kind=q7 at c ⊢;generalize x.b.n=q8 at c ⊢;generalize x.b.op=q9 at c ⊢
 generalize x.b.kids.length=q10 at c ⊢;generalize x.yes.length=q11;generalize x.no.length=q12;go_enter Tryz.func81,Tryz.ntmps81
 go_wp2
 go_ret;exact⟨⟨_,_,_,rfl,zbS (xq w _ _) (by omega) rfl c.o⟩,xK w _ _⟩
theorem zeh {e:Nat} {V w b:World} {l:List yg} {a:Option Addr} {n c:Nat} {css:List (List Value)} (d:n=l.length) (h:gZ V w.heap.size b (vY e) 12 107 (.slice a n c) l css) (f:Below w.heap.size w b):zah e V w l (.returned (.slice a n c)) b:=by subst d;exact⟨⟨a,c,css,rfl,h⟩,f⟩
theorem zrR (e d:Nat) (hs:zbn e d) (V w:World) (hV:Below V.heap.size V w) (x:zP) (ka kb yv nv:Value) (I:zJ e V x.a ka) (W:zJ e V x.b kb) (hy:yQ e d V x.yes yv) (hn:yQ e d V x.no nv) (at_:Int) (h0:0<=at_) (f:at_+(jD x at_).length<=1000000) (h1:x.kind=11):
  Calls Tryz.prog 81 #[pz x ka kb yv nv,I4 at_] w (zah e V w (jD x at_)):=by
 obtain⟨E,D,rfl, -⟩:=I.slice;obtain⟨ba,bc,rfl, -⟩:=W.slice;obtain⟨ya,yc,rfl, -⟩:=hy.slice;obtain⟨na,nc,rfl, -⟩:=hn.slice
 have hT:jD x at_=j3 x.a (at_+2+(zW x.yes (at_+1)).length)::(zW x.yes (at_+1)++ [zak at_]):=by
  obtain⟨k,r,v,a,b,y,n⟩:=x;simp only [zP.kind] at h1;subst h1;unfold jD;rw [if_neg (by decide),if_pos rfl];rfl
 rw [hT] at f ⊢;have hl:(j3 x.a (at_+2+(zW x.yes (at_+1)).length)::(zW x.yes (at_+1)++ [zak at_])).length=1+(zW x.yes (at_+1)).length+1:=by simp;omega
 rw [hl] at f;have u:=λy (hyy:Below V.heap.size V y)=>hs V y hyy x.yes _ hy (at_+1) (by omega) (by omega);generalize zW x.yes (at_+1)=Y at f u hl ⊢;have hR:vY e V (j3 x.a (at_+2+Y.length)) [I4 12,I4 0,I4 0,I4 x.a.kind,I4 x.a.n, .int .u8 x.a.op, .slice E x.a.kids.length D,I4 0,I4 0, .int .u8 0,N7,I4 (at_+2+(Y.length:Int))] :=⟨_,_,rfl,I,zai (zbb I) V⟩;have hJ:vY e V (zak at_) [I4 13,I4 0,I4 0,I4 0,I4 0, .int .u8 0,N7,I4 0,I4 0, .int .u8 0,N7,I4 at_] :=⟨_,_,rfl,zai (zbb I) V,zai (zbb I) V⟩;have M:=qh hR;have HJ:=qh hJ;have jk:=qh u;have HV:=qh hV;have qP:=qh hl;simp only [pz,zP.cells]
 clear hR hJ u hl hT I W hy hn hs hV;generalize j3 x.a _=P at M qP ⊢;generalize zak at_=J at HJ qP ⊢;rw [h1];generalize x.reg=q1;generalize x.var=q2;generalize x.a.kind=q3 at M ⊢;generalize x.a.n=q4 at M ⊢;generalize x.a.op=q5 at M ⊢;generalize x.a.kids.length=q6 at M ⊢;generalize x.b.kind=q7;generalize x.b.n=q8;generalize x.b.op=q9;generalize x.b.kids.length=q10;generalize x.yes.length=q11 at jk ⊢;generalize x.no.length=q12
 have S:=(Below.refl w.heap.size w).alloc (Nat.le_refl _) (.cells #[I4 11,I4 q1,I4 q2,I4 q3,I4 q4, .int .u8 q5, .slice E q6 D,I4 q7,I4 q8, .int .u8 q9, .slice ba q10 bc, .slice ya q11 yc, .slice na q12 nc] 148);have U:=zQ w (.cells #[I4 11,I4 q1,I4 q2,I4 q3,I4 q4, .int .u8 q5, .slice E q6 D,I4 q7,I4 q8, .int .u8 q9, .slice ba q10 bc, .slice ya q11 yc, .slice na q12 nc] 148);have j:=qh S;have m:=qh U;clear S U h1;go_enter Tryz.func81,Tryz.ntmps81
 go_upto_region 1 with fail
 generalize World.alloc w _=W1 at j m ⊢;generalize hgx:w.heap.size=gx at m ⊢;have k0:=ze m.o 0;have k11:=ze m.o 11;go_upto_region 12 with(go_at_call 47;go_must(refine(jk.o W1 (zy HV.o j.o)).mono ?_);rintro en L ⟨⟨a1,c1,css,rfl,hr⟩,W⟩;(have HY:=qh hr);(have h:=qh W);clear hr W k0 k11)
 have C:=j.o.trans (h.o.mono j.o.size);have k3:=zl h.o _ _ (ze m.o 3);have k4:=zl h.o _ _ (ze m.o 4);have k5:=zl h.o _ _ (ze m.o 5);have k6:=zl h.o _ _ (ze m.o 6);have hq:w.heap.size<=L.heap.size:=C.size;have A:=(Below.refl L.heap.size L).alloc (Nat.le_refl _) (.cells #[I4 12,I4 0,I4 0,I4 q3,I4 q4, .int .u8 q5, .slice E q6 D,I4 0,I4 0, .int .u8 0,N7,I4 (at_+2+(Y.length:Int))] 107)
 have T:=zbS (e:=e) (B:=w.heap.size) (V:=V) (x:=P) (cs:= [I4 12,I4 0,I4 0,I4 q3,I4 q4, .int .u8 q5, .slice E q6 D,I4 0,I4 0, .int .u8 0,N7,I4 (at_+2+(Y.length:Int))]) (zQ L (.cells #[I4 12,I4 0,I4 0,I4 q3,I4 q4, .int .u8 q5, .slice E q6 D,I4 0,I4 0, .int .u8 0,N7,I4 (at_+2+(Y.length:Int))] 107)) hq rfl M.o;have O:=HY.o.later A;have F:=qh (C.trans (A.mono hq));have G:=qh T;have g:=qh O;have zdy:=qh (cells_one rfl HY.o.part HY.o.len);clear C A T O
 go_upto_region 13 with(at_builtin;go_must(refine jo (L.alloc (.cells #[I4 12,I4 0,I4 0,I4 q3,I4 q4, .int .u8 q5, .slice E q6 D,I4 0,I4 0, .int .u8 0,N7,I4 (at_+2+(Y.length:Int))] 107)) rfl _ _ 95 rfl 107 (.agg #[I4 0,I4 0,I4 0,I4 0,I4 0, .int .u8 0,N7,I4 0,I4 0, .int .u8 0,N7,I4 0]) 12 128 Tryz.underlying95 bF rfl (by decide) w.heap.size (.slice (some ⟨L.heap.size,0,none⟩) 1 1) 1 _ rfl G.o.row a1 Y.length c1 (css.flatten) rfl g.o.row.1 (wu g.o.row).1 (wu g.o.row).2 zdy.o (by unfold maxLen;omega) (by omega) F.o.size ?_);intro ja jc s Q f2 f3 K f5;(have HP:=qh (G.o.app g.o.len g.o.part Q));(have H:=qh (F.o.trans (K.below F.o.size (λk hk=>(G.o.row.lt k hk).1))));clear Q f2 f3 K f5 k3 k4 k5 k6)
 have z:=(Below.refl s.heap.size s).alloc (Nat.le_refl _) (.cells #[I4 13,I4 0,I4 0,I4 0,I4 0, .int .u8 0,N7,I4 0,I4 0, .int .u8 0,N7,I4 at_] 107);have i:=zbS (e:=e) (B:=w.heap.size) (V:=V) (x:=J) (cs:= [I4 13,I4 0,I4 0,I4 0,I4 0, .int .u8 0,N7,I4 0,I4 0, .int .u8 0,N7,I4 at_]) (zQ s (.cells #[I4 13,I4 0,I4 0,I4 0,I4 0, .int .u8 0,N7,I4 0,I4 0, .int .u8 0,N7,I4 at_] 107)) H.o.size rfl HJ.o;have t:=HP.o.later z;have p:=qh (H.o.trans (z.mono H.o.size));have Z:=qh i;have HP2:=qh t;have zrS:=qh (cells_one rfl i.part i.len);have q:([P] ++Y).length=1+Y.length:=by rw [List.length_append];rfl
 have c:=t.row;rw [q] at c;have kP:=qh q;have N:=qh c;clear z i t q c
 go_wp2_with(at_builtin;go_must(refine jo (s.alloc (.cells #[I4 13,I4 0,I4 0,I4 0,I4 0, .int .u8 0,N7,I4 0,I4 0, .int .u8 0,N7,I4 at_] 107)) rfl _ _ 95 rfl 107 (.agg #[I4 0,I4 0,I4 0,I4 0,I4 0, .int .u8 0,N7,I4 0,I4 0, .int .u8 0,N7,I4 0]) 12 128 Tryz.underlying95 bF rfl (by decide) w.heap.size (.slice ja (1+Y.length) jc) (1+Y.length) _ rfl N.o (some ⟨s.heap.size,0,none⟩) 1 1 _ rfl Z.o.row.1 (wu Z.o.row).1 (wu Z.o.row).2 zrS.o (by unfold maxLen;omega) (by omega) p.o.size ?_);intro ya2 yc2 X3 Q f2 f3 K f5;(have HQ:=qh (HP2.o.app Z.o.len Z.o.part (by rw [kP.o];exact Q)));(have HB3:=qh (p.o.trans (K.below p.o.size (λk hk=>(N.o.lt k hk).1))));clear Q f2 f3 K f5)
 go_ret;exact zeh (by rw [qP.o]) HQ.o HB3.o
theorem gZ.since {α:Type} [Inhabited α] {V X X':World} {B size:Nat} {R:World->α->List Value->Prop} {t:TypeId} {v:Value} {l:List α} {css:List (List Value)} {F:Nat->Prop} (h:gZ V B X R size t v l css) (c:Since F X X') (b:∀k,v.ownBlock=some k->¬F k):gZ V B X' R size t v l css:=⟨h.len,h.part,c.row h.row b⟩
theorem zyx (e d:Nat) (hs:zbn e d) (V w:World) (hV:Below V.heap.size V w) (x:zP) (ka kb Z nv:Value) (J:zJ e V x.a ka) (H:zJ e V x.b kb) (T:yQ e d V x.yes Z) (hn:yQ e d V x.no nv) (at_:Int) (h0:0<=at_) (f:at_+(jD x at_).length<=1000000) (M:x.kind=10) (L:x.no.length=0):
  Calls Tryz.prog 81 #[pz x ka kb Z nv,I4 at_] w (zah e V w (jD x at_)):=by
 obtain⟨t,q,rfl, -⟩:=J.slice;obtain⟨ba,bc,rfl, -⟩:=H.slice;obtain⟨Q,K,rfl, -⟩:=T.slice;obtain⟨na,nc,rfl, -⟩:=hn.slice
 have hT:jD x at_=j3 x.a (at_+1+(zW x.yes (at_+1)).length)::zW x.yes (at_+1):=by
  obtain⟨k,r,v,a,b,y,n⟩:=x;simp only [zP.kind,zP.no] at M L;subst M;unfold jD;rw [if_pos rfl,if_pos L];rfl
 rw [hT] at f ⊢;have I:(j3 x.a (at_+1+(zW x.yes (at_+1)).length)::zW x.yes (at_+1)).length=1+(zW x.yes (at_+1)).length:=by simp;omega
 rw [I] at f;have j:=λy (S:Below V.heap.size V y)=>hs V y S x.yes _ T (at_+1) (by omega) (by omega);generalize zW x.yes (at_+1)=Y at f j I ⊢;have hR:vY e V (j3 x.a (at_+1+Y.length)) [I4 12,I4 0,I4 0,I4 x.a.kind,I4 x.a.n, .int .u8 x.a.op, .slice t x.a.kids.length q,I4 0,I4 0, .int .u8 0,N7,I4 (at_+1+(Y.length:Int))] :=⟨_,_,rfl,J,zai (zbb J) V⟩;have C:=qh hR;have jk:=qh j;have HV:=qh hV;have s:=qh I;simp only [pz,zP.cells];clear hR j I hT J H T hn hs hV;generalize j3 x.a _=P at C s ⊢;rw [M];generalize x.reg=q1;generalize x.var=q2;generalize x.a.kind=q3 at C ⊢;generalize x.a.n=q4 at C ⊢
 generalize x.a.op=q5 at C ⊢;generalize x.a.kids.length=q6 at C ⊢;generalize x.b.kind=q7;generalize x.b.n=q8;generalize x.b.op=q9;generalize x.b.kids.length=q10;generalize x.yes.length=q11 at jk ⊢;rw [L];have E:=(Below.refl w.heap.size w).alloc (Nat.le_refl _) (.cells #[I4 10,I4 q1,I4 q2,I4 q3,I4 q4, .int .u8 q5, .slice t q6 q,I4 q7,I4 q8, .int .u8 q9, .slice ba q10 bc, .slice Q q11 K, .slice na 0 nc] 148);have G:=zQ w (.cells #[I4 10,I4 q1,I4 q2,I4 q3,I4 q4, .int .u8 q5, .slice t q6 q,I4 q7,I4 q8, .int .u8 q9, .slice ba q10 bc, .slice Q q11 K, .slice na 0 nc] 148);have i:=qh E;have h:=qh G
 clear E G M L;go_enter Tryz.func81,Tryz.ntmps81
 go_upto_region 1 with fail
 generalize World.alloc w _=W1 at i h ⊢;generalize hgx:w.heap.size=gx at h ⊢;have k0:=ze h.o 0;have O:=ze h.o 11;go_upto_region 4 with(go_at_call 47;go_must(refine(jk.o W1 (zy HV.o i.o)).mono ?_);rintro en A ⟨⟨a1,c1,css,rfl,hr⟩,H⟩;(have U:=qh hr);(have c:=qh H);clear hr H k0 O)
 have p:=i.o.trans (c.o.mono i.o.size);have k12:=zl c.o _ _ (ze h.o 12);have k3:=zl c.o _ _ (ze h.o 3);have k4:=zl c.o _ _ (ze h.o 4);have k5:=zl c.o _ _ (ze h.o 5);have k6:=zl c.o _ _ (ze h.o 6);have hq:w.heap.size<=A.heap.size:=p.size;have m:=(Below.refl A.heap.size A).alloc (Nat.le_refl _) (.cells #[I4 12,I4 0,I4 0,I4 q3,I4 q4, .int .u8 q5, .slice t q6 q,I4 0,I4 0, .int .u8 0,N7,I4 (at_+1+(Y.length:Int))] 107)
 have F:=zbS (e:=e) (B:=w.heap.size) (V:=V) (x:=P) (cs:= [I4 12,I4 0,I4 0,I4 q3,I4 q4, .int .u8 q5, .slice t q6 q,I4 0,I4 0, .int .u8 0,N7,I4 (at_+1+(Y.length:Int))]) (zQ A (.cells #[I4 12,I4 0,I4 0,I4 q3,I4 q4, .int .u8 q5, .slice t q6 q,I4 0,I4 0, .int .u8 0,N7,I4 (at_+1+(Y.length:Int))] 107)) hq rfl C.o;have D:=U.o.later m;have u:=qh (p.trans (m.mono hq));have z:=qh F;have g:=qh D;have N:=qh (cells_one rfl U.o.part U.o.len);clear p m F D
 go_wp2_with(at_builtin;go_must(refine jo (A.alloc (.cells #[I4 12,I4 0,I4 0,I4 q3,I4 q4, .int .u8 q5, .slice t q6 q,I4 0,I4 0, .int .u8 0,N7,I4 (at_+1+(Y.length:Int))] 107)) rfl _ _ 95 rfl 107 (.agg #[I4 0,I4 0,I4 0,I4 0,I4 0, .int .u8 0,N7,I4 0,I4 0, .int .u8 0,N7,I4 0]) 12 128 Tryz.underlying95 bF rfl (by decide) w.heap.size (.slice (some ⟨A.heap.size,0,none⟩) 1 1) (1) _ rfl z.o.row a1 Y.length c1 _ rfl g.o.row.1 (wu g.o.row).1 (wu g.o.row).2 N.o (by unfold maxLen;omega) (by omega) u.o.size ?_);intro ja jc X2 f1 f2 f3 f4 f5;(have HP:=qh (z.o.app g.o.len g.o.part f1));(have W:=qh (u.o.trans (f4.below u.o.size (λk hk=>(z.o.row.lt k hk).1))));clear f1 f2 f3 f4 f5)
 go_ret;exact zeh (by rw [s.o]) HP.o W.o
theorem zyy (e d:Nat) (hs:zbn e d) (V w:World) (hV:Below V.heap.size V w) (x:zP) (ka kb yv nv:Value) (ha:zJ e V x.a ka) (F:zJ e V x.b kb) (hy:yQ e d V x.yes yv) (hn:yQ e d V x.no nv) (at_:Int) (h0:0<=at_) (i:at_+(jD x at_).length<=1000000) (h1:x.kind=10) (h2:¬x.no.length=0):
  Calls Tryz.prog 81 #[pz x ka kb yv nv,I4 at_] w (zah e V w (jD x at_)):=by
 obtain⟨Z,W,rfl, -⟩:=ha.slice;obtain⟨ba,bc,rfl, -⟩:=F.slice;obtain⟨ya,yc,rfl, -⟩:=hy.slice;obtain⟨na,nc,rfl, -⟩:=hn.slice
 have hT:jD x at_=j3 x.a (at_+2+(zW x.yes (at_+1)).length)::(zW x.yes (at_+1)++zak (at_+2+(zW x.yes (at_+1)).length+(zW x.no (at_+2+(zW x.yes (at_+1)).length)).length)::zW x.no (at_+2+(zW x.yes (at_+1)).length)):=by
  obtain⟨k,r,v,a,b,y,n⟩:=x;simp only [zP.kind,zP.no] at h1 h2;subst h1;unfold jD;rw [if_pos rfl,if_neg h2];rfl
 rw [hT] at i ⊢;have hl:(j3 x.a (at_+2+(zW x.yes (at_+1)).length)::(zW x.yes (at_+1)++zak (at_+2+(zW x.yes (at_+1)).length+(zW x.no (at_+2+(zW x.yes (at_+1)).length)).length)::zW x.no (at_+2+(zW x.yes (at_+1)).length))).length=1+(zW x.yes (at_+1)).length+1+(zW x.no (at_+2+(zW x.yes (at_+1)).length)).length:=by simp;omega
 rw [hl] at i;have T:=λy (M:Below V.heap.size V y)=>hs V y M x.yes _ hy (at_+1) (by omega) (by omega);generalize zW x.yes (at_+1)=Y at i T hl ⊢;have S:=λy (M:Below V.heap.size V y)=>hs V y M x.no _ hn (at_+2+Y.length) (by omega) (by omega);generalize zW x.no (at_+2+Y.length)=N at i S hl ⊢;have hR:vY e V (j3 x.a (at_+2+Y.length)) [I4 12,I4 0,I4 0,I4 x.a.kind,I4 x.a.n, .int .u8 x.a.op, .slice Z x.a.kids.length W,I4 0,I4 0, .int .u8 0,N7,I4 (at_+2+(Y.length:Int))] :=⟨_,_,rfl,ha,zai (zbb ha) V⟩
 have hJ:vY e V (zak (at_+2+(Y.length:Int)+(N.length:Int))) [I4 13,I4 0,I4 0,I4 0,I4 0, .int .u8 0,N7,I4 0,I4 0, .int .u8 0,N7,I4 (at_+2+(Y.length:Int)+(N.length:Int))] :=⟨_,_,rfl,zai (zbb ha) V,zai (zbb ha) V⟩;have HR:=qh hR;have HJ:=qh hJ;have jk:=qh T;have HBN:=qh S;have HV:=qh hV;have qP:=qh hl;simp only [pz,zP.cells];clear hR hJ S T hl hT ha F hy hn hs hV;generalize j3 x.a _=P at HR qP ⊢;generalize zak _=J at HJ qP ⊢;rw [h1];generalize x.reg=q1;generalize x.var=q2;generalize x.a.kind=q3 at HR ⊢;generalize x.a.n=q4 at HR ⊢;generalize x.a.op=q5 at HR ⊢;generalize x.a.kids.length=q6 at HR ⊢
 generalize x.b.kind=q7;generalize x.b.n=q8;generalize x.b.op=q9;generalize x.b.kids.length=q10;generalize x.yes.length=q11 at jk ⊢;generalize x.no.length=L at HBN h2 ⊢;have hw1:=(Below.refl w.heap.size w).alloc (Nat.le_refl _) (.cells #[I4 10,I4 q1,I4 q2,I4 q3,I4 q4, .int .u8 q5, .slice Z q6 W,I4 q7,I4 q8, .int .u8 q9, .slice ba q10 bc, .slice ya q11 yc, .slice na L nc] 148);have hg1:=zQ w (.cells #[I4 10,I4 q1,I4 q2,I4 q3,I4 q4, .int .u8 q5, .slice Z q6 W,I4 q7,I4 q8, .int .u8 q9, .slice ba q10 bc, .slice ya q11 yc, .slice na L nc] 148);have p:=qh hw1;have z:=qh hg1;clear hw1 hg1 h1
 go_enter Tryz.func81,Tryz.ntmps81
 go_upto_region 1 with fail
 generalize World.alloc w _=W1 at p z ⊢;generalize hgx:w.heap.size=gx at z ⊢;have k0:=ze z.o 0;have k11:=ze z.o 11;go_upto_region 4 with(go_at_call 47;go_must(refine(jk.o W1 (zy HV.o p.o)).mono ?_);rintro en X1 ⟨⟨a1,c1,css,rfl,hr⟩,F⟩;(have HY:=qh hr);(have E:=qh F);clear hr F k0 k11)
 have hnz:((L:Int)==0)=false:=by simp;omega
 have k12:=zl E.o _ _ (ze z.o 12);go_upto_region 7 with(go_at_call 47;go_must(refine(HBN.o X1 (zy HV.o (p.o.trans (E.o.mono p.o.size)))).mono ?_);rintro en H ⟨⟨a2,c2,csn,rfl,hr⟩,F⟩;(have HN:=qh hr);(have HB0:=qh F);clear hr F k12)
 have j:=E.o.trans (HB0.o.mono E.o.size);have K:=qh (HY.o.later HB0.o);have U:=p.o.trans (j.mono p.o.size);have k3:=zl j _ _ (ze z.o 3);have k4:=zl j _ _ (ze z.o 4);have k5:=zl j _ _ (ze z.o 5);have k6:=zl j _ _ (ze z.o 6);have hq:w.heap.size<=H.heap.size:=U.size;have D:=(Below.refl H.heap.size H).alloc (Nat.le_refl _) (.cells #[I4 12,I4 0,I4 0,I4 q3,I4 q4, .int .u8 q5, .slice Z q6 W,I4 0,I4 0, .int .u8 0,N7,I4 (at_+2+(Y.length:Int))] 107)
 have ho1:=zbS (e:=e) (B:=w.heap.size) (V:=V) (x:=P) (cs:= [I4 12,I4 0,I4 0,I4 q3,I4 q4, .int .u8 q5, .slice Z q6 W,I4 0,I4 0, .int .u8 0,N7,I4 (at_+2+(Y.length:Int))]) (zQ H (.cells #[I4 12,I4 0,I4 0,I4 q3,I4 q4, .int .u8 q5, .slice Z q6 W,I4 0,I4 0, .int .u8 0,N7,I4 (at_+2+(Y.length:Int))] 107)) hq rfl HR.o;have hy1:=K.o.later D;have hn1:=HN.o.later D;have hnl:∀k,(Value.slice a2 N.length c2).ownBlock=some k->k<H.heap.size:=λk m=>(HN.o.row.lt k m).2;have Q:=qh (U.trans (D.mono hq));have s:=qh ho1;have q:=qh hy1;have HN1:=qh hn1;have HNL:=qh hnl;have zdy:=qh (cells_one rfl K.o.part K.o.len)
 have zB2:=qh (cells_one rfl HN.o.part HN.o.len);clear U D ho1 hy1 hn1 hnl j
 go_upto_region 8 with(at_builtin;go_must(refine jo (H.alloc (.cells #[I4 12,I4 0,I4 0,I4 q3,I4 q4, .int .u8 q5, .slice Z q6 W,I4 0,I4 0, .int .u8 0,N7,I4 (at_+2+(Y.length:Int))] 107)) rfl _ _ 95 rfl 107 (.agg #[I4 0,I4 0,I4 0,I4 0,I4 0, .int .u8 0,N7,I4 0,I4 0, .int .u8 0,N7,I4 0]) 12 128 Tryz.underlying95 bF rfl (by decide) w.heap.size (.slice (some ⟨H.heap.size,0,none⟩) 1 1) (1) _ rfl s.o.row a1 Y.length c1 _ rfl q.o.row.1 (wu q.o.row).1 (wu q.o.row).2 zdy.o (by unfold maxLen;omega) (by omega) Q.o.size ?_);intro ja jc X2 G f2 f3 u f5;(have HP:=qh (s.o.app q.o.len q.o.part G));(have HB2:=qh (Q.o.trans (u.below Q.o.size (λk m=>(s.o.row.lt k m).1))));(have HN2:=qh (HN1.o.since u (λk m hg=>by have:=HNL.o k m;simp [Value.ownBlock] at hg;omega)));(have HJ2:J2 (∀k,(Value.slice ja (1+Y.length) jc).ownBlock=some k->H.heap.size<=k):=λk m=>by rcases f5 k m with h|h;(· simp [Value.ownBlock] at h;omega);(· rw [h];simp));clear G f2 f3 u f5 k3 k4 k5 k6)
 have C:=(Below.refl X2.heap.size X2).alloc (Nat.le_refl _) (.cells #[I4 13,I4 0,I4 0,I4 0,I4 0, .int .u8 0,N7,I4 0,I4 0, .int .u8 0,N7,I4 (at_+2+(Y.length:Int)+(N.length:Int))] 107);have A:=zbS (e:=e) (B:=w.heap.size) (V:=V) (x:=J) (cs:= [I4 13,I4 0,I4 0,I4 0,I4 0, .int .u8 0,N7,I4 0,I4 0, .int .u8 0,N7,I4 (at_+2+(Y.length:Int)+(N.length:Int))]) (zQ X2 (.cells #[I4 13,I4 0,I4 0,I4 0,I4 0, .int .u8 0,N7,I4 0,I4 0, .int .u8 0,N7,I4 (at_+2+(Y.length:Int)+(N.length:Int))] 107)) HB2.o.size rfl HJ.o;have O:=HP.o.later C;have hn2:=HN2.o.later C;have I:=qh (HB2.o.trans (C.mono HB2.o.size))
 have gL:=qh A;have HP2:=qh O;have HN3:=qh hn2;have zrS:=qh (cells_one rfl A.part A.len);have g:([P] ++Y).length=1+Y.length:=by rw [List.length_append];rfl
 have f:=O.row;rw [g] at f;have kP:=qh g;have zjT:=qh f;clear C A O hn2 g f
 go_upto_region 9 with(at_builtin;go_must(refine jo (X2.alloc (.cells #[I4 13,I4 0,I4 0,I4 0,I4 0, .int .u8 0,N7,I4 0,I4 0, .int .u8 0,N7,I4 (at_+2+(Y.length:Int)+(N.length:Int))] 107)) rfl _ _ 95 rfl 107 (.agg #[I4 0,I4 0,I4 0,I4 0,I4 0, .int .u8 0,N7,I4 0,I4 0, .int .u8 0,N7,I4 0]) 12 128 Tryz.underlying95 bF rfl (by decide) w.heap.size (.slice ja (1+Y.length) jc) (1+Y.length) _ rfl zjT.o (some ⟨X2.heap.size,0,none⟩) 1 1 _ rfl gL.o.row.1 (wu gL.o.row).1 (wu gL.o.row).2 zrS.o (by unfold maxLen;omega) (by omega) I.o.size ?_);intro la lc X3 G f2 f3 u f5;(have HQ:=qh (HP2.o.app gL.o.len gL.o.part (by rw [kP.o];exact G)));(have HB3:=qh (I.o.trans (u.below I.o.size (λk m=>(zjT.o.lt k m).1))));(have t:=qh (HN3.o.since u (λk m hg=>by have h1:=HNL.o k m;have h2:=HJ2.o k hg;omega)));clear G f2 f3 u f5)
 have g:([P] ++Y++ [J]).length=1+Y.length+1:=by rw [List.length_append,List.length_append];rfl
 have c:=HQ.o.row;rw [g] at c;have zmK:=qh g;have zjz:=qh c;clear g c
 go_wp2_with(at_builtin;go_must(refine jo (X3) rfl _ _ 95 rfl 107 (.agg #[I4 0,I4 0,I4 0,I4 0,I4 0, .int .u8 0,N7,I4 0,I4 0, .int .u8 0,N7,I4 0]) 12 128 Tryz.underlying95 bF rfl (by decide) w.heap.size (.slice la (1+Y.length+1) lc) (1+Y.length+1) _ rfl zjz.o a2 N.length c2 _ rfl t.o.row.1 (wu t.o.row).1 (wu t.o.row).2 zB2.o (by unfold maxLen;omega) (by omega) HB3.o.size ?_);intro ma mc X4 G f2 f3 u f5;(have HQ4:=qh (HQ.o.app t.o.len t.o.part (by rw [zmK.o];exact G)));(have qZ:=qh (HB3.o.trans (u.below HB3.o.size (λk m=>(zjz.o.lt k m).1))));clear G f2 f3 u f5);go_ret;have hq4:=HQ4.o
 rw [show [P] ++Y++ [J] ++N=P::(Y++J::N) by simp] at hq4;exact zeh (by rw [qP.o]) hq4 qZ.o
theorem z1s (e d:Nat) (h:zbn e d):znT e d:=by
 intro V w n x ka g c f m k i j at_ o b;by_cases h1:x.kind=10
 ·by_cases h2:x.no.length=0
  ·exact zyx e d h V w n x ka g c f m k i j at_ o b h1 h2
  exact zyy e d h V w n x ka g c f m k i j at_ o b h1 h2
 by_cases h2:x.kind=11
 ·exact zrR e d h V w n x ka g c f m k i j at_ o b h2
 exact zrQ e d V w n x ka g c f m k i j at_ h1 h2
theorem zvh (e d:Nat):zbn e d:=by
 induction d with
 |zero=>intro V w _ l v b;exact b.elim
 |succ d ih=>exact zyw e d (z1s e d ih)
