/- Steps. -/
import Derived.Test.YtmijlmglnnbdjaaGreatDoorUtFits
import Derived.Test.YtmijlmglnnbdjaaGreatDoorUtPSrc
import Derived.Test.YtmijlmglnnbdjaaGreatDoorUtTreeG2
set_option linter.all false
namespace Go.Proofs.YtmijlmglnnbdjaaGreatDoor
open Go.RowKit
set_option maxRecDepth 100000
set_option maxHeartbeats 16000000
def zlG:List Value:= [I4 0,I4 0,I4 0,I4 0,I4 0,N7]
theorem zl4 (i:Nat):yu (List.replicate (i+1) default) (List.replicate (i+1) (N7))=yu (List.replicate i default) (List.replicate i (N7))++zlG:=by
 rw [List.replicate_succ',List.replicate_succ',zd7 _ _ _ _ (by simp)];rfl
theorem zkO (i:Nat):zx xI (List.replicate (i+1) 0)=zx xI (List.replicate i 0)++ [I4 0] :=by
 rw [List.replicate_succ',kS];rfl
structure uH (W X:World) (gb:Nat) (ta:Option Addr) (i tc:Nat) (ma:Option Addr) (k mc:Nat):Prop where
 row:X.ownsRow W.heap.size 75 6 (.slice ta i tc) i (yu (List.replicate i default) (List.replicate i (N7)))
 mem:X.ownsRow W.heap.size 3 1 (.slice ma k mc) k (zx xI (List.replicate k 0))
 box:X.heap[gb]? =some (.cells #[.slice ta i tc, .slice ma k mc, .bool false] 61 (0,0))
 since:Since (λx=>x=gb) W X
 lo:gb<W.heap.size
 dis:∀x,(Value.slice ta i tc).ownBlock=some x->(Value.slice ma k mc).ownBlock≠some x
theorem uH.begin {W:World} {gb:Nat} (b:W.heap[gb]? =some (.cells #[N7,N7, .bool false] 61 (0,0))):uH W W gb none 0 0 none 0 0:=
 ⟨World.ownsRow_nil _ _ _ _,World.ownsRow_nil _ _ _ _,b,Since.refl _ _,zA b,λx hx=>by simp [Value.ownBlock] at hx⟩
theorem uH.thread {W X g:World} {gb i tc k mc b:Nat} {j ma c:Option Addr} (h:uH W X gb j i tc ma k mc) {o:Obj} (u:g.ownsRow W.heap.size 75 6 (.slice c (i+1) b) (i+1) (yu (List.replicate i default) (List.replicate i (N7))++zlG))
  (y:Since (λx=>(Value.slice j i tc).ownBlock=some x) (X.alloc o) g) (z:∀x,(Value.slice c (i+1) b).ownBlock=some x->(Value.slice j i tc).ownBlock=some x\/x=(X.alloc o).heap.size):
  g.heap[gb]? =some (.cells #[.slice j i tc, .slice ma k mc, .bool false] 61 (0,0))/\uH W (g.setCell ⟨gb,0,none⟩ (.slice c (i+1) b)) gb c (i+1) b ma k mc:=by
 have q:=h.lo;have v:=h.since.size;have n:∀x,(Value.slice j i tc).ownBlock=some x->x≠gb:=λx hx e=>by have:=(h.row.lt x hx).1;omega
 have m:∀x,(Value.slice ma k mc).ownBlock=some x->x≠gb:=λx hx e=>by have:=(h.mem.lt x hx).1;omega
 have f:Since (λx=>(Value.slice j i tc).ownBlock=some x) X g:=((Since.refl _ X).alloc o).trans y (λx hx=> .inl hx);have t:=(f.block gb (zA h.box) (λe=>n _ e rfl)).trans h.box;have d:Since (λx=>x=gb) g (g.setCell ⟨gb,0,none⟩ (.slice c (i+1) b)):=Since.setCell (F:=λk=>k=gb) (p:=⟨gb,0,none⟩) (Since.refl _ _) (.inl rfl) _;have l:∀x,(Value.slice c (i+1) b).ownBlock=some x->x≠gb:=λx hx e=>by have:=(u.lt x hx).1;omega
 refine⟨t,⟨?_, ?_, ?_, ?_,q, ?_⟩⟩
 ·rw [zl4];exact d.row u l
 ·exact d.row (f.row h.mem (λx hx e=>h.dis x e hx)) m
 ·have:=zu t 0 (.slice c (i+1) b);simpa using this
 ·exact(h.since.trans f (λx hx=> .inr (h.row.lt x hx).1)).trans d (λx hx=> .inl hx)
 intro x hx e;rcases z x hx with r|r
 ·exact h.dis x r e
 have:=(h.mem.lt x e).2;simp at r;omega
theorem uH.more {W X g:World} {gb i tc k mc b:Nat} {m ma c:Option Addr} (h:uH W X gb m i tc ma k mc) {o:Obj} (u:g.ownsRow W.heap.size 3 1 (.slice c (k+1) b) (k+1) (zx xI (List.replicate k 0)++ [I4 0]))
  (y:Since (λx=>(Value.slice ma k mc).ownBlock=some x) (X.alloc o) g) (z:∀x,(Value.slice c (k+1) b).ownBlock=some x->(Value.slice ma k mc).ownBlock=some x\/x=(X.alloc o).heap.size):
  g.heap[gb]? =some (.cells #[.slice m i tc, .slice ma k mc, .bool false] 61 (0,0))/\uH W (g.setCell ⟨gb,1,none⟩ (.slice c (k+1) b)) gb m i tc c (k+1) b:=by
 have q:=h.lo;have v:=h.since.size;have n:∀x,(Value.slice ma k mc).ownBlock=some x->x≠gb:=λx hx e=>by have:=(h.mem.lt x hx).1;omega
 have l:∀x,(Value.slice m i tc).ownBlock=some x->x≠gb:=λx hx e=>by have:=(h.row.lt x hx).1;omega
 have f:Since (λx=>(Value.slice ma k mc).ownBlock=some x) X g:=((Since.refl _ X).alloc o).trans y (λx hx=> .inl hx);have t:=(f.block gb (zA h.box) (λe=>n _ e rfl)).trans h.box;have d:Since (λx=>x=gb) g (g.setCell ⟨gb,1,none⟩ (.slice c (k+1) b)):=Since.setCell (F:=λk=>k=gb) (p:=⟨gb,1,none⟩) (Since.refl _ _) (.inl rfl) _;have j:∀x,(Value.slice c (k+1) b).ownBlock=some x->x≠gb:=λx hx e=>by have:=(u.lt x hx).1;omega
 refine⟨t,⟨?_, ?_, ?_, ?_,q, ?_⟩⟩
 ·exact d.row (f.row h.row (λx hx e=>h.dis x hx e)) l
 ·rw [zkO];exact d.row u j
 ·have:=zu t 1 (.slice c (k+1) b);simpa using this
 ·exact(h.since.trans f (λx hx=> .inr (h.mem.lt x hx).1)).trans d (λx hx=> .inl hx)
 intro x hx e;rcases z x e with r|r
 ·exact h.dis x hx r
 have:=(h.row.lt x hx).2;simp at r;omega
theorem zot {X:World} {B i tc k mc:Nat} {d ma:Option Addr} (b:X.ownsRow B 75 6 (.slice d i tc) i (yu (List.replicate i default) (List.replicate i (N7)))) (c:X.ownsRow B 3 1 (.slice ma k mc) k (zx xI (List.replicate k 0))):yD X ⟨List.replicate i default,List.replicate k 0,false⟩ (.slice d i tc) (.slice ma k mc):=by
 refine⟨zh.jB (B:=B) (e:=75) (xs:=yu (List.replicate i default) (List.replicate i (N7))) (by simpa using b) λj l=> ?_,zal (B:=B) (by simpa using c)⟩
 have f:(List.replicate i (default:zD)).getD j default=default:=by simp [List.getD_eq_getElem?_getD,List.getElem?_replicate];split<;>rfl
 have g:(List.replicate i (Value.slice none 0 0)).getD j (N7)=N7:=by simp [List.getD_eq_getElem?_getD,List.getElem?_replicate];split<;>rfl
 refine⟨(default:zD).cells (N7),rfl,λm h=> ?_, ?_⟩
 ·rw [je l h,f,g]
 rw [f];exact⟨rfl,_,rfl,zh.nil _⟩
theorem zq1 {X:World} {B i tc k mc:Nat} {h ma:Option Addr} (c:X.ownsRow B 75 6 (.slice h i tc) i (yu (List.replicate i default) (List.replicate i (N7)))) (d:X.ownsRow B 3 1 (.slice ma k mc) k (zx xI (List.replicate k 0)))
  (g:∀x,(Value.slice h i tc).ownBlock=some x->(Value.slice ma k mc).ownBlock≠some x):OwnAt B X (.slice h i tc) (.slice ma k mc) (List.replicate i default) (List.replicate k 0) (List.replicate i (N7)):=by
 have m:∀j,(List.replicate i (default:zD)).getD j default=default:=λj=>by simp [List.getD_eq_getElem?_getD,List.getElem?_replicate];split<;>rfl
 have l:∀j,(List.replicate i (Value.slice none 0 0)).getD j (N7)=N7:=λj=>by simp [List.getD_eq_getElem?_getD,List.getElem?_replicate];split<;>rfl
 refine⟨by simpa using c,by simpa using d,λj _=>by rw [m];rfl,by simp,λj _=> ?_,λj _ k f=> ?_,g,λa b _ _ _ k f=> ?_⟩
 ·rw [l,m];exact World.ownsRow_nil _ _ _ _
 ·rw [l] at f;simp [Value.ownBlock] at f
 rw [l] at f;simp [Value.ownBlock] at f
def zww (w:World) (s:zo) (e:Ending) (w':World):Prop:=(∃sv mv bs,e= .returned (yB s sv mv)/\OwnAt w.heap.size w' sv mv s.threads s.mem bs)/\Below w.heap.size w w'
theorem ztk (w:World) (c:zG) (tv:Value) (d:Nat) (h:yP d w tv c.threads):Calls Tryz.prog 21 #[yj c tv] w (zww w (vM c)):=by
 obtain⟨J,cc,rfl,K⟩:=zh.slice h;obtain⟨co,A⟩:=qxE (codeOk c);have f:=λW (hW:yP d W (.slice J c.threads.length cc) c.threads)=>ziI W c (.slice J c.threads.length cc) d hW;rw [<-A] at f;have t:vM c=if co then⟨List.replicate c.threads.length default,List.replicate c.vars.toNat 0,false⟩ else⟨[], [],false⟩:=by rw [A];rfl
 obtain⟨S,v⟩:=qxE (vM c);rw [<-v];rw [t] at v
 have C:co=true->1<=c.vars/\c.vars<=4/\c.threads.length<=4:=λe=>by
  have:=xY (A.symm.trans e);exact⟨this.1,this.2.1,this.2.2.2.2.2⟩
 obtain⟨vars,dom,cs⟩:=c;simp only [] at h K f C v ⊢;unfold yj;unfold yj at f;simp only [] at f ⊢;obtain⟨n,hn⟩:=qxE cs.length;rw [<-hn] at h K f C v ⊢;have hB:=zbv w (.cells #[I4 vars,I4 dom, .slice J n cc] 25) (.cells #[N7,N7, .bool false] 61) (.cells #[N7,N7, .bool false] 61);have HB:=qh hB;have E:=qh (zbw w (.cells #[I4 vars,I4 dom, .slice J n cc] 25) (.cells #[N7,N7, .bool false] 61) (.cells #[N7,N7, .bool false] 61));have H2:=qh (zaN w (.cells #[I4 vars,I4 dom, .slice J n cc] 25) (.cells #[N7,N7, .bool false] 61) (.cells #[N7,N7, .bool false] 61))
 have H3:=qh (zbx w (.cells #[I4 vars,I4 dom, .slice J n cc] 25) (.cells #[N7,N7, .bool false] 61) (.cells #[N7,N7, .bool false] 61));have HT:=qh (zh.below (xV.stays d) h hB);have T:=qh f;have kG:=qh C;obtain⟨z,G⟩:=qxE (vars.toNat:Nat);rw [<-G] at v;have HS:=qh v;have HNV:=qh G;clear G;clear h hB f t A hn C v;go_enter Tryz.func21,Tryz.ntmps21
 go_upto_region 2 with fail
 generalize World.alloc (World.alloc (World.alloc w _) _) _=W at HB E H2 H3 HT ⊢;obtain⟨b,H⟩:=qxE w.heap.size;rw [<-H] at E H2 H3 ⊢;have O:=qh H;clear H;have c0:=ze E.o 0;have c1:=ze E.o 1;have c2:=ze E.o 2;go_wp2_with fail
 refine(T.o W HT.o).mono ?_
 rintro e u ⟨rfl,m⟩;have HB1:=qh m;have HK1:=qh ((m.block _ (zA E.o)).trans E.o);have HK2:=qh ((m.block _ (zA H2.o)).trans H2.o);have HK3:=qh ((m.block _ (zA H3.o)).trans H3.o);have yK:=qh (HB.o.trans (m.mono HB.o.size));have Q:=uH.begin HK3.o;have M:=qh Q;clear m c0 c1 c2 Q E H2 H3 T HT HB HB1
 have yG:J2 (∀(X:World) (g:Option Addr) (i tc:Nat) (ma:Option Addr) (k mc:Nat),uH u X (b+2) g i tc ma k mc->
   X.heap[b+1]? =some (.cells #[N7,N7, .bool false] 61 (0,0))/\
   (((X.setCell ⟨b+1,0,none⟩ (.slice g i tc)).setCell ⟨b+1,1,none⟩ (.slice ma k mc)).setCell ⟨b+1,2,none⟩ (.bool false)).heap[b+1]? =some (.cells #[.slice g i tc, .slice ma k mc, .bool false] 61 (0,0))/\
   OwnAt b (((X.setCell ⟨b+1,0,none⟩ (.slice g i tc)).setCell ⟨b+1,1,none⟩ (.slice ma k mc)).setCell ⟨b+1,2,none⟩ (.bool false)) (.slice g i tc) (.slice ma k mc) (List.replicate i default) (List.replicate k 0) (List.replicate i (N7))/\
   Below b w (((X.setCell ⟨b+1,0,none⟩ (.slice g i tc)).setCell ⟨b+1,1,none⟩ (.slice ma k mc)).setCell ⟨b+1,2,none⟩ (.bool false))):=λX g i tc ma k mc y=>by
  have Y:=zA HK2.o;have D:=(y.since.block _ Y (by omega)).trans HK2.o;have j:=zu (zu (zu D 0 (.slice g i tc)) 1 (.slice ma k mc)) 2 (.bool false);simp only [List.setIfInBounds_toArray,List.set_cons_zero,List.set_cons_succ] at j;have v:Since (λk=>k=b+1) X (((X.setCell ⟨b+1,0,none⟩ (.slice g i tc)).setCell ⟨b+1,1,none⟩ (.slice ma k mc)).setCell ⟨b+1,2,none⟩ (.bool false)):=Since.setCell (F:=λk=>k=b+1) (p:=⟨b+1,2,none⟩) (Since.setCell (F:=λk=>k=b+1) (p:=⟨b+1,1,none⟩) (Since.setCell (F:=λk=>k=b+1) (p:=⟨b+1,0,none⟩) (Since.refl _ X) (.inl rfl) _) (.inl rfl) _) (.inl rfl) _;refine⟨D,j, ?_, ?_⟩
  ·have Z:=yK.o.size;rw [<-O.o] at Z;exact(zq1 (B:=u.heap.size) (v.row y.row (λx hx e=>by have:=(y.row.lt x hx).1;omega)) (v.row y.mem (λx hx e=>by have:=(y.mem.lt x hx).1;omega)) y.dis).lower Z
  have m:=yK.o;rw [<-O.o] at m;have:=m.size
  exact(m.trans (y.since.below (by omega) (λx e=>by omega))).trans (v.below (by have:=y.since.size;omega) (λx e=>by omega))
 have V:J2 (∀(X:World) (g:Option Addr) (i tc:Nat) (ma:Option Addr) (k mc:Nat),uH u X (b+2) g i tc ma k mc->
   (X.cell? ⟨b+2,0,none⟩=some (.slice g i tc)/\X.cell? ⟨b+2,1,none⟩=some (.slice ma k mc)/\X.cell? ⟨b+2,2,none⟩=some (.bool false))/\
   (X.cell? ⟨b+1,0,none⟩=some (N7)/\X.cell? ⟨b+1,1,none⟩=some (N7)/\X.cell? ⟨b+1,2,none⟩=some (.bool false))/\
   (X.frozen? ⟨b+1,0,none⟩=false/\X.frozen? ⟨b+1,1,none⟩=false/\X.frozen? ⟨b+1,2,none⟩=false)):=λX g i tc ma k mc y=>by
  have m:=y.box;have P:=(yG.o X g i tc ma k mc y).1;exact⟨⟨ze m 0,ze m 1,ze m 2⟩,⟨ze P 0,ze P 1,ze P 2⟩,⟨zH P 0,zH P 1,zH P 2⟩⟩
 cases co with
 |false=>
  obtain⟨⟨a0,a1,a2⟩,⟨b0,b1,b2⟩,⟨f0,f1,f2⟩⟩:=V.o u _ _ _ _ _ _ M.o;go_wp2_with fail
  (try simp only [Exit.inBlock,Exit.then])
  obtain⟨-,j,t,I⟩:=yG.o u _ _ _ _ _ _ M.o;refine bodyPost_ret (xu rfl _ _ (b+1) 61 _ (0,0) _ rfl j Tryz.underlying61 rfl zN) rfl ?_
  obtain rfl:S=⟨[], [],false⟩:=HS.o;exact⟨⟨_,_,_,rfl,by rw [<-O.o];exact t⟩,by rw [<-O.o];exact I⟩
 |true=>
 obtain⟨hv1,hv4,pF⟩:=kG.o rfl;have uS:vars=(z:Int):=by rw [HNV.o];omega
 have hk:=HK1.o;rw [uS] at hk hv4;have U:=qh hk;clear hk uS hv1
 have HCK:J2 (∀X,Since (λx=>x=b+2) u X->K3 X b 0 (I4 z)/\K3 X b 2 (.slice J n cc)):=λX hX=>by
  have h:=(hX.block _ (zA U.o) (by omega)).trans U.o;exact⟨ze h 0,ze h 2⟩
 go_wp2_with fail
 go_loopg [4] n (λgg s4 wr=>∃(i tc:Nat) (g:Option Addr),i<=n/\J2 (gg=n - i)/\s4=I4 i/\J2 (uH u wr (b+2) g i tc none 0 0))
 case atStart=>exact⟨0,0,none,Nat.zero_le _,rfl,rfl,M.o⟩
 case round=>
 obtain⟨i,tc,g,hi,HG,rfl,R⟩:=hrel;obtain⟨c0,c2⟩:=HCK.o wr R.o.since;by_cases Y:i<n
 ·have vC:(i:Int)<(n:Int):=by omega
  have z0:=ze R.o.box 0
  have L:J2 (∀(X:World) (r:Option Addr) (q:Nat) (o:Obj),X.ownsRow u.heap.size 75 6 (.slice r (i+1) q) (i+1) (yu (List.replicate i default) (List.replicate i (N7))++zlG)->Since (λx=>(Value.slice g i tc).ownBlock=some x) (wr.alloc o) X->
   (∀x,(Value.slice r (i+1) q).ownBlock=some x->(Value.slice g i tc).ownBlock=some x\/x=(wr.alloc o).heap.size)->_):=λX r q o h1 h2 h3=>R.o.thread h1 h2 h3
  go_wp2_with(at_builtin;go_must(refine zO _ rfl _ _ 59 rfl 75 (.agg #[I4 0,I4 0,I4 0,I4 0,I4 0,N7]) 6 64 Tryz.underlying59 zaF rfl (by decide) u.heap.size (.slice g i tc) i (yu (List.replicate i default) (List.replicate i (N7))) rfl (R.o.row.alloc _) ⟨wr.heap.size,0,none⟩ 1 1 zlG rfl rfl (j4 _ _ _) (by decide) (by unfold maxLen;omega) (by omega) (by have:=R.o.since.size;simp;omega) ?_);intro r q X e1 e2 e3 s a e6;have N:=qh (L.o X r q _ e1 s a);have g0:=ze N.o.1 0;have g1:=zH N.o.1 0;clear e1 e2 e3 s a e6);go_roundg (n - (i+1))
  case measure=>rw [HG.o];omega
  case rel=>exact⟨i+1,q,r,by omega,rfl,by simp,N.o.2⟩
 obtain rfl:n=i:=by omega
 go_wp2_with fail
 clear c0 c2;go_loopg [5] z (λgg s5 wr=>∃(k mc:Nat) (ma:Option Addr),k<=z/\J2 (gg=z - k)/\s5=I4 k/\J2 (uH u wr (b+2) g n tc ma k mc))
 case atStart=>exact⟨0,0,none,Nat.zero_le _,rfl,rfl,R.o⟩
 case round=>
 obtain⟨k,mc,ma,hk,HG2,rfl,l⟩:=hrel;obtain⟨c0,c2⟩:=HCK.o wr l.o.since;by_cases hlk:k<z
 rotate_left
 ·obtain rfl:z=k:=by omega
  obtain⟨⟨a0,a1,a2⟩,⟨b0,b1,b2⟩,⟨f0,f1,f2⟩⟩:=V.o wr _ _ _ _ _ _ l.o;go_wp2_with fail
  (try simp only [Exit.inBlock,Exit.then])
  obtain⟨-,j,t,I⟩:=yG.o wr _ _ _ _ _ _ l.o;refine bodyPost_ret (xu rfl _ _ (b+1) 61 _ (0,0) _ rfl j Tryz.underlying61 rfl zN) rfl ?_
  obtain rfl:S=⟨List.replicate n default,List.replicate z 0,false⟩:=HS.o;exact⟨⟨_,_,_,rfl,by rw [<-O.o];exact t⟩,by rw [<-O.o];exact I⟩
 have zFt:(k:Int)<(z:Int):=by omega
 have z1:=ze l.o.box 1
 have L:J2 (∀(X:World) (r:Option Addr) (q:Nat) (o:Obj),X.ownsRow u.heap.size 3 1 (.slice r (k+1) q) (k+1) (zx xI (List.replicate k 0)++ [I4 0])->Since (λx=>(Value.slice ma k mc).ownBlock=some x) (wr.alloc o) X->
  (∀x,(Value.slice r (k+1) q).ownBlock=some x->(Value.slice ma k mc).ownBlock=some x\/x=(wr.alloc o).heap.size)->_):=λX r q o h1 h2 h3=>l.o.more h1 h2 h3
 go_wp2_with(at_builtin;go_must(refine zO _ rfl _ _ 27 rfl 3 (I4 0) 1 8 Tryz.underlying27 jG rfl (by decide) u.heap.size (.slice ma k mc) k (zx xI (List.replicate k 0)) rfl (l.o.mem.alloc _) ⟨wr.heap.size,0,none⟩ 1 1 [I4 0] rfl rfl (j4 _ _ _) (by decide) (by unfold maxLen;omega) (by omega) (by have:=l.o.since.size;simp;omega) ?_);intro r q X e1 e2 e3 s a e6;have N:=qh (L.o X r q _ e1 s a);have g0:=ze N.o.1 1;have g1:=zH N.o.1 1;clear e1 e2 e3 s a e6);go_roundg (z - (k+1))
 case measure=>rw [HG2.o];omega
 case rel=>exact⟨k+1,q,r,by omega,rfl,by simp,N.o.2⟩
theorem ztl (w:World) (c:zG) (tv:Value) (d:Nat) (h:yP d w tv c.threads):Calls Tryz.prog 21 #[yj c tv] w λe f=>(∃sv mv,e= .returned (yB (vM c) sv mv)/\yL (λk=>k<w.heap.size) f (λy=>yD y (vM c) sv mv))/\Below w.heap.size w f:=
 (ztk w c tv d h).mono λ_ _ ⟨⟨sv,mv,_,he,ho⟩,hb⟩=>⟨⟨sv,mv,he,λ_ g=>(ho.since g (λk b e=>by have:=(ho.row.lt k b).1;omega) (λk b e=>by have:=(ho.mem.lt k b).1;omega) (λj i k b e=>by have:=((ho.buf j i).lt k b).1;omega)).state (vM c).bad⟩,hb⟩
theorem zcE {P:Program} (w:World) {f:Array Oper} {o:Oper} {a:Act} {K:Act->World->Prop} {Q:Exit->Act->World->Prop} {E:Prop} (r:Region.wanted o (yielded f a.tmps)=true) (l c:Operand) (t:TypeId) (x:o.op=Op.makeSlice t l c)
  (e:TypeId) (z:Value) (size bytes:Nat) (u:P.underlying t=some (.slice e)) (d:(P.info? e).map (λi=>(i.zero,i.size,i.bytes))=some (some z,size,bytes)) (n:Nat) (y:a.eval l=I4 (n:Int)) (B:a.eval c=I4 (n:Int))
  (p:n<=maxLen) (j:n*bytes<=281474976710656) (h:K (a.put o.dst (.slice (some ⟨w.heap.size,0,none⟩) n n)) (w.alloc (.cells (madeCells z.cells (n*size)).toList.toArray e))):if Region.wanted o (yielded f a.tmps)=true then Oper.wp P o a w K Q else E:=by
 rw [if_pos r];obtain⟨i,A,q,b,k⟩:=info_parts d;have g:(n:Int)<=9223372036854775807:=by have:=p;unfold maxLen at this;omega
 have m:(i.bytes:Int)*(n:Int)<=281474976710656:=by
  have h:((i.bytes*n:Nat):Int)<=281474976710656:=by rw [k,Nat.mul_comm];omega
  rwa [Int.natCast_mul] at h
 have v:=run_make (P:=P) w t e i z u A q .i64 .i64 (n:Int) (n:Int) (by omega) (Int.le_refl _) m g;unfold Oper.wp execOp;simp only [x,resolve,Sem.run_bind,Sem.run_pure,Result.andThen_ok,y,B,v,Int.toNat_natCast,b];rw [Array.toArray_toList] at h;exact h
theorem zq2 {z:Array Value} {n j:Nat} (h:j<n):(madeCells z n).toList[j]? =some z[j % z.size]! :=by
 rw [Array.getElem?_toList,madeCells,Array.getElem?_map,Array.getElem?_range,if_pos h];rfl
theorem zm5 (n:Nat):(madeCells (Value.agg #[I4 0,I4 0,I4 0,I4 0,I4 0,N7]).cells (n*6)).toList=yu (List.replicate n default) (List.replicate n (N7)):=by
 have d:=uF (List.replicate n default) (List.replicate n (N7));rw [List.length_replicate] at d;apply List.ext_getElem?
 intro j;by_cases hj:j<n*6
 rotate_left
 ·rw [List.getElem?_eq_none (by simp [size_madeCells];omega),List.getElem?_eq_none (by omega)]
 rw [zq2 hj];have e:j=j / 6*6+j % 6:=by omega
 have f:(List.replicate n (default:zD)).getD (j / 6) default=default:=by simp [List.getD_eq_getElem?_getD,List.getElem?_replicate];split<;>rfl
 have c:(List.replicate n (Value.slice none 0 0)).getD (j / 6) (N7)=N7:=by simp [List.getD_eq_getElem?_getD,List.getElem?_replicate];split<;>rfl
 have b:=je (l:=List.replicate n default) (bs:=List.replicate n (N7)) (j:=j / 6) (i:=j % 6) (by rw [List.length_replicate];omega) (by omega)
 rw [<-e,f,c] at b;rw [b];have g:j % 6=0\/j % 6=1\/j % 6=2\/j % 6=3\/j % 6=4\/j % 6=5:=by omega
 show some (#[Value.int .i64 0,I4 0,I4 0,I4 0,I4 0,N7][j % 6]!)=_
 rcases g with h|h|h|h|h|h<;>rw [h] <;>rfl
theorem zwx (n:Nat):(madeCells (Value.int .i64 0).cells (n*1)).toList=zx xI (List.replicate n 0):=by
 rw [Nat.mul_one];refine(toList_madeCells_one (I4 0) n).trans ?_
 induction n with
 |zero=>rfl
 |succ n ih=>rw [zkO, <-ih,List.replicate_succ']
def zkP (w:World) (s:zo) (e:Ending) (w':World):Prop:=(∃sv mv,e= .returned (yB s sv mv)/\yL (λk=>k<w.heap.size) w' (λy=>yD y s sv mv))/\Below w.heap.size w w'
theorem zkQ {w X:World} {c b m n k:Nat} (l:Below w.heap.size w X) (j:X.heap[c]? =some (.cells (madeCells (Value.agg #[I4 0,I4 0,I4 0,I4 0,I4 0,N7]).cells (n*6)).toList.toArray 75 (0,0))) (i:X.heap[b]? =some (.cells (madeCells (Value.int .i64 0).cells (k*1)).toList.toArray 3 (0,0)))
  (g:w.heap.size<=c) (d:w.heap.size<=b) (p:n<=4) (q:k<=4) (o:X.heap[m]? =some (.cells #[.slice (some ⟨c,0,none⟩) n n, .slice (some ⟨b,0,none⟩) k k, .bool false] 61 (0,0))):
  zkP w ⟨List.replicate n default,List.replicate k 0,false⟩ (.returned (.agg #[.slice (some ⟨c,0,none⟩) n n, .slice (some ⟨b,0,none⟩) k k, .bool false])) X:=by
 rw [zm5] at j;rw [zwx] at i;have r1:=gB (n:=n) j g (by rw [uF,List.length_replicate]) (by unfold maxLen;omega)
 have r2:=gB (n:=k) i d (by rw [wK (f:=xI) zbe,List.length_replicate]) (by unfold maxLen;omega)
 exact⟨⟨_,_,rfl,λy h=>zot (h.row r1 (λx hx e=>by cases hx;exact absurd g (Nat.not_le.2 e))) (h.row r2 (λx hx e=>by cases hx;exact absurd d (Nat.not_le.2 e)))⟩,l⟩
theorem zq3 (w:World) (c:zG) (tv:Value) (d:Nat) (h:yP d w tv c.threads):Calls Tryz.prog 34 #[yj c tv] w (zkP w (vM c)):=by
 obtain⟨ca,cc,rfl,hcl⟩:=zh.slice h;obtain⟨co,O⟩:=qxE (codeOk c);have f:=λW (hW:yP d W (.slice ca c.threads.length cc) c.threads)=>zhr W c (.slice ca c.threads.length cc) d hW;rw [<-O] at f;have hst:vM c=if co then⟨List.replicate c.threads.length default,List.replicate c.vars.toNat 0,false⟩ else⟨[], [],false⟩:=by rw [O];rfl
 rw [hst]
 have P:co=true->1<=c.vars/\c.vars<=4/\c.threads.length<=4:=λe=>by
  have:=xY (O.symm.trans e);exact⟨this.1,this.2.1,this.2.2.2.2.2⟩
 obtain⟨vars,dom,cs⟩:=c;simp only [] at h hcl f P ⊢;unfold yj;unfold yj at f;simp only [] at f ⊢;obtain⟨n,q⟩:=qxE cs.length;rw [<-q] at h hcl f P ⊢;have a:=(((Loc.start w).alloc 25 [I4 vars,I4 dom, .slice ca n cc]).alloc 61 [N7,N7, .bool false]);have hsz:(w.alloc (.cells [I4 vars,I4 dom, .slice ca n cc].toArray 25)).heap.size=w.heap.size+1:=by simp
 rw [hsz] at a;have E:=qh a;clear a hsz;have HT:=qh h;have zbV:=qh f;have kG:=qh P;obtain⟨i,Q⟩:=qxE (vars.toNat:Nat);rw [<-Q];have HNV:=qh Q;obtain⟨R,hR⟩:=qxE (if co then⟨List.replicate n default,List.replicate i 0,false⟩ else⟨[], [],false⟩:zo);rw [<-hR];have HRR:=qh hR;clear hR;clear h f hst O q P Q;go_enter Tryz.func34,Tryz.ntmps34
 go_upto_region 1 with fail
 obtain⟨b,hgx⟩:=qxE w.heap.size;have uI:J2 (b+1≠b):=by rw [J2];omega
 rw [<-hgx] at E ⊢;generalize World.alloc (World.alloc w _) _=W at E ⊢;clear hgx;obtain⟨Z, -⟩:=E.o.news (b,25, [I4 vars,I4 dom, .slice ca n cc]) (List.mem_cons_of_mem _ (List.mem_cons_self ..));have c0:=ze Z 0;have c1:=ze Z 1;have c2:=ze Z 2;clear Z;go_wp2_with fail
 refine(zbV.o W (zh.below (xV.stays d) HT.o E.o.below)).mono ?_
 rintro e W1 ⟨rfl,hb⟩;have HL:=qh (E.o.later hb);clear hb c0 c1 c2 zbV HT E;cases co with
 |false=>
  obtain⟨Y, -⟩:=HL.o.news (b+1,61, [N7,N7, .bool false]) (List.mem_cons_self ..);have a0:=ze Y 0;have a1:=ze Y 1;have a2:=ze Y 2;have f0:=zH Y 0;have f1:=zH Y 1;have f2:=zH Y 2;have z:=qh (HL.o.store (List.mem_cons_self ..) [N7,N7, .bool false] rfl);clear Y;go_wp2_with fail
  (try simp only [Exit.inBlock,Exit.then])
  obtain⟨j, -⟩:=z.o.news (b+1,61, [N7,N7, .bool false]) (zbf (List.mem_cons_self ..));have zeW:(((W1.setCell ⟨b+1,0,none⟩ (N7)).setCell ⟨b+1,1,none⟩ (N7)).setCell ⟨b+1,2,none⟩ (.bool false)).heap[b+1]? =some (.cells #[N7,N7, .bool false] 61 (0,0)):=j;refine bodyPost_ret (xu rfl _ _ (b+1) 61 _ (0,0) _ rfl zeW Tryz.underlying61 rfl zN) rfl ?_
  have hr:R=⟨[], [],false⟩:=HRR.o;rw [hr];exact⟨⟨_,_,rfl,λy _=>⟨zh.nil _,zh.nil _⟩⟩,z.o.below⟩
 |true=>
 obtain⟨hv1,hv4,pF⟩:=kG.o rfl;have uS:vars=(i:Int):=by rw [HNV.o];omega
 subst uS;have z2V:i<=4:=by omega
 clear kG HNV hv1 hv4
 have CC:J2 (∀y,Since (λk=>k=b+1) W1 y->K3 y b 0 (I4 i)/\K3 y b 2 (.slice ca n cc)):=λy hy=>by
  obtain⟨Z, -⟩:=HL.o.news (b,25, [I4 i,I4 dom, .slice ca n cc]) (List.mem_cons_of_mem _ (List.mem_cons_self ..));have n3:=(hy.block b (zA Z) (by omega)).trans Z;exact⟨ze n3 0,ze n3 2⟩
 go_wp2_with fail
 refine qz (S:=λx=>Since (λk=>k=b+1) W1 x) (Since.refl _ _).drew (λ_=> ?_)
 obtain⟨U,s⟩:=qxE W1.drew;have u:J2 (Since (λk=>k=b+1) W1 U):=by rw [s];exact(Since.refl _ _).drew
 have M:=qh (HL.o.drew);rw [<-s] at M ⊢;clear s;refine zB 0 zM (u.o) ?_
 refine zB 1 CC.o (u.o) ?_
 refine zB 2 zM (u.o) ?_
 refine zB 4 zM (u.o) ?_
 refine zB 5 CC.o (u.o) ?_
 refine wpAnyH_ready (rs:= [3,6]) (by kernel_rfl) (by simp) ?_
 refine AllReadyH.cons rfl (λK hK=> ?_) (AllReadyH.cons rfl (λK hK=> ?_) AllReadyH.nil)
 ·skip
  refine zcE U (by rfl) (.tmp 9) (.tmp 9) 59 rfl 75 (.agg #[I4 0,I4 0,I4 0,I4 0,I4 0,N7]) 6 64 Tryz.underlying59 zaF n (by rfl) (by rfl) (by unfold maxLen;omega) (by omega) ?_
  have N:(b+1)≠U.heap.size:=M.o.zcl (List.mem_cons_self ..);have v:=M.o.alloc 75 (madeCells (Value.agg #[I4 0,I4 0,I4 0,I4 0,I4 0,N7]).cells (n*6)).toList;have I:=(u.o).alloc (.cells (madeCells (Value.agg #[I4 0,I4 0,I4 0,I4 0,I4 0,N7]).cells (n*6)).toList.toArray 75);refine hK.out _ _ I (λ_=> ?_)
  change wpAnyH _ _ _ _ _ _ _ (Act.put _ (some 10) _) _;simp only [Act.put,jJ];try simp only [jK,jL]
  obtain⟨G,m⟩:=qxE U.heap.size;rw [<-m] at v N ⊢;clear m;replace N:=qh N;generalize World.alloc U _=Xs2 at v I ⊢;replace v:=qh v;replace I:=qh I;clear hK K;refine yA 6 rfl (λK hK=> ?_)
  refine zcE Xs2 (by rfl) (.tmp 12) (.tmp 12) 27 rfl 3 (I4 0) 1 8 Tryz.underlying27 jG i (by rfl) (by rfl) (by unfold maxLen;omega) (by omega) ?_
  have T:(b+1)≠Xs2.heap.size:=v.o.zcl (List.mem_cons_of_mem _ (List.mem_cons_self ..));have X:G≠Xs2.heap.size:=v.o.zcl (List.mem_cons_self ..);have D:=v.o.alloc 3 (madeCells (Value.int .i64 0).cells (i*1)).toList;have C:=(I.o).alloc (.cells (madeCells (Value.int .i64 0).cells (i*1)).toList.toArray 3);refine hK.out _ _ C (λ_=> ?_)
  change wpAnyH _ _ _ _ _ _ _ (Act.put _ (some 13) _) _;simp only [Act.put,jJ];try simp only [jK,jL]
  obtain⟨F,l⟩:=qxE Xs2.heap.size;rw [<-l] at D T X ⊢;clear l;replace T:=qh T;replace X:=qh X;generalize World.alloc Xs2 _=Xs4 at D C ⊢;replace D:=qh D;replace C:=qh C;clear hK K;refine zB 7 zM (C.o) ?_
  refine yA 8 rfl (λK hK=> ?_)
  obtain⟨q, -⟩:=D.o.news (b+1,61, [N7,N7, .bool false]) (List.mem_cons_of_mem _ (List.mem_cons_of_mem _ (List.mem_cons_self ..)));have d0:=ze q 0;have f0:=zH q 0;have d1:=ze q 1;have f1:=zH q 1;have d2:=ze q 2;have f2:=zH q 2;clear q;have z:=qh (D.o.store (g:=b+1) (t:=61) (cs:= [N7,N7, .bool false]) (List.mem_cons_of_mem _ (List.mem_cons_of_mem _ (List.mem_cons_self ..))) [.slice (some ⟨G,0,none⟩) n n, .slice (some ⟨F,0,none⟩) i i, .bool false] rfl);go_simp
  clear d0 d1 d2 f0 f1 f2;refine hK.out _ (yU Xs4 (b+1) 0 [.slice (some ⟨G,0,none⟩) n n, .slice (some ⟨F,0,none⟩) i i, .bool false]) ((C.o).trans (xR _ _ _) (λ_ h=> .inl h)) (λ_=> ?_)
  obtain⟨j, -⟩:=z.o.news (b+1,61, [.slice (some ⟨G,0,none⟩) n n, .slice (some ⟨F,0,none⟩) i i, .bool false]) (zbf (List.mem_cons_of_mem _ (List.mem_cons_of_mem _ (List.mem_cons_self ..))));obtain⟨m,L⟩:=z.o.news (G,75,(madeCells (Value.agg #[I4 0,I4 0,I4 0,I4 0,I4 0,N7]).cells (n*6)).toList) (kK (p:=(G,75,(madeCells (Value.agg #[I4 0,I4 0,I4 0,I4 0,I4 0,N7]).cells (n*6)).toList)) (List.mem_cons_of_mem _ (List.mem_cons_self ..)) (by simpa using (Ne.symm N.o)))
  obtain⟨l,J⟩:=z.o.news (F,3,(madeCells (Value.int .i64 0).cells (i*1)).toList) (kK (p:=(F,3,(madeCells (Value.int .i64 0).cells (i*1)).toList)) (List.mem_cons_self ..) (by simpa using (Ne.symm T.o)));have yG:=qh (zkQ (w:=w) z.o.below m l L J pF z2V j);have zL:=qh j;clear m l L J j z;generalize yU Xs4 (b+1) 0 _=Xs5 at yG zL ⊢;clear hK K;refine xC ?_
  go_wp2_with fail
  (try simp only [Exit.inBlock,Exit.then])
  refine bodyPost_ret (xu rfl _ _ (b+1) 61 _ (0,0) _ rfl zL.o Tryz.underlying61 rfl zN) rfl ?_
  have hr:R=⟨List.replicate n default,List.replicate i 0,false⟩:=HRR.o;rw [hr];exact yG.o
 skip
 refine zcE U (by rfl) (.tmp 12) (.tmp 12) 27 rfl 3 (I4 0) 1 8 Tryz.underlying27 jG i (by rfl) (by rfl) (by unfold maxLen;omega) (by omega) ?_
 have T:(b+1)≠U.heap.size:=M.o.zcl (List.mem_cons_self ..);have r:=M.o.alloc 3 (madeCells (Value.int .i64 0).cells (i*1)).toList;have H:=(u.o).alloc (.cells (madeCells (Value.int .i64 0).cells (i*1)).toList.toArray 3);refine hK.out _ _ H (λ_=> ?_)
 change wpAnyH _ _ _ _ _ _ _ (Act.put _ (some 13) _) _;simp only [Act.put,jJ];try simp only [jK,jL]
 obtain⟨F,l⟩:=qxE U.heap.size;rw [<-l] at r T ⊢;clear l;replace T:=qh T;generalize World.alloc U _=Xs7 at r H ⊢;replace r:=qh r;replace H:=qh H;clear hK K;refine yA 3 rfl (λK hK=> ?_)
 refine zcE Xs7 (by rfl) (.tmp 9) (.tmp 9) 59 rfl 75 (.agg #[I4 0,I4 0,I4 0,I4 0,I4 0,N7]) 6 64 Tryz.underlying59 zaF n (by rfl) (by rfl) (by unfold maxLen;omega) (by omega) ?_
 have N:(b+1)≠Xs7.heap.size:=r.o.zcl (List.mem_cons_of_mem _ (List.mem_cons_self ..));have V:F≠Xs7.heap.size:=r.o.zcl (List.mem_cons_self ..);have A:=r.o.alloc 75 (madeCells (Value.agg #[I4 0,I4 0,I4 0,I4 0,I4 0,N7]).cells (n*6)).toList;have B:=(H.o).alloc (.cells (madeCells (Value.agg #[I4 0,I4 0,I4 0,I4 0,I4 0,N7]).cells (n*6)).toList.toArray 75);refine hK.out _ _ B (λ_=> ?_)
 change wpAnyH _ _ _ _ _ _ _ (Act.put _ (some 10) _) _;simp only [Act.put,jJ];try simp only [jK,jL]
 obtain⟨G,m⟩:=qxE Xs7.heap.size;rw [<-m] at A N V ⊢;clear m;replace N:=qh N;replace V:=qh V;generalize World.alloc Xs7 _=Xs9 at A B ⊢;replace A:=qh A;replace B:=qh B;clear hK K;refine zB 7 zM (B.o) ?_
 refine yA 8 rfl (λK hK=> ?_)
 obtain⟨q, -⟩:=A.o.news (b+1,61, [N7,N7, .bool false]) (List.mem_cons_of_mem _ (List.mem_cons_of_mem _ (List.mem_cons_self ..)));have d0:=ze q 0;have f0:=zH q 0;have d1:=ze q 1;have f1:=zH q 1;have d2:=ze q 2;have f2:=zH q 2;clear q;have z:=qh (A.o.store (g:=b+1) (t:=61) (cs:= [N7,N7, .bool false]) (List.mem_cons_of_mem _ (List.mem_cons_of_mem _ (List.mem_cons_self ..))) [.slice (some ⟨G,0,none⟩) n n, .slice (some ⟨F,0,none⟩) i i, .bool false] rfl);go_simp
 clear d0 d1 d2 f0 f1 f2;refine hK.out _ (yU Xs9 (b+1) 0 [.slice (some ⟨G,0,none⟩) n n, .slice (some ⟨F,0,none⟩) i i, .bool false]) ((B.o).trans (xR _ _ _) (λ_ h=> .inl h)) (λ_=> ?_)
 obtain⟨j, -⟩:=z.o.news (b+1,61, [.slice (some ⟨G,0,none⟩) n n, .slice (some ⟨F,0,none⟩) i i, .bool false]) (zbf (List.mem_cons_of_mem _ (List.mem_cons_of_mem _ (List.mem_cons_self ..))));obtain⟨m,L⟩:=z.o.news (G,75,(madeCells (Value.agg #[I4 0,I4 0,I4 0,I4 0,I4 0,N7]).cells (n*6)).toList) (kK (p:=(G,75,(madeCells (Value.agg #[I4 0,I4 0,I4 0,I4 0,I4 0,N7]).cells (n*6)).toList)) (List.mem_cons_self ..) (by simpa using (Ne.symm N.o)))
 obtain⟨l,J⟩:=z.o.news (F,3,(madeCells (Value.int .i64 0).cells (i*1)).toList) (kK (p:=(F,3,(madeCells (Value.int .i64 0).cells (i*1)).toList)) (List.mem_cons_of_mem _ (List.mem_cons_self ..)) (by simpa using (Ne.symm T.o)));have yG:=qh (zkQ (w:=w) z.o.below m l L J pF z2V j);have zL:=qh j;clear m l L J j z;generalize yU Xs9 (b+1) 0 _=zq4 at yG zL ⊢;clear hK K;refine xC ?_
 go_wp2_with fail
 (try simp only [Exit.inBlock,Exit.then])
 refine bodyPost_ret (xu rfl _ _ (b+1) 61 _ (0,0) _ rfl zL.o Tryz.underlying61 rfl zN) rfl ?_
 have hr:R=⟨List.replicate n default,List.replicate i 0,false⟩:=HRR.o;rw [hr];exact yG.o
