/- Steps. -/
import Derived.Laws.CopyOwn
import Derived.Test.YtmijlmglnnbdjaaGreatDoorUtRight
set_option linter.all false
namespace Go.Proofs.YtmijlmglnnbdjaaGreatDoor
open Go.RowKit
set_option maxRecDepth 100000
set_option maxHeartbeats 16000000
theorem zs9 (n:Nat) (b:n<=1000000000):bits BinOp.and IntKind.u64 (n:Int) 4294967295=(n:Int):=by
 rw [and_low32 _ (by omega) (by omega)];omega
theorem zsA (n:Nat) (c:n<=1000000000) (w:World):Calls Tryz.prog 225 #[.int .u64 1, .int .u64 n] w λe b=>e= .returned (.tuple #[.int .u64 0, .int .u64 n])/\w=b:=by
 have i:bits BinOp.and IntKind.u64 1 4294967295=1:=by decide+kernel
 have j:bits BinOp.and IntKind.u64 0 4294967295=0:=by decide+kernel
 have h:=zs9 n c;have g:(n:Int) / 4294967296=0:=by omega
 have f:IntKind.u64.wrap (n:Int)=(n:Int):=IntWalk.u64_in _ (by omega);have d:IntKind.u64.wrap 0=0:=by decide+kernel
 go_enter Tryz.func225,Tryz.ntmps225
 go_wp2
 go_ret2
 exact⟨rfl,rfl⟩
theorem z06 (n:Nat) (c:n<=1000000000) (w:World):Calls Tryz.prog 208 #[.int .u64 1, .int .u64 n] w λe b=>e= .returned (.tuple #[.int .u64 0, .int .u64 n])/\w=b:=by
 have h:=λW=>zsA n c W;have H:=qh h;have d:IntKind.u64.wrap (n:Int)=(n:Int):=IntWalk.u64_in _ (by omega);clear h;go_enter Tryz.func208,Tryz.ntmps208
 go_wp2_with(go_at_call 225;refine(H.o _).mono ?_;rintro e b ⟨rfl,rfl⟩);go_ret2
 exact⟨rfl,rfl⟩
def filled (b:Bool) (n m:Nat):List Value:=(List.range n).map (λj=>Value.bool (decide (j<m) && b))
theorem zol (b:Bool) (n:Nat):filled b n 0=(madeCells (Value.bool false).cells (n*1)).toList:=by
 apply List.ext_getElem?
 intro i;simp only [madeCells,filled,Nat.mul_one];by_cases h:i<n<;>simp [h,Value.cells,Nat.mod_one]
theorem zc8 (b:Bool) (n m:Nat):(filled b n m).length=n:=by simp [filled]
theorem zfG (b:Bool) (n m k:Nat) (h:m+k<=n):splice (filled b n m) m (List.replicate k (.bool b))=filled b n (m+k):=by
 apply List.ext_getElem?
 intro i;unfold splice;simp only [List.length_replicate];by_cases h1:i<m
 ·rw [List.getElem?_append_left (by rw [List.length_take,zc8];omega),List.getElem?_take_of_lt h1]
  have d:i<n:=by omega
  have c:i<m+k:=by omega
  simp [filled,h1,d,c]
 rw [List.getElem?_append_right (by rw [List.length_take,zc8];omega),List.length_take,zc8,show min m n=m by omega]
 by_cases d:i<m+k
 ·rw [List.getElem?_append_left (by rw [List.length_replicate];omega)]
  have c:i<n:=by omega
  have f:i - m<k:=by omega
  simp [filled,d,c,f]
 rw [List.getElem?_append_right (by rw [List.length_replicate];omega),List.getElem?_drop,List.length_replicate]
 have e:m+k+(i - m - k)=i:=by omega
 rw [e];by_cases c:i<n
 ·simp [filled,h1,d,c]
 simp [filled,c]
theorem zom (b:Bool) (n:Nat):filled b n n=(List.replicate n b).map Value.bool:=by
 apply List.ext_getElem?
 intro i;by_cases h:i<n<;>simp [filled,h]
theorem zsB {w:World} {B:Nat} {e:TypeId} {g n:Nat} {xs:List Value} (h:w.ownsRow B e 1 (.slice (some ⟨g,0,none⟩) n n) n xs):w.heap[g]? =some (.cells xs.toArray e (0,0)):=by
 rcases h.2 with⟨b,_⟩|⟨g',j,i,b,_,f,_,_,d,c⟩
 ·cases b
 cases b
 rw [List.take_of_length_le (by simp [d])] at c;rw [f, <-c]
theorem zkG:(Tryz.prog.info? 4).map (·.size)=some 1:=by kernel_rfl
theorem zqd (b:Bool) (n:Nat) (B:1<=n) (X:n<=1000000000) (w:World) (a:Addr) (h:w.cell? a=some (.bool b)) (Q:a.block<w.heap.size) (L:a.spot=none):
  Calls Tryz.prog 180 #[.slice (some a) 1 1,I4 n] w (yO (List.replicate n b) w):=by
 obtain⟨G,K,A,z,t⟩:=info_parts zgd;have C:G.bytes*n<=281474976710656:=by rw [t];omega
 have p:=λW=>z06 n X W;have HM:=qh p;have e4:IntKind.u64.wrap (n:Int)=(n:Int):=IntWalk.u64_in _ (by omega);have e5:IntKind.i64.wrap (n:Int)=(n:Int):=IntWalk.i64_in _ (by omega);have I:¬(n:Int)<0:=by omega
 clear t p;go_enter Tryz.func180,Tryz.ntmps180
 go_wp2_with(first|(go_at_call 208;refine(HM.o _).mono ?_;rintro e w' ⟨rfl,rfl⟩)|(at_make;refine wpList_make_full _ rfl _ _ 57 rfl w.heap.size 4 G (.bool false) 1 Tryz.underlying57 K A z .i64 .i64 _ _ n rfl rfl (by omega) (by omega) C (by unfold maxLen;omega) (Nat.le_refl _) ?_;intro F d r;have f:=zsB d;rw [<-zol b] at f;have q:Below w.heap.size w F:=((Since.refl (λ_=>False) w).grown r (by simp)).below (Nat.le_refl _) (λk h=>h.elim);have D:F.cell? a=some (.bool b):=(q.cell Q).trans h;clear d r)|(with_reducible refine wpList_copy_splice rfl (.tmp 31) (.tmp 32) 57 57 rfl 4 Tryz.underlying57 zkG (some ⟨w.heap.size,0,none⟩) (some a) n n 1 1 rfl rfl w.heap.size 0 (filled b n 0) 4 f [.bool b] (by simp [Nat.min_def];omega) (λ_=>⟨rfl,a,rfl,λj v i=>by(cases j with|zero=>(simp at i;subst i;rw [Addr.add];split<;>simp_all)|succ j=>simp at i)⟩) (by simp [filled];omega) (by simp [Value.oneCell']) w.heap.size w q (Nat.le_refl _) ?_;intro M y l;clear f q D))
 go_loopg [8] (n - 1) (λg N wr=>∃m:Nat,1<=m/\m<=n/\J2 (g+m=n)/\N=I4 m/\J2 (wr.heap[w.heap.size]? =some (.cells (filled b n m).toArray 4 (0,0)))/\Below w.heap.size w wr)
 case atStart=>exact⟨1,Nat.le_refl _,B,by rw [J2];omega,rfl,by have:=y.out;rw [show([Value.bool b] :List Value)=List.replicate 1 (.bool b) from rfl,zfG b n 0 1 (by omega)] at this;exact this,l⟩
 case round=>
 obtain⟨m,Z,Y,HG,rfl,E,u⟩:=hrel;clear y l;by_cases hlt:m<n
 rotate_left
 ·obtain rfl:m=n:=by omega
  have HB:=qh u;clear u;go_wp2
  go_ret;refine⟨_,rfl, ?_,HB.o⟩
  have x:wr.heap[w.heap.size]? =some (.cells (filled b m m).toArray 4 (0,0)):=E.o;rw [zom] at x;refine⟨by simp, .inr ⟨w.heap.size,m,_,by simp,Nat.le_refl _,x,by simp,by unfold maxLen;omega,by simp,by simp⟩⟩
 have V:¬n=m:=by omega
 have c:∀j,j<min m (n - m)->wr.drew.cell? ⟨w.heap.size,j,none⟩=some (.bool b):=by
  intro j i;rw [ze (w:=wr.drew) E.o j];have x:j<n:=by omega
  have s:j<m:=by omega
  simp [filled,x,s]
 have U:J2 (wr.drew.heap[w.heap.size]? =some (.cells (filled b n m).toArray 4 (0,0))):=E.o;have T:J2 ((List.replicate (min m (n - m)) (Value.bool b)).length=Nat.min m (n - m)):=by rw [J2,List.length_replicate]
 have S:J2 (0<(List.replicate (min m (n - m)) (Value.bool b)).length->(some ⟨w.heap.size,m,none⟩:Option Addr)=some ⟨w.heap.size,m,none⟩/\∃J,(some ⟨w.heap.size,0,none⟩:Option Addr)=some J/\∀j v,(List.replicate (min m (n - m)) (Value.bool b))[j]? =some v->wr.drew.cell? (J.add j)=some v):=by
  refine λ_=>⟨rfl,_,rfl,λj v i=> ?_⟩
  rw [List.getElem?_replicate] at i;split at i
  ·cases i;rw [show(⟨w.heap.size,0,none⟩:Addr).add j=⟨w.heap.size,j,none⟩ from by unfold Addr.add;split<;>simp_all];exact c j (by assumption)
  cases i
 have R:J2 (m+(List.replicate (min m (n - m)) (Value.bool b)).length<=(filled b n m).length):=by rw [J2,List.length_replicate,zc8];omega
 have P:J2 (∀v∈List.replicate (min m (n - m)) (Value.bool b),v.oneCell'=true):=by intro v H;rw [List.mem_replicate] at H;rw [H.2];rfl
 have O:J2 (Below w.heap.size w wr.drew):=u.drew;clear c u;go_wp2
 go_region_law (refine step_copy_splice rfl (.tmp 41) (.tmp 44) 57 57 rfl 4 Tryz.underlying57 zkG (some ⟨w.heap.size,m,none⟩) (some ⟨w.heap.size,0,none⟩) (n - m) (n - m) m n (by simp [Act.eval,Act.put]) (by simp [Act.eval,Act.put]) w.heap.size m (filled b n m) 4 U.o (List.replicate (min m (n - m)) (.bool b)) T.o (λh=>⟨rfl,(S.o h).2⟩) R.o P.o w.heap.size w O.o (Nat.le_refl _) ?_;intro M y l);go_wp2
 go_roundg (n - (m+min m (n - m)))
 case measure=>have:=HG.o;omega
 case rel=>
 refine⟨m+min m (n - m),by omega,by omega,by rw [J2];omega, ?_, ?_,l⟩
 ·rw [IntWalk.i64_in _ (by omega)];rfl
 have:=y.out
 rw [zfG b n m _ (by omega)] at this;exact this
def qW (w:World) (tb:Nat) (lv:Value) (back:Nat) (pv:Value):Prop:=w.heap[tb]? =some (.cells #[lv,I4 back,pv] 137 (0,0))
theorem qW.below {w b:World} {tb:Nat} {c:Value} {back:Nat} {pv:Value} (h:qW w tb c back pv) (d:Below w.heap.size w b):qW b tb c back pv:=(d.block _ (zA h)).trans h
theorem zmh (w:World) (tb:Nat) (f:Option Addr) (n d back:Nat) (pv:Value) (h:qW w tb (.slice f n d) back pv) (k:n<=1000000000) (i:Nat) (l:i<n):
  Calls Tryz.prog 136 #[.pointer (some ⟨tb,0,none⟩),I4 i] w λe c=>e= .returned (I4 (nx n back i))/\w=c:=by
 have j:=ze h 0;have g:=ze h 1;simp only [List.getElem?_toArray,List.getElem?_cons_zero,List.getElem?_cons_succ] at j g;clear h;by_cases hl:i+1<n
 ·have hx:nx n back i=i+1:=by unfold nx;rw [if_pos hl]
  rw [hx];have b:(i:Int)+1<n:=by omega
  clear hx;go_enter Tryz.func136,Tryz.ntmps136
  go_wp2
  go_ret;exact⟨by simp,rfl⟩
 have hx:nx n back i=back:=by unfold nx;rw [if_neg hl]
 rw [hx];have b:¬(i:Int)+1<n:=by omega
 clear hx;go_enter Tryz.func136,Tryz.ntmps136
 go_wp2
 go_ret;exact⟨rfl,rfl⟩
theorem zaR (w:World) (tb:Nat) (t:Option Addr) (n q back:Nat) (pv:Value) (h:qW w tb (.slice t n q) back pv) (u:n<=1000000000) (g:FuncId) (first b:Array Value) (r:Nat->Bool)
  (f:∀d W,(callFunc g d).run Tryz.prog W= .ok (.enter g d) W)
  (c:∀i W,i<n->Below w.heap.size w W->Calls Tryz.prog g (first.push (I4 (i:Nat))++b) W λe x=>e= .returned (.bool (r i))/\Below W.heap.size W x):
  Calls Tryz.prog 105 #[.pointer (some ⟨tb,0,none⟩), .func (.func g) first b] w (yO ((List.range n).map r) w):=by
 have v:=ze h 0;simp only [List.getElem?_toArray,List.getElem?_cons_zero] at v;have l:=zvL n u g first b r w f c
 have p:=qh l;clear h l c f;go_enter Tryz.func105,Tryz.ntmps105
 go_wp2_with fail
 refine p.o.mono ?_
 rintro e j ⟨sv,rfl,k,m⟩;have y:J2 (j.ownsRow w.heap.size 4 1 sv ((List.range n).map r).length (((List.range n).map r).map Value.bool)/\Below w.heap.size w j):=⟨k,m⟩;clear k m p;go_wp2
 go_ret;exact⟨sv,rfl,y.o⟩
structure Passed (n back:Nat) (is:Nat->Bool->Bool) (l0:List Bool) (k:Nat) (l:List Bool):Prop where
 len:l.length=n
 old:∀j,j<k->l.getD j false=l0.getD j false
 last:k<n->l.getD (n - 1) false=is (n - 1) (l0.getD back false)
 step:∀j,k<=j->j+1<n->l.getD j false=is j (l.getD (j+1) false)
theorem Passed.done {n back:Nat} {c:Nat->Bool->Bool} {b l:List Bool} (f:back<n) (h:Passed n back c b 0 l):Pass n back c (b.getD back false) (λi=>l.getD i false):=⟨h.last (by omega),λi d=>h.step i (Nat.zero_le _) d⟩
theorem zsC (l:List Bool) (i j:Nat) (x:Bool) (b:i<l.length):(l.set i x).getD j false=if i=j then x else l.getD j false:=by
 rw [List.getD_eq_getElem?_getD,List.getElem?_set,List.getD_eq_getElem?_getD];split
 ·rename_i h;subst h;simp_all
 rfl
theorem Passed.next {n back:Nat} {b:Nat->Bool->Bool} {f l:List Bool} {i:Nat} (m:back<n) (k:i<n) (h:Passed n back b f (i+1) l):Passed n back b f i (l.set i (b i (l.getD (nx n back i) false))):=by
 have c:=λj=>zsC l i j (b i (l.getD (nx n back i) false)) (by rw [h.len];exact k);refine⟨by rw [List.length_set];exact h.len,λj g=> ?_,λ_=> ?_,λj g d=> ?_⟩
 ·rw [c,if_neg (by omega)];exact h.old j (by omega)
 ·rw [c];by_cases he:i=n - 1
  ·rw [if_pos he];have:nx n back i=back:=by unfold nx;rw [if_neg (by omega)]
   rw [this,h.old back (by omega),he]
  rw [if_neg he];exact h.last (by omega)
 rw [c,c,if_neg (show¬i=j+1 by omega)];by_cases he:i=j
 ·rw [if_pos he];have:nx n back i=i+1:=by unfold nx;rw [if_pos (by omega)]
  rw [this,he]
 rw [if_neg he];exact h.step j (by omega) d
def Passes (n back:Nat) (is:Nat->Bool->Bool) (all:Bool) (q:Nat) (l:List Bool):Prop:=
 l.length=n/\(q=0->l=List.replicate n all)/\(q=1->Pass n back is all (λi=>l.getD i false))/\(q=2->∃o1,Pass n back is all o1/\Pass n back is (o1 back) (λi=>l.getD i false))
theorem Passes.next {n back:Nat} {b:Nat->Bool->Bool} {all:Bool} {q:Nat} {d l:List Bool} (g:back<n) (h:Passes n back b all q d) (k:q<2) (f:Passed n back b d 0 l):Passes n back b all (q+1) l:=by
 have c:=f.done g;refine⟨f.len,λh=>by omega,λj=> ?_,λi=> ?_⟩
 ·have:=h.2.1 (by omega)
  subst this;rw [show(List.replicate n all).getD back false=all from by simp [List.getD_eq_getElem?_getD,g]] at c;exact c
 exact⟨_,h.2.2.1 (by omega),c⟩
def zeM (n back:Nat) (is:Nat->Bool->Bool) (all:Bool) (w:World) (e:Ending) (w':World):Prop:=
 ∃sv l,e= .returned sv/\w'.ownsRow w.heap.size 4 1 sv l.length (l.map Value.bool)/\Below w.heap.size w w'/\Passes n back is all 2 l
theorem zd1 (w:World) (tb:Nat) (Z:Option Addr) (n Y back:Nat) (pv:Value) (h:qW w tb (.slice Z n Y) back pv) (s:1<=n) (hn:n<=1000000000) (hb:back<n) (all:Bool) (S:FuncId) (first b:Array Value) (u:Nat->Bool->Bool)
  (hfn:∀A W,(callFunc S A).run Tryz.prog W= .ok (.enter S A) W)
  (d:∀i x W,i<n->Below w.heap.size w W->Calls Tryz.prog S (first++(#[I4 (i:Nat), .bool x] ++b)) W λe W'=>e= .returned (.bool (u i x))/\Below W.heap.size W W'):
  Calls Tryz.prog 137 #[.pointer (some ⟨tb,0,none⟩), .bool all, .func (.func S) first b] w (zeM n back u all w):=by
 have Q:=zA h;have c0:∀o,(w.alloc o).cell? ⟨tb,0,none⟩=some (.slice Z n Y):=λo=>(Below.cell ((Below.refl _ _).alloc (Nat.le_refl _) o) (p:=⟨tb,0,none⟩) Q).trans (ze h 0);have M:∀o,Below w.heap.size w (w.alloc o):=λo=>(Below.refl _ _).alloc (Nat.le_refl _) o;have HT:=qh h;have HC:=qh d;have y:=λ(W:World) (a:Addr) (hc:W.cell? a=some (.bool all)) (ha:a.block<W.heap.size/\a.spot=none)=>zqd all n s hn W a hc ha.1 ha.2;have HR:=qh y;have HB0:=qh M;clear h d y M;go_enter Tryz.func137,Tryz.ntmps137
 go_wp2_with fail
 refine(HR.o _ _ (ze (zQ w _) 0) ⟨by simp,rfl⟩).mono ?_
 rintro e w2 ⟨sv,rfl,P,L⟩;obtain⟨g,C,rfl,hc1,hc2⟩:=gW P (by simp;omega)
 unfold maxLen at hc2;rw [List.length_replicate] at P hc1;have HO:J2 (w2.ownsRow w.heap.size 4 1 (.slice (some ⟨g,0,none⟩) n C) n ((List.replicate n all).map Value.bool)):=qX P (by simp);have HB2:J2 (Below w.heap.size w w2):=(HB0.o _).trans (L.mono (by simp));rw [List.length_replicate];clear P L c0 HR;go_wp2_with fail
 go_loopg [18] 2 (λgg X wr=>∃(q:Nat) (l:List Bool),q<=2/\J2 (gg=2 - q)/\X=I4 q/\J2 (wr.ownsRow w.heap.size 4 1 (.slice (some ⟨g,0,none⟩) n C) n (l.map Value.bool))/\J2 (Below w.heap.size w wr)/\J2 (Passes n back u all q l))
 case atStart=>
  exact⟨0,List.replicate n all,by omega,rfl,rfl,HO.o,HB2.o,⟨by simp,λ_=>rfl,(λh=>by cases h),(λh=>by cases h)⟩⟩
 case round=>
 obtain⟨q,H,hq,HG,rfl,N,yK,T⟩:=hrel;obtain⟨wo,rfl⟩:=qxE (wr:World);by_cases hq2:q<2
 rotate_left
 ·obtain rfl:q=2:=by omega
  go_wp2
  go_ret;refine⟨_,H,rfl, ?_,yK.o,T.o⟩
  rw [T.o.1];exact N.o
 have hqd:decide ((q:Int)<2)=true:=decide_eq_true (by omega);have D:=qh hq2;clear hq2;go_wp2_with fail
 go_loopg [8] n (λgg s8 G=>∃(z:Int) (k:Nat) (l:List Bool),k<=n/\J2 (gg=k)/\s8=I4 z/\J2 (z=(k:Int) - 1)/\J2 (G.ownsRow w.heap.size 4 1 (.slice (some ⟨g,0,none⟩) n C) n (l.map Value.bool))/\J2 (Below w.heap.size w G)/\J2 (Passed n back u H k l))
 case atStart=>
  exact⟨(n:Int) - 1,n,H,Nat.le_refl _,rfl,rfl,rfl,N.o,yK.o,⟨T.o.1,λ_ _=>rfl,λh=>by omega,λj h1 h2=>by omega⟩⟩
 case round=>
 obtain⟨z,k,l,hk,HG2,rfl,HZ,E,F,t⟩:=hrel;obtain⟨G,rfl⟩:=qxE (wr:World);by_cases hz:0<=z
 rotate_left
 ·have hk0:k=0:=by have:=HZ.o;omega
  have HP0:J2 (Passed n back u H 0 l):=by rw [<-hk0];exact t.o
  go_wp2
  go_roundg (2 - (q+1))
  case measure=>have:=HG.o;have:=D.o;omega
  case rel=>exact⟨q+1,l,Nat.succ_le_of_lt D.o,rfl,by simp,E.o,F.o,T.o.next hb D.o HP0.o⟩
 obtain⟨i,rfl⟩:∃i:Nat,z=i:=⟨z.toNat,by omega⟩;have hki:k=i+1:=by have:=HZ.o;omega
 have r:i<n:=by omega
 have U:J2 (Passed n back u H (i+1) l):=by rw [<-hki];exact t.o
 have I:=zeN hb i;obtain⟨m,R⟩:=qxE (nx n back i);rw [<-R] at I;obtain⟨x,hx⟩:=qxE (l.getD m false)
 have hcx:G.cell? ⟨g,m,none⟩=some (.bool x):=by
  rw [E.o.cellAt m (by omega),List.getElem?_map,hx,List.getD_eq_getElem?_getD,List.getElem?_eq_getElem (by rw [t.o.len];exact I)];rfl
 have c:=zmh G tb Z n Y back pv (HT.o.below F.o) hn i r;rw [<-R] at c;have HN:=qh c;have HM:=qh R;have HX:=qh hx;clear c R hx;have K:=F.o.size;go_wp2_with fail
 refine HN.o.mono ?_
 rintro e w' ⟨rfl,rfl⟩;go_wp2_with fail
 refine(HC.o i x _ r F.o).mono ?_
 rintro e V ⟨rfl,B⟩;have f:=xD E.o B
 have J:∃v,V.cell? ⟨g,i,none⟩=some v:=by
  rw [f.cellAt i (by omega)];have:=t.o.len
  simp [this,r]
 obtain⟨v0,J⟩:=J;have hfz:V.frozen? ⟨g,i,none⟩=false:=f.frozenAt i;have O:=qh f;have HB3:J2 (Below w.heap.size w V):=F.o.trans (B.mono K);clear f B hcx;go_wp2
 go_roundg i
 case measure=>have:=HG2.o;omega
 case rel=>
 refine⟨(i:Int) - 1,i,l.set i (u i x),by omega,rfl,by simp,rfl, ?_, ?_, ?_⟩
 ·have:=(O.o.stored i (.bool (u i x))).1
  rw [J2,List.map_set];exact this
 ·exact HB3.o.setCell (by have:=O.o.lt g rfl;exact this.1) _
 have:=U.o.next hb r
 rw [<-HM.o, <-HX.o] at this;exact this
theorem yx.get {w:World} {sv:Value} {l:List Bool} (h:yx w sv l) (i:Nat) (g:i<l.length):
  ∃b c d,sv= .slice (some ⟨b,c,none⟩) l.length d/\l.length<=9223372036854775807/\w.cell? ⟨b,c+i,none⟩=some (.bool (l.getD i false)):=by
 obtain⟨a,d,rfl,f,j⟩:=h;obtain⟨b,c,rfl, -,k⟩:=j i g;exact⟨b,c,d,rfl,f,k⟩
theorem zvM (w:World) (sa:Nat) (f:Value) (c:List Bool) (m:w.cell? ⟨sa,0,none⟩=some f) (d:yx w f c) (i:Nat) (j:i<c.length) (y:Bool):
  Calls Tryz.prog 138 #[I4 (i:Nat), .bool y, .pointer (some ⟨sa,0,none⟩)] w λe g=>e= .returned (.bool (c.getD i false && y))/\w=g:=by
 obtain⟨b,h,l,rfl,n,k⟩:=d.get i j;obtain⟨x,hx⟩:=qxE (c.getD i false);rw [<-hx] at k ⊢;clear hx d;cases x
 all_goals
  go_enter Tryz.func138,Tryz.ntmps138
  go_wp2
  go_ret;exact⟨rfl,rfl⟩
theorem zvN (w:World) (sa:Nat) (f:Value) (c:List Bool) (m:w.cell? ⟨sa,0,none⟩=some f) (d:yx w f c) (i:Nat) (j:i<c.length) (y:Bool):
  Calls Tryz.prog 139 #[I4 (i:Nat), .bool y, .pointer (some ⟨sa,0,none⟩)] w λe g=>e= .returned (.bool (c.getD i false||y))/\w=g:=by
 obtain⟨b,h,l,rfl,n,k⟩:=d.get i j;obtain⟨x,hx⟩:=qxE (c.getD i false);rw [<-hx] at k ⊢;clear hx d;cases x
 all_goals
  go_enter Tryz.func139,Tryz.ntmps139
  go_wp2
  go_ret;exact⟨rfl,rfl⟩
theorem zvO (w:World) (sa:Nat) (f:Value) (c:List Bool) (m:w.cell? ⟨sa,0,none⟩=some f) (d:yx w f c) (i:Nat) (j:i<c.length):
  Calls Tryz.prog 140 #[I4 (i:Nat), .pointer (some ⟨sa,0,none⟩)] w λe g=>e= .returned (.bool (!c.getD i false))/\w=g:=by
 obtain⟨b,h,l,rfl,n,k⟩:=d.get i j;obtain⟨x,hx⟩:=qxE (c.getD i false);rw [<-hx] at k ⊢;clear hx d;go_enter Tryz.func140,Tryz.ntmps140
 go_wp2
 go_ret;exact⟨rfl,rfl⟩
theorem zvP (w:World) (sa h:Nat) (p o:Value) (c lb:List Bool) (u:w.cell? ⟨sa,0,none⟩=some p) (t:w.cell? ⟨h,0,none⟩=some o) (m:yx w p c) (l:yx w o lb) (i:Nat) (f:i<c.length) (d:i<lb.length):
  Calls Tryz.prog 141 #[I4 (i:Nat), .pointer (some ⟨sa,0,none⟩), .pointer (some ⟨h,0,none⟩)] w λe q=>e= .returned (.bool (c.getD i false && lb.getD i false))/\w=q:=by
 obtain⟨b,r,A,rfl,B,y⟩:=m.get i f;obtain⟨C,j,n,rfl,v,g⟩:=l.get i d;obtain⟨x,hx⟩:=qxE (c.getD i false);obtain⟨z,k⟩:=qxE (lb.getD i false);rw [<-hx] at y ⊢;rw [<-k] at g ⊢;clear hx k m l;cases x<;>cases z
 all_goals
  go_enter Tryz.func141,Tryz.ntmps141
  go_wp2
  go_ret;exact⟨rfl,rfl⟩
theorem zvQ (w:World) (sa h:Nat) (p o:Value) (c lb:List Bool) (u:w.cell? ⟨sa,0,none⟩=some p) (t:w.cell? ⟨h,0,none⟩=some o) (m:yx w p c) (l:yx w o lb) (i:Nat) (f:i<c.length) (d:i<lb.length):
  Calls Tryz.prog 142 #[I4 (i:Nat), .pointer (some ⟨sa,0,none⟩), .pointer (some ⟨h,0,none⟩)] w λe q=>e= .returned (.bool (c.getD i false||lb.getD i false))/\w=q:=by
 obtain⟨b,r,A,rfl,B,y⟩:=m.get i f;obtain⟨C,j,n,rfl,v,g⟩:=l.get i d;obtain⟨x,hx⟩:=qxE (c.getD i false);obtain⟨z,k⟩:=qxE (lb.getD i false);rw [<-hx] at y ⊢;rw [<-k] at g ⊢;clear hx k m l;cases x<;>cases z
 all_goals
  go_enter Tryz.func142,Tryz.ntmps142
  go_wp2
  go_ret;exact⟨rfl,rfl⟩
theorem zvR (w:World) (sa h:Nat) (p o:Value) (c lb:List Bool) (u:w.cell? ⟨sa,0,none⟩=some p) (t:w.cell? ⟨h,0,none⟩=some o) (m:yx w p c) (l:yx w o lb) (i:Nat) (f:i<c.length) (d:i<lb.length) (y:Bool):
  Calls Tryz.prog 143 #[I4 (i:Nat), .bool y, .pointer (some ⟨h,0,none⟩), .pointer (some ⟨sa,0,none⟩)] w λe q=>e= .returned (.bool (lb.getD i false||(c.getD i false && y)))/\w=q:=by
 obtain⟨b,r,B,rfl,C,A⟩:=m.get i f;obtain⟨D,j,n,rfl,v,g⟩:=l.get i d;obtain⟨x,hx⟩:=qxE (c.getD i false);obtain⟨z,k⟩:=qxE (lb.getD i false);rw [<-hx] at A ⊢;rw [<-k] at g ⊢;clear hx k m l;cases x<;>cases z
 all_goals
  go_enter Tryz.func143,Tryz.ntmps143
  go_wp2
  go_ret;exact⟨rfl,rfl⟩
theorem zvS (w:World) (sa h:Nat) (p o:Value) (c lb:List Bool) (u:w.cell? ⟨sa,0,none⟩=some p) (t:w.cell? ⟨h,0,none⟩=some o) (m:yx w p c) (l:yx w o lb) (i:Nat) (f:i<c.length) (d:i<lb.length) (y:Bool):
  Calls Tryz.prog 144 #[I4 (i:Nat), .bool y, .pointer (some ⟨h,0,none⟩), .pointer (some ⟨sa,0,none⟩)] w λe q=>e= .returned (.bool (lb.getD i false && (c.getD i false||y)))/\w=q:=by
 obtain⟨b,r,B,rfl,C,A⟩:=m.get i f;obtain⟨D,j,n,rfl,v,g⟩:=l.get i d;obtain⟨x,hx⟩:=qxE (c.getD i false);obtain⟨z,k⟩:=qxE (lb.getD i false);rw [<-hx] at A ⊢;rw [<-k] at g ⊢;clear hx k m l;cases x<;>cases z
 all_goals
  go_enter Tryz.func144,Tryz.ntmps144
  go_wp2
  go_ret;exact⟨rfl,rfl⟩
theorem zvT (w:World) (sa h:Nat) (p o:Value) (c lb:List Bool) (u:w.cell? ⟨sa,0,none⟩=some p) (t:w.cell? ⟨h,0,none⟩=some o) (m:yx w p c) (l:yx w o lb) (i:Nat) (f:i<c.length) (d:i<lb.length):
  Calls Tryz.prog 145 #[I4 (i:Nat), .pointer (some ⟨sa,0,none⟩), .pointer (some ⟨h,0,none⟩)] w λe q=>e= .returned (.bool (!c.getD i false||lb.getD i false))/\w=q:=by
 obtain⟨b,r,A,rfl,B,y⟩:=m.get i f;obtain⟨C,j,n,rfl,v,g⟩:=l.get i d;obtain⟨x,hx⟩:=qxE (c.getD i false);obtain⟨z,k⟩:=qxE (lb.getD i false);rw [<-hx] at y ⊢;rw [<-k] at g ⊢;clear hx k m l;cases x<;>cases z
 all_goals
  go_enter Tryz.func145,Tryz.ntmps145
  go_wp2
  go_ret;exact⟨rfl,rfl⟩
theorem zvU (w:World) (sa g tb:Nat) (t:Value) (u:Option Addr) (n j back:Nat) (pv:Value) (d:List Bool) (A:w.cell? ⟨sa,0,none⟩=some t) (z:w.cell? ⟨g,0,none⟩=some (.pointer (some ⟨tb,0,none⟩))) (r:yx w t d)
  (l:qW w tb (.slice u n j) back pv) (p:n<=1000000000) (F:back<n) (C:d.length=n) (i:Nat) (D:i<n):
  Calls Tryz.prog 135 #[I4 (i:Nat), .pointer (some ⟨sa,0,none⟩), .pointer (some ⟨g,0,none⟩)] w λe v=>e= .returned (.bool (d.getD (nx n back i) false))/\Below w.heap.size w v:=by
 have f:=zeN F i;have c:=λk=>zmh (w.drewN k) tb u n j back pv l p i D;obtain⟨m,q⟩:=qxE (nx n back i);rw [<-q] at f c ⊢;obtain⟨b,y,G,rfl,p,E⟩:=r.get m (by omega);obtain⟨x,hx⟩:=qxE (d.getD m false);rw [<-hx] at E ⊢;have H:=qh c;have B:m<d.length:=by omega
 clear hx r q l c C;go_enter Tryz.func135,Tryz.ntmps135
 go_wp2
 go_quiet ((go_at_call 136;exact Calls.quiet_of_same ((H.o _).mono (λ_ _ h=>⟨h.1,h.2.symm⟩))));go_wp2
 go_ret;exact⟨rfl,yw (Below.refl _ _) _⟩
theorem zmi {l:List Bool} {n:Nat} {r:Nat->Bool} (b:l.length=n) (h:∀i,i<n->l.getD i false=r i):l=(List.range n).map r:=by
 apply List.ext_getElem?
 intro i;by_cases hi:i<n
 ·have:=h i hi
  rw [List.getD_eq_getElem?_getD,List.getElem?_eq_getElem (by omega),Option.getD_some] at this;rw [List.getElem?_eq_getElem (by omega),this];simp [hi]
 rw [List.getElem?_eq_none (by omega)];simp [hi]
theorem zeM.bools {n back:Nat} {c:Nat->Bool->Bool} {all:Bool} {w:World} {e:Ending} {b:World} {r:Nat->Bool} (h:zeM n back c all w e b) (f:∀l,Passes n back c all 2 l->∀i,i<n->l.getD i false=r i):yO ((List.range n).map r) w e b:=by
 obtain⟨sv,l,rfl,j,g,d⟩:=h;have:=zmi d.1 (f l d)
 subst this;exact⟨sv,rfl,j,g⟩
theorem z6U (t a b:Nat->Bool) (n back:Nat):yH 4 t a b n back=λi=> !a i:=by simp [yH]
theorem z6V (t a b:Nat->Bool) (n back:Nat):yH 5 t a b n back=λi=>a i && b i:=by simp [yH]
theorem z6W (t a b:Nat->Bool) (n back:Nat):yH 6 t a b n back=λi=>a i||b i:=by simp [yH]
theorem z6X (t a b:Nat->Bool) (n back:Nat):yH 7 t a b n back=λi=> !a i||b i:=by simp [yH]
theorem z6Y (t a b:Nat->Bool) (n back:Nat):yH 8 t a b n back=λi=>a (nx n back i):=by simp [yH]
theorem z6Z (t a b:Nat->Bool) (n back:Nat):yH 9 t a b n back=kC n back b a:=by simp [yH]
theorem z1L (t a b:Nat->Bool) (n back:Nat):yH 12 t a b n back=kC n back a (λ_=>true):=by simp [yH]
theorem z1M (t a b:Nat->Bool) (n back:Nat):yH 10 t a b n back=λi=> !kC n back (λi=> !b i) (λi=> !a i) i:=by simp [yH]
theorem z1N (t a b:Nat->Bool) (n back:Nat):yH 11 t a b n back=λi=> !kC n back (λi=> !a i) (λ_=>true) i:=by simp [yH]
theorem zmj {n back:Nat} (c:back<n) (g s:Nat->Bool) (l:List Bool) (h:Passes n back (λi x=>g i||(s i && x)) false 2 l) (i:Nat) (b:i<n):l.getD i false=kC n back g s i:=by
 obtain⟨j,f,d⟩:=h.2.2.2 rfl;exact zkH c f d i b
theorem zpa {n back:Nat} (c:back<n) (g s:Nat->Bool) (l:List Bool) (h:Passes n back (λi x=>g i && (s i||x)) true 2 l) (i:Nat) (b:i<n):l.getD i false= !kC n back (λi=> !g i) (λi=> !s i) i:=by
 obtain⟨j,f,d⟩:=h.2.2.2 rfl;exact zmk c f d i b
theorem zon (w:World) (tb:Nat) (B:Option Addr) (n y back:Nat) (pv:Value) (I:Value) (d:List Bool) (D:qW w tb (.slice B n y) back pv) (M:1<=n) (G:n<=1000000000) (O:back<n) (H:yx w I d) (m:d.length=n) (t b:Nat->Bool):
  Calls Tryz.prog 109 #[.pointer (some ⟨tb,0,none⟩),I4 8,I] w (yO ((List.range n).map (yH 8 t (λi=>d.getD i false) b n back)) w):=by
 rw [z6Y];obtain⟨h,g,rfl,P⟩:=H.slice
 have c:∀(W:World) (sa j:Nat),Below w.heap.size w W->W.cell? ⟨sa,0,none⟩=some (.slice h d.length g)->W.cell? ⟨j,0,none⟩=some (.pointer (some ⟨tb,0,none⟩))->
   Calls Tryz.prog 105 #[.pointer (some ⟨tb,0,none⟩), .func (.func 135) #[] #[.pointer (some ⟨sa,0,none⟩), .pointer (some ⟨j,0,none⟩)]] W (yO ((List.range n).map (λi=>d.getD (nx n back i) false)) W):=by
  intro W sa j A l k;have z:∀f W,(callFunc 135 f).run Tryz.prog W= .ok (.enter 135 f) W:=λf W=>by go_simp
  exact zaR W tb B n y back pv (D.below A) G 135 #[] _ _ z (λi R N x=>(zvU R sa j tb _ B n y back pv d ((x.cell (p:=⟨sa,0,none⟩) (World.block_lt_of_cell? _ _ l)).trans l) ((x.cell (p:=⟨j,0,none⟩) (World.block_lt_of_cell? _ _ k)).trans k) ((H.below A).below x) ((D.below A).below x) G O m i N))
 obtain⟨r,E⟩:=qxE ((List.range n).map (λi=>d.getD (nx n back i) false));rw [<-E] at c ⊢;have L:=qh c;clear c E m;have u:((w.alloc (.cells #[.pointer (some ⟨tb,0,none⟩)] 135)).alloc (.cells #[.slice h d.length g] 57)).cell? ⟨w.heap.size,0,none⟩=some (.pointer (some ⟨tb,0,none⟩)):=(Below.cell ((Below.refl _ _).alloc (Nat.le_refl _) _) (p:=⟨w.heap.size,0,none⟩) (by simp)).trans (ze (zQ w _) 0)
 have q:((w.alloc (.cells #[.pointer (some ⟨tb,0,none⟩)] 135)).alloc (.cells #[.slice h d.length g] 57)).cell? ⟨w.heap.size+1,0,none⟩=some (.slice h d.length g):=by
  have:=ze (zQ (w.alloc (.cells #[.pointer (some ⟨tb,0,none⟩)] 135)) (.cells #[.slice h d.length g] 57)) 0
  rw [World.size_alloc] at this;exact this
 have J:J2 (Below w.heap.size w ((w.alloc (.cells #[.pointer (some ⟨tb,0,none⟩)] 135)).alloc (.cells #[.slice h d.length g] 57))):=((Below.refl _ _).alloc (Nat.le_refl _) _).alloc (by simp) _;go_enter Tryz.func109,Tryz.ntmps109
 go_wp2_with fail
 refine(L.o _ (w.heap.size+1) w.heap.size J.o q u).mono ?_
 rintro e C ⟨sv,rfl,F,v⟩;have S:J2 (C.ownsRow w.heap.size 4 1 sv r.length (r.map Value.bool)/\Below w.heap.size w C):=⟨qX F (by simp;omega),J.o.trans (v.mono (by simp;omega))⟩
 clear F v L u q;go_wp2
 go_ret;exact⟨sv,rfl,S.o⟩
theorem zl3 (w:World) (tb:Nat) (P:Option Addr) (n F back:Nat) (pv:Value) (O:Value) (c:List Bool) (T:qW w tb (.slice P n F) back pv) (z:1<=n) (V:n<=1000000000) (J:back<n) (L:yx w O c) (A:c.length=n) (t b:Nat->Bool):
  Calls Tryz.prog 109 #[.pointer (some ⟨tb,0,none⟩),I4 11,O] w (yO ((List.range n).map (yH 11 t (λi=>c.getD i false) b n back)) w):=by
 rw [z1N];obtain⟨m,k,rfl,Y⟩:=L.slice
 have d:∀(W:World) (sa E:Nat),Below w.heap.size w W->W.cell? ⟨sa,0,none⟩=some (.slice m c.length k)->W.cell? ⟨E,0,none⟩=some (.pointer (some ⟨tb,0,none⟩))->
   Calls Tryz.prog 137 #[.pointer (some ⟨tb,0,none⟩), .bool true, .func (.func 138) #[] #[.pointer (some ⟨sa,0,none⟩)]] W (yO ((List.range n).map (λi=> !kC n back (λi=> !c.getD i false) (λ_=>true) i)) W):=by
  intro W sa E N q U;have B:∀f W,(callFunc 138 f).run Tryz.prog W= .ok (.enter 138 f) W:=λf W=>by go_simp
  have C:∀i x g,i<n->Below W.heap.size W g->Calls Tryz.prog 138 (#[] ++(#[I4 (i:Nat), .bool x] ++ #[.pointer (some ⟨sa,0,none⟩)])) g λe j=>e= .returned (.bool (c.getD i false && x))/\Below g.heap.size g j:=by
   intro i x g I M;have K:=(zvM g sa _ c ((M.cell (p:=⟨sa,0,none⟩) (World.block_lt_of_cell? _ _ q)).trans q) ((L.below N).below M) i (by omega) x).mono (R':=λe j=>e= .returned (.bool (c.getD i false && x))/\Below g.heap.size g j) (λ_ _ h=>⟨h.1,h.2 ▸ Below.refl _ _⟩);exact K
  have Z:=zd1 W tb P n F back pv (T.below N) z V J true 138 #[] _ (λi x=>c.getD i false && x) B C;exact Z.mono (λ_ _ h=>h.bools (λl X i I=>zpa J (λi=>c.getD i false) (λ_=>false) l X i I))
 obtain⟨r,G⟩:=qxE ((List.range n).map (λi=> !kC n back (λi=> !c.getD i false) (λ_=>true) i));rw [<-G] at d ⊢;have S:=qh d;clear d G A;have v:((w.alloc (.cells #[.pointer (some ⟨tb,0,none⟩)] 135)).alloc (.cells #[.slice m c.length k] 57)).cell? ⟨w.heap.size,0,none⟩=some (.pointer (some ⟨tb,0,none⟩)):=(Below.cell ((Below.refl _ _).alloc (Nat.le_refl _) _) (p:=⟨w.heap.size,0,none⟩) (by simp)).trans (ze (zQ w _) 0)
 have u:((w.alloc (.cells #[.pointer (some ⟨tb,0,none⟩)] 135)).alloc (.cells #[.slice m c.length k] 57)).cell? ⟨w.heap.size+1,0,none⟩=some (.slice m c.length k):=by
  have:=ze (zQ (w.alloc (.cells #[.pointer (some ⟨tb,0,none⟩)] 135)) (.cells #[.slice m c.length k] 57)) 0
  rw [World.size_alloc] at this;exact this
 have R:J2 (Below w.heap.size w ((w.alloc (.cells #[.pointer (some ⟨tb,0,none⟩)] 135)).alloc (.cells #[.slice m c.length k] 57))):=((Below.refl _ _).alloc (Nat.le_refl _) _).alloc (by simp) _;go_enter Tryz.func109,Tryz.ntmps109
 go_wp2_with fail
 refine(S.o _ (w.heap.size+1) w.heap.size R.o u v).mono ?_
 rintro e D ⟨sv,rfl,H,y⟩;have Q:J2 (D.ownsRow w.heap.size 4 1 sv r.length (r.map Value.bool)/\Below w.heap.size w D):=⟨qX H (by simp;omega),R.o.trans (y.mono (by simp;omega))⟩
 clear H y S v u;go_wp2
 go_ret;exact⟨sv,rfl,Q.o⟩
theorem zoo (w:World) (tb:Nat) (P:Option Addr) (n F back:Nat) (pv:Value) (O:Value) (c:List Bool) (T:qW w tb (.slice P n F) back pv) (z:1<=n) (V:n<=1000000000) (J:back<n) (L:yx w O c) (A:c.length=n) (t b:Nat->Bool):
  Calls Tryz.prog 109 #[.pointer (some ⟨tb,0,none⟩),I4 12,O] w (yO ((List.range n).map (yH 12 t (λi=>c.getD i false) b n back)) w):=by
 rw [z1L];obtain⟨m,k,rfl,Y⟩:=L.slice
 have d:∀(W:World) (sa E:Nat),Below w.heap.size w W->W.cell? ⟨sa,0,none⟩=some (.slice m c.length k)->W.cell? ⟨E,0,none⟩=some (.pointer (some ⟨tb,0,none⟩))->
   Calls Tryz.prog 137 #[.pointer (some ⟨tb,0,none⟩), .bool false, .func (.func 139) #[] #[.pointer (some ⟨sa,0,none⟩)]] W (yO ((List.range n).map (kC n back (λi=>c.getD i false) (λ_=>true))) W):=by
  intro W sa E N q U;have B:∀f W,(callFunc 139 f).run Tryz.prog W= .ok (.enter 139 f) W:=λf W=>by go_simp
  have C:∀i x g,i<n->Below W.heap.size W g->Calls Tryz.prog 139 (#[] ++(#[I4 (i:Nat), .bool x] ++ #[.pointer (some ⟨sa,0,none⟩)])) g λe j=>e= .returned (.bool (c.getD i false||x))/\Below g.heap.size g j:=by
   intro i x g I M;have K:=(zvN g sa _ c ((M.cell (p:=⟨sa,0,none⟩) (World.block_lt_of_cell? _ _ q)).trans q) ((L.below N).below M) i (by omega) x).mono (R':=λe j=>e= .returned (.bool (c.getD i false||x))/\Below g.heap.size g j) (λ_ _ h=>⟨h.1,h.2 ▸ Below.refl _ _⟩);exact K
  have Z:=zd1 W tb P n F back pv (T.below N) z V J false 139 #[] _ (λi x=>c.getD i false||x) B C;exact Z.mono (λ_ _ h=>h.bools (λl X i I=>zmj J (λi=>c.getD i false) (λ_=>true) l X i I))
 obtain⟨r,G⟩:=qxE ((List.range n).map (kC n back (λi=>c.getD i false) (λ_=>true)));rw [<-G] at d ⊢;have S:=qh d;clear d G A;have v:((w.alloc (.cells #[.pointer (some ⟨tb,0,none⟩)] 135)).alloc (.cells #[.slice m c.length k] 57)).cell? ⟨w.heap.size,0,none⟩=some (.pointer (some ⟨tb,0,none⟩)):=(Below.cell ((Below.refl _ _).alloc (Nat.le_refl _) _) (p:=⟨w.heap.size,0,none⟩) (by simp)).trans (ze (zQ w _) 0)
 have u:((w.alloc (.cells #[.pointer (some ⟨tb,0,none⟩)] 135)).alloc (.cells #[.slice m c.length k] 57)).cell? ⟨w.heap.size+1,0,none⟩=some (.slice m c.length k):=by
  have:=ze (zQ (w.alloc (.cells #[.pointer (some ⟨tb,0,none⟩)] 135)) (.cells #[.slice m c.length k] 57)) 0
  rw [World.size_alloc] at this;exact this
 have R:J2 (Below w.heap.size w ((w.alloc (.cells #[.pointer (some ⟨tb,0,none⟩)] 135)).alloc (.cells #[.slice m c.length k] 57))):=((Below.refl _ _).alloc (Nat.le_refl _) _).alloc (by simp) _;go_enter Tryz.func109,Tryz.ntmps109
 go_wp2_with fail
 refine(S.o _ (w.heap.size+1) w.heap.size R.o u v).mono ?_
 rintro e D ⟨sv,rfl,H,y⟩;have Q:J2 (D.ownsRow w.heap.size 4 1 sv r.length (r.map Value.bool)/\Below w.heap.size w D):=⟨qX H (by simp;omega),R.o.trans (y.mono (by simp;omega))⟩
 clear H y S v u;go_wp2
 go_ret;exact⟨sv,rfl,Q.o⟩
theorem zqf (w:World) (tb:Nat) (G:Option Addr) (n z back:Nat) (pv:Value) (F:Value) (d:List Bool) (L:qW w tb (.slice G n z) back pv) (J:1<=n) (N:n<=1000000000) (P:back<n) (C:yx w F d) (u:d.length=n) (t b:Nat->Bool):
  Calls Tryz.prog 109 #[.pointer (some ⟨tb,0,none⟩),I4 4,F] w (yO ((List.range n).map (yH 4 t (λi=>d.getD i false) b n back)) w):=by
 rw [z6U];obtain⟨j,g,rfl,O⟩:=C.slice
 have c:∀(W:World) (sa y:Nat),Below w.heap.size w W->W.cell? ⟨sa,0,none⟩=some (.slice j d.length g)->W.cell? ⟨y,0,none⟩=some (.pointer (some ⟨tb,0,none⟩))->
   Calls Tryz.prog 105 #[.pointer (some ⟨tb,0,none⟩), .func (.func 140) #[] #[.pointer (some ⟨sa,0,none⟩)]] W (yO ((List.range n).map (λi=> !(d.getD i false))) W):=by
  intro W sa y E k M;have v:∀f W,(callFunc 140 f).run Tryz.prog W= .ok (.enter 140 f) W:=λf W=>by go_simp
  exact zaR W tb G n z back pv (L.below E) N 140 #[] _ _ v (λi R T D=>(zvO R sa _ d ((D.cell (p:=⟨sa,0,none⟩) (World.block_lt_of_cell? _ _ k)).trans k) ((C.below E).below D) i (by omega)).mono (λ_ _ h=>⟨h.1,h.2 ▸ Below.refl _ _⟩))
 obtain⟨r,A⟩:=qxE ((List.range n).map (λi=> !(d.getD i false)));rw [<-A] at c ⊢;have I:=qh c;clear c A u;have m:((w.alloc (.cells #[.pointer (some ⟨tb,0,none⟩)] 135)).alloc (.cells #[.slice j d.length g] 57)).cell? ⟨w.heap.size,0,none⟩=some (.pointer (some ⟨tb,0,none⟩)):=(Below.cell ((Below.refl _ _).alloc (Nat.le_refl _) _) (p:=⟨w.heap.size,0,none⟩) (by simp)).trans (ze (zQ w _) 0)
 have l:((w.alloc (.cells #[.pointer (some ⟨tb,0,none⟩)] 135)).alloc (.cells #[.slice j d.length g] 57)).cell? ⟨w.heap.size+1,0,none⟩=some (.slice j d.length g):=by
  have:=ze (zQ (w.alloc (.cells #[.pointer (some ⟨tb,0,none⟩)] 135)) (.cells #[.slice j d.length g] 57)) 0
  rw [World.size_alloc] at this;exact this
 have H:J2 (Below w.heap.size w ((w.alloc (.cells #[.pointer (some ⟨tb,0,none⟩)] 135)).alloc (.cells #[.slice j d.length g] 57))):=((Below.refl _ _).alloc (Nat.le_refl _) _).alloc (by simp) _;go_enter Tryz.func109,Tryz.ntmps109
 go_wp2_with fail
 refine(I.o _ (w.heap.size+1) w.heap.size H.o l m).mono ?_
 rintro e x ⟨sv,rfl,B,q⟩;have S:J2 (x.ownsRow w.heap.size 4 1 sv r.length (r.map Value.bool)/\Below w.heap.size w x):=⟨qX B (by simp;omega),H.o.trans (q.mono (by simp;omega))⟩
 clear B q I m l;go_wp2
 go_ret;exact⟨sv,rfl,S.o⟩
theorem zqg (w:World) (tb:Nat) (M:Option Addr) (n F back:Nat) (pv:Value) (L J:Value) (c lb:List Bool) (R:qW w tb (.slice M n F) back pv) (P:1<=n) (S:n<=1000000000) (V:back<n) (I:yx w L c) (B:c.length=n) (x:yx w J lb) (A:lb.length=n) (t:Nat->Bool):
  Calls Tryz.prog 110 #[.pointer (some ⟨tb,0,none⟩),I4 5,L,J] w (yO ((List.range n).map (yH 5 t (λi=>c.getD i false) (λi=>lb.getD i false) n back)) w):=by
 rw [z6V];obtain⟨k,j,rfl,U⟩:=I.slice;obtain⟨g,f,rfl,T⟩:=x.slice
 have b:∀(W:World) (sa l:Nat),Below w.heap.size w W->W.cell? ⟨sa,0,none⟩=some (.slice k c.length j)->W.cell? ⟨l,0,none⟩=some (.slice g lb.length f)->
   Calls Tryz.prog 105 #[.pointer (some ⟨tb,0,none⟩), .func (.func 141) #[] #[.pointer (some ⟨sa,0,none⟩), .pointer (some ⟨l,0,none⟩)]] W (yO ((List.range n).map (λi=>(c.getD i false) && (lb.getD i false))) W):=by
  intro W sa l D q m;have C:∀d W,(callFunc 141 d).run Tryz.prog W= .ok (.enter 141 d) W:=λd W=>by go_simp
  exact zaR W tb M n F back pv (R.below D) S 141 #[] _ _ C (λi X Z z=>(zvP X sa l _ _ c lb ((z.cell (p:=⟨sa,0,none⟩) (World.block_lt_of_cell? _ _ q)).trans q) ((z.cell (p:=⟨l,0,none⟩) (World.block_lt_of_cell? _ _ m)).trans m) ((I.below D).below z) ((x.below D).below z) i (by omega) (by omega)).mono (λ_ _ h=>⟨h.1,h.2 ▸ Below.refl _ _⟩))
 obtain⟨r,G⟩:=qxE ((List.range n).map (λi=>(c.getD i false) && (lb.getD i false)));rw [<-G] at b ⊢;have O:=qh b;clear b G B A;have v:((w.alloc (.cells #[.slice k c.length j] 57)).alloc (.cells #[.slice g lb.length f] 57)).cell? ⟨w.heap.size,0,none⟩=some (.slice k c.length j):=(Below.cell ((Below.refl _ _).alloc (Nat.le_refl _) _) (p:=⟨w.heap.size,0,none⟩) (by simp)).trans (ze (zQ w _) 0)
 have u:((w.alloc (.cells #[.slice k c.length j] 57)).alloc (.cells #[.slice g lb.length f] 57)).cell? ⟨w.heap.size+1,0,none⟩=some (.slice g lb.length f):=by
  have:=ze (zQ (w.alloc (.cells #[.slice k c.length j] 57)) (.cells #[.slice g lb.length f] 57)) 0
  rw [World.size_alloc] at this;exact this
 have N:J2 (Below w.heap.size w ((w.alloc (.cells #[.slice k c.length j] 57)).alloc (.cells #[.slice g lb.length f] 57))):=((Below.refl _ _).alloc (Nat.le_refl _) _).alloc (by simp) _;go_enter Tryz.func110,Tryz.ntmps110
 go_wp2_with fail
 refine(O.o _ w.heap.size (w.heap.size+1) N.o v u).mono ?_
 rintro e E ⟨sv,rfl,H,y⟩;have Y:J2 (E.ownsRow w.heap.size 4 1 sv r.length (r.map Value.bool)/\Below w.heap.size w E):=⟨qX H (by simp;omega),N.o.trans (y.mono (by simp;omega))⟩
 clear H y O v u;go_wp2
 go_ret;exact⟨sv,rfl,Y.o⟩
theorem zsE (w:World) (tb:Nat) (M:Option Addr) (n F back:Nat) (pv:Value) (L J:Value) (c lb:List Bool) (R:qW w tb (.slice M n F) back pv) (P:1<=n) (S:n<=1000000000) (V:back<n) (I:yx w L c) (B:c.length=n) (x:yx w J lb) (A:lb.length=n) (t:Nat->Bool):
  Calls Tryz.prog 110 #[.pointer (some ⟨tb,0,none⟩),I4 6,L,J] w (yO ((List.range n).map (yH 6 t (λi=>c.getD i false) (λi=>lb.getD i false) n back)) w):=by
 rw [z6W];obtain⟨k,j,rfl,U⟩:=I.slice;obtain⟨g,f,rfl,T⟩:=x.slice
 have b:∀(W:World) (sa l:Nat),Below w.heap.size w W->W.cell? ⟨sa,0,none⟩=some (.slice k c.length j)->W.cell? ⟨l,0,none⟩=some (.slice g lb.length f)->
   Calls Tryz.prog 105 #[.pointer (some ⟨tb,0,none⟩), .func (.func 142) #[] #[.pointer (some ⟨sa,0,none⟩), .pointer (some ⟨l,0,none⟩)]] W (yO ((List.range n).map (λi=>(c.getD i false)||(lb.getD i false))) W):=by
  intro W sa l D q m;have C:∀d W,(callFunc 142 d).run Tryz.prog W= .ok (.enter 142 d) W:=λd W=>by go_simp
  exact zaR W tb M n F back pv (R.below D) S 142 #[] _ _ C (λi X Z z=>(zvQ X sa l _ _ c lb ((z.cell (p:=⟨sa,0,none⟩) (World.block_lt_of_cell? _ _ q)).trans q) ((z.cell (p:=⟨l,0,none⟩) (World.block_lt_of_cell? _ _ m)).trans m) ((I.below D).below z) ((x.below D).below z) i (by omega) (by omega)).mono (λ_ _ h=>⟨h.1,h.2 ▸ Below.refl _ _⟩))
 obtain⟨r,G⟩:=qxE ((List.range n).map (λi=>(c.getD i false)||(lb.getD i false)));rw [<-G] at b ⊢;have O:=qh b;clear b G B A;have v:((w.alloc (.cells #[.slice k c.length j] 57)).alloc (.cells #[.slice g lb.length f] 57)).cell? ⟨w.heap.size,0,none⟩=some (.slice k c.length j):=(Below.cell ((Below.refl _ _).alloc (Nat.le_refl _) _) (p:=⟨w.heap.size,0,none⟩) (by simp)).trans (ze (zQ w _) 0)
 have u:((w.alloc (.cells #[.slice k c.length j] 57)).alloc (.cells #[.slice g lb.length f] 57)).cell? ⟨w.heap.size+1,0,none⟩=some (.slice g lb.length f):=by
  have:=ze (zQ (w.alloc (.cells #[.slice k c.length j] 57)) (.cells #[.slice g lb.length f] 57)) 0
  rw [World.size_alloc] at this;exact this
 have N:J2 (Below w.heap.size w ((w.alloc (.cells #[.slice k c.length j] 57)).alloc (.cells #[.slice g lb.length f] 57))):=((Below.refl _ _).alloc (Nat.le_refl _) _).alloc (by simp) _;go_enter Tryz.func110,Tryz.ntmps110
 go_wp2_with fail
 refine(O.o _ w.heap.size (w.heap.size+1) N.o v u).mono ?_
 rintro e E ⟨sv,rfl,H,y⟩;have Y:J2 (E.ownsRow w.heap.size 4 1 sv r.length (r.map Value.bool)/\Below w.heap.size w E):=⟨qX H (by simp;omega),N.o.trans (y.mono (by simp;omega))⟩
 clear H y O v u;go_wp2
 go_ret;exact⟨sv,rfl,Y.o⟩
theorem zml (w:World) (tb:Nat) (V:Option Addr) (n M back:Nat) (pv:Value) (U T:Value) (b lb:List Bool) (Z:qW w tb (.slice V n M) back pv) (E:1<=n) (K:n<=1000000000) (R:back<n) (S:yx w U b) (G:b.length=n) (B:yx w T lb) (F:lb.length=n) (t:Nat->Bool):
  Calls Tryz.prog 110 #[.pointer (some ⟨tb,0,none⟩),I4 9,U,T] w (yO ((List.range n).map (yH 9 t (λi=>b.getD i false) (λi=>lb.getD i false) n back)) w):=by
 rw [z6Z];obtain⟨u,q,rfl,s⟩:=S.slice;obtain⟨m,k,rfl,a⟩:=B.slice
 have c:∀(W:World) (sa j:Nat),Below w.heap.size w W->W.cell? ⟨sa,0,none⟩=some (.slice u b.length q)->W.cell? ⟨j,0,none⟩=some (.slice m lb.length k)->
   Calls Tryz.prog 137 #[.pointer (some ⟨tb,0,none⟩), .bool false, .func (.func 143) #[] #[.pointer (some ⟨j,0,none⟩), .pointer (some ⟨sa,0,none⟩)]] W (yO ((List.range n).map (kC n back (λi=>lb.getD i false) (λi=>b.getD i false))) W):=by
  intro W sa j J y v;have H:∀d W,(callFunc 143 d).run Tryz.prog W= .ok (.enter 143 d) W:=λd W=>by go_simp
  have I:∀i x f,i<n->Below W.heap.size W f->Calls Tryz.prog 143 (#[] ++(#[I4 (i:Nat), .bool x] ++ #[.pointer (some ⟨j,0,none⟩), .pointer (some ⟨sa,0,none⟩)])) f λe g=>e= .returned (.bool (lb.getD i false||(b.getD i false && x)))/\Below f.heap.size f g:=by
   intro i x f P D;have h1:=(zvR f sa j _ _ b lb ((D.cell (p:=⟨sa,0,none⟩) (World.block_lt_of_cell? _ _ y)).trans y) ((D.cell (p:=⟨j,0,none⟩) (World.block_lt_of_cell? _ _ v)).trans v) ((S.below J).below D) ((B.below J).below D) i (by omega) (by omega) x).mono (R':=λe g=>e= .returned (.bool (lb.getD i false||(b.getD i false && x)))/\Below f.heap.size f g) (λ_ _ h=>⟨h.1,h.2 ▸ Below.refl _ _⟩);exact h1
  have hL:=zd1 W tb V n M back pv (Z.below J) E K R false 143 #[] _ (λi x=>lb.getD i false||(b.getD i false && x)) H I;exact hL.mono (λ_ _ h=>h.bools (λl Q i P=>zmj R (λi=>lb.getD i false) (λi=>b.getD i false) l Q i P))
 obtain⟨r,N⟩:=qxE ((List.range n).map (kC n back (λi=>lb.getD i false) (λi=>b.getD i false)));rw [<-N] at c ⊢;have Y:=qh c;clear c N G F;have A:((w.alloc (.cells #[.slice u b.length q] 57)).alloc (.cells #[.slice m lb.length k] 57)).cell? ⟨w.heap.size,0,none⟩=some (.slice u b.length q):=(Below.cell ((Below.refl _ _).alloc (Nat.le_refl _) _) (p:=⟨w.heap.size,0,none⟩) (by simp)).trans (ze (zQ w _) 0)
 have z:((w.alloc (.cells #[.slice u b.length q] 57)).alloc (.cells #[.slice m lb.length k] 57)).cell? ⟨w.heap.size+1,0,none⟩=some (.slice m lb.length k):=by
  have:=ze (zQ (w.alloc (.cells #[.slice u b.length q] 57)) (.cells #[.slice m lb.length k] 57)) 0
  rw [World.size_alloc] at this;exact this
 have X:J2 (Below w.heap.size w ((w.alloc (.cells #[.slice u b.length q] 57)).alloc (.cells #[.slice m lb.length k] 57))):=((Below.refl _ _).alloc (Nat.le_refl _) _).alloc (by simp) _;go_enter Tryz.func110,Tryz.ntmps110
 go_wp2_with fail
 refine(Y.o _ w.heap.size (w.heap.size+1) X.o A z).mono ?_
 rintro e L ⟨sv,rfl,O,C⟩;have HP:J2 (L.ownsRow w.heap.size 4 1 sv r.length (r.map Value.bool)/\Below w.heap.size w L):=⟨qX O (by simp;omega),X.o.trans (C.mono (by simp;omega))⟩
 clear O C Y A z;go_wp2
 go_ret;exact⟨sv,rfl,HP.o⟩
theorem zkg (w:World) (tb:Nat) (V:Option Addr) (n M back:Nat) (pv:Value) (U T:Value) (b lb:List Bool) (Z:qW w tb (.slice V n M) back pv) (E:1<=n) (K:n<=1000000000) (R:back<n) (S:yx w U b) (G:b.length=n) (B:yx w T lb) (F:lb.length=n) (t:Nat->Bool):
  Calls Tryz.prog 110 #[.pointer (some ⟨tb,0,none⟩),I4 10,U,T] w (yO ((List.range n).map (yH 10 t (λi=>b.getD i false) (λi=>lb.getD i false) n back)) w):=by
 rw [z1M];obtain⟨u,q,rfl,s⟩:=S.slice;obtain⟨m,k,rfl,a⟩:=B.slice
 have c:∀(W:World) (sa j:Nat),Below w.heap.size w W->W.cell? ⟨sa,0,none⟩=some (.slice u b.length q)->W.cell? ⟨j,0,none⟩=some (.slice m lb.length k)->
   Calls Tryz.prog 137 #[.pointer (some ⟨tb,0,none⟩), .bool true, .func (.func 144) #[] #[.pointer (some ⟨j,0,none⟩), .pointer (some ⟨sa,0,none⟩)]] W (yO ((List.range n).map (λi=> !kC n back (λi=> !lb.getD i false) (λi=> !b.getD i false) i)) W):=by
  intro W sa j J y v;have H:∀d W,(callFunc 144 d).run Tryz.prog W= .ok (.enter 144 d) W:=λd W=>by go_simp
  have I:∀i x f,i<n->Below W.heap.size W f->Calls Tryz.prog 144 (#[] ++(#[I4 (i:Nat), .bool x] ++ #[.pointer (some ⟨j,0,none⟩), .pointer (some ⟨sa,0,none⟩)])) f λe g=>e= .returned (.bool (lb.getD i false && (b.getD i false||x)))/\Below f.heap.size f g:=by
   intro i x f P D;have h1:=(zvS f sa j _ _ b lb ((D.cell (p:=⟨sa,0,none⟩) (World.block_lt_of_cell? _ _ y)).trans y) ((D.cell (p:=⟨j,0,none⟩) (World.block_lt_of_cell? _ _ v)).trans v) ((S.below J).below D) ((B.below J).below D) i (by omega) (by omega) x).mono (R':=λe g=>e= .returned (.bool (lb.getD i false && (b.getD i false||x)))/\Below f.heap.size f g) (λ_ _ h=>⟨h.1,h.2 ▸ Below.refl _ _⟩);exact h1
  have hL:=zd1 W tb V n M back pv (Z.below J) E K R true 144 #[] _ (λi x=>lb.getD i false && (b.getD i false||x)) H I;exact hL.mono (λ_ _ h=>h.bools (λl Q i P=>zpa R (λi=>lb.getD i false) (λi=>b.getD i false) l Q i P))
 obtain⟨r,N⟩:=qxE ((List.range n).map (λi=> !kC n back (λi=> !lb.getD i false) (λi=> !b.getD i false) i));rw [<-N] at c ⊢;have Y:=qh c;clear c N G F;have A:((w.alloc (.cells #[.slice u b.length q] 57)).alloc (.cells #[.slice m lb.length k] 57)).cell? ⟨w.heap.size,0,none⟩=some (.slice u b.length q):=(Below.cell ((Below.refl _ _).alloc (Nat.le_refl _) _) (p:=⟨w.heap.size,0,none⟩) (by simp)).trans (ze (zQ w _) 0)
 have z:((w.alloc (.cells #[.slice u b.length q] 57)).alloc (.cells #[.slice m lb.length k] 57)).cell? ⟨w.heap.size+1,0,none⟩=some (.slice m lb.length k):=by
  have:=ze (zQ (w.alloc (.cells #[.slice u b.length q] 57)) (.cells #[.slice m lb.length k] 57)) 0
  rw [World.size_alloc] at this;exact this
 have X:J2 (Below w.heap.size w ((w.alloc (.cells #[.slice u b.length q] 57)).alloc (.cells #[.slice m lb.length k] 57))):=((Below.refl _ _).alloc (Nat.le_refl _) _).alloc (by simp) _;go_enter Tryz.func110,Tryz.ntmps110
 go_wp2_with fail
 refine(Y.o _ w.heap.size (w.heap.size+1) X.o A z).mono ?_
 rintro e L ⟨sv,rfl,O,C⟩;have HP:J2 (L.ownsRow w.heap.size 4 1 sv r.length (r.map Value.bool)/\Below w.heap.size w L):=⟨qX O (by simp;omega),X.o.trans (C.mono (by simp;omega))⟩
 clear O C Y A z;go_wp2
 go_ret;exact⟨sv,rfl,HP.o⟩
theorem zmm (w:World) (tb:Nat) (M:Option Addr) (n F back:Nat) (pv:Value) (L J:Value) (c lb:List Bool) (R:qW w tb (.slice M n F) back pv) (P:1<=n) (S:n<=1000000000) (V:back<n) (I:yx w L c) (B:c.length=n) (x:yx w J lb) (A:lb.length=n) (t:Nat->Bool):
  Calls Tryz.prog 110 #[.pointer (some ⟨tb,0,none⟩),I4 7,L,J] w (yO ((List.range n).map (yH 7 t (λi=>c.getD i false) (λi=>lb.getD i false) n back)) w):=by
 rw [z6X];obtain⟨k,j,rfl,U⟩:=I.slice;obtain⟨g,f,rfl,T⟩:=x.slice
 have b:∀(W:World) (sa l:Nat),Below w.heap.size w W->W.cell? ⟨sa,0,none⟩=some (.slice k c.length j)->W.cell? ⟨l,0,none⟩=some (.slice g lb.length f)->
   Calls Tryz.prog 105 #[.pointer (some ⟨tb,0,none⟩), .func (.func 145) #[] #[.pointer (some ⟨sa,0,none⟩), .pointer (some ⟨l,0,none⟩)]] W (yO ((List.range n).map (λi=> !(c.getD i false)||(lb.getD i false))) W):=by
  intro W sa l D q m;have C:∀d W,(callFunc 145 d).run Tryz.prog W= .ok (.enter 145 d) W:=λd W=>by go_simp
  exact zaR W tb M n F back pv (R.below D) S 145 #[] _ _ C (λi X Z z=>(zvT X sa l _ _ c lb ((z.cell (p:=⟨sa,0,none⟩) (World.block_lt_of_cell? _ _ q)).trans q) ((z.cell (p:=⟨l,0,none⟩) (World.block_lt_of_cell? _ _ m)).trans m) ((I.below D).below z) ((x.below D).below z) i (by omega) (by omega)).mono (λ_ _ h=>⟨h.1,h.2 ▸ Below.refl _ _⟩))
 obtain⟨r,G⟩:=qxE ((List.range n).map (λi=> !(c.getD i false)||(lb.getD i false)));rw [<-G] at b ⊢;have O:=qh b;clear b G B A;have v:((w.alloc (.cells #[.slice k c.length j] 57)).alloc (.cells #[.slice g lb.length f] 57)).cell? ⟨w.heap.size,0,none⟩=some (.slice k c.length j):=(Below.cell ((Below.refl _ _).alloc (Nat.le_refl _) _) (p:=⟨w.heap.size,0,none⟩) (by simp)).trans (ze (zQ w _) 0)
 have u:((w.alloc (.cells #[.slice k c.length j] 57)).alloc (.cells #[.slice g lb.length f] 57)).cell? ⟨w.heap.size+1,0,none⟩=some (.slice g lb.length f):=by
  have:=ze (zQ (w.alloc (.cells #[.slice k c.length j] 57)) (.cells #[.slice g lb.length f] 57)) 0
  rw [World.size_alloc] at this;exact this
 have N:J2 (Below w.heap.size w ((w.alloc (.cells #[.slice k c.length j] 57)).alloc (.cells #[.slice g lb.length f] 57))):=((Below.refl _ _).alloc (Nat.le_refl _) _).alloc (by simp) _;go_enter Tryz.func110,Tryz.ntmps110
 go_wp2_with fail
 refine(O.o _ w.heap.size (w.heap.size+1) N.o v u).mono ?_
 rintro e E ⟨sv,rfl,H,y⟩;have Y:J2 (E.ownsRow w.heap.size 4 1 sv r.length (r.map Value.bool)/\Below w.heap.size w E):=⟨qX H (by simp;omega),N.o.trans (y.mono (by simp;omega))⟩
 clear H y O v u;go_wp2
 go_ret;exact⟨sv,rfl,Y.o⟩
