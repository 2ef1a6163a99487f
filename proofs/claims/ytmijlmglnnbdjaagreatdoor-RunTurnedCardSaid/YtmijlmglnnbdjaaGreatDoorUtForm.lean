/- Steps. -/
import Derived.Test.YtmijlmglnnbdjaaGreatDoorUtExpr2
set_option linter.all false
namespace Go.Proofs.YtmijlmglnnbdjaaGreatDoor
open Go.RowKit
set_option maxRecDepth 100000
set_option maxHeartbeats 16000000
structure zF where
 kind:Int
 thread:Int
 place:Int
 num:Int
 deriving DecidableEq
instance:Inhabited zF:=⟨⟨0,0,0,0⟩⟩
def zF.cells (p:zF):List Value:= [I4 p.kind,I4 p.thread,I4 p.place,I4 p.num]
def zF.val (p:zF):Value:= .agg #[I4 p.kind,I4 p.thread,I4 p.place,I4 p.num]
inductive Form where
 |mk (kind:Int) (prop:zF) (kids:List Form)
def zaa (w:World) (size:Nat) (sv:Value) (n:Nat) (cells:Nat->List Value):Prop:=
 ∃a cap,sv= .slice a n cap/\n<=9223372036854775807/\∀j,j<n->∃b off,a=some ⟨b,off,none⟩/\b<w.heap.size/\
  ∀i,i<size->w.cell? ⟨b,off+j*size+i,none⟩=(cells j)[i]?
theorem zaa.below {w f:World} {size:Nat} {sv:Value} {n:Nat} {cells:Nat->List Value} (h:zaa w size sv n cells) (g:Below w.heap.size w f):zaa f size sv n cells:=by
 obtain⟨a,d,u,t,r⟩:=h;refine⟨a,d,u,t,λj l=> ?_⟩
 obtain⟨b,c,q,k,o⟩:=r j l;exact⟨b,c,q,Nat.lt_of_lt_of_le k g.size,λi m=>(g.cell (p:=⟨b,c+j*size+i,none⟩) k).trans (o i m)⟩
def j5 (w:World) (sv:Value) (l:List zF):Prop:=zaa w 4 sv l.length (λj=>((l.getD j ⟨0,0,0,0⟩)).cells)
def zcW (l:List zF) (p:zF) (r:Int):Prop:=
 (∃i,i<l.length/\l.getD i ⟨0,0,0,0⟩=p/\r=(i:Int)/\∀j,j<i->l.getD j ⟨0,0,0,0⟩≠p)\/(r= -1/\∀i,i<l.length->l.getD i ⟨0,0,0,0⟩≠p)
def Form.kind:Form->Int| .mk k _ _=>k
def Form.prop:Form->zF| .mk _ p _=>p
def Form.kids:Form->List Form| .mk _ _ l=>l
instance:Inhabited Form:=⟨.mk 0 default []⟩
def vI (f:Form) (kv:Value):Value:= .agg #[I4 f.kind,I4 f.prop.kind,I4 f.prop.thread,I4 f.prop.place,I4 f.prop.num,kv]
def qQ (f:Form) (kv:Value):List Value:= [I4 f.kind,I4 f.prop.kind,I4 f.prop.thread,I4 f.prop.place,I4 f.prop.num,kv]
def zeB (R:Form->Value->Prop) (w:World) (sv:Value) (l:List Form):Prop:=
 ∃a cap,sv= .slice a l.length cap/\l.length<=9223372036854775807/\∀j,j<l.length->∃b off kv,a=some ⟨b,off,none⟩/\b<w.heap.size/\
  (∀i,i<6->w.cell? ⟨b,off+j*6+i,none⟩=(qQ (l.getD j default) kv)[i]?)/\R (l.getD j default) kv
def xE (w:World):Nat->Form->Value->Prop
 |0,_,_=>False
 |d+1,f,kv=>zeB (xE w d) w kv f.kids
def zBO (w:World) (d:Nat) (sv:Value) (l:List Form):Prop:=zeB (xE w d) w sv l
theorem xE.below {w l:World} {d:Nat} {f:Form} {kv:Value} (h:xE w d f kv) (m:Below w.heap.size w l):xE l d f kv:=by
 induction d generalizing f kv with
 |zero=>exact h.elim
 |succ d ih=>
 obtain⟨a,k,y,x,v⟩:=h;refine⟨a,k,y,x,λj o=> ?_⟩
 obtain⟨b,c,g,u,n,t,r⟩:=v j o;exact⟨b,c,g,u,Nat.lt_of_lt_of_le n m.size,λi q=>(m.cell (p:=⟨b,c+j*6+i,none⟩) n).trans (t i q),ih r⟩
theorem xE.slice {w:World} {d:Nat} {f:Form} {kv:Value} (h:xE w d f kv):∃a b,kv= .slice a f.kids.length b/\f.kids.length<=9223372036854775807:=by
 cases d with
 |zero=>exact h.elim
 |succ d=>obtain⟨a,b,g,c,_⟩:=h;exact⟨a,b,g,c⟩
def wT (out:List zF) (p:zF):List zF:=if p∈out then out else out++ [p]
mutual
def Form.props:Form->List zF
 | .mk k p kids=>jW kids (if k=3 then [p] else [])
def jW:List Form->List zF->List zF
 | [],out=>out
 |f::l,out=>jW l (f.props.foldl wT out)
end
mutual
def Form.size:Form->Nat
 | .mk _ _ kids=>1+qE kids
def qE:List Form->Nat
 | [] =>0
 |f::l=>f.size+qE l
end
theorem zxb (out:List zF) (p:zF):(wT out p).length<=out.length+1:=by unfold wT;split<;>simp
theorem zgl (ps out:List zF):(ps.foldl wT out).length<=out.length+ps.length:=by
 induction ps generalizing out with
 |nil=>simp
 |cons p ps ih=>simp only [List.foldl_cons,List.length_cons];have:=ih (wT out p);have:=zxb out p;omega
mutual
theorem zd8:∀f:Form,f.props.length<=f.size
 | .mk k p kids=>by
  unfold Form.props Form.size;have:=zcC kids (if k=3 then [p] else [])
  have:(if k=3 then [p] else []).length<=1:=by split<;>simp
  omega
theorem zcC:∀(l:List Form) (out:List zF),(jW l out).length<=out.length+qE l
 | [],out=>by simp [jW,qE]
 |f::l,out=>by
  unfold jW qE;have d:=zcC l (f.props.foldl wT out);have c:=zgl f.props out;have b:=zd8 f;omega
end
theorem zcD (l:List Form) (i:Nat):qE (l.take i)<=qE l:=by
 induction l generalizing i with
 |nil=>simp [qE]
 |cons f l ih=>cases i with
  |zero=>simp [qE]
  |succ i=>simp only [List.take_succ_cons,qE];have:=ih i;omega
theorem gJ (l:List Form) (i:Nat) (h:i<l.length):qE (l.take (i+1))=qE (l.take i)+(l.getD i default).size:=by
 induction l generalizing i with
 |nil=>simp at h
 |cons f l ih=>cases i with
  |zero=>simp [qE]
  |succ i=>simp only [List.take_succ_cons,qE];rw [ih i (by simpa using h)];simp;omega
theorem zm0 (l:List Form) (i:Nat) (h:i<l.length):(l.getD i default).size<=qE l:=by
 have:=gJ l i h;have:=zcD l (i+1);omega
theorem zhp (l:List Form) (out:List zF) (i:Nat) (h:i<l.length):jW (l.take (i+1)) out=(l.getD i default).props.foldl wT (jW (l.take i) out):=by
 induction l generalizing out i with
 |nil=>simp at h
 |cons f l ih=>
 cases i with
 |zero=>simp [jW]
 |succ i=>simp only [List.take_succ_cons,jW];rw [ih _ _ (by simpa using h)];rfl
theorem zaa.jB {w:World} {B:Nat} {e:TypeId} {size:Nat} {sv:Value} {n:Nat} {xs:List Value} (h:w.ownsRow B e size sv n xs) (cells:Nat->List Value)
  (m:∀j,j<n->∀i,i<size->xs[j*size+i]? =(cells j)[i]?):zaa w size sv n cells:=by
 obtain⟨a,c,rfl,p,o⟩:=xS h;refine⟨a,c,rfl,by unfold maxLen at o;omega, ?_⟩
 intro j d;obtain⟨g,f,l, -, -⟩:=gW h (by omega);cases l
 refine⟨g,0,rfl,(h.lt g rfl).2,λi k=> ?_⟩
 have b:j*size+i<n*size:=by
  have:(j+1)*size<=n*size:=Nat.mul_le_mul_right _ d
  rw [Nat.add_mul] at this;omega
 rw [show 0+j*size+i=j*size+i from by omega,h.cellAt _ b];exact m j d i k
theorem zea {α:Type} (f:α->List Value) (size:Nat) (b:∀x,(f x).length=size) (l:List α) (j i:Nat) (c:j<l.length) (d:i<size):(l.flatMap f)[j*size+i]? =(f l[j])[i]? :=by
 induction l generalizing j with
 |nil=>simp at c
 |cons x l ih=>
 rw [List.flatMap_cons];cases j with
 |zero=>rw [List.getElem?_append_left (by rw [b];omega)];simp
 |succ j=>
 rw [List.getElem?_append_right (by rw [b];have:(j+1)*size=j*size+size:=Nat.succ_mul j size;omega),b]
 have:(j+1)*size+i - size=j*size+i:=by have:(j+1)*size=j*size+size:=Nat.succ_mul j size;omega
 rw [this,ih j (by simpa using c)];simp
theorem j5.jB {w:World} {B:Nat} {e:TypeId} {sv:Value} {l:List zF} (h:w.ownsRow B e 4 sv l.length (l.flatMap zF.cells)):j5 w sv l:=by
 refine zaa.jB h _ λj b i c=> ?_
 rw [zea zF.cells 4 (λ_=>rfl) l j i b c];simp [List.getD,List.getElem?_eq_getElem b]
theorem j5.below {w b:World} {sv:Value} {l:List zF} (h:j5 w sv l) (c:Below w.heap.size w b):j5 b sv l:=zaa.below h c
theorem zck (w:World) (l:List Value) (e:TypeId):∀j u,l[j]? =some u->(w.alloc (.cells l.toArray e)).cell? ((⟨w.heap.size,0,none⟩:Addr).add j)=some u:=by
 intro j u b;rw [show(⟨w.heap.size,0,none⟩:Addr).add j=⟨w.heap.size,j,none⟩ from by unfold Addr.add;split<;>simp_all,ze (zQ w _) j]
 simpa using b
theorem zkj (l:List zF) (p:zF):∃r,zcW l p r:=by
 by_cases h:∃i,i<l.length/\l.getD i ⟨0,0,0,0⟩=p
 ·obtain⟨i,b⟩:=h;obtain⟨d,⟨k,g⟩,f⟩:=exists_least (p:=λi=>i<l.length/\l.getD i ⟨0,0,0,0⟩=p) ⟨i,b⟩;exact⟨d, .inl ⟨d,k,g,rfl,λj m c=>by have:=f j ⟨by omega,c⟩;omega⟩⟩
 exact⟨-1, .inr ⟨rfl,λi b c=>h ⟨i,b,c⟩⟩⟩
theorem zcW.mem {l:List zF} {p:zF} {r:Int} (h:zcW l p r):decide (0<=r)=decide (p∈l):=by
 rcases h with⟨i,d,j,rfl,c⟩|⟨rfl,c⟩
 ·have:p∈l:=by rw [<-j,List.getD_eq_getElem?_getD,List.getElem?_eq_getElem d];exact List.getElem_mem d
  simp [this]
 have:p ∉ l:=by
  intro f;obtain⟨i,b,g⟩:=List.getElem_of_mem f;exact c i b (by rw [List.getD_eq_getElem?_getD,List.getElem?_eq_getElem b];exact g)
 simp [this]
def zxc (B:Nat) (R:Form->Value->Prop) (w:World) (sv:Value) (l:List Form):Prop:=
 ∃a cap,sv= .slice a l.length cap/\l.length<=9223372036854775807/\∀j,j<l.length->∃b off kv,a=some ⟨b,off,none⟩/\b<B/\
  (∀i,i<6->w.cell? ⟨b,off+j*6+i,none⟩=(qQ (l.getD j default) kv)[i]?)/\R (l.getD j default) kv
def uO (B:Nat) (w:World):Nat->Form->Value->Prop
 |0,_,_=>False
 |d+1,f,kv=>zxc B (uO B w d) w kv f.kids
theorem uO.below {B:Nat} {w l:World} {d:Nat} {f:Form} {kv:Value} (h:uO B w d f kv) (q:Below B w l):uO B l d f kv:=by
 induction d generalizing f kv with
 |zero=>exact h.elim
 |succ d ih=>
 obtain⟨a,k,y,x,v⟩:=h;refine⟨a,k,y,x,λj n=> ?_⟩
 obtain⟨b,c,g,u,m,t,r⟩:=v j n;exact⟨b,c,g,u,m,λi o=>(q.cell (p:=⟨b,c+j*6+i,none⟩) m).trans (t i o),ih r⟩
theorem xE.bound {w:World} {d:Nat} {f:Form} {kv:Value} (h:xE w d f kv):uO w.heap.size w d f kv:=by
 induction d generalizing f kv with
 |zero=>exact h.elim
 |succ d ih=>
 obtain⟨a,i,r,q,p⟩:=h;refine⟨a,i,r,q,λj k=> ?_⟩
 obtain⟨b,c,g,o,n,m,l⟩:=p j k;exact⟨b,c,g,o,n,m,ih l⟩
theorem uO.slice {B:Nat} {w:World} {d:Nat} {f:Form} {kv:Value} (h:uO B w d f kv):∃a b,kv= .slice a f.kids.length b/\f.kids.length<=9223372036854775807:=by
 cases d with
 |zero=>exact h.elim
 |succ d=>obtain⟨a,b,g,c,_⟩:=h;exact⟨a,b,g,c⟩
end Go.Proofs.YtmijlmglnnbdjaaGreatDoor
namespace Go.Proofs.YtmijlmglnnbdjaaGreatDoor
def nx (n back i:Nat):Nat:=if i+1<n then i+1 else back
def uj (n back:Nat):Nat->Nat->Nat
 |0,i=>i
 |k+1,i=>nx n back (uj n back k i)
def scan (n back:Nat) (g s:Nat->Bool):Nat->Nat->Bool
 |0,i=>g i
 |f+1,i=>g i||(s i && scan n back g s f (nx n back i))
def kC (n back:Nat) (g s:Nat->Bool) (i:Nat):Bool:=scan n back g s n i
def UP (n back:Nat) (g s:Nat->Bool) (i:Nat):Prop:=∃k,g (uj n back k i)=true/\∀j,j<k->s (uj n back j i)=true
theorem zeN {n back:Nat} (b:back<n) (i:Nat):nx n back i<n:=by unfold nx;split<;>omega
theorem zjk {n back:Nat} (c:back<n) (k i:Nat) (b:i<n):uj n back k i<n:=by
 cases k with
 |zero=>exact b
 |succ k=>exact zeN c _
theorem zeC (n back a b i:Nat):uj n back (a+b) i=uj n back a (uj n back b i):=by
 induction a with
 |zero=>rw [Nat.zero_add];rfl
 |succ a ih=>rw [Nat.succ_add];show nx _ _ _=nx _ _ _;rw [ih]
theorem zab (n back k i:Nat):uj n back (k+1) i=uj n back k (nx n back i):=zeC n back k 1 i
theorem zcq (n back k i:Nat) (h:i+k<n):uj n back k i=i+k:=by
 induction k with
 |zero=>rfl
 |succ k ih=>
 show nx _ _ _=_
 rw [ih (by omega)];unfold nx;rw [if_pos (by omega)];omega
theorem zfq (n back i:Nat) (h:i<n):uj n back (n - i) i=back:=by
 obtain⟨k,b⟩:∃k,n - i=k+1:=⟨n - i - 1,by omega⟩;rw [b];show nx _ _ _=_
 rw [zcq n back k i (by omega)];unfold nx;rw [if_neg (by omega)]
theorem z7i {n back:Nat} (b:back<n) (i:Nat) (h:i<n):uj n back n i=uj n back back i:=by
 have f:uj n back n i=uj n back i back:=by
  rw [show n=i+(n - i) from by omega,zeC];rw [show i+(n - i)=n from by omega,zfq n back i h]
 rw [f];by_cases hc:i+back<n
 ·rw [zcq n back i back (by omega),zcq n back back i hc];omega
 have d:uj n back i back=uj n back (i - (n - back)) back:=by
  rw [show i=(i - (n - back))+(n - back) from by omega,zeC,zfq n back back b];rw [show i - (n - back)+(n - back) - (n - back)=i - (n - back) from by omega]
 rw [d]
 have c:uj n back back i=uj n back (i - (n - back)) (uj n back (n - i) i):=by
  rw [<-zeC];congr 1;omega
 rw [c,zfq n back i h]
theorem reach {n back:Nat} (c:back<n) (i:Nat) (h:i<n) (m:Nat):∃j,j<n/\uj n back m i=uj n back j i:=by
 induction m with
 |zero=>exact⟨0,by omega,rfl⟩
 |succ m ih=>
 obtain⟨j,d,b⟩:=ih;by_cases hc:j+1<n
 ·exact⟨j+1,hc,by show nx _ _ _=nx _ _ _;rw [b]⟩
 refine⟨back,c, ?_⟩
 rw [<-z7i c i h];obtain rfl:n=j+1:=by omega
 show nx _ _ _=nx _ _ _
 rw [b]
theorem zxd {n back:Nat} (o:back<n) {g s:Nat->Bool} {i:Nat} (h:i<n) (d:UP n back g s i):∃k,k<n/\g (uj n back k i)=true/\∀j,j<k->s (uj n back j i)=true:=by
 obtain⟨k,c,b⟩:=d;by_cases hk:k<n
 ·exact⟨k,hk,c,b⟩
 obtain⟨j,f,l⟩:=reach o i h k;exact⟨j,f,by rw [<-l];exact c,λm p=>b m (by omega)⟩
theorem zxe (n back:Nat) (g s:Nat->Bool) (f i:Nat):scan n back g s f i=true↔∃k,k<=f/\g (uj n back k i)=true/\∀j,j<k->s (uj n back j i)=true:=by
 induction f generalizing i with
 |zero=>
  constructor
  ·exact λh=>⟨0,Nat.le_refl _,h,λj d=>by omega⟩
  rintro⟨k,l,b, -⟩
  obtain rfl:k=0:=by omega
  exact b
 |succ f ih=>
 simp only [scan,Bool.or_eq_true,Bool.and_eq_true,ih];constructor
 ·rintro(h|⟨h,k,l,b,c⟩)
  ·exact⟨0,by omega,h,λj d=>by omega⟩
  refine⟨k+1,by omega,by rw [zab];exact b,λj d=> ?_⟩;cases j with
  |zero=>exact h
  |succ j=>rw [zab];exact c j (by omega)
 rintro⟨k,l,b,c⟩
 cases k with
 |zero=>exact .inl b
 |succ k=>exact .inr ⟨c 0 (by omega),k,by omega,by rw [<-zab];exact b,λj d=>by rw [<-zab];exact c (j+1) (by omega)⟩
theorem bC {n back:Nat} (f:back<n) {g s:Nat->Bool} {i:Nat} (h:i<n):kC n back g s i=true↔UP n back g s i:=by
 unfold kC;rw [zxe];constructor
 ·rintro⟨k, -,c,b⟩;exact⟨k,c,b⟩
 intro d;obtain⟨k,j,c,b⟩:=zxd f h d;exact⟨k,by omega,c,b⟩
theorem zbY {n back:Nat} (d:back<n) {g s:Nat->Bool} {i:Nat} (h:i<n):kC n back g s i=(g i||(s i && kC n back g s (nx n back i))):=by
 rw [Bool.eq_iff_iff,bC d h,Bool.or_eq_true,Bool.and_eq_true,bC d (zeN d i)];constructor
 ·rintro⟨k,c,b⟩
  cases k with
  |zero=>exact .inl c
  |succ k=>exact .inr ⟨b 0 (by omega),k,by rw [<-zab];exact c,λj f=>by rw [<-zab];exact b (j+1) (by omega)⟩
 rintro(h|⟨h,k,c,b⟩)
 ·exact⟨0,h,λj f=>by omega⟩
 refine⟨k+1,by rw [zab];exact c,λj f=> ?_⟩;cases j with
 |zero=>exact h
 |succ j=>rw [zab];exact b j (by omega)
theorem zcK {n back:Nat} (b:back<n) {g s g' s':Nat->Bool} (m:∀i,i<n->g i=g' i) (l:∀i,i<n->s i=s' i) {i:Nat} (h:i<n):kC n back g s i=kC n back g' s' i:=by
 rw [Bool.eq_iff_iff,bC b h,bC b h];constructor
 ·rintro⟨k,f,d⟩
  exact⟨k,by rw [<-m _ (zjk b k i h)];exact f,λj c=>by rw [<-l _ (zjk b j i h)];exact d j c⟩
 rintro⟨k,f,d⟩
 exact⟨k,by rw [m _ (zjk b k i h)];exact f,λj c=>by rw [l _ (zjk b j i h)];exact d j c⟩
structure Pass (n back:Nat) (is:Nat->Bool->Bool) (a:Bool) (o:Nat->Bool):Prop where
 last:o (n - 1)=is (n - 1) a
 step:∀i,i+1<n->o i=is i (o (i+1))
theorem zqY {n back:Nat} (b:back<n) {g s:Nat->Bool} {a:Bool} {o:Nat->Bool} (k:Pass n back (λi x=>g i||(s i && x)) a o) (p:a=true->UP n back g s back) (m:Nat):∀i,i<n->n - 1 - i=m->o i=true->UP n back g s i:=by
 induction m with
 |zero=>
  intro i d l c;obtain rfl:i=n - 1:=by omega
  rw [k.last] at c;simp only [Bool.or_eq_true,Bool.and_eq_true] at c;rw [<-bC b d,zbY b d,Bool.or_eq_true,Bool.and_eq_true];rcases c with h|⟨j,f⟩
  ·exact .inl h
  refine .inr ⟨j, ?_⟩
  rw [bC b (zeN b _),show nx n back (n - 1)=back from by unfold nx;rw [if_neg (by omega)]];exact p f
 |succ m ih=>
 intro i d l c;rw [k.step i (by omega)] at c;simp only [Bool.or_eq_true,Bool.and_eq_true] at c;rw [<-bC b d,zbY b d,Bool.or_eq_true,Bool.and_eq_true];rcases c with h|⟨j,f⟩
 ·exact .inl h
 refine .inr ⟨j, ?_⟩
 rw [bC b (zeN b _),show nx n back i=i+1 from by unfold nx;rw [if_pos (by omega)]];exact ih (i+1) (by omega) (by omega) f
theorem zua {n back:Nat} {g s:Nat->Bool} {a:Bool} {o:Nat->Bool} (c:Pass n back (λi x=>g i||(s i && x)) a o) (k:Nat):∀i,i+k<n->g (i+k)=true->(∀j,j<k->s (i+j)=true)->o i=true:=by
 induction k with
 |zero=>
  intro i f b _;by_cases h:i+1<n
  ·rw [c.step i h];simp only [Bool.or_eq_true];exact .inl b
  obtain rfl:i=n - 1:=by omega
  rw [c.last];simp only [Bool.or_eq_true];exact .inl b
 |succ k ih=>
 intro i f b d;rw [c.step i (by omega)];simp only [Bool.or_eq_true,Bool.and_eq_true];refine .inr ⟨d 0 (by omega),ih (i+1) (by omega) (by rw [show i+1+k=i+(k+1) from by omega];exact b) λj l=> ?_⟩;rw [show i+1+j=i+(j+1) from by omega];exact d (j+1) (by omega)
theorem zue {n back:Nat} (h:back<n) {g s:Nat->Bool} (f:UP n back g s back):∃k,back+k<n/\g (back+k)=true/\∀j,j<k->s (back+j)=true:=by
 obtain⟨k,d,c⟩:=f;induction k using Nat.strongRecOn with
 |ind k ih=>
 by_cases hk:back+k<n
 ·refine⟨k,hk,by rw [<-zcq n back k back hk];exact d,λj b=> ?_⟩;rw [<-zcq n back j back (by omega)];exact c j b
 refine ih (k - (n - back)) (by omega) ?_ λj b=> ?_
 ·have:uj n back k back=uj n back (k - (n - back)) back:=by
   conv=>lhs;rw [show k=(k - (n - back))+(n - back) from by omega];rw [zeC,zfq n back back h]
  rw [<-this];exact d
 exact c j (by omega)
theorem zkH {n back:Nat} (b:back<n) {g s:Nat->Bool} {f d:Nat->Bool} (l:Pass n back (λi x=>g i||(s i && x)) false f) (j:Pass n back (λi x=>g i||(s i && x)) (f back) d) (i:Nat) (c:i<n):d i=kC n back g s i:=by
 have q:f back=kC n back g s back:=by
  rw [Bool.eq_iff_iff,bC b b];constructor
  ·exact zqY b l (λh=>by cases h) _ back b rfl
  intro o;obtain⟨k,u,t,r⟩:=zue b o;exact zua l k back u t r
 have:∀m i,i<n->n - 1 - i=m->d i=kC n back g s i:=by
  intro m;induction m with
  |zero=>
   intro i c p;obtain rfl:i=n - 1:=by omega
   rw [j.last,q,zbY b c,show nx n back (n - 1)=back from by unfold nx;rw [if_neg (by omega)]]
  |succ m ih=>
  intro i c p;rw [j.step i (by omega),zbY b c,show nx n back i=i+1 from by unfold nx;rw [if_pos (by omega)],ih (i+1) (by omega) (by omega)]
 exact this _ i c rfl
theorem zmk {n back:Nat} (o:back<n) {g s:Nat->Bool} {f h:Nat->Bool} (m:Pass n back (λi x=>g i && (s i||x)) true f) (l:Pass n back (λi x=>g i && (s i||x)) (f back) h) (i:Nat) (d:i<n):h i= !kC n back (λi=> !g i) (λi=> !s i) i:=by
 have e:∀a b c:Bool,(!(a && (b||c)))=(!a||(!b && !c)):=by decide
 have k:Pass n back (λi x=>(!g i)||((!s i) && x)) false (λi=> !f i):=⟨by rw [m.last,e];rfl,λi d=>by rw [m.step i d,e]⟩
 have j:Pass n back (λi x=>(!g i)||((!s i) && x)) (!f back) (λi=> !h i):=⟨by rw [l.last,e],λi d=>by rw [l.step i d,e]⟩;have:=zkH o k j i d
 rw [<-this];simp
def yH (k:Int) (t a b:Nat->Bool) (n back:Nat):Nat->Bool:=
 if k=1 then λ_=>true else if k=2 then λ_=>false else if k=3 then t else if k=4 then λi=> !a i else if k=5 then λi=>a i && b i else if k=6 then λi=>a i||b i
 else if k=7 then λi=> !a i||b i else if k=8 then λi=>a (nx n back i) else if k=9 then kC n back b a else if k=12 then kC n back a (λ_=>true)
 else if k=10 then λi=> !kC n back (λi=> !b i) (λi=> !a i) i else if k=11 then λi=> !kC n back (λi=> !a i) (λ_=>true) i else λ_=>false
mutual
def Form.sem (l:List zF) (ls:List (List Bool)) (back:Nat):Form->Nat->Bool
 | .mk k p kids=>yH k (λi=>(ls.getD i []).getD (l.idxOf p) false) ((zie l ls back kids).getD 0 (λ_=>false)) ((zie l ls back kids).getD 1 (λ_=>false)) ls.length back
def zie (l:List zF) (ls:List (List Bool)) (back:Nat):List Form->List (Nat->Bool)
 | [] => []
 |f::fs=>f.sem l ls back::zie l ls back fs
end
theorem zif (l:List zF) (ls:List (List Bool)) (back:Nat) (b:List Form) (j:Nat) (h:j<b.length):(zie l ls back b).getD j (λ_=>false)=(b.getD j default).sem l ls back:=by
 induction b generalizing j with
 |nil=>simp at h
 |cons f b ih=>cases j with
  |zero=>simp [zie]
  |succ j=>simp only [zie,List.getD_cons_succ];exact ih j (by simpa using h)
def Form.truth (f:Form) (l:List zF) (ls:List (List Bool)) (back:Nat):List Bool:=(List.range ls.length).map (f.sem l ls back)
end Go.Proofs.YtmijlmglnnbdjaaGreatDoor
namespace Go.Proofs.YtmijlmglnnbdjaaGreatDoor
open Go.RowKit
set_option maxRecDepth 100000
set_option maxHeartbeats 16000000
theorem zdN {n:Nat} {P:Nat->Bool} (i:Nat) (b:i<n) (h:P i=true):(List.range n).any P=true:=by
 rw [List.any_eq_true];exact⟨i,by simpa using b,h⟩
theorem any_none {n:Nat} {P:Nat->Bool} (h:∀j,j<n->P j=false):(List.range n).any P=false:=by
 rw [List.any_eq_false];intro j b;rw [h j (by simpa using b)];simp
theorem znf {α:Type} [Inhabited α] (R:World->α->List Value->Prop) (O:wH R) (w:World) (sv:Value) (l:List α) (C:zh R 1 w sv l) (y:FuncId) (first c:Array Value) (P:Nat->Bool) (N:∀f W,(callFunc y f).run Tryz.prog W= .ok (.enter y f) W)
  (d:∀j,j<l.length->∀(W:World) (cs:List Value),cs.length=1->R W (l.getD j default) cs->Below w.heap.size w W->Calls Tryz.prog y (first.push (cs.getD 0 undef)++c) W λe T=>e= .returned (.bool (P j))/\Below W.heap.size W T):
  Calls Tryz.prog 125 #[sv, .func (.func y) first c] w λe E=>(∃i:Nat,i<l.length/\e= .returned (I4 i)/\(P i=true/\∀j,j<i->P j=false)/\Below w.heap.size w E)\/(e= .returned (I4 (-1))/\(∀j,j<l.length->P j=false)/\Below w.heap.size w E):=by
 obtain⟨a,S,rfl,L⟩:=C.slice;have H:=qh C;have X:=qh d;clear C d;obtain⟨n,h⟩:=qxE l.length;rw [<-h] at L H ⊢;have U:=qh h;clear h;go_enter Tryz.func125,Tryz.ntmps125
 go_wp2_with fail
 go_loopg [8] n (λg J wr=>∃i:Nat,i<=n/\J2 (g=n - i)/\J=I4 i/\J2 (∀j,j<i->P j=false)/\J2 (Below w.heap.size w wr))
 case atStart=>exact⟨0,Nat.zero_le _,rfl,rfl,λj M=>by omega,Below.refl _ _⟩
 case round=>
 obtain⟨i,Z,V,rfl,D,x⟩:=hrel;by_cases hlt:i<n
 rotate_left
 ·obtain rfl:n=i:=by omega
  go_wp2_with fail
  go_ret;exact .inr ⟨rfl,D.o,x.o⟩
 have Y:(i:Int)<(n:Int):=by omega
 have B:n=l.length:=U.o;obtain⟨b,z,cs,rfl,K,k,F,m⟩:=zh.part (zh.below O H.o x.o) i (by omega);have q:=X.o i (by omega) wr cs k m x.o;clear B m
 obtain⟨p,rfl⟩:∃p,cs= [p] :=by
  match cs,k with
  | [p],_=>exact⟨p,rfl⟩
 have A:wr.cell? ⟨b,z+i,none⟩=some p:=by have:=F 0 (by omega);simpa using this
 clear F k;have u:=qh q;clear q;go_wp2_with fail
 refine u.o.mono ?_
 rintro e I ⟨rfl,t⟩;have v:J2 (Below w.heap.size w I):=x.o.trans (t.mono x.o.size);obtain⟨r,m⟩:=qxE (P i);rw [<-m];have G:=qh m;clear t m u A;cases r
 ·go_wp2_with fail
  go_roundg (n - (i+1))
  case measure=>rw [V.o];omega
  case rel=>exact⟨i+1,by omega,rfl,by simp,λj M=>by
   by_cases he:j=i
   ·subst he;exact G.o.symm
   exact D.o j (by omega),v.o⟩
 go_wp2_with fail
 go_ret;exact .inl ⟨i,hlt,rfl,⟨G.o.symm,D.o⟩,v.o⟩
theorem zjl {α:Type} [Inhabited α] (R:World->α->List Value->Prop) (v:wH R) (w:World) (sv:Value) (l:List α) (q:zh R 1 w sv l) (k:FuncId) (first b:Array Value) (P:Nat->Bool) (g:∀d W,(callFunc k d).run Tryz.prog W= .ok (.enter k d) W)
  (c:∀j,j<l.length->∀(W:World) (cs:List Value),cs.length=1->R W (l.getD j default) cs->Below w.heap.size w W->Calls Tryz.prog k (first.push (cs.getD 0 undef)++b) W λe x=>e= .returned (.bool (P j))/\Below W.heap.size W x):
  Calls Tryz.prog 93 #[sv, .func (.func k) first b] w λe t=>e= .returned (.bool ((List.range l.length).any P))/\Below w.heap.size w t:=by
 have r:=znf R v w sv l q k first b P g c
 have n:=qh r;clear r c q g;go_enter Tryz.func93,Tryz.ntmps93
 go_wp2_with fail
 refine n.o.mono ?_
 rintro e y (⟨i,u,rfl,f,h⟩|⟨rfl,f,h⟩)
 ·have p:=qh h;have m:=qh f;clear h n f;go_wp2_with fail
  go_ret;exact⟨(by rw [zdN i u m.o.1];first|rfl|simp),p.o⟩
 have p:=qh h;have m:=qh f;clear h n f;go_wp2_with fail
 go_ret;exact⟨(by rw [any_none m.o];first|rfl|simp),p.o⟩
theorem zkx {α:Type} [Inhabited α] (R:World->α->List Value->Prop) (T:wH R) (w:World) (sv:Value) (l:List α) (E:zh R 2 w sv l) (A:FuncId) (first c:Array Value) (P:Nat->Bool) (S:∀f W,(callFunc A f).run Tryz.prog W= .ok (.enter A f) W)
  (d:∀j,j<l.length->∀(W:World) (cs:List Value),cs.length=2->R W (l.getD j default) cs->Below w.heap.size w W->Calls Tryz.prog A (first.push (.agg cs.toArray)++c) W λe V=>e= .returned (.bool (P j))/\Below W.heap.size W V):
  Calls Tryz.prog 171 #[sv, .func (.func A) first c] w λe H=>(∃i:Nat,i<l.length/\e= .returned (I4 i)/\(P i=true/\∀j,j<i->P j=false)/\Below w.heap.size w H)\/(e= .returned (I4 (-1))/\(∀j,j<l.length->P j=false)/\Below w.heap.size w H):=by
 obtain⟨a,U,rfl,N⟩:=E.slice;have J:=qh E;have Z:=qh d;clear E d;obtain⟨n,h⟩:=qxE l.length;rw [<-h] at N J ⊢;have X:=qh h;clear h;go_enter Tryz.func171,Tryz.ntmps171
 go_wp2_with fail
 go_loopg [8] n (λg M wr=>∃i:Nat,i<=n/\J2 (g=n - i)/\M=I4 i/\J2 (∀j,j<i->P j=false)/\J2 (Below w.heap.size w wr))
 case atStart=>exact⟨0,Nat.zero_le _,rfl,rfl,λj O=>by omega,Below.refl _ _⟩
 case round=>
 obtain⟨i,Q,Y,rfl,G,z⟩:=hrel;by_cases hlt:i<n
 rotate_left
 ·obtain rfl:n=i:=by omega
  go_wp2_with fail
  go_ret;exact .inr ⟨rfl,G.o,z.o⟩
 have K:(i:Int)<(n:Int):=by omega
 have D:n=l.length:=X.o;obtain⟨b,t,cs,rfl,s,k,F,m⟩:=zh.part (zh.below T J.o z.o) i (by omega);have u:=Z.o i (by omega) wr cs k m z.o;clear D m
 obtain⟨q,p,rfl⟩:∃q p,cs= [q,p] :=by
  match cs,k with
  | [q,p],_=>exact⟨q,p,rfl⟩
 have C:wr.cell? ⟨b,t+i*2,none⟩=some q:=by have:=F 0 (by omega);simpa using this
 have B:wr.cell? ⟨b,t+i*2+1,none⟩=some p:=by have:=F 1 (by omega);simpa using this
 clear F k;have x:=qh u;clear u;go_wp2_with fail
 refine x.o.mono ?_
 rintro e L ⟨rfl,v⟩;have y:J2 (Below w.heap.size w L):=z.o.trans (v.mono z.o.size);obtain⟨r,m⟩:=qxE (P i);rw [<-m];have I:=qh m;clear v m x C B;cases r
 ·go_wp2_with fail
  go_roundg (n - (i+1))
  case measure=>rw [Y.o];omega
  case rel=>exact⟨i+1,by omega,rfl,by simp,λj O=>by
   by_cases he:j=i
   ·subst he;exact I.o.symm
   exact G.o j (by omega),y.o⟩
 go_wp2_with fail
 go_ret;exact .inl ⟨i,hlt,rfl,⟨I.o.symm,G.o⟩,y.o⟩
theorem zl6 {α:Type} [Inhabited α] (R:World->α->List Value->Prop) (Y:wH R) (w:World) (sv:Value) (l:List α) (J:zh R 4 w sv l) (D:FuncId) (first c:Array Value) (P:Nat->Bool) (X:∀h W,(callFunc D h).run Tryz.prog W= .ok (.enter D h) W)
  (d:∀j,j<l.length->∀(W:World) (cs:List Value),cs.length=4->R W (l.getD j default) cs->Below w.heap.size w W->Calls Tryz.prog D (first.push (.agg cs.toArray)++c) W λe K=>e= .returned (.bool (P j))/\Below W.heap.size W K):
  Calls Tryz.prog 228 #[sv, .func (.func D) first c] w λe M=>(∃i:Nat,i<l.length/\e= .returned (I4 i)/\(P i=true/\∀j,j<i->P j=false)/\Below w.heap.size w M)\/(e= .returned (I4 (-1))/\(∀j,j<l.length->P j=false)/\Below w.heap.size w M):=by
 obtain⟨a,Z,rfl,U⟩:=J.slice;have O:=qh J;have HC:=qh d;clear J d;obtain⟨n,k⟩:=qxE l.length;rw [<-k] at U O ⊢;have Q:=qh k;clear k;go_enter Tryz.func228,Tryz.ntmps228
 go_wp2_with fail
 go_loopg [8] n (λg T wr=>∃i:Nat,i<=n/\J2 (g=n - i)/\T=I4 i/\J2 (∀j,j<i->P j=false)/\J2 (Below w.heap.size w wr))
 case atStart=>exact⟨0,Nat.zero_le _,rfl,rfl,λj V=>by omega,Below.refl _ _⟩
 case round=>
 obtain⟨i,hi,s,rfl,L,C⟩:=hrel;by_cases hlt:i<n
 rotate_left
 ·obtain rfl:n=i:=by omega
  go_wp2_with fail
  go_ret;exact .inr ⟨rfl,L.o,C.o⟩
 have vC:(i:Int)<(n:Int):=by omega
 have I:n=l.length:=Q.o;obtain⟨b,f,cs,rfl,hb,m,y,p⟩:=zh.part (zh.below Y O.o C.o) i (by omega);have x:=HC.o i (by omega) wr cs m p C.o;clear I p
 obtain⟨v,u,t,q,rfl⟩:∃v u t q,cs= [v,u,t,q] :=by
  match cs,m with
  | [v,u,t,q],_=>exact⟨v,u,t,q,rfl⟩
 have H:wr.cell? ⟨b,f+i*4,none⟩=some v:=by have:=y 0 (by omega);simpa using this
 have G:wr.cell? ⟨b,f+i*4+1,none⟩=some u:=by have:=y 1 (by omega);simpa using this
 have F:wr.cell? ⟨b,f+i*4+2,none⟩=some t:=by have:=y 2 (by omega);simpa using this
 have E:wr.cell? ⟨b,f+i*4+3,none⟩=some q:=by have:=y 3 (by omega);simpa using this
 clear y m;have A:=qh x;clear x;go_wp2_with fail
 refine A.o.mono ?_
 rintro e S ⟨rfl,z⟩;have B:J2 (Below w.heap.size w S):=C.o.trans (z.mono C.o.size);obtain⟨r,p⟩:=qxE (P i);rw [<-p];have N:=qh p;clear z p A H G F E;cases r
 ·go_wp2_with fail
  go_roundg (n - (i+1))
  case measure=>rw [s.o];omega
  case rel=>exact⟨i+1,by omega,rfl,by simp,λj V=>by
   by_cases he:j=i
   ·subst he;exact N.o.symm
   exact L.o j (by omega),B.o⟩
 go_wp2_with fail
 go_ret;exact .inl ⟨i,hlt,rfl,⟨N.o.symm,L.o⟩,B.o⟩
theorem zih {α:Type} [Inhabited α] (R:World->α->List Value->Prop) (v:wH R) (w:World) (sv:Value) (l:List α) (q:zh R 4 w sv l) (k:FuncId) (first b:Array Value) (P:Nat->Bool) (g:∀d W,(callFunc k d).run Tryz.prog W= .ok (.enter k d) W)
  (c:∀j,j<l.length->∀(W:World) (cs:List Value),cs.length=4->R W (l.getD j default) cs->Below w.heap.size w W->Calls Tryz.prog k (first.push (.agg cs.toArray)++b) W λe x=>e= .returned (.bool (P j))/\Below W.heap.size W x):
  Calls Tryz.prog 215 #[sv, .func (.func k) first b] w λe t=>e= .returned (.bool ((List.range l.length).any P))/\Below w.heap.size w t:=by
 have r:=zl6 R v w sv l q k first b P g c
 have n:=qh r;clear r c q g;go_enter Tryz.func215,Tryz.ntmps215
 go_wp2_with fail
 refine n.o.mono ?_
 rintro e y (⟨i,u,rfl,f,h⟩|⟨rfl,f,h⟩)
 ·have p:=qh h;have m:=qh f;clear h n f;go_wp2_with fail
  go_ret;exact⟨(by rw [zdN i u m.o.1];first|rfl|simp),p.o⟩
 have p:=qh h;have m:=qh f;clear h n f;go_wp2_with fail
 go_ret;exact⟨(by rw [any_none m.o];first|rfl|simp),p.o⟩
theorem zky {α:Type} [Inhabited α] (R:World->α->List Value->Prop) (hR:wH R) (w:World) (sv:Value) (l:List α) (hl:zh R 12 w sv l) (M:FuncId) (first d:Array Value) (P:Nat->Bool) (hfn:∀m W,(callFunc M m).run Tryz.prog W= .ok (.enter M m) W)
  (k:∀j,j<l.length->∀(W:World) (cs:List Value),cs.length=12->R W (l.getD j default) cs->Below w.heap.size w W->Calls Tryz.prog M (first.push (.agg cs.toArray)++d) W λe W'=>e= .returned (.bool (P j))/\Below W.heap.size W W'):
  Calls Tryz.prog 122 #[sv, .func (.func M) first d] w λe w'=>(∃i:Nat,i<l.length/\e= .returned (I4 i)/\(P i=true/\∀j,j<i->P j=false)/\Below w.heap.size w w')\/(e= .returned (I4 (-1))/\(∀j,j<l.length->P j=false)/\Below w.heap.size w w'):=by
 obtain⟨a,cap,rfl,hn⟩:=hl.slice;have HL:=qh hl;have HC:=qh k;clear hl k;obtain⟨n,p⟩:=qxE l.length;rw [<-p] at hn HL ⊢;have HN:=qh p;clear p;go_enter Tryz.func122,Tryz.ntmps122
 go_wp2_with fail
 go_loopg [8] n (λg s8 wr=>∃i:Nat,i<=n/\J2 (g=n - i)/\s8=I4 i/\J2 (∀j,j<i->P j=false)/\J2 (Below w.heap.size w wr))
 case atStart=>exact⟨0,Nat.zero_le _,rfl,rfl,λj hj=>by omega,Below.refl _ _⟩
 case round=>
 obtain⟨i,hi,HG,rfl,HJ,L⟩:=hrel;by_cases hlt:i<n
 rotate_left
 ·obtain rfl:n=i:=by omega
  go_wp2_with fail
  go_ret;exact .inr ⟨rfl,HJ.o,L.o⟩
 have vC:(i:Int)<(n:Int):=by omega
 have hln:n=l.length:=HN.o;obtain⟨b,c,cs,rfl,hb,q,f,t⟩:=zh.part (zh.below hR HL.o L.o) i (by omega);have G:=HC.o i (by omega) wr cs q t L.o;clear hln t
 obtain⟨E,D,C,B,A,z,y,x,v,u,h,F,rfl⟩:∃E D C B A z y x v u h F,cs= [E,D,C,B,A,z,y,x,v,u,h,F] :=by
  match cs,q with
  | [E,D,C,B,A,z,y,x,v,u,h,F],_=>exact⟨E,D,C,B,A,z,y,x,v,u,h,F,rfl⟩
 have s:wr.cell? ⟨b,c+i*12,none⟩=some E:=by have:=f 0 (by omega);simpa using this
 have Q:wr.cell? ⟨b,c+i*12+1,none⟩=some D:=by have:=f 1 (by omega);simpa using this
 have K:wr.cell? ⟨b,c+i*12+2,none⟩=some C:=by have:=f 2 (by omega);simpa using this
 have Z:wr.cell? ⟨b,c+i*12+3,none⟩=some B:=by have:=f 3 (by omega);simpa using this
 have Y:wr.cell? ⟨b,c+i*12+4,none⟩=some A:=by have:=f 4 (by omega);simpa using this
 have X:wr.cell? ⟨b,c+i*12+5,none⟩=some z:=by have:=f 5 (by omega);simpa using this
 have V:wr.cell? ⟨b,c+i*12+6,none⟩=some y:=by have:=f 6 (by omega);simpa using this
 have U:wr.cell? ⟨b,c+i*12+7,none⟩=some x:=by have:=f 7 (by omega);simpa using this
 have T:wr.cell? ⟨b,c+i*12+8,none⟩=some v:=by have:=f 8 (by omega);simpa using this
 have S:wr.cell? ⟨b,c+i*12+9,none⟩=some u:=by have:=f 9 (by omega);simpa using this
 have O:wr.cell? ⟨b,c+i*12+10,none⟩=some h:=by have:=f 10 (by omega);simpa using this
 have N:wr.cell? ⟨b,c+i*12+11,none⟩=some F:=by have:=f 11 (by omega);simpa using this
 clear f q;have I:=qh G;clear G;go_wp2_with fail
 refine I.o.mono ?_
 rintro e w2 ⟨rfl,H⟩;have J:J2 (Below w.heap.size w w2):=L.o.trans (H.mono L.o.size);obtain⟨r,t⟩:=qxE (P i);rw [<-t];have HR:=qh t;clear H t I s Q K Z Y X V U T S O N;cases r
 ·go_wp2_with fail
  go_roundg (n - (i+1))
  case measure=>rw [HG.o];omega
  case rel=>exact⟨i+1,by omega,rfl,by simp,λj hj=>by
   by_cases he:j=i
   ·subst he;exact HR.o.symm
   exact HJ.o j (by omega),J.o⟩
 go_wp2_with fail
 go_ret;exact .inl ⟨i,hlt,rfl,⟨HR.o.symm,HJ.o⟩,J.o⟩
theorem zhd {α:Type} [Inhabited α] (R:World->α->List Value->Prop) (v:wH R) (w:World) (sv:Value) (l:List α) (q:zh R 12 w sv l) (k:FuncId) (first b:Array Value) (P:Nat->Bool) (g:∀d W,(callFunc k d).run Tryz.prog W= .ok (.enter k d) W)
  (c:∀j,j<l.length->∀(W:World) (cs:List Value),cs.length=12->R W (l.getD j default) cs->Below w.heap.size w W->Calls Tryz.prog k (first.push (.agg cs.toArray)++b) W λe x=>e= .returned (.bool (P j))/\Below W.heap.size W x):
  Calls Tryz.prog 89 #[sv, .func (.func k) first b] w λe t=>e= .returned (.bool ((List.range l.length).any P))/\Below w.heap.size w t:=by
 have r:=zky R v w sv l q k first b P g c
 have n:=qh r;clear r c q g;go_enter Tryz.func89,Tryz.ntmps89
 go_wp2_with fail
 refine n.o.mono ?_
 rintro e y (⟨i,u,rfl,f,h⟩|⟨rfl,f,h⟩)
 ·have p:=qh h;have m:=qh f;clear h n f;go_wp2_with fail
  go_ret;exact⟨(by rw [zdN i u m.o.1];first|rfl|simp),p.o⟩
 have p:=qh h;have m:=qh f;clear h n f;go_wp2_with fail
 go_ret;exact⟨(by rw [any_none m.o];first|rfl|simp),p.o⟩
end Go.Proofs.YtmijlmglnnbdjaaGreatDoor
namespace Go.Proofs.YtmijlmglnnbdjaaGreatDoor
open Go.RowKit
set_option maxRecDepth 100000
set_option maxHeartbeats 16000000
def qN (w:World) (b:Nat) (l:List (Int × Value)):Prop:=
 ∃es clock,w.heap[b]? =some (.map es clock)/\es.toList.map (λe=>(e.key,e.val))=l.map (λx=>(Value.int .i64 x.1,x.2))
def kF:List (Int × Value)->Int->Option Value
 | [],_=>none
 |x::l,k=>if x.1=k then some x.2 else kF l k
def zaA:List (Int × Value)->Int->Value->List (Int × Value)
 | [],k,v=> [(k,v)]
 |x::l,k,v=>if x.1=k then(k,v)::l else x::zaA l k v
theorem qN.since {F:Nat->Prop} {w d:World} {b:Nat} {l:List (Int × Value)} (h:qN w b l) (g:Since F w d) (i:¬F b):qN d b l:=by
 obtain⟨k,c,f,j⟩:=h;exact⟨k,c,(g.block b (zA f) i).trans f,j⟩
theorem qN.below {w d:World} {b:Nat} {l:List (Int × Value)} (h:qN w b l) (g:Below w.heap.size w d):qN d b l:=by
 obtain⟨j,c,f,i⟩:=h;exact⟨j,c,(g.block b (zA f)).trans f,i⟩
theorem qN.lt {w:World} {b:Nat} {l:List (Int × Value)} (h:qN w b l):b<w.heap.size:=by
 obtain⟨g,c,d,f⟩:=h;exact zA d
theorem zg0 (q:IntKind) (k:Int):∀(l:List (Int × Value)) (c:List MapEntry) (i:Nat),c.map (λe=>(e.key,e.val))=l.map (λx=>(Value.int .i64 x.1,x.2))->
  ∃r,Instr.findNow (.int q) (I4 k) c i=some r/\r.map (·.2)=kF l k/\(∀j v,r=some (j,v)->i<=j/\∃e,c[j - i]? =some e/\e.key=I4 k/\
   ∀b:Value,(c.modify (j - i) (λe=> { e with key:=I4 k,val:=b })).map (λe=>(e.key,e.val))=(zaA l k b).map (λx=>(Value.int .i64 x.1,x.2)))/\
   (r=none->∀b:Value,zaA l k b=l++ [(k,b)]):=by
 intro l;induction l with
 |nil=>
  intro c i f;have:c= [] :=by simpa using f
  subst this;exact⟨none,rfl,rfl,by simp,by simp [zaA]⟩
 |cons x l ih=>
 intro c i f;cases c with
 |nil=>simp at f
 |cons e c=>
 simp only [List.map_cons,List.cons.injEq,Prod.mk.injEq] at f;obtain⟨⟨h,o⟩,n⟩:=f;by_cases hk:x.1=k
 ·refine⟨some (i,e.val), ?_, ?_, ?_,by simp⟩
  ·simp [Instr.findNow,Instr.sameNow,h,hk]
  ·simp [kF,hk,o]
  intro j v g;simp only [Option.some.injEq,Prod.mk.injEq] at g;obtain⟨rfl,rfl⟩:=g;refine⟨Nat.le_refl _,e,by simp,by rw [h,hk], ?_⟩
  intro b;simp [zaA,hk,n]
 obtain⟨r,C,B,A,z⟩:=ih c (i+1) n;refine⟨r, ?_, ?_, ?_, ?_⟩
 ·have m:(k==x.1)=false:=beq_eq_false_iff_ne.2 λe=>hk e.symm;simp only [Instr.findNow,Instr.sameNow,h,if_true,m,C]
 ·simp [kF,hk,B]
 ·intro j v g;obtain⟨E,D,u,t,p⟩:=A j v g;have d:j - i=(j - (i+1))+1:=by omega
  refine⟨by omega,D,by rw [d];simpa using u,t, ?_⟩
  intro b;rw [d];simp [zaA,hk,h,o,p b]
 intro y b;simp [zaA,hk,z y b]
section
variable {P:Program} {w:World}
theorem zaX (P:Program) (w:World) (c:Bool) (n:Nat) (k:TypeId) (q:IntKind) (b:P.underlying k=some (.int q)) (v:Value):(Instr.checkKey c (n+1) k v).run P w= .ok () w:=by
 unfold Instr.checkKey;simp [run_underlying b]
theorem qm {b:Nat} {l:List (Int × Value)} (h:qN w b l) {t k e:TypeId} {q:IntKind} (n:P.underlying t=some (.map k e)) (i:P.underlying k=some (.int q)) {z:Value} (m:(zeroValue e).run P w= .ok z w) (j:Int) (c:Bool):
  (Instr.lookup t (.map (some b)) (I4 j) c).run P w= .ok (if c then .tuple #[(kF l j).getD z, .bool (kF l j).isSome] else(kF l j).getD z) w:=by
 obtain⟨v,g,p,o⟩:=h;obtain⟨r,u,d, -, -⟩:=zg0 q j l v.toList 0 o;unfold Instr.lookup;simp only [Sem.run_bind,run_underlying n,Result.andThen_ok];have f:=MapKept.run_getObj_map (P:=P) p;simp only [Sem.run_bind,f,Result.andThen_ok,Sem.run_pure,zaX P w _ 9999 k q i,Instr.findKey,run_underlying i,u];cases r with
 |none=>simp only [Option.map_none] at d;simp [<-d,m]
 |some x=>simp only [Option.map_some] at d;simp [<-d]
theorem zjm {b:Nat} {l:List (Int × Value)} (h:qN w b l) {t k e:TypeId} {q:IntKind} (E:P.underlying t=some (.map k e)) (p:P.underlying k=some (.int q)) (j:Int) (v:Value):
  ∃n,(Instr.mapUpdate t (.map (some b)) (I4 j) v).run P w= .ok () n/\qN n b (zaA l j v)/\Since (λk=>k=b) w n/\n.heap.size=w.heap.size:=by
 obtain⟨m,c,u,F⟩:=h;obtain⟨r,G, -,L,J⟩:=zg0 q j l m.toList 0 F;have z:=zA u;have f:=MapKept.run_getObj_map (P:=P) u
 have d:∀o:Obj,Since (λk=>k=b) w { w with heap:=w.heap.setIfInBounds b o } :=λo=>
  ⟨rfl,rfl,rfl,by simp,λi _ I=>by
   show(w.heap.setIfInBounds b o)[i]? =_
   rw [Array.getElem?_setIfInBounds_ne (λe=>I e.symm)]⟩
 have g:∀o:Obj,({ w with heap:=w.heap.setIfInBounds b o } :World).heap[b]? =some o:=λo=>by
  show(w.heap.setIfInBounds b o)[b]? =_
  simp [z]
 cases r with
 |none=>
  refine⟨{ w with heap:=w.heap.setIfInBounds b (.map (m.push { key:=I4 j,val:=v,born:=c }) (c+1)) }, ?_,⟨_,_,g _, ?_⟩,d _,by simp⟩
  ·unfold Instr.mapUpdate;simp only [Sem.run_bind,run_underlying E,Result.andThen_ok,f,zaX P w _ 9999 k q p,Instr.findKey,run_underlying p,G,Sem.run_pure];exact MapKept.run_setObj_map _ u
  rw [J rfl v];simp [F]
 |some x=>
 obtain⟨i,y⟩:=x;obtain⟨-,M,D,H,C⟩:=L i y rfl;simp only [Nat.sub_zero] at D C;have B:m[i]? =some M:=by simpa using D
 refine⟨{ w with heap:=w.heap.setIfInBounds b (.map (m.modify i λe=> { e with key:=I4 j,val:=v }) c) }, ?_,⟨_,_,g _, ?_⟩,d _,by simp⟩
 ·unfold Instr.mapUpdate
  have A:(Instr.keyThatStays (((m[i]?).map (·.key)).getD (I4 j)) (I4 j)).run P w= .ok (I4 j) w:=by
   rw [B];simp only [Option.map_some,Option.getD_some,H,Instr.keyThatStays];rw [if_pos (by simp [Instr.sameBits])];rfl
  simp only [Sem.run_bind,run_underlying E,Result.andThen_ok,f,zaX P w _ 9999 k q p,Instr.findKey,run_underlying p,G,Sem.run_pure,A];exact MapKept.run_setObj_map _ u
 have:=C v
 simpa [Array.toList_modify] using this
end
theorem qJ {P:Program} (w:World) {d:Array Oper} {rest:List Oper} {o:Oper} {a:Act} {Q:Exit->Act->World->Prop} (i:o.guard=none) (m k x:Operand) (t:TypeId) (u:o.op= .insert t m k x)
  (f e:TypeId) (q:IntKind) (r:P.underlying t=some (.map f e)) (z:P.underlying f=some (.int q)) (b:Nat) (l:List (Int × Value)) (y:a.eval m= .map (some b)) (j:Int) (A:a.eval k=I4 j) (v:Value) (p:a.eval x=v) (h:qN w b l)
  (hK:∀c,qN c b (zaA l j v)->Since (λk=>k=b) w c->c.heap.size=w.heap.size->wpList P d Q rest (a.put o.dst undef) c):wpList P d Q (o::rest) a w:=by
 refine wpList_plain i λB n=> ?_
 obtain⟨c,g,r1,r2,r3⟩:=zjm (P:=P) h r z j v;unfold Oper.wp;simp [execOp,u,y,A,p,g,Result.andThen];exact n _ _ (hK c r1 r2 r3)
end Go.Proofs.YtmijlmglnnbdjaaGreatDoor
namespace Go.Proofs.YtmijlmglnnbdjaaGreatDoor
open Go.RowKit
set_option maxRecDepth 100000
set_option maxHeartbeats 16000000
def fm (s:List UInt8) (n:Int):Value:= .agg #[.string ⟨s.toArray⟩,I4 n]
def zdq:List (Int × Value):= [(1,fm [116,114,117,101] 0),(2,fm [102,97,108,115,101] 0),(4,fm [110,111,116] 1),(5,fm [97,110,100] 2),(6,fm [111,114] 2),(7,fm [105,109,112,108,121] 2),(8,fm [110,101,120,116] 1),(9,fm [117,110,116,105,108] 2),(10,fm [114,101,108,101,97,115,101] 2),(11,fm [97,108,119,97,121,115] 1),(12,fm [101,118,101,114] 1)]
def zqZ (w:World) (e:Ending) (w':World):Prop:=∃b,e= .returned (.map (some b))/\qN w' b zdq/\w.heap.size<=b/\Below w.heap.size w w'
theorem zuf (w:World):Calls Tryz.prog 70 #[] w (zqZ w):=by
 have g:= @run_makeMap Tryz.prog;have d:qN (w.alloc (.map #[] 0)) w.heap.size [] :=⟨#[],0,zQ w _,rfl⟩;have b:Below w.heap.size w (w.alloc (.map #[] 0)):=(Below.refl _ _).alloc (Nat.le_refl _) _;go_enter Tryz.func70,Tryz.ntmps70
 go_wp2_with(refine qJ _ rfl _ _ _ 130 rfl 3 172 .i64 Tryz.underlying130 Tryz.underlying3 w.heap.size _ rfl _ rfl _ rfl d ?_;clear d;intro h d c f;replace b:=b.trans (c.below b.size (λk i=>by omega));clear c f);go_ret;exact⟨w.heap.size,rfl,d,Nat.le_refl _,b⟩
theorem zra {w:World} {b o:Nat} {f:Form} {kv:Value} (h:∀i,i<6->w.cell? ⟨b,o+i,none⟩=(qQ f kv)[i]?):
  w.cell? ⟨b,o,none⟩=some (I4 f.kind)/\w.cell? ⟨b,o+1,none⟩=some (I4 f.prop.kind)/\w.cell? ⟨b,o+2,none⟩=some (I4 f.prop.thread)/\
   w.cell? ⟨b,o+3,none⟩=some (I4 f.prop.place)/\w.cell? ⟨b,o+4,none⟩=some (I4 f.prop.num)/\w.cell? ⟨b,o+5,none⟩=some kv:=
 ⟨h 0 (by omega),h 1 (by omega),h 2 (by omega),h 3 (by omega),h 4 (by omega),h 5 (by omega)⟩
theorem zkz (R:Form->Value->Prop) (sv:Value) (l:List Form) (q:FuncId) (first c:Array Value) (I H:Nat->World->Prop)
  (S:∀m W,(callFunc q m).run Tryz.prog W= .ok (.enter q m) W) (h:∀i W,I i W->zeB R W sv l)
  (d:∀i W kv,i<l.length->I i W->R (l.getD i default) kv->Calls Tryz.prog q (first.push (vI (l.getD i default) kv)++c) W λe L=>∃r:Bool,e= .returned (.bool r)/\(r=true->H i L)/\(r=false->I (i+1) L))
  (w:World) (t:I 0 w):
  Calls Tryz.prog 133 #[sv, .func (.func q) first c] w λe D=>
   (∃i:Nat,i<l.length/\e= .returned (I4 i)/\H i D)\/(e= .returned (I4 (-1))/\I l.length D):=by
 obtain⟨a,V,rfl,K, -⟩:=h 0 w t;have X:=qh t;clear t;go_enter Tryz.func133,Tryz.ntmps133
 go_wp2
 go_loopg [8] l.length (λg M wr=>∃i:Nat,i<=l.length/\J2 (g=l.length - i)/\M=I4 i/\J2 (I i wr))
 case atStart=>exact⟨0,Nat.zero_le _,rfl,rfl,X.o⟩
 case round=>
 obtain⟨i,Q,Y,rfl,A⟩:=hrel;by_cases hlt:i<l.length
 rotate_left
 ·have:i=l.length:=by omega
  subst this;clear d;go_wp2
  go_ret;exact .inr ⟨rfl,A.o⟩
 obtain⟨a',G,T, -,F⟩:=h i wr A.o;obtain⟨b,N,kv,U,s,j,O⟩:=F i hlt;cases T
 subst U;obtain⟨z,y,x,v,u,J⟩:=zra j;have k:=d i wr kv hlt A.o O;obtain⟨f,E⟩:=qxE (l.getD i default);rw [<-E] at z y x v u k;unfold vI at k;have C:=qh k;clear k F E j d;go_wp2_with fail
 refine C.o.mono ?_
 rintro e Z ⟨r,rfl,p,n⟩;cases r
 ·have B:=qh (n rfl);clear p n C z y x v u J;go_wp2
  go_roundg (l.length - (i+1))
  case measure=>rw [Y.o];omega
  case rel=>exact⟨i+1,by omega,rfl,by go_num,B.o⟩
 have B:=qh (p rfl);clear p n C z y x v u J;go_wp2
 go_ret;exact .inl ⟨i,hlt,rfl,B.o⟩
theorem zhe (R:Form->Value->Prop) (sv:Value) (l:List Form) (j:FuncId) (first b:Array Value) (I H:Nat->World->Prop)
  (h:∀f W,(callFunc j f).run Tryz.prog W= .ok (.enter j f) W) (c:∀i W,I i W->zeB R W sv l)
  (d:∀i W kv,i<l.length->I i W->R (l.getD i default) kv->Calls Tryz.prog j (first.push (vI (l.getD i default) kv)++b) W λe t=>∃r:Bool,e= .returned (.bool r)/\(r=true->H i t)/\(r=false->I (i+1) t))
  (w:World) (q:I 0 w):
  Calls Tryz.prog 102 #[sv, .func (.func j) first b] w λe n=>
   (∃i:Nat,i<l.length/\e= .returned (.bool true)/\H i n)\/(e= .returned (.bool false)/\I l.length n):=by
 have p:=zkz R sv l j first b I H h c d w q
 have m:=qh p;clear p c d q h;go_enter Tryz.func102,Tryz.ntmps102
 go_wp2_with fail
 refine m.o.mono ?_
 rintro e v (⟨i,u,rfl,g⟩|⟨rfl,g⟩)
 ·have k:=qh g;clear g m;go_wp2
  go_ret;exact .inl ⟨i,u,rfl,k.o⟩
 have k:=qh g;clear g m;go_wp2
 go_ret;exact .inr ⟨rfl,k.o⟩
def fmT (r v a b t o:Bool) (f:Nat):Value:= .agg #[.bool r, .bool v, .bool a, .bool b, .bool t, .bool o, .func (.func f) #[] #[]]
def fmL:List (Int × Value):= [(1,fmT true true false false false false 182),(2,fmT false true true false false false 183),(3,fmT true false true false false false 184),(4,fmT false false false false false false 185),(5,fmT false false false false false false 186),(6,fmT true true true true false false 187),(7,fmT false true false false false false 188),(8,fmT false true false false false false 189),(9,fmT false false true false false false 190),(10,fmT false false true false true true 191),(11,fmT false false true false true false 192)]
def zmS (l:List (Int × Value)) (w:World) (e:Ending) (w':World):Prop:=∃b,e= .returned (.map (some b))/\qN w' b l/\w.heap.size<=b/\Below w.heap.size w w'
theorem zrb (w:World):Calls Tryz.prog 151 #[] w (zmS fmL w):=by
 have g:= @run_makeMap Tryz.prog;have d:qN (w.alloc (.map #[] 0)) w.heap.size [] :=⟨#[],0,zQ w _,rfl⟩;have b:Below w.heap.size w (w.alloc (.map #[] 0)):=(Below.refl _ _).alloc (Nat.le_refl _) _;go_enter Tryz.func151,Tryz.ntmps151
 go_wp2_with(refine qJ _ rfl _ _ _ 218 rfl 3 217 .i64 Tryz.underlying218 Tryz.underlying3 w.heap.size _ rfl _ rfl _ rfl d ?_;clear d;intro h d c f;replace b:=b.trans (c.below b.size (λk i=>by omega));clear c f);go_ret;exact⟨w.heap.size,rfl,d,Nat.le_refl _,b⟩
theorem zh5 (w:World) (n m:Int) (h:Bool):Calls Tryz.prog 155 #[I4 n,I4 m, .bool h] w λe b=>e= .returned (.bool (if h then decide (0<=n) && decide (n<m) else decide (n=0)))/\b=w:=by
 cases h
 ·by_cases h0:n=0
  ·subst h0;go_enter Tryz.func155,Tryz.ntmps155
   go_wp2_with fail
   go_ret;exact⟨by first|rfl|simp,rfl⟩
  by_cases h1:0<=n
  ·by_cases h2:n<m
   ·go_enter Tryz.func155,Tryz.ntmps155
    go_wp2_with fail
    go_ret;exact⟨by simp [h0],rfl⟩
   go_enter Tryz.func155,Tryz.ntmps155
   go_wp2_with fail
   go_ret;exact⟨by simp [h0],rfl⟩
  go_enter Tryz.func155,Tryz.ntmps155
  go_wp2_with fail
  go_ret;exact⟨by simp [h0],rfl⟩
 by_cases h0:n=0
 ·subst h0;by_cases h2:0<m
  ·go_enter Tryz.func155,Tryz.ntmps155
   go_wp2_with fail
   go_ret;exact⟨by simp [h2],rfl⟩
  go_enter Tryz.func155,Tryz.ntmps155
  go_wp2_with fail
  go_ret;exact⟨by simp;omega,rfl⟩
 by_cases h1:0<=n
 ·by_cases h2:n<m
  ·go_enter Tryz.func155,Tryz.ntmps155
   go_wp2_with fail
   go_ret;exact⟨by simp [h1,h2],rfl⟩
  go_enter Tryz.func155,Tryz.ntmps155
  go_wp2_with fail
  go_ret;exact⟨by simp;omega,rfl⟩
 go_enter Tryz.func155,Tryz.ntmps155
 go_wp2_with fail
 go_ret;exact⟨by simp;omega,rfl⟩
theorem zug (w:World) (op:Int):Calls Tryz.prog 214 #[.int .u8 op] w λe c=>(∃s:ByteArray,e= .returned (.string s)/\s.toList.isEmpty= !jC op)/\Below w.heap.size w c:=by
 have d:=zng w op;have f:=qh ((Below.refl w.heap.size w).alloc (Nat.le_refl _) (.cells #[.int .u8 op] 5));by_cases hs:op=43\/op=45\/op=42\/op=60\/op=38\/op=124
 ·have b:jC op=true:=by unfold jC;exact decide_eq_true (by omega)
  rw [b];rcases hs with rfl|rfl|rfl|rfl|rfl|rfl<;>
  ·go_enter Tryz.func214,Tryz.ntmps214
   go_wp2_with fail
   go_ret;exact⟨⟨_,rfl,zbM _⟩,f.o⟩
 by_cases h7:op=61
 ·subst h7;clear hs;go_enter Tryz.func214,Tryz.ntmps214
  go_wp2_with fail
  go_ret;exact⟨⟨_,rfl,by decide+kernel⟩,Below.refl _ _⟩
 by_cases h8:op=33
 ·subst h8;clear hs;go_enter Tryz.func214,Tryz.ntmps214
  go_wp2_with fail
  go_ret;exact⟨⟨_,rfl,by decide+kernel⟩,Below.refl _ _⟩
 have b:jC op=false:=by unfold jC;exact decide_eq_false (by omega)
 rw [b];obtain⟨l,k,j,i,h,g⟩:op≠43/\op≠45/\op≠42/\op≠60/\op≠38/\op≠124:=by omega
 clear hs b;go_enter Tryz.func214,Tryz.ntmps214
 go_wp2_with fail
 go_ret;exact⟨⟨_,rfl,by decide+kernel⟩,Below.refl _ _⟩
theorem zuh (w:World) (x:zR) (ka:Option Addr) (kc:Nat):Calls Tryz.prog 154 #[qD x (.slice ka x.kids.length kc)] w λe p=>e= .returned (.bool (vK x))/\Below w.heap.size w p:=by
 obtain⟨k,n,o,l⟩:=x;obtain⟨m,j⟩:=qxE l.length;obtain⟨r,i⟩:=qxE (vK (.mk k n o l));rw [<-i];have f:r=(decide (k=0) && decide (n=0) && decide (o=0) && decide (m=0)):=by rw [i,j];rfl
 have b:=qh f;unfold qD;simp only [zR.kind,zR.n,zR.op,zR.kids];rw [<-j];clear i f j;have d:=qh ((Below.refl w.heap.size w).alloc (Nat.le_refl _) (.cells #[I4 k,I4 n, .int .u8 o, .slice ka m kc] 104));have c:=qh (zQ w (.cells #[I4 k,I4 n, .int .u8 o, .slice ka m kc] 104));go_enter Tryz.func154,Tryz.ntmps154
 go_upto_region 1 with fail
 generalize World.alloc w _=W at d c ⊢;obtain⟨h,g⟩:=qxE w.heap.size;rw [<-g] at c ⊢;clear g;have B:W.cell? ⟨h,0,none⟩=some (I4 k):=ze c.o 0;have A:W.cell? ⟨h,1,none⟩=some (I4 n):=ze c.o 1;have z:W.cell? ⟨h,2,none⟩=some (.int .u8 o):=ze c.o 2;have y:W.cell? ⟨h,3,none⟩=some (.slice ka m kc):=ze c.o 3;by_cases a1:k=0
 rotate_left
 ·have v:((k:Int)==0)=false:=by simp [a1]
  obtain rfl:r=false:=by rw [b.o];simp [a1]
  clear b a1;go_wp2_with fail
  go_ret;exact⟨by first|rfl|simp,d.o⟩
 have v:((k:Int)==0)=true:=by simp [a1]
 by_cases a2:n=0
 rotate_left
 ·have u:((n:Int)==0)=false:=by simp [a2]
  obtain rfl:r=false:=by rw [b.o];simp [a2]
  clear b a1 a2;go_wp2_with fail
  go_ret;exact⟨by first|rfl|simp,d.o⟩
 have u:((n:Int)==0)=true:=by simp [a2]
 by_cases a3:o=0
 ·have t:((o:Int)==0)=true:=by simp [a3]
  obtain rfl:r=decide (m=0):=by rw [b.o];simp [a1,a2,a3]
  clear b a1 a2 a3;by_cases a4:m=0
  ·have q:((m:Int)==0)=true:=by simp [a4]
   subst a4;go_wp2_with fail
   go_ret;exact⟨by first|rfl|simp,d.o⟩
  have q:((m:Int)==0)=false:=by simp [a4]
  go_wp2_with fail
  go_ret;exact⟨by first|rfl|simp [a4],d.o⟩
 have t:((o:Int)==0)=false:=by simp [a3]
 obtain rfl:r=false:=by rw [b.o];simp [a3]
 clear b a1 a2 a3;go_wp2_with fail
 go_ret;exact⟨by first|rfl|simp,d.o⟩
theorem zjn (w:World) (c b d:Obj):Below w.heap.size w (((w.alloc c).alloc b).alloc d)/\(((w.alloc c).alloc b).alloc d).heap[w.heap.size]? =some c/\(((w.alloc c).alloc b).alloc d).heap[w.heap.size+1]? =some b/\
  (((w.alloc c).alloc b).alloc d).heap[w.heap.size+2]? =some d/\(((w.alloc c).alloc b).alloc d).heap.size=w.heap.size+3:=by
 have f:=zQ ((w.alloc c).alloc b) d;simp only [World.size_alloc] at f;refine⟨(xK w c b).alloc (by simp;omega) _,(Below.heap_alloc _ _ _ (by simp;omega)).trans (xA w c b),(Below.heap_alloc _ _ _ (by simp)).trans (xq w c b),f,by simp⟩
