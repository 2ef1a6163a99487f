/- Steps. -/
import Derived.Test.YtnhahkiojbanfaaGreatDoorRqSame7
set_option linter.all false
namespace Go.Proofs.YtnhahkiojbanfaaGreatDoor
open Go.RowKit
set_option maxRecDepth 100000
set_option maxHeartbeats 16000000
theorem yY {w:World} {B C:Nat} {e e':TypeId} {size size':Nat} {v v':Value} {n n':Nat} {xs xs':List Value} (h:w.ownsRow B e size v n xs) (h':w.ownsRow C e' size' v' n' xs') (hne:e≠e'):∀k,v.ownBlock=some k->v'.ownBlock≠some k:=by
 intro k h1 h2
 rcases h'.2 with⟨rfl, -⟩|⟨g,cap,cur,rfl, -,hg, -⟩
 ·simp [Value.ownBlock] at h2
 simp only [Value.ownBlock,Option.some.injEq] at h2
 subst h2
 exact jV h h1 hg hne
structure yg {α:Type} [Inhabited α] (F:Nat->Prop) (X:World) (R:World->α->List Value->Prop) (size B:Nat) (e:TypeId) (v:Value) (l:List α) (css:List (List Value)):Prop where
 len:css.length=l.length
 part:∀j,j<l.length->(css.getD j []).length=size/\zO F X (λy=>R y (l.getD j default) (css.getD j []))
 row:X.ownsRow B e size v l.length css.flatten
section
variable {α:Type} [Inhabited α] {F F' G:Nat->Prop} {X X':World} {R:World->α->List Value->Prop} {size B:Nat} {e:TypeId} {v v':Value} {l:List α} {css:List (List Value)}
theorem yg.nil (F:Nat->Prop) (X:World) (R:World->α->List Value->Prop) (size B:Nat) (e:TypeId):yg F X R size B e (.slice none 0 0) [] [] :=⟨rfl,λj hj=>by simp at hj,World.ownsRow_nil _ _ _ _⟩
theorem yg.step (h:yg F X R size B e v l css) (hs:Since G X X') (hv:∀k,v.ownBlock=some k->¬G k) (hG:∀k,G k->F k\/X.heap.size<=k) (hF:∀k,F' k->F k\/X.heap.size<=k):yg F' X' R size B e v l css:=
 ⟨h.len,λj hj=>⟨(h.part j hj).1,(h.part j hj).2.step hs hG hF⟩,hs.row h.row hv⟩
theorem kR {β:Type} {l:List β} {x d:β} {j:Nat} (hj:j<l.length):(l++ [x]).getD j d=l.getD j d:=by
 simp only [List.getD_eq_getElem?_getD,List.getElem?_append_left hj]
theorem kQ {β:Type} {l:List β} {x d:β} :(l++ [x]).getD l.length d=x:=by
 simp [List.getD_eq_getElem?_getD]
theorem yg.push (h:yg F X R size B e v l css) (hs:Since G X X') (hG:∀k,G k->F k\/X.heap.size<=k) (hF:∀k,F' k->F k\/X.heap.size<=k) {x:α} {cs:List Value} (hx:zO F X (λy=>R y x cs)) (hc:cs.length=size)
  (h1:X'.ownsRow B e size v' (l.length+1) (css.flatten++cs)):yg F' X' R size B e v' (l++ [x]) (css++ [cs]):=by
 refine⟨by simp [h.len],λj hj=> ?_, ?_⟩
 ·rw [List.length_append] at hj
  simp only [List.length_cons,List.length_nil] at hj
  by_cases e:j=l.length
  ·subst e
   rw [kQ,show l.length=css.length from h.len.symm,kQ]
   exact⟨hc,hx.step hs hG hF⟩
  have hj':j<l.length:=by omega
  rw [kR hj',kR (by rw [h.len];exact hj')]
  exact⟨(h.part j hj').1,(h.part j hj').2.step hs hG hF⟩
 rw [List.length_append,List.flatten_append]
 simpa using h1
theorem pQ {css:List (List Value)} {size:Nat} :∀ {j i:Nat},(∀j,j<css.length->(css.getD j []).length=size)->j<css.length->i<size->css.flatten[j*size+i]? =(css.getD j [])[i]? :=by
 induction css with
 |nil=>intro j i _ hj;simp at hj
 |cons c css ih=>
 intro j i h hj hi
 have h0:=h 0 (by simp)
 simp only [List.getD_cons_zero] at h0
 cases j with
 |zero=>rw [List.flatten_cons,Nat.zero_mul,Nat.zero_add,List.getElem?_append_left (by rw [h0];exact hi)];rfl
 |succ j=>
 rw [List.flatten_cons,List.getElem?_append_right (by rw [h0,Nat.add_mul];omega),h0,show(j+1)*size+i - size=j*size+i by rw [Nat.add_mul];omega]
 exact ih (λj hj=>by have:=h (j+1) (by simpa using hj);simpa using this) (by simpa using hj) hi
theorem yg.slice (h:yg F X R size B e v l css):zh R size X v l:=
 zh.zaX h.row λj hj=>⟨css.getD j [],(h.part j hj).1,λi hi=>pQ (λj hj=>(h.part j (by rw [<-h.len];exact hj)).1) (by rw [h.len];exact hj) hi,(h.part j hj).2.now⟩
end
def uG (w:World) (l:List zo) (cs:List Value):Prop:=∃v,cs= [v] /\gU w v l
theorem uG.stays:vX uG:=λ_ _ _ _ ⟨v,h,h2⟩ hb=>⟨v,h,zh.below zdk.stays h2 hb⟩
def pR (w:World) (l:List Int) (cs:List Value):Prop:=∃v,cs= [v] /\qI w v l
theorem pR.stays:vX pR:=λ_ _ _ _ ⟨v,h,h2⟩ hb=>⟨v,h,zh.below zbz.stays h2 hb⟩
theorem zaq {w:World} {B:Nat} {sv:Value} {l:List zo} (h:w.ownsRow B 70 3 sv l.length (zq zo.cells l)):gU w sv l:=zh.of_flat (R:=zdk) (f:=zo.cells) wh (λ_ _=>rfl) h
structure yj where
 states:List zi
 moves:List (List zo)
 next:List (List Int)
instance:Inhabited yj:=⟨⟨[], [], []⟩⟩
def xX (c:zx) (m:zu) (d:Nat) (room:Int) (s:zi):List zo->List zi->List Int->Option (List zi × List Int)
 | [],l,nx=>some (l,nx)
 |x::ms,l,nx=>if room<=((putAt l (qD c m s x d).1).2:Int) then none else xX c m d room s ms (putAt l (qD c m s x d).1).1 (nx++ [((putAt l (qD c m s x d).1).2:Int)])
def qz (c:zx) (m:zu) (d:Nat) (room:Int):Nat->Nat->List zi->List (List zo)->List (List Int)->Option yj
 |0,_,_,_,_=>none
 |f+1,i,l,ml,nl=>
 if i<l.length then
  match xX c m d room (l.getD i default) (yF c m (l.getD i default) d) l [] with
  |none=>none
  |some r=>qz c m d room f (i+1) r.1 (ml++ [yF c m (l.getD i default) d]) (nl++ [r.2])
 else some ⟨l,ml,nl⟩
def zV (c:zx) (m:zu) (room:Int) (d:Nat):yj × Int:=
 if xC c m=false\/room<1\/100000<room then(⟨[], [], []⟩,1)
 else match qz c m d room (room.toNat+1) 0 [xq c] [] [] with
  |some s=>(s,0)
  |none=>(⟨[], [], []⟩,40)
def XF (g r:Nat) (sv mv nv xv:Value) (k:Nat):Prop:=(k=g\/k<=r)\/sv.ownBlock=some k\/mv.ownBlock=some k\/nv.ownBlock=some k\/xv.ownBlock=some k
structure XAt (W X:World) (g r:Nat) (sv mv nv xv:Value) (sl:List zi) (ml:List (List zo)) (nl:List (List Int)) (xl:List Int) (sc mc nc:List (List Value)):Prop where
 below:Below W.heap.size W X
 lo:W.heap.size<=g
 rlo:r<W.heap.size
 box:X.heap[g]? =some (.cells #[sv,mv,nv] 49 (0,0))
 st:yg (XF g r sv mv nv xv) X qO 3 W.heap.size 42 sv sl sc
 mo:yg (XF g r sv mv nv xv) X uG 1 W.heap.size 32 mv ml mc
 ne:yg (XF g r sv mv nv xv) X pR 1 W.heap.size 31 nv nl nc
 xr:X.ownsRow W.heap.size 3 1 xv xl.length (zq yU xl)
section
variable {W X X1:World} {g r:Nat} {sv mv nv xv sv':Value} {sl:List zi} {ml:List (List zo)} {nl:List (List Int)} {xl:List Int} {sc mc nc:List (List Value)}
theorem yX {B e size n g:Nat} {v:Value} {xs:List Value} {c:Array Value} {t:TypeId} {f:Nat × Nat} (h:X.ownsRow B e size v n xs) (hb:X.heap[g]? =some (.cells c t f)) (hne:e≠t):∀k,v.ownBlock=some k->k≠g:=λk h1 e=>by
 subst e;exact jV h h1 hb hne
end
end Go.Proofs.YtnhahkiojbanfaaGreatDoor
namespace Go.Proofs.YtnhahkiojbanfaaGreatDoor
open Go.RowKit
set_option maxRecDepth 100000
set_option maxHeartbeats 16000000
def znd (b:Nat) (s:zi):Prop:=∀j,j<s.threads.length->(s.threads.getD j default).buf.length<=b
theorem zfV {α:Type} {p:α->Bool} {l:List α} {b:Nat} [Inhabited α] (h:∀k,k<l.length->p (l.getD k default)=true->(l.take k).countP p<b):l.countP p<=b:=by
 have key:∀k,k<=l.length->(l.take k).countP p<=b:=by
  intro k
  induction k with
  |zero=>intro _;simp
  |succ k ih=>
  intro hk
  rw [List.take_succ_eq_append_getElem (by omega),List.countP_append]
  have h1:=ih (by omega)
  have h2:=h k (by omega)
  rw [List.getD_eq_getElem?_getD,List.getElem?_eq_getElem (by omega)] at h2
  simp only [Option.getD_some] at h2
  by_cases e:p l[k] =true
  ·have:=h2 e
   simp only [List.countP_cons,List.countP_nil,e,if_true];omega
  simp only [List.countP_cons,List.countP_nil,e];simp;omega
 have:=key l.length (Nat.le_refl _)
 rwa [List.take_length] at this
theorem zjs {l:List zl} (h:∀x∈l,0<=x.var/\x.var<4):l.length=l.countP (λx=>decide (x.var=0))+l.countP (λx=>decide (x.var=1))+l.countP (λx=>decide (x.var=2))+l.countP (λx=>decide (x.var=3)):=by
 induction l with
 |nil=>rfl
 |cons x l ih=>
 have h1:=ih (λy hy=>h y (List.mem_cons_of_mem _ hy))
 have h2:=h x (List.mem_cons_self ..)
 simp only [List.length_cons,List.countP_cons,h1]
 have:x.var=0\/x.var=1\/x.var=2\/x.var=3:=by omega
 rcases this with e|e|e|e<;>simp [e] <;>omega
theorem zpr {c:zx} {m:zu} {l:List zl} (hv:c.vars<=4) (hm:m.bound<=8) (h:∀k,k<l.length->vJ c m l k=true):l.length<=32:=by
 have hf:∀k,k<l.length->qQ (l.take k) m (l.getD k default)=true/\0<=(l.getD k default).var/\(l.getD k default).var<4:=λk hk=>by
  have:=h k hk
  unfold vJ at this
  simp only [Bool.and_eq_true,decide_eq_true_eq] at this
  exact⟨this.1.1.1.1,this.1.1.1.2,by have:=this.1.1.2;omega⟩
 have hx:∀x∈l,0<=x.var/\x.var<4:=λx hx=>by
  obtain⟨k,hk,e⟩:=List.getElem_of_mem hx
  have:=hf k hk
  rw [List.getD_eq_getElem?_getD,List.getElem?_eq_getElem hk] at this
  rw [<-e];exact this.2
 have key:∀v:Int,l.countP (λx=>decide (x.var=v))<=8:=λv=>zfV λk hk hp=>by
  have h1:=(hf k hk).1
  have hp:(l.getD k default).var=v:=by simpa using hp
  unfold qQ at h1
  simp only [Bool.and_eq_true,Bool.or_eq_true,decide_eq_true_eq] at h1
  obtain⟨-,h2⟩:=h1
  have h3:(l.take k).countP (λx=>decide (x.var=v))<=zb7 (l.take k) m (l.getD k default).var:=by
   unfold zb7
   refine List.countP_mono_left (λx _ hx=> ?_)
   rw [hp]
   simp only [Bool.or_eq_true];exact .inr hx
  omega
 rw [zjs hx]
 have:=key 0;have:=key 1;have:=key 2;have:=key 3
 omega
theorem zc7 {c:zx} {m:zu} {s:zi} (h:zP c m s=true):znd 32 s:=by
 intro j hj
 have h0:=h
 unfold zP at h
 simp only [Bool.and_eq_true,decide_eq_true_eq] at h
 obtain⟨⟨⟨⟨h1, -⟩, -⟩, -⟩,h5⟩:=h
 unfold xC at h1
 simp only [Bool.and_eq_true,decide_eq_true_eq] at h1
 have hb:=yQ h1.1.1.1.1
 rw [List.all_eq_true] at h5
 have h6:=h5 j (List.mem_range.2 hj)
 unfold uR at h6
 simp only [Bool.and_eq_true,decide_eq_true_eq] at h6
 have h7:=h6.2
 rw [List.all_eq_true] at h7
 exact zpr hb.2.1 h1.2 (λk hk=>h7 k (List.mem_range.2 hk))
theorem zlm (c:zx):znd 33 (xq c):=by
 unfold xq
 split
 ·intro j hj
  simp only [List.length_replicate] at hj ⊢
  rw [List.getD_eq_getElem?_getD,List.getElem?_replicate,if_pos hj];simp [show(default:zA).buf= [] from rfl]
 intro j hj;simp at hj
theorem zlf {c:zx} {m:zu} {s:zi} {d:Nat} :(yF c m s d).length<=132:=by
 unfold yF
 split
 ·rename_i hf
  have hb:=zc7 hf
  obtain⟨h1, -,h2, -, -⟩:=zb0 hf
  have h4:=(yQ h1).2.2.2.2.2
  have key:∀k,k<=s.threads.length->((List.range k).flatMap (wU c m s d)).length<=33*k:=by
   intro k
   induction k with
   |zero=>intro _;simp
   |succ k ih=>
   intro hk
   rw [zbL,List.length_append]
   have:=ih (by omega)
   have h5:(wU c m s d k).length<=33:=by
    unfold wU
    have h6:=zfh (s.threads.getD k default).buf m.model
    have h7:=hb k (by omega)
    rw [List.length_append,List.length_map]
    split<;>simp only [List.length_cons,List.length_nil] <;>omega
   omega
  have:=key _ (Nat.le_refl _)
  omega
 simp
def u8 (n:Int):Int:=n % 256
theorem zaD {n:Int} (h0:0<=n) (h1:n<256):u8 n=n:=Int.emod_eq_of_lt h0 h1
theorem zho (n:Int):0<=u8 n/\u8 n<256:=⟨Int.emod_nonneg n (by decide),Int.emod_lt_of_pos n (by decide)⟩
def jI (e:zl):List Int:= [u8 e.var,u8 e.n]
def qj (t:zA):List Int:= [u8 (t.pc / 256),u8 t.pc] ++t.regs.map u8++ [u8 t.buf.length] ++t.buf.flatMap jI
def wu (s:zi):List Int:=(if s.bad then 1 else 0)::(s.mem.map u8++s.threads.flatMap qj)
def keyOf (s:zi):ByteArray:=strOfNums (wu s)
structure zcF (t:zA):Prop where
 pc:0<=t.pc/\t.pc<65536
 regs:t.regs.length=4
 reg:∀x∈t.regs,0<=x/\x<256
 len:t.buf.length<256
 buf:∀e∈t.buf,(0<=e.var/\e.var<256)/\0<=e.n/\e.n<256
structure gY (s:zi):Prop where
 mem:∀x∈s.mem,0<=x/\x<256
 thr:∀t∈s.threads,zcF t
theorem bytes_inj {l r:List Int} (hl:∀x∈l,0<=x/\x<256) (hr:∀x∈r,0<=x/\x<256) (h:strOfNums l=strOfNums r):l=r:=by
 have h1:l.map (λn=>UInt8.ofNat n.toNat)=r.map (λn=>UInt8.ofNat n.toNat):=by
  have:=congrArg (λb:ByteArray=>b.data.toList) h
  simpa [strOfNums] using this
 clear h
 induction l generalizing r with
 |nil=>cases r with
  |nil=>rfl
  |cons=>simp at h1
 |cons x l ih=>cases r with
  |nil=>simp at h1
  |cons y r=>
  simp only [List.map_cons,List.cons.injEq] at h1
  have hx:=hl x (List.mem_cons_self ..)
  have hy:=hr y (List.mem_cons_self ..)
  have e:x.toNat=y.toNat:=by
   have:=congrArg UInt8.toNat h1.1
   simp only [UInt8.toNat_ofNat'] at this
   omega
  rw [show x=y by omega,ih (λz hz=>hl z (List.mem_cons_of_mem _ hz)) (λz hz=>hr z (List.mem_cons_of_mem _ hz)) h1.2]
theorem zfi:∀ {l r a b:List Int},l.length=r.length->(∀x∈l,0<=x/\x<256)->(∀x∈r,0<=x/\x<256)->l.map u8++a=r.map u8++b->l=r/\a=b:=by
 intro l
 induction l with
 |nil=>intro r a b hl _ _ h;cases r with
  |nil=>exact⟨rfl,h⟩
  |cons=>simp at hl
 |cons x l ih=>intro r a b hl h1 h2 h;cases r with
  |nil=>simp at hl
  |cons y r=>
  simp only [List.map_cons,List.cons_append,List.cons.injEq] at h
  have hx:=h1 x (List.mem_cons_self ..)
  have hy:=h2 y (List.mem_cons_self ..)
  rw [zaD hx.1 hx.2,zaD hy.1 hy.2] at h
  obtain⟨e1,e2⟩:=ih (by simpa using hl) (λz hz=>h1 z (List.mem_cons_of_mem _ hz)) (λz hz=>h2 z (List.mem_cons_of_mem _ hz)) h.2
  exact⟨by rw [h.1,e1],e2⟩
theorem zps:∀ {l r:List zl} {a b:List Int},l.length=r.length->(∀e∈l,(0<=e.var/\e.var<256)/\0<=e.n/\e.n<256)->(∀e∈r,(0<=e.var/\e.var<256)/\0<=e.n/\e.n<256)->l.flatMap jI++a=r.flatMap jI++b->l=r/\a=b:=by
 intro l
 induction l with
 |nil=>intro r a b hl _ _ h;cases r with
  |nil=>exact⟨rfl,h⟩
  |cons=>simp at hl
 |cons x l ih=>intro r a b hl h1 h2 h;cases r with
  |nil=>simp at hl
  |cons y r=>
  simp only [List.flatMap_cons,jI,List.cons_append,List.nil_append,List.cons.injEq] at h
  have hx:=h1 x (List.mem_cons_self ..)
  have hy:=h2 y (List.mem_cons_self ..)
  rw [zaD hx.1.1 hx.1.2,zaD hy.1.1 hy.1.2,zaD hx.2.1 hx.2.2,zaD hy.2.1 hy.2.2] at h
  obtain⟨e1,e2⟩:=ih (by simpa using hl) (λz hz=>h1 z (List.mem_cons_of_mem _ hz)) (λz hz=>h2 z (List.mem_cons_of_mem _ hz)) h.2.2
  obtain⟨xv,xn⟩:=x
  obtain⟨yv,yn⟩:=y
  simp only [] at h
  exact⟨by rw [h.1,h.2.1,e1],e2⟩
theorem zjt {t u:zA} {a b:List Int} (ht:zcF t) (hu:zcF u) (h:qj t++a=qj u++b):t=u/\a=b:=by
 obtain⟨tp,tr,tb⟩:=t
 obtain⟨up,ur,ub⟩:=u
 obtain⟨p1,l1,r1,n1,b1⟩:=ht
 obtain⟨p2,l2,r2,n2,b2⟩:=hu
 simp only [qj,List.append_assoc,List.cons_append,List.nil_append,List.cons.injEq] at h p1 l1 r1 n1 b1 p2 l2 r2 n2 b2
 obtain⟨h1,h2,h3⟩:=h
 have hp:tp=up:=by unfold u8 at h1 h2;omega
 obtain⟨e1,e2⟩:=zfi (by omega) r1 r2 h3
 simp only [List.cons.injEq] at e2
 have hn:tb.length=ub.length:=by
  have:=e2.1
  rw [zaD (by omega) (by omega),zaD (by omega) (by omega)] at this
  omega
 obtain⟨e3,e4⟩:=zps hn b1 b2 e2.2
 exact⟨by rw [hp,e1,e3],e4⟩
theorem zic:∀ {l r:List zA},l.length=r.length->(∀t∈l,zcF t)->(∀t∈r,zcF t)->l.flatMap qj=r.flatMap qj->l=r:=by
 intro l
 induction l with
 |nil=>intro r hl _ _ _;cases r with
  |nil=>rfl
  |cons=>simp at hl
 |cons x l ih=>intro r hl h1 h2 h;cases r with
  |nil=>simp at hl
  |cons y r=>
  simp only [List.flatMap_cons] at h
  obtain⟨e1,e2⟩:=zjt (h1 x (List.mem_cons_self ..)) (h2 y (List.mem_cons_self ..)) h
  rw [e1,ih (by simpa using hl) (λz hz=>h1 z (List.mem_cons_of_mem _ hz)) (λz hz=>h2 z (List.mem_cons_of_mem _ hz)) e2]
theorem zkk (s:zi):∀x∈wu s,0<=x/\x<256:=by
 have hm:∀(l:List Int),∀x∈l.map u8,0<=x/\x<256:=λl x hx=>by
  obtain⟨y, -,rfl⟩:=List.mem_map.1 hx;exact zho y
 intro x hx
 rcases List.mem_cons.1 hx with rfl|hx
 ·split<;>omega
 rcases List.mem_append.1 hx with hx|hx
 ·exact hm _ x hx
 obtain⟨t, -,hx⟩:=List.mem_flatMap.1 hx
 unfold qj at hx
 simp only [List.mem_append,List.mem_cons,List.not_mem_nil,or_false] at hx
 rcases hx with((hx|hx)|hx)|hx
 ·rcases hx with rfl|rfl<;>exact zho _
 ·exact hm _ x hx
 ·rw [hx];exact zho _
 obtain⟨e, -,hx⟩:=List.mem_flatMap.1 hx
 unfold jI at hx
 simp only [List.mem_cons,List.not_mem_nil,or_false] at hx
 rcases hx with rfl|rfl<;>exact zho _
theorem key_inj {s t:zi} (hs:gY s) (ht:gY t) (hm:s.mem.length=t.mem.length) (hn:s.threads.length=t.threads.length) (h:keyOf s=keyOf t):s=t:=by
 have h1:=bytes_inj (zkk s) (zkk t) h
 obtain⟨s1,s2,s3⟩:=s
 obtain⟨t1,t2,t3⟩:=t
 simp only [wu,List.cons.injEq] at h1
 obtain⟨e1,e2⟩:=zfi hm hs.mem ht.mem h1.2
 have e3:=zic hn hs.thr ht.thr e2
 have e4:s3=t3:=by
  have:=h1.1
  cases s3<;>cases t3<;>simp at this ⊢
 simp only [] at e1 e3
 rw [e1,e3,e4]
def qE (s:zi):Prop:=∀j,j<s.threads.length->(s.threads.getD j default).regs.length=4
theorem yG.qE {w:World} {s:zi} {tv mv:Value} (h:yG w s tv mv):qE s:=λj hj=>by
 obtain⟨a,cap,he, -,h4⟩:=h.threads
 obtain⟨b,off,cs, -, -, -, -,h5, -⟩:=h4 j hj
 exact h5
theorem zas {α:Type} [Inhabited α] {l:List α} {x:α} (h:x∈l):∃j,j<l.length/\l.getD j default=x:=by
 obtain⟨j,hj,e⟩:=List.getElem_of_mem h
 exact⟨j,hj,by rw [List.getD_eq_getElem?_getD,List.getElem?_eq_getElem hj];exact e⟩
theorem zsl {c:zx} (h:codeOk c=true) (i:Nat) (hi:i<c.threads.length):(c.threads.getD i []).length<=600:=by
 unfold codeOk at h
 simp only [Bool.and_eq_true] at h
 have h2:=List.all_eq_true.1 h.2 _ (show c.threads.getD i [] ∈c.threads by
  rw [List.getD_eq_getElem?_getD,List.getElem?_eq_getElem hi];exact List.getElem_mem _)
 unfold rowOk at h2
 simp only [Bool.and_eq_true,decide_eq_true_eq] at h2
 exact h2.1
theorem uH {c:zx} {m:zu} {s:zi} (hf:zP c m s=true) (hr:qE s):gY s:=by
 have hb:=zc7 hf
 have h0:=hf
 unfold zP at h0
 simp only [Bool.and_eq_true,decide_eq_true_eq] at h0
 obtain⟨⟨⟨⟨h1,h2⟩,h3⟩,h4⟩,h5⟩:=h0
 unfold xC at h1
 simp only [Bool.and_eq_true,decide_eq_true_eq] at h1
 have hc:=h1.1.1.1.1
 have hcb:=yQ hc
 refine⟨λx hx=> ?_,λt ht=> ?_⟩
 ·obtain⟨j,hj,rfl⟩:=zas hx
  have:=List.all_eq_true.1 h4 j (List.mem_range.2 hj)
  unfold qy at this
  simp only [Bool.and_eq_true,decide_eq_true_eq] at this
  have e:s.mem.getD j default=s.mem.getD j 0:=rfl
  rw [e];omega
 obtain⟨j,hj,rfl⟩:=zas ht
 have h6:=List.all_eq_true.1 h5 j (List.mem_range.2 hj)
 unfold uR at h6
 simp only [Bool.and_eq_true,decide_eq_true_eq] at h6
 obtain⟨⟨⟨p1,p2⟩,p3⟩,p4⟩:=h6
 have hl:=zsl hc j (by omega)
 have hbj:=hb j hj
 refine⟨⟨p1,by omega⟩,hr j hj,λx hx=> ?_,by omega,λe he=> ?_⟩
 ·obtain⟨k,hk,rfl⟩:=zas hx
  have:=List.all_eq_true.1 p3 k (List.mem_range.2 (by have:=hr j hj;omega))
  unfold qy at this
  simp only [Bool.and_eq_true,decide_eq_true_eq] at this
  have e:(s.threads.getD j default).regs.getD k default=(s.threads.getD j default).regs.getD k 0:=rfl
  rw [e];omega
 obtain⟨k,hk,rfl⟩:=zas he
 have:=List.all_eq_true.1 p4 k (List.mem_range.2 hk)
 unfold vJ at this
 simp only [Bool.and_eq_true,decide_eq_true_eq] at this
 omega
theorem uI {c:zx} {m:zu} {s:zi} (hf:zP c m s=true):s.threads.length=c.threads.length/\(s.mem.length:Int)=c.vars:=by
 unfold zP at hf
 simp only [Bool.and_eq_true,decide_eq_true_eq] at hf
 exact⟨hf.1.1.1.2,hf.1.1.2⟩
theorem zpt {c:zx} {m:zu} {s t:zi} (hs:zP c m s=true) (ht:zP c m t=true) (rs:qE s) (rt:qE t) (h:keyOf s=keyOf t):s=t:=by
 have h1:=uI hs
 have h2:=uI ht
 exact key_inj (uH hs rs) (uH ht rt) (by omega) (by omega) h
theorem qB {P:Program} (w:World) {ops:Array Oper} {rest:List Oper} {o:Oper} {a:Act} {Q:Exit->Act->World->Prop} (hgd:o.guard=none) (s x:Operand) (t:TypeId)
  (ho:o.op= .call { callee:= .builtin .append,args:= #[s,x],argTypes:= #[t,t] })
  (e:TypeId) (z:Value) (size bytes:Nat) (ht:P.underlying t=some (.slice e)) (hinfo:(P.info? e).map (λi=>(i.zero,i.size,i.bytes))=some (some z,size,bytes)) (hzs:z.cells.size=size) (hsz:0<size)
  (base:Nat) (v:Value) (n:Nat) (xs:List Value) (hs:a.eval s=v) (hown:w.ownsRow base e size v n xs)
  (ad:Option Addr) (m c:Nat) (news:List Value) (hx:a.eval x= .slice ad m c) (hl:news.length=m*size) (hnews:∀A,ad=some A->∀j u,news[j]? =some u->w.cell? (A.add j)=some u) (hnone:ad=none->m=0) (h1:∀u∈news,u.oneCell'=true)
  (h63:n+m<=maxLen) (hbytes:(n+m)*bytes<=140737488355328) (hbase:base<=w.heap.size)
  (h:∀a' cap' w',w'.ownsRow base e size (.slice a' (n+m) cap') (n+m) (xs++news)->cap'<=9223372036854775807->n+m<=cap'->Since (λk=>v.ownBlock=some k) w w'->
   (∀k,(Value.slice a' (n+m) cap').ownBlock=some k->v.ownBlock=some k\/k=w.heap.size)->
   wpList P ops Q rest (a.put o.dst (.slice a' (n+m) cap')) w'):wpList P ops Q (o::rest) a w:=by
 cases ad with
 |some A=>exact zX w hgd s x t ho e z size bytes ht hinfo hzs hsz base v n xs hs hown A m c news hx hl (hnews A rfl) h1 h63 hbytes hbase (λa' cap' w' p1 p2 p3 p4 p5 _=>h a' cap' w' p1 p2 p3 p4 p5)
 |none=>
 have hm:=hnone rfl
 subst hm
 have hn:news= [] :=List.eq_nil_of_length_eq_zero (by simpa using hl)
 subst hn
 obtain⟨i,hi,hz,hsize,hby⟩:=info_parts hinfo
 obtain⟨va,cap,rfl,hc1,hc2⟩:=xB hown
 have hr:(Builtin.append_ #[t,t] o.type #[.slice va n cap, .slice none 0 c]).run P w= .ok (.slice va n cap) w:=by
  cases va<;>simp [Builtin.append_,run_underlying ht,sizeOf,typeInfo,hi,Builtin.lenOf,Builtin.firstCells,hc1,storeCells]
 refine wpList_plain hgd λ_ hK=> ?_
 unfold Oper.wp execOp
 simp only [ho,resolve,invoke,builtin,Sem.run_bind,Sem.run_pure,Result.andThen_ok,List.map_toArray,List.map_cons,List.map_nil,hs,hx,hr]
 exact hK _ _ (h va cap w (by rw [List.append_nil];exact hown) (by unfold maxLen at hc2;omega) hc1 (Since.refl _ _) (λk hk=> .inl hk))
theorem kS {X:World} {B g size n:Nat} {e:TypeId} {cs:List Value} (h:X.heap[g]? =some (.cells cs.toArray e (0,0))) (hB:B<=g) (hl:cs.length=n*size) (hn:n<=maxLen):X.ownsRow B e size (.slice (some ⟨g,0,none⟩) n n) n cs:=
 ⟨hl, .inr ⟨g,n,cs.toArray,rfl,hB,h,Nat.le_refl _,hn,by simp [hl],by rw [List.take_of_length_le (by simp [hl])]⟩⟩
def ztC (_:World) (r:List Int) (cs:List Value):Prop:=r.length=4/\cs= [.int .i64 (r.getD 0 0), .int .i64 (r.getD 1 0), .int .i64 (r.getD 2 0), .int .i64 (r.getD 3 0)]
abbrev ztD:=zh ztC 4
structure zsm (w:World) (f:zid) (mv rv:Value):Prop where
 mem:qI w mv f.mem
 regs:ztD w rv f.regs
def ztE (w:World) (f:zid) (cs:List Value):Prop:=∃mv rv,cs= [mv,rv] /\zsm w f mv rv
abbrev zx8:=zh ztE 2
theorem zh0 (w:World) (o1 o2 o3 o4 o5:Obj):Below w.heap.size w (((((w.alloc o1).alloc o2).alloc o3).alloc o4).alloc o5)/\(((((w.alloc o1).alloc o2).alloc o3).alloc o4).alloc o5).heap[w.heap.size]? =some o1/\(((((w.alloc o1).alloc o2).alloc o3).alloc o4).alloc o5).heap[w.heap.size+1]? =some o2/\
  (((((w.alloc o1).alloc o2).alloc o3).alloc o4).alloc o5).heap[w.heap.size+2]? =some o3/\(((((w.alloc o1).alloc o2).alloc o3).alloc o4).alloc o5).heap[w.heap.size+3]? =some o4/\(((((w.alloc o1).alloc o2).alloc o3).alloc o4).alloc o5).heap[w.heap.size+4]? =some o5:=by
 obtain⟨h0,h1,h2,h3,h4, -⟩:=zcG w o1 o2 o3 o4
 refine⟨h0.alloc (by simp;omega) o5,(Below.heap_alloc _ _ _ (by simp;omega)).trans h1,(Below.heap_alloc _ _ _ (by simp;try omega)).trans h2,(Below.heap_alloc _ _ _ (by simp;try omega)).trans h3,(Below.heap_alloc _ _ _ (by simp;try omega)).trans h4, ?_⟩
 have:=zS ((((w.alloc o1).alloc o2).alloc o3).alloc o4) o5
 simpa using this
def zvM (o:Option zi):zi × Int:=match o with|some t=>(t,0)|none=>(zcC,50)
end Go.Proofs.YtnhahkiojbanfaaGreatDoor
namespace Go.Proofs.YtnhahkiojbanfaaGreatDoor
open Go.RowKit
set_option maxRecDepth 100000
set_option maxHeartbeats 16000000
theorem pO:(Tryz.prog.info? 49).map (·.size)=some 3:=by kernel_rfl
theorem zaQ:(Tryz.prog.info? 32).map (λi=>(i.zero,i.size,i.bytes))=some (some (.slice none 0 0),1,24):=by kernel_rfl
theorem zbI:(Tryz.prog.info? 31).map (λi=>(i.zero,i.size,i.bytes))=some (some (.slice none 0 0),1,24):=by kernel_rfl
def kC (w:World) (s:yj) (sv mv nv:Value):Prop:=gJ w sv s.states/\zh uG 1 w mv s.moves/\zh pR 1 w nv s.next
theorem kC.below {w w':World} {s:yj} {sv mv nv:Value} (h:kC w s sv mv nv) (hb:Below w.heap.size w w'):kC w' s sv mv nv:=⟨zh.below qO.stays h.1 hb,zh.below uG.stays h.2.1 hb,zh.below pR.stays h.2.2 hb⟩
theorem zO.mono {F G:Nat->Prop} {X:World} {P:World->Prop} (h:zO F X P) (hF:∀k,G k->F k):zO G X P:=h.step (Since.refl (λ_=>False) X) (λ_ h=>h.elim) (λk hk=> .inl (hF k hk))
def zc5 (w:World) (r:yj × Int) (e:Ending) (w':World):Prop:=(∃sv mv nv,e= .returned (.tuple #[.agg #[sv,mv,nv], .int .i64 r.2])/\kC w' r.1 sv mv nv/\zO (λk=>k<w.heap.size) w' (λy=>kC y r.1 sv mv nv)/\∀a n c,sv= .slice a n c->n<=c)/\Below w.heap.size w w'
theorem zhG {w w':World} {r:yj × Int} {k:Int} (h:r=(⟨[], [], []⟩,k)) (hb:Below w.heap.size w w'):zc5 w r (.returned (.tuple #[.agg #[.slice none 0 0, .slice none 0 0, .slice none 0 0], .int .i64 k])) w':=by
 subst h;exact⟨⟨_,_,_,rfl,⟨zh.nil _,zh.nil _,zh.nil _⟩,λ_ _=>⟨zh.nil _,zh.nil _,zh.nil _⟩,λa n c e=>by cases e;exact Nat.le_refl _⟩,hb⟩
def zla (o:Option yj):yj × Int:=match o with|some s=>(s,0)|none=>(⟨[], [], []⟩,40)
theorem zlg {c:zx} {m:zu} {d:Nat} {room:Int} {s:zi} {ms:List zo} {k:Nat} (hk:k<ms.length) (l:List zi) (nx:List Int):xX c m d room s (ms.drop k) l nx=
  if room<=((putAt l (qD c m s (ms.getD k default) d).1).2:Int) then none else xX c m d room s (ms.drop (k+1)) (putAt l (qD c m s (ms.getD k default) d).1).1 (nx++ [((putAt l (qD c m s (ms.getD k default) d).1).2:Int)]):=by
 have h:ms.drop k=ms.getD k default::ms.drop (k+1):=by
  rw [List.getD_eq_getElem?_getD,List.getElem?_eq_getElem hk];exact(List.drop_eq_getElem_cons hk)
 rw [h];rfl
theorem zfc {c:zx} {m:zu} {d:Nat} {room:Int} {f i:Nat} {l:List zi} {ml:List (List zo)} {nl:List (List Int)} (hi:i<l.length):qz c m d room (f+1) i l ml nl=
  match xX c m d room (l.getD i default) (yF c m (l.getD i default) d) l [] with
  |none=>none
  |some r=>qz c m d room f (i+1) r.1 (ml++ [yF c m (l.getD i default) d]) (nl++ [r.2]):=by
 show(if i<l.length then _ else _)=_
 rw [if_pos hi]<;>rfl
theorem zmJ {c:zx} {m:zu} {d:Nat} {room:Int} {f i:Nat} {l:List zi} {ml:List (List zo)} {nl:List (List Int)} (hi:¬i<l.length):qz c m d room (f+1) i l ml nl=some ⟨l,ml,nl⟩:=by
 unfold qz
 rw [if_neg hi]
section
variable {W X X1:World} {g r:Nat} {sv mv nv xv:Value} {sl:List zi} {ml:List (List zo)} {nl:List (List Int)} {xl:List Int} {sc mc nc:List (List Value)}
end
end Go.Proofs.YtnhahkiojbanfaaGreatDoor
namespace Go.Proofs.YtnhahkiojbanfaaGreatDoor
open Go.RowKit
set_option maxRecDepth 100000
set_option maxHeartbeats 16000000
theorem zln:Tryz.prog.underlying 70=some (.struct (Tryz.prog.fieldsOf 70)):=by kernel_rfl
theorem zlo:Tryz.prog.stoodInHeld 70=false:=by kernel_rfl
@[go_sem] theorem zvN:Tryz.prog.eqGuardType Tryz.prog.depth 70=false:=by kernel_rfl
theorem zju:(Tryz.prog.fieldsOf 70).toList.map (λf=>(f.name,f.type,f.offset))= [("Kind",3,0),("Thread",3,1),("Var",3,2)] :=by kernel_rfl
@[go_sem] theorem zvE (w:World) (a b c x y z:Int):(Op.equalIn 10000 70 (.agg #[.int .i64 a, .int .i64 b, .int .i64 c]) (.agg #[.int .i64 x, .int .i64 y, .int .i64 z])).run Tryz.prog w
  = .ok (a==x && b==y && c==z) w:=by
 rw [run_equalIn_agg w 9999 _ _ _ zln zlo]
 obtain⟨f0,f1,f2,hf,h0,h1,h2⟩:∃f0 f1 f2,(Tryz.prog.fieldsOf 70).toList= [f0,f1,f2] /\(f0.name,f0.type,f0.offset)=("Kind",3,0)/\(f1.name,f1.type,f1.offset)=("Thread",3,1)/\(f2.name,f2.type,f2.offset)=("Var",3,2):=by
  have h:=zju
  generalize (Tryz.prog.fieldsOf 70).toList=l at h
  have hl:l.length=3:=by have:=congrArg List.length h;simpa using this
  match l,hl,h with
  | [f0,f1,f2],_,h=>
  simp only [List.map_cons,List.map_nil,List.cons.injEq,and_true] at h
  exact⟨f0,f1,f2,rfl,h.1,h.2.1,h.2.2⟩
 simp only [Prod.mk.injEq] at h0 h1 h2
 rw [hf]
 have p0:=λ(w:World) (a b c:Int)=>vL w #[.int .i64 a, .int .i64 b, .int .i64 c] 0 a rfl
 have p1:=λ(w:World) (a b c:Int)=>vL w #[.int .i64 a, .int .i64 b, .int .i64 c] 1 b rfl
 have p2:=λ(w:World) (a b c:Int)=>vL w #[.int .i64 a, .int .i64 b, .int .i64 c] 2 c rfl
 have ge:=zdO 9998
 cases e0:a==x<;>cases e1:b==y<;>cases e2:c==z<;>simp [Op.eqFields,h0,h1,h2,p0,p1,p2,ge,e0,e1,e2]
theorem zjv {w:World} {a:Option Addr} {n cap:Nat} {l:List (List zo)} (h:zh uG 1 w (.slice a n cap) l) (j:Nat) (hj:j<l.length):∃b off ka kc,a=some ⟨b,off,none⟩/\b<w.heap.size/\w.cell? ⟨b,off+j,none⟩=some (.slice ka (l.getD j []).length kc)/\gU w (.slice ka (l.getD j []).length kc) (l.getD j []):=by
 obtain⟨b,off,cs,h1,h2,h3,h4,v,h5,h6⟩:=zh.part h j hj
 subst h5
 obtain⟨ka,kc,rfl, -⟩:=zh.slice h6
 have:=h4 0 (by omega)
 rw [Nat.mul_one,Nat.add_zero] at this
 exact⟨b,off,ka,kc,h1,h2,this,h6⟩
theorem zlp {w:World} {a:Option Addr} {n cap:Nat} {l:List (List Int)} (h:zh pR 1 w (.slice a n cap) l) (j:Nat) (hj:j<l.length):∃b off ka kc,a=some ⟨b,off,none⟩/\b<w.heap.size/\w.cell? ⟨b,off+j,none⟩=some (.slice ka (l.getD j []).length kc)/\qI w (.slice ka (l.getD j []).length kc) (l.getD j []):=by
 obtain⟨b,off,cs,h1,h2,h3,h4,v,h5,h6⟩:=zh.part h j hj
 subst h5
 obtain⟨ka,kc,rfl, -⟩:=zh.slice h6
 have:=h4 0 (by omega)
 rw [Nat.mul_one,Nat.add_zero] at this
 exact⟨b,off,ka,kc,h1,h2,this,h6⟩
def zaW (sv mv nv:Value):Value:= .agg #[sv,mv,nv]
