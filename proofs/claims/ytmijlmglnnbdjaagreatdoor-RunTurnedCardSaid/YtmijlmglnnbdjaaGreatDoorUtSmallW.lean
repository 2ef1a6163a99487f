/- Steps. -/
import Derived.Test.YtmijlmglnnbdjaaGreatDoorUtCompile
import Derived.Test.YtmijlmglnnbdjaaGreatDoorUtDo
import Derived.Test.YtmijlmglnnbdjaaGreatDoorUtMade2
import Derived.Test.YtmijlmglnnbdjaaGreatDoorUtOfA
import Derived.Test.YtmijlmglnnbdjaaGreatDoorUtSame7
import Derived.Test.YtmijlmglnnbdjaaGreatDoorUtStart
set_option linter.all false
namespace Go.Proofs.YtmijlmglnnbdjaaGreatDoor
open Go.RowKit
set_option maxRecDepth 100000
set_option maxHeartbeats 16000000
theorem zkc {α:Type} [Inhabited α] {R:World->α->List Value->Prop} {size g:Nat} {X Z:World} {v:Value} {l:List α} (A:4<=size) (q:Since (λk=>k=g) X Z) (z:∀j,3<=j->X.cell? ⟨g,j,none⟩=none) (E:∀x cs,R X x cs->R Z x cs) (h:zh R size X v l):zh R size Z v l:=by
 obtain⟨a,cap,L,J,I⟩:=h;refine⟨a,cap,L,J,λj C=> ?_⟩
 obtain⟨b,f,cs,H,y,G,u,F⟩:=I j C
 have o:b≠g:=λe=>by
  subst e;have h:=u (size - 1) (by omega);rw [z _ (by omega),List.getElem?_eq_getElem (by omega)] at h;cases h
 exact⟨b,f,cs,H,Nat.lt_of_lt_of_le y q.size,G,λi D=>(q.cell (p:=⟨b,f+j*size+i,none⟩) y o).trans (u i D),E _ _ F⟩
theorem zlz {d g:Nat} {X Z:World} (i:Since (λk=>k=g) X Z) (f:∀j,3<=j->X.cell? ⟨g,j,none⟩=none) {x:zR} {kv:Value} (h:zJ d X x kv):zJ d Z x kv:=by
 induction d generalizing x kv with
 |zero=>exact h.elim
 |succ d ih=>exact zkc (by omega) i f (λy cs ⟨b,e,h'⟩=>⟨b,e,ih h'⟩) h
theorem zyB {d g:Nat} {X Z:World} (f:Since (λk=>k=g) X Z) (b:∀j,3<=j->X.cell? ⟨g,j,none⟩=none) {l:List yg} {cs:List Value} (h:xV d X l cs):xV d Z l cs:=by
 obtain⟨v,rfl,h⟩:=h;exact⟨v,rfl,zkc (by omega) f b (λy cs ⟨ka,kb,e,h1,h2⟩=>⟨ka,kb,e,zlz f b h1,zlz f b h2⟩) h⟩
theorem z14 {X:World} {g:Nat} {a b c:Value} {t:TypeId} {f:Nat × Nat} (h:X.heap[g]? =some (.cells #[a,b,c] t f)):∀j,3<=j->X.cell? ⟨g,j,none⟩=none:=λj i=>by
 rw [ze h];exact Array.getElem?_eq_none (by simpa using i)
theorem zv4 {F:Nat->Prop} {X Z:World} {g d:Nat} {a b c:Value} {t:TypeId} {f:Nat × Nat} {l:List yg} {cs:List Value} (h:yL F X (λy=>xV d y l cs)) (A:X.heap[g]? =some (.cells #[a,b,c] t f)) (I:¬F g) (p:Since (λk=>k=g) X Z):yL F Z (λy=>xV d y l cs):=λy o=>by
 have D:=zA A;have H:=p.size;have C:=o.size
 have j:({y with heap:=y.heap.setIfInBounds g (.cells #[a,b,c] t f)} :World).heap[g]? =some (.cells #[a,b,c] t f):=by
  simp [Array.getElem?_setIfInBounds_self_of_lt (show g<y.heap.size by omega)]
 have z:∀k,k≠g->({y with heap:=y.heap.setIfInBounds g (.cells #[a,b,c] t f)} :World).heap[k]? =y.heap[k]? :=λk i=>by
  simp [Array.getElem?_setIfInBounds_ne (Ne.symm i)]
 have G:Since F X ({y with heap:=y.heap.setIfInBounds g (.cells #[a,b,c] t f)} :World):=
  ⟨o.os.trans p.os,o.tape.trans p.tape,o.output.trans p.output,by simp;omega,λk q u=>by
   by_cases e:k=g
   ·subst e;rw [j];exact A.symm
   rw [z k e,o.block k (by omega) u,p.block k q e]⟩
 have E:Since (λk=>k=g) ({y with heap:=y.heap.setIfInBounds g (.cells #[a,b,c] t f)} :World) y:=⟨rfl,rfl,rfl,by simp,λk _ i=>(z k i).symm⟩;exact zyB E (z14 j) (h _ G)
def zpT (w:World) (en:Ending) (w':World):Prop:=(∃c ta tc css,en= .returned (yj c (.slice ta c.threads.length tc))/\codeOk c=true/\qA (λk=>(Value.slice ta c.threads.length tc).ownBlock=some k) w' (xV 3) 1 w.heap.size 95 (.slice ta c.threads.length tc) c.threads css)/\Below w.heap.size w w'
theorem zx1:∀k∈zg2,1<=k/\k<=11:=by decide
theorem zum (w:World) (sv:Value) (l:List Int) (hn:vL w .u8 sv l) (kv:Value) (N:List Int) (H:qx w kv N) (hk1:1<=N.length) (K:N.length<=100) (U:∀k∈N,1<=k/\k<=11):
  Calls Tryz.prog 7 #[sv,kv] w (zpT w):=by
 have z:=(Below.refl w.heap.size w).alloc (Nat.le_refl _) (.cells #[I4 0,I4 0,N7] 25);have hg1:=zQ w (.cells #[I4 0,I4 0,N7] 25);have q:=zuj _ sv l (hn.below z) kv N (zh.below uV.stays H z) hk1 K U;obtain⟨sa,sc,rfl, -⟩:∃a c,sv= .slice a l.length c/\True:=by obtain⟨a,c,h, -⟩:=hn;exact⟨a,c,h,trivial⟩
 obtain⟨ka,kc,rfl, -⟩:=zh.slice H;generalize l.length=ln at q ⊢;generalize N.length=kn at q ⊢;have L:=qh z;have qd:=qh hg1;have S:=qh q;clear z hg1 q hn H hk1 K U;go_enter Tryz.func7,Tryz.ntmps7
 go_upto_region 1 with fail
 generalize World.alloc w _=W at L qd S ⊢;obtain⟨gr,i⟩:=qxE w.heap.size;rw [<-i] at qd ⊢;have pq:=qh i;clear i
 go_upto_region 2 with(first|(go_at_call 22;go_must(refine(G.o).mono ?_);rintro en O ⟨⟨f,tc,css,rfl,C⟩,F⟩;(have vW:=qh C);(have HB3:=qh (zy HB2.o F));(have kZ:=qh ((F.block _ (zA I.o)).trans I.o));(have HW3:=qh F.size);clear C F;unfold yj)|(go_at_call 23;go_must(refine(S.o).mono ?_);rintro en W2 ⟨⟨p,vv,tv,rfl,hp,T⟩,F⟩;(have G:=qh (zoL 3 4 W2 p hp vv tv T));(have vP:=qh (zpZ hp));(have HB2:=qh (L.o.trans (F.mono L.o.size)));(have I:=qh ((F.block _ (zA qd.o)).trans qd.o));clear F hp T;generalize zda p=c at G vP;unfold zgK at G ⊢))
 generalize hcv:c.vars=vars;generalize hcd:c.domain=dom;generalize hcl:c.threads.length=cn;have HCV:=qh hcv;have HCD:=qh hcd;have J:=qh hcl;clear hcv hcd hcl;have y:=HB3.o.alloc HB3.o.size (.cells #[I4 vars,I4 dom, .slice f cn tc] 25);have b:=(Below.heap_alloc O (.cells #[I4 vars,I4 dom, .slice f cn tc] 25) _ (zA kZ.o)).trans kZ.o;have M:=zQ O (.cells #[I4 vars,I4 dom, .slice f cn tc] 25);have u:=(Since.refl (λ_=>False) O).alloc (.cells #[I4 vars,I4 dom, .slice f cn tc] 25);generalize World.alloc O _=X at y b M u ⊢;generalize O.heap.size=gc at M ⊢
 have s:=xR (g:=gr) [I4 vars,I4 dom, .slice f cn tc] X 0;have A:(yU X gr 0 [I4 vars,I4 dom, .slice f cn tc]).heap[gr]? =_:=qU (cs:= [I4 0,I4 0,N7]) _ rfl b
 have E:zpT w (.returned (.agg #[I4 vars,I4 dom, .slice f cn tc])) (yU X gr 0 [I4 vars,I4 dom, .slice f cn tc]):=by
  have h1:=vW.o;rw [J.o] at h1;have hlt:=HW3.o;have hge:=HB2.o.size;refine⟨⟨c,f,tc,css,by unfold yj;rw [HCV.o,HCD.o,J.o],vP.o, ?_⟩,(y.trans (s.below y.size (λk hk=>by have:=pq.o;omega)))⟩
  rw [J.o];have h2:qA (λk=>(Value.slice f cn tc).ownBlock=some k) O (xV 3) 1 w.heap.size 95 (.slice f cn tc) c.threads css:=⟨h1.len,h1.part,qX h1.row hge⟩;have D:∀k,(Value.slice f cn tc).ownBlock=some k->k≠gr:=λk hk e=>by have:=(h1.row.lt k hk).1;have:=zA I.o;omega
  have i:¬(Value.slice f cn tc).ownBlock=some gr:=λe=>D gr e rfl;exact⟨h2.len,λj hj=>⟨(h2.part j hj).1,zv4 ((h2.part j hj).2.step u (λ_ h=>h.elim) (λk hk=> .inl hk)) b i s⟩,s.row (u.row h2.row (λ_ _ h=>h)) D⟩
 have yG:=qh E;have zL:=qh A;have c0:=ze M 0;have c1:=ze M 1;have c2:=ze M 2;have z0:=ze b 0;have z1:=ze b 1;have z2:=ze b 2;have f0:=zH b 0;have f1:=zH b 1;have f2:=zH b 2;clear E A s b M u y;go_wp2_with fail
 refine bodyPost_ret (xu rfl _ _ gr 25 _ (0,0) _ rfl zL.o Tryz.underlying25 rfl zjZ) rfl ?_
 exact yG.o
end Go.Proofs.YtmijlmglnnbdjaaGreatDoor
namespace Go.Proofs.YtmijlmglnnbdjaaGreatDoor
open Go.RowKit
set_option maxRecDepth 100000
set_option maxHeartbeats 16000000
def zEW (vars:Int):List yg:= [⟨2,0,0, .mk 1 1 0 [],default,0⟩,⟨1,0,vars - 1,default,default,0⟩,⟨9,0,0, .mk 2 0 0 [],default,0⟩]
def zEX (vars:Int):List Value:= [I4 2,I4 0,I4 0,I4 1,I4 1, .int .u8 0,N7,I4 0,I4 0, .int .u8 0,N7,I4 0,
 I4 1,I4 0,I4 (vars - 1),I4 0,I4 0, .int .u8 0,N7,I4 0,I4 0, .int .u8 0,N7,I4 0,
 I4 9,I4 0,I4 0,I4 2,I4 0, .int .u8 0,N7,I4 0,I4 0, .int .u8 0,N7,I4 0]
structure zE5 (w X:World) (gc gr g:Nat) (vars dom:Int) (n cap:Nat) (cl:List (List yg)):Prop where
 below:Below w.heap.size w X
 box:X.heap[gc]? =some (.cells #[I4 vars,I4 dom, .slice (some ⟨g,0,none⟩) n cap] 25 (0,0))
 res:X.heap[gr]? =some (.cells #[I4 0,I4 0,N7] 25 (0,0))
 lo:w.heap.size<=gc/\w.heap.size<=gr/\w.heap.size<=g/\gc≠gr/\g≠gc/\g≠gr
 row:∃cur:Array Value,X.heap[g]? =some (.cells cur 95 (0,0))/\n<=cur.size/\∀j,j<n->∃a c,cur[j]? =some (.slice a (cl.getD j []).length c)/\yL (λk=>k=g) X (λy=>xV 3 y (cl.getD j []) [.slice a (cl.getD j []).length c])
 len:cl.length=n
 ok:∀j,j<n->rowOk vars dom (cl.getD j [])=true
 room:n<=cap/\cap<=9223372036854775807
section
variable {w X:World} {gc gr g n cap:Nat} {vars dom:Int} {cl:List (List yg)}
end
end Go.Proofs.YtmijlmglnnbdjaaGreatDoor
namespace Go.Proofs.YtmijlmglnnbdjaaGreatDoor
open Go.RowKit
set_option maxRecDepth 100000
set_option maxHeartbeats 16000000
end Go.Proofs.YtmijlmglnnbdjaaGreatDoor
namespace Go.Proofs.YtmijlmglnnbdjaaGreatDoor
open Go.RowKit
set_option maxRecDepth 100000
set_option maxHeartbeats 16000000
def zBQ (w:World) (s:ztv) (sv mv nv:Value):Prop:=jY w sv s.states/\zh z3f 1 w mv s.moves/\zh z7g 1 w nv s.next
theorem yL.mono {F G:Nat->Prop} {X:World} {P:World->Prop} (h:yL F X P) (f:∀k,G k->F k):yL G X P:=h.step (Since.refl (λ_=>False) X) (λ_ h=>h.elim) (λk b=> .inl (f k b))
section
variable {W X X1:World} {g r:Nat} {sv mv nv xv:Value} {sl:List zo} {ml:List (List zw)} {nl:List (List Int)} {xl:List Int} {sc mc nc:List (List Value)}
end
end Go.Proofs.YtmijlmglnnbdjaaGreatDoor
namespace Go.Proofs.YtmijlmglnnbdjaaGreatDoor
open Go.RowKit
set_option maxRecDepth 100000
set_option maxHeartbeats 16000000
section
variable {W X X1 Y:World} {P:World->Prop} {v v':Value} {l:List zo} {css:List (List Value)} {B gs:Nat}
theorem zkV (h:yL (λk=>k<X.heap.size) Y P) (f:B<=X.heap.size):yL (λk=>k<B) Y P:=h.mono (λ_ b=>Nat.lt_of_lt_of_le b f)
structure zEY (W X:World) (v:Value) (l:List zo) (css:List (List Value)):Prop where
 below:Below W.heap.size W X
 st:qA (λk=>v.ownBlock=some k) X qY 3 W.heap.size 61 v l css
end
end Go.Proofs.YtmijlmglnnbdjaaGreatDoor
namespace Go.Proofs.YtmijlmglnnbdjaaGreatDoor
open Go.RowKit
set_option maxRecDepth 100000
set_option maxHeartbeats 16000000
structure zEZ (W X:World) (gs:Nat) (lv:Value) (s:zo) (l:List zw) (tv mv:Value):Prop where
 below:Below W.heap.size W X
 lo:W.heap.size<=gs
 box:X.heap[gs]? =some (.cells #[tv,mv, .bool s.bad] 61 (0,0))
 row:X.ownsRow W.heap.size 46 3 lv l.length (zx zw.cells l)
 st:yL (λk=>lv.ownBlock=some k\/k=gs) X (λy=>qY y s [tv,mv, .bool s.bad])
section
variable {W X X1 Y:World} {gs:Nat} {lv lv' tv mv pv qv:Value} {s t:zo} {l:List zw} {x:zw}
end
def z0j (s:zo) (bd:Bool) (w:World) (e:Ending) (w':World):Prop:=(∃(a b:Option Addr) (n c k f:Nat),e= .returned (.agg #[.slice a n c, .slice b k f, .bool bd])/\yL (λk=>k<w.heap.size) w' (λy=>qY y s [.slice a n c, .slice b k f, .bool bd]))/\Below w.heap.size w w'
end Go.Proofs.YtmijlmglnnbdjaaGreatDoor
namespace Go.Proofs.YtmijlmglnnbdjaaGreatDoor
def Hit (keys:List ByteArray) (slots:List Nat) (key:ByteArray) (j:Nat):Prop:=
 slots.getD j 0=0\/keys.getD (slots.getD j 0 - 1) ByteArray.empty=key
def Ends (keys:List ByteArray) (slots:List Nat) (key:ByteArray) (s d:Nat):Prop:=
 Hit keys slots key ((s+d) % slots.length)/\∀e,e<d->¬Hit keys slots key ((s+e) % slots.length)
structure Placed (st:ByteArray->Nat->Nat) (keys:List ByteArray) (k:Nat) (slots:List Nat):Prop where
 le:k<=keys.length
 nodup:keys.Nodup
 small:∀j,slots.getD j 0<=k
 few:slots.countP (· !=0)<=k
 room:k<slots.length
 at_:∀i,(h:i<k)->∃d,slots.getD ((st (keys[i]'(Nat.lt_of_lt_of_le h le)) slots.length+d) % slots.length) 0=i+1/\
  ∀e,e<d->slots.getD ((st (keys[i]'(Nat.lt_of_lt_of_le h le)) slots.length+e) % slots.length) 0≠0
end Go.Proofs.YtmijlmglnnbdjaaGreatDoor
namespace Go.Proofs.YtmijlmglnnbdjaaGreatDoor
open Go.RowKit
set_option maxRecDepth 100000
set_option maxHeartbeats 16000000
def zE6 (keys:List ByteArray) (key:ByteArray) (r:Int):Prop:=
 (∃i,i<keys.length/\keys.getD i ByteArray.empty=key/\r=(i:Int)/\∀j,j<i->keys.getD j ByteArray.empty≠key)\/(r= -1/\∀i,i<keys.length->keys.getD i ByteArray.empty≠key)
end Go.Proofs.YtmijlmglnnbdjaaGreatDoor
namespace Go.Proofs.YtmijlmglnnbdjaaGreatDoor
open Go.RowKit
set_option maxRecDepth 100000
set_option maxHeartbeats 16000000
section
variable {W X X1:World} {Q:Nat->Prop} {g:Nat} {sv mv nv xv sv':Value} {sl:List zo} {ml:List (List zw)} {nl:List (List Int)} {xl:List Int} {sc mc nc:List (List Value)}
end
theorem zpU {α:Type} {f:α->List Int} {b:Nat} :∀ {l:List α},(∀x∈l,(f x).length<=b)->(l.flatMap f).length<=l.length*b:=by
 intro l;induction l with
 |nil=>intro _;simp
 |cons x l ih=>
 intro h;have k:=h x (List.mem_cons_self ..);have j:=ih (λy i=>h y (List.mem_cons_of_mem _ i));simp only [List.flatMap_cons,List.length_append,List.length_cons,Nat.add_mul];omega
theorem ztJ {c:zG} {m:zC} {s:zo} (i:yJ c m s=true) (p:zau s):(zcv s).length<=1000000:=by
 have A:=zfg i;have o:=zff i p
 have z:1<=c.vars/\c.vars<=4/\c.threads.length<=4:=by
  have j:=i;unfold yJ jU at j;simp only [Bool.and_eq_true,decide_eq_true_eq] at j;have:=xY j.1.1.1.1.1.1.1.1
  exact⟨this.1,this.2.1,this.2.2.2.2.2⟩
 have y:=zpU (f:=vQ) (b:=519) (l:=s.threads) (λt k=>by
  have h:=o.thr t k;have u:=zpU (f:=uK) (b:=2) (l:=t.buf) (λe _=>by simp [uK]);have:=h.len
  unfold vQ;simp only [List.length_append,List.length_map,h.regs,List.length_cons,List.length_nil];omega)
 have q:s.threads.length*519<=4*519:=Nat.mul_le_mul_right _ (by omega);unfold zcv;simp only [List.length_cons,List.length_append,List.length_map];omega
end Go.Proofs.YtmijlmglnnbdjaaGreatDoor
namespace Go.Proofs.YtmijlmglnnbdjaaGreatDoor
open Go.RowKit
set_option maxRecDepth 100000
set_option maxHeartbeats 16000000
def zj2 (n:Int):zC:=⟨n % 3,1+n / 3 % 3⟩
theorem zo7 (w:World) (n:Int) (h:0<=n) (f:n<=255):Calls Tryz.prog 9 #[.int .u8 n] w λe b=>e= .returned (yE (zj2 n))/\Below w.heap.size w b:=by
 unfold yE zj2;go_enter Tryz.func9,Tryz.ntmps9
 go_wp2
 exact bodyPost_ret (v:= .agg #[I4 (n % 3),I4 (1+n / 3 % 3)]) (by simp [results,Tryz.results9,go_sem]) rfl ⟨rfl,(Below.refl _ _).alloc (Nat.le_refl _) _⟩
end Go.Proofs.YtmijlmglnnbdjaaGreatDoor
namespace Go.Proofs.YtmijlmglnnbdjaaGreatDoor
open Go.RowKit
set_option maxRecDepth 100000
set_option maxHeartbeats 16000000
theorem zgC {c:zG} {m:zC} {s:zo} {d:Nat} {x:zw} (h:x∈xL c m s d):yJ c m s=true/\∃i,i<s.threads.length/\((x=⟨1,i,0⟩/\∃t,kQ c m s i d=some t)\/∃v,x=⟨2,i,v⟩/\v∈yX (s.threads.getD i default).buf m.model):=by
 unfold xL at h;split at h
 ·rename_i hf
  refine⟨hf, ?_⟩
  obtain⟨i,f,hx⟩:=List.mem_flatMap.1 h;refine⟨i,List.mem_range.1 f, ?_⟩
  unfold wE at hx;rcases List.mem_append.1 hx with hx|hx
  ·split at hx
   ·rename_i hs
    rw [List.mem_singleton] at hx;exact .inl ⟨hx,Option.isSome_iff_exists.1 hs⟩
   simp at hx
  obtain⟨v,b,rfl⟩:=List.mem_map.1 hx;exact .inr ⟨v,rfl,b⟩
 simp at h
theorem zyC {c:zG} {m:zC} {s:zo} {d:Nat} {x:zw} (h:x∈xL c m s d):∃i,i<s.threads.length/\((x=⟨1,i,0⟩/\∃t,kQ c m s i d=some t/\jR c m s x d=(t,0))\/∃v,x=⟨2,i,v⟩/\v∈yX (s.threads.getD i default).buf m.model/\jR c m s x d=(pR s i v,0)):=by
 obtain⟨j,i,k,hx⟩:=zgC h;refine⟨i,k, ?_⟩
 rcases hx with⟨rfl,t,f⟩|⟨v,rfl,b⟩
 ·refine .inl ⟨rfl,t,f, ?_⟩
  unfold jR;rw [if_pos j,if_pos ⟨by show(0:Int)<=(i:Int);omega,by show(i:Int)<_;omega⟩,if_pos ⟨rfl,rfl⟩]
  rw [show(⟨1,(i:Int),0⟩:zw).thread.toNat=i from Int.toNat_natCast i,f]
 refine .inr ⟨v,rfl,b, ?_⟩
 unfold jR;rw [if_pos j,if_pos ⟨by show(0:Int)<=(i:Int);omega,by show(i:Int)<_;omega⟩,if_neg (by rintro⟨h, -⟩;exact absurd (show(2:Int)=1 from h) (by decide))];rw [show(⟨2,(i:Int),v⟩:zw).thread.toNat=i from Int.toNat_natCast i,if_pos ⟨rfl,b⟩]
section
variable {c:zG} {m:zC} {d R:Nat} {P:zo->Prop}
end
theorem zv5 {c:zG} {m:zC} {s:zo} {t:zD} {x:yg} {d:Nat} {r:zD × List Int × Bool} (h:stepT c m s t x d=some r):r.2.1.length=s.mem.length:=by
 by_cases h1:x.op=1
 ·rw [zan h1] at h;cases h;rfl
 by_cases h2:x.op=2
 ·by_cases hm:m.model=0
  ·rw [pJ h2 hm] at h;cases h;simp
  cases hp:qM t.buf m ⟨x.var,yF t.regs c.domain d x.a⟩ with
  |true=>rw [pK h2 hm hp] at h;cases h;rfl
  |false=>rw [pO h2 hm hp] at h;cases h
 by_cases h3:x.op=3
 ·rw [zci h3] at h;cases h;rfl
 by_cases h4:x.op=4
 ·rw [bM h4] at h;split at h<;>cases h;rfl
 by_cases h5:x.op=5
 ·rw [uX h5] at h;split at h<;>cases h;rfl
 by_cases h6:x.op=6
 ·by_cases hv:s.mem.getD x.var.toNat 0=yF t.regs c.domain d x.a
  ·rw [zaq h6 hv] at h;split at h<;>cases h;simp
  rw [zao h6 hv] at h;split at h<;>cases h;rfl
 by_cases h7:x.op=7
 ·rw [uY h7] at h;split at h<;>cases h;simp
 by_cases h8:x.op=8
 ·rw [uD h8] at h;split at h<;>cases h;simp
 by_cases h9:x.op=9
 ·rw [wR h9] at h;cases h;rfl
 by_cases h12:x.op=12
 ·rw [uE h12] at h;cases h;rfl
 by_cases h13:x.op=13
 ·rw [zbu h13] at h;cases h;rfl
 rw [zbU h1 h2 h3 h4 h5 h6 h7 h8 h9 h12 h13] at h;cases h;rfl
end Go.Proofs.YtmijlmglnnbdjaaGreatDoor
namespace Go.Proofs.YtmijlmglnnbdjaaGreatDoor
open Go.RowKit Go.ChangeShapes Go.WideShapes Go.ChangeAt
set_option maxRecDepth 100000
set_option maxHeartbeats 16000000
section
variable {X Z:World} {g:Nat}
end
section
variable {V X Y:World} {mb:Option Nat}
end
end Go.Proofs.YtmijlmglnnbdjaaGreatDoor
namespace Go.Proofs.YtmijlmglnnbdjaaGreatDoor
open Go.RowKit
set_option maxRecDepth 100000
set_option maxHeartbeats 16000000
theorem u8_in {x:Int} (h:(Lit.int .u8 x).wf=true):0<=x/\x<=255:=by
 constructor
 ·simp [Lit.wf,IntKind.min,IntKind.max,IntKind.signed] at h;omega
 simp [Lit.wf,IntKind.min,IntKind.max,IntKind.signed,IntKind.bits] at h;omega
theorem wrap_u8 {x:Int} (f:0<=x) (b:x<=255):IntKind.i64.wrap x=x:=IntWalk.i64_in _ (by omega)
theorem ku {dom n:Int} :xJ dom n=true↔0<=n/\n<dom:=by unfold xJ;simp
def zek (c:zG) (m:zC) (row:List yg) (t:zD):Prop:=0<=t.pc/\t.pc<=(row.length:Int)/\(∀k,k<4->xJ c.domain (t.regs.getD k 0)=true)/\∀k,k<t.buf.length->qF c m t.buf k=true
theorem zdz {c:zG} {m:zC} {s:zo} :yJ c m s=true↔jU c m=true/\s.threads.length=c.threads.length/\(s.mem.length:Int)=c.vars/\(∀k,k<s.mem.length->xJ c.domain (s.mem.getD k 0)=true)/\∀i,i<s.threads.length->zek c m (c.threads.getD i []) (s.threads.getD i default):=by
 unfold yJ vE zek;simp only [Bool.and_eq_true,decide_eq_true_eq,List.all_eq_true,List.mem_range];constructor
 ·rintro⟨⟨⟨⟨p,o⟩,j⟩,h⟩,f⟩
  exact⟨p,o,j,h,λi b=>⟨(f i b).1.1.1,(f i b).1.1.2,(f i b).1.2,(f i b).2⟩⟩
 rintro⟨p,o,j,h,f⟩
 exact⟨⟨⟨⟨p,o⟩,j⟩,h⟩,λi b=>⟨⟨⟨(f i b).1,(f i b).2.1⟩,(f i b).2.2.1⟩,(f i b).2.2.2⟩⟩
theorem zdU {c:zG} {m:zC} (h:jU c m=true):codeOk c=true/\2<=c.domain:=by
 unfold jU at h;simp only [Bool.and_eq_true,decide_eq_true_eq] at h;exact⟨h.1.1.1.1,(xY h.1.1.1.1).2.2.1⟩
theorem z15 {b:List Int} {dom:Int} (i:1<=dom) (f:∀k,k<4->xJ dom (b.getD k 0)=true) {x:zR} {e:Nat} (hx:zV dom e x=true) (d:Nat):xJ dom (yF b dom d x)=true:=by
 cases d with
 |zero=>rw [ku];unfold yF;omega
 |succ d=>
 unfold yF;cases e with
 |zero=>cases hx
 |succ e=>
 unfold zV at hx;split
 ·rename_i h1
  rw [if_pos h1] at hx;simp only [Bool.and_eq_true,decide_eq_true_eq] at hx;rw [ku];exact hx.1.1
 split
 ·split
  ·rename_i h;exact f _ (by omega)
  rw [ku];omega
 split
 ·rw [ku];exact⟨Int.emod_nonneg _ (by omega),Int.emod_lt_of_pos _ (by omega)⟩
 rw [ku];omega
theorem zgG {dom:Int} {l:List Int} (h:∀k,k<l.length->xJ dom (l.getD k 0)=true) (v:Nat) {n:Int} (f:xJ dom n=true):∀k,k<(l.set v n).length->xJ dom ((l.set v n).getD k 0)=true:=λk b=>by
 rw [List.length_set] at b;by_cases e:k=v
 ·subst e;rw [List.getD_eq_getElem?_getD,List.getElem?_set_self b];exact f
 rw [List.getD_eq_getElem?_getD,List.getElem?_set_ne (Ne.symm e), <-List.getD_eq_getElem?_getD];exact h k b
theorem z16 {dom:Int} {l:List Int} (b:∀k,k<4->xJ dom (l.getD k 0)=true) (v:Nat) {n:Int} (h:xJ dom n=true):∀k,k<4->xJ dom ((l.set v n).getD k 0)=true:=λk f=>by
 by_cases e:k=v
 ·subst e;by_cases hk2:k<l.length
  ·rw [List.getD_eq_getElem?_getD,List.getElem?_set_self hk2];exact h
  rw [List.set_eq_of_length_le (by omega)];exact b k f
 rw [List.getD_eq_getElem?_getD,List.getElem?_set_ne (Ne.symm e), <-List.getD_eq_getElem?_getD];exact b k f
theorem zbC {c:zG} {m:zC} {l:List zq} {k:Nat} (h:qF c m l k=true):qM (l.take k) m (l.getD k default)=true/\0<=(l.getD k default).var/\(l.getD k default).var<c.vars/\xJ c.domain (l.getD k default).n=true:=by
 unfold qF at h;simp only [Bool.and_eq_true,decide_eq_true_eq] at h;exact⟨h.1.1.1.1,h.1.1.1.2,h.1.1.2,ku.2 ⟨h.1.2,h.2⟩⟩
theorem zhc {c:zG} {m:zC} {l:List zq} {k:Nat} (i:qM (l.take k) m (l.getD k default)=true) (h:0<=(l.getD k default).var) (f:(l.getD k default).var<c.vars) (b:xJ c.domain (l.getD k default).n=true):qF c m l k=true:=by
 unfold qF;simp only [Bool.and_eq_true,decide_eq_true_eq];exact⟨⟨⟨⟨i,h⟩,f⟩,(ku.1 b).1⟩,(ku.1 b).2⟩
theorem zyD {c:zG} {m:zC} {l:List zq} (h:∀k,k<l.length->qF c m l k=true) (v:Int):∀i n,i<=l.length->zax l v i=some n->xJ c.domain n=true:=by
 intro i;induction i with
 |zero=>intro n _ b;unfold zax at b;cases b
 |succ i ih=>
 intro n f b;unfold zax at b;split at b
 ·cases b;exact(zbC (h i (by omega))).2.2.2
 exact ih n (by omega) b
theorem zyE {c:zG} {m:zC} {l:List zq} (h:∀k,k<l.length->qF c m l k=true) {x:zq} (i:qM l m x=true) (q:0<=x.var) (p:x.var<c.vars) (o:xJ c.domain x.n=true):∀k,k<(l++ [x]).length->qF c m (l++ [x]) k=true:=λk j=>by
 rw [List.length_append,List.length_singleton] at j;by_cases e:k=l.length
 ·subst e;have b:(l++ [x]).getD l.length default=x:=zdl;exact zhc (by rw [b,List.take_left];exact i) (by rw [b];exact q) (by rw [b];exact p) (by rw [b];exact o)
 have f:k<l.length:=by omega
 have b:(l++ [x]).getD k default=l.getD k default:=zdk f;obtain⟨A,z,y,u⟩:=zbC (h k f);exact zhc (by rw [b,List.take_append_of_le_length (by omega)];exact A) (by rw [b];exact z) (by rw [b];exact y) (by rw [b];exact u)
theorem zog {l r:List zq} {m:zC} {x:zq} (h:qM l m x=true) (b:r.Sublist l):qM r m x=true:=by
 unfold qM zeZ at h ⊢;simp only [Bool.and_eq_true,decide_eq_true_eq] at h ⊢;have:=b.countP_le (p:=λy=>decide (m.model=1)||decide (y.var=x.var))
 exact⟨h.1,by omega⟩
theorem zsm {c:zG} {m:zC} {l:List zq} (h:∀k,k<l.length->qF c m l k=true) (p:Nat):∀k,k<(l.eraseIdx p).length->qF c m (l.eraseIdx p) k=true:=λk i=>by
 by_cases hp:p<l.length
 rotate_left
 ·rw [List.eraseIdx_of_length_le (by omega)] at i ⊢;exact h k i
 have y:(l.eraseIdx p).length=l.length - 1:=List.length_eraseIdx_of_lt hp;rw [y] at i;by_cases e:k<p
 ·have b:(l.eraseIdx p).getD k default=l.getD k default:=by
   simp only [List.getD_eq_getElem?_getD,List.getElem?_eraseIdx,if_pos e]
  obtain⟨u,q,o,j⟩:=zbC (h k (by omega))
  have f:((l.eraseIdx p).take k).Sublist (l.take k):=by
   rw [List.eraseIdx_eq_take_drop_succ,List.take_append_of_le_length (by rw [List.length_take];omega),List.take_take,Nat.min_eq_left (by omega)]
   exact List.Sublist.refl _
  exact zhc (by rw [b];exact zog u f) (by rw [b];exact q) (by rw [b];exact o) (by rw [b];exact j)
 have b:(l.eraseIdx p).getD k default=l.getD (k+1) default:=by
  simp only [List.getD_eq_getElem?_getD,List.getElem?_eraseIdx,if_neg e]
 obtain⟨u,q,o,j⟩:=zbC (h (k+1) (by omega))
 have f:((l.eraseIdx p).take k).Sublist (l.take (k+1)):=by
  rw [List.eraseIdx_eq_take_drop_succ,List.take_append,List.length_take,Nat.min_eq_left (by omega),List.take_take,Nat.min_eq_right (by omega)]
  have:l.take (k+1)=l.take p++(l.drop p).take (k+1 - p):=by
   rw [<-List.take_append_drop p l,List.take_append,List.length_take,Nat.min_eq_left (by omega),List.take_take,Nat.min_eq_right (by omega),List.take_append_drop]
  rw [this];refine List.Sublist.append_left ?_ _
  rw [show k+1 - p=(k - p)+1 by omega,List.drop_eq_getElem_cons hp,List.take_succ_cons];exact List.sublist_cons_self _ _
 exact zhc (by rw [b];exact zog u f) (by rw [b];exact q) (by rw [b];exact o) (by rw [b];exact j)
theorem zoh (l:List zq) (v:Int):∀i,i<=l.length->((yY l v i).1=none->(yY l v i).2=l.take i)/\∀e,(yY l v i).1=some e->∃p,p<i/\l.getD p default=e/\(yY l v i).2=(l.take i).eraseIdx p:=by
 intro i;induction i with
 |zero=>intro _;exact⟨λ_=>rfl,λe h=>by cases h⟩
 |succ i ih=>
 intro y;obtain⟨k,q⟩:=ih (by omega);have b:l.take (i+1)=l.take i++ [l.getD i default] :=by rw [List.take_succ_eq_append_getElem (by omega),List.getD_eq_getElem?_getD,List.getElem?_eq_getElem (by omega)];rfl
 unfold yY;split
 ·rename_i h
  simp only [Bool.and_eq_true,decide_eq_true_eq,Option.isNone_iff_eq_none] at h;refine⟨(λe=>by cases e),λe j=> ?_⟩
  cases j
  refine⟨i,by omega,rfl, ?_⟩
  rw [b,List.eraseIdx_append_of_length_le (by rw [List.length_take];omega),List.length_take,Nat.min_eq_left (by omega),Nat.sub_self]
  simp [k h.1]
 refine⟨λe=>by rw [b, <-k e],λe j=> ?_⟩
 obtain⟨p,u,f,o⟩:=q e j;refine⟨p,by omega,f, ?_⟩
 rw [b,List.eraseIdx_append_of_lt_length (by rw [List.length_take];omega)]
 show(yY l v i).2++ [l.getD i default] =_
 rw [o]
theorem zoU {vars dom:Int} {f:Nat} {x:yg} (h:qH vars dom f x=true):(x.op=12->zV dom 20 x.a=true/\0<=x.dest/\x.dest<=f)/\(x.op=13->0<=x.dest/\x.dest<=f)/\(¬x.op=12->¬x.op=13->vg x.op x.reg x.var x.a x.b vars dom=true):=by
 unfold qH at h;refine⟨λe=> ?_,λe=> ?_,λj i=> ?_⟩
 ·rw [if_pos e] at h;unfold jf vg at h;simp only [Bool.and_eq_true,decide_eq_true_eq] at h;have:=h.2.1.2
  unfold bU at this;rw [if_pos (by decide)] at this;exact⟨this,h.1.1.2,h.1.2⟩
 ·rw [if_neg (by omega),if_pos e] at h;unfold jf at h;simp only [Bool.and_eq_true,decide_eq_true_eq] at h;exact⟨h.1.1.2,h.1.2⟩
 rw [if_neg j,if_neg i] at h;split at h
 ·cases h
 unfold jf at h;simp only [Bool.and_eq_true] at h;exact h.2
theorem zcV {k reg v:Int} {a b:zR} {vars dom:Int} (h:vg k reg v a b vars dom=true):(uy k=true->0<=v/\v<vars)/\(uz k=true->zV dom 20 a=true)/\(hasB k=true->zV dom 20 b=true):=by
 unfold vg at h;simp only [Bool.and_eq_true] at h;obtain⟨⟨⟨-,j⟩,i⟩,f⟩:=h;refine⟨λe=> ?_,λe=> ?_,λe=> ?_⟩
 ·unfold bT at j;rw [if_pos e] at j;simpa using j
 ·unfold bU at i;rw [if_pos e] at i;exact i
 unfold zbp at f;rw [if_pos e] at f;exact f
theorem zsn {c:zG} {m:zC} {s:zo} {t:zD} {x:yg} {d:Nat} {row:List yg} {r:zD × List Int × Bool} (U:jU c m=true) (O:zek c m row t) (S:t.pc<(row.length:Int)) (hx:qH c.vars c.domain row.length x=true)
  (hv:(s.mem.length:Int)=c.vars) (b:∀k,k<s.mem.length->xJ c.domain (s.mem.getD k 0)=true) (h:stepT c m s t x d=some r):zek c m row r.1/\∀k,k<r.2.1.length->xJ c.domain (r.2.1.getD k 0)=true:=by
 obtain⟨E,H⟩:=zdU U;obtain⟨t1,e,q,p⟩:=O;obtain⟨G,F,z⟩:=zoU hx;have f:zek c m row ⟨t.pc+1,t.regs,t.buf⟩:=⟨by show 0<=t.pc+1;omega,by show t.pc+1<=_;omega,q,p⟩
 have i:∀(A:Nat) (n:Int),xJ c.domain n=true->zek c m row ⟨t.pc+1,t.regs.set A n,t.buf⟩:=λA n T=>⟨by show 0<=t.pc+1;omega,by show t.pc+1<=_;omega,z16 q A T,p⟩
 have L:xJ c.domain 0=true:=by rw [ku];omega
 have J:xJ c.domain 1=true:=by rw [ku];omega
 have o:∀y,zV c.domain 20 y=true->xJ c.domain (yF t.regs c.domain d y)=true:=λy N=>z15 (by omega) q N d;by_cases e1:x.op=1
 ·obtain⟨D, -, -⟩:=zcV (z (by omega) (by omega));have j:=D (by rw [e1];rfl)
  rw [zan e1] at h;cases h
  refine⟨i _ _ ?_,b⟩
  cases hl:uo t.buf x.var with
  |none=>exact b _ (by omega)
  |some n=>exact zyD p x.var _ n (Nat.le_refl _) hl
 by_cases e2:x.op=2
 ·obtain⟨D,C, -⟩:=zcV (z (by omega) (by omega));have j:=D (by rw [e2];rfl)
  have I:=o _ (C (by rw [e2];rfl))
  by_cases hmo:m.model=0
  ·rw [pJ e2 hmo] at h;cases h;exact⟨f,zgG b _ I⟩
  cases hp:qM t.buf m ⟨x.var,yF t.regs c.domain d x.a⟩ with
  |true=>
   rw [pK e2 hmo hp] at h;cases h
   refine⟨⟨by show 0<=t.pc+1;omega,by show t.pc+1<=_;omega,q, ?_⟩,b⟩
   show∀k,k<(jQ t.buf m ⟨x.var,yF t.regs c.domain d x.a⟩).length->qF c m (jQ t.buf m ⟨x.var,yF t.regs c.domain d x.a⟩) k=true
   unfold jQ;rw [if_pos hp];exact zyE p hp j.1 j.2 I
  |false=>rw [pO e2 hmo hp] at h;cases h
 by_cases e3:x.op=3
 ·obtain⟨-,C, -⟩:=zcV (z (by omega) (by omega));rw [zci e3] at h;cases h;exact⟨i _ _ (o _ (C (by rw [e3];rfl))),b⟩
 by_cases e4:x.op=4
 ·rw [bM e4] at h;split at h<;>cases h;exact⟨f,b⟩
 by_cases e5:x.op=5
 ·rw [uX e5] at h;split at h<;>cases h;exact⟨f,b⟩
 by_cases e6:x.op=6
 ·obtain⟨-, -,M⟩:=zcV (z (by omega) (by omega));have K:=o _ (M (by rw [e6];rfl))
  by_cases hv2:s.mem.getD x.var.toNat 0=yF t.regs c.domain d x.a
  ·rw [zaq e6 hv2] at h;split at h<;>cases h;exact⟨i _ _ J,zgG b _ K⟩
  rw [zao e6 hv2] at h;split at h<;>cases h;exact⟨i _ _ L,b⟩
 by_cases e7:x.op=7
 ·rw [uY e7] at h;split at h<;>cases h;exact⟨f,zgG b _ J⟩
 by_cases e8:x.op=8
 ·rw [uD e8] at h;split at h<;>cases h;exact⟨f,zgG b _ L⟩
 by_cases e9:x.op=9
 ·rw [wR e9] at h;cases h;exact⟨f,b⟩
 by_cases e12:x.op=12
 ·have u:=G e12;rw [uE e12] at h;cases h
  refine⟨?_,b⟩
  show zek c m row (if _ then _ else _)
  split
  ·exact⟨u.2.1,u.2.2,q,p⟩
  exact f
 by_cases e13:x.op=13
 ·have u:=F e13;rw [zbu e13] at h;cases h;exact⟨⟨u.1,u.2,q,p⟩,b⟩
 rw [zbU e1 e2 e3 e4 e5 e6 e7 e8 e9 e12 e13] at h;cases h;exact⟨f,b⟩
theorem zoi {c:zG} {m:zC} {s:zo} (h:yJ c m s=true) {i:Nat} {t:zD} {mem:List Int} {bad:Bool} (D:i<s.threads.length) (p:zek c m (c.threads.getD i []) t) (q:mem.length=s.mem.length) (b:∀k,k<mem.length->xJ c.domain (mem.getD k 0)=true):yJ c m ⟨s.threads.set i t,mem,bad⟩=true:=by
 obtain⟨C,A,z, -,y⟩:=zdz.1 h;refine zdz.2 ⟨C,by simpa using A,by show(mem.length:Int)=_;rw [q];exact z,b,λj u=> ?_⟩;have f:j<s.threads.length:=by simpa using u
 show zek c m _ ((s.threads.set i t).getD j default)
 by_cases e:j=i
 ·subst e;have o:(s.threads.set j t).getD j default=t:=by rw [List.getD_eq_getElem?_getD,List.getElem?_set_self f];rfl
  rw [o];exact p
 have o:(s.threads.set i t).getD j default=s.threads.getD j default:=by rw [List.getD_eq_getElem?_getD,List.getElem?_set_ne (Ne.symm e), <-List.getD_eq_getElem?_getD]
 rw [o];exact y j f
theorem zv6 {c:zG} (h:codeOk c=true) {i k:Nat} (p:i<c.threads.length) (o:k<(c.threads.getD i []).length):qH c.vars c.domain (c.threads.getD i []).length ((c.threads.getD i []).getD k default)=true:=by
 unfold codeOk at h;simp only [Bool.and_eq_true] at h;have j:=h.2;rw [List.all_eq_true] at j;have b:=j _ (jF (x:= []) p);unfold rowOk at b;simp only [Bool.and_eq_true] at b;have f:=b.2;rw [List.all_eq_true] at f;exact f _ (jF o)
theorem zpK {c:zG} {m:zC} {s:zo} {d:Nat} {x:zw} (h:x∈xL c m s d):yJ c m (jR c m s x d).1=true:=by
 obtain⟨y, -⟩:=zgC h;obtain⟨F,K,N,E,M⟩:=zdz.1 y;obtain⟨f, -⟩:=zdU F;obtain⟨i,u,hx⟩:=zyC h;have b:=M i u;rcases hx with⟨rfl,t,q,A⟩|⟨v,rfl,H,A⟩
 ·rw [A];unfold kQ at q;split at q
  ·rename_i hpc
   obtain⟨r,D,rfl⟩:=Option.map_eq_some_iff.1 q;have L:(s.threads.getD i default).pc.toNat<(c.threads.getD i []).length:=by have:=b.1;omega
   obtain⟨S,O⟩:=zsn F b hpc (zv6 f (by omega) L) N E D;exact zoi y u S (zv5 D) O
  cases q
 rw [A];obtain⟨U,T,n,J⟩:=zcO y u H;obtain⟨-,G⟩:=zoh (s.threads.getD i default).buf v _ (Nat.le_refl _);have o:(takeB (s.threads.getD i default).buf v).1=some ⟨v,n⟩:=by rw [J]
 obtain⟨p,I,z,j⟩:=G _ o;rw [List.take_length] at j;have C:=zbC (b.2.2.2 p I);rw [z] at C;unfold pR;rw [o];refine zoi y u ⟨b.1,b.2.1,b.2.2.1, ?_⟩ (by simp) (zgG E _ C.2.2.2)
 show∀k,k<(takeB (s.threads.getD i default).buf v).2.length->qF c m (takeB (s.threads.getD i default).buf v).2 k=true
 rw [show(takeB (s.threads.getD i default).buf v).2=(s.threads.getD i default).buf.eraseIdx p from j];exact zsm b.2.2.2 p
theorem zjO {c:zG} {m:zC} (h:jU c m=true):yJ c m (vM c)=true:=by
 obtain⟨j,p⟩:=zdU h;have q:=xY j;unfold vM;rw [if_pos j];refine zdz.2 ⟨h,by simp,by simp;omega,λk b=> ?_,λi f=> ?_⟩
 ·rw [ku];simp only [List.length_replicate] at b;simp [List.getD_eq_getElem?_getD,b];omega
 simp only [List.length_replicate] at f;have o:(List.replicate c.threads.length (default:zD)).getD i default=default:=by simp [List.getD_eq_getElem?_getD,f]
 show zek c m _ ((List.replicate c.threads.length (default:zD)).getD i default)
 rw [o];refine⟨Int.le_refl _,by show(0:Int)<=_;omega,λk b=> ?_,λk b=>by simp [default] at b⟩
 rw [ku];rcases(by omega:k=0\/k=1\/k=2\/k=3) with rfl|rfl|rfl|rfl<;>(constructor<;>(show _;simp [default];try omega))
def jP:zw:=⟨0,0,0⟩
def nextR (c:zG) (m:zC) (d:Nat) (s:zo) (x:zw):Option zo:=
 if x=jP/\xL c m s d= [] then some s else if (jR c m s x d).2=0 then some (jR c m s x d).1 else none
def zb3 (c:zG) (m:zC) (d:Nat):List zo->zo->List zw->Option (List zo × zo)
 |out,s, [] =>some (out,s)
 |out,s,x::l=>match nextR c m d s x with
  |some t=>zb3 c m d (out++ [s]) t l
  |none=>none
def pW (back:Int) (r:Option (List zo × zo)):List zo × Int:=
 match r with
 |some r=>if r.2=r.1.getD back.toNat default then(r.1,0) else([],50)
 |none=>([],50)
def zjP (c:zG) (m:zC) (l:List zw) (back:Int):Bool:=jU c m && decide (1<=l.length) && decide (l.length<=100000) && decide (0<=back) && decide (back<l.length)
def yM (c:zG) (m:zC) (l:List zw) (back:Int) (d:Nat):List zo × Int:=
 if zjP c m l back then pW back (zb3 c m d [] (vM c) l) else([],1)
theorem ziy {c:zG} {m:zC} {d:Nat} {out:List zo} {s:zo} {l:List zw} {i:Nat} (b:i<l.length):
  zb3 c m d out s (l.drop i)=match nextR c m d s (l.getD i default) with|some t=>zb3 c m d (out++ [s]) t (l.drop (i+1))|none=>none:=by
 rw [List.drop_eq_getElem_cons b,List.getD_eq_getElem?_getD,List.getElem?_eq_getElem b];rfl
theorem zpJ {c:zG} {m:zC} {s:zo} {d:Nat} :(jR c m s jP d).2≠0:=by
 unfold jR;split
 ·split
  ·rw [if_neg (by rintro⟨h, -⟩;exact absurd (show(0:Int)=1 from h) (by decide)),if_neg (by rintro⟨h, -⟩;exact absurd (show(0:Int)=2 from h) (by decide))];decide
  decide
 decide
theorem zvc {c:zG} {m:zC} {s:zo} {d:Nat} {x:zw} (h:(jR c m s x d).2=0):x∈xL c m s d:=by
 unfold jR at h;split at h
 ·rename_i hf
  unfold xL;rw [if_pos hf,List.mem_flatMap];split at h
  ·rename_i ht
   have b:(x.thread.toNat:Int)=x.thread:=Int.toNat_of_nonneg ht.1;refine⟨x.thread.toNat,List.mem_range.2 (by omega), ?_⟩
   unfold wE;rw [List.mem_append];split at h
   ·rename_i hk
    cases hst:kQ c m s x.thread.toNat d with
    |some t=>
     refine .inl ?_
     rw [if_pos (by rfl),List.mem_singleton];obtain⟨k,t,v⟩:=x;simp only [] at hk b;rw [zw.mk.injEq];exact⟨hk.1,b.symm,hk.2⟩
    |none=>rw [hst] at h;exact absurd (show(50:Int)=0 from h) (by decide)
   split at h
   ·rename_i hk
    refine .inr (List.mem_map.2 ⟨x.var,hk.2, ?_⟩)
    obtain⟨k,t,v⟩:=x;simp only [] at hk b;rw [zw.mk.injEq];exact⟨hk.1.symm,b,rfl⟩
   exact absurd (show(50:Int)=0 from h) (by decide)
  exact absurd (show(50:Int)=0 from h) (by decide)
 exact absurd (show(1:Int)=0 from h) (by decide)
theorem zv7 {c:zG} {m:zC} {d:Nat} {s t:zo} {x:zw} (b:yJ c m s=true) (h:nextR c m d s x=some t):yJ c m t=true:=by
 unfold nextR at h;split at h
 ·cases h;exact b
 split at h
 ·rename_i h0
  cases h;exact zpK (zvc h0)
 cases h
theorem zvb {c:zG} {m:zC} {d:Nat} {s:zo} {x:zw} (f:x=jP) (b:xL c m s d= []):nextR c m d s x=some s:=by unfold nextR;rw [if_pos ⟨f,b⟩]
theorem z1p {c:zG} {m:zC} {d:Nat} {s:zo} {x:zw} (h:¬(x=jP/\xL c m s d= [])) (b:(jR c m s x d).2=0):nextR c m d s x=some (jR c m s x d).1:=by unfold nextR;rw [if_neg h,if_pos b]
theorem z1q {c:zG} {m:zC} {d:Nat} {s:zo} {x:zw} (h:¬(x=jP/\xL c m s d= [])) (b:(jR c m s x d).2≠0):nextR c m d s x=none:=by unfold nextR;rw [if_neg h,if_neg b]
theorem zyF {c:zG} {m:zC} {d:Nat} :∀(l:List zw) (out:List zo) (s:zo) (r:List zo × zo),zb3 c m d out s l=some r->r.1.length=out.length+l.length:=by
 intro l;induction l with
 |nil=>intro out s r h;cases h;simp
 |cons x l ih=>
 intro out s r h;unfold zb3 at h;split at h
 ·rw [ih _ _ _ h];simp;omega
 cases h
theorem zv8 {c:zG} {m:zC} {d:Nat} :∀(l:List zw) (out:List zo) (s:zo) (r:List zo × zo),(∀t∈out,yJ c m t=true)->yJ c m s=true->zb3 c m d out s l=some r->(∀t∈r.1,yJ c m t=true)/\yJ c m r.2=true:=by
 intro l;induction l with
 |nil=>intro out s r h i f;cases f;exact⟨h,i⟩
 |cons x l ih=>
 intro out s r h i f;unfold zb3 at f;split at f
 ·rename_i t b
  refine ih _ _ _ (λt b=> ?_) (zv7 i b) f
  rcases List.mem_append.1 b with b|b
  ·exact h t b
  rw [List.mem_singleton] at b;rw [b];exact i
 cases f
theorem zyG {c:zG} {m:zC} {d:Nat} :∀(l:List zw) (out:List zo) (s:zo) (r:List zo × zo),zb3 c m d out s l=some r->(∀i,i<out.length->r.1.getD i default=out.getD i default)/\(l≠ [] ->r.1.getD out.length default=s)/\∀i,i<l.length->(nextR c m d (r.1.getD (out.length+i) default) (l.getD i default)).isSome=true:=by
 intro l;induction l with
 |nil=>intro out s r h;cases h;exact⟨λi _=>rfl,λh=>absurd rfl h,λi b=>by simp at b⟩
 |cons x l ih=>
 intro out s r h;unfold zb3 at h;split at h
 ·rename_i t ht
  obtain⟨f,k,j⟩:=ih _ _ _ h;have e:r.1.getD out.length default=s:=by rw [f out.length (by simp)];simp
  refine⟨λi b=> ?_,λ_=>e,λi b=> ?_⟩
  ·rw [f i (by simp;omega)]
   simp [List.getD_eq_getElem?_getD,List.getElem?_append_left b]
  cases i with
  |zero=>rw [Nat.add_zero,e];simp [ht]
  |succ i=>
  have:=j i (by simp at b;omega)
  rw [List.length_append,List.length_singleton] at this;rw [show out.length+(i+1)=out.length+1+i by omega];simpa using this
 cases h
theorem zbj {c:zG} {m:zC} {l:List zw} {back:Int} {d:Nat} (h:(yM c m l back d).2=0):zjP c m l back=true/\∃r,zb3 c m d [] (vM c) l=some r/\(yM c m l back d).1=r.1/\r.2=r.1.getD back.toNat default:=by
 unfold yM at h ⊢;split at h
 ·rename_i ho
  refine⟨ho, ?_⟩
  rw [if_pos ho];cases hr:zb3 c m d [] (vM c) l with
  |none=>rw [hr] at h;exact absurd (show(50:Int)=0 from h) (by decide)
  |some r=>
  rw [hr] at h;refine⟨r,rfl, ?_⟩
  unfold pW at h ⊢;simp only [] at h ⊢;split at h
  ·rename_i he;rw [if_pos he];exact⟨rfl,he⟩
  exact absurd (show(50:Int)=0 from h) (by decide)
 exact absurd (show(1:Int)=0 from h) (by decide)
theorem bQ {c:zG} {m:zC} {l:List zw} {back:Int} (h:zjP c m l back=true):jU c m=true/\1<=l.length/\l.length<=100000/\0<=back/\back<l.length:=by
 unfold zjP at h;simp only [Bool.and_eq_true,decide_eq_true_eq] at h;exact⟨h.1.1.1.1,h.1.1.1.2,h.1.1.2,h.1.2,h.2⟩
theorem zfl {c:zG} {m:zC} {l:List zw} {back:Int} {d:Nat} (h:(yM c m l back d).2=0):(yM c m l back d).1.length=l.length:=by
 obtain⟨-,r,b,f, -⟩:=zbj h;rw [f,zyF _ _ _ _ b];simp
theorem zo0 {c:zG} {m:zC} {l:List zw} {back:Int} {d:Nat} (h:(yM c m l back d).2=0):∀t∈(yM c m l back d).1,yJ c m t=true:=by
 obtain⟨f,r,b,i, -⟩:=zbj h;rw [i];exact(zv8 _ _ _ _ (by simp) (zjO (bQ f).1) b).1
def wY (m:zC) (x:zw):zw:=if x.kind=2/\m.model=1 then⟨2,x.thread,0⟩ else x
def zcd (c:zG) (m:zC) (d:Nat) (s:zo):List zw:=(xL c m s d).map (wY m)
def zae (c:zG) (m:zC) (d:Nat) (l:List zo) (moves:List zw) (p:zw) (n:Nat):Bool:=
 (List.range n).all λi=>decide (p∈zcd c m d (l.getD i default)) && decide (wY m (moves.getD i default)≠p)
def zaw (c:zG) (m:zC) (d:Nat) (l:List zo) (moves:List zw):Bool:=
 (zcd c m d (l.getD 0 default)).all λp=> !zae c m d l moves p l.length
theorem znF {c:zG} {m:zC} {d:Nat} {l:List zo} {moves:List zw} {p:zw} {n:Nat} :zae c m d l moves p (n+1)=(zae c m d l moves p n && (decide (p∈zcd c m d (l.getD n default)) && decide (wY m (moves.getD n default)≠p))):=by
 unfold zae;rw [List.range_succ,List.all_append];simp
theorem zuR {c:zG} {m:zC} {d:Nat} {l:List zo} {moves:List zw} (W:List zw) (h:∀p,p∈W↔p∈zcd c m d (l.getD 0 default)/\zae c m d l moves p l.length=true):zaw c m d l moves=decide (W.length=0):=by
 unfold zaw;rw [Bool.eq_iff_iff,List.all_eq_true,decide_eq_true_eq];constructor
 ·intro j;cases W with
  |nil=>rfl
  |cons p W=>
  have f:=(h p).1 (by simp);have b:=j p f.1;rw [f.2] at b;cases b
 intro k p i;have:W= [] :=List.length_eq_zero_iff.1 k
 subst this;cases e:zae c m d l moves p l.length
 ·rfl
 exact absurd ((h p).2 ⟨i,e⟩) (by simp)
theorem zrn {c:zG} {m:zC} {d:Nat} {l:List zo} {moves:List zw} (h:xL c m (l.getD 0 default) d= []):zaw c m d l moves=true:=by
 unfold zaw zcd;rw [h];rfl
theorem zul {c:zG} {m:zC} {d:Nat} {l:List zw} {back:Int} (h:(yM c m l back d).2=0) (f:l.getD back.toNat default=jP):xL c m ((yM c m l back d).1.getD back.toNat default) d= [] :=by
 obtain⟨j,r,i,k, -⟩:=zbj h;obtain⟨-, -, -,p,o⟩:=bQ j;have b:=(zyG _ _ _ _ i).2.2 back.toNat (by omega);rw [List.length_nil,Nat.zero_add,f, <-k] at b;unfold nextR at b;split at b
 ·rename_i h4;exact h4.2
 rw [if_neg zpJ] at b;cases b
def isS (c:zG) (p:zF) (s:zo):Bool:=
 if p.kind=1 then decide (0<=p.place) && decide (p.place<s.mem.length) && decide (s.mem.getD p.place.toNat 0=p.num)
 else if p.kind=5 then s.bad
 else if p.thread<0\/(s.threads.length:Int)<=p.thread\/(c.threads.length:Int)<=p.thread then false
 else if p.kind=2 then decide (0<=p.place) && decide (p.place<4) && decide ((s.threads.getD p.thread.toNat default).regs.getD p.place.toNat 0=p.num)
 else if p.kind=3 then decide ((s.threads.getD p.thread.toNat default).pc=p.num)
 else if p.kind=4 then decide ((s.threads.getD p.thread.toNat default).buf.length=0)
 else if p.kind=6 then decide ((s.threads.getD p.thread.toNat default).pc=((c.threads.getD p.thread.toNat []).length:Int)) && decide ((s.threads.getD p.thread.toNat default).buf.length=0)
 else false
def jZ (c:zG) (f:Form) (s:zo):List Bool:=f.props.map λp=>isS c p s
def uw (c:zG) (m:zC) (d:Nat) (f:Form) (all:Bool) (l:List zw) (back:Int):Bool:=
 decide ((yM c m l back d).2=0) && f.fits && (!all||zaw c m d ((yM c m l back d).1.drop back.toNat) (l.drop back.toNat)) &&
  !(f.sem f.props ((yM c m l back d).1.map (jZ c f)) back.toNat 0)
theorem zsh {c:zG} {m:zC} {d:Nat} {f:Form} {l:List zw} {back:Int} (h:(yM c m l back d).2=0) (i:f.fits=true):qK f ((yM c m l back d).1.map (jZ c f)) back=true:=by
 obtain⟨-,p,o,k,j⟩:=bQ (zbj h).1;have b:=zfl h;unfold qK zaf;simp only [Bool.and_eq_true,decide_eq_true_eq,List.length_map,b,List.all_eq_true];refine⟨⟨⟨⟨⟨i,p⟩,o⟩,k⟩,j⟩,λx hx=> ?_⟩
 obtain⟨s, -,rfl⟩:=List.mem_map.1 hx;simp [jZ]
theorem zsi {f:Form} {ls:List (List Bool)} {bk:Nat} (h:1<=ls.length):(f.truth f.props ls bk).getD 0 false=f.sem f.props ls bk 0/\1<=(f.truth f.props ls bk).length:=by
 unfold Form.truth;obtain⟨n,b⟩:∃n,ls.length=n+1:=⟨ls.length - 1,by omega⟩;rw [b,List.range_succ_eq_map];simp
theorem zo6 {c:zG} {m:zC} {d:Nat} {f:Form} {l:List zw} {back:Int} (h:(yM c m l back d).2=0) (o:f.okD 6=true) (y:f.size<=41):
  uw c m d f false l back≠uw c m d (.mk 4 ⟨0,0,0,0⟩ [f]) false l back:=by
 have u:f.fits=true:=zpH o (by omega) (by omega);have q:(Form.mk 4 ⟨0,0,0,0⟩ [f]).fits=true:=zpH (z1m rfl o) (by omega) (by rw [zyl];omega)
 have j:(Form.mk 4 ⟨0,0,0,0⟩ [f]).props=f.props:=zuV _ _ (by decide);unfold uw;have p:jZ c (Form.mk 4 ⟨0,0,0,0⟩ [f])=jZ c f:=by unfold jZ;rw [j]
 rw [p,j,z1n,u,q,decide_eq_true h];have:∀t a b n k,yH 4 t a b n k=λi=> !a i:=λ_ _ _ _ _=>rfl
 rw [this];simp
mutual
def Form.still:Form->Bool
 | .mk k _ kids=>decide (k<8) && zv9 kids
def zv9:List Form->Bool
 | [] =>true
 |f::l=>f.still && zv9 l
end
mutual
def Form.now (l:List zF) (b:List Bool):Form->Bool
 | .mk k p kids=>yH k (λ_=>b.getD (l.idxOf p) false) (λ_=>(zyH l b kids).getD 0 false) (λ_=>(zyH l b kids).getD 1 false) 1 0 0
def zyH (l:List zF) (b:List Bool):List Form->List Bool
 | [] => []
 |f::fs=>f.now l b::zyH l b fs
end
theorem move_size:(Tryz.prog.info? 46).map (·.size)=some 3:=by kernel_rfl
theorem zlp (w:World) (m:zC) (x:zw):Calls Tryz.prog 67 #[yE m,vF x] w λe w'=>e= .returned (vF (wY m x))/\Below w.heap.size w w':=by
 obtain⟨k,t,v⟩:=x;obtain⟨A,G⟩:=m;unfold yE vF;simp only [];obtain⟨W,S⟩:=qxE (((w.alloc (.cells #[I4 A,I4 G] 30)).alloc (.cells #[I4 k,I4 t,I4 v] 46)).alloc (.cells #[I4 0,I4 0,I4 0] 46));obtain⟨T,K,E,U⟩:=jX w (.cells #[I4 A,I4 G] 30) (.cells #[I4 k,I4 t,I4 v] 46) (.cells #[I4 0,I4 0,I4 0] 46);rw [<-S] at T K E U;obtain⟨y,N⟩:=qxE (wY ⟨A,G⟩ ⟨k,t,v⟩);rw [<-N];have HW:=qh S;have H:=qh T;have H1:=qh K;have I:=qh E;have j:=qh U;have a:=qh N;clear S T K E U N;go_enter Tryz.func67,Tryz.ntmps67
 go_upto_region 1 with fail
 rw [<-HW.o];clear HW;obtain⟨g,O⟩:=qxE w.heap.size;rw [<-O] at H1 I j ⊢;have M:=qh O;clear O;have hg2:g+1+1=g+2:=rfl;have c0:=ze H1.o 0;have d0:=ze I.o 0;have d1:=ze I.o 1;have d2:=ze I.o 2;have x0:=ze j.o 0;have x1:=ze j.o 1;have x2:=ze j.o 2;have f0:=zH j.o 0;have f1:=zH j.o 1;have f2:=zH j.o 2;by_cases z:k=2
 rotate_left
 ·have zk:(k==2)=false:=by simp [z]
  have e:wY ⟨A,G⟩ ⟨k,t,v⟩=⟨k,t,v⟩:=by unfold wY;rw [if_neg (λh=>z h.1)]
  have u:=xR (g:=g+2) [I4 k,I4 t,I4 v] W 0;have b:=qU (cs:= [I4 0,I4 0,I4 0]) [I4 k,I4 t,I4 v] rfl j.o;have f:=H.o.trans (u.below H.o.size (λk z=>by have:=M.o;omega))
  have J:=qh b;have L:=qh f;clear u b f;go_wp2_with fail
  refine bodyPost_ret (xu rfl _ _ (g+2) 46 _ (0,0) _ rfl J.o Tryz.underlying46 rfl move_size) rfl ?_
  exact⟨by rw [a.o,e],L.o⟩
 by_cases hm:A=1
 rotate_left
 ·have zm:(A==1)=false:=by simp [hm]
  subst z;have e:wY ⟨A,G⟩ ⟨2,t,v⟩=⟨2,t,v⟩:=by unfold wY;rw [if_neg (λh=>hm h.2)]
  have u:=xR (g:=g+2) [I4 2,I4 t,I4 v] W 0;have b:=qU (cs:= [I4 0,I4 0,I4 0]) [I4 2,I4 t,I4 v] rfl j.o;have f:=H.o.trans (u.below H.o.size (λk z=>by have:=M.o;omega))
  have J:=qh b;have L:=qh f;clear u b f;go_wp2_with fail
  refine bodyPost_ret (xu rfl _ _ (g+2) 46 _ (0,0) _ rfl J.o Tryz.underlying46 rfl move_size) rfl ?_
  exact⟨by rw [a.o,e],L.o⟩
 subst z hm;have e:wY ⟨1,G⟩ ⟨2,t,v⟩=⟨2,t,0⟩:=rfl;have g2:=zH I.o 2;have C:Since (λk=>k=g+1) W (W.setCell ⟨g+1,2,none⟩ (I4 0)):=Since.setCell (F:=λk=>k=g+1) (p:=⟨g+1,2,none⟩) (Since.refl _ _) (.inl rfl) _;have E:(W.setCell ⟨g+1,2,none⟩ (I4 0)).heap[g+1]? =some (.cells #[I4 2,I4 t,I4 0] 46 (0,0)):=by have:=zu I.o 2 (I4 0);simpa using this
 have i:=qh ((C.block _ (zA j.o) (by omega)).trans j.o);have D:=qh (H.o.trans (C.below H.o.size (λk z=>by have:=M.o;omega)))
 have q:=qh E;clear C E;go_upto_region 3 with fail
 clear c0 d0 d1 d2 x0 x1 x2 f0 f1 f2 g2;generalize World.setCell W _ _=X at q i D ⊢;have d0:=ze q.o 0;have d1:=ze q.o 1;have d2:=ze q.o 2;have x0:=ze i.o 0;have x1:=ze i.o 1;have x2:=ze i.o 2;have f0:=zH i.o 0;have f1:=zH i.o 1;have f2:=zH i.o 2;have u:=xR (g:=g+2) [I4 2,I4 t,I4 0] X 0;have b:=qU (cs:= [I4 0,I4 0,I4 0]) [I4 2,I4 t,I4 0] rfl i.o;have f:=D.o.trans (u.below D.o.size (λk z=>by have:=M.o;omega))
 have J:=qh b;have L:=qh f;clear u b f;go_wp2_with fail
 refine bodyPost_ret (xu rfl _ _ (g+2) 46 _ (0,0) _ rfl J.o Tryz.underlying46 rfl move_size) rfl ?_
 exact⟨by rw [a.o,e],L.o⟩
