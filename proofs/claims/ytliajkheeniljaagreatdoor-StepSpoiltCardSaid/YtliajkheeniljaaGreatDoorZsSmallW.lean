/- Code by numbers: the walks. Code by numbers, of few statements: the walk. Code by numbers, of few statements: the walk. A machine by a number. What is so of all states that are come to: plain Lean. States that lie elsewhere than in a box of nothing. The numbers that came in: as many as there is room for. A move that may be keeps what fits: plain Lean. -/
import Derived.Test.YtliajkheeniljaaGreatDoorZsCompile
import Derived.Test.YtliajkheeniljaaGreatDoorZsData
import Derived.Test.YtliajkheeniljaaGreatDoorZsExpQ
import Derived.Test.YtliajkheeniljaaGreatDoorZsMade2
import Derived.Test.YtliajkheeniljaaGreatDoorZsShort
set_option linter.all false
namespace Go.Proofs.YtliajkheeniljaaGreatDoor
open Go.RowKit
set_option maxRecDepth 100000
set_option maxHeartbeats 16000000
theorem zfC {α:Type} [Inhabited α] {R:World->α->List Value->Prop} {size g:Nat} {X Z:World} {v:Value} {l:List α} (hsz:4<=size) (hs:Since (fun k=>k=g) X Z) (ht:∀j,3<=j->X.cell? ⟨g,j,none⟩=none) (hR:∀x cs,R X x cs->R Z x cs) (h:zk R size X v l):zk R size Z v l:=by
 obtain⟨a,cap,h1,h2,h4⟩:=h
 refine⟨a,cap,h1,h2,fun j hj=> ?_⟩
 obtain⟨b,off,cs,h5,h6,h7,h8,h9⟩:=h4 j hj
 have hne:b≠g:=fun e=>by
  subst e
  have h:=h8 (size - 1) (by omega)
  rw [ht _ (by omega),List.getElem?_eq_getElem (by omega)] at h
  cases h
 exact⟨b,off,cs,h5,Nat.lt_of_lt_of_le h6 hs.size,h7,fun i hi=>(hs.cell (p:=⟨b,off+j*size+i,none⟩) h6 hne).trans (h8 i hi),hR _ _ h9⟩
theorem zhs {d g:Nat} {X Z:World} (hs:Since (fun k=>k=g) X Z) (ht:∀j,3<=j->X.cell? ⟨g,j,none⟩=none) {x:zJ} {kv:Value} (h:zC d X x kv):zC d Z x kv:=by
 induction d generalizing x kv with
 |zero=>exact h.elim
 |succ d ih=>exact zfC (by omega) hs ht (fun y cs ⟨kv',e,h'⟩=>⟨kv',e,ih h'⟩) h
theorem zri {d g:Nat} {X Z:World} (hs:Since (fun k=>k=g) X Z) (ht:∀j,3<=j->X.cell? ⟨g,j,none⟩=none) {l:List zW} {cs:List Value} (h:xC d X l cs):xC d Z l cs:=by
 obtain⟨v,rfl,h⟩:=h
 exact⟨v,rfl,zfC (by omega) hs ht (fun y cs ⟨ka,kb,e,h1,h2⟩=>⟨ka,kb,e,zhs hs ht h1,zhs hs ht h2⟩) h⟩
theorem zvf {X:World} {g:Nat} {a b c:Value} {t:TypeId} {f:Nat × Nat} (h:X.heap[g]? =some (.cells #[a,b,c] t f)):∀j,3<=j->X.cell? ⟨g,j,none⟩=none:=fun j hj=>by
 rw [zi h];exact Array.getElem?_eq_none (by simpa using hj)
theorem zos {F:Nat->Prop} {X Z:World} {g d:Nat} {a b c:Value} {t:TypeId} {f:Nat × Nat} {l:List zW} {cs:List Value} (h:yM F X (fun y=>xC d y l cs)) (hg:X.heap[g]? =some (.cells #[a,b,c] t f)) (hF:¬F g) (hs:Since (fun k=>k=g) X Z):yM F Z (fun y=>xC d y l cs):=fun y hy=>by
 have hgl:=zw hg
 have hz:=hs.size
 have hyz:=hy.size
 have hy0:({y with heap:=y.heap.setIfInBounds g (.cells #[a,b,c] t f)} :World).heap[g]? =some (.cells #[a,b,c] t f):=by
  simp [Array.getElem?_setIfInBounds_self_of_lt (show g<y.heap.size by omega)]
 have hk:∀k,k≠g->({y with heap:=y.heap.setIfInBounds g (.cells #[a,b,c] t f)} :World).heap[k]? =y.heap[k]? :=fun k hne=>by
  simp [Array.getElem?_setIfInBounds_ne (Ne.symm hne)]
 have h0:Since F X ({y with heap:=y.heap.setIfInBounds g (.cells #[a,b,c] t f)} :World):=
  ⟨hy.os.trans hs.os,hy.tape.trans hs.tape,hy.output.trans hs.output,by simp;omega,fun k hkl hkF=>by
   by_cases e:k=g
   ·subst e;rw [hy0];exact hg.symm
   ·rw [hk k e,hy.block k (by omega) hkF,hs.block k hkl e]⟩
 have h1:Since (fun k=>k=g) ({y with heap:=y.heap.setIfInBounds g (.cells #[a,b,c] t f)} :World) y:=⟨rfl,rfl,rfl,by simp,fun k _ hne=>(hk k hne).symm⟩
 exact zri h1 (zvf hy0) (h _ h0)
def zkI (w:World) (en:Ending) (w':World):Prop:=(∃c ta tc css,en= .returned (yL c (.slice ta c.threads.length tc))/\codeOk c=true/\xR (fun k=>(Value.slice ta c.threads.length tc).ownBlock=some k) w' (xC 3) 1 w.heap.size 59 (.slice ta c.threads.length tc) c.threads css)/\Below w.heap.size w w'
theorem zrj:∀k∈zd8,1<=k/\k<=11:=by decide
theorem zot (w:World) (sv:Value) (l:List Int) (hn:jg w .u8 sv l) (kv:Value) (ks:List Int) (hks:xJ w kv ks) (hk1:1<=ks.length) (hk2:ks.length<=100) (hk3:∀k∈ks,1<=k/\k<=11):
  Calls Tryz.prog 20 #[sv,kv] w (zkI w):=by
 have hb1:=(Below.refl w.heap.size w).alloc (Nat.le_refl _) (.cells #[.int .i64 0, .int .i64 0, .slice none 0 0] 24)
 have hg1:=yD w (.cells #[.int .i64 0, .int .i64 0, .slice none 0 0] 24)
 have zc5:=zou _ sv l (hn.below hb1) kv ks (zk.below wV.stays hks hb1) hk1 hk2 hk3
 obtain⟨sa,sc,rfl, -⟩:∃a c,sv= .slice a l.length c/\True:=by obtain⟨a,c,h, -⟩:=hn;exact⟨a,c,h,trivial⟩
 obtain⟨ka,kc,rfl, -⟩:=zk.slice hks
 generalize l.length=ln at zc5 ⊢
 generalize ks.length=kn at zc5 ⊢
 have HB1:=qh hb1
 have xL:=qh hg1
 have zc6:=qh zc5
 clear hb1 hg1 zc5 hn hks hk1 hk2 hk3
 go_enter Tryz.func20,Tryz.ntmps20
 go_upto_region 1 with fail
 generalize World.alloc w _=W at HB1 xL zc6 ⊢
 obtain⟨gr,hgr⟩:∃gr,gr=w.heap.size:=⟨_,rfl⟩
 rw [<-hgr] at xL ⊢
 have wK:=qh hgr
 clear hgr
 go_upto_region 2 with(first|(go_at_call 47;go_must(refine(zlH.out).mono ?_);rintro en W3 ⟨⟨ta,tc,css,rfl,hrow⟩,hb⟩;(have vO:=qh hrow);(have HB3:=qh (zF HB2.out hb));(have jk:=qh ((hb.block _ (zw HG2.out)).trans HG2.out));(have HW3:=qh hb.size);clear hrow hb;unfold yL)|(go_at_call 48;go_must(refine(zc6.out).mono ?_);rintro en W2 ⟨⟨p,vv,tv,rfl,hp,hpa⟩,hb⟩;(have zlH:=qh (zkj 3 4 W2 p hp vv tv hpa));(have vC:=qh (zlI hp));(have HB2:=qh (HB1.out.trans (hb.mono HB1.out.size)));(have HG2:=qh ((hb.block _ (zw xL.out)).trans xL.out));clear hb hp hpa;generalize zbg p=c at zlH vC;unfold zed at zlH ⊢))
 generalize hcv:c.vars=vars
 generalize hcd:c.domain=dom
 generalize hcl:c.threads.length=cn
 have HCV:=qh hcv
 have HCD:=qh hcd
 have HCL:=qh hcl
 clear hcv hcd hcl
 have hb4:=HB3.out.alloc HB3.out.size (.cells #[.int .i64 vars, .int .i64 dom, .slice ta cn tc] 24)
 have hg4:=(Below.heap_alloc W3 (.cells #[.int .i64 vars, .int .i64 dom, .slice ta cn tc] 24) _ (zw jk.out)).trans jk.out
 have wS:=yD W3 (.cells #[.int .i64 vars, .int .i64 dom, .slice ta cn tc] 24)
 have hs4:=(Since.refl (fun _=>False) W3).alloc (.cells #[.int .i64 vars, .int .i64 dom, .slice ta cn tc] 24)
 generalize World.alloc W3 _=X at hb4 hg4 wS hs4 ⊢
 generalize W3.heap.size=gc at wS ⊢
 have s:=yP (g:=gr) [.int .i64 vars, .int .i64 dom, .slice ta cn tc] X 0
 have hset:(zU X gr 0 [.int .i64 vars, .int .i64 dom, .slice ta cn tc]).heap[gr]? =_:=xG (cs:= [.int .i64 0, .int .i64 0, .slice none 0 0]) _ rfl hg4
 have hend:zkI w (.returned (.agg #[.int .i64 vars, .int .i64 dom, .slice ta cn tc])) (zU X gr 0 [.int .i64 vars, .int .i64 dom, .slice ta cn tc]):=by
  have h1:=vO.out
  rw [HCL.out] at h1
  have hlt:=HW3.out
  have hge:=HB2.out.size
  refine⟨⟨c,ta,tc,css,by unfold yL;rw [HCV.out,HCD.out,HCL.out],vC.out, ?_⟩,(hb4.trans (s.below hb4.size (fun k hk=>by have:=wK.out;omega)))⟩
  rw [HCL.out]
  have h2:xR (fun k=>(Value.slice ta cn tc).ownBlock=some k) W3 (xC 3) 1 w.heap.size 59 (.slice ta cn tc) c.threads css:=⟨h1.len,h1.part,zrk h1.row hge⟩
  have hown:∀k,(Value.slice ta cn tc).ownBlock=some k->k≠gr:=fun k hk e=>by have:=(h1.row.lt k hk).1;have:=zw HG2.out;omega
  have hgr:¬(Value.slice ta cn tc).ownBlock=some gr:=fun e=>hown gr e rfl
  exact⟨h2.len,fun j hj=>⟨(h2.part j hj).1,zos ((h2.part j hj).2.step hs4 (fun _ h=>h.elim) (fun k hk=> .inl hk)) hg4 hgr s⟩,s.row (hs4.row h2.row (fun _ _ h=>h)) hown⟩
 have yj:=qh hend
 have zI:=qh hset
 have c0:=zi wS 0
 have c1:=zi wS 1
 have c2:=zi wS 2
 have z0:=zi hg4 0
 have z1:=zi hg4 1
 have z2:=zi hg4 2
 have f0:=zB hg4 0
 have f1:=zB hg4 1
 have f2:=zB hg4 2
 clear hend hset s hg4 wS hs4 hb4
 go_wp2_with fail
 refine bodyPost_ret (yV rfl _ _ gr 24 _ (0,0) _ rfl zI.out Tryz.underlying24 rfl zfE) rfl ?_
 exact yj.out
end Go.Proofs.YtliajkheeniljaaGreatDoor
namespace Go.Proofs.YtliajkheeniljaaGreatDoor
open Go.RowKit
set_option maxRecDepth 100000
set_option maxHeartbeats 16000000
def zGo (vars:Int):List zW:= [⟨2,0,0, .mk 1 1 0 [],default,0⟩,⟨1,0,vars - 1,default,default,0⟩,⟨9,0,0, .mk 2 0 0 [],default,0⟩]
def zGp (vars:Int):List Value:= [.int .i64 2, .int .i64 0, .int .i64 0, .int .i64 1, .int .i64 1, .int .u8 0, .slice none 0 0, .int .i64 0, .int .i64 0, .int .u8 0, .slice none 0 0, .int .i64 0,
 .int .i64 1, .int .i64 0, .int .i64 (vars - 1), .int .i64 0, .int .i64 0, .int .u8 0, .slice none 0 0, .int .i64 0, .int .i64 0, .int .u8 0, .slice none 0 0, .int .i64 0,
 .int .i64 9, .int .i64 0, .int .i64 0, .int .i64 2, .int .i64 0, .int .u8 0, .slice none 0 0, .int .i64 0, .int .i64 0, .int .u8 0, .slice none 0 0, .int .i64 0]
structure zCN (w X:World) (gc gr g:Nat) (vars dom:Int) (n cap:Nat) (cl:List (List zW)):Prop where
 below:Below w.heap.size w X
 box:X.heap[gc]? =some (.cells #[.int .i64 vars, .int .i64 dom, .slice (some ⟨g,0,none⟩) n cap] 24 (0,0))
 res:X.heap[gr]? =some (.cells #[.int .i64 0, .int .i64 0, .slice none 0 0] 24 (0,0))
 lo:w.heap.size<=gc/\w.heap.size<=gr/\w.heap.size<=g/\gc≠gr/\g≠gc/\g≠gr
 row:∃cur:Array Value,X.heap[g]? =some (.cells cur 59 (0,0))/\n<=cur.size/\∀j,j<n->∃a c,cur[j]? =some (.slice a (cl.getD j []).length c)/\yM (fun k=>k=g) X (fun y=>xC 3 y (cl.getD j []) [.slice a (cl.getD j []).length c])
 len:cl.length=n
 ok:∀j,j<n->rowOk vars dom (cl.getD j [])=true
 room:n<=cap/\cap<=9223372036854775807
section
variable {w X:World} {gc gr g n cap:Nat} {vars dom:Int} {cl:List (List zW)}
end
end Go.Proofs.YtliajkheeniljaaGreatDoor
namespace Go.Proofs.YtliajkheeniljaaGreatDoor
open Go.RowKit
set_option maxRecDepth 100000
set_option maxHeartbeats 16000000
end Go.Proofs.YtliajkheeniljaaGreatDoor
namespace Go.Proofs.YtliajkheeniljaaGreatDoor
open Go.RowKit
set_option maxRecDepth 100000
set_option maxHeartbeats 16000000
def zc7 (n:Int):zK:=⟨n % 3,1+n / 3 % 3⟩
theorem zkk (w:World) (n:Int) (h0:0<=n) (h1:n<=255):Calls Tryz.prog 22 #[.int .u8 n] w fun e w'=>e= .returned (yY (zc7 n))/\Below w.heap.size w w':=by
 unfold yY zc7
 go_enter Tryz.func22,Tryz.ntmps22
 go_wp2
 exact bodyPost_ret (v:= .agg #[.int .i64 (n % 3), .int .i64 (1+n / 3 % 3)]) (by simp [results,Tryz.results22,go_sem]) rfl ⟨rfl,(Below.refl _ _).alloc (Nat.le_refl _) _⟩
end Go.Proofs.YtliajkheeniljaaGreatDoor
namespace Go.Proofs.YtliajkheeniljaaGreatDoor
open Go.RowKit
set_option maxRecDepth 100000
set_option maxHeartbeats 16000000
theorem zov {c:zX} {m:zK} {s:zu} {d:Nat} {x:zM} (h:x∈qO c m s d):xX c m s=true/\∃i,i<s.threads.length/\((x=⟨1,i,0⟩/\∃t,vZ c m s i d=some t)\/∃v,x=⟨2,i,v⟩/\v∈yF (s.threads.getD i default).buf m.model):=by
 unfold qO at h
 split at h
 ·rename_i hf
  refine⟨hf, ?_⟩
  obtain⟨i,hi,hx⟩:=List.mem_flatMap.1 h
  refine⟨i,List.mem_range.1 hi, ?_⟩
  unfold wm at hx
  rcases List.mem_append.1 hx with hx|hx
  ·split at hx
   ·rename_i hs
    rw [List.mem_singleton] at hx
    exact .inl ⟨hx,Option.isSome_iff_exists.1 hs⟩
   ·simp at hx
  ·obtain⟨v,hv,rfl⟩:=List.mem_map.1 hx
   exact .inr ⟨v,rfl,hv⟩
 ·simp at h
theorem ziR {c:zX} {m:zK} {s:zu} {d:Nat} {x:zM} (h:x∈qO c m s d):∃i,i<s.threads.length/\((x=⟨1,i,0⟩/\∃t,vZ c m s i d=some t/\vN c m s x d=(t,0))\/∃v,x=⟨2,i,v⟩/\v∈yF (s.threads.getD i default).buf m.model/\vN c m s x d=(wz s i v,0)):=by
 obtain⟨hf,i,hi,hx⟩:=zov h
 refine⟨i,hi, ?_⟩
 rcases hx with⟨rfl,t,ht⟩|⟨v,rfl,hv⟩
 ·refine .inl ⟨rfl,t,ht, ?_⟩
  unfold vN
  rw [if_pos hf,if_pos ⟨by show(0:Int)<=(i:Int);omega,by show(i:Int)<_;omega⟩,if_pos ⟨rfl,rfl⟩]
  rw [show(⟨1,(i:Int),0⟩:zM).thread.toNat=i from Int.toNat_natCast i,ht]
 ·refine .inr ⟨v,rfl,hv, ?_⟩
  unfold vN
  rw [if_pos hf,if_pos ⟨by show(0:Int)<=(i:Int);omega,by show(i:Int)<_;omega⟩,if_neg (by rintro⟨h, -⟩;exact absurd (show(2:Int)=1 from h) (by decide))]
  rw [show(⟨2,(i:Int),v⟩:zM).thread.toNat=i from Int.toNat_natCast i,if_pos ⟨rfl,hv⟩]
section
variable {c:zX} {m:zK} {d R:Nat} {P:zu->Prop}
end
theorem zow {c:zX} {m:zK} {s:zu} {t:zx} {x:zW} {d:Nat} {r:zx × List Int × Bool} (h:stepT c m s t x d=some r):r.2.1.length=s.mem.length:=by
 by_cases h1:x.op=1
 ·rw [bI h1] at h;cases h;rfl
 by_cases h2:x.op=2
 ·by_cases hm:m.model=0
  ·rw [bJ h2 hm] at h;cases h;simp
  ·cases hp:qL t.buf m ⟨x.var,yw t.regs c.domain d x.a⟩ with
   |true=>rw [bK h2 hm hp] at h;cases h;rfl
   |false=>rw [bL h2 hm hp] at h;cases h
 by_cases h3:x.op=3
 ·rw [zbv h3] at h;cases h;rfl
 by_cases h4:x.op=4
 ·rw [um h4] at h;split at h<;>cases h;rfl
 by_cases h5:x.op=5
 ·rw [gJ h5] at h;split at h<;>cases h;rfl
 by_cases h6:x.op=6
 ·by_cases hv:s.mem.getD x.var.toNat 0=yw t.regs c.domain d x.a
  ·rw [bM h6 hv] at h;split at h<;>cases h;simp
  ·rw [bN h6 hv] at h;split at h<;>cases h;rfl
 by_cases h7:x.op=7
 ·rw [gK h7] at h;split at h<;>cases h;simp
 by_cases h8:x.op=8
 ·rw [wP h8] at h;split at h<;>cases h;simp
 by_cases h9:x.op=9
 ·rw [jZ h9] at h;cases h;rfl
 by_cases h12:x.op=12
 ·rw [wQ h12] at h;cases h;rfl
 by_cases pV:x.op=13
 ·rw [zaK pV] at h;cases h;rfl
 ·rw [zbN h1 h2 h3 h4 h5 h6 h7 h8 h9 h12 pV] at h;cases h;rfl
theorem zox {c:zX} {m:zK} {s t:zu} {i d:Nat} (h:vZ c m s i d=some t):t.mem.length=s.mem.length/\t.threads.length=s.threads.length:=by
 unfold vZ at h
 split at h
 ·obtain⟨r,hr,rfl⟩:=Option.map_eq_some_iff.1 h
  exact⟨zow hr,by simp⟩
 ·cases h
theorem zoy {c:zX} {m:zK} {s:zu} {d:Nat} {x:zM} (h:x∈qO c m s d):(vN c m s x d).1.mem.length=s.mem.length/\(vN c m s x d).1.threads.length=s.threads.length:=by
 obtain⟨i,hi,hx⟩:=ziR h
 rcases hx with⟨rfl,t,ht,he⟩|⟨v,rfl,hv,he⟩
 ·rw [he];exact zox ht
 ·rw [he];exact⟨by simp [wz],by simp [wz]⟩
end Go.Proofs.YtliajkheeniljaaGreatDoor
namespace Go.Proofs.YtliajkheeniljaaGreatDoor
open Go.RowKit Go.ChangeShapes Go.WideShapes Go.ChangeAt
set_option maxRecDepth 100000
set_option maxHeartbeats 16000000
section
variable {X Z:World} {g:Nat}
end
structure Sp (V X:World) (mb:Option Nat):Prop where
 below:Below V.heap.size V X
 box:∀b,mb=some b->X.heap[b]? =some (.cells #[.slice none 0 0, .slice none 0 0, .slice none 0 0] 71 (0,0))/\V.heap.size<=b
section
variable {V X Y:World} {mb:Option Nat}
end
end Go.Proofs.YtliajkheeniljaaGreatDoor
namespace Go.Proofs.YtliajkheeniljaaGreatDoor
open Go.RowKit
set_option maxRecDepth 100000
set_option maxHeartbeats 16000000
theorem u8_in {x:Int} (h:(Lit.int .u8 x).wf=true):0<=x/\x<=255:=by
 constructor
 ·simp [Lit.wf,IntKind.min,IntKind.max,IntKind.signed] at h;omega
 ·simp [Lit.wf,IntKind.min,IntKind.max,IntKind.signed,IntKind.bits] at h;omega
theorem wrap_u8 {x:Int} (h0:0<=x) (h1:x<=255):IntKind.i64.wrap x=x:=IntWalk.i64_in _ (by omega)
end Go.Proofs.YtliajkheeniljaaGreatDoor
