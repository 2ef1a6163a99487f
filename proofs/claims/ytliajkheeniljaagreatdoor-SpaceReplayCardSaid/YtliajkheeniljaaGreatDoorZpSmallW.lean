/- Steps. -/
import Derived.Test.YtliajkheeniljaaGreatDoorZpCompile
import Derived.Test.YtliajkheeniljaaGreatDoorZpExplore
import Derived.Test.YtliajkheeniljaaGreatDoorZpMade2
set_option linter.all false
namespace Go.Proofs.YtliajkheeniljaaGreatDoor
open Go.RowKit
set_option maxRecDepth 100000
set_option maxHeartbeats 16000000
theorem zhM {α:Type} [Inhabited α] {R:World->α->List Value->Prop} {size g:Nat} {X Z:World} {v:Value} {l:List α} (hsz:4<=size) (hs:Since (λk=>k=g) X Z) (ht:∀j,3<=j->X.cell? ⟨g,j,none⟩=none) (hR:∀x cs,R X x cs->R Z x cs) (h:zh R size X v l):zh R size Z v l:=by
 obtain⟨a,cap,h1,h2,h4⟩:=h
 refine⟨a,cap,h1,h2,λj hj=> ?_⟩
 obtain⟨b,off,cs,h5,h6,h7,h8,h9⟩:=h4 j hj
 have hne:b≠g:=λe=>by
  subst e
  have h:=h8 (size - 1) (by omega)
  rw [ht _ (by omega),List.getElem?_eq_getElem (by omega)] at h
  cases h
 exact⟨b,off,cs,h5,Nat.lt_of_lt_of_le h6 hs.size,h7,λi hi=>(hs.cell (p:=⟨b,off+j*size+i,none⟩) h6 hne).trans (h8 i hi),hR _ _ h9⟩
theorem zj0 {d g:Nat} {X Z:World} (hs:Since (λk=>k=g) X Z) (ht:∀j,3<=j->X.cell? ⟨g,j,none⟩=none) {x:zN} {kv:Value} (h:zC d X x kv):zC d Z x kv:=by
 induction d generalizing x kv with
 |zero=>exact h.elim
 |succ d ih=>exact zhM (by omega) hs ht (λy cs ⟨kv',e,h'⟩=>⟨kv',e,ih h'⟩) h
theorem ztU {d g:Nat} {X Z:World} (hs:Since (λk=>k=g) X Z) (ht:∀j,3<=j->X.cell? ⟨g,j,none⟩=none) {l:List zW} {cs:List Value} (h:qo d X l cs):qo d Z l cs:=by
 obtain⟨v,rfl,h⟩:=h
 exact⟨v,rfl,zhM (by omega) hs ht (λy cs ⟨ka,kb,e,h1,h2⟩=>⟨ka,kb,e,zj0 hs ht h1,zj0 hs ht h2⟩) h⟩
theorem zxd {X:World} {g:Nat} {a b c:Value} {t:TypeId} {f:Nat × Nat} (h:X.heap[g]? =some (.cells #[a,b,c] t f)):∀j,3<=j->X.cell? ⟨g,j,none⟩=none:=λj hj=>by
 rw [ze h];exact Array.getElem?_eq_none (by simpa using hj)
theorem zr7 {F:Nat->Prop} {X Z:World} {g d:Nat} {a b c:Value} {t:TypeId} {f:Nat × Nat} {l:List zW} {cs:List Value} (h:zZ F X (λy=>qo d y l cs)) (hg:X.heap[g]? =some (.cells #[a,b,c] t f)) (hF:¬F g) (hs:Since (λk=>k=g) X Z):zZ F Z (λy=>qo d y l cs):=λy hy=>by
 have hgl:=zx hg
 have hz:=hs.size
 have hyz:=hy.size
 have hy0:({y with heap:=y.heap.setIfInBounds g (.cells #[a,b,c] t f)} :World).heap[g]? =some (.cells #[a,b,c] t f):=by
  simp [Array.getElem?_setIfInBounds_self_of_lt (show g<y.heap.size by omega)]
 have hk:∀k,k≠g->({y with heap:=y.heap.setIfInBounds g (.cells #[a,b,c] t f)} :World).heap[k]? =y.heap[k]? :=λk hne=>by
  simp [Array.getElem?_setIfInBounds_ne (Ne.symm hne)]
 have h0:Since F X ({y with heap:=y.heap.setIfInBounds g (.cells #[a,b,c] t f)} :World):=
  ⟨hy.os.trans hs.os,hy.tape.trans hs.tape,hy.output.trans hs.output,by simp;omega,λk hkl hkF=>by
   by_cases e:k=g
   ·subst e;rw [hy0];exact hg.symm
   rw [hk k e,hy.block k (by omega) hkF,hs.block k hkl e]⟩
 have h1:Since (λk=>k=g) ({y with heap:=y.heap.setIfInBounds g (.cells #[a,b,c] t f)} :World) y:=⟨rfl,rfl,rfl,by simp,λk _ hne=>(hk k hne).symm⟩
 exact ztU h1 (zxd hy0) (h _ h0)
def zny (w:World) (en:Ending) (w':World):Prop:=(∃c ta tc css,en= .returned (yD c (.slice ta c.threads.length tc))/\codeOk c=true/\xq (λk=>(Value.slice ta c.threads.length tc).ownBlock=some k) w' (qo 3) 1 w.heap.size 59 (.slice ta c.threads.length tc) c.threads css)/\Below w.heap.size w w'
theorem ztr:∀k∈zeW,1<=k/\k<=11:=by decide
theorem zqH (w:World) (sv:Value) (l:List Int) (hn:kG w .u8 sv l) (kv:Value) (ks:List Int) (hks:xJ w kv ks) (hk1:1<=ks.length) (hk2:ks.length<=100) (hk3:∀k∈ks,1<=k/\k<=11):
  Calls Tryz.prog 20 #[sv,kv] w (zny w):=by
 have hb1:=(Below.refl w.heap.size w).alloc (Nat.le_refl _) (.cells #[.int .i64 0, .int .i64 0, .slice none 0 0] 24)
 have hg1:=yj w (.cells #[.int .i64 0, .int .i64 0, .slice none 0 0] 24)
 have zd6:=zr8 _ sv l (hn.below hb1) kv ks (zh.below gQ.stays hks hb1) hk1 hk2 hk3
 obtain⟨sa,sc,rfl, -⟩:∃a c,sv= .slice a l.length c/\True:=by obtain⟨a,c,h, -⟩:=hn;exact⟨a,c,h,trivial⟩
 obtain⟨ka,kc,rfl, -⟩:=zh.slice hks
 generalize l.length=ln at zd6 ⊢
 generalize ks.length=kn at zd6 ⊢
 have HB1:=qh hb1
 have qm:=qh hg1
 have zd7:=qh zd6
 clear hb1 hg1 zd6 hn hks hk1 hk2 hk3
 go_enter Tryz.func20,Tryz.ntmps20
 go_upto_region 1 with fail
 generalize World.alloc w _=W at HB1 qm zd7 ⊢
 obtain⟨gr,hgr⟩:∃gr,gr=w.heap.size:=⟨_,rfl⟩
 rw [<-hgr] at qm ⊢
 have uG:=qh hgr
 clear hgr
 go_upto_region 2 with(first|(go_at_call 47;go_must(refine(zoI.out).mono ?_);rintro en W3 ⟨⟨ta,tc,css,rfl,hrow⟩,hb⟩;(have vT:=qh hrow);(have HB3:=qh (zG HB2.out hb));(have jC:=qh ((hb.block _ (zx HG2.out)).trans HG2.out));(have HW3:=qh hb.size);clear hrow hb;unfold yD)|(go_at_call 48;go_must(refine(zd7.out).mono ?_);rintro en W2 ⟨⟨p,vv,tv,rfl,hp,hpa⟩,hb⟩;(have zoI:=qh (zm3 3 4 W2 p hp vv tv hpa));(have jv:=qh (zoJ hp));(have HB2:=qh (HB1.out.trans (hb.mono HB1.out.size)));(have HG2:=qh ((hb.block _ (zx qm.out)).trans qm.out));clear hb hp hpa;generalize zcn p=c at zoI jv;unfold zfz at zoI ⊢))
 generalize hcv:c.vars=vars
 generalize hcd:c.domain=dom
 generalize hcl:c.threads.length=cn
 have HCV:=qh hcv
 have HCD:=qh hcd
 have HCL:=qh hcl
 clear hcv hcd hcl
 have hb4:=HB3.out.alloc HB3.out.size (.cells #[.int .i64 vars, .int .i64 dom, .slice ta cn tc] 24)
 have hg4:=(Below.heap_alloc W3 (.cells #[.int .i64 vars, .int .i64 dom, .slice ta cn tc] 24) _ (zx jC.out)).trans jC.out
 have bg:=yj W3 (.cells #[.int .i64 vars, .int .i64 dom, .slice ta cn tc] 24)
 have hs4:=(Since.refl (λ_=>False) W3).alloc (.cells #[.int .i64 vars, .int .i64 dom, .slice ta cn tc] 24)
 generalize World.alloc W3 _=X at hb4 hg4 bg hs4 ⊢
 generalize W3.heap.size=gc at bg ⊢
 have s:=qd (g:=gr) [.int .i64 vars, .int .i64 dom, .slice ta cn tc] X 0
 have hset:(yI X gr 0 [.int .i64 vars, .int .i64 dom, .slice ta cn tc]).heap[gr]? =_:=qZ (cs:= [.int .i64 0, .int .i64 0, .slice none 0 0]) _ rfl hg4
 have hend:zny w (.returned (.agg #[.int .i64 vars, .int .i64 dom, .slice ta cn tc])) (yI X gr 0 [.int .i64 vars, .int .i64 dom, .slice ta cn tc]):=by
  have h1:=vT.out
  rw [HCL.out] at h1
  have hlt:=HW3.out
  have hge:=HB2.out.size
  refine⟨⟨c,ta,tc,css,by unfold yD;rw [HCV.out,HCD.out,HCL.out],jv.out, ?_⟩,(hb4.trans (s.below hb4.size (λk hk=>by have:=uG.out;omega)))⟩
  rw [HCL.out]
  have h2:xq (λk=>(Value.slice ta cn tc).ownBlock=some k) W3 (qo 3) 1 w.heap.size 59 (.slice ta cn tc) c.threads css:=⟨h1.len,h1.part,ztS h1.row hge⟩
  have hown:∀k,(Value.slice ta cn tc).ownBlock=some k->k≠gr:=λk hk e=>by have:=(h1.row.lt k hk).1;have:=zx HG2.out;omega
  have hgr:¬(Value.slice ta cn tc).ownBlock=some gr:=λe=>hown gr e rfl
  exact⟨h2.len,λj hj=>⟨(h2.part j hj).1,zr7 ((h2.part j hj).2.step hs4 (λ_ h=>h.elim) (λk hk=> .inl hk)) hg4 hgr s⟩,s.row (hs4.row h2.row (λ_ _ h=>h)) hown⟩
 have zV:=qh hend
 have zJ:=qh hset
 have c0:=ze bg 0
 have c1:=ze bg 1
 have c2:=ze bg 2
 have z0:=ze hg4 0
 have z1:=ze hg4 1
 have z2:=ze hg4 2
 have f0:=zB hg4 0
 have f1:=zB hg4 1
 have f2:=zB hg4 2
 clear hend hset s hg4 bg hs4 hb4
 go_wp2_with fail
 refine bodyPost_ret (xR rfl _ _ gr 24 _ (0,0) _ rfl zJ.out Tryz.underlying24 rfl zhO) rfl ?_
 exact zV.out
end Go.Proofs.YtliajkheeniljaaGreatDoor
namespace Go.Proofs.YtliajkheeniljaaGreatDoor
open Go.RowKit
set_option maxRecDepth 100000
set_option maxHeartbeats 16000000
def z8p (vars:Int):List zW:= [⟨2,0,0, .mk 1 1 0 [],default,0⟩,⟨1,0,vars - 1,default,default,0⟩,⟨9,0,0, .mk 2 0 0 [],default,0⟩]
def z8q (vars:Int):List Value:= [.int .i64 2, .int .i64 0, .int .i64 0, .int .i64 1, .int .i64 1, .int .u8 0, .slice none 0 0, .int .i64 0, .int .i64 0, .int .u8 0, .slice none 0 0, .int .i64 0,
 .int .i64 1, .int .i64 0, .int .i64 (vars - 1), .int .i64 0, .int .i64 0, .int .u8 0, .slice none 0 0, .int .i64 0, .int .i64 0, .int .u8 0, .slice none 0 0, .int .i64 0,
 .int .i64 9, .int .i64 0, .int .i64 0, .int .i64 2, .int .i64 0, .int .u8 0, .slice none 0 0, .int .i64 0, .int .i64 0, .int .u8 0, .slice none 0 0, .int .i64 0]
structure z7e (w X:World) (gc gr g:Nat) (vars dom:Int) (n cap:Nat) (cl:List (List zW)):Prop where
 below:Below w.heap.size w X
 box:X.heap[gc]? =some (.cells #[.int .i64 vars, .int .i64 dom, .slice (some ⟨g,0,none⟩) n cap] 24 (0,0))
 res:X.heap[gr]? =some (.cells #[.int .i64 0, .int .i64 0, .slice none 0 0] 24 (0,0))
 lo:w.heap.size<=gc/\w.heap.size<=gr/\w.heap.size<=g/\gc≠gr/\g≠gc/\g≠gr
 row:∃cur:Array Value,X.heap[g]? =some (.cells cur 59 (0,0))/\n<=cur.size/\∀j,j<n->∃a c,cur[j]? =some (.slice a (cl.getD j []).length c)/\zZ (λk=>k=g) X (λy=>qo 3 y (cl.getD j []) [.slice a (cl.getD j []).length c])
 len:cl.length=n
 ok:∀j,j<n->rowOk vars dom (cl.getD j [])=true
 room:n<=cap/\cap<=9223372036854775807
section
variable {w X:World} {gc gr g n cap:Nat} {vars dom:Int} {cl:List (List zW)}
end
end Go.Proofs.YtliajkheeniljaaGreatDoor
namespace Go.Proofs.YtliajkheeniljaaGreatDoor
open Go.RowKit
set_option maxRecDepth 100000
set_option maxHeartbeats 16000000
def zdQ (n:Int):zF:=⟨n % 3,1+n / 3 % 3⟩
theorem zmv (w:World) (n:Int) (h0:0<=n) (h1:n<=255):Calls Tryz.prog 22 #[.int .u8 n] w λe w'=>e= .returned (yY (zdQ n))/\Below w.heap.size w w':=by
 unfold yY zdQ
 go_enter Tryz.func22,Tryz.ntmps22
 go_wp2
 exact bodyPost_ret (v:= .agg #[.int .i64 (n % 3), .int .i64 (1+n / 3 % 3)]) (by simp [results,Tryz.results22,go_sem]) rfl ⟨rfl,(Below.refl _ _).alloc (Nat.le_refl _) _⟩
end Go.Proofs.YtliajkheeniljaaGreatDoor
namespace Go.Proofs.YtliajkheeniljaaGreatDoor
open Go.RowKit
set_option maxRecDepth 100000
set_option maxHeartbeats 16000000
theorem zj1 {c:zI} {m:zF} {s:zl} {d:Nat} {x:zq} (h:x∈qE c m s d):yF c m s=true/\∃i,i<s.threads.length/\((x=⟨1,i,0⟩/\∃t,jX c m s i d=some t)\/∃v,x=⟨2,i,v⟩/\v∈yK (s.threads.getD i default).buf m.model):=by
 unfold qE at h
 split at h
 ·rename_i hf
  refine⟨hf, ?_⟩
  obtain⟨i,hi,hx⟩:=List.mem_flatMap.1 h
  refine⟨i,List.mem_range.1 hi, ?_⟩
  unfold kT at hx
  rcases List.mem_append.1 hx with hx|hx
  ·split at hx
   ·rename_i hs
    rw [List.mem_singleton] at hx
    exact .inl ⟨hx,Option.isSome_iff_exists.1 hs⟩
   simp at hx
  obtain⟨v,hv,rfl⟩:=List.mem_map.1 hx
  exact .inr ⟨v,rfl,hv⟩
 simp at h
theorem zlq {c:zI} {m:zF} {s:zl} {d:Nat} {x:zq} (h:x∈qE c m s d):∃i,i<s.threads.length/\((x=⟨1,i,0⟩/\∃t,jX c m s i d=some t/\qC c m s x d=(t,0))\/∃v,x=⟨2,i,v⟩/\v∈yK (s.threads.getD i default).buf m.model/\qC c m s x d=(bq s i v,0)):=by
 obtain⟨hf,i,hi,hx⟩:=zj1 h
 refine⟨i,hi, ?_⟩
 rcases hx with⟨rfl,t,ht⟩|⟨v,rfl,hv⟩
 ·refine .inl ⟨rfl,t,ht, ?_⟩
  unfold qC
  rw [if_pos hf,if_pos ⟨by show(0:Int)<=(i:Int);omega,by show(i:Int)<_;omega⟩,if_pos ⟨rfl,rfl⟩]
  rw [show(⟨1,(i:Int),0⟩:zq).thread.toNat=i from Int.toNat_natCast i,ht]
 refine .inr ⟨v,rfl,hv, ?_⟩
 unfold qC
 rw [if_pos hf,if_pos ⟨by show(0:Int)<=(i:Int);omega,by show(i:Int)<_;omega⟩,if_neg (by rintro⟨h, -⟩;exact absurd (show(2:Int)=1 from h) (by decide))]
 rw [show(⟨2,(i:Int),v⟩:zq).thread.toNat=i from Int.toNat_natCast i,if_pos ⟨rfl,hv⟩]
section
variable {c:zI} {m:zF} {d R:Nat} {P:zl->Prop}
end
theorem zr9 {c:zI} {m:zF} {s:zl} {t:zA} {x:zW} {d:Nat} {r:zA × List Int × Bool} (h:stepT c m s t x d=some r):r.2.1.length=s.mem.length:=by
 by_cases h1:x.op=1
 ·rw [bH h1] at h;cases h;rfl
 by_cases h2:x.op=2
 ·by_cases hm:m.model=0
  ·rw [uR h2 hm] at h;cases h;simp
  cases hp:qz t.buf m ⟨x.var,yw t.regs c.domain d x.a⟩ with
  |true=>rw [uS h2 hm hp] at h;cases h;rfl
  |false=>rw [uT h2 hm hp] at h;cases h
 by_cases h3:x.op=3
 ·rw [zbm h3] at h;cases h;rfl
 by_cases h4:x.op=4
 ·rw [uq h4] at h;split at h<;>cases h;rfl
 by_cases h5:x.op=5
 ·rw [gU h5] at h;split at h<;>cases h;rfl
 by_cases h6:x.op=6
 ·by_cases hv:s.mem.getD x.var.toNat 0=yw t.regs c.domain d x.a
  ·rw [bI h6 hv] at h;split at h<;>cases h;simp
  rw [bJ h6 hv] at h;split at h<;>cases h;rfl
 by_cases h7:x.op=7
 ·rw [gV h7] at h;split at h<;>cases h;simp
 by_cases h8:x.op=8
 ·rw [wX h8] at h;split at h<;>cases h;simp
 by_cases h9:x.op=9
 ·rw [kS h9] at h;cases h;rfl
 by_cases h12:x.op=12
 ·rw [wY h12] at h;cases h;rfl
 by_cases h13:x.op=13
 ·rw [zaz h13] at h;cases h;rfl
 rw [zaZ h1 h2 h3 h4 h5 h6 h7 h8 h9 h12 h13] at h;cases h;rfl
end Go.Proofs.YtliajkheeniljaaGreatDoor
namespace Go.Proofs.YtliajkheeniljaaGreatDoor
open Go.RowKit Go.ChangeShapes Go.WideShapes Go.ChangeAt
set_option maxRecDepth 100000
set_option maxHeartbeats 16000000
section
variable {X Z:World} {g:Nat}
end
structure Sp (V X:World) (mb:Option Nat):Prop where
 below:Below V.heap.size V X
 box:∀b,mb=some b->X.heap[b]? =some (.cells #[.slice none 0 0, .slice none 0 0, .slice none 0 0] 71 (0,0))/\V.heap.size<=b
section
variable {V X Y:World} {mb:Option Nat}
end
end Go.Proofs.YtliajkheeniljaaGreatDoor
namespace Go.Proofs.YtliajkheeniljaaGreatDoor
open Go.RowKit
set_option maxRecDepth 100000
set_option maxHeartbeats 16000000
theorem u8_in {x:Int} (h:(Lit.int .u8 x).wf=true):0<=x/\x<=255:=by
 constructor
 ·simp [Lit.wf,IntKind.min,IntKind.max,IntKind.signed] at h;omega
 simp [Lit.wf,IntKind.min,IntKind.max,IntKind.signed,IntKind.bits] at h;omega
theorem wrap_u8 {x:Int} (h0:0<=x) (h1:x<=255):IntKind.i64.wrap x=x:=IntWalk.i64_in _ (by omega)
theorem jD {dom n:Int} :yZ dom n=true↔0<=n/\n<dom:=by unfold yZ;simp
def zcW (c:zI) (m:zF) (row:List zW) (t:zA):Prop:=0<=t.pc/\t.pc<=(row.length:Int)/\(∀k,k<4->yZ c.domain (t.regs.getD k 0)=true)/\∀k,k<t.buf.length->xZ c m t.buf k=true
theorem zdX {c:zI} {m:zF} {s:zl} :yF c m s=true↔vO c m=true/\s.threads.length=c.threads.length/\(s.mem.length:Int)=c.vars/\(∀k,k<s.mem.length->yZ c.domain (s.mem.getD k 0)=true)/\∀i,i<s.threads.length->zcW c m (c.threads.getD i []) (s.threads.getD i default):=by
 unfold yF qK zcW
 simp only [Bool.and_eq_true,decide_eq_true_eq,List.all_eq_true,List.mem_range]
 constructor
 ·rintro⟨⟨⟨⟨h1,h2⟩,h3⟩,h4⟩,h5⟩
  exact⟨h1,h2,h3,h4,λi hi=>⟨(h5 i hi).1.1.1,(h5 i hi).1.1.2,(h5 i hi).1.2,(h5 i hi).2⟩⟩
 rintro⟨h1,h2,h3,h4,h5⟩
 exact⟨⟨⟨⟨h1,h2⟩,h3⟩,h4⟩,λi hi=>⟨⟨⟨(h5 i hi).1,(h5 i hi).2.1⟩,(h5 i hi).2.2.1⟩,(h5 i hi).2.2.2⟩⟩
theorem zfi {c:zI} {m:zF} (h:vO c m=true):codeOk c=true/\2<=c.domain:=by
 unfold vO at h
 simp only [Bool.and_eq_true,decide_eq_true_eq] at h
 exact⟨h.1.1.1.1,(xM h.1.1.1.1).2.2.1⟩
theorem zxe {regs:List Int} {dom:Int} (hd:1<=dom) (hr:∀k,k<4->yZ dom (regs.getD k 0)=true) {x:zN} {e:Nat} (hx:zR dom e x=true) (d:Nat):yZ dom (yw regs dom d x)=true:=by
 cases d with
 |zero=>rw [jD];unfold yw;omega
 |succ d=>
 unfold yw
 cases e with
 |zero=>cases hx
 |succ e=>
 unfold zR at hx
 split
 ·rename_i h1
  rw [if_pos h1] at hx
  simp only [Bool.and_eq_true,decide_eq_true_eq] at hx
  rw [jD];exact hx.1.1
 split
 ·split
  ·rename_i h;exact hr _ (by omega)
  rw [jD];omega
 split
 ·rw [jD];exact⟨Int.emod_nonneg _ (by omega),Int.emod_lt_of_pos _ (by omega)⟩
 rw [jD];omega
theorem zfj {dom:Int} {l:List Int} (hl:∀k,k<l.length->yZ dom (l.getD k 0)=true) (v:Nat) {n:Int} (hn:yZ dom n=true):∀k,k<(l.set v n).length->yZ dom ((l.set v n).getD k 0)=true:=λk hk=>by
 rw [List.length_set] at hk
 by_cases e:k=v
 ·subst e
  rw [List.getD_eq_getElem?_getD,List.getElem?_set_self hk];exact hn
 rw [List.getD_eq_getElem?_getD,List.getElem?_set_ne (Ne.symm e), <-List.getD_eq_getElem?_getD];exact hl k hk
theorem zxf {dom:Int} {l:List Int} (hl:∀k,k<4->yZ dom (l.getD k 0)=true) (v:Nat) {n:Int} (hn:yZ dom n=true):∀k,k<4->yZ dom ((l.set v n).getD k 0)=true:=λk hk=>by
 by_cases e:k=v
 ·subst e
  by_cases hk2:k<l.length
  ·rw [List.getD_eq_getElem?_getD,List.getElem?_set_self hk2];exact hn
  rw [List.set_eq_of_length_le (by omega)];exact hl k hk
 rw [List.getD_eq_getElem?_getD,List.getElem?_set_ne (Ne.symm e), <-List.getD_eq_getElem?_getD];exact hl k hk
theorem zaK {c:zI} {m:zF} {l:List zk} {k:Nat} (h:xZ c m l k=true):qz (l.take k) m (l.getD k default)=true/\0<=(l.getD k default).var/\(l.getD k default).var<c.vars/\yZ c.domain (l.getD k default).n=true:=by
 unfold xZ at h
 simp only [Bool.and_eq_true,decide_eq_true_eq] at h
 exact⟨h.1.1.1.1,h.1.1.1.2,h.1.1.2,jD.2 ⟨h.1.2,h.2⟩⟩
theorem zf0 {c:zI} {m:zF} {l:List zk} {k:Nat} (h1:qz (l.take k) m (l.getD k default)=true) (h2:0<=(l.getD k default).var) (h3:(l.getD k default).var<c.vars) (h4:yZ c.domain (l.getD k default).n=true):xZ c m l k=true:=by
 unfold xZ
 simp only [Bool.and_eq_true,decide_eq_true_eq]
 exact⟨⟨⟨⟨h1,h2⟩,h3⟩,(jD.1 h4).1⟩,(jD.1 h4).2⟩
theorem ztV {c:zI} {m:zF} {l:List zk} (h:∀k,k<l.length->xZ c m l k=true) (v:Int):∀i n,i<=l.length->bL l v i=some n->yZ c.domain n=true:=by
 intro i
 induction i with
 |zero=>intro n _ h2;unfold bL at h2;cases h2
 |succ i ih=>
 intro n hi h2
 unfold bL at h2
 split at h2
 ·cases h2;exact(zaK (h i (by omega))).2.2.2
 exact ih n (by omega) h2
theorem ztW {c:zI} {m:zF} {l:List zk} (h:∀k,k<l.length->xZ c m l k=true) {x:zk} (hp:qz l m x=true) (h2:0<=x.var) (h3:x.var<c.vars) (h4:yZ c.domain x.n=true):∀k,k<(l++ [x]).length->xZ c m (l++ [x]) k=true:=λk hk=>by
 rw [List.length_append,List.length_singleton] at hk
 by_cases e:k=l.length
 ·subst e
  have hg:(l++ [x]).getD l.length default=x:=wW
  exact zf0 (by rw [hg,List.take_left];exact hp) (by rw [hg];exact h2) (by rw [hg];exact h3) (by rw [hg];exact h4)
 have hk2:k<l.length:=by omega
 have hg:(l++ [x]).getD k default=l.getD k default:=uO hk2
 obtain⟨a1,a2,a3,a4⟩:=zaK (h k hk2)
 exact zf0 (by rw [hg,List.take_append_of_le_length (by omega)];exact a1) (by rw [hg];exact a2) (by rw [hg];exact a3) (by rw [hg];exact a4)
theorem zl2 {l r:List zk} {m:zF} {x:zk} (h:qz l m x=true) (hs:r.Sublist l):qz r m x=true:=by
 unfold qz zd4 at h ⊢
 simp only [Bool.and_eq_true,decide_eq_true_eq] at h ⊢
 have:=hs.countP_le (p:=λy=>decide (m.model=1)||decide (y.var=x.var))
 exact⟨h.1,by omega⟩
theorem zoK {c:zI} {m:zF} {l:List zk} (h:∀k,k<l.length->xZ c m l k=true) (p:Nat):∀k,k<(l.eraseIdx p).length->xZ c m (l.eraseIdx p) k=true:=λk hk=>by
 by_cases hp:p<l.length
 rotate_left
 ·rw [List.eraseIdx_of_length_le (by omega)] at hk ⊢
  exact h k hk
 have hl:(l.eraseIdx p).length=l.length - 1:=List.length_eraseIdx_of_lt hp
 rw [hl] at hk
 by_cases e:k<p
 ·have hg:(l.eraseIdx p).getD k default=l.getD k default:=by
   simp only [List.getD_eq_getElem?_getD,List.getElem?_eraseIdx,if_pos e]
  obtain⟨a1,a2,a3,a4⟩:=zaK (h k (by omega))
  have ht:((l.eraseIdx p).take k).Sublist (l.take k):=by
   rw [List.eraseIdx_eq_take_drop_succ,List.take_append_of_le_length (by rw [List.length_take];omega),List.take_take,Nat.min_eq_left (by omega)]
   exact List.Sublist.refl _
  exact zf0 (by rw [hg];exact zl2 a1 ht) (by rw [hg];exact a2) (by rw [hg];exact a3) (by rw [hg];exact a4)
 have hg:(l.eraseIdx p).getD k default=l.getD (k+1) default:=by
  simp only [List.getD_eq_getElem?_getD,List.getElem?_eraseIdx,if_neg e]
 obtain⟨a1,a2,a3,a4⟩:=zaK (h (k+1) (by omega))
 have ht:((l.eraseIdx p).take k).Sublist (l.take (k+1)):=by
  rw [List.eraseIdx_eq_take_drop_succ,List.take_append,List.length_take,Nat.min_eq_left (by omega),List.take_take,Nat.min_eq_right (by omega)]
  have:l.take (k+1)=l.take p++(l.drop p).take (k+1 - p):=by
   rw [<-List.take_append_drop p l,List.take_append,List.length_take,Nat.min_eq_left (by omega),List.take_take,Nat.min_eq_right (by omega),List.take_append_drop]
  rw [this]
  refine List.Sublist.append_left ?_ _
  rw [show k+1 - p=(k - p)+1 by omega,List.drop_eq_getElem_cons hp,List.take_succ_cons]
  exact List.sublist_cons_self _ _
 exact zf0 (by rw [hg];exact zl2 a1 ht) (by rw [hg];exact a2) (by rw [hg];exact a3) (by rw [hg];exact a4)
theorem zl3 (l:List zk) (v:Int):∀i,i<=l.length->((yM l v i).1=none->(yM l v i).2=l.take i)/\∀e,(yM l v i).1=some e->∃p,p<i/\l.getD p default=e/\(yM l v i).2=(l.take i).eraseIdx p:=by
 intro i
 induction i with
 |zero=>intro _;exact⟨λ_=>rfl,λe h=>by cases h⟩
 |succ i ih=>
 intro hi
 obtain⟨h1,h2⟩:=ih (by omega)
 have htk:l.take (i+1)=l.take i++ [l.getD i default] :=by rw [List.take_succ_eq_append_getElem (by omega),List.getD_eq_getElem?_getD,List.getElem?_eq_getElem (by omega)];rfl
 unfold yM
 split
 ·rename_i h
  simp only [Bool.and_eq_true,decide_eq_true_eq,Option.isNone_iff_eq_none] at h
  refine⟨(λe=>by cases e),λe he=> ?_⟩
  cases he
  refine⟨i,by omega,rfl, ?_⟩
  rw [htk,List.eraseIdx_append_of_length_le (by rw [List.length_take];omega),List.length_take,Nat.min_eq_left (by omega),Nat.sub_self]
  simp [h1 h.1]
 refine⟨λe=>by rw [htk, <-h1 e],λe he=> ?_⟩
 obtain⟨p,hp,hpe,h3⟩:=h2 e he
 refine⟨p,by omega,hpe, ?_⟩
 rw [htk,List.eraseIdx_append_of_lt_length (by rw [List.length_take];omega)]
 show(yM l v i).2++ [l.getD i default] =_
 rw [h3]
theorem zm4 {vars dom:Int} {many:Nat} {x:zW} (h:qx vars dom many x=true):(x.op=12->zR dom 20 x.a=true/\0<=x.dest/\x.dest<=many)/\(x.op=13->0<=x.dest/\x.dest<=many)/\(¬x.op=12->¬x.op=13->qI x.op x.reg x.var x.a x.b vars dom=true):=by
 unfold qx at h
 refine⟨λe=> ?_,λe=> ?_,λe1 e2=> ?_⟩
 ·rw [if_pos e] at h
  unfold vN qI at h
  simp only [Bool.and_eq_true,decide_eq_true_eq] at h
  have:=h.2.1.2
  unfold uJ at this
  rw [if_pos (by decide)] at this
  exact⟨this,h.1.1.2,h.1.2⟩
 ·rw [if_neg (by omega),if_pos e] at h
  unfold vN at h
  simp only [Bool.and_eq_true,decide_eq_true_eq] at h
  exact⟨h.1.1.2,h.1.2⟩
 rw [if_neg e1,if_neg e2] at h
 split at h
 ·cases h
 unfold vN at h
 simp only [Bool.and_eq_true] at h
 exact h.2
theorem zbJ {k reg v:Int} {a b:zN} {vars dom:Int} (h:qI k reg v a b vars dom=true):(gD k=true->0<=v/\v<vars)/\(gF k=true->zR dom 20 a=true)/\(hasB k=true->zR dom 20 b=true):=by
 unfold qI at h
 simp only [Bool.and_eq_true] at h
 obtain⟨⟨⟨-,h2⟩,h3⟩,h4⟩:=h
 refine⟨λe=> ?_,λe=> ?_,λe=> ?_⟩
 ·unfold uI at h2;rw [if_pos e] at h2;simpa using h2
 ·unfold uJ at h3;rw [if_pos e] at h3;exact h3
 unfold zaG at h4;rw [if_pos e] at h4;exact h4
theorem zoL {c:zI} {m:zF} {s:zl} {t:zA} {x:zW} {d:Nat} {row:List zW} {r:zA × List Int × Bool} (hm:vO c m=true) (ht:zcW c m row t) (hpc:t.pc<(row.length:Int)) (hx:qx c.vars c.domain row.length x=true)
  (hv:(s.mem.length:Int)=c.vars) (hmem:∀k,k<s.mem.length->yZ c.domain (s.mem.getD k 0)=true) (h:stepT c m s t x d=some r):zcW c m row r.1/\∀k,k<r.2.1.length->yZ c.domain (r.2.1.getD k 0)=true:=by
 obtain⟨hcode,hdom⟩:=zfi hm
 obtain⟨t1,t2,t3,t4⟩:=ht
 obtain⟨f12,f13,fp⟩:=zm4 hx
 have hnext:zcW c m row ⟨t.pc+1,t.regs,t.buf⟩:=⟨by show 0<=t.pc+1;omega,by show t.pc+1<=_;omega,t3,t4⟩
 have hset:∀(rg:Nat) (n:Int),yZ c.domain n=true->zcW c m row ⟨t.pc+1,t.regs.set rg n,t.buf⟩:=λrg n hn=>⟨by show 0<=t.pc+1;omega,by show t.pc+1<=_;omega,zxf t3 rg hn,t4⟩
 have h0:yZ c.domain 0=true:=by rw [jD];omega
 have h1:yZ c.domain 1=true:=by rw [jD];omega
 have hev:∀y,zR c.domain 20 y=true->yZ c.domain (yw t.regs c.domain d y)=true:=λy hy=>zxe (by omega) t3 hy d
 by_cases e1:x.op=1
 ·obtain⟨p1, -, -⟩:=zbJ (fp (by omega) (by omega))
  have hvr:=p1 (by rw [e1];rfl)
  rw [bH e1] at h;cases h
  refine⟨hset _ _ ?_,hmem⟩
  cases hl:wT t.buf x.var with
  |none=>exact hmem _ (by omega)
  |some n=>exact ztV t4 x.var _ n (Nat.le_refl _) hl
 by_cases e2:x.op=2
 ·obtain⟨p1,p2, -⟩:=zbJ (fp (by omega) (by omega))
  have hvr:=p1 (by rw [e2];rfl)
  have ha:=hev _ (p2 (by rw [e2];rfl))
  by_cases hmo:m.model=0
  ·rw [uR e2 hmo] at h;cases h;exact⟨hnext,zfj hmem _ ha⟩
  cases hp:qz t.buf m ⟨x.var,yw t.regs c.domain d x.a⟩ with
  |true=>
   rw [uS e2 hmo hp] at h;cases h
   refine⟨⟨by show 0<=t.pc+1;omega,by show t.pc+1<=_;omega,t3, ?_⟩,hmem⟩
   show∀k,k<(jr t.buf m ⟨x.var,yw t.regs c.domain d x.a⟩).length->xZ c m (jr t.buf m ⟨x.var,yw t.regs c.domain d x.a⟩) k=true
   unfold jr
   rw [if_pos hp]
   exact ztW t4 hp hvr.1 hvr.2 ha
  |false=>rw [uT e2 hmo hp] at h;cases h
 by_cases e3:x.op=3
 ·obtain⟨-,p2, -⟩:=zbJ (fp (by omega) (by omega))
  rw [zbm e3] at h;cases h;exact⟨hset _ _ (hev _ (p2 (by rw [e3];rfl))),hmem⟩
 by_cases e4:x.op=4
 ·rw [uq e4] at h;split at h<;>cases h;exact⟨hnext,hmem⟩
 by_cases e5:x.op=5
 ·rw [gU e5] at h;split at h<;>cases h;exact⟨hnext,hmem⟩
 by_cases e6:x.op=6
 ·obtain⟨-, -,p3⟩:=zbJ (fp (by omega) (by omega))
  have hb:=hev _ (p3 (by rw [e6];rfl))
  by_cases hv2:s.mem.getD x.var.toNat 0=yw t.regs c.domain d x.a
  ·rw [bI e6 hv2] at h;split at h<;>cases h;exact⟨hset _ _ h1,zfj hmem _ hb⟩
  rw [bJ e6 hv2] at h;split at h<;>cases h;exact⟨hset _ _ h0,hmem⟩
 by_cases e7:x.op=7
 ·rw [gV e7] at h;split at h<;>cases h;exact⟨hnext,zfj hmem _ h1⟩
 by_cases e8:x.op=8
 ·rw [wX e8] at h;split at h<;>cases h;exact⟨hnext,zfj hmem _ h0⟩
 by_cases e9:x.op=9
 ·rw [kS e9] at h;cases h;exact⟨hnext,hmem⟩
 by_cases e12:x.op=12
 ·have hd:=f12 e12
  rw [wY e12] at h;cases h
  refine⟨?_,hmem⟩
  show zcW c m row (if _ then _ else _)
  split
  ·exact⟨hd.2.1,hd.2.2,t3,t4⟩
  exact hnext
 by_cases e13:x.op=13
 ·have hd:=f13 e13
  rw [zaz e13] at h;cases h;exact⟨⟨hd.1,hd.2,t3,t4⟩,hmem⟩
 rw [zaZ e1 e2 e3 e4 e5 e6 e7 e8 e9 e12 e13] at h;cases h;exact⟨hnext,hmem⟩
theorem zl4 {c:zI} {m:zF} {s:zl} (h:yF c m s=true) {i:Nat} {t:zA} {mem:List Int} {bad:Bool} (hi:i<s.threads.length) (ht:zcW c m (c.threads.getD i []) t) (hl:mem.length=s.mem.length) (hmem:∀k,k<mem.length->yZ c.domain (mem.getD k 0)=true):yF c m ⟨s.threads.set i t,mem,bad⟩=true:=by
 obtain⟨h1,h2,h3, -,h5⟩:=zdX.1 h
 refine zdX.2 ⟨h1,by simpa using h2,by show(mem.length:Int)=_;rw [hl];exact h3,hmem,λj hj=> ?_⟩
 have hj2:j<s.threads.length:=by simpa using hj
 show zcW c m _ ((s.threads.set i t).getD j default)
 by_cases e:j=i
 ·subst e
  have hg:(s.threads.set j t).getD j default=t:=by rw [List.getD_eq_getElem?_getD,List.getElem?_set_self hj2];rfl
  rw [hg];exact ht
 have hg:(s.threads.set i t).getD j default=s.threads.getD j default:=by rw [List.getD_eq_getElem?_getD,List.getElem?_set_ne (Ne.symm e), <-List.getD_eq_getElem?_getD]
 rw [hg];exact h5 j hj2
theorem zrA {c:zI} (h:codeOk c=true) {i k:Nat} (hi:i<c.threads.length) (hk:k<(c.threads.getD i []).length):qx c.vars c.domain (c.threads.getD i []).length ((c.threads.getD i []).getD k default)=true:=by
 unfold codeOk at h
 simp only [Bool.and_eq_true] at h
 have h1:=h.2
 rw [List.all_eq_true] at h1
 have h2:=h1 _ (qR (x:= []) hi)
 unfold rowOk at h2
 simp only [Bool.and_eq_true] at h2
 have h4:=h2.2
 rw [List.all_eq_true] at h4
 exact h4 _ (qR hk)
theorem zwH {c:zI} {m:zF} {s:zl} {d:Nat} {x:zq} (h:x∈qE c m s d):yF c m (qC c m s x d).1=true:=by
 obtain⟨hf, -⟩:=zj1 h
 obtain⟨h1,h2,h3,h4,h5⟩:=zdX.1 hf
 obtain⟨hcode, -⟩:=zfi h1
 obtain⟨i,hi,hx⟩:=zlq h
 have hti:=h5 i hi
 rcases hx with⟨rfl,t,ht,he⟩|⟨v,rfl,hv,he⟩
 ·rw [he]
  unfold jX at ht
  split at ht
  ·rename_i hpc
   obtain⟨r,hr,rfl⟩:=Option.map_eq_some_iff.1 ht
   have hk:(s.threads.getD i default).pc.toNat<(c.threads.getD i []).length:=by have:=hti.1;omega
   obtain⟨g1,g2⟩:=zoL h1 hti hpc (zrA hcode (by omega) hk) h3 h4 hr
   exact zl4 hf hi g1 (zr9 hr) g2
  cases ht
 rw [he]
 obtain⟨v0,v1,n,hn⟩:=zd5 hf hi hv
 obtain⟨-,k2⟩:=zl3 (s.threads.getD i default).buf v _ (Nat.le_refl _)
 have hn1:(takeB (s.threads.getD i default).buf v).1=some ⟨v,n⟩:=by rw [hn]
 obtain⟨p,hp,hpe,hp2⟩:=k2 _ hn1
 rw [List.take_length] at hp2
 have hw:=zaK (hti.2.2.2 p hp)
 rw [hpe] at hw
 unfold bq
 rw [hn1]
 refine zl4 hf hi ⟨hti.1,hti.2.1,hti.2.2.1, ?_⟩ (by simp) (zfj h4 _ hw.2.2.2)
 show∀k,k<(takeB (s.threads.getD i default).buf v).2.length->xZ c m (takeB (s.threads.getD i default).buf v).2 k=true
 rw [show(takeB (s.threads.getD i default).buf v).2=(s.threads.getD i default).buf.eraseIdx p from hp2]
 exact zoK hti.2.2.2 p
theorem zol {c:zI} {m:zF} (h:vO c m=true):yF c m (qJ c)=true:=by
 obtain⟨hc,hd⟩:=zfi h
 have hb:=xM hc
 unfold qJ
 rw [if_pos hc]
 refine zdX.2 ⟨h,by simp,by simp;omega,λk hk=> ?_,λi hi=> ?_⟩
 ·rw [jD]
  simp only [List.length_replicate] at hk
  simp [List.getD_eq_getElem?_getD,hk];omega
 simp only [List.length_replicate] at hi
 have hg:(List.replicate c.threads.length (default:zA)).getD i default=default:=by simp [List.getD_eq_getElem?_getD,hi]
 show zcW c m _ ((List.replicate c.threads.length (default:zA)).getD i default)
 rw [hg]
 refine⟨Int.le_refl _,by show(0:Int)<=_;omega,λk hk=> ?_,λk hk=>by simp [default] at hk⟩
 rw [jD]
 rcases(by omega:k=0\/k=1\/k=2\/k=3) with rfl|rfl|rfl|rfl<;>(constructor<;>(show _;simp [default];try omega))
