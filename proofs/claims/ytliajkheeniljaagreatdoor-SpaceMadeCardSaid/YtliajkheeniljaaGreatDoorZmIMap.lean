/- Steps. -/
import Derived.Test.YtliajkheeniljaaGreatDoorZmKFuncs
import Derived.Test.YtliajkheeniljaaGreatDoorZmSame10
set_option linter.all false
namespace Go.Proofs.YtliajkheeniljaaGreatDoor
open Go.RowKit
set_option maxRecDepth 100000
set_option maxHeartbeats 16000000
def xM (w:World) (b:Nat) (l:List (Int × Value)):Prop:=
 ∃es clock,w.heap[b]? =some (.map es clock)/\es.toList.map (λe=>(e.key,e.val))=l.map (λx=>(Value.int .i64 x.1,x.2))
def qX:List (Int × Value)->Int->Option Value
 | [],_=>none
 |x::l,k=>if x.1=k then some x.2 else qX l k
def wI:List (Int × Value)->Int->Value->List (Int × Value)
 | [],k,v=> [(k,v)]
 |x::l,k,v=>if x.1=k then(k,v)::l else x::wI l k v
theorem zou (l:List (Int × Value)) (k:Int) (v:Value) (j:Int):qX (wI l k v) j=if k=j then some v else qX l j:=by
 induction l with
 |nil=>simp [wI,qX]
 |cons x l ih=>
 unfold wI
 by_cases h:x.1=k
 ·rw [if_pos h];simp only [qX];subst h;split<;>simp_all
 rw [if_neg h];simp only [qX];rw [ih];split<;>split<;>simp_all
theorem xM.below {w w':World} {b:Nat} {l:List (Int × Value)} (h:xM w b l) (hb:Below w.heap.size w w'):xM w' b l:=by
 obtain⟨es,c,h1,h2⟩:=h
 exact⟨es,c,(hb.block b (zw h1)).trans h1,h2⟩
theorem zeY (q:IntKind) (k:Int):∀(l:List (Int × Value)) (es:List MapEntry) (i:Nat),es.map (λe=>(e.key,e.val))=l.map (λx=>(Value.int .i64 x.1,x.2))->
  ∃r,Instr.findNow (.int q) (.int .i64 k) es i=some r/\r.map (·.2)=qX l k/\(∀j v,r=some (j,v)->i<=j/\∃e,es[j - i]? =some e/\e.key= .int .i64 k/\
   ∀v':Value,(es.modify (j - i) (λe=> { e with key:= .int .i64 k,val:=v' })).map (λe=>(e.key,e.val))=(wI l k v').map (λx=>(Value.int .i64 x.1,x.2)))/\
   (r=none->∀v':Value,wI l k v'=l++ [(k,v')]):=by
 intro l
 induction l with
 |nil=>
  intro es i he
  have:es= [] :=by simpa using he
  subst this
  exact⟨none,rfl,rfl,by simp,by simp [wI]⟩
 |cons x l ih=>
 intro es i he
 cases es with
 |nil=>simp at he
 |cons e es=>
 simp only [List.map_cons,List.cons.injEq,Prod.mk.injEq] at he
 obtain⟨⟨h1,h2⟩,h3⟩:=he
 by_cases hk:x.1=k
 ·refine⟨some (i,e.val), ?_, ?_, ?_,by simp⟩
  ·simp [Instr.findNow,Instr.sameNow,h1,hk]
  ·simp [qX,hk,h2]
  intro j v hj
  simp only [Option.some.injEq,Prod.mk.injEq] at hj
  obtain⟨rfl,rfl⟩:=hj
  refine⟨Nat.le_refl _,e,by simp,by rw [h1,hk], ?_⟩
  intro v'
  simp [wI,hk,h3]
 obtain⟨r,g1,g2,g3,g4⟩:=ih es (i+1) h3
 refine⟨r, ?_, ?_, ?_, ?_⟩
 ·have hk':(k==x.1)=false:=beq_eq_false_iff_ne.2 λe=>hk e.symm
  simp only [Instr.findNow,Instr.sameNow,h1,if_true,hk',g1]
 ·simp [qX,hk,g2]
 ·intro j v hj
  obtain⟨m1,e',m2,m3,m4⟩:=g3 j v hj
  have hji:j - i=(j - (i+1))+1:=by omega
  refine⟨by omega,e',by rw [hji];simpa using m2,m3, ?_⟩
  intro v'
  rw [hji]
  simp [wI,hk,h1,h2,m4 v']
 intro hr v'
 simp [wI,hk,g4 hr v']
section
variable {P:Program} {w:World}
theorem zan (P:Program) (w:World) (em:Bool) (n:Nat) (k:TypeId) (q:IntKind) (hk:P.underlying k=some (.int q)) (v:Value):(Instr.checkKey em (n+1) k v).run P w= .ok () w:=by
 unfold Instr.checkKey
 simp [run_underlying hk]
theorem jW {b:Nat} {l:List (Int × Value)} (h:xM w b l) {t k e:TypeId} {q:IntKind} (ht:P.underlying t=some (.map k e)) (hk:P.underlying k=some (.int q)) {z:Value} (hz:(zeroValue e).run P w= .ok z w) (j:Int) (c:Bool):
  (Instr.lookup t (.map (some b)) (.int .i64 j) c).run P w= .ok (if c then .tuple #[(qX l j).getD z, .bool (qX l j).isSome] else(qX l j).getD z) w:=by
 obtain⟨es,clock,h1,h2⟩:=h
 obtain⟨r,g1,g2, -, -⟩:=zeY q j l es.toList 0 h2
 unfold Instr.lookup
 simp only [Sem.run_bind,run_underlying ht,Result.andThen_ok]
 have hgo:=MapKept.run_getObj_map (P:=P) h1
 simp only [Sem.run_bind,hgo,Result.andThen_ok,Sem.run_pure,zan P w _ 9999 k q hk,Instr.findKey,run_underlying hk,g1]
 cases r with
 |none=>simp only [Option.map_none] at g2;simp [<-g2,hz]
 |some x=>simp only [Option.map_some] at g2;simp [<-g2]
theorem zcF {b:Nat} {l:List (Int × Value)} (h:xM w b l) {t k e:TypeId} {q:IntKind} (ht:P.underlying t=some (.map k e)) (hk:P.underlying k=some (.int q)) (j:Int) (v:Value):
  ∃w',(Instr.mapUpdate t (.map (some b)) (.int .i64 j) v).run P w= .ok () w'/\xM w' b (wI l j v)/\Since (λk=>k=b) w w'/\w'.heap.size=w.heap.size:=by
 obtain⟨es,clock,h1,h2⟩:=h
 obtain⟨r,g1, -,g3,g4⟩:=zeY q j l es.toList 0 h2
 have hlt:=zw h1
 have hgo:=MapKept.run_getObj_map (P:=P) h1
 have hset:∀o:Obj,Since (λk=>k=b) w { w with heap:=w.heap.setIfInBounds b o } :=λo=>
  ⟨rfl,rfl,rfl,by simp,λi _ hi=>by
   show(w.heap.setIfInBounds b o)[i]? =_
   rw [Array.getElem?_setIfInBounds_ne (λe=>hi e.symm)]⟩
 have hat:∀o:Obj,({ w with heap:=w.heap.setIfInBounds b o } :World).heap[b]? =some o:=λo=>by
  show(w.heap.setIfInBounds b o)[b]? =_
  simp [hlt]
 cases r with
 |none=>
  refine⟨{ w with heap:=w.heap.setIfInBounds b (.map (es.push { key:= .int .i64 j,val:=v,born:=clock }) (clock+1)) }, ?_,⟨_,_,hat _, ?_⟩,hset _,by simp⟩
  ·unfold Instr.mapUpdate
   simp only [Sem.run_bind,run_underlying ht,Result.andThen_ok,hgo,zan P w _ 9999 k q hk,Instr.findKey,run_underlying hk,g1,Sem.run_pure]
   exact MapKept.run_setObj_map _ h1
  rw [g4 rfl v];simp [h2]
 |some x=>
 obtain⟨i,y⟩:=x
 obtain⟨-,e',m2,m3,m4⟩:=g3 i y rfl
 simp only [Nat.sub_zero] at m2 m4
 have hei:es[i]? =some e':=by simpa using m2
 refine⟨{ w with heap:=w.heap.setIfInBounds b (.map (es.modify i λe=> { e with key:= .int .i64 j,val:=v }) clock) }, ?_,⟨_,_,hat _, ?_⟩,hset _,by simp⟩
 ·unfold Instr.mapUpdate
  have hks:(Instr.keyThatStays (((es[i]?).map (·.key)).getD (.int .i64 j)) (.int .i64 j)).run P w= .ok (.int .i64 j) w:=by
   rw [hei];simp only [Option.map_some,Option.getD_some,m3,Instr.keyThatStays]
   rw [if_pos (by simp [Instr.sameBits])]
   rfl
  simp only [Sem.run_bind,run_underlying ht,Result.andThen_ok,hgo,zan P w _ 9999 k q hk,Instr.findKey,run_underlying hk,g1,Sem.run_pure,hks]
  exact MapKept.run_setObj_map _ h1
 have:=m4 v
 simpa [Array.toList_modify] using this
end
theorem vC {P:Program} (w:World) {ops:Array Oper} {rest:List Oper} {o:Oper} {a:Act} {Q:Exit->Act->World->Prop} (hgd:o.guard=none) (m k x:Operand) (t:TypeId) (ho:o.op= .insert t m k x)
  (key e:TypeId) (q:IntKind) (ht:P.underlying t=some (.map key e)) (hk:P.underlying key=some (.int q)) (b:Nat) (l:List (Int × Value)) (hm:a.eval m= .map (some b)) (j:Int) (hj:a.eval k= .int .i64 j) (v:Value) (hv:a.eval x=v) (h:xM w b l)
  (hK:∀w',xM w' b (wI l j v)->Since (λk=>k=b) w w'->w'.heap.size=w.heap.size->wpList P ops Q rest (a.put o.dst undef) w'):wpList P ops Q (o::rest) a w:=by
 refine wpList_plain hgd λK' hK'=> ?_
 obtain⟨w',hrun,r1,r2,r3⟩:=zcF (P:=P) h ht hk j v
 unfold Oper.wp
 simp [execOp,ho,hm,hj,hv,hrun,Result.andThen]
 exact hK' _ _ (hK w' r1 r2 r3)
theorem zeZ {P:Program} (w:World) {ops:Array Oper} {rest:List Oper} {o:Oper} {a:Act} {Q:Exit->Act->World->Prop} (hgd:o.guard=none) (m k x:Operand) (t:TypeId) (ho:o.op= .mapUpdate t m k x)
  (key e:TypeId) (q:IntKind) (ht:P.underlying t=some (.map key e)) (hk:P.underlying key=some (.int q)) (b:Nat) (l:List (Int × Value)) (hm:a.eval m= .map (some b)) (j:Int) (hj:a.eval k= .int .i64 j) (v:Value) (hv:a.eval x=v) (h:xM w b l)
  (hK:∀w',xM w' b (wI l j v)->Since (λk=>k=b) w w'->w'.heap.size=w.heap.size->wpList P ops Q rest (a.put o.dst undef) w'):wpList P ops Q (o::rest) a w:=by
 refine wpList_plain hgd λK' hK'=> ?_
 obtain⟨w',hrun,r1,r2,r3⟩:=zcF (P:=P) h ht hk j v
 unfold Oper.wp
 simp [execOp,ho,hm,hj,hv,hrun,Result.andThen]
 exact hK' _ _ (hK w' r1 r2 r3)
end Go.Proofs.YtliajkheeniljaaGreatDoor
namespace Go.Proofs.YtliajkheeniljaaGreatDoor
open Go.RowKit
set_option maxRecDepth 100000
set_option maxHeartbeats 16000000
def fmT (r v a b t o:Bool) (f:Nat):Value:= .agg #[.bool r, .bool v, .bool a, .bool b, .bool t, .bool o, .func (.func f) #[] #[]]
def fmL:List (Int × Value):= [(1,fmT true true false false false false 141),(2,fmT false true true false false false 142),(3,fmT true false true false false false 143),(4,fmT false false false false false false 144),(5,fmT false false false false false false 145),(6,fmT true true true true false false 146),(7,fmT false true false false false false 147),(8,fmT false true false false false false 148),(9,fmT false false true false false false 149),(10,fmT false false true false true true 150),(11,fmT false false true false true false 151)]
def zkH (l:List (Int × Value)) (w:World) (e:Ending) (w':World):Prop:=∃b,e= .returned (.map (some b))/\xM w' b l/\w.heap.size<=b/\Below w.heap.size w w'
theorem zov (w:World):Calls Tryz.prog 112 #[] w (zkH fmL w):=by
 have hmm:= @run_makeMap Tryz.prog
 have h0:xM (w.alloc (.map #[] 0)) w.heap.size [] :=⟨#[],0,yh w _,rfl⟩
 have hB0:Below w.heap.size w (w.alloc (.map #[] 0)):=(Below.refl _ _).alloc (Nat.le_refl _) _
 go_enter Tryz.func112,Tryz.ntmps112
 go_wp2_with(refine vC _ rfl _ _ _ 179 rfl 3 178 .i64 Tryz.underlying179 Tryz.underlying3 w.heap.size _ rfl _ rfl _ rfl h0 ?_;clear h0;intro w1 h0 hs1 hz1;replace hB0:=hB0.trans (hs1.below hB0.size (λk hk=>by omega));clear hs1 hz1)
 go_ret
 exact⟨w.heap.size,rfl,h0,Nat.le_refl _,hB0⟩
theorem zgc (w:World) (n m:Int) (h:Bool):Calls Tryz.prog 116 #[.int .i64 n, .int .i64 m, .bool h] w λe w'=>e= .returned (.bool (if h then decide (0<=n) && decide (n<m) else decide (n=0)))/\w'=w:=by
 cases h
 ·by_cases h0:n=0
  ·subst h0
   go_enter Tryz.func116,Tryz.ntmps116
   go_wp2_with fail
   go_ret
   exact⟨by first|rfl|simp,rfl⟩
  by_cases h1:0<=n
  ·by_cases h2:n<m
   ·go_enter Tryz.func116,Tryz.ntmps116
    go_wp2_with fail
    go_ret
    exact⟨by simp [h0],rfl⟩
   go_enter Tryz.func116,Tryz.ntmps116
   go_wp2_with fail
   go_ret
   exact⟨by simp [h0],rfl⟩
  go_enter Tryz.func116,Tryz.ntmps116
  go_wp2_with fail
  go_ret
  exact⟨by simp [h0],rfl⟩
 by_cases h0:n=0
 ·subst h0
  by_cases h2:0<m
  ·go_enter Tryz.func116,Tryz.ntmps116
   go_wp2_with fail
   go_ret
   exact⟨by simp [h2],rfl⟩
  go_enter Tryz.func116,Tryz.ntmps116
  go_wp2_with fail
  go_ret
  exact⟨by simp;omega,rfl⟩
 by_cases h1:0<=n
 ·by_cases h2:n<m
  ·go_enter Tryz.func116,Tryz.ntmps116
   go_wp2_with fail
   go_ret
   exact⟨by simp [h1,h2],rfl⟩
  go_enter Tryz.func116,Tryz.ntmps116
  go_wp2_with fail
  go_ret
  exact⟨by simp;omega,rfl⟩
 go_enter Tryz.func116,Tryz.ntmps116
 go_wp2_with fail
 go_ret
 exact⟨by simp;omega,rfl⟩
theorem zqf (w:World) (op:Int):Calls Tryz.prog 174 #[.int .u8 op] w λe w'=>(∃s:ByteArray,e= .returned (.string s)/\s.toList.isEmpty= !vU op)/\Below w.heap.size w w':=by
 have hcv:=zkI w op
 have HA:=qh ((Below.refl w.heap.size w).alloc (Nat.le_refl _) (.cells #[.int .u8 op] 5))
 by_cases hs:op=43\/op=45\/op=42\/op=60\/op=38\/op=124
 ·have hi:vU op=true:=by unfold vU;exact decide_eq_true (by omega)
  rw [hi]
  rcases hs with rfl|rfl|rfl|rfl|rfl|rfl<;>
  ·go_enter Tryz.func174,Tryz.ntmps174
   go_wp2_with fail
   go_ret
   exact⟨⟨_,rfl,zaS _⟩,HA.out⟩
 by_cases h7:op=61
 ·subst h7
  clear hs
  go_enter Tryz.func174,Tryz.ntmps174
  go_wp2_with fail
  go_ret
  exact⟨⟨_,rfl,by decide+kernel⟩,Below.refl _ _⟩
 by_cases h8:op=33
 ·subst h8
  clear hs
  go_enter Tryz.func174,Tryz.ntmps174
  go_wp2_with fail
  go_ret
  exact⟨⟨_,rfl,by decide+kernel⟩,Below.refl _ _⟩
 have hi:vU op=false:=by unfold vU;exact decide_eq_false (by omega)
 rw [hi]
 obtain⟨h1,h2,h3,h4,h5,h6⟩:op≠43/\op≠45/\op≠42/\op≠60/\op≠38/\op≠124:=by omega
 clear hs hi
 go_enter Tryz.func174,Tryz.ntmps174
 go_wp2_with fail
 go_ret
 exact⟨⟨_,rfl,by decide+kernel⟩,Below.refl _ _⟩
theorem zqg (w:World) (x:zN) (ka:Option Addr) (kc:Nat):Calls Tryz.prog 115 #[qd x (.slice ka x.kids.length kc)] w λe w'=>e= .returned (.bool (qR x))/\Below w.heap.size w w':=by
 obtain⟨k,n,o,l⟩:=x
 obtain⟨m,hm⟩:∃m,m=l.length:=⟨_,rfl⟩
 obtain⟨r,hr⟩:∃r,r=qR (.mk k n o l):=⟨_,rfl⟩
 rw [<-hr]
 have hr2:r=(decide (k=0) && decide (n=0) && decide (o=0) && decide (m=0)):=by rw [hr,hm];rfl
 have HR:=qh hr2
 unfold qd
 simp only [zN.kind,zN.n,zN.op,zN.kids]
 rw [<-hm]
 clear hr hr2 hm
 have HA:=qh ((Below.refl w.heap.size w).alloc (Nat.le_refl _) (.cells #[.int .i64 k, .int .i64 n, .int .u8 o, .slice ka m kc] 62))
 have xU:=qh (yh w (.cells #[.int .i64 k, .int .i64 n, .int .u8 o, .slice ka m kc] 62))
 go_enter Tryz.func115,Tryz.ntmps115
 go_upto_region 1 with fail
 generalize World.alloc w _=W at HA xU ⊢
 obtain⟨gx,hgx⟩:∃gx,gx=w.heap.size:=⟨_,rfl⟩
 rw [<-hgx] at xU ⊢
 clear hgx
 have c0:W.cell? ⟨gx,0,none⟩=some (.int .i64 k):=ze xU.out 0
 have c1:W.cell? ⟨gx,1,none⟩=some (.int .i64 n):=ze xU.out 1
 have c2:W.cell? ⟨gx,2,none⟩=some (.int .u8 o):=ze xU.out 2
 have c3:W.cell? ⟨gx,3,none⟩=some (.slice ka m kc):=ze xU.out 3
 by_cases a1:k=0
 rotate_left
 ·have b1:((k:Int)==0)=false:=by simp [a1]
  obtain rfl:r=false:=by rw [HR.out];simp [a1]
  clear HR a1
  go_wp2_with fail
  go_ret
  exact⟨by first|rfl|simp,HA.out⟩
 have b1:((k:Int)==0)=true:=by simp [a1]
 by_cases a2:n=0
 rotate_left
 ·have b2:((n:Int)==0)=false:=by simp [a2]
  obtain rfl:r=false:=by rw [HR.out];simp [a2]
  clear HR a1 a2
  go_wp2_with fail
  go_ret
  exact⟨by first|rfl|simp,HA.out⟩
 have b2:((n:Int)==0)=true:=by simp [a2]
 by_cases a3:o=0
 ·have b3:((o:Int)==0)=true:=by simp [a3]
  obtain rfl:r=decide (m=0):=by rw [HR.out];simp [a1,a2,a3]
  clear HR a1 a2 a3
  by_cases a4:m=0
  ·have b4:((m:Int)==0)=true:=by simp [a4]
   subst a4
   go_wp2_with fail
   go_ret
   exact⟨by first|rfl|simp,HA.out⟩
  have b4:((m:Int)==0)=false:=by simp [a4]
  go_wp2_with fail
  go_ret
  exact⟨by first|rfl|simp [a4],HA.out⟩
 have b3:((o:Int)==0)=false:=by simp [a3]
 obtain rfl:r=false:=by rw [HR.out];simp [a3]
 clear HR a1 a2 a3
 go_wp2_with fail
 go_ret
 exact⟨by first|rfl|simp,HA.out⟩
theorem zhy (w:World) (o1 o2 o3:Obj):Below w.heap.size w (((w.alloc o1).alloc o2).alloc o3)/\(((w.alloc o1).alloc o2).alloc o3).heap[w.heap.size]? =some o1/\(((w.alloc o1).alloc o2).alloc o3).heap[w.heap.size+1]? =some o2/\
  (((w.alloc o1).alloc o2).alloc o3).heap[w.heap.size+2]? =some o3/\(((w.alloc o1).alloc o2).alloc o3).heap.size=w.heap.size+3:=by
 have h3:=yh ((w.alloc o1).alloc o2) o3
 simp only [World.size_alloc] at h3
 refine⟨(xg w o1 o2).alloc (by simp;omega) _,(Below.heap_alloc _ _ _ (by simp;omega)).trans (xP w o1 o2),(Below.heap_alloc _ _ _ (by simp)).trans (xw w o1 o2),h3,by simp⟩
def zbp (ms:List zx) (i:Nat) (nx:List Int) (k:Nat):List (Int × zx × Nat):=if (i:Int)<nx.getD k 0/\k<ms.length then [(nx.getD k 0,ms.getD k default,i)] else []
def jy (ms:List zx) (i:Nat) (nx:List Int) (n:Nat):List (Int × zx × Nat):=(List.range n).flatMap (zbp ms i nx)
def qE (S:xR) (n:Nat):List (Int × zx × Nat):=(List.range n).flatMap λi=>jy (S.moves.getD i []) i (S.next.getD i []) (S.next.getD i []).length
def kF:List (Int × zx × Nat)->Int->Option (zx × Nat)
 | [],_=>none
 |e::l,n=>if e.1=n then some e.2 else kF l n
def zcZ (S:xR) (n:Int):Option (zx × Nat):=kF (qE S S.next.length) n
theorem zeB (a b:List (Int × zx × Nat)) (n:Int):kF (a++b) n=match kF a n with|some x=>some x|none=>kF b n:=by
 induction a with
 |nil=>rfl
 |cons e a ih=>
 simp only [List.cons_append,kF]
 split
 ·rfl
 exact ih
def zow (x:zx × Nat):Value:= .agg #[.int .i64 x.1.kind, .int .i64 x.1.thread, .int .i64 x.1.var, .int .i64 (x.2:Int)]
def jC (l:List (Int × Value)) (es:List (Int × zx × Nat)):Prop:=∀n,qX l n=(kF es n).map zow
theorem jC.had {l:List (Int × Value)} {es:List (Int × zx × Nat)} (h:jC l es) {e:Int × zx × Nat} (hh:(qX l e.1).isSome=true):jC l (es++ [e]):=λn=>by
 rw [zeB,h n]
 cases hf:kF es n with
 |some x=>rfl
 |none=>
 have:e.1≠n:=λq=>by rw [q,h n,hf] at hh;simp at hh
 simp [kF,this]
theorem jC.put {l:List (Int × Value)} {es:List (Int × zx × Nat)} (h:jC l es) {e:Int × zx × Nat} (hh:qX l e.1=none):jC (wI l e.1 (zow e.2)) (es++ [e]):=λn=>by
 rw [zeB,zou,h n]
 by_cases q:e.1=n
 ·rw [if_pos q]
  have:=h n
  rw [<-q,hh] at this
  have hf:kF es n=none:=by rw [<-q];simpa using this.symm
  rw [hf];simp [kF,q]
 rw [if_neg q]
 cases kF es n<;>simp [kF,q]
theorem zeC (W:World):(zeroValue 153).run Tryz.prog W= .ok (.agg #[.int .i64 0, .int .i64 0, .int .i64 0, .int .i64 0]) W:=by
 obtain⟨i,hi,hz, -⟩:=info_parts (show(Tryz.prog.info? 153).map (λi=>(i.zero,i.size,i.bytes))=some (some (.agg #[.int .i64 0, .int .i64 0, .int .i64 0, .int .i64 0]),4,32) by kernel_rfl)
 simp [zeroValue,typeInfo,hi,hz]
def znh (w:World) (S:xR) (e:Ending) (w':World):Prop:=∃(b:Nat) (l:List (Int × Value)),e= .returned (.map (some b))/\xM w' b l/\w.heap.size<=b/\jC l (qE S S.next.length)/\Below w.heap.size w w'
theorem zsS (w:World) (S:xR) (sv mv nv:Value) (h:qp w S sv mv nv) (hm:S.moves.length=S.next.length):Calls Tryz.prog 93 #[gL sv mv nv] w (znh w S):=by
 obtain⟨h1,h2,h3⟩:=h
 obtain⟨a1,c1,rfl, -⟩:=zh.slice h1
 obtain⟨a2,c2,rfl, -⟩:=zh.slice h2
 obtain⟨a3,c3,rfl,hl3⟩:=zh.slice h3
 obtain⟨n,hn⟩:∃n,n=S.next.length:=⟨_,rfl⟩
 rw [hm] at h2
 rw [<-hn] at h2 h3 hl3
 rw [hm, <-hn]
 generalize S.states.length=n1
 unfold gL
 have hB:=(Below.refl w.heap.size w).alloc (Nat.le_refl _) (.cells #[.slice a1 n1 c1, .slice a2 n c2, .slice a3 n c3] 71)
 have H1:=qh (yh w (.cells #[.slice a1 n1 c1, .slice a2 n c2, .slice a3 n c3] 71))
 have HM:=qh (zh.below kW.stays h2 hB)
 have HN:=qh (zh.below uS.stays h3 hB)
 have HB:=qh hB
 have HL:=qh hn
 have uT:=qh hm
 clear h1 h2 h3 hB hn hm
 have hmm:= @run_makeMap Tryz.prog
 go_enter Tryz.func93,Tryz.ntmps93
 go_upto_region 1 with fail
 generalize World.alloc w _=W at HB H1 HM HN ⊢
 obtain⟨gx,hgx⟩:∃gx,gx=w.heap.size:=⟨_,rfl⟩
 rw [<-hgx] at H1 ⊢
 have yS:=qh hgx
 clear hgx
 have h0:xM (W.alloc (.map #[] 0)) W.heap.size [] :=⟨#[],0,yh W _,rfl⟩
 have HM0:=qh h0
 have HB0:=qh ((Below.refl W.heap.size W).alloc (Nat.le_refl _) (.map #[] 0))
 clear h0
 go_upto_region 2 with fail
 clear hmm
 generalize World.alloc W _=W0 at HM0 HB0 ⊢
 obtain⟨gm,hgm⟩:∃g,g=W.heap.size:=⟨_,rfl⟩
 rw [<-hgm] at HM0 ⊢
 have HGM:=qh hgm
 clear hgm
 have HC:Hid (∀y,Below W.heap.size W y->y.cell? ⟨gx,1,none⟩=some (.slice a2 n c2)/\y.cell? ⟨gx,2,none⟩=some (.slice a3 n c3)):=λy hy=>⟨zi hy _ _ (ze H1.out 1),zi hy _ _ (ze H1.out 2)⟩
 obtain⟨q1,q2⟩:=HC.out W0 HB0.out
 go_wp2_with fail
 clear q1 q2
 go_loopg [14] n (λgg s14 wr=>∃(i:Nat) (l:List (Int × Value)),i<=n/\Hid (gg=n - i)/\s14= .int .i64 i/\Hid (xM wr gm l)/\Hid (jC l (qE S i))/\Hid (Below W.heap.size W wr))
 case atStart=>exact⟨0, [],Nat.zero_le _,rfl,rfl,HM0.out,λ_=>rfl,HB0.out⟩
 case round=>
 obtain⟨i,l,hi,HG,rfl,HMI,HHO,zL⟩:=hrel
 obtain⟨wo,rfl⟩:∃wo:World,wo=wr:=⟨_,rfl⟩
 clear HM0 HB0
 by_cases hlt:i<n
 rotate_left
 ·obtain rfl:n=i:=by omega
  have hend:znh w S (.returned (.map (some gm))) wo:=
   ⟨gm,l,rfl,HMI.out,by have:=HGM.out;have:=HB.out.size;omega,by rw [<-HL.out];exact HHO.out,HB.out.trans (zL.out.mono HB.out.size)⟩
  have zT:=qh hend
  clear hend
  go_wp2_with fail
  go_ret
  exact zT.out
 have qx:(i:Int)<(n:Int):=by omega
 obtain⟨nb,no,na,nc,zZ, -,x0,hni⟩:=zdR HN.out i (by rw [<-HL.out];exact hlt)
 subst zZ
 obtain⟨mb,mo,ma,mc,hfa, -,y0,hmi⟩:=zda HM.out i (by rw [uT.out, <-HL.out];exact hlt)
 subst hfa
 obtain⟨nx,hnx⟩:∃x,x=S.next.getD i [] :=⟨_,rfl⟩
 obtain⟨ms,hms⟩:∃x,x=S.moves.getD i [] :=⟨_,rfl⟩
 rw [<-hnx] at x0 hni
 rw [<-hms] at y0 hmi
 obtain⟨nn,hnn⟩:∃k,k=nx.length:=⟨_,rfl⟩
 obtain⟨mn,hmn⟩:∃k,k=ms.length:=⟨_,rfl⟩
 rw [<-hnn] at x0 hni
 rw [<-hmn] at y0 hmi
 have hnr:=zh.room hni
 have hn63:nn<=9223372036854775807:=by omega
 have HES:Hid (qE S (i+1)=qE S i++jy ms i nx nn):=by
  rw [Hid,qE,List.range_succ,List.flatMap_append,hms,hnn,hnx];simp [qE]
 have HNI:=qh hni
 have z4f:=qh hmi
 have HNN:=qh hnn
 have vO:=qh hmn
 have HX:Hid (∀y,Below W.heap.size W y->y.cell? ⟨nb,no+i,none⟩=some (.slice na nn nc)/\y.cell? ⟨mb,mo+i,none⟩=some (.slice ma mn mc)):=λy hy=>⟨zi hy _ _ x0,zi hy _ _ y0⟩
 clear x0 y0 hni hmi hnx hms hnn hmn hnr
 obtain⟨x0,y0⟩:=HX.out wo zL.out
 go_wp2_with fail
 clear x0 y0
 go_loopg [21] nn (λgg s21 wr=>∃(k:Nat) (l':List (Int × Value)),k<=nn/\Hid (gg=nn - k)/\s21= .int .i64 k/\Hid (xM wr gm l')/\Hid (jC l' (qE S i++jy ms i nx k))/\Hid (Below W.heap.size W wr))
 case atStart=>exact⟨0,l,Nat.zero_le _,rfl,rfl,HMI.out,by simpa [jy,Hid] using HHO.out,zL.out⟩
 case round=>
 obtain⟨k,l',hk,HG2,rfl,HMK,HHK,gu⟩:=hrel
 obtain⟨wk,rfl⟩:∃wo:World,wo=wr:=⟨_,rfl⟩
 clear HMI HHO zL
 by_cases hkl:k<nn
 rotate_left
 ·obtain rfl:nn=k:=by omega
  have HH2:Hid (jC l' (qE S (i+1))):=by rw [Hid,HES.out];exact HHK.out
  go_wp2_with fail
  go_roundg (n - (i+1))
  case measure=>rw [HG.out];omega
  case rel=>exact⟨i+1,l',by omega,rfl,by simp,HMK.out,HH2.out,gu.out⟩
 have hkI:(k:Int)<(nn:Int):=by omega
 obtain⟨eb,eo,zZ, -,z0⟩:=xI.part HNI.out k (by rw [<-HNN.out];exact hkl)
 subst zZ
 obtain⟨t,ht⟩:∃t,t=nx.getD k 0:=⟨_,rfl⟩
 rw [<-ht] at z0
 have HEI:Hid (jy ms i nx (k+1)=jy ms i nx k++zbp ms i nx k):=by rw [Hid,jy,List.range_succ,List.flatMap_append];simp [jy]
 have HT:=qh ht
 have hlk:=jW HMK.out Tryz.underlying149 Tryz.underlying3 (zeC wk) t true
 simp only [if_true] at hlk
 obtain⟨x0,y0⟩:=HX.out wk gu.out
 have z1:=zi gu.out _ _ z0
 clear ht z0
 obtain⟨v0,v1,v2,v3,hv⟩:∃a b c d:Int,(qX l' t).getD (.agg #[.int .i64 0, .int .i64 0, .int .i64 0, .int .i64 0])= .agg #[.int .i64 a, .int .i64 b, .int .i64 c, .int .i64 d] :=by
  rw [HHK.out t]
  cases kF (qE S i++jy ms i nx k) t with
  |none=>exact⟨0,0,0,0,rfl⟩
  |some x=>exact⟨_,_,_,_,rfl⟩
 rw [hv] at hlk
 clear hv
 obtain⟨had,zsU⟩:∃b,b=(qX l' t).isSome:=⟨_,rfl⟩
 rw [<-zsU] at hlk
 have HHD:=qh zsU
 clear zsU
 go_upto_region 9 with fail
 have hA:Below wk.heap.size wk (wk.alloc (.cells #[.int .i64 v0, .int .i64 v1, .int .i64 v2, .int .i64 v3] 153)):=(Below.refl _ _).alloc (Nat.le_refl _) _
 have zfb:=qh (HMK.out.below hA)
 have zdS:=qh (zF gu.out hA)
 clear hA hlk HMK gu x0 y0 z1
 generalize World.alloc wk _=W3 at zfb zdS ⊢
 obtain⟨q1,q2⟩:=HC.out W3 zdS.out
 obtain⟨x0,y0⟩:=HX.out W3 zdS.out
 cases had with
 |true=>
  have HH2:Hid (jC l' (qE S i++jy ms i nx (k+1))):=by
   rw [Hid,HEI.out, <-List.append_assoc]
   unfold zbp
   split
   ·exact HHK.out.had (by rw [<-HT.out];exact HHD.out.symm)
   rw [List.append_nil];exact HHK.out
  go_wp2_with fail
  go_roundg (nn - (k+1))
  case measure=>rw [HG2.out];omega
  case rel=>exact⟨k+1,l',by omega,rfl,by simp,zfb.out,HH2.out,zdS.out⟩
 |false=>
 have hno:qX l' t=none:=by
  have:=HHD.out
  cases h:qX l' t with
  |none=>rfl
  |some x=>rw [h] at this;cases this
 have HNO:=qh hno
 clear hno
 by_cases h1:(i:Int)<t
 rotate_left
 ·have h1I:t<=(i:Int):=by omega
  have HH2:Hid (jC l' (qE S i++jy ms i nx (k+1))):=by
   rw [Hid,HEI.out,zbp,if_neg (by rw [<-HT.out];omega),List.append_nil];exact HHK.out
  go_wp2_with fail
  go_roundg (nn - (k+1))
  case measure=>rw [HG2.out];omega
  case rel=>exact⟨k+1,l',by omega,rfl,by simp,zfb.out,HH2.out,zdS.out⟩
 by_cases h2:k<mn
 rotate_left
 ·have h2I:(mn:Int)<=(k:Int):=by omega
  have HH2:Hid (jC l' (qE S i++jy ms i nx (k+1))):=by
   rw [Hid,HEI.out,zbp,if_neg (by rw [<-vO.out];omega),List.append_nil];exact HHK.out
  go_wp2_with fail
  go_roundg (nn - (k+1))
  case measure=>rw [HG2.out];omega
  case rel=>exact⟨k+1,l',by omega,rfl,by simp,zfb.out,HH2.out,zdS.out⟩
 have h2I:(k:Int)<(mn:Int):=by omega
 obtain⟨gb,go_,hga, -,m0,m1,m2⟩:=qH.part (zh.below zbF.stays z4f.out zdS.out) k (by rw [<-vO.out];exact h2)
 subst hga
 obtain⟨x,hx⟩:∃x,x=ms.getD k default:=⟨_,rfl⟩
 rw [<-hx] at m0 m1 m2
 have HEW:Hid (zbp ms i nx k= [(t,x,i)]):=by
  rw [Hid,zbp,if_pos ⟨by rw [<-HT.out];exact h1,by rw [<-vO.out];exact h2⟩, <-HT.out, <-hx]
 obtain⟨xk,xt,xv⟩:=x
 simp only [] at m0 m1 m2
 clear hx
 go_wp2_with(refine zeZ _ rfl _ _ _ 149 rfl 3 153 .i64 Tryz.underlying149 Tryz.underlying3 gm l' rfl t rfl (.agg #[.int .i64 xk, .int .i64 xt, .int .i64 xv, .int .i64 (i:Int)]) rfl zfb.out ?_;intro W4 hm4 hs4 hz4;have HM4:=qh hm4;have jq:Hid (Below W.heap.size W W4):=zdS.out.trans (hs4.below zdS.out.size (λk hk=>by have:=HGM.out;omega));clear hm4 hs4 hz4)
 have HH2:Hid (jC (wI l' t (.agg #[.int .i64 xk, .int .i64 xt, .int .i64 xv, .int .i64 (i:Int)])) (qE S i++jy ms i nx (k+1))):=by
  rw [Hid,HEI.out, <-List.append_assoc,HEW.out]
  exact HHK.out.put (e:=(t,⟨xk,xt,xv⟩,i)) HNO.out
 go_roundg (nn - (k+1))
 case measure=>rw [HG2.out];omega
 case rel=>exact⟨k+1,_,by omega,rfl,by simp,HM4.out,HH2.out,jq.out⟩
