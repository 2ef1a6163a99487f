/- Steps. -/
import Derived.Test.YtknmdmimecepfaaGreatDoorVgExpr2
import Derived.Test.YtknmdmimecepfaaGreatDoorVgKFuncs
set_option linter.all false
namespace Go.Proofs.YtknmdmimecepfaaGreatDoor
open Go.RowKit
set_option maxRecDepth 100000
set_option maxHeartbeats 16000000
def kr (w:World) (b:Nat) (l:List (Int × Value)):Prop:=
 ∃es clock,w.heap[b]? =some (.map es clock)/\es.toList.map (λe=>(e.key,e.val))=l.map (λx=>(Value.int .i64 x.1,x.2))
def jF:List (Int × Value)->Int->Option Value
 | [],_=>none
 |x::l,k=>if x.1=k then some x.2 else jF l k
def kI:List (Int × Value)->Int->Value->List (Int × Value)
 | [],k,v=> [(k,v)]
 |x::l,k,v=>if x.1=k then(k,v)::l else x::kI l k v
theorem zcm (q:IntKind) (k:Int):∀(l:List (Int × Value)) (es:List MapEntry) (i:Nat),es.map (λe=>(e.key,e.val))=l.map (λx=>(Value.int .i64 x.1,x.2))->
  ∃r,Instr.findNow (.int q) (.int .i64 k) es i=some r/\r.map (·.2)=jF l k/\(∀j v,r=some (j,v)->i<=j/\∃e,es[j - i]? =some e/\e.key= .int .i64 k/\
   ∀v':Value,(es.modify (j - i) (λe=> { e with key:= .int .i64 k,val:=v' })).map (λe=>(e.key,e.val))=(kI l k v').map (λx=>(Value.int .i64 x.1,x.2)))/\
   (r=none->∀v':Value,kI l k v'=l++ [(k,v')]):=by
 intro l
 induction l with
 |nil=>
  intro es i he
  have:es= [] :=by simpa using he
  subst this
  exact⟨none,rfl,rfl,by simp,by simp [kI]⟩
 |cons x l ih=>
 intro es i he
 cases es with
 |nil=>simp at he
 |cons e es=>
 simp only [List.map_cons,List.cons.injEq,Prod.mk.injEq] at he
 obtain⟨⟨h1,h2⟩,h3⟩:=he
 by_cases hk:x.1=k
 ·refine⟨some (i,e.val), ?_, ?_, ?_,by simp⟩
  ·simp [Instr.findNow,Instr.sameNow,h1,hk]
  ·simp [jF,hk,h2]
  intro j v hj
  simp only [Option.some.injEq,Prod.mk.injEq] at hj
  obtain⟨rfl,rfl⟩:=hj
  refine⟨Nat.le_refl _,e,by simp,by rw [h1,hk], ?_⟩
  intro v'
  simp [kI,hk,h3]
 obtain⟨r,g1,g2,g3,g4⟩:=ih es (i+1) h3
 refine⟨r, ?_, ?_, ?_, ?_⟩
 ·have hk':(k==x.1)=false:=beq_eq_false_iff_ne.2 λe=>hk e.symm
  simp only [Instr.findNow,Instr.sameNow,h1,if_true,hk',g1]
 ·simp [jF,hk,g2]
 ·intro j v hj
  obtain⟨m1,e',m2,m3,m4⟩:=g3 j v hj
  have hji:j - i=(j - (i+1))+1:=by omega
  refine⟨by omega,e',by rw [hji];simpa using m2,m3, ?_⟩
  intro v'
  rw [hji]
  simp [kI,hk,h1,h2,m4 v']
 intro hr v'
 simp [kI,hk,g4 hr v']
section
variable {P:Program} {w:World}
theorem kY (P:Program) (w:World) (em:Bool) (n:Nat) (k:TypeId) (q:IntKind) (hk:P.underlying k=some (.int q)) (v:Value):(Instr.checkKey em (n+1) k v).run P w= .ok () w:=by
 unfold Instr.checkKey
 simp [run_underlying hk]
theorem gF {b:Nat} {l:List (Int × Value)} (h:kr w b l) {t k e:TypeId} {q:IntKind} (ht:P.underlying t=some (.map k e)) (hk:P.underlying k=some (.int q)) {z:Value} (hz:(zeroValue e).run P w= .ok z w) (j:Int) (c:Bool):
  (Instr.lookup t (.map (some b)) (.int .i64 j) c).run P w= .ok (if c then .tuple #[(jF l j).getD z, .bool (jF l j).isSome] else(jF l j).getD z) w:=by
 obtain⟨es,clock,h1,h2⟩:=h
 obtain⟨r,g1,g2, -, -⟩:=zcm q j l es.toList 0 h2
 unfold Instr.lookup
 simp only [Sem.run_bind,run_underlying ht,Result.andThen_ok]
 have hgo:=MapKept.run_getObj_map (P:=P) h1
 simp only [Sem.run_bind,hgo,Result.andThen_ok,Sem.run_pure,kY P w _ 9999 k q hk,Instr.findKey,run_underlying hk,g1]
 cases r with
 |none=>simp only [Option.map_none] at g2;simp [<-g2,hz]
 |some x=>simp only [Option.map_some] at g2;simp [<-g2]
theorem ze4 {b:Nat} {l:List (Int × Value)} (h:kr w b l) {t k e:TypeId} {q:IntKind} (ht:P.underlying t=some (.map k e)) (hk:P.underlying k=some (.int q)) (j:Int) (v:Value):
  ∃w',(Instr.mapUpdate t (.map (some b)) (.int .i64 j) v).run P w= .ok () w'/\kr w' b (kI l j v)/\Since (λk=>k=b) w w'/\w'.heap.size=w.heap.size:=by
 obtain⟨es,clock,h1,h2⟩:=h
 obtain⟨r,g1, -,g3,g4⟩:=zcm q j l es.toList 0 h2
 have hlt:=zB h1
 have hgo:=MapKept.run_getObj_map (P:=P) h1
 have hset:∀o:Obj,Since (λk=>k=b) w { w with heap:=w.heap.setIfInBounds b o } :=λo=>
  ⟨rfl,rfl,rfl,by simp,λi _ hi=>by
   show(w.heap.setIfInBounds b o)[i]? =_
   rw [Array.getElem?_setIfInBounds_ne (λe=>hi e.symm)]⟩
 have hat:∀o:Obj,({ w with heap:=w.heap.setIfInBounds b o } :World).heap[b]? =some o:=λo=>by
  show(w.heap.setIfInBounds b o)[b]? =_
  simp [hlt]
 cases r with
 |none=>
  refine⟨{ w with heap:=w.heap.setIfInBounds b (.map (es.push { key:= .int .i64 j,val:=v,born:=clock }) (clock+1)) }, ?_,⟨_,_,hat _, ?_⟩,hset _,by simp⟩
  ·unfold Instr.mapUpdate
   simp only [Sem.run_bind,run_underlying ht,Result.andThen_ok,hgo,kY P w _ 9999 k q hk,Instr.findKey,run_underlying hk,g1,Sem.run_pure]
   exact MapKept.run_setObj_map _ h1
  rw [g4 rfl v];simp [h2]
 |some x=>
 obtain⟨i,y⟩:=x
 obtain⟨-,e',m2,m3,m4⟩:=g3 i y rfl
 simp only [Nat.sub_zero] at m2 m4
 have hei:es[i]? =some e':=by simpa using m2
 refine⟨{ w with heap:=w.heap.setIfInBounds b (.map (es.modify i λe=> { e with key:= .int .i64 j,val:=v }) clock) }, ?_,⟨_,_,hat _, ?_⟩,hset _,by simp⟩
 ·unfold Instr.mapUpdate
  have hks:(Instr.keyThatStays (((es[i]?).map (·.key)).getD (.int .i64 j)) (.int .i64 j)).run P w= .ok (.int .i64 j) w:=by
   rw [hei];simp only [Option.map_some,Option.getD_some,m3,Instr.keyThatStays]
   rw [if_pos (by simp [Instr.sameBits])]
   rfl
  simp only [Sem.run_bind,run_underlying ht,Result.andThen_ok,hgo,kY P w _ 9999 k q hk,Instr.findKey,run_underlying hk,g1,Sem.run_pure,hks]
  exact MapKept.run_setObj_map _ h1
 have:=m4 v
 simpa [Array.toList_modify] using this
end
theorem qH {P:Program} (w:World) {ops:Array Oper} {rest:List Oper} {o:Oper} {a:Act} {Q:Exit->Act->World->Prop} (hgd:o.guard=none) (m k x:Operand) (t:TypeId) (ho:o.op= .insert t m k x)
  (key e:TypeId) (q:IntKind) (ht:P.underlying t=some (.map key e)) (hk:P.underlying key=some (.int q)) (b:Nat) (l:List (Int × Value)) (hm:a.eval m= .map (some b)) (j:Int) (hj:a.eval k= .int .i64 j) (v:Value) (hv:a.eval x=v) (h:kr w b l)
  (hK:∀w',kr w' b (kI l j v)->Since (λk=>k=b) w w'->w'.heap.size=w.heap.size->wpList P ops Q rest (a.put o.dst undef) w'):wpList P ops Q (o::rest) a w:=by
 refine wpList_plain hgd λK' hK'=> ?_
 obtain⟨w',hrun,r1,r2,r3⟩:=ze4 (P:=P) h ht hk j v
 unfold Oper.wp
 simp [execOp,ho,hm,hj,hv,hrun,Result.andThen]
 exact hK' _ _ (hK w' r1 r2 r3)
end Go.Proofs.YtknmdmimecepfaaGreatDoor
namespace Go.Proofs.YtknmdmimecepfaaGreatDoor
open Go.RowKit
set_option maxRecDepth 100000
set_option maxHeartbeats 16000000
def fmT (r v a b t o:Bool) (f:Nat):Value:= .agg #[.bool r, .bool v, .bool a, .bool b, .bool t, .bool o, .func (.func f) #[] #[]]
def fmL:List (Int × Value):= [(1,fmT true true false false false false 127),(2,fmT false true true false false false 128),(3,fmT true false true false false false 129),(4,fmT false false false false false false 130),(5,fmT false false false false false false 131),(6,fmT true true true true false false 132),(7,fmT false true false false false false 133),(8,fmT false true false false false false 134),(9,fmT false false true false false false 135),(10,fmT false false true false true true 136),(11,fmT false false true false true false 137)]
def zn7 (l:List (Int × Value)) (w:World) (e:Ending) (w':World):Prop:=∃b,e= .returned (.map (some b))/\kr w' b l/\w.heap.size<=b/\Below w.heap.size w w'
theorem zjZ (w:World):Calls Tryz.prog 105 #[] w (zn7 fmL w):=by
 have hmm:= @run_makeMap Tryz.prog
 have h0:kr (w.alloc (.map #[] 0)) w.heap.size [] :=⟨#[],0,zT w _,rfl⟩
 have hB0:Below w.heap.size w (w.alloc (.map #[] 0)):=(Below.refl _ _).alloc (Nat.le_refl _) _
 go_enter Tryz.func105,Tryz.ntmps105
 go_wp2_with(refine qH _ rfl _ _ _ 181 rfl 3 180 .i64 Tryz.underlying181 Tryz.underlying3 w.heap.size _ rfl _ rfl _ rfl h0 ?_;clear h0;intro w1 h0 hs1 hz1;replace hB0:=hB0.trans (hs1.below hB0.size (λk hk=>by omega));clear hs1 hz1)
 go_ret
 exact⟨w.heap.size,rfl,h0,Nat.le_refl _,hB0⟩
theorem zds (w:World) (n m:Int) (h:Bool):Calls Tryz.prog 109 #[.int .i64 n, .int .i64 m, .bool h] w λe w'=>e= .returned (.bool (if h then decide (0<=n) && decide (n<m) else decide (n=0)))/\w'=w:=by
 cases h
 ·by_cases h0:n=0
  ·subst h0
   go_enter Tryz.func109,Tryz.ntmps109
   go_wp2_with fail
   go_ret
   exact⟨by first|rfl|simp,rfl⟩
  by_cases h1:0<=n
  ·by_cases h2:n<m
   ·go_enter Tryz.func109,Tryz.ntmps109
    go_wp2_with fail
    go_ret
    exact⟨by simp [h0],rfl⟩
   go_enter Tryz.func109,Tryz.ntmps109
   go_wp2_with fail
   go_ret
   exact⟨by simp [h0],rfl⟩
  go_enter Tryz.func109,Tryz.ntmps109
  go_wp2_with fail
  go_ret
  exact⟨by simp [h0],rfl⟩
 by_cases h0:n=0
 ·subst h0
  by_cases h2:0<m
  ·go_enter Tryz.func109,Tryz.ntmps109
   go_wp2_with fail
   go_ret
   exact⟨by simp [h2],rfl⟩
  go_enter Tryz.func109,Tryz.ntmps109
  go_wp2_with fail
  go_ret
  exact⟨by simp;omega,rfl⟩
 by_cases h1:0<=n
 ·by_cases h2:n<m
  ·go_enter Tryz.func109,Tryz.ntmps109
   go_wp2_with fail
   go_ret
   exact⟨by simp [h1,h2],rfl⟩
  go_enter Tryz.func109,Tryz.ntmps109
  go_wp2_with fail
  go_ret
  exact⟨by simp;omega,rfl⟩
 go_enter Tryz.func109,Tryz.ntmps109
 go_wp2_with fail
 go_ret
 exact⟨by simp;omega,rfl⟩
theorem zlH (w:World) (op:Int):Calls Tryz.prog 146 #[.int .u8 op] w λe w'=>(∃s:ByteArray,e= .returned (.string s)/\s.toList.isEmpty= !qo op)/\Below w.heap.size w w':=by
 have hcv:=zhl w op
 have HA:=qh ((Below.refl w.heap.size w).alloc (Nat.le_refl _) (.cells #[.int .u8 op] 5))
 by_cases hs:op=43\/op=45\/op=42\/op=60\/op=38\/op=124
 ·have hi:qo op=true:=by unfold qo;exact decide_eq_true (by omega)
  rw [hi]
  rcases hs with rfl|rfl|rfl|rfl|rfl|rfl<;>
  ·go_enter Tryz.func146,Tryz.ntmps146
   go_wp2_with fail
   go_ret
   exact⟨⟨_,rfl,uD _⟩,HA.out⟩
 by_cases h7:op=61
 ·subst h7
  clear hs
  go_enter Tryz.func146,Tryz.ntmps146
  go_wp2_with fail
  go_ret
  exact⟨⟨_,rfl,by decide+kernel⟩,Below.refl _ _⟩
 by_cases h8:op=33
 ·subst h8
  clear hs
  go_enter Tryz.func146,Tryz.ntmps146
  go_wp2_with fail
  go_ret
  exact⟨⟨_,rfl,by decide+kernel⟩,Below.refl _ _⟩
 have hi:qo op=false:=by unfold qo;exact decide_eq_false (by omega)
 rw [hi]
 obtain⟨h1,h2,h3,h4,h5,h6⟩:op≠43/\op≠45/\op≠42/\op≠60/\op≠38/\op≠124:=by omega
 clear hs hi
 go_enter Tryz.func146,Tryz.ntmps146
 go_wp2_with fail
 go_ret
 exact⟨⟨_,rfl,by decide+kernel⟩,Below.refl _ _⟩
theorem zlI (w:World) (x:zx) (ka:Option Addr) (kc:Nat):Calls Tryz.prog 108 #[yX x (.slice ka x.kids.length kc)] w λe w'=>e= .returned (.bool (xI x))/\Below w.heap.size w w':=by
 obtain⟨k,n,o,l⟩:=x
 obtain⟨m,hm⟩:∃m,m=l.length:=⟨_,rfl⟩
 obtain⟨r,hr⟩:∃r,r=xI (.mk k n o l):=⟨_,rfl⟩
 rw [<-hr]
 have hr2:r=(decide (k=0) && decide (n=0) && decide (o=0) && decide (m=0)):=by rw [hr,hm];rfl
 have HR:=qh hr2
 unfold yX
 simp only [zx.kind,zx.n,zx.op,zx.kids]
 rw [<-hm]
 clear hr hr2 hm
 have HA:=qh ((Below.refl w.heap.size w).alloc (Nat.le_refl _) (.cells #[.int .i64 k, .int .i64 n, .int .u8 o, .slice ka m kc] 43))
 have yx:=qh (zT w (.cells #[.int .i64 k, .int .i64 n, .int .u8 o, .slice ka m kc] 43))
 go_enter Tryz.func108,Tryz.ntmps108
 go_upto_region 1 with fail
 generalize World.alloc w _=W at HA yx ⊢
 obtain⟨gx,hgx⟩:∃gx,gx=w.heap.size:=⟨_,rfl⟩
 rw [<-hgx] at yx ⊢
 clear hgx
 have c0:W.cell? ⟨gx,0,none⟩=some (.int .i64 k):=za yx.out 0
 have c1:W.cell? ⟨gx,1,none⟩=some (.int .i64 n):=za yx.out 1
 have c2:W.cell? ⟨gx,2,none⟩=some (.int .u8 o):=za yx.out 2
 have c3:W.cell? ⟨gx,3,none⟩=some (.slice ka m kc):=za yx.out 3
 by_cases a1:k=0
 rotate_left
 ·have b1:((k:Int)==0)=false:=by simp [a1]
  obtain rfl:r=false:=by rw [HR.out];simp [a1]
  clear HR a1
  go_wp2_with fail
  go_ret
  exact⟨by first|rfl|simp,HA.out⟩
 have b1:((k:Int)==0)=true:=by simp [a1]
 by_cases a2:n=0
 rotate_left
 ·have b2:((n:Int)==0)=false:=by simp [a2]
  obtain rfl:r=false:=by rw [HR.out];simp [a2]
  clear HR a1 a2
  go_wp2_with fail
  go_ret
  exact⟨by first|rfl|simp,HA.out⟩
 have b2:((n:Int)==0)=true:=by simp [a2]
 by_cases a3:o=0
 ·have b3:((o:Int)==0)=true:=by simp [a3]
  obtain rfl:r=decide (m=0):=by rw [HR.out];simp [a1,a2,a3]
  clear HR a1 a2 a3
  by_cases a4:m=0
  ·have b4:((m:Int)==0)=true:=by simp [a4]
   subst a4
   go_wp2_with fail
   go_ret
   exact⟨by first|rfl|simp,HA.out⟩
  have b4:((m:Int)==0)=false:=by simp [a4]
  go_wp2_with fail
  go_ret
  exact⟨by first|rfl|simp [a4],HA.out⟩
 have b3:((o:Int)==0)=false:=by simp [a3]
 obtain rfl:r=false:=by rw [HR.out];simp [a3]
 clear HR a1 a2 a3
 go_wp2_with fail
 go_ret
 exact⟨by first|rfl|simp,HA.out⟩
theorem zhm (w:World) (o1 o2 o3:Obj):Below w.heap.size w (((w.alloc o1).alloc o2).alloc o3)/\(((w.alloc o1).alloc o2).alloc o3).heap[w.heap.size]? =some o1/\(((w.alloc o1).alloc o2).alloc o3).heap[w.heap.size+1]? =some o2/\
  (((w.alloc o1).alloc o2).alloc o3).heap[w.heap.size+2]? =some o3/\(((w.alloc o1).alloc o2).alloc o3).heap.size=w.heap.size+3:=by
 have h3:=zT ((w.alloc o1).alloc o2) o3
 simp only [World.size_alloc] at h3
 refine⟨(qJ w o1 o2).alloc (by simp;omega) _,(Below.heap_alloc _ _ _ (by simp;omega)).trans (qm w o1 o2),(Below.heap_alloc _ _ _ (by simp)).trans (xA w o1 o2),h3,by simp⟩
