/- Steps. -/
import Derived.Test.YtknmdmimecepfaaGreatDoorVhBase
set_option linter.all false
namespace Go.Proofs.YtknmdmimecepfaaGreatDoor
open Go.RowKit
set_option maxRecDepth 100000
set_option maxHeartbeats 16000000
def vZ (w:World) (b:Nat) (l:List (Int × Value)):Prop:=
 ∃es clock,w.heap[b]? =some (.map es clock)/\es.toList.map (λe=>(e.key,e.val))=l.map (λx=>(Value.int .i64 x.1,x.2))
def vL:List (Int × Value)->Int->Option Value
 | [],_=>none
 |x::l,k=>if x.1=k then some x.2 else vL l k
def jg:List (Int × Value)->Int->Value->List (Int × Value)
 | [],k,v=> [(k,v)]
 |x::l,k,v=>if x.1=k then(k,v)::l else x::jg l k v
theorem zb1 (q:IntKind) (k:Int):∀(l:List (Int × Value)) (es:List MapEntry) (i:Nat),es.map (λe=>(e.key,e.val))=l.map (λx=>(Value.int .i64 x.1,x.2))->
  ∃r,Instr.findNow (.int q) (.int .i64 k) es i=some r/\r.map (·.2)=vL l k/\(∀j v,r=some (j,v)->i<=j/\∃e,es[j - i]? =some e/\e.key= .int .i64 k/\
   ∀v':Value,(es.modify (j - i) (λe=> { e with key:= .int .i64 k,val:=v' })).map (λe=>(e.key,e.val))=(jg l k v').map (λx=>(Value.int .i64 x.1,x.2)))/\
   (r=none->∀v':Value,jg l k v'=l++ [(k,v')]):=by
 intro l
 induction l with
 |nil=>
  intro es i he
  have:es= [] :=by simpa using he
  subst this
  exact⟨none,rfl,rfl,by simp,by simp [jg]⟩
 |cons x l ih=>
 intro es i he
 cases es with
 |nil=>simp at he
 |cons e es=>
 simp only [List.map_cons,List.cons.injEq,Prod.mk.injEq] at he
 obtain⟨⟨h1,h2⟩,h3⟩:=he
 by_cases hk:x.1=k
 ·refine⟨some (i,e.val), ?_, ?_, ?_,by simp⟩
  ·simp [Instr.findNow,Instr.sameNow,h1,hk]
  ·simp [vL,hk,h2]
  intro j v hj
  simp only [Option.some.injEq,Prod.mk.injEq] at hj
  obtain⟨rfl,rfl⟩:=hj
  refine⟨Nat.le_refl _,e,by simp,by rw [h1,hk], ?_⟩
  intro v'
  simp [jg,hk,h3]
 obtain⟨r,g1,g2,g3,g4⟩:=ih es (i+1) h3
 refine⟨r, ?_, ?_, ?_, ?_⟩
 ·have hk':(k==x.1)=false:=beq_eq_false_iff_ne.2 λe=>hk e.symm
  simp only [Instr.findNow,Instr.sameNow,h1,if_true,hk',g1]
 ·simp [vL,hk,g2]
 ·intro j v hj
  obtain⟨m1,e',m2,m3,m4⟩:=g3 j v hj
  have hji:j - i=(j - (i+1))+1:=by omega
  refine⟨by omega,e',by rw [hji];simpa using m2,m3, ?_⟩
  intro v'
  rw [hji]
  simp [jg,hk,h1,h2,m4 v']
 intro hr v'
 simp [jg,hk,g4 hr v']
section
variable {P:Program} {w:World}
theorem jA (P:Program) (w:World) (em:Bool) (n:Nat) (k:TypeId) (q:IntKind) (hk:P.underlying k=some (.int q)) (v:Value):(Instr.checkKey em (n+1) k v).run P w= .ok () w:=by
 unfold Instr.checkKey
 simp [run_underlying hk]
theorem jW {b:Nat} {l:List (Int × Value)} (h:vZ w b l) {t k e:TypeId} {q:IntKind} (ht:P.underlying t=some (.map k e)) (hk:P.underlying k=some (.int q)) {z:Value} (hz:(zeroValue e).run P w= .ok z w) (j:Int) (c:Bool):
  (Instr.lookup t (.map (some b)) (.int .i64 j) c).run P w= .ok (if c then .tuple #[(vL l j).getD z, .bool (vL l j).isSome] else(vL l j).getD z) w:=by
 obtain⟨es,clock,h1,h2⟩:=h
 obtain⟨r,g1,g2, -, -⟩:=zb1 q j l es.toList 0 h2
 unfold Instr.lookup
 simp only [Sem.run_bind,run_underlying ht,Result.andThen_ok]
 have hgo:=MapKept.run_getObj_map (P:=P) h1
 simp only [Sem.run_bind,hgo,Result.andThen_ok,Sem.run_pure,jA P w _ 9999 k q hk,Instr.findKey,run_underlying hk,g1]
 cases r with
 |none=>simp only [Option.map_none] at g2;simp [<-g2,hz]
 |some x=>simp only [Option.map_some] at g2;simp [<-g2]
theorem zdv {b:Nat} {l:List (Int × Value)} (h:vZ w b l) {t k e:TypeId} {q:IntKind} (ht:P.underlying t=some (.map k e)) (hk:P.underlying k=some (.int q)) (j:Int) (v:Value):
  ∃w',(Instr.mapUpdate t (.map (some b)) (.int .i64 j) v).run P w= .ok () w'/\vZ w' b (jg l j v)/\Since (λk=>k=b) w w'/\w'.heap.size=w.heap.size:=by
 obtain⟨es,clock,h1,h2⟩:=h
 obtain⟨r,g1, -,g3,g4⟩:=zb1 q j l es.toList 0 h2
 have hlt:=zI h1
 have hgo:=MapKept.run_getObj_map (P:=P) h1
 have hset:∀o:Obj,Since (λk=>k=b) w { w with heap:=w.heap.setIfInBounds b o } :=λo=>
  ⟨rfl,rfl,rfl,by simp,λi _ hi=>by
   show(w.heap.setIfInBounds b o)[i]? =_
   rw [Array.getElem?_setIfInBounds_ne (λe=>hi e.symm)]⟩
 have hat:∀o:Obj,({ w with heap:=w.heap.setIfInBounds b o } :World).heap[b]? =some o:=λo=>by
  show(w.heap.setIfInBounds b o)[b]? =_
  simp [hlt]
 cases r with
 |none=>
  refine⟨{ w with heap:=w.heap.setIfInBounds b (.map (es.push { key:= .int .i64 j,val:=v,born:=clock }) (clock+1)) }, ?_,⟨_,_,hat _, ?_⟩,hset _,by simp⟩
  ·unfold Instr.mapUpdate
   simp only [Sem.run_bind,run_underlying ht,Result.andThen_ok,hgo,jA P w _ 9999 k q hk,Instr.findKey,run_underlying hk,g1,Sem.run_pure]
   exact MapKept.run_setObj_map _ h1
  rw [g4 rfl v];simp [h2]
 |some x=>
 obtain⟨i,y⟩:=x
 obtain⟨-,e',m2,m3,m4⟩:=g3 i y rfl
 simp only [Nat.sub_zero] at m2 m4
 have hei:es[i]? =some e':=by simpa using m2
 refine⟨{ w with heap:=w.heap.setIfInBounds b (.map (es.modify i λe=> { e with key:= .int .i64 j,val:=v }) clock) }, ?_,⟨_,_,hat _, ?_⟩,hset _,by simp⟩
 ·unfold Instr.mapUpdate
  have hks:(Instr.keyThatStays (((es[i]?).map (·.key)).getD (.int .i64 j)) (.int .i64 j)).run P w= .ok (.int .i64 j) w:=by
   rw [hei];simp only [Option.map_some,Option.getD_some,m3,Instr.keyThatStays]
   rw [if_pos (by simp [Instr.sameBits])]
   rfl
  simp only [Sem.run_bind,run_underlying ht,Result.andThen_ok,hgo,jA P w _ 9999 k q hk,Instr.findKey,run_underlying hk,g1,Sem.run_pure,hks]
  exact MapKept.run_setObj_map _ h1
 have:=m4 v
 simpa [Array.toList_modify] using this
end
theorem xC {P:Program} (w:World) {ops:Array Oper} {rest:List Oper} {o:Oper} {a:Act} {Q:Exit->Act->World->Prop} (hgd:o.guard=none) (m k x:Operand) (t:TypeId) (ho:o.op= .insert t m k x)
  (key e:TypeId) (q:IntKind) (ht:P.underlying t=some (.map key e)) (hk:P.underlying key=some (.int q)) (b:Nat) (l:List (Int × Value)) (hm:a.eval m= .map (some b)) (j:Int) (hj:a.eval k= .int .i64 j) (v:Value) (hv:a.eval x=v) (h:vZ w b l)
  (hK:∀w',vZ w' b (jg l j v)->Since (λk=>k=b) w w'->w'.heap.size=w.heap.size->wpList P ops Q rest (a.put o.dst undef) w'):wpList P ops Q (o::rest) a w:=by
 refine wpList_plain hgd λK' hK'=> ?_
 obtain⟨w',hrun,r1,r2,r3⟩:=zdv (P:=P) h ht hk j v
 unfold Oper.wp
 simp [execOp,ho,hm,hj,hv,hrun,Result.andThen]
 exact hK' _ _ (hK w' r1 r2 r3)
