/- Steps. -/
import Derived.Test.YtnhahkiojbanfaaGreatDoorRyBase
set_option linter.all false
namespace Go.Proofs.YtnhahkiojbanfaaGreatDoor
open Go.RowKit
set_option maxRecDepth 100000
set_option maxHeartbeats 16000000
def jM (w:World) (b:Nat) (u:Value) (l:List ByteArray):Prop:=
 ∃es clock,w.heap[b]? =some (.map es clock)/\es.toList.map (λe=>(e.key,e.val))=l.map (λx=>(Value.string x,u))
theorem zfu (a b:ByteArray):(a==b)=true↔a=b:=by
 obtain⟨x⟩:=a
 obtain⟨y⟩:=b
 show(x==y)=true↔_
 simp
theorem z2G {a b:ByteArray} (h:a≠b):(a==b)=false:=by
 cases e:a==b
 ·rfl
 exact absurd ((zfu a b).1 e) h
def gQ (l:List ByteArray) (k:ByteArray):Bool:=l.any λx=>x==k
theorem pU {l:List ByteArray} {k:ByteArray} :gQ l k=true↔k∈l:=by
 unfold gQ
 rw [List.any_eq_true]
 exact⟨λ⟨x,h1,h2⟩=>(zfu x k).1 h2 ▸ h1,λh=>⟨k,h,(zfu k k).2 rfl⟩⟩
def zfv (l:List ByteArray) (k:ByteArray):List ByteArray:=if gQ l k then l else l++ [k]
theorem zur {l:List ByteArray} {k j:ByteArray} :j∈zfv l k↔j∈l\/j=k:=by
 unfold zfv
 split
 ·rename_i h
  exact⟨.inl,λe=>e.elim id (λe=>e ▸ pU.1 h)⟩
 simp
theorem jM.below {w w':World} {b:Nat} {u:Value} {l:List ByteArray} (h:jM w b u l) (hb:Below w.heap.size w w'):jM w' b u l:=by
 obtain⟨es,c,h1,h2⟩:=h
 exact⟨es,c,(hb.block b (zx h1)).trans h1,h2⟩
theorem jM.new (w:World) (u:Value):jM (w.alloc (.map #[] 0)) w.heap.size u [] :=⟨#[],0,yh w _,rfl⟩
theorem zfw (u:Value) (k:ByteArray):∀(l:List ByteArray) (es:List MapEntry) (i:Nat),es.map (λe=>(e.key,e.val))=l.map (λx=>(Value.string x,u))->
  ∃r,Instr.findNow .string (.string k) es i=some r/\(r.isSome=true↔k∈l)/\(∀j v,r=some (j,v)->v=u/\i<=j/\∃e,es[j - i]? =some e/\e.key= .string k/\
   (es.modify (j - i) (λe=> { e with key:= .string k,val:=u })).map (λe=>(e.key,e.val))=l.map (λx=>(Value.string x,u))):=by
 intro l
 induction l with
 |nil=>
  intro es i he
  have:es= [] :=by simpa using he
  subst this
  exact⟨none,rfl,by simp,by simp⟩
 |cons x l ih=>
 intro es i he
 cases es with
 |nil=>simp at he
 |cons e es=>
 simp only [List.map_cons,List.cons.injEq,Prod.mk.injEq] at he
 obtain⟨⟨h1,h2⟩,h3⟩:=he
 by_cases hk:x=k
 ·subst hk
  refine⟨some (i,e.val), ?_, ?_, ?_⟩
  ·simp [Instr.findNow,Instr.sameNow,h1,(zfu x x).2 rfl]
  ·simp
  intro j v hj
  simp only [Option.some.injEq,Prod.mk.injEq] at hj
  obtain⟨rfl,rfl⟩:=hj
  refine⟨h2,Nat.le_refl _,e,by simp,h1, ?_⟩
  simp [h3]
 obtain⟨r,g1,g2,g3⟩:=ih es (i+1) h3
 refine⟨r, ?_, ?_, ?_⟩
 ·have hk':(k==x)=false:=z2G λe=>hk e.symm
  simp only [Instr.findNow,Instr.sameNow,h1,hk',g1]
 ·rw [g2,List.mem_cons]
  exact⟨.inr,λh=>h.resolve_left (λe=>hk e.symm)⟩
 intro j v hj
 obtain⟨m0,m1,e',m2,m3,m4⟩:=g3 j v hj
 have hji:j - i=(j - (i+1))+1:=by omega
 refine⟨m0,by omega,e',by rw [hji];simpa using m2,m3, ?_⟩
 rw [hji]
 simp [h1,h2,m4]
section
variable {P:Program} {w:World}
theorem za2 (P:Program) (w:World) (em:Bool) (n:Nat) (k:TypeId) (hk:P.underlying k=some .string) (v:Value):(Instr.checkKey em (n+1) k v).run P w= .ok () w:=by
 unfold Instr.checkKey
 simp [run_underlying hk]
theorem zij {b:Nat} {u:Value} {l:List ByteArray} (h:jM w b u l) {t k e:TypeId} (ht:P.underlying t=some (.map k e)) (hk:P.underlying k=some .string) (hz:(zeroValue e).run P w= .ok u w) (j:ByteArray) (c:Bool):
  (Instr.lookup t (.map (some b)) (.string j) c).run P w= .ok (if c then .tuple #[u, .bool (gQ l j)] else u) w:=by
 obtain⟨es,clock,h1,h2⟩:=h
 obtain⟨r,g1,g2,g3⟩:=zfw u j l es.toList 0 h2
 unfold Instr.lookup
 simp only [Sem.run_bind,run_underlying ht,Result.andThen_ok]
 have hgo:=MapKept.run_getObj_map (P:=P) h1
 simp only [Sem.run_bind,hgo,Result.andThen_ok,Sem.run_pure,za2 P w _ 9999 k hk,Instr.findKey,run_underlying hk,g1]
 cases r with
 |none=>
  have hn:gQ l j=false:=by
   cases e:gQ l j
   ·rfl
   have:=g2.2 (pU.1 e);cases this
  simp [hz,hn]
 |some x=>
 obtain⟨i,y⟩:=x
 have hn:gQ l j=true:=pU.2 (g2.1 rfl)
 have:=(g3 i y rfl).1
 subst this
 simp [hn]
theorem zik {b:Nat} {u:Value} {l:List ByteArray} (h:jM w b u l) {t k e:TypeId} (ht:P.underlying t=some (.map k e)) (hk:P.underlying k=some .string) (j:ByteArray):
  ∃w',(Instr.mapUpdate t (.map (some b)) (.string j) u).run P w= .ok () w'/\jM w' b u (zfv l j)/\Since (λk=>k=b) w w'/\w'.heap.size=w.heap.size:=by
 obtain⟨es,clock,h1,h2⟩:=h
 obtain⟨r,g1,g2,g3⟩:=zfw u j l es.toList 0 h2
 have hlt:=zx h1
 have hgo:=MapKept.run_getObj_map (P:=P) h1
 have hset:∀o:Obj,Since (λk=>k=b) w { w with heap:=w.heap.setIfInBounds b o } :=λo=>
  ⟨rfl,rfl,rfl,by simp,λi _ hi=>by
   show(w.heap.setIfInBounds b o)[i]? =_
   rw [Array.getElem?_setIfInBounds_ne (λe=>hi e.symm)]⟩
 have hat:∀o:Obj,({ w with heap:=w.heap.setIfInBounds b o } :World).heap[b]? =some o:=λo=>by
  show(w.heap.setIfInBounds b o)[b]? =_
  simp [hlt]
 cases r with
 |none=>
  have hn:¬gQ l j=true:=λe=>by have:=g2.2 (pU.1 e);cases this
  refine⟨{ w with heap:=w.heap.setIfInBounds b (.map (es.push { key:= .string j,val:=u,born:=clock }) (clock+1)) }, ?_,⟨_,_,hat _, ?_⟩,hset _,by simp⟩
  ·unfold Instr.mapUpdate
   simp only [Sem.run_bind,run_underlying ht,Result.andThen_ok,hgo,za2 P w _ 9999 k hk,Instr.findKey,run_underlying hk,g1,Sem.run_pure]
   exact MapKept.run_setObj_map _ h1
  unfold zfv
  rw [if_neg hn];simp [h2]
 |some x=>
 have hn:gQ l j=true:=pU.2 (g2.1 rfl)
 obtain⟨i,y⟩:=x
 obtain⟨-, -,e',m2,m3,m4⟩:=g3 i y rfl
 simp only [Nat.sub_zero] at m2 m4
 have hei:es[i]? =some e':=by simpa using m2
 refine⟨{ w with heap:=w.heap.setIfInBounds b (.map (es.modify i λe=> { e with key:= .string j,val:=u }) clock) }, ?_,⟨_,_,hat _, ?_⟩,hset _,by simp⟩
 ·unfold Instr.mapUpdate
  have hks:(Instr.keyThatStays (((es[i]?).map (·.key)).getD (.string j)) (.string j)).run P w= .ok (.string j) w:=by
   rw [hei];simp only [Option.map_some,Option.getD_some,m3,Instr.keyThatStays]
   rw [if_pos (by simp [Instr.sameBits,(zfu j j).2 rfl])]
   rfl
  simp only [Sem.run_bind,run_underlying ht,Result.andThen_ok,hgo,za2 P w _ 9999 k hk,Instr.findKey,run_underlying hk,g1,Sem.run_pure,hks]
  exact MapKept.run_setObj_map _ h1
 unfold zfv
 rw [if_pos hn]
 simpa [Array.toList_modify] using m4
end
theorem zfx {P:Program} (w:World) {ops:Array Oper} {rest:List Oper} {o:Oper} {a:Act} {Q:Exit->Act->World->Prop} (hgd:o.guard=none) (m k x:Operand) (t:TypeId) (ho:o.op= .mapUpdate t m k x)
  (key e:TypeId) (ht:P.underlying t=some (.map key e)) (hk:P.underlying key=some .string) (b:Nat) (u:Value) (l:List ByteArray) (hm:a.eval m= .map (some b)) (j:ByteArray) (hj:a.eval k= .string j) (hv:a.eval x=u) (h:jM w b u l)
  (hK:∀w',jM w' b u (zfv l j)->Since (λk=>k=b) w w'->w'.heap.size=w.heap.size->wpList P ops Q rest (a.put o.dst undef) w'):wpList P ops Q (o::rest) a w:=by
 refine wpList_plain hgd λK' hK'=> ?_
 obtain⟨w',hrun,r1,r2,r3⟩:=zik (P:=P) h ht hk j
 unfold Oper.wp
 simp [execOp,ho,hm,hj,hv,hrun,Result.andThen]
 exact hK' _ _ (hK w' r1 r2 r3)
theorem zfy {P:Program} (w:World) {ops:Array Oper} {rest:List Oper} {o:Oper} {a:Act} {Q:Exit->Act->World->Prop} (hgd:o.guard=none) (m k:Operand) (t:TypeId) (ho:o.op= .lookup t m k true)
  (key e:TypeId) (ht:P.underlying t=some (.map key e)) (hk:P.underlying key=some .string) (b:Nat) (u:Value) (l:List ByteArray) (hz:(zeroValue e).run P w= .ok u w) (hm:a.eval m= .map (some b)) (j:ByteArray) (hj:a.eval k= .string j) (h:jM w b u l)
  (hK:wpList P ops Q rest (a.put o.dst (.tuple #[u, .bool (gQ l j)])) w):wpList P ops Q (o::rest) a w:=by
 refine wpList_plain hgd λK' hK'=> ?_
 have hrun:=zij (P:=P) h ht hk hz j true
 rw [if_pos rfl] at hrun
 unfold Oper.wp
 simp [execOp,ho,hm,hj,hrun,Result.andThen]
 exact hK' _ _ hK
