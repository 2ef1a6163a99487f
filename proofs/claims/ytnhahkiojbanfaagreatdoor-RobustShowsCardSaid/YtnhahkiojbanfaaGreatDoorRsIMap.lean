/- Steps. -/
import Derived.Test.YtnhahkiojbanfaaGreatDoorRsKFuncs
set_option linter.all false
namespace Go.Proofs.YtnhahkiojbanfaaGreatDoor
open Go.RowKit
set_option maxRecDepth 100000
set_option maxHeartbeats 16000000
def xL (w:World) (b:Nat) (l:List (Int × Value)):Prop:=
 ∃es clock,w.heap[b]? =some (.map es clock)/\es.toList.map (λe=>(e.key,e.val))=l.map (λx=>(Value.int .i64 x.1,x.2))
def vE:List (Int × Value)->Int->Option Value
 | [],_=>none
 |x::l,k=>if x.1=k then some x.2 else vE l k
def wL:List (Int × Value)->Int->Value->List (Int × Value)
 | [],k,v=> [(k,v)]
 |x::l,k,v=>if x.1=k then(k,v)::l else x::wL l k v
theorem zqt (l:List (Int × Value)) (k:Int) (v:Value) (j:Int):vE (wL l k v) j=if k=j then some v else vE l j:=by
 induction l with
 |nil=>simp [wL,vE]
 |cons x l ih=>
 unfold wL
 by_cases h:x.1=k
 ·rw [if_pos h];simp only [vE];subst h;split<;>simp_all
 rw [if_neg h];simp only [vE];rw [ih];split<;>split<;>simp_all
theorem xL.below {w w':World} {b:Nat} {l:List (Int × Value)} (h:xL w b l) (hb:Below w.heap.size w w'):xL w' b l:=by
 obtain⟨es,c,h1,h2⟩:=h
 exact⟨es,c,(hb.block b (zw h1)).trans h1,h2⟩
theorem zfY (q:IntKind) (k:Int):∀(l:List (Int × Value)) (es:List MapEntry) (i:Nat),es.map (λe=>(e.key,e.val))=l.map (λx=>(Value.int .i64 x.1,x.2))->
  ∃r,Instr.findNow (.int q) (.int .i64 k) es i=some r/\r.map (·.2)=vE l k/\(∀j v,r=some (j,v)->i<=j/\∃e,es[j - i]? =some e/\e.key= .int .i64 k/\
   ∀v':Value,(es.modify (j - i) (λe=> { e with key:= .int .i64 k,val:=v' })).map (λe=>(e.key,e.val))=(wL l k v').map (λx=>(Value.int .i64 x.1,x.2)))/\
   (r=none->∀v':Value,wL l k v'=l++ [(k,v')]):=by
 intro l
 induction l with
 |nil=>
  intro es i he
  have:es= [] :=by simpa using he
  subst this
  exact⟨none,rfl,rfl,by simp,by simp [wL]⟩
 |cons x l ih=>
 intro es i he
 cases es with
 |nil=>simp at he
 |cons e es=>
 simp only [List.map_cons,List.cons.injEq,Prod.mk.injEq] at he
 obtain⟨⟨h1,h2⟩,h3⟩:=he
 by_cases hk:x.1=k
 ·refine⟨some (i,e.val), ?_, ?_, ?_,by simp⟩
  ·simp [Instr.findNow,Instr.sameNow,h1,hk]
  ·simp [vE,hk,h2]
  intro j v hj
  simp only [Option.some.injEq,Prod.mk.injEq] at hj
  obtain⟨rfl,rfl⟩:=hj
  refine⟨Nat.le_refl _,e,by simp,by rw [h1,hk], ?_⟩
  intro v'
  simp [wL,hk,h3]
 obtain⟨r,g1,g2,g3,g4⟩:=ih es (i+1) h3
 refine⟨r, ?_, ?_, ?_, ?_⟩
 ·have hk':(k==x.1)=false:=beq_eq_false_iff_ne.2 λe=>hk e.symm
  simp only [Instr.findNow,Instr.sameNow,h1,if_true,hk',g1]
 ·simp [vE,hk,g2]
 ·intro j v hj
  obtain⟨m1,e',m2,m3,m4⟩:=g3 j v hj
  have hji:j - i=(j - (i+1))+1:=by omega
  refine⟨by omega,e',by rw [hji];simpa using m2,m3, ?_⟩
  intro v'
  rw [hji]
  simp [wL,hk,h1,h2,m4 v']
 intro hr v'
 simp [wL,hk,g4 hr v']
section
variable {P:Program} {w:World}
theorem za8 (P:Program) (w:World) (em:Bool) (n:Nat) (k:TypeId) (q:IntKind) (hk:P.underlying k=some (.int q)) (v:Value):(Instr.checkKey em (n+1) k v).run P w= .ok () w:=by
 unfold Instr.checkKey
 simp [run_underlying hk]
theorem kF {b:Nat} {l:List (Int × Value)} (h:xL w b l) {t k e:TypeId} {q:IntKind} (ht:P.underlying t=some (.map k e)) (hk:P.underlying k=some (.int q)) {z:Value} (hz:(zeroValue e).run P w= .ok z w) (j:Int) (c:Bool):
  (Instr.lookup t (.map (some b)) (.int .i64 j) c).run P w= .ok (if c then .tuple #[(vE l j).getD z, .bool (vE l j).isSome] else(vE l j).getD z) w:=by
 obtain⟨es,clock,h1,h2⟩:=h
 obtain⟨r,g1,g2, -, -⟩:=zfY q j l es.toList 0 h2
 unfold Instr.lookup
 simp only [Sem.run_bind,run_underlying ht,Result.andThen_ok]
 have hgo:=MapKept.run_getObj_map (P:=P) h1
 simp only [Sem.run_bind,hgo,Result.andThen_ok,Sem.run_pure,za8 P w _ 9999 k q hk,Instr.findKey,run_underlying hk,g1]
 cases r with
 |none=>simp only [Option.map_none] at g2;simp [<-g2,hz]
 |some x=>simp only [Option.map_some] at g2;simp [<-g2]
theorem zdv {b:Nat} {l:List (Int × Value)} (h:xL w b l) {t k e:TypeId} {q:IntKind} (ht:P.underlying t=some (.map k e)) (hk:P.underlying k=some (.int q)) (j:Int) (v:Value):
  ∃w',(Instr.mapUpdate t (.map (some b)) (.int .i64 j) v).run P w= .ok () w'/\xL w' b (wL l j v)/\Since (λk=>k=b) w w'/\w'.heap.size=w.heap.size:=by
 obtain⟨es,clock,h1,h2⟩:=h
 obtain⟨r,g1, -,g3,g4⟩:=zfY q j l es.toList 0 h2
 have hlt:=zw h1
 have hgo:=MapKept.run_getObj_map (P:=P) h1
 have hset:∀o:Obj,Since (λk=>k=b) w { w with heap:=w.heap.setIfInBounds b o } :=λo=>
  ⟨rfl,rfl,rfl,by simp,λi _ hi=>by
   show(w.heap.setIfInBounds b o)[i]? =_
   rw [Array.getElem?_setIfInBounds_ne (λe=>hi e.symm)]⟩
 have hat:∀o:Obj,({ w with heap:=w.heap.setIfInBounds b o } :World).heap[b]? =some o:=λo=>by
  show(w.heap.setIfInBounds b o)[b]? =_
  simp [hlt]
 cases r with
 |none=>
  refine⟨{ w with heap:=w.heap.setIfInBounds b (.map (es.push { key:= .int .i64 j,val:=v,born:=clock }) (clock+1)) }, ?_,⟨_,_,hat _, ?_⟩,hset _,by simp⟩
  ·unfold Instr.mapUpdate
   simp only [Sem.run_bind,run_underlying ht,Result.andThen_ok,hgo,za8 P w _ 9999 k q hk,Instr.findKey,run_underlying hk,g1,Sem.run_pure]
   exact MapKept.run_setObj_map _ h1
  rw [g4 rfl v];simp [h2]
 |some x=>
 obtain⟨i,y⟩:=x
 obtain⟨-,e',m2,m3,m4⟩:=g3 i y rfl
 simp only [Nat.sub_zero] at m2 m4
 have hei:es[i]? =some e':=by simpa using m2
 refine⟨{ w with heap:=w.heap.setIfInBounds b (.map (es.modify i λe=> { e with key:= .int .i64 j,val:=v }) clock) }, ?_,⟨_,_,hat _, ?_⟩,hset _,by simp⟩
 ·unfold Instr.mapUpdate
  have hks:(Instr.keyThatStays (((es[i]?).map (·.key)).getD (.int .i64 j)) (.int .i64 j)).run P w= .ok (.int .i64 j) w:=by
   rw [hei];simp only [Option.map_some,Option.getD_some,m3,Instr.keyThatStays]
   rw [if_pos (by simp [Instr.sameBits])]
   rfl
  simp only [Sem.run_bind,run_underlying ht,Result.andThen_ok,hgo,za8 P w _ 9999 k q hk,Instr.findKey,run_underlying hk,g1,Sem.run_pure,hks]
  exact MapKept.run_setObj_map _ h1
 have:=m4 v
 simpa [Array.toList_modify] using this
end
theorem vM {P:Program} (w:World) {ops:Array Oper} {rest:List Oper} {o:Oper} {a:Act} {Q:Exit->Act->World->Prop} (hgd:o.guard=none) (m k x:Operand) (t:TypeId) (ho:o.op= .insert t m k x)
  (key e:TypeId) (q:IntKind) (ht:P.underlying t=some (.map key e)) (hk:P.underlying key=some (.int q)) (b:Nat) (l:List (Int × Value)) (hm:a.eval m= .map (some b)) (j:Int) (hj:a.eval k= .int .i64 j) (v:Value) (hv:a.eval x=v) (h:xL w b l)
  (hK:∀w',xL w' b (wL l j v)->Since (λk=>k=b) w w'->w'.heap.size=w.heap.size->wpList P ops Q rest (a.put o.dst undef) w'):wpList P ops Q (o::rest) a w:=by
 refine wpList_plain hgd λK' hK'=> ?_
 obtain⟨w',hrun,r1,r2,r3⟩:=zdv (P:=P) h ht hk j v
 unfold Oper.wp
 simp [execOp,ho,hm,hj,hv,hrun,Result.andThen]
 exact hK' _ _ (hK w' r1 r2 r3)
theorem zfT {P:Program} (w:World) {ops:Array Oper} {rest:List Oper} {o:Oper} {a:Act} {Q:Exit->Act->World->Prop} (hgd:o.guard=none) (m k x:Operand) (t:TypeId) (ho:o.op= .mapUpdate t m k x)
  (key e:TypeId) (q:IntKind) (ht:P.underlying t=some (.map key e)) (hk:P.underlying key=some (.int q)) (b:Nat) (l:List (Int × Value)) (hm:a.eval m= .map (some b)) (j:Int) (hj:a.eval k= .int .i64 j) (v:Value) (hv:a.eval x=v) (h:xL w b l)
  (hK:∀w',xL w' b (wL l j v)->Since (λk=>k=b) w w'->w'.heap.size=w.heap.size->wpList P ops Q rest (a.put o.dst undef) w'):wpList P ops Q (o::rest) a w:=by
 refine wpList_plain hgd λK' hK'=> ?_
 obtain⟨w',hrun,r1,r2,r3⟩:=zdv (P:=P) h ht hk j v
 unfold Oper.wp
 simp [execOp,ho,hm,hj,hv,hrun,Result.andThen]
 exact hK' _ _ (hK w' r1 r2 r3)
end Go.Proofs.YtnhahkiojbanfaaGreatDoor
namespace Go.Proofs.YtnhahkiojbanfaaGreatDoor
open Go.RowKit
set_option maxRecDepth 100000
set_option maxHeartbeats 16000000
def fmT (r v a b t o:Bool) (f:Nat):Value:= .agg #[.bool r, .bool v, .bool a, .bool b, .bool t, .bool o, .func (.func f) #[] #[]]
def fmL:List (Int × Value):= [(1,fmT true true false false false false 137),(2,fmT false true true false false false 138),(3,fmT true false true false false false 139),(4,fmT false false false false false false 140),(5,fmT false false false false false false 141),(6,fmT true true true true false false 142),(7,fmT false true false false false false 143),(8,fmT false true false false false false 144),(9,fmT false false true false false false 145),(10,fmT false false true false true true 146),(11,fmT false false true false true false 147)]
def zmZ (l:List (Int × Value)) (w:World) (e:Ending) (w':World):Prop:=∃b,e= .returned (.map (some b))/\xL w' b l/\w.heap.size<=b/\Below w.heap.size w w'
theorem zqD (w:World):Calls Tryz.prog 104 #[] w (zmZ fmL w):=by
 have hmm:= @run_makeMap Tryz.prog
 have h0:xL (w.alloc (.map #[] 0)) w.heap.size [] :=⟨#[],0,yj w _,rfl⟩
 have hB0:Below w.heap.size w (w.alloc (.map #[] 0)):=(Below.refl _ _).alloc (Nat.le_refl _) _
 go_enter Tryz.func104,Tryz.ntmps104
 go_wp2_with(refine vM _ rfl _ _ _ 178 rfl 3 177 .i64 Tryz.underlying178 Tryz.underlying3 w.heap.size _ rfl _ rfl _ rfl h0 ?_;clear h0;intro w1 h0 hs1 hz1;replace hB0:=hB0.trans (hs1.below hB0.size (λk hk=>by omega));clear hs1 hz1)
 go_ret
 exact⟨w.heap.size,rfl,h0,Nat.le_refl _,hB0⟩
theorem zgZ (w:World) (n m:Int) (h:Bool):Calls Tryz.prog 108 #[.int .i64 n, .int .i64 m, .bool h] w λe w'=>e= .returned (.bool (if h then decide (0<=n) && decide (n<m) else decide (n=0)))/\w'=w:=by
 cases h
 ·by_cases h0:n=0
  ·subst h0
   go_enter Tryz.func108,Tryz.ntmps108
   go_wp2_with fail
   go_ret
   exact⟨by first|rfl|simp,rfl⟩
  by_cases h1:0<=n
  ·by_cases h2:n<m
   ·go_enter Tryz.func108,Tryz.ntmps108
    go_wp2_with fail
    go_ret
    exact⟨by simp [h0],rfl⟩
   go_enter Tryz.func108,Tryz.ntmps108
   go_wp2_with fail
   go_ret
   exact⟨by simp [h0],rfl⟩
  go_enter Tryz.func108,Tryz.ntmps108
  go_wp2_with fail
  go_ret
  exact⟨by simp [h0],rfl⟩
 by_cases h0:n=0
 ·subst h0
  by_cases h2:0<m
  ·go_enter Tryz.func108,Tryz.ntmps108
   go_wp2_with fail
   go_ret
   exact⟨by simp [h2],rfl⟩
  go_enter Tryz.func108,Tryz.ntmps108
  go_wp2_with fail
  go_ret
  exact⟨by simp;omega,rfl⟩
 by_cases h1:0<=n
 ·by_cases h2:n<m
  ·go_enter Tryz.func108,Tryz.ntmps108
   go_wp2_with fail
   go_ret
   exact⟨by simp [h1,h2],rfl⟩
  go_enter Tryz.func108,Tryz.ntmps108
  go_wp2_with fail
  go_ret
  exact⟨by simp;omega,rfl⟩
 go_enter Tryz.func108,Tryz.ntmps108
 go_wp2_with fail
 go_ret
 exact⟨by simp;omega,rfl⟩
theorem zt1 (w:World) (op:Int):Calls Tryz.prog 164 #[.int .u8 op] w λe w'=>(∃s:ByteArray,e= .returned (.string s)/\s.toList.isEmpty= !jh op)/\Below w.heap.size w w':=by
 have hcv:=zmm w op
 have HA:=qh ((Below.refl w.heap.size w).alloc (Nat.le_refl _) (.cells #[.int .u8 op] 5))
 by_cases hs:op=43\/op=45\/op=42\/op=60\/op=38\/op=124
 ·have hi:jh op=true:=by unfold jh;exact decide_eq_true (by omega)
  rw [hi]
  rcases hs with rfl|rfl|rfl|rfl|rfl|rfl<;>
  ·go_enter Tryz.func164,Tryz.ntmps164
   go_wp2_with fail
   go_ret
   exact⟨⟨_,rfl,zbn _⟩,HA.out⟩
 by_cases h7:op=61
 ·subst h7
  clear hs
  go_enter Tryz.func164,Tryz.ntmps164
  go_wp2_with fail
  go_ret
  exact⟨⟨_,rfl,by decide+kernel⟩,Below.refl _ _⟩
 by_cases h8:op=33
 ·subst h8
  clear hs
  go_enter Tryz.func164,Tryz.ntmps164
  go_wp2_with fail
  go_ret
  exact⟨⟨_,rfl,by decide+kernel⟩,Below.refl _ _⟩
 have hi:jh op=false:=by unfold jh;exact decide_eq_false (by omega)
 rw [hi]
 obtain⟨h1,h2,h3,h4,h5,h6⟩:op≠43/\op≠45/\op≠42/\op≠60/\op≠38/\op≠124:=by omega
 clear hs hi
 go_enter Tryz.func164,Tryz.ntmps164
 go_wp2_with fail
 go_ret
 exact⟨⟨_,rfl,by decide+kernel⟩,Below.refl _ _⟩
theorem zt2 (w:World) (x:zO) (ka:Option Addr) (kc:Nat):Calls Tryz.prog 107 #[qy x (.slice ka x.kids.length kc)] w λe w'=>e= .returned (.bool (vo x))/\Below w.heap.size w w':=by
 obtain⟨k,n,o,l⟩:=x
 obtain⟨m,hm⟩:∃m,m=l.length:=⟨_,rfl⟩
 obtain⟨r,hr⟩:∃r,r=vo (.mk k n o l):=⟨_,rfl⟩
 rw [<-hr]
 have hr2:r=(decide (k=0) && decide (n=0) && decide (o=0) && decide (m=0)):=by rw [hr,hm];rfl
 have HR:=qh hr2
 unfold qy
 simp only [zO.kind,zO.n,zO.op,zO.kids]
 rw [<-hm]
 clear hr hr2 hm
 have HA:=qh ((Below.refl w.heap.size w).alloc (Nat.le_refl _) (.cells #[.int .i64 k, .int .i64 n, .int .u8 o, .slice ka m kc] 58))
 have xZ:=qh (yj w (.cells #[.int .i64 k, .int .i64 n, .int .u8 o, .slice ka m kc] 58))
 go_enter Tryz.func107,Tryz.ntmps107
 go_upto_region 1 with fail
 generalize World.alloc w _=W at HA xZ ⊢
 obtain⟨gx,hgx⟩:∃gx,gx=w.heap.size:=⟨_,rfl⟩
 rw [<-hgx] at xZ ⊢
 clear hgx
 have c0:W.cell? ⟨gx,0,none⟩=some (.int .i64 k):=ze xZ.out 0
 have c1:W.cell? ⟨gx,1,none⟩=some (.int .i64 n):=ze xZ.out 1
 have c2:W.cell? ⟨gx,2,none⟩=some (.int .u8 o):=ze xZ.out 2
 have c3:W.cell? ⟨gx,3,none⟩=some (.slice ka m kc):=ze xZ.out 3
 by_cases a1:k=0
 rotate_left
 ·have b1:((k:Int)==0)=false:=by simp [a1]
  obtain rfl:r=false:=by rw [HR.out];simp [a1]
  clear HR a1
  go_wp2_with fail
  go_ret
  exact⟨by first|rfl|simp,HA.out⟩
 have b1:((k:Int)==0)=true:=by simp [a1]
 by_cases a2:n=0
 rotate_left
 ·have b2:((n:Int)==0)=false:=by simp [a2]
  obtain rfl:r=false:=by rw [HR.out];simp [a2]
  clear HR a1 a2
  go_wp2_with fail
  go_ret
  exact⟨by first|rfl|simp,HA.out⟩
 have b2:((n:Int)==0)=true:=by simp [a2]
 by_cases a3:o=0
 ·have b3:((o:Int)==0)=true:=by simp [a3]
  obtain rfl:r=decide (m=0):=by rw [HR.out];simp [a1,a2,a3]
  clear HR a1 a2 a3
  by_cases a4:m=0
  ·have b4:((m:Int)==0)=true:=by simp [a4]
   subst a4
   go_wp2_with fail
   go_ret
   exact⟨by first|rfl|simp,HA.out⟩
  have b4:((m:Int)==0)=false:=by simp [a4]
  go_wp2_with fail
  go_ret
  exact⟨by first|rfl|simp [a4],HA.out⟩
 have b3:((o:Int)==0)=false:=by simp [a3]
 obtain rfl:r=false:=by rw [HR.out];simp [a3]
 clear HR a1 a2 a3
 go_wp2_with fail
 go_ret
 exact⟨by first|rfl|simp,HA.out⟩
theorem zna (w:World) (o1 o2 o3:Obj):Below w.heap.size w (((w.alloc o1).alloc o2).alloc o3)/\(((w.alloc o1).alloc o2).alloc o3).heap[w.heap.size]? =some o1/\(((w.alloc o1).alloc o2).alloc o3).heap[w.heap.size+1]? =some o2/\
  (((w.alloc o1).alloc o2).alloc o3).heap[w.heap.size+2]? =some o3/\(((w.alloc o1).alloc o2).alloc o3).heap.size=w.heap.size+3:=by
 have h3:=yj ((w.alloc o1).alloc o2) o3
 simp only [World.size_alloc] at h3
 refine⟨(xO w o1 o2).alloc (by simp;omega) _,(Below.heap_alloc _ _ _ (by simp;omega)).trans (xP w o1 o2),(Below.heap_alloc _ _ _ (by simp)).trans (xw w o1 o2),h3,by simp⟩
theorem zqE (dom:Int) (d:Nat) (hd:d<=1000) (ih:∀(e:Nat) (w:World) (x:zO) (kv:Value),zG e w x kv->Calls Tryz.prog 148 #[qy x kv, .int .i64 d, .int .i64 dom] w λe w'=>e= .returned (.bool (zT dom d x))/\Below w.heap.size w w')
  (e:Nat) (w:World) (x:zO) (kv:Value) (h:zG e w x kv) (bd bo:Nat) (cd:w.cell? ⟨bd,0,none⟩=some (.int .i64 ((d:Int)+1))) (co:w.cell? ⟨bo,0,none⟩=some (.int .i64 dom)):
  Calls Tryz.prog 163 #[qy x kv, .pointer (some ⟨bd,0,none⟩), .pointer (some ⟨bo,0,none⟩)] w λe w'=>e= .returned (.bool (!zT dom d x))/\Below w.heap.size w w':=by
 have hi:=λW (hW:Below w.heap.size w W)=>ih e W x kv (h.below hW)
 obtain⟨ka,kc,rfl, -⟩:=h.slice
 have hd2:wrap64 ((d:Int)+1 - 1)=(d:Int):=by unfold wrap64;omega
 generalize zT dom d x=r at hi ⊢
 unfold qy at hi ⊢
 generalize x.kind=k at hi ⊢
 generalize x.n=n at hi ⊢
 generalize x.op=o at hi ⊢
 generalize x.kids.length=m at hi ⊢
 have HI:=qh hi
 clear hi ih h
 have HA:=qh ((Below.refl w.heap.size w).alloc (Nat.le_refl _) (.cells #[.int .i64 k, .int .i64 n, .int .u8 o, .slice ka m kc] 58))
 have xZ:=qh (yj w (.cells #[.int .i64 k, .int .i64 n, .int .u8 o, .slice ka m kc] 58))
 replace cd:=zk HA.out _ _ cd
 replace co:=zk HA.out _ _ co
 go_enter Tryz.func163,Tryz.ntmps163
 go_upto_region 1 with fail
 generalize World.alloc w _=W at HA xZ cd co ⊢
 obtain⟨gx,hgx⟩:∃gx,gx=w.heap.size:=⟨_,rfl⟩
 rw [<-hgx] at xZ ⊢
 clear hgx
 have c0:W.cell? ⟨gx,0,none⟩=some (.int .i64 k):=ze xZ.out 0
 have c1:W.cell? ⟨gx,1,none⟩=some (.int .i64 n):=ze xZ.out 1
 have c2:W.cell? ⟨gx,2,none⟩=some (.int .u8 o):=ze xZ.out 2
 have c3:W.cell? ⟨gx,3,none⟩=some (.slice ka m kc):=ze xZ.out 3
 go_wp2_with(go_at_call 148;go_must(refine(HI.out _ HA.out).mono ?_);rintro e w1 ⟨rfl,hb⟩;have HB1:=qh (zH HA.out hb);clear hb)
 go_ret
 exact⟨by first|rfl|simp,HB1.out⟩
def zqF (e:Nat) (w:World) (y:zO) (cs:List Value):Prop:=∃kv',cs=y.cells kv'/\zG e w y kv'
theorem zqF.stays (e:Nat):kP (zqF e):=λ_ _ _ _ ⟨kv',q1,q2⟩ hb=>⟨kv',q1,q2.below hb⟩
def zeb (dom k:Int):Int:=if k=1 then dom else if k=2 then 4 else if k=3 then 1 else 0
theorem zt3 (dom k:Int):(vE (wL (wL (wL [] 1 (Value.int .i64 dom)) 2 (.int .i64 4)) 3 (.int .i64 1)) k).getD (.int .i64 0)= .int .i64 (zeb dom k):=by
 simp only [wL,vE,zeb]
 by_cases h1:k=1
 ·subst h1;rfl
 by_cases h2:k=2
 ·subst h2;rfl
 by_cases h3:k=3
 ·subst h3;rfl
 rw [if_neg h1,if_neg h2,if_neg h3]
 simp [wL,vE,Ne.symm h1,Ne.symm h2,Ne.symm h3]
theorem zqG (dom k n o:Int) (m:Nat) (A B:Bool):(if k=1 then decide (0<=n) && decide (n<dom) && decide (o=0) && decide (m=0)
   else if k=2 then decide (0<=n) && decide (n<4) && decide (o=0) && decide (m=0)
   else if k=3 then decide (n=0) && jh o && decide (m=2) && A && B else false)=
  (decide (0<=n) && decide (n<zeb dom k) && (if k=3 then jh o && decide (m=2) && (A && B) else decide (o=0) && decide (m=0))):=by
 unfold zeb
 by_cases h1:k=1
 ·subst h1;simp [Bool.and_assoc]
 by_cases h2:k=2
 ·subst h2;simp [Bool.and_assoc]
 by_cases h3:k=3
 ·subst h3
  have e:decide (n=0)=(decide (0<=n) && decide (n<1)):=by
   by_cases h:n=0
   ·subst h;rfl
   rw [decide_eq_false h];by_cases h0:0<=n
   ·rw [decide_eq_false (by omega:¬n<1)];simp
   rw [decide_eq_false h0];rfl
  simp only [e];simp [Bool.and_assoc]
 rw [if_neg h1,if_neg h2,if_neg h3,if_neg h1,if_neg h2,if_neg h3]
 by_cases h0:0<=n
 ·rw [decide_eq_false (by omega:¬n<0)];simp
 rw [decide_eq_false h0];rfl
theorem zfV (P:World):(zeroValue 3).run Tryz.prog P= .ok (.int .i64 0) P:=by
 obtain⟨i0,hi,hz0,hz1,hz2⟩:=info_parts vg
 simp [zeroValue,typeInfo,hi,hz0]
theorem zt4 (dom:Int) (d:Nat) (hd:d<=1000):∀(e:Nat) (w:World) (x:zO) (kv:Value),zG e w x kv->
  Calls Tryz.prog 148 #[qy x kv, .int .i64 d, .int .i64 dom] w λe w'=>e= .returned (.bool (zT dom d x))/\Below w.heap.size w w':=by
 induction d with
 |zero=>
  intro e w x kv h
  obtain⟨ka,kc,rfl, -⟩:=h.slice
  have hr:zT dom 0 x=false:=rfl
  rw [hr]
  clear hr
  unfold qy
  clear h
  have HB:=qh (zna w (.cells #[.int .i64 x.kind, .int .i64 x.n, .int .u8 x.op, .slice ka x.kids.length kc] 58) (.cells #[.int .i64 0] 3) (.cells #[.int .i64 dom] 3)).1
  go_enter Tryz.func148,Tryz.ntmps148
  go_wp2_with fail
  go_ret
  exact⟨by first|rfl|simp,HB.out⟩
 |succ d ih=>
 intro e w x kv h
 obtain⟨ka,kc,rfl, -⟩:=h.slice
 obtain⟨k,hk⟩:∃k,k=x.kind:=⟨_,rfl⟩
 obtain⟨n,hn⟩:∃n,n=x.n:=⟨_,rfl⟩
 obtain⟨o,ho⟩:∃o,o=x.op:=⟨_,rfl⟩
 obtain⟨m,hm⟩:∃m,m=x.kids.length:=⟨_,rfl⟩
 obtain⟨r,hr⟩:∃r,r=zT dom (d+1) x:=⟨_,rfl⟩
 have hr2:r=(if k=1 then decide (0<=n) && decide (n<dom) && decide (o=0) && decide (m=0)
  else if k=2 then decide (0<=n) && decide (n<4) && decide (o=0) && decide (m=0)
  else if k=3 then decide (n=0) && jh o && decide (m=2) && zT dom d (x.kids.getD 0 default) && zT dom d (x.kids.getD 1 default) else false):=by rw [hr,hk,hn,ho,hm];rfl
 rw [<-hr]
 have HR:=qh hr2
 have HM:=qh hm
 rw [<-hm] at h
 have HE:=qh h
 unfold qy
 rw [<-hk, <-hn, <-ho, <-hm]
 have hB:=zna w (.cells #[.int .i64 k, .int .i64 n, .int .u8 o, .slice ka m kc] 58) (.cells #[.int .i64 ((d:Int)+1)] 3) (.cells #[.int .i64 dom] 3)
 have HB:=qh hB.1
 have HX:=qh hB.2.1
 have HD:=qh hB.2.2.1
 have HO:=qh hB.2.2.2.1
 have HS:=qh hB.2.2.2.2
 clear hk hn ho hm hr hr2 h hB
 have hd1:¬((d:Int)+1<1):=by omega
 have hd3:(((d+1:Nat):Int))=(d:Int)+1:=by omega
 simp only [hd3]
 clear hd3
 go_enter Tryz.func148,Tryz.ntmps148
 go_upto_region 3 with fail
 generalize World.alloc (World.alloc (World.alloc w _) _) _=W at HB HX HD HO HS ⊢
 obtain⟨gx,hgx⟩:∃gx,gx=w.heap.size:=⟨_,rfl⟩
 rw [<-hgx] at HX HD HO ⊢
 have CC:Hid (∀x,Below W.heap.size W x->(x.cell? ⟨gx,0,none⟩=some (.int .i64 k)/\x.cell? ⟨gx,1,none⟩=some (.int .i64 n)/\x.cell? ⟨gx,2,none⟩=some (.int .u8 o)/\x.cell? ⟨gx,3,none⟩=some (.slice ka m kc))/\x.cell? ⟨gx+1,0,none⟩=some (.int .i64 ((d:Int)+1))/\x.cell? ⟨gx+2,0,none⟩=some (.int .i64 dom)):=λx hx=>
  ⟨⟨zk hx _ _ (ze HX.out 0),zk hx _ _ (ze HX.out 1),zk hx _ _ (ze HX.out 2),zk hx _ _ (ze HX.out 3)⟩,zk hx _ _ (ze HD.out 0),zk hx _ _ (ze HO.out 0)⟩
 clear hgx
 have hmm:= @run_makeMap Tryz.prog
 have h0:xL (W.alloc (.map #[] 0)) W.heap.size [] :=⟨#[],0,yj W _,rfl⟩
 have HW:=qh ((Below.refl W.heap.size W).alloc (Nat.le_refl _) (.map #[] 0))
 obtain⟨⟨c0,c1,c2,c3⟩,cd,co⟩:=CC.out _ HW.out
 go_upto_region 4 with(first|(refine vM _ rfl _ _ _ 167 rfl 3 3 .i64 Tryz.underlying167 Tryz.underlying3 W.heap.size _ rfl _ rfl (.int .i64 dom) rfl h0 ?_;clear h0;intro w1 h0 hs1 hz1;replace HW:=qh (HW.out.trans (hs1.below HW.out.size (λk hk=>by omega)));clear hs1 hz1;clear c0 c1 c2 c3 cd co;obtain⟨⟨c0,c1,c2,c3⟩,cd,co⟩:=CC.out _ HW.out)|(refine vM _ rfl _ _ _ 167 rfl 3 3 .i64 Tryz.underlying167 Tryz.underlying3 W.heap.size _ rfl _ rfl (.int .i64 4) rfl h0 ?_;clear h0;intro w1 h0 hs1 hz1;replace HW:=qh (HW.out.trans (hs1.below HW.out.size (λk hk=>by omega)));clear hs1 hz1;clear c0 c1 c2 c3 cd co;obtain⟨⟨c0,c1,c2,c3⟩,cd,co⟩:=CC.out _ HW.out)|(refine vM _ rfl _ _ _ 167 rfl 3 3 .i64 Tryz.underlying167 Tryz.underlying3 W.heap.size _ rfl _ rfl (.int .i64 1) rfl h0 ?_;clear h0;intro w1 h0 hs1 hz1;replace HW:=qh (HW.out.trans (hs1.below HW.out.size (λk hk=>by omega)));clear hs1 hz1;clear c0 c1 c2 c3 cd co;obtain⟨⟨c0,c1,c2,c3⟩,cd,co⟩:=CC.out _ HW.out;have hlk:=kF h0 Tryz.underlying167 Tryz.underlying3 (zfV w1) k false;rw [zt3] at hlk;clear h0))
 have HW4:Hid (Below w.heap.size w w1):=HB.out.trans (HW.out.mono HB.out.size)
 clear hlk hmm
 have HR1:Hid (r=(decide (0<=n) && decide (n<zeb dom k) && (if k=3 then jh o && decide (m=2) && (zT dom d (x.kids.getD 0 default) && zT dom d (x.kids.getD 1 default)) else decide (o=0) && decide (m=0)))):=HR.out.trans (zqG dom k n o m _ _)
 clear HR
 generalize zeb dom k=mo at HR1 ⊢
 by_cases a1:0<=n
 rotate_left
 ·obtain rfl:r=false:=by rw [HR1.out,decide_eq_false a1];simp
  clear HR1
  go_wp2_with fail
  go_ret
  exact⟨by first|rfl|simp,HW4.out⟩
 by_cases a2:n<mo
 rotate_left
 ·obtain rfl:r=false:=by rw [HR1.out,decide_eq_false a2];simp
  clear HR1
  go_wp2_with fail
  go_ret
  exact⟨by first|rfl|simp,HW4.out⟩
 have HR2:Hid (r=(if k=3 then jh o && decide (m=2) && (zT dom d (x.kids.getD 0 default) && zT dom d (x.kids.getD 1 default)) else decide (o=0) && decide (m=0))):=by rw [Hid,HR1.out,decide_eq_true a1,decide_eq_true a2];rfl
 clear HR1
 by_cases k3:k=3
 rotate_left
 ·have HR3:Hid (r=(decide (o=0) && decide (m=0))):=by rw [Hid,HR2.out,if_neg k3]
  have k3b:(k==3)=false:=by simp [k3]
  clear HR2
  by_cases a3:o=0
  ·have ba3:((o:Int)==0)=true:=by simp [a3]
   by_cases a4:m=0
   ·subst a4
    obtain rfl:r=true:=by rw [HR3.out];simp [a3]
    clear HR3 a3
    go_wp2_with fail
    go_ret
    exact⟨by first|rfl|simp,HW4.out⟩
   have ba4:((m:Int)==0)=false:=by simp [a4]
   obtain rfl:r=false:=by rw [HR3.out];simp [a4]
   clear HR3 a3
   go_wp2_with fail
   go_ret
   exact⟨by first|rfl|simp,HW4.out⟩
  have ba3:((o:Int)==0)=false:=by simp [a3]
  obtain rfl:r=false:=by rw [HR3.out];simp [a3]
  clear HR3
  go_wp2_with fail
  go_ret
  exact⟨by first|rfl|simp,HW4.out⟩
 have HR3:Hid (r=(jh o && decide (m=2) && (zT dom d (x.kids.getD 0 default) && zT dom d (x.kids.getD 1 default)))):=by rw [Hid,HR2.out,if_pos k3]
 have kb3:((k:Int)==3)=true:=by simp [k3]
 clear HR2 k3
 have HC2:Hid (∀X,Below w1.heap.size w1 X->X.cell? ⟨gx,2,none⟩=some (.int .u8 o)/\X.cell? ⟨gx,3,none⟩=some (.slice ka m kc)):=λX hX=>by
  obtain⟨⟨-, -,r2,r3⟩, -, -⟩:=CC.out X (HW.out.trans (hX.mono HW.out.size));exact⟨r2,r3⟩
 go_wp2_with fail
 refine(zt1 w1 o).mono ?_
 rintro e w2 ⟨⟨s,rfl,hs⟩,hb2⟩
 have HB2:=qh hb2
 clear c0 c1 c2 c3 hb2
 obtain⟨c2,c3⟩:=HC2.out w2 HB2.out
 cases hsg:jh o with
 |false=>
  have hs2:(s.toList== [])=true:=by have:=hs;rw [hsg] at this;simpa using this
  have hs3:(s.toList.isEmpty)=true:=by have:=hs;rw [hsg] at this;simpa using this
  have hs4:(s.toList != [])=false:=by have:=hs3;simpa using this
  obtain rfl:r=false:=by rw [HR3.out,hsg];simp
  clear HR3 hs hsg
  go_wp2_with fail
  go_ret
  exact⟨by first|rfl|simp,HW4.out.trans (HB2.out.mono HW4.out.size)⟩
 |true=>
 have hs3:(s.toList.isEmpty)=false:=by have:=hs;rw [hsg] at this;simpa using this
 have hs2:(s.toList== [])=false:=by cases hq:s.toList with|nil=>rw [hq] at hs3;simp at hs3|cons a b=>rfl
 have hs4:(s.toList != [])=true:=by have:=hs2;simpa using this
 have HR4:Hid (r=(decide (m=2) && (zT dom d (x.kids.getD 0 default) && zT dom d (x.kids.getD 1 default)))):=by rw [Hid,HR3.out,hsg];simp
 clear HR3 hs hsg
 by_cases a5:m=2
 rotate_left
 ·have b2:((m:Int)==2)=false:=by rw [beq_eq_false_iff_ne];omega
  have b3:(m==2)=false:=by simp [a5]
  obtain rfl:r=false:=by rw [HR4.out];simp [a5]
  clear HR4
  go_wp2_with fail
  go_ret
  exact⟨by first|rfl|simp,HW4.out.trans (HB2.out.mono HW4.out.size)⟩
 obtain⟨e',rfl⟩:∃e',e=e'+1:=by
  cases e with
  |zero=>exact HE.out.elim
  |succ e'=>exact⟨e',rfl⟩
 have HR5:Hid (r= !((List.range x.kids.length).any λj=> !zT dom d (x.kids.getD j default))):=by
  rw [Hid,HR4.out, <-HM.out,a5];simp [List.range_succ]
 clear HR4
 have hw2:Below w.heap.size w w2:=HW4.out.trans (HB2.out.mono HW4.out.size)
 have hke:=zG.below HE.out hw2
 rw [HM.out] at hke
 have hco:Calls Tryz.prog 165 #[.slice ka x.kids.length kc, .func (.func 163) #[] #[.pointer (some ⟨gx+1,0,none⟩), .pointer (some ⟨gx+1+1,0,none⟩)]] w2 λe w'=>e= .returned (.bool ((List.range x.kids.length).any λj=> !zT dom d (x.kids.getD j default)))/\Below w2.heap.size w2 w':=
  zhd (zqF e') (zqF.stays e') w2 _ x.kids hke 163 #[] _ _ (λ_ _=>rfl)
   (λj hj W' cs hcl ⟨kv',q1,q2⟩ hW'=>by
    subst q1
    obtain⟨-,cd',co'⟩:=CC.out W' (HW.out.trans ((HB2.out.trans (hW'.mono HB2.out.size)).mono HW.out.size))
    exact zqE dom d (by omega) (λe W X kv hx=>ih (by omega) e W X kv hx) e' W' _ kv' q2 (gx+1) (gx+2) cd' co')
 rw [<-HM.out] at hco
 rw [<-HM.out] at HR5
 subst a5
 generalize ((List.range 2).any λj=> !zT dom d (x.kids.getD j default))=rr at HR5 hco
 have HCO:=qh hco
 clear hco hw2 hke
 go_wp2_with fail
 refine HCO.out.mono ?_
 rintro e w3 ⟨rfl,hb3⟩
 have HB3:=qh hb3
 have HW5:Hid (Below w.heap.size w w3):=HW4.out.trans ((HB2.out.trans (HB3.out.mono HB2.out.size)).mono HW4.out.size)
 clear hb3 c2 c3
 obtain rfl:r= !rr:=HR5.out
 clear HR5 HCO
 go_wp2_with fail
 go_ret
 exact⟨by first|rfl|simp,HW5.out⟩
theorem znb (dom:Int) (e:Nat) (w:World) (x:zO) (kv:Value) (h:zG e w x kv):Calls Tryz.prog 106 #[qy x kv, .int .i64 dom] w λe w'=>e= .returned (.bool (zT dom 20 x))/\Below w.heap.size w w':=by
 have hi:=λW (hW:Below w.heap.size w W)=>zt4 dom 20 (by omega) e W x kv (h.below hW)
 obtain⟨ka,kc,rfl, -⟩:=h.slice
 generalize zT dom 20 x=r at hi ⊢
 unfold qy at hi ⊢
 generalize x.kind=k at hi ⊢
 generalize x.n=n at hi ⊢
 generalize x.op=o at hi ⊢
 generalize x.kids.length=m at hi ⊢
 have HI:=qh hi
 clear hi h
 have HA:=qh ((Below.refl w.heap.size w).alloc (Nat.le_refl _) (.cells #[.int .i64 k, .int .i64 n, .int .u8 o, .slice ka m kc] 58))
 have xZ:=qh (yj w (.cells #[.int .i64 k, .int .i64 n, .int .u8 o, .slice ka m kc] 58))
 go_enter Tryz.func106,Tryz.ntmps106
 go_upto_region 1 with fail
 generalize World.alloc w _=W at HA xZ ⊢
 obtain⟨gx,hgx⟩:∃gx,gx=w.heap.size:=⟨_,rfl⟩
 rw [<-hgx] at xZ ⊢
 clear hgx
 have c0:W.cell? ⟨gx,0,none⟩=some (.int .i64 k):=ze xZ.out 0
 have c1:W.cell? ⟨gx,1,none⟩=some (.int .i64 n):=ze xZ.out 1
 have c2:W.cell? ⟨gx,2,none⟩=some (.int .u8 o):=ze xZ.out 2
 have c3:W.cell? ⟨gx,3,none⟩=some (.slice ka m kc):=ze xZ.out 3
 go_wp2_with fail
 refine(HI.out _ HA.out).mono ?_
 rintro e w1 ⟨rfl,hb⟩
 have HB1:=qh (zH HA.out hb)
 clear hb
 go_wp2_with fail
 go_ret
 exact⟨by first|rfl|simp,HB1.out⟩
def zdw (dom:Int) (has:Bool) (x:zO):Bool:=if has then zT dom 20 x else vo x
theorem zjg (dom:Int) (e:Nat) (w:World) (x:zO) (kv:Value) (h:zG e w x kv) (has:Bool) (bo:Nat) (co:w.cell? ⟨bo,0,none⟩=some (.int .i64 dom)):
  Calls Tryz.prog 105 #[qy x kv, .bool has, .pointer (some ⟨bo,0,none⟩)] w λe w'=>e= .returned (.bool (zdw dom has x))/\Below w.heap.size w w':=by
 have hi:=λW (hW:Below w.heap.size w W)=>znb dom e W x kv (h.below hW)
 obtain⟨ka,kc,rfl, -⟩:=h.slice
 have hn:=λW=>zt2 W x ka kc
 obtain⟨rn,hrn⟩:∃r,r=vo x:=⟨_,rfl⟩
 obtain⟨ro,hro⟩:∃r,r=zT dom 20 x:=⟨_,rfl⟩
 have hr:zdw dom has x=if has then ro else rn:=by rw [hrn,hro];rfl
 rw [<-hro] at hi
 rw [<-hrn] at hn
 rw [hr]
 clear hr hrn hro
 unfold qy at hi hn ⊢
 generalize x.kind=k at hi hn ⊢
 generalize x.n=n at hi hn ⊢
 generalize x.op=o at hi hn ⊢
 generalize x.kids.length=m at hi hn ⊢
 have HI:=qh hi
 have HN:=qh hn
 clear hi hn h
 have HA:=qh ((Below.refl w.heap.size w).alloc (Nat.le_refl _) (.cells #[.int .i64 k, .int .i64 n, .int .u8 o, .slice ka m kc] 58))
 have xZ:=qh (yj w (.cells #[.int .i64 k, .int .i64 n, .int .u8 o, .slice ka m kc] 58))
 replace co:=zk HA.out _ _ co
 cases has with
 |true=>
  go_enter Tryz.func105,Tryz.ntmps105
  go_upto_region 1 with fail
  generalize World.alloc w _=W at HA xZ co ⊢
  obtain⟨gx,hgx⟩:∃gx,gx=w.heap.size:=⟨_,rfl⟩
  rw [<-hgx] at xZ ⊢
  clear hgx
  have c0:W.cell? ⟨gx,0,none⟩=some (.int .i64 k):=ze xZ.out 0
  have c1:W.cell? ⟨gx,1,none⟩=some (.int .i64 n):=ze xZ.out 1
  have c2:W.cell? ⟨gx,2,none⟩=some (.int .u8 o):=ze xZ.out 2
  have c3:W.cell? ⟨gx,3,none⟩=some (.slice ka m kc):=ze xZ.out 3
  go_wp2_with fail
  refine(HI.out _ HA.out).mono ?_
  rintro e w1 ⟨rfl,hb⟩
  have HB1:=qh (zH HA.out hb)
  clear hb
  go_wp2_with fail
  go_ret
  exact⟨by first|rfl|simp,HB1.out⟩
 |false=>
 go_enter Tryz.func105,Tryz.ntmps105
 go_upto_region 1 with fail
 generalize World.alloc w _=W at HA xZ co ⊢
 obtain⟨gx,hgx⟩:∃gx,gx=w.heap.size:=⟨_,rfl⟩
 rw [<-hgx] at xZ ⊢
 clear hgx
 have c0:W.cell? ⟨gx,0,none⟩=some (.int .i64 k):=ze xZ.out 0
 have c1:W.cell? ⟨gx,1,none⟩=some (.int .i64 n):=ze xZ.out 1
 have c2:W.cell? ⟨gx,2,none⟩=some (.int .u8 o):=ze xZ.out 2
 have c3:W.cell? ⟨gx,3,none⟩=some (.slice ka m kc):=ze xZ.out 3
 go_wp2_with fail
 refine(HN.out _).mono ?_
 rintro e w1 ⟨rfl,hb⟩
 have HB1:=qh (zH HA.out hb)
 clear hb
 go_wp2_with fail
 go_ret
 exact⟨by first|rfl|simp,HB1.out⟩
def fmZ:Value:= .agg #[.bool false, .bool false, .bool false, .bool false, .bool false, .bool false, .nilFunc]
theorem zt6:(Tryz.prog.info? 177).map (λi=>(i.zero,i.size,i.bytes))=some (some fmZ,7,16):=by kernel_rfl
theorem zkH (P:World):(zeroValue 177).run Tryz.prog P= .ok fmZ P:=by
 obtain⟨i0,hi,hz0,hz1,hz2⟩:=info_parts zt6
 simp [zeroValue,typeInfo,hi,hz0]
theorem zt7 (k:Int):∃t o fv,fv.oneCell'=true/\(vE fmL k).getD fmZ= .agg #[.bool (bZ k), .bool (wu k), .bool (gT k), .bool (hasB k), .bool t, .bool o,fv] :=by
 by_cases h:1<=k/\k<=11
 ·have:k=1\/k=2\/k=3\/k=4\/k=5\/k=6\/k=7\/k=8\/k=9\/k=10\/k=11:=by omega
  rcases this with rfl|rfl|rfl|rfl|rfl|rfl|rfl|rfl|rfl|rfl|rfl<;>exact⟨_,_,_,rfl,rfl⟩
 have e:(vE fmL k).getD fmZ=fmZ:=by
  have n1:¬(1:Int)=k:=by omega
  have n2:¬(2:Int)=k:=by omega
  have n3:¬(3:Int)=k:=by omega
  have n4:¬(4:Int)=k:=by omega
  have n5:¬(5:Int)=k:=by omega
  have n6:¬(6:Int)=k:=by omega
  have n7:¬(7:Int)=k:=by omega
  have n8:¬(8:Int)=k:=by omega
  have n9:¬(9:Int)=k:=by omega
  have n10:¬(10:Int)=k:=by omega
  have n11:¬(11:Int)=k:=by omega
  simp [fmL,vE,n1,n2,n3,n4,n5,n6,n7,n8,n9,n10,n11]
 rw [e]
 refine⟨false,false, .nilFunc,rfl, ?_⟩
 have a1:bZ k=false:=by unfold bZ;exact decide_eq_false (by omega)
 have a2:wu k=false:=by unfold wu;exact decide_eq_false (by omega)
 have a3:gT k=false:=by unfold gT;exact decide_eq_false (by omega)
 have a4:hasB k=false:=by unfold hasB;exact decide_eq_false (by omega)
 rw [a1,a2,a3,a4];rfl
def zeJ (n m:Int) (h:Bool):Bool:=if h then decide (0<=n) && decide (n<m) else decide (n=0)
theorem zqH (k reg v:Int) (a b:zO) (vars dom:Int):qH k reg v a b vars dom=(zeJ reg 4 (bZ k) && zeJ v vars (wu k) && zdw dom (gT k) a && zdw dom (hasB k) b):=rfl
theorem ztm (w:World) (k reg v:Int) (a b:zO) (ka kb:Value) (e:Nat) (ha:zG e w a ka) (hb:zG e w b kb) (vars dom:Int):
  Calls Tryz.prog 96 #[.int .i64 k, .int .i64 reg, .int .i64 v,qy a ka,qy b kb, .int .i64 vars, .int .i64 dom] w λe w'=>e= .returned (.bool (qH k reg v a b vars dom))/\Below w.heap.size w w':=by
 rw [zqH]
 have hia:=λW (hW:Below w.heap.size w W) has bo co=>zjg dom e W a ka (ha.below hW) has bo co
 have hib:=λW (hW:Below w.heap.size w W) has bo co=>zjg dom e W b kb (hb.below hW) has bo co
 obtain⟨aa,ac,rfl, -⟩:=ha.slice
 obtain⟨ba,bc,rfl, -⟩:=hb.slice
 obtain⟨fo,ft,fv,hfv,hfm⟩:=zt7 k
 have hst:∀a W,(store a fv .plain).run Tryz.prog W=stored Tryz.prog W a fv .plain:=λa W=>run_store _ _ _ _ _ hfv
 generalize bZ k=h0 at hfm ⊢
 generalize wu k=h1 at hfm ⊢
 generalize gT k=h2 at hfm ⊢
 generalize hasB k=h3 at hfm ⊢
 obtain⟨r1,hr1⟩:∃r,r=zeJ reg 4 h0:=⟨_,rfl⟩
 obtain⟨r2,hr2⟩:∃r,r=zeJ v vars h1:=⟨_,rfl⟩
 obtain⟨r3,hr3⟩:∃r,r=zdw dom h2 a:=⟨_,rfl⟩
 obtain⟨r4,hr4⟩:∃r,r=zdw dom h3 b:=⟨_,rfl⟩
 have hn1:=λW=>zgZ W reg 4 h0
 have hn2:=λW=>zgZ W v vars h1
 unfold zeJ at hr1 hr2
 rw [<-hr1] at hn1
 rw [<-hr2] at hn2
 replace hia:=λW hW bo co=>hia W hW h2 bo co
 replace hib:=λW hW bo co=>hib W hW h3 bo co
 rw [<-hr3] at hia
 rw [<-hr4] at hib
 have hr5:(zeJ reg 4 h0 && zeJ v vars h1 && zdw dom h2 a && zdw dom h3 b)=(r1 && r2 && r3 && r4):=by rw [hr1,hr2,hr3,hr4];rfl
 rw [hr5]
 clear hr5 hr1 hr2 hr3 hr4 ha hb
 unfold qy at hia hib ⊢
 generalize a.kind=ak at hia ⊢
 generalize a.n=an at hia ⊢
 generalize a.op=ao at hia ⊢
 generalize a.kids.length=am at hia ⊢
 generalize b.kind=bk at hib ⊢
 generalize b.n=bn at hib ⊢
 generalize b.op=bo at hib ⊢
 generalize b.kids.length=bm at hib ⊢
 have HIA:=qh hia
 have HIB:=qh hib
 have uY:=qh hn1
 have HN2:=qh hn2
 clear hia hib hn1 hn2
 have hB:=zna w (.cells #[.int .i64 ak, .int .i64 an, .int .u8 ao, .slice aa am ac] 58) (.cells #[.int .i64 bk, .int .i64 bn, .int .u8 bo, .slice ba bm bc] 58) (.cells #[.int .i64 dom] 3)
 have HB:=qh hB.1
 have HX:=qh hB.2.1
 have HD:=qh hB.2.2.1
 have HO:=qh hB.2.2.2.1
 clear hB
 have HFM:=qh hfm
 clear hfm
 go_enter Tryz.func96,Tryz.ntmps96
 go_upto_region 1 with fail
 generalize World.alloc (World.alloc (World.alloc w _) _) _=W at HB HX HD HO ⊢
 obtain⟨gx,hgx⟩:∃gx,gx=w.heap.size:=⟨_,rfl⟩
 rw [<-hgx] at HX HD HO ⊢
 clear hgx
 go_wp2_with fail
 refine(zqD W).mono ?_
 rintro e w1 ⟨mb,rfl,hm1, -,hb1⟩
 have HB1:=qh hb1
 have hlk:=kF hm1 Tryz.underlying178 Tryz.underlying3 (zkH w1) k false
 rw [HFM.out] at hlk
 have HA:=qh ((Below.refl w1.heap.size w1).alloc (Nat.le_refl _) (.cells #[.bool h0, .bool h1, .bool h2, .bool h3, .bool fo, .bool ft,fv] 177))
 have HF:=qh (yj w1 (.cells #[.bool h0, .bool h1, .bool h2, .bool h3, .bool fo, .bool ft,fv] 177))
 clear hm1 HFM hb1
 go_upto_region 2 with fail
 generalize World.alloc w1 _=X at HA HF ⊢
 obtain⟨gf,hgf⟩:∃g,g=w1.heap.size:=⟨_,rfl⟩
 rw [<-hgf] at HF ⊢
 clear hgf
 have HW:Hid (Below w.heap.size w X):=HB.out.trans ((HB1.out.trans (HA.out.mono HB1.out.size)).mono HB.out.size)
 have HC:Hid (∀x,Below X.heap.size X x->(x.cell? ⟨gx,0,none⟩=some (.int .i64 ak)/\x.cell? ⟨gx,1,none⟩=some (.int .i64 an)/\x.cell? ⟨gx,2,none⟩=some (.int .u8 ao)/\x.cell? ⟨gx,3,none⟩=some (.slice aa am ac))/\
   (x.cell? ⟨gx+1,0,none⟩=some (.int .i64 bk)/\x.cell? ⟨gx+1,1,none⟩=some (.int .i64 bn)/\x.cell? ⟨gx+1,2,none⟩=some (.int .u8 bo)/\x.cell? ⟨gx+1,3,none⟩=some (.slice ba bm bc))/\
   (x.cell? ⟨gf,0,none⟩=some (.bool h0)/\x.cell? ⟨gf,1,none⟩=some (.bool h1)/\x.cell? ⟨gf,2,none⟩=some (.bool h2)/\x.cell? ⟨gf,3,none⟩=some (.bool h3))/\x.cell? ⟨gx+1+1,0,none⟩=some (.int .i64 dom)):=λx hx=>
  have k:=λp v h=>zk (zH (HB1.out.trans (HA.out.mono HB1.out.size)) hx) p v h
  ⟨⟨k _ _ (ze HX.out 0),k _ _ (ze HX.out 1),k _ _ (ze HX.out 2),k _ _ (ze HX.out 3)⟩,⟨k _ _ (ze HD.out 0),k _ _ (ze HD.out 1),k _ _ (ze HD.out 2),k _ _ (ze HD.out 3)⟩,⟨zk hx _ _ (ze HF.out 0),zk hx _ _ (ze HF.out 1),zk hx _ _ (ze HF.out 2),zk hx _ _ (ze HF.out 3)⟩,k _ _ (ze HO.out 0)⟩
 clear hlk hst HX HD HO HF HB HB1 HA
 have HXX:=qh (Below.refl X.heap.size X)
 obtain⟨⟨c0,c1,c2,c3⟩,⟨d0,d1,d2,d3⟩,⟨e0,e1,e2,e3⟩,co⟩:=HC.out X HXX.out
 go_wp2_with fail
 refine(uY.out X).mono ?_
 rintro e w2 ⟨rfl,rfl⟩
 cases r1 with
 |false=>
  go_wp2_with fail
  go_ret
  exact⟨by first|rfl|simp,HW.out⟩
 |true=>
 go_wp2_with fail
 refine(HN2.out w2).mono ?_
 rintro e w3 ⟨rfl,rfl⟩
 cases r2 with
 |false=>
  go_wp2_with fail
  go_ret
  exact⟨by first|rfl|simp,HW.out⟩
 |true=>
 go_wp2_with fail
 refine(HIA.out w3 HW.out (gx+1+1) co).mono ?_
 rintro e w4 ⟨rfl,hb4⟩
 have vF:=qh hb4
 have HW4:=qh (HW.out.trans (hb4.mono HW.out.size))
 clear hb4 c0 c1 c2 c3 d0 d1 d2 d3 e0 e1 e2 e3 co
 obtain⟨-,⟨d0,d1,d2,d3⟩,⟨-, -, -,e3⟩,co⟩:=HC.out w4 vF.out
 cases r3 with
 |false=>
  go_wp2_with fail
  go_ret
  exact⟨by first|rfl|simp,HW4.out⟩
 |true=>
 go_wp2_with fail
 refine(HIB.out w4 HW4.out (gx+1+1) co).mono ?_
 rintro e w5 ⟨rfl,hb5⟩
 have HW5:=qh (HW4.out.trans (hb5.mono HW4.out.size))
 clear hb5 d0 d1 d2 d3 e3 co
 go_wp2_with fail
 go_ret
 exact⟨by first|rfl|simp,HW5.out⟩
