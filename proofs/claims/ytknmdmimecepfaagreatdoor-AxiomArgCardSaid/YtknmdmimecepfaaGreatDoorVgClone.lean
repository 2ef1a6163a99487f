/- Steps. -/
import Derived.Test.YtknmdmimecepfaaGreatDoorVgFits
set_option linter.all false
namespace Go.Proofs.YtknmdmimecepfaaGreatDoor
open Go.RowKit
set_option maxRecDepth 100000
set_option maxHeartbeats 16000000
theorem zmd {α:Type} (k:Ask α):∀w:World,w.drawn<=(w.ask k).2.drawn:=by
 induction k with
 |done a=>intro w;exact Nat.le_refl _
 |ask what range k ih=>
 intro w
 unfold World.ask
 simp only []
 split
 ·exact ih _ _
 exact Nat.le_trans (Nat.le_succ _) (ih _ { w with drawn:=w.drawn+1 })
theorem zme (w:World) (c:Sys):w.drawn<=(w.sys c).2.drawn:=by
 unfold World.sys
 have h:=zmd (Kernel.perform c w.os) w
 cases hq:w.ask (Kernel.perform c w.os) with
 |mk p w'=>
 rw [hq] at h
 obtain⟨r,os⟩:=p
 cases r<;>first|exact h|exact Nat.le_refl _
theorem zkp {p:Program} {w:World} {at_:Addr} {u:TypeId} {k:Addr} {v:Value} {a:Bool} {r:World × List Addr} (h:w.viewStore p at_ u k v a= .ok r):r.1.drawn=w.drawn:=by
 unfold World.viewStore at h
 simp only [bind,Except.bind,pure,Except.pure] at h
 repeat' split at h
 all_goals first
  |(cases h;done)
  |(cases h;rfl)
theorem zmf {p:Program} {w:World} {k:Addr} {v:Value} {a:Bool} {r:World × List Addr} (h:w.farStore p k v a= .ok r):r.1.drawn=w.drawn:=by
 unfold World.farStore at h
 split at h
 ·split at h
  ·rename_i h2;cases h;exact zkp h2
  cases h
 cases h
theorem zmg {α:Type} (P:Program) (s:Sem α):∀(w:World) (a:α) (w':World),s.run P w= .ok a w'->w.drawn<=w'.drawn:=by
 induction s with
 |pure a=>intro w b w' h;simp only [Sem.run,Result.ok.injEq] at h;rw [h.2];exact Nat.le_refl _
 |load m a k ih=>
  intro w b w' h
  unfold Sem.run at h
  split at h
  ·exact ih _ _ _ _ h
  split at h
  ·exact ih _ _ _ _ h
  cases h
 |store m a v k ih=>
  intro w b w' h
  cases v<;>unfold Sem.run at h<;>first
   |cases h
   |(split at h
     ·split at h
      ·cases h
      have h3:=ih _ _ _ h
      exact h3
     split at h
     ·rename_i h2
      have:=zmf h2
      simp only [] at this
      have h3:=ih _ _ _ h
      omega
     cases h)
 |new o k ih=>intro w b w' h;unfold Sem.run at h;have h3:=ih _ _ _ _ h;exact h3
 |shape r k ih=>intro w b w' h;exact ih _ _ _ _ h
 |freeze a n k ih=>
  intro w b w' h
  have:=ih _ _ _ h
  have h2:(w.freeze a n).drawn=w.drawn:=by unfold World.freeze;split<;>rfl
  omega
 |frozen a k ih=>intro w b w' h;exact ih _ _ _ _ h
 |getObj r k ih=>
  intro w b w' h
  unfold Sem.run at h
  split at h
  ·cases h
  ·exact ih _ _ _ _ h
  cases h
 |setObj r o k ih=>
  intro w b w' h
  unfold Sem.run at h
  split at h
  ·cases h
  ·have h3:=ih _ _ _ h
   exact h3
  cases h
 |choose q k ih=>
  intro w b w' h
  unfold Sem.run at h
  split at h
  ·exact ih _ _ _ _ h
  have:=ih _ _ _ _ h
  simp only [] at this
  omega
 |sys c k ih=>
  intro w b w' h
  have:=ih _ _ _ _ h
  have h2:=zme w c
  omega
 |program k ih=>intro w b w' h;exact ih _ _ _ _ h
 |mark m k ih=>intro w b w' h;exact ih _ _ _ h
 |halt x=>intro w b w' h;cases h
theorem uj {P:Program} (w:World) {ops:Array Oper} {rest:List Oper} {o:Oper} {a:Act} {Q:Exit->Act->World->Prop} (hgd:o.guard=none) (s x:Operand) (t:TypeId)
  (ho:o.op= .call { callee:= .builtin .append,args:= #[s,x],argTypes:= #[t,t] })
  (e:TypeId) (z:Value) (size bytes:Nat) (ht:P.underlying t=some (.slice e)) (hinfo:(P.info? e).map (λi=>(i.zero,i.size,i.bytes))=some (some z,size,bytes)) (hzs:z.cells.size=size) (hsz:0<size)
  (base:Nat) (v:Value) (n:Nat) (xs:List Value) (hs:a.eval s=v) (hown:w.ownsRow base e size v n xs)
  (ad:Option Addr) (m c:Nat) (news:List Value) (hx:a.eval x= .slice ad m c) (hl:news.length=m*size) (hnews:∀A,ad=some A->∀j u,news[j]? =some u->w.cell? (A.add j)=some u) (hnone:ad=none->m=0) (h1:∀u∈news,u.oneCell'=true)
  (h63:n+m<=maxLen) (hbytes:(n+m)*bytes<=140737488355328) (hbase:base<=w.heap.size)
  (h:∀a' cap' w',w'.ownsRow base e size (.slice a' (n+m) cap') (n+m) (xs++news)->cap'<=9223372036854775807->n+m<=cap'->Since (λk=>v.ownBlock=some k) w w'->
   (∀k,(Value.slice a' (n+m) cap').ownBlock=some k->v.ownBlock=some k\/k=w.heap.size)->w.drawn<=w'.drawn->
   wpList P ops Q rest (a.put o.dst (.slice a' (n+m) cap')) w'):wpList P ops Q (o::rest) a w:=by
 cases ad with
 |some A=>
  obtain⟨i,hi,hz,hsize,hby⟩:=info_parts hinfo
  obtain⟨v',w',hr,h2,h3,h4⟩:=run_append_own (P:=P) w base t o.type e i z size bytes ht hi hz hsize hby hzs hsz v n xs hown A m c news hl (hnews A rfl) h1 h63 hbytes hbase
  have hw:=pR ht hi hz hsize hby hown hl (hnews A rfl) h1 h63 hbytes hr
  obtain⟨a',cap',rfl,hc1,hc2⟩:=vJ h2
  refine wpList_plain hgd λ_ hK=> ?_
  unfold Oper.wp execOp
  simp only [ho,resolve,invoke,builtin,Sem.run_bind,Sem.run_pure,Result.andThen_ok,List.map_toArray,List.map_cons,List.map_nil,hs,hx,hr]
  refine hK _ _ (h a' cap' w' h2 (by unfold maxLen at hc2;omega) hc1 ((Since.refl _ _).grown h3 (λk hk=> .inl hk)) (λk hk=> ?_) (zmg P _ _ _ _ hr))
  rw [hk] at hw
  rcases hw with hw|hw
  ·exact .inl hw.symm
  exact .inr (by simpa using hw)
 |none=>
 have hm:=hnone rfl
 subst hm
 have hn:news= [] :=List.eq_nil_of_length_eq_zero (by simpa using hl)
 subst hn
 obtain⟨i,hi,hz,hsize,hby⟩:=info_parts hinfo
 obtain⟨va,cap,rfl,hc1,hc2⟩:=vJ hown
 have hr:(Builtin.append_ #[t,t] o.type #[.slice va n cap, .slice none 0 c]).run P w= .ok (.slice va n cap) w:=by
  cases va<;>simp [Builtin.append_,run_underlying ht,sizeOf,typeInfo,hi,Builtin.lenOf,Builtin.firstCells,hc1,storeCells]
 refine wpList_plain hgd λ_ hK=> ?_
 unfold Oper.wp execOp
 simp only [ho,resolve,invoke,builtin,Sem.run_bind,Sem.run_pure,Result.andThen_ok,List.map_toArray,List.map_cons,List.map_nil,hs,hx,hr]
 exact hK _ _ (h va cap w (by rw [List.append_nil];exact hown) (by unfold maxLen at hc2;omega) hc1 (Since.refl _ _) (λk hk=> .inl hk) (Nat.le_refl _))
theorem zcf (w:World) (sv:Value) (l:List Int) (h:xX w sv l) (hl:l.length<=100000000):Calls Tryz.prog 66 #[sv] w λe w'=>(∃ca cc,e= .returned (.slice ca l.length cc)/\w'.ownsRow w.heap.size 3 1 (.slice ca l.length cc) l.length (zD yG l))/\Below w.heap.size w w'/\w.drawn<=w'.drawn:=by
 obtain⟨sa,sc,rfl, -⟩:=zh.slice h
 have HS:=qh h
 have zv6:=qh (zoa h)
 obtain⟨n,hn⟩:∃n,n=l.length:=⟨_,rfl⟩
 rw [<-hn] at HS hl ⊢
 have HN:=qh hn
 clear hn h
 cases sa with
 |none=>
  have hn0:n=0:=zmh HS.out
  subst hn0
  have hl0:l= [] :=List.eq_nil_of_length_eq_zero HN.out.symm
  subst hl0
  have heq:∀w,(binOp .eql 35 (.slice none 0 sc) (.slice none 0 0)).run Tryz.prog w= .ok (.bool true) w:=λw=>by
   have:=Lib.run_eql_slice_nil (P:=Tryz.prog) w 35 3 none 0 sc 0 0 Tryz.underlying35
   simpa using this
  go_enter Tryz.func66,Tryz.ntmps66
  go_wp2_with fail
  go_ret
  exact⟨⟨none,0,by first|rfl|simp,World.ownsRow_nil _ _ _ _⟩,Below.refl _ _,Nat.le_refl _⟩
 |some A=>
 have heq:∀w,(binOp .eql 35 (.slice (some A) n sc) (.slice none 0 0)).run Tryz.prog w= .ok (.bool false) w:=λw=>by
  have:=Lib.run_eql_slice_nil (P:=Tryz.prog) w 35 3 (some A) n sc 0 0 Tryz.underlying35
  simpa using this
 have hrow:(w.alloc (.cells #[] 3)).ownsRow w.heap.size 3 1 (.slice (some ⟨w.heap.size,0,none⟩) 0 0) 0 [] :=gL (cs:= []) (zT w _) (Nat.le_refl _) rfl (by unfold maxLen;omega)
 have yS:=qh hrow
 have HW:Hid (∀j u,(zD yG l)[j]? =some u->(w.alloc (.cells #[] 3)).cell? (A.add j)=some u):=λj u hj=>zi ((Below.refl w.heap.size w).alloc (Nat.le_refl _) _) _ _ (zv6.out A rfl j u hj)
 clear hrow
 go_enter Tryz.func66,Tryz.ntmps66
 go_wp2_with(at_builtin;go_must(refine uj _ rfl _ _ 35 rfl 3 (.int .i64 0) 1 8 Tryz.underlying35 zdV rfl (by decide) w.heap.size (.slice (some ⟨w.heap.size,0,none⟩) 0 0) 0 [] rfl yS.out (some A) n sc (zD yG l) rfl ((zav (f:=yG) zaU l).trans (by rw [<-HN.out])) (λ_ e=>by cases e;exact HW.out) (λe=>by cases e) zob (by unfold maxLen;omega) (by omega) (by simp) ?_);intro ja jc X f1 f2 f3 f4 f5 f6;have HX:=qh (zoc f1);have HXB:Hid (Below w.heap.size w X):=(((Since.refl (λk=>w.heap.size<=k) w).alloc (.cells #[] 3)).trans f4 (λk hk=> .inl (by simp [Value.ownBlock] at hk;omega))).below (Nat.le_refl _) (λk hk=>hk);have HD:Hid (w.drawn<=X.drawn):=f6;clear f1 f2 f3 f4 f5 f6)
 go_ret
 exact⟨⟨ja,jc,by first|rfl|simp,HX.out⟩,HXB.out,HD.out⟩
