/- Steps. -/
import Derived.LoopIn
import Derived.LoopNIn
import Derived.OwnWalkIn
import Derived.RangeFuncBound
import Derived.RangeFuncNested
import Derived.Shelf.RegionOpen
import Derived.Test.YtnhahkiojbanfaaGreatDoorRsSameM0
set_option linter.all false
namespace Go.Proofs.YtnhahkiojbanfaaGreatDoor
open Go.RowKit
set_option maxRecDepth 100000
set_option maxHeartbeats 16000000
def z6D {α:Type} (F:Fence) (n:Nat) (P:Program) (g:Nat) (lb:Array Value) (encs:α->Array Value) (Kp:World->World->Prop) (R:World->Prop) (z:Nat) (xs:List α):Prop:=
 ∀(l:Nat) (J:List α->World->Prop) (W:World),R W->(∀s A C row,J s A->A.grownBy C row->(∀r,row=some r->r=z)->J s C)->
  (∀pre x W1,J pre W1->pre.length<xs.length->YieldAt F (n - 1) P l (encs x) W1 λe W'=>e= .returned (.bool true)/\J (pre++ [x]) W'/\Kp W1 W')->
  J [] W->
  CallsIn F n P g (#[.func (.yield l) #[] #[]] ++lb) W λe W'=>(∃v,e= .returned v)/\J xs W'
theorem zh9 {F:Fence} {n:Nat} {P:Program} {w:World} {α:Type} {g:Operand} {ps:Array Tmp} {assign body:Code} {Q:Exit->Act->World->Prop} {a:Act}
  (hro:F.round=none) (h1:1<=n) {gf:Nat} {lb:Array Value} (hg:a.eval g= .func (.func gf) #[] lb) (hFg:F.fn gf) (eg:∀args w,(callFunc gf args).run P w= .ok (.enter gf args) w)
  {encs:α->Array Value} {Kp:World->World->Prop} {R:World->Prop} {z:Nat} {xs:List α} (hseq:z6D F (n - 1) P gf lb encs Kp R z xs) (hz:z<w.heap.size)
  (hKt:∀ {A B C:World},Kp A B->Kp B C->Kp A C) (hKb:∀(W:World) (l:Nat) (r:Loop) (o':Obj),W.heap[l]? =some (.loop r)->Kp W (W.putObj l o')) (hR:∀W,Below w.heap.size w W->R W) (hps:∀x,(encs x).size=ps.size)
  (I:List α->World->Prop) (hI:OwnFrom w.heap.size I) (hIz:∀s A C row,I s A->A.grownBy C row->(∀r,row=some r->r=z)->I s C) (h0:I [] w) (Ax:α->Act->World->Prop) (hAx:∀x a',OwnFrom w.heap.size (λ(_:Unit) W=>Ax x a' W))
  (hassign:∀(l:Nat) (pre:List α) (x:α) (W:World) (K:Act->World->Prop),I pre W->(∀a' W',KeepsFrom w.heap.size W W'->Kp W W'->I pre W'->Ax x a' W'->K a' W')->
   assign.wpIn (F.inRound l) (n - 1 - 1) P (Exit.then K (λ_ _ _=>False)) { tmps:=(ps.zip (encs x)).foldl (λt (p,v)=>t.setIfInBounds p v) a.tmps,defers:= [] } W)
  (hbody:∀(l:Nat) (pre:List α) (x:α) (a':Act) (W:World),I pre W->Ax x a' W->pre.length<xs.length->body.wpIn (F.inRound l) (n - 1 - 1) P (ownPostG w.heap.size Kp I (λ_ _ _=>False) (pre++ [x]) W) a' W)
  (hdone:∀(D:Nat) (W:World),w.heap.size<=D->I xs W->W.heap[D]? =some (.deferred (some []))->Q .normal { a with defers:= { target:= .collected D,args:= #[] } ::a.defers } W):
  (Code.rangeFunc g ps assign body).wpIn F n P Q a w:=by
 refine wpIn_rangeFunc ?_
 intro fn hfn
 rw [hro]
 obtain⟨rec,hrec⟩:∃rec:LoopState->Option Code->Loop,rec=λst pe=> { state:=st,pending:=pe,fn,tmps:=a.tmps,params:=ps,assign,body,defers:=w.heap.size } :=⟨_,rfl⟩
 obtain⟨W1,hW1⟩:∃W1,(w.alloc (.deferred (some []))).alloc (.loop (rec .ready none))=W1:=⟨_,rfl⟩
 have hL1:W1.heap[w.heap.size+1]? =some (.loop (rec .ready none)):=by
  rw [<-hW1];have:=World.alloc_heap_new (w.alloc (.deferred (some []))) (.loop (rec .ready none));rwa [World.size_alloc] at this
 have hK1:W1.heap[w.heap.size]? =some (.deferred (some [])):=by
  rw [<-hW1];exact(Below.heap_alloc _ _ _ (by simp)).trans (World.alloc_heap_new w _)
 have hI1:I [] W1:=by rw [<-hW1];exact hI.alloc _ (hI.alloc _ h0)
 have hb1:Below w.heap.size w W1:=by
  rw [<-hW1];exact((Below.refl _ w).alloc (Nat.le_refl _) _).alloc (by simp) _
 refine⟨w.heap.size+1, [{ target:= .collected w.heap.size,args:= #[] }],W1, { target:= .fn (.func gf) lb,args:= #[.func (.yield (w.heap.size+1)) #[] #[]] },W1,gf,
  #[.func (.yield (w.heap.size+1)) #[] #[]] ++lb,W1, ?_, ?_, ?_, ?_,λ_=>h1, ?_⟩
 ·rw [<-hW1,hrec];exact run_enterLoop_outer _ _ _ _ _
 ·simp only [resolve,hg]
  simp [go_sem]
 ·intro f' hf';simp [Target.leads] at hf';subst hf';exact hFg
 ·simp [invoke,go_sem,eg]
 refine(hseq (w.heap.size+1)
  (λpre W=>I pre W/\W.heap[w.heap.size+1]? =some (.loop (rec .ready none))/\W.heap[w.heap.size]? =some (.deferred (some [])))
  W1 (hR W1 hb1)
  (λs A B row hs hg' hr=>⟨hIz s A B row hs.1 hg' hr,
   (hg'.block _ (Array.getElem?_eq_some_iff.1 hs.2.1).1 (λe=>by have:=hr _ e.symm;omega)).trans hs.2.1,
   (hg'.block _ (Array.getElem?_eq_some_iff.1 hs.2.2).1 (λe=>by have:=hr _ e.symm;omega)).trans hs.2.2⟩)
  ?_ ⟨hI1,hL1,hK1⟩).mono ?_
 ·rintro pre x W ⟨hi,hl,hk⟩ hlen
  have hlt:w.heap.size+1<W.heap.size:=(Array.getElem?_eq_some_iff.1 hl).1
  have hy:=run_yield (P:=P) (args:=encs x) hl (by rw [hrec];exact hps x)
  rw [hrec] at hy
  refine⟨fn,_,assign,body,hy,roundIn_of_wpIn hfn (hassign _ pre x W _ hi ?_)⟩
  clear hy
  intro a' Wa hkfa hkpa hia hax
  replace hl:=hkfa.same _ _ (by omega) hl rfl
  replace hk:=hkfa.same _ _ (Nat.le_refl _) hk rfl
  replace hlt:w.heap.size+1<Wa.heap.size:=(Array.getElem?_eq_some_iff.1 hl).1
  replace hi:=hia
  clear hia
  revert hkpa hkfa
  generalize W=Wb
  intro hkfa hkpa
  obtain⟨W,rfl⟩:∃W,W=Wa:=⟨_,rfl⟩
  refine⟨_,run_beginRound hl (by rw [hrec]), ?_⟩
  have hl2:(W.putObj (w.heap.size+1) (.loop { rec .ready none with state:= .busy })).heap[w.heap.size+1]? =some (.loop { rec .ready none with state:= .busy }):=World.putObj_heap_same hlt
  have hk2:(W.putObj (w.heap.size+1) (.loop { rec .ready none with state:= .busy })).heap[w.heap.size]? =some (.deferred (some [])):=(World.putObj_heap_other (by omega)).trans hk
  have hw2:Kp W (W.putObj (w.heap.size+1) (.loop { rec .ready none with state:= .busy })):=hKb _ _ _ _ hl
  refine wpIn_mono (hbody _ pre x a' _ (hI.putObj _ hi (by omega) hl rfl) ((hAx x a').putObj (s:=()) _ hax (by omega) hl rfl) hlen) ?_
  have fin:∀(jump:Option Code) (W3:World),KeepsFrom w.heap.size (W.putObj (w.heap.size+1) (.loop { rec .ready none with state:= .busy })) W3->
    (Instr.endRound (w.heap.size+1) jump).run P W3= .ok (.bool jump.isNone) (W3.putObj (w.heap.size+1) (.loop (rec (if jump.isNone then .ready else .done) jump)))/\
    W3.heap[w.heap.size+1]? =some (.loop { rec .ready none with state:= .busy })/\
    (W3.putObj (w.heap.size+1) (.loop (rec (if jump.isNone then .ready else .done) jump))).heap[w.heap.size+1]? =some (.loop (rec (if jump.isNone then .ready else .done) jump))/\
    (W3.putObj (w.heap.size+1) (.loop (rec (if jump.isNone then .ready else .done) jump))).heap[w.heap.size]? =some (.deferred (some [])):=λjump W3 hk3=>by
   have hl3:=hk3.same _ _ (by omega) hl2 rfl
   have:=run_endRound (P:=P) jump hl3
   rw [hrec] at this ⊢
   exact⟨this,by rw [hrec] at hl3;exact hl3,World.putObj_heap_same (Array.getElem?_eq_some_iff.1 hl3).1,(World.putObj_heap_other (by omega)).trans (hk3.same _ _ (Nat.le_refl _) hk2 rfl)⟩
  rintro e a3 W3 hp
  cases e with
  |normal=>
   obtain⟨hk3,hkp3,hi3⟩:=hp
   obtain⟨hr,hl3,hl4,hk4⟩:=fin none W3 hk3
   exact⟨_,_,hr,rfl,⟨hI.putObj _ hi3 (by omega) hl3 rfl,hl4,hk4⟩,hKt hkpa (hKt (hKt hw2 hkp3) (hKb _ _ _ _ hl3))⟩
  |ret=>exact hp.2.elim
  |exit id=>exact hp.2.elim
  |goto t=>exact hp.2.elim
  |panic ch=>exact hp.elim
  |outgrown=>exact hp.elim
 rintro e W2 ⟨⟨v,rfl⟩,hi,hl,hk⟩
 exact⟨none,_,by have:=run_endLoop (P:=P) hl (by rw [hrec];simp);rw [hrec] at this;exact this,hdone _ _ (Nat.le_refl _) (hI.putObj _ hi (by omega) hl rfl) ((World.putObj_heap_other (by omega)).trans hk)⟩
end Go.Proofs.YtnhahkiojbanfaaGreatDoor
namespace Go.Proofs.YtnhahkiojbanfaaGreatDoor
open Go.RowKit Go.Shelf
set_option maxRecDepth 100000
set_option maxHeartbeats 16000000
attribute [local go_sem] Oper.semAt_some
def qJ (S:yH):Nat->Int->List zq
 |0,_=> []
 |f+1,t=>if 0<t then(match zbp S t with|some x=>x.1::qJ S f (x.2:Int)|none=> []) else []
theorem zcp:∀(l:List (Int × zq × Nat)) (n:Int) (x:zq × Nat),ji l n=some x->(n,x)∈l:=by
 intro l n x
 induction l with
 |nil=>intro h;cases h
 |cons e l ih=>
 intro h
 unfold ji at h
 split at h
 ·rename_i he
  cases h;subst he;simp
 exact List.mem_cons_of_mem _ (ih h)
theorem zn1 (S:yH) (n:Nat) (e:Int × zq × Nat) (h:e∈yY S n):(e.2.2:Int)<e.1:=by
 unfold yY qR uQ at h
 simp only [List.mem_flatMap,List.mem_range] at h
 obtain⟨i, -,k, -,h⟩:=h
 split at h
 ·rename_i hc
  simp only [List.mem_singleton] at h
  subst h;exact hc.1
 cases h
theorem zj2 {S:yH} {t:Int} {x:zq × Nat} (h:zbp S t=some x):(x.2:Int)<t:=zn1 S _ _ (zcp _ _ _ h)
theorem zpY (S:yH):∀f g t,t.toNat<=f->t.toNat<=g->qJ S f t=qJ S g t:=by
 intro f
 induction f with
 |zero=>
  intro g t h1 h2
  cases g with
  |zero=>rfl
  |succ g=>unfold qJ;rw [if_neg (by omega)]
 |succ f ih=>
 intro g t h1 h2
 cases g with
 |zero=>unfold qJ;rw [if_neg (by omega)]
 |succ g=>
 unfold qJ
 split
 ·cases hw:zbp S t with
  |none=>rfl
  |some x=>
  have:=zj2 hw
  simp only []
  rw [ih g x.2 (by omega) (by omega)]
 rfl
theorem ziO {S:yH} {t:Int} (ht:0<t) {x:zq × Nat} (h:zbp S t=some x):qJ S t.toNat t=x.1::qJ S (x.2:Int).toNat (x.2:Int):=by
 have hl:=zj2 h
 obtain⟨f,hf⟩:∃f,t.toNat=f+1:=⟨t.toNat - 1,by omega⟩
 rw [hf]
 show(if 0<t then(match zbp S t with|some x=>x.1::qJ S f (x.2:Int)|none=> []) else [])=_
 rw [if_pos ht,h]
 simp only []
 rw [zpY S f (x.2:Int).toNat x.2 (by omega) (by omega)]
theorem ziP {S:yH} {t:Int} (h:¬0<t\/zbp S t=none):qJ S t.toNat t= [] :=by
 cases hf:t.toNat with
 |zero=>rfl
 |succ f=>
 unfold qJ
 rcases h with h|h
 ·rw [if_neg h]
 rw [h];split<;>rfl
theorem zkv (S:yH):∀f t,(qJ S f t).length<=f:=by
 intro f
 induction f with
 |zero=>intro t;simp [qJ]
 |succ f ih=>
 intro t
 unfold qJ
 split
 ·cases zbp S t with
  |none=>simp
  |some x=>have:=ih (x.2:Int);simp only [List.length_cons];omega
 simp
def ziQ:Obj->Bool
 | .cells _ t _=>t !=32 && t !=70
 | .map _ _=>true
 |_=>false
def uK (A C:World):Prop:=∀(k:Nat) (o:Obj),A.heap[k]? =some o->ziQ o=true->C.heap[k]? =some o
theorem uK.trans {A B C:World} (h:uK A B) (g:uK B C):uK A C:=λk o hk ho=>g k o (h k o hk ho) ho
theorem uK.grown {A C:World} {row:Option Nat} (h:A.grownBy C row) (hr:∀k o,row=some k->A.heap[k]? =some o->ziQ o=false):uK A C:=λk o hk ho=>
 (h.block k (zw hk) (λe=>by have:=hr k o e.symm hk;rw [this] at ho;cases ho)).trans hk
theorem uK.record (W:World) (l:Nat) (r:Loop) (o':Obj) (h:W.heap[l]? =some (.loop r)):uK W (W.putObj l o'):=
 .grown (grownBy_putObj' W l o') (λk o e hk=>by cases e;rw [h] at hk;cases hk;rfl)
theorem uK.box {A C:World} (h:uK A C) {k:Nat} {c:Array Value} {t:TypeId} {f:Nat × Nat} (hk:A.heap[k]? =some (.cells c t f)) (h1:t≠32) (h2:t≠70):C.heap[k]? =some (.cells c t f):=
 h k _ hk (by simp [ziQ,h1,h2])
theorem xL.keep {A C:World} {b:Nat} {l:List (Int × Value)} (h:xL A b l) (hk:uK A C):xL C b l:=by
 obtain⟨es,clock,h1,h2⟩:=h
 exact⟨es,clock,hk b _ h1 rfl,h2⟩
theorem xL.grown {A C:World} {row:Option Nat} {b:Nat} {l:List (Int × Value)} (h:xL A b l) (hg:A.grownBy C row) (hr:some b≠row):xL C b l:=by
 obtain⟨es,clock,h1,h2⟩:=h
 exact⟨es,clock,(hg.block b (zw h1) hr).trans h1,h2⟩
def zpZ (z:Nat) (w:World):Nat:=(intOf ((w.cell? ⟨z,0,none⟩).getD undef)).toNat
theorem zmw {z:Nat} {w:World} {t:Int} (h:w.cell? ⟨z,0,none⟩=some (.int .i64 t)):zpZ z w=t.toNat:=by unfold zpZ;rw [h];rfl
theorem zvs (n l z y b:Nat) (t:Int) (S:yH) (ml:List (Int × Value)) (xs:List zq) (hxs:xs=qJ S t.toNat t) (hn:1<=n) (J:List zq->World->Prop)
  (hJ:∀s A C row,J s A->A.grownBy C row->(∀r,row=some r->r=z)->J s C)
  (hY:∀pre x W1,J pre W1->pre.length<xs.length->YieldAt Fence.wide (n - 1) Tryz.prog l #[.agg #[.int .i64 x.kind, .int .i64 x.thread, .int .i64 x.var]] W1 λe W'=>e= .returned (.bool true)/\J (pre++ [x]) W'/\uK W1 W')
  (W:World) (hz:Boxed W z 3 (.int .i64 t)) (hy:Boxed W y 128 (.map (some b))) (hm:xL W b ml) (hh:jK ml (yY S S.next.length)) (h0:J [] W):
  CallsIn Fence.wide n Tryz.prog 67 #[.func (.yield l) #[] #[], .pointer (some ⟨z,0,none⟩), .pointer (some ⟨y,0,none⟩)] W λe W'=>(∃v,e= .returned v)/\J xs W':=by
 refine callsIn_of_wp Tryz.func67 rfl trivial ?_ rfl
 simp only [Tryz.ntmps67,List.size_toArray,List.length_cons,List.length_nil,Nat.reduceAdd,Nat.reduceSub,Array.replicate_succ,Array.replicate_zero,List.push_toArray,List.append_toArray,List.nil_append,List.cons_append]
 have HXS:=qh hxs
 have HH:=qh hh
 clear hxs hh
 gi_wp2
 gi_loopw [] (λwr=>∃(t':Int) (pre:List zq),Hid (xs=pre++qJ S t'.toNat t')/\J pre wr/\Hid (Boxed wr z 3 (.int .i64 t'))/\Hid (Boxed wr y 128 (.map (some b)))/\Hid (xL wr b ml)) (zpZ z)
 case atStart=>exact⟨t, [],by simpa [Hid] using HXS.out,h0,hz,hy,hm⟩
 case round=>
 obtain⟨t',pre,HP,hJs,HZ,HY2,HM⟩:=hrel
 clear hz hy hm h0
 have c1:=HZ.out.cell
 have c2:=HY2.out.cell
 by_cases ht:0<t'
 rotate_left
 ·have hend:J xs wr:=by
   rw [HP.out,ziP (.inl ht),List.append_nil];exact hJs
  have ht2:t'<=0:=by omega
  have zR:=qh hend
  clear hend ht
  gi_wp2
  go_end0
  exact⟨⟨_,rfl⟩,zR.out⟩
 have hlk:=kF HM.out Tryz.underlying128 Tryz.underlying3 (zfa wr) t' true
 simp only [if_true] at hlk
 cases hw:zbp S t' with
 |none=>
  have hf:vE ml t'=none:=by rw [HH.out t'];unfold zbp at hw;rw [hw];rfl
  rw [hf] at hlk
  simp only [Option.getD_none,Option.isSome_none] at hlk
  have hend:J xs (wr.alloc (.cells #[.int .i64 0, .int .i64 0, .int .i64 0, .int .i64 0] 132)):=by
   rw [HP.out,ziP (.inr hw),List.append_nil]
   exact hJ _ _ _ none hJs (World.grownBy_alloc _ _ none) (λr e=>by cases e)
  have zR:=qh hend
  clear hend hf hw
  gi_wp2
  refine⟨λ_ h=>(by cases h), ?_⟩
  gi_wp2
  refine bodyPost_ret (results_none rfl _ _ _) rfl ?_
  exact⟨⟨_,rfl⟩,zR.out⟩
 |some x=>
 have hf:vE ml t'=some (zqa x):=by rw [HH.out t'];unfold zbp at hw;rw [hw];rfl
 rw [hf] at hlk
 simp only [Option.getD_some,Option.isSome_some] at hlk
 obtain⟨⟨xk,xt,xv⟩,i⟩:=x
 unfold zqa at hlk
 dsimp only at hlk
 have hlt:=zj2 hw
 dsimp only at hlt
 have zmx:=HP.out
 rw [ziO ht hw] at zmx
 dsimp only at zmx
 clear hf
 obtain⟨W1,hW1⟩:∃W1,W1=wr.alloc (.cells #[.int .i64 xk, .int .i64 xt, .int .i64 xv, .int .i64 (i:Int)] 132):=⟨_,rfl⟩
 have hg1:wr.grownBy W1 none:=by rw [hW1];exact World.grownBy_alloc _ _ none
 have hq:W1.heap[wr.heap.size]? =some (.cells #[.int .i64 xk, .int .i64 xt, .int .i64 xv, .int .i64 (i:Int)] 132 (0,0)):=by rw [hW1];exact yj _ _
 have HJ1:=qh (hJ _ _ _ none hJs hg1 (λr e=>by cases e))
 have HZ1:=qh (HZ.out.kept hg1 (by simp))
 have uw:=qh (HY2.out.kept hg1 (by simp))
 have HM1:=qh (HM.out.grown hg1 (by simp))
 obtain⟨fn,tmps,assign,body,hy,hR⟩:=hY _ ⟨xk,xt,xv⟩ W1 HJ1.out (by rw [zmx];simp)
 have d0:W1.cell? ⟨wr.heap.size,0,none⟩=some (.int .i64 xk):=ze hq 0
 have d1:W1.cell? ⟨wr.heap.size,1,none⟩=some (.int .i64 xt):=ze hq 1
 have d2:W1.cell? ⟨wr.heap.size,2,none⟩=some (.int .i64 xv):=ze hq 2
 have z6E:=qh zmx
 have HQ:=qh hq
 have HLT:=qh hlt
 clear zmx hq hlt hw hg1
 subst hW1
 gi_wp2
 refine hR.mono ?_
 rintro e W3 ⟨rfl,hJ3,hk3⟩
 have hq3:=hk3.box HQ.out (by decide) (by decide)
 have hz3:Boxed W3 z 3 (.int .i64 t'):=hk3.box HZ1.out (by decide) (by decide)
 have hy3:Boxed W3 y 128 (.map (some b)):=hk3.box uw.out (by decide) (by decide)
 have hm3:=HM1.out.keep hk3
 have e3:W3.cell? ⟨wr.heap.size,3,none⟩=some (.int .i64 (i:Int)):=ze hq3 3
 have g1:=hz3.cell
 have f1:=hz3.frozen
 clear hy hR d0 d1 d2 hlk
 gi_wp2
 go_roundw
 case rel=>
  have hzy:z≠y:=λe=>by subst e;unfold Boxed at hz3 hy3;rw [hz3] at hy3;cases hy3
  have hzb:z≠b:=λe=>by subst e;obtain⟨es,ck,h1, -⟩:=hm3;unfold Boxed at hz3;rw [hz3] at h1;cases h1
  refine⟨i,pre++ [⟨xk,xt,xv⟩], ?_,hJ _ _ _ (some z) hJ3 (grownBy_setCell' _ z _) (λr e=>by cases e;rfl),hz3.set _,hy3.other (λe=>hzy e.symm) _,hm3.grown (grownBy_setCell' _ z _) (λe=>hzb (by cases e;rfl))⟩
  rw [Hid,z6E.out];simp
 case measure=>
 rw [zmw (hz3.set (.int .i64 (i:Int))).cell,zmw c1]
 have:=HLT.out
 omega
end Go.Proofs.YtnhahkiojbanfaaGreatDoor
namespace Go.Proofs.YtnhahkiojbanfaaGreatDoor
open Go.RowKit Go.Shelf
set_option maxRecDepth 100000
set_option maxHeartbeats 16000000
attribute [local go_sem] Oper.semAt_some
def zyl (w:World) (S:yH) (t:Int) (e:Ending) (w':World):Prop:=∃(z y b:Nat) (ml:List (Int × Value)),e= .returned (.func (.func 67) #[] #[.pointer (some ⟨z,0,none⟩), .pointer (some ⟨y,0,none⟩)])/\w.heap.size<=z/\Boxed w' z 3 (.int .i64 t)/\Boxed w' y 128 (.map (some b))/\xL w' b ml/\jK ml (yY S S.next.length)/\Below w.heap.size w w'
theorem zvt (w:World) (S:yH) (sv mv nv:Value) (h:wM w S sv mv nv) (hm:S.moves.length=S.next.length) (t:Int):Calls Tryz.prog 43 #[zdU sv mv nv, .int .i64 t] w (zyl w S t):=by
 obtain⟨a1,c1,rfl, -⟩:=zh.slice h.1
 obtain⟨a2,c2,rfl, -⟩:=zh.slice h.2.1
 obtain⟨a3,c3,rfl, -⟩:=zh.slice h.2.2
 have hB:Below w.heap.size w ((w.alloc (.cells #[.slice a1 S.states.length c1, .slice a2 S.moves.length c2, .slice a3 S.next.length c3] 49)).alloc (.cells #[.int .i64 t] 3)):=xO w _ _
 have H1:((w.alloc (.cells #[.slice a1 S.states.length c1, .slice a2 S.moves.length c2, .slice a3 S.next.length c3] 49)).alloc (.cells #[.int .i64 t] 3)).heap[w.heap.size]? =some (.cells #[.slice a1 S.states.length c1, .slice a2 S.moves.length c2, .slice a3 S.next.length c3] 49 (0,0)):=(Below.heap_alloc _ _ _ (by simp)).trans (yj w _)
 have H2:Boxed ((w.alloc (.cells #[.slice a1 S.states.length c1, .slice a2 S.moves.length c2, .slice a3 S.next.length c3] 49)).alloc (.cells #[.int .i64 t] 3)) (w.heap.size+1) 3 (.int .i64 t):=by
  have:=yj (w.alloc (.cells #[.slice a1 S.states.length c1, .slice a2 S.moves.length c2, .slice a3 S.next.length c3] 49)) (.cells #[.int .i64 t] 3)
  rwa [World.size_alloc] at this
 have HS:=qh (h.below hB)
 have jd:=qh hB
 have HH1:=qh H1
 have HH2:=qh H2
 have HM:=qh hm
 clear h hB H1 H2 hm
 unfold zdU
 go_enter Tryz.func43,Tryz.ntmps43
 go_upto_region 1 with fail
 generalize World.alloc (World.alloc _ _) _=W at HS jd HH1 HH2 ⊢
 obtain⟨g,hg⟩:∃g,g=w.heap.size:=⟨_,rfl⟩
 rw [<-hg] at HH1 HH2 ⊢
 have c0:W.cell? ⟨g,0,none⟩=some (.slice a1 S.states.length c1):=ze HH1.out 0
 have c1':W.cell? ⟨g,1,none⟩=some (.slice a2 S.moves.length c2):=ze HH1.out 1
 have c2':W.cell? ⟨g,2,none⟩=some (.slice a3 S.next.length c3):=ze HH1.out 2
 have HG:=qh hg
 clear hg
 go_wp2_with(go_at_call 66;go_must(refine(zvu W S _ _ _ HS.out HM.out).mono ?_);rintro e w2 ⟨b,ml,rfl,hml,hbl,hhl,hb2⟩;(have bq:=qh hml);(have HHL:=qh hhl);(have HB2:=qh hb2);clear hml hbl hhl hb2)
 go_ret
 have hz2:Boxed w2 (g+1) 3 (.int .i64 t):=(HB2.out.block _ HH2.out.lt).trans HH2.out
 have hbw:Below w.heap.size w w2:=jd.out.trans (HB2.out.mono jd.out.size)
 refine⟨g+1,w2.heap.size,b,ml,rfl,by have:=HG.out;omega,hz2.alloc _,Boxed.new w2 _ _,bq.out.grown (World.grownBy_alloc w2 _ none) (by simp),HHL.out,hbw.alloc hbw.size _⟩
def Row (B:Nat) (bx z:Nat) (w:World) (pre:List zq) (W:World):Prop:=∃sv,Boxed W bx 32 sv/\W.ownsRow B 70 3 sv pre.length (zo zq.cells pre)/\Since (λk=>k=z) w W
theorem Row.grown {B bx z:Nat} {w:World} {pre:List zq} {W X:World} {row:Option Nat} (h:Row B bx z w pre W) (hg:W.grownBy X row) (hw:w.heap.size<=B) (hx:some bx≠row) (hr:∀k,row=some k->k=z/\z<B\/B<=k/\∃o,W.heap[k]? =some o/\o.isCells=false):Row B bx z w pre X:=by
 obtain⟨sv,h1,h2,h3⟩:=h
 refine⟨sv,h1.kept hg hx, ?_,h3.grown hg (λk hk=> ?_)⟩
 ·refine Since.row (F:=λk=>row=some k) ⟨hg.os,hg.tape,hg.output,hg.size,λk hk hne=>hg.block k hk λe=>hne e.symm⟩ h2 (λk hk e=> ?_)
  rcases h2.2 with⟨rfl, -⟩|⟨g,cap,cur,rfl,hb,hc, -⟩
  ·cases hk
  simp only [Value.ownBlock,Option.some.injEq] at hk
  subst hk
  rcases hr _ e with⟨rfl,hz⟩|⟨-,o,ho,hcl⟩
  ·omega
  rw [hc] at ho;cases ho;cases hcl
 rcases hr k hk with⟨rfl, -⟩|⟨hb, -⟩
 ·exact .inl rfl
 exact .inr (by omega)
theorem Row.ahead {B bx z:Nat} {w:World} {pre:List zq} {W:World} (h:Row B bx z w pre W) (o:Obj) (hw:w.heap.size<=B):Row B bx z w pre (W.alloc o):=h.grown (World.grownBy_alloc W o none) hw (by simp) (λk e=>by cases e)
theorem Row.put {B bx z:Nat} {w W W2 W3:World} {pre:List zq} {x:zq} {sv v:Value} (hb:Boxed W bx 32 sv) (hown:W.ownsRow B 70 3 sv pre.length (zo zq.cells pre)) (hs:Since (λk=>k=z) w W) (hg2:W.grownBy W2 none)
  (h1:W3.ownsRow B 70 3 v (pre.length+1) (zo zq.cells pre++x.cells)) (hg3:W2.grownBy W3 sv.ownBlock) (hw:w.heap.size<=bx) (hbB:bx<B):
  KeepsFrom B W (W3.setCell ⟨bx,0,none⟩ v)/\uK W (W3.setCell ⟨bx,0,none⟩ v)/\Row B bx z w (pre++ [x]) (W3.setCell ⟨bx,0,none⟩ v):=by
 have hset:=grownBy_setCell' W3 bx v
 have hsv:∀g,sv.ownBlock=some g->B<=g/\∃cur,W.heap[g]? =some (.cells cur 70 (0,0)):=λg e=>by
  rcases hown.2 with⟨rfl, -⟩|⟨g',cap,cur,rfl,hb',hc, -⟩
  ·cases e
  cases e;exact⟨hb',cur,hc⟩
 have step:∀k o,W.heap[k]? =some o->k≠bx->(∀cur,o≠ .cells cur 70 (0,0))->(W3.setCell ⟨bx,0,none⟩ v).heap[k]? =some o:=λk o hk hne ho=>by
  have hlt:=zw hk
  have hlt2:=Nat.lt_of_lt_of_le hlt hg2.size
  have hne2:some k≠sv.ownBlock:=λe=>by
   obtain⟨-,cur,hc⟩:=hsv k e.symm
   rw [hk] at hc;cases hc;exact ho _ rfl
  exact((hset.block k (Nat.lt_of_lt_of_le hlt2 hg3.size) (λe=>hne (by cases e;rfl))).trans (hg3.block k hlt2 hne2)).trans ((hg2.block k hlt (by simp)).trans hk)
 have hsz:W.heap.size<=(W3.setCell ⟨bx,0,none⟩ v).heap.size:=Nat.le_trans hg2.size (Nat.le_trans hg3.size hset.size)
 refine⟨⟨hsz,λk o hB hk ho=>step k o hk (by omega) (λcur e=>by subst e;cases ho)⟩,λk o hk ho=>step k o hk (λe=> ?_) (λcur e=>by subst e;simp [ziQ] at ho),v, ?_, ?_, ?_⟩
 ·subst e;rw [show W.heap[k]? =_ from hb] at hk;cases hk;simp [ziQ] at ho
 ·have h2:Boxed W2 bx 32 sv:=hb.kept hg2 (by simp)
  have h3:Boxed W3 bx 32 sv:=h2.kept hg3 (λe=>by have:=(hsv bx e.symm).1;omega)
  exact h3.set v
 ·have e1:(pre++ [x]).length=pre.length+1:=by simp
  have e2:zo zq.cells (pre++ [x])=zo zq.cells pre++x.cells:=by simp [zo]
  rw [e1,e2]
  refine Since.row (F:=λk=>k=bx) ⟨hset.os,hset.tape,hset.output,hset.size,λk hk hne=>hset.block k hk λe=>hne (by cases e;rfl)⟩ h1 (λk hk e=> ?_)
  rcases h1.2 with⟨rfl, -⟩|⟨g',cap,cur,rfl,hb', -, -⟩
  ·cases hk
  cases hk;simp at e;omega
 exact((hs.grown hg2 (λk e=>by cases e)).grown hg3 (λk e=> .inr (by have:=(hsv k e).1;omega))).grown hset (λk e=> .inr (by cases e;exact hw))
theorem addr_add (b j:Nat):(⟨b,0,none⟩:Addr).add j=⟨b,j,none⟩:=by
 simp only [Addr.add]
 split
 ·rename_i h;rw [h]
 rw [Nat.zero_add]
theorem z0N {W:World} {B bx:Nat} {e:TypeId} {size:Nat} {sv:Value} {n:Nat} {xs:List Value} (h:W.ownsRow B e size sv n xs) (hb:bx<B):some bx≠sv.ownBlock:=λq=>by
 rcases h.2 with⟨rfl, -⟩|⟨g,cap,cur,rfl,hg, -⟩
 ·cases q
 simp only [Value.ownBlock,Option.some.injEq] at q
 omega
def zmy (w:World) (z:Nat) (xs:List zq) (e:Ending) (w':World):Prop:=∃sv,e= .returned sv/\w'.ownsRow w.heap.size 70 3 sv xs.length (zo zq.cells xs)/\Since (λk=>k=z) w w'
theorem zkA (w:World) (S:yH) (t:Int) (z y b:Nat) (ml:List (Int × Value)) (ht:t<=1000000) (hz:Boxed w z 3 (.int .i64 t)) (hy:Boxed w y 128 (.map (some b))) (hm:xL w b ml) (hh:jK ml (yY S S.next.length)):
  Calls Tryz.prog 65 #[.slice none 0 0, .func (.func 67) #[] #[.pointer (some ⟨z,0,none⟩), .pointer (some ⟨y,0,none⟩)]] w (zmy w z (qJ S t.toNat t)):=by
 obtain⟨xs,hxs⟩:∃xs,xs=qJ S t.toNat t:=⟨_,rfl⟩
 have hxl:xs.length<=1000000:=by rw [hxs];have:=zkv S t.toNat t;omega
 rw [<-hxs]
 refine(callsIn_wide (n:=8)).1 ?_
 refine callsIn_of_wp_marks Tryz.func65 rfl trivial ?_ rfl
 simp only [Tryz.ntmps65,List.size_toArray,List.length_cons,List.length_nil,Nat.reduceAdd,Nat.reduceSub,Array.replicate_succ,Array.replicate_zero,List.push_toArray,List.append_toArray,List.nil_append,List.cons_append]
 have hB0:Below w.heap.size w (w.alloc (.cells #[.slice none 0 0] 32)):=(Below.refl _ w).alloc (Nat.le_refl _) _
 have b0:=Boxed.new w 32 (.slice none 0 0)
 have hsz:(w.alloc (.cells #[.slice none 0 0] 32)).heap.size=w.heap.size+1:=by simp
 have hg0:=World.grownBy_alloc w (.cells #[.slice none 0 0] 32) none
 have HZ:=qh (hz.alloc (.cells #[.slice none 0 0] 32))
 have HY:=qh (hy.alloc (.cells #[.slice none 0 0] 32))
 have HM:=qh (hm.grown hg0 (by simp))
 have HZL:=qh hz.lt
 have HH:=qh hh
 have HXS:=qh hxs
 clear hz hy hm hh hxs hg0
 gi_wp2
 generalize World.alloc w _=W0 at hB0 b0 hsz HZ HY HM ⊢
 refine zh9 rfl (by decide) (gf:=67) (lb:= #[.pointer (some ⟨z,0,none⟩), .pointer (some ⟨y,0,none⟩)]) rfl trivial (enters_of Tryz.func67 (by kernel_rfl) rfl)
  (encs:=λx:zq=> #[.agg #[.int .i64 x.kind, .int .i64 x.thread, .int .i64 x.var]]) (Kp:=uK) (R:=λW=>Boxed W z 3 (.int .i64 t)/\Boxed W y 128 (.map (some b))/\xL W b ml) (z:=z) (xs:=xs)
  (λl J W hR hJ hY h0=>zvs (8 - 1) l z y b t S ml xs HXS.out (by decide) J hJ hY W hR.1 hR.2.1 hR.2.2 HH.out h0)
  (by have:=HZL.out;omega) (λh k=>h.trans k) uK.record
  (λW hb=>⟨(hb.block _ HZ.out.lt).trans HZ.out,(hb.block _ HY.out.lt).trans HY.out,HM.out.below hb⟩) (λ_=>rfl)
  (Row (w.heap.size+1) w.heap.size z w)
  (λpre A C row hs hg hr=>hs.grown hg (by omega) (λe=>by have:=(hr _ e.symm).1;omega) (λk hk=> .inr ⟨by have:=(hr k hk).1;omega,(hr k hk).2⟩))
  (λpre A C row hs hg hr=>hs.grown hg (by omega) (λe=>by have:=hr _ e.symm;have:=HZL.out;omega) (λk hk=> .inl ⟨hr k hk,by have:=HZL.out;omega⟩))
  ⟨.slice none 0 0,b0,⟨rfl, .inl ⟨rfl,rfl⟩⟩,⟨hB0.os,hB0.tape,hB0.output,hB0.size,λk hk _=>hB0.block k hk⟩⟩
  (λx a' W=>∃Bx,w.heap.size+1<=Bx/\W.heap[Bx]? =some (.cells #[.int .i64 x.kind, .int .i64 x.thread, .int .i64 x.var] 70 (0,0))/\a'= { tmps:= #[.slice none 0 0, .func (.func 67) #[] #[.pointer (some ⟨z,0,none⟩), .pointer (some ⟨y,0,none⟩)], .pointer (some ⟨w.heap.size,0,none⟩),undef, .slice none 0 0, .pointer (some ⟨Bx,0,none⟩), .func (.func 67) #[] #[.pointer (some ⟨z,0,none⟩), .pointer (some ⟨y,0,none⟩)], .agg #[.int .i64 x.kind, .int .i64 x.thread, .int .i64 x.var],undef,undef,undef,undef,undef],defers:= [] })
  (λx a' _ X Y row hs hg hr=>by
   obtain⟨Bx,h1,h2,h3⟩:=hs
   refine⟨Bx,h1, ?_,h3⟩
   refine(hg.block Bx (zw h2) (λe=> ?_)).trans h2
   obtain⟨o,ho,hc⟩:=(hr Bx e.symm).2
   rw [h2] at ho;cases ho;cases hc)
  ?assign ?body ?done
 case assign=>
  rintro l2 pre x W K hrow hK
  gi_wp2
  have hl:=hrow
  obtain⟨sv,hb, -, -⟩:=hl
  have:=hb.lt
  exact hK _ _ ((KeepsOthers.alloc _ _).from _) (.grown (World.grownBy_alloc W _ none) (λk o e=>by cases e)) (hrow.ahead _ (by omega)) ⟨W.heap.size,by omega,yj W _,rfl⟩
 case body=>
  rintro l2 pre x a' W ⟨sv,hb,hown,zcx⟩ ⟨Bx,hBx,bX,rfl⟩ hlen
  have d0:W.cell? ⟨Bx,0,none⟩=some (.int .i64 x.kind):=ze bX 0
  have d1:W.cell? ⟨Bx,1,none⟩=some (.int .i64 x.thread):=ze bX 1
  have d2:W.cell? ⟨Bx,2,none⟩=some (.int .i64 x.var):=ze bX 2
  have c1:=hb.cell
  have f1:=hb.frozen
  obtain⟨i0,hi0,hiz,his,hib⟩:=info_parts bU
  have HOWN:=qh hown
  have HB:=qh hb
  have HSI:=qh zcx
  clear hown hb zcx bX
  obtain⟨pl,hpl⟩:∃pl,pl=pre.length:=⟨_,rfl⟩
  have jS:=qh hpl
  rw [<-hpl] at hlen
  clear hpl
  have hg2:=World.grownBy_alloc W (.cells #[.int .i64 x.kind, .int .i64 x.thread, .int .i64 x.var] 70) none
  have hq:=yj W (.cells #[.int .i64 x.kind, .int .i64 x.thread, .int .i64 x.var] 70)
  have z2W:Hid ((W.alloc (.cells #[.int .i64 x.kind, .int .i64 x.thread, .int .i64 x.var] 70)).ownsRow (w.heap.size+1) 70 3 sv pl (zo zq.cells pre)):=by
   rw [Hid,jS.out]
   exact Since.row (F:=λ_=>False) ⟨hg2.os,hg2.tape,hg2.output,hg2.size,λk hk _=>hg2.block k hk (by simp)⟩ HOWN.out (λ_ _ h=>h)
  have HQ:=qh hq
  have HBS:=qh HB.out.lt
  clear hg2 hq
  gi_wp2_with (gi_at_builtin;refine wpListIn_append_own _ rfl (.tmp 8) (.tmp 10) 32 rfl (w.heap.size+1) 70 i0 (.agg #[.int .i64 0, .int .i64 0, .int .i64 0]) 3 24 Tryz.underlying32 hi0 hiz his hib (by rfl) (by decide) sv pl (zo zq.cells pre) (by rfl) z2W.out ⟨W.heap.size,0,none⟩ 1 1 [.int .i64 x.kind, .int .i64 x.thread, .int .i64 x.var] (by rfl) (by rfl) (λj u hu=>by rw [addr_add,ze HQ.out, <-hu];simp) (by simp [Value.oneCell']) (by unfold maxLen;omega) (by omega) (by have:=HBS.out;simp;omega) ?_;intro v' W3 e1 e2 e4;clear e4;obtain⟨ja,jc,rfl, -, -⟩:=xu e1;(have HV1:=qh e1);(have HV2:=qh e2);(have hb3:Boxed W3 w.heap.size 32 sv:=(HB.out.alloc _).kept e2 (z0N HOWN.out (Nat.lt_succ_self _)));(have c3:=hb3.cell);(have f3:=hb3.frozen);clear hb3 e1 e2)
  have hput:=Row.put (x:=x) (z:=z) (w:=w) (W2:=_) (v:= .slice ja (pl+1) jc) HB.out HOWN.out HSI.out (World.grownBy_alloc W (.cells #[.int .i64 x.kind, .int .i64 x.thread, .int .i64 x.var] 70) none) (by rw [<-jS.out];exact HV1.out) HV2.out (Nat.le_refl _) (Nat.lt_succ_self _)
  exact⟨by rw [hsz];exact hput.1,hput.2⟩
 case done=>
 rintro D W hD hrow hK
 have hend:Row (w.heap.size+1) w.heap.size z w xs (W.putObj D (.deferred none)):=hrow.grown (grownBy_putObj' W D _) (by omega) (λe=>by cases e;omega) (λk e=>by cases e;exact .inr ⟨by omega,_,hK,rfl⟩)
 obtain⟨sv,hb, -, -⟩:=hrow
 obtain⟨sv2,hb2,hown,zcx⟩:=hend
 have c2:=hb.cell
 have f2:=hb.frozen
 have c4:=hb2.cell
 have HO:=qh hown
 have HSI:=qh zcx
 obtain rfl:sv2=sv:=by
  have:=(hb.kept (grownBy_putObj' W D (.deferred none)) (λe=>by cases e;omega)).cell
  rw [c4] at this;cases this;rfl
 clear hb hb2 hown zcx c4
 gi_wp2
 refine⟨by simp, .inl ⟨_,_,rfl,run_takeDeferred hK, ?_⟩⟩
 refine⟨sv2, ?_,sv2,rfl,xq HO.out (by omega),HSI.out⟩
 simp [results,Tryz.f65,go_sem]
