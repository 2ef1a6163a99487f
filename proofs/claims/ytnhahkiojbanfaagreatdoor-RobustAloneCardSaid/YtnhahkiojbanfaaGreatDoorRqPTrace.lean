/- Steps. -/
import Derived.LoopIn
import Derived.LoopNIn
import Derived.OwnWalkIn
import Derived.RangeFuncBound
import Derived.RangeFuncNested
import Derived.Shelf.RegionOpen
import Derived.Test.YtnhahkiojbanfaaGreatDoorRqExpQ
import Derived.Test.YtnhahkiojbanfaaGreatDoorRqIMap
set_option linter.all false
namespace Go.Proofs.YtnhahkiojbanfaaGreatDoor
open Go.RowKit
set_option maxRecDepth 100000
set_option maxHeartbeats 16000000
def bP (ms:List zo) (i:Nat) (nx:List Int) (k:Nat):List (Int × zo × Nat):=if (i:Int)<nx.getD k 0/\k<ms.length then [(nx.getD k 0,ms.getD k default,i)] else []
def qW (ms:List zo) (i:Nat) (nx:List Int) (n:Nat):List (Int × zo × Nat):=(List.range n).flatMap (bP ms i nx)
def xD (S:yj) (n:Nat):List (Int × zo × Nat):=(List.range n).flatMap λi=>qW (S.moves.getD i []) i (S.next.getD i []) (S.next.getD i []).length
def vV:List (Int × zo × Nat)->Int->Option (zo × Nat)
 | [],_=>none
 |e::l,n=>if e.1=n then some e.2 else vV l n
def zaV (S:yj) (n:Int):Option (zo × Nat):=vV (xD S S.next.length) n
theorem zcr (a b:List (Int × zo × Nat)) (n:Int):vV (a++b) n=match vV a n with|some x=>some x|none=>vV b n:=by
 induction a with
 |nil=>rfl
 |cons e a ih=>
 simp only [List.cons_append,vV]
 split
 ·rfl
 exact ih
def zma (x:zo × Nat):Value:= .agg #[.int .i64 x.1.kind, .int .i64 x.1.thread, .int .i64 x.1.var, .int .i64 (x.2:Int)]
def vg (l:List (Int × Value)) (es:List (Int × zo × Nat)):Prop:=∀n,qd l n=(vV es n).map zma
theorem vg.had {l:List (Int × Value)} {es:List (Int × zo × Nat)} (h:vg l es) {e:Int × zo × Nat} (hh:(qd l e.1).isSome=true):vg l (es++ [e]):=λn=>by
 rw [zcr,h n]
 cases hf:vV es n with
 |some x=>rfl
 |none=>
 have:e.1≠n:=λq=>by rw [q,h n,hf] at hh;simp at hh
 simp [vV,this]
theorem vg.put {l:List (Int × Value)} {es:List (Int × zo × Nat)} (h:vg l es) {e:Int × zo × Nat} (hh:qd l e.1=none):vg (jo l e.1 (zma e.2)) (es++ [e]):=λn=>by
 rw [zcr,zlF,h n]
 by_cases q:e.1=n
 ·rw [if_pos q]
  have:=h n
  rw [<-q,hh] at this
  have hf:vV es n=none:=by rw [<-q];simpa using this.symm
  rw [hf];simp [vV,q]
 rw [if_neg q]
 cases vV es n<;>simp [vV,q]
theorem zcs (W:World):(zeroValue 132).run Tryz.prog W= .ok (.agg #[.int .i64 0, .int .i64 0, .int .i64 0, .int .i64 0]) W:=by
 obtain⟨i,hi,hz, -⟩:=info_parts (show(Tryz.prog.info? 132).map (λi=>(i.zero,i.size,i.bytes))=some (some (.agg #[.int .i64 0, .int .i64 0, .int .i64 0, .int .i64 0]),4,32) by kernel_rfl)
 simp [zeroValue,typeInfo,hi,hz]
def zk3 (w:World) (S:yj) (e:Ending) (w':World):Prop:=∃(b:Nat) (l:List (Int × Value)),e= .returned (.map (some b))/\yB w' b l/\w.heap.size<=b/\vg l (xD S S.next.length)/\Below w.heap.size w w'
theorem zo6 (w:World) (S:yj) (sv mv nv:Value) (h:kC w S sv mv nv) (hm:S.moves.length=S.next.length):Calls Tryz.prog 66 #[zaW sv mv nv] w (zk3 w S):=by
 obtain⟨h1,h2,h3⟩:=h
 obtain⟨a1,c1,rfl, -⟩:=zh.slice h1
 obtain⟨a2,c2,rfl, -⟩:=zh.slice h2
 obtain⟨a3,c3,rfl,hl3⟩:=zh.slice h3
 obtain⟨n,hn⟩:∃n,n=S.next.length:=⟨_,rfl⟩
 rw [hm] at h2
 rw [<-hn] at h2 h3 hl3
 rw [hm, <-hn]
 generalize S.states.length=n1
 unfold zaW
 have hB:=(Below.refl w.heap.size w).alloc (Nat.le_refl _) (.cells #[.slice a1 n1 c1, .slice a2 n c2, .slice a3 n c3] 49)
 have H1:=qh (zS w (.cells #[.slice a1 n1 c1, .slice a2 n c2, .slice a3 n c3] 49))
 have HM:=qh (zh.below uG.stays h2 hB)
 have HN:=qh (zh.below pR.stays h3 hB)
 have HB:=qh hB
 have HL:=qh hn
 have bV:=qh hm
 clear h1 h2 h3 hB hn hm
 have hmm:= @run_makeMap Tryz.prog
 go_enter Tryz.func66,Tryz.ntmps66
 go_upto_region 1 with fail
 generalize World.alloc w _=W at HB H1 HM HN ⊢
 obtain⟨gx,hgx⟩:∃gx,gx=w.heap.size:=⟨_,rfl⟩
 rw [<-hgx] at H1 ⊢
 have xO:=qh hgx
 clear hgx
 have h0:yB (W.alloc (.map #[] 0)) W.heap.size [] :=⟨#[],0,zS W _,rfl⟩
 have HM0:=qh h0
 have HB0:=qh ((Below.refl W.heap.size W).alloc (Nat.le_refl _) (.map #[] 0))
 clear h0
 go_upto_region 2 with fail
 clear hmm
 generalize World.alloc W _=W0 at HM0 HB0 ⊢
 obtain⟨gm,hgm⟩:∃g,g=W.heap.size:=⟨_,rfl⟩
 rw [<-hgm] at HM0 ⊢
 have HGM:=qh hgm
 clear hgm
 have HC:Hid (∀y,Below W.heap.size W y->y.cell? ⟨gx,1,none⟩=some (.slice a2 n c2)/\y.cell? ⟨gx,2,none⟩=some (.slice a3 n c3)):=λy hy=>⟨zk hy _ _ (ze H1.out 1),zk hy _ _ (ze H1.out 2)⟩
 obtain⟨q1,q2⟩:=HC.out W0 HB0.out
 go_wp2_with fail
 clear q1 q2
 go_loopg [14] n (λgg s14 wr=>∃(i:Nat) (l:List (Int × Value)),i<=n/\Hid (gg=n - i)/\s14= .int .i64 i/\Hid (yB wr gm l)/\Hid (vg l (xD S i))/\Hid (Below W.heap.size W wr))
 case atStart=>exact⟨0, [],Nat.zero_le _,rfl,rfl,HM0.out,λ_=>rfl,HB0.out⟩
 case round=>
 obtain⟨i,l,hi,HG,rfl,HMI,HHO,zT⟩:=hrel
 obtain⟨wo,rfl⟩:∃wo:World,wo=wr:=⟨_,rfl⟩
 clear HM0 HB0
 by_cases hlt:i<n
 rotate_left
 ·obtain rfl:n=i:=by omega
  have hend:zk3 w S (.returned (.map (some gm))) wo:=
   ⟨gm,l,rfl,HMI.out,by have:=HGM.out;have:=HB.out.size;omega,by rw [<-HL.out];exact HHO.out,HB.out.trans (zT.out.mono HB.out.size)⟩
  have zL:=qh hend
  clear hend
  go_wp2_with fail
  go_ret
  exact zL.out
 have vY:(i:Int)<(n:Int):=by omega
 obtain⟨nb,no,na,nc,zZ, -,x0,hni⟩:=zlp HN.out i (by rw [<-HL.out];exact hlt)
 subst zZ
 obtain⟨mb,mo,ma,mc,hfa, -,y0,hmi⟩:=zjv HM.out i (by rw [bV.out, <-HL.out];exact hlt)
 subst hfa
 obtain⟨nx,hnx⟩:∃x,x=S.next.getD i [] :=⟨_,rfl⟩
 obtain⟨ms,hms⟩:∃x,x=S.moves.getD i [] :=⟨_,rfl⟩
 rw [<-hnx] at x0 hni
 rw [<-hms] at y0 hmi
 obtain⟨nn,hnn⟩:∃k,k=nx.length:=⟨_,rfl⟩
 obtain⟨mn,hmn⟩:∃k,k=ms.length:=⟨_,rfl⟩
 rw [<-hnn] at x0 hni
 rw [<-hmn] at y0 hmi
 have hnr:=zh.room hni
 have hn63:nn<=9223372036854775807:=by omega
 have HES:Hid (xD S (i+1)=xD S i++qW ms i nx nn):=by
  rw [Hid,xD,List.range_succ,List.flatMap_append,hms,hnn,hnx];simp [xD]
 have HNI:=qh hni
 have zyn:=qh hmi
 have HNN:=qh hnn
 have bI:=qh hmn
 have HX:Hid (∀y,Below W.heap.size W y->y.cell? ⟨nb,no+i,none⟩=some (.slice na nn nc)/\y.cell? ⟨mb,mo+i,none⟩=some (.slice ma mn mc)):=λy hy=>⟨zk hy _ _ x0,zk hy _ _ y0⟩
 clear x0 y0 hni hmi hnx hms hnn hmn hnr
 obtain⟨x0,y0⟩:=HX.out wo zT.out
 go_wp2_with fail
 clear x0 y0
 go_loopg [21] nn (λgg s21 wr=>∃(k:Nat) (l':List (Int × Value)),k<=nn/\Hid (gg=nn - k)/\s21= .int .i64 k/\Hid (yB wr gm l')/\Hid (vg l' (xD S i++qW ms i nx k))/\Hid (Below W.heap.size W wr))
 case atStart=>exact⟨0,l,Nat.zero_le _,rfl,rfl,HMI.out,by simpa [qW,Hid] using HHO.out,zT.out⟩
 case round=>
 obtain⟨k,l',hk,HG2,rfl,HMK,HHK,HBK⟩:=hrel
 obtain⟨wk,rfl⟩:∃wo:World,wo=wr:=⟨_,rfl⟩
 clear HMI HHO zT
 by_cases hkl:k<nn
 rotate_left
 ·obtain rfl:nn=k:=by omega
  have bF:Hid (vg l' (xD S (i+1))):=by rw [Hid,HES.out];exact HHK.out
  go_wp2_with fail
  go_roundg (n - (i+1))
  case measure=>rw [HG.out];omega
  case rel=>exact⟨i+1,l',by omega,rfl,by simp,HMK.out,bF.out,HBK.out⟩
 have hkI:(k:Int)<(nn:Int):=by omega
 obtain⟨eb,eo,zZ, -,z0⟩:=qI.part HNI.out k (by rw [<-HNN.out];exact hkl)
 subst zZ
 obtain⟨t,ht⟩:∃t,t=nx.getD k 0:=⟨_,rfl⟩
 rw [<-ht] at z0
 have HEI:Hid (qW ms i nx (k+1)=qW ms i nx k++bP ms i nx k):=by rw [Hid,qW,List.range_succ,List.flatMap_append];simp [qW]
 have HT:=qh ht
 have hlk:=vR HMK.out Tryz.underlying128 Tryz.underlying3 (zcs wk) t true
 simp only [if_true] at hlk
 obtain⟨x0,y0⟩:=HX.out wk HBK.out
 have z1:=zk HBK.out _ _ z0
 clear ht z0
 obtain⟨v0,v1,v2,v3,hv⟩:∃a b c d:Int,(qd l' t).getD (.agg #[.int .i64 0, .int .i64 0, .int .i64 0, .int .i64 0])= .agg #[.int .i64 a, .int .i64 b, .int .i64 c, .int .i64 d] :=by
  rw [HHK.out t]
  cases vV (xD S i++qW ms i nx k) t with
  |none=>exact⟨0,0,0,0,rfl⟩
  |some x=>exact⟨_,_,_,_,rfl⟩
 rw [hv] at hlk
 clear hv
 obtain⟨had,zqi⟩:∃b,b=(qd l' t).isSome:=⟨_,rfl⟩
 rw [<-zqi] at hlk
 have HHD:=qh zqi
 clear zqi
 go_upto_region 9 with fail
 have hA:Below wk.heap.size wk (wk.alloc (.cells #[.int .i64 v0, .int .i64 v1, .int .i64 v2, .int .i64 v3] 132)):=(Below.refl _ _).alloc (Nat.le_refl _) _
 have zc2:=qh (HMK.out.below hA)
 have zbW:=qh (zM HBK.out hA)
 clear hA hlk HMK HBK x0 y0 z1
 generalize World.alloc wk _=W3 at zc2 zbW ⊢
 obtain⟨q1,q2⟩:=HC.out W3 zbW.out
 obtain⟨x0,y0⟩:=HX.out W3 zbW.out
 cases had with
 |true=>
  have bF:Hid (vg l' (xD S i++qW ms i nx (k+1))):=by
   rw [Hid,HEI.out, <-List.append_assoc]
   unfold bP
   split
   ·exact HHK.out.had (by rw [<-HT.out];exact HHD.out.symm)
   rw [List.append_nil];exact HHK.out
  go_wp2_with fail
  go_roundg (nn - (k+1))
  case measure=>rw [HG2.out];omega
  case rel=>exact⟨k+1,l',by omega,rfl,by simp,zc2.out,bF.out,zbW.out⟩
 |false=>
 have hno:qd l' t=none:=by
  have:=HHD.out
  cases h:qd l' t with
  |none=>rfl
  |some x=>rw [h] at this;cases this
 have HNO:=qh hno
 clear hno
 by_cases h1:(i:Int)<t
 rotate_left
 ·have h1I:t<=(i:Int):=by omega
  have bF:Hid (vg l' (xD S i++qW ms i nx (k+1))):=by
   rw [Hid,HEI.out,bP,if_neg (by rw [<-HT.out];omega),List.append_nil];exact HHK.out
  go_wp2_with fail
  go_roundg (nn - (k+1))
  case measure=>rw [HG2.out];omega
  case rel=>exact⟨k+1,l',by omega,rfl,by simp,zc2.out,bF.out,zbW.out⟩
 by_cases h2:k<mn
 rotate_left
 ·have h2I:(mn:Int)<=(k:Int):=by omega
  have bF:Hid (vg l' (xD S i++qW ms i nx (k+1))):=by
   rw [Hid,HEI.out,bP,if_neg (by rw [<-bI.out];omega),List.append_nil];exact HHK.out
  go_wp2_with fail
  go_roundg (nn - (k+1))
  case measure=>rw [HG2.out];omega
  case rel=>exact⟨k+1,l',by omega,rfl,by simp,zc2.out,bF.out,zbW.out⟩
 have h2I:(k:Int)<(mn:Int):=by omega
 obtain⟨gb,go_,hga, -,m0,m1,m2⟩:=gU.part (zh.below zdk.stays zyn.out zbW.out) k (by rw [<-bI.out];exact h2)
 subst hga
 obtain⟨x,hx⟩:∃x,x=ms.getD k default:=⟨_,rfl⟩
 rw [<-hx] at m0 m1 m2
 have HEW:Hid (bP ms i nx k= [(t,x,i)]):=by
  rw [Hid,bP,if_pos ⟨by rw [<-HT.out];exact h1,by rw [<-bI.out];exact h2⟩, <-HT.out, <-hx]
 obtain⟨xk,xt,xv⟩:=x
 simp only [] at m0 m1 m2
 clear hx
 go_wp2_with(refine zcW _ rfl _ _ _ 128 rfl 3 132 .i64 Tryz.underlying128 Tryz.underlying3 gm l' rfl t rfl (.agg #[.int .i64 xk, .int .i64 xt, .int .i64 xv, .int .i64 (i:Int)]) rfl zc2.out ?_;intro W4 hm4 hs4 hz4;have HM4:=qh hm4;have vU:Hid (Below W.heap.size W W4):=zbW.out.trans (hs4.below zbW.out.size (λk hk=>by have:=HGM.out;omega));clear hm4 hs4 hz4)
 have bF:Hid (vg (jo l' t (.agg #[.int .i64 xk, .int .i64 xt, .int .i64 xv, .int .i64 (i:Int)])) (xD S i++qW ms i nx (k+1))):=by
  rw [Hid,HEI.out, <-List.append_assoc,HEW.out]
  exact HHK.out.put (e:=(t,⟨xk,xt,xv⟩,i)) HNO.out
 go_roundg (nn - (k+1))
 case measure=>rw [HG2.out];omega
 case rel=>exact⟨k+1,_,by omega,rfl,by simp,HM4.out,bF.out,vU.out⟩
def zyo {α:Type} (F:Fence) (n:Nat) (P:Program) (g:Nat) (lb:Array Value) (encs:α->Array Value) (Kp:World->World->Prop) (R:World->Prop) (z:Nat) (xs:List α):Prop:=
 ∀(l:Nat) (J:List α->World->Prop) (W:World),R W->(∀s A C row,J s A->A.grownBy C row->(∀r,row=some r->r=z)->J s C)->
  (∀pre x W1,J pre W1->pre.length<xs.length->YieldAt F (n - 1) P l (encs x) W1 λe W'=>e= .returned (.bool true)/\J (pre++ [x]) W'/\Kp W1 W')->
  J [] W->
  CallsIn F n P g (#[.func (.yield l) #[] #[]] ++lb) W λe W'=>(∃v,e= .returned v)/\J xs W'
theorem zem {F:Fence} {n:Nat} {P:Program} {w:World} {α:Type} {g:Operand} {ps:Array Tmp} {assign body:Code} {Q:Exit->Act->World->Prop} {a:Act}
  (hro:F.round=none) (h1:1<=n) {gf:Nat} {lb:Array Value} (hg:a.eval g= .func (.func gf) #[] lb) (hFg:F.fn gf) (eg:∀args w,(callFunc gf args).run P w= .ok (.enter gf args) w)
  {encs:α->Array Value} {Kp:World->World->Prop} {R:World->Prop} {z:Nat} {xs:List α} (hseq:zyo F (n - 1) P gf lb encs Kp R z xs) (hz:z<w.heap.size)
  (hKt:∀ {A B C:World},Kp A B->Kp B C->Kp A C) (hKb:∀(W:World) (l:Nat) (r:Loop) (o':Obj),W.heap[l]? =some (.loop r)->Kp W (W.putObj l o')) (hR:∀W,Below w.heap.size w W->R W) (hps:∀x,(encs x).size=ps.size)
  (I:List α->World->Prop) (hI:OwnFrom w.heap.size I) (hIz:∀s A C row,I s A->A.grownBy C row->(∀r,row=some r->r=z)->I s C) (h0:I [] w) (Ax:α->Act->World->Prop) (hAx:∀x a',OwnFrom w.heap.size (λ(_:Unit) W=>Ax x a' W))
  (hassign:∀(l:Nat) (pre:List α) (x:α) (W:World) (K:Act->World->Prop),I pre W->(∀a' W',KeepsFrom w.heap.size W W'->Kp W W'->I pre W'->Ax x a' W'->K a' W')->
   assign.wpIn (F.inRound l) (n - 1 - 1) P (Exit.then K (λ_ _ _=>False)) { tmps:=(ps.zip (encs x)).foldl (λt (p,v)=>t.setIfInBounds p v) a.tmps,defers:= [] } W)
  (hbody:∀(l:Nat) (pre:List α) (x:α) (a':Act) (W:World),I pre W->Ax x a' W->pre.length<xs.length->body.wpIn (F.inRound l) (n - 1 - 1) P (ownPostG w.heap.size Kp I (λ_ _ _=>False) (pre++ [x]) W) a' W)
  (hdone:∀(D:Nat) (W:World),w.heap.size<=D->I xs W->W.heap[D]? =some (.deferred (some []))->Q .normal { a with defers:= { target:= .collected D,args:= #[] } ::a.defers } W):
  (Code.rangeFunc g ps assign body).wpIn F n P Q a w:=by
 refine wpIn_rangeFunc ?_
 intro fn hfn
 rw [hro]
 obtain⟨rec,hrec⟩:∃rec:LoopState->Option Code->Loop,rec=λst pe=> { state:=st,pending:=pe,fn,tmps:=a.tmps,params:=ps,assign,body,defers:=w.heap.size } :=⟨_,rfl⟩
 obtain⟨W1,hW1⟩:∃W1,(w.alloc (.deferred (some []))).alloc (.loop (rec .ready none))=W1:=⟨_,rfl⟩
 have hL1:W1.heap[w.heap.size+1]? =some (.loop (rec .ready none)):=by
  rw [<-hW1];have:=World.alloc_heap_new (w.alloc (.deferred (some []))) (.loop (rec .ready none));rwa [World.size_alloc] at this
 have hK1:W1.heap[w.heap.size]? =some (.deferred (some [])):=by
  rw [<-hW1];exact(Below.heap_alloc _ _ _ (by simp)).trans (World.alloc_heap_new w _)
 have hI1:I [] W1:=by rw [<-hW1];exact hI.alloc _ (hI.alloc _ h0)
 have hb1:Below w.heap.size w W1:=by
  rw [<-hW1];exact((Below.refl _ w).alloc (Nat.le_refl _) _).alloc (by simp) _
 refine⟨w.heap.size+1, [{ target:= .collected w.heap.size,args:= #[] }],W1, { target:= .fn (.func gf) lb,args:= #[.func (.yield (w.heap.size+1)) #[] #[]] },W1,gf,
  #[.func (.yield (w.heap.size+1)) #[] #[]] ++lb,W1, ?_, ?_, ?_, ?_,λ_=>h1, ?_⟩
 ·rw [<-hW1,hrec];exact run_enterLoop_outer _ _ _ _ _
 ·simp only [resolve,hg]
  simp [go_sem]
 ·intro f' hf';simp [Target.leads] at hf';subst hf';exact hFg
 ·simp [invoke,go_sem,eg]
 refine(hseq (w.heap.size+1)
  (λpre W=>I pre W/\W.heap[w.heap.size+1]? =some (.loop (rec .ready none))/\W.heap[w.heap.size]? =some (.deferred (some [])))
  W1 (hR W1 hb1)
  (λs A B row hs hg' hr=>⟨hIz s A B row hs.1 hg' hr,
   (hg'.block _ (Array.getElem?_eq_some_iff.1 hs.2.1).1 (λe=>by have:=hr _ e.symm;omega)).trans hs.2.1,
   (hg'.block _ (Array.getElem?_eq_some_iff.1 hs.2.2).1 (λe=>by have:=hr _ e.symm;omega)).trans hs.2.2⟩)
  ?_ ⟨hI1,hL1,hK1⟩).mono ?_
 ·rintro pre x W ⟨hi,hl,hk⟩ hlen
  have hlt:w.heap.size+1<W.heap.size:=(Array.getElem?_eq_some_iff.1 hl).1
  have hy:=run_yield (P:=P) (args:=encs x) hl (by rw [hrec];exact hps x)
  rw [hrec] at hy
  refine⟨fn,_,assign,body,hy,roundIn_of_wpIn hfn (hassign _ pre x W _ hi ?_)⟩
  clear hy
  intro a' Wa hkfa hkpa hia hax
  replace hl:=hkfa.same _ _ (by omega) hl rfl
  replace hk:=hkfa.same _ _ (Nat.le_refl _) hk rfl
  replace hlt:w.heap.size+1<Wa.heap.size:=(Array.getElem?_eq_some_iff.1 hl).1
  replace hi:=hia
  clear hia
  revert hkpa hkfa
  generalize W=Wb
  intro hkfa hkpa
  obtain⟨W,rfl⟩:∃W,W=Wa:=⟨_,rfl⟩
  refine⟨_,run_beginRound hl (by rw [hrec]), ?_⟩
  have hl2:(W.putObj (w.heap.size+1) (.loop { rec .ready none with state:= .busy })).heap[w.heap.size+1]? =some (.loop { rec .ready none with state:= .busy }):=World.putObj_heap_same hlt
  have hk2:(W.putObj (w.heap.size+1) (.loop { rec .ready none with state:= .busy })).heap[w.heap.size]? =some (.deferred (some [])):=(World.putObj_heap_other (by omega)).trans hk
  have hw2:Kp W (W.putObj (w.heap.size+1) (.loop { rec .ready none with state:= .busy })):=hKb _ _ _ _ hl
  refine wpIn_mono (hbody _ pre x a' _ (hI.putObj _ hi (by omega) hl rfl) ((hAx x a').putObj (s:=()) _ hax (by omega) hl rfl) hlen) ?_
  have fin:∀(jump:Option Code) (W3:World),KeepsFrom w.heap.size (W.putObj (w.heap.size+1) (.loop { rec .ready none with state:= .busy })) W3->
    (Instr.endRound (w.heap.size+1) jump).run P W3= .ok (.bool jump.isNone) (W3.putObj (w.heap.size+1) (.loop (rec (if jump.isNone then .ready else .done) jump)))/\
    W3.heap[w.heap.size+1]? =some (.loop { rec .ready none with state:= .busy })/\
    (W3.putObj (w.heap.size+1) (.loop (rec (if jump.isNone then .ready else .done) jump))).heap[w.heap.size+1]? =some (.loop (rec (if jump.isNone then .ready else .done) jump))/\
    (W3.putObj (w.heap.size+1) (.loop (rec (if jump.isNone then .ready else .done) jump))).heap[w.heap.size]? =some (.deferred (some [])):=λjump W3 hk3=>by
   have hl3:=hk3.same _ _ (by omega) hl2 rfl
   have:=run_endRound (P:=P) jump hl3
   rw [hrec] at this ⊢
   exact⟨this,by rw [hrec] at hl3;exact hl3,World.putObj_heap_same (Array.getElem?_eq_some_iff.1 hl3).1,(World.putObj_heap_other (by omega)).trans (hk3.same _ _ (Nat.le_refl _) hk2 rfl)⟩
  rintro e a3 W3 hp
  cases e with
  |normal=>
   obtain⟨hk3,hkp3,hi3⟩:=hp
   obtain⟨hr,hl3,hl4,hk4⟩:=fin none W3 hk3
   exact⟨_,_,hr,rfl,⟨hI.putObj _ hi3 (by omega) hl3 rfl,hl4,hk4⟩,hKt hkpa (hKt (hKt hw2 hkp3) (hKb _ _ _ _ hl3))⟩
  |ret=>exact hp.2.elim
  |exit id=>exact hp.2.elim
  |goto t=>exact hp.2.elim
  |panic ch=>exact hp.elim
  |outgrown=>exact hp.elim
 rintro e W2 ⟨⟨v,rfl⟩,hi,hl,hk⟩
 exact⟨none,_,by have:=run_endLoop (P:=P) hl (by rw [hrec];simp);rw [hrec] at this;exact this,hdone _ _ (Nat.le_refl _) (hI.putObj _ hi (by omega) hl rfl) ((World.putObj_heap_other (by omega)).trans hk)⟩
end Go.Proofs.YtnhahkiojbanfaaGreatDoor
namespace Go.Proofs.YtnhahkiojbanfaaGreatDoor
open Go.RowKit Go.Shelf
set_option maxRecDepth 100000
set_option maxHeartbeats 16000000
attribute [local go_sem] Oper.semAt_some
def xV (S:yj):Nat->Int->List zo
 |0,_=> []
 |f+1,t=>if 0<t then(match zaV S t with|some x=>x.1::xV S f (x.2:Int)|none=> []) else []
theorem zmb:∀(l:List (Int × zo × Nat)) (n:Int) (x:zo × Nat),vV l n=some x->(n,x)∈l:=by
 intro l n x
 induction l with
 |nil=>intro h;cases h
 |cons e l ih=>
 intro h
 unfold vV at h
 split at h
 ·rename_i he
  cases h;subst he;simp
 exact List.mem_cons_of_mem _ (ih h)
theorem zjB (S:yj) (n:Nat) (e:Int × zo × Nat) (h:e∈xD S n):(e.2.2:Int)<e.1:=by
 unfold xD qW bP at h
 simp only [List.mem_flatMap,List.mem_range] at h
 obtain⟨i, -,k, -,h⟩:=h
 split at h
 ·rename_i hc
  simp only [List.mem_singleton] at h
  subst h;exact hc.1
 cases h
theorem zgf {S:yj} {t:Int} {x:zo × Nat} (h:zaV S t=some x):(x.2:Int)<t:=zjB S _ _ (zmb _ _ _ h)
theorem zmc (S:yj):∀f g t,t.toNat<=f->t.toNat<=g->xV S f t=xV S g t:=by
 intro f
 induction f with
 |zero=>
  intro g t h1 h2
  cases g with
  |zero=>rfl
  |succ g=>unfold xV;rw [if_neg (by omega)]
 |succ f ih=>
 intro g t h1 h2
 cases g with
 |zero=>unfold xV;rw [if_neg (by omega)]
 |succ g=>
 unfold xV
 split
 ·cases hw:zaV S t with
  |none=>rfl
  |some x=>
  have:=zgf hw
  simp only []
  rw [ih g x.2 (by omega) (by omega)]
 rfl
theorem zmd {S:yj} {t:Int} (ht:0<t) {x:zo × Nat} (h:zaV S t=some x):xV S t.toNat t=x.1::xV S (x.2:Int).toNat (x.2:Int):=by
 have hl:=zgf h
 obtain⟨f,hf⟩:∃f,t.toNat=f+1:=⟨t.toNat - 1,by omega⟩
 rw [hf]
 show(if 0<t then(match zaV S t with|some x=>x.1::xV S f (x.2:Int)|none=> []) else [])=_
 rw [if_pos ht,h]
 simp only []
 rw [zmc S f (x.2:Int).toNat x.2 (by omega) (by omega)]
theorem zfC {S:yj} {t:Int} (h:¬0<t\/zaV S t=none):xV S t.toNat t= [] :=by
 cases hf:t.toNat with
 |zero=>rfl
 |succ f=>
 unfold xV
 rcases h with h|h
 ·rw [if_neg h]
 rw [h];split<;>rfl
theorem zgj (S:yj):∀f t,(xV S f t).length<=f:=by
 intro f
 induction f with
 |zero=>intro t;simp [xV]
 |succ f ih=>
 intro t
 unfold xV
 split
 ·cases zaV S t with
  |none=>simp
  |some x=>have:=ih (x.2:Int);simp only [List.length_cons];omega
 simp
def zeE:Obj->Bool
 | .cells _ t _=>t !=32 && t !=70
 | .map _ _=>true
 |_=>false
def jT (A C:World):Prop:=∀(k:Nat) (o:Obj),A.heap[k]? =some o->zeE o=true->C.heap[k]? =some o
theorem jT.trans {A B C:World} (h:jT A B) (g:jT B C):jT A C:=λk o hk ho=>g k o (h k o hk ho) ho
theorem jT.grown {A C:World} {row:Option Nat} (h:A.grownBy C row) (hr:∀k o,row=some k->A.heap[k]? =some o->zeE o=false):jT A C:=λk o hk ho=>
 (h.block k (zy hk) (λe=>by have:=hr k o e.symm hk;rw [this] at ho;cases ho)).trans hk
theorem jT.record (W:World) (l:Nat) (r:Loop) (o':Obj) (h:W.heap[l]? =some (.loop r)):jT W (W.putObj l o'):=
 .grown (grownBy_putObj' W l o') (λk o e hk=>by cases e;rw [h] at hk;cases hk;rfl)
theorem jT.box {A C:World} (h:jT A C) {k:Nat} {c:Array Value} {t:TypeId} {f:Nat × Nat} (hk:A.heap[k]? =some (.cells c t f)) (h1:t≠32) (h2:t≠70):C.heap[k]? =some (.cells c t f):=
 h k _ hk (by simp [zeE,h1,h2])
theorem yB.keep {A C:World} {b:Nat} {l:List (Int × Value)} (h:yB A b l) (hk:jT A C):yB C b l:=by
 obtain⟨es,clock,h1,h2⟩:=h
 exact⟨es,clock,hk b _ h1 rfl,h2⟩
theorem yB.grown {A C:World} {row:Option Nat} {b:Nat} {l:List (Int × Value)} (h:yB A b l) (hg:A.grownBy C row) (hr:some b≠row):yB C b l:=by
 obtain⟨es,clock,h1,h2⟩:=h
 exact⟨es,clock,(hg.block b (zy h1) hr).trans h1,h2⟩
def zme (z:Nat) (w:World):Nat:=(intOf ((w.cell? ⟨z,0,none⟩).getD undef)).toNat
theorem ziR {z:Nat} {w:World} {t:Int} (h:w.cell? ⟨z,0,none⟩=some (.int .i64 t)):zme z w=t.toNat:=by unfold zme;rw [h];rfl
theorem zo7 (n l z y b:Nat) (t:Int) (S:yj) (ml:List (Int × Value)) (xs:List zo) (hxs:xs=xV S t.toNat t) (hn:1<=n) (J:List zo->World->Prop)
  (hJ:∀s A C row,J s A->A.grownBy C row->(∀r,row=some r->r=z)->J s C)
  (hY:∀pre x W1,J pre W1->pre.length<xs.length->YieldAt Fence.wide (n - 1) Tryz.prog l #[.agg #[.int .i64 x.kind, .int .i64 x.thread, .int .i64 x.var]] W1 λe W'=>e= .returned (.bool true)/\J (pre++ [x]) W'/\jT W1 W')
  (W:World) (hz:Boxed W z 3 (.int .i64 t)) (hy:Boxed W y 128 (.map (some b))) (hm:yB W b ml) (hh:vg ml (xD S S.next.length)) (h0:J [] W):
  CallsIn Fence.wide n Tryz.prog 67 #[.func (.yield l) #[] #[], .pointer (some ⟨z,0,none⟩), .pointer (some ⟨y,0,none⟩)] W λe W'=>(∃v,e= .returned v)/\J xs W':=by
 refine callsIn_of_wp Tryz.func67 rfl trivial ?_ rfl
 simp only [Tryz.ntmps67,List.size_toArray,List.length_cons,List.length_nil,Nat.reduceAdd,Nat.reduceSub,Array.replicate_succ,Array.replicate_zero,List.push_toArray,List.append_toArray,List.nil_append,List.cons_append]
 have HXS:=qh hxs
 have HH:=qh hh
 clear hxs hh
 gi_wp2
 gi_loopw [] (λwr=>∃(t':Int) (pre:List zo),Hid (xs=pre++xV S t'.toNat t')/\J pre wr/\Hid (Boxed wr z 3 (.int .i64 t'))/\Hid (Boxed wr y 128 (.map (some b)))/\Hid (yB wr b ml)) (zme z)
 case atStart=>exact⟨t, [],by simpa [Hid] using HXS.out,h0,hz,hy,hm⟩
 case round=>
 obtain⟨t',pre,HP,hJs,HZ,HY2,HM⟩:=hrel
 clear hz hy hm h0
 have c1:=HZ.out.cell
 have c2:=HY2.out.cell
 by_cases ht:0<t'
 rotate_left
 ·have hend:J xs wr:=by
   rw [HP.out,zfC (.inl ht),List.append_nil];exact hJs
  have ht2:t'<=0:=by omega
  have zL:=qh hend
  clear hend ht
  gi_wp2
  go_end0
  exact⟨⟨_,rfl⟩,zL.out⟩
 have hlk:=vR HM.out Tryz.underlying128 Tryz.underlying3 (zcs wr) t' true
 simp only [if_true] at hlk
 cases hw:zaV S t' with
 |none=>
  have hf:qd ml t'=none:=by rw [HH.out t'];unfold zaV at hw;rw [hw];rfl
  rw [hf] at hlk
  simp only [Option.getD_none,Option.isSome_none] at hlk
  have hend:J xs (wr.alloc (.cells #[.int .i64 0, .int .i64 0, .int .i64 0, .int .i64 0] 132)):=by
   rw [HP.out,zfC (.inr hw),List.append_nil]
   exact hJ _ _ _ none hJs (World.grownBy_alloc _ _ none) (λr e=>by cases e)
  have zL:=qh hend
  clear hend hf hw
  gi_wp2
  refine⟨λ_ h=>(by cases h), ?_⟩
  gi_wp2
  refine bodyPost_ret (results_none rfl _ _ _) rfl ?_
  exact⟨⟨_,rfl⟩,zL.out⟩
 |some x=>
 have hf:qd ml t'=some (zma x):=by rw [HH.out t'];unfold zaV at hw;rw [hw];rfl
 rw [hf] at hlk
 simp only [Option.getD_some,Option.isSome_some] at hlk
 obtain⟨⟨xk,xt,xv⟩,i⟩:=x
 unfold zma at hlk
 dsimp only at hlk
 have hlt:=zgf hw
 dsimp only at hlt
 have ziS:=HP.out
 rw [zmd ht hw] at ziS
 dsimp only at ziS
 clear hf
 obtain⟨W1,hW1⟩:∃W1,W1=wr.alloc (.cells #[.int .i64 xk, .int .i64 xt, .int .i64 xv, .int .i64 (i:Int)] 132):=⟨_,rfl⟩
 have hg1:wr.grownBy W1 none:=by rw [hW1];exact World.grownBy_alloc _ _ none
 have hq:W1.heap[wr.heap.size]? =some (.cells #[.int .i64 xk, .int .i64 xt, .int .i64 xv, .int .i64 (i:Int)] 132 (0,0)):=by rw [hW1];exact zS _ _
 have HJ1:=qh (hJ _ _ _ none hJs hg1 (λr e=>by cases e))
 have HZ1:=qh (HZ.out.kept hg1 (by simp))
 have jS:=qh (HY2.out.kept hg1 (by simp))
 have HM1:=qh (HM.out.grown hg1 (by simp))
 obtain⟨fn,tmps,assign,body,hy,hR⟩:=hY _ ⟨xk,xt,xv⟩ W1 HJ1.out (by rw [ziS];simp)
 have d0:W1.cell? ⟨wr.heap.size,0,none⟩=some (.int .i64 xk):=ze hq 0
 have d1:W1.cell? ⟨wr.heap.size,1,none⟩=some (.int .i64 xt):=ze hq 1
 have d2:W1.cell? ⟨wr.heap.size,2,none⟩=some (.int .i64 xv):=ze hq 2
 have zyp:=qh ziS
 have HQ:=qh hq
 have HLT:=qh hlt
 clear ziS hq hlt hw hg1
 subst hW1
 gi_wp2
 refine hR.mono ?_
 rintro e W3 ⟨rfl,hJ3,hk3⟩
 have hq3:=hk3.box HQ.out (by decide) (by decide)
 have hz3:Boxed W3 z 3 (.int .i64 t'):=hk3.box HZ1.out (by decide) (by decide)
 have hy3:Boxed W3 y 128 (.map (some b)):=hk3.box jS.out (by decide) (by decide)
 have hm3:=HM1.out.keep hk3
 have e3:W3.cell? ⟨wr.heap.size,3,none⟩=some (.int .i64 (i:Int)):=ze hq3 3
 have g1:=hz3.cell
 have f1:=hz3.frozen
 clear hy hR d0 d1 d2 hlk
 gi_wp2
 go_roundw
 case rel=>
  have hzy:z≠y:=λe=>by subst e;unfold Boxed at hz3 hy3;rw [hz3] at hy3;cases hy3
  have hzb:z≠b:=λe=>by subst e;obtain⟨es,ck,h1, -⟩:=hm3;unfold Boxed at hz3;rw [hz3] at h1;cases h1
  refine⟨i,pre++ [⟨xk,xt,xv⟩], ?_,hJ _ _ _ (some z) hJ3 (grownBy_setCell' _ z _) (λr e=>by cases e;rfl),hz3.set _,hy3.other (λe=>hzy e.symm) _,hm3.grown (grownBy_setCell' _ z _) (λe=>hzb (by cases e;rfl))⟩
  rw [Hid,zyp.out];simp
 case measure=>
 rw [ziR (hz3.set (.int .i64 (i:Int))).cell,ziR c1]
 have:=HLT.out
 omega
