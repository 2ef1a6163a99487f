/- Steps. -/
import Derived.Shelf.SlicesQ.Reverse
import Derived.Test.YtliajkheeniljaaGreatDoorZpReplay
set_option linter.all false
namespace Go.Proofs.YtliajkheeniljaaGreatDoor
open Go.RowKit Go.Shelf
set_option maxRecDepth 100000
set_option maxHeartbeats 16000000
attribute [local go_sem] Oper.semAt_some
def zwR (w:World) (S:xV) (t:Int) (e:Ending) (w':World):Prop:=∃(z y b:Nat) (ml:List (Int × Value)),e= .returned (.func (.func 94) #[] #[.pointer (some ⟨z,0,none⟩), .pointer (some ⟨y,0,none⟩)])/\w.heap.size<=z/\Boxed w' z 3 (.int .i64 t)/\Boxed w' y 149 (.map (some b))/\xG w' b ml/\jH ml (qG S S.next.length)/\Below w.heap.size w w'
theorem ztE (w:World) (S:xV) (sv mv nv:Value) (h:jL w S sv mv nv) (hm:S.moves.length=S.next.length) (t:Int):Calls Tryz.prog 67 #[zbw sv mv nv, .int .i64 t] w (zwR w S t):=by
 obtain⟨a1,c1,rfl, -⟩:=zh.slice h.1
 obtain⟨a2,c2,rfl, -⟩:=zh.slice h.2.1
 obtain⟨a3,c3,rfl, -⟩:=zh.slice h.2.2
 have hB:Below w.heap.size w ((w.alloc (.cells #[.slice a1 S.states.length c1, .slice a2 S.moves.length c2, .slice a3 S.next.length c3] 71)).alloc (.cells #[.int .i64 t] 3)):=xC w _ _
 have H1:((w.alloc (.cells #[.slice a1 S.states.length c1, .slice a2 S.moves.length c2, .slice a3 S.next.length c3] 71)).alloc (.cells #[.int .i64 t] 3)).heap[w.heap.size]? =some (.cells #[.slice a1 S.states.length c1, .slice a2 S.moves.length c2, .slice a3 S.next.length c3] 71 (0,0)):=(Below.heap_alloc _ _ _ (by simp)).trans (yj w _)
 have H2:Boxed ((w.alloc (.cells #[.slice a1 S.states.length c1, .slice a2 S.moves.length c2, .slice a3 S.next.length c3] 71)).alloc (.cells #[.int .i64 t] 3)) (w.heap.size+1) 3 (.int .i64 t):=by
  have:=yj (w.alloc (.cells #[.slice a1 S.states.length c1, .slice a2 S.moves.length c2, .slice a3 S.next.length c3] 71)) (.cells #[.int .i64 t] 3)
  rwa [World.size_alloc] at this
 have HS:=qh (h.below hB)
 have qQ:=qh hB
 have HH1:=qh H1
 have HH2:=qh H2
 have HM:=qh hm
 clear h hB H1 H2 hm
 unfold zbw
 go_enter Tryz.func67,Tryz.ntmps67
 go_upto_region 1 with fail
 generalize World.alloc (World.alloc _ _) _=W at HS qQ HH1 HH2 ⊢
 obtain⟨g,hg⟩:∃g,g=w.heap.size:=⟨_,rfl⟩
 rw [<-hg] at HH1 HH2 ⊢
 have c0:W.cell? ⟨g,0,none⟩=some (.slice a1 S.states.length c1):=ze HH1.out 0
 have c1':W.cell? ⟨g,1,none⟩=some (.slice a2 S.moves.length c2):=ze HH1.out 1
 have c2':W.cell? ⟨g,2,none⟩=some (.slice a3 S.next.length c3):=ze HH1.out 2
 have HG:=qh hg
 clear hg
 go_wp2_with(go_at_call 93;go_must(refine(ztF W S _ _ _ HS.out HM.out).mono ?_);rintro e w2 ⟨b,ml,rfl,hml,hbl,hhl,hb2⟩;(have HML:=qh hml);(have HHL:=qh hhl);(have HB2:=qh hb2);clear hml hbl hhl hb2)
 go_ret
 have hz2:Boxed w2 (g+1) 3 (.int .i64 t):=(HB2.out.block _ HH2.out.lt).trans HH2.out
 have hbw:Below w.heap.size w w2:=qQ.out.trans (HB2.out.mono qQ.out.size)
 refine⟨g+1,w2.heap.size,b,ml,rfl,by have:=HG.out;omega,hz2.alloc _,Boxed.new w2 _ _,HML.out.grown (World.grownBy_alloc w2 _ none) (by simp),HHL.out,hbw.alloc hbw.size _⟩
def Row (B:Nat) (bx z:Nat) (w:World) (pre:List zq) (W:World):Prop:=∃sv,Boxed W bx 52 sv/\W.ownsRow B 32 3 sv pre.length (zo zq.cells pre)/\Since (λk=>k=z) w W
theorem Row.grown {B bx z:Nat} {w:World} {pre:List zq} {W X:World} {row:Option Nat} (h:Row B bx z w pre W) (hg:W.grownBy X row) (hw:w.heap.size<=B) (hx:some bx≠row) (hr:∀k,row=some k->k=z/\z<B\/B<=k/\∃o,W.heap[k]? =some o/\o.isCells=false):Row B bx z w pre X:=by
 obtain⟨sv,h1,h2,h3⟩:=h
 refine⟨sv,h1.kept hg hx, ?_,h3.grown hg (λk hk=> ?_)⟩
 ·refine Since.row (F:=λk=>row=some k) ⟨hg.os,hg.tape,hg.output,hg.size,λk hk hne=>hg.block k hk λe=>hne e.symm⟩ h2 (λk hk e=> ?_)
  rcases h2.2 with⟨rfl, -⟩|⟨g,cap,cur,rfl,hb,hc, -⟩
  ·cases hk
  simp only [Value.ownBlock,Option.some.injEq] at hk
  subst hk
  rcases hr _ e with⟨rfl,hz⟩|⟨-,o,ho,hcl⟩
  ·omega
  rw [hc] at ho;cases ho;cases hcl
 rcases hr k hk with⟨rfl, -⟩|⟨hb, -⟩
 ·exact .inl rfl
 exact .inr (by omega)
theorem Row.ahead {B bx z:Nat} {w:World} {pre:List zq} {W:World} (h:Row B bx z w pre W) (o:Obj) (hw:w.heap.size<=B):Row B bx z w pre (W.alloc o):=h.grown (World.grownBy_alloc W o none) hw (by simp) (λk e=>by cases e)
theorem Row.put {B bx z:Nat} {w W W2 W3:World} {pre:List zq} {x:zq} {sv v:Value} (hb:Boxed W bx 52 sv) (hown:W.ownsRow B 32 3 sv pre.length (zo zq.cells pre)) (hs:Since (λk=>k=z) w W) (hg2:W.grownBy W2 none)
  (h1:W3.ownsRow B 32 3 v (pre.length+1) (zo zq.cells pre++x.cells)) (hg3:W2.grownBy W3 sv.ownBlock) (hw:w.heap.size<=bx) (hbB:bx<B):
  KeepsFrom B W (W3.setCell ⟨bx,0,none⟩ v)/\gY W (W3.setCell ⟨bx,0,none⟩ v)/\Row B bx z w (pre++ [x]) (W3.setCell ⟨bx,0,none⟩ v):=by
 have hset:=grownBy_setCell' W3 bx v
 have hsv:∀g,sv.ownBlock=some g->B<=g/\∃cur,W.heap[g]? =some (.cells cur 32 (0,0)):=λg e=>by
  rcases hown.2 with⟨rfl, -⟩|⟨g',cap,cur,rfl,hb',hc, -⟩
  ·cases e
  cases e;exact⟨hb',cur,hc⟩
 have step:∀k o,W.heap[k]? =some o->k≠bx->(∀cur,o≠ .cells cur 32 (0,0))->(W3.setCell ⟨bx,0,none⟩ v).heap[k]? =some o:=λk o hk hne ho=>by
  have hlt:=zx hk
  have hlt2:=Nat.lt_of_lt_of_le hlt hg2.size
  have hne2:some k≠sv.ownBlock:=λe=>by
   obtain⟨-,cur,hc⟩:=hsv k e.symm
   rw [hk] at hc;cases hc;exact ho _ rfl
  exact((hset.block k (Nat.lt_of_lt_of_le hlt2 hg3.size) (λe=>hne (by cases e;rfl))).trans (hg3.block k hlt2 hne2)).trans ((hg2.block k hlt (by simp)).trans hk)
 have hsz:W.heap.size<=(W3.setCell ⟨bx,0,none⟩ v).heap.size:=Nat.le_trans hg2.size (Nat.le_trans hg3.size hset.size)
 refine⟨⟨hsz,λk o hB hk ho=>step k o hk (by omega) (λcur e=>by subst e;cases ho)⟩,λk o hk ho=>step k o hk (λe=> ?_) (λcur e=>by subst e;simp [zhB] at ho),v, ?_, ?_, ?_⟩
 ·subst e;rw [show W.heap[k]? =_ from hb] at hk;cases hk;simp [zhB] at ho
 ·have h2:Boxed W2 bx 52 sv:=hb.kept hg2 (by simp)
  have h3:Boxed W3 bx 52 sv:=h2.kept hg3 (λe=>by have:=(hsv bx e.symm).1;omega)
  exact h3.set v
 ·have e1:(pre++ [x]).length=pre.length+1:=by simp
  have e2:zo zq.cells (pre++ [x])=zo zq.cells pre++x.cells:=by simp [zo]
  rw [e1,e2]
  refine Since.row (F:=λk=>k=bx) ⟨hset.os,hset.tape,hset.output,hset.size,λk hk hne=>hset.block k hk λe=>hne (by cases e;rfl)⟩ h1 (λk hk e=> ?_)
  rcases h1.2 with⟨rfl, -⟩|⟨g',cap,cur,rfl,hb', -, -⟩
  ·cases hk
  cases hk;simp at e;omega
 exact((hs.grown hg2 (λk e=>by cases e)).grown hg3 (λk e=> .inr (by have:=(hsv k e).1;omega))).grown hset (λk e=> .inr (by cases e;exact hw))
theorem addr_add (b j:Nat):(⟨b,0,none⟩:Addr).add j=⟨b,j,none⟩:=by
 simp only [Addr.add]
 split
 ·rename_i h;rw [h]
 rw [Nat.zero_add]
theorem zzf {W:World} {B bx:Nat} {e:TypeId} {size:Nat} {sv:Value} {n:Nat} {xs:List Value} (h:W.ownsRow B e size sv n xs) (hb:bx<B):some bx≠sv.ownBlock:=λq=>by
 rcases h.2 with⟨rfl, -⟩|⟨g,cap,cur,rfl,hg, -⟩
 ·cases q
 simp only [Value.ownBlock,Option.some.injEq] at q
 omega
def zlo (w:World) (z:Nat) (xs:List zq) (e:Ending) (w':World):Prop:=∃sv,e= .returned sv/\w'.ownsRow w.heap.size 32 3 sv xs.length (zo zq.cells xs)/\Since (λk=>k=z) w w'
theorem zjK (w:World) (S:xV) (t:Int) (z y b:Nat) (ml:List (Int × Value)) (ht:t<=1000000) (hz:Boxed w z 3 (.int .i64 t)) (hy:Boxed w y 149 (.map (some b))) (hm:xG w b ml) (hh:jH ml (qG S S.next.length)):
  Calls Tryz.prog 92 #[.slice none 0 0, .func (.func 94) #[] #[.pointer (some ⟨z,0,none⟩), .pointer (some ⟨y,0,none⟩)]] w (zlo w z (vJ S t.toNat t)):=by
 obtain⟨xs,hxs⟩:∃xs,xs=vJ S t.toNat t:=⟨_,rfl⟩
 have hxl:xs.length<=1000000:=by rw [hxs];have:=zjv S t.toNat t;omega
 rw [<-hxs]
 refine(callsIn_wide (n:=8)).1 ?_
 refine callsIn_of_wp_marks Tryz.func92 rfl trivial ?_ rfl
 simp only [Tryz.ntmps92,List.size_toArray,List.length_cons,List.length_nil,Nat.reduceAdd,Nat.reduceSub,Array.replicate_succ,Array.replicate_zero,List.push_toArray,List.append_toArray,List.nil_append,List.cons_append]
 have hB0:Below w.heap.size w (w.alloc (.cells #[.slice none 0 0] 52)):=(Below.refl _ w).alloc (Nat.le_refl _) _
 have b0:=Boxed.new w 52 (.slice none 0 0)
 have hsz:(w.alloc (.cells #[.slice none 0 0] 52)).heap.size=w.heap.size+1:=by simp
 have hg0:=World.grownBy_alloc w (.cells #[.slice none 0 0] 52) none
 have HZ:=qh (hz.alloc (.cells #[.slice none 0 0] 52))
 have HY:=qh (hy.alloc (.cells #[.slice none 0 0] 52))
 have HM:=qh (hm.grown hg0 (by simp))
 have HZL:=qh hz.lt
 have HH:=qh hh
 have HXS:=qh hxs
 clear hz hy hm hh hxs hg0
 gi_wp2
 generalize World.alloc w _=W0 at hB0 b0 hsz HZ HY HM ⊢
 refine zgC rfl (by decide) (gf:=94) (lb:= #[.pointer (some ⟨z,0,none⟩), .pointer (some ⟨y,0,none⟩)]) rfl trivial (enters_of Tryz.func94 (by kernel_rfl) rfl)
  (encs:=λx:zq=> #[.agg #[.int .i64 x.kind, .int .i64 x.thread, .int .i64 x.var]]) (Kp:=gY) (R:=λW=>Boxed W z 3 (.int .i64 t)/\Boxed W y 149 (.map (some b))/\xG W b ml) (z:=z) (xs:=xs)
  (λl J W hR hJ hY h0=>ztG (8 - 1) l z y b t S ml xs HXS.out (by decide) J hJ hY W hR.1 hR.2.1 hR.2.2 HH.out h0)
  (by have:=HZL.out;omega) (λh k=>h.trans k) gY.record
  (λW hb=>⟨(hb.block _ HZ.out.lt).trans HZ.out,(hb.block _ HY.out.lt).trans HY.out,HM.out.below hb⟩) (λ_=>rfl)
  (Row (w.heap.size+1) w.heap.size z w)
  (λpre A C row hs hg hr=>hs.grown hg (by omega) (λe=>by have:=(hr _ e.symm).1;omega) (λk hk=> .inr ⟨by have:=(hr k hk).1;omega,(hr k hk).2⟩))
  (λpre A C row hs hg hr=>hs.grown hg (by omega) (λe=>by have:=hr _ e.symm;have:=HZL.out;omega) (λk hk=> .inl ⟨hr k hk,by have:=HZL.out;omega⟩))
  ⟨.slice none 0 0,b0,⟨rfl, .inl ⟨rfl,rfl⟩⟩,⟨hB0.os,hB0.tape,hB0.output,hB0.size,λk hk _=>hB0.block k hk⟩⟩
  (λx a' W=>∃Bx,w.heap.size+1<=Bx/\W.heap[Bx]? =some (.cells #[.int .i64 x.kind, .int .i64 x.thread, .int .i64 x.var] 32 (0,0))/\a'= { tmps:= #[.slice none 0 0, .func (.func 94) #[] #[.pointer (some ⟨z,0,none⟩), .pointer (some ⟨y,0,none⟩)], .pointer (some ⟨w.heap.size,0,none⟩),undef, .slice none 0 0, .pointer (some ⟨Bx,0,none⟩), .func (.func 94) #[] #[.pointer (some ⟨z,0,none⟩), .pointer (some ⟨y,0,none⟩)], .agg #[.int .i64 x.kind, .int .i64 x.thread, .int .i64 x.var],undef,undef,undef,undef,undef],defers:= [] })
  (λx a' _ X Y row hs hg hr=>by
   obtain⟨Bx,h1,h2,h3⟩:=hs
   refine⟨Bx,h1, ?_,h3⟩
   refine(hg.block Bx (zx h2) (λe=> ?_)).trans h2
   obtain⟨o,ho,hc⟩:=(hr Bx e.symm).2
   rw [h2] at ho;cases ho;cases hc)
  ?assign ?body ?done
 case assign=>
  rintro l2 pre x W K hrow hK
  gi_wp2
  have hl:=hrow
  obtain⟨sv,hb, -, -⟩:=hl
  have:=hb.lt
  exact hK _ _ ((KeepsOthers.alloc _ _).from _) (.grown (World.grownBy_alloc W _ none) (λk o e=>by cases e)) (hrow.ahead _ (by omega)) ⟨W.heap.size,by omega,yj W _,rfl⟩
 case body=>
  rintro l2 pre x a' W ⟨sv,hb,hown,zcl⟩ ⟨Bx,hBx,bX,rfl⟩ hlen
  have d0:W.cell? ⟨Bx,0,none⟩=some (.int .i64 x.kind):=ze bX 0
  have d1:W.cell? ⟨Bx,1,none⟩=some (.int .i64 x.thread):=ze bX 1
  have d2:W.cell? ⟨Bx,2,none⟩=some (.int .i64 x.var):=ze bX 2
  have c1:=hb.cell
  have f1:=hb.frozen
  obtain⟨i0,hi0,hiz,his,hib⟩:=info_parts gN
  have HOWN:=qh hown
  have HB:=qh hb
  have HSI:=qh zcl
  clear hown hb zcl bX
  obtain⟨pl,hpl⟩:∃pl,pl=pre.length:=⟨_,rfl⟩
  have qY:=qh hpl
  rw [<-hpl] at hlen
  clear hpl
  have hg2:=World.grownBy_alloc W (.cells #[.int .i64 x.kind, .int .i64 x.thread, .int .i64 x.var] 32) none
  have hq:=yj W (.cells #[.int .i64 x.kind, .int .i64 x.thread, .int .i64 x.var] 32)
  have z1v:Hid ((W.alloc (.cells #[.int .i64 x.kind, .int .i64 x.thread, .int .i64 x.var] 32)).ownsRow (w.heap.size+1) 32 3 sv pl (zo zq.cells pre)):=by
   rw [Hid,qY.out]
   exact Since.row (F:=λ_=>False) ⟨hg2.os,hg2.tape,hg2.output,hg2.size,λk hk _=>hg2.block k hk (by simp)⟩ HOWN.out (λ_ _ h=>h)
  have HQ:=qh hq
  have HBS:=qh HB.out.lt
  clear hg2 hq
  gi_wp2_with (gi_at_builtin;refine wpListIn_append_own _ rfl (.tmp 8) (.tmp 10) 52 rfl (w.heap.size+1) 32 i0 (.agg #[.int .i64 0, .int .i64 0, .int .i64 0]) 3 24 Tryz.underlying52 hi0 hiz his hib (by rfl) (by decide) sv pl (zo zq.cells pre) (by rfl) z1v.out ⟨W.heap.size,0,none⟩ 1 1 [.int .i64 x.kind, .int .i64 x.thread, .int .i64 x.var] (by rfl) (by rfl) (λj u hu=>by rw [addr_add,ze HQ.out, <-hu];simp) (by simp [Value.oneCell']) (by unfold maxLen;omega) (by omega) (by have:=HBS.out;simp;omega) ?_;intro v' W3 e1 e2 e4;clear e4;obtain⟨ja,jc,rfl, -, -⟩:=xK e1;(have HV1:=qh e1);(have HV2:=qh e2);(have hb3:Boxed W3 w.heap.size 52 sv:=(HB.out.alloc _).kept e2 (zzf HOWN.out (Nat.lt_succ_self _)));(have c3:=hb3.cell);(have f3:=hb3.frozen);clear hb3 e1 e2)
  have hput:=Row.put (x:=x) (z:=z) (w:=w) (W2:=_) (v:= .slice ja (pl+1) jc) HB.out HOWN.out HSI.out (World.grownBy_alloc W (.cells #[.int .i64 x.kind, .int .i64 x.thread, .int .i64 x.var] 32) none) (by rw [<-qY.out];exact HV1.out) HV2.out (Nat.le_refl _) (Nat.lt_succ_self _)
  exact⟨by rw [hsz];exact hput.1,hput.2⟩
 case done=>
 rintro D W hD hrow hK
 have hend:Row (w.heap.size+1) w.heap.size z w xs (W.putObj D (.deferred none)):=hrow.grown (grownBy_putObj' W D _) (by omega) (λe=>by cases e;omega) (λk e=>by cases e;exact .inr ⟨by omega,_,hK,rfl⟩)
 obtain⟨sv,hb, -, -⟩:=hrow
 obtain⟨sv2,hb2,hown,zcl⟩:=hend
 have c2:=hb.cell
 have f2:=hb.frozen
 have c4:=hb2.cell
 have HO:=qh hown
 have HSI:=qh zcl
 obtain rfl:sv2=sv:=by
  have:=(hb.kept (grownBy_putObj' W D (.deferred none)) (λe=>by cases e;omega)).cell
  rw [c4] at this;cases this;rfl
 clear hb hb2 hown zcl c4
 gi_wp2
 refine⟨by simp, .inl ⟨_,_,rfl,run_takeDeferred hK, ?_⟩⟩
 refine⟨sv2, ?_,sv2,rfl,xu HO.out (by omega),HSI.out⟩
 simp [results,Tryz.f92,go_sem]
end Go.Proofs.YtliajkheeniljaaGreatDoor
namespace Go.Proofs.YtliajkheeniljaaGreatDoor
open Go.RowKit
set_option maxRecDepth 100000
set_option maxHeartbeats 16000000
structure z1w (c:zI) (m:zF) (d:Nat) (l:List zl) (s:zl) (ms:List zq) (nx:List Int):Prop where
 len:nx.length=ms.length
 land:∀j,j<ms.length->∃t:Nat,t<l.length/\nx.getD j 0=t/\l.getD t default=(qC c m s (ms.getD j default) d).1
def Goes (l l':List zl):Prop:=∃x,l'=l++x
structure Closed (c:zI) (m:zF) (d:Nat) (S:xV):Prop where
 moves:S.moves.length=S.states.length
 next:S.next.length=S.states.length
 pos:0<S.states.length
 first:S.states.getD 0 default=qJ c
 apart:S.states.Nodup
 lead:∀i,i<S.states.length->S.moves.getD i [] =qE c m (S.states.getD i default) d/\z1w c m d S.states (S.states.getD i default) (S.moves.getD i []) (S.next.getD i [])
end Go.Proofs.YtliajkheeniljaaGreatDoor
namespace Go.Proofs.YtliajkheeniljaaGreatDoor
open Go.RowKit
set_option maxRecDepth 100000
set_option maxHeartbeats 16000000
structure Bfs (S:xV) (n:Nat) (L:Nat->Nat):Prop where
 zero:L 0=1
 lt:∀i,i<n->i<L i
 le:∀i,i<n->L i<=L (i+1)
 below:∀i,i<n->∀j,j<(S.next.getD i []).length->(S.next.getD i []).getD j 0<(L (i+1):Int)
 all:∀i,i<n->∀b,L i<=b->b<L (i+1)->∃j,j<(S.next.getD i []).length/\(S.next.getD i []).getD j 0=(b:Int)
section
variable {S:xV} {n:Nat} {L:Nat->Nat}
end
end Go.Proofs.YtliajkheeniljaaGreatDoor
namespace Go.Proofs.YtliajkheeniljaaGreatDoor
open Go.RowKit
set_option maxRecDepth 100000
set_option maxHeartbeats 16000000
theorem zlp {c:zI} {m:zF} {d:Nat} (x:zq):∀(l:List zq) (s t:zl),vC c m d s l=(t,0)->(qC c m t x d).2=0->vC c m d s (l++ [x])=((qC c m t x d).1,0):=by
 intro l
 induction l with
 |nil=>
  intro s t h h2
  have e:s=t:=congrArg Prod.fst h
  subst e
  show(if (qC c m s x d).2=0 then vC c m d (qC c m s x d).1 [] else(yH,(qC c m s x d).2))=_
  rw [if_pos h2]
  rfl
 |cons y l ih=>
 intro s t h h2
 have h':(if (qC c m s y d).2=0 then vC c m d (qC c m s y d).1 l else(yH,(qC c m s y d).2))=(t,0):=h
 show(if (qC c m s y d).2=0 then vC c m d (qC c m s y d).1 (l++ [x]) else(yH,(qC c m s y d).2))=_
 split at h'
 ·rename_i h0
  rw [if_pos h0]
  exact ih _ t h' h2
 rename_i h0
 exact absurd (congrArg Prod.snd h') h0
theorem zwS {c:zI} {m:zF} {s:zl} {d:Nat} {x:zq} (h:x∈qE c m s d):(qC c m s x d).2=0:=by
 obtain⟨i, -,h2⟩:=zlq h
 rcases h2 with⟨-,t, -,he⟩|⟨v, -, -,he⟩<;>rw [he]
section
variable {c:zI} {m:zF} {d:Nat} {S:xV} {L:Nat->Nat}
end
end Go.Proofs.YtliajkheeniljaaGreatDoor
namespace Go.Proofs.YtliajkheeniljaaGreatDoor
open Go.RowKit Go.Sort
set_option maxRecDepth 100000
set_option maxHeartbeats 16000000
def zmz:Go.Shelf.Ren:=⟨λ|35=>68|n=>n,λ|0=>0|3=>3|4=>4|22=>52|23=>32|n=>n,λn=>n⟩
theorem znv:Go.Proofs.SlLaysE0.n35 Tryz.prog zmz:= {
 mixed:=by kernel_rfl,
 f35:=⟨Tryz.f68.name,by decide,Tryz.func68.trans (congrArg some (by kernel_rfl))⟩,
 t0:=Tryz.underlying0,
 a0:=Tryz.isAgg0,
 z0:=Tryz.sizeOf0,
 v0:=Tryz.zeroValue0,
 t3:=Tryz.underlying3,
 a3:=Tryz.isAgg3,
 z3:=Tryz.sizeOf3,
 v3:=Tryz.zeroValue3,
 t4:=Tryz.underlying4,
 a4:=Tryz.isAgg4,
 z4:=Tryz.sizeOf4,
 v4:=Tryz.zeroValue4,
 t22:=Tryz.underlying52,
 a22:=Tryz.isAgg52,
 z22:=Tryz.sizeOf52,
 v22:=Tryz.zeroValue52 }
theorem zwT {w:World} {B g n cap:Nat} {e:TypeId} {size:Nat} {xs:List Value} (h:w.ownsRow B e size (.slice (some ⟨g,0,none⟩) n cap) n xs):B<=g/\∃cur,w.heap[g]? =some (.cells cur e (0,0))/\cur.size=cap*size/\∀j,j<n*size->cur[j]? =xs[j]? :=by
 rcases h.2 with⟨h1, -⟩|⟨g',cap',cur,h1,h2,h3, -, -,h6,h7⟩
 ·cases h1
 cases h1
 refine⟨h2,cur,h3,h6,λj hj=> ?_⟩
 rw [<-h7,List.getElem?_take_of_lt hj]
 simp
theorem zo1 {w:World} {g n:Nat} {dk:Array zq} {cur:Array Value} {t:TypeId} (hb:w.heap[g]? =some (.cells cur t (0,0))):
  (putRowK zq.cells 3 (Go.Sort.ahead w n) g 0 dk).heap[g]? =some (.cells (putCells id 0 (flatK zq.cells 3 dk) cur) t (0,0)):=by
 unfold putRowK putRow mapBlock Go.Sort.ahead
 simp only []
 rw [Array.getElem?_modify,if_pos rfl,hb]
 rfl
theorem zo2 (w:World) (g n:Nat) (dk:Array zq):Since (λi=>i=g) w (putRowK zq.cells 3 (Go.Sort.ahead w n) g 0 dk):=by
 refine⟨rfl,rfl,rfl, ?_,λi hi hne=> ?_⟩
 ·unfold putRowK putRow mapBlock Go.Sort.ahead
  simp
 unfold putRowK putRow mapBlock Go.Sort.ahead
 simp only []
 rw [Array.getElem?_modify,if_neg (λe=>hne e.symm)]
theorem zgf (l:List zq) (d:Array zq) (hd:d.toList=l) (t:Nat) (ht:t<l.length*3):(zo zq.cells l)[t]? =some ((flatK zq.cells 3 d)[t]!):=by
 have hds:d.size=l.length:=by rw [<-hd];simp
 have hq:t / 3<l.length:=by omega
 have h1:=zab (f:=zq.cells) (size:=3) uP (l:=l) (j:=t / 3) (i:=t % 3) hq (by omega)
 rw [show t / 3*3+t % 3=t by omega] at h1
 rw [h1,get_flatK zq.cells 3 d t (by rw [hds];exact ht)]
 have hg:d[t / 3]! =l.getD (t / 3) default:=by
  rw [getElem!_pos d _ (by rw [hds];exact hq)]
  subst hd
  simp [List.getD_eq_getElem?_getD,Array.getElem?_eq_getElem (show t / 3<d.size by rw [hds];exact hq)]
 rw [hg,List.getElem?_eq_getElem (by rw [uP];omega),List.getElem!_eq_getElem?_getD,List.getElem?_eq_getElem (by rw [uP];omega)]
 rfl
def zzh (w:World) (B:Nat) (v:Value) (l:List zq) (e:Ending) (w':World):Prop:=e= .returned (.tuple #[])/\w'.ownsRow B 32 3 v l.length (zo zq.cells l.reverse)/\Since (λk=>v.ownBlock=some k) w w'
theorem zm0 (w:World) (B:Nat) (v:Value) (l:List zq) (hrow:w.ownsRow B 32 3 v l.length (zo zq.cells l)) (hn:l.length<=1000000):
  Calls Tryz.prog 68 #[v] w (zzh w B v l):=by
 rcases Nat.eq_zero_or_pos l.length with h0|h0
 ·have hP:l= [] :=List.eq_nil_of_length_eq_zero h0
  subst hP
  obtain⟨a,cap,rfl, -, -⟩:=xK hrow
  refine Calls.mono (Go.Proofs.AnyQ.slices_Reverse_empty znv a cap w) λe w' ⟨he,hw⟩=> ?_
  subst hw
  exact⟨he,hrow,Since.refl _ _⟩
 obtain⟨g,cap,rfl,hcap,hcm⟩:=wN hrow h0
 obtain⟨hbg,cur,hcb,hcs,hcur⟩:=zwT hrow
 have hH:HoldsK zq.cells 3 w g 0 l.toArray:=by
  intro t ht
  rw [size_flatK,List.size_toArray] at ht
  refine⟨?_,zB hcb _⟩
  rw [Nat.zero_add,ze hcb,hcur t ht,zgf l l.toArray (by simp) t ht]
  rfl
 have hc:=Go.Proofs.AnyQ.slices_Reverse znv 3 Tryz.isAgg32 Tryz.sizeOf32 zq.cells uP (λx u hu=>by
  simp only [zq.cells,List.mem_cons,List.not_mem_nil,or_false] at hu
  rcases hu with rfl|rfl|rfl<;>rfl) g 0 cap l.toArray w hH (by rw [List.size_toArray];omega)
 rw [List.size_toArray] at hc
 refine Calls.mono hc λe w' ⟨he,n,hw⟩=> ?_
 have hblk:=zo1 (n:=n) (dk:=l.toArray.reverse) hcb
 rw [<-hw] at hblk
 refine⟨he,⟨by rw [jB uP,List.length_reverse], .inr ⟨g,cap,_,rfl,hbg,hblk,hcap,hcm,by simp [putCells,hcs], ?_⟩⟩, ?_⟩
 ·apply List.ext_getElem?
  intro t
  rw [List.getElem?_take]
  split
  ·rename_i ht
   have h1:=zgf l.reverse l.toArray.reverse (by simp) t (by rw [List.length_reverse];exact ht)
   rw [h1,Array.getElem?_toList]
   unfold putCells
   rw [Array.getElem?_mapIdx,Array.getElem?_eq_getElem (by rw [hcs];have:=Nat.mul_le_mul_right 3 hcap;omega)]
   simp only [Option.map_some]
   rw [if_pos ⟨Nat.zero_le _,by rw [size_flatK];simp;omega⟩,Nat.sub_zero]
   rfl
  rename_i ht
  rw [List.getElem?_eq_none (by rw [jB uP,List.length_reverse];omega)]
 rw [hw]
 exact(zo2 w g n _).mono (λk _ hk=>by rw [hk];rfl)
end Go.Proofs.YtliajkheeniljaaGreatDoor
namespace Go.Proofs.YtliajkheeniljaaGreatDoor
open Go.RowKit
set_option maxRecDepth 100000
set_option maxHeartbeats 16000000
theorem zm1 (w:World) (S:xV) (t:Int) (z y b:Nat) (ml:List (Int × Value)) (ht:t<=1000000) (hz:Boxed w z 3 (.int .i64 t)) (hy:Boxed w y 149 (.map (some b))) (hm:xG w b ml) (hh:jH ml (qG S S.next.length)):
  Calls Tryz.prog 66 #[.func (.func 94) #[] #[.pointer (some ⟨z,0,none⟩), .pointer (some ⟨y,0,none⟩)]] w (zlo w z (vJ S t.toNat t)):=by
 go_enter Tryz.func66,Tryz.ntmps66
 go_wp2_with(go_at_call 92;go_must(refine(zjK w S t z y b ml ht hz hy hm hh).mono ?_);rintro e w2 ⟨sv,rfl,h1,h2⟩;(have H1:=qh h1);(have H2:=qh h2);clear h1 h2)
 go_ret
 exact⟨sv,rfl,H1.out,H2.out⟩
def ztH (w:World) (l:List zq) (e:Ending) (w':World):Prop:=∃sv,e= .returned sv/\w'.ownsRow w.heap.size 32 3 sv l.length (zo zq.cells l)/\Below w.heap.size w w'
theorem zo3 (w:World) (S:xV) (sv mv nv:Value) (h:jL w S sv mv nv) (hm:S.moves.length=S.states.length) (hn:S.next.length=S.states.length) (i:Nat) (hi:i<S.states.length) (hb:S.states.length<=1000000):
  Calls Tryz.prog 39 #[zbw sv mv nv, .int .i64 (i:Int)] w (ztH w (vJ S i (i:Int)).reverse):=by
 obtain⟨a1,c1,rfl, -⟩:=zh.slice h.1
 obtain⟨a2,c2,rfl, -⟩:=zh.slice h.2.1
 obtain⟨a3,c3,rfl, -⟩:=zh.slice h.2.2
 have HM:=qh (hm.trans hn.symm)
 have HXL:Hid ((vJ S i (i:Int)).length<=1000000):=by have:=zjv S i (i:Int);rw [Hid];omega
 obtain⟨n,hnn⟩:∃n,n=S.states.length:=⟨_,rfl⟩
 rw [hm,hn, <-hnn] at h ⊢
 rw [<-hnn] at hi hb
 have hi2:(i:Int)<(n:Int):=by omega
 have h02:(0:Int)<=(i:Int):=by omega
 have hi1:(i:Int)<=1000000:=by omega
 have HI1:=qh hi1
 have hB:Below w.heap.size w (w.alloc (.cells #[.slice a1 n c1, .slice a2 n c2, .slice a3 n c3] 71)):=(Below.refl _ w).alloc (Nat.le_refl _) _
 have HS:=qh (h.below hB)
 have HH1:=qh (yj w (.cells #[.slice a1 n c1, .slice a2 n c2, .slice a3 n c3] 71))
 have HB:=qh hB
 clear h hB hm hn hb hnn hi hi1
 unfold zbw
 go_enter Tryz.func39,Tryz.ntmps39
 go_upto_region 1 with fail
 generalize World.alloc w _=W at HS HH1 HB ⊢
 obtain⟨g,hg⟩:∃g,g=w.heap.size:=⟨_,rfl⟩
 rw [<-hg] at HH1 ⊢
 have c0:W.cell? ⟨g,0,none⟩=some (.slice a1 n c1):=ze HH1.out 0
 have c1':W.cell? ⟨g,1,none⟩=some (.slice a2 n c2):=ze HH1.out 1
 have c2':W.cell? ⟨g,2,none⟩=some (.slice a3 n c3):=ze HH1.out 2
 have HG:=qh hg
 clear hg
 go_wp2_with(first
  |(go_at_call 67;go_must(refine(ztE W S _ _ _ HS.out HM.out (i:Int)).mono ?_);rintro e w2 ⟨z,y,b,ml,rfl,q1,q2,q3,q4,q5,q6⟩;(have Q1:=qh q1);(have Q2:=qh q2);(have Q3:=qh q3);(have Q4:=qh q4);(have Q5:=qh q5);(have Q6:=qh q6);clear q1 q2 q3 q4 q5 q6)
  |(go_at_call 66;go_must(refine(zm1 _ S (i:Int) _ _ _ _ HI1.out Q2.out Q3.out Q4.out Q5.out).mono ?_);rintro e w3 ⟨rv,rfl,r1,r2⟩;simp only [Int.toNat_natCast] at r1;(have R1:=qh r1);(have R2:=qh r2);clear r1 r2)
  |(go_at_call 68;go_must(refine(zm0 _ _ _ _ R1.out HXL.out).mono ?_);rintro e w4 ⟨rfl,s1,s2⟩;(have S1:=qh s1);(have S2:=qh s2);clear s1 s2))
 go_ret
 have hs1:=HB.out.size
 have hs2:=Q6.out.size
 have hs3:=R2.out.size
 have hq1:=Q1.out
 refine⟨rv,rfl,xu (C:=w.heap.size) (by rw [List.length_reverse];exact S1.out) (by omega), ?_⟩
 refine((HB.out.trans (Q6.out.mono hs1)).trans (R2.out.below (by omega) (λk hk=>by omega))).trans (S2.out.below (by omega) (λk hk=> ?_))
 have:=(R1.out.lt k hk).1
 omega
