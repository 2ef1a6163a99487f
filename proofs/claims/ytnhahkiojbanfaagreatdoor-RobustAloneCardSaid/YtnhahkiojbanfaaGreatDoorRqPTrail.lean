/- Steps. -/
import Derived.Test.YtnhahkiojbanfaaGreatDoorRqPTrace
set_option linter.all false
namespace Go.Proofs.YtnhahkiojbanfaaGreatDoor
open Go.RowKit Go.Shelf
set_option maxRecDepth 100000
set_option maxHeartbeats 16000000
attribute [local go_sem] Oper.semAt_some
def zrS (w:World) (S:yj) (t:Int) (e:Ending) (w':World):Prop:=∃(z y b:Nat) (ml:List (Int × Value)),e= .returned (.func (.func 67) #[] #[.pointer (some ⟨z,0,none⟩), .pointer (some ⟨y,0,none⟩)])/\w.heap.size<=z/\Boxed w' z 3 (.int .i64 t)/\Boxed w' y 128 (.map (some b))/\yB w' b ml/\vg ml (xD S S.next.length)/\Below w.heap.size w w'
theorem zo5 (w:World) (S:yj) (sv mv nv:Value) (h:kC w S sv mv nv) (hm:S.moves.length=S.next.length) (t:Int):Calls Tryz.prog 43 #[zaW sv mv nv, .int .i64 t] w (zrS w S t):=by
 obtain⟨a1,c1,rfl, -⟩:=zh.slice h.1
 obtain⟨a2,c2,rfl, -⟩:=zh.slice h.2.1
 obtain⟨a3,c3,rfl, -⟩:=zh.slice h.2.2
 have hB:Below w.heap.size w ((w.alloc (.cells #[.slice a1 S.states.length c1, .slice a2 S.moves.length c2, .slice a3 S.next.length c3] 49)).alloc (.cells #[.int .i64 t] 3)):=xQ w _ _
 have H1:((w.alloc (.cells #[.slice a1 S.states.length c1, .slice a2 S.moves.length c2, .slice a3 S.next.length c3] 49)).alloc (.cells #[.int .i64 t] 3)).heap[w.heap.size]? =some (.cells #[.slice a1 S.states.length c1, .slice a2 S.moves.length c2, .slice a3 S.next.length c3] 49 (0,0)):=(Below.heap_alloc _ _ _ (by simp)).trans (zS w _)
 have H2:Boxed ((w.alloc (.cells #[.slice a1 S.states.length c1, .slice a2 S.moves.length c2, .slice a3 S.next.length c3] 49)).alloc (.cells #[.int .i64 t] 3)) (w.heap.size+1) 3 (.int .i64 t):=by
  have:=zS (w.alloc (.cells #[.slice a1 S.states.length c1, .slice a2 S.moves.length c2, .slice a3 S.next.length c3] 49)) (.cells #[.int .i64 t] 3)
  rwa [World.size_alloc] at this
 have HS:=qh (h.below hB)
 have HBL:=qh hB
 have HH1:=qh H1
 have bF:=qh H2
 have HM:=qh hm
 clear h hB H1 H2 hm
 unfold zaW
 go_enter Tryz.func43,Tryz.ntmps43
 go_upto_region 1 with fail
 generalize World.alloc (World.alloc _ _) _=W at HS HBL HH1 bF ⊢
 obtain⟨g,hg⟩:∃g,g=w.heap.size:=⟨_,rfl⟩
 rw [<-hg] at HH1 bF ⊢
 have c0:W.cell? ⟨g,0,none⟩=some (.slice a1 S.states.length c1):=ze HH1.out 0
 have c1':W.cell? ⟨g,1,none⟩=some (.slice a2 S.moves.length c2):=ze HH1.out 1
 have c2':W.cell? ⟨g,2,none⟩=some (.slice a3 S.next.length c3):=ze HH1.out 2
 have HG:=qh hg
 clear hg
 go_wp2_with(go_at_call 66;go_must(refine(zo6 W S _ _ _ HS.out HM.out).mono ?_);rintro e w2 ⟨b,ml,rfl,hml,hbl,hhl,hb2⟩;(have bV:=qh hml);(have HHL:=qh hhl);(have HB2:=qh hb2);clear hml hbl hhl hb2)
 go_ret
 have hz2:Boxed w2 (g+1) 3 (.int .i64 t):=(HB2.out.block _ bF.out.lt).trans bF.out
 have hbw:Below w.heap.size w w2:=HBL.out.trans (HB2.out.mono HBL.out.size)
 refine⟨g+1,w2.heap.size,b,ml,rfl,by have:=HG.out;omega,hz2.alloc _,Boxed.new w2 _ _,bV.out.grown (World.grownBy_alloc w2 _ none) (by simp),HHL.out,hbw.alloc hbw.size _⟩
def Row (B:Nat) (bx z:Nat) (w:World) (pre:List zo) (W:World):Prop:=∃sv,Boxed W bx 32 sv/\W.ownsRow B 70 3 sv pre.length (zq zo.cells pre)/\Since (λk=>k=z) w W
theorem Row.grown {B bx z:Nat} {w:World} {pre:List zo} {W X:World} {row:Option Nat} (h:Row B bx z w pre W) (hg:W.grownBy X row) (hw:w.heap.size<=B) (hx:some bx≠row) (hr:∀k,row=some k->k=z/\z<B\/B<=k/\∃o,W.heap[k]? =some o/\o.isCells=false):Row B bx z w pre X:=by
 obtain⟨sv,h1,h2,h3⟩:=h
 refine⟨sv,h1.kept hg hx, ?_,h3.grown hg (λk hk=> ?_)⟩
 ·refine Since.row (F:=λk=>row=some k) ⟨hg.os,hg.tape,hg.output,hg.size,λk hk hne=>hg.block k hk λe=>hne e.symm⟩ h2 (λk hk e=> ?_)
  rcases h2.2 with⟨rfl, -⟩|⟨g,cap,cur,rfl,hb,hc, -⟩
  ·cases hk
  simp only [Value.ownBlock,Option.some.injEq] at hk
  subst hk
  rcases hr _ e with⟨rfl,hz⟩|⟨-,o,ho,hcl⟩
  ·omega
  rw [hc] at ho;cases ho;cases hcl
 rcases hr k hk with⟨rfl, -⟩|⟨hb, -⟩
 ·exact .inl rfl
 exact .inr (by omega)
theorem Row.ahead {B bx z:Nat} {w:World} {pre:List zo} {W:World} (h:Row B bx z w pre W) (o:Obj) (hw:w.heap.size<=B):Row B bx z w pre (W.alloc o):=h.grown (World.grownBy_alloc W o none) hw (by simp) (λk e=>by cases e)
theorem Row.put {B bx z:Nat} {w W W2 W3:World} {pre:List zo} {x:zo} {sv v:Value} (hb:Boxed W bx 32 sv) (hown:W.ownsRow B 70 3 sv pre.length (zq zo.cells pre)) (hs:Since (λk=>k=z) w W) (hg2:W.grownBy W2 none)
  (h1:W3.ownsRow B 70 3 v (pre.length+1) (zq zo.cells pre++x.cells)) (hg3:W2.grownBy W3 sv.ownBlock) (hw:w.heap.size<=bx) (hbB:bx<B):
  KeepsFrom B W (W3.setCell ⟨bx,0,none⟩ v)/\jT W (W3.setCell ⟨bx,0,none⟩ v)/\Row B bx z w (pre++ [x]) (W3.setCell ⟨bx,0,none⟩ v):=by
 have hset:=grownBy_setCell' W3 bx v
 have hsv:∀g,sv.ownBlock=some g->B<=g/\∃cur,W.heap[g]? =some (.cells cur 70 (0,0)):=λg e=>by
  rcases hown.2 with⟨rfl, -⟩|⟨g',cap,cur,rfl,hb',hc, -⟩
  ·cases e
  cases e;exact⟨hb',cur,hc⟩
 have step:∀k o,W.heap[k]? =some o->k≠bx->(∀cur,o≠ .cells cur 70 (0,0))->(W3.setCell ⟨bx,0,none⟩ v).heap[k]? =some o:=λk o hk hne ho=>by
  have hlt:=zy hk
  have hlt2:=Nat.lt_of_lt_of_le hlt hg2.size
  have hne2:some k≠sv.ownBlock:=λe=>by
   obtain⟨-,cur,hc⟩:=hsv k e.symm
   rw [hk] at hc;cases hc;exact ho _ rfl
  exact((hset.block k (Nat.lt_of_lt_of_le hlt2 hg3.size) (λe=>hne (by cases e;rfl))).trans (hg3.block k hlt2 hne2)).trans ((hg2.block k hlt (by simp)).trans hk)
 have hsz:W.heap.size<=(W3.setCell ⟨bx,0,none⟩ v).heap.size:=Nat.le_trans hg2.size (Nat.le_trans hg3.size hset.size)
 refine⟨⟨hsz,λk o hB hk ho=>step k o hk (by omega) (λcur e=>by subst e;cases ho)⟩,λk o hk ho=>step k o hk (λe=> ?_) (λcur e=>by subst e;simp [zeE] at ho),v, ?_, ?_, ?_⟩
 ·subst e;rw [show W.heap[k]? =_ from hb] at hk;cases hk;simp [zeE] at ho
 ·have h2:Boxed W2 bx 32 sv:=hb.kept hg2 (by simp)
  have h3:Boxed W3 bx 32 sv:=h2.kept hg3 (λe=>by have:=(hsv bx e.symm).1;omega)
  exact h3.set v
 ·have e1:(pre++ [x]).length=pre.length+1:=by simp
  have e2:zq zo.cells (pre++ [x])=zq zo.cells pre++x.cells:=by simp [zq]
  rw [e1,e2]
  refine Since.row (F:=λk=>k=bx) ⟨hset.os,hset.tape,hset.output,hset.size,λk hk hne=>hset.block k hk λe=>hne (by cases e;rfl)⟩ h1 (λk hk e=> ?_)
  rcases h1.2 with⟨rfl, -⟩|⟨g',cap,cur,rfl,hb', -, -⟩
  ·cases hk
  cases hk;simp at e;omega
 exact((hs.grown hg2 (λk e=>by cases e)).grown hg3 (λk e=> .inr (by have:=(hsv k e).1;omega))).grown hset (λk e=> .inr (by cases e;exact hw))
theorem addr_add (b j:Nat):(⟨b,0,none⟩:Addr).add j=⟨b,j,none⟩:=by
 simp only [Addr.add]
 split
 ·rename_i h;rw [h]
 rw [Nat.zero_add]
theorem zsC {W:World} {B bx:Nat} {e:TypeId} {size:Nat} {sv:Value} {n:Nat} {xs:List Value} (h:W.ownsRow B e size sv n xs) (hb:bx<B):some bx≠sv.ownBlock:=λq=>by
 rcases h.2 with⟨rfl, -⟩|⟨g,cap,cur,rfl,hg, -⟩
 ·cases q
 simp only [Value.ownBlock,Option.some.injEq] at q
 omega
def zhu (w:World) (z:Nat) (xs:List zo) (e:Ending) (w':World):Prop:=∃sv,e= .returned sv/\w'.ownsRow w.heap.size 70 3 sv xs.length (zq zo.cells xs)/\Since (λk=>k=z) w w'
theorem zgY (w:World) (S:yj) (t:Int) (z y b:Nat) (ml:List (Int × Value)) (ht:t<=1000000) (hz:Boxed w z 3 (.int .i64 t)) (hy:Boxed w y 128 (.map (some b))) (hm:yB w b ml) (hh:vg ml (xD S S.next.length)):
  Calls Tryz.prog 65 #[.slice none 0 0, .func (.func 67) #[] #[.pointer (some ⟨z,0,none⟩), .pointer (some ⟨y,0,none⟩)]] w (zhu w z (xV S t.toNat t)):=by
 obtain⟨xs,hxs⟩:∃xs,xs=xV S t.toNat t:=⟨_,rfl⟩
 have hxl:xs.length<=1000000:=by rw [hxs];have:=zgj S t.toNat t;omega
 rw [<-hxs]
 refine(callsIn_wide (n:=8)).1 ?_
 refine callsIn_of_wp_marks Tryz.func65 rfl trivial ?_ rfl
 simp only [Tryz.ntmps65,List.size_toArray,List.length_cons,List.length_nil,Nat.reduceAdd,Nat.reduceSub,Array.replicate_succ,Array.replicate_zero,List.push_toArray,List.append_toArray,List.nil_append,List.cons_append]
 have hB0:Below w.heap.size w (w.alloc (.cells #[.slice none 0 0] 32)):=(Below.refl _ w).alloc (Nat.le_refl _) _
 have b0:=Boxed.new w 32 (.slice none 0 0)
 have hsz:(w.alloc (.cells #[.slice none 0 0] 32)).heap.size=w.heap.size+1:=by simp
 have hg0:=World.grownBy_alloc w (.cells #[.slice none 0 0] 32) none
 have HZ:=qh (hz.alloc (.cells #[.slice none 0 0] 32))
 have HY:=qh (hy.alloc (.cells #[.slice none 0 0] 32))
 have HM:=qh (hm.grown hg0 (by simp))
 have HZL:=qh hz.lt
 have HH:=qh hh
 have HXS:=qh hxs
 clear hz hy hm hh hxs hg0
 gi_wp2
 generalize World.alloc w _=W0 at hB0 b0 hsz HZ HY HM ⊢
 refine zem rfl (by decide) (gf:=67) (lb:= #[.pointer (some ⟨z,0,none⟩), .pointer (some ⟨y,0,none⟩)]) rfl trivial (enters_of Tryz.func67 (by kernel_rfl) rfl)
  (encs:=λx:zo=> #[.agg #[.int .i64 x.kind, .int .i64 x.thread, .int .i64 x.var]]) (Kp:=jT) (R:=λW=>Boxed W z 3 (.int .i64 t)/\Boxed W y 128 (.map (some b))/\yB W b ml) (z:=z) (xs:=xs)
  (λl J W hR hJ hY h0=>zo7 (8 - 1) l z y b t S ml xs HXS.out (by decide) J hJ hY W hR.1 hR.2.1 hR.2.2 HH.out h0)
  (by have:=HZL.out;omega) (λh k=>h.trans k) jT.record
  (λW hb=>⟨(hb.block _ HZ.out.lt).trans HZ.out,(hb.block _ HY.out.lt).trans HY.out,HM.out.below hb⟩) (λ_=>rfl)
  (Row (w.heap.size+1) w.heap.size z w)
  (λpre A C row hs hg hr=>hs.grown hg (by omega) (λe=>by have:=(hr _ e.symm).1;omega) (λk hk=> .inr ⟨by have:=(hr k hk).1;omega,(hr k hk).2⟩))
  (λpre A C row hs hg hr=>hs.grown hg (by omega) (λe=>by have:=hr _ e.symm;have:=HZL.out;omega) (λk hk=> .inl ⟨hr k hk,by have:=HZL.out;omega⟩))
  ⟨.slice none 0 0,b0,⟨rfl, .inl ⟨rfl,rfl⟩⟩,⟨hB0.os,hB0.tape,hB0.output,hB0.size,λk hk _=>hB0.block k hk⟩⟩
  (λx a' W=>∃Bx,w.heap.size+1<=Bx/\W.heap[Bx]? =some (.cells #[.int .i64 x.kind, .int .i64 x.thread, .int .i64 x.var] 70 (0,0))/\a'= { tmps:= #[.slice none 0 0, .func (.func 67) #[] #[.pointer (some ⟨z,0,none⟩), .pointer (some ⟨y,0,none⟩)], .pointer (some ⟨w.heap.size,0,none⟩),undef, .slice none 0 0, .pointer (some ⟨Bx,0,none⟩), .func (.func 67) #[] #[.pointer (some ⟨z,0,none⟩), .pointer (some ⟨y,0,none⟩)], .agg #[.int .i64 x.kind, .int .i64 x.thread, .int .i64 x.var],undef,undef,undef,undef,undef],defers:= [] })
  (λx a' _ X Y row hs hg hr=>by
   obtain⟨Bx,h1,h2,h3⟩:=hs
   refine⟨Bx,h1, ?_,h3⟩
   refine(hg.block Bx (zy h2) (λe=> ?_)).trans h2
   obtain⟨o,ho,hc⟩:=(hr Bx e.symm).2
   rw [h2] at ho;cases ho;cases hc)
  ?assign ?body ?done
 case assign=>
  rintro l2 pre x W K hrow hK
  gi_wp2
  have hl:=hrow
  obtain⟨sv,hb, -, -⟩:=hl
  have:=hb.lt
  exact hK _ _ ((KeepsOthers.alloc _ _).from _) (.grown (World.grownBy_alloc W _ none) (λk o e=>by cases e)) (hrow.ahead _ (by omega)) ⟨W.heap.size,by omega,zS W _,rfl⟩
 case body=>
  rintro l2 pre x a' W ⟨sv,hb,hown,zae⟩ ⟨Bx,hBx,bX,rfl⟩ hlen
  have d0:W.cell? ⟨Bx,0,none⟩=some (.int .i64 x.kind):=ze bX 0
  have d1:W.cell? ⟨Bx,1,none⟩=some (.int .i64 x.thread):=ze bX 1
  have d2:W.cell? ⟨Bx,2,none⟩=some (.int .i64 x.var):=ze bX 2
  have c1:=hb.cell
  have f1:=hb.frozen
  obtain⟨i0,hi0,hiz,his,hib⟩:=info_parts bG
  have HOWN:=qh hown
  have HB:=qh hb
  have HSI:=qh zae
  clear hown hb zae bX
  obtain⟨pl,hpl⟩:∃pl,pl=pre.length:=⟨_,rfl⟩
  have jZ:=qh hpl
  rw [<-hpl] at hlen
  clear hpl
  have hg2:=World.grownBy_alloc W (.cells #[.int .i64 x.kind, .int .i64 x.thread, .int .i64 x.var] 70) none
  have hq:=zS W (.cells #[.int .i64 x.kind, .int .i64 x.thread, .int .i64 x.var] 70)
  have zvG:Hid ((W.alloc (.cells #[.int .i64 x.kind, .int .i64 x.thread, .int .i64 x.var] 70)).ownsRow (w.heap.size+1) 70 3 sv pl (zq zo.cells pre)):=by
   rw [Hid,jZ.out]
   exact Since.row (F:=λ_=>False) ⟨hg2.os,hg2.tape,hg2.output,hg2.size,λk hk _=>hg2.block k hk (by simp)⟩ HOWN.out (λ_ _ h=>h)
  have HQ:=qh hq
  have HBS:=qh HB.out.lt
  clear hg2 hq
  gi_wp2_with (gi_at_builtin;refine wpListIn_append_own _ rfl (.tmp 8) (.tmp 10) 32 rfl (w.heap.size+1) 70 i0 (.agg #[.int .i64 0, .int .i64 0, .int .i64 0]) 3 24 Tryz.underlying32 hi0 hiz his hib (by rfl) (by decide) sv pl (zq zo.cells pre) (by rfl) zvG.out ⟨W.heap.size,0,none⟩ 1 1 [.int .i64 x.kind, .int .i64 x.thread, .int .i64 x.var] (by rfl) (by rfl) (λj u hu=>by rw [addr_add,ze HQ.out, <-hu];simp) (by simp [Value.oneCell']) (by unfold maxLen;omega) (by omega) (by have:=HBS.out;simp;omega) ?_;intro v' W3 e1 e2 e4;clear e4;obtain⟨ja,jc,rfl, -, -⟩:=xB e1;(have HV1:=qh e1);(have HV2:=qh e2);(have hb3:Boxed W3 w.heap.size 32 sv:=(HB.out.alloc _).kept e2 (zsC HOWN.out (Nat.lt_succ_self _)));(have c3:=hb3.cell);(have f3:=hb3.frozen);clear hb3 e1 e2)
  have hput:=Row.put (x:=x) (z:=z) (w:=w) (W2:=_) (v:= .slice ja (pl+1) jc) HB.out HOWN.out HSI.out (World.grownBy_alloc W (.cells #[.int .i64 x.kind, .int .i64 x.thread, .int .i64 x.var] 70) none) (by rw [<-jZ.out];exact HV1.out) HV2.out (Nat.le_refl _) (Nat.lt_succ_self _)
  exact⟨by rw [hsz];exact hput.1,hput.2⟩
 case done=>
 rintro D W hD hrow hK
 have hend:Row (w.heap.size+1) w.heap.size z w xs (W.putObj D (.deferred none)):=hrow.grown (grownBy_putObj' W D _) (by omega) (λe=>by cases e;omega) (λk e=>by cases e;exact .inr ⟨by omega,_,hK,rfl⟩)
 obtain⟨sv,hb, -, -⟩:=hrow
 obtain⟨sv2,hb2,hown,zae⟩:=hend
 have c2:=hb.cell
 have f2:=hb.frozen
 have c4:=hb2.cell
 have HO:=qh hown
 have HSI:=qh zae
 obtain rfl:sv2=sv:=by
  have:=(hb.kept (grownBy_putObj' W D (.deferred none)) (λe=>by cases e;omega)).cell
  rw [c4] at this;cases this;rfl
 clear hb hb2 hown zae c4
 gi_wp2
 refine⟨by simp, .inl ⟨_,_,rfl,run_takeDeferred hK, ?_⟩⟩
 refine⟨sv2, ?_,sv2,rfl,kK HO.out (by omega),HSI.out⟩
 simp [results,Tryz.f65,go_sem]
