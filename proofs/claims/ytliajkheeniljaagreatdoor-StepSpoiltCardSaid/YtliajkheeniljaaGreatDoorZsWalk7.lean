/- A state that is come to by moves, by numbers: the walk. What moves turn and what they leave: plain Lean. A state with one thing spoilt: what its stores leave. -/
import Derived.Test.YtliajkheeniljaaGreatDoorZsMade2
import Derived.Test.YtliajkheeniljaaGreatDoorZsMoves
import Derived.Test.YtliajkheeniljaaGreatDoorZsSmallW
import Derived.Test.YtliajkheeniljaaGreatDoorZsShort
set_option linter.all false
namespace Go.Proofs.YtliajkheeniljaaGreatDoor
open Go.RowKit
set_option maxRecDepth 100000
set_option maxHeartbeats 16000000
inductive zbQ (c:zX) (m:zK) (d:Nat):zu->Prop
 |start:zbQ c m d (jL c)
 |step {s:zu} {x:zM} :zbQ c m d s->x∈qO c m s d->zbQ c m d (vN c m s x d).1
theorem zbQ.zjr {c:zX} {m:zK} {d:Nat} {s:zu} (h:zbQ c m d s):zbY 33 s:=by
 cases h with
 |start=>exact zlj c
 |step _ _=>exact zuZ
theorem zbQ.len {c:zX} {m:zK} {d:Nat} {s:zu} (h:zbQ c m d s):s.mem.length=(jL c).mem.length/\s.threads.length=(jL c).threads.length:=by
 induction h with
 |start=>exact⟨rfl,rfl⟩
 |step _ hx ih=>exact⟨(zoy hx).1.trans ih.1,(zoy hx).2.trans ih.2⟩
def zkP (w:World) (c:zX) (m:zK) (d:Nat) (en:Ending) (w':World):Prop:=(∃s tv mv bs,en= .returned (yH s tv mv)/\zbQ c m d s/\OwnAt w.heap.size w' tv mv s.threads s.mem bs)/\Below w.heap.size w w'
def WF (w:World) (gs gr k:Nat):Prop:=k<w.heap.size\/k=gs\/k=gr
structure jY (w V X:World) (gs gr:Nat) (c:zX) (m:zK) (d:Nat) (s:zu) (tv mv:Value):Prop where
 since:Since (fun k=>k=gs) V X
 below:Below w.heap.size w V
 lo:w.heap.size<=gs/\w.heap.size<=gr/\gs≠gr
 box:X.heap[gs]? =some (.cells #[tv,mv, .bool s.bad] 30 (0,0))
 res:V.heap[gr]? =some (.cells #[.slice none 0 0, .slice none 0 0, .bool false] 30 (0,0))
 own:∃bs,OwnAt w.heap.size X tv mv s.threads s.mem bs/\∀k,k=gs\/k=gr->tv.ownBlock≠some k/\mv.ownBlock≠some k/\∀j,j<s.threads.length->(bs.getD j (.slice none 0 0)).ownBlock≠some k
 come:zbQ c m d s
section
variable {w V X Y:World} {gs gr d:Nat} {c:zX} {m:zK} {s:zu} {tv mv:Value}
theorem jY.st (h:jY w V X gs gr c m d s tv mv):yM (WF w gs gr) X (fun y=>zZ y s tv mv):=fun y hy=>by
 obtain⟨bs,ho,hn⟩:=h.own
 refine(ho.since hy (fun k hk e=> ?_) (fun k hk e=> ?_) (fun j hj k hk e=> ?_)).state s.bad
 ·rcases e with e|e
  ·have:=(ho.row.lt k hk).1;omega
  ·exact(hn k e).1 hk
 ·rcases e with e|e
  ·have:=(ho.mem.lt k hk).1;omega
  ·exact(hn k e).2.1 hk
 ·rcases e with e|e
  ·have:=((ho.buf j hj).lt k hk).1;omega
  ·exact(hn k e).2.2 j hj hk
theorem jY.all (h:jY w V X gs gr c m d s tv mv):Below w.heap.size w X:=h.below.trans (h.since.below h.below.size (fun k hk=>by have:=h.lo;omega))
theorem jY.res2 (h:jY w V X gs gr c m d s tv mv):X.heap[gr]? =some (.cells #[.slice none 0 0, .slice none 0 0, .bool false] 30 (0,0)):=(h.since.block _ (zw h.res) (fun e=>h.lo.2.2 e.symm)).trans h.res
theorem jY.later (h:jY w V X gs gr c m d s tv mv) (hb:Below X.heap.size X Y):jY w V Y gs gr c m d s tv mv:=
 ⟨h.since.trans (kQ (fun k=>k=gs) hb) (fun _ h=> .inl h),h.below,h.lo,(hb.block _ (zw h.box)).trans h.box,h.res,h.own.elim fun bs ⟨ho,hn⟩=>⟨bs,ho.below hb,hn⟩,h.come⟩
theorem jY.put {t:zu} {xa ya:Option Addr} {xn xc yn yc:Nat} {bs:List Value} (h:jY w V X gs gr c m d s tv mv) {x:zM} (hx:x∈qO c m s d) (ht:t=(vN c m s x d).1) (hb:Below X.heap.size X Y) (ho:OwnAt X.heap.size Y (.slice xa xn xc) (.slice ya yn yc) t.threads t.mem bs):
  jY w V (zU Y gs 0 [.slice xa xn xc, .slice ya yn yc, .bool t.bad]) gs gr c m d t (.slice xa xn xc) (.slice ya yn yc):=by
 have h2:=h.later hb
 have s1:=yP (g:=gs) [.slice xa xn xc, .slice ya yn yc, .bool t.bad] Y 0
 have hlo:=h.lo
 have hgx:=zw h.box
 have hgr:=zw h.res2
 have hw:=h.all.size
 refine⟨h2.since.trans s1 (fun k hk=> .inl hk),h.below,hlo,xG (cs:= [tv,mv, .bool s.bad]) _ rfl h2.box,h.res,⟨bs, ?_,fun k hk=>⟨fun e=> ?_,fun e=> ?_,fun j hj e=> ?_⟩⟩,by rw [ht];exact .step h.come hx⟩
 ·exact(ho.since s1 (fun k hk e=>by have:=(ho.row.lt k hk).1;omega) (fun k hk e=>by have:=(ho.mem.lt k hk).1;omega) (fun j hj k hk e=>by have:=((ho.buf j hj).lt k hk).1;omega)).lower hw
 ·have:=(ho.row.lt k e).1;omega
 ·have:=(ho.mem.lt k e).1;omega
 ·have:=((ho.buf j hj).lt k e).1;omega
theorem jY.fin (h:jY w V X gs gr c m d s tv mv):zkP w c m d (.returned (.agg #[tv,mv, .bool s.bad])) (zU X gr 0 [tv,mv, .bool s.bad])/\(zU X gr 0 [tv,mv, .bool s.bad]).heap[gr]? =some (.cells #[tv,mv, .bool s.bad] 30 (0,0)):=by
 have s1:=yP (g:=gr) [tv,mv, .bool s.bad] X 0
 have hlo:=h.lo
 obtain⟨bs,ho,hn⟩:=h.own
 exact⟨⟨⟨s,tv,mv,bs,rfl,h.come,ho.since s1 (fun k hk e=>(hn k (.inr e)).1 hk) (fun k hk e=>(hn k (.inr e)).2.1 hk) (fun j hj k hk e=>(hn k (.inr e)).2.2 j hj hk)⟩,h.all.trans (s1.below h.all.size (fun k hk=>by omega))⟩,xG (cs:= [.slice none 0 0, .slice none 0 0, .bool false]) _ rfl h.res2⟩
end
theorem zrS (w:World) (c:zX) (cv:Value) (d:Nat) (hc:yZ d w cv c.threads) (m:zK) (lv:Value) (l:List Int) (hn:jg w .u8 lv l):Calls Tryz.prog 23 #[yL c cv,yY m,lv] w (zkP w c m d):=by
 obtain⟨ca,cc,rfl, -⟩:=zk.slice hc
 obtain⟨la,lc,rfl,hll,hwf,hcell⟩:=hn
 obtain⟨C,hC⟩:∃C,C=c:=⟨_,rfl⟩
 obtain⟨M,hM⟩:∃M,M=m:=⟨_,rfl⟩
 have hstart:=fun W hc=>znV W c (.slice ca c.threads.length cc) d hc
 have wY:=fun W hc s sv mv hs hb=>zhj W c (.slice ca c.threads.length cc) d hc m s sv mv hs hb
 have hdo:=fun W hc s sv mv hs hb x=>zo0 W c (.slice ca c.threads.length cc) d hc m s sv mv hs hb x
 unfold yL at hstart wY hdo ⊢
 unfold yY at wY hdo ⊢
 rw [<-hC] at hc
 generalize c.vars=vars at hstart wY hdo ⊢
 generalize c.domain=dom at hstart wY hdo ⊢
 generalize m.model=mo at wY hdo ⊢
 generalize m.bound=bo at wY hdo ⊢
 rw [<-hC] at hstart wY hdo ⊢
 rw [<-hM] at wY hdo ⊢
 obtain⟨cn,hcn⟩:∃n,n=C.threads.length:=⟨_,rfl⟩
 obtain⟨ln,hln⟩:∃n,n=l.length:=⟨_,rfl⟩
 rw [<-hcn] at hc hstart wY hdo ⊢
 rw [<-hln] at hcell ⊢
 have hlr:∀i,i<ln->0<=l.getD i 0/\l.getD i 0<=255:=fun i hi=>by
  exact u8_in (hwf _ (vG (by omega)))
 obtain⟨hB,h1,h2,h3⟩:=zaL w (.cells #[.int .i64 vars, .int .i64 dom, .slice ca cn cc] 24) (.cells #[.int .i64 mo, .int .i64 bo] 26) (.cells #[.slice none 0 0, .slice none 0 0, .bool false] 30)
 have HB:=qh hB
 have H1:=qh h1
 have H2:=qh h2
 have H3:=qh h3
 have HC:=qh hc
 have HST:=qh (hstart _ (zk.below (xC.stays d) hc hB))
 have HMV:=qh wY
 have HDO:=qh hdo
 have z2M:=qh hcell
 have HLR:=qh hlr
 clear hB h1 h2 h3 hc hstart wY hdo hcell hlr hwf hC hM hcn hln hll
 go_enter Tryz.func23,Tryz.ntmps23
 go_upto_region 1 with fail
 generalize World.alloc (World.alloc (World.alloc w _) _) _=W at HB H1 H2 H3 HST ⊢
 obtain⟨gx,hgx⟩:∃gx,gx=w.heap.size:=⟨_,rfl⟩
 rw [<-hgx] at H1 H2 H3 ⊢
 have yS:=qh hgx
 clear hgx
 have c0:W.cell? ⟨gx,0,none⟩=some (.int .i64 vars):=zi H1.out 0
 have c1:W.cell? ⟨gx,1,none⟩=some (.int .i64 dom):=zi H1.out 1
 have c2:W.cell? ⟨gx,2,none⟩=some (.slice ca cn cc):=zi H1.out 2
 go_upto_region 2 with(go_at_call 19;go_must(refine HST.out.mono ?_);rintro en W1 ⟨⟨sv,yv,bs0,rfl,haw⟩,hb⟩;(have HAW:=qh haw);(have HB1:=qh (HB.out.trans (hb.mono HB.out.size)));(have HWW:=qh hb.size);(have K1:=qh ((hb.block _ (zw H1.out)).trans H1.out));(have K2:=qh ((hb.block _ (zw H2.out)).trans H2.out));(have K3:=qh ((hb.block _ (zw H3.out)).trans H3.out));(obtain⟨ta,tc,rfl, -⟩:=zk.slice (haw.state false).threads);(obtain⟨ma,mc,rfl, -⟩:=zk.slice (haw.state false).mem);clear hb haw c0 c1 c2;unfold yH)
 obtain⟨s0,hs0⟩:∃s,s=jL C:=⟨_,rfl⟩
 have zgd:zbQ C M d s0:=by rw [hs0];exact .start
 have haw:=HAW.out
 rw [<-hs0] at haw ⊢
 have hL:jY w (W1.alloc (.cells #[.slice ta s0.threads.length tc, .slice ma s0.mem.length mc, .bool s0.bad] 30)) (W1.alloc (.cells #[.slice ta s0.threads.length tc, .slice ma s0.mem.length mc, .bool s0.bad] 30)) W1.heap.size (gx+2) C M d s0 (.slice ta s0.threads.length tc) (.slice ma s0.mem.length mc):=by
  have h3:=zw H3.out
  have h4:=HB1.out.size
  have h5:=yS.out
  have h6:=HWW.out
  have h7:=HB.out.size
  refine⟨Since.refl _ _,HB1.out.alloc h4 _,⟨h4,by omega,by omega⟩,yD _ _,(Below.heap_alloc _ _ _ (zw K3.out)).trans K3.out, ?_,zgd⟩
  exact⟨bs0,(haw.lower h7).below ((Below.refl _ _).alloc (Nat.le_refl _) _),fun k hk=>⟨fun e=>by have:=haw.row.lt k e;omega,fun e=>by have:=haw.mem.lt k e;omega,fun j hj e=>by have:=(haw.buf j hj).lt k e;omega⟩⟩
 have K1':=qh ((Below.heap_alloc W1 (.cells #[.slice ta s0.threads.length tc, .slice ma s0.mem.length mc, .bool s0.bad] 30) _ (zw K1.out)).trans K1.out)
 have K2':=qh ((Below.heap_alloc W1 (.cells #[.slice ta s0.threads.length tc, .slice ma s0.mem.length mc, .bool s0.bad] 30) _ (zw K2.out)).trans K2.out)
 have hg1:gx≠W1.heap.size:=by have:=zw K1.out;omega
 have hg2:gx+1≠W1.heap.size:=by have:=zw K2.out;omega
 generalize World.alloc W1 _=V at hL K1' K2' ⊢
 generalize W1.heap.size=gs at hL hg1 hg2 ⊢
 have bT:=qh hL
 have HCK:Hid (∀X,Since (fun k=>k=gs) V X->X.cell? ⟨gx,0,none⟩=some (.int .i64 vars)/\X.cell? ⟨gx,1,none⟩=some (.int .i64 dom)/\X.cell? ⟨gx,2,none⟩=some (.slice ca cn cc)/\X.cell? ⟨gx+1,0,none⟩=some (.int .i64 mo)/\X.cell? ⟨gx+1,1,none⟩=some (.int .i64 bo)):=fun X hX=>by
  have h1:=(hX.block _ (zw K1'.out) hg1).trans K1'.out
  have h2:=(hX.block _ (zw K2'.out) hg2).trans K2'.out
  exact⟨zi h1 0,zi h1 1,zi h1 2,zi h2 0,zi h2 1⟩
 clear hL zgd haw HAW HB1 HWW K1 K2 K3 K1' K2' HST HB H1 H2 H3 hs0 hg1 hg2
 go_wp2_with fail
 go_loopg [8] (31) (fun gg s8 wr=>∃(i:Nat) (s:zu) (ta ma:Option Addr) (tn tc mn mc:Nat),i<=ln/\i<=30/\Hid (gg=31 - i)/\s8= .int .i64 i/\Hid (jY w V wr gs (gx+2) C M d s (.slice ta tn tc) (.slice ma mn mc)))
 case atStart=>exact⟨0,s0,ta,ma,_,tc,_,mc,Nat.zero_le _,by omega,rfl,rfl,bT.out⟩
 case round=>
  obtain⟨i,s,ta,ma,tn,tc,mn,mc,hi,zIu,HG,rfl,HL⟩:=hrel
  clear bT
  have b0:wr.cell? ⟨gs,0,none⟩=some (.slice ta tn tc):=zi HL.out.box 0
  have b1:wr.cell? ⟨gs,1,none⟩=some (.slice ma mn mc):=zi HL.out.box 1
  have b2:wr.cell? ⟨gs,2,none⟩=some (.bool s.bad):=zi HL.out.box 2
  by_cases hlt:i<ln/\i<30
  rotate_left
  ·have z2N:=HL.out.fin
   obtain⟨hend,hset⟩:=z2N
   have yj:=qh hend
   have zI:=qh hset
   have r0:=zi HL.out.res2 0
   have r1:=zi HL.out.res2 1
   have r2:=zi HL.out.res2 2
   have f0:=zB HL.out.res2 0
   have f1:=zB HL.out.res2 1
   have f2:=zB HL.out.res2 2
   clear hend hset
   by_cases hl1:i<ln
   ·obtain rfl:i=30:=by omega
    have zAB:((30:Nat):Int)<(ln:Int):=by omega
    have zIv:(30:Int)<(ln:Int):=by omega
    go_wp2_with fail
    refine bodyPost_ret (yV rfl _ _ (gx+2) 30 _ (0,0) _ rfl zI.out Tryz.underlying30 rfl zG) rfl ?_
    exact yj.out
   ·obtain rfl:ln=i:=by omega
    go_wp2_with fail
    refine bodyPost_ret (yV rfl _ _ (gx+2) 30 _ (0,0) _ rfl zI.out Tryz.underlying30 rfl zG) rfl ?_
    exact yj.out
  obtain⟨hl1,hl2⟩:=hlt
  have zAB:(i:Int)<(ln:Int):=by omega
  have zIw:(i:Int)<30:=by omega
  obtain⟨c0,c1,c2,e0,e1⟩:=HCK.out wr HL.out.since
  have hmv:=HMV.out wr (zk.below (xC.stays d) HC.out HL.out.all) s _ _ HL.out.st.now (fun j hj=>by have:=HL.out.come.zjr j hj;omega)
  have hst:=HL.out.st.now
  have htn:s.threads.length=tn:=by obtain⟨a,c,e, -⟩:=zk.slice hst.threads;cases e;rfl
  have hmn:s.mem.length=mn:=by obtain⟨a,c,e, -⟩:=zk.slice hst.mem;cases e;rfl
  unfold yH at hmv
  obtain⟨bd,hbd⟩:∃b,b=s.bad:=⟨_,rfl⟩
  rw [<-hbd] at b2 hmv
  have uq:=qh hbd
  have zyp:=qh hmv
  clear hmv hst htn hmn hbd
  go_upto_region 6 with(go_at_call 36;go_must(refine zyp.out.mono ?_);rintro en W2 ⟨⟨va,vc,rfl,hro⟩,hb⟩;(have HRO:=qh hro);(have HL2:=qh (HL.out.later hb));(have vw:=qh (zF HL.out.all hb));clear hro hb b0 b1 b2 c0 c1 c2 e0 e1)
  obtain⟨ms,hms⟩:∃ms,ms=qO C M s d:=⟨_,rfl⟩
  have hro:=HRO.out
  rw [<-hms] at hro ⊢
  have zmR:j3 W2 (.slice va ms.length vc) ms:=zcy hro
  have HMS:=qh hms
  have zAC:=qh zmR
  obtain⟨mq,hmq⟩:∃n,n=ms.length:=⟨_,rfl⟩
  rw [<-hmq] at zmR ⊢
  have HMQ:=qh hmq
  have zIx:mq<=9223372036854775807:=by obtain⟨a,cap,e,h, -⟩:=zmR;omega
  clear hms hro zmR hmq HRO zyp
  by_cases h0:mq=0
  ·subst h0
   have z0:W2.cell? ⟨gs,0,none⟩=some (.slice ta tn tc):=zi HL2.out.box 0
   have z1:W2.cell? ⟨gs,1,none⟩=some (.slice ma mn mc):=zi HL2.out.box 1
   have z2:W2.cell? ⟨gs,2,none⟩=some (.bool s.bad):=zi HL2.out.box 2
   have r0:=zi HL2.out.res2 0
   have r1:=zi HL2.out.res2 1
   have r2:=zi HL2.out.res2 2
   have f0:=zB HL2.out.res2 0
   have f1:=zB HL2.out.res2 1
   have f2:=zB HL2.out.res2 2
   obtain⟨hend,hset⟩:=HL2.out.fin
   have yj:=qh hend
   have zI:=qh hset
   clear hend hset
   go_wp2_with fail
   refine bodyPost_ret (yV rfl _ _ (gx+2) 30 _ (0,0) _ rfl zI.out Tryz.underlying30 rfl zG) rfl ?_
   exact yj.out
  have h0I:((mq:Int)==0)=false:=by rw [beq_eq_false_iff_ne];omega
  have hq0:(0:Int)<(mq:Int):=by omega
  have HQ0:=qh h0
  clear h0
  obtain⟨lb,lo,hla,hlb,hlx⟩:=z2M.out i hl1
  subst hla
  obtain⟨lr1,lr2⟩:=HLR.out i hl1
  generalize l.getD i 0=x at hlx lr1 lr2
  obtain⟨r,hr⟩:∃r:Nat,x % (mq:Int)=(r:Int):=⟨(x % (mq:Int)).toNat,by have:=Int.emod_nonneg x (show(mq:Int)≠0 by omega);omega⟩
  have hrq:r<mq:=by have:=Int.emod_lt_of_pos x hq0;omega
  have zIy:(r:Int)<(mq:Int):=by omega
  obtain⟨mb,mof,hva, -,g0,g1,g2⟩:=j3.part zAC.out r (by rw [<-HMQ.out];exact hrq)
  subst hva
  have hmem:ms.getD r default∈ms:=vG (by rw [<-HMQ.out];exact hrq)
  generalize ms.getD r default=mx at g0 g1 g2 hmem
  have hdo:=fun y (hy:Below W2.heap.size W2 y)=>HDO.out y (zk.below (xC.stays d) HC.out (zF vw.out hy)) s _ _ (HL2.out.later hy).st.now (fun j hj=>by have:=HL2.out.come.zjr j hj;omega) mx
  unfold yH zaR at hdo
  rw [<-uq.out] at hdo
  have zys:=qh hdo
  have zbk:=qh hmem
  obtain⟨c0,c1,c2,e0,e1⟩:=HCK.out W2 HL2.out.since
  have CC:Hid (∀y,Below W2.heap.size W2 y->y.cell? ⟨gx,0,none⟩=some (.int .i64 vars)/\y.cell? ⟨gx,1,none⟩=some (.int .i64 dom)/\y.cell? ⟨gx,2,none⟩=some (.slice ca cn cc)/\y.cell? ⟨gx+1,0,none⟩=some (.int .i64 mo)/\y.cell? ⟨gx+1,1,none⟩=some (.int .i64 bo)/\y.cell? ⟨gs,0,none⟩=some (.slice ta tn tc)/\y.cell? ⟨gs,1,none⟩=some (.slice ma mn mc)/\y.cell? ⟨gs,2,none⟩=some (.bool bd)/\
   y.cell? ⟨lb,lo+i,none⟩=some (.int .u8 x)/\y.cell? ⟨mb,mof+r*3,none⟩=some (.int .i64 mx.kind)/\y.cell? ⟨mb,mof+r*3+1,none⟩=some (.int .i64 mx.thread)/\y.cell? ⟨mb,mof+r*3+2,none⟩=some (.int .i64 mx.var)):=fun y hy=>by
   refine⟨zl hy _ _ c0,zl hy _ _ c1,zl hy _ _ c2,zl hy _ _ e0,zl hy _ _ e1,zl hy _ _ (zi HL2.out.box 0),zl hy _ _ (zi HL2.out.box 1),zl hy _ _ ?_,(vw.out.trans (hy.mono vw.out.size)).cell (p:=⟨lb,lo+i,none⟩) hlb ▸ hlx,zl hy _ _ g0,zl hy _ _ g1,zl hy _ _ g2⟩
   rw [uq.out];exact zi HL2.out.box 2
  have htm:x.tmod (mq:Int)=(r:Int):=by rw [Int.tmod_eq_emod_of_nonneg lr1];exact hr
  have hwx:=wrap_u8 lr1 lr2
  have zIz:¬mq=0:=HQ0.out
  clear hdo hmem c0 c1 c2 e0 e1 g0 g1 g2 hlx hr
  go_upto_region 8 with fail
  refine wp_region_noPanic ?_
  refine yT (n0:=18) (S:=fun x=>Below W2.heap.size W2 x) (by kernel_rfl) (Below.refl _ _).drew (fun _=> ?_)
  obtain⟨V1,hV1⟩:∃V1,V1=W2.drew:=⟨_,rfl⟩
  have hT0:Hid (Below W2.heap.size W2 V1):=by rw [hV1];exact(Below.refl _ _).drew
  have zAD:=hT0
  rw [<-hV1]
  clear hV1
  refine vD [14,15,16,17,18] 0 31 ?vz1 rfl ?zrT (hT0.out) ?_
  case zrT=>(intro x h;have e:=CC.out x h;go_simp<;>rfl)
  simp only [Act.put,za,ze,zh]
  refine vD [14,15,16,17,18] 1 32 ?vz2 rfl ?zrU (hT0.out) ?_
  case zrU=>(intro x h;have e:=CC.out x h;go_simp<;>rfl)
  simp only [Act.put,za,ze,zh]
  refine vD [14,15,16,17,18] 2 33 ?vz3 rfl ?zrV (hT0.out) ?_
  case zrV=>(intro x h;have e:=CC.out x h;go_simp<;>rfl)
  simp only [Act.put,za,ze,zh]
  refine zO 3 34 ?vz4 rfl ?zrW (fun _=>hT0.out) ?_
  case zrW=>(intro _ _;go_simp<;>rfl)
  simp only [Act.put,za,ze,zh]
  refine zO 4 35 ?vz5 rfl ?zrX (fun _=>hT0.out) ?_
  case zrX=>(intro _ _;go_simp<;>rfl)
  simp only [Act.put,za,ze,zh]
  refine zO 5 36 ?vz6 rfl ?zrY (fun _=>hT0.out) ?_
  case zrY=>(intro _ _;go_simp<;>rfl)
  simp only [Act.put,za,ze,zh]
  refine zO 6 37 ?vz7 rfl ?zrZ (fun _=>hT0.out) ?_
  case zrZ=>(intro _ _;go_simp<;>rfl)
  simp only [Act.put,za,ze,zh]
  refine vD [8,11,12,13,14,15,16,17,18] 7 38 ?vz8 rfl ?zsa (hT0.out) ?_
  case zsa=>(intro x h;have e:=CC.out x h;go_simp<;>rfl)
  simp only [Act.put,za,ze,zh]
  refine zO 8 39 ?vz9 rfl ?zsb (fun _=>hT0.out) ?_
  case zsb=>(intro _ _;go_simp<;>rfl)
  simp only [Act.put,za,ze,zh]
  refine zO 9 40 ?zAE rfl ?zmS (fun _=>hT0.out) ?_
  case zmS=>(intro _ _;go_simp<;>rfl)
  simp only [Act.put,za,ze,zh]
  refine zO 10 41 ?zAF rfl ?zmT (fun _=>hT0.out) ?_
  case zmT=>(intro _ _;go_simp<;>rfl)
  simp only [Act.put,za,ze,zh]
  refine zO 11 42 ?zI0 rfl ?z2O (fun _=>hT0.out) ?_
  case z2O=>(intro _ _;go_simp<;>rfl)
  simp only [Act.put,za,ze,zh]
  refine zO 12 43 ?zI1 rfl ?z2P (fun _=>hT0.out) ?_
  case z2P=>(intro _ _;go_simp<;>rfl)
  simp only [Act.put,za,ze,zh]
  refine vD [14,15,16,17,18] 13 44 ?zI2 rfl ?z2Q (hT0.out) ?_
  case z2Q=>(intro x h;have e:=CC.out x h;go_simp<;>rfl)
  simp only [Act.put,za,ze,zh]
  refine jB 14 rfl (fun K hK=> ?_)
  go_simp
  refine(zys.out V1 hT0.out).mono ?_
  rintro en Y ⟨⟨xa,xn,xc,ya,yn,yc,bs,rfl,hown⟩,hb⟩
  have HOWN:=qh hown
  have bB:=qh hb
  have hT1:=qh (zF hT0.out hb)
  clear hown hb
  unfold yH
  refine hK.out _ _ (fun _ _=>hT1.out) ?_
  clear hK K
  refine zO 15 30 ?zI3 rfl ?z2R (fun _=>hT1.out) ?_
  case z2R=>(intro _ _;go_simp<;>rfl)
  simp only [Act.put,za,ze,zh]
  refine zO 16 46 ?zI4 rfl ?z2S (fun _=>hT1.out) ?_
  case z2S=>(intro _ _;go_simp<;>rfl)
  simp only [Act.put,za,ze,zh]
  refine zO 17 47 ?zI5 rfl ?z2T (fun _=>hT1.out) ?_
  case z2T=>(intro _ _;go_simp<;>rfl)
  simp only [Act.put,za,ze,zh]
  refine jB 18 rfl (fun K hK=> ?_)
  obtain⟨-, -, -, -, -,u0,u1,u2, -, -, -, -⟩:=CC.out Y hT1.out
  have hbx:=(hT1.out.block _ (zw HL2.out.box)).trans HL2.out.box
  have f0:=zB hbx 0
  have f1:=zB hbx 1
  have f2:=zB hbx 2
  go_simp
  refine hK.out _ _ (fun h=>absurd rfl h) ?_
  clear u0 u1 u2 f0 f1 f2 hbx
  have hT2:=hT1
  clear hK K
  refine xM (by kernel_rfl) ?_ _
  refine NoPanic.normal ?_
  have hput:=(HL2.out.later zAD.out).put (t:=(vN C M s mx d).1) (by rw [<-HMS.out];exact zbk.out) rfl bB.out HOWN.out
  have bG:=qh hput
  clear hput HOWN bB zys CC
  go_wp2_with fail
  go_roundg (31 - (i+1))
  case measure=>rw [HG.out];omega
  case rel=>exact⟨i+1,_,xa,ya,xn,xc,yn,yc,by omega,by omega,rfl,by simp,bG.out⟩
end Go.Proofs.YtliajkheeniljaaGreatDoor
namespace Go.Proofs.YtliajkheeniljaaGreatDoor
open Go.RowKit
set_option maxRecDepth 100000
set_option maxHeartbeats 16000000
theorem zsc {c:zX} {m:zK} {s:zu} {d:Nat} {x:zM} (h:x∈qO c m s d):(vN c m s x d).2=0:=by
 obtain⟨i, -,⟨rfl,t, -,e⟩|⟨v,rfl, -,e⟩⟩:=ziR h<;>rw [e]
end Go.Proofs.YtliajkheeniljaaGreatDoor
namespace Go.Proofs.YtliajkheeniljaaGreatDoor
open Go.RowKit
set_option maxRecDepth 100000
set_option maxHeartbeats 16000000
theorem xW.grow {W X X1:World} {gb tb n tc:Nat} {mv:Value} {bad:Bool} {ts:List zx} {mem:List Int} {bs:List Value} (h:xW W X gb (.slice (some ⟨tb,0,none⟩) n tc) mv bad ts mem bs) {i:Nat} (hi:i<ts.length) {t:zx} {b:Value} {o:Obj}
  (hc:t.cells b=((ts.getD i default).cells (bs.getD i (.slice none 0 0))).set 5 b) (hr:t.regs.length=4) (hb:X1.ownsRow W.heap.size 50 2 b t.buf.length (zq zm.cells t.buf))
  (hs:Since (fun k=>(bs.getD i (.slice none 0 0)).ownBlock=some k) (X.alloc o) X1) (hl:∀k,b.ownBlock=some k->(bs.getD i (.slice none 0 0)).ownBlock=some k\/k=(X.alloc o).heap.size):
  xW W (X1.setCell ⟨tb,i*6+5,none⟩ b) gb (.slice (some ⟨tb,0,none⟩) n tc) mv bad (ts.set i t) mem (bs.set i b):=by
 have hsz:(X.alloc o).heap.size=X.heap.size+1:=by simp
 have hs0:Since (fun k=>(bs.getD i (.slice none 0 0)).ownBlock=some k) X X1:=((Since.refl _ X).alloc o).trans hs (fun _ hk=> .inl hk)
 obtain⟨⟨h1,h2,h3,h4,h5,h6,h7,h14⟩,h8,h9,h10,h11,h12,pV⟩:=h
 have hnn:n=ts.length:=by
  rcases h1.2 with⟨e, -⟩|⟨g,cap,cur,e, -⟩
  ·cases e
  ·cases e;rfl
 subst hnn
 have hS:Since (fun x=>x=tb) X1 (X1.setCell ⟨tb,i*6+5,none⟩ b):=Since.setCell (F:=fun x=>x=tb) (p:=⟨tb,i*6+5,none⟩) (Since.refl _ _) (.inl rfl) _
 have htb:W.heap.size<=tb:=(h1.lt tb rfl).1
 have hgb:gb≠tb:=fun e=>h11 (by rw [e];rfl)
 have hbt:∀j,j<ts.length->∀k,(bs.getD j (.slice none 0 0)).ownBlock=some k->k≠tb:=fun j hj k hk e=>(h6 j hj k hk).1 (by rw [e];rfl)
 have hnew:∀k,b.ownBlock=some k->k≠tb/\mv.ownBlock≠some k/\k≠gb/\∀j,j<ts.length->j≠i->(bs.getD j (.slice none 0 0)).ownBlock≠some k:=fun k hk=>by
  rcases hl k hk with e|e
  ·exact⟨hbt i hi k e,(h6 i hi k e).2,fun e2=>pV i hi (e2 ▸ e),fun j hj hji=>h14 i j hi hj (fun e2=>hji e2.symm) k e⟩
  ·refine⟨fun e2=> ?_,fun e2=> ?_,fun e2=> ?_,fun j hj _ e2=> ?_⟩
   ·have:=(h1.lt tb rfl).2;omega
   ·have:=(h2.lt k e2).2;omega
   ·have:=zw h8;omega
   ·have:=((h5 j hj).lt k e2).2;omega
 refine⟨⟨?_, ?_, ?_, ?_, ?_, ?_,h7, ?_⟩, ?_, ?_,h10,h11,h12, ?_⟩
 ·rw [List.length_set,jh hi h4 (by omega) hc];exact wG (hs0.row h1 (fun k hk e=>(h6 i hi k e).1 hk)) b
 ·exact hS.row (hs0.row h2 (fun k hk e=>(h6 i hi k e).2 hk)) (fun k hk e=>h7 tb rfl (e ▸ hk))
 ·intro j hj;rw [List.length_set] at hj;rw [xE hj];split
  ·exact hr
  ·exact h3 j hj
 ·rw [List.length_set,List.length_set];exact h4
 ·intro j hj;rw [List.length_set] at hj;rw [xE hj,xE (by omega)];split
  ·exact hS.row hb (fun k hk=>(hnew k hk).1)
  ·exact hS.row (hs0.row (h5 j hj) (fun k hk e=>h14 i j hi hj (by omega) k e hk)) (hbt j hj)
 ·intro j hj k hk;rw [List.length_set] at hj;rw [xE (by omega)] at hk;split at hk
  ·exact⟨fun e=>(hnew k hk).1 (by simpa [Value.ownBlock] using e.symm),(hnew k hk).2.1⟩
  ·exact h6 j hj k hk
 ·intro x y hx hy hxy k hk
  rw [List.length_set] at hx hy
  rw [xE (by omega)] at hk
  rw [xE (by omega)]
  split at hk
  ·rw [if_neg (by omega)]
   exact(hnew k hk).2.2.2 y hy (by omega)
  ·split
   ·intro e;exact(hnew k e).2.2.2 x hx (by omega) hk
   ·exact h14 x y hx hy hxy k hk
 ·exact(hS.block _ (Nat.lt_of_lt_of_le (zw h8) hs0.size) hgb).trans ((hs0.block _ (zw h8) (fun e=>pV i hi e)).trans h8)
 ·exact(h9.trans (hs0.below h9.size (fun k hk=>((h5 i hi).lt k hk).1))).trans (hS.below (Nat.le_trans h9.size hs0.size) (fun x e=>by omega))
 ·intro j hj;rw [List.length_set] at hj;rw [xE (by omega)];split
  ·exact fun e=>(hnew gb e).2.2.1 rfl
  ·exact pV j hj
structure zjs (V0:World) (gx gs:Nat) (cs:Array Value) (X:World) (m:zK) (s:zu) (tv mv:Value):Prop where
 below:Below V0.heap.size V0 X
 code:X.heap[gx]? =some (.cells cs 24 (0,0))
 zsd:X.heap[gx+1]? =some (.cells #[.int .i64 m.model, .int .i64 m.bound] 26 (0,0))
 box:X.heap[gs]? =some (.cells #[tv,mv, .bool s.bad] 30 (0,0))
 st:zZ X s tv mv
 zjr:∀j,j<s.threads.length->(s.threads.getD j default).buf.length<=100000
theorem wZ {V0 V X:World} {gx gs:Nat} {cs:Array Value} {m:zK} {tv mv:Value} {bad:Bool} {ts:List zx} {mem:List Int} {bs:List Value} (h:xW V X gs tv mv bad ts mem bs) (hv:Below V0.heap.size V0 V) (h1:V.heap[gx]? =some (.cells cs 24 (0,0)))
  (h2:V.heap[gx+1]? =some (.cells #[.int .i64 m.model, .int .i64 m.bound] 26 (0,0))) (hb:∀j,j<ts.length->(ts.getD j default).buf.length<=100000):zjs V0 gx gs cs X m ⟨ts,mem,bad⟩ tv mv:=
 ⟨hv.trans (h.below.mono hv.size),(h.below.block _ (zw h1)).trans h1,(h.below.block _ (zw h2)).trans h2,h.box,h.own.state bad,hb⟩
theorem ze8 {V0 V X:World} {gx gs:Nat} {cs:Array Value} {m m':zK} {tv mv:Value} {bad:Bool} {ts:List zx} {mem:List Int} {bs:List Value} (h:xW V X gs tv mv bad ts mem bs) (hv:Below V0.heap.size V0 V) (h1:V.heap[gx]? =some (.cells cs 24 (0,0)))
  (h2:V.heap[gx+1]? =some (.cells #[.int .i64 m.model, .int .i64 m.bound] 26 (0,0))) (hb:∀j,j<ts.length->(ts.getD j default).buf.length<=100000) (hg:V0.heap.size<=gx) (j:Nat) (u:Value)
  (hm: [Value.int .i64 m'.model, .int .i64 m'.bound] = [Value.int .i64 m.model, .int .i64 m.bound].set j u):zjs V0 gx gs cs (X.setCell ⟨gx+1,j,none⟩ u) m' ⟨ts,mem,bad⟩ tv mv:=by
 have h0:=wZ h hv h1 h2 hb
 have hl:=zw h2
 have hlo:=h.lo
 have hS:Since (fun x=>x=gx+1) X (X.setCell ⟨gx+1,j,none⟩ u):=Since.setCell (F:=fun x=>x=gx+1) (p:=⟨gx+1,j,none⟩) (Since.refl _ _) (.inl rfl) _
 refine⟨h0.below.trans (hS.below h0.below.size (fun k hk=>by omega)),(hS.block _ (zw h0.code) (by omega)).trans h0.code, ?_,(hS.block _ (zw h0.box) (by omega)).trans h0.box, ?_,hb⟩
 ·have:=zA h0.zsd j u
  rw [show(#[Value.int .i64 m.model, .int .i64 m.bound].setIfInBounds j u)=([Value.int .i64 m.model, .int .i64 m.bound].set j u).toArray by simp, <-hm] at this
  exact this
 ·exact(h.own.since hS (fun k hk e=>by have:=(h.own.row.lt k hk).1;omega) (fun k hk e=>by have:=(h.own.mem.lt k hk).1;omega) (fun i hi k hk e=>by have:=((h.own.buf i hi).lt k hk).1;omega)).state bad
theorem zcG {ts:List zx} {j:Nat} {t:zx} (h:∀i,i<ts.length->(ts.getD i default).buf.length<=100000) (ht:t.buf.length<=100000):∀i,i<(ts.set j t).length->((ts.set j t).getD i default).buf.length<=100000:=fun i hi=>by
 rw [List.length_set] at hi
 rw [xE hi]
 split
 ·exact ht
 ·exact h i hi
theorem zpo {ts:List zx} {t:zx} (h:∀i,i<ts.length->(ts.getD i default).buf.length<=100000) (ht:t.buf.length<=100000):∀i,i<(ts++ [t]).length->((ts++ [t]).getD i default).buf.length<=100000:=fun i hi=>by
 rw [List.length_append,List.length_singleton] at hi
 rw [jN hi]
 split
 ·exact ht
 ·exact h i (by omega)
end Go.Proofs.YtliajkheeniljaaGreatDoor
