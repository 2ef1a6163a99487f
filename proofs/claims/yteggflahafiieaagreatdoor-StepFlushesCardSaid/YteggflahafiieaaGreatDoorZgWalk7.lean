/- Steps. -/
import Derived.Test.YteggflahafiieaaGreatDoorZgFitsK
import Derived.Test.YteggflahafiieaaGreatDoorZgPMoves
set_option linter.all false
namespace Go.Proofs.YteggflahafiieaaGreatDoor
open Go.RowKit
set_option maxRecDepth 100000
set_option maxHeartbeats 16000000
inductive zbG (c:zK) (m:zF) (d:Nat):zm->Prop
 |start:zbG c m d (uJ c)
 |step {s:zm} {x:zN} :zbG c m d s->x∈qM c m s d->zbG c m d (ji c m s x d).1
theorem zbG.zpX {c:zK} {m:zF} {d:Nat} {s:zm} (h:zbG c m d s):zbW 33 s:=by
 cases h with
 |start=>exact zpY c
 |step _ _=>exact zxx
def zen (w:World) (c:zK) (m:zF) (d:Nat) (en:Ending) (w':World):Prop:=(∃s tv mv bs,en= .returned (yR s tv mv)/\zbG c m d s/\OwnAt w.heap.size w' tv mv s.threads s.mem bs)/\Below w.heap.size w w'
def zpe (w:World) (c:zK) (m:zF) (d:Nat) (en:Ending) (w':World):Prop:=(∃s tv mv,en= .returned (yR s tv mv)/\zbG c m d s/\yK (λk=>k<w.heap.size) w' (λy=>yh y s tv mv))/\Below w.heap.size w w'
def WF (w:World) (gs gr k:Nat):Prop:=k<w.heap.size\/k=gs\/k=gr
structure kG (w V X:World) (gs gr:Nat) (c:zK) (m:zF) (d:Nat) (s:zm) (tv mv:Value):Prop where
 since:Since (λk=>k=gs) V X
 below:Below w.heap.size w V
 lo:w.heap.size<=gs/\w.heap.size<=gr/\gs≠gr
 box:X.heap[gs]? =some (.cells #[tv,mv, .bool s.bad] 35 (0,0))
 res:V.heap[gr]? =some (.cells #[.slice none 0 0, .slice none 0 0, .bool false] 35 (0,0))
 own:∃bs,OwnAt w.heap.size X tv mv s.threads s.mem bs/\∀k,k=gs\/k=gr->tv.ownBlock≠some k/\mv.ownBlock≠some k/\∀j,j<s.threads.length->(bs.getD j (.slice none 0 0)).ownBlock≠some k
 come:zbG c m d s
section
variable {w V X Y:World} {gs gr d:Nat} {c:zK} {m:zF} {s:zm} {tv mv:Value}
theorem kG.st (h:kG w V X gs gr c m d s tv mv):yK (WF w gs gr) X (λy=>yh y s tv mv):=λy hy=>by
 obtain⟨bs,ho,hn⟩:=h.own
 refine(ho.since hy (λk hk e=> ?_) (λk hk e=> ?_) (λj hj k hk e=> ?_)).state s.bad
 ·rcases e with e|e
  ·have:=(ho.row.lt k hk).1;omega
  exact(hn k e).1 hk
 ·rcases e with e|e
  ·have:=(ho.mem.lt k hk).1;omega
  exact(hn k e).2.1 hk
 rcases e with e|e
 ·have:=((ho.buf j hj).lt k hk).1;omega
 exact(hn k e).2.2 j hj hk
theorem kG.all (h:kG w V X gs gr c m d s tv mv):Below w.heap.size w X:=h.below.trans (h.since.below h.below.size (λk hk=>by have:=h.lo;omega))
theorem kG.res2 (h:kG w V X gs gr c m d s tv mv):X.heap[gr]? =some (.cells #[.slice none 0 0, .slice none 0 0, .bool false] 35 (0,0)):=(h.since.block _ (zq h.res) (λe=>h.lo.2.2 e.symm)).trans h.res
theorem kG.later (h:kG w V X gs gr c m d s tv mv) (hb:Below X.heap.size X Y):kG w V Y gs gr c m d s tv mv:=
 ⟨h.since.trans (wm (λk=>k=gs) hb) (λ_ h=> .inl h),h.below,h.lo,(hb.block _ (zq h.box)).trans h.box,h.res,h.own.elim λbs ⟨ho,hn⟩=>⟨bs,ho.below hb,hn⟩,h.come⟩
theorem kG.put {t:zm} {xa ya:Option Addr} {xn xc yn yc:Nat} {bs:List Value} (h:kG w V X gs gr c m d s tv mv) {x:zN} (hx:x∈qM c m s d) (ht:t=(ji c m s x d).1) (hb:Below X.heap.size X Y) (ho:OwnAt X.heap.size Y (.slice xa xn xc) (.slice ya yn yc) t.threads t.mem bs):
  kG w V (zY Y gs 0 [.slice xa xn xc, .slice ya yn yc, .bool t.bad]) gs gr c m d t (.slice xa xn xc) (.slice ya yn yc):=by
 have h2:=h.later hb
 have s1:=yX (g:=gs) [.slice xa xn xc, .slice ya yn yc, .bool t.bad] Y 0
 have hlo:=h.lo
 have hgx:=zq h.box
 have hgr:=zq h.res2
 have hw:=h.all.size
 refine⟨h2.since.trans s1 (λk hk=> .inl hk),h.below,hlo,xS (cs:= [tv,mv, .bool s.bad]) _ rfl h2.box,h.res,⟨bs, ?_,λk hk=>⟨λe=> ?_,λe=> ?_,λj hj e=> ?_⟩⟩,by rw [ht];exact .step h.come hx⟩
 ·exact(ho.since s1 (λk hk e=>by have:=(ho.row.lt k hk).1;omega) (λk hk e=>by have:=(ho.mem.lt k hk).1;omega) (λj hj k hk e=>by have:=((ho.buf j hj).lt k hk).1;omega)).lower hw
 ·have:=(ho.row.lt k e).1;omega
 ·have:=(ho.mem.lt k e).1;omega
 have:=((ho.buf j hj).lt k e).1;omega
theorem kG.fin (h:kG w V X gs gr c m d s tv mv):zen w c m d (.returned (.agg #[tv,mv, .bool s.bad])) (zY X gr 0 [tv,mv, .bool s.bad])/\(zY X gr 0 [tv,mv, .bool s.bad]).heap[gr]? =some (.cells #[tv,mv, .bool s.bad] 35 (0,0)):=by
 have s1:=yX (g:=gr) [tv,mv, .bool s.bad] X 0
 have hlo:=h.lo
 obtain⟨bs,ho,hn⟩:=h.own
 exact⟨⟨⟨s,tv,mv,bs,rfl,h.come,ho.since s1 (λk hk e=>(hn k (.inr e)).1 hk) (λk hk e=>(hn k (.inr e)).2.1 hk) (λj hj k hk e=>(hn k (.inr e)).2.2 j hj hk)⟩,h.all.trans (s1.below h.all.size (λk hk=>by omega))⟩,xS (cs:= [.slice none 0 0, .slice none 0 0, .bool false]) _ rfl h.res2⟩
end
theorem zu4 (w:World) (c:zK) (cv:Value) (d:Nat) (hc:yZ d w cv c.threads) (m:zF) (lv:Value) (l:List Int) (hn:vY w .u8 lv l):Calls Tryz.prog 12 #[yT c cv,xD m,lv] w (zen w c m d):=by
 obtain⟨ca,cc,rfl, -⟩:=ze.slice hc
 obtain⟨la,lc,rfl,hll,hwf,hcell⟩:=hn
 obtain⟨C,hC⟩:∃C,C=c:=⟨_,rfl⟩
 obtain⟨M,hM⟩:∃M,M=m:=⟨_,rfl⟩
 have hstart:=λW hc=>zrD W c (.slice ca c.threads.length cc) d hc
 have gG:=λW hc s sv mv hs hb=>zrF W c (.slice ca c.threads.length cc) d hc m s sv mv hs hb
 have hdo:=λW hc s sv mv hs hb x=>zyK W c (.slice ca c.threads.length cc) d hc m s sv mv hs hb x
 unfold yT at hstart gG hdo ⊢
 unfold xD at gG hdo ⊢
 rw [<-hC] at hc
 generalize c.vars=vars at hstart gG hdo ⊢
 generalize c.domain=dom at hstart gG hdo ⊢
 generalize m.model=mo at gG hdo ⊢
 generalize m.bound=bo at gG hdo ⊢
 rw [<-hC] at hstart gG hdo ⊢
 rw [<-hM] at gG hdo ⊢
 obtain⟨cn,hcn⟩:∃n,n=C.threads.length:=⟨_,rfl⟩
 obtain⟨ln,hln⟩:∃n,n=l.length:=⟨_,rfl⟩
 rw [<-hcn] at hc hstart gG hdo ⊢
 rw [<-hln] at hcell ⊢
 have hlr:∀i,i<ln->0<=l.getD i 0/\l.getD i 0<=255:=λi hi=>by
  exact u8_in (hwf _ (qP (by omega)))
 obtain⟨hB,h1,h2,h3⟩:=za8 w (.cells #[.int .i64 vars, .int .i64 dom, .slice ca cn cc] 26) (.cells #[.int .i64 mo, .int .i64 bo] 31) (.cells #[.slice none 0 0, .slice none 0 0, .bool false] 35)
 have HB:=qh hB
 have H1:=qh h1
 have H2:=qh h2
 have H3:=qh h3
 have HC:=qh hc
 have HST:=qh (hstart _ (ze.below (xK.stays d) hc hB))
 have HMV:=qh gG
 have HDO:=qh hdo
 have z1B:=qh hcell
 have HLR:=qh hlr
 clear hB h1 h2 h3 hc hstart gG hdo hcell hlr hwf hC hM hcn hln hll
 go_enter Tryz.func12,Tryz.ntmps12
 go_upto_region 1 with fail
 generalize World.alloc (World.alloc (World.alloc w _) _) _=W at HB H1 H2 H3 HST ⊢
 obtain⟨gx,hgx⟩:∃gx,gx=w.heap.size:=⟨_,rfl⟩
 rw [<-hgx] at H1 H2 H3 ⊢
 have yV:=qh hgx
 clear hgx
 have c0:W.cell? ⟨gx,0,none⟩=some (.int .i64 vars):=za H1.out 0
 have c1:W.cell? ⟨gx,1,none⟩=some (.int .i64 dom):=za H1.out 1
 have c2:W.cell? ⟨gx,2,none⟩=some (.slice ca cn cc):=za H1.out 2
 go_upto_region 2 with(go_at_call 29;go_must(refine HST.out.mono ?_);rintro en W1 ⟨⟨sv,yv,bs0,rfl,haw⟩,hb⟩;(have HAW:=qh haw);(have HB1:=qh (HB.out.trans (hb.mono HB.out.size)));(have HWW:=qh hb.size);(have K1:=qh ((hb.block _ (zq H1.out)).trans H1.out));(have K2:=qh ((hb.block _ (zq H2.out)).trans H2.out));(have K3:=qh ((hb.block _ (zq H3.out)).trans H3.out));(obtain⟨ta,tc,rfl, -⟩:=ze.slice (haw.state false).threads);(obtain⟨ma,mc,rfl, -⟩:=ze.slice (haw.state false).mem);clear hb haw c0 c1 c2;unfold yR)
 obtain⟨s0,hs0⟩:∃s,s=uJ C:=⟨_,rfl⟩
 have zgo:zbG C M d s0:=by rw [hs0];exact .start
 have haw:=HAW.out
 rw [<-hs0] at haw ⊢
 have hL:kG w (W1.alloc (.cells #[.slice ta s0.threads.length tc, .slice ma s0.mem.length mc, .bool s0.bad] 35)) (W1.alloc (.cells #[.slice ta s0.threads.length tc, .slice ma s0.mem.length mc, .bool s0.bad] 35)) W1.heap.size (gx+2) C M d s0 (.slice ta s0.threads.length tc) (.slice ma s0.mem.length mc):=by
  have h3:=zq H3.out
  have h4:=HB1.out.size
  have h5:=yV.out
  have h6:=HWW.out
  have h7:=HB.out.size
  refine⟨Since.refl _ _,HB1.out.alloc h4 _,⟨h4,by omega,by omega⟩,yE _ _,(Below.heap_alloc _ _ _ (zq K3.out)).trans K3.out, ?_,zgo⟩
  exact⟨bs0,(haw.lower h7).below ((Below.refl _ _).alloc (Nat.le_refl _) _),λk hk=>⟨λe=>by have:=haw.row.lt k e;omega,λe=>by have:=haw.mem.lt k e;omega,λj hj e=>by have:=(haw.buf j hj).lt k e;omega⟩⟩
 have K1':=qh ((Below.heap_alloc W1 (.cells #[.slice ta s0.threads.length tc, .slice ma s0.mem.length mc, .bool s0.bad] 35) _ (zq K1.out)).trans K1.out)
 have K2':=qh ((Below.heap_alloc W1 (.cells #[.slice ta s0.threads.length tc, .slice ma s0.mem.length mc, .bool s0.bad] 35) _ (zq K2.out)).trans K2.out)
 have hg1:gx≠W1.heap.size:=by have:=zq K1.out;omega
 have hg2:gx+1≠W1.heap.size:=by have:=zq K2.out;omega
 generalize World.alloc W1 _=V at hL K1' K2' ⊢
 generalize W1.heap.size=gs at hL hg1 hg2 ⊢
 have HL0:=qh hL
 have HCK:Hid (∀X,Since (λk=>k=gs) V X->X.cell? ⟨gx,0,none⟩=some (.int .i64 vars)/\X.cell? ⟨gx,1,none⟩=some (.int .i64 dom)/\X.cell? ⟨gx,2,none⟩=some (.slice ca cn cc)/\X.cell? ⟨gx+1,0,none⟩=some (.int .i64 mo)/\X.cell? ⟨gx+1,1,none⟩=some (.int .i64 bo)):=λX hX=>by
  have h1:=(hX.block _ (zq K1'.out) hg1).trans K1'.out
  have h2:=(hX.block _ (zq K2'.out) hg2).trans K2'.out
  exact⟨za h1 0,za h1 1,za h1 2,za h2 0,za h2 1⟩
 clear hL zgo haw HAW HB1 HWW K1 K2 K3 K1' K2' HST HB H1 H2 H3 hs0 hg1 hg2
 go_wp2_with fail
 go_loopg [8] (31) (λgg s8 wr=>∃(i:Nat) (s:zm) (ta ma:Option Addr) (tn tc mn mc:Nat),i<=ln/\i<=30/\Hid (gg=31 - i)/\s8= .int .i64 i/\Hid (kG w V wr gs (gx+2) C M d s (.slice ta tn tc) (.slice ma mn mc)))
 case atStart=>exact⟨0,s0,ta,ma,_,tc,_,mc,Nat.zero_le _,by omega,rfl,rfl,HL0.out⟩
 case round=>
 obtain⟨i,s,ta,ma,tn,tc,mn,mc,hi,zAw,HG,rfl,HL⟩:=hrel
 clear HL0
 have b0:wr.cell? ⟨gs,0,none⟩=some (.slice ta tn tc):=za HL.out.box 0
 have b1:wr.cell? ⟨gs,1,none⟩=some (.slice ma mn mc):=za HL.out.box 1
 have b2:wr.cell? ⟨gs,2,none⟩=some (.bool s.bad):=za HL.out.box 2
 by_cases hlt:i<ln/\i<30
 rotate_left
 ·have z1C:=HL.out.fin
  obtain⟨hend,hset⟩:=z1C
  have yt:=qh hend
  have zI:=qh hset
  have r0:=za HL.out.res2 0
  have r1:=za HL.out.res2 1
  have r2:=za HL.out.res2 2
  have f0:=zw HL.out.res2 0
  have f1:=zw HL.out.res2 1
  have f2:=zw HL.out.res2 2
  clear hend hset
  by_cases hl1:i<ln
  ·obtain rfl:i=30:=by omega
   have z5R:((30:Nat):Int)<(ln:Int):=by omega
   have zAx:(30:Int)<(ln:Int):=by omega
   go_wp2_with fail
   refine bodyPost_ret (yY rfl _ _ (gx+2) 35 _ (0,0) _ rfl zI.out Tryz.underlying35 rfl zC) rfl ?_
   exact yt.out
  obtain rfl:ln=i:=by omega
  go_wp2_with fail
  refine bodyPost_ret (yY rfl _ _ (gx+2) 35 _ (0,0) _ rfl zI.out Tryz.underlying35 rfl zC) rfl ?_
  exact yt.out
 obtain⟨hl1,hl2⟩:=hlt
 have z5R:(i:Int)<(ln:Int):=by omega
 have zAy:(i:Int)<30:=by omega
 obtain⟨c0,c1,c2,e0,e1⟩:=HCK.out wr HL.out.since
 have hmv:=HMV.out wr (ze.below (xK.stays d) HC.out HL.out.all) s _ _ HL.out.st.now (λj hj=>by have:=HL.out.come.zpX j hj;omega)
 have hst:=HL.out.st.now
 have htn:s.threads.length=tn:=by obtain⟨a,c,e, -⟩:=ze.slice hst.threads;cases e;rfl
 have hmn:s.mem.length=mn:=by obtain⟨a,c,e, -⟩:=ze.slice hst.mem;cases e;rfl
 unfold yR at hmv
 obtain⟨bd,hbd⟩:∃b,b=s.bad:=⟨_,rfl⟩
 rw [<-hbd] at b2 hmv
 have wN:=qh hbd
 have zyM:=qh hmv
 clear hmv hst htn hmn hbd
 go_upto_region 6 with(go_at_call 30;go_must(refine zyM.out.mono ?_);rintro en W2 ⟨⟨va,vc,rfl,hro⟩,hb⟩;(have HRO:=qh hro);(have HL2:=qh (HL.out.later hb));(have vM:=qh (zB HL.out.all hb));clear hro hb b0 b1 b2 c0 c1 c2 e0 e1)
 obtain⟨ms,hms⟩:∃ms,ms=qM C M s d:=⟨_,rfl⟩
 have hro:=HRO.out
 rw [<-hms] at hro ⊢
 have zpZ:uY W2 (.slice va ms.length vc) ms:=zfh hro
 have HMS:=qh hms
 have zu5:=qh zpZ
 obtain⟨mq,hmq⟩:∃n,n=ms.length:=⟨_,rfl⟩
 rw [<-hmq] at zpZ ⊢
 have HMQ:=qh hmq
 have z5S:mq<=9223372036854775807:=by obtain⟨a,cap,e,h, -⟩:=zpZ;omega
 clear hms hro zpZ hmq HRO zyM
 by_cases h0:mq=0
 ·subst h0
  have z0:W2.cell? ⟨gs,0,none⟩=some (.slice ta tn tc):=za HL2.out.box 0
  have z1:W2.cell? ⟨gs,1,none⟩=some (.slice ma mn mc):=za HL2.out.box 1
  have z2:W2.cell? ⟨gs,2,none⟩=some (.bool s.bad):=za HL2.out.box 2
  have r0:=za HL2.out.res2 0
  have r1:=za HL2.out.res2 1
  have r2:=za HL2.out.res2 2
  have f0:=zw HL2.out.res2 0
  have f1:=zw HL2.out.res2 1
  have f2:=zw HL2.out.res2 2
  obtain⟨hend,hset⟩:=HL2.out.fin
  have yt:=qh hend
  have zI:=qh hset
  clear hend hset
  go_wp2_with fail
  refine bodyPost_ret (yY rfl _ _ (gx+2) 35 _ (0,0) _ rfl zI.out Tryz.underlying35 rfl zC) rfl ?_
  exact yt.out
 have h0I:((mq:Int)==0)=false:=by rw [beq_eq_false_iff_ne];omega
 have hq0:(0:Int)<(mq:Int):=by omega
 have HQ0:=qh h0
 clear h0
 obtain⟨lb,lo,hla,hlb,hlx⟩:=z1B.out i hl1
 subst hla
 obtain⟨lr1,lr2⟩:=HLR.out i hl1
 generalize l.getD i 0=x at hlx lr1 lr2
 obtain⟨r,hr⟩:∃r:Nat,x % (mq:Int)=(r:Int):=⟨(x % (mq:Int)).toNat,by have:=Int.emod_nonneg x (show(mq:Int)≠0 by omega);omega⟩
 have hrq:r<mq:=by have:=Int.emod_lt_of_pos x hq0;omega
 have zAz:(r:Int)<(mq:Int):=by omega
 obtain⟨mb,wW,hva, -,g0,g1,g2⟩:=uY.part zu5.out r (by rw [<-HMQ.out];exact hrq)
 subst hva
 have hmem:ms.getD r default∈ms:=qP (by rw [<-HMQ.out];exact hrq)
 generalize ms.getD r default=mx at g0 g1 g2 hmem
 have hdo:=λy (hy:Below W2.heap.size W2 y)=>HDO.out y (ze.below (xK.stays d) HC.out (zB vM.out hy)) s _ _ (HL2.out.later hy).st.now (λj hj=>by have:=HL2.out.come.zpX j hj;omega) mx
 unfold yR zeo at hdo
 rw [<-wN.out] at hdo
 have zyO:=qh hdo
 have zc2:=qh hmem
 obtain⟨c0,c1,c2,e0,e1⟩:=HCK.out W2 HL2.out.since
 have CC:Hid (∀y,Below W2.heap.size W2 y->y.cell? ⟨gx,0,none⟩=some (.int .i64 vars)/\y.cell? ⟨gx,1,none⟩=some (.int .i64 dom)/\y.cell? ⟨gx,2,none⟩=some (.slice ca cn cc)/\y.cell? ⟨gx+1,0,none⟩=some (.int .i64 mo)/\y.cell? ⟨gx+1,1,none⟩=some (.int .i64 bo)/\y.cell? ⟨gs,0,none⟩=some (.slice ta tn tc)/\y.cell? ⟨gs,1,none⟩=some (.slice ma mn mc)/\y.cell? ⟨gs,2,none⟩=some (.bool bd)/\
  y.cell? ⟨lb,lo+i,none⟩=some (.int .u8 x)/\y.cell? ⟨mb,wW+r*3,none⟩=some (.int .i64 mx.kind)/\y.cell? ⟨mb,wW+r*3+1,none⟩=some (.int .i64 mx.thread)/\y.cell? ⟨mb,wW+r*3+2,none⟩=some (.int .i64 mx.var)):=λy hy=>by
  refine⟨zh hy _ _ c0,zh hy _ _ c1,zh hy _ _ c2,zh hy _ _ e0,zh hy _ _ e1,zh hy _ _ (za HL2.out.box 0),zh hy _ _ (za HL2.out.box 1),zh hy _ _ ?_,(vM.out.trans (hy.mono vM.out.size)).cell (p:=⟨lb,lo+i,none⟩) hlb ▸ hlx,zh hy _ _ g0,zh hy _ _ g1,zh hy _ _ g2⟩
  rw [wN.out];exact za HL2.out.box 2
 have htm:x.tmod (mq:Int)=(r:Int):=by rw [Int.tmod_eq_emod_of_nonneg lr1];exact hr
 have hwx:=wrap_u8 lr1 lr2
 have zA0:¬mq=0:=HQ0.out
 clear hdo hmem c0 c1 c2 e0 e1 g0 g1 g2 hlx hr
 go_upto_region 8 with fail
 refine wp_region_noPanic ?_
 refine yS (n0:=18) (S:=λx=>Below W2.heap.size W2 x) (by kernel_rfl) (Below.refl _ _).drew (λ_=> ?_)
 obtain⟨V1,hV1⟩:∃V1,V1=W2.drew:=⟨_,rfl⟩
 have hT0:Hid (Below W2.heap.size W2 V1):=by rw [hV1];exact(Below.refl _ _).drew
 have z5T:=hT0
 rw [<-hV1]
 clear hV1
 refine vK [14,15,16,17,18] 0 CC.out (hT0.out) ?_
 refine vK [14,15,16,17,18] 1 CC.out (hT0.out) ?_
 refine vK [14,15,16,17,18] 2 CC.out (hT0.out) ?_
 refine zP 3 (λ_=>hT0.out) ?_
 refine zP 4 (λ_=>hT0.out) ?_
 refine zP 5 (λ_=>hT0.out) ?_
 refine zP 6 (λ_=>hT0.out) ?_
 refine vK [8,11,12,13,14,15,16,17,18] 7 CC.out (hT0.out) ?_
 refine zP 8 (λ_=>hT0.out) ?_
 refine zP 9 (λ_=>hT0.out) ?_
 refine zP 10 (λ_=>hT0.out) ?_
 refine zP 11 (λ_=>hT0.out) ?_
 refine zP 12 (λ_=>hT0.out) ?_
 refine vK [14,15,16,17,18] 13 CC.out (hT0.out) ?_
 refine jD 14 rfl (λK hK=> ?_)
 go_simp
 refine(zyO.out V1 hT0.out).mono ?_
 rintro en Y ⟨⟨xa,xn,xc,ya,yn,yc,bs,rfl,hown⟩,hb⟩
 have HOWN:=qh hown
 have pz:=qh hb
 have hT1:=qh (zB hT0.out hb)
 clear hown hb
 unfold yR
 refine hK.out _ _ (λ_ _=>hT1.out) ?_
 clear hK K
 refine zP 15 (λ_=>hT1.out) ?_
 refine zP 16 (λ_=>hT1.out) ?_
 refine zP 17 (λ_=>hT1.out) ?_
 refine jD 18 rfl (λK hK=> ?_)
 obtain⟨-, -, -, -, -,u0,u1,u2, -, -, -, -⟩:=CC.out Y hT1.out
 have hbx:=(hT1.out.block _ (zq HL2.out.box)).trans HL2.out.box
 have f0:=zw hbx 0
 have f1:=zw hbx 1
 have f2:=zw hbx 2
 go_simp
 refine hK.out _ _ (λh=>absurd rfl h) ?_
 clear u0 u1 u2 f0 f1 f2 hbx
 have hT2:=hT1
 clear hK K
 refine xO (by kernel_rfl) ?_ _
 refine NoPanic.normal ?_
 have hput:=(HL2.out.later z5T.out).put (t:=(ji C M s mx d).1) (by rw [<-HMS.out];exact zc2.out) rfl pz.out HOWN.out
 have bM:=qh hput
 clear hput HOWN pz zyO CC
 go_wp2_with fail
 go_roundg (31 - (i+1))
 case measure=>rw [HG.out];omega
 case rel=>exact⟨i+1,_,xa,ya,xn,xc,yn,yc,by omega,by omega,rfl,by simp,bM.out⟩
theorem zen.end_ {w w':World} {c:zK} {m:zF} {d:Nat} {en:Ending} (h:zen w c m d en w'):zpe w c m d en w':=by
 obtain⟨⟨s,tv,mv,bs,he,hc,ho⟩,hb⟩:=h
 exact⟨⟨s,tv,mv,he,hc,λ_ hy=>(ho.since hy (λk hk e=>by have:=(ho.row.lt k hk).1;omega) (λk hk e=>by have:=(ho.mem.lt k hk).1;omega) (λj hj k hk e=>by have:=((ho.buf j hj).lt k hk).1;omega)).state s.bad⟩,hb⟩
theorem zu6 (w:World) (c:zK) (cv:Value) (d:Nat) (hc:yZ d w cv c.threads) (m:zF) (lv:Value) (l:List Int) (hn:vY w .u8 lv l):Calls Tryz.prog 12 #[yT c cv,xD m,lv] w (zpe w c m d):=
 (zu4 w c cv d hc m lv l hn).mono λ_ _ h=>h.end_
end Go.Proofs.YteggflahafiieaaGreatDoor
namespace Go.Proofs.YteggflahafiieaaGreatDoor
open Go.RowKit
set_option maxRecDepth 100000
set_option maxHeartbeats 16000000
theorem zu7 {c:zK} {m:zF} {s:zm} {d:Nat} {x:zN} (h:x∈qM c m s d):(ji c m s x d).2=0:=by
 obtain⟨i, -,⟨rfl,t, -,e⟩|⟨v,rfl, -,e⟩⟩:=zcu h<;>rw [e]
theorem zo9 {c:zK} {m:zF} {s:zm} {t:zo} {x:zT} {d:Nat} {r:zo × List Int × Bool} (h:stepT c m s t x d=some r):
  (s.bad=true->r.2.2=true)/\(r.2.1=s.mem\/(∃v n,r.2.1=s.mem.set v n)/\(x.op=6\/x.op=7\/x.op=8\/x.op=2/\m.model=0))/\(r.1.buf=t.buf\/x.op=2/\r.1.buf.length=t.buf.length+1):=by
 by_cases e1:x.op=1
 ·rw [kY e1] at h;cases h;exact⟨id, .inl rfl, .inl rfl⟩
 by_cases e2:x.op=2
 ·by_cases hmo:m.model=0
  ·rw [kJ e2 hmo] at h;cases h;exact⟨id, .inr ⟨⟨_,_,rfl⟩, .inr (.inr (.inr ⟨e2,hmo⟩))⟩, .inl rfl⟩
  cases hp:xY t.buf m ⟨x.var,zZ t.regs c.domain d x.a⟩ with
  |true=>
   rw [kK e2 hmo hp] at h;cases h
   refine⟨id, .inl rfl, .inr ⟨e2, ?_⟩⟩
   show(vF t.buf m _).length=_
   unfold vF
   rw [if_pos hp];simp
  |false=>rw [kL e2 hmo hp] at h;cases h
 by_cases e3:x.op=3
 ·rw [uW e3] at h;cases h;exact⟨id, .inl rfl, .inl rfl⟩
 by_cases e4:x.op=4
 ·rw [ku e4] at h
  split at h
  ·cases h;exact⟨id, .inl rfl, .inl rfl⟩
  cases h
 by_cases e5:x.op=5
 ·rw [jV e5] at h
  split at h
  ·cases h;exact⟨id, .inl rfl, .inl rfl⟩
  cases h
 by_cases e6:x.op=6
 ·by_cases hv2:s.mem.getD x.var.toNat 0=zZ t.regs c.domain d x.a
  ·rw [kZ e6 hv2] at h
   split at h
   ·cases h;exact⟨id, .inr ⟨⟨_,_,rfl⟩, .inl e6⟩, .inl rfl⟩
   cases h
  rw [wh e6 hv2] at h
  split at h
  ·cases h;exact⟨id, .inl rfl, .inl rfl⟩
  cases h
 by_cases e7:x.op=7
 ·rw [jW e7] at h
  split at h
  ·cases h;exact⟨id, .inr ⟨⟨_,_,rfl⟩, .inr (.inl e7)⟩, .inl rfl⟩
  cases h
 by_cases e8:x.op=8
 ·rw [jG e8] at h
  split at h
  ·cases h;exact⟨id, .inr ⟨⟨_,_,rfl⟩, .inr (.inr (.inl e8))⟩, .inl rfl⟩
  cases h
 by_cases e9:x.op=9
 ·rw [jk e9] at h;cases h;exact⟨λhb=>by simp [hb], .inl rfl, .inl rfl⟩
 by_cases e12:x.op=12
 ·rw [jH e12] at h;cases h
  refine⟨id, .inl rfl, .inl ?_⟩
  show(if _ then _ else _:zo).buf=_
  split<;>rfl
 by_cases e13:x.op=13
 ·rw [gV e13] at h;cases h;exact⟨id, .inl rfl, .inl rfl⟩
 rw [uF e1 e2 e3 e4 e5 e6 e7 e8 e9 e12 e13] at h;cases h;exact⟨id, .inl rfl, .inl rfl⟩
def qR (a b:List Int):Nat->Nat
 |0=>0
 |i+1=>qR a b i+if a.getD i 0=b.getD i 0 then 0 else 1
theorem zjy (a:List Int) (i:Nat):qR a a i=0:=by
 induction i with
 |zero=>rfl
 |succ i ih=>unfold qR;rw [ih,if_pos rfl]
theorem zu8 (a:List Int) (v:Nat) (n:Int) (i:Nat):qR a (a.set v n) i<=if v<i then 1 else 0:=by
 induction i with
 |zero=>exact Nat.zero_le _
 |succ i ih=>
 unfold qR
 by_cases e:i=v
 ·subst e
  rw [if_neg (by omega)] at ih
  have h1:(if a.getD i 0=(a.set i n).getD i 0 then 0 else 1)<=1:=by split<;>omega
  have h2:(if i<i+1 then 1 else 0)=1:=if_pos (by omega)
  rw [h2];omega
 have hg:(a.set v n).getD i 0=a.getD i 0:=by
  rw [List.getD_eq_getElem?_getD,List.getD_eq_getElem?_getD,List.getElem?_set_ne (by omega)]
 rw [hg,if_pos rfl,Nat.add_zero]
 refine Nat.le_trans ih ?_
 by_cases h:v<i
 ·rw [if_pos h,if_pos (by omega)];omega
 rw [if_neg h];omega
theorem zeH (a:List Int) (v:Nat) (n:Int) (i:Nat):qR a (a.set v n) i<=1:=by
 have:=zu8 a v n i
 split at this<;>omega
theorem zgp {α:Type} {l:List α} {i j:Nat} {x d:α} (h:j≠i):(l.set i x).getD j d=l.getD j d:=by
 rw [List.getD_eq_getElem?_getD,List.getD_eq_getElem?_getD,List.getElem?_set_ne (by omega)]
theorem take_one {l:List zi} {v:Int} {n:Int} (h:takeB l v=(some ⟨v,n⟩,(takeB l v).2)):(takeB l v).2.length+1=l.length:=by
 obtain⟨p,hp, -,hr⟩:=(zdr l v l.length (Nat.le_refl _)).2 ⟨v,n⟩ (by show(takeB l v).1=_;rw [h])
 have hr2:(takeB l v).2=l.eraseIdx p:=by
  show(yC l v l.length).2=_
  rw [hr,List.take_length]
 rw [hr2,List.length_eraseIdx_of_lt hp];omega
structure zxy (c:zK) (m:zF) (s:zm) (d:Nat) (x:zN) (i:Nat) (t:zm):Prop where
 thread:x.thread=(i:Int)
 lt:i<s.threads.length
 len:t.threads.length=s.threads.length
 zyP:t.mem.length=s.mem.length
 fits:xR c m t=true
 bad:s.bad=true->t.bad=true
 others:∀j,j≠i->t.threads.getD j default=s.threads.getD j default
 many:qR s.mem t.mem s.mem.length<=1
 kind:x.kind=1\/x.kind=2
 flush:x.kind=2->(t.threads.getD i default).buf.length+1=(s.threads.getD i default).buf.length/\(t.threads.getD i default).pc=(s.threads.getD i default).pc/\(t.threads.getD i default).regs=(s.threads.getD i default).regs/\t.bad=s.bad
 step:x.kind=1->0<=(s.threads.getD i default).pc/\(s.threads.getD i default).pc<((c.threads.getD i []).length:Int)/\
  (0<qR s.mem t.mem s.mem.length->((c.threads.getD i []).getD (s.threads.getD i default).pc.toNat default).op=6\/((c.threads.getD i []).getD (s.threads.getD i default).pc.toNat default).op=7\/((c.threads.getD i []).getD (s.threads.getD i default).pc.toNat default).op=8\/
   ((c.threads.getD i []).getD (s.threads.getD i default).pc.toNat default).op=2/\m.model=0)/\
  (t.threads.getD i default).buf.length<=(s.threads.getD i default).buf.length+1/\
  ((s.threads.getD i default).buf.length<(t.threads.getD i default).buf.length->((c.threads.getD i []).getD (s.threads.getD i default).pc.toNat default).op=2)
theorem zu9 {c:zK} {m:zF} {s:zm} {d:Nat} {x:zN} (h:x∈qM c m s d):∃i,zxy c m s d x i (ji c m s x d).1:=by
 have hf:=(zdc h).1
 have hfit:=zxz h
 have hlen:=zyh h
 obtain⟨-, -, -, -,f5⟩:=zaU.1 hf
 obtain⟨i,hi,⟨rfl,t,hs,e⟩|⟨v,rfl,hv,e⟩⟩:=zcu h
 ·rw [e] at hfit hlen ⊢
  simp only [] at hfit hlen ⊢
  unfold vT at hs
  split at hs
  ·rename_i hpc
   rw [Option.map_eq_some_iff] at hs
   obtain⟨r,hr,rfl⟩:=hs
   obtain⟨t1,t2,t3⟩:=zo9 hr
   have hgi:(s.threads.set i r.1).getD i default=r.1:=by rw [qg hi,if_pos rfl]
   refine⟨i,rfl,hi,hlen.2,hlen.1,hfit,t1,λj hj=>zgp hj, ?_, .inl rfl,λk=>by simp at k,λ_=>⟨(f5 i hi).1,hpc, ?_, ?_, ?_⟩⟩
   ·show qR s.mem r.2.1 _<=1
    rcases t2 with e2|⟨⟨v,n,e2⟩, -⟩
    ·rw [e2,zjy];omega
    rw [e2];exact zeH _ _ _ _
   ·intro hd
    rcases t2 with e2|⟨-,h2⟩
    ·have:qR s.mem r.2.1 s.mem.length=0:=by rw [e2,zjy]
     exact absurd hd (by show¬0<qR s.mem r.2.1 s.mem.length;omega)
    exact h2
   ·show((s.threads.set i r.1).getD i default).buf.length<=_
    rw [hgi]
    rcases t3 with e3|⟨-,e3⟩
    ·rw [e3];omega
    omega
   show _<((s.threads.set i r.1).getD i default).buf.length->_
   rw [hgi]
   intro hl
   rcases t3 with e3|⟨e3, -⟩
   ·rw [e3] at hl;omega
   exact e3
  cases hs
 rw [e] at hfit hlen ⊢
 simp only [] at hfit hlen ⊢
 obtain⟨-, -,n,hn⟩:=zaC hf hi hv
 have hgi:∀y:zo,(s.threads.set i y).getD i default=y:=λy=>by rw [qg hi,if_pos rfl]
 refine⟨i,rfl,hi,hlen.2,hlen.1,hfit,id,λj hj=>zgp hj,zeH _ _ _ _, .inr rfl,λ_=> ?_,λk=>by simp at k⟩
 show((s.threads.set i _).getD i default).buf.length+1=_/\((s.threads.set i _).getD i default).pc=_/\((s.threads.set i _).getD i default).regs=_/\_
 rw [hgi]
 exact⟨take_one hn,rfl,rfl,rfl⟩
theorem zqa:Tryz.prog.underlying 43=some (.struct (Tryz.prog.fieldsOf 43)):=by kernel_rfl
theorem zqb:Tryz.prog.stoodInHeld 43=false:=by kernel_rfl
@[go_sem] theorem z1D:Tryz.prog.eqGuardType Tryz.prog.depth 43=false:=by kernel_rfl
theorem zoA:(Tryz.prog.fieldsOf 43).toList.map (λf=>(f.name,f.type,f.offset))= [("Kind",3,0),("Thread",3,1),("Var",3,2)] :=by kernel_rfl
@[go_sem] theorem z15 (w:World) (a b c x y z:Int):(Op.equalIn 10000 43 (.agg #[.int .i64 a, .int .i64 b, .int .i64 c]) (.agg #[.int .i64 x, .int .i64 y, .int .i64 z])).run Tryz.prog w
  = .ok (a==x && b==y && c==z) w:=by
 rw [run_equalIn_agg w 9999 _ _ _ zqa zqb]
 obtain⟨f0,f1,f2,hf,h0,h1,h2⟩:∃f0 f1 f2,(Tryz.prog.fieldsOf 43).toList= [f0,f1,f2] /\(f0.name,f0.type,f0.offset)=("Kind",3,0)/\(f1.name,f1.type,f1.offset)=("Thread",3,1)/\(f2.name,f2.type,f2.offset)=("Var",3,2):=by
  have h:=zoA
  generalize (Tryz.prog.fieldsOf 43).toList=l at h
  have hl:l.length=3:=by have:=congrArg List.length h;simpa using this
  match l,hl,h with
  | [f0,f1,f2],_,h=>
  simp only [List.map_cons,List.map_nil,List.cons.injEq,and_true] at h
  exact⟨f0,f1,f2,rfl,h.1,h.2.1,h.2.2⟩
 simp only [Prod.mk.injEq] at h0 h1 h2
 rw [hf]
 have p0:=λ(w:World) (a b c:Int)=>jF w #[.int .i64 a, .int .i64 b, .int .i64 c] 0 a rfl
 have p1:=λ(w:World) (a b c:Int)=>jF w #[.int .i64 a, .int .i64 b, .int .i64 c] 1 b rfl
 have p2:=λ(w:World) (a b c:Int)=>jF w #[.int .i64 a, .int .i64 b, .int .i64 c] 2 c rfl
 have ge:=ze5 9998
 cases e0:a==x<;>cases e1:b==y<;>cases e2:c==z<;>simp [Op.eqFields,h0,h1,h2,p0,p1,p2,ge,e0,e1,e2]
theorem zuA {c:zK} (h:codeOk c=true) (q:Int) (_h0:0<=q):jP c (zct q)=true:=by
 unfold jP zct
 simp only [Bool.and_eq_true,decide_eq_true_eq]
 have h1:=Int.emod_nonneg q (show(3:Int)≠0 by omega)
 have h2:=Int.emod_lt_of_pos q (show(0:Int)<3 by omega)
 have h3:=Int.emod_nonneg (q / 3) (show(3:Int)≠0 by omega)
 have h4:=Int.emod_lt_of_pos (q / 3) (show(0:Int)<3 by omega)
 exact⟨⟨⟨⟨h,by omega⟩,by omega⟩,by omega⟩,by omega⟩
structure zA1 (V X:World) (gs:Nat) (c:zK) (m:zF) (s:zm) (ta:Option Addr) (tn tc:Nat) (ma:Option Addr) (mn mc:Nat):Prop where
 since:Since (λk=>k=gs) V X
 box:X.heap[gs]? =some (.cells #[.slice ta tn tc, .slice ma mn mc, .bool s.bad] 35 (0,0))
 st:yh X s (.slice ta tn tc) (.slice ma mn mc)
 come:zbG c m 3 s
 lt:gs<V.heap.size
