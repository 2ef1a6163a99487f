/- The moves that may be: the program's answer: the walk. Awake: what a few moves do in Dekker's code. -/
import Derived.Test.YtliajkheeniljaaGreatDoorZsExpQ
import Derived.Test.YtliajkheeniljaaGreatDoorZsPDo
import Derived.Test.YtliajkheeniljaaGreatDoorZsPFits
import Derived.Test.YtliajkheeniljaaGreatDoorZsPNext
import Derived.Test.YtliajkheeniljaaGreatDoorZsPStart
import Derived.Test.YtliajkheeniljaaGreatDoorZsShort
set_option linter.all false
namespace Go.Proofs.YtliajkheeniljaaGreatDoor
open Go.RowKit
set_option maxRecDepth 100000
set_option maxHeartbeats 16000000
theorem zve {w:World} {s:zu} {sv mv:Value} (hs:zZ w s sv mv):yM (fun _=>False) w (fun y=>zZ y s sv mv):=fun _ hy=>hs.below (hy.below (Nat.le_refl _) (fun _ h=>h.elim))
theorem zfB (w:World) (c:zX) (cv:Value) (d:Nat) (hc:yZ d w cv c.threads) (m:zK) (s:zu) (sv mv:Value) (hs:zZ w s sv mv) (hb:∀j,j<s.threads.length->(s.threads.getD j default).buf.length<=1000000):
  Calls Tryz.prog 24 #[yL c cv,yY m,yH s sv mv] w (zeO w (qO c m s d)):=by
 obtain⟨fo,hfo⟩:∃fo,fo=xX c m s:=⟨_,rfl⟩
 have hfits:=fun W (hW:Below w.heap.size w W)=>zb1 W c cv d (zk.below (xC.stays d) hc hW) m s sv mv (hs.below hW) hb
 rw [<-hfo] at hfits
 have hnext:=fun(hf:fo=true) W (hW:Below w.heap.size w W)=>zoj W c cv d (zk.below (xC.stays d) hc hW) m s sv mv (hs.below hW) hb (hfo.symm.trans hf) (fun _=>False) (fun _ h=>h.elim) (zve (hs.below hW))
 have hno:fo=false->qO c m s d= [] :=fun e=>by unfold qO;rw [if_neg (by rw [<-hfo,e];decide)]
 obtain⟨R,hR⟩:∃R,R=qO c m s d:=⟨_,rfl⟩
 obtain⟨NX,hNX⟩:∃R,R=zhR c m s d:=⟨_,rfl⟩
 rw [<-hR, <-hNX] at hnext
 rw [<-hR] at hno ⊢
 clear hR hNX hfo
 obtain⟨ca,cc,rfl, -⟩:=zk.slice hc
 obtain⟨ta,qm,rfl, -⟩:=zk.slice hs.threads
 obtain⟨ma,xV,rfl, -⟩:=zk.slice hs.mem
 unfold yL yY yH at hfits hnext ⊢
 clear hb hc hs
 generalize c.threads.length=cn at hfits hnext ⊢
 generalize s.threads.length=n at hfits hnext ⊢
 generalize s.mem.length=mn at hfits hnext ⊢
 generalize s.bad=bad at hfits hnext ⊢
 generalize c.vars=vars at hfits hnext ⊢
 generalize c.domain=dom at hfits hnext ⊢
 generalize m.model=mod at hfits hnext ⊢
 generalize m.bound=bnd at hfits hnext ⊢
 obtain⟨hB,h1,h2,h3⟩:=zaL w (.cells #[.int .i64 vars, .int .i64 dom, .slice ca cn cc] 24) (.cells #[.int .i64 mod, .int .i64 bnd] 26) (.cells #[.slice ta n qm, .slice ma mn xV, .bool bad] 30)
 have HB:=qh hB
 have H1:=qh h1
 have H2:=qh h2
 have H3:=qh h3
 have bV:=qh hfits
 have z2o:=qh hnext
 have HNO:=qh hno
 clear hB h1 h2 h3 hfits hnext hno
 go_enter Tryz.func24,Tryz.ntmps24
 go_upto_region 1 with fail
 generalize World.alloc (World.alloc (World.alloc w _) _) _=W at HB H1 H2 H3 ⊢
 obtain⟨gx,hgx⟩:∃gx,gx=w.heap.size:=⟨_,rfl⟩
 rw [<-hgx] at H1 H2 H3 ⊢
 clear hgx
 have xD:Hid (∀y,Below W.heap.size W y->y.cell? ⟨gx,0,none⟩=some (.int .i64 vars)/\y.cell? ⟨gx,1,none⟩=some (.int .i64 dom)/\y.cell? ⟨gx,2,none⟩=some (.slice ca cn cc)/\
   y.cell? ⟨gx+1,0,none⟩=some (.int .i64 mod)/\y.cell? ⟨gx+1,1,none⟩=some (.int .i64 bnd)/\y.cell? ⟨gx+2,0,none⟩=some (.slice ta n qm)/\y.cell? ⟨gx+2,1,none⟩=some (.slice ma mn xV)/\y.cell? ⟨gx+2,2,none⟩=some (.bool bad)):=fun y hx=>
  ⟨zl hx _ _ (zi H1.out 0),zl hx _ _ (zi H1.out 1),zl hx _ _ (zi H1.out 2),zl hx _ _ (zi H2.out 0),zl hx _ _ (zi H2.out 1),zl hx _ _ (zi H3.out 0),zl hx _ _ (zi H3.out 1),zl hx _ _ (zi H3.out 2)⟩
 obtain⟨c0,c1,c2,c3,c4,c5,c6,c7⟩:=xD.out W (Below.refl _ _)
 go_wp2_with fail
 refine(bV.out W HB.out).mono ?_
 rintro e W1 ⟨rfl,hb1⟩
 have HB1:=qh (HB.out.trans (hb1.mono HB.out.size))
 obtain⟨d0,d1,d2,d3,d4,d5,d6,d7⟩:=xD.out W1 hb1
 clear hb1 bV c0 c1 c2 c3 c4 c5 c6 c7
 cases fo with
 |false=>
  have HR:=qh (HNO.out rfl)
  go_wp2_with fail
  go_ret
  exact zan (by rw [HR.out];rfl) (by rw [HR.out];exact World.ownsRow_nil _ _ _ _) HB1.out
 |true=>
  go_wp2_with fail
  refine(z2o.out (by trivial) W1 HB1.out).mono ?_
  rintro e W2 ⟨⟨va,vc,xa,xc,css,rfl,hrow, -⟩,hb2⟩
  have HRW:=qh (xw hrow HB1.out.size)
  have HB2:=qh (HB1.out.trans (hb2.mono HB1.out.size))
  clear hrow hb2 d0 d1 d2 d3 d4 d5 d6 d7
  go_wp2_with fail
  go_ret
  exact zan rfl HRW.out HB2.out
def zbP:zK:=⟨1,1⟩
def zea:zu:=⟨[⟨0, [0,0,0,0], []⟩,⟨0, [0,0,0,0], []⟩], [0,0],false⟩
def kL:zu:=⟨[⟨1, [0,0,0,0], [⟨0,1⟩]⟩,⟨0, [0,0,0,0], []⟩], [0,0],false⟩
def ztH:zu:=⟨[⟨1, [0,0,0,0], []⟩,⟨0, [0,0,0,0], []⟩], [1,0],false⟩
theorem zx2:jL qE=zea:=by decide+kernel
theorem zx3:vN qE zbP zea ⟨1,0,0⟩ 1=(kL,0):=by decide+kernel
theorem zx4:vN qE zbP kL ⟨2,0,0⟩ 1=(ztH,0):=by decide+kernel
theorem zx5:vN qE zbP kL ⟨2,1,0⟩ 1=(yO,50):=by decide+kernel
theorem zx6:vN qE zbP yO ⟨1,0,0⟩ 1=(yO,1):=by decide+kernel
theorem zx7:(qO qE zbP kL 1).length=3:=by decide+kernel
theorem zx8:xX qE zbP kL=true:=by decide+kernel
theorem zeR {s:zu} (h:s=zea\/s=kL\/s=yO):∀j,j<s.threads.length->(s.threads.getD j default).buf.length<=1000000:=by
 intro j hj
 have hd:∀s:zu,(s.threads.all fun t=>decide (t.buf.length<=1))=true->∀j,j<s.threads.length->(s.threads.getD j default).buf.length<=1000000:=fun s hs j hj=>by
  have:=List.all_eq_true.1 hs _ (vG (x:=default) hj)
  simp only [decide_eq_true_eq] at this
  omega
 rcases h with rfl|rfl|rfl<;>exact hd _ (by decide) j hj
theorem zl5 (w:World):Calls Tryz.prog 15 #[] w fun e w'=>e= .returned (.bool true)/\Below w.heap.size w w':=by
 have hd:Calls Tryz.prog 41 #[] w fun e w'=>(∃(ta:Option Addr) (tc:Nat),e= .returned (.agg #[.int .i64 2, .int .i64 2, .slice ta 2 tc])/\yZ 1 w' (.slice ta 2 tc) qE.threads)/\Below w.heap.size w w':=by
  refine(zlm w).mono ?_
  rintro e w' ⟨⟨tv,rfl,ht⟩,hb⟩
  obtain⟨ta,tc,rfl, -⟩:=zk.slice ht
  exact⟨⟨ta,tc,rfl,ht⟩,hb⟩
 have hst:∀y tv,yZ 1 y tv qE.threads->Calls Tryz.prog 18 #[.agg #[.int .i64 2, .int .i64 2,tv]] y fun e w'=>(∃(a b:Option Addr) (c k:Nat),e= .returned (.agg #[.slice a 2 c, .slice b 2 k, .bool false])/\zZ w' zea (.slice a 2 c) (.slice b 2 k))/\Below y.heap.size y w':=fun y tv ht=>by
  refine(zl6 y qE tv 1 ht).mono ?_
  rintro e w' ⟨⟨sv,mv,rfl,hs⟩,hb⟩
  rw [zx2] at hs ⊢
  obtain⟨a,c,rfl, -⟩:=zk.slice hs.now.threads
  obtain⟨b,k,rfl, -⟩:=zk.slice hs.now.mem
  exact⟨⟨a,b,c,k,rfl,hs.now⟩,hb⟩
 have hdo:∀(s t:zu) (kd th vr er:Int),vN qE zbP s ⟨kd,th,vr⟩ 1=(t,er)->(s=zea\/s=kL\/s=yO)->∀y tv (a:Option Addr) (n c:Nat) (b:Option Addr) (m k:Nat) (bd:Bool),bd=s.bad->yZ 1 y tv qE.threads->zZ y s (.slice a n c) (.slice b m k)->
   Calls Tryz.prog 25 #[.agg #[.int .i64 2, .int .i64 2,tv], .agg #[.int .i64 1, .int .i64 1], .agg #[.slice a n c, .slice b m k, .bool bd], .agg #[.int .i64 kd, .int .i64 th, .int .i64 vr]] y fun e w'=>
    (∃(a b:Option Addr) (c k:Nat),e= .returned (.tuple #[.agg #[.slice a t.threads.length c, .slice b t.mem.length k, .bool t.bad], .int .i64 er])/\zZ w' t (.slice a t.threads.length c) (.slice b t.mem.length k))/\Below y.heap.size y w':=fun s t kd th vr er he hs y tv a n c b m k bd hbd ht hst=>by
  have h:=zkE y qE tv 1 ht zbP s _ _ hst (zeR hs) ⟨kd,th,vr⟩
  rw [he] at h
  subst hbd
  refine h.mono ?_
  rintro e w' ⟨hb,xa,xn,xc,ya,yn,yc,rfl,hf⟩
  have hs2:=hf.now hst
  obtain⟨_,_,e1, -⟩:=zk.slice hs2.threads
  obtain⟨_,_,e2, -⟩:=zk.slice hs2.mem
  cases e1
  cases e2
  exact⟨⟨_,_,_,_,rfl,hs2⟩,hb⟩
 have hd1:=hdo zea kL 1 0 0 0 zx3 (.inl rfl)
 have hd2:=hdo kL ztH 2 0 0 0 zx4 (.inr (.inl rfl))
 have hd3:=hdo kL yO 2 1 0 50 zx5 (.inr (.inl rfl))
 have hd4:=hdo yO yO 1 0 0 1 zx6 (.inr (.inr rfl))
 have hmv:∀y tv (a:Option Addr) (n c:Nat) (b:Option Addr) (m k:Nat),yZ 1 y tv qE.threads->zZ y kL (.slice a n c) (.slice b m k)->
   Calls Tryz.prog 24 #[.agg #[.int .i64 2, .int .i64 2,tv], .agg #[.int .i64 1, .int .i64 1], .agg #[.slice a n c, .slice b m k, .bool false]] y fun e w'=>(∃(a:Option Addr) (c:Nat),e= .returned (.slice a 3 c))/\Below y.heap.size y w':=fun y tv a n c b m k ht hst=>by
  refine(zfB y qE tv 1 ht zbP kL _ _ hst (zeR (.inr (.inl rfl)))).mono ?_
  rintro e w' ⟨⟨va,vc,rfl, -⟩,hb⟩
  rw [zx7]
  exact⟨⟨va,vc,rfl⟩,hb⟩
 have hft:∀y tv (a:Option Addr) (n c:Nat) (b:Option Addr) (m k:Nat),yZ 1 y tv qE.threads->zZ y kL (.slice a n c) (.slice b m k)->
   Calls Tryz.prog 26 #[.agg #[.int .i64 2, .int .i64 2,tv], .agg #[.int .i64 1, .int .i64 1], .agg #[.slice a n c, .slice b m k, .bool false]] y fun e w'=>e= .returned (.bool true)/\Below y.heap.size y w':=fun y tv a n c b m k ht hst=>by
  have h:=zb1 y qE tv 1 ht zbP kL _ _ hst (zeR (.inr (.inl rfl)))
  rw [zx8] at h
  exact h
 have HD:=qh hd
 have HST:=qh hst
 have HD1:=qh hd1
 have HD2:=qh hd2
 have HD3:=qh hd3
 have HD4:=qh hd4
 have HMV:=qh hmv
 have HFT:=qh hft
 clear hd hst hdo hd1 hd2 hd3 hd4 hmv hft
 go_enter Tryz.func15,Tryz.ntmps15
 go_upto_region 2 with(go_at_call 41;go_must(refine HD.out.mono ?_);rintro e W1 ⟨⟨ta,tc,rfl,ht⟩,hb⟩;have HT1:=qh ht;have L1:=qh ((((Loc.start w).later hb).alloc 24 [.int .i64 2, .int .i64 2, .slice ta 2 tc]).alloc 26 [.int .i64 1, .int .i64 1]);clear ht hb)
 have HT2:=qh (zk.below (xC.stays 1) HT1.out (((Below.refl W1.heap.size W1).alloc (Nat.le_refl _) (.cells #[.int .i64 2, .int .i64 2, .slice ta 2 tc] 24)).alloc (by simp) (.cells #[.int .i64 1, .int .i64 1] 26)))
 obtain⟨g1,hg1⟩:∃g,g=W1.heap.size:=⟨_,rfl⟩
 have hg2:(World.alloc W1 (.cells [.int .i64 2, .int .i64 2, .slice ta 2 tc].toArray 24)).heap.size=g1+1:=by simp [hg1]
 have l1:=L1.out
 rw [hg2, <-hg1] at l1
 have L2:=qh l1
 rw [<-hg1]
 clear l1 hg1 hg2 L1 HT1
 generalize World.alloc (World.alloc W1 _) _=X1 at L2 HT2 ⊢
 have CX:Hid (∀y,Below X1.heap.size X1 y->y.cell? ⟨g1,0,none⟩=some (.int .i64 2)/\y.cell? ⟨g1,1,none⟩=some (.int .i64 2)/\y.cell? ⟨g1,2,none⟩=some (.slice ta 2 tc)/\y.cell? ⟨g1+1,0,none⟩=some (.int .i64 1)/\y.cell? ⟨g1+1,1,none⟩=some (.int .i64 1)):=fun y hy=>by
  have h:=L2.out.later hy
  have a1:=(h.news (g1,24, [.int .i64 2, .int .i64 2, .slice ta 2 tc]) (by simp)).1
  have a2:=(h.news (g1+1,26, [.int .i64 1, .int .i64 1]) (by simp)).1
  exact⟨zi a1 0,zi a1 1,zi a1 2,zi a2 0,zi a2 1⟩
 have HB1:Hid (Below w.heap.size w X1):=L2.out.below
 go_cut [3,4] (fun s3 s4 w'=>∃(g:Nat) (a b:Option Addr) (c k:Nat),s3= .pointer (some ⟨g,0,none⟩)/\s4= .int .i64 0/\Hid (w'.heap[g]? =some (.cells #[.slice a 2 c, .slice b 2 k, .bool false] 30 (0,0)))/\Hid (zZ w' kL (.slice a 2 c) (.slice b 2 k))/\Hid (Below X1.heap.size X1 w'))
 case first=>
  refine wp_region_noPanic ?_
  refine wp_region_held_drew (S:=fun x=>Below X1.heap.size X1 x) (by kernel_rfl) (Below.refl _ _).drew (fun _=> ?_)
  obtain⟨V1,hV1⟩:∃V1,V1=X1.drew:=⟨_,rfl⟩
  have hT0:Hid (Below X1.heap.size X1 V1):=by rw [hV1];exact(Below.refl _ _).drew
  rw [<-hV1]
  clear hV1
  refine zy 0 14 ?va1 rfl ?zqX (hT0.out) ?_
  case zqX=>(intro x h;have e:=CX.out x h;go_simp<;>rfl)
  simp only [Act.put,za,ze,zh]
  refine zy 1 15 ?va2 rfl ?zqY (hT0.out) ?_
  case zqY=>(intro x h;have e:=CX.out x h;go_simp<;>rfl)
  simp only [Act.put,za,ze,zh]
  refine zy 2 16 ?va3 rfl ?zqZ (hT0.out) ?_
  case zqZ=>(intro x h;have e:=CX.out x h;go_simp<;>rfl)
  simp only [Act.put,za,ze,zh]
  refine zy 4 18 ?va4 rfl ?zra (hT0.out) ?_
  case zra=>(intro _ _;go_simp<;>rfl)
  simp only [Act.put,za,ze,zh]
  refine wpAnyH_ready (rs:= [3,9]) (by kernel_rfl) (by simp) ?_
  refine AllReadyH.cons rfl (fun K hK=> ?_) (AllReadyH.cons rfl (fun K hK=> ?_) AllReadyH.nil)
  ·skip
   go_simp
   refine(HST.out V1 _ (zk.below (xC.stays 1) HT2.out hT0.out)).mono ?_
   rintro e Ya1 ⟨⟨sa,sb,sc,sk,rfl,hs⟩,hb⟩
   have zl7:=qh hs
   have za7:=qh (zF hT0.out hb)
   clear hs hb
   refine hK.out _ _ za7.out (fun _=> ?_)
   clear hK K
   refine wpAnyH_ready (rs:= [5,9]) (by kernel_rfl) (by simp) ?_
   refine AllReadyH.cons rfl (fun K hK=> ?_) (AllReadyH.cons rfl (fun K hK=> ?_) AllReadyH.nil)
   ·skip
    go_simp
    refine(HD1.out Ya1 _ _ _ _ _ _ _ _ rfl (zk.below (xC.stays 1) HT2.out za7.out) zl7.out).mono ?_
    rintro e Ya3 ⟨⟨sa1,sb1,bZ,pq,rfl,hs⟩,hb⟩
    have z2p:=qh (zl7.out.below hb)
    have z2q:=qh hs
    have zbe:=qh (zF za7.out hb)
    clear hs hb
    refine hK.out _ _ zbe.out (fun _=> ?_)
    clear hK K
    refine zy 6 13 ?va5 rfl ?zrb (zbe.out) ?_
    case zrb=>(intro _ _;go_simp<;>rfl)
    simp only [Act.put,za,ze,zh]
    refine zy 7 20 ?va6 rfl ?zrc (zbe.out) ?_
    case zrc=>(intro _ _;go_simp<;>rfl)
    simp only [Act.put,za,ze,zh]
    refine zy 8 21 ?va7 rfl ?zrd (zbe.out) ?_
    case zrd=>(intro _ _;go_simp<;>rfl)
    simp only [Act.put,za,ze,zh]
    refine zY 9 rfl (fun K hK=> ?_)
    go_simp
    have hz:=yD Ya3 (.cells #[.slice none 0 0, .slice none 0 0, .bool false] 30)
    have hb:=(Below.refl Ya3.heap.size Ya3).alloc (Nat.le_refl _) (.cells #[.slice none 0 0, .slice none 0 0, .bool false] 30)
    have kG:Hid (X1.heap.size<=Ya3.heap.size):=(zbe.out).size
    have z2r:=qh (z2p.out.below hb)
    have ztJ:=qh (z2q.out.below hb)
    have zc4:=qh (zF zbe.out hb)
    clear hb
    refine hK.out _ _ zc4.out (fun _=> ?_)
    obtain⟨gs,hgs⟩:∃g,g=Ya3.heap.size:=⟨_,rfl⟩
    rw [<-hgs] at hz kG ⊢
    clear hgs
    generalize World.alloc Ya3 _=Ya5 at hz z2r ztJ zc4 ⊢
    have pz:=qh hz
    clear hz
    clear hK K
    refine zY 10 rfl (fun K hK=> ?_)
    have d0:=zi pz.out 0
    have d1:=zi pz.out 1
    have d2:=zi pz.out 2
    have f0:=zB pz.out 0
    have f1:=zB pz.out 1
    have f2:=zB pz.out 2
    have HZ2:=qh (xG (cs:= [.slice none 0 0, .slice none 0 0, .bool false]) [.slice sa1 2 bZ, .slice sb1 2 pq, .bool false] rfl pz.out)
    have hsi:=yP (g:=gs) [.slice sa1 2 bZ, .slice sb1 2 pq, .bool false] Ya5 0
    have wJ:=qh (wX ztJ.out pz.out hsi)
    have wu:Hid (Below X1.heap.size X1 (zU Ya5 gs 0 [.slice sa1 2 bZ, .slice sb1 2 pq, .bool false])):=(zc4.out).trans (hsi.below (zc4.out).size (fun k hk=>by have:=kG.out;omega))
    clear hsi
    go_simp
    clear d0 d1 d2 f0 f1 f2
    refine hK.out _ (zU Ya5 gs 0 [.slice sa1 2 bZ, .slice sb1 2 pq, .bool false]) wu.out (fun _=> ?_)
    generalize zU Ya5 gs 0 _=Y4 at HZ2 wJ wu ⊢
    clear hK K
    refine zy 11 4 ?va8 rfl ?zre (wu.out) ?_
    case zre=>(intro _ _;go_simp<;>rfl)
    simp only [Act.put,za,ze,zh]
    refine wpAnyH_done (by kernel_rfl) ?_ _
    refine NoPanic.normal ?_
    go_wp2_with fail
    go_meet
    case rel=>exact⟨gs,sa1,sb1,bZ,pq,rfl,rfl,HZ2.out,wJ.out,wu.out⟩
   ·skip
    go_simp
    have hz:=yD Ya1 (.cells #[.slice none 0 0, .slice none 0 0, .bool false] 30)
    have hb:=(Below.refl Ya1.heap.size Ya1).alloc (Nat.le_refl _) (.cells #[.slice none 0 0, .slice none 0 0, .bool false] 30)
    have kG:Hid (X1.heap.size<=Ya1.heap.size):=(za7.out).size
    have zl8:=qh (zl7.out.below hb)
    have zbf:=qh (zF za7.out hb)
    clear hb
    refine hK.out _ _ zbf.out (fun _=> ?_)
    obtain⟨gs,hgs⟩:∃g,g=Ya1.heap.size:=⟨_,rfl⟩
    rw [<-hgs] at hz kG ⊢
    clear hgs
    generalize World.alloc Ya1 _=Ya7 at hz zl8 zbf ⊢
    have pE:=qh hz
    clear hz
    clear hK K
    refine zY 5 rfl (fun K hK=> ?_)
    go_simp
    refine(HD1.out Ya7 _ _ _ _ _ _ _ _ rfl (zk.below (xC.stays 1) HT2.out zbf.out) zl8.out).mono ?_
    rintro e Ya9 ⟨⟨sa1,sb1,bZ,pq,rfl,hs⟩,hb⟩
    have zGn:=qh (zl8.out.below hb)
    have zb3:=qh ((hb.block gs (zw pE.out)).trans pE.out)
    have z2s:=qh hs
    have zeb:=qh (zF zbf.out hb)
    clear hs hb
    refine hK.out _ _ zeb.out (fun _=> ?_)
    clear hK K
    refine zy 6 13 ?va9 rfl ?zrf (zeb.out) ?_
    case zrf=>(intro _ _;go_simp<;>rfl)
    simp only [Act.put,za,ze,zh]
    refine zy 7 20 ?z8V rfl ?zl9 (zeb.out) ?_
    case zl9=>(intro _ _;go_simp<;>rfl)
    simp only [Act.put,za,ze,zh]
    refine zy 8 21 ?z8W rfl ?zlA (zeb.out) ?_
    case zlA=>(intro _ _;go_simp<;>rfl)
    simp only [Act.put,za,ze,zh]
    refine zY 10 rfl (fun K hK=> ?_)
    have d0:=zi zb3.out 0
    have d1:=zi zb3.out 1
    have d2:=zi zb3.out 2
    have f0:=zB zb3.out 0
    have f1:=zB zb3.out 1
    have f2:=zB zb3.out 2
    have HZ2:=qh (xG (cs:= [.slice none 0 0, .slice none 0 0, .bool false]) [.slice sa1 2 bZ, .slice sb1 2 pq, .bool false] rfl zb3.out)
    have hsi:=yP (g:=gs) [.slice sa1 2 bZ, .slice sb1 2 pq, .bool false] Ya9 0
    have wJ:=qh (wX z2s.out zb3.out hsi)
    have wu:Hid (Below X1.heap.size X1 (zU Ya9 gs 0 [.slice sa1 2 bZ, .slice sb1 2 pq, .bool false])):=(zeb.out).trans (hsi.below (zeb.out).size (fun k hk=>by have:=kG.out;omega))
    clear hsi
    go_simp
    clear d0 d1 d2 f0 f1 f2
    refine hK.out _ (zU Ya9 gs 0 [.slice sa1 2 bZ, .slice sb1 2 pq, .bool false]) wu.out (fun _=> ?_)
    generalize zU Ya9 gs 0 _=Y4 at HZ2 wJ wu ⊢
    clear hK K
    refine zy 11 4 ?z8X rfl ?zlB (wu.out) ?_
    case zlB=>(intro _ _;go_simp<;>rfl)
    simp only [Act.put,za,ze,zh]
    refine wpAnyH_done (by kernel_rfl) ?_ _
    refine NoPanic.normal ?_
    go_wp2_with fail
    go_meet
    case rel=>exact⟨gs,sa1,sb1,bZ,pq,rfl,rfl,HZ2.out,wJ.out,wu.out⟩
  ·skip
   go_simp
   have hz:=yD V1 (.cells #[.slice none 0 0, .slice none 0 0, .bool false] 30)
   have hb:=(Below.refl V1.heap.size V1).alloc (Nat.le_refl _) (.cells #[.slice none 0 0, .slice none 0 0, .bool false] 30)
   have kG:Hid (X1.heap.size<=V1.heap.size):=(hT0.out).size
   have zhS:=qh (zF hT0.out hb)
   clear hb
   refine hK.out _ _ zhS.out (fun _=> ?_)
   obtain⟨gs,hgs⟩:∃g,g=V1.heap.size:=⟨_,rfl⟩
   rw [<-hgs] at hz kG ⊢
   clear hgs
   generalize World.alloc V1 _=z8Y at hz zhS ⊢
   have zok:=qh hz
   clear hz
   clear hK K
   refine zY 3 rfl (fun K hK=> ?_)
   go_simp
   refine(HST.out z8Y _ (zk.below (xC.stays 1) HT2.out zhS.out)).mono ?_
   rintro e z8Z ⟨⟨sa,sb,sc,sk,rfl,hs⟩,hb⟩
   have zol:=qh ((hb.block gs (zw zok.out)).trans zok.out)
   have zom:=qh hs
   have zlC:=qh (zF zhS.out hb)
   clear hs hb
   refine hK.out _ _ zlC.out (fun _=> ?_)
   clear hK K
   refine zY 5 rfl (fun K hK=> ?_)
   go_simp
   refine(HD1.out z8Z _ _ _ _ _ _ _ _ rfl (zk.below (xC.stays 1) HT2.out zlC.out) zom.out).mono ?_
   rintro e zlD ⟨⟨sa1,sb1,bZ,pq,rfl,hs⟩,hb⟩
   have zaz:=qh ((hb.block gs (zw zol.out)).trans zol.out)
   have zCF:=qh (zom.out.below hb)
   have zx9:=qh hs
   have zec:=qh (zF zlC.out hb)
   clear hs hb
   refine hK.out _ _ zec.out (fun _=> ?_)
   clear hK K
   refine zy 6 13 ?z9a rfl ?zlE (zec.out) ?_
   case zlE=>(intro _ _;go_simp<;>rfl)
   simp only [Act.put,za,ze,zh]
   refine zy 7 20 ?z9b rfl ?zlF (zec.out) ?_
   case zlF=>(intro _ _;go_simp<;>rfl)
   simp only [Act.put,za,ze,zh]
   refine zy 8 21 ?z9c rfl ?zlG (zec.out) ?_
   case zlG=>(intro _ _;go_simp<;>rfl)
   simp only [Act.put,za,ze,zh]
   refine zY 10 rfl (fun K hK=> ?_)
   have d0:=zi zaz.out 0
   have d1:=zi zaz.out 1
   have d2:=zi zaz.out 2
   have f0:=zB zaz.out 0
   have f1:=zB zaz.out 1
   have f2:=zB zaz.out 2
   have HZ2:=qh (xG (cs:= [.slice none 0 0, .slice none 0 0, .bool false]) [.slice sa1 2 bZ, .slice sb1 2 pq, .bool false] rfl zaz.out)
   have hsi:=yP (g:=gs) [.slice sa1 2 bZ, .slice sb1 2 pq, .bool false] zlD 0
   have wJ:=qh (wX zx9.out zaz.out hsi)
   have wu:Hid (Below X1.heap.size X1 (zU zlD gs 0 [.slice sa1 2 bZ, .slice sb1 2 pq, .bool false])):=(zec.out).trans (hsi.below (zec.out).size (fun k hk=>by have:=kG.out;omega))
   clear hsi
   go_simp
   clear d0 d1 d2 f0 f1 f2
   refine hK.out _ (zU zlD gs 0 [.slice sa1 2 bZ, .slice sb1 2 pq, .bool false]) wu.out (fun _=> ?_)
   generalize zU zlD gs 0 _=Y4 at HZ2 wJ wu ⊢
   clear hK K
   refine zy 11 4 ?zIb rfl ?z2t (wu.out) ?_
   case z2t=>(intro _ _;go_simp<;>rfl)
   simp only [Act.put,za,ze,zh]
   refine wpAnyH_done (by kernel_rfl) ?_ _
   refine NoPanic.normal ?_
   go_wp2_with fail
   go_meet
   case rel=>exact⟨gs,sa1,sb1,bZ,pq,rfl,rfl,HZ2.out,wJ.out,wu.out⟩
 case rest=>
  obtain⟨gs,sa1,sb1,bZ,pq,rfl,rfl,HZ2,wJ,wu⟩:=hcut
  obtain⟨Y4,rfl⟩:∃Y:World,Y=wc:=⟨_,rfl⟩
  have CY:Hid (∀y,Below Y4.heap.size Y4 y->(y.cell? ⟨g1,0,none⟩=some (.int .i64 2)/\y.cell? ⟨g1,1,none⟩=some (.int .i64 2)/\y.cell? ⟨g1,2,none⟩=some (.slice ta 2 tc)/\y.cell? ⟨g1+1,0,none⟩=some (.int .i64 1)/\y.cell? ⟨g1+1,1,none⟩=some (.int .i64 1))/\y.cell? ⟨gs,0,none⟩=some (.slice sa1 2 bZ)/\y.cell? ⟨gs,1,none⟩=some (.slice sb1 2 pq)/\y.cell? ⟨gs,2,none⟩=some (.bool false)):=fun y hy=>⟨CX.out y (zF wu.out hy),zl hy _ _ (zi HZ2.out 0),zl hy _ _ (zi HZ2.out 1),zl hy _ _ (zi HZ2.out 2)⟩
  have HYB:=wu
  have HT4:=qh (zk.below (xC.stays 1) HT2.out wu.out)
  clear HZ2 CX HT2 L2 HD HST HD1
  obtain⟨⟨k0,k1,k2,k3,k4⟩,k5,k6,k7⟩:=CY.out Y4 (Below.refl _ _)
  go_upto_region 4 with(go_at_call 25;go_must(refine(HD2.out Y4 _ _ _ _ _ _ _ _ rfl HT4.out wJ.out).mono ?_);rintro e Z1 ⟨⟨ta2,tb2,tc2,tk2,rfl,hs⟩,hb⟩;(have HT5:=qh hs);(have HZ1:=qh hb);clear hs hb)
  have hb2:=HZ1.out.alloc HZ1.out.size (.cells #[.slice ta2 2 tc2, .slice tb2 2 tk2, .bool false] 30)
  have HQ1:=qh (yD Z1 (.cells #[.slice ta2 2 tc2, .slice tb2 2 tk2, .bool false] 30))
  have HT6:=qh (HT5.out.below ((Below.refl Z1.heap.size Z1).alloc (Nat.le_refl _) (.cells #[.slice ta2 2 tc2, .slice tb2 2 tk2, .bool false] 30)))
  have HB2:=qh hb2
  clear hb2 k0 k1 k2 k3 k4 k5 k6 k7 HT5 HZ1 HD2
  show Code.wp _ _ _ _ (World.alloc Z1 (.cells #[.slice ta2 2 tc2, .slice tb2 2 tk2, .bool false] 30))
  generalize World.alloc Z1 _=Z2 at HQ1 HT6 HB2 ⊢
  generalize Z1.heap.size=gt at HQ1 ⊢
  obtain⟨⟨k0,k1,k2,k3,k4⟩,k5,k6,k7⟩:=CY.out Z2 HB2.out
  have hq:=fun y (hy:Below Z2.heap.size Z2 y)=>zl hy _ _ (zi HQ1.out 0)
  have hq':=fun y (hy:Below Z2.heap.size Z2 y)=>zl hy _ _ (zi HQ1.out 1)
  have HQA:=qh hq
  have HQB:=qh hq'
  clear hq hq'
  go_upto_region 5 with(go_at_call 25;go_must(refine(HD3.out Z2 _ _ _ _ _ _ _ _ rfl (zk.below (xC.stays 1) HT4.out HB2.out) (wJ.out.below HB2.out)).mono ?_);rintro e Z3 ⟨⟨ta3,tb3,tc3,tk3,rfl,hs⟩,hb⟩;(have HZ3:=qh hb);clear hs hb)
  have hb3:=HZ3.out.alloc HZ3.out.size (.cells #[.slice ta3 0 tc3, .slice tb3 0 tk3, .bool false] 30)
  have HB3:=qh hb3
  clear hb3 k0 k1 k2 k3 k4 k5 k6 k7 HD3 HZ3
  show Code.wp _ _ _ _ (World.alloc Z3 (.cells #[.slice ta3 0 tc3, .slice tb3 0 tk3, .bool false] 30))
  generalize World.alloc Z3 _=Z4 at HB3 ⊢
  generalize Z3.heap.size=gu
  have vB:=qh (zF HB2.out HB3.out)
  obtain⟨⟨k0,k1,k2,k3,k4⟩,k5,k6,k7⟩:=CY.out Z4 vB.out
  have zxA:Hid (zZ Z4 yO (.slice none 0 0) (.slice none 0 0)):=ziM _
  go_upto_region 6 with(go_at_call 25;go_must(refine(HD4.out Z4 _ _ _ _ _ _ _ _ rfl (zk.below (xC.stays 1) HT4.out vB.out) zxA.out).mono ?_);rintro e Z5 ⟨⟨ta4,tb4,tc4,tk4,rfl,hs⟩,hb⟩;(have HZ5:=qh hb);clear hs hb)
  have hb5:=HZ5.out.alloc HZ5.out.size (.cells #[.slice ta4 0 tc4, .slice tb4 0 tk4, .bool false] 30)
  have HB5:=qh (zF HB3.out hb5)
  clear hb5 k0 k1 k2 k3 k4 k5 k6 k7 HD4 HZ5 zxA
  show Code.wp _ _ _ _ (World.alloc Z5 (.cells #[.slice ta4 0 tc4, .slice tb4 0 tk4, .bool false] 30))
  generalize World.alloc Z5 _=Z6 at HB5 ⊢
  generalize Z5.heap.size=gv
  have HB6:=qh (zF HB2.out HB5.out)
  obtain⟨⟨k0,k1,k2,k3,k4⟩,k5,k6,k7⟩:=CY.out Z6 HB6.out
  have k8:=HQA.out Z6 HB5.out
  have k9:=HQB.out Z6 HB5.out
  obtain⟨xb,xo,xba,xbc,hxa, -, -,x0, -, -, -, -,x5, -⟩:=xY.part (wJ.out.below HB6.out).threads 0 (by decide)
  obtain⟨yb,yo,hya, -,y0⟩:=xJ.part (wJ.out.below HB6.out).mem 0 (by decide)
  obtain⟨ub,uo,uba,ubc,hua, -, -,u0, -, -, -, -,u5, -⟩:=xY.part (HT6.out.below HB5.out).threads 0 (by decide)
  obtain⟨vb,vo,hva, -,v0⟩:=xJ.part (HT6.out.below HB5.out).mem 0 (by decide)
  subst hxa hya hua hva
  rw [Nat.zero_mul,Nat.add_zero] at x0 x5 u0 u5
  rw [Nat.add_zero] at y0 v0
  replace x0:Z6.cell? ⟨xb,xo,none⟩=some (.int .i64 1):=x0
  replace x5:Z6.cell? ⟨xb,xo+5,none⟩=some (.slice xba 1 xbc):=x5
  replace y0:Z6.cell? ⟨yb,yo,none⟩=some (.int .i64 0):=y0
  replace u5:Z6.cell? ⟨ub,uo+5,none⟩=some (.slice uba 0 ubc):=u5
  replace v0:Z6.cell? ⟨vb,vo,none⟩=some (.int .i64 1):=v0
  clear u0
  have z9d:=qh (HMV.out Z6 _ _ _ _ _ _ _ (zk.below (xC.stays 1) HT4.out HB6.out) (wJ.out.below HB6.out))
  have z9e:=qh (fun y (hy:Below Z6.heap.size Z6 y)=>HFT.out y _ _ _ _ _ _ _ (zk.below (xC.stays 1) HT4.out (zF HB6.out hy)) (wJ.out.below (zF HB6.out hy)))
  have HCZ:=qh (fun y (hy:Below Z6.heap.size Z6 y)=>CY.out y (zF HB6.out hy))
  have bg:Hid (Below w.heap.size w Z6):=HB1.out.trans ((zF wu.out HB6.out).mono HB1.out.size)
  clear HMV HFT CY wJ HT6 HT4 HB6 HB5 vB HB3 HB2 HQA HQB HQ1 wu
  go_wp2_with(first|(go_at_call 24;go_must(refine z9d.out.mono ?_);rintro e Z7 ⟨⟨ma,mc,rfl⟩,hb⟩;(have HB7:=qh hb);(obtain⟨⟨p0,p1,p2,p3,p4⟩,p5,p6,p7⟩:=HCZ.out Z7 hb);clear hb)|(go_at_call 26;go_must(refine(z9e.out Z7 HB7.out).mono ?_);rintro e Z8 ⟨rfl,hb⟩;(have HB8:=qh hb);clear hb))
  go_ret
  exact⟨rfl,bg.out.trans ((zF HB7.out HB8.out).mono bg.out.size)⟩
end Go.Proofs.YtliajkheeniljaaGreatDoor
