/- The moves that may be: the program's answer: the walk. Awake: what a few moves do in Dekker's code. -/
import Derived.Test.YtliajkheeniljaaGreatDoorZaExpQ
import Derived.Test.YtliajkheeniljaaGreatDoorZaPDo
import Derived.Test.YtliajkheeniljaaGreatDoorZaPFits
import Derived.Test.YtliajkheeniljaaGreatDoorZaPNext
import Derived.Test.YtliajkheeniljaaGreatDoorZaPStart
import Derived.Test.YtliajkheeniljaaGreatDoorZaShort
set_option linter.all false
namespace Go.Proofs.YtliajkheeniljaaGreatDoor
open Go.RowKit
set_option maxRecDepth 100000
set_option maxHeartbeats 16000000
theorem zqC {w:World} {s:zu} {sv mv:Value} (hs:zN w s sv mv):vB (fun _=>False) w (fun y=>zN y s sv mv):=fun _ hy=>hs.below (hy.below (Nat.le_refl _) (fun _ h=>h.elim))
theorem zd0 (w:World) (c:zS) (cv:Value) (d:Nat) (hc:yF d w cv c.threads) (m:zM) (s:zu) (sv mv:Value) (hs:zN w s sv mv) (hb:∀j,j<s.threads.length->(s.threads.getD j default).buf.length<=1000000):
  Calls Tryz.prog 24 #[yD c cv,yR m,zW s sv mv] w (zcU w (qL c m s d)):=by
 obtain⟨fo,hfo⟩:∃fo,fo=xX c m s:=⟨_,rfl⟩
 have hfits:=fun W (hW:Below w.heap.size w W)=>zae W c cv d (zl.below (xu.stays d) hc hW) m s sv mv (hs.below hW) hb
 rw [<-hfo] at hfits
 have hnext:=fun(hf:fo=true) W (hW:Below w.heap.size w W)=>zkT W c cv d (zl.below (xu.stays d) hc hW) m s sv mv (hs.below hW) hb (hfo.symm.trans hf) (fun _=>False) (fun _ h=>h.elim) (zqC (hs.below hW))
 have hno:fo=false->qL c m s d= [] :=fun e=>by unfold qL;rw [if_neg (by rw [<-hfo,e];decide)]
 obtain⟨R,hR⟩:∃R,R=qL c m s d:=⟨_,rfl⟩
 obtain⟨NX,hNX⟩:∃R,R=zfy c m s d:=⟨_,rfl⟩
 rw [<-hR, <-hNX] at hnext
 rw [<-hR] at hno ⊢
 clear hR hNX hfo
 obtain⟨ca,cc,rfl, -⟩:=zl.slice hc
 obtain⟨ta,xB,rfl, -⟩:=zl.slice hs.threads
 obtain⟨ma,yZ,rfl, -⟩:=zl.slice hs.mem
 unfold yD yR zW at hfits hnext ⊢
 clear hb hc hs
 generalize c.threads.length=cn at hfits hnext ⊢
 generalize s.threads.length=n at hfits hnext ⊢
 generalize s.mem.length=mn at hfits hnext ⊢
 generalize s.bad=bad at hfits hnext ⊢
 generalize c.vars=vars at hfits hnext ⊢
 generalize c.domain=dom at hfits hnext ⊢
 generalize m.model=mod at hfits hnext ⊢
 generalize m.bound=bnd at hfits hnext ⊢
 obtain⟨hB,h1,h2,h3⟩:=zaV w (.cells #[.int .i64 vars, .int .i64 dom, .slice ca cn cc] 24) (.cells #[.int .i64 mod, .int .i64 bnd] 26) (.cells #[.slice ta n xB, .slice ma mn yZ, .bool bad] 30)
 have HB:=qh hB
 have H1:=qh h1
 have H2:=qh h2
 have H3:=qh h3
 have wX:=qh hfits
 have zxa:=qh hnext
 have HNO:=qh hno
 clear hB h1 h2 h3 hfits hnext hno
 go_enter Tryz.func24,Tryz.ntmps24
 go_upto_region 1 with fail
 generalize World.alloc (World.alloc (World.alloc w _) _) _=W at HB H1 H2 H3 ⊢
 obtain⟨gx,hgx⟩:∃gx,gx=w.heap.size:=⟨_,rfl⟩
 rw [<-hgx] at H1 H2 H3 ⊢
 clear hgx
 have yJ:Hid (∀y,Below W.heap.size W y->y.cell? ⟨gx,0,none⟩=some (.int .i64 vars)/\y.cell? ⟨gx,1,none⟩=some (.int .i64 dom)/\y.cell? ⟨gx,2,none⟩=some (.slice ca cn cc)/\
   y.cell? ⟨gx+1,0,none⟩=some (.int .i64 mod)/\y.cell? ⟨gx+1,1,none⟩=some (.int .i64 bnd)/\y.cell? ⟨gx+2,0,none⟩=some (.slice ta n xB)/\y.cell? ⟨gx+2,1,none⟩=some (.slice ma mn yZ)/\y.cell? ⟨gx+2,2,none⟩=some (.bool bad)):=fun y hx=>
  ⟨zm hx _ _ (zh H1.out 0),zm hx _ _ (zh H1.out 1),zm hx _ _ (zh H1.out 2),zm hx _ _ (zh H2.out 0),zm hx _ _ (zh H2.out 1),zm hx _ _ (zh H3.out 0),zm hx _ _ (zh H3.out 1),zm hx _ _ (zh H3.out 2)⟩
 obtain⟨c0,c1,c2,c3,c4,c5,c6,c7⟩:=yJ.out W (Below.refl _ _)
 go_wp2_with fail
 refine(wX.out W HB.out).mono ?_
 rintro e W1 ⟨rfl,hb1⟩
 have HB1:=qh (HB.out.trans (hb1.mono HB.out.size))
 obtain⟨d0,d1,d2,d3,d4,d5,d6,d7⟩:=yJ.out W1 hb1
 clear hb1 wX c0 c1 c2 c3 c4 c5 c6 c7
 cases fo with
 |false=>
  have HR:=qh (HNO.out rfl)
  go_wp2_with fail
  go_ret
  exact uH (by rw [HR.out];rfl) (by rw [HR.out];exact World.ownsRow_nil _ _ _ _) HB1.out
 |true=>
  go_wp2_with fail
  refine(zxa.out (by trivial) W1 HB1.out).mono ?_
  rintro e W2 ⟨⟨va,vc,xa,xc,css,rfl,hrow, -⟩,hb2⟩
  have HRW:=qh (yN hrow HB1.out.size)
  have HB2:=qh (HB1.out.trans (hb2.mono HB1.out.size))
  clear hrow hb2 d0 d1 d2 d3 d4 d5 d6 d7
  go_wp2_with fail
  go_ret
  exact uH rfl HRW.out HB2.out
def zax:zM:=⟨1,1⟩
def zcu:zu:=⟨[⟨0, [0,0,0,0], []⟩,⟨0, [0,0,0,0], []⟩], [0,0],false⟩
def jA:zu:=⟨[⟨1, [0,0,0,0], [⟨0,1⟩]⟩,⟨0, [0,0,0,0], []⟩], [0,0],false⟩
def zp4:zu:=⟨[⟨1, [0,0,0,0], []⟩,⟨0, [0,0,0,0], []⟩], [1,0],false⟩
theorem zsP:kI xV=zcu:=by decide+kernel
theorem zsQ:vg xV zax zcu ⟨1,0,0⟩ 1=(jA,0):=by decide+kernel
theorem zsR:vg xV zax jA ⟨2,0,0⟩ 1=(zp4,0):=by decide+kernel
theorem zsS:vg xV zax jA ⟨2,1,0⟩ 1=(yI,50):=by decide+kernel
theorem zsU:vg xV zax yI ⟨1,0,0⟩ 1=(yI,1):=by decide+kernel
theorem zsV:(qL xV zax jA 1).length=3:=by decide+kernel
theorem zsW:xX xV zax jA=true:=by decide+kernel
theorem zcV {s:zu} (h:s=zcu\/s=jA\/s=yI):∀j,j<s.threads.length->(s.threads.getD j default).buf.length<=1000000:=by
 intro j hj
 have hd:∀s:zu,(s.threads.all fun t=>decide (t.buf.length<=1))=true->∀j,j<s.threads.length->(s.threads.getD j default).buf.length<=1000000:=fun s hs j hj=>by
  have:=List.all_eq_true.1 hs _ (jB (x:=default) hj)
  simp only [decide_eq_true_eq] at this
  omega
 rcases h with rfl|rfl|rfl<;>exact hd _ (by decide) j hj
theorem zd1 (w:World):Calls Tryz.prog 15 #[] w fun e w'=>e= .returned (.bool true)/\Below w.heap.size w w':=by
 have hd:Calls Tryz.prog 41 #[] w fun e w'=>(∃(ta:Option Addr) (tc:Nat),e= .returned (.agg #[.int .i64 2, .int .i64 2, .slice ta 2 tc])/\yF 1 w' (.slice ta 2 tc) xV.threads)/\Below w.heap.size w w':=by
  refine(zi5 w).mono ?_
  rintro e w' ⟨⟨tv,rfl,ht⟩,hb⟩
  obtain⟨ta,tc,rfl, -⟩:=zl.slice ht
  exact⟨⟨ta,tc,rfl,ht⟩,hb⟩
 have hst:∀y tv,yF 1 y tv xV.threads->Calls Tryz.prog 18 #[.agg #[.int .i64 2, .int .i64 2,tv]] y fun e w'=>(∃(a b:Option Addr) (c k:Nat),e= .returned (.agg #[.slice a 2 c, .slice b 2 k, .bool false])/\zN w' zcu (.slice a 2 c) (.slice b 2 k))/\Below y.heap.size y w':=fun y tv ht=>by
  refine(zd2 y xV tv 1 ht).mono ?_
  rintro e w' ⟨⟨sv,mv,rfl,hs⟩,hb⟩
  rw [zsP] at hs ⊢
  obtain⟨a,c,rfl, -⟩:=zl.slice hs.now.threads
  obtain⟨b,k,rfl, -⟩:=zl.slice hs.now.mem
  exact⟨⟨a,b,c,k,rfl,hs.now⟩,hb⟩
 have hdo:∀(s t:zu) (kd th vr er:Int),vg xV zax s ⟨kd,th,vr⟩ 1=(t,er)->(s=zcu\/s=jA\/s=yI)->∀y tv (a:Option Addr) (n c:Nat) (b:Option Addr) (m k:Nat) (bd:Bool),bd=s.bad->yF 1 y tv xV.threads->zN y s (.slice a n c) (.slice b m k)->
   Calls Tryz.prog 25 #[.agg #[.int .i64 2, .int .i64 2,tv], .agg #[.int .i64 1, .int .i64 1], .agg #[.slice a n c, .slice b m k, .bool bd], .agg #[.int .i64 kd, .int .i64 th, .int .i64 vr]] y fun e w'=>
    (∃(a b:Option Addr) (c k:Nat),e= .returned (.tuple #[.agg #[.slice a t.threads.length c, .slice b t.mem.length k, .bool t.bad], .int .i64 er])/\zN w' t (.slice a t.threads.length c) (.slice b t.mem.length k))/\Below y.heap.size y w':=fun s t kd th vr er he hs y tv a n c b m k bd hbd ht hst=>by
  have h:=zhG y xV tv 1 ht zax s _ _ hst (zcV hs) ⟨kd,th,vr⟩
  rw [he] at h
  subst hbd
  refine h.mono ?_
  rintro e w' ⟨hb,xa,xn,xc,ya,yn,yc,rfl,hf⟩
  have hs2:=hf.now hst
  obtain⟨_,_,e1, -⟩:=zl.slice hs2.threads
  obtain⟨_,_,e2, -⟩:=zl.slice hs2.mem
  cases e1
  cases e2
  exact⟨⟨_,_,_,_,rfl,hs2⟩,hb⟩
 have hd1:=hdo zcu jA 1 0 0 0 zsQ (.inl rfl)
 have hd2:=hdo jA zp4 2 0 0 0 zsR (.inr (.inl rfl))
 have hd3:=hdo jA yI 2 1 0 50 zsS (.inr (.inl rfl))
 have hd4:=hdo yI yI 1 0 0 1 zsU (.inr (.inr rfl))
 have hmv:∀y tv (a:Option Addr) (n c:Nat) (b:Option Addr) (m k:Nat),yF 1 y tv xV.threads->zN y jA (.slice a n c) (.slice b m k)->
   Calls Tryz.prog 24 #[.agg #[.int .i64 2, .int .i64 2,tv], .agg #[.int .i64 1, .int .i64 1], .agg #[.slice a n c, .slice b m k, .bool false]] y fun e w'=>(∃(a:Option Addr) (c:Nat),e= .returned (.slice a 3 c))/\Below y.heap.size y w':=fun y tv a n c b m k ht hst=>by
  refine(zd0 y xV tv 1 ht zax jA _ _ hst (zcV (.inr (.inl rfl)))).mono ?_
  rintro e w' ⟨⟨va,vc,rfl, -⟩,hb⟩
  rw [zsV]
  exact⟨⟨va,vc,rfl⟩,hb⟩
 have hft:∀y tv (a:Option Addr) (n c:Nat) (b:Option Addr) (m k:Nat),yF 1 y tv xV.threads->zN y jA (.slice a n c) (.slice b m k)->
   Calls Tryz.prog 26 #[.agg #[.int .i64 2, .int .i64 2,tv], .agg #[.int .i64 1, .int .i64 1], .agg #[.slice a n c, .slice b m k, .bool false]] y fun e w'=>e= .returned (.bool true)/\Below y.heap.size y w':=fun y tv a n c b m k ht hst=>by
  have h:=zae y xV tv 1 ht zax jA _ _ hst (zcV (.inr (.inl rfl)))
  rw [zsW] at h
  exact h
 have HD:=qh hd
 have HST:=qh hst
 have HD1:=qh hd1
 have HD2:=qh hd2
 have HD3:=qh hd3
 have HD4:=qh hd4
 have HMV:=qh hmv
 have HFT:=qh hft
 clear hd hst hdo hd1 hd2 hd3 hd4 hmv hft
 go_enter Tryz.func15,Tryz.ntmps15
 go_upto_region 2 with(go_at_call 41;go_must(refine HD.out.mono ?_);rintro e W1 ⟨⟨ta,tc,rfl,ht⟩,hb⟩;have HT1:=qh ht;have L1:=qh ((((Loc.start w).later hb).alloc 24 [.int .i64 2, .int .i64 2, .slice ta 2 tc]).alloc 26 [.int .i64 1, .int .i64 1]);clear ht hb)
 have HT2:=qh (zl.below (xu.stays 1) HT1.out (((Below.refl W1.heap.size W1).alloc (Nat.le_refl _) (.cells #[.int .i64 2, .int .i64 2, .slice ta 2 tc] 24)).alloc (by simp) (.cells #[.int .i64 1, .int .i64 1] 26)))
 obtain⟨g1,hg1⟩:∃g,g=W1.heap.size:=⟨_,rfl⟩
 have hg2:(World.alloc W1 (.cells [.int .i64 2, .int .i64 2, .slice ta 2 tc].toArray 24)).heap.size=g1+1:=by simp [hg1]
 have l1:=L1.out
 rw [hg2, <-hg1] at l1
 have L2:=qh l1
 rw [<-hg1]
 clear l1 hg1 hg2 L1 HT1
 generalize World.alloc (World.alloc W1 _) _=X1 at L2 HT2 ⊢
 have CX:Hid (∀y,Below X1.heap.size X1 y->y.cell? ⟨g1,0,none⟩=some (.int .i64 2)/\y.cell? ⟨g1,1,none⟩=some (.int .i64 2)/\y.cell? ⟨g1,2,none⟩=some (.slice ta 2 tc)/\y.cell? ⟨g1+1,0,none⟩=some (.int .i64 1)/\y.cell? ⟨g1+1,1,none⟩=some (.int .i64 1)):=fun y hy=>by
  have h:=L2.out.later hy
  have a1:=(h.news (g1,24, [.int .i64 2, .int .i64 2, .slice ta 2 tc]) (by simp)).1
  have a2:=(h.news (g1+1,26, [.int .i64 1, .int .i64 1]) (by simp)).1
  exact⟨zh a1 0,zh a1 1,zh a1 2,zh a2 0,zh a2 1⟩
 have HB1:Hid (Below w.heap.size w X1):=L2.out.below
 go_cut [3,4] (fun s3 s4 w'=>∃(g:Nat) (a b:Option Addr) (c k:Nat),s3= .pointer (some ⟨g,0,none⟩)/\s4= .int .i64 0/\Hid (w'.heap[g]? =some (.cells #[.slice a 2 c, .slice b 2 k, .bool false] 30 (0,0)))/\Hid (zN w' jA (.slice a 2 c) (.slice b 2 k))/\Hid (Below X1.heap.size X1 w'))
 case first=>
  refine wp_region_noPanic ?_
  refine wp_region_held_drew (S:=fun x=>Below X1.heap.size X1 x) (by kernel_rfl) (Below.refl _ _).drew (fun _=> ?_)
  obtain⟨V1,hV1⟩:∃V1,V1=X1.drew:=⟨_,rfl⟩
  have hT0:Hid (Below X1.heap.size X1 V1):=by rw [hV1];exact(Below.refl _ _).drew
  rw [<-hV1]
  clear hV1
  refine zA 0 14 ?va1 rfl ?zn7 (hT0.out) ?_
  case zn7=>(intro x h;have e:=CX.out x h;go_simp<;>rfl)
  simp only [Act.put,za,ze,zf]
  refine zA 1 15 ?va2 rfl ?zn8 (hT0.out) ?_
  case zn8=>(intro x h;have e:=CX.out x h;go_simp<;>rfl)
  simp only [Act.put,za,ze,zf]
  refine zA 2 16 ?va3 rfl ?zn9 (hT0.out) ?_
  case zn9=>(intro x h;have e:=CX.out x h;go_simp<;>rfl)
  simp only [Act.put,za,ze,zf]
  refine zA 4 18 ?va4 rfl ?znA (hT0.out) ?_
  case znA=>(intro _ _;go_simp<;>rfl)
  simp only [Act.put,za,ze,zf]
  refine wpAnyH_ready (rs:= [3,9]) (by kernel_rfl) (by simp) ?_
  refine AllReadyH.cons rfl (fun K hK=> ?_) (AllReadyH.cons rfl (fun K hK=> ?_) AllReadyH.nil)
  ·skip
   go_simp
   refine(HST.out V1 _ (zl.below (xu.stays 1) HT2.out hT0.out)).mono ?_
   rintro e Ya1 ⟨⟨sa,sb,sc,sk,rfl,hs⟩,hb⟩
   have zi6:=qh hs
   have uX:=qh (zB hT0.out hb)
   clear hs hb
   refine hK.out _ _ uX.out (fun _=> ?_)
   clear hK K
   refine wpAnyH_ready (rs:= [5,9]) (by kernel_rfl) (by simp) ?_
   refine AllReadyH.cons rfl (fun K hK=> ?_) (AllReadyH.cons rfl (fun K hK=> ?_) AllReadyH.nil)
   ·skip
    go_simp
    refine(HD1.out Ya1 _ _ _ _ _ _ _ _ rfl (zl.below (xu.stays 1) HT2.out uX.out) zi6.out).mono ?_
    rintro e Ya3 ⟨⟨sa1,sb1,wY,wZ,rfl,hs⟩,hb⟩
    have zxb:=qh (zi6.out.below hb)
    have zxc:=qh hs
    have pF:=qh (zB uX.out hb)
    clear hs hb
    refine hK.out _ _ pF.out (fun _=> ?_)
    clear hK K
    refine zA 6 13 ?va5 rfl ?znB (pF.out) ?_
    case znB=>(intro _ _;go_simp<;>rfl)
    simp only [Act.put,za,ze,zf]
    refine zA 7 20 ?va6 rfl ?znC (pF.out) ?_
    case znC=>(intro _ _;go_simp<;>rfl)
    simp only [Act.put,za,ze,zf]
    refine zA 8 21 ?va7 rfl ?znD (pF.out) ?_
    case znD=>(intro _ _;go_simp<;>rfl)
    simp only [Act.put,za,ze,zf]
    refine zT 9 rfl (fun K hK=> ?_)
    go_simp
    have hz:=yK Ya3 (.cells #[.slice none 0 0, .slice none 0 0, .bool false] 30)
    have hb:=(Below.refl Ya3.heap.size Ya3).alloc (Nat.le_refl _) (.cells #[.slice none 0 0, .slice none 0 0, .bool false] 30)
    have jv:Hid (X1.heap.size<=Ya3.heap.size):=(pF.out).size
    have zxd:=qh (zxb.out.below hb)
    have zp5:=qh (zxc.out.below hb)
    have zaW:=qh (zB pF.out hb)
    clear hb
    refine hK.out _ _ zaW.out (fun _=> ?_)
    obtain⟨gs,hgs⟩:∃g,g=Ya3.heap.size:=⟨_,rfl⟩
    rw [<-hgs] at hz jv ⊢
    clear hgs
    generalize World.alloc Ya3 _=Ya5 at hz zxd zp5 zaW ⊢
    have gq:=qh hz
    clear hz
    clear hK K
    refine zT 10 rfl (fun K hK=> ?_)
    have d0:=zh gq.out 0
    have d1:=zh gq.out 1
    have d2:=zh gq.out 2
    have f0:=zK gq.out 0
    have f1:=zK gq.out 1
    have f2:=zK gq.out 2
    have HZ2:=qh (qX (cs:= [.slice none 0 0, .slice none 0 0, .bool false]) [.slice sa1 2 wY, .slice sb1 2 wZ, .bool false] rfl gq.out)
    have hsi:=xK (g:=gs) [.slice sa1 2 wY, .slice sb1 2 wZ, .bool false] Ya5 0
    have kg:=qh (kJ zp5.out gq.out hsi)
    have jM:Hid (Below X1.heap.size X1 (zU Ya5 gs 0 [.slice sa1 2 wY, .slice sb1 2 wZ, .bool false])):=(zaW.out).trans (hsi.below (zaW.out).size (fun k hk=>by have:=jv.out;omega))
    clear hsi
    go_simp
    clear d0 d1 d2 f0 f1 f2
    refine hK.out _ (zU Ya5 gs 0 [.slice sa1 2 wY, .slice sb1 2 wZ, .bool false]) jM.out (fun _=> ?_)
    generalize zU Ya5 gs 0 _=Y4 at HZ2 kg jM ⊢
    clear hK K
    refine zA 11 4 ?va8 rfl ?znE (jM.out) ?_
    case znE=>(intro _ _;go_simp<;>rfl)
    simp only [Act.put,za,ze,zf]
    refine wpAnyH_done (by kernel_rfl) ?_ _
    refine NoPanic.normal ?_
    go_wp2_with fail
    go_meet
    case rel=>exact⟨gs,sa1,sb1,wY,wZ,rfl,rfl,HZ2.out,kg.out,jM.out⟩
   ·skip
    go_simp
    have hz:=yK Ya1 (.cells #[.slice none 0 0, .slice none 0 0, .bool false] 30)
    have hb:=(Below.refl Ya1.heap.size Ya1).alloc (Nat.le_refl _) (.cells #[.slice none 0 0, .slice none 0 0, .bool false] 30)
    have jv:Hid (X1.heap.size<=Ya1.heap.size):=(uX.out).size
    have zi7:=qh (zi6.out.below hb)
    have pG:=qh (zB uX.out hb)
    clear hb
    refine hK.out _ _ pG.out (fun _=> ?_)
    obtain⟨gs,hgs⟩:∃g,g=Ya1.heap.size:=⟨_,rfl⟩
    rw [<-hgs] at hz jv ⊢
    clear hgs
    generalize World.alloc Ya1 _=Ya7 at hz zi7 pG ⊢
    have gy:=qh hz
    clear hz
    clear hK K
    refine zT 5 rfl (fun K hK=> ?_)
    go_simp
    refine(HD1.out Ya7 _ _ _ _ _ _ _ _ rfl (zl.below (xu.stays 1) HT2.out pG.out) zi7.out).mono ?_
    rintro e Ya9 ⟨⟨sa1,sb1,wY,wZ,rfl,hs⟩,hb⟩
    have z9S:=qh (zi7.out.below hb)
    have zah:=qh ((hb.block gs (zJ gy.out)).trans gy.out)
    have zxe:=qh hs
    have zcv:=qh (zB pG.out hb)
    clear hs hb
    refine hK.out _ _ zcv.out (fun _=> ?_)
    clear hK K
    refine zA 6 13 ?va9 rfl ?znF (zcv.out) ?_
    case znF=>(intro _ _;go_simp<;>rfl)
    simp only [Act.put,za,ze,zf]
    refine zA 7 20 ?z2h rfl ?zi8 (zcv.out) ?_
    case zi8=>(intro _ _;go_simp<;>rfl)
    simp only [Act.put,za,ze,zf]
    refine zA 8 21 ?z2i rfl ?zi9 (zcv.out) ?_
    case zi9=>(intro _ _;go_simp<;>rfl)
    simp only [Act.put,za,ze,zf]
    refine zT 10 rfl (fun K hK=> ?_)
    have d0:=zh zah.out 0
    have d1:=zh zah.out 1
    have d2:=zh zah.out 2
    have f0:=zK zah.out 0
    have f1:=zK zah.out 1
    have f2:=zK zah.out 2
    have HZ2:=qh (qX (cs:= [.slice none 0 0, .slice none 0 0, .bool false]) [.slice sa1 2 wY, .slice sb1 2 wZ, .bool false] rfl zah.out)
    have hsi:=xK (g:=gs) [.slice sa1 2 wY, .slice sb1 2 wZ, .bool false] Ya9 0
    have kg:=qh (kJ zxe.out zah.out hsi)
    have jM:Hid (Below X1.heap.size X1 (zU Ya9 gs 0 [.slice sa1 2 wY, .slice sb1 2 wZ, .bool false])):=(zcv.out).trans (hsi.below (zcv.out).size (fun k hk=>by have:=jv.out;omega))
    clear hsi
    go_simp
    clear d0 d1 d2 f0 f1 f2
    refine hK.out _ (zU Ya9 gs 0 [.slice sa1 2 wY, .slice sb1 2 wZ, .bool false]) jM.out (fun _=> ?_)
    generalize zU Ya9 gs 0 _=Y4 at HZ2 kg jM ⊢
    clear hK K
    refine zA 11 4 ?z2j rfl ?ziA (jM.out) ?_
    case ziA=>(intro _ _;go_simp<;>rfl)
    simp only [Act.put,za,ze,zf]
    refine wpAnyH_done (by kernel_rfl) ?_ _
    refine NoPanic.normal ?_
    go_wp2_with fail
    go_meet
    case rel=>exact⟨gs,sa1,sb1,wY,wZ,rfl,rfl,HZ2.out,kg.out,jM.out⟩
  ·skip
   go_simp
   have hz:=yK V1 (.cells #[.slice none 0 0, .slice none 0 0, .bool false] 30)
   have hb:=(Below.refl V1.heap.size V1).alloc (Nat.le_refl _) (.cells #[.slice none 0 0, .slice none 0 0, .bool false] 30)
   have jv:Hid (X1.heap.size<=V1.heap.size):=(hT0.out).size
   have zfz:=qh (zB hT0.out hb)
   clear hb
   refine hK.out _ _ zfz.out (fun _=> ?_)
   obtain⟨gs,hgs⟩:∃g,g=V1.heap.size:=⟨_,rfl⟩
   rw [<-hgs] at hz jv ⊢
   clear hgs
   generalize World.alloc V1 _=z2k at hz zfz ⊢
   have zkU:=qh hz
   clear hz
   clear hK K
   refine zT 3 rfl (fun K hK=> ?_)
   go_simp
   refine(HST.out z2k _ (zl.below (xu.stays 1) HT2.out zfz.out)).mono ?_
   rintro e z2l ⟨⟨sa,sb,sc,sk,rfl,hs⟩,hb⟩
   have zkV:=qh ((hb.block gs (zJ zkU.out)).trans zkU.out)
   have zkW:=qh hs
   have ziB:=qh (zB zfz.out hb)
   clear hs hb
   refine hK.out _ _ ziB.out (fun _=> ?_)
   clear hK K
   refine zT 5 rfl (fun K hK=> ?_)
   go_simp
   refine(HD1.out z2l _ _ _ _ _ _ _ _ rfl (zl.below (xu.stays 1) HT2.out ziB.out) zkW.out).mono ?_
   rintro e ziC ⟨⟨sa1,sb1,wY,wZ,rfl,hs⟩,hb⟩
   have uM:=qh ((hb.block gs (zJ zkV.out)).trans zkV.out)
   have z6f:=qh (zkW.out.below hb)
   have zsX:=qh hs
   have zcw:=qh (zB ziB.out hb)
   clear hs hb
   refine hK.out _ _ zcw.out (fun _=> ?_)
   clear hK K
   refine zA 6 13 ?z2m rfl ?ziD (zcw.out) ?_
   case ziD=>(intro _ _;go_simp<;>rfl)
   simp only [Act.put,za,ze,zf]
   refine zA 7 20 ?z2n rfl ?ziE (zcw.out) ?_
   case ziE=>(intro _ _;go_simp<;>rfl)
   simp only [Act.put,za,ze,zf]
   refine zA 8 21 ?z2o rfl ?ziF (zcw.out) ?_
   case ziF=>(intro _ _;go_simp<;>rfl)
   simp only [Act.put,za,ze,zf]
   refine zT 10 rfl (fun K hK=> ?_)
   have d0:=zh uM.out 0
   have d1:=zh uM.out 1
   have d2:=zh uM.out 2
   have f0:=zK uM.out 0
   have f1:=zK uM.out 1
   have f2:=zK uM.out 2
   have HZ2:=qh (qX (cs:= [.slice none 0 0, .slice none 0 0, .bool false]) [.slice sa1 2 wY, .slice sb1 2 wZ, .bool false] rfl uM.out)
   have hsi:=xK (g:=gs) [.slice sa1 2 wY, .slice sb1 2 wZ, .bool false] ziC 0
   have kg:=qh (kJ zsX.out uM.out hsi)
   have jM:Hid (Below X1.heap.size X1 (zU ziC gs 0 [.slice sa1 2 wY, .slice sb1 2 wZ, .bool false])):=(zcw.out).trans (hsi.below (zcw.out).size (fun k hk=>by have:=jv.out;omega))
   clear hsi
   go_simp
   clear d0 d1 d2 f0 f1 f2
   refine hK.out _ (zU ziC gs 0 [.slice sa1 2 wY, .slice sb1 2 wZ, .bool false]) jM.out (fun _=> ?_)
   generalize zU ziC gs 0 _=Y4 at HZ2 kg jM ⊢
   clear hK K
   refine zA 11 4 ?zB4 rfl ?zxf (jM.out) ?_
   case zxf=>(intro _ _;go_simp<;>rfl)
   simp only [Act.put,za,ze,zf]
   refine wpAnyH_done (by kernel_rfl) ?_ _
   refine NoPanic.normal ?_
   go_wp2_with fail
   go_meet
   case rel=>exact⟨gs,sa1,sb1,wY,wZ,rfl,rfl,HZ2.out,kg.out,jM.out⟩
 case rest=>
  obtain⟨gs,sa1,sb1,wY,wZ,rfl,rfl,HZ2,kg,jM⟩:=hcut
  obtain⟨Y4,rfl⟩:∃Y:World,Y=wc:=⟨_,rfl⟩
  have CY:Hid (∀y,Below Y4.heap.size Y4 y->(y.cell? ⟨g1,0,none⟩=some (.int .i64 2)/\y.cell? ⟨g1,1,none⟩=some (.int .i64 2)/\y.cell? ⟨g1,2,none⟩=some (.slice ta 2 tc)/\y.cell? ⟨g1+1,0,none⟩=some (.int .i64 1)/\y.cell? ⟨g1+1,1,none⟩=some (.int .i64 1))/\y.cell? ⟨gs,0,none⟩=some (.slice sa1 2 wY)/\y.cell? ⟨gs,1,none⟩=some (.slice sb1 2 wZ)/\y.cell? ⟨gs,2,none⟩=some (.bool false)):=fun y hy=>⟨CX.out y (zB jM.out hy),zm hy _ _ (zh HZ2.out 0),zm hy _ _ (zh HZ2.out 1),zm hy _ _ (zh HZ2.out 2)⟩
  have HYB:=jM
  have HT4:=qh (zl.below (xu.stays 1) HT2.out jM.out)
  clear HZ2 CX HT2 L2 HD HST HD1
  obtain⟨⟨k0,k1,k2,k3,k4⟩,k5,k6,k7⟩:=CY.out Y4 (Below.refl _ _)
  go_upto_region 4 with(go_at_call 25;go_must(refine(HD2.out Y4 _ _ _ _ _ _ _ _ rfl HT4.out kg.out).mono ?_);rintro e Z1 ⟨⟨ta2,tb2,tc2,tk2,rfl,hs⟩,hb⟩;(have HT5:=qh hs);(have HZ1:=qh hb);clear hs hb)
  have hb2:=HZ1.out.alloc HZ1.out.size (.cells #[.slice ta2 2 tc2, .slice tb2 2 tk2, .bool false] 30)
  have HQ1:=qh (yK Z1 (.cells #[.slice ta2 2 tc2, .slice tb2 2 tk2, .bool false] 30))
  have HT6:=qh (HT5.out.below ((Below.refl Z1.heap.size Z1).alloc (Nat.le_refl _) (.cells #[.slice ta2 2 tc2, .slice tb2 2 tk2, .bool false] 30)))
  have HB2:=qh hb2
  clear hb2 k0 k1 k2 k3 k4 k5 k6 k7 HT5 HZ1 HD2
  show Code.wp _ _ _ _ (World.alloc Z1 (.cells #[.slice ta2 2 tc2, .slice tb2 2 tk2, .bool false] 30))
  generalize World.alloc Z1 _=Z2 at HQ1 HT6 HB2 ⊢
  generalize Z1.heap.size=gt at HQ1 ⊢
  obtain⟨⟨k0,k1,k2,k3,k4⟩,k5,k6,k7⟩:=CY.out Z2 HB2.out
  have hq:=fun y (hy:Below Z2.heap.size Z2 y)=>zm hy _ _ (zh HQ1.out 0)
  have hq':=fun y (hy:Below Z2.heap.size Z2 y)=>zm hy _ _ (zh HQ1.out 1)
  have HQA:=qh hq
  have HQB:=qh hq'
  clear hq hq'
  go_upto_region 5 with(go_at_call 25;go_must(refine(HD3.out Z2 _ _ _ _ _ _ _ _ rfl (zl.below (xu.stays 1) HT4.out HB2.out) (kg.out.below HB2.out)).mono ?_);rintro e Z3 ⟨⟨ta3,tb3,tc3,tk3,rfl,hs⟩,hb⟩;(have HZ3:=qh hb);clear hs hb)
  have hb3:=HZ3.out.alloc HZ3.out.size (.cells #[.slice ta3 0 tc3, .slice tb3 0 tk3, .bool false] 30)
  have HB3:=qh hb3
  clear hb3 k0 k1 k2 k3 k4 k5 k6 k7 HD3 HZ3
  show Code.wp _ _ _ _ (World.alloc Z3 (.cells #[.slice ta3 0 tc3, .slice tb3 0 tk3, .bool false] 30))
  generalize World.alloc Z3 _=Z4 at HB3 ⊢
  generalize Z3.heap.size=gu
  have qO:=qh (zB HB2.out HB3.out)
  obtain⟨⟨k0,k1,k2,k3,k4⟩,k5,k6,k7⟩:=CY.out Z4 qO.out
  have zsY:Hid (zN Z4 yI (.slice none 0 0) (.slice none 0 0)):=zfR _
  go_upto_region 6 with(go_at_call 25;go_must(refine(HD4.out Z4 _ _ _ _ _ _ _ _ rfl (zl.below (xu.stays 1) HT4.out qO.out) zsY.out).mono ?_);rintro e Z5 ⟨⟨ta4,tb4,tc4,tk4,rfl,hs⟩,hb⟩;(have HZ5:=qh hb);clear hs hb)
  have hb5:=HZ5.out.alloc HZ5.out.size (.cells #[.slice ta4 0 tc4, .slice tb4 0 tk4, .bool false] 30)
  have uK:=qh (zB HB3.out hb5)
  clear hb5 k0 k1 k2 k3 k4 k5 k6 k7 HD4 HZ5 zsY
  show Code.wp _ _ _ _ (World.alloc Z5 (.cells #[.slice ta4 0 tc4, .slice tb4 0 tk4, .bool false] 30))
  generalize World.alloc Z5 _=Z6 at uK ⊢
  generalize Z5.heap.size=gv
  have HB6:=qh (zB HB2.out uK.out)
  obtain⟨⟨k0,k1,k2,k3,k4⟩,k5,k6,k7⟩:=CY.out Z6 HB6.out
  have k8:=HQA.out Z6 uK.out
  have k9:=HQB.out Z6 uK.out
  obtain⟨xb,xo,xba,xbc,hxa, -, -,x0, -, -, -, -,x5, -⟩:=xD.part (kg.out.below HB6.out).threads 0 (by decide)
  obtain⟨yb,yo,hya, -,y0⟩:=xH.part (kg.out.below HB6.out).mem 0 (by decide)
  obtain⟨ub,uo,uba,ubc,hua, -, -,u0, -, -, -, -,u5, -⟩:=xD.part (HT6.out.below uK.out).threads 0 (by decide)
  obtain⟨vb,vo,hva, -,v0⟩:=xH.part (HT6.out.below uK.out).mem 0 (by decide)
  subst hxa hya hua hva
  rw [Nat.zero_mul,Nat.add_zero] at x0 x5 u0 u5
  rw [Nat.add_zero] at y0 v0
  replace x0:Z6.cell? ⟨xb,xo,none⟩=some (.int .i64 1):=x0
  replace x5:Z6.cell? ⟨xb,xo+5,none⟩=some (.slice xba 1 xbc):=x5
  replace y0:Z6.cell? ⟨yb,yo,none⟩=some (.int .i64 0):=y0
  replace u5:Z6.cell? ⟨ub,uo+5,none⟩=some (.slice uba 0 ubc):=u5
  replace v0:Z6.cell? ⟨vb,vo,none⟩=some (.int .i64 1):=v0
  clear u0
  have z2p:=qh (HMV.out Z6 _ _ _ _ _ _ _ (zl.below (xu.stays 1) HT4.out HB6.out) (kg.out.below HB6.out))
  have z2q:=qh (fun y (hy:Below Z6.heap.size Z6 y)=>HFT.out y _ _ _ _ _ _ _ (zl.below (xu.stays 1) HT4.out (zB HB6.out hy)) (kg.out.below (zB HB6.out hy)))
  have HCZ:=qh (fun y (hy:Below Z6.heap.size Z6 y)=>CY.out y (zB HB6.out hy))
  have wR:Hid (Below w.heap.size w Z6):=HB1.out.trans ((zB jM.out HB6.out).mono HB1.out.size)
  clear HMV HFT CY kg HT6 HT4 HB6 uK qO HB3 HB2 HQA HQB HQ1 jM
  go_wp2_with(first|(go_at_call 24;go_must(refine z2p.out.mono ?_);rintro e Z7 ⟨⟨ma,mc,rfl⟩,hb⟩;(have HB7:=qh hb);(obtain⟨⟨p0,p1,p2,p3,p4⟩,p5,p6,p7⟩:=HCZ.out Z7 hb);clear hb)|(go_at_call 26;go_must(refine(z2q.out Z7 HB7.out).mono ?_);rintro e Z8 ⟨rfl,hb⟩;(have HB8:=qh hb);clear hb))
  go_ret
  exact⟨rfl,wR.out.trans ((zB HB7.out HB8.out).mono wR.out.size)⟩
end Go.Proofs.YtliajkheeniljaaGreatDoor
