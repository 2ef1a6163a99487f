/- Steps. -/
import Derived.Test.YteggflahafiieaaGreatDoorZgPDo
import Derived.Test.YteggflahafiieaaGreatDoorZgPNext
import Derived.Test.YteggflahafiieaaGreatDoorZgPStart
set_option linter.all false
namespace Go.Proofs.YteggflahafiieaaGreatDoor
open Go.RowKit
set_option maxRecDepth 100000
set_option maxHeartbeats 16000000
theorem zxB {w:World} {s:zm} {sv mv:Value} (hs:yh w s sv mv):yK (λ_=>False) w (λy=>yh y s sv mv):=λ_ hy=>hs.below (hy.below (Nat.le_refl _) (λ_ h=>h.elim))
theorem zg5 (w:World) (c:zK) (cv:Value) (d:Nat) (hc:yZ d w cv c.threads) (m:zF) (s:zm) (sv mv:Value) (hs:yh w s sv mv) (hb:∀j,j<s.threads.length->(s.threads.getD j default).buf.length<=1000000):
  Calls Tryz.prog 13 #[yT c cv,xD m,yR s sv mv] w (zfw w (qM c m s d)):=by
 obtain⟨fo,hfo⟩:∃fo,fo=xR c m s:=⟨_,rfl⟩
 have hfits:=λW (hW:Below w.heap.size w W)=>zdB W c cv d (ze.below (xK.stays d) hc hW) m s sv mv (hs.below hW) hb
 rw [<-hfo] at hfits
 have hnext:=λ(hf:fo=true) W (hW:Below w.heap.size w W)=>zr1 W c cv d (ze.below (xK.stays d) hc hW) m s sv mv (hs.below hW) hb (hfo.symm.trans hf) (λ_=>False) (λ_ h=>h.elim) (zxB (hs.below hW))
 have hno:fo=false->qM c m s d= [] :=λe=>by unfold qM;rw [if_neg (by rw [<-hfo,e];decide)]
 obtain⟨R,hR⟩:∃R,R=qM c m s d:=⟨_,rfl⟩
 obtain⟨NX,hNX⟩:∃R,R=zkO c m s d:=⟨_,rfl⟩
 rw [<-hR, <-hNX] at hnext
 rw [<-hR] at hno ⊢
 clear hR hNX hfo
 obtain⟨ca,cc,rfl, -⟩:=ze.slice hc
 obtain⟨ta,vE,rfl, -⟩:=ze.slice hs.threads
 obtain⟨ma,qN,rfl, -⟩:=ze.slice hs.mem
 unfold yT xD yR at hfits hnext ⊢
 clear hb hc hs
 generalize c.threads.length=cn at hfits hnext ⊢
 generalize s.threads.length=n at hfits hnext ⊢
 generalize s.mem.length=mn at hfits hnext ⊢
 generalize s.bad=bad at hfits hnext ⊢
 generalize c.vars=vars at hfits hnext ⊢
 generalize c.domain=dom at hfits hnext ⊢
 generalize m.model=mod at hfits hnext ⊢
 generalize m.bound=bnd at hfits hnext ⊢
 obtain⟨hB,h1,h2,h3⟩:=za8 w (.cells #[.int .i64 vars, .int .i64 dom, .slice ca cn cc] 26) (.cells #[.int .i64 mod, .int .i64 bnd] 31) (.cells #[.slice ta n vE, .slice ma mn qN, .bool bad] 35)
 have HB:=qh hB
 have H1:=qh h1
 have H2:=qh h2
 have H3:=qh h3
 have bN:=qh hfits
 have z2M:=qh hnext
 have HNO:=qh hno
 clear hB h1 h2 h3 hfits hnext hno
 go_enter Tryz.func13,Tryz.ntmps13
 go_upto_region 1 with fail
 generalize World.alloc (World.alloc (World.alloc w _) _) _=W at HB H1 H2 H3 ⊢
 obtain⟨gx,hgx⟩:∃gx,gx=w.heap.size:=⟨_,rfl⟩
 rw [<-hgx] at H1 H2 H3 ⊢
 clear hgx
 have xJ:Hid (∀y,Below W.heap.size W y->y.cell? ⟨gx,0,none⟩=some (.int .i64 vars)/\y.cell? ⟨gx,1,none⟩=some (.int .i64 dom)/\y.cell? ⟨gx,2,none⟩=some (.slice ca cn cc)/\
   y.cell? ⟨gx+1,0,none⟩=some (.int .i64 mod)/\y.cell? ⟨gx+1,1,none⟩=some (.int .i64 bnd)/\y.cell? ⟨gx+2,0,none⟩=some (.slice ta n vE)/\y.cell? ⟨gx+2,1,none⟩=some (.slice ma mn qN)/\y.cell? ⟨gx+2,2,none⟩=some (.bool bad)):=λy hx=>
  ⟨zh hx _ _ (za H1.out 0),zh hx _ _ (za H1.out 1),zh hx _ _ (za H1.out 2),zh hx _ _ (za H2.out 0),zh hx _ _ (za H2.out 1),zh hx _ _ (za H3.out 0),zh hx _ _ (za H3.out 1),zh hx _ _ (za H3.out 2)⟩
 obtain⟨c0,c1,c2,c3,c4,c5,c6,c7⟩:=xJ.out W (Below.refl _ _)
 go_wp2_with fail
 refine(bN.out W HB.out).mono ?_
 rintro e W1 ⟨rfl,hb1⟩
 have HB1:=qh (HB.out.trans (hb1.mono HB.out.size))
 obtain⟨d0,d1,d2,d3,d4,d5,d6,d7⟩:=xJ.out W1 hb1
 clear hb1 bN c0 c1 c2 c3 c4 c5 c6 c7
 cases fo with
 |false=>
  have HR:=qh (HNO.out rfl)
  go_wp2_with fail
  go_ret
  exact zac (by rw [HR.out];rfl) (by rw [HR.out];exact World.ownsRow_nil _ _ _ _) HB1.out
 |true=>
 go_wp2_with fail
 refine(z2M.out (by trivial) W1 HB1.out).mono ?_
 rintro e W2 ⟨⟨va,vc,xa,xc,css,rfl,hrow, -⟩,hb2⟩
 have HRW:=qh (xw hrow HB1.out.size)
 have HB2:=qh (HB1.out.trans (hb2.mono HB1.out.size))
 clear hrow hb2 d0 d1 d2 d3 d4 d5 d6 d7
 go_wp2_with fail
 go_ret
 exact zac rfl HRW.out HB2.out
def zbI:zF:=⟨1,1⟩
def zev:zm:=⟨[⟨0, [0,0,0,0], []⟩,⟨0, [0,0,0,0], []⟩], [0,0],false⟩
def wD:zm:=⟨[⟨1, [0,0,0,0], [⟨0,1⟩]⟩,⟨0, [0,0,0,0], []⟩], [0,0],false⟩
def zwJ:zm:=⟨[⟨1, [0,0,0,0], []⟩,⟨0, [0,0,0,0], []⟩], [1,0],false⟩
theorem zzN:uJ qI=zev:=by decide+kernel
theorem zzO:ji qI zbI zev ⟨1,0,0⟩ 1=(wD,0):=by decide+kernel
theorem zzP:ji qI zbI wD ⟨2,0,0⟩ 1=(zwJ,0):=by decide+kernel
theorem zzQ:ji qI zbI wD ⟨2,1,0⟩ 1=(yP,50):=by decide+kernel
theorem zzR:ji qI zbI yP ⟨1,0,0⟩ 1=(yP,1):=by decide+kernel
theorem zzS:(qM qI zbI wD 1).length=3:=by decide+kernel
theorem zzT:xR qI zbI wD=true:=by decide+kernel
theorem zfx {s:zm} (h:s=zev\/s=wD\/s=yP):∀j,j<s.threads.length->(s.threads.getD j default).buf.length<=1000000:=by
 intro j hj
 have hd:∀s:zm,(s.threads.all λt=>decide (t.buf.length<=1))=true->∀j,j<s.threads.length->(s.threads.getD j default).buf.length<=1000000:=λs hs j hj=>by
  have:=List.all_eq_true.1 hs _ (qP (x:=default) hj)
  simp only [decide_eq_true_eq] at this
  omega
 rcases h with rfl|rfl|rfl<;>exact hd _ (by decide) j hj
theorem zqw (w:World):Calls Tryz.prog 8 #[] w λe w'=>e= .returned (.bool true)/\Below w.heap.size w w':=by
 have hd:Calls Tryz.prog 24 #[] w λe w'=>(∃(ta:Option Addr) (tc:Nat),e= .returned (.agg #[.int .i64 2, .int .i64 2, .slice ta 2 tc])/\yZ 1 w' (.slice ta 2 tc) qI.threads)/\Below w.heap.size w w':=by
  refine(zqC w).mono ?_
  rintro e w' ⟨⟨tv,rfl,ht⟩,hb⟩
  obtain⟨ta,tc,rfl, -⟩:=ze.slice ht
  exact⟨⟨ta,tc,rfl,ht⟩,hb⟩
 have hst:∀y tv,yZ 1 y tv qI.threads->Calls Tryz.prog 25 #[.agg #[.int .i64 2, .int .i64 2,tv]] y λe w'=>(∃(a b:Option Addr) (c k:Nat),e= .returned (.agg #[.slice a 2 c, .slice b 2 k, .bool false])/\yh w' zev (.slice a 2 c) (.slice b 2 k))/\Below y.heap.size y w':=λy tv ht=>by
  refine(zq9 y qI tv 1 ht).mono ?_
  rintro e w' ⟨⟨sv,mv,rfl,hs⟩,hb⟩
  rw [zzN] at hs ⊢
  obtain⟨a,c,rfl, -⟩:=ze.slice hs.now.threads
  obtain⟨b,k,rfl, -⟩:=ze.slice hs.now.mem
  exact⟨⟨a,b,c,k,rfl,hs.now⟩,hb⟩
 have hdo:∀(s t:zm) (kd th vr er:Int),ji qI zbI s ⟨kd,th,vr⟩ 1=(t,er)->(s=zev\/s=wD\/s=yP)->∀y tv (a:Option Addr) (n c:Nat) (b:Option Addr) (m k:Nat) (bd:Bool),bd=s.bad->yZ 1 y tv qI.threads->yh y s (.slice a n c) (.slice b m k)->
   Calls Tryz.prog 14 #[.agg #[.int .i64 2, .int .i64 2,tv], .agg #[.int .i64 1, .int .i64 1], .agg #[.slice a n c, .slice b m k, .bool bd], .agg #[.int .i64 kd, .int .i64 th, .int .i64 vr]] y λe w'=>
    (∃(a b:Option Addr) (c k:Nat),e= .returned (.tuple #[.agg #[.slice a t.threads.length c, .slice b t.mem.length k, .bool t.bad], .int .i64 er])/\yh w' t (.slice a t.threads.length c) (.slice b t.mem.length k))/\Below y.heap.size y w':=λs t kd th vr er he hs y tv a n c b m k bd hbd ht hst=>by
  have h:=zpq y qI tv 1 ht zbI s _ _ hst (zfx hs) ⟨kd,th,vr⟩
  rw [he] at h
  subst hbd
  refine h.mono ?_
  rintro e w' ⟨hb,xa,xn,xc,ya,yn,yc,rfl,hf⟩
  have hs2:=hf.now hst
  obtain⟨_,_,e1, -⟩:=ze.slice hs2.threads
  obtain⟨_,_,e2, -⟩:=ze.slice hs2.mem
  cases e1
  cases e2
  exact⟨⟨_,_,_,_,rfl,hs2⟩,hb⟩
 have hd1:=hdo zev wD 1 0 0 0 zzO (.inl rfl)
 have hd2:=hdo wD zwJ 2 0 0 0 zzP (.inr (.inl rfl))
 have hd3:=hdo wD yP 2 1 0 50 zzQ (.inr (.inl rfl))
 have hd4:=hdo yP yP 1 0 0 1 zzR (.inr (.inr rfl))
 have hmv:∀y tv (a:Option Addr) (n c:Nat) (b:Option Addr) (m k:Nat),yZ 1 y tv qI.threads->yh y wD (.slice a n c) (.slice b m k)->
   Calls Tryz.prog 13 #[.agg #[.int .i64 2, .int .i64 2,tv], .agg #[.int .i64 1, .int .i64 1], .agg #[.slice a n c, .slice b m k, .bool false]] y λe w'=>(∃(a:Option Addr) (c:Nat),e= .returned (.slice a 3 c))/\Below y.heap.size y w':=λy tv a n c b m k ht hst=>by
  refine(zg5 y qI tv 1 ht zbI wD _ _ hst (zfx (.inr (.inl rfl)))).mono ?_
  rintro e w' ⟨⟨va,vc,rfl, -⟩,hb⟩
  rw [zzS]
  exact⟨⟨va,vc,rfl⟩,hb⟩
 have hft:∀y tv (a:Option Addr) (n c:Nat) (b:Option Addr) (m k:Nat),yZ 1 y tv qI.threads->yh y wD (.slice a n c) (.slice b m k)->
   Calls Tryz.prog 26 #[.agg #[.int .i64 2, .int .i64 2,tv], .agg #[.int .i64 1, .int .i64 1], .agg #[.slice a n c, .slice b m k, .bool false]] y λe w'=>e= .returned (.bool true)/\Below y.heap.size y w':=λy tv a n c b m k ht hst=>by
  have h:=zdB y qI tv 1 ht zbI wD _ _ hst (zfx (.inr (.inl rfl)))
  rw [zzT] at h
  exact h
 have HD:=qh hd
 have HST:=qh hst
 have HD1:=qh hd1
 have HD2:=qh hd2
 have HD3:=qh hd3
 have HD4:=qh hd4
 have HMV:=qh hmv
 have HFT:=qh hft
 clear hd hst hdo hd1 hd2 hd3 hd4 hmv hft
 go_enter Tryz.func8,Tryz.ntmps8
 go_upto_region 2 with(go_at_call 24;go_must(refine HD.out.mono ?_);rintro e W1 ⟨⟨ta,tc,rfl,ht⟩,hb⟩;have HT1:=qh ht;have L1:=qh ((((Loc.start w).later hb).alloc 26 [.int .i64 2, .int .i64 2, .slice ta 2 tc]).alloc 31 [.int .i64 1, .int .i64 1]);clear ht hb)
 have HT2:=qh (ze.below (xK.stays 1) HT1.out (((Below.refl W1.heap.size W1).alloc (Nat.le_refl _) (.cells #[.int .i64 2, .int .i64 2, .slice ta 2 tc] 26)).alloc (by simp) (.cells #[.int .i64 1, .int .i64 1] 31)))
 obtain⟨g1,hg1⟩:∃g,g=W1.heap.size:=⟨_,rfl⟩
 have hg2:(World.alloc W1 (.cells [.int .i64 2, .int .i64 2, .slice ta 2 tc].toArray 26)).heap.size=g1+1:=by simp [hg1]
 have l1:=L1.out
 rw [hg2, <-hg1] at l1
 have L2:=qh l1
 rw [<-hg1]
 clear l1 hg1 hg2 L1 HT1
 generalize World.alloc (World.alloc W1 _) _=X1 at L2 HT2 ⊢
 have CX:Hid (∀y,Below X1.heap.size X1 y->y.cell? ⟨g1,0,none⟩=some (.int .i64 2)/\y.cell? ⟨g1,1,none⟩=some (.int .i64 2)/\y.cell? ⟨g1,2,none⟩=some (.slice ta 2 tc)/\y.cell? ⟨g1+1,0,none⟩=some (.int .i64 1)/\y.cell? ⟨g1+1,1,none⟩=some (.int .i64 1)):=λy hy=>by
  have h:=L2.out.later hy
  have a1:=(h.news (g1,26, [.int .i64 2, .int .i64 2, .slice ta 2 tc]) (by simp)).1
  have a2:=(h.news (g1+1,31, [.int .i64 1, .int .i64 1]) (by simp)).1
  exact⟨za a1 0,za a1 1,za a1 2,za a2 0,za a2 1⟩
 have HB1:Hid (Below w.heap.size w X1):=L2.out.below
 go_cut [3,4] (λs3 s4 w'=>∃(g:Nat) (a b:Option Addr) (c k:Nat),s3= .pointer (some ⟨g,0,none⟩)/\s4= .int .i64 0/\Hid (w'.heap[g]? =some (.cells #[.slice a 2 c, .slice b 2 k, .bool false] 35 (0,0)))/\Hid (yh w' wD (.slice a 2 c) (.slice b 2 k))/\Hid (Below X1.heap.size X1 w'))
 case first=>
  refine vJ (S:=λx=>Below X1.heap.size X1 x) (Below.refl _ _).drew (λ_=> ?_)
  obtain⟨V1,hV1⟩:∃V1,V1=X1.drew:=⟨_,rfl⟩
  have hT0:Hid (Below X1.heap.size X1 V1):=by rw [hV1];exact(Below.refl _ _).drew
  rw [<-hV1]
  clear hV1
  refine zA 0 CX.out (hT0.out) ?_
  refine zA 1 CX.out (hT0.out) ?_
  refine zA 2 CX.out (hT0.out) ?_
  refine zA 4 zM (hT0.out) ?_
  refine wpAnyH_ready (rs:= [3,9]) (by kernel_rfl) (by simp) ?_
  refine AllReadyH.cons rfl (λK hK=> ?_) (AllReadyH.cons rfl (λK hK=> ?_) AllReadyH.nil)
  ·skip
   go_simp
   refine(HST.out V1 _ (ze.below (xK.stays 1) HT2.out hT0.out)).mono ?_
   rintro e Ya1 ⟨⟨sa,sb,sc,sk,rfl,hs⟩,hb⟩
   have zqD:=qh hs
   have zaw:=qh (zB hT0.out hb)
   clear hs hb
   refine hK.out _ _ zaw.out (λ_=> ?_)
   clear hK K
   refine wpAnyH_ready (rs:= [5,9]) (by kernel_rfl) (by simp) ?_
   refine AllReadyH.cons rfl (λK hK=> ?_) (AllReadyH.cons rfl (λK hK=> ?_) AllReadyH.nil)
   ·skip
    go_simp
    refine(HD1.out Ya1 _ _ _ _ _ _ _ _ rfl (ze.below (xK.stays 1) HT2.out zaw.out) zqD.out).mono ?_
    rintro e Ya3 ⟨⟨sa1,sb1,bT,bU,rfl,hs⟩,hb⟩
    have z2N:=qh (zqD.out.below hb)
    have z2O:=qh hs
    have zbc:=qh (zB zaw.out hb)
    clear hs hb
    refine hK.out _ _ zbc.out (λ_=> ?_)
    clear hK K
    refine zA 6 zM (zbc.out) ?_
    refine zA 7 zM (zbc.out) ?_
    refine zA 8 zM (zbc.out) ?_
    refine yw 9 rfl (λK hK=> ?_)
    go_simp
    have hz:=yE Ya3 (.cells #[.slice none 0 0, .slice none 0 0, .bool false] 35)
    have hb:=(Below.refl Ya3.heap.size Ya3).alloc (Nat.le_refl _) (.cells #[.slice none 0 0, .slice none 0 0, .bool false] 35)
    have pF:Hid (X1.heap.size<=Ya3.heap.size):=(zbc.out).size
    have z2P:=qh (z2N.out.below hb)
    have zwK:=qh (z2O.out.below hb)
    have zbH:=qh (zB zbc.out hb)
    clear hb
    refine hK.out _ _ zbH.out (λ_=> ?_)
    obtain⟨gs,hgs⟩:∃g,g=Ya3.heap.size:=⟨_,rfl⟩
    rw [<-hgs] at hz pF ⊢
    clear hgs
    generalize World.alloc Ya3 _=Ya5 at hz z2P zwK zbH ⊢
    have bQ:=qh hz
    clear hz
    clear hK K
    refine yw 10 rfl (λK hK=> ?_)
    have d0:=za bQ.out 0
    have d1:=za bQ.out 1
    have d2:=za bQ.out 2
    have f0:=zw bQ.out 0
    have f1:=zw bQ.out 1
    have f2:=zw bQ.out 2
    have HZ2:=qh (xS (cs:= [.slice none 0 0, .slice none 0 0, .bool false]) [.slice sa1 2 bT, .slice sb1 2 bU, .bool false] rfl bQ.out)
    have hsi:=yX (g:=gs) [.slice sa1 2 bT, .slice sb1 2 bU, .bool false] Ya5 0
    have uE:=qh (zal zwK.out bQ.out hsi)
    have wL:Hid (Below X1.heap.size X1 (zY Ya5 gs 0 [.slice sa1 2 bT, .slice sb1 2 bU, .bool false])):=(zbH.out).trans (hsi.below (zbH.out).size (λk hk=>by have:=pF.out;omega))
    clear hsi
    go_simp
    clear d0 d1 d2 f0 f1 f2
    refine hK.out _ (zY Ya5 gs 0 [.slice sa1 2 bT, .slice sb1 2 bU, .bool false]) wL.out (λ_=> ?_)
    generalize zY Ya5 gs 0 _=Y4 at HZ2 uE wL ⊢
    clear hK K
    refine zA 11 zM (wL.out) ?_
    refine xM ?_
    go_wp2_with fail
    go_meet
    case rel=>exact⟨gs,sa1,sb1,bT,bU,rfl,rfl,HZ2.out,uE.out,wL.out⟩
   skip
   go_simp
   have hz:=yE Ya1 (.cells #[.slice none 0 0, .slice none 0 0, .bool false] 35)
   have hb:=(Below.refl Ya1.heap.size Ya1).alloc (Nat.le_refl _) (.cells #[.slice none 0 0, .slice none 0 0, .bool false] 35)
   have pF:Hid (X1.heap.size<=Ya1.heap.size):=(zaw.out).size
   have zqE:=qh (zqD.out.below hb)
   have zbd:=qh (zB zaw.out hb)
   clear hb
   refine hK.out _ _ zbd.out (λ_=> ?_)
   obtain⟨gs,hgs⟩:∃g,g=Ya1.heap.size:=⟨_,rfl⟩
   rw [<-hgs] at hz pF ⊢
   clear hgs
   generalize World.alloc Ya1 _=Ya7 at hz zqE zbd ⊢
   have bR:=qh hz
   clear hz
   clear hK K
   refine yw 5 rfl (λK hK=> ?_)
   go_simp
   refine(HD1.out Ya7 _ _ _ _ _ _ _ _ rfl (ze.below (xK.stays 1) HT2.out zbd.out) zqE.out).mono ?_
   rintro e Ya9 ⟨⟨sa1,sb1,bT,bU,rfl,hs⟩,hb⟩
   have zAh:=qh (zqE.out.below hb)
   have zb5:=qh ((hb.block gs (zq bR.out)).trans bR.out)
   have z2Q:=qh hs
   have zew:=qh (zB zbd.out hb)
   clear hs hb
   refine hK.out _ _ zew.out (λ_=> ?_)
   clear hK K
   refine zA 6 zM (zew.out) ?_
   refine zA 7 zM (zew.out) ?_
   refine zA 8 zM (zew.out) ?_
   refine yw 10 rfl (λK hK=> ?_)
   have d0:=za zb5.out 0
   have d1:=za zb5.out 1
   have d2:=za zb5.out 2
   have f0:=zw zb5.out 0
   have f1:=zw zb5.out 1
   have f2:=zw zb5.out 2
   have HZ2:=qh (xS (cs:= [.slice none 0 0, .slice none 0 0, .bool false]) [.slice sa1 2 bT, .slice sb1 2 bU, .bool false] rfl zb5.out)
   have hsi:=yX (g:=gs) [.slice sa1 2 bT, .slice sb1 2 bU, .bool false] Ya9 0
   have uE:=qh (zal z2Q.out zb5.out hsi)
   have wL:Hid (Below X1.heap.size X1 (zY Ya9 gs 0 [.slice sa1 2 bT, .slice sb1 2 bU, .bool false])):=(zew.out).trans (hsi.below (zew.out).size (λk hk=>by have:=pF.out;omega))
   clear hsi
   go_simp
   clear d0 d1 d2 f0 f1 f2
   refine hK.out _ (zY Ya9 gs 0 [.slice sa1 2 bT, .slice sb1 2 bU, .bool false]) wL.out (λ_=> ?_)
   generalize zY Ya9 gs 0 _=Y4 at HZ2 uE wL ⊢
   clear hK K
   refine zA 11 zM (wL.out) ?_
   refine xM ?_
   go_wp2_with fail
   go_meet
   case rel=>exact⟨gs,sa1,sb1,bT,bU,rfl,rfl,HZ2.out,uE.out,wL.out⟩
  skip
  go_simp
  have hz:=yE V1 (.cells #[.slice none 0 0, .slice none 0 0, .bool false] 35)
  have hb:=(Below.refl V1.heap.size V1).alloc (Nat.le_refl _) (.cells #[.slice none 0 0, .slice none 0 0, .bool false] 35)
  have pF:Hid (X1.heap.size<=V1.heap.size):=(hT0.out).size
  have zkU:=qh (zB hT0.out hb)
  clear hb
  refine hK.out _ _ zkU.out (λ_=> ?_)
  obtain⟨gs,hgs⟩:∃g,g=V1.heap.size:=⟨_,rfl⟩
  rw [<-hgs] at hz pF ⊢
  clear hgs
  generalize World.alloc V1 _=z6J at hz zkU ⊢
  have zsH:=qh hz
  clear hz
  clear hK K
  refine yw 3 rfl (λK hK=> ?_)
  go_simp
  refine(HST.out z6J _ (ze.below (xK.stays 1) HT2.out zkU.out)).mono ?_
  rintro e z6K ⟨⟨sa,sb,sc,sk,rfl,hs⟩,hb⟩
  have zsI:=qh ((hb.block gs (zq zsH.out)).trans zsH.out)
  have zsJ:=qh hs
  have zqF:=qh (zB zkU.out hb)
  clear hs hb
  refine hK.out _ _ zqF.out (λ_=> ?_)
  clear hK K
  refine yw 5 rfl (λK hK=> ?_)
  go_simp
  refine(HD1.out z6K _ _ _ _ _ _ _ _ rfl (ze.below (xK.stays 1) HT2.out zqF.out) zsJ.out).mono ?_
  rintro e zqG ⟨⟨sa1,sb1,bT,bU,rfl,hs⟩,hb⟩
  have zan:=qh ((hb.block gs (zq zsI.out)).trans zsI.out)
  have z9e:=qh (zsJ.out.below hb)
  have zzU:=qh hs
  have zex:=qh (zB zqF.out hb)
  clear hs hb
  refine hK.out _ _ zex.out (λ_=> ?_)
  clear hK K
  refine zA 6 zM (zex.out) ?_
  refine zA 7 zM (zex.out) ?_
  refine zA 8 zM (zex.out) ?_
  refine yw 10 rfl (λK hK=> ?_)
  have d0:=za zan.out 0
  have d1:=za zan.out 1
  have d2:=za zan.out 2
  have f0:=zw zan.out 0
  have f1:=zw zan.out 1
  have f2:=zw zan.out 2
  have HZ2:=qh (xS (cs:= [.slice none 0 0, .slice none 0 0, .bool false]) [.slice sa1 2 bT, .slice sb1 2 bU, .bool false] rfl zan.out)
  have hsi:=yX (g:=gs) [.slice sa1 2 bT, .slice sb1 2 bU, .bool false] zqG 0
  have uE:=qh (zal zzU.out zan.out hsi)
  have wL:Hid (Below X1.heap.size X1 (zY zqG gs 0 [.slice sa1 2 bT, .slice sb1 2 bU, .bool false])):=(zex.out).trans (hsi.below (zex.out).size (λk hk=>by have:=pF.out;omega))
  clear hsi
  go_simp
  clear d0 d1 d2 f0 f1 f2
  refine hK.out _ (zY zqG gs 0 [.slice sa1 2 bT, .slice sb1 2 bU, .bool false]) wL.out (λ_=> ?_)
  generalize zY zqG gs 0 _=Y4 at HZ2 uE wL ⊢
  clear hK K
  refine zA 11 zM (wL.out) ?_
  refine xM ?_
  go_wp2_with fail
  go_meet
  case rel=>exact⟨gs,sa1,sb1,bT,bU,rfl,rfl,HZ2.out,uE.out,wL.out⟩
 case rest=>
 obtain⟨gs,sa1,sb1,bT,bU,rfl,rfl,HZ2,uE,wL⟩:=hcut
 obtain⟨Y4,rfl⟩:∃Y:World,Y=wc:=⟨_,rfl⟩
 have CY:Hid (∀y,Below Y4.heap.size Y4 y->(y.cell? ⟨g1,0,none⟩=some (.int .i64 2)/\y.cell? ⟨g1,1,none⟩=some (.int .i64 2)/\y.cell? ⟨g1,2,none⟩=some (.slice ta 2 tc)/\y.cell? ⟨g1+1,0,none⟩=some (.int .i64 1)/\y.cell? ⟨g1+1,1,none⟩=some (.int .i64 1))/\y.cell? ⟨gs,0,none⟩=some (.slice sa1 2 bT)/\y.cell? ⟨gs,1,none⟩=some (.slice sb1 2 bU)/\y.cell? ⟨gs,2,none⟩=some (.bool false)):=λy hy=>⟨CX.out y (zB wL.out hy),zh hy _ _ (za HZ2.out 0),zh hy _ _ (za HZ2.out 1),zh hy _ _ (za HZ2.out 2)⟩
 have HYB:=wL
 have HT4:=qh (ze.below (xK.stays 1) HT2.out wL.out)
 clear HZ2 CX HT2 L2 HD HST HD1
 obtain⟨⟨k0,k1,k2,k3,k4⟩,k5,k6,k7⟩:=CY.out Y4 (Below.refl _ _)
 go_upto_region 4 with(go_at_call 14;go_must(refine(HD2.out Y4 _ _ _ _ _ _ _ _ rfl HT4.out uE.out).mono ?_);rintro e Z1 ⟨⟨ta2,tb2,tc2,tk2,rfl,hs⟩,hb⟩;(have HT5:=qh hs);(have HZ1:=qh hb);clear hs hb)
 have hb2:=HZ1.out.alloc HZ1.out.size (.cells #[.slice ta2 2 tc2, .slice tb2 2 tk2, .bool false] 35)
 have HQ1:=qh (yE Z1 (.cells #[.slice ta2 2 tc2, .slice tb2 2 tk2, .bool false] 35))
 have HT6:=qh (HT5.out.below ((Below.refl Z1.heap.size Z1).alloc (Nat.le_refl _) (.cells #[.slice ta2 2 tc2, .slice tb2 2 tk2, .bool false] 35)))
 have HB2:=qh hb2
 clear hb2 k0 k1 k2 k3 k4 k5 k6 k7 HT5 HZ1 HD2
 show Code.wp _ _ _ _ (World.alloc Z1 (.cells #[.slice ta2 2 tc2, .slice tb2 2 tk2, .bool false] 35))
 generalize World.alloc Z1 _=Z2 at HQ1 HT6 HB2 ⊢
 generalize Z1.heap.size=gt at HQ1 ⊢
 obtain⟨⟨k0,k1,k2,k3,k4⟩,k5,k6,k7⟩:=CY.out Z2 HB2.out
 have hq:=λy (hy:Below Z2.heap.size Z2 y)=>zh hy _ _ (za HQ1.out 0)
 have hq':=λy (hy:Below Z2.heap.size Z2 y)=>zh hy _ _ (za HQ1.out 1)
 have HQA:=qh hq
 have HQB:=qh hq'
 clear hq hq'
 go_upto_region 5 with(go_at_call 14;go_must(refine(HD3.out Z2 _ _ _ _ _ _ _ _ rfl (ze.below (xK.stays 1) HT4.out HB2.out) (uE.out.below HB2.out)).mono ?_);rintro e Z3 ⟨⟨ta3,tb3,tc3,tk3,rfl,hs⟩,hb⟩;(have HZ3:=qh hb);clear hs hb)
 have hb3:=HZ3.out.alloc HZ3.out.size (.cells #[.slice ta3 0 tc3, .slice tb3 0 tk3, .bool false] 35)
 have HB3:=qh hb3
 clear hb3 k0 k1 k2 k3 k4 k5 k6 k7 HD3 HZ3
 show Code.wp _ _ _ _ (World.alloc Z3 (.cells #[.slice ta3 0 tc3, .slice tb3 0 tk3, .bool false] 35))
 generalize World.alloc Z3 _=Z4 at HB3 ⊢
 generalize Z3.heap.size=gu
 have vL:=qh (zB HB2.out HB3.out)
 obtain⟨⟨k0,k1,k2,k3,k4⟩,k5,k6,k7⟩:=CY.out Z4 vL.out
 have zzV:Hid (yh Z4 yP (.slice none 0 0) (.slice none 0 0)):=znK _
 go_upto_region 6 with(go_at_call 14;go_must(refine(HD4.out Z4 _ _ _ _ _ _ _ _ rfl (ze.below (xK.stays 1) HT4.out vL.out) zzV.out).mono ?_);rintro e Z5 ⟨⟨ta4,tb4,tc4,tk4,rfl,hs⟩,hb⟩;(have HZ5:=qh hb);clear hs hb)
 have hb5:=HZ5.out.alloc HZ5.out.size (.cells #[.slice ta4 0 tc4, .slice tb4 0 tk4, .bool false] 35)
 have HB5:=qh (zB HB3.out hb5)
 clear hb5 k0 k1 k2 k3 k4 k5 k6 k7 HD4 HZ5 zzV
 show Code.wp _ _ _ _ (World.alloc Z5 (.cells #[.slice ta4 0 tc4, .slice tb4 0 tk4, .bool false] 35))
 generalize World.alloc Z5 _=Z6 at HB5 ⊢
 generalize Z5.heap.size=gv
 have HB6:=qh (zB HB2.out HB5.out)
 obtain⟨⟨k0,k1,k2,k3,k4⟩,k5,k6,k7⟩:=CY.out Z6 HB6.out
 have k8:=HQA.out Z6 HB5.out
 have k9:=HQB.out Z6 HB5.out
 obtain⟨xb,xo,xba,xbc,hxa, -, -,x0, -, -, -, -,x5, -⟩:=qj.part (uE.out.below HB6.out).threads 0 (by decide)
 obtain⟨yb,yo,hya, -,y0⟩:=xI.part (uE.out.below HB6.out).mem 0 (by decide)
 obtain⟨ub,uo,uba,ubc,hua, -, -,u0, -, -, -, -,u5, -⟩:=qj.part (HT6.out.below HB5.out).threads 0 (by decide)
 obtain⟨vb,vo,hva, -,v0⟩:=xI.part (HT6.out.below HB5.out).mem 0 (by decide)
 subst hxa hya hua hva
 rw [Nat.zero_mul,Nat.add_zero] at x0 x5 u0 u5
 rw [Nat.add_zero] at y0 v0
 replace x0:Z6.cell? ⟨xb,xo,none⟩=some (.int .i64 1):=x0
 replace x5:Z6.cell? ⟨xb,xo+5,none⟩=some (.slice xba 1 xbc):=x5
 replace y0:Z6.cell? ⟨yb,yo,none⟩=some (.int .i64 0):=y0
 replace u5:Z6.cell? ⟨ub,uo+5,none⟩=some (.slice uba 0 ubc):=u5
 replace v0:Z6.cell? ⟨vb,vo,none⟩=some (.int .i64 1):=v0
 clear u0
 have z6L:=qh (HMV.out Z6 _ _ _ _ _ _ _ (ze.below (xK.stays 1) HT4.out HB6.out) (uE.out.below HB6.out))
 have z6M:=qh (λy (hy:Below Z6.heap.size Z6 y)=>HFT.out y _ _ _ _ _ _ _ (ze.below (xK.stays 1) HT4.out (zB HB6.out hy)) (uE.out.below (zB HB6.out hy)))
 have HCZ:=qh (λy (hy:Below Z6.heap.size Z6 y)=>CY.out y (zB HB6.out hy))
 have pG:Hid (Below w.heap.size w Z6):=HB1.out.trans ((zB wL.out HB6.out).mono HB1.out.size)
 clear HMV HFT CY uE HT6 HT4 HB6 HB5 vL HB3 HB2 HQA HQB HQ1 wL
 go_wp2_with(first|(go_at_call 13;go_must(refine z6L.out.mono ?_);rintro e Z7 ⟨⟨ma,mc,rfl⟩,hb⟩;(have HB7:=qh hb);(obtain⟨⟨p0,p1,p2,p3,p4⟩,p5,p6,p7⟩:=HCZ.out Z7 hb);clear hb)|(go_at_call 26;go_must(refine(z6M.out Z7 HB7.out).mono ?_);rintro e Z8 ⟨rfl,hb⟩;(have HB8:=qh hb);clear hb))
 go_ret
 exact⟨rfl,pG.out.trans ((zB HB7.out HB8.out).mono pG.out.size)⟩
