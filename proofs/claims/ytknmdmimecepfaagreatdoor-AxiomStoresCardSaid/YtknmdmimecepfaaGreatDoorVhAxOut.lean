/- Steps. -/
import Derived.Test.YtknmdmimecepfaaGreatDoorVhAxCat
import Derived.Test.YtknmdmimecepfaaGreatDoorVhAxWalk
import Derived.Test.YtknmdmimecepfaaGreatDoorVhPSort
set_option linter.all false
namespace Go.Proofs.YtknmdmimecepfaaGreatDoor
open Go.RowKit
set_option maxRecDepth 100000
set_option maxHeartbeats 16000000
def jr (w:World) (c:zl) (model:Int) (d:Nat) (e:Ending) (w':World):Prop:=
 Below w.heap.size w w'/\
 if (yw c && codeOk c)=false\/model<0\/2<model then e= .returned (.tuple #[.slice none 0 0, .bool false, .int .i64 1])
 else if 8<zY c c.threads.length\/qQ c=true then e= .returned (.tuple #[.slice none 0 0, .bool false, .int .i64 2])
 else∃r a cap,e= .returned (.tuple #[.slice a r.length cap, .bool (yZ c model d).fails, .int .i64 0])/\vH c.vars.toNat (yZ c model d).out r/\yK w' (.slice a r.length cap) r
theorem zav {w w':World} {c:zl} {model:Int} {d:Nat} (hb:Below w.heap.size w w') (h:(yw c && codeOk c)=false\/model<0\/2<model):jr w c model d (.returned (.tuple #[.slice none 0 0, .bool false, .int .i64 1])) w':=⟨hb,by rw [if_pos h]⟩
theorem zcl {w w':World} {c:zl} {model:Int} {d:Nat} (hb:Below w.heap.size w w') (h:¬((yw c && codeOk c)=false\/model<0\/2<model)) (h2:8<zY c c.threads.length\/qQ c=true):jr w c model d (.returned (.tuple #[.slice none 0 0, .bool false, .int .i64 2])) w':=⟨hb,by rw [if_neg h,if_pos h2]⟩
theorem zjN {w w':World} {c:zl} {model:Int} {d:Nat} {r:List zy} {a:Option Addr} {cap:Nat} {fl:Bool} (hb:Below w.heap.size w w') (h:¬((yw c && codeOk c)=false\/model<0\/2<model)) (h2:¬(8<zY c c.threads.length\/qQ c=true)) (hf:fl=(yZ c model d).fails) (hr:vH c.vars.toNat (yZ c model d).out r) (hat:yK w' (.slice a r.length cap) r):
  jr w c model d (.returned (.tuple #[.slice a r.length cap, .bool fl, .int .i64 0])) w':=⟨hb,by rw [if_neg h,if_neg h2,hf];exact⟨r,a,cap,rfl,hr,hat⟩⟩
theorem zfM:(default:za).cells.toArray=Tryz.zeroCells67:=by kernel_rfl
theorem zfA {c:zl} (h:codeOk c=true) {i:Nat} (hi:i<c.threads.length):(c.threads.getD i []).length<=600:=by
 unfold codeOk at h
 simp only [Bool.and_eq_true] at h
 have h1:=h.2
 rw [List.all_eq_true] at h1
 have h2:=h1 _ (zV (x:= []) hi)
 unfold rowOk at h2
 simp only [Bool.and_eq_true,decide_eq_true_eq] at h2
 exact h2.1
theorem vF (w:World) (c:zl) (tv:Value) (d:Nat) (h:yB d w tv c.threads) (h4:c.threads.length<=100000) (hrow:∀i,i<c.threads.length->(c.threads.getD i []).length<=100000) (model:Int):
  Calls Tryz.prog 8 #[qP c tv, .int .i64 model] w (jr w c model d):=by
 obtain⟨ta,tc,rfl, -⟩:=zf.slice h
 have hA:=(Below.refl w.heap.size w).alloc (Nat.le_refl _) (.cells #[.int .i64 c.vars, .int .i64 c.domain, .slice ta c.threads.length tc] 25)
 have hfw:=λX (hX:Below w.heap.size w X)=>zeI X c _ d (zf.below (j5.stays d) h hX) h4 hrow
 have hev:=λX (hX:Below w.heap.size w X)=>zfR X c _ d (zf.below (j5.stays d) h hX) h4 hrow
 have hwi:=λ(hc:codeOk c=true) X (hX:Below w.heap.size w X)=>ziH X c _ d (zf.below (j5.stays d) h hX) (zZ hc).2.2.2.2.2 (λi hi=>zfA hc hi) (by have:=zZ hc;omega) (zZ hc).2.2.2.1
 have hel:=zeE hrow c.threads.length (Nat.le_refl _)
 obtain⟨n,hn⟩:∃n,n=c.threads.length:=⟨_,rfl⟩
 unfold qP at hfw hev hwi ⊢
 have H1:=qh (yG w (.cells #[.int .i64 c.vars, .int .i64 c.domain, .slice ta c.threads.length tc] 25))
 rw [<-hn] at h h4 hA hfw hev hwi hel H1 ⊢
 obtain⟨fw,zlf⟩:∃b,b=(yw c && codeOk c):=⟨_,rfl⟩
 obtain⟨en,zlg⟩:∃b,b=zY c n:=⟨_,rfl⟩
 obtain⟨wb,zlh⟩:∃b,b=qQ c:=⟨_,rfl⟩
 rw [<-zlf] at hfw
 rw [<-zlg] at hev hel
 rw [<-zlh] at hwi
 have zli:=qh zlf
 have zlj:=qh zlg
 have zoE:=qh zlh
 have HFW:=qh hfw
 have HEV:=qh hev
 have HWI:=qh hwi
 have HB:=qh hA
 have HT:=qh h
 have HN:=qh hn
 clear hfw hev hwi hA h hn zlf zlg zlh hrow
 go_enter Tryz.func8,Tryz.ntmps8
 go_upto_region 1 with fail
 generalize World.alloc w _=W at HB H1 ⊢
 obtain⟨gx,hgx⟩:∃gx,gx=w.heap.size:=⟨_,rfl⟩
 rw [<-hgx] at H1 ⊢
 clear hgx
 have HC:Hid (∀x,Below W.heap.size W x->x.cell? ⟨gx,0,none⟩=some (.int .i64 c.vars)/\x.cell? ⟨gx,1,none⟩=some (.int .i64 c.domain)/\x.cell? ⟨gx,2,none⟩=some (.slice ta n tc)):=λx hx=>⟨zk hx _ _ (ze H1.out 0),zk hx _ _ (ze H1.out 1),zk hx _ _ (ze H1.out 2)⟩
 clear H1
 obtain⟨c0,c1,c2⟩:=HC.out W (Below.refl _ _)
 cases fw with
 |false=>
  have zU:Hid ((yw c && codeOk c)=false\/model<0\/2<model):= .inl zli.out.symm
  go_wp2_with(go_at_call 21;go_must(refine(HFW.out W HB.out).mono ?_);rintro e X1 ⟨rfl,hb⟩;(have qW:=qh (zn HB.out hb));clear hb c0 c1 c2)
  go_ret3
  exact zav qW.out zU.out
 |true=>
 by_cases hm0:model<0
 ·have zU:Hid ((yw c && codeOk c)=false\/model<0\/2<model):= .inr (.inl hm0)
  go_wp2_with(go_at_call 21;go_must(refine(HFW.out W HB.out).mono ?_);rintro e X1 ⟨rfl,hb⟩;(have qW:=qh (zn HB.out hb));clear hb c0 c1 c2)
  go_ret3
  exact zav qW.out zU.out
 by_cases hm2:2<model
 ·have zU:Hid ((yw c && codeOk c)=false\/model<0\/2<model):= .inr (.inr hm2)
  go_wp2_with(go_at_call 21;go_must(refine(HFW.out W HB.out).mono ?_);rintro e X1 ⟨rfl,hb⟩;(have qW:=qh (zn HB.out hb));clear hb c0 c1 c2)
  go_ret3
  exact zav qW.out zU.out
 have gJ:Hid (¬((yw c && codeOk c)=false\/model<0\/2<model)):=by
  rintro(h1|h1|h1)
  ·rw [<-zli.out] at h1;cases h1
  ·omega
  omega
 have hck:yw c=true/\codeOk c=true:=by have:=zli.out;simpa using this.symm
 have HCK:=qh hck
 clear hck
 go_upto_region 3 with(go_at_call 21;go_must(refine(HFW.out W HB.out).mono ?_);rintro e X1 ⟨rfl,hb⟩;(have qW:=qh (zn HB.out hb));(have wT:=qh hb);clear hb c0 c1 c2)
 obtain⟨c0,c1,c2⟩:=HC.out X1 wT.out
 by_cases he8:8<en
 ·have HLG:Hid (8<zY c c.threads.length\/qQ c=true):= .inl (by rw [<-HN.out, <-zlj.out];exact he8)
  have zro:(8:Int)<(en:Int):=by omega
  go_wp2_with(go_at_call 22;go_must(refine(HEV.out X1 qW.out).mono ?_);rintro e X2 ⟨rfl,hb⟩;(have HX2:=qh (zn qW.out hb));clear hb c0 c1 c2)
  go_ret3
  exact zcl HX2.out gJ.out HLG.out
 have zro:¬(8:Int)<(en:Int):=by omega
 have zoF:=qh (HWI.out HCK.out.2)
 cases wb with
 |true=>
  have HLG:Hid (8<zY c c.threads.length\/qQ c=true):= .inr zoE.out.symm
  go_wp2_with(first|(go_at_call 23;go_must(refine(zoF.out X2 HX2.out).mono ?_);rintro e X3 ⟨rfl,hb⟩;(have kT:=qh (zn HX2.out hb));clear hb c0 c1 c2)|(go_at_call 22;go_must(refine(HEV.out X1 qW.out).mono ?_);rintro e X2 ⟨rfl,hb⟩;(have HX2:=qh (zn qW.out hb));(have HW2:=qh (zn wT.out hb));clear hb c0 c1 c2;obtain⟨c0,c1,c2⟩:=HC.out X2 HW2.out))
  go_ret3
  exact zcl kT.out gJ.out HLG.out
 |false=>
 have HLG:Hid (¬(8<zY c c.threads.length\/qQ c=true)):=by
  rintro(h1|h1)
  ·rw [<-HN.out, <-zlj.out] at h1;exact he8 h1
  rw [<-zoE.out] at h1;cases h1
 go_upto_region 5 with(first|(go_at_call 23;go_must(refine(zoF.out X2 HX2.out).mono ?_);rintro e X3 ⟨rfl,hb⟩;(have kT:=qh (zn HX2.out hb));(have HW3:=qh (zn HW2.out hb));clear hb c0 c1 c2)|(go_at_call 22;go_must(refine(HEV.out X1 qW.out).mono ?_);rintro e X2 ⟨rfl,hb⟩;(have HX2:=qh (zn qW.out hb));(have HW2:=qh (zn wT.out hb));clear hb c0 c1 c2;obtain⟨c0,c1,c2⟩:=HC.out X2 HW2.out))
 obtain⟨c0,c1,c2⟩:=HC.out X3 HW3.out
 have hbd:=zZ HCK.out.2
 have zoG:zY c c.threads.length<=8:=by rw [<-HN.out, <-zlj.out];omega
 have zb2:=qh zoG
 have gL:=qh hbd
 have hn4:n<=4:=by rw [HN.out];exact hbd.2.2.2.2.2
 have hset:=kD.made X3
 obtain⟨sm,hsm⟩:∃q,q=X3.heap.size:=⟨_,rfl⟩
 have hmk:=yG (X3.alloc (.map #[] 0)) (.cells #[.int .i64 c.vars, .int .i64 c.domain, .slice ta n tc, .int .i64 model, .map (some sm), .slice none 0 0, .bool false] 58)
 have hb5:Below X3.heap.size X3 ((X3.alloc (.map #[] 0)).alloc (.cells #[.int .i64 c.vars, .int .i64 c.domain, .slice ta n tc, .int .i64 model, .map (some sm), .slice none 0 0, .bool false] 58)):=zn (zw _ _) (zw _ _)
 have hs5:=hset.below (zw _ (.cells #[.int .i64 c.vars, .int .i64 c.domain, .slice ta n tc, .int .i64 model, .map (some sm), .slice none 0 0, .bool false] 58))
 rw [<-hsm] at hs5
 have zic:X3.heap.size<=(X3.alloc (.map #[] 0)).heap.size:=(zw X3 (.map #[] 0)).size
 have hmm:= @run_makeMap Tryz.prog
 have zoH:=qh hsm
 clear hset hbd zoG
 go_upto_region 6 with fail
 try rw [<-hsm]
 clear hmm c0 c1 c2 hsm
 obtain⟨mb,hmb⟩:∃q,q=sm+1:=⟨_,rfl⟩
 have hal:(X3.alloc (.map #[] 0)).heap.size=sm+1:=by rw [zoH.out];simp
 rw [hal, <-hmb] at hmk zic
 (first|rw [<-hmb] |rw [hal, <-hmb])
 clear hal
 have HMK:=qh hmk
 have HB5:=qh hb5
 have HS5:=qh hs5
 have HMB:=qh zic
 clear hmk hb5 hs5 zic hmb
 generalize World.alloc (World.alloc X3 _) _=X5 at HMK HB5 HS5 ⊢
 have hw0:=yG X5 (.cells Tryz.zeroCells67 67)
 have hb6:=zw X5 (.cells Tryz.zeroCells67 67)
 have zid:=qh hw0
 have HB6:=qh hb6
 clear hw0 hb6
 go_upto_region 7 with fail
 generalize World.alloc X5 _=X6 at zid HB6 ⊢
 obtain⟨g,hg⟩:∃q,q=X5.heap.size:=⟨_,rfl⟩
 rw [<-hg] at zid ⊢
 have HG:=qh hg
 clear hg
 have bE:=qh (λi hi=>vG (model:=model) (d:=d) HCK.out.2 HCK.out.1 zb2.out i hi)
 have zrp:=qh (zn kT.out (zn HB5.out HB6.out))
 have zrq:Hid (zX w X6 mb sm 0 c (.slice ta n tc) d model (.slice none 0 0) ⟨[], [],false⟩ []):=⟨zrp.out,HT.out,(HB6.out.block _ (zI HMK.out)).trans HMK.out,⟨by have h1:=kT.out.size;have h2:=HMB.out;omega,by have h1:=kT.out.size;have h2:=zoH.out;omega⟩,HS5.out.below HB6.out,xY.nil _ _ _ _ _ _⟩
 have HW6:Hid (zo X6 g (yI c model d 0)):=⟨(by have h0:=zid.out;rw [<-zfM] at h0;exact h0),(bE.out 0 (Nat.zero_le _)).v.ok⟩
 have HGV:Hid (w.heap.size<=g):=by have h1:=kT.out.size;have h2:=HB5.out.size;have h3:=HG.out;show _<=_;omega
 clear HMK HS5 zid
 obtain⟨st,hst⟩:∃st,st=λi=>yI c model d i:=⟨_,rfl⟩
 have zd9:∀i,st i=yI c model d i:=λi=>by rw [hst]
 rw [<-zd9] at HW6
 have wE:=qh zd9
 clear hst zd9
 have zrr:X6.cell? ⟨gx,2,none⟩=some (.slice ta n tc):=(HC.out X6 (zn HW3.out (zn HB5.out HB6.out))).2.2
 go_wp2_with fail
 clear zrr
 go_loopg [36] n (λgg s36 wr=>∃i:Nat,i<=n/\Hid (gg=n - i)/\s36= .int .i64 i/\Hid (zX w wr mb sm 0 c (.slice ta n tc) d model (.slice none 0 0) ⟨[], [],false⟩ [])/\Hid (zo wr g (st i)))
 case atStart=>exact⟨0,Nat.zero_le _,rfl,rfl,zrq.out,HW6.out⟩
 case round=>
 obtain⟨i,hi,HGG,rfl,HMI,zfN⟩:=hrel
 obtain⟨wo,rfl⟩:∃wo:World,wo=wr:=⟨_,rfl⟩
 by_cases hlt:i<n
 ·have qK:(i:Int)<(n:Int):=by omega
  have hic:i<c.threads.length:=by rw [<-HN.out];exact hlt
  have hrv:=wu HCK.out.2 HCK.out.1 hic
  have hsf:=bE.out i (Nat.le_of_lt hic)
  have hth:=hsf.rest i (Nat.le_refl _) (by omega)
  rw [<-wE.out] at hsf hth
  have hbg:=zbZ w wo mb c _ d model HMI.out.axc gL.out.2.2.2.2.2 (by have:=gL.out;omega) (by have:=gL.out;omega) g HGV.out (HMI.out.zah zfN.out) (st i) zfN.out i hic hrv.good hrv.len (c.threads.getD i []).length (by omega) (Nat.le_trans (hsf.cnt i hic) (Nat.le_trans (zbA hic) zb2.out))
  have hnx:zO model c.domain d (c.threads.getD i []) i (c.threads.getD i []).length (st i)=st (i+1):=by rw [wE.out,wE.out];rfl
  rw [hnx] at hbg
  have HBG:=qh hbg
  clear hic hrv hsf hth hbg hnx
  go_wp2_with(go_at_call 24;go_must(refine HBG.out.mono ?_);rintro e Y ⟨rfl,hw1,jO⟩;(have HW1:=qh hw1);(have uM:=qh jO);clear hw1 jO)
  go_roundg (n - (i+1))
  case measure=>rw [HGG.out];omega
  case rel=>exact⟨i+1,by omega,rfl,by simp,HMI.out.one zfN.out HGV.out uM.out,HW1.out⟩
 obtain rfl:n=i:=by omega
 obtain⟨S,hS⟩:∃S,S=yZ c model d:=⟨_,rfl⟩
 have hgood:=(bE.out c.threads.length (Nat.le_refl _)).good zb2.out
 have hwk:=zmB w mb sm c _ d model HCK.out.2 HCK.out.1 9 (st n) (by rw [wE.out,HN.out];exact hgood.1) (by rw [wE.out,HN.out];have:=zb2.out;omega) wo ⟨[], [],false⟩ _ [] HMI.out (by
  have h1:yg c model (st n)<=8:=by rw [wE.out,HN.out];have:=zb2.out;omega
  have h2:=jM h1
  have h3:nb 8=109601:=by decide
  show 0+nb (yg c model (st n))<=1000000
  omega) (Nat.le_refl _)
 have hS2:S=zx c model d 9 (st n) ⟨[], [],false⟩:=by rw [hS,wE.out,HN.out];rfl
 rw [<-hS2] at hwk
 obtain⟨cs,hcs⟩:∃q,q=(st n).cells:=⟨_,rfl⟩
 have kQ:Hid (cs.length=221):=by rw [hcs];exact za.xk zfN.out.ok
 have zkD:Hid (wo.rangeAt g 0 cs):=by rw [hcs];exact zfN.out.range
 unfold za.val pO at hwk
 rw [<-hcs] at hwk
 have HWK:=qh hwk
 have HSE:=qh hS
 clear hS hgood hwk hS2 hcs
 go_upto_region 13 with(first|with_reducible refine wpList_load_mid rfl 67 _ rfl g 0 rfl cs _ zkD.out Tryz.underlying67 rfl (by rw [kQ.out];exact yO) ?_|(go_at_call 25;go_must(refine HWK.out.mono ?_);rintro e Z ⟨rfl,ov,css,hm,hs,ho⟩;(have pV:=qh hm);clear hm hs ho))
 have bQ:=wR (model:=model) (d:=d) HCK.out.2 HCK.out.1 zb2.out
 rw [<-HSE.out] at bQ
 have hol:S.out.length<=1000000:=by
  have hg:=(bE.out c.threads.length (Nat.le_refl _)).good zb2.out
  have ha:=zbd (d:=d) HCK.out.2 HCK.out.1 9 (st n) (by rw [wE.out,HN.out];exact hg.1) ⟨[], [],false⟩
  have hS2:S=zx c model d 9 (st n) ⟨[], [],false⟩:=by rw [HSE.out,wE.out,HN.out];rfl
  rw [<-hS2] at ha
  have h1:yg c model (st n)<=8:=by rw [wE.out,HN.out];have:=zb2.out;omega
  have h2:=jM h1
  have h3:nb 8=109601:=by decide
  have h4:=ha.2 (Nat.le_refl _)
  have h5:S.seen.length<=0+nb (yg c model (st n)):=ha.1
  omega
 have HOL:=qh hol
 have hsr:=λX (hX:Below Z.heap.size Z X)=>zjg X c.vars.toNat S.out ov (zf.below yL.stays pV.out.outs.slice hX) (λx hx=>(bQ x hx).1) (λx hx=>⟨by rw [(bQ x hx).1];have:=gL.out;omega,by rw [(bQ x hx).2.1];have:=gL.out;omega⟩) HOL.out
 have HSR:=qh hsr
 have HCZ:Hid (∀x,Below Z.heap.size Z x->x.cell? ⟨mb,5,none⟩=some ov/\x.cell? ⟨mb,6,none⟩=some (.bool S.fails)):=λx hx=>⟨zk hx _ _ (ze pV.out.blk 5),zk hx _ _ (ze pV.out.blk 6)⟩
 clear bQ hsr hol
 refine vP (S:=λx=>Below Z.heap.size Z x) ((Below.refl _ _).drew) (λhA1=> ?_)
 obtain⟨V1,hV1⟩:∃V1,V1=Z.drew:=⟨_,rfl⟩
 rw [<-hV1] at hA1 ⊢
 clear hV1
 refine zh 0 HCZ.out ?_
 refine zh 1 HCZ.out ?_
 refine zh 2 HCZ.out ?_
 refine zh 3 HCZ.out ?_
 refine zh 5 HCZ.out ?_
 refine zh 6 HCZ.out ?_
 refine zh 7 HCZ.out ?_
 refine zh 8 HCZ.out ?_
 refine qG 4 rfl (λK hK=> ?_)
 go_simp
 refine(HSR.out V1 hA1).mono ?_
 rintro e aw4 ⟨r,hso,⟨xa,xc,rfl,hfa⟩,hb⟩
 have HSO:=qh hso
 have HFA:=qh hfa
 clear hso hfa
 have zmm:Below Z.heap.size Z aw4:=zn hA1 hb
 refine hK.out _ _ zmm (λ_=> ?_)
 clear hK K hb hA1
 refine zh 9 HCZ.out ?_
 refine zh 10 HCZ.out ?_
 refine zh 11 HCZ.out ?_
 refine vK ?_
 go_wp2_with fail
 go_ret3
 exact zjN (pV.out.base.trans (zmm.mono pV.out.base.size)) gJ.out HLG.out (by rw [HSE.out]) (by rw [<-HSE.out];exact HSO.out) HFA.out
