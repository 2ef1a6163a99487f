/- Steps. -/
import Derived.Test.YtknmdmimecepfaaGreatDoorVgAxCat
import Derived.Test.YtknmdmimecepfaaGreatDoorVgAxDfs
import Derived.Test.YtknmdmimecepfaaGreatDoorVgAxWalk
import Derived.Test.YtknmdmimecepfaaGreatDoorVgPSort
set_option linter.all false
namespace Go.Proofs.YtknmdmimecepfaaGreatDoor
open Go.RowKit
set_option maxRecDepth 100000
set_option maxHeartbeats 16000000
def jB (w:World) (c:zo) (model:Int) (d:Nat) (e:Ending) (w':World):Prop:=
 Below w.heap.size w w'/\
 if (yF c && codeOk c)=false\/model<0\/2<model then e= .returned (.tuple #[.slice none 0 0, .bool false, .int .i64 1])
 else if 8<zQ c c.threads.length\/vB c=true then e= .returned (.tuple #[.slice none 0 0, .bool false, .int .i64 2])
 else∃r a cap,e= .returned (.tuple #[.slice a r.length cap, .bool (jg c model d).fails, .int .i64 0])/\bS c.vars.toNat (jg c model d).out r/\qX w' (.slice a r.length cap) r
theorem zb0 {w w':World} {c:zo} {model:Int} {d:Nat} (hb:Below w.heap.size w w') (h:(yF c && codeOk c)=false\/model<0\/2<model):jB w c model d (.returned (.tuple #[.slice none 0 0, .bool false, .int .i64 1])) w':=⟨hb,by rw [if_pos h]⟩
theorem zdx {w w':World} {c:zo} {model:Int} {d:Nat} (hb:Below w.heap.size w w') (h:¬((yF c && codeOk c)=false\/model<0\/2<model)) (h2:8<zQ c c.threads.length\/vB c=true):jB w c model d (.returned (.tuple #[.slice none 0 0, .bool false, .int .i64 2])) w':=⟨hb,by rw [if_neg h,if_pos h2]⟩
theorem zlY {w w':World} {c:zo} {model:Int} {d:Nat} {r:List yt} {a:Option Addr} {cap:Nat} {fl:Bool} (hb:Below w.heap.size w w') (h:¬((yF c && codeOk c)=false\/model<0\/2<model)) (h2:¬(8<zQ c c.threads.length\/vB c=true)) (hf:fl=(jg c model d).fails) (hr:bS c.vars.toNat (jg c model d).out r) (hat:qX w' (.slice a r.length cap) r):
  jB w c model d (.returned (.tuple #[.slice a r.length cap, .bool fl, .int .i64 0])) w':=⟨hb,by rw [if_neg h,if_neg h2,hf];exact⟨r,a,cap,rfl,hr,hat⟩⟩
theorem zhw:(default:ze).cells.toArray=Tryz.zeroCells67:=by kernel_rfl
theorem zhx {c:zo} (h:codeOk c=true) {i:Nat} (hi:i<c.threads.length):(c.threads.getD i []).length<=600:=by
 unfold codeOk at h
 simp only [Bool.and_eq_true] at h
 have h1:=h.2
 rw [List.all_eq_true] at h1
 have h2:=h1 _ (yL (x:= []) hi)
 unfold rowOk at h2
 simp only [Bool.and_eq_true,decide_eq_true_eq] at h2
 exact h2.1
theorem jC (w:World) (c:zo) (tv:Value) (d:Nat) (h:yw d w tv c.threads) (h4:c.threads.length<=100000) (hrow:∀i,i<c.threads.length->(c.threads.getD i []).length<=100000) (model:Int):
  Calls Tryz.prog 8 #[xL c tv, .int .i64 model] w (jB w c model d):=by
 obtain⟨ta,tc,rfl, -⟩:=zh.slice h
 have hA:=(Below.refl w.heap.size w).alloc (Nat.le_refl _) (.cells #[.int .i64 c.vars, .int .i64 c.domain, .slice ta c.threads.length tc] 25)
 have hfw:=λX (hX:Below w.heap.size w X)=>zgX X c _ d (zh.below (qC.stays d) h hX) h4 hrow
 have hev:=λX (hX:Below w.heap.size w X)=>ziw X c _ d (zh.below (qC.stays d) h hX) h4 hrow
 have hwi:=λ(hc:codeOk c=true) X (hX:Below w.heap.size w X)=>zlZ X c _ d (zh.below (qC.stays d) h hX) (yI hc).2.2.2.2.2 (λi hi=>zhx hc hi) (by have:=yI hc;omega) (yI hc).2.2.2.1
 have hel:=zdI hrow c.threads.length (Nat.le_refl _)
 obtain⟨n,hn⟩:∃n,n=c.threads.length:=⟨_,rfl⟩
 unfold xL at hfw hev hwi ⊢
 have H1:=qh (zT w (.cells #[.int .i64 c.vars, .int .i64 c.domain, .slice ta c.threads.length tc] 25))
 rw [<-hn] at h h4 hA hfw hev hwi hel H1 ⊢
 obtain⟨fw,zdO⟩:∃b,b=(yF c && codeOk c):=⟨_,rfl⟩
 obtain⟨en,zcx⟩:∃b,b=zQ c n:=⟨_,rfl⟩
 obtain⟨wb,zdP⟩:∃b,b=vB c:=⟨_,rfl⟩
 rw [<-zdO] at hfw
 rw [<-zcx] at hev hel
 rw [<-zdP] at hwi
 have zdQ:=qh zdO
 have zf2:=qh zcx
 have zhy:=qh zdP
 have HFW:=qh hfw
 have HEV:=qh hev
 have HWI:=qh hwi
 have HB:=qh hA
 have HT:=qh h
 have HN:=qh hn
 clear hfw hev hwi hA h hn zdO zcx zdP hrow
 go_enter Tryz.func8,Tryz.ntmps8
 go_upto_region 1 with fail
 generalize World.alloc w _=W at HB H1 ⊢
 obtain⟨gx,hgx⟩:∃gx,gx=w.heap.size:=⟨_,rfl⟩
 rw [<-hgx] at H1 ⊢
 clear hgx
 have HC:Hid (∀x,Below W.heap.size W x->x.cell? ⟨gx,0,none⟩=some (.int .i64 c.vars)/\x.cell? ⟨gx,1,none⟩=some (.int .i64 c.domain)/\x.cell? ⟨gx,2,none⟩=some (.slice ta n tc)):=λx hx=>⟨zi hx _ _ (za H1.out 0),zi hx _ _ (za H1.out 1),zi hx _ _ (za H1.out 2)⟩
 clear H1
 obtain⟨c0,c1,c2⟩:=HC.out W (Below.refl _ _)
 cases fw with
 |false=>
  have zZ:Hid ((yF c && codeOk c)=false\/model<0\/2<model):= .inl zdQ.out.symm
  go_wp2_with(go_at_call 21;go_must(refine(HFW.out W HB.out).mono ?_);rintro e X1 ⟨rfl,hb⟩;(have jA:=qh (zm HB.out hb));clear hb c0 c1 c2)
  go_ret3
  exact zb0 jA.out zZ.out
 |true=>
 by_cases hm0:model<0
 ·have zZ:Hid ((yF c && codeOk c)=false\/model<0\/2<model):= .inr (.inl hm0)
  go_wp2_with(go_at_call 21;go_must(refine(HFW.out W HB.out).mono ?_);rintro e X1 ⟨rfl,hb⟩;(have jA:=qh (zm HB.out hb));clear hb c0 c1 c2)
  go_ret3
  exact zb0 jA.out zZ.out
 by_cases hm2:2<model
 ·have zZ:Hid ((yF c && codeOk c)=false\/model<0\/2<model):= .inr (.inr hm2)
  go_wp2_with(go_at_call 21;go_must(refine(HFW.out W HB.out).mono ?_);rintro e X1 ⟨rfl,hb⟩;(have jA:=qh (zm HB.out hb));clear hb c0 c1 c2)
  go_ret3
  exact zb0 jA.out zZ.out
 have wF:Hid (¬((yF c && codeOk c)=false\/model<0\/2<model)):=by
  rintro(h1|h1|h1)
  ·rw [<-zdQ.out] at h1;cases h1
  ·omega
  omega
 have hck:yF c=true/\codeOk c=true:=by have:=zdQ.out;simpa using this.symm
 have HCK:=qh hck
 clear hck
 go_upto_region 3 with(go_at_call 21;go_must(refine(HFW.out W HB.out).mono ?_);rintro e X1 ⟨rfl,hb⟩;(have jA:=qh (zm HB.out hb));(have vT:=qh hb);clear hb c0 c1 c2)
 obtain⟨c0,c1,c2⟩:=HC.out X1 vT.out
 by_cases he8:8<en
 ·have HLG:Hid (8<zQ c c.threads.length\/vB c=true):= .inl (by rw [<-HN.out, <-zf2.out];exact he8)
  have znF:(8:Int)<(en:Int):=by omega
  go_wp2_with(go_at_call 22;go_must(refine(HEV.out X1 jA.out).mono ?_);rintro e X2 ⟨rfl,hb⟩;(have HX2:=qh (zm jA.out hb));clear hb c0 c1 c2)
  go_ret3
  exact zdx HX2.out wF.out HLG.out
 have znF:¬(8:Int)<(en:Int):=by omega
 have zhz:=qh (HWI.out HCK.out.2)
 cases wb with
 |true=>
  have HLG:Hid (8<zQ c c.threads.length\/vB c=true):= .inr zhy.out.symm
  go_wp2_with(first|(go_at_call 23;go_must(refine(zhz.out X2 HX2.out).mono ?_);rintro e X3 ⟨rfl,hb⟩;(have ug:=qh (zm HX2.out hb));clear hb c0 c1 c2)|(go_at_call 22;go_must(refine(HEV.out X1 jA.out).mono ?_);rintro e X2 ⟨rfl,hb⟩;(have HX2:=qh (zm jA.out hb));(have HW2:=qh (zm vT.out hb));clear hb c0 c1 c2;obtain⟨c0,c1,c2⟩:=HC.out X2 HW2.out))
  go_ret3
  exact zdx ug.out wF.out HLG.out
 |false=>
 have HLG:Hid (¬(8<zQ c c.threads.length\/vB c=true)):=by
  rintro(h1|h1)
  ·rw [<-HN.out, <-zf2.out] at h1;exact he8 h1
  rw [<-zhy.out] at h1;cases h1
 go_upto_region 5 with(first|(go_at_call 23;go_must(refine(zhz.out X2 HX2.out).mono ?_);rintro e X3 ⟨rfl,hb⟩;(have ug:=qh (zm HX2.out hb));(have HW3:=qh (zm HW2.out hb));clear hb c0 c1 c2)|(go_at_call 22;go_must(refine(HEV.out X1 jA.out).mono ?_);rintro e X2 ⟨rfl,hb⟩;(have HX2:=qh (zm jA.out hb));(have HW2:=qh (zm vT.out hb));clear hb c0 c1 c2;obtain⟨c0,c1,c2⟩:=HC.out X2 HW2.out))
 obtain⟨c0,c1,c2⟩:=HC.out X3 HW3.out
 have hbd:=yI HCK.out.2
 have zr3:zQ c c.threads.length<=8:=by rw [<-HN.out, <-zf2.out];omega
 have zcz:=qh zr3
 have wM:=qh hbd
 have hn4:n<=4:=by rw [HN.out];exact hbd.2.2.2.2.2
 have hset:=gI.made X3
 obtain⟨sm,hsm⟩:∃q,q=X3.heap.size:=⟨_,rfl⟩
 have hmk:=zT (X3.alloc (.map #[] 0)) (.cells #[.int .i64 c.vars, .int .i64 c.domain, .slice ta n tc, .int .i64 model, .map (some sm), .slice none 0 0, .bool false] 58)
 have hb5:Below X3.heap.size X3 ((X3.alloc (.map #[] 0)).alloc (.cells #[.int .i64 c.vars, .int .i64 c.domain, .slice ta n tc, .int .i64 model, .map (some sm), .slice none 0 0, .bool false] 58)):=zm (zK _ _) (zK _ _)
 have hs5:=hset.below (zK _ (.cells #[.int .i64 c.vars, .int .i64 c.domain, .slice ta n tc, .int .i64 model, .map (some sm), .slice none 0 0, .bool false] 58))
 rw [<-hsm] at hs5
 have zkf:X3.heap.size<=(X3.alloc (.map #[] 0)).heap.size:=(zK X3 (.map #[] 0)).size
 have hmm:= @run_makeMap Tryz.prog
 have zr4:=qh hsm
 clear hset hbd zr3
 go_upto_region 6 with fail
 try rw [<-hsm]
 clear hmm c0 c1 c2 hsm
 obtain⟨mb,hmb⟩:∃q,q=sm+1:=⟨_,rfl⟩
 have hal:(X3.alloc (.map #[] 0)).heap.size=sm+1:=by rw [zr4.out];simp
 rw [hal, <-hmb] at hmk zkf
 (first|rw [<-hmb] |rw [hal, <-hmb])
 clear hal
 have bY:=qh hmk
 have HB5:=qh hb5
 have HS5:=qh hs5
 have HMB:=qh zkf
 clear hmk hb5 hs5 zkf hmb
 generalize World.alloc (World.alloc X3 _) _=X5 at bY HB5 HS5 ⊢
 have hw0:=zT X5 (.cells Tryz.zeroCells67 67)
 have hb6:=zK X5 (.cells Tryz.zeroCells67 67)
 have zkg:=qh hw0
 have HB6:=qh hb6
 clear hw0 hb6
 go_upto_region 7 with fail
 generalize World.alloc X5 _=X6 at zkg HB6 ⊢
 obtain⟨g,hg⟩:∃q,q=X5.heap.size:=⟨_,rfl⟩
 rw [<-hg] at zkg ⊢
 have HG:=qh hg
 clear hg
 have HSF:=qh (λi hi=>za3 (model:=model) (d:=d) HCK.out.2 HCK.out.1 zcz.out i hi)
 have zvt:=qh (zm ug.out (zm HB5.out HB6.out))
 have zvu:Hid (yE w X6 mb sm 0 c (.slice ta n tc) d model (.slice none 0 0) ⟨[], [],false⟩ []):=⟨zvt.out,HT.out,(HB6.out.block _ (zB bY.out)).trans bY.out,⟨by have h1:=ug.out.size;have h2:=HMB.out;omega,by have h1:=ug.out.size;have h2:=zr4.out;omega⟩,HS5.out.below HB6.out,xC.nil _ _ _ _ _ _⟩
 have HW6:Hid (zC X6 g (wu c model d 0)):=⟨(by have h0:=zkg.out;rw [<-zhw] at h0;exact h0),(HSF.out 0 (Nat.zero_le _)).v.ok⟩
 have HGV:Hid (w.heap.size<=g):=by have h1:=ug.out.size;have h2:=HB5.out.size;have h3:=HG.out;show _<=_;omega
 clear bY HS5 zkg
 obtain⟨st,hst⟩:∃st,st=λi=>wu c model d i:=⟨_,rfl⟩
 have zfr:∀i,st i=wu c model d i:=λi=>by rw [hst]
 rw [<-zfr] at HW6
 have uw:=qh zfr
 clear hst zfr
 have zvv:X6.cell? ⟨gx,2,none⟩=some (.slice ta n tc):=(HC.out X6 (zm HW3.out (zm HB5.out HB6.out))).2.2
 go_wp2_with fail
 clear zvv
 go_loopg [36] n (λgg s36 wr=>∃i:Nat,i<=n/\Hid (gg=n - i)/\s36= .int .i64 i/\Hid (yE w wr mb sm 0 c (.slice ta n tc) d model (.slice none 0 0) ⟨[], [],false⟩ [])/\Hid (zC wr g (st i)))
 case atStart=>exact⟨0,Nat.zero_le _,rfl,rfl,zvu.out,HW6.out⟩
 case round=>
 obtain⟨i,hi,uV,rfl,wO,zh0⟩:=hrel
 obtain⟨wo,rfl⟩:∃wo:World,wo=wr:=⟨_,rfl⟩
 by_cases hlt:i<n
 ·have qQ:(i:Int)<(n:Int):=by omega
  have hic:i<c.threads.length:=by rw [<-HN.out];exact hlt
  have hrv:=uq HCK.out.2 HCK.out.1 hic
  have hsf:=HSF.out i (Nat.le_of_lt hic)
  have hth:=hsf.rest i (Nat.le_refl _) (by omega)
  rw [<-uw.out] at hsf hth
  have hbg:=zda w wo mb c _ d model wO.out.axc wM.out.2.2.2.2.2 (by have:=wM.out;omega) (by have:=wM.out;omega) g HGV.out (wO.out.zbn zh0.out) (st i) zh0.out i hic hrv.good hrv.len (c.threads.getD i []).length (by omega) (Nat.le_trans (hsf.cnt i hic) (Nat.le_trans (zfu hic) zcz.out))
  have hnx:yT model c.domain d (c.threads.getD i []) i (c.threads.getD i []).length (st i)=st (i+1):=by rw [uw.out,uw.out];rfl
  rw [hnx] at hbg
  have HBG:=qh hbg
  clear hic hrv hsf hth hbg hnx
  go_wp2_with(go_at_call 24;go_must(refine HBG.out.mono ?_);rintro e Y ⟨rfl,hw1,wm⟩;(have HW1:=qh hw1);(have bT:=qh wm);clear hw1 wm)
  go_roundg (n - (i+1))
  case measure=>rw [uV.out];omega
  case rel=>exact⟨i+1,by omega,rfl,by simp,wO.out.one zh0.out HGV.out bT.out,HW1.out⟩
 obtain rfl:n=i:=by omega
 obtain⟨S,hS⟩:∃S,S=jg c model d:=⟨_,rfl⟩
 have hgood:=(HSF.out c.threads.length (Nat.le_refl _)).good zcz.out
 have hwk:=zqf w mb sm c _ d model HCK.out.2 HCK.out.1 9 (st n) (by rw [uw.out,HN.out];exact hgood.1) (by rw [uw.out,HN.out];have:=zcz.out;omega) wo ⟨[], [],false⟩ _ [] wO.out (by
  have h1:yK c model (st n)<=8:=by rw [uw.out,HN.out];have:=zcz.out;omega
  have h2:=wB h1
  have h3:nb 8=109601:=by decide
  show 0+nb (yK c model (st n))<=1000000
  omega) (Nat.le_refl _)
 have hS2:S=zI c model d 9 (st n) ⟨[], [],false⟩:=by rw [hS,uw.out,HN.out];rfl
 rw [<-hS2] at hwk
 obtain⟨cs,hcs⟩:∃q,q=(st n).cells:=⟨_,rfl⟩
 have je:Hid (cs.length=221):=by rw [hcs];exact ze.qc zh0.out.ok
 have zno:Hid (wo.rangeAt g 0 cs):=by rw [hcs];exact zh0.out.range
 unfold ze.val zaJ at hwk
 rw [<-hcs] at hwk
 have HWK:=qh hwk
 have HSE:=qh hS
 clear hS hgood hwk hS2 hcs
 go_upto_region 13 with(first|with_reducible refine wpList_load_mid rfl 67 _ rfl g 0 rfl cs _ zno.out Tryz.underlying67 rfl (by rw [je.out];exact xJ) ?_|(go_at_call 25;go_must(refine HWK.out.mono ?_);rintro e Z ⟨rfl,ov,css,hm,hs,ho⟩;(have HMZ:=qh hm);clear hm hs ho))
 have zaA:=zlo (model:=model) (d:=d) HCK.out.2 HCK.out.1 zcz.out
 rw [<-HSE.out] at zaA
 have hol:S.out.length<=1000000:=by
  have hg:=(HSF.out c.threads.length (Nat.le_refl _)).good zcz.out
  have ha:=zcb (d:=d) HCK.out.2 HCK.out.1 9 (st n) (by rw [uw.out,HN.out];exact hg.1) ⟨[], [],false⟩
  have hS2:S=zI c model d 9 (st n) ⟨[], [],false⟩:=by rw [HSE.out,uw.out,HN.out];rfl
  rw [<-hS2] at ha
  have h1:yK c model (st n)<=8:=by rw [uw.out,HN.out];have:=zcz.out;omega
  have h2:=wB h1
  have h3:nb 8=109601:=by decide
  have h4:=ha.2 (Nat.le_refl _)
  have h5:S.seen.length<=0+nb (yK c model (st n)):=ha.1
  omega
 have HOL:=qh hol
 have hsr:=λX (hX:Below Z.heap.size Z X)=>zlU X c.vars.toNat S.out ov (zh.below qF.stays HMZ.out.outs.slice hX) (λx hx=>(zaA x hx).1) (λx hx=>⟨by rw [(zaA x hx).1];have:=wM.out;omega,by rw [(zaA x hx).2.1];have:=wM.out;omega⟩) HOL.out
 have HSR:=qh hsr
 have HCZ:Hid (∀x,Below Z.heap.size Z x->x.cell? ⟨mb,5,none⟩=some ov/\x.cell? ⟨mb,6,none⟩=some (.bool S.fails)):=λx hx=>⟨zi hx _ _ (za HMZ.out.blk 5),zi hx _ _ (za HMZ.out.blk 6)⟩
 clear zaA hsr hol
 refine kP (S:=λx=>Below Z.heap.size Z x) ((Below.refl _ _).drew) (λhA1=> ?_)
 obtain⟨V1,hV1⟩:∃V1,V1=Z.drew:=⟨_,rfl⟩
 rw [<-hV1] at hA1 ⊢
 clear hV1
 refine zk 0 HCZ.out ?_
 refine zk 1 HCZ.out ?_
 refine zk 2 HCZ.out ?_
 refine zk 3 HCZ.out ?_
 refine zk 5 HCZ.out ?_
 refine zk 6 HCZ.out ?_
 refine zk 7 HCZ.out ?_
 refine zk 8 HCZ.out ?_
 refine yZ 4 rfl (λK hK=> ?_)
 go_simp
 refine(HSR.out V1 hA1).mono ?_
 rintro e aw4 ⟨r,hso,⟨xa,xc,rfl,hfa⟩,hb⟩
 have HSO:=qh hso
 have HFA:=qh hfa
 clear hso hfa
 have zpD:Below Z.heap.size Z aw4:=zm hA1 hb
 refine hK.out _ _ zpD (λ_=> ?_)
 clear hK K hb hA1
 refine zk 9 HCZ.out ?_
 refine zk 10 HCZ.out ?_
 refine zk 11 HCZ.out ?_
 refine vE ?_
 go_wp2_with fail
 go_ret3
 exact zlY (HMZ.out.base.trans (zpD.mono HMZ.out.base.size)) wF.out HLG.out (by rw [HSE.out]) (by rw [<-HSE.out];exact HSO.out) HFA.out
