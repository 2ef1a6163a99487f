/- Steps. -/
import Derived.Test.YtknmdmimecepfaaGreatDoorVhPart
import Derived.Test.YtknmdmimecepfaaGreatDoorVhTreeG
set_option linter.all false
namespace Go.Proofs.YtknmdmimecepfaaGreatDoor
open Go.RowKit
set_option maxRecDepth 100000
set_option maxHeartbeats 16000000
theorem ze3 (dom:Int) (e:Nat) (w:World) (x:zC) (kv:Value) (h:zM e w x kv):Calls Tryz.prog 107 #[qc x kv, .int .i64 dom] w λe w'=>e= .returned (.bool (zS dom 20 x))/\Below w.heap.size w w':=by
 have hi:=λW (hW:Below w.heap.size w W)=>zit dom 20 (by omega) e W x kv (h.below hW)
 obtain⟨ka,kc,rfl, -⟩:=h.slice
 generalize zS dom 20 x=r at hi ⊢
 unfold qc at hi ⊢
 generalize x.kind=k at hi ⊢
 generalize x.n=n at hi ⊢
 generalize x.op=o at hi ⊢
 generalize x.kids.length=m at hi ⊢
 have HI:=qh hi
 clear hi h
 have HA:=qh ((Below.refl w.heap.size w).alloc (Nat.le_refl _) (.cells #[.int .i64 k, .int .i64 n, .int .u8 o, .slice ka m kc] 43))
 have xV:=qh (yG w (.cells #[.int .i64 k, .int .i64 n, .int .u8 o, .slice ka m kc] 43))
 go_enter Tryz.func107,Tryz.ntmps107
 go_upto_region 1 with fail
 generalize World.alloc w _=W at HA xV ⊢
 obtain⟨gx,hgx⟩:∃gx,gx=w.heap.size:=⟨_,rfl⟩
 rw [<-hgx] at xV ⊢
 clear hgx
 have c0:W.cell? ⟨gx,0,none⟩=some (.int .i64 k):=ze xV.out 0
 have c1:W.cell? ⟨gx,1,none⟩=some (.int .i64 n):=ze xV.out 1
 have c2:W.cell? ⟨gx,2,none⟩=some (.int .u8 o):=ze xV.out 2
 have c3:W.cell? ⟨gx,3,none⟩=some (.slice ka m kc):=ze xV.out 3
 go_wp2_with fail
 refine(HI.out _ HA.out).mono ?_
 rintro e w1 ⟨rfl,hb⟩
 have HB1:=qh (zn HA.out hb)
 clear hb
 go_wp2_with fail
 go_ret
 exact⟨by first|rfl|simp,HB1.out⟩
def uW (dom:Int) (has:Bool) (x:zC):Bool:=if has then zS dom 20 x else j3 x
theorem zc5 (dom:Int) (e:Nat) (w:World) (x:zC) (kv:Value) (h:zM e w x kv) (has:Bool) (bo:Nat) (co:w.cell? ⟨bo,0,none⟩=some (.int .i64 dom)):
  Calls Tryz.prog 106 #[qc x kv, .bool has, .pointer (some ⟨bo,0,none⟩)] w λe w'=>e= .returned (.bool (uW dom has x))/\Below w.heap.size w w':=by
 have hi:=λW (hW:Below w.heap.size w W)=>ze3 dom e W x kv (h.below hW)
 obtain⟨ka,kc,rfl, -⟩:=h.slice
 have hn:=λW=>ziu W x ka kc
 obtain⟨rn,hrn⟩:∃r,r=j3 x:=⟨_,rfl⟩
 obtain⟨ro,hro⟩:∃r,r=zS dom 20 x:=⟨_,rfl⟩
 have hr:uW dom has x=if has then ro else rn:=by rw [hrn,hro];rfl
 rw [<-hro] at hi
 rw [<-hrn] at hn
 rw [hr]
 clear hr hrn hro
 unfold qc at hi hn ⊢
 generalize x.kind=k at hi hn ⊢
 generalize x.n=n at hi hn ⊢
 generalize x.op=o at hi hn ⊢
 generalize x.kids.length=m at hi hn ⊢
 have HI:=qh hi
 have HN:=qh hn
 clear hi hn h
 have HA:=qh ((Below.refl w.heap.size w).alloc (Nat.le_refl _) (.cells #[.int .i64 k, .int .i64 n, .int .u8 o, .slice ka m kc] 43))
 have xV:=qh (yG w (.cells #[.int .i64 k, .int .i64 n, .int .u8 o, .slice ka m kc] 43))
 replace co:=zk HA.out _ _ co
 cases has with
 |true=>
  go_enter Tryz.func106,Tryz.ntmps106
  go_upto_region 1 with fail
  generalize World.alloc w _=W at HA xV co ⊢
  obtain⟨gx,hgx⟩:∃gx,gx=w.heap.size:=⟨_,rfl⟩
  rw [<-hgx] at xV ⊢
  clear hgx
  have c0:W.cell? ⟨gx,0,none⟩=some (.int .i64 k):=ze xV.out 0
  have c1:W.cell? ⟨gx,1,none⟩=some (.int .i64 n):=ze xV.out 1
  have c2:W.cell? ⟨gx,2,none⟩=some (.int .u8 o):=ze xV.out 2
  have c3:W.cell? ⟨gx,3,none⟩=some (.slice ka m kc):=ze xV.out 3
  go_wp2_with fail
  refine(HI.out _ HA.out).mono ?_
  rintro e w1 ⟨rfl,hb⟩
  have HB1:=qh (zn HA.out hb)
  clear hb
  go_wp2_with fail
  go_ret
  exact⟨by first|rfl|simp,HB1.out⟩
 |false=>
 go_enter Tryz.func106,Tryz.ntmps106
 go_upto_region 1 with fail
 generalize World.alloc w _=W at HA xV co ⊢
 obtain⟨gx,hgx⟩:∃gx,gx=w.heap.size:=⟨_,rfl⟩
 rw [<-hgx] at xV ⊢
 clear hgx
 have c0:W.cell? ⟨gx,0,none⟩=some (.int .i64 k):=ze xV.out 0
 have c1:W.cell? ⟨gx,1,none⟩=some (.int .i64 n):=ze xV.out 1
 have c2:W.cell? ⟨gx,2,none⟩=some (.int .u8 o):=ze xV.out 2
 have c3:W.cell? ⟨gx,3,none⟩=some (.slice ka m kc):=ze xV.out 3
 go_wp2_with fail
 refine(HN.out _).mono ?_
 rintro e w1 ⟨rfl,hb⟩
 have HB1:=qh (zn HA.out hb)
 clear hb
 go_wp2_with fail
 go_ret
 exact⟨by first|rfl|simp,HB1.out⟩
def fmZ:Value:= .agg #[.bool false, .bool false, .bool false, .bool false, .bool false, .bool false, .nilFunc]
theorem ziw:(Tryz.prog.info? 180).map (λi=>(i.zero,i.size,i.bytes))=some (some fmZ,7,16):=by kernel_rfl
theorem zei (P:World):(zeroValue 180).run Tryz.prog P= .ok fmZ P:=by
 obtain⟨i0,hi,hz0,hz1,hz2⟩:=info_parts ziw
 simp [zeroValue,typeInfo,hi,hz0]
theorem zix (k:Int):∃t o fv,fv.oneCell'=true/\(vL fmL k).getD fmZ= .agg #[.bool (zaH k), .bool (zaI k), .bool (zaJ k), .bool (hasB k), .bool t, .bool o,fv] :=by
 by_cases h:1<=k/\k<=11
 ·have:k=1\/k=2\/k=3\/k=4\/k=5\/k=6\/k=7\/k=8\/k=9\/k=10\/k=11:=by omega
  rcases this with rfl|rfl|rfl|rfl|rfl|rfl|rfl|rfl|rfl|rfl|rfl<;>exact⟨_,_,_,rfl,rfl⟩
 have e:(vL fmL k).getD fmZ=fmZ:=by
  have n1:¬(1:Int)=k:=by omega
  have n2:¬(2:Int)=k:=by omega
  have n3:¬(3:Int)=k:=by omega
  have n4:¬(4:Int)=k:=by omega
  have n5:¬(5:Int)=k:=by omega
  have n6:¬(6:Int)=k:=by omega
  have n7:¬(7:Int)=k:=by omega
  have n8:¬(8:Int)=k:=by omega
  have n9:¬(9:Int)=k:=by omega
  have n10:¬(10:Int)=k:=by omega
  have n11:¬(11:Int)=k:=by omega
  simp [fmL,vL,n1,n2,n3,n4,n5,n6,n7,n8,n9,n10,n11]
 rw [e]
 refine⟨false,false, .nilFunc,rfl, ?_⟩
 have a1:zaH k=false:=by unfold zaH;exact decide_eq_false (by omega)
 have a2:zaI k=false:=by unfold zaI;exact decide_eq_false (by omega)
 have a3:zaJ k=false:=by unfold zaJ;exact decide_eq_false (by omega)
 have a4:hasB k=false:=by unfold hasB;exact decide_eq_false (by omega)
 rw [a1,a2,a3,a4];rfl
def zai (n m:Int) (h:Bool):Bool:=if h then decide (0<=n) && decide (n<m) else decide (n=0)
theorem zhc (k reg v:Int) (a b:zC) (vars dom:Int):vC k reg v a b vars dom=(zai reg 4 (zaH k) && zai v vars (zaI k) && uW dom (zaJ k) a && uW dom (hasB k) b):=rfl
theorem ziy (w:World) (k reg v:Int) (a b:zC) (ka kb:Value) (e:Nat) (ha:zM e w a ka) (hb:zM e w b kb) (vars dom:Int):
  Calls Tryz.prog 83 #[.int .i64 k, .int .i64 reg, .int .i64 v,qc a ka,qc b kb, .int .i64 vars, .int .i64 dom] w λe w'=>e= .returned (.bool (vC k reg v a b vars dom))/\Below w.heap.size w w':=by
 rw [zhc]
 have hia:=λW (hW:Below w.heap.size w W) has bo co=>zc5 dom e W a ka (ha.below hW) has bo co
 have hib:=λW (hW:Below w.heap.size w W) has bo co=>zc5 dom e W b kb (hb.below hW) has bo co
 obtain⟨aa,ac,rfl, -⟩:=ha.slice
 obtain⟨ba,bc,rfl, -⟩:=hb.slice
 obtain⟨fo,ft,fv,hfv,hfm⟩:=zix k
 have hst:∀a W,(store a fv .plain).run Tryz.prog W=stored Tryz.prog W a fv .plain:=λa W=>run_store _ _ _ _ _ hfv
 generalize zaH k=h0 at hfm ⊢
 generalize zaI k=h1 at hfm ⊢
 generalize zaJ k=h2 at hfm ⊢
 generalize hasB k=h3 at hfm ⊢
 obtain⟨r1,hr1⟩:∃r,r=zai reg 4 h0:=⟨_,rfl⟩
 obtain⟨r2,hr2⟩:∃r,r=zai v vars h1:=⟨_,rfl⟩
 obtain⟨r3,hr3⟩:∃r,r=uW dom h2 a:=⟨_,rfl⟩
 obtain⟨r4,hr4⟩:∃r,r=uW dom h3 b:=⟨_,rfl⟩
 have hn1:=λW=>zbO W reg 4 h0
 have hn2:=λW=>zbO W v vars h1
 unfold zai at hr1 hr2
 rw [<-hr1] at hn1
 rw [<-hr2] at hn2
 replace hia:=λW hW bo co=>hia W hW h2 bo co
 replace hib:=λW hW bo co=>hib W hW h3 bo co
 rw [<-hr3] at hia
 rw [<-hr4] at hib
 have hr5:(zai reg 4 h0 && zai v vars h1 && uW dom h2 a && uW dom h3 b)=(r1 && r2 && r3 && r4):=by rw [hr1,hr2,hr3,hr4];rfl
 rw [hr5]
 clear hr5 hr1 hr2 hr3 hr4 ha hb
 unfold qc at hia hib ⊢
 generalize a.kind=ak at hia ⊢
 generalize a.n=an at hia ⊢
 generalize a.op=ao at hia ⊢
 generalize a.kids.length=am at hia ⊢
 generalize b.kind=bk at hib ⊢
 generalize b.n=bn at hib ⊢
 generalize b.op=bo at hib ⊢
 generalize b.kids.length=bm at hib ⊢
 have HIA:=qh hia
 have HIB:=qh hib
 have HN1:=qh hn1
 have HN2:=qh hn2
 clear hia hib hn1 hn2
 have hB:=ze5 w (.cells #[.int .i64 ak, .int .i64 an, .int .u8 ao, .slice aa am ac] 43) (.cells #[.int .i64 bk, .int .i64 bn, .int .u8 bo, .slice ba bm bc] 43) (.cells #[.int .i64 dom] 3)
 have HB:=qh hB.1
 have HX:=qh hB.2.1
 have HD:=qh hB.2.2.1
 have HO:=qh hB.2.2.2.1
 clear hB
 have HFM:=qh hfm
 clear hfm
 go_enter Tryz.func83,Tryz.ntmps83
 go_upto_region 1 with fail
 generalize World.alloc (World.alloc (World.alloc w _) _) _=W at HB HX HD HO ⊢
 obtain⟨gx,hgx⟩:∃gx,gx=w.heap.size:=⟨_,rfl⟩
 rw [<-hgx] at HX HD HO ⊢
 clear hgx
 go_wp2_with fail
 refine(zhd W).mono ?_
 rintro e w1 ⟨mb,rfl,hm1, -,hb1⟩
 have HB1:=qh hb1
 have hlk:=jW hm1 Tryz.underlying181 Tryz.underlying3 (zei w1) k false
 rw [HFM.out] at hlk
 have HA:=qh ((Below.refl w1.heap.size w1).alloc (Nat.le_refl _) (.cells #[.bool h0, .bool h1, .bool h2, .bool h3, .bool fo, .bool ft,fv] 180))
 have HF:=qh (yG w1 (.cells #[.bool h0, .bool h1, .bool h2, .bool h3, .bool fo, .bool ft,fv] 180))
 clear hm1 HFM hb1
 go_upto_region 2 with fail
 generalize World.alloc w1 _=X at HA HF ⊢
 obtain⟨gf,hgf⟩:∃g,g=w1.heap.size:=⟨_,rfl⟩
 rw [<-hgf] at HF ⊢
 clear hgf
 have HW:Hid (Below w.heap.size w X):=HB.out.trans ((HB1.out.trans (HA.out.mono HB1.out.size)).mono HB.out.size)
 have HC:Hid (∀x,Below X.heap.size X x->(x.cell? ⟨gx,0,none⟩=some (.int .i64 ak)/\x.cell? ⟨gx,1,none⟩=some (.int .i64 an)/\x.cell? ⟨gx,2,none⟩=some (.int .u8 ao)/\x.cell? ⟨gx,3,none⟩=some (.slice aa am ac))/\
   (x.cell? ⟨gx+1,0,none⟩=some (.int .i64 bk)/\x.cell? ⟨gx+1,1,none⟩=some (.int .i64 bn)/\x.cell? ⟨gx+1,2,none⟩=some (.int .u8 bo)/\x.cell? ⟨gx+1,3,none⟩=some (.slice ba bm bc))/\
   (x.cell? ⟨gf,0,none⟩=some (.bool h0)/\x.cell? ⟨gf,1,none⟩=some (.bool h1)/\x.cell? ⟨gf,2,none⟩=some (.bool h2)/\x.cell? ⟨gf,3,none⟩=some (.bool h3))/\x.cell? ⟨gx+1+1,0,none⟩=some (.int .i64 dom)):=λx hx=>
  have k:=λp v h=>zk (zn (HB1.out.trans (HA.out.mono HB1.out.size)) hx) p v h
  ⟨⟨k _ _ (ze HX.out 0),k _ _ (ze HX.out 1),k _ _ (ze HX.out 2),k _ _ (ze HX.out 3)⟩,⟨k _ _ (ze HD.out 0),k _ _ (ze HD.out 1),k _ _ (ze HD.out 2),k _ _ (ze HD.out 3)⟩,⟨zk hx _ _ (ze HF.out 0),zk hx _ _ (ze HF.out 1),zk hx _ _ (ze HF.out 2),zk hx _ _ (ze HF.out 3)⟩,k _ _ (ze HO.out 0)⟩
 clear hlk hst HX HD HO HF HB HB1 HA
 have HXX:=qh (Below.refl X.heap.size X)
 obtain⟨⟨c0,c1,c2,c3⟩,⟨d0,d1,d2,d3⟩,⟨e0,e1,e2,e3⟩,co⟩:=HC.out X HXX.out
 go_wp2_with fail
 refine(HN1.out X).mono ?_
 rintro e w2 ⟨rfl,rfl⟩
 cases r1 with
 |false=>
  go_wp2_with fail
  go_ret
  exact⟨by first|rfl|simp,HW.out⟩
 |true=>
 go_wp2_with fail
 refine(HN2.out w2).mono ?_
 rintro e w3 ⟨rfl,rfl⟩
 cases r2 with
 |false=>
  go_wp2_with fail
  go_ret
  exact⟨by first|rfl|simp,HW.out⟩
 |true=>
 go_wp2_with fail
 refine(HIA.out w3 HW.out (gx+1+1) co).mono ?_
 rintro e w4 ⟨rfl,hb4⟩
 have uz:=qh hb4
 have qy:=qh (HW.out.trans (hb4.mono HW.out.size))
 clear hb4 c0 c1 c2 c3 d0 d1 d2 d3 e0 e1 e2 e3 co
 obtain⟨-,⟨d0,d1,d2,d3⟩,⟨-, -, -,e3⟩,co⟩:=HC.out w4 uz.out
 cases r3 with
 |false=>
  go_wp2_with fail
  go_ret
  exact⟨by first|rfl|simp,qy.out⟩
 |true=>
 go_wp2_with fail
 refine(HIB.out w4 qy.out (gx+1+1) co).mono ?_
 rintro e w5 ⟨rfl,hb5⟩
 have p8:=qh (qy.out.trans (hb5.mono qy.out.size))
 clear hb5 d0 d1 d2 d3 e3 co
 go_wp2_with fail
 go_ret
 exact⟨by first|rfl|simp,p8.out⟩
