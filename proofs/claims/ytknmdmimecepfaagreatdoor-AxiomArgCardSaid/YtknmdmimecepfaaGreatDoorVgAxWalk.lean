/- Steps. -/
import Derived.Test.YtknmdmimecepfaaGreatDoorVgAxN
set_option linter.all false
namespace Go.Proofs.YtknmdmimecepfaaGreatDoor
open Go.RowKit
set_option maxRecDepth 100000
set_option maxHeartbeats 16000000
theorem xJ:(Tryz.prog.info? 67).map (·.size)=some 221:=by kernel_rfl
theorem bG {P:Program} {op:Oper} {a:Act} {w:World} {K R:Act->World->Prop} {Q:Exit->Act->World->Prop} (hK:∀a w,R a w->K a w) (ty:TypeId) (x:Operand) (ho:op.op= .load ty x)
  (b o:Nat) (hx:a.eval x= .pointer (some ⟨b,o,none⟩)) (cs:List Value) (d:TypeDesc) (hc:w.rangeAt b o cs)
  (hu:P.underlying ty=some d) (hd:d.isRow=true) (hi:(P.info? ty).map (·.size)=some cs.length)
  (h:R (a.put op.dst (.agg cs.toArray)) w):op.wp P a w K Q:=wp_load_mid ty x ho b o hx cs d hc hu hd hi (hK _ _ h)
theorem zbG {P:Program} {ops:Array Oper} {rest:List Oper} {op:Oper} {a:Act} {w:World} {Q:Exit->Act->World->Prop} (hw:Region.wanted op (yielded ops a.tmps)=true) (ty ty2:TypeId) (x y:Operand) (ho:op.op= .binOp .neq ty x y ty2)
  (u v:Array Value) (r:Value) (hx:a.eval x= .agg u) (hy:a.eval y= .agg v) (hg:P.eqGuardType P.depth ty=false) (hr:(binOp .neq ty (.agg u) (.agg v)).run P w= .ok r w)
  (h:wpList P ops Q rest (a.put op.dst r) w):wpList P ops Q (op::rest) a w:=
 wpList_step λK hK=>by
  rw [if_pos hw]
  unfold Oper.wp execOp
  simp only [ho,hx,hy,Sem.run_bind,run_eqGuard_agg (hm:=hg),hr,Sem.run_pure,Result.andThen_ok]
  exact hK _ _ h
def zaJ (V w:World) (mb sm:Nat) (c:zo) (cv:Value) (d:Nat) (model:Int) (ov:Value) (s:yY) (e:Ending) (w':World):Prop:=
 e= .returned (.tuple #[])/\∃ov' zjD,yE V w' mb sm s.seen.length c cv d model ov' s zjD/\Since (λk=>k=mb\/k=sm\/ov.ownBlock=some k) w w'/\∀k,ov'.ownBlock=some k->ov.ownBlock=some k\/w.heap.size<=k
theorem yE.looked {V w:World} {mb sm:Nat} {c:zo} {cv:Value} {d:Nat} {model:Int} {ov:Value} {s:yY} {css:List (List Value)} (h:yE V w mb sm s.seen.length c cv d model ov s css) {A:ze} (hA:A.wf) {X:World} (hb:Below w.heap.size w X):(Instr.lookup 56 (.map (some sm)) (.agg A.cells.toArray) true).run Tryz.prog X= .ok (.tuple #[.agg #[], .bool (decide (A∈s.seen))]) X:=zqK X (h.set.below hb) hA
theorem zqf (V:World) (mb sm:Nat) (c:zo) (cv:Value) (d:Nat) (model:Int) (hc:codeOk c=true) (hf:yF c=true):∀(n:Nat) (A:ze),jd c model A->yK c model A<n->∀(w:World) (s:yY) (ov:Value) (css:List (List Value)),yE V w mb sm s.seen.length c cv d model ov s css->
  s.seen.length+nb (yK c model A)<=1000000->s.out.length<=s.seen.length->Calls Tryz.prog 25 #[.pointer (some ⟨mb,0,none⟩),A.val] w (zaJ V w mb sm c cv d model ov (zI c model d n A s)):=by
 have hbd:=yI hc
 intro n
 induction n with
 |zero=>intro A _ h;omega
 |succ n ih=>
 intro A hA hn w s ov css hM hsz hos
 have hwf:=hA.wf (by omega) (λi hi=>(uq hc hf hi).len)
 have hnb:=zkW (yK c model A)
 have hsl:s.seen.length<1000000:=by omega
 obtain⟨cs,hcs⟩:∃cs,cs=A.cells:=⟨_,rfl⟩
 have hcl:cs.length=221:=by rw [hcs];exact ze.qc hA.v.ok
 unfold ze.val
 rw [<-hcs]
 have hB:=zK w (.cells cs.toArray 67)
 have hg:=zT w (.cells cs.toArray 67)
 have zgu:=λX (hX:Below w.heap.size w X)=>hM.looked hwf hX
 rw [<-hcs] at zgu
 obtain⟨r,hr⟩:∃r,r=decide (A∈s.seen):=⟨_,rfl⟩
 rw [<-hr] at zgu
 have zpn:zI c model d (n+1) A s=if A∈s.seen then s else if qL c A then⟨A::s.seen,s.out++ [jK c A],s.fails||A.fails⟩ else zU (zI c model d n) c model d A c.threads.length ⟨A::s.seen,s.out,s.fails⟩:=rfl
 have HB:=qh hB
 have yx:=qh hg
 have zpo:=qh zgu
 have HR:=qh hr
 have zgv:=qh zpn
 have HM:=qh hM
 have HIH:=qh ih
 have HA:=qh hA
 have uW:=qh hcs
 have HWF:=qh hwf
 have wM:=qh hbd
 have HSZ:=qh hsz
 have HOS:=qh hos
 have HN:=qh hn
 have HC:=qh hc
 have HF:=qh hf
 have je:=qh hcl
 have HSL:Hid (s.seen.length<1000000000):=Nat.lt_trans hsl (by omega)
 clear hB hg zgu hr zpn hM ih hA hcs hwf hbd hsz hos hn hc hf hnb hcl hsl
 go_enter Tryz.func25,Tryz.ntmps25
 go_upto_region 1 with fail
 generalize World.alloc w _=X at HB yx ⊢
 have HGV:Hid (w.heap.size=w.heap.size):=rfl
 obtain⟨gA,hgA⟩:∃q,q=w.heap.size:=⟨_,rfl⟩
 have HGA:=qh hgA
 rw [<-hgA] at yx ⊢
 clear hgA HGV
 have HMX:=qh (HM.out.later HB.out)
 have vT:Hid (zC X gA A):=⟨(by rw [<-uW.out];exact yx.out),HA.out.v.ok⟩
 have CC:Hid (∀x,Below X.heap.size X x->x.cell? ⟨mb,4,none⟩=some (.map (some sm))/\(Instr.lookup 56 (.map (some sm)) (.agg cs.toArray) true).run Tryz.prog x= .ok (.tuple #[.agg #[], .bool r]) x):=λx hx=>⟨zi hx _ _ (za HMX.out.blk 4),zpo.out x (zm HB.out hx)⟩
 have zno:Hid (∀x,Below X.heap.size X x->x.rangeAt gA 0 cs):=λx hx=>by rw [uW.out];exact(vT.out.later hx).range
 refine kP (S:=λx=>Below X.heap.size X x) ((Below.refl _ _).drew) (λhA1=> ?_)
 obtain⟨V1,hV1⟩:∃V1,V1=X.drew:=⟨_,rfl⟩
 rw [<-hV1] at hA1 ⊢
 clear hV1
 refine zk 0 CC.out ?_
 refine zk 1 CC.out ?_
 refine zk 2 CC.out ?_
 refine zk 3 CC.out ?_
 refine wpAnyH_take (i:=4) (v:= .agg cs.toArray) rfl (by kernel_rfl) (by kernel_rfl) (by kernel_rfl) (λ_ _ _ h=>h) (yieldsIf_load_mid (by rfl) 67 _ rfl (gA) 0 rfl cs _ zno.out Tryz.underlying67 rfl (by rw [je.out];exact xJ)) (by assumption) ?_
 change wpAnyH _ _ _ _ _ _ _ (Act.put _ (some 15) _) _
 simp only [Act.put,qz1,qz2,qz3]
 refine zk 5 CC.out ?_
 refine zk 6 CC.out ?_
 refine zk 7 CC.out ?_
 refine zk 8 CC.out ?_
 refine yZ 9 rfl (λK hK=> ?_)
 go_simp
 have zgw:=zm hA1 (zK V1 (.cells #[] 104))
 generalize World.alloc V1 _=aw9 at zgw ⊢
 refine hK.out _ _ zgw (λ_=> ?_)
 clear hK K hA1
 refine yZ 10 rfl (λK hK=> ?_)
 go_simp
 have zgA:=zgw
 refine hK.out _ _ zgA (λ_=> ?_)
 clear hK K zgw
 refine zk 11 CC.out ?_
 refine vE ?_
 have jA:=qh zgA
 clear CC zgA
 generalize aw9=X1 at jA ⊢
 have bE:=qh (HMX.out.later jA.out)
 have HW1:=qh (vT.out.later jA.out)
 have zqL:=qh (zm HB.out jA.out)
 cases r with
 |true=>
  have hin:A∈s.seen:=of_decide_eq_true HR.out.symm
  have zZ:Hid (zI c model d (n+1) A s=s):=by show _=s;rw [zgv.out,if_pos hin]
  clear hin
  go_wp2_with fail
  (try simp only [Exit.inBlock,Exit.then]);(try rw [Exit.noGoto_normal]);first|refine bodyPost_end (results_none rfl _ _ _) rfl ?_|refine bodyPost_ret (results_none rfl _ _ _) rfl ?_
  rw [zZ.out]
  exact⟨rfl,_,_,bE.out,zH _ zqL.out,λk hk=> .inl hk⟩
 |false=>
 have hin:¬A∈s.seen:=of_decide_eq_false HR.out.symm
 have zqM:=qh hin
 clear hin
 go_upto_region 3 with fail
 have gV:Hid (gA≠sm/\mb≠sm):=⟨λe=>bE.out.zej HW1.out e.symm,bE.out.zbm⟩
 have ztu:=zek
 have C3:Hid (∀x,Since (λk=>k=sm) X1 x->x.cell? ⟨mb,4,none⟩=some (.map (some sm))):=λx hx=>(hx.cell (p:=⟨mb,4,none⟩) (zB bE.out.blk) gV.out.2).trans (za bE.out.blk 4)
 have HR3:Hid (∀x,Since (λk=>k=sm) X1 x->x.rangeAt gA 0 cs):=λx hx=>by rw [uW.out];exact(HW1.out.since hx gV.out.1).range
 refine kP (S:=λx=>Since (λk=>k=sm) X1 x) (Since.drew _ (Since.refl _ X1)) (λhC3=> ?_)
 obtain⟨V3,hV3⟩:∃V1,V1=X1.drew:=⟨_,rfl⟩
 rw [<-hV3] at hC3 ⊢
 have HV3:Hid (Below X1.heap.size X1 V3):=by rw [hV3];exact(Below.refl _ _).drew
 clear hV3
 refine zk 0 C3.out ?_
 refine zk 1 C3.out ?_
 refine zk 2 C3.out ?_
 refine zk 3 C3.out ?_
 refine wpAnyH_take (i:=4) (v:= .agg cs.toArray) rfl (by kernel_rfl) (by kernel_rfl) (by kernel_rfl) (λ_ _ _ h=>h) (yieldsIf_load_mid (by rfl) 67 _ rfl (gA) 0 rfl cs _ HR3.out Tryz.underlying67 rfl (by rw [je.out];exact xJ)) (by assumption) ?_
 change wpAnyH _ _ _ _ _ _ _ (Act.put _ (some 24) _) _
 simp only [Act.put,qz1,qz2,qz3]
 refine zk 5 C3.out ?_
 refine yZ 6 rfl (λK hK=> ?_)
 obtain⟨cw6,hup,hset,hsp⟩:=ztv V3 (bE.out.set.below HV3.out) HSL.out HWF.out
 rw [show A.val= .agg cs.toArray by unfold ze.val;rw [uW.out]] at hup
 go_simp
 clear hup
 have zel:Since (λk=>k=sm) X1 cw6:=Since.trans hC3 hsp (λ_ h=> .inl h)
 have HSP:=qh hset
 clear hset hsp
 refine hK.out _ _ zel (λ_=> ?_)
 clear hK K hC3
 refine vE ?_
 have xS:=qh (bE.out.seen zel HSP.out)
 have HW3:=qh (HW1.out.since zel gV.out.1)
 have HS3:Hid (Since (λk=>k=mb\/k=sm\/ov.ownBlock=some k) w cw6):=Since.trans (zH _ zqL.out) zel (λk hk=> .inl (.inr (.inl hk)))
 clear HSP C3 HR3 zel ztu
 generalize cw6=X3 at xS HW3 HS3 ⊢
 have hdone:=zjE V X3 mb c cv d model xS.out.axc (by have:=wM.out;omega) gA A HW3.out
 obtain⟨dn,hdn⟩:∃b,b=qL c A:=⟨_,rfl⟩
 rw [<-hdn] at hdone
 have HDN:=qh hdn
 have zjF:=qh hdone
 clear hdn hdone
 cases dn with
 |true=>
  have zZ:Hid (zI c model d (n+1) A s=⟨A::s.seen,s.out++ [jK c A],s.fails||A.fails⟩):=by show _=_;rw [zgv.out,if_neg zqM.out, <-HDN.out,if_pos rfl]
  go_upto_region 5 with(go_at_call 43;go_must(refine zjF.out.mono ?_);rintro e X4 ⟨rfl,hb⟩;(have wN:=qh hb);clear hb)
  have zS:=qh (zqQ V X4 mb sm _ c cv d model ov _ css (xS.out.later wN.out) (by have:=wM.out;omega) (by have:=wM.out;omega) (by have:=wM.out;omega) gA A (HW3.out.later wN.out) (by have:=HOS.out;have:=HSZ.out;show s.out.length<=1000000;omega))
  go_wp2_with(go_at_call 44;go_must(refine zS.out.mono ?_);rintro e X5 ⟨rfl,ov',zjD,hm5,hs5,ho5⟩;(have HM5:=qh hm5);(have HS5:=qh hs5);(have HO5:=qh ho5);clear hm5 hs5 ho5)
  (try simp only [Exit.inBlock,Exit.then]);(try rw [Exit.noGoto_normal]);first|refine bodyPost_end (results_none rfl _ _ _) rfl ?_|refine bodyPost_ret (results_none rfl _ _ _) rfl ?_
  rw [zZ.out]
  exact⟨rfl,_,_,HM5.out,Since.trans (Since.trans HS3.out (zH (λ_=>False) wN.out) (λ_ h=>h.elim)) HS5.out (λk hk=> .inl (hk.elim .inl (λe=> .inr (.inr e)))),λk hk=>(HO5.out k hk).imp id (λe=>Nat.le_trans (Nat.le_trans HS3.out.size wN.out.size) e)⟩
 |false=>
 have zZ:Hid (zI c model d (n+1) A s=zU (zI c model d n) c model d A c.threads.length ⟨A::s.seen,s.out,s.fails⟩):=by show _=_;rw [zgv.out,if_neg zqM.out, <-HDN.out,if_neg (by simp)]
 go_upto_region 6 with(go_at_call 43;go_must(refine zjF.out.mono ?_);rintro e X4 ⟨rfl,hb⟩;(have wN:=qh hb);clear hb)
 obtain⟨ta,tc,hcv, -⟩:=zh.slice xS.out.code
 obtain⟨cn,hcn⟩:∃q,q=c.threads.length:=⟨_,rfl⟩
 rw [<-hcn] at hcv
 have jI:=qh hcn
 obtain⟨st,hst⟩:∃st:Nat->yY,st=λi=>zU (zI c model d n) c model d A i ⟨A::s.seen,s.out,s.fails⟩:=⟨_,rfl⟩
 have znp:st 0=⟨A::s.seen,s.out,s.fails⟩:=by rw [hst];rfl
 have zfr:∀i,st (i+1)=yQ (zI c model d n) model A i (A.th i).many (xK (zI c model d n) c model d A i (st i)):=λi=>by rw [hst];rfl
 have hfin:zI c model d (n+1) A s=st cn:=by rw [zZ.out,hst,hcn]
 have HST:=qh hst
 have uw:=qh zfr
 have ztw:=qh hfin
 have HM4:=qh (xS.out.later wN.out)
 have vL:=qh (HW3.out.later wN.out)
 have HS4:Hid (Since (λk=>k=mb\/k=sm\/ov.ownBlock=some k) w X4):=Since.trans HS3.out (zH (λ_=>False) wN.out) (λ_ h=>h.elim)
 have hm4:=HM4.out
 rw [show(⟨A::s.seen,s.out,s.fails⟩:yY)=st 0 from znp.symm] at hm4
 have zjG:s.seen.length+1=(st 0).seen.length:=by rw [znp];rfl
 rw [zjG] at hm4
 have zvc:=qh hm4
 have c2:=za HM4.out.blk 2
 have c2':X4.cell? ⟨mb,2,none⟩=some (.slice ta cn tc):=by rw [<-hcv];exact c2
 have hc4:cn<=4:=by have:=wM.out;omega
 have HCV:=qh hcv
 have zxU:=qh zjG
 clear c2 hm4 hst znp zfr hfin hcn hcv zjG zZ zjF zgv zpo
 go_wp2_with fail
 go_loopg [36] cn (λgg s36 wr=>∃(i:Nat) (ov1:Value) (znq:List (List Value)),i<=cn/\Hid (gg=cn - i)/\s36= .int .i64 i/\Hid (yE V wr mb sm (st i).seen.length c cv d model ov1 (st i) znq)/\Hid (zC wr gA A)/\Hid (Since (λk=>k=mb\/k=sm\/ov.ownBlock=some k) w wr)/\Hid (∀k,ov1.ownBlock=some k->ov.ownBlock=some k\/w.heap.size<=k))
 case atStart=>exact⟨0,ov,css,Nat.zero_le _,rfl,rfl,zvc.out,vL.out,HS4.out,λk hk=> .inl hk⟩
 case round=>
 obtain⟨i,ov1,znq,hi,HG,rfl,wO,HWI,HSI,gX⟩:=hrel
 obtain⟨wo,rfl⟩:∃wo:World,wo=wr:=⟨_,rfl⟩
 by_cases hlt:i<cn
 rotate_left
 ·obtain rfl:cn=i:=by omega
  go_wp2_with fail
  (try simp only [Exit.inBlock,Exit.then]);(try rw [Exit.noGoto_normal]);first|refine bodyPost_end (results_none rfl _ _ _) rfl ?_|refine bodyPost_ret (results_none rfl _ _ _) rfl ?_
  rw [ztw.out]
  exact⟨rfl,_,_,wO.out,HSI.out,gX.out⟩
 have qQ:(i:Int)<(cn:Int):=by omega
 have hi4:i<4:=by omega
 have hiI:(i:Int)<4:=by omega
 have HRW:Hid (wo.rangeAt gA 0 cs):=by rw [uW.out];exact HWI.out.range
 have hcp:=zfs (w:=wo) (A:=A) (cs:=cs) (z:=Tryz.zeroCells67) uW.out HWI.out.ok (by rw [je.out];exact jY)
 have HCP:=qh hcp.1
 have gY:=qh hcp.2
 have zcI:Hid ((wo.alloc (.cells Tryz.zeroCells67 67)).there wo.heap.size 0 cs.toArray.size):=zft (by rw [je.out];exact jY)
 have vR:Hid (cs.toArray.all (·.oneCell')=true):=all_oneCell_toArray (by rw [uW.out];exact A.cells_one)
 have znr:Hid ((Tryz.prog.info? 67).map (·.size)=some cs.toArray.size):=by rw [List.size_toArray,je.out];exact xJ
 clear hcp
 go_upto_region 10 with(first|with_reducible refine wpList_load_mid rfl 67 _ rfl gA 0 rfl cs _ HRW.out Tryz.underlying67 rfl (by rw [je.out];exact xJ) ?_|with_reducible refine wpList_store_mid rfl 67 _ _ rfl wo.heap.size 0 cs.toArray rfl rfl zcI.out znr.out vR.out ?_)
 try simp only [List.toList_toArray]
 clear zcI
 generalize World.setCells (World.alloc wo _) wo.heap.size 0 cs=Y at HCP gY ⊢
 obtain⟨gN,hgN⟩:∃q,q=wo.heap.size:=⟨_,rfl⟩
 have HGN:=qh hgN
 rw [<-hgN] at HCP ⊢
 clear hgN HRW
 have HMY:=qh (wO.out.later gY.out)
 have HWY:=qh (HWI.out.later gY.out)
 have hic:i<c.threads.length:=by rw [<-jI.out];exact hlt
 have HIC:=qh hic
 have hvr:V.heap.size<=gN:=by have h1:=HM.out.base.size;have h2:=HSI.out.size;have h3:=HGN.out;omega
 have HVR:=qh hvr
 have hrv:=uq HC.out HF.out hic
 have hread:=zjH V Y mb c cv d model HMY.out.axc (by have:=wM.out;omega) (by have:=wM.out;omega) (by have:=wM.out;omega) gN hvr (HMY.out.zbn HCP.out) A HCP.out i hic hrv.good hrv.len (HA.out.cnt i hic) (HA.out.stood i hic)
 have hroom:=zkZ (n:=n) (d:=d) HC.out HF.out HA.out (i:=i) hic (M:=1000000)
 have zqT:zU (zI c model d n) c model d A i ⟨A::s.seen,s.out,s.fails⟩=st i:=by rw [HST.out]
 have hrt:xK (zI c model d n) c model d A i (st i)=if qR model c.domain d (c.threads.getD i []) A i then zI c model d n (qU model c.domain d (c.threads.getD i []) A i) (st i) else st i:=rfl
 unfold ji at hread
 obtain⟨rd,hrd⟩:∃q,q=qR model c.domain d (c.threads.getD i []) A i:=⟨_,rfl⟩
 obtain⟨RW,hRW⟩:∃q,q=qU model c.domain d (c.threads.getD i []) A i:=⟨_,rfl⟩
 rw [<-hrd, <-hRW] at hread hroom hrt
 have zgx:=qh hread
 have HRT:=qh hrt
 have zcI:Hid (rd=true->jd c model RW/\yK c model RW+1<=yK c model A/\(st i).seen.length+nb (yK c model RW)<=1000000/\(st i).out.length<=(st i).seen.length):=λe=>by
  rw [<-zqT]
  exact hroom e ⟨A::s.seen,s.out,s.fails⟩ (by have:=HOS.out;show s.out.length<=s.seen.length+1;omega) (by have:=HSZ.out;show s.seen.length+1+_<=_;omega)
 clear hic hvr hrv hread hroom zqT hrt hrd hRW
 cases rd with
 |true=>
  go_upto_region 11 with(go_at_call 45;go_must(refine zgx.out.mono ?_);rintro e Y2 ⟨rfl,hw2,wm⟩;(have HW2:=qh hw2);(have bT:=qh wm);clear hw2 wm)
  have hYR:=HW2.out (by trivial)
  obtain⟨rg1,rg2,rg3,rg4⟩:=zcI.out (by trivial)
  obtain⟨csR,zgD⟩:∃q,q=RW.cells:=⟨_,rfl⟩
  have zvd:=qh zgD
  have zqW:Hid (csR.length=221):=by rw [zgD];exact ze.qc hYR.ok
  have HRR:Hid (Y2.rangeAt gN 0 csR):=by rw [zgD];exact hYR.range
  have gZ:=qh (HMY.out.one HCP.out HVR.out bT.out)
  have hne2:gA≠gN:=λe=>by have h1:=zB HWI.out.blk;have h2:=HGN.out;omega
  have HWR:=qh (HWY.out.since bT.out hne2)
  have hwk:=HIH.out RW rg1 (by have:=HN.out;omega) Y2 (st i) ov1 znq gZ.out rg3 rg4
  unfold ze.val zaJ at hwk
  rw [<-zgD] at hwk
  have hrt:=HRT.out.trans (if_pos (by trivial))
  have zqX:=qh hrt
  have HWK:=qh hwk
  clear hYR rg1 rg2 rg3 rg4 zgD hwk hrt
  go_upto_region 12 with(first|with_reducible refine wpList_load_mid rfl 67 _ rfl gN 0 rfl csR _ HRR.out Tryz.underlying67 rfl (by rw [zqW.out];exact xJ) ?_|(go_at_call 25;go_must(refine HWK.out.mono ?_);rintro e Y3 ⟨rfl,ov2,zns,kQ,hs3,ho3⟩;(have HM5:=qh kQ);(have HS5:=qh hs3);(have HO5:=qh ho3);clear kQ hs3 ho3))
  have HSY:=qh (Since.trans (Since.trans HSI.out (zH (λ_=>False) gY.out) (λ_ h=>h.elim)) bT.out (λk hk=> .inr (by have hk:k=gN:=hk;have h1:=HSI.out.size;have h2:=HGN.out;omega)))
  have HW5:Hid (zC Y3 gA A):=HWR.out.since HS5.out (λe=>by rcases e with e|e|e;exact gZ.out.zbn HWR.out e.symm;exact gZ.out.zej HWR.out e.symm;exact gZ.out.zen HWR.out e)
  have HS6:Hid (Since (λk=>k=mb\/k=sm\/ov.ownBlock=some k) w Y3):=Since.trans HSY.out HS5.out (λk hk=>by rcases hk with e|e|e;exact .inl (.inl e);exact .inl (.inr (.inl e));exact(gX.out k e).imp (λe=> .inr (.inr e)) id)
  have HO6:Hid (∀k,ov2.ownBlock=some k->ov.ownBlock=some k\/w.heap.size<=k):=λk hk=>(HO5.out k hk).elim (gX.out k) (λe=> .inr (Nat.le_trans HSY.out.size e))
  rw [<-zqX.out] at HM5
  clear HRT zqX gZ HWR HSY HS5 HO5 HWK HRR zvd zqW wO HWI HSI gX HCP gY HMY HWY zgx zcI HW2 bT
  obtain⟨m,hm⟩:∃q,q=(A.th i).many:=⟨_,rfl⟩
  have m5:Y3.cell? ⟨gA,i*54+53,none⟩=some (.int .i64 m):=by rw [hm];exact HW5.out.many hi4
  have bW:m<=8:=by rw [hm];exact(HA.out.v.th hi4).ok.many
  obtain⟨it,hit⟩:∃it:Nat->yY,it=λk=>yQ (zI c model d n) model A i k (xK (zI c model d n) c model d A i (st i)):=⟨_,rfl⟩
  have zgE:it 0=xK (zI c model d n) c model d A i (st i):=by rw [hit];rfl
  have hits:∀k,it (k+1)=if qB model A i k then zI c model d n (yj A i k) (it k) else it k:=λk=>by rw [hit];rfl
  have zgF:it m=st (i+1):=by rw [uw.out,hit,hm]
  have HIT:=qh hit
  have HITS:=qh hits
  have znt:=qh zgF
  have HMM:=qh hm
  rw [<-zgE] at HM5
  clear hit zgE hits zgF hm
  go_wp2_with fail
  go_loopg [51] m (λgg s51 wr=>∃(k:Nat) (ov3:Value) (bX:List (List Value)),k<=m/\Hid (gg=m - k)/\s51= .int .i64 k/\Hid (yE V wr mb sm (it k).seen.length c cv d model ov3 (it k) bX)/\Hid (zC wr gA A)/\Hid (Since (λk=>k=mb\/k=sm\/ov.ownBlock=some k) w wr)/\Hid (∀k,ov3.ownBlock=some k->ov.ownBlock=some k\/w.heap.size<=k))
  case atStart=>exact⟨0,_,_,Nat.zero_le _,rfl,rfl,HM5.out,HW5.out,HS6.out,HO6.out⟩
  case round=>
  obtain⟨k,ov3,bX,hk,HGK,rfl,bY,kX,HSK,qx⟩:=hrel
  obtain⟨wk,rfl⟩:∃wk:World,wk=wr:=⟨_,rfl⟩
  by_cases hkm:k<m
  rotate_left
  ·obtain rfl:m=k:=by omega
   go_wp2_with fail
   go_roundg (cn - (i+1))
   case measure=>rw [HG.out];omega
   case rel=>exact⟨i+1,ov3,bX,by omega,rfl,by simp,by rw [<-znt.out];exact bY.out,kX.out,HSK.out,qx.out⟩
  have hkI:(k:Int)<(m:Int):=by omega
  have hcp:=zfs (w:=wk) (A:=A) (cs:=cs) (z:=Tryz.zeroCells67) uW.out kX.out.ok (by rw [je.out];exact jY)
  have bZ:=qh hcp.1
  have pq:=qh hcp.2
  have HRK:Hid (wk.rangeAt gA 0 cs):=by rw [uW.out];exact kX.out.range
  have wP:Hid ((wk.alloc (.cells Tryz.zeroCells67 67)).there wk.heap.size 0 cs.toArray.size):=zft (by rw [je.out];exact jY)
  clear hcp
  go_upto_region 16 with(first|with_reducible refine wpList_load_mid rfl 67 _ rfl gA 0 rfl cs _ HRK.out Tryz.underlying67 rfl (by rw [je.out];exact xJ) ?_|with_reducible refine wpList_store_mid rfl 67 _ _ rfl wk.heap.size 0 cs.toArray rfl rfl wP.out znr.out vR.out ?_)
  try simp only [List.toList_toArray]
  clear wP HRK
  generalize World.setCells (World.alloc wk _) wk.heap.size 0 cs=Z at bZ pq ⊢
  obtain⟨gK,hgK⟩:∃q,q=wk.heap.size:=⟨_,rfl⟩
  have uy:=qh hgK
  rw [<-hgK] at bZ ⊢
  clear hgK
  have HMZ:=qh (bY.out.later pq.out)
  have HWZ:=qh (kX.out.later pq.out)
  have hkM:k<(A.th i).many:=by rw [<-HMM.out];exact hkm
  have hvk:V.heap.size<=gK:=by have h1:=HM.out.base.size;have h2:=HSK.out.size;have h3:=uy.out;omega
  have HVK:=qh hvk
  have hwr:∀X,Below Z.heap.size Z X->Calls Tryz.prog 46 #[.pointer (some ⟨mb,0,none⟩), .pointer (some ⟨gK,0,none⟩), .int .i64 i, .int .i64 k] X (qW gK model A i k X):=λX hX=>zdk X mb model (HMZ.out.later hX).axc.mod gK A (bZ.out.later hX) i hi4 k (by omega) (HA.out.ev hi4 (by omega))
  have zdG:=HITS.out k
  have hik:it k=yQ (zI c model d n) model A i k (xK (zI c model d n) c model d A i (zU (zI c model d n) c model d A i ⟨A::s.seen,s.out,s.fails⟩)):=by rw [HIT.out,HST.out]
  have hroom:qB model A i k=true->jd c model (yj A i k)/\yK c model (yj A i k)+1<=yK c model A/\(it k).seen.length+nb (yK c model (yj A i k))<=1000000/\(it k).out.length<=(it k).seen.length:=λhw=>by
   rw [hik]
   exact zeo (n:=n) (d:=d) HC.out HF.out HA.out (i:=i) (k:=k) (by rw [<-jI.out];exact hlt) hkM hw ⟨A::s.seen,s.out,s.fails⟩ (by have:=HOS.out;show s.out.length<=s.seen.length+1;omega) (M:=1000000) (by have:=HSZ.out;show s.seen.length+1+_<=_;omega)
  unfold qW at hwr
  obtain⟨rk,hrk⟩:∃q,q=qB model A i k:=⟨_,rfl⟩
  obtain⟨WK,hWK⟩:∃q,q=yj A i k:=⟨_,rfl⟩
  simp only [<-hrk, <-hWK] at hwr hroom zdG
  have HWR:=qh hwr
  have wP:=qh hroom
  have zgI:=qh zdG
  have HRK:Hid (∀x,Since (λq=>q=gK) Z x->x.rangeAt gA 0 cs):=λx hx=>by rw [uW.out];exact(HWZ.out.since hx (λe=>by have h1:=zB kX.out.blk;have h2:=uy.out;omega)).range
  clear hwr hroom zdG hik hrk hWK hkM hvk
  cases rk with
  |true=>
   obtain⟨kg1,kg2,kg3,kg4⟩:=wP.out rfl
   have wQ:=zgI.out.trans (if_pos rfl)
   have zbo:=qh wQ
   obtain⟨pz,zbp⟩:∃q,q=WK.cells:=⟨_,rfl⟩
   have zdH:=qh zbp
   have zgK:Hid (pz.length=221):=by rw [zbp];exact ze.qc kg1.v.ok
   have zgL:WK.wf:=kg1.wf (by have:=wM.out;omega) (λi hi=>(uq HC.out HF.out hi).len)
   have zgM:WK≠A:=λe=>by rw [e] at kg2;omega
   have zbq:Hid (∀x,Since (λq=>q=gK) Z x->(binOp .neq 67 (.agg pz.toArray) (.agg cs.toArray)).run Tryz.prog x= .ok (.bool true) x):=λx _=>by rw [uW.out,zbp];exact zpv zgL HWF.out zgM x
   have HK1:=qh kg1
   have HK2:=qh kg2
   have HK3:=qh kg3
   have HK4:=qh kg4
   clear wQ zbp zgL zgM kg1 kg2 kg3 kg4
   go_upto_region 17 with(first|(with_reducible refine bG (by assumption) 67 _ rfl gK 0 rfl pz _ (zjI.out) Tryz.underlying67 rfl (by rw [zgK.out];exact xJ) ?_)|(go_at_call 46;go_must(refine(HWR.out Z (Below.refl _ _)).mono ?_);rintro e Z2 ⟨rfl,hw16,hb⟩;(have vM:=qh hb);(have zer:=qh (show zC Z2 gK WK by simpa using hw16));(have zjI:Hid (Z2.rangeAt gK 0 pz):=by rw [zdH.out];exact zer.out.range);(have zjJ:Hid (Z2.rangeAt gA 0 cs):=HRK.out Z2 vM.out);(have hne16:=zbq.out Z2 vM.out);clear hw16 hb))
   refine bG (by assumption) 67 _ rfl gA 0 rfl cs _ zjJ.out Tryz.underlying67 rfl (by rw [je.out];exact xJ) ?_
   refine zbG (by rfl) 67 _ _ _ rfl pz.toArray cs.toArray (.bool true) (by rfl) (by rfl) Tryz.eqGuardType67 hne16 ?_
   go_upto_region 17 with fail
   have HMW:=qh (HMZ.out.one bZ.out HVK.out vM.out)
   have uX:=qh (HWZ.out.since vM.out (λe=>by have h1:=zB kX.out.blk;have h2:=uy.out;omega))
   have zgN:=qh (Since.trans (Since.trans HSK.out (zH (λ_=>False) pq.out) (λ_ h=>h.elim)) vM.out (λq hq=> .inr (by have hq:q=gK:=hq;have h1:=HSK.out.size;have h2:=uy.out;omega)))
   have znu:Hid (Z2.rangeAt gK 0 pz):=by rw [zdH.out];exact zer.out.range
   have hwk:=HIH.out WK HK1.out (by have h1:=HN.out;have h2:=HK2.out;omega) Z2 (it k) ov3 bX HMW.out HK3.out HK4.out
   unfold ze.val zaJ at hwk
   rw [<-zdH.out] at hwk
   have znv:=qh hwk
   clear hwk HRK zbq vM hne16
   go_upto_region 18 with(first|with_reducible refine wpList_load_mid rfl 67 _ rfl gK 0 rfl pz _ znu.out Tryz.underlying67 rfl (by rw [zgK.out];exact xJ) ?_|(go_at_call 25;go_must(refine znv.out.mono ?_);rintro e Z3 ⟨rfl,ov4,znw,kQ,hs3,ho3⟩;(have HM7:=qh kQ);(have HS7:=qh hs3);(have HO7:=qh ho3);clear kQ hs3 ho3))
   have HW7:Hid (zC Z3 gA A):=uX.out.since HS7.out (λe=>by rcases e with e|e|e;exact HMW.out.zbn uX.out e.symm;exact HMW.out.zej uX.out e.symm;exact HMW.out.zen uX.out e)
   have HS8:Hid (Since (λk=>k=mb\/k=sm\/ov.ownBlock=some k) w Z3):=Since.trans zgN.out HS7.out (λq hq=>by rcases hq with e|e|e;exact .inl (.inl e);exact .inl (.inr (.inl e));exact(qx.out q e).imp (λe=> .inr (.inr e)) id)
   have HO8:Hid (∀k,ov4.ownBlock=some k->ov.ownBlock=some k\/w.heap.size<=k):=λq hq=>(HO7.out q hq).elim (qx.out q) (λe=> .inr (Nat.le_trans zgN.out.size e))
   rw [<-zbo.out] at HM7
   go_wp2_with fail
   go_roundg (m - (k+1))
   case measure=>rw [HGK.out];omega
   case rel=>exact⟨k+1,ov4,znw,by omega,rfl,by simp,HM7.out,HW7.out,HS8.out,HO8.out⟩
  |false=>
  have wQ:=zgI.out.trans (if_neg (by simp))
  have zbo:=qh wQ
  have zbq:Hid (∀x,Since (λq=>q=gK) Z x->True):=λx _=>trivial
  clear wQ
  go_upto_region 18 with(go_at_call 46;go_must(refine(HWR.out Z (Below.refl _ _)).mono ?_);rintro e Z2 ⟨rfl,hw16,hb⟩;(have vM:=qh hb);clear hw16 hb)
  have hm7:=HMZ.out.one bZ.out HVK.out vM.out
  rw [<-zbo.out] at hm7
  have HM7:=qh hm7
  have HW7:=qh (HWZ.out.since vM.out (λe=>by have h1:=zB kX.out.blk;have h2:=uy.out;omega))
  have HS8:=qh (Since.trans (Since.trans HSK.out (zH (λ_=>False) pq.out) (λ_ h=>h.elim)) vM.out (λq hq=> .inr (by have hq:q=gK:=hq;have h1:=HSK.out.size;have h2:=uy.out;omega)))
  clear hm7 HRK zbq vM
  go_wp2_with fail
  go_roundg (m - (k+1))
  case measure=>rw [HGK.out];omega
  case rel=>exact⟨k+1,ov3,bX,by omega,rfl,by simp,HM7.out,HW7.out,HS8.out,qx.out⟩
 |false=>
 go_upto_region 12 with(go_at_call 45;go_must(refine zgx.out.mono ?_);rintro e Y2 ⟨rfl,hw2,wm⟩;(have HW2:=qh hw2);(have bT:=qh wm);clear hw2 wm)
 have hrt:=HRT.out.trans (if_neg (by simp))
 have HM5:=qh (HMY.out.one HCP.out HVR.out bT.out)
 rw [<-hrt] at HM5
 have HS6:=qh (Since.trans (Since.trans HSI.out (zH (λ_=>False) gY.out) (λ_ h=>h.elim)) bT.out (λk hk=> .inr (by have hk:k=gN:=hk;have h1:=HSI.out.size;have h2:=HGN.out;omega)))
 have hne2:gA≠gN:=λe=>by have h1:=zB HWI.out.blk;have h2:=HGN.out;omega
 have HW5:=qh (HWY.out.since bT.out hne2)
 have HO6:=qh gX.out
 clear hrt HRT wO HWI HSI gX HCP gY HMY HWY zgx zcI HW2 bT
 obtain⟨m,hm⟩:∃q,q=(A.th i).many:=⟨_,rfl⟩
 have m5:Y2.cell? ⟨gA,i*54+53,none⟩=some (.int .i64 m):=by rw [hm];exact HW5.out.many hi4
 have bW:m<=8:=by rw [hm];exact(HA.out.v.th hi4).ok.many
 obtain⟨it,hit⟩:∃it:Nat->yY,it=λk=>yQ (zI c model d n) model A i k (xK (zI c model d n) c model d A i (st i)):=⟨_,rfl⟩
 have zgE:it 0=xK (zI c model d n) c model d A i (st i):=by rw [hit];rfl
 have hits:∀k,it (k+1)=if qB model A i k then zI c model d n (yj A i k) (it k) else it k:=λk=>by rw [hit];rfl
 have zgF:it m=st (i+1):=by rw [uw.out,hit,hm]
 have HIT:=qh hit
 have HITS:=qh hits
 have znt:=qh zgF
 have HMM:=qh hm
 rw [<-zgE] at HM5
 clear hit zgE hits zgF hm
 go_wp2_with fail
 go_loopg [51] m (λgg s51 wr=>∃(k:Nat) (ov3:Value) (bX:List (List Value)),k<=m/\Hid (gg=m - k)/\s51= .int .i64 k/\Hid (yE V wr mb sm (it k).seen.length c cv d model ov3 (it k) bX)/\Hid (zC wr gA A)/\Hid (Since (λk=>k=mb\/k=sm\/ov.ownBlock=some k) w wr)/\Hid (∀k,ov3.ownBlock=some k->ov.ownBlock=some k\/w.heap.size<=k))
 case atStart=>exact⟨0,_,_,Nat.zero_le _,rfl,rfl,HM5.out,HW5.out,HS6.out,HO6.out⟩
 case round=>
 obtain⟨k,ov3,bX,hk,HGK,rfl,bY,kX,HSK,qx⟩:=hrel
 obtain⟨wk,rfl⟩:∃wk:World,wk=wr:=⟨_,rfl⟩
 by_cases hkm:k<m
 rotate_left
 ·obtain rfl:m=k:=by omega
  go_wp2_with fail
  go_roundg (cn - (i+1))
  case measure=>rw [HG.out];omega
  case rel=>exact⟨i+1,ov3,bX,by omega,rfl,by simp,by rw [<-znt.out];exact bY.out,kX.out,HSK.out,qx.out⟩
 have hkI:(k:Int)<(m:Int):=by omega
 have hcp:=zfs (w:=wk) (A:=A) (cs:=cs) (z:=Tryz.zeroCells67) uW.out kX.out.ok (by rw [je.out];exact jY)
 have bZ:=qh hcp.1
 have pq:=qh hcp.2
 have HRK:Hid (wk.rangeAt gA 0 cs):=by rw [uW.out];exact kX.out.range
 have wP:Hid ((wk.alloc (.cells Tryz.zeroCells67 67)).there wk.heap.size 0 cs.toArray.size):=zft (by rw [je.out];exact jY)
 clear hcp
 go_upto_region 16 with(first|with_reducible refine wpList_load_mid rfl 67 _ rfl gA 0 rfl cs _ HRK.out Tryz.underlying67 rfl (by rw [je.out];exact xJ) ?_|with_reducible refine wpList_store_mid rfl 67 _ _ rfl wk.heap.size 0 cs.toArray rfl rfl wP.out znr.out vR.out ?_)
 try simp only [List.toList_toArray]
 clear wP HRK
 generalize World.setCells (World.alloc wk _) wk.heap.size 0 cs=Z at bZ pq ⊢
 obtain⟨gK,hgK⟩:∃q,q=wk.heap.size:=⟨_,rfl⟩
 have uy:=qh hgK
 rw [<-hgK] at bZ ⊢
 clear hgK
 have HMZ:=qh (bY.out.later pq.out)
 have HWZ:=qh (kX.out.later pq.out)
 have hkM:k<(A.th i).many:=by rw [<-HMM.out];exact hkm
 have hvk:V.heap.size<=gK:=by have h1:=HM.out.base.size;have h2:=HSK.out.size;have h3:=uy.out;omega
 have HVK:=qh hvk
 have hwr:∀X,Below Z.heap.size Z X->Calls Tryz.prog 46 #[.pointer (some ⟨mb,0,none⟩), .pointer (some ⟨gK,0,none⟩), .int .i64 i, .int .i64 k] X (qW gK model A i k X):=λX hX=>zdk X mb model (HMZ.out.later hX).axc.mod gK A (bZ.out.later hX) i hi4 k (by omega) (HA.out.ev hi4 (by omega))
 have zdG:=HITS.out k
 have hik:it k=yQ (zI c model d n) model A i k (xK (zI c model d n) c model d A i (zU (zI c model d n) c model d A i ⟨A::s.seen,s.out,s.fails⟩)):=by rw [HIT.out,HST.out]
 have hroom:qB model A i k=true->jd c model (yj A i k)/\yK c model (yj A i k)+1<=yK c model A/\(it k).seen.length+nb (yK c model (yj A i k))<=1000000/\(it k).out.length<=(it k).seen.length:=λhw=>by
  rw [hik]
  exact zeo (n:=n) (d:=d) HC.out HF.out HA.out (i:=i) (k:=k) (by rw [<-jI.out];exact hlt) hkM hw ⟨A::s.seen,s.out,s.fails⟩ (by have:=HOS.out;show s.out.length<=s.seen.length+1;omega) (M:=1000000) (by have:=HSZ.out;show s.seen.length+1+_<=_;omega)
 unfold qW at hwr
 obtain⟨rk,hrk⟩:∃q,q=qB model A i k:=⟨_,rfl⟩
 obtain⟨WK,hWK⟩:∃q,q=yj A i k:=⟨_,rfl⟩
 simp only [<-hrk, <-hWK] at hwr hroom zdG
 have HWR:=qh hwr
 have wP:=qh hroom
 have zgI:=qh zdG
 have HRK:Hid (∀x,Since (λq=>q=gK) Z x->x.rangeAt gA 0 cs):=λx hx=>by rw [uW.out];exact(HWZ.out.since hx (λe=>by have h1:=zB kX.out.blk;have h2:=uy.out;omega)).range
 clear hwr hroom zdG hik hrk hWK hkM hvk
 cases rk with
 |true=>
  obtain⟨kg1,kg2,kg3,kg4⟩:=wP.out rfl
  have wQ:=zgI.out.trans (if_pos rfl)
  have zbo:=qh wQ
  obtain⟨pz,zbp⟩:∃q,q=WK.cells:=⟨_,rfl⟩
  have zdH:=qh zbp
  have zgK:Hid (pz.length=221):=by rw [zbp];exact ze.qc kg1.v.ok
  have zgL:WK.wf:=kg1.wf (by have:=wM.out;omega) (λi hi=>(uq HC.out HF.out hi).len)
  have zgM:WK≠A:=λe=>by rw [e] at kg2;omega
  have zbq:Hid (∀x,Since (λq=>q=gK) Z x->(binOp .neq 67 (.agg pz.toArray) (.agg cs.toArray)).run Tryz.prog x= .ok (.bool true) x):=λx _=>by rw [uW.out,zbp];exact zpv zgL HWF.out zgM x
  have HK1:=qh kg1
  have HK2:=qh kg2
  have HK3:=qh kg3
  have HK4:=qh kg4
  clear wQ zbp zgL zgM kg1 kg2 kg3 kg4
  go_upto_region 17 with(first|(with_reducible refine bG (by assumption) 67 _ rfl gK 0 rfl pz _ (zjI.out) Tryz.underlying67 rfl (by rw [zgK.out];exact xJ) ?_)|(go_at_call 46;go_must(refine(HWR.out Z (Below.refl _ _)).mono ?_);rintro e Z2 ⟨rfl,hw16,hb⟩;(have vM:=qh hb);(have zer:=qh (show zC Z2 gK WK by simpa using hw16));(have zjI:Hid (Z2.rangeAt gK 0 pz):=by rw [zdH.out];exact zer.out.range);(have zjJ:Hid (Z2.rangeAt gA 0 cs):=HRK.out Z2 vM.out);(have hne16:=zbq.out Z2 vM.out);clear hw16 hb))
  refine bG (by assumption) 67 _ rfl gA 0 rfl cs _ zjJ.out Tryz.underlying67 rfl (by rw [je.out];exact xJ) ?_
  refine zbG (by rfl) 67 _ _ _ rfl pz.toArray cs.toArray (.bool true) (by rfl) (by rfl) Tryz.eqGuardType67 hne16 ?_
  go_upto_region 17 with fail
  have HMW:=qh (HMZ.out.one bZ.out HVK.out vM.out)
  have uX:=qh (HWZ.out.since vM.out (λe=>by have h1:=zB kX.out.blk;have h2:=uy.out;omega))
  have zgN:=qh (Since.trans (Since.trans HSK.out (zH (λ_=>False) pq.out) (λ_ h=>h.elim)) vM.out (λq hq=> .inr (by have hq:q=gK:=hq;have h1:=HSK.out.size;have h2:=uy.out;omega)))
  have znu:Hid (Z2.rangeAt gK 0 pz):=by rw [zdH.out];exact zer.out.range
  have hwk:=HIH.out WK HK1.out (by have h1:=HN.out;have h2:=HK2.out;omega) Z2 (it k) ov3 bX HMW.out HK3.out HK4.out
  unfold ze.val zaJ at hwk
  rw [<-zdH.out] at hwk
  have znv:=qh hwk
  clear hwk HRK zbq vM hne16
  go_upto_region 18 with(first|with_reducible refine wpList_load_mid rfl 67 _ rfl gK 0 rfl pz _ znu.out Tryz.underlying67 rfl (by rw [zgK.out];exact xJ) ?_|(go_at_call 25;go_must(refine znv.out.mono ?_);rintro e Z3 ⟨rfl,ov4,znw,kQ,hs3,ho3⟩;(have HM7:=qh kQ);(have HS7:=qh hs3);(have HO7:=qh ho3);clear kQ hs3 ho3))
  have HW7:Hid (zC Z3 gA A):=uX.out.since HS7.out (λe=>by rcases e with e|e|e;exact HMW.out.zbn uX.out e.symm;exact HMW.out.zej uX.out e.symm;exact HMW.out.zen uX.out e)
  have HS8:Hid (Since (λk=>k=mb\/k=sm\/ov.ownBlock=some k) w Z3):=Since.trans zgN.out HS7.out (λq hq=>by rcases hq with e|e|e;exact .inl (.inl e);exact .inl (.inr (.inl e));exact(qx.out q e).imp (λe=> .inr (.inr e)) id)
  have HO8:Hid (∀k,ov4.ownBlock=some k->ov.ownBlock=some k\/w.heap.size<=k):=λq hq=>(HO7.out q hq).elim (qx.out q) (λe=> .inr (Nat.le_trans zgN.out.size e))
  rw [<-zbo.out] at HM7
  go_wp2_with fail
  go_roundg (m - (k+1))
  case measure=>rw [HGK.out];omega
  case rel=>exact⟨k+1,ov4,znw,by omega,rfl,by simp,HM7.out,HW7.out,HS8.out,HO8.out⟩
 |false=>
 have wQ:=zgI.out.trans (if_neg (by simp))
 have zbo:=qh wQ
 have zbq:Hid (∀x,Since (λq=>q=gK) Z x->True):=λx _=>trivial
 clear wQ
 go_upto_region 18 with(go_at_call 46;go_must(refine(HWR.out Z (Below.refl _ _)).mono ?_);rintro e Z2 ⟨rfl,hw16,hb⟩;(have vM:=qh hb);clear hw16 hb)
 have hm7:=HMZ.out.one bZ.out HVK.out vM.out
 rw [<-zbo.out] at hm7
 have HM7:=qh hm7
 have HW7:=qh (HWZ.out.since vM.out (λe=>by have h1:=zB kX.out.blk;have h2:=uy.out;omega))
 have HS8:=qh (Since.trans (Since.trans HSK.out (zH (λ_=>False) pq.out) (λ_ h=>h.elim)) vM.out (λq hq=> .inr (by have hq:q=gK:=hq;have h1:=HSK.out.size;have h2:=uy.out;omega)))
 clear hm7 HRK zbq vM
 go_wp2_with fail
 go_roundg (m - (k+1))
 case measure=>rw [HGK.out];omega
 case rel=>exact⟨k+1,ov3,bX,by omega,rfl,by simp,HM7.out,HW7.out,HS8.out,qx.out⟩
