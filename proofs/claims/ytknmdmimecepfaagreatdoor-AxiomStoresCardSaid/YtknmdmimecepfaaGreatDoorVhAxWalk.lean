/- Steps. -/
import Derived.Test.YtknmdmimecepfaaGreatDoorVhAxN
set_option linter.all false
namespace Go.Proofs.YtknmdmimecepfaaGreatDoor
open Go.RowKit
set_option maxRecDepth 100000
set_option maxHeartbeats 16000000
theorem yO:(Tryz.prog.info? 67).map (·.size)=some 221:=by kernel_rfl
theorem gV {P:Program} {op:Oper} {a:Act} {w:World} {K R:Act->World->Prop} {Q:Exit->Act->World->Prop} (hK:∀a w,R a w->K a w) (ty:TypeId) (x:Operand) (ho:op.op= .load ty x)
  (b o:Nat) (hx:a.eval x= .pointer (some ⟨b,o,none⟩)) (cs:List Value) (d:TypeDesc) (hc:w.rangeAt b o cs)
  (hu:P.underlying ty=some d) (hd:d.isRow=true) (hi:(P.info? ty).map (·.size)=some cs.length)
  (h:R (a.put op.dst (.agg cs.toArray)) w):op.wp P a w K Q:=wp_load_mid ty x ho b o hx cs d hc hu hd hi (hK _ _ h)
theorem za3 {P:Program} {ops:Array Oper} {rest:List Oper} {op:Oper} {a:Act} {w:World} {Q:Exit->Act->World->Prop} (hw:Region.wanted op (yielded ops a.tmps)=true) (ty ty2:TypeId) (x y:Operand) (ho:op.op= .binOp .neq ty x y ty2)
  (u v:Array Value) (r:Value) (hx:a.eval x= .agg u) (hy:a.eval y= .agg v) (hg:P.eqGuardType P.depth ty=false) (hr:(binOp .neq ty (.agg u) (.agg v)).run P w= .ok r w)
  (h:wpList P ops Q rest (a.put op.dst r) w):wpList P ops Q (op::rest) a w:=
 wpList_step λK hK=>by
  rw [if_pos hw]
  unfold Oper.wp execOp
  simp only [ho,hx,hy,Sem.run_bind,run_eqGuard_agg (hm:=hg),hr,Sem.run_pure,Result.andThen_ok]
  exact hK _ _ h
def pO (V w:World) (mb sm:Nat) (c:zl) (cv:Value) (d:Nat) (model:Int) (ov:Value) (s:yH) (e:Ending) (w':World):Prop:=
 e= .returned (.tuple #[])/\∃uT zgX,zX V w' mb sm s.seen.length c cv d model uT s zgX/\Since (λk=>k=mb\/k=sm\/ov.ownBlock=some k) w w'/\∀k,uT.ownBlock=some k->ov.ownBlock=some k\/w.heap.size<=k
theorem zX.looked {V w:World} {mb sm:Nat} {c:zl} {cv:Value} {d:Nat} {model:Int} {ov:Value} {s:yH} {css:List (List Value)} (h:zX V w mb sm s.seen.length c cv d model ov s css) {A:za} (hA:A.wf) {X:World} (hb:Below w.heap.size w X):(Instr.lookup 56 (.map (some sm)) (.agg A.cells.toArray) true).run Tryz.prog X= .ok (.tuple #[.agg #[], .bool (decide (A∈s.seen))]) X:=znw X (h.set.below hb) hA
theorem zmB (V:World) (mb sm:Nat) (c:zl) (cv:Value) (d:Nat) (model:Int) (hc:codeOk c=true) (hf:yw c=true):∀(n:Nat) (A:za),qF c model A->yg c model A<n->∀(w:World) (s:yH) (ov:Value) (css:List (List Value)),zX V w mb sm s.seen.length c cv d model ov s css->
  s.seen.length+nb (yg c model A)<=1000000->s.out.length<=s.seen.length->Calls Tryz.prog 25 #[.pointer (some ⟨mb,0,none⟩),A.val] w (pO V w mb sm c cv d model ov (zx c model d n A s)):=by
 have hbd:=zZ hc
 intro n
 induction n with
 |zero=>intro A _ h;omega
 |succ n ih=>
 intro A hA hn w s ov css hM hsz hos
 have hwf:=hA.wf (by omega) (λi hi=>(wu hc hf hi).len)
 have hnb:=zji (yg c model A)
 have hsl:s.seen.length<1000000:=by omega
 obtain⟨cs,hcs⟩:∃cs,cs=A.cells:=⟨_,rfl⟩
 have hcl:cs.length=221:=by rw [hcs];exact za.xk hA.v.ok
 unfold za.val
 rw [<-hcs]
 have hB:=zw w (.cells cs.toArray 67)
 have hg:=yG w (.cells cs.toArray 67)
 have zen:=λX (hX:Below w.heap.size w X)=>hM.looked hwf hX
 rw [<-hcs] at zen
 obtain⟨r,hr⟩:∃r,r=decide (A∈s.seen):=⟨_,rfl⟩
 rw [<-hr] at zen
 have zlG:zx c model d (n+1) A s=if A∈s.seen then s else if yS c A then⟨A::s.seen,s.out++ [vD c A],s.fails||A.fails⟩ else zJ (zx c model d n) c model d A c.threads.length ⟨A::s.seen,s.out,s.fails⟩:=rfl
 have HB:=qh hB
 have xV:=qh hg
 have zlH:=qh zen
 have HR:=qh hr
 have zeo:=qh zlG
 have HM:=qh hM
 have HIH:=qh ih
 have HA:=qh hA
 have wX:=qh hcs
 have HWF:=qh hwf
 have gL:=qh hbd
 have HSZ:=qh hsz
 have HOS:=qh hos
 have HN:=qh hn
 have HC:=qh hc
 have HF:=qh hf
 have kQ:=qh hcl
 have HSL:Hid (s.seen.length<1000000000):=Nat.lt_trans hsl (by omega)
 clear hB hg zen hr zlG hM ih hA hcs hwf hbd hsz hos hn hc hf hnb hcl hsl
 go_enter Tryz.func25,Tryz.ntmps25
 go_upto_region 1 with fail
 generalize World.alloc w _=X at HB xV ⊢
 have HGV:Hid (w.heap.size=w.heap.size):=rfl
 obtain⟨gA,hgA⟩:∃q,q=w.heap.size:=⟨_,rfl⟩
 have HGA:=qh hgA
 rw [<-hgA] at xV ⊢
 clear hgA HGV
 have HMX:=qh (HM.out.later HB.out)
 have wT:Hid (zo X gA A):=⟨(by rw [<-wX.out];exact xV.out),HA.out.v.ok⟩
 have CC:Hid (∀x,Below X.heap.size X x->x.cell? ⟨mb,4,none⟩=some (.map (some sm))/\(Instr.lookup 56 (.map (some sm)) (.agg cs.toArray) true).run Tryz.prog x= .ok (.tuple #[.agg #[], .bool r]) x):=λx hx=>⟨zk hx _ _ (ze HMX.out.blk 4),zlH.out x (zn HB.out hx)⟩
 have zkD:Hid (∀x,Below X.heap.size X x->x.rangeAt gA 0 cs):=λx hx=>by rw [wX.out];exact(wT.out.later hx).range
 refine vP (S:=λx=>Below X.heap.size X x) ((Below.refl _ _).drew) (λhA1=> ?_)
 obtain⟨V1,hV1⟩:∃V1,V1=X.drew:=⟨_,rfl⟩
 rw [<-hV1] at hA1 ⊢
 clear hV1
 refine zh 0 CC.out ?_
 refine zh 1 CC.out ?_
 refine zh 2 CC.out ?_
 refine zh 3 CC.out ?_
 refine wpAnyH_take (i:=4) (v:= .agg cs.toArray) rfl (by kernel_rfl) (by kernel_rfl) (by kernel_rfl) (λ_ _ _ h=>h) (yieldsIf_load_mid (by rfl) 67 _ rfl (gA) 0 rfl cs _ zkD.out Tryz.underlying67 rfl (by rw [kQ.out];exact yO)) (by assumption) ?_
 change wpAnyH _ _ _ _ _ _ _ (Act.put _ (some 15) _) _
 simp only [Act.put,qz1,qz2,qz3]
 refine zh 5 CC.out ?_
 refine zh 6 CC.out ?_
 refine zh 7 CC.out ?_
 refine zh 8 CC.out ?_
 refine qG 9 rfl (λK hK=> ?_)
 go_simp
 have zep:=zn hA1 (zw V1 (.cells #[] 104))
 generalize World.alloc V1 _=aw9 at zep ⊢
 refine hK.out _ _ zep (λ_=> ?_)
 clear hK K hA1
 refine qG 10 rfl (λK hK=> ?_)
 go_simp
 have zfn:=zep
 refine hK.out _ _ zfn (λ_=> ?_)
 clear hK K zep
 refine zh 11 CC.out ?_
 refine vK ?_
 have qW:=qh zfn
 clear CC zfn
 generalize aw9=X1 at qW ⊢
 have HM1:=qh (HMX.out.later qW.out)
 have HW1:=qh (wT.out.later qW.out)
 have znK:=qh (zn HB.out qW.out)
 cases r with
 |true=>
  have hin:A∈s.seen:=of_decide_eq_true HR.out.symm
  have zU:Hid (zx c model d (n+1) A s=s):=by show _=s;rw [zeo.out,if_pos hin]
  clear hin
  go_wp2_with fail
  (try simp only [Exit.inBlock,Exit.then]);(try rw [Exit.noGoto_normal]);first|refine bodyPost_end (results_none rfl _ _ _) rfl ?_|refine bodyPost_ret (results_none rfl _ _ _) rfl ?_
  rw [zU.out]
  exact⟨rfl,_,_,HM1.out,zA _ znK.out,λk hk=> .inl hk⟩
 |false=>
 have hin:¬A∈s.seen:=of_decide_eq_false HR.out.symm
 have znL:=qh hin
 clear hin
 go_upto_region 3 with fail
 have kP:Hid (gA≠sm/\mb≠sm):=⟨λe=>HM1.out.zcX HW1.out e.symm,HM1.out.zan⟩
 have zpg:=zcH
 have C3:Hid (∀x,Since (λk=>k=sm) X1 x->x.cell? ⟨mb,4,none⟩=some (.map (some sm))):=λx hx=>(hx.cell (p:=⟨mb,4,none⟩) (zI HM1.out.blk) kP.out.2).trans (ze HM1.out.blk 4)
 have HR3:Hid (∀x,Since (λk=>k=sm) X1 x->x.rangeAt gA 0 cs):=λx hx=>by rw [wX.out];exact(HW1.out.since hx kP.out.1).range
 refine vP (S:=λx=>Since (λk=>k=sm) X1 x) (Since.drew _ (Since.refl _ X1)) (λhC3=> ?_)
 obtain⟨V3,hV3⟩:∃V1,V1=X1.drew:=⟨_,rfl⟩
 rw [<-hV3] at hC3 ⊢
 have HV3:Hid (Below X1.heap.size X1 V3):=by rw [hV3];exact(Below.refl _ _).drew
 clear hV3
 refine zh 0 C3.out ?_
 refine zh 1 C3.out ?_
 refine zh 2 C3.out ?_
 refine zh 3 C3.out ?_
 refine wpAnyH_take (i:=4) (v:= .agg cs.toArray) rfl (by kernel_rfl) (by kernel_rfl) (by kernel_rfl) (λ_ _ _ h=>h) (yieldsIf_load_mid (by rfl) 67 _ rfl (gA) 0 rfl cs _ HR3.out Tryz.underlying67 rfl (by rw [kQ.out];exact yO)) (by assumption) ?_
 change wpAnyH _ _ _ _ _ _ _ (Act.put _ (some 24) _) _
 simp only [Act.put,qz1,qz2,qz3]
 refine zh 5 C3.out ?_
 refine qG 6 rfl (λK hK=> ?_)
 obtain⟨cw6,hup,hset,hsp⟩:=zpb V3 (HM1.out.set.below HV3.out) HSL.out HWF.out
 rw [show A.val= .agg cs.toArray by unfold za.val;rw [wX.out]] at hup
 go_simp
 clear hup
 have zda:Since (λk=>k=sm) X1 cw6:=Since.trans hC3 hsp (λ_ h=> .inl h)
 have HSP:=qh hset
 clear hset hsp
 refine hK.out _ _ zda (λ_=> ?_)
 clear hK K hC3
 refine vK ?_
 have wP:=qh (HM1.out.seen zda HSP.out)
 have HW3:=qh (HW1.out.since zda kP.out.1)
 have HS3:Hid (Since (λk=>k=mb\/k=sm\/ov.ownBlock=some k) w cw6):=Since.trans (zA _ znK.out) zda (λk hk=> .inl (.inr (.inl hk)))
 clear HSP C3 HR3 zda zpg
 generalize cw6=X3 at wP HW3 HS3 ⊢
 have hdone:=zhF V X3 mb c cv d model wP.out.axc (by have:=gL.out;omega) gA A HW3.out
 obtain⟨dn,hdn⟩:∃b,b=yS c A:=⟨_,rfl⟩
 rw [<-hdn] at hdone
 have HDN:=qh hdn
 have zhG:=qh hdone
 clear hdn hdone
 cases dn with
 |true=>
  have zU:Hid (zx c model d (n+1) A s=⟨A::s.seen,s.out++ [vD c A],s.fails||A.fails⟩):=by show _=_;rw [zeo.out,if_neg znL.out, <-HDN.out,if_pos rfl]
  go_upto_region 5 with(go_at_call 43;go_must(refine zhG.out.mono ?_);rintro e X4 ⟨rfl,hb⟩;(have uz:=qh hb);clear hb)
  have vJ:=qh (zmT V X4 mb sm _ c cv d model ov _ css (wP.out.later uz.out) (by have:=gL.out;omega) (by have:=gL.out;omega) (by have:=gL.out;omega) gA A (HW3.out.later uz.out) (by have:=HOS.out;have:=HSZ.out;show s.out.length<=1000000;omega))
  go_wp2_with(go_at_call 44;go_must(refine vJ.out.mono ?_);rintro e X5 ⟨rfl,uT,zgX,hm5,hs5,ho5⟩;(have HM5:=qh hm5);(have HS5:=qh hs5);(have HO5:=qh ho5);clear hm5 hs5 ho5)
  (try simp only [Exit.inBlock,Exit.then]);(try rw [Exit.noGoto_normal]);first|refine bodyPost_end (results_none rfl _ _ _) rfl ?_|refine bodyPost_ret (results_none rfl _ _ _) rfl ?_
  rw [zU.out]
  exact⟨rfl,_,_,HM5.out,Since.trans (Since.trans HS3.out (zA (λ_=>False) uz.out) (λ_ h=>h.elim)) HS5.out (λk hk=> .inl (hk.elim .inl (λe=> .inr (.inr e)))),λk hk=>(HO5.out k hk).imp id (λe=>Nat.le_trans (Nat.le_trans HS3.out.size uz.out.size) e)⟩
 |false=>
 have zU:Hid (zx c model d (n+1) A s=zJ (zx c model d n) c model d A c.threads.length ⟨A::s.seen,s.out,s.fails⟩):=by show _=_;rw [zeo.out,if_neg znL.out, <-HDN.out,if_neg (by simp)]
 go_upto_region 6 with(go_at_call 43;go_must(refine zhG.out.mono ?_);rintro e X4 ⟨rfl,hb⟩;(have uz:=qh hb);clear hb)
 obtain⟨ta,tc,hcv, -⟩:=zf.slice wP.out.code
 obtain⟨cn,hcn⟩:∃q,q=c.threads.length:=⟨_,rfl⟩
 rw [<-hcn] at hcv
 have jq:=qh hcn
 obtain⟨st,hst⟩:∃st:Nat->yH,st=λi=>zJ (zx c model d n) c model d A i ⟨A::s.seen,s.out,s.fails⟩:=⟨_,rfl⟩
 have zd8:st 0=⟨A::s.seen,s.out,s.fails⟩:=by rw [hst];rfl
 have zd9:∀i,st (i+1)=yA (zx c model d n) model A i (A.th i).many (yN (zx c model d n) c model d A i (st i)):=λi=>by rw [hst];rfl
 have hfin:zx c model d (n+1) A s=st cn:=by rw [zU.out,hst,hcn]
 have HST:=qh hst
 have wE:=qh zd9
 have zph:=qh hfin
 have HM4:=qh (wP.out.later uz.out)
 have qy:=qh (HW3.out.later uz.out)
 have HS4:Hid (Since (λk=>k=mb\/k=sm\/ov.ownBlock=some k) w X4):=Since.trans HS3.out (zA (λ_=>False) uz.out) (λ_ h=>h.elim)
 have hm4:=HM4.out
 rw [show(⟨A::s.seen,s.out,s.fails⟩:yH)=st 0 from zd8.symm] at hm4
 have zhH:s.seen.length+1=(st 0).seen.length:=by rw [zd8];rfl
 rw [zhH] at hm4
 have zqR:=qh hm4
 have c2:=ze HM4.out.blk 2
 have c2':X4.cell? ⟨mb,2,none⟩=some (.slice ta cn tc):=by rw [<-hcv];exact c2
 have hc4:cn<=4:=by have:=gL.out;omega
 have HCV:=qh hcv
 have zsY:=qh zhH
 clear c2 hm4 hst zd8 zd9 hfin hcn hcv zhH zU zhG zeo zlH
 go_wp2_with fail
 go_loopg [36] cn (λgg s36 wr=>∃(i:Nat) (ov1:Value) (zkE:List (List Value)),i<=cn/\Hid (gg=cn - i)/\s36= .int .i64 i/\Hid (zX V wr mb sm (st i).seen.length c cv d model ov1 (st i) zkE)/\Hid (zo wr gA A)/\Hid (Since (λk=>k=mb\/k=sm\/ov.ownBlock=some k) w wr)/\Hid (∀k,ov1.ownBlock=some k->ov.ownBlock=some k\/w.heap.size<=k))
 case atStart=>exact⟨0,ov,css,Nat.zero_le _,rfl,rfl,zqR.out,qy.out,HS4.out,λk hk=> .inl hk⟩
 case round=>
 obtain⟨i,ov1,zkE,hi,HG,rfl,HMI,HWI,HSI,kL⟩:=hrel
 obtain⟨wo,rfl⟩:∃wo:World,wo=wr:=⟨_,rfl⟩
 by_cases hlt:i<cn
 rotate_left
 ·obtain rfl:cn=i:=by omega
  go_wp2_with fail
  (try simp only [Exit.inBlock,Exit.then]);(try rw [Exit.noGoto_normal]);first|refine bodyPost_end (results_none rfl _ _ _) rfl ?_|refine bodyPost_ret (results_none rfl _ _ _) rfl ?_
  rw [zph.out]
  exact⟨rfl,_,_,HMI.out,HSI.out,kL.out⟩
 have qK:(i:Int)<(cn:Int):=by omega
 have hi4:i<4:=by omega
 have hiI:(i:Int)<4:=by omega
 have HRW:Hid (wo.rangeAt gA 0 cs):=by rw [wX.out];exact HWI.out.range
 have hcp:=zd2 (w:=wo) (A:=A) (cs:=cs) (z:=Tryz.zeroCells67) wX.out HWI.out.ok (by rw [kQ.out];exact jd)
 have HCP:=qh hcp.1
 have HCB:=qh hcp.2
 have zbC:Hid ((wo.alloc (.cells Tryz.zeroCells67 67)).there wo.heap.size 0 cs.toArray.size):=zd3 (by rw [kQ.out];exact jd)
 have ku:Hid (cs.toArray.all (·.oneCell')=true):=all_oneCell_toArray (by rw [wX.out];exact A.cells_one)
 have zkF:Hid ((Tryz.prog.info? 67).map (·.size)=some cs.toArray.size):=by rw [List.size_toArray,kQ.out];exact yO
 clear hcp
 go_upto_region 10 with(first|with_reducible refine wpList_load_mid rfl 67 _ rfl gA 0 rfl cs _ HRW.out Tryz.underlying67 rfl (by rw [kQ.out];exact yO) ?_|with_reducible refine wpList_store_mid rfl 67 _ _ rfl wo.heap.size 0 cs.toArray rfl rfl zbC.out zkF.out ku.out ?_)
 try simp only [List.toList_toArray]
 clear zbC
 generalize World.setCells (World.alloc wo _) wo.heap.size 0 cs=Y at HCP HCB ⊢
 obtain⟨gN,hgN⟩:∃q,q=wo.heap.size:=⟨_,rfl⟩
 have HGN:=qh hgN
 rw [<-hgN] at HCP ⊢
 clear hgN HRW
 have HMY:=qh (HMI.out.later HCB.out)
 have HWY:=qh (HWI.out.later HCB.out)
 have hic:i<c.threads.length:=by rw [<-jq.out];exact hlt
 have HIC:=qh hic
 have hvr:V.heap.size<=gN:=by have h1:=HM.out.base.size;have h2:=HSI.out.size;have h3:=HGN.out;omega
 have HVR:=qh hvr
 have hrv:=wu HC.out HF.out hic
 have hread:=zhy V Y mb c cv d model HMY.out.axc (by have:=gL.out;omega) (by have:=gL.out;omega) (by have:=gL.out;omega) gN hvr (HMY.out.zah HCP.out) A HCP.out i hic hrv.good hrv.len (HA.out.cnt i hic) (HA.out.stood i hic)
 have hroom:=ziQ (n:=n) (d:=d) HC.out HF.out HA.out (i:=i) hic (M:=1000000)
 have znR:zJ (zx c model d n) c model d A i ⟨A::s.seen,s.out,s.fails⟩=st i:=by rw [HST.out]
 have hrt:yN (zx c model d n) c model d A i (st i)=if xD model c.domain d (c.threads.getD i []) A i then zx c model d n (xS model c.domain d (c.threads.getD i []) A i) (st i) else st i:=rfl
 unfold qU at hread
 obtain⟨rd,hrd⟩:∃q,q=xD model c.domain d (c.threads.getD i []) A i:=⟨_,rfl⟩
 obtain⟨RW,hRW⟩:∃q,q=xS model c.domain d (c.threads.getD i []) A i:=⟨_,rfl⟩
 rw [<-hrd, <-hRW] at hread hroom hrt
 have zeq:=qh hread
 have HRT:=qh hrt
 have zbC:Hid (rd=true->qF c model RW/\yg c model RW+1<=yg c model A/\(st i).seen.length+nb (yg c model RW)<=1000000/\(st i).out.length<=(st i).seen.length):=λe=>by
  rw [<-znR]
  exact hroom e ⟨A::s.seen,s.out,s.fails⟩ (by have:=HOS.out;show s.out.length<=s.seen.length+1;omega) (by have:=HSZ.out;show s.seen.length+1+_<=_;omega)
 clear hic hvr hrv hread hroom znR hrt hrd hRW
 cases rd with
 |true=>
  go_upto_region 11 with(go_at_call 45;go_must(refine zeq.out.mono ?_);rintro e Y2 ⟨rfl,hw2,jO⟩;(have HW2:=qh hw2);(have uM:=qh jO);clear hw2 jO)
  have hYR:=HW2.out (by trivial)
  obtain⟨rg1,rg2,rg3,rg4⟩:=zbC.out (by trivial)
  obtain⟨csR,zfr⟩:∃q,q=RW.cells:=⟨_,rfl⟩
  have zqS:=qh zfr
  have znU:Hid (csR.length=221):=by rw [zfr];exact za.xk hYR.ok
  have HRR:Hid (Y2.rangeAt gN 0 csR):=by rw [zfr];exact hYR.range
  have kN:=qh (HMY.out.one HCP.out HVR.out uM.out)
  have hne2:gA≠gN:=λe=>by have h1:=zI HWI.out.blk;have h2:=HGN.out;omega
  have HWR:=qh (HWY.out.since uM.out hne2)
  have hwk:=HIH.out RW rg1 (by have:=HN.out;omega) Y2 (st i) ov1 zkE kN.out rg3 rg4
  unfold za.val pO at hwk
  rw [<-zfr] at hwk
  have hrt:=HRT.out.trans (if_pos (by trivial))
  have znV:=qh hrt
  have HWK:=qh hwk
  clear hYR rg1 rg2 rg3 rg4 zfr hwk hrt
  go_upto_region 12 with(first|with_reducible refine wpList_load_mid rfl 67 _ rfl gN 0 rfl csR _ HRR.out Tryz.underlying67 rfl (by rw [znU.out];exact yO) ?_|(go_at_call 25;go_must(refine HWK.out.mono ?_);rintro e Y3 ⟨rfl,ov2,ztn,bq,hs3,ho3⟩;(have HM5:=qh bq);(have HS5:=qh hs3);(have HO5:=qh ho3);clear bq hs3 ho3))
  have HSY:=qh (Since.trans (Since.trans HSI.out (zA (λ_=>False) HCB.out) (λ_ h=>h.elim)) uM.out (λk hk=> .inr (by have hk:k=gN:=hk;have h1:=HSI.out.size;have h2:=HGN.out;omega)))
  have p8:Hid (zo Y3 gA A):=HWR.out.since HS5.out (λe=>by rcases e with e|e|e;exact kN.out.zah HWR.out e.symm;exact kN.out.zcX HWR.out e.symm;exact kN.out.zc4 HWR.out e)
  have HS6:Hid (Since (λk=>k=mb\/k=sm\/ov.ownBlock=some k) w Y3):=Since.trans HSY.out HS5.out (λk hk=>by rcases hk with e|e|e;exact .inl (.inl e);exact .inl (.inr (.inl e));exact(kL.out k e).imp (λe=> .inr (.inr e)) id)
  have HO6:Hid (∀k,ov2.ownBlock=some k->ov.ownBlock=some k\/w.heap.size<=k):=λk hk=>(HO5.out k hk).elim (kL.out k) (λe=> .inr (Nat.le_trans HSY.out.size e))
  rw [<-znV.out] at HM5
  clear HRT znV kN HWR HSY HS5 HO5 HWK HRR zqS znU HMI HWI HSI kL HCP HCB HMY HWY zeq zbC HW2 uM
  obtain⟨m,hm⟩:∃q,q=(A.th i).many:=⟨_,rfl⟩
  have m5:Y3.cell? ⟨gA,i*54+53,none⟩=some (.int .i64 m):=by rw [hm];exact p8.out.many hi4
  have wN:m<=8:=by rw [hm];exact(HA.out.v.th hi4).ok.many
  obtain⟨it,hit⟩:∃it:Nat->yH,it=λk=>yA (zx c model d n) model A i k (yN (zx c model d n) c model d A i (st i)):=⟨_,rfl⟩
  have zfs:it 0=yN (zx c model d n) c model d A i (st i):=by rw [hit];rfl
  have hits:∀k,it (k+1)=if yJ model A i k then zx c model d n (zF A i k) (it k) else it k:=λk=>by rw [hit];rfl
  have zft:it m=st (i+1):=by rw [wE.out,hit,hm]
  have HIT:=qh hit
  have HITS:=qh hits
  have zkG:=qh zft
  have HMM:=qh hm
  rw [<-zfs] at HM5
  clear hit zfs hits zft hm
  go_wp2_with fail
  go_loopg [51] m (λgg s51 wr=>∃(k:Nat) (pQ:Value) (uN:List (List Value)),k<=m/\Hid (gg=m - k)/\s51= .int .i64 k/\Hid (zX V wr mb sm (it k).seen.length c cv d model pQ (it k) uN)/\Hid (zo wr gA A)/\Hid (Since (λk=>k=mb\/k=sm\/ov.ownBlock=some k) w wr)/\Hid (∀k,pQ.ownBlock=some k->ov.ownBlock=some k\/w.heap.size<=k))
  case atStart=>exact⟨0,_,_,Nat.zero_le _,rfl,rfl,HM5.out,p8.out,HS6.out,HO6.out⟩
  case round=>
  obtain⟨k,pQ,uN,hk,HGK,rfl,HMK,j6,pR,qp⟩:=hrel
  obtain⟨wk,rfl⟩:∃wk:World,wk=wr:=⟨_,rfl⟩
  by_cases hkm:k<m
  rotate_left
  ·obtain rfl:m=k:=by omega
   go_wp2_with fail
   go_roundg (cn - (i+1))
   case measure=>rw [HG.out];omega
   case rel=>exact⟨i+1,pQ,uN,by omega,rfl,by simp,by rw [<-zkG.out];exact HMK.out,j6.out,pR.out,qp.out⟩
  have hkI:(k:Int)<(m:Int):=by omega
  have hcp:=zd2 (w:=wk) (A:=A) (cs:=cs) (z:=Tryz.zeroCells67) wX.out j6.out.ok (by rw [kQ.out];exact jd)
  have uO:=qh hcp.1
  have uP:=qh hcp.2
  have pU:Hid (wk.rangeAt gA 0 cs):=by rw [wX.out];exact j6.out.range
  have kH:Hid ((wk.alloc (.cells Tryz.zeroCells67 67)).there wk.heap.size 0 cs.toArray.size):=zd3 (by rw [kQ.out];exact jd)
  clear hcp
  go_upto_region 16 with(first|with_reducible refine wpList_load_mid rfl 67 _ rfl gA 0 rfl cs _ pU.out Tryz.underlying67 rfl (by rw [kQ.out];exact yO) ?_|with_reducible refine wpList_store_mid rfl 67 _ _ rfl wk.heap.size 0 cs.toArray rfl rfl kH.out zkF.out ku.out ?_)
  try simp only [List.toList_toArray]
  clear kH pU
  generalize World.setCells (World.alloc wk _) wk.heap.size 0 cs=Z at uO uP ⊢
  obtain⟨gK,hgK⟩:∃q,q=wk.heap.size:=⟨_,rfl⟩
  have wF:=qh hgK
  rw [<-hgK] at uO ⊢
  clear hgK
  have pV:=qh (HMK.out.later uP.out)
  have HWZ:=qh (j6.out.later uP.out)
  have hkM:k<(A.th i).many:=by rw [<-HMM.out];exact hkm
  have hvk:V.heap.size<=gK:=by have h1:=HM.out.base.size;have h2:=pR.out.size;have h3:=wF.out;omega
  have HVK:=qh hvk
  have hwr:∀X,Below Z.heap.size Z X->Calls Tryz.prog 46 #[.pointer (some ⟨mb,0,none⟩), .pointer (some ⟨gK,0,none⟩), .int .i64 i, .int .i64 k] X (xZ gK model A i k X):=λX hX=>zci X mb model (pV.out.later hX).axc.mod gK A (uO.out.later hX) i hi4 k (by omega) (HA.out.ev hi4 (by omega))
  have zcx:=HITS.out k
  have hik:it k=yA (zx c model d n) model A i k (yN (zx c model d n) c model d A i (zJ (zx c model d n) c model d A i ⟨A::s.seen,s.out,s.fails⟩)):=by rw [HIT.out,HST.out]
  have hroom:yJ model A i k=true->qF c model (zF A i k)/\yg c model (zF A i k)+1<=yg c model A/\(it k).seen.length+nb (yg c model (zF A i k))<=1000000/\(it k).out.length<=(it k).seen.length:=λhw=>by
   rw [hik]
   exact zcN (n:=n) (d:=d) HC.out HF.out HA.out (i:=i) (k:=k) (by rw [<-jq.out];exact hlt) hkM hw ⟨A::s.seen,s.out,s.fails⟩ (by have:=HOS.out;show s.out.length<=s.seen.length+1;omega) (M:=1000000) (by have:=HSZ.out;show s.seen.length+1+_<=_;omega)
  unfold xZ at hwr
  obtain⟨rk,hrk⟩:∃q,q=yJ model A i k:=⟨_,rfl⟩
  obtain⟨WK,hWK⟩:∃q,q=zF A i k:=⟨_,rfl⟩
  simp only [<-hrk, <-hWK] at hwr hroom zcx
  have HWR:=qh hwr
  have kH:=qh hroom
  have zfw:=qh zcx
  have pU:Hid (∀x,Since (λq=>q=gK) Z x->x.rangeAt gA 0 cs):=λx hx=>by rw [wX.out];exact(HWZ.out.since hx (λe=>by have h1:=zI j6.out.blk;have h2:=wF.out;omega)).range
  clear hwr hroom zcx hik hrk hWK hkM hvk
  cases rk with
  |true=>
   obtain⟨kg1,kg2,kg3,kg4⟩:=kH.out rfl
   have kI:=zfw.out.trans (if_pos rfl)
   have zaq:=qh kI
   obtain⟨uQ,zar⟩:∃q,q=WK.cells:=⟨_,rfl⟩
   have zcy:=qh zar
   have zfy:Hid (uQ.length=221):=by rw [zar];exact za.xk kg1.v.ok
   have zfz:WK.wf:=kg1.wf (by have:=gL.out;omega) (λi hi=>(wu HC.out HF.out hi).len)
   have zf0:WK≠A:=λe=>by rw [e] at kg2;omega
   have zas:Hid (∀x,Since (λq=>q=gK) Z x->(binOp .neq 67 (.agg uQ.toArray) (.agg cs.toArray)).run Tryz.prog x= .ok (.bool true) x):=λx _=>by rw [wX.out,zar];exact zl4 zfz HWF.out zf0 x
   have HK1:=qh kg1
   have HK2:=qh kg2
   have HK3:=qh kg3
   have HK4:=qh kg4
   clear kI zar zfz zf0 kg1 kg2 kg3 kg4
   go_upto_region 17 with(first|(with_reducible refine gV (by assumption) 67 _ rfl gK 0 rfl uQ _ (zhI.out) Tryz.underlying67 rfl (by rw [zfy.out];exact yO) ?_)|(go_at_call 46;go_must(refine(HWR.out Z (Below.refl _ _)).mono ?_);rintro e Z2 ⟨rfl,hw16,hb⟩;(have qB:=qh hb);(have zde:=qh (show zo Z2 gK WK by simpa using hw16));(have zhI:Hid (Z2.rangeAt gK 0 uQ):=by rw [zcy.out];exact zde.out.range);(have zhJ:Hid (Z2.rangeAt gA 0 cs):=pU.out Z2 qB.out);(have hne16:=zas.out Z2 qB.out);clear hw16 hb))
   refine gV (by assumption) 67 _ rfl gA 0 rfl cs _ zhJ.out Tryz.underlying67 rfl (by rw [kQ.out];exact yO) ?_
   refine za3 (by rfl) 67 _ _ _ rfl uQ.toArray cs.toArray (.bool true) (by rfl) (by rfl) Tryz.eqGuardType67 hne16 ?_
   go_upto_region 17 with fail
   have pW:=qh (pV.out.one uO.out HVK.out qB.out)
   have wV:=qh (HWZ.out.since qB.out (λe=>by have h1:=zI j6.out.blk;have h2:=wF.out;omega))
   have zf1:=qh (Since.trans (Since.trans pR.out (zA (λ_=>False) uP.out) (λ_ h=>h.elim)) qB.out (λq hq=> .inr (by have hq:q=gK:=hq;have h1:=pR.out.size;have h2:=wF.out;omega)))
   have zkH:Hid (Z2.rangeAt gK 0 uQ):=by rw [zcy.out];exact zde.out.range
   have hwk:=HIH.out WK HK1.out (by have h1:=HN.out;have h2:=HK2.out;omega) Z2 (it k) pQ uN pW.out HK3.out HK4.out
   unfold za.val pO at hwk
   rw [<-zcy.out] at hwk
   have zkI:=qh hwk
   clear hwk pU zas qB hne16
   go_upto_region 18 with(first|with_reducible refine wpList_load_mid rfl 67 _ rfl gK 0 rfl uQ _ zkH.out Tryz.underlying67 rfl (by rw [zfy.out];exact yO) ?_|(go_at_call 25;go_must(refine zkI.out.mono ?_);rintro e Z3 ⟨rfl,ov4,zkJ,bq,hs3,ho3⟩;(have HM7:=qh bq);(have HS7:=qh hs3);(have HO7:=qh ho3);clear bq hs3 ho3))
   have HW7:Hid (zo Z3 gA A):=wV.out.since HS7.out (λe=>by rcases e with e|e|e;exact pW.out.zah wV.out e.symm;exact pW.out.zcX wV.out e.symm;exact pW.out.zc4 wV.out e)
   have HS8:Hid (Since (λk=>k=mb\/k=sm\/ov.ownBlock=some k) w Z3):=Since.trans zf1.out HS7.out (λq hq=>by rcases hq with e|e|e;exact .inl (.inl e);exact .inl (.inr (.inl e));exact(qp.out q e).imp (λe=> .inr (.inr e)) id)
   have HO8:Hid (∀k,ov4.ownBlock=some k->ov.ownBlock=some k\/w.heap.size<=k):=λq hq=>(HO7.out q hq).elim (qp.out q) (λe=> .inr (Nat.le_trans zf1.out.size e))
   rw [<-zaq.out] at HM7
   go_wp2_with fail
   go_roundg (m - (k+1))
   case measure=>rw [HGK.out];omega
   case rel=>exact⟨k+1,ov4,zkJ,by omega,rfl,by simp,HM7.out,HW7.out,HS8.out,HO8.out⟩
  |false=>
  have kI:=zfw.out.trans (if_neg (by simp))
  have zaq:=qh kI
  have zas:Hid (∀x,Since (λq=>q=gK) Z x->True):=λx _=>trivial
  clear kI
  go_upto_region 18 with(go_at_call 46;go_must(refine(HWR.out Z (Below.refl _ _)).mono ?_);rintro e Z2 ⟨rfl,hw16,hb⟩;(have qB:=qh hb);clear hw16 hb)
  have hm7:=pV.out.one uO.out HVK.out qB.out
  rw [<-zaq.out] at hm7
  have HM7:=qh hm7
  have HW7:=qh (HWZ.out.since qB.out (λe=>by have h1:=zI j6.out.blk;have h2:=wF.out;omega))
  have HS8:=qh (Since.trans (Since.trans pR.out (zA (λ_=>False) uP.out) (λ_ h=>h.elim)) qB.out (λq hq=> .inr (by have hq:q=gK:=hq;have h1:=pR.out.size;have h2:=wF.out;omega)))
  clear hm7 pU zas qB
  go_wp2_with fail
  go_roundg (m - (k+1))
  case measure=>rw [HGK.out];omega
  case rel=>exact⟨k+1,pQ,uN,by omega,rfl,by simp,HM7.out,HW7.out,HS8.out,qp.out⟩
 |false=>
 go_upto_region 12 with(go_at_call 45;go_must(refine zeq.out.mono ?_);rintro e Y2 ⟨rfl,hw2,jO⟩;(have HW2:=qh hw2);(have uM:=qh jO);clear hw2 jO)
 have hrt:=HRT.out.trans (if_neg (by simp))
 have HM5:=qh (HMY.out.one HCP.out HVR.out uM.out)
 rw [<-hrt] at HM5
 have HS6:=qh (Since.trans (Since.trans HSI.out (zA (λ_=>False) HCB.out) (λ_ h=>h.elim)) uM.out (λk hk=> .inr (by have hk:k=gN:=hk;have h1:=HSI.out.size;have h2:=HGN.out;omega)))
 have hne2:gA≠gN:=λe=>by have h1:=zI HWI.out.blk;have h2:=HGN.out;omega
 have p8:=qh (HWY.out.since uM.out hne2)
 have HO6:=qh kL.out
 clear hrt HRT HMI HWI HSI kL HCP HCB HMY HWY zeq zbC HW2 uM
 obtain⟨m,hm⟩:∃q,q=(A.th i).many:=⟨_,rfl⟩
 have m5:Y2.cell? ⟨gA,i*54+53,none⟩=some (.int .i64 m):=by rw [hm];exact p8.out.many hi4
 have wN:m<=8:=by rw [hm];exact(HA.out.v.th hi4).ok.many
 obtain⟨it,hit⟩:∃it:Nat->yH,it=λk=>yA (zx c model d n) model A i k (yN (zx c model d n) c model d A i (st i)):=⟨_,rfl⟩
 have zfs:it 0=yN (zx c model d n) c model d A i (st i):=by rw [hit];rfl
 have hits:∀k,it (k+1)=if yJ model A i k then zx c model d n (zF A i k) (it k) else it k:=λk=>by rw [hit];rfl
 have zft:it m=st (i+1):=by rw [wE.out,hit,hm]
 have HIT:=qh hit
 have HITS:=qh hits
 have zkG:=qh zft
 have HMM:=qh hm
 rw [<-zfs] at HM5
 clear hit zfs hits zft hm
 go_wp2_with fail
 go_loopg [51] m (λgg s51 wr=>∃(k:Nat) (pQ:Value) (uN:List (List Value)),k<=m/\Hid (gg=m - k)/\s51= .int .i64 k/\Hid (zX V wr mb sm (it k).seen.length c cv d model pQ (it k) uN)/\Hid (zo wr gA A)/\Hid (Since (λk=>k=mb\/k=sm\/ov.ownBlock=some k) w wr)/\Hid (∀k,pQ.ownBlock=some k->ov.ownBlock=some k\/w.heap.size<=k))
 case atStart=>exact⟨0,_,_,Nat.zero_le _,rfl,rfl,HM5.out,p8.out,HS6.out,HO6.out⟩
 case round=>
 obtain⟨k,pQ,uN,hk,HGK,rfl,HMK,j6,pR,qp⟩:=hrel
 obtain⟨wk,rfl⟩:∃wk:World,wk=wr:=⟨_,rfl⟩
 by_cases hkm:k<m
 rotate_left
 ·obtain rfl:m=k:=by omega
  go_wp2_with fail
  go_roundg (cn - (i+1))
  case measure=>rw [HG.out];omega
  case rel=>exact⟨i+1,pQ,uN,by omega,rfl,by simp,by rw [<-zkG.out];exact HMK.out,j6.out,pR.out,qp.out⟩
 have hkI:(k:Int)<(m:Int):=by omega
 have hcp:=zd2 (w:=wk) (A:=A) (cs:=cs) (z:=Tryz.zeroCells67) wX.out j6.out.ok (by rw [kQ.out];exact jd)
 have uO:=qh hcp.1
 have uP:=qh hcp.2
 have pU:Hid (wk.rangeAt gA 0 cs):=by rw [wX.out];exact j6.out.range
 have kH:Hid ((wk.alloc (.cells Tryz.zeroCells67 67)).there wk.heap.size 0 cs.toArray.size):=zd3 (by rw [kQ.out];exact jd)
 clear hcp
 go_upto_region 16 with(first|with_reducible refine wpList_load_mid rfl 67 _ rfl gA 0 rfl cs _ pU.out Tryz.underlying67 rfl (by rw [kQ.out];exact yO) ?_|with_reducible refine wpList_store_mid rfl 67 _ _ rfl wk.heap.size 0 cs.toArray rfl rfl kH.out zkF.out ku.out ?_)
 try simp only [List.toList_toArray]
 clear kH pU
 generalize World.setCells (World.alloc wk _) wk.heap.size 0 cs=Z at uO uP ⊢
 obtain⟨gK,hgK⟩:∃q,q=wk.heap.size:=⟨_,rfl⟩
 have wF:=qh hgK
 rw [<-hgK] at uO ⊢
 clear hgK
 have pV:=qh (HMK.out.later uP.out)
 have HWZ:=qh (j6.out.later uP.out)
 have hkM:k<(A.th i).many:=by rw [<-HMM.out];exact hkm
 have hvk:V.heap.size<=gK:=by have h1:=HM.out.base.size;have h2:=pR.out.size;have h3:=wF.out;omega
 have HVK:=qh hvk
 have hwr:∀X,Below Z.heap.size Z X->Calls Tryz.prog 46 #[.pointer (some ⟨mb,0,none⟩), .pointer (some ⟨gK,0,none⟩), .int .i64 i, .int .i64 k] X (xZ gK model A i k X):=λX hX=>zci X mb model (pV.out.later hX).axc.mod gK A (uO.out.later hX) i hi4 k (by omega) (HA.out.ev hi4 (by omega))
 have zcx:=HITS.out k
 have hik:it k=yA (zx c model d n) model A i k (yN (zx c model d n) c model d A i (zJ (zx c model d n) c model d A i ⟨A::s.seen,s.out,s.fails⟩)):=by rw [HIT.out,HST.out]
 have hroom:yJ model A i k=true->qF c model (zF A i k)/\yg c model (zF A i k)+1<=yg c model A/\(it k).seen.length+nb (yg c model (zF A i k))<=1000000/\(it k).out.length<=(it k).seen.length:=λhw=>by
  rw [hik]
  exact zcN (n:=n) (d:=d) HC.out HF.out HA.out (i:=i) (k:=k) (by rw [<-jq.out];exact hlt) hkM hw ⟨A::s.seen,s.out,s.fails⟩ (by have:=HOS.out;show s.out.length<=s.seen.length+1;omega) (M:=1000000) (by have:=HSZ.out;show s.seen.length+1+_<=_;omega)
 unfold xZ at hwr
 obtain⟨rk,hrk⟩:∃q,q=yJ model A i k:=⟨_,rfl⟩
 obtain⟨WK,hWK⟩:∃q,q=zF A i k:=⟨_,rfl⟩
 simp only [<-hrk, <-hWK] at hwr hroom zcx
 have HWR:=qh hwr
 have kH:=qh hroom
 have zfw:=qh zcx
 have pU:Hid (∀x,Since (λq=>q=gK) Z x->x.rangeAt gA 0 cs):=λx hx=>by rw [wX.out];exact(HWZ.out.since hx (λe=>by have h1:=zI j6.out.blk;have h2:=wF.out;omega)).range
 clear hwr hroom zcx hik hrk hWK hkM hvk
 cases rk with
 |true=>
  obtain⟨kg1,kg2,kg3,kg4⟩:=kH.out rfl
  have kI:=zfw.out.trans (if_pos rfl)
  have zaq:=qh kI
  obtain⟨uQ,zar⟩:∃q,q=WK.cells:=⟨_,rfl⟩
  have zcy:=qh zar
  have zfy:Hid (uQ.length=221):=by rw [zar];exact za.xk kg1.v.ok
  have zfz:WK.wf:=kg1.wf (by have:=gL.out;omega) (λi hi=>(wu HC.out HF.out hi).len)
  have zf0:WK≠A:=λe=>by rw [e] at kg2;omega
  have zas:Hid (∀x,Since (λq=>q=gK) Z x->(binOp .neq 67 (.agg uQ.toArray) (.agg cs.toArray)).run Tryz.prog x= .ok (.bool true) x):=λx _=>by rw [wX.out,zar];exact zl4 zfz HWF.out zf0 x
  have HK1:=qh kg1
  have HK2:=qh kg2
  have HK3:=qh kg3
  have HK4:=qh kg4
  clear kI zar zfz zf0 kg1 kg2 kg3 kg4
  go_upto_region 17 with(first|(with_reducible refine gV (by assumption) 67 _ rfl gK 0 rfl uQ _ (zhI.out) Tryz.underlying67 rfl (by rw [zfy.out];exact yO) ?_)|(go_at_call 46;go_must(refine(HWR.out Z (Below.refl _ _)).mono ?_);rintro e Z2 ⟨rfl,hw16,hb⟩;(have qB:=qh hb);(have zde:=qh (show zo Z2 gK WK by simpa using hw16));(have zhI:Hid (Z2.rangeAt gK 0 uQ):=by rw [zcy.out];exact zde.out.range);(have zhJ:Hid (Z2.rangeAt gA 0 cs):=pU.out Z2 qB.out);(have hne16:=zas.out Z2 qB.out);clear hw16 hb))
  refine gV (by assumption) 67 _ rfl gA 0 rfl cs _ zhJ.out Tryz.underlying67 rfl (by rw [kQ.out];exact yO) ?_
  refine za3 (by rfl) 67 _ _ _ rfl uQ.toArray cs.toArray (.bool true) (by rfl) (by rfl) Tryz.eqGuardType67 hne16 ?_
  go_upto_region 17 with fail
  have pW:=qh (pV.out.one uO.out HVK.out qB.out)
  have wV:=qh (HWZ.out.since qB.out (λe=>by have h1:=zI j6.out.blk;have h2:=wF.out;omega))
  have zf1:=qh (Since.trans (Since.trans pR.out (zA (λ_=>False) uP.out) (λ_ h=>h.elim)) qB.out (λq hq=> .inr (by have hq:q=gK:=hq;have h1:=pR.out.size;have h2:=wF.out;omega)))
  have zkH:Hid (Z2.rangeAt gK 0 uQ):=by rw [zcy.out];exact zde.out.range
  have hwk:=HIH.out WK HK1.out (by have h1:=HN.out;have h2:=HK2.out;omega) Z2 (it k) pQ uN pW.out HK3.out HK4.out
  unfold za.val pO at hwk
  rw [<-zcy.out] at hwk
  have zkI:=qh hwk
  clear hwk pU zas qB hne16
  go_upto_region 18 with(first|with_reducible refine wpList_load_mid rfl 67 _ rfl gK 0 rfl uQ _ zkH.out Tryz.underlying67 rfl (by rw [zfy.out];exact yO) ?_|(go_at_call 25;go_must(refine zkI.out.mono ?_);rintro e Z3 ⟨rfl,ov4,zkJ,bq,hs3,ho3⟩;(have HM7:=qh bq);(have HS7:=qh hs3);(have HO7:=qh ho3);clear bq hs3 ho3))
  have HW7:Hid (zo Z3 gA A):=wV.out.since HS7.out (λe=>by rcases e with e|e|e;exact pW.out.zah wV.out e.symm;exact pW.out.zcX wV.out e.symm;exact pW.out.zc4 wV.out e)
  have HS8:Hid (Since (λk=>k=mb\/k=sm\/ov.ownBlock=some k) w Z3):=Since.trans zf1.out HS7.out (λq hq=>by rcases hq with e|e|e;exact .inl (.inl e);exact .inl (.inr (.inl e));exact(qp.out q e).imp (λe=> .inr (.inr e)) id)
  have HO8:Hid (∀k,ov4.ownBlock=some k->ov.ownBlock=some k\/w.heap.size<=k):=λq hq=>(HO7.out q hq).elim (qp.out q) (λe=> .inr (Nat.le_trans zf1.out.size e))
  rw [<-zaq.out] at HM7
  go_wp2_with fail
  go_roundg (m - (k+1))
  case measure=>rw [HGK.out];omega
  case rel=>exact⟨k+1,ov4,zkJ,by omega,rfl,by simp,HM7.out,HW7.out,HS8.out,HO8.out⟩
 |false=>
 have kI:=zfw.out.trans (if_neg (by simp))
 have zaq:=qh kI
 have zas:Hid (∀x,Since (λq=>q=gK) Z x->True):=λx _=>trivial
 clear kI
 go_upto_region 18 with(go_at_call 46;go_must(refine(HWR.out Z (Below.refl _ _)).mono ?_);rintro e Z2 ⟨rfl,hw16,hb⟩;(have qB:=qh hb);clear hw16 hb)
 have hm7:=pV.out.one uO.out HVK.out qB.out
 rw [<-zaq.out] at hm7
 have HM7:=qh hm7
 have HW7:=qh (HWZ.out.since qB.out (λe=>by have h1:=zI j6.out.blk;have h2:=wF.out;omega))
 have HS8:=qh (Since.trans (Since.trans pR.out (zA (λ_=>False) uP.out) (λ_ h=>h.elim)) qB.out (λq hq=> .inr (by have hq:q=gK:=hq;have h1:=pR.out.size;have h2:=wF.out;omega)))
 clear hm7 pU zas qB
 go_wp2_with fail
 go_roundg (m - (k+1))
 case measure=>rw [HGK.out];omega
 case rel=>exact⟨k+1,pQ,uN,by omega,rfl,by simp,HM7.out,HW7.out,HS8.out,qp.out⟩
