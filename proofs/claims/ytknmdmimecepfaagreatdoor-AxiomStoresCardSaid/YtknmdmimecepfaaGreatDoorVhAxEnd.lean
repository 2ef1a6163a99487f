/- Steps. -/
import Derived.Test.YtknmdmimecepfaaGreatDoorVhAxM
set_option linter.all false
namespace Go.Proofs.YtknmdmimecepfaaGreatDoor
open Go.RowKit
set_option maxRecDepth 100000
set_option maxHeartbeats 16000000
theorem zeh:(Tryz.prog.info? 51).map (λi=>(i.zero,i.size,i.bytes))=some (some (.agg #[.slice none 0 0, .slice none 0 0]),2,48):=by kernel_rfl
theorem zo.zjZ {w:World} {g:Nat} {A:za} (h:zo w g A) {n:Nat} (hn:n<=4):xJ w (.slice (some ⟨g,216,none⟩) n 4) (A.mem.take n):=by
 have hl:(A.mem.take n).length=n:=by rw [List.length_take,h.ok.mem];omega
 refine⟨some ⟨g,216,none⟩,4,by rw [hl],by rw [hl];omega,λj hj=> ?_⟩
 rw [hl] at hj
 refine⟨g,216, [.int .i64 (A.mem.getD j 0)],rfl,zI h.blk,rfl,λk hk=> ?_, ?_⟩
 ·obtain rfl:k=0:=by omega
  rw [show 216+j*1+0=216+j by omega]
  exact h.mem (by omega)
 show [Value.int .i64 (A.mem.getD j 0)] = [.int .i64 ((A.mem.take n).getD j default)]
 rw [show(A.mem.take n).getD j default=A.mem.getD j 0 from take_at hj]
def zik (V w:World) (mb sm n:Nat) (c:zl) (cv:Value) (d:Nat) (model:Int) (ov:Value) (s:yH) (e:Ending) (w':World):Prop:=
 e= .returned (.tuple #[])/\∃uT zgX,zX V w' mb sm n c cv d model uT s zgX/\Since (λk=>k=mb\/ov.ownBlock=some k) w w'/\∀k,uT.ownBlock=some k->ov.ownBlock=some k\/w.heap.size<=k
theorem zil {W X:World} {g:Nat} {mv rv:Value} {mem:List Int} {regs:List (List Int)} (h:uo W X g mv rv mem regs) (h4:∀j,j<regs.length->(regs.getD j default).length=4):uq (λk=>¬qd X k) X (λy=>yL y ⟨mem,regs⟩ [mv,rv]):=λy hy=>
 ⟨mv,rv,rfl,bV (hy.row h.zeu (λk hk e=>e (by obtain⟨cs,hc⟩:=wL h.zeu hk;exact⟨cs,_,hc, .inl rfl⟩))),
  zf.uj (hy.row h.zaD (λk hk e=>e (by obtain⟨cs,hc⟩:=wL h.zaD hk;exact⟨cs,_,hc, .inr rfl⟩))) λj hj=>⟨zb6 (regs.getD j default),rfl,λi hi=>zaf zim hj hi,h4 j hj,rfl⟩⟩
theorem zmT (V w:World) (mb sm nn:Nat) (c:zl) (cv:Value) (d:Nat) (model:Int) (ov:Value) (s:yH) (css:List (List Value)) (hM:zX V w mb sm nn c cv d model ov s css) (h4:c.threads.length<=4) (hv1:1<=c.vars) (hv2:c.vars<=4)
  (g:Nat) (A:za) (hW:zo w g A) (hout:s.out.length<=1000000):
  Calls Tryz.prog 44 #[.pointer (some ⟨mb,0,none⟩), .pointer (some ⟨g,0,none⟩)] w (zik V w mb sm nn c cv d model ov ⟨s.seen,s.out++ [vD c A],s.fails||A.fails⟩):=by
 obtain⟨ta,tc,rfl, -⟩:=zf.slice hM.code
 obtain⟨oa,oc,rfl, -, -⟩:=xP hM.outs.row
 have hmb:=hM.blk
 obtain⟨cn,hcn⟩:∃n,n=c.threads.length:=⟨_,rfl⟩
 obtain⟨vn,hvn⟩:∃v:Nat,(v:Int)=c.vars:=⟨c.vars.toNat,by omega⟩
 obtain⟨dom,hdom⟩:∃x,x=c.domain:=⟨_,rfl⟩
 obtain⟨on,hon⟩:∃n,n=s.out.length:=⟨_,rfl⟩
 obtain⟨fl,hfl⟩:∃b,b=s.fails:=⟨_,rfl⟩
 have zq7:vn<=4:=by omega
 have ztj:(vn:Int)<=4:=by omega
 have ztk:(0:Int)<=(vn:Int):=by omega
 rw [<-hcn] at h4
 rw [<-hvn, <-hdom, <-hcn, <-hon, <-hfl] at hmb
 obtain⟨R,hR⟩:∃R,R=(A.zD.take c.threads.length).map (·.regs):=⟨_,rfl⟩
 have hRl:R.length=cn:=by rw [hR,List.length_map,List.length_take,hW.ok.zD];omega
 have hRj:∀j,j<cn->R.getD j default=(A.th j).regs:=λj hj=>by
  rw [hR,List.getD_eq_getElem?_getD,List.getElem?_map,List.getElem?_take_of_lt (by rw [<-hcn];exact hj),za.th,List.getD_eq_getElem?_getD,List.getElem?_eq_getElem (by rw [hW.ok.zD];omega)];rfl
 have hR4:∀j,j<R.length->(R.getD j default).length=4:=λj hj=>by
  rw [hRj j (by omega)];exact(za.yu hW.ok (by omega)).regs
 have hfin:vD c A=⟨A.mem.take vn,R⟩:=by rw [hR];unfold vD;rw [show c.vars.toNat=vn by omega]
 have hmem:=hW.zjZ zq7
 have hml:(A.mem.take vn).length=vn:=by rw [List.length_take,hW.ok.mem];omega
 obtain⟨mem,hmm⟩:∃l,l=A.mem.take vn:=⟨_,rfl⟩
 rw [<-hmm] at hfin hmem hml
 rw [hfin]
 have zmU:=qh hmem
 have HML:=qh hml
 have gF:=qh hRl
 have HRJ:=qh hRj
 have HR4:=qh hR4
 rw [<-hcn, <-hon] at hM
 have HM:=qh hM
 have HMB:=qh hmb
 have HW:=qh hW
 have uw:=qh hon
 have HFL:=qh hfl
 rw [<-hon] at hout ⊢
 rw [<-hcn]
 clear hR hRl hRj hR4 hfin hmem hml hM hmb hW hcn hvn hdom hon hfl hmm hv1 hv2
 go_enter Tryz.func44,Tryz.ntmps44
 go_upto_region 0 with fail
 have CC:Hid (∀x,Below w.heap.size w x->x.cell? ⟨mb,0,none⟩=some (.int .i64 (vn:Int))):=λx hx=>zk hx _ _ (ze HMB.out 0)
 go_cut [4] (λs4 w'=>∃(gf:Nat) (ja:Option Addr) (jc:Nat),s4= .pointer (some ⟨gf,0,none⟩)/\Hid (uo w w' gf (.slice ja vn jc) (.slice none 0 0) mem []))
 case first=>
  refine vP (S:=λx=>Below w.heap.size w x) (Below.refl _ _).drew (λ_=> ?_)
  obtain⟨V1,hV1⟩:∃V1,V1=w.drew:=⟨_,rfl⟩
  have hT0:Hid (Below w.heap.size w V1):=by rw [hV1];exact(Below.refl _ _).drew
  rw [<-hV1]
  clear hV1
  refine qwk 0 qwT (hT0.out) ?_
  refine qwk 1 qwT (hT0.out) ?_
  refine qwk 2 qwT (hT0.out) ?_
  refine qwk 3 qwT (hT0.out) ?_
  refine qwk 4 qwT (hT0.out) ?_
  refine qwk 5 qwT (hT0.out) ?_
  refine qwk 6 qwT (hT0.out) ?_
  refine qwk 7 CC.out (hT0.out) ?_
  refine qwk 8 qwT (hT0.out) ?_
  refine wpAnyH_ready (rs:= [9,11]) (by kernel_rfl) (by simp) ?_
  refine AllReadyH.cons rfl (λK hK=> ?_) (AllReadyH.cons rfl (λK hK=> ?_) AllReadyH.nil)
  ·skip
   go_simp
   refine(zaF V1 (.slice (some ⟨g,216,none⟩) vn 4) mem (zf.below uy.stays zmU.out (hT0.out)) (by rw [HML.out];omega)).mono ?_
   rintro e Yz1 ⟨⟨ja,jc,rfl,hrow⟩,hb, -⟩
   rw [HML.out] at hrow
   rw [HML.out]
   have zoV:=qh (zcm hrow (hT0.out).size)
   have zgY:=qh (zn (hT0.out) hb)
   clear hrow hb
   refine hK.out _ _ zgY.out (λ_=> ?_)
   clear hK K
   refine qwk 10 qwT (zgY.out) ?_
   refine qG 11 rfl (λK hK=> ?_)
   go_simp
   have hz:=yG Yz1 (.cells #[.slice none 0 0, .slice none 0 0] 51)
   have hb:=zw Yz1 (.cells #[.slice none 0 0, .slice none 0 0] 51)
   have bW:Hid (w.heap.size<=Yz1.heap.size):=(zgY.out).size
   have zgZ:=qh (yV zoV.out hb)
   have zha:=qh (zn (zgY.out) hb)
   clear hb
   refine hK.out _ _ zha.out (λ_=> ?_)
   obtain⟨jf,hgf⟩:∃q,q=Yz1.heap.size:=⟨_,rfl⟩
   rw [<-hgf] at hz bW ⊢
   clear hgf
   generalize World.alloc Yz1 _=Yz3 at hz zha zgZ ⊢
   have zb7:=qh hz
   clear hz
   clear hK K
   refine qG 12 rfl (λK hK=> ?_)
   have d0:=ze zb7.out 0
   have d1:=ze zb7.out 1
   have f0:=yD zb7.out 0
   have f1:=yD zb7.out 1
   have hs9:Since (λk=>k=jf) Yz3 ((Yz3.setCell ⟨jf,0,none⟩ (.slice ja vn jc)).setCell ⟨jf,1,none⟩ (.slice none 0 0)):=Since.setCell (F:=λk=>k=jf) (p:=⟨jf,1,none⟩) (Since.setCell (F:=λk=>k=jf) (p:=⟨jf,0,none⟩) (Since.refl _ _) (.inl rfl) _) (.inl rfl) _
   have bX:=(zha.out).trans (hs9.below (zha.out).size (λk hk=>by have hk:k=jf:=hk;have:=bW.out;omega))
   have hz9:=zq (zq zb7.out 0 (.slice ja vn jc)) 1 (.slice none 0 0)
   simp only [List.setIfInBounds_toArray,List.set_cons_zero,List.set_cons_succ] at hz9
   have hr9:=hs9.row zgZ.out (λk hk e=>yX zgZ.out zb7.out (by decide) k hk e)
   have HO9:Hid (uo w _ jf (.slice ja vn jc) (.slice none 0 0) mem []):=⟨bX,bW.out,hz9,(by rw [HML.out];exact hr9),World.ownsRow_nil _ _ _ _⟩
   clear hs9 hz9 hr9
   go_simp
   refine hK.out _ _ bX (λ_=> ?_)
   clear d0 d1 f0 f1 bX
   generalize World.setCell (World.setCell Yz3 _ _) _ _=Y9 at HO9 ⊢
   clear hK K
   refine vK ?_
   go_wp2_with fail
   go_meet
   case rel=>exact⟨jf,ja,jc,rfl,HO9.out⟩
  skip
  go_simp
  have hz:=yG V1 (.cells #[.slice none 0 0, .slice none 0 0] 51)
  have hb:=zw V1 (.cells #[.slice none 0 0, .slice none 0 0] 51)
  have bW:Hid (w.heap.size<=V1.heap.size):=(hT0.out).size
  have zey:=qh (zn (hT0.out) hb)
  clear hb
  refine hK.out _ _ zey.out (λ_=> ?_)
  obtain⟨jf,hgf⟩:∃q,q=V1.heap.size:=⟨_,rfl⟩
  rw [<-hgf] at hz bW ⊢
  clear hgf
  generalize World.alloc V1 _=Yz5 at hz zey ⊢
  have zlo:=qh hz
  clear hz
  clear hK K
  refine qG 9 rfl (λK hK=> ?_)
  go_simp
  refine(zaF Yz5 (.slice (some ⟨g,216,none⟩) vn 4) mem (zf.below uy.stays zmU.out (zey.out)) (by rw [HML.out];omega)).mono ?_
  rintro e Yz7 ⟨⟨ja,jc,rfl,hrow⟩,hb, -⟩
  rw [HML.out] at hrow
  rw [HML.out]
  have zb8:=qh ((hb.block jf (zI zlo.out)).trans zlo.out)
  have zlp:=qh (zcm hrow (zey.out).size)
  have zhb:=qh (zn (zey.out) hb)
  clear hrow hb
  refine hK.out _ _ zhb.out (λ_=> ?_)
  clear hK K
  refine qwk 10 qwT (zhb.out) ?_
  refine qG 12 rfl (λK hK=> ?_)
  have d0:=ze zb8.out 0
  have d1:=ze zb8.out 1
  have f0:=yD zb8.out 0
  have f1:=yD zb8.out 1
  have hs9:Since (λk=>k=jf) Yz7 ((Yz7.setCell ⟨jf,0,none⟩ (.slice ja vn jc)).setCell ⟨jf,1,none⟩ (.slice none 0 0)):=Since.setCell (F:=λk=>k=jf) (p:=⟨jf,1,none⟩) (Since.setCell (F:=λk=>k=jf) (p:=⟨jf,0,none⟩) (Since.refl _ _) (.inl rfl) _) (.inl rfl) _
  have bX:=(zhb.out).trans (hs9.below (zhb.out).size (λk hk=>by have hk:k=jf:=hk;have:=bW.out;omega))
  have hz9:=zq (zq zb8.out 0 (.slice ja vn jc)) 1 (.slice none 0 0)
  simp only [List.setIfInBounds_toArray,List.set_cons_zero,List.set_cons_succ] at hz9
  have hr9:=hs9.row zlp.out (λk hk e=>yX zlp.out zb8.out (by decide) k hk e)
  have HO9:Hid (uo w _ jf (.slice ja vn jc) (.slice none 0 0) mem []):=⟨bX,bW.out,hz9,(by rw [HML.out];exact hr9),World.ownsRow_nil _ _ _ _⟩
  clear hs9 hz9 hr9
  go_simp
  refine hK.out _ _ bX (λ_=> ?_)
  clear d0 d1 f0 f1 bX
  generalize World.setCell (World.setCell Yz7 _ _) _ _=Y9 at HO9 ⊢
  clear hK K
  refine vK ?_
  go_wp2_with fail
  go_meet
  case rel=>exact⟨jf,ja,jc,rfl,HO9.out⟩
 case rest=>
 obtain⟨gf,ja,jc,rfl,HO⟩:=hcut
 obtain⟨X0,rfl⟩:∃Y:World,Y=wc:=⟨_,rfl⟩
 clear CC
 have c2:=zk HO.out.below _ _ (ze HMB.out 2)
 go_wp2_with fail
 go_loopg [23] cn (λgg s23 wr=>∃(i:Nat) (ra:Option Addr) (rc:Nat),i<=cn/\Hid (gg=cn - i)/\s23= .int .i64 i/\Hid (uo w wr gf (.slice ja vn jc) (.slice ra i rc) mem (R.take i)))
 case atStart=>exact⟨0,none,0,Nat.zero_le _,rfl,rfl,HO.out⟩
 case round=>
 obtain⟨i,ra,rc,hi,HG,rfl,kL⟩:=hrel
 obtain⟨wo,rfl⟩:∃wo:World,wo=wr:=⟨_,rfl⟩
 by_cases hlt:i<cn
 ·have qK:(i:Int)<(cn:Int):=by omega
  have hi4:i<4:=by omega
  have hiI:(i:Int)<4:=by omega
  have hwo:=HW.out.later kL.out.below
  have g0:=hwo.reg hi4 (k:=0) (by omega)
  have g1:=hwo.reg hi4 (k:=1) (by omega)
  have g2:=hwo.reg hi4 (k:=2) (by omega)
  have g3:=hwo.reg hi4 (k:=3) (by omega)
  have hrj:=HRJ.out i hlt
  have hr4:=HR4.out i (by rw [gF.out];exact hlt)
  have htk:R.take (i+1)=R.take i++ [R.getD i default] :=by
   have h:i<R.length:=by rw [gF.out];exact hlt
   rw [List.take_succ_eq_append_getElem h,List.getD_eq_getElem?_getD,List.getElem?_eq_getElem h];rfl
  rw [show(A.zD.getD i default).regs=R.getD i default from hrj.symm] at g0 g1 g2 g3
  obtain⟨q0,q1,q2,q3,hq⟩:=bY hr4
  rw [hq] at g0 g1 g2 g3 htk
  simp only [List.getD_cons_zero,List.getD_cons_succ] at g0 g1 g2 g3
  have hlr:(R.take i).length=i:=by rw [List.length_take,gF.out];omega
  have HTK:=qh htk
  have HLR:=qh hlr
  clear hrj hr4 htk hq hlr hwo
  go_upto_region 4 with fail
  have C4:Hid (∀y,Below wo.heap.size wo y->y.cell? ⟨gf,1,none⟩=some (.slice ra i rc)/\y.cell? ⟨g,i*54+1,none⟩=some (.int .i64 q0)/\y.cell? ⟨g,i*54+1+1,none⟩=some (.int .i64 q1)/\y.cell? ⟨g,i*54+1+2,none⟩=some (.int .i64 q2)/\y.cell? ⟨g,i*54+1+3,none⟩=some (.int .i64 q3)):=λy hy=>
   ⟨zk hy _ _ (ze kL.out.box 1),zk hy _ _ g0,zk hy _ _ g1,zk hy _ _ g2,zk hy _ _ g3⟩
  clear g0 g1 g2 g3
  refine wp_region_noPanic ?_
  refine yM (n0:=10) (S:=λx=>Below wo.heap.size wo x) (by kernel_rfl) ((Below.refl _ _).drew) (λbZ=> ?_)
  obtain⟨V4,hV4⟩:∃V1,V1=wo.drew:=⟨_,rfl⟩
  rw [<-hV4] at bZ ⊢
  clear hV4
  refine zT 0 (λ_=>bZ) ?_
  refine jR [10,11,12] 1 C4.out bZ ?_
  refine zT 2 (λ_=>bZ) ?_
  refine zT 3 (λ_=>bZ) ?_
  refine zT 4 (λ_=>bZ) ?_
  refine zT 5 (λ_=>bZ) ?_
  refine zT 6 (λ_=>bZ) ?_
  refine zT 7 (λ_=>bZ) ?_
  refine jR [9,10,11,12] 8 C4.out bZ ?_
  refine wM 9 rfl (λK hK=> ?_)
  go_simp
  have hb:=zw V4 (.cells #[.int .i64 q0, .int .i64 q1, .int .i64 q2, .int .i64 q3] 59)
  have hoi:=kL.out.later bZ
  have HQA:Hid (∃o,V4.alloc (.cells #[.int .i64 q0, .int .i64 q1, .int .i64 q2, .int .i64 q3] 59)=V4.alloc o):=⟨_,rfl⟩
  obtain⟨gq,hgq⟩:∃n,n=V4.heap.size:=⟨_,rfl⟩
  have HQB:=qh (kW V4 [.int .i64 q0, .int .i64 q1, .int .i64 q2, .int .i64 q3] 59)
  rw [<-hgq] at HQB ⊢
  clear hgq
  have hrw:=yV hoi.zaD hb
  rw [HLR.out] at hrw
  have HRW:=qh hrw
  have kM:=qh hoi
  have HSZ:Hid (w.heap.size<=(V4.alloc (.cells #[.int .i64 q0, .int .i64 q1, .int .i64 q2, .int .i64 q3] 59)).heap.size):=Nat.le_trans hoi.below.size hb.size
  clear hrw hoi
  generalize World.alloc V4 _=yw9 at hb HQA HQB HRW HSZ ⊢
  have zq8:Below wo.heap.size wo yw9:=zn bZ hb
  refine hK.out _ _ (λ_ _=>zq8) ?_
  clear hK K hb bZ
  refine wM 10 rfl (λK hK=> ?_)
  refine vQ yw9 (by rfl) (.tmp 27) (.tmp 35) 49 rfl 59 (.agg #[.int .i64 0, .int .i64 0, .int .i64 0, .int .i64 0]) 4 32 Tryz.underlying49 zir rfl (by decide) w.heap.size (.slice ra i rc) i (zm zb6 (R.take i)) (by rfl) HRW.out ⟨gq,0,none⟩ 1 1 [.int .i64 q0, .int .i64 q1, .int .i64 q2, .int .i64 q3] (by rfl) rfl HQB.out (by simp [Value.oneCell']) (by unfold maxLen;omega) (by omega) HSZ.out ?_
  intro ka kc ztl e1 e2 e3 e4 e5
  obtain⟨oo,hoo⟩:=HQA.out
  rw [hoo] at e4
  have HP:=qh (kM.out.push (x:= [q0,q1,q2,q3]) (by rw [HLR.out];exact e1) e4)
  have hbx:=zka kM.out.zaD kM.out.box (by decide) e4
  have k0:=ze hbx 1
  have z0:=yD hbx 1
  clear e1 e2 e3 e4 e5 hoo hbx
  refine hK.out _ _ (λh=>absurd rfl h) ?_
  clear hK K
  change yE _ _ _ _ _ _ _ _ (Act.put _ (some 36) _) _
  simp only [Act.put,qz1,qz2,qz3]
  refine zT 11 (λh=>absurd h (by decide+kernel)) ?_
  refine wM 12 rfl (λK hK=> ?_)
  go_simp
  refine hK.out _ _ (λ_ h=>absurd h (by decide+kernel)) ?_
  clear hK K
  refine xG (by kernel_rfl) ?_ _
  refine NoPanic.normal ?_
  clear k0 z0
  go_wp2_with fail
  go_roundg (cn - (i+1))
  case measure=>rw [HG.out];omega
  case rel=>exact⟨i+1,ka,kc,by omega,rfl,by simp,by rw [Hid,HTK.out];exact HP.out⟩
 obtain rfl:cn=i:=by omega
 have hRt:R.take cn=R:=List.take_of_length_le (by rw [gF.out];omega)
 rw [hRt] at kL
 clear hRt
 have HMO:=qh (HM.out.later kL.out.below)
 have zq9:=qh ((kL.out.below.block _ (zI HMB.out)).trans HMB.out)
 have C6:Hid (∀y,Below wo.heap.size wo y->y.cell? ⟨mb,5,none⟩=some (.slice oa on oc)/\y.cell? ⟨gf,0,none⟩=some (.slice ja vn jc)/\y.cell? ⟨gf,1,none⟩=some (.slice ra cn rc)):=λy hy=>
  ⟨zk hy _ _ (ze zq9.out 5),zk hy _ _ (ze kL.out.box 0),zk hy _ _ (ze kL.out.box 1)⟩
 have qw:=qh (show wo.ownsRow V.heap.size 51 2 (.slice oa on oc) on css.flatten by have:=HMO.out.outs.row;rw [<-uw.out] at this;exact this)
 go_upto_region 6 with fail
 refine wp_region_noPanic ?_
 refine yM (n0:=7) (S:=λx=>Below wo.heap.size wo x) (by kernel_rfl) ((Below.refl _ _).drew) (λpq=> ?_)
 obtain⟨V6,hV6⟩:∃V1,V1=wo.drew:=⟨_,rfl⟩
 rw [<-hV6] at pq ⊢
 clear hV6
 refine zT 0 (λ_=>pq) ?_
 refine zT 1 (λ_=>pq) ?_
 refine zT 2 (λ_=>pq) ?_
 refine zT 3 (λ_=>pq) ?_
 refine jR [7,8,9,10] 4 C6.out pq ?_
 refine jR [6,7,8,9,10] 5 C6.out pq ?_
 refine wM 6 rfl (λK hK=> ?_)
 go_simp
 have hb:=zw V6 (.cells #[.slice ja vn jc, .slice ra cn rc] 51)
 have hoi:=kL.out.later pq
 have hmi:=HMO.out.later pq
 have HQA:Hid (∃o,V6.alloc (.cells #[.slice ja vn jc, .slice ra cn rc] 51)=V6.alloc o):=⟨_,rfl⟩
 obtain⟨gq,hgq⟩:∃n,n=V6.heap.size:=⟨_,rfl⟩
 have HQB:=qh (kW V6 [.slice ja vn jc, .slice ra cn rc] 51)
 rw [<-hgq] at HQB ⊢
 clear hgq
 have kM:=qh (hoi.later hb)
 have HMX:=qh (hmi.later hb)
 have HRW:=qh (yV (yV qw.out pq) hb)
 have pz:Hid (Below wo.heap.size wo (V6.alloc (.cells #[.slice ja vn jc, .slice ra cn rc] 51))):=zn pq hb
 clear hoi hmi
 generalize World.alloc V6 _=xw6 at hb HQA HQB kM HMX HRW pz ⊢
 have zqA:Below wo.heap.size wo xw6:=zn pq hb
 refine hK.out _ _ (λ_ _=>zqA) ?_
 clear hK K hb pq
 refine wM 7 rfl (λK hK=> ?_)
 refine vQ xw6 (by rfl) (.tmp 43) (.tmp 45) 27 rfl 51 (.agg #[.slice none 0 0, .slice none 0 0]) 2 48 Tryz.underlying27 zeh rfl (by decide) V.heap.size (.slice oa on oc) on css.flatten (by rfl) HRW.out ⟨gq,0,none⟩ 1 1 [.slice ja vn jc, .slice ra cn rc] (by rfl) rfl HQB.out (by simp [Value.oneCell']) (by unfold maxLen;omega) (by omega) HMX.out.base.size ?_
 intro ka kc xw7 e1 e2 e3 e4 e5
 have E1:=qh e1
 have E4:=qh e4
 have E5:=qh e5
 have hbx:=(e4.block _ (zI HMX.out.blk) (λe=>yX HRW.out HMX.out.blk (by decide) _ e rfl)).trans HMX.out.blk
 have gG:=qh hbx
 have k0:=ze hbx 5
 have z0:=yD hbx 5
 clear e1 e2 e3 e4 e5 hbx
 refine hK.out _ _ (λh=>absurd rfl h) ?_
 clear hK K
 change yE _ _ _ _ _ _ _ _ (Act.put _ (some 46) _) _
 simp only [Act.put,qz1,qz2,qz3]
 refine zT 8 (λh=>absurd h (by decide+kernel)) ?_
 refine zT 9 (λh=>absurd h (by decide+kernel)) ?_
 refine wM 10 rfl (λK hK=> ?_)
 go_simp
 refine hK.out _ _ (λ_ h=>absurd h (by decide+kernel)) ?_
 clear hK K
 refine xG (by kernel_rfl) ?_ _
 refine NoPanic.normal ?_
 clear k0 z0
 have hpush:=HMX.out.push (x:=⟨mem,R⟩) (cs:= [.slice ja vn jc, .slice ra cn rc]) (zil kM.out HR4.out) rfl (by rw [<-uw.out];exact E1.out) E4.out
 have zem:=qh hpush
 have HSZ:Hid (Since (λk=>k=mb\/(Value.slice oa on oc).ownBlock=some k) w (xw7.setCell ⟨mb,5,none⟩ (.slice ka (on+1) kc))):=Since.setCell (F:=λk=>k=mb\/(Value.slice oa on oc).ownBlock=some k) (p:=⟨mb,5,none⟩) (Since.trans (zA _ (zn kL.out.below pz.out)) E4.out (λk hk=> .inl (.inr hk))) (.inl (.inl rfl)) _
 have zL:Hid (∀k,(Value.slice ka (on+1) kc).ownBlock=some k->(Value.slice oa on oc).ownBlock=some k\/w.heap.size<=k):=λk hk=>by
  rcases E5.out k hk with e|e
  ·exact .inl e
  exact .inr (by rw [e];exact(zn kL.out.below pz.out).size)
 have hwz:=HW.out.since HSZ.out (λe=>e.elim (λe=>HM.out.zah HW.out e.symm) (λe=>HM.out.zc4 HW.out e))
 clear hpush
 generalize World.setCell xw7 _ _=Z at zem HSZ hwz ⊢
 have z0:=ze zem.out.blk 6
 have z1:=yD zem.out.blk 6
 have z2:=hwz.fails
 have z3:Z.cell? ⟨mb,6,none⟩=some (.bool fl):=by rw [HFL.out];exact z0
 clear z0 hwz
 have vJ:Hid (∀b,b=(s.fails||A.fails)->zik V w mb sm nn c (.slice ta cn tc) d model (.slice oa on oc) ⟨s.seen,s.out++ [⟨mem,R⟩],s.fails||A.fails⟩ (.returned (.tuple #[])) (Z.setCell ⟨mb,6,none⟩ (.bool b))):=λb hb=>by
  have:=zem.out.qo b
  rw [hb] at this ⊢
  exact⟨rfl,_,_,this,Since.setCell (F:=λk=>k=mb\/(Value.slice oa on oc).ownBlock=some k) (p:=⟨mb,6,none⟩) HSZ.out (.inl (.inl rfl)) _,zL.out⟩
 obtain⟨af,haf⟩:∃b,b=A.fails:=⟨_,rfl⟩
 rw [<-haf] at z2
 have HAF:=qh haf
 clear haf
 cases fl with
 |true=>
  go_wp2_with fail
  (try simp only [Exit.inBlock,Exit.then]);(try rw [Exit.noGoto_normal]);first|refine bodyPost_end (results_none rfl _ _ _) rfl ?_|refine bodyPost_ret (results_none rfl _ _ _) rfl ?_
  exact vJ.out true (by rw [<-HFL.out];rfl)
 |false=>
 go_wp2_with fail
 (try simp only [Exit.inBlock,Exit.then]);(try rw [Exit.noGoto_normal]);first|refine bodyPost_end (results_none rfl _ _ _) rfl ?_|refine bodyPost_ret (results_none rfl _ _ _) rfl ?_
 exact vJ.out af (by rw [<-HFL.out,HAF.out];rfl)
