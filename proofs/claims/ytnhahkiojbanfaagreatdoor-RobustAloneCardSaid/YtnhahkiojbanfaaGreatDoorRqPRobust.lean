/- Steps. -/
import Derived.Test.YtnhahkiojbanfaaGreatDoorRqPRev
import Derived.Test.YtnhahkiojbanfaaGreatDoorRqPSpace
set_option linter.all false
namespace Go.Proofs.YtnhahkiojbanfaaGreatDoor
open Go.RowKit
set_option maxRecDepth 100000
set_option maxHeartbeats 16000000
theorem zgb (W:World):(zeroValue 64).run Tryz.prog W= .ok (.agg #[]) W:=by
 obtain⟨i,hi,hz, -⟩:=info_parts (show(Tryz.prog.info? 64).map (λi=>(i.zero,i.size,i.bytes))=some (some (.agg #[]),0,0) by kernel_rfl)
 simp [zeroValue,typeInfo,hi,hz]
theorem kE (w:World) (c:zx) (cv:Value) (d:Nat) (hc:yS d w cv c.threads) (m:zu) (room:Int):Calls Tryz.prog 9 #[xW c cv,vZ m, .int .i64 room] w (zin w (yD c m room d)):=by
 obtain⟨ca,cc,rfl, -⟩:=zh.slice hc
 have hex:=λy hy=>zc4 y c (.slice ca c.threads.length cc) d hy m room
 have hsc:=λy hy=>zc4 y c (.slice ca c.threads.length cc) d hy jf room
 have hrf:=zvT c m room d
 have hf1:∀S,zV c m room d=(S,0)->ziA c m S:=λS h=>zrw h
 have hf2:∀S,zV c jf room d=(S,0)->ziA c jf S:=λS h=>zrw h
 obtain⟨R,hR⟩:∃R,R=yD c m room d:=⟨_,rfl⟩
 rw [<-hR] at hrf ⊢
 clear hR
 obtain⟨E1,hE1⟩:∃E,E=zV c m room d:=⟨_,rfl⟩
 obtain⟨E2,hE2⟩:∃E,E=zV c jf room d:=⟨_,rfl⟩
 rw [<-hE1] at hex hrf hf1
 rw [<-hE2] at hsc hrf hf2
 clear hE1 hE2
 obtain⟨S,e1⟩:=E1
 obtain⟨T,e2⟩:=E2
 dsimp only at hrf
 have hf3:e1=0->ziA c m S:=λh=>hf1 S (by rw [h])
 have hf4:e2=0->ziA c jf T:=λh=>hf2 T (by rw [h])
 clear hf1 hf2
 obtain⟨C,hC⟩:∃C,C=c:=⟨_,rfl⟩
 obtain⟨M,hM⟩:∃M,M=m:=⟨_,rfl⟩
 rw [<-hC] at hf4
 rw [<-hC, <-hM] at hf3
 obtain⟨vars,dom,cs⟩:=c
 obtain⟨mo,bo⟩:=m
 unfold xW vZ at hex hsc
 unfold jf at hsc
 unfold xW vZ
 dsimp only at hc hex hsc ⊢
 clear hC hM
 generalize cs.length=cn at hc hex hsc ⊢
 obtain⟨n1,hn1⟩:∃n,n=S.states.length:=⟨_,rfl⟩
 obtain⟨n2,hn2⟩:∃n,n=S.moves.length:=⟨_,rfl⟩
 obtain⟨n3,hn3⟩:∃n,n=S.next.length:=⟨_,rfl⟩
 obtain⟨k1,hk1⟩:∃n,n=T.states.length:=⟨_,rfl⟩
 obtain⟨k2,hk2⟩:∃n,n=T.moves.length:=⟨_,rfl⟩
 obtain⟨k3,hk3⟩:∃n,n=T.next.length:=⟨_,rfl⟩
 have HX1:Hid (∀y,yS d y (.slice ca cn cc) cs->Calls Tryz.prog 19 #[.agg #[.int .i64 vars, .int .i64 dom, .slice ca cn cc], .agg #[.int .i64 mo, .int .i64 bo], .int .i64 room] y (zlJ S e1 n1 n2 n3 y)):=λy hy=>(hex y hy).mono λ_ _ h=>ziB rfl hn1 hn2 hn3 h
 have HX2:Hid (∀y,yS d y (.slice ca cn cc) cs->Calls Tryz.prog 19 #[.agg #[.int .i64 vars, .int .i64 dom, .slice ca cn cc], .agg #[.int .i64 0, .int .i64 1], .int .i64 room] y (zlJ T e2 k1 k2 k3 y)):=λy hy=>(hsc y hy).mono λ_ _ h=>ziB rfl hk1 hk2 hk3 h
 obtain⟨W,hW⟩:∃W,W=(w.alloc (.cells #[.int .i64 vars, .int .i64 dom, .slice ca cn cc] 26)).alloc (.cells #[.int .i64 mo, .int .i64 bo] 29):=⟨_,rfl⟩
 have h1:W.heap[w.heap.size]? =some (.cells #[.int .i64 vars, .int .i64 dom, .slice ca cn cc] 26 (0,0)):=by rw [hW];exact xR _ _ _
 have h2:W.heap[w.heap.size+1]? =some (.cells #[.int .i64 mo, .int .i64 bo] 29 (0,0)):=by rw [hW];exact yT _ _ _
 have hB:Below w.heap.size w W:=by rw [hW];exact xQ _ _ _
 have hcw:=zh.below (qU.stays d) hc hB
 have HW:=qh hW
 have H1:=qh h1
 have H2:=qh h2
 have HB:=qh hB
 have HCW:=qh hcw
 have HRF:=qh hrf
 have HF3:=qh hf3
 have HF4:=qh hf4
 have HN1:=qh hn1
 have HN2:=qh hn2
 have HN3:=qh hn3
 have HK1:=qh hk1
 have HK2:=qh hk2
 have HK3:=qh hk3
 clear hc hex hsc hrf hf3 hf4 hW h1 h2 hB hcw hn1 hn2 hn3 hk1 hk2 hk3
 go_enter Tryz.func9,Tryz.ntmps9
 go_upto_region 1 with fail
 rw [<-HW.out]
 clear HW
 obtain⟨gx,hgx⟩:∃g,g=w.heap.size:=⟨_,rfl⟩
 rw [<-hgx] at H1 H2 ⊢
 clear hgx
 have CX:Hid (∀y,Below W.heap.size W y->(y.cell? ⟨gx,0,none⟩=some (.int .i64 vars)/\y.cell? ⟨gx,1,none⟩=some (.int .i64 dom)/\y.cell? ⟨gx,2,none⟩=some (.slice ca cn cc))/\y.cell? ⟨gx+1,0,none⟩=some (.int .i64 mo)/\y.cell? ⟨gx+1,1,none⟩=some (.int .i64 bo)):=λy hy=>⟨⟨zk hy _ _ (ze H1.out 0),zk hy _ _ (ze H1.out 1),zk hy _ _ (ze H1.out 2)⟩,zk hy _ _ (ze H2.out 0),zk hy _ _ (ze H2.out 1)⟩
 have CR:Hid (∀y,Below W.heap.size W y->yS d y (.slice ca cn cc) cs):=λy hy=>zh.below (qU.stays d) HCW.out hy
 clear H1 H2 HCW
 obtain⟨⟨z0,z1,z2⟩,x0,x1⟩:=CX.out W (Below.refl _ _)
 go_upto_region 2 with(go_at_call 19;go_must(refine(HX1.out W (CR.out W (Below.refl _ _))).mono ?_);rintro e W1 ⟨⟨a1,a2,a3,c1,c2,c3,rfl,hs⟩,hb⟩;(have HSP:=qh hs);(have yH:=qh hb);clear hs hb)
 have hz:=zS W1 (.cells #[.slice a1 n1 c1, .slice a2 n2 c2, .slice a3 n3 c3] 49)
 have ha:=(Below.refl W1.heap.size W1).alloc (Nat.le_refl _) (.cells #[.slice a1 n1 c1, .slice a2 n2 c2, .slice a3 n3 c3] 49)
 have HS:=qh (HSP.out.below ha)
 have HR1:=qh (zM yH.out ha)
 have HZ:=qh hz
 clear hz ha yH HSP HX1 z0 z1 z2 x0 x1
 generalize World.alloc W1 _=X1 at HZ HS HR1 ⊢
 generalize W1.heap.size=gs at HZ ⊢
 by_cases he1:e1=0
 rotate_left
 ·have hr:=HRF.out.one he1
  have hne:(e1 !=0)=true:=by simpa using he1
  have zL:=qh (zbR (b:=false) (k:=e1) hr (HB.out.trans (HR1.out.mono HB.out.size)))
  clear hr
  go_wp2_with fail
  go_ret3
  exact zL.out
 subst he1
 have CS:Hid (∀y,Below X1.heap.size X1 y->y.cell? ⟨gs,0,none⟩=some (.slice a1 n1 c1)/\y.cell? ⟨gs,1,none⟩=some (.slice a2 n2 c2)/\y.cell? ⟨gs,2,none⟩=some (.slice a3 n3 c3)):=λy hy=>⟨zk hy _ _ (ze HZ.out 0),zk hy _ _ (ze HZ.out 1),zk hy _ _ (ze HZ.out 2)⟩
 clear HZ
 obtain⟨⟨z0,z1,z2⟩, -, -⟩:=CX.out X1 HR1.out
 have HRW:=qh (CR.out X1 HR1.out)
 go_upto_region 5 with(go_at_call 19;go_must(refine(HX2.out X1 HRW.out).mono ?_);rintro e W4 ⟨⟨b1,b2,b3,d1,d2,d3,rfl,hs⟩,hb⟩;(have HSP:=qh hs);(have yH:=qh hb);clear hs hb)
 have hz:=zS W4 (.cells #[.slice b1 k1 d1, .slice b2 k2 d2, .slice b3 k3 d3] 49)
 have ha:=(Below.refl W4.heap.size W4).alloc (Nat.le_refl _) (.cells #[.slice b1 k1 d1, .slice b2 k2 d2, .slice b3 k3 d3] 49)
 have HT:=qh (HSP.out.below ha)
 have HR4:=qh (zM yH.out ha)
 have HZ:=qh hz
 clear hz ha yH HSP HX2 HRW z0 z1 z2
 generalize World.alloc W4 _=X4 at HZ HT HR4 ⊢
 generalize W4.heap.size=gt at HZ ⊢
 have xM:=qh (HB.out.trans ((zM HR1.out HR4.out).mono HB.out.size))
 by_cases he2:e2=0
 rotate_left
 ·have hr:=HRF.out.two rfl he2
  have hne:(e2 !=0)=true:=by simpa using he2
  have zL:=qh (zbR (b:=false) (k:=e2) hr xM.out)
  clear hr
  go_wp2_with fail
  go_ret3
  exact zL.out
 subst he2
 have F1:=HF3.out (by first|rfl|trivial)
 have F2:=HF4.out (by first|rfl|trivial)
 have hodd:=HRF.out.odd rfl rfl
 have hnone:=HRF.out.none rfl rfl
 clear HF3 HF4 HRF
 obtain rfl:n2=n1:=by rw [HN2.out,HN1.out];exact F1.mvs
 obtain rfl:n3=n2:=by rw [HN3.out,HN1.out];exact F1.nxt
 obtain⟨n,rfl⟩:∃n,n=n3:=⟨_,rfl⟩
 obtain rfl:k2=k1:=by rw [HK2.out,HK1.out];exact F2.mvs
 obtain rfl:k3=k2:=by rw [HK3.out,HK1.out];exact F2.nxt
 obtain⟨k,rfl⟩:∃n,n=k3:=⟨_,rfl⟩
 clear HN2 HN3 HK2 HK3
 have hpn:0<n:=by rw [HN1.out];exact F1.pos
 have hn63:n<=100000:=by rw [HN1.out];exact F1.few
 have z0P:k<=100000:=by rw [HK1.out];exact F2.few
 have hpk:0<k:=by rw [HK1.out];exact F2.pos
 have CT:Hid (∀y,Below X4.heap.size X4 y->(y.cell? ⟨gs,0,none⟩=some (.slice a1 n c1)/\y.cell? ⟨gs,1,none⟩=some (.slice a2 n c2)/\y.cell? ⟨gs,2,none⟩=some (.slice a3 n c3))/\y.cell? ⟨gt,0,none⟩=some (.slice b1 k d1)/\y.cell? ⟨gt,1,none⟩=some (.slice b2 k d2)/\y.cell? ⟨gt,2,none⟩=some (.slice b3 k d3)):=λy hy=>⟨CS.out y (zM HR4.out hy),zk hy _ _ (ze HZ.out 0),zk hy _ _ (ze HZ.out 1),zk hy _ _ (ze HZ.out 2)⟩
 have HS4:=qh (HS.out.below HR4.out)
 clear HZ CS HS
 obtain⟨sb,so,rfl,hps⟩:=zkv HS4.out.1 (by rw [<-HN1.out];exact hpn)
 rw [<-HN1.out] at hps
 have HPS:=qh hps
 clear hps
 rw [<-HN1.out] at hodd hnone
 have zuA:=qh hodd
 have zrx:=qh hnone
 have HF1:=qh F1
 have HF2:=qh F2
 clear hodd hnone F1 F2
 have HTR:Hid (∀i,i<n->∀y,Below X4.heap.size X4 y->Calls Tryz.prog 22 #[.agg #[.slice (some ⟨sb,so,none⟩) n c1, .slice a2 n c2, .slice a3 n c3], .int .i64 (i:Int)] y (ziC y (xV S i (i:Int)).reverse)):=λi hi y hy=>zlK y S _ _ _ (HS4.out.below hy) HF1.out.mvs HF1.out.nxt i (by rw [<-HN1.out];exact hi) (Nat.le_trans HF1.out.few (by omega))
 obtain⟨tb2,to2,rfl,hpt⟩:=zkv HT.out.1 (by rw [<-HK1.out];exact hpk)
 rw [<-HK1.out] at hpt
 have HPT:=qh hpt
 clear hpt
 have HK0:Hid (∀j,j<k->zP C jf (T.states.getD j default)=true):=λj hj=>HF2.out.fits _ (yC (by rw [<-HK1.out];exact hj))
 have HF0:Hid (∀j,j<n->zP C M (S.states.getD j default)=true):=λj hj=>HF1.out.fits _ (yC (by rw [<-HN1.out];exact hj))
 obtain⟨⟨p0,p1,p2⟩,t0,t1,t2⟩:=CT.out X4 (Below.refl _ _)
 have hmm:= @run_makeMap Tryz.prog
 go_upto_region 8 with fail
 clear hmm
 have hmn:=vD.new X4 (.agg #[])
 have hma:Below X4.heap.size X4 (X4.alloc (.map #[] 0)):=(Below.refl _ _).alloc (Nat.le_refl _) _
 obtain⟨mb,hmb⟩:∃b,b=X4.heap.size:=⟨_,rfl⟩
 rw [<-hmb] at hmn ⊢
 have bI:=qh hmn
 have HMA:=qh hma
 have HMB:=qh hmb
 clear hmn hma hmb p0 p1 p2 t0 t1 t2
 generalize World.alloc X4 _=X7 at bI HMA ⊢
 obtain⟨⟨p0,p1,p2⟩,t0,t1,t2⟩:=CT.out X7 HMA.out
 go_upto_block 0 with fail
 clear p0 p1 p2
 go_cut [12] (λs12 w'=>s12= .map (some mb)/\∃ks:List ByteArray,Hid (vD w' mb (.agg #[]) ks)/\Hid (∀b,b∈ks↔∃j,j<k/\b=keyOf (xK (T.states.getD j default)))/\Hid (Below X4.heap.size X4 w'))
 case first=>
  go_wp2_with fail
  go_loopg [43] k (λgg s43 wr=>∃(j:Nat) (ks:List ByteArray),j<=k/\Hid (gg=k - j)/\s43= .int .i64 j/\Hid (vD wr mb (.agg #[]) ks)/\Hid (∀b,b∈ks↔∃q,q<j/\b=keyOf (xK (T.states.getD q default)))/\Hid (Below X4.heap.size X4 wr))
  case atStart=>exact⟨0, [],Nat.zero_le _,rfl,rfl,bI.out,λb=>⟨λh=>absurd h (List.not_mem_nil),λ⟨q,hq,_⟩=>absurd hq (Nat.not_lt_zero _)⟩,HMA.out⟩
  case round=>
  obtain⟨j,ks,hj,HG,rfl,HMS,HKS,zT⟩:=hrel
  obtain⟨wo,rfl⟩:∃X:World,X=wr:=⟨_,rfl⟩
  by_cases hlt:j<k
  rotate_left
  ·obtain rfl:j=k:=by omega
   go_wp2_with fail
   go_meet
   case rel=>exact⟨rfl,ks,HMS.out,HKS.out,zT.out⟩
  have vY:(j:Int)<(k:Int):=by omega
  obtain⟨s,hs⟩:∃s,s=T.states.getD j default:=⟨_,rfl⟩
  have hps:=HPT.out j hlt
  have hft:=HK0.out j hlt
  rw [<-hs] at hps hft
  obtain⟨bs,hbs⟩:∃b,b=s.bad:=⟨_,rfl⟩
  rw [<-hbs] at hps
  obtain⟨ua,ub,un,uc,uk,uf,hu⟩:=hps
  obtain⟨y0,y1,y2,hst⟩:=hu wo zT.out
  have hrg:=hst.qE
  have hal:Below wo.heap.size wo (wo.alloc (.cells #[.slice ua un uc, .slice ub uk uf, .bool bs] 42)):=(Below.refl _ _).alloc (Nat.le_refl _) _
  have hnew:=zS wo (.cells #[.slice ua un uc, .slice ub uk uf, .bool bs] 42)
  have hky:=zgE (wo.alloc (.cells #[.slice ua un uc, .slice ub uk uf, .bool bs] 42)) s _ _ _ _ _ _ bs (hst.below hal) (zdX hft hrg)
  obtain⟨key,hkey⟩:∃q,q=keyOf (xK s):=⟨_,rfl⟩
  rw [<-hkey] at hky
  have HAL:=qh hal
  have kI:=qh hnew
  have HKY:=qh hky
  have HKE:Hid (key=keyOf (xK (T.states.getD j default))):=by rw [Hid,hkey,hs]
  clear hal hnew hky hkey hs hbs hft hrg hst hu
  go_upto_region 11 with fail
  clear y0 y1 y2
  generalize World.alloc wo _=w2 at HAL kI HKY ⊢
  obtain⟨gq,hgq⟩:∃g,g=wo.heap.size:=⟨_,rfl⟩
  rw [<-hgq] at kI ⊢
  have HGQ:=qh hgq
  clear hgq
  have y0:=ze kI.out 0
  have y1:=ze kI.out 1
  have y2:=ze kI.out 2
  have HM2:=qh (HMS.out.below HAL.out)
  go_wp2_with(first|(go_at_call 20;go_must(refine(HKY.out).mono ?_);rintro e w3 ⟨rfl,hb⟩;(have HB3:=qh (zM HAL.out hb));(have HM3:=qh (HM2.out.below hb));clear hb)|(refine zcY _ rfl _ _ _ 63 rfl 9 64 Tryz.underlying63 Tryz.underlying9 mb (.agg #[]) ks rfl key rfl rfl HM3.out ?_;intro w4 g1 g2 g3;(have HM4:=qh g1);(have vU:Hid (Below X4.heap.size X4 w4):=(zM zT.out HB3.out).trans (g2.below (zM zT.out HB3.out).size (λq hq=>by have:=HMB.out;omega)));clear g1 g2 g3))
  have zxW:Hid (∀b,b∈zcZ ks key↔∃q,q<j+1/\b=keyOf (xK (T.states.getD q default))):=λb=>by
   rw [zpQ,HKS.out b]
   constructor
   ·rintro(⟨q,h1,h2⟩|rfl)
    ·exact⟨q,by omega,h2⟩
    exact⟨j,by omega,HKE.out⟩
   rintro⟨q,h1,h2⟩
   by_cases e:q=j
   ·subst e;exact .inr (h2.trans HKE.out.symm)
   exact .inl ⟨q,by omega,h2⟩
  go_roundg (k - (j+1))
  case measure=>rw [HG.out];omega
  case rel=>exact⟨j+1,zcZ ks key,by omega,rfl,by simp,HM4.out,zxW.out,vU.out⟩
 case rest=>
 obtain⟨rfl,ks,HMS,HKS,HB8⟩:=hcut
 obtain⟨X8,rfl⟩:∃X:World,X=wc:=⟨_,rfl⟩
 clear bI HMA
 have zxX:Hid (∀i,i<n->qE (S.states.getD i default)->jM ks (keyOf (xK (S.states.getD i default)))=ze6 T.states (S.states.getD i default)):=λi hi hr=>by
  have hiff:jM ks (keyOf (xK (S.states.getD i default)))=true↔ze6 T.states (S.states.getD i default)=true:=by
   rw [wL,HKS.out]
   unfold ze6
   rw [decide_eq_true_iff,List.mem_map]
   constructor
   ·rintro⟨q,h1,h2⟩
    obtain⟨_,_,_,_,_,_,hq⟩:=HPT.out q h1
    exact⟨_,yC (by rw [<-HK1.out];exact h1),(znF (HF0.out i hi) (HK0.out q h1) hr (hq X4 (Below.refl _ _)).2.2.2.qE h2).symm⟩
   rintro⟨t,h1,h2⟩
   obtain⟨q,hq,rfl⟩:=List.getElem_of_mem h1
   exact⟨q,by rw [HK1.out];exact hq,by rw [<-h2,List.getD_eq_getElem?_getD,List.getElem?_eq_getElem hq];rfl⟩
  cases h1:jM ks (keyOf (xK (S.states.getD i default)))<;>cases h2:ze6 T.states (S.states.getD i default)
  ·rfl
  ·rw [hiff.2 h2] at h1;cases h1
  ·rw [hiff.1 h1] at h2;cases h2
  rfl
 clear HKS HPT HK0
 obtain⟨⟨p0,p1,p2⟩, -⟩:=CT.out X8 HB8.out
 go_upto_block 2 with fail
 clear p0 p1 p2
 go_wp2_with fail
 go_loopg [55] n (λgg s55 wr=>∃i:Nat,i<=n/\Hid (gg=n - i)/\s55= .int .i64 i/\Hid (∀j,j<i->bU T.states (S.states.getD j default)=false)/\Hid (vD wr mb (.agg #[]) ks)/\Hid (Below X4.heap.size X4 wr))
 case atStart=>exact⟨0,Nat.zero_le _,rfl,rfl,λj hj=>absurd hj (Nat.not_lt_zero _),HMS.out,HB8.out⟩
 case round=>
 clear HMS
 obtain⟨i,hi,HG,rfl,HNO,HMS,zT⟩:=hrel
 obtain⟨wo,rfl⟩:∃X:World,X=wr:=⟨_,rfl⟩
 by_cases hlt:i<n
 rotate_left
 ·obtain rfl:i=n:=by omega
  have zL:=qh (zbR (b:=true) (k:=0) (zrx.out HNO.out) (xM.out.trans (zT.out.mono xM.out.size)))
  go_wp2_with fail
  go_ret3
  exact zL.out
 have vY:(i:Int)<(n:Int):=by omega
 obtain⟨s,hs⟩:∃s,s=S.states.getD i default:=⟨_,rfl⟩
 have hps:=HPS.out i hlt
 have hft:=HF0.out i hlt
 have hmet:=zxX.out i hlt
 rw [<-hs] at hps hft hmet
 obtain⟨bs,hbs⟩:∃b,b=s.bad:=⟨_,rfl⟩
 rw [<-hbs] at hps
 obtain⟨ua,ub,un,uc,uk,uf,hu⟩:=hps
 obtain⟨y0,y1,y2,hst⟩:=hu wo zT.out
 have hrg:=hst.qE
 have HMT:=qh (hmet hrg)
 have hal:Below wo.heap.size wo (wo.alloc (.cells #[.slice ua un uc, .slice ub uk uf, .bool bs] 42)):=(Below.refl _ _).alloc (Nat.le_refl _) _
 have hnew:=zS wo (.cells #[.slice ua un uc, .slice ub uk uf, .bool bs] 42)
 have hky:=zgE (wo.alloc (.cells #[.slice ua un uc, .slice ub uk uf, .bool bs] 42)) s _ _ _ _ _ _ bs (hst.below hal) (zdX hft hrg)
 have HCL:Hid (∀y,Below X4.heap.size X4 y->Calls Tryz.prog 21 #[.agg #[.slice ua un uc, .slice ub uk uf, .bool bs]] y λe w'=>e= .returned (.bool (wZ s))/\Below y.heap.size y w'):=λy hy=>by
  rw [hbs]
  exact znz y s _ _ (hu y hy).2.2.2
 obtain⟨key,hkey⟩:∃q,q=keyOf (xK s):=⟨_,rfl⟩
 rw [<-hkey] at hky HMT
 have HAL:=qh hal
 have kI:=qh hnew
 have HKY:=qh hky
 have HSE:=qh hs
 clear hal hnew hky hkey hs hbs hft hrg hst hu hmet
 go_upto_region 16 with fail
 clear y0 y1 y2
 generalize World.alloc wo _=w2 at HAL kI HKY ⊢
 obtain⟨gq,hgq⟩:∃g,g=wo.heap.size:=⟨_,rfl⟩
 rw [<-hgq] at kI ⊢
 clear hgq
 have y0:=ze kI.out 0
 have y1:=ze kI.out 1
 have y2:=ze kI.out 2
 have HM2:=qh (HMS.out.below HAL.out)
 have HZR:=qh zgb
 go_upto_region 17 with(first|(go_at_call 20;go_must(refine(HKY.out).mono ?_);rintro e w3 ⟨rfl,hb⟩;(have HB3:=qh (zM HAL.out hb));(have HM3:=qh (HM2.out.below hb));(have HN3:=qh ((hb.block _ (zy kI.out)).trans kI.out));clear hb)|(refine zda _ rfl _ _ 63 rfl 9 64 Tryz.underlying63 Tryz.underlying9 mb (.agg #[]) ks (HZR.out _) rfl key rfl HM3.out ?_))
 clear y0 y1 y2
 rw [HMT.out]
 have ha4:Below w3.heap.size w3 (w3.alloc (.cells #[] 64)):=(Below.refl _ _).alloc (Nat.le_refl _) _
 have vU:=qh (zM (zM zT.out HB3.out) ha4)
 have HM4:=qh (HM3.out.below ha4)
 have HN4:=qh ((ha4.block _ (zy HN3.out)).trans HN3.out)
 clear ha4 HM3 HN3 HMT HM2 HKY
 generalize World.alloc w3 _=w4 at vU HM4 HN4 ⊢
 obtain⟨od,hod⟩:∃b,b=bU T.states s:=⟨_,rfl⟩
 have HOD:=qh hod
 obtain⟨mt,hmt⟩:∃b,b=ze6 T.states s:=⟨_,rfl⟩
 unfold bU at hod
 rw [<-hmt] at hod ⊢
 have zpR:=qh hod
 clear hod hmt
 go_cut [72] (λs72 w'=>s72= .bool od/\Hid (Below w4.heap.size w4 w'))
 case first=>
  obtain⟨cl,hcl⟩:∃b,b=wZ s:=⟨_,rfl⟩
  have hod:=zpR.out
  have zpS:=HCL.out w4 vU.out
  rw [<-hcl] at hod zpS
  have HC4:=qh zpS
  clear hcl zpS HCL HOD zpR
  subst hod
  have y0:=ze HN4.out 0
  have y1:=ze HN4.out 1
  have y2:=ze HN4.out 2
  cases mt with
  |true=>
   go_wp2_with fail
   go_meet
   case rel=>exact⟨by simp,Below.refl _ _⟩
  |false=>
  go_wp2_with(go_at_call 21;go_must(refine(HC4.out).mono ?_);rintro e w5 ⟨rfl,hb⟩;(have HB5:=qh hb);clear hb)
  go_meet
  case rel=>exact⟨by simp,HB5.out⟩
 case rest=>
 obtain⟨rfl,zuG⟩:=hcut
 obtain⟨w5,rfl⟩:∃X:World,X=wc:=⟨_,rfl⟩
 have HB5:=qh (zM vU.out zuG.out)
 have HM5:=qh (HM4.out.below zuG.out)
 clear HCL zpR
 cases od with
 |true=>
  have hr:=zuA.out i hlt HNO.out (by rw [<-HSE.out];exact HOD.out.symm)
  have HR:=qh hr
  obtain⟨⟨p0,p1,p2⟩, -⟩:=CT.out w5 HB5.out
  have HTI:=qh (HTR.out i hlt w5 HB5.out)
  clear hr zrx zuA
  go_wp2_with(go_at_call 22;go_must(refine(HTI.out).mono ?_);rintro e w6 ⟨tv,rfl,ho,hb⟩;(obtain⟨qa,qc,rfl, -⟩:=xB ho);(have hom:=zaq ho);(have HO:=qh hom);clear hom;(have HB6:=qh hb);clear ho hb)
  go_ret3
  rw [HR.out]
  exact⟨⟨qa,_,qc,rfl,by have h:=HO.out;rw [List.length_reverse] at h;exact h⟩,xM.out.trans ((zM HB5.out HB6.out).mono xM.out.size)⟩
 |false=>
 have zxY:Hid (∀j,j<i+1->bU T.states (S.states.getD j default)=false):=λj hj=>by
  by_cases e:j=i
  ·subst e;rw [<-HSE.out];exact HOD.out.symm
  exact HNO.out j (by omega)
 go_wp2_with fail
 go_roundg (n - (i+1))
 case measure=>rw [HG.out];omega
 case rel=>exact⟨i+1,by omega,rfl,by simp,zxY.out,HM5.out,HB5.out⟩
