/- Steps. -/
import Derived.Test.YteggflahafiieaaGreatDoorZgPart
set_option linter.all false
namespace Go.Proofs.YteggflahafiieaaGreatDoor
open Go.RowKit
set_option maxRecDepth 100000
set_option maxHeartbeats 16000000
theorem zpf (w:World) (s:zm) (tv mv:Value) (h:yh w s tv mv) (hl:s.threads.length<=1000000) (hm:s.mem.length<=1000000) (hb:∀j,j<s.threads.length->(s.threads.getD j default).buf.length<=1000000):
  Calls Tryz.prog 61 #[yR s tv mv] w λe w'=>(∃tv' mv' bs,e= .returned (yR s tv' mv')/\OwnAt w.heap.size w' tv' mv' s.threads s.mem bs)/\Below w.heap.size w w':=by
 obtain⟨ta,tc,rfl, -⟩:=ze.slice h.threads
 obtain⟨ma,mc,rfl, -⟩:=ze.slice h.mem
 obtain⟨ts,mem,bad⟩:=s
 simp only [] at h hl hm hb ⊢
 obtain⟨n,hn⟩:∃n,n=ts.length:=⟨_,rfl⟩
 obtain⟨m,hmn⟩:∃m,m=mem.length:=⟨_,rfl⟩
 have hT:=h.threads
 have hM:=h.mem
 simp only [] at hT hM
 clear h
 unfold yR
 simp only []
 rw [<-hn] at hl hT hb ⊢
 rw [<-hmn] at hm hM ⊢
 have HB:=qh (xZ w (.cells #[.slice ta n tc, .slice ma m mc, .bool bad] 35) (.cells #[.slice none 0 0, .slice none 0 0, .bool false] 35))
 have H1:=qh (xL w (.cells #[.slice ta n tc, .slice ma m mc, .bool bad] 35) (.cells #[.slice none 0 0, .slice none 0 0, .bool false] 35))
 have H2:=qh (xE w (.cells #[.slice ta n tc, .slice ma m mc, .bool bad] 35) (.cells #[.slice none 0 0, .slice none 0 0, .bool false] 35))
 have hsz:((w.alloc (.cells #[.slice ta n tc, .slice ma m mc, .bool bad] 35)).alloc (.cells #[.slice none 0 0, .slice none 0 0, .bool false] 35)).heap.size=w.heap.size+2:=by simp
 have HSZ:=qh hsz
 have HT:=qh (ze.below pJ.stays hT HB.out)
 have HM:=qh (ze.below uQ.stays hM HB.out)
 have bE:=qh hb
 have HN:=qh hn
 have vW:=qh hmn
 clear hT hM hb hn hmn hsz
 go_enter Tryz.func61,Tryz.ntmps61
 go_upto_region 1 with fail
 generalize World.alloc (World.alloc w _) _=W at HB H1 H2 HSZ HT HM ⊢
 obtain⟨gx,hgx⟩:∃gx,gx=w.heap.size:=⟨_,rfl⟩
 rw [<-hgx] at H1 H2 HSZ ⊢
 have yV:=qh hgx
 clear hgx
 have HC:Hid (∀x,Below W.heap.size W x->x.cell? ⟨gx,0,none⟩=some (.slice ta n tc)/\x.cell? ⟨gx,1,none⟩=some (.slice ma m mc)/\x.cell? ⟨gx,2,none⟩=some (.bool bad)):=λx hx=>
  ⟨zh hx _ _ (za H1.out 0),zh hx _ _ (za H1.out 1),zh hx _ _ (za H1.out 2)⟩
 go_cut [3] (λs3 wr=>∃(gb:Nat) (va:Option Addr) (vc:Nat),s3= .pointer (some ⟨gb,0,none⟩)/\Hid (qZ W wr gb (.slice none 0 0) (.slice va m vc) bad [] mem []))
 case first=>
  have h0:=jK.start 3 1 35 W
  have hT0:=qh h0.drew
  clear h0
  by_cases hm0:m=0
  ·subst hm0
   obtain⟨i0,hi0, -, -, -⟩:=info_parts vO
   have HE:Hid (mem= []):=List.eq_nil_of_length_eq_zero vW.out.symm
   refine vJ (S:=λx=>Below W.heap.size W x) (Below.refl _ _).drew (λ_=> ?_)
   obtain⟨wd,hwd⟩:∃wd,wd=W.drew:=⟨_,rfl⟩
   rw [<-hwd] at hT0 ⊢
   clear hwd
   refine zA 0 zM (hT0.out.below) ?_
   refine zA 1 HC.out (hT0.out.below) ?_
   refine zA 3 zM (hT0.out.below) ?_
   refine zA 4 HC.out (hT0.out.below) ?_
   refine wpAnyH_ready (rs:= [2,6]) (by kernel_rfl) (by simp) ?_
   refine AllReadyH.cons rfl (λK hK=> ?_) (AllReadyH.cons rfl (λK hK=> ?_) AllReadyH.nil)
   ·skip
    refine jd wd (by rfl) (.const (.slice none 0 0)) (.tmp 7) 28 rfl 3 i0 Tryz.underlying28 hi0 (by rfl) ma mc (by rfl) ?_
    refine hK.out _ _ (hT0.out.below) (λ_=> ?_)
    clear hK K
    refine zA 5 zM (hT0.out.below) ?_
    refine yw 6 rfl (λK hK=> ?_)
    go_simp
    have zcB:=hT0.out.alloc [.slice none 0 0, .slice none 0 0, .bool false]
    refine hK.out _ _ zcB.below (λ_=> ?_)
    obtain⟨gb,hgb⟩:∃n,n=wd.heap.size:=⟨_,rfl⟩
    rw [<-hgb] at zcB ⊢
    clear hgb
    generalize World.alloc wd _=zB5 at zcB ⊢
    replace zcB:=qh zcB
    clear hK K
    refine yw 7 rfl (λK hK=> ?_)
    obtain⟨b1,b2,b3,b4,b5⟩:=zcB.out.zgD (gb:=gb) (a:= .slice none 0 0) (b:= .slice none 0 0) (c:= .bool false) (by simp) (.slice none 0 0) (.slice none 0 0) (.bool bad)
    obtain⟨hn, -, -⟩:=zcB.out.news (gb, [.slice none 0 0, .slice none 0 0, .bool false]) (by simp)
    have d0:=za hn 0
    have f0:=zw hn 0
    have d1:=za hn 1
    have f1:=zw hn 1
    have d2:=za hn 2
    have f2:=zw hn 2
    clear hn
    have HB1:=qh b1
    have HB2:=qh b2
    have HB3:=qh b3
    have HB5:=qh b5
    have vL:=qh b4
    clear b1 b2 b3 b4 b5
    go_simp
    refine hK.out _ _ HB1.out (λ_=> ?_)
    clear hK K
    refine xM ?_
    go_wp2_with fail
    go_meet
    case rel=>exact⟨gb,none,0,by first|rfl|simp,qZ.start (by rw [HE.out];exact HB2.out) HB1.out HB3.out vL.out HB5.out⟩
   skip
   go_simp
   have zaG:=hT0.out.alloc [.slice none 0 0, .slice none 0 0, .bool false]
   refine hK.out _ _ zaG.below (λ_=> ?_)
   obtain⟨gb,hgb⟩:∃n,n=wd.heap.size:=⟨_,rfl⟩
   rw [<-hgb] at zaG ⊢
   clear hgb
   generalize World.alloc wd _=z6O at zaG ⊢
   replace zaG:=qh zaG
   clear hK K
   refine yw 2 rfl (λK hK=> ?_)
   refine jd z6O (by rfl) (.const (.slice none 0 0)) (.tmp 7) 28 rfl 3 i0 Tryz.underlying28 hi0 (by rfl) ma mc (by rfl) ?_
   refine hK.out _ _ (zaG.out.below) (λ_=> ?_)
   clear hK K
   refine zA 5 zM (zaG.out.below) ?_
   refine yw 7 rfl (λK hK=> ?_)
   obtain⟨b1,b2,b3,b4,b5⟩:=zaG.out.zgD (gb:=gb) (a:= .slice none 0 0) (b:= .slice none 0 0) (c:= .bool false) (by simp) (.slice none 0 0) (.slice none 0 0) (.bool bad)
   obtain⟨hn, -, -⟩:=zaG.out.news (gb, [.slice none 0 0, .slice none 0 0, .bool false]) (by simp)
   have d0:=za hn 0
   have f0:=zw hn 0
   have d1:=za hn 1
   have f1:=zw hn 1
   have d2:=za hn 2
   have f2:=zw hn 2
   clear hn
   have HB1:=qh b1
   have HB2:=qh b2
   have HB3:=qh b3
   have HB5:=qh b5
   have vL:=qh b4
   clear b1 b2 b3 b4 b5
   go_simp
   refine hK.out _ _ HB1.out (λ_=> ?_)
   clear hK K
   refine xM ?_
   go_wp2_with fail
   go_meet
   case rel=>exact⟨gb,none,0,by first|rfl|simp,qZ.start (by rw [HE.out];exact HB2.out) HB1.out HB3.out vL.out HB5.out⟩
  obtain⟨mb,mo,hma, -, -⟩:=xI.part HM.out 0 (by rw [<-vW.out];omega)
  subst hma
  have zaD:Hid (∀x,Below W.heap.size W x->∀j u,(zl yO mem)[j]? =some u->x.cell? ((⟨mb,mo,none⟩:Addr).add j)=some u):=λx hx=>ze.news (R:=uQ) (f:=yO) (by decide) uZ (λ_ _ _ h=>h) (ze.below uQ.stays HM.out hx)
  refine vJ (S:=λx=>Below W.heap.size W x) (Below.refl _ _).drew (λ_=> ?_)
  obtain⟨wd,hwd⟩:∃wd,wd=W.drew:=⟨_,rfl⟩
  rw [<-hwd] at hT0 ⊢
  clear hwd
  refine zA 0 zM (hT0.out.below) ?_
  refine zA 1 HC.out (hT0.out.below) ?_
  refine zA 3 zM (hT0.out.below) ?_
  refine zA 4 HC.out (hT0.out.below) ?_
  refine wpAnyH_ready (rs:= [2,6]) (by kernel_rfl) (by simp) ?_
  refine AllReadyH.cons rfl (λK hK=> ?_) (AllReadyH.cons rfl (λK hK=> ?_) AllReadyH.nil)
  ·skip
   refine zV wd (by rfl) (.const (.slice none 0 0)) (.tmp 7) 28 rfl 3 (.int .i64 0) 1 8 Tryz.underlying28 vO rfl (by decide) W.heap.size (.slice none 0 0) 0 [] (by rfl) hT0.out.row ⟨mb,mo,none⟩ m mc (zl yO mem) (by rfl) ((jA (f:=yO) uZ mem).trans (by rw [<-vW.out])) (zaD.out _ (hT0.out.below)) (zph) (by unfold maxLen;omega) (by omega) hT0.out.below.size ?_
   intro ra rc zzY e1 e2 e3 e4 e5
   try simp only [Nat.zero_add,List.nil_append] at e1 e5 ⊢
   have zqI:=qh (hT0.out.app e1 e4 e5)
   clear e1 e2 e3 e4 e5
   refine hK.out _ _ zqI.out.below (λ_=> ?_)
   clear hK K
   refine zA 5 zM (zqI.out.below) ?_
   refine yw 6 rfl (λK hK=> ?_)
   go_simp
   have zcC:=zqI.out.alloc [.slice none 0 0, .slice none 0 0, .bool false]
   refine hK.out _ _ zcC.below (λ_=> ?_)
   obtain⟨gb,hgb⟩:∃n,n=zzY.heap.size:=⟨_,rfl⟩
   rw [<-hgb] at zcC ⊢
   clear hgb
   generalize World.alloc zzY _=zB6 at zcC ⊢
   replace zcC:=qh zcC
   clear hK K
   refine yw 7 rfl (λK hK=> ?_)
   obtain⟨b1,b2,b3,b4,b5⟩:=zcC.out.zgD (gb:=gb) (a:= .slice none 0 0) (b:= .slice none 0 0) (c:= .bool false) (by simp) (.slice none 0 0) (.slice ra m rc) (.bool bad)
   obtain⟨hn, -, -⟩:=zcC.out.news (gb, [.slice none 0 0, .slice none 0 0, .bool false]) (by simp)
   have d0:=za hn 0
   have f0:=zw hn 0
   have d1:=za hn 1
   have f1:=zw hn 1
   have d2:=za hn 2
   have f2:=zw hn 2
   clear hn
   have HB1:=qh b1
   have HB2:=qh b2
   have HB3:=qh b3
   have HB5:=qh b5
   have vL:=qh b4
   clear b1 b2 b3 b4 b5
   go_simp
   refine hK.out _ _ HB1.out (λ_=> ?_)
   clear hK K
   refine xM ?_
   go_wp2_with fail
   go_meet
   case rel=>exact⟨gb,ra,rc,by first|rfl|simp,qZ.start (by rw [<-vW.out];exact HB2.out) HB1.out HB3.out vL.out HB5.out⟩
  skip
  go_simp
  have zaH:=hT0.out.alloc [.slice none 0 0, .slice none 0 0, .bool false]
  refine hK.out _ _ zaH.below (λ_=> ?_)
  obtain⟨gb,hgb⟩:∃n,n=wd.heap.size:=⟨_,rfl⟩
  rw [<-hgb] at zaH ⊢
  clear hgb
  generalize World.alloc wd _=z6P at zaH ⊢
  replace zaH:=qh zaH
  clear hK K
  refine yw 2 rfl (λK hK=> ?_)
  refine zV z6P (by rfl) (.const (.slice none 0 0)) (.tmp 7) 28 rfl 3 (.int .i64 0) 1 8 Tryz.underlying28 vO rfl (by decide) W.heap.size (.slice none 0 0) 0 [] (by rfl) zaH.out.row ⟨mb,mo,none⟩ m mc (zl yO mem) (by rfl) ((jA (f:=yO) uZ mem).trans (by rw [<-vW.out])) (zaD.out _ (zaH.out.below)) (zph) (by unfold maxLen;omega) (by omega) zaH.out.below.size ?_
  intro ra rc zB7 e1 e2 e3 e4 e5
  try simp only [Nat.zero_add,List.nil_append] at e1 e5 ⊢
  have zkV:=qh (zaH.out.app e1 e4 e5)
  clear e1 e2 e3 e4 e5
  refine hK.out _ _ zkV.out.below (λ_=> ?_)
  clear hK K
  refine zA 5 zM (zkV.out.below) ?_
  refine yw 7 rfl (λK hK=> ?_)
  obtain⟨b1,b2,b3,b4,b5⟩:=zkV.out.zgD (gb:=gb) (a:= .slice none 0 0) (b:= .slice none 0 0) (c:= .bool false) (by simp) (.slice none 0 0) (.slice ra m rc) (.bool bad)
  obtain⟨hn, -, -⟩:=zkV.out.news (gb, [.slice none 0 0, .slice none 0 0, .bool false]) (by simp)
  have d0:=za hn 0
  have f0:=zw hn 0
  have d1:=za hn 1
  have f1:=zw hn 1
  have d2:=za hn 2
  have f2:=zw hn 2
  clear hn
  have HB1:=qh b1
  have HB2:=qh b2
  have HB3:=qh b3
  have HB5:=qh b5
  have vL:=qh b4
  clear b1 b2 b3 b4 b5
  go_simp
  refine hK.out _ _ HB1.out (λ_=> ?_)
  clear hK K
  refine xM ?_
  go_wp2_with fail
  go_meet
  case rel=>exact⟨gb,ra,rc,by first|rfl|simp,qZ.start (by rw [<-vW.out];exact HB2.out) HB1.out HB3.out vL.out HB5.out⟩
 case rest=>
 obtain⟨gb,va,vc,rfl,HO⟩:=hcut
 go_wp2_with fail
 go_loopg [4] n (λgg s4 wr=>∃(i:Nat) (oa:Option Addr) (oc:Nat) (bs:List Value),i<=n/\Hid (gg=n - i)/\s4= .int .i64 i/\Hid (qZ W wr gb (.slice oa i oc) (.slice va m vc) bad (ts.take i) mem bs))
 case atStart=>exact⟨0,none,0, [],Nat.zero_le _,rfl,rfl,by simpa using HO⟩
 case round=>
 obtain⟨i,oa,oc,bs,hi,HG,rfl,HOL⟩:=hrel
 obtain⟨c0,c1,c2⟩:=HC.out wr HOL.out.below
 by_cases hlt:i<n
 rotate_left
 ·obtain rfl:n=i:=by omega
  have hfin:=HOL.out
  rw [List.take_of_length_le (by rw [<-HN.out];exact Nat.le_refl _)] at hfin
  have HF:=qh hfin
  have z0:=za HOL.out.box 0
  have z1:=za HOL.out.box 1
  have z2:=za HOL.out.box 2
  have hgl:gx+1<W.heap.size:=zq H2.out
  have hres:=(HOL.out.below.block _ hgl).trans H2.out
  have d0:=za hres 0
  have d1:=za hres 1
  have d2:=za hres 2
  have f0:=zw hres 0
  have f1:=zw hres 1
  have f2:=zw hres 2
  have hset:=zu (zu (zu hres 0 (.slice oa n oc)) 1 (.slice va m vc)) 2 (.bool bad)
  simp only [List.setIfInBounds_toArray,List.set_cons_zero,List.set_cons_succ] at hset
  have hS:Since (λk=>k=gx+1) wr (((wr.setCell ⟨gx+1,0,none⟩ (.slice oa n oc)).setCell ⟨gx+1,1,none⟩ (.slice va m vc)).setCell ⟨gx+1,2,none⟩ (.bool bad)):=Since.setCell (F:=λk=>k=gx+1) (p:=⟨gx+1,2,none⟩) (Since.setCell (F:=λk=>k=gx+1) (p:=⟨gx+1,1,none⟩) (Since.setCell (F:=λk=>k=gx+1) (p:=⟨gx+1,0,none⟩) (Since.refl _ wr) (.inl rfl) _) (.inl rfl) _) (.inl rfl) _
  have zI:=qh hset
  have bC:=qh hS
  have pF:=qh hgl
  clear hset hS hgl hres hfin
  go_wp2_with fail
  (try simp only [Exit.inBlock,Exit.then])
  refine bodyPost_ret (yY rfl _ _ (gx+1) 35 _ (0,0) _ rfl zI.out Tryz.underlying35 rfl zC) rfl ?_
  have hlt:∀k,W.heap.size<=k->k≠gx+1:=λk hk=>by have:=pF.out;omega
  refine⟨⟨.slice oa n oc, .slice va m vc,bs,rfl, ?_⟩, ?_⟩
  ·refine OwnAt.lower (B:=W.heap.size) ((HF.out.own).since bC.out (λk hk=>hlt k ?_) (λk hk=>hlt k ?_) (λj hj k hk=>hlt k ?_)) (by have:=HSZ.out;have:=yV.out;omega)
   ·exact(HF.out.own.row.lt k hk).1
   ·exact(HF.out.own.mem.lt k hk).1
   exact((HF.out.own.buf j hj).lt k hk).1
  rw [<-yV.out] at HB ⊢
  exact(HB.out.trans (HF.out.below.mono (by have:=HSZ.out;omega))).trans (bC.out.below (by have:=HSZ.out;have:=HF.out.below.size;omega) (λk e=>by omega))
 have qK:(i:Int)<(n:Int):=by omega
 obtain⟨tb,yA,ba,bc,hta, -,hr4,x0,x1,x2,x3,x4,x5,hbuf⟩:=qj.part HT.out i (by rw [<-HN.out];exact hlt)
 subst hta
 obtain⟨t,ht⟩:∃t,t=ts.getD i default:=⟨_,rfl⟩
 rw [<-ht] at hr4 x0 x1 x2 x3 x4 x5 hbuf
 have hbl:=bE.out i hlt
 rw [<-ht] at hbl
 have htake:ts.take (i+1)=ts.take i++ [t] :=kU (by rw [<-HN.out];exact hlt) ht
 have zep:=qh htake
 have hlen:(ts.take i).length=i:=by rw [List.length_take, <-HN.out];omega
 have HLEN:=qh hlen
 have HR4:=qh hr4
 have zau:=qh (zW.below hbuf HOL.out.below)
 have k:=λp v h=>zh HOL.out.below p v h
 replace x0:=k _ _ x0
 replace x1:=k _ _ x1
 replace x2:=k _ _ x2
 replace x3:=k _ _ x3
 replace x4:=k _ _ x4
 replace x5:=k _ _ x5
 obtain⟨q0,q1,q2,q3,hq⟩:=jS hr4
 obtain⟨pc,hpc⟩:∃pc,pc=t.pc:=⟨_,rfl⟩
 obtain⟨bl,jw⟩:∃bl,bl=t.buf.length:=⟨_,rfl⟩
 have htc:∀bv,t.cells bv= [.int .i64 pc, .int .i64 q0, .int .i64 q1, .int .i64 q2, .int .i64 q3,bv] :=λbv=>by unfold zo.cells;rw [hq,hpc];rfl
 have HTC:=qh htc
 rw [<-hpc] at x0
 rw [hq] at x1 x2 x3 x4
 simp only [List.getD_cons_zero,List.getD_cons_succ] at x1 x2 x3 x4
 rw [<-jw] at x5 hbl zau
 have vG:=qh jw
 clear ht hbuf k hq hpc jw htc htake hlen hr4
 go_upto_region 6 with fail
 clear c0 c1 c2 x0 x1 x2 x3 x4 x5
 have hn0:Since (λ_=>False) wr (wr.alloc (.cells #[.int .i64 pc, .int .i64 q0, .int .i64 q1, .int .i64 q2, .int .i64 q3, .slice ba bl bc] 47)):=(Since.refl _ wr).alloc _
 have hn1:=yE wr (.cells #[.int .i64 pc, .int .i64 q0, .int .i64 q1, .int .i64 q2, .int .i64 q3, .slice ba bl bc] 47)
 have hn2:(wr.alloc (.cells #[.int .i64 pc, .int .i64 q0, .int .i64 q1, .int .i64 q2, .int .i64 q3, .slice ba bl bc] 47)).heap.size=wr.heap.size+1:=by simp
 have HN0:=qh hn0
 have HN1:=qh hn1
 have HN2:=qh hn2
 have HB0:=qh (zW.below zau.out (hn0.below (Nat.le_refl _) (λ_ e=>e.elim)))
 clear hn0 hn1 hn2
 generalize World.alloc wr _=X0 at HN0 HN1 HN2 HB0 ⊢
 obtain⟨nb,hnb⟩:∃nb,nb=wr.heap.size:=⟨_,rfl⟩
 rw [<-hnb] at HN1 HN2 ⊢
 have HNB:=qh hnb
 clear hnb
 go_cut [5] (λs5 w'=>∃bv:Value,s5= .pointer (some ⟨nb,0,none⟩)/\Hid (w'.heap[nb]? =some (.cells #[.int .i64 pc, .int .i64 q0, .int .i64 q1, .int .i64 q2, .int .i64 q3,bv] 47 (0,0)))/\bv.oneCell'=true/\
  Hid (∃X1,Since (λ_=>False) wr X1/\X1.ownsRow W.heap.size 136 2 bv t.buf.length (zl zi.cells t.buf)/\(∀k,bv.ownBlock=some k->wr.heap.size<=k/\k≠nb)/\Since (λk=>k=nb) X1 w'))
 case first=>
  have c5:=za HN1.out 5
  have f5:=zw HN1.out 5
  by_cases hb0:bl=0
  ·subst hb0
   obtain⟨i0,hi0, -, -, -⟩:=info_parts xu
   go_wp2_with(at_builtin;go_must(refine zdg X0 rfl (.const (.slice none 0 0)) (.tmp 25) 45 rfl 136 i0 Tryz.underlying45 hi0 (by rfl) ba bc (by rfl) ?_))
   go_meet
   case rel=>
   refine⟨.slice none 0 0,rfl,qh ?_,rfl,X0,HN0.out, ?_, ?_,Since.setCell (F:=λk=>k=nb) (p:=⟨nb,5,none⟩) (Since.refl _ _) (.inl rfl) _⟩
   ·have:=zu HN1.out 5 (.slice none 0 0)
    simpa using this
   ·obtain he:=List.eq_nil_of_length_eq_zero vG.out.symm
    rw [he]
    exact World.ownsRow_nil _ _ _ _
   intro k hk;simp [Value.ownBlock] at hk
  obtain⟨bb,bo,hba, -, -, -⟩:=zW.part HB0.out 0 (by rw [<-vG.out];omega)
  subst hba
  have zaD:=qh (ze.news (R:=uH) (f:=zi.cells) (by decide) jY (λ_ _ _ h=>h) HB0.out)
  go_wp2_with(at_builtin;go_must(refine yx X0 rfl (.const (.slice none 0 0)) (.tmp 25) 45 rfl 136 (.agg #[.int .i64 0, .int .i64 0]) 2 16 Tryz.underlying45 xu rfl (by decide) W.heap.size (.slice none 0 0) 0 [] rfl (World.ownsRow_nil _ _ _ _) ⟨bb,bo,none⟩ bl bc (zl zi.cells t.buf) rfl (by rw [jA jY, <-vG.out]) zaD.out gI (by unfold maxLen;omega) (by omega) (by have:=HOL.out.below.size;have:=HN0.out.size;omega) ?_);intro ja jc X e1 e2 e3 e4 e5 e6;simp only [Nat.zero_add,List.nil_append] at e1 e5 ⊢;have HE1:=qh e1;have HE4:=qh e4;have HE5:=qh e5;have hq:=(e4.block nb (by have:=HN2.out;omega) (by simp [Value.ownBlock])).trans HN1.out;have HQ:=qh hq;have g5:=za hq 5;have h5:=zw hq 5;clear e1 e2 e3 e4 e5 e6 hq c5 f5)
  go_meet
  case rel=>
  refine⟨.slice ja bl jc,rfl,qh ?_,rfl,X,HN0.out.trans HE4.out (λk e=>by simp [Value.ownBlock] at e),by rw [<-vG.out];exact HE1.out, ?_,Since.setCell (F:=λk=>k=nb) (p:=⟨nb,5,none⟩) (Since.refl _ _) (.inl rfl) _⟩
  ·have:=zu HQ.out 5 (.slice ja bl jc)
   simpa using this
  intro k hk
  rcases HE5.out k hk with e|e
  ·simp [Value.ownBlock] at e
  have:=HN2.out
  have:=HNB.out
  exact⟨by omega,by omega⟩
 case rest=>
 obtain⟨bv,rfl,HQ,hbv,HX1⟩:=hcut
 obtain⟨X1,hs1,hbo,hbn,hs2⟩:=HX1.out
 have vU:=qh hs1
 have HS2:=qh hs2
 have HBO:=qh hbo
 have HBN:=qh hbn
 have zbp:=HOL.out.own.row
 rw [HLEN.out] at zbp
 have hrow:=hs2.row (hs1.row zbp (λ_ _ e=>e)) (λk hk e=>by have:=(zbp.lt k hk).2;have:=HNB.out;omega)
 have hgb:=zq HOL.out.box
 have gB:=(hs2.block gb (by have:=hs1.size;omega) (by have:=HNB.out;omega)).trans ((hs1.block gb hgb (λe=>e)).trans HOL.out.box)
 have z0b:W.heap.size<=wc.heap.size:=by have:=HOL.out.below.size;have:=hs1.size;have:=hs2.size;omega
 have jh:=qh hrow
 have zvp:=qh gB
 have z6Q:=qh z0b
 have xG:=qh hgb
 have hone:∀u∈ [Value.int .i64 pc, .int .i64 q0, .int .i64 q1, .int .i64 q2, .int .i64 q3,bv],u.oneCell'=true:=λu hu=>by
  simp only [List.mem_cons,List.not_mem_nil,or_false] at hu
  rcases hu with rfl|rfl|rfl|rfl|rfl|rfl<;>first|rfl|exact hbv
 have zcD:=qh hone
 clear hone
 have y0:=za HQ.out 0
 have y1:=za HQ.out 1
 have y2:=za HQ.out 2
 have y3:=za HQ.out 3
 have y4:=za HQ.out 4
 have y5:=za HQ.out 5
 have z0:=za gB 0
 clear hs1 hs2 hbo hbn zbp hrow gB z0b hgb HX1
 go_wp2_with(at_builtin;go_must(refine yx _ rfl _ _ 33 rfl 47 (.agg #[.int .i64 0, .int .i64 0, .int .i64 0, .int .i64 0, .int .i64 0, .slice none 0 0]) 6 64 Tryz.underlying33 uK rfl (by decide) W.heap.size (.slice oa i oc) i (zU (ts.take i) bs) rfl (jh.out.alloc _) ⟨wc.heap.size,0,none⟩ 1 1 [.int .i64 pc, .int .i64 q0, .int .i64 q1, .int .i64 q2, .int .i64 q3,bv] rfl rfl (gT _ _ _) zcD.out (by unfold maxLen;omega) (by omega) (by have:=z6Q.out;simp;omega) ?_);intro ja jc X e1 e2 e3 e4 e5 e6;have HE1:=qh e1;have HE4:=qh e4;have HE5:=qh e5;have hq:=(e4.block gb (by have:=zq zvp.out;simp;omega) HOL.out.n1).trans ((Below.heap_alloc _ _ _ (zq zvp.out)).trans zvp.out);have g0:=za hq 0;have g1:=zw hq 0;clear e1 e2 e3 e4 e5 e6 hq)
 go_roundg (n - (i+1))
 case measure=>rw [HG.out];omega
 case rel=>exact⟨i+1,ja,jc,bs++ [bv],by omega,rfl,by simp,by rw [zep.out];exact qZ.push HOL.out HR4.out vU.out HBO.out HBN.out (HS2.out.alloc _) (by rw [HNB.out];exact Nat.le_refl _) (by rw [HLEN.out,HTC.out];exact HE1.out) HE4.out HE5.out⟩
