/- Steps. -/
import Derived.Test.YtnhahkiojbanfaaGreatDoorRsPart
set_option linter.all false
namespace Go.Proofs.YtnhahkiojbanfaaGreatDoor
open Go.RowKit
set_option maxRecDepth 100000
set_option maxHeartbeats 16000000
theorem zol (w:World) (s:zi) (tv mv:Value) (h:zX w s tv mv) (hl:s.threads.length<=1000000) (hm:s.mem.length<=1000000) (hb:∀j,j<s.threads.length->(s.threads.getD j default).buf.length<=1000000):
  Calls Tryz.prog 51 #[yA s tv mv] w λe w'=>(∃tv' mv' bs,e= .returned (yA s tv' mv')/\OwnAt w.heap.size w' tv' mv' s.threads s.mem bs)/\Below w.heap.size w w':=by
 obtain⟨ta,tc,rfl, -⟩:=zh.slice h.threads
 obtain⟨ma,mc,rfl, -⟩:=zh.slice h.mem
 obtain⟨ts,mem,bad⟩:=s
 simp only [] at h hl hm hb ⊢
 obtain⟨n,hn⟩:∃n,n=ts.length:=⟨_,rfl⟩
 obtain⟨m,hmn⟩:∃m,m=mem.length:=⟨_,rfl⟩
 have hT:=h.threads
 have hM:=h.mem
 simp only [] at hT hM
 clear h
 unfold yA
 simp only []
 rw [<-hn] at hl hT hb ⊢
 rw [<-hmn] at hm hM ⊢
 have HB:=qh (xO w (.cells #[.slice ta n tc, .slice ma m mc, .bool bad] 42) (.cells #[.slice none 0 0, .slice none 0 0, .bool false] 42))
 have H1:=qh (xP w (.cells #[.slice ta n tc, .slice ma m mc, .bool bad] 42) (.cells #[.slice none 0 0, .slice none 0 0, .bool false] 42))
 have H2:=qh (xw w (.cells #[.slice ta n tc, .slice ma m mc, .bool bad] 42) (.cells #[.slice none 0 0, .slice none 0 0, .bool false] 42))
 have hsz:((w.alloc (.cells #[.slice ta n tc, .slice ma m mc, .bool bad] 42)).alloc (.cells #[.slice none 0 0, .slice none 0 0, .bool false] 42)).heap.size=w.heap.size+2:=by simp
 have HSZ:=qh hsz
 have HT:=qh (zh.below wN.stays hT HB.out)
 have HM:=qh (zh.below zae.stays hM HB.out)
 have HBU:=qh hb
 have HN:=qh hn
 have vH:=qh hmn
 clear hT hM hb hn hmn hsz
 go_enter Tryz.func51,Tryz.ntmps51
 go_upto_region 1 with fail
 generalize World.alloc (World.alloc w _) _=W at HB H1 H2 HSZ HT HM ⊢
 obtain⟨gx,hgx⟩:∃gx,gx=w.heap.size:=⟨_,rfl⟩
 rw [<-hgx] at H1 H2 HSZ ⊢
 have xg:=qh hgx
 clear hgx
 have HC:Hid (∀x,Below W.heap.size W x->x.cell? ⟨gx,0,none⟩=some (.slice ta n tc)/\x.cell? ⟨gx,1,none⟩=some (.slice ma m mc)/\x.cell? ⟨gx,2,none⟩=some (.bool bad)):=λx hx=>
  ⟨zk hx _ _ (ze H1.out 0),zk hx _ _ (ze H1.out 1),zk hx _ _ (ze H1.out 2)⟩
 go_cut [3] (λs3 wr=>∃(gb:Nat) (va:Option Addr) (vc:Nat),s3= .pointer (some ⟨gb,0,none⟩)/\Hid (vU W wr gb (.slice none 0 0) (.slice va m vc) bad [] mem []))
 case first=>
  have h0:=wC.start 3 1 42 W
  have hT0:=qh h0.drew
  clear h0
  by_cases hm0:m=0
  ·subst hm0
   obtain⟨i0,hi0, -, -, -⟩:=info_parts vg
   have HE:Hid (mem= []):=List.eq_nil_of_length_eq_zero vH.out.symm
   refine jf (S:=λx=>Below W.heap.size W x) (Below.refl _ _).drew (λ_=> ?_)
   obtain⟨wd,hwd⟩:∃wd,wd=W.drew:=⟨_,rfl⟩
   rw [<-hwd] at hT0 ⊢
   clear hwd
   refine zF 0 zP (hT0.out.below) ?_
   refine zF 1 HC.out (hT0.out.below) ?_
   refine zF 3 zP (hT0.out.below) ?_
   refine zF 4 HC.out (hT0.out.below) ?_
   refine wpAnyH_ready (rs:= [2,6]) (by kernel_rfl) (by simp) ?_
   refine AllReadyH.cons rfl (λK hK=> ?_) (AllReadyH.cons rfl (λK hK=> ?_) AllReadyH.nil)
   ·skip
    refine jP wd (by rfl) (.const (.slice none 0 0)) (.tmp 7) 31 rfl 3 i0 Tryz.underlying31 hi0 (by rfl) ma mc (by rfl) ?_
    refine hK.out _ _ (hT0.out.below) (λ_=> ?_)
    clear hK K
    refine zF 5 zP (hT0.out.below) ?_
    refine yC 6 rfl (λK hK=> ?_)
    go_simp
    have ze1:=hT0.out.alloc [.slice none 0 0, .slice none 0 0, .bool false]
    refine hK.out _ _ ze1.below (λ_=> ?_)
    obtain⟨gb,hgb⟩:∃n,n=wd.heap.size:=⟨_,rfl⟩
    rw [<-hgb] at ze1 ⊢
    clear hgb
    generalize World.alloc wd _=zAd at ze1 ⊢
    replace ze1:=qh ze1
    clear hK K
    refine yC 7 rfl (λK hK=> ?_)
    obtain⟨b1,b2,b3,b4,b5⟩:=ze1.out.zi3 (gb:=gb) (a:= .slice none 0 0) (b:= .slice none 0 0) (c:= .bool false) (by simp) (.slice none 0 0) (.slice none 0 0) (.bool bad)
    obtain⟨hn, -, -⟩:=ze1.out.news (gb, [.slice none 0 0, .slice none 0 0, .bool false]) (by simp)
    have d0:=ze hn 0
    have f0:=zA hn 0
    have d1:=ze hn 1
    have f1:=zA hn 1
    have d2:=ze hn 2
    have f2:=zA hn 2
    clear hn
    have HB1:=qh b1
    have HB2:=qh b2
    have HB3:=qh b3
    have gJ:=qh b5
    have vF:=qh b4
    clear b1 b2 b3 b4 b5
    go_simp
    refine hK.out _ _ HB1.out (λ_=> ?_)
    clear hK K
    refine xW ?_
    go_wp2_with fail
    go_meet
    case rel=>exact⟨gb,none,0,by first|rfl|simp,vU.start (by rw [HE.out];exact HB2.out) HB1.out HB3.out vF.out gJ.out⟩
   skip
   go_simp
   have zcm:=hT0.out.alloc [.slice none 0 0, .slice none 0 0, .bool false]
   refine hK.out _ _ zcm.below (λ_=> ?_)
   obtain⟨gb,hgb⟩:∃n,n=wd.heap.size:=⟨_,rfl⟩
   rw [<-hgb] at zcm ⊢
   clear hgb
   generalize World.alloc wd _=z6o at zcm ⊢
   replace zcm:=qh zcm
   clear hK K
   refine yC 2 rfl (λK hK=> ?_)
   refine jP z6o (by rfl) (.const (.slice none 0 0)) (.tmp 7) 31 rfl 3 i0 Tryz.underlying31 hi0 (by rfl) ma mc (by rfl) ?_
   refine hK.out _ _ (zcm.out.below) (λ_=> ?_)
   clear hK K
   refine zF 5 zP (zcm.out.below) ?_
   refine yC 7 rfl (λK hK=> ?_)
   obtain⟨b1,b2,b3,b4,b5⟩:=zcm.out.zi3 (gb:=gb) (a:= .slice none 0 0) (b:= .slice none 0 0) (c:= .bool false) (by simp) (.slice none 0 0) (.slice none 0 0) (.bool bad)
   obtain⟨hn, -, -⟩:=zcm.out.news (gb, [.slice none 0 0, .slice none 0 0, .bool false]) (by simp)
   have d0:=ze hn 0
   have f0:=zA hn 0
   have d1:=ze hn 1
   have f1:=zA hn 1
   have d2:=ze hn 2
   have f2:=zA hn 2
   clear hn
   have HB1:=qh b1
   have HB2:=qh b2
   have HB3:=qh b3
   have gJ:=qh b5
   have vF:=qh b4
   clear b1 b2 b3 b4 b5
   go_simp
   refine hK.out _ _ HB1.out (λ_=> ?_)
   clear hK K
   refine xW ?_
   go_wp2_with fail
   go_meet
   case rel=>exact⟨gb,none,0,by first|rfl|simp,vU.start (by rw [HE.out];exact HB2.out) HB1.out HB3.out vF.out gJ.out⟩
  obtain⟨mb,mo,hma, -, -⟩:=qm.part HM.out 0 (by rw [<-vH.out];omega)
  subst hma
  have zcn:Hid (∀x,Below W.heap.size W x->∀j u,(zo yM mem)[j]? =some u->x.cell? ((⟨mb,mo,none⟩:Addr).add j)=some u):=λx hx=>zh.news (R:=zae) (f:=yM) (by decide) zaC (λ_ _ _ h=>h) (zh.below zae.stays HM.out hx)
  refine jf (S:=λx=>Below W.heap.size W x) (Below.refl _ _).drew (λ_=> ?_)
  obtain⟨wd,hwd⟩:∃wd,wd=W.drew:=⟨_,rfl⟩
  rw [<-hwd] at hT0 ⊢
  clear hwd
  refine zF 0 zP (hT0.out.below) ?_
  refine zF 1 HC.out (hT0.out.below) ?_
  refine zF 3 zP (hT0.out.below) ?_
  refine zF 4 HC.out (hT0.out.below) ?_
  refine wpAnyH_ready (rs:= [2,6]) (by kernel_rfl) (by simp) ?_
  refine AllReadyH.cons rfl (λK hK=> ?_) (AllReadyH.cons rfl (λK hK=> ?_) AllReadyH.nil)
  ·skip
   refine zK wd (by rfl) (.const (.slice none 0 0)) (.tmp 7) 31 rfl 3 (.int .i64 0) 1 8 Tryz.underlying31 vg rfl (by decide) W.heap.size (.slice none 0 0) 0 [] (by rfl) hT0.out.row ⟨mb,mo,none⟩ m mc (zo yM mem) (by rfl) ((jB (f:=yM) zaC mem).trans (by rw [<-vH.out])) (zcn.out _ (hT0.out.below)) (zo6) (by unfold maxLen;omega) (by omega) hT0.out.below.size ?_
   intro ra rc z00 e1 e2 e3 e4 e5
   try simp only [Nat.zero_add,List.nil_append] at e1 e5 ⊢
   have zpM:=qh (hT0.out.app e1 e4 e5)
   clear e1 e2 e3 e4 e5
   refine hK.out _ _ zpM.out.below (λ_=> ?_)
   clear hK K
   refine zF 5 zP (zpM.out.below) ?_
   refine yC 6 rfl (λK hK=> ?_)
   go_simp
   have ze2:=zpM.out.alloc [.slice none 0 0, .slice none 0 0, .bool false]
   refine hK.out _ _ ze2.below (λ_=> ?_)
   obtain⟨gb,hgb⟩:∃n,n=z00.heap.size:=⟨_,rfl⟩
   rw [<-hgb] at ze2 ⊢
   clear hgb
   generalize World.alloc z00 _=zAe at ze2 ⊢
   replace ze2:=qh ze2
   clear hK K
   refine yC 7 rfl (λK hK=> ?_)
   obtain⟨b1,b2,b3,b4,b5⟩:=ze2.out.zi3 (gb:=gb) (a:= .slice none 0 0) (b:= .slice none 0 0) (c:= .bool false) (by simp) (.slice none 0 0) (.slice ra m rc) (.bool bad)
   obtain⟨hn, -, -⟩:=ze2.out.news (gb, [.slice none 0 0, .slice none 0 0, .bool false]) (by simp)
   have d0:=ze hn 0
   have f0:=zA hn 0
   have d1:=ze hn 1
   have f1:=zA hn 1
   have d2:=ze hn 2
   have f2:=zA hn 2
   clear hn
   have HB1:=qh b1
   have HB2:=qh b2
   have HB3:=qh b3
   have gJ:=qh b5
   have vF:=qh b4
   clear b1 b2 b3 b4 b5
   go_simp
   refine hK.out _ _ HB1.out (λ_=> ?_)
   clear hK K
   refine xW ?_
   go_wp2_with fail
   go_meet
   case rel=>exact⟨gb,ra,rc,by first|rfl|simp,vU.start (by rw [<-vH.out];exact HB2.out) HB1.out HB3.out vF.out gJ.out⟩
  skip
  go_simp
  have zco:=hT0.out.alloc [.slice none 0 0, .slice none 0 0, .bool false]
  refine hK.out _ _ zco.below (λ_=> ?_)
  obtain⟨gb,hgb⟩:∃n,n=wd.heap.size:=⟨_,rfl⟩
  rw [<-hgb] at zco ⊢
  clear hgb
  generalize World.alloc wd _=z6p at zco ⊢
  replace zco:=qh zco
  clear hK K
  refine yC 2 rfl (λK hK=> ?_)
  refine zK z6p (by rfl) (.const (.slice none 0 0)) (.tmp 7) 31 rfl 3 (.int .i64 0) 1 8 Tryz.underlying31 vg rfl (by decide) W.heap.size (.slice none 0 0) 0 [] (by rfl) zco.out.row ⟨mb,mo,none⟩ m mc (zo yM mem) (by rfl) ((jB (f:=yM) zaC mem).trans (by rw [<-vH.out])) (zcn.out _ (zco.out.below)) (zo6) (by unfold maxLen;omega) (by omega) zco.out.below.size ?_
  intro ra rc zAf e1 e2 e3 e4 e5
  try simp only [Nat.zero_add,List.nil_append] at e1 e5 ⊢
  have zkQ:=qh (zco.out.app e1 e4 e5)
  clear e1 e2 e3 e4 e5
  refine hK.out _ _ zkQ.out.below (λ_=> ?_)
  clear hK K
  refine zF 5 zP (zkQ.out.below) ?_
  refine yC 7 rfl (λK hK=> ?_)
  obtain⟨b1,b2,b3,b4,b5⟩:=zkQ.out.zi3 (gb:=gb) (a:= .slice none 0 0) (b:= .slice none 0 0) (c:= .bool false) (by simp) (.slice none 0 0) (.slice ra m rc) (.bool bad)
  obtain⟨hn, -, -⟩:=zkQ.out.news (gb, [.slice none 0 0, .slice none 0 0, .bool false]) (by simp)
  have d0:=ze hn 0
  have f0:=zA hn 0
  have d1:=ze hn 1
  have f1:=zA hn 1
  have d2:=ze hn 2
  have f2:=zA hn 2
  clear hn
  have HB1:=qh b1
  have HB2:=qh b2
  have HB3:=qh b3
  have gJ:=qh b5
  have vF:=qh b4
  clear b1 b2 b3 b4 b5
  go_simp
  refine hK.out _ _ HB1.out (λ_=> ?_)
  clear hK K
  refine xW ?_
  go_wp2_with fail
  go_meet
  case rel=>exact⟨gb,ra,rc,by first|rfl|simp,vU.start (by rw [<-vH.out];exact HB2.out) HB1.out HB3.out vF.out gJ.out⟩
 case rest=>
 obtain⟨gb,va,vc,rfl,HO⟩:=hcut
 go_wp2_with fail
 go_loopg [4] n (λgg s4 wr=>∃(i:Nat) (oa:Option Addr) (oc:Nat) (bs:List Value),i<=n/\Hid (gg=n - i)/\s4= .int .i64 i/\Hid (vU W wr gb (.slice oa i oc) (.slice va m vc) bad (ts.take i) mem bs))
 case atStart=>exact⟨0,none,0, [],Nat.zero_le _,rfl,rfl,by simpa using HO⟩
 case round=>
 obtain⟨i,oa,oc,bs,hi,HG,rfl,HOL⟩:=hrel
 obtain⟨c0,c1,c2⟩:=HC.out wr HOL.out.below
 by_cases hlt:i<n
 rotate_left
 ·obtain rfl:n=i:=by omega
  have hfin:=HOL.out
  rw [List.take_of_length_le (by rw [<-HN.out];exact Nat.le_refl _)] at hfin
  have HF:=qh hfin
  have z0:=ze HOL.out.box 0
  have z1:=ze HOL.out.box 1
  have z2:=ze HOL.out.box 2
  have hgl:gx+1<W.heap.size:=zw H2.out
  have hres:=(HOL.out.below.block _ hgl).trans H2.out
  have d0:=ze hres 0
  have d1:=ze hres 1
  have d2:=ze hres 2
  have f0:=zA hres 0
  have f1:=zA hres 1
  have f2:=zA hres 2
  have hset:=zu (zu (zu hres 0 (.slice oa n oc)) 1 (.slice va m vc)) 2 (.bool bad)
  simp only [List.setIfInBounds_toArray,List.set_cons_zero,List.set_cons_succ] at hset
  have hS:Since (λk=>k=gx+1) wr (((wr.setCell ⟨gx+1,0,none⟩ (.slice oa n oc)).setCell ⟨gx+1,1,none⟩ (.slice va m vc)).setCell ⟨gx+1,2,none⟩ (.bool bad)):=Since.setCell (F:=λk=>k=gx+1) (p:=⟨gx+1,2,none⟩) (Since.setCell (F:=λk=>k=gx+1) (p:=⟨gx+1,1,none⟩) (Since.setCell (F:=λk=>k=gx+1) (p:=⟨gx+1,0,none⟩) (Since.refl _ wr) (.inl rfl) _) (.inl rfl) _) (.inl rfl) _
  have zJ:=qh hset
  have HSS:=qh hS
  have HGL:=qh hgl
  clear hset hS hgl hres hfin
  go_wp2_with fail
  (try simp only [Exit.inBlock,Exit.then])
  refine bodyPost_ret (xQ rfl _ _ (gx+1) 42 _ (0,0) _ rfl zJ.out Tryz.underlying42 rfl zM) rfl ?_
  have hlt:∀k,W.heap.size<=k->k≠gx+1:=λk hk=>by have:=HGL.out;omega
  refine⟨⟨.slice oa n oc, .slice va m vc,bs,rfl, ?_⟩, ?_⟩
  ·refine OwnAt.lower (B:=W.heap.size) ((HF.out.own).since HSS.out (λk hk=>hlt k ?_) (λk hk=>hlt k ?_) (λj hj k hk=>hlt k ?_)) (by have:=HSZ.out;have:=xg.out;omega)
   ·exact(HF.out.own.row.lt k hk).1
   ·exact(HF.out.own.mem.lt k hk).1
   exact((HF.out.own.buf j hj).lt k hk).1
  rw [<-xg.out] at HB ⊢
  exact(HB.out.trans (HF.out.below.mono (by have:=HSZ.out;omega))).trans (HSS.out.below (by have:=HSZ.out;have:=HF.out.below.size;omega) (λk e=>by omega))
 have qN:(i:Int)<(n:Int):=by omega
 obtain⟨tb,yJ,ba,bc,hta, -,hr4,x0,x1,x2,x3,x4,x5,hbuf⟩:=qG.part HT.out i (by rw [<-HN.out];exact hlt)
 subst hta
 obtain⟨t,ht⟩:∃t,t=ts.getD i default:=⟨_,rfl⟩
 rw [<-ht] at hr4 x0 x1 x2 x3 x4 x5 hbuf
 have hbl:=HBU.out i hlt
 rw [<-ht] at hbl
 have htake:ts.take (i+1)=ts.take i++ [t] :=bE (by rw [<-HN.out];exact hlt) ht
 have zgg:=qh htake
 have hlen:(ts.take i).length=i:=by rw [List.length_take, <-HN.out];omega
 have HLEN:=qh hlen
 have HR4:=qh hr4
 have zhb:=qh (zZ.below hbuf HOL.out.below)
 have k:=λp v h=>zk HOL.out.below p v h
 replace x0:=k _ _ x0
 replace x1:=k _ _ x1
 replace x2:=k _ _ x2
 replace x3:=k _ _ x3
 replace x4:=k _ _ x4
 replace x5:=k _ _ x5
 obtain⟨q0,q1,q2,q3,hq⟩:=wO hr4
 obtain⟨pc,hpc⟩:∃pc,pc=t.pc:=⟨_,rfl⟩
 obtain⟨bl,kG⟩:∃bl,bl=t.buf.length:=⟨_,rfl⟩
 have htc:∀bv,t.cells bv= [.int .i64 pc, .int .i64 q0, .int .i64 q1, .int .i64 q2, .int .i64 q3,bv] :=λbv=>by unfold zx.cells;rw [hq,hpc];rfl
 have HTC:=qh htc
 rw [<-hpc] at x0
 rw [hq] at x1 x2 x3 x4
 simp only [List.getD_cons_zero,List.getD_cons_succ] at x1 x2 x3 x4
 rw [<-kG] at x5 hbl zhb
 have jd:=qh kG
 clear ht hbuf k hq hpc kG htc htake hlen hr4
 go_upto_region 6 with fail
 clear c0 c1 c2 x0 x1 x2 x3 x4 x5
 have hn0:Since (λ_=>False) wr (wr.alloc (.cells #[.int .i64 pc, .int .i64 q0, .int .i64 q1, .int .i64 q2, .int .i64 q3, .slice ba bl bc] 80)):=(Since.refl _ wr).alloc _
 have hn1:=yj wr (.cells #[.int .i64 pc, .int .i64 q0, .int .i64 q1, .int .i64 q2, .int .i64 q3, .slice ba bl bc] 80)
 have hn2:(wr.alloc (.cells #[.int .i64 pc, .int .i64 q0, .int .i64 q1, .int .i64 q2, .int .i64 q3, .slice ba bl bc] 80)).heap.size=wr.heap.size+1:=by simp
 have HN0:=qh hn0
 have uY:=qh hn1
 have HN2:=qh hn2
 have HB0:=qh (zZ.below zhb.out (hn0.below (Nat.le_refl _) (λ_ e=>e.elim)))
 clear hn0 hn1 hn2
 generalize World.alloc wr _=X0 at HN0 uY HN2 HB0 ⊢
 obtain⟨nb,hnb⟩:∃nb,nb=wr.heap.size:=⟨_,rfl⟩
 rw [<-hnb] at uY HN2 ⊢
 have HNB:=qh hnb
 clear hnb
 go_cut [5] (λs5 w'=>∃bv:Value,s5= .pointer (some ⟨nb,0,none⟩)/\Hid (w'.heap[nb]? =some (.cells #[.int .i64 pc, .int .i64 q0, .int .i64 q1, .int .i64 q2, .int .i64 q3,bv] 80 (0,0)))/\bv.oneCell'=true/\
  Hid (∃X1,Since (λ_=>False) wr X1/\X1.ownsRow W.heap.size 110 2 bv t.buf.length (zo zl.cells t.buf)/\(∀k,bv.ownBlock=some k->wr.heap.size<=k/\k≠nb)/\Since (λk=>k=nb) X1 w'))
 case first=>
  have c5:=ze uY.out 5
  have f5:=zA uY.out 5
  by_cases hb0:bl=0
  ·subst hb0
   obtain⟨i0,hi0, -, -, -⟩:=info_parts xG
   go_wp2_with(at_builtin;go_must(refine zfF X0 rfl (.const (.slice none 0 0)) (.tmp 25) 78 rfl 110 i0 Tryz.underlying78 hi0 (by rfl) ba bc (by rfl) ?_))
   go_meet
   case rel=>
   refine⟨.slice none 0 0,rfl,qh ?_,rfl,X0,HN0.out, ?_, ?_,Since.setCell (F:=λk=>k=nb) (p:=⟨nb,5,none⟩) (Since.refl _ _) (.inl rfl) _⟩
   ·have:=zu uY.out 5 (.slice none 0 0)
    simpa using this
   ·obtain he:=List.eq_nil_of_length_eq_zero jd.out.symm
    rw [he]
    exact World.ownsRow_nil _ _ _ _
   intro k hk;simp [Value.ownBlock] at hk
  obtain⟨bb,bo,hba, -, -, -⟩:=zZ.part HB0.out 0 (by rw [<-jd.out];omega)
  subst hba
  have zcn:=qh (zh.news (R:=zan) (f:=zl.cells) (by decide) wS (λ_ _ _ h=>h) HB0.out)
  go_wp2_with(at_builtin;go_must(refine zI X0 rfl (.const (.slice none 0 0)) (.tmp 25) 78 rfl 110 (.agg #[.int .i64 0, .int .i64 0]) 2 16 Tryz.underlying78 xG rfl (by decide) W.heap.size (.slice none 0 0) 0 [] rfl (World.ownsRow_nil _ _ _ _) ⟨bb,bo,none⟩ bl bc (zo zl.cells t.buf) rfl (by rw [jB wS, <-jd.out]) zcn.out bF (by unfold maxLen;omega) (by omega) (by have:=HOL.out.below.size;have:=HN0.out.size;omega) ?_);intro ja jc X e1 e2 e3 e4 e5 e6;simp only [Nat.zero_add,List.nil_append] at e1 e5 ⊢;have HE1:=qh e1;have HE4:=qh e4;have HE5:=qh e5;have hq:=(e4.block nb (by have:=HN2.out;omega) (by simp [Value.ownBlock])).trans uY.out;have HQ:=qh hq;have g5:=ze hq 5;have h5:=zA hq 5;clear e1 e2 e3 e4 e5 e6 hq c5 f5)
  go_meet
  case rel=>
  refine⟨.slice ja bl jc,rfl,qh ?_,rfl,X,HN0.out.trans HE4.out (λk e=>by simp [Value.ownBlock] at e),by rw [<-jd.out];exact HE1.out, ?_,Since.setCell (F:=λk=>k=nb) (p:=⟨nb,5,none⟩) (Since.refl _ _) (.inl rfl) _⟩
  ·have:=zu HQ.out 5 (.slice ja bl jc)
   simpa using this
  intro k hk
  rcases HE5.out k hk with e|e
  ·simp [Value.ownBlock] at e
  have:=HN2.out
  have:=HNB.out
  exact⟨by omega,by omega⟩
 case rest=>
 obtain⟨bv,rfl,HQ,hbv,HX1⟩:=hcut
 obtain⟨X1,hs1,hbo,hbn,hs2⟩:=HX1.out
 have vC:=qh hs1
 have HS2:=qh hs2
 have HBO:=qh hbo
 have HBN:=qh hbn
 have uX:=HOL.out.own.row
 rw [HLEN.out] at uX
 have hrow:=hs2.row (hs1.row uX (λ_ _ e=>e)) (λk hk e=>by have:=(uX.lt k hk).2;have:=HNB.out;omega)
 have hgb:=zw HOL.out.box
 have bG:=(hs2.block gb (by have:=hs1.size;omega) (by have:=HNB.out;omega)).trans ((hs1.block gb hgb (λe=>e)).trans HOL.out.box)
 have z03:W.heap.size<=wc.heap.size:=by have:=HOL.out.below.size;have:=hs1.size;have:=hs2.size;omega
 have qZ:=qh hrow
 have zuR:=qh bG
 have z6q:=qh z03
 have xZ:=qh hgb
 have hone:∀u∈ [Value.int .i64 pc, .int .i64 q0, .int .i64 q1, .int .i64 q2, .int .i64 q3,bv],u.oneCell'=true:=λu hu=>by
  simp only [List.mem_cons,List.not_mem_nil,or_false] at hu
  rcases hu with rfl|rfl|rfl|rfl|rfl|rfl<;>first|rfl|exact hbv
 have zes:=qh hone
 clear hone
 have y0:=ze HQ.out 0
 have y1:=ze HQ.out 1
 have y2:=ze HQ.out 2
 have y3:=ze HQ.out 3
 have y4:=ze HQ.out 4
 have y5:=ze HQ.out 5
 have z0:=ze bG 0
 clear hs1 hs2 hbo hbn uX hrow bG z03 hgb HX1
 go_wp2_with(at_builtin;go_must(refine zI _ rfl _ _ 40 rfl 80 (.agg #[.int .i64 0, .int .i64 0, .int .i64 0, .int .i64 0, .int .i64 0, .slice none 0 0]) 6 64 Tryz.underlying40 zao rfl (by decide) W.heap.size (.slice oa i oc) i (zY (ts.take i) bs) rfl (qZ.out.alloc _) ⟨wc.heap.size,0,none⟩ 1 1 [.int .i64 pc, .int .i64 q0, .int .i64 q1, .int .i64 q2, .int .i64 q3,bv] rfl rfl (qY _ _ _) zes.out (by unfold maxLen;omega) (by omega) (by have:=z6q.out;simp;omega) ?_);intro ja jc X e1 e2 e3 e4 e5 e6;have HE1:=qh e1;have HE4:=qh e4;have HE5:=qh e5;have hq:=(e4.block gb (by have:=zw zuR.out;simp;omega) HOL.out.n1).trans ((Below.heap_alloc _ _ _ (zw zuR.out)).trans zuR.out);have g0:=ze hq 0;have g1:=zA hq 0;clear e1 e2 e3 e4 e5 e6 hq)
 go_roundg (n - (i+1))
 case measure=>rw [HG.out];omega
 case rel=>exact⟨i+1,ja,jc,bs++ [bv],by omega,rfl,by simp,by rw [zgg.out];exact vU.push HOL.out HR4.out vC.out HBO.out HBN.out (HS2.out.alloc _) (by rw [HNB.out];exact Nat.le_refl _) (by rw [HLEN.out,HTC.out];exact HE1.out) HE4.out HE5.out⟩
