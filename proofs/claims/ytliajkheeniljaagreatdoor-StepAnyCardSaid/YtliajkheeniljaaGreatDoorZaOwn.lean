/- A state in memory of its own: the document's answer: the walk. -/
import Derived.Deep.CutBlock
import Derived.Test.YtliajkheeniljaaGreatDoorZaOwnP
import Derived.Test.YtliajkheeniljaaGreatDoorZaShort
set_option linter.all false
namespace Go.Proofs.YtliajkheeniljaaGreatDoor
open Go.RowKit
set_option maxRecDepth 100000
set_option maxHeartbeats 16000000
theorem zhB (w:World) (s:zu) (tv mv:Value) (h:zN w s tv mv) (hl:s.threads.length<=1000000) (hm:s.mem.length<=1000000) (hb:∀j,j<s.threads.length->(s.threads.getD j default).buf.length<=1000000):
  Calls Tryz.prog 64 #[zW s tv mv] w fun e w'=>(∃tv' mv' bs,e= .returned (zW s tv' mv')/\OwnAt w.heap.size w' tv' mv' s.threads s.mem bs)/\Below w.heap.size w w':=by
 obtain⟨ta,tc,rfl, -⟩:=zl.slice h.threads
 obtain⟨ma,mc,rfl, -⟩:=zl.slice h.mem
 obtain⟨ts,mem,bad⟩:=s
 simp only [] at h hl hm hb ⊢
 obtain⟨n,hn⟩:∃n,n=ts.length:=⟨_,rfl⟩
 obtain⟨m,hmn⟩:∃m,m=mem.length:=⟨_,rfl⟩
 have hT:=h.threads
 have hM:=h.mem
 simp only [] at hT hM
 clear h
 unfold zW
 simp only []
 rw [<-hn] at hl hT hb ⊢
 rw [<-hmn] at hm hM ⊢
 have HB:=qh (xw w (.cells #[.slice ta n tc, .slice ma m mc, .bool bad] 30) (.cells #[.slice none 0 0, .slice none 0 0, .bool false] 30))
 have H1:=qh (xA w (.cells #[.slice ta n tc, .slice ma m mc, .bool bad] 30) (.cells #[.slice none 0 0, .slice none 0 0, .bool false] 30))
 have H2:=qh (xq w (.cells #[.slice ta n tc, .slice ma m mc, .bool bad] 30) (.cells #[.slice none 0 0, .slice none 0 0, .bool false] 30))
 have hsz:((w.alloc (.cells #[.slice ta n tc, .slice ma m mc, .bool bad] 30)).alloc (.cells #[.slice none 0 0, .slice none 0 0, .bool false] 30)).heap.size=w.heap.size+2:=by simp
 have HSZ:=qh hsz
 have HT:=qh (zl.below jf.stays hT HB.out)
 have HM:=qh (zl.below jY.stays hM HB.out)
 have bC:=qh hb
 have HN:=qh hn
 have vH:=qh hmn
 clear hT hM hb hn hmn hsz
 go_enter Tryz.func64,Tryz.ntmps64
 go_upto_region 1 with fail
 generalize World.alloc (World.alloc w _) _=W at HB H1 H2 HSZ HT HM ⊢
 obtain⟨gx,hgx⟩:∃gx,gx=w.heap.size:=⟨_,rfl⟩
 rw [<-hgx] at H1 H2 HSZ ⊢
 have xO:=qh hgx
 clear hgx
 have HC:Hid (∀x,Below W.heap.size W x->x.cell? ⟨gx,0,none⟩=some (.slice ta n tc)/\x.cell? ⟨gx,1,none⟩=some (.slice ma m mc)/\x.cell? ⟨gx,2,none⟩=some (.bool bad)):=fun x hx=>
  ⟨zm hx _ _ (zh H1.out 0),zm hx _ _ (zh H1.out 1),zm hx _ _ (zh H1.out 2)⟩
 go_cut [3] (fun s3 wr=>∃(gb:Nat) (va:Option Addr) (vc:Nat),s3= .pointer (some ⟨gb,0,none⟩)/\Hid (qp W wr gb (.slice none 0 0) (.slice va m vc) bad [] mem []))
 case first=>
  have h0:=vK.start 3 1 30 W
  have hT0:=qh h0.drew
  clear h0
  by_cases hm0:m=0
  ·subst hm0
   obtain⟨i0,hi0, -, -, -⟩:=info_parts qC
   have HE:Hid (mem= []):=List.eq_nil_of_length_eq_zero vH.out.symm
   refine wp_region_noPanic ?_
   refine wp_region_held_drew (S:=fun x=>Below W.heap.size W x) (by kernel_rfl) (Below.refl _ _).drew (fun _=> ?_)
   obtain⟨wd,hwd⟩:∃wd,wd=W.drew:=⟨_,rfl⟩
   rw [<-hwd] at hT0 ⊢
   clear hwd
   refine zA 0 6 ?zBs rfl ?zwQ (hT0.out.below) ?_
   case zwQ=>(intro _ _;go_simp<;>rfl)
   simp only [Act.put,za,ze,zf]
   refine zA 1 7 ?zBt rfl ?zwR (hT0.out.below) ?_
   case zwR=>(intro x h;have e:=HC.out x h;go_simp<;>rfl)
   simp only [Act.put,za,ze,zf]
   refine zA 3 9 ?zBu rfl ?zwS (hT0.out.below) ?_
   case zwS=>(intro _ _;go_simp<;>rfl)
   simp only [Act.put,za,ze,zf]
   refine zA 4 10 ?zBv rfl ?zwT (hT0.out.below) ?_
   case zwT=>(intro x h;have e:=HC.out x h;go_simp<;>rfl)
   simp only [Act.put,za,ze,zf]
   refine wpAnyH_ready (rs:= [2,6]) (by kernel_rfl) (by simp) ?_
   refine AllReadyH.cons rfl (fun K hK=> ?_) (AllReadyH.cons rfl (fun K hK=> ?_) AllReadyH.nil)
   ·skip
    refine qR wd (by rfl) (.const (.slice none 0 0)) (.tmp 7) 28 rfl 3 i0 Tryz.underlying28 hi0 (by rfl) ma mc (by rfl) ?_
    refine hK.out _ _ (hT0.out.below) (fun _=> ?_)
    clear hK K
    refine zA 5 11 ?zBw rfl ?zwU (hT0.out.below) ?_
    case zwU=>(intro _ _;go_simp<;>rfl)
    simp only [Act.put,za,ze,zf]
    refine zT 6 rfl (fun K hK=> ?_)
    go_simp
    have zaQ:=hT0.out.alloc [.slice none 0 0, .slice none 0 0, .bool false]
    refine hK.out _ _ zaQ.below (fun _=> ?_)
    obtain⟨gb,hgb⟩:∃n,n=wd.heap.size:=⟨_,rfl⟩
    rw [<-hgb] at zaQ ⊢
    clear hgb
    generalize World.alloc wd _=zBx at zaQ ⊢
    replace zaQ:=qh zaQ
    clear hK K
    refine zT 7 rfl (fun K hK=> ?_)
    obtain⟨b1,b2,b3,b4,b5⟩:=zaQ.out.zds (gb:=gb) (a:= .slice none 0 0) (b:= .slice none 0 0) (c:= .bool false) (by simp) (.slice none 0 0) (.slice none 0 0) (.bool bad)
    obtain⟨hn, -, -⟩:=zaQ.out.news (gb, [.slice none 0 0, .slice none 0 0, .bool false]) (by simp)
    have d0:=zh hn 0
    have f0:=zK hn 0
    have d1:=zh hn 1
    have f1:=zK hn 1
    have d2:=zh hn 2
    have f2:=zK hn 2
    clear hn
    have HB1:=qh b1
    have HB2:=qh b2
    have HB3:=qh b3
    have uK:=qh b5
    have qO:=qh b4
    clear b1 b2 b3 b4 b5
    go_simp
    refine hK.out _ _ HB1.out (fun _=> ?_)
    clear hK K
    refine wpAnyH_done (by kernel_rfl) ?_ _
    refine NoPanic.normal ?_
    go_wp2_with fail
    go_meet
    case rel=>exact⟨gb,none,0,by first|rfl|simp,qp.start (by rw [HE.out];exact HB2.out) HB1.out HB3.out qO.out uK.out⟩
   ·skip
    go_simp
    have bI:=hT0.out.alloc [.slice none 0 0, .slice none 0 0, .bool false]
    refine hK.out _ _ bI.below (fun _=> ?_)
    obtain⟨gb,hgb⟩:∃n,n=wd.heap.size:=⟨_,rfl⟩
    rw [<-hgb] at bI ⊢
    clear hgb
    generalize World.alloc wd _=z1U at bI ⊢
    replace bI:=qh bI
    clear hK K
    refine zT 2 rfl (fun K hK=> ?_)
    refine qR z1U (by rfl) (.const (.slice none 0 0)) (.tmp 7) 28 rfl 3 i0 Tryz.underlying28 hi0 (by rfl) ma mc (by rfl) ?_
    refine hK.out _ _ (bI.out.below) (fun _=> ?_)
    clear hK K
    refine zA 5 11 ?zBy rfl ?zwV (bI.out.below) ?_
    case zwV=>(intro _ _;go_simp<;>rfl)
    simp only [Act.put,za,ze,zf]
    refine zT 7 rfl (fun K hK=> ?_)
    obtain⟨b1,b2,b3,b4,b5⟩:=bI.out.zds (gb:=gb) (a:= .slice none 0 0) (b:= .slice none 0 0) (c:= .bool false) (by simp) (.slice none 0 0) (.slice none 0 0) (.bool bad)
    obtain⟨hn, -, -⟩:=bI.out.news (gb, [.slice none 0 0, .slice none 0 0, .bool false]) (by simp)
    have d0:=zh hn 0
    have f0:=zK hn 0
    have d1:=zh hn 1
    have f1:=zK hn 1
    have d2:=zh hn 2
    have f2:=zK hn 2
    clear hn
    have HB1:=qh b1
    have HB2:=qh b2
    have HB3:=qh b3
    have uK:=qh b5
    have qO:=qh b4
    clear b1 b2 b3 b4 b5
    go_simp
    refine hK.out _ _ HB1.out (fun _=> ?_)
    clear hK K
    refine wpAnyH_done (by kernel_rfl) ?_ _
    refine NoPanic.normal ?_
    go_wp2_with fail
    go_meet
    case rel=>exact⟨gb,none,0,by first|rfl|simp,qp.start (by rw [HE.out];exact HB2.out) HB1.out HB3.out qO.out uK.out⟩
  obtain⟨mb,mo,hma, -, -⟩:=xH.part HM.out 0 (by rw [<-vH.out];omega)
  subst hma
  have bJ:Hid (∀x,Below W.heap.size W x->∀j u,(zq yE mem)[j]? =some u->x.cell? ((⟨mb,mo,none⟩:Addr).add j)=some u):=fun x hx=>zl.news (R:=jY) (f:=yE) (by decide) wO (fun _ _ _ h=>h) (zl.below jY.stays HM.out hx)
  refine wp_region_noPanic ?_
  refine wp_region_held_drew (S:=fun x=>Below W.heap.size W x) (by kernel_rfl) (Below.refl _ _).drew (fun _=> ?_)
  obtain⟨wd,hwd⟩:∃wd,wd=W.drew:=⟨_,rfl⟩
  rw [<-hwd] at hT0 ⊢
  clear hwd
  refine zA 0 6 ?zBz rfl ?zwW (hT0.out.below) ?_
  case zwW=>(intro _ _;go_simp<;>rfl)
  simp only [Act.put,za,ze,zf]
  refine zA 1 7 ?zB0 rfl ?zwX (hT0.out.below) ?_
  case zwX=>(intro x h;have e:=HC.out x h;go_simp<;>rfl)
  simp only [Act.put,za,ze,zf]
  refine zA 3 9 ?zB1 rfl ?zwY (hT0.out.below) ?_
  case zwY=>(intro _ _;go_simp<;>rfl)
  simp only [Act.put,za,ze,zf]
  refine zA 4 10 ?z9P rfl ?zsG (hT0.out.below) ?_
  case zsG=>(intro x h;have e:=HC.out x h;go_simp<;>rfl)
  simp only [Act.put,za,ze,zf]
  refine wpAnyH_ready (rs:= [2,6]) (by kernel_rfl) (by simp) ?_
  refine AllReadyH.cons rfl (fun K hK=> ?_) (AllReadyH.cons rfl (fun K hK=> ?_) AllReadyH.nil)
  ·skip
   refine zP wd (by rfl) (.const (.slice none 0 0)) (.tmp 7) 28 rfl 3 (.int .i64 0) 1 8 Tryz.underlying28 qC rfl (by decide) W.heap.size (.slice none 0 0) 0 [] (by rfl) hT0.out.row ⟨mb,mo,none⟩ m mc (zq yE mem) (by rfl) ((vI (f:=yE) wO mem).trans (by rw [<-vH.out])) (bJ.out _ (hT0.out.below)) (zhC) (by unfold maxLen;omega) (by omega) hT0.out.below.size ?_
   intro ra rc zsH e1 e2 e3 e4 e5
   try simp only [Nat.zero_add,List.nil_append] at e1 e5 ⊢
   have zil:=qh (hT0.out.app e1 e4 e5)
   clear e1 e2 e3 e4 e5
   refine hK.out _ _ zil.out.below (fun _=> ?_)
   clear hK K
   refine zA 5 11 ?z9Q rfl ?zsI (zil.out.below) ?_
   case zsI=>(intro _ _;go_simp<;>rfl)
   simp only [Act.put,za,ze,zf]
   refine zT 6 rfl (fun K hK=> ?_)
   go_simp
   have zaR:=zil.out.alloc [.slice none 0 0, .slice none 0 0, .bool false]
   refine hK.out _ _ zaR.below (fun _=> ?_)
   obtain⟨gb,hgb⟩:∃n,n=zsH.heap.size:=⟨_,rfl⟩
   rw [<-hgb] at zaR ⊢
   clear hgb
   generalize World.alloc zsH _=zB2 at zaR ⊢
   replace zaR:=qh zaR
   clear hK K
   refine zT 7 rfl (fun K hK=> ?_)
   obtain⟨b1,b2,b3,b4,b5⟩:=zaR.out.zds (gb:=gb) (a:= .slice none 0 0) (b:= .slice none 0 0) (c:= .bool false) (by simp) (.slice none 0 0) (.slice ra m rc) (.bool bad)
   obtain⟨hn, -, -⟩:=zaR.out.news (gb, [.slice none 0 0, .slice none 0 0, .bool false]) (by simp)
   have d0:=zh hn 0
   have f0:=zK hn 0
   have d1:=zh hn 1
   have f1:=zK hn 1
   have d2:=zh hn 2
   have f2:=zK hn 2
   clear hn
   have HB1:=qh b1
   have HB2:=qh b2
   have HB3:=qh b3
   have uK:=qh b5
   have qO:=qh b4
   clear b1 b2 b3 b4 b5
   go_simp
   refine hK.out _ _ HB1.out (fun _=> ?_)
   clear hK K
   refine wpAnyH_done (by kernel_rfl) ?_ _
   refine NoPanic.normal ?_
   go_wp2_with fail
   go_meet
   case rel=>exact⟨gb,ra,rc,by first|rfl|simp,qp.start (by rw [<-vH.out];exact HB2.out) HB1.out HB3.out qO.out uK.out⟩
  ·skip
   go_simp
   have bK:=hT0.out.alloc [.slice none 0 0, .slice none 0 0, .bool false]
   refine hK.out _ _ bK.below (fun _=> ?_)
   obtain⟨gb,hgb⟩:∃n,n=wd.heap.size:=⟨_,rfl⟩
   rw [<-hgb] at bK ⊢
   clear hgb
   generalize World.alloc wd _=z1V at bK ⊢
   replace bK:=qh bK
   clear hK K
   refine zT 2 rfl (fun K hK=> ?_)
   refine zP z1V (by rfl) (.const (.slice none 0 0)) (.tmp 7) 28 rfl 3 (.int .i64 0) 1 8 Tryz.underlying28 qC rfl (by decide) W.heap.size (.slice none 0 0) 0 [] (by rfl) bK.out.row ⟨mb,mo,none⟩ m mc (zq yE mem) (by rfl) ((vI (f:=yE) wO mem).trans (by rw [<-vH.out])) (bJ.out _ (bK.out.below)) (zhC) (by unfold maxLen;omega) (by omega) bK.out.below.size ?_
   intro ra rc zB3 e1 e2 e3 e4 e5
   try simp only [Nat.zero_add,List.nil_append] at e1 e5 ⊢
   have zfw:=qh (bK.out.app e1 e4 e5)
   clear e1 e2 e3 e4 e5
   refine hK.out _ _ zfw.out.below (fun _=> ?_)
   clear hK K
   refine zA 5 11 ?z9R rfl ?zsJ (zfw.out.below) ?_
   case zsJ=>(intro _ _;go_simp<;>rfl)
   simp only [Act.put,za,ze,zf]
   refine zT 7 rfl (fun K hK=> ?_)
   obtain⟨b1,b2,b3,b4,b5⟩:=zfw.out.zds (gb:=gb) (a:= .slice none 0 0) (b:= .slice none 0 0) (c:= .bool false) (by simp) (.slice none 0 0) (.slice ra m rc) (.bool bad)
   obtain⟨hn, -, -⟩:=zfw.out.news (gb, [.slice none 0 0, .slice none 0 0, .bool false]) (by simp)
   have d0:=zh hn 0
   have f0:=zK hn 0
   have d1:=zh hn 1
   have f1:=zK hn 1
   have d2:=zh hn 2
   have f2:=zK hn 2
   clear hn
   have HB1:=qh b1
   have HB2:=qh b2
   have HB3:=qh b3
   have uK:=qh b5
   have qO:=qh b4
   clear b1 b2 b3 b4 b5
   go_simp
   refine hK.out _ _ HB1.out (fun _=> ?_)
   clear hK K
   refine wpAnyH_done (by kernel_rfl) ?_ _
   refine NoPanic.normal ?_
   go_wp2_with fail
   go_meet
   case rel=>exact⟨gb,ra,rc,by first|rfl|simp,qp.start (by rw [<-vH.out];exact HB2.out) HB1.out HB3.out qO.out uK.out⟩
 case rest=>
  obtain⟨gb,va,vc,rfl,HO⟩:=hcut
  go_wp2_with fail
  go_loopg [4] n (fun gg s4 wr=>∃(i:Nat) (oa:Option Addr) (oc:Nat) (bs:List Value),i<=n/\Hid (gg=n - i)/\s4= .int .i64 i/\Hid (qp W wr gb (.slice oa i oc) (.slice va m vc) bad (ts.take i) mem bs))
  case atStart=>exact⟨0,none,0, [],Nat.zero_le _,rfl,rfl,by simpa using HO⟩
  case round=>
   obtain⟨i,oa,oc,bs,hi,HG,rfl,HOL⟩:=hrel
   obtain⟨c0,c1,c2⟩:=HC.out wr HOL.out.below
   by_cases hlt:i<n
   rotate_left
   ·obtain rfl:n=i:=by omega
    have hfin:=HOL.out
    rw [List.take_of_length_le (by rw [<-HN.out];exact Nat.le_refl _)] at hfin
    have HF:=qh hfin
    have z0:=zh HOL.out.box 0
    have z1:=zh HOL.out.box 1
    have z2:=zh HOL.out.box 2
    have hgl:gx+1<W.heap.size:=zJ H2.out
    have hres:=(HOL.out.below.block _ hgl).trans H2.out
    have d0:=zh hres 0
    have d1:=zh hres 1
    have d2:=zh hres 2
    have f0:=zK hres 0
    have f1:=zK hres 1
    have f2:=zK hres 2
    have hset:=zx (zx (zx hres 0 (.slice oa n oc)) 1 (.slice va m vc)) 2 (.bool bad)
    simp only [List.setIfInBounds_toArray,List.set_cons_zero,List.set_cons_succ] at hset
    have hS:Since (fun k=>k=gx+1) wr (((wr.setCell ⟨gx+1,0,none⟩ (.slice oa n oc)).setCell ⟨gx+1,1,none⟩ (.slice va m vc)).setCell ⟨gx+1,2,none⟩ (.bool bad)):=Since.setCell (F:=fun k=>k=gx+1) (p:=⟨gx+1,2,none⟩) (Since.setCell (F:=fun k=>k=gx+1) (p:=⟨gx+1,1,none⟩) (Since.setCell (F:=fun k=>k=gx+1) (p:=⟨gx+1,0,none⟩) (Since.refl _ wr) (.inl rfl) _) (.inl rfl) _) (.inl rfl) _
    have zI:=qh hset
    have wW:=qh hS
    have jv:=qh hgl
    clear hset hS hgl hres hfin
    go_wp2_with fail
    (try simp only [Exit.inBlock,Exit.then])
    refine bodyPost_ret (qI rfl _ _ (gx+1) 30 _ (0,0) _ rfl zI.out Tryz.underlying30 rfl zC) rfl ?_
    have hlt:∀k,W.heap.size<=k->k≠gx+1:=fun k hk=>by have:=jv.out;omega
    refine⟨⟨.slice oa n oc, .slice va m vc,bs,rfl, ?_⟩, ?_⟩
    ·refine OwnAt.lower (B:=W.heap.size) ((HF.out.own).since wW.out (fun k hk=>hlt k ?_) (fun k hk=>hlt k ?_) (fun j hj k hk=>hlt k ?_)) (by have:=HSZ.out;have:=xO.out;omega)
     ·exact(HF.out.own.row.lt k hk).1
     ·exact(HF.out.own.mem.lt k hk).1
     ·exact((HF.out.own.buf j hj).lt k hk).1
    ·rw [<-xO.out] at HB ⊢
     exact(HB.out.trans (HF.out.below.mono (by have:=HSZ.out;omega))).trans (wW.out.below (by have:=HSZ.out;have:=HF.out.below.size;omega) (fun k e=>by omega))
   have qg:(i:Int)<(n:Int):=by omega
   obtain⟨tb,yC,ba,bc,hta, -,hr4,x0,x1,x2,x3,x4,x5,hbuf⟩:=xD.part HT.out i (by rw [<-HN.out];exact hlt)
   subst hta
   obtain⟨t,ht⟩:∃t,t=ts.getD i default:=⟨_,rfl⟩
   rw [<-ht] at hr4 x0 x1 x2 x3 x4 x5 hbuf
   have hbl:=bC.out i hlt
   rw [<-ht] at hbl
   have htake:ts.take (i+1)=ts.take i++ [t] :=jw (by rw [<-HN.out];exact hlt) ht
   have zcs:=qh htake
   have hlen:(ts.take i).length=i:=by rw [List.length_take, <-HN.out];omega
   have HLEN:=qh hlen
   have HR4:=qh hr4
   have uV:=qh (zH.below hbuf HOL.out.below)
   have k:=fun p v h=>zm HOL.out.below p v h
   replace x0:=k _ _ x0
   replace x1:=k _ _ x1
   replace x2:=k _ _ x2
   replace x3:=k _ _ x3
   replace x4:=k _ _ x4
   replace x5:=k _ _ x5
   obtain⟨q0,q1,q2,q3,hq⟩:=vT hr4
   obtain⟨pc,hpc⟩:∃pc,pc=t.pc:=⟨_,rfl⟩
   obtain⟨bl,vw⟩:∃bl,bl=t.buf.length:=⟨_,rfl⟩
   have htc:∀bv,t.cells bv= [.int .i64 pc, .int .i64 q0, .int .i64 q1, .int .i64 q2, .int .i64 q3,bv] :=fun bv=>by unfold zw.cells;rw [hq,hpc];rfl
   have HTC:=qh htc
   rw [<-hpc] at x0
   rw [hq] at x1 x2 x3 x4
   simp only [List.getD_cons_zero,List.getD_cons_succ] at x1 x2 x3 x4
   rw [<-vw] at x5 hbl uV
   have vD:=qh vw
   clear ht hbuf k hq hpc vw htc htake hlen hr4
   go_upto_region 6 with fail
   clear c0 c1 c2 x0 x1 x2 x3 x4 x5
   have hn0:Since (fun _=>False) wr (wr.alloc (.cells #[.int .i64 pc, .int .i64 q0, .int .i64 q1, .int .i64 q2, .int .i64 q3, .slice ba bl bc] 48)):=(Since.refl _ wr).alloc _
   have hn1:=yK wr (.cells #[.int .i64 pc, .int .i64 q0, .int .i64 q1, .int .i64 q2, .int .i64 q3, .slice ba bl bc] 48)
   have hn2:(wr.alloc (.cells #[.int .i64 pc, .int .i64 q0, .int .i64 q1, .int .i64 q2, .int .i64 q3, .slice ba bl bc] 48)).heap.size=wr.heap.size+1:=by simp
   have HN0:=qh hn0
   have HN1:=qh hn1
   have HN2:=qh hn2
   have HB0:=qh (zH.below uV.out (hn0.below (Nat.le_refl _) (fun _ e=>e.elim)))
   clear hn0 hn1 hn2
   generalize World.alloc wr _=X0 at HN0 HN1 HN2 HB0 ⊢
   obtain⟨nb,hnb⟩:∃nb,nb=wr.heap.size:=⟨_,rfl⟩
   rw [<-hnb] at HN1 HN2 ⊢
   have HNB:=qh hnb
   clear hnb
   go_cut [5] (fun s5 w'=>∃bv:Value,s5= .pointer (some ⟨nb,0,none⟩)/\Hid (w'.heap[nb]? =some (.cells #[.int .i64 pc, .int .i64 q0, .int .i64 q1, .int .i64 q2, .int .i64 q3,bv] 48 (0,0)))/\bv.oneCell'=true/\
    Hid (∃X1,Since (fun _=>False) wr X1/\X1.ownsRow W.heap.size 50 2 bv t.buf.length (zq zn.cells t.buf)/\(∀k,bv.ownBlock=some k->wr.heap.size<=k/\k≠nb)/\Since (fun k=>k=nb) X1 w'))
   case first=>
    have c5:=zh HN1.out 5
    have f5:=zK HN1.out 5
    by_cases hb0:bl=0
    ·subst hb0
     obtain⟨i0,hi0, -, -, -⟩:=info_parts yM
     go_wp2_with(at_builtin;go_must(refine zbL X0 rfl (.const (.slice none 0 0)) (.tmp 25) 46 rfl 50 i0 Tryz.underlying46 hi0 (by rfl) ba bc (by rfl) ?_))
     go_meet
     case rel=>
      refine⟨.slice none 0 0,rfl,qh ?_,rfl,X0,HN0.out, ?_, ?_,Since.setCell (F:=fun k=>k=nb) (p:=⟨nb,5,none⟩) (Since.refl _ _) (.inl rfl) _⟩
      ·have:=zx HN1.out 5 (.slice none 0 0)
       simpa using this
      ·obtain he:=List.eq_nil_of_length_eq_zero vD.out.symm
       rw [he]
       exact World.ownsRow_nil _ _ _ _
      ·intro k hk;simp [Value.ownBlock] at hk
    obtain⟨bb,bo,hba, -, -, -⟩:=zH.part HB0.out 0 (by rw [<-vD.out];omega)
    subst hba
    have bJ:=qh (zl.news (R:=jK) (f:=zn.cells) (by decide) vV (fun _ _ _ h=>h) HB0.out)
    go_wp2_with(at_builtin;go_must(refine yt X0 rfl (.const (.slice none 0 0)) (.tmp 25) 46 rfl 50 (.agg #[.int .i64 0, .int .i64 0]) 2 16 Tryz.underlying46 yM rfl (by decide) W.heap.size (.slice none 0 0) 0 [] rfl (World.ownsRow_nil _ _ _ _) ⟨bb,bo,none⟩ bl bc (zq zn.cells t.buf) rfl (by rw [vI vV, <-vD.out]) bJ.out jZ (by unfold maxLen;omega) (by omega) (by have:=HOL.out.below.size;have:=HN0.out.size;omega) ?_);intro ja jc X e1 e2 e3 e4 e5 e6;simp only [Nat.zero_add,List.nil_append] at e1 e5 ⊢;have HE1:=qh e1;have HE4:=qh e4;have HE5:=qh e5;have hq:=(e4.block nb (by have:=HN2.out;omega) (by simp [Value.ownBlock])).trans HN1.out;have HQ:=qh hq;have g5:=zh hq 5;have h5:=zK hq 5;clear e1 e2 e3 e4 e5 e6 hq c5 f5)
    go_meet
    case rel=>
     refine⟨.slice ja bl jc,rfl,qh ?_,rfl,X,HN0.out.trans HE4.out (fun k e=>by simp [Value.ownBlock] at e),by rw [<-vD.out];exact HE1.out, ?_,Since.setCell (F:=fun k=>k=nb) (p:=⟨nb,5,none⟩) (Since.refl _ _) (.inl rfl) _⟩
     ·have:=zx HQ.out 5 (.slice ja bl jc)
      simpa using this
     ·intro k hk
      rcases HE5.out k hk with e|e
      ·simp [Value.ownBlock] at e
      ·have:=HN2.out
       have:=HNB.out
       exact⟨by omega,by omega⟩
   case rest=>
    obtain⟨bv,rfl,HQ,hbv,bZ⟩:=hcut
    obtain⟨X1,hs1,hbo,hbn,hs2⟩:=bZ.out
    have qF:=qh hs1
    have HS2:=qh hs2
    have HBO:=qh hbo
    have HBN:=qh hbn
    have zfx:=HOL.out.own.row
    rw [HLEN.out] at zfx
    have hrow:=hs2.row (hs1.row zfx (fun _ _ e=>e)) (fun k hk e=>by have:=(zfx.lt k hk).2;have:=HNB.out;omega)
    have hgb:=zJ HOL.out.box
    have pq:=(hs2.block gb (by have:=hs1.size;omega) (by have:=HNB.out;omega)).trans ((hs1.block gb hgb (fun e=>e)).trans HOL.out.box)
    have zsM:W.heap.size<=wc.heap.size:=by have:=HOL.out.below.size;have:=hs1.size;have:=hs2.size;omega
    have j5:=qh hrow
    have znn:=qh pq
    have z1W:=qh zsM
    have yS:=qh hgb
    have hone:∀u∈ [Value.int .i64 pc, .int .i64 q0, .int .i64 q1, .int .i64 q2, .int .i64 q3,bv],u.oneCell'=true:=fun u hu=>by
     simp only [List.mem_cons,List.not_mem_nil,or_false] at hu
     rcases hu with rfl|rfl|rfl|rfl|rfl|rfl<;>first|rfl|exact hbv
    have z1X:=qh hone
    clear hone
    have y0:=zh HQ.out 0
    have y1:=zh HQ.out 1
    have y2:=zh HQ.out 2
    have y3:=zh HQ.out 3
    have y4:=zh HQ.out 4
    have y5:=zh HQ.out 5
    have z0:=zh pq 0
    clear hs1 hs2 hbo hbn zfx hrow pq zsM hgb bZ
    go_wp2_with(at_builtin;go_must(refine yt _ rfl _ _ 27 rfl 48 (.agg #[.int .i64 0, .int .i64 0, .int .i64 0, .int .i64 0, .int .i64 0, .slice none 0 0]) 6 64 Tryz.underlying27 wB rfl (by decide) W.heap.size (.slice oa i oc) i (zL (ts.take i) bs) rfl (j5.out.alloc _) ⟨wc.heap.size,0,none⟩ 1 1 [.int .i64 pc, .int .i64 q0, .int .i64 q1, .int .i64 q2, .int .i64 q3,bv] rfl rfl (bV _ _ _) z1X.out (by unfold maxLen;omega) (by omega) (by have:=z1W.out;simp;omega) ?_);intro ja jc X e1 e2 e3 e4 e5 e6;have HE1:=qh e1;have HE4:=qh e4;have HE5:=qh e5;have hq:=(e4.block gb (by have:=zJ znn.out;simp;omega) HOL.out.n1).trans ((Below.heap_alloc _ _ _ (zJ znn.out)).trans znn.out);have g0:=zh hq 0;have g1:=zK hq 0;clear e1 e2 e3 e4 e5 e6 hq)
    go_roundg (n - (i+1))
    case measure=>rw [HG.out];omega
    case rel=>exact⟨i+1,ja,jc,bs++ [bv],by omega,rfl,by simp,by rw [zcs.out];exact qp.push HOL.out HR4.out qF.out HBO.out HBN.out (HS2.out.alloc _) (by rw [HNB.out];exact Nat.le_refl _) (by rw [HLEN.out,HTC.out];exact HE1.out) HE4.out HE5.out⟩
end Go.Proofs.YtliajkheeniljaaGreatDoor
