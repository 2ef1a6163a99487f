/- A state in memory of its own: the document's answer: the walk. -/
import Derived.Deep.CutBlock
import Derived.Test.YtliajkheeniljaaGreatDoorZsOwnP
import Derived.Test.YtliajkheeniljaaGreatDoorZsShort
set_option linter.all false
namespace Go.Proofs.YtliajkheeniljaaGreatDoor
open Go.RowKit
set_option maxRecDepth 100000
set_option maxHeartbeats 16000000
theorem zkA (w:World) (s:zu) (tv mv:Value) (h:zZ w s tv mv) (hl:s.threads.length<=1000000) (hm:s.mem.length<=1000000) (hb:∀j,j<s.threads.length->(s.threads.getD j default).buf.length<=1000000):
  Calls Tryz.prog 64 #[yH s tv mv] w fun e w'=>(∃tv' mv' bs,e= .returned (yH s tv' mv')/\OwnAt w.heap.size w' tv' mv' s.threads s.mem bs)/\Below w.heap.size w w':=by
 obtain⟨ta,tc,rfl, -⟩:=zk.slice h.threads
 obtain⟨ma,mc,rfl, -⟩:=zk.slice h.mem
 obtain⟨ts,mem,bad⟩:=s
 simp only [] at h hl hm hb ⊢
 obtain⟨n,hn⟩:∃n,n=ts.length:=⟨_,rfl⟩
 obtain⟨m,hmn⟩:∃m,m=mem.length:=⟨_,rfl⟩
 have hT:=h.threads
 have hM:=h.mem
 simp only [] at hT hM
 clear h
 unfold yH
 simp only []
 rw [<-hn] at hl hT hb ⊢
 rw [<-hmn] at hm hM ⊢
 have HB:=qh (xQ w (.cells #[.slice ta n tc, .slice ma m mc, .bool bad] 30) (.cells #[.slice none 0 0, .slice none 0 0, .bool false] 30))
 have H1:=qh (xH w (.cells #[.slice ta n tc, .slice ma m mc, .bool bad] 30) (.cells #[.slice none 0 0, .slice none 0 0, .bool false] 30))
 have H2:=qh (xu w (.cells #[.slice ta n tc, .slice ma m mc, .bool bad] 30) (.cells #[.slice none 0 0, .slice none 0 0, .bool false] 30))
 have hsz:((w.alloc (.cells #[.slice ta n tc, .slice ma m mc, .bool bad] 30)).alloc (.cells #[.slice none 0 0, .slice none 0 0, .bool false] 30)).heap.size=w.heap.size+2:=by simp
 have HSZ:=qh hsz
 have HT:=qh (zk.below gM.stays hT HB.out)
 have HM:=qh (zk.below wV.stays hM HB.out)
 have HBU:=qh hb
 have HN:=qh hn
 have vS:=qh hmn
 clear hT hM hb hn hmn hsz
 go_enter Tryz.func64,Tryz.ntmps64
 go_upto_region 1 with fail
 generalize World.alloc (World.alloc w _) _=W at HB H1 H2 HSZ HT HM ⊢
 obtain⟨gx,hgx⟩:∃gx,gx=w.heap.size:=⟨_,rfl⟩
 rw [<-hgx] at H1 H2 HSZ ⊢
 have yS:=qh hgx
 clear hgx
 have HC:Hid (∀x,Below W.heap.size W x->x.cell? ⟨gx,0,none⟩=some (.slice ta n tc)/\x.cell? ⟨gx,1,none⟩=some (.slice ma m mc)/\x.cell? ⟨gx,2,none⟩=some (.bool bad)):=fun x hx=>
  ⟨zl hx _ _ (zi H1.out 0),zl hx _ _ (zi H1.out 1),zl hx _ _ (zi H1.out 2)⟩
 go_cut [3] (fun s3 wr=>∃(gb:Nat) (va:Option Addr) (vc:Nat),s3= .pointer (some ⟨gb,0,none⟩)/\Hid (xW W wr gb (.slice none 0 0) (.slice va m vc) bad [] mem []))
 case first=>
  have h0:=jD.start 3 1 30 W
  have hT0:=qh h0.drew
  clear h0
  by_cases hm0:m=0
  ·subst hm0
   obtain⟨i0,hi0, -, -, -⟩:=info_parts vF
   have HE:Hid (mem= []):=List.eq_nil_of_length_eq_zero vS.out.symm
   refine wp_region_noPanic ?_
   refine wp_region_held_drew (S:=fun x=>Below W.heap.size W x) (by kernel_rfl) (Below.refl _ _).drew (fun _=> ?_)
   obtain⟨wd,hwd⟩:∃wd,wd=W.drew:=⟨_,rfl⟩
   rw [<-hwd] at hT0 ⊢
   clear hwd
   refine zy 0 6 ?zHP rfl ?z2f (hT0.out.below) ?_
   case z2f=>(intro _ _;go_simp<;>rfl)
   simp only [Act.put,za,ze,zh]
   refine zy 1 7 ?zHQ rfl ?z2g (hT0.out.below) ?_
   case z2g=>(intro x h;have e:=HC.out x h;go_simp<;>rfl)
   simp only [Act.put,za,ze,zh]
   refine zy 3 9 ?zHR rfl ?z2h (hT0.out.below) ?_
   case z2h=>(intro _ _;go_simp<;>rfl)
   simp only [Act.put,za,ze,zh]
   refine zy 4 10 ?zHS rfl ?z2i (hT0.out.below) ?_
   case z2i=>(intro x h;have e:=HC.out x h;go_simp<;>rfl)
   simp only [Act.put,za,ze,zh]
   refine wpAnyH_ready (rs:= [2,6]) (by kernel_rfl) (by simp) ?_
   refine AllReadyH.cons rfl (fun K hK=> ?_) (AllReadyH.cons rfl (fun K hK=> ?_) AllReadyH.nil)
   ·skip
    refine vX wd (by rfl) (.const (.slice none 0 0)) (.tmp 7) 28 rfl 3 i0 Tryz.underlying28 hi0 (by rfl) ma mc (by rfl) ?_
    refine hK.out _ _ (hT0.out.below) (fun _=> ?_)
    clear hK K
    refine zy 5 11 ?zHT rfl ?z2j (hT0.out.below) ?_
    case z2j=>(intro _ _;go_simp<;>rfl)
    simp only [Act.put,za,ze,zh]
    refine zY 6 rfl (fun K hK=> ?_)
    go_simp
    have zc1:=hT0.out.alloc [.slice none 0 0, .slice none 0 0, .bool false]
    refine hK.out _ _ zc1.below (fun _=> ?_)
    obtain⟨gb,hgb⟩:∃n,n=wd.heap.size:=⟨_,rfl⟩
    rw [<-hgb] at zc1 ⊢
    clear hgb
    generalize World.alloc wd _=zHU at zc1 ⊢
    replace zc1:=qh zc1
    clear hK K
    refine zY 7 rfl (fun K hK=> ?_)
    obtain⟨b1,b2,b3,b4,b5⟩:=zc1.out.zfA (gb:=gb) (a:= .slice none 0 0) (b:= .slice none 0 0) (c:= .bool false) (by simp) (.slice none 0 0) (.slice none 0 0) (.bool bad)
    obtain⟨hn, -, -⟩:=zc1.out.news (gb, [.slice none 0 0, .slice none 0 0, .bool false]) (by simp)
    have d0:=zi hn 0
    have f0:=zB hn 0
    have d1:=zi hn 1
    have f1:=zB hn 1
    have d2:=zi hn 2
    have f2:=zB hn 2
    clear hn
    have HB1:=qh b1
    have HB2:=qh b2
    have HB3:=qh b3
    have HB5:=qh b5
    have vB:=qh b4
    clear b1 b2 b3 b4 b5
    go_simp
    refine hK.out _ _ HB1.out (fun _=> ?_)
    clear hK K
    refine wpAnyH_done (by kernel_rfl) ?_ _
    refine NoPanic.normal ?_
    go_wp2_with fail
    go_meet
    case rel=>exact⟨gb,none,0,by first|rfl|simp,xW.start (by rw [HE.out];exact HB2.out) HB1.out HB3.out vB.out HB5.out⟩
   ·skip
    go_simp
    have zaN:=hT0.out.alloc [.slice none 0 0, .slice none 0 0, .bool false]
    refine hK.out _ _ zaN.below (fun _=> ?_)
    obtain⟨gb,hgb⟩:∃n,n=wd.heap.size:=⟨_,rfl⟩
    rw [<-hgb] at zaN ⊢
    clear hgb
    generalize World.alloc wd _=z8S at zaN ⊢
    replace zaN:=qh zaN
    clear hK K
    refine zY 2 rfl (fun K hK=> ?_)
    refine vX z8S (by rfl) (.const (.slice none 0 0)) (.tmp 7) 28 rfl 3 i0 Tryz.underlying28 hi0 (by rfl) ma mc (by rfl) ?_
    refine hK.out _ _ (zaN.out.below) (fun _=> ?_)
    clear hK K
    refine zy 5 11 ?zHV rfl ?z2k (zaN.out.below) ?_
    case z2k=>(intro _ _;go_simp<;>rfl)
    simp only [Act.put,za,ze,zh]
    refine zY 7 rfl (fun K hK=> ?_)
    obtain⟨b1,b2,b3,b4,b5⟩:=zaN.out.zfA (gb:=gb) (a:= .slice none 0 0) (b:= .slice none 0 0) (c:= .bool false) (by simp) (.slice none 0 0) (.slice none 0 0) (.bool bad)
    obtain⟨hn, -, -⟩:=zaN.out.news (gb, [.slice none 0 0, .slice none 0 0, .bool false]) (by simp)
    have d0:=zi hn 0
    have f0:=zB hn 0
    have d1:=zi hn 1
    have f1:=zB hn 1
    have d2:=zi hn 2
    have f2:=zB hn 2
    clear hn
    have HB1:=qh b1
    have HB2:=qh b2
    have HB3:=qh b3
    have HB5:=qh b5
    have vB:=qh b4
    clear b1 b2 b3 b4 b5
    go_simp
    refine hK.out _ _ HB1.out (fun _=> ?_)
    clear hK K
    refine wpAnyH_done (by kernel_rfl) ?_ _
    refine NoPanic.normal ?_
    go_wp2_with fail
    go_meet
    case rel=>exact⟨gb,none,0,by first|rfl|simp,xW.start (by rw [HE.out];exact HB2.out) HB1.out HB3.out vB.out HB5.out⟩
  obtain⟨mb,mo,hma, -, -⟩:=xJ.part HM.out 0 (by rw [<-vS.out];omega)
  subst hma
  have zaO:Hid (∀x,Below W.heap.size W x->∀j u,(zq yK mem)[j]? =some u->x.cell? ((⟨mb,mo,none⟩:Addr).add j)=some u):=fun x hx=>zk.news (R:=wV) (f:=yK) (by decide) uZ (fun _ _ _ h=>h) (zk.below wV.stays HM.out hx)
  refine wp_region_noPanic ?_
  refine wp_region_held_drew (S:=fun x=>Below W.heap.size W x) (by kernel_rfl) (Below.refl _ _).drew (fun _=> ?_)
  obtain⟨wd,hwd⟩:∃wd,wd=W.drew:=⟨_,rfl⟩
  rw [<-hwd] at hT0 ⊢
  clear hwd
  refine zy 0 6 ?zHW rfl ?z2l (hT0.out.below) ?_
  case z2l=>(intro _ _;go_simp<;>rfl)
  simp only [Act.put,za,ze,zh]
  refine zy 1 7 ?zHX rfl ?z2m (hT0.out.below) ?_
  case z2m=>(intro x h;have e:=HC.out x h;go_simp<;>rfl)
  simp only [Act.put,za,ze,zh]
  refine zy 3 9 ?zHY rfl ?z2n (hT0.out.below) ?_
  case z2n=>(intro _ _;go_simp<;>rfl)
  simp only [Act.put,za,ze,zh]
  refine zy 4 10 ?zGk rfl ?zxv (hT0.out.below) ?_
  case zxv=>(intro x h;have e:=HC.out x h;go_simp<;>rfl)
  simp only [Act.put,za,ze,zh]
  refine wpAnyH_ready (rs:= [2,6]) (by kernel_rfl) (by simp) ?_
  refine AllReadyH.cons rfl (fun K hK=> ?_) (AllReadyH.cons rfl (fun K hK=> ?_) AllReadyH.nil)
  ·skip
   refine zT wd (by rfl) (.const (.slice none 0 0)) (.tmp 7) 28 rfl 3 (.int .i64 0) 1 8 Tryz.underlying28 vF rfl (by decide) W.heap.size (.slice none 0 0) 0 [] (by rfl) hT0.out.row ⟨mb,mo,none⟩ m mc (zq yK mem) (by rfl) ((jy (f:=yK) uZ mem).trans (by rw [<-vS.out])) (zaO.out _ (hT0.out.below)) (zkB) (by unfold maxLen;omega) (by omega) hT0.out.below.size ?_
   intro ra rc zxw e1 e2 e3 e4 e5
   try simp only [Nat.zero_add,List.nil_append] at e1 e5 ⊢
   have zl4:=qh (hT0.out.app e1 e4 e5)
   clear e1 e2 e3 e4 e5
   refine hK.out _ _ zl4.out.below (fun _=> ?_)
   clear hK K
   refine zy 5 11 ?zGl rfl ?zxx (zl4.out.below) ?_
   case zxx=>(intro _ _;go_simp<;>rfl)
   simp only [Act.put,za,ze,zh]
   refine zY 6 rfl (fun K hK=> ?_)
   go_simp
   have zc2:=zl4.out.alloc [.slice none 0 0, .slice none 0 0, .bool false]
   refine hK.out _ _ zc2.below (fun _=> ?_)
   obtain⟨gb,hgb⟩:∃n,n=zxw.heap.size:=⟨_,rfl⟩
   rw [<-hgb] at zc2 ⊢
   clear hgb
   generalize World.alloc zxw _=zHZ at zc2 ⊢
   replace zc2:=qh zc2
   clear hK K
   refine zY 7 rfl (fun K hK=> ?_)
   obtain⟨b1,b2,b3,b4,b5⟩:=zc2.out.zfA (gb:=gb) (a:= .slice none 0 0) (b:= .slice none 0 0) (c:= .bool false) (by simp) (.slice none 0 0) (.slice ra m rc) (.bool bad)
   obtain⟨hn, -, -⟩:=zc2.out.news (gb, [.slice none 0 0, .slice none 0 0, .bool false]) (by simp)
   have d0:=zi hn 0
   have f0:=zB hn 0
   have d1:=zi hn 1
   have f1:=zB hn 1
   have d2:=zi hn 2
   have f2:=zB hn 2
   clear hn
   have HB1:=qh b1
   have HB2:=qh b2
   have HB3:=qh b3
   have HB5:=qh b5
   have vB:=qh b4
   clear b1 b2 b3 b4 b5
   go_simp
   refine hK.out _ _ HB1.out (fun _=> ?_)
   clear hK K
   refine wpAnyH_done (by kernel_rfl) ?_ _
   refine NoPanic.normal ?_
   go_wp2_with fail
   go_meet
   case rel=>exact⟨gb,ra,rc,by first|rfl|simp,xW.start (by rw [<-vS.out];exact HB2.out) HB1.out HB3.out vB.out HB5.out⟩
  ·skip
   go_simp
   have zaP:=hT0.out.alloc [.slice none 0 0, .slice none 0 0, .bool false]
   refine hK.out _ _ zaP.below (fun _=> ?_)
   obtain⟨gb,hgb⟩:∃n,n=wd.heap.size:=⟨_,rfl⟩
   rw [<-hgb] at zaP ⊢
   clear hgb
   generalize World.alloc wd _=z8T at zaP ⊢
   replace zaP:=qh zaP
   clear hK K
   refine zY 2 rfl (fun K hK=> ?_)
   refine zT z8T (by rfl) (.const (.slice none 0 0)) (.tmp 7) 28 rfl 3 (.int .i64 0) 1 8 Tryz.underlying28 vF rfl (by decide) W.heap.size (.slice none 0 0) 0 [] (by rfl) zaP.out.row ⟨mb,mo,none⟩ m mc (zq yK mem) (by rfl) ((jy (f:=yK) uZ mem).trans (by rw [<-vS.out])) (zaO.out _ (zaP.out.below)) (zkB) (by unfold maxLen;omega) (by omega) zaP.out.below.size ?_
   intro ra rc zIa e1 e2 e3 e4 e5
   try simp only [Nat.zero_add,List.nil_append] at e1 e5 ⊢
   have zhQ:=qh (zaP.out.app e1 e4 e5)
   clear e1 e2 e3 e4 e5
   refine hK.out _ _ zhQ.out.below (fun _=> ?_)
   clear hK K
   refine zy 5 11 ?zGm rfl ?zxy (zhQ.out.below) ?_
   case zxy=>(intro _ _;go_simp<;>rfl)
   simp only [Act.put,za,ze,zh]
   refine zY 7 rfl (fun K hK=> ?_)
   obtain⟨b1,b2,b3,b4,b5⟩:=zhQ.out.zfA (gb:=gb) (a:= .slice none 0 0) (b:= .slice none 0 0) (c:= .bool false) (by simp) (.slice none 0 0) (.slice ra m rc) (.bool bad)
   obtain⟨hn, -, -⟩:=zhQ.out.news (gb, [.slice none 0 0, .slice none 0 0, .bool false]) (by simp)
   have d0:=zi hn 0
   have f0:=zB hn 0
   have d1:=zi hn 1
   have f1:=zB hn 1
   have d2:=zi hn 2
   have f2:=zB hn 2
   clear hn
   have HB1:=qh b1
   have HB2:=qh b2
   have HB3:=qh b3
   have HB5:=qh b5
   have vB:=qh b4
   clear b1 b2 b3 b4 b5
   go_simp
   refine hK.out _ _ HB1.out (fun _=> ?_)
   clear hK K
   refine wpAnyH_done (by kernel_rfl) ?_ _
   refine NoPanic.normal ?_
   go_wp2_with fail
   go_meet
   case rel=>exact⟨gb,ra,rc,by first|rfl|simp,xW.start (by rw [<-vS.out];exact HB2.out) HB1.out HB3.out vB.out HB5.out⟩
 case rest=>
  obtain⟨gb,va,vc,rfl,HO⟩:=hcut
  go_wp2_with fail
  go_loopg [4] n (fun gg s4 wr=>∃(i:Nat) (oa:Option Addr) (oc:Nat) (bs:List Value),i<=n/\Hid (gg=n - i)/\s4= .int .i64 i/\Hid (xW W wr gb (.slice oa i oc) (.slice va m vc) bad (ts.take i) mem bs))
  case atStart=>exact⟨0,none,0, [],Nat.zero_le _,rfl,rfl,by simpa using HO⟩
  case round=>
   obtain⟨i,oa,oc,bs,hi,HG,rfl,HOL⟩:=hrel
   obtain⟨c0,c1,c2⟩:=HC.out wr HOL.out.below
   by_cases hlt:i<n
   rotate_left
   ·obtain rfl:n=i:=by omega
    have hfin:=HOL.out
    rw [List.take_of_length_le (by rw [<-HN.out];exact Nat.le_refl _)] at hfin
    have HF:=qh hfin
    have z0:=zi HOL.out.box 0
    have z1:=zi HOL.out.box 1
    have z2:=zi HOL.out.box 2
    have hgl:gx+1<W.heap.size:=zw H2.out
    have hres:=(HOL.out.below.block _ hgl).trans H2.out
    have d0:=zi hres 0
    have d1:=zi hres 1
    have d2:=zi hres 2
    have f0:=zB hres 0
    have f1:=zB hres 1
    have f2:=zB hres 2
    have hset:=zA (zA (zA hres 0 (.slice oa n oc)) 1 (.slice va m vc)) 2 (.bool bad)
    simp only [List.setIfInBounds_toArray,List.set_cons_zero,List.set_cons_succ] at hset
    have hS:Since (fun k=>k=gx+1) wr (((wr.setCell ⟨gx+1,0,none⟩ (.slice oa n oc)).setCell ⟨gx+1,1,none⟩ (.slice va m vc)).setCell ⟨gx+1,2,none⟩ (.bool bad)):=Since.setCell (F:=fun k=>k=gx+1) (p:=⟨gx+1,2,none⟩) (Since.setCell (F:=fun k=>k=gx+1) (p:=⟨gx+1,1,none⟩) (Since.setCell (F:=fun k=>k=gx+1) (p:=⟨gx+1,0,none⟩) (Since.refl _ wr) (.inl rfl) _) (.inl rfl) _) (.inl rfl) _
    have zI:=qh hset
    have bW:=qh hS
    have kG:=qh hgl
    clear hset hS hgl hres hfin
    go_wp2_with fail
    (try simp only [Exit.inBlock,Exit.then])
    refine bodyPost_ret (yV rfl _ _ (gx+1) 30 _ (0,0) _ rfl zI.out Tryz.underlying30 rfl zG) rfl ?_
    have hlt:∀k,W.heap.size<=k->k≠gx+1:=fun k hk=>by have:=kG.out;omega
    refine⟨⟨.slice oa n oc, .slice va m vc,bs,rfl, ?_⟩, ?_⟩
    ·refine OwnAt.lower (B:=W.heap.size) ((HF.out.own).since bW.out (fun k hk=>hlt k ?_) (fun k hk=>hlt k ?_) (fun j hj k hk=>hlt k ?_)) (by have:=HSZ.out;have:=yS.out;omega)
     ·exact(HF.out.own.row.lt k hk).1
     ·exact(HF.out.own.mem.lt k hk).1
     ·exact((HF.out.own.buf j hj).lt k hk).1
    ·rw [<-yS.out] at HB ⊢
     exact(HB.out.trans (HF.out.below.mono (by have:=HSZ.out;omega))).trans (bW.out.below (by have:=HSZ.out;have:=HF.out.below.size;omega) (fun k e=>by omega))
   have qQ:(i:Int)<(n:Int):=by omega
   obtain⟨tb,yB,ba,bc,hta, -,hr4,x0,x1,x2,x3,x4,x5,hbuf⟩:=xY.part HT.out i (by rw [<-HN.out];exact hlt)
   subst hta
   obtain⟨t,ht⟩:∃t,t=ts.getD i default:=⟨_,rfl⟩
   rw [<-ht] at hr4 x0 x1 x2 x3 x4 x5 hbuf
   have hbl:=HBU.out i hlt
   rw [<-ht] at hbl
   have htake:ts.take (i+1)=ts.take i++ [t] :=kE (by rw [<-HN.out];exact hlt) ht
   have zdZ:=qh htake
   have hlen:(ts.take i).length=i:=by rw [List.length_take, <-HN.out];omega
   have HLEN:=qh hlen
   have HR4:=qh hr4
   have zbO:=qh (zQ.below hbuf HOL.out.below)
   have k:=fun p v h=>zl HOL.out.below p v h
   replace x0:=k _ _ x0
   replace x1:=k _ _ x1
   replace x2:=k _ _ x2
   replace x3:=k _ _ x3
   replace x4:=k _ _ x4
   replace x5:=k _ _ x5
   obtain⟨q0,q1,q2,q3,hq⟩:=j4 hr4
   obtain⟨pc,hpc⟩:∃pc,pc=t.pc:=⟨_,rfl⟩
   obtain⟨bl,jm⟩:∃bl,bl=t.buf.length:=⟨_,rfl⟩
   have htc:∀bv,t.cells bv= [.int .i64 pc, .int .i64 q0, .int .i64 q1, .int .i64 q2, .int .i64 q3,bv] :=fun bv=>by unfold zx.cells;rw [hq,hpc];rfl
   have HTC:=qh htc
   rw [<-hpc] at x0
   rw [hq] at x1 x2 x3 x4
   simp only [List.getD_cons_zero,List.getD_cons_succ] at x1 x2 x3 x4
   rw [<-jm] at x5 hbl zbO
   have qp:=qh jm
   clear ht hbuf k hq hpc jm htc htake hlen hr4
   go_upto_region 6 with fail
   clear c0 c1 c2 x0 x1 x2 x3 x4 x5
   have hn0:Since (fun _=>False) wr (wr.alloc (.cells #[.int .i64 pc, .int .i64 q0, .int .i64 q1, .int .i64 q2, .int .i64 q3, .slice ba bl bc] 48)):=(Since.refl _ wr).alloc _
   have hn1:=yD wr (.cells #[.int .i64 pc, .int .i64 q0, .int .i64 q1, .int .i64 q2, .int .i64 q3, .slice ba bl bc] 48)
   have hn2:(wr.alloc (.cells #[.int .i64 pc, .int .i64 q0, .int .i64 q1, .int .i64 q2, .int .i64 q3, .slice ba bl bc] 48)).heap.size=wr.heap.size+1:=by simp
   have HN0:=qh hn0
   have HN1:=qh hn1
   have HN2:=qh hn2
   have HB0:=qh (zQ.below zbO.out (hn0.below (Nat.le_refl _) (fun _ e=>e.elim)))
   clear hn0 hn1 hn2
   generalize World.alloc wr _=X0 at HN0 HN1 HN2 HB0 ⊢
   obtain⟨nb,hnb⟩:∃nb,nb=wr.heap.size:=⟨_,rfl⟩
   rw [<-hnb] at HN1 HN2 ⊢
   have HNB:=qh hnb
   clear hnb
   go_cut [5] (fun s5 w'=>∃bv:Value,s5= .pointer (some ⟨nb,0,none⟩)/\Hid (w'.heap[nb]? =some (.cells #[.int .i64 pc, .int .i64 q0, .int .i64 q1, .int .i64 q2, .int .i64 q3,bv] 48 (0,0)))/\bv.oneCell'=true/\
    Hid (∃X1,Since (fun _=>False) wr X1/\X1.ownsRow W.heap.size 50 2 bv t.buf.length (zq zm.cells t.buf)/\(∀k,bv.ownBlock=some k->wr.heap.size<=k/\k≠nb)/\Since (fun k=>k=nb) X1 w'))
   case first=>
    have c5:=zi HN1.out 5
    have f5:=zB HN1.out 5
    by_cases hb0:bl=0
    ·subst hb0
     obtain⟨i0,hi0, -, -, -⟩:=info_parts yU
     go_wp2_with(at_builtin;go_must(refine zd6 X0 rfl (.const (.slice none 0 0)) (.tmp 25) 46 rfl 50 i0 Tryz.underlying46 hi0 (by rfl) ba bc (by rfl) ?_))
     go_meet
     case rel=>
      refine⟨.slice none 0 0,rfl,qh ?_,rfl,X0,HN0.out, ?_, ?_,Since.setCell (F:=fun k=>k=nb) (p:=⟨nb,5,none⟩) (Since.refl _ _) (.inl rfl) _⟩
      ·have:=zA HN1.out 5 (.slice none 0 0)
       simpa using this
      ·obtain he:=List.eq_nil_of_length_eq_zero qp.out.symm
       rw [he]
       exact World.ownsRow_nil _ _ _ _
      ·intro k hk;simp [Value.ownBlock] at hk
    obtain⟨bb,bo,hba, -, -, -⟩:=zQ.part HB0.out 0 (by rw [<-qp.out];omega)
    subst hba
    have zaO:=qh (zk.news (R:=uy) (f:=zm.cells) (by decide) jO (fun _ _ _ h=>h) HB0.out)
    go_wp2_with(at_builtin;go_must(refine yg X0 rfl (.const (.slice none 0 0)) (.tmp 25) 46 rfl 50 (.agg #[.int .i64 0, .int .i64 0]) 2 16 Tryz.underlying46 yU rfl (by decide) W.heap.size (.slice none 0 0) 0 [] rfl (World.ownsRow_nil _ _ _ _) ⟨bb,bo,none⟩ bl bc (zq zm.cells t.buf) rfl (by rw [jy jO, <-qp.out]) zaO.out wW (by unfold maxLen;omega) (by omega) (by have:=HOL.out.below.size;have:=HN0.out.size;omega) ?_);intro ja jc X e1 e2 e3 e4 e5 e6;simp only [Nat.zero_add,List.nil_append] at e1 e5 ⊢;have HE1:=qh e1;have HE4:=qh e4;have HE5:=qh e5;have hq:=(e4.block nb (by have:=HN2.out;omega) (by simp [Value.ownBlock])).trans HN1.out;have HQ:=qh hq;have g5:=zi hq 5;have h5:=zB hq 5;clear e1 e2 e3 e4 e5 e6 hq c5 f5)
    go_meet
    case rel=>
     refine⟨.slice ja bl jc,rfl,qh ?_,rfl,X,HN0.out.trans HE4.out (fun k e=>by simp [Value.ownBlock] at e),by rw [<-qp.out];exact HE1.out, ?_,Since.setCell (F:=fun k=>k=nb) (p:=⟨nb,5,none⟩) (Since.refl _ _) (.inl rfl) _⟩
     ·have:=zA HQ.out 5 (.slice ja bl jc)
      simpa using this
     ·intro k hk
      rcases HE5.out k hk with e|e
      ·simp [Value.ownBlock] at e
      ·have:=HN2.out
       have:=HNB.out
       exact⟨by omega,by omega⟩
   case rest=>
    obtain⟨bv,rfl,HQ,hbv,HX1⟩:=hcut
    obtain⟨X1,hs1,hbo,hbn,hs2⟩:=HX1.out
    have vE:=qh hs1
    have HS2:=qh hs2
    have HBO:=qh hbo
    have HBN:=qh hbn
    have zb0:=HOL.out.own.row
    rw [HLEN.out] at zb0
    have hrow:=hs2.row (hs1.row zb0 (fun _ _ e=>e)) (fun k hk e=>by have:=(zb0.lt k hk).2;have:=HNB.out;omega)
    have hgb:=zw HOL.out.box
    have wR:=(hs2.block gb (by have:=hs1.size;omega) (by have:=HNB.out;omega)).trans ((hs1.block gb hgb (fun e=>e)).trans HOL.out.box)
    have zx1:W.heap.size<=wc.heap.size:=by have:=HOL.out.below.size;have:=hs1.size;have:=hs2.size;omega
    have vO:=qh hrow
    have zqW:=qh wR
    have z8U:=qh zx1
    have xK:=qh hgb
    have hone:∀u∈ [Value.int .i64 pc, .int .i64 q0, .int .i64 q1, .int .i64 q2, .int .i64 q3,bv],u.oneCell'=true:=fun u hu=>by
     simp only [List.mem_cons,List.not_mem_nil,or_false] at hu
     rcases hu with rfl|rfl|rfl|rfl|rfl|rfl<;>first|rfl|exact hbv
    have zc3:=qh hone
    clear hone
    have y0:=zi HQ.out 0
    have y1:=zi HQ.out 1
    have y2:=zi HQ.out 2
    have y3:=zi HQ.out 3
    have y4:=zi HQ.out 4
    have y5:=zi HQ.out 5
    have z0:=zi wR 0
    clear hs1 hs2 hbo hbn zb0 hrow wR zx1 hgb HX1
    go_wp2_with(at_builtin;go_must(refine yg _ rfl _ _ 27 rfl 48 (.agg #[.int .i64 0, .int .i64 0, .int .i64 0, .int .i64 0, .int .i64 0, .slice none 0 0]) 6 64 Tryz.underlying27 wC rfl (by decide) W.heap.size (.slice oa i oc) i (zR (ts.take i) bs) rfl (vO.out.alloc _) ⟨wc.heap.size,0,none⟩ 1 1 [.int .i64 pc, .int .i64 q0, .int .i64 q1, .int .i64 q2, .int .i64 q3,bv] rfl rfl (jI _ _ _) zc3.out (by unfold maxLen;omega) (by omega) (by have:=z8U.out;simp;omega) ?_);intro ja jc X e1 e2 e3 e4 e5 e6;have HE1:=qh e1;have HE4:=qh e4;have HE5:=qh e5;have hq:=(e4.block gb (by have:=zw zqW.out;simp;omega) HOL.out.n1).trans ((Below.heap_alloc _ _ _ (zw zqW.out)).trans zqW.out);have g0:=zi hq 0;have g1:=zB hq 0;clear e1 e2 e3 e4 e5 e6 hq)
    go_roundg (n - (i+1))
    case measure=>rw [HG.out];omega
    case rel=>exact⟨i+1,ja,jc,bs++ [bv],by omega,rfl,by simp,by rw [zdZ.out];exact xW.push HOL.out HR4.out vE.out HBO.out HBN.out (HS2.out.alloc _) (by rw [HNB.out];exact Nat.le_refl _) (by rw [HLEN.out,HTC.out];exact HE1.out) HE4.out HE5.out⟩
end Go.Proofs.YtliajkheeniljaaGreatDoor
