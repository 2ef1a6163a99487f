/- Stores that wait: the document's answer: the walks. -/
import Derived.Test.YtliajkheeniljaaGreatDoorZsData
import Derived.Test.YtliajkheeniljaaGreatDoorZsShort
set_option linter.all false
namespace Go.Proofs.YtliajkheeniljaaGreatDoor
open Go.RowKit
set_option maxRecDepth 100000
set_option maxHeartbeats 16000000
theorem xQ (w:World) (o1 o2:Obj):Below w.heap.size w ((w.alloc o1).alloc o2):=((Below.refl _ _).alloc (Nat.le_refl _) _).alloc (by simp) _
theorem xH (w:World) (o1 o2:Obj):((w.alloc o1).alloc o2).heap[w.heap.size]? =some o1:=(Below.heap_alloc _ _ _ (by simp)).trans (yD w _)
theorem xu (w:World) (o1 o2:Obj):((w.alloc o1).alloc o2).heap[w.heap.size+1]? =some o2:=by
 have:=yD (w.alloc o1) o2
 simp only [World.size_alloc] at this;exact this
theorem yU:(Tryz.prog.info? 50).map (fun i=>(i.zero,i.size,i.bytes))=some (some (.agg #[.int .i64 0, .int .i64 0]),2,16):=by kernel_rfl
theorem vF:(Tryz.prog.info? 3).map (fun i=>(i.zero,i.size,i.bytes))=some (some (.int .i64 0),1,8):=by kernel_rfl
theorem jO (x:zm):x.cells.length=2:=rfl
theorem uZ (x:Int):([Value.int .i64 x]).length=1:=rfl
def yK (x:Int):List Value:= [.int .i64 x]
theorem wW {l:List zm} :∀u∈zq zm.cells l,u.oneCell'=true:=fun u hu=>by
 obtain⟨x, -,hx⟩:=List.mem_flatMap.1 hu
 simp [zm.cells] at hx
 rcases hx with rfl|rfl<;>rfl
theorem zkB {l:List Int} :∀u∈zq yK l,u.oneCell'=true:=fun u hu=>by
 obtain⟨x, -,hx⟩:=List.mem_flatMap.1 hu
 simp [yK] at hx
 subst hx;rfl
theorem jA {w:World} {B:Nat} {sv:Value} {l:List zm} (h:w.ownsRow B 50 2 sv l.length (zq zm.cells l)):zQ w sv l:=zk.of_flat (R:=uy) jO (fun _ _=>rfl) h
theorem gL {w:World} {B:Nat} {sv:Value} {l:List Int} (h:w.ownsRow B 3 1 sv l.length (zq yK l)):xJ w sv l:=zk.of_flat (R:=wV) (f:=yK) uZ (fun _ _=>rfl) h
def zeM (l:List zm) (m:zK) (v:Int):Nat:=l.countP (fun y=>decide (m.model=1)||decide (y.var=v))
def qL (l:List zm) (m:zK) (x:zm):Bool:=(decide (m.model=1)||decide (m.model=2)) && decide ((zeM l m x.var:Int)<m.bound)
def vU (l:List zm) (m:zK) (x:zm):List zm:=if qL l m x then l++ [x] else l
theorem zf8 {l:List zm} {i:Nat} (hi:i<l.length) (p:zm->Bool):(l.take (i+1)).countP p=(l.take i).countP p+(if p (l.getD i default) then 1 else 0):=by
 rw [List.take_add_one,List.countP_append,List.getElem?_eq_getElem hi,List.getD_eq_getElem?_getD,List.getElem?_eq_getElem hi]
 simp [List.countP_cons]
theorem zkY (w:World) (bv:Value) (l:List zm) (h:zQ w bv l) (hl:l.length<=1000000) (m:zK) (x:zm):
  Calls Tryz.prog 70 #[bv,yY m,x.val] w fun e w'=>(∃kZ,e= .returned (.tuple #[kZ, .bool (qL l m x)])/\zQ w' kZ (vU l m x)/\(qL l m x=true->w'.ownsRow w.heap.size 50 2 kZ (vU l m x).length (zq zm.cells (vU l m x))))/\Below w.heap.size w w':=by
 obtain⟨ba,bc,rfl, -⟩:=zk.slice h
 obtain⟨n,hn⟩:∃n,n=l.length:=⟨_,rfl⟩
 obtain⟨mm,mb⟩:=m
 obtain⟨xv,xn⟩:=x
 obtain⟨p,hp⟩:∃p:zm->Bool,p=(fun y=>decide (mm=1)||decide (y.var=xv)):=⟨_,rfl⟩
 obtain⟨ok,hok⟩:∃ok,ok=qL l ⟨mm,mb⟩ ⟨xv,xn⟩:=⟨_,rfl⟩
 have hok2:ok=((decide (mm=1)||decide (mm=2)) && decide ((l.countP p:Int)<mb)):=by rw [hok,hp];rfl
 have hpb:vU l ⟨mm,mb⟩ ⟨xv,xn⟩=if ok then l++ [⟨xv,xn⟩] else l:=by rw [hok];rfl
 rw [<-hok,hpb]
 rw [<-hn] at h hl ⊢
 have vC:=qh hok2
 have HP:=qh hp
 have HN:=qh hn
 clear hok hok2 hpb hp hn
 have hb0:=xQ w (.cells #[.int .i64 mm, .int .i64 mb] 26) (.cells #[.int .i64 xv, .int .i64 xn] 50)
 have HB:=qh hb0
 have HM:=qh (xH w (.cells #[.int .i64 mm, .int .i64 mb] 26) (.cells #[.int .i64 xv, .int .i64 xn] 50))
 have HX:=qh (xu w (.cells #[.int .i64 mm, .int .i64 mb] 26) (.cells #[.int .i64 xv, .int .i64 xn] 50))
 have HL:=qh (zQ.below h hb0)
 clear h hb0
 unfold yY zm.val
 simp only []
 go_enter Tryz.func70,Tryz.ntmps70
 go_upto_region 1 with fail
 generalize World.alloc (World.alloc w _) _=W at HB HM HX HL ⊢
 obtain⟨gx,hgx⟩:∃gx,gx=w.heap.size:=⟨_,rfl⟩
 rw [<-hgx] at HM HX ⊢
 clear hgx
 have HC:Hid (∀x,Below W.heap.size W x->x.cell? ⟨gx,0,none⟩=some (.int .i64 mm)/\x.cell? ⟨gx,1,none⟩=some (.int .i64 mb)/\x.cell? ⟨gx+1,0,none⟩=some (.int .i64 xv)/\x.cell? ⟨gx+1,1,none⟩=some (.int .i64 xn)):=fun x hx=>
  ⟨zl hx _ _ (zi HM.out 0),zl hx _ _ (zi HM.out 1),zl hx _ _ (zi HX.out 0),zl hx _ _ (zi HX.out 1)⟩
 clear HM HX
 go_wp2_with fail
 go_loopg [8,9] n (fun gg s8 s9 wr=>∃i c:Nat,i<=n/\Hid (gg=n - i)/\s8= .int .i64 c/\s9= .int .i64 i/\Hid (c=(l.take i).countP p)/\c<=i/\Hid (Below W.heap.size W wr))
 case atStart=>exact⟨0,0,Nat.zero_le _,rfl,rfl,rfl,by simp [Hid],Nat.le_refl _,Below.refl _ _⟩
 case round=>
  obtain⟨i,c,hi,HG,rfl,rfl,HCN,hci,zP⟩:=hrel
  by_cases hlt:i<n
  ·have qQ:(i:Int)<(n:Int):=by omega
   obtain⟨c0,c1,c2,c3⟩:=HC.out wr zP.out
   obtain⟨eb,eo,yx, -,he1, -⟩:=HL.out.part i (by rw [<-HN.out];exact hlt)
   subst yx
   obtain⟨ev,hev⟩:∃ev,ev=(l.getD i default).var:=⟨_,rfl⟩
   rw [<-hev] at he1
   have e1:=zl zP.out _ _ he1
   have hst:=zf8 (l:=l) (i:=i) (by rw [<-HN.out];exact hlt) p
   rw [<-HCN.out] at hst
   have HST:=qh hst
   have HPI:Hid (p (l.getD i default)=(decide (mm=1)||decide (ev=xv))):=by rw [Hid,HP.out,hev]
   clear he1 hev hst
   by_cases a1:mm=1
   ·have a1b:((mm:Int)==1)=true:=by simp [a1]
    have qo:Hid (c+1=(l.take (i+1)).countP p):=by rw [Hid,HST.out,HPI.out,a1];simp
    have A1:=qh a1
    clear a1
    go_wp2_with fail
    go_quiet (fail)
    go_wp2_with fail
    go_roundg (n - (i+1))
    case measure=>rw [HG.out];omega
    case rel=>exact⟨i+1,c+1,by omega,rfl,by simp,by simp,qo.out,by omega,zV zP.out _⟩
   have a1b:((mm:Int)==1)=false:=by simp [a1]
   have A1:=qh a1
   clear a1
   by_cases a2:ev=xv
   ·have a2b:((ev:Int)==xv)=true:=by simp [a2]
    have qo:Hid (c+1=(l.take (i+1)).countP p):=by rw [Hid,HST.out,HPI.out,a2];simp
    clear a2
    go_wp2_with fail
    go_quiet (fail)
    go_wp2_with fail
    go_roundg (n - (i+1))
    case measure=>rw [HG.out];omega
    case rel=>exact⟨i+1,c+1,by omega,rfl,by simp,by simp,qo.out,by omega,zV zP.out _⟩
   ·have a2b:((ev:Int)==xv)=false:=by simp [a2]
    have A2:=qh a2
    have qo:Hid (c=(l.take (i+1)).countP p):=by rw [Hid,HST.out,HPI.out];simp [A1.out,A2.out]
    clear a2
    go_wp2_with fail
    go_quiet (fail)
    go_wp2_with fail
    go_roundg (n - (i+1))
    case measure=>rw [HG.out];omega
    case rel=>exact⟨i+1,c,by omega,rfl,rfl,by simp,qo.out,by omega,zV zP.out _⟩
  obtain rfl:n=i:=by omega
  obtain⟨c0,c1,c2,c3⟩:=HC.out wr zP.out
  have hcn:c=l.countP p:=by rw [HCN.out,HN.out,List.take_length]
  have xD:=qh hcn
  have HLR:=qh (zQ.below HL.out zP.out)
  clear hcn
  by_cases a1:mm=1\/mm=2
  rotate_left
  ·have hok:ok=false:=by rw [vC.out];simp;omega
   have a3:¬mm=1:=fun e=>a1 (.inl e)
   have a4:¬mm=2:=fun e=>a1 (.inr e)
   have a3b:((mm:Int) !=1)=true:=by simp [a3]
   have a4b:((mm:Int) !=2)=true:=by simp [a4]
   clear a1 a3 a4
   subst hok
   go_wp2_with fail
   go_ret2
   exact⟨⟨_,by first|rfl|simp,by simpa using HLR.out⟩,HB.out.trans (zP.out.mono HB.out.size)⟩
  by_cases a2:(c:Int)<mb
  rotate_left
  ·have hok:ok=false:=by rw [vC.out, <-xD.out];simp;omega
   subst hok
   have a2n:mb<=(c:Int):=by omega
   rcases a1 with rfl|rfl<;>(go_wp2_with fail;go_ret2;exact⟨⟨_,by first|rfl|simp,by simpa using HLR.out⟩,HB.out.trans (zP.out.mono HB.out.size)⟩)
  as_aux_lemma=>
   have hok:ok=true:=by rw [vC.out, <-xD.out];rcases a1 with a1|a1<;>simp [a1,a2]
   have a2n:¬mb<=(c:Int):=by omega
   subst hok
   have CC:Hid (∀x,Below wr.heap.size wr x->x.cell? ⟨gx+1,0,none⟩=some (.int .i64 xv)/\x.cell? ⟨gx+1,1,none⟩=some (.int .i64 xn)):=fun x hx=>⟨(HC.out x (zF zP.out hx)).2.2.1,(HC.out x (zF zP.out hx)).2.2.2⟩
   have jX:Hid (zq zm.cells (l++ [⟨xv,xn⟩])=zq zm.cells l++ [.int .i64 xv, .int .i64 xn]):=by rw [Hid,jf];rfl
   have HLEN:Hid ((l++ [(⟨xv,xn⟩:zm)]).length=n+1):=by rw [Hid,List.length_append, <-HN.out];rfl
   have vT:Hid (Below w.heap.size w wr):=HB.out.trans (zP.out.mono HB.out.size)
   have h0:=App.start 50 2 wr
   have hT0:=qh h0.drew
   clear h0
   have KEY:∀mm:Int,(mm=1\/mm=2)->((mm !=1)=true/\(mm !=2)=false)\/(mm !=1)=false:=fun mm h=>by rcases h with rfl|rfl<;>simp
   obtain⟨i0,hi0, -, -, -⟩:=info_parts yU
   by_cases hn0:n=0
   ·have HE:Hid (zq zm.cells l= []):=by rw [Hid,show l= [] from List.eq_nil_of_length_eq_zero (by rw [<-HN.out];exact hn0)];rfl
    subst hn0
    rcases KEY mm a1 with⟨m1,m2⟩|m1
    ·clear a1 KEY
     go_upto_region 9 with fail
     refine wp_region_noPanic ?_
     refine wp_region_held_drew (S:=fun x=>Below wr.heap.size wr x) (by kernel_rfl) (Below.refl _ _).drew (fun _=> ?_)
     obtain⟨wd,hwd⟩:∃wd,wd=wr.drew:=⟨_,rfl⟩
     rw [<-hwd] at hT0 ⊢
     clear hwd
     refine zy 0 46 ?vq1 rfl ?zik (hT0.out.below) ?_
     case zik=>(intro _ _;go_simp<;>rfl)
     simp only [Act.put,za,ze,zh]
     refine zy 2 48 ?vq2 rfl ?zil (hT0.out.below) ?_
     case zil=>(intro x h;have e:=CC.out x h;go_simp<;>rfl)
     simp only [Act.put,za,ze,zh]
     refine wpAnyH_ready (rs:= [1,3]) (by kernel_rfl) (by simp) ?_
     refine AllReadyH.cons rfl (fun K hK=> ?_) (AllReadyH.cons rfl (fun K hK=> ?_) AllReadyH.nil)
     ·skip
      refine vX wd (by rfl) (.const (.slice none 0 0)) (.tmp 46) 46 rfl 50 i0 Tryz.underlying46 hi0 (by rfl) ba bc (by rfl) ?_
      refine hK.out _ _ (hT0.out.below) (fun _=> ?_)
      clear hK K
      refine zY 3 rfl (fun K hK=> ?_)
      go_simp
      have qU:=hT0.out.alloc [.int .i64 xv, .int .i64 xn]
      refine hK.out _ _ qU.below (fun _=> ?_)
      obtain⟨nb,hnb⟩:∃n,n=wd.heap.size:=⟨_,rfl⟩
      rw [<-hnb] at qU ⊢
      clear hnb
      generalize World.alloc wd _=Xq2 at qU ⊢
      replace qU:=qh qU
      clear hK K
      refine zY 4 rfl (fun K hK=> ?_)
      refine zT Xq2 (by rfl) (.tmp 47) (.tmp 49) 46 rfl 50 (.agg #[.int .i64 0, .int .i64 0]) 2 16 Tryz.underlying46 yU rfl (by decide) wr.heap.size (.slice none 0 0) 0 [] (by rfl) qU.out.row ⟨nb,0,none⟩ 1 1 [.int .i64 xv, .int .i64 xn] (by rfl) (rfl) (qU.out.cell (by simp)) (by simp [Value.oneCell']) (by unfold maxLen;omega) (by omega) qU.out.below.size ?_
      intro ja jc Xq4 e1 e2 e3 e4 e5
      try simp only [Nat.zero_add,List.nil_append] at e1 e5 ⊢
      have vH:=qh (qU.out.app e1 e4 e5)
      clear e1 e2 e3 e4 e5
      refine hK.out _ _ vH.out.below (fun _=> ?_)
      clear hK K
      refine zy 5 6 ?vq3 rfl ?zim (vH.out.below) ?_
      case zim=>(intro _ _;go_simp<;>rfl)
      simp only [Act.put,za,ze,zh]
      refine zy 6 7 ?vq4 rfl ?zin (vH.out.below) ?_
      case zin=>(intro _ _;go_simp<;>rfl)
      simp only [Act.put,za,ze,zh]
      refine wpAnyH_done (by kernel_rfl) ?_ _
      refine NoPanic.normal ?_
      have hr:=vH.out.row
      go_wp2_with fail
      go_ret2
      refine⟨⟨.slice ja 1 jc,by first|rfl|simp, ?_, ?_⟩,vT.out.trans (vH.out.below.mono vT.out.size)⟩
      ·try rw [if_pos rfl]
       exact jA (B:=wr.heap.size) (by rw [HLEN.out,jX.out,HE.out];exact hr)
      ·have h2:_:=xw (C:=w.heap.size) (B:=wr.heap.size) (n:=(l++ [(⟨xv,xn⟩:zm)]).length) (xs:=zq zm.cells (l++ [⟨xv,xn⟩])) (by rw [HLEN.out,jX.out,HE.out];exact hr) vT.out.size
       first|exact h2|(intro _;exact h2)|simpa using h2
     ·skip
      go_simp
      have qV:=hT0.out.alloc [.int .i64 xv, .int .i64 xn]
      refine hK.out _ _ qV.below (fun _=> ?_)
      obtain⟨nb,hnb⟩:∃n,n=wd.heap.size:=⟨_,rfl⟩
      rw [<-hnb] at qV ⊢
      clear hnb
      generalize World.alloc wd _=Xq6 at qV ⊢
      replace qV:=qh qV
      clear hK K
      refine zY 1 rfl (fun K hK=> ?_)
      refine vX Xq6 (by rfl) (.const (.slice none 0 0)) (.tmp 46) 46 rfl 50 i0 Tryz.underlying46 hi0 (by rfl) ba bc (by rfl) ?_
      refine hK.out _ _ (qV.out.below) (fun _=> ?_)
      clear hK K
      refine zY 4 rfl (fun K hK=> ?_)
      refine zT Xq6 (by rfl) (.tmp 47) (.tmp 49) 46 rfl 50 (.agg #[.int .i64 0, .int .i64 0]) 2 16 Tryz.underlying46 yU rfl (by decide) wr.heap.size (.slice none 0 0) 0 [] (by rfl) qV.out.row ⟨nb,0,none⟩ 1 1 [.int .i64 xv, .int .i64 xn] (by rfl) (rfl) (qV.out.cell (by simp)) (by simp [Value.oneCell']) (by unfold maxLen;omega) (by omega) qV.out.below.size ?_
      intro ja jc Xq8 e1 e2 e3 e4 e5
      try simp only [Nat.zero_add,List.nil_append] at e1 e5 ⊢
      have vI:=qh (qV.out.app e1 e4 e5)
      clear e1 e2 e3 e4 e5
      refine hK.out _ _ vI.out.below (fun _=> ?_)
      clear hK K
      refine zy 5 6 ?vq5 rfl ?zio (vI.out.below) ?_
      case zio=>(intro _ _;go_simp<;>rfl)
      simp only [Act.put,za,ze,zh]
      refine zy 6 7 ?vq6 rfl ?ziq (vI.out.below) ?_
      case ziq=>(intro _ _;go_simp<;>rfl)
      simp only [Act.put,za,ze,zh]
      refine wpAnyH_done (by kernel_rfl) ?_ _
      refine NoPanic.normal ?_
      have hr:=vI.out.row
      go_wp2_with fail
      go_ret2
      refine⟨⟨.slice ja 1 jc,by first|rfl|simp, ?_, ?_⟩,vT.out.trans (vI.out.below.mono vT.out.size)⟩
      ·try rw [if_pos rfl]
       exact jA (B:=wr.heap.size) (by rw [HLEN.out,jX.out,HE.out];exact hr)
      ·have h2:_:=xw (C:=w.heap.size) (B:=wr.heap.size) (n:=(l++ [(⟨xv,xn⟩:zm)]).length) (xs:=zq zm.cells (l++ [⟨xv,xn⟩])) (by rw [HLEN.out,jX.out,HE.out];exact hr) vT.out.size
       first|exact h2|(intro _;exact h2)|simpa using h2
    ·clear a1 KEY
     go_upto_region 9 with fail
     refine wp_region_noPanic ?_
     refine wp_region_held_drew (S:=fun x=>Below wr.heap.size wr x) (by kernel_rfl) (Below.refl _ _).drew (fun _=> ?_)
     obtain⟨wd,hwd⟩:∃wd,wd=wr.drew:=⟨_,rfl⟩
     rw [<-hwd] at hT0 ⊢
     clear hwd
     refine zy 0 46 ?vq7 rfl ?zir (hT0.out.below) ?_
     case zir=>(intro _ _;go_simp<;>rfl)
     simp only [Act.put,za,ze,zh]
     refine zy 2 48 ?vq8 rfl ?zis (hT0.out.below) ?_
     case zis=>(intro x h;have e:=CC.out x h;go_simp<;>rfl)
     simp only [Act.put,za,ze,zh]
     refine wpAnyH_ready (rs:= [1,3]) (by kernel_rfl) (by simp) ?_
     refine AllReadyH.cons rfl (fun K hK=> ?_) (AllReadyH.cons rfl (fun K hK=> ?_) AllReadyH.nil)
     ·skip
      refine vX wd (by rfl) (.const (.slice none 0 0)) (.tmp 46) 46 rfl 50 i0 Tryz.underlying46 hi0 (by rfl) ba bc (by rfl) ?_
      refine hK.out _ _ (hT0.out.below) (fun _=> ?_)
      clear hK K
      refine zY 3 rfl (fun K hK=> ?_)
      go_simp
      have qU:=hT0.out.alloc [.int .i64 xv, .int .i64 xn]
      refine hK.out _ _ qU.below (fun _=> ?_)
      obtain⟨nb,hnb⟩:∃n,n=wd.heap.size:=⟨_,rfl⟩
      rw [<-hnb] at qU ⊢
      clear hnb
      generalize World.alloc wd _=Xq2 at qU ⊢
      replace qU:=qh qU
      clear hK K
      refine zY 4 rfl (fun K hK=> ?_)
      refine zT Xq2 (by rfl) (.tmp 47) (.tmp 49) 46 rfl 50 (.agg #[.int .i64 0, .int .i64 0]) 2 16 Tryz.underlying46 yU rfl (by decide) wr.heap.size (.slice none 0 0) 0 [] (by rfl) qU.out.row ⟨nb,0,none⟩ 1 1 [.int .i64 xv, .int .i64 xn] (by rfl) (rfl) (qU.out.cell (by simp)) (by simp [Value.oneCell']) (by unfold maxLen;omega) (by omega) qU.out.below.size ?_
      intro ja jc Xq4 e1 e2 e3 e4 e5
      try simp only [Nat.zero_add,List.nil_append] at e1 e5 ⊢
      have vH:=qh (qU.out.app e1 e4 e5)
      clear e1 e2 e3 e4 e5
      refine hK.out _ _ vH.out.below (fun _=> ?_)
      clear hK K
      refine zy 5 6 ?vq9 rfl ?zit (vH.out.below) ?_
      case zit=>(intro _ _;go_simp<;>rfl)
      simp only [Act.put,za,ze,zh]
      refine zy 6 7 ?zxa rfl ?zfx (vH.out.below) ?_
      case zfx=>(intro _ _;go_simp<;>rfl)
      simp only [Act.put,za,ze,zh]
      refine wpAnyH_done (by kernel_rfl) ?_ _
      refine NoPanic.normal ?_
      have hr:=vH.out.row
      go_wp2_with fail
      go_ret2
      refine⟨⟨.slice ja 1 jc,by first|rfl|simp, ?_, ?_⟩,vT.out.trans (vH.out.below.mono vT.out.size)⟩
      ·try rw [if_pos rfl]
       exact jA (B:=wr.heap.size) (by rw [HLEN.out,jX.out,HE.out];exact hr)
      ·have h2:_:=xw (C:=w.heap.size) (B:=wr.heap.size) (n:=(l++ [(⟨xv,xn⟩:zm)]).length) (xs:=zq zm.cells (l++ [⟨xv,xn⟩])) (by rw [HLEN.out,jX.out,HE.out];exact hr) vT.out.size
       first|exact h2|(intro _;exact h2)|simpa using h2
     ·skip
      go_simp
      have qV:=hT0.out.alloc [.int .i64 xv, .int .i64 xn]
      refine hK.out _ _ qV.below (fun _=> ?_)
      obtain⟨nb,hnb⟩:∃n,n=wd.heap.size:=⟨_,rfl⟩
      rw [<-hnb] at qV ⊢
      clear hnb
      generalize World.alloc wd _=Xq6 at qV ⊢
      replace qV:=qh qV
      clear hK K
      refine zY 1 rfl (fun K hK=> ?_)
      refine vX Xq6 (by rfl) (.const (.slice none 0 0)) (.tmp 46) 46 rfl 50 i0 Tryz.underlying46 hi0 (by rfl) ba bc (by rfl) ?_
      refine hK.out _ _ (qV.out.below) (fun _=> ?_)
      clear hK K
      refine zY 4 rfl (fun K hK=> ?_)
      refine zT Xq6 (by rfl) (.tmp 47) (.tmp 49) 46 rfl 50 (.agg #[.int .i64 0, .int .i64 0]) 2 16 Tryz.underlying46 yU rfl (by decide) wr.heap.size (.slice none 0 0) 0 [] (by rfl) qV.out.row ⟨nb,0,none⟩ 1 1 [.int .i64 xv, .int .i64 xn] (by rfl) (rfl) (qV.out.cell (by simp)) (by simp [Value.oneCell']) (by unfold maxLen;omega) (by omega) qV.out.below.size ?_
      intro ja jc Xq8 e1 e2 e3 e4 e5
      try simp only [Nat.zero_add,List.nil_append] at e1 e5 ⊢
      have vI:=qh (qV.out.app e1 e4 e5)
      clear e1 e2 e3 e4 e5
      refine hK.out _ _ vI.out.below (fun _=> ?_)
      clear hK K
      refine zy 5 6 ?zxb rfl ?zfy (vI.out.below) ?_
      case zfy=>(intro _ _;go_simp<;>rfl)
      simp only [Act.put,za,ze,zh]
      refine zy 6 7 ?zxc rfl ?zfz (vI.out.below) ?_
      case zfz=>(intro _ _;go_simp<;>rfl)
      simp only [Act.put,za,ze,zh]
      refine wpAnyH_done (by kernel_rfl) ?_ _
      refine NoPanic.normal ?_
      have hr:=vI.out.row
      go_wp2_with fail
      go_ret2
      refine⟨⟨.slice ja 1 jc,by first|rfl|simp, ?_, ?_⟩,vT.out.trans (vI.out.below.mono vT.out.size)⟩
      ·try rw [if_pos rfl]
       exact jA (B:=wr.heap.size) (by rw [HLEN.out,jX.out,HE.out];exact hr)
      ·have h2:_:=xw (C:=w.heap.size) (B:=wr.heap.size) (n:=(l++ [(⟨xv,xn⟩:zm)]).length) (xs:=zq zm.cells (l++ [⟨xv,xn⟩])) (by rw [HLEN.out,jX.out,HE.out];exact hr) vT.out.size
       first|exact h2|(intro _;exact h2)|simpa using h2
   obtain⟨bb,bo,hba, -⟩:=HLR.out.part 0 (by rw [<-HN.out];omega)
   subst hba
   have zaO:Hid (∀x,Below wr.heap.size wr x->∀j u,(zq zm.cells l)[j]? =some u->x.cell? ((⟨bb,bo,none⟩:Addr).add j)=some u):=fun x hx=>zk.news (by omega) jO (fun _ _ _ h=>h) (zQ.below HLR.out hx)
   have jv:Hid ((zq zm.cells l).length=n*2):=by rw [Hid,jy jO, <-HN.out]
   rcases KEY mm a1 with⟨m1,m2⟩|m1
   ·clear a1 KEY
    go_upto_region 9 with fail
    refine wp_region_noPanic ?_
    refine wp_region_held_drew (S:=fun x=>Below wr.heap.size wr x) (by kernel_rfl) (Below.refl _ _).drew (fun _=> ?_)
    obtain⟨wd,hwd⟩:∃wd,wd=wr.drew:=⟨_,rfl⟩
    rw [<-hwd] at hT0 ⊢
    clear hwd
    refine zy 0 46 ?zxd rfl ?zf0 (hT0.out.below) ?_
    case zf0=>(intro _ _;go_simp<;>rfl)
    simp only [Act.put,za,ze,zh]
    refine zy 2 48 ?zxe rfl ?zf1 (hT0.out.below) ?_
    case zf1=>(intro x h;have e:=CC.out x h;go_simp<;>rfl)
    simp only [Act.put,za,ze,zh]
    refine wpAnyH_ready (rs:= [1,3]) (by kernel_rfl) (by simp) ?_
    refine AllReadyH.cons rfl (fun K hK=> ?_) (AllReadyH.cons rfl (fun K hK=> ?_) AllReadyH.nil)
    ·skip
     refine zT wd (by rfl) (.const (.slice none 0 0)) (.tmp 46) 46 rfl 50 (.agg #[.int .i64 0, .int .i64 0]) 2 16 Tryz.underlying46 yU rfl (by decide) wr.heap.size (.slice none 0 0) 0 [] (by rfl) hT0.out.row ⟨bb,bo,none⟩ n bc (zq zm.cells l) (by rfl) (jv.out) (zaO.out _ (hT0.out.below)) (wW) (by unfold maxLen;omega) (by omega) hT0.out.below.size ?_
     intro ra rc Xq2 e1 e2 e3 e4 e5
     try simp only [Nat.zero_add,List.nil_append] at e1 e5 ⊢
     have qU:=qh (hT0.out.app e1 e4 e5)
     clear e1 e2 e3 e4 e5
     refine hK.out _ _ qU.out.below (fun _=> ?_)
     clear hK K
     refine zY 3 rfl (fun K hK=> ?_)
     go_simp
     have vH:=qU.out.alloc [.int .i64 xv, .int .i64 xn]
     refine hK.out _ _ vH.below (fun _=> ?_)
     obtain⟨nb,hnb⟩:∃n,n=Xq2.heap.size:=⟨_,rfl⟩
     rw [<-hnb] at vH ⊢
     clear hnb
     generalize World.alloc Xq2 _=Xq4 at vH ⊢
     replace vH:=qh vH
     clear hK K
     refine zY 4 rfl (fun K hK=> ?_)
     refine zT Xq4 (by rfl) (.tmp 47) (.tmp 49) 46 rfl 50 (.agg #[.int .i64 0, .int .i64 0]) 2 16 Tryz.underlying46 yU rfl (by decide) wr.heap.size (.slice ra n rc) n (zq zm.cells l) (by rfl) vH.out.row ⟨nb,0,none⟩ 1 1 [.int .i64 xv, .int .i64 xn] (by rfl) (rfl) (vH.out.cell (by simp)) (by simp [Value.oneCell']) (by unfold maxLen;omega) (by omega) vH.out.below.size ?_
     intro ja jc Xq6 e1 e2 e3 e4 e5
     try simp only [Nat.zero_add,List.nil_append] at e1 e5 ⊢
     have qV:=qh (vH.out.app e1 e4 e5)
     clear e1 e2 e3 e4 e5
     refine hK.out _ _ qV.out.below (fun _=> ?_)
     clear hK K
     refine zy 5 6 ?z9W rfl ?zmd (qV.out.below) ?_
     case zmd=>(intro _ _;go_simp<;>rfl)
     simp only [Act.put,za,ze,zh]
     refine zy 6 7 ?zKr rfl ?z4M (qV.out.below) ?_
     case z4M=>(intro _ _;go_simp<;>rfl)
     simp only [Act.put,za,ze,zh]
     refine wpAnyH_done (by kernel_rfl) ?_ _
     refine NoPanic.normal ?_
     have hr:=qV.out.row
     go_wp2_with fail
     go_ret2
     refine⟨⟨.slice ja (n+1) jc,by first|rfl|simp, ?_, ?_⟩,vT.out.trans (qV.out.below.mono vT.out.size)⟩
     ·try rw [if_pos rfl]
      exact jA (B:=wr.heap.size) (by rw [HLEN.out,jX.out];exact hr)
     ·have h2:_:=xw (C:=w.heap.size) (B:=wr.heap.size) (n:=(l++ [(⟨xv,xn⟩:zm)]).length) (xs:=zq zm.cells (l++ [⟨xv,xn⟩])) (by rw [HLEN.out,jX.out];exact hr) vT.out.size
      first|exact h2|(intro _;exact h2)|simpa using h2
    ·skip
     go_simp
     have vI:=hT0.out.alloc [.int .i64 xv, .int .i64 xn]
     refine hK.out _ _ vI.below (fun _=> ?_)
     obtain⟨nb,hnb⟩:∃n,n=wd.heap.size:=⟨_,rfl⟩
     rw [<-hnb] at vI ⊢
     clear hnb
     generalize World.alloc wd _=Xq8 at vI ⊢
     replace vI:=qh vI
     clear hK K
     refine zY 1 rfl (fun K hK=> ?_)
     refine zT Xq8 (by rfl) (.const (.slice none 0 0)) (.tmp 46) 46 rfl 50 (.agg #[.int .i64 0, .int .i64 0]) 2 16 Tryz.underlying46 yU rfl (by decide) wr.heap.size (.slice none 0 0) 0 [] (by rfl) vI.out.row ⟨bb,bo,none⟩ n bc (zq zm.cells l) (by rfl) (jv.out) (zaO.out _ (vI.out.below)) (wW) (by unfold maxLen;omega) (by omega) vI.out.below.size ?_
     intro ra rc ztu e1 e2 e3 e4 e5
     try simp only [Nat.zero_add,List.nil_append] at e1 e5 ⊢
     have zbq:=qh (vI.out.app e1 e4 e5)
     clear e1 e2 e3 e4 e5
     refine hK.out _ _ zbq.out.below (fun _=> ?_)
     clear hK K
     refine zY 4 rfl (fun K hK=> ?_)
     refine zT ztu (by rfl) (.tmp 47) (.tmp 49) 46 rfl 50 (.agg #[.int .i64 0, .int .i64 0]) 2 16 Tryz.underlying46 yU rfl (by decide) wr.heap.size (.slice ra n rc) n (zq zm.cells l) (by rfl) zbq.out.row ⟨nb,0,none⟩ 1 1 [.int .i64 xv, .int .i64 xn] (by rfl) (rfl) (zbq.out.cell (by simp)) (by simp [Value.oneCell']) (by unfold maxLen;omega) (by omega) zbq.out.below.size ?_
     intro ja jc zB7 e1 e2 e3 e4 e5
     try simp only [Nat.zero_add,List.nil_append] at e1 e5 ⊢
     have pU:=qh (zbq.out.app e1 e4 e5)
     clear e1 e2 e3 e4 e5
     refine hK.out _ _ pU.out.below (fun _=> ?_)
     clear hK K
     refine zy 5 6 ?zKs rfl ?z4N (pU.out.below) ?_
     case z4N=>(intro _ _;go_simp<;>rfl)
     simp only [Act.put,za,ze,zh]
     refine zy 6 7 ?zKt rfl ?z4O (pU.out.below) ?_
     case z4O=>(intro _ _;go_simp<;>rfl)
     simp only [Act.put,za,ze,zh]
     refine wpAnyH_done (by kernel_rfl) ?_ _
     refine NoPanic.normal ?_
     have hr:=pU.out.row
     go_wp2_with fail
     go_ret2
     refine⟨⟨.slice ja (n+1) jc,by first|rfl|simp, ?_, ?_⟩,vT.out.trans (pU.out.below.mono vT.out.size)⟩
     ·try rw [if_pos rfl]
      exact jA (B:=wr.heap.size) (by rw [HLEN.out,jX.out];exact hr)
     ·have h2:_:=xw (C:=w.heap.size) (B:=wr.heap.size) (n:=(l++ [(⟨xv,xn⟩:zm)]).length) (xs:=zq zm.cells (l++ [⟨xv,xn⟩])) (by rw [HLEN.out,jX.out];exact hr) vT.out.size
      first|exact h2|(intro _;exact h2)|simpa using h2
   ·clear a1 KEY
    go_upto_region 9 with fail
    refine wp_region_noPanic ?_
    refine wp_region_held_drew (S:=fun x=>Below wr.heap.size wr x) (by kernel_rfl) (Below.refl _ _).drew (fun _=> ?_)
    obtain⟨wd,hwd⟩:∃wd,wd=wr.drew:=⟨_,rfl⟩
    rw [<-hwd] at hT0 ⊢
    clear hwd
    refine zy 0 46 ?zKu rfl ?z4P (hT0.out.below) ?_
    case z4P=>(intro _ _;go_simp<;>rfl)
    simp only [Act.put,za,ze,zh]
    refine zy 2 48 ?zKv rfl ?z4Q (hT0.out.below) ?_
    case z4Q=>(intro x h;have e:=CC.out x h;go_simp<;>rfl)
    simp only [Act.put,za,ze,zh]
    refine wpAnyH_ready (rs:= [1,3]) (by kernel_rfl) (by simp) ?_
    refine AllReadyH.cons rfl (fun K hK=> ?_) (AllReadyH.cons rfl (fun K hK=> ?_) AllReadyH.nil)
    ·skip
     refine zT wd (by rfl) (.const (.slice none 0 0)) (.tmp 46) 46 rfl 50 (.agg #[.int .i64 0, .int .i64 0]) 2 16 Tryz.underlying46 yU rfl (by decide) wr.heap.size (.slice none 0 0) 0 [] (by rfl) hT0.out.row ⟨bb,bo,none⟩ n bc (zq zm.cells l) (by rfl) (jv.out) (zaO.out _ (hT0.out.below)) (wW) (by unfold maxLen;omega) (by omega) hT0.out.below.size ?_
     intro ra rc Xq2 e1 e2 e3 e4 e5
     try simp only [Nat.zero_add,List.nil_append] at e1 e5 ⊢
     have qU:=qh (hT0.out.app e1 e4 e5)
     clear e1 e2 e3 e4 e5
     refine hK.out _ _ qU.out.below (fun _=> ?_)
     clear hK K
     refine zY 3 rfl (fun K hK=> ?_)
     go_simp
     have vH:=qU.out.alloc [.int .i64 xv, .int .i64 xn]
     refine hK.out _ _ vH.below (fun _=> ?_)
     obtain⟨nb,hnb⟩:∃n,n=Xq2.heap.size:=⟨_,rfl⟩
     rw [<-hnb] at vH ⊢
     clear hnb
     generalize World.alloc Xq2 _=Xq4 at vH ⊢
     replace vH:=qh vH
     clear hK K
     refine zY 4 rfl (fun K hK=> ?_)
     refine zT Xq4 (by rfl) (.tmp 47) (.tmp 49) 46 rfl 50 (.agg #[.int .i64 0, .int .i64 0]) 2 16 Tryz.underlying46 yU rfl (by decide) wr.heap.size (.slice ra n rc) n (zq zm.cells l) (by rfl) vH.out.row ⟨nb,0,none⟩ 1 1 [.int .i64 xv, .int .i64 xn] (by rfl) (rfl) (vH.out.cell (by simp)) (by simp [Value.oneCell']) (by unfold maxLen;omega) (by omega) vH.out.below.size ?_
     intro ja jc Xq6 e1 e2 e3 e4 e5
     try simp only [Nat.zero_add,List.nil_append] at e1 e5 ⊢
     have qV:=qh (vH.out.app e1 e4 e5)
     clear e1 e2 e3 e4 e5
     refine hK.out _ _ qV.out.below (fun _=> ?_)
     clear hK K
     refine zy 5 6 ?zKw rfl ?z4R (qV.out.below) ?_
     case z4R=>(intro _ _;go_simp<;>rfl)
     simp only [Act.put,za,ze,zh]
     refine zy 6 7 ?zKx rfl ?z4S (qV.out.below) ?_
     case z4S=>(intro _ _;go_simp<;>rfl)
     simp only [Act.put,za,ze,zh]
     refine wpAnyH_done (by kernel_rfl) ?_ _
     refine NoPanic.normal ?_
     have hr:=qV.out.row
     go_wp2_with fail
     go_ret2
     refine⟨⟨.slice ja (n+1) jc,by first|rfl|simp, ?_, ?_⟩,vT.out.trans (qV.out.below.mono vT.out.size)⟩
     ·try rw [if_pos rfl]
      exact jA (B:=wr.heap.size) (by rw [HLEN.out,jX.out];exact hr)
     ·have h2:_:=xw (C:=w.heap.size) (B:=wr.heap.size) (n:=(l++ [(⟨xv,xn⟩:zm)]).length) (xs:=zq zm.cells (l++ [⟨xv,xn⟩])) (by rw [HLEN.out,jX.out];exact hr) vT.out.size
      first|exact h2|(intro _;exact h2)|simpa using h2
    ·skip
     go_simp
     have vI:=hT0.out.alloc [.int .i64 xv, .int .i64 xn]
     refine hK.out _ _ vI.below (fun _=> ?_)
     obtain⟨nb,hnb⟩:∃n,n=wd.heap.size:=⟨_,rfl⟩
     rw [<-hnb] at vI ⊢
     clear hnb
     generalize World.alloc wd _=Xq8 at vI ⊢
     replace vI:=qh vI
     clear hK K
     refine zY 1 rfl (fun K hK=> ?_)
     refine zT Xq8 (by rfl) (.const (.slice none 0 0)) (.tmp 46) 46 rfl 50 (.agg #[.int .i64 0, .int .i64 0]) 2 16 Tryz.underlying46 yU rfl (by decide) wr.heap.size (.slice none 0 0) 0 [] (by rfl) vI.out.row ⟨bb,bo,none⟩ n bc (zq zm.cells l) (by rfl) (jv.out) (zaO.out _ (vI.out.below)) (wW) (by unfold maxLen;omega) (by omega) vI.out.below.size ?_
     intro ra rc ztu e1 e2 e3 e4 e5
     try simp only [Nat.zero_add,List.nil_append] at e1 e5 ⊢
     have zbq:=qh (vI.out.app e1 e4 e5)
     clear e1 e2 e3 e4 e5
     refine hK.out _ _ zbq.out.below (fun _=> ?_)
     clear hK K
     refine zY 4 rfl (fun K hK=> ?_)
     refine zT ztu (by rfl) (.tmp 47) (.tmp 49) 46 rfl 50 (.agg #[.int .i64 0, .int .i64 0]) 2 16 Tryz.underlying46 yU rfl (by decide) wr.heap.size (.slice ra n rc) n (zq zm.cells l) (by rfl) zbq.out.row ⟨nb,0,none⟩ 1 1 [.int .i64 xv, .int .i64 xn] (by rfl) (rfl) (zbq.out.cell (by simp)) (by simp [Value.oneCell']) (by unfold maxLen;omega) (by omega) zbq.out.below.size ?_
     intro ja jc zB7 e1 e2 e3 e4 e5
     try simp only [Nat.zero_add,List.nil_append] at e1 e5 ⊢
     have pU:=qh (zbq.out.app e1 e4 e5)
     clear e1 e2 e3 e4 e5
     refine hK.out _ _ pU.out.below (fun _=> ?_)
     clear hK K
     refine zy 5 6 ?zKy rfl ?z4T (pU.out.below) ?_
     case z4T=>(intro _ _;go_simp<;>rfl)
     simp only [Act.put,za,ze,zh]
     refine zy 6 7 ?zKz rfl ?z4U (pU.out.below) ?_
     case z4U=>(intro _ _;go_simp<;>rfl)
     simp only [Act.put,za,ze,zh]
     refine wpAnyH_done (by kernel_rfl) ?_ _
     refine NoPanic.normal ?_
     have hr:=pU.out.row
     go_wp2_with fail
     go_ret2
     refine⟨⟨.slice ja (n+1) jc,by first|rfl|simp, ?_, ?_⟩,vT.out.trans (pU.out.below.mono vT.out.size)⟩
     ·try rw [if_pos rfl]
      exact jA (B:=wr.heap.size) (by rw [HLEN.out,jX.out];exact hr)
     ·have h2:_:=xw (C:=w.heap.size) (B:=wr.heap.size) (n:=(l++ [(⟨xv,xn⟩:zm)]).length) (xs:=zq zm.cells (l++ [⟨xv,xn⟩])) (by rw [HLEN.out,jX.out];exact hr) vT.out.size
      first|exact h2|(intro _;exact h2)|simpa using h2
end Go.Proofs.YtliajkheeniljaaGreatDoor
