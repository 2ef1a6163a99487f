/- Stores that wait: the document's answer: the walks. -/
import Derived.Test.YtliajkheeniljaaGreatDoorZaData
import Derived.Test.YtliajkheeniljaaGreatDoorZaShort
set_option linter.all false
namespace Go.Proofs.YtliajkheeniljaaGreatDoor
open Go.RowKit
set_option maxRecDepth 100000
set_option maxHeartbeats 16000000
theorem xw (w:World) (o1 o2:Obj):Below w.heap.size w ((w.alloc o1).alloc o2):=((Below.refl _ _).alloc (Nat.le_refl _) _).alloc (by simp) _
theorem xA (w:World) (o1 o2:Obj):((w.alloc o1).alloc o2).heap[w.heap.size]? =some o1:=(Below.heap_alloc _ _ _ (by simp)).trans (yK w _)
theorem xq (w:World) (o1 o2:Obj):((w.alloc o1).alloc o2).heap[w.heap.size+1]? =some o2:=by
 have:=yK (w.alloc o1) o2
 simp only [World.size_alloc] at this;exact this
theorem yM:(Tryz.prog.info? 50).map (fun i=>(i.zero,i.size,i.bytes))=some (some (.agg #[.int .i64 0, .int .i64 0]),2,16):=by kernel_rfl
theorem qC:(Tryz.prog.info? 3).map (fun i=>(i.zero,i.size,i.bytes))=some (some (.int .i64 0),1,8):=by kernel_rfl
theorem vV (x:zn):x.cells.length=2:=rfl
theorem wO (x:Int):([Value.int .i64 x]).length=1:=rfl
def yE (x:Int):List Value:= [.int .i64 x]
theorem jZ {l:List zn} :∀u∈zq zn.cells l,u.oneCell'=true:=fun u hu=>by
 obtain⟨x, -,hx⟩:=List.mem_flatMap.1 hu
 simp [zn.cells] at hx
 rcases hx with rfl|rfl<;>rfl
theorem zhC {l:List Int} :∀u∈zq yE l,u.oneCell'=true:=fun u hu=>by
 obtain⟨x, -,hx⟩:=List.mem_flatMap.1 hu
 simp [yE] at hx
 subst hx;rfl
theorem vL {w:World} {B:Nat} {sv:Value} {l:List zn} (h:w.ownsRow B 50 2 sv l.length (zq zn.cells l)):zH w sv l:=zl.of_flat (R:=jK) vV (fun _ _=>rfl) h
theorem wS {w:World} {B:Nat} {sv:Value} {l:List Int} (h:w.ownsRow B 3 1 sv l.length (zq yE l)):xH w sv l:=zl.of_flat (R:=jY) (f:=yE) wO (fun _ _=>rfl) h
def zpr (l:List zn) (m:zM) (v:Int):Nat:=l.countP (fun y=>decide (m.model=1)||decide (y.var=v))
def qN (l:List zn) (m:zM) (x:zn):Bool:=(decide (m.model=1)||decide (m.model=2)) && decide ((zpr l m x.var:Int)<m.bound)
def vC (l:List zn) (m:zM) (x:zn):List zn:=if qN l m x then l++ [x] else l
theorem zdT {l:List zn} {i:Nat} (hi:i<l.length) (p:zn->Bool):(l.take (i+1)).countP p=(l.take i).countP p+(if p (l.getD i default) then 1 else 0):=by
 rw [List.take_add_one,List.countP_append,List.getElem?_eq_getElem hi,List.getD_eq_getElem?_getD,List.getElem?_eq_getElem hi]
 simp [List.countP_cons]
theorem zia (w:World) (bv:Value) (l:List zn) (h:zH w bv l) (hl:l.length<=1000000) (m:zM) (x:zn):
  Calls Tryz.prog 70 #[bv,yR m,x.val] w fun e w'=>(∃jO,e= .returned (.tuple #[jO, .bool (qN l m x)])/\zH w' jO (vC l m x)/\(qN l m x=true->w'.ownsRow w.heap.size 50 2 jO (vC l m x).length (zq zn.cells (vC l m x))))/\Below w.heap.size w w':=by
 obtain⟨ba,bc,rfl, -⟩:=zl.slice h
 obtain⟨n,hn⟩:∃n,n=l.length:=⟨_,rfl⟩
 obtain⟨mm,mb⟩:=m
 obtain⟨xv,xn⟩:=x
 obtain⟨p,hp⟩:∃p:zn->Bool,p=(fun y=>decide (mm=1)||decide (y.var=xv)):=⟨_,rfl⟩
 obtain⟨ok,hok⟩:∃ok,ok=qN l ⟨mm,mb⟩ ⟨xv,xn⟩:=⟨_,rfl⟩
 have hok2:ok=((decide (mm=1)||decide (mm=2)) && decide ((l.countP p:Int)<mb)):=by rw [hok,hp];rfl
 have hpb:vC l ⟨mm,mb⟩ ⟨xv,xn⟩=if ok then l++ [⟨xv,xn⟩] else l:=by rw [hok];rfl
 rw [<-hok,hpb]
 rw [<-hn] at h hl ⊢
 have uh:=qh hok2
 have HP:=qh hp
 have HN:=qh hn
 clear hok hok2 hpb hp hn
 have hb0:=xw w (.cells #[.int .i64 mm, .int .i64 mb] 26) (.cells #[.int .i64 xv, .int .i64 xn] 50)
 have HB:=qh hb0
 have HM:=qh (xA w (.cells #[.int .i64 mm, .int .i64 mb] 26) (.cells #[.int .i64 xv, .int .i64 xn] 50))
 have HX:=qh (xq w (.cells #[.int .i64 mm, .int .i64 mb] 26) (.cells #[.int .i64 xv, .int .i64 xn] 50))
 have HL:=qh (zH.below h hb0)
 clear h hb0
 unfold yR zn.val
 simp only []
 go_enter Tryz.func70,Tryz.ntmps70
 go_upto_region 1 with fail
 generalize World.alloc (World.alloc w _) _=W at HB HM HX HL ⊢
 obtain⟨gx,hgx⟩:∃gx,gx=w.heap.size:=⟨_,rfl⟩
 rw [<-hgx] at HM HX ⊢
 clear hgx
 have HC:Hid (∀x,Below W.heap.size W x->x.cell? ⟨gx,0,none⟩=some (.int .i64 mm)/\x.cell? ⟨gx,1,none⟩=some (.int .i64 mb)/\x.cell? ⟨gx+1,0,none⟩=some (.int .i64 xv)/\x.cell? ⟨gx+1,1,none⟩=some (.int .i64 xn)):=fun x hx=>
  ⟨zm hx _ _ (zh HM.out 0),zm hx _ _ (zh HM.out 1),zm hx _ _ (zh HX.out 0),zm hx _ _ (zh HX.out 1)⟩
 clear HM HX
 go_wp2_with fail
 go_loopg [8,9] n (fun gg s8 s9 wr=>∃i c:Nat,i<=n/\Hid (gg=n - i)/\s8= .int .i64 c/\s9= .int .i64 i/\Hid (c=(l.take i).countP p)/\c<=i/\Hid (Below W.heap.size W wr))
 case atStart=>exact⟨0,0,Nat.zero_le _,rfl,rfl,rfl,by simp [Hid],Nat.le_refl _,Below.refl _ _⟩
 case round=>
  obtain⟨i,c,hi,HG,rfl,rfl,pJ,hci,zX⟩:=hrel
  by_cases hlt:i<n
  ·have qg:(i:Int)<(n:Int):=by omega
   obtain⟨c0,c1,c2,c3⟩:=HC.out wr zX.out
   obtain⟨eb,eo,yw, -,he1, -⟩:=HL.out.part i (by rw [<-HN.out];exact hlt)
   subst yw
   obtain⟨ev,hev⟩:∃ev,ev=(l.getD i default).var:=⟨_,rfl⟩
   rw [<-hev] at he1
   have e1:=zm zX.out _ _ he1
   have hst:=zdT (l:=l) (i:=i) (by rw [<-HN.out];exact hlt) p
   rw [<-pJ.out] at hst
   have HST:=qh hst
   have HPI:Hid (p (l.getD i default)=(decide (mm=1)||decide (ev=xv))):=by rw [Hid,HP.out,hev]
   clear he1 hev hst
   by_cases a1:mm=1
   ·have a1b:((mm:Int)==1)=true:=by simp [a1]
    have xP:Hid (c+1=(l.take (i+1)).countP p):=by rw [Hid,HST.out,HPI.out,a1];simp
    have A1:=qh a1
    clear a1
    go_wp2_with fail
    go_quiet (fail)
    go_wp2_with fail
    go_roundg (n - (i+1))
    case measure=>rw [HG.out];omega
    case rel=>exact⟨i+1,c+1,by omega,rfl,by simp,by simp,xP.out,by omega,zQ zX.out _⟩
   have a1b:((mm:Int)==1)=false:=by simp [a1]
   have A1:=qh a1
   clear a1
   by_cases a2:ev=xv
   ·have a2b:((ev:Int)==xv)=true:=by simp [a2]
    have xP:Hid (c+1=(l.take (i+1)).countP p):=by rw [Hid,HST.out,HPI.out,a2];simp
    clear a2
    go_wp2_with fail
    go_quiet (fail)
    go_wp2_with fail
    go_roundg (n - (i+1))
    case measure=>rw [HG.out];omega
    case rel=>exact⟨i+1,c+1,by omega,rfl,by simp,by simp,xP.out,by omega,zQ zX.out _⟩
   ·have a2b:((ev:Int)==xv)=false:=by simp [a2]
    have A2:=qh a2
    have xP:Hid (c=(l.take (i+1)).countP p):=by rw [Hid,HST.out,HPI.out];simp [A1.out,A2.out]
    clear a2
    go_wp2_with fail
    go_quiet (fail)
    go_wp2_with fail
    go_roundg (n - (i+1))
    case measure=>rw [HG.out];omega
    case rel=>exact⟨i+1,c,by omega,rfl,rfl,by simp,xP.out,by omega,zQ zX.out _⟩
  obtain rfl:n=i:=by omega
  obtain⟨c0,c1,c2,c3⟩:=HC.out wr zX.out
  have hcn:c=l.countP p:=by rw [pJ.out,HN.out,List.take_length]
  have yJ:=qh hcn
  have HLR:=qh (zH.below HL.out zX.out)
  clear hcn
  by_cases a1:mm=1\/mm=2
  rotate_left
  ·have hok:ok=false:=by rw [uh.out];simp;omega
   have a3:¬mm=1:=fun e=>a1 (.inl e)
   have a4:¬mm=2:=fun e=>a1 (.inr e)
   have a3b:((mm:Int) !=1)=true:=by simp [a3]
   have a4b:((mm:Int) !=2)=true:=by simp [a4]
   clear a1 a3 a4
   subst hok
   go_wp2_with fail
   go_ret2
   exact⟨⟨_,by first|rfl|simp,by simpa using HLR.out⟩,HB.out.trans (zX.out.mono HB.out.size)⟩
  by_cases a2:(c:Int)<mb
  rotate_left
  ·have hok:ok=false:=by rw [uh.out, <-yJ.out];simp;omega
   subst hok
   have a2n:mb<=(c:Int):=by omega
   rcases a1 with rfl|rfl<;>(go_wp2_with fail;go_ret2;exact⟨⟨_,by first|rfl|simp,by simpa using HLR.out⟩,HB.out.trans (zX.out.mono HB.out.size)⟩)
  as_aux_lemma=>
   have hok:ok=true:=by rw [uh.out, <-yJ.out];rcases a1 with a1|a1<;>simp [a1,a2]
   have a2n:¬mb<=(c:Int):=by omega
   subst hok
   have CC:Hid (∀x,Below wr.heap.size wr x->x.cell? ⟨gx+1,0,none⟩=some (.int .i64 xv)/\x.cell? ⟨gx+1,1,none⟩=some (.int .i64 xn)):=fun x hx=>⟨(HC.out x (zB zX.out hx)).2.2.1,(HC.out x (zB zX.out hx)).2.2.2⟩
   have je:Hid (zq zn.cells (l++ [⟨xv,xn⟩])=zq zn.cells l++ [.int .i64 xv, .int .i64 xn]):=by rw [Hid,jh];rfl
   have HLEN:Hid ((l++ [(⟨xv,xn⟩:zn)]).length=n+1):=by rw [Hid,List.length_append, <-HN.out];rfl
   have vk:Hid (Below w.heap.size w wr):=HB.out.trans (zX.out.mono HB.out.size)
   have h0:=App.start 50 2 wr
   have hT0:=qh h0.drew
   clear h0
   have KEY:∀mm:Int,(mm=1\/mm=2)->((mm !=1)=true/\(mm !=2)=false)\/(mm !=1)=false:=fun mm h=>by rcases h with rfl|rfl<;>simp
   obtain⟨i0,hi0, -, -, -⟩:=info_parts yM
   by_cases hn0:n=0
   ·have HE:Hid (zq zn.cells l= []):=by rw [Hid,show l= [] from List.eq_nil_of_length_eq_zero (by rw [<-HN.out];exact hn0)];rfl
    subst hn0
    rcases KEY mm a1 with⟨m1,m2⟩|m1
    ·clear a1 KEY
     go_upto_region 9 with fail
     refine wp_region_noPanic ?_
     refine wp_region_held_drew (S:=fun x=>Below wr.heap.size wr x) (by kernel_rfl) (Below.refl _ _).drew (fun _=> ?_)
     obtain⟨wd,hwd⟩:∃wd,wd=wr.drew:=⟨_,rfl⟩
     rw [<-hwd] at hT0 ⊢
     clear hwd
     refine zA 0 46 ?vq1 rfl ?znt (hT0.out.below) ?_
     case znt=>(intro _ _;go_simp<;>rfl)
     simp only [Act.put,za,ze,zf]
     refine zA 2 48 ?vq2 rfl ?znu (hT0.out.below) ?_
     case znu=>(intro x h;have e:=CC.out x h;go_simp<;>rfl)
     simp only [Act.put,za,ze,zf]
     refine wpAnyH_ready (rs:= [1,3]) (by kernel_rfl) (by simp) ?_
     refine AllReadyH.cons rfl (fun K hK=> ?_) (AllReadyH.cons rfl (fun K hK=> ?_) AllReadyH.nil)
     ·skip
      refine qR wd (by rfl) (.const (.slice none 0 0)) (.tmp 46) 46 rfl 50 i0 Tryz.underlying46 hi0 (by rfl) ba bc (by rfl) ?_
      refine hK.out _ _ (hT0.out.below) (fun _=> ?_)
      clear hK K
      refine zT 3 rfl (fun K hK=> ?_)
      go_simp
      have qx:=hT0.out.alloc [.int .i64 xv, .int .i64 xn]
      refine hK.out _ _ qx.below (fun _=> ?_)
      obtain⟨nb,hnb⟩:∃n,n=wd.heap.size:=⟨_,rfl⟩
      rw [<-hnb] at qx ⊢
      clear hnb
      generalize World.alloc wd _=Xq2 at qx ⊢
      replace qx:=qh qx
      clear hK K
      refine zT 4 rfl (fun K hK=> ?_)
      refine zP Xq2 (by rfl) (.tmp 47) (.tmp 49) 46 rfl 50 (.agg #[.int .i64 0, .int .i64 0]) 2 16 Tryz.underlying46 yM rfl (by decide) wr.heap.size (.slice none 0 0) 0 [] (by rfl) qx.out.row ⟨nb,0,none⟩ 1 1 [.int .i64 xv, .int .i64 xn] (by rfl) (rfl) (qx.out.cell (by simp)) (by simp [Value.oneCell']) (by unfold maxLen;omega) (by omega) qx.out.below.size ?_
      intro ja jc Xq4 e1 e2 e3 e4 e5
      try simp only [Nat.zero_add,List.nil_append] at e1 e5 ⊢
      have qD:=qh (qx.out.app e1 e4 e5)
      clear e1 e2 e3 e4 e5
      refine hK.out _ _ qD.out.below (fun _=> ?_)
      clear hK K
      refine zA 5 6 ?vq3 rfl ?znv (qD.out.below) ?_
      case znv=>(intro _ _;go_simp<;>rfl)
      simp only [Act.put,za,ze,zf]
      refine zA 6 7 ?vq4 rfl ?znw (qD.out.below) ?_
      case znw=>(intro _ _;go_simp<;>rfl)
      simp only [Act.put,za,ze,zf]
      refine wpAnyH_done (by kernel_rfl) ?_ _
      refine NoPanic.normal ?_
      have hr:=qD.out.row
      go_wp2_with fail
      go_ret2
      refine⟨⟨.slice ja 1 jc,by first|rfl|simp, ?_, ?_⟩,vk.out.trans (qD.out.below.mono vk.out.size)⟩
      ·try rw [if_pos rfl]
       exact vL (B:=wr.heap.size) (by rw [HLEN.out,je.out,HE.out];exact hr)
      ·have h2:_:=yN (C:=w.heap.size) (B:=wr.heap.size) (n:=(l++ [(⟨xv,xn⟩:zn)]).length) (xs:=zq zn.cells (l++ [⟨xv,xn⟩])) (by rw [HLEN.out,je.out,HE.out];exact hr) vk.out.size
       first|exact h2|(intro _;exact h2)|simpa using h2
     ·skip
      go_simp
      have qy:=hT0.out.alloc [.int .i64 xv, .int .i64 xn]
      refine hK.out _ _ qy.below (fun _=> ?_)
      obtain⟨nb,hnb⟩:∃n,n=wd.heap.size:=⟨_,rfl⟩
      rw [<-hnb] at qy ⊢
      clear hnb
      generalize World.alloc wd _=Xq6 at qy ⊢
      replace qy:=qh qy
      clear hK K
      refine zT 1 rfl (fun K hK=> ?_)
      refine qR Xq6 (by rfl) (.const (.slice none 0 0)) (.tmp 46) 46 rfl 50 i0 Tryz.underlying46 hi0 (by rfl) ba bc (by rfl) ?_
      refine hK.out _ _ (qy.out.below) (fun _=> ?_)
      clear hK K
      refine zT 4 rfl (fun K hK=> ?_)
      refine zP Xq6 (by rfl) (.tmp 47) (.tmp 49) 46 rfl 50 (.agg #[.int .i64 0, .int .i64 0]) 2 16 Tryz.underlying46 yM rfl (by decide) wr.heap.size (.slice none 0 0) 0 [] (by rfl) qy.out.row ⟨nb,0,none⟩ 1 1 [.int .i64 xv, .int .i64 xn] (by rfl) (rfl) (qy.out.cell (by simp)) (by simp [Value.oneCell']) (by unfold maxLen;omega) (by omega) qy.out.below.size ?_
      intro ja jc Xq8 e1 e2 e3 e4 e5
      try simp only [Nat.zero_add,List.nil_append] at e1 e5 ⊢
      have qE:=qh (qy.out.app e1 e4 e5)
      clear e1 e2 e3 e4 e5
      refine hK.out _ _ qE.out.below (fun _=> ?_)
      clear hK K
      refine zA 5 6 ?vq5 rfl ?znx (qE.out.below) ?_
      case znx=>(intro _ _;go_simp<;>rfl)
      simp only [Act.put,za,ze,zf]
      refine zA 6 7 ?vq6 rfl ?zny (qE.out.below) ?_
      case zny=>(intro _ _;go_simp<;>rfl)
      simp only [Act.put,za,ze,zf]
      refine wpAnyH_done (by kernel_rfl) ?_ _
      refine NoPanic.normal ?_
      have hr:=qE.out.row
      go_wp2_with fail
      go_ret2
      refine⟨⟨.slice ja 1 jc,by first|rfl|simp, ?_, ?_⟩,vk.out.trans (qE.out.below.mono vk.out.size)⟩
      ·try rw [if_pos rfl]
       exact vL (B:=wr.heap.size) (by rw [HLEN.out,je.out,HE.out];exact hr)
      ·have h2:_:=yN (C:=w.heap.size) (B:=wr.heap.size) (n:=(l++ [(⟨xv,xn⟩:zn)]).length) (xs:=zq zn.cells (l++ [⟨xv,xn⟩])) (by rw [HLEN.out,je.out,HE.out];exact hr) vk.out.size
       first|exact h2|(intro _;exact h2)|simpa using h2
    ·clear a1 KEY
     go_upto_region 9 with fail
     refine wp_region_noPanic ?_
     refine wp_region_held_drew (S:=fun x=>Below wr.heap.size wr x) (by kernel_rfl) (Below.refl _ _).drew (fun _=> ?_)
     obtain⟨wd,hwd⟩:∃wd,wd=wr.drew:=⟨_,rfl⟩
     rw [<-hwd] at hT0 ⊢
     clear hwd
     refine zA 0 46 ?vq7 rfl ?znz (hT0.out.below) ?_
     case znz=>(intro _ _;go_simp<;>rfl)
     simp only [Act.put,za,ze,zf]
     refine zA 2 48 ?vq8 rfl ?zn0 (hT0.out.below) ?_
     case zn0=>(intro x h;have e:=CC.out x h;go_simp<;>rfl)
     simp only [Act.put,za,ze,zf]
     refine wpAnyH_ready (rs:= [1,3]) (by kernel_rfl) (by simp) ?_
     refine AllReadyH.cons rfl (fun K hK=> ?_) (AllReadyH.cons rfl (fun K hK=> ?_) AllReadyH.nil)
     ·skip
      refine qR wd (by rfl) (.const (.slice none 0 0)) (.tmp 46) 46 rfl 50 i0 Tryz.underlying46 hi0 (by rfl) ba bc (by rfl) ?_
      refine hK.out _ _ (hT0.out.below) (fun _=> ?_)
      clear hK K
      refine zT 3 rfl (fun K hK=> ?_)
      go_simp
      have qx:=hT0.out.alloc [.int .i64 xv, .int .i64 xn]
      refine hK.out _ _ qx.below (fun _=> ?_)
      obtain⟨nb,hnb⟩:∃n,n=wd.heap.size:=⟨_,rfl⟩
      rw [<-hnb] at qx ⊢
      clear hnb
      generalize World.alloc wd _=Xq2 at qx ⊢
      replace qx:=qh qx
      clear hK K
      refine zT 4 rfl (fun K hK=> ?_)
      refine zP Xq2 (by rfl) (.tmp 47) (.tmp 49) 46 rfl 50 (.agg #[.int .i64 0, .int .i64 0]) 2 16 Tryz.underlying46 yM rfl (by decide) wr.heap.size (.slice none 0 0) 0 [] (by rfl) qx.out.row ⟨nb,0,none⟩ 1 1 [.int .i64 xv, .int .i64 xn] (by rfl) (rfl) (qx.out.cell (by simp)) (by simp [Value.oneCell']) (by unfold maxLen;omega) (by omega) qx.out.below.size ?_
      intro ja jc Xq4 e1 e2 e3 e4 e5
      try simp only [Nat.zero_add,List.nil_append] at e1 e5 ⊢
      have qD:=qh (qx.out.app e1 e4 e5)
      clear e1 e2 e3 e4 e5
      refine hK.out _ _ qD.out.below (fun _=> ?_)
      clear hK K
      refine zA 5 6 ?vq9 rfl ?zn1 (qD.out.below) ?_
      case zn1=>(intro _ _;go_simp<;>rfl)
      simp only [Act.put,za,ze,zf]
      refine zA 6 7 ?z1Y rfl ?zir (qD.out.below) ?_
      case zir=>(intro _ _;go_simp<;>rfl)
      simp only [Act.put,za,ze,zf]
      refine wpAnyH_done (by kernel_rfl) ?_ _
      refine NoPanic.normal ?_
      have hr:=qD.out.row
      go_wp2_with fail
      go_ret2
      refine⟨⟨.slice ja 1 jc,by first|rfl|simp, ?_, ?_⟩,vk.out.trans (qD.out.below.mono vk.out.size)⟩
      ·try rw [if_pos rfl]
       exact vL (B:=wr.heap.size) (by rw [HLEN.out,je.out,HE.out];exact hr)
      ·have h2:_:=yN (C:=w.heap.size) (B:=wr.heap.size) (n:=(l++ [(⟨xv,xn⟩:zn)]).length) (xs:=zq zn.cells (l++ [⟨xv,xn⟩])) (by rw [HLEN.out,je.out,HE.out];exact hr) vk.out.size
       first|exact h2|(intro _;exact h2)|simpa using h2
     ·skip
      go_simp
      have qy:=hT0.out.alloc [.int .i64 xv, .int .i64 xn]
      refine hK.out _ _ qy.below (fun _=> ?_)
      obtain⟨nb,hnb⟩:∃n,n=wd.heap.size:=⟨_,rfl⟩
      rw [<-hnb] at qy ⊢
      clear hnb
      generalize World.alloc wd _=Xq6 at qy ⊢
      replace qy:=qh qy
      clear hK K
      refine zT 1 rfl (fun K hK=> ?_)
      refine qR Xq6 (by rfl) (.const (.slice none 0 0)) (.tmp 46) 46 rfl 50 i0 Tryz.underlying46 hi0 (by rfl) ba bc (by rfl) ?_
      refine hK.out _ _ (qy.out.below) (fun _=> ?_)
      clear hK K
      refine zT 4 rfl (fun K hK=> ?_)
      refine zP Xq6 (by rfl) (.tmp 47) (.tmp 49) 46 rfl 50 (.agg #[.int .i64 0, .int .i64 0]) 2 16 Tryz.underlying46 yM rfl (by decide) wr.heap.size (.slice none 0 0) 0 [] (by rfl) qy.out.row ⟨nb,0,none⟩ 1 1 [.int .i64 xv, .int .i64 xn] (by rfl) (rfl) (qy.out.cell (by simp)) (by simp [Value.oneCell']) (by unfold maxLen;omega) (by omega) qy.out.below.size ?_
      intro ja jc Xq8 e1 e2 e3 e4 e5
      try simp only [Nat.zero_add,List.nil_append] at e1 e5 ⊢
      have qE:=qh (qy.out.app e1 e4 e5)
      clear e1 e2 e3 e4 e5
      refine hK.out _ _ qE.out.below (fun _=> ?_)
      clear hK K
      refine zA 5 6 ?z1Z rfl ?zis (qE.out.below) ?_
      case zis=>(intro _ _;go_simp<;>rfl)
      simp only [Act.put,za,ze,zf]
      refine zA 6 7 ?z2a rfl ?zit (qE.out.below) ?_
      case zit=>(intro _ _;go_simp<;>rfl)
      simp only [Act.put,za,ze,zf]
      refine wpAnyH_done (by kernel_rfl) ?_ _
      refine NoPanic.normal ?_
      have hr:=qE.out.row
      go_wp2_with fail
      go_ret2
      refine⟨⟨.slice ja 1 jc,by first|rfl|simp, ?_, ?_⟩,vk.out.trans (qE.out.below.mono vk.out.size)⟩
      ·try rw [if_pos rfl]
       exact vL (B:=wr.heap.size) (by rw [HLEN.out,je.out,HE.out];exact hr)
      ·have h2:_:=yN (C:=w.heap.size) (B:=wr.heap.size) (n:=(l++ [(⟨xv,xn⟩:zn)]).length) (xs:=zq zn.cells (l++ [⟨xv,xn⟩])) (by rw [HLEN.out,je.out,HE.out];exact hr) vk.out.size
       first|exact h2|(intro _;exact h2)|simpa using h2
   obtain⟨bb,bo,hba, -⟩:=HLR.out.part 0 (by rw [<-HN.out];omega)
   subst hba
   have bJ:Hid (∀x,Below wr.heap.size wr x->∀j u,(zq zn.cells l)[j]? =some u->x.cell? ((⟨bb,bo,none⟩:Addr).add j)=some u):=fun x hx=>zl.news (by omega) vV (fun _ _ _ h=>h) (zH.below HLR.out hx)
   have kZ:Hid ((zq zn.cells l).length=n*2):=by rw [Hid,vI vV, <-HN.out]
   rcases KEY mm a1 with⟨m1,m2⟩|m1
   ·clear a1 KEY
    go_upto_region 9 with fail
    refine wp_region_noPanic ?_
    refine wp_region_held_drew (S:=fun x=>Below wr.heap.size wr x) (by kernel_rfl) (Below.refl _ _).drew (fun _=> ?_)
    obtain⟨wd,hwd⟩:∃wd,wd=wr.drew:=⟨_,rfl⟩
    rw [<-hwd] at hT0 ⊢
    clear hwd
    refine zA 0 46 ?z2c rfl ?ziv (hT0.out.below) ?_
    case ziv=>(intro _ _;go_simp<;>rfl)
    simp only [Act.put,za,ze,zf]
    refine zA 2 48 ?z2d rfl ?ziw (hT0.out.below) ?_
    case ziw=>(intro x h;have e:=CC.out x h;go_simp<;>rfl)
    simp only [Act.put,za,ze,zf]
    refine wpAnyH_ready (rs:= [1,3]) (by kernel_rfl) (by simp) ?_
    refine AllReadyH.cons rfl (fun K hK=> ?_) (AllReadyH.cons rfl (fun K hK=> ?_) AllReadyH.nil)
    ·skip
     refine zP wd (by rfl) (.const (.slice none 0 0)) (.tmp 46) 46 rfl 50 (.agg #[.int .i64 0, .int .i64 0]) 2 16 Tryz.underlying46 yM rfl (by decide) wr.heap.size (.slice none 0 0) 0 [] (by rfl) hT0.out.row ⟨bb,bo,none⟩ n bc (zq zn.cells l) (by rfl) (kZ.out) (bJ.out _ (hT0.out.below)) (jZ) (by unfold maxLen;omega) (by omega) hT0.out.below.size ?_
     intro ra rc Xq2 e1 e2 e3 e4 e5
     try simp only [Nat.zero_add,List.nil_append] at e1 e5 ⊢
     have qx:=qh (hT0.out.app e1 e4 e5)
     clear e1 e2 e3 e4 e5
     refine hK.out _ _ qx.out.below (fun _=> ?_)
     clear hK K
     refine zT 3 rfl (fun K hK=> ?_)
     go_simp
     have qD:=qx.out.alloc [.int .i64 xv, .int .i64 xn]
     refine hK.out _ _ qD.below (fun _=> ?_)
     obtain⟨nb,hnb⟩:∃n,n=Xq2.heap.size:=⟨_,rfl⟩
     rw [<-hnb] at qD ⊢
     clear hnb
     generalize World.alloc Xq2 _=Xq4 at qD ⊢
     replace qD:=qh qD
     clear hK K
     refine zT 4 rfl (fun K hK=> ?_)
     refine zP Xq4 (by rfl) (.tmp 47) (.tmp 49) 46 rfl 50 (.agg #[.int .i64 0, .int .i64 0]) 2 16 Tryz.underlying46 yM rfl (by decide) wr.heap.size (.slice ra n rc) n (zq zn.cells l) (by rfl) qD.out.row ⟨nb,0,none⟩ 1 1 [.int .i64 xv, .int .i64 xn] (by rfl) (rfl) (qD.out.cell (by simp)) (by simp [Value.oneCell']) (by unfold maxLen;omega) (by omega) qD.out.below.size ?_
     intro ja jc Xq6 e1 e2 e3 e4 e5
     try simp only [Nat.zero_add,List.nil_append] at e1 e5 ⊢
     have qy:=qh (qD.out.app e1 e4 e5)
     clear e1 e2 e3 e4 e5
     refine hK.out _ _ qy.out.below (fun _=> ?_)
     clear hK K
     refine zA 5 6 ?zDI rfl ?zzp (qy.out.below) ?_
     case zzp=>(intro _ _;go_simp<;>rfl)
     simp only [Act.put,za,ze,zf]
     refine zA 6 7 ?zDJ rfl ?zzq (qy.out.below) ?_
     case zzq=>(intro _ _;go_simp<;>rfl)
     simp only [Act.put,za,ze,zf]
     refine wpAnyH_done (by kernel_rfl) ?_ _
     refine NoPanic.normal ?_
     have hr:=qy.out.row
     go_wp2_with fail
     go_ret2
     refine⟨⟨.slice ja (n+1) jc,by first|rfl|simp, ?_, ?_⟩,vk.out.trans (qy.out.below.mono vk.out.size)⟩
     ·try rw [if_pos rfl]
      exact vL (B:=wr.heap.size) (by rw [HLEN.out,je.out];exact hr)
     ·have h2:_:=yN (C:=w.heap.size) (B:=wr.heap.size) (n:=(l++ [(⟨xv,xn⟩:zn)]).length) (xs:=zq zn.cells (l++ [⟨xv,xn⟩])) (by rw [HLEN.out,je.out];exact hr) vk.out.size
      first|exact h2|(intro _;exact h2)|simpa using h2
    ·skip
     go_simp
     have qE:=hT0.out.alloc [.int .i64 xv, .int .i64 xn]
     refine hK.out _ _ qE.below (fun _=> ?_)
     obtain⟨nb,hnb⟩:∃n,n=wd.heap.size:=⟨_,rfl⟩
     rw [<-hnb] at qE ⊢
     clear hnb
     generalize World.alloc wd _=Xq8 at qE ⊢
     replace qE:=qh qE
     clear hK K
     refine zT 1 rfl (fun K hK=> ?_)
     refine zP Xq8 (by rfl) (.const (.slice none 0 0)) (.tmp 46) 46 rfl 50 (.agg #[.int .i64 0, .int .i64 0]) 2 16 Tryz.underlying46 yM rfl (by decide) wr.heap.size (.slice none 0 0) 0 [] (by rfl) qE.out.row ⟨bb,bo,none⟩ n bc (zq zn.cells l) (by rfl) (kZ.out) (bJ.out _ (qE.out.below)) (jZ) (by unfold maxLen;omega) (by omega) qE.out.below.size ?_
     intro ra rc zps e1 e2 e3 e4 e5
     try simp only [Nat.zero_add,List.nil_append] at e1 e5 ⊢
     have zaa:=qh (qE.out.app e1 e4 e5)
     clear e1 e2 e3 e4 e5
     refine hK.out _ _ zaa.out.below (fun _=> ?_)
     clear hK K
     refine zT 4 rfl (fun K hK=> ?_)
     refine zP zps (by rfl) (.tmp 47) (.tmp 49) 46 rfl 50 (.agg #[.int .i64 0, .int .i64 0]) 2 16 Tryz.underlying46 yM rfl (by decide) wr.heap.size (.slice ra n rc) n (zq zn.cells l) (by rfl) zaa.out.row ⟨nb,0,none⟩ 1 1 [.int .i64 xv, .int .i64 xn] (by rfl) (rfl) (zaa.out.cell (by simp)) (by simp [Value.oneCell']) (by unfold maxLen;omega) (by omega) zaa.out.below.size ?_
     intro ja jc z5q e1 e2 e3 e4 e5
     try simp only [Nat.zero_add,List.nil_append] at e1 e5 ⊢
     have gX:=qh (zaa.out.app e1 e4 e5)
     clear e1 e2 e3 e4 e5
     refine hK.out _ _ gX.out.below (fun _=> ?_)
     clear hK K
     refine zA 5 6 ?zDK rfl ?zzr (gX.out.below) ?_
     case zzr=>(intro _ _;go_simp<;>rfl)
     simp only [Act.put,za,ze,zf]
     refine zA 6 7 ?zDL rfl ?zzs (gX.out.below) ?_
     case zzs=>(intro _ _;go_simp<;>rfl)
     simp only [Act.put,za,ze,zf]
     refine wpAnyH_done (by kernel_rfl) ?_ _
     refine NoPanic.normal ?_
     have hr:=gX.out.row
     go_wp2_with fail
     go_ret2
     refine⟨⟨.slice ja (n+1) jc,by first|rfl|simp, ?_, ?_⟩,vk.out.trans (gX.out.below.mono vk.out.size)⟩
     ·try rw [if_pos rfl]
      exact vL (B:=wr.heap.size) (by rw [HLEN.out,je.out];exact hr)
     ·have h2:_:=yN (C:=w.heap.size) (B:=wr.heap.size) (n:=(l++ [(⟨xv,xn⟩:zn)]).length) (xs:=zq zn.cells (l++ [⟨xv,xn⟩])) (by rw [HLEN.out,je.out];exact hr) vk.out.size
      first|exact h2|(intro _;exact h2)|simpa using h2
   ·clear a1 KEY
    go_upto_region 9 with fail
    refine wp_region_noPanic ?_
    refine wp_region_held_drew (S:=fun x=>Below wr.heap.size wr x) (by kernel_rfl) (Below.refl _ _).drew (fun _=> ?_)
    obtain⟨wd,hwd⟩:∃wd,wd=wr.drew:=⟨_,rfl⟩
    rw [<-hwd] at hT0 ⊢
    clear hwd
    refine zA 0 46 ?zDM rfl ?zzt (hT0.out.below) ?_
    case zzt=>(intro _ _;go_simp<;>rfl)
    simp only [Act.put,za,ze,zf]
    refine zA 2 48 ?zDN rfl ?zzu (hT0.out.below) ?_
    case zzu=>(intro x h;have e:=CC.out x h;go_simp<;>rfl)
    simp only [Act.put,za,ze,zf]
    refine wpAnyH_ready (rs:= [1,3]) (by kernel_rfl) (by simp) ?_
    refine AllReadyH.cons rfl (fun K hK=> ?_) (AllReadyH.cons rfl (fun K hK=> ?_) AllReadyH.nil)
    ·skip
     refine zP wd (by rfl) (.const (.slice none 0 0)) (.tmp 46) 46 rfl 50 (.agg #[.int .i64 0, .int .i64 0]) 2 16 Tryz.underlying46 yM rfl (by decide) wr.heap.size (.slice none 0 0) 0 [] (by rfl) hT0.out.row ⟨bb,bo,none⟩ n bc (zq zn.cells l) (by rfl) (kZ.out) (bJ.out _ (hT0.out.below)) (jZ) (by unfold maxLen;omega) (by omega) hT0.out.below.size ?_
     intro ra rc Xq2 e1 e2 e3 e4 e5
     try simp only [Nat.zero_add,List.nil_append] at e1 e5 ⊢
     have qx:=qh (hT0.out.app e1 e4 e5)
     clear e1 e2 e3 e4 e5
     refine hK.out _ _ qx.out.below (fun _=> ?_)
     clear hK K
     refine zT 3 rfl (fun K hK=> ?_)
     go_simp
     have qD:=qx.out.alloc [.int .i64 xv, .int .i64 xn]
     refine hK.out _ _ qD.below (fun _=> ?_)
     obtain⟨nb,hnb⟩:∃n,n=Xq2.heap.size:=⟨_,rfl⟩
     rw [<-hnb] at qD ⊢
     clear hnb
     generalize World.alloc Xq2 _=Xq4 at qD ⊢
     replace qD:=qh qD
     clear hK K
     refine zT 4 rfl (fun K hK=> ?_)
     refine zP Xq4 (by rfl) (.tmp 47) (.tmp 49) 46 rfl 50 (.agg #[.int .i64 0, .int .i64 0]) 2 16 Tryz.underlying46 yM rfl (by decide) wr.heap.size (.slice ra n rc) n (zq zn.cells l) (by rfl) qD.out.row ⟨nb,0,none⟩ 1 1 [.int .i64 xv, .int .i64 xn] (by rfl) (rfl) (qD.out.cell (by simp)) (by simp [Value.oneCell']) (by unfold maxLen;omega) (by omega) qD.out.below.size ?_
     intro ja jc Xq6 e1 e2 e3 e4 e5
     try simp only [Nat.zero_add,List.nil_append] at e1 e5 ⊢
     have qy:=qh (qD.out.app e1 e4 e5)
     clear e1 e2 e3 e4 e5
     refine hK.out _ _ qy.out.below (fun _=> ?_)
     clear hK K
     refine zA 5 6 ?zDO rfl ?zzv (qy.out.below) ?_
     case zzv=>(intro _ _;go_simp<;>rfl)
     simp only [Act.put,za,ze,zf]
     refine zA 6 7 ?zDP rfl ?zzw (qy.out.below) ?_
     case zzw=>(intro _ _;go_simp<;>rfl)
     simp only [Act.put,za,ze,zf]
     refine wpAnyH_done (by kernel_rfl) ?_ _
     refine NoPanic.normal ?_
     have hr:=qy.out.row
     go_wp2_with fail
     go_ret2
     refine⟨⟨.slice ja (n+1) jc,by first|rfl|simp, ?_, ?_⟩,vk.out.trans (qy.out.below.mono vk.out.size)⟩
     ·try rw [if_pos rfl]
      exact vL (B:=wr.heap.size) (by rw [HLEN.out,je.out];exact hr)
     ·have h2:_:=yN (C:=w.heap.size) (B:=wr.heap.size) (n:=(l++ [(⟨xv,xn⟩:zn)]).length) (xs:=zq zn.cells (l++ [⟨xv,xn⟩])) (by rw [HLEN.out,je.out];exact hr) vk.out.size
      first|exact h2|(intro _;exact h2)|simpa using h2
    ·skip
     go_simp
     have qE:=hT0.out.alloc [.int .i64 xv, .int .i64 xn]
     refine hK.out _ _ qE.below (fun _=> ?_)
     obtain⟨nb,hnb⟩:∃n,n=wd.heap.size:=⟨_,rfl⟩
     rw [<-hnb] at qE ⊢
     clear hnb
     generalize World.alloc wd _=Xq8 at qE ⊢
     replace qE:=qh qE
     clear hK K
     refine zT 1 rfl (fun K hK=> ?_)
     refine zP Xq8 (by rfl) (.const (.slice none 0 0)) (.tmp 46) 46 rfl 50 (.agg #[.int .i64 0, .int .i64 0]) 2 16 Tryz.underlying46 yM rfl (by decide) wr.heap.size (.slice none 0 0) 0 [] (by rfl) qE.out.row ⟨bb,bo,none⟩ n bc (zq zn.cells l) (by rfl) (kZ.out) (bJ.out _ (qE.out.below)) (jZ) (by unfold maxLen;omega) (by omega) qE.out.below.size ?_
     intro ra rc zps e1 e2 e3 e4 e5
     try simp only [Nat.zero_add,List.nil_append] at e1 e5 ⊢
     have zaa:=qh (qE.out.app e1 e4 e5)
     clear e1 e2 e3 e4 e5
     refine hK.out _ _ zaa.out.below (fun _=> ?_)
     clear hK K
     refine zT 4 rfl (fun K hK=> ?_)
     refine zP zps (by rfl) (.tmp 47) (.tmp 49) 46 rfl 50 (.agg #[.int .i64 0, .int .i64 0]) 2 16 Tryz.underlying46 yM rfl (by decide) wr.heap.size (.slice ra n rc) n (zq zn.cells l) (by rfl) zaa.out.row ⟨nb,0,none⟩ 1 1 [.int .i64 xv, .int .i64 xn] (by rfl) (rfl) (zaa.out.cell (by simp)) (by simp [Value.oneCell']) (by unfold maxLen;omega) (by omega) zaa.out.below.size ?_
     intro ja jc z5q e1 e2 e3 e4 e5
     try simp only [Nat.zero_add,List.nil_append] at e1 e5 ⊢
     have gX:=qh (zaa.out.app e1 e4 e5)
     clear e1 e2 e3 e4 e5
     refine hK.out _ _ gX.out.below (fun _=> ?_)
     clear hK K
     refine zA 5 6 ?zDQ rfl ?zzx (gX.out.below) ?_
     case zzx=>(intro _ _;go_simp<;>rfl)
     simp only [Act.put,za,ze,zf]
     refine zA 6 7 ?zDR rfl ?zzy (gX.out.below) ?_
     case zzy=>(intro _ _;go_simp<;>rfl)
     simp only [Act.put,za,ze,zf]
     refine wpAnyH_done (by kernel_rfl) ?_ _
     refine NoPanic.normal ?_
     have hr:=gX.out.row
     go_wp2_with fail
     go_ret2
     refine⟨⟨.slice ja (n+1) jc,by first|rfl|simp, ?_, ?_⟩,vk.out.trans (gX.out.below.mono vk.out.size)⟩
     ·try rw [if_pos rfl]
      exact vL (B:=wr.heap.size) (by rw [HLEN.out,je.out];exact hr)
     ·have h2:_:=yN (C:=w.heap.size) (B:=wr.heap.size) (n:=(l++ [(⟨xv,xn⟩:zn)]).length) (xs:=zq zn.cells (l++ [⟨xv,xn⟩])) (by rw [HLEN.out,je.out];exact hr) vk.out.size
      first|exact h2|(intro _;exact h2)|simpa using h2
end Go.Proofs.YtliajkheeniljaaGreatDoor
