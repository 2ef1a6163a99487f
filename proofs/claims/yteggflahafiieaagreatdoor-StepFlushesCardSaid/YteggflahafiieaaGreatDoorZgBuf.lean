/- Steps. -/
import Derived.Test.YteggflahafiieaaGreatDoorZgData
set_option linter.all false
namespace Go.Proofs.YteggflahafiieaaGreatDoor
open Go.RowKit
set_option maxRecDepth 100000
set_option maxHeartbeats 16000000
theorem xZ (w:World) (o1 o2:Obj):Below w.heap.size w ((w.alloc o1).alloc o2):=((Below.refl _ _).alloc (Nat.le_refl _) _).alloc (by simp) _
theorem xL (w:World) (o1 o2:Obj):((w.alloc o1).alloc o2).heap[w.heap.size]? =some o1:=(Below.heap_alloc _ _ _ (by simp)).trans (yE w _)
theorem xE (w:World) (o1 o2:Obj):((w.alloc o1).alloc o2).heap[w.heap.size+1]? =some o2:=by
 have:=yE (w.alloc o1) o2
 simp only [World.size_alloc] at this;exact this
theorem xu:(Tryz.prog.info? 136).map (λi=>(i.zero,i.size,i.bytes))=some (some (.agg #[.int .i64 0, .int .i64 0]),2,16):=by kernel_rfl
theorem vO:(Tryz.prog.info? 3).map (λi=>(i.zero,i.size,i.bytes))=some (some (.int .i64 0),1,8):=by kernel_rfl
theorem jY (x:zi):x.cells.length=2:=rfl
theorem uZ (x:Int):([Value.int .i64 x]).length=1:=rfl
def yO (x:Int):List Value:= [.int .i64 x]
theorem gI {l:List zi} :∀u∈zl zi.cells l,u.oneCell'=true:=λu hu=>by
 obtain⟨x, -,hx⟩:=List.mem_flatMap.1 hu
 simp [zi.cells] at hx
 rcases hx with rfl|rfl<;>rfl
theorem zph {l:List Int} :∀u∈zl yO l,u.oneCell'=true:=λu hu=>by
 obtain⟨x, -,hx⟩:=List.mem_flatMap.1 hu
 simp [yO] at hx
 subst hx;rfl
theorem jE {w:World} {B:Nat} {sv:Value} {l:List zi} (h:w.ownsRow B 136 2 sv l.length (zl zi.cells l)):zW w sv l:=ze.of_flat (R:=uH) jY (λ_ _=>rfl) h
theorem gQ {w:World} {B:Nat} {sv:Value} {l:List Int} (h:w.ownsRow B 3 1 sv l.length (zl yO l)):xI w sv l:=ze.of_flat (R:=uQ) (f:=yO) uZ (λ_ _=>rfl) h
def zc5 (l:List zi) (m:zF) (v:Int):Nat:=l.countP (λy=>decide (m.model=1)||decide (y.var=v))
def xY (l:List zi) (m:zF) (x:zi):Bool:=(decide (m.model=1)||decide (m.model=2)) && decide ((zc5 l m x.var:Int)<m.bound)
def vF (l:List zi) (m:zF) (x:zi):List zi:=if xY l m x then l++ [x] else l
theorem zgz {l:List zi} {i:Nat} (hi:i<l.length) (p:zi->Bool):(l.take (i+1)).countP p=(l.take i).countP p+(if p (l.getD i default) then 1 else 0):=by
 rw [List.take_add_one,List.countP_append,List.getElem?_eq_getElem hi,List.getD_eq_getElem?_getD,List.getElem?_eq_getElem hi]
 simp [List.countP_cons]
theorem zpi (w:World) (bv:Value) (l:List zi) (h:zW w bv l) (hl:l.length<=1000000) (m:zF) (x:zi):
  Calls Tryz.prog 96 #[bv,xD m,x.val] w λe w'=>(∃wO,e= .returned (.tuple #[wO, .bool (xY l m x)])/\zW w' wO (vF l m x)/\(xY l m x=true->w'.ownsRow w.heap.size 136 2 wO (vF l m x).length (zl zi.cells (vF l m x))))/\Below w.heap.size w w':=by
 obtain⟨ba,bc,rfl, -⟩:=ze.slice h
 obtain⟨n,hn⟩:∃n,n=l.length:=⟨_,rfl⟩
 obtain⟨mm,mb⟩:=m
 obtain⟨xv,xn⟩:=x
 obtain⟨p,hp⟩:∃p:zi->Bool,p=(λy=>decide (mm=1)||decide (y.var=xv)):=⟨_,rfl⟩
 obtain⟨ok,hok⟩:∃ok,ok=xY l ⟨mm,mb⟩ ⟨xv,xn⟩:=⟨_,rfl⟩
 have hok2:ok=((decide (mm=1)||decide (mm=2)) && decide ((l.countP p:Int)<mb)):=by rw [hok,hp];rfl
 have hpb:vF l ⟨mm,mb⟩ ⟨xv,xn⟩=if ok then l++ [⟨xv,xn⟩] else l:=by rw [hok];rfl
 rw [<-hok,hpb]
 rw [<-hn] at h hl ⊢
 have vS:=qh hok2
 have HP:=qh hp
 have HN:=qh hn
 clear hok hok2 hpb hp hn
 have hb0:=xZ w (.cells #[.int .i64 mm, .int .i64 mb] 31) (.cells #[.int .i64 xv, .int .i64 xn] 136)
 have HB:=qh hb0
 have HM:=qh (xL w (.cells #[.int .i64 mm, .int .i64 mb] 31) (.cells #[.int .i64 xv, .int .i64 xn] 136))
 have HX:=qh (xE w (.cells #[.int .i64 mm, .int .i64 mb] 31) (.cells #[.int .i64 xv, .int .i64 xn] 136))
 have HL:=qh (zW.below h hb0)
 clear h hb0
 unfold xD zi.val
 simp only []
 go_enter Tryz.func96,Tryz.ntmps96
 go_upto_region 1 with fail
 generalize World.alloc (World.alloc w _) _=W at HB HM HX HL ⊢
 obtain⟨gx,hgx⟩:∃gx,gx=w.heap.size:=⟨_,rfl⟩
 rw [<-hgx] at HM HX ⊢
 clear hgx
 have HC:Hid (∀x,Below W.heap.size W x->x.cell? ⟨gx,0,none⟩=some (.int .i64 mm)/\x.cell? ⟨gx,1,none⟩=some (.int .i64 mb)/\x.cell? ⟨gx+1,0,none⟩=some (.int .i64 xv)/\x.cell? ⟨gx+1,1,none⟩=some (.int .i64 xn)):=λx hx=>
  ⟨zh hx _ _ (za HM.out 0),zh hx _ _ (za HM.out 1),zh hx _ _ (za HX.out 0),zh hx _ _ (za HX.out 1)⟩
 clear HM HX
 go_wp2_with fail
 go_loopg [8,9] n (λgg s8 s9 wr=>∃i c:Nat,i<=n/\Hid (gg=n - i)/\s8= .int .i64 c/\s9= .int .i64 i/\Hid (c=(l.take i).countP p)/\c<=i/\Hid (Below W.heap.size W wr))
 case atStart=>exact⟨0,0,Nat.zero_le _,rfl,rfl,rfl,by simp [Hid],Nat.le_refl _,Below.refl _ _⟩
 case round=>
 obtain⟨i,c,hi,HG,rfl,rfl,HCN,hci,zX⟩:=hrel
 by_cases hlt:i<n
 ·have qK:(i:Int)<(n:Int):=by omega
  obtain⟨c0,c1,c2,c3⟩:=HC.out wr zX.out
  obtain⟨eb,eo,yG, -,he1, -⟩:=HL.out.part i (by rw [<-HN.out];exact hlt)
  subst yG
  obtain⟨ev,hev⟩:∃ev,ev=(l.getD i default).var:=⟨_,rfl⟩
  rw [<-hev] at he1
  have e1:=zh zX.out _ _ he1
  have hst:=zgz (l:=l) (i:=i) (by rw [<-HN.out];exact hlt) p
  rw [<-HCN.out] at hst
  have HST:=qh hst
  have HPI:Hid (p (l.getD i default)=(decide (mm=1)||decide (ev=xv))):=by rw [Hid,HP.out,hev]
  clear he1 hev hst
  by_cases a1:mm=1
  ·have a1b:((mm:Int)==1)=true:=by simp [a1]
   have qz:Hid (c+1=(l.take (i+1)).countP p):=by rw [Hid,HST.out,HPI.out,a1];simp
   have A1:=qh a1
   clear a1
   go_wp2_with fail
   go_quiet (fail)
   go_wp2_with fail
   go_roundg (n - (i+1))
   case measure=>rw [HG.out];omega
   case rel=>exact⟨i+1,c+1,by omega,rfl,by simp,by simp,qz.out,by omega,yj zX.out _⟩
  have a1b:((mm:Int)==1)=false:=by simp [a1]
  have A1:=qh a1
  clear a1
  by_cases a2:ev=xv
  ·have a2b:((ev:Int)==xv)=true:=by simp [a2]
   have qz:Hid (c+1=(l.take (i+1)).countP p):=by rw [Hid,HST.out,HPI.out,a2];simp
   clear a2
   go_wp2_with fail
   go_quiet (fail)
   go_wp2_with fail
   go_roundg (n - (i+1))
   case measure=>rw [HG.out];omega
   case rel=>exact⟨i+1,c+1,by omega,rfl,by simp,by simp,qz.out,by omega,yj zX.out _⟩
  have a2b:((ev:Int)==xv)=false:=by simp [a2]
  have A2:=qh a2
  have qz:Hid (c=(l.take (i+1)).countP p):=by rw [Hid,HST.out,HPI.out];simp [A1.out,A2.out]
  clear a2
  go_wp2_with fail
  go_quiet (fail)
  go_wp2_with fail
  go_roundg (n - (i+1))
  case measure=>rw [HG.out];omega
  case rel=>exact⟨i+1,c,by omega,rfl,rfl,by simp,qz.out,by omega,yj zX.out _⟩
 obtain rfl:n=i:=by omega
 obtain⟨c0,c1,c2,c3⟩:=HC.out wr zX.out
 have hcn:c=l.countP p:=by rw [HCN.out,HN.out,List.take_length]
 have xJ:=qh hcn
 have HLR:=qh (zW.below HL.out zX.out)
 clear hcn
 by_cases a1:mm=1\/mm=2
 rotate_left
 ·have hok:ok=false:=by rw [vS.out];simp;omega
  have a3:¬mm=1:=λe=>a1 (.inl e)
  have a4:¬mm=2:=λe=>a1 (.inr e)
  have a3b:((mm:Int) !=1)=true:=by simp [a3]
  have a4b:((mm:Int) !=2)=true:=by simp [a4]
  clear a1 a3 a4
  subst hok
  go_wp2_with fail
  go_ret2
  exact⟨⟨_,by first|rfl|simp,by simpa using HLR.out⟩,HB.out.trans (zX.out.mono HB.out.size)⟩
 by_cases a2:(c:Int)<mb
 rotate_left
 ·have hok:ok=false:=by rw [vS.out, <-xJ.out];simp;omega
  subst hok
  have a2n:mb<=(c:Int):=by omega
  rcases a1 with rfl|rfl<;>(go_wp2_with fail;go_ret2;exact⟨⟨_,by first|rfl|simp,by simpa using HLR.out⟩,HB.out.trans (zX.out.mono HB.out.size)⟩)
 as_aux_lemma=>
  have hok:ok=true:=by rw [vS.out, <-xJ.out];rcases a1 with a1|a1<;>simp [a1,a2]
  have a2n:¬mb<=(c:Int):=by omega
  subst hok
  have CC:Hid (∀x,Below wr.heap.size wr x->x.cell? ⟨gx+1,0,none⟩=some (.int .i64 xv)/\x.cell? ⟨gx+1,1,none⟩=some (.int .i64 xn)):=λx hx=>⟨(HC.out x (zB zX.out hx)).2.2.1,(HC.out x (zB zX.out hx)).2.2.2⟩
  have HEQ:Hid (zl zi.cells (l++ [⟨xv,xn⟩])=zl zi.cells l++ [.int .i64 xv, .int .i64 xn]):=by rw [Hid,kH];rfl
  have HLEN:Hid ((l++ [(⟨xv,xn⟩:zi)]).length=n+1):=by rw [Hid,List.length_append, <-HN.out];rfl
  have jq:Hid (Below w.heap.size w wr):=HB.out.trans (zX.out.mono HB.out.size)
  have h0:=App.start 136 2 wr
  have hT0:=qh h0.drew
  clear h0
  have KEY:∀mm:Int,(mm=1\/mm=2)->((mm !=1)=true/\(mm !=2)=false)\/(mm !=1)=false:=λmm h=>by rcases h with rfl|rfl<;>simp
  obtain⟨i0,hi0, -, -, -⟩:=info_parts xu
  by_cases hn0:n=0
  ·have HE:Hid (zl zi.cells l= []):=by rw [Hid,show l= [] from List.eq_nil_of_length_eq_zero (by rw [<-HN.out];exact hn0)];rfl
   subst hn0
   rcases KEY mm a1 with⟨m1,m2⟩|m1
   ·clear a1 KEY
    go_upto_region 9 with fail
    refine vJ (S:=λx=>Below wr.heap.size wr x) (Below.refl _ _).drew (λ_=> ?_)
    obtain⟨wd,hwd⟩:∃wd,wd=wr.drew:=⟨_,rfl⟩
    rw [<-hwd] at hT0 ⊢
    clear hwd
    refine zA 0 zM (hT0.out.below) ?_
    refine zA 2 CC.out (hT0.out.below) ?_
    refine wpAnyH_ready (rs:= [1,3]) (by kernel_rfl) (by simp) ?_
    refine AllReadyH.cons rfl (λK hK=> ?_) (AllReadyH.cons rfl (λK hK=> ?_) AllReadyH.nil)
    ·skip
     refine jd wd (by rfl) (.const (.slice none 0 0)) (.tmp 46) 45 rfl 136 i0 Tryz.underlying45 hi0 (by rfl) ba bc (by rfl) ?_
     refine hK.out _ _ (hT0.out.below) (λ_=> ?_)
     clear hK K
     refine yw 3 rfl (λK hK=> ?_)
     go_simp
     have vg:=hT0.out.alloc [.int .i64 xv, .int .i64 xn]
     refine hK.out _ _ vg.below (λ_=> ?_)
     obtain⟨nb,hnb⟩:∃n,n=wd.heap.size:=⟨_,rfl⟩
     rw [<-hnb] at vg ⊢
     clear hnb
     generalize World.alloc wd _=Xq2 at vg ⊢
     replace vg:=qh vg
     clear hK K
     refine yw 4 rfl (λK hK=> ?_)
     refine zV Xq2 (by rfl) (.tmp 47) (.tmp 49) 45 rfl 136 (.agg #[.int .i64 0, .int .i64 0]) 2 16 Tryz.underlying45 xu rfl (by decide) wr.heap.size (.slice none 0 0) 0 [] (by rfl) vg.out.row ⟨nb,0,none⟩ 1 1 [.int .i64 xv, .int .i64 xn] (by rfl) (rfl) (vg.out.cell (by simp)) (by simp [Value.oneCell']) (by unfold maxLen;omega) (by omega) vg.out.below.size ?_
     intro ja jc Xq4 e1 e2 e3 e4 e5
     try simp only [Nat.zero_add,List.nil_append] at e1 e5 ⊢
     have vP:=qh (vg.out.app e1 e4 e5)
     clear e1 e2 e3 e4 e5
     refine hK.out _ _ vP.out.below (λ_=> ?_)
     clear hK K
     refine zA 5 zM (vP.out.below) ?_
     refine zA 6 zM (vP.out.below) ?_
     refine xM ?_
     have hr:=vP.out.row
     go_wp2_with fail
     go_ret2
     refine⟨⟨.slice ja 1 jc,by first|rfl|simp, ?_, ?_⟩,jq.out.trans (vP.out.below.mono jq.out.size)⟩
     ·try rw [if_pos rfl]
      exact jE (B:=wr.heap.size) (by rw [HLEN.out,HEQ.out,HE.out];exact hr)
     have h2:_:=xw (C:=w.heap.size) (B:=wr.heap.size) (n:=(l++ [(⟨xv,xn⟩:zi)]).length) (xs:=zl zi.cells (l++ [⟨xv,xn⟩])) (by rw [HLEN.out,HEQ.out,HE.out];exact hr) jq.out.size
     first|exact h2|(intro _;exact h2)|simpa using h2
    skip
    go_simp
    have vk:=hT0.out.alloc [.int .i64 xv, .int .i64 xn]
    refine hK.out _ _ vk.below (λ_=> ?_)
    obtain⟨nb,hnb⟩:∃n,n=wd.heap.size:=⟨_,rfl⟩
    rw [<-hnb] at vk ⊢
    clear hnb
    generalize World.alloc wd _=Xq6 at vk ⊢
    replace vk:=qh vk
    clear hK K
    refine yw 1 rfl (λK hK=> ?_)
    refine jd Xq6 (by rfl) (.const (.slice none 0 0)) (.tmp 46) 45 rfl 136 i0 Tryz.underlying45 hi0 (by rfl) ba bc (by rfl) ?_
    refine hK.out _ _ (vk.out.below) (λ_=> ?_)
    clear hK K
    refine yw 4 rfl (λK hK=> ?_)
    refine zV Xq6 (by rfl) (.tmp 47) (.tmp 49) 45 rfl 136 (.agg #[.int .i64 0, .int .i64 0]) 2 16 Tryz.underlying45 xu rfl (by decide) wr.heap.size (.slice none 0 0) 0 [] (by rfl) vk.out.row ⟨nb,0,none⟩ 1 1 [.int .i64 xv, .int .i64 xn] (by rfl) (rfl) (vk.out.cell (by simp)) (by simp [Value.oneCell']) (by unfold maxLen;omega) (by omega) vk.out.below.size ?_
    intro ja jc Xq8 e1 e2 e3 e4 e5
    try simp only [Nat.zero_add,List.nil_append] at e1 e5 ⊢
    have vQ:=qh (vk.out.app e1 e4 e5)
    clear e1 e2 e3 e4 e5
    refine hK.out _ _ vQ.out.below (λ_=> ?_)
    clear hK K
    refine zA 5 zM (vQ.out.below) ?_
    refine zA 6 zM (vQ.out.below) ?_
    refine xM ?_
    have hr:=vQ.out.row
    go_wp2_with fail
    go_ret2
    refine⟨⟨.slice ja 1 jc,by first|rfl|simp, ?_, ?_⟩,jq.out.trans (vQ.out.below.mono jq.out.size)⟩
    ·try rw [if_pos rfl]
     exact jE (B:=wr.heap.size) (by rw [HLEN.out,HEQ.out,HE.out];exact hr)
    have h2:_:=xw (C:=w.heap.size) (B:=wr.heap.size) (n:=(l++ [(⟨xv,xn⟩:zi)]).length) (xs:=zl zi.cells (l++ [⟨xv,xn⟩])) (by rw [HLEN.out,HEQ.out,HE.out];exact hr) jq.out.size
    first|exact h2|(intro _;exact h2)|simpa using h2
   clear a1 KEY
   go_upto_region 9 with fail
   refine vJ (S:=λx=>Below wr.heap.size wr x) (Below.refl _ _).drew (λ_=> ?_)
   obtain⟨wd,hwd⟩:∃wd,wd=wr.drew:=⟨_,rfl⟩
   rw [<-hwd] at hT0 ⊢
   clear hwd
   refine zA 0 zM (hT0.out.below) ?_
   refine zA 2 CC.out (hT0.out.below) ?_
   refine wpAnyH_ready (rs:= [1,3]) (by kernel_rfl) (by simp) ?_
   refine AllReadyH.cons rfl (λK hK=> ?_) (AllReadyH.cons rfl (λK hK=> ?_) AllReadyH.nil)
   ·skip
    refine jd wd (by rfl) (.const (.slice none 0 0)) (.tmp 46) 45 rfl 136 i0 Tryz.underlying45 hi0 (by rfl) ba bc (by rfl) ?_
    refine hK.out _ _ (hT0.out.below) (λ_=> ?_)
    clear hK K
    refine yw 3 rfl (λK hK=> ?_)
    go_simp
    have vg:=hT0.out.alloc [.int .i64 xv, .int .i64 xn]
    refine hK.out _ _ vg.below (λ_=> ?_)
    obtain⟨nb,hnb⟩:∃n,n=wd.heap.size:=⟨_,rfl⟩
    rw [<-hnb] at vg ⊢
    clear hnb
    generalize World.alloc wd _=Xq2 at vg ⊢
    replace vg:=qh vg
    clear hK K
    refine yw 4 rfl (λK hK=> ?_)
    refine zV Xq2 (by rfl) (.tmp 47) (.tmp 49) 45 rfl 136 (.agg #[.int .i64 0, .int .i64 0]) 2 16 Tryz.underlying45 xu rfl (by decide) wr.heap.size (.slice none 0 0) 0 [] (by rfl) vg.out.row ⟨nb,0,none⟩ 1 1 [.int .i64 xv, .int .i64 xn] (by rfl) (rfl) (vg.out.cell (by simp)) (by simp [Value.oneCell']) (by unfold maxLen;omega) (by omega) vg.out.below.size ?_
    intro ja jc Xq4 e1 e2 e3 e4 e5
    try simp only [Nat.zero_add,List.nil_append] at e1 e5 ⊢
    have vP:=qh (vg.out.app e1 e4 e5)
    clear e1 e2 e3 e4 e5
    refine hK.out _ _ vP.out.below (λ_=> ?_)
    clear hK K
    refine zA 5 zM (vP.out.below) ?_
    refine zA 6 zM (vP.out.below) ?_
    refine xM ?_
    have hr:=vP.out.row
    go_wp2_with fail
    go_ret2
    refine⟨⟨.slice ja 1 jc,by first|rfl|simp, ?_, ?_⟩,jq.out.trans (vP.out.below.mono jq.out.size)⟩
    ·try rw [if_pos rfl]
     exact jE (B:=wr.heap.size) (by rw [HLEN.out,HEQ.out,HE.out];exact hr)
    have h2:_:=xw (C:=w.heap.size) (B:=wr.heap.size) (n:=(l++ [(⟨xv,xn⟩:zi)]).length) (xs:=zl zi.cells (l++ [⟨xv,xn⟩])) (by rw [HLEN.out,HEQ.out,HE.out];exact hr) jq.out.size
    first|exact h2|(intro _;exact h2)|simpa using h2
   skip
   go_simp
   have vk:=hT0.out.alloc [.int .i64 xv, .int .i64 xn]
   refine hK.out _ _ vk.below (λ_=> ?_)
   obtain⟨nb,hnb⟩:∃n,n=wd.heap.size:=⟨_,rfl⟩
   rw [<-hnb] at vk ⊢
   clear hnb
   generalize World.alloc wd _=Xq6 at vk ⊢
   replace vk:=qh vk
   clear hK K
   refine yw 1 rfl (λK hK=> ?_)
   refine jd Xq6 (by rfl) (.const (.slice none 0 0)) (.tmp 46) 45 rfl 136 i0 Tryz.underlying45 hi0 (by rfl) ba bc (by rfl) ?_
   refine hK.out _ _ (vk.out.below) (λ_=> ?_)
   clear hK K
   refine yw 4 rfl (λK hK=> ?_)
   refine zV Xq6 (by rfl) (.tmp 47) (.tmp 49) 45 rfl 136 (.agg #[.int .i64 0, .int .i64 0]) 2 16 Tryz.underlying45 xu rfl (by decide) wr.heap.size (.slice none 0 0) 0 [] (by rfl) vk.out.row ⟨nb,0,none⟩ 1 1 [.int .i64 xv, .int .i64 xn] (by rfl) (rfl) (vk.out.cell (by simp)) (by simp [Value.oneCell']) (by unfold maxLen;omega) (by omega) vk.out.below.size ?_
   intro ja jc Xq8 e1 e2 e3 e4 e5
   try simp only [Nat.zero_add,List.nil_append] at e1 e5 ⊢
   have vQ:=qh (vk.out.app e1 e4 e5)
   clear e1 e2 e3 e4 e5
   refine hK.out _ _ vQ.out.below (λ_=> ?_)
   clear hK K
   refine zA 5 zM (vQ.out.below) ?_
   refine zA 6 zM (vQ.out.below) ?_
   refine xM ?_
   have hr:=vQ.out.row
   go_wp2_with fail
   go_ret2
   refine⟨⟨.slice ja 1 jc,by first|rfl|simp, ?_, ?_⟩,jq.out.trans (vQ.out.below.mono jq.out.size)⟩
   ·try rw [if_pos rfl]
    exact jE (B:=wr.heap.size) (by rw [HLEN.out,HEQ.out,HE.out];exact hr)
   have h2:_:=xw (C:=w.heap.size) (B:=wr.heap.size) (n:=(l++ [(⟨xv,xn⟩:zi)]).length) (xs:=zl zi.cells (l++ [⟨xv,xn⟩])) (by rw [HLEN.out,HEQ.out,HE.out];exact hr) jq.out.size
   first|exact h2|(intro _;exact h2)|simpa using h2
  obtain⟨bb,bo,hba, -⟩:=HLR.out.part 0 (by rw [<-HN.out];omega)
  subst hba
  have zaD:Hid (∀x,Below wr.heap.size wr x->∀j u,(zl zi.cells l)[j]? =some u->x.cell? ((⟨bb,bo,none⟩:Addr).add j)=some u):=λx hx=>ze.news (by omega) jY (λ_ _ _ h=>h) (zW.below HLR.out hx)
  have j3:Hid ((zl zi.cells l).length=n*2):=by rw [Hid,jA jY, <-HN.out]
  rcases KEY mm a1 with⟨m1,m2⟩|m1
  ·clear a1 KEY
   go_upto_region 9 with fail
   refine vJ (S:=λx=>Below wr.heap.size wr x) (Below.refl _ _).drew (λ_=> ?_)
   obtain⟨wd,hwd⟩:∃wd,wd=wr.drew:=⟨_,rfl⟩
   rw [<-hwd] at hT0 ⊢
   clear hwd
   refine zA 0 zM (hT0.out.below) ?_
   refine zA 2 CC.out (hT0.out.below) ?_
   refine wpAnyH_ready (rs:= [1,3]) (by kernel_rfl) (by simp) ?_
   refine AllReadyH.cons rfl (λK hK=> ?_) (AllReadyH.cons rfl (λK hK=> ?_) AllReadyH.nil)
   ·skip
    refine zV wd (by rfl) (.const (.slice none 0 0)) (.tmp 46) 45 rfl 136 (.agg #[.int .i64 0, .int .i64 0]) 2 16 Tryz.underlying45 xu rfl (by decide) wr.heap.size (.slice none 0 0) 0 [] (by rfl) hT0.out.row ⟨bb,bo,none⟩ n bc (zl zi.cells l) (by rfl) (j3.out) (zaD.out _ (hT0.out.below)) (gI) (by unfold maxLen;omega) (by omega) hT0.out.below.size ?_
    intro ra rc Xq2 e1 e2 e3 e4 e5
    try simp only [Nat.zero_add,List.nil_append] at e1 e5 ⊢
    have vg:=qh (hT0.out.app e1 e4 e5)
    clear e1 e2 e3 e4 e5
    refine hK.out _ _ vg.out.below (λ_=> ?_)
    clear hK K
    refine yw 3 rfl (λK hK=> ?_)
    go_simp
    have vP:=vg.out.alloc [.int .i64 xv, .int .i64 xn]
    refine hK.out _ _ vP.below (λ_=> ?_)
    obtain⟨nb,hnb⟩:∃n,n=Xq2.heap.size:=⟨_,rfl⟩
    rw [<-hnb] at vP ⊢
    clear hnb
    generalize World.alloc Xq2 _=Xq4 at vP ⊢
    replace vP:=qh vP
    clear hK K
    refine yw 4 rfl (λK hK=> ?_)
    refine zV Xq4 (by rfl) (.tmp 47) (.tmp 49) 45 rfl 136 (.agg #[.int .i64 0, .int .i64 0]) 2 16 Tryz.underlying45 xu rfl (by decide) wr.heap.size (.slice ra n rc) n (zl zi.cells l) (by rfl) vP.out.row ⟨nb,0,none⟩ 1 1 [.int .i64 xv, .int .i64 xn] (by rfl) (rfl) (vP.out.cell (by simp)) (by simp [Value.oneCell']) (by unfold maxLen;omega) (by omega) vP.out.below.size ?_
    intro ja jc Xq6 e1 e2 e3 e4 e5
    try simp only [Nat.zero_add,List.nil_append] at e1 e5 ⊢
    have vk:=qh (vP.out.app e1 e4 e5)
    clear e1 e2 e3 e4 e5
    refine hK.out _ _ vk.out.below (λ_=> ?_)
    clear hK K
    refine zA 5 zM (vk.out.below) ?_
    refine zA 6 zM (vk.out.below) ?_
    refine xM ?_
    have hr:=vk.out.row
    go_wp2_with fail
    go_ret2
    refine⟨⟨.slice ja (n+1) jc,by first|rfl|simp, ?_, ?_⟩,jq.out.trans (vk.out.below.mono jq.out.size)⟩
    ·try rw [if_pos rfl]
     exact jE (B:=wr.heap.size) (by rw [HLEN.out,HEQ.out];exact hr)
    have h2:_:=xw (C:=w.heap.size) (B:=wr.heap.size) (n:=(l++ [(⟨xv,xn⟩:zi)]).length) (xs:=zl zi.cells (l++ [⟨xv,xn⟩])) (by rw [HLEN.out,HEQ.out];exact hr) jq.out.size
    first|exact h2|(intro _;exact h2)|simpa using h2
   skip
   go_simp
   have vQ:=hT0.out.alloc [.int .i64 xv, .int .i64 xn]
   refine hK.out _ _ vQ.below (λ_=> ?_)
   obtain⟨nb,hnb⟩:∃n,n=wd.heap.size:=⟨_,rfl⟩
   rw [<-hnb] at vQ ⊢
   clear hnb
   generalize World.alloc wd _=Xq8 at vQ ⊢
   replace vQ:=qh vQ
   clear hK K
   refine yw 1 rfl (λK hK=> ?_)
   refine zV Xq8 (by rfl) (.const (.slice none 0 0)) (.tmp 46) 45 rfl 136 (.agg #[.int .i64 0, .int .i64 0]) 2 16 Tryz.underlying45 xu rfl (by decide) wr.heap.size (.slice none 0 0) 0 [] (by rfl) vQ.out.row ⟨bb,bo,none⟩ n bc (zl zi.cells l) (by rfl) (j3.out) (zaD.out _ (vQ.out.below)) (gI) (by unfold maxLen;omega) (by omega) vQ.out.below.size ?_
   intro ra rc zuK e1 e2 e3 e4 e5
   try simp only [Nat.zero_add,List.nil_append] at e1 e5 ⊢
   have zba:=qh (vQ.out.app e1 e4 e5)
   clear e1 e2 e3 e4 e5
   refine hK.out _ _ zba.out.below (λ_=> ?_)
   clear hK K
   refine yw 4 rfl (λK hK=> ?_)
   refine zV zuK (by rfl) (.tmp 47) (.tmp 49) 45 rfl 136 (.agg #[.int .i64 0, .int .i64 0]) 2 16 Tryz.underlying45 xu rfl (by decide) wr.heap.size (.slice ra n rc) n (zl zi.cells l) (by rfl) zba.out.row ⟨nb,0,none⟩ 1 1 [.int .i64 xv, .int .i64 xn] (by rfl) (rfl) (zba.out.cell (by simp)) (by simp [Value.oneCell']) (by unfold maxLen;omega) (by omega) zba.out.below.size ?_
   intro ja jc z5V e1 e2 e3 e4 e5
   try simp only [Nat.zero_add,List.nil_append] at e1 e5 ⊢
   have bO:=qh (zba.out.app e1 e4 e5)
   clear e1 e2 e3 e4 e5
   refine hK.out _ _ bO.out.below (λ_=> ?_)
   clear hK K
   refine zA 5 zM (bO.out.below) ?_
   refine zA 6 zM (bO.out.below) ?_
   refine xM ?_
   have hr:=bO.out.row
   go_wp2_with fail
   go_ret2
   refine⟨⟨.slice ja (n+1) jc,by first|rfl|simp, ?_, ?_⟩,jq.out.trans (bO.out.below.mono jq.out.size)⟩
   ·try rw [if_pos rfl]
    exact jE (B:=wr.heap.size) (by rw [HLEN.out,HEQ.out];exact hr)
   have h2:_:=xw (C:=w.heap.size) (B:=wr.heap.size) (n:=(l++ [(⟨xv,xn⟩:zi)]).length) (xs:=zl zi.cells (l++ [⟨xv,xn⟩])) (by rw [HLEN.out,HEQ.out];exact hr) jq.out.size
   first|exact h2|(intro _;exact h2)|simpa using h2
  clear a1 KEY
  go_upto_region 9 with fail
  refine vJ (S:=λx=>Below wr.heap.size wr x) (Below.refl _ _).drew (λ_=> ?_)
  obtain⟨wd,hwd⟩:∃wd,wd=wr.drew:=⟨_,rfl⟩
  rw [<-hwd] at hT0 ⊢
  clear hwd
  refine zA 0 zM (hT0.out.below) ?_
  refine zA 2 CC.out (hT0.out.below) ?_
  refine wpAnyH_ready (rs:= [1,3]) (by kernel_rfl) (by simp) ?_
  refine AllReadyH.cons rfl (λK hK=> ?_) (AllReadyH.cons rfl (λK hK=> ?_) AllReadyH.nil)
  ·skip
   refine zV wd (by rfl) (.const (.slice none 0 0)) (.tmp 46) 45 rfl 136 (.agg #[.int .i64 0, .int .i64 0]) 2 16 Tryz.underlying45 xu rfl (by decide) wr.heap.size (.slice none 0 0) 0 [] (by rfl) hT0.out.row ⟨bb,bo,none⟩ n bc (zl zi.cells l) (by rfl) (j3.out) (zaD.out _ (hT0.out.below)) (gI) (by unfold maxLen;omega) (by omega) hT0.out.below.size ?_
   intro ra rc Xq2 e1 e2 e3 e4 e5
   try simp only [Nat.zero_add,List.nil_append] at e1 e5 ⊢
   have vg:=qh (hT0.out.app e1 e4 e5)
   clear e1 e2 e3 e4 e5
   refine hK.out _ _ vg.out.below (λ_=> ?_)
   clear hK K
   refine yw 3 rfl (λK hK=> ?_)
   go_simp
   have vP:=vg.out.alloc [.int .i64 xv, .int .i64 xn]
   refine hK.out _ _ vP.below (λ_=> ?_)
   obtain⟨nb,hnb⟩:∃n,n=Xq2.heap.size:=⟨_,rfl⟩
   rw [<-hnb] at vP ⊢
   clear hnb
   generalize World.alloc Xq2 _=Xq4 at vP ⊢
   replace vP:=qh vP
   clear hK K
   refine yw 4 rfl (λK hK=> ?_)
   refine zV Xq4 (by rfl) (.tmp 47) (.tmp 49) 45 rfl 136 (.agg #[.int .i64 0, .int .i64 0]) 2 16 Tryz.underlying45 xu rfl (by decide) wr.heap.size (.slice ra n rc) n (zl zi.cells l) (by rfl) vP.out.row ⟨nb,0,none⟩ 1 1 [.int .i64 xv, .int .i64 xn] (by rfl) (rfl) (vP.out.cell (by simp)) (by simp [Value.oneCell']) (by unfold maxLen;omega) (by omega) vP.out.below.size ?_
   intro ja jc Xq6 e1 e2 e3 e4 e5
   try simp only [Nat.zero_add,List.nil_append] at e1 e5 ⊢
   have vk:=qh (vP.out.app e1 e4 e5)
   clear e1 e2 e3 e4 e5
   refine hK.out _ _ vk.out.below (λ_=> ?_)
   clear hK K
   refine zA 5 zM (vk.out.below) ?_
   refine zA 6 zM (vk.out.below) ?_
   refine xM ?_
   have hr:=vk.out.row
   go_wp2_with fail
   go_ret2
   refine⟨⟨.slice ja (n+1) jc,by first|rfl|simp, ?_, ?_⟩,jq.out.trans (vk.out.below.mono jq.out.size)⟩
   ·try rw [if_pos rfl]
    exact jE (B:=wr.heap.size) (by rw [HLEN.out,HEQ.out];exact hr)
   have h2:_:=xw (C:=w.heap.size) (B:=wr.heap.size) (n:=(l++ [(⟨xv,xn⟩:zi)]).length) (xs:=zl zi.cells (l++ [⟨xv,xn⟩])) (by rw [HLEN.out,HEQ.out];exact hr) jq.out.size
   first|exact h2|(intro _;exact h2)|simpa using h2
  skip
  go_simp
  have vQ:=hT0.out.alloc [.int .i64 xv, .int .i64 xn]
  refine hK.out _ _ vQ.below (λ_=> ?_)
  obtain⟨nb,hnb⟩:∃n,n=wd.heap.size:=⟨_,rfl⟩
  rw [<-hnb] at vQ ⊢
  clear hnb
  generalize World.alloc wd _=Xq8 at vQ ⊢
  replace vQ:=qh vQ
  clear hK K
  refine yw 1 rfl (λK hK=> ?_)
  refine zV Xq8 (by rfl) (.const (.slice none 0 0)) (.tmp 46) 45 rfl 136 (.agg #[.int .i64 0, .int .i64 0]) 2 16 Tryz.underlying45 xu rfl (by decide) wr.heap.size (.slice none 0 0) 0 [] (by rfl) vQ.out.row ⟨bb,bo,none⟩ n bc (zl zi.cells l) (by rfl) (j3.out) (zaD.out _ (vQ.out.below)) (gI) (by unfold maxLen;omega) (by omega) vQ.out.below.size ?_
  intro ra rc zuK e1 e2 e3 e4 e5
  try simp only [Nat.zero_add,List.nil_append] at e1 e5 ⊢
  have zba:=qh (vQ.out.app e1 e4 e5)
  clear e1 e2 e3 e4 e5
  refine hK.out _ _ zba.out.below (λ_=> ?_)
  clear hK K
  refine yw 4 rfl (λK hK=> ?_)
  refine zV zuK (by rfl) (.tmp 47) (.tmp 49) 45 rfl 136 (.agg #[.int .i64 0, .int .i64 0]) 2 16 Tryz.underlying45 xu rfl (by decide) wr.heap.size (.slice ra n rc) n (zl zi.cells l) (by rfl) zba.out.row ⟨nb,0,none⟩ 1 1 [.int .i64 xv, .int .i64 xn] (by rfl) (rfl) (zba.out.cell (by simp)) (by simp [Value.oneCell']) (by unfold maxLen;omega) (by omega) zba.out.below.size ?_
  intro ja jc z5V e1 e2 e3 e4 e5
  try simp only [Nat.zero_add,List.nil_append] at e1 e5 ⊢
  have bO:=qh (zba.out.app e1 e4 e5)
  clear e1 e2 e3 e4 e5
  refine hK.out _ _ bO.out.below (λ_=> ?_)
  clear hK K
  refine zA 5 zM (bO.out.below) ?_
  refine zA 6 zM (bO.out.below) ?_
  refine xM ?_
  have hr:=bO.out.row
  go_wp2_with fail
  go_ret2
  refine⟨⟨.slice ja (n+1) jc,by first|rfl|simp, ?_, ?_⟩,jq.out.trans (bO.out.below.mono jq.out.size)⟩
  ·try rw [if_pos rfl]
   exact jE (B:=wr.heap.size) (by rw [HLEN.out,HEQ.out];exact hr)
  have h2:_:=xw (C:=w.heap.size) (B:=wr.heap.size) (n:=(l++ [(⟨xv,xn⟩:zi)]).length) (xs:=zl zi.cells (l++ [⟨xv,xn⟩])) (by rw [HLEN.out,HEQ.out];exact hr) jq.out.size
  first|exact h2|(intro _;exact h2)|simpa using h2
