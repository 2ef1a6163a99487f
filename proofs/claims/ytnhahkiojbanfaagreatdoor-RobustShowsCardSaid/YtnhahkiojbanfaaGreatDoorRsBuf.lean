/- Steps. -/
import Derived.Test.YtnhahkiojbanfaaGreatDoorRsData
set_option linter.all false
namespace Go.Proofs.YtnhahkiojbanfaaGreatDoor
open Go.RowKit
set_option maxRecDepth 100000
set_option maxHeartbeats 16000000
theorem xO (w:World) (o1 o2:Obj):Below w.heap.size w ((w.alloc o1).alloc o2):=((Below.refl _ _).alloc (Nat.le_refl _) _).alloc (by simp) _
theorem xP (w:World) (o1 o2:Obj):((w.alloc o1).alloc o2).heap[w.heap.size]? =some o1:=(Below.heap_alloc _ _ _ (by simp)).trans (yj w _)
theorem xw (w:World) (o1 o2:Obj):((w.alloc o1).alloc o2).heap[w.heap.size+1]? =some o2:=by
 have:=yj (w.alloc o1) o2
 simp only [World.size_alloc] at this;exact this
theorem xG:(Tryz.prog.info? 110).map (λi=>(i.zero,i.size,i.bytes))=some (some (.agg #[.int .i64 0, .int .i64 0]),2,16):=by kernel_rfl
theorem vg:(Tryz.prog.info? 3).map (λi=>(i.zero,i.size,i.bytes))=some (some (.int .i64 0),1,8):=by kernel_rfl
theorem wS (x:zl):x.cells.length=2:=rfl
theorem zaC (x:Int):([Value.int .i64 x]).length=1:=rfl
def yM (x:Int):List Value:= [.int .i64 x]
theorem bF {l:List zl} :∀u∈zo zl.cells l,u.oneCell'=true:=λu hu=>by
 obtain⟨x, -,hx⟩:=List.mem_flatMap.1 hu
 simp [zl.cells] at hx
 rcases hx with rfl|rfl<;>rfl
theorem zo6 {l:List Int} :∀u∈zo yM l,u.oneCell'=true:=λu hu=>by
 obtain⟨x, -,hx⟩:=List.mem_flatMap.1 hu
 simp [yM] at hx
 subst hx;rfl
theorem kX {w:World} {B:Nat} {sv:Value} {l:List zl} (h:w.ownsRow B 110 2 sv l.length (zo zl.cells l)):zZ w sv l:=zh.of_flat (R:=zan) wS (λ_ _=>rfl) h
theorem gN {w:World} {B:Nat} {sv:Value} {l:List Int} (h:w.ownsRow B 3 1 sv l.length (zo yM l)):qm w sv l:=zh.of_flat (R:=zae) (f:=yM) zaC (λ_ _=>rfl) h
def zem (l:List zl) (m:zy) (v:Int):Nat:=l.countP (λy=>decide (m.model=1)||decide (y.var=v))
def qX (l:List zl) (m:zy) (x:zl):Bool:=(decide (m.model=1)||decide (m.model=2)) && decide ((zem l m x.var:Int)<m.bound)
def jM (l:List zl) (m:zy) (x:zl):List zl:=if qX l m x then l++ [x] else l
theorem ziR {l:List zl} {i:Nat} (hi:i<l.length) (p:zl->Bool):(l.take (i+1)).countP p=(l.take i).countP p+(if p (l.getD i default) then 1 else 0):=by
 rw [List.take_add_one,List.countP_append,List.getElem?_eq_getElem hi,List.getD_eq_getElem?_getD,List.getElem?_eq_getElem hi]
 simp [List.countP_cons]
theorem znT (w:World) (bv:Value) (l:List zl) (h:zZ w bv l) (hl:l.length<=1000000) (m:zy) (x:zl):
  Calls Tryz.prog 69 #[bv,qg m,x.val] w λe w'=>(∃bv',e= .returned (.tuple #[bv', .bool (qX l m x)])/\zZ w' bv' (jM l m x)/\(qX l m x=true->w'.ownsRow w.heap.size 110 2 bv' (jM l m x).length (zo zl.cells (jM l m x))))/\Below w.heap.size w w':=by
 obtain⟨ba,bc,rfl, -⟩:=zh.slice h
 obtain⟨n,hn⟩:∃n,n=l.length:=⟨_,rfl⟩
 obtain⟨mm,mb⟩:=m
 obtain⟨xv,xn⟩:=x
 obtain⟨p,hp⟩:∃p:zl->Bool,p=(λy=>decide (mm=1)||decide (y.var=xv)):=⟨_,rfl⟩
 obtain⟨ok,hok⟩:∃ok,ok=qX l ⟨mm,mb⟩ ⟨xv,xn⟩:=⟨_,rfl⟩
 have hok2:ok=((decide (mm=1)||decide (mm=2)) && decide ((l.countP p:Int)<mb)):=by rw [hok,hp];rfl
 have hpb:jM l ⟨mm,mb⟩ ⟨xv,xn⟩=if ok then l++ [⟨xv,xn⟩] else l:=by rw [hok];rfl
 rw [<-hok,hpb]
 rw [<-hn] at h hl ⊢
 have je:=qh hok2
 have HP:=qh hp
 have HN:=qh hn
 clear hok hok2 hpb hp hn
 have hb0:=xO w (.cells #[.int .i64 mm, .int .i64 mb] 29) (.cells #[.int .i64 xv, .int .i64 xn] 110)
 have HB:=qh hb0
 have HM:=qh (xP w (.cells #[.int .i64 mm, .int .i64 mb] 29) (.cells #[.int .i64 xv, .int .i64 xn] 110))
 have HX:=qh (xw w (.cells #[.int .i64 mm, .int .i64 mb] 29) (.cells #[.int .i64 xv, .int .i64 xn] 110))
 have HL:=qh (zZ.below h hb0)
 clear h hb0
 unfold qg zl.val
 simp only []
 go_enter Tryz.func69,Tryz.ntmps69
 go_upto_region 1 with fail
 generalize World.alloc (World.alloc w _) _=W at HB HM HX HL ⊢
 obtain⟨gx,hgx⟩:∃gx,gx=w.heap.size:=⟨_,rfl⟩
 rw [<-hgx] at HM HX ⊢
 clear hgx
 have HC:Hid (∀x,Below W.heap.size W x->x.cell? ⟨gx,0,none⟩=some (.int .i64 mm)/\x.cell? ⟨gx,1,none⟩=some (.int .i64 mb)/\x.cell? ⟨gx+1,0,none⟩=some (.int .i64 xv)/\x.cell? ⟨gx+1,1,none⟩=some (.int .i64 xn)):=λx hx=>
  ⟨zk hx _ _ (ze HM.out 0),zk hx _ _ (ze HM.out 1),zk hx _ _ (ze HX.out 0),zk hx _ _ (ze HX.out 1)⟩
 clear HM HX
 go_wp2_with fail
 go_loopg [8,9] n (λgg s8 s9 wr=>∃i c:Nat,i<=n/\Hid (gg=n - i)/\s8= .int .i64 c/\s9= .int .i64 i/\Hid (c=(l.take i).countP p)/\c<=i/\Hid (Below W.heap.size W wr))
 case atStart=>exact⟨0,0,Nat.zero_le _,rfl,rfl,rfl,by simp [Hid],Nat.le_refl _,Below.refl _ _⟩
 case round=>
 obtain⟨i,c,hi,HG,rfl,rfl,HCN,hci,zL⟩:=hrel
 by_cases hlt:i<n
 ·have qN:(i:Int)<(n:Int):=by omega
  obtain⟨c0,c1,c2,c3⟩:=HC.out wr zL.out
  obtain⟨eb,eo,yh, -,he1, -⟩:=HL.out.part i (by rw [<-HN.out];exact hlt)
  subst yh
  obtain⟨ev,hev⟩:∃ev,ev=(l.getD i default).var:=⟨_,rfl⟩
  rw [<-hev] at he1
  have e1:=zk zL.out _ _ he1
  have hst:=ziR (l:=l) (i:=i) (by rw [<-HN.out];exact hlt) p
  rw [<-HCN.out] at hst
  have HST:=qh hst
  have HPI:Hid (p (l.getD i default)=(decide (mm=1)||decide (ev=xv))):=by rw [Hid,HP.out,hev]
  clear he1 hev hst
  by_cases a1:mm=1
  ·have a1b:((mm:Int)==1)=true:=by simp [a1]
   have qI:Hid (c+1=(l.take (i+1)).countP p):=by rw [Hid,HST.out,HPI.out,a1];simp
   have A1:=qh a1
   clear a1
   go_wp2_with fail
   go_quiet (fail)
   go_wp2_with fail
   go_roundg (n - (i+1))
   case measure=>rw [HG.out];omega
   case rel=>exact⟨i+1,c+1,by omega,rfl,by simp,by simp,qI.out,by omega,yg zL.out _⟩
  have a1b:((mm:Int)==1)=false:=by simp [a1]
  have A1:=qh a1
  clear a1
  by_cases a2:ev=xv
  ·have a2b:((ev:Int)==xv)=true:=by simp [a2]
   have qI:Hid (c+1=(l.take (i+1)).countP p):=by rw [Hid,HST.out,HPI.out,a2];simp
   clear a2
   go_wp2_with fail
   go_quiet (fail)
   go_wp2_with fail
   go_roundg (n - (i+1))
   case measure=>rw [HG.out];omega
   case rel=>exact⟨i+1,c+1,by omega,rfl,by simp,by simp,qI.out,by omega,yg zL.out _⟩
  have a2b:((ev:Int)==xv)=false:=by simp [a2]
  have A2:=qh a2
  have qI:Hid (c=(l.take (i+1)).countP p):=by rw [Hid,HST.out,HPI.out];simp [A1.out,A2.out]
  clear a2
  go_wp2_with fail
  go_quiet (fail)
  go_wp2_with fail
  go_roundg (n - (i+1))
  case measure=>rw [HG.out];omega
  case rel=>exact⟨i+1,c,by omega,rfl,rfl,by simp,qI.out,by omega,yg zL.out _⟩
 obtain rfl:n=i:=by omega
 obtain⟨c0,c1,c2,c3⟩:=HC.out wr zL.out
 have hcn:c=l.countP p:=by rw [HCN.out,HN.out,List.take_length]
 have qx:=qh hcn
 have uR:=qh (zZ.below HL.out zL.out)
 clear hcn
 by_cases a1:mm=1\/mm=2
 rotate_left
 ·have hok:ok=false:=by rw [je.out];simp;omega
  have a3:¬mm=1:=λe=>a1 (.inl e)
  have a4:¬mm=2:=λe=>a1 (.inr e)
  have a3b:((mm:Int) !=1)=true:=by simp [a3]
  have a4b:((mm:Int) !=2)=true:=by simp [a4]
  clear a1 a3 a4
  subst hok
  go_wp2_with fail
  go_ret2
  exact⟨⟨_,by first|rfl|simp,by simpa using uR.out⟩,HB.out.trans (zL.out.mono HB.out.size)⟩
 by_cases a2:(c:Int)<mb
 rotate_left
 ·have hok:ok=false:=by rw [je.out, <-qx.out];simp;omega
  subst hok
  have a2n:mb<=(c:Int):=by omega
  rcases a1 with rfl|rfl<;>(go_wp2_with fail;go_ret2;exact⟨⟨_,by first|rfl|simp,by simpa using uR.out⟩,HB.out.trans (zL.out.mono HB.out.size)⟩)
 as_aux_lemma=>
  have hok:ok=true:=by rw [je.out, <-qx.out];rcases a1 with a1|a1<;>simp [a1,a2]
  have a2n:¬mb<=(c:Int):=by omega
  subst hok
  have CC:Hid (∀x,Below wr.heap.size wr x->x.cell? ⟨gx+1,0,none⟩=some (.int .i64 xv)/\x.cell? ⟨gx+1,1,none⟩=some (.int .i64 xn)):=λx hx=>⟨(HC.out x (zH zL.out hx)).2.2.1,(HC.out x (zH zL.out hx)).2.2.2⟩
  have gK:Hid (zo zl.cells (l++ [⟨xv,xn⟩])=zo zl.cells l++ [.int .i64 xv, .int .i64 xn]):=by rw [Hid,kW];rfl
  have HLEN:Hid ((l++ [(⟨xv,xn⟩:zl)]).length=n+1):=by rw [Hid,List.length_append, <-HN.out];rfl
  have kD:Hid (Below w.heap.size w wr):=HB.out.trans (zL.out.mono HB.out.size)
  have h0:=App.start 110 2 wr
  have hT0:=qh h0.drew
  clear h0
  have KEY:∀mm:Int,(mm=1\/mm=2)->((mm !=1)=true/\(mm !=2)=false)\/(mm !=1)=false:=λmm h=>by rcases h with rfl|rfl<;>simp
  obtain⟨i0,hi0, -, -, -⟩:=info_parts xG
  by_cases hn0:n=0
  ·have HE:Hid (zo zl.cells l= []):=by rw [Hid,show l= [] from List.eq_nil_of_length_eq_zero (by rw [<-HN.out];exact hn0)];rfl
   subst hn0
   rcases KEY mm a1 with⟨m1,m2⟩|m1
   ·clear a1 KEY
    go_upto_region 9 with fail
    refine jf (S:=λx=>Below wr.heap.size wr x) (Below.refl _ _).drew (λ_=> ?_)
    obtain⟨wd,hwd⟩:∃wd,wd=wr.drew:=⟨_,rfl⟩
    rw [<-hwd] at hT0 ⊢
    clear hwd
    refine zF 0 zP (hT0.out.below) ?_
    refine zF 2 CC.out (hT0.out.below) ?_
    refine wpAnyH_ready (rs:= [1,3]) (by kernel_rfl) (by simp) ?_
    refine AllReadyH.cons rfl (λK hK=> ?_) (AllReadyH.cons rfl (λK hK=> ?_) AllReadyH.nil)
    ·skip
     refine jP wd (by rfl) (.const (.slice none 0 0)) (.tmp 46) 78 rfl 110 i0 Tryz.underlying78 hi0 (by rfl) ba bc (by rfl) ?_
     refine hK.out _ _ (hT0.out.below) (λ_=> ?_)
     clear hK K
     refine yC 3 rfl (λK hK=> ?_)
     go_simp
     have vV:=hT0.out.alloc [.int .i64 xv, .int .i64 xn]
     refine hK.out _ _ vV.below (λ_=> ?_)
     obtain⟨nb,hnb⟩:∃n,n=wd.heap.size:=⟨_,rfl⟩
     rw [<-hnb] at vV ⊢
     clear hnb
     generalize World.alloc wd _=Xq2 at vV ⊢
     replace vV:=qh vV
     clear hK K
     refine yC 4 rfl (λK hK=> ?_)
     refine zK Xq2 (by rfl) (.tmp 47) (.tmp 49) 78 rfl 110 (.agg #[.int .i64 0, .int .i64 0]) 2 16 Tryz.underlying78 xG rfl (by decide) wr.heap.size (.slice none 0 0) 0 [] (by rfl) vV.out.row ⟨nb,0,none⟩ 1 1 [.int .i64 xv, .int .i64 xn] (by rfl) (rfl) (vV.out.cell (by simp)) (by simp [Value.oneCell']) (by unfold maxLen;omega) (by omega) vV.out.below.size ?_
     intro ja jc Xq4 e1 e2 e3 e4 e5
     try simp only [Nat.zero_add,List.nil_append] at e1 e5 ⊢
     have jo:=qh (vV.out.app e1 e4 e5)
     clear e1 e2 e3 e4 e5
     refine hK.out _ _ jo.out.below (λ_=> ?_)
     clear hK K
     refine zF 5 zP (jo.out.below) ?_
     refine zF 6 zP (jo.out.below) ?_
     refine xW ?_
     have hr:=jo.out.row
     go_wp2_with fail
     go_ret2
     refine⟨⟨.slice ja 1 jc,by first|rfl|simp, ?_, ?_⟩,kD.out.trans (jo.out.below.mono kD.out.size)⟩
     ·try rw [if_pos rfl]
      exact kX (B:=wr.heap.size) (by rw [HLEN.out,gK.out,HE.out];exact hr)
     have h2:_:=xq (C:=w.heap.size) (B:=wr.heap.size) (n:=(l++ [(⟨xv,xn⟩:zl)]).length) (xs:=zo zl.cells (l++ [⟨xv,xn⟩])) (by rw [HLEN.out,gK.out,HE.out];exact hr) kD.out.size
     first|exact h2|(intro _;exact h2)|simpa using h2
    skip
    go_simp
    have vW:=hT0.out.alloc [.int .i64 xv, .int .i64 xn]
    refine hK.out _ _ vW.below (λ_=> ?_)
    obtain⟨nb,hnb⟩:∃n,n=wd.heap.size:=⟨_,rfl⟩
    rw [<-hnb] at vW ⊢
    clear hnb
    generalize World.alloc wd _=Xq6 at vW ⊢
    replace vW:=qh vW
    clear hK K
    refine yC 1 rfl (λK hK=> ?_)
    refine jP Xq6 (by rfl) (.const (.slice none 0 0)) (.tmp 46) 78 rfl 110 i0 Tryz.underlying78 hi0 (by rfl) ba bc (by rfl) ?_
    refine hK.out _ _ (vW.out.below) (λ_=> ?_)
    clear hK K
    refine yC 4 rfl (λK hK=> ?_)
    refine zK Xq6 (by rfl) (.tmp 47) (.tmp 49) 78 rfl 110 (.agg #[.int .i64 0, .int .i64 0]) 2 16 Tryz.underlying78 xG rfl (by decide) wr.heap.size (.slice none 0 0) 0 [] (by rfl) vW.out.row ⟨nb,0,none⟩ 1 1 [.int .i64 xv, .int .i64 xn] (by rfl) (rfl) (vW.out.cell (by simp)) (by simp [Value.oneCell']) (by unfold maxLen;omega) (by omega) vW.out.below.size ?_
    intro ja jc Xq8 e1 e2 e3 e4 e5
    try simp only [Nat.zero_add,List.nil_append] at e1 e5 ⊢
    have jq:=qh (vW.out.app e1 e4 e5)
    clear e1 e2 e3 e4 e5
    refine hK.out _ _ jq.out.below (λ_=> ?_)
    clear hK K
    refine zF 5 zP (jq.out.below) ?_
    refine zF 6 zP (jq.out.below) ?_
    refine xW ?_
    have hr:=jq.out.row
    go_wp2_with fail
    go_ret2
    refine⟨⟨.slice ja 1 jc,by first|rfl|simp, ?_, ?_⟩,kD.out.trans (jq.out.below.mono kD.out.size)⟩
    ·try rw [if_pos rfl]
     exact kX (B:=wr.heap.size) (by rw [HLEN.out,gK.out,HE.out];exact hr)
    have h2:_:=xq (C:=w.heap.size) (B:=wr.heap.size) (n:=(l++ [(⟨xv,xn⟩:zl)]).length) (xs:=zo zl.cells (l++ [⟨xv,xn⟩])) (by rw [HLEN.out,gK.out,HE.out];exact hr) kD.out.size
    first|exact h2|(intro _;exact h2)|simpa using h2
   clear a1 KEY
   go_upto_region 9 with fail
   refine jf (S:=λx=>Below wr.heap.size wr x) (Below.refl _ _).drew (λ_=> ?_)
   obtain⟨wd,hwd⟩:∃wd,wd=wr.drew:=⟨_,rfl⟩
   rw [<-hwd] at hT0 ⊢
   clear hwd
   refine zF 0 zP (hT0.out.below) ?_
   refine zF 2 CC.out (hT0.out.below) ?_
   refine wpAnyH_ready (rs:= [1,3]) (by kernel_rfl) (by simp) ?_
   refine AllReadyH.cons rfl (λK hK=> ?_) (AllReadyH.cons rfl (λK hK=> ?_) AllReadyH.nil)
   ·skip
    refine jP wd (by rfl) (.const (.slice none 0 0)) (.tmp 46) 78 rfl 110 i0 Tryz.underlying78 hi0 (by rfl) ba bc (by rfl) ?_
    refine hK.out _ _ (hT0.out.below) (λ_=> ?_)
    clear hK K
    refine yC 3 rfl (λK hK=> ?_)
    go_simp
    have vV:=hT0.out.alloc [.int .i64 xv, .int .i64 xn]
    refine hK.out _ _ vV.below (λ_=> ?_)
    obtain⟨nb,hnb⟩:∃n,n=wd.heap.size:=⟨_,rfl⟩
    rw [<-hnb] at vV ⊢
    clear hnb
    generalize World.alloc wd _=Xq2 at vV ⊢
    replace vV:=qh vV
    clear hK K
    refine yC 4 rfl (λK hK=> ?_)
    refine zK Xq2 (by rfl) (.tmp 47) (.tmp 49) 78 rfl 110 (.agg #[.int .i64 0, .int .i64 0]) 2 16 Tryz.underlying78 xG rfl (by decide) wr.heap.size (.slice none 0 0) 0 [] (by rfl) vV.out.row ⟨nb,0,none⟩ 1 1 [.int .i64 xv, .int .i64 xn] (by rfl) (rfl) (vV.out.cell (by simp)) (by simp [Value.oneCell']) (by unfold maxLen;omega) (by omega) vV.out.below.size ?_
    intro ja jc Xq4 e1 e2 e3 e4 e5
    try simp only [Nat.zero_add,List.nil_append] at e1 e5 ⊢
    have jo:=qh (vV.out.app e1 e4 e5)
    clear e1 e2 e3 e4 e5
    refine hK.out _ _ jo.out.below (λ_=> ?_)
    clear hK K
    refine zF 5 zP (jo.out.below) ?_
    refine zF 6 zP (jo.out.below) ?_
    refine xW ?_
    have hr:=jo.out.row
    go_wp2_with fail
    go_ret2
    refine⟨⟨.slice ja 1 jc,by first|rfl|simp, ?_, ?_⟩,kD.out.trans (jo.out.below.mono kD.out.size)⟩
    ·try rw [if_pos rfl]
     exact kX (B:=wr.heap.size) (by rw [HLEN.out,gK.out,HE.out];exact hr)
    have h2:_:=xq (C:=w.heap.size) (B:=wr.heap.size) (n:=(l++ [(⟨xv,xn⟩:zl)]).length) (xs:=zo zl.cells (l++ [⟨xv,xn⟩])) (by rw [HLEN.out,gK.out,HE.out];exact hr) kD.out.size
    first|exact h2|(intro _;exact h2)|simpa using h2
   skip
   go_simp
   have vW:=hT0.out.alloc [.int .i64 xv, .int .i64 xn]
   refine hK.out _ _ vW.below (λ_=> ?_)
   obtain⟨nb,hnb⟩:∃n,n=wd.heap.size:=⟨_,rfl⟩
   rw [<-hnb] at vW ⊢
   clear hnb
   generalize World.alloc wd _=Xq6 at vW ⊢
   replace vW:=qh vW
   clear hK K
   refine yC 1 rfl (λK hK=> ?_)
   refine jP Xq6 (by rfl) (.const (.slice none 0 0)) (.tmp 46) 78 rfl 110 i0 Tryz.underlying78 hi0 (by rfl) ba bc (by rfl) ?_
   refine hK.out _ _ (vW.out.below) (λ_=> ?_)
   clear hK K
   refine yC 4 rfl (λK hK=> ?_)
   refine zK Xq6 (by rfl) (.tmp 47) (.tmp 49) 78 rfl 110 (.agg #[.int .i64 0, .int .i64 0]) 2 16 Tryz.underlying78 xG rfl (by decide) wr.heap.size (.slice none 0 0) 0 [] (by rfl) vW.out.row ⟨nb,0,none⟩ 1 1 [.int .i64 xv, .int .i64 xn] (by rfl) (rfl) (vW.out.cell (by simp)) (by simp [Value.oneCell']) (by unfold maxLen;omega) (by omega) vW.out.below.size ?_
   intro ja jc Xq8 e1 e2 e3 e4 e5
   try simp only [Nat.zero_add,List.nil_append] at e1 e5 ⊢
   have jq:=qh (vW.out.app e1 e4 e5)
   clear e1 e2 e3 e4 e5
   refine hK.out _ _ jq.out.below (λ_=> ?_)
   clear hK K
   refine zF 5 zP (jq.out.below) ?_
   refine zF 6 zP (jq.out.below) ?_
   refine xW ?_
   have hr:=jq.out.row
   go_wp2_with fail
   go_ret2
   refine⟨⟨.slice ja 1 jc,by first|rfl|simp, ?_, ?_⟩,kD.out.trans (jq.out.below.mono kD.out.size)⟩
   ·try rw [if_pos rfl]
    exact kX (B:=wr.heap.size) (by rw [HLEN.out,gK.out,HE.out];exact hr)
   have h2:_:=xq (C:=w.heap.size) (B:=wr.heap.size) (n:=(l++ [(⟨xv,xn⟩:zl)]).length) (xs:=zo zl.cells (l++ [⟨xv,xn⟩])) (by rw [HLEN.out,gK.out,HE.out];exact hr) kD.out.size
   first|exact h2|(intro _;exact h2)|simpa using h2
  obtain⟨bb,bo,hba, -⟩:=uR.out.part 0 (by rw [<-HN.out];omega)
  subst hba
  have zcn:Hid (∀x,Below wr.heap.size wr x->∀j u,(zo zl.cells l)[j]? =some u->x.cell? ((⟨bb,bo,none⟩:Addr).add j)=some u):=λx hx=>zh.news (by omega) wS (λ_ _ _ h=>h) (zZ.below uR.out hx)
  have jJ:Hid ((zo zl.cells l).length=n*2):=by rw [Hid,jB wS, <-HN.out]
  rcases KEY mm a1 with⟨m1,m2⟩|m1
  ·clear a1 KEY
   go_upto_region 9 with fail
   refine jf (S:=λx=>Below wr.heap.size wr x) (Below.refl _ _).drew (λ_=> ?_)
   obtain⟨wd,hwd⟩:∃wd,wd=wr.drew:=⟨_,rfl⟩
   rw [<-hwd] at hT0 ⊢
   clear hwd
   refine zF 0 zP (hT0.out.below) ?_
   refine zF 2 CC.out (hT0.out.below) ?_
   refine wpAnyH_ready (rs:= [1,3]) (by kernel_rfl) (by simp) ?_
   refine AllReadyH.cons rfl (λK hK=> ?_) (AllReadyH.cons rfl (λK hK=> ?_) AllReadyH.nil)
   ·skip
    refine zK wd (by rfl) (.const (.slice none 0 0)) (.tmp 46) 78 rfl 110 (.agg #[.int .i64 0, .int .i64 0]) 2 16 Tryz.underlying78 xG rfl (by decide) wr.heap.size (.slice none 0 0) 0 [] (by rfl) hT0.out.row ⟨bb,bo,none⟩ n bc (zo zl.cells l) (by rfl) (jJ.out) (zcn.out _ (hT0.out.below)) (bF) (by unfold maxLen;omega) (by omega) hT0.out.below.size ?_
    intro ra rc Xq2 e1 e2 e3 e4 e5
    try simp only [Nat.zero_add,List.nil_append] at e1 e5 ⊢
    have vV:=qh (hT0.out.app e1 e4 e5)
    clear e1 e2 e3 e4 e5
    refine hK.out _ _ vV.out.below (λ_=> ?_)
    clear hK K
    refine yC 3 rfl (λK hK=> ?_)
    go_simp
    have jo:=vV.out.alloc [.int .i64 xv, .int .i64 xn]
    refine hK.out _ _ jo.below (λ_=> ?_)
    obtain⟨nb,hnb⟩:∃n,n=Xq2.heap.size:=⟨_,rfl⟩
    rw [<-hnb] at jo ⊢
    clear hnb
    generalize World.alloc Xq2 _=Xq4 at jo ⊢
    replace jo:=qh jo
    clear hK K
    refine yC 4 rfl (λK hK=> ?_)
    refine zK Xq4 (by rfl) (.tmp 47) (.tmp 49) 78 rfl 110 (.agg #[.int .i64 0, .int .i64 0]) 2 16 Tryz.underlying78 xG rfl (by decide) wr.heap.size (.slice ra n rc) n (zo zl.cells l) (by rfl) jo.out.row ⟨nb,0,none⟩ 1 1 [.int .i64 xv, .int .i64 xn] (by rfl) (rfl) (jo.out.cell (by simp)) (by simp [Value.oneCell']) (by unfold maxLen;omega) (by omega) jo.out.below.size ?_
    intro ja jc Xq6 e1 e2 e3 e4 e5
    try simp only [Nat.zero_add,List.nil_append] at e1 e5 ⊢
    have vW:=qh (jo.out.app e1 e4 e5)
    clear e1 e2 e3 e4 e5
    refine hK.out _ _ vW.out.below (λ_=> ?_)
    clear hK K
    refine zF 5 zP (vW.out.below) ?_
    refine zF 6 zP (vW.out.below) ?_
    refine xW ?_
    have hr:=vW.out.row
    go_wp2_with fail
    go_ret2
    refine⟨⟨.slice ja (n+1) jc,by first|rfl|simp, ?_, ?_⟩,kD.out.trans (vW.out.below.mono kD.out.size)⟩
    ·try rw [if_pos rfl]
     exact kX (B:=wr.heap.size) (by rw [HLEN.out,gK.out];exact hr)
    have h2:_:=xq (C:=w.heap.size) (B:=wr.heap.size) (n:=(l++ [(⟨xv,xn⟩:zl)]).length) (xs:=zo zl.cells (l++ [⟨xv,xn⟩])) (by rw [HLEN.out,gK.out];exact hr) kD.out.size
    first|exact h2|(intro _;exact h2)|simpa using h2
   skip
   go_simp
   have jq:=hT0.out.alloc [.int .i64 xv, .int .i64 xn]
   refine hK.out _ _ jq.below (λ_=> ?_)
   obtain⟨nb,hnb⟩:∃n,n=wd.heap.size:=⟨_,rfl⟩
   rw [<-hnb] at jq ⊢
   clear hnb
   generalize World.alloc wd _=Xq8 at jq ⊢
   replace jq:=qh jq
   clear hK K
   refine yC 1 rfl (λK hK=> ?_)
   refine zK Xq8 (by rfl) (.const (.slice none 0 0)) (.tmp 46) 78 rfl 110 (.agg #[.int .i64 0, .int .i64 0]) 2 16 Tryz.underlying78 xG rfl (by decide) wr.heap.size (.slice none 0 0) 0 [] (by rfl) jq.out.row ⟨bb,bo,none⟩ n bc (zo zl.cells l) (by rfl) (jJ.out) (zcn.out _ (jq.out.below)) (bF) (by unfold maxLen;omega) (by omega) jq.out.below.size ?_
   intro ra rc zvv e1 e2 e3 e4 e5
   try simp only [Nat.zero_add,List.nil_append] at e1 e5 ⊢
   have zcL:=qh (jq.out.app e1 e4 e5)
   clear e1 e2 e3 e4 e5
   refine hK.out _ _ zcL.out.below (λ_=> ?_)
   clear hK K
   refine yC 4 rfl (λK hK=> ?_)
   refine zK zvv (by rfl) (.tmp 47) (.tmp 49) 78 rfl 110 (.agg #[.int .i64 0, .int .i64 0]) 2 16 Tryz.underlying78 xG rfl (by decide) wr.heap.size (.slice ra n rc) n (zo zl.cells l) (by rfl) zcL.out.row ⟨nb,0,none⟩ 1 1 [.int .i64 xv, .int .i64 xn] (by rfl) (rfl) (zcL.out.cell (by simp)) (by simp [Value.oneCell']) (by unfold maxLen;omega) (by omega) zcL.out.below.size ?_
   intro ja jc z6F e1 e2 e3 e4 e5
   try simp only [Nat.zero_add,List.nil_append] at e1 e5 ⊢
   have zaX:=qh (zcL.out.app e1 e4 e5)
   clear e1 e2 e3 e4 e5
   refine hK.out _ _ zaX.out.below (λ_=> ?_)
   clear hK K
   refine zF 5 zP (zaX.out.below) ?_
   refine zF 6 zP (zaX.out.below) ?_
   refine xW ?_
   have hr:=zaX.out.row
   go_wp2_with fail
   go_ret2
   refine⟨⟨.slice ja (n+1) jc,by first|rfl|simp, ?_, ?_⟩,kD.out.trans (zaX.out.below.mono kD.out.size)⟩
   ·try rw [if_pos rfl]
    exact kX (B:=wr.heap.size) (by rw [HLEN.out,gK.out];exact hr)
   have h2:_:=xq (C:=w.heap.size) (B:=wr.heap.size) (n:=(l++ [(⟨xv,xn⟩:zl)]).length) (xs:=zo zl.cells (l++ [⟨xv,xn⟩])) (by rw [HLEN.out,gK.out];exact hr) kD.out.size
   first|exact h2|(intro _;exact h2)|simpa using h2
  clear a1 KEY
  go_upto_region 9 with fail
  refine jf (S:=λx=>Below wr.heap.size wr x) (Below.refl _ _).drew (λ_=> ?_)
  obtain⟨wd,hwd⟩:∃wd,wd=wr.drew:=⟨_,rfl⟩
  rw [<-hwd] at hT0 ⊢
  clear hwd
  refine zF 0 zP (hT0.out.below) ?_
  refine zF 2 CC.out (hT0.out.below) ?_
  refine wpAnyH_ready (rs:= [1,3]) (by kernel_rfl) (by simp) ?_
  refine AllReadyH.cons rfl (λK hK=> ?_) (AllReadyH.cons rfl (λK hK=> ?_) AllReadyH.nil)
  ·skip
   refine zK wd (by rfl) (.const (.slice none 0 0)) (.tmp 46) 78 rfl 110 (.agg #[.int .i64 0, .int .i64 0]) 2 16 Tryz.underlying78 xG rfl (by decide) wr.heap.size (.slice none 0 0) 0 [] (by rfl) hT0.out.row ⟨bb,bo,none⟩ n bc (zo zl.cells l) (by rfl) (jJ.out) (zcn.out _ (hT0.out.below)) (bF) (by unfold maxLen;omega) (by omega) hT0.out.below.size ?_
   intro ra rc Xq2 e1 e2 e3 e4 e5
   try simp only [Nat.zero_add,List.nil_append] at e1 e5 ⊢
   have vV:=qh (hT0.out.app e1 e4 e5)
   clear e1 e2 e3 e4 e5
   refine hK.out _ _ vV.out.below (λ_=> ?_)
   clear hK K
   refine yC 3 rfl (λK hK=> ?_)
   go_simp
   have jo:=vV.out.alloc [.int .i64 xv, .int .i64 xn]
   refine hK.out _ _ jo.below (λ_=> ?_)
   obtain⟨nb,hnb⟩:∃n,n=Xq2.heap.size:=⟨_,rfl⟩
   rw [<-hnb] at jo ⊢
   clear hnb
   generalize World.alloc Xq2 _=Xq4 at jo ⊢
   replace jo:=qh jo
   clear hK K
   refine yC 4 rfl (λK hK=> ?_)
   refine zK Xq4 (by rfl) (.tmp 47) (.tmp 49) 78 rfl 110 (.agg #[.int .i64 0, .int .i64 0]) 2 16 Tryz.underlying78 xG rfl (by decide) wr.heap.size (.slice ra n rc) n (zo zl.cells l) (by rfl) jo.out.row ⟨nb,0,none⟩ 1 1 [.int .i64 xv, .int .i64 xn] (by rfl) (rfl) (jo.out.cell (by simp)) (by simp [Value.oneCell']) (by unfold maxLen;omega) (by omega) jo.out.below.size ?_
   intro ja jc Xq6 e1 e2 e3 e4 e5
   try simp only [Nat.zero_add,List.nil_append] at e1 e5 ⊢
   have vW:=qh (jo.out.app e1 e4 e5)
   clear e1 e2 e3 e4 e5
   refine hK.out _ _ vW.out.below (λ_=> ?_)
   clear hK K
   refine zF 5 zP (vW.out.below) ?_
   refine zF 6 zP (vW.out.below) ?_
   refine xW ?_
   have hr:=vW.out.row
   go_wp2_with fail
   go_ret2
   refine⟨⟨.slice ja (n+1) jc,by first|rfl|simp, ?_, ?_⟩,kD.out.trans (vW.out.below.mono kD.out.size)⟩
   ·try rw [if_pos rfl]
    exact kX (B:=wr.heap.size) (by rw [HLEN.out,gK.out];exact hr)
   have h2:_:=xq (C:=w.heap.size) (B:=wr.heap.size) (n:=(l++ [(⟨xv,xn⟩:zl)]).length) (xs:=zo zl.cells (l++ [⟨xv,xn⟩])) (by rw [HLEN.out,gK.out];exact hr) kD.out.size
   first|exact h2|(intro _;exact h2)|simpa using h2
  skip
  go_simp
  have jq:=hT0.out.alloc [.int .i64 xv, .int .i64 xn]
  refine hK.out _ _ jq.below (λ_=> ?_)
  obtain⟨nb,hnb⟩:∃n,n=wd.heap.size:=⟨_,rfl⟩
  rw [<-hnb] at jq ⊢
  clear hnb
  generalize World.alloc wd _=Xq8 at jq ⊢
  replace jq:=qh jq
  clear hK K
  refine yC 1 rfl (λK hK=> ?_)
  refine zK Xq8 (by rfl) (.const (.slice none 0 0)) (.tmp 46) 78 rfl 110 (.agg #[.int .i64 0, .int .i64 0]) 2 16 Tryz.underlying78 xG rfl (by decide) wr.heap.size (.slice none 0 0) 0 [] (by rfl) jq.out.row ⟨bb,bo,none⟩ n bc (zo zl.cells l) (by rfl) (jJ.out) (zcn.out _ (jq.out.below)) (bF) (by unfold maxLen;omega) (by omega) jq.out.below.size ?_
  intro ra rc zvv e1 e2 e3 e4 e5
  try simp only [Nat.zero_add,List.nil_append] at e1 e5 ⊢
  have zcL:=qh (jq.out.app e1 e4 e5)
  clear e1 e2 e3 e4 e5
  refine hK.out _ _ zcL.out.below (λ_=> ?_)
  clear hK K
  refine yC 4 rfl (λK hK=> ?_)
  refine zK zvv (by rfl) (.tmp 47) (.tmp 49) 78 rfl 110 (.agg #[.int .i64 0, .int .i64 0]) 2 16 Tryz.underlying78 xG rfl (by decide) wr.heap.size (.slice ra n rc) n (zo zl.cells l) (by rfl) zcL.out.row ⟨nb,0,none⟩ 1 1 [.int .i64 xv, .int .i64 xn] (by rfl) (rfl) (zcL.out.cell (by simp)) (by simp [Value.oneCell']) (by unfold maxLen;omega) (by omega) zcL.out.below.size ?_
  intro ja jc z6F e1 e2 e3 e4 e5
  try simp only [Nat.zero_add,List.nil_append] at e1 e5 ⊢
  have zaX:=qh (zcL.out.app e1 e4 e5)
  clear e1 e2 e3 e4 e5
  refine hK.out _ _ zaX.out.below (λ_=> ?_)
  clear hK K
  refine zF 5 zP (zaX.out.below) ?_
  refine zF 6 zP (zaX.out.below) ?_
  refine xW ?_
  have hr:=zaX.out.row
  go_wp2_with fail
  go_ret2
  refine⟨⟨.slice ja (n+1) jc,by first|rfl|simp, ?_, ?_⟩,kD.out.trans (zaX.out.below.mono kD.out.size)⟩
  ·try rw [if_pos rfl]
   exact kX (B:=wr.heap.size) (by rw [HLEN.out,gK.out];exact hr)
  have h2:_:=xq (C:=w.heap.size) (B:=wr.heap.size) (n:=(l++ [(⟨xv,xn⟩:zl)]).length) (xs:=zo zl.cells (l++ [⟨xv,xn⟩])) (by rw [HLEN.out,gK.out];exact hr) kD.out.size
  first|exact h2|(intro _;exact h2)|simpa using h2
