/- Steps. -/
import Derived.Test.YtliajkheeniljaaGreatDoorZpData
set_option linter.all false
namespace Go.Proofs.YtliajkheeniljaaGreatDoor
open Go.RowKit
set_option maxRecDepth 100000
set_option maxHeartbeats 16000000
theorem xC (w:World) (o1 o2:Obj):Below w.heap.size w ((w.alloc o1).alloc o2):=((Below.refl _ _).alloc (Nat.le_refl _) _).alloc (by simp) _
theorem xI (w:World) (o1 o2:Obj):((w.alloc o1).alloc o2).heap[w.heap.size]? =some o1:=(Below.heap_alloc _ _ _ (by simp)).trans (yj w _)
theorem xw (w:World) (o1 o2:Obj):((w.alloc o1).alloc o2).heap[w.heap.size+1]? =some o2:=by
 have:=yj (w.alloc o1) o2
 simp only [World.size_alloc] at this;exact this
theorem xD:(Tryz.prog.info? 50).map (λi=>(i.zero,i.size,i.bytes))=some (some (.agg #[.int .i64 0, .int .i64 0]),2,16):=by kernel_rfl
theorem vF:(Tryz.prog.info? 3).map (λi=>(i.zero,i.size,i.bytes))=some (some (.int .i64 0),1,8):=by kernel_rfl
theorem wF (x:zk):x.cells.length=2:=rfl
theorem zam (x:Int):([Value.int .i64 x]).length=1:=rfl
def yR (x:Int):List Value:= [.int .i64 x]
theorem uL {l:List zk} :∀u∈zo zk.cells l,u.oneCell'=true:=λu hu=>by
 obtain⟨x, -,hx⟩:=List.mem_flatMap.1 hu
 simp [zk.cells] at hx
 rcases hx with rfl|rfl<;>rfl
theorem zmJ {l:List Int} :∀u∈zo yR l,u.oneCell'=true:=λu hu=>by
 obtain⟨x, -,hx⟩:=List.mem_flatMap.1 hu
 simp [yR] at hx
 subst hx;rfl
theorem kP {w:World} {B:Nat} {sv:Value} {l:List zk} (h:w.ownsRow B 50 2 sv l.length (zo zk.cells l)):zU w sv l:=zh.of_flat (R:=pE) wF (λ_ _=>rfl) h
theorem uo {w:World} {B:Nat} {sv:Value} {l:List Int} (h:w.ownsRow B 3 1 sv l.length (zo yR l)):xJ w sv l:=zh.of_flat (R:=gQ) (f:=yR) zam (λ_ _=>rfl) h
def zd4 (l:List zk) (m:zF) (v:Int):Nat:=l.countP (λy=>decide (m.model=1)||decide (y.var=v))
def qz (l:List zk) (m:zF) (x:zk):Bool:=(decide (m.model=1)||decide (m.model=2)) && decide ((zd4 l m x.var:Int)<m.bound)
def jr (l:List zk) (m:zF) (x:zk):List zk:=if qz l m x then l++ [x] else l
theorem zgS {l:List zk} {i:Nat} (hi:i<l.length) (p:zk->Bool):(l.take (i+1)).countP p=(l.take i).countP p+(if p (l.getD i default) then 1 else 0):=by
 rw [List.take_add_one,List.countP_append,List.getElem?_eq_getElem hi,List.getD_eq_getElem?_getD,List.getElem?_eq_getElem hi]
 simp [List.countP_cons]
theorem zmK (w:World) (bv:Value) (l:List zk) (h:zU w bv l) (hl:l.length<=1000000) (m:zF) (x:zk):
  Calls Tryz.prog 70 #[bv,yY m,x.val] w λe w'=>(∃uj,e= .returned (.tuple #[uj, .bool (qz l m x)])/\zU w' uj (jr l m x)/\(qz l m x=true->w'.ownsRow w.heap.size 50 2 uj (jr l m x).length (zo zk.cells (jr l m x))))/\Below w.heap.size w w':=by
 obtain⟨ba,bc,rfl, -⟩:=zh.slice h
 obtain⟨n,hn⟩:∃n,n=l.length:=⟨_,rfl⟩
 obtain⟨mm,mb⟩:=m
 obtain⟨xv,xn⟩:=x
 obtain⟨p,hp⟩:∃p:zk->Bool,p=(λy=>decide (mm=1)||decide (y.var=xv)):=⟨_,rfl⟩
 obtain⟨ok,hok⟩:∃ok,ok=qz l ⟨mm,mb⟩ ⟨xv,xn⟩:=⟨_,rfl⟩
 have hok2:ok=((decide (mm=1)||decide (mm=2)) && decide ((l.countP p:Int)<mb)):=by rw [hok,hp];rfl
 have hpb:jr l ⟨mm,mb⟩ ⟨xv,xn⟩=if ok then l++ [⟨xv,xn⟩] else l:=by rw [hok];rfl
 rw [<-hok,hpb]
 rw [<-hn] at h hl ⊢
 have jv:=qh hok2
 have HP:=qh hp
 have HN:=qh hn
 clear hok hok2 hpb hp hn
 have hb0:=xC w (.cells #[.int .i64 mm, .int .i64 mb] 26) (.cells #[.int .i64 xv, .int .i64 xn] 50)
 have HB:=qh hb0
 have HM:=qh (xI w (.cells #[.int .i64 mm, .int .i64 mb] 26) (.cells #[.int .i64 xv, .int .i64 xn] 50))
 have HX:=qh (xw w (.cells #[.int .i64 mm, .int .i64 mb] 26) (.cells #[.int .i64 xv, .int .i64 xn] 50))
 have HL:=qh (zU.below h hb0)
 clear h hb0
 unfold yY zk.val
 simp only []
 go_enter Tryz.func70,Tryz.ntmps70
 go_upto_region 1 with fail
 generalize World.alloc (World.alloc w _) _=W at HB HM HX HL ⊢
 obtain⟨gx,hgx⟩:∃gx,gx=w.heap.size:=⟨_,rfl⟩
 rw [<-hgx] at HM HX ⊢
 clear hgx
 have HC:Hid (∀x,Below W.heap.size W x->x.cell? ⟨gx,0,none⟩=some (.int .i64 mm)/\x.cell? ⟨gx,1,none⟩=some (.int .i64 mb)/\x.cell? ⟨gx+1,0,none⟩=some (.int .i64 xv)/\x.cell? ⟨gx+1,1,none⟩=some (.int .i64 xn)):=λx hx=>
  ⟨zi hx _ _ (ze HM.out 0),zi hx _ _ (ze HM.out 1),zi hx _ _ (ze HX.out 0),zi hx _ _ (ze HX.out 1)⟩
 clear HM HX
 go_wp2_with fail
 go_loopg [8,9] n (λgg s8 s9 wr=>∃i c:Nat,i<=n/\Hid (gg=n - i)/\s8= .int .i64 c/\s9= .int .i64 i/\Hid (c=(l.take i).countP p)/\c<=i/\Hid (Below W.heap.size W wr))
 case atStart=>exact⟨0,0,Nat.zero_le _,rfl,rfl,rfl,by simp [Hid],Nat.le_refl _,Below.refl _ _⟩
 case round=>
 obtain⟨i,c,hi,HG,rfl,rfl,HCN,hci,zT⟩:=hrel
 by_cases hlt:i<n
 ·have qN:(i:Int)<(n:Int):=by omega
  obtain⟨c0,c1,c2,c3⟩:=HC.out wr zT.out
  obtain⟨eb,eo,yh, -,he1, -⟩:=HL.out.part i (by rw [<-HN.out];exact hlt)
  subst yh
  obtain⟨ev,hev⟩:∃ev,ev=(l.getD i default).var:=⟨_,rfl⟩
  rw [<-hev] at he1
  have e1:=zi zT.out _ _ he1
  have hst:=zgS (l:=l) (i:=i) (by rw [<-HN.out];exact hlt) p
  rw [<-HCN.out] at hst
  have HST:=qh hst
  have HPI:Hid (p (l.getD i default)=(decide (mm=1)||decide (ev=xv))):=by rw [Hid,HP.out,hev]
  clear he1 hev hst
  by_cases a1:mm=1
  ·have a1b:((mm:Int)==1)=true:=by simp [a1]
   have qB:Hid (c+1=(l.take (i+1)).countP p):=by rw [Hid,HST.out,HPI.out,a1];simp
   have A1:=qh a1
   clear a1
   go_wp2_with fail
   go_quiet (fail)
   go_wp2_with fail
   go_roundg (n - (i+1))
   case measure=>rw [HG.out];omega
   case rel=>exact⟨i+1,c+1,by omega,rfl,by simp,by simp,qB.out,by omega,yg zT.out _⟩
  have a1b:((mm:Int)==1)=false:=by simp [a1]
  have A1:=qh a1
  clear a1
  by_cases a2:ev=xv
  ·have a2b:((ev:Int)==xv)=true:=by simp [a2]
   have qB:Hid (c+1=(l.take (i+1)).countP p):=by rw [Hid,HST.out,HPI.out,a2];simp
   clear a2
   go_wp2_with fail
   go_quiet (fail)
   go_wp2_with fail
   go_roundg (n - (i+1))
   case measure=>rw [HG.out];omega
   case rel=>exact⟨i+1,c+1,by omega,rfl,by simp,by simp,qB.out,by omega,yg zT.out _⟩
  have a2b:((ev:Int)==xv)=false:=by simp [a2]
  have A2:=qh a2
  have qB:Hid (c=(l.take (i+1)).countP p):=by rw [Hid,HST.out,HPI.out];simp [A1.out,A2.out]
  clear a2
  go_wp2_with fail
  go_quiet (fail)
  go_wp2_with fail
  go_roundg (n - (i+1))
  case measure=>rw [HG.out];omega
  case rel=>exact⟨i+1,c,by omega,rfl,rfl,by simp,qB.out,by omega,yg zT.out _⟩
 obtain rfl:n=i:=by omega
 obtain⟨c0,c1,c2,c3⟩:=HC.out wr zT.out
 have hcn:c=l.countP p:=by rw [HCN.out,HN.out,List.take_length]
 have xS:=qh hcn
 have jl:=qh (zU.below HL.out zT.out)
 clear hcn
 by_cases a1:mm=1\/mm=2
 rotate_left
 ·have hok:ok=false:=by rw [jv.out];simp;omega
  have a3:¬mm=1:=λe=>a1 (.inl e)
  have a4:¬mm=2:=λe=>a1 (.inr e)
  have a3b:((mm:Int) !=1)=true:=by simp [a3]
  have a4b:((mm:Int) !=2)=true:=by simp [a4]
  clear a1 a3 a4
  subst hok
  go_wp2_with fail
  go_ret2
  exact⟨⟨_,by first|rfl|simp,by simpa using jl.out⟩,HB.out.trans (zT.out.mono HB.out.size)⟩
 by_cases a2:(c:Int)<mb
 rotate_left
 ·have hok:ok=false:=by rw [jv.out, <-xS.out];simp;omega
  subst hok
  have a2n:mb<=(c:Int):=by omega
  rcases a1 with rfl|rfl<;>(go_wp2_with fail;go_ret2;exact⟨⟨_,by first|rfl|simp,by simpa using jl.out⟩,HB.out.trans (zT.out.mono HB.out.size)⟩)
 as_aux_lemma=>
  have hok:ok=true:=by rw [jv.out, <-xS.out];rcases a1 with a1|a1<;>simp [a1,a2]
  have a2n:¬mb<=(c:Int):=by omega
  subst hok
  have CC:Hid (∀x,Below wr.heap.size wr x->x.cell? ⟨gx+1,0,none⟩=some (.int .i64 xv)/\x.cell? ⟨gx+1,1,none⟩=some (.int .i64 xn)):=λx hx=>⟨(HC.out x (zG zT.out hx)).2.2.1,(HC.out x (zG zT.out hx)).2.2.2⟩
  have wR:Hid (zo zk.cells (l++ [⟨xv,xn⟩])=zo zk.cells l++ [.int .i64 xv, .int .i64 xn]):=by rw [Hid,kQ];rfl
  have HLEN:Hid ((l++ [(⟨xv,xn⟩:zk)]).length=n+1):=by rw [Hid,List.length_append, <-HN.out];rfl
  have jV:Hid (Below w.heap.size w wr):=HB.out.trans (zT.out.mono HB.out.size)
  have h0:=App.start 50 2 wr
  have hT0:=qh h0.drew
  clear h0
  have KEY:∀mm:Int,(mm=1\/mm=2)->((mm !=1)=true/\(mm !=2)=false)\/(mm !=1)=false:=λmm h=>by rcases h with rfl|rfl<;>simp
  obtain⟨i0,hi0, -, -, -⟩:=info_parts xD
  by_cases hn0:n=0
  ·have HE:Hid (zo zk.cells l= []):=by rw [Hid,show l= [] from List.eq_nil_of_length_eq_zero (by rw [<-HN.out];exact hn0)];rfl
   subst hn0
   rcases KEY mm a1 with⟨m1,m2⟩|m1
   ·clear a1 KEY
    go_upto_region 9 with fail
    refine vV (S:=λx=>Below wr.heap.size wr x) (Below.refl _ _).drew (λ_=> ?_)
    obtain⟨wd,hwd⟩:∃wd,wd=wr.drew:=⟨_,rfl⟩
    rw [<-hwd] at hT0 ⊢
    clear hwd
    refine zD 0 zQ (hT0.out.below) ?_
    refine zD 2 CC.out (hT0.out.below) ?_
    refine wpAnyH_ready (rs:= [1,3]) (by kernel_rfl) (by simp) ?_
    refine AllReadyH.cons rfl (λK hK=> ?_) (AllReadyH.cons rfl (λK hK=> ?_) AllReadyH.nil)
    ·skip
     refine jI wd (by rfl) (.const (.slice none 0 0)) (.tmp 46) 46 rfl 50 i0 Tryz.underlying46 hi0 (by rfl) ba bc (by rfl) ?_
     refine hK.out _ _ (hT0.out.below) (λ_=> ?_)
     clear hK K
     refine yA 3 rfl (λK hK=> ?_)
     go_simp
     have vQ:=hT0.out.alloc [.int .i64 xv, .int .i64 xn]
     refine hK.out _ _ vQ.below (λ_=> ?_)
     obtain⟨nb,hnb⟩:∃n,n=wd.heap.size:=⟨_,rfl⟩
     rw [<-hnb] at vQ ⊢
     clear hnb
     generalize World.alloc wd _=Xq2 at vQ ⊢
     replace vQ:=qh vQ
     clear hK K
     refine yA 4 rfl (λK hK=> ?_)
     refine zK Xq2 (by rfl) (.tmp 47) (.tmp 49) 46 rfl 50 (.agg #[.int .i64 0, .int .i64 0]) 2 16 Tryz.underlying46 xD rfl (by decide) wr.heap.size (.slice none 0 0) 0 [] (by rfl) vQ.out.row ⟨nb,0,none⟩ 1 1 [.int .i64 xv, .int .i64 xn] (by rfl) (rfl) (vQ.out.cell (by simp)) (by simp [Value.oneCell']) (by unfold maxLen;omega) (by omega) vQ.out.below.size ?_
     intro ja jc Xq4 e1 e2 e3 e4 e5
     try simp only [Nat.zero_add,List.nil_append] at e1 e5 ⊢
     have ji:=qh (vQ.out.app e1 e4 e5)
     clear e1 e2 e3 e4 e5
     refine hK.out _ _ ji.out.below (λ_=> ?_)
     clear hK K
     refine zD 5 zQ (ji.out.below) ?_
     refine zD 6 zQ (ji.out.below) ?_
     refine xQ ?_
     have hr:=ji.out.row
     go_wp2_with fail
     go_ret2
     refine⟨⟨.slice ja 1 jc,by first|rfl|simp, ?_, ?_⟩,jV.out.trans (ji.out.below.mono jV.out.size)⟩
     ·try rw [if_pos rfl]
      exact kP (B:=wr.heap.size) (by rw [HLEN.out,wR.out,HE.out];exact hr)
     have h2:_:=xu (C:=w.heap.size) (B:=wr.heap.size) (n:=(l++ [(⟨xv,xn⟩:zk)]).length) (xs:=zo zk.cells (l++ [⟨xv,xn⟩])) (by rw [HLEN.out,wR.out,HE.out];exact hr) jV.out.size
     first|exact h2|(intro _;exact h2)|simpa using h2
    skip
    go_simp
    have vR:=hT0.out.alloc [.int .i64 xv, .int .i64 xn]
    refine hK.out _ _ vR.below (λ_=> ?_)
    obtain⟨nb,hnb⟩:∃n,n=wd.heap.size:=⟨_,rfl⟩
    rw [<-hnb] at vR ⊢
    clear hnb
    generalize World.alloc wd _=Xq6 at vR ⊢
    replace vR:=qh vR
    clear hK K
    refine yA 1 rfl (λK hK=> ?_)
    refine jI Xq6 (by rfl) (.const (.slice none 0 0)) (.tmp 46) 46 rfl 50 i0 Tryz.underlying46 hi0 (by rfl) ba bc (by rfl) ?_
    refine hK.out _ _ (vR.out.below) (λ_=> ?_)
    clear hK K
    refine yA 4 rfl (λK hK=> ?_)
    refine zK Xq6 (by rfl) (.tmp 47) (.tmp 49) 46 rfl 50 (.agg #[.int .i64 0, .int .i64 0]) 2 16 Tryz.underlying46 xD rfl (by decide) wr.heap.size (.slice none 0 0) 0 [] (by rfl) vR.out.row ⟨nb,0,none⟩ 1 1 [.int .i64 xv, .int .i64 xn] (by rfl) (rfl) (vR.out.cell (by simp)) (by simp [Value.oneCell']) (by unfold maxLen;omega) (by omega) vR.out.below.size ?_
    intro ja jc Xq8 e1 e2 e3 e4 e5
    try simp only [Nat.zero_add,List.nil_append] at e1 e5 ⊢
    have jk:=qh (vR.out.app e1 e4 e5)
    clear e1 e2 e3 e4 e5
    refine hK.out _ _ jk.out.below (λ_=> ?_)
    clear hK K
    refine zD 5 zQ (jk.out.below) ?_
    refine zD 6 zQ (jk.out.below) ?_
    refine xQ ?_
    have hr:=jk.out.row
    go_wp2_with fail
    go_ret2
    refine⟨⟨.slice ja 1 jc,by first|rfl|simp, ?_, ?_⟩,jV.out.trans (jk.out.below.mono jV.out.size)⟩
    ·try rw [if_pos rfl]
     exact kP (B:=wr.heap.size) (by rw [HLEN.out,wR.out,HE.out];exact hr)
    have h2:_:=xu (C:=w.heap.size) (B:=wr.heap.size) (n:=(l++ [(⟨xv,xn⟩:zk)]).length) (xs:=zo zk.cells (l++ [⟨xv,xn⟩])) (by rw [HLEN.out,wR.out,HE.out];exact hr) jV.out.size
    first|exact h2|(intro _;exact h2)|simpa using h2
   clear a1 KEY
   go_upto_region 9 with fail
   refine vV (S:=λx=>Below wr.heap.size wr x) (Below.refl _ _).drew (λ_=> ?_)
   obtain⟨wd,hwd⟩:∃wd,wd=wr.drew:=⟨_,rfl⟩
   rw [<-hwd] at hT0 ⊢
   clear hwd
   refine zD 0 zQ (hT0.out.below) ?_
   refine zD 2 CC.out (hT0.out.below) ?_
   refine wpAnyH_ready (rs:= [1,3]) (by kernel_rfl) (by simp) ?_
   refine AllReadyH.cons rfl (λK hK=> ?_) (AllReadyH.cons rfl (λK hK=> ?_) AllReadyH.nil)
   ·skip
    refine jI wd (by rfl) (.const (.slice none 0 0)) (.tmp 46) 46 rfl 50 i0 Tryz.underlying46 hi0 (by rfl) ba bc (by rfl) ?_
    refine hK.out _ _ (hT0.out.below) (λ_=> ?_)
    clear hK K
    refine yA 3 rfl (λK hK=> ?_)
    go_simp
    have vQ:=hT0.out.alloc [.int .i64 xv, .int .i64 xn]
    refine hK.out _ _ vQ.below (λ_=> ?_)
    obtain⟨nb,hnb⟩:∃n,n=wd.heap.size:=⟨_,rfl⟩
    rw [<-hnb] at vQ ⊢
    clear hnb
    generalize World.alloc wd _=Xq2 at vQ ⊢
    replace vQ:=qh vQ
    clear hK K
    refine yA 4 rfl (λK hK=> ?_)
    refine zK Xq2 (by rfl) (.tmp 47) (.tmp 49) 46 rfl 50 (.agg #[.int .i64 0, .int .i64 0]) 2 16 Tryz.underlying46 xD rfl (by decide) wr.heap.size (.slice none 0 0) 0 [] (by rfl) vQ.out.row ⟨nb,0,none⟩ 1 1 [.int .i64 xv, .int .i64 xn] (by rfl) (rfl) (vQ.out.cell (by simp)) (by simp [Value.oneCell']) (by unfold maxLen;omega) (by omega) vQ.out.below.size ?_
    intro ja jc Xq4 e1 e2 e3 e4 e5
    try simp only [Nat.zero_add,List.nil_append] at e1 e5 ⊢
    have ji:=qh (vQ.out.app e1 e4 e5)
    clear e1 e2 e3 e4 e5
    refine hK.out _ _ ji.out.below (λ_=> ?_)
    clear hK K
    refine zD 5 zQ (ji.out.below) ?_
    refine zD 6 zQ (ji.out.below) ?_
    refine xQ ?_
    have hr:=ji.out.row
    go_wp2_with fail
    go_ret2
    refine⟨⟨.slice ja 1 jc,by first|rfl|simp, ?_, ?_⟩,jV.out.trans (ji.out.below.mono jV.out.size)⟩
    ·try rw [if_pos rfl]
     exact kP (B:=wr.heap.size) (by rw [HLEN.out,wR.out,HE.out];exact hr)
    have h2:_:=xu (C:=w.heap.size) (B:=wr.heap.size) (n:=(l++ [(⟨xv,xn⟩:zk)]).length) (xs:=zo zk.cells (l++ [⟨xv,xn⟩])) (by rw [HLEN.out,wR.out,HE.out];exact hr) jV.out.size
    first|exact h2|(intro _;exact h2)|simpa using h2
   skip
   go_simp
   have vR:=hT0.out.alloc [.int .i64 xv, .int .i64 xn]
   refine hK.out _ _ vR.below (λ_=> ?_)
   obtain⟨nb,hnb⟩:∃n,n=wd.heap.size:=⟨_,rfl⟩
   rw [<-hnb] at vR ⊢
   clear hnb
   generalize World.alloc wd _=Xq6 at vR ⊢
   replace vR:=qh vR
   clear hK K
   refine yA 1 rfl (λK hK=> ?_)
   refine jI Xq6 (by rfl) (.const (.slice none 0 0)) (.tmp 46) 46 rfl 50 i0 Tryz.underlying46 hi0 (by rfl) ba bc (by rfl) ?_
   refine hK.out _ _ (vR.out.below) (λ_=> ?_)
   clear hK K
   refine yA 4 rfl (λK hK=> ?_)
   refine zK Xq6 (by rfl) (.tmp 47) (.tmp 49) 46 rfl 50 (.agg #[.int .i64 0, .int .i64 0]) 2 16 Tryz.underlying46 xD rfl (by decide) wr.heap.size (.slice none 0 0) 0 [] (by rfl) vR.out.row ⟨nb,0,none⟩ 1 1 [.int .i64 xv, .int .i64 xn] (by rfl) (rfl) (vR.out.cell (by simp)) (by simp [Value.oneCell']) (by unfold maxLen;omega) (by omega) vR.out.below.size ?_
   intro ja jc Xq8 e1 e2 e3 e4 e5
   try simp only [Nat.zero_add,List.nil_append] at e1 e5 ⊢
   have jk:=qh (vR.out.app e1 e4 e5)
   clear e1 e2 e3 e4 e5
   refine hK.out _ _ jk.out.below (λ_=> ?_)
   clear hK K
   refine zD 5 zQ (jk.out.below) ?_
   refine zD 6 zQ (jk.out.below) ?_
   refine xQ ?_
   have hr:=jk.out.row
   go_wp2_with fail
   go_ret2
   refine⟨⟨.slice ja 1 jc,by first|rfl|simp, ?_, ?_⟩,jV.out.trans (jk.out.below.mono jV.out.size)⟩
   ·try rw [if_pos rfl]
    exact kP (B:=wr.heap.size) (by rw [HLEN.out,wR.out,HE.out];exact hr)
   have h2:_:=xu (C:=w.heap.size) (B:=wr.heap.size) (n:=(l++ [(⟨xv,xn⟩:zk)]).length) (xs:=zo zk.cells (l++ [⟨xv,xn⟩])) (by rw [HLEN.out,wR.out,HE.out];exact hr) jV.out.size
   first|exact h2|(intro _;exact h2)|simpa using h2
  obtain⟨bb,bo,hba, -⟩:=jl.out.part 0 (by rw [<-HN.out];omega)
  subst hba
  have zb9:Hid (∀x,Below wr.heap.size wr x->∀j u,(zo zk.cells l)[j]? =some u->x.cell? ((⟨bb,bo,none⟩:Addr).add j)=some u):=λx hx=>zh.news (by omega) wF (λ_ _ _ h=>h) (zU.below jl.out hx)
  have jm:Hid ((zo zk.cells l).length=n*2):=by rw [Hid,jB wF, <-HN.out]
  rcases KEY mm a1 with⟨m1,m2⟩|m1
  ·clear a1 KEY
   go_upto_region 9 with fail
   refine vV (S:=λx=>Below wr.heap.size wr x) (Below.refl _ _).drew (λ_=> ?_)
   obtain⟨wd,hwd⟩:∃wd,wd=wr.drew:=⟨_,rfl⟩
   rw [<-hwd] at hT0 ⊢
   clear hwd
   refine zD 0 zQ (hT0.out.below) ?_
   refine zD 2 CC.out (hT0.out.below) ?_
   refine wpAnyH_ready (rs:= [1,3]) (by kernel_rfl) (by simp) ?_
   refine AllReadyH.cons rfl (λK hK=> ?_) (AllReadyH.cons rfl (λK hK=> ?_) AllReadyH.nil)
   ·skip
    refine zK wd (by rfl) (.const (.slice none 0 0)) (.tmp 46) 46 rfl 50 (.agg #[.int .i64 0, .int .i64 0]) 2 16 Tryz.underlying46 xD rfl (by decide) wr.heap.size (.slice none 0 0) 0 [] (by rfl) hT0.out.row ⟨bb,bo,none⟩ n bc (zo zk.cells l) (by rfl) (jm.out) (zb9.out _ (hT0.out.below)) (uL) (by unfold maxLen;omega) (by omega) hT0.out.below.size ?_
    intro ra rc Xq2 e1 e2 e3 e4 e5
    try simp only [Nat.zero_add,List.nil_append] at e1 e5 ⊢
    have vQ:=qh (hT0.out.app e1 e4 e5)
    clear e1 e2 e3 e4 e5
    refine hK.out _ _ vQ.out.below (λ_=> ?_)
    clear hK K
    refine yA 3 rfl (λK hK=> ?_)
    go_simp
    have ji:=vQ.out.alloc [.int .i64 xv, .int .i64 xn]
    refine hK.out _ _ ji.below (λ_=> ?_)
    obtain⟨nb,hnb⟩:∃n,n=Xq2.heap.size:=⟨_,rfl⟩
    rw [<-hnb] at ji ⊢
    clear hnb
    generalize World.alloc Xq2 _=Xq4 at ji ⊢
    replace ji:=qh ji
    clear hK K
    refine yA 4 rfl (λK hK=> ?_)
    refine zK Xq4 (by rfl) (.tmp 47) (.tmp 49) 46 rfl 50 (.agg #[.int .i64 0, .int .i64 0]) 2 16 Tryz.underlying46 xD rfl (by decide) wr.heap.size (.slice ra n rc) n (zo zk.cells l) (by rfl) ji.out.row ⟨nb,0,none⟩ 1 1 [.int .i64 xv, .int .i64 xn] (by rfl) (rfl) (ji.out.cell (by simp)) (by simp [Value.oneCell']) (by unfold maxLen;omega) (by omega) ji.out.below.size ?_
    intro ja jc Xq6 e1 e2 e3 e4 e5
    try simp only [Nat.zero_add,List.nil_append] at e1 e5 ⊢
    have vR:=qh (ji.out.app e1 e4 e5)
    clear e1 e2 e3 e4 e5
    refine hK.out _ _ vR.out.below (λ_=> ?_)
    clear hK K
    refine zD 5 zQ (vR.out.below) ?_
    refine zD 6 zQ (vR.out.below) ?_
    refine xQ ?_
    have hr:=vR.out.row
    go_wp2_with fail
    go_ret2
    refine⟨⟨.slice ja (n+1) jc,by first|rfl|simp, ?_, ?_⟩,jV.out.trans (vR.out.below.mono jV.out.size)⟩
    ·try rw [if_pos rfl]
     exact kP (B:=wr.heap.size) (by rw [HLEN.out,wR.out];exact hr)
    have h2:_:=xu (C:=w.heap.size) (B:=wr.heap.size) (n:=(l++ [(⟨xv,xn⟩:zk)]).length) (xs:=zo zk.cells (l++ [⟨xv,xn⟩])) (by rw [HLEN.out,wR.out];exact hr) jV.out.size
    first|exact h2|(intro _;exact h2)|simpa using h2
   skip
   go_simp
   have jk:=hT0.out.alloc [.int .i64 xv, .int .i64 xn]
   refine hK.out _ _ jk.below (λ_=> ?_)
   obtain⟨nb,hnb⟩:∃n,n=wd.heap.size:=⟨_,rfl⟩
   rw [<-hnb] at jk ⊢
   clear hnb
   generalize World.alloc wd _=Xq8 at jk ⊢
   replace jk:=qh jk
   clear hK K
   refine yA 1 rfl (λK hK=> ?_)
   refine zK Xq8 (by rfl) (.const (.slice none 0 0)) (.tmp 46) 46 rfl 50 (.agg #[.int .i64 0, .int .i64 0]) 2 16 Tryz.underlying46 xD rfl (by decide) wr.heap.size (.slice none 0 0) 0 [] (by rfl) jk.out.row ⟨bb,bo,none⟩ n bc (zo zk.cells l) (by rfl) (jm.out) (zb9.out _ (jk.out.below)) (uL) (by unfold maxLen;omega) (by omega) jk.out.below.size ?_
   intro ra rc zsy e1 e2 e3 e4 e5
   try simp only [Nat.zero_add,List.nil_append] at e1 e5 ⊢
   have zbP:=qh (jk.out.app e1 e4 e5)
   clear e1 e2 e3 e4 e5
   refine hK.out _ _ zbP.out.below (λ_=> ?_)
   clear hK K
   refine yA 4 rfl (λK hK=> ?_)
   refine zK zsy (by rfl) (.tmp 47) (.tmp 49) 46 rfl 50 (.agg #[.int .i64 0, .int .i64 0]) 2 16 Tryz.underlying46 xD rfl (by decide) wr.heap.size (.slice ra n rc) n (zo zk.cells l) (by rfl) zbP.out.row ⟨nb,0,none⟩ 1 1 [.int .i64 xv, .int .i64 xn] (by rfl) (rfl) (zbP.out.cell (by simp)) (by simp [Value.oneCell']) (by unfold maxLen;omega) (by omega) zbP.out.below.size ?_
   intro ja jc z3E e1 e2 e3 e4 e5
   try simp only [Nat.zero_add,List.nil_append] at e1 e5 ⊢
   have zax:=qh (zbP.out.app e1 e4 e5)
   clear e1 e2 e3 e4 e5
   refine hK.out _ _ zax.out.below (λ_=> ?_)
   clear hK K
   refine zD 5 zQ (zax.out.below) ?_
   refine zD 6 zQ (zax.out.below) ?_
   refine xQ ?_
   have hr:=zax.out.row
   go_wp2_with fail
   go_ret2
   refine⟨⟨.slice ja (n+1) jc,by first|rfl|simp, ?_, ?_⟩,jV.out.trans (zax.out.below.mono jV.out.size)⟩
   ·try rw [if_pos rfl]
    exact kP (B:=wr.heap.size) (by rw [HLEN.out,wR.out];exact hr)
   have h2:_:=xu (C:=w.heap.size) (B:=wr.heap.size) (n:=(l++ [(⟨xv,xn⟩:zk)]).length) (xs:=zo zk.cells (l++ [⟨xv,xn⟩])) (by rw [HLEN.out,wR.out];exact hr) jV.out.size
   first|exact h2|(intro _;exact h2)|simpa using h2
  clear a1 KEY
  go_upto_region 9 with fail
  refine vV (S:=λx=>Below wr.heap.size wr x) (Below.refl _ _).drew (λ_=> ?_)
  obtain⟨wd,hwd⟩:∃wd,wd=wr.drew:=⟨_,rfl⟩
  rw [<-hwd] at hT0 ⊢
  clear hwd
  refine zD 0 zQ (hT0.out.below) ?_
  refine zD 2 CC.out (hT0.out.below) ?_
  refine wpAnyH_ready (rs:= [1,3]) (by kernel_rfl) (by simp) ?_
  refine AllReadyH.cons rfl (λK hK=> ?_) (AllReadyH.cons rfl (λK hK=> ?_) AllReadyH.nil)
  ·skip
   refine zK wd (by rfl) (.const (.slice none 0 0)) (.tmp 46) 46 rfl 50 (.agg #[.int .i64 0, .int .i64 0]) 2 16 Tryz.underlying46 xD rfl (by decide) wr.heap.size (.slice none 0 0) 0 [] (by rfl) hT0.out.row ⟨bb,bo,none⟩ n bc (zo zk.cells l) (by rfl) (jm.out) (zb9.out _ (hT0.out.below)) (uL) (by unfold maxLen;omega) (by omega) hT0.out.below.size ?_
   intro ra rc Xq2 e1 e2 e3 e4 e5
   try simp only [Nat.zero_add,List.nil_append] at e1 e5 ⊢
   have vQ:=qh (hT0.out.app e1 e4 e5)
   clear e1 e2 e3 e4 e5
   refine hK.out _ _ vQ.out.below (λ_=> ?_)
   clear hK K
   refine yA 3 rfl (λK hK=> ?_)
   go_simp
   have ji:=vQ.out.alloc [.int .i64 xv, .int .i64 xn]
   refine hK.out _ _ ji.below (λ_=> ?_)
   obtain⟨nb,hnb⟩:∃n,n=Xq2.heap.size:=⟨_,rfl⟩
   rw [<-hnb] at ji ⊢
   clear hnb
   generalize World.alloc Xq2 _=Xq4 at ji ⊢
   replace ji:=qh ji
   clear hK K
   refine yA 4 rfl (λK hK=> ?_)
   refine zK Xq4 (by rfl) (.tmp 47) (.tmp 49) 46 rfl 50 (.agg #[.int .i64 0, .int .i64 0]) 2 16 Tryz.underlying46 xD rfl (by decide) wr.heap.size (.slice ra n rc) n (zo zk.cells l) (by rfl) ji.out.row ⟨nb,0,none⟩ 1 1 [.int .i64 xv, .int .i64 xn] (by rfl) (rfl) (ji.out.cell (by simp)) (by simp [Value.oneCell']) (by unfold maxLen;omega) (by omega) ji.out.below.size ?_
   intro ja jc Xq6 e1 e2 e3 e4 e5
   try simp only [Nat.zero_add,List.nil_append] at e1 e5 ⊢
   have vR:=qh (ji.out.app e1 e4 e5)
   clear e1 e2 e3 e4 e5
   refine hK.out _ _ vR.out.below (λ_=> ?_)
   clear hK K
   refine zD 5 zQ (vR.out.below) ?_
   refine zD 6 zQ (vR.out.below) ?_
   refine xQ ?_
   have hr:=vR.out.row
   go_wp2_with fail
   go_ret2
   refine⟨⟨.slice ja (n+1) jc,by first|rfl|simp, ?_, ?_⟩,jV.out.trans (vR.out.below.mono jV.out.size)⟩
   ·try rw [if_pos rfl]
    exact kP (B:=wr.heap.size) (by rw [HLEN.out,wR.out];exact hr)
   have h2:_:=xu (C:=w.heap.size) (B:=wr.heap.size) (n:=(l++ [(⟨xv,xn⟩:zk)]).length) (xs:=zo zk.cells (l++ [⟨xv,xn⟩])) (by rw [HLEN.out,wR.out];exact hr) jV.out.size
   first|exact h2|(intro _;exact h2)|simpa using h2
  skip
  go_simp
  have jk:=hT0.out.alloc [.int .i64 xv, .int .i64 xn]
  refine hK.out _ _ jk.below (λ_=> ?_)
  obtain⟨nb,hnb⟩:∃n,n=wd.heap.size:=⟨_,rfl⟩
  rw [<-hnb] at jk ⊢
  clear hnb
  generalize World.alloc wd _=Xq8 at jk ⊢
  replace jk:=qh jk
  clear hK K
  refine yA 1 rfl (λK hK=> ?_)
  refine zK Xq8 (by rfl) (.const (.slice none 0 0)) (.tmp 46) 46 rfl 50 (.agg #[.int .i64 0, .int .i64 0]) 2 16 Tryz.underlying46 xD rfl (by decide) wr.heap.size (.slice none 0 0) 0 [] (by rfl) jk.out.row ⟨bb,bo,none⟩ n bc (zo zk.cells l) (by rfl) (jm.out) (zb9.out _ (jk.out.below)) (uL) (by unfold maxLen;omega) (by omega) jk.out.below.size ?_
  intro ra rc zsy e1 e2 e3 e4 e5
  try simp only [Nat.zero_add,List.nil_append] at e1 e5 ⊢
  have zbP:=qh (jk.out.app e1 e4 e5)
  clear e1 e2 e3 e4 e5
  refine hK.out _ _ zbP.out.below (λ_=> ?_)
  clear hK K
  refine yA 4 rfl (λK hK=> ?_)
  refine zK zsy (by rfl) (.tmp 47) (.tmp 49) 46 rfl 50 (.agg #[.int .i64 0, .int .i64 0]) 2 16 Tryz.underlying46 xD rfl (by decide) wr.heap.size (.slice ra n rc) n (zo zk.cells l) (by rfl) zbP.out.row ⟨nb,0,none⟩ 1 1 [.int .i64 xv, .int .i64 xn] (by rfl) (rfl) (zbP.out.cell (by simp)) (by simp [Value.oneCell']) (by unfold maxLen;omega) (by omega) zbP.out.below.size ?_
  intro ja jc z3E e1 e2 e3 e4 e5
  try simp only [Nat.zero_add,List.nil_append] at e1 e5 ⊢
  have zax:=qh (zbP.out.app e1 e4 e5)
  clear e1 e2 e3 e4 e5
  refine hK.out _ _ zax.out.below (λ_=> ?_)
  clear hK K
  refine zD 5 zQ (zax.out.below) ?_
  refine zD 6 zQ (zax.out.below) ?_
  refine xQ ?_
  have hr:=zax.out.row
  go_wp2_with fail
  go_ret2
  refine⟨⟨.slice ja (n+1) jc,by first|rfl|simp, ?_, ?_⟩,jV.out.trans (zax.out.below.mono jV.out.size)⟩
  ·try rw [if_pos rfl]
   exact kP (B:=wr.heap.size) (by rw [HLEN.out,wR.out];exact hr)
  have h2:_:=xu (C:=w.heap.size) (B:=wr.heap.size) (n:=(l++ [(⟨xv,xn⟩:zk)]).length) (xs:=zo zk.cells (l++ [⟨xv,xn⟩])) (by rw [HLEN.out,wR.out];exact hr) jV.out.size
  first|exact h2|(intro _;exact h2)|simpa using h2
