/- Steps. -/
import Derived.Test.YtknmdmimecepfaaGreatDoorVgCodeP
set_option linter.all false
namespace Go.Proofs.YtknmdmimecepfaaGreatDoor
open Go.RowKit
set_option maxRecDepth 100000
set_option maxHeartbeats 16000000
theorem zjR (w:World) (c:zo) (tv:Value) (d:Nat) (h:yw d w tv c.threads):Calls Tryz.prog 34 #[xL c tv] w λe w'=>e= .returned (.bool (codeOk c))/\Below w.heap.size w w':=by
 obtain⟨ta,tc,rfl,htl⟩:=zh.slice h
 obtain⟨vars,dom,ts⟩:=c
 simp only [] at h htl ⊢
 obtain⟨n,hn⟩:∃n,n=ts.length:=⟨_,rfl⟩
 obtain⟨r,hr⟩:∃r,r=codeOk ⟨vars,dom,ts⟩:=⟨_,rfl⟩
 have hr2:r=(decide (1<=vars) && decide (vars<=4) && decide (2<=dom) && decide (dom<=16) && decide (1<=n) && decide (n<=4) && ts.all (rowOk vars dom)):=by rw [hr,hn];rfl
 rw [<-hr]
 unfold xL
 simp only []
 rw [<-hn] at h htl ⊢
 have hA:=(Below.refl w.heap.size w).alloc (Nat.le_refl _) (.cells #[.int .i64 vars, .int .i64 dom, .slice ta n tc] 25)
 have HB:=qh hA
 have H1:=qh (zT w (.cells #[.int .i64 vars, .int .i64 dom, .slice ta n tc] 25))
 have HT:=qh (zh.below (qC.stays d) h hA)
 have HR:=qh hr2
 have HN:=qh hn
 clear h hA hr hr2 hn
 go_enter Tryz.func34,Tryz.ntmps34
 go_upto_region 1 with fail
 generalize World.alloc w _=W at HB H1 HT ⊢
 obtain⟨gx,hgx⟩:∃gx,gx=w.heap.size:=⟨_,rfl⟩
 rw [<-hgx] at H1 ⊢
 clear hgx
 have HC:Hid (∀x,Below W.heap.size W x->x.cell? ⟨gx,0,none⟩=some (.int .i64 vars)/\x.cell? ⟨gx,1,none⟩=some (.int .i64 dom)/\x.cell? ⟨gx,2,none⟩=some (.slice ta n tc)):=λx hx=>⟨zi hx _ _ (za H1.out 0),zi hx _ _ (za H1.out 1),zi hx _ _ (za H1.out 2)⟩
 obtain⟨c0,c1,c2⟩:=HC.out W (Below.refl _ _)
 by_cases hv:1<=vars/\vars<=4
 rotate_left
 ·obtain rfl:r=false:=by
   have:(decide (1<=vars) && decide (vars<=4))=false:=by simp;omega
   rw [HR.out,this];simp
  clear HR
  by_cases v1:vars<1
  ·clear hv
   go_wp2_with fail
   go_ret
   exact⟨by first|rfl|simp,HB.out⟩
  have v2:4<vars:=by omega
  clear hv
  go_wp2_with fail
  go_ret
  exact⟨by first|rfl|simp,HB.out⟩
 by_cases hd:2<=dom/\dom<=16
 rotate_left
 ·obtain rfl:r=false:=by
   have:(decide (2<=dom) && decide (dom<=16))=false:=by simp;omega
   rw [HR.out,Bool.and_assoc (decide (1<=vars) && decide (vars<=4)),this];simp
  clear HR
  obtain⟨v1,v2⟩:=hv
  have v1n:¬vars<1:=by omega
  have v2n:¬4<vars:=by omega
  by_cases d1:dom<2
  ·clear hd
   go_wp2_with fail
   go_ret
   exact⟨by first|rfl|simp,HB.out⟩
  have d2:16<dom:=by omega
  clear hd
  go_wp2_with fail
  go_ret
  exact⟨by first|rfl|simp,HB.out⟩
 by_cases ht:1<=n/\n<=4
 rotate_left
 ·obtain rfl:r=false:=by
   have:(decide (1<=n) && decide (n<=4))=false:=by simp;omega
   rw [HR.out,Bool.and_assoc (decide (1<=vars) && decide (vars<=4) && decide (2<=dom) && decide (dom<=16)),this];simp
  clear HR
  obtain⟨v1,v2⟩:=hv
  obtain⟨d1,d2⟩:=hd
  have v1n:¬vars<1:=by omega
  have v2n:¬4<vars:=by omega
  have d1n:¬dom<2:=by omega
  have d2n:¬16<dom:=by omega
  by_cases n1:n=0
  ·subst n1
   clear ht
   go_wp2_with fail
   go_ret
   exact⟨by first|rfl|simp,HB.out⟩
  have n1n:¬(n:Int)<1:=by omega
  have n2n:(4:Int)<(n:Int):=by omega
  clear ht
  go_wp2_with fail
  go_ret
  exact⟨by first|rfl|simp,HB.out⟩
 have HR3:Hid (r=ts.all (rowOk vars dom)):=by rw [Hid,HR.out];simp [hv.1,hv.2,hd.1,hd.2,ht.1,ht.2]
 clear HR
 obtain⟨v1,v2⟩:=hv
 obtain⟨d1,d2⟩:=hd
 obtain⟨n1,n2⟩:=ht
 have v1n:¬vars<1:=by omega
 have v2n:¬4<vars:=by omega
 have d1n:¬dom<2:=by omega
 have d2n:¬16<dom:=by omega
 have n1n:¬(n:Int)<1:=by omega
 have n2n:¬(4:Int)<(n:Int):=by omega
 go_wp2_with fail
 clear c0 c1 c2
 go_loopg [3] n (λgg s3 wr=>∃i:Nat,i<=n/\Hid (gg=n - i)/\s3= .int .i64 i/\Hid (Below W.heap.size W wr)/\Hid (∀j,j<i->rowOk vars dom (ts.getD j [])=true))
 case atStart=>exact⟨0,Nat.zero_le _,rfl,rfl,Below.refl _ _,λj hj=>by omega⟩
 case round=>
 obtain⟨i,hi,HG,rfl,qy,HJ⟩:=hrel
 obtain⟨wo,rfl⟩:∃wo:World,wo=wr:=⟨_,rfl⟩
 obtain⟨c0,c1,c2⟩:=HC.out wo qy.out
 by_cases hlt:i<n
 rotate_left
 ·obtain rfl:n=i:=by omega
  obtain rfl:r=true:=by
   rw [HR3.out]
   exact zbt ts [] (rowOk vars dom) (λj hj=>HJ.out j (by rw [HN.out];exact hj))
  clear HR3
  go_wp2_with fail
  go_ret
  exact⟨by first|rfl|simp,HB.out.trans (qy.out.mono HB.out.size)⟩
 have qQ:(i:Int)<(n:Int):=by omega
 obtain⟨eb,eo,ka,kc,rfl,wT,xq,hel⟩:=yw.part HT.out i (by rw [<-HN.out];exact hlt)
 obtain⟨l,hl⟩:∃l,l=ts.getD i [] :=⟨_,rfl⟩
 rw [<-hl] at xq hel
 obtain⟨ln,hln⟩:∃ln,ln=l.length:=⟨_,rfl⟩
 rw [<-hln] at xq hel
 have e0:=zi qy.out _ _ xq
 have HL:=qh hl
 have yM:=qh hln
 have pE:=qh hel
 clear hl hln xq hel wT
 by_cases h6:ln<=600
 rotate_left
 ·obtain rfl:r=false:=by
   rw [HR3.out]
   refine bg ts [] (rowOk vars dom) i (by rw [<-HN.out];exact hlt) ?_
   rw [<-HL.out]
   unfold rowOk
   rw [<-yM.out]
   simp [h6]
  clear HR3
  have h6n:(600:Int)<(ln:Int):=by omega
  go_wp2_with fail
  go_ret
  exact⟨by first|rfl|simp,HB.out.trans (qy.out.mono HB.out.size)⟩
 have h6n:¬(600:Int)<(ln:Int):=by omega
 go_wp2_with fail
 clear c0 c1 c2 e0
 go_loopg [5] ln (λgg s5 wr=>∃q:Nat,q<=ln/\Hid (gg=ln - q)/\s5= .int .i64 q/\Hid (Below W.heap.size W wr)/\Hid (∀j,j<q->xO vars dom ln (l.getD j default)=true))
 case atStart=>exact⟨0,Nat.zero_le _,rfl,rfl,qy.out,λj hj=>by omega⟩
 case round=>
 obtain⟨q,hq,HG2,rfl,HB2,HJ2⟩:=hrel
 by_cases hlq:q<ln
 rotate_left
 ·obtain rfl:ln=q:=by omega
  have hrow:rowOk vars dom (ts.getD i [])=true:=by
   rw [<-HL.out]
   unfold rowOk
   rw [<-yM.out,zbt l default (xO vars dom ln) (λj hj=>HJ2.out j (by rw [yM.out];exact hj))]
   simp [h6]
  have yS:=qh hrow
  clear hrow
  go_wp2_with fail
  go_roundg (n - (i+1))
  case measure=>rw [HG.out];omega
  case rel=>exact⟨i+1,by omega,rfl,by simp,HB2.out,λj hj=>by
   by_cases he:j=i
   ·subst he;exact yS.out
   exact HJ.out j (by omega)⟩
 have zfv:(q:Int)<(ln:Int):=by omega
 obtain⟨fb,fo,aa,ac,ba,bc,rfl, -,⟨x0,x1,x2⟩,⟨x3,x4,x5,x6⟩,⟨x7,x8,x9,x10⟩,qZ,xa,xb⟩:=qD.part pE.out q (by rw [<-yM.out];exact hlq)
 obtain⟨x,hx⟩:∃x,x=l.getD q default:=⟨_,rfl⟩
 rw [<-hx] at x0 x1 x2 x3 x4 x5 x6 x7 x8 x9 x10 qZ xa xb
 have HX:=qh hx
 obtain⟨op,hop⟩:∃op,op=x.op:=⟨_,rfl⟩
 obtain⟨xU,hto⟩:∃t,t=x.dest:=⟨_,rfl⟩
 rw [<-hop] at x0
 rw [<-hto] at qZ
 have hst:xO vars dom ln x=if op=12 then qN vars dom 9 ln x else if op=13 then qN vars dom 4 ln x else if op=10\/op=11 then false else qN vars dom op 0 x:=by rw [hop];rfl
 have HST:=qh hst
 have HTO:=qh hto
 have zcG:Hid (xO vars dom ln x=false->r=false):=λe=>by
  rw [HR3.out]
  refine bg ts [] (rowOk vars dom) i (by rw [<-HN.out];exact hlt) ?_
  rw [<-HL.out]
  unfold rowOk
  rw [<-yM.out,bg l default (xO vars dom ln) q (by rw [<-yM.out];exact hlq) (by rw [<-HX.out];exact e)]
  simp
 have zeb:Hid (xO vars dom ln x=true->∀j,j<q+1->xO vars dom ln (l.getD j default)=true):=λe j hj=>by
  by_cases he:j=q
  ·subst he;rw [<-HX.out];exact e
  exact HJ2.out j (by omega)
 have k:=λp v h=>zi HB2.out p v h
 have CC:Hid (∀X,Below wr.heap.size wr X->X.cell? ⟨gx,0,none⟩=some (.int .i64 vars)/\X.cell? ⟨gx,1,none⟩=some (.int .i64 dom)/\X.cell? ⟨fb,fo+q*12+1,none⟩=some (.int .i64 x.reg)/\X.cell? ⟨fb,fo+q*12+2,none⟩=some (.int .i64 x.var)/\
   X.cell? ⟨fb,fo+q*12+3,none⟩=some (.int .i64 x.a.kind)/\X.cell? ⟨fb,fo+q*12+4,none⟩=some (.int .i64 x.a.n)/\X.cell? ⟨fb,fo+q*12+5,none⟩=some (.int .u8 x.a.op)/\X.cell? ⟨fb,fo+q*12+6,none⟩=some (.slice aa x.a.kids.length ac)/\
   X.cell? ⟨fb,fo+q*12+7,none⟩=some (.int .i64 x.b.kind)/\X.cell? ⟨fb,fo+q*12+8,none⟩=some (.int .i64 x.b.n)/\X.cell? ⟨fb,fo+q*12+9,none⟩=some (.int .u8 x.b.op)/\X.cell? ⟨fb,fo+q*12+10,none⟩=some (.slice ba x.b.kids.length bc)/\X.cell? ⟨fb,fo+q*12+11,none⟩=some (.int .i64 xU)):=λX hX=>
  have k2:=λp v h=>zi hX p v (k p v h)
  ⟨(HC.out X (zm HB2.out hX)).1,(HC.out X (zm HB2.out hX)).2.1,k2 _ _ x1,k2 _ _ x2,k2 _ _ x3,k2 _ _ x4,k2 _ _ x5,k2 _ _ x6,k2 _ _ x7,k2 _ _ x8,k2 _ _ x9,k2 _ _ x10,k2 _ _ qZ⟩
 have zpY:Hid (∀X,Below W.heap.size W X->∀kind:Int,Calls Tryz.prog 58 #[.int .i64 kind, .int .i64 x.reg, .int .i64 x.var, .agg #[.int .i64 x.a.kind, .int .i64 x.a.n, .int .u8 x.a.op, .slice aa x.a.kids.length ac], .agg #[.int .i64 x.b.kind, .int .i64 x.b.n, .int .u8 x.b.op, .slice ba x.b.kids.length bc], .int .i64 vars, .int .i64 dom] X λe w'=>e= .returned (.bool (xu kind x.reg x.var x.a x.b vars dom))/\Below X.heap.size X w'):=λX hX kind=>zid X kind x.reg x.var x.a x.b _ _ d (xa.below hX) (xb.below hX) vars dom
 have y0:=k _ _ x0
 have bF:=k _ _ qZ
 clear x0 x1 x2 x3 x4 x5 x6 x7 x8 x9 x10 qZ xa xb hx hop hto hst k
 by_cases o3:op=10
 ·subst o3
  obtain rfl:=zcG.out (by rw [HST.out];rfl)
  clear HR3
  go_wp2_with fail
  go_ret
  exact⟨by first|rfl|simp,HB.out.trans (HB2.out.mono HB.out.size)⟩
 have b3:((op:Int)==10)=false:=by simp [o3]
 by_cases o4:op=11
 ·subst o4
  obtain rfl:=zcG.out (by rw [HST.out];rfl)
  clear HR3
  go_wp2_with fail
  go_ret
  exact⟨by first|rfl|simp,HB.out.trans (HB2.out.mono HB.out.size)⟩
 have b4:((op:Int)==11)=false:=by simp [o4]
 go_upto_block 4 with fail
 go_cut [6,7] (λs6 s7 w'=>∃kind t7:Int,s6= .int .i64 kind/\s7= .int .i64 t7/\w'=wr/\Hid (xO vars dom ln x=qN vars dom kind t7 x))
 case first=>
  by_cases o1:op=12
  ·have O1:=qh o1
   have b1:((op:Int)==12)=true:=by simp [o1]
   clear o1
   go_wp2_with fail
   go_meet
   case rel=>exact⟨9,(ln:Int),by first|rfl|simp,by first|rfl|simp,rfl,by rw [Hid,HST.out,if_pos O1.out]⟩
  have b1:((op:Int)==12)=false:=by simp [o1]
  by_cases o2:op=13
  ·have O2:=qh o2
   have b2:((op:Int)==13)=true:=by simp [o2]
   clear o2
   go_wp2_with fail
   go_meet
   case rel=>exact⟨4,(ln:Int),by first|rfl|simp,by first|rfl|simp,rfl,by rw [Hid,HST.out,if_neg o1,if_pos O2.out]⟩
  have b2:((op:Int)==13)=false:=by simp [o2]
  go_wp2_with fail
  go_meet
  case rel=>exact⟨op,0,by first|rfl|simp,by first|rfl|simp,rfl,by rw [Hid,HST.out,if_neg o1,if_neg o2,if_neg (λh=>h.elim o3 o4)]⟩
 case rest=>
 obtain⟨kind,t7,rfl,rfl,hww,HFI⟩:=hcut
 obtain rfl:wr=wc:=hww.symm
 clear HST b3 b4 o3 o4
 have zaH:Hid (xO vars dom ln x=(decide (1<=(kind:Int)) && decide ((kind:Int)<=9) && decide (0<=xU) && decide (xU<=t7) && xu kind x.reg x.var x.a x.b vars dom)):=by rw [Hid,HFI.out,HTO.out];rfl
 by_cases p1:1<=kind
 rotate_left
 ·skip
  have p1n:kind<1:=by omega
  obtain rfl:=zcG.out (by rw [zaH.out];simp [p1])
  clear HR3 zaH
  go_upto_region 22 with fail
  obtain⟨z0,z1,z2,z3,z4,z5,z6,z7,z8,z9,z10,z11,z12⟩:=CC.out wr (Below.refl _ _)
  go_quiet (fail)
  go_wp2_with fail
  go_ret
  exact⟨by first|rfl|simp,HB.out.trans ((vK HB2.out _).mono HB.out.size)⟩
 skip
 have p1n:¬kind<1:=by omega
 by_cases p2:kind<=9
 rotate_left
 ·skip
  have p2n:9<kind:=by omega
  obtain rfl:=zcG.out (by rw [zaH.out];simp [p2])
  clear HR3 zaH
  go_upto_region 22 with fail
  obtain⟨z0,z1,z2,z3,z4,z5,z6,z7,z8,z9,z10,z11,z12⟩:=CC.out wr (Below.refl _ _)
  go_quiet (fail)
  go_wp2_with fail
  go_ret
  exact⟨by first|rfl|simp,HB.out.trans ((vK HB2.out _).mono HB.out.size)⟩
 skip
 have p2n:¬9<kind:=by omega
 by_cases p3:0<=xU
 rotate_left
 ·skip
  have p3n:xU<0:=by omega
  obtain rfl:=zcG.out (by rw [zaH.out];simp [p3])
  clear HR3 zaH
  go_upto_region 22 with fail
  obtain⟨z0,z1,z2,z3,z4,z5,z6,z7,z8,z9,z10,z11,z12⟩:=CC.out wr (Below.refl _ _)
  go_quiet (fail)
  go_wp2_with fail
  go_ret
  exact⟨by first|rfl|simp,HB.out.trans ((vK HB2.out _).mono HB.out.size)⟩
 skip
 have p3n:¬xU<0:=by omega
 by_cases p4:xU<=t7
 rotate_left
 ·skip
  have p4n:t7<xU:=by omega
  obtain rfl:=zcG.out (by rw [zaH.out];simp [p4])
  clear HR3 zaH
  go_upto_region 22 with fail
  obtain⟨z0,z1,z2,z3,z4,z5,z6,z7,z8,z9,z10,z11,z12⟩:=CC.out wr (Below.refl _ _)
  go_quiet (fail)
  go_wp2_with fail
  go_ret
  exact⟨by first|rfl|simp,HB.out.trans ((vK HB2.out _).mono HB.out.size)⟩
 skip
 have p4n:¬t7<xU:=by omega
 obtain⟨po,hpo⟩:∃po,po=xu kind x.reg x.var x.a x.b vars dom:=⟨_,rfl⟩
 have zsY:Hid (xO vars dom ln x=po):=by rw [Hid,zaH.out,hpo];simp [p3,p4,p1,p2]
 have HPO:=qh (λX (hX:Below W.heap.size W X)=>zpY.out X hX kind)
 rw [<-hpo] at HPO
 clear zaH hpo zpY
 go_upto_region 22 with fail
 have hz:=HC.out wr HB2.out
 obtain⟨z0,z1,z2,z3,z4,z5,z6,z7,z8,z9,z10,z11,z12⟩:=CC.out wr (Below.refl _ _)
 refine wp_region_still_tail 49 (by kernel_rfl) (by kernel_rfl) ?_
 simp only [List.take_succ_cons,List.take_zero,List.drop_succ_cons,List.drop_zero]
 repeat still_step
 try refine wpStill_nil ?_
 change wpList _ _ _ _ _ wr.drew
 obtain⟨wd,hwd⟩:∃wd,wd=wr.drew:=⟨_,rfl⟩
 rw [<-hwd]
 have wM:Hid (Below W.heap.size W wd):=by rw [Hid,hwd];exact HB2.out.drew
 clear hwd z0 z1 z2 z3 z4 z5 z6 z7 z8 z9 z10 z11 z12 hz
 go_wp2_with fail
 refine(HPO.out wd wM.out).mono ?_
 rintro e Y ⟨rfl,hb⟩
 have kF:=qh (zm wM.out hb)
 clear hb
 cases po with
 |true=>
  go_wp2_with fail
  go_roundg (ln - (q+1))
  case measure=>rw [HG2.out];omega
  case rel=>exact⟨q+1,by omega,rfl,by simp,kF.out,zeb.out zsY.out⟩
 |false=>
 obtain rfl:=zcG.out zsY.out
 clear HR3 zcG
 go_wp2_with fail
 go_ret
 exact⟨by first|rfl|simp,HB.out.trans (kF.out.mono HB.out.size)⟩
