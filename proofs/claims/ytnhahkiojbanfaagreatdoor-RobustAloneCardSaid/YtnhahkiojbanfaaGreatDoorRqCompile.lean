/- Steps. -/
import Derived.Deep.RegionLaw
import Derived.Test.YtnhahkiojbanfaaGreatDoorRqTreeR
set_option linter.all false
namespace Go.Proofs.YtnhahkiojbanfaaGreatDoor
open Go.RowKit
set_option maxRecDepth 100000
set_option maxHeartbeats 16000000
theorem zbJ:(Tryz.prog.info? 26).map (·.size)=some 3:=by kernel_rfl
theorem zdT:(Tryz.prog.info? 55).map (λi=>(i.zero,i.size,i.bytes))=some (some (.slice none 0 0),1,24):=by kernel_rfl
def CF (va:Value) (gb gr:Nat) (k:Nat):Prop:=va.ownBlock=some k\/k=gb\/k=gr
theorem znG {e B:Nat} {V Y:World} {F:Nat->Prop} {t:TypeId} {v:Value} {l:List zC} {css:List (List Value)} (h:jB V B Y (xE e) 12 t v l css) (hb:Below V.heap.size V Y) (hF:∀k,F k->V.heap.size<=k) (hFB:∀k,F k->k<B):zO F Y (λy=>qU e y l [v]):=λy hy=>
 ⟨v,rfl,jB.slice (V:=V) (B:=B) (e:=t) (css:=css) ⟨h.len,h.part,hy.row h.row (λk hk hf=>by have:=(h.row.lt k hk).1;have:=hFB k hf;omega)⟩ (xE.stays e) (hb.trans (hy.below hb.size hF))⟩
structure jY (e:Nat) (w X:World) (gb gr:Nat) (vn dom:Int) (va:Value) (cl:List (List zC)) (css:List (List Value)):Prop where
 below:Below w.heap.size w X
 box:X.heap[gb]? =some (.cells #[.int .i64 vn, .int .i64 dom,va] 26 (0,0))
 res:X.heap[gr]? =some (.cells #[.int .i64 0, .int .i64 0, .slice none 0 0] 26 (0,0))
 lo:w.heap.size<=gb/\w.heap.size<=gr/\gr≠gb
 row:yg (CF va gb gr) X (qU e) 1 w.heap.size 55 va cl css
theorem jY.own_ne {e:Nat} {w X:World} {gb gr:Nat} {vn dom:Int} {va:Value} {cl:List (List zC)} {css:List (List Value)} (h:jY e w X gb gr vn dom va cl css):∀k,va.ownBlock=some k->k≠gb/\k≠gr:=λk hk=>
 ⟨λe=>by subst e;exact jV h.row.row hk h.box (by decide),λe=>by subst e;exact jV h.row.row hk h.res (by decide)⟩
theorem jY.lt {e:Nat} {w X:World} {gb gr:Nat} {vn dom:Int} {va:Value} {cl:List (List zC)} {css:List (List Value)} (h:jY e w X gb gr vn dom va cl css):∀k,CF va gb gr k->k<X.heap.size:=λk hk=>by
 rcases hk with hk|rfl|rfl
 ·exact(h.row.row.lt k hk).2
 ·exact zy h.box
 exact zy h.res
theorem jY.ge {e:Nat} {w X:World} {gb gr:Nat} {vn dom:Int} {va:Value} {cl:List (List zC)} {css:List (List Value)} (h:jY e w X gb gr vn dom va cl css):∀k,CF va gb gr k->w.heap.size<=k:=λk hk=>by
 have:=h.lo
 rcases hk with hk|rfl|rfl
 ·exact(h.row.row.lt k hk).1
 ·omega
 omega
theorem jY.later {e:Nat} {w X Y:World} {gb gr:Nat} {vn dom:Int} {va:Value} {cl:List (List zC)} {css:List (List Value)} (h:jY e w X gb gr vn dom va cl css) (hb:Below X.heap.size X Y):jY e w Y gb gr vn dom va cl css:=
 ⟨zM h.below hb,(hb.block _ (zy h.box)).trans h.box,(hb.block _ (zy h.res)).trans h.res,h.lo,h.row.step (qA (λ_=>False) hb) (λ_ _ h=>h) (λ_ h=>h.elim) (λ_ hk=> .inl hk)⟩
theorem jY.push {e i ln rc xc:Nat} {w Y X3:World} {gb gr:Nat} {vn dom:Int} {oa ra xa:Option Addr} {oc B:Nat} {cl:List (List zC)} {css zuH:List (List Value)} {t:TypeId} {l:List zC} {o:Obj} (h:jY e w Y gb gr vn dom (.slice oa i oc) cl css) (hi:cl.length=i)
  (hr:jB w B Y (xE e) 12 t (.slice ra ln rc) l zuH) (hB:∀k,CF (.slice oa i oc) gb gr k->k<B) (h1:X3.ownsRow w.heap.size 55 1 (.slice xa (i+1) xc) (i+1) (css.flatten++ [.slice ra ln rc]))
  (hs:Since (λk=>(Value.slice oa i oc).ownBlock=some k) (Y.alloc o) X3) (hloc:∀k,(Value.slice xa (i+1) xc).ownBlock=some k->(Value.slice oa i oc).ownBlock=some k\/k=(Y.alloc o).heap.size):
  X3.heap[gb]? =some (.cells #[.int .i64 vn, .int .i64 dom, .slice oa i oc] 26 (0,0))/\jY e w (X3.setCell ⟨gb,2,none⟩ (.slice xa (i+1) xc)) gb gr vn dom (.slice xa (i+1) xc) (cl++ [l]) (css++ [[.slice ra ln rc]])/\Since (λk=>(Value.slice oa i oc).ownBlock=some k\/k=gb) Y (X3.setCell ⟨gb,2,none⟩ (.slice xa (i+1) xc)):=by
 have hlo:=h.lo
 have hne:=h.own_ne
 have s1:Since (λk=>(Value.slice oa i oc).ownBlock=some k) Y X3:=((Since.refl _ Y).alloc o).trans hs (λk hk=> .inl hk)
 have zh9:=(s1.block _ (zy h.box) (λe=>(hne _ e).1 rfl)).trans h.box
 have hres:=(s1.block _ (zy h.res) (λe=>(hne _ e).2 rfl)).trans h.res
 have s2:Since (λk=>k=gb) X3 (X3.setCell ⟨gb,2,none⟩ (.slice xa (i+1) xc)):=Since.setCell (F:=λk=>k=gb) (p:=⟨gb,2,none⟩) (Since.refl _ _) (.inl rfl) _
 have s3:Since (λk=>(Value.slice oa i oc).ownBlock=some k\/k=gb) Y (X3.setCell ⟨gb,2,none⟩ (.slice xa (i+1) xc)):=(s1.mono (λk _ hk=> .inl hk)).trans s2 (λk hk=> .inl (.inr hk))
 have hnew:∀k,(Value.slice xa (i+1) xc).ownBlock=some k->k≠gb:=λk hk e=>by
  rcases hloc k hk with h1|h1
  ·exact(hne k h1).1 e
  have:=zy h.box;simp at h1;omega
 refine⟨zh9,⟨h.below.trans (s3.below h.below.size (λk hk=>by rcases hk with hk|hk;exact(h.row.row.lt k hk).1;omega)), ?_, ?_,hlo, ?_⟩,s3⟩
 ·have:=zD zh9 2 (.slice xa (i+1) xc);simpa using this
 ·exact(s2.block _ (zy hres) (by omega)).trans hres
 refine h.row.push s3 (λk hk=> ?_) (λk hk=> ?_) (znG hr h.below h.ge hB) rfl ?_
 ·rcases hk with hk|hk
  ·exact .inl (.inl hk)
  exact .inl (.inr (.inl hk))
 ·rcases hk with hk|hk|hk
  ·rcases hloc k hk with h1|h1
   ·exact .inl (.inl h1)
   exact .inr (by simp at h1;omega)
  ·exact .inl (.inr (.inl hk))
  exact .inl (.inr (.inr hk))
 rw [hi];exact s2.row h1 hnew
def zbS (e:Nat) (w:World) (c:zx) (en:Ending) (w':World):Prop:=(∃ta tc css,en= .returned (.tuple #[xW c (.slice ta c.threads.length tc), .int .i64 0])/\yg (λk=>(Value.slice ta c.threads.length tc).ownBlock=some k) w' (qU e) 1 w.heap.size 55 (.slice ta c.threads.length tc) c.threads css)/\Below w.heap.size w w'
theorem zhf {e n tc:Nat} {w X Z:World} {c:zx} {gb gr:Nat} {ta:Option Addr} {css:List (List Value)} (h:jY e w X gb gr c.vars c.domain (.slice ta n tc) c.threads css) (hn:c.threads.length=n) (hs:Since (λk=>k=gr) X Z):
  zbS e w c (.returned (.tuple #[.agg #[.int .i64 c.vars, .int .i64 c.domain, .slice ta n tc], .int .i64 0])) Z:=by
 subst hn
 refine⟨⟨ta,tc,css,rfl,h.row.step hs (λk hk e=>(h.own_ne k hk).2 e) (λk hk=> .inl (.inr (.inr hk))) (λk hk=> .inl (.inl hk))⟩,h.below.trans (hs.below h.below.size (λk hk=>by have:=h.lo;omega))⟩
theorem zj7 (e d:Nat) (w:World) (p:pV) (hp:zdo p) (vv tv:Value) (h:zbf e d w p vv tv):Calls Tryz.prog 32 #[zdn p vv tv] w (zbS e w (zax p)):=by
 have hright:=λy (hy:Below w.heap.size w y)=>zhd e d y p hp vv tv (h.below hy)
 obtain⟨va,vc,rfl, -⟩:=zh.slice h.vars
 obtain⟨ta,tc,rfl, -⟩:=zh.slice h.threads
 have hgood:∀l∈p.threads,(zI l 0).length<=600:=λl hl=>by
  have h1:=(gu p.vars.length p.domain l 20 0 (by omega) (hp.ok l hl)).1
  have h2:=hp.one hl
  omega
 obtain⟨C,hC⟩:∃C,C=zax p:=⟨_,rfl⟩
 have hC1:C=⟨p.vars.length,p.domain,p.threads.map (λl=>zI l 0)⟩:=hC
 have hm3:=hp.many.2
 have zbQ:=h.threads
 rw [<-hC]
 unfold zdn at hright ⊢
 generalize p.domain=dom at hright hC1 ⊢
 generalize p.vars.length=vn at hright hC1 ⊢
 generalize p.threads=T at hright hC1 hgood hm3 zbQ ⊢
 obtain⟨tn,htn⟩:∃n,n=T.length:=⟨_,rfl⟩
 rw [<-htn] at hright zbQ hm3 ⊢
 have hct:∀i,i<tn->(C.threads.take (i+1))=C.threads.take i++ [zI (T.getD i []) 0] :=λi hi=>by
  have hi2:i<T.length:=by omega
  rw [hC1,List.take_succ_eq_append_getElem (by simpa using hi2)]
  simp [List.getD_eq_getElem?_getD,List.getElem?_eq_getElem hi2]
 have hcl:C.threads.length=tn:=by rw [hC1,htn];simp
 have hgd:∀i,i<tn->(zI (T.getD i []) 0).length<=600:=λi hi=>hgood _ (yC (by omega))
 have hbl:∀i,i<tn->∀v,zQ e d w (T.getD i []) v->∀y,Below w.heap.size w y->Calls Tryz.prog 54 #[v, .int .i64 0] y (wD e w y (zI (T.getD i []) 0)):=λi hi v hv y hy=>
  znH e d w y hy _ v hv 0 (by omega) (by have:=hgd i hi;omega)
 have hvars:C.vars=vn:=by rw [hC1]
 have hdom:C.domain=dom:=by rw [hC1]
 have hB:=((Below.refl w.heap.size w).alloc (Nat.le_refl _) (.cells #[.slice va vn vc, .int .i64 dom, .slice ta tn tc] 87)).alloc (by simp) (.cells #[.int .i64 0, .int .i64 0, .slice none 0 0] 26)
 have H1:=qh (xR w (.cells #[.slice va vn vc, .int .i64 dom, .slice ta tn tc] 87) (.cells #[.int .i64 0, .int .i64 0, .slice none 0 0] 26))
 have H2:=qh (yT w (.cells #[.slice va vn vc, .int .i64 dom, .slice ta tn tc] 87) (.cells #[.int .i64 0, .int .i64 0, .slice none 0 0] 26))
 have HB:=qh hB
 have HTN:=qh htn
 have zfZ:=qh zbQ
 have znI:=qh hright
 have HCT:=qh hct
 have HCL:=qh hcl
 have HGD:=qh hgd
 have HBL:=qh hbl
 have zd0:=qh hvars
 have zuI:=qh hdom
 clear h hp hright hgood hC hC1 htn zbQ hct hcl hgd hbl hvars hdom hB
 go_enter Tryz.func32,Tryz.ntmps32
 go_upto_region 1 with fail
 generalize World.alloc (World.alloc w _) _=W at HB H1 H2 ⊢
 obtain⟨gx,hgx⟩:∃gx,gx=w.heap.size:=⟨_,rfl⟩
 rw [<-hgx] at H1 H2 ⊢
 have xO:=qh hgx
 clear hgx
 have c0:=ze H1.out 0
 have c1:=ze H1.out 1
 have c2:=ze H1.out 2
 go_upto_region 3 with(go_at_call 53;go_must(refine(znI.out W HB.out).mono ?_);rintro en W1 ⟨rfl,hb⟩;(have HB1:=qh (zM HB.out hb));(have K1:=qh ((hb.block _ (zy H1.out)).trans H1.out));(have K2:=qh ((hb.block _ (zy H2.out)).trans H2.out));clear hb c0 c1 c2)
 have c0:=ze K1.out 0
 have c1:=ze K1.out 1
 go_upto_region 4 with fail
 have hL:jY e w (W1.alloc (.cells #[.int .i64 vn, .int .i64 dom, .slice none 0 0] 26)) W1.heap.size (gx+1) vn dom (.slice none 0 0) [] [] :=by
  have hk:=zy K2.out
  exact⟨HB1.out.alloc HB1.out.size _,zS _ _,(Below.heap_alloc _ _ _ hk).trans K2.out,⟨HB1.out.size,by have:=xO.out;omega,by omega⟩,yg.nil _ _ _ _ _ _⟩
 have HK1:=qh ((Below.heap_alloc W1 (.cells #[.int .i64 vn, .int .i64 dom, .slice none 0 0] 26) _ (zy K1.out)).trans K1.out)
 have hlt1:=zy K1.out
 clear c0 c1 K1 K2 H1 H2 HB znI
 generalize World.alloc W1 _=V at hL HK1 ⊢
 generalize W1.heap.size=gb at hL hlt1 ⊢
 have HL0:=qh hL
 have hgb:gx≠gb:=by omega
 clear hL hlt1 HB1
 go_wp2_with fail
 go_loopg [5] tn (λgg s5 wr=>∃(i:Nat) (oa:Option Addr) (oc:Nat) (css:List (List Value)),i<=tn/\Hid (gg=tn - i)/\s5= .int .i64 i/\Hid (jY e w wr gb (gx+1) vn dom (.slice oa i oc) (C.threads.take i) css)/\Hid (wr.heap[gx]? =some (.cells #[.slice va vn vc, .int .i64 dom, .slice ta tn tc] 87 (0,0))))
 case atStart=>exact⟨0,none,0, [],Nat.zero_le _,rfl,rfl,HL0.out,HK1.out⟩
 case round=>
 obtain⟨i,oa,oc,css,hi,HG,rfl,HL,HK⟩:=hrel
 have c2:=ze HK.out 2
 by_cases hlt:i<tn
 rotate_left
 ·obtain rfl:tn=i:=by omega
  have z0:=ze HL.out.box 0
  have z1:=ze HL.out.box 1
  have z2:=ze HL.out.box 2
  have r0:=ze HL.out.res 0
  have r1:=ze HL.out.res 1
  have r2:=ze HL.out.res 2
  have f0:=zK HL.out.res 0
  have f1:=zK HL.out.res 1
  have f2:=zK HL.out.res 2
  have hall:C.threads.take tn=C.threads:=List.take_of_length_le (by rw [HCL.out];exact Nat.le_refl _)
  have hend:=HL.out
  rw [hall] at hend
  have hset:(xI wr (gx+1) 0 [.int .i64 vn, .int .i64 dom, .slice oa tn oc]).heap[gx+1]? =some (.cells #[.int .i64 vn, .int .i64 dom, .slice oa tn oc] 26 (0,0)):=vG (cs:= [.int .i64 0, .int .i64 0, .slice none 0 0]) _ rfl hend.res
  have zry:zbS e w C (.returned (.tuple #[.agg #[.int .i64 vn, .int .i64 dom, .slice oa tn oc], .int .i64 0])) (xI wr (gx+1) 0 [.int .i64 vn, .int .i64 dom, .slice oa tn oc]):=by
   have:=zhf (by rw [zd0.out,zuI.out];exact hend) HCL.out (qJ [.int .i64 vn, .int .i64 dom, .slice oa tn oc] wr 0)
   rw [zd0.out,zuI.out] at this
   exact this
  have xg:=qh hset
  have HE:=qh zry
  clear hset hend zry hall
  go_wp2_with fail
  refine bodyPost_ret (xP rfl _ _ (gx+1) 26 _ (0,0) _ rfl xg.out Tryz.underlying26 rfl zbJ) rfl ?_
  exact HE.out
 have vY:(i:Int)<(tn:Int):=by omega
 obtain⟨b,off,ka,kc,zZ, -,x0,hst⟩:=zcU.part zfZ.out i (by rw [<-HTN.out];exact hlt)
 subst zZ
 have hbl:=HBL.out i hlt _ hst
 have hct:=HCT.out i hlt
 have hgd:=HGD.out i hlt
 have hci:(C.threads.take i).length=i:=by rw [List.length_take,HCL.out];omega
 generalize T.getD i [] =l at x0 hbl hct hgd hst
 have y0:=zk HL.out.below _ _ x0
 generalize l.length=ln at y0 hbl
 generalize zI l 0=bc at hbl hct hgd
 have z2:=ze HL.out.box 2
 have zf:=zK HL.out.box 2
 have hB0:=hbl wr.drew HL.out.below.drew
 have HLD:=qh (HL.out.later (Y:=wr.drew) (Below.refl _ _).drew)
 have HB0:=qh hB0
 have HCI:=qh hci
 have zxZ:=qh hct
 have z0Q:=qh hgd
 have HLT:=qh (show∀k,CF (.slice oa i oc) gb (gx+1) k->k<wr.drew.heap.size from HL.out.lt)
 clear hst x0 hbl hct hgd hci hB0
 go_upto_region 7 with fail
 go_region_law (first|(refine zY (Y.alloc (.cells #[.slice ra bc.length rc] 55)) (by rfl) (.tmp 24) (.tmp 31) 24 rfl 55 (.slice none 0 0) 1 24 Tryz.underlying24 zdT rfl (by decide) w.heap.size (.slice oa i oc) i (css.flatten) (by simp [Act.eval]) (hrow.alloc _) ⟨Y.heap.size,0,none⟩ 1 1 [.slice ra bc.length rc] (by simp [Act.eval]) rfl (vP Y _ _) (by simp [Value.oneCell']) (by unfold maxLen;omega) (by omega) (by simp;omega) ?_;intro xa xc X3 hx3 z0R z0S hS3 zrz;have hp:=qg.push HCI.out hr HLT.out hx3 hS3 zrz;have v2:=ze hp.1 2;have v2f:=zK hp.1 2;simp only [List.getElem?_toArray,List.getElem?_cons_zero,List.getElem?_cons_succ] at v2)|(go_simp;go_at_call 54;refine HB0.out.mono ?_;rintro en Y ⟨⟨ra,rc,zuH,rfl,hr⟩,hb⟩;have qg:=HLD.out.later hb;have hrow:=qg.row.row;rw [HCI.out] at hrow;have hYs:=qg.below.size;have v2b:=ze qg.box 2;simp only [List.getElem?_toArray,List.getElem?_cons_zero,List.getElem?_cons_succ] at v2b;have v2c:=λo=>(Below.cell ((Below.refl _ _).alloc (Nat.le_refl _) o) (World.block_lt_of_cell? Y _ v2b)).trans v2b))
 all_goals
  have hky:=(hb.block gx (zy (w:=wr) HK.out)).trans HK.out
  have hk4:=(hp.2.2.block gx (zy hky) (λe=>by rcases e with e|e;exact jV hrow e hky (by decide);exact hgb e)).trans hky
  have HP:=qh hp.2.1
  have HK4:=qh hk4
  clear hky hk4 hp hr hb qg hrow hYs v2b hx3 hS3 zrz v2 v2f y0 z2 zf c2
  go_wp2_with fail
  go_roundg (tn - (i+1))
  case measure=>rw [HG.out];omega
  case rel=>exact⟨i+1,xa,xc,_,by omega,rfl,by simp,by rw [Hid,zxZ.out];exact HP.out,HK4.out⟩
