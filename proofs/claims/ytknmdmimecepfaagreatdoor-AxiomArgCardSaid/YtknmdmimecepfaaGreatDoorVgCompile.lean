/- Steps. -/
import Derived.Deep.RegionLaw
import Derived.Test.YtknmdmimecepfaaGreatDoorVgTreeR
set_option linter.all false
namespace Go.Proofs.YtknmdmimecepfaaGreatDoor
open Go.RowKit
set_option maxRecDepth 100000
set_option maxHeartbeats 16000000
theorem ze0:(Tryz.prog.info? 25).map (·.size)=some 3:=by kernel_rfl
theorem zi1:(Tryz.prog.info? 40).map (λi=>(i.zero,i.size,i.bytes))=some (some (.slice none 0 0),1,24):=by kernel_rfl
def CF (va:Value) (gb gr:Nat) (k:Nat):Prop:=va.ownBlock=some k\/k=gb\/k=gr
theorem zlA {e B:Nat} {V Y:World} {F:Nat->Prop} {t:TypeId} {v:Value} {l:List zl} {css:List (List Value)} (h:vH V B Y (yH e) 12 t v l css) (hb:Below V.heap.size V Y) (hF:∀k,F k->V.heap.size<=k) (hFB:∀k,F k->k<B):yA F Y (λy=>qC e y l [v]):=λy hy=>
 ⟨v,rfl,vH.slice (V:=V) (B:=B) (e:=t) (css:=css) ⟨h.len,h.part,hy.row h.row (λk hk hf=>by have:=(h.row.lt k hk).1;have:=hFB k hf;omega)⟩ (yH.stays e) (hb.trans (hy.below hb.size hF))⟩
structure jv (e:Nat) (w X:World) (gb gr:Nat) (vn dom:Int) (va:Value) (cl:List (List zl)) (css:List (List Value)):Prop where
 below:Below w.heap.size w X
 box:X.heap[gb]? =some (.cells #[.int .i64 vn, .int .i64 dom,va] 25 (0,0))
 res:X.heap[gr]? =some (.cells #[.int .i64 0, .int .i64 0, .slice none 0 0] 25 (0,0))
 lo:w.heap.size<=gb/\w.heap.size<=gr/\gr≠gb
 row:xC (CF va gb gr) X (qC e) 1 w.heap.size 40 va cl css
theorem jv.own_ne {e:Nat} {w X:World} {gb gr:Nat} {vn dom:Int} {va:Value} {cl:List (List zl)} {css:List (List Value)} (h:jv e w X gb gr vn dom va cl css):∀k,va.ownBlock=some k->k≠gb/\k≠gr:=λk hk=>
 ⟨λe=>by subst e;exact jw h.row.row hk h.box (by decide),λe=>by subst e;exact jw h.row.row hk h.res (by decide)⟩
theorem jv.lt {e:Nat} {w X:World} {gb gr:Nat} {vn dom:Int} {va:Value} {cl:List (List zl)} {css:List (List Value)} (h:jv e w X gb gr vn dom va cl css):∀k,CF va gb gr k->k<X.heap.size:=λk hk=>by
 rcases hk with hk|rfl|rfl
 ·exact(h.row.row.lt k hk).2
 ·exact zB h.box
 exact zB h.res
theorem jv.ge {e:Nat} {w X:World} {gb gr:Nat} {vn dom:Int} {va:Value} {cl:List (List zl)} {css:List (List Value)} (h:jv e w X gb gr vn dom va cl css):∀k,CF va gb gr k->w.heap.size<=k:=λk hk=>by
 have:=h.lo
 rcases hk with hk|rfl|rfl
 ·exact(h.row.row.lt k hk).1
 ·omega
 omega
theorem jv.later {e:Nat} {w X Y:World} {gb gr:Nat} {vn dom:Int} {va:Value} {cl:List (List zl)} {css:List (List Value)} (h:jv e w X gb gr vn dom va cl css) (hb:Below X.heap.size X Y):jv e w Y gb gr vn dom va cl css:=
 ⟨zm h.below hb,(hb.block _ (zB h.box)).trans h.box,(hb.block _ (zB h.res)).trans h.res,h.lo,h.row.step (zH (λ_=>False) hb) (λ_ _ h=>h) (λ_ h=>h.elim) (λ_ hk=> .inl hk)⟩
theorem jv.push {e i ln rc xc:Nat} {w Y X3:World} {gb gr:Nat} {vn dom:Int} {oa ra xa:Option Addr} {oc B:Nat} {cl:List (List zl)} {css zns:List (List Value)} {t:TypeId} {l:List zl} {o:Obj} (h:jv e w Y gb gr vn dom (.slice oa i oc) cl css) (hi:cl.length=i)
  (hr:vH w B Y (yH e) 12 t (.slice ra ln rc) l zns) (hB:∀k,CF (.slice oa i oc) gb gr k->k<B) (h1:X3.ownsRow w.heap.size 40 1 (.slice xa (i+1) xc) (i+1) (css.flatten++ [.slice ra ln rc]))
  (hs:Since (λk=>(Value.slice oa i oc).ownBlock=some k) (Y.alloc o) X3) (hloc:∀k,(Value.slice xa (i+1) xc).ownBlock=some k->(Value.slice oa i oc).ownBlock=some k\/k=(Y.alloc o).heap.size):
  X3.heap[gb]? =some (.cells #[.int .i64 vn, .int .i64 dom, .slice oa i oc] 25 (0,0))/\jv e w (X3.setCell ⟨gb,2,none⟩ (.slice xa (i+1) xc)) gb gr vn dom (.slice xa (i+1) xc) (cl++ [l]) (css++ [[.slice ra ln rc]])/\Since (λk=>(Value.slice oa i oc).ownBlock=some k\/k=gb) Y (X3.setCell ⟨gb,2,none⟩ (.slice xa (i+1) xc)):=by
 have hlo:=h.lo
 have hne:=h.own_ne
 have s1:Since (λk=>(Value.slice oa i oc).ownBlock=some k) Y X3:=((Since.refl _ Y).alloc o).trans hs (λk hk=> .inl hk)
 have zhj:=(s1.block _ (zB h.box) (λe=>(hne _ e).1 rfl)).trans h.box
 have hres:=(s1.block _ (zB h.res) (λe=>(hne _ e).2 rfl)).trans h.res
 have s2:Since (λk=>k=gb) X3 (X3.setCell ⟨gb,2,none⟩ (.slice xa (i+1) xc)):=Since.setCell (F:=λk=>k=gb) (p:=⟨gb,2,none⟩) (Since.refl _ _) (.inl rfl) _
 have s3:Since (λk=>(Value.slice oa i oc).ownBlock=some k\/k=gb) Y (X3.setCell ⟨gb,2,none⟩ (.slice xa (i+1) xc)):=(s1.mono (λk _ hk=> .inl hk)).trans s2 (λk hk=> .inl (.inr hk))
 have hnew:∀k,(Value.slice xa (i+1) xc).ownBlock=some k->k≠gb:=λk hk e=>by
  rcases hloc k hk with h1|h1
  ·exact(hne k h1).1 e
  have:=zB h.box;simp at h1;omega
 refine⟨zhj,⟨h.below.trans (s3.below h.below.size (λk hk=>by rcases hk with hk|hk;exact(h.row.row.lt k hk).1;omega)), ?_, ?_,hlo, ?_⟩,s3⟩
 ·have:=zw zhj 2 (.slice xa (i+1) xc);simpa using this
 ·exact(s2.block _ (zB hres) (by omega)).trans hres
 refine h.row.push s3 (λk hk=> ?_) (λk hk=> ?_) (zlA hr h.below h.ge hB) rfl ?_
 ·rcases hk with hk|hk
  ·exact .inl (.inl hk)
  exact .inl (.inr (.inl hk))
 ·rcases hk with hk|hk|hk
  ·rcases hloc k hk with h1|h1
   ·exact .inl (.inl h1)
   exact .inr (by simp at h1;omega)
  ·exact .inl (.inr (.inl hk))
  exact .inl (.inr (.inr hk))
 rw [hi];exact s2.row h1 hnew
def zbw (e:Nat) (w:World) (c:zo) (en:Ending) (w':World):Prop:=(∃ta tc css,en= .returned (.tuple #[xL c (.slice ta c.threads.length tc), .int .i64 0])/\xC (λk=>(Value.slice ta c.threads.length tc).ownBlock=some k) w' (qC e) 1 w.heap.size 40 (.slice ta c.threads.length tc) c.threads css)/\Below w.heap.size w w'
theorem zgo {e n tc:Nat} {w X Z:World} {c:zo} {gb gr:Nat} {ta:Option Addr} {css:List (List Value)} (h:jv e w X gb gr c.vars c.domain (.slice ta n tc) c.threads css) (hn:c.threads.length=n) (hs:Since (λk=>k=gr) X Z):
  zbw e w c (.returned (.tuple #[.agg #[.int .i64 c.vars, .int .i64 c.domain, .slice ta n tc], .int .i64 0])) Z:=by
 subst hn
 refine⟨⟨ta,tc,css,rfl,h.row.step hs (λk hk e=>(h.own_ne k hk).2 e) (λk hk=> .inl (.inr (.inr hk))) (λk hk=> .inl (.inl hk))⟩,h.below.trans (hs.below h.below.size (λk hk=>by have:=h.lo;omega))⟩
theorem ziy (e d:Nat) (w:World) (p:bK) (hp:zcP p) (vv tv:Value) (h:zbb e d w p vv tv):Calls Tryz.prog 32 #[zcJ p vv tv] w (zbw e w (pG p)):=by
 have hright:=λy (hy:Below w.heap.size w y)=>zgp e d y p hp vv tv (h.below hy)
 obtain⟨va,vc,rfl, -⟩:=zh.slice h.vars
 obtain⟨ta,tc,rfl, -⟩:=zh.slice h.threads
 have hgood:∀l∈p.threads,(zA l 0).length<=600:=λl hl=>by
  have h1:=(kR p.vars.length p.domain l 20 0 (by omega) (hp.ok l hl)).1
  have h2:=hp.one hl
  omega
 obtain⟨C,hC⟩:∃C,C=pG p:=⟨_,rfl⟩
 have hC1:C=⟨p.vars.length,p.domain,p.threads.map (λl=>zA l 0)⟩:=hC
 have kQ:=hp.many.2
 have zbx:=h.threads
 rw [<-hC]
 unfold zcJ at hright ⊢
 generalize p.domain=dom at hright hC1 ⊢
 generalize p.vars.length=vn at hright hC1 ⊢
 generalize p.threads=T at hright hC1 hgood kQ zbx ⊢
 obtain⟨tn,htn⟩:∃n,n=T.length:=⟨_,rfl⟩
 rw [<-htn] at hright zbx kQ ⊢
 have hct:∀i,i<tn->(C.threads.take (i+1))=C.threads.take i++ [zA (T.getD i []) 0] :=λi hi=>by
  have hi2:i<T.length:=by omega
  rw [hC1,List.take_succ_eq_append_getElem (by simpa using hi2)]
  simp [List.getD_eq_getElem?_getD,List.getElem?_eq_getElem hi2]
 have hcl:C.threads.length=tn:=by rw [hC1,htn];simp
 have hgd:∀i,i<tn->(zA (T.getD i []) 0).length<=600:=λi hi=>hgood _ (yL (by omega))
 have hbl:∀i,i<tn->∀v,zJ e d w (T.getD i []) v->∀y,Below w.heap.size w y->Calls Tryz.prog 55 #[v, .int .i64 0] y (jP e w y (zA (T.getD i []) 0)):=λi hi v hv y hy=>
  zlB e d w y hy _ v hv 0 (by omega) (by have:=hgd i hi;omega)
 have hvars:C.vars=vn:=by rw [hC1]
 have hdom:C.domain=dom:=by rw [hC1]
 have hB:=((Below.refl w.heap.size w).alloc (Nat.le_refl _) (.cells #[.slice va vn vc, .int .i64 dom, .slice ta tn tc] 93)).alloc (by simp) (.cells #[.int .i64 0, .int .i64 0, .slice none 0 0] 25)
 have H1:=qh (qm w (.cells #[.slice va vn vc, .int .i64 dom, .slice ta tn tc] 93) (.cells #[.int .i64 0, .int .i64 0, .slice none 0 0] 25))
 have H2:=qh (xA w (.cells #[.slice va vn vc, .int .i64 dom, .slice ta tn tc] 93) (.cells #[.int .i64 0, .int .i64 0, .slice none 0 0] 25))
 have HB:=qh hB
 have HTN:=qh htn
 have zjX:=qh zbx
 have zlC:=qh hright
 have HCT:=qh hct
 have je:=qh hcl
 have HGD:=qh hgd
 have HBL:=qh hbl
 have zcQ:=qh hvars
 have zfx:=qh hdom
 clear h hp hright hgood hC hC1 htn zbx hct hcl hgd hbl hvars hdom hB
 go_enter Tryz.func32,Tryz.ntmps32
 go_upto_region 1 with fail
 generalize World.alloc (World.alloc w _) _=W at HB H1 H2 ⊢
 obtain⟨gx,hgx⟩:∃gx,gx=w.heap.size:=⟨_,rfl⟩
 rw [<-hgx] at H1 H2 ⊢
 have vk:=qh hgx
 clear hgx
 have c0:=za H1.out 0
 have c1:=za H1.out 1
 have c2:=za H1.out 2
 go_upto_region 3 with(go_at_call 54;go_must(refine(zlC.out W HB.out).mono ?_);rintro en W1 ⟨rfl,hb⟩;(have HB1:=qh (zm HB.out hb));(have K1:=qh ((hb.block _ (zB H1.out)).trans H1.out));(have K2:=qh ((hb.block _ (zB H2.out)).trans H2.out));clear hb c0 c1 c2)
 have c0:=za K1.out 0
 have c1:=za K1.out 1
 go_upto_region 4 with fail
 have hL:jv e w (W1.alloc (.cells #[.int .i64 vn, .int .i64 dom, .slice none 0 0] 25)) W1.heap.size (gx+1) vn dom (.slice none 0 0) [] [] :=by
  have hk:=zB K2.out
  exact⟨HB1.out.alloc HB1.out.size _,zT _ _,(Below.heap_alloc _ _ _ hk).trans K2.out,⟨HB1.out.size,by have:=vk.out;omega,by omega⟩,xC.nil _ _ _ _ _ _⟩
 have HK1:=qh ((Below.heap_alloc W1 (.cells #[.int .i64 vn, .int .i64 dom, .slice none 0 0] 25) _ (zB K1.out)).trans K1.out)
 have hlt1:=zB K1.out
 clear c0 c1 K1 K2 H1 H2 HB zlC
 generalize World.alloc W1 _=V at hL HK1 ⊢
 generalize W1.heap.size=gb at hL hlt1 ⊢
 have HL0:=qh hL
 have hgb:gx≠gb:=by omega
 clear hL hlt1 HB1
 go_wp2_with fail
 go_loopg [5] tn (λgg s5 wr=>∃(i:Nat) (oa:Option Addr) (oc:Nat) (css:List (List Value)),i<=tn/\Hid (gg=tn - i)/\s5= .int .i64 i/\Hid (jv e w wr gb (gx+1) vn dom (.slice oa i oc) (C.threads.take i) css)/\Hid (wr.heap[gx]? =some (.cells #[.slice va vn vc, .int .i64 dom, .slice ta tn tc] 93 (0,0))))
 case atStart=>exact⟨0,none,0, [],Nat.zero_le _,rfl,rfl,HL0.out,HK1.out⟩
 case round=>
 obtain⟨i,oa,oc,css,hi,HG,rfl,HL,HK⟩:=hrel
 have c2:=za HK.out 2
 by_cases hlt:i<tn
 rotate_left
 ·obtain rfl:tn=i:=by omega
  have z0:=za HL.out.box 0
  have z1:=za HL.out.box 1
  have z2:=za HL.out.box 2
  have r0:=za HL.out.res 0
  have r1:=za HL.out.res 1
  have r2:=za HL.out.res 2
  have f0:=zF HL.out.res 0
  have f1:=zF HL.out.res 1
  have f2:=zF HL.out.res 2
  have hall:C.threads.take tn=C.threads:=List.take_of_length_le (by rw [je.out];exact Nat.le_refl _)
  have hend:=HL.out
  rw [hall] at hend
  have hset:(qE wr (gx+1) 0 [.int .i64 vn, .int .i64 dom, .slice oa tn oc]).heap[gx+1]? =some (.cells #[.int .i64 vn, .int .i64 dom, .slice oa tn oc] 25 (0,0)):=vG (cs:= [.int .i64 0, .int .i64 0, .slice none 0 0]) _ rfl hend.res
  have zp2:zbw e w C (.returned (.tuple #[.agg #[.int .i64 vn, .int .i64 dom, .slice oa tn oc], .int .i64 0])) (qE wr (gx+1) 0 [.int .i64 vn, .int .i64 dom, .slice oa tn oc]):=by
   have:=zgo (by rw [zcQ.out,zfx.out];exact hend) je.out (vN [.int .i64 vn, .int .i64 dom, .slice oa tn oc] wr 0)
   rw [zcQ.out,zfx.out] at this
   exact this
  have jM:=qh hset
  have HE:=qh zp2
  clear hset hend zp2 hall
  go_wp2_with fail
  refine bodyPost_ret (bD rfl _ _ (gx+1) 25 _ (0,0) _ rfl jM.out Tryz.underlying25 rfl ze0) rfl ?_
  exact HE.out
 have qQ:(i:Int)<(tn:Int):=by omega
 obtain⟨b,off,ka,kc,gB, -,x0,hst⟩:=zcj.part zjX.out i (by rw [<-HTN.out];exact hlt)
 subst gB
 have hbl:=HBL.out i hlt _ hst
 have hct:=HCT.out i hlt
 have hgd:=HGD.out i hlt
 have hci:(C.threads.take i).length=i:=by rw [List.length_take,je.out];omega
 generalize T.getD i [] =l at x0 hbl hct hgd hst
 have y0:=zi HL.out.below _ _ x0
 generalize l.length=ln at y0 hbl
 generalize zA l 0=bc at hbl hct hgd
 have z2:=za HL.out.box 2
 have zf:=zF HL.out.box 2
 have hB0:=hbl wr.drew HL.out.below.drew
 have HLD:=qh (HL.out.later (Y:=wr.drew) (Below.refl _ _).drew)
 have HB0:=qh hB0
 have HCI:=qh hci
 have zvk:=qh hct
 have zyk:=qh hgd
 have HLT:=qh (show∀k,CF (.slice oa i oc) gb (gx+1) k->k<wr.drew.heap.size from HL.out.lt)
 clear hst x0 hbl hct hgd hci hB0
 go_upto_region 7 with fail
 go_region_law (first|(refine vY (Y.alloc (.cells #[.slice ra bc.length rc] 40)) (by rfl) (.tmp 24) (.tmp 31) 23 rfl 40 (.slice none 0 0) 1 24 Tryz.underlying23 zi1 rfl (by decide) w.heap.size (.slice oa i oc) i (css.flatten) (by simp [Act.eval]) (hrow.alloc _) ⟨Y.heap.size,0,none⟩ 1 1 [.slice ra bc.length rc] (by simp [Act.eval]) rfl (wC Y _ _) (by simp [Value.oneCell']) (by unfold maxLen;omega) (by omega) (by simp;omega) ?_;intro xa xc X3 hx3 zyl zym hS3 zp3;have hp:=qG.push HCI.out hr HLT.out hx3 hS3 zp3;have v2:=za hp.1 2;have v2f:=zF hp.1 2;simp only [List.getElem?_toArray,List.getElem?_cons_zero,List.getElem?_cons_succ] at v2)|(go_simp;go_at_call 55;refine HB0.out.mono ?_;rintro en Y ⟨⟨ra,rc,zns,rfl,hr⟩,hb⟩;have qG:=HLD.out.later hb;have hrow:=qG.row.row;rw [HCI.out] at hrow;have hYs:=qG.below.size;have v2b:=za qG.box 2;simp only [List.getElem?_toArray,List.getElem?_cons_zero,List.getElem?_cons_succ] at v2b;have v2c:=λo=>(Below.cell ((Below.refl _ _).alloc (Nat.le_refl _) o) (World.block_lt_of_cell? Y _ v2b)).trans v2b))
 all_goals
  have hky:=(hb.block gx (zB (w:=wr) HK.out)).trans HK.out
  have hk4:=(hp.2.2.block gx (zB hky) (λe=>by rcases e with e|e;exact jw hrow e hky (by decide);exact hgb e)).trans hky
  have HP:=qh hp.2.1
  have HK4:=qh hk4
  clear hky hk4 hp hr hb qG hrow hYs v2b hx3 hS3 zp3 v2 v2f y0 z2 zf c2
  go_wp2_with fail
  go_roundg (tn - (i+1))
  case measure=>rw [HG.out];omega
  case rel=>exact⟨i+1,xa,xc,_,by omega,rfl,by simp,by rw [Hid,zvk.out];exact HP.out,HK4.out⟩
