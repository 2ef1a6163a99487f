/- Steps. -/
import Derived.Test.YtliajkheeniljaaGreatDoorZrMade2
set_option linter.all false
namespace Go.Proofs.YtliajkheeniljaaGreatDoor
open Go.RowKit
set_option maxRecDepth 100000
set_option maxHeartbeats 16000000
theorem zel:(Tryz.prog.info? 24).map (·.size)=some 3:=by kernel_rfl
theorem zmO:(Tryz.prog.info? 59).map (λi=>(i.zero,i.size,i.bytes))=some (some (.slice none 0 0),1,24):=by kernel_rfl
def CF (va:Value) (gb gr:Nat) (k:Nat):Prop:=va.ownBlock=some k\/k=gb\/k=gr
theorem zqt {e B:Nat} {V Y:World} {F:Nat->Prop} {t:TypeId} {v:Value} {l:List zW} {css:List (List Value)} (h:wX V B Y (vE e) 12 t v l css) (hb:Below V.heap.size V Y) (hF:∀k,F k->V.heap.size<=k) (hFB:∀k,F k->k<B):zX F Y (λy=>xU e y l [v]):=λy hy=>
 ⟨v,rfl,wX.slice (V:=V) (B:=B) (e:=t) (css:=css) ⟨h.len,h.part,hy.row h.row (λk hk hf=>by have:=(h.row.lt k hk).1;have:=hFB k hf;omega)⟩ (vE.stays e) (hb.trans (hy.below hb.size hF))⟩
structure uD (e:Nat) (w X:World) (gb gr:Nat) (vn dom:Int) (va:Value) (cl:List (List zW)) (css:List (List Value)):Prop where
 below:Below w.heap.size w X
 box:X.heap[gb]? =some (.cells #[.int .i64 vn, .int .i64 dom,va] 24 (0,0))
 res:X.heap[gr]? =some (.cells #[.int .i64 0, .int .i64 0, .slice none 0 0] 24 (0,0))
 lo:w.heap.size<=gb/\w.heap.size<=gr/\gr≠gb
 row:yV (CF va gb gr) X (xU e) 1 w.heap.size 59 va cl css
theorem uD.own_ne {e:Nat} {w X:World} {gb gr:Nat} {vn dom:Int} {va:Value} {cl:List (List zW)} {css:List (List Value)} (h:uD e w X gb gr vn dom va cl css):∀k,va.ownBlock=some k->k≠gb/\k≠gr:=λk hk=>
 ⟨λe=>by subst e;exact um h.row.row hk h.box (by decide),λe=>by subst e;exact um h.row.row hk h.res (by decide)⟩
theorem uD.lt {e:Nat} {w X:World} {gb gr:Nat} {vn dom:Int} {va:Value} {cl:List (List zW)} {css:List (List Value)} (h:uD e w X gb gr vn dom va cl css):∀k,CF va gb gr k->k<X.heap.size:=λk hk=>by
 rcases hk with hk|rfl|rfl
 ·exact(h.row.row.lt k hk).2
 ·exact zw h.box
 exact zw h.res
theorem uD.ge {e:Nat} {w X:World} {gb gr:Nat} {vn dom:Int} {va:Value} {cl:List (List zW)} {css:List (List Value)} (h:uD e w X gb gr vn dom va cl css):∀k,CF va gb gr k->w.heap.size<=k:=λk hk=>by
 have:=h.lo
 rcases hk with hk|rfl|rfl
 ·exact(h.row.row.lt k hk).1
 ·omega
 omega
theorem uD.later {e:Nat} {w X Y:World} {gb gr:Nat} {vn dom:Int} {va:Value} {cl:List (List zW)} {css:List (List Value)} (h:uD e w X gb gr vn dom va cl css) (hb:Below X.heap.size X Y):uD e w Y gb gr vn dom va cl css:=
 ⟨zD h.below hb,(hb.block _ (zw h.box)).trans h.box,(hb.block _ (zw h.res)).trans h.res,h.lo,h.row.step (xO (λ_=>False) hb) (λ_ _ h=>h) (λ_ h=>h.elim) (λ_ hk=> .inl hk)⟩
theorem uD.push {e i ln rc xc:Nat} {w Y X3:World} {gb gr:Nat} {vn dom:Int} {oa ra xa:Option Addr} {oc B:Nat} {cl:List (List zW)} {css zyH:List (List Value)} {t:TypeId} {l:List zW} {o:Obj} (h:uD e w Y gb gr vn dom (.slice oa i oc) cl css) (hi:cl.length=i)
  (hr:wX w B Y (vE e) 12 t (.slice ra ln rc) l zyH) (hB:∀k,CF (.slice oa i oc) gb gr k->k<B) (h1:X3.ownsRow w.heap.size 59 1 (.slice xa (i+1) xc) (i+1) (css.flatten++ [.slice ra ln rc]))
  (hs:Since (λk=>(Value.slice oa i oc).ownBlock=some k) (Y.alloc o) X3) (hloc:∀k,(Value.slice xa (i+1) xc).ownBlock=some k->(Value.slice oa i oc).ownBlock=some k\/k=(Y.alloc o).heap.size):
  X3.heap[gb]? =some (.cells #[.int .i64 vn, .int .i64 dom, .slice oa i oc] 24 (0,0))/\uD e w (X3.setCell ⟨gb,2,none⟩ (.slice xa (i+1) xc)) gb gr vn dom (.slice xa (i+1) xc) (cl++ [l]) (css++ [[.slice ra ln rc]])/\Since (λk=>(Value.slice oa i oc).ownBlock=some k\/k=gb) Y (X3.setCell ⟨gb,2,none⟩ (.slice xa (i+1) xc)):=by
 have hlo:=h.lo
 have hne:=h.own_ne
 have s1:Since (λk=>(Value.slice oa i oc).ownBlock=some k) Y X3:=((Since.refl _ Y).alloc o).trans hs (λk hk=> .inl hk)
 have bq:=(s1.block _ (zw h.box) (λe=>(hne _ e).1 rfl)).trans h.box
 have hres:=(s1.block _ (zw h.res) (λe=>(hne _ e).2 rfl)).trans h.res
 have s2:Since (λk=>k=gb) X3 (X3.setCell ⟨gb,2,none⟩ (.slice xa (i+1) xc)):=Since.setCell (F:=λk=>k=gb) (p:=⟨gb,2,none⟩) (Since.refl _ _) (.inl rfl) _
 have s3:Since (λk=>(Value.slice oa i oc).ownBlock=some k\/k=gb) Y (X3.setCell ⟨gb,2,none⟩ (.slice xa (i+1) xc)):=(s1.mono (λk _ hk=> .inl hk)).trans s2 (λk hk=> .inl (.inr hk))
 have hnew:∀k,(Value.slice xa (i+1) xc).ownBlock=some k->k≠gb:=λk hk e=>by
  rcases hloc k hk with h1|h1
  ·exact(hne k h1).1 e
  have:=zw h.box;simp at h1;omega
 refine⟨bq,⟨h.below.trans (s3.below h.below.size (λk hk=>by rcases hk with hk|hk;exact(h.row.row.lt k hk).1;omega)), ?_, ?_,hlo, ?_⟩,s3⟩
 ·have:=zu bq 2 (.slice xa (i+1) xc);simpa using this
 ·exact(s2.block _ (zw hres) (by omega)).trans hres
 refine h.row.push s3 (λk hk=> ?_) (λk hk=> ?_) (zqt hr h.below h.ge hB) rfl ?_
 ·rcases hk with hk|hk
  ·exact .inl (.inl hk)
  exact .inl (.inr (.inl hk))
 ·rcases hk with hk|hk|hk
  ·rcases hloc k hk with h1|h1
   ·exact .inl (.inl h1)
   exact .inr (by simp at h1;omega)
  ·exact .inl (.inr (.inl hk))
  exact .inl (.inr (.inr hk))
 rw [hi];exact s2.row h1 hnew
def zem (e:Nat) (w:World) (c:zP) (en:Ending) (w':World):Prop:=(∃ta tc css,en= .returned (.tuple #[yH c (.slice ta c.threads.length tc), .int .i64 0])/\yV (λk=>(Value.slice ta c.threads.length tc).ownBlock=some k) w' (xU e) 1 w.heap.size 59 (.slice ta c.threads.length tc) c.threads css)/\Below w.heap.size w w'
theorem zkw {e n tc:Nat} {w X Z:World} {c:zP} {gb gr:Nat} {ta:Option Addr} {css:List (List Value)} (h:uD e w X gb gr c.vars c.domain (.slice ta n tc) c.threads css) (hn:c.threads.length=n) (hs:Since (λk=>k=gr) X Z):
  zem e w c (.returned (.tuple #[.agg #[.int .i64 c.vars, .int .i64 c.domain, .slice ta n tc], .int .i64 0])) Z:=by
 subst hn
 refine⟨⟨ta,tc,css,rfl,h.row.step hs (λk hk e=>(h.own_ne k hk).2 e) (λk hk=> .inl (.inr (.inr hk))) (λk hk=> .inl (.inl hk))⟩,h.below.trans (hs.below h.below.size (λk hk=>by have:=h.lo;omega))⟩
theorem zmP (e d:Nat) (w:World) (p:zbP) (hp:zga p) (vv tv:Value) (h:zd6 e d w p vv tv):Calls Tryz.prog 47 #[zfZ p vv tv] w (zem e w (zcp p)):=by
 have hright:=λy (hy:Below w.heap.size w y)=>zkx e d y p hp vv tv (h.below hy)
 obtain⟨va,vc,rfl, -⟩:=zh.slice h.vars
 obtain⟨ta,tc,rfl, -⟩:=zh.slice h.threads
 have hgood:∀l∈p.threads,(zT l 0).length<=600:=λl hl=>by
  have h1:=(zah p.vars.length p.domain l 20 0 (by omega) (hp.ok l hl)).1
  have h2:=hp.one hl
  omega
 obtain⟨C,hC⟩:∃C,C=zcp p:=⟨_,rfl⟩
 have hC1:C=⟨p.vars.length,p.domain,p.threads.map (λl=>zT l 0)⟩:=hC
 have hm3:=hp.many.2
 have zen:=h.threads
 rw [<-hC]
 unfold zfZ at hright ⊢
 generalize p.domain=dom at hright hC1 ⊢
 generalize p.vars.length=vn at hright hC1 ⊢
 generalize p.threads=T at hright hC1 hgood hm3 zen ⊢
 obtain⟨tn,htn⟩:∃n,n=T.length:=⟨_,rfl⟩
 rw [<-htn] at hright zen hm3 ⊢
 have hct:∀i,i<tn->(C.threads.take (i+1))=C.threads.take i++ [zT (T.getD i []) 0] :=λi hi=>by
  have hi2:i<T.length:=by omega
  rw [hC1,List.take_succ_eq_append_getElem (by simpa using hi2)]
  simp [List.getD_eq_getElem?_getD,List.getElem?_eq_getElem hi2]
 have hcl:C.threads.length=tn:=by rw [hC1,htn];simp
 have hgd:∀i,i<tn->(zT (T.getD i []) 0).length<=600:=λi hi=>hgood _ (vD (by omega))
 have hbl:∀i,i<tn->∀v,yF e d w (T.getD i []) v->∀y,Below w.heap.size w y->Calls Tryz.prog 76 #[v, .int .i64 0] y (bI e w y (zT (T.getD i []) 0)):=λi hi v hv y hy=>
  zqs e d w y hy _ v hv 0 (by omega) (by have:=hgd i hi;omega)
 have hvars:C.vars=vn:=by rw [hC1]
 have hdom:C.domain=dom:=by rw [hC1]
 have hB:=((Below.refl w.heap.size w).alloc (Nat.le_refl _) (.cells #[.slice va vn vc, .int .i64 dom, .slice ta tn tc] 92)).alloc (by simp) (.cells #[.int .i64 0, .int .i64 0, .slice none 0 0] 24)
 have H1:=qh (xQ w (.cells #[.slice va vn vc, .int .i64 dom, .slice ta tn tc] 92) (.cells #[.int .i64 0, .int .i64 0, .slice none 0 0] 24))
 have H2:=qh (xA w (.cells #[.slice va vn vc, .int .i64 dom, .slice ta tn tc] 92) (.cells #[.int .i64 0, .int .i64 0, .slice none 0 0] 24))
 have HB:=qh hB
 have HTN:=qh htn
 have zjd:=qh zen
 have zqu:=qh hright
 have HCT:=qh hct
 have HCL:=qh hcl
 have HGD:=qh hgd
 have vg:=qh hbl
 have zge:=qh hvars
 have zyI:=qh hdom
 clear h hp hright hgood hC hC1 htn zen hct hcl hgd hbl hvars hdom hB
 go_enter Tryz.func47,Tryz.ntmps47
 go_upto_region 1 with fail
 generalize World.alloc (World.alloc w _) _=W at HB H1 H2 ⊢
 obtain⟨gx,hgx⟩:∃gx,gx=w.heap.size:=⟨_,rfl⟩
 rw [<-hgx] at H1 H2 ⊢
 have yS:=qh hgx
 clear hgx
 have c0:=ze H1.out 0
 have c1:=ze H1.out 1
 have c2:=ze H1.out 2
 go_upto_region 3 with(go_at_call 75;go_must(refine(zqu.out W HB.out).mono ?_);rintro en W1 ⟨rfl,hb⟩;(have HB1:=qh (zD HB.out hb));(have K1:=qh ((hb.block _ (zw H1.out)).trans H1.out));(have K2:=qh ((hb.block _ (zw H2.out)).trans H2.out));clear hb c0 c1 c2)
 have c0:=ze K1.out 0
 have c1:=ze K1.out 1
 go_upto_region 4 with fail
 have hL:uD e w (W1.alloc (.cells #[.int .i64 vn, .int .i64 dom, .slice none 0 0] 24)) W1.heap.size (gx+1) vn dom (.slice none 0 0) [] [] :=by
  have hk:=zw K2.out
  exact⟨HB1.out.alloc HB1.out.size _,yj _ _,(Below.heap_alloc _ _ _ hk).trans K2.out,⟨HB1.out.size,by have:=yS.out;omega,by omega⟩,yV.nil _ _ _ _ _ _⟩
 have HK1:=qh ((Below.heap_alloc W1 (.cells #[.int .i64 vn, .int .i64 dom, .slice none 0 0] 24) _ (zw K1.out)).trans K1.out)
 have hlt1:=zw K1.out
 clear c0 c1 K1 K2 H1 H2 HB zqu
 generalize World.alloc W1 _=V at hL HK1 ⊢
 generalize W1.heap.size=gb at hL hlt1 ⊢
 have HL0:=qh hL
 have hgb:gx≠gb:=by omega
 clear hL hlt1 HB1
 go_wp2_with fail
 go_loopg [5] tn (λgg s5 wr=>∃(i:Nat) (oa:Option Addr) (oc:Nat) (css:List (List Value)),i<=tn/\Hid (gg=tn - i)/\s5= .int .i64 i/\Hid (uD e w wr gb (gx+1) vn dom (.slice oa i oc) (C.threads.take i) css)/\Hid (wr.heap[gx]? =some (.cells #[.slice va vn vc, .int .i64 dom, .slice ta tn tc] 92 (0,0))))
 case atStart=>exact⟨0,none,0, [],Nat.zero_le _,rfl,rfl,HL0.out,HK1.out⟩
 case round=>
 obtain⟨i,oa,oc,css,hi,HG,rfl,HL,HK⟩:=hrel
 have c2:=ze HK.out 2
 by_cases hlt:i<tn
 rotate_left
 ·obtain rfl:tn=i:=by omega
  have z0:=ze HL.out.box 0
  have z1:=ze HL.out.box 1
  have z2:=ze HL.out.box 2
  have r0:=ze HL.out.res 0
  have r1:=ze HL.out.res 1
  have r2:=ze HL.out.res 2
  have f0:=zA HL.out.res 0
  have f1:=zA HL.out.res 1
  have f2:=zA HL.out.res 2
  have hall:C.threads.take tn=C.threads:=List.take_of_length_le (by rw [HCL.out];exact Nat.le_refl _)
  have hend:=HL.out
  rw [hall] at hend
  have hset:(yA wr (gx+1) 0 [.int .i64 vn, .int .i64 dom, .slice oa tn oc]).heap[gx+1]? =some (.cells #[.int .i64 vn, .int .i64 dom, .slice oa tn oc] 24 (0,0)):=qW (cs:= [.int .i64 0, .int .i64 0, .slice none 0 0]) _ rfl hend.res
  have zvQ:zem e w C (.returned (.tuple #[.agg #[.int .i64 vn, .int .i64 dom, .slice oa tn oc], .int .i64 0])) (yA wr (gx+1) 0 [.int .i64 vn, .int .i64 dom, .slice oa tn oc]):=by
   have:=zkw (by rw [zge.out,zyI.out];exact hend) HCL.out (xR [.int .i64 vn, .int .i64 dom, .slice oa tn oc] wr 0)
   rw [zge.out,zyI.out] at this
   exact this
  have zG:=qh hset
  have HE:=qh zvQ
  clear hset hend zvQ hall
  go_wp2_with fail
  refine bodyPost_ret (zy rfl _ _ (gx+1) 24 _ (0,0) _ rfl zG.out Tryz.underlying24 rfl zel) rfl ?_
  exact HE.out
 have qx:(i:Int)<(tn:Int):=by omega
 obtain⟨b,off,ka,kc,yg, -,x0,hst⟩:=zfu.part zjd.out i (by rw [<-HTN.out];exact hlt)
 subst yg
 have hbl:=vg.out i hlt _ hst
 have hct:=HCT.out i hlt
 have hgd:=HGD.out i hlt
 have hci:(C.threads.take i).length=i:=by rw [List.length_take,HCL.out];omega
 generalize T.getD i [] =l at x0 hbl hct hgd hst
 have y0:=zi HL.out.below _ _ x0
 generalize l.length=ln at y0 hbl
 generalize zT l 0=bc at hbl hct hgd
 have z2:=ze HL.out.box 2
 have zf:=zA HL.out.box 2
 have hB0:=hbl wr.drew HL.out.below.drew
 have HLD:=qh (HL.out.later (Y:=wr.drew) (Below.refl _ _).drew)
 have HB0:=qh hB0
 have HCI:=qh hci
 have z5o:=qh hct
 have z9P:=qh hgd
 have HLT:=qh (show∀k,CF (.slice oa i oc) gb (gx+1) k->k<wr.drew.heap.size from HL.out.lt)
 clear hst x0 hbl hct hgd hci hB0
 go_upto_region 7 with fail
 go_region_law (first|(refine zK (Y.alloc (.cells #[.slice ra bc.length rc] 59)) (by rfl) (.tmp 24) (.tmp 31) 22 rfl 59 (.slice none 0 0) 1 24 Tryz.underlying22 zmO rfl (by decide) w.heap.size (.slice oa i oc) i (css.flatten) (by simp [Act.eval]) (hrow.alloc _) ⟨Y.heap.size,0,none⟩ 1 1 [.slice ra bc.length rc] (by simp [Act.eval]) rfl (qO Y _ _) (by simp [Value.oneCell']) (by unfold maxLen;omega) (by omega) (by simp;omega) ?_;intro xa xc X3 hx3 z9Q z9R hS3 zvR;have hp:=qZ.push HCI.out hr HLT.out hx3 hS3 zvR;have v2:=ze hp.1 2;have v2f:=zA hp.1 2;simp only [List.getElem?_toArray,List.getElem?_cons_zero,List.getElem?_cons_succ] at v2)|(go_simp;go_at_call 76;refine HB0.out.mono ?_;rintro en Y ⟨⟨ra,rc,zyH,rfl,hr⟩,hb⟩;have qZ:=HLD.out.later hb;have hrow:=qZ.row.row;rw [HCI.out] at hrow;have hYs:=qZ.below.size;have v2b:=ze qZ.box 2;simp only [List.getElem?_toArray,List.getElem?_cons_zero,List.getElem?_cons_succ] at v2b;have v2c:=λo=>(Below.cell ((Below.refl _ _).alloc (Nat.le_refl _) o) (World.block_lt_of_cell? Y _ v2b)).trans v2b))
 all_goals
  have hky:=(hb.block gx (zw (w:=wr) HK.out)).trans HK.out
  have hk4:=(hp.2.2.block gx (zw hky) (λe=>by rcases e with e|e;exact um hrow e hky (by decide);exact hgb e)).trans hky
  have HP:=qh hp.2.1
  have HK4:=qh hk4
  clear hky hk4 hp hr hb qZ hrow hYs v2b hx3 hS3 zvR v2 v2f y0 z2 zf c2
  go_wp2_with fail
  go_roundg (tn - (i+1))
  case measure=>rw [HG.out];omega
  case rel=>exact⟨i+1,xa,xc,_,by omega,rfl,by simp,by rw [Hid,z5o.out];exact HP.out,HK4.out⟩
theorem zhV {α:Type} [Inhabited α] {R:World->α->List Value->Prop} {size g:Nat} {X Z:World} {v:Value} {l:List α} (hsz:4<=size) (hs:Since (λk=>k=g) X Z) (ht:∀j,3<=j->X.cell? ⟨g,j,none⟩=none) (hR:∀x cs,R X x cs->R Z x cs) (h:zh R size X v l):zh R size Z v l:=by
 obtain⟨a,cap,h1,h2,h4⟩:=h
 refine⟨a,cap,h1,h2,λj hj=> ?_⟩
 obtain⟨b,off,cs,h5,h6,h7,h8,h9⟩:=h4 j hj
 have hne:b≠g:=λe=>by
  subst e
  have h:=h8 (size - 1) (by omega)
  rw [ht _ (by omega),List.getElem?_eq_getElem (by omega)] at h
  cases h
 exact⟨b,off,cs,h5,Nat.lt_of_lt_of_le h6 hs.size,h7,λi hi=>(hs.cell (p:=⟨b,off+j*size+i,none⟩) h6 hne).trans (h8 i hi),hR _ _ h9⟩
theorem zjB {d g:Nat} {X Z:World} (hs:Since (λk=>k=g) X Z) (ht:∀j,3<=j->X.cell? ⟨g,j,none⟩=none) {x:zN} {kv:Value} (h:zF d X x kv):zF d Z x kv:=by
 induction d generalizing x kv with
 |zero=>exact h.elim
 |succ d ih=>exact zhV (by omega) hs ht (λy cs ⟨kv',e,h'⟩=>⟨kv',e,ih h'⟩) h
theorem zll {d g:Nat} {X Z:World} (hs:Since (λk=>k=g) X Z) (ht:∀j,3<=j->X.cell? ⟨g,j,none⟩=none) {l:List zW} {cs:List Value} (h:xU d X l cs):xU d Z l cs:=by
 obtain⟨v,rfl,h⟩:=h
 exact⟨v,rfl,zhV (by omega) hs ht (λy cs ⟨ka,kb,e,h1,h2⟩=>⟨ka,kb,e,zjB hs ht h1,zjB hs ht h2⟩) h⟩
theorem zn4 {X:World} {g:Nat} {a b c:Value} {t:TypeId} {f:Nat × Nat} (h:X.heap[g]? =some (.cells #[a,b,c] t f)):∀j,3<=j->X.cell? ⟨g,j,none⟩=none:=λj hj=>by
 rw [ze h];exact Array.getElem?_eq_none (by simpa using hj)
theorem zjC {F:Nat->Prop} {X Z:World} {g d:Nat} {a b c:Value} {t:TypeId} {f:Nat × Nat} {l:List zW} {cs:List Value} (h:zX F X (λy=>xU d y l cs)) (hg:X.heap[g]? =some (.cells #[a,b,c] t f)) (hF:¬F g) (hs:Since (λk=>k=g) X Z):zX F Z (λy=>xU d y l cs):=λy hy=>by
 have hgl:=zw hg
 have hz:=hs.size
 have hyz:=hy.size
 have hy0:({y with heap:=y.heap.setIfInBounds g (.cells #[a,b,c] t f)} :World).heap[g]? =some (.cells #[a,b,c] t f):=by
  simp [Array.getElem?_setIfInBounds_self_of_lt (show g<y.heap.size by omega)]
 have hk:∀k,k≠g->({y with heap:=y.heap.setIfInBounds g (.cells #[a,b,c] t f)} :World).heap[k]? =y.heap[k]? :=λk hne=>by
  simp [Array.getElem?_setIfInBounds_ne (Ne.symm hne)]
 have h0:Since F X ({y with heap:=y.heap.setIfInBounds g (.cells #[a,b,c] t f)} :World):=
  ⟨hy.os.trans hs.os,hy.tape.trans hs.tape,hy.output.trans hs.output,by simp;omega,λk hkl hkF=>by
   by_cases e:k=g
   ·subst e;rw [hy0];exact hg.symm
   rw [hk k e,hy.block k (by omega) hkF,hs.block k hkl e]⟩
 have h1:Since (λk=>k=g) ({y with heap:=y.heap.setIfInBounds g (.cells #[a,b,c] t f)} :World) y:=⟨rfl,rfl,rfl,by simp,λk _ hne=>(hk k hne).symm⟩
 exact zll h1 (zn4 hy0) (h _ h0)
def zn5 (w:World) (en:Ending) (w':World):Prop:=(∃c ta tc css,en= .returned (yH c (.slice ta c.threads.length tc))/\codeOk c=true/\yV (λk=>(Value.slice ta c.threads.length tc).ownBlock=some k) w' (xU 3) 1 w.heap.size 59 (.slice ta c.threads.length tc) c.threads css)/\Below w.heap.size w w'
theorem zt6:∀k∈zfo,1<=k/\k<=11:=by decide
theorem zqv (w:World) (sv:Value) (l:List Int) (hn:jF w .u8 sv l) (kv:Value) (ks:List Int) (hks:xI w kv ks) (hk1:1<=ks.length) (hk2:ks.length<=100) (hk3:∀k∈ks,1<=k/\k<=11):
  Calls Tryz.prog 20 #[sv,kv] w (zn5 w):=by
 have hb1:=(Below.refl w.heap.size w).alloc (Nat.le_refl _) (.cells #[.int .i64 0, .int .i64 0, .slice none 0 0] 24)
 have hg1:=yj w (.cells #[.int .i64 0, .int .i64 0, .slice none 0 0] 24)
 have zeo:=zqe _ sv l (hn.below hb1) kv ks (zh.below uE.stays hks hb1) hk1 hk2 hk3
 obtain⟨sa,sc,rfl, -⟩:∃a c,sv= .slice a l.length c/\True:=by obtain⟨a,c,h, -⟩:=hn;exact⟨a,c,h,trivial⟩
 obtain⟨ka,kc,rfl, -⟩:=zh.slice hks
 generalize l.length=ln at zeo ⊢
 generalize ks.length=kn at zeo ⊢
 have HB1:=qh hb1
 have qy:=qh hg1
 have zep:=qh zeo
 clear hb1 hg1 zeo hn hks hk1 hk2 hk3
 go_enter Tryz.func20,Tryz.ntmps20
 go_upto_region 1 with fail
 generalize World.alloc w _=W at HB1 qy zep ⊢
 obtain⟨gr,hgr⟩:∃gr,gr=w.heap.size:=⟨_,rfl⟩
 rw [<-hgr] at qy ⊢
 have gU:=qh hgr
 clear hgr
 go_upto_region 2 with(first|(go_at_call 47;go_must(refine(zoF.out).mono ?_);rintro en W3 ⟨⟨ta,tc,css,rfl,hrow⟩,hb⟩;(have qQ:=qh hrow);(have HB3:=qh (zD HB2.out hb));(have vW:=qh ((hb.block _ (zw HG2.out)).trans HG2.out));(have HW3:=qh hb.size);clear hrow hb;unfold yH)|(go_at_call 48;go_must(refine(zep.out).mono ?_);rintro en W2 ⟨⟨p,vv,tv,rfl,hp,hpa⟩,hb⟩;(have zoF:=qh (zmP 3 4 W2 p hp vv tv hpa));(have jy:=qh (zoG hp));(have HB2:=qh (HB1.out.trans (hb.mono HB1.out.size)));(have HG2:=qh ((hb.block _ (zw qy.out)).trans qy.out));clear hb hp hpa;generalize zcp p=c at zoF jy;unfold zfZ at zoF ⊢))
 generalize hcv:c.vars=vars
 generalize hcd:c.domain=dom
 generalize hcl:c.threads.length=cn
 have HCV:=qh hcv
 have HCD:=qh hcd
 have HCL:=qh hcl
 clear hcv hcd hcl
 have hb4:=HB3.out.alloc HB3.out.size (.cells #[.int .i64 vars, .int .i64 dom, .slice ta cn tc] 24)
 have hg4:=(Below.heap_alloc W3 (.cells #[.int .i64 vars, .int .i64 dom, .slice ta cn tc] 24) _ (zw vW.out)).trans vW.out
 have bA:=yj W3 (.cells #[.int .i64 vars, .int .i64 dom, .slice ta cn tc] 24)
 have hs4:=(Since.refl (λ_=>False) W3).alloc (.cells #[.int .i64 vars, .int .i64 dom, .slice ta cn tc] 24)
 generalize World.alloc W3 _=X at hb4 hg4 bA hs4 ⊢
 generalize W3.heap.size=gc at bA ⊢
 have s:=xR (g:=gr) [.int .i64 vars, .int .i64 dom, .slice ta cn tc] X 0
 have hset:(yA X gr 0 [.int .i64 vars, .int .i64 dom, .slice ta cn tc]).heap[gr]? =_:=qW (cs:= [.int .i64 0, .int .i64 0, .slice none 0 0]) _ rfl hg4
 have hend:zn5 w (.returned (.agg #[.int .i64 vars, .int .i64 dom, .slice ta cn tc])) (yA X gr 0 [.int .i64 vars, .int .i64 dom, .slice ta cn tc]):=by
  have h1:=qQ.out
  rw [HCL.out] at h1
  have hlt:=HW3.out
  have hge:=HB2.out.size
  refine⟨⟨c,ta,tc,css,by unfold yH;rw [HCV.out,HCD.out,HCL.out],jy.out, ?_⟩,(hb4.trans (s.below hb4.size (λk hk=>by have:=gU.out;omega)))⟩
  rw [HCL.out]
  have h2:yV (λk=>(Value.slice ta cn tc).ownBlock=some k) W3 (xU 3) 1 w.heap.size 59 (.slice ta cn tc) c.threads css:=⟨h1.len,h1.part,zlm h1.row hge⟩
  have hown:∀k,(Value.slice ta cn tc).ownBlock=some k->k≠gr:=λk hk e=>by have:=(h1.row.lt k hk).1;have:=zw HG2.out;omega
  have hgr:¬(Value.slice ta cn tc).ownBlock=some gr:=λe=>hown gr e rfl
  exact⟨h2.len,λj hj=>⟨(h2.part j hj).1,zjC ((h2.part j hj).2.step hs4 (λ_ h=>h.elim) (λk hk=> .inl hk)) hg4 hgr s⟩,s.row (hs4.row h2.row (λ_ _ h=>h)) hown⟩
 have zR:=qh hend
 have zG:=qh hset
 have c0:=ze bA 0
 have c1:=ze bA 1
 have c2:=ze bA 2
 have z0:=ze hg4 0
 have z1:=ze hg4 1
 have z2:=ze hg4 2
 have f0:=zA hg4 0
 have f1:=zA hg4 1
 have f2:=zA hg4 2
 clear hend hset s hg4 bA hs4 hb4
 go_wp2_with fail
 refine bodyPost_ret (xS rfl _ _ gr 24 _ (0,0) _ rfl zG.out Tryz.underlying24 rfl zel) rfl ?_
 exact zR.out
end Go.Proofs.YtliajkheeniljaaGreatDoor
namespace Go.Proofs.YtliajkheeniljaaGreatDoor
open Go.RowKit
set_option maxRecDepth 100000
set_option maxHeartbeats 16000000
theorem zqx {w:World} {k:IntKind} {a:Option Addr} {n cap m:Nat} {l:List Int} (h:jF w k (.slice a n cap) l) (hm:m<=n):jF w k (.slice a m cap) (l.take m):=by
 obtain⟨a',cap',he,h2,h3,h4⟩:=h
 cases he
 have hl:(l.take m).length=m:=by rw [List.length_take];omega
 refine⟨a,cap,by rw [hl],by omega,λx hx=>h3 x (List.mem_of_mem_take hx),λj hj=> ?_⟩
 rw [hl] at hj
 obtain⟨b,off,h5,h6,h7⟩:=h4 j (by omega)
 refine⟨b,off,h5,h6, ?_⟩
 rw [h7]
 simp only [List.getD_eq_getElem?_getD,List.getElem?_take_of_lt hj]
def zbR (vars:Int):List zW:= [⟨2,0,0, .mk 1 1 0 [],default,0⟩,⟨1,0,vars - 1,default,default,0⟩,⟨9,0,0, .mk 2 0 0 [],default,0⟩]
def zbS (vars:Int):List Value:= [.int .i64 2, .int .i64 0, .int .i64 0, .int .i64 1, .int .i64 1, .int .u8 0, .slice none 0 0, .int .i64 0, .int .i64 0, .int .u8 0, .slice none 0 0, .int .i64 0,
 .int .i64 1, .int .i64 0, .int .i64 (vars - 1), .int .i64 0, .int .i64 0, .int .u8 0, .slice none 0 0, .int .i64 0, .int .i64 0, .int .u8 0, .slice none 0 0, .int .i64 0,
 .int .i64 9, .int .i64 0, .int .i64 0, .int .i64 2, .int .i64 0, .int .u8 0, .slice none 0 0, .int .i64 0, .int .i64 0, .int .u8 0, .slice none 0 0, .int .i64 0]
theorem zx2 {vars dom:Int} (h1:1<=vars) (h2:2<=dom):rowOk vars dom (zbR vars)=true:=by
 have a1:qE vars dom 2 0 ⟨2,0,0, .mk 1 1 0 [],default,0⟩=true:=by
  have p1:jY 2 0 vars=true:=by simp [jY,kW];omega
  have p2:wP 2 (.mk 1 1 0 []) dom=true:=zfv (by decide) (zqy (n:=1) (d:=1) (by omega))
  have p3:uV 2 0=true:=by decide
  have p4:uY 2 default dom=true:=by rfl
  simp [qE,qA,p1,p2,p3,p4]
 have a2:qE vars dom 1 0 ⟨1,0,vars - 1,default,default,0⟩=true:=by
  have p1:jY 1 (vars - 1) vars=true:=by simp [jY,kW];omega
  have p2:wP 1 default dom=true:=by rfl
  have p3:uV 1 0=true:=by decide
  have p4:uY 1 default dom=true:=by rfl
  simp [qE,qA,p1,p2,p3,p4]
 have a3:qE vars dom 9 0 ⟨9,0,0, .mk 2 0 0 [],default,0⟩=true:=by
  have p1:jY 9 0 vars=true:=by simp [jY,kW]
  have p2:wP 9 (.mk 2 0 0 []) dom=true:=zfv (by decide) (zqz (n:=0) (d:=1) (by omega))
  have p3:uV 9 0=true:=by decide
  have p4:uY 9 default dom=true:=by rfl
  simp [qE,qA,p1,p2,p3,p4]
 simp [rowOk,zbR,qw,a1,a2,a3]
theorem zx3 {X:World} {g:Nat} {vars:Int} (h:X.heap[g]? =some (.cells (zbS vars).toArray 64 (0,0))):xU 3 X (zbR vars) [.slice (some ⟨g,0,none⟩) 3 3] :=by
 have hn:∀k n o:Int,zF 3 X (.mk k n o []) (.slice none 0 0):=λk n o=>⟨none,0,rfl,by simp [zN.kids],λj hj=>by simp [zN.kids] at hj⟩
 have hd:zF 3 X default (.slice none 0 0):=hn 0 0 0
 refine⟨_,rfl,_,3,rfl,by simp [zbR],λj hj=> ?_⟩
 have hj3:j=0\/j=1\/j=2:=by simp [zbR] at hj;omega
 rcases hj3 with rfl|rfl|rfl
 ·refine⟨g,0,(zbS vars).take 12,rfl,zw h,rfl,λi hi=> ?_, .slice none 0 0, .slice none 0 0,rfl,hn _ _ _,hd⟩
  rw [ze h]
  simp only [Nat.zero_mul,Nat.zero_add,List.getElem?_toArray,List.getElem?_take_of_lt hi]
 ·refine⟨g,0,((zbS vars).drop 12).take 12,rfl,zw h,rfl,λi hi=> ?_, .slice none 0 0, .slice none 0 0,rfl,hd,hd⟩
  rw [ze h]
  simp only [List.getElem?_toArray,List.getElem?_take_of_lt hi,List.getElem?_drop]
 refine⟨g,0,((zbS vars).drop 24).take 12,rfl,zw h,rfl,λi hi=> ?_, .slice none 0 0, .slice none 0 0,rfl,hn _ _ _,hd⟩
 rw [ze h]
 simp only [List.getElem?_toArray,List.getElem?_take_of_lt hi,List.getElem?_drop]
structure uJ (w X:World) (gc gr g:Nat) (vars dom:Int) (n cap:Nat) (cl:List (List zW)):Prop where
 below:Below w.heap.size w X
 box:X.heap[gc]? =some (.cells #[.int .i64 vars, .int .i64 dom, .slice (some ⟨g,0,none⟩) n cap] 24 (0,0))
 res:X.heap[gr]? =some (.cells #[.int .i64 0, .int .i64 0, .slice none 0 0] 24 (0,0))
 lo:w.heap.size<=gc/\w.heap.size<=gr/\w.heap.size<=g/\gc≠gr/\g≠gc/\g≠gr
 row:∃cur:Array Value,X.heap[g]? =some (.cells cur 59 (0,0))/\n<=cur.size/\∀j,j<n->∃a c,cur[j]? =some (.slice a (cl.getD j []).length c)/\zX (λk=>k=g) X (λy=>xU 3 y (cl.getD j []) [.slice a (cl.getD j []).length c])
 len:cl.length=n
 ok:∀j,j<n->rowOk vars dom (cl.getD j [])=true
 room:n<=cap/\cap<=9223372036854775807
section
variable {w X:World} {gc gr g n cap:Nat} {vars dom:Int} {cl:List (List zW)}
theorem uJ.first {Y:World} {tc:Nat} {ta:Option Addr} {css:List (List Value)} (hb:Below w.heap.size w Y) (hc:yV (λk=>(Value.slice ta n tc).ownBlock=some k) Y (xU 3) 1 w.heap.size 59 (.slice ta n tc) cl css) (hn:1<=n) (hl:cl.length=n) (hok:∀j,j<n->rowOk vars dom (cl.getD j [])=true)
  (hr:Y.heap[gr]? =some (.cells #[.int .i64 0, .int .i64 0, .slice none 0 0] 24 (0,0))) (hgr:w.heap.size<=gr):
  ∃g,ta=some ⟨g,0,none⟩/\uJ w (Y.alloc (.cells #[.int .i64 vars, .int .i64 dom, .slice ta n tc] 24)) Y.heap.size gr g vars dom n tc cl:=by
 have hrow:=hc.row.2
 rw [hl] at hrow
 rcases hrow with⟨hv,h0⟩|⟨g,cap2,cur,hv,hg0,hg,h1,h2,h3,h4⟩
 ·omega
 cases hv
 have hgl:=zw hg
 have hrl:=zw hr
 have zhg:g≠gr:=λe=>by subst e;rw [hg] at hr;cases hr
 have s:=(Since.refl (λ_=>False) Y).alloc (.cells #[.int .i64 vars, .int .i64 dom, .slice (some ⟨g,0,none⟩) n tc] 24)
 refine⟨g,rfl,hb.alloc hb.size _,yj _ _,(Below.heap_alloc _ _ _ hrl).trans hr,⟨hb.size,hgr,hg0,by omega,by omega,zhg⟩,⟨cur,(Below.heap_alloc _ _ _ hgl).trans hg,by omega,λj hj=> ?_⟩,hl,hok,⟨h1,by unfold maxLen at h2;omega⟩⟩
 obtain⟨hp1,hp2⟩:=hc.part j (by omega)
 obtain⟨v,hv,hi⟩:=hp2.now
 obtain⟨a,c,rfl, -⟩:=zh.slice hi
 have hcs:css.getD j [] = [.slice a (cl.getD j default).length c] :=hv
 refine⟨a,c, ?_, ?_⟩
 ·have h5:=zbQ (css:=css) (size:=1) (j:=j) (i:=0) (λj hj=>(hc.part j (by rw [<-hc.len];exact hj)).1) (by rw [hc.len];omega) (by omega)
  rw [Nat.mul_one,Nat.add_zero,hcs, <-h4] at h5
  rw [List.getElem?_take_of_lt (by omega)] at h5
  have e:(default:List zW)= [] :=rfl
  rw [e] at h5
  simpa using h5
 have:=hp2.step s (F':=λk=>k=g) (λ_ h=>h.elim) (λk hk=> .inl (by subst hk;rfl))
 rw [hcs] at this
 exact this
theorem uJ.reslice (h:uJ w X gc gr g vars dom n cap cl) {m:Nat} (hm:m<=n):uJ w (X.setCell ⟨gc,2,none⟩ (.slice (some ⟨g,0,none⟩) m cap)) gc gr g vars dom m cap (cl.take m):=by
 have hlo:=h.lo
 have s:Since (λk=>k=gc) X (X.setCell ⟨gc,2,none⟩ (.slice (some ⟨g,0,none⟩) m cap)):=Since.setCell (F:=λk=>k=gc) (p:=⟨gc,2,none⟩) (Since.refl _ _) (.inl rfl) _
 obtain⟨cur,h1,h2,h3⟩:=h.row
 have hget:∀j,j<m->(cl.take m).getD j [] =cl.getD j [] :=λj hj=>by simp only [List.getD_eq_getElem?_getD,List.getElem?_take_of_lt hj]
 refine⟨h.below.trans (s.below h.below.size (λk hk=>by omega)), ?_,(s.block _ (zw h.res) (by omega)).trans h.res,hlo,⟨cur,(s.block _ (zw h1) (by omega)).trans h1,by omega,λj hj=> ?_⟩, ?_,λj hj=> ?_,⟨by have:=h.room;omega,h.room.2⟩⟩
 ·have:=zu h.box 2 (.slice (some ⟨g,0,none⟩) m cap);simpa using this
 ·obtain⟨a,c,h4,h5⟩:=h3 j (by omega)
  rw [hget j hj]
  exact⟨a,c,h4,zjC h5 h.box (by omega) s⟩
 ·rw [List.length_take,h.len];omega
 rw [hget j hj];exact h.ok j (by omega)
theorem uJ.set (h:uJ w X gc gr g vars dom n cap cl) {i:Nat} (hi:i<n) (h1:1<=vars) (h2:2<=dom):
  uJ w ((X.alloc (.cells (zbS vars).toArray 64)).setCell ⟨g,i,none⟩ (.slice (some ⟨X.heap.size,0,none⟩) 3 3)) gc gr g vars dom n cap (cl.set i (zbR vars)):=by
 have hlo:=h.lo
 obtain⟨cur,c1,c2,c3⟩:=h.row
 have hgl:=zw c1
 have s0:=(Since.refl (λ_=>False) X).alloc (.cells (zbS vars).toArray 64)
 have hnew:=yj X (.cells (zbS vars).toArray 64)
 have hg1:=(Below.heap_alloc X (.cells (zbS vars).toArray 64) _ hgl).trans c1
 generalize X.alloc (.cells (zbS vars).toArray 64)=Y at s0 hnew hg1 ⊢
 have s1:Since (λk=>k=g) Y (Y.setCell ⟨g,i,none⟩ (.slice (some ⟨X.heap.size,0,none⟩) 3 3)):=Since.setCell (F:=λk=>k=g) (p:=⟨g,i,none⟩) (Since.refl _ _) (.inl rfl) _
 have s:Since (λk=>k=g) X (Y.setCell ⟨g,i,none⟩ (.slice (some ⟨X.heap.size,0,none⟩) 3 3)):=(s0.mono (λ_ _ h=>h.elim)).trans s1 (λk hk=> .inl hk)
 refine⟨h.below.trans (s.below h.below.size (λk hk=>by omega)),(s.block _ (zw h.box) (by omega)).trans h.box,(s.block _ (zw h.res) (by omega)).trans h.res,hlo,⟨_,zu hg1 i _,by simpa using c2,λj hj=> ?_⟩,by rw [List.length_set];exact h.len,λj hj=> ?_,h.room⟩
 ·by_cases e:j=i
  ·subst e
   have hg:(cl.set j (zbR vars)).getD j [] =zbR vars:=by
    rw [List.getD_eq_getElem?_getD,List.getElem?_set_self (by rw [h.len];exact hj)];rfl
   rw [hg]
   refine⟨some ⟨X.heap.size,0,none⟩,3, ?_,λy hy=> ?_⟩
   ·rw [Array.getElem?_setIfInBounds_self_of_lt (by omega)];rfl
   have hne:X.heap.size≠g:=by omega
   exact zx3 ((hy.block _ (Nat.lt_of_lt_of_le (zw hnew) s1.size) hne).trans ((s1.block _ (zw hnew) hne).trans hnew))
  have hg:(cl.set i (zbR vars)).getD j [] =cl.getD j [] :=by
   rw [List.getD_eq_getElem?_getD,List.getElem?_set_ne (Ne.symm e), <-List.getD_eq_getElem?_getD]
  rw [hg]
  obtain⟨a,c,h4,h5⟩:=c3 j hj
  exact⟨a,c,by rw [Array.getElem?_setIfInBounds_ne (Ne.symm e)];exact h4,h5.step s (λk hk=> .inl hk) (λk hk=> .inl hk)⟩
 by_cases e:j=i
 ·subst e
  rw [List.getD_eq_getElem?_getD,List.getElem?_set_self (by rw [h.len];exact hj)]
  exact zx2 h1 h2
 rw [List.getD_eq_getElem?_getD,List.getElem?_set_ne (Ne.symm e), <-List.getD_eq_getElem?_getD]
 exact h.ok j hj
end
def zln (w:World) (en:Ending) (w':World):Prop:=(∃c tv,en= .returned (yH c tv)/\yO 3 w' tv c.threads/\codeOk c=true/\c.threads.length<=2)/\Below w.heap.size w w'
theorem zmQ {w X:World} {gc gr g n cap:Nat} {vars dom:Int} {cl:List (List zW)} (h:uJ w X gc gr g vars dom n cap cl) (hb:1<=vars/\vars<=4/\2<=dom/\dom<=16) (hn1:1<=n) (hn2:n<=2):
  zln w (.returned (.agg #[.int .i64 vars, .int .i64 dom, .slice (some ⟨g,0,none⟩) n cap])) (yA X gr 0 [.int .i64 vars, .int .i64 dom, .slice (some ⟨g,0,none⟩) n cap])/\
  (yA X gr 0 [.int .i64 vars, .int .i64 dom, .slice (some ⟨g,0,none⟩) n cap]).heap[gr]? =some (.cells #[.int .i64 vars, .int .i64 dom, .slice (some ⟨g,0,none⟩) n cap] 24 (0,0)):=by
 have hlo:=h.lo
 have hl:=h.len
 have s:=xR (g:=gr) [.int .i64 vars, .int .i64 dom, .slice (some ⟨g,0,none⟩) n cap] X 0
 obtain⟨cur,c1,c2,c3⟩:=h.row
 have hg:=(s.block _ (zw c1) (by omega)).trans c1
 refine⟨⟨⟨⟨vars,dom,cl⟩, .slice (some ⟨g,0,none⟩) n cap,rfl,⟨_,cap,by rw [hl],by rw [hl];exact h.room,λj hj=> ?_⟩, ?_,by rw [hl];exact hn2⟩,h.below.trans (s.below h.below.size (λk hk=>by omega))⟩,qW (cs:= [.int .i64 0, .int .i64 0, .slice none 0 0]) _ rfl h.res⟩
 ·obtain⟨a,c,h4,h5⟩:=c3 j (by rw [<-hl];exact hj)
  refine⟨g,0, [.slice a (cl.getD j []).length c],rfl,zw hg,rfl,λi hi=> ?_,zll s (zn4 h.res) h5.now⟩
  obtain rfl:i=0:=by omega
  rw [ze hg]
  simpa using h4
 unfold codeOk
 simp only [Bool.and_eq_true,decide_eq_true_eq,hl]
 exact⟨⟨⟨⟨⟨⟨hb.1,hb.2.1⟩,hb.2.2.1⟩,hb.2.2.2⟩,hn1⟩,by omega⟩,zbT _ [] _ (λj hj=>h.ok j (by rw [<-hl];exact hj))⟩
end Go.Proofs.YtliajkheeniljaaGreatDoor
namespace Go.Proofs.YtliajkheeniljaaGreatDoor
open Go.RowKit
set_option maxRecDepth 100000
set_option maxHeartbeats 16000000
theorem zmR (w:World) (sv:Value) (l:List Int) (hn:jF w .u8 sv l) (hcap:∀a n c,sv= .slice a n c->n<=c):Calls Tryz.prog 27 #[sv] w (zln w):=by
 have hb1:=(Below.refl w.heap.size w).alloc (Nat.le_refl _) (.cells #[.int .i64 0, .int .i64 0, .slice none 0 0] 24)
 have hg1:=yj w (.cells #[.int .i64 0, .int .i64 0, .slice none 0 0] 24)
 obtain⟨sa,sc,rfl, -⟩:∃a c,sv= .slice a l.length c/\True:=by obtain⟨a,c,h, -⟩:=hn;exact⟨a,c,h,trivial⟩
 replace hcap:=hcap _ _ _ rfl
 obtain⟨ln,hln⟩:∃n,n=l.length:=⟨_,rfl⟩
 rw [<-hln] at hn hcap ⊢
 have hn1:=hn.below hb1
 have HN:=qh hn1
 have HB:=qh hb1
 have HG:=qh hg1
 clear hb1 hg1 hn1 hn hln
 go_enter Tryz.func27,Tryz.ntmps27
 go_upto_region 1 with fail
 generalize World.alloc w _=W at HB HG HN ⊢
 obtain⟨gr,hgr⟩:∃gr,gr=w.heap.size:=⟨_,rfl⟩
 rw [<-hgr] at HG ⊢
 have gU:=qh hgr
 clear hgr
 go_upto_if 7 with fail
 go_cut [0] (λs0 w'=>∃(n:Nat) (l':List Int),s0= .slice sa n sc/\w'=W/\Hid (jF W .u8 (.slice sa n sc) l'))
 case first=>
  by_cases h30:30<ln
  ·have z9S:(30:Int)<(ln:Int):=by omega
   have z9T:(30:Int)<=(sc:Int):=by omega
   have hn2:=zqx HN.out (m:=30) (by omega)
   have HN2:=qh hn2
   clear hn2
   go_wp2_with fail
   go_meet
   case rel=>exact⟨30,_,rfl,rfl,HN2.out⟩
  go_wp2_with fail
  go_meet
  case rel=>exact⟨ln,l,rfl,rfl,HN.out⟩
 case rest=>
 obtain⟨n,l',rfl,hwv,HN2⟩:=hcut
 obtain rfl:W=wc:=hwv.symm
 clear HN hcap
 go_upto_region 4 with(first|(go_at_call 20;go_must(refine(HM4.out).mono ?_);rintro en W3 ⟨⟨c,ta,tc,css,rfl,hok,hrow⟩,hb⟩;(have qQ:=qh hrow);(have jy:=qh hok);(have HB3:=qh (zD HB2.out hb));(have HW2:=qh HB2.out.size);(have vW:=qh ((hb.block _ (zw HG2.out)).trans HG2.out));clear hrow hok hb HM4;unfold yH)|(go_at_call 21;go_must(refine(zqd W).mono ?_);rintro en W2 ⟨⟨kv,rfl,hks⟩,hb⟩;(have HM4:=qh (zqv W2 _ l' (HN2.out.below hb) kv zfo hks (by decide) (by decide) zt6));(have HB2:=qh (zD HB.out hb));(have HG2:=qh ((hb.block _ (zw HG.out)).trans HG.out));clear hks hb HN2))
 have hbd:=xV jy.out
 have uT:=qQ.out
 have z5p:c.threads.length<=tc:=by
  obtain⟨a,cap,he,h1, -⟩:=xC uT.row
  cases he;exact h1
 have zyJ:∀j,j<c.threads.length->rowOk c.vars c.domain (c.threads.getD j [])=true:=λj hj=>by
  have h:=jy.out
  unfold codeOk at h
  simp only [Bool.and_eq_true,List.all_eq_true] at h
  exact h.2 _ (vD hj)
 obtain⟨g,rfl,hL⟩:=uJ.first HB3.out ⟨uT.len,uT.part,zlm uT.row HW2.out⟩ hbd.2.2.2.2.1 rfl zyJ vW.out (by have:=gU.out;omega)
 generalize c.vars=vars at hL hbd ⊢
 generalize c.domain=dom at hL hbd ⊢
 generalize c.threads.length=tn at hL hbd z5p ⊢
 obtain⟨v1,v4,d2,d16,t1,t4⟩:=hbd
 generalize World.alloc W3 _=X at hL ⊢
 generalize W3.heap.size=gc at hL ⊢
 have HL:=qh hL
 clear hL uT zyJ qQ jy vW HB3 HW2 HB2 HG2 HB HG
 have c2:X.cell? ⟨gc,2,none⟩=some (.slice (some ⟨g,0,none⟩) tn tc):=ze HL.out.box 2
 have f2:=zA HL.out.box 2
 go_upto_if 16 with fail
 go_cut [16] (λz9U w'=>∃(m:Nat) (cl:List (List zW)),1<=m/\m<=2/\Hid (uJ w w' gc gr g vars dom m tc cl))
 case first=>
  by_cases h2:2<tn
  ·have h2I:(2:Int)<(tn:Int):=by omega
   have h2J:(2:Int)<=(tc:Int):=by omega
   have hre:=HL.out.reslice (m:=2) (by omega)
   have HRE:=qh hre
   clear hre
   go_wp2_with fail
   go_meet
   case rel=>exact⟨2,_,by omega,by omega,HRE.out⟩
  have h2I:decide ((2:Int)<(tn:Int))=false:=by rw [decide_eq_false_iff_not];omega
  go_wp2_with fail
  go_meet
  case rel=>exact⟨tn,_,by omega,by omega,HL.out⟩
 case rest=>
 obtain⟨m,cl0,hm1,hm2,HL2⟩:=hcut
 clear c2 f2 HL
 go_wp2_with fail
 go_loopg [4] m (λgg s4 wr=>∃(i:Nat) (cl:List (List zW)),i<=m/\Hid (gg=m - i)/\s4= .int .i64 i/\Hid (uJ w wr gc gr g vars dom m tc cl))
 case atStart=>exact⟨0,cl0,Nat.zero_le _,rfl,rfl,HL2.out⟩
 case round=>
 obtain⟨i,cl,hi,HGG,rfl,HL⟩:=hrel
 clear HL2
 have c0:wr.cell? ⟨gc,0,none⟩=some (.int .i64 vars):=ze HL.out.box 0
 have c1:wr.cell? ⟨gc,1,none⟩=some (.int .i64 dom):=ze HL.out.box 1
 have c2:wr.cell? ⟨gc,2,none⟩=some (.slice (some ⟨g,0,none⟩) m tc):=ze HL.out.box 2
 by_cases hlt:i<m
 rotate_left
 ·obtain rfl:m=i:=by omega
  obtain⟨hend,hset⟩:=zmQ HL.out ⟨v1,v4,d2,d16⟩ hm1 hm2
  have z0:=ze HL.out.res 0
  have z1:=ze HL.out.res 1
  have z2:=ze HL.out.res 2
  have f0:=zA HL.out.res 0
  have f1:=zA HL.out.res 1
  have f2:=zA HL.out.res 2
  have zR:=qh hend
  have zG:=qh hset
  clear hend hset
  go_wp2_with fail
  refine bodyPost_ret (xS rfl _ _ gr 24 _ (0,0) _ rfl zG.out Tryz.underlying24 rfl zel) rfl ?_
  exact zR.out
 have qx:(i:Int)<(m:Int):=by omega
 obtain⟨cur,r1,r2,r3⟩:=HL.out.row
 obtain⟨a,ac,r4, -⟩:=r3 i hlt
 have x0:wr.cell? ⟨g,i,none⟩=some (.slice a (cl.getD i []).length ac):=by rw [ze r1];exact r4
 have fx:=λo=>zA ((Below.heap_alloc wr o _ (zw r1)).trans r1) i
 have x1:=λo=>(Below.cell ((Below.refl wr.heap.size wr).alloc (Nat.le_refl _) o) (World.block_lt_of_cell? wr _ x0)).trans x0
 generalize (cl.getD i []).length=ln at x0 x1
 have hset:=HL.out.set hlt v1 d2
 have zG:=qh hset
 clear r1 r2 r3 r4 hset
 by_cases h5:5<ln
 ·have h5I:(5:Int)<(ln:Int):=by omega
  go_wp2_with fail
  go_roundg (m - (i+1))
  case measure=>rw [HGG.out];omega
  case rel=>exact⟨i+1,_,by omega,rfl,by simp,zG.out⟩
 have h5I:decide ((5:Int)<(ln:Int))=false:=by rw [decide_eq_false_iff_not];omega
 go_wp2_with fail
 go_roundg (m - (i+1))
 case measure=>rw [HGG.out];omega
 case rel=>exact⟨i+1,_,by omega,rfl,by simp,HL.out⟩
