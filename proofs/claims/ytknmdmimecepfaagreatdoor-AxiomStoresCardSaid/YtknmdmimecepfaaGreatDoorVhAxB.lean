/- Steps. -/
import Derived.Test.YtknmdmimecepfaaGreatDoorVhAxLocal
set_option linter.all false
namespace Go.Proofs.YtknmdmimecepfaaGreatDoor
open Go.RowKit
set_option maxRecDepth 100000
set_option maxHeartbeats 16000000
def cntF (model:Int) (l:List zi) (a:Nat):Nat:=(l.drop a).countP λx=>xK model x.op
theorem cntF_step {model:Int} {l:List zi} {a:Nat} (h:a<l.length):cntF model l a=cntF model l (a+1)+if xK model (l.getD a default).op then 1 else 0:=by
 unfold cntF
 rw [List.drop_eq_getElem_cons h,List.countP_cons]
 have e:l.getD a default=l[a] :=by rw [List.getD_eq_getElem?_getD,List.getElem?_eq_getElem h];rfl
 rw [e]
theorem uY {model:Int} {l:List zi} {a b:Nat} (h:a<=b):cntF model l b<=cntF model l a:=by
 induction h with
 |refl=>exact Nat.le_refl _
 | @step m hm ih=>
 refine Nat.le_trans ?_ ih
 by_cases hl:m<l.length
 ·rw [cntF_step hl];show cntF model l (m+1)<=_;omega
 unfold cntF
 rw [List.drop_eq_nil_of_le (by omega)];simp
theorem zgg {W:za} (h:W.ok) {i:Nat} (hi:i<4) (dom:Int) (d:Nat) (x:zi):((yY dom d x i W).th i).many=(W.th i).many/\((yY dom d x i W).th i).evs=(W.th i).evs:=by
 unfold yY
 split
 ·rw [za.jN (za.qZ h hi _) hi,za.yT h hi];exact⟨rfl,rfl⟩
 split
 ·show((W.setAt i _).th i).many=_/\((W.setAt i _).th i).evs=_
  rw [za.yT h hi];exact⟨rfl,rfl⟩
 split
 ·rw [za.yT h hi];exact⟨rfl,rfl⟩
 rw [za.yT h hi];exact⟨rfl,rfl⟩
structure zkf (model:Int) (l:List zi) (i:Nat) (W W':za):Prop where
 ok:W'.ok
 many:(W'.th i).many=(W.th i).many
 evs:(W'.th i).evs=(W.th i).evs
 more:(W.th i).at_<=(W'.th i).at_
 stop:(W'.th i).at_<l.length->xK model (l.getD (W'.th i).at_ default).op=true
 le:(W.th i).at_<=l.length->(W'.th i).at_<=l.length
theorem jY {model dom:Int} {d:Nat} {l:List zi} (hl:wh l) {i:Nat} (hi:i<4):∀(n:Nat) (W:za),W.ok->l.length<=(W.th i).at_+n->zkf model l i W (zB model dom d l i n W):=by
 intro n
 induction n with
 |zero=>
  intro W h hn
  exact⟨h,rfl,rfl,Nat.le_refl _,λhh=>absurd hh (by show¬(W.th i).at_<l.length;omega),λhh=>hh⟩
 |succ n ih=>
 intro W h hn
 show zkf model l i W (if (W.th i).at_<l.length then _ else _)
 by_cases ha:(W.th i).at_<l.length
 ·rw [if_pos ha]
  by_cases ht:xK model (l.getD (W.th i).at_ default).op=true
  ·rw [if_pos ht];exact⟨h,rfl,rfl,Nat.le_refl _,λ_=>ht,λhh=>hh⟩
  rw [if_neg ht]
  have hm:=zdg h hi hl ha dom d
  have hk:=zgg h hi dom d (l.getD (W.th i).at_ default)
  have:=ih (yY dom d (l.getD (W.th i).at_ default) i W) (zf6 h hi _ _ _) (by omega)
  exact⟨this.ok,this.many.trans hk.1,this.evs.trans hk.2,by have:=this.more;omega,this.stop,λ_=>this.le hm.2⟩
 rw [if_neg ha];exact⟨h,rfl,rfl,Nat.le_refl _,λhh=>absurd hh ha,λhh=>hh⟩
def zO (model dom:Int) (d:Nat) (l:List zi) (i:Nat):Nat->za->za
 |0,W=>zB model dom d l i l.length W
 |n+1,W=>
 if ((zB model dom d l i l.length W).th i).at_<l.length then
  (if (yP dom d ((zB model dom d l i l.length W).th i).regs (l.getD ((zB model dom d l i l.length W).th i).at_ default)).reads then zB model dom d l i l.length W
   else zO model dom d l i n (((zB model dom d l i l.length W).yh i (yP dom d ((zB model dom d l i l.length W).th i).regs (l.getD ((zB model dom d l i l.length W).th i).at_ default))).setAt i (((zB model dom d l i l.length W).th i).at_+1)))
 else zB model dom d l i l.length W
end Go.Proofs.YtknmdmimecepfaaGreatDoor
namespace Go.Proofs.YtknmdmimecepfaaGreatDoor
open Go.RowKit
set_option maxRecDepth 100000
set_option maxHeartbeats 16000000
section
variable {g i:Nat} {l:List zi} {V w:World} {d:Nat} {W':za} {e:Ending} {w':World}
theorem wY.no (h:wY g i l V w d W' e w') (hn:¬(W'.th i).at_<l.length):e= .returned (.tuple #[.agg #[.int .i64 0, .int .i64 0, .int .i64 0, .int .i64 0, .int .i64 0, .int .u8 0, .slice none 0 0, .int .i64 0, .int .i64 0, .int .u8 0, .slice none 0 0, .int .i64 0], .bool false])/\zo w' g W'/\yC g w w':=by
 obtain⟨xv,rfl,h1, -,h3,h4⟩:=h
 rw [h1 hn,decide_eq_false hn]
 exact⟨rfl,h3,h4⟩
theorem wY.yes (h:wY g i l V w d W' e w') (hy:(W'.th i).at_<l.length) {x:zi} (hx:x=l.getD (W'.th i).at_ default):∃aa ac ba bc,e= .returned (.tuple #[.agg #[.int .i64 x.op, .int .i64 x.reg, .int .i64 x.var, .int .i64 x.a.kind, .int .i64 x.a.n, .int .u8 x.a.op, .slice aa x.a.kids.length ac, .int .i64 x.b.kind, .int .i64 x.b.n, .int .u8 x.b.op, .slice ba x.b.kids.length bc, .int .i64 x.dest], .bool true])/\zM d V x.a (.slice aa x.a.kids.length ac)/\zM d V x.b (.slice ba x.b.kids.length bc)/\zo w' g W'/\yC g w w':=by
 obtain⟨xv,rfl, -,h2,h3,h4⟩:=h
 obtain⟨ka,kb,rfl,ha,hb⟩:=h2 hy
 rw [<-hx] at ha hb ⊢
 obtain⟨aa,ac,rfl, -⟩:=ha.slice
 obtain⟨ba,bc,rfl, -⟩:=hb.slice
 rw [decide_eq_true hy]
 exact⟨aa,ac,ba,bc,rfl,ha,hb,h3,h4⟩
end
theorem zbZ (V w:World) (mb:Nat) (c:zl) (cv:Value) (d:Nat) (model:Int) (hC:vE V w mb c cv d model) (h4:c.threads.length<=4) (hd1:1<=c.domain) (hd2:c.domain<=1000)
  (g:Nat) (hg:V.heap.size<=g) (hgm:mb≠g) (W:za) (hW:zo w g W) (i:Nat) (hi:i<c.threads.length) (hl:wh (c.threads.getD i [])) (hlen:(c.threads.getD i []).length<=600) (n:Nat) (hn:(c.threads.getD i []).length<=(W.th i).at_+n)
  (hcnt:(W.th i).many+cntF model (c.threads.getD i []) (W.th i).at_<=8):
  Calls Tryz.prog 24 #[.pointer (some ⟨mb,0,none⟩), .pointer (some ⟨g,0,none⟩), .int .i64 i] w λe w'=>e= .returned (.tuple #[])/\zo w' g (zO model c.domain d (c.threads.getD i []) i n W)/\yC g w w':=by
 have hloc:=λ(X:World) (hX:vE V X mb c cv d model) (Wc:za) (hw:zo X g Wc)=>zbY V X mb c cv d model hX h4 hd1 hd2 g hg hgm Wc hw i hi hl hlen (c.threads.getD i []).length (by omega)
 obtain⟨l,hll⟩:∃l,l=c.threads.getD i [] :=⟨_,rfl⟩
 obtain⟨dom,hdom⟩:∃x,x=c.domain:=⟨_,rfl⟩
 have hdc:∀X,vE V X mb c cv d model->X.cell? ⟨mb,1,none⟩=some (.int .i64 dom):=λX hX=>by rw [hdom];exact hX.dom
 rw [<-hll, <-hdom] at hloc
 rw [<-hll] at hl hlen hn hcnt ⊢
 rw [<-hdom] at hd1 hd2 ⊢
 have hi4:i<4:=by omega
 have hiI:(i:Int)<4:=by omega
 clear hll hdom h4 hi
 have HLOC:=qh hloc
 have HDC:=qh hdc
 have HG:=qh hg
 have HGM:=qh hgm
 have HL:=qh hl
 have HC:=qh hC
 have HW:=qh hW
 have HN:=qh hn
 have zqV:=qh hcnt
 obtain⟨lb,hlb⟩:∃f,f=zB model dom d l i l.length:=⟨_,rfl⟩
 have zhg:∀k Wc,zO model dom d l i (k+1) Wc=if ((lb Wc).th i).at_<l.length then(if (yP dom d ((lb Wc).th i).regs (l.getD ((lb Wc).th i).at_ default)).reads then lb Wc else zO model dom d l i k (((lb Wc).yh i (yP dom d ((lb Wc).th i).regs (l.getD ((lb Wc).th i).at_ default))).setAt i (((lb Wc).th i).at_+1))) else lb Wc:=λk Wc=>by rw [hlb];rfl
 have zlN:∀Wc,zO model dom d l i 0 Wc=lb Wc:=λWc=>by rw [hlb];rfl
 have zf7:=λ(Wc:za) (hok:Wc.ok)=>jY (dom:=dom) (d:=d) (model:=model) hl hi4 l.length Wc hok (by omega)
 have zlO:∀(X:World),vE V X mb c cv d model->∀(Wc:za),zo X g Wc->Calls Tryz.prog 40 #[.pointer (some ⟨mb,0,none⟩), .pointer (some ⟨g,0,none⟩), .int .i64 i] X (wY g i l V X d (lb Wc)):=λX hX Wc hw=>by rw [hlb];exact HLOC.out X hX Wc hw
 rw [<-hlb] at zf7
 have zoh:=qh zhg
 have zpj:=qh zlN
 have zoi:=qh zf7
 have zpk:=qh zlO
 clear hloc hdc hg hgm hl hC hW hn hcnt hlb zhg zlN zf7 zlO HLOC
 have uM:Hid (yC g w w):=Since.refl _ _
 go_enter Tryz.func24,Tryz.ntmps24
 go_wp2_with fail
 go_loopg [] n (λgg wr=>∃Wc:za,Hid (l.length<=(Wc.th i).at_+gg)/\Hid ((Wc.th i).many+cntF model l (Wc.th i).at_<=8)/\Hid (zo wr g Wc)/\Hid (zO model dom d l i n W=zO model dom d l i gg Wc)/\Hid (vE V wr mb c cv d model)/\Hid (yC g w wr))
 case atStart=>exact⟨W,HN.out,zqV.out,HW.out,rfl,HC.out,uM.out⟩
 case round=>
 obtain⟨Wc,HGE,jq,wZ,bI,bC,HOC⟩:=hrel
 obtain⟨wo,rfl⟩:∃wo:World,wo=wr:=⟨_,rfl⟩
 have HF:=qh (zoi.out Wc wZ.out.ok)
 have hcall:=zpk.out wo bC.out Wc wZ.out
 by_cases hend:((lb Wc).th i).at_<l.length
 rotate_left
 ·have pY:Calls Tryz.prog 40 #[.pointer (some ⟨mb,0,none⟩), .pointer (some ⟨g,0,none⟩), .int .i64 i] wo (λe w'=>e= .returned (.tuple #[.agg #[.int .i64 0, .int .i64 0, .int .i64 0, .int .i64 0, .int .i64 0, .int .u8 0, .slice none 0 0, .int .i64 0, .int .i64 0, .int .u8 0, .slice none 0 0, .int .i64 0], .bool false])/\zo w' g (lb Wc)/\yC g wo w'):=hcall.mono λe w' h=>h.no hend
  have hfin:zO model dom d l i n W=lb Wc:=by
   rw [bI.out]
   cases gk with
   |zero=>exact zpj.out Wc
   |succ k=>rw [zoh.out,if_neg hend]
  have zU:=qh hfin
  have uI:=qh pY
  clear hcall pY hend hfin bI
  go_upto_region 2 with(go_at_call 40;go_must(refine uI.out.mono ?_);rintro e X ⟨rfl,hwo,jO⟩;(have HWO:=qh hwo);(have kM:=qh jO);clear hwo jO)
  have HA:=qh (zw X (.cells #[.int .i64 0, .int .i64 0, .int .i64 0, .int .i64 0, .int .i64 0, .int .u8 0, .slice none 0 0, .int .i64 0, .int .i64 0, .int .u8 0, .slice none 0 0, .int .i64 0] 45))
  have vJ:Hid (yC g w (X.alloc (.cells #[.int .i64 0, .int .i64 0, .int .i64 0, .int .i64 0, .int .i64 0, .int .u8 0, .slice none 0 0, .int .i64 0, .int .i64 0, .int .u8 0, .slice none 0 0, .int .i64 0] 45))):=Since.trans HOC.out (Since.trans kM.out (zA (λ_=>False) HA.out) (λ_ h=>h.elim)) (λ_ h=> .inl h)
  have HWE:=qh (HWO.out.later HA.out)
  go_wp2_with fail
  (try simp only [Exit.inBlock,Exit.then]);refine bodyPost_ret (results_none rfl _ _ _) rfl ?_
  exact⟨rfl,by rw [zU.out];exact HWE.out,vJ.out⟩
 obtain⟨x,hx⟩:∃x,x=l.getD ((lb Wc).th i).at_ default:=⟨_,rfl⟩
 have pY:Calls Tryz.prog 40 #[.pointer (some ⟨mb,0,none⟩), .pointer (some ⟨g,0,none⟩), .int .i64 i] wo (λe w'=>∃aa ac ba bc,e= .returned (.tuple #[.agg #[.int .i64 x.op, .int .i64 x.reg, .int .i64 x.var, .int .i64 x.a.kind, .int .i64 x.a.n, .int .u8 x.a.op, .slice aa x.a.kids.length ac, .int .i64 x.b.kind, .int .i64 x.b.n, .int .u8 x.b.op, .slice ba x.b.kids.length bc, .int .i64 x.dest], .bool true])/\zM d V x.a (.slice aa x.a.kids.length ac)/\zM d V x.b (.slice ba x.b.kids.length bc)/\zo w' g (lb Wc)/\yC g wo w'):=hcall.mono λe w' h=>h.yes hend hx
 obtain⟨W1,hW1⟩:∃v,v=lb Wc:=⟨_,rfl⟩
 obtain⟨p,hp⟩:∃p,p=(W1.th i).at_:=⟨_,rfl⟩
 obtain⟨gg,hgg⟩:∃q,gk=q+1:=⟨gk - 1,by have h1:=HF.out.more;have h2:=HGE.out;omega⟩
 obtain⟨E,hE⟩:∃e,e=yP dom d (W1.th i).regs x:=⟨_,rfl⟩
 have hnext:zO model dom d l i n W=if E.reads then W1 else zO model dom d l i gg ((W1.yh i E).setAt i (p+1)):=by
  rw [bI.out,hgg,zoh.out,if_pos hend,hE,hp,hx,hW1]
 rw [<-hW1] at pY hx hend
 rw [<-hp] at hx hend
 have hf:=HF.out
 rw [<-hW1] at hf
 have zpc:p<=600:=by omega
 have ht:=hf.stop (by rw [<-hp];exact hend)
 rw [<-hp] at ht
 have hcp:=cntF_step (model:=model) hend
 rw [if_pos ht] at hcp
 have hcm:=uY (model:=model) (l:=l) hf.more
 rw [<-hp] at hcm
 have zhx:(W1.th i).many<8:=by have h1:=jq.out;have h2:=hf.many;omega
 have zcQ:(W1.th i).many+1+cntF model l (p+1)<=8:=by have h1:=jq.out;have h2:=hf.many;omega
 have zoj:l.length<=p+1+gg:=by have h1:=HGE.out;have h2:=hf.more;rw [<-hp] at h2;omega
 have qp:=qh hf.ok
 have zpl:=qh zcQ
 have zqW:=qh zoj
 have HP:=qh hp
 have zpm:=qh zhx
 have zer:=qh hnext
 have HE:=qh hE
 have HX:=qh hx
 have uI:=qh pY
 have HGG:=qh hgg
 clear hcall pY hW1 hf ht hcp hcm zhx zcQ zoj hp hnext hE hx hend HF bI HGE jq hgg
 go_upto_region 2 with(go_at_call 40;go_must(refine uI.out.mono ?_);rintro e X ⟨aa,ac,ba,bc,rfl,hxa,hxb,hwo,jO⟩;(have HXA:=qh hxa);(have HWO:=qh hwo);(have kM:=qh jO);clear hxa hxb hwo jO)
 have zok:Hid (yC g w X):=Since.trans HOC.out kM.out (λ_ h=> .inl h)
 have HCX:=qh (bC.out.since kM.out (λk hk=>by have hk:k=g:=hk;subst hk;exact HG.out) HGM.out)
 have hof:=λ(Y:World) (hY:Below X.heap.size X Y)=>ze0 Y mb model dom (HDC.out Y (HCX.out.later hY)) hd1 hd2 g W1 (HWO.out.later hY) i hi4 d x _ (.slice ba x.b.kids.length bc) (HXA.out.below (HCX.out.later hY).base)
 rw [<-HE.out] at hof
 unfold qH at hof
 generalize x.op=op at hof ⊢
 generalize x.reg=rg at hof ⊢
 generalize x.var=vr at hof ⊢
 generalize x.a.kind=jl at hof ⊢
 generalize x.a.n=jm at hof ⊢
 generalize x.a.op=jo at hof ⊢
 generalize x.a.kids.length=al at hof ⊢
 generalize x.b.kind=jT at hof ⊢
 generalize x.b.n=jU at hof ⊢
 generalize x.b.op=jV at hof ⊢
 generalize x.b.kids.length=bl at hof ⊢
 generalize x.dest=ds at hof ⊢
 have HOF:=qh hof
 clear hof HX HE HXA
 obtain⟨ev,en,er,ew,ef,ec⟩:=E
 unfold zP.val at HOF
 have hreads:(⟨ev,en,er,ew,ef,ec⟩:zP).reads=er:=rfl
 have bB:Hid (zO model dom d l i n W=if er then W1 else zO model dom d l i gg ((W1.yh i ⟨ev,en,er,ew,ef,ec⟩).setAt i (p+1))):=zer.out
 clear hreads zer
 have HA:=qh (zw X (.cells #[.int .i64 op, .int .i64 rg, .int .i64 vr, .int .i64 jl, .int .i64 jm, .int .u8 jo, .slice aa al ac, .int .i64 jT, .int .i64 jU, .int .u8 jV, .slice ba bl bc, .int .i64 ds] 45))
 have zL:=qh (yG X (.cells #[.int .i64 op, .int .i64 rg, .int .i64 vr, .int .i64 jl, .int .i64 jm, .int .u8 jo, .slice aa al ac, .int .i64 jT, .int .i64 jU, .int .u8 jV, .slice ba bl bc, .int .i64 ds] 45))
 generalize World.alloc X _=Y at HA zL ⊢
 generalize X.heap.size=gx at zL ⊢
 have b0:=ze zL.out 0
 have b1:=ze zL.out 1
 have b2:=ze zL.out 2
 have b3:=ze zL.out 3
 have b4:=ze zL.out 4
 have b5:=ze zL.out 5
 have b6:=ze zL.out 6
 have b7:=ze zL.out 7
 have b8:=ze zL.out 8
 have b9:=ze zL.out 9
 have b10:=ze zL.out 10
 have b11:=ze zL.out 11
 go_upto_region 4 with(go_at_call 41;go_must(refine(HOF.out Y HA.out).mono ?_);rintro e Z ⟨rfl,hb⟩;(have HBZ:=qh (zn HA.out hb));clear hb b0 b1 b2 b3 b4 b5 b6 b7 b8 b9 b10 b11)
 have HA2:=qh (zw Z (.cells #[.int .i64 ev, .int .i64 en, .bool er, .bool ew, .bool ef, .bool ec] 61))
 have kP:=qh (yG Z (.cells #[.int .i64 ev, .int .i64 en, .bool er, .bool ew, .bool ef, .bool ec] 61))
 generalize World.alloc Z _=U at HA2 kP ⊢
 generalize Z.heap.size=ge at kP ⊢
 have wO:=qh (zn HBZ.out HA2.out)
 have HWU:=qh (HWO.out.later wO.out)
 have HCU:=qh (HCX.out.later wO.out)
 have HOU:Hid (yC g w U):=Since.trans zok.out (zA (λ_=>False) wO.out) (λ_ h=>h.elim)
 have e0:=ze kP.out 0
 have e1:=ze kP.out 1
 have e2:=ze kP.out 2
 have e3:=ze kP.out 3
 have e4:=ze kP.out 4
 have e5:=ze kP.out 5
 clear zL HBZ HOF bC HWO kM zok HCX wZ uI
 cases er with
 |true=>
  have zU:=qh bB.out
  go_wp2_with fail
  (try simp only [Exit.inBlock,Exit.then]);refine bodyPost_ret (results_none rfl _ _ _) rfl ?_
  exact⟨rfl,by rw [zU.out];exact HWU.out,HOU.out⟩
 |false=>
 have zct:=qh (zbk U g W1 HWU.out i hi4 zpm.out ⟨ev,en,false,ew,ef,ec⟩)
 go_upto_region 6 with(go_at_call 42;go_must(refine zct.out.mono ?_);rintro e U2 ⟨rfl,hw2,zbl⟩;(have HW2:=qh hw2);(have HO2:=qh zbl);clear hw2 zbl e0 e1 e2 e3 e4 e5)
 have a0:=HW2.out.at0 hi4
 have hpe:=za.wm qp.out hi4 ⟨ev,en,false,ew,ef,ec⟩
 have hat:((W1.yh i ⟨ev,en,false,ew,ef,ec⟩).zD.getD i default).at_=p:=by
  have:((W1.yh i ⟨ev,en,false,ew,ef,ec⟩).th i).at_=(W1.th i).at_:=by rw [hpe]
  exact this.trans HP.out.symm
 rw [hat] at a0
 have f0:=HW2.out.free (i*54)
 have hsm:(.int .i64 ((p:Int)+1):Value)= .int .i64 ((p+1:Nat):Int):=by simp
 have hw3:=HW2.out.setAt hi4 (p+1)
 have hs3:Since (λk=>k=g) U2 (U2.setCell ⟨g,i*54,none⟩ (.int .i64 ((p+1:Nat):Int))):=Since.setCell (F:=λk=>k=g) (p:=⟨g,i*54,none⟩) (Since.refl _ U2) (.inl rfl) _
 rw [<-hsm] at hw3 hs3
 have hset:=za.yT HW2.out.ok hi4 (p+1)
 have hm2:(((W1.yh i ⟨ev,en,false,ew,ef,ec⟩).setAt i (p+1)).th i).many=(W1.th i).many+1:=by rw [hset];show((W1.yh i _).th i).many=_;rw [hpe]
 have hp2:(((W1.yh i ⟨ev,en,false,ew,ef,ec⟩).setAt i (p+1)).th i).at_=p+1:=by rw [hset]
 have HW3:=qh hw3
 have HS3:Hid (yC g U _):=Since.trans HO2.out hs3 (λ_ h=> .inl h)
 have zbt:Hid (l.length<=(((W1.yh i ⟨ev,en,false,ew,ef,ec⟩).setAt i (p+1)).th i).at_+gg/\(((W1.yh i ⟨ev,en,false,ew,ef,ec⟩).setAt i (p+1)).th i).many+cntF model l (((W1.yh i ⟨ev,en,false,ew,ef,ec⟩).setAt i (p+1)).th i).at_<=8):=by
  show _/\_
  rw [hm2,hp2];exact⟨zqW.out,zpl.out⟩
 have zU:=qh bB.out
 clear hat hpe hsm hw3 hs3 hset hm2 hp2
 go_wp2_with fail
 go_roundg gg
 case measure=>have:=HGG.out;omega
 case rel=>exact⟨_,zbt.out.1,zbt.out.2,HW3.out,zU.out,HCU.out.since HS3.out (λk hk=>by have hk:k=g:=hk;subst hk;exact HG.out) HGM.out,Since.trans HOU.out HS3.out (λ_ h=> .inl h)⟩
