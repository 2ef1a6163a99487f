/- Steps. -/
import Derived.Test.YtknmdmimecepfaaGreatDoorVgAxLocal
set_option linter.all false
namespace Go.Proofs.YtknmdmimecepfaaGreatDoor
open Go.RowKit
set_option maxRecDepth 100000
set_option maxHeartbeats 16000000
def cntF (model:Int) (l:List zl) (a:Nat):Nat:=(l.drop a).countP λx=>qK model x.op
theorem cntF_step {model:Int} {l:List zl} {a:Nat} (h:a<l.length):cntF model l a=cntF model l (a+1)+if qK model (l.getD a default).op then 1 else 0:=by
 unfold cntF
 rw [List.drop_eq_getElem_cons h,List.countP_cons]
 have e:l.getD a default=l[a] :=by rw [List.getD_eq_getElem?_getD,List.getElem?_eq_getElem h];rfl
 rw [e]
theorem zad {model:Int} {l:List zl} {a b:Nat} (h:a<=b):cntF model l b<=cntF model l a:=by
 induction h with
 |refl=>exact Nat.le_refl _
 | @step m hm ih=>
 refine Nat.le_trans ?_ ih
 by_cases hl:m<l.length
 ·rw [cntF_step hl];show cntF model l (m+1)<=_;omega
 unfold cntF
 rw [List.drop_eq_nil_of_le (by omega)];simp
theorem zit {W:ze} (h:W.ok) {i:Nat} (hi:i<4) (dom:Int) (d:Nat) (x:zl):((xZ dom d x i W).th i).many=(W.th i).many/\((xZ dom d x i W).th i).evs=(W.th i).evs:=by
 unfold xZ
 split
 ·rw [ze.wh (ze.jH h hi _) hi,ze.qA h hi];exact⟨rfl,rfl⟩
 split
 ·show((W.setAt i _).th i).many=_/\((W.setAt i _).th i).evs=_
  rw [ze.qA h hi];exact⟨rfl,rfl⟩
 split
 ·rw [ze.qA h hi];exact⟨rfl,rfl⟩
 rw [ze.qA h hi];exact⟨rfl,rfl⟩
structure znn (model:Int) (l:List zl) (i:Nat) (W W':ze):Prop where
 ok:W'.ok
 many:(W'.th i).many=(W.th i).many
 evs:(W'.th i).evs=(W.th i).evs
 more:(W.th i).at_<=(W'.th i).at_
 stop:(W'.th i).at_<l.length->qK model (l.getD (W'.th i).at_ default).op=true
 le:(W.th i).at_<=l.length->(W'.th i).at_<=l.length
theorem wI {model dom:Int} {d:Nat} {l:List zl} (hl:uo l) {i:Nat} (hi:i<4):∀(n:Nat) (W:ze),W.ok->l.length<=(W.th i).at_+n->znn model l i W (zN model dom d l i n W):=by
 intro n
 induction n with
 |zero=>
  intro W h hn
  exact⟨h,rfl,rfl,Nat.le_refl _,λhh=>absurd hh (by show¬(W.th i).at_<l.length;omega),λhh=>hh⟩
 |succ n ih=>
 intro W h hn
 show znn model l i W (if (W.th i).at_<l.length then _ else _)
 by_cases ha:(W.th i).at_<l.length
 ·rw [if_pos ha]
  by_cases ht:qK model (l.getD (W.th i).at_ default).op=true
  ·rw [if_pos ht];exact⟨h,rfl,rfl,Nat.le_refl _,λ_=>ht,λhh=>hh⟩
  rw [if_neg ht]
  have hm:=zee h hi hl ha dom d
  have hk:=zit h hi dom d (l.getD (W.th i).at_ default)
  have:=ih (xZ dom d (l.getD (W.th i).at_ default) i W) (zg4 h hi _ _ _) (by omega)
  exact⟨this.ok,this.many.trans hk.1,this.evs.trans hk.2,by have:=this.more;omega,this.stop,λ_=>this.le hm.2⟩
 rw [if_neg ha];exact⟨h,rfl,rfl,Nat.le_refl _,λhh=>absurd hh ha,λhh=>hh⟩
def yT (model dom:Int) (d:Nat) (l:List zl) (i:Nat):Nat->ze->ze
 |0,W=>zN model dom d l i l.length W
 |n+1,W=>
 if ((zN model dom d l i l.length W).th i).at_<l.length then
  (if (xV dom d ((zN model dom d l i l.length W).th i).regs (l.getD ((zN model dom d l i l.length W).th i).at_ default)).reads then zN model dom d l i l.length W
   else yT model dom d l i n (((zN model dom d l i l.length W).yP i (xV dom d ((zN model dom d l i l.length W).th i).regs (l.getD ((zN model dom d l i l.length W).th i).at_ default))).setAt i (((zN model dom d l i l.length W).th i).at_+1)))
 else zN model dom d l i l.length W
end Go.Proofs.YtknmdmimecepfaaGreatDoor
namespace Go.Proofs.YtknmdmimecepfaaGreatDoor
open Go.RowKit
set_option maxRecDepth 100000
set_option maxHeartbeats 16000000
section
variable {g i:Nat} {l:List zl} {V w:World} {d:Nat} {W':ze} {e:Ending} {w':World}
theorem uT.no (h:uT g i l V w d W' e w') (hn:¬(W'.th i).at_<l.length):e= .returned (.tuple #[.agg #[.int .i64 0, .int .i64 0, .int .i64 0, .int .i64 0, .int .i64 0, .int .u8 0, .slice none 0 0, .int .i64 0, .int .i64 0, .int .u8 0, .slice none 0 0, .int .i64 0], .bool false])/\zC w' g W'/\yR g w w':=by
 obtain⟨xv,rfl,h1, -,h3,h4⟩:=h
 rw [h1 hn,decide_eq_false hn]
 exact⟨rfl,h3,h4⟩
theorem uT.yes (h:uT g i l V w d W' e w') (hy:(W'.th i).at_<l.length) {x:zl} (hx:x=l.getD (W'.th i).at_ default):∃aa ac ba bc,e= .returned (.tuple #[.agg #[.int .i64 x.op, .int .i64 x.reg, .int .i64 x.var, .int .i64 x.a.kind, .int .i64 x.a.n, .int .u8 x.a.op, .slice aa x.a.kids.length ac, .int .i64 x.b.kind, .int .i64 x.b.n, .int .u8 x.b.op, .slice ba x.b.kids.length bc, .int .i64 x.dest], .bool true])/\zu d V x.a (.slice aa x.a.kids.length ac)/\zu d V x.b (.slice ba x.b.kids.length bc)/\zC w' g W'/\yR g w w':=by
 obtain⟨xv,rfl, -,h2,h3,h4⟩:=h
 obtain⟨ka,kb,rfl,ha,hb⟩:=h2 hy
 rw [<-hx] at ha hb ⊢
 obtain⟨aa,ac,rfl, -⟩:=ha.slice
 obtain⟨ba,bc,rfl, -⟩:=hb.slice
 rw [decide_eq_true hy]
 exact⟨aa,ac,ba,bc,rfl,ha,hb,h3,h4⟩
end
theorem zda (V w:World) (mb:Nat) (c:zo) (cv:Value) (d:Nat) (model:Int) (hC:j6 V w mb c cv d model) (h4:c.threads.length<=4) (hd1:1<=c.domain) (hd2:c.domain<=1000)
  (g:Nat) (hg:V.heap.size<=g) (hgm:mb≠g) (W:ze) (hW:zC w g W) (i:Nat) (hi:i<c.threads.length) (hl:uo (c.threads.getD i [])) (hlen:(c.threads.getD i []).length<=600) (n:Nat) (hn:(c.threads.getD i []).length<=(W.th i).at_+n)
  (hcnt:(W.th i).many+cntF model (c.threads.getD i []) (W.th i).at_<=8):
  Calls Tryz.prog 24 #[.pointer (some ⟨mb,0,none⟩), .pointer (some ⟨g,0,none⟩), .int .i64 i] w λe w'=>e= .returned (.tuple #[])/\zC w' g (yT model c.domain d (c.threads.getD i []) i n W)/\yR g w w':=by
 have hloc:=λ(X:World) (hX:j6 V X mb c cv d model) (Wc:ze) (hw:zC X g Wc)=>zdb V X mb c cv d model hX h4 hd1 hd2 g hg hgm Wc hw i hi hl hlen (c.threads.getD i []).length (by omega)
 obtain⟨l,hll⟩:∃l,l=c.threads.getD i [] :=⟨_,rfl⟩
 obtain⟨dom,hdom⟩:∃x,x=c.domain:=⟨_,rfl⟩
 have hdc:∀X,j6 V X mb c cv d model->X.cell? ⟨mb,1,none⟩=some (.int .i64 dom):=λX hX=>by rw [hdom];exact hX.dom
 rw [<-hll, <-hdom] at hloc
 rw [<-hll] at hl hlen hn hcnt ⊢
 rw [<-hdom] at hd1 hd2 ⊢
 have hi4:i<4:=by omega
 have hiI:(i:Int)<4:=by omega
 clear hll hdom h4 hi
 have HLOC:=qh hloc
 have HDC:=qh hdc
 have HG:=qh hg
 have HGM:=qh hgm
 have HL:=qh hl
 have HC:=qh hC
 have HW:=qh hW
 have HN:=qh hn
 have zva:=qh hcnt
 obtain⟨lb,hlb⟩:∃f,f=zN model dom d l i l.length:=⟨_,rfl⟩
 have zjB:∀k Wc,yT model dom d l i (k+1) Wc=if ((lb Wc).th i).at_<l.length then(if (xV dom d ((lb Wc).th i).regs (l.getD ((lb Wc).th i).at_ default)).reads then lb Wc else yT model dom d l i k (((lb Wc).yP i (xV dom d ((lb Wc).th i).regs (l.getD ((lb Wc).th i).at_ default))).setAt i (((lb Wc).th i).at_+1))) else lb Wc:=λk Wc=>by rw [hlb];rfl
 have zpl:∀Wc,yT model dom d l i 0 Wc=lb Wc:=λWc=>by rw [hlb];rfl
 have zg6:=λ(Wc:ze) (hok:Wc.ok)=>wI (dom:=dom) (d:=d) (model:=model) hl hi4 l.length Wc hok (by omega)
 have zpm:∀(X:World),j6 V X mb c cv d model->∀(Wc:ze),zC X g Wc->Calls Tryz.prog 40 #[.pointer (some ⟨mb,0,none⟩), .pointer (some ⟨g,0,none⟩), .int .i64 i] X (uT g i l V X d (lb Wc)):=λX hX Wc hw=>by rw [hlb];exact HLOC.out X hX Wc hw
 rw [<-hlb] at zg6
 have zqG:=qh zjB
 have ztp:=qh zpl
 have zqH:=qh zg6
 have ztq:=qh zpm
 clear hloc hdc hg hgm hl hC hW hn hcnt hlb zjB zpl zg6 zpm HLOC
 have bT:Hid (yR g w w):=Since.refl _ _
 go_enter Tryz.func24,Tryz.ntmps24
 go_wp2_with fail
 go_loopg [] n (λgg wr=>∃Wc:ze,Hid (l.length<=(Wc.th i).at_+gg)/\Hid ((Wc.th i).many+cntF model l (Wc.th i).at_<=8)/\Hid (zC wr g Wc)/\Hid (yT model dom d l i n W=yT model dom d l i gg Wc)/\Hid (j6 V wr mb c cv d model)/\Hid (yR g w wr))
 case atStart=>exact⟨W,HN.out,zva.out,HW.out,rfl,HC.out,bT.out⟩
 case round=>
 obtain⟨Wc,bU,jI,uU,HEQ,HCC,HOC⟩:=hrel
 obtain⟨wo,rfl⟩:∃wo:World,wo=wr:=⟨_,rfl⟩
 have HF:=qh (zqH.out Wc uU.out.ok)
 have hcall:=ztq.out wo HCC.out Wc uU.out
 by_cases hend:((lb Wc).th i).at_<l.length
 rotate_left
 ·have zaI:Calls Tryz.prog 40 #[.pointer (some ⟨mb,0,none⟩), .pointer (some ⟨g,0,none⟩), .int .i64 i] wo (λe w'=>e= .returned (.tuple #[.agg #[.int .i64 0, .int .i64 0, .int .i64 0, .int .i64 0, .int .i64 0, .int .u8 0, .slice none 0 0, .int .i64 0, .int .i64 0, .int .u8 0, .slice none 0 0, .int .i64 0], .bool false])/\zC w' g (lb Wc)/\yR g wo w'):=hcall.mono λe w' h=>h.no hend
  have hfin:yT model dom d l i n W=lb Wc:=by
   rw [HEQ.out]
   cases gk with
   |zero=>exact ztp.out Wc
   |succ k=>rw [zqG.out,if_neg hend]
  have zZ:=qh hfin
  have bV:=qh zaI
  clear hcall zaI hend hfin HEQ
  go_upto_region 2 with(go_at_call 40;go_must(refine bV.out.mono ?_);rintro e X ⟨rfl,hwo,wm⟩;(have HWO:=qh hwo);(have gU:=qh wm);clear hwo wm)
  have HA:=qh (zK X (.cells #[.int .i64 0, .int .i64 0, .int .i64 0, .int .i64 0, .int .i64 0, .int .u8 0, .slice none 0 0, .int .i64 0, .int .i64 0, .int .u8 0, .slice none 0 0, .int .i64 0] 45))
  have zS:Hid (yR g w (X.alloc (.cells #[.int .i64 0, .int .i64 0, .int .i64 0, .int .i64 0, .int .i64 0, .int .u8 0, .slice none 0 0, .int .i64 0, .int .i64 0, .int .u8 0, .slice none 0 0, .int .i64 0] 45))):=Since.trans HOC.out (Since.trans gU.out (zH (λ_=>False) HA.out) (λ_ h=>h.elim)) (λ_ h=> .inl h)
  have HWE:=qh (HWO.out.later HA.out)
  go_wp2_with fail
  (try simp only [Exit.inBlock,Exit.then]);refine bodyPost_ret (results_none rfl _ _ _) rfl ?_
  exact⟨rfl,by rw [zZ.out];exact HWE.out,zS.out⟩
 obtain⟨x,hx⟩:∃x,x=l.getD ((lb Wc).th i).at_ default:=⟨_,rfl⟩
 have zaI:Calls Tryz.prog 40 #[.pointer (some ⟨mb,0,none⟩), .pointer (some ⟨g,0,none⟩), .int .i64 i] wo (λe w'=>∃aa ac ba bc,e= .returned (.tuple #[.agg #[.int .i64 x.op, .int .i64 x.reg, .int .i64 x.var, .int .i64 x.a.kind, .int .i64 x.a.n, .int .u8 x.a.op, .slice aa x.a.kids.length ac, .int .i64 x.b.kind, .int .i64 x.b.n, .int .u8 x.b.op, .slice ba x.b.kids.length bc, .int .i64 x.dest], .bool true])/\zu d V x.a (.slice aa x.a.kids.length ac)/\zu d V x.b (.slice ba x.b.kids.length bc)/\zC w' g (lb Wc)/\yR g wo w'):=hcall.mono λe w' h=>h.yes hend hx
 obtain⟨W1,hW1⟩:∃v,v=lb Wc:=⟨_,rfl⟩
 obtain⟨p,hp⟩:∃p,p=(W1.th i).at_:=⟨_,rfl⟩
 obtain⟨gg,hgg⟩:∃q,gk=q+1:=⟨gk - 1,by have h1:=HF.out.more;have h2:=bU.out;omega⟩
 obtain⟨E,hE⟩:∃e,e=xV dom d (W1.th i).regs x:=⟨_,rfl⟩
 have hnext:yT model dom d l i n W=if E.reads then W1 else yT model dom d l i gg ((W1.yP i E).setAt i (p+1)):=by
  rw [HEQ.out,hgg,zqG.out,if_pos hend,hE,hp,hx,hW1]
 rw [<-hW1] at zaI hx hend
 rw [<-hp] at hx hend
 have hf:=HF.out
 rw [<-hW1] at hf
 have ztr:p<=600:=by omega
 have ht:=hf.stop (by rw [<-hp];exact hend)
 rw [<-hp] at ht
 have hcp:=cntF_step (model:=model) hend
 rw [if_pos ht] at hcp
 have hcm:=zad (model:=model) (l:=l) hf.more
 rw [<-hp] at hcm
 have zjC:(W1.th i).many<8:=by have h1:=jI.out;have h2:=hf.many;omega
 have zeg:(W1.th i).many+1+cntF model l (p+1)<=8:=by have h1:=jI.out;have h2:=hf.many;omega
 have zqI:l.length<=p+1+gg:=by have h1:=bU.out;have h2:=hf.more;rw [<-hp] at h2;omega
 have qx:=qh hf.ok
 have zts:=qh zeg
 have zvb:=qh zqI
 have HP:=qh hp
 have ztt:=qh zjC
 have zgt:=qh hnext
 have HE:=qh hE
 have HX:=qh hx
 have bV:=qh zaI
 have uV:=qh hgg
 clear hcall zaI hW1 hf ht hcp hcm zjC zeg zqI hp hnext hE hx hend HF HEQ bU jI hgg
 go_upto_region 2 with(go_at_call 40;go_must(refine bV.out.mono ?_);rintro e X ⟨aa,ac,ba,bc,rfl,hxa,hxb,hwo,wm⟩;(have HXA:=qh hxa);(have HWO:=qh hwo);(have gU:=qh wm);clear hxa hxb hwo wm)
 have zqJ:Hid (yR g w X):=Since.trans HOC.out gU.out (λ_ h=> .inl h)
 have HCX:=qh (HCC.out.since gU.out (λk hk=>by have hk:k=g:=hk;subst hk;exact HG.out) HGM.out)
 have hof:=λ(Y:World) (hY:Below X.heap.size X Y)=>zg7 Y mb model dom (HDC.out Y (HCX.out.later hY)) hd1 hd2 g W1 (HWO.out.later hY) i hi4 d x _ (.slice ba x.b.kids.length bc) (HXA.out.below (HCX.out.later hY).base)
 rw [<-HE.out] at hof
 unfold vS at hof
 generalize x.op=op at hof ⊢
 generalize x.reg=rg at hof ⊢
 generalize x.var=vr at hof ⊢
 generalize x.a.kind=kK at hof ⊢
 generalize x.a.n=kL at hof ⊢
 generalize x.a.op=kM at hof ⊢
 generalize x.a.kids.length=al at hof ⊢
 generalize x.b.kind=wJ at hof ⊢
 generalize x.b.n=wK at hof ⊢
 generalize x.b.op=wL at hof ⊢
 generalize x.b.kids.length=bl at hof ⊢
 generalize x.dest=ds at hof ⊢
 have HOF:=qh hof
 clear hof HX HE HXA
 obtain⟨ev,en,er,ew,ef,ec⟩:=E
 unfold yg.val at HOF
 have hreads:(⟨ev,en,er,ew,ef,ec⟩:yg).reads=er:=rfl
 have jE:Hid (yT model dom d l i n W=if er then W1 else yT model dom d l i gg ((W1.yP i ⟨ev,en,er,ew,ef,ec⟩).setAt i (p+1))):=zgt.out
 clear hreads zgt
 have HA:=qh (zK X (.cells #[.int .i64 op, .int .i64 rg, .int .i64 vr, .int .i64 kK, .int .i64 kL, .int .u8 kM, .slice aa al ac, .int .i64 wJ, .int .i64 wK, .int .u8 wL, .slice ba bl bc, .int .i64 ds] 45))
 have zP:=qh (zT X (.cells #[.int .i64 op, .int .i64 rg, .int .i64 vr, .int .i64 kK, .int .i64 kL, .int .u8 kM, .slice aa al ac, .int .i64 wJ, .int .i64 wK, .int .u8 wL, .slice ba bl bc, .int .i64 ds] 45))
 generalize World.alloc X _=Y at HA zP ⊢
 generalize X.heap.size=gx at zP ⊢
 have b0:=za zP.out 0
 have b1:=za zP.out 1
 have b2:=za zP.out 2
 have b3:=za zP.out 3
 have b4:=za zP.out 4
 have b5:=za zP.out 5
 have b6:=za zP.out 6
 have b7:=za zP.out 7
 have b8:=za zP.out 8
 have b9:=za zP.out 9
 have b10:=za zP.out 10
 have b11:=za zP.out 11
 go_upto_region 4 with(go_at_call 41;go_must(refine(HOF.out Y HA.out).mono ?_);rintro e Z ⟨rfl,hb⟩;(have HBZ:=qh (zm HA.out hb));clear hb b0 b1 b2 b3 b4 b5 b6 b7 b8 b9 b10 b11)
 have HA2:=qh (zK Z (.cells #[.int .i64 ev, .int .i64 en, .bool er, .bool ew, .bool ef, .bool ec] 61))
 have gV:=qh (zT Z (.cells #[.int .i64 ev, .int .i64 en, .bool er, .bool ew, .bool ef, .bool ec] 61))
 generalize World.alloc Z _=U at HA2 gV ⊢
 generalize Z.heap.size=ge at gV ⊢
 have jJ:=qh (zm HBZ.out HA2.out)
 have HWU:=qh (HWO.out.later jJ.out)
 have HCU:=qh (HCX.out.later jJ.out)
 have gW:Hid (yR g w U):=Since.trans zqJ.out (zH (λ_=>False) jJ.out) (λ_ h=>h.elim)
 have e0:=za gV.out 0
 have e1:=za gV.out 1
 have e2:=za gV.out 2
 have e3:=za gV.out 3
 have e4:=za gV.out 4
 have e5:=za gV.out 5
 clear zP HBZ HOF HCC HWO gU zqJ HCX uU bV
 cases er with
 |true=>
  have zZ:=qh jE.out
  go_wp2_with fail
  (try simp only [Exit.inBlock,Exit.then]);refine bodyPost_ret (results_none rfl _ _ _) rfl ?_
  exact⟨rfl,by rw [zZ.out];exact HWU.out,gW.out⟩
 |false=>
 have zdF:=qh (zbR U g W1 HWU.out i hi4 ztt.out ⟨ev,en,false,ew,ef,ec⟩)
 go_upto_region 6 with(go_at_call 42;go_must(refine zdF.out.mono ?_);rintro e U2 ⟨rfl,hw2,zbS⟩;(have HW2:=qh hw2);(have kN:=qh zbS);clear hw2 zbS e0 e1 e2 e3 e4 e5)
 have a0:=HW2.out.at0 hi4
 have hpe:=ze.bQ qx.out hi4 ⟨ev,en,false,ew,ef,ec⟩
 have hat:((W1.yP i ⟨ev,en,false,ew,ef,ec⟩).zO.getD i default).at_=p:=by
  have:((W1.yP i ⟨ev,en,false,ew,ef,ec⟩).th i).at_=(W1.th i).at_:=by rw [hpe]
  exact this.trans HP.out.symm
 rw [hat] at a0
 have f0:=HW2.out.free (i*54)
 have hsm:(.int .i64 ((p:Int)+1):Value)= .int .i64 ((p+1:Nat):Int):=by simp
 have hw3:=HW2.out.setAt hi4 (p+1)
 have hs3:Since (λk=>k=g) U2 (U2.setCell ⟨g,i*54,none⟩ (.int .i64 ((p+1:Nat):Int))):=Since.setCell (F:=λk=>k=g) (p:=⟨g,i*54,none⟩) (Since.refl _ U2) (.inl rfl) _
 rw [<-hsm] at hw3 hs3
 have hset:=ze.qA HW2.out.ok hi4 (p+1)
 have hm2:(((W1.yP i ⟨ev,en,false,ew,ef,ec⟩).setAt i (p+1)).th i).many=(W1.th i).many+1:=by rw [hset];show((W1.yP i _).th i).many=_;rw [hpe]
 have hp2:(((W1.yP i ⟨ev,en,false,ew,ef,ec⟩).setAt i (p+1)).th i).at_=p+1:=by rw [hset]
 have HW3:=qh hw3
 have HS3:Hid (yR g U _):=Since.trans kN.out hs3 (λ_ h=> .inl h)
 have zbT:Hid (l.length<=(((W1.yP i ⟨ev,en,false,ew,ef,ec⟩).setAt i (p+1)).th i).at_+gg/\(((W1.yP i ⟨ev,en,false,ew,ef,ec⟩).setAt i (p+1)).th i).many+cntF model l (((W1.yP i ⟨ev,en,false,ew,ef,ec⟩).setAt i (p+1)).th i).at_<=8):=by
  show _/\_
  rw [hm2,hp2];exact⟨zvb.out,zts.out⟩
 have zZ:=qh jE.out
 clear hat hpe hsm hw3 hs3 hset hm2 hp2
 go_wp2_with fail
 go_roundg gg
 case measure=>have:=uV.out;omega
 case rel=>exact⟨_,zbT.out.1,zbT.out.2,HW3.out,zZ.out,HCU.out.since HS3.out (λk hk=>by have hk:k=g:=hk;subst hk;exact HG.out) HGM.out,Since.trans gW.out HS3.out (λ_ h=> .inl h)⟩
