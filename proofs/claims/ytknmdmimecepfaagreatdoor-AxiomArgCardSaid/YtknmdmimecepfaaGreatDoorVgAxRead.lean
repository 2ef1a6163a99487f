/- Steps. -/
import Derived.Test.YtknmdmimecepfaaGreatDoorVgAxDone
set_option linter.all false
namespace Go.Proofs.YtknmdmimecepfaaGreatDoor
open Go.RowKit
set_option maxRecDepth 100000
set_option maxHeartbeats 16000000
theorem zii {model dom:Int} {d:Nat} {l:List zl} {i:Nat} {W:ze} (h:(W.th i).at_<l.length->qK model (l.getD (W.th i).at_ default).op=true) (n:Nat):zN model dom d l i n W=W:=by
 cases n with
 |zero=>rfl
 |succ n=>
 show(if (W.th i).at_<l.length then _ else _)=_
 by_cases ha:(W.th i).at_<l.length
 ·rw [if_pos ha,if_pos (h ha)]
 rw [if_neg ha]
def vW (dom:Int) (d:Nat) (x:zl) (i:Nat) (W:ze):ze:=
 if x.op=1 then W.zW i x.reg.toNat (vV W (W.th i) x.var.toNat (W.th i).many)
 else if x.op=7 then W.ql x.var.toNat 1
 else if vV W (W.th i) x.var.toNat (W.th i).many=yO (W.th i).regs dom d x.a then((W.zW i x.reg.toNat 0).zW i x.reg.toNat 1).ql x.var.toNat (yO (W.th i).regs dom d x.b)
 else W.zW i x.reg.toNat 0
theorem zoS {W:ze} (h:W.ok) {i:Nat} (hi:i<4) (dom:Int) (d:Nat) (x:zl):(vW dom d x i W).ok:=by
 unfold vW
 split
 ·exact ze.jV h hi _ _
 split
 ·exact ze.zam h _ _
 split
 ·exact ze.zam (ze.jV (ze.jV h hi _ _) hi _ _) _ _
 exact ze.jV h hi _ _
theorem zho {W:ze} (h:W.ok) {i:Nat} (hi:i<4) (dom:Int) (d:Nat) (x:zl):((vW dom d x i W).th i).at_=(W.th i).at_/\((vW dom d x i W).th i).many=(W.th i).many/\((vW dom d x i W).th i).evs=(W.th i).evs:=by
 unfold vW
 split
 ·rw [ze.wh h hi];exact⟨rfl,rfl,rfl⟩
 split
 ·exact⟨rfl,rfl,rfl⟩
 split
 ·show(((W.zW i _ 0).zW i _ 1).th i).at_=_/\(((W.zW i _ 0).zW i _ 1).th i).many=_/\(((W.zW i _ 0).zW i _ 1).th i).evs=_
  rw [ze.wh (ze.jV h hi _ _) hi,ze.wh h hi];exact⟨rfl,rfl,rfl⟩
 rw [ze.wh h hi];exact⟨rfl,rfl,rfl⟩
def qR (model dom:Int) (d:Nat) (l:List zl) (W:ze) (i:Nat):Bool:=
 decide ((W.th i).at_<l.length) && (zc4 model (W.th i) (W.th i).many (xV dom d (W.th i).regs (l.getD (W.th i).at_ default)) &&
  !(decide ((l.getD (W.th i).at_ default).op=7) && !decide (vV W (W.th i) (l.getD (W.th i).at_ default).var.toNat (W.th i).many=0)))
def qU (model dom:Int) (d:Nat) (l:List zl) (W:ze) (i:Nat):ze:=
 yT model dom d l i l.length (((vW dom d (l.getD (W.th i).at_ default) i W).yP i (xV dom d (W.th i).regs (l.getD (W.th i).at_ default)).did).setAt i ((W.th i).at_+1))
def ji (g:Nat) (model dom:Int) (d:Nat) (l:List zl) (W:ze) (i:Nat) (w:World) (e:Ending) (w':World):Prop:=
 e= .returned (.bool (qR model dom d l W i))/\(qR model dom d l W i=true->zC w' g (qU model dom d l W i))/\yR g w w'
theorem ji.no {g:Nat} {model dom:Int} {d:Nat} {l:List zl} {W:ze} {i:Nat} {w w':World} (h:qR model dom d l W i=false) (h2:yR g w w'):ji g model dom d l W i w (.returned (.bool false)) w':=⟨by rw [h],(λe=>by rw [h] at e;cases e),h2⟩
theorem ji.yes {g:Nat} {model dom:Int} {d:Nat} {l:List zl} {W:ze} {i:Nat} {w w':World} (h:qR model dom d l W i=true) (h1:zC w' g (qU model dom d l W i)) (h2:yR g w w'):ji g model dom d l W i w (.returned (.bool true)) w':=⟨by rw [h],λ_=>h1,h2⟩
def Stood (l:List zl) (t:zR):Prop:=t.at_<l.length->(l.getD t.at_ default).op=1\/(l.getD t.at_ default).op=6\/(l.getD t.at_ default).op=7
theorem Stood.touch {l:List zl} {t:zR} (h:Stood l t) (model:Int) (ha:t.at_<l.length):qK model (l.getD t.at_ default).op=true:=by
 rcases h ha with h|h|h<;>rw [h] <;>rfl
theorem zjH (V w:World) (mb:Nat) (c:zo) (cv:Value) (d:Nat) (model:Int) (hC:j6 V w mb c cv d model) (h4:c.threads.length<=4) (hd1:1<=c.domain) (hd2:c.domain<=1000)
  (g:Nat) (hg:V.heap.size<=g) (hgm:mb≠g) (W:ze) (hW:zC w g W) (i:Nat) (hi:i<c.threads.length) (hl:uo (c.threads.getD i [])) (hlen:(c.threads.getD i []).length<=600)
  (hcnt:(W.th i).many+cntF model (c.threads.getD i []) (W.th i).at_<=8) (hst:Stood (c.threads.getD i []) (W.th i)):
  Calls Tryz.prog 45 #[.pointer (some ⟨mb,0,none⟩), .pointer (some ⟨g,0,none⟩), .int .i64 i] w (ji g model c.domain d (c.threads.getD i []) W i w):=by
 have hloc:=zdb V w mb c cv d model hC h4 hd1 hd2 g hg hgm W hW i hi hl hlen (c.threads.getD i []).length (by omega)
 rw [zii (λha=>hst.touch model ha)] at hloc
 have zfd:=λ(X:World) (hX:j6 V X mb c cv d model) (Wc:ze) (hw:zC X g Wc) (hcn:(Wc.th i).many+cntF model (c.threads.getD i []) (Wc.th i).at_<=8)=>zda V X mb c cv d model hX h4 hd1 hd2 g hg hgm Wc hw i hi hl hlen (c.threads.getD i []).length (by omega) hcn
 obtain⟨l,hll⟩:∃l,l=c.threads.getD i [] :=⟨_,rfl⟩
 obtain⟨dom,hdom⟩:∃x,x=c.domain:=⟨_,rfl⟩
 have hdc:∀X,j6 V X mb c cv d model->X.cell? ⟨mb,1,none⟩=some (.int .i64 dom):=λX hX=>by rw [hdom];exact hX.dom
 rw [<-hll, <-hdom] at zfd
 rw [<-hll] at hloc hl hlen hcnt hst ⊢
 rw [<-hdom] at hd1 hd2 ⊢
 have hi4:i<4:=by omega
 have hiI:(i:Int)<4:=by omega
 clear hll hdom h4 hi
 by_cases hend:(W.th i).at_<l.length
 rotate_left
 ·have bV:=qh (hloc.mono λe w' h=>h.no hend)
  have wF:Hid (qR model dom d l W i=false):=by show _=_;unfold qR;rw [decide_eq_false hend];rfl
  clear hloc zfd hdc hl hlen hcnt hst hend hC hW
  go_enter Tryz.func45,Tryz.ntmps45
  go_upto_region 3 with(go_at_call 40;go_must(refine bV.out.mono ?_);rintro e X ⟨rfl,hwo,wm⟩;(have gU:=qh wm);clear hwo wm)
  have zS:Hid (yR g w (X.alloc (.cells #[.int .i64 0, .int .i64 0, .int .i64 0, .int .i64 0, .int .i64 0, .int .u8 0, .slice none 0 0, .int .i64 0, .int .i64 0, .int .u8 0, .slice none 0 0, .int .i64 0] 45))):=Since.trans gU.out (zH (λ_=>False) (zK X _)) (λ_ h=>h.elim)
  go_wp2_with fail
  go_ret
  exact ji.no wF.out zS.out
 obtain⟨x,hx⟩:∃x,x=l.getD (W.th i).at_ default:=⟨_,rfl⟩
 have bV:=qh (hloc.mono λe w' h=>h.yes hend hx)
 have hgood:=hl (W.th i).at_ hend
 have hops:=hst hend
 have ht:=hst.touch model hend
 have hcp:=cntF_step (model:=model) hend
 rw [if_pos ht] at hcp
 have hmr:qR model dom d l W i=(zc4 model (W.th i) (W.th i).many (xV dom d (W.th i).regs x) && !(decide (x.op=7) && !decide (vV W (W.th i) x.var.toNat (W.th i).many=0))):=by unfold qR;rw [decide_eq_true hend, <-hx];rfl
 have hrw:qU model dom d l W i=yT model dom d l i l.length (((vW dom d x i W).yP i (xV dom d (W.th i).regs x).did).setAt i ((W.th i).at_+1)):=by unfold qU;rw [<-hx]
 rw [<-hx] at hgood hops
 have hth:=zho hW.ok hi4 dom d x
 have zoT:=qh (zoS hW.ok hi4 dom d x)
 have zcR:=(ze.xB hW.ok hi4).regs
 have hrm:vW dom d x i W=if x.op=1 then W.zW i x.reg.toNat (vV W (W.th i) x.var.toNat (W.th i).many) else if x.op=7 then W.ql x.var.toNat 1 else if vV W (W.th i) x.var.toNat (W.th i).many=yO (W.th i).regs dom d x.a then((W.zW i x.reg.toNat 0).zW i x.reg.toNat 1).ql x.var.toNat (yO (W.th i).regs dom d x.b) else W.zW i x.reg.toNat 0:=rfl
 obtain⟨M,hM⟩:∃M,M=vW dom d x i W:=⟨_,rfl⟩
 rw [<-hM] at hrw hth hrm zoT
 obtain⟨E,hE⟩:∃E,E=xV dom d (W.th i).regs x:=⟨_,rfl⟩
 have hEr:E.reads=true/\E.come=false:=by rw [hE];unfold xV;rcases hops with h|h|h<;>(rw [h];exact⟨rfl,rfl⟩)
 rw [<-hE] at hmr hrw
 obtain⟨p,hp⟩:∃p,p=(W.th i).at_:=⟨_,rfl⟩
 obtain⟨m,hm⟩:∃m,m=(W.th i).many:=⟨_,rfl⟩
 have bW:m<8:=by rw [hm];omega
 have zeg:m+1+cntF model l (p+1)<=8:=by rw [hm,hp];omega
 have ztr:p<=600:=by omega
 rw [<-hp] at hrw hth
 rw [<-hm] at hmr hth hrm
 obtain⟨n,hn⟩:∃n,n=vV W (W.th i) x.var.toNat m:=⟨_,rfl⟩
 rw [<-hn] at hmr hrm
 have HN:=qh hn
 have HM:=qh hm
 have jI:=qh zeg
 have HTH:=qh hth
 have HC:=qh hC
 have HW:=qh hW
 have HDC:=qh hdc
 have HG:=qh hg
 have HGM:=qh hgm
 have zmR:=qh zfd
 have HRW:=qh hrw
 have HE:=qh hE
 have HER:=qh hEr
 clear hloc zfd hdc hl hlen hcnt hst hend hx ht hcp hrw hth hM hE hEr hp hm zeg hn hC hW hg hgm
 go_enter Tryz.func45,Tryz.ntmps45
 go_upto_region 3 with(go_at_call 40;go_must(refine bV.out.mono ?_);rintro e X ⟨aa,ac,ba,bc,rfl,hxa,hxb,hwo,wm⟩;(have HXA:=qh hxa);(have HXB:=qh hxb);(have vT:=qh hwo);(have gU:=qh wm);clear hxa hxb hwo wm)
 have HCX:=qh (HC.out.since gU.out (λk hk=>by have hk:k=g:=hk;subst hk;exact HG.out) HGM.out)
 have hof:=λ(Y:World) (hY:Below X.heap.size X Y)=>zg7 Y mb model dom (HDC.out Y (HCX.out.later hY)) hd1 hd2 g W (vT.out.later hY) i hi4 d x _ (.slice ba x.b.kids.length bc) (HXA.out.below (HCX.out.later hY).base)
 rw [<-HE.out] at hof
 unfold vS at hof
 have hmay:=λ(Y:World) (hY:Below X.heap.size X Y)=>zgd Y mb model (HCX.out.later hY).mod g W (vT.out.later hY) i hi4 m (by omega) E
 obtain⟨mq,hmq⟩:∃b,b=zc4 model (W.th i) m E:=⟨_,rfl⟩
 rw [<-hmq] at hmay hmr
 clear hmq
 obtain⟨r0,r1,r2,r3,hrs⟩:=zaT zcR
 have hg0:=vT.out.reg hi4 (k:=0) (by omega)
 have hg1:=vT.out.reg hi4 (k:=1) (by omega)
 have hg2:=vT.out.reg hi4 (k:=2) (by omega)
 have hg3:=vT.out.reg hi4 (k:=3) (by omega)
 rw [show(W.zO.getD i default).regs= [r0,r1,r2,r3] from hrs] at hg0 hg1 hg2 hg3
 rw [hrs] at hrm
 simp only [List.getD_cons_zero,List.getD_cons_succ] at hg0 hg1 hg2 hg3
 have zc9:=λ(Y:World) (hY:Below X.heap.size X Y)=>zaq r0 r1 r2 r3 dom hd1 hd2 d Y x.a _ (HXA.out.below (HCX.out.later hY).base)
 have zcA:=λ(Y:World) (hY:Below X.heap.size X Y)=>zaq r0 r1 r2 r3 dom hd1 hd2 d Y x.b _ (HXB.out.below (HCX.out.later hY).base)
 unfold yX at zc9 zcA
 obtain⟨va,hva⟩:∃v,v=yO [r0,r1,r2,r3] dom d x.a:=⟨_,rfl⟩
 obtain⟨vb,hvb⟩:∃v,v=yO [r0,r1,r2,r3] dom d x.b:=⟨_,rfl⟩
 rw [<-hva] at zc9 hrm
 rw [<-hvb] at zcA hrm
 clear hva hvb hrs zcR HXA HXB
 obtain⟨v,hv⟩:∃v:Nat,(v:Int)=x.var:=⟨x.var.toNat,by omega⟩
 obtain⟨rg,hrg⟩:∃v:Nat,(v:Int)=x.reg:=⟨x.reg.toNat,by omega⟩
 obtain⟨op,hop⟩:∃o,o=x.op:=⟨_,rfl⟩
 rw [<-hv] at hof hrm hgood ⊢
 rw [<-hrg] at hof hrm hgood ⊢
 rw [<-hop] at hof hrm hmr hops ⊢
 have hv4:v<4:=by omega
 have za7:rg<4:=by omega
 have hvI:(v:Int)<4:=by omega
 have hv0:(0:Int)<=(v:Int):=by omega
 have zvm:(rg:Int)<4:=by omega
 have hrg0:(0:Int)<=(rg:Int):=by omega
 simp only [Int.toNat_natCast] at hrm
 have htold:=λ(Y:World) (hY:Below X.heap.size X Y)=>zq8 Y g W (vT.out.later hY) i hi4 v hv4
 have hnv:vV W (W.th i) v (W.th i).many=n:=by rw [HN.out, <-HM.out, <-hv];rfl
 rw [hnv] at htold
 generalize x.a.kind=kK at hof zc9 ⊢
 generalize x.a.n=kL at hof zc9 ⊢
 generalize x.a.op=kM at hof zc9 ⊢
 generalize x.a.kids.length=al at hof zc9 ⊢
 generalize x.b.kind=wJ at hof zcA ⊢
 generalize x.b.n=wK at hof zcA ⊢
 generalize x.b.op=wL at hof zcA ⊢
 generalize x.b.kids.length=bl at hof zcA ⊢
 generalize x.dest=ds at hof ⊢
 have HOF:=qh hof
 have zcB:=qh hmay
 have zpS:=qh htold
 have zwi:=qh zc9
 have zwj:=qh zcA
 have gZ:=qh hmr
 have HRM:=qh hrm
 clear hnv hof hmay htold zc9 zcA hmr hrm hgood hv hrg hop HN HE bV
 obtain⟨ev,en,er,ew,ef,ec⟩:=E
 obtain⟨her,xq⟩:er=true/\ec=false:=HER.out
 subst her
 subst xq
 clear HER
 unfold yg.val at HOF zcB
 have HA:=qh (zK X (.cells #[.int .i64 op, .int .i64 (rg:Int), .int .i64 (v:Int), .int .i64 kK, .int .i64 kL, .int .u8 kM, .slice aa al ac, .int .i64 wJ, .int .i64 wK, .int .u8 wL, .slice ba bl bc, .int .i64 ds] 45))
 have zP:=qh (zT X (.cells #[.int .i64 op, .int .i64 (rg:Int), .int .i64 (v:Int), .int .i64 kK, .int .i64 kL, .int .u8 kM, .slice aa al ac, .int .i64 wJ, .int .i64 wK, .int .u8 wL, .slice ba bl bc, .int .i64 ds] 45))
 have vk:Hid (X.heap.size≠g):=by have:=zB vT.out.blk;show X.heap.size≠g;omega
 generalize World.alloc X _=Y at HA zP ⊢
 generalize X.heap.size=gx at zP vk ⊢
 have b0:=za zP.out 0
 have b1:=za zP.out 1
 have b2:=za zP.out 2
 have b3:=za zP.out 3
 have b4:=za zP.out 4
 have b5:=za zP.out 5
 have b6:=za zP.out 6
 have b7:=za zP.out 7
 have b8:=za zP.out 8
 have b9:=za zP.out 9
 have b10:=za zP.out 10
 have b11:=za zP.out 11
 go_upto_region 6 with(go_at_call 41;go_must(refine(HOF.out Y HA.out).mono ?_);rintro e Z ⟨rfl,hb⟩;(have HYZ:=qh hb);clear hb b0 b1 b2 b3 b4 b5 b6 b7 b8 b9 b10 b11)
 have HZ:=qh (zm HA.out HYZ.out)
 have HA2:=qh (zK Z (.cells #[.int .i64 ev, .int .i64 en, .bool true, .bool ew, .bool ef, .bool false] 61))
 have gV:=qh (zT Z (.cells #[.int .i64 ev, .int .i64 en, .bool true, .bool ew, .bool ef, .bool false] 61))
 have bU:Hid (Z.heap.size≠g):=by have:=zB vT.out.blk;have:=HZ.out.size;show Z.heap.size≠g;omega
 generalize World.alloc Z _=U0 at HA2 gV ⊢
 have zij:Hid (w.heap.size<=Z.heap.size):=Nat.le_trans gU.out.size HZ.out.size
 have HVG:Hid (V.heap.size<=Z.heap.size):=Nat.le_trans HC.out.base.size zij.out
 have HMG:Hid (¬mb=Z.heap.size):=by have:=HC.out.lt;have:=zij.out;show¬_;omega
 generalize Z.heap.size=ge at gV bU zij HVG HMG ⊢
 have zoU:=qh (zm HZ.out HA2.out)
 have zkF:=qh (((zm HYZ.out HA2.out).block _ (zB zP.out)).trans zP.out)
 have b2:=za zkF.out 2
 go_upto_region 7 with(go_at_call 67;go_must(refine(zpS.out U0 zoU.out).mono ?_);rintro e U ⟨rfl,hb⟩;(have zkG:=qh hb);clear hb b2)
 have HXU:=qh (zm zoU.out zkG.out)
 have HWU:=qh (vT.out.later HXU.out)
 have HCU:=qh (HCX.out.later HXU.out)
 have HNU:=qh ((zkG.out.block _ (zB zkF.out)).trans zkF.out)
 have HEU:=qh ((zkG.out.block _ (zB gV.out)).trans gV.out)
 have gW:Hid (yR g w U):=Since.trans gU.out (zH (λ_=>False) HXU.out) (λ_ h=>h.elim)
 have um:=HWU.out.many hi4
 rw [show(W.zO.getD i default).many=m from HM.out.symm] at um
 have hmI:(m:Int)<=8:=by omega
 have CC:Hid (∀y,Below U.heap.size U y->(y.cell? ⟨ge,0,none⟩=some (.int .i64 ev)/\y.cell? ⟨ge,1,none⟩=some (.int .i64 en)/\y.cell? ⟨ge,2,none⟩=some (.bool true)/\y.cell? ⟨ge,3,none⟩=some (.bool ew)/\y.cell? ⟨ge,4,none⟩=some (.bool ef)/\y.cell? ⟨ge,5,none⟩=some (.bool false)/\y.cell? ⟨g,i*54+53,none⟩=some (.int .i64 (m:Int))/\y.cell? ⟨gx,0,none⟩=some (.int .i64 op))):=λy hy=>
  ⟨zi hy _ _ (za HEU.out 0),zi hy _ _ (za HEU.out 1),zi hy _ _ (za HEU.out 2),zi hy _ _ (za HEU.out 3),zi hy _ _ (za HEU.out 4),zi hy _ _ (za HEU.out 5),zi hy _ _ um,zi hy _ _ (za HNU.out 0)⟩
 clear um HOF zpS zkF zkG HA zP HA2 gV HYZ HZ zoU
 cases mq with
 |false=>
  have wF:Hid (qR model dom d l W i=false):=gZ.out.trans rfl
  refine kP (S:=λx=>Below U.heap.size U x) ((Below.refl _ _).drew) (λh7a=> ?_)
  refine zk 0 CC.out ?_
  refine zk 1 CC.out ?_
  refine zk 2 CC.out ?_
  refine zk 3 CC.out ?_
  refine zk 4 CC.out ?_
  refine zk 5 CC.out ?_
  refine zk 6 CC.out ?_
  refine zk 7 CC.out ?_
  refine zk 8 CC.out ?_
  refine zk 9 CC.out ?_
  refine zk 10 CC.out ?_
  refine yZ 11 rfl (λK hK=> ?_)
  go_simp
  refine(zcB.out U.drew (zm HXU.out h7a)).mono ?_
  rintro e zsB ⟨rfl,hb⟩
  have zmU:Below U.heap.size U zsB:=zm h7a hb
  refine hK.out _ _ zmU (λ_=> ?_)
  clear hK K hb h7a
  refine zk 12 CC.out ?_
  refine zk 13 CC.out ?_
  refine zk 14 CC.out ?_
  refine uh 15 (by assumption) ?_
  refine uh 16 (by assumption) ?_
  refine uh 17 (by assumption) ?_
  refine uh 18 (by assumption) ?_
  refine uh 19 (by assumption) ?_
  refine uh 20 (by assumption) ?_
  refine uh 21 (by assumption) ?_
  refine zk 22 CC.out ?_
  refine vE ?_
  have HOE:Hid (yR g w zsB):=Since.trans gW.out (zH (λ_=>False) zmU) (λ_ h=>h.elim)
  go_wp2_with fail
  go_ret
  exact ji.no wF.out HOE.out
 |true=>
 by_cases hlk:op=7/\¬n=0
 ·obtain⟨rfl,hn0⟩:=hlk
  have wF:Hid (qR model dom d l W i=false):=gZ.out.trans (by simp [hn0])
  have hnb:((n:Int) !=0)=true:=by simpa using hn0
  clear hn0
  refine kP (S:=λx=>Below U.heap.size U x) ((Below.refl _ _).drew) (λh7b=> ?_)
  refine zk 0 CC.out ?_
  refine zk 1 CC.out ?_
  refine zk 2 CC.out ?_
  refine zk 3 CC.out ?_
  refine zk 4 CC.out ?_
  refine zk 5 CC.out ?_
  refine zk 6 CC.out ?_
  refine zk 7 CC.out ?_
  refine zk 8 CC.out ?_
  refine zk 9 CC.out ?_
  refine zk 10 CC.out ?_
  refine yZ 11 rfl (λK hK=> ?_)
  go_simp
  refine(zcB.out U.drew (zm HXU.out h7b)).mono ?_
  rintro e zhk ⟨rfl,hb⟩
  have zmV:Below U.heap.size U zhk:=zm h7b hb
  refine hK.out _ _ zmV (λ_=> ?_)
  clear hK K hb h7b
  refine zk 12 CC.out ?_
  refine zk 13 CC.out ?_
  refine zk 14 CC.out ?_
  refine zk 15 CC.out ?_
  refine zk 16 CC.out ?_
  refine zk 17 CC.out ?_
  refine zk 18 CC.out ?_
  refine zk 19 CC.out ?_
  refine zk 20 CC.out ?_
  refine zk 21 CC.out ?_
  refine zk 22 CC.out ?_
  refine vE ?_
  have HOE:Hid (yR g w zhk):=Since.trans gW.out (zH (λ_=>False) zmV) (λ_ h=>h.elim)
  go_wp2_with fail
  go_ret
  exact ji.no wF.out HOE.out
 have zeb:Hid (qR model dom d l W i=true):=gZ.out.trans (by
  by_cases h7:op=7
  ·have:n=0:=by by_cases h0:n=0;exact h0;exact absurd ⟨h7,h0⟩ hlk
   simp [this]
  simp [h7])
 have ztA:∃q,(if op=7 then((n:Int) !=0) else false)=q:=⟨_,rfl⟩
 clear ztA
 by_cases h7:op=7
 ·subst h7
  obtain rfl:n=0:=by by_cases h0:n=0;exact h0;exact absurd ⟨rfl,h0⟩ hlk
  clear hlk gZ hops
  refine kP (S:=λx=>Below U.heap.size U x) ((Below.refl _ _).drew) (λh7c=> ?_)
  refine zk 0 CC.out ?_
  refine zk 1 CC.out ?_
  refine zk 2 CC.out ?_
  refine zk 3 CC.out ?_
  refine zk 4 CC.out ?_
  refine zk 5 CC.out ?_
  refine zk 6 CC.out ?_
  refine zk 7 CC.out ?_
  refine zk 8 CC.out ?_
  refine zk 9 CC.out ?_
  refine zk 10 CC.out ?_
  refine yZ 11 rfl (λK hK=> ?_)
  go_simp
  refine(zcB.out U.drew (zm HXU.out h7c)).mono ?_
  rintro e zsD ⟨rfl,hb⟩
  have zfe:Below U.heap.size U zsD:=zm h7c hb
  refine hK.out _ _ zfe (λ_=> ?_)
  clear hK K hb h7c
  refine zk 12 CC.out ?_
  refine zk 13 CC.out ?_
  refine zk 14 CC.out ?_
  refine zk 15 CC.out ?_
  refine zk 16 CC.out ?_
  refine zk 17 CC.out ?_
  refine zk 18 CC.out ?_
  refine zk 19 CC.out ?_
  refine zk 20 CC.out ?_
  refine zk 21 CC.out ?_
  refine zk 22 CC.out ?_
  refine vE ?_
  go_upto_block 0 with fail
  obtain⟨U2,hU2⟩:∃y,y=zsD:=⟨_,rfl⟩
  rw [<-hU2] at zfe ⊢
  have HU2:=qh zfe
  clear hU2 zfe CC
  go_cut [] (λw'=>Hid (zC w' g M)/\Hid (Since (λk=>k=g) U2 w'))
  case first=>
   have HMV:Hid (M=W.ql v 1):=by show M=_;rw [HRM.out,if_neg (by omega),if_pos rfl]
   have HW2:=qh (HWU.out.later HU2.out)
   have HB2:=qh ((HU2.out.block _ (zB HNU.out)).trans HNU.out)
   have C2:Hid (∀y,Below U2.heap.size U2 y->y.cell? ⟨gx,2,none⟩=some (.int .i64 (v:Int))):=λy hy=>zi hy _ _ (za HB2.out 2)
   have u0:=za HB2.out 0
   go_upto_region 16 with fail
   clear u0
   refine wp_region_noPanic ?_
   refine xD (n0:=6) (S:=λx=>Below U2.heap.size U2 x) (by kernel_rfl) ((Below.refl _ _).drew) (λzec=> ?_)
   refine yC 0 (λ_=>zec) ?_
   refine yC 1 (λ_=>zec) ?_
   refine wZ [5,6] 2 C2.out zec ?_
   refine yC 3 (λ_=>zec) ?_
   refine yC 4 (λ_=>zec) ?_
   refine yC 5 (λ_=>zec) ?_
   refine gy 6 rfl (λK hK=> ?_)
   have gD:=HW2.out.later zec
   have p0:=gD.mem hv4
   have p1:=gD.free (216+v)
   clear gD
   go_simp
   refine hK.out _ _ (λh=>absurd rfl h) ?_
   clear hK K
   refine qI (by kernel_rfl) ?_ _
   refine NoPanic.normal ?_
   clear p0 p1
   have hwf:=(HW2.out.later (Below.refl _ _).drew).ql hv4 1
   rw [<-HMV.out] at hwf
   have HWF:=qh hwf
   have HSF:Hid (Since (λk=>k=g) U2 (U2.drew.setCell ⟨g,216+v,none⟩ (.int .i64 1))):=Since.setCell (F:=λk=>k=g) (p:=⟨g,216+v,none⟩) (Since.drew _ (Since.refl _ U2)) (.inl rfl) _
   clear hwf
   go_wp2_with fail
   go_meet
   case rel=>exact⟨HWF.out,HSF.out⟩
  case rest=>
  obtain⟨HWM,HS⟩:=hcut
  obtain⟨R,rfl⟩:∃Y:World,Y=wc:=⟨_,rfl⟩
  have HSU:Hid (Since (λk=>k=g) U R):=Since.trans (zH _ HU2.out) HS.out (λ_ h=> .inl h)
  have HER:=qh ((HSU.out.block _ (zB HEU.out) bU.out).trans HEU.out)
  have gQ:=qh (HCU.out.since HSU.out (λk hk=>by have hk:k=g:=hk;subst hk;exact HG.out) HGM.out)
  have HOR:Hid (yR g w R):=Since.trans gW.out HSU.out (λ_ h=> .inl h)
  have k5:=za HER.out 5
  have f5:=zF HER.out 5
  go_upto_region 18 with fail
  have hne:=zw HER.out 5 (.bool true)
  have hse:Since (λk=>k=ge) R (R.setCell ⟨ge,5,none⟩ (.bool true)):=Since.setCell (F:=λk=>k=ge) (p:=⟨ge,5,none⟩) (Since.refl _ R) (.inl rfl) _
  have HCG:Hid (Below V.heap.size V (R.setCell ⟨ge,5,none⟩ (.bool true))):=gQ.out.base.setCell (p:=⟨ge,5,none⟩) HVG.out _
  generalize World.setCell R _ _=R2 at hne hse HCG ⊢
  have uJ:Hid (R2.heap[ge]? =some (.cells #[.int .i64 ev, .int .i64 en, .bool true, .bool ew, .bool ef, .bool true] 61 (0,0))):=by show _=_;simpa using hne
  have zoV:=qh (HWM.out.since hse (λe=>bU.out e.symm))
  have zim:j6 V R2 mb c cv d model:=⟨HCG.out,gQ.out.code,(hse.cell (p:=⟨mb,1,none⟩) gQ.out.lt HMG.out).trans gQ.out.dom,(hse.cell (p:=⟨mb,2,none⟩) gQ.out.lt HMG.out).trans gQ.out.rows,(hse.cell (p:=⟨mb,3,none⟩) gQ.out.lt HMG.out).trans gQ.out.mod,Nat.lt_of_lt_of_le gQ.out.lt hse.size⟩
  have zoW:=qh zim
  have zoX:Hid (yR g w R2):=Since.trans HOR.out hse (λk hk=> .inr (by have hk:k=ge:=hk;have:=zij.out;omega))
  clear hne hse HCG zim k5 f5
  have k0:=za uJ.out 0
  have k1:=za uJ.out 1
  have k2:=za uJ.out 2
  have k3:=za uJ.out 3
  have k4:=za uJ.out 4
  have k5:=za uJ.out 5
  have zdF:=qh (zbR R2 g M zoV.out i hi4 (by have h1:=HTH.out.2.1;omega) ⟨ev,en,true,ew,ef,true⟩)
  go_upto_region 19 with(go_at_call 42;go_must(refine zdF.out.mono ?_);rintro e R3 ⟨rfl,hw2,zbS⟩;(have HW3:=qh hw2);(have HO3:=qh zbS);clear hw2 zbS k0 k1 k2 k3 k4 k5)
  have a0:=HW3.out.at0 hi4
  have hpe:=ze.bQ zoT.out hi4 ⟨ev,en,true,ew,ef,true⟩
  have hat:((M.yP i ⟨ev,en,true,ew,ef,true⟩).zO.getD i default).at_=p:=by
   have:((M.yP i ⟨ev,en,true,ew,ef,true⟩).th i).at_=(M.th i).at_:=by rw [hpe]
   exact this.trans HTH.out.1
  rw [hat] at a0
  have f0:=HW3.out.free (i*54)
  have hsm:(.int .i64 ((p:Int)+1):Value)= .int .i64 ((p+1:Nat):Int):=by simp
  have hw4:=HW3.out.setAt hi4 (p+1)
  have hs4:Since (λk=>k=g) R3 (R3.setCell ⟨g,i*54,none⟩ (.int .i64 ((p+1:Nat):Int))):=Since.setCell (F:=λk=>k=g) (p:=⟨g,i*54,none⟩) (Since.refl _ R3) (.inl rfl) _
  rw [<-hsm] at hw4 hs4
  have hset:=ze.qA HW3.out.ok hi4 (p+1)
  have hm2:(((M.yP i ⟨ev,en,true,ew,ef,true⟩).setAt i (p+1)).th i).many=m+1:=by rw [hset];show((M.yP i _).th i).many=_;rw [hpe,HTH.out.2.1]
  have hp2:(((M.yP i ⟨ev,en,true,ew,ef,true⟩).setAt i (p+1)).th i).at_=p+1:=by rw [hset]
  have zoY:Hid ((((M.yP i ⟨ev,en,true,ew,ef,true⟩).setAt i (p+1)).th i).many+cntF model l (((M.yP i ⟨ev,en,true,ew,ef,true⟩).setAt i (p+1)).th i).at_<=8):=by
   show _<=8
   rw [hm2,hp2];exact jI.out
  clear hat hpe hsm hset hm2 hp2
  go_upto_region 20 with fail
  generalize World.setCell R3 _ _=R4 at hw4 hs4 ⊢
  have vL:=qh hw4
  have HO4:Hid (Since (λk=>k=g) R2 R4):=Since.trans HO3.out hs4 (λ_ h=> .inl h)
  have HC4:=qh (zoW.out.since HO4.out (λk hk=>by have hk:k=g:=hk;subst hk;exact HG.out) HGM.out)
  have zoZ:Hid (yR g w R4):=Since.trans zoX.out HO4.out (λ_ h=> .inl h)
  clear hw4 hs4 a0 f0
  go_wp2_with(go_at_call 24;go_must(refine(zmR.out R4 HC4.out _ vL.out zoY.out).mono ?_);rintro e R5 ⟨rfl,hw5,zin⟩;(have HW5:=qh hw5);(have HO5:=qh zin);clear hw5 zin)
  go_ret
  exact ji.yes zeb.out (by rw [HRW.out];exact HW5.out) (Since.trans zoZ.out HO5.out (λ_ h=> .inl h))
 have h7b:((op:Int)==7)=false:=by simpa using h7
 clear hlk gZ
 refine kP (S:=λx=>Below U.heap.size U x) ((Below.refl _ _).drew) (λh7e=> ?_)
 refine zk 0 CC.out ?_
 refine zk 1 CC.out ?_
 refine zk 2 CC.out ?_
 refine zk 3 CC.out ?_
 refine zk 4 CC.out ?_
 refine zk 5 CC.out ?_
 refine zk 6 CC.out ?_
 refine zk 7 CC.out ?_
 refine zk 8 CC.out ?_
 refine zk 9 CC.out ?_
 refine zk 10 CC.out ?_
 refine yZ 11 rfl (λK hK=> ?_)
 go_simp
 refine(zcB.out U.drew (zm HXU.out h7e)).mono ?_
 rintro e zsH ⟨rfl,hb⟩
 have zfg:Below U.heap.size U zsH:=zm h7e hb
 refine hK.out _ _ zfg (λ_=> ?_)
 clear hK K hb h7e
 refine zk 12 CC.out ?_
 refine zk 13 CC.out ?_
 refine zk 14 CC.out ?_
 refine zk 15 CC.out ?_
 refine zk 16 CC.out ?_
 refine zk 17 CC.out ?_
 refine zk 18 CC.out ?_
 refine uh 19 (by assumption) ?_
 refine uh 20 (by assumption) ?_
 refine zk 21 CC.out ?_
 refine zk 22 CC.out ?_
 refine vE ?_
 go_upto_block 0 with fail
 obtain⟨U2,hU2⟩:∃y,y=zsH:=⟨_,rfl⟩
 rw [<-hU2] at zfg ⊢
 have HU2:=qh zfg
 clear hU2 zfg CC
 go_cut [] (λw'=>Hid (zC w' g M)/\Hid (Since (λk=>k=g) U2 w'))
 case first=>
  have HW2:=qh (HWU.out.later HU2.out)
  have HB2:=qh ((HU2.out.block _ (zB HNU.out)).trans HNU.out)
  have u0:=za HB2.out 0
  rcases hops with o|o|o
  ·subst o
   have HMV:Hid (M=W.zW i rg n):=by show M=_;rw [HRM.out,if_pos rfl]
   have C2:Hid (∀y,Below U2.heap.size U2 y->y.cell? ⟨gx,1,none⟩=some (.int .i64 (rg:Int))):=λy hy=>zi hy _ _ (za HB2.out 1)
   go_upto_region 14 with fail
   clear u0
   refine wp_region_noPanic ?_
   refine xD (n0:=7) (S:=λx=>Below U2.heap.size U2 x) (by kernel_rfl) ((Below.refl _ _).drew) (λzcC=> ?_)
   refine yC 0 (λ_=>zcC) ?_
   refine yC 1 (λ_=>zcC) ?_
   refine wZ [6,7] 2 C2.out zcC ?_
   refine yC 3 (λ_=>zcC) ?_
   refine yC 4 (λ_=>zcC) ?_
   refine yC 5 (λ_=>zcC) ?_
   refine yC 6 (λ_=>zcC) ?_
   refine gy 7 rfl (λK hK=> ?_)
   have gD:=HW2.out.later zcC
   have p0:=gD.reg hi4 za7
   have p1:=gD.free (i*54+1+rg)
   clear gD
   go_simp
   refine hK.out _ _ (λh=>absurd rfl h) ?_
   clear hK K
   refine qI (by kernel_rfl) ?_ _
   refine NoPanic.normal ?_
   clear p0 p1
   have hwf:=(HW2.out.later (Below.refl _ _).drew).zW hi4 za7 n
   rw [<-HMV.out] at hwf
   have HWF:=qh hwf
   have HSF:Hid (Since (λk=>k=g) U2 (U2.drew.setCell ⟨g,i*54+1+rg,none⟩ (.int .i64 n))):=Since.setCell (F:=λk=>k=g) (p:=⟨g,i*54+1+rg,none⟩) (Since.drew _ (Since.refl _ U2)) (.inl rfl) _
   clear hwf
   go_wp2_with fail
   go_meet
   case rel=>exact⟨HWF.out,HSF.out⟩
  ·subst o
   have C9:Hid (∀y,Below U2.heap.size U2 y->y.cell? ⟨gx,3,none⟩=some (.int .i64 kK)/\y.cell? ⟨gx,4,none⟩=some (.int .i64 kL)/\y.cell? ⟨gx,5,none⟩=some (.int .u8 kM)/\y.cell? ⟨gx,6,none⟩=some (.slice aa al ac)/\y.cell? ⟨gx,7,none⟩=some (.int .i64 wJ)/\y.cell? ⟨gx,8,none⟩=some (.int .i64 wK)/\y.cell? ⟨gx,9,none⟩=some (.int .u8 wL)/\y.cell? ⟨gx,10,none⟩=some (.slice ba bl bc)/\y.cell? ⟨mb,1,none⟩=some (.int .i64 dom)/\y.cell? ⟨g,i*54+1,none⟩=some (.int .i64 r0)/\y.cell? ⟨g,i*54+1+1,none⟩=some (.int .i64 r1)/\y.cell? ⟨g,i*54+1+2,none⟩=some (.int .i64 r2)/\y.cell? ⟨g,i*54+1+3,none⟩=some (.int .i64 r3)):=λy hy=>⟨zi hy _ _ (za HB2.out 3),zi hy _ _ (za HB2.out 4),zi hy _ _ (za HB2.out 5),zi hy _ _ (za HB2.out 6),zi hy _ _ (za HB2.out 7),zi hy _ _ (za HB2.out 8),zi hy _ _ (za HB2.out 9),zi hy _ _ (za HB2.out 10),HDC.out _ ((HCU.out.later HU2.out).later hy),zi (zm HXU.out (zm HU2.out hy)) _ _ hg0,zi (zm HXU.out (zm HU2.out hy)) _ _ hg1,zi (zm HXU.out (zm HU2.out hy)) _ _ hg2,zi (zm HXU.out (zm HU2.out hy)) _ _ hg3⟩
   go_upto_region 9 with fail
   clear u0
   refine kP (S:=λx=>Below U2.heap.size U2 x) ((Below.refl _ _).drew) (λhK9=> ?_)
   refine zk 0 C9.out ?_
   refine zk 1 C9.out ?_
   refine zk 2 C9.out ?_
   refine zk 3 C9.out ?_
   refine zk 4 C9.out ?_
   refine zk 5 C9.out ?_
   refine zk 6 C9.out ?_
   refine zk 7 C9.out ?_
   refine zk 8 C9.out ?_
   refine zk 9 C9.out ?_
   refine zk 10 C9.out ?_
   refine zk 12 C9.out ?_
   refine zk 13 C9.out ?_
   refine zk 14 C9.out ?_
   refine zk 15 C9.out ?_
   refine zk 16 C9.out ?_
   refine zk 17 C9.out ?_
   refine zk 18 C9.out ?_
   refine zk 19 C9.out ?_
   refine zk 20 C9.out ?_
   refine zk 21 C9.out ?_
   refine zk 22 C9.out ?_
   refine yZ 11 rfl (λK hK=> ?_)
   go_simp
   refine(zwi.out U2.drew (zm HXU.out (zm HU2.out hK9))).mono ?_
   rintro e zsJ ⟨rfl,hb⟩
   have zfh:Below U2.heap.size U2 zsJ:=zm hK9 hb
   refine hK.out _ _ zfh (λ_=> ?_)
   clear hK K hb hK9
   refine yZ 23 rfl (λK hK=> ?_)
   go_simp
   refine(zwj.out zsJ (zm HXU.out (zm HU2.out zfh))).mono ?_
   rintro e zsK ⟨rfl,hb⟩
   have zfi:Below U2.heap.size U2 zsK:=zm zfh hb
   refine hK.out _ _ zfi (λ_=> ?_)
   clear hK K hb zfh
   refine zk 24 C9.out ?_
   refine zk 25 C9.out ?_
   refine vE ?_
   obtain⟨U3,hU3⟩:∃y,y=zsK:=⟨_,rfl⟩
   rw [<-hU3] at zfi ⊢
   have HU3:=qh zfi
   clear hU3 zfi C9
   have HW3:=qh (HW2.out.later HU3.out)
   have HB3:=qh ((HU3.out.block _ (zB HB2.out)).trans HB2.out)
   have C10:Hid (∀y,Below U3.heap.size U3 y->y.cell? ⟨gx,1,none⟩=some (.int .i64 (rg:Int))):=λy hy=>zi hy _ _ (za HB3.out 1)
   go_upto_region 10 with fail
   refine wp_region_noPanic ?_
   refine xD (n0:=6) (S:=λx=>Below U3.heap.size U3 x) (by kernel_rfl) ((Below.refl _ _).drew) (λzed=> ?_)
   refine yC 0 (λ_=>zed) ?_
   refine yC 1 (λ_=>zed) ?_
   refine wZ [5,6] 2 C10.out zed ?_
   refine yC 3 (λ_=>zed) ?_
   refine yC 4 (λ_=>zed) ?_
   refine yC 5 (λ_=>zed) ?_
   refine gy 6 rfl (λK hK=> ?_)
   have gD:=HW3.out.later zed
   have p0:=gD.reg hi4 za7
   have p1:=gD.free (i*54+1+rg)
   clear gD
   go_simp
   refine hK.out _ _ (λh=>absurd rfl h) ?_
   clear hK K
   refine qI (by kernel_rfl) ?_ _
   refine NoPanic.normal ?_
   clear p0 p1
   have hw4:=(HW3.out.later (Below.refl _ _).drew).zW hi4 za7 0
   have hs4:Since (λk=>k=g) U3 (U3.drew.setCell ⟨g,i*54+1+rg,none⟩ (.int .i64 0)):=Since.setCell (F:=λk=>k=g) (p:=⟨g,i*54+1+rg,none⟩) (Since.drew _ (Since.refl _ U3)) (.inl rfl) _
   go_upto_region 11 with fail
   have eW:U3.drew.setCell ⟨g,i*54+1+rg,none⟩ (.int .i64 0)=(U3.setCell ⟨g,i*54+1+rg,none⟩ (.int .i64 0)).drew:=rfl
   rw [eW] at hw4 hs4
   clear eW
   generalize (World.setCell U3 ⟨g,i*54+1+rg,none⟩ (.int .i64 0)).drew=U4 at hw4 hs4 ⊢
   have vL:=qh hw4
   have HS4:Hid (Since (λk=>k=g) U2 U4):=Since.trans (zH _ HU3.out) hs4 (λ_ h=> .inl h)
   have wN:=qh ((hs4.block _ (zB HB3.out) vk.out).trans HB3.out)
   clear hw4 hs4 C10
   by_cases hna:n=va
   rotate_left
   ·have hnb:((n:Int)==va)=false:=by simpa using hna
    have HMV:Hid (M=W.zW i rg 0):=by show M=_;rw [HRM.out,if_neg (by omega),if_neg (by omega),if_neg hna]
    clear hna
    have hwf:=vL.out
    rw [<-HMV.out] at hwf
    have HWF:=qh hwf
    have HSF:=HS4
    clear hwf
    go_wp2_with fail
    go_meet
    case rel=>exact⟨HWF.out,HSF.out⟩
   have hnb:((n:Int)==va)=true:=by simpa using hna
   have HMV:Hid (M=((W.zW i rg 0).zW i rg 1).ql v vb):=by show M=_;rw [HRM.out,if_neg (by omega),if_neg (by omega),if_pos hna]
   clear hna
   go_upto_region 12 with fail
   have C12:Hid (∀y,Since (λk=>k=g) U4 y->y.cell? ⟨gx,1,none⟩=some (.int .i64 (rg:Int))/\y.cell? ⟨gx,2,none⟩=some (.int .i64 (v:Int))):=λy hy=>⟨(hy.cell (p:=⟨gx,1,none⟩) (zB wN.out) vk.out).trans (za wN.out 1),(hy.cell (p:=⟨gx,2,none⟩) (zB wN.out) vk.out).trans (za wN.out 2)⟩
   have HS1:Hid (Since (λk=>k=g) U4 (U4.drew.setCell ⟨g,i*54+1+rg,none⟩ (.int .i64 1))):=Since.setCell (F:=λk=>k=g) (p:=⟨g,i*54+1+rg,none⟩) (Since.drew _ (Since.refl _ U4)) (.inl rfl) _
   have HS2:Hid (Since (λk=>k=g) U4 ((U4.drew.setCell ⟨g,i*54+1+rg,none⟩ (.int .i64 1)).setCell ⟨g,216+v,none⟩ (.int .i64 vb))):=Since.setCell (F:=λk=>k=g) (p:=⟨g,216+v,none⟩) HS1.out (.inl rfl) _
   have p0:=vL.out.reg hi4 za7
   have p1:=vL.out.free (i*54+1+rg)
   have p2:=(vL.out.zW hi4 za7 1).mem hv4
   have p3:=vL.out.free (216+v)
   refine kP (S:=λx=>Since (λk=>k=g) U4 x) (Since.drew _ (Since.refl _ U4)) (λzwk=> ?_)
   refine zk 0 C12.out ?_
   refine zk 1 C12.out ?_
   refine zk 2 C12.out ?_
   refine zk 3 C12.out ?_
   refine zk 4 C12.out ?_
   refine zk 5 C12.out ?_
   refine zk 6 C12.out ?_
   refine zk 7 C12.out ?_
   refine zk 8 C12.out ?_
   refine zk 9 C12.out ?_
   refine zk 11 C12.out ?_
   refine zk 12 C12.out ?_
   refine yZ 10 rfl (λK hK=> ?_)
   go_simp
   have zj6:=HS1.out
   refine hK.out _ _ zj6 (λ_=> ?_)
   clear hK K zwk
   refine zk 13 C12.out ?_
   refine yZ 14 rfl (λK hK=> ?_)
   go_simp
   have zq9:=HS2.out
   refine hK.out _ _ zq9 (λ_=> ?_)
   clear hK K zj6
   refine vE ?_
   clear p0 p1 p2 p3
   have hwf:=(((vL.out.later (Below.refl _ _).drew).zW hi4 za7 1).ql hv4 vb)
   rw [<-HMV.out] at hwf
   have HWF:=qh hwf
   have HSF:Hid (Since (λk=>k=g) U2 ((U4.drew.setCell ⟨g,i*54+1+rg,none⟩ (.int .i64 1)).setCell ⟨g,216+v,none⟩ (.int .i64 vb))):=Since.trans HS4.out HS2.out (λ_ h=> .inl h)
   clear hwf
   go_wp2_with fail
   go_meet
   case rel=>exact⟨HWF.out,HSF.out⟩
  exact absurd o h7
 case rest=>
 obtain⟨HWM,HS⟩:=hcut
 obtain⟨R,rfl⟩:∃Y:World,Y=wc:=⟨_,rfl⟩
 have HSU:Hid (Since (λk=>k=g) U R):=Since.trans (zH _ HU2.out) HS.out (λ_ h=> .inl h)
 have HER:=qh ((HSU.out.block _ (zB HEU.out) bU.out).trans HEU.out)
 have gQ:=qh (HCU.out.since HSU.out (λk hk=>by have hk:k=g:=hk;subst hk;exact HG.out) HGM.out)
 have HOR:Hid (yR g w R):=Since.trans gW.out HSU.out (λ_ h=> .inl h)
 have k5:=za HER.out 5
 have f5:=zF HER.out 5
 go_upto_region 18 with fail
 have hne:=zw HER.out 5 (.bool true)
 have hse:Since (λk=>k=ge) R (R.setCell ⟨ge,5,none⟩ (.bool true)):=Since.setCell (F:=λk=>k=ge) (p:=⟨ge,5,none⟩) (Since.refl _ R) (.inl rfl) _
 have HCG:Hid (Below V.heap.size V (R.setCell ⟨ge,5,none⟩ (.bool true))):=gQ.out.base.setCell (p:=⟨ge,5,none⟩) HVG.out _
 generalize World.setCell R _ _=R2 at hne hse HCG ⊢
 have uJ:Hid (R2.heap[ge]? =some (.cells #[.int .i64 ev, .int .i64 en, .bool true, .bool ew, .bool ef, .bool true] 61 (0,0))):=by show _=_;simpa using hne
 have zoV:=qh (HWM.out.since hse (λe=>bU.out e.symm))
 have zim:j6 V R2 mb c cv d model:=⟨HCG.out,gQ.out.code,(hse.cell (p:=⟨mb,1,none⟩) gQ.out.lt HMG.out).trans gQ.out.dom,(hse.cell (p:=⟨mb,2,none⟩) gQ.out.lt HMG.out).trans gQ.out.rows,(hse.cell (p:=⟨mb,3,none⟩) gQ.out.lt HMG.out).trans gQ.out.mod,Nat.lt_of_lt_of_le gQ.out.lt hse.size⟩
 have zoW:=qh zim
 have zoX:Hid (yR g w R2):=Since.trans HOR.out hse (λk hk=> .inr (by have hk:k=ge:=hk;have:=zij.out;omega))
 clear hne hse HCG zim k5 f5
 have k0:=za uJ.out 0
 have k1:=za uJ.out 1
 have k2:=za uJ.out 2
 have k3:=za uJ.out 3
 have k4:=za uJ.out 4
 have k5:=za uJ.out 5
 have zdF:=qh (zbR R2 g M zoV.out i hi4 (by have h1:=HTH.out.2.1;omega) ⟨ev,en,true,ew,ef,true⟩)
 go_upto_region 19 with(go_at_call 42;go_must(refine zdF.out.mono ?_);rintro e R3 ⟨rfl,hw2,zbS⟩;(have HW3:=qh hw2);(have HO3:=qh zbS);clear hw2 zbS k0 k1 k2 k3 k4 k5)
 have a0:=HW3.out.at0 hi4
 have hpe:=ze.bQ zoT.out hi4 ⟨ev,en,true,ew,ef,true⟩
 have hat:((M.yP i ⟨ev,en,true,ew,ef,true⟩).zO.getD i default).at_=p:=by
  have:((M.yP i ⟨ev,en,true,ew,ef,true⟩).th i).at_=(M.th i).at_:=by rw [hpe]
  exact this.trans HTH.out.1
 rw [hat] at a0
 have f0:=HW3.out.free (i*54)
 have hsm:(.int .i64 ((p:Int)+1):Value)= .int .i64 ((p+1:Nat):Int):=by simp
 have hw4:=HW3.out.setAt hi4 (p+1)
 have hs4:Since (λk=>k=g) R3 (R3.setCell ⟨g,i*54,none⟩ (.int .i64 ((p+1:Nat):Int))):=Since.setCell (F:=λk=>k=g) (p:=⟨g,i*54,none⟩) (Since.refl _ R3) (.inl rfl) _
 rw [<-hsm] at hw4 hs4
 have hset:=ze.qA HW3.out.ok hi4 (p+1)
 have hm2:(((M.yP i ⟨ev,en,true,ew,ef,true⟩).setAt i (p+1)).th i).many=m+1:=by rw [hset];show((M.yP i _).th i).many=_;rw [hpe,HTH.out.2.1]
 have hp2:(((M.yP i ⟨ev,en,true,ew,ef,true⟩).setAt i (p+1)).th i).at_=p+1:=by rw [hset]
 have zoY:Hid ((((M.yP i ⟨ev,en,true,ew,ef,true⟩).setAt i (p+1)).th i).many+cntF model l (((M.yP i ⟨ev,en,true,ew,ef,true⟩).setAt i (p+1)).th i).at_<=8):=by
  show _<=8
  rw [hm2,hp2];exact jI.out
 clear hat hpe hsm hset hm2 hp2
 go_upto_region 20 with fail
 generalize World.setCell R3 _ _=R4 at hw4 hs4 ⊢
 have vL:=qh hw4
 have HO4:Hid (Since (λk=>k=g) R2 R4):=Since.trans HO3.out hs4 (λ_ h=> .inl h)
 have HC4:=qh (zoW.out.since HO4.out (λk hk=>by have hk:k=g:=hk;subst hk;exact HG.out) HGM.out)
 have zoZ:Hid (yR g w R4):=Since.trans zoX.out HO4.out (λ_ h=> .inl h)
 clear hw4 hs4 a0 f0
 go_wp2_with(go_at_call 24;go_must(refine(zmR.out R4 HC4.out _ vL.out zoY.out).mono ?_);rintro e R5 ⟨rfl,hw5,zin⟩;(have HW5:=qh hw5);(have HO5:=qh zin);clear hw5 zin)
 go_ret
 exact ji.yes zeb.out (by rw [HRW.out];exact HW5.out) (Since.trans zoZ.out HO5.out (λ_ h=> .inl h))
