/- Steps. -/
import Derived.Test.YtknmdmimecepfaaGreatDoorVhAxWrite
set_option linter.all false
namespace Go.Proofs.YtknmdmimecepfaaGreatDoor
open Go.RowKit
set_option maxRecDepth 100000
set_option maxHeartbeats 16000000
theorem qA {model dom:Int} {d:Nat} {l:List zi} {i:Nat} {W:za} (h:(W.th i).at_<l.length->xK model (l.getD (W.th i).at_ default).op=true) (n:Nat):zB model dom d l i n W=W:=by
 cases n with
 |zero=>rfl
 |succ n=>
 show(if (W.th i).at_<l.length then _ else _)=_
 by_cases ha:(W.th i).at_<l.length
 ·rw [if_pos ha,if_pos (h ha)]
 rw [if_neg ha]
def qI (dom:Int) (d:Nat) (x:zi) (i:Nat) (W:za):za:=
 if x.op=1 then W.zN i x.reg.toNat (qJ W (W.th i) x.var.toNat (W.th i).many)
 else if x.op=7 then W.xq x.var.toNat 1
 else if qJ W (W.th i) x.var.toNat (W.th i).many=yt (W.th i).regs dom d x.a then((W.zN i x.reg.toNat 0).zN i x.reg.toNat 1).xq x.var.toNat (yt (W.th i).regs dom d x.b)
 else W.zN i x.reg.toNat 0
theorem zkw {W:za} (h:W.ok) {i:Nat} (hi:i<4) (dom:Int) (d:Nat) (x:zi):(qI dom d x i W).ok:=by
 unfold qI
 split
 ·exact za.vM h hi _ _
 split
 ·exact za.wI h _ _
 split
 ·exact za.wI (za.vM (za.vM h hi _ _) hi _ _) _ _
 exact za.vM h hi _ _
theorem zeB {W:za} (h:W.ok) {i:Nat} (hi:i<4) (dom:Int) (d:Nat) (x:zi):((qI dom d x i W).th i).at_=(W.th i).at_/\((qI dom d x i W).th i).many=(W.th i).many/\((qI dom d x i W).th i).evs=(W.th i).evs:=by
 unfold qI
 split
 ·rw [za.jN h hi];exact⟨rfl,rfl,rfl⟩
 split
 ·exact⟨rfl,rfl,rfl⟩
 split
 ·show(((W.zN i _ 0).zN i _ 1).th i).at_=_/\(((W.zN i _ 0).zN i _ 1).th i).many=_/\(((W.zN i _ 0).zN i _ 1).th i).evs=_
  rw [za.jN (za.vM h hi _ _) hi,za.jN h hi];exact⟨rfl,rfl,rfl⟩
 rw [za.jN h hi];exact⟨rfl,rfl,rfl⟩
def xD (model dom:Int) (d:Nat) (l:List zi) (W:za) (i:Nat):Bool:=
 decide ((W.th i).at_<l.length) && (wz model (W.th i) (W.th i).many (yP dom d (W.th i).regs (l.getD (W.th i).at_ default)) &&
  !(decide ((l.getD (W.th i).at_ default).op=7) && !decide (qJ W (W.th i) (l.getD (W.th i).at_ default).var.toNat (W.th i).many=0)))
def xS (model dom:Int) (d:Nat) (l:List zi) (W:za) (i:Nat):za:=
 zO model dom d l i l.length (((qI dom d (l.getD (W.th i).at_ default) i W).yh i (yP dom d (W.th i).regs (l.getD (W.th i).at_ default)).did).setAt i ((W.th i).at_+1))
def qU (g:Nat) (model dom:Int) (d:Nat) (l:List zi) (W:za) (i:Nat) (w:World) (e:Ending) (w':World):Prop:=
 e= .returned (.bool (xD model dom d l W i))/\(xD model dom d l W i=true->zo w' g (xS model dom d l W i))/\yC g w w'
theorem qU.no {g:Nat} {model dom:Int} {d:Nat} {l:List zi} {W:za} {i:Nat} {w w':World} (h:xD model dom d l W i=false) (h2:yC g w w'):qU g model dom d l W i w (.returned (.bool false)) w':=⟨by rw [h],(λe=>by rw [h] at e;cases e),h2⟩
theorem qU.yes {g:Nat} {model dom:Int} {d:Nat} {l:List zi} {W:za} {i:Nat} {w w':World} (h:xD model dom d l W i=true) (h1:zo w' g (xS model dom d l W i)) (h2:yC g w w'):qU g model dom d l W i w (.returned (.bool true)) w':=⟨by rw [h],λ_=>h1,h2⟩
def Stood (l:List zi) (t:zH):Prop:=t.at_<l.length->(l.getD t.at_ default).op=1\/(l.getD t.at_ default).op=6\/(l.getD t.at_ default).op=7
theorem Stood.touch {l:List zi} {t:zH} (h:Stood l t) (model:Int) (ha:t.at_<l.length):xK model (l.getD t.at_ default).op=true:=by
 rcases h ha with h|h|h<;>rw [h] <;>rfl
theorem zhy (V w:World) (mb:Nat) (c:zl) (cv:Value) (d:Nat) (model:Int) (hC:vE V w mb c cv d model) (h4:c.threads.length<=4) (hd1:1<=c.domain) (hd2:c.domain<=1000)
  (g:Nat) (hg:V.heap.size<=g) (hgm:mb≠g) (W:za) (hW:zo w g W) (i:Nat) (hi:i<c.threads.length) (hl:wh (c.threads.getD i [])) (hlen:(c.threads.getD i []).length<=600)
  (hcnt:(W.th i).many+cntF model (c.threads.getD i []) (W.th i).at_<=8) (hst:Stood (c.threads.getD i []) (W.th i)):
  Calls Tryz.prog 45 #[.pointer (some ⟨mb,0,none⟩), .pointer (some ⟨g,0,none⟩), .int .i64 i] w (qU g model c.domain d (c.threads.getD i []) W i w):=by
 have hloc:=zbY V w mb c cv d model hC h4 hd1 hd2 g hg hgm W hW i hi hl hlen (c.threads.getD i []).length (by omega)
 rw [qA (λha=>hst.touch model ha)] at hloc
 have zcP:=λ(X:World) (hX:vE V X mb c cv d model) (Wc:za) (hw:zo X g Wc) (hcn:(Wc.th i).many+cntF model (c.threads.getD i []) (Wc.th i).at_<=8)=>zbZ V X mb c cv d model hX h4 hd1 hd2 g hg hgm Wc hw i hi hl hlen (c.threads.getD i []).length (by omega) hcn
 obtain⟨l,hll⟩:∃l,l=c.threads.getD i [] :=⟨_,rfl⟩
 obtain⟨dom,hdom⟩:∃x,x=c.domain:=⟨_,rfl⟩
 have hdc:∀X,vE V X mb c cv d model->X.cell? ⟨mb,1,none⟩=some (.int .i64 dom):=λX hX=>by rw [hdom];exact hX.dom
 rw [<-hll, <-hdom] at zcP
 rw [<-hll] at hloc hl hlen hcnt hst ⊢
 rw [<-hdom] at hd1 hd2 ⊢
 have hi4:i<4:=by omega
 have hiI:(i:Int)<4:=by omega
 clear hll hdom h4 hi
 by_cases hend:(W.th i).at_<l.length
 rotate_left
 ·have uI:=qh (hloc.mono λe w' h=>h.no hend)
  have gJ:Hid (xD model dom d l W i=false):=by show _=_;unfold xD;rw [decide_eq_false hend];rfl
  clear hloc zcP hdc hl hlen hcnt hst hend hC hW
  go_enter Tryz.func45,Tryz.ntmps45
  go_upto_region 3 with(go_at_call 40;go_must(refine uI.out.mono ?_);rintro e X ⟨rfl,hwo,jO⟩;(have kM:=qh jO);clear hwo jO)
  have vJ:Hid (yC g w (X.alloc (.cells #[.int .i64 0, .int .i64 0, .int .i64 0, .int .i64 0, .int .i64 0, .int .u8 0, .slice none 0 0, .int .i64 0, .int .i64 0, .int .u8 0, .slice none 0 0, .int .i64 0] 45))):=Since.trans kM.out (zA (λ_=>False) (zw X _)) (λ_ h=>h.elim)
  go_wp2_with fail
  go_ret
  exact qU.no gJ.out vJ.out
 obtain⟨x,hx⟩:∃x,x=l.getD (W.th i).at_ default:=⟨_,rfl⟩
 have uI:=qh (hloc.mono λe w' h=>h.yes hend hx)
 have hgood:=hl (W.th i).at_ hend
 have hops:=hst hend
 have ht:=hst.touch model hend
 have hcp:=cntF_step (model:=model) hend
 rw [if_pos ht] at hcp
 have hmr:xD model dom d l W i=(wz model (W.th i) (W.th i).many (yP dom d (W.th i).regs x) && !(decide (x.op=7) && !decide (qJ W (W.th i) x.var.toNat (W.th i).many=0))):=by unfold xD;rw [decide_eq_true hend, <-hx];rfl
 have hrw:xS model dom d l W i=zO model dom d l i l.length (((qI dom d x i W).yh i (yP dom d (W.th i).regs x).did).setAt i ((W.th i).at_+1)):=by unfold xS;rw [<-hx]
 rw [<-hx] at hgood hops
 have hth:=zeB hW.ok hi4 dom d x
 have zkx:=qh (zkw hW.ok hi4 dom d x)
 have zbB:=(za.yu hW.ok hi4).regs
 have hrm:qI dom d x i W=if x.op=1 then W.zN i x.reg.toNat (qJ W (W.th i) x.var.toNat (W.th i).many) else if x.op=7 then W.xq x.var.toNat 1 else if qJ W (W.th i) x.var.toNat (W.th i).many=yt (W.th i).regs dom d x.a then((W.zN i x.reg.toNat 0).zN i x.reg.toNat 1).xq x.var.toNat (yt (W.th i).regs dom d x.b) else W.zN i x.reg.toNat 0:=rfl
 obtain⟨M,hM⟩:∃M,M=qI dom d x i W:=⟨_,rfl⟩
 rw [<-hM] at hrw hth hrm zkx
 obtain⟨E,hE⟩:∃E,E=yP dom d (W.th i).regs x:=⟨_,rfl⟩
 have hEr:E.reads=true/\E.come=false:=by rw [hE];unfold yP;rcases hops with h|h|h<;>(rw [h];exact⟨rfl,rfl⟩)
 rw [<-hE] at hmr hrw
 obtain⟨p,hp⟩:∃p,p=(W.th i).at_:=⟨_,rfl⟩
 obtain⟨m,hm⟩:∃m,m=(W.th i).many:=⟨_,rfl⟩
 have wN:m<8:=by rw [hm];omega
 have zcQ:m+1+cntF model l (p+1)<=8:=by rw [hm,hp];omega
 have zpc:p<=600:=by omega
 rw [<-hp] at hrw hth
 rw [<-hm] at hmr hth hrm
 obtain⟨n,hn⟩:∃n,n=qJ W (W.th i) x.var.toNat m:=⟨_,rfl⟩
 rw [<-hn] at hmr hrm
 have HN:=qh hn
 have HM:=qh hm
 have jq:=qh zcQ
 have HTH:=qh hth
 have HC:=qh hC
 have HW:=qh hW
 have HDC:=qh hdc
 have HG:=qh hg
 have HGM:=qh hgm
 have ziS:=qh zcP
 have HRW:=qh hrw
 have HE:=qh hE
 have HER:=qh hEr
 clear hloc zcP hdc hl hlen hcnt hst hend hx ht hcp hrw hth hM hE hEr hp hm zcQ hn hC hW hg hgm
 go_enter Tryz.func45,Tryz.ntmps45
 go_upto_region 3 with(go_at_call 40;go_must(refine uI.out.mono ?_);rintro e X ⟨aa,ac,ba,bc,rfl,hxa,hxb,hwo,jO⟩;(have HXA:=qh hxa);(have HXB:=qh hxb);(have wT:=qh hwo);(have kM:=qh jO);clear hxa hxb hwo jO)
 have HCX:=qh (HC.out.since kM.out (λk hk=>by have hk:k=g:=hk;subst hk;exact HG.out) HGM.out)
 have hof:=λ(Y:World) (hY:Below X.heap.size X Y)=>ze0 Y mb model dom (HDC.out Y (HCX.out.later hY)) hd1 hd2 g W (wT.out.later hY) i hi4 d x _ (.slice ba x.b.kids.length bc) (HXA.out.below (HCX.out.later hY).base)
 rw [<-HE.out] at hof
 unfold qH at hof
 have hmay:=λ(Y:World) (hY:Below X.heap.size X Y)=>zdP Y mb model (HCX.out.later hY).mod g W (wT.out.later hY) i hi4 m (by omega) E
 obtain⟨mq,hmq⟩:∃b,b=wz model (W.th i) m E:=⟨_,rfl⟩
 rw [<-hmq] at hmay hmr
 clear hmq
 obtain⟨r0,r1,r2,r3,hrs⟩:=bY zbB
 have hg0:=wT.out.reg hi4 (k:=0) (by omega)
 have hg1:=wT.out.reg hi4 (k:=1) (by omega)
 have hg2:=wT.out.reg hi4 (k:=2) (by omega)
 have hg3:=wT.out.reg hi4 (k:=3) (by omega)
 rw [show(W.zD.getD i default).regs= [r0,r1,r2,r3] from hrs] at hg0 hg1 hg2 hg3
 rw [hrs] at hrm
 simp only [List.getD_cons_zero,List.getD_cons_succ] at hg0 hg1 hg2 hg3
 have zbf:=λ(Y:World) (hY:Below X.heap.size X Y)=>uU r0 r1 r2 r3 dom hd1 hd2 d Y x.a _ (HXA.out.below (HCX.out.later hY).base)
 have zbg:=λ(Y:World) (hY:Below X.heap.size X Y)=>uU r0 r1 r2 r3 dom hd1 hd2 d Y x.b _ (HXB.out.below (HCX.out.later hY).base)
 unfold qc at zbf zbg
 obtain⟨va,hva⟩:∃v,v=yt [r0,r1,r2,r3] dom d x.a:=⟨_,rfl⟩
 obtain⟨vb,hvb⟩:∃v,v=yt [r0,r1,r2,r3] dom d x.b:=⟨_,rfl⟩
 rw [<-hva] at zbf hrm
 rw [<-hvb] at zbg hrm
 clear hva hvb hrs zbB HXA HXB
 obtain⟨v,hv⟩:∃v:Nat,(v:Int)=x.var:=⟨x.var.toNat,by omega⟩
 obtain⟨rg,hrg⟩:∃v:Nat,(v:Int)=x.reg:=⟨x.reg.toNat,by omega⟩
 obtain⟨op,hop⟩:∃o,o=x.op:=⟨_,rfl⟩
 rw [<-hv] at hof hrm hgood ⊢
 rw [<-hrg] at hof hrm hgood ⊢
 rw [<-hop] at hof hrm hmr hops ⊢
 have hv4:v<4:=by omega
 have bP:rg<4:=by omega
 have hvI:(v:Int)<4:=by omega
 have hv0:(0:Int)<=(v:Int):=by omega
 have zqJ:(rg:Int)<4:=by omega
 have hrg0:(0:Int)<=(rg:Int):=by omega
 simp only [Int.toNat_natCast] at hrm
 have htold:=λ(Y:World) (hY:Below X.heap.size X Y)=>zm5 Y g W (wT.out.later hY) i hi4 v hv4
 have hnv:qJ W (W.th i) v (W.th i).many=n:=by rw [HN.out, <-HM.out, <-hv];rfl
 rw [hnv] at htold
 generalize x.a.kind=jl at hof zbf ⊢
 generalize x.a.n=jm at hof zbf ⊢
 generalize x.a.op=jo at hof zbf ⊢
 generalize x.a.kids.length=al at hof zbf ⊢
 generalize x.b.kind=jT at hof zbg ⊢
 generalize x.b.n=jU at hof zbg ⊢
 generalize x.b.op=jV at hof zbg ⊢
 generalize x.b.kids.length=bl at hof zbg ⊢
 generalize x.dest=ds at hof ⊢
 have HOF:=qh hof
 have zbh:=qh hmay
 have zl7:=qh htold
 have zqK:=qh zbf
 have zqL:=qh zbg
 have kN:=qh hmr
 have HRM:=qh hrm
 clear hnv hof hmay htold zbf zbg hmr hrm hgood hv hrg hop HN HE uI
 obtain⟨ev,en,er,ew,ef,ec⟩:=E
 obtain⟨her,qL⟩:er=true/\ec=false:=HER.out
 subst her
 subst qL
 clear HER
 unfold zP.val at HOF zbh
 have HA:=qh (zw X (.cells #[.int .i64 op, .int .i64 (rg:Int), .int .i64 (v:Int), .int .i64 jl, .int .i64 jm, .int .u8 jo, .slice aa al ac, .int .i64 jT, .int .i64 jU, .int .u8 jV, .slice ba bl bc, .int .i64 ds] 45))
 have zL:=qh (yG X (.cells #[.int .i64 op, .int .i64 (rg:Int), .int .i64 (v:Int), .int .i64 jl, .int .i64 jm, .int .u8 jo, .slice aa al ac, .int .i64 jT, .int .i64 jU, .int .u8 jV, .slice ba bl bc, .int .i64 ds] 45))
 have HGX:Hid (X.heap.size≠g):=by have:=zI wT.out.blk;show X.heap.size≠g;omega
 generalize World.alloc X _=Y at HA zL ⊢
 generalize X.heap.size=gx at zL HGX ⊢
 have b0:=ze zL.out 0
 have b1:=ze zL.out 1
 have b2:=ze zL.out 2
 have b3:=ze zL.out 3
 have b4:=ze zL.out 4
 have b5:=ze zL.out 5
 have b6:=ze zL.out 6
 have b7:=ze zL.out 7
 have b8:=ze zL.out 8
 have b9:=ze zL.out 9
 have b10:=ze zL.out 10
 have b11:=ze zL.out 11
 go_upto_region 6 with(go_at_call 41;go_must(refine(HOF.out Y HA.out).mono ?_);rintro e Z ⟨rfl,hb⟩;(have HYZ:=qh hb);clear hb b0 b1 b2 b3 b4 b5 b6 b7 b8 b9 b10 b11)
 have HZ:=qh (zn HA.out HYZ.out)
 have HA2:=qh (zw Z (.cells #[.int .i64 ev, .int .i64 en, .bool true, .bool ew, .bool ef, .bool false] 61))
 have kP:=qh (yG Z (.cells #[.int .i64 ev, .int .i64 en, .bool true, .bool ew, .bool ef, .bool false] 61))
 have HGE:Hid (Z.heap.size≠g):=by have:=zI wT.out.blk;have:=HZ.out.size;show Z.heap.size≠g;omega
 generalize World.alloc Z _=U0 at HA2 kP ⊢
 have zeV:Hid (w.heap.size<=Z.heap.size):=Nat.le_trans kM.out.size HZ.out.size
 have HVG:Hid (V.heap.size<=Z.heap.size):=Nat.le_trans HC.out.base.size zeV.out
 have HMG:Hid (¬mb=Z.heap.size):=by have:=HC.out.lt;have:=zeV.out;show¬_;omega
 generalize Z.heap.size=ge at kP HGE zeV HVG HMG ⊢
 have zky:=qh (zn HZ.out HA2.out)
 have zhz:=qh (((zn HYZ.out HA2.out).block _ (zI zL.out)).trans zL.out)
 have b2:=ze zhz.out 2
 go_upto_region 7 with(go_at_call 67;go_must(refine(zl7.out U0 zky.out).mono ?_);rintro e U ⟨rfl,hb⟩;(have zh0:=qh hb);clear hb b2)
 have pJ:=qh (zn zky.out zh0.out)
 have HWU:=qh (wT.out.later pJ.out)
 have HCU:=qh (HCX.out.later pJ.out)
 have HNU:=qh ((zh0.out.block _ (zI zhz.out)).trans zhz.out)
 have HEU:=qh ((zh0.out.block _ (zI kP.out)).trans kP.out)
 have HOU:Hid (yC g w U):=Since.trans kM.out (zA (λ_=>False) pJ.out) (λ_ h=>h.elim)
 have um:=HWU.out.many hi4
 rw [show(W.zD.getD i default).many=m from HM.out.symm] at um
 have hmI:(m:Int)<=8:=by omega
 have CC:Hid (∀y,Below U.heap.size U y->(y.cell? ⟨ge,0,none⟩=some (.int .i64 ev)/\y.cell? ⟨ge,1,none⟩=some (.int .i64 en)/\y.cell? ⟨ge,2,none⟩=some (.bool true)/\y.cell? ⟨ge,3,none⟩=some (.bool ew)/\y.cell? ⟨ge,4,none⟩=some (.bool ef)/\y.cell? ⟨ge,5,none⟩=some (.bool false)/\y.cell? ⟨g,i*54+53,none⟩=some (.int .i64 (m:Int))/\y.cell? ⟨gx,0,none⟩=some (.int .i64 op))):=λy hy=>
  ⟨zk hy _ _ (ze HEU.out 0),zk hy _ _ (ze HEU.out 1),zk hy _ _ (ze HEU.out 2),zk hy _ _ (ze HEU.out 3),zk hy _ _ (ze HEU.out 4),zk hy _ _ (ze HEU.out 5),zk hy _ _ um,zk hy _ _ (ze HNU.out 0)⟩
 clear um HOF zl7 zhz zh0 HA zL HA2 kP HYZ HZ zky
 cases mq with
 |false=>
  have gJ:Hid (xD model dom d l W i=false):=kN.out.trans rfl
  refine vP (S:=λx=>Below U.heap.size U x) ((Below.refl _ _).drew) (λh7a=> ?_)
  refine zh 0 CC.out ?_
  refine zh 1 CC.out ?_
  refine zh 2 CC.out ?_
  refine zh 3 CC.out ?_
  refine zh 4 CC.out ?_
  refine zh 5 CC.out ?_
  refine zh 6 CC.out ?_
  refine zh 7 CC.out ?_
  refine zh 8 CC.out ?_
  refine zh 9 CC.out ?_
  refine zh 10 CC.out ?_
  refine qG 11 rfl (λK hK=> ?_)
  go_simp
  refine(zbh.out U.drew (zn pJ.out h7a)).mono ?_
  rintro e zn1 ⟨rfl,hb⟩
  have ziW:Below U.heap.size U zn1:=zn h7a hb
  refine hK.out _ _ ziW (λ_=> ?_)
  clear hK K hb h7a
  refine zh 12 CC.out ?_
  refine zh 13 CC.out ?_
  refine zh 14 CC.out ?_
  refine qV 15 (by assumption) ?_
  refine qV 16 (by assumption) ?_
  refine qV 17 (by assumption) ?_
  refine qV 18 (by assumption) ?_
  refine qV 19 (by assumption) ?_
  refine qV 20 (by assumption) ?_
  refine qV 21 (by assumption) ?_
  refine zh 22 CC.out ?_
  refine vK ?_
  have HOE:Hid (yC g w zn1):=Since.trans HOU.out (zA (λ_=>False) ziW) (λ_ h=>h.elim)
  go_wp2_with fail
  go_ret
  exact qU.no gJ.out HOE.out
 |true=>
 by_cases hlk:op=7/\¬n=0
 ·obtain⟨rfl,hn0⟩:=hlk
  have gJ:Hid (xD model dom d l W i=false):=kN.out.trans (by simp [hn0])
  have hnb:((n:Int) !=0)=true:=by simpa using hn0
  clear hn0
  refine vP (S:=λx=>Below U.heap.size U x) ((Below.refl _ _).drew) (λh7b=> ?_)
  refine zh 0 CC.out ?_
  refine zh 1 CC.out ?_
  refine zh 2 CC.out ?_
  refine zh 3 CC.out ?_
  refine zh 4 CC.out ?_
  refine zh 5 CC.out ?_
  refine zh 6 CC.out ?_
  refine zh 7 CC.out ?_
  refine zh 8 CC.out ?_
  refine zh 9 CC.out ?_
  refine zh 10 CC.out ?_
  refine qG 11 rfl (λK hK=> ?_)
  go_simp
  refine(zbh.out U.drew (zn pJ.out h7b)).mono ?_
  rintro e zeX ⟨rfl,hb⟩
  have ziX:Below U.heap.size U zeX:=zn h7b hb
  refine hK.out _ _ ziX (λ_=> ?_)
  clear hK K hb h7b
  refine zh 12 CC.out ?_
  refine zh 13 CC.out ?_
  refine zh 14 CC.out ?_
  refine zh 15 CC.out ?_
  refine zh 16 CC.out ?_
  refine zh 17 CC.out ?_
  refine zh 18 CC.out ?_
  refine zh 19 CC.out ?_
  refine zh 20 CC.out ?_
  refine zh 21 CC.out ?_
  refine zh 22 CC.out ?_
  refine vK ?_
  have HOE:Hid (yC g w zeX):=Since.trans HOU.out (zA (λ_=>False) ziX) (λ_ h=>h.elim)
  go_wp2_with fail
  go_ret
  exact qU.no gJ.out HOE.out
 have zeY:Hid (xD model dom d l W i=true):=kN.out.trans (by
  by_cases h7:op=7
  ·have:n=0:=by by_cases h0:n=0;exact h0;exact absurd ⟨h7,h0⟩ hlk
   simp [this]
  simp [h7])
 have zpd:∃q,(if op=7 then((n:Int) !=0) else false)=q:=⟨_,rfl⟩
 clear zpd
 by_cases h7:op=7
 ·subst h7
  obtain rfl:n=0:=by by_cases h0:n=0;exact h0;exact absurd ⟨rfl,h0⟩ hlk
  clear hlk kN hops
  refine vP (S:=λx=>Below U.heap.size U x) ((Below.refl _ _).drew) (λh7c=> ?_)
  refine zh 0 CC.out ?_
  refine zh 1 CC.out ?_
  refine zh 2 CC.out ?_
  refine zh 3 CC.out ?_
  refine zh 4 CC.out ?_
  refine zh 5 CC.out ?_
  refine zh 6 CC.out ?_
  refine zh 7 CC.out ?_
  refine zh 8 CC.out ?_
  refine zh 9 CC.out ?_
  refine zh 10 CC.out ?_
  refine qG 11 rfl (λK hK=> ?_)
  go_simp
  refine(zbh.out U.drew (zn pJ.out h7c)).mono ?_
  rintro e zn3 ⟨rfl,hb⟩
  have zcR:Below U.heap.size U zn3:=zn h7c hb
  refine hK.out _ _ zcR (λ_=> ?_)
  clear hK K hb h7c
  refine zh 12 CC.out ?_
  refine zh 13 CC.out ?_
  refine zh 14 CC.out ?_
  refine zh 15 CC.out ?_
  refine zh 16 CC.out ?_
  refine zh 17 CC.out ?_
  refine zh 18 CC.out ?_
  refine zh 19 CC.out ?_
  refine zh 20 CC.out ?_
  refine zh 21 CC.out ?_
  refine zh 22 CC.out ?_
  refine vK ?_
  go_upto_block 0 with fail
  obtain⟨U2,hU2⟩:∃y,y=zn3:=⟨_,rfl⟩
  rw [<-hU2] at zcR ⊢
  have bD:=qh zcR
  clear hU2 zcR CC
  go_cut [] (λw'=>Hid (zo w' g M)/\Hid (Since (λk=>k=g) U2 w'))
  case first=>
   have HMV:Hid (M=W.xq v 1):=by show M=_;rw [HRM.out,if_neg (by omega),if_pos rfl]
   have HW2:=qh (HWU.out.later bD.out)
   have HB2:=qh ((bD.out.block _ (zI HNU.out)).trans HNU.out)
   have C2:Hid (∀y,Below U2.heap.size U2 y->y.cell? ⟨gx,2,none⟩=some (.int .i64 (v:Int))):=λy hy=>zk hy _ _ (ze HB2.out 2)
   have u0:=ze HB2.out 0
   go_upto_region 16 with fail
   clear u0
   refine wp_region_noPanic ?_
   refine yM (n0:=6) (S:=λx=>Below U2.heap.size U2 x) (by kernel_rfl) ((Below.refl _ _).drew) (λzcs=> ?_)
   refine zT 0 (λ_=>zcs) ?_
   refine zT 1 (λ_=>zcs) ?_
   refine jR [5,6] 2 C2.out zcs ?_
   refine zT 3 (λ_=>zcs) ?_
   refine zT 4 (λ_=>zcs) ?_
   refine zT 5 (λ_=>zcs) ?_
   refine wM 6 rfl (λK hK=> ?_)
   have kE:=HW2.out.later zcs
   have p0:=kE.mem hv4
   have p1:=kE.free (216+v)
   clear kE
   go_simp
   refine hK.out _ _ (λh=>absurd rfl h) ?_
   clear hK K
   refine xG (by kernel_rfl) ?_ _
   refine NoPanic.normal ?_
   clear p0 p1
   have hwf:=(HW2.out.later (Below.refl _ _).drew).xq hv4 1
   rw [<-HMV.out] at hwf
   have HWF:=qh hwf
   have bE:Hid (Since (λk=>k=g) U2 (U2.drew.setCell ⟨g,216+v,none⟩ (.int .i64 1))):=Since.setCell (F:=λk=>k=g) (p:=⟨g,216+v,none⟩) (Since.drew _ (Since.refl _ U2)) (.inl rfl) _
   clear hwf
   go_wp2_with fail
   go_meet
   case rel=>exact⟨HWF.out,bE.out⟩
  case rest=>
  obtain⟨HWM,HS⟩:=hcut
  obtain⟨R,rfl⟩:∃Y:World,Y=wc:=⟨_,rfl⟩
  have HSU:Hid (Since (λk=>k=g) U R):=Since.trans (zA _ bD.out) HS.out (λ_ h=> .inl h)
  have HER:=qh ((HSU.out.block _ (zI HEU.out) HGE.out).trans HEU.out)
  have kF:=qh (HCU.out.since HSU.out (λk hk=>by have hk:k=g:=hk;subst hk;exact HG.out) HGM.out)
  have HOR:Hid (yC g w R):=Since.trans HOU.out HSU.out (λ_ h=> .inl h)
  have k5:=ze HER.out 5
  have f5:=yD HER.out 5
  go_upto_region 18 with fail
  have hne:=zq HER.out 5 (.bool true)
  have hse:Since (λk=>k=ge) R (R.setCell ⟨ge,5,none⟩ (.bool true)):=Since.setCell (F:=λk=>k=ge) (p:=⟨ge,5,none⟩) (Since.refl _ R) (.inl rfl) _
  have HCG:Hid (Below V.heap.size V (R.setCell ⟨ge,5,none⟩ (.bool true))):=kF.out.base.setCell (p:=⟨ge,5,none⟩) HVG.out _
  generalize World.setCell R _ _=R2 at hne hse HCG ⊢
  have wB:Hid (R2.heap[ge]? =some (.cells #[.int .i64 ev, .int .i64 en, .bool true, .bool ew, .bool ef, .bool true] 61 (0,0))):=by show _=_;simpa using hne
  have zkz:=qh (HWM.out.since hse (λe=>HGE.out e.symm))
  have zfa:vE V R2 mb c cv d model:=⟨HCG.out,kF.out.code,(hse.cell (p:=⟨mb,1,none⟩) kF.out.lt HMG.out).trans kF.out.dom,(hse.cell (p:=⟨mb,2,none⟩) kF.out.lt HMG.out).trans kF.out.rows,(hse.cell (p:=⟨mb,3,none⟩) kF.out.lt HMG.out).trans kF.out.mod,Nat.lt_of_lt_of_le kF.out.lt hse.size⟩
  have zk0:=qh zfa
  have zk1:Hid (yC g w R2):=Since.trans HOR.out hse (λk hk=> .inr (by have hk:k=ge:=hk;have:=zeV.out;omega))
  clear hne hse HCG zfa k5 f5
  have k0:=ze wB.out 0
  have k1:=ze wB.out 1
  have k2:=ze wB.out 2
  have k3:=ze wB.out 3
  have k4:=ze wB.out 4
  have k5:=ze wB.out 5
  have zct:=qh (zbk R2 g M zkz.out i hi4 (by have h1:=HTH.out.2.1;omega) ⟨ev,en,true,ew,ef,true⟩)
  go_upto_region 19 with(go_at_call 42;go_must(refine zct.out.mono ?_);rintro e R3 ⟨rfl,hw2,zbl⟩;(have HW3:=qh hw2);(have HO3:=qh zbl);clear hw2 zbl k0 k1 k2 k3 k4 k5)
  have a0:=HW3.out.at0 hi4
  have hpe:=za.wm zkx.out hi4 ⟨ev,en,true,ew,ef,true⟩
  have hat:((M.yh i ⟨ev,en,true,ew,ef,true⟩).zD.getD i default).at_=p:=by
   have:((M.yh i ⟨ev,en,true,ew,ef,true⟩).th i).at_=(M.th i).at_:=by rw [hpe]
   exact this.trans HTH.out.1
  rw [hat] at a0
  have f0:=HW3.out.free (i*54)
  have hsm:(.int .i64 ((p:Int)+1):Value)= .int .i64 ((p+1:Nat):Int):=by simp
  have hw4:=HW3.out.setAt hi4 (p+1)
  have hs4:Since (λk=>k=g) R3 (R3.setCell ⟨g,i*54,none⟩ (.int .i64 ((p+1:Nat):Int))):=Since.setCell (F:=λk=>k=g) (p:=⟨g,i*54,none⟩) (Since.refl _ R3) (.inl rfl) _
  rw [<-hsm] at hw4 hs4
  have hset:=za.yT HW3.out.ok hi4 (p+1)
  have hm2:(((M.yh i ⟨ev,en,true,ew,ef,true⟩).setAt i (p+1)).th i).many=m+1:=by rw [hset];show((M.yh i _).th i).many=_;rw [hpe,HTH.out.2.1]
  have hp2:(((M.yh i ⟨ev,en,true,ew,ef,true⟩).setAt i (p+1)).th i).at_=p+1:=by rw [hset]
  have zk2:Hid ((((M.yh i ⟨ev,en,true,ew,ef,true⟩).setAt i (p+1)).th i).many+cntF model l (((M.yh i ⟨ev,en,true,ew,ef,true⟩).setAt i (p+1)).th i).at_<=8):=by
   show _<=8
   rw [hm2,hp2];exact jq.out
  clear hat hpe hsm hset hm2 hp2
  go_upto_region 20 with fail
  generalize World.setCell R3 _ _=R4 at hw4 hs4 ⊢
  have qy:=qh hw4
  have HO4:Hid (Since (λk=>k=g) R2 R4):=Since.trans HO3.out hs4 (λ_ h=> .inl h)
  have HC4:=qh (zk0.out.since HO4.out (λk hk=>by have hk:k=g:=hk;subst hk;exact HG.out) HGM.out)
  have zk3:Hid (yC g w R4):=Since.trans zk1.out HO4.out (λ_ h=> .inl h)
  clear hw4 hs4 a0 f0
  go_wp2_with(go_at_call 24;go_must(refine(ziS.out R4 HC4.out _ qy.out zk2.out).mono ?_);rintro e R5 ⟨rfl,hw5,zfd⟩;(have p8:=qh hw5);(have HO5:=qh zfd);clear hw5 zfd)
  go_ret
  exact qU.yes zeY.out (by rw [HRW.out];exact p8.out) (Since.trans zk3.out HO5.out (λ_ h=> .inl h))
 have h7b:((op:Int)==7)=false:=by simpa using h7
 clear hlk kN
 refine vP (S:=λx=>Below U.heap.size U x) ((Below.refl _ _).drew) (λh7e=> ?_)
 refine zh 0 CC.out ?_
 refine zh 1 CC.out ?_
 refine zh 2 CC.out ?_
 refine zh 3 CC.out ?_
 refine zh 4 CC.out ?_
 refine zh 5 CC.out ?_
 refine zh 6 CC.out ?_
 refine zh 7 CC.out ?_
 refine zh 8 CC.out ?_
 refine zh 9 CC.out ?_
 refine zh 10 CC.out ?_
 refine qG 11 rfl (λK hK=> ?_)
 go_simp
 refine(zbh.out U.drew (zn pJ.out h7e)).mono ?_
 rintro e zn7 ⟨rfl,hb⟩
 have zcU:Below U.heap.size U zn7:=zn h7e hb
 refine hK.out _ _ zcU (λ_=> ?_)
 clear hK K hb h7e
 refine zh 12 CC.out ?_
 refine zh 13 CC.out ?_
 refine zh 14 CC.out ?_
 refine zh 15 CC.out ?_
 refine zh 16 CC.out ?_
 refine zh 17 CC.out ?_
 refine zh 18 CC.out ?_
 refine qV 19 (by assumption) ?_
 refine qV 20 (by assumption) ?_
 refine zh 21 CC.out ?_
 refine zh 22 CC.out ?_
 refine vK ?_
 go_upto_block 0 with fail
 obtain⟨U2,hU2⟩:∃y,y=zn7:=⟨_,rfl⟩
 rw [<-hU2] at zcU ⊢
 have bD:=qh zcU
 clear hU2 zcU CC
 go_cut [] (λw'=>Hid (zo w' g M)/\Hid (Since (λk=>k=g) U2 w'))
 case first=>
  have HW2:=qh (HWU.out.later bD.out)
  have HB2:=qh ((bD.out.block _ (zI HNU.out)).trans HNU.out)
  have u0:=ze HB2.out 0
  rcases hops with o|o|o
  ·subst o
   have HMV:Hid (M=W.zN i rg n):=by show M=_;rw [HRM.out,if_pos rfl]
   have C2:Hid (∀y,Below U2.heap.size U2 y->y.cell? ⟨gx,1,none⟩=some (.int .i64 (rg:Int))):=λy hy=>zk hy _ _ (ze HB2.out 1)
   go_upto_region 14 with fail
   clear u0
   refine wp_region_noPanic ?_
   refine yM (n0:=7) (S:=λx=>Below U2.heap.size U2 x) (by kernel_rfl) ((Below.refl _ _).drew) (λzbm=> ?_)
   refine zT 0 (λ_=>zbm) ?_
   refine zT 1 (λ_=>zbm) ?_
   refine jR [6,7] 2 C2.out zbm ?_
   refine zT 3 (λ_=>zbm) ?_
   refine zT 4 (λ_=>zbm) ?_
   refine zT 5 (λ_=>zbm) ?_
   refine zT 6 (λ_=>zbm) ?_
   refine wM 7 rfl (λK hK=> ?_)
   have kE:=HW2.out.later zbm
   have p0:=kE.reg hi4 bP
   have p1:=kE.free (i*54+1+rg)
   clear kE
   go_simp
   refine hK.out _ _ (λh=>absurd rfl h) ?_
   clear hK K
   refine xG (by kernel_rfl) ?_ _
   refine NoPanic.normal ?_
   clear p0 p1
   have hwf:=(HW2.out.later (Below.refl _ _).drew).zN hi4 bP n
   rw [<-HMV.out] at hwf
   have HWF:=qh hwf
   have bE:Hid (Since (λk=>k=g) U2 (U2.drew.setCell ⟨g,i*54+1+rg,none⟩ (.int .i64 n))):=Since.setCell (F:=λk=>k=g) (p:=⟨g,i*54+1+rg,none⟩) (Since.drew _ (Since.refl _ U2)) (.inl rfl) _
   clear hwf
   go_wp2_with fail
   go_meet
   case rel=>exact⟨HWF.out,bE.out⟩
  ·subst o
   have C9:Hid (∀y,Below U2.heap.size U2 y->y.cell? ⟨gx,3,none⟩=some (.int .i64 jl)/\y.cell? ⟨gx,4,none⟩=some (.int .i64 jm)/\y.cell? ⟨gx,5,none⟩=some (.int .u8 jo)/\y.cell? ⟨gx,6,none⟩=some (.slice aa al ac)/\y.cell? ⟨gx,7,none⟩=some (.int .i64 jT)/\y.cell? ⟨gx,8,none⟩=some (.int .i64 jU)/\y.cell? ⟨gx,9,none⟩=some (.int .u8 jV)/\y.cell? ⟨gx,10,none⟩=some (.slice ba bl bc)/\y.cell? ⟨mb,1,none⟩=some (.int .i64 dom)/\y.cell? ⟨g,i*54+1,none⟩=some (.int .i64 r0)/\y.cell? ⟨g,i*54+1+1,none⟩=some (.int .i64 r1)/\y.cell? ⟨g,i*54+1+2,none⟩=some (.int .i64 r2)/\y.cell? ⟨g,i*54+1+3,none⟩=some (.int .i64 r3)):=λy hy=>⟨zk hy _ _ (ze HB2.out 3),zk hy _ _ (ze HB2.out 4),zk hy _ _ (ze HB2.out 5),zk hy _ _ (ze HB2.out 6),zk hy _ _ (ze HB2.out 7),zk hy _ _ (ze HB2.out 8),zk hy _ _ (ze HB2.out 9),zk hy _ _ (ze HB2.out 10),HDC.out _ ((HCU.out.later bD.out).later hy),zk (zn pJ.out (zn bD.out hy)) _ _ hg0,zk (zn pJ.out (zn bD.out hy)) _ _ hg1,zk (zn pJ.out (zn bD.out hy)) _ _ hg2,zk (zn pJ.out (zn bD.out hy)) _ _ hg3⟩
   go_upto_region 9 with fail
   clear u0
   refine vP (S:=λx=>Below U2.heap.size U2 x) ((Below.refl _ _).drew) (λhK9=> ?_)
   refine zh 0 C9.out ?_
   refine zh 1 C9.out ?_
   refine zh 2 C9.out ?_
   refine zh 3 C9.out ?_
   refine zh 4 C9.out ?_
   refine zh 5 C9.out ?_
   refine zh 6 C9.out ?_
   refine zh 7 C9.out ?_
   refine zh 8 C9.out ?_
   refine zh 9 C9.out ?_
   refine zh 10 C9.out ?_
   refine zh 12 C9.out ?_
   refine zh 13 C9.out ?_
   refine zh 14 C9.out ?_
   refine zh 15 C9.out ?_
   refine zh 16 C9.out ?_
   refine zh 17 C9.out ?_
   refine zh 18 C9.out ?_
   refine zh 19 C9.out ?_
   refine zh 20 C9.out ?_
   refine zh 21 C9.out ?_
   refine zh 22 C9.out ?_
   refine qG 11 rfl (λK hK=> ?_)
   go_simp
   refine(zqK.out U2.drew (zn pJ.out (zn bD.out hK9))).mono ?_
   rintro e zn9 ⟨rfl,hb⟩
   have zcV:Below U2.heap.size U2 zn9:=zn hK9 hb
   refine hK.out _ _ zcV (λ_=> ?_)
   clear hK K hb hK9
   refine qG 23 rfl (λK hK=> ?_)
   go_simp
   refine(zqL.out zn9 (zn pJ.out (zn bD.out zcV))).mono ?_
   rintro e znA ⟨rfl,hb⟩
   have zcW:Below U2.heap.size U2 znA:=zn zcV hb
   refine hK.out _ _ zcW (λ_=> ?_)
   clear hK K hb zcV
   refine zh 24 C9.out ?_
   refine zh 25 C9.out ?_
   refine vK ?_
   obtain⟨U3,hU3⟩:∃y,y=znA:=⟨_,rfl⟩
   rw [<-hU3] at zcW ⊢
   have HU3:=qh zcW
   clear hU3 zcW C9
   have HW3:=qh (HW2.out.later HU3.out)
   have HB3:=qh ((HU3.out.block _ (zI HB2.out)).trans HB2.out)
   have qM:Hid (∀y,Below U3.heap.size U3 y->y.cell? ⟨gx,1,none⟩=some (.int .i64 (rg:Int))):=λy hy=>zk hy _ _ (ze HB3.out 1)
   go_upto_region 10 with fail
   refine wp_region_noPanic ?_
   refine yM (n0:=6) (S:=λx=>Below U3.heap.size U3 x) (by kernel_rfl) ((Below.refl _ _).drew) (λzcu=> ?_)
   refine zT 0 (λ_=>zcu) ?_
   refine zT 1 (λ_=>zcu) ?_
   refine jR [5,6] 2 qM.out zcu ?_
   refine zT 3 (λ_=>zcu) ?_
   refine zT 4 (λ_=>zcu) ?_
   refine zT 5 (λ_=>zcu) ?_
   refine wM 6 rfl (λK hK=> ?_)
   have kE:=HW3.out.later zcu
   have p0:=kE.reg hi4 bP
   have p1:=kE.free (i*54+1+rg)
   clear kE
   go_simp
   refine hK.out _ _ (λh=>absurd rfl h) ?_
   clear hK K
   refine xG (by kernel_rfl) ?_ _
   refine NoPanic.normal ?_
   clear p0 p1
   have hw4:=(HW3.out.later (Below.refl _ _).drew).zN hi4 bP 0
   have hs4:Since (λk=>k=g) U3 (U3.drew.setCell ⟨g,i*54+1+rg,none⟩ (.int .i64 0)):=Since.setCell (F:=λk=>k=g) (p:=⟨g,i*54+1+rg,none⟩) (Since.drew _ (Since.refl _ U3)) (.inl rfl) _
   go_upto_region 11 with fail
   have eW:U3.drew.setCell ⟨g,i*54+1+rg,none⟩ (.int .i64 0)=(U3.setCell ⟨g,i*54+1+rg,none⟩ (.int .i64 0)).drew:=rfl
   rw [eW] at hw4 hs4
   clear eW
   generalize (World.setCell U3 ⟨g,i*54+1+rg,none⟩ (.int .i64 0)).drew=U4 at hw4 hs4 ⊢
   have qy:=qh hw4
   have HS4:Hid (Since (λk=>k=g) U2 U4):=Since.trans (zA _ HU3.out) hs4 (λ_ h=> .inl h)
   have uz:=qh ((hs4.block _ (zI HB3.out) HGX.out).trans HB3.out)
   clear hw4 hs4 qM
   by_cases hna:n=va
   rotate_left
   ·have hnb:((n:Int)==va)=false:=by simpa using hna
    have HMV:Hid (M=W.zN i rg 0):=by show M=_;rw [HRM.out,if_neg (by omega),if_neg (by omega),if_neg hna]
    clear hna
    have hwf:=qy.out
    rw [<-HMV.out] at hwf
    have HWF:=qh hwf
    have bE:=HS4
    clear hwf
    go_wp2_with fail
    go_meet
    case rel=>exact⟨HWF.out,bE.out⟩
   have hnb:((n:Int)==va)=true:=by simpa using hna
   have HMV:Hid (M=((W.zN i rg 0).zN i rg 1).xq v vb):=by show M=_;rw [HRM.out,if_neg (by omega),if_neg (by omega),if_pos hna]
   clear hna
   go_upto_region 12 with fail
   have pK:Hid (∀y,Since (λk=>k=g) U4 y->y.cell? ⟨gx,1,none⟩=some (.int .i64 (rg:Int))/\y.cell? ⟨gx,2,none⟩=some (.int .i64 (v:Int))):=λy hy=>⟨(hy.cell (p:=⟨gx,1,none⟩) (zI uz.out) HGX.out).trans (ze uz.out 1),(hy.cell (p:=⟨gx,2,none⟩) (zI uz.out) HGX.out).trans (ze uz.out 2)⟩
   have HS1:Hid (Since (λk=>k=g) U4 (U4.drew.setCell ⟨g,i*54+1+rg,none⟩ (.int .i64 1))):=Since.setCell (F:=λk=>k=g) (p:=⟨g,i*54+1+rg,none⟩) (Since.drew _ (Since.refl _ U4)) (.inl rfl) _
   have HS2:Hid (Since (λk=>k=g) U4 ((U4.drew.setCell ⟨g,i*54+1+rg,none⟩ (.int .i64 1)).setCell ⟨g,216+v,none⟩ (.int .i64 vb))):=Since.setCell (F:=λk=>k=g) (p:=⟨g,216+v,none⟩) HS1.out (.inl rfl) _
   have p0:=qy.out.reg hi4 bP
   have p1:=qy.out.free (i*54+1+rg)
   have p2:=(qy.out.zN hi4 bP 1).mem hv4
   have p3:=qy.out.free (216+v)
   refine vP (S:=λx=>Since (λk=>k=g) U4 x) (Since.drew _ (Since.refl _ U4)) (λzqM=> ?_)
   refine zh 0 pK.out ?_
   refine zh 1 pK.out ?_
   refine zh 2 pK.out ?_
   refine zh 3 pK.out ?_
   refine zh 4 pK.out ?_
   refine zh 5 pK.out ?_
   refine zh 6 pK.out ?_
   refine zh 7 pK.out ?_
   refine zh 8 pK.out ?_
   refine zh 9 pK.out ?_
   refine zh 11 pK.out ?_
   refine zh 12 pK.out ?_
   refine qG 10 rfl (λK hK=> ?_)
   go_simp
   have zg2:=HS1.out
   refine hK.out _ _ zg2 (λ_=> ?_)
   clear hK K zqM
   refine zh 13 pK.out ?_
   refine qG 14 rfl (λK hK=> ?_)
   go_simp
   have zm6:=HS2.out
   refine hK.out _ _ zm6 (λ_=> ?_)
   clear hK K zg2
   refine vK ?_
   clear p0 p1 p2 p3
   have hwf:=(((qy.out.later (Below.refl _ _).drew).zN hi4 bP 1).xq hv4 vb)
   rw [<-HMV.out] at hwf
   have HWF:=qh hwf
   have bE:Hid (Since (λk=>k=g) U2 ((U4.drew.setCell ⟨g,i*54+1+rg,none⟩ (.int .i64 1)).setCell ⟨g,216+v,none⟩ (.int .i64 vb))):=Since.trans HS4.out HS2.out (λ_ h=> .inl h)
   clear hwf
   go_wp2_with fail
   go_meet
   case rel=>exact⟨HWF.out,bE.out⟩
  exact absurd o h7
 case rest=>
 obtain⟨HWM,HS⟩:=hcut
 obtain⟨R,rfl⟩:∃Y:World,Y=wc:=⟨_,rfl⟩
 have HSU:Hid (Since (λk=>k=g) U R):=Since.trans (zA _ bD.out) HS.out (λ_ h=> .inl h)
 have HER:=qh ((HSU.out.block _ (zI HEU.out) HGE.out).trans HEU.out)
 have kF:=qh (HCU.out.since HSU.out (λk hk=>by have hk:k=g:=hk;subst hk;exact HG.out) HGM.out)
 have HOR:Hid (yC g w R):=Since.trans HOU.out HSU.out (λ_ h=> .inl h)
 have k5:=ze HER.out 5
 have f5:=yD HER.out 5
 go_upto_region 18 with fail
 have hne:=zq HER.out 5 (.bool true)
 have hse:Since (λk=>k=ge) R (R.setCell ⟨ge,5,none⟩ (.bool true)):=Since.setCell (F:=λk=>k=ge) (p:=⟨ge,5,none⟩) (Since.refl _ R) (.inl rfl) _
 have HCG:Hid (Below V.heap.size V (R.setCell ⟨ge,5,none⟩ (.bool true))):=kF.out.base.setCell (p:=⟨ge,5,none⟩) HVG.out _
 generalize World.setCell R _ _=R2 at hne hse HCG ⊢
 have wB:Hid (R2.heap[ge]? =some (.cells #[.int .i64 ev, .int .i64 en, .bool true, .bool ew, .bool ef, .bool true] 61 (0,0))):=by show _=_;simpa using hne
 have zkz:=qh (HWM.out.since hse (λe=>HGE.out e.symm))
 have zfa:vE V R2 mb c cv d model:=⟨HCG.out,kF.out.code,(hse.cell (p:=⟨mb,1,none⟩) kF.out.lt HMG.out).trans kF.out.dom,(hse.cell (p:=⟨mb,2,none⟩) kF.out.lt HMG.out).trans kF.out.rows,(hse.cell (p:=⟨mb,3,none⟩) kF.out.lt HMG.out).trans kF.out.mod,Nat.lt_of_lt_of_le kF.out.lt hse.size⟩
 have zk0:=qh zfa
 have zk1:Hid (yC g w R2):=Since.trans HOR.out hse (λk hk=> .inr (by have hk:k=ge:=hk;have:=zeV.out;omega))
 clear hne hse HCG zfa k5 f5
 have k0:=ze wB.out 0
 have k1:=ze wB.out 1
 have k2:=ze wB.out 2
 have k3:=ze wB.out 3
 have k4:=ze wB.out 4
 have k5:=ze wB.out 5
 have zct:=qh (zbk R2 g M zkz.out i hi4 (by have h1:=HTH.out.2.1;omega) ⟨ev,en,true,ew,ef,true⟩)
 go_upto_region 19 with(go_at_call 42;go_must(refine zct.out.mono ?_);rintro e R3 ⟨rfl,hw2,zbl⟩;(have HW3:=qh hw2);(have HO3:=qh zbl);clear hw2 zbl k0 k1 k2 k3 k4 k5)
 have a0:=HW3.out.at0 hi4
 have hpe:=za.wm zkx.out hi4 ⟨ev,en,true,ew,ef,true⟩
 have hat:((M.yh i ⟨ev,en,true,ew,ef,true⟩).zD.getD i default).at_=p:=by
  have:((M.yh i ⟨ev,en,true,ew,ef,true⟩).th i).at_=(M.th i).at_:=by rw [hpe]
  exact this.trans HTH.out.1
 rw [hat] at a0
 have f0:=HW3.out.free (i*54)
 have hsm:(.int .i64 ((p:Int)+1):Value)= .int .i64 ((p+1:Nat):Int):=by simp
 have hw4:=HW3.out.setAt hi4 (p+1)
 have hs4:Since (λk=>k=g) R3 (R3.setCell ⟨g,i*54,none⟩ (.int .i64 ((p+1:Nat):Int))):=Since.setCell (F:=λk=>k=g) (p:=⟨g,i*54,none⟩) (Since.refl _ R3) (.inl rfl) _
 rw [<-hsm] at hw4 hs4
 have hset:=za.yT HW3.out.ok hi4 (p+1)
 have hm2:(((M.yh i ⟨ev,en,true,ew,ef,true⟩).setAt i (p+1)).th i).many=m+1:=by rw [hset];show((M.yh i _).th i).many=_;rw [hpe,HTH.out.2.1]
 have hp2:(((M.yh i ⟨ev,en,true,ew,ef,true⟩).setAt i (p+1)).th i).at_=p+1:=by rw [hset]
 have zk2:Hid ((((M.yh i ⟨ev,en,true,ew,ef,true⟩).setAt i (p+1)).th i).many+cntF model l (((M.yh i ⟨ev,en,true,ew,ef,true⟩).setAt i (p+1)).th i).at_<=8):=by
  show _<=8
  rw [hm2,hp2];exact jq.out
 clear hat hpe hsm hset hm2 hp2
 go_upto_region 20 with fail
 generalize World.setCell R3 _ _=R4 at hw4 hs4 ⊢
 have qy:=qh hw4
 have HO4:Hid (Since (λk=>k=g) R2 R4):=Since.trans HO3.out hs4 (λ_ h=> .inl h)
 have HC4:=qh (zk0.out.since HO4.out (λk hk=>by have hk:k=g:=hk;subst hk;exact HG.out) HGM.out)
 have zk3:Hid (yC g w R4):=Since.trans zk1.out HO4.out (λ_ h=> .inl h)
 clear hw4 hs4 a0 f0
 go_wp2_with(go_at_call 24;go_must(refine(ziS.out R4 HC4.out _ qy.out zk2.out).mono ?_);rintro e R5 ⟨rfl,hw5,zfd⟩;(have p8:=qh hw5);(have HO5:=qh zfd);clear hw5 zfd)
 go_ret
 exact qU.yes zeY.out (by rw [HRW.out];exact p8.out) (Since.trans zk3.out HO5.out (λ_ h=> .inl h))
