/- Steps. -/
import Derived.Test.YtknmdmimecepfaaGreatDoorVhAxPut
set_option linter.all false
namespace Go.Proofs.YtknmdmimecepfaaGreatDoor
open Go.RowKit
set_option maxRecDepth 100000
set_option maxHeartbeats 16000000
theorem zb4:(Tryz.prog.info? 45).map (·.size)=some 12:=by kernel_rfl
def wY (g i:Nat) (l:List zi) (V w:World) (d:Nat) (W':za) (e:Ending) (w':World):Prop:=
 ∃xv,e= .returned (.tuple #[xv, .bool (decide ((W'.th i).at_<l.length))])/\(¬(W'.th i).at_<l.length->xv= .agg #[.int .i64 0, .int .i64 0, .int .i64 0, .int .i64 0, .int .i64 0, .int .u8 0, .slice none 0 0, .int .i64 0, .int .i64 0, .int .u8 0, .slice none 0 0, .int .i64 0])/\((W'.th i).at_<l.length->∃ka kb,xv=qH (l.getD (W'.th i).at_ default) ka kb/\zM d V (l.getD (W'.th i).at_ default).a ka/\zM d V (l.getD (W'.th i).at_ default).b kb)/\zo w' g W'/\yC g w w'
theorem zgO {X:World} {g:Nat} {t:TypeId} {c0 c1 c2 c3 c4 c5 c6 c7 c8 c9 c10 c11:Value} (h:X.heap[g]? =some (.cells #[c0,c1,c2,c3,c4,c5,c6,c7,c8,c9,c10,c11] t (0,0))) (a0 a1 a2 a3 a4 a5 a6 a7 a8 a9 a10 a11:Value):
  ((((((((((((X.setCell ⟨g,0,none⟩ a0).setCell ⟨g,1,none⟩ a1).setCell ⟨g,2,none⟩ a2).setCell ⟨g,3,none⟩ a3).setCell ⟨g,4,none⟩ a4).setCell ⟨g,5,none⟩ a5).setCell ⟨g,6,none⟩ a6).setCell ⟨g,7,none⟩ a7).setCell ⟨g,8,none⟩ a8).setCell ⟨g,9,none⟩ a9).setCell ⟨g,10,none⟩ a10).setCell ⟨g,11,none⟩ a11).heap[g]? =some (.cells #[a0,a1,a2,a3,a4,a5,a6,a7,a8,a9,a10,a11] t (0,0)):=by
 have:=(zq (zq (zq (zq (zq (zq (zq (zq (zq (zq (zq (zq h 0 a0) 1 a1) 2 a2) 3 a3) 4 a4) 5 a5) 6 a6) 7 a7) 8 a8) 9 a9) 10 a10) 11 a11)
 simpa using this
theorem za8 {X:World} {g:Nat} (a0 a1 a2 a3 a4 a5 a6 a7 a8 a9 a10 a11:Value):Since (λk=>k=g) X ((((((((((((X.setCell ⟨g,0,none⟩ a0).setCell ⟨g,1,none⟩ a1).setCell ⟨g,2,none⟩ a2).setCell ⟨g,3,none⟩ a3).setCell ⟨g,4,none⟩ a4).setCell ⟨g,5,none⟩ a5).setCell ⟨g,6,none⟩ a6).setCell ⟨g,7,none⟩ a7).setCell ⟨g,8,none⟩ a8).setCell ⟨g,9,none⟩ a9).setCell ⟨g,10,none⟩ a10).setCell ⟨g,11,none⟩ a11):=(Since.setCell (F:=λk=>k=g) (p:=⟨g,11,none⟩) (Since.setCell (F:=λk=>k=g) (p:=⟨g,10,none⟩) (Since.setCell (F:=λk=>k=g) (p:=⟨g,9,none⟩) (Since.setCell (F:=λk=>k=g) (p:=⟨g,8,none⟩) (Since.setCell (F:=λk=>k=g) (p:=⟨g,7,none⟩) (Since.setCell (F:=λk=>k=g) (p:=⟨g,6,none⟩) (Since.setCell (F:=λk=>k=g) (p:=⟨g,5,none⟩) (Since.setCell (F:=λk=>k=g) (p:=⟨g,4,none⟩) (Since.setCell (F:=λk=>k=g) (p:=⟨g,3,none⟩) (Since.setCell (F:=λk=>k=g) (p:=⟨g,2,none⟩) (Since.setCell (F:=λk=>k=g) (p:=⟨g,1,none⟩) (Since.setCell (F:=λk=>k=g) (p:=⟨g,0,none⟩) (Since.refl _ X) (.inl rfl) a0) (.inl rfl) a1) (.inl rfl) a2) (.inl rfl) a3) (.inl rfl) a4) (.inl rfl) a5) (.inl rfl) a6) (.inl rfl) a7) (.inl rfl) a8) (.inl rfl) a9) (.inl rfl) a10) (.inl rfl) a11)
theorem zbY (V w:World) (mb:Nat) (c:zl) (cv:Value) (d:Nat) (model:Int) (hC:vE V w mb c cv d model) (h4:c.threads.length<=4) (hd1:1<=c.domain) (hd2:c.domain<=1000)
  (g:Nat) (hg:V.heap.size<=g) (hgm:mb≠g) (W:za) (hW:zo w g W) (i:Nat) (hi:i<c.threads.length) (hl:wh (c.threads.getD i [])) (hlen:(c.threads.getD i []).length<=600) (n:Nat) (hn:(c.threads.getD i []).length<=(W.th i).at_+n):
  Calls Tryz.prog 40 #[.pointer (some ⟨mb,0,none⟩), .pointer (some ⟨g,0,none⟩), .int .i64 i] w (wY g i (c.threads.getD i []) V w d (zB model c.domain d (c.threads.getD i []) i n W)):=by
 obtain⟨ta,tc,rfl, -⟩:=zf.slice hC.code
 obtain⟨eb,eo,ka,kc,rfl, -,hrow,hins⟩:=yB.part hC.code i hi
 obtain⟨l,hll⟩:∃l,l=c.threads.getD i [] :=⟨_,rfl⟩
 rw [<-hll] at hl hlen hn hrow hins ⊢
 clear hll
 obtain⟨dom,hdom⟩:∃x,x=c.domain:=⟨_,rfl⟩
 have hi4:i<4:=by omega
 have hiI:(i:Int)<4:=by omega
 obtain⟨cn,hcn⟩:∃x,x=c.threads.length:=⟨_,rfl⟩
 have hcc:Hid (∀x,vE V x mb c (.slice (some ⟨eb,eo,none⟩) cn tc) d model->x.cell? ⟨mb,1,none⟩=some (.int .i64 dom)/\x.cell? ⟨mb,2,none⟩=some (.slice (some ⟨eb,eo,none⟩) cn tc)):=λx hx=>⟨by rw [hdom];exact hx.dom,hx.rows⟩
 rw [<-hcn] at hi hC
 rw [<-hdom] at hd1 hd2 ⊢
 clear hdom hcn h4
 have ztx:(i:Int)<(cn:Int):=by omega
 obtain⟨ln,hln⟩:∃x,x=l.length:=⟨_,rfl⟩
 rw [<-hln] at hn hlen hrow hins
 have qm:=qh hln
 clear hln
 have HG:=qh hg
 have HC:=qh hC
 have HW:=qh hW
 have HL:=qh hl
 have qw:=qh hrow
 have zrs:=qh hins
 have HGM:=qh hgm
 have HN:=qh hn
 have HGW:=qh (zI hW.blk)
 have H0:=qh (yG w (.cells #[.int .i64 0, .int .i64 0, .int .i64 0, .int .i64 0, .int .i64 0, .int .u8 0, .slice none 0 0, .int .i64 0, .int .i64 0, .int .u8 0, .slice none 0 0, .int .i64 0] 45))
 have HB0:=qh (zw w (.cells #[.int .i64 0, .int .i64 0, .int .i64 0, .int .i64 0, .int .i64 0, .int .u8 0, .slice none 0 0, .int .i64 0, .int .i64 0, .int .u8 0, .slice none 0 0, .int .i64 0] 45))
 clear hC hW hl hrow hins hgm hn hg
 go_enter Tryz.func40,Tryz.ntmps40
 go_upto_region 1 with fail
 generalize World.alloc w _=X at H0 HB0 ⊢
 obtain⟨rb,hrb⟩:∃x,x=w.heap.size:=⟨_,rfl⟩
 rw [<-hrb] at H0 HGW ⊢
 have HRB:=qh hrb
 clear hrb
 have CC:Hid (∀x,Below X.heap.size X x->x.cell? ⟨mb,2,none⟩=some (.slice (some ⟨eb,eo,none⟩) cn tc)/\x.cell? ⟨eb,eo+i,none⟩=some (.slice ka ln kc)):=λx hx=>
  have h1:=(HC.out.later HB0.out).later hx
  ⟨h1.rows,zk h1.base _ _ qw.out⟩
 refine vP (S:=λx=>Below X.heap.size X x) ((Below.refl _ _).drew) (λhA1=> ?_)
 refine zh 0 CC.out ?_
 refine zh 1 CC.out ?_
 refine zh 2 CC.out ?_
 refine zh 3 CC.out ?_
 refine zh 4 CC.out ?_
 refine zh 5 CC.out ?_
 refine zh 6 CC.out ?_
 refine zh 7 CC.out ?_
 refine zh 8 CC.out ?_
 refine zh 9 CC.out ?_
 refine zh 10 CC.out ?_
 refine zh 11 CC.out ?_
 refine zh 12 CC.out ?_
 refine zh 13 CC.out ?_
 refine zh 14 CC.out ?_
 refine vK ?_
 obtain⟨Y,hY⟩:∃Y,Y=X.drew:=⟨_,rfl⟩
 rw [<-hY] at hA1 ⊢
 have HBY:=qh hA1
 have HCY:=qh ((HC.out.later HB0.out).later hA1)
 have HWY:=qh ((HW.out.later HB0.out).later hA1)
 have H0Y:=qh ((hA1.block _ (zI H0.out)).trans H0.out)
 have HOY:Hid (yC g w Y):=zA _ (zn HB0.out hA1)
 clear hY hA1 CC H0 HB0 HBY HC HW
 go_wp2_with fail
 go_loopg [] n (λgg wr=>∃Wc:za,ln<=(Wc.th i).at_+gg/\Hid (zo wr g Wc)/\Hid (zB model dom d l i n W=zB model dom d l i gg Wc)/\Hid (vE V wr mb c (.slice (some ⟨eb,eo,none⟩) cn tc) d model)/\Hid (yC g w wr)/\Hid (wr.heap[rb]? =some (.cells #[.int .i64 0, .int .i64 0, .int .i64 0, .int .i64 0, .int .i64 0, .int .u8 0, .slice none 0 0, .int .i64 0, .int .i64 0, .int .u8 0, .slice none 0 0, .int .i64 0] 45 (0,0))))
 case atStart=>exact⟨W,HN.out,HWY.out,rfl,HCY.out,HOY.out,H0Y.out⟩
 case round=>
 obtain⟨Wc,hge,wZ,bI,bC,HOC,HZC⟩:=hrel
 obtain⟨wo,rfl⟩:∃wo:World,wo=wr:=⟨_,rfl⟩
 have qp:=qh wZ.out.ok
 obtain⟨p,hp⟩:∃p,p=(Wc.th i).at_:=⟨_,rfl⟩
 rw [<-hp] at hge
 have a0:=wZ.out.at0 hi4
 rw [show(Wc.zD.getD i default).at_=p from hp.symm] at a0
 have HP:=qh hp
 clear hp
 by_cases hlt:p<ln
 rotate_left
 ·have hfin:zB model dom d l i n W=Wc:=by
   rw [bI.out]
   cases gk with
   |zero=>rfl
   |succ k=>
   show(if (Wc.th i).at_<l.length then _ else _)=_
   rw [<-HP.out,if_neg (by rw [<-qm.out];exact hlt)]
  have hat:(Wc.th i).at_=p:=HP.out.symm
  have zcz:=qh (zgO HZC.out (.int .i64 0) (.int .i64 0) (.int .i64 0) (.int .i64 0) (.int .i64 0) (.int .u8 0) (.slice none 0 0) (.int .i64 0) (.int .i64 0) (.int .u8 0) (.slice none 0 0) (.int .i64 0))
  have HSS:=qh (za8 (X:=wo) (g:=rb) (.int .i64 0) (.int .i64 0) (.int .i64 0) (.int .i64 0) (.int .i64 0) (.int .u8 0) (.slice none 0 0) (.int .i64 0) (.int .i64 0) (.int .u8 0) (.slice none 0 0) (.int .i64 0))
  have zU:Hid (∀X3,Since (λk=>k=rb) wo X3->wY g i l V w d (zB model dom d l i n W) (.returned (.tuple #[.agg #[.int .i64 0, .int .i64 0, .int .i64 0, .int .i64 0, .int .i64 0, .int .u8 0, .slice none 0 0, .int .i64 0, .int .i64 0, .int .u8 0, .slice none 0 0, .int .i64 0], .bool false])) X3):=λX3 hs3=>by
   rw [hfin]
   exact⟨_,by rw [hat, <-qm.out,decide_eq_false hlt],λ_=>rfl,λh=>absurd h (by rw [hat, <-qm.out];exact hlt),
    wZ.out.since hs3 (λe=>by have:=HGW.out;omega),Since.trans HOC.out hs3 (λk hk=> .inr (by have:=HRB.out;omega))⟩
  have hz:=HZC.out
  have z0:=ze hz 0
  have f0:=yD hz 0
  have z1:=ze hz 1
  have f1:=yD hz 1
  have z2:=ze hz 2
  have f2:=yD hz 2
  have z3:=ze hz 3
  have f3:=yD hz 3
  have z4:=ze hz 4
  have f4:=yD hz 4
  have z5:=ze hz 5
  have f5:=yD hz 5
  have z6:=ze hz 6
  have f6:=yD hz 6
  have z7:=ze hz 7
  have f7:=yD hz 7
  have z8:=ze hz 8
  have f8:=yD hz 8
  have z9:=ze hz 9
  have f9:=yD hz 9
  have z10:=ze hz 10
  have f10:=yD hz 10
  have z11:=ze hz 11
  have f11:=yD hz 11
  have hlI:¬(p:Int)<(ln:Int):=by omega
  clear hz hfin hat bI
  go_wp2_with fail
  (try simp only [Exit.inBlock,Exit.then])
  refine bodyPost_ret (za7 rfl _ _ rb 45 _ (0,0) _ rfl zcz.out Tryz.underlying45 rfl zb4) rfl ?_
  exact zU.out _ HSS.out
 have qK:(p:Int)<(ln:Int):=by omega
 have hp0:(0:Int)<=(p:Int):=by omega
 obtain⟨gg,hgg⟩:∃q,gk=q+1:=⟨gk - 1,by omega⟩
 have HGG:=qh hgg
 have hstep:zB model dom d l i gk Wc=if xK model (l.getD p default).op then Wc else zB model dom d l i gg (yY dom d (l.getD p default) i Wc):=by
  rw [hgg]
  show(if (Wc.th i).at_<l.length then _ else _)=_
  rw [<-HP.out,if_pos (by rw [<-qm.out];exact hlt)]
 clear hgg
 obtain⟨ib,io,aa,ac,ba,bc,rfl, -,⟨i0,i1,i2⟩,⟨i3,i4,i5,i6⟩,⟨i7,i8,i9,i10⟩,i11,xea,xeb⟩:=qz.part zrs.out p (by rw [<-qm.out];exact hlt)
 have hmore:=zdg wZ.out.ok hi4 HL.out (by rw [<-HP.out, <-qm.out];exact hlt) dom d
 rw [<-HP.out] at hmore
 have hgood:=HL.out p (by rw [<-qm.out];exact hlt)
 obtain⟨x,hx⟩:∃x,x=l.getD p default:=⟨_,rfl⟩
 rw [<-hx] at i0 i1 i2 i3 i4 i5 i6 i7 i8 i9 i10 i11 xea xeb hstep hmore hgood
 have HX:=qh hx
 clear hx
 have zsI:=qh (zf6 wZ.out.ok hi4 dom d x)
 have xw:=λy (hy:vE V y mb c (.slice (some ⟨eb,eo,none⟩) cn tc) d model)=>zbN y mb model hy.mod x (.slice aa x.a.kids.length ac) (.slice ba x.b.kids.length bc)
 obtain⟨tb,htb⟩:∃b,b=xK model x.op:=⟨_,rfl⟩
 rw [<-htb] at hstep xw
 clear htb
 have zie:=qh hstep
 have zpt:=qh hmore
 have HEA:=qh xea
 have HEB:=qh xeb
 clear hstep hmore xea xeb
 have zbB:=(za.yu wZ.out.ok hi4).regs
 have hg0:=wZ.out.reg hi4 (k:=0) (by omega)
 have hg1:=wZ.out.reg hi4 (k:=1) (by omega)
 have hg2:=wZ.out.reg hi4 (k:=2) (by omega)
 have hg3:=wZ.out.reg hi4 (k:=3) (by omega)
 obtain⟨rs,hrs⟩:∃rs,rs=(Wc.zD.getD i default).regs:=⟨_,rfl⟩
 rw [<-hrs] at zbB hg0 hg1 hg2 hg3
 obtain⟨r0,r1,r2,r3,rfl⟩:=bY zbB
 simp only [List.getD_cons_zero,List.getD_cons_succ] at hg0 hg1 hg2 hg3
 have hone:yY dom d x i Wc=if x.op=3 then(Wc.setAt i (p+1)).zN i x.reg.toNat (yt [r0,r1,r2,r3] dom d x.a) else if x.op=9 then(Wc.setAt i (p+1)).qo (Wc.fails||decide (yt [r0,r1,r2,r3] dom d x.a=0)) else if x.op=13\/(x.op=12/\yt [r0,r1,r2,r3] dom d x.a=0) then Wc.setAt i x.dest.toNat else Wc.setAt i (p+1):=by
  rw [hrs,HP.out];rfl
 have hev:=λy (hy:Below V.heap.size V y)=>uU r0 r1 r2 r3 dom hd1 hd2 d y x.a _ (HEA.out.below hy)
 unfold qc at hev
 unfold qH at xw
 obtain⟨va,hva⟩:∃v,v=yt [r0,r1,r2,r3] dom d x.a:=⟨_,rfl⟩
 rw [<-hva] at hev hone
 obtain⟨fa,hfa⟩:∃b,b=Wc.fails:=⟨_,rfl⟩
 rw [<-hfa] at hone
 have HFA:=qh hfa
 have HRS:=qh hrs
 clear hva hrs zbB hfa
 obtain⟨op,hop⟩:∃v,v=x.op:=⟨_,rfl⟩
 obtain⟨rg,hrg⟩:∃v:Nat,(v:Int)=x.reg:=⟨x.reg.toNat,by omega⟩
 obtain⟨vr,hvr⟩:∃v,v=x.var:=⟨_,rfl⟩
 obtain⟨jl,hak⟩:∃v,v=x.a.kind:=⟨_,rfl⟩
 obtain⟨jm,han⟩:∃v,v=x.a.n:=⟨_,rfl⟩
 obtain⟨jo,hao⟩:∃v,v=x.a.op:=⟨_,rfl⟩
 obtain⟨al,hal⟩:∃v,v=x.a.kids.length:=⟨_,rfl⟩
 obtain⟨jT,hbk⟩:∃v,v=x.b.kind:=⟨_,rfl⟩
 obtain⟨jU,hbn⟩:∃v,v=x.b.n:=⟨_,rfl⟩
 obtain⟨jV,hbo⟩:∃v,v=x.b.op:=⟨_,rfl⟩
 obtain⟨bl,hbl⟩:∃v,v=x.b.kids.length:=⟨_,rfl⟩
 obtain⟨ds,hds⟩:∃v,v=x.dest:=⟨_,rfl⟩
 have hxv:(.agg #[.int .i64 op, .int .i64 rg, .int .i64 vr, .int .i64 jl, .int .i64 jm, .int .u8 jo, .slice aa al ac, .int .i64 jT, .int .i64 jU, .int .u8 jV, .slice ba bl bc, .int .i64 ds] :Value)=qH x (.slice aa x.a.kids.length ac) (.slice ba x.b.kids.length bc):=by rw [hop,hrg,hvr,hak,han,hao,hal,hbk,hbn,hbo,hbl,hds];rfl
 have HXV:=qh hxv
 clear hxv
 rw [<-hop] at i0 xw hone hgood
 rw [<-hrg] at i1 xw hone hgood
 rw [<-hvr] at i2 xw
 rw [<-hak] at i3 xw hev
 rw [<-han] at i4 xw hev
 rw [<-hao] at i5 xw hev
 rw [<-hal] at i6 xw hev
 rw [<-hbk] at i7 xw
 rw [<-hbn] at i8 xw
 rw [<-hbo] at i9 xw
 rw [<-hbl] at i10 xw
 rw [<-hds] at i11 xw hone hgood
 have bP:rg<4:=by omega
 have zqJ:(rg:Int)<4:=by omega
 have hrg0:(0:Int)<=(rg:Int):=by omega
 simp only [Int.toNat_natCast] at hone
 have zoP:xL op=true->∃k:Nat,ds=(k:Int):=λh=>⟨ds.toNat,by have:=hgood.2.2 h;omega⟩
 have HDS:=qh zoP
 have pI:=qh xw
 have ku:=qh hone
 have HEV:=qh hev
 clear hop hrg hvr hak han hao hal hbk hbn hbo hbl hds hgood zoP xw hone hev
 have HCB:=qh bC.out.base
 have HIC:Hid (∀y,Below V.heap.size V y->(y.cell? ⟨ib,io+p*12,none⟩=some (.int .i64 op)/\y.cell? ⟨ib,io+p*12+1,none⟩=some (.int .i64 rg)/\y.cell? ⟨ib,io+p*12+2,none⟩=some (.int .i64 vr)/\y.cell? ⟨ib,io+p*12+3,none⟩=some (.int .i64 jl)/\y.cell? ⟨ib,io+p*12+4,none⟩=some (.int .i64 jm)/\y.cell? ⟨ib,io+p*12+5,none⟩=some (.int .u8 jo)/\y.cell? ⟨ib,io+p*12+6,none⟩=some (.slice aa al ac))/\
   y.cell? ⟨ib,io+p*12+7,none⟩=some (.int .i64 jT)/\y.cell? ⟨ib,io+p*12+8,none⟩=some (.int .i64 jU)/\y.cell? ⟨ib,io+p*12+9,none⟩=some (.int .u8 jV)/\y.cell? ⟨ib,io+p*12+10,none⟩=some (.slice ba bl bc)/\y.cell? ⟨ib,io+p*12+11,none⟩=some (.int .i64 ds)):=λy hy=>
  ⟨⟨zk hy _ _ i0,zk hy _ _ i1,zk hy _ _ i2,zk hy _ _ i3,zk hy _ _ i4,zk hy _ _ i5,zk hy _ _ i6⟩,zk hy _ _ i7,zk hy _ _ i8,zk hy _ _ i9,zk hy _ _ i10,zk hy _ _ i11⟩
 clear i0 i1 i2 i3 i4 i5 i6 i7 i8 i9 i10 i11
 obtain⟨⟨i0,i1,i2,i3,i4,i5,i6⟩,i7,i8,i9,i10,i11⟩:=HIC.out wo HCB.out
 have HA:=qh (zw wo (.cells #[.int .i64 op, .int .i64 rg, .int .i64 vr, .int .i64 jl, .int .i64 jm, .int .u8 jo, .slice aa al ac, .int .i64 jT, .int .i64 jU, .int .u8 jV, .slice ba bl bc, .int .i64 ds] 45))
 have zL:=qh (yG wo (.cells #[.int .i64 op, .int .i64 rg, .int .i64 vr, .int .i64 jl, .int .i64 jm, .int .u8 jo, .slice aa al ac, .int .i64 jT, .int .i64 jU, .int .u8 jV, .slice ba bl bc, .int .i64 ds] 45))
 go_upto_region 4 with fail
 generalize World.alloc wo _=U at HA zL ⊢
 have hub:=zL.out
 have hul:=HA.out
 clear HA zL i0 i1 i2 i3 i4 i5 i6 i7 i8 i9 i10 i11 a0 hg0 hg1 hg2 hg3
 obtain⟨gx,hgx⟩:∃x,x=wo.heap.size:=⟨_,rfl⟩
 rw [<-hgx] at hub ⊢
 have HGX:=qh hgx
 have uS:=qh hub
 have HUL:=qh hul
 have HCU:=qh (bC.out.later hul)
 have HWU:=qh (wZ.out.later hul)
 have HOU:Hid (yC g w U):=Since.trans HOC.out (zA (λ_=>False) hul) (λ_ h=>h.elim)
 have HZU:=qh ((hul.block _ (zI HZC.out)).trans HZC.out)
 clear hub hul hgx
 have gG:Hid (∀y,Below U.heap.size U y->(y.cell? ⟨gx,0,none⟩=some (.int .i64 op)/\y.cell? ⟨gx,1,none⟩=some (.int .i64 rg)/\y.cell? ⟨gx,2,none⟩=some (.int .i64 vr)/\y.cell? ⟨gx,3,none⟩=some (.int .i64 jl)/\y.cell? ⟨gx,4,none⟩=some (.int .i64 jm)/\y.cell? ⟨gx,5,none⟩=some (.int .u8 jo)/\y.cell? ⟨gx,6,none⟩=some (.slice aa al ac))/\y.cell? ⟨gx,7,none⟩=some (.int .i64 jT)/\y.cell? ⟨gx,8,none⟩=some (.int .i64 jU)/\y.cell? ⟨gx,9,none⟩=some (.int .u8 jV)/\y.cell? ⟨gx,10,none⟩=some (.slice ba bl bc)/\y.cell? ⟨gx,11,none⟩=some (.int .i64 ds)):=λy hy=>⟨⟨zk hy _ _ (ze uS.out 0),zk hy _ _ (ze uS.out 1),zk hy _ _ (ze uS.out 2),zk hy _ _ (ze uS.out 3),zk hy _ _ (ze uS.out 4),zk hy _ _ (ze uS.out 5),zk hy _ _ (ze uS.out 6)⟩,zk hy _ _ (ze uS.out 7),zk hy _ _ (ze uS.out 8),zk hy _ _ (ze uS.out 9),zk hy _ _ (ze uS.out 10),zk hy _ _ (ze uS.out 11)⟩
 obtain⟨⟨b0,b1,b2,b3,b4,b5,b6⟩,b7,b8,b9,b10,b11⟩:=gG.out U (Below.refl _ _)
 cases tb with
 |true=>
  go_upto_region 5 with(go_at_call 38;go_must(refine(pI.out U HCU.out).mono ?_);rintro e U1 ⟨rfl,hb1⟩;(have HU1:=qh hb1);clear hb1 b0 b1 b2 b3 b4 b5 b6 b7 b8 b9 b10 b11)
  obtain⟨⟨b0,b1,b2,b3,b4,b5,b6⟩,b7,b8,b9,b10,b11⟩:=gG.out U1 HU1.out
  have hz:=(HU1.out.block _ (zI HZU.out)).trans HZU.out
  have z0:=ze hz 0
  have f0:=yD hz 0
  have z1:=ze hz 1
  have f1:=yD hz 1
  have z2:=ze hz 2
  have f2:=yD hz 2
  have z3:=ze hz 3
  have f3:=yD hz 3
  have z4:=ze hz 4
  have f4:=yD hz 4
  have z5:=ze hz 5
  have f5:=yD hz 5
  have z6:=ze hz 6
  have f6:=yD hz 6
  have z7:=ze hz 7
  have f7:=yD hz 7
  have z8:=ze hz 8
  have f8:=yD hz 8
  have z9:=ze hz 9
  have f9:=yD hz 9
  have z10:=ze hz 10
  have f10:=yD hz 10
  have z11:=ze hz 11
  have f11:=yD hz 11
  have zcz:=qh (zgO hz (.int .i64 op) (.int .i64 rg) (.int .i64 vr) (.int .i64 jl) (.int .i64 jm) (.int .u8 jo) (.slice aa al ac) (.int .i64 jT) (.int .i64 jU) (.int .u8 jV) (.slice ba bl bc) (.int .i64 ds))
  have HSS:=qh (za8 (X:=U1) (g:=rb) (.int .i64 op) (.int .i64 rg) (.int .i64 vr) (.int .i64 jl) (.int .i64 jm) (.int .u8 jo) (.slice aa al ac) (.int .i64 jT) (.int .i64 jU) (.int .u8 jV) (.slice ba bl bc) (.int .i64 ds))
  have hfin:zB model dom d l i n W=Wc:=by rw [bI.out,zie.out];rfl
  have hat:(Wc.th i).at_=p:=HP.out.symm
  have zU:Hid (∀X3,Since (λk=>k=rb) U1 X3->wY g i l V w d (zB model dom d l i n W) (.returned (.tuple #[.agg #[.int .i64 op, .int .i64 rg, .int .i64 vr, .int .i64 jl, .int .i64 jm, .int .u8 jo, .slice aa al ac, .int .i64 jT, .int .i64 jU, .int .u8 jV, .slice ba bl bc, .int .i64 ds], .bool true])) X3):=λX3 hs3=>by
   rw [hfin]
   exact⟨_,by rw [hat, <-qm.out,decide_eq_true hlt],λh=>absurd (by rw [hat, <-qm.out];exact hlt) h,λ_=>⟨_,_,by rw [hat, <-HX.out];exact HXV.out,by rw [hat, <-HX.out];exact HEA.out,by rw [hat, <-HX.out];exact HEB.out⟩,
    (HWU.out.later HU1.out).since hs3 (λe=>by have:=HGW.out;omega),Since.trans (Since.trans HOU.out (zA (λ_=>False) HU1.out) (λ_ h=>h.elim)) hs3 (λk hk=> .inr (by have:=HRB.out;omega))⟩
  clear hz hfin hat
  go_wp2_with fail
  (try simp only [Exit.inBlock,Exit.then])
  refine bodyPost_ret (za7 rfl _ _ rb 45 _ (0,0) _ rfl zcz.out Tryz.underlying45 rfl zb4) rfl ?_
  exact zU.out _ HSS.out
 |false=>
 go_upto_region 6 with(go_at_call 38;go_must(refine(pI.out U HCU.out).mono ?_);rintro e U1 ⟨rfl,hb1⟩;(have HU1:=qh hb1);clear hb1 b0 b1 b2 b3 b4 b5 b6 b7 b8 b9 b10 b11)
 have HC1:=qh (HCU.out.later HU1.out)
 have HW1:=qh (HWU.out.later HU1.out)
 have HB1:=qh ((HU1.out.block _ (zI uS.out)).trans uS.out)
 have HZ1:=qh ((HU1.out.block _ (zI HZU.out)).trans HZU.out)
 have HO1:Hid (yC g w U1):=Since.trans HOU.out (zA (λ_=>False) HU1.out) (λ_ h=>h.elim)
 have zrt:Hid (gx≠g):=by have h1:=zI wZ.out.blk;have h2:=HGX.out;show gx≠g;omega
 have zru:Hid (rb≠g):=by have h1:=HGW.out;show rb≠g;omega
 clear HCU HWU uS HZU HOU HU1 gG HUL HIC pI bC wZ HOC HZC HGX HXV
 have C6:Hid (∀y,Below U1.heap.size U1 y->y.cell? ⟨gx,3,none⟩=some (.int .i64 jl)/\y.cell? ⟨gx,4,none⟩=some (.int .i64 jm)/\y.cell? ⟨gx,5,none⟩=some (.int .u8 jo)/\y.cell? ⟨gx,6,none⟩=some (.slice aa al ac)/\y.cell? ⟨mb,1,none⟩=some (.int .i64 dom)/\
   y.cell? ⟨g,i*54+1,none⟩=some (.int .i64 r0)/\y.cell? ⟨g,i*54+1+1,none⟩=some (.int .i64 r1)/\y.cell? ⟨g,i*54+1+2,none⟩=some (.int .i64 r2)/\y.cell? ⟨g,i*54+1+3,none⟩=some (.int .i64 r3)):=λy hy=>
  have hr:=HRS.out
  ⟨zk hy _ _ (ze HB1.out 3),zk hy _ _ (ze HB1.out 4),zk hy _ _ (ze HB1.out 5),zk hy _ _ (ze HB1.out 6),(hcc.out _ (HC1.out.later hy)).1,
   zk hy _ _ (by have:=HW1.out.reg hi4 (k:=0) (by omega);rw [<-hr] at this;exact this),zk hy _ _ (by have:=HW1.out.reg hi4 (k:=1) (by omega);rw [<-hr] at this;exact this),zk hy _ _ (by have:=HW1.out.reg hi4 (k:=2) (by omega);rw [<-hr] at this;exact this),zk hy _ _ (by have:=HW1.out.reg hi4 (k:=3) (by omega);rw [<-hr] at this;exact this)⟩
 refine vP (S:=λx=>Below U1.heap.size U1 x) ((Below.refl _ _).drew) (λhA6=> ?_)
 refine zh 0 C6.out ?_
 refine zh 1 C6.out ?_
 refine zh 2 C6.out ?_
 refine zh 3 C6.out ?_
 refine zh 4 C6.out ?_
 refine zh 5 C6.out ?_
 refine zh 6 C6.out ?_
 refine zh 7 C6.out ?_
 refine zh 8 C6.out ?_
 refine zh 9 C6.out ?_
 refine zh 10 C6.out ?_
 refine qG 11 rfl (λK hK=> ?_)
 go_simp
 refine(HEV.out U1.drew ((HC1.out.later hA6).base)).mono ?_
 rintro e zeX ⟨rfl,hb⟩
 have gB:Below U1.heap.size U1 zeX:=zn hA6 hb
 refine hK.out _ _ gB (λ_=> ?_)
 clear hK K hb hA6
 refine zh 12 C6.out ?_
 refine vK ?_
 obtain⟨U2,hU2⟩:∃y,y=zeX:=⟨_,rfl⟩
 rw [<-hU2] at gB ⊢
 have HW2:=qh (HW1.out.later gB)
 have HB2:=qh ((gB.block _ (zI HB1.out)).trans HB1.out)
 have uI:=qh (HC1.out.later gB)
 have HZ2:=qh ((gB.block _ (zI HZ1.out)).trans HZ1.out)
 have HO2:Hid (yC g w U2):=Since.trans HO1.out (zA (λ_=>False) gB) (λ_ h=>h.elim)
 clear hU2 gB C6 HW1 HB1 HC1 HZ1 HO1
 have a0:=HW2.out.at0 hi4
 rw [show(Wc.zD.getD i default).at_=p from HP.out.symm] at a0
 have f0:=HW2.out.free (i*54)
 go_upto_region 8 with fail
 have hsm:(.int .i64 ((p:Int)+1):Value)= .int .i64 ((p+1:Nat):Int):=by simp
 have hw3:=HW2.out.setAt hi4 (p+1)
 have hs3:Since (λk=>k=g) U2 (U2.setCell ⟨g,i*54,none⟩ (.int .i64 ((p+1:Nat):Int))):=Since.setCell (F:=λk=>k=g) (p:=⟨g,i*54,none⟩) (Since.refl _ U2) (.inl rfl) _
 rw [<-hsm] at hw3 hs3
 generalize World.setCell U2 _ _=X2 at hw3 hs3 ⊢
 have HW3:=qh hw3
 have HS3:=qh hs3
 have HB3:=qh ((hs3.block _ (zI HB2.out) zrt.out).trans HB2.out)
 clear hsm hw3 hs3 a0 f0
 have b0:=ze HB3.out 0
 have b1:=ze HB3.out 1
 have b11:=ze HB3.out 11
 have hnext:zB model dom d l i n W=zB model dom d l i gg (yY dom d x i Wc):=by rw [bI.out,zie.out];rfl
 have zer:=qh hnext
 clear hnext bI zie
 have zbt:Hid (∀X3,zo X3 g (yY dom d x i Wc)->Since (λk=>k=g) X2 X3->∃Wd:za,ln<=(Wd.th i).at_+gg/\zo X3 g Wd/\zB model dom d l i n W=zB model dom d l i gg Wd/\vE V X3 mb c (.slice (some ⟨eb,eo,none⟩) cn tc) d model/\yC g w X3/\X3.heap[rb]? =some (.cells #[.int .i64 0, .int .i64 0, .int .i64 0, .int .i64 0, .int .i64 0, .int .u8 0, .slice none 0 0, .int .i64 0, .int .i64 0, .int .u8 0, .slice none 0 0, .int .i64 0] 45 (0,0))):=λX3 h1 h2=>
  have hs:Since (λk=>k=g) U2 X3:=Since.trans HS3.out h2 (λ_ h=> .inl h)
  ⟨_,by have h1:=zpt.out;have h2:=HGG.out;omega,h1,zer.out,uI.out.since hs (λk hk=>by have hk:k=g:=hk;subst hk;exact HG.out) HGM.out,Since.trans HO2.out hs (λ_ h=> .inl h),(hs.block _ (zI HZ2.out) zru.out).trans HZ2.out⟩
 by_cases o3:op=3
 ·subst o3
  have zpu:Hid (yY dom d x i Wc=(Wc.setAt i (p+1)).zN i rg va):=by show _=_;rw [ku.out,if_pos rfl]
  have C9:Hid (∀y,Below X2.heap.size X2 y->y.cell? ⟨gx,1,none⟩=some (.int .i64 rg)):=λy hy=>zk hy _ _ (ze HB3.out 1)
  clear ku
  go_upto_region 9 with fail
  clear b0 b1 b11
  refine wp_region_noPanic ?_
  refine yM (n0:=7) (S:=λx=>Below X2.heap.size X2 x) (by kernel_rfl) ((Below.refl _ _).drew) (λhA9=> ?_)
  refine zT 0 (λ_=>hA9) ?_
  refine zT 1 (λ_=>hA9) ?_
  refine jR [6,7] 2 C9.out hA9 ?_
  refine zT 3 (λ_=>hA9) ?_
  refine zT 4 (λ_=>hA9) ?_
  refine zT 5 (λ_=>hA9) ?_
  refine zT 6 (λ_=>hA9) ?_
  refine wM 7 rfl (λK hK=> ?_)
  have kE:=HW3.out.later hA9
  have q0:=kE.reg hi4 bP
  have q1:=kE.free (i*54+1+rg)
  clear kE
  go_simp
  refine hK.out _ _ (λh=>absurd rfl h) ?_
  clear hK K
  refine xG (by kernel_rfl) ?_ _
  refine NoPanic.normal ?_
  clear q0 q1
  have hx3:=(HW3.out.later (Below.refl _ _).drew).zN hi4 bP va
  have kT:=qh (zbt.out _ (by rw [zpu.out];exact hx3) (Since.setCell (F:=λk=>k=g) (p:=⟨g,i*54+1+rg,none⟩) (Since.drew _ (Since.refl _ X2)) (.inl rfl) _))
  clear hx3
  go_wp2_with fail
  go_roundg gg
  case measure=>have:=HGG.out;omega
  case rel=>obtain⟨Wd,k1,k2,k3,k4,k5,k6⟩:=kT.out;exact⟨Wd,k1,k2,k3,k4,k5,k6⟩
 have n3:((op:Int)==3)=false:=by simpa using o3
 by_cases o9:op=9
 ·subst o9
  have zpv:Hid (yY dom d x i Wc=(Wc.setAt i (p+1)).qo (fa||decide (va=0))):=by show _=_;rw [ku.out,if_neg (by omega),if_pos rfl]
  have z0:=HW3.out.fails
  rw [show(Wc.setAt i (p+1)).fails=fa from HFA.out.symm] at z0
  have z1:=HW3.out.free 220
  have hx3:=λb=>HW3.out.qo b
  have kT:Hid (∀b,b=(fa||decide (va=0))->∃Wd:za,ln<=(Wd.th i).at_+gg/\zo (X2.setCell ⟨g,220,none⟩ (.bool b)) g Wd/\zB model dom d l i n W=zB model dom d l i gg Wd/\vE V (X2.setCell ⟨g,220,none⟩ (.bool b)) mb c (.slice (some ⟨eb,eo,none⟩) cn tc) d model/\yC g w (X2.setCell ⟨g,220,none⟩ (.bool b))/\(X2.setCell ⟨g,220,none⟩ (.bool b)).heap[rb]? =some (.cells #[.int .i64 0, .int .i64 0, .int .i64 0, .int .i64 0, .int .i64 0, .int .u8 0, .slice none 0 0, .int .i64 0, .int .i64 0, .int .u8 0, .slice none 0 0, .int .i64 0] 45 (0,0))):=λb hb=>
   zbt.out _ (by rw [zpv.out, <-hb];exact hx3 b) (Since.setCell (F:=λk=>k=g) (p:=⟨g,220,none⟩) (Since.refl _ X2) (.inl rfl) _)
  clear hx3 ku
  cases fa with
  |true=>
   go_wp2_with fail
   go_roundg gg
   case measure=>have:=HGG.out;omega
   case rel=>obtain⟨Wd,k1,k2,k3,k4,k5,k6⟩:=kT.out true rfl;exact⟨Wd,k1,k2,k3,k4,k5,k6⟩
  |false=>
  by_cases hv:va=0
  ·subst hv
   go_wp2_with fail
   go_roundg gg
   case measure=>have:=HGG.out;omega
   case rel=>obtain⟨Wd,k1,k2,k3,k4,k5,k6⟩:=kT.out true rfl;exact⟨Wd,k1,k2,k3,k4,k5,k6⟩
  have hvb:((va:Int)==0)=false:=by simpa using hv
  have HV:=qh hv
  clear hv
  go_wp2_with fail
  go_roundg gg
  case measure=>have:=HGG.out;omega
  case rel=>obtain⟨Wd,k1,k2,k3,k4,k5,k6⟩:=kT.out false (by simp [HV.out]);exact⟨Wd,k1,k2,k3,k4,k5,k6⟩
 have n9:((op:Int)==9)=false:=by simpa using o9
 have z0:=HW3.out.at0 hi4
 have z1:=HW3.out.free (i*54)
 have hx3:=λ(q:Nat)=>HW3.out.setAt hi4 q
 have kT:Hid (∀q:Nat,yY dom d x i Wc=Wc.setAt i q->∃Wd:za,ln<=(Wd.th i).at_+gg/\zo (X2.setCell ⟨g,i*54,none⟩ (.int .i64 (q:Int))) g Wd/\zB model dom d l i n W=zB model dom d l i gg Wd/\vE V (X2.setCell ⟨g,i*54,none⟩ (.int .i64 (q:Int))) mb c (.slice (some ⟨eb,eo,none⟩) cn tc) d model/\yC g w (X2.setCell ⟨g,i*54,none⟩ (.int .i64 (q:Int)))/\(X2.setCell ⟨g,i*54,none⟩ (.int .i64 (q:Int))).heap[rb]? =some (.cells #[.int .i64 0, .int .i64 0, .int .i64 0, .int .i64 0, .int .i64 0, .int .u8 0, .slice none 0 0, .int .i64 0, .int .i64 0, .int .u8 0, .slice none 0 0, .int .i64 0] 45 (0,0))):=λq hq=>
  zbt.out _ (by rw [hq];have:=hx3 q;rwa [za.zgh qp.out hi4] at this) (Since.setCell (F:=λk=>k=g) (p:=⟨g,i*54,none⟩) (Since.refl _ X2) (.inl rfl) _)
 clear hx3
 by_cases o13:op=13
 ·subst o13
  obtain⟨q,rfl⟩:=HDS.out rfl
  have HN3:Hid (yY dom d x i Wc=Wc.setAt i q):=by show _=_;rw [ku.out,if_neg (by omega),if_neg (by omega),if_pos (.inl rfl)];rfl
  go_wp2_with fail
  go_roundg gg
  case measure=>have:=HGG.out;omega
  case rel=>obtain⟨Wd,k1,k2,k3,k4,k5,k6⟩:=kT.out q HN3.out;exact⟨Wd,k1,k2,k3,k4,k5,k6⟩
 have n13:((op:Int)==13)=false:=by simpa using o13
 by_cases o12:op=12
 ·subst o12
  by_cases hv:va=0
  ·subst hv
   obtain⟨q,rfl⟩:=HDS.out rfl
   have HN3:Hid (yY dom d x i Wc=Wc.setAt i q):=by show _=_;rw [ku.out,if_neg (by omega),if_neg (by omega),if_pos (.inr ⟨rfl,rfl⟩)];rfl
   go_wp2_with fail
   go_roundg gg
   case measure=>have:=HGG.out;omega
   case rel=>obtain⟨Wd,k1,k2,k3,k4,k5,k6⟩:=kT.out q HN3.out;exact⟨Wd,k1,k2,k3,k4,k5,k6⟩
  have hvb:((va:Int)==0)=false:=by simpa using hv
  have HN3:Hid (yY dom d x i Wc=Wc.setAt i (p+1)):=by show _=_;rw [ku.out,if_neg (by omega),if_neg (by omega),if_neg (by omega)]
  have HF:=qh (zbt.out X2 (by rw [HN3.out];exact HW3.out) (Since.refl _ _))
  clear hv
  go_wp2_with fail
  go_roundg gg
  case measure=>have:=HGG.out;omega
  case rel=>obtain⟨Wd,k1,k2,k3,k4,k5,k6⟩:=HF.out;exact⟨Wd,k1,k2,k3,k4,k5,k6⟩
 have n12:((op:Int)==12)=false:=by simpa using o12
 have HN3:Hid (yY dom d x i Wc=Wc.setAt i (p+1)):=by show _=_;rw [ku.out,if_neg o3,if_neg o9,if_neg (by omega)]
 have HF:=qh (zbt.out X2 (by rw [HN3.out];exact HW3.out) (Since.refl _ _))
 go_wp2_with fail
 go_roundg gg
 case measure=>have:=HGG.out;omega
 case rel=>obtain⟨Wd,k1,k2,k3,k4,k5,k6⟩:=HF.out;exact⟨Wd,k1,k2,k3,k4,k5,k6⟩
