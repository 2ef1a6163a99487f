/- Steps. -/
import Derived.Test.YtknmdmimecepfaaGreatDoorVhPCode
import Derived.Test.YtknmdmimecepfaaGreatDoorVhPEval
import Derived.Test.YtknmdmimecepfaaGreatDoorVhTail
set_option linter.all false
namespace Go.Proofs.YtknmdmimecepfaaGreatDoor
open Go.RowKit
set_option maxRecDepth 100000
set_option maxHeartbeats 16000000
def jS (model:Int) (a b:zP):Bool:=decide (model=0)||a.fence||b.fence||a.reads||(!b.reads && (decide (model=1)||decide (a.v=b.v)))
def xK (model op:Int):Bool:=decide (op=1)||decide (op=2)||decide (op=4)||decide (op=6)||decide (op=7)||decide (op=8)||(decide (op=5) && decide (model=2))
def yP (dom:Int) (d:Nat) (regs:List Int) (x:zi):zP:=
 if x.op=1 then⟨x.var,0,true,false,false,false⟩
 else if x.op=2 then⟨x.var,yt regs dom d x.a,false,true,false,false⟩
 else if x.op=8 then⟨x.var,0,false,true,true,false⟩
 else if x.op=6\/x.op=7 then⟨x.var,0,true,false,true,false⟩
 else⟨0,0,false,false,true,false⟩
theorem zis (w:World) (mb:Nat) (model:Int) (hm:w.cell? ⟨mb,3,none⟩=some (.int .i64 model)) (a b:zP):
  Calls Tryz.prog 87 #[.pointer (some ⟨mb,0,none⟩),a.val,b.val] w λe w'=>e= .returned (.bool (jS model a b))/\Below w.heap.size w w':=by
 obtain⟨r,hr⟩:∃r,r=jS model a b:=⟨_,rfl⟩
 rw [<-hr]
 obtain⟨av,an,ar,aw,af,ac⟩:=a
 obtain⟨bv,bn,br,bw,bf,bc⟩:=b
 have hr2:r=(decide (model=0)||af||bf||ar||(!br && (decide (model=1)||decide (av=bv)))):=hr
 clear hr
 unfold zP.val
 simp only []
 have HB:=qh (xH w (.cells #[.int .i64 av, .int .i64 an, .bool ar, .bool aw, .bool af, .bool ac] 61) (.cells #[.int .i64 bv, .int .i64 bn, .bool br, .bool bw, .bool bf, .bool bc] 61))
 have H1:=qh (xI w (.cells #[.int .i64 av, .int .i64 an, .bool ar, .bool aw, .bool af, .bool ac] 61) (.cells #[.int .i64 bv, .int .i64 bn, .bool br, .bool bw, .bool bf, .bool bc] 61))
 have H2:=qh (xu w (.cells #[.int .i64 av, .int .i64 an, .bool ar, .bool aw, .bool af, .bool ac] 61) (.cells #[.int .i64 bv, .int .i64 bn, .bool br, .bool bw, .bool bf, .bool bc] 61))
 have hm2:=zk HB.out _ _ hm
 clear hm
 have HR:=qh hr2
 clear hr2
 go_enter Tryz.func87,Tryz.ntmps87
 go_upto_region 1 with fail
 generalize World.alloc (World.alloc w _) _=W at HB H1 H2 hm2 ⊢
 generalize w.heap.size=g at H1 H2 ⊢
 have a0:=ze H1.out 0
 have a2:=ze H1.out 2
 have a4:=ze H1.out 4
 have b0:=ze H2.out 0
 have b2:=ze H2.out 2
 have b4:=ze H2.out 4
 clear H1 H2
 by_cases m0:model=0
 ·subst m0
  obtain rfl:r=true:=by rw [HR.out];simp
  clear HR
  go_wp2_with fail
  go_ret
  exact⟨by first|rfl|simp,HB.out⟩
 have n0:((model:Int)==0)=false:=by simpa using m0
 cases af with
 |true=>
  obtain rfl:r=true:=by rw [HR.out];simp
  clear HR
  go_wp2_with fail
  go_ret
  exact⟨by first|rfl|simp,HB.out⟩
 |false=>
 cases bf with
 |true=>
  obtain rfl:r=true:=by rw [HR.out];simp
  clear HR
  go_wp2_with fail
  go_ret
  exact⟨by first|rfl|simp,HB.out⟩
 |false=>
 cases ar with
 |true=>
  obtain rfl:r=true:=by rw [HR.out];simp
  clear HR
  go_wp2_with fail
  go_ret
  exact⟨by first|rfl|simp,HB.out⟩
 |false=>
 cases br with
 |true=>
  obtain rfl:r=false:=by rw [HR.out];simp [m0]
  clear HR
  go_wp2_with fail
  go_ret
  exact⟨by first|rfl|simp,HB.out⟩
 |false=>
 by_cases m1:model=1
 ·subst m1
  obtain rfl:r=true:=by rw [HR.out];simp
  clear HR m0 n0
  go_wp2_with fail
  go_ret
  exact⟨by first|rfl|simp,HB.out⟩
 have n1:((model:Int)==1)=false:=by simpa using m1
 by_cases hv:av=bv
 ·subst hv
  obtain rfl:r=true:=by rw [HR.out];simp
  clear HR
  go_wp2_with fail
  go_ret
  exact⟨by first|rfl|simp,HB.out⟩
 have nv:((av:Int)==bv)=false:=by simpa using hv
 obtain rfl:r=false:=by rw [HR.out];simp [m0,m1,hv]
 clear HR
 go_wp2_with fail
 go_ret
 exact⟨by first|rfl|simp,HB.out⟩
theorem zw (w:World) (o:Obj):Below w.heap.size w (w.alloc o):=(Below.refl _ _).alloc (Nat.le_refl _) o
theorem zbN (w:World) (mb:Nat) (model:Int) (hm:w.cell? ⟨mb,3,none⟩=some (.int .i64 model)) (x:zi) (ka kb:Value):
  Calls Tryz.prog 38 #[.pointer (some ⟨mb,0,none⟩),qH x ka kb] w λe w'=>e= .returned (.bool (xK model x.op))/\Below w.heap.size w w':=by
 obtain⟨op,rg,vr,xa,xb,ds⟩:=x
 unfold qH
 simp only []
 obtain⟨r,hr⟩:∃r,r=xK model op:=⟨_,rfl⟩
 rw [<-hr]
 unfold xK at hr
 have HR:=qh hr
 clear hr
 have HB:=qh (zw w (.cells #[.int .i64 op, .int .i64 rg, .int .i64 vr, .int .i64 xa.kind, .int .i64 xa.n, .int .u8 xa.op,ka, .int .i64 xb.kind, .int .i64 xb.n, .int .u8 xb.op,kb, .int .i64 ds] 45))
 have H1:=qh (yG w (.cells #[.int .i64 op, .int .i64 rg, .int .i64 vr, .int .i64 xa.kind, .int .i64 xa.n, .int .u8 xa.op,ka, .int .i64 xb.kind, .int .i64 xb.n, .int .u8 xb.op,kb, .int .i64 ds] 45))
 have hm2:=zk HB.out _ _ hm
 clear hm
 go_enter Tryz.func38,Tryz.ntmps38
 go_upto_region 1 with fail
 generalize World.alloc w _=W at HB H1 hm2 ⊢
 generalize w.heap.size=g at H1 ⊢
 have a0:=ze H1.out 0
 clear H1
 by_cases o1:op=1
 ·subst o1
  obtain rfl:r=true:=by rw [HR.out];simp
  clear HR
  go_wp2_with fail
  go_ret
  exact⟨by first|rfl|simp,HB.out⟩
 have n1:((op:Int)==1)=false:=by simpa using o1
 by_cases o2:op=2
 ·subst o2
  obtain rfl:r=true:=by rw [HR.out];simp
  clear HR
  go_wp2_with fail
  go_ret
  exact⟨by first|rfl|simp,HB.out⟩
 have n2:((op:Int)==2)=false:=by simpa using o2
 by_cases o4:op=4
 ·subst o4
  obtain rfl:r=true:=by rw [HR.out];simp
  clear HR
  go_wp2_with fail
  go_ret
  exact⟨by first|rfl|simp,HB.out⟩
 have n4:((op:Int)==4)=false:=by simpa using o4
 by_cases o6:op=6
 ·subst o6
  obtain rfl:r=true:=by rw [HR.out];simp
  clear HR
  go_wp2_with fail
  go_ret
  exact⟨by first|rfl|simp,HB.out⟩
 have n6:((op:Int)==6)=false:=by simpa using o6
 by_cases o7:op=7
 ·subst o7
  obtain rfl:r=true:=by rw [HR.out];simp
  clear HR
  go_wp2_with fail
  go_ret
  exact⟨by first|rfl|simp,HB.out⟩
 have n7:((op:Int)==7)=false:=by simpa using o7
 by_cases o8:op=8
 ·subst o8
  obtain rfl:r=true:=by rw [HR.out];simp
  clear HR
  go_wp2_with fail
  go_ret
  exact⟨by first|rfl|simp,HB.out⟩
 have n8:((op:Int)==8)=false:=by simpa using o8
 by_cases o5:op=5
 ·subst o5
  by_cases m2:model=2
  ·subst m2
   obtain rfl:r=true:=by rw [HR.out];simp
   clear HR
   go_wp2_with fail
   go_ret
   exact⟨by first|rfl|simp,HB.out⟩
  have n2:((model:Int)==2)=false:=by simpa using m2
  obtain rfl:r=false:=by rw [HR.out];simp [m2]
  clear HR
  go_wp2_with fail
  go_ret
  exact⟨by first|rfl|simp,HB.out⟩
 have n5:((op:Int)==5)=false:=by simpa using o5
 obtain rfl:r=false:=by rw [HR.out];simp [o1,o2,o4,o5,o6,o7,o8]
 clear HR
 go_wp2_with fail
 go_ret
 exact⟨by first|rfl|simp,HB.out⟩
theorem vY:(Tryz.prog.info? 61).map (·.size)=some 6:=by kernel_rfl
theorem kX {X:World} {g:Nat} {c0 c1 c2 c3 c4 c5:Value} (h:X.heap[g]? =some (.cells #[c0,c1,c2,c3,c4,c5] 61 (0,0))) (a0 a1 a2 a3 a4 a5:Value):
  (((((((X.setCell ⟨g,0,none⟩ a0).setCell ⟨g,1,none⟩ a1).setCell ⟨g,2,none⟩ a2).setCell ⟨g,3,none⟩ a3).setCell ⟨g,4,none⟩ a4).setCell ⟨g,5,none⟩ a5).heap[g]? =some (.cells #[a0,a1,a2,a3,a4,a5] 61 (0,0))):=by
 have:=zq (zq (zq (zq (zq (zq h 0 a0) 1 a1) 2 a2) 3 a3) 4 a4) 5 a5
 simpa using this
theorem kY {B:Nat} {w X:World} {g:Nat} (h:Below B w X) (hg:B<=g) (a0 a1 a2 a3 a4 a5:Value):
  Below B w ((((((X.setCell ⟨g,0,none⟩ a0).setCell ⟨g,1,none⟩ a1).setCell ⟨g,2,none⟩ a2).setCell ⟨g,3,none⟩ a3).setCell ⟨g,4,none⟩ a4).setCell ⟨g,5,none⟩ a5):=
 (((((h.setCell (p:=⟨g,0,none⟩) hg _).setCell (p:=⟨g,1,none⟩) hg _).setCell (p:=⟨g,2,none⟩) hg _).setCell (p:=⟨g,3,none⟩) hg _).setCell (p:=⟨g,4,none⟩) hg _).setCell (p:=⟨g,5,none⟩) hg _
theorem ze0 (w:World) (mb:Nat) (model dom:Int) (h1:w.cell? ⟨mb,1,none⟩=some (.int .i64 dom)) (hd1:1<=dom) (hd2:dom<=1000) (g:Nat) (W:za) (hW:zo w g W) (i:Nat) (hi:i<4) (d:Nat) (x:zi) (ka kb:Value) (hx:zM d w x.a ka):
  Calls Tryz.prog 41 #[.pointer (some ⟨mb,0,none⟩), .pointer (some ⟨g,i*54,none⟩),qH x ka kb] w λe w'=>e= .returned (yP dom d (W.zD.getD i default).regs x).val/\Below w.heap.size w w':=by
 obtain⟨aa,ac,rfl, -⟩:=hx.slice
 have hr4:=(za.yu hW.ok hi).regs
 have hg0:=hW.reg hi (k:=0) (by omega)
 have hg1:=hW.reg hi (k:=1) (by omega)
 have hg2:=hW.reg hi (k:=2) (by omega)
 have hg3:=hW.reg hi (k:=3) (by omega)
 generalize (W.zD.getD i default).regs=rs at hr4 hg0 hg1 hg2 hg3 ⊢
 obtain⟨r0,r1,r2,r3,rfl⟩:=bY hr4
 simp only [List.getD_cons_zero,List.getD_cons_succ] at hg0 hg1 hg2 hg3
 have hev:=λX (hX:Below w.heap.size w X)=>uU r0 r1 r2 r3 dom hd1 hd2 d X x.a _ (hx.below hX)
 unfold qc at hev
 obtain⟨r,hr⟩:∃r,r=yP dom d [r0,r1,r2,r3] x:=⟨_,rfl⟩
 rw [<-hr]
 unfold yP at hr
 obtain⟨op,rg,vr,xa,xb,ds⟩:=x
 unfold qH
 simp only [] at hx hev hr ⊢
 generalize yt [r0,r1,r2,r3] dom d xa=va at hev hr
 generalize xa.kind=jl at hev ⊢
 generalize xa.n=jm at hev ⊢
 generalize xa.op=jo at hev ⊢
 generalize xa.kids.length=al at hev ⊢
 generalize xb.kind=jT
 generalize xb.n=jU
 generalize xb.op=jV
 clear hx hr4
 have HEV:=qh hev
 have HR:=qh hr
 clear hev hr
 have HB:=qh (xH w (.cells #[.int .i64 op, .int .i64 rg, .int .i64 vr, .int .i64 jl, .int .i64 jm, .int .u8 jo, .slice aa al ac, .int .i64 jT, .int .i64 jU, .int .u8 jV,kb, .int .i64 ds] 45) (.cells #[.int .i64 0, .int .i64 0, .bool false, .bool false, .bool false, .bool false] 61))
 have H1:=qh (xI w (.cells #[.int .i64 op, .int .i64 rg, .int .i64 vr, .int .i64 jl, .int .i64 jm, .int .u8 jo, .slice aa al ac, .int .i64 jT, .int .i64 jU, .int .u8 jV,kb, .int .i64 ds] 45) (.cells #[.int .i64 0, .int .i64 0, .bool false, .bool false, .bool false, .bool false] 61))
 have H2:=qh (xu w (.cells #[.int .i64 op, .int .i64 rg, .int .i64 vr, .int .i64 jl, .int .i64 jm, .int .u8 jo, .slice aa al ac, .int .i64 jT, .int .i64 jU, .int .u8 jV,kb, .int .i64 ds] 45) (.cells #[.int .i64 0, .int .i64 0, .bool false, .bool false, .bool false, .bool false] 61))
 have d1:=zk HB.out _ _ h1
 have q0:=zk HB.out _ _ hg0
 have q1:=zk HB.out _ _ hg1
 have q2:=zk HB.out _ _ hg2
 have q3:=zk HB.out _ _ hg3
 clear h1 hg0 hg1 hg2 hg3 hW
 go_enter Tryz.func41,Tryz.ntmps41
 go_upto_region 1 with fail
 generalize World.alloc (World.alloc w _) _=X at HB H1 H2 d1 q0 q1 q2 q3 ⊢
 obtain⟨gs,hgs⟩:∃gs,gs=w.heap.size:=⟨_,rfl⟩
 rw [<-hgs] at H1 H2 ⊢
 have HGS:=qh hgs
 clear hgs
 have a0:=ze H1.out 0
 have a2:=ze H1.out 2
 have f0:=yD H2.out 0
 have f1:=yD H2.out 1
 have f2:=yD H2.out 2
 have f3:=yD H2.out 3
 have f4:=yD H2.out 4
 have f5:=yD H2.out 5
 have z0:=ze H2.out 0
 have z1:=ze H2.out 1
 have z2:=ze H2.out 2
 have z3:=ze H2.out 3
 have z4:=ze H2.out 4
 have z5:=ze H2.out 5
 by_cases o1:op=1
 ·subst o1
  replace HR:=qh (HR.out.trans (by simp:_=(⟨vr,0,true,false,false,false⟩:zP)))
  have HN:=qh (kX H2.out (.int .i64 vr) (.int .i64 0) (.bool true) (.bool false) (.bool false) (.bool false))
  have HE:Hid (Below w.heap.size w _):=kY HB.out (g:=gs+1) (by rw [HGS.out];omega) (.int .i64 vr) (.int .i64 0) (.bool true) (.bool false) (.bool false) (.bool false)
  go_wp2_with fail
  rw [HR.out]
  (try simp only [Exit.inBlock,Exit.then])
  exact bodyPost_ret (qx rfl _ _ (gs+1) 61 _ (0,0) _ rfl HN.out Tryz.underlying61 rfl vY) rfl ⟨rfl,HE.out⟩
 have n1:((op:Int)==1)=false:=by simpa using o1
 by_cases o8:op=8
 ·subst o8
  replace HR:=qh (HR.out.trans (by simp:_=(⟨vr,0,false,true,true,false⟩:zP)))
  have HN:=qh (kX H2.out (.int .i64 vr) (.int .i64 0) (.bool false) (.bool true) (.bool true) (.bool false))
  have HE:Hid (Below w.heap.size w _):=kY HB.out (g:=gs+1) (by rw [HGS.out];omega) (.int .i64 vr) (.int .i64 0) (.bool false) (.bool true) (.bool true) (.bool false)
  go_wp2_with fail
  rw [HR.out]
  (try simp only [Exit.inBlock,Exit.then])
  exact bodyPost_ret (qx rfl _ _ (gs+1) 61 _ (0,0) _ rfl HN.out Tryz.underlying61 rfl vY) rfl ⟨rfl,HE.out⟩
 have n8:((op:Int)==8)=false:=by simpa using o8
 by_cases o6:op=6
 ·subst o6
  replace HR:=qh (HR.out.trans (by simp:_=(⟨vr,0,true,false,true,false⟩:zP)))
  have HN:=qh (kX H2.out (.int .i64 vr) (.int .i64 0) (.bool true) (.bool false) (.bool true) (.bool false))
  have HE:Hid (Below w.heap.size w _):=kY HB.out (g:=gs+1) (by rw [HGS.out];omega) (.int .i64 vr) (.int .i64 0) (.bool true) (.bool false) (.bool true) (.bool false)
  go_wp2_with fail
  rw [HR.out]
  (try simp only [Exit.inBlock,Exit.then])
  exact bodyPost_ret (qx rfl _ _ (gs+1) 61 _ (0,0) _ rfl HN.out Tryz.underlying61 rfl vY) rfl ⟨rfl,HE.out⟩
 have n6:((op:Int)==6)=false:=by simpa using o6
 by_cases o7:op=7
 ·subst o7
  replace HR:=qh (HR.out.trans (by simp:_=(⟨vr,0,true,false,true,false⟩:zP)))
  have HN:=qh (kX H2.out (.int .i64 vr) (.int .i64 0) (.bool true) (.bool false) (.bool true) (.bool false))
  have HE:Hid (Below w.heap.size w _):=kY HB.out (g:=gs+1) (by rw [HGS.out];omega) (.int .i64 vr) (.int .i64 0) (.bool true) (.bool false) (.bool true) (.bool false)
  go_wp2_with fail
  rw [HR.out]
  (try simp only [Exit.inBlock,Exit.then])
  exact bodyPost_ret (qx rfl _ _ (gs+1) 61 _ (0,0) _ rfl HN.out Tryz.underlying61 rfl vY) rfl ⟨rfl,HE.out⟩
 have n7:((op:Int)==7)=false:=by simpa using o7
 by_cases o2:op=2
 ·subst o2
  replace HR:=qh (HR.out.trans (by simp:_=(⟨vr,va,false,true,false,false⟩:zP)))
  have CC:Hid (∀x,Below X.heap.size X x->x.cell? ⟨gs,2,none⟩=some (.int .i64 vr)/\x.cell? ⟨gs,3,none⟩=some (.int .i64 jl)/\x.cell? ⟨gs,4,none⟩=some (.int .i64 jm)/\x.cell? ⟨gs,5,none⟩=some (.int .u8 jo)/\x.cell? ⟨gs,6,none⟩=some (.slice aa al ac)/\x.cell? ⟨mb,1,none⟩=some (.int .i64 dom)/\
    x.cell? ⟨g,i*54+1,none⟩=some (.int .i64 r0)/\x.cell? ⟨g,i*54+1+1,none⟩=some (.int .i64 r1)/\x.cell? ⟨g,i*54+1+2,none⟩=some (.int .i64 r2)/\x.cell? ⟨g,i*54+1+3,none⟩=some (.int .i64 r3)):=λx hx=>
   ⟨zk hx _ _ (ze H1.out 2),zk hx _ _ (ze H1.out 3),zk hx _ _ (ze H1.out 4),zk hx _ _ (ze H1.out 5),zk hx _ _ (ze H1.out 6),zk hx _ _ d1,zk hx _ _ q0,zk hx _ _ q1,zk hx _ _ q2,zk hx _ _ q3⟩
  go_upto_region 5 with fail
  clear a0 a2 d1 q0 q1 q2 q3 z0 z1 z2 z3 z4 z5 f0 f1 f2 f3 f4 f5
  refine wp_region_noPanic ?_
  refine yM (n0:=15) (S:=λx=>Below X.heap.size X x) (by kernel_rfl) ((Below.refl _ _).drew) (λhT=> ?_)
  refine zT 0 (λ_=>hT) ?_
  refine jR [14,15] 1 CC.out hT ?_
  refine zT 2 (λ_=>hT) ?_
  refine jR [13,14,15] 3 CC.out hT ?_
  refine zT 4 (λ_=>hT) ?_
  refine zT 5 (λ_=>hT) ?_
  refine zT 6 (λ_=>hT) ?_
  refine jR [13,14,15] 7 CC.out hT ?_
  refine zT 8 (λ_=>hT) ?_
  refine zT 9 (λ_=>hT) ?_
  refine zT 10 (λ_=>hT) ?_
  refine zT 11 (λ_=>hT) ?_
  refine jR [13,14,15] 12 CC.out hT ?_
  refine wM 13 rfl (λK hK=> ?_)
  go_simp
  refine(HEV.out X.drew (zn HB.out hT)).mono ?_
  rintro e zna ⟨rfl,hb⟩
  have zkb:Below X.heap.size X zna:=zn hT hb
  refine hK.out _ _ (λ_ _=>zkb) ?_
  clear hK K hb hT
  refine zT 14 (λ_=>zkb) ?_
  refine wM 15 rfl (λK hK=> ?_)
  have HY:=qh zkb
  have uV:=(HY.out.block _ (zI H2.out)).trans H2.out
  have g0:=yD uV 0
  have g1:=yD uV 1
  have g2:=yD uV 2
  have g3:=yD uV 3
  have g4:=yD uV 4
  have g5:=yD uV 5
  have k0:=ze uV 0
  have k1:=ze uV 1
  have k2:=ze uV 2
  have k3:=ze uV 3
  have k4:=ze uV 4
  have k5:=ze uV 5
  have H2Y:=qh uV
  clear uV
  go_simp
  refine hK.out _ _ (λh=>absurd rfl h) ?_
  clear hK K
  refine xG (by kernel_rfl) ?_ _
  refine NoPanic.normal ?_
  have HBY:Hid (Below w.heap.size w zna):=zn HB.out HY.out
  have HN:=qh (kX H2Y.out (.int .i64 vr) (.int .i64 va) (.bool false) (.bool true) (.bool false) (.bool false))
  have HE:Hid (Below w.heap.size w _):=kY HBY.out (g:=gs+1) (by rw [HGS.out];omega) (.int .i64 vr) (.int .i64 va) (.bool false) (.bool true) (.bool false) (.bool false)
  go_wp2_with fail
  rw [HR.out]
  (try simp only [Exit.inBlock,Exit.then])
  exact bodyPost_ret (qx rfl _ _ (gs+1) 61 _ (0,0) _ rfl HN.out Tryz.underlying61 rfl vY) rfl ⟨rfl,HE.out⟩
 have n2:((op:Int)==2)=false:=by simpa using o2
 replace HR:=qh (HR.out.trans (by simp [o1,o2,o6,o7,o8] :_=(⟨0,0,false,false,true,false⟩:zP)))
 have HN:=qh (kX H2.out (.int .i64 0) (.int .i64 0) (.bool false) (.bool false) (.bool true) (.bool false))
 have HE:Hid (Below w.heap.size w _):=kY HB.out (g:=gs+1) (by rw [HGS.out];omega) (.int .i64 0) (.int .i64 0) (.bool false) (.bool false) (.bool true) (.bool false)
 go_wp2_with fail
 rw [HR.out]
 (try simp only [Exit.inBlock,Exit.then])
 exact bodyPost_ret (qx rfl _ _ (gs+1) 61 _ (0,0) _ rfl HN.out Tryz.underlying61 rfl vY) rfl ⟨rfl,HE.out⟩
