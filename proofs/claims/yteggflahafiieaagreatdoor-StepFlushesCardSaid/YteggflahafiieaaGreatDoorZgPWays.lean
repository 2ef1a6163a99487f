/- Steps. -/
import Derived.Test.YteggflahafiieaaGreatDoorZgPRun
import Derived.Test.YteggflahafiieaaGreatDoorZgTail
set_option linter.all false
namespace Go.Proofs.YteggflahafiieaaGreatDoor
open Go.RowKit
set_option maxRecDepth 100000
set_option maxHeartbeats 16000000
variable {v0:Value}
def qo (v0:Value) (w:World) (B gr:Nat) (m:zF) (dom:Int) (mb mc:Nat) (res:Option (zo × List Int × Bool)) (e:Ending) (w':World):Prop:=
 Below B w w'/\((res=none/\e= .returned (.bool false))\/∃(t:zo) (mem:List Int) (bad:Bool) (bv:Value),res=some (t,mem,bad)/\e= .returned (.bool true)/\t.regs.length=4/\xq v0 w' B gr t.pc (t.regs.getD 0 0) (t.regs.getD 1 0) (t.regs.getD 2 0) (t.regs.getD 3 0) t.buf bv m dom mem mb mc bad)
section
variable {w w':World} {B gr mb mc:Nat} {pc r0 r1 r2 r3 dom:Int} {buf:List zi} {bv:Value} {m:zF} {mem:List Int} {bad:Bool}
theorem vV (h:xq v0 w' B gr pc r0 r1 r2 r3 buf bv m dom mem mb mc bad) (hb:Below B w w'):qo v0 w B gr m dom mb mc (some (⟨pc, [r0,r1,r2,r3],buf⟩,mem,bad)) (.returned (.bool true)) w':=
 ⟨hb, .inr ⟨_,_,_,_,rfl,rfl,rfl,h⟩⟩
theorem zcf {k:Nat} {x:Int} (h:xq v0 w' B gr pc (([r0,r1,r2,r3].set k x).getD 0 0) (([r0,r1,r2,r3].set k x).getD 1 0) (([r0,r1,r2,r3].set k x).getD 2 0) (([r0,r1,r2,r3].set k x).getD 3 0) buf bv m dom mem mb mc bad) (hb:Below B w w'):qo v0 w B gr m dom mb mc (some (⟨pc, [r0,r1,r2,r3].set k x,buf⟩,mem,bad)) (.returned (.bool true)) w':=
 ⟨hb, .inr ⟨_,_,_,_,rfl,rfl,by simp,h⟩⟩
theorem kC (hb:Below B w w'):qo v0 w B gr m dom mb mc none (.returned (.bool false)) w':=⟨hb, .inl ⟨rfl,rfl⟩⟩
end
theorem xq.zce {w:World} {B gr mb mc:Nat} {pc r0 r1 r2 r3 dom:Int} {buf:List zi} {bv:Value} {m:zF} {mem:List Int} {bad:Bool} (h:xq v0 w B gr pc r0 r1 r2 r3 buf bv m dom mem mb mc bad) {k:Nat} (hk:k<4):w.cell? ⟨gr,1+k,none⟩=some (.int .i64 ([r0,r1,r2,r3].getD k 0))/\w.frozen? ⟨gr,1+k,none⟩=false:=by
 refine⟨?_,zw h.block _⟩
 have e:=za h.block (1+k)
 have:k=0\/k=1\/k=2\/k=3:=by omega
 rcases this with rfl|rfl|rfl|rfl<;>exact e
theorem zsR {w:World} {B gr mb mc:Nat} {pc r0 r1 r2 r3 dom:Int} {buf:List zi} {bv:Value} {m:zF} {mem:List Int} {bad:Bool} (h:xq v0 w B gr pc r0 r1 r2 r3 buf bv m dom mem mb mc bad) (hB:B<=w.heap.size) (hd1:1<=dom) (hd2:dom<=1000) (d:Nat) (x:zT) (ka kb:Value) (ha:zx d w x.a ka) (hb:zx d w x.b kb)
  (xP:0<=x.reg/\x.reg<4) (hvar:0<=x.var/\x.var<(mem.length:Int)) (hbl:buf.length<=1000000):Calls Tryz.prog 137 #[.pointer (some ⟨gr,0,none⟩),qd x ka kb] w λe w'=>
  qo v0 w B gr m dom mb mc (some (⟨x.dest, [r0,r1,r2,r3],buf⟩,mem,bad)) e w':=by
 obtain⟨aa,ac,rfl, -⟩:=ha.slice
 obtain⟨ba,bc,rfl, -⟩:=hb.slice
 obtain⟨ua,uc,rfl, -⟩:=ze.slice h.qJ
 obtain⟨op,reg,v,a,b,yA⟩:=x
 simp only [] at xP hvar ha hb ⊢
 obtain⟨reg,rfl⟩:∃k:Nat,reg=(k:Int):=⟨reg.toNat,by omega⟩
 obtain⟨v,rfl⟩:∃k:Nat,v=(k:Int):=⟨v.toNat,by omega⟩
 have hr4:reg<4:=by omega
 have kW:v<mem.length:=by omega
 have wX:(v:Int)<(mem.length:Int):=hvar.2
 have hrI:(reg:Int)<4:=xP.2
 try simp only [Int.toNat_natCast]
 clear ha hb
 unfold qd
 simp only []
 generalize a.kind=ak at ⊢
 generalize a.n=an at ⊢
 generalize a.op=ao at ⊢
 generalize a.kids.length=al at ⊢
 generalize b.kind=bk at ⊢
 generalize b.n=bn at ⊢
 generalize b.op=bo at ⊢
 generalize b.kids.length=bl at ⊢
 obtain⟨res,hres⟩:∃r:Option (zo × List Int × Bool),r=(some (⟨yA, [r0,r1,r2,r3],buf⟩,mem,bad)):=⟨_,rfl⟩
 rw [<-hres]
 have zJ:=qh hres
 clear hres
 obtain⟨un,hun⟩:∃n,n=buf.length:=⟨_,rfl⟩
 rw [<-hun] at h hbl
 have HUN:=qh hun
 have HR:=qh h
 have yM:=qh hB
 have HA:=qh ((Below.refl w.heap.size w).alloc (Nat.le_refl _) (.cells #[.int .i64 op, .int .i64 (reg:Int), .int .i64 (v:Int), .int .i64 ak, .int .i64 an, .int .u8 ao, .slice aa al ac, .int .i64 bk, .int .i64 bn, .int .u8 bo, .slice ba bl bc, .int .i64 yA] 53))
 have HX:=qh (yE w (.cells #[.int .i64 op, .int .i64 (reg:Int), .int .i64 (v:Int), .int .i64 ak, .int .i64 an, .int .u8 ao, .slice aa al ac, .int .i64 bk, .int .i64 bn, .int .u8 bo, .slice ba bl bc, .int .i64 yA] 53))
 clear h hun hB
 go_enter Tryz.func137,Tryz.ntmps137
 go_upto_region 1 with fail
 generalize World.alloc w _=W at HA HX ⊢
 obtain⟨gi,hgi⟩:∃g,g=w.heap.size:=⟨_,rfl⟩
 rw [<-hgi] at HX ⊢
 clear hgi
 have HRW:=qh (HR.out.below HA.out)
 have vX:Hid (Below B w W):=HA.out.mono yM.out
 have CC:Hid (∀x,Below W.heap.size W x->x.cell? ⟨gi,11,none⟩=some (.int .i64 yA)/\x.cell? ⟨gr,0,none⟩=some (.int .i64 pc)):=λx hx=>⟨zh hx _ _ (za HX.out 11),zh hx _ _ (za HRW.out.block 0)⟩
 obtain⟨c0,c1⟩:=CC.out W (Below.refl _ _)
 have f0:W.frozen? ⟨gr,0,none⟩=false:=zw HRW.out.block 0
 go_wp2_with fail
 go_ret
 rw [zJ.out]
 exact vV (HRW.out.zqK yA) (vX.out.setCell (p:=⟨gr,0,none⟩) HRW.out.base _)
theorem zoH {w:World} {B gr mb mc:Nat} {pc r0 r1 r2 r3 dom:Int} {buf:List zi} {bv:Value} {m:zF} {mem:List Int} {bad:Bool} (h:xq v0 w B gr pc r0 r1 r2 r3 buf bv m dom mem mb mc bad) (hB:B<=w.heap.size) (hd1:1<=dom) (hd2:dom<=1000) (d:Nat) (x:zT) (ka kb:Value) (ha:zx d w x.a ka) (hb:zx d w x.b kb)
  (xP:0<=x.reg/\x.reg<4) (hvar:0<=x.var/\x.var<(mem.length:Int)) (hbl:buf.length<=1000000):Calls Tryz.prog 136 #[.pointer (some ⟨gr,0,none⟩),qd x ka kb] w λe w'=>
  qo v0 w B gr m dom mb mc (some (if zZ [r0,r1,r2,r3] dom d x.a=0 then(⟨x.dest, [r0,r1,r2,r3],buf⟩:zo) else⟨pc, [r0,r1,r2,r3],buf⟩,mem,bad)) e w':=by
 have yG:=λW V (hV:xq v0 W B gr pc r0 r1 r2 r3 buf V m dom mem mb mc bad) (hW:Below w.heap.size w W)=>bg hV hd1 hd2 d x.a ka (ha.below hW)
 obtain⟨aa,ac,rfl, -⟩:=ha.slice
 obtain⟨ba,bc,rfl, -⟩:=hb.slice
 obtain⟨ua,uc,rfl, -⟩:=ze.slice h.qJ
 obtain⟨op,reg,v,a,b,yA⟩:=x
 simp only [] at xP hvar ha hb yG ⊢
 obtain⟨reg,rfl⟩:∃k:Nat,reg=(k:Int):=⟨reg.toNat,by omega⟩
 obtain⟨v,rfl⟩:∃k:Nat,v=(k:Int):=⟨v.toNat,by omega⟩
 have hr4:reg<4:=by omega
 have kW:v<mem.length:=by omega
 have wX:(v:Int)<(mem.length:Int):=hvar.2
 have hrI:(reg:Int)<4:=xP.2
 try simp only [Int.toNat_natCast]
 clear ha hb
 unfold qd
 simp only []
 unfold xQ at yG
 generalize hva:zZ [r0,r1,r2,r3] dom d a=va at yG ⊢
 clear hva
 generalize a.kind=ak at yG ⊢
 generalize a.n=an at yG ⊢
 generalize a.op=ao at yG ⊢
 generalize a.kids.length=al at yG ⊢
 generalize b.kind=bk at ⊢
 generalize b.n=bn at ⊢
 generalize b.op=bo at ⊢
 generalize b.kids.length=bl at ⊢
 have HEA:=qh yG
 clear yG
 obtain⟨res,hres⟩:∃r:Option (zo × List Int × Bool),r=(some (if va=0 then(⟨yA, [r0,r1,r2,r3],buf⟩:zo) else⟨pc, [r0,r1,r2,r3],buf⟩,mem,bad)):=⟨_,rfl⟩
 rw [<-hres]
 have zJ:=qh hres
 clear hres
 obtain⟨un,hun⟩:∃n,n=buf.length:=⟨_,rfl⟩
 rw [<-hun] at h hbl
 have HUN:=qh hun
 have HR:=qh h
 have yM:=qh hB
 have HA:=qh ((Below.refl w.heap.size w).alloc (Nat.le_refl _) (.cells #[.int .i64 op, .int .i64 (reg:Int), .int .i64 (v:Int), .int .i64 ak, .int .i64 an, .int .u8 ao, .slice aa al ac, .int .i64 bk, .int .i64 bn, .int .u8 bo, .slice ba bl bc, .int .i64 yA] 53))
 have HX:=qh (yE w (.cells #[.int .i64 op, .int .i64 (reg:Int), .int .i64 (v:Int), .int .i64 ak, .int .i64 an, .int .u8 ao, .slice aa al ac, .int .i64 bk, .int .i64 bn, .int .u8 bo, .slice ba bl bc, .int .i64 yA] 53))
 clear h hun hB
 go_enter Tryz.func136,Tryz.ntmps136
 go_upto_region 1 with fail
 generalize World.alloc w _=W at HA HX ⊢
 obtain⟨gi,hgi⟩:∃g,g=w.heap.size:=⟨_,rfl⟩
 rw [<-hgi] at HX ⊢
 clear hgi
 have HRW:=qh (HR.out.below HA.out)
 have vX:Hid (Below B w W):=HA.out.mono yM.out
 have CC:Hid (∀x,Below W.heap.size W x->x.cell? ⟨gi,3,none⟩=some (.int .i64 ak)/\x.cell? ⟨gi,4,none⟩=some (.int .i64 an)/\x.cell? ⟨gi,5,none⟩=some (.int .u8 ao)/\x.cell? ⟨gi,6,none⟩=some (.slice aa al ac)):=λx hx=>⟨zh hx _ _ (za HX.out 3),zh hx _ _ (za HX.out 4),zh hx _ _ (za HX.out 5),zh hx _ _ (za HX.out 6)⟩
 obtain⟨c0,c1,c2,c3⟩:=CC.out W (Below.refl _ _)
 go_wp2_with fail
 refine(HEA.out W _ HRW.out HA.out).mono ?_
 rintro e w2 ⟨rfl,hb2⟩
 have HR2:=qh (HRW.out.below hb2)
 have HBB:Hid (Below B w w2):=vX.out.trans (hb2.mono (Nat.le_trans yM.out HA.out.size))
 have d0:w2.cell? ⟨gi,11,none⟩=some (.int .i64 yA):=zh hb2 _ _ (za HX.out 11)
 have d1:w2.cell? ⟨gr,0,none⟩=some (.int .i64 pc):=za HR2.out.block 0
 have f0:w2.frozen? ⟨gr,0,none⟩=false:=zw HR2.out.block 0
 clear hb2 c0 c1 c2 c3
 by_cases hz:va=0
 ·subst hz
  go_wp2_with fail
  go_ret
  first|rw [zJ.out,if_pos rfl] |rw [zJ.out,if_pos trivial]
  exact vV (HR2.out.zqK yA) (HBB.out.setCell (p:=⟨gr,0,none⟩) HR2.out.base _)
 have hz1:((va:Int)==0)=false:=by simp [hz]
 have HZ:=qh hz
 clear hz
 go_wp2_with fail
 go_ret
 rw [zJ.out,if_neg HZ.out]
 exact vV HR2.out HBB.out
theorem zoI {w:World} {B gr mb mc:Nat} {pc r0 r1 r2 r3 dom:Int} {buf:List zi} {bv:Value} {m:zF} {mem:List Int} {bad:Bool} (h:xq v0 w B gr pc r0 r1 r2 r3 buf bv m dom mem mb mc bad) (hB:B<=w.heap.size) (hd1:1<=dom) (hd2:dom<=1000) (d:Nat) (x:zT) (ka kb:Value) (ha:zx d w x.a ka) (hb:zx d w x.b kb)
  (xP:0<=x.reg/\x.reg<4) (hvar:0<=x.var/\x.var<(mem.length:Int)) (hbl:buf.length<=1000000):Calls Tryz.prog 135 #[.pointer (some ⟨gr,0,none⟩),qd x ka kb] w λe w'=>
  qo v0 w B gr m dom mb mc (some (⟨pc, [r0,r1,r2,r3],buf⟩,mem,bad||decide (zZ [r0,r1,r2,r3] dom d x.a=0))) e w':=by
 have yG:=λW V (hV:xq v0 W B gr pc r0 r1 r2 r3 buf V m dom mem mb mc bad) (hW:Below w.heap.size w W)=>bg hV hd1 hd2 d x.a ka (ha.below hW)
 obtain⟨aa,ac,rfl, -⟩:=ha.slice
 obtain⟨ba,bc,rfl, -⟩:=hb.slice
 obtain⟨ua,uc,rfl, -⟩:=ze.slice h.qJ
 obtain⟨op,reg,v,a,b,yA⟩:=x
 simp only [] at xP hvar ha hb yG ⊢
 obtain⟨reg,rfl⟩:∃k:Nat,reg=(k:Int):=⟨reg.toNat,by omega⟩
 obtain⟨v,rfl⟩:∃k:Nat,v=(k:Int):=⟨v.toNat,by omega⟩
 have hr4:reg<4:=by omega
 have kW:v<mem.length:=by omega
 have wX:(v:Int)<(mem.length:Int):=hvar.2
 have hrI:(reg:Int)<4:=xP.2
 try simp only [Int.toNat_natCast]
 clear ha hb
 unfold qd
 simp only []
 unfold xQ at yG
 generalize hva:zZ [r0,r1,r2,r3] dom d a=va at yG ⊢
 clear hva
 generalize a.kind=ak at yG ⊢
 generalize a.n=an at yG ⊢
 generalize a.op=ao at yG ⊢
 generalize a.kids.length=al at yG ⊢
 generalize b.kind=bk at ⊢
 generalize b.n=bn at ⊢
 generalize b.op=bo at ⊢
 generalize b.kids.length=bl at ⊢
 have HEA:=qh yG
 clear yG
 obtain⟨res,hres⟩:∃r:Option (zo × List Int × Bool),r=(some (⟨pc, [r0,r1,r2,r3],buf⟩,mem,bad||decide (va=0))):=⟨_,rfl⟩
 rw [<-hres]
 have zJ:=qh hres
 clear hres
 obtain⟨un,hun⟩:∃n,n=buf.length:=⟨_,rfl⟩
 rw [<-hun] at h hbl
 have HUN:=qh hun
 have HR:=qh h
 have yM:=qh hB
 have HA:=qh ((Below.refl w.heap.size w).alloc (Nat.le_refl _) (.cells #[.int .i64 op, .int .i64 (reg:Int), .int .i64 (v:Int), .int .i64 ak, .int .i64 an, .int .u8 ao, .slice aa al ac, .int .i64 bk, .int .i64 bn, .int .u8 bo, .slice ba bl bc, .int .i64 yA] 53))
 have HX:=qh (yE w (.cells #[.int .i64 op, .int .i64 (reg:Int), .int .i64 (v:Int), .int .i64 ak, .int .i64 an, .int .u8 ao, .slice aa al ac, .int .i64 bk, .int .i64 bn, .int .u8 bo, .slice ba bl bc, .int .i64 yA] 53))
 clear h hun hB
 go_enter Tryz.func135,Tryz.ntmps135
 go_upto_region 1 with fail
 generalize World.alloc w _=W at HA HX ⊢
 obtain⟨gi,hgi⟩:∃g,g=w.heap.size:=⟨_,rfl⟩
 rw [<-hgi] at HX ⊢
 clear hgi
 have HRW:=qh (HR.out.below HA.out)
 have vX:Hid (Below B w W):=HA.out.mono yM.out
 have CC:Hid (∀x,Below W.heap.size W x->x.cell? ⟨gi,3,none⟩=some (.int .i64 ak)/\x.cell? ⟨gi,4,none⟩=some (.int .i64 an)/\x.cell? ⟨gi,5,none⟩=some (.int .u8 ao)/\x.cell? ⟨gi,6,none⟩=some (.slice aa al ac)/\x.cell? ⟨gr,10,none⟩=some (.bool bad)):=λx hx=>⟨zh hx _ _ (za HX.out 3),zh hx _ _ (za HX.out 4),zh hx _ _ (za HX.out 5),zh hx _ _ (za HX.out 6),zh hx _ _ (za HRW.out.block 10)⟩
 obtain⟨c0,c1,c2,c3,c4⟩:=CC.out W (Below.refl _ _)
 have f10:W.frozen? ⟨gr,10,none⟩=false:=zw HRW.out.block 10
 cases bad with
 |true=>
  go_wp2_with fail
  go_ret
  rw [zJ.out]
  exact vV (HRW.out.znV _) (vX.out.setCell (p:=⟨gr,10,none⟩) HRW.out.base _)
 |false=>
 go_wp2_with fail
 refine(HEA.out W _ HRW.out HA.out).mono ?_
 rintro e w2 ⟨rfl,hb2⟩
 have HR2:=qh (HRW.out.below hb2)
 have HBB:Hid (Below B w w2):=vX.out.trans (hb2.mono (Nat.le_trans yM.out HA.out.size))
 have d1:w2.cell? ⟨gr,10,none⟩=some (.bool false):=za HR2.out.block 10
 have g0:w2.frozen? ⟨gr,10,none⟩=false:=zw HR2.out.block 10
 clear hb2 f10 c0 c1 c2 c3 c4
 by_cases hz:va=0
 ·subst hz
  go_wp2_with fail
  go_ret
  rw [zJ.out]
  exact vV (HR2.out.znV _) (HBB.out.setCell (p:=⟨gr,10,none⟩) HR2.out.base _)
 have hz1:((va:Int)==0)=false:=by simp [hz]
 have HZ:Hid ((false||decide (va=0))=false):=by simp [Hid,hz]
 clear hz
 go_wp2_with fail
 go_ret
 rw [zJ.out,HZ.out]
 exact vV (HR2.out.znV _) (HBB.out.setCell (p:=⟨gr,10,none⟩) HR2.out.base _)
theorem zqS {w:World} {B gr mb mc:Nat} {pc r0 r1 r2 r3 dom:Int} {buf:List zi} {bv:Value} {m:zF} {mem:List Int} {bad:Bool} (h:xq v0 w B gr pc r0 r1 r2 r3 buf bv m dom mem mb mc bad) (hB:B<=w.heap.size) (hd1:1<=dom) (hd2:dom<=1000) (d:Nat) (x:zT) (ka kb:Value) (ha:zx d w x.a ka) (hb:zx d w x.b kb)
  (xP:0<=x.reg/\x.reg<4) (hvar:0<=x.var/\x.var<(mem.length:Int)) (hbl:buf.length<=1000000):Calls Tryz.prog 130 #[.pointer (some ⟨gr,0,none⟩),qd x ka kb] w λe w'=>
  qo v0 w B gr m dom mb mc (if buf.length=0 then some (⟨pc, [r0,r1,r2,r3],buf⟩,mem,bad) else none) e w':=by
 obtain⟨aa,ac,rfl, -⟩:=ha.slice
 obtain⟨ba,bc,rfl, -⟩:=hb.slice
 obtain⟨ua,uc,rfl, -⟩:=ze.slice h.qJ
 obtain⟨op,reg,v,a,b,yA⟩:=x
 simp only [] at xP hvar ha hb ⊢
 obtain⟨reg,rfl⟩:∃k:Nat,reg=(k:Int):=⟨reg.toNat,by omega⟩
 obtain⟨v,rfl⟩:∃k:Nat,v=(k:Int):=⟨v.toNat,by omega⟩
 have hr4:reg<4:=by omega
 have kW:v<mem.length:=by omega
 have wX:(v:Int)<(mem.length:Int):=hvar.2
 have hrI:(reg:Int)<4:=xP.2
 try simp only [Int.toNat_natCast]
 clear ha hb
 unfold qd
 simp only []
 generalize a.kind=ak at ⊢
 generalize a.n=an at ⊢
 generalize a.op=ao at ⊢
 generalize a.kids.length=al at ⊢
 generalize b.kind=bk at ⊢
 generalize b.n=bn at ⊢
 generalize b.op=bo at ⊢
 generalize b.kids.length=bl at ⊢
 obtain⟨res,hres⟩:∃r:Option (zo × List Int × Bool),r=(if buf.length=0 then some (⟨pc, [r0,r1,r2,r3],buf⟩,mem,bad) else none):=⟨_,rfl⟩
 rw [<-hres]
 have zJ:=qh hres
 clear hres
 obtain⟨un,hun⟩:∃n,n=buf.length:=⟨_,rfl⟩
 rw [<-hun] at h hbl
 have HUN:=qh hun
 have HR:=qh h
 have yM:=qh hB
 have HA:=qh ((Below.refl w.heap.size w).alloc (Nat.le_refl _) (.cells #[.int .i64 op, .int .i64 (reg:Int), .int .i64 (v:Int), .int .i64 ak, .int .i64 an, .int .u8 ao, .slice aa al ac, .int .i64 bk, .int .i64 bn, .int .u8 bo, .slice ba bl bc, .int .i64 yA] 53))
 have HX:=qh (yE w (.cells #[.int .i64 op, .int .i64 (reg:Int), .int .i64 (v:Int), .int .i64 ak, .int .i64 an, .int .u8 ao, .slice aa al ac, .int .i64 bk, .int .i64 bn, .int .u8 bo, .slice ba bl bc, .int .i64 yA] 53))
 clear h hun hB
 go_enter Tryz.func130,Tryz.ntmps130
 go_upto_region 1 with fail
 generalize World.alloc w _=W at HA HX ⊢
 obtain⟨gi,hgi⟩:∃g,g=w.heap.size:=⟨_,rfl⟩
 rw [<-hgi] at HX ⊢
 clear hgi
 have HRW:=qh (HR.out.below HA.out)
 have vX:Hid (Below B w W):=HA.out.mono yM.out
 go_wp2_with fail
 refine(gZ HRW.out).mono ?_
 rintro e w2 ⟨rfl,rfl⟩
 by_cases hz:buf.length=0
 ·have HZ:=qh hz
  have hz1:decide (buf.length=0)=true:=decide_eq_true hz
  clear hz
  rw [hz1]
  go_wp2_with fail
  go_ret
  rw [zJ.out,if_pos HZ.out]
  exact vV HRW.out vX.out
 have HZ:=qh hz
 have hz1:decide (buf.length=0)=false:=decide_eq_false hz
 clear hz
 rw [hz1]
 go_wp2_with fail
 go_ret
 rw [zJ.out,if_neg HZ.out]
 exact kC vX.out
theorem zsS {w:World} {B gr mb mc:Nat} {pc r0 r1 r2 r3 dom:Int} {buf:List zi} {bv:Value} {m:zF} {mem:List Int} {bad:Bool} (h:xq v0 w B gr pc r0 r1 r2 r3 buf bv m dom mem mb mc bad) (hB:B<=w.heap.size) (hd1:1<=dom) (hd2:dom<=1000) (d:Nat) (x:zT) (ka kb:Value) (ha:zx d w x.a ka) (hb:zx d w x.b kb)
  (xP:0<=x.reg/\x.reg<4) (hvar:0<=x.var/\x.var<(mem.length:Int)) (hbl:buf.length<=1000000):Calls Tryz.prog 131 #[.pointer (some ⟨gr,0,none⟩),qd x ka kb] w λe w'=>
  qo v0 w B gr m dom mb mc (if buf.length=0\/¬m.model=2 then some (⟨pc, [r0,r1,r2,r3],buf⟩,mem,bad) else none) e w':=by
 obtain⟨aa,ac,rfl, -⟩:=ha.slice
 obtain⟨ba,bc,rfl, -⟩:=hb.slice
 obtain⟨ua,uc,rfl, -⟩:=ze.slice h.qJ
 obtain⟨op,reg,v,a,b,yA⟩:=x
 simp only [] at xP hvar ha hb ⊢
 obtain⟨reg,rfl⟩:∃k:Nat,reg=(k:Int):=⟨reg.toNat,by omega⟩
 obtain⟨v,rfl⟩:∃k:Nat,v=(k:Int):=⟨v.toNat,by omega⟩
 have hr4:reg<4:=by omega
 have kW:v<mem.length:=by omega
 have wX:(v:Int)<(mem.length:Int):=hvar.2
 have hrI:(reg:Int)<4:=xP.2
 try simp only [Int.toNat_natCast]
 clear ha hb
 unfold qd
 simp only []
 generalize a.kind=ak at ⊢
 generalize a.n=an at ⊢
 generalize a.op=ao at ⊢
 generalize a.kids.length=al at ⊢
 generalize b.kind=bk at ⊢
 generalize b.n=bn at ⊢
 generalize b.op=bo at ⊢
 generalize b.kids.length=bl at ⊢
 obtain⟨res,hres⟩:∃r:Option (zo × List Int × Bool),r=(if buf.length=0\/¬m.model=2 then some (⟨pc, [r0,r1,r2,r3],buf⟩,mem,bad) else none):=⟨_,rfl⟩
 rw [<-hres]
 have zJ:=qh hres
 clear hres
 obtain⟨un,hun⟩:∃n,n=buf.length:=⟨_,rfl⟩
 rw [<-hun] at h hbl
 have HUN:=qh hun
 have HR:=qh h
 have yM:=qh hB
 have HA:=qh ((Below.refl w.heap.size w).alloc (Nat.le_refl _) (.cells #[.int .i64 op, .int .i64 (reg:Int), .int .i64 (v:Int), .int .i64 ak, .int .i64 an, .int .u8 ao, .slice aa al ac, .int .i64 bk, .int .i64 bn, .int .u8 bo, .slice ba bl bc, .int .i64 yA] 53))
 have HX:=qh (yE w (.cells #[.int .i64 op, .int .i64 (reg:Int), .int .i64 (v:Int), .int .i64 ak, .int .i64 an, .int .u8 ao, .slice aa al ac, .int .i64 bk, .int .i64 bn, .int .u8 bo, .slice ba bl bc, .int .i64 yA] 53))
 clear h hun hB
 go_enter Tryz.func131,Tryz.ntmps131
 go_upto_region 1 with fail
 generalize World.alloc w _=W at HA HX ⊢
 obtain⟨gi,hgi⟩:∃g,g=w.heap.size:=⟨_,rfl⟩
 rw [<-hgi] at HX ⊢
 clear hgi
 have HRW:=qh (HR.out.below HA.out)
 have vX:Hid (Below B w W):=HA.out.mono yM.out
 have CC:Hid (∀x,Below W.heap.size W x->x.cell? ⟨gr,6,none⟩=some (.int .i64 m.model)):=λx hx=>zh hx _ _ (za HRW.out.block 6)
 go_wp2_with fail
 refine(gZ HRW.out).mono ?_
 rintro e w2 ⟨rfl,rfl⟩
 by_cases hz:buf.length=0
 ·have HZ:=qh hz
  have hz1:decide (buf.length=0)=true:=decide_eq_true hz
  clear hz
  rw [hz1]
  go_wp2_with fail
  go_ret
  rw [zJ.out,if_pos (.inl HZ.out)]
  exact vV HRW.out vX.out
 have HZ:=qh hz
 have hz1:decide (buf.length=0)=false:=decide_eq_false hz
 clear hz
 rw [hz1]
 have c0:=CC.out w2 (Below.refl _ _)
 by_cases hm:m.model=2
 ·have hm1:((m.model:Int) !=2)=false:=by simp [hm]
  have HM:=qh hm
  clear hm
  go_wp2_with fail
  go_ret
  rw [zJ.out,if_neg (λh=>h.elim HZ.out (λh2=>h2 HM.out))]
  exact kC vX.out
 have hm1:((m.model:Int) !=2)=true:=by simp [hm]
 have HM:=qh hm
 clear hm
 go_wp2_with fail
 go_ret
 rw [zJ.out,if_pos (.inr HM.out)]
 exact vV HRW.out vX.out
theorem zoJ {w:World} {B gr mb mc:Nat} {pc r0 r1 r2 r3 dom:Int} {buf:List zi} {bv:Value} {m:zF} {mem:List Int} {bad:Bool} (h:xq v0 w B gr pc r0 r1 r2 r3 buf bv m dom mem mb mc bad) (hB:B<=w.heap.size) (hd1:1<=dom) (hd2:dom<=1000) (d:Nat) (x:zT) (ka kb:Value) (ha:zx d w x.a ka) (hb:zx d w x.b kb)
  (xP:0<=x.reg/\x.reg<4) (hvar:0<=x.var/\x.var<(mem.length:Int)) (hbl:buf.length<=1000000):Calls Tryz.prog 134 #[.pointer (some ⟨gr,0,none⟩),qd x ka kb] w λe w'=>
  qo v0 w B gr m dom mb mc (if buf.length=0 then some (⟨pc, [r0,r1,r2,r3],buf⟩,mem.set x.var.toNat 0,bad) else none) e w':=by
 obtain⟨aa,ac,rfl, -⟩:=ha.slice
 obtain⟨ba,bc,rfl, -⟩:=hb.slice
 obtain⟨ua,uc,rfl, -⟩:=ze.slice h.qJ
 obtain⟨op,reg,v,a,b,yA⟩:=x
 simp only [] at xP hvar ha hb ⊢
 obtain⟨reg,rfl⟩:∃k:Nat,reg=(k:Int):=⟨reg.toNat,by omega⟩
 obtain⟨v,rfl⟩:∃k:Nat,v=(k:Int):=⟨v.toNat,by omega⟩
 have hr4:reg<4:=by omega
 have kW:v<mem.length:=by omega
 have wX:(v:Int)<(mem.length:Int):=hvar.2
 have hrI:(reg:Int)<4:=xP.2
 try simp only [Int.toNat_natCast]
 clear ha hb
 unfold qd
 simp only []
 generalize a.kind=ak at ⊢
 generalize a.n=an at ⊢
 generalize a.op=ao at ⊢
 generalize a.kids.length=al at ⊢
 generalize b.kind=bk at ⊢
 generalize b.n=bn at ⊢
 generalize b.op=bo at ⊢
 generalize b.kids.length=bl at ⊢
 obtain⟨res,hres⟩:∃r:Option (zo × List Int × Bool),r=(if buf.length=0 then some (⟨pc, [r0,r1,r2,r3],buf⟩,mem.set v 0,bad) else none):=⟨_,rfl⟩
 rw [<-hres]
 have zJ:=qh hres
 clear hres
 obtain⟨un,hun⟩:∃n,n=buf.length:=⟨_,rfl⟩
 rw [<-hun] at h hbl
 have HUN:=qh hun
 have HR:=qh h
 have yM:=qh hB
 have HA:=qh ((Below.refl w.heap.size w).alloc (Nat.le_refl _) (.cells #[.int .i64 op, .int .i64 (reg:Int), .int .i64 (v:Int), .int .i64 ak, .int .i64 an, .int .u8 ao, .slice aa al ac, .int .i64 bk, .int .i64 bn, .int .u8 bo, .slice ba bl bc, .int .i64 yA] 53))
 have HX:=qh (yE w (.cells #[.int .i64 op, .int .i64 (reg:Int), .int .i64 (v:Int), .int .i64 ak, .int .i64 an, .int .u8 ao, .slice aa al ac, .int .i64 bk, .int .i64 bn, .int .u8 bo, .slice ba bl bc, .int .i64 yA] 53))
 clear h hun hB
 go_enter Tryz.func134,Tryz.ntmps134
 go_upto_region 1 with fail
 generalize World.alloc w _=W at HA HX ⊢
 obtain⟨gi,hgi⟩:∃g,g=w.heap.size:=⟨_,rfl⟩
 rw [<-hgi] at HX ⊢
 clear hgi
 have HRW:=qh (HR.out.below HA.out)
 have vX:Hid (Below B w W):=HA.out.mono yM.out
 have CC:Hid (∀x,Below W.heap.size W x->x.cell? ⟨gi,2,none⟩=some (.int .i64 (v:Int))/\x.cell? ⟨gr,9,none⟩=some (.slice (some ⟨mb,0,none⟩) mem.length mc)):=λx hx=>⟨zh hx _ _ (za HX.out 2),zh hx _ _ (za HRW.out.block 9)⟩
 refine wp_region_noPanic ?_
 refine yS (n0:=7) (S:=λx=>Below W.heap.size W x) (by kernel_rfl) ((Below.refl _ _).drew) (λhT=> ?_)
 refine zP 0 (λ_=>hT) ?_
 refine zP 1 (λ_=>hT) ?_
 refine zP 2 (λ_=>hT) ?_
 refine vK [6,7] 3 CC.out hT ?_
 refine zP 4 (λ_=>hT) ?_
 refine vK [6,7] 5 CC.out hT ?_
 refine zP 6 (λ_=>hT) ?_
 refine jD 7 rfl (λK hK=> ?_)
 obtain⟨q0,q1⟩:=(HRW.out.below (Below.refl _ _).drew).wR kW
 go_simp
 refine hK.out _ _ (λh=>absurd rfl h) ?_
 clear hK K
 refine xO (by kernel_rfl) ?_ _
 refine NoPanic.normal ?_
 clear q0 q1
 have HR2:=qh ((HRW.out.below (Below.refl _ _).drew).zcg v 0)
 have HB2:Hid (Below B w (W.drew.setCell ⟨mb,v,none⟩ (.int .i64 0))):=vX.out.drew.setCell (p:=⟨mb,v,none⟩) HRW.out.kQ.1 _
 go_wp2_with fail
 refine(gZ HR2.out).mono ?_
 rintro e w3 ⟨rfl,rfl⟩
 by_cases hz:buf.length=0
 ·have HZ:=qh hz
  have hz1:decide (buf.length=0)=true:=decide_eq_true hz
  clear hz
  rw [hz1]
  go_wp2_with fail
  go_ret
  rw [zJ.out,if_pos HZ.out]
  exact vV HR2.out HB2.out
 have HZ:=qh hz
 have hz1:decide (buf.length=0)=false:=decide_eq_false hz
 clear hz
 rw [hz1]
 go_wp2_with fail
 go_ret
 rw [zJ.out,if_neg HZ.out]
 exact kC HB2.out
