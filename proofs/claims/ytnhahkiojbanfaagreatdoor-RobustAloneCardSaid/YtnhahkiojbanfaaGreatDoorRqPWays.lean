/- Steps. -/
import Derived.Test.YtnhahkiojbanfaaGreatDoorRqPShelf
import Derived.Test.YtnhahkiojbanfaaGreatDoorRqTail
set_option linter.all false
namespace Go.Proofs.YtnhahkiojbanfaaGreatDoor
open Go.RowKit
set_option maxRecDepth 100000
set_option maxHeartbeats 16000000
variable {v0:Value}
def xG (v0:Value) (w:World) (B gr:Nat) (m:zu) (dom:Int) (mb mc:Nat) (res:Option (zA × List Int × Bool)) (e:Ending) (w':World):Prop:=
 Below B w w'/\((res=none/\e= .returned (.bool false))\/∃(t:zA) (mem:List Int) (bad:Bool) (bv:Value),res=some (t,mem,bad)/\e= .returned (.bool true)/\t.regs.length=4/\yx v0 w' B gr t.pc (t.regs.getD 0 0) (t.regs.getD 1 0) (t.regs.getD 2 0) (t.regs.getD 3 0) t.buf bv m dom mem mb mc bad)
section
variable {w w':World} {B gr mb mc:Nat} {pc r0 r1 r2 r3 dom:Int} {buf:List zl} {bv:Value} {m:zu} {mem:List Int} {bad:Bool}
theorem qV (h:yx v0 w' B gr pc r0 r1 r2 r3 buf bv m dom mem mb mc bad) (hb:Below B w w'):xG v0 w B gr m dom mb mc (some (⟨pc, [r0,r1,r2,r3],buf⟩,mem,bad)) (.returned (.bool true)) w':=
 ⟨hb, .inr ⟨_,_,_,_,rfl,rfl,rfl,h⟩⟩
theorem zbg {k:Nat} {x:Int} (h:yx v0 w' B gr pc (([r0,r1,r2,r3].set k x).getD 0 0) (([r0,r1,r2,r3].set k x).getD 1 0) (([r0,r1,r2,r3].set k x).getD 2 0) (([r0,r1,r2,r3].set k x).getD 3 0) buf bv m dom mem mb mc bad) (hb:Below B w w'):xG v0 w B gr m dom mb mc (some (⟨pc, [r0,r1,r2,r3].set k x,buf⟩,mem,bad)) (.returned (.bool true)) w':=
 ⟨hb, .inr ⟨_,_,_,_,rfl,rfl,by simp,h⟩⟩
theorem jA (hb:Below B w w'):xG v0 w B gr m dom mb mc none (.returned (.bool false)) w':=⟨hb, .inl ⟨rfl,rfl⟩⟩
end
theorem yx.zbh {w:World} {B gr mb mc:Nat} {pc r0 r1 r2 r3 dom:Int} {buf:List zl} {bv:Value} {m:zu} {mem:List Int} {bad:Bool} (h:yx v0 w B gr pc r0 r1 r2 r3 buf bv m dom mem mb mc bad) {k:Nat} (hk:k<4):w.cell? ⟨gr,1+k,none⟩=some (.int .i64 ([r0,r1,r2,r3].getD k 0))/\w.frozen? ⟨gr,1+k,none⟩=false:=by
 refine⟨?_,zK h.block _⟩
 have e:=ze h.block (1+k)
 have:k=0\/k=1\/k=2\/k=3:=by omega
 rcases this with rfl|rfl|rfl|rfl<;>exact e
theorem zmC {w:World} {B gr mb mc:Nat} {pc r0 r1 r2 r3 dom:Int} {buf:List zl} {bv:Value} {m:zu} {mem:List Int} {bad:Bool} (h:yx v0 w B gr pc r0 r1 r2 r3 buf bv m dom mem mb mc bad) (hB:B<=w.heap.size) (hd1:1<=dom) (hd2:dom<=1000) (d:Nat) (x:zC) (ka kb:Value) (ha:zw d w x.a ka) (hb:zw d w x.b kb)
  (yO:0<=x.reg/\x.reg<4) (hvar:0<=x.var/\x.var<(mem.length:Int)) (hbl:buf.length<=1000000):Calls Tryz.prog 130 #[.pointer (some ⟨gr,0,none⟩),xw x ka kb] w λe w'=>
  xG v0 w B gr m dom mb mc (some (⟨x.dest, [r0,r1,r2,r3],buf⟩,mem,bad)) e w':=by
 obtain⟨aa,ac,rfl, -⟩:=ha.slice
 obtain⟨ba,bc,rfl, -⟩:=hb.slice
 obtain⟨ua,uc,rfl, -⟩:=zh.slice h.qm
 obtain⟨op,reg,v,a,b,yt⟩:=x
 simp only [] at yO hvar ha hb ⊢
 obtain⟨reg,rfl⟩:∃k:Nat,reg=(k:Int):=⟨reg.toNat,by omega⟩
 obtain⟨v,rfl⟩:∃k:Nat,v=(k:Int):=⟨v.toNat,by omega⟩
 have hr4:reg<4:=by omega
 have kW:v<mem.length:=by omega
 have hvI:(v:Int)<(mem.length:Int):=hvar.2
 have hrI:(reg:Int)<4:=yO.2
 try simp only [Int.toNat_natCast]
 clear ha hb
 unfold xw
 simp only []
 generalize a.kind=ak at ⊢
 generalize a.n=an at ⊢
 generalize a.op=ao at ⊢
 generalize a.kids.length=al at ⊢
 generalize b.kind=bk at ⊢
 generalize b.n=bn at ⊢
 generalize b.op=bo at ⊢
 generalize b.kids.length=bl at ⊢
 obtain⟨res,hres⟩:∃r:Option (zA × List Int × Bool),r=(some (⟨yt, [r0,r1,r2,r3],buf⟩,mem,bad)):=⟨_,rfl⟩
 rw [<-hres]
 have yK:=qh hres
 clear hres
 obtain⟨un,hun⟩:∃n,n=buf.length:=⟨_,rfl⟩
 rw [<-hun] at h hbl
 have HUN:=qh hun
 have HR:=qh h
 have yH:=qh hB
 have HA:=qh ((Below.refl w.heap.size w).alloc (Nat.le_refl _) (.cells #[.int .i64 op, .int .i64 (reg:Int), .int .i64 (v:Int), .int .i64 ak, .int .i64 an, .int .u8 ao, .slice aa al ac, .int .i64 bk, .int .i64 bn, .int .u8 bo, .slice ba bl bc, .int .i64 yt] 60))
 have HX:=qh (zS w (.cells #[.int .i64 op, .int .i64 (reg:Int), .int .i64 (v:Int), .int .i64 ak, .int .i64 an, .int .u8 ao, .slice aa al ac, .int .i64 bk, .int .i64 bn, .int .u8 bo, .slice ba bl bc, .int .i64 yt] 60))
 clear h hun hB
 go_enter Tryz.func130,Tryz.ntmps130
 go_upto_region 1 with fail
 generalize World.alloc w _=W at HA HX ⊢
 obtain⟨gi,hgi⟩:∃g,g=w.heap.size:=⟨_,rfl⟩
 rw [<-hgi] at HX ⊢
 clear hgi
 have HRW:=qh (HR.out.below HA.out)
 have qN:Hid (Below B w W):=HA.out.mono yH.out
 have CC:Hid (∀x,Below W.heap.size W x->x.cell? ⟨gi,11,none⟩=some (.int .i64 yt)/\x.cell? ⟨gr,0,none⟩=some (.int .i64 pc)):=λx hx=>⟨zk hx _ _ (ze HX.out 11),zk hx _ _ (ze HRW.out.block 0)⟩
 obtain⟨c0,c1⟩:=CC.out W (Below.refl _ _)
 have f0:W.frozen? ⟨gr,0,none⟩=false:=zK HRW.out.block 0
 go_wp2_with fail
 go_ret
 rw [yK.out]
 exact qV (HRW.out.zkD yt) (qN.out.setCell (p:=⟨gr,0,none⟩) HRW.out.base _)
theorem zjk {w:World} {B gr mb mc:Nat} {pc r0 r1 r2 r3 dom:Int} {buf:List zl} {bv:Value} {m:zu} {mem:List Int} {bad:Bool} (h:yx v0 w B gr pc r0 r1 r2 r3 buf bv m dom mem mb mc bad) (hB:B<=w.heap.size) (hd1:1<=dom) (hd2:dom<=1000) (d:Nat) (x:zC) (ka kb:Value) (ha:zw d w x.a ka) (hb:zw d w x.b kb)
  (yO:0<=x.reg/\x.reg<4) (hvar:0<=x.var/\x.var<(mem.length:Int)) (hbl:buf.length<=1000000):Calls Tryz.prog 129 #[.pointer (some ⟨gr,0,none⟩),xw x ka kb] w λe w'=>
  xG v0 w B gr m dom mb mc (some (if zW [r0,r1,r2,r3] dom d x.a=0 then(⟨x.dest, [r0,r1,r2,r3],buf⟩:zA) else⟨pc, [r0,r1,r2,r3],buf⟩,mem,bad)) e w':=by
 have zZ:=λW V (hV:yx v0 W B gr pc r0 r1 r2 r3 buf V m dom mem mb mc bad) (hW:Below w.heap.size w W)=>gW hV hd1 hd2 d x.a ka (ha.below hW)
 obtain⟨aa,ac,rfl, -⟩:=ha.slice
 obtain⟨ba,bc,rfl, -⟩:=hb.slice
 obtain⟨ua,uc,rfl, -⟩:=zh.slice h.qm
 obtain⟨op,reg,v,a,b,yt⟩:=x
 simp only [] at yO hvar ha hb zZ ⊢
 obtain⟨reg,rfl⟩:∃k:Nat,reg=(k:Int):=⟨reg.toNat,by omega⟩
 obtain⟨v,rfl⟩:∃k:Nat,v=(k:Int):=⟨v.toNat,by omega⟩
 have hr4:reg<4:=by omega
 have kW:v<mem.length:=by omega
 have hvI:(v:Int)<(mem.length:Int):=hvar.2
 have hrI:(reg:Int)<4:=yO.2
 try simp only [Int.toNat_natCast]
 clear ha hb
 unfold xw
 simp only []
 unfold yP at zZ
 generalize hva:zW [r0,r1,r2,r3] dom d a=va at zZ ⊢
 clear hva
 generalize a.kind=ak at zZ ⊢
 generalize a.n=an at zZ ⊢
 generalize a.op=ao at zZ ⊢
 generalize a.kids.length=al at zZ ⊢
 generalize b.kind=bk at ⊢
 generalize b.n=bn at ⊢
 generalize b.op=bo at ⊢
 generalize b.kids.length=bl at ⊢
 have HEA:=qh zZ
 clear zZ
 obtain⟨res,hres⟩:∃r:Option (zA × List Int × Bool),r=(some (if va=0 then(⟨yt, [r0,r1,r2,r3],buf⟩:zA) else⟨pc, [r0,r1,r2,r3],buf⟩,mem,bad)):=⟨_,rfl⟩
 rw [<-hres]
 have yK:=qh hres
 clear hres
 obtain⟨un,hun⟩:∃n,n=buf.length:=⟨_,rfl⟩
 rw [<-hun] at h hbl
 have HUN:=qh hun
 have HR:=qh h
 have yH:=qh hB
 have HA:=qh ((Below.refl w.heap.size w).alloc (Nat.le_refl _) (.cells #[.int .i64 op, .int .i64 (reg:Int), .int .i64 (v:Int), .int .i64 ak, .int .i64 an, .int .u8 ao, .slice aa al ac, .int .i64 bk, .int .i64 bn, .int .u8 bo, .slice ba bl bc, .int .i64 yt] 60))
 have HX:=qh (zS w (.cells #[.int .i64 op, .int .i64 (reg:Int), .int .i64 (v:Int), .int .i64 ak, .int .i64 an, .int .u8 ao, .slice aa al ac, .int .i64 bk, .int .i64 bn, .int .u8 bo, .slice ba bl bc, .int .i64 yt] 60))
 clear h hun hB
 go_enter Tryz.func129,Tryz.ntmps129
 go_upto_region 1 with fail
 generalize World.alloc w _=W at HA HX ⊢
 obtain⟨gi,hgi⟩:∃g,g=w.heap.size:=⟨_,rfl⟩
 rw [<-hgi] at HX ⊢
 clear hgi
 have HRW:=qh (HR.out.below HA.out)
 have qN:Hid (Below B w W):=HA.out.mono yH.out
 have CC:Hid (∀x,Below W.heap.size W x->x.cell? ⟨gi,3,none⟩=some (.int .i64 ak)/\x.cell? ⟨gi,4,none⟩=some (.int .i64 an)/\x.cell? ⟨gi,5,none⟩=some (.int .u8 ao)/\x.cell? ⟨gi,6,none⟩=some (.slice aa al ac)):=λx hx=>⟨zk hx _ _ (ze HX.out 3),zk hx _ _ (ze HX.out 4),zk hx _ _ (ze HX.out 5),zk hx _ _ (ze HX.out 6)⟩
 obtain⟨c0,c1,c2,c3⟩:=CC.out W (Below.refl _ _)
 go_wp2_with fail
 refine(HEA.out W _ HRW.out HA.out).mono ?_
 rintro e w2 ⟨rfl,hb2⟩
 have HR2:=qh (HRW.out.below hb2)
 have HBB:Hid (Below B w w2):=qN.out.trans (hb2.mono (Nat.le_trans yH.out HA.out.size))
 have d0:w2.cell? ⟨gi,11,none⟩=some (.int .i64 yt):=zk hb2 _ _ (ze HX.out 11)
 have d1:w2.cell? ⟨gr,0,none⟩=some (.int .i64 pc):=ze HR2.out.block 0
 have f0:w2.frozen? ⟨gr,0,none⟩=false:=zK HR2.out.block 0
 clear hb2 c0 c1 c2 c3
 by_cases hz:va=0
 ·subst hz
  go_wp2_with fail
  go_ret
  first|rw [yK.out,if_pos rfl] |rw [yK.out,if_pos trivial]
  exact qV (HR2.out.zkD yt) (HBB.out.setCell (p:=⟨gr,0,none⟩) HR2.out.base _)
 have hz1:((va:Int)==0)=false:=by simp [hz]
 have HZ:=qh hz
 clear hz
 go_wp2_with fail
 go_ret
 rw [yK.out,if_neg HZ.out]
 exact qV HR2.out HBB.out
theorem zjl {w:World} {B gr mb mc:Nat} {pc r0 r1 r2 r3 dom:Int} {buf:List zl} {bv:Value} {m:zu} {mem:List Int} {bad:Bool} (h:yx v0 w B gr pc r0 r1 r2 r3 buf bv m dom mem mb mc bad) (hB:B<=w.heap.size) (hd1:1<=dom) (hd2:dom<=1000) (d:Nat) (x:zC) (ka kb:Value) (ha:zw d w x.a ka) (hb:zw d w x.b kb)
  (yO:0<=x.reg/\x.reg<4) (hvar:0<=x.var/\x.var<(mem.length:Int)) (hbl:buf.length<=1000000):Calls Tryz.prog 128 #[.pointer (some ⟨gr,0,none⟩),xw x ka kb] w λe w'=>
  xG v0 w B gr m dom mb mc (some (⟨pc, [r0,r1,r2,r3],buf⟩,mem,bad||decide (zW [r0,r1,r2,r3] dom d x.a=0))) e w':=by
 have zZ:=λW V (hV:yx v0 W B gr pc r0 r1 r2 r3 buf V m dom mem mb mc bad) (hW:Below w.heap.size w W)=>gW hV hd1 hd2 d x.a ka (ha.below hW)
 obtain⟨aa,ac,rfl, -⟩:=ha.slice
 obtain⟨ba,bc,rfl, -⟩:=hb.slice
 obtain⟨ua,uc,rfl, -⟩:=zh.slice h.qm
 obtain⟨op,reg,v,a,b,yt⟩:=x
 simp only [] at yO hvar ha hb zZ ⊢
 obtain⟨reg,rfl⟩:∃k:Nat,reg=(k:Int):=⟨reg.toNat,by omega⟩
 obtain⟨v,rfl⟩:∃k:Nat,v=(k:Int):=⟨v.toNat,by omega⟩
 have hr4:reg<4:=by omega
 have kW:v<mem.length:=by omega
 have hvI:(v:Int)<(mem.length:Int):=hvar.2
 have hrI:(reg:Int)<4:=yO.2
 try simp only [Int.toNat_natCast]
 clear ha hb
 unfold xw
 simp only []
 unfold yP at zZ
 generalize hva:zW [r0,r1,r2,r3] dom d a=va at zZ ⊢
 clear hva
 generalize a.kind=ak at zZ ⊢
 generalize a.n=an at zZ ⊢
 generalize a.op=ao at zZ ⊢
 generalize a.kids.length=al at zZ ⊢
 generalize b.kind=bk at ⊢
 generalize b.n=bn at ⊢
 generalize b.op=bo at ⊢
 generalize b.kids.length=bl at ⊢
 have HEA:=qh zZ
 clear zZ
 obtain⟨res,hres⟩:∃r:Option (zA × List Int × Bool),r=(some (⟨pc, [r0,r1,r2,r3],buf⟩,mem,bad||decide (va=0))):=⟨_,rfl⟩
 rw [<-hres]
 have yK:=qh hres
 clear hres
 obtain⟨un,hun⟩:∃n,n=buf.length:=⟨_,rfl⟩
 rw [<-hun] at h hbl
 have HUN:=qh hun
 have HR:=qh h
 have yH:=qh hB
 have HA:=qh ((Below.refl w.heap.size w).alloc (Nat.le_refl _) (.cells #[.int .i64 op, .int .i64 (reg:Int), .int .i64 (v:Int), .int .i64 ak, .int .i64 an, .int .u8 ao, .slice aa al ac, .int .i64 bk, .int .i64 bn, .int .u8 bo, .slice ba bl bc, .int .i64 yt] 60))
 have HX:=qh (zS w (.cells #[.int .i64 op, .int .i64 (reg:Int), .int .i64 (v:Int), .int .i64 ak, .int .i64 an, .int .u8 ao, .slice aa al ac, .int .i64 bk, .int .i64 bn, .int .u8 bo, .slice ba bl bc, .int .i64 yt] 60))
 clear h hun hB
 go_enter Tryz.func128,Tryz.ntmps128
 go_upto_region 1 with fail
 generalize World.alloc w _=W at HA HX ⊢
 obtain⟨gi,hgi⟩:∃g,g=w.heap.size:=⟨_,rfl⟩
 rw [<-hgi] at HX ⊢
 clear hgi
 have HRW:=qh (HR.out.below HA.out)
 have qN:Hid (Below B w W):=HA.out.mono yH.out
 have CC:Hid (∀x,Below W.heap.size W x->x.cell? ⟨gi,3,none⟩=some (.int .i64 ak)/\x.cell? ⟨gi,4,none⟩=some (.int .i64 an)/\x.cell? ⟨gi,5,none⟩=some (.int .u8 ao)/\x.cell? ⟨gi,6,none⟩=some (.slice aa al ac)/\x.cell? ⟨gr,10,none⟩=some (.bool bad)):=λx hx=>⟨zk hx _ _ (ze HX.out 3),zk hx _ _ (ze HX.out 4),zk hx _ _ (ze HX.out 5),zk hx _ _ (ze HX.out 6),zk hx _ _ (ze HRW.out.block 10)⟩
 obtain⟨c0,c1,c2,c3,c4⟩:=CC.out W (Below.refl _ _)
 have f10:W.frozen? ⟨gr,10,none⟩=false:=zK HRW.out.block 10
 cases bad with
 |true=>
  go_wp2_with fail
  go_ret
  rw [yK.out]
  exact qV (HRW.out.zhv _) (qN.out.setCell (p:=⟨gr,10,none⟩) HRW.out.base _)
 |false=>
 go_wp2_with fail
 refine(HEA.out W _ HRW.out HA.out).mono ?_
 rintro e w2 ⟨rfl,hb2⟩
 have HR2:=qh (HRW.out.below hb2)
 have HBB:Hid (Below B w w2):=qN.out.trans (hb2.mono (Nat.le_trans yH.out HA.out.size))
 have d1:w2.cell? ⟨gr,10,none⟩=some (.bool false):=ze HR2.out.block 10
 have g0:w2.frozen? ⟨gr,10,none⟩=false:=zK HR2.out.block 10
 clear hb2 f10 c0 c1 c2 c3 c4
 by_cases hz:va=0
 ·subst hz
  go_wp2_with fail
  go_ret
  rw [yK.out]
  exact qV (HR2.out.zhv _) (HBB.out.setCell (p:=⟨gr,10,none⟩) HR2.out.base _)
 have hz1:((va:Int)==0)=false:=by simp [hz]
 have HZ:Hid ((false||decide (va=0))=false):=by simp [Hid,hz]
 clear hz
 go_wp2_with fail
 go_ret
 rw [yK.out,HZ.out]
 exact qV (HR2.out.zhv _) (HBB.out.setCell (p:=⟨gr,10,none⟩) HR2.out.base _)
theorem zkY {w:World} {B gr mb mc:Nat} {pc r0 r1 r2 r3 dom:Int} {buf:List zl} {bv:Value} {m:zu} {mem:List Int} {bad:Bool} (h:yx v0 w B gr pc r0 r1 r2 r3 buf bv m dom mem mb mc bad) (hB:B<=w.heap.size) (hd1:1<=dom) (hd2:dom<=1000) (d:Nat) (x:zC) (ka kb:Value) (ha:zw d w x.a ka) (hb:zw d w x.b kb)
  (yO:0<=x.reg/\x.reg<4) (hvar:0<=x.var/\x.var<(mem.length:Int)) (hbl:buf.length<=1000000):Calls Tryz.prog 123 #[.pointer (some ⟨gr,0,none⟩),xw x ka kb] w λe w'=>
  xG v0 w B gr m dom mb mc (if buf.length=0 then some (⟨pc, [r0,r1,r2,r3],buf⟩,mem,bad) else none) e w':=by
 obtain⟨aa,ac,rfl, -⟩:=ha.slice
 obtain⟨ba,bc,rfl, -⟩:=hb.slice
 obtain⟨ua,uc,rfl, -⟩:=zh.slice h.qm
 obtain⟨op,reg,v,a,b,yt⟩:=x
 simp only [] at yO hvar ha hb ⊢
 obtain⟨reg,rfl⟩:∃k:Nat,reg=(k:Int):=⟨reg.toNat,by omega⟩
 obtain⟨v,rfl⟩:∃k:Nat,v=(k:Int):=⟨v.toNat,by omega⟩
 have hr4:reg<4:=by omega
 have kW:v<mem.length:=by omega
 have hvI:(v:Int)<(mem.length:Int):=hvar.2
 have hrI:(reg:Int)<4:=yO.2
 try simp only [Int.toNat_natCast]
 clear ha hb
 unfold xw
 simp only []
 generalize a.kind=ak at ⊢
 generalize a.n=an at ⊢
 generalize a.op=ao at ⊢
 generalize a.kids.length=al at ⊢
 generalize b.kind=bk at ⊢
 generalize b.n=bn at ⊢
 generalize b.op=bo at ⊢
 generalize b.kids.length=bl at ⊢
 obtain⟨res,hres⟩:∃r:Option (zA × List Int × Bool),r=(if buf.length=0 then some (⟨pc, [r0,r1,r2,r3],buf⟩,mem,bad) else none):=⟨_,rfl⟩
 rw [<-hres]
 have yK:=qh hres
 clear hres
 obtain⟨un,hun⟩:∃n,n=buf.length:=⟨_,rfl⟩
 rw [<-hun] at h hbl
 have HUN:=qh hun
 have HR:=qh h
 have yH:=qh hB
 have HA:=qh ((Below.refl w.heap.size w).alloc (Nat.le_refl _) (.cells #[.int .i64 op, .int .i64 (reg:Int), .int .i64 (v:Int), .int .i64 ak, .int .i64 an, .int .u8 ao, .slice aa al ac, .int .i64 bk, .int .i64 bn, .int .u8 bo, .slice ba bl bc, .int .i64 yt] 60))
 have HX:=qh (zS w (.cells #[.int .i64 op, .int .i64 (reg:Int), .int .i64 (v:Int), .int .i64 ak, .int .i64 an, .int .u8 ao, .slice aa al ac, .int .i64 bk, .int .i64 bn, .int .u8 bo, .slice ba bl bc, .int .i64 yt] 60))
 clear h hun hB
 go_enter Tryz.func123,Tryz.ntmps123
 go_upto_region 1 with fail
 generalize World.alloc w _=W at HA HX ⊢
 obtain⟨gi,hgi⟩:∃g,g=w.heap.size:=⟨_,rfl⟩
 rw [<-hgi] at HX ⊢
 clear hgi
 have HRW:=qh (HR.out.below HA.out)
 have qN:Hid (Below B w W):=HA.out.mono yH.out
 go_wp2_with fail
 refine(wG HRW.out).mono ?_
 rintro e w2 ⟨rfl,rfl⟩
 by_cases hz:buf.length=0
 ·have HZ:=qh hz
  have hz1:decide (buf.length=0)=true:=decide_eq_true hz
  clear hz
  rw [hz1]
  go_wp2_with fail
  go_ret
  rw [yK.out,if_pos HZ.out]
  exact qV HRW.out qN.out
 have HZ:=qh hz
 have hz1:decide (buf.length=0)=false:=decide_eq_false hz
 clear hz
 rw [hz1]
 go_wp2_with fail
 go_ret
 rw [yK.out,if_neg HZ.out]
 exact jA qN.out
theorem zmD {w:World} {B gr mb mc:Nat} {pc r0 r1 r2 r3 dom:Int} {buf:List zl} {bv:Value} {m:zu} {mem:List Int} {bad:Bool} (h:yx v0 w B gr pc r0 r1 r2 r3 buf bv m dom mem mb mc bad) (hB:B<=w.heap.size) (hd1:1<=dom) (hd2:dom<=1000) (d:Nat) (x:zC) (ka kb:Value) (ha:zw d w x.a ka) (hb:zw d w x.b kb)
  (yO:0<=x.reg/\x.reg<4) (hvar:0<=x.var/\x.var<(mem.length:Int)) (hbl:buf.length<=1000000):Calls Tryz.prog 124 #[.pointer (some ⟨gr,0,none⟩),xw x ka kb] w λe w'=>
  xG v0 w B gr m dom mb mc (if buf.length=0\/¬m.model=2 then some (⟨pc, [r0,r1,r2,r3],buf⟩,mem,bad) else none) e w':=by
 obtain⟨aa,ac,rfl, -⟩:=ha.slice
 obtain⟨ba,bc,rfl, -⟩:=hb.slice
 obtain⟨ua,uc,rfl, -⟩:=zh.slice h.qm
 obtain⟨op,reg,v,a,b,yt⟩:=x
 simp only [] at yO hvar ha hb ⊢
 obtain⟨reg,rfl⟩:∃k:Nat,reg=(k:Int):=⟨reg.toNat,by omega⟩
 obtain⟨v,rfl⟩:∃k:Nat,v=(k:Int):=⟨v.toNat,by omega⟩
 have hr4:reg<4:=by omega
 have kW:v<mem.length:=by omega
 have hvI:(v:Int)<(mem.length:Int):=hvar.2
 have hrI:(reg:Int)<4:=yO.2
 try simp only [Int.toNat_natCast]
 clear ha hb
 unfold xw
 simp only []
 generalize a.kind=ak at ⊢
 generalize a.n=an at ⊢
 generalize a.op=ao at ⊢
 generalize a.kids.length=al at ⊢
 generalize b.kind=bk at ⊢
 generalize b.n=bn at ⊢
 generalize b.op=bo at ⊢
 generalize b.kids.length=bl at ⊢
 obtain⟨res,hres⟩:∃r:Option (zA × List Int × Bool),r=(if buf.length=0\/¬m.model=2 then some (⟨pc, [r0,r1,r2,r3],buf⟩,mem,bad) else none):=⟨_,rfl⟩
 rw [<-hres]
 have yK:=qh hres
 clear hres
 obtain⟨un,hun⟩:∃n,n=buf.length:=⟨_,rfl⟩
 rw [<-hun] at h hbl
 have HUN:=qh hun
 have HR:=qh h
 have yH:=qh hB
 have HA:=qh ((Below.refl w.heap.size w).alloc (Nat.le_refl _) (.cells #[.int .i64 op, .int .i64 (reg:Int), .int .i64 (v:Int), .int .i64 ak, .int .i64 an, .int .u8 ao, .slice aa al ac, .int .i64 bk, .int .i64 bn, .int .u8 bo, .slice ba bl bc, .int .i64 yt] 60))
 have HX:=qh (zS w (.cells #[.int .i64 op, .int .i64 (reg:Int), .int .i64 (v:Int), .int .i64 ak, .int .i64 an, .int .u8 ao, .slice aa al ac, .int .i64 bk, .int .i64 bn, .int .u8 bo, .slice ba bl bc, .int .i64 yt] 60))
 clear h hun hB
 go_enter Tryz.func124,Tryz.ntmps124
 go_upto_region 1 with fail
 generalize World.alloc w _=W at HA HX ⊢
 obtain⟨gi,hgi⟩:∃g,g=w.heap.size:=⟨_,rfl⟩
 rw [<-hgi] at HX ⊢
 clear hgi
 have HRW:=qh (HR.out.below HA.out)
 have qN:Hid (Below B w W):=HA.out.mono yH.out
 have CC:Hid (∀x,Below W.heap.size W x->x.cell? ⟨gr,6,none⟩=some (.int .i64 m.model)):=λx hx=>zk hx _ _ (ze HRW.out.block 6)
 go_wp2_with fail
 refine(wG HRW.out).mono ?_
 rintro e w2 ⟨rfl,rfl⟩
 by_cases hz:buf.length=0
 ·have HZ:=qh hz
  have hz1:decide (buf.length=0)=true:=decide_eq_true hz
  clear hz
  rw [hz1]
  go_wp2_with fail
  go_ret
  rw [yK.out,if_pos (.inl HZ.out)]
  exact qV HRW.out qN.out
 have HZ:=qh hz
 have hz1:decide (buf.length=0)=false:=decide_eq_false hz
 clear hz
 rw [hz1]
 have c0:=CC.out w2 (Below.refl _ _)
 by_cases hm:m.model=2
 ·have hm1:((m.model:Int) !=2)=false:=by simp [hm]
  have HM:=qh hm
  clear hm
  go_wp2_with fail
  go_ret
  rw [yK.out,if_neg (λh=>h.elim HZ.out (λh2=>h2 HM.out))]
  exact jA qN.out
 have hm1:((m.model:Int) !=2)=true:=by simp [hm]
 have HM:=qh hm
 clear hm
 go_wp2_with fail
 go_ret
 rw [yK.out,if_pos (.inr HM.out)]
 exact qV HRW.out qN.out
theorem zjm {w:World} {B gr mb mc:Nat} {pc r0 r1 r2 r3 dom:Int} {buf:List zl} {bv:Value} {m:zu} {mem:List Int} {bad:Bool} (h:yx v0 w B gr pc r0 r1 r2 r3 buf bv m dom mem mb mc bad) (hB:B<=w.heap.size) (hd1:1<=dom) (hd2:dom<=1000) (d:Nat) (x:zC) (ka kb:Value) (ha:zw d w x.a ka) (hb:zw d w x.b kb)
  (yO:0<=x.reg/\x.reg<4) (hvar:0<=x.var/\x.var<(mem.length:Int)) (hbl:buf.length<=1000000):Calls Tryz.prog 127 #[.pointer (some ⟨gr,0,none⟩),xw x ka kb] w λe w'=>
  xG v0 w B gr m dom mb mc (if buf.length=0 then some (⟨pc, [r0,r1,r2,r3],buf⟩,mem.set x.var.toNat 0,bad) else none) e w':=by
 obtain⟨aa,ac,rfl, -⟩:=ha.slice
 obtain⟨ba,bc,rfl, -⟩:=hb.slice
 obtain⟨ua,uc,rfl, -⟩:=zh.slice h.qm
 obtain⟨op,reg,v,a,b,yt⟩:=x
 simp only [] at yO hvar ha hb ⊢
 obtain⟨reg,rfl⟩:∃k:Nat,reg=(k:Int):=⟨reg.toNat,by omega⟩
 obtain⟨v,rfl⟩:∃k:Nat,v=(k:Int):=⟨v.toNat,by omega⟩
 have hr4:reg<4:=by omega
 have kW:v<mem.length:=by omega
 have hvI:(v:Int)<(mem.length:Int):=hvar.2
 have hrI:(reg:Int)<4:=yO.2
 try simp only [Int.toNat_natCast]
 clear ha hb
 unfold xw
 simp only []
 generalize a.kind=ak at ⊢
 generalize a.n=an at ⊢
 generalize a.op=ao at ⊢
 generalize a.kids.length=al at ⊢
 generalize b.kind=bk at ⊢
 generalize b.n=bn at ⊢
 generalize b.op=bo at ⊢
 generalize b.kids.length=bl at ⊢
 obtain⟨res,hres⟩:∃r:Option (zA × List Int × Bool),r=(if buf.length=0 then some (⟨pc, [r0,r1,r2,r3],buf⟩,mem.set v 0,bad) else none):=⟨_,rfl⟩
 rw [<-hres]
 have yK:=qh hres
 clear hres
 obtain⟨un,hun⟩:∃n,n=buf.length:=⟨_,rfl⟩
 rw [<-hun] at h hbl
 have HUN:=qh hun
 have HR:=qh h
 have yH:=qh hB
 have HA:=qh ((Below.refl w.heap.size w).alloc (Nat.le_refl _) (.cells #[.int .i64 op, .int .i64 (reg:Int), .int .i64 (v:Int), .int .i64 ak, .int .i64 an, .int .u8 ao, .slice aa al ac, .int .i64 bk, .int .i64 bn, .int .u8 bo, .slice ba bl bc, .int .i64 yt] 60))
 have HX:=qh (zS w (.cells #[.int .i64 op, .int .i64 (reg:Int), .int .i64 (v:Int), .int .i64 ak, .int .i64 an, .int .u8 ao, .slice aa al ac, .int .i64 bk, .int .i64 bn, .int .u8 bo, .slice ba bl bc, .int .i64 yt] 60))
 clear h hun hB
 go_enter Tryz.func127,Tryz.ntmps127
 go_upto_region 1 with fail
 generalize World.alloc w _=W at HA HX ⊢
 obtain⟨gi,hgi⟩:∃g,g=w.heap.size:=⟨_,rfl⟩
 rw [<-hgi] at HX ⊢
 clear hgi
 have HRW:=qh (HR.out.below HA.out)
 have qN:Hid (Below B w W):=HA.out.mono yH.out
 have CC:Hid (∀x,Below W.heap.size W x->x.cell? ⟨gi,2,none⟩=some (.int .i64 (v:Int))/\x.cell? ⟨gr,9,none⟩=some (.slice (some ⟨mb,0,none⟩) mem.length mc)):=λx hx=>⟨zk hx _ _ (ze HX.out 2),zk hx _ _ (ze HRW.out.block 9)⟩
 refine wp_region_noPanic ?_
 refine yh (n0:=7) (S:=λx=>Below W.heap.size W x) (by kernel_rfl) ((Below.refl _ _).drew) (λhT=> ?_)
 refine zJ 0 (λ_=>hT) ?_
 refine zJ 1 (λ_=>hT) ?_
 refine zJ 2 (λ_=>hT) ?_
 refine qP [6,7] 3 CC.out hT ?_
 refine zJ 4 (λ_=>hT) ?_
 refine qP [6,7] 5 CC.out hT ?_
 refine zJ 6 (λ_=>hT) ?_
 refine qx 7 rfl (λK hK=> ?_)
 obtain⟨q0,q1⟩:=(HRW.out.below (Below.refl _ _).drew).kD kW
 go_simp
 refine hK.out _ _ (λh=>absurd rfl h) ?_
 clear hK K
 refine yA (by kernel_rfl) ?_ _
 refine NoPanic.normal ?_
 clear q0 q1
 have HR2:=qh ((HRW.out.below (Below.refl _ _).drew).zaZ v 0)
 have HB2:Hid (Below B w (W.drew.setCell ⟨mb,v,none⟩ (.int .i64 0))):=qN.out.drew.setCell (p:=⟨mb,v,none⟩) HRW.out.jD.1 _
 go_wp2_with fail
 refine(wG HR2.out).mono ?_
 rintro e w3 ⟨rfl,rfl⟩
 by_cases hz:buf.length=0
 ·have HZ:=qh hz
  have hz1:decide (buf.length=0)=true:=decide_eq_true hz
  clear hz
  rw [hz1]
  go_wp2_with fail
  go_ret
  rw [yK.out,if_pos HZ.out]
  exact qV HR2.out HB2.out
 have HZ:=qh hz
 have hz1:decide (buf.length=0)=false:=decide_eq_false hz
 clear hz
 rw [hz1]
 go_wp2_with fail
 go_ret
 rw [yK.out,if_neg HZ.out]
 exact jA HB2.out
