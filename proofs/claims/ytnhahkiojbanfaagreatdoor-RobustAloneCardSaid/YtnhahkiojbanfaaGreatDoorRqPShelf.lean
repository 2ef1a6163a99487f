/- Steps. -/
import Derived.Shelf.Slices.Cells
import Derived.Shelf.Slices.In.SortNone
import Derived.Shelf.Slices.Turned
import Derived.Shelf.Sort.Plain
import Derived.Test.YtnhahkiojbanfaaGreatDoorRqPBuf
import Derived.Test.YtnhahkiojbanfaaGreatDoorRqPCode
import Derived.Test.YtnhahkiojbanfaaGreatDoorRqPEval
set_option linter.all false
namespace Go.Proofs.YtnhahkiojbanfaaGreatDoor
open Go.Shelf
def zjh:Go.Shelf.Ren:=⟨λ|189=>80|125=>98|257=>97|128=>118|129=>119|294=>109|295=>110|296=>111|297=>112|298=>113|299=>114|216=>115|300=>116|301=>117|328=>149|329=>150|330=>151|331=>152|332=>153|215=>154|343=>166|n=>n,λ|28=>31|3=>3|46=>151|0=>0|51=>191|53=>149|4=>4|183=>184|182=>183|131=>91|5=>5|9=>9|218=>201|222=>205|228=>218|229=>219|n=>n,λ|n=>n⟩
theorem zjM:Go.Proofs.Lays.n189 Tryz.prog zjh:= {
 mixed:=by kernel_rfl
 f125:=Tryz.func98.trans (congrArg some (by kernel_rfl))
 f128:=Tryz.func118.trans (congrArg some (by kernel_rfl))
 f129:=Tryz.func119.trans (congrArg some (by kernel_rfl))
 f189:=Tryz.func80.trans (congrArg some (by kernel_rfl))
 f215:=Tryz.func154.trans (congrArg some (by kernel_rfl))
 f216:=Tryz.func115.trans (congrArg some (by kernel_rfl))
 f257:=Tryz.func97.trans (congrArg some (by kernel_rfl))
 f294:=Tryz.func109.trans (congrArg some (by kernel_rfl))
 f295:=Tryz.func110.trans (congrArg some (by kernel_rfl))
 f296:=Tryz.func111.trans (congrArg some (by kernel_rfl))
 f297:=Tryz.func112.trans (congrArg some (by kernel_rfl))
 f298:=Tryz.func113.trans (congrArg some (by kernel_rfl))
 f299:=Tryz.func114.trans (congrArg some (by kernel_rfl))
 f300:=Tryz.func116.trans (congrArg some (by kernel_rfl))
 f301:=Tryz.func117.trans (congrArg some (by kernel_rfl))
 f328:=Tryz.func149.trans (congrArg some (by kernel_rfl))
 f329:=Tryz.func150.trans (congrArg some (by kernel_rfl))
 f330:=Tryz.func151.trans (congrArg some (by kernel_rfl))
 f331:=Tryz.func152.trans (congrArg some (by kernel_rfl))
 f332:=Tryz.func153.trans (congrArg some (by kernel_rfl))
 f343:=Tryz.func166.trans (congrArg some (by kernel_rfl))
 t0:=Tryz.underlying0
 a0:=Tryz.isAgg0
 z0:=Tryz.sizeOf0
 v0:=Tryz.zeroValue0
 t3:=Tryz.underlying3
 a3:=Tryz.isAgg3
 z3:=Tryz.sizeOf3
 v3:=Tryz.zeroValue3
 t4:=Tryz.underlying4
 a4:=Tryz.isAgg4
 z4:=Tryz.sizeOf4
 v4:=Tryz.zeroValue4
 t5:=Tryz.underlying5
 a5:=Tryz.isAgg5
 z5:=Tryz.sizeOf5
 v5:=Tryz.zeroValue5
 t9:=Tryz.underlying9
 a9:=Tryz.isAgg9
 z9:=Tryz.sizeOf9
 v9:=Tryz.zeroValue9
 t28:=Tryz.underlying31
 a28:=Tryz.isAgg31
 z28:=Tryz.sizeOf31
 v28:=Tryz.zeroValue31
 t46:=Tryz.underlying151
 a46:=Tryz.isAgg151
 z46:=Tryz.sizeOf151
 v46:=Tryz.zeroValue151
 t51:=Tryz.underlying191
 a51:=Tryz.isAgg191
 z51:=Tryz.sizeOf191
 v51:=Tryz.zeroValue191
 t53:=Tryz.underlying149
 a53:=Tryz.isAgg149
 z53:=Tryz.sizeOf149
 v53:=Tryz.zeroValue149
 t131:=Tryz.underlying91
 a131:=Tryz.isAgg91
 z131:=Tryz.sizeOf91
 v131:=Tryz.zeroValue91
 t182:=Tryz.underlying183
 a182:=Tryz.isAgg183
 z182:=Tryz.sizeOf183
 v182:=Tryz.zeroValue183
 t183:=Tryz.underlying184
 a183:=Tryz.isAgg184
 z183:=Tryz.sizeOf184
 v183:=Tryz.zeroValue184
 t218:=Tryz.underlying201
 a218:=Tryz.isAgg201
 z218:=Tryz.sizeOf201
 v218:=Tryz.zeroValue201
 t222:=Tryz.underlying205
 a222:=Tryz.isAgg205
 z222:=Tryz.sizeOf205
 v222:=Tryz.zeroValue205
 t228:=Tryz.underlying218
 a228:=Tryz.isAgg218
 z228:=Tryz.sizeOf218
 v228:=Tryz.zeroValue218
 t229:=Tryz.underlying219
 a229:=Tryz.isAgg219
 z229:=Tryz.sizeOf219
 v229:=Tryz.zeroValue219 }
open Go.Sort Go.RowKit in
theorem slices_Sort_int (blk off cap:Nat) (zs:List Int) (w:World) (hH:Holds (Value.int .i64) w blk off zs.toArray) (hblk:blk<w.heap.size) (hsz:zs.length<4611686018427387904):
  Calls Tryz.prog 80 #[.slice (some ⟨blk,off,none⟩) zs.length cap] w λe w'=>
   e= .returned (.tuple #[])/\∃n os,w'=grow (putRow (Value.int .i64) (Sort.ahead w n) blk off (zs.mergeSort λx y=>decide (x<=y)).toArray) os:=Any.slices_Sort_int zjM blk off cap zs w hH hblk hsz
def zji:Go.Shelf.Ren:=⟨λ|107=>100|108=>131|n=>n,λ|28=>31|3=>3|4=>4|0=>0|n=>n,λ|n=>n⟩
theorem zjN:Go.Proofs.Lays.n107 Tryz.prog zji:= {
 mixed:=by kernel_rfl
 f107:=Tryz.func100.trans (congrArg some (by kernel_rfl))
 f108:=Tryz.func131.trans (congrArg some (by kernel_rfl))
 t0:=Tryz.underlying0
 a0:=Tryz.isAgg0
 z0:=Tryz.sizeOf0
 v0:=Tryz.zeroValue0
 t3:=Tryz.underlying3
 a3:=Tryz.isAgg3
 z3:=Tryz.sizeOf3
 v3:=Tryz.zeroValue3
 t4:=Tryz.underlying4
 a4:=Tryz.isAgg4
 z4:=Tryz.sizeOf4
 v4:=Tryz.zeroValue4
 t28:=Tryz.underlying31
 a28:=Tryz.isAgg31
 z28:=Tryz.sizeOf31
 v28:=Tryz.zeroValue31 }
open Go.Lib in
theorem slices_Contains_int (b off n c:Nat) (zs:List Int) (x:Int) (w:World) (hz:n<=zs.length) (hbig:n<=9223372036854775807) (hc:∀j,j<zs.length->w.cell? ⟨b,off+j,none⟩=some (.int .i64 (zs.getD j 0))):
  Calls Tryz.prog 100 #[.slice (some ⟨b,off,none⟩) n c, .int .i64 x] w λe w'=>e= .returned (.bool ((zs.take n).contains x))/\w'=w:=Any.slices_Contains_int zjN b off n c zs x w hz hbig hc
open Go.Lib in
theorem slices_Contains_int_empty (a:Option Addr) (c:Nat) (x:Int) (w:World):
  Calls Tryz.prog 100 #[.slice a 0 c, .int .i64 x] w λe w'=>e= .returned (.bool false)/\w'=w:=Any.slices_Contains_int_empty zjN a c x w
def zha:Go.Shelf.Ren:=⟨λ|20=>81|n=>n,λ|22=>31|3=>3|4=>4|0=>0|n=>n,λ|n=>n⟩
theorem zgl:Go.Proofs.Lays2.n20 Tryz.prog zha:= {
 mixed:=by kernel_rfl
 f20:=Tryz.func81.trans (congrArg some (by kernel_rfl))
 t0:=Tryz.underlying0
 a0:=Tryz.isAgg0
 z0:=Tryz.sizeOf0
 v0:=Tryz.zeroValue0
 t3:=Tryz.underlying3
 a3:=Tryz.isAgg3
 z3:=Tryz.sizeOf3
 v3:=Tryz.zeroValue3
 t4:=Tryz.underlying4
 a4:=Tryz.isAgg4
 z4:=Tryz.sizeOf4
 v4:=Tryz.zeroValue4
 t22:=Tryz.underlying31
 a22:=Tryz.isAgg31
 z22:=Tryz.sizeOf31
 v22:=Tryz.zeroValue31
 i3:=by kernel_rfl }
open Go.RowKit Go.Lib Go.Sort in
theorem slices_Compact_int (blk off cap:Nat) (zs:List Int) (w:World) (hH:Holds (Value.int .i64) w blk off zs.toArray) (hsz:zs.length<=9223372036854775807) (hcap:zs.length<=cap):
  Calls Tryz.prog 81 #[.slice (some ⟨blk,off,none⟩) zs.length cap] w λe w'=>e= .returned (.slice (some ⟨blk,off,none⟩) (Lib.compact zs).length cap)/\∃q,w'=putRow (Value.int .i64) (Sort.ahead w q) blk off (Lib.compact zs++List.replicate (zs.length - (Lib.compact zs).length) 0).toArray:=Any.slices_Compact_int zgl blk off cap zs w hH hsz hcap
open Go.RowKit Go.Lib Go.Sort in
theorem slices_Compact_int_empty (a:Option Addr) (cap:Nat) (w:World):
  Calls Tryz.prog 81 #[.slice a 0 cap] w λe w'=>e= .returned (.slice a 0 cap)/\w'=w:=Any.slices_Compact_int_empty zgl a cap w
open Go.RowKit Go.Sort in
theorem slices_Sort_int_none (p:Option Addr) (cap:Nat) (w:World):
  Calls Tryz.prog 80 #[.slice p 0 cap] w λe w'=>e= .returned (.tuple #[])/\w'=w:=Any.slices_Sort_int_none zjM p cap w
end Go.Proofs.YtnhahkiojbanfaaGreatDoor
namespace Go.Proofs.YtnhahkiojbanfaaGreatDoor
open Go.RowKit
set_option maxRecDepth 100000
set_option maxHeartbeats 16000000
theorem zo8 (w:World) (c:zx) (tv:Value) (d:Nat) (h:yS d w tv c.threads) (m:zu):Calls Tryz.prog 35 #[xW c tv,vZ m] w λe w'=>e= .returned (.bool (xC c m))/\Below w.heap.size w w':=by
 obtain⟨ta,tc,rfl,htl⟩:=zh.slice h
 obtain⟨r,hr⟩:∃r,r=xC c m:=⟨_,rfl⟩
 obtain⟨co,hco⟩:∃co,co=codeOk c:=⟨_,rfl⟩
 have hcode:=λW (hW:yS d W (.slice ta c.threads.length tc) c.threads)=>zd4 W c (.slice ta c.threads.length tc) d hW
 rw [<-hco] at hcode
 have hr2:r=(co && decide (0<=m.model) && decide (m.model<=2) && decide (1<=m.bound) && decide (m.bound<=8)):=by rw [hr,hco];rfl
 rw [<-hr]
 obtain⟨vars,dom,cs⟩:=c
 obtain⟨mod,bnd⟩:=m
 simp only [] at h htl hcode hr2 ⊢
 unfold xW vZ
 unfold xW at hcode
 simp only [] at hcode ⊢
 obtain⟨n,hn⟩:∃n,n=cs.length:=⟨_,rfl⟩
 rw [<-hn] at h htl hcode ⊢
 have hB:=xQ w (.cells #[.int .i64 vars, .int .i64 dom, .slice ta n tc] 26) (.cells #[.int .i64 mod, .int .i64 bnd] 29)
 have HB:=qh hB
 have H1:=qh (xR w (.cells #[.int .i64 vars, .int .i64 dom, .slice ta n tc] 26) (.cells #[.int .i64 mod, .int .i64 bnd] 29))
 have H2:=qh (yT w (.cells #[.int .i64 vars, .int .i64 dom, .slice ta n tc] 26) (.cells #[.int .i64 mod, .int .i64 bnd] 29))
 have HT:=qh (zh.below (qU.stays d) h hB)
 have zeF:=qh hcode
 have HR:=qh hr2
 clear h hB hcode hr hr2 hco hn
 go_enter Tryz.func35,Tryz.ntmps35
 go_upto_region 1 with fail
 generalize World.alloc (World.alloc w _) _=W at HB H1 H2 HT ⊢
 obtain⟨gx,hgx⟩:∃gx,gx=w.heap.size:=⟨_,rfl⟩
 rw [<-hgx] at H1 H2 ⊢
 clear hgx
 have c0:W.cell? ⟨gx,0,none⟩=some (.int .i64 vars):=ze H1.out 0
 have c1:W.cell? ⟨gx,1,none⟩=some (.int .i64 dom):=ze H1.out 1
 have c2:W.cell? ⟨gx,2,none⟩=some (.slice ta n tc):=ze H1.out 2
 go_wp2_with fail
 refine(zeF.out W HT.out).mono ?_
 rintro e W1 ⟨rfl,hb⟩
 have HW1:Hid (Below w.heap.size w W1):=HB.out.trans (hb.mono HB.out.size)
 have d0:W1.cell? ⟨gx+1,0,none⟩=some (.int .i64 mod):=zk hb _ _ (ze H2.out 0)
 have d1:W1.cell? ⟨gx+1,1,none⟩=some (.int .i64 bnd):=zk hb _ _ (ze H2.out 1)
 clear hb c0 c1 c2 H1 H2 HT zeF
 cases co with
 |false=>
  obtain rfl:r=false:=by rw [HR.out];simp
  clear HR
  go_wp2_with fail
  go_ret
  exact⟨by first|rfl|(simp;done)|(simp;omega),HW1.out⟩
 |true=>
 by_cases a0:0<=mod
 rotate_left
 ·obtain rfl:r=false:=by rw [HR.out];simp [a0]
  clear HR
  go_wp2_with fail
  go_ret
  exact⟨by first|rfl|(simp;done)|(simp;omega),HW1.out⟩
 skip
 by_cases a1:mod<=2
 rotate_left
 ·obtain rfl:r=false:=by rw [HR.out];simp [a1]
  clear HR
  go_wp2_with fail
  go_ret
  exact⟨by first|rfl|(simp;done)|(simp;omega),HW1.out⟩
 skip
 by_cases a2:1<=bnd
 ·skip
  by_cases a3:bnd<=8
  ·skip
   obtain rfl:r=true:=by rw [HR.out];simp [a0,a1,a2,a3]
   clear HR
   go_wp2_with fail
   go_ret
   exact⟨by first|rfl|(simp;done)|(simp;omega),HW1.out⟩
  obtain rfl:r=false:=by rw [HR.out];simp [a3]
  clear HR
  go_wp2_with fail
  go_ret
  exact⟨by first|rfl|(simp;done)|(simp;omega),HW1.out⟩
 obtain rfl:r=false:=by rw [HR.out];simp [a2]
 clear HR
 go_wp2_with fail
 go_ret
 exact⟨by first|rfl|(simp;done)|(simp;omega),HW1.out⟩
theorem zcb (w:World) (sv:Value) (l:List Int) (h:qI w sv l) (v:Int):Calls Tryz.prog 100 #[sv, .int .i64 v] w λe w'=>e= .returned (.bool (l.contains v))/\w'=w:=by
 obtain⟨a,c,rfl,hl⟩:=zh.slice h
 rcases Nat.eq_zero_or_pos l.length with h0|h0
 ·have e:l= [] :=List.eq_nil_of_length_eq_zero h0
  subst e
  exact slices_Contains_int_empty a c v w
 obtain⟨b,off,rfl, -⟩:=qI.part h 0 h0
 have:=slices_Contains_int b off l.length c l v w (Nat.le_refl _) hl (λj hj=>by obtain⟨b',off',he, -,hc⟩:=qI.part h j hj;cases he;exact hc)
 rw [List.take_length] at this
 exact this
end Go.Proofs.YtnhahkiojbanfaaGreatDoor
namespace Go.Proofs.YtnhahkiojbanfaaGreatDoor
open Go.RowKit
set_option maxRecDepth 100000
set_option maxHeartbeats 16000000
variable {v0:Value}
structure yx (v0:Value) (w:World) (B gr:Nat) (pc r0 r1 r2 r3:Int) (buf:List zl) (bv:Value) (m:zu) (dom:Int) (mem:List Int) (mb mc:Nat) (bad:Bool):Prop where
 block:w.heap[gr]? =some (.cells #[.int .i64 pc, .int .i64 r0, .int .i64 r1, .int .i64 r2, .int .i64 r3,bv, .int .i64 m.model, .int .i64 m.bound, .int .i64 dom, .slice (some ⟨mb,0,none⟩) mem.length mc, .bool bad] 156 (0,0))
 row:w.ownsRow B 3 1 (.slice (some ⟨mb,0,none⟩) mem.length mc) mem.length (zq yU mem)
 qm:yu w bv buf
 base:B<=gr
 ne:gr≠mb
 apart:buf≠ [] ->∀b o n c,bv= .slice (some ⟨b,o,none⟩) n c->b≠gr/\b≠mb
 kept:bv=v0\/∀b o n c,bv= .slice (some ⟨b,o,none⟩) n c->B<=b
section
variable {w w':World} {B gr mb mc:Nat} {pc r0 r1 r2 r3 dom:Int} {buf:List zl} {bv:Value} {m:zu} {mem:List Int} {bad:Bool}
theorem yx.below (h:yx v0 w B gr pc r0 r1 r2 r3 buf bv m dom mem mb mc bad) (hb:Below w.heap.size w w'):yx v0 w' B gr pc r0 r1 r2 r3 buf bv m dom mem mb mc bad:=
 ⟨(hb.block gr (zy h.block)).trans h.block,qC h.row hb,yu.below h.qm hb,h.base,h.ne,h.apart,h.kept⟩
theorem yx.jD (h:yx v0 w B gr pc r0 r1 r2 r3 buf bv m dom mem mb mc bad):B<=mb/\mb<w.heap.size:=h.row.lt mb rfl
theorem yx.kD (h:yx v0 w B gr pc r0 r1 r2 r3 buf bv m dom mem mb mc bad) {v:Nat} (hv:v<mem.length):w.cell? ⟨mb,v,none⟩=some (.int .i64 (mem.getD v 0))/\w.frozen? ⟨mb,v,none⟩=false:=by
 have hx:(zq yU mem)[v]? =some (.int .i64 (mem.getD v 0)):=by
  have:=gI (f:=yU) zaY hv (show 0<1 by decide)
  simpa [yU] using this
 obtain⟨g,cap,he, -,h1,h2⟩:=vC h.row hx
 cases he
 exact⟨h1,h2⟩
theorem zgm {F:Nat->Prop} {sv:Value} {l:List zl} (h:yu w sv l) (hs:Since F w w') (hF:∀b o n c,sv= .slice (some ⟨b,o,none⟩) n c->¬F b):yu w' sv l:=by
 obtain⟨a,cap,h1,h2,h4⟩:=h
 refine⟨a,cap,h1,h2,λj hj=> ?_⟩
 obtain⟨b,off,cs,h5,h6,h7,h8,h9⟩:=h4 j hj
 subst h5
 exact⟨b,off,cs,rfl,Nat.lt_of_lt_of_le h6 hs.size,h7,λi hi=>(hs.cell (p:=⟨b,off+j*2+i,none⟩) h6 (hF b off _ _ h1)).trans (h8 i hi),h9⟩
theorem gV {F:Nat->Prop} {sv:Value} {l:List zl} (h:yu w sv l) (hs:Since F w w') (hF:l≠ [] ->∀b o n c,sv= .slice (some ⟨b,o,none⟩) n c->¬F b):yu w' sv l:=by
 by_cases e:l= []
 ·subst e
  obtain⟨a,cap,h1,h2, -⟩:=h
  exact⟨a,cap,h1,h2,λj hj=>by simp at hj⟩
 exact zgm h hs (hF e)
theorem yx.zkD (h:yx v0 w B gr pc r0 r1 r2 r3 buf bv m dom mem mb mc bad) (x:Int):yx v0 (w.setCell ⟨gr,0,none⟩ (.int .i64 x)) B gr x r0 r1 r2 r3 buf bv m dom mem mb mc bad:=by
 have hs:=Since.setCell (F:=λk=>k=gr) (p:=⟨gr,0,none⟩) (Since.refl _ w) (.inl rfl) (.int .i64 x)
 exact⟨zD h.block 0 _,hs.row h.row (λk hk e=>h.ne (by cases hk;exact e.symm)),gV h.qm hs (λe b o n c hb=>(h.apart e b o n c hb).1),h.base,h.ne,h.apart,h.kept⟩
theorem yx.zhv (h:yx v0 w B gr pc r0 r1 r2 r3 buf bv m dom mem mb mc bad) (x:Bool):yx v0 (w.setCell ⟨gr,10,none⟩ (.bool x)) B gr pc r0 r1 r2 r3 buf bv m dom mem mb mc x:=by
 have hs:=Since.setCell (F:=λk=>k=gr) (p:=⟨gr,10,none⟩) (Since.refl _ w) (.inl rfl) (.bool x)
 exact⟨zD h.block 10 _,hs.row h.row (λk hk e=>h.ne (by cases hk;exact e.symm)),gV h.qm hs (λe b o n c hb=>(h.apart e b o n c hb).1),h.base,h.ne,h.apart,h.kept⟩
theorem yx.zcw (h:yx v0 w B gr pc r0 r1 r2 r3 buf bv m dom mem mb mc bad) (k:Nat) (hk:k<4) (x:Int):yx v0 (w.setCell ⟨gr,1+k,none⟩ (.int .i64 x)) B gr pc (([r0,r1,r2,r3].set k x).getD 0 0) (([r0,r1,r2,r3].set k x).getD 1 0) (([r0,r1,r2,r3].set k x).getD 2 0) (([r0,r1,r2,r3].set k x).getD 3 0) buf bv m dom mem mb mc bad:=by
 have hs:=Since.setCell (F:=λk=>k=gr) (p:=⟨gr,1+k,none⟩) (Since.refl _ w) (.inl rfl) (.int .i64 x)
 refine⟨?_,hs.row h.row (λk hk e=>h.ne (by cases hk;exact e.symm)),gV h.qm hs (λe b o n c hb=>(h.apart e b o n c hb).1),h.base,h.ne,h.apart,h.kept⟩
 have e:=zD h.block (1+k) (.int .i64 x)
 have:k=0\/k=1\/k=2\/k=3:=by omega
 rcases this with rfl|rfl|rfl|rfl<;>exact e
theorem yx.zm0 (h:yx v0 w B gr pc r0 r1 r2 r3 buf bv m dom mem mb mc bad) {V:World} (hV:gr<V.heap.size/\mb<V.heap.size) {bW:Value} {buf':List zl} (hb:w.ownsRow V.heap.size 110 2 bW buf'.length (zq zl.cells buf')):yx v0 (w.setCell ⟨gr,5,none⟩ bW) B gr pc r0 r1 r2 r3 buf' bW m dom mem mb mc bad:=by
 have hs:=Since.setCell (F:=λk=>k=gr) (p:=⟨gr,5,none⟩) (Since.refl _ w) (.inl rfl) bW
 have ha:∀b o n c,bW= .slice (some ⟨b,o,none⟩) n c->b≠gr/\b≠mb:=λb o n c e=>by
  rcases hb.2 with⟨he, -⟩|⟨g,cap,cur,he,hB, -⟩
  ·rw [he] at e;cases e
  rw [he] at e;cases e;exact⟨by omega,by omega⟩
 refine⟨zD h.block 5 _,hs.row h.row (λk hk e=>h.ne (by cases hk;exact e.symm)),zgm (zhw hb) hs (λb o n c e=>(ha b o n c e).1),h.base,h.ne,λ_=>ha, .inr λb o n c e=> ?_⟩
 have hbg:=h.base
 rcases hb.2 with⟨he, -⟩|⟨g,cap,cur,he,hB, -⟩
 ·rw [he] at e;cases e
 rw [he] at e;cases e;omega
theorem yx.zaZ (h:yx v0 w B gr pc r0 r1 r2 r3 buf bv m dom mem mb mc bad) (v:Nat) (x:Int):yx v0 (w.setCell ⟨mb,v,none⟩ (.int .i64 x)) B gr pc r0 r1 r2 r3 buf bv m dom (mem.set v x) mb mc bad:=by
 have hs:=Since.setCell (F:=λk=>k=mb) (p:=⟨mb,v,none⟩) (Since.refl _ w) (.inl rfl) (.int .i64 x)
 have hr:=uP (j:=v) h.row (.int .i64 x)
 refine⟨?_, ?_,gV h.qm hs (λe b o n c hb=>(h.apart e b o n c hb).2),h.base,h.ne,h.apart,h.kept⟩
 ·rw [List.length_set];exact(hs.block gr (zy h.block) h.ne).trans h.block
 rw [List.length_set,zo9];exact hr
end
theorem gW {w:World} {B gr mb mc:Nat} {pc r0 r1 r2 r3 dom:Int} {buf:List zl} {bv:Value} {m:zu} {mem:List Int} {bad:Bool} (h:yx v0 w B gr pc r0 r1 r2 r3 buf bv m dom mem mb mc bad) (hd1:1<=dom) (hd2:dom<=1000) (d:Nat) (x:zG) (kv:Value) (hx:zw d w x kv):
  Calls Tryz.prog 156 #[.pointer (some ⟨gr,0,none⟩),yP x kv] w λe w'=>e= .returned (.int .i64 (zW [r0,r1,r2,r3] dom d x))/\Below w.heap.size w w':=by
 have hev:=λW (hW:Below w.heap.size w W)=>zm1 r0 r1 r2 r3 dom hd1 hd2 d W x kv (hx.below hW)
 obtain⟨ka,kc,rfl, -⟩:=hx.slice
 generalize zW [r0,r1,r2,r3] dom d x=r at hev ⊢
 unfold yP at hev ⊢
 generalize x.kind=k at hev ⊢
 generalize x.n=n at hev ⊢
 generalize x.op=o at hev ⊢
 generalize x.kids.length=l at hev ⊢
 have HEV:=qh hev
 have HR:=qh h
 clear hev hx h
 have HA:=qh ((Below.refl w.heap.size w).alloc (Nat.le_refl _) (.cells #[.int .i64 k, .int .i64 n, .int .u8 o, .slice ka l kc] 58))
 have HX:=qh (zS w (.cells #[.int .i64 k, .int .i64 n, .int .u8 o, .slice ka l kc] 58))
 go_enter Tryz.func156,Tryz.ntmps156
 go_upto_region 1 with fail
 generalize World.alloc w _=W at HA HX ⊢
 obtain⟨gi,hgi⟩:∃g,g=w.heap.size:=⟨_,rfl⟩
 rw [<-hgi] at HX ⊢
 clear hgi
 have HB:=qh ((HR.out.below HA.out).block)
 have CC:Hid (∀x,Below W.heap.size W x->x.cell? ⟨gi,0,none⟩=some (.int .i64 k)/\x.cell? ⟨gi,1,none⟩=some (.int .i64 n)/\x.cell? ⟨gi,2,none⟩=some (.int .u8 o)/\x.cell? ⟨gi,3,none⟩=some (.slice ka l kc)/\x.cell? ⟨gr,1,none⟩=some (.int .i64 r0)/\x.cell? ⟨gr,2,none⟩=some (.int .i64 r1)/\x.cell? ⟨gr,3,none⟩=some (.int .i64 r2)/\x.cell? ⟨gr,4,none⟩=some (.int .i64 r3)/\x.cell? ⟨gr,8,none⟩=some (.int .i64 dom)):=λx hx=>
  ⟨zk hx _ _ (ze HX.out 0),zk hx _ _ (ze HX.out 1),zk hx _ _ (ze HX.out 2),zk hx _ _ (ze HX.out 3),zk hx _ _ (ze HB.out 1),zk hx _ _ (ze HB.out 2),zk hx _ _ (ze HB.out 3),zk hx _ _ (ze HB.out 4),zk hx _ _ (ze HB.out 8)⟩
 refine gX (S:=λx=>Below W.heap.size W x) ((Below.refl _ _).drew) (λhH=> ?_)
 refine zB 0 CC.out ?_
 refine zB 1 CC.out ?_
 refine zB 2 CC.out ?_
 refine zB 3 CC.out ?_
 refine zB 4 CC.out ?_
 refine zB 5 CC.out ?_
 refine zB 6 CC.out ?_
 refine zB 7 CC.out ?_
 refine zB 8 CC.out ?_
 refine zB 9 CC.out ?_
 refine yZ 10 rfl (λK hK=> ?_)
 go_simp
 refine(HEV.out W.drew (zM HA.out hH)).mono ?_
 rintro e zsF ⟨rfl,hb⟩
 have zqH:Below W.heap.size W zsF:=zM hH hb
 refine hK.out _ _ zqH (λ_=> ?_)
 clear hK K hb hH
 refine zB 11 CC.out ?_
 refine vN ?_
 have HB2:Hid (Below w.heap.size w zsF):=zM HA.out (zqH)
 go_wp2_with fail
 go_ret
 exact⟨by first|rfl|(simp;done)|(simp;omega),HB2.out⟩
theorem wG {w:World} {B gr mb mc:Nat} {pc r0 r1 r2 r3 dom:Int} {buf:List zl} {bv:Value} {m:zu} {mem:List Int} {bad:Bool} (h:yx v0 w B gr pc r0 r1 r2 r3 buf bv m dom mem mb mc bad):
  Calls Tryz.prog 158 #[.pointer (some ⟨gr,0,none⟩)] w λe w'=>e= .returned (.bool (decide (buf.length=0)))/\w'=w:=by
 obtain⟨ba,bc,hbv, -⟩:=zh.slice h.qm
 have hb:=h.block
 rw [hbv] at hb
 have c5:w.cell? ⟨gr,5,none⟩=some (.slice ba buf.length bc):=ze hb 5
 clear hb h
 go_enter Tryz.func158,Tryz.ntmps158
 go_wp2_with fail
 go_ret
 refine⟨congrArg (λq=>Ending.returned (.bool q)) ?_,rfl⟩
 first|rfl|(rw [Bool.eq_iff_iff];simp)
