/- Contracts of Go's library, laid at the seat's numbers. May a machine run code; may stores wait: the program's answers: the walks. -/
import Derived.Shelf.Slices.Cells
import Derived.Shelf.Slices.CompactI
import Derived.Shelf.Slices.In.SortNone
import Derived.Shelf.Slices.Turned
import Derived.Shelf.Sort.Plain
import Derived.Test.YtliajkheeniljaaGreatDoorRows
import Derived.Test.YtliajkheeniljaaGreatDoorZsPCode
import Derived.Test.YtliajkheeniljaaGreatDoorZsPSrc
import Derived.Test.YtliajkheeniljaaGreatDoorZsShort
set_option linter.all false
namespace Go.Proofs.YtliajkheeniljaaGreatDoor
open Go.Shelf
def zkc:Go.Shelf.Ren:=⟨fun|189=>105|125=>124|257=>123|128=>164|129=>165|294=>155|295=>156|296=>157|297=>158|298=>159|299=>160|216=>161|300=>162|301=>163|328=>176|329=>177|330=>178|331=>179|332=>180|215=>181|343=>187|n=>n,fun|28=>28|3=>3|46=>175|0=>0|51=>204|53=>173|4=>4|183=>197|182=>196|131=>104|5=>5|9=>9|218=>217|222=>221|228=>232|229=>233|n=>n,fun|n=>n⟩
theorem zk3:Go.Proofs.Lays.n189 Tryz.prog zkc:= {
 mixed:=by kernel_rfl
 f125:=Tryz.func124.trans (congrArg some (by kernel_rfl))
 f128:=Tryz.func164.trans (congrArg some (by kernel_rfl))
 f129:=Tryz.func165.trans (congrArg some (by kernel_rfl))
 f189:=Tryz.func105.trans (congrArg some (by kernel_rfl))
 f215:=Tryz.func181.trans (congrArg some (by kernel_rfl))
 f216:=Tryz.func161.trans (congrArg some (by kernel_rfl))
 f257:=Tryz.func123.trans (congrArg some (by kernel_rfl))
 f294:=Tryz.func155.trans (congrArg some (by kernel_rfl))
 f295:=Tryz.func156.trans (congrArg some (by kernel_rfl))
 f296:=Tryz.func157.trans (congrArg some (by kernel_rfl))
 f297:=Tryz.func158.trans (congrArg some (by kernel_rfl))
 f298:=Tryz.func159.trans (congrArg some (by kernel_rfl))
 f299:=Tryz.func160.trans (congrArg some (by kernel_rfl))
 f300:=Tryz.func162.trans (congrArg some (by kernel_rfl))
 f301:=Tryz.func163.trans (congrArg some (by kernel_rfl))
 f328:=Tryz.func176.trans (congrArg some (by kernel_rfl))
 f329:=Tryz.func177.trans (congrArg some (by kernel_rfl))
 f330:=Tryz.func178.trans (congrArg some (by kernel_rfl))
 f331:=Tryz.func179.trans (congrArg some (by kernel_rfl))
 f332:=Tryz.func180.trans (congrArg some (by kernel_rfl))
 f343:=Tryz.func187.trans (congrArg some (by kernel_rfl))
 t0:=Tryz.underlying0
 a0:=Tryz.isAgg0
 z0:=Tryz.sizeOf0
 v0:=Tryz.zeroValue0
 t3:=Tryz.underlying3
 a3:=Tryz.isAgg3
 z3:=Tryz.sizeOf3
 v3:=Tryz.zeroValue3
 t4:=Tryz.underlying4
 a4:=Tryz.isAgg4
 z4:=Tryz.sizeOf4
 v4:=Tryz.zeroValue4
 t5:=Tryz.underlying5
 a5:=Tryz.isAgg5
 z5:=Tryz.sizeOf5
 v5:=Tryz.zeroValue5
 t9:=Tryz.underlying9
 a9:=Tryz.isAgg9
 z9:=Tryz.sizeOf9
 v9:=Tryz.zeroValue9
 t28:=Tryz.underlying28
 a28:=Tryz.isAgg28
 z28:=Tryz.sizeOf28
 v28:=Tryz.zeroValue28
 t46:=Tryz.underlying175
 a46:=Tryz.isAgg175
 z46:=Tryz.sizeOf175
 v46:=Tryz.zeroValue175
 t51:=Tryz.underlying204
 a51:=Tryz.isAgg204
 z51:=Tryz.sizeOf204
 v51:=Tryz.zeroValue204
 t53:=Tryz.underlying173
 a53:=Tryz.isAgg173
 z53:=Tryz.sizeOf173
 v53:=Tryz.zeroValue173
 t131:=Tryz.underlying104
 a131:=Tryz.isAgg104
 z131:=Tryz.sizeOf104
 v131:=Tryz.zeroValue104
 t182:=Tryz.underlying196
 a182:=Tryz.isAgg196
 z182:=Tryz.sizeOf196
 v182:=Tryz.zeroValue196
 t183:=Tryz.underlying197
 a183:=Tryz.isAgg197
 z183:=Tryz.sizeOf197
 v183:=Tryz.zeroValue197
 t218:=Tryz.underlying217
 a218:=Tryz.isAgg217
 z218:=Tryz.sizeOf217
 v218:=Tryz.zeroValue217
 t222:=Tryz.underlying221
 a222:=Tryz.isAgg221
 z222:=Tryz.sizeOf221
 v222:=Tryz.zeroValue221
 t228:=Tryz.underlying232
 a228:=Tryz.isAgg232
 z228:=Tryz.sizeOf232
 v228:=Tryz.zeroValue232
 t229:=Tryz.underlying233
 a229:=Tryz.isAgg233
 z229:=Tryz.sizeOf233
 v229:=Tryz.zeroValue233 }
open Go.Sort Go.RowKit in
theorem slices_Sort_int (blk off cap:Nat) (zs:List Int) (w:World) (hH:Holds (Value.int .i64) w blk off zs.toArray) (hblk:blk<w.heap.size) (hsz:zs.length<4611686018427387904):
  Calls Tryz.prog 105 #[.slice (some ⟨blk,off,none⟩) zs.length cap] w fun e w'=>
   e= .returned (.tuple #[])/\∃n os,w'=grow (putRow (Value.int .i64) (Sort.ahead w n) blk off (zs.mergeSort fun x y=>decide (x<=y)).toArray) os:=Any.slices_Sort_int zk3 blk off cap zs w hH hblk hsz
def zkd:Go.Shelf.Ren:=⟨fun|107=>108|108=>136|n=>n,fun|28=>28|3=>3|4=>4|0=>0|n=>n,fun|n=>n⟩
theorem zk4:Go.Proofs.Lays.n107 Tryz.prog zkd:= {
 mixed:=by kernel_rfl
 f107:=Tryz.func108.trans (congrArg some (by kernel_rfl))
 f108:=Tryz.func136.trans (congrArg some (by kernel_rfl))
 t0:=Tryz.underlying0
 a0:=Tryz.isAgg0
 z0:=Tryz.sizeOf0
 v0:=Tryz.zeroValue0
 t3:=Tryz.underlying3
 a3:=Tryz.isAgg3
 z3:=Tryz.sizeOf3
 v3:=Tryz.zeroValue3
 t4:=Tryz.underlying4
 a4:=Tryz.isAgg4
 z4:=Tryz.sizeOf4
 v4:=Tryz.zeroValue4
 t28:=Tryz.underlying28
 a28:=Tryz.isAgg28
 z28:=Tryz.sizeOf28
 v28:=Tryz.zeroValue28 }
open Go.Lib in
theorem slices_Contains_int (b off n c:Nat) (zs:List Int) (x:Int) (w:World) (hz:n<=zs.length) (hbig:n<=9223372036854775807) (hc:∀j,j<zs.length->w.cell? ⟨b,off+j,none⟩=some (.int .i64 (zs.getD j 0))):
  Calls Tryz.prog 108 #[.slice (some ⟨b,off,none⟩) n c, .int .i64 x] w fun e w'=>e= .returned (.bool ((zs.take n).contains x))/\w'=w:=Any.slices_Contains_int zk4 b off n c zs x w hz hbig hc
open Go.Lib in
theorem slices_Contains_int_empty (a:Option Addr) (c:Nat) (x:Int) (w:World):
  Calls Tryz.prog 108 #[.slice a 0 c, .int .i64 x] w fun e w'=>e= .returned (.bool false)/\w'=w:=Any.slices_Contains_int_empty zk4 a c x w
def zhG:Go.Shelf.Ren:=⟨fun|20=>106|n=>n,fun|22=>28|3=>3|4=>4|0=>0|n=>n,fun|n=>n⟩
theorem zhg:Go.Proofs.Lays2.n20 Tryz.prog zhG:= {
 mixed:=by kernel_rfl
 f20:=Tryz.func106.trans (congrArg some (by kernel_rfl))
 t0:=Tryz.underlying0
 a0:=Tryz.isAgg0
 z0:=Tryz.sizeOf0
 v0:=Tryz.zeroValue0
 t3:=Tryz.underlying3
 a3:=Tryz.isAgg3
 z3:=Tryz.sizeOf3
 v3:=Tryz.zeroValue3
 t4:=Tryz.underlying4
 a4:=Tryz.isAgg4
 z4:=Tryz.sizeOf4
 v4:=Tryz.zeroValue4
 t22:=Tryz.underlying28
 a22:=Tryz.isAgg28
 z22:=Tryz.sizeOf28
 v22:=Tryz.zeroValue28
 i3:=by kernel_rfl }
open Go.RowKit Go.Lib Go.Sort in
theorem slices_Compact_int (blk off cap:Nat) (zs:List Int) (w:World) (hH:Holds (Value.int .i64) w blk off zs.toArray) (hsz:zs.length<=9223372036854775807) (hcap:zs.length<=cap):
  Calls Tryz.prog 106 #[.slice (some ⟨blk,off,none⟩) zs.length cap] w fun e w'=>e= .returned (.slice (some ⟨blk,off,none⟩) (Lib.compact zs).length cap)/\∃q,w'=putRow (Value.int .i64) (Sort.ahead w q) blk off (Lib.compact zs++List.replicate (zs.length - (Lib.compact zs).length) 0).toArray:=Any.slices_Compact_int zhg blk off cap zs w hH hsz hcap
open Go.RowKit Go.Lib Go.Sort in
theorem slices_Compact_int_empty (a:Option Addr) (cap:Nat) (w:World):
  Calls Tryz.prog 106 #[.slice a 0 cap] w fun e w'=>e= .returned (.slice a 0 cap)/\w'=w:=Any.slices_Compact_int_empty zhg a cap w
open Go.RowKit Go.Sort in
theorem slices_Sort_int_none (p:Option Addr) (cap:Nat) (w:World):
  Calls Tryz.prog 105 #[.slice p 0 cap] w fun e w'=>e= .returned (.tuple #[])/\w'=w:=Any.slices_Sort_int_none zk3 p cap w
end Go.Proofs.YtliajkheeniljaaGreatDoor
namespace Go.Proofs.YtliajkheeniljaaGreatDoor
open Go.RowKit
set_option maxRecDepth 100000
set_option maxHeartbeats 16000000
theorem zqB (w:World) (c:zX) (tv:Value) (d:Nat) (h:yZ d w tv c.threads) (m:zK):Calls Tryz.prog 52 #[yL c tv,yY m] w fun e w'=>e= .returned (.bool (kI c m))/\Below w.heap.size w w':=by
 obtain⟨ta,tc,rfl,htl⟩:=zk.slice h
 obtain⟨r,hr⟩:∃r,r=kI c m:=⟨_,rfl⟩
 obtain⟨co,hco⟩:∃co,co=codeOk c:=⟨_,rfl⟩
 have hcode:=fun W (hW:yZ d W (.slice ta c.threads.length tc) c.threads)=>zes W c (.slice ta c.threads.length tc) d hW
 rw [<-hco] at hcode
 have hr2:r=(co && decide (0<=m.model) && decide (m.model<=2) && decide (1<=m.bound) && decide (m.bound<=8)):=by rw [hr,hco];rfl
 rw [<-hr]
 obtain⟨vars,dom,cs⟩:=c
 obtain⟨mod,bnd⟩:=m
 simp only [] at h htl hcode hr2 ⊢
 unfold yL yY
 unfold yL at hcode
 simp only [] at hcode ⊢
 obtain⟨n,hn⟩:∃n,n=cs.length:=⟨_,rfl⟩
 rw [<-hn] at h htl hcode ⊢
 have hB:=xQ w (.cells #[.int .i64 vars, .int .i64 dom, .slice ta n tc] 24) (.cells #[.int .i64 mod, .int .i64 bnd] 26)
 have HB:=qh hB
 have H1:=qh (xH w (.cells #[.int .i64 vars, .int .i64 dom, .slice ta n tc] 24) (.cells #[.int .i64 mod, .int .i64 bnd] 26))
 have H2:=qh (xu w (.cells #[.int .i64 vars, .int .i64 dom, .slice ta n tc] 24) (.cells #[.int .i64 mod, .int .i64 bnd] 26))
 have HT:=qh (zk.below (xC.stays d) h hB)
 have zam:=qh hcode
 have HR:=qh hr2
 clear h hB hcode hr hr2 hco hn
 go_enter Tryz.func52,Tryz.ntmps52
 go_upto_region 1 with fail
 generalize World.alloc (World.alloc w _) _=W at HB H1 H2 HT ⊢
 obtain⟨gx,hgx⟩:∃gx,gx=w.heap.size:=⟨_,rfl⟩
 rw [<-hgx] at H1 H2 ⊢
 clear hgx
 have c0:W.cell? ⟨gx,0,none⟩=some (.int .i64 vars):=zi H1.out 0
 have c1:W.cell? ⟨gx,1,none⟩=some (.int .i64 dom):=zi H1.out 1
 have c2:W.cell? ⟨gx,2,none⟩=some (.slice ta n tc):=zi H1.out 2
 go_wp2_with fail
 refine(zam.out W HT.out).mono ?_
 rintro e W1 ⟨rfl,hb⟩
 have HW1:Hid (Below w.heap.size w W1):=HB.out.trans (hb.mono HB.out.size)
 have d0:W1.cell? ⟨gx+1,0,none⟩=some (.int .i64 mod):=zl hb _ _ (zi H2.out 0)
 have d1:W1.cell? ⟨gx+1,1,none⟩=some (.int .i64 bnd):=zl hb _ _ (zi H2.out 1)
 clear hb c0 c1 c2 H1 H2 HT zam
 cases co with
 |false=>
  obtain rfl:r=false:=by rw [HR.out];simp
  clear HR
  go_wp2_with fail
  go_ret
  exact⟨by first|rfl|(simp;done)|(simp;omega),HW1.out⟩
 |true=>
  by_cases a0:0<=mod
  rotate_left
  ·obtain rfl:r=false:=by rw [HR.out];simp [a0]
   clear HR
   go_wp2_with fail
   go_ret
   exact⟨by first|rfl|(simp;done)|(simp;omega),HW1.out⟩
  skip
  by_cases a1:mod<=2
  rotate_left
  ·obtain rfl:r=false:=by rw [HR.out];simp [a1]
   clear HR
   go_wp2_with fail
   go_ret
   exact⟨by first|rfl|(simp;done)|(simp;omega),HW1.out⟩
  skip
  by_cases a2:1<=bnd
  ·skip
   by_cases a3:bnd<=8
   ·skip
    obtain rfl:r=true:=by rw [HR.out];simp [a0,a1,a2,a3]
    clear HR
    go_wp2_with fail
    go_ret
    exact⟨by first|rfl|(simp;done)|(simp;omega),HW1.out⟩
   ·obtain rfl:r=false:=by rw [HR.out];simp [a3]
    clear HR
    go_wp2_with fail
    go_ret
    exact⟨by first|rfl|(simp;done)|(simp;omega),HW1.out⟩
  ·obtain rfl:r=false:=by rw [HR.out];simp [a2]
   clear HR
   go_wp2_with fail
   go_ret
   exact⟨by first|rfl|(simp;done)|(simp;omega),HW1.out⟩
theorem zqC (w:World) (n dom:Int) (g:Nat) (hg:w.cell? ⟨g,1,none⟩=some (.int .i64 dom)):Calls Tryz.prog 51 #[.int .i64 n, .pointer (some ⟨g,0,none⟩)] w fun e w'=>e= .returned (.bool (!vg dom n))/\Below w.heap.size w w':=by
 obtain⟨r,hr⟩:∃r,r=vg dom n:=⟨_,rfl⟩
 rw [<-hr]
 unfold vg at hr
 have HR:=qh hr
 clear hr
 by_cases a0:0<=n
 ·by_cases a1:n<dom
  ·obtain rfl:r=true:=by rw [HR.out];simp [a0,a1]
   clear HR
   go_enter Tryz.func51,Tryz.ntmps51
   go_wp2_with fail
   go_ret
   exact⟨by first|rfl|(simp;done)|(simp;omega),Below.refl _ _⟩
  ·obtain rfl:r=false:=by rw [HR.out];simp [a1]
   clear HR
   go_enter Tryz.func51,Tryz.ntmps51
   go_wp2_with fail
   go_ret
   exact⟨by first|rfl|(simp;done)|(simp;omega),Below.refl _ _⟩
 ·obtain rfl:r=false:=by rw [HR.out];simp [a0]
  clear HR
  go_enter Tryz.func51,Tryz.ntmps51
  go_wp2_with fail
  go_ret
  exact⟨by first|rfl|(simp;done)|(simp;omega),Below.refl _ _⟩
theorem zdc (w:World) (sv:Value) (l:List Int) (h:xJ w sv l) (v:Int):Calls Tryz.prog 108 #[sv, .int .i64 v] w fun e w'=>e= .returned (.bool (l.contains v))/\w'=w:=by
 obtain⟨a,c,rfl,hl⟩:=zk.slice h
 rcases Nat.eq_zero_or_pos l.length with h0|h0
 ·have e:l= [] :=List.eq_nil_of_length_eq_zero h0
  subst e
  exact slices_Contains_int_empty a c v w
 ·obtain⟨b,off,rfl, -⟩:=xJ.part h 0 h0
  have:=slices_Contains_int b off l.length c l v w (Nat.le_refl _) hl (fun j hj=>by obtain⟨b',off',he, -,hc⟩:=xJ.part h j hj;cases he;exact hc)
  rw [List.take_length] at this
  exact this
theorem znL {l:List zm} {i:Nat} (m:zK) (hi:i<l.length) (hp:qL (l.take i) m (l.getD i default)=true):vU (l.take i) m (l.getD i default)=l.take (i+1):=by
 unfold vU;rw [if_pos hp,kE hi rfl]
theorem zli (w:World) (c:zX) (ta:Option Addr) (tn tc:Nat) (m:zK) (bv:Value) (l:List zm) (h:zQ w bv l) (hl:l.length<=1000000):
  Calls Tryz.prog 54 #[.agg #[.int .i64 c.vars, .int .i64 c.domain, .slice ta tn tc],yY m,bv] w fun e w'=>e= .returned (.bool ((List.range l.length).all (vR c m l)))/\Below w.heap.size w w':=by
 obtain⟨ba,bc,rfl, -⟩:=zk.slice h
 obtain⟨r,hr⟩:∃r,r=(List.range l.length).all (vR c m l):=⟨_,rfl⟩
 rw [<-hr]
 obtain⟨n,hn⟩:∃n,n=l.length:=⟨_,rfl⟩
 rw [<-hn] at h hl hr ⊢
 have hput:=fun W kZ l' (hb:zQ W kZ l') (hl':l'.length<=1000000) x=>zid W kZ l' hb hl' m x
 have hwk:∀i,vR c m l i=(qL (l.take i) m (l.getD i default) && decide (0<=(l.getD i default).var) && decide ((l.getD i default).var<c.vars) && decide (0<=(l.getD i default).n) && decide ((l.getD i default).n<c.domain)):=fun _=>rfl
 obtain⟨wk,zwT⟩:∃f,f=vR c m l:=⟨_,rfl⟩
 rw [<-zwT] at hr hwk
 have zwU:∀i,vU (l.take i) m (l.getD i default)=if qL (l.take i) m (l.getD i default) then l.take i++ [l.getD i default] else l.take i:=fun _=>rfl
 obtain⟨vars,dom,ts⟩:=c
 obtain⟨mm,mb⟩:=m
 simp only [] at hwk ⊢
 unfold yY zm.val at hput
 unfold yY
 simp only [] at hput ⊢
 have hB:=xQ w (.cells #[.int .i64 vars, .int .i64 dom, .slice ta tn tc] 24) (.cells #[.int .i64 mm, .int .i64 mb] 26)
 have HB:=qh hB
 have H1:=qh (xH w (.cells #[.int .i64 vars, .int .i64 dom, .slice ta tn tc] 24) (.cells #[.int .i64 mm, .int .i64 mb] 26))
 have H2:=qh (xu w (.cells #[.int .i64 vars, .int .i64 dom, .slice ta tn tc] 24) (.cells #[.int .i64 mm, .int .i64 mb] 26))
 have HL:=qh (zQ.below h hB)
 have bG:=qh hput
 have HWK:=qh hwk
 have HR:=qh hr
 have HN:=qh hn
 have zHD:=qh zwU
 clear h hB hput hwk zwT hr hn zwU
 go_enter Tryz.func54,Tryz.ntmps54
 go_upto_region 1 with fail
 generalize World.alloc (World.alloc w _) _=W at HB H1 H2 HL ⊢
 obtain⟨gx,hgx⟩:∃gx,gx=w.heap.size:=⟨_,rfl⟩
 rw [<-hgx] at H1 H2 ⊢
 clear hgx
 have HC:Hid (∀x,Below W.heap.size W x->(x.cell? ⟨gx,0,none⟩=some (.int .i64 vars)/\x.cell? ⟨gx,1,none⟩=some (.int .i64 dom))/\x.cell? ⟨gx+1,0,none⟩=some (.int .i64 mm)/\x.cell? ⟨gx+1,1,none⟩=some (.int .i64 mb)):=fun x hx=>
  ⟨⟨zl hx _ _ (zi H1.out 0),zl hx _ _ (zi H1.out 1)⟩,zl hx _ _ (zi H2.out 0),zl hx _ _ (zi H2.out 1)⟩
 clear H1 H2
 go_wp2_with fail
 go_loopg [7,9,10,13,17] n (fun gg s7 s9 s10 s13 s17 wr=>∃i:Nat,i<=n/\Hid (gg=n - i)/\s13= .int .i64 i/\Hid (zQ wr s7 (l.take i))/\Hid (Below W.heap.size W wr)/\Hid (∀j,j<i->wk j=true))
 case atStart=>exact⟨0,Nat.zero_le _,rfl,rfl,by rw [List.take_zero];exact zk.nil _,Below.refl _ _,fun j hj=>by omega⟩
 case round=>
  obtain⟨i,hi,HG,rfl,wh,zP,HJ⟩:=hrel
  by_cases hlt:i<n
  rotate_left
  ·obtain rfl:n=i:=by omega
   obtain rfl:r=true:=by rw [HR.out,List.all_eq_true];exact fun j hj=>HJ.out j (List.mem_range.1 hj)
   clear HR
   go_wp2_with fail
   go_ret
   exact⟨by first|rfl|(simp;done)|(simp;omega),HB.out.trans (zP.out.mono HB.out.size)⟩
  have qQ:(i:Int)<(n:Int):=by omega
  obtain⟨eb,eo,yx, -,he1,he2⟩:=HL.out.part i (by rw [<-HN.out];exact hlt)
  subst yx
  have HWI:=qh (HWK.out i)
  have kJ:=qh (fun hp=>znL (l:=l) (i:=i) ⟨mm,mb⟩ (by rw [<-HN.out];exact hlt) hp)
  obtain⟨x,hx⟩:∃x,x=l.getD i default:=⟨_,rfl⟩
  rw [<-hx] at he1 he2 HWI kJ
  obtain⟨xv,xn⟩:=x
  simp only [] at he1 he2 HWI
  have e1:=zl zP.out _ _ he1
  have e2:=zl zP.out _ _ he2
  have HA:=qh ((Below.refl wr.heap.size wr).alloc (Nat.le_refl _) (.cells #[.int .i64 xv, .int .i64 xn] 50))
  have HY:=qh (yD wr (.cells #[.int .i64 xv, .int .i64 xn] 50))
  clear he1 he2 hx
  go_upto_region 6 with fail
  generalize World.alloc wr _=X at HA HY ⊢
  obtain⟨gl,hgl⟩:∃g,g=wr.heap.size:=⟨_,rfl⟩
  rw [<-hgl] at HY ⊢
  clear hgl e1 e2
  have xg:Hid (Below W.heap.size W X):=zP.out.trans (HA.out.mono zP.out.size)
  have d0:X.cell? ⟨gl,0,none⟩=some (.int .i64 xv):=zi HY.out 0
  have d1:X.cell? ⟨gl,1,none⟩=some (.int .i64 xn):=zi HY.out 1
  obtain⟨-,m0,m1⟩:=HC.out X xg.out
  have hp:=bG.out X _ (l.take i) (zQ.below wh.out HA.out) (by rw [List.length_take];omega) ⟨xv,xn⟩
  simp only [] at hp
  have HP:=qh hp
  have HJ2:Hid (wk i=true->∀j,j<i+1->wk j=true):=fun hw j hj=>by
   by_cases e:j=i
   ·subst e;exact hw
   ·exact HJ.out j (by omega)
  have jK:Hid (wk i=false->r=false):=fun hw=>by
   rw [HR.out,List.all_eq_false]
   exact⟨i,List.mem_range.2 hlt,by rw [hw];simp⟩
  have HHY:=qh HY.out
  clear hp HA wh
  go_wp2_with fail
  refine HP.out.mono ?_
  rintro e w2 ⟨⟨kZ,rfl,hbf, -⟩,hb2⟩
  have HB2:Hid (Below W.heap.size W w2):=xg.out.trans (hb2.mono xg.out.size)
  have f0:w2.cell? ⟨gl,0,none⟩=some (.int .i64 xv):=zl hb2 _ _ d0
  have f1:w2.cell? ⟨gl,1,none⟩=some (.int .i64 xn):=zl hb2 _ _ d1
  have zcx:=qh hbf
  obtain⟨⟨c0,c1⟩, -, -⟩:=HC.out w2 HB2.out
  clear hb2 hbf d0 d1 m0 m1 HP HY HHY
  cases hok:qL (l.take i) ⟨mm,mb⟩ ⟨xv,xn⟩ with
  |false=>
   obtain rfl:r=false:=jK.out (by rw [HWI.out,hok];simp)
   clear hok jK HWI HR
   go_wp2_with fail
   go_ret
   exact⟨by first|rfl|(simp;done)|(simp;omega),HB.out.trans (HB2.out.mono HB.out.size)⟩
  |true=>
   rw [kJ.out hok] at zcx
   have zbM:Hid (wk i=(decide (0<=xv) && decide (xv<vars) && decide (0<=xn) && decide (xn<dom))):=by rw [Hid,HWI.out,hok];simp
   clear hok HWI kJ
   by_cases a0:0<=xv
   rotate_left
   ·obtain rfl:r=false:=jK.out (by rw [zbM.out];simp [a0])
    clear jK zbM HR
    go_wp2_with fail
    go_ret
    exact⟨by first|rfl|(simp;done)|(simp;omega),HB.out.trans (HB2.out.mono HB.out.size)⟩
   skip
   by_cases a1:xv<vars
   rotate_left
   ·obtain rfl:r=false:=jK.out (by rw [zbM.out];simp [a1])
    clear jK zbM HR
    go_wp2_with fail
    go_ret
    exact⟨by first|rfl|(simp;done)|(simp;omega),HB.out.trans (HB2.out.mono HB.out.size)⟩
   skip
   by_cases a2:0<=xn
   rotate_left
   ·obtain rfl:r=false:=jK.out (by rw [zbM.out];simp [a2])
    clear jK zbM HR
    go_wp2_with fail
    go_ret
    exact⟨by first|rfl|(simp;done)|(simp;omega),HB.out.trans (HB2.out.mono HB.out.size)⟩
   skip
   by_cases a3:xn<dom
   ·skip
    have bH:=qh (HJ2.out (by rw [zbM.out];simp [a0,a1,a2,a3]))
    clear zbM jK HR
    go_wp2_with fail
    go_roundg (n - (i+1))
    case measure=>rw [HG.out];omega
    case rel=>exact⟨i+1,by omega,rfl,by simp,zcx.out,HB2.out,bH.out⟩
   ·obtain rfl:r=false:=jK.out (by rw [zbM.out];simp [a3])
    clear jK zbM HR
    go_wp2_with fail
    go_ret
    exact⟨by first|rfl|(simp;done)|(simp;omega),HB.out.trans (HB2.out.mono HB.out.size)⟩
end Go.Proofs.YtliajkheeniljaaGreatDoor
