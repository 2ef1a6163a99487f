/- Steps. -/
import Derived.Lib.OwnBridge
import Derived.Shelf.Slices.Cells
import Derived.Shelf.Slices.In.SortNone
import Derived.Shelf.Slices.Turned
import Derived.Shelf.Sort.Plain
import Derived.Sort.OwnSortedInts
import Derived.Test.YtliajkheeniljaaGreatDoorZpPCode
import Derived.Test.YtliajkheeniljaaGreatDoorZpPSrc
set_option linter.all false
namespace Go.Proofs.YtliajkheeniljaaGreatDoor
open Go.Shelf
def zmB:Go.Shelf.Ren:=⟨λ|189=>105|125=>124|257=>123|128=>164|129=>165|294=>155|295=>156|296=>157|297=>158|298=>159|299=>160|216=>161|300=>162|301=>163|328=>176|329=>177|330=>178|331=>179|332=>180|215=>181|343=>187|n=>n,λ|28=>28|3=>3|46=>175|0=>0|51=>204|53=>173|4=>4|183=>197|182=>196|131=>104|5=>5|9=>9|218=>217|222=>221|228=>232|229=>233|n=>n,λ|n=>n⟩
theorem zn8:Go.Proofs.Lays.n189 Tryz.prog zmB:= {
 mixed:=by kernel_rfl
 f125:=Tryz.func124.trans (congrArg some (by kernel_rfl))
 f128:=Tryz.func164.trans (congrArg some (by kernel_rfl))
 f129:=Tryz.func165.trans (congrArg some (by kernel_rfl))
 f189:=Tryz.func105.trans (congrArg some (by kernel_rfl))
 f215:=Tryz.func181.trans (congrArg some (by kernel_rfl))
 f216:=Tryz.func161.trans (congrArg some (by kernel_rfl))
 f257:=Tryz.func123.trans (congrArg some (by kernel_rfl))
 f294:=Tryz.func155.trans (congrArg some (by kernel_rfl))
 f295:=Tryz.func156.trans (congrArg some (by kernel_rfl))
 f296:=Tryz.func157.trans (congrArg some (by kernel_rfl))
 f297:=Tryz.func158.trans (congrArg some (by kernel_rfl))
 f298:=Tryz.func159.trans (congrArg some (by kernel_rfl))
 f299:=Tryz.func160.trans (congrArg some (by kernel_rfl))
 f300:=Tryz.func162.trans (congrArg some (by kernel_rfl))
 f301:=Tryz.func163.trans (congrArg some (by kernel_rfl))
 f328:=Tryz.func176.trans (congrArg some (by kernel_rfl))
 f329:=Tryz.func177.trans (congrArg some (by kernel_rfl))
 f330:=Tryz.func178.trans (congrArg some (by kernel_rfl))
 f331:=Tryz.func179.trans (congrArg some (by kernel_rfl))
 f332:=Tryz.func180.trans (congrArg some (by kernel_rfl))
 f343:=Tryz.func187.trans (congrArg some (by kernel_rfl))
 t0:=Tryz.underlying0
 a0:=Tryz.isAgg0
 z0:=Tryz.sizeOf0
 v0:=Tryz.zeroValue0
 t3:=Tryz.underlying3
 a3:=Tryz.isAgg3
 z3:=Tryz.sizeOf3
 v3:=Tryz.zeroValue3
 t4:=Tryz.underlying4
 a4:=Tryz.isAgg4
 z4:=Tryz.sizeOf4
 v4:=Tryz.zeroValue4
 t5:=Tryz.underlying5
 a5:=Tryz.isAgg5
 z5:=Tryz.sizeOf5
 v5:=Tryz.zeroValue5
 t9:=Tryz.underlying9
 a9:=Tryz.isAgg9
 z9:=Tryz.sizeOf9
 v9:=Tryz.zeroValue9
 t28:=Tryz.underlying28
 a28:=Tryz.isAgg28
 z28:=Tryz.sizeOf28
 v28:=Tryz.zeroValue28
 t46:=Tryz.underlying175
 a46:=Tryz.isAgg175
 z46:=Tryz.sizeOf175
 v46:=Tryz.zeroValue175
 t51:=Tryz.underlying204
 a51:=Tryz.isAgg204
 z51:=Tryz.sizeOf204
 v51:=Tryz.zeroValue204
 t53:=Tryz.underlying173
 a53:=Tryz.isAgg173
 z53:=Tryz.sizeOf173
 v53:=Tryz.zeroValue173
 t131:=Tryz.underlying104
 a131:=Tryz.isAgg104
 z131:=Tryz.sizeOf104
 v131:=Tryz.zeroValue104
 t182:=Tryz.underlying196
 a182:=Tryz.isAgg196
 z182:=Tryz.sizeOf196
 v182:=Tryz.zeroValue196
 t183:=Tryz.underlying197
 a183:=Tryz.isAgg197
 z183:=Tryz.sizeOf197
 v183:=Tryz.zeroValue197
 t218:=Tryz.underlying217
 a218:=Tryz.isAgg217
 z218:=Tryz.sizeOf217
 v218:=Tryz.zeroValue217
 t222:=Tryz.underlying221
 a222:=Tryz.isAgg221
 z222:=Tryz.sizeOf221
 v222:=Tryz.zeroValue221
 t228:=Tryz.underlying232
 a228:=Tryz.isAgg232
 z228:=Tryz.sizeOf232
 v228:=Tryz.zeroValue232
 t229:=Tryz.underlying233
 a229:=Tryz.isAgg233
 z229:=Tryz.sizeOf233
 v229:=Tryz.zeroValue233 }
open Go.Sort Go.RowKit in
theorem slices_Sort_int (blk off cap:Nat) (zs:List Int) (w:World) (hH:Holds (Value.int .i64) w blk off zs.toArray) (hblk:blk<w.heap.size) (hsz:zs.length<4611686018427387904):
  Calls Tryz.prog 105 #[.slice (some ⟨blk,off,none⟩) zs.length cap] w λe w'=>
   e= .returned (.tuple #[])/\∃n os,w'=grow (putRow (Value.int .i64) (Sort.ahead w n) blk off (zs.mergeSort λx y=>decide (x<=y)).toArray) os:=Any.slices_Sort_int zn8 blk off cap zs w hH hblk hsz
def zmC:Go.Shelf.Ren:=⟨λ|107=>108|108=>136|n=>n,λ|28=>28|3=>3|4=>4|0=>0|n=>n,λ|n=>n⟩
theorem zn9:Go.Proofs.Lays.n107 Tryz.prog zmC:= {
 mixed:=by kernel_rfl
 f107:=Tryz.func108.trans (congrArg some (by kernel_rfl))
 f108:=Tryz.func136.trans (congrArg some (by kernel_rfl))
 t0:=Tryz.underlying0
 a0:=Tryz.isAgg0
 z0:=Tryz.sizeOf0
 v0:=Tryz.zeroValue0
 t3:=Tryz.underlying3
 a3:=Tryz.isAgg3
 z3:=Tryz.sizeOf3
 v3:=Tryz.zeroValue3
 t4:=Tryz.underlying4
 a4:=Tryz.isAgg4
 z4:=Tryz.sizeOf4
 v4:=Tryz.zeroValue4
 t28:=Tryz.underlying28
 a28:=Tryz.isAgg28
 z28:=Tryz.sizeOf28
 v28:=Tryz.zeroValue28 }
open Go.Lib in
theorem slices_Contains_int (b off n c:Nat) (zs:List Int) (x:Int) (w:World) (hz:n<=zs.length) (hbig:n<=9223372036854775807) (hc:∀j,j<zs.length->w.cell? ⟨b,off+j,none⟩=some (.int .i64 (zs.getD j 0))):
  Calls Tryz.prog 108 #[.slice (some ⟨b,off,none⟩) n c, .int .i64 x] w λe w'=>e= .returned (.bool ((zs.take n).contains x))/\w'=w:=Any.slices_Contains_int zn9 b off n c zs x w hz hbig hc
open Go.Lib in
theorem slices_Contains_int_empty (a:Option Addr) (c:Nat) (x:Int) (w:World):
  Calls Tryz.prog 108 #[.slice a 0 c, .int .i64 x] w λe w'=>e= .returned (.bool false)/\w'=w:=Any.slices_Contains_int_empty zn9 a c x w
def zjP:Go.Shelf.Ren:=⟨λ|20=>106|n=>n,λ|22=>28|3=>3|4=>4|0=>0|n=>n,λ|n=>n⟩
theorem zjA:Go.Proofs.Lays2.n20 Tryz.prog zjP:= {
 mixed:=by kernel_rfl
 f20:=Tryz.func106.trans (congrArg some (by kernel_rfl))
 t0:=Tryz.underlying0
 a0:=Tryz.isAgg0
 z0:=Tryz.sizeOf0
 v0:=Tryz.zeroValue0
 t3:=Tryz.underlying3
 a3:=Tryz.isAgg3
 z3:=Tryz.sizeOf3
 v3:=Tryz.zeroValue3
 t4:=Tryz.underlying4
 a4:=Tryz.isAgg4
 z4:=Tryz.sizeOf4
 v4:=Tryz.zeroValue4
 t22:=Tryz.underlying28
 a22:=Tryz.isAgg28
 z22:=Tryz.sizeOf28
 v22:=Tryz.zeroValue28
 i3:=by kernel_rfl }
open Go.RowKit Go.Lib Go.Sort in
theorem slices_Compact_int (blk off cap:Nat) (zs:List Int) (w:World) (hH:Holds (Value.int .i64) w blk off zs.toArray) (hsz:zs.length<=9223372036854775807) (hcap:zs.length<=cap):
  Calls Tryz.prog 106 #[.slice (some ⟨blk,off,none⟩) zs.length cap] w λe w'=>e= .returned (.slice (some ⟨blk,off,none⟩) (Lib.compact zs).length cap)/\∃q,w'=putRow (Value.int .i64) (Sort.ahead w q) blk off (Lib.compact zs++List.replicate (zs.length - (Lib.compact zs).length) 0).toArray:=Any.slices_Compact_int zjA blk off cap zs w hH hsz hcap
open Go.RowKit Go.Lib Go.Sort in
theorem slices_Compact_int_empty (a:Option Addr) (cap:Nat) (w:World):
  Calls Tryz.prog 106 #[.slice a 0 cap] w λe w'=>e= .returned (.slice a 0 cap)/\w'=w:=Any.slices_Compact_int_empty zjA a cap w
open Go.RowKit Go.Sort in
theorem slices_Sort_int_none (p:Option Addr) (cap:Nat) (w:World):
  Calls Tryz.prog 105 #[.slice p 0 cap] w λe w'=>e= .returned (.tuple #[])/\w'=w:=Any.slices_Sort_int_none zn8 p cap w
end Go.Proofs.YtliajkheeniljaaGreatDoor
namespace Go.Proofs.YtliajkheeniljaaGreatDoor
open Go.RowKit
set_option maxRecDepth 100000
set_option maxHeartbeats 16000000
theorem zg0 (w:World) (c:zI) (tv:Value) (d:Nat) (h:yQ d w tv c.threads) (m:zF):Calls Tryz.prog 52 #[yD c tv,yY m] w λe w'=>e= .returned (.bool (vO c m))/\Below w.heap.size w w':=by
 obtain⟨ta,tc,rfl,htl⟩:=zh.slice h
 obtain⟨r,hr⟩:∃r,r=vO c m:=⟨_,rfl⟩
 obtain⟨co,hco⟩:∃co,co=codeOk c:=⟨_,rfl⟩
 have hcode:=λW (hW:yQ d W (.slice ta c.threads.length tc) c.threads)=>zfF W c (.slice ta c.threads.length tc) d hW
 rw [<-hco] at hcode
 have hr2:r=(co && decide (0<=m.model) && decide (m.model<=2) && decide (1<=m.bound) && decide (m.bound<=8)):=by rw [hr,hco];rfl
 rw [<-hr]
 obtain⟨vars,dom,cs⟩:=c
 obtain⟨mod,bnd⟩:=m
 simp only [] at h htl hcode hr2 ⊢
 unfold yD yY
 unfold yD at hcode
 simp only [] at hcode ⊢
 obtain⟨n,hn⟩:∃n,n=cs.length:=⟨_,rfl⟩
 rw [<-hn] at h htl hcode ⊢
 have hB:=xC w (.cells #[.int .i64 vars, .int .i64 dom, .slice ta n tc] 24) (.cells #[.int .i64 mod, .int .i64 bnd] 26)
 have HB:=qh hB
 have H1:=qh (xI w (.cells #[.int .i64 vars, .int .i64 dom, .slice ta n tc] 24) (.cells #[.int .i64 mod, .int .i64 bnd] 26))
 have H2:=qh (xw w (.cells #[.int .i64 vars, .int .i64 dom, .slice ta n tc] 24) (.cells #[.int .i64 mod, .int .i64 bnd] 26))
 have HT:=qh (zh.below (qo.stays d) h hB)
 have zba:=qh hcode
 have HR:=qh hr2
 clear h hB hcode hr hr2 hco hn
 go_enter Tryz.func52,Tryz.ntmps52
 go_upto_region 1 with fail
 generalize World.alloc (World.alloc w _) _=W at HB H1 H2 HT ⊢
 obtain⟨gx,hgx⟩:∃gx,gx=w.heap.size:=⟨_,rfl⟩
 rw [<-hgx] at H1 H2 ⊢
 clear hgx
 have c0:W.cell? ⟨gx,0,none⟩=some (.int .i64 vars):=ze H1.out 0
 have c1:W.cell? ⟨gx,1,none⟩=some (.int .i64 dom):=ze H1.out 1
 have c2:W.cell? ⟨gx,2,none⟩=some (.slice ta n tc):=ze H1.out 2
 go_wp2_with fail
 refine(zba.out W HT.out).mono ?_
 rintro e W1 ⟨rfl,hb⟩
 have HW1:Hid (Below w.heap.size w W1):=HB.out.trans (hb.mono HB.out.size)
 have d0:W1.cell? ⟨gx+1,0,none⟩=some (.int .i64 mod):=zi hb _ _ (ze H2.out 0)
 have d1:W1.cell? ⟨gx+1,1,none⟩=some (.int .i64 bnd):=zi hb _ _ (ze H2.out 1)
 clear hb c0 c1 c2 H1 H2 HT zba
 cases co with
 |false=>
  obtain rfl:r=false:=by rw [HR.out];simp
  clear HR
  go_wp2_with fail
  go_ret
  exact⟨by first|rfl|(simp;done)|(simp;omega),HW1.out⟩
 |true=>
 by_cases a0:0<=mod
 rotate_left
 ·obtain rfl:r=false:=by rw [HR.out];simp [a0]
  clear HR
  go_wp2_with fail
  go_ret
  exact⟨by first|rfl|(simp;done)|(simp;omega),HW1.out⟩
 skip
 by_cases a1:mod<=2
 rotate_left
 ·obtain rfl:r=false:=by rw [HR.out];simp [a1]
  clear HR
  go_wp2_with fail
  go_ret
  exact⟨by first|rfl|(simp;done)|(simp;omega),HW1.out⟩
 skip
 by_cases a2:1<=bnd
 ·skip
  by_cases a3:bnd<=8
  ·skip
   obtain rfl:r=true:=by rw [HR.out];simp [a0,a1,a2,a3]
   clear HR
   go_wp2_with fail
   go_ret
   exact⟨by first|rfl|(simp;done)|(simp;omega),HW1.out⟩
  obtain rfl:r=false:=by rw [HR.out];simp [a3]
  clear HR
  go_wp2_with fail
  go_ret
  exact⟨by first|rfl|(simp;done)|(simp;omega),HW1.out⟩
 obtain rfl:r=false:=by rw [HR.out];simp [a2]
 clear HR
 go_wp2_with fail
 go_ret
 exact⟨by first|rfl|(simp;done)|(simp;omega),HW1.out⟩
theorem zu4 (w:World) (n dom:Int) (g:Nat) (hg:w.cell? ⟨g,1,none⟩=some (.int .i64 dom)):Calls Tryz.prog 51 #[.int .i64 n, .pointer (some ⟨g,0,none⟩)] w λe w'=>e= .returned (.bool (!yZ dom n))/\Below w.heap.size w w':=by
 obtain⟨r,hr⟩:∃r,r=yZ dom n:=⟨_,rfl⟩
 rw [<-hr]
 unfold yZ at hr
 have HR:=qh hr
 clear hr
 by_cases a0:0<=n
 ·by_cases a1:n<dom
  ·obtain rfl:r=true:=by rw [HR.out];simp [a0,a1]
   clear HR
   go_enter Tryz.func51,Tryz.ntmps51
   go_wp2_with fail
   go_ret
   exact⟨by first|rfl|(simp;done)|(simp;omega),Below.refl _ _⟩
  obtain rfl:r=false:=by rw [HR.out];simp [a1]
  clear HR
  go_enter Tryz.func51,Tryz.ntmps51
  go_wp2_with fail
  go_ret
  exact⟨by first|rfl|(simp;done)|(simp;omega),Below.refl _ _⟩
 obtain rfl:r=false:=by rw [HR.out];simp [a0]
 clear HR
 go_enter Tryz.func51,Tryz.ntmps51
 go_wp2_with fail
 go_ret
 exact⟨by first|rfl|(simp;done)|(simp;omega),Below.refl _ _⟩
theorem ze7 (w:World) (sv:Value) (l:List Int) (h:xJ w sv l) (v:Int):Calls Tryz.prog 108 #[sv, .int .i64 v] w λe w'=>e= .returned (.bool (l.contains v))/\w'=w:=by
 obtain⟨a,c,rfl,hl⟩:=zh.slice h
 rcases Nat.eq_zero_or_pos l.length with h0|h0
 ·have e:l= [] :=List.eq_nil_of_length_eq_zero h0
  subst e
  exact slices_Contains_int_empty a c v w
 obtain⟨b,off,rfl, -⟩:=xJ.part h 0 h0
 have:=slices_Contains_int b off l.length c l v w (Nat.le_refl _) hl (λj hj=>by obtain⟨b',off',he, -,hc⟩:=xJ.part h j hj;cases he;exact hc)
 rw [List.take_length] at this
 exact this
theorem zrT {l:List zk} {i:Nat} (m:zF) (hi:i<l.length) (hp:qz (l.take i) m (l.getD i default)=true):jr (l.take i) m (l.getD i default)=l.take (i+1):=by
 unfold jr;rw [if_pos hp,gK hi rfl]
theorem zpk (w:World) (c:zI) (ta:Option Addr) (tn tc:Nat) (m:zF) (bv:Value) (l:List zk) (h:zU w bv l) (hl:l.length<=1000000):
  Calls Tryz.prog 54 #[.agg #[.int .i64 c.vars, .int .i64 c.domain, .slice ta tn tc],yY m,bv] w λe w'=>e= .returned (.bool ((List.range l.length).all (xZ c m l)))/\Below w.heap.size w w':=by
 obtain⟨ba,bc,rfl, -⟩:=zh.slice h
 obtain⟨r,hr⟩:∃r,r=(List.range l.length).all (xZ c m l):=⟨_,rfl⟩
 rw [<-hr]
 obtain⟨n,hn⟩:∃n,n=l.length:=⟨_,rfl⟩
 rw [<-hn] at h hl hr ⊢
 have hput:=λW uj l' (hb:zU W uj l') (hl':l'.length<=1000000) x=>zk7 W uj l' hb hl' m x
 have hwk:∀i,xZ c m l i=(qz (l.take i) m (l.getD i default) && decide (0<=(l.getD i default).var) && decide ((l.getD i default).var<c.vars) && decide (0<=(l.getD i default).n) && decide ((l.getD i default).n<c.domain)):=λ_=>rfl
 obtain⟨wk,z0f⟩:∃f,f=xZ c m l:=⟨_,rfl⟩
 rw [<-z0f] at hr hwk
 have z0g:∀i,jr (l.take i) m (l.getD i default)=if qz (l.take i) m (l.getD i default) then l.take i++ [l.getD i default] else l.take i:=λ_=>rfl
 obtain⟨vars,dom,ts⟩:=c
 obtain⟨mm,mb⟩:=m
 simp only [] at hwk ⊢
 unfold yY zk.val at hput
 unfold yY
 simp only [] at hput ⊢
 have hB:=xC w (.cells #[.int .i64 vars, .int .i64 dom, .slice ta tn tc] 24) (.cells #[.int .i64 mm, .int .i64 mb] 26)
 have HB:=qh hB
 have H1:=qh (xI w (.cells #[.int .i64 vars, .int .i64 dom, .slice ta tn tc] 24) (.cells #[.int .i64 mm, .int .i64 mb] 26))
 have H2:=qh (xw w (.cells #[.int .i64 vars, .int .i64 dom, .slice ta tn tc] 24) (.cells #[.int .i64 mm, .int .i64 mb] 26))
 have HL:=qh (zU.below h hB)
 have jF:=qh hput
 have HWK:=qh hwk
 have HR:=qh hr
 have HN:=qh hn
 have z9h:=qh z0g
 clear h hB hput hwk z0f hr hn z0g
 go_enter Tryz.func54,Tryz.ntmps54
 go_upto_region 1 with fail
 generalize World.alloc (World.alloc w _) _=W at HB H1 H2 HL ⊢
 obtain⟨gx,hgx⟩:∃gx,gx=w.heap.size:=⟨_,rfl⟩
 rw [<-hgx] at H1 H2 ⊢
 clear hgx
 have HC:Hid (∀x,Below W.heap.size W x->(x.cell? ⟨gx,0,none⟩=some (.int .i64 vars)/\x.cell? ⟨gx,1,none⟩=some (.int .i64 dom))/\x.cell? ⟨gx+1,0,none⟩=some (.int .i64 mm)/\x.cell? ⟨gx+1,1,none⟩=some (.int .i64 mb)):=λx hx=>
  ⟨⟨zi hx _ _ (ze H1.out 0),zi hx _ _ (ze H1.out 1)⟩,zi hx _ _ (ze H2.out 0),zi hx _ _ (ze H2.out 1)⟩
 clear H1 H2
 go_wp2_with fail
 go_loopg [7,9,10,13,17] n (λgg s7 s9 s10 s13 s17 wr=>∃i:Nat,i<=n/\Hid (gg=n - i)/\s13= .int .i64 i/\Hid (zU wr s7 (l.take i))/\Hid (Below W.heap.size W wr)/\Hid (∀j,j<i->wk j=true))
 case atStart=>exact⟨0,Nat.zero_le _,rfl,rfl,by rw [List.take_zero];exact zh.nil _,Below.refl _ _,λj hj=>by omega⟩
 case round=>
 obtain⟨i,hi,HG,rfl,HBF,zT,HJ⟩:=hrel
 by_cases hlt:i<n
 rotate_left
 ·obtain rfl:n=i:=by omega
  obtain rfl:r=true:=by rw [HR.out,List.all_eq_true];exact λj hj=>HJ.out j (List.mem_range.1 hj)
  clear HR
  go_wp2_with fail
  go_ret
  exact⟨by first|rfl|(simp;done)|(simp;omega),HB.out.trans (zT.out.mono HB.out.size)⟩
 have qN:(i:Int)<(n:Int):=by omega
 obtain⟨eb,eo,yh, -,he1,he2⟩:=HL.out.part i (by rw [<-HN.out];exact hlt)
 subst yh
 have HWI:=qh (HWK.out i)
 have wh:=qh (λhp=>zrT (l:=l) (i:=i) ⟨mm,mb⟩ (by rw [<-HN.out];exact hlt) hp)
 obtain⟨x,hx⟩:∃x,x=l.getD i default:=⟨_,rfl⟩
 rw [<-hx] at he1 he2 HWI wh
 obtain⟨xv,xn⟩:=x
 simp only [] at he1 he2 HWI
 have e1:=zi zT.out _ _ he1
 have e2:=zi zT.out _ _ he2
 have HA:=qh ((Below.refl wr.heap.size wr).alloc (Nat.le_refl _) (.cells #[.int .i64 xv, .int .i64 xn] 50))
 have HY:=qh (yj wr (.cells #[.int .i64 xv, .int .i64 xn] 50))
 clear he1 he2 hx
 go_upto_region 6 with fail
 generalize World.alloc wr _=X at HA HY ⊢
 obtain⟨gl,hgl⟩:∃g,g=wr.heap.size:=⟨_,rfl⟩
 rw [<-hgl] at HY ⊢
 clear hgl e1 e2
 have yX:Hid (Below W.heap.size W X):=zT.out.trans (HA.out.mono zT.out.size)
 have d0:X.cell? ⟨gl,0,none⟩=some (.int .i64 xv):=ze HY.out 0
 have d1:X.cell? ⟨gl,1,none⟩=some (.int .i64 xn):=ze HY.out 1
 obtain⟨-,m0,m1⟩:=HC.out X yX.out
 have hp:=jF.out X _ (l.take i) (zU.below HBF.out HA.out) (by rw [List.length_take];omega) ⟨xv,xn⟩
 simp only [] at hp
 have HP:=qh hp
 have HJ2:Hid (wk i=true->∀j,j<i+1->wk j=true):=λhw j hj=>by
  by_cases e:j=i
  ·subst e;exact hw
  exact HJ.out j (by omega)
 have wG:Hid (wk i=false->r=false):=λhw=>by
  rw [HR.out,List.all_eq_false]
  exact⟨i,List.mem_range.2 hlt,by rw [hw];simp⟩
 have HHY:=qh HY.out
 clear hp HA HBF
 go_wp2_with fail
 refine HP.out.mono ?_
 rintro e w2 ⟨⟨uj,rfl,hbf, -⟩,hb2⟩
 have HB2:Hid (Below W.heap.size W w2):=yX.out.trans (hb2.mono yX.out.size)
 have f0:w2.cell? ⟨gl,0,none⟩=some (.int .i64 xv):=zi hb2 _ _ d0
 have f1:w2.cell? ⟨gl,1,none⟩=some (.int .i64 xn):=zi hb2 _ _ d1
 have zla:=qh hbf
 obtain⟨⟨c0,c1⟩, -, -⟩:=HC.out w2 HB2.out
 clear hb2 hbf d0 d1 m0 m1 HP HY HHY
 cases hok:qz (l.take i) ⟨mm,mb⟩ ⟨xv,xn⟩ with
 |false=>
  obtain rfl:r=false:=wG.out (by rw [HWI.out,hok];simp)
  clear hok wG HWI HR
  go_wp2_with fail
  go_ret
  exact⟨by first|rfl|(simp;done)|(simp;omega),HB.out.trans (HB2.out.mono HB.out.size)⟩
 |true=>
 rw [wh.out hok] at zla
 have zda:Hid (wk i=(decide (0<=xv) && decide (xv<vars) && decide (0<=xn) && decide (xn<dom))):=by rw [Hid,HWI.out,hok];simp
 clear hok HWI wh
 by_cases a0:0<=xv
 rotate_left
 ·obtain rfl:r=false:=wG.out (by rw [zda.out];simp [a0])
  clear wG zda HR
  go_wp2_with fail
  go_ret
  exact⟨by first|rfl|(simp;done)|(simp;omega),HB.out.trans (HB2.out.mono HB.out.size)⟩
 skip
 by_cases a1:xv<vars
 rotate_left
 ·obtain rfl:r=false:=wG.out (by rw [zda.out];simp [a1])
  clear wG zda HR
  go_wp2_with fail
  go_ret
  exact⟨by first|rfl|(simp;done)|(simp;omega),HB.out.trans (HB2.out.mono HB.out.size)⟩
 skip
 by_cases a2:0<=xn
 rotate_left
 ·obtain rfl:r=false:=wG.out (by rw [zda.out];simp [a2])
  clear wG zda HR
  go_wp2_with fail
  go_ret
  exact⟨by first|rfl|(simp;done)|(simp;omega),HB.out.trans (HB2.out.mono HB.out.size)⟩
 skip
 by_cases a3:xn<dom
 ·skip
  have zaC:=qh (HJ2.out (by rw [zda.out];simp [a0,a1,a2,a3]))
  clear zda wG HR
  go_wp2_with fail
  go_roundg (n - (i+1))
  case measure=>rw [HG.out];omega
  case rel=>exact⟨i+1,by omega,rfl,by simp,zla.out,HB2.out,zaC.out⟩
 obtain rfl:r=false:=wG.out (by rw [zda.out];simp [a3])
 clear wG zda HR
 go_wp2_with fail
 go_ret
 exact⟨by first|rfl|(simp;done)|(simp;omega),HB.out.trans (HB2.out.mono HB.out.size)⟩
end Go.Proofs.YtliajkheeniljaaGreatDoor
namespace Go.Proofs.YtliajkheeniljaaGreatDoor
open Go.RowKit Go.Sort
set_option maxRecDepth 100000
set_option maxHeartbeats 16000000
theorem getD_in {α:Type} {l:List α} {k:Nat} {x:α} (hk:k<l.length):l.getD k x∈l:=by
 rw [List.getD_eq_getElem?_getD,List.getElem?_eq_getElem hk];exact List.getElem_mem hk
theorem zxo:∀(a b:List Int),a.Pairwise (· < ·)->b.Pairwise (· < ·)->(∀x,x∈a↔x∈b)->a=b:=by
 intro a
 induction a with
 |nil=>
  intro b _ _ h
  cases b with
  |nil=>rfl
  |cons y b=>have:=(h y).2 (by simp);simp at this
 |cons x a ih=>
 intro b ha hb h
 cases b with
 |nil=>have:=(h x).1 (by simp);simp at this
 |cons y b=>
 rw [List.pairwise_cons] at ha hb
 have hxy:x=y:=by
  have h1:=(h x).1 (by simp)
  have h2:=(h y).2 (by simp)
  rcases List.mem_cons.1 h1 with e|e
  ·exact e
  rcases List.mem_cons.1 h2 with e2|e2
  ·exact e2.symm
  have:=hb.1 x e;have:=ha.1 y e2;omega
 subst hxy
 rw [ih b ha.2 hb.2 λz=>⟨λhz=> ?_,λhz=> ?_⟩]
 ·rcases List.mem_cons.1 ((h z).1 (by simp [hz])) with e|e
  ·have:=ha.1 z hz;omega
  exact e
 rcases List.mem_cons.1 ((h z).2 (by simp [hz])) with e|e
 ·have:=hb.1 z hz;omega
 exact e
theorem zlN {x v:Int} {l:List Int} :v∈kW x l↔v=x\/v∈l:=by
 induction l with
 |nil=>simp [kW]
 |cons y l ih=>unfold kW;split<;>simp only [List.mem_cons,ih] <;>(constructor<;>rintro(h|h|h)<;>simp [h])
theorem zpl {x:Int} {l:List Int} (h:l.Pairwise (· < ·)) (hx:x ∉ l):(kW x l).Pairwise (· < ·):=by
 induction l with
 |nil=>simp [kW]
 |cons y l ih=>
 rw [List.pairwise_cons] at h
 simp only [List.mem_cons,not_or] at hx
 unfold kW
 split
 ·rename_i hlt
  rw [List.pairwise_cons]
  refine⟨λz hz=> ?_,List.pairwise_cons.2 h⟩
  rcases List.mem_cons.1 hz with e|e
  ·omega
  have:=h.1 z e;omega
 rw [List.pairwise_cons]
 refine⟨λz hz=> ?_,ih h.2 hx.2⟩
 rcases zlN.1 hz with e|e
 ·omega
 exact h.1 z e
theorem zgo {l:List zk} {v:Int} :∀ {i:Nat},v∈yT l i↔∃j,j<i/\(l.getD j default).var=v:=by
 intro i
 induction i with
 |zero=>simp [yT]
 |succ i ih=>
 unfold yT
 split
 ·rw [zlN,ih]
  constructor
  ·rintro(h|⟨j,hj,h⟩)
   ·exact⟨i,by omega,h.symm⟩
   exact⟨j,by omega,h⟩
  rintro⟨j,hj,h⟩
  by_cases e:j=i
  ·subst e;exact .inl h.symm
  exact .inr ⟨j,by omega,h⟩
 rename_i hn
 rw [ih]
 rw [List.all_eq_true] at hn
 constructor
 ·rintro⟨j,hj,h⟩;exact⟨j,by omega,h⟩
 rintro⟨j,hj,h⟩
 by_cases e:j=i
 ·subst e
  apply Classical.byContradiction
  intro hh
  apply hn
  intro k hk
  rw [List.mem_range] at hk
  exact decide_eq_true λe2=>hh ⟨k,hk,e2.trans h⟩
 exact⟨j,by omega,h⟩
theorem zjQ (l:List zk):∀i,(yT l i).Pairwise (· < ·):=by
 intro i
 induction i with
 |zero=>simp [yT]
 |succ i ih=>
 unfold yT
 split
 ·rename_i h
  rw [List.all_eq_true] at h
  refine zpl ih λhm=> ?_
  obtain⟨j,hj,e⟩:=zgo.1 hm
  exact of_decide_eq_true (h j (List.mem_range.2 hj)) e
 exact ih
theorem zmD {z:List Int} {x:Int} :x∈Lib.compact z↔x∈z:=by
 unfold Lib.compact Lib.compactUpTo
 simp only [List.mem_map,List.mem_filter,List.mem_range]
 constructor
 ·rintro⟨j,⟨hj, -⟩,rfl⟩
  have:z.toArray[j]! =z[j] :=by simp [hj]
  rw [this];exact List.getElem_mem hj
 intro hx
 obtain⟨j,hj,rfl⟩:=List.getElem_of_mem hx
 have key:∀j,(hj:j<z.length)->∃k,(k<z.length/\Lib.keeps z.toArray k=true)/\z.toArray[k]! =z[j] :=by
  intro j
  induction j with
  |zero=>intro hj;exact⟨0,⟨hj,Lib.keeps_lt_one _ 0 (by omega)⟩,by simp [hj]⟩
  |succ j ih=>
  intro hj
  by_cases he:z.toArray[j+1]! =z.toArray[j+1 - 1]!
  ·obtain⟨k,hk,e⟩:=ih (by omega)
   refine⟨k,hk,e.trans ?_⟩
   have h1:z.toArray[j+1]! =z[j+1] :=by simp [hj]
   have h2:z.toArray[j+1 - 1]! =z[j] :=by simp [show j<z.length by omega]
   rw [<-h1,he,h2]
  exact⟨j+1,⟨hj,Lib.keeps_pos he⟩,by simp [hj]⟩
 obtain⟨k,hk,e⟩:=key j hj
 exact⟨k,hk,e⟩
theorem zjR {z:List Int} (h:z.Pairwise (· <= ·)):(Lib.compact z).Pairwise (· < ·):=by
 unfold Lib.compact Lib.compactUpTo
 rw [List.pairwise_map]
 refine List.Pairwise.imp_of_mem ?_ ((List.pairwise_lt_range (n:=z.length)).filter _)
 intro i j hi hj hij
 rw [List.mem_filter,List.mem_range] at hi hj
 have h1:z.toArray[i]! =z[i] :=by simp [hi.1]
 have h2:z.toArray[j]! =z[j] :=by simp [hj.1]
 have h3:z.toArray[j - 1]! =z[j - 1] :=by simp [show j - 1<z.length by omega]
 have hne:z[j] ≠z[j - 1] :=by
  intro e
  have:Lib.keeps z.toArray j=false:=Lib.keeps_neg (by omega) (by rw [h2,h3,e])
  rw [this] at hj;cases hj.2
 have hle:=List.pairwise_iff_getElem.1 h
 have a1:z[i] <=z[j - 1] :=by
  by_cases e:i=j - 1
  ·subst e;exact Int.le_refl _
  exact hle i (j - 1) hi.1 (by omega) (by omega)
 have a2:=hle (j - 1) j (by omega) hj.1 (by omega)
 show z.toArray[i]! <z.toArray[j]!
 rw [h1,h2]
 omega
theorem zmE (l:List zk):Lib.compact ((l.map zk.var).mergeSort λx y=>decide (x<=y))=yT l l.length:=by
 refine zxo _ _ (zjR ?_) (zjQ l _) λx=> ?_
 ·have:=List.pairwise_mergeSort (le:=λx y:Int=>decide (x<=y)) (λa b c h1 h2=>by simp at*;omega) (λa b=>by simp;omega) (l.map zk.var)
  exact this.imp (λh=>by simpa using h)
 rw [zmD,List.mem_mergeSort,zgo,List.mem_map]
 constructor
 ·rintro⟨e,he,rfl⟩
  obtain⟨j,hj,rfl⟩:=List.getElem_of_mem he
  exact⟨j,hj,by rw [List.getD_eq_getElem?_getD,List.getElem?_eq_getElem hj];rfl⟩
 rintro⟨j,hj,rfl⟩
 exact⟨l.getD j default,getD_in hj,rfl⟩
theorem zjB (l:List Int):zo yR l=l.map (Value.int .i64):=by
 induction l with
 |nil=>rfl
 |cons x l ih=>simp only [zo,List.flatMap_cons,List.map_cons] at ih ⊢;rw [ih];rfl
theorem zxp {w:World} {B:Nat} {e:TypeId} {size n cap k:Nat} {a:Option Addr} {xs:List Value} (h:w.ownsRow B e size (.slice a n cap) n xs) (hk:k<=n) (ha:a=none->n=0):w.ownsRow B e size (.slice a k cap) k (xs.take (k*size)):=by
 have hl:=h.1
 have hle:=Nat.mul_le_mul_right size hk
 refine⟨by rw [List.length_take,hl];omega, ?_⟩
 rcases h.2 with⟨he,hn⟩|⟨g,cap',cur,he,hB,hg,hn,hm,hs,ht⟩
 ·obtain rfl:k=0:=by omega
  cases he
  exact .inl ⟨rfl,rfl⟩
 cases he
 exact .inr ⟨g,_,cur,rfl,hB,hg,by omega,hm,hs,by rw [<-ht,List.take_take];congr 1;omega⟩
theorem zrU {l:List zk} {i:Nat} (hi:i<l.length):(l.take (i+1)).map zk.var=(l.take i).map zk.var++ [(l.getD i default).var] :=by rw [gK hi rfl];simp
def zd2 (B:Nat) (X:World) (sv:Value) (l:List Int):Prop:=X.ownsRow B 3 1 sv l.length (zo yR l)
theorem zhy (w:World) (bv:Value) (l:List zk) (h:zU w bv l) (hl:l.length<=1000000) (model:Int):
  Calls Tryz.prog 79 #[bv, .int .i64 model] w λe w'=>(∃sv,e= .returned sv/\zd2 w.heap.size w' sv (yK l model))/\Below w.heap.size w w':=by
 obtain⟨ba,bc,rfl, -⟩:=zh.slice h
 obtain⟨n,hn⟩:∃n,n=l.length:=⟨_,rfl⟩
 rw [<-hn] at h hl ⊢
 have HL:=qh h
 have HN:=qh hn
 clear h hn
 go_enter Tryz.func79,Tryz.ntmps79
 go_wp2_with fail
 go_loopg [4,6,9] n (λgg s4 s6 s9 wr=>∃(i:Nat) (oa:Option Addr) (oc:Nat),i<=n/\Hid (gg=n - i)/\s4= .slice oa i oc/\s9= .int .i64 i/\Hid (wr.ownsRow w.heap.size 3 1 (.slice oa i oc) i (zo yR ((l.take i).map zk.var)))/\Hid (Below w.heap.size w wr))
 case atStart=>exact⟨0,none,0,Nat.zero_le _,rfl,rfl,rfl,World.ownsRow_nil _ _ _ _,Below.refl _ _⟩
 case round=>
 obtain⟨i,oa,oc,hi,HG,rfl,rfl,HO,zT⟩:=hrel
 by_cases hlt:i<n
 ·have qN:(i:Int)<(n:Int):=by omega
  obtain⟨eb,eo,yh, -,he1,he2⟩:=HL.out.part i (by rw [<-HN.out];exact hlt)
  subst yh
  have hvs:=zrU (l:=l) (i:=i) (by rw [<-HN.out];exact hlt)
  obtain⟨ev,hev⟩:∃ev,ev=(l.getD i default).var:=⟨_,rfl⟩
  obtain⟨en,hen⟩:∃en,en=(l.getD i default).n:=⟨_,rfl⟩
  rw [<-hev] at he1 hvs
  rw [<-hen] at he2
  have e1:=zi zT.out _ _ he1
  have e2:=zi zT.out _ _ he2
  have HVS:=qh hvs
  have HA:=qh ((Below.refl wr.heap.size wr).alloc (Nat.le_refl _) (.cells #[.int .i64 ev, .int .i64 en] 50))
  have HY:=qh (yj wr (.cells #[.int .i64 ev, .int .i64 en] 50))
  clear he1 he2 hev hen hvs
  go_upto_region 4 with fail
  generalize World.alloc wr _=X at HA HY ⊢
  obtain⟨gl,hgl⟩:∃g,g=wr.heap.size:=⟨_,rfl⟩
  rw [<-hgl] at HY ⊢
  clear hgl e1 e2
  have yX:Hid (Below w.heap.size w X):=zT.out.trans (HA.out.mono zT.out.size)
  have HOX:=qh (xO HO.out HA.out)
  have d0:X.cell? ⟨gl,0,none⟩=some (.int .i64 ev):=ze HY.out 0
  clear HY HA HO
  go_wp2_with(at_builtin;go_must(refine zM _ rfl _ _ 28 rfl 3 (.int .i64 0) 1 8 Tryz.underlying28 vF rfl (by decide) w.heap.size (.slice oa i oc) i (zo yR ((l.take i).map zk.var)) rfl (HOX.out.alloc _) ⟨X.heap.size,0,none⟩ 1 1 [.int .i64 ev] rfl rfl (cell_one_new _ _ _) (by simp [Value.oneCell']) (by unfold maxLen;omega) (by omega) (by have:=yX.out.size;simp;omega) ?_);intro ja jc Z f1 f2 f3 f4 f5 f6;have HE:=qh (zad HOX.out f1 f4 yX.out (Nat.le_refl _));clear f1 f2 f3 f4 f5 f6)
  go_roundg (n - (i+1))
  case measure=>rw [HG.out];omega
  case rel=>exact⟨i+1,ja,jc,by omega,rfl,rfl,by simp,by rw [Hid,HVS.out];exact HE.out.1,HE.out.2⟩
 obtain rfl:n=i:=by omega
 have hfull:(l.take n).map zk.var=l.map zk.var:=by rw [HN.out,List.take_length]
 rw [hfull] at HO
 clear hfull
 by_cases m1:model=1
 ·subst m1
  by_cases h0:n=0
  ·subst h0
   have HH:Hid (yK l 1= []):=by rw [Hid,List.eq_nil_of_length_eq_zero HN.out.symm];rfl
   have zV:Hid (zd2 w.heap.size wr (.slice oa 0 oc) []):=by
    have:=HO.out
    rw [List.eq_nil_of_length_eq_zero HN.out.symm] at this
    exact this
   clear HO
   go_wp2_with fail
   go_ret
   exact⟨⟨_,rfl,by rw [HH.out];exact zV.out⟩,zT.out⟩
  obtain⟨g,cap,hoa,hg, -⟩:=wN HO.out (by omega)
  cases hoa
  have hn1:(1:Int)<=(n:Int):=by omega
  have hn2:1<=n:=by omega
  have HH:Hid (yK l 1= [(l.getD 0 default).var]):=by
   rw [Hid]
   cases l with
   |nil=>exact absurd HN.out h0
   |cons x l=>rfl
  have zV:Hid (zd2 w.heap.size wr (.slice (some ⟨g,0,none⟩) 1 oc) [(l.getD 0 default).var]):=by
   have h1:=zxp HO.out hn2 (λe=>by cases e)
   have e:(zo yR (l.map zk.var)).take (1*1)=zo yR [(l.getD 0 default).var] :=by
    cases l with
    |nil=>exact absurd HN.out h0
    |cons x l=>rfl
   rw [e] at h1
   exact h1
  have hnc:n<=oc:=by
   rcases HO.out.2 with⟨he, -⟩|⟨g',cap',cur,he,hB,hgh,h1,h2,h3,h4⟩
   ·cases he
   cases he;exact h1
  clear h0
  have hmin:(min (1:Int) (n:Int)).toNat=1:=by omega
  go_wp2_with fail
  go_ret
  exact⟨⟨.slice (some ⟨g,0,none⟩) 1 oc,rfl,by rw [HH.out];exact zV.out⟩,zT.out⟩
 by_cases m2:model=2
 rotate_left
 ·have b1:((model:Int)==1)=false:=by simp [m1]
  have b2:((model:Int)==2)=false:=by simp [m2]
  have HH:Hid (yK l model= []):=by unfold yK;rw [Hid,if_neg m2,if_neg m1]
  clear m1 m2
  go_wp2_with fail
  go_ret
  exact⟨⟨_,rfl,by rw [HH.out];exact World.ownsRow_nil _ _ _ _⟩,zT.out⟩
 subst m2
 have HH:Hid (yK l 2=yT l l.length):=rfl
 by_cases h0:n=0
 ·subst h0
  have zV:Hid (∀X,Below wr.heap.size wr X->zd2 w.heap.size X (.slice oa 0 oc) (yK l 2)):=λX hX=>by
   have:=xO HO.out hX
   have e:yK l 2= [] :=by rw [List.eq_nil_of_length_eq_zero HN.out.symm];rfl
   rw [List.eq_nil_of_length_eq_zero HN.out.symm] at this
   rw [e]
   exact this
  clear HO
  go_wp2_with fail
  refine(slices_Sort_int_none oa oc wr).mono ?_
  rintro e w2 ⟨rfl,rfl⟩
  go_wp2_with fail
  refine(slices_Compact_int_empty oa oc w2).mono ?_
  rintro e w3 ⟨rfl,rfl⟩
  go_wp2_with fail
  go_ret
  exact⟨⟨_,rfl,zV.out _ (Below.refl _ _)⟩,zT.out⟩
 obtain⟨zs,hzs⟩:∃z,z=l.map zk.var:=⟨_,rfl⟩
 have hrow:=HO.out
 rw [<-hzs,zjB] at hrow
 have hzl:zs.length=n:=by rw [hzs,List.length_map,HN.out]
 obtain⟨ts,hts⟩:∃t,t=zs.mergeSort (λx y=>decide (x<=y)):=⟨_,rfl⟩
 have htl:ts.length=zs.length:=by rw [hts,List.length_mergeSort]
 have hcp:Lib.compact ts=yK l 2:=by rw [hts,hzs,HH.out];exact zmE l
 obtain⟨g,cap,hoa,hg,hgl,hnc,hcm, -,hH⟩:=Lib.holds_of_ownsRow hrow (by intro e;cases e;exact h0 rfl)
 cases hoa
 have hs:=slices_Sort_int g 0 oc zs wr hH hgl (by omega)
 rw [hzl, <-hts] at hs
 have HS:=qh hs
 have zV:Hid (∀k os,∀X,X=Sort.grow (putRow (Value.int .i64) (Sort.ahead wr k) g 0 ts.toArray) os->X.ownsRow w.heap.size 3 1 (.slice (some ⟨g,0,none⟩) n oc) n (ts.map (Value.int .i64))/\Below w.heap.size w X):=by
  rintro k os X rfl
  rcases hrow.2 with⟨he, -⟩|⟨g',cap',cur,he,hB,hgh,h1,h2,h3,h4⟩
  ·cases he
  cases he
  have:=ownsRow_sortedI (n:=k) (os:=os) htl hB hgh (by rw [hzl];exact h1) h2 h3
  rw [hzl] at this
  exact⟨this,zT.out.grown (grownBy_sortedI _) zT.out.size (λj hj=>by cases hj;exact hB)⟩
 have HTL:Hid (ts.length=n):=htl.trans hzl
 have HCP:=qh hcp
 clear hs hrow hzs hts htl hzl hcp hH HO
 go_wp2_with fail
 refine HS.out.mono ?_
 rintro e w2 ⟨rfl,k,os,hw2⟩
 obtain⟨hr2,hb2⟩:=zV.out k os w2 hw2
 obtain⟨g',cap',he', -,z4q, -, -, -,hH2⟩:=Lib.holds_of_ownsRow hr2 (by intro e;cases e)
 cases he'
 have hs2:=slices_Compact_int g 0 oc ts w2 hH2 (by rw [HTL.out];omega) (by rw [HTL.out];exact hnc)
 rw [HTL.out] at hs2
 have hlc:(Lib.compact ts).length<=n:=by
  rw [<-HTL.out];unfold Lib.compact Lib.compactUpTo
  rw [List.length_map];exact Nat.le_trans (List.length_filter_le _ _) (by simp)
 have HS2:=qh hs2
 have zwo:Hid (∀q X,X=putRow (Value.int .i64) (Sort.ahead w2 q) g 0 (Lib.compact ts++List.replicate (n - (Lib.compact ts).length) 0).toArray->zd2 w.heap.size X (.slice (some ⟨g,0,none⟩) (Lib.compact ts).length oc) (yK l 2)/\Below w.heap.size w X):=by
  rintro q X rfl
  have h1:=Lib.ownsRow_putRow (q:=q) (ys:=Lib.compact ts++List.replicate (n - (Lib.compact ts).length) 0) hr2 (by rw [List.length_append,List.length_replicate];omega) hlc
  rw [List.take_left', <-zjB] at h1
  ·refine⟨?_,Lib.below_putRow hb2 hg⟩
   rw [<-HCP.out]
   exact h1
  rfl
 clear hr2 hb2 hH2 hs2 hw2 HS zV
 go_wp2_with fail
 refine HS2.out.mono ?_
 rintro e w3 ⟨rfl,q,hw3⟩
 have HF:=qh (zwo.out q w3 hw3)
 clear hw3 HS2 zwo
 go_wp2_with fail
 go_ret
 exact⟨⟨_,rfl,HF.out.1⟩,HF.out.2⟩
theorem zpm (w:World) (bv:Value) (l:List zk) (h:zU w bv l) (hl:l.length<=1000000) (model:Int):
  Calls Tryz.prog 79 #[bv, .int .i64 model] w λe w'=>(∃sv,e= .returned sv/\xJ w' sv (yK l model))/\Below w.heap.size w w':=
 (zhy w bv l h hl model).mono λ_ _ ⟨⟨sv,he,ho⟩,hb⟩=>⟨⟨sv,he,uo ho⟩,hb⟩
