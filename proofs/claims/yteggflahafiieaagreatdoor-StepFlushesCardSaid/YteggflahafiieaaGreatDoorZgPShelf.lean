/- Steps. -/
import Derived.Shelf.Slices.Cells
import Derived.Shelf.Slices.In.SortNone
import Derived.Shelf.Slices.Turned
import Derived.Shelf.Sort.Plain
import Derived.Test.YteggflahafiieaaGreatDoorZgPCode
import Derived.Test.YteggflahafiieaaGreatDoorZgPSrc
set_option linter.all false
namespace Go.Proofs.YteggflahafiieaaGreatDoor
open Go.Shelf
def zoM:Go.Shelf.Ren:=⟨λ|189=>98|125=>110|257=>126|128=>155|129=>156|294=>165|295=>166|296=>167|297=>168|298=>169|299=>170|216=>171|300=>172|301=>173|328=>205|329=>187|330=>188|331=>206|332=>207|215=>191|343=>218|n=>n,λ|28=>28|3=>3|46=>198|0=>0|51=>229|53=>231|4=>4|183=>223|182=>222|131=>177|5=>5|9=>9|218=>247|222=>251|228=>261|229=>262|n=>n,λ|n=>n⟩
theorem zp9:Go.Proofs.Lays.n189 Tryz.prog zoM:= {
 mixed:=by kernel_rfl
 f125:=Tryz.func110.trans (congrArg some (by kernel_rfl))
 f128:=Tryz.func155.trans (congrArg some (by kernel_rfl))
 f129:=Tryz.func156.trans (congrArg some (by kernel_rfl))
 f189:=Tryz.func98.trans (congrArg some (by kernel_rfl))
 f215:=Tryz.func191.trans (congrArg some (by kernel_rfl))
 f216:=Tryz.func171.trans (congrArg some (by kernel_rfl))
 f257:=Tryz.func126.trans (congrArg some (by kernel_rfl))
 f294:=Tryz.func165.trans (congrArg some (by kernel_rfl))
 f295:=Tryz.func166.trans (congrArg some (by kernel_rfl))
 f296:=Tryz.func167.trans (congrArg some (by kernel_rfl))
 f297:=Tryz.func168.trans (congrArg some (by kernel_rfl))
 f298:=Tryz.func169.trans (congrArg some (by kernel_rfl))
 f299:=Tryz.func170.trans (congrArg some (by kernel_rfl))
 f300:=Tryz.func172.trans (congrArg some (by kernel_rfl))
 f301:=Tryz.func173.trans (congrArg some (by kernel_rfl))
 f328:=Tryz.func205.trans (congrArg some (by kernel_rfl))
 f329:=Tryz.func187.trans (congrArg some (by kernel_rfl))
 f330:=Tryz.func188.trans (congrArg some (by kernel_rfl))
 f331:=Tryz.func206.trans (congrArg some (by kernel_rfl))
 f332:=Tryz.func207.trans (congrArg some (by kernel_rfl))
 f343:=Tryz.func218.trans (congrArg some (by kernel_rfl))
 t0:=Tryz.underlying0
 a0:=Tryz.isAgg0
 z0:=Tryz.sizeOf0
 v0:=Tryz.zeroValue0
 t3:=Tryz.underlying3
 a3:=Tryz.isAgg3
 z3:=Tryz.sizeOf3
 v3:=Tryz.zeroValue3
 t4:=Tryz.underlying4
 a4:=Tryz.isAgg4
 z4:=Tryz.sizeOf4
 v4:=Tryz.zeroValue4
 t5:=Tryz.underlying5
 a5:=Tryz.isAgg5
 z5:=Tryz.sizeOf5
 v5:=Tryz.zeroValue5
 t9:=Tryz.underlying9
 a9:=Tryz.isAgg9
 z9:=Tryz.sizeOf9
 v9:=Tryz.zeroValue9
 t28:=Tryz.underlying28
 a28:=Tryz.isAgg28
 z28:=Tryz.sizeOf28
 v28:=Tryz.zeroValue28
 t46:=Tryz.underlying198
 a46:=Tryz.isAgg198
 z46:=Tryz.sizeOf198
 v46:=Tryz.zeroValue198
 t51:=Tryz.underlying229
 a51:=Tryz.isAgg229
 z51:=Tryz.sizeOf229
 v51:=Tryz.zeroValue229
 t53:=Tryz.underlying231
 a53:=Tryz.isAgg231
 z53:=Tryz.sizeOf231
 v53:=Tryz.zeroValue231
 t131:=Tryz.underlying177
 a131:=Tryz.isAgg177
 z131:=Tryz.sizeOf177
 v131:=Tryz.zeroValue177
 t182:=Tryz.underlying222
 a182:=Tryz.isAgg222
 z182:=Tryz.sizeOf222
 v182:=Tryz.zeroValue222
 t183:=Tryz.underlying223
 a183:=Tryz.isAgg223
 z183:=Tryz.sizeOf223
 v183:=Tryz.zeroValue223
 t218:=Tryz.underlying247
 a218:=Tryz.isAgg247
 z218:=Tryz.sizeOf247
 v218:=Tryz.zeroValue247
 t222:=Tryz.underlying251
 a222:=Tryz.isAgg251
 z222:=Tryz.sizeOf251
 v222:=Tryz.zeroValue251
 t228:=Tryz.underlying261
 a228:=Tryz.isAgg261
 z228:=Tryz.sizeOf261
 v228:=Tryz.zeroValue261
 t229:=Tryz.underlying262
 a229:=Tryz.isAgg262
 z229:=Tryz.sizeOf262
 v229:=Tryz.zeroValue262 }
open Go.Sort Go.RowKit in
theorem slices_Sort_int (blk off cap:Nat) (zs:List Int) (w:World) (hH:Holds (Value.int .i64) w blk off zs.toArray) (hblk:blk<w.heap.size) (hsz:zs.length<4611686018427387904):
  Calls Tryz.prog 98 #[.slice (some ⟨blk,off,none⟩) zs.length cap] w λe w'=>
   e= .returned (.tuple #[])/\∃n os,w'=grow (putRow (Value.int .i64) (Sort.ahead w n) blk off (zs.mergeSort λx y=>decide (x<=y)).toArray) os:=Any.slices_Sort_int zp9 blk off cap zs w hH hblk hsz
def zoN:Go.Shelf.Ren:=⟨λ|107=>101|108=>138|n=>n,λ|28=>28|3=>3|4=>4|0=>0|n=>n,λ|n=>n⟩
theorem zpA:Go.Proofs.Lays.n107 Tryz.prog zoN:= {
 mixed:=by kernel_rfl
 f107:=Tryz.func101.trans (congrArg some (by kernel_rfl))
 f108:=Tryz.func138.trans (congrArg some (by kernel_rfl))
 t0:=Tryz.underlying0
 a0:=Tryz.isAgg0
 z0:=Tryz.sizeOf0
 v0:=Tryz.zeroValue0
 t3:=Tryz.underlying3
 a3:=Tryz.isAgg3
 z3:=Tryz.sizeOf3
 v3:=Tryz.zeroValue3
 t4:=Tryz.underlying4
 a4:=Tryz.isAgg4
 z4:=Tryz.sizeOf4
 v4:=Tryz.zeroValue4
 t28:=Tryz.underlying28
 a28:=Tryz.isAgg28
 z28:=Tryz.sizeOf28
 v28:=Tryz.zeroValue28 }
open Go.Lib in
theorem slices_Contains_int (b off n c:Nat) (zs:List Int) (x:Int) (w:World) (hz:n<=zs.length) (hbig:n<=9223372036854775807) (hc:∀j,j<zs.length->w.cell? ⟨b,off+j,none⟩=some (.int .i64 (zs.getD j 0))):
  Calls Tryz.prog 101 #[.slice (some ⟨b,off,none⟩) n c, .int .i64 x] w λe w'=>e= .returned (.bool ((zs.take n).contains x))/\w'=w:=Any.slices_Contains_int zpA b off n c zs x w hz hbig hc
open Go.Lib in
theorem slices_Contains_int_empty (a:Option Addr) (c:Nat) (x:Int) (w:World):
  Calls Tryz.prog 101 #[.slice a 0 c, .int .i64 x] w λe w'=>e= .returned (.bool false)/\w'=w:=Any.slices_Contains_int_empty zpA a c x w
def zkJ:Go.Shelf.Ren:=⟨λ|20=>99|n=>n,λ|22=>28|3=>3|4=>4|0=>0|n=>n,λ|n=>n⟩
theorem zkA:Go.Proofs.Lays2.n20 Tryz.prog zkJ:= {
 mixed:=by kernel_rfl
 f20:=Tryz.func99.trans (congrArg some (by kernel_rfl))
 t0:=Tryz.underlying0
 a0:=Tryz.isAgg0
 z0:=Tryz.sizeOf0
 v0:=Tryz.zeroValue0
 t3:=Tryz.underlying3
 a3:=Tryz.isAgg3
 z3:=Tryz.sizeOf3
 v3:=Tryz.zeroValue3
 t4:=Tryz.underlying4
 a4:=Tryz.isAgg4
 z4:=Tryz.sizeOf4
 v4:=Tryz.zeroValue4
 t22:=Tryz.underlying28
 a22:=Tryz.isAgg28
 z22:=Tryz.sizeOf28
 v22:=Tryz.zeroValue28
 i3:=by kernel_rfl }
open Go.RowKit Go.Lib Go.Sort in
theorem slices_Compact_int (blk off cap:Nat) (zs:List Int) (w:World) (hH:Holds (Value.int .i64) w blk off zs.toArray) (hsz:zs.length<=9223372036854775807) (hcap:zs.length<=cap):
  Calls Tryz.prog 99 #[.slice (some ⟨blk,off,none⟩) zs.length cap] w λe w'=>e= .returned (.slice (some ⟨blk,off,none⟩) (Lib.compact zs).length cap)/\∃q,w'=putRow (Value.int .i64) (Sort.ahead w q) blk off (Lib.compact zs++List.replicate (zs.length - (Lib.compact zs).length) 0).toArray:=Any.slices_Compact_int zkA blk off cap zs w hH hsz hcap
open Go.RowKit Go.Lib Go.Sort in
theorem slices_Compact_int_empty (a:Option Addr) (cap:Nat) (w:World):
  Calls Tryz.prog 99 #[.slice a 0 cap] w λe w'=>e= .returned (.slice a 0 cap)/\w'=w:=Any.slices_Compact_int_empty zkA a cap w
open Go.RowKit Go.Sort in
theorem slices_Sort_int_none (p:Option Addr) (cap:Nat) (w:World):
  Calls Tryz.prog 98 #[.slice p 0 cap] w λe w'=>e= .returned (.tuple #[])/\w'=w:=Any.slices_Sort_int_none zp9 p cap w
end Go.Proofs.YteggflahafiieaaGreatDoor
namespace Go.Proofs.YteggflahafiieaaGreatDoor
open Go.RowKit
set_option maxRecDepth 100000
set_option maxHeartbeats 16000000
theorem zvw (w:World) (c:zK) (tv:Value) (d:Nat) (h:yZ d w tv c.threads) (m:zF):Calls Tryz.prog 51 #[yT c tv,xD m] w λe w'=>e= .returned (.bool (jP c m))/\Below w.heap.size w w':=by
 obtain⟨ta,tc,rfl,htl⟩:=ze.slice h
 obtain⟨r,hr⟩:∃r,r=jP c m:=⟨_,rfl⟩
 obtain⟨co,hco⟩:∃co,co=codeOk c:=⟨_,rfl⟩
 have hcode:=λW (hW:yZ d W (.slice ta c.threads.length tc) c.threads)=>zeK W c (.slice ta c.threads.length tc) d hW
 rw [<-hco] at hcode
 have hr2:r=(co && decide (0<=m.model) && decide (m.model<=2) && decide (1<=m.bound) && decide (m.bound<=8)):=by rw [hr,hco];rfl
 rw [<-hr]
 obtain⟨vars,dom,cs⟩:=c
 obtain⟨mod,bnd⟩:=m
 simp only [] at h htl hcode hr2 ⊢
 unfold yT xD
 unfold yT at hcode
 simp only [] at hcode ⊢
 obtain⟨n,hn⟩:∃n,n=cs.length:=⟨_,rfl⟩
 rw [<-hn] at h htl hcode ⊢
 have hB:=xZ w (.cells #[.int .i64 vars, .int .i64 dom, .slice ta n tc] 26) (.cells #[.int .i64 mod, .int .i64 bnd] 31)
 have HB:=qh hB
 have H1:=qh (xL w (.cells #[.int .i64 vars, .int .i64 dom, .slice ta n tc] 26) (.cells #[.int .i64 mod, .int .i64 bnd] 31))
 have H2:=qh (xE w (.cells #[.int .i64 vars, .int .i64 dom, .slice ta n tc] 26) (.cells #[.int .i64 mod, .int .i64 bnd] 31))
 have HT:=qh (ze.below (xK.stays d) h hB)
 have zab:=qh hcode
 have HR:=qh hr2
 clear h hB hcode hr hr2 hco hn
 go_enter Tryz.func51,Tryz.ntmps51
 go_upto_region 1 with fail
 generalize World.alloc (World.alloc w _) _=W at HB H1 H2 HT ⊢
 obtain⟨gx,hgx⟩:∃gx,gx=w.heap.size:=⟨_,rfl⟩
 rw [<-hgx] at H1 H2 ⊢
 clear hgx
 have c0:W.cell? ⟨gx,0,none⟩=some (.int .i64 vars):=za H1.out 0
 have c1:W.cell? ⟨gx,1,none⟩=some (.int .i64 dom):=za H1.out 1
 have c2:W.cell? ⟨gx,2,none⟩=some (.slice ta n tc):=za H1.out 2
 go_wp2_with fail
 refine(zab.out W HT.out).mono ?_
 rintro e W1 ⟨rfl,hb⟩
 have HW1:Hid (Below w.heap.size w W1):=HB.out.trans (hb.mono HB.out.size)
 have d0:W1.cell? ⟨gx+1,0,none⟩=some (.int .i64 mod):=zh hb _ _ (za H2.out 0)
 have d1:W1.cell? ⟨gx+1,1,none⟩=some (.int .i64 bnd):=zh hb _ _ (za H2.out 1)
 clear hb c0 c1 c2 H1 H2 HT zab
 cases co with
 |false=>
  obtain rfl:r=false:=by rw [HR.out];simp
  clear HR
  go_wp2_with fail
  go_ret
  exact⟨by first|rfl|(simp;done)|(simp;omega),HW1.out⟩
 |true=>
 by_cases a0:0<=mod
 rotate_left
 ·obtain rfl:r=false:=by rw [HR.out];simp [a0]
  clear HR
  go_wp2_with fail
  go_ret
  exact⟨by first|rfl|(simp;done)|(simp;omega),HW1.out⟩
 skip
 by_cases a1:mod<=2
 rotate_left
 ·obtain rfl:r=false:=by rw [HR.out];simp [a1]
  clear HR
  go_wp2_with fail
  go_ret
  exact⟨by first|rfl|(simp;done)|(simp;omega),HW1.out⟩
 skip
 by_cases a2:1<=bnd
 ·skip
  by_cases a3:bnd<=8
  ·skip
   obtain rfl:r=true:=by rw [HR.out];simp [a0,a1,a2,a3]
   clear HR
   go_wp2_with fail
   go_ret
   exact⟨by first|rfl|(simp;done)|(simp;omega),HW1.out⟩
  obtain rfl:r=false:=by rw [HR.out];simp [a3]
  clear HR
  go_wp2_with fail
  go_ret
  exact⟨by first|rfl|(simp;done)|(simp;omega),HW1.out⟩
 obtain rfl:r=false:=by rw [HR.out];simp [a2]
 clear HR
 go_wp2_with fail
 go_ret
 exact⟨by first|rfl|(simp;done)|(simp;omega),HW1.out⟩
theorem zvv (w:World) (n dom:Int) (g:Nat) (hg:w.cell? ⟨g,1,none⟩=some (.int .i64 dom)):Calls Tryz.prog 50 #[.int .i64 n, .pointer (some ⟨g,0,none⟩)] w λe w'=>e= .returned (.bool (!yU dom n))/\Below w.heap.size w w':=by
 obtain⟨r,hr⟩:∃r,r=yU dom n:=⟨_,rfl⟩
 rw [<-hr]
 unfold yU at hr
 have HR:=qh hr
 clear hr
 by_cases a0:0<=n
 ·by_cases a1:n<dom
  ·obtain rfl:r=true:=by rw [HR.out];simp [a0,a1]
   clear HR
   go_enter Tryz.func50,Tryz.ntmps50
   go_wp2_with fail
   go_ret
   exact⟨by first|rfl|(simp;done)|(simp;omega),Below.refl _ _⟩
  obtain rfl:r=false:=by rw [HR.out];simp [a1]
  clear HR
  go_enter Tryz.func50,Tryz.ntmps50
  go_wp2_with fail
  go_ret
  exact⟨by first|rfl|(simp;done)|(simp;omega),Below.refl _ _⟩
 obtain rfl:r=false:=by rw [HR.out];simp [a0]
 clear HR
 go_enter Tryz.func50,Tryz.ntmps50
 go_wp2_with fail
 go_ret
 exact⟨by first|rfl|(simp;done)|(simp;omega),Below.refl _ _⟩
theorem zcV (w:World) (sv:Value) (l:List Int) (h:xI w sv l) (v:Int):Calls Tryz.prog 101 #[sv, .int .i64 v] w λe w'=>e= .returned (.bool (l.contains v))/\w'=w:=by
 obtain⟨a,c,rfl,hl⟩:=ze.slice h
 rcases Nat.eq_zero_or_pos l.length with h0|h0
 ·have e:l= [] :=List.eq_nil_of_length_eq_zero h0
  subst e
  exact slices_Contains_int_empty a c v w
 obtain⟨b,off,rfl, -⟩:=xI.part h 0 h0
 have:=slices_Contains_int b off l.length c l v w (Nat.le_refl _) hl (λj hj=>by obtain⟨b',off',he, -,hc⟩:=xI.part h j hj;cases he;exact hc)
 rw [List.take_length] at this
 exact this
theorem ztq {l:List zi} {i:Nat} (m:zF) (hi:i<l.length) (hp:xY (l.take i) m (l.getD i default)=true):vF (l.take i) m (l.getD i default)=l.take (i+1):=by
 unfold vF;rw [if_pos hp,kU hi rfl]
theorem zqR (w:World) (c:zK) (ta:Option Addr) (tn tc:Nat) (m:zF) (bv:Value) (l:List zi) (h:zW w bv l) (hl:l.length<=1000000):
  Calls Tryz.prog 53 #[.agg #[.int .i64 c.vars, .int .i64 c.domain, .slice ta tn tc],xD m,bv] w λe w'=>e= .returned (.bool ((List.range l.length).all (xU c m l)))/\Below w.heap.size w w':=by
 obtain⟨ba,bc,rfl, -⟩:=ze.slice h
 obtain⟨r,hr⟩:∃r,r=(List.range l.length).all (xU c m l):=⟨_,rfl⟩
 rw [<-hr]
 obtain⟨n,hn⟩:∃n,n=l.length:=⟨_,rfl⟩
 rw [<-hn] at h hl hr ⊢
 have hput:=λW wO l' (hb:zW W wO l') (hl':l'.length<=1000000) x=>zoo W wO l' hb hl' m x
 have hwk:∀i,xU c m l i=(xY (l.take i) m (l.getD i default) && decide (0<=(l.getD i default).var) && decide ((l.getD i default).var<c.vars) && decide (0<=(l.getD i default).n) && decide ((l.getD i default).n<c.domain)):=λ_=>rfl
 obtain⟨wk,z0C⟩:∃f,f=xU c m l:=⟨_,rfl⟩
 rw [<-z0C] at hr hwk
 have z0D:∀i,vF (l.take i) m (l.getD i default)=if xY (l.take i) m (l.getD i default) then l.take i++ [l.getD i default] else l.take i:=λ_=>rfl
 obtain⟨vars,dom,ts⟩:=c
 obtain⟨mm,mb⟩:=m
 simp only [] at hwk ⊢
 unfold xD zi.val at hput
 unfold xD
 simp only [] at hput ⊢
 have hB:=xZ w (.cells #[.int .i64 vars, .int .i64 dom, .slice ta tn tc] 26) (.cells #[.int .i64 mm, .int .i64 mb] 31)
 have HB:=qh hB
 have H1:=qh (xL w (.cells #[.int .i64 vars, .int .i64 dom, .slice ta tn tc] 26) (.cells #[.int .i64 mm, .int .i64 mb] 31))
 have H2:=qh (xE w (.cells #[.int .i64 vars, .int .i64 dom, .slice ta tn tc] 26) (.cells #[.int .i64 mm, .int .i64 mb] 31))
 have HL:=qh (zW.below h hB)
 have bM:=qh hput
 have HWK:=qh hwk
 have HR:=qh hr
 have HN:=qh hn
 have zBX:=qh z0D
 clear h hB hput hwk z0C hr hn z0D
 go_enter Tryz.func53,Tryz.ntmps53
 go_upto_region 1 with fail
 generalize World.alloc (World.alloc w _) _=W at HB H1 H2 HL ⊢
 obtain⟨gx,hgx⟩:∃gx,gx=w.heap.size:=⟨_,rfl⟩
 rw [<-hgx] at H1 H2 ⊢
 clear hgx
 have HC:Hid (∀x,Below W.heap.size W x->(x.cell? ⟨gx,0,none⟩=some (.int .i64 vars)/\x.cell? ⟨gx,1,none⟩=some (.int .i64 dom))/\x.cell? ⟨gx+1,0,none⟩=some (.int .i64 mm)/\x.cell? ⟨gx+1,1,none⟩=some (.int .i64 mb)):=λx hx=>
  ⟨⟨zh hx _ _ (za H1.out 0),zh hx _ _ (za H1.out 1)⟩,zh hx _ _ (za H2.out 0),zh hx _ _ (za H2.out 1)⟩
 clear H1 H2
 go_wp2_with fail
 go_loopg [7,9,10,13,17] n (λgg s7 s9 s10 s13 s17 wr=>∃i:Nat,i<=n/\Hid (gg=n - i)/\s13= .int .i64 i/\Hid (zW wr s7 (l.take i))/\Hid (Below W.heap.size W wr)/\Hid (∀j,j<i->wk j=true))
 case atStart=>exact⟨0,Nat.zero_le _,rfl,rfl,by rw [List.take_zero];exact ze.nil _,Below.refl _ _,λj hj=>by omega⟩
 case round=>
 obtain⟨i,hi,HG,rfl,HBF,zX,HJ⟩:=hrel
 by_cases hlt:i<n
 rotate_left
 ·obtain rfl:n=i:=by omega
  obtain rfl:r=true:=by rw [HR.out,List.all_eq_true];exact λj hj=>HJ.out j (List.mem_range.1 hj)
  clear HR
  go_wp2_with fail
  go_ret
  exact⟨by first|rfl|(simp;done)|(simp;omega),HB.out.trans (zX.out.mono HB.out.size)⟩
 have qK:(i:Int)<(n:Int):=by omega
 obtain⟨eb,eo,yG, -,he1,he2⟩:=HL.out.part i (by rw [<-HN.out];exact hlt)
 subst yG
 have HWI:=qh (HWK.out i)
 have wu:=qh (λhp=>ztq (l:=l) (i:=i) ⟨mm,mb⟩ (by rw [<-HN.out];exact hlt) hp)
 obtain⟨x,hx⟩:∃x,x=l.getD i default:=⟨_,rfl⟩
 rw [<-hx] at he1 he2 HWI wu
 obtain⟨xv,xn⟩:=x
 simp only [] at he1 he2 HWI
 have e1:=zh zX.out _ _ he1
 have e2:=zh zX.out _ _ he2
 have HA:=qh ((Below.refl wr.heap.size wr).alloc (Nat.le_refl _) (.cells #[.int .i64 xv, .int .i64 xn] 136))
 have HY:=qh (yE wr (.cells #[.int .i64 xv, .int .i64 xn] 136))
 clear he1 he2 hx
 go_upto_region 6 with fail
 generalize World.alloc wr _=X at HA HY ⊢
 obtain⟨gl,hgl⟩:∃g,g=wr.heap.size:=⟨_,rfl⟩
 rw [<-hgl] at HY ⊢
 clear hgl e1 e2
 have xC:Hid (Below W.heap.size W X):=zX.out.trans (HA.out.mono zX.out.size)
 have d0:X.cell? ⟨gl,0,none⟩=some (.int .i64 xv):=za HY.out 0
 have d1:X.cell? ⟨gl,1,none⟩=some (.int .i64 xn):=za HY.out 1
 obtain⟨-,m0,m1⟩:=HC.out X xC.out
 have hp:=bM.out X _ (l.take i) (zW.below HBF.out HA.out) (by rw [List.length_take];omega) ⟨xv,xn⟩
 simp only [] at hp
 have HP:=qh hp
 have HJ2:Hid (wk i=true->∀j,j<i+1->wk j=true):=λhw j hj=>by
  by_cases e:j=i
  ·subst e;exact hw
  exact HJ.out j (by omega)
 have jr:Hid (wk i=false->r=false):=λhw=>by
  rw [HR.out,List.all_eq_false]
  exact⟨i,List.mem_range.2 hlt,by rw [hw];simp⟩
 have HHY:=qh HY.out
 clear hp HA HBF
 go_wp2_with fail
 refine HP.out.mono ?_
 rintro e w2 ⟨⟨wO,rfl,hbf, -⟩,hb2⟩
 have HB2:Hid (Below W.heap.size W w2):=xC.out.trans (hb2.mono xC.out.size)
 have f0:w2.cell? ⟨gl,0,none⟩=some (.int .i64 xv):=zh hb2 _ _ d0
 have f1:w2.cell? ⟨gl,1,none⟩=some (.int .i64 xn):=zh hb2 _ _ d1
 have z0E:=qh hbf
 obtain⟨⟨c0,c1⟩, -, -⟩:=HC.out w2 HB2.out
 clear hb2 hbf d0 d1 m0 m1 HP HY HHY
 cases hok:xY (l.take i) ⟨mm,mb⟩ ⟨xv,xn⟩ with
 |false=>
  obtain rfl:r=false:=jr.out (by rw [HWI.out,hok];simp)
  clear hok jr HWI HR
  go_wp2_with fail
  go_ret
  exact⟨by first|rfl|(simp;done)|(simp;omega),HB.out.trans (HB2.out.mono HB.out.size)⟩
 |true=>
 rw [wu.out hok] at z0E
 have zbJ:Hid (wk i=(decide (0<=xv) && decide (xv<vars) && decide (0<=xn) && decide (xn<dom))):=by rw [Hid,HWI.out,hok];simp
 clear hok HWI wu
 by_cases a0:0<=xv
 rotate_left
 ·obtain rfl:r=false:=jr.out (by rw [zbJ.out];simp [a0])
  clear jr zbJ HR
  go_wp2_with fail
  go_ret
  exact⟨by first|rfl|(simp;done)|(simp;omega),HB.out.trans (HB2.out.mono HB.out.size)⟩
 skip
 by_cases a1:xv<vars
 rotate_left
 ·obtain rfl:r=false:=jr.out (by rw [zbJ.out];simp [a1])
  clear jr zbJ HR
  go_wp2_with fail
  go_ret
  exact⟨by first|rfl|(simp;done)|(simp;omega),HB.out.trans (HB2.out.mono HB.out.size)⟩
 skip
 by_cases a2:0<=xn
 rotate_left
 ·obtain rfl:r=false:=jr.out (by rw [zbJ.out];simp [a2])
  clear jr zbJ HR
  go_wp2_with fail
  go_ret
  exact⟨by first|rfl|(simp;done)|(simp;omega),HB.out.trans (HB2.out.mono HB.out.size)⟩
 skip
 by_cases a3:xn<dom
 ·skip
  have zfk:=qh (HJ2.out (by rw [zbJ.out];simp [a0,a1,a2,a3]))
  clear zbJ jr HR
  go_wp2_with fail
  go_roundg (n - (i+1))
  case measure=>rw [HG.out];omega
  case rel=>exact⟨i+1,by omega,rfl,by simp,z0E.out,HB2.out,zfk.out⟩
 obtain rfl:r=false:=jr.out (by rw [zbJ.out];simp [a3])
 clear jr zbJ HR
 go_wp2_with fail
 go_ret
 exact⟨by first|rfl|(simp;done)|(simp;omega),HB.out.trans (HB2.out.mono HB.out.size)⟩
