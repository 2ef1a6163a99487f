/- Steps. -/
import Derived.RangeFuncBound
import Derived.RangeFuncNested
import Derived.Shelf.Slices.Cells
import Derived.Shelf.Slices.In.SortNone
import Derived.Shelf.Slices.Turned
import Derived.Shelf.Sort.Plain
import Derived.Test.YtnhahkiojbanfaaGreatDoorRsPCode
set_option linter.all false
namespace Go.Proofs.YtnhahkiojbanfaaGreatDoor
open Go.RowKit
set_option maxRecDepth 100000
set_option maxHeartbeats 16000000
theorem zmS (w:World) (a:Option Addr) (n c:Nat) (hn:n<=c):Calls Tryz.prog 169 #[.slice a n c] w λe w'=>e= .returned (.slice a n n)/\w'=w:=by
 have h1:¬((n:Int)<0):=by omega
 cases a with
 |none=>
  go_enter Tryz.func169,Tryz.ntmps169
  go_wp2_with fail
  go_ret
  exact⟨by first|rfl|simp,rfl⟩
 |some a=>
 obtain⟨ab,ao,asp⟩:=a
 go_enter Tryz.func169,Tryz.ntmps169
 go_wp2_with fail
 go_ret
 exact⟨by first|rfl|simp,rfl⟩
theorem zja {a b c:World} (h:Below a.heap.size a b) (k:Since (λ_=>False) b c):Below a.heap.size a c:=h.trans (k.below h.size (λ_ hk=>hk.elim))
theorem wG (w:World) (o:Obj):Below w.heap.size w (w.drew.alloc o):=(Below.refl _ _).drew.alloc (Nat.le_refl _) o
theorem zwb (w:World) (bv:Value) (l:List zl) (h:zZ w bv l) (hl:l.length<=1000000) (m:zy) (x:zl):
  Calls Tryz.prog 157 #[bv,qg m,x.val] w λe w'=>(∃bv',e= .returned (.tuple #[bv', .bool (qX l m x)])/\zZ w' bv' (jM l m x)/\(qX l m x=true->w'.ownsRow w.heap.size 110 2 bv' (jM l m x).length (zo zl.cells (jM l m x))))/\Below w.heap.size w w':=by
 obtain⟨ba,bc,rfl, -⟩:=zh.slice h
 obtain⟨n,hn⟩:∃n,n=l.length:=⟨_,rfl⟩
 obtain⟨mm,mb⟩:=m
 obtain⟨xv,xn⟩:=x
 obtain⟨p,hp⟩:∃p:zl->Bool,p=(λy=>decide (mm=1)||decide (y.var=xv)):=⟨_,rfl⟩
 obtain⟨ok,hok⟩:∃ok,ok=qX l ⟨mm,mb⟩ ⟨xv,xn⟩:=⟨_,rfl⟩
 have hok2:ok=((decide (mm=1)||decide (mm=2)) && decide ((l.countP p:Int)<mb)):=by rw [hok,hp];rfl
 have hpb:jM l ⟨mm,mb⟩ ⟨xv,xn⟩=if ok then l++ [⟨xv,xn⟩] else l:=by rw [hok];rfl
 rw [<-hok,hpb]
 rw [<-hn] at h hl ⊢
 have hroom:=h.room
 rw [<-hn] at hroom
 have z3i:=qh hroom
 have je:=qh hok2
 have HP:=qh hp
 have HN:=qh hn
 clear hok hok2 hpb hp hn hroom
 have hb0:=xO w (.cells #[.int .i64 mm, .int .i64 mb] 29) (.cells #[.int .i64 xv, .int .i64 xn] 110)
 have HB:=qh hb0
 have HM:=qh (xP w (.cells #[.int .i64 mm, .int .i64 mb] 29) (.cells #[.int .i64 xv, .int .i64 xn] 110))
 have HX:=qh (xw w (.cells #[.int .i64 mm, .int .i64 mb] 29) (.cells #[.int .i64 xv, .int .i64 xn] 110))
 have HL:=qh (zZ.below h hb0)
 clear h hb0
 unfold qg zl.val
 simp only []
 go_enter Tryz.func157,Tryz.ntmps157
 go_upto_region 1 with fail
 generalize World.alloc (World.alloc w _) _=W at HB HM HX HL ⊢
 obtain⟨gx,hgx⟩:∃gx,gx=w.heap.size:=⟨_,rfl⟩
 rw [<-hgx] at HM HX ⊢
 clear hgx
 have HC:Hid (∀x,Below W.heap.size W x->x.cell? ⟨gx,0,none⟩=some (.int .i64 mm)/\x.cell? ⟨gx,1,none⟩=some (.int .i64 mb)/\x.cell? ⟨gx+1,0,none⟩=some (.int .i64 xv)/\x.cell? ⟨gx+1,1,none⟩=some (.int .i64 xn)):=λx hx=>
  ⟨zk hx _ _ (ze HM.out 0),zk hx _ _ (ze HM.out 1),zk hx _ _ (ze HX.out 0),zk hx _ _ (ze HX.out 1)⟩
 clear HM HX
 go_wp2_with fail
 go_loopg [8,10,13] n (λgg s8 s10 s13 wr=>∃i c:Nat,i<=n/\Hid (gg=n - i)/\s8= .int .i64 c/\s13= .int .i64 i/\Hid (c=(l.take i).countP p)/\c<=i/\Hid (Below W.heap.size W wr))
 case atStart=>exact⟨0,0,Nat.zero_le _,rfl,rfl,rfl,by simp [Hid],Nat.le_refl _,Below.refl _ _⟩
 case round=>
 obtain⟨i,c,hi,HG,rfl,rfl,HCN,hci,zL⟩:=hrel
 by_cases hlt:i<n
 ·have qN:(i:Int)<(n:Int):=by omega
  obtain⟨eb,eo,yh, -,he1,he2⟩:=HL.out.part i (by rw [<-HN.out];exact hlt)
  subst yh
  obtain⟨ev,hev⟩:∃ev,ev=(l.getD i default).var:=⟨_,rfl⟩
  obtain⟨en,hen⟩:∃en,en=(l.getD i default).n:=⟨_,rfl⟩
  rw [<-hev] at he1
  rw [<-hen] at he2
  have e1:=zk zL.out _ _ he1
  have e2:=zk zL.out _ _ he2
  have hst:=ziR (l:=l) (i:=i) (by rw [<-HN.out];exact hlt) p
  rw [<-HCN.out] at hst
  have HST:=qh hst
  have HPI:Hid (p (l.getD i default)=(decide (mm=1)||decide (ev=xv))):=by rw [Hid,HP.out,hev]
  have HA:=qh ((Below.refl wr.heap.size wr).alloc (Nat.le_refl _) (.cells #[.int .i64 ev, .int .i64 en] 110))
  have HY:=qh (yj wr (.cells #[.int .i64 ev, .int .i64 en] 110))
  clear he1 he2 hev hen hst
  go_upto_region 5 with fail
  generalize World.alloc wr _=X at HA HY ⊢
  obtain⟨gl,hgl⟩:∃g,g=wr.heap.size:=⟨_,rfl⟩
  rw [<-hgl] at HY ⊢
  clear hgl e1 e2
  have xI:Hid (Below W.heap.size W X):=zL.out.trans (HA.out.mono zL.out.size)
  have d0:X.cell? ⟨gl,0,none⟩=some (.int .i64 ev):=ze HY.out 0
  obtain⟨c0,c1,c2,c3⟩:=HC.out X xI.out
  clear HY HA
  by_cases a1:mm=1
  ·have a1b:((mm:Int)==1)=true:=by simp [a1]
   have qI:Hid (c+1=(l.take (i+1)).countP p):=by rw [Hid,HST.out,HPI.out,a1];simp
   have A1:=qh a1
   clear a1
   go_wp2_with fail
   go_roundg (n - (i+1))
   case measure=>rw [HG.out];omega
   case rel=>exact⟨i+1,c+1,by omega,rfl,by simp,by simp,qI.out,by omega,xI.out⟩
  have a1b:((mm:Int)==1)=false:=by simp [a1]
  have A1:=qh a1
  clear a1
  by_cases a2:ev=xv
  ·have a2b:((ev:Int)==xv)=true:=by simp [a2]
   have qI:Hid (c+1=(l.take (i+1)).countP p):=by rw [Hid,HST.out,HPI.out,a2];simp
   clear a2
   go_wp2_with fail
   go_roundg (n - (i+1))
   case measure=>rw [HG.out];omega
   case rel=>exact⟨i+1,c+1,by omega,rfl,by simp,by simp,qI.out,by omega,xI.out⟩
  have a2b:((ev:Int)==xv)=false:=by simp [a2]
  have A2:=qh a2
  have qI:Hid (c=(l.take (i+1)).countP p):=by rw [Hid,HST.out,HPI.out];simp [A1.out,A2.out]
  clear a2
  go_wp2_with fail
  go_roundg (n - (i+1))
  case measure=>rw [HG.out];omega
  case rel=>exact⟨i+1,c,by omega,rfl,rfl,by simp,qI.out,by omega,xI.out⟩
 obtain rfl:n=i:=by omega
 obtain⟨c0,c1,c2,c3⟩:=HC.out wr zL.out
 have hcn:c=l.countP p:=by rw [HCN.out,HN.out,List.take_length]
 have qx:=qh hcn
 have uR:=qh (zZ.below HL.out zL.out)
 have HWR:=qh (HB.out.trans (zL.out.mono HB.out.size))
 clear hcn HP HCN
 by_cases a2:(c:Int)<mb
 rotate_left
 ·obtain rfl:ok=false:=by
   rw [je.out, <-qx.out];simp [a2]
  clear je qx
  go_wp2_with fail
  go_ret2
  exact⟨⟨_,by first|rfl|simp,by simpa using uR.out⟩,HWR.out⟩
 have a2n:¬mb<=(c:Int):=by omega
 by_cases a1:mm=1\/mm=2
 rotate_left
 ·obtain rfl:ok=false:=by
   rw [je.out]
   have b1:decide (mm=1)=false:=decide_eq_false (λe=>a1 (.inl e))
   have b2:decide (mm=2)=false:=decide_eq_false (λe=>a1 (.inr e))
   rw [b1,b2];rfl
  have b1:((mm:Int)==1)=false:=by rw [beq_eq_false_iff_ne];exact λe=>a1 (.inl e)
  have b2:((mm:Int)==2)=false:=by rw [beq_eq_false_iff_ne];exact λe=>a1 (.inr e)
  have b3:((mm:Int) !=1)=true:=by rw [bne_iff_ne];exact λe=>a1 (.inl e)
  have b4:((mm:Int) !=2)=true:=by rw [bne_iff_ne];exact λe=>a1 (.inr e)
  clear je qx a1
  go_wp2_with fail
  go_ret2
  exact⟨⟨_,by first|rfl|simp,by simpa using uR.out⟩,HWR.out⟩
 obtain rfl:ok=true:=by rw [je.out, <-qx.out];rcases a1 with a1|a1<;>simp [a1,a2]
 have zoX:Hid (∀X,Below wr.heap.size wr X->SrcOf X (.slice ba n n) n 2 (zo zl.cells l)):=λX hX=>by
  have:=SrcOf.of_slice (R:=zan) (by decide) wS (λ_ _ _ h=>h) (zZ.below uR.out hX)
  rw [<-HN.out] at this
  obtain⟨a',c',h1,h2,h3,h4⟩:=this
  cases h1
  exact⟨ba,n,rfl,h2,h3,h4⟩
 have zR:Hid (∀a' cap' X,X.ownsRow (wr.drew.alloc (.cells #[.int .i64 xv, .int .i64 xn] 110)).heap.size 110 2 (.slice a' (n+1) cap') (n+1) (zo zl.cells l++ [.int .i64 xv, .int .i64 xn])->zZ X (.slice a' (n+1) cap') (l++ [⟨xv,xn⟩])/\X.ownsRow w.heap.size 110 2 (.slice a' (n+1) cap') (l++ [(⟨xv,xn⟩:zl)]).length (zo zl.cells (l++ [⟨xv,xn⟩]))):=λa' cap' X hX=>by
  have e1:(l++ [(⟨xv,xn⟩:zl)]).length=n+1:=by rw [List.length_append, <-HN.out];rfl
  have e2:zo zl.cells (l++ [⟨xv,xn⟩])=zo zl.cells l++ [.int .i64 xv, .int .i64 xn] :=by rw [kW];rfl
  have h3:X.ownsRow (wr.drew.alloc (.cells #[.int .i64 xv, .int .i64 xn] 110)).heap.size 110 2 (.slice a' (n+1) cap') (l++ [(⟨xv,xn⟩:zl)]).length (zo zl.cells (l++ [⟨xv,xn⟩])):=by rw [e1,e2];exact hX
  exact⟨kX h3,xq h3 (HWR.out.trans ((wG wr _).mono HWR.out.size)).size⟩
 have k1:=z3i.out.1
 clear je qx uR HC HL zL HB
 rcases a1 with rfl|rfl
 ·go_upto_region 10 with fail
  go_region_law (first|(refine zbQ _ (by rfl) (.tmp 46) (.tmp 48) 78 rfl 110 (.agg #[.int .i64 0, .int .i64 0]) 2 16 Tryz.underlying78 xG rfl (by decide) ba n (zo zl.cells l) rfl (zoX.out _ (wG _ _)) ⟨wr.heap.size,0,none⟩ 1 1 [.int .i64 xv, .int .i64 xn] rfl rfl (zgm wr.drew _ _ _) (by simp [Value.oneCell']) (by decide) (by unfold maxLen;omega) (by omega) ?_;intro ra rc X f1 f2 f3 f4;have HF1:=qh f1;have HF4:=qh f4;clear f1 f2 f3 f4)|(go_simp;go_at_call 169;refine(zmS _ ba n bc k1).mono ?_;rintro e w2 ⟨rfl,rfl⟩))
  all_goals
   have HBF:Hid (Below w.heap.size w X):=HWR.out.trans ((zja (wG wr _) HF4.out).mono HWR.out.size)
   go_wp2_with fail
   go_ret2
   have HE:=zR.out _ _ _ HF1.out
   exact⟨⟨_,by first|rfl|simp,by simpa using HE.1,by simpa using HE.2⟩,HBF.out⟩
 go_upto_region 10 with fail
 go_region_law (first|(refine zbQ _ (by rfl) (.tmp 46) (.tmp 48) 78 rfl 110 (.agg #[.int .i64 0, .int .i64 0]) 2 16 Tryz.underlying78 xG rfl (by decide) ba n (zo zl.cells l) rfl (zoX.out _ (wG _ _)) ⟨wr.heap.size,0,none⟩ 1 1 [.int .i64 xv, .int .i64 xn] rfl rfl (zgm wr.drew _ _ _) (by simp [Value.oneCell']) (by decide) (by unfold maxLen;omega) (by omega) ?_;intro ra rc X f1 f2 f3 f4;have HF1:=qh f1;have HF4:=qh f4;clear f1 f2 f3 f4)|(go_simp;go_at_call 169;refine(zmS _ ba n bc k1).mono ?_;rintro e w2 ⟨rfl,rfl⟩))
 all_goals
  have HBF:Hid (Below w.heap.size w X):=HWR.out.trans ((zja (wG wr _) HF4.out).mono HWR.out.size)
  go_wp2_with fail
  go_ret2
  have HE:=zR.out _ _ _ HF1.out
  exact⟨⟨_,by first|rfl|simp,by simpa using HE.1,by simpa using HE.2⟩,HBF.out⟩
end Go.Proofs.YtnhahkiojbanfaaGreatDoor
namespace Go.Proofs.YtnhahkiojbanfaaGreatDoor
open Go.Shelf
def znK:Go.Shelf.Ren:=⟨λ|189=>80|125=>98|257=>97|128=>118|129=>119|294=>109|295=>110|296=>111|297=>112|298=>113|299=>114|216=>115|300=>116|301=>117|328=>149|329=>150|330=>151|331=>152|332=>153|215=>154|343=>166|n=>n,λ|28=>31|3=>3|46=>151|0=>0|51=>191|53=>149|4=>4|183=>184|182=>183|131=>91|5=>5|9=>9|218=>201|222=>205|228=>218|229=>219|n=>n,λ|n=>n⟩
theorem zoM:Go.Proofs.Lays.n189 Tryz.prog znK:= {
 mixed:=by kernel_rfl
 f125:=Tryz.func98.trans (congrArg some (by kernel_rfl))
 f128:=Tryz.func118.trans (congrArg some (by kernel_rfl))
 f129:=Tryz.func119.trans (congrArg some (by kernel_rfl))
 f189:=Tryz.func80.trans (congrArg some (by kernel_rfl))
 f215:=Tryz.func154.trans (congrArg some (by kernel_rfl))
 f216:=Tryz.func115.trans (congrArg some (by kernel_rfl))
 f257:=Tryz.func97.trans (congrArg some (by kernel_rfl))
 f294:=Tryz.func109.trans (congrArg some (by kernel_rfl))
 f295:=Tryz.func110.trans (congrArg some (by kernel_rfl))
 f296:=Tryz.func111.trans (congrArg some (by kernel_rfl))
 f297:=Tryz.func112.trans (congrArg some (by kernel_rfl))
 f298:=Tryz.func113.trans (congrArg some (by kernel_rfl))
 f299:=Tryz.func114.trans (congrArg some (by kernel_rfl))
 f300:=Tryz.func116.trans (congrArg some (by kernel_rfl))
 f301:=Tryz.func117.trans (congrArg some (by kernel_rfl))
 f328:=Tryz.func149.trans (congrArg some (by kernel_rfl))
 f329:=Tryz.func150.trans (congrArg some (by kernel_rfl))
 f330:=Tryz.func151.trans (congrArg some (by kernel_rfl))
 f331:=Tryz.func152.trans (congrArg some (by kernel_rfl))
 f332:=Tryz.func153.trans (congrArg some (by kernel_rfl))
 f343:=Tryz.func166.trans (congrArg some (by kernel_rfl))
 t0:=Tryz.underlying0
 a0:=Tryz.isAgg0
 z0:=Tryz.sizeOf0
 v0:=Tryz.zeroValue0
 t3:=Tryz.underlying3
 a3:=Tryz.isAgg3
 z3:=Tryz.sizeOf3
 v3:=Tryz.zeroValue3
 t4:=Tryz.underlying4
 a4:=Tryz.isAgg4
 z4:=Tryz.sizeOf4
 v4:=Tryz.zeroValue4
 t5:=Tryz.underlying5
 a5:=Tryz.isAgg5
 z5:=Tryz.sizeOf5
 v5:=Tryz.zeroValue5
 t9:=Tryz.underlying9
 a9:=Tryz.isAgg9
 z9:=Tryz.sizeOf9
 v9:=Tryz.zeroValue9
 t28:=Tryz.underlying31
 a28:=Tryz.isAgg31
 z28:=Tryz.sizeOf31
 v28:=Tryz.zeroValue31
 t46:=Tryz.underlying151
 a46:=Tryz.isAgg151
 z46:=Tryz.sizeOf151
 v46:=Tryz.zeroValue151
 t51:=Tryz.underlying191
 a51:=Tryz.isAgg191
 z51:=Tryz.sizeOf191
 v51:=Tryz.zeroValue191
 t53:=Tryz.underlying149
 a53:=Tryz.isAgg149
 z53:=Tryz.sizeOf149
 v53:=Tryz.zeroValue149
 t131:=Tryz.underlying91
 a131:=Tryz.isAgg91
 z131:=Tryz.sizeOf91
 v131:=Tryz.zeroValue91
 t182:=Tryz.underlying183
 a182:=Tryz.isAgg183
 z182:=Tryz.sizeOf183
 v182:=Tryz.zeroValue183
 t183:=Tryz.underlying184
 a183:=Tryz.isAgg184
 z183:=Tryz.sizeOf184
 v183:=Tryz.zeroValue184
 t218:=Tryz.underlying201
 a218:=Tryz.isAgg201
 z218:=Tryz.sizeOf201
 v218:=Tryz.zeroValue201
 t222:=Tryz.underlying205
 a222:=Tryz.isAgg205
 z222:=Tryz.sizeOf205
 v222:=Tryz.zeroValue205
 t228:=Tryz.underlying218
 a228:=Tryz.isAgg218
 z228:=Tryz.sizeOf218
 v228:=Tryz.zeroValue218
 t229:=Tryz.underlying219
 a229:=Tryz.isAgg219
 z229:=Tryz.sizeOf219
 v229:=Tryz.zeroValue219 }
open Go.Sort Go.RowKit in
theorem slices_Sort_int (blk off cap:Nat) (zs:List Int) (w:World) (hH:Holds (Value.int .i64) w blk off zs.toArray) (hblk:blk<w.heap.size) (hsz:zs.length<4611686018427387904):
  Calls Tryz.prog 80 #[.slice (some ⟨blk,off,none⟩) zs.length cap] w λe w'=>
   e= .returned (.tuple #[])/\∃n os,w'=grow (putRow (Value.int .i64) (Sort.ahead w n) blk off (zs.mergeSort λx y=>decide (x<=y)).toArray) os:=Any.slices_Sort_int zoM blk off cap zs w hH hblk hsz
def znL:Go.Shelf.Ren:=⟨λ|107=>100|108=>131|n=>n,λ|28=>31|3=>3|4=>4|0=>0|n=>n,λ|n=>n⟩
theorem zoN:Go.Proofs.Lays.n107 Tryz.prog znL:= {
 mixed:=by kernel_rfl
 f107:=Tryz.func100.trans (congrArg some (by kernel_rfl))
 f108:=Tryz.func131.trans (congrArg some (by kernel_rfl))
 t0:=Tryz.underlying0
 a0:=Tryz.isAgg0
 z0:=Tryz.sizeOf0
 v0:=Tryz.zeroValue0
 t3:=Tryz.underlying3
 a3:=Tryz.isAgg3
 z3:=Tryz.sizeOf3
 v3:=Tryz.zeroValue3
 t4:=Tryz.underlying4
 a4:=Tryz.isAgg4
 z4:=Tryz.sizeOf4
 v4:=Tryz.zeroValue4
 t28:=Tryz.underlying31
 a28:=Tryz.isAgg31
 z28:=Tryz.sizeOf31
 v28:=Tryz.zeroValue31 }
open Go.Lib in
theorem slices_Contains_int (b off n c:Nat) (zs:List Int) (x:Int) (w:World) (hz:n<=zs.length) (hbig:n<=9223372036854775807) (hc:∀j,j<zs.length->w.cell? ⟨b,off+j,none⟩=some (.int .i64 (zs.getD j 0))):
  Calls Tryz.prog 100 #[.slice (some ⟨b,off,none⟩) n c, .int .i64 x] w λe w'=>e= .returned (.bool ((zs.take n).contains x))/\w'=w:=Any.slices_Contains_int zoN b off n c zs x w hz hbig hc
open Go.Lib in
theorem slices_Contains_int_empty (a:Option Addr) (c:Nat) (x:Int) (w:World):
  Calls Tryz.prog 100 #[.slice a 0 c, .int .i64 x] w λe w'=>e= .returned (.bool false)/\w'=w:=Any.slices_Contains_int_empty zoN a c x w
def zkE:Go.Shelf.Ren:=⟨λ|20=>81|n=>n,λ|22=>31|3=>3|4=>4|0=>0|n=>n,λ|n=>n⟩
theorem zk1:Go.Proofs.Lays2.n20 Tryz.prog zkE:= {
 mixed:=by kernel_rfl
 f20:=Tryz.func81.trans (congrArg some (by kernel_rfl))
 t0:=Tryz.underlying0
 a0:=Tryz.isAgg0
 z0:=Tryz.sizeOf0
 v0:=Tryz.zeroValue0
 t3:=Tryz.underlying3
 a3:=Tryz.isAgg3
 z3:=Tryz.sizeOf3
 v3:=Tryz.zeroValue3
 t4:=Tryz.underlying4
 a4:=Tryz.isAgg4
 z4:=Tryz.sizeOf4
 v4:=Tryz.zeroValue4
 t22:=Tryz.underlying31
 a22:=Tryz.isAgg31
 z22:=Tryz.sizeOf31
 v22:=Tryz.zeroValue31
 i3:=by kernel_rfl }
open Go.RowKit Go.Lib Go.Sort in
theorem slices_Compact_int (blk off cap:Nat) (zs:List Int) (w:World) (hH:Holds (Value.int .i64) w blk off zs.toArray) (hsz:zs.length<=9223372036854775807) (hcap:zs.length<=cap):
  Calls Tryz.prog 81 #[.slice (some ⟨blk,off,none⟩) zs.length cap] w λe w'=>e= .returned (.slice (some ⟨blk,off,none⟩) (Lib.compact zs).length cap)/\∃q,w'=putRow (Value.int .i64) (Sort.ahead w q) blk off (Lib.compact zs++List.replicate (zs.length - (Lib.compact zs).length) 0).toArray:=Any.slices_Compact_int zk1 blk off cap zs w hH hsz hcap
open Go.RowKit Go.Lib Go.Sort in
theorem slices_Compact_int_empty (a:Option Addr) (cap:Nat) (w:World):
  Calls Tryz.prog 81 #[.slice a 0 cap] w λe w'=>e= .returned (.slice a 0 cap)/\w'=w:=Any.slices_Compact_int_empty zk1 a cap w
open Go.RowKit Go.Sort in
theorem slices_Sort_int_none (p:Option Addr) (cap:Nat) (w:World):
  Calls Tryz.prog 80 #[.slice p 0 cap] w λe w'=>e= .returned (.tuple #[])/\w'=w:=Any.slices_Sort_int_none zoM p cap w
end Go.Proofs.YtnhahkiojbanfaaGreatDoor
namespace Go.Proofs.YtnhahkiojbanfaaGreatDoor
open Go.RowKit
set_option maxRecDepth 100000
set_option maxHeartbeats 16000000
theorem zu6 (w:World) (c:zD) (tv:Value) (d:Nat) (h:yS d w tv c.threads) (m:zy):Calls Tryz.prog 35 #[yQ c tv,qg m] w λe w'=>e= .returned (.bool (qA c m))/\Below w.heap.size w w':=by
 obtain⟨ta,tc,rfl,htl⟩:=zh.slice h
 obtain⟨r,hr⟩:∃r,r=qA c m:=⟨_,rfl⟩
 obtain⟨co,hco⟩:∃co,co=codeOk c:=⟨_,rfl⟩
 have hcode:=λW (hW:yS d W (.slice ta c.threads.length tc) c.threads)=>zgE W c (.slice ta c.threads.length tc) d hW
 rw [<-hco] at hcode
 have hr2:r=(co && decide (0<=m.model) && decide (m.model<=2) && decide (1<=m.bound) && decide (m.bound<=8)):=by rw [hr,hco];rfl
 rw [<-hr]
 obtain⟨vars,dom,cs⟩:=c
 obtain⟨mod,bnd⟩:=m
 simp only [] at h htl hcode hr2 ⊢
 unfold yQ qg
 unfold yQ at hcode
 simp only [] at hcode ⊢
 obtain⟨n,hn⟩:∃n,n=cs.length:=⟨_,rfl⟩
 rw [<-hn] at h htl hcode ⊢
 have hB:=xO w (.cells #[.int .i64 vars, .int .i64 dom, .slice ta n tc] 26) (.cells #[.int .i64 mod, .int .i64 bnd] 29)
 have HB:=qh hB
 have H1:=qh (xP w (.cells #[.int .i64 vars, .int .i64 dom, .slice ta n tc] 26) (.cells #[.int .i64 mod, .int .i64 bnd] 29))
 have H2:=qh (xw w (.cells #[.int .i64 vars, .int .i64 dom, .slice ta n tc] 26) (.cells #[.int .i64 mod, .int .i64 bnd] 29))
 have HT:=qh (zh.below (qD.stays d) h hB)
 have zbr:=qh hcode
 have HR:=qh hr2
 clear h hB hcode hr hr2 hco hn
 go_enter Tryz.func35,Tryz.ntmps35
 go_upto_region 1 with fail
 generalize World.alloc (World.alloc w _) _=W at HB H1 H2 HT ⊢
 obtain⟨gx,hgx⟩:∃gx,gx=w.heap.size:=⟨_,rfl⟩
 rw [<-hgx] at H1 H2 ⊢
 clear hgx
 have c0:W.cell? ⟨gx,0,none⟩=some (.int .i64 vars):=ze H1.out 0
 have c1:W.cell? ⟨gx,1,none⟩=some (.int .i64 dom):=ze H1.out 1
 have c2:W.cell? ⟨gx,2,none⟩=some (.slice ta n tc):=ze H1.out 2
 go_wp2_with fail
 refine(zbr.out W HT.out).mono ?_
 rintro e W1 ⟨rfl,hb⟩
 have HW1:Hid (Below w.heap.size w W1):=HB.out.trans (hb.mono HB.out.size)
 have d0:W1.cell? ⟨gx+1,0,none⟩=some (.int .i64 mod):=zk hb _ _ (ze H2.out 0)
 have d1:W1.cell? ⟨gx+1,1,none⟩=some (.int .i64 bnd):=zk hb _ _ (ze H2.out 1)
 clear hb c0 c1 c2 H1 H2 HT zbr
 cases co with
 |false=>
  obtain rfl:r=false:=by rw [HR.out];simp
  clear HR
  go_wp2_with fail
  go_ret
  exact⟨by first|rfl|(simp;done)|(simp;omega),HW1.out⟩
 |true=>
 by_cases a0:0<=mod
 rotate_left
 ·obtain rfl:r=false:=by rw [HR.out];simp [a0]
  clear HR
  go_wp2_with fail
  go_ret
  exact⟨by first|rfl|(simp;done)|(simp;omega),HW1.out⟩
 skip
 by_cases a1:mod<=2
 rotate_left
 ·obtain rfl:r=false:=by rw [HR.out];simp [a1]
  clear HR
  go_wp2_with fail
  go_ret
  exact⟨by first|rfl|(simp;done)|(simp;omega),HW1.out⟩
 skip
 by_cases a2:1<=bnd
 ·skip
  by_cases a3:bnd<=8
  ·skip
   obtain rfl:r=true:=by rw [HR.out];simp [a0,a1,a2,a3]
   clear HR
   go_wp2_with fail
   go_ret
   exact⟨by first|rfl|(simp;done)|(simp;omega),HW1.out⟩
  obtain rfl:r=false:=by rw [HR.out];simp [a3]
  clear HR
  go_wp2_with fail
  go_ret
  exact⟨by first|rfl|(simp;done)|(simp;omega),HW1.out⟩
 obtain rfl:r=false:=by rw [HR.out];simp [a2]
 clear HR
 go_wp2_with fail
 go_ret
 exact⟨by first|rfl|(simp;done)|(simp;omega),HW1.out⟩
theorem zfe (w:World) (sv:Value) (l:List Int) (h:qm w sv l) (v:Int):Calls Tryz.prog 100 #[sv, .int .i64 v] w λe w'=>e= .returned (.bool (l.contains v))/\w'=w:=by
 obtain⟨a,c,rfl,hl⟩:=zh.slice h
 rcases Nat.eq_zero_or_pos l.length with h0|h0
 ·have e:l= [] :=List.eq_nil_of_length_eq_zero h0
  subst e
  exact slices_Contains_int_empty a c v w
 obtain⟨b,off,rfl, -⟩:=qm.part h 0 h0
 have:=slices_Contains_int b off l.length c l v w (Nat.le_refl _) hl (λj hj=>by obtain⟨b',off',he, -,hc⟩:=qm.part h j hj;cases he;exact hc)
 rw [List.take_length] at this
 exact this
end Go.Proofs.YtnhahkiojbanfaaGreatDoor
namespace Go.Proofs.YtnhahkiojbanfaaGreatDoor
open Go.RowKit Go.Shelf
set_option maxRecDepth 100000
set_option maxHeartbeats 16000000
attribute [local go_sem] Oper.semAt_some
def upTo {α:Type} (f:Nat->α) (k:Nat):List α:=(List.range k).map f
theorem zdu {α:Type} (f:Nat->α) (k:Nat):upTo f (k+1)=upTo f k++ [f k] :=by simp [upTo,List.range_succ]
theorem znM {α:Type} (f:Nat->α) (k:Nat):(upTo f k).length=k:=by simp [upTo]
def gB (l:List zl) (k:Nat):Int × zl:=((l.length:Int) - 1 - (k:Int),l.getD (l.length - 1 - k) default)
theorem zwc (n l Bs n0 len cap:Nat) (a:Option Addr) (L:List zl) (hlen:len=L.length) (ztu:len<=1000000) (hn:1<=n) (J Jx:List (Int × zl)->World->Prop)
  (hY:∀pre x W,J pre W->pre.length<len->YieldAt Fence.wide (n - 1) Tryz.prog l #[.int .i64 x.1, .agg #[.int .i64 x.2.var, .int .i64 x.2.n]] W λe W'=>
   (e= .returned (.bool true)/\J (pre++ [x]) W'/\Below n0 W W')\/(e= .returned (.bool false)/\Jx (pre++ [x]) W'))
  (W:World) (hBs:W.cell? ⟨Bs,0,none⟩=some (.slice a len cap)) (hBl:Bs<n0) (hc:∀j,j<len->∃b off,a=some ⟨b,off,none⟩/\b<n0/\W.cell? ⟨b,off+j*2,none⟩=some (.int .i64 (L.getD j default).var)/\W.cell? ⟨b,off+j*2+1,none⟩=some (.int .i64 (L.getD j default).n)) (h0:J [] W):
  CallsIn Fence.wide n Tryz.prog 173 #[.func (.yield l) #[] #[], .pointer (some ⟨Bs,0,none⟩)] W λe W'=>(∃v,e= .returned v)/\
   ((∃ys,ys=upTo (gB L) len/\J ys W')\/(∃pre,(∃k,k<=len/\pre=upTo (gB L) k)/\Jx pre W')):=by
 refine callsIn_of_wp Tryz.func173 rfl trivial ?_ rfl
 simp only [Tryz.ntmps173,List.size_toArray,List.length_cons,List.length_nil,Nat.reduceAdd,Nat.reduceSub,Array.replicate_succ,Array.replicate_zero,List.push_toArray,List.append_toArray,List.nil_append,List.cons_append]
 have HLE:=qh hlen
 clear hlen
 gi_wp2
 gi_loopw [3] (λi wr=>∃k:Nat,k<=len/\i= .int .i64 ((len:Int) - 1 - k)/\J (upTo (gB L) k) wr/\Below n0 W wr)
  (λi _=>(intOf i+1).toNat)
 case atStart=>exact⟨0,Nat.zero_le _,by simp,h0,Below.refl _ _⟩
 case round=>
 obtain⟨k,hk,rfl,hJs,hnx⟩:=hrel
 by_cases hlt:k<len
 rotate_left
 ·obtain rfl:len=k:=by omega
  have hz:(len:Int) - 1 - (len:Int)= -1:=by omega
  rw [hz]
  clear hz
  gi_wp2
  go_end0
  exact⟨⟨_,rfl⟩, .inl ⟨_,rfl,hJs⟩⟩
 obtain⟨q,hq⟩:∃q:Nat,q=len - 1 - k:=⟨_,rfl⟩
 have hqi:(len:Int) - 1 - (k:Int)=(q:Int):=by omega
 have hql:q<len:=by omega
 obtain⟨b,off,rfl,hb,f0,f1⟩:=hc q hql
 have e0:=(hnx.cell (p:=⟨b,off+q*2,none⟩) hb).trans f0
 have e1:=(hnx.cell (p:=⟨b,off+q*2+1,none⟩) hb).trans f1
 clear f0 f1
 have eb:=(hnx.cell (p:=⟨Bs,0,none⟩) hBl).trans hBs
 obtain⟨fn,tmps,assign,body,hy,hR⟩:=hY _ (gB L k) wr hJs (by rw [znM];exact hlt)
 have hbk:gB L k=((q:Int),L.getD q default):=by unfold gB;rw [<-HLE.out,hqi, <-hq]
 rw [hbk] at hy
 dsimp only at hy
 obtain⟨ev,hev⟩:∃ev,ev=(L.getD q default).var:=⟨_,rfl⟩
 obtain⟨en,hen⟩:∃en,en=(L.getD q default).n:=⟨_,rfl⟩
 rw [<-hev] at e0 hy
 rw [<-hen] at e1 hy
 clear hev hen
 rw [hqi]
 have hlI:(q:Int)<(len:Int):=by omega
 have HW1:=qh (show wrap64 ((q:Int) - 1)=(q:Int) - 1 by unfold wrap64;omega)
 have HQI:=qh hqi
 clear hq hqi hbk
 gi_wp2
 refine hR.mono ?_
 rintro e W3 (⟨rfl,hJ3,hk3⟩|⟨rfl,hJx3⟩)
 ·gi_wp2
  go_roundw
  case rel=>exact⟨k+1,by omega,by have:=HQI.out;have:=HW1.out;simp<;>omega,by rw [zdu];exact hJ3,hnx.trans hk3⟩
  case measure=>have:=HQI.out;have:=HW1.out;simp [intOf] <;>omega
 gi_wp2
 refine bodyPost_ret (results_none rfl _ _ _) rfl ?_
 exact⟨⟨_,rfl⟩, .inr ⟨_,⟨k+1,by omega,(zdu _ _).symm⟩,hJx3⟩⟩
theorem zq4 (n Bs n0:Nat) (a:Option Addr) (cap:Nat) (L:List zl) (ztu:L.length<=1000000) (hn:1<=n) (w:World) (hBs:Bs<w.heap.size) (hBl:Bs<n0) (hn0:n0<=w.heap.size) (hc:w.cell? ⟨Bs,0,none⟩=some (.slice a L.length cap))
  (hI:∀j,j<L.length->∃b off,a=some ⟨b,off,none⟩/\b<n0/\w.cell? ⟨b,off+j*2,none⟩=some (.int .i64 (L.getD j default).var)/\w.cell? ⟨b,off+j*2+1,none⟩=some (.int .i64 (L.getD j default).n)):
  SeqStopsK Fence.wide n Tryz.prog 173 #[.pointer (some ⟨Bs,0,none⟩)] (λx:Int × zl=> #[Value.int .i64 x.1,Value.agg #[Value.int .i64 x.2.var,Value.int .i64 x.2.n]]) (Below n0) (λys=>ys=upTo (gB L) L.length)
   (λpre=>∃k,k<=L.length/\pre=upTo (gB L) k) L.length w:=λl J Jx W hW _ _ hY h0=>
 zwc n l Bs n0 L.length cap a L rfl ztu hn J Jx hY W ((hW.cell (p:=⟨Bs,0,none⟩) hBs).trans hc) hBl (λj hj=>by
  obtain⟨b,off,e,hb,f0,f1⟩:=hI j hj
  exact⟨b,off,e,hb,(hW.cell (p:=⟨b,off+j*2,none⟩) (Nat.lt_of_lt_of_le hb hn0)).trans f0,(hW.cell (p:=⟨b,off+j*2+1,none⟩) (Nat.lt_of_lt_of_le hb hn0)).trans f1⟩) h0
theorem zyv (n:Nat) (a:Option Addr) (len cap:Nat) (w:World):
  CallsIn Fence.wide n Tryz.prog 167 #[.slice a len cap] w λe w'=>e= .returned (.func (.func 173) #[] #[.pointer (some ⟨w.heap.size,0,none⟩)])/\w'=w.alloc (.cells #[.slice a len cap] 78):=by
 refine callsIn_of_wp Tryz.func167 rfl trivial ?_ rfl
 simp only [Tryz.ntmps167,List.size_toArray,List.length_cons,List.length_nil,Nat.reduceAdd,Nat.reduceSub,Array.replicate_succ,Array.replicate_zero,List.push_toArray,List.append_toArray,List.nil_append,List.cons_append]
 gi_wp2
 go_ret
 exact⟨rfl,rfl⟩
theorem zmT (l:List zl) (v:Int):∀k,k<=l.length->(∀p∈upTo (gB l) k,p.2.var≠v)->gL l v=pI l v (l.length - k):=by
 intro k
 induction k with
 |zero=>intro _ _;rfl
 |succ k ih=>
 intro hk h
 rw [zdu] at h
 rw [ih (by omega) (λp hp=>h p (List.mem_append.2 (.inl hp)))]
 have hne:=h (gB l k) (List.mem_append.2 (.inr (by simp)))
 obtain⟨q,hq⟩:∃q,l.length - k=q+1:=⟨l.length - k - 1,by omega⟩
 have hq2:l.length - (k+1)=q:=by omega
 have hq3:l.length - 1 - k=q:=by omega
 rw [hq,hq2]
 unfold gB at hne
 rw [hq3] at hne
 rw [show pI l v (q+1)=if (l.getD q default).var=v then some (l.getD q default).n else pI l v q from rfl,if_neg hne]
theorem zwd (l:List zl) (v:Int) (k:Nat) (hk:k<l.length) (h:∀p∈upTo (gB l) k,p.2.var≠v) (hv:(gB l k).2.var=v):gL l v=some (gB l k).2.n:=by
 rw [zmT l v k (by omega) h]
 obtain⟨q,hq⟩:∃q,l.length - k=q+1:=⟨l.length - k - 1,by omega⟩
 have hq3:l.length - 1 - k=q:=by omega
 rw [hq]
 unfold gB at hv ⊢
 rw [hq3] at hv ⊢
 rw [show pI l v (q+1)=if (l.getD q default).var=v then some (l.getD q default).n else pI l v q from rfl,if_pos hv]
theorem zr9 (w:World) (bv:Value) (l:List zl) (h:zZ w bv l) (hl:l.length<=1000000) (v:Int):
  Calls Tryz.prog 155 #[bv, .int .i64 v] w λe w'=>e= .returned (.tuple #[.int .i64 ((gL l v).getD 0), .bool (gL l v).isSome])/\Below w.heap.size w w':=by
 obtain⟨ba,bc,rfl, -⟩:=zh.slice h
 have hI:∀j,j<l.length->∃b off,ba=some ⟨b,off,none⟩/\b<w.heap.size/\w.cell? ⟨b,off+j*2,none⟩=some (.int .i64 (l.getD j default).var)/\w.cell? ⟨b,off+j*2+1,none⟩=some (.int .i64 (l.getD j default).n):=λj hj=>h.part j hj
 refine(callsIn_wide (n:=8)).1 ?_
 refine callsIn_of_wp_marks Tryz.func155 rfl trivial ?_ rfl
 simp only [Tryz.ntmps155,List.size_toArray,List.length_cons,List.length_nil,Nat.reduceAdd,Nat.reduceSub,Array.replicate_succ,Array.replicate_zero,List.push_toArray,List.append_toArray,List.nil_append,List.cons_append]
 have hB:=zcA w (.cells #[.int .i64 v] 3) (.cells #[.int .i64 0] 3) (.cells #[.bool false] 4) (.cells #[.slice ba l.length bc] 78)
 obtain⟨hB0,b0,b1,b2,b3,hsz⟩:=hB
 gi_wp2_with (refine⟨trivial, ?_⟩;gi_at_call 167;refine(zyv (8 - 1) _ _ _ _).mono ?_;rintro e w' ⟨rfl,rfl⟩)
 obtain⟨W0,hW0⟩:∃W0,(((w.alloc (.cells #[.int .i64 v] 3)).alloc (.cells #[.int .i64 0] 3)).alloc (.cells #[.bool false] 4)).alloc (.cells #[.slice ba l.length bc] 78)=W0:=⟨_,rfl⟩
 rw [hW0] at hB0 b0 b1 b2 b3 hsz ⊢
 clear hW0
 refine wpIn_rangeFunc_ownH rfl (by decide) (gf:=173) (lb:= #[.pointer (some ⟨w.heap.size+1+1+1,0,none⟩)]) rfl trivial (enters_of Tryz.func173 (by kernel_rfl) rfl)
  (zq4 (8 - 1) (w.heap.size+3) (w.heap.size+4) ba bc l hl (by decide) W0 (by omega) (by omega) (by omega) (ze b3 0) (λj hj=>by
   obtain⟨b,off,e,hb,f0,f1⟩:=hI j hj
   exact⟨b,off,e,by omega,zk hB0 _ _ f0,zk hB0 _ _ f1⟩)) belowK_t (belowK_b (by omega)) (Below.refl _ _) (λ_=>rfl)
  (λpre W=>((∀p∈pre,p.2.var≠v)/\Boxed W w.heap.size 3 (.int .i64 v)/\Boxed W (w.heap.size+1) 3 (.int .i64 0)/\Boxed W (w.heap.size+2) 4 (.bool false))/\Below (w.heap.size+4) W0 W)
  (λc pre W=>(c= .ret/\∃ini last,pre=ini++ [last] /\(∀p∈ini,p.2.var≠v)/\last.2.var=v/\Boxed W (w.heap.size+1) 3 (.int .i64 last.2.n)/\Boxed W (w.heap.size+2) 4 (.bool true))/\Below w.heap.size w W)
  (OwnFrom.and (λs X Y row hs hg hr=>⟨hs.1,boxed_own _ _ (λ(_:Unit)=>Value.int .i64 v) () X Y row hs.2.1 hg (λr e=>(hr r e).2),boxed_own _ _ (λ(_:Unit)=>Value.int .i64 0) () X Y row hs.2.2.1 hg (λr e=>(hr r e).2),boxed_own _ _ (λ(_:Unit)=>Value.bool false) () X Y row hs.2.2.2 hg (λr e=>(hr r e).2)⟩) (ownFrom_below (by omega) (by omega)))
  (λc=>OwnFrom.and (λs X Y row hs hg hr=>by
   obtain⟨hc,ini,last,e1,e2,e3,e4,e5⟩:=hs
   exact⟨hc,ini,last,e1,e2,e3,boxed_own _ _ (λ(_:Unit)=>Value.int .i64 last.2.n) () X Y row e4 hg (λr e=>(hr r e).2),boxed_own _ _ (λ(_:Unit)=>Value.bool true) () X Y row e5 hg (λr e=>(hr r e).2)⟩) (ownFrom_below (Nat.le_refl _) (by omega)))
  ⟨⟨by simp,b0,b1,b2⟩,(Below.refl _ _)⟩
  (λx a' W=>∃Bx,w.heap.size+3<Bx/\W.heap[Bx]? =some (.cells #[.int .i64 x.2.var, .int .i64 x.2.n] 110 (0,0))/\a'= { tmps:= #[.slice ba l.length bc, .int .i64 v,undef, .pointer (some ⟨w.heap.size,0,none⟩), .pointer (some ⟨w.heap.size+1,0,none⟩), .pointer (some ⟨w.heap.size+1+1,0,none⟩),undef, .pointer (some ⟨Bx,0,none⟩), .slice ba l.length bc, .func (.func 173) #[] #[.pointer (some ⟨w.heap.size+1+1+1,0,none⟩)], .int .i64 x.1, .agg #[.int .i64 x.2.var, .int .i64 x.2.n],undef,undef,undef,undef,undef,undef],defers:= [] })
  (λx a' _ X Y row hs hg hr=>by
   obtain⟨Bx,h1,h2,h3⟩:=hs
   refine⟨Bx,h1, ?_,h3⟩
   refine(hg.block Bx (zw h2) (λe=> ?_)).trans h2
   obtain⟨o,ho,hc⟩:=(hr Bx e.symm).2
   rw [h2] at ho;cases ho;cases hc)
  ?assign ?body ?done ?stop
 case assign=>
  rintro l2 pre x W K ⟨⟨hp,x1,x2,x3⟩,hB1⟩ hK
  gi_wp2
  exact hK _ _ ((KeepsOthers.alloc _ _).from _) ((Below.refl _ W).alloc (by have:=hB1.size;omega) _) ⟨⟨hp,x1.alloc _,x2.alloc _,x3.alloc _⟩,hB1.alloc (by have:=hB1.size;omega) _⟩ ⟨W.heap.size,by have:=x3.lt;have:=hB1.size;omega,yj W _,rfl⟩
 case body=>
  rintro l2 pre x a' W hl2 - ⟨⟨hp,x1,x2,x3⟩,hB1⟩ ⟨Bx,hBx,bX,rfl⟩ hlt
  have d0:W.cell? ⟨Bx,0,none⟩=some (.int .i64 x.2.var):=ze bX 0
  have d1:W.cell? ⟨Bx,1,none⟩=some (.int .i64 x.2.n):=ze bX 1
  have c1:=x1.cell
  have c2:=x2.cell
  have c3:=x3.cell
  have f2:=x2.frozen
  have f3:=x3.frozen
  gi_wp2
  ·have hx:(x.2.var==v)=true:=by assumption
   have hx2:x.2.var=v:=by simpa using hx
   refine⟨((KeepsOthers.setCell _ _ _).trans (KeepsOthers.setCell _ _ _)).from _,⟨rfl,pre,x,rfl,hp,hx2,(x2.set _).other (by omega) _,(x3.other (by omega) _).set _⟩, ?_⟩
   exact((hB0.trans (hB1.mono (by omega))).setCell (p:=⟨w.heap.size+1,0,none⟩) (by simp) _).setCell (p:=⟨w.heap.size+2,0,none⟩) (by simp) _
  have hx:(x.2.var==v)=false:=by assumption
  have hx2:x.2.var≠v:=by simpa using hx
  exact⟨KeepsFrom.refl _ _,Below.refl _ _,⟨λp hp'=>(List.mem_append.1 hp').elim (hp p) (λe=>by simp at e;subst e;exact hx2),x1,x2,x3⟩,hB1⟩
 case done=>
  rintro D ys W hD rfl ⟨⟨hp,x1,x2,x3⟩,hB1⟩ hK
  have c2:=x2.cell
  have c3:=x3.cell
  have f2:=x2.frozen
  have f3:=x3.frozen
  have hn:gL l v=none:=by rw [zmT l v l.length (Nat.le_refl _) hp,Nat.sub_self];rfl
  have HN:=qh hn
  clear hn
  gi_wp2
  have y2:=(x2.set (.int .i64 0)).other (B':=w.heap.size+2) (by omega) (.bool false)
  have y3:=(x3.other (B':=w.heap.size+1) (by omega) (.int .i64 0)).set (.bool false)
  have hK':=((KeepsOthers.setCell W ⟨w.heap.size+1,0,none⟩ (.int .i64 0)).trans (KeepsOthers.setCell _ ⟨w.heap.size+2,0,none⟩ (.bool false))).same D _ hK rfl
  refine⟨by simp, .inl ⟨_,_,rfl,run_takeDeferred hK', ?_⟩⟩
  have hc4:=cell_kept y2.cell (grownBy_putObj' _ D (.deferred none)) (λr e=>by cases e;exact⟨_,hK',rfl⟩)
  have hc5:=cell_kept y3.cell (grownBy_putObj' _ D (.deferred none)) (λr e=>by cases e;exact⟨_,hK',rfl⟩)
  refine⟨.tuple #[.int .i64 0, .bool false], ?_,by rw [HN.out];rfl,(((hB0.trans (hB1.mono (by omega))).setCell (p:=⟨w.heap.size+1,0,none⟩) (by simp) _).setCell (p:=⟨w.heap.size+2,0,none⟩) (by simp) _).trans (belowK_b (w:=w) (Nat.le_refl _) _ D _ _ (by omega) hK' rfl rfl)⟩
  simp [results,Tryz.f155,go_sem,hc4,hc5]
 case stop=>
 rintro D c pre W hD ⟨k,hk,rfl⟩ ⟨⟨rfl,ini,last,e1,e2,e3,x2,x3⟩,hB1⟩ hK
 gi_wp2
 refine⟨by simp, .inl ⟨_,_,rfl,run_takeDeferred hK, ?_⟩⟩
 have hc4:=cell_kept x2.cell (grownBy_putObj' _ D (.deferred none)) (λr e=>by cases e;exact⟨_,hK,rfl⟩)
 have hc5:=cell_kept x3.cell (grownBy_putObj' _ D (.deferred none)) (λr e=>by cases e;exact⟨_,hK,rfl⟩)
 obtain⟨k',rfl⟩:∃k',k=k'+1:=by
  cases k with
  |zero=>simp [upTo] at e1
  |succ k'=>exact⟨k',rfl⟩
 rw [zdu] at e1
 obtain⟨rfl,e5⟩:=List.append_inj' e1 rfl
 obtain rfl:gB l k'=last:=by simpa using e5
 have hn:=zwd l v k' (by omega) e2 e3
 refine⟨.tuple #[.int .i64 (gB l k').2.n, .bool true], ?_,by rw [hn];rfl,hB1.trans (belowK_b (w:=w) (Nat.le_refl _) W D _ _ (by omega) hK rfl rfl)⟩
 simp [results,Tryz.f155,go_sem,hc4,hc5]
