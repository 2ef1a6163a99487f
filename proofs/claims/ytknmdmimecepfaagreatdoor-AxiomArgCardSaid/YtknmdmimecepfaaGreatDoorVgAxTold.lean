/- Steps. -/
import Derived.Test.YtknmdmimecepfaaGreatDoorVgAxF
set_option linter.all false
namespace Go.Proofs.YtknmdmimecepfaaGreatDoor
open Go.RowKit
set_option maxRecDepth 100000
set_option maxHeartbeats 16000000
theorem zq8 (w:World) (g:Nat) (W:ze) (hW:zC w g W) (i:Nat) (hi:i<4) (v:Nat) (hv:v<4):
  Calls Tryz.prog 67 #[.pointer (some ⟨g,0,none⟩), .pointer (some ⟨g,i*54,none⟩), .int .i64 v] w λr w'=>r= .returned (.int .i64 (vV W (W.th i) v (W.th i).many))/\Below w.heap.size w w':=by
 have bW:(W.th i).many<=8:=(ze.xB hW.ok hi).many
 have m0:=hW.many hi
 have v0:=hW.mem hv
 obtain⟨t,ht⟩:∃t,t=W.th i:=⟨_,rfl⟩
 rw [show W.zO.getD i default=t from ht.symm] at m0
 rw [<-ht] at bW ⊢
 obtain⟨m,hm⟩:∃m,m=t.many:=⟨_,rfl⟩
 rw [<-hm] at bW m0 ⊢
 obtain⟨tf,htf⟩:∃f,f=vV W t v:=⟨_,rfl⟩
 have ht0:tf 0=W.mem.getD v 0:=by rw [htf];rfl
 have hts:∀j,tf (j+1)=if (t.evs.getD j default).writes=true/\(t.evs.getD j default).v=(v:Int)/\(t.evs.getD j default).come=false then(t.evs.getD j default).n else tf j:=λj=>by rw [htf];rfl
 rw [<-htf]
 rw [<-ht0] at v0
 have HT:=qh ht
 have HTS:=qh hts
 have HW:=qh hW
 clear ht hm htf ht0 hts hW
 have hiI:(i:Int)<4:=by omega
 have hvI:(v:Int)<4:=by omega
 have hv0:(0:Int)<=(v:Int):=by omega
 have hmI:(m:Int)<=8:=by omega
 have hm0:(0:Int)<=(m:Int):=by omega
 go_enter Tryz.func67,Tryz.ntmps67
 go_upto_region 2 with fail
 have CC:Hid (∀x,Below w.heap.size w x->x.cell? ⟨g,i*54+53,none⟩=some (.int .i64 (m:Int))):=λx hx=>zi hx _ _ m0
 refine kP (S:=λx=>Below w.heap.size w x) ((Below.refl _ _).drew) (λhA2=> ?_)
 refine zk 0 CC.out ?_
 refine zk 1 CC.out ?_
 refine zk 2 CC.out ?_
 refine zk 3 CC.out ?_
 refine zk 4 CC.out ?_
 refine zk 5 CC.out ?_
 refine zk 6 CC.out ?_
 refine zk 7 CC.out ?_
 refine zk 8 CC.out ?_
 refine zk 9 CC.out ?_
 refine vE ?_
 obtain⟨X,hX⟩:∃X,X=w.drew:=⟨_,rfl⟩
 rw [<-hX] at hA2 ⊢
 have HX:=qh hA2
 clear hX hA2 CC m0 v0
 go_wp2_with fail
 go_loopg [7,25] m (λgg s7 s25 wr=>∃j:Nat,j<=m/\Hid (gg=m - j)/\s7= .int .i64 (tf j)/\s25= .int .i64 j/\Hid (Below w.heap.size w wr))
 case atStart=>exact⟨0,Nat.zero_le _,rfl,rfl,rfl,HX.out⟩
 case round=>
 obtain⟨j,hj,HG,rfl,rfl,HB⟩:=hrel
 obtain⟨wo,rfl⟩:∃wo:World,wo=wr:=⟨_,rfl⟩
 by_cases hlt:j<m
 rotate_left
 ·obtain rfl:m=j:=by omega
  go_wp2_with fail
  go_ret
  exact⟨rfl,HB.out⟩
 have qQ:(j:Int)<(m:Int):=by omega
 have hw:=HW.out.later HB.out
 have he:=λk (hk:k<6) u (hu:((W.zO.getD i default).evs.getD j default).cells[k]? =some u)=>hw.ev hi (j:=j) (k:=k) (by omega) hk hu
 rw [show W.zO.getD i default=t from HT.out.symm] at he
 have hts:=HTS.out j
 obtain⟨e,hee⟩:∃e,e=t.evs.getD j default:=⟨_,rfl⟩
 rw [<-hee] at he hts
 obtain⟨ev,en,er,ew,ef,ec⟩:=e
 have z0:=he 0 (by omega) _ rfl
 have z1:=he 1 (by omega) _ rfl
 have z2:=he 2 (by omega) _ rfl
 have z3:=he 3 (by omega) _ rfl
 have z4:=he 4 (by omega) _ rfl
 have z5:=he 5 (by omega) _ rfl
 simp only [Nat.add_zero] at z0
 simp only [] at hts
 have HN:=qh hts
 obtain⟨tj,htj⟩:∃x,x=tf j:=⟨_,rfl⟩
 obtain⟨tn,htn⟩:∃x,x=tf (j+1):=⟨_,rfl⟩
 rw [<-htj]
 have zpc:=HN.out
 rw [<-htj, <-htn] at zpc
 have HTN:=qh htn
 have HS:=qh zpc
 have HA:=qh (zm HB.out (zK wo (.cells #[.int .i64 ev, .int .i64 en, .bool er, .bool ew, .bool ef, .bool ec] 61)))
 have zP:=qh (zT wo (.cells #[.int .i64 ev, .int .i64 en, .bool er, .bool ew, .bool ef, .bool ec] 61))
 clear hw he hee hts zpc htj htn HN
 go_upto_region 5 with fail
 generalize World.alloc wo _=Y at HA zP ⊢
 generalize wo.heap.size=ge at zP ⊢
 have e0:=za zP.out 0
 have e1:=za zP.out 1
 have e3:=za zP.out 3
 have e5:=za zP.out 5
 clear z0 z1 z2 z3 z4 z5 zP
 cases ew with
 |false=>
  obtain rfl:tn=tj:=by rw [HS.out,if_neg (by simp)]
  go_wp2_with fail
  go_roundg (m - (j+1))
  case measure=>rw [HG.out];omega
  case rel=>exact⟨j+1,by omega,rfl,by rw [HTN.out],by simp,HA.out⟩
 |true=>
 by_cases hv':ev=(v:Int)
 ·subst hv'
  cases ec with
  |true=>
   obtain rfl:tn=tj:=by rw [HS.out,if_neg (by simp)]
   go_wp2_with fail
   go_roundg (m - (j+1))
   case measure=>rw [HG.out];omega
   case rel=>exact⟨j+1,by omega,rfl,by rw [HTN.out],by simp,HA.out⟩
  |false=>
  obtain rfl:tn=en:=by rw [HS.out,if_pos ⟨rfl,rfl,rfl⟩]
  go_wp2_with fail
  go_roundg (m - (j+1))
  case measure=>rw [HG.out];omega
  case rel=>exact⟨j+1,by omega,rfl,by rw [HTN.out],by simp,HA.out⟩
 have hvb:((ev:Int)==(v:Int))=false:=by simpa using hv'
 obtain rfl:tn=tj:=by rw [HS.out,if_neg (λh=>hv' h.2.1)]
 clear hv'
 go_wp2_with fail
 go_roundg (m - (j+1))
 case measure=>rw [HG.out];omega
 case rel=>exact⟨j+1,by omega,rfl,by rw [HTN.out],by simp,HA.out⟩
def qB (model:Int) (W:ze) (i k:Nat):Bool:= !((W.th i).evs.getD k default).come && zc4 model (W.th i) k ((W.th i).evs.getD k default)
def yg.did (e:yg):yg:=⟨e.v,e.n,e.reads,e.writes,e.fence,true⟩
def yj (W:ze) (i k:Nat):ze:=
 if ((W.th i).evs.getD k default).writes then(W.yV i k ((W.th i).evs.getD k default).did).ql ((W.th i).evs.getD k default).v.toNat ((W.th i).evs.getD k default).n
 else W.yV i k ((W.th i).evs.getD k default).did
def qW (g:Nat) (model:Int) (W:ze) (i k:Nat) (w:World) (e:Ending) (w':World):Prop:=e= .returned (.bool (qB model W i k))/\zC w' g (if qB model W i k then yj W i k else W)/\yR g w w'
theorem qW.no {g:Nat} {model:Int} {W:ze} {i k:Nat} {w w':World} (h:qB model W i k=false) (h1:zC w' g W) (h2:yR g w w'):qW g model W i k w (.returned (.bool false)) w':=⟨by rw [h],by rw [h];exact h1,h2⟩
theorem qW.yes {g:Nat} {model:Int} {W V:ze} {i k:Nat} {w w':World} (h:qB model W i k=true) (hv:yj W i k=V) (h1:zC w' g V) (h2:yR g w w'):qW g model W i k w (.returned (.bool true)) w':=⟨by rw [h],by rw [h,if_pos rfl,hv];exact h1,h2⟩
theorem zdk (w:World) (mb:Nat) (model:Int) (hm:w.cell? ⟨mb,3,none⟩=some (.int .i64 model)) (g:Nat) (W:ze) (hW:zC w g W) (i:Nat) (hi:i<4) (k:Nat) (hk:k<8)
  (hev:0<=((W.th i).evs.getD k default).v/\((W.th i).evs.getD k default).v<4):
  Calls Tryz.prog 46 #[.pointer (some ⟨mb,0,none⟩), .pointer (some ⟨g,0,none⟩), .int .i64 i, .int .i64 k] w (qW g model W i k w):=by
 have he:=λj (hj:j<6) u (hu:((W.zO.getD i default).evs.getD k default).cells[j]? =some u)=>hW.ev hi hk hj hu
 have hmay:=λ(X:World) (hX:Below w.heap.size w X)=>zgd X mb model (zi hX _ _ hm) g W (hW.later hX) i hi k (by omega) ((W.th i).evs.getD k default)
 have hset:=λ(X:World) (hX:zC X g W)=>hX.yV hi hk (k:=5) (by omega) (e:=((W.th i).evs.getD k default).did) (u:= .bool true) rfl
 have hmw:qB model W i k=(!((W.th i).evs.getD k default).come && zc4 model (W.th i) k ((W.th i).evs.getD k default)):=rfl
 have hww:yj W i k=if ((W.th i).evs.getD k default).writes then(W.yV i k ((W.th i).evs.getD k default).did).ql ((W.th i).evs.getD k default).v.toNat ((W.th i).evs.getD k default).n else W.yV i k ((W.th i).evs.getD k default).did:=rfl
 obtain⟨e,hee⟩:∃e,e=(W.th i).evs.getD k default:=⟨_,rfl⟩
 rw [show(W.zO.getD i default).evs.getD k default=e from hee.symm] at he
 rw [<-hee] at hev hmay hset hmw hww
 obtain⟨mq,hmq⟩:∃b,b=zc4 model (W.th i) k e:=⟨_,rfl⟩
 rw [<-hmq] at hmay hmw
 obtain⟨W1,hW1⟩:∃v,v=W.yV i k e.did:=⟨_,rfl⟩
 rw [<-hW1] at hset hww
 clear hee hmq hW1
 obtain⟨ev,en,er,ew,ef,ec⟩:=e
 unfold yg.val at hmay
 simp only [] at hev hmay hmw hww
 obtain⟨v,rfl⟩:∃v:Nat,ev=(v:Int):=⟨ev.toNat,by omega⟩
 simp only [Int.toNat_natCast] at hww
 have hv4:v<4:=by omega
 have hvI:(v:Int)<4:=by omega
 have hv0:(0:Int)<=(v:Int):=by omega
 have z0:=he 0 (by omega) _ rfl
 have z1:=he 1 (by omega) _ rfl
 have z2:=he 2 (by omega) _ rfl
 have z3:=he 3 (by omega) _ rfl
 have z4:=he 4 (by omega) _ rfl
 have z5:=he 5 (by omega) _ rfl
 simp only [Nat.add_zero] at z0
 have HZ5:=qh z5
 have zcB:=qh hmay
 have jM:=qh hset
 have HMW:=qh hmw
 have HWW:=qh hww
 have HW:=qh hW
 have HA:=qh (zK w (.cells #[.int .i64 (v:Int), .int .i64 en, .bool er, .bool ew, .bool ef, .bool ec] 61))
 have zP:=qh (zT w (.cells #[.int .i64 (v:Int), .int .i64 en, .bool er, .bool ew, .bool ef, .bool ec] 61))
 have hiI:(i:Int)<4:=by omega
 have hkI:(k:Int)<8:=by omega
 have hk0:(0:Int)<=(k:Int):=by omega
 clear he hmay hset hmw hww hW hm hev
 go_enter Tryz.func46,Tryz.ntmps46
 go_upto_region 3 with fail
 generalize World.alloc w _=X at HA zP ⊢
 have bU:Hid (w.heap.size≠g):=by have:=zB HW.out.blk;show w.heap.size≠g;omega
 generalize w.heap.size=ge at zP bU ⊢
 have e0:=za zP.out 0
 have e1:=za zP.out 1
 have e2:=za zP.out 2
 have e3:=za zP.out 3
 have e4:=za zP.out 4
 have e5:=za zP.out 5
 clear z0 z1 z2 z3 z4 z5
 cases ec with
 |true=>
  have wF:=qh (HMW.out.trans (by rfl:_=false))
  have zS:=qh (HW.out.later HA.out)
  have bT:Hid (yR g w X):=zH _ HA.out
  go_wp2_with fail
  go_ret
  exact qW.no wF.out zS.out bT.out
 |false=>
 cases mq with
 |false=>
  have wF:=qh (HMW.out.trans (by rfl:_=false))
  go_wp2_with(go_at_call 68;go_must(refine(zcB.out X HA.out).mono ?_);rintro e' Y ⟨rfl,hb⟩;(have HY:=qh (zm HA.out hb));clear hb e0 e1 e2 e3 e4 e5)
  go_ret
  exact qW.no wF.out (HW.out.later HY.out) (zH _ HY.out)
 |true=>
 have zeb:=qh (HMW.out.trans (by rfl:_=true))
 go_upto_region 5 with(go_at_call 68;go_must(refine(zcB.out X HA.out).mono ?_);rintro e' Y ⟨rfl,hb⟩;(have HXY:=qh hb);clear hb e0 e1 e2 e3 e4 e5)
 have HY:=qh (zm HA.out HXY.out)
 have hwy:=HW.out.later HY.out
 have HWY:=qh hwy
 have q0:=zi HY.out _ _ HZ5.out
 have q1:=hwy.free (i*54+5+k*6+5)
 have HNY:=qh ((HXY.out.block _ (zB zP.out)).trans zP.out)
 clear hwy
 go_upto_region 6 with fail
 have hw2:=jM.out Y HWY.out
 have hs2:Since (λk=>k=g) Y (Y.setCell ⟨g,i*54+5+k*6+5,none⟩ (.bool true)):=Since.setCell (F:=λk=>k=g) (p:=⟨g,i*54+5+k*6+5,none⟩) (Since.refl _ Y) (.inl rfl) _
 generalize World.setCell Y _ _=Z at hw2 hs2 ⊢
 have HW2:=qh hw2
 have HNZ:=qh ((hs2.block _ (zB HNY.out) bU.out).trans HNY.out)
 have HS2:Hid (yR g w Z):=Since.trans (zH _ HY.out) hs2 (λ_ h=> .inl h)
 clear hw2 hs2 q0 q1
 have e0:=za HNZ.out 0
 have e1:=za HNZ.out 1
 have e3:=za HNZ.out 3
 cases ew with
 |false=>
  have HV:=qh (HWW.out.trans (by rfl:_=W1))
  go_wp2_with fail
  go_ret
  exact qW.yes zeb.out HV.out HW2.out HS2.out
 |true=>
 have HV:=qh (HWW.out.trans (by rfl:_=W1.ql v en))
 have CC:Hid (∀x,Below Z.heap.size Z x->x.cell? ⟨ge,0,none⟩=some (.int .i64 (v:Int))/\x.cell? ⟨ge,1,none⟩=some (.int .i64 en)):=λx hx=>⟨zi hx _ _ (za HNZ.out 0),zi hx _ _ (za HNZ.out 1)⟩
 go_upto_region 7 with fail
 clear e0 e1 e3
 refine wp_region_noPanic ?_
 refine xD (n0:=8) (S:=λx=>Below Z.heap.size Z x) (by kernel_rfl) ((Below.refl _ _).drew) (λhA7=> ?_)
 refine yC 0 (λ_=>hA7) ?_
 refine yC 1 (λ_=>hA7) ?_
 refine wZ [7,8] 2 CC.out hA7 ?_
 refine yC 3 (λ_=>hA7) ?_
 refine wZ [7,8] 4 CC.out hA7 ?_
 refine yC 5 (λ_=>hA7) ?_
 refine yC 6 (λ_=>hA7) ?_
 refine yC 7 (λ_=>hA7) ?_
 refine gy 8 rfl (λK hK=> ?_)
 have gD:=HW2.out.later hA7
 have p0:=gD.mem hv4
 have p1:=gD.free (216+v)
 clear gD
 go_simp
 refine hK.out _ _ (λh=>absurd rfl h) ?_
 clear hK K
 refine qI (by kernel_rfl) ?_ _
 refine NoPanic.normal ?_
 clear p0 p1
 have hw3:=(HW2.out.later (Below.refl _ _).drew).ql hv4 en
 have HW3:=qh hw3
 have HS3:Hid (yR g w (Z.drew.setCell ⟨g,216+v,none⟩ (.int .i64 en))):=Since.setCell (p:=⟨g,216+v,none⟩) (Since.drew _ HS2.out) (.inl rfl) _
 clear hw3
 go_wp2_with fail
 go_ret
 exact qW.yes zeb.out HV.out HW3.out HS3.out
