/- Steps. -/
import Derived.Deep.RegionLaw
import Derived.LoopIn
import Derived.LoopNIn
import Derived.OwnWalkIn
import Derived.RangeFuncBound
import Derived.RangeFuncNested
import Derived.Shelf.RegionOpen
import Derived.Test.YtnhahkiojbanfaaGreatDoorRqOwnP
set_option linter.all false
namespace Go.Proofs.YtnhahkiojbanfaaGreatDoor
open Go.RowKit
set_option maxRecDepth 100000
set_option maxHeartbeats 16000000
theorem zit (w:World) (a:Option Addr) (n c:Nat) (hn:n<=c):Calls Tryz.prog 169 #[.slice a n c] w λe w'=>e= .returned (.slice a n n)/\w'=w:=by
 have h1:¬((n:Int)<0):=by omega
 cases a with
 |none=>
  go_enter Tryz.func169,Tryz.ntmps169
  go_wp2_with fail
  go_ret
  exact⟨by first|rfl|simp,rfl⟩
 |some a=>
 obtain⟨ab,ao,asp⟩:=a
 go_enter Tryz.func169,Tryz.ntmps169
 go_wp2_with fail
 go_ret
 exact⟨by first|rfl|simp,rfl⟩
theorem zfs {a b c:World} (h:Below a.heap.size a b) (k:Since (λ_=>False) b c):Below a.heap.size a c:=h.trans (k.below h.size (λ_ hk=>hk.elim))
theorem ji (w:World) (o:Obj):Below w.heap.size w (w.drew.alloc o):=(Below.refl _ _).drew.alloc (Nat.le_refl _) o
theorem zp4 (w:World) (bv:Value) (l:List zl) (h:yu w bv l) (hl:l.length<=1000000) (m:zu) (x:zl):
  Calls Tryz.prog 157 #[bv,vZ m,x.val] w λe w'=>(∃bW,e= .returned (.tuple #[bW, .bool (qQ l m x)])/\yu w' bW (wP l m x)/\(qQ l m x=true->w'.ownsRow w.heap.size 110 2 bW (wP l m x).length (zq zl.cells (wP l m x))))/\Below w.heap.size w w':=by
 obtain⟨ba,bc,rfl, -⟩:=zh.slice h
 obtain⟨n,hn⟩:∃n,n=l.length:=⟨_,rfl⟩
 obtain⟨mm,mb⟩:=m
 obtain⟨xv,xn⟩:=x
 obtain⟨p,hp⟩:∃p:zl->Bool,p=(λy=>decide (mm=1)||decide (y.var=xv)):=⟨_,rfl⟩
 obtain⟨ok,hok⟩:∃ok,ok=qQ l ⟨mm,mb⟩ ⟨xv,xn⟩:=⟨_,rfl⟩
 have hok2:ok=((decide (mm=1)||decide (mm=2)) && decide ((l.countP p:Int)<mb)):=by rw [hok,hp];rfl
 have hpb:wP l ⟨mm,mb⟩ ⟨xv,xn⟩=if ok then l++ [⟨xv,xn⟩] else l:=by rw [hok];rfl
 rw [<-hok,hpb]
 rw [<-hn] at h hl ⊢
 have hroom:=h.room
 rw [<-hn] at hroom
 have zvR:=qh hroom
 have vK:=qh hok2
 have HP:=qh hp
 have HN:=qh hn
 clear hok hok2 hpb hp hn hroom
 have hb0:=xQ w (.cells #[.int .i64 mm, .int .i64 mb] 29) (.cells #[.int .i64 xv, .int .i64 xn] 110)
 have HB:=qh hb0
 have HM:=qh (xR w (.cells #[.int .i64 mm, .int .i64 mb] 29) (.cells #[.int .i64 xv, .int .i64 xn] 110))
 have HX:=qh (yT w (.cells #[.int .i64 mm, .int .i64 mb] 29) (.cells #[.int .i64 xv, .int .i64 xn] 110))
 have HL:=qh (yu.below h hb0)
 clear h hb0
 unfold vZ zl.val
 simp only []
 go_enter Tryz.func157,Tryz.ntmps157
 go_upto_region 1 with fail
 generalize World.alloc (World.alloc w _) _=W at HB HM HX HL ⊢
 obtain⟨gx,hgx⟩:∃gx,gx=w.heap.size:=⟨_,rfl⟩
 rw [<-hgx] at HM HX ⊢
 clear hgx
 have HC:Hid (∀x,Below W.heap.size W x->x.cell? ⟨gx,0,none⟩=some (.int .i64 mm)/\x.cell? ⟨gx,1,none⟩=some (.int .i64 mb)/\x.cell? ⟨gx+1,0,none⟩=some (.int .i64 xv)/\x.cell? ⟨gx+1,1,none⟩=some (.int .i64 xn)):=λx hx=>
  ⟨zk hx _ _ (ze HM.out 0),zk hx _ _ (ze HM.out 1),zk hx _ _ (ze HX.out 0),zk hx _ _ (ze HX.out 1)⟩
 clear HM HX
 go_wp2_with fail
 go_loopg [8,10,13] n (λgg s8 s10 s13 wr=>∃i c:Nat,i<=n/\Hid (gg=n - i)/\s8= .int .i64 c/\s13= .int .i64 i/\Hid (c=(l.take i).countP p)/\c<=i/\Hid (Below W.heap.size W wr))
 case atStart=>exact⟨0,0,Nat.zero_le _,rfl,rfl,rfl,by simp [Hid],Nat.le_refl _,Below.refl _ _⟩
 case round=>
 obtain⟨i,c,hi,HG,rfl,rfl,HCN,hci,zT⟩:=hrel
 by_cases hlt:i<n
 ·have vY:(i:Int)<(n:Int):=by omega
  obtain⟨eb,eo,zZ, -,he1,he2⟩:=HL.out.part i (by rw [<-HN.out];exact hlt)
  subst zZ
  obtain⟨ev,hev⟩:∃ev,ev=(l.getD i default).var:=⟨_,rfl⟩
  obtain⟨en,hen⟩:∃en,en=(l.getD i default).n:=⟨_,rfl⟩
  rw [<-hev] at he1
  rw [<-hen] at he2
  have e1:=zk zT.out _ _ he1
  have e2:=zk zT.out _ _ he2
  have hst:=zl2 (l:=l) (i:=i) (by rw [<-HN.out];exact hlt) p
  rw [<-HCN.out] at hst
  have HST:=qh hst
  have HPI:Hid (p (l.getD i default)=(decide (mm=1)||decide (ev=xv))):=by rw [Hid,HP.out,hev]
  have HA:=qh ((Below.refl wr.heap.size wr).alloc (Nat.le_refl _) (.cells #[.int .i64 ev, .int .i64 en] 110))
  have HY:=qh (zS wr (.cells #[.int .i64 ev, .int .i64 en] 110))
  clear he1 he2 hev hen hst
  go_upto_region 5 with fail
  generalize World.alloc wr _=X at HA HY ⊢
  obtain⟨gl,hgl⟩:∃g,g=wr.heap.size:=⟨_,rfl⟩
  rw [<-hgl] at HY ⊢
  clear hgl e1 e2
  have xM:Hid (Below W.heap.size W X):=zT.out.trans (HA.out.mono zT.out.size)
  have d0:X.cell? ⟨gl,0,none⟩=some (.int .i64 ev):=ze HY.out 0
  obtain⟨c0,c1,c2,c3⟩:=HC.out X xM.out
  clear HY HA
  by_cases a1:mm=1
  ·have a1b:((mm:Int)==1)=true:=by simp [a1]
   have zbH:Hid (c+1=(l.take (i+1)).countP p):=by rw [Hid,HST.out,HPI.out,a1];simp
   have A1:=qh a1
   clear a1
   go_wp2_with fail
   go_roundg (n - (i+1))
   case measure=>rw [HG.out];omega
   case rel=>exact⟨i+1,c+1,by omega,rfl,by simp,by simp,zbH.out,by omega,xM.out⟩
  have a1b:((mm:Int)==1)=false:=by simp [a1]
  have A1:=qh a1
  clear a1
  by_cases a2:ev=xv
  ·have a2b:((ev:Int)==xv)=true:=by simp [a2]
   have zbH:Hid (c+1=(l.take (i+1)).countP p):=by rw [Hid,HST.out,HPI.out,a2];simp
   clear a2
   go_wp2_with fail
   go_roundg (n - (i+1))
   case measure=>rw [HG.out];omega
   case rel=>exact⟨i+1,c+1,by omega,rfl,by simp,by simp,zbH.out,by omega,xM.out⟩
  have a2b:((ev:Int)==xv)=false:=by simp [a2]
  have A2:=qh a2
  have zbH:Hid (c=(l.take (i+1)).countP p):=by rw [Hid,HST.out,HPI.out];simp [A1.out,A2.out]
  clear a2
  go_wp2_with fail
  go_roundg (n - (i+1))
  case measure=>rw [HG.out];omega
  case rel=>exact⟨i+1,c,by omega,rfl,rfl,by simp,zbH.out,by omega,xM.out⟩
 obtain rfl:n=i:=by omega
 obtain⟨c0,c1,c2,c3⟩:=HC.out wr zT.out
 have hcn:c=l.countP p:=by rw [HCN.out,HN.out,List.take_length]
 have jE:=qh hcn
 have HLR:=qh (yu.below HL.out zT.out)
 have HWR:=qh (HB.out.trans (zT.out.mono HB.out.size))
 clear hcn HP HCN
 by_cases a2:(c:Int)<mb
 rotate_left
 ·obtain rfl:ok=false:=by
   rw [vK.out, <-jE.out];simp [a2]
  clear vK jE
  go_wp2_with fail
  go_ret2
  exact⟨⟨_,by first|rfl|simp,by simpa using HLR.out⟩,HWR.out⟩
 have a2n:¬mb<=(c:Int):=by omega
 by_cases a1:mm=1\/mm=2
 rotate_left
 ·obtain rfl:ok=false:=by
   rw [vK.out]
   have b1:decide (mm=1)=false:=decide_eq_false (λe=>a1 (.inl e))
   have b2:decide (mm=2)=false:=decide_eq_false (λe=>a1 (.inr e))
   rw [b1,b2];rfl
  have b1:((mm:Int)==1)=false:=by rw [beq_eq_false_iff_ne];exact λe=>a1 (.inl e)
  have b2:((mm:Int)==2)=false:=by rw [beq_eq_false_iff_ne];exact λe=>a1 (.inr e)
  have b3:((mm:Int) !=1)=true:=by rw [bne_iff_ne];exact λe=>a1 (.inl e)
  have b4:((mm:Int) !=2)=true:=by rw [bne_iff_ne];exact λe=>a1 (.inr e)
  clear vK jE a1
  go_wp2_with fail
  go_ret2
  exact⟨⟨_,by first|rfl|simp,by simpa using HLR.out⟩,HWR.out⟩
 obtain rfl:ok=true:=by rw [vK.out, <-jE.out];rcases a1 with a1|a1<;>simp [a1,a2]
 have zl3:Hid (∀X,Below wr.heap.size wr X->SrcOf X (.slice ba n n) n 2 (zq zl.cells l)):=λX hX=>by
  have:=SrcOf.of_slice (R:=ug) (by decide) bM (λ_ _ _ h=>h) (yu.below HLR.out hX)
  rw [<-HN.out] at this
  obtain⟨a',c',h1,h2,h3,h4⟩:=this
  cases h1
  exact⟨ba,n,rfl,h2,h3,h4⟩
 have zL:Hid (∀a' cap' X,X.ownsRow (wr.drew.alloc (.cells #[.int .i64 xv, .int .i64 xn] 110)).heap.size 110 2 (.slice a' (n+1) cap') (n+1) (zq zl.cells l++ [.int .i64 xv, .int .i64 xn])->yu X (.slice a' (n+1) cap') (l++ [⟨xv,xn⟩])/\X.ownsRow w.heap.size 110 2 (.slice a' (n+1) cap') (l++ [(⟨xv,xn⟩:zl)]).length (zq zl.cells (l++ [⟨xv,xn⟩]))):=λa' cap' X hX=>by
  have e1:(l++ [(⟨xv,xn⟩:zl)]).length=n+1:=by rw [List.length_append, <-HN.out];rfl
  have e2:zq zl.cells (l++ [⟨xv,xn⟩])=zq zl.cells l++ [.int .i64 xv, .int .i64 xn] :=by rw [kL];rfl
  have h3:X.ownsRow (wr.drew.alloc (.cells #[.int .i64 xv, .int .i64 xn] 110)).heap.size 110 2 (.slice a' (n+1) cap') (l++ [(⟨xv,xn⟩:zl)]).length (zq zl.cells (l++ [⟨xv,xn⟩])):=by rw [e1,e2];exact hX
  exact⟨zhw h3,kK h3 (HWR.out.trans ((ji wr _).mono HWR.out.size)).size⟩
 have k1:=zvR.out.1
 clear vK jE HLR HC HL zT HB
 rcases a1 with rfl|rfl
 ·go_upto_region 10 with fail
  go_region_law (first|(refine pq _ (by rfl) (.tmp 46) (.tmp 48) 78 rfl 110 (.agg #[.int .i64 0, .int .i64 0]) 2 16 Tryz.underlying78 uJ rfl (by decide) ba n (zq zl.cells l) rfl (zl3.out _ (ji _ _)) ⟨wr.heap.size,0,none⟩ 1 1 [.int .i64 xv, .int .i64 xn] rfl rfl (zko wr.drew _ _ _) (by simp [Value.oneCell']) (by decide) (by unfold maxLen;omega) (by omega) ?_;intro ra rc X f1 f2 f3 f4;have HF1:=qh f1;have HF4:=qh f4;clear f1 f2 f3 f4)|(go_simp;go_at_call 169;refine(zit _ ba n bc k1).mono ?_;rintro e w2 ⟨rfl,rfl⟩))
  all_goals
   have HBF:Hid (Below w.heap.size w X):=HWR.out.trans ((zfs (ji wr _) HF4.out).mono HWR.out.size)
   go_wp2_with fail
   go_ret2
   have HE:=zL.out _ _ _ HF1.out
   exact⟨⟨_,by first|rfl|simp,by simpa using HE.1,by simpa using HE.2⟩,HBF.out⟩
 go_upto_region 10 with fail
 go_region_law (first|(refine pq _ (by rfl) (.tmp 46) (.tmp 48) 78 rfl 110 (.agg #[.int .i64 0, .int .i64 0]) 2 16 Tryz.underlying78 uJ rfl (by decide) ba n (zq zl.cells l) rfl (zl3.out _ (ji _ _)) ⟨wr.heap.size,0,none⟩ 1 1 [.int .i64 xv, .int .i64 xn] rfl rfl (zko wr.drew _ _ _) (by simp [Value.oneCell']) (by decide) (by unfold maxLen;omega) (by omega) ?_;intro ra rc X f1 f2 f3 f4;have HF1:=qh f1;have HF4:=qh f4;clear f1 f2 f3 f4)|(go_simp;go_at_call 169;refine(zit _ ba n bc k1).mono ?_;rintro e w2 ⟨rfl,rfl⟩))
 all_goals
  have HBF:Hid (Below w.heap.size w X):=HWR.out.trans ((zfs (ji wr _) HF4.out).mono HWR.out.size)
  go_wp2_with fail
  go_ret2
  have HE:=zL.out _ _ _ HF1.out
  exact⟨⟨_,by first|rfl|simp,by simpa using HE.1,by simpa using HE.2⟩,HBF.out⟩
end Go.Proofs.YtnhahkiojbanfaaGreatDoor
namespace Go.Proofs.YtnhahkiojbanfaaGreatDoor
open Go.RowKit Go.Shelf
set_option maxRecDepth 100000
set_option maxHeartbeats 16000000
attribute [local go_sem] Oper.semAt_some
def upTo {α:Type} (f:Nat->α) (k:Nat):List α:=(List.range k).map f
theorem zaF {α:Type} (f:Nat->α) (k:Nat):upTo f (k+1)=upTo f k++ [f k] :=by simp [upTo,List.range_succ]
theorem zjz {α:Type} (f:Nat->α) (k:Nat):(upTo f k).length=k:=by simp [upTo]
def j4 (l:List zl) (k:Nat):Int × zl:=((l.length:Int) - 1 - (k:Int),l.getD (l.length - 1 - k) default)
theorem zp5 (n l Bs n0 len cap:Nat) (a:Option Addr) (L:List zl) (hlen:len=L.length) (znv:len<=1000000) (hn:1<=n) (J Jx:List (Int × zl)->World->Prop)
  (hY:∀pre x W,J pre W->pre.length<len->YieldAt Fence.wide (n - 1) Tryz.prog l #[.int .i64 x.1, .agg #[.int .i64 x.2.var, .int .i64 x.2.n]] W λe W'=>
   (e= .returned (.bool true)/\J (pre++ [x]) W'/\Below n0 W W')\/(e= .returned (.bool false)/\Jx (pre++ [x]) W'))
  (W:World) (hBs:W.cell? ⟨Bs,0,none⟩=some (.slice a len cap)) (hBl:Bs<n0) (hc:∀j,j<len->∃b off,a=some ⟨b,off,none⟩/\b<n0/\W.cell? ⟨b,off+j*2,none⟩=some (.int .i64 (L.getD j default).var)/\W.cell? ⟨b,off+j*2+1,none⟩=some (.int .i64 (L.getD j default).n)) (h0:J [] W):
  CallsIn Fence.wide n Tryz.prog 173 #[.func (.yield l) #[] #[], .pointer (some ⟨Bs,0,none⟩)] W λe W'=>(∃v,e= .returned v)/\
   ((∃ys,ys=upTo (j4 L) len/\J ys W')\/(∃pre,(∃k,k<=len/\pre=upTo (j4 L) k)/\Jx pre W')):=by
 refine callsIn_of_wp Tryz.func173 rfl trivial ?_ rfl
 simp only [Tryz.ntmps173,List.size_toArray,List.length_cons,List.length_nil,Nat.reduceAdd,Nat.reduceSub,Array.replicate_succ,Array.replicate_zero,List.push_toArray,List.append_toArray,List.nil_append,List.cons_append]
 have HLE:=qh hlen
 clear hlen
 gi_wp2
 gi_loopw [3] (λi wr=>∃k:Nat,k<=len/\i= .int .i64 ((len:Int) - 1 - k)/\J (upTo (j4 L) k) wr/\Below n0 W wr)
  (λi _=>(intOf i+1).toNat)
 case atStart=>exact⟨0,Nat.zero_le _,by simp,h0,Below.refl _ _⟩
 case round=>
 obtain⟨k,hk,rfl,hJs,hnx⟩:=hrel
 by_cases hlt:k<len
 rotate_left
 ·obtain rfl:len=k:=by omega
  have hz:(len:Int) - 1 - (len:Int)= -1:=by omega
  rw [hz]
  clear hz
  gi_wp2
  go_end0
  exact⟨⟨_,rfl⟩, .inl ⟨_,rfl,hJs⟩⟩
 obtain⟨q,hq⟩:∃q:Nat,q=len - 1 - k:=⟨_,rfl⟩
 have hqi:(len:Int) - 1 - (k:Int)=(q:Int):=by omega
 have hql:q<len:=by omega
 obtain⟨b,off,rfl,hb,f0,f1⟩:=hc q hql
 have e0:=(hnx.cell (p:=⟨b,off+q*2,none⟩) hb).trans f0
 have e1:=(hnx.cell (p:=⟨b,off+q*2+1,none⟩) hb).trans f1
 clear f0 f1
 have eb:=(hnx.cell (p:=⟨Bs,0,none⟩) hBl).trans hBs
 obtain⟨fn,tmps,assign,body,hy,hR⟩:=hY _ (j4 L k) wr hJs (by rw [zjz];exact hlt)
 have hbk:j4 L k=((q:Int),L.getD q default):=by unfold j4;rw [<-HLE.out,hqi, <-hq]
 rw [hbk] at hy
 dsimp only at hy
 obtain⟨ev,hev⟩:∃ev,ev=(L.getD q default).var:=⟨_,rfl⟩
 obtain⟨en,hen⟩:∃en,en=(L.getD q default).n:=⟨_,rfl⟩
 rw [<-hev] at e0 hy
 rw [<-hen] at e1 hy
 clear hev hen
 rw [hqi]
 have hlI:(q:Int)<(len:Int):=by omega
 have HW1:=qh (show wrap64 ((q:Int) - 1)=(q:Int) - 1 by unfold wrap64;omega)
 have HQI:=qh hqi
 clear hq hqi hbk
 gi_wp2
 refine hR.mono ?_
 rintro e W3 (⟨rfl,hJ3,hk3⟩|⟨rfl,hJx3⟩)
 ·gi_wp2
  go_roundw
  case rel=>exact⟨k+1,by omega,by have:=HQI.out;have:=HW1.out;simp<;>omega,by rw [zaF];exact hJ3,hnx.trans hk3⟩
  case measure=>have:=HQI.out;have:=HW1.out;simp [intOf] <;>omega
 gi_wp2
 refine bodyPost_ret (results_none rfl _ _ _) rfl ?_
 exact⟨⟨_,rfl⟩, .inr ⟨_,⟨k+1,by omega,(zaF _ _).symm⟩,hJx3⟩⟩
theorem zl4 (n Bs n0:Nat) (a:Option Addr) (cap:Nat) (L:List zl) (znv:L.length<=1000000) (hn:1<=n) (w:World) (hBs:Bs<w.heap.size) (hBl:Bs<n0) (hn0:n0<=w.heap.size) (hc:w.cell? ⟨Bs,0,none⟩=some (.slice a L.length cap))
  (hI:∀j,j<L.length->∃b off,a=some ⟨b,off,none⟩/\b<n0/\w.cell? ⟨b,off+j*2,none⟩=some (.int .i64 (L.getD j default).var)/\w.cell? ⟨b,off+j*2+1,none⟩=some (.int .i64 (L.getD j default).n)):
  SeqStopsK Fence.wide n Tryz.prog 173 #[.pointer (some ⟨Bs,0,none⟩)] (λx:Int × zl=> #[Value.int .i64 x.1,Value.agg #[Value.int .i64 x.2.var,Value.int .i64 x.2.n]]) (Below n0) (λys=>ys=upTo (j4 L) L.length)
   (λpre=>∃k,k<=L.length/\pre=upTo (j4 L) k) L.length w:=λl J Jx W hW _ _ hY h0=>
 zp5 n l Bs n0 L.length cap a L rfl znv hn J Jx hY W ((hW.cell (p:=⟨Bs,0,none⟩) hBs).trans hc) hBl (λj hj=>by
  obtain⟨b,off,e,hb,f0,f1⟩:=hI j hj
  exact⟨b,off,e,hb,(hW.cell (p:=⟨b,off+j*2,none⟩) (Nat.lt_of_lt_of_le hb hn0)).trans f0,(hW.cell (p:=⟨b,off+j*2+1,none⟩) (Nat.lt_of_lt_of_le hb hn0)).trans f1⟩) h0
theorem zsq (n:Nat) (a:Option Addr) (len cap:Nat) (w:World):
  CallsIn Fence.wide n Tryz.prog 167 #[.slice a len cap] w λe w'=>e= .returned (.func (.func 173) #[] #[.pointer (some ⟨w.heap.size,0,none⟩)])/\w'=w.alloc (.cells #[.slice a len cap] 78):=by
 refine callsIn_of_wp Tryz.func167 rfl trivial ?_ rfl
 simp only [Tryz.ntmps167,List.size_toArray,List.length_cons,List.length_nil,Nat.reduceAdd,Nat.reduceSub,Array.replicate_succ,Array.replicate_zero,List.push_toArray,List.append_toArray,List.nil_append,List.cons_append]
 gi_wp2
 go_ret
 exact⟨rfl,rfl⟩
theorem ziu (l:List zl) (v:Int):∀k,k<=l.length->(∀p∈upTo (j4 l) k,p.2.var≠v)->wI l v=gB l v (l.length - k):=by
 intro k
 induction k with
 |zero=>intro _ _;rfl
 |succ k ih=>
 intro hk h
 rw [zaF] at h
 rw [ih (by omega) (λp hp=>h p (List.mem_append.2 (.inl hp)))]
 have hne:=h (j4 l k) (List.mem_append.2 (.inr (by simp)))
 obtain⟨q,hq⟩:∃q,l.length - k=q+1:=⟨l.length - k - 1,by omega⟩
 have hq2:l.length - (k+1)=q:=by omega
 have hq3:l.length - 1 - k=q:=by omega
 rw [hq,hq2]
 unfold j4 at hne
 rw [hq3] at hne
 rw [show gB l v (q+1)=if (l.getD q default).var=v then some (l.getD q default).n else gB l v q from rfl,if_neg hne]
theorem zp6 (l:List zl) (v:Int) (k:Nat) (hk:k<l.length) (h:∀p∈upTo (j4 l) k,p.2.var≠v) (hv:(j4 l k).2.var=v):wI l v=some (j4 l k).2.n:=by
 rw [ziu l v k (by omega) h]
 obtain⟨q,hq⟩:∃q,l.length - k=q+1:=⟨l.length - k - 1,by omega⟩
 have hq3:l.length - 1 - k=q:=by omega
 rw [hq]
 unfold j4 at hv ⊢
 rw [hq3] at hv ⊢
 rw [show gB l v (q+1)=if (l.getD q default).var=v then some (l.getD q default).n else gB l v q from rfl,if_pos hv]
theorem znw (w:World) (bv:Value) (l:List zl) (h:yu w bv l) (hl:l.length<=1000000) (v:Int):
  Calls Tryz.prog 155 #[bv, .int .i64 v] w λe w'=>e= .returned (.tuple #[.int .i64 ((wI l v).getD 0), .bool (wI l v).isSome])/\Below w.heap.size w w':=by
 obtain⟨ba,bc,rfl, -⟩:=zh.slice h
 have hI:∀j,j<l.length->∃b off,ba=some ⟨b,off,none⟩/\b<w.heap.size/\w.cell? ⟨b,off+j*2,none⟩=some (.int .i64 (l.getD j default).var)/\w.cell? ⟨b,off+j*2+1,none⟩=some (.int .i64 (l.getD j default).n):=λj hj=>h.part j hj
 refine(callsIn_wide (n:=8)).1 ?_
 refine callsIn_of_wp_marks Tryz.func155 rfl trivial ?_ rfl
 simp only [Tryz.ntmps155,List.size_toArray,List.length_cons,List.length_nil,Nat.reduceAdd,Nat.reduceSub,Array.replicate_succ,Array.replicate_zero,List.push_toArray,List.append_toArray,List.nil_append,List.cons_append]
 have hB:=zcG w (.cells #[.int .i64 v] 3) (.cells #[.int .i64 0] 3) (.cells #[.bool false] 4) (.cells #[.slice ba l.length bc] 78)
 obtain⟨hB0,b0,b1,b2,b3,hsz⟩:=hB
 gi_wp2_with (refine⟨trivial, ?_⟩;gi_at_call 167;refine(zsq (8 - 1) _ _ _ _).mono ?_;rintro e w' ⟨rfl,rfl⟩)
 obtain⟨W0,hW0⟩:∃W0,(((w.alloc (.cells #[.int .i64 v] 3)).alloc (.cells #[.int .i64 0] 3)).alloc (.cells #[.bool false] 4)).alloc (.cells #[.slice ba l.length bc] 78)=W0:=⟨_,rfl⟩
 rw [hW0] at hB0 b0 b1 b2 b3 hsz ⊢
 clear hW0
 refine wpIn_rangeFunc_ownH rfl (by decide) (gf:=173) (lb:= #[.pointer (some ⟨w.heap.size+1+1+1,0,none⟩)]) rfl trivial (enters_of Tryz.func173 (by kernel_rfl) rfl)
  (zl4 (8 - 1) (w.heap.size+3) (w.heap.size+4) ba bc l hl (by decide) W0 (by omega) (by omega) (by omega) (ze b3 0) (λj hj=>by
   obtain⟨b,off,e,hb,f0,f1⟩:=hI j hj
   exact⟨b,off,e,by omega,zk hB0 _ _ f0,zk hB0 _ _ f1⟩)) belowK_t (belowK_b (by omega)) (Below.refl _ _) (λ_=>rfl)
  (λpre W=>((∀p∈pre,p.2.var≠v)/\Boxed W w.heap.size 3 (.int .i64 v)/\Boxed W (w.heap.size+1) 3 (.int .i64 0)/\Boxed W (w.heap.size+2) 4 (.bool false))/\Below (w.heap.size+4) W0 W)
  (λc pre W=>(c= .ret/\∃ini last,pre=ini++ [last] /\(∀p∈ini,p.2.var≠v)/\last.2.var=v/\Boxed W (w.heap.size+1) 3 (.int .i64 last.2.n)/\Boxed W (w.heap.size+2) 4 (.bool true))/\Below w.heap.size w W)
  (OwnFrom.and (λs X Y row hs hg hr=>⟨hs.1,boxed_own _ _ (λ(_:Unit)=>Value.int .i64 v) () X Y row hs.2.1 hg (λr e=>(hr r e).2),boxed_own _ _ (λ(_:Unit)=>Value.int .i64 0) () X Y row hs.2.2.1 hg (λr e=>(hr r e).2),boxed_own _ _ (λ(_:Unit)=>Value.bool false) () X Y row hs.2.2.2 hg (λr e=>(hr r e).2)⟩) (ownFrom_below (by omega) (by omega)))
  (λc=>OwnFrom.and (λs X Y row hs hg hr=>by
   obtain⟨hc,ini,last,e1,e2,e3,e4,e5⟩:=hs
   exact⟨hc,ini,last,e1,e2,e3,boxed_own _ _ (λ(_:Unit)=>Value.int .i64 last.2.n) () X Y row e4 hg (λr e=>(hr r e).2),boxed_own _ _ (λ(_:Unit)=>Value.bool true) () X Y row e5 hg (λr e=>(hr r e).2)⟩) (ownFrom_below (Nat.le_refl _) (by omega)))
  ⟨⟨by simp,b0,b1,b2⟩,(Below.refl _ _)⟩
  (λx a' W=>∃Bx,w.heap.size+3<Bx/\W.heap[Bx]? =some (.cells #[.int .i64 x.2.var, .int .i64 x.2.n] 110 (0,0))/\a'= { tmps:= #[.slice ba l.length bc, .int .i64 v,undef, .pointer (some ⟨w.heap.size,0,none⟩), .pointer (some ⟨w.heap.size+1,0,none⟩), .pointer (some ⟨w.heap.size+1+1,0,none⟩),undef, .pointer (some ⟨Bx,0,none⟩), .slice ba l.length bc, .func (.func 173) #[] #[.pointer (some ⟨w.heap.size+1+1+1,0,none⟩)], .int .i64 x.1, .agg #[.int .i64 x.2.var, .int .i64 x.2.n],undef,undef,undef,undef,undef,undef],defers:= [] })
  (λx a' _ X Y row hs hg hr=>by
   obtain⟨Bx,h1,h2,h3⟩:=hs
   refine⟨Bx,h1, ?_,h3⟩
   refine(hg.block Bx (zy h2) (λe=> ?_)).trans h2
   obtain⟨o,ho,hc⟩:=(hr Bx e.symm).2
   rw [h2] at ho;cases ho;cases hc)
  ?assign ?body ?done ?stop
 case assign=>
  rintro l2 pre x W K ⟨⟨hp,x1,x2,x3⟩,hB1⟩ hK
  gi_wp2
  exact hK _ _ ((KeepsOthers.alloc _ _).from _) ((Below.refl _ W).alloc (by have:=hB1.size;omega) _) ⟨⟨hp,x1.alloc _,x2.alloc _,x3.alloc _⟩,hB1.alloc (by have:=hB1.size;omega) _⟩ ⟨W.heap.size,by have:=x3.lt;have:=hB1.size;omega,zS W _,rfl⟩
 case body=>
  rintro l2 pre x a' W hl2 - ⟨⟨hp,x1,x2,x3⟩,hB1⟩ ⟨Bx,hBx,bX,rfl⟩ hlt
  have d0:W.cell? ⟨Bx,0,none⟩=some (.int .i64 x.2.var):=ze bX 0
  have d1:W.cell? ⟨Bx,1,none⟩=some (.int .i64 x.2.n):=ze bX 1
  have c1:=x1.cell
  have c2:=x2.cell
  have c3:=x3.cell
  have f2:=x2.frozen
  have f3:=x3.frozen
  gi_wp2
  ·have hx:(x.2.var==v)=true:=by assumption
   have hx2:x.2.var=v:=by simpa using hx
   refine⟨((KeepsOthers.setCell _ _ _).trans (KeepsOthers.setCell _ _ _)).from _,⟨rfl,pre,x,rfl,hp,hx2,(x2.set _).other (by omega) _,(x3.other (by omega) _).set _⟩, ?_⟩
   exact((hB0.trans (hB1.mono (by omega))).setCell (p:=⟨w.heap.size+1,0,none⟩) (by simp) _).setCell (p:=⟨w.heap.size+2,0,none⟩) (by simp) _
  have hx:(x.2.var==v)=false:=by assumption
  have hx2:x.2.var≠v:=by simpa using hx
  exact⟨KeepsFrom.refl _ _,Below.refl _ _,⟨λp hp'=>(List.mem_append.1 hp').elim (hp p) (λe=>by simp at e;subst e;exact hx2),x1,x2,x3⟩,hB1⟩
 case done=>
  rintro D ys W hD rfl ⟨⟨hp,x1,x2,x3⟩,hB1⟩ hK
  have c2:=x2.cell
  have c3:=x3.cell
  have f2:=x2.frozen
  have f3:=x3.frozen
  have hn:wI l v=none:=by rw [ziu l v l.length (Nat.le_refl _) hp,Nat.sub_self];rfl
  have HN:=qh hn
  clear hn
  gi_wp2
  have y2:=(x2.set (.int .i64 0)).other (B':=w.heap.size+2) (by omega) (.bool false)
  have y3:=(x3.other (B':=w.heap.size+1) (by omega) (.int .i64 0)).set (.bool false)
  have hK':=((KeepsOthers.setCell W ⟨w.heap.size+1,0,none⟩ (.int .i64 0)).trans (KeepsOthers.setCell _ ⟨w.heap.size+2,0,none⟩ (.bool false))).same D _ hK rfl
  refine⟨by simp, .inl ⟨_,_,rfl,run_takeDeferred hK', ?_⟩⟩
  have hc4:=cell_kept y2.cell (grownBy_putObj' _ D (.deferred none)) (λr e=>by cases e;exact⟨_,hK',rfl⟩)
  have hc5:=cell_kept y3.cell (grownBy_putObj' _ D (.deferred none)) (λr e=>by cases e;exact⟨_,hK',rfl⟩)
  refine⟨.tuple #[.int .i64 0, .bool false], ?_,by rw [HN.out];rfl,(((hB0.trans (hB1.mono (by omega))).setCell (p:=⟨w.heap.size+1,0,none⟩) (by simp) _).setCell (p:=⟨w.heap.size+2,0,none⟩) (by simp) _).trans (belowK_b (w:=w) (Nat.le_refl _) _ D _ _ (by omega) hK' rfl rfl)⟩
  simp [results,Tryz.f155,go_sem,hc4,hc5]
 case stop=>
 rintro D c pre W hD ⟨k,hk,rfl⟩ ⟨⟨rfl,ini,last,e1,e2,e3,x2,x3⟩,hB1⟩ hK
 gi_wp2
 refine⟨by simp, .inl ⟨_,_,rfl,run_takeDeferred hK, ?_⟩⟩
 have hc4:=cell_kept x2.cell (grownBy_putObj' _ D (.deferred none)) (λr e=>by cases e;exact⟨_,hK,rfl⟩)
 have hc5:=cell_kept x3.cell (grownBy_putObj' _ D (.deferred none)) (λr e=>by cases e;exact⟨_,hK,rfl⟩)
 obtain⟨k',rfl⟩:∃k',k=k'+1:=by
  cases k with
  |zero=>simp [upTo] at e1
  |succ k'=>exact⟨k',rfl⟩
 rw [zaF] at e1
 obtain⟨rfl,e5⟩:=List.append_inj' e1 rfl
 obtain rfl:j4 l k'=last:=by simpa using e5
 have hn:=zp6 l v k' (by omega) e2 e3
 refine⟨.tuple #[.int .i64 (j4 l k').2.n, .bool true], ?_,by rw [hn];rfl,hB1.trans (belowK_b (w:=w) (Nat.le_refl _) W D _ _ (by omega) hK rfl rfl)⟩
 simp [results,Tryz.f155,go_sem,hc4,hc5]
