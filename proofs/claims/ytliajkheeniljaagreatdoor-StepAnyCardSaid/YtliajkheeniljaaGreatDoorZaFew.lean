/- Have code and a state at most so many things?: the walks. -/
import Derived.Test.YtliajkheeniljaaGreatDoorZaMoves
import Derived.Test.YtliajkheeniljaaGreatDoorZaShort
set_option linter.all false
namespace Go.Proofs.YtliajkheeniljaaGreatDoor
open Go.RowKit
set_option maxRecDepth 100000
set_option maxHeartbeats 16000000
theorem zgT:∀(d:Nat) (w:World) (x:zR) (kv:Value),zF d w x kv->∀most:Int,1<=most->most<=1000->
  Calls Tryz.prog 40 #[yV x kv, .int .i64 most] w fun e w'=>(∃r:Int,e= .returned (.int .i64 r)/\1<=r/\r<=most)/\Below w.heap.size w w':=by
 intro d
 induction d with
 |zero=>intro w x kv h;exact h.elim
 |succ d ih=>
  intro w x kv h most hm1 hm2
  obtain⟨ka,kc,rfl,hkl⟩:=h.slice
  unfold yV
  generalize x.kind=k
  generalize x.n=n
  generalize x.op=o
  obtain⟨m,hm⟩:∃m,m=x.kids.length:=⟨_,rfl⟩
  have HM:=qh hm
  rw [<-hm] at h hkl ⊢
  have HE:=qh h
  have HIH:=qh ih
  clear hm h ih
  have HA:=qh ((Below.refl w.heap.size w).alloc (Nat.le_refl _) (.cells #[.int .i64 k, .int .i64 n, .int .u8 o, .slice ka m kc] 62))
  have yS:=qh (yK w (.cells #[.int .i64 k, .int .i64 n, .int .u8 o, .slice ka m kc] 62))
  go_enter Tryz.func40,Tryz.ntmps40
  go_upto_region 1 with fail
  generalize World.alloc w _=W at HA yS ⊢
  obtain⟨gx,hgx⟩:∃gx,gx=w.heap.size:=⟨_,rfl⟩
  rw [<-hgx] at yS ⊢
  clear hgx
  have HC:Hid (∀x,Below W.heap.size W x->x.cell? ⟨gx,3,none⟩=some (.slice ka m kc)):=fun x hx=>zm hx _ _ (zh yS.out 3)
  clear yS
  go_wp2_with fail
  go_loopg [5,6] m (fun gg s5 s6 wr=>∃(i:Nat) (r:Int),i<=m/\Hid (gg=m - i)/\1<=r/\r<=most/\s5= .int .i64 r/\s6= .int .i64 i/\Hid (Below W.heap.size W wr))
  case atStart=>exact⟨0,1,Nat.zero_le _,rfl,by omega,hm1,rfl,rfl,Below.refl _ _⟩
  case round=>
   obtain⟨i,r,hi,HG,hr1,hr2,rfl,rfl,HB⟩:=hrel
   obtain⟨wo,rfl⟩:∃wo:World,wo=wr:=⟨_,rfl⟩
   have c3:=HC.out wo HB.out
   by_cases hlt:i<m
   rotate_left
   ·obtain rfl:m=i:=by omega
    have yT:=qh (HA.out.trans (HB.out.mono HA.out.size))
    go_wp2_with fail
    go_ret
    exact⟨⟨r,rfl,hr1,hr2⟩,yT.out⟩
   have qg:(i:Int)<(m:Int):=by omega
   have zi:decide ((i:Int)<(m:Int))=true:=decide_eq_true qg
   have zin:decide (i<m)=true:=decide_eq_true hlt
   by_cases hrm:r<most
   rotate_left
   ·have yT:=qh (HA.out.trans (HB.out.mono HA.out.size))
    go_wp2_with fail
    go_ret
    exact⟨⟨r,rfl,hr1,hr2⟩,yT.out⟩
   obtain⟨b,off,qa,qc,hka, -,x0,x1,x2,x3,hx⟩:=zF.part (HE.out.below (HA.out.trans (HB.out.mono HA.out.size))) i (by rw [<-HM.out];exact hlt)
   subst hka
   have hk:=HIH.out wo _ _ hx (most - r) (by omega) (by omega)
   unfold yV at hk
   generalize x.kids.getD i default=y at x0 x1 x2 x3 hx hk
   have HK:=qh hk
   have hwm:wrap64 (most - r)=most - r:=by unfold wrap64;omega
   clear hx hk
   go_wp2_with(go_at_call 40;go_must(refine HK.out.mono ?_);rintro en Z ⟨⟨r2,rfl,g1,g2⟩,hb⟩;(have HZ:=qh (zB HB.out hb));(have hwa:wrap64 (r+r2)=r+r2:=(by unfold wrap64;omega));clear hb x0 x1 x2 x3 c3)
   go_roundg (m - (i+1))
   case measure=>rw [HG.out];omega
   case rel=>exact⟨i+1,r+r2,by omega,rfl,by omega,by omega,by first|rfl|rw [hwa],by simp,HZ.out⟩
def ze6 (w:World) (s:zu) (e:Ending) (w':World):Prop:=(∃b,e= .returned (.bool b)/\(b=true->∀j,j<s.threads.length->(s.threads.getD j default).buf.length<=499))/\Below w.heap.size w w'
theorem zdX {w w':World} {s:zu} (h:Below w.heap.size w w'):ze6 w s (.returned (.bool false)) w':=⟨⟨false,rfl,fun h=>by cases h⟩,h⟩
theorem zih {w w':World} {s:zu} (h:Below w.heap.size w w') (k:∀j,j<s.threads.length->(s.threads.getD j default).buf.length<=499):ze6 w s (.returned (.bool true)) w':=⟨⟨true,rfl,fun _=>k⟩,h⟩
theorem zs8 (w:World) (c:zS) (cv:Value) (d:Nat) (hc:yF d w cv c.threads) (s:zu) (sv mv:Value) (hs:zN w s sv mv) (B:Int) (hB:B=1125899906842624) (h1:(c.threads.length:Int)<=B) (h2:(s.threads.length:Int)<=B) (h3:(s.mem.length:Int)<=B)
  (h4:∀i,i<c.threads.length->(((c.threads.getD i []).length:Nat):Int)<=B) (h5:∀j,j<s.threads.length->(((s.threads.getD j default).buf.length:Nat):Int)<=B):
  Calls Tryz.prog 14 #[yD c cv,zW s sv mv] w (ze6 w s):=by
 obtain⟨ca,cc,rfl, -⟩:=zl.slice hc
 obtain⟨ta,xB,rfl, -⟩:=zl.slice hs.threads
 obtain⟨ma,yZ,rfl, -⟩:=zl.slice hs.mem
 unfold yD zW
 generalize c.vars=vars
 generalize c.domain=dom
 generalize s.bad=bad
 obtain⟨cn,hcn⟩:∃n,n=c.threads.length:=⟨_,rfl⟩
 obtain⟨tn,htn⟩:∃n,n=s.threads.length:=⟨_,rfl⟩
 obtain⟨mn,hmn⟩:∃n,n=s.mem.length:=⟨_,rfl⟩
 rw [<-hcn] at h1 h4 hc
 rw [<-htn] at h2 h5 hs
 rw [<-hmn] at h3 hs
 rw [<-hcn, <-htn, <-hmn]
 have pJ:=qh hcn
 have HTN:=qh htn
 have gY:=qh hB
 have H4:=qh h4
 have H5:=qh h5
 have HC:=qh hc
 have HS:=qh hs
 have hw1:IntKind.i64.wrap ((cn:Int)+(tn:Int))=(cn:Int)+(tn:Int):=IntWalk.i64_in _ (by omega)
 have hw2:IntKind.i64.wrap ((cn:Int)+(tn:Int)+(mn:Int))=(cn:Int)+(tn:Int)+(mn:Int):=IntWalk.i64_in _ (by omega)
 have hn0:(cn:Int)+(tn:Int)+(mn:Int)<=4*B:=by omega
 have hcm:cn<=9223372036854775807:=by omega
 have htm:tn<=9223372036854775807:=by omega
 clear hcn htn hmn hB h4 h5 hc hs
 have HA:=qh (xw w (.cells #[.int .i64 vars, .int .i64 dom, .slice ca cn cc] 24) (.cells #[.slice ta tn xB, .slice ma mn yZ, .bool bad] 30))
 have H1:=qh (xA w (.cells #[.int .i64 vars, .int .i64 dom, .slice ca cn cc] 24) (.cells #[.slice ta tn xB, .slice ma mn yZ, .bool bad] 30))
 have H2:=qh (xq w (.cells #[.int .i64 vars, .int .i64 dom, .slice ca cn cc] 24) (.cells #[.slice ta tn xB, .slice ma mn yZ, .bool bad] 30))
 go_enter Tryz.func14,Tryz.ntmps14
 go_upto_region 1 with fail
 generalize World.alloc (World.alloc w _) _=W at HA H1 H2 ⊢
 obtain⟨gx,hgx⟩:∃gx,gx=w.heap.size:=⟨_,rfl⟩
 rw [<-hgx] at H1 H2 ⊢
 clear hgx
 have yJ:Hid (∀y,Below W.heap.size W y->y.cell? ⟨gx,2,none⟩=some (.slice ca cn cc)/\y.cell? ⟨gx+1,0,none⟩=some (.slice ta tn xB)/\y.cell? ⟨gx+1,1,none⟩=some (.slice ma mn yZ)):=fun y hy=>
  ⟨zm hy _ _ (zh H1.out 2),zm hy _ _ (zh H2.out 0),zm hy _ _ (zh H2.out 1)⟩
 obtain⟨c0,c1,c2⟩:=yJ.out W (Below.refl _ _)
 clear H1 H2
 go_upto_region 2 with fail
 clear c0 c1 c2 hw1 hw2
 generalize hnn:(cn:Int)+(tn:Int)+(mn:Int)=nn at hn0 ⊢
 have z4B:0<=nn:=by omega
 clear hnn
 go_wp2_with fail
 go_loopg [5,6] cn (fun gg s5 s6 wr=>∃(i:Nat) (n:Int),i<=cn/\Hid (gg=cn - i)/\0<=n/\n<=4*B/\s5= .int .i64 n/\s6= .int .i64 i/\Hid (Below W.heap.size W wr))
 case atStart=>exact⟨0,nn,Nat.zero_le _,rfl,z4B,hn0,rfl,rfl,Below.refl _ _⟩
 case round=>
  obtain⟨i,n,hi,HG,hn1,hn2,rfl,rfl,HB⟩:=hrel
  obtain⟨wo,rfl⟩:∃wo:World,wo=wr:=⟨_,rfl⟩
  obtain⟨c0,c1,c2⟩:=yJ.out wo HB.out
  by_cases hlt:i<cn
  rotate_left
  ·obtain rfl:cn=i:=by omega
   obtain⟨W1,rfl⟩:∃Y:World,Y=wo:=⟨_,rfl⟩
   go_wp2_with fail
   go_loopg [5,8] tn (fun gg s5 s8 wr=>∃(i:Nat) (n:Int),i<=tn/\Hid (gg=tn - i)/\0<=n/\n<=4*B/\Hid (∀j,j<i->(((s.threads.getD j default).buf.length:Nat):Int)<=n)/\s5= .int .i64 n/\s8= .int .i64 i/\Hid (Below W.heap.size W wr))
   case atStart=>exact⟨0,n,Nat.zero_le _,rfl,hn1,hn2,fun j hj=>by omega,rfl,rfl,HB.out⟩
   case round=>
    obtain⟨i,n,hi,HG,hn1,hn2,uq,rfl,rfl,HB⟩:=hrel
    obtain⟨wo,rfl⟩:∃wo:World,wo=wr:=⟨_,rfl⟩
    obtain⟨c0,c1,c2⟩:=yJ.out wo HB.out
    have yT:=qh (HA.out.trans (HB.out.mono HA.out.size))
    by_cases hlt:i<tn
    rotate_left
    ·obtain rfl:tn=i:=by omega
     by_cases hn5:n<500
     ·have HR:Hid (∀j,j<s.threads.length->(s.threads.getD j default).buf.length<=499):=fun j hj=>by have:=uq.out j (by rw [HTN.out];exact hj);omega
      clear uq
      go_wp2_with fail
      go_ret
      exact zih yT.out HR.out
     ·clear uq
      go_wp2_with fail
      go_ret
      exact zdX yT.out
    have qg:(i:Int)<(tn:Int):=by omega
    have zi:decide ((i:Int)<(tn:Int))=true:=decide_eq_true qg
    have zin:decide (i<tn)=true:=decide_eq_true hlt
    by_cases hn5:n<500
    rotate_left
    ·go_wp2_with fail
     go_ret
     exact zdX yT.out
    obtain⟨ab,ao,aba,abc,hae, -, -, -, -, -, -, -,a5, -⟩:=xD.part (HS.out.below yT.out).threads i (by rw [<-HTN.out];exact hlt)
    subst hae
    have hk5:=H5.out i hlt
    have hall:=uq.out
    have hbl:∃b,b=(s.threads.getD i default).buf.length:=⟨_,rfl⟩
    obtain⟨bl,hbl⟩:=hbl
    rw [<-hbl] at a5 hk5
    have hw1:IntKind.i64.wrap (n+(bl:Int))=n+(bl:Int):=by have:=gY.out;exact IntWalk.i64_in _ (by omega)
    have hq:n+(bl:Int)<=4*B:=by have:=gY.out;omega
    have zpf:Hid (∀j,j<i+1->(((s.threads.getD j default).buf.length:Nat):Int)<=n+(bl:Int)):=fun j hj=>by
     by_cases hji:j=i
     ·subst hji;rw [<-hbl];omega
     ·have:=hall j (by omega);omega
    clear hall hbl hk5 uq
    go_wp2_with fail
    go_roundg (tn - (i+1))
    case measure=>rw [HG.out];omega
    case rel=>exact⟨i+1,n+(bl:Int),by omega,rfl,by omega,hq,zpf.out,by first|rfl|rw [hw1],by simp,HB.out⟩
  have qg:(i:Int)<(cn:Int):=by omega
  have zi:decide ((i:Int)<(cn:Int))=true:=decide_eq_true qg
  have zin:decide (i<cn)=true:=decide_eq_true hlt
  by_cases hn5:n<500
  rotate_left
  ·obtain⟨W1,rfl⟩:∃Y:World,Y=wo:=⟨_,rfl⟩
   go_wp2_with fail
   go_loopg [5,8] tn (fun gg s5 s8 wr=>∃(i:Nat) (n:Int),i<=tn/\Hid (gg=tn - i)/\0<=n/\n<=4*B/\Hid (∀j,j<i->(((s.threads.getD j default).buf.length:Nat):Int)<=n)/\s5= .int .i64 n/\s8= .int .i64 i/\Hid (Below W.heap.size W wr))
   case atStart=>exact⟨0,n,Nat.zero_le _,rfl,hn1,hn2,fun j hj=>by omega,rfl,rfl,HB.out⟩
   case round=>
    obtain⟨i,n,hi,HG,hn1,hn2,uq,rfl,rfl,HB⟩:=hrel
    obtain⟨wo,rfl⟩:∃wo:World,wo=wr:=⟨_,rfl⟩
    obtain⟨c0,c1,c2⟩:=yJ.out wo HB.out
    have yT:=qh (HA.out.trans (HB.out.mono HA.out.size))
    by_cases hlt:i<tn
    rotate_left
    ·obtain rfl:tn=i:=by omega
     by_cases hn5:n<500
     ·have HR:Hid (∀j,j<s.threads.length->(s.threads.getD j default).buf.length<=499):=fun j hj=>by have:=uq.out j (by rw [HTN.out];exact hj);omega
      clear uq
      go_wp2_with fail
      go_ret
      exact zih yT.out HR.out
     ·clear uq
      go_wp2_with fail
      go_ret
      exact zdX yT.out
    have qg:(i:Int)<(tn:Int):=by omega
    have zi:decide ((i:Int)<(tn:Int))=true:=decide_eq_true qg
    have zin:decide (i<tn)=true:=decide_eq_true hlt
    by_cases hn5:n<500
    rotate_left
    ·go_wp2_with fail
     go_ret
     exact zdX yT.out
    obtain⟨ab,ao,aba,abc,hae, -, -, -, -, -, -, -,a5, -⟩:=xD.part (HS.out.below yT.out).threads i (by rw [<-HTN.out];exact hlt)
    subst hae
    have hk5:=H5.out i hlt
    have hall:=uq.out
    have hbl:∃b,b=(s.threads.getD i default).buf.length:=⟨_,rfl⟩
    obtain⟨bl,hbl⟩:=hbl
    rw [<-hbl] at a5 hk5
    have hw1:IntKind.i64.wrap (n+(bl:Int))=n+(bl:Int):=by have:=gY.out;exact IntWalk.i64_in _ (by omega)
    have hq:n+(bl:Int)<=4*B:=by have:=gY.out;omega
    have zpf:Hid (∀j,j<i+1->(((s.threads.getD j default).buf.length:Nat):Int)<=n+(bl:Int)):=fun j hj=>by
     by_cases hji:j=i
     ·subst hji;rw [<-hbl];omega
     ·have:=hall j (by omega);omega
    clear hall hbl hk5 uq
    go_wp2_with fail
    go_roundg (tn - (i+1))
    case measure=>rw [HG.out];omega
    case rel=>exact⟨i+1,n+(bl:Int),by omega,rfl,by omega,hq,zpf.out,by first|rfl|rw [hw1],by simp,HB.out⟩
  obtain⟨eb,eo,ka,kc,hca, -,r0,hins⟩:=yF.part (zl.below (xu.stays d) HC.out (HA.out.trans (HB.out.mono HA.out.size))) i (by rw [<-pJ.out];exact hlt)
  subst hca
  have hk4:=H4.out i hlt
  obtain⟨kn,hkn⟩:∃k,k=(c.threads.getD i []).length:=⟨_,rfl⟩
  rw [<-hkn] at r0 hins hk4
  have hkm:kn<=9223372036854775807:=by have:=gY.out;omega
  have zj1:=qh hins
  have HKN:=qh hkn
  have hw1:IntKind.i64.wrap (n+(kn:Int))=n+(kn:Int):=by have:=gY.out;exact IntWalk.i64_in _ (by omega)
  have hq:n+(kn:Int)<=4*B:=by have:=gY.out;omega
  have hq0:0<=n+(kn:Int):=by omega
  have CR:Hid (∀y,Below wo.heap.size wo y->y.cell? ⟨gx,2,none⟩=some (.slice (some ⟨eb,eo,none⟩) cn cc)/\y.cell? ⟨eb,eo+i,none⟩=some (.slice ka kn kc)):=fun y hy=>⟨zm hy _ _ c0,zm hy _ _ r0⟩
  clear hkn hins c1 c2 hk4
  go_upto_region 6 with fail
  clear c0 r0 hw1 zi zin
  generalize n+(kn:Int)=n1 at hq hq0 ⊢
  go_wp2_with fail
  go_loopg [5,7] kn (fun gg s5 s7 wr=>∃(k:Nat) (n:Int),k<=kn/\Hid (gg=kn - k)/\0<=n/\n<=4*B/\s5= .int .i64 n/\s7= .int .i64 k/\Hid (Below wo.heap.size wo wr))
  case atStart=>exact⟨0,n1,Nat.zero_le _,rfl,hq0,hq,rfl,rfl,Below.refl _ _⟩
  case round=>
   obtain⟨k,n2,hk,HG2,hm1,hm2,rfl,rfl,HB2⟩:=hrel
   obtain⟨u,rfl⟩:∃u:World,u=wr:=⟨_,rfl⟩
   obtain⟨c0,r0⟩:=CR.out u HB2.out
   have bC:=qh (zB HB.out HB2.out)
   by_cases hkl:k<kn
   rotate_left
   ·obtain rfl:kn=k:=by omega
    go_wp2_with fail
    go_roundg (cn - (i+1))
    case measure=>rw [HG.out];omega
    case rel=>exact⟨i+1,n2,by omega,rfl,hm1,hm2,rfl,by simp,bC.out⟩
   have ziQ:(k:Int)<(kn:Int):=by omega
   have zk:decide ((k:Int)<(kn:Int))=true:=decide_eq_true ziQ
   have zkn:decide (k<kn)=true:=decide_eq_true hkl
   by_cases hm5:n2<500
   rotate_left
   ·go_wp2_with fail
    go_roundg (cn - (i+1))
    case measure=>rw [HG.out];omega
    case rel=>exact⟨i+1,n2,by omega,rfl,hm1,hm2,rfl,by simp,bC.out⟩
   obtain⟨ib,io,aa,ac,ba,bc,hka, -, -,⟨a0,a1,a2,a3⟩,⟨b0,b1,b2,b3⟩, -,xa,xb⟩:=vQ.part (zl.below (kL.stays d) zj1.out HB2.out) k (by rw [<-HKN.out];exact hkl)
   subst hka
   have hsa:=fun y (hy:Below u.heap.size u y)=>zgT d y _ _ (xa.below hy) 500 (by omega) (by omega)
   have hsb:=fun y (hy:Below u.heap.size u y)=>zgT d y _ _ (xb.below hy) 500 (by omega) (by omega)
   unfold yV at hsa hsb
   generalize (c.threads.getD i []).getD k default=I at a0 a1 a2 a3 b0 b1 b2 b3 xa xb hsa hsb
   have HSA:=qh hsa
   have HSB:=qh hsb
   have CK:Hid (∀y,Below u.heap.size u y->y.cell? ⟨gx,2,none⟩=some (.slice (some ⟨eb,eo,none⟩) cn cc)/\y.cell? ⟨eb,eo+i,none⟩=some (.slice (some ⟨ib,io,none⟩) kn kc)/\y.cell? ⟨ib,io+k*12+3,none⟩=some (.int .i64 I.a.kind)/\y.cell? ⟨ib,io+k*12+4,none⟩=some (.int .i64 I.a.n)/\y.cell? ⟨ib,io+k*12+5,none⟩=some (.int .u8 I.a.op)/\y.cell? ⟨ib,io+k*12+6,none⟩=some (.slice aa I.a.kids.length ac)/\
     y.cell? ⟨ib,io+k*12+7,none⟩=some (.int .i64 I.b.kind)/\y.cell? ⟨ib,io+k*12+8,none⟩=some (.int .i64 I.b.n)/\y.cell? ⟨ib,io+k*12+9,none⟩=some (.int .u8 I.b.op)/\y.cell? ⟨ib,io+k*12+10,none⟩=some (.slice ba I.b.kids.length bc)):=fun y hy=>
    ⟨zm hy _ _ c0,zm hy _ _ r0,zm hy _ _ a0,zm hy _ _ a1,zm hy _ _ a2,zm hy _ _ a3,zm hy _ _ b0,zm hy _ _ b1,zm hy _ _ b2,zm hy _ _ b3⟩
   clear a0 a1 a2 a3 b0 b1 b2 b3 xa xb hsa hsb
   go_upto_region 9 with fail
   clear c0 r0 zk zkn
   refine wp_region_noPanic ?_
   refine wp_region_held_drew (S:=fun x=>Below u.heap.size u x) (by kernel_rfl) ((Below.refl _ _).drew) (fun hsH=> ?_)
   refine zo 0 53 ?vs1 rfl ?zg0 ?_
   case zg0=>(intro x h;have e:=CK.out x h;go_simp<;>rfl)
   simp only [Act.put,za,ze,zf]
   refine zo 1 54 ?vs2 rfl ?zg1 ?_
   case zg1=>(intro x h;have e:=CK.out x h;go_simp<;>rfl)
   simp only [Act.put,za,ze,zf]
   refine zo 2 55 ?vs3 rfl ?zg2 ?_
   case zg2=>(intro x h;have e:=CK.out x h;go_simp<;>rfl)
   simp only [Act.put,za,ze,zf]
   refine zo 3 56 ?vs4 rfl ?zg3 ?_
   case zg3=>(intro x h;have e:=CK.out x h;go_simp<;>rfl)
   simp only [Act.put,za,ze,zf]
   refine zo 4 57 ?vs5 rfl ?zg4 ?_
   case zg4=>(intro x h;have e:=CK.out x h;go_simp<;>rfl)
   simp only [Act.put,za,ze,zf]
   refine zo 5 58 ?vs6 rfl ?zg5 ?_
   case zg5=>(intro x h;have e:=CK.out x h;go_simp<;>rfl)
   simp only [Act.put,za,ze,zf]
   refine zo 6 59 ?vs7 rfl ?zg6 ?_
   case zg6=>(intro x h;have e:=CK.out x h;go_simp<;>rfl)
   simp only [Act.put,za,ze,zf]
   refine zo 7 60 ?vs8 rfl ?zpg ?_
   case zpg=>(intro x h;have e:=CK.out x h;go_simp<;>rfl)
   simp only [Act.put,za,ze,zf]
   refine zo 8 61 ?vs9 rfl ?zph ?_
   case zph=>(intro x h;have e:=CK.out x h;go_simp<;>rfl)
   simp only [Act.put,za,ze,zf]
   refine zo 9 62 ?z4C rfl ?zjG ?_
   case zjG=>(intro x h;have e:=CK.out x h;go_simp<;>rfl)
   simp only [Act.put,za,ze,zf]
   refine zo 12 65 ?zDi rfl ?zyE ?_
   case zyE=>(intro x h;have e:=CK.out x h;go_simp<;>rfl)
   simp only [Act.put,za,ze,zf]
   refine zo 13 66 ?zDj rfl ?zyF ?_
   case zyF=>(intro x h;have e:=CK.out x h;go_simp<;>rfl)
   simp only [Act.put,za,ze,zf]
   refine zo 14 67 ?zDk rfl ?zyG ?_
   case zyG=>(intro x h;have e:=CK.out x h;go_simp<;>rfl)
   simp only [Act.put,za,ze,zf]
   refine zo 15 68 ?zDl rfl ?zyH ?_
   case zyH=>(intro x h;have e:=CK.out x h;go_simp<;>rfl)
   simp only [Act.put,za,ze,zf]
   refine zo 16 69 ?zDm rfl ?zyI ?_
   case zyI=>(intro x h;have e:=CK.out x h;go_simp<;>rfl)
   simp only [Act.put,za,ze,zf]
   refine zo 17 70 ?zDn rfl ?zyJ ?_
   case zyJ=>(intro x h;have e:=CK.out x h;go_simp<;>rfl)
   simp only [Act.put,za,ze,zf]
   refine zo 18 71 ?zDo rfl ?zyK ?_
   case zyK=>(intro x h;have e:=CK.out x h;go_simp<;>rfl)
   simp only [Act.put,za,ze,zf]
   refine zo 19 72 ?zDp rfl ?zyL ?_
   case zyL=>(intro x h;have e:=CK.out x h;go_simp<;>rfl)
   simp only [Act.put,za,ze,zf]
   refine zo 20 73 ?zDq rfl ?zyM ?_
   case zyM=>(intro x h;have e:=CK.out x h;go_simp<;>rfl)
   simp only [Act.put,za,ze,zf]
   refine zT 10 rfl (fun K hK=> ?_)
   go_simp
   refine(HSA.out u.drew hsH).mono ?_
   rintro e zvD ⟨⟨r1,rfl,g1,g2⟩,hb⟩
   have hwa:IntKind.i64.wrap (n2+r1)=n2+r1:=IntWalk.i64_in _ (by omega)
   have zdY:Below u.heap.size u zvD:=zB hsH hb
   refine hK.out _ _ zdY (fun _=> ?_)
   clear hK K hb hsH
   refine zo 11 64 ?zDr rfl ?zyN ?_
   case zyN=>(intro x h;have e:=CK.out x h;go_simp<;>rfl)
   simp only [Act.put,za,ze,zf]
   refine zT 21 rfl (fun K hK=> ?_)
   go_simp
   refine(HSB.out zvD zdY).mono ?_
   rintro e z4D ⟨⟨r2,rfl,g3,g4⟩,hb⟩
   have hwb:IntKind.i64.wrap (n2+r1+r2)=n2+r1+r2:=IntWalk.i64_in _ (by omega)
   have zm8:Below u.heap.size u z4D:=zB zdY hb
   refine hK.out _ _ zm8 (fun _=> ?_)
   clear hK K hb zdY
   refine zo 22 75 ?zDs rfl ?zyO ?_
   case zyO=>(intro x h;have e:=CK.out x h;go_simp<;>rfl)
   simp only [Act.put,za,ze,zf]
   refine zo 23 5 ?zDt rfl ?zyP ?_
   case zyP=>(intro x h;have e:=CK.out x h;go_simp<;>rfl)
   simp only [Act.put,za,ze,zf]
   refine wpAnyH_done (by kernel_rfl) ?_ _
   refine NoPanic.normal ?_
   have HEV:=qh (zB HB2.out zm8)
   have hm6:n2+r1+r2<=4*B:=by have:=gY.out;omega
   go_wp2_with fail
   go_roundg (kn - (k+1))
   case measure=>rw [HG2.out];omega
   case rel=>exact⟨k+1,n2+r1+r2,by omega,rfl,by omega,hm6,rfl,by simp,HEV.out⟩
end Go.Proofs.YtliajkheeniljaaGreatDoor
