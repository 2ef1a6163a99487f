/- What moves do in states that are come to: the walk. What moves do in states with one thing spoilt: the walk. -/
import Derived.Test.YtliajkheeniljaaGreatDoorZsPMoves
import Derived.Test.YtliajkheeniljaaGreatDoorZsSameL
import Derived.Test.YtliajkheeniljaaGreatDoorZsWalk7
import Derived.Test.YtliajkheeniljaaGreatDoorZsShort
set_option linter.all false
namespace Go.Proofs.YtliajkheeniljaaGreatDoor
open Go.RowKit
set_option maxRecDepth 100000
set_option maxHeartbeats 16000000
theorem zt3 {c:zX} (h:codeOk c=true) (q:Int) (_h0:0<=q):kI c (zc7 q)=true:=by
 unfold kI zc7
 simp only [Bool.and_eq_true,decide_eq_true_eq]
 have h1:=Int.emod_nonneg q (show(3:Int)≠0 by omega)
 have h2:=Int.emod_lt_of_pos q (show(0:Int)<3 by omega)
 have h3:=Int.emod_nonneg (q / 3) (show(3:Int)≠0 by omega)
 have h4:=Int.emod_lt_of_pos (q / 3) (show(0:Int)<3 by omega)
 exact⟨⟨⟨⟨h,by omega⟩,by omega⟩,by omega⟩,by omega⟩
theorem zgQ (w:World) (sv:Value) (l0:List Int) (hn:jg w .u8 sv l0) (q:Int) (qw:(Lit.int .u8 q).wf=true) (wv:Value) (lw:List Int) (hw:jg w .u8 wv lw) (how:Int) (kw1:(Lit.int .u8 how).wf=true) (kk:Int) (kw2:(Lit.int .i64 kk).wf=true):
  Calls Tryz.prog 5 #[sv, .int .u8 q,wv, .int .u8 how, .int .i64 kk] w fun e w'=>e= .returned (.bool true)/\Below w.heap.size w w':=by
 obtain⟨q0,q1⟩:=u8_in qw
 obtain⟨u0,u1⟩:=u8_in kw1
 have HN:=qh hn
 have HW:=qh hw
 obtain⟨sa,sc,rfl, -⟩:∃a c,sv= .slice a l0.length c/\True:=by obtain⟨a,c,h, -⟩:=hn;exact⟨a,c,h,trivial⟩
 obtain⟨wa,wc,rfl, -⟩:∃a c,wv= .slice a lw.length c/\True:=by obtain⟨a,c,h, -⟩:=hw;exact⟨a,c,h,trivial⟩
 generalize l0.length=ln at HN ⊢
 generalize lw.length=wn at HW ⊢
 have z0W:Hid (0<=how/\how<=255):=⟨u0,u1⟩
 clear hn hw qw kw1 kw2 u0 u1
 go_enter Tryz.func5,Tryz.ntmps5
 have HB0:Hid (Below w.heap.size w w):=Below.refl _ _
 have HLQ:Hid (0<=q/\q<=255):=⟨q0,q1⟩
 go_upto_region 2 with(first|(go_at_call 22;go_must(refine(zkk W2 q HLQ.out.1 HLQ.out.2).mono ?_);rintro en W3 ⟨rfl,hb⟩;(have HB3:=qh (zF HB2.out hb));(have HC3:=qh (zk.below (xC.stays 3) HC2.out hb));clear hb;unfold yY)|(go_at_call 20;go_must(refine(HM4.out).mono ?_);rintro en W2 ⟨⟨c,ta,tc,css,rfl,hok,hrow⟩,hb⟩;(have vC:=qh hok);(have HC2:=qh hrow.slice);(have HB2:=qh (zF HB1.out hb));clear hrow hok hb HM4;unfold yL)|(go_at_call 21;go_must(refine(zqe w).mono ?_);rintro en W1 ⟨⟨kv,rfl,hks⟩,hb⟩;(have HB1:=qh (zF HB0.out hb));(have HM4:=qh (zot W1 _ l0 (HN.out.below (zF HB0.out hb)) kv zd8 hks (by decide) (by decide) zrj));clear hks hb))
 have hmay:=zt3 vC.out q q0
 have zia:=qj vC.out
 obtain⟨m,hm⟩:∃m,m=zc7 q:=⟨_,rfl⟩
 have hmV:m.model=q % 3/\m.bound=1+q / 3 % 3:=by rw [hm];exact⟨rfl,rfl⟩
 rw [<-hm] at hmay
 obtain⟨C,hC⟩:∃C,C=c:=⟨_,rfl⟩
 obtain⟨M,hM⟩:∃M,M=m:=⟨_,rfl⟩
 rw [<-hM] at hmay
 rw [<-hC] at hmay zia HC3
 obtain⟨vars,hvars⟩:∃v,v=C.vars:=⟨_,rfl⟩
 obtain⟨dom,hdom⟩:∃v,v=C.domain:=⟨_,rfl⟩
 obtain⟨mo,hmo⟩:∃v,v=M.model:=⟨_,rfl⟩
 obtain⟨bo,hbo⟩:∃v,v=M.bound:=⟨_,rfl⟩
 obtain⟨cn,hcn⟩:∃n,n=C.threads.length:=⟨_,rfl⟩
 have HCV:Hid (C.vars=vars/\C.domain=dom/\M.model=mo/\M.bound=bo):=⟨hvars.symm,hdom.symm,hmo.symm,hbo.symm⟩
 simp only [<-hC, <-hm, <-hM, <-hvars, <-hdom, <-hmo, <-hbo, <-hcn,show(zc7 q).model=mo by rw [hmo,hM,hm],show(zc7 q).bound=bo by rw [hbo,hM,hm]]
 have hc3:=HC3.out
 rw [<-hcn] at hc3 zia
 have hB:=((Below.refl W3.heap.size W3).alloc (Nat.le_refl _) (.cells #[.int .i64 vars, .int .i64 dom, .slice ta cn tc] 24)).alloc (by simp) (.cells #[.int .i64 mo, .int .i64 bo] 26)
 have H1:=qh (xH W3 (.cells #[.int .i64 vars, .int .i64 dom, .slice ta cn tc] 24) (.cells #[.int .i64 mo, .int .i64 bo] 26))
 have H2:=qh (xu W3 (.cells #[.int .i64 vars, .int .i64 dom, .slice ta cn tc] 24) (.cells #[.int .i64 mo, .int .i64 bo] 26))
 have HC:=qh (zk.below (xC.stays 3) hc3 hB)
 have HCW:=qh hc3
 have bB:=qh hB
 have HB:=qh (zF HB3.out hB)
 have zdW:=qh hmay
 have HCN:=qh hcn
 have HLC:=qh zia
 clear hB hmay hcn zia hC hM hm hmV hc3 HC3 HC2 HB2 HB1 HB0 vC HN HLQ hvars hdom hmo hbo
 generalize World.alloc (World.alloc W3 _) _=V at HB bB H1 H2 HC ⊢
 obtain⟨gx,hgx⟩:∃gx,gx=W3.heap.size:=⟨_,rfl⟩
 rw [<-hgx] at H1 H2 ⊢
 have yS:=qh hgx
 clear hgx
 have HW2:=qh (HW.out.below HB.out)
 clear HW
 have xD:Hid (∀y,Below V.heap.size V y->y.cell? ⟨gx,0,none⟩=some (.int .i64 vars)/\y.cell? ⟨gx,1,none⟩=some (.int .i64 dom)/\y.cell? ⟨gx,2,none⟩=some (.slice ta cn tc)/\y.cell? ⟨gx+1,0,none⟩=some (.int .i64 mo)/\y.cell? ⟨gx+1,1,none⟩=some (.int .i64 bo)):=fun y hy=>⟨zl hy _ _ (zi H1.out 0),zl hy _ _ (zi H1.out 1),zl hy _ _ (zi H1.out 2),zl hy _ _ (zi H2.out 0),zl hy _ _ (zi H2.out 1)⟩
 have hwk:=zrS V C (.slice ta cn tc) 3 HC.out M (.slice wa wn wc) lw HW2.out
 unfold yL yY at hwk
 rw [HCV.out.1,HCV.out.2.1,HCV.out.2.2.1,HCV.out.2.2.2] at hwk
 have HWK:=qh hwk
 clear hwk
 obtain⟨c0,c1,c2,e0,e1⟩:=xD.out V (Below.refl _ _)
 go_upto_region 3 with(go_at_call 23;go_must(refine HWK.out.mono ?_);rintro en Y ⟨⟨s,tv,yv,bs,rfl,zgd,ho⟩,hb⟩;(have HO:=qh ho);(have znB:=qh zgd);(have HY:=qh hb);(obtain⟨ra,rc,rfl, -⟩:=zk.slice (ho.state false).threads);(obtain⟨ma,mc,rfl, -⟩:=zk.slice (ho.state false).mem);clear hb ho zgd;unfold yH)
 clear c0 c1 c2 e0 e1
 have znC:=znB.out.zjr
 have hlen:=znB.out.len
 have znD:=zdW.out
 obtain⟨ts,mem,bad⟩:=s
 simp only [] at hlen znC
 have HOL:Hid (xW V (Y.alloc (.cells #[.slice ra ts.length rc, .slice ma mem.length mc, .bool bad] 30)) Y.heap.size (.slice ra ts.length rc) (.slice ma mem.length mc) bad ts mem bs):=xW.ziS HO.out HY.out bad
 obtain⟨z0Z,hbc,hdc⟩:jL C=⟨List.replicate C.threads.length default,List.replicate C.vars.toNat 0,false⟩/\(1<=C.vars)/\1<=C.threads.length/\C.threads.length<=4:=by
  have hco:codeOk C=true:=by
   unfold kI at znD
   simp only [Bool.and_eq_true] at znD
   exact znD.1.1.1.1
  have hb:=qj hco
  exact⟨by unfold jL;rw [if_pos hco],hb.1,hb.2.2.2.2⟩
 rw [z0Z] at hlen
 simp only [List.length_replicate] at hlen
 obtain⟨n,hn⟩:∃n,n=ts.length:=⟨_,rfl⟩
 obtain⟨mn,hmn⟩:∃n,n=mem.length:=⟨_,rfl⟩
 have hn1:1<=n/\n<=4:=by omega
 have zBL:1<=mn:=by omega
 rw [<-hn, <-hmn] at HOL ⊢
 obtain⟨gs,hgs⟩:∃g,g=Y.heap.size:=⟨_,rfl⟩
 rw [<-hgs] at HOL ⊢
 generalize World.alloc Y _=Z at HOL ⊢
 have znE:Hid (∀j,j<ts.length->(ts.getD j default).buf.length<=100):=fun j hj=>by have:=znC j hj;simp only [] at this;omega
 have HNN:=qh hn
 have vS:=qh hmn
 clear HO znB HY znC hlen znD z0Z hbc hdc hn hmn hgs HWK HW2 xD HC zdW HLC
 obtain⟨hh0,hh1⟩:=z0W.out
 obtain⟨j,hj⟩:∃j:Nat,how / 8 % (n:Int)=(j:Int):=⟨(how / 8 % (n:Int)).toNat,by have:=Int.emod_nonneg (how / 8) (show(n:Int)≠0 by omega);omega⟩
 have hjn:j<n:=by have:=Int.emod_lt_of_pos (how / 8) (show(0:Int)<n by omega);omega
 obtain⟨q8,hq8⟩:∃q8:Nat,how / 8=(q8:Int):=⟨(how / 8).toNat,by omega⟩
 have hd1:how.tdiv 8=(q8:Int):=by rw [Int.tdiv_eq_ediv_of_nonneg hh0];exact hq8
 have hd2:IntKind.i64.wrap how=how:=IntWalk.i64_in _ (by omega)
 have hd3:IntKind.i64.wrap (q8:Int)=q8:=IntWalk.i64_in _ (by omega)
 have hd4:(q8:Int).tmod (n:Int)=(j:Int):=by rw [Int.tmod_eq_emod_of_nonneg (by omega), <-hq8];exact hj
 have hd5:IntKind.i64.wrap (j:Int)=j:=IntWalk.i64_in _ (by omega)
 have hjI:(j:Int)<(n:Int):=by omega
 have hn0:((n:Int)==0)=false:=by rw [beq_eq_false_iff_ne];omega
 have HJ:=qh hj
 have HQ8:=qh hq8
 clear hj hq8
 have b0:Z.cell? ⟨gs,0,none⟩=some (.slice ra n rc):=zi HOL.out.box 0
 obtain⟨tb,tc2,hra, -,htc⟩:=HOL.out.threads (i:=j) (by rw [<-HNN.out];exact hjn)
 rw [<-HNN.out] at hra
 cases hra
 have HTC:=qh htc
 clear htc
 go_quiet (fail)
 go_upto_block 0 with fail
 have vJ:=qh (HOL.out.later (zV (Below.refl _ _) nq))
 have zt4:Hid (∀k u,k<6->((ts.getD j default).cells (bs.getD j (.slice none 0 0)))[k]? =some u->(Z.drewN nq).cell? ⟨tb,j*6+k,none⟩=some u/\(Z.drewN nq).frozen? ⟨tb,j*6+k,none⟩=false):=fun k u h1 h2=>HTC.out k u h1 h2
 clear HOL HTC b0 hd1 hd2 hd3 hd4 hd5 hn0 hjI HQ8 HJ
 generalize World.drewN Z nq=Z1 at vJ zt4 ⊢
 have zBM:gs≠gx+1/\gs≠gx:=by have:=vJ.out.lo;have:=zw H2.out;omega
 have H2Z:=qh ((vJ.out.below.block _ (zw H2.out)).trans H2.out)
 have HH1:Hid (V.heap[gx+1]? =some (.cells #[.int .i64 M.model, .int .i64 M.bound] 26 (0,0))):=by rw [HCV.out.2.2.1,HCV.out.2.2.2];exact H2.out
 have wh:Hid (∀i,i<ts.length->(ts.getD i default).buf.length<=100000):=fun i hi=>by have:=znE.out i hi;omega
 have hjt:j<ts.length:=by rw [<-HNN.out];exact hjn
 have HR4:=qh (vJ.out.own.regs j hjt)
 obtain⟨t,ht⟩:∃t,t=ts.getD j default:=⟨_,rfl⟩
 obtain⟨bv,hbv⟩:∃b,b=bs.getD j (.slice none 0 0):=⟨_,rfl⟩
 have htc:=zt4.out
 have hr4:=HR4.out
 rw [<-ht, <-hbv] at htc
 rw [<-ht] at hr4
 have HT:=qh ht
 have zbs:=qh hbv
 obtain⟨pc,regs,bf⟩:=t
 obtain⟨r0,r1,r2,r3,rfl⟩:=j4 hr4
 have zdb:=qh htc
 clear htc hr4 ht hbv HR4 zt4
 have z1a:=hjt
 clear hjt
 have HJT:=qh z1a
 clear z1a
 have yu:Hid (Z1.ownsRow V.heap.size 50 2 bv bf.length (zq zm.cells bf)/\(∀k,bv.ownBlock=some k->k≠tb/\(Value.slice ma mn mc).ownBlock≠some k/\k≠gs)/\∀k,bv.ownBlock=some k->∀i,i<ts.length->i≠j->(bs.getD i (.slice none 0 0)).ownBlock≠some k):=by
  have h1:=vJ.out.own.buf j HJT.out
  have h2:=vJ.out.own.ne j HJT.out
  have h3:=vJ.out.n3 j HJT.out
  have h4:=fun k hk i hi (hij:i≠j)=>vJ.out.own.one j i HJT.out hi (fun e=>hij e.symm) k hk
  rw [<-HT.out, <-zbs.out] at h1
  rw [<-zbs.out] at h2 h3 h4
  exact⟨h1,fun k hk=>⟨fun e=>(h2 k hk).1 (by rw [e];rfl),(h2 k hk).2,fun e=>h3 (e ▸ hk)⟩,h4⟩
 obtain⟨ba,bc,hbe, -, -⟩:=qz yu.out.1
 obtain⟨bn,hbn⟩:∃n,n=bf.length:=⟨_,rfl⟩
 rw [<-hbn] at hbe
 subst hbe
 have qp:=qh hbn
 rw [<-hbn] at yu
 clear hbn
 have zcx:Hid (bf.length<=100):=by have:=znE.out j HJT.out;rw [<-HT.out] at this;exact this
 have HBN:Hid (bn<=100):=by have:=zcx.out;have:=qp.out;rw [Hid];omega
 have hrow:=vJ.out.own.row
 rw [<-HNN.out] at hrow
 have vO:=qh hrow
 clear hrow
 go_cut [13,35] (fun s13 zKS w'=>s13= .pointer (some ⟨gs,0,none⟩)/\∃(m':zK) (s':zu) (xa ya:Option Addr) (xn xc yn yc:Nat),Hid (zjs W3 gx gs #[.int .i64 vars, .int .i64 dom, .slice ta cn tc] w' m' s' (.slice xa xn xc) (.slice ya yn yc)))
 case first=>
  by_cases k0:how % 8=0
  ·have f0:Z1.cell? ⟨tb,j*6,none⟩=some (.int .i64 pc):=(zdb.out 0 _ (by omega) rfl).1
   have f1:Z1.frozen? ⟨tb,j*6,none⟩=false:=(zdb.out 0 _ (by omega) rfl).2
   go_wp2_with fail
   go_meet
   case rel=>
    have h:=vJ.out.thread HJT.out (k:=0) (by omega) (t:=⟨kk, [r0,r1,r2,r3],bf⟩) (b:= .slice ba bn bc) (u:= .int .i64 kk) (by rw [<-HT.out, <-zbs.out];rfl) rfl (by show Z1.ownsRow _ _ _ _ bf.length (zq zm.cells bf);rw [<-qp.out];exact yu.out.1) yu.out.2.1 yu.out.2.2
    exact⟨rfl,M,_,_,_,_,_,_,_,wZ h bB.out H1.out HH1.out (zcG wh.out (by have:=zcx.out;simp only [];omega))⟩
  by_cases k1:how % 8=1
  ·obtain⟨r,hr,hr4⟩:∃r:Nat,how / 64=(r:Int)/\r<4:=⟨(how / 64).toNat,by omega,by omega⟩
   have hq1:how.tdiv 64=(r:Int):=by rw [Int.tdiv_eq_ediv_of_nonneg hh0];exact hr
   have hq2:how / 64=(r:Int):=hr
   have hrI:(r:Int)<4:=by omega
   have f0:Z1.cell? ⟨tb,j*6+1+r,none⟩=some (.int .i64 ([r0,r1,r2,r3].getD r 0)):=by rw [Nat.add_assoc];exact(zdb.out (1+r) _ (by omega) (zae hr4)).1
   have f1:Z1.frozen? ⟨tb,j*6+1+r,none⟩=false:=by rw [Nat.add_assoc];exact(zdb.out (1+r) _ (by omega) (zae hr4)).2
   have HR:=qh hr4
   clear hr hr4
   go_wp2_with fail
   go_meet
   case rel=>
    have h:=vJ.out.thread HJT.out (k:=1+r) (by have:=HR.out;omega) (t:=⟨pc, [r0,r1,r2,r3].set r kk,bf⟩) (b:= .slice ba bn bc) (u:= .int .i64 kk) (by rw [<-HT.out, <-zbs.out];exact pK HR.out) (by simp) (by show Z1.ownsRow _ _ _ _ bf.length (zq zm.cells bf);rw [<-qp.out];exact yu.out.1) yu.out.2.1 yu.out.2.2
    rw [<-Nat.add_assoc] at h
    exact⟨rfl,M,_,_,_,_,_,_,_,wZ h bB.out H1.out HH1.out (zcG wh.out (by have:=zcx.out;simp only [];omega))⟩
  by_cases k2:how % 8=2
  ·obtain⟨mb,mc2,hma, -,hmc⟩:=vJ.out.vars (by rw [<-vS.out];omega)
   rw [<-vS.out] at hma
   cases hma
   have hm0:=hmc 0 (by rw [<-vS.out];omega)
   obtain⟨f0,f1⟩:=hm0
   have b1:Z1.cell? ⟨gs,1,none⟩=some (.slice (some ⟨mb,0,none⟩) mn mc):=zi vJ.out.box 1
   have zKT:(0:Int)<(mn:Int):=by omega
   clear hmc
   go_wp2_with fail
   go_meet
   case rel=>
    have h:=vJ.out.mem 0 kk
    exact⟨rfl,M,_,_,_,_,_,_,_,wZ h bB.out H1.out HH1.out wh.out⟩
  by_cases k3:how % 8=3
  ·have f0:Z1.cell? ⟨tb,j*6+5,none⟩=some (.slice ba bn bc):=(zdb.out 5 _ (by omega) rfl).1
   have zBN:bn<=100:=HBN.out
   go_wp2_with(at_builtin;go_must(refine yg _ rfl _ _ 46 rfl 50 (.agg #[.int .i64 0, .int .i64 0]) 2 16 Tryz.underlying46 yU rfl (by decide) V.heap.size (.slice ba bn bc) bn (zq zm.cells bf) rfl (yu.out.1.alloc _) ⟨Z1.heap.size,0,none⟩ 1 1 [.int .i64 kk, .int .i64 0] rfl rfl (jI _ [.int .i64 kk, .int .i64 0] _) (by simp [Value.oneCell']) (by unfold maxLen;omega) (by omega) (by have:=vJ.out.below.size;simp;omega) ?_);intro ja jc X f1 f2 f3 f4 f5 f6;have F1:=qh f1;have F4:=qh f4;have F5:=qh f5;have hs0:Since (fun k=>(Value.slice ba bn bc).ownBlock=some k) Z1 X:=((Since.refl _ Z1).alloc _).trans f4 (fun _ h=> .inl h);have g5:X.cell? ⟨tb,j*6+5,none⟩=some (.slice ba bn bc):=(hs0.cell (vJ.out.own.row.lt tb rfl).2 (fun e=>(yu.out.2.1 _ e).1 rfl)).trans f0;have g6:X.frozen? ⟨tb,j*6+5,none⟩=false:=(hs0.frozen (vJ.out.own.row.lt tb rfl).2 (fun e=>(yu.out.2.1 _ e).1 rfl)).trans (zdb.out 5 _ (by omega) rfl).2;clear f1 f2 f3 f4 f5 f6 hs0 f0)
   go_meet
   case rel=>
    have h:=vJ.out.grow HJT.out (t:=⟨pc, [r0,r1,r2,r3],bf++ [⟨kk,0⟩]⟩) (b:= .slice ja (bn+1) jc) (by rw [<-HT.out, <-zbs.out];rfl) rfl (by rw [List.length_append, <-qp.out,jf];exact F1.out) (by rw [<-zbs.out];exact F4.out) (by rw [<-zbs.out];exact F5.out)
    exact⟨rfl,M,_,_,_,_,_,_,_,wZ h bB.out H1.out HH1.out (zcG wh.out (by have:=zcx.out;simp only [List.length_append,List.length_singleton];omega))⟩
  by_cases k4:how % 8=4
  ·have f0:Z1.cell? ⟨tb,j*6+5,none⟩=some (.slice ba bn bc):=(zdb.out 5 _ (by omega) rfl).1
   have zBN:bn<=100:=HBN.out
   go_wp2_with(at_builtin;go_must(refine yg _ rfl _ _ 46 rfl 50 (.agg #[.int .i64 0, .int .i64 0]) 2 16 Tryz.underlying46 yU rfl (by decide) V.heap.size (.slice ba bn bc) bn (zq zm.cells bf) rfl (yu.out.1.alloc _) ⟨Z1.heap.size,0,none⟩ 1 1 [.int .i64 0, .int .i64 kk] rfl rfl (jI _ [.int .i64 0, .int .i64 kk] _) (by simp [Value.oneCell']) (by unfold maxLen;omega) (by omega) (by have:=vJ.out.below.size;simp;omega) ?_);intro ja jc X f1 f2 f3 f4 f5 f6;have F1:=qh f1;have F4:=qh f4;have F5:=qh f5;have hs0:Since (fun k=>(Value.slice ba bn bc).ownBlock=some k) Z1 X:=((Since.refl _ Z1).alloc _).trans f4 (fun _ h=> .inl h);have g5:X.cell? ⟨tb,j*6+5,none⟩=some (.slice ba bn bc):=(hs0.cell (vJ.out.own.row.lt tb rfl).2 (fun e=>(yu.out.2.1 _ e).1 rfl)).trans f0;have g6:X.frozen? ⟨tb,j*6+5,none⟩=false:=(hs0.frozen (vJ.out.own.row.lt tb rfl).2 (fun e=>(yu.out.2.1 _ e).1 rfl)).trans (zdb.out 5 _ (by omega) rfl).2;clear f1 f2 f3 f4 f5 f6 hs0 f0)
   go_meet
   case rel=>
    have h:=vJ.out.grow HJT.out (t:=⟨pc, [r0,r1,r2,r3],bf++ [⟨0,kk⟩]⟩) (b:= .slice ja (bn+1) jc) (by rw [<-HT.out, <-zbs.out];rfl) rfl (by rw [List.length_append, <-qp.out,jf];exact F1.out) (by rw [<-zbs.out];exact F4.out) (by rw [<-zbs.out];exact F5.out)
    exact⟨rfl,M,_,_,_,_,_,_,_,wZ h bB.out H1.out HH1.out (zcG wh.out (by have:=zcx.out;simp only [List.length_append,List.length_singleton];omega))⟩
  have z0:=zi H2Z.out 0
  have z1:=zi H2Z.out 1
  have z2:=zB H2Z.out 0
  have z3:=zB H2Z.out 1
  by_cases k5:how % 8=5
  ·go_wp2_with fail
   go_meet
   case rel=>exact⟨rfl,⟨M.model,kk⟩,_,_,_,_,_,_,_,ze8 vJ.out bB.out H1.out HH1.out wh.out (by rw [yS.out];exact Nat.le_refl _) 1 (.int .i64 kk) rfl⟩
  by_cases k6:how % 8=6
  ·go_wp2_with fail
   go_meet
   case rel=>exact⟨rfl,⟨kk,M.bound⟩,_,_,_,_,_,_,_,ze8 vJ.out bB.out H1.out HH1.out wh.out (by rw [yS.out];exact Nat.le_refl _) 0 (.int .i64 kk) rfl⟩
  clear z0 z1 z2 z3
  have b0:Z1.cell? ⟨gs,0,none⟩=some (.slice (some ⟨tb,0,none⟩) n rc):=zi vJ.out.box 0
  go_wp2_with(at_builtin;go_must(refine yg _ rfl _ _ 27 rfl 48 (.agg #[.int .i64 0, .int .i64 0, .int .i64 0, .int .i64 0, .int .i64 0, .slice none 0 0]) 6 64 Tryz.underlying27 wC rfl (by decide) V.heap.size (.slice (some ⟨tb,0,none⟩) n rc) n (zR ts bs) rfl (vO.out.alloc _) ⟨Z1.heap.size,0,none⟩ 1 1 zcz rfl rfl (jI _ zcz _) (by simp [zcz,Value.oneCell']) (by unfold maxLen;omega) (by omega) (by have:=vJ.out.below.size;simp;omega) ?_);intro ja jc X f1 f2 f3 f4 f5 f6;have F1:=qh f1;have F4:=qh f4;have F5:=qh f5;have hbx:=(Since.block (((Since.refl _ Z1).alloc _).trans f4 (fun _ h=> .inl h)) _ (zw vJ.out.box) vJ.out.n1).trans vJ.out.box;have g5:=zi hbx 0;have g6:=zB hbx 0;clear f1 f2 f3 f4 f5 f6 hbx b0)
  go_meet
  case rel=>
   have h:=vJ.out.push (t:=default) (bv:= .slice none 0 0) rfl (Since.refl _ _) (World.ownsRow_nil _ _ _ _) (fun k hk=>by simp [Value.ownBlock] at hk) ((Since.refl (fun k=>k=Z1.heap.size) Z1).alloc _) (Nat.le_refl _) (by rw [<-HNN.out];exact F1.out) F4.out F5.out
   exact⟨rfl,M,_,_,_,_,_,_,_,wZ h bB.out H1.out HH1.out (zpo wh.out (by simp [show(default:zx).buf= [] from rfl]))⟩
 case rest=>
  obtain⟨rfl,m',s',xa,ya,xn,xc,yn,yc,HSP⟩:=hcut
  obtain⟨Y1,rfl⟩:∃Y:World,Y=wc:=⟨_,rfl⟩
  clear vJ zdb yu zcx HBN vO H2Z HH1 wh znE z0W hh0 hh1 HNN vS HT zbs qp HJT zBM hjn hn1 zBL bB H1 H2 HB
  have vT:=qh (HB3.out.trans (HSP.out.below.mono HB3.out.size))
  have hsame:=fun y (hy:Below Y1.heap.size Y1 y)=>zt5 y C (.slice ta cn tc) 3 (by have h:=zk.below (xC.stays 3) HCW.out (zF HSP.out.below hy);exact h) m' s' (.slice xa xn xc) (.slice ya yn yc) (HSP.out.st.below hy) HSP.out.zjr ⟨1,0,0⟩
  unfold yL yY yH zaR at hsame
  rw [HCV.out.1,HCV.out.2.1] at hsame
  have zgG:=qh hsame
  clear hsame
  obtain⟨bd,hbd⟩:∃b,b=s'.bad:=⟨_,rfl⟩
  obtain⟨am,ham⟩:∃b,b=m'.model:=⟨_,rfl⟩
  obtain⟨ab,hab⟩:∃b,b=m'.bound:=⟨_,rfl⟩
  have HK:Hid (∀y,Below Y1.heap.size Y1 y->(y.cell? ⟨gx,0,none⟩=some (.int .i64 vars)/\y.cell? ⟨gx,1,none⟩=some (.int .i64 dom)/\y.cell? ⟨gx,2,none⟩=some (.slice ta cn tc))/\(y.cell? ⟨gx+1,0,none⟩=some (.int .i64 am)/\y.cell? ⟨gx+1,1,none⟩=some (.int .i64 ab))/\y.cell? ⟨gs,0,none⟩=some (.slice xa xn xc)/\y.cell? ⟨gs,1,none⟩=some (.slice ya yn yc)/\y.cell? ⟨gs,2,none⟩=some (.bool bd)):=fun y hy=>by
   have k1:=(hy.block _ (zw HSP.out.code)).trans HSP.out.code
   have k2:=(hy.block _ (zw HSP.out.zsd)).trans HSP.out.zsd
   have k3:=(hy.block _ (zw HSP.out.box)).trans HSP.out.box
   rw [<-ham, <-hab] at k2
   rw [<-hbd] at k3
   exact⟨⟨zi k1 0,zi k1 1,zi k1 2⟩,⟨zi k2 0,zi k2 1⟩,zi k3 0,zi k3 1,zi k3 2⟩
  rw [<-hbd, <-ham, <-hab] at zgG
  clear hbd ham hab
  go_wp2_with(first|(go_at_call 15;go_must(refine(zl5 Y1).mono ?_);rintro en Y2 ⟨rfl,hb⟩;(obtain⟨⟨c0,c1,c2⟩,⟨e0,e1⟩,s0,s1,s2⟩:=HK.out Y2 hb);(have HSM:=qh (zgG.out Y2 hb));(have z1c:=qh (vT.out.trans (hb.mono vT.out.size)));clear hb)|(go_at_call 16;go_must(refine HSM.out.mono ?_);rintro en Y3 ⟨rfl,hb⟩;(have yj:=qh (z1c.out.trans (hb.mono z1c.out.size)));clear hb))
  go_ret
  exact⟨rfl,yj.out⟩
end Go.Proofs.YtliajkheeniljaaGreatDoor
