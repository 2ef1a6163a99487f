/- Steps. -/
import Derived.Test.YtliajkheeniljaaGreatDoorZpAwake10
set_option linter.all false
namespace Go.Proofs.YtliajkheeniljaaGreatDoor
open Go.RowKit
set_option maxRecDepth 100000
set_option maxHeartbeats 16000000
theorem zh4 (w:World) (sv:Value) (l0:List Int) (hn:kG w .u8 sv l0) (q:Int) (q0:0<=q) (q1:q<=255) (wv:Value) (lw:List Int) (hw:kG w .u8 wv lw) (z:Int) (z0:0<=z) (z1:z<=255) (x:zq):
  Calls Tryz.prog 10 #[sv, .int .u8 q,wv, .int .u8 z,zaD x] w λe w'=>e= .returned (.bool true)/\Below w.heap.size w w':=by
 obtain⟨xk,xt,xv⟩:=x
 unfold zaD
 dsimp only
 have hb0:=(Below.refl w.heap.size w).alloc (Nat.le_refl _) (.cells #[.int .i64 xk, .int .i64 xt, .int .i64 xv] 32)
 have hq1:=yj w (.cells #[.int .i64 xk, .int .i64 xt, .int .i64 xv] 32)
 have hn0:=hn.below hb0
 have hw0:=hw.below hb0
 obtain⟨sa,sc,rfl, -⟩:∃a c,sv= .slice a l0.length c/\True:=by obtain⟨a,c,h, -⟩:=hn;exact⟨a,c,h,trivial⟩
 clear hn hw
 generalize l0.length=ln at hn0 ⊢
 obtain⟨wa,wc,rfl,hll,hwf,hcell⟩:=hw0
 obtain⟨wn,hwn⟩:∃n,n=lw.length:=⟨_,rfl⟩
 rw [<-hwn] at hcell ⊢
 have hlr:∀i,i<wn->0<=lw.getD i 0/\lw.getD i 0<=255:=λi hi=>u8_in (hwf _ (qR (by omega)))
 have hwl:wn<=9223372036854775807:=by first|omega|(rw [hwn];omega)
 have ztq:=qh hb0
 have HQ1:=qh hq1
 have HN:=qh hn0
 have zou:=qh hcell
 have jl:=qh hlr
 have HZL:Hid (0<=z/\z<=255):=⟨z0,z1⟩
 clear hb0 hq1 hn0 hcell hlr hwf hll hwn z0 z1
 go_enter Tryz.func10,Tryz.ntmps10
 go_upto_region 1 with fail
 generalize World.alloc w _=W0 at ztq HQ1 HN zou ⊢
 generalize w.heap.size=gm at HQ1 ⊢
 have HB0:Hid (Below W0.heap.size W0 W0):=Below.refl _ _
 have HLQ:Hid (0<=q/\q<=255):=⟨q0,q1⟩
 go_upto_region 2 with(first|(go_at_call 22;go_must(refine(zmv W2 q HLQ.out.1 HLQ.out.2).mono ?_);rintro en W3 ⟨rfl,hb⟩;(have HB3:=qh (zG HB2.out hb));(have HC3:=qh (zh.below (qo.stays 3) HC2.out hb));clear hb;unfold yY)|(go_at_call 20;go_must(refine(HM4.out).mono ?_);rintro en W2 ⟨⟨c,ta,tc,css,rfl,hok,hrow⟩,hb⟩;(have jv:=qh hok);(have HC2:=qh hrow.slice);(have HB2:=qh (zG HB1.out hb));clear hrow hok hb HM4;unfold yD)|(go_at_call 21;go_must(refine(zqG W0).mono ?_);rintro en W1 ⟨⟨kv,rfl,hks⟩,hb⟩;(have HB1:=qh (zG HB0.out hb));(have HM4:=qh (zqH W1 _ l0 (HN.out.below (zG HB0.out hb)) kv zeW hks (by decide) (by decide) ztr));clear hks hb))
 have hmay:=zqI jv.out q
 have zjX:=xM jv.out
 obtain⟨m,hm⟩:∃m,m=zdQ q:=⟨_,rfl⟩
 have hmV:m.model=q % 3/\m.bound=1+q / 3 % 3:=by rw [hm];exact⟨rfl,rfl⟩
 rw [<-hm] at hmay
 obtain⟨C,hC⟩:∃C,C=c:=⟨_,rfl⟩
 obtain⟨M,hM⟩:∃M,M=m:=⟨_,rfl⟩
 rw [<-hM] at hmay
 rw [<-hC] at hmay zjX HC3
 obtain⟨vars,hvars⟩:∃v,v=C.vars:=⟨_,rfl⟩
 obtain⟨dom,hdom⟩:∃v,v=C.domain:=⟨_,rfl⟩
 obtain⟨mo,hmo⟩:∃v,v=M.model:=⟨_,rfl⟩
 obtain⟨bo,hbo⟩:∃v,v=M.bound:=⟨_,rfl⟩
 obtain⟨cn,hcn⟩:∃n,n=C.threads.length:=⟨_,rfl⟩
 have HCV:Hid (C.vars=vars/\C.domain=dom/\M.model=mo/\M.bound=bo):=⟨hvars.symm,hdom.symm,hmo.symm,hbo.symm⟩
 simp only [<-hC, <-hm, <-hM, <-hvars, <-hdom, <-hmo, <-hbo, <-hcn,show(zdQ q).model=mo by rw [hmo,hM,hm],show(zdQ q).bound=bo by rw [hbo,hM,hm]]
 have hc3:=HC3.out
 rw [<-hcn] at hc3 zjX
 have hB:=((Below.refl W3.heap.size W3).alloc (Nat.le_refl _) (.cells #[.int .i64 vars, .int .i64 dom, .slice ta cn tc] 24)).alloc (by simp) (.cells #[.int .i64 mo, .int .i64 bo] 26)
 have H1:=qh (xI W3 (.cells #[.int .i64 vars, .int .i64 dom, .slice ta cn tc] 24) (.cells #[.int .i64 mo, .int .i64 bo] 26))
 have H2:=qh (xw W3 (.cells #[.int .i64 vars, .int .i64 dom, .slice ta cn tc] 24) (.cells #[.int .i64 mo, .int .i64 bo] 26))
 have HC:=qh (zh.below (qo.stays 3) hc3 hB)
 have HB:=qh (zG HB3.out hB)
 have zae:=qh hmay
 have HCN:=qh hcn
 have HLC:=qh zjX
 clear hB hmay hcn zjX hC hM hm hmV hc3 HC3 HC2 HB3 HB2 HB1 HB0 jv HN HLQ hvars hdom hmo hbo
 generalize World.alloc (World.alloc W3 _) _=V at HB H1 H2 HC ⊢
 generalize W3.heap.size=gx at H1 H2 ⊢
 have xS:Hid (∀y,Below V.heap.size V y->y.cell? ⟨gx,0,none⟩=some (.int .i64 vars)/\y.cell? ⟨gx,1,none⟩=some (.int .i64 dom)/\y.cell? ⟨gx,2,none⟩=some (.slice ta cn tc)/\y.cell? ⟨gx+1,0,none⟩=some (.int .i64 mo)/\y.cell? ⟨gx+1,1,none⟩=some (.int .i64 bo)):=λy hy=>⟨zi hy _ _ (ze H1.out 0),zi hy _ _ (ze H1.out 1),zi hy _ _ (ze H1.out 2),zi hy _ _ (ze H2.out 0),zi hy _ _ (ze H2.out 1)⟩
 have HXB:Hid (∀y,Below V.heap.size V y->y.cell? ⟨gm,0,none⟩=some (.int .i64 xk)/\y.cell? ⟨gm,1,none⟩=some (.int .i64 xt)/\y.cell? ⟨gm,2,none⟩=some (.int .i64 xv)):=λy hy=>by
  have hk:=((HB.out.trans (hy.mono HB.out.size)).block _ (zx HQ1.out)).trans HQ1.out
  exact⟨ze hk 0,ze hk 1,ze hk 2⟩
 have hst:=λy hy=>zwK y C (.slice ta cn tc) hy
 have hdo:=λy hy s hb sv mv hs x=>z4f y C (.slice ta cn tc) hy M s hb sv mv hs x
 have hmv:=λy hy s hb sv mv hs=>zwL y C (.slice ta cn tc) hy M s hb sv mv hs
 have hrp:=λy hy lv l hl=>zcT y C (.slice ta cn tc) 3 hy M lv l hl
 have hrq:=λy hy lv l hl=>zkZ y C (.slice ta cn tc) 3 hy M lv l hl
 have hpf:=zyH zae.out
 unfold yD yY yB zaD at hdo
 unfold yD yY yB at hmv
 unfold yD at hst
 unfold yD yY at hrp hrq
 simp only [HCV.out.1,HCV.out.2.1,HCV.out.2.2.1,HCV.out.2.2.2] at hst hdo hmv hrp hrq
 obtain⟨MV,hMV⟩:∃MV:zl->List zq,MV=λs=>qE C M s 3:=⟨_,rfl⟩
 obtain⟨DO,hDO⟩:∃DO:zl->zq->zl,DO=λs x=>(qC C M s x 3).1:=⟨_,rfl⟩
 obtain⟨RPL,zts⟩:∃RPL:List zq->zl × Int,RPL=λl=>jA C M l 3:=⟨_,rfl⟩
 have zyK:∀s,qE C M s 3=MV s:=λs=>by rw [hMV]
 have zyL:∀s x,(qC C M s x 3).1=DO s x:=λs x=>by rw [hDO]
 have zv6:∀l,jA C M l 3=RPL l:=λl=>by rw [zts]
 rw [<-hMV, <-hDO, <-zts] at hpf
 simp only [zyK] at hmv
 simp only [zyL] at hdo
 simp only [zv6] at hrp hrq
 obtain⟨S0,hS0⟩:∃s,s=qJ C:=⟨_,rfl⟩
 rw [<-hS0] at hst hpf
 clear hS0 hMV zyK hDO zyL zts zv6 HCV zae HLC HCN
 generalize C.threads=cs at HC hst hdo hmv hrp hrq
 clear C
 have HST:=qh hst
 have HDO:=qh hdo
 have HMV:=qh hmv
 have HRP:=qh hrp
 have HRQ:=qh hrq
 have HPF:=qh hpf
 clear hst hdo hmv hrp hrq hpf
 have HCR:Hid (∀y,Below V.heap.size V y->yQ 3 y (.slice ta cn tc) cs):=λy hy=>zh.below (qo.stays 3) HC.out hy
 clear HC H1 H2 HQ1
 obtain⟨c0,c1,c2,e0,e1⟩:=xS.out V (Below.refl _ _)
 go_upto_region 4 with(go_at_call 19;go_must(refine(HST.out V (HCR.out _ (Below.refl _ _))).mono ?_);rintro e W3 ⟨⟨va,vb,vn,vc,vk,vf,rfl,hs⟩,hb⟩;(have HP0:=qh (wU.start hb hs));clear hs hb)
 clear c0 c1 c2 e0 e1 HST
 generalize World.alloc W3 _=X3 at HP0 ⊢
 generalize W3.heap.size=gs at HP0 ⊢
 go_upto_block 0 with fail
 go_cut [13] (λs13 w'=>∃(i lc:Nat) (la:Option Addr) (s:zl) (l:List zq) (pa qa:Option Addr) (pn pc qn qc:Nat),s13= .slice la i lc/\i<=30/\Hid (l.length=i)/\Hid (wU V w' gs (.slice la i lc) s l (.slice pa pn pc) (.slice qa qn qc))/\Hid (RPL l=(s,0)))
 case first=>
  go_wp2_with fail
  go_loopg [13,15] 31 (λgg s13 s15 wr=>∃(i lc:Nat) (la:Option Addr) (s:zl) (l:List zq) (pa qa:Option Addr) (pn pc qn qc:Nat),i<=wn/\i<=30/\Hid (gg=31 - i)/\s13= .slice la i lc/\s15= .int .i64 i/\Hid (l.length=i)/\Hid (wU V wr gs (.slice la i lc) s l (.slice pa pn pc) (.slice qa qn qc))/\Hid (RPL l=(s,0))/\Hid (kC 33 s))
  case atStart=>exact⟨0,0,none,S0, [],va,vb,vn,vc,vk,vf,Nat.zero_le _,by omega,rfl,rfl,rfl,rfl,HP0.out,HPF.out.zero,HPF.out.z1r⟩
  case round=>
  obtain⟨i,lc,la,s,l,pa,qa,pn,pc,qn,qc,hi,zov,HG,rfl,rfl,HLL,qY,HRL,HBF⟩:=hrel
  obtain⟨wo,rfl⟩:∃X:World,X=wr:=⟨_,rfl⟩
  clear HP0
  by_cases hlt:i<wn/\i<30
  rotate_left
  ·by_cases hl1:i<wn
   ·obtain rfl:i=30:=by omega
    have z4g:((30:Nat):Int)<(wn:Int):=by omega
    have z8N:(30:Int)<(wn:Int):=by omega
    go_wp2_with fail
    go_meet
    case rel=>exact⟨30,lc,la,s,l,pa,qa,pn,pc,qn,qc,rfl,zov,HLL.out,qY.out,HRL.out⟩
   obtain rfl:i=wn:=by omega
   go_wp2_with fail
   go_meet
   case rel=>exact⟨i,lc,la,s,l,pa,qa,pn,pc,qn,qc,rfl,zov,HLL.out,qY.out,HRL.out⟩
  obtain⟨hl1,hl2⟩:=hlt
  have z4g:(i:Int)<(wn:Int):=by omega
  have z8O:(i:Int)<30:=by omega
  obtain⟨c0,c1,c2,e0,e1⟩:=xS.out wo qY.out.below
  have b0:=ze qY.out.box 0
  have b1:=ze qY.out.box 1
  have b2:=ze qY.out.box 2
  obtain⟨bs,hbs⟩:∃b,b=s.bad:=⟨_,rfl⟩
  rw [<-hbs] at b2
  have hmv:=HMV.out wo (HCR.out _ qY.out.below) s HBF.out _ _ (zeX qY.out.st.now)
  rw [<-hbs] at hmv
  obtain⟨ms,hms⟩:∃x,x=MV s:=⟨_,rfl⟩
  obtain⟨mn,hmn⟩:∃x,x=ms.length:=⟨_,rfl⟩
  rw [<-hms, <-hmn] at hmv
  have zyN:=qh hmv
  have HMS:=qh hms
  have vw:=qh hmn
  have HBS:=qh hbs
  clear hmv hms hmn hbs
  go_upto_region 8 with(go_at_call 36;go_must(refine(zyN.out).mono ?_);rintro en X7 ⟨⟨ma,mc,rfl,hm⟩,hb⟩;(have HMA:=qh hm.now);(have HP7:=qh (qY.out.call hb));clear hm hb)
  clear c0 c1 c2 e0 e1 b0 b1 b2 zyN qY
  obtain⟨_,_, -,hm63⟩:=zh.slice HMA.out
  rw [<-vw.out] at hm63
  by_cases h0:mn=0
  ·subst h0
   go_wp2_with fail
   go_meet
   case rel=>exact⟨i,lc,la,s,l,pa,qa,pn,pc,qn,qc,rfl,zov,HLL.out,HP7.out,HRL.out⟩
  have h0I:((mn:Int)==0)=false:=by rw [beq_eq_false_iff_ne];omega
  have hq0:(0:Int)<(mn:Int):=by omega
  have hnz:(mn:Int)≠0:=by omega
  obtain⟨lb,lo,hla,hlb,hlx⟩:=zou.out i hl1
  subst hla
  obtain⟨lr1,lr2⟩:=jl.out i hl1
  generalize lw.getD i 0=nx at hlx lr1 lr2
  obtain⟨r,hr⟩:∃r:Nat,nx % (mn:Int)=(r:Int):=⟨(nx % (mn:Int)).toNat,by have:=Int.emod_nonneg nx hnz;omega⟩
  have hrq:r<mn:=by have:=Int.emod_lt_of_pos nx hq0;omega
  have z4h:(r:Int)<(mn:Int):=by omega
  obtain⟨mb,mof,hva, -,g0,g1,g2⟩:=qj.part HMA.out r (by rw [<-vw.out];exact hrq)
  subst hva
  have hmem:ms.getD r default∈ms:=qR (by rw [<-vw.out];exact hrq)
  generalize ms.getD r default=mx at g0 g1 g2 hmem
  have hstep:=HPF.out.step l s mx HRL.out (by rw [<-HMS.out];exact hmem)
  have wh:=qh hstep
  have zla:=qh (HPF.out.z4i s mx)
  obtain⟨yk,yt,yv⟩:=mx
  simp only [] at g0 g1 g2
  have htm:nx.tmod (mn:Int)=(r:Int):=by rw [Int.tmod_eq_emod_of_nonneg lr1];exact hr
  have hwx:=wrap_u8 lr1 lr2
  have z4j:X7.cell? ⟨lb,lo+i,none⟩=some (.int .u8 nx):=(HB.out.trans (HP7.out.below.mono HB.out.size)).cell (p:=⟨lb,lo+i,none⟩) hlb ▸ hlx
  have hrow:=HP7.out.row
  rw [HLL.out] at hrow
  have vT:=qh hrow
  clear hrow hmem hstep hlx hr lr1 lr2 HRL HMS
  go_upto_region 10 with(at_builtin;go_must(refine zM _ rfl _ _ 52 rfl 32 (.agg #[.int .i64 0, .int .i64 0, .int .i64 0]) 3 24 Tryz.underlying52 gN rfl (by decide) V.heap.size (.slice la i lc) i (zo zq.cells l) rfl ((vT.out).alloc _) ⟨X7.heap.size,0,none⟩ 1 1 [.int .i64 yk, .int .i64 yt, .int .i64 yv] rfl rfl (vZ _ [.int .i64 yk, .int .i64 yt, .int .i64 yv] _) (by simp [Value.oneCell']) (by unfold maxLen;omega) (by omega) (by have:=HP7.out.below.size;simp;omega) ?_);intro ja jc X9 f1 f2 f3 f4 f5 f6;have HP9:=qh (HP7.out.push (x:=⟨yk,yt,yv⟩) (by rw [HLL.out];exact f1) f4 f5);clear f1 f2 f3 f4 f5 f6)
  clear g0 g1 g2 z4j vT HP7 HMA
  have HL1:Hid ((l++ [(⟨yk,yt,yv⟩:zq)]).length=i+1):=by rw [Hid,List.length_append,HLL.out];rfl
  have zyO:qj X9 (.slice ja (i+1) jc) (l++ [⟨yk,yt,yv⟩]):=by
   have h:=jJ HP9.out.row
   exact h
  obtain⟨nb,nof,hja, -,g0,g1,g2⟩:=qj.part zyO i (by rw [HL1.out];omega)
  have hget:(l++ [(⟨yk,yt,yv⟩:zq)]).getD i default=⟨yk,yt,yv⟩:=by
   have h:=HLL.out
   subst h
   exact wW
  rw [hget] at g0 g1 g2
  simp only [] at g0 g1 g2
  have HJA:=qh hja
  subst hja
  clear zyO hget
  have hiI:(i:Int)<((i:Int)+1):=by omega
  have hiJ:(i:Int)<((i+1:Nat):Int):=by omega
  have zlb:=λy hy sv mv h=>HDO.out y hy s HBF.out sv mv h ⟨yk,yt,yv⟩
  rw [<-HBS.out] at zlb
  dsimp only at zlb
  obtain⟨U,hU⟩:∃U,U=DO s ⟨yk,yt,yv⟩:=⟨_,rfl⟩
  rw [<-hU] at zlb wh zla
  clear hU
  have zyP:Hid (∀y,Below X9.heap.size X9 y->Calls Tryz.prog 37 #[.agg #[.int .i64 vars, .int .i64 dom, .slice ta cn tc], .agg #[.int .i64 mo, .int .i64 bo], .agg #[.slice pa pn pc, .slice qa qn qc, .bool bs], .agg #[.int .i64 yk, .int .i64 yt, .int .i64 yv]] y (zv8 U U.bad y)):=λy hy=>zlb y (HCR.out _ (zG HP9.out.below hy)) _ _ (zeX ((HP9.out.call hy).st.now))
  have CC:Hid (∀y,Below X9.heap.size X9 y->y.cell? ⟨gx,0,none⟩=some (.int .i64 vars)/\y.cell? ⟨gx,1,none⟩=some (.int .i64 dom)/\y.cell? ⟨gx,2,none⟩=some (.slice ta cn tc)/\y.cell? ⟨gx+1,0,none⟩=some (.int .i64 mo)/\y.cell? ⟨gx+1,1,none⟩=some (.int .i64 bo)/\y.cell? ⟨gs,0,none⟩=some (.slice pa pn pc)/\y.cell? ⟨gs,1,none⟩=some (.slice qa qn qc)/\y.cell? ⟨gs,2,none⟩=some (.bool bs)/\y.cell? ⟨nb,nof+i*3,none⟩=some (.int .i64 yk)/\y.cell? ⟨nb,nof+i*3+1,none⟩=some (.int .i64 yt)/\y.cell? ⟨nb,nof+i*3+2,none⟩=some (.int .i64 yv)):=λy hy=>by
   obtain⟨c0,c1,c2,e0,e1⟩:=xS.out y (zG HP9.out.below hy)
   exact⟨c0,c1,c2,e0,e1,zi hy _ _ (ze HP9.out.box 0),zi hy _ _ (ze HP9.out.box 1),by rw [HBS.out];exact zi hy _ _ (ze HP9.out.box 2),zi hy _ _ g0,zi hy _ _ g1,zi hy _ _ g2⟩
  clear zlb g0 g1 g2 HBF
  refine wp_region_noPanic ?_
  refine yL (n0:=11) (S:=λx=>Below X9.heap.size X9 x) (by kernel_rfl) (Below.refl _ _).drew (λ_=> ?_)
  obtain⟨V1,hV1⟩:∃V1,V1=X9.drew:=⟨_,rfl⟩
  have hT0:Hid (Below X9.heap.size X9 V1):=by rw [hV1];exact(Below.refl _ _).drew
  have zlc:=hT0
  rw [<-hV1]
  clear hV1
  refine vL [7,8,9,10,11] 0 CC.out (hT0.out) ?_
  refine vL [7,8,9,10,11] 1 CC.out (hT0.out) ?_
  refine vL [7,8,9,10,11] 2 CC.out (hT0.out) ?_
  refine zO 3 (λ_=>hT0.out) ?_
  refine zO 4 (λ_=>hT0.out) ?_
  refine zO 5 (λ_=>hT0.out) ?_
  refine vL [7,8,9,10,11] 6 CC.out (hT0.out) ?_
  refine qW 7 rfl (λK hK=> ?_)
  go_simp
  refine(zyP.out V1 hT0.out).mono ?_
  rintro en Y ⟨⟨da,db,dp,de,dk,df,der,rfl,hs⟩,hb⟩
  have HAW:=qh hs
  have HBV:=qh hb
  have hT1:=qh (zG hT0.out hb)
  clear hs hb
  refine hK.out _ _ (λ_ _=>hT1.out) ?_
  clear hK K
  refine zO 8 (λ_=>hT1.out) ?_
  refine zO 9 (λ_=>hT1.out) ?_
  refine zO 10 (λ_=>hT1.out) ?_
  refine qW 11 rfl (λK hK=> ?_)
  obtain⟨-, -, -, -, -,u0,u1,u2, -, -, -⟩:=CC.out Y hT1.out
  have hbx:=(hT1.out.block _ (zx HP9.out.box)).trans HP9.out.box
  have f0:=zB hbx 0
  have f1:=zB hbx 1
  have f2:=zB hbx 2
  go_simp
  refine hK.out _ _ (λh=>absurd rfl h) ?_
  clear u0 u1 u2 f0 f1 f2 hbx
  have gH:=hT1
  clear hK K
  refine xg (by kernel_rfl) ?_ _
  refine NoPanic.normal ?_
  have hput:=(HP9.out.call zlc.out).put HBV.out HAW.out
  have jF:=qh hput
  clear hput HAW HBV zyP CC
  go_wp2_with fail
  go_roundg (31 - (i+1))
  case measure=>rw [HG.out];omega
  case rel=>exact⟨i+1,jc,_,U,l++ [(⟨yk,yt,yv⟩:zq)],da,db,dp,de,dk,df,by omega,by omega,rfl,rfl,by simp,HL1.out,jF.out,wh.out,zla.out⟩
 case rest=>
 obtain⟨i,lc,la,s,l,pa,qa,pn,pc,qn,qc,rfl,zov,HLL,qY,HRL⟩:=hcut
 obtain⟨X10,rfl⟩:∃X:World,X=wc:=⟨_,rfl⟩
 clear HP0 HMV HDO HPF zou jl
 obtain⟨bs,hbs⟩:∃b,b=s.bad:=⟨_,rfl⟩
 have HBS:=qh hbs
 have HMA:Hid (qj X10 (.slice la i lc) l):=by
  have h:=jJ qY.out.row
  have h:=jJ qY.out.row
  exact h
 have HR1:Hid (Calls Tryz.prog 34 #[.agg #[.int .i64 vars, .int .i64 dom, .slice ta cn tc], .agg #[.int .i64 mo, .int .i64 bo], .slice la i lc] X10 (zow s bs 0 X10)):=(HRP.out X10 (HCR.out _ qY.out.below) _ l HMA.out).mono λ_ _ h=>zi1 HRL.out hbs h
 clear hbs HMA
 obtain⟨c0,c1,c2,e0,e1⟩:=xS.out X10 qY.out.below
 go_upto_region 12 with(go_at_call 34;go_must(refine(HR1.out).mono ?_);rintro e W11 ⟨⟨ra,rb,rn,rc,rk,rf,rfl,hs⟩,hb⟩;(have pQ:=qh hs);(have yx:=qh hb);clear hs hb)
 have hz:=yj W11 (.cells #[.slice ra rn rc, .slice rb rk rf, .bool bs] 30)
 have ha:=(Below.refl W11.heap.size W11).alloc (Nat.le_refl _) (.cells #[.slice ra rn rc, .slice rb rk rf, .bool bs] 30)
 have qD:=qh (pQ.out.below ha)
 have zg9:=qh (qY.out.call (zG yx.out ha))
 have HZ:=qh hz
 clear hz ha yx pQ HR1 qY HRL c0 c1 c2 e0 e1
 generalize World.alloc W11 _=X11 at HZ qD zg9 ⊢
 generalize W11.heap.size=g17 at HZ ⊢
 have d0:=ze HZ.out 0
 have d1:=ze HZ.out 1
 have d2:=ze HZ.out 2
 have b0:=ze zg9.out.box 0
 have b1:=ze zg9.out.box 1
 have b2:=ze zg9.out.box 2
 rw [<-HBS.out] at b2
 have HS2:=qh (zeX zg9.out.st.now)
 go_upto_region 14 with(go_at_call 17;go_must(refine(zjo X11 s bs HBS.out _ _ _ _ _ _ _ _ _ _ _ _ qD.out HS2.out).mono ?_);rintro e X12 ⟨rfl,hb⟩;(have zld:=qh (zg9.out.call hb));clear hb)
 clear d0 d1 d2 b0 b1 b2 qD HS2 HZ zg9 HBS
 have hrow:=zld.out.row
 rw [HLL.out] at hrow
 have vT:=qh hrow
 have zle:=qh zld.out.below
 clear hrow
 have hdi:decide ((0:Int)<(i:Int))=decide (0<i):=by by_cases h:0<i<;>simp [h] <;>omega
 go_cut [89] (λs89 w'=>s89= .bool (decide (0<i))/\w'=X12)
 case first=>
  go_wp2_with fail
  go_meet
  case rel=>exact⟨by first|rfl|(congr 1;simp;omega)|simp,rfl⟩
 case rest=>
 obtain⟨rfl,hwv⟩:=hcut
 obtain rfl:X12=wc:=hwv.symm
 clear hdi
 go_upto_if 89 with fail
 go_cut [90] (λs90 w'=>∃l2:List zq,Hid (qj w' (.slice la i lc) l2)/\Hid (Below V.heap.size V w'))
 case first=>
  by_cases h1:0<i
  rotate_left
  ·rw [decide_eq_false h1]
   go_wp2_with fail
   go_meet
   case rel=>
   have h:=jJ zld.out.row
   exact⟨l,h,zle.out⟩
  rw [decide_eq_true h1]
  have hiI:(0:Int)<(i:Int):=by omega
  have hnz:(i:Int)≠0:=by omega
  have z4k:¬i=0:=by omega
  obtain⟨lz1,lz2⟩:=HZL.out
  obtain⟨r,hr⟩:∃r:Nat,z % (i:Int)=(r:Int):=⟨(z % (i:Int)).toNat,by have:=Int.emod_nonneg z hnz;omega⟩
  have hrq:r<i:=by have:=Int.emod_lt_of_pos z hiI;omega
  have z4h:(r:Int)<(i:Int):=by omega
  have htm:z.tmod (i:Int)=(r:Int):=by rw [Int.tmod_eq_emod_of_nonneg lz1];exact hr
  have hwx:=wrap_u8 lz1 lz2
  rcases vT.out.2 with⟨-,h0⟩|⟨g,cap,cur,hsl,hVg,hgb,hcap,hcm,hcs,htk⟩
  ·exact absurd h0 z4k
  cases hsl
  have CC:Hid (∀y,Below X12.heap.size X12 y->y.cell? ⟨gm,0,none⟩=some (.int .i64 xk)/\y.cell? ⟨gm,1,none⟩=some (.int .i64 xt)/\y.cell? ⟨gm,2,none⟩=some (.int .i64 xv)):=λy hy=>HXB.out y (zG zle.out hy)
  have hma:qj X12 (.slice (some ⟨g,0,none⟩) i lc) l:=by
   have h:=jJ zld.out.row
   exact h
  obtain⟨nb,nof,hja, -,g0,g1,g2⟩:=qj.part hma r (by rw [HLL.out];exact hrq)
  cases hja
  have HG0:=qh g0
  have qm:=qh g1
  have HG2:=qh g2
  have xL:=qh hgb
  have HVG:=qh hVg
  clear hma g0 g1 g2 hgb hVg hcap hcm hcs htk hr
  go_upto_region 15 with fail
  refine wp_region_noPanic ?_
  refine yL (n0:=8) (S:=λx=>Below X12.heap.size X12 x) (by kernel_rfl) (Below.refl _ _).drew (λ_=> ?_)
  obtain⟨V1,hV1⟩:∃V1,V1=X12.drew:=⟨_,rfl⟩
  have hT0:Hid (Below X12.heap.size X12 V1):=by rw [hV1];exact(Below.refl _ _).drew
  have zlc:=hT0
  rw [<-hV1]
  clear hV1
  refine zO 0 (λ_=>hT0.out) ?_
  refine zO 1 (λ_=>hT0.out) ?_
  refine zO 2 (λ_=>hT0.out) ?_
  refine zO 3 (λ_=>hT0.out) ?_
  refine zO 4 (λ_=>hT0.out) ?_
  refine zO 5 (λ_=>hT0.out) ?_
  refine vL [7,8] 6 CC.out (hT0.out) ?_
  refine zO 7 (λ_=>hT0.out) ?_
  refine qW 8 rfl (λK hK=> ?_)
  have u0:=zi hT0.out _ _ HG0.out
  have u1:=zi hT0.out _ _ qm.out
  have u2:=zi hT0.out _ _ HG2.out
  have hbx:=(hT0.out.block _ (zx xL.out)).trans xL.out
  have f0:=zB hbx (r*3)
  have f1:=zB hbx (r*3+1)
  have f2:=zB hbx (r*3+2)
  simp only [Nat.zero_add] at u0 u1 u2
  go_simp
  refine hK.out _ _ (λh=>absurd rfl h) ?_
  clear u0 u1 u2 f0 f1 f2 hbx
  have hT1:=hT0
  clear hK K
  refine xg (by kernel_rfl) ?_ _
  refine NoPanic.normal ?_
  have hov:=zqN (xO vT.out zlc.out) HLL.out.symm hrq ⟨xk,xt,xv⟩
  have HOV:=qh hov
  clear hov
  have hsi:Since (λk=>k=g) V1 (((V1.setCell ⟨g,r*3,none⟩ (.int .i64 xk)).setCell ⟨g,r*3+1,none⟩ (.int .i64 xt)).setCell ⟨g,r*3+2,none⟩ (.int .i64 xv)):=Since.setCell (F:=λk=>k=g) (p:=⟨g,r*3+2,none⟩) (Since.setCell (F:=λk=>k=g) (p:=⟨g,r*3+1,none⟩) (Since.setCell (F:=λk=>k=g) (p:=⟨g,r*3,none⟩) (Since.refl _ V1) (.inl rfl) _) (.inl rfl) _) (.inl rfl) _
  have hbl:=(zG zle.out zlc.out).trans (hsi.below (zG zle.out zlc.out).size (λk hk=>by have:=HVG.out;omega))
  have qQ:=qh hbl
  clear hsi hbl CC
  go_wp2_with fail
  go_meet
  case rel=>exact⟨l.set r ⟨xk,xt,xv⟩,HOV.out,qQ.out⟩
 case rest=>
 obtain⟨l2,HMA,zox⟩:=hcut
 obtain⟨X15,rfl⟩:∃X:World,X=wc:=⟨_,rfl⟩
 clear zld vT zle HLL HXB
 obtain⟨⟨T,eT⟩,hT⟩:∃p,p=RPL l2:=⟨_,rfl⟩
 obtain⟨bT,hbT⟩:∃b,b=T.bad:=⟨_,rfl⟩
 have HR1:Hid (∀y lv,yQ 3 y (.slice ta cn tc) cs->qj y lv l2->Calls Tryz.prog 34 #[.agg #[.int .i64 vars, .int .i64 dom, .slice ta cn tc], .agg #[.int .i64 mo, .int .i64 bo],lv] y (zow T bT eT y)):=λy lv hy hl=>(HRP.out y hy lv l2 hl).mono λ_ _ h=>zi1 hT.symm hbT h
 have HR2:Hid (∀y lv,yQ 3 y (.slice ta cn tc) cs->qj y lv l2->Calls Tryz.prog 35 #[.agg #[.int .i64 vars, .int .i64 dom, .slice ta cn tc], .agg #[.int .i64 mo, .int .i64 bo],lv] y (zow T bT eT y)):=λy lv hy hl=>(HRQ.out y hy lv l2 hl).mono λ_ _ h=>zi1 hT.symm hbT h
 have HBT:=qh hbT
 clear hT hbT HRP HRQ
 obtain⟨c0,c1,c2,e0,e1⟩:=xS.out X15 zox.out
 go_upto_region 17 with(go_at_call 34;go_must(refine(HR1.out _ _ (HCR.out _ zox.out) HMA.out).mono ?_);rintro e W16 ⟨⟨au,bu,nu,cu,ku,fu,rfl,hs⟩,hb⟩;(have pQ:=qh hs);(have yx:=qh hb);clear hs hb)
 have hz:=yj W16 (.cells #[.slice au nu cu, .slice bu ku fu, .bool bT] 30)
 have ha:=(Below.refl W16.heap.size W16).alloc (Nat.le_refl _) (.cells #[.slice au nu cu, .slice bu ku fu, .bool bT] 30)
 have hs:=pQ.out.below ha
 have hd:=zG yx.out ha
 have zlf:=qh (zG zox.out hd)
 have hma:=zh.below zaY.stays HMA.out hd
 clear HMA
 have HMA:=qh hma
 have HZ:=qh hz
 have HS:=qh hs
 clear hz ha hs hd hma yx pQ c0 c1 c2 e0 e1 zox
 generalize World.alloc W16 _=X16 at HZ HS HMA zlf ⊢
 generalize W16.heap.size=g16 at HZ ⊢
 have CSu:Hid (∀y,Below X16.heap.size X16 y->y.cell? ⟨g16,0,none⟩=some (.slice au nu cu)/\y.cell? ⟨g16,1,none⟩=some (.slice bu ku fu)/\y.cell? ⟨g16,2,none⟩=some (.bool bT)/\zY y T (.slice au nu cu) (.slice bu ku fu)):=λy hy=>⟨zi hy _ _ (ze HZ.out 0),zi hy _ _ (ze HZ.out 1),zi hy _ _ (ze HZ.out 2),HS.out.below hy⟩
 have zvB:Hid (Below X16.heap.size X16 X16):=Below.refl _ _
 clear HZ HS
 obtain⟨c0,c1,c2,e0,e1⟩:=xS.out X16 zlf.out
 go_upto_region 18 with(go_at_call 35;go_must(refine(HR2.out _ _ (HCR.out _ zlf.out) HMA.out).mono ?_);rintro e W17 ⟨⟨av,bv,nv,cv,kv,fv,rfl,hs⟩,hb⟩;(have pQ:=qh hs);(have yx:=qh hb);clear hs hb)
 have hz:=yj W17 (.cells #[.slice av nv cv, .slice bv kv fv, .bool bT] 30)
 have ha:=(Below.refl W17.heap.size W17).alloc (Nat.le_refl _) (.cells #[.slice av nv cv, .slice bv kv fv, .bool bT] 30)
 have hs:=pQ.out.below ha
 have hd:=zG yx.out ha
 have zyR:=qh (zG zlf.out hd)
 have zvC:=qh (zG zvB.out hd)
 have hma:=zh.below zaY.stays HMA.out hd
 clear HMA
 have HMA:=qh hma
 have HZ:=qh hz
 have HS:=qh hs
 clear hz ha hs hd hma yx pQ c0 c1 c2 e0 e1 zlf zvB
 generalize World.alloc W17 _=X17 at HZ HS HMA zyR zvC ⊢
 generalize W17.heap.size=g17 at HZ ⊢
 have CSv:Hid (∀y,Below X17.heap.size X17 y->y.cell? ⟨g17,0,none⟩=some (.slice av nv cv)/\y.cell? ⟨g17,1,none⟩=some (.slice bv kv fv)/\y.cell? ⟨g17,2,none⟩=some (.bool bT)/\zY y T (.slice av nv cv) (.slice bv kv fv)):=λy hy=>⟨zi hy _ _ (ze HZ.out 0),zi hy _ _ (ze HZ.out 1),zi hy _ _ (ze HZ.out 2),HS.out.below hy⟩
 have z1s:Hid (Below X17.heap.size X17 X17):=Below.refl _ _
 clear HZ HS
 clear HMA HR1 HR2
 go_wp2_with(first
  |(go_at_call 33;go_must(refine(zmw X17).mono ?_);rintro e Y18 ⟨rfl,hb⟩;(have z4l:=qh hb);(obtain⟨u0,u1,u2,hu⟩:=CSu.out Y18 (zG zvC.out hb));(obtain⟨v0,v1,v2,hv⟩:=CSv.out Y18 (zG z1s.out hb));(have HSu:=qh hu);(have HSv:=qh hv);clear hu hv hb)
  |(go_at_call 17;go_must(refine(zjo Y18 T bT HBT.out _ _ _ _ _ _ _ _ _ _ _ _ HSu.out HSv.out).mono ?_);rintro e Y19 ⟨rfl,hb⟩;(have z4m:=qh (zG z4l.out hb));clear hb u0 u1 u2 v0 v1 v2 HSu HSv))
 go_ret
 exact⟨rfl,ztq.out.trans ((zG HB.out (zG zyR.out z4m.out)).mono ztq.out.size)⟩
