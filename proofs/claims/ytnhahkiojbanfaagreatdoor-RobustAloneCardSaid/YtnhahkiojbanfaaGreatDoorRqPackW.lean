/- Steps. -/
import Derived.Test.YtnhahkiojbanfaaGreatDoorRqExpQ
set_option linter.all false
namespace Go.Proofs.YtnhahkiojbanfaaGreatDoor
open Go.RowKit
set_option maxRecDepth 100000
set_option maxHeartbeats 16000000
def qo (n:Int):List Value:= [.int .u8 n]
theorem zqB (n:Int):(qo n).length=1:=rfl
theorem bS:(Tryz.prog.info? 5).map (λi=>(i.zero,i.size,i.bytes))=some (some (.int .u8 0),1,1):=by kernel_rfl
theorem zo3 (n:Int):IntKind.u8.wrap n=u8 n:=by rw [IntKind.wrap_u8];rfl
theorem bT {α:Type} {f:α->List Value} {B:Nat} {e:TypeId} {size:Nat} {w X:World} {a a':Option Addr} {n m c c':Nat} {l:List α} (r:List α) {o:Obj} (ho:w.ownsRow B e size (.slice a n c) n (zq f l)) (h1:X.ownsRow B e size (.slice a' m c') m (zq f l++zq f r))
  (h4:Since (λk=>(Value.slice a n c).ownBlock=some k) (w.alloc o) X) {V:World} (hV:Below V.heap.size V w) (hB:V.heap.size<=B):X.ownsRow B e size (.slice a' m c') m (zq f (l++r))/\Below V.heap.size V X:=by
 refine⟨by rw [kL];exact h1,hV.trans ((((Since.refl _ w).alloc o).trans h4 (λk hk=> .inl hk)).below hV.size (λk hk=>Nat.le_trans hB (ho.lt k hk).1))⟩
theorem bJ {X X1:World} {B e size n g:Nat} {v:Value} {xs:List Value} {c:Array Value} {t:TypeId} {f:Nat × Nat} {o:Obj} (h:X.ownsRow B e size v n xs) (hb:X.heap[g]? =some (.cells c t f)) (hne:e≠t) (h4:Since (λk=>v.ownBlock=some k) (X.alloc o) X1):X1.heap[g]? =some (.cells c t f):=
 ((((Since.refl _ X).alloc o).trans h4 (λ_ hk=> .inl hk):Since (λk=>v.ownBlock=some k) X X1).block _ (zy hb) (λe=>yX h hb hne _ e rfl)).trans hb
theorem zaL {α:Type} [Inhabited α] {l:List α} {i:Nat} (hi:i<l.length):l.drop i=l.getD i default::l.drop (i+1):=by
 rw [List.drop_eq_getElem_cons hi,List.getD_eq_getElem?_getD,List.getElem?_eq_getElem hi];rfl
theorem zmz (r0 r1 r2 r3:Int) (k:Nat) (hk:k<4) (w:World):(Instr.index 77 (.agg #[.int .i64 r0, .int .i64 r1, .int .i64 r2, .int .i64 r3]) (.int .i64 (k:Int))).run Tryz.prog w= .ok (.int .i64 ([r0,r1,r2,r3].getD k 0)) w:=by
 have h2: #[Value.int .i64 r0, .int .i64 r1, .int .i64 r2, .int .i64 r3][k]? =some (.int .i64 ([r0,r1,r2,r3].getD k 0)):=by
  have:k=0\/k=1\/k=2\/k=3:=by omega
  rcases this with rfl|rfl|rfl|rfl<;>rfl
 obtain⟨i,hi,hs⟩:=zdh
 have h3:=vL w _ k _ h2
 generalize [r0,r1,r2,r3].getD k 0=q at h3 ⊢
 unfold Instr.index
 simp [run_underlying zfF,asIntOf,sizeOf,typeInfo,hi,hs,h3]
 intro h;omega
theorem zjf (w:World) (o:Obj) (l:List Value) (t:TypeId):∀j u,l[j]? =some u->((w.alloc o).alloc (.cells l.toArray t)).cell? ((⟨w.heap.size+1,0,none⟩:Addr).add j)=some u:=by
 have:=vP (w.alloc o) l t
 simpa using this
def zjg (w:World) (K:List Int) (e:Ending) (w':World):Prop:=(∃a c,e= .returned (.slice a K.length c)/\w'.ownsRow w.heap.size 5 1 (.slice a K.length c) K.length (zq qo K))/\Below w.heap.size w w'
theorem zo4 (w:World) (s:zi) (sv mv:Value) (hs:yG w s sv mv) (hl:(wu s).length<=1000000):Calls Tryz.prog 61 #[vI s sv mv] w (zjg w (wu s)):=by
 obtain⟨ta,tc,rfl,htn⟩:=zh.slice hs.threads
 obtain⟨ma,mc,rfl,hmn⟩:=zh.slice hs.mem
 obtain⟨K,hK⟩:∃K,K=wu s:=⟨_,rfl⟩
 rw [<-hK] at hl ⊢
 obtain⟨ts,mem,bad⟩:=s
 have hK2:K= [if bad then 1 else 0] ++(mem.map u8++ts.flatMap qj):=hK
 have h1:=hs.threads
 have h2:=hs.mem
 unfold vI
 simp only [] at h1 h2 htn hmn ⊢
 obtain⟨b0,hb0⟩:∃b0:Int,b0=if bad then 1 else 0:=⟨_,rfl⟩
 rw [<-hb0] at hK2
 obtain⟨m,hm⟩:∃m,m=mem.length:=⟨_,rfl⟩
 obtain⟨n,hn⟩:∃n,n=ts.length:=⟨_,rfl⟩
 rw [<-hm] at h2 hmn ⊢
 rw [<-hn] at h1 htn ⊢
 have hB:=(Below.refl w.heap.size w).alloc (Nat.le_refl _) (.cells #[.slice ta n tc, .slice ma m mc, .bool bad] 42)
 have H1:=qh (zS w (.cells #[.slice ta n tc, .slice ma m mc, .bool bad] 42))
 have HM:=qh (zh.below zbz.stays h2 hB)
 have HT:=qh (zh.below pY.stays h1 hB)
 have HB:=qh hB
 have HMM:=qh hm
 have HN:=qh hn
 have HK:=qh hK2
 have HL:=qh hl
 have HB0:=qh hb0
 clear hs h1 h2 hB hm hn hK hK2 hl hb0
 go_enter Tryz.func61,Tryz.ntmps61
 go_upto_region 1 with fail
 generalize World.alloc w _=W at HB H1 HM HT ⊢
 obtain⟨gx,hgx⟩:∃gx,gx=w.heap.size:=⟨_,rfl⟩
 rw [<-hgx] at H1 ⊢
 have xO:=qh hgx
 clear hgx
 have HC:Hid (∀x,Below W.heap.size W x->x.cell? ⟨gx,0,none⟩=some (.slice ta n tc)/\x.cell? ⟨gx,1,none⟩=some (.slice ma m mc)/\x.cell? ⟨gx,2,none⟩=some (.bool bad)):=λx hx=>
  ⟨zk hx _ _ (ze H1.out 0),zk hx _ _ (ze H1.out 1),zk hx _ _ (ze H1.out 2)⟩
 obtain⟨c0,c1,c2⟩:=HC.out (W.alloc (.cells #[.int .u8 0] 5)) ((Below.refl _ _).alloc (Nat.le_refl _) _)
 go_upto_if 14 with fail
 go_cut [3] (λs3 wr=>∃g:Nat,s3= .slice (some ⟨g,0,none⟩) 1 1/\Hid (wr.ownsRow W.heap.size 5 1 (.slice (some ⟨g,0,none⟩) 1 1) 1 (zq qo [b0]))/\Hid (Below W.heap.size W wr))
 case first=>
  cases bad with
  |true=>
   have HBB:Hid (b0=1):=HB0.out
   go_wp2_with fail
   go_meet
   case rel=>exact⟨W.heap.size,rfl,by rw [HBB.out];exact kS (zS W (.cells #[.int .u8 1] 5)) (Nat.le_refl _) rfl (by unfold maxLen;omega),(Below.refl _ _).alloc (Nat.le_refl _) _⟩
  |false=>
  have HBB:Hid (b0=0):=HB0.out
  go_wp2_with fail
  go_meet
  case rel=>exact⟨W.heap.size,rfl,by rw [HBB.out];exact kS (zS W (.cells #[.int .u8 0] 5)) (Nat.le_refl _) rfl (by unfold maxLen;omega),(Below.refl _ _).alloc (Nat.le_refl _) _⟩
 case rest=>
 obtain⟨g,rfl,HO,yH⟩:=hcut
 obtain⟨W1,rfl⟩:∃Y:World,Y=wc:=⟨_,rfl⟩
 clear c0 c1 c2
 obtain⟨c0,c1,c2⟩:=HC.out W1 yH.out
 go_wp2_with fail
 clear c0 c1 c2
 go_loopg [3,20] m (λgg s3 s20 wr=>∃(i:Nat) (oa:Option Addr) (on oc:Nat) (ol:List Int),i<=m/\Hid (gg=m - i)/\s3= .slice oa on oc/\s20= .int .i64 i/\Hid (on=ol.length)/\Hid (K=ol++((mem.drop i).map u8++ts.flatMap qj))/\Hid (wr.ownsRow W.heap.size 5 1 (.slice oa on oc) on (zq qo ol))/\Hid (Below W.heap.size W wr))
 case atStart=>exact⟨0,some ⟨g,0,none⟩,1,1, [b0],Nat.zero_le _,rfl,rfl,rfl,rfl,HK.out,HO.out,yH.out⟩
 case round=>
 obtain⟨i,oa,on,oc,ol,hi,HG,rfl,rfl,uL,HOL,jN,zT⟩:=hrel
 clear HO yH
 have hon:on<=1000000:=by have h:=congrArg List.length HOL.out;rw [List.length_append] at h;have:=HL.out;have:=uL.out;omega
 by_cases hlt:i<m
 ·have vY:(i:Int)<(m:Int):=by omega
  obtain⟨b,off,zZ, -,e0⟩:=qI.part HM.out i (by rw [<-HMM.out];exact hlt)
  subst zZ
  have hds:mem.drop i=mem.getD i 0::mem.drop (i+1):=zaL (by rw [<-HMM.out];exact hlt)
  have HDS:=qh hds
  clear hds
  generalize mem.getD i 0=q at e0 HDS
  have e1:=zk zT.out _ _ e0
  have hw8:=zo3 q
  clear e0
  go_wp2_with(at_builtin;go_must(refine zX _ rfl _ _ 22 rfl 5 (.int .u8 0) 1 1 Tryz.underlying22 bS rfl (by decide) W.heap.size (.slice oa on oc) on (zq qo ol) rfl ((jN.out).alloc _) ⟨wr.heap.size,0,none⟩ 1 1 (zq qo [u8 q]) rfl rfl (vP _ [.int .u8 (u8 q)] _) (by simp [zq,qo,Value.oneCell']) (by unfold maxLen;omega) (by omega) (by have:=zT.out.size;simp;omega) ?_);intro ja jc X f1 f2 f3 f4 f5 f6;have HE:=qh (bT [u8 q] jN.out f1 f4 zT.out (Nat.le_refl _));clear f1 f2 f3 f4 f5 f6)
  go_roundg (m - (i+1))
  case measure=>rw [HG.out];omega
  case rel=>exact⟨i+1,ja,on+1,jc,ol++ [u8 q],by omega,rfl,rfl,by simp,by rw [Hid,List.length_append,uL.out];rfl,by rw [Hid,HOL.out,HDS.out];simp,HE.out.1,HE.out.2⟩
 obtain rfl:m=i:=by omega
 have zgi:Hid (K=ol++ts.flatMap qj):=by rw [Hid,HOL.out,HMM.out];simp
 obtain⟨c0,c1,c2⟩:=HC.out wr zT.out
 obtain⟨wm,rfl⟩:∃wm:World,wm=wr:=⟨_,rfl⟩
 go_wp2_with fail
 clear c0 c1 c2
 go_loopg [3,33] n (λgg s3 s33 wr=>∃(i:Nat) (oa:Option Addr) (on oc:Nat) (ol:List Int),i<=n/\Hid (gg=n - i)/\s3= .slice oa on oc/\s33= .int .i64 i/\Hid (on=ol.length)/\Hid (K=ol++(ts.drop i).flatMap qj)/\Hid (wr.ownsRow W.heap.size 5 1 (.slice oa on oc) on (zq qo ol))/\Hid (Below W.heap.size W wr))
 case atStart=>exact⟨0,oa,on,oc,ol,Nat.zero_le _,rfl,rfl,rfl,uL.out,zgi.out,jN.out,zT.out⟩
 case round=>
 obtain⟨i,pa,pn,pc_,pl,hi,HG2,rfl,rfl,HPN,jZ,HP,HBP⟩:=hrel
 clear uL HOL jN zT zgi HG hon
 have hpn:pn<=1000000:=by have h:=congrArg List.length jZ.out;rw [List.length_append] at h;have:=HL.out;have:=HPN.out;omega
 by_cases hlt:i<n
 rotate_left
 ·obtain rfl:n=i:=by omega
  have hkl:K=pl:=by rw [jZ.out,HN.out];simp
  have hpl:pn=K.length:=by rw [hkl];exact HPN.out
  have hend:zjg w K (.returned (.slice pa pn pc_)) wr:=by
   rw [hpl]
   refine⟨⟨pa,pc_,rfl, ?_⟩,HB.out.trans (HBP.out.mono HB.out.size)⟩
   have:=kK HP.out HB.out.size
   rw [<-hkl,hpl] at this
   exact this
  have zL:=qh hend
  clear hend hkl hpl
  go_wp2_with fail
  go_ret
  exact zL.out
 have vY:(i:Int)<(n:Int):=by omega
 obtain⟨b,off,ba,bc,zZ, -,hr4,x0,x1,x2,x3,x4,x5,hbu⟩:=qY.part HT.out i (by rw [<-HN.out];exact hlt)
 subst zZ
 have hds:ts.drop i=ts.getD i default::ts.drop (i+1):=zaL (by rw [<-HN.out];exact hlt)
 generalize ts.getD i default=t at hr4 x0 x1 x2 x3 x4 x5 hbu hds
 obtain⟨pc,regs,bf⟩:=t
 simp only [] at hr4 x0 x1 x2 x3 x4 x5 hbu
 obtain⟨r0,r1,r2,r3,rfl⟩:=zaa hr4
 simp only [List.getD_cons_zero,List.getD_cons_succ] at x0 x1 x2 x3 x4
 obtain⟨bn,hbn⟩:∃bn,bn=bf.length:=⟨_,rfl⟩
 have z1h:bn<=9223372036854775807:=by have:=zh.room hbu;omega
 rw [<-hbn] at x5 hbu
 have zv9:Hid (K=pl++([u8 (pc / 256),u8 pc] ++([r0,r1,r2,r3].map u8++([u8 bn] ++(bf.flatMap jI++(ts.drop (i+1)).flatMap qj))))):=by rw [Hid,jZ.out,hds,hbn];simp [qj]
 have HBN:=qh hbn
 have HBU:=qh hbu
 clear hds hr4 hbn hbu jZ
 have y0:=zk HBP.out _ _ x0
 have y1:=zk HBP.out _ _ x1
 have y2:=zk HBP.out _ _ x2
 have y3:=zk HBP.out _ _ x3
 have y4:=zk HBP.out _ _ x4
 have y5:=zk HBP.out _ _ x5
 clear x0 x1 x2 x3 x4 x5
 go_upto_region 12 with fail
 go_upto_region 13 with(at_builtin;go_must(refine zX _ rfl _ _ 22 rfl 5 (.int .u8 0) 1 1 Tryz.underlying22 bS rfl (by decide) W.heap.size (.slice pa pn pc_) pn (zq qo pl) rfl ((HP.out.alloc _).alloc _) ⟨wr.heap.size+1,0,none⟩ 2 2 (zq qo [u8 (pc / 256),u8 pc]) rfl rfl (zjf _ _ (zq qo [u8 (pc / 256),u8 pc]) _) (by simp [zq,qo,Value.oneCell']) (by unfold maxLen;omega) (by omega) (by have:=HBP.out.size;simp;omega) ?_);intro ja jc X f1 f2 f3 f4 f5 f6;have HE:=qh (bT [u8 (pc / 256),u8 pc] (HP.out.alloc _) f1 f4 (HBP.out.alloc HBP.out.size _) (Nat.le_refl _));have HX:=qh (bJ (HP.out.alloc _) (zS wr (.cells #[.int .i64 pc, .int .i64 r0, .int .i64 r1, .int .i64 r2, .int .i64 r3, .slice ba bn bc] 80)) (by decide) f4);clear f1 f2 f3 f4 f5 f6)
 generalize wr.heap.size=gt at HX ⊢
 have zqC:Hid (pn+2=(pl++ [u8 (pc / 256),u8 pc]).length):=by rw [Hid,List.length_append,HPN.out];rfl
 have ziN:Hid (K=(pl++ [u8 (pc / 256),u8 pc])++(([r0,r1,r2,r3].drop 0).map u8++([u8 bn] ++(bf.flatMap jI++(ts.drop (i+1)).flatMap qj)))):=by rw [Hid,zv9.out];simp
 generalize pl++ [u8 (pc / 256),u8 pc] =pl2 at zqC ziN HE
 have HP2:=qh HE.out.1
 have zvA:=qh HE.out.2
 clear HE y0 y1 y2 y3 y4 y5 zv9
 obtain⟨wt,rfl⟩:∃wt:World,wt=X:=⟨_,rfl⟩
 have d1:=ze HX.out 1
 have d2:=ze HX.out 2
 have d3:=ze HX.out 3
 have d4:=ze HX.out 4
 go_wp2_with fail
 clear d1 d2 d3 d4
 go_loopg [3,49] 4 (λgg s3 s49 wr=>∃(k:Nat) (oa:Option Addr) (on oc:Nat) (ol:List Int),k<=4/\Hid (gg=4 - k)/\s3= .slice oa on oc/\s49= .int .i64 k/\Hid (on=ol.length)/\Hid (K=ol++(([r0,r1,r2,r3].drop k).map u8++([u8 bn] ++(bf.flatMap jI++(ts.drop (i+1)).flatMap qj))))/\Hid (wr.ownsRow W.heap.size 5 1 (.slice oa on oc) on (zq qo ol))/\Hid (Below W.heap.size W wr)/\Hid (wr.heap[gt]? =some (.cells #[.int .i64 pc, .int .i64 r0, .int .i64 r1, .int .i64 r2, .int .i64 r3, .slice ba bn bc] 80 (0,0))))
 case atStart=>exact⟨0,ja,pn+2,jc,pl2,by omega,rfl,rfl,rfl,zqC.out,ziN.out,HP2.out,zvA.out,HX.out⟩
 case round=>
 obtain⟨k,oa,on,oc,ol,hk,vk,rfl,rfl,uL,HOL,jN,zT,xM⟩:=hrel
 clear zqC ziN HP2 zvA HX
 have hon:on<=1000000:=by have h:=congrArg List.length HOL.out;rw [List.length_append] at h;have:=HL.out;have:=uL.out;omega
 by_cases hk4:k<4
 ·have hkI:(k:Int)<4:=by omega
  have hix:=zmz r0 r1 r2 r3 k hk4
  have hds: [r0,r1,r2,r3].drop k= [r0,r1,r2,r3].getD k 0:: [r0,r1,r2,r3].drop (k+1):=zaL (by simpa using hk4)
  have HDS:=qh hds
  clear hds
  generalize [r0,r1,r2,r3].getD k 0=q at hix HDS
  go_wp2_with(at_builtin;go_must(refine zX _ rfl _ _ 22 rfl 5 (.int .u8 0) 1 1 Tryz.underlying22 bS rfl (by decide) W.heap.size (.slice oa on oc) on (zq qo ol) rfl ((jN.out).alloc _) ⟨wr.heap.size,0,none⟩ 1 1 (zq qo [u8 q]) rfl rfl (vP _ (zq qo [u8 q]) _) (by simp [zq,qo,Value.oneCell']) (by unfold maxLen;omega) (by omega) (by have:=zT.out.size;simp;omega) ?_);intro ja jc X f1 f2 f3 f4 f5 f6;have HE:=qh (bT [u8 q] (jN.out) f1 f4 (zT.out) (Nat.le_refl _));have HX:=qh (bJ jN.out xM.out (by decide) f4);clear f1 f2 f3 f4 f5 f6)
  go_roundg (4 - (k+1))
  case measure=>rw [vk.out];omega
  case rel=>exact⟨k+1,ja,on+1,jc,ol++ [u8 q],by omega,rfl,rfl,by simp,by rw [Hid,List.length_append,uL.out];rfl,by rw [Hid,HOL.out,HDS.out];simp,HE.out.1,HE.out.2,HX.out⟩
 obtain rfl:k=4:=by omega
 have d5:=ze xM.out 5
 obtain⟨wq,rfl⟩:∃wq:World,wq=wr:=⟨_,rfl⟩
 go_upto_region 19 with(at_builtin;go_must(refine zX _ rfl _ _ 22 rfl 5 (.int .u8 0) 1 1 Tryz.underlying22 bS rfl (by decide) W.heap.size (.slice oa on oc) on (zq qo ol) rfl ((jN.out).alloc _) ⟨wq.heap.size,0,none⟩ 1 1 (zq qo [u8 bn]) rfl rfl (vP _ (zq qo [u8 bn]) _) (by simp [zq,qo,Value.oneCell']) (by unfold maxLen;omega) (by omega) (by have:=zT.out.size;simp;omega) ?_);intro ja jc X f1 f2 f3 f4 f5 f6;have HE:=qh (bT [u8 bn] (jN.out) f1 f4 (zT.out) (Nat.le_refl _));have HX:=qh (bJ jN.out xM.out (by decide) f4);clear f1 f2 f3 f4 f5 f6)
 have zqD:Hid (on+1=(ol++ [u8 bn]).length):=by rw [Hid,List.length_append,uL.out];rfl
 have zgi:Hid (K=(ol++ [u8 bn])++((bf.drop 0).flatMap jI++(ts.drop (i+1)).flatMap qj)):=by rw [Hid,HOL.out];simp
 generalize ol++ [u8 bn] =ol2 at zqD zgi HE
 have HO3:=qh HE.out.1
 have HB3:=qh HE.out.2
 clear HE uL HOL jN zT xM d5 hon
 have d5:=ze HX.out 5
 obtain⟨we,rfl⟩:∃we:World,we=X:=⟨_,rfl⟩
 go_wp2_with fail
 clear d5
 go_loopg [3,68] bn (λgg s3 s68 wr=>∃(k:Nat) (oa:Option Addr) (on oc:Nat) (ol:List Int),k<=bn/\Hid (gg=bn - k)/\s3= .slice oa on oc/\s68= .int .i64 k/\Hid (on=ol.length)/\Hid (K=ol++((bf.drop k).flatMap jI++(ts.drop (i+1)).flatMap qj))/\Hid (wr.ownsRow W.heap.size 5 1 (.slice oa on oc) on (zq qo ol))/\Hid (Below W.heap.size W wr)/\Hid (wr.heap[gt]? =some (.cells #[.int .i64 pc, .int .i64 r0, .int .i64 r1, .int .i64 r2, .int .i64 r3, .slice ba bn bc] 80 (0,0))))
 case atStart=>exact⟨0,ja,on+1,jc,ol2,by omega,rfl,rfl,rfl,zqD.out,zgi.out,HO3.out,HB3.out,HX.out⟩
 case round=>
 obtain⟨k,qa,qn,qc,ql,hk,jr,rfl,rfl,HQN,HQL,HQ,HBQ,xM⟩:=hrel
 clear zqD zgi HO3 HB3 HX
 have hqn:qn<=1000000:=by have h:=congrArg List.length HQL.out;rw [List.length_append] at h;have:=HL.out;have:=HQN.out;omega
 by_cases hkb:k<bn
 rotate_left
 ·obtain rfl:bn=k:=by omega
  have zy4:Hid (K=ql++(ts.drop (i+1)).flatMap qj):=by rw [Hid,HQL.out,HBN.out];simp
  go_wp2_with fail
  go_roundg (n - (i+1))
  case measure=>rw [HG2.out];omega
  case rel=>exact⟨i+1,qa,qn,qc,ql,by omega,rfl,rfl,by simp,HQN.out,zy4.out,HQ.out,HBQ.out⟩
 have hkI:(k:Int)<(bn:Int):=by omega
 obtain⟨eb,eo,zZ, -,z0,z1⟩:=yu.part HBU.out k (by rw [<-HBN.out];exact hkb)
 subst zZ
 have hds:bf.drop k=bf.getD k default::bf.drop (k+1):=zaL (by rw [<-HBN.out];exact hkb)
 have HDS:=qh hds
 clear hds
 generalize bf.getD k default=en at z0 z1 HDS
 obtain⟨ev,ex⟩:=en
 simp only [] at z0 z1
 have y0:=zk HBQ.out _ _ z0
 have y1:=zk HBQ.out _ _ z1
 clear z0 z1
 go_wp2_with(at_builtin;go_must(refine zX _ rfl _ _ 22 rfl 5 (.int .u8 0) 1 1 Tryz.underlying22 bS rfl (by decide) W.heap.size (.slice qa qn qc) qn (zq qo ql) rfl ((HQ.out.alloc _).alloc _) ⟨wr.heap.size+1,0,none⟩ 2 2 (zq qo [u8 ev,u8 ex]) rfl rfl (zjf _ _ (zq qo [u8 ev,u8 ex]) _) (by simp [zq,qo,Value.oneCell']) (by unfold maxLen;omega) (by omega) (by have:=HBQ.out.size;simp;omega) ?_);intro ja jc X f1 f2 f3 f4 f5 f6;have HE:=qh (bT [u8 ev,u8 ex] (HQ.out.alloc _) f1 f4 (HBQ.out.alloc HBQ.out.size _) (Nat.le_refl _));have HX:=qh (bJ (HQ.out.alloc _) ((Below.heap_alloc _ _ _ (zy xM.out)).trans xM.out) (by decide) f4);clear f1 f2 f3 f4 f5 f6)
 go_roundg (bn - (k+1))
 case measure=>rw [jr.out];omega
 case rel=>exact⟨k+1,ja,qn+2,jc,ql++ [u8 ev,u8 ex],by omega,rfl,rfl,by simp,by rw [Hid,List.length_append,HQN.out];rfl,by rw [Hid,HQL.out,HDS.out];simp [jI],HE.out.1,HE.out.2,HX.out⟩
def znA (w:World) (k:ByteArray) (e:Ending) (w':World):Prop:=e= .returned (.string k)/\Below w.heap.size w w'
theorem zfR (w:World) (s:zi) (sv mv:Value) (hs:yG w s sv mv) (hl:(wu s).length<=1000000):Calls Tryz.prog 38 #[vI s sv mv] w (znA w (keyOf s)):=by
 obtain⟨ta,tc,rfl, -⟩:=zh.slice hs.threads
 obtain⟨ma,mc,rfl, -⟩:=zh.slice hs.mem
 have hcall:=λW (hW:Below w.heap.size w W)=>zo4 W s _ _ (hs.below hW) hl
 have hpos:0<(wu s).length:=by simp [wu]
 unfold keyOf
 generalize wu s=K at hcall hpos ⊢
 unfold vI at hcall ⊢
 generalize s.threads.length=n at hcall ⊢
 generalize s.mem.length=m at hcall ⊢
 generalize s.bad=bad at hcall ⊢
 have hB:=(Below.refl w.heap.size w).alloc (Nat.le_refl _) (.cells #[.slice ta n tc, .slice ma m mc, .bool bad] 42)
 have H1:=qh (zS w (.cells #[.slice ta n tc, .slice ma m mc, .bool bad] 42))
 have zht:=qh (hcall _ hB)
 have HB:=qh hB
 have zvD:=qh hpos
 clear hcall hB hs hl hpos
 go_enter Tryz.func38,Tryz.ntmps38
 go_upto_region 1 with fail
 generalize World.alloc w _=W at HB H1 zht ⊢
 obtain⟨gx,hgx⟩:∃gx,gx=w.heap.size:=⟨_,rfl⟩
 rw [<-hgx] at H1 ⊢
 have xO:=qh hgx
 clear hgx
 have c0:=ze H1.out 0
 have c1:=ze H1.out 1
 have c2:=ze H1.out 2
 go_wp2_with fail
 go_must(refine zht.out.mono ?_)
 rintro e X ⟨⟨a,c,rfl,hr⟩,hb⟩
 have zL:=qh (HB.out.trans (hb.mono HB.out.size))
 obtain⟨g,cap,he, -, -⟩:=jU hr zvD.out
 cases he
 have zrR:∀dst,Tryz.prog.underlying dst=some .string->(convert 22 dst (.slice (some ⟨g,0,none⟩) K.length c)).run Tryz.prog X= .ok (.string (strOfNums K)) X:=run_convert_bytes_arg X 22 5 Tryz.underlying22 Tryz.underlying5 g 0 K.length c K rfl (λi hi=>by
  rw [Nat.zero_add]
  have h:=hr.cellAt i (by omega)
  have h2:=gI (f:=qo) (size:=1) zqB (l:=K) (j:=i) (i:=0) hi (by omega)
  rw [Nat.mul_one,Nat.add_zero] at h2
  rw [h,h2];simp [qo])
 have hc2:=zrR 9 Tryz.underlying9
 clear zrR c0 c1 c2 hr hb zvD
 go_wp2_with fail
 go_ret
 exact⟨rfl,zL.out⟩
