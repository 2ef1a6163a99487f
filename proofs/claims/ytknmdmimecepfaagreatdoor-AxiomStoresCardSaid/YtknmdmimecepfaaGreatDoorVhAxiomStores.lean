/- Steps. -/
import Derived.Test.YtknmdmimecepfaaGreatDoorVhAwake12
import Derived.Test.YtknmdmimecepfaaGreatDoorVhAxWithin
set_option linter.all false
namespace Go.Proofs.YtknmdmimecepfaaGreatDoor
open Go.RowKit
set_option maxRecDepth 100000
set_option maxHeartbeats 16000000
theorem zgk {w:World} {k:IntKind} {a:Option Addr} {n cap:Nat} {l:List Int} (h:wS w k (.slice a n cap) l) (j:Nat) (hj:j<l.length):∃b off,a=some ⟨b,off,none⟩/\b<w.heap.size/\w.cell? ⟨b,off+j,none⟩=some (.int k (l.getD j 0)):=by
 obtain⟨a',cap',e, -, -,h4⟩:=h
 cases e
 exact h4 j hj
theorem zgH {x:Int} (h:(Lit.int .u8 x).wf=true):0<=x/\x<=255:=by
 have h:(decide (IntKind.u8.min<=x) && decide (x<=IntKind.u8.max))=true:=h
 have e1:IntKind.u8.min=0:=by decide
 have e2:IntKind.u8.max=255:=by decide
 rw [e1,e2] at h
 simp only [Bool.and_eq_true,decide_eq_true_eq] at h
 exact h
theorem zj9 {w:World} {sv:Value} {l:List Int} (h:wS w .u8 sv l) (j:Nat) (hj:j<l.length):0<=l.getD j 0/\l.getD j 0<=255:=by
 obtain⟨_,_, -, -,h3, -⟩:=h
 exact zgH (h3 _ (zV hj))
theorem zkU {X:World} {g:Nat} {f:Nat->Value} {ty:TypeId} {fr:Nat × Nat} (h:X.heap[g]? =some (.cells #[f 0,f 1] ty fr)) {t:Nat} (ht:t<2):X.cell? ⟨g,t,none⟩=some (f t):=by
 have:t=0\/t=1:=by omega
 rcases this with rfl|rfl
 ·exact ze h 0
 exact ze h 1
theorem zjA {X:World} {g:Nat} {R:Nat->List zi} {ty:TypeId} {fr:Nat × Nat} (h:X.heap[g]? =some (.cells #[.int .i64 (lastOf R 0 0), .int .i64 (lastOf R 0 1), .int .i64 (lastOf R 1 0), .int .i64 (lastOf R 1 1)] ty fr)) {t v:Nat} (ht:t<2) (hv:v<2):X.cell? ⟨g,t*2+v,none⟩=some (.int .i64 (lastOf R t v)):=by
 have h1:t=0\/t=1:=by omega
 have h2:v=0\/v=1:=by omega
 rcases h1 with rfl|rfl<;>rcases h2 with rfl|rfl
 ·exact ze h 0
 ·exact ze h 1
 ·exact ze h 2
 exact ze h 3
def zjB (C:zl) (m:Int) (w:World) (e:Ending) (w':World):Prop:=∃r a cap n,e= .returned (.tuple #[.slice a n cap, .bool (yZ C m 1).fails, .int .i64 0])/\n=r.length/\vH 2 (yZ C m 1).out r/\yK w' (.slice a r.length cap) r/\Below w.heap.size w w'
structure kK (C:zl):Prop where
 c:codeOk C=true
 f:yw C=true
 s:zd6 C
 w:qQ C=false
 e:zY C C.threads.length<=8
 v:C.vars=2
 t:C.threads.length=2
 rg:∀i,i<C.threads.length->∀k,k<(C.threads.getD i []).length->(0<=((C.threads.getD i []).getD k default).var/\((C.threads.getD i []).getD k default).var<4)/\0<=((C.threads.getD i []).getD k default).a.n
theorem kK.end {C:zl} (h:kK C) {m:Int} (hm:0<=m/\m<=2) {w:World} {tv:Value} (hr:yB 1 w tv C.threads):Calls Tryz.prog 8 #[qP C tv, .int .i64 m] w (zjB C m w):=
 (vF w C tv 1 hr (by rw [h.t];omega) (λi hi=>Nat.le_trans (zfA h.c hi) (by omega)) m).mono λe w' ho=>by
  obtain⟨r,a,cap,h1,h2,h3,h4⟩:=ho.ok (by rw [h.f,h.c];rintro(h|h|h);cases h;omega;omega) (by rw [h.w];rintro(e|e);have:=h.e;omega;cases e)
  rw [h.v] at h2
  exact⟨r,a,cap,_,h1,rfl,h2,h3,h4⟩
theorem kK.sub {C:zl} (h:kK C) {m1 m2:Int} (hm:(m1=0/\m2=1)\/(m1=1/\m2=2)):∀x∈(yZ C m1 1).out,x∈(yZ C m2 1).out:=λx hx=>by
 obtain⟨B,h1,h2,h3⟩:=((wQ (d:=1) h.c h.f h.e).1 x).1 hx
 have hs:=zat (model:=m1) (d:=0) h.c h.f h.s h.e
 have e:=zdj h.s m1 m2 1 C.threads.length (Nat.le_refl _)
 refine((wQ (d:=1) h.c h.f h.e).1 x).2 ⟨B, ?_,h2,h3⟩
 rw [<-e]
 exact zj2 (by rw [h.t];omega) hm h1 hs
theorem kK.some {C:zl} (h:kK C) (m:Int):∃x,x∈(yZ C m 1).out:=by
 obtain⟨hg, -⟩:=(vG (model:=m) (d:=1) h.c h.f h.e _ (Nat.le_refl _)).good h.e
 obtain⟨B,h1,h2⟩:=zkL (d:=1) h.c _ _ hg (zat (model:=m) (d:=0) h.c h.f h.s h.e) (Nat.lt_succ_self _)
 exact⟨_,((wQ (d:=1) h.c h.f h.e).1 _).2 ⟨B,h1,h2,rfl⟩⟩
theorem zhY {l:List Int} {n v:Nat} (h:v<n):(l.take n).getD v 0=l.getD v 0:=by
 rw [List.getD_eq_getElem?_getD,List.getElem?_take_of_lt h, <-List.getD_eq_getElem?_getD]
theorem kK.last {C:zl} (h:kK C) {x:zy} (hx:x∈(yZ C 2 1).out) {v:Nat} (hv:v<2):
  ((∀i,i<2->xA (C.threads.getD i []) v (C.threads.getD i []).length= -1)/\x.mem.getD v 0=0)\/
  ∃i,i<2/\0<=xA (C.threads.getD i []) v (C.threads.getD i []).length/\x.mem.getD v 0=xA (C.threads.getD i []) v (C.threads.getD i []).length:=by
 obtain⟨B,h1,h2,rfl⟩:=((wQ (d:=1) h.c h.f h.e).1 x).1 hx
 have hV:=zhN h.c h1 (λi hi k hk=>(h.rg i hi k hk).1) (zhO (d:=0) h.c h.f h.s h.e)
 have hm:(vD C B).mem.getD v 0=B.mem.getD v 0:=by
  show(B.mem.take C.vars.toNat).getD v 0=_
  rw [h.v];exact zhY (by show v<2;exact hv)
 rw [hm]
 rcases zkM hV h2 (v:=v) (by omega) with⟨a,b⟩|⟨i,k,hi,hk,a,b⟩
 ·exact .inl ⟨λi hi=>a i (by rw [h.t];exact hi),b⟩
 exact .inr ⟨i,by rw [<-h.t];exact hi,by rw [a];exact(h.rg i hi k hk).2,b⟩
theorem zdp {C:zl} (h:kK C) {m1 m2:Int} (hm:(m1=0/\m2=1)\/(m1=1/\m2=2)) {r1 r2:List zy} (h1:vH 2 (yZ C m1 1).out r1) (h2:vH 2 (yZ C m2 1).out r2):wG r1 r2=true:=by
 refine zdq λi hi=> ?_
 have hx:=h1.2.1 _ (zV (x:=default) hi)
 have hx2:=h.sub hm _ hx
 obtain⟨y,hy,e⟩:=h2.2.2 _ hx2
 obtain⟨k,hk,rfl⟩:=List.getElem_of_mem hy
 have hk2:r2.getD k default=r2[k] :=by rw [List.getD_eq_getElem?_getD,List.getElem?_eq_getElem hk];rfl
 refine(zkV _).2 ⟨k,hk, ?_⟩
 rw [hk2]
 have hm1:=(wR (d:=1) h.c h.f h.e _ hx).1
 have hm2:=(wR (d:=1) h.c h.f h.e _ (h2.2.1 _ hy)).1
 exact(zhZ hm1 hm2).2 e.symm
theorem zbE {C:zl} (h:kK C) {m:Int} {r:List zy} (h1:vH 2 (yZ C m 1).out r):∀x∈r,j4 x:=λx hx=>by
 have:=wR (d:=1) h.c h.f h.e _ (h1.2.1 _ hx)
 rw [h.v,h.t] at this
 exact⟨by rw [this.1];decide,by rw [this.2.1];decide⟩
theorem xR.ok {w X:World} {gr gc gl:Nat} {d:Int} {vs:Nat->Value} {R:Nat->List zi} {cc:Nat->List (List Value)} (h:xR w X gr gc gl d vs R cc) (hd:2<=d/\d<=16) (hl:(R 0).length+(R 1).length<=6):kK (xO d R):=by
 have hlen:∀t,t<2->(R t).length<=6:=λt ht=>by
  have:t=0\/t=1:=by omega
  rcases this with rfl|rfl<;>omega
 obtain⟨a,b,c,e,f⟩:=zk5 hd (R:=R) (λt ht=>⟨Nat.le_trans (hlen t ht) (by omega),h.good t ht⟩)
 refine⟨a,b,c,e,by omega,rfl,rfl,λi hi k hk=> ?_⟩
 have hi:i<2:=hi
 rw [xR.zk4 hi] at hk ⊢
 obtain⟨-,g1,g2,g3, -⟩:=h.good i hi _ (zV (x:=default) hk)
 exact⟨⟨g1,by omega⟩,g3⟩
theorem xR.zero {w X:World} (hb:Below w.heap.size w X) {gr gc gl:Nat} {d:Int} (h1:X.heap[gr]? =some (.cells #[.slice none 0 0, .slice none 0 0] 40 (0,0))) (h2:X.heap[gc]? =some (.cells #[.int .i64 2, .int .i64 d, .slice (some ⟨gr,0,none⟩) 2 2] 25 (0,0))) (h3:X.heap[gl]? =some (.cells #[.int .i64 (-1), .int .i64 (-1), .int .i64 (-1), .int .i64 (-1)] 48 (0,0)))
  (hl:w.heap.size<=gr/\w.heap.size<=gc/\w.heap.size<=gl):xR w X gr gc gl d (λ_=> .slice none 0 0) (λ_=> []) (λ_=> []):=
 ⟨hb,h1,h2,h3,hl,λ_ _=>vI.nil _ _ _ _ _ _,λk hk=>(by cases hk),λ_ _ x hx=>absurd hx List.not_mem_nil⟩
theorem zcE (w:World) (sv:Value) (l0:List Int) (hn:wS w .u8 sv l0) (dm:Int) (hdw:(Lit.int .u8 dm).wf=true):
  Calls Tryz.prog 6 #[sv, .int .u8 dm] w λe w'=>e= .returned (.bool true)/\Below w.heap.size w w':=by
 obtain⟨hd0,hd1⟩:=zgH hdw
 obtain⟨q,hq⟩:∃q:Nat,dm % 3=(q:Int):=⟨(dm % 3).toNat,by omega⟩
 have hq3:q<3:=by omega
 have hq1:dm.tmod 3=(q:Int):=by rw [Int.tmod_eq_emod_of_nonneg hd0];exact hq
 obtain⟨sa,sc,rfl, -⟩:∃a c,sv= .slice a l0.length c/\True:=by obtain⟨a,c,h, -⟩:=hn;exact⟨a,c,h,trivial⟩
 obtain⟨ln,hln⟩:∃n,n=l0.length:=⟨_,rfl⟩
 have zrd:l0.length<=9223372036854775807:=by obtain⟨a,c,h,h2, -⟩:=hn;exact h2
 rw [<-hln] at hn zrd ⊢
 have HNM:=qh hn
 have qm:=qh hln
 have HAW:=qh (zgl w)
 clear hn hln hdw
 go_enter Tryz.func6,Tryz.ntmps6
 go_upto_region 4 with(go_at_call 10;go_must(refine HAW.out.mono ?_);rintro e X1 ⟨rfl,hb⟩;(have qW:=qh hb);clear hb)
 go_upto_region 5 with fail
 clear hq hq1
 obtain⟨d,hd⟩:∃d:Int,d=2+(q:Int):=⟨_,rfl⟩
 have hd2:2<=d:=by omega
 have hd4:d<=4:=by omega
 try rw [<-hd]
 clear hd hq3
 have hr0:=yG X1 (.cells #[.slice none 0 0, .slice none 0 0] 40)
 have hb0:=zw X1 (.cells #[.slice none 0 0, .slice none 0 0] 40)
 have hsz:(X1.alloc (.cells #[.slice none 0 0, .slice none 0 0] 40)).heap.size=X1.heap.size+1:=by simp
 have hc0:=yG (X1.alloc (.cells #[.slice none 0 0, .slice none 0 0] 40)) (.cells #[.int .i64 2, .int .i64 d, .slice (some ⟨X1.heap.size,0,none⟩) 2 2] 25)
 have hb1:=zw (X1.alloc (.cells #[.slice none 0 0, .slice none 0 0] 40)) (.cells #[.int .i64 2, .int .i64 d, .slice (some ⟨X1.heap.size,0,none⟩) 2 2] 25)
 have hr1:=(hb1.block _ (zI hr0)).trans hr0
 rw [hsz] at hc0
 have HBA:=qh (zn qW.out (zn hb0 hb1))
 have HR1:=qh hr1
 have HC1:=qh hc0
 have HLO:=qh qW.out.size
 clear hr0 hb0 hsz hc0 hb1 hr1
 go_upto_region 6 with fail
 obtain⟨gr,hgr⟩:∃q,q=X1.heap.size:=⟨_,rfl⟩
 obtain⟨gc,hgc⟩:∃q,q=X1.heap.size+1:=⟨_,rfl⟩
 generalize World.alloc (World.alloc X1 _) _=X2 at HBA HR1 HC1 ⊢
 rw [<-hgc, <-hgr] at HC1
 rw [<-hgr] at HR1
 rw [<-hgc]
 try rw [<-hgr]
 have HGR:=qh hgr
 have HGC:=qh hgc
 clear hgr hgc
 have hl0:=yG X2 (.cells #[.int .i64 (-1), .int .i64 (-1), .int .i64 (-1), .int .i64 (-1)] 48)
 have hb2:=zw X2 (.cells #[.int .i64 (-1), .int .i64 (-1), .int .i64 (-1), .int .i64 (-1)] 48)
 have HL0:=qh hl0
 have HB2:=qh hb2
 clear hl0 hb2
 go_upto_region 7 with fail
 generalize World.alloc X2 _=X3 at HL0 HB2 ⊢
 obtain⟨gl,hgl⟩:∃q,q=X2.heap.size:=⟨_,rfl⟩
 rw [<-hgl] at HL0 ⊢
 have zd8:xR w X3 gr gc gl d (λ_=> .slice none 0 0) (λ_=> []) (λ_=> []):=xR.zero (zn HBA.out HB2.out) ((HB2.out.block _ (zI HR1.out)).trans HR1.out) ((HB2.out.block _ (zI HC1.out)).trans HC1.out) HL0.out ⟨by rw [HGR.out];exact HLO.out,by rw [HGC.out];have:=HLO.out;omega,by rw [hgl];exact HBA.out.size⟩
 have zo0:=qh zd8
 clear zd8 hgl HL0 HB2 HBA HR1 HC1 HGR HGC HLO qW HAW
 go_upto_block 0 with fail
 go_cut [9] (λ_s9 w'=>∃(vs:Nat->Value) (R:Nat->List zi) (cc:Nat->List (List Value)),Hid (xR w w' gr gc gl d vs R cc)/\Hid ((R 0).length+(R 1).length<=6))
 case first=>
  go_wp2_with fail
  go_loopg [9] (6 - 0) (λgg s9 wr=>∃(i:Nat) (vs:Nat->Value) (R:Nat->List zi) (cc:Nat->List (List Value)),i<=6/\i<=ln/\Hid (gg=6 - i)/\s9= .int .i64 i/\Hid (xR w wr gr gc gl d vs R cc)/\Hid ((R 0).length+(R 1).length=i))
  case atStart=>exact⟨0,_,_,_,by omega,Nat.zero_le _,rfl,rfl,zo0.out,rfl⟩
  case round=>
  obtain⟨i,vs,R,cc,hi6,hil,HG,rfl,HST,gF⟩:=hrel
  obtain⟨wo,rfl⟩:∃wo:World,wo=wr:=⟨_,rfl⟩
  by_cases hlt:i<ln/\i<6
  rotate_left
  ·have HR6:Hid ((R 0).length+(R 1).length<=6):=by rw [Hid,gF.out];exact hi6
   by_cases h1:i<ln
   ·have h1I:(i:Int)<(ln:Int):=by omega
    have h2I:¬(i:Int)<6:=by omega
    go_wp2_with fail
    go_meet
    case rel=>exact⟨vs,R,cc,HST.out,HR6.out⟩
   have h1I:¬(i:Int)<(ln:Int):=by omega
   go_wp2_with fail
   go_meet
   case rel=>exact⟨vs,R,cc,HST.out,HR6.out⟩
  obtain⟨hlt,ztr⟩:=hlt
  have qK:(i:Int)<(ln:Int):=by omega
  have zth:(i:Int)<6:=by omega
  obtain⟨nb,no,rfl, -,hnc⟩:=zgk (HNM.out.below HST.out.base) i (by rw [<-qm.out];exact hlt)
  obtain⟨hx0,hx1⟩:=zj9 HNM.out i (by rw [<-qm.out];exact hlt)
  obtain⟨x,hx⟩:∃x,x=l0.getD i 0:=⟨_,rfl⟩
  rw [<-hx] at hnc hx0 hx1
  clear hx
  go_upto_region 10 with fail
  obtain⟨tt,htt⟩:∃q:Nat,x % 2=(q:Int):=⟨(x % 2).toNat,by omega⟩
  obtain⟨y,hy⟩:∃q:Nat,x / 2=(q:Int):=⟨(x / 2).toNat,by omega⟩
  obtain⟨v,hv⟩:∃q:Nat,(y:Int) % 2=(q:Int):=⟨((y:Int) % 2).toNat,by omega⟩
  obtain⟨z,hz⟩:∃q:Nat,x / 4=(q:Int):=⟨(x / 4).toNat,by omega⟩
  obtain⟨n,hnz⟩:∃q:Int,(z:Int) % d=q:=⟨_,rfl⟩
  have hn0:0<=n:=by rw [<-hnz];exact Int.emod_nonneg _ (by omega)
  have hnd:n<d:=by rw [<-hnz];exact Int.emod_lt_of_pos _ (by omega)
  have zbx:tt<2:=by omega
  have hv2:v<2:=by omega
  have k1:x.tmod 2=(tt:Int):=by rw [Int.tmod_eq_emod_of_nonneg hx0];exact htt
  have k2:x.tdiv 2=(y:Int):=by rw [Int.tdiv_eq_ediv_of_nonneg hx0];exact hy
  have k3:(y:Int).tmod 2=(v:Int):=by rw [Int.tmod_eq_emod_of_nonneg (by omega)];exact hv
  have k4:x.tdiv 4=(z:Int):=by rw [Int.tdiv_eq_ediv_of_nonneg hx0];exact hz
  have k5:(z:Int).tmod d=n:=by rw [Int.tmod_eq_emod_of_nonneg (by omega)];exact hnz
  have k9:IntKind.i64.wrap x=x:=IntWalk.i64_in _ (by omega)
  have hy8:(y:Int)<=255:=by omega
  have hz8:(z:Int)<=255:=by omega
  have k10:IntKind.i64.wrap (y:Int)=(y:Int):=IntWalk.i64_in _ (by omega)
  have k11:IntKind.i64.wrap (z:Int)=(z:Int):=IntWalk.i64_in _ (by omega)
  have k6:¬d=0:=by omega
  have k7:(d==0)=false:=by simpa using k6
  have k8:¬d= -1:=by omega
  have qM:Hid (∀X,Below wo.heap.size wo X->X.cell? ⟨nb,no+i,none⟩=some (.int .u8 x)):=λX hX=>zk hX _ _ hnc
  refine vP (S:=λx=>Below wo.heap.size wo x) ((Below.refl _ _).drew) (λhA=> ?_)
  refine zh 0 qM.out ?_
  refine zh 1 qM.out ?_
  refine zh 2 qM.out ?_
  refine zh 3 qM.out ?_
  refine zh 4 qM.out ?_
  refine zh 5 qM.out ?_
  refine zh 6 qM.out ?_
  refine zh 7 qM.out ?_
  refine zh 8 qM.out ?_
  refine zh 9 qM.out ?_
  refine zh 10 qM.out ?_
  refine zh 11 qM.out ?_
  refine zh 12 qM.out ?_
  refine zh 13 qM.out ?_
  refine zh 14 qM.out ?_
  refine zh 15 qM.out ?_
  refine zh 16 qM.out ?_
  refine zh 17 qM.out ?_
  refine zh 18 qM.out ?_
  refine zh 19 qM.out ?_
  refine zh 20 qM.out ?_
  refine zh 21 qM.out ?_
  refine zh 22 qM.out ?_
  refine zh 23 qM.out ?_
  refine vK ?_
  clear k1 k2 k3 k4 k5 k6 k7 k8 k9 k10 k11 htt hy hv hz hnz hnc qM
  have zby:=qh (HST.out.later hA)
  generalize wo.drew=U at zby hA ⊢
  have htI:(tt:Int)<2:=by omega
  have hvI:(v:Int)<2:=by omega
  have hrow:=zby.out.rows tt zbx
  obtain⟨va,vc,hvs,zre,zrf⟩:=xP hrow.row
  obtain⟨vn,hvn⟩:∃n,n=(R tt).length:=⟨_,rfl⟩
  have zts:vn<=6:=by
   have h1:=gF.out
   have:tt=0\/tt=1:=by omega
   rcases this with rfl|rfl<;>omega
  rw [<-hvn] at hvs
  have HVS:=qh hvs
  have HVN:=qh hvn
  have hrw:=hrow.row
  rw [hvs, <-hvn] at hrw
  have zrg:=qh hrw
  have hap:=zby.out.apart zbx
  rw [HVS.out] at hap
  have gy:Hid (∀X,Since (λk=>(Value.slice va vn vc).ownBlock=some k) U X->X.cell? ⟨gc,2,none⟩=some (.slice (some ⟨gr,0,none⟩) 2 2)/\X.cell? ⟨gr,tt,none⟩=some (.slice va vn vc)):=λX hX=>
   ⟨(hX.cell (p:=⟨gc,2,none⟩) (zI zby.out.gD) hap.2.1).trans (ze zby.out.gD 2),(hX.cell (p:=⟨gr,tt,none⟩) (zI zby.out.wC) hap.1).trans (by rw [<-HVS.out];exact zby.out.zlB zbx)⟩
  clear hrow hvs hvn hrw zre zrf hap
  go_upto_region 11 with fail
  refine wp_region_noPanic ?_
  refine yM (n0:=15) (S:=λx=>Since (λk=>(Value.slice va vn vc).ownBlock=some k) U x) (by kernel_rfl) (Since.drew _ (Since.refl _ U)) (λhY=> ?_)
  obtain⟨V4,hV4⟩:∃V1,V1=U.drew:=⟨_,rfl⟩
  rw [<-hV4] at hY ⊢
  have HBV:Below U.heap.size U V4:=by rw [hV4];exact(Below.refl _ _).drew
  clear hV4
  refine zT 0 (λ_=>hY) ?_
  refine jR [14,15] 1 gy.out hY ?_
  refine zT 2 (λ_=>hY) ?_
  refine zT 3 (λ_=>hY) ?_
  refine jR [6,7,13,14,15] 4 gy.out hY ?_
  refine zT 5 (λ_=>hY) ?_
  refine zT 6 (λ_=>hY) ?_
  refine jR [13,14,15] 7 gy.out hY ?_
  refine zT 8 (λ_=>hY) ?_
  refine zT 9 (λ_=>hY) ?_
  refine zT 10 (λ_=>hY) ?_
  refine zT 11 (λ_=>hY) ?_
  refine wM 12 rfl (λK hK=> ?_)
  go_simp
  have hb:=zw V4 (.cells #[.int .i64 2, .int .i64 0, .int .i64 (v:Int), .int .i64 1, .int .i64 n, .int .u8 0, .slice none 0 0, .int .i64 0, .int .i64 0, .int .u8 0, .slice none 0 0, .int .i64 0] 45)
  have hsx:=zby.out.later HBV
  have HQA:Hid (∃o,V4.alloc (.cells #[.int .i64 2, .int .i64 0, .int .i64 (v:Int), .int .i64 1, .int .i64 n, .int .u8 0, .slice none 0 0, .int .i64 0, .int .i64 0, .int .u8 0, .slice none 0 0, .int .i64 0] 45)=V4.alloc o):=⟨_,rfl⟩
  obtain⟨gq,hgq⟩:∃n,n=V4.heap.size:=⟨_,rfl⟩
  have HQB:=qh (kW V4 (bG v n) 45)
  unfold bG at HQB
  rw [<-hgq] at HQB ⊢
  have hrw:=yV (yV zrg.out HBV) hb
  have HRW:=qh hrw
  have pz:=qh (hsx.later hb)
  have HGQ:=qh hgq
  clear hgq hrw hsx
  generalize World.alloc V4 _=zo1 at hb HQA HQB HRW pz ⊢
  have zkW:(λx=>Since (λk=>(Value.slice va vn vc).ownBlock=some k) U x) zo1:=Since.trans hY (zA (λk=>(Value.slice va vn vc).ownBlock=some k) hb) (λ_ e=> .inl e)
  clear hb
  refine hK.out _ _ (λ_ _=>zkW) ?_
  clear hK K hY
  refine wM 13 rfl (λK hK=> ?_)
  refine vQ zo1 (by rfl) (.tmp 77) (.tmp 82) 40 rfl 45 (.agg #[.int .i64 0, .int .i64 0, .int .i64 0, .int .i64 0, .int .i64 0, .int .u8 0, .slice none 0 0, .int .i64 0, .int .i64 0, .int .u8 0, .slice none 0 0, .int .i64 0]) 12 128 Tryz.underlying40 zae rfl (by decide) w.heap.size (.slice va vn vc) vn ((cc tt).flatten) (by rfl) HRW.out ⟨gq,0,none⟩ 1 1 (bG v n) (by rfl) rfl HQB.out (by simp [bG,Value.oneCell']) (by unfold maxLen;omega) (by omega) pz.out.base.size ?_
  intro ka kc zfC e1 e2 e3 e4 e5
  have HPU:=qh (pz.out.push zbx hv2 ⟨hn0,hnd⟩ (v':= .slice ka (vn+1) kc) (X1:=zfC) (by rw [<-HVN.out];exact e1) (by rw [HVS.out];exact e4) (λk hk=>by rw [HVS.out];exact(e5 k hk).imp id (λe=>by omega)))
  have bW:=qh ((e4.block _ (zI pz.out.wD) (by have:=(pz.out.apart zbx).2.2;rw [HVS.out] at this;exact this)).trans pz.out.wD)
  have HRB:=qh ((e4.block _ (zI pz.out.wC) (by have:=(pz.out.apart zbx).1;rw [HVS.out] at this;exact this)).trans pz.out.wC)
  have zo2:(λx=>Since (λk=>(Value.slice va vn vc).ownBlock=some k) U x) zfC:=Since.trans zkW e4 (λ_ e=> .inl e)
  clear e1 e2 e3 e4 e5
  refine hK.out _ _ (λ_ _=>zo2) ?_
  clear hK K zkW
  change yE _ _ _ _ _ _ _ _ (Act.put _ (some 83) _) _
  simp only [Act.put,qz1,qz2,qz3]
  refine zT 14 (λ_=>zo2) ?_
  refine wM 15 rfl (λK hK=> ?_)
  have k0:zfC.cell? ⟨gr,tt,none⟩=some (.slice va vn vc):=by rw [<-HVS.out];exact zkU HRB.out zbx
  have z0:=yD HRB.out tt
  go_simp
  refine hK.out _ _ (λh=>absurd rfl h) ?_
  clear hK K
  refine xG (by kernel_rfl) ?_ _
  refine NoPanic.normal ?_
  clear k0 z0
  generalize hZ:World.setCell zfC ⟨gr,tt,none⟩ _=Z at HPU ⊢
  have HGZ:Hid (Z.heap[gl]? =some (.cells #[.int .i64 (lastOf R 0 0), .int .i64 (lastOf R 0 1), .int .i64 (lastOf R 1 0), .int .i64 (lastOf R 1 1)] 48 (0,0))):=by
   rw [<-hZ]
   exact((Since.setCell (F:=λk=>k=gr) (p:=⟨gr,tt,none⟩) (Since.refl _ _) (.inl rfl) _:Since (λk=>k=gr) zfC _).block _ (zI bW.out) (λe=>HST.out.grc.2.1 e.symm)).trans bW.out
  have l0:=zjA HGZ.out zbx hv2
  have l1:=yD HGZ.out (tt*2+v)
  clear hZ
  go_wp2_with fail
  go_roundg (6 - (i+1))
  case measure=>rw [HG.out];omega
  case rel=>exact⟨i+1,_,_,_,by omega,by omega,rfl,by simp,HPU.out,by
   have h1:=gF.out
   have:tt=0\/tt=1:=by omega
   rcases this with rfl|rfl
   ·rw [Hid,qD,qE (show 1≠0 by omega),List.length_append];show _+1+_=_;omega
   rw [Hid,qD,qE (show 0≠1 by omega),List.length_append];show _+(_+1)=_;omega⟩
 case rest=>
 obtain⟨vs,R,cc,HST,HR6⟩:=hcut
 obtain⟨Y0,rfl⟩:∃Y:World,Y=wc:=⟨_,rfl⟩
 have hok:=HST.out.ok ⟨hd2,by omega⟩ HR6.out
 obtain⟨C,hC⟩:∃C,C=xO d R:=⟨_,rfl⟩
 have hlast:∀t,t<2->∀v:Nat,xA (C.threads.getD t []) v (C.threads.getD t []).length=lastOf R t v:=λt ht v=>by rw [hC,xR.zk4 ht];rfl
 have hcv:qP C (.slice (some ⟨gr,0,none⟩) 2 2)= .agg #[.int .i64 2, .int .i64 d, .slice (some ⟨gr,0,none⟩) 2 2] :=by rw [hC];rfl
 have hrows:∀X,Below Y0.heap.size Y0 X->yB 1 X (.slice (some ⟨gr,0,none⟩) 2 2) C.threads:=λX hX=>by rw [hC];exact(HST.out.later hX).code
 rw [<-hC] at hok
 have hend:∀m:Int,0<=m/\m<=2->∀X,Below Y0.heap.size Y0 X->Calls Tryz.prog 8 #[.agg #[.int .i64 2, .int .i64 d, .slice (some ⟨gr,0,none⟩) 2 2], .int .i64 m] X (zjB C m X):=λm hm X hX=>by rw [<-hcv];exact hok.end hm (hrows X hX)
 have qp:=qh hok
 have zma:=qh hlast
 have HE0:=qh (hend 0 (by omega))
 have HE1:=qh (hend 1 (by omega))
 have HE2:=qh (hend 2 (by omega))
 have bC:Hid (∀X,Below Y0.heap.size Y0 X->(X.cell? ⟨gc,0,none⟩=some (.int .i64 2)/\X.cell? ⟨gc,1,none⟩=some (.int .i64 d)/\X.cell? ⟨gc,2,none⟩=some (.slice (some ⟨gr,0,none⟩) 2 2))/\∀t v,t<2->v<2->X.cell? ⟨gl,t*2+v,none⟩=some (.int .i64 (lastOf R t v))):=λX hX=>
  ⟨⟨zk hX _ _ (ze HST.out.gD 0),zk hX _ _ (ze HST.out.gD 1),zk hX _ _ (ze HST.out.gD 2)⟩,λt v ht hv=>zk hX _ _ (HST.out.zpe ht hv)⟩
 have HBY:=qh HST.out.base
 clear hok hC hlast hcv hrows hend HST zo0 HR6 HNM qm
 obtain⟨⟨c0,c1,c2⟩, -⟩:=bC.out Y0 (Below.refl _ _)
 go_upto_region 14 with(go_at_call 8;go_must(refine(HE0.out Y0 (Below.refl _ _)).mono ?_);rintro e Y1 ⟨r0,a0,k0,n0,rfl,hn0,hs0,hf0,hb⟩;(have HY1:=qh hb);(have HN0:=qh hn0);(have HS0:=qh hs0);(have HF0:=qh hf0);clear hb hn0 hs0 hf0 c0 c1 c2)
 obtain⟨⟨c0,c1,c2⟩, -⟩:=bC.out Y1 HY1.out
 obtain⟨fl0,hfl⟩:∃b,b=(yZ C 0 1).fails:=⟨_,rfl⟩
 try rw [<-hfl]
 clear hfl
 go_upto_region 15 with(go_at_call 8;go_must(refine(HE1.out Y1 HY1.out).mono ?_);rintro e Y2 ⟨r1,a1,k1,n1,rfl,hn1,hs1,hf1,hb⟩;(have HY2:=qh (zn HY1.out hb));(have HN1:=qh hn1);(have HS1:=qh hs1);(have HF1:=qh hf1);(have zo3:=qh (zf.below yL.stays HF0.out hb));clear hb hn1 hs1 hf1 c0 c1 c2)
 obtain⟨⟨c0,c1,c2⟩, -⟩:=bC.out Y2 HY2.out
 go_upto_region 16 with(go_at_call 8;go_must(refine(HE2.out Y2 HY2.out).mono ?_);rintro e Y3 ⟨r2,a2,k2,n2,rfl,hn2,hs2,hf2,hb⟩;(have HY3:=qh (zn HY2.out hb));(have HN2:=qh hn2);(have HS2:=qh hs2);(have HF2:=qh hf2);(have zrh:=qh (zf.below yL.stays zo3.out hb));(have zo4:=qh (zf.below yL.stays HF1.out hb));clear hb hn2 hs2 hf2 c0 c1 c2)
 clear HE0 HE1 HE2 HF0 zo3 HF1
 have hl2:r2.length<=9223372036854775807:=by obtain⟨_,_,_,h⟩:=zf.slice HF2.out;exact h
 rw [<-HN2.out] at hl2
 have hpos:0<n2:=by
  obtain⟨x,hx⟩:=qp.out.some 2
  obtain⟨y,hy, -⟩:=HS2.out.2.2 x hx
  rw [HN2.out]
  exact List.length_pos_of_mem hy
 have zti:(0:Int)<(n2:Int):=by omega
 go_wp2_with fail
 go_loopg [22] n2 (λgg s22 wr=>∃i:Nat,i<=n2/\Hid (gg=n2 - i)/\s22= .int .i64 i/\wr=Y3)
 case atStart=>exact⟨0,Nat.zero_le _,rfl,rfl,rfl⟩
 case round=>
 obtain⟨i,hi,HG,rfl,hwr⟩:=hrel
 obtain rfl:Y3=wr:=hwr.symm
 by_cases hlt:i<n2
 rotate_left
 ·obtain rfl:n2=i:=by omega
  have hw1:=zdr Y3 r0 r1 _ _ zrh.out zo4.out (zbE qp.out HS0.out) (zbE qp.out HS1.out)
  rw [zdp qp.out (.inl ⟨rfl,rfl⟩) HS0.out HS1.out, <-HN0.out, <-HN1.out] at hw1
  have hw2:=λX (hX:Below Y3.heap.size Y3 X)=>zdr X r1 r2 _ _ (zf.below yL.stays zo4.out hX) (zf.below yL.stays HF2.out hX) (zbE qp.out HS1.out) (zbE qp.out HS2.out)
  rw [zdp qp.out (.inr ⟨rfl,rfl⟩) HS1.out HS2.out, <-HN1.out, <-HN2.out] at hw2
  have HW1:=qh hw1
  have HW2:=qh hw2
  clear hw1 hw2
  go_wp2_with(first|(go_at_call 17;refine(HW2.out Z1 HZ1.out).mono ?_;rintro e Z2 ⟨rfl,hb⟩;(have HZ2:=qh (zn HZ1.out hb));clear hb)|(go_at_call 17;go_must(refine HW1.out.mono ?_);rintro e Z1 ⟨rfl,hb⟩;(have HZ1:=qh hb);clear hb))
  go_ret
  exact⟨by first|rfl|simp,zn HBY.out (zn HY3.out HZ2.out)⟩
 have qK:(i:Int)<(n2:Int):=by omega
 obtain⟨xb,xo,ma,mc,ra,rc,rfl, -,x0,x1,hfx⟩:=yK.part HF2.out i (by rw [<-HN2.out];exact hlt)
 have hin:=HS2.out.2.1 _ (zV (x:=default) (show i<r2.length by rw [<-HN2.out];exact hlt))
 obtain⟨x,hx⟩:∃x,x=r2.getD i default:=⟨_,rfl⟩
 rw [<-hx] at x0 x1 hfx hin
 have hml:=(wR (d:=1) qp.out.c qp.out.f qp.out.e _ hin).1
 rw [qp.out.v] at hml
 have hml:x.mem.length=2:=hml
 rw [hml] at x0 hfx
 have HFX:=qh hfx
 have HIN:=qh hin
 have HML:=qh hml
 clear hx hin hml hfx
 go_wp2_with fail
 go_loopg [23] 2 (λgg s23 wr=>∃v:Nat,v<=2/\Hid (gg=2 - v)/\s23= .int .i64 v/\wr=Y3)
 case atStart=>exact⟨0,Nat.zero_le _,rfl,rfl,rfl⟩
 case round=>
 obtain⟨v,hv,HG2,rfl,hwr⟩:=hrel
 obtain rfl:Y3=wr:=hwr.symm
 by_cases hv2:v<2
 rotate_left
 ·obtain rfl:v=2:=by omega
  go_wp2_with fail
  go_roundg (n2 - (i+1))
  case measure=>rw [HG.out];omega
  case rel=>exact⟨i+1,by omega,rfl,by simp,rfl⟩
 have hvI:(v:Int)<2:=by omega
 obtain⟨mb,mo,rfl, -,hmc⟩:=xJ.part HFX.out.mem v (by rw [HML.out];exact hv2)
 have hlw:=qp.out.last HIN.out hv2
 have hcl:=(bC.out Y3 HY3.out).2
 have p0:=hcl 0 v (by omega) hv2
 have p1:=hcl 1 v (by omega) hv2
 rw [Nat.zero_mul,Nat.zero_add] at p0
 rw [Nat.one_mul] at p1
 have h0:=zma.out 0 (by omega) v
 have h1:=zma.out 1 (by omega) v
 obtain⟨l0,hl0⟩:∃q,q=lastOf R 0 v:=⟨_,rfl⟩
 obtain⟨l1,hl1⟩:∃q,q=lastOf R 1 v:=⟨_,rfl⟩
 obtain⟨nv,hnv⟩:∃q,q=x.mem.getD v 0:=⟨_,rfl⟩
 rw [<-hl0] at p0 h0
 rw [<-hl1] at p1 h1
 rw [<-hnv] at hmc hlw
 have zri:(l0= -1/\l1= -1/\nv=0)\/(0<=l0/\nv=l0)\/(0<=l1/\nv=l1):=by
  rcases hlw with⟨h,h2⟩|⟨t,ht,h2,h3⟩
  ·have a0:=h 0 (by omega)
   have a1:=h 1 (by omega)
   rw [h0] at a0
   rw [h1] at a1
   exact .inl ⟨a0,a1,h2⟩
  have:t=0\/t=1:=by omega
  rcases this with rfl|rfl
  ·rw [h0] at h2 h3;exact .inr (.inl ⟨h2,h3⟩)
  rw [h1] at h2 h3;exact .inr (.inr ⟨h2,h3⟩)
 clear hlw h0 h1 hl0 hl1 hnv hcl
 rcases zri with⟨rfl,rfl,rfl⟩|⟨hp,rfl⟩|⟨hp,rfl⟩
 ·go_wp2_with fail
  go_roundg (2 - (v+1))
  case measure=>rw [HG2.out];omega
  case rel=>exact⟨v+1,by omega,rfl,by simp,rfl⟩
 ·have hp2:¬nv<0:=by omega
  go_wp2_with fail
  go_roundg (2 - (v+1))
  case measure=>rw [HG2.out];omega
  case rel=>exact⟨v+1,by omega,rfl,by simp,rfl⟩
 have hp2:¬nv<0:=by omega
 by_cases h0:l0<0
 ·have hne:((nv:Int)==l0)=false:=by rw [beq_eq_false_iff_ne];omega
  have hne2:¬nv=l0:=by omega
  go_wp2_with fail
  go_roundg (2 - (v+1))
  case measure=>rw [HG2.out];omega
  case rel=>exact⟨v+1,by omega,rfl,by simp,rfl⟩
 by_cases h1:nv=l0
 ·subst h1
  go_wp2_with fail
  go_roundg (2 - (v+1))
  case measure=>rw [HG2.out];omega
  case rel=>exact⟨v+1,by omega,rfl,by simp,rfl⟩
 have hne:((nv:Int)==l0)=false:=by rw [beq_eq_false_iff_ne];exact h1
 go_wp2_with fail
 go_roundg (2 - (v+1))
 case measure=>rw [HG2.out];omega
 case rel=>exact⟨v+1,by omega,rfl,by simp,rfl⟩
