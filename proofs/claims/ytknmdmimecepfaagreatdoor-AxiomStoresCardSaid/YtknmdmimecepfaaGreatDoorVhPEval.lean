/- Steps. -/
import Derived.Test.YtknmdmimecepfaaGreatDoorVhPOp
set_option linter.all false
namespace Go.Proofs.YtknmdmimecepfaaGreatDoor
open Go.RowKit
set_option maxRecDepth 100000
set_option maxHeartbeats 16000000
theorem zeb:Tryz.prog.underlying 159=some (.func #[3,3] #[3] false):=by kernel_rfl
theorem zfD (w:World) (d:Nat) (f:Fn) (a c:Array Value):(Op.equalIn (d+1) 159 (.func f a c) .nilFunc).run Tryz.prog w= .ok false w:=by simp [Op.equalIn,run_underlying zeb]
theorem zds (w:World) (d:Nat):(Op.equalIn (d+1) 159 .nilFunc .nilFunc).run Tryz.prog w= .ok true w:=by simp [Op.equalIn,run_underlying zeb]
theorem zkY (w:World) (f:Fn) (a c:Array Value):(binOp .eql 159 (.func f a c) .nilFunc).run Tryz.prog w= .ok (.bool false) w:=by
 have h:(Op.equal 159 (.func f a c) .nilFunc).run Tryz.prog w= .ok false w:=zfD w 9999 f a c
 simp only [binOp]
 simp [h]
theorem zfE (w:World):(binOp .eql 159 .nilFunc .nilFunc).run Tryz.prog w= .ok (.bool true) w:=by
 have h:(Op.equal 159 .nilFunc .nilFunc).run Tryz.prog w= .ok true w:=zds w 9999
 simp only [binOp]
 simp [h]
theorem zjF (n dom:Int) (h:1<=dom):(if n.tmod dom<0 then n.tmod dom+dom else n.tmod dom)=n % dom:=by
 rw [<-zkZ n dom h]
 have h1:=Int.tmod_lt_of_pos n (show 0<dom by omega)
 have h2:=Int.lt_tmod_of_pos n (show 0<dom by omega)
 generalize n.tmod dom=q at h1 h2 ⊢
 rw [Int.tmod_eq_emod_of_nonneg (by omega)]
 split
 ·rw [Int.emod_eq_of_lt (by omega) (by omega)]
 rw [Int.add_emod_right,Int.emod_eq_of_lt (by omega) (by omega)]
theorem uU (r0 r1 r2 r3 dom:Int) (hd1:1<=dom) (hd2:dom<=1000) (d:Nat):∀(w:World) (x:zC) (kv:Value),zM d w x kv->
  Calls Tryz.prog 63 #[qc x kv, .agg #[.int .i64 r0, .int .i64 r1, .int .i64 r2, .int .i64 r3], .int .i64 dom] w λe w'=>e= .returned (.int .i64 (yt [r0,r1,r2,r3] dom d x))/\Below w.heap.size w w':=by
 induction d with
 |zero=>intro w x kv h;exact h.elim
 |succ d ih=>
 intro w x kv h
 obtain⟨ka,kc,rfl,hkl⟩:=h.slice
 obtain⟨k,hk⟩:∃k,k=x.kind:=⟨_,rfl⟩
 obtain⟨n,hn⟩:∃n,n=x.n:=⟨_,rfl⟩
 obtain⟨o,ho⟩:∃o,o=x.op:=⟨_,rfl⟩
 obtain⟨m,hm⟩:∃m,m=x.kids.length:=⟨_,rfl⟩
 obtain⟨r,hr⟩:∃r,r=yt [r0,r1,r2,r3] dom (d+1) x:=⟨_,rfl⟩
 have hr2:r=(if k=1 then n else if k=2 then(if 0<=n/\n<4 then [r0,r1,r2,r3].getD n.toNat 0 else 0)
  else if k=3/\m=2 then evalOp o (yt [r0,r1,r2,r3] dom d (x.kids.getD 0 default)) (yt [r0,r1,r2,r3] dom d (x.kids.getD 1 default)) % dom else 0):=by rw [hr,hk,hn,ho,hm];rfl
 rw [<-hr]
 have HR:=qh hr2
 have HM:=qh hm
 rw [<-hm] at h hkl
 have HE:=qh h
 have HIH:=qh ih
 unfold qc
 rw [<-hk, <-hn, <-ho, <-hm]
 clear hk hn ho hm hr hr2 h ih
 have HB:=qh (xH w (.cells #[.int .i64 k, .int .i64 n, .int .u8 o, .slice ka m kc] 43) (.cells #[.int .i64 r0, .int .i64 r1, .int .i64 r2, .int .i64 r3] 59))
 have H1:=qh (xI w (.cells #[.int .i64 k, .int .i64 n, .int .u8 o, .slice ka m kc] 43) (.cells #[.int .i64 r0, .int .i64 r1, .int .i64 r2, .int .i64 r3] 59))
 have H2:=qh (zla w (.cells #[.int .i64 k, .int .i64 n, .int .u8 o, .slice ka m kc] 43) r0 r1 r2 r3)
 go_enter Tryz.func63,Tryz.ntmps63
 go_upto_region 1 with fail
 generalize World.alloc (World.alloc w _) _=W at HB H1 H2 ⊢
 obtain⟨gx,hgx⟩:∃gx,gx=w.heap.size:=⟨_,rfl⟩
 rw [<-hgx] at H1 H2 ⊢
 clear hgx
 have c0:W.cell? ⟨gx,0,none⟩=some (.int .i64 k):=ze H1.out 0
 have c1:W.cell? ⟨gx,1,none⟩=some (.int .i64 n):=ze H1.out 1
 have c2:W.cell? ⟨gx,2,none⟩=some (.int .u8 o):=ze H1.out 2
 have c3:W.cell? ⟨gx,3,none⟩=some (.slice ka m kc):=ze H1.out 3
 by_cases k1:k=1
 ·obtain rfl:r=n:=by rw [HR.out,if_pos k1]
  clear HR
  subst k1
  go_wp2_with fail
  go_ret
  exact⟨by first|rfl|simp,HB.out⟩
 have kb:((k:Int)==1)=false:=by simp [k1]
 by_cases k2:k=2
 ·by_cases a1:0<=n
  rotate_left
  ·obtain rfl:r=0:=by rw [HR.out,if_neg k1,if_pos k2,if_neg (λh=>a1 h.1)]
   subst k2
   clear HR k1
   go_wp2_with fail
   go_ret
   exact⟨by first|rfl|simp,HB.out⟩
  by_cases a2:n<4
  ·obtain⟨q,rfl⟩:∃q:Nat,n=(q:Int):=⟨n.toNat,by omega⟩
   have hq4:q<4:=by omega
   have zrj:=H2.out q hq4
   have hr3:r= [r0,r1,r2,r3].getD q 0:=by rw [HR.out,if_neg k1,if_pos k2,if_pos ⟨a1,a2⟩];simp
   rw [<-hr3] at zrj
   subst k2
   clear HR k1 hr3
   go_wp2_with fail
   go_ret
   exact⟨by first|rfl|simp,HB.out⟩
  obtain rfl:r=0:=by rw [HR.out,if_neg k1,if_pos k2,if_neg (λh=>a2 h.2)]
  subst k2
  clear HR k1
  go_wp2_with fail
  go_ret
  exact⟨by first|rfl|simp,HB.out⟩
 have kb2:((k:Int)==2)=false:=by simp [k2]
 have HR2:Hid (r=if k=3/\m=2 then evalOp o (yt [r0,r1,r2,r3] dom d (x.kids.getD 0 default)) (yt [r0,r1,r2,r3] dom d (x.kids.getD 1 default)) % dom else 0):=by rw [Hid,HR.out,if_neg k1,if_neg k2]
 clear HR k1 k2
 by_cases k3:k=3
 rotate_left
 ·have kb3:((k:Int) !=3)=true:=by simp [k3]
  have kb4:((k:Int)==3)=false:=by simp [k3]
  obtain rfl:r=0:=by rw [HR2.out,if_neg (λh=>k3 h.1)]
  clear HR2 k3
  go_wp2_with fail
  go_ret
  exact⟨by first|rfl|simp,HB.out⟩
 by_cases m2:m=2
 rotate_left
 ·obtain rfl:r=0:=by rw [HR2.out,if_neg (λh=>m2 h.2)]
  have b2:((m:Int) !=2)=true:=by rw [bne_iff_ne];omega
  have b3:(m==2)=false:=by simp [m2]
  clear HR2
  subst k3
  go_wp2_with fail
  go_ret
  exact⟨by first|rfl|simp,HB.out⟩
 have HR3:Hid (r=evalOp o (yt [r0,r1,r2,r3] dom d (x.kids.getD 0 default)) (yt [r0,r1,r2,r3] dom d (x.kids.getD 1 default)) % dom):=by rw [Hid,HR2.out,if_pos ⟨k3,m2⟩]
 clear HR2 kb kb2
 subst k3
 subst m2
 have hdn:¬dom<1:=by omega
 obtain⟨kS,ko,ka0,kc0,hka, -,p0,p1,p2,p3,hx0⟩:=HE.out.part 0 (by rw [<-HM.out];omega)
 subst hka
 obtain⟨ztt,ko2,ka1,kc1,hka, -,q0,q1,q2,q3,hx1⟩:=HE.out.part 1 (by rw [<-HM.out];omega)
 cases hka
 obtain⟨y0,hy0⟩:∃y,y=x.kids.getD 0 default:=⟨_,rfl⟩
 obtain⟨y1,hy1⟩:∃y,y=x.kids.getD 1 default:=⟨_,rfl⟩
 rw [<-hy0] at p0 p1 p2 p3 hx0
 rw [<-hy1] at q0 q1 q2 q3 hx1
 rw [<-hy0, <-hy1] at HR3
 rw [Nat.zero_mul,Nat.add_zero] at p0 p1 p2 p3
 rw [Nat.one_mul] at q0 q1 q2 q3
 have hk:=λX (hX:Below W.heap.size W X)=>zk (HB.out.trans (hX.mono HB.out.size))
 have CC:Hid (∀X,Below W.heap.size W X->X.cell? ⟨gx,3,none⟩=some (.slice (some ⟨kS,ko,none⟩) 2 kc)/\X.cell? ⟨gx+1,0,none⟩=some (.int .i64 r0)/\X.cell? ⟨gx+1,1,none⟩=some (.int .i64 r1)/\X.cell? ⟨gx+1,2,none⟩=some (.int .i64 r2)/\X.cell? ⟨gx+1,3,none⟩=some (.int .i64 r3)/\
   X.cell? ⟨kS,ko,none⟩=some (.int .i64 y0.kind)/\X.cell? ⟨kS,ko+1,none⟩=some (.int .i64 y0.n)/\X.cell? ⟨kS,ko+2,none⟩=some (.int .u8 y0.op)/\X.cell? ⟨kS,ko+3,none⟩=some (.slice ka0 y0.kids.length kc0)/\
   X.cell? ⟨kS,ko+4,none⟩=some (.int .i64 y1.kind)/\X.cell? ⟨kS,ko+4+1,none⟩=some (.int .i64 y1.n)/\X.cell? ⟨kS,ko+4+2,none⟩=some (.int .u8 y1.op)/\X.cell? ⟨kS,ko+4+3,none⟩=some (.slice ka1 y1.kids.length kc1)):=λX hX=>
  ⟨zk hX _ _ c3,zk hX _ _ (H2.out 0 (by omega)),zk hX _ _ (H2.out 1 (by omega)),zk hX _ _ (H2.out 2 (by omega)),zk hX _ _ (H2.out 3 (by omega)),hk X hX _ _ p0,hk X hX _ _ p1,hk X hX _ _ p2,hk X hX _ _ p3,hk X hX _ _ q0,hk X hX _ _ q1,hk X hX _ _ q2,hk X hX _ _ q3⟩
 have HX0:Hid (∀X,Below W.heap.size W X->Calls Tryz.prog 63 #[.agg #[.int .i64 y0.kind, .int .i64 y0.n, .int .u8 y0.op, .slice ka0 y0.kids.length kc0], .agg #[.int .i64 r0, .int .i64 r1, .int .i64 r2, .int .i64 r3], .int .i64 dom] X λe w'=>e= .returned (.int .i64 (yt [r0,r1,r2,r3] dom d y0))/\Below X.heap.size X w'):=λX hX=>HIH.out X y0 _ (hx0.below (HB.out.trans (hX.mono HB.out.size)))
 have qW:Hid (∀X,Below W.heap.size W X->Calls Tryz.prog 63 #[.agg #[.int .i64 y1.kind, .int .i64 y1.n, .int .u8 y1.op, .slice ka1 y1.kids.length kc1], .agg #[.int .i64 r0, .int .i64 r1, .int .i64 r2, .int .i64 r3], .int .i64 dom] X λe w'=>e= .returned (.int .i64 (yt [r0,r1,r2,r3] dom d y1))/\Below X.heap.size X w'):=λX hX=>HIH.out X y1 _ (hx1.below (HB.out.trans (hX.mono HB.out.size)))
 obtain⟨va,hva⟩:∃v,v=yt [r0,r1,r2,r3] dom d y0:=⟨_,rfl⟩
 obtain⟨vb,hvb⟩:∃v,v=yt [r0,r1,r2,r3] dom d y1:=⟨_,rfl⟩
 rw [<-hva] at HX0 HR3
 rw [<-hvb] at qW HR3
 clear p0 p1 p2 p3 q0 q1 q2 q3 hx0 hx1 hk hy0 hy1 hva hvb
 go_wp2_with fail
 refine(zeO W o).mono ?_
 rintro e w2 ⟨⟨v,rfl,hv⟩,hb2⟩
 have HB2:=qh hb2
 clear c0 c1 c2 c3 hb2
 rcases hv with hv|⟨rfl,hz⟩
 ·obtain⟨f,cap,rfl,hfn,hop⟩:=hv
  have HOP:=qh (hop)
  clear hop
  have C2:Hid (∀X,Below w2.heap.size w2 X->X.cell? ⟨gx,3,none⟩=some (.slice (some ⟨kS,ko,none⟩) 2 kc)/\X.cell? ⟨gx+1,0,none⟩=some (.int .i64 r0)/\X.cell? ⟨gx+1,1,none⟩=some (.int .i64 r1)/\X.cell? ⟨gx+1,2,none⟩=some (.int .i64 r2)/\X.cell? ⟨gx+1,3,none⟩=some (.int .i64 r3)/\
   X.cell? ⟨kS,ko,none⟩=some (.int .i64 y0.kind)/\X.cell? ⟨kS,ko+1,none⟩=some (.int .i64 y0.n)/\X.cell? ⟨kS,ko+2,none⟩=some (.int .u8 y0.op)/\X.cell? ⟨kS,ko+3,none⟩=some (.slice ka0 y0.kids.length kc0)/\
   X.cell? ⟨kS,ko+4,none⟩=some (.int .i64 y1.kind)/\X.cell? ⟨kS,ko+4+1,none⟩=some (.int .i64 y1.n)/\X.cell? ⟨kS,ko+4+2,none⟩=some (.int .u8 y1.op)/\X.cell? ⟨kS,ko+4+3,none⟩=some (.slice ka1 y1.kids.length kc1)):=λX hX=>CC.out X (zn HB2.out hX)
  have HY0:Hid (∀X,Below w2.heap.size w2 X->Calls Tryz.prog 63 #[.agg #[.int .i64 y0.kind, .int .i64 y0.n, .int .u8 y0.op, .slice ka0 y0.kids.length kc0], .agg #[.int .i64 r0, .int .i64 r1, .int .i64 r2, .int .i64 r3], .int .i64 dom] X λe w'=>e= .returned (.int .i64 va)/\Below X.heap.size X w'):=λX hX=>HX0.out X (zn HB2.out hX)
  have HY1:Hid (∀X,Below w2.heap.size w2 X->Calls Tryz.prog 63 #[.agg #[.int .i64 y1.kind, .int .i64 y1.n, .int .u8 y1.op, .slice ka1 y1.kids.length kc1], .agg #[.int .i64 r0, .int .i64 r1, .int .i64 r2, .int .i64 r3], .int .i64 dom] X λe w'=>e= .returned (.int .i64 vb)/\Below X.heap.size X w'):=λX hX=>qW.out X (zn HB2.out hX)
  have HBW:Hid (Below w.heap.size w w2):=HB.out.trans (HB2.out.mono HB.out.size)
  have hdz:dom≠0:=by omega
  have zrk:((dom:Int)==0)=false:=by simp [hdz]
  clear HX0 qW CC HIH
  have heq:=zkY w2 (.func f) #[] cap
  go_upto_region 10 with fail
  clear heq
  refine vP (S:=λx=>Below w2.heap.size w2 x) (Below.refl _ _).drew (λhH=> ?_)
  refine zh 0 C2.out ?_
  refine zh 1 C2.out ?_
  refine zh 2 C2.out ?_
  refine zh 3 C2.out ?_
  refine zh 4 C2.out ?_
  refine zh 5 C2.out ?_
  refine zh 6 C2.out ?_
  refine zh 8 C2.out ?_
  refine zh 9 C2.out ?_
  refine zh 10 C2.out ?_
  refine zh 11 C2.out ?_
  refine zh 12 C2.out ?_
  refine zh 13 C2.out ?_
  refine zh 16 C2.out ?_
  refine qG 7 rfl (λK hK=> ?_)
  go_simp
  refine(HY0.out w2.drew hH).mono ?_
  rintro e hw7 ⟨rfl,hb⟩
  have zia:Below w2.heap.size w2 hw7:=zn hH hb
  refine hK.out _ _ zia (λ_=> ?_)
  clear hK K hb hH
  refine qG 14 rfl (λK hK=> ?_)
  go_simp
  refine(HY1.out hw7 zia).mono ?_
  rintro e zo7 ⟨rfl,hb⟩
  have zet:Below w2.heap.size w2 zo7:=zn zia hb
  refine hK.out _ _ zet (λ_=> ?_)
  clear hK K hb zia
  refine qG 15 rfl (λK hK=> ?_)
  go_simp
  refine(HOP.out zo7 zet va vb).mono ?_
  rintro e zo8 ⟨rfl,hb⟩
  have zmg:Below w2.heap.size w2 zo8:=zn zet hb
  refine hK.out _ _ zmg (λ_=> ?_)
  clear hK K hb zet
  refine zh 17 C2.out ?_
  refine zh 18 C2.out ?_
  refine vK ?_
  have gG:Hid (Below w.heap.size w zo8):=HBW.out.trans (zmg.mono HBW.out.size)
  clear HY0 HY1 HOP hfn C2 hdz zrk
  obtain⟨q9,hq9⟩:∃q,q=(evalOp o va vb).tmod dom:=⟨_,rfl⟩
  rw [<-hq9]
  have hrr:r=if q9<0 then q9+dom else q9:=by rw [HR3.out, <-zjF _ _ hd1, <-hq9]
  have h91:=Int.tmod_lt_of_pos (evalOp o va vb) (show 0<dom by omega)
  have h92:=Int.lt_tmod_of_pos (evalOp o va vb) (show 0<dom by omega)
  rw [<-hq9] at h91 h92
  have t4:=wrap_add h91 h92 hd1 hd2
  have HRR:=qh hrr
  clear hq9 hrr h91 h92 HR3
  by_cases hneg:q9<0
  ·obtain rfl:r=q9+dom:=by rw [HRR.out,if_pos hneg]
   clear HRR
   go_wp2_with fail
   go_ret
   exact⟨by simp [t4],gG.out⟩
  obtain rfl:r=q9:=by rw [HRR.out,if_neg hneg]
  clear HRR
  go_wp2_with fail
  go_ret
  exact⟨by first|rfl|simp,gG.out⟩
 obtain rfl:r=0:=by rw [HR3.out,hz];simp
 clear HR3 hz
 have heq:=zfE w2
 go_wp2_with fail
 go_ret
 exact⟨by first|rfl|simp,HB.out.trans (HB2.out.mono HB.out.size)⟩
