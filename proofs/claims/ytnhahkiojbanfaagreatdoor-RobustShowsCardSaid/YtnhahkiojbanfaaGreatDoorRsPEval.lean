/- Steps. -/
import Derived.Test.YtnhahkiojbanfaaGreatDoorRsPBuf
set_option linter.all false
namespace Go.Proofs.YtnhahkiojbanfaaGreatDoor
open Go.RowKit
set_option maxRecDepth 100000
set_option maxHeartbeats 16000000
theorem zkm:Tryz.prog.underlying 231=some (.func #[3,3] #[3] false):=by kernel_rfl
theorem zmh (w:World) (d:Nat) (f:Fn) (a c:Array Value):(Op.equalIn (d+1) 231 (.func f a c) .nilFunc).run Tryz.prog w= .ok false w:=by simp [Op.equalIn,run_underlying zkm]
theorem zi7 (w:World) (d:Nat):(Op.equalIn (d+1) 231 .nilFunc .nilFunc).run Tryz.prog w= .ok true w:=by simp [Op.equalIn,run_underlying zkm]
theorem zuM (w:World) (f:Fn) (a c:Array Value):(binOp .eql 231 (.func f a c) .nilFunc).run Tryz.prog w= .ok (.bool false) w:=by
 have h:(Op.equal 231 (.func f a c) .nilFunc).run Tryz.prog w= .ok false w:=zmh w 9999 f a c
 simp only [binOp]
 simp [h]
theorem zmi (w:World):(binOp .eql 231 .nilFunc .nilFunc).run Tryz.prog w= .ok (.bool true) w:=by
 have h:(Op.equal 231 .nilFunc .nilFunc).run Tryz.prog w= .ok true w:=zi7 w 9999
 simp only [binOp]
 simp [h]
theorem zsc (n dom:Int) (h:1<=dom):(if n.tmod dom<0 then n.tmod dom+dom else n.tmod dom)=n % dom:=by
 rw [<-jN n dom h]
 have h1:=Int.tmod_lt_of_pos n (show 0<dom by omega)
 have h2:=Int.lt_tmod_of_pos n (show 0<dom by omega)
 generalize n.tmod dom=q at h1 h2 ⊢
 rw [Int.tmod_eq_emod_of_nonneg (by omega)]
 split
 ·rw [Int.emod_eq_of_lt (by omega) (by omega)]
 rw [Int.add_emod_right,Int.emod_eq_of_lt (by omega) (by omega)]
theorem zsd (r0 r1 r2 r3 dom:Int) (hd1:1<=dom) (hd2:dom<=1000) (d:Nat):∀(w:World) (x:zO) (kv:Value),zG d w x kv->
  Calls Tryz.prog 168 #[qy x kv, .agg #[.int .i64 r0, .int .i64 r1, .int .i64 r2, .int .i64 r3], .int .i64 dom] w λe w'=>e= .returned (.int .i64 (yw [r0,r1,r2,r3] dom d x))/\Below w.heap.size w w':=by
 induction d with
 |zero=>intro w x kv h;exact h.elim
 |succ d ih=>
 intro w x kv h
 obtain⟨ka,kc,rfl,hkl⟩:=h.slice
 obtain⟨k,hk⟩:∃k,k=x.kind:=⟨_,rfl⟩
 obtain⟨n,hn⟩:∃n,n=x.n:=⟨_,rfl⟩
 obtain⟨o,ho⟩:∃o,o=x.op:=⟨_,rfl⟩
 obtain⟨m,hm⟩:∃m,m=x.kids.length:=⟨_,rfl⟩
 obtain⟨r,hr⟩:∃r,r=yw [r0,r1,r2,r3] dom (d+1) x:=⟨_,rfl⟩
 have hr2:r=(if k=1 then n else if k=2 then(if 0<=n/\n<4 then [r0,r1,r2,r3].getD n.toNat 0 else 0)
  else if k=3/\m=2 then evalOp o (yw [r0,r1,r2,r3] dom d (x.kids.getD 0 default)) (yw [r0,r1,r2,r3] dom d (x.kids.getD 1 default)) % dom else 0):=by rw [hr,hk,hn,ho,hm];rfl
 rw [<-hr]
 have HR:=qh hr2
 have HM:=qh hm
 rw [<-hm] at h hkl
 have HE:=qh h
 have HIH:=qh ih
 unfold qy
 rw [<-hk, <-hn, <-ho, <-hm]
 clear hk hn ho hm hr hr2 h ih
 have HB:=qh (xO w (.cells #[.int .i64 k, .int .i64 n, .int .u8 o, .slice ka m kc] 58) (.cells #[.int .i64 r0, .int .i64 r1, .int .i64 r2, .int .i64 r3] 77))
 have H1:=qh (xP w (.cells #[.int .i64 k, .int .i64 n, .int .u8 o, .slice ka m kc] 58) (.cells #[.int .i64 r0, .int .i64 r1, .int .i64 r2, .int .i64 r3] 77))
 have H2:=qh (zlI w (.cells #[.int .i64 k, .int .i64 n, .int .u8 o, .slice ka m kc] 58) r0 r1 r2 r3)
 go_enter Tryz.func168,Tryz.ntmps168
 go_upto_region 1 with fail
 generalize World.alloc (World.alloc w _) _=W at HB H1 H2 ⊢
 obtain⟨gx,hgx⟩:∃gx,gx=w.heap.size:=⟨_,rfl⟩
 rw [<-hgx] at H1 H2 ⊢
 clear hgx
 have c0:W.cell? ⟨gx,0,none⟩=some (.int .i64 k):=ze H1.out 0
 have c1:W.cell? ⟨gx,1,none⟩=some (.int .i64 n):=ze H1.out 1
 have c2:W.cell? ⟨gx,2,none⟩=some (.int .u8 o):=ze H1.out 2
 have c3:W.cell? ⟨gx,3,none⟩=some (.slice ka m kc):=ze H1.out 3
 by_cases k1:k=1
 ·obtain rfl:r=n:=by rw [HR.out,if_pos k1]
  clear HR
  subst k1
  go_wp2_with fail
  go_ret
  exact⟨by first|rfl|simp,HB.out⟩
 have kb:((k:Int)==1)=false:=by simp [k1]
 by_cases k2:k=2
 ·by_cases a1:0<=n
  rotate_left
  ·obtain rfl:r=0:=by rw [HR.out,if_neg k1,if_pos k2,if_neg (λh=>a1 h.1)]
   subst k2
   clear HR k1
   go_wp2_with fail
   go_ret
   exact⟨by first|rfl|simp,HB.out⟩
  by_cases a2:n<4
  ·obtain⟨q,rfl⟩:∃q:Nat,n=(q:Int):=⟨n.toNat,by omega⟩
   have hq4:q<4:=by omega
   have qw:=H2.out q hq4
   have hr3:r= [r0,r1,r2,r3].getD q 0:=by rw [HR.out,if_neg k1,if_pos k2,if_pos ⟨a1,a2⟩];simp
   rw [<-hr3] at qw
   subst k2
   clear HR k1 hr3
   go_wp2_with fail
   go_ret
   exact⟨by first|rfl|simp,HB.out⟩
  obtain rfl:r=0:=by rw [HR.out,if_neg k1,if_pos k2,if_neg (λh=>a2 h.2)]
  subst k2
  clear HR k1
  go_wp2_with fail
  go_ret
  exact⟨by first|rfl|simp,HB.out⟩
 have kb2:((k:Int)==2)=false:=by simp [k2]
 have HR2:Hid (r=if k=3/\m=2 then evalOp o (yw [r0,r1,r2,r3] dom d (x.kids.getD 0 default)) (yw [r0,r1,r2,r3] dom d (x.kids.getD 1 default)) % dom else 0):=by rw [Hid,HR.out,if_neg k1,if_neg k2]
 clear HR k1 k2
 by_cases k3:k=3
 rotate_left
 ·have kb3:((k:Int) !=3)=true:=by simp [k3]
  have kb4:((k:Int)==3)=false:=by simp [k3]
  obtain rfl:r=0:=by rw [HR2.out,if_neg (λh=>k3 h.1)]
  clear HR2 k3
  go_wp2_with fail
  go_ret
  exact⟨by first|rfl|simp,HB.out⟩
 by_cases m2:m=2
 rotate_left
 ·obtain rfl:r=0:=by rw [HR2.out,if_neg (λh=>m2 h.2)]
  have b2:((m:Int) !=2)=true:=by rw [bne_iff_ne];omega
  have b3:(m==2)=false:=by simp [m2]
  clear HR2
  subst k3
  go_wp2_with fail
  go_ret
  exact⟨by first|rfl|simp,HB.out⟩
 have HR3:Hid (r=evalOp o (yw [r0,r1,r2,r3] dom d (x.kids.getD 0 default)) (yw [r0,r1,r2,r3] dom d (x.kids.getD 1 default)) % dom):=by rw [Hid,HR2.out,if_pos ⟨k3,m2⟩]
 clear HR2 kb kb2
 subst k3
 subst m2
 have hdn:¬dom<1:=by omega
 obtain⟨kM,ko,ka0,kc0,hka, -,p0,p1,p2,p3,hx0⟩:=HE.out.part 0 (by rw [<-HM.out];omega)
 subst hka
 obtain⟨zz4,ko2,ka1,kc1,hka, -,q0,q1,q2,q3,hx1⟩:=HE.out.part 1 (by rw [<-HM.out];omega)
 cases hka
 obtain⟨y0,hy0⟩:∃y,y=x.kids.getD 0 default:=⟨_,rfl⟩
 obtain⟨y1,hy1⟩:∃y,y=x.kids.getD 1 default:=⟨_,rfl⟩
 rw [<-hy0] at p0 p1 p2 p3 hx0
 rw [<-hy1] at q0 q1 q2 q3 hx1
 rw [<-hy0, <-hy1] at HR3
 rw [Nat.zero_mul,Nat.add_zero] at p0 p1 p2 p3
 rw [Nat.one_mul] at q0 q1 q2 q3
 have hk:=λX (hX:Below W.heap.size W X)=>zk (HB.out.trans (hX.mono HB.out.size))
 have CC:Hid (∀X,Below W.heap.size W X->X.cell? ⟨gx,3,none⟩=some (.slice (some ⟨kM,ko,none⟩) 2 kc)/\X.cell? ⟨gx+1,0,none⟩=some (.int .i64 r0)/\X.cell? ⟨gx+1,1,none⟩=some (.int .i64 r1)/\X.cell? ⟨gx+1,2,none⟩=some (.int .i64 r2)/\X.cell? ⟨gx+1,3,none⟩=some (.int .i64 r3)/\
   X.cell? ⟨kM,ko,none⟩=some (.int .i64 y0.kind)/\X.cell? ⟨kM,ko+1,none⟩=some (.int .i64 y0.n)/\X.cell? ⟨kM,ko+2,none⟩=some (.int .u8 y0.op)/\X.cell? ⟨kM,ko+3,none⟩=some (.slice ka0 y0.kids.length kc0)/\
   X.cell? ⟨kM,ko+4,none⟩=some (.int .i64 y1.kind)/\X.cell? ⟨kM,ko+4+1,none⟩=some (.int .i64 y1.n)/\X.cell? ⟨kM,ko+4+2,none⟩=some (.int .u8 y1.op)/\X.cell? ⟨kM,ko+4+3,none⟩=some (.slice ka1 y1.kids.length kc1)):=λX hX=>
  ⟨zk hX _ _ c3,zk hX _ _ (H2.out 0 (by omega)),zk hX _ _ (H2.out 1 (by omega)),zk hX _ _ (H2.out 2 (by omega)),zk hX _ _ (H2.out 3 (by omega)),hk X hX _ _ p0,hk X hX _ _ p1,hk X hX _ _ p2,hk X hX _ _ p3,hk X hX _ _ q0,hk X hX _ _ q1,hk X hX _ _ q2,hk X hX _ _ q3⟩
 have HX0:Hid (∀X,Below W.heap.size W X->Calls Tryz.prog 168 #[.agg #[.int .i64 y0.kind, .int .i64 y0.n, .int .u8 y0.op, .slice ka0 y0.kids.length kc0], .agg #[.int .i64 r0, .int .i64 r1, .int .i64 r2, .int .i64 r3], .int .i64 dom] X λe w'=>e= .returned (.int .i64 (yw [r0,r1,r2,r3] dom d y0))/\Below X.heap.size X w'):=λX hX=>HIH.out X y0 _ (hx0.below (HB.out.trans (hX.mono HB.out.size)))
 have HX1:Hid (∀X,Below W.heap.size W X->Calls Tryz.prog 168 #[.agg #[.int .i64 y1.kind, .int .i64 y1.n, .int .u8 y1.op, .slice ka1 y1.kids.length kc1], .agg #[.int .i64 r0, .int .i64 r1, .int .i64 r2, .int .i64 r3], .int .i64 dom] X λe w'=>e= .returned (.int .i64 (yw [r0,r1,r2,r3] dom d y1))/\Below X.heap.size X w'):=λX hX=>HIH.out X y1 _ (hx1.below (HB.out.trans (hX.mono HB.out.size)))
 obtain⟨va,hva⟩:∃v,v=yw [r0,r1,r2,r3] dom d y0:=⟨_,rfl⟩
 obtain⟨vb,hvb⟩:∃v,v=yw [r0,r1,r2,r3] dom d y1:=⟨_,rfl⟩
 rw [<-hva] at HX0 HR3
 rw [<-hvb] at HX1 HR3
 clear p0 p1 p2 p3 q0 q1 q2 q3 hx0 hx1 hk hy0 hy1 hva hvb
 go_wp2_with fail
 refine(zkY W o).mono ?_
 rintro e w2 ⟨⟨v,rfl,hv⟩,hb2⟩
 have HB2:=qh hb2
 clear c0 c1 c2 c3 hb2
 rcases hv with hv|⟨rfl,hz⟩
 ·obtain⟨f,cap,rfl,hfn,hop⟩:=hv
  have xM:=qh (hop)
  clear hop
  have C2:Hid (∀X,Below w2.heap.size w2 X->X.cell? ⟨gx,3,none⟩=some (.slice (some ⟨kM,ko,none⟩) 2 kc)/\X.cell? ⟨gx+1,0,none⟩=some (.int .i64 r0)/\X.cell? ⟨gx+1,1,none⟩=some (.int .i64 r1)/\X.cell? ⟨gx+1,2,none⟩=some (.int .i64 r2)/\X.cell? ⟨gx+1,3,none⟩=some (.int .i64 r3)/\
   X.cell? ⟨kM,ko,none⟩=some (.int .i64 y0.kind)/\X.cell? ⟨kM,ko+1,none⟩=some (.int .i64 y0.n)/\X.cell? ⟨kM,ko+2,none⟩=some (.int .u8 y0.op)/\X.cell? ⟨kM,ko+3,none⟩=some (.slice ka0 y0.kids.length kc0)/\
   X.cell? ⟨kM,ko+4,none⟩=some (.int .i64 y1.kind)/\X.cell? ⟨kM,ko+4+1,none⟩=some (.int .i64 y1.n)/\X.cell? ⟨kM,ko+4+2,none⟩=some (.int .u8 y1.op)/\X.cell? ⟨kM,ko+4+3,none⟩=some (.slice ka1 y1.kids.length kc1)):=λX hX=>CC.out X (zH HB2.out hX)
  have HY0:Hid (∀X,Below w2.heap.size w2 X->Calls Tryz.prog 168 #[.agg #[.int .i64 y0.kind, .int .i64 y0.n, .int .u8 y0.op, .slice ka0 y0.kids.length kc0], .agg #[.int .i64 r0, .int .i64 r1, .int .i64 r2, .int .i64 r3], .int .i64 dom] X λe w'=>e= .returned (.int .i64 va)/\Below X.heap.size X w'):=λX hX=>HX0.out X (zH HB2.out hX)
  have uw:Hid (∀X,Below w2.heap.size w2 X->Calls Tryz.prog 168 #[.agg #[.int .i64 y1.kind, .int .i64 y1.n, .int .u8 y1.op, .slice ka1 y1.kids.length kc1], .agg #[.int .i64 r0, .int .i64 r1, .int .i64 r2, .int .i64 r3], .int .i64 dom] X λe w'=>e= .returned (.int .i64 vb)/\Below X.heap.size X w'):=λX hX=>HX1.out X (zH HB2.out hX)
  have yR:Hid (Below w.heap.size w w2):=HB.out.trans (HB2.out.mono HB.out.size)
  have hdz:dom≠0:=by omega
  have z6m:((dom:Int)==0)=false:=by simp [hdz]
  clear HX0 HX1 CC HIH
  have heq:=zuM w2 (.func f) #[] cap
  go_upto_region 10 with fail
  clear heq
  refine jf (S:=λx=>Below w2.heap.size w2 x) (Below.refl _ _).drew (λhH=> ?_)
  refine zB 0 C2.out ?_
  refine zB 1 C2.out ?_
  refine zB 2 C2.out ?_
  refine zB 3 C2.out ?_
  refine zB 4 C2.out ?_
  refine zB 5 C2.out ?_
  refine zB 6 C2.out ?_
  refine zB 8 C2.out ?_
  refine zB 9 C2.out ?_
  refine zB 10 C2.out ?_
  refine zB 11 C2.out ?_
  refine zB 12 C2.out ?_
  refine zB 13 C2.out ?_
  refine zB 16 C2.out ?_
  refine yC 7 rfl (λK hK=> ?_)
  go_simp
  refine(HY0.out w2.drew hH).mono ?_
  rintro e hw7 ⟨rfl,hb⟩
  have gU:Below w2.heap.size w2 hw7:=zH hH hb
  refine hK.out _ _ gU (λ_=> ?_)
  clear hK K hb hH
  refine yC 14 rfl (λK hK=> ?_)
  go_simp
  refine(uw.out hw7 gU).mono ?_
  rintro e z0u ⟨rfl,hb⟩
  have zkP:Below w2.heap.size w2 z0u:=zH gU hb
  refine hK.out _ _ zkP (λ_=> ?_)
  clear hK K hb gU
  refine yC 15 rfl (λK hK=> ?_)
  go_simp
  refine(xM.out z0u zkP va vb).mono ?_
  rintro e z0v ⟨rfl,hb⟩
  have zwR:Below w2.heap.size w2 z0v:=zH zkP hb
  refine hK.out _ _ zwR (λ_=> ?_)
  clear hK K hb zkP
  refine zB 17 C2.out ?_
  refine zB 18 C2.out ?_
  refine xW ?_
  have xI:Hid (Below w.heap.size w z0v):=yR.out.trans (zwR.mono yR.out.size)
  clear HY0 uw xM hfn C2 hdz z6m
  obtain⟨q9,hq9⟩:∃q,q=(evalOp o va vb).tmod dom:=⟨_,rfl⟩
  rw [<-hq9]
  have hrr:r=if q9<0 then q9+dom else q9:=by rw [HR3.out, <-zsc _ _ hd1, <-hq9]
  have h91:=Int.tmod_lt_of_pos (evalOp o va vb) (show 0<dom by omega)
  have h92:=Int.lt_tmod_of_pos (evalOp o va vb) (show 0<dom by omega)
  rw [<-hq9] at h91 h92
  have t4:=wrap_add h91 h92 hd1 hd2
  have HRR:=qh hrr
  clear hq9 hrr h91 h92 HR3
  by_cases hneg:q9<0
  ·obtain rfl:r=q9+dom:=by rw [HRR.out,if_pos hneg]
   clear HRR
   go_wp2_with fail
   go_ret
   exact⟨by simp [t4],xI.out⟩
  obtain rfl:r=q9:=by rw [HRR.out,if_neg hneg]
  clear HRR
  go_wp2_with fail
  go_ret
  exact⟨by first|rfl|simp,xI.out⟩
 obtain rfl:r=0:=by rw [HR3.out,hz];simp
 clear HR3 hz
 have heq:=zmi w2
 go_wp2_with fail
 go_ret
 exact⟨by first|rfl|simp,HB.out.trans (HB2.out.mono HB.out.size)⟩
end Go.Proofs.YtnhahkiojbanfaaGreatDoor
namespace Go.Proofs.YtnhahkiojbanfaaGreatDoor
open Go.RowKit
set_option maxRecDepth 100000
set_option maxHeartbeats 16000000
variable {v0:Value}
structure xD (v0:Value) (w:World) (B gr:Nat) (pc r0 r1 r2 r3:Int) (buf:List zl) (bv:Value) (m:zy) (dom:Int) (mem:List Int) (mb mc:Nat) (bad:Bool):Prop where
 block:w.heap[gr]? =some (.cells #[.int .i64 pc, .int .i64 r0, .int .i64 r1, .int .i64 r2, .int .i64 r3,bv, .int .i64 m.model, .int .i64 m.bound, .int .i64 dom, .slice (some ⟨mb,0,none⟩) mem.length mc, .bool bad] 156 (0,0))
 row:w.ownsRow B 3 1 (.slice (some ⟨mb,0,none⟩) mem.length mc) mem.length (zo yM mem)
 vI:zZ w bv buf
 base:B<=gr
 ne:gr≠mb
 apart:buf≠ [] ->∀b o n c,bv= .slice (some ⟨b,o,none⟩) n c->b≠gr/\b≠mb
 kept:bv=v0\/∀b o n c,bv= .slice (some ⟨b,o,none⟩) n c->B<=b
section
variable {w w':World} {B gr mb mc:Nat} {pc r0 r1 r2 r3 dom:Int} {buf:List zl} {bv:Value} {m:zy} {mem:List Int} {bad:Bool}
theorem xD.below (h:xD v0 w B gr pc r0 r1 r2 r3 buf bv m dom mem mb mc bad) (hb:Below w.heap.size w w'):xD v0 w' B gr pc r0 r1 r2 r3 buf bv m dom mem mb mc bad:=
 ⟨(hb.block gr (zw h.block)).trans h.block,qp h.row hb,zZ.below h.vI hb,h.base,h.ne,h.apart,h.kept⟩
theorem xD.gW (h:xD v0 w B gr pc r0 r1 r2 r3 buf bv m dom mem mb mc bad):B<=mb/\mb<w.heap.size:=h.row.lt mb rfl
theorem xD.uV (h:xD v0 w B gr pc r0 r1 r2 r3 buf bv m dom mem mb mc bad) {v:Nat} (hv:v<mem.length):w.cell? ⟨mb,v,none⟩=some (.int .i64 (mem.getD v 0))/\w.frozen? ⟨mb,v,none⟩=false:=by
 have hx:(zo yM mem)[v]? =some (.int .i64 (mem.getD v 0)):=by
  have:=zay (f:=yM) zaC hv (show 0<1 by decide)
  simpa [yM] using this
 obtain⟨g,cap,he, -,h1,h2⟩:=vQ h.row hx
 cases he
 exact⟨h1,h2⟩
theorem zkn {F:Nat->Prop} {sv:Value} {l:List zl} (h:zZ w sv l) (hs:Since F w w') (hF:∀b o n c,sv= .slice (some ⟨b,o,none⟩) n c->¬F b):zZ w' sv l:=by
 obtain⟨a,cap,h1,h2,h4⟩:=h
 refine⟨a,cap,h1,h2,λj hj=> ?_⟩
 obtain⟨b,off,cs,h5,h6,h7,h8,h9⟩:=h4 j hj
 subst h5
 exact⟨b,off,cs,rfl,Nat.lt_of_lt_of_le h6 hs.size,h7,λi hi=>(hs.cell (p:=⟨b,off+j*2+i,none⟩) h6 (hF b off _ _ h1)).trans (h8 i hi),h9⟩
theorem zaE {F:Nat->Prop} {sv:Value} {l:List zl} (h:zZ w sv l) (hs:Since F w w') (hF:l≠ [] ->∀b o n c,sv= .slice (some ⟨b,o,none⟩) n c->¬F b):zZ w' sv l:=by
 by_cases e:l= []
 ·subst e
  obtain⟨a,cap,h1,h2, -⟩:=h
  exact⟨a,cap,h1,h2,λj hj=>by simp at hj⟩
 exact zkn h hs (hF e)
theorem xD.zpK (h:xD v0 w B gr pc r0 r1 r2 r3 buf bv m dom mem mb mc bad) (x:Int):xD v0 (w.setCell ⟨gr,0,none⟩ (.int .i64 x)) B gr x r0 r1 r2 r3 buf bv m dom mem mb mc bad:=by
 have hs:=Since.setCell (F:=λk=>k=gr) (p:=⟨gr,0,none⟩) (Since.refl _ w) (.inl rfl) (.int .i64 x)
 exact⟨zu h.block 0 _,hs.row h.row (λk hk e=>h.ne (by cases hk;exact e.symm)),zaE h.vI hs (λe b o n c hb=>(h.apart e b o n c hb).1),h.base,h.ne,h.apart,h.kept⟩
theorem xD.zmj (h:xD v0 w B gr pc r0 r1 r2 r3 buf bv m dom mem mb mc bad) (x:Bool):xD v0 (w.setCell ⟨gr,10,none⟩ (.bool x)) B gr pc r0 r1 r2 r3 buf bv m dom mem mb mc x:=by
 have hs:=Since.setCell (F:=λk=>k=gr) (p:=⟨gr,10,none⟩) (Since.refl _ w) (.inl rfl) (.bool x)
 exact⟨zu h.block 10 _,hs.row h.row (λk hk e=>h.ne (by cases hk;exact e.symm)),zaE h.vI hs (λe b o n c hb=>(h.apart e b o n c hb).1),h.base,h.ne,h.apart,h.kept⟩
theorem xD.zf1 (h:xD v0 w B gr pc r0 r1 r2 r3 buf bv m dom mem mb mc bad) (k:Nat) (hk:k<4) (x:Int):xD v0 (w.setCell ⟨gr,1+k,none⟩ (.int .i64 x)) B gr pc (([r0,r1,r2,r3].set k x).getD 0 0) (([r0,r1,r2,r3].set k x).getD 1 0) (([r0,r1,r2,r3].set k x).getD 2 0) (([r0,r1,r2,r3].set k x).getD 3 0) buf bv m dom mem mb mc bad:=by
 have hs:=Since.setCell (F:=λk=>k=gr) (p:=⟨gr,1+k,none⟩) (Since.refl _ w) (.inl rfl) (.int .i64 x)
 refine⟨?_,hs.row h.row (λk hk e=>h.ne (by cases hk;exact e.symm)),zaE h.vI hs (λe b o n c hb=>(h.apart e b o n c hb).1),h.base,h.ne,h.apart,h.kept⟩
 have e:=zu h.block (1+k) (.int .i64 x)
 have:k=0\/k=1\/k=2\/k=3:=by omega
 rcases this with rfl|rfl|rfl|rfl<;>exact e
theorem xD.zse (h:xD v0 w B gr pc r0 r1 r2 r3 buf bv m dom mem mb mc bad) {V:World} (hV:gr<V.heap.size/\mb<V.heap.size) {bv':Value} {buf':List zl} (hb:w.ownsRow V.heap.size 110 2 bv' buf'.length (zo zl.cells buf')):xD v0 (w.setCell ⟨gr,5,none⟩ bv') B gr pc r0 r1 r2 r3 buf' bv' m dom mem mb mc bad:=by
 have hs:=Since.setCell (F:=λk=>k=gr) (p:=⟨gr,5,none⟩) (Since.refl _ w) (.inl rfl) bv'
 have ha:∀b o n c,bv'= .slice (some ⟨b,o,none⟩) n c->b≠gr/\b≠mb:=λb o n c e=>by
  rcases hb.2 with⟨he, -⟩|⟨g,cap,cur,he,hB, -⟩
  ·rw [he] at e;cases e
  rw [he] at e;cases e;exact⟨by omega,by omega⟩
 refine⟨zu h.block 5 _,hs.row h.row (λk hk e=>h.ne (by cases hk;exact e.symm)),zkn (kX hb) hs (λb o n c e=>(ha b o n c e).1),h.base,h.ne,λ_=>ha, .inr λb o n c e=> ?_⟩
 have hbg:=h.base
 rcases hb.2 with⟨he, -⟩|⟨g,cap,cur,he,hB, -⟩
 ·rw [he] at e;cases e
 rw [he] at e;cases e;omega
theorem xD.zdM (h:xD v0 w B gr pc r0 r1 r2 r3 buf bv m dom mem mb mc bad) (v:Nat) (x:Int):xD v0 (w.setCell ⟨mb,v,none⟩ (.int .i64 x)) B gr pc r0 r1 r2 r3 buf bv m dom (mem.set v x) mb mc bad:=by
 have hs:=Since.setCell (F:=λk=>k=mb) (p:=⟨mb,v,none⟩) (Since.refl _ w) (.inl rfl) (.int .i64 x)
 have hr:=pV (j:=v) h.row (.int .i64 x)
 refine⟨?_, ?_,zaE h.vI hs (λe b o n c hb=>(h.apart e b o n c hb).2),h.base,h.ne,h.apart,h.kept⟩
 ·rw [List.length_set];exact(hs.block gr (zw h.block) h.ne).trans h.block
 rw [List.length_set,zmk];exact hr
end
theorem zaB {w:World} {B gr mb mc:Nat} {pc r0 r1 r2 r3 dom:Int} {buf:List zl} {bv:Value} {m:zy} {mem:List Int} {bad:Bool} (h:xD v0 w B gr pc r0 r1 r2 r3 buf bv m dom mem mb mc bad) (hd1:1<=dom) (hd2:dom<=1000) (d:Nat) (x:zO) (kv:Value) (hx:zG d w x kv):
  Calls Tryz.prog 156 #[.pointer (some ⟨gr,0,none⟩),qy x kv] w λe w'=>e= .returned (.int .i64 (yw [r0,r1,r2,r3] dom d x))/\Below w.heap.size w w':=by
 have hev:=λW (hW:Below w.heap.size w W)=>zsd r0 r1 r2 r3 dom hd1 hd2 d W x kv (hx.below hW)
 obtain⟨ka,kc,rfl, -⟩:=hx.slice
 generalize yw [r0,r1,r2,r3] dom d x=r at hev ⊢
 unfold qy at hev ⊢
 generalize x.kind=k at hev ⊢
 generalize x.n=n at hev ⊢
 generalize x.op=o at hev ⊢
 generalize x.kids.length=l at hev ⊢
 have HEV:=qh hev
 have HR:=qh h
 clear hev hx h
 have HA:=qh ((Below.refl w.heap.size w).alloc (Nat.le_refl _) (.cells #[.int .i64 k, .int .i64 n, .int .u8 o, .slice ka l kc] 58))
 have HX:=qh (yj w (.cells #[.int .i64 k, .int .i64 n, .int .u8 o, .slice ka l kc] 58))
 go_enter Tryz.func156,Tryz.ntmps156
 go_upto_region 1 with fail
 generalize World.alloc w _=W at HA HX ⊢
 obtain⟨gi,hgi⟩:∃g,g=w.heap.size:=⟨_,rfl⟩
 rw [<-hgi] at HX ⊢
 clear hgi
 have HB:=qh ((HR.out.below HA.out).block)
 have CC:Hid (∀x,Below W.heap.size W x->x.cell? ⟨gi,0,none⟩=some (.int .i64 k)/\x.cell? ⟨gi,1,none⟩=some (.int .i64 n)/\x.cell? ⟨gi,2,none⟩=some (.int .u8 o)/\x.cell? ⟨gi,3,none⟩=some (.slice ka l kc)/\x.cell? ⟨gr,1,none⟩=some (.int .i64 r0)/\x.cell? ⟨gr,2,none⟩=some (.int .i64 r1)/\x.cell? ⟨gr,3,none⟩=some (.int .i64 r2)/\x.cell? ⟨gr,4,none⟩=some (.int .i64 r3)/\x.cell? ⟨gr,8,none⟩=some (.int .i64 dom)):=λx hx=>
  ⟨zk hx _ _ (ze HX.out 0),zk hx _ _ (ze HX.out 1),zk hx _ _ (ze HX.out 2),zk hx _ _ (ze HX.out 3),zk hx _ _ (ze HB.out 1),zk hx _ _ (ze HB.out 2),zk hx _ _ (ze HB.out 3),zk hx _ _ (ze HB.out 4),zk hx _ _ (ze HB.out 8)⟩
 refine jf (S:=λx=>Below W.heap.size W x) ((Below.refl _ _).drew) (λhH=> ?_)
 refine zB 0 CC.out ?_
 refine zB 1 CC.out ?_
 refine zB 2 CC.out ?_
 refine zB 3 CC.out ?_
 refine zB 4 CC.out ?_
 refine zB 5 CC.out ?_
 refine zB 6 CC.out ?_
 refine zB 7 CC.out ?_
 refine zB 8 CC.out ?_
 refine zB 9 CC.out ?_
 refine yC 10 rfl (λK hK=> ?_)
 go_simp
 refine(HEV.out W.drew (zH HA.out hH)).mono ?_
 rintro e z0y ⟨rfl,hb⟩
 have zwT:Below W.heap.size W z0y:=zH hH hb
 refine hK.out _ _ zwT (λ_=> ?_)
 clear hK K hb hH
 refine zB 11 CC.out ?_
 refine xW ?_
 have HB2:Hid (Below w.heap.size w z0y):=zH HA.out (zwT)
 go_wp2_with fail
 go_ret
 exact⟨by first|rfl|(simp;done)|(simp;omega),HB2.out⟩
theorem pQ {w:World} {B gr mb mc:Nat} {pc r0 r1 r2 r3 dom:Int} {buf:List zl} {bv:Value} {m:zy} {mem:List Int} {bad:Bool} (h:xD v0 w B gr pc r0 r1 r2 r3 buf bv m dom mem mb mc bad):
  Calls Tryz.prog 158 #[.pointer (some ⟨gr,0,none⟩)] w λe w'=>e= .returned (.bool (decide (buf.length=0)))/\w'=w:=by
 obtain⟨ba,bc,hbv, -⟩:=zh.slice h.vI
 have hb:=h.block
 rw [hbv] at hb
 have c5:w.cell? ⟨gr,5,none⟩=some (.slice ba buf.length bc):=ze hb 5
 clear hb h
 go_enter Tryz.func158,Tryz.ntmps158
 go_wp2_with fail
 go_ret
 refine⟨congrArg (λq=>Ending.returned (.bool q)) ?_,rfl⟩
 first|rfl|(rw [Bool.eq_iff_iff];simp)
