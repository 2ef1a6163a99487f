/- Steps. -/
import Derived.Test.YtliajkheeniljaaGreatDoorZxClosedP
import Derived.Test.YtliajkheeniljaaGreatDoorZxPDo
import Derived.Test.YtliajkheeniljaaGreatDoorZxPSpace
import Derived.Test.YtliajkheeniljaaGreatDoorZxPTrail
set_option linter.all false
namespace Go.Proofs.YtliajkheeniljaaGreatDoor
open Go.RowKit
set_option maxRecDepth 100000
set_option maxHeartbeats 16000000
def zkI (l:List zk) (r:Int):Prop:=(∃i:Nat,i<l.length/\r=i/\(l.getD i default).bad=true/\∀j,j<i->(l.getD j default).bad=false)\/(r= -1/\∀j,j<l.length->(l.getD j default).bad=false)
theorem zkI.one {l:List zk} {r q:Int} (h:zkI l r) (k:zkI l q):r=q:=by
 rcases h with⟨i,h1,rfl,h2,h3⟩|⟨rfl,h1⟩<;>rcases k with⟨j,k1,rfl,k2,k3⟩|⟨rfl,k1⟩
 ·rcases Nat.lt_trichotomy i j with e|e|e
  ·rw [k3 i e] at h2;cases h2
  ·rw [e]
  rw [h3 j e] at k2;cases k2
 ·rw [k1 i h1] at h2;cases h2
 ·rw [h1 j k1] at k2;cases k2
 rfl
def ztg (w:World) (l:List zk) (e:Ending) (w':World):Prop:=∃r,e= .returned (.int .i64 r)/\zkI l r/\Below w.heap.size w w'
theorem zkp (w:World) (a b:Value) (bd:Bool):Calls Tryz.prog 61 #[.agg #[a,b, .bool bd]] w λe w'=>e= .returned (.bool bd)/\Below w.heap.size w w':=by
 go_enter Tryz.func61,Tryz.ntmps61
 go_wp2
 go_ret
 exact⟨rfl,(Below.refl _ _).alloc (Nat.le_refl _) _⟩
theorem zju (w:World) (sv:Value) (l:List zk) (hl:kV w sv l):Calls Tryz.prog 60 #[sv, .func (.func 61) #[] #[]] w (ztg w l):=by
 obtain⟨a,cap,rfl,hn⟩:=zh.slice hl
 have HL:=qh hl
 clear hl
 obtain⟨n,hnd⟩:∃n,n=l.length:=⟨_,rfl⟩
 rw [<-hnd] at hn HL ⊢
 have HN:=qh hnd
 clear hnd
 go_enter Tryz.func60,Tryz.ntmps60
 go_wp2_with fail
 go_loopg [8] n (λg s8 wr=>∃i:Nat,i<=n/\Hid (g=n - i)/\s8= .int .i64 i/\Hid (∀j,j<i->(l.getD j default).bad=false)/\Hid (Below w.heap.size w wr))
 case atStart=>exact⟨0,Nat.zero_le _,rfl,rfl,λj hj=>by omega,Below.refl _ _⟩
 case round=>
 obtain⟨i,hi,HG,rfl,HJ,HB⟩:=hrel
 by_cases hlt:i<n
 rotate_left
 ·obtain rfl:n=i:=by omega
  go_wp2_with fail
  go_ret
  exact⟨-1,rfl, .inr ⟨rfl,λj hj=>HJ.out j (by rw [HN.out];exact hj)⟩,HB.out⟩
 have qG:(i:Int)<(n:Int):=by omega
 obtain⟨eb,eo,tv,yv,zZ, -,x0,x1,x2, -⟩:=kV.part (zh.below qN.stays HL.out HB.out) i (by rw [<-HN.out];exact hlt)
 subst zZ
 obtain⟨bd,hbd⟩:∃b,b=(l.getD i default).bad:=⟨_,rfl⟩
 rw [<-hbd] at x2
 have uS:=qh hbd
 clear hbd
 cases bd
 ·go_wp2_with(go_at_call 61;go_must(refine(zkp _ _ _ _).mono ?_);rintro e w2 ⟨rfl,hb2⟩;(have HB2:=qh (zB HB.out hb2));clear hb2)
  go_roundg (n - (i+1))
  case measure=>rw [HG.out];omega
  case rel=>exact⟨i+1,by omega,rfl,by simp,λj hj=>by
   by_cases he:j=i
   ·subst he;exact uS.out.symm
   exact HJ.out j (by omega),HB2.out⟩
 go_wp2_with(go_at_call 61;go_must(refine(zkp _ _ _ _).mono ?_);rintro e w2 ⟨rfl,hb2⟩;(have HB2:=qh (zB HB.out hb2));clear hb2)
 go_ret
 exact⟨i,rfl, .inl ⟨i,by rw [<-HN.out];exact hlt,rfl,uS.out.symm,HJ.out⟩,HB2.out⟩
theorem zvQ (w:World) (S:yM) (sv mv nv:Value) (h:qK w S sv mv nv):Calls Tryz.prog 31 #[bB sv mv nv] w (ztg w S.states):=by
 have hl:=h.1
 obtain⟨a,cap,rfl, -⟩:=zh.slice hl
 generalize S.states.length=n at hl ⊢
 unfold bB
 have hB:=(Below.refl w.heap.size w).alloc (Nat.le_refl _) (.cells #[.slice a n cap,mv,nv] 71)
 have HI:=qh (zju _ _ _ (zh.below qN.stays hl hB))
 have HB:=qh hB
 have H1:=qh (yt w (.cells #[.slice a n cap,mv,nv] 71))
 clear hl hB h
 go_enter Tryz.func31,Tryz.ntmps31
 go_upto_region 1 with fail
 generalize World.alloc w _=W at HB H1 HI ⊢
 generalize w.heap.size=gx at H1 ⊢
 have c0:=ze H1.out 0
 go_wp2_with(go_at_call 60;go_must(refine HI.out.mono ?_);rintro e w2 ⟨r,rfl,hr,hb2⟩;(have HR:=qh hr);(have HB2:=qh hb2);clear hr hb2)
 go_ret
 exact⟨r,rfl,HR.out,HB.out.trans (HB2.out.mono HB.out.size)⟩
def zaY:zA:=⟨0,1⟩
def jd:yM:=(yQ qL zaY 100 1).1
def zmK:Bool:=decide ((yQ qL zaY 100 1).2=0) && decide (4<jd.states.length) && decide (jd.states.length<=100) && decide (jd.next.length=jd.states.length) && decide (jd.moves.length=jd.states.length) && jd.states.all (λs=> !s.bad) && decide (vM jd 1 1= [⟨1,0,0⟩])
theorem zth:zmK=true:=by decide+kernel
theorem z2r:(yQ qL zaY 3 1).2=40:=by decide+kernel
theorem z2s:(yQ qL zaY 0 1).2=1:=by decide+kernel
theorem z2t:(zcc qL zaY [⟨1,0,0⟩,⟨1,1,0⟩] 1).2=0/\(zcc qL zaY [⟨1,0,0⟩,⟨1,1,0⟩] 1).1.mem.length=2/\(zcc qL zaY [⟨1,0,0⟩,⟨1,1,0⟩] 1).1.mem.getD 1 0=1:=by decide+kernel
theorem z2u:(zcc qL zaY [⟨2,0,0⟩] 1).2=50:=by decide+kernel
structure zyy:Prop where
 e:(yQ qL zaY 100 1).2=0
 many:4<jd.states.length
 few:jd.states.length<=100
 next:jd.next.length=jd.states.length
 moves:jd.moves.length=jd.states.length
 calm:∀j,j<jd.states.length->(jd.states.getD j default).bad=false
 trail:vM jd 1 1= [⟨1,0,0⟩]
theorem zeA:zyy:=by
 have h:=zth
 unfold zmK at h
 simp only [Bool.and_eq_true,decide_eq_true_eq] at h
 obtain⟨⟨⟨⟨⟨⟨h1,h2⟩,h3⟩,h4⟩,h5⟩,h6⟩,h7⟩:=h
 refine⟨h1,h2,h3,h4,h5,λj hj=> ?_,h7⟩
 have:=List.all_eq_true.1 h6 _ (qy (x:=default) hj)
 simpa using this
def z2Z (n:Nat) (w:World) (e:Ending) (w':World):Prop:=(∃(a1 a2 a3:Option Addr) (c1 c2 c3:Nat),e= .returned (.tuple #[.agg #[.slice a1 n c1, .slice a2 n c2, .slice a3 n c3], .int .i64 0])/\qK w' jd (.slice a1 n c1) (.slice a2 n c2) (.slice a3 n c3))/\Below w.heap.size w w'
def z3a (k:Int) (w:World) (e:Ending) (w':World):Prop:=(∃(a1 a2 a3:Option Addr) (n1 n2 n3 c1 c2 c3:Nat),e= .returned (.tuple #[.agg #[.slice a1 n1 c1, .slice a2 n2 c2, .slice a3 n3 c3], .int .i64 k]))/\Below w.heap.size w w'
theorem z2v (w:World) (ta:Option Addr) (tc n:Nat) (hn:n=jd.states.length) (h:yE 1 w (.slice ta 2 tc) qL.threads):Calls Tryz.prog 28 #[.agg #[.int .i64 2, .int .i64 2, .slice ta 2 tc], .agg #[.int .i64 0, .int .i64 1], .int .i64 100] w (z2Z n w):=by
 refine(bF w qL _ 1 h zaY 100).mono ?_
 rintro e w' ⟨⟨sv,mv,nv,rfl,hs, -, -⟩,hb⟩
 have d:=zeA
 rw [d.e]
 have hs2:qK w' jd sv mv nv:=hs
 obtain⟨a1,c1,rfl, -⟩:=zh.slice hs2.1
 obtain⟨a2,c2,rfl, -⟩:=zh.slice hs2.2.1
 obtain⟨a3,c3,rfl, -⟩:=zh.slice hs2.2.2
 rw [d.moves,d.next, <-hn] at hs2 ⊢
 exact⟨⟨a1,a2,a3,c1,c2,c3,rfl,hs2⟩,hb⟩
theorem zti (w:World) (ta:Option Addr) (tc:Nat) (r k:Int) (hk:(yQ qL zaY r 1).2=k) (h:yE 1 w (.slice ta 2 tc) qL.threads):Calls Tryz.prog 28 #[.agg #[.int .i64 2, .int .i64 2, .slice ta 2 tc], .agg #[.int .i64 0, .int .i64 1], .int .i64 r] w (z3a k w):=by
 refine(bF w qL _ 1 h zaY r).mono ?_
 rintro e w' ⟨⟨sv,mv,nv,rfl,hs, -, -⟩,hb⟩
 rw [hk]
 obtain⟨a1,c1,rfl, -⟩:=zh.slice hs.1
 obtain⟨a2,c2,rfl, -⟩:=zh.slice hs.2.1
 obtain⟨a3,c3,rfl, -⟩:=zh.slice hs.2.2
 exact⟨⟨a1,a2,a3,_,_,_,c1,c2,c3,rfl⟩,hb⟩
def z3b (w:World) (e:Ending) (w':World):Prop:=(∃(a:Option Addr) (b o n c f:Nat) (bd:Bool),e= .returned (.tuple #[.agg #[.slice a n c, .slice (some ⟨b,o,none⟩) 2 f, .bool bd], .int .i64 0])/\b<w'.heap.size/\w'.cell? ⟨b,o+1,none⟩=some (.int .i64 1))/\Below w.heap.size w w'
def z3c (k:Int) (w:World) (e:Ending) (w':World):Prop:=(∃(a b:Option Addr) (n c m f:Nat) (bd:Bool),e= .returned (.tuple #[.agg #[.slice a n c, .slice b m f, .bool bd], .int .i64 k]))/\Below w.heap.size w w'
theorem z2w (w:World) (ta:Option Addr) (tc:Nat) (h:yE 1 w (.slice ta 2 tc) qL.threads) (lv:Value) (hl:qV w lv [⟨1,0,0⟩,⟨1,1,0⟩]):Calls Tryz.prog 34 #[.agg #[.int .i64 2, .int .i64 2, .slice ta 2 tc], .agg #[.int .i64 0, .int .i64 1],lv] w (z3b w):=by
 refine(zgf w qL _ 1 h zaY lv _ hl).mono ?_
 rintro e w' ⟨⟨a,b,n,c,k,f,rfl,hs⟩,hb⟩
 obtain⟨e1,e2,e3⟩:=z2t
 have hm:=hs.mem
 obtain⟨_,_,q, -⟩:=zh.slice hm
 cases q
 obtain⟨eb,eo,rfl,hbl,z0⟩:=xC.part hm 1 (by rw [e2];decide)
 rw [e3] at z0
 rw [e1,e2]
 exact⟨⟨a,eb,eo,n,c,f,_,rfl,hbl,z0⟩,hb⟩
theorem z2x (w:World) (ta:Option Addr) (tc:Nat) (h:yE 1 w (.slice ta 2 tc) qL.threads) (lv:Value) (hl:qV w lv [⟨2,0,0⟩]):Calls Tryz.prog 34 #[.agg #[.int .i64 2, .int .i64 2, .slice ta 2 tc], .agg #[.int .i64 0, .int .i64 1],lv] w (z3c 50 w):=by
 refine(zgf w qL _ 1 h zaY lv _ hl).mono ?_
 rintro e w' ⟨⟨a,b,n,c,k,f,rfl,hs⟩,hb⟩
 rw [z2u]
 exact⟨⟨a,b,n,c,k,f,_,rfl⟩,hb⟩
def z3d (w:World) (e:Ending) (w':World):Prop:=(∃(b c:Nat),e= .returned (.slice (some ⟨b,0,none⟩) 1 c)/\w'.cell? ⟨b,0,none⟩=some (.int .i64 1)/\w'.cell? ⟨b,1,none⟩=some (.int .i64 0)/\w'.cell? ⟨b,2,none⟩=some (.int .i64 0))/\Below w.heap.size w w'
theorem z3e (w:World) (a1 a2 a3:Option Addr) (n c1 c2 c3:Nat) (h:qK w jd (.slice a1 n c1) (.slice a2 n c2) (.slice a3 n c3)):Calls Tryz.prog 39 #[.agg #[.slice a1 n c1, .slice a2 n c2, .slice a3 n c3], .int .i64 1] w (z3d w):=by
 have d:=zeA
 have hc:=zqg w jd _ _ _ h d.moves d.next 1 (by have:=d.many;omega) (by have:=d.few;omega)
 rw [show((1:Nat):Int)=1 from rfl,d.trail] at hc
 refine hc.mono ?_
 rintro e w' ⟨sv,rfl,hr,hb⟩
 obtain⟨g,cap,rfl, -, -⟩:=wU hr (by decide)
 exact⟨⟨g,cap,rfl,hr.cellAt 0 (by decide),hr.cellAt 1 (by decide),hr.cellAt 2 (by decide)⟩,hb⟩
theorem z3f (w:World) (a1 a2 a3:Option Addr) (n c1 c2 c3:Nat) (h:qK w jd (.slice a1 n c1) (.slice a2 n c2) (.slice a3 n c3)):Calls Tryz.prog 31 #[.agg #[.slice a1 n c1, .slice a2 n c2, .slice a3 n c3]] w λe w'=>e= .returned (.int .i64 (-1))/\Below w.heap.size w w':=by
 refine(zvQ w jd _ _ _ h).mono ?_
 rintro e w' ⟨r,rfl,hr,hb⟩
 obtain rfl:r= -1:=hr.one (.inr ⟨rfl,zeA.calm⟩)
 exact⟨rfl,hb⟩
theorem z3g (w:World):Calls Tryz.prog 41 #[] w λe w'=>(∃(ta:Option Addr) (tc:Nat),e= .returned (.agg #[.int .i64 2, .int .i64 2, .slice ta 2 tc])/\yE 1 w' (.slice ta 2 tc) qL.threads)/\Below w.heap.size w w':=by
 refine(zpH w).mono ?_
 rintro e w' ⟨⟨tv,rfl,ht⟩,hb⟩
 obtain⟨ta,tc,rfl, -⟩:=zh.slice ht
 exact⟨⟨ta,tc,rfl,ht⟩,hb⟩
theorem zgE (w:World):Calls Tryz.prog 33 #[] w λe w'=>e= .returned (.bool true)/\Below w.heap.size w w':=by
 obtain⟨n,hn⟩:∃n,n=jd.states.length:=⟨_,rfl⟩
 have h4:(4:Int)<(n:Int):=by have:=zeA.many;omega
 have HN:=qh hn
 clear hn
 go_enter Tryz.func33,Tryz.ntmps33
 go_upto_region 2 with(go_at_call 41;go_must(refine(z3g _).mono ?_);rintro e W1 ⟨⟨ta,tc,rfl,ht⟩,hb⟩;have HT1:=qh ht;have HB0:=qh hb;clear ht hb)
 have HB1:=qh (HB0.out.trans ((yU W1 (.cells #[.int .i64 2, .int .i64 2, .slice ta 2 tc] 24) (.cells #[.int .i64 0, .int .i64 1] 26)).mono HB0.out.size))
 have HT2:=qh (zh.below (qx.stays 1) HT1.out (yU W1 (.cells #[.int .i64 2, .int .i64 2, .slice ta 2 tc] 24) (.cells #[.int .i64 0, .int .i64 1] 26)))
 have q1:((W1.alloc (.cells #[.int .i64 2, .int .i64 2, .slice ta 2 tc] 24)).alloc (.cells #[.int .i64 0, .int .i64 1] 26)).heap[W1.heap.size]? =some (.cells #[.int .i64 2, .int .i64 2, .slice ta 2 tc] 24 (0,0)):=(Below.heap_alloc _ _ _ (by simp)).trans (yt W1 _)
 have q2:((W1.alloc (.cells #[.int .i64 2, .int .i64 2, .slice ta 2 tc] 24)).alloc (.cells #[.int .i64 0, .int .i64 1] 26)).heap[W1.heap.size+1]? =some (.cells #[.int .i64 0, .int .i64 1] 26 (0,0)):=by
  have:=yt (W1.alloc (.cells #[.int .i64 2, .int .i64 2, .slice ta 2 tc] 24)) (.cells #[.int .i64 0, .int .i64 1] 26)
  rwa [World.size_alloc] at this
 have Q1:=qh q1
 have Q2:=qh q2
 clear q1 q2 HT1 HB0
 generalize World.alloc (World.alloc W1 _) _=X1 at HB1 HT2 Q1 Q2 ⊢
 generalize W1.heap.size=g1 at Q1 Q2 ⊢
 have CX:Hid (∀y,Below X1.heap.size X1 y->y.cell? ⟨g1,0,none⟩=some (.int .i64 2)/\y.cell? ⟨g1,1,none⟩=some (.int .i64 2)/\y.cell? ⟨g1,2,none⟩=some (.slice ta 2 tc)/\y.cell? ⟨g1+1,0,none⟩=some (.int .i64 0)/\y.cell? ⟨g1+1,1,none⟩=some (.int .i64 1)/\yE 1 y (.slice ta 2 tc) qL.threads):=λy hy=>
  ⟨zi hy _ _ (ze Q1.out 0),zi hy _ _ (ze Q1.out 1),zi hy _ _ (ze Q1.out 2),zi hy _ _ (ze Q2.out 0),zi hy _ _ (ze Q2.out 1),zh.below (qx.stays 1) HT2.out hy⟩
 have vg:Hid (Below X1.heap.size X1 X1):=Below.refl _ _
 clear HT2 Q1 Q2
 obtain⟨x0,x1,x2,x3,x4,x5⟩:=CX.out X1 vg.out
 have HRW:=qh x5
 clear x5
 go_upto_region 3 with(go_at_call 28;go_must(refine(z2v _ _ _ n HN.out HRW.out).mono ?_);rintro e W2 ⟨⟨a1,a2,a3,c1,c2,c3,rfl,hs⟩,hb⟩;have uX:=qh hs;have yj:=qh hb;clear hs hb)
 have hz:=yt W2 (.cells #[.slice a1 n c1, .slice a2 n c2, .slice a3 n c3] 71)
 have ha:=(Below.refl W2.heap.size W2).alloc (Nat.le_refl _) (.cells #[.slice a1 n c1, .slice a2 n c2, .slice a3 n c3] 71)
 replace uX:=qh (uX.out.below ha)
 have HS2:=qh (zB vg.out (yj.out.trans (ha.mono yj.out.size)))
 have HZ:=qh hz
 clear hz ha yj x0 x1 x2 x3 x4 HRW
 generalize World.alloc W2 _=X2 at uX HS2 HZ ⊢
 generalize W2.heap.size=g3 at HZ ⊢
 have CS:Hid (∀y,Below X2.heap.size X2 y->y.cell? ⟨g3,0,none⟩=some (.slice a1 n c1)/\y.cell? ⟨g3,1,none⟩=some (.slice a2 n c2)/\y.cell? ⟨g3,2,none⟩=some (.slice a3 n c3)/\qK y jd (.slice a1 n c1) (.slice a2 n c2) (.slice a3 n c3)):=λy hy=>
  ⟨zi hy _ _ (ze HZ.out 0),zi hy _ _ (ze HZ.out 1),zi hy _ _ (ze HZ.out 2),uX.out.below hy⟩
 have HU2:Hid (Below X2.heap.size X2 X2):=Below.refl _ _
 clear HZ uX
 obtain⟨x0,x1,x2,x3,x4,x5⟩:=CX.out X2 HS2.out
 have HRW:=qh x5
 clear x5
 go_upto_region 4 with(go_at_call 28;go_must(refine(zti _ _ _ 3 40 z2r HRW.out).mono ?_);rintro e W3 ⟨⟨p1,p2,p3,n1,n2,n3,k1,k2,k3,rfl⟩,hb⟩;have yj:=qh hb;clear hb)
 have ha:=yj.out.trans (((Below.refl W3.heap.size W3).alloc (Nat.le_refl _) (.cells #[.slice p1 n1 k1, .slice p2 n2 k2, .slice p3 n3 k3] 71)).mono yj.out.size)
 have HS3:=qh (zB HS2.out ha)
 have HU3:=qh (zB HU2.out ha)
 clear ha yj x0 x1 x2 x3 x4 HRW HS2 HU2
 generalize World.alloc W3 _=X3 at HS3 HU3 ⊢
 obtain⟨x0,x1,x2,x3,x4,x5⟩:=CX.out X3 HS3.out
 have HRW:=qh x5
 clear x5
 go_upto_region 5 with(go_at_call 28;go_must(refine(zti _ _ _ 0 1 z2s HRW.out).mono ?_);rintro e W4 ⟨⟨p1,p2,p3,n1,n2,n3,k1,k2,k3,rfl⟩,hb⟩;have yj:=qh hb;clear hb)
 have ha:=yj.out.trans (((Below.refl W4.heap.size W4).alloc (Nat.le_refl _) (.cells #[.slice p1 n1 k1, .slice p2 n2 k2, .slice p3 n3 k3] 71)).mono yj.out.size)
 have HS4:=qh (zB HS3.out ha)
 have HU4:=qh (zB HU3.out ha)
 clear ha yj x0 x1 x2 x3 x4 HRW HS3 HU3
 generalize World.alloc W4 _=X4 at HS4 HU4 ⊢
 obtain⟨x0,x1,x2,x3,x4,x5⟩:=CX.out X4 HS4.out
 have HRW:=qh x5
 clear x5
 have hl2:qV (X4.alloc (.cells #[.int .i64 1, .int .i64 0, .int .i64 0, .int .i64 1, .int .i64 1, .int .i64 0] 32)) (.slice (some ⟨X4.heap.size,0,none⟩) 2 2) [⟨1,0,0⟩,⟨1,1,0⟩] :=zat (B:=0) ⟨rfl, .inr ⟨X4.heap.size,2,_,rfl,Nat.zero_le _,yt X4 _,Nat.le_refl _,by unfold maxLen;decide,rfl,rfl⟩⟩
 have HL2:=qh hl2
 have zmL:=qh (zh.below (qx.stays 1) HRW.out ((Below.refl X4.heap.size X4).alloc (Nat.le_refl _) (.cells #[.int .i64 1, .int .i64 0, .int .i64 0, .int .i64 1, .int .i64 1, .int .i64 0] 32)))
 clear hl2
 go_upto_region 6 with(go_at_call 34;go_must(refine(z2w _ _ _ zmL.out _ HL2.out).mono ?_);rintro e W5 ⟨⟨p1,mb,mo,n1,k1,k2,bd,rfl,hmb,hmc⟩,hb⟩;have HMB:=qh hmb;have HMC:=qh hmc;have yj:=qh hb;clear hmb hmc hb)
 have hz:=yt W5 (.cells #[.slice p1 n1 k1, .slice (some ⟨mb,mo,none⟩) 2 k2, .bool bd] 30)
 have ha:=(Below.refl W5.heap.size W5).alloc (Nat.le_refl _) (.cells #[.slice p1 n1 k1, .slice (some ⟨mb,mo,none⟩) 2 k2, .bool bd] 30)
 have hc:=yj.out.trans (ha.mono yj.out.size)
 have hd:=((Below.refl X4.heap.size X4).alloc (Nat.le_refl _) (.cells #[.int .i64 1, .int .i64 0, .int .i64 0, .int .i64 1, .int .i64 1, .int .i64 0] 32)).trans (hc.mono (by simp))
 replace HMC:=qh (zi ha _ _ HMC.out)
 have HS5:=qh (zB HS4.out hd)
 have HU5:=qh (zB HU4.out hd)
 have HZ:=qh hz
 clear hz ha hc hd yj x0 x1 x2 x3 x4 HRW HS4 HU4 HL2 zmL HMB
 generalize World.alloc W5 _=X5 at HMC HS5 HU5 HZ ⊢
 generalize W5.heap.size=g9 at HZ ⊢
 have CM:Hid (∀y,Below X5.heap.size X5 y->y.cell? ⟨g9,1,none⟩=some (.slice (some ⟨mb,mo,none⟩) 2 k2)/\y.cell? ⟨mb,mo+1,none⟩=some (.int .i64 1)):=λy hy=>⟨zi hy _ _ (ze HZ.out 1),zi hy _ _ HMC.out⟩
 have HM5:Hid (Below X5.heap.size X5 X5):=Below.refl _ _
 clear HZ HMC
 obtain⟨x0,x1,x2,x3,x4,x5⟩:=CX.out X5 HS5.out
 have HRW:=qh x5
 clear x5
 have hl2:qV (X5.alloc (.cells #[.int .i64 2, .int .i64 0, .int .i64 0] 32)) (.slice (some ⟨X5.heap.size,0,none⟩) 1 1) [⟨2,0,0⟩] :=zat (B:=0) ⟨rfl, .inr ⟨X5.heap.size,1,_,rfl,Nat.zero_le _,yt X5 _,Nat.le_refl _,by unfold maxLen;decide,rfl,rfl⟩⟩
 have HL2:=qh hl2
 have zmL:=qh (zh.below (qx.stays 1) HRW.out ((Below.refl X5.heap.size X5).alloc (Nat.le_refl _) (.cells #[.int .i64 2, .int .i64 0, .int .i64 0] 32)))
 clear hl2
 go_upto_region 7 with(go_at_call 34;go_must(refine(z2x _ _ _ zmL.out _ HL2.out).mono ?_);rintro e W6 ⟨⟨p5,p6,n5,k5,n6,k6,bd6,rfl⟩,hb⟩;have yj:=qh hb;clear hb)
 have hc:=yj.out.trans (((Below.refl W6.heap.size W6).alloc (Nat.le_refl _) (.cells #[.slice p5 n5 k5, .slice p6 n6 k6, .bool bd6] 30)).mono yj.out.size)
 have hd:=((Below.refl X5.heap.size X5).alloc (Nat.le_refl _) (.cells #[.int .i64 2, .int .i64 0, .int .i64 0] 32)).trans (hc.mono (by simp))
 have HS6:=qh (zB HS5.out hd)
 have HU6:=qh (zB HU5.out hd)
 have HM6:=qh (zB HM5.out hd)
 clear hc hd yj x0 x1 x2 x3 x4 HRW HS5 HU5 HM5 HL2 zmL
 generalize World.alloc W6 _=X6 at HS6 HU6 HM6 ⊢
 obtain⟨y0,y1,y2,y3⟩:=CS.out X6 HU6.out
 have uX:=qh y3
 clear y3
 go_upto_region 8 with(go_at_call 39;go_must(refine(z3e _ _ _ _ _ _ _ _ uX.out).mono ?_);rintro e X7 ⟨⟨tb,zz8,rfl,t0,t1,t2⟩,hb⟩;have yj:=qh hb;have T0:=qh t0;have T1:=qh t1;have T2:=qh t2;clear t0 t1 t2 hb)
 clear y0 y1 y2 uX
 have HS7:=qh (zB HS6.out yj.out)
 have HU7:=qh (zB HU6.out yj.out)
 have HM7:=qh (zB HM6.out yj.out)
 clear yj HS6 HU6 HM6
 obtain⟨y0,y1,y2,y3⟩:=CS.out X7 HU7.out
 have uX:=qh y3
 obtain⟨m0,m1⟩:=CM.out X7 HM7.out
 clear y3
 have t0:=T0.out
 have t1:=T1.out
 have t2:=T2.out
 go_wp2_with(go_at_call 31;go_must(refine(z3f _ _ _ _ _ _ _ _ uX.out).mono ?_);rintro e X8 ⟨rfl,hb⟩;(have HB8:=qh hb);(have t0:=zi hb _ _ T0.out);(have t1:=zi hb _ _ T1.out);(have t2:=zi hb _ _ T2.out);clear hb)
 go_ret
 exact⟨rfl,HB1.out.trans ((zB HS7.out HB8.out).mono HB1.out.size)⟩
def zji (S:yM) (er:Int) (n1 n2 n3:Nat) (w:World) (e:Ending) (w':World):Prop:=(∃(a1 a2 a3:Option Addr) (c1 c2 c3:Nat),e= .returned (.tuple #[.agg #[.slice a1 n1 c1, .slice a2 n2 c2, .slice a3 n3 c3], .int .i64 er])/\qK w' S (.slice a1 n1 c1) (.slice a2 n2 c2) (.slice a3 n3 c3))/\Below w.heap.size w w'
theorem zdL {w w':World} {r:yM × Int} {S:yM} {er:Int} {n1 n2 n3:Nat} {e:Ending} (hr:r=(S,er)) (h1:n1=S.states.length) (h2:n2=S.moves.length) (h3:n3=S.next.length) (h:zfj w r e w'):zji S er n1 n2 n3 w e w':=by
 subst hr h1 h2 h3
 obtain⟨⟨sv,mv,nv,rfl,hs, -, -⟩,hb⟩:=h
 obtain⟨a1,c1,rfl, -⟩:=zh.slice hs.1
 obtain⟨a2,c2,rfl, -⟩:=zh.slice hs.2.1
 obtain⟨a3,c3,rfl, -⟩:=zh.slice hs.2.2
 exact⟨⟨a1,a2,a3,c1,c2,c3,rfl,hs⟩,hb⟩
theorem zss (w:World) (S:yM) (a1 a2 a3 b1 b2 b3:Option Addr) (n1 n2 n3 m1 m2 m3 c1 c2 c3 d1 d2 d3:Nat) (ha:qK w S (.slice a1 n1 c1) (.slice a2 n2 c2) (.slice a3 n3 c3)) (hb:qK w S (.slice b1 m1 d1) (.slice b2 m2 d2) (.slice b3 m3 d3)):
  Calls Tryz.prog 30 #[.agg #[.slice a1 n1 c1, .slice a2 n2 c2, .slice a3 n3 c3], .agg #[.slice b1 m1 d1, .slice b2 m2 d2, .slice b3 m3 d3]] w λe w'=>e= .returned (.bool true)/\Below w.heap.size w w':=zpT w S _ _ _ _ _ _ ha hb
theorem zkh {c:zF} (h:codeOk c=true) (q:Int):qm c (zfQ q)=true:=by
 unfold qm zfQ
 simp only [Bool.and_eq_true,decide_eq_true_eq]
 have h1:=Int.emod_nonneg q (show(3:Int)≠0 by omega)
 have h2:=Int.emod_lt_of_pos q (show(0:Int)<3 by omega)
 have h3:=Int.emod_nonneg (q / 3) (show(3:Int)≠0 by omega)
 have h4:=Int.emod_lt_of_pos (q / 3) (show(0:Int)<3 by omega)
 exact⟨⟨⟨⟨h,by omega⟩,by omega⟩,by omega⟩,by omega⟩
theorem zkA {x:Int} (h:(Lit.int .u8 x).wf=true):0<=x/\x<=255:=by
 constructor
 ·simp [Lit.wf,IntKind.min,IntKind.max,IntKind.signed] at h;omega
 simp [Lit.wf,IntKind.min,IntKind.max,IntKind.signed,IntKind.bits] at h;omega
theorem zsi {x:Int} (h:(Lit.int .u16 x).wf=true):0<=x/\x<=65535:=by
 constructor
 ·simp [Lit.wf,IntKind.min,IntKind.max,IntKind.signed] at h;omega
 simp [Lit.wf,IntKind.min,IntKind.max,IntKind.signed,IntKind.bits] at h;omega
def z7g (s:zk) (bd:Bool) (w:World) (e:Ending) (w':World):Prop:=(∃(a b:Option Addr) (n c k f:Nat),e= .returned (.agg #[.slice a n c, .slice b k f, .bool bd])/\zY w' s (.slice a n c) (.slice b k f))/\Below w.heap.size w w'
def z7h (s:zk) (bd:Bool) (w:World) (e:Ending) (w':World):Prop:=(∃(a b:Option Addr) (n c k f:Nat) (er:Int),e= .returned (.tuple #[.agg #[.slice a n c, .slice b k f, .bool bd], .int .i64 er])/\zY w' s (.slice a n c) (.slice b k f))/\Below w.heap.size w w'
def z7i (l:List zu) (n:Nat) (w:World) (e:Ending) (w':World):Prop:=(∃(va:Option Addr) (vc:Nat),e= .returned (.slice va n vc)/\qV w' (.slice va n vc) l)/\Below w.heap.size w w'
theorem zyq (w:World) (c:zF) (tv:Value) (h:yE 3 w tv c.threads):Calls Tryz.prog 19 #[yC c tv] w (z7g (xM c) (xM c).bad w):=by
 refine(zsY w c tv 3 h).mono ?_
 rintro e w' ⟨⟨sv,mv,rfl,hs⟩,hb⟩
 obtain⟨a,c1,rfl, -⟩:=zh.slice hs.threads
 obtain⟨b,k,rfl, -⟩:=zh.slice hs.mem
 exact⟨⟨a,b,_,c1,_,k,rfl,hs⟩,hb⟩
theorem z6O (w:World) (c:zF) (tv:Value) (h:yE 3 w tv c.threads) (m:zA) (s:zk) (hb:gB 33 s) (sv mv:Value) (hs:zY w s sv mv) (x:zu):Calls Tryz.prog 37 #[yC c tv,xu m,yF s sv mv,zdR x] w (z7h (qz c m s x 3).1 (qz c m s x 3).1.bad w):=by
 refine(z0G w c tv 3 h m s sv mv hs (λj hj=>Nat.le_trans (hb j hj) (by omega)) x).mono ?_
 rintro e w' ⟨⟨xa,xn,xc,ya,yn,yc,bs,rfl,ho⟩,hb⟩
 exact⟨⟨xa,ya,xn,xc,yn,yc,_,rfl,ho.state _⟩,hb⟩
theorem zyr (w:World) (c:zF) (tv:Value) (h:yE 3 w tv c.threads) (m:zA) (s:zk) (hb:gB 33 s) (sv mv:Value) (hs:zY w s sv mv):Calls Tryz.prog 36 #[yC c tv,xu m,yF s sv mv] w (z7i (yY c m s 3) (yY c m s 3).length w):=by
 refine(zrZ w c tv 3 h m s sv mv hs (λj hj=>Nat.le_trans (hb j hj) (by omega))).mono ?_
 rintro e w' ⟨⟨va,vc,rfl,ho⟩,hb⟩
 exact⟨⟨va,vc,rfl,zat ho⟩,hb⟩
def z3h (X:World) (sb o:Nat) (s:zk) (bd:Bool):Prop:=∃(a b:Option Addr) (n c k f:Nat),∀y,Below X.heap.size X y->y.cell? ⟨sb,o,none⟩=some (.slice a n c)/\y.cell? ⟨sb,o+1,none⟩=some (.slice b k f)/\y.cell? ⟨sb,o+2,none⟩=some (.bool bd)/\zY y s (.slice a n c) (.slice b k f)
theorem z1O {X:World} {a:Option Addr} {n cap:Nat} {l:List zk} (h:kV X (.slice a n cap) l) (hp:0<l.length):∃sb so,a=some ⟨sb,so,none⟩/\∀i,i<l.length->z3h X sb (so+i*3) (l.getD i default) (l.getD i default).bad:=by
 obtain⟨sb,so, -, -,rfl, -⟩:=kV.part h 0 hp
 refine⟨sb,so,rfl,λi hi=> ?_⟩
 obtain⟨b2,o2,tv,mv,e, -,x0,x1,x2,hs⟩:=kV.part h i hi
 cases e
 obtain⟨ta,tc,rfl, -⟩:=zh.slice hs.threads
 obtain⟨ma,mc,rfl, -⟩:=zh.slice hs.mem
 exact⟨ta,ma,_,tc,_,mc,λy hy=>⟨zi hy _ _ x0,zi hy _ _ x1,zi hy _ _ x2,hs.below hy⟩⟩
def z3i (X:World) (b o:Nat) (l:List zu) (n:Nat):Prop:=∃(a:Option Addr) (c:Nat),∀y,Below X.heap.size X y->y.cell? ⟨b,o,none⟩=some (.slice a n c)/\qV y (.slice a n c) l
def z3j (X:World) (b o:Nat) (l:List Int) (n:Nat):Prop:=∃(a:Option Addr) (c:Nat),∀y,Below X.heap.size X y->y.cell? ⟨b,o,none⟩=some (.slice a n c)/\xC y (.slice a n c) l
theorem z1P {X:World} {a:Option Addr} {n cap:Nat} {l:List (List zu)} (h:zh wG 1 X (.slice a n cap) l) (hp:0<l.length):∃sb so,a=some ⟨sb,so,none⟩/\∀i,i<l.length->z3i X sb (so+i) (l.getD i []) (l.getD i []).length:=by
 obtain⟨sb,so, -, -,rfl, -⟩:=zaf h 0 hp
 refine⟨sb,so,rfl,λi hi=> ?_⟩
 obtain⟨b2,o2,ka,kc,e, -,x0,hm⟩:=zaf h i hi
 cases e
 exact⟨ka,kc,λy hy=>⟨zi hy _ _ x0,zh.below zaD.stays hm hy⟩⟩
theorem z1Q {X:World} {a:Option Addr} {n cap:Nat} {l:List (List Int)} (h:zh uQ 1 X (.slice a n cap) l) (hp:0<l.length):∃sb so,a=some ⟨sb,so,none⟩/\∀i,i<l.length->z3j X sb (so+i) (l.getD i []) (l.getD i []).length:=by
 obtain⟨sb,so, -, -,rfl, -⟩:=zaF h 0 hp
 refine⟨sb,so,rfl,λi hi=> ?_⟩
 obtain⟨b2,o2,ka,kc,e, -,x0,hm⟩:=zaF h i hi
 cases e
 exact⟨ka,kc,λy hy=>⟨zi hy _ _ x0,zh.below gF.stays hm hy⟩⟩
theorem zfD (w:World) (s t:zk) (bd be:Bool) (hbd:bd=s.bad) (hbe:be=t.bad) (a1 a2 b1 b2:Option Addr) (n1 n2 m1 m2 c1 c2 d1 d2:Nat) (ha:zY w s (.slice a1 n1 c1) (.slice a2 n2 c2)) (hb:zY w t (.slice b1 m1 d1) (.slice b2 m2 d2)):
  Calls Tryz.prog 17 #[.agg #[.slice a1 n1 c1, .slice a2 n2 c2, .bool bd], .agg #[.slice b1 m1 d1, .slice b2 m2 d2, .bool be]] w λe w'=>e= .returned (.bool (decide (s=t)))/\Below w.heap.size w w':=by
 subst hbd hbe
 exact zke w s t _ _ _ _ ha hb
