/- Steps. -/
import Derived.Test.YtliajkheeniljaaGreatDoorZrPSpace
import Derived.Test.YtliajkheeniljaaGreatDoorZrRangeZ
import Derived.Test.YtliajkheeniljaaGreatDoorZrReplay
set_option linter.all false
namespace Go.Proofs.YtliajkheeniljaaGreatDoor
open Go.RowKit
set_option maxRecDepth 100000
set_option maxHeartbeats 16000000
def zkJ (l:List zl) (r:Int):Prop:=(∃i:Nat,i<l.length/\r=i/\(l.getD i default).bad=true/\∀j,j<i->(l.getD j default).bad=false)\/(r= -1/\∀j,j<l.length->(l.getD j default).bad=false)
theorem zkJ.one {l:List zl} {r q:Int} (h:zkJ l r) (k:zkJ l q):r=q:=by
 rcases h with⟨i,h1,rfl,h2,h3⟩|⟨rfl,h1⟩<;>rcases k with⟨j,k1,rfl,k2,k3⟩|⟨rfl,k1⟩
 ·rcases Nat.lt_trichotomy i j with e|e|e
  ·rw [k3 i e] at h2;cases h2
  ·rw [e]
  rw [h3 j e] at k2;cases k2
 ·rw [k1 i h1] at h2;cases h2
 ·rw [h1 j k1] at k2;cases k2
 rfl
def zsC (w:World) (l:List zl) (e:Ending) (w':World):Prop:=∃r,e= .returned (.int .i64 r)/\zkJ l r/\Below w.heap.size w w'
theorem zkp (w:World) (a b:Value) (bd:Bool):Calls Tryz.prog 61 #[.agg #[a,b, .bool bd]] w λe w'=>e= .returned (.bool bd)/\Below w.heap.size w w':=by
 go_enter Tryz.func61,Tryz.ntmps61
 go_wp2
 go_ret
 exact⟨rfl,(Below.refl _ _).alloc (Nat.le_refl _) _⟩
theorem zj3 (w:World) (sv:Value) (l:List zl) (hl:kG w sv l):Calls Tryz.prog 60 #[sv, .func (.func 61) #[] #[]] w (zsC w l):=by
 obtain⟨a,cap,rfl,hn⟩:=zh.slice hl
 have HL:=qh hl
 clear hl
 obtain⟨n,hnd⟩:∃n,n=l.length:=⟨_,rfl⟩
 rw [<-hnd] at hn HL ⊢
 have HN:=qh hnd
 clear hnd
 go_enter Tryz.func60,Tryz.ntmps60
 go_wp2_with fail
 go_loopg [8] n (λg s8 wr=>∃i:Nat,i<=n/\Hid (g=n - i)/\s8= .int .i64 i/\Hid (∀j,j<i->(l.getD j default).bad=false)/\Hid (Below w.heap.size w wr))
 case atStart=>exact⟨0,Nat.zero_le _,rfl,rfl,λj hj=>by omega,Below.refl _ _⟩
 case round=>
 obtain⟨i,hi,HG,rfl,HJ,HB⟩:=hrel
 by_cases hlt:i<n
 rotate_left
 ·obtain rfl:n=i:=by omega
  go_wp2_with fail
  go_ret
  exact⟨-1,rfl, .inr ⟨rfl,λj hj=>HJ.out j (by rw [HN.out];exact hj)⟩,HB.out⟩
 have qx:(i:Int)<(n:Int):=by omega
 obtain⟨eb,eo,tv,yv,yg, -,x0,x1,x2, -⟩:=kG.part (zh.below xJ.stays HL.out HB.out) i (by rw [<-HN.out];exact hlt)
 subst yg
 obtain⟨bd,hbd⟩:∃b,b=(l.getD i default).bad:=⟨_,rfl⟩
 rw [<-hbd] at x2
 have HBD:=qh hbd
 clear hbd
 cases bd
 ·go_wp2_with(go_at_call 61;go_must(refine(zkp _ _ _ _).mono ?_);rintro e w2 ⟨rfl,hb2⟩;(have HB2:=qh (zD HB.out hb2));clear hb2)
  go_roundg (n - (i+1))
  case measure=>rw [HG.out];omega
  case rel=>exact⟨i+1,by omega,rfl,by simp,λj hj=>by
   by_cases he:j=i
   ·subst he;exact HBD.out.symm
   exact HJ.out j (by omega),HB2.out⟩
 go_wp2_with(go_at_call 61;go_must(refine(zkp _ _ _ _).mono ?_);rintro e w2 ⟨rfl,hb2⟩;(have HB2:=qh (zD HB.out hb2));clear hb2)
 go_ret
 exact⟨i,rfl, .inl ⟨i,by rw [<-HN.out];exact hlt,rfl,HBD.out.symm,HJ.out⟩,HB2.out⟩
theorem zv5 (w:World) (S:xW) (sv mv nv:Value) (h:qz w S sv mv nv):Calls Tryz.prog 31 #[bB sv mv nv] w (zsC w S.states):=by
 have hl:=h.1
 obtain⟨a,cap,rfl, -⟩:=zh.slice hl
 generalize S.states.length=n at hl ⊢
 unfold bB
 have hB:=(Below.refl w.heap.size w).alloc (Nat.le_refl _) (.cells #[.slice a n cap,mv,nv] 71)
 have HI:=qh (zj3 _ _ _ (zh.below xJ.stays hl hB))
 have HB:=qh hB
 have H1:=qh (yj w (.cells #[.slice a n cap,mv,nv] 71))
 clear hl hB h
 go_enter Tryz.func31,Tryz.ntmps31
 go_upto_region 1 with fail
 generalize World.alloc w _=W at HB H1 HI ⊢
 generalize w.heap.size=gx at H1 ⊢
 have c0:=ze H1.out 0
 go_wp2_with(go_at_call 60;go_must(refine HI.out.mono ?_);rintro e w2 ⟨r,rfl,hr,hb2⟩;(have HR:=qh hr);(have HB2:=qh hb2);clear hr hb2)
 go_ret
 exact⟨r,rfl,HR.out,HB.out.trans (HB2.out.mono HB.out.size)⟩
def zaU:zI:=⟨0,1⟩
def vT:xW:=(wC qG zaU 100 1).1
def zm9:Bool:=decide ((wC qG zaU 100 1).2=0) && decide (4<vT.states.length) && decide (vT.states.length<=100) && decide (vT.next.length=vT.states.length) && decide (vT.moves.length=vT.states.length) && vT.states.all (λs=> !s.bad) && decide (vC vT 1 1= [⟨1,0,0⟩])
theorem zsD:zm9=true:=by decide+kernel
theorem z1Q:(wC qG zaU 3 1).2=40:=by decide+kernel
theorem z1R:(wC qG zaU 0 1).2=1:=by decide+kernel
theorem z1S:(uR qG zaU [⟨1,0,0⟩,⟨1,1,0⟩] 1).2=0/\(uR qG zaU [⟨1,0,0⟩,⟨1,1,0⟩] 1).1.mem.length=2/\(uR qG zaU [⟨1,0,0⟩,⟨1,1,0⟩] 1).1.mem.getD 1 0=1:=by decide+kernel
theorem z1T:(uR qG zaU [⟨2,0,0⟩] 1).2=50:=by decide+kernel
structure zyd:Prop where
 e:(wC qG zaU 100 1).2=0
 many:4<vT.states.length
 few:vT.states.length<=100
 next:vT.next.length=vT.states.length
 moves:vT.moves.length=vT.states.length
 calm:∀j,j<vT.states.length->(vT.states.getD j default).bad=false
 trail:vC vT 1 1= [⟨1,0,0⟩]
theorem zeN:zyd:=by
 have h:=zsD
 unfold zm9 at h
 simp only [Bool.and_eq_true,decide_eq_true_eq] at h
 obtain⟨⟨⟨⟨⟨⟨h1,h2⟩,h3⟩,h4⟩,h5⟩,h6⟩,h7⟩:=h
 refine⟨h1,h2,h3,h4,h5,λj hj=> ?_,h7⟩
 have:=List.all_eq_true.1 h6 _ (vD (x:=default) hj)
 simpa using this
def z2S (n:Nat) (w:World) (e:Ending) (w':World):Prop:=(∃(a1 a2 a3:Option Addr) (c1 c2 c3:Nat),e= .returned (.tuple #[.agg #[.slice a1 n c1, .slice a2 n c2, .slice a3 n c3], .int .i64 0])/\qz w' vT (.slice a1 n c1) (.slice a2 n c2) (.slice a3 n c3))/\Below w.heap.size w w'
def z2T (k:Int) (w:World) (e:Ending) (w':World):Prop:=(∃(a1 a2 a3:Option Addr) (n1 n2 n3 c1 c2 c3:Nat),e= .returned (.tuple #[.agg #[.slice a1 n1 c1, .slice a2 n2 c2, .slice a3 n3 c3], .int .i64 k]))/\Below w.heap.size w w'
theorem z1U (w:World) (ta:Option Addr) (tc n:Nat) (hn:n=vT.states.length) (h:yO 1 w (.slice ta 2 tc) qG.threads):Calls Tryz.prog 28 #[.agg #[.int .i64 2, .int .i64 2, .slice ta 2 tc], .agg #[.int .i64 0, .int .i64 1], .int .i64 100] w (z2S n w):=by
 refine(zcC w qG _ 1 h zaU 100).mono ?_
 rintro e w' ⟨⟨sv,mv,nv,rfl,hs, -, -⟩,hb⟩
 have d:=zeN
 rw [d.e]
 have hs2:qz w' vT sv mv nv:=hs
 obtain⟨a1,c1,rfl, -⟩:=zh.slice hs2.1
 obtain⟨a2,c2,rfl, -⟩:=zh.slice hs2.2.1
 obtain⟨a3,c3,rfl, -⟩:=zh.slice hs2.2.2
 rw [d.moves,d.next, <-hn] at hs2 ⊢
 exact⟨⟨a1,a2,a3,c1,c2,c3,rfl,hs2⟩,hb⟩
theorem zsE (w:World) (ta:Option Addr) (tc:Nat) (r k:Int) (hk:(wC qG zaU r 1).2=k) (h:yO 1 w (.slice ta 2 tc) qG.threads):Calls Tryz.prog 28 #[.agg #[.int .i64 2, .int .i64 2, .slice ta 2 tc], .agg #[.int .i64 0, .int .i64 1], .int .i64 r] w (z2T k w):=by
 refine(zcC w qG _ 1 h zaU r).mono ?_
 rintro e w' ⟨⟨sv,mv,nv,rfl,hs, -, -⟩,hb⟩
 rw [hk]
 obtain⟨a1,c1,rfl, -⟩:=zh.slice hs.1
 obtain⟨a2,c2,rfl, -⟩:=zh.slice hs.2.1
 obtain⟨a3,c3,rfl, -⟩:=zh.slice hs.2.2
 exact⟨⟨a1,a2,a3,_,_,_,c1,c2,c3,rfl⟩,hb⟩
def z2U (w:World) (e:Ending) (w':World):Prop:=(∃(a:Option Addr) (b o n c f:Nat) (bd:Bool),e= .returned (.tuple #[.agg #[.slice a n c, .slice (some ⟨b,o,none⟩) 2 f, .bool bd], .int .i64 0])/\b<w'.heap.size/\w'.cell? ⟨b,o+1,none⟩=some (.int .i64 1))/\Below w.heap.size w w'
def z2V (k:Int) (w:World) (e:Ending) (w':World):Prop:=(∃(a b:Option Addr) (n c m f:Nat) (bd:Bool),e= .returned (.tuple #[.agg #[.slice a n c, .slice b m f, .bool bd], .int .i64 k]))/\Below w.heap.size w w'
theorem z1V (w:World) (ta:Option Addr) (tc:Nat) (h:yO 1 w (.slice ta 2 tc) qG.threads) (lv:Value) (hl:qg w lv [⟨1,0,0⟩,⟨1,1,0⟩]):Calls Tryz.prog 34 #[.agg #[.int .i64 2, .int .i64 2, .slice ta 2 tc], .agg #[.int .i64 0, .int .i64 1],lv] w (z2U w):=by
 refine(zd1 w qG _ 1 h zaU lv _ hl).mono ?_
 rintro e w' ⟨⟨a,b,n,c,k,f,rfl,hs⟩,hb⟩
 obtain⟨e1,e2,e3⟩:=z1S
 have hm:=hs.mem
 obtain⟨_,_,q, -⟩:=zh.slice hm
 cases q
 obtain⟨eb,eo,rfl,hbl,z0⟩:=xI.part hm 1 (by rw [e2];decide)
 rw [e3] at z0
 rw [e1,e2]
 exact⟨⟨a,eb,eo,n,c,f,_,rfl,hbl,z0⟩,hb⟩
theorem z1W (w:World) (ta:Option Addr) (tc:Nat) (h:yO 1 w (.slice ta 2 tc) qG.threads) (lv:Value) (hl:qg w lv [⟨2,0,0⟩]):Calls Tryz.prog 34 #[.agg #[.int .i64 2, .int .i64 2, .slice ta 2 tc], .agg #[.int .i64 0, .int .i64 1],lv] w (z2V 50 w):=by
 refine(zd1 w qG _ 1 h zaU lv _ hl).mono ?_
 rintro e w' ⟨⟨a,b,n,c,k,f,rfl,hs⟩,hb⟩
 rw [z1T]
 exact⟨⟨a,b,n,c,k,f,_,rfl⟩,hb⟩
def z2W (w:World) (e:Ending) (w':World):Prop:=(∃(b c:Nat),e= .returned (.slice (some ⟨b,0,none⟩) 1 c)/\w'.cell? ⟨b,0,none⟩=some (.int .i64 1)/\w'.cell? ⟨b,1,none⟩=some (.int .i64 0)/\w'.cell? ⟨b,2,none⟩=some (.int .i64 0))/\Below w.heap.size w w'
theorem z2X (w:World) (a1 a2 a3:Option Addr) (n c1 c2 c3:Nat) (h:qz w vT (.slice a1 n c1) (.slice a2 n c2) (.slice a3 n c3)):Calls Tryz.prog 39 #[.agg #[.slice a1 n c1, .slice a2 n c2, .slice a3 n c3], .int .i64 1] w (z2W w):=by
 have d:=zeN
 have hc:=zo8 w vT _ _ _ h d.moves d.next 1 (by have:=d.many;omega) (by have:=d.few;omega)
 rw [show((1:Nat):Int)=1 from rfl,d.trail] at hc
 refine hc.mono ?_
 rintro e w' ⟨sv,rfl,hr,hb⟩
 obtain⟨g,cap,rfl, -, -⟩:=wW hr (by decide)
 exact⟨⟨g,cap,rfl,hr.cellAt 0 (by decide),hr.cellAt 1 (by decide),hr.cellAt 2 (by decide)⟩,hb⟩
theorem z2Y (w:World) (a1 a2 a3:Option Addr) (n c1 c2 c3:Nat) (h:qz w vT (.slice a1 n c1) (.slice a2 n c2) (.slice a3 n c3)):Calls Tryz.prog 31 #[.agg #[.slice a1 n c1, .slice a2 n c2, .slice a3 n c3]] w λe w'=>e= .returned (.int .i64 (-1))/\Below w.heap.size w w':=by
 refine(zv5 w vT _ _ _ h).mono ?_
 rintro e w' ⟨r,rfl,hr,hb⟩
 obtain rfl:r= -1:=hr.one (.inr ⟨rfl,zeN.calm⟩)
 exact⟨rfl,hb⟩
theorem z2Z (w:World):Calls Tryz.prog 41 #[] w λe w'=>(∃(ta:Option Addr) (tc:Nat),e= .returned (.agg #[.int .i64 2, .int .i64 2, .slice ta 2 tc])/\yO 1 w' (.slice ta 2 tc) qG.threads)/\Below w.heap.size w w':=by
 refine(zp7 w).mono ?_
 rintro e w' ⟨⟨tv,rfl,ht⟩,hb⟩
 obtain⟨ta,tc,rfl, -⟩:=zh.slice ht
 exact⟨⟨ta,tc,rfl,ht⟩,hb⟩
theorem znv (w:World):Calls Tryz.prog 33 #[] w λe w'=>e= .returned (.bool true)/\Below w.heap.size w w':=by
 obtain⟨n,hn⟩:∃n,n=vT.states.length:=⟨_,rfl⟩
 have h4:(4:Int)<(n:Int):=by have:=zeN.many;omega
 have HN:=qh hn
 clear hn
 go_enter Tryz.func33,Tryz.ntmps33
 go_upto_region 2 with(go_at_call 41;go_must(refine(z2Z _).mono ?_);rintro e W1 ⟨⟨ta,tc,rfl,ht⟩,hb⟩;have HT1:=qh ht;have HB0:=qh hb;clear ht hb)
 have HB1:=qh (HB0.out.trans ((xq W1 (.cells #[.int .i64 2, .int .i64 2, .slice ta 2 tc] 24) (.cells #[.int .i64 0, .int .i64 1] 26)).mono HB0.out.size))
 have HT2:=qh (zh.below (xU.stays 1) HT1.out (xq W1 (.cells #[.int .i64 2, .int .i64 2, .slice ta 2 tc] 24) (.cells #[.int .i64 0, .int .i64 1] 26)))
 have q1:((W1.alloc (.cells #[.int .i64 2, .int .i64 2, .slice ta 2 tc] 24)).alloc (.cells #[.int .i64 0, .int .i64 1] 26)).heap[W1.heap.size]? =some (.cells #[.int .i64 2, .int .i64 2, .slice ta 2 tc] 24 (0,0)):=(Below.heap_alloc _ _ _ (by simp)).trans (yj W1 _)
 have q2:((W1.alloc (.cells #[.int .i64 2, .int .i64 2, .slice ta 2 tc] 24)).alloc (.cells #[.int .i64 0, .int .i64 1] 26)).heap[W1.heap.size+1]? =some (.cells #[.int .i64 0, .int .i64 1] 26 (0,0)):=by
  have:=yj (W1.alloc (.cells #[.int .i64 2, .int .i64 2, .slice ta 2 tc] 24)) (.cells #[.int .i64 0, .int .i64 1] 26)
  rwa [World.size_alloc] at this
 have Q1:=qh q1
 have Q2:=qh q2
 clear q1 q2 HT1 HB0
 generalize World.alloc (World.alloc W1 _) _=X1 at HB1 HT2 Q1 Q2 ⊢
 generalize W1.heap.size=g1 at Q1 Q2 ⊢
 have CX:Hid (∀y,Below X1.heap.size X1 y->y.cell? ⟨g1,0,none⟩=some (.int .i64 2)/\y.cell? ⟨g1,1,none⟩=some (.int .i64 2)/\y.cell? ⟨g1,2,none⟩=some (.slice ta 2 tc)/\y.cell? ⟨g1+1,0,none⟩=some (.int .i64 0)/\y.cell? ⟨g1+1,1,none⟩=some (.int .i64 1)/\yO 1 y (.slice ta 2 tc) qG.threads):=λy hy=>
  ⟨zi hy _ _ (ze Q1.out 0),zi hy _ _ (ze Q1.out 1),zi hy _ _ (ze Q1.out 2),zi hy _ _ (ze Q2.out 0),zi hy _ _ (ze Q2.out 1),zh.below (xU.stays 1) HT2.out hy⟩
 have qM:Hid (Below X1.heap.size X1 X1):=Below.refl _ _
 clear HT2 Q1 Q2
 obtain⟨x0,x1,x2,x3,x4,x5⟩:=CX.out X1 qM.out
 have HRW:=qh x5
 clear x5
 go_upto_region 3 with(go_at_call 28;go_must(refine(z1U _ _ _ n HN.out HRW.out).mono ?_);rintro e W2 ⟨⟨a1,a2,a3,c1,c2,c3,rfl,hs⟩,hb⟩;have gY:=qh hs;have yt:=qh hb;clear hs hb)
 have hz:=yj W2 (.cells #[.slice a1 n c1, .slice a2 n c2, .slice a3 n c3] 71)
 have ha:=(Below.refl W2.heap.size W2).alloc (Nat.le_refl _) (.cells #[.slice a1 n c1, .slice a2 n c2, .slice a3 n c3] 71)
 replace gY:=qh (gY.out.below ha)
 have HS2:=qh (zD qM.out (yt.out.trans (ha.mono yt.out.size)))
 have HZ:=qh hz
 clear hz ha yt x0 x1 x2 x3 x4 HRW
 generalize World.alloc W2 _=X2 at gY HS2 HZ ⊢
 generalize W2.heap.size=g3 at HZ ⊢
 have CS:Hid (∀y,Below X2.heap.size X2 y->y.cell? ⟨g3,0,none⟩=some (.slice a1 n c1)/\y.cell? ⟨g3,1,none⟩=some (.slice a2 n c2)/\y.cell? ⟨g3,2,none⟩=some (.slice a3 n c3)/\qz y vT (.slice a1 n c1) (.slice a2 n c2) (.slice a3 n c3)):=λy hy=>
  ⟨zi hy _ _ (ze HZ.out 0),zi hy _ _ (ze HZ.out 1),zi hy _ _ (ze HZ.out 2),gY.out.below hy⟩
 have HU2:Hid (Below X2.heap.size X2 X2):=Below.refl _ _
 clear HZ gY
 obtain⟨x0,x1,x2,x3,x4,x5⟩:=CX.out X2 HS2.out
 have HRW:=qh x5
 clear x5
 go_upto_region 4 with(go_at_call 28;go_must(refine(zsE _ _ _ 3 40 z1Q HRW.out).mono ?_);rintro e W3 ⟨⟨p1,p2,p3,n1,n2,n3,k1,k2,k3,rfl⟩,hb⟩;have yt:=qh hb;clear hb)
 have ha:=yt.out.trans (((Below.refl W3.heap.size W3).alloc (Nat.le_refl _) (.cells #[.slice p1 n1 k1, .slice p2 n2 k2, .slice p3 n3 k3] 71)).mono yt.out.size)
 have HS3:=qh (zD HS2.out ha)
 have HU3:=qh (zD HU2.out ha)
 clear ha yt x0 x1 x2 x3 x4 HRW HS2 HU2
 generalize World.alloc W3 _=X3 at HS3 HU3 ⊢
 obtain⟨x0,x1,x2,x3,x4,x5⟩:=CX.out X3 HS3.out
 have HRW:=qh x5
 clear x5
 go_upto_region 5 with(go_at_call 28;go_must(refine(zsE _ _ _ 0 1 z1R HRW.out).mono ?_);rintro e W4 ⟨⟨p1,p2,p3,n1,n2,n3,k1,k2,k3,rfl⟩,hb⟩;have yt:=qh hb;clear hb)
 have ha:=yt.out.trans (((Below.refl W4.heap.size W4).alloc (Nat.le_refl _) (.cells #[.slice p1 n1 k1, .slice p2 n2 k2, .slice p3 n3 k3] 71)).mono yt.out.size)
 have HS4:=qh (zD HS3.out ha)
 have HU4:=qh (zD HU3.out ha)
 clear ha yt x0 x1 x2 x3 x4 HRW HS3 HU3
 generalize World.alloc W4 _=X4 at HS4 HU4 ⊢
 obtain⟨x0,x1,x2,x3,x4,x5⟩:=CX.out X4 HS4.out
 have HRW:=qh x5
 clear x5
 have hl2:qg (X4.alloc (.cells #[.int .i64 1, .int .i64 0, .int .i64 0, .int .i64 1, .int .i64 1, .int .i64 0] 32)) (.slice (some ⟨X4.heap.size,0,none⟩) 2 2) [⟨1,0,0⟩,⟨1,1,0⟩] :=bQ (B:=0) ⟨rfl, .inr ⟨X4.heap.size,2,_,rfl,Nat.zero_le _,yj X4 _,Nat.le_refl _,by unfold maxLen;decide,rfl,rfl⟩⟩
 have HL2:=qh hl2
 have zcL:=qh (zh.below (xU.stays 1) HRW.out ((Below.refl X4.heap.size X4).alloc (Nat.le_refl _) (.cells #[.int .i64 1, .int .i64 0, .int .i64 0, .int .i64 1, .int .i64 1, .int .i64 0] 32)))
 clear hl2
 go_upto_region 6 with(go_at_call 34;go_must(refine(z1V _ _ _ zcL.out _ HL2.out).mono ?_);rintro e W5 ⟨⟨p1,mb,mo,n1,k1,k2,bd,rfl,hmb,hmc⟩,hb⟩;have HMB:=qh hmb;have HMC:=qh hmc;have yt:=qh hb;clear hmb hmc hb)
 have hz:=yj W5 (.cells #[.slice p1 n1 k1, .slice (some ⟨mb,mo,none⟩) 2 k2, .bool bd] 30)
 have ha:=(Below.refl W5.heap.size W5).alloc (Nat.le_refl _) (.cells #[.slice p1 n1 k1, .slice (some ⟨mb,mo,none⟩) 2 k2, .bool bd] 30)
 have hc:=yt.out.trans (ha.mono yt.out.size)
 have hd:=((Below.refl X4.heap.size X4).alloc (Nat.le_refl _) (.cells #[.int .i64 1, .int .i64 0, .int .i64 0, .int .i64 1, .int .i64 1, .int .i64 0] 32)).trans (hc.mono (by simp))
 replace HMC:=qh (zi ha _ _ HMC.out)
 have HS5:=qh (zD HS4.out hd)
 have HU5:=qh (zD HU4.out hd)
 have HZ:=qh hz
 clear hz ha hc hd yt x0 x1 x2 x3 x4 HRW HS4 HU4 HL2 zcL HMB
 generalize World.alloc W5 _=X5 at HMC HS5 HU5 HZ ⊢
 generalize W5.heap.size=g9 at HZ ⊢
 have CM:Hid (∀y,Below X5.heap.size X5 y->y.cell? ⟨g9,1,none⟩=some (.slice (some ⟨mb,mo,none⟩) 2 k2)/\y.cell? ⟨mb,mo+1,none⟩=some (.int .i64 1)):=λy hy=>⟨zi hy _ _ (ze HZ.out 1),zi hy _ _ HMC.out⟩
 have HM5:Hid (Below X5.heap.size X5 X5):=Below.refl _ _
 clear HZ HMC
 obtain⟨x0,x1,x2,x3,x4,x5⟩:=CX.out X5 HS5.out
 have HRW:=qh x5
 clear x5
 have hl2:qg (X5.alloc (.cells #[.int .i64 2, .int .i64 0, .int .i64 0] 32)) (.slice (some ⟨X5.heap.size,0,none⟩) 1 1) [⟨2,0,0⟩] :=bQ (B:=0) ⟨rfl, .inr ⟨X5.heap.size,1,_,rfl,Nat.zero_le _,yj X5 _,Nat.le_refl _,by unfold maxLen;decide,rfl,rfl⟩⟩
 have HL2:=qh hl2
 have zcL:=qh (zh.below (xU.stays 1) HRW.out ((Below.refl X5.heap.size X5).alloc (Nat.le_refl _) (.cells #[.int .i64 2, .int .i64 0, .int .i64 0] 32)))
 clear hl2
 go_upto_region 7 with(go_at_call 34;go_must(refine(z1W _ _ _ zcL.out _ HL2.out).mono ?_);rintro e W6 ⟨⟨p5,p6,n5,k5,n6,k6,bd6,rfl⟩,hb⟩;have yt:=qh hb;clear hb)
 have hc:=yt.out.trans (((Below.refl W6.heap.size W6).alloc (Nat.le_refl _) (.cells #[.slice p5 n5 k5, .slice p6 n6 k6, .bool bd6] 30)).mono yt.out.size)
 have hd:=((Below.refl X5.heap.size X5).alloc (Nat.le_refl _) (.cells #[.int .i64 2, .int .i64 0, .int .i64 0] 32)).trans (hc.mono (by simp))
 have HS6:=qh (zD HS5.out hd)
 have HU6:=qh (zD HU5.out hd)
 have HM6:=qh (zD HM5.out hd)
 clear hc hd yt x0 x1 x2 x3 x4 HRW HS5 HU5 HM5 HL2 zcL
 generalize World.alloc W6 _=X6 at HS6 HU6 HM6 ⊢
 obtain⟨y0,y1,y2,y3⟩:=CS.out X6 HU6.out
 have gY:=qh y3
 clear y3
 go_upto_region 8 with(go_at_call 39;go_must(refine(z2X _ _ _ _ _ _ _ _ gY.out).mono ?_);rintro e X7 ⟨⟨tb,zyF,rfl,t0,t1,t2⟩,hb⟩;have yt:=qh hb;have T0:=qh t0;have T1:=qh t1;have T2:=qh t2;clear t0 t1 t2 hb)
 clear y0 y1 y2 gY
 have HS7:=qh (zD HS6.out yt.out)
 have HU7:=qh (zD HU6.out yt.out)
 have HM7:=qh (zD HM6.out yt.out)
 clear yt HS6 HU6 HM6
 obtain⟨y0,y1,y2,y3⟩:=CS.out X7 HU7.out
 have gY:=qh y3
 obtain⟨m0,m1⟩:=CM.out X7 HM7.out
 clear y3
 have t0:=T0.out
 have t1:=T1.out
 have t2:=T2.out
 go_wp2_with(go_at_call 31;go_must(refine(z2Y _ _ _ _ _ _ _ _ gY.out).mono ?_);rintro e X8 ⟨rfl,hb⟩;(have HB8:=qh hb);(have t0:=zi hb _ _ T0.out);(have t1:=zi hb _ _ T1.out);(have t2:=zi hb _ _ T2.out);clear hb)
 go_ret
 exact⟨rfl,HB1.out.trans ((zD HS7.out HB8.out).mono HB1.out.size)⟩
def zv6 (S:xW) (er:Int) (n1 n2 n3:Nat) (w:World) (e:Ending) (w':World):Prop:=(∃(a1 a2 a3:Option Addr) (c1 c2 c3:Nat),e= .returned (.tuple #[.agg #[.slice a1 n1 c1, .slice a2 n2 c2, .slice a3 n3 c3], .int .i64 er])/\qz w' S (.slice a1 n1 c1) (.slice a2 n2 c2) (.slice a3 n3 c3))/\Below w.heap.size w w'
theorem zon {w w':World} {r:xW × Int} {S:xW} {er:Int} {n1 n2 n3:Nat} {e:Ending} (hr:r=(S,er)) (h1:n1=S.states.length) (h2:n2=S.moves.length) (h3:n3=S.next.length) (h:zdT w r e w'):zv6 S er n1 n2 n3 w e w':=by
 subst hr h1 h2 h3
 obtain⟨⟨sv,mv,nv,rfl,hs, -, -⟩,hb⟩:=h
 obtain⟨a1,c1,rfl, -⟩:=zh.slice hs.1
 obtain⟨a2,c2,rfl, -⟩:=zh.slice hs.2.1
 obtain⟨a3,c3,rfl, -⟩:=zh.slice hs.2.2
 exact⟨⟨a1,a2,a3,c1,c2,c3,rfl,hs⟩,hb⟩
def zv7 (s:zl) (bd:Bool) (er:Int) (w:World) (e:Ending) (w':World):Prop:=(∃(a b:Option Addr) (n c k f:Nat),e= .returned (.tuple #[.agg #[.slice a n c, .slice b k f, .bool bd], .int .i64 er])/\zY w' s (.slice a n c) (.slice b k f))/\Below w.heap.size w w'
theorem zoo {w w':World} {r:zl × Int} {s:zl} {bd:Bool} {er:Int} {e:Ending} (hr:r=(s,er)) (hb:bd=s.bad) (h:zaL w r e w'):zv7 s bd er w e w':=by
 subst hr hb
 exact h
theorem zsG (w:World) (S:xW) (a1 a2 a3 b1 b2 b3:Option Addr) (n1 n2 n3 m1 m2 m3 c1 c2 c3 d1 d2 d3:Nat) (ha:qz w S (.slice a1 n1 c1) (.slice a2 n2 c2) (.slice a3 n3 c3)) (hb:qz w S (.slice b1 m1 d1) (.slice b2 m2 d2) (.slice b3 m3 d3)):
  Calls Tryz.prog 30 #[.agg #[.slice a1 n1 c1, .slice a2 n2 c2, .slice a3 n3 c3], .agg #[.slice b1 m1 d1, .slice b2 m2 d2, .slice b3 m3 d3]] w λe w'=>e= .returned (.bool true)/\Below w.heap.size w w':=zpN w S _ _ _ _ _ _ ha hb
theorem zsH (w:World) (s:zl) (bd:Bool) (hbd:bd=s.bad) (a1 a2 b1 b2:Option Addr) (n1 n2 m1 m2 c1 c2 d1 d2:Nat) (ha:zY w s (.slice a1 n1 c1) (.slice a2 n2 c2)) (hb:zY w s (.slice b1 m1 d1) (.slice b2 m2 d2)):
  Calls Tryz.prog 17 #[.agg #[.slice a1 n1 c1, .slice a2 n2 c2, .bool bd], .agg #[.slice b1 m1 d1, .slice b2 m2 d2, .bool bd]] w λe w'=>e= .returned (.bool true)/\Below w.heap.size w w':=by
 subst hbd
 have h:=zfL w s s _ _ _ _ ha hb
 rw [decide_eq_true rfl] at h
 exact h
theorem zkq (w:World) (a b c:Int):qg (w.alloc (.cells #[.int .i64 a, .int .i64 b, .int .i64 c] 32)) (.slice (some ⟨w.heap.size,0,none⟩) 1 1) [⟨a,b,c⟩] :=bQ (B:=0) ⟨rfl, .inr ⟨w.heap.size,1,_,rfl,Nat.zero_le _,yj w _,Nat.le_refl _,by unfold maxLen;decide,rfl,rfl⟩⟩
theorem zls (w:World) (sv:Value) (l0:List Int) (hn:jF w .u8 sv l0) (hcap:∀a n c,sv= .slice a n c->n<=c) (m:zI) (room:Int) (x:zx):
  Calls Tryz.prog 9 #[sv,xu m, .int .i64 room,zbO x] w λe w'=>e= .returned (.bool true)/\Below w.heap.size w w':=by
 obtain⟨sa,sc,rfl, -⟩:∃a c,sv= .slice a l0.length c/\True:=by obtain⟨a,c,h, -⟩:=hn;exact⟨a,c,h,trivial⟩
 obtain⟨mo,bo⟩:=m
 obtain⟨xk,xt,xv⟩:=x
 unfold xu zbO
 dsimp only
 have hb0:=xq w (.cells #[.int .i64 mo, .int .i64 bo] 26) (.cells #[.int .i64 xk, .int .i64 xt, .int .i64 xv] 32)
 have hsm:=zmR _ _ l0 (hn.below hb0) hcap
 have q1:((w.alloc (.cells #[.int .i64 mo, .int .i64 bo] 26)).alloc (.cells #[.int .i64 xk, .int .i64 xt, .int .i64 xv] 32)).heap[w.heap.size]? =some (.cells #[.int .i64 mo, .int .i64 bo] 26 (0,0)):=(Below.heap_alloc _ _ _ (by simp)).trans (yj w _)
 have q2:((w.alloc (.cells #[.int .i64 mo, .int .i64 bo] 26)).alloc (.cells #[.int .i64 xk, .int .i64 xt, .int .i64 xv] 32)).heap[w.heap.size+1]? =some (.cells #[.int .i64 xk, .int .i64 xt, .int .i64 xv] 32 (0,0)):=by
  have:=yj (w.alloc (.cells #[.int .i64 mo, .int .i64 bo] 26)) (.cells #[.int .i64 xk, .int .i64 xt, .int .i64 xv] 32)
  rwa [World.size_alloc] at this
 generalize l0.length=ln at hsm ⊢
 have HB0:=qh hb0
 have HSM:=qh hsm
 have Q1:=qh q1
 have Q2:=qh q2
 clear hn hcap hb0 hsm q1 q2
 go_enter Tryz.func9,Tryz.ntmps9
 go_upto_region 1 with fail
 generalize World.alloc (World.alloc w _) _=W0 at HB0 HSM Q1 Q2 ⊢
 generalize hgm:w.heap.size=gm at Q1 Q2 ⊢
 clear hgm
 go_upto_region 2 with(go_at_call 27;go_must(refine(HSM.out).mono ?_);rintro en W1 ⟨⟨c,tv,rfl,hc,hok,hct⟩,hb⟩;(have HB1:=qh hb);(have HC1:=qh hc);(obtain⟨ca,cc,rfl, -⟩:=zh.slice hc);clear hb hc hok hct;unfold yH)
 obtain⟨r,hr⟩:∃r:Int,r=if 400<room/\room<=100000 then 400 else room:=⟨_,rfl⟩
 have zeO:=λy hy=>zcC y c (.slice ca c.threads.length cc) 3 hy ⟨mo,bo⟩ r
 have zcg:=λy hy=>zno y c (.slice ca c.threads.length cc) 3 hy ⟨mo,bo⟩ r
 have hrep:=λy hy l lv hl=>zd1 y c (.slice ca c.threads.length cc) 3 hy ⟨mo,bo⟩ lv l hl
 have zch:=λy hy l lv hl=>zlP y c (.slice ca c.threads.length cc) 3 hy ⟨mo,bo⟩ lv l hl
 obtain⟨SX,hSX⟩:∃SX,SX=wC c ⟨mo,bo⟩ r 3:=⟨_,rfl⟩
 rw [<-hSX] at zeO zcg
 clear hSX
 obtain⟨S,er⟩:=SX
 obtain⟨SR,hSR⟩:∃SR,SR=λl=>uR c ⟨mo,bo⟩ l 3:=⟨_,rfl⟩
 have z2a:∀l,uR c ⟨mo,bo⟩ l 3=SR l:=λl=>by rw [hSR]
 simp only [z2a] at hrep zch
 clear hSR z2a
 unfold yH xu at zeO zcg hrep zch
 dsimp only at zeO zcg hrep zch
 generalize c.vars=vars at zeO zcg hrep zch ⊢
 generalize c.domain=dom at zeO zcg hrep zch ⊢
 generalize c.threads=cs at HC1 zeO zcg hrep zch ⊢
 generalize cs.length=cn at HC1 zeO zcg hrep zch ⊢
 clear c
 obtain⟨n1,hn1⟩:∃n,n=S.states.length:=⟨_,rfl⟩
 obtain⟨n2,hn2⟩:∃n,n=S.moves.length:=⟨_,rfl⟩
 obtain⟨n3,hn3⟩:∃n,n=S.next.length:=⟨_,rfl⟩
 obtain⟨T,hT⟩:∃T,T=SR [⟨xk,xt,xv⟩] :=⟨_,rfl⟩
 obtain⟨s,es⟩:=T
 obtain⟨bd,hbd⟩:∃b,b=s.bad:=⟨_,rfl⟩
 have HX1:Hid (∀y,yO 3 y (.slice ca cn cc) cs->Calls Tryz.prog 28 #[.agg #[.int .i64 vars, .int .i64 dom, .slice ca cn cc], .agg #[.int .i64 mo, .int .i64 bo], .int .i64 r] y (zv6 S er n1 n2 n3 y)):=λy hy=>(zeO y hy).mono λ_ _ h=>zon rfl hn1 hn2 hn3 h
 have HX2:Hid (∀y,yO 3 y (.slice ca cn cc) cs->Calls Tryz.prog 29 #[.agg #[.int .i64 vars, .int .i64 dom, .slice ca cn cc], .agg #[.int .i64 mo, .int .i64 bo], .int .i64 r] y (zv6 S er n1 n2 n3 y)):=λy hy=>(zcg y hy).mono λ_ _ h=>zon rfl hn1 hn2 hn3 h
 have HR1:Hid (∀y lv,yO 3 y (.slice ca cn cc) cs->qg y lv [⟨xk,xt,xv⟩] ->Calls Tryz.prog 34 #[.agg #[.int .i64 vars, .int .i64 dom, .slice ca cn cc], .agg #[.int .i64 mo, .int .i64 bo],lv] y (zv7 s bd es y)):=λy lv hy hl=>(hrep y hy _ lv hl).mono λ_ _ h=>zoo hT.symm hbd h
 have HR2:Hid (∀y lv,yO 3 y (.slice ca cn cc) cs->qg y lv [⟨xk,xt,xv⟩] ->Calls Tryz.prog 35 #[.agg #[.int .i64 vars, .int .i64 dom, .slice ca cn cc], .agg #[.int .i64 mo, .int .i64 bo],lv] y (zv7 s bd es y)):=λy lv hy hl=>(zch y hy _ lv hl).mono λ_ _ h=>zoo hT.symm hbd h
 have HSS:Hid (∀y a1 a2 a3 b1 b2 b3 c1 c2 c3 d1 d2 d3,qz y S (.slice a1 n1 c1) (.slice a2 n2 c2) (.slice a3 n3 c3)->qz y S (.slice b1 n1 d1) (.slice b2 n2 d2) (.slice b3 n3 d3)->Calls Tryz.prog 30 #[.agg #[.slice a1 n1 c1, .slice a2 n2 c2, .slice a3 n3 c3], .agg #[.slice b1 n1 d1, .slice b2 n2 d2, .slice b3 n3 d3]] y λe w'=>e= .returned (.bool true)/\Below y.heap.size y w'):=λy a1 a2 a3 b1 b2 b3 c1 c2 c3 d1 d2 d3 h1 h2=>zsG y S _ _ _ _ _ _ _ _ _ _ _ _ _ _ _ _ _ _ h1 h2
 have HST:Hid (∀y a1 a2 b1 b2 p1 p2 q1 q2 c1 c2 d1 d2,zY y s (.slice a1 p1 c1) (.slice a2 p2 c2)->zY y s (.slice b1 q1 d1) (.slice b2 q2 d2)->Calls Tryz.prog 17 #[.agg #[.slice a1 p1 c1, .slice a2 p2 c2, .bool bd], .agg #[.slice b1 q1 d1, .slice b2 q2 d2, .bool bd]] y λe w'=>e= .returned (.bool true)/\Below y.heap.size y w'):=λy a1 a2 b1 b2 p1 p2 q1 q2 c1 c2 d1 d2 h1 h2=>zsH y s bd hbd _ _ _ _ _ _ _ _ _ _ _ _ h1 h2
 have HRR:=qh hr
 clear hr zeO zcg hrep zch hn1 hn2 hn3 hT hbd SR
 have ha:=(Below.refl W1.heap.size W1).alloc (Nat.le_refl _) (.cells #[.int .i64 vars, .int .i64 dom, .slice ca cn cc] 24)
 have hz:=yj W1 (.cells #[.int .i64 vars, .int .i64 dom, .slice ca cn cc] 24)
 have hw1:=HB1.out.trans (ha.mono HB1.out.size)
 have HBV:=qh (HB0.out.trans (hw1.mono HB0.out.size))
 have HCV:=qh (zh.below (xU.stays 3) HC1.out ha)
 have K1:=qh ((hw1.block _ (zw Q1.out)).trans Q1.out)
 have K2:=qh ((hw1.block _ (zw Q2.out)).trans Q2.out)
 have K3:=qh hz
 clear ha hz hw1 HB0 HB1 HC1 Q1 Q2
 generalize World.alloc W1 _=V at HBV HCV K1 K2 K3 ⊢
 generalize W1.heap.size=gc at K3 ⊢
 have CX:Hid (∀y,Below V.heap.size V y->y.cell? ⟨gm,0,none⟩=some (.int .i64 mo)/\y.cell? ⟨gm,1,none⟩=some (.int .i64 bo)/\y.cell? ⟨gm+1,0,none⟩=some (.int .i64 xk)/\y.cell? ⟨gm+1,1,none⟩=some (.int .i64 xt)/\y.cell? ⟨gm+1,2,none⟩=some (.int .i64 xv)/\y.cell? ⟨gc,0,none⟩=some (.int .i64 vars)/\y.cell? ⟨gc,1,none⟩=some (.int .i64 dom)/\y.cell? ⟨gc,2,none⟩=some (.slice ca cn cc)/\yO 3 y (.slice ca cn cc) cs):=λy hy=>
  ⟨zi hy _ _ (ze K1.out 0),zi hy _ _ (ze K1.out 1),zi hy _ _ (ze K2.out 0),zi hy _ _ (ze K2.out 1),zi hy _ _ (ze K2.out 2),zi hy _ _ (ze K3.out 0),zi hy _ _ (ze K3.out 1),zi hy _ _ (ze K3.out 2),zh.below (xU.stays 3) HCV.out hy⟩
 clear K1 K2 K3 HCV
 go_cut [25] (λs25 w'=>s25= .bool (decide (400<room/\room<=100000))/\w'=V)
 case first=>
  by_cases h1:400<room
  ·by_cases h2:room<=100000
   ·go_wp2_with fail
    go_meet
    case rel=>exact⟨congrArg Value.bool (decide_eq_true (p:=400<room/\room<=100000) ⟨h1,h2⟩).symm,rfl⟩
   replace h2:100000<room:=by omega
   go_wp2_with fail
   go_meet
   case rel=>exact⟨congrArg Value.bool (by rw [Bool.eq_iff_iff];first|(simp;omega)|simp [h1]),rfl⟩
  replace h1:room<=400:=by omega
  go_wp2_with fail
  go_meet
  case rel=>exact⟨congrArg Value.bool (by rw [Bool.eq_iff_iff];first|(simp;omega)|simp [h1]),rfl⟩
 case rest=>
 obtain⟨rfl,hwv⟩:=hcut
 obtain rfl:V=wc:=hwv.symm
 go_upto_if 25 with fail
 go_cut [2] (λs2 w'=>s2= .int .i64 r/\w'=V)
 case first=>
  by_cases h:400<room/\room<=100000
  ·have hr4:r=400:=by rw [HRR.out,if_pos h]
   rw [decide_eq_true h]
   go_wp2_with fail
   go_meet
   case rel=>exact⟨by rw [hr4],rfl⟩
  have hr4:r=room:=by rw [HRR.out,if_neg h]
  rw [decide_eq_false h]
  go_wp2_with fail
  go_meet
  case rel=>exact⟨by rw [hr4],rfl⟩
 case rest=>
 obtain⟨rfl,hwv⟩:=hcut
 obtain rfl:V=wc:=hwv.symm
 clear HRR
 have HV4:Hid (Below V.heap.size V V):=Below.refl _ _
 obtain⟨x0,x1,y0,y1,y2,z0,z1,z2,hx⟩:=CX.out V HV4.out
 have HRW:=qh hx
 clear hx
 go_upto_region 5 with(go_at_call 28;go_must(refine(HX1.out _ HRW.out).mono ?_);rintro e W4 ⟨⟨a1p,a2p,a3p,c1p,c2p,c3p,rfl,hs⟩,hb⟩;(have gY:=qh hs);(have yt:=qh hb);clear hs hb)
 have hz:=yj W4 (.cells #[.slice a1p n1 c1p, .slice a2p n2 c2p, .slice a3p n3 c3p] 71)
 have ha:=(Below.refl W4.heap.size W4).alloc (Nat.le_refl _) (.cells #[.slice a1p n1 c1p, .slice a2p n2 c2p, .slice a3p n3 c3p] 71)
 have hs:=gY.out.below ha
 have hd:=yt.out.trans (ha.mono yt.out.size)
 have HV5:=qh (zD HV4.out hd)
 clear HV4
 have HZ:=qh hz
 have HS:=qh hs
 clear hz ha hs hd yt gY
 clear x0 x1 y0 y1 y2 z0 z1 z2 HRW
 generalize World.alloc W4 _=X4 at HZ HS HV5 ⊢
 generalize W4.heap.size=g4 at HZ ⊢
 have CSp:Hid (∀y,Below X4.heap.size X4 y->y.cell? ⟨g4,0,none⟩=some (.slice a1p n1 c1p)/\y.cell? ⟨g4,1,none⟩=some (.slice a2p n2 c2p)/\y.cell? ⟨g4,2,none⟩=some (.slice a3p n3 c3p)/\qz y S (.slice a1p n1 c1p) (.slice a2p n2 c2p) (.slice a3p n3 c3p)):=λy hy=>⟨zi hy _ _ (ze HZ.out 0),zi hy _ _ (ze HZ.out 1),zi hy _ _ (ze HZ.out 2),HS.out.below hy⟩
 have z2d:Hid (Below X4.heap.size X4 X4):=Below.refl _ _
 clear HZ HS
 obtain⟨x0,x1,y0,y1,y2,z0,z1,z2,hx⟩:=CX.out X4 HV5.out
 have HRW:=qh hx
 clear hx
 go_upto_region 6 with(go_at_call 29;go_must(refine(HX2.out _ HRW.out).mono ?_);rintro e W5 ⟨⟨a1q,a2q,a3q,c1q,c2q,c3q,rfl,hs⟩,hb⟩;(have gY:=qh hs);(have yt:=qh hb);clear hs hb)
 have hz:=yj W5 (.cells #[.slice a1q n1 c1q, .slice a2q n2 c2q, .slice a3q n3 c3q] 71)
 have ha:=(Below.refl W5.heap.size W5).alloc (Nat.le_refl _) (.cells #[.slice a1q n1 c1q, .slice a2q n2 c2q, .slice a3q n3 c3q] 71)
 have hs:=gY.out.below ha
 have hd:=yt.out.trans (ha.mono yt.out.size)
 have HV6:=qh (zD HV5.out hd)
 have zv8:=qh (zD z2d.out hd)
 clear HV5 z2d
 have HZ:=qh hz
 have HS:=qh hs
 clear hz ha hs hd yt gY
 clear x0 x1 y0 y1 y2 z0 z1 z2 HRW
 generalize World.alloc W5 _=X5 at HZ HS HV6 zv8 ⊢
 generalize W5.heap.size=g5 at HZ ⊢
 have CSq:Hid (∀y,Below X5.heap.size X5 y->y.cell? ⟨g5,0,none⟩=some (.slice a1q n1 c1q)/\y.cell? ⟨g5,1,none⟩=some (.slice a2q n2 c2q)/\y.cell? ⟨g5,2,none⟩=some (.slice a3q n3 c3q)/\qz y S (.slice a1q n1 c1q) (.slice a2q n2 c2q) (.slice a3q n3 c3q)):=λy hy=>⟨zi hy _ _ (ze HZ.out 0),zi hy _ _ (ze HZ.out 1),zi hy _ _ (ze HZ.out 2),HS.out.below hy⟩
 have z2e:Hid (Below X5.heap.size X5 X5):=Below.refl _ _
 clear HZ HS
 obtain⟨x0,x1,y0,y1,y2,z0,z1,z2,hx⟩:=CX.out X5 HV6.out
 have HRW:=qh hx
 clear hx
 have HL2:=qh (zkq X5 xk xt xv)
 have hal:=(Below.refl X5.heap.size X5).alloc (Nat.le_refl _) (.cells #[.int .i64 xk, .int .i64 xt, .int .i64 xv] 32)
 have HAL:=qh hal
 have zcL:=qh (zh.below (xU.stays 3) HRW.out hal)
 clear hal
 go_upto_region 7 with(go_at_call 34;go_must(refine(HR1.out _ _ zcL.out HL2.out).mono ?_);rintro e W6 ⟨⟨au,bu,nu,cu,ku,fu,rfl,hs⟩,hb⟩;(have gY:=qh hs);(have yt:=qh hb);clear hs hb)
 have hz:=yj W6 (.cells #[.slice au nu cu, .slice bu ku fu, .bool bd] 30)
 have ha:=(Below.refl W6.heap.size W6).alloc (Nat.le_refl _) (.cells #[.slice au nu cu, .slice bu ku fu, .bool bd] 30)
 have hs:=gY.out.below ha
 have hd:=HAL.out.trans ((yt.out.trans (ha.mono yt.out.size)).mono HAL.out.size)
 have HV7:=qh (zD HV6.out hd)
 have zv9:=qh (zD zv8.out hd)
 have zvA:=qh (zD z2e.out hd)
 clear HV6 zv8 z2e
 have HZ:=qh hz
 have HS:=qh hs
 clear hz ha hs hd yt gY HAL HL2 zcL
 clear x0 x1 y0 y1 y2 z0 z1 z2 HRW
 generalize World.alloc W6 _=X6 at HZ HS HV7 zv9 zvA ⊢
 generalize W6.heap.size=g6 at HZ ⊢
 have CSu:Hid (∀y,Below X6.heap.size X6 y->y.cell? ⟨g6,0,none⟩=some (.slice au nu cu)/\y.cell? ⟨g6,1,none⟩=some (.slice bu ku fu)/\y.cell? ⟨g6,2,none⟩=some (.bool bd)/\zY y s (.slice au nu cu) (.slice bu ku fu)):=λy hy=>⟨zi hy _ _ (ze HZ.out 0),zi hy _ _ (ze HZ.out 1),zi hy _ _ (ze HZ.out 2),HS.out.below hy⟩
 have z2f:Hid (Below X6.heap.size X6 X6):=Below.refl _ _
 clear HZ HS
 obtain⟨x0,x1,y0,y1,y2,z0,z1,z2,hx⟩:=CX.out X6 HV7.out
 have HRW:=qh hx
 clear hx
 have HL2:=qh (zkq X6 xk xt xv)
 have hal:=(Below.refl X6.heap.size X6).alloc (Nat.le_refl _) (.cells #[.int .i64 xk, .int .i64 xt, .int .i64 xv] 32)
 have HAL:=qh hal
 have zcL:=qh (zh.below (xU.stays 3) HRW.out hal)
 clear hal
 go_upto_region 8 with(go_at_call 35;go_must(refine(HR2.out _ _ zcL.out HL2.out).mono ?_);rintro e W7 ⟨⟨av,bv,nv,cv,kv,fv,rfl,hs⟩,hb⟩;(have gY:=qh hs);(have yt:=qh hb);clear hs hb)
 have hz:=yj W7 (.cells #[.slice av nv cv, .slice bv kv fv, .bool bd] 30)
 have ha:=(Below.refl W7.heap.size W7).alloc (Nat.le_refl _) (.cells #[.slice av nv cv, .slice bv kv fv, .bool bd] 30)
 have hs:=gY.out.below ha
 have hd:=HAL.out.trans ((yt.out.trans (ha.mono yt.out.size)).mono HAL.out.size)
 have HV8:=qh (zD HV7.out hd)
 have zvB:=qh (zD zv9.out hd)
 have zvC:=qh (zD zvA.out hd)
 have zvD:=qh (zD z2f.out hd)
 clear HV7 zv9 zvA z2f
 have HZ:=qh hz
 have HS:=qh hs
 clear hz ha hs hd yt gY HAL HL2 zcL
 clear x0 x1 y0 y1 y2 z0 z1 z2 HRW
 generalize World.alloc W7 _=X7 at HZ HS HV8 zvB zvC zvD ⊢
 generalize W7.heap.size=g7 at HZ ⊢
 have CSv:Hid (∀y,Below X7.heap.size X7 y->y.cell? ⟨g7,0,none⟩=some (.slice av nv cv)/\y.cell? ⟨g7,1,none⟩=some (.slice bv kv fv)/\y.cell? ⟨g7,2,none⟩=some (.bool bd)/\zY y s (.slice av nv cv) (.slice bv kv fv)):=λy hy=>⟨zi hy _ _ (ze HZ.out 0),zi hy _ _ (ze HZ.out 1),zi hy _ _ (ze HZ.out 2),HS.out.below hy⟩
 have z2g:Hid (Below X7.heap.size X7 X7):=Below.refl _ _
 clear HZ HS
 go_wp2_with(first
  |(go_at_call 33;go_must(refine(znv X7).mono ?_);rintro e Y8 ⟨rfl,hb⟩;(have HA8:=qh hb);(obtain⟨p0,p1,p2,hp⟩:=CSp.out Y8 (zD zvB.out hb));(have HSp:=qh hp);clear hp;(obtain⟨q0,q1,q2,hq⟩:=CSq.out Y8 (zD zvC.out hb));(have HSq:=qh hq);clear hq;(obtain⟨u0,u1,u2,hu⟩:=CSu.out Y8 (zD zvD.out hb));(have HSu:=qh hu);clear hu;(obtain⟨v0,v1,v2,hv⟩:=CSv.out Y8 (zD z2g.out hb));(have HSv:=qh hv);clear hv;clear hb)
  |(go_at_call 30;go_must(refine(HSS.out Y8 _ _ _ _ _ _ _ _ _ _ _ _ HSp.out HSq.out).mono ?_);rintro e Y9 ⟨rfl,hb⟩;(have HA9:=qh (zD HA8.out hb));clear p0 p1 p2 q0 q1 q2 u0 u1 u2 v0 v1 v2 HSp HSq HSu HSv;(obtain⟨p0,p1,p2,hp⟩:=CSp.out Y9 (zD zvB.out HA9.out));(have HSp:=qh hp);clear hp;(obtain⟨q0,q1,q2,hq⟩:=CSq.out Y9 (zD zvC.out HA9.out));(have HSq:=qh hq);clear hq;(obtain⟨u0,u1,u2,hu⟩:=CSu.out Y9 (zD zvD.out HA9.out));(have HSu:=qh hu);clear hu;(obtain⟨v0,v1,v2,hv⟩:=CSv.out Y9 (zD z2g.out HA9.out));(have HSv:=qh hv);clear hv;clear hb)
  |(go_at_call 17;go_must(refine(HST.out Y9 _ _ _ _ _ _ _ _ _ _ _ _ HSu.out HSv.out).mono ?_);rintro e Y10 ⟨rfl,hb⟩;(have z6U:=qh (zD HA9.out hb));clear p0 p1 p2 q0 q1 q2 u0 u1 u2 v0 v1 v2 HSp HSq HSu HSv;clear hb))
 go_ret
 exact⟨rfl,HBV.out.trans ((zD HV8.out z6U.out).mono HBV.out.size)⟩
