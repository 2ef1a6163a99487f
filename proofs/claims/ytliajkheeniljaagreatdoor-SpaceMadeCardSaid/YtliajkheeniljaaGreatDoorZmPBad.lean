/- Steps. -/
import Derived.Test.YtliajkheeniljaaGreatDoorZmPDo
import Derived.Test.YtliajkheeniljaaGreatDoorZmPSpace
import Derived.Test.YtliajkheeniljaaGreatDoorZmRangeZ
set_option linter.all false
namespace Go.Proofs.YtliajkheeniljaaGreatDoor
open Go.RowKit
set_option maxRecDepth 100000
set_option maxHeartbeats 16000000
def zfO (l:List zl) (r:Int):Prop:=(∃i:Nat,i<l.length/\r=i/\(l.getD i default).bad=true/\∀j,j<i->(l.getD j default).bad=false)\/(r= -1/\∀j,j<l.length->(l.getD j default).bad=false)
theorem zfO.one {l:List zl} {r q:Int} (h:zfO l r) (k:zfO l q):r=q:=by
 rcases h with⟨i,h1,rfl,h2,h3⟩|⟨rfl,h1⟩<;>rcases k with⟨j,k1,rfl,k2,k3⟩|⟨rfl,k1⟩
 ·rcases Nat.lt_trichotomy i j with e|e|e
  ·rw [k3 i e] at h2;cases h2
  ·rw [e]
  rw [h3 j e] at k2;cases k2
 ·rw [k1 i h1] at h2;cases h2
 ·rw [h1 j k1] at k2;cases k2
 rfl
def zic (w:World) (l:List zl) (e:Ending) (w':World):Prop:=∃r,e= .returned (.int .i64 r)/\zfO l r/\Below w.heap.size w w'
theorem zj8 (w:World) (a b:Value) (bd:Bool):Calls Tryz.prog 61 #[.agg #[a,b, .bool bd]] w λe w'=>e= .returned (.bool bd)/\Below w.heap.size w w':=by
 go_enter Tryz.func61,Tryz.ntmps61
 go_wp2
 go_ret
 exact⟨rfl,(Below.refl _ _).alloc (Nat.le_refl _) _⟩
theorem ziY (w:World) (sv:Value) (l:List zl) (hl:jI w sv l):Calls Tryz.prog 60 #[sv, .func (.func 61) #[] #[]] w (zic w l):=by
 obtain⟨a,cap,rfl,hn⟩:=zh.slice hl
 have HL:=qh hl
 clear hl
 obtain⟨n,hnd⟩:∃n,n=l.length:=⟨_,rfl⟩
 rw [<-hnd] at hn HL ⊢
 have HN:=qh hnd
 clear hnd
 go_enter Tryz.func60,Tryz.ntmps60
 go_wp2_with fail
 go_loopg [8] n (λg s8 wr=>∃i:Nat,i<=n/\Hid (g=n - i)/\s8= .int .i64 i/\Hid (∀j,j<i->(l.getD j default).bad=false)/\Hid (Below w.heap.size w wr))
 case atStart=>exact⟨0,Nat.zero_le _,rfl,rfl,λj hj=>by omega,Below.refl _ _⟩
 case round=>
 obtain⟨i,hi,HG,rfl,HJ,HB⟩:=hrel
 by_cases hlt:i<n
 rotate_left
 ·obtain rfl:n=i:=by omega
  go_wp2_with fail
  go_ret
  exact⟨-1,rfl, .inr ⟨rfl,λj hj=>HJ.out j (by rw [HN.out];exact hj)⟩,HB.out⟩
 have qx:(i:Int)<(n:Int):=by omega
 obtain⟨eb,eo,tv,yv,zZ, -,x0,x1,x2, -⟩:=jI.part (zh.below xD.stays HL.out HB.out) i (by rw [<-HN.out];exact hlt)
 subst zZ
 obtain⟨bd,hbd⟩:∃b,b=(l.getD i default).bad:=⟨_,rfl⟩
 rw [<-hbd] at x2
 have gU:=qh hbd
 clear hbd
 cases bd
 ·go_wp2_with(go_at_call 61;go_must(refine(zj8 _ _ _ _).mono ?_);rintro e w2 ⟨rfl,hb2⟩;(have HB2:=qh (zF HB.out hb2));clear hb2)
  go_roundg (n - (i+1))
  case measure=>rw [HG.out];omega
  case rel=>exact⟨i+1,by omega,rfl,by simp,λj hj=>by
   by_cases he:j=i
   ·subst he;exact gU.out.symm
   exact HJ.out j (by omega),HB2.out⟩
 go_wp2_with(go_at_call 61;go_must(refine(zj8 _ _ _ _).mono ?_);rintro e w2 ⟨rfl,hb2⟩;(have HB2:=qh (zF HB.out hb2));clear hb2)
 go_ret
 exact⟨i,rfl, .inl ⟨i,by rw [<-HN.out];exact hlt,rfl,gU.out.symm,HJ.out⟩,HB2.out⟩
theorem zlv (w:World) (S:xR) (sv mv nv:Value) (h:qp w S sv mv nv):Calls Tryz.prog 31 #[gL sv mv nv] w (zic w S.states):=by
 have hl:=h.1
 obtain⟨a,cap,rfl, -⟩:=zh.slice hl
 generalize S.states.length=n at hl ⊢
 unfold gL
 have hB:=(Below.refl w.heap.size w).alloc (Nat.le_refl _) (.cells #[.slice a n cap,mv,nv] 71)
 have HI:=qh (ziY _ _ _ (zh.below xD.stays hl hB))
 have HB:=qh hB
 have H1:=qh (yh w (.cells #[.slice a n cap,mv,nv] 71))
 clear hl hB h
 go_enter Tryz.func31,Tryz.ntmps31
 go_upto_region 1 with fail
 generalize World.alloc w _=W at HB H1 HI ⊢
 generalize w.heap.size=gx at H1 ⊢
 have c0:=ze H1.out 0
 go_wp2_with(go_at_call 60;go_must(refine HI.out.mono ?_);rintro e w2 ⟨r,rfl,hr,hb2⟩;(have HR:=qh hr);(have HB2:=qh hb2);clear hr hb2)
 go_ret
 exact⟨r,rfl,HR.out,HB.out.trans (HB2.out.mono HB.out.size)⟩
theorem zqZ (w:World) (S:xR) (sv mv nv:Value) (h:qp w S sv mv nv):Calls Tryz.prog 32 #[gL sv mv nv] w (zic w S.states):=by
 have hl:=h.1
 obtain⟨a,cap,rfl,hn63⟩:=zh.slice hl
 generalize S.states=l at hl hn63 ⊢
 obtain⟨n,hn⟩:∃n,n=l.length:=⟨_,rfl⟩
 rw [<-hn] at hl hn63 ⊢
 unfold gL
 have hB:=(Below.refl w.heap.size w).alloc (Nat.le_refl _) (.cells #[.slice a n cap,mv,nv] 71)
 have HL:=qh (zh.below xD.stays hl hB)
 have HB:=qh hB
 have HN:=qh hn
 have H1:=qh (yh w (.cells #[.slice a n cap,mv,nv] 71))
 clear hl hB h hn
 go_enter Tryz.func32,Tryz.ntmps32
 go_upto_region 1 with fail
 generalize World.alloc w _=W at HB H1 HL ⊢
 generalize w.heap.size=gx at H1 ⊢
 have c0:=ze H1.out 0
 go_wp2_with fail
 go_loopg [3] n (λg s3 wr=>∃i:Nat,i<=n/\Hid (g=n - i)/\s3= .int .i64 i/\Hid (∀j,j<i->(l.getD j default).bad=false)/\wr=W)
 case atStart=>exact⟨0,Nat.zero_le _,rfl,rfl,λj hj=>by omega,rfl⟩
 case round=>
 obtain⟨i,hi,HG,rfl,HJ,rfl⟩:=hrel
 by_cases hlt:i<n
 rotate_left
 ·obtain rfl:n=i:=by omega
  go_wp2_with fail
  go_ret
  exact⟨-1,rfl, .inr ⟨rfl,λj hj=>HJ.out j (by rw [HN.out];exact hj)⟩,HB.out⟩
 have qx:(i:Int)<(n:Int):=by omega
 obtain⟨eb,eo,tv,yv,zZ, -,x0,x1,x2, -⟩:=jI.part HL.out i (by rw [<-HN.out];exact hlt)
 subst zZ
 obtain⟨bd,hbd⟩:∃b,b=(l.getD i default).bad:=⟨_,rfl⟩
 rw [<-hbd] at x2
 have gU:=qh hbd
 clear hbd
 cases bd
 ·go_wp2_with fail
  go_roundg (n - (i+1))
  case measure=>rw [HG.out];omega
  case rel=>exact⟨i+1,by omega,rfl,by simp,λj hj=>by
   by_cases he:j=i
   ·subst he;exact gU.out.symm
   exact HJ.out j (by omega),rfl⟩
 go_wp2_with fail
 go_ret
 exact⟨i,rfl, .inl ⟨i,by rw [<-HN.out];exact hlt,rfl,gU.out.symm,HJ.out⟩,HB.out⟩
def zaE:zH:=⟨0,1⟩
def vQ:xR:=(kE qF zaE 100 1).1
def zlw:Bool:=decide ((kE qF zaE 100 1).2=0) && decide (4<vQ.states.length) && decide (vQ.states.length<=100) && decide (vQ.next.length=vQ.states.length) && decide (vQ.moves.length=vQ.states.length) && vQ.states.all (λs=> !s.bad) && decide (vE vQ 1 1= [⟨1,0,0⟩])
theorem zra:zlw=true:=by decide+kernel
theorem zyU:(kE qF zaE 3 1).2=40:=by decide+kernel
theorem zyV:(kE qF zaE 0 1).2=1:=by decide+kernel
theorem zyW:(zca qF zaE [⟨1,0,0⟩,⟨1,1,0⟩] 1).2=0/\(zca qF zaE [⟨1,0,0⟩,⟨1,1,0⟩] 1).1.mem.length=2/\(zca qF zaE [⟨1,0,0⟩,⟨1,1,0⟩] 1).1.mem.getD 1 0=1:=by decide+kernel
theorem zyX:(zca qF zaE [⟨2,0,0⟩] 1).2=50:=by decide+kernel
structure zwW:Prop where
 e:(kE qF zaE 100 1).2=0
 many:4<vQ.states.length
 few:vQ.states.length<=100
 next:vQ.next.length=vQ.states.length
 moves:vQ.moves.length=vQ.states.length
 calm:∀j,j<vQ.states.length->(vQ.states.getD j default).bad=false
 trail:vE vQ 1 1= [⟨1,0,0⟩]
theorem zem:zwW:=by
 have h:=zra
 unfold zlw at h
 simp only [Bool.and_eq_true,decide_eq_true_eq] at h
 obtain⟨⟨⟨⟨⟨⟨h1,h2⟩,h3⟩,h4⟩,h5⟩,h6⟩,h7⟩:=h
 refine⟨h1,h2,h3,h4,h5,λj hj=> ?_,h7⟩
 have:=List.all_eq_true.1 h6 _ (vB (x:=default) hj)
 simpa using this
def z1E (n:Nat) (w:World) (e:Ending) (w':World):Prop:=(∃(a1 a2 a3:Option Addr) (c1 c2 c3:Nat),e= .returned (.tuple #[.agg #[.slice a1 n c1, .slice a2 n c2, .slice a3 n c3], .int .i64 0])/\qp w' vQ (.slice a1 n c1) (.slice a2 n c2) (.slice a3 n c3))/\Below w.heap.size w w'
def z1F (k:Int) (w:World) (e:Ending) (w':World):Prop:=(∃(a1 a2 a3:Option Addr) (n1 n2 n3 c1 c2 c3:Nat),e= .returned (.tuple #[.agg #[.slice a1 n1 c1, .slice a2 n2 c2, .slice a3 n3 c3], .int .i64 k]))/\Below w.heap.size w w'
theorem zyY (w:World) (ta:Option Addr) (tc n:Nat) (hn:n=vQ.states.length) (h:yT 1 w (.slice ta 2 tc) qF.threads):Calls Tryz.prog 28 #[.agg #[.int .i64 2, .int .i64 2, .slice ta 2 tc], .agg #[.int .i64 0, .int .i64 1], .int .i64 100] w (z1E n w):=by
 refine(zcl w qF _ 1 h zaE 100).mono ?_
 rintro e w' ⟨⟨sv,mv,nv,rfl,hs, -, -⟩,hb⟩
 have d:=zem
 rw [d.e]
 have hs2:qp w' vQ sv mv nv:=hs
 obtain⟨a1,c1,rfl, -⟩:=zh.slice hs2.1
 obtain⟨a2,c2,rfl, -⟩:=zh.slice hs2.2.1
 obtain⟨a3,c3,rfl, -⟩:=zh.slice hs2.2.2
 rw [d.moves,d.next, <-hn] at hs2 ⊢
 exact⟨⟨a1,a2,a3,c1,c2,c3,rfl,hs2⟩,hb⟩
theorem zrb (w:World) (ta:Option Addr) (tc:Nat) (r k:Int) (hk:(kE qF zaE r 1).2=k) (h:yT 1 w (.slice ta 2 tc) qF.threads):Calls Tryz.prog 28 #[.agg #[.int .i64 2, .int .i64 2, .slice ta 2 tc], .agg #[.int .i64 0, .int .i64 1], .int .i64 r] w (z1F k w):=by
 refine(zcl w qF _ 1 h zaE r).mono ?_
 rintro e w' ⟨⟨sv,mv,nv,rfl,hs, -, -⟩,hb⟩
 rw [hk]
 obtain⟨a1,c1,rfl, -⟩:=zh.slice hs.1
 obtain⟨a2,c2,rfl, -⟩:=zh.slice hs.2.1
 obtain⟨a3,c3,rfl, -⟩:=zh.slice hs.2.2
 exact⟨⟨a1,a2,a3,_,_,_,c1,c2,c3,rfl⟩,hb⟩
def z1G (w:World) (e:Ending) (w':World):Prop:=(∃(a:Option Addr) (b o n c f:Nat) (bd:Bool),e= .returned (.tuple #[.agg #[.slice a n c, .slice (some ⟨b,o,none⟩) 2 f, .bool bd], .int .i64 0])/\b<w'.heap.size/\w'.cell? ⟨b,o+1,none⟩=some (.int .i64 1))/\Below w.heap.size w w'
def z1H (k:Int) (w:World) (e:Ending) (w':World):Prop:=(∃(a b:Option Addr) (n c m f:Nat) (bd:Bool),e= .returned (.tuple #[.agg #[.slice a n c, .slice b m f, .bool bd], .int .i64 k]))/\Below w.heap.size w w'
theorem zyZ (w:World) (ta:Option Addr) (tc:Nat) (h:yT 1 w (.slice ta 2 tc) qF.threads) (lv:Value) (hl:qH w lv [⟨1,0,0⟩,⟨1,1,0⟩]):Calls Tryz.prog 34 #[.agg #[.int .i64 2, .int .i64 2, .slice ta 2 tc], .agg #[.int .i64 0, .int .i64 1],lv] w (z1G w):=by
 refine(zge w qF _ 1 h zaE lv _ hl).mono ?_
 rintro e w' ⟨⟨a,b,n,c,k,f,rfl,hs⟩,hb⟩
 obtain⟨e1,e2,e3⟩:=zyW
 have hm:=hs.mem
 obtain⟨_,_,q, -⟩:=zh.slice hm
 cases q
 obtain⟨eb,eo,rfl,hbl,z0⟩:=xI.part hm 1 (by rw [e2];decide)
 rw [e3] at z0
 rw [e1,e2]
 exact⟨⟨a,eb,eo,n,c,f,_,rfl,hbl,z0⟩,hb⟩
theorem zza (w:World) (ta:Option Addr) (tc:Nat) (h:yT 1 w (.slice ta 2 tc) qF.threads) (lv:Value) (hl:qH w lv [⟨2,0,0⟩]):Calls Tryz.prog 34 #[.agg #[.int .i64 2, .int .i64 2, .slice ta 2 tc], .agg #[.int .i64 0, .int .i64 1],lv] w (z1H 50 w):=by
 refine(zge w qF _ 1 h zaE lv _ hl).mono ?_
 rintro e w' ⟨⟨a,b,n,c,k,f,rfl,hs⟩,hb⟩
 rw [zyX]
 exact⟨⟨a,b,n,c,k,f,_,rfl⟩,hb⟩
def z1I (w:World) (e:Ending) (w':World):Prop:=(∃(b c:Nat),e= .returned (.slice (some ⟨b,0,none⟩) 1 c)/\w'.cell? ⟨b,0,none⟩=some (.int .i64 1)/\w'.cell? ⟨b,1,none⟩=some (.int .i64 0)/\w'.cell? ⟨b,2,none⟩=some (.int .i64 0))/\Below w.heap.size w w'
theorem z1J (w:World) (a1 a2 a3:Option Addr) (n c1 c2 c3:Nat) (h:qp w vQ (.slice a1 n c1) (.slice a2 n c2) (.slice a3 n c3)):Calls Tryz.prog 39 #[.agg #[.slice a1 n c1, .slice a2 n c2, .slice a3 n c3], .int .i64 1] w (z1I w):=by
 have d:=zem
 have hc:=zoT w vQ _ _ _ h d.moves d.next 1 (by have:=d.many;omega) (by have:=d.few;omega)
 rw [show((1:Nat):Int)=1 from rfl,d.trail] at hc
 refine hc.mono ?_
 rintro e w' ⟨sv,rfl,hr,hb⟩
 obtain⟨g,cap,rfl, -, -⟩:=wY hr (by decide)
 exact⟨⟨g,cap,rfl,hr.cellAt 0 (by decide),hr.cellAt 1 (by decide),hr.cellAt 2 (by decide)⟩,hb⟩
theorem z1K (w:World) (a1 a2 a3:Option Addr) (n c1 c2 c3:Nat) (h:qp w vQ (.slice a1 n c1) (.slice a2 n c2) (.slice a3 n c3)):Calls Tryz.prog 31 #[.agg #[.slice a1 n c1, .slice a2 n c2, .slice a3 n c3]] w λe w'=>e= .returned (.int .i64 (-1))/\Below w.heap.size w w':=by
 refine(zlv w vQ _ _ _ h).mono ?_
 rintro e w' ⟨r,rfl,hr,hb⟩
 obtain rfl:r= -1:=hr.one (.inr ⟨rfl,zem.calm⟩)
 exact⟨rfl,hb⟩
theorem z1L (w:World):Calls Tryz.prog 41 #[] w λe w'=>(∃(ta:Option Addr) (tc:Nat),e= .returned (.agg #[.int .i64 2, .int .i64 2, .slice ta 2 tc])/\yT 1 w' (.slice ta 2 tc) qF.threads)/\Below w.heap.size w w':=by
 refine(zoU w).mono ?_
 rintro e w' ⟨⟨tv,rfl,ht⟩,hb⟩
 obtain⟨ta,tc,rfl, -⟩:=zh.slice ht
 exact⟨⟨ta,tc,rfl,ht⟩,hb⟩
theorem zm8 (w:World):Calls Tryz.prog 33 #[] w λe w'=>e= .returned (.bool true)/\Below w.heap.size w w':=by
 obtain⟨n,hn⟩:∃n,n=vQ.states.length:=⟨_,rfl⟩
 have h4:(4:Int)<(n:Int):=by have:=zem.many;omega
 have HN:=qh hn
 clear hn
 go_enter Tryz.func33,Tryz.ntmps33
 go_upto_region 2 with(go_at_call 41;go_must(refine(z1L _).mono ?_);rintro e W1 ⟨⟨ta,tc,rfl,ht⟩,hb⟩;have HT1:=qh ht;have HB0:=qh hb;clear ht hb)
 have HB1:=qh (HB0.out.trans ((xg W1 (.cells #[.int .i64 2, .int .i64 2, .slice ta 2 tc] 24) (.cells #[.int .i64 0, .int .i64 1] 26)).mono HB0.out.size))
 have HT2:=qh (zh.below (xY.stays 1) HT1.out (xg W1 (.cells #[.int .i64 2, .int .i64 2, .slice ta 2 tc] 24) (.cells #[.int .i64 0, .int .i64 1] 26)))
 have q1:((W1.alloc (.cells #[.int .i64 2, .int .i64 2, .slice ta 2 tc] 24)).alloc (.cells #[.int .i64 0, .int .i64 1] 26)).heap[W1.heap.size]? =some (.cells #[.int .i64 2, .int .i64 2, .slice ta 2 tc] 24 (0,0)):=(Below.heap_alloc _ _ _ (by simp)).trans (yh W1 _)
 have q2:((W1.alloc (.cells #[.int .i64 2, .int .i64 2, .slice ta 2 tc] 24)).alloc (.cells #[.int .i64 0, .int .i64 1] 26)).heap[W1.heap.size+1]? =some (.cells #[.int .i64 0, .int .i64 1] 26 (0,0)):=by
  have:=yh (W1.alloc (.cells #[.int .i64 2, .int .i64 2, .slice ta 2 tc] 24)) (.cells #[.int .i64 0, .int .i64 1] 26)
  rwa [World.size_alloc] at this
 have Q1:=qh q1
 have Q2:=qh q2
 clear q1 q2 HT1 HB0
 generalize World.alloc (World.alloc W1 _) _=X1 at HB1 HT2 Q1 Q2 ⊢
 generalize W1.heap.size=g1 at Q1 Q2 ⊢
 have CX:Hid (∀y,Below X1.heap.size X1 y->y.cell? ⟨g1,0,none⟩=some (.int .i64 2)/\y.cell? ⟨g1,1,none⟩=some (.int .i64 2)/\y.cell? ⟨g1,2,none⟩=some (.slice ta 2 tc)/\y.cell? ⟨g1+1,0,none⟩=some (.int .i64 0)/\y.cell? ⟨g1+1,1,none⟩=some (.int .i64 1)/\yT 1 y (.slice ta 2 tc) qF.threads):=λy hy=>
  ⟨zi hy _ _ (ze Q1.out 0),zi hy _ _ (ze Q1.out 1),zi hy _ _ (ze Q1.out 2),zi hy _ _ (ze Q2.out 0),zi hy _ _ (ze Q2.out 1),zh.below (xY.stays 1) HT2.out hy⟩
 have qV:Hid (Below X1.heap.size X1 X1):=Below.refl _ _
 clear HT2 Q1 Q2
 obtain⟨x0,x1,x2,x3,x4,x5⟩:=CX.out X1 qV.out
 have HRW:=qh x5
 clear x5
 go_upto_region 3 with(go_at_call 28;go_must(refine(zyY _ _ _ n HN.out HRW.out).mono ?_);rintro e W2 ⟨⟨a1,a2,a3,c1,c2,c3,rfl,hs⟩,hb⟩;have HSP:=qh hs;have yx:=qh hb;clear hs hb)
 have hz:=yh W2 (.cells #[.slice a1 n c1, .slice a2 n c2, .slice a3 n c3] 71)
 have ha:=(Below.refl W2.heap.size W2).alloc (Nat.le_refl _) (.cells #[.slice a1 n c1, .slice a2 n c2, .slice a3 n c3] 71)
 replace HSP:=qh (HSP.out.below ha)
 have HS2:=qh (zF qV.out (yx.out.trans (ha.mono yx.out.size)))
 have HZ:=qh hz
 clear hz ha yx x0 x1 x2 x3 x4 HRW
 generalize World.alloc W2 _=X2 at HSP HS2 HZ ⊢
 generalize W2.heap.size=g3 at HZ ⊢
 have CS:Hid (∀y,Below X2.heap.size X2 y->y.cell? ⟨g3,0,none⟩=some (.slice a1 n c1)/\y.cell? ⟨g3,1,none⟩=some (.slice a2 n c2)/\y.cell? ⟨g3,2,none⟩=some (.slice a3 n c3)/\qp y vQ (.slice a1 n c1) (.slice a2 n c2) (.slice a3 n c3)):=λy hy=>
  ⟨zi hy _ _ (ze HZ.out 0),zi hy _ _ (ze HZ.out 1),zi hy _ _ (ze HZ.out 2),HSP.out.below hy⟩
 have HU2:Hid (Below X2.heap.size X2 X2):=Below.refl _ _
 clear HZ HSP
 obtain⟨x0,x1,x2,x3,x4,x5⟩:=CX.out X2 HS2.out
 have HRW:=qh x5
 clear x5
 go_upto_region 4 with(go_at_call 28;go_must(refine(zrb _ _ _ 3 40 zyU HRW.out).mono ?_);rintro e W3 ⟨⟨p1,p2,p3,n1,n2,n3,k1,k2,k3,rfl⟩,hb⟩;have yx:=qh hb;clear hb)
 have ha:=yx.out.trans (((Below.refl W3.heap.size W3).alloc (Nat.le_refl _) (.cells #[.slice p1 n1 k1, .slice p2 n2 k2, .slice p3 n3 k3] 71)).mono yx.out.size)
 have HS3:=qh (zF HS2.out ha)
 have HU3:=qh (zF HU2.out ha)
 clear ha yx x0 x1 x2 x3 x4 HRW HS2 HU2
 generalize World.alloc W3 _=X3 at HS3 HU3 ⊢
 obtain⟨x0,x1,x2,x3,x4,x5⟩:=CX.out X3 HS3.out
 have HRW:=qh x5
 clear x5
 go_upto_region 5 with(go_at_call 28;go_must(refine(zrb _ _ _ 0 1 zyV HRW.out).mono ?_);rintro e W4 ⟨⟨p1,p2,p3,n1,n2,n3,k1,k2,k3,rfl⟩,hb⟩;have yx:=qh hb;clear hb)
 have ha:=yx.out.trans (((Below.refl W4.heap.size W4).alloc (Nat.le_refl _) (.cells #[.slice p1 n1 k1, .slice p2 n2 k2, .slice p3 n3 k3] 71)).mono yx.out.size)
 have HS4:=qh (zF HS3.out ha)
 have HU4:=qh (zF HU3.out ha)
 clear ha yx x0 x1 x2 x3 x4 HRW HS3 HU3
 generalize World.alloc W4 _=X4 at HS4 HU4 ⊢
 obtain⟨x0,x1,x2,x3,x4,x5⟩:=CX.out X4 HS4.out
 have HRW:=qh x5
 clear x5
 have hl2:qH (X4.alloc (.cells #[.int .i64 1, .int .i64 0, .int .i64 0, .int .i64 1, .int .i64 1, .int .i64 0] 32)) (.slice (some ⟨X4.heap.size,0,none⟩) 2 2) [⟨1,0,0⟩,⟨1,1,0⟩] :=zas (B:=0) ⟨rfl, .inr ⟨X4.heap.size,2,_,rfl,Nat.zero_le _,yh X4 _,Nat.le_refl _,by unfold maxLen;decide,rfl,rfl⟩⟩
 have HL2:=qh hl2
 have zlx:=qh (zh.below (xY.stays 1) HRW.out ((Below.refl X4.heap.size X4).alloc (Nat.le_refl _) (.cells #[.int .i64 1, .int .i64 0, .int .i64 0, .int .i64 1, .int .i64 1, .int .i64 0] 32)))
 clear hl2
 go_upto_region 6 with(go_at_call 34;go_must(refine(zyZ _ _ _ zlx.out _ HL2.out).mono ?_);rintro e W5 ⟨⟨p1,mb,mo,n1,k1,k2,bd,rfl,hmb,hmc⟩,hb⟩;have HMB:=qh hmb;have HMC:=qh hmc;have yx:=qh hb;clear hmb hmc hb)
 have hz:=yh W5 (.cells #[.slice p1 n1 k1, .slice (some ⟨mb,mo,none⟩) 2 k2, .bool bd] 30)
 have ha:=(Below.refl W5.heap.size W5).alloc (Nat.le_refl _) (.cells #[.slice p1 n1 k1, .slice (some ⟨mb,mo,none⟩) 2 k2, .bool bd] 30)
 have hc:=yx.out.trans (ha.mono yx.out.size)
 have hd:=((Below.refl X4.heap.size X4).alloc (Nat.le_refl _) (.cells #[.int .i64 1, .int .i64 0, .int .i64 0, .int .i64 1, .int .i64 1, .int .i64 0] 32)).trans (hc.mono (by simp))
 replace HMC:=qh (zi ha _ _ HMC.out)
 have HS5:=qh (zF HS4.out hd)
 have HU5:=qh (zF HU4.out hd)
 have HZ:=qh hz
 clear hz ha hc hd yx x0 x1 x2 x3 x4 HRW HS4 HU4 HL2 zlx HMB
 generalize World.alloc W5 _=X5 at HMC HS5 HU5 HZ ⊢
 generalize W5.heap.size=g9 at HZ ⊢
 have CM:Hid (∀y,Below X5.heap.size X5 y->y.cell? ⟨g9,1,none⟩=some (.slice (some ⟨mb,mo,none⟩) 2 k2)/\y.cell? ⟨mb,mo+1,none⟩=some (.int .i64 1)):=λy hy=>⟨zi hy _ _ (ze HZ.out 1),zi hy _ _ HMC.out⟩
 have HM5:Hid (Below X5.heap.size X5 X5):=Below.refl _ _
 clear HZ HMC
 obtain⟨x0,x1,x2,x3,x4,x5⟩:=CX.out X5 HS5.out
 have HRW:=qh x5
 clear x5
 have hl2:qH (X5.alloc (.cells #[.int .i64 2, .int .i64 0, .int .i64 0] 32)) (.slice (some ⟨X5.heap.size,0,none⟩) 1 1) [⟨2,0,0⟩] :=zas (B:=0) ⟨rfl, .inr ⟨X5.heap.size,1,_,rfl,Nat.zero_le _,yh X5 _,Nat.le_refl _,by unfold maxLen;decide,rfl,rfl⟩⟩
 have HL2:=qh hl2
 have zlx:=qh (zh.below (xY.stays 1) HRW.out ((Below.refl X5.heap.size X5).alloc (Nat.le_refl _) (.cells #[.int .i64 2, .int .i64 0, .int .i64 0] 32)))
 clear hl2
 go_upto_region 7 with(go_at_call 34;go_must(refine(zza _ _ _ zlx.out _ HL2.out).mono ?_);rintro e W6 ⟨⟨p5,p6,n5,k5,n6,k6,bd6,rfl⟩,hb⟩;have yx:=qh hb;clear hb)
 have hc:=yx.out.trans (((Below.refl W6.heap.size W6).alloc (Nat.le_refl _) (.cells #[.slice p5 n5 k5, .slice p6 n6 k6, .bool bd6] 30)).mono yx.out.size)
 have hd:=((Below.refl X5.heap.size X5).alloc (Nat.le_refl _) (.cells #[.int .i64 2, .int .i64 0, .int .i64 0] 32)).trans (hc.mono (by simp))
 have HS6:=qh (zF HS5.out hd)
 have HU6:=qh (zF HU5.out hd)
 have HM6:=qh (zF HM5.out hd)
 clear hc hd yx x0 x1 x2 x3 x4 HRW HS5 HU5 HM5 HL2 zlx
 generalize World.alloc W6 _=X6 at HS6 HU6 HM6 ⊢
 obtain⟨y0,y1,y2,y3⟩:=CS.out X6 HU6.out
 have HSP:=qh y3
 clear y3
 go_upto_region 8 with(go_at_call 39;go_must(refine(z1J _ _ _ _ _ _ _ _ HSP.out).mono ?_);rintro e X7 ⟨⟨tb,zxW,rfl,t0,t1,t2⟩,hb⟩;have yx:=qh hb;have T0:=qh t0;have T1:=qh t1;have T2:=qh t2;clear t0 t1 t2 hb)
 clear y0 y1 y2 HSP
 have HS7:=qh (zF HS6.out yx.out)
 have HU7:=qh (zF HU6.out yx.out)
 have HM7:=qh (zF HM6.out yx.out)
 clear yx HS6 HU6 HM6
 obtain⟨y0,y1,y2,y3⟩:=CS.out X7 HU7.out
 have HSP:=qh y3
 obtain⟨m0,m1⟩:=CM.out X7 HM7.out
 clear y3
 have t0:=T0.out
 have t1:=T1.out
 have t2:=T2.out
 go_wp2_with(go_at_call 31;go_must(refine(z1K _ _ _ _ _ _ _ _ HSP.out).mono ?_);rintro e X8 ⟨rfl,hb⟩;(have HB8:=qh hb);(have t0:=zi hb _ _ T0.out);(have t1:=zi hb _ _ T1.out);(have t2:=zi hb _ _ T2.out);clear hb)
 go_ret
 exact⟨rfl,HB1.out.trans ((zF HS7.out HB8.out).mono HB1.out.size)⟩
def ztL (S:xR) (er:Int) (n1 n2 n3:Nat) (w:World) (e:Ending) (w':World):Prop:=(∃(a1 a2 a3:Option Addr) (c1 c2 c3:Nat),e= .returned (.tuple #[.agg #[.slice a1 n1 c1, .slice a2 n2 c2, .slice a3 n3 c3], .int .i64 er])/\qp w' S (.slice a1 n1 c1) (.slice a2 n2 c2) (.slice a3 n3 c3))/\Below w.heap.size w w'
theorem zn5 {w w':World} {r:xR × Int} {S:xR} {er:Int} {n1 n2 n3:Nat} {e:Ending} (hr:r=(S,er)) (h1:n1=S.states.length) (h2:n2=S.moves.length) (h3:n3=S.next.length) (h:zd1 w r e w'):ztL S er n1 n2 n3 w e w':=by
 subst hr h1 h2 h3
 obtain⟨⟨sv,mv,nv,rfl,hs, -, -⟩,hb⟩:=h
 obtain⟨a1,c1,rfl, -⟩:=zh.slice hs.1
 obtain⟨a2,c2,rfl, -⟩:=zh.slice hs.2.1
 obtain⟨a3,c3,rfl, -⟩:=zh.slice hs.2.2
 exact⟨⟨a1,a2,a3,c1,c2,c3,rfl,hs⟩,hb⟩
theorem zrf (w:World) (S:xR) (a1 a2 a3 b1 b2 b3:Option Addr) (n1 n2 n3 m1 m2 m3 c1 c2 c3 d1 d2 d3:Nat) (ha:qp w S (.slice a1 n1 c1) (.slice a2 n2 c2) (.slice a3 n3 c3)) (hb:qp w S (.slice b1 m1 d1) (.slice b2 m2 d2) (.slice b3 m3 d3)):
  Calls Tryz.prog 30 #[.agg #[.slice a1 n1 c1, .slice a2 n2 c2, .slice a3 n3 c3], .agg #[.slice b1 m1 d1, .slice b2 m2 d2, .slice b3 m3 d3]] w λe w'=>e= .returned (.bool true)/\Below w.heap.size w w':=zoV w S _ _ _ _ _ _ ha hb
theorem zvZ {x:Int} (h:(Lit.int .u8 x).wf=true):0<=x/\x<=255:=by
 constructor
 ·simp [Lit.wf,IntKind.min,IntKind.max,IntKind.signed] at h;omega
 simp [Lit.wf,IntKind.min,IntKind.max,IntKind.signed,IntKind.bits] at h;omega
theorem zrg {x:Int} (h:(Lit.int .u16 x).wf=true):0<=x/\x<=65535:=by
 constructor
 ·simp [Lit.wf,IntKind.min,IntKind.max,IntKind.signed] at h;omega
 simp [Lit.wf,IntKind.min,IntKind.max,IntKind.signed,IntKind.bits] at h;omega
theorem zly (w:World) (l:List zl) (r:Int) (hr:zfO l r) (f:FuncId) (v:Value) (h:Calls Tryz.prog f #[v] w (zic w l)):Calls Tryz.prog f #[v] w λe w'=>e= .returned (.int .i64 r)/\Below w.heap.size w w':=h.mono λ_ _ ⟨q,he,hq,hb⟩=>⟨by rw [he,hq.one hr],hb⟩
theorem ztM (l:List zl):∃r,zfO l r:=by
 by_cases h:∀j,j<l.length->(l.getD j default).bad=false
 ·exact⟨-1, .inr ⟨rfl,h⟩⟩
 have:∃i,i<l.length/\(l.getD i default).bad=true:=by
  refine Classical.byContradiction λhc=>h λj hj=> ?_
  cases hb:(l.getD j default).bad with
  |false=>rfl
  |true=>exact absurd ⟨j,hj,hb⟩ hc
 obtain⟨i,hi,hb⟩:=this
 induction i using Nat.strongRecOn with
 |_ i ih=>
 by_cases hs:∃j,j<i/\(l.getD j default).bad=true
 ·obtain⟨j,hj,hjb⟩:=hs
  exact ih j hj (by omega) hjb
 refine⟨i, .inl ⟨i,hi,rfl,hb,λj hj=> ?_⟩⟩
 cases hjb:(l.getD j default).bad with
 |false=>rfl
 |true=>exact absurd ⟨j,hj,hjb⟩ hs
theorem zkg (w:World) (sv:Value) (l0:List Int) (hn:jG w .u8 sv l0) (hcap:∀a n c,sv= .slice a n c->n<=c) (q:Int) (q0:0<=q) (q1:q<=255) (room:Int) (r0:0<=room) (r1:room<=65535):
  Calls Tryz.prog 8 #[sv, .int .u8 q, .int .u16 room] w λe w'=>e= .returned (.bool true)/\Below w.heap.size w w':=by
 have HSM:=qh (zm9 w sv l0 hn hcap)
 obtain⟨sa,sc,rfl, -⟩:∃a c,sv= .slice a l0.length c/\True:=by obtain⟨a,c,h, -⟩:=hn;exact⟨a,c,h,trivial⟩
 generalize l0.length=ln at HSM ⊢
 clear hn hcap
 have zie:=λy=>zmA y q q0 q1
 unfold xB at zie
 obtain⟨M,hM⟩:∃M,M=zoW q:=⟨_,rfl⟩
 rw [<-hM] at zie
 clear hM
 obtain⟨mo,bo⟩:=M
 dsimp only at zie
 have z1M:=qh zie
 clear zie q0 q1
 go_enter Tryz.func8,Tryz.ntmps8
 go_upto_region 2 with(first|(go_at_call 27;go_must(refine(HSM.out).mono ?_);rintro en W1 ⟨⟨c,tv,rfl,hc,hok,hct⟩,hb⟩;(have HB1:=qh hb);(have HC1:=qh hc);(obtain⟨ca,cc,rfl, -⟩:=zh.slice hc);clear hb hc hok hct;unfold yK)|(go_at_call 22;go_must(refine(z1M.out _).mono ?_);rintro en W2 ⟨rfl,hb⟩;(have HB2:=qh hb);clear hb))
 have zen:=λr y hy=>zcl y c (.slice ca c.threads.length cc) 3 hy ⟨mo,bo⟩ r
 have zbQ:=λr y hy=>zm7 y c (.slice ca c.threads.length cc) 3 hy ⟨mo,bo⟩ r
 obtain⟨SX,hSX⟩:∃SX,SX=λr=>kE c ⟨mo,bo⟩ r 3:=⟨_,rfl⟩
 have zzd:∀r,kE c ⟨mo,bo⟩ r 3=SX r:=λr=>by rw [hSX]
 simp only [zzd] at zen zbQ
 clear hSX zzd
 unfold yK xB at zen zbQ
 dsimp only at zen zbQ
 generalize c.vars=vars at zen zbQ ⊢
 generalize c.domain=dom at zen zbQ ⊢
 generalize c.threads=cs at HC1 zen zbQ ⊢
 generalize cs.length=cn at HC1 zen zbQ ⊢
 clear c
 have HX1:Hid (∀r y,yT 3 y (.slice ca cn cc) cs->Calls Tryz.prog 28 #[.agg #[.int .i64 vars, .int .i64 dom, .slice ca cn cc], .agg #[.int .i64 mo, .int .i64 bo], .int .i64 r] y (ztL (SX r).1 (SX r).2 (SX r).1.states.length (SX r).1.moves.length (SX r).1.next.length y)):=λr y hy=>(zen r y hy).mono λ_ _ h=>zn5 rfl rfl rfl rfl h
 have HX2:Hid (∀r y,yT 3 y (.slice ca cn cc) cs->Calls Tryz.prog 29 #[.agg #[.int .i64 vars, .int .i64 dom, .slice ca cn cc], .agg #[.int .i64 mo, .int .i64 bo], .int .i64 r] y (ztL (SX r).1 (SX r).2 (SX r).1.states.length (SX r).1.moves.length (SX r).1.next.length y)):=λr y hy=>(zbQ r y hy).mono λ_ _ h=>zn5 rfl rfl rfl rfl h
 clear zen zbQ
 have ha:=xg W2 (.cells #[.int .i64 vars, .int .i64 dom, .slice ca cn cc] 24) (.cells #[.int .i64 mo, .int .i64 bo] 26)
 have hw1:=HB2.out.trans (ha.mono HB2.out.size)
 have HBV:=qh (HB1.out.trans (hw1.mono HB1.out.size))
 have HCV:=qh (zh.below (xY.stays 3) HC1.out hw1)
 have k1:((W2.alloc (.cells #[.int .i64 vars, .int .i64 dom, .slice ca cn cc] 24)).alloc (.cells #[.int .i64 mo, .int .i64 bo] 26)).heap[W2.heap.size]? =some (.cells #[.int .i64 vars, .int .i64 dom, .slice ca cn cc] 24 (0,0)):=(Below.heap_alloc _ _ _ (by simp)).trans (yh W2 _)
 have k2:((W2.alloc (.cells #[.int .i64 vars, .int .i64 dom, .slice ca cn cc] 24)).alloc (.cells #[.int .i64 mo, .int .i64 bo] 26)).heap[W2.heap.size+1]? =some (.cells #[.int .i64 mo, .int .i64 bo] 26 (0,0)):=by
  have:=yh (W2.alloc (.cells #[.int .i64 vars, .int .i64 dom, .slice ca cn cc] 24)) (.cells #[.int .i64 mo, .int .i64 bo] 26)
  rwa [World.size_alloc] at this
 have K1:=qh k1
 have K2:=qh k2
 clear ha hw1 k1 k2 HB1 HB2 HC1
 generalize World.alloc (World.alloc W2 _) _=V at HBV HCV K1 K2 ⊢
 generalize W2.heap.size=gc at K1 K2 ⊢
 have CX:Hid (∀y,Below V.heap.size V y->y.cell? ⟨gc,0,none⟩=some (.int .i64 vars)/\y.cell? ⟨gc,1,none⟩=some (.int .i64 dom)/\y.cell? ⟨gc,2,none⟩=some (.slice ca cn cc)/\y.cell? ⟨gc+1,0,none⟩=some (.int .i64 mo)/\y.cell? ⟨gc+1,1,none⟩=some (.int .i64 bo)/\yT 3 y (.slice ca cn cc) cs):=λy hy=>
  ⟨zi hy _ _ (ze K1.out 0),zi hy _ _ (ze K1.out 1),zi hy _ _ (ze K1.out 2),zi hy _ _ (ze K2.out 0),zi hy _ _ (ze K2.out 1),zh.below (xY.stays 3) HCV.out hy⟩
 clear K1 K2 HCV
 go_cut [23,24,25] (λs23 s24 s25 w'=>∃(b of:Nat),s23= .slice (some ⟨b,of,none⟩) 2 2/\s24= .int .i64 2/\s25= .int .i64 0/\Hid (∀j,j<2->∃r,w'.cell? ⟨b,of+j,none⟩=some (.int .i64 r))/\Hid (Below V.heap.size V w'))
 case first=>
  go_wp2_with fail
  go_meet
  case rel=>
  refine⟨_,0,rfl,rfl,rfl,λj hj=> ?_,(Below.refl _ V).alloc (Nat.le_refl _) _⟩
  rw [ze (yh V _),Nat.zero_add]
  rcases(show j=0\/j=1 by omega) with rfl|rfl
  ·exact⟨_,rfl⟩
  exact⟨_,rfl⟩
 case rest=>
 obtain⟨b,of,rfl,rfl,rfl,HCE,HBC⟩:=hcut
 obtain⟨Z,rfl⟩:∃Z:World,Z=wc:=⟨_,rfl⟩
 clear r0 r1
 go_wp2_with fail
 go_loopg [25] 2 (λgg s25 wr=>∃i:Nat,i<=2/\Hid (gg=2 - i)/\s25= .int .i64 i/\Hid (Below Z.heap.size Z wr))
 case atStart=>exact⟨0,Nat.zero_le _,rfl,rfl,Below.refl _ _⟩
 case round=>
 obtain⟨i,hi,HG,rfl,HZR⟩:=hrel
 obtain⟨X4,rfl⟩:∃X:World,X=wr:=⟨_,rfl⟩
 by_cases hlt:i<2
 rotate_left
 ·obtain rfl:i=2:=by omega
  go_wp2_with(go_at_call 33;go_must(refine(zm8 _).mono ?_);rintro e Y ⟨rfl,hb⟩;(have HA:=qh hb);clear hb)
  go_ret
  exact⟨rfl,HBV.out.trans (((zF HBC.out HZR.out).trans (HA.out.mono (zF HBC.out HZR.out).size)).mono HBV.out.size)⟩
 have qx:(i:Int)<2:=by omega
 obtain⟨r,hr⟩:=HCE.out i hlt
 have hr4:=zi HZR.out _ _ hr
 clear hr
 obtain⟨S,hS⟩:∃S,S=(SX r).1:=⟨_,rfl⟩
 obtain⟨er,her⟩:∃e,e=(SX r).2:=⟨_,rfl⟩
 have hx1:=HX1.out r
 have hx2:=HX2.out r
 rw [<-hS, <-her] at hx1 hx2
 clear hS her
 obtain⟨n1,hn1⟩:∃n,n=S.states.length:=⟨_,rfl⟩
 obtain⟨n2,hn2⟩:∃n,n=S.moves.length:=⟨_,rfl⟩
 obtain⟨n3,hn3⟩:∃n,n=S.next.length:=⟨_,rfl⟩
 rw [<-hn1, <-hn2, <-hn3] at hx1 hx2
 clear hn1 hn2 hn3
 have gy:=qh hx1
 have HY2:=qh hx2
 obtain⟨bd,hbd⟩:=ztM S.states
 have gU:=qh hbd
 clear hx1 hx2 hbd
 have HV4:=qh (zF HBC.out HZR.out)
 go_upto_region 5 with fail
 clear hr4
 obtain⟨z0,z1,z2,x0,x1,hx⟩:=CX.out X4 HV4.out
 have HRW:=qh hx
 clear hx
 go_upto_region 6 with(go_at_call 28;go_must(refine(gy.out _ HRW.out).mono ?_);rintro e W5 ⟨⟨a1p,a2p,a3p,c1p,c2p,c3p,rfl,hs⟩,hb⟩;(have HSP:=qh hs);(have yx:=qh hb);clear hs hb)
 have hz:=yh W5 (.cells #[.slice a1p n1 c1p, .slice a2p n2 c2p, .slice a3p n3 c3p] 71)
 have ha:=(Below.refl W5.heap.size W5).alloc (Nat.le_refl _) (.cells #[.slice a1p n1 c1p, .slice a2p n2 c2p, .slice a3p n3 c3p] 71)
 have hs:=HSP.out.below ha
 have hd:=yx.out.trans (ha.mono yx.out.size)
 have HV5:=qh (zF HV4.out hd)
 have HR5:=qh (zF HZR.out hd)
 have HZ:=qh hz
 have HS:=qh hs
 clear hz ha hs hd yx HSP z0 z1 z2 x0 x1 HRW HV4
 generalize World.alloc W5 _=X5 at HZ HS HV5 HR5 ⊢
 generalize W5.heap.size=g5 at HZ ⊢
 have CSp:Hid (∀y,Below X5.heap.size X5 y->y.cell? ⟨g5,0,none⟩=some (.slice a1p n1 c1p)/\y.cell? ⟨g5,1,none⟩=some (.slice a2p n2 c2p)/\y.cell? ⟨g5,2,none⟩=some (.slice a3p n3 c3p)/\qp y S (.slice a1p n1 c1p) (.slice a2p n2 c2p) (.slice a3p n3 c3p)):=λy hy=>⟨zi hy _ _ (ze HZ.out 0),zi hy _ _ (ze HZ.out 1),zi hy _ _ (ze HZ.out 2),HS.out.below hy⟩
 have HU5:Hid (Below X5.heap.size X5 X5):=Below.refl _ _
 clear HZ HS
 obtain⟨z0,z1,z2,x0,x1,hx⟩:=CX.out X5 HV5.out
 have HRW:=qh hx
 clear hx
 go_upto_region 7 with(go_at_call 29;go_must(refine(HY2.out _ HRW.out).mono ?_);rintro e W6 ⟨⟨a1q,a2q,a3q,c1q,c2q,c3q,rfl,hs⟩,hb⟩;(have HSP:=qh hs);(have yx:=qh hb);clear hs hb)
 have hz:=yh W6 (.cells #[.slice a1q n1 c1q, .slice a2q n2 c2q, .slice a3q n3 c3q] 71)
 have ha:=(Below.refl W6.heap.size W6).alloc (Nat.le_refl _) (.cells #[.slice a1q n1 c1q, .slice a2q n2 c2q, .slice a3q n3 c3q] 71)
 have hs:=HSP.out.below ha
 have hd:=yx.out.trans (ha.mono yx.out.size)
 have HV6:=qh (zF HV5.out hd)
 have HR6:=qh (zF HR5.out hd)
 have HU6:=qh (zF HU5.out hd)
 have HZ:=qh hz
 have HS:=qh hs
 clear hz ha hs hd yx HSP z0 z1 z2 x0 x1 HRW HV5 HR5 HU5
 generalize World.alloc W6 _=X6 at HZ HS HV6 HR6 HU6 ⊢
 generalize W6.heap.size=g6 at HZ ⊢
 have CSq:Hid (∀y,Below X6.heap.size X6 y->y.cell? ⟨g6,0,none⟩=some (.slice a1q n1 c1q)/\y.cell? ⟨g6,1,none⟩=some (.slice a2q n2 c2q)/\y.cell? ⟨g6,2,none⟩=some (.slice a3q n3 c3q)/\qp y S (.slice a1q n1 c1q) (.slice a2q n2 c2q) (.slice a3q n3 c3q)):=λy hy=>⟨zi hy _ _ (ze HZ.out 0),zi hy _ _ (ze HZ.out 1),zi hy _ _ (ze HZ.out 2),HS.out.below hy⟩
 clear HZ HS
 have CC:Hid (∀y,Below X6.heap.size X6 y->(y.cell? ⟨g5,0,none⟩=some (.slice a1p n1 c1p)/\y.cell? ⟨g5,1,none⟩=some (.slice a2p n2 c2p)/\y.cell? ⟨g5,2,none⟩=some (.slice a3p n3 c3p))/\y.cell? ⟨g6,0,none⟩=some (.slice a1q n1 c1q)/\y.cell? ⟨g6,1,none⟩=some (.slice a2q n2 c2q)/\y.cell? ⟨g6,2,none⟩=some (.slice a3q n3 c3q)):=λy hy=>by
  obtain⟨p0,p1,p2, -⟩:=CSp.out y (zF HU6.out hy)
  obtain⟨q0,q1,q2, -⟩:=CSq.out y hy
  exact⟨⟨p0,p1,p2⟩,q0,q1,q2⟩
 have CP:Hid (∀y,Below X6.heap.size X6 y->qp y S (.slice a1p n1 c1p) (.slice a2p n2 c2p) (.slice a3p n3 c3p)/\qp y S (.slice a1q n1 c1q) (.slice a2q n2 c2q) (.slice a3q n3 c3q)):=λy hy=>⟨(CSp.out y (zF HU6.out hy)).2.2.2,(CSq.out y hy).2.2.2⟩
 refine qL (S:=λx=>Below X6.heap.size X6 x) ((Below.refl _ _).drew) (λhH=> ?_)
 refine zo 0 CC.out ?_
 refine zo 1 CC.out ?_
 refine yu 2 rfl (λK hK=> ?_)
 go_simp
 refine(zrf X6.drew S _ _ _ _ _ _ _ _ _ _ _ _ _ _ _ _ _ _ (CP.out _ hH).1 (CP.out _ hH).2).mono ?_
 rintro e hw2 ⟨rfl,hb⟩
 have zoX:Below X6.heap.size X6 hw2:=zF hH hb
 refine hK.out _ _ zoX (λ_=> ?_)
 clear hK K hb hH
 refine zo 3 CC.out ?_
 refine zo 4 CC.out ?_
 refine zo 5 CC.out ?_
 refine zo 6 CC.out ?_
 refine zo 7 CC.out ?_
 refine zo 8 CC.out ?_
 refine zo 9 CC.out ?_
 refine zo 10 CC.out ?_
 refine zo 12 CC.out ?_
 refine yu 11 rfl (λK hK=> ?_)
 go_simp
 refine(zly hw2 S.states bd gU.out _ _ (zlv hw2 S _ _ _ (CP.out _ zoX).1)).mono ?_
 rintro e zat ⟨rfl,hb⟩
 have zbh:Below X6.heap.size X6 zat:=zF zoX hb
 refine hK.out _ _ zbh (λ_=> ?_)
 clear hK K hb zoX
 refine yu 13 rfl (λK hK=> ?_)
 go_simp
 refine(zly zat S.states bd gU.out _ _ (zqZ zat S _ _ _ (CP.out _ zbh).2)).mono ?_
 rintro e z4U ⟨rfl,hb⟩
 have zwb:Below X6.heap.size X6 z4U:=zF zbh hb
 refine hK.out _ _ zwb (λ_=> ?_)
 clear hK K hb zbh
 refine zo 14 CC.out ?_
 refine zo 15 CC.out ?_
 refine xJ ?_
 go_wp2_with fail
 go_roundg (2 - (i+1))
 case measure=>rw [HG.out];omega
 case rel=>exact⟨i+1,by omega,rfl,by simp,zF HR6.out zwb⟩
