/- Steps. -/
import Derived.Test.YtliajkheeniljaaGreatDoorZtClosedP
import Derived.Test.YtliajkheeniljaaGreatDoorZtPSpace
set_option linter.all false
namespace Go.Proofs.YtliajkheeniljaaGreatDoor
open Go.RowKit
set_option maxRecDepth 100000
set_option maxHeartbeats 16000000
def zaS:zC:=⟨0,1⟩
def je:yX:=(qx qK zaS 100 1).1
def zmv:Bool:=decide ((qx qK zaS 100 1).2=0) && decide (4<je.states.length) && decide (je.states.length<=100) && decide (je.next.length=je.states.length) && decide (je.moves.length=je.states.length) && je.states.all (λs=> !s.bad) && decide (xS je 1 1= [⟨1,0,0⟩])
theorem zsW:zmv=true:=by decide+kernel
theorem z1K:(qx qK zaS 3 1).2=40:=by decide+kernel
theorem z1L:(qx qK zaS 0 1).2=1:=by decide+kernel
theorem z1M:(jO qK zaS [⟨1,0,0⟩,⟨1,1,0⟩] 1).2=0/\(jO qK zaS [⟨1,0,0⟩,⟨1,1,0⟩] 1).1.mem.length=2/\(jO qK zaS [⟨1,0,0⟩,⟨1,1,0⟩] 1).1.mem.getD 1 0=1:=by decide+kernel
theorem z1N:(jO qK zaS [⟨2,0,0⟩] 1).2=50:=by decide+kernel
structure zyd:Prop where
 e:(qx qK zaS 100 1).2=0
 many:4<je.states.length
 few:je.states.length<=100
 next:je.next.length=je.states.length
 moves:je.moves.length=je.states.length
 calm:∀j,j<je.states.length->(je.states.getD j default).bad=false
 trail:xS je 1 1= [⟨1,0,0⟩]
theorem zeE:zyd:=by
 have h:=zsW
 unfold zmv at h
 simp only [Bool.and_eq_true,decide_eq_true_eq] at h
 obtain⟨⟨⟨⟨⟨⟨h1,h2⟩,h3⟩,h4⟩,h5⟩,h6⟩,h7⟩:=h
 refine⟨h1,h2,h3,h4,h5,λj hj=> ?_,h7⟩
 have:=List.all_eq_true.1 h6 _ (qJ (x:=default) hj)
 simpa using this
def z2Q (n:Nat) (w:World) (e:Ending) (w':World):Prop:=(∃(a1 a2 a3:Option Addr) (c1 c2 c3:Nat),e= .returned (.tuple #[.agg #[.slice a1 n c1, .slice a2 n c2, .slice a3 n c3], .int .i64 0])/\jE w' je (.slice a1 n c1) (.slice a2 n c2) (.slice a3 n c3))/\Below w.heap.size w w'
def z2R (k:Int) (w:World) (e:Ending) (w':World):Prop:=(∃(a1 a2 a3:Option Addr) (n1 n2 n3 c1 c2 c3:Nat),e= .returned (.tuple #[.agg #[.slice a1 n1 c1, .slice a2 n2 c2, .slice a3 n3 c3], .int .i64 k]))/\Below w.heap.size w w'
theorem z1O (w:World) (ta:Option Addr) (tc n:Nat) (hn:n=je.states.length) (h:yE 1 w (.slice ta 2 tc) qK.threads):Calls Tryz.prog 28 #[.agg #[.int .i64 2, .int .i64 2, .slice ta 2 tc], .agg #[.int .i64 0, .int .i64 1], .int .i64 100] w (z2Q n w):=by
 refine(zcj w qK _ 1 h zaS 100).mono ?_
 rintro e w' ⟨⟨sv,mv,nv,rfl,hs, -, -⟩,hb⟩
 have d:=zeE
 rw [d.e]
 have hs2:jE w' je sv mv nv:=hs
 obtain⟨a1,c1,rfl, -⟩:=zh.slice hs2.1
 obtain⟨a2,c2,rfl, -⟩:=zh.slice hs2.2.1
 obtain⟨a3,c3,rfl, -⟩:=zh.slice hs2.2.2
 rw [d.moves,d.next, <-hn] at hs2 ⊢
 exact⟨⟨a1,a2,a3,c1,c2,c3,rfl,hs2⟩,hb⟩
theorem zsX (w:World) (ta:Option Addr) (tc:Nat) (r k:Int) (hk:(qx qK zaS r 1).2=k) (h:yE 1 w (.slice ta 2 tc) qK.threads):Calls Tryz.prog 28 #[.agg #[.int .i64 2, .int .i64 2, .slice ta 2 tc], .agg #[.int .i64 0, .int .i64 1], .int .i64 r] w (z2R k w):=by
 refine(zcj w qK _ 1 h zaS r).mono ?_
 rintro e w' ⟨⟨sv,mv,nv,rfl,hs, -, -⟩,hb⟩
 rw [hk]
 obtain⟨a1,c1,rfl, -⟩:=zh.slice hs.1
 obtain⟨a2,c2,rfl, -⟩:=zh.slice hs.2.1
 obtain⟨a3,c3,rfl, -⟩:=zh.slice hs.2.2
 exact⟨⟨a1,a2,a3,_,_,_,c1,c2,c3,rfl⟩,hb⟩
def z2S (w:World) (e:Ending) (w':World):Prop:=(∃(a:Option Addr) (b o n c f:Nat) (bd:Bool),e= .returned (.tuple #[.agg #[.slice a n c, .slice (some ⟨b,o,none⟩) 2 f, .bool bd], .int .i64 0])/\b<w'.heap.size/\w'.cell? ⟨b,o+1,none⟩=some (.int .i64 1))/\Below w.heap.size w w'
def z2T (k:Int) (w:World) (e:Ending) (w':World):Prop:=(∃(a b:Option Addr) (n c m f:Nat) (bd:Bool),e= .returned (.tuple #[.agg #[.slice a n c, .slice b m f, .bool bd], .int .i64 k]))/\Below w.heap.size w w'
theorem z1P (w:World) (ta:Option Addr) (tc:Nat) (h:yE 1 w (.slice ta 2 tc) qK.threads) (lv:Value) (hl:qO w lv [⟨1,0,0⟩,⟨1,1,0⟩]):Calls Tryz.prog 34 #[.agg #[.int .i64 2, .int .i64 2, .slice ta 2 tc], .agg #[.int .i64 0, .int .i64 1],lv] w (z2S w):=by
 refine(zgA w qK _ 1 h zaS lv _ hl).mono ?_
 rintro e w' ⟨⟨a,b,n,c,k,f,rfl,hs⟩,hb⟩
 obtain⟨e1,e2,e3⟩:=z1M
 have hm:=hs.mem
 obtain⟨_,_,q, -⟩:=zh.slice hm
 cases q
 obtain⟨eb,eo,rfl,hbl,z0⟩:=xQ.part hm 1 (by rw [e2];decide)
 rw [e3] at z0
 rw [e1,e2]
 exact⟨⟨a,eb,eo,n,c,f,_,rfl,hbl,z0⟩,hb⟩
theorem z1Q (w:World) (ta:Option Addr) (tc:Nat) (h:yE 1 w (.slice ta 2 tc) qK.threads) (lv:Value) (hl:qO w lv [⟨2,0,0⟩]):Calls Tryz.prog 34 #[.agg #[.int .i64 2, .int .i64 2, .slice ta 2 tc], .agg #[.int .i64 0, .int .i64 1],lv] w (z2T 50 w):=by
 refine(zgA w qK _ 1 h zaS lv _ hl).mono ?_
 rintro e w' ⟨⟨a,b,n,c,k,f,rfl,hs⟩,hb⟩
 rw [z1N]
 exact⟨⟨a,b,n,c,k,f,_,rfl⟩,hb⟩
def z2U (w:World) (e:Ending) (w':World):Prop:=(∃(b c:Nat),e= .returned (.slice (some ⟨b,0,none⟩) 1 c)/\w'.cell? ⟨b,0,none⟩=some (.int .i64 1)/\w'.cell? ⟨b,1,none⟩=some (.int .i64 0)/\w'.cell? ⟨b,2,none⟩=some (.int .i64 0))/\Below w.heap.size w w'
theorem z2V (w:World) (a1 a2 a3:Option Addr) (n c1 c2 c3:Nat) (h:jE w je (.slice a1 n c1) (.slice a2 n c2) (.slice a3 n c3)):Calls Tryz.prog 39 #[.agg #[.slice a1 n c1, .slice a2 n c2, .slice a3 n c3], .int .i64 1] w (z2U w):=by
 have d:=zeE
 have hc:=zh1 w je _ _ _ h d.moves d.next 1 (by have:=d.many;omega) (by have:=d.few;omega)
 rw [show((1:Nat):Int)=1 from rfl,d.trail] at hc
 refine hc.mono ?_
 rintro e w' ⟨sv,rfl,hr,hb⟩
 obtain⟨g,cap,rfl, -, -⟩:=wR hr (by decide)
 exact⟨⟨g,cap,rfl,hr.cellAt 0 (by decide),hr.cellAt 1 (by decide),hr.cellAt 2 (by decide)⟩,hb⟩
theorem z2W (w:World) (a1 a2 a3:Option Addr) (n c1 c2 c3:Nat) (h:jE w je (.slice a1 n c1) (.slice a2 n c2) (.slice a3 n c3)):Calls Tryz.prog 31 #[.agg #[.slice a1 n c1, .slice a2 n c2, .slice a3 n c3]] w λe w'=>e= .returned (.int .i64 (-1))/\Below w.heap.size w w':=by
 refine(zuC w je _ _ _ h).mono ?_
 rintro e w' ⟨r,rfl,hr,hb⟩
 obtain rfl:r= -1:=hr.one (.inr ⟨rfl,zeE.calm⟩)
 exact⟨rfl,hb⟩
theorem z2X (w:World):Calls Tryz.prog 41 #[] w λe w'=>(∃(ta:Option Addr) (tc:Nat),e= .returned (.agg #[.int .i64 2, .int .i64 2, .slice ta 2 tc])/\yE 1 w' (.slice ta 2 tc) qK.threads)/\Below w.heap.size w w':=by
 refine(zpj w).mono ?_
 rintro e w' ⟨⟨tv,rfl,ht⟩,hb⟩
 obtain⟨ta,tc,rfl, -⟩:=zh.slice ht
 exact⟨⟨ta,tc,rfl,ht⟩,hb⟩
theorem zmF (w:World):Calls Tryz.prog 33 #[] w λe w'=>e= .returned (.bool true)/\Below w.heap.size w w':=by
 obtain⟨n,hn⟩:∃n,n=je.states.length:=⟨_,rfl⟩
 have h4:(4:Int)<(n:Int):=by have:=zeE.many;omega
 have HN:=qh hn
 clear hn
 go_enter Tryz.func33,Tryz.ntmps33
 go_upto_region 2 with(go_at_call 41;go_must(refine(z2X _).mono ?_);rintro e W1 ⟨⟨ta,tc,rfl,ht⟩,hb⟩;have HT1:=qh ht;have HB0:=qh hb;clear ht hb)
 have HB1:=qh (HB0.out.trans ((xA W1 (.cells #[.int .i64 2, .int .i64 2, .slice ta 2 tc] 24) (.cells #[.int .i64 0, .int .i64 1] 26)).mono HB0.out.size))
 have HT2:=qh (zh.below (qm.stays 1) HT1.out (xA W1 (.cells #[.int .i64 2, .int .i64 2, .slice ta 2 tc] 24) (.cells #[.int .i64 0, .int .i64 1] 26)))
 have q1:((W1.alloc (.cells #[.int .i64 2, .int .i64 2, .slice ta 2 tc] 24)).alloc (.cells #[.int .i64 0, .int .i64 1] 26)).heap[W1.heap.size]? =some (.cells #[.int .i64 2, .int .i64 2, .slice ta 2 tc] 24 (0,0)):=(Below.heap_alloc _ _ _ (by simp)).trans (yh W1 _)
 have q2:((W1.alloc (.cells #[.int .i64 2, .int .i64 2, .slice ta 2 tc] 24)).alloc (.cells #[.int .i64 0, .int .i64 1] 26)).heap[W1.heap.size+1]? =some (.cells #[.int .i64 0, .int .i64 1] 26 (0,0)):=by
  have:=yh (W1.alloc (.cells #[.int .i64 2, .int .i64 2, .slice ta 2 tc] 24)) (.cells #[.int .i64 0, .int .i64 1] 26)
  rwa [World.size_alloc] at this
 have Q1:=qh q1
 have Q2:=qh q2
 clear q1 q2 HT1 HB0
 generalize World.alloc (World.alloc W1 _) _=X1 at HB1 HT2 Q1 Q2 ⊢
 generalize W1.heap.size=g1 at Q1 Q2 ⊢
 have CX:Hid (∀y,Below X1.heap.size X1 y->y.cell? ⟨g1,0,none⟩=some (.int .i64 2)/\y.cell? ⟨g1,1,none⟩=some (.int .i64 2)/\y.cell? ⟨g1,2,none⟩=some (.slice ta 2 tc)/\y.cell? ⟨g1+1,0,none⟩=some (.int .i64 0)/\y.cell? ⟨g1+1,1,none⟩=some (.int .i64 1)/\yE 1 y (.slice ta 2 tc) qK.threads):=λy hy=>
  ⟨zk hy _ _ (ze Q1.out 0),zk hy _ _ (ze Q1.out 1),zk hy _ _ (ze Q1.out 2),zk hy _ _ (ze Q2.out 0),zk hy _ _ (ze Q2.out 1),zh.below (qm.stays 1) HT2.out hy⟩
 have qV:Hid (Below X1.heap.size X1 X1):=Below.refl _ _
 clear HT2 Q1 Q2
 obtain⟨x0,x1,x2,x3,x4,x5⟩:=CX.out X1 qV.out
 have HRW:=qh x5
 clear x5
 go_upto_region 3 with(go_at_call 28;go_must(refine(z1O _ _ _ n HN.out HRW.out).mono ?_);rintro e W2 ⟨⟨a1,a2,a3,c1,c2,c3,rfl,hs⟩,hb⟩;have HSP:=qh hs;have yA:=qh hb;clear hs hb)
 have hz:=yh W2 (.cells #[.slice a1 n c1, .slice a2 n c2, .slice a3 n c3] 71)
 have ha:=(Below.refl W2.heap.size W2).alloc (Nat.le_refl _) (.cells #[.slice a1 n c1, .slice a2 n c2, .slice a3 n c3] 71)
 replace HSP:=qh (HSP.out.below ha)
 have HS2:=qh (zF qV.out (yA.out.trans (ha.mono yA.out.size)))
 have HZ:=qh hz
 clear hz ha yA x0 x1 x2 x3 x4 HRW
 generalize World.alloc W2 _=X2 at HSP HS2 HZ ⊢
 generalize W2.heap.size=g3 at HZ ⊢
 have CS:Hid (∀y,Below X2.heap.size X2 y->y.cell? ⟨g3,0,none⟩=some (.slice a1 n c1)/\y.cell? ⟨g3,1,none⟩=some (.slice a2 n c2)/\y.cell? ⟨g3,2,none⟩=some (.slice a3 n c3)/\jE y je (.slice a1 n c1) (.slice a2 n c2) (.slice a3 n c3)):=λy hy=>
  ⟨zk hy _ _ (ze HZ.out 0),zk hy _ _ (ze HZ.out 1),zk hy _ _ (ze HZ.out 2),HSP.out.below hy⟩
 have HU2:Hid (Below X2.heap.size X2 X2):=Below.refl _ _
 clear HZ HSP
 obtain⟨x0,x1,x2,x3,x4,x5⟩:=CX.out X2 HS2.out
 have HRW:=qh x5
 clear x5
 go_upto_region 4 with(go_at_call 28;go_must(refine(zsX _ _ _ 3 40 z1K HRW.out).mono ?_);rintro e W3 ⟨⟨p1,p2,p3,n1,n2,n3,k1,k2,k3,rfl⟩,hb⟩;have yA:=qh hb;clear hb)
 have ha:=yA.out.trans (((Below.refl W3.heap.size W3).alloc (Nat.le_refl _) (.cells #[.slice p1 n1 k1, .slice p2 n2 k2, .slice p3 n3 k3] 71)).mono yA.out.size)
 have HS3:=qh (zF HS2.out ha)
 have HU3:=qh (zF HU2.out ha)
 clear ha yA x0 x1 x2 x3 x4 HRW HS2 HU2
 generalize World.alloc W3 _=X3 at HS3 HU3 ⊢
 obtain⟨x0,x1,x2,x3,x4,x5⟩:=CX.out X3 HS3.out
 have HRW:=qh x5
 clear x5
 go_upto_region 5 with(go_at_call 28;go_must(refine(zsX _ _ _ 0 1 z1L HRW.out).mono ?_);rintro e W4 ⟨⟨p1,p2,p3,n1,n2,n3,k1,k2,k3,rfl⟩,hb⟩;have yA:=qh hb;clear hb)
 have ha:=yA.out.trans (((Below.refl W4.heap.size W4).alloc (Nat.le_refl _) (.cells #[.slice p1 n1 k1, .slice p2 n2 k2, .slice p3 n3 k3] 71)).mono yA.out.size)
 have HS4:=qh (zF HS3.out ha)
 have HU4:=qh (zF HU3.out ha)
 clear ha yA x0 x1 x2 x3 x4 HRW HS3 HU3
 generalize World.alloc W4 _=X4 at HS4 HU4 ⊢
 obtain⟨x0,x1,x2,x3,x4,x5⟩:=CX.out X4 HS4.out
 have HRW:=qh x5
 clear x5
 have hl2:qO (X4.alloc (.cells #[.int .i64 1, .int .i64 0, .int .i64 0, .int .i64 1, .int .i64 1, .int .i64 0] 32)) (.slice (some ⟨X4.heap.size,0,none⟩) 2 2) [⟨1,0,0⟩,⟨1,1,0⟩] :=bH (B:=0) ⟨rfl, .inr ⟨X4.heap.size,2,_,rfl,Nat.zero_le _,yh X4 _,Nat.le_refl _,by unfold maxLen;decide,rfl,rfl⟩⟩
 have HL2:=qh hl2
 have zmw:=qh (zh.below (qm.stays 1) HRW.out ((Below.refl X4.heap.size X4).alloc (Nat.le_refl _) (.cells #[.int .i64 1, .int .i64 0, .int .i64 0, .int .i64 1, .int .i64 1, .int .i64 0] 32)))
 clear hl2
 go_upto_region 6 with(go_at_call 34;go_must(refine(z1P _ _ _ zmw.out _ HL2.out).mono ?_);rintro e W5 ⟨⟨p1,mb,mo,n1,k1,k2,bd,rfl,hmb,hmc⟩,hb⟩;have HMB:=qh hmb;have HMC:=qh hmc;have yA:=qh hb;clear hmb hmc hb)
 have hz:=yh W5 (.cells #[.slice p1 n1 k1, .slice (some ⟨mb,mo,none⟩) 2 k2, .bool bd] 30)
 have ha:=(Below.refl W5.heap.size W5).alloc (Nat.le_refl _) (.cells #[.slice p1 n1 k1, .slice (some ⟨mb,mo,none⟩) 2 k2, .bool bd] 30)
 have hc:=yA.out.trans (ha.mono yA.out.size)
 have hd:=((Below.refl X4.heap.size X4).alloc (Nat.le_refl _) (.cells #[.int .i64 1, .int .i64 0, .int .i64 0, .int .i64 1, .int .i64 1, .int .i64 0] 32)).trans (hc.mono (by simp))
 replace HMC:=qh (zk ha _ _ HMC.out)
 have HS5:=qh (zF HS4.out hd)
 have HU5:=qh (zF HU4.out hd)
 have HZ:=qh hz
 clear hz ha hc hd yA x0 x1 x2 x3 x4 HRW HS4 HU4 HL2 zmw HMB
 generalize World.alloc W5 _=X5 at HMC HS5 HU5 HZ ⊢
 generalize W5.heap.size=g9 at HZ ⊢
 have CM:Hid (∀y,Below X5.heap.size X5 y->y.cell? ⟨g9,1,none⟩=some (.slice (some ⟨mb,mo,none⟩) 2 k2)/\y.cell? ⟨mb,mo+1,none⟩=some (.int .i64 1)):=λy hy=>⟨zk hy _ _ (ze HZ.out 1),zk hy _ _ HMC.out⟩
 have HM5:Hid (Below X5.heap.size X5 X5):=Below.refl _ _
 clear HZ HMC
 obtain⟨x0,x1,x2,x3,x4,x5⟩:=CX.out X5 HS5.out
 have HRW:=qh x5
 clear x5
 have hl2:qO (X5.alloc (.cells #[.int .i64 2, .int .i64 0, .int .i64 0] 32)) (.slice (some ⟨X5.heap.size,0,none⟩) 1 1) [⟨2,0,0⟩] :=bH (B:=0) ⟨rfl, .inr ⟨X5.heap.size,1,_,rfl,Nat.zero_le _,yh X5 _,Nat.le_refl _,by unfold maxLen;decide,rfl,rfl⟩⟩
 have HL2:=qh hl2
 have zmw:=qh (zh.below (qm.stays 1) HRW.out ((Below.refl X5.heap.size X5).alloc (Nat.le_refl _) (.cells #[.int .i64 2, .int .i64 0, .int .i64 0] 32)))
 clear hl2
 go_upto_region 7 with(go_at_call 34;go_must(refine(z1Q _ _ _ zmw.out _ HL2.out).mono ?_);rintro e W6 ⟨⟨p5,p6,n5,k5,n6,k6,bd6,rfl⟩,hb⟩;have yA:=qh hb;clear hb)
 have hc:=yA.out.trans (((Below.refl W6.heap.size W6).alloc (Nat.le_refl _) (.cells #[.slice p5 n5 k5, .slice p6 n6 k6, .bool bd6] 30)).mono yA.out.size)
 have hd:=((Below.refl X5.heap.size X5).alloc (Nat.le_refl _) (.cells #[.int .i64 2, .int .i64 0, .int .i64 0] 32)).trans (hc.mono (by simp))
 have HS6:=qh (zF HS5.out hd)
 have HU6:=qh (zF HU5.out hd)
 have HM6:=qh (zF HM5.out hd)
 clear hc hd yA x0 x1 x2 x3 x4 HRW HS5 HU5 HM5 HL2 zmw
 generalize World.alloc W6 _=X6 at HS6 HU6 HM6 ⊢
 obtain⟨y0,y1,y2,y3⟩:=CS.out X6 HU6.out
 have HSP:=qh y3
 clear y3
 go_upto_region 8 with(go_at_call 39;go_must(refine(z2V _ _ _ _ _ _ _ _ HSP.out).mono ?_);rintro e X7 ⟨⟨tb,z1B,rfl,t0,t1,t2⟩,hb⟩;have yA:=qh hb;have T0:=qh t0;have T1:=qh t1;have T2:=qh t2;clear t0 t1 t2 hb)
 clear y0 y1 y2 HSP
 have HS7:=qh (zF HS6.out yA.out)
 have HU7:=qh (zF HU6.out yA.out)
 have HM7:=qh (zF HM6.out yA.out)
 clear yA HS6 HU6 HM6
 obtain⟨y0,y1,y2,y3⟩:=CS.out X7 HU7.out
 have HSP:=qh y3
 obtain⟨m0,m1⟩:=CM.out X7 HM7.out
 clear y3
 have t0:=T0.out
 have t1:=T1.out
 have t2:=T2.out
 go_wp2_with(go_at_call 31;go_must(refine(z2W _ _ _ _ _ _ _ _ HSP.out).mono ?_);rintro e X8 ⟨rfl,hb⟩;(have HB8:=qh hb);(have t0:=zk hb _ _ T0.out);(have t1:=zk hb _ _ T1.out);(have t2:=zk hb _ _ T2.out);clear hb)
 go_ret
 exact⟨rfl,HB1.out.trans ((zF HS7.out HB8.out).mono HB1.out.size)⟩
def zyt (S:yX) (er:Int) (n1 n2 n3:Nat) (w:World) (e:Ending) (w':World):Prop:=(∃(a1 a2 a3:Option Addr) (c1 c2 c3:Nat),e= .returned (.tuple #[.agg #[.slice a1 n1 c1, .slice a2 n2 c2, .slice a3 n3 c3], .int .i64 er])/\jE w' S (.slice a1 n1 c1) (.slice a2 n2 c2) (.slice a3 n3 c3))/\Below w.heap.size w w'
theorem zx1 {w w':World} {r:yX × Int} {S:yX} {er:Int} {n1 n2 n3:Nat} {e:Ending} (hr:r=(S,er)) (h1:n1=S.states.length) (h2:n2=S.moves.length) (h3:n3=S.next.length) (h:zf0 w r e w'):zyt S er n1 n2 n3 w e w':=by
 subst hr h1 h2 h3
 obtain⟨⟨sv,mv,nv,rfl,hs, -, -⟩,hb⟩:=h
 obtain⟨a1,c1,rfl, -⟩:=zh.slice hs.1
 obtain⟨a2,c2,rfl, -⟩:=zh.slice hs.2.1
 obtain⟨a3,c3,rfl, -⟩:=zh.slice hs.2.2
 exact⟨⟨a1,a2,a3,c1,c2,c3,rfl,hs⟩,hb⟩
def zyy (s:zi) (bd:Bool) (er:Int) (w:World) (e:Ending) (w':World):Prop:=(∃(a b:Option Addr) (n c k f:Nat),e= .returned (.tuple #[.agg #[.slice a n c, .slice b k f, .bool bd], .int .i64 er])/\zY w' s (.slice a n c) (.slice b k f))/\Below w.heap.size w w'
theorem zx2 {w w':World} {r:zi × Int} {s:zi} {bd:Bool} {er:Int} {e:Ending} (hr:r=(s,er)) (hb:bd=s.bad) (h:zaR w r e w'):zyy s bd er w e w':=by
 subst hr hb
 exact h
theorem zqu {c:zH} (h:codeOk c=true) (q:Int):vG c (zh0 q)=true:=by
 unfold vG zh0
 simp only [Bool.and_eq_true,decide_eq_true_eq]
 have h1:=Int.emod_nonneg q (show(3:Int)≠0 by omega)
 have h2:=Int.emod_lt_of_pos q (show(0:Int)<3 by omega)
 have h3:=Int.emod_nonneg (q / 3) (show(3:Int)≠0 by omega)
 have h4:=Int.emod_lt_of_pos (q / 3) (show(0:Int)<3 by omega)
 exact⟨⟨⟨⟨h,by omega⟩,by omega⟩,by omega⟩,by omega⟩
theorem zxl {x:Int} (h:(Lit.int .u8 x).wf=true):0<=x/\x<=255:=by
 constructor
 ·simp [Lit.wf,IntKind.min,IntKind.max,IntKind.signed] at h;omega
 simp [Lit.wf,IntKind.min,IntKind.max,IntKind.signed,IntKind.bits] at h;omega
theorem zsK {x:Int} (h:(Lit.int .u16 x).wf=true):0<=x/\x<=65535:=by
 constructor
 ·simp [Lit.wf,IntKind.min,IntKind.max,IntKind.signed] at h;omega
 simp [Lit.wf,IntKind.min,IntKind.max,IntKind.signed,IntKind.bits] at h;omega
def z6O (s:zi) (bd:Bool) (w:World) (e:Ending) (w':World):Prop:=(∃(a b:Option Addr) (n c k f:Nat),e= .returned (.agg #[.slice a n c, .slice b k f, .bool bd])/\zY w' s (.slice a n c) (.slice b k f))/\Below w.heap.size w w'
theorem zxy (w:World) (c:zH) (tv:Value) (h:yE 3 w tv c.threads):Calls Tryz.prog 19 #[yB c tv] w (z6O (xI c) (xI c).bad w):=by
 refine(zjL w c tv 3 h).mono ?_
 rintro e w' ⟨⟨sv,mv,rfl,hs⟩,hb⟩
 obtain⟨a,c1,rfl, -⟩:=zh.slice hs.threads
 obtain⟨b,k,rfl, -⟩:=zh.slice hs.mem
 exact⟨⟨a,b,_,c1,_,k,rfl,hs⟩,hb⟩
def z2Y (X:World) (sb o:Nat) (s:zi) (bd:Bool):Prop:=∃(a b:Option Addr) (n c k f:Nat),∀y,Below X.heap.size X y->y.cell? ⟨sb,o,none⟩=some (.slice a n c)/\y.cell? ⟨sb,o+1,none⟩=some (.slice b k f)/\y.cell? ⟨sb,o+2,none⟩=some (.bool bd)/\zY y s (.slice a n c) (.slice b k f)
theorem zyw {X:World} {a:Option Addr} {n cap:Nat} {l:List zi} (h:jP X (.slice a n cap) l) (hp:0<l.length):∃sb so,a=some ⟨sb,so,none⟩/\∀i,i<l.length->z2Y X sb (so+i*3) (l.getD i default) (l.getD i default).bad:=by
 obtain⟨sb,so, -, -,rfl, -⟩:=jP.part h 0 hp
 refine⟨sb,so,rfl,λi hi=> ?_⟩
 obtain⟨b2,o2,tv,mv,e, -,x0,x1,x2,hs⟩:=jP.part h i hi
 cases e
 obtain⟨ta,tc,rfl, -⟩:=zh.slice hs.threads
 obtain⟨ma,mc,rfl, -⟩:=zh.slice hs.mem
 exact⟨ta,ma,_,tc,_,mc,λy hy=>⟨zk hy _ _ x0,zk hy _ _ x1,zk hy _ _ x2,hs.below hy⟩⟩
theorem zfg (w:World) (s t:zi) (bd be:Bool) (hbd:bd=s.bad) (hbe:be=t.bad) (a1 a2 b1 b2:Option Addr) (n1 n2 m1 m2 c1 c2 d1 d2:Nat) (ha:zY w s (.slice a1 n1 c1) (.slice a2 n2 c2)) (hb:zY w t (.slice b1 m1 d1) (.slice b2 m2 d2)):
  Calls Tryz.prog 17 #[.agg #[.slice a1 n1 c1, .slice a2 n2 c2, .bool bd], .agg #[.slice b1 m1 d1, .slice b2 m2 d2, .bool be]] w λe w'=>e= .returned (.bool (decide (s=t)))/\Below w.heap.size w w':=by
 subst hbd hbe
 exact zs9 w s t _ _ _ _ ha hb
end Go.Proofs.YtliajkheeniljaaGreatDoor
namespace Go.Proofs.YtliajkheeniljaaGreatDoor
open Go.RowKit
set_option maxRecDepth 100000
set_option maxHeartbeats 16000000
theorem zmx {c:zH} {m:zC} {d:Nat} (x:zu):∀(l:List zu) (s t:zi),vF c m d s l=(t,0)->(xR c m t x d).2=0->vF c m d s (l++ [x])=((xR c m t x d).1,0):=by
 intro l
 induction l with
 |nil=>
  intro s t h h2
  have e:s=t:=congrArg Prod.fst h
  subst e
  show(if (xR c m s x d).2=0 then vF c m d (xR c m s x d).1 [] else(yI,(xR c m s x d).2))=_
  rw [if_pos h2]
  rfl
 |cons y l ih=>
 intro s t h h2
 have h':(if (xR c m s y d).2=0 then vF c m d (xR c m s y d).1 l else(yI,(xR c m s y d).2))=(t,0):=h
 show(if (xR c m s y d).2=0 then vF c m d (xR c m s y d).1 (l++ [x]) else(yI,(xR c m s y d).2))=_
 split at h'
 ·rename_i h0
  rw [if_pos h0]
  exact ih _ t h' h2
 rename_i h0
 exact absurd (congrArg Prod.snd h') h0
theorem zye {c:zH} {m:zC} {s:zi} {d:Nat} {x:zu} (h:x∈xu c m s d):(xR c m s x d).2=0:=by
 obtain⟨i, -,h2⟩:=zl2 h
 rcases h2 with⟨-,t, -,he⟩|⟨v, -, -,he⟩<;>rw [he]
section
variable {c:zH} {m:zC} {d:Nat} {S:yX} {L:Nat->Nat}
theorem Closed.lens (hc:Closed c m d S):∀i,i<S.states.length->(S.next.getD i []).length=(S.moves.getD i []).length:=λi hi=>(hc.lead i hi).2.len
theorem zmy (hc:Closed c m d S) (h:Bfs S S.states.length L) (hn:L S.states.length=S.states.length):∀b,b<S.states.length->vF c m d (xI c) (xS S b (b:Int)).reverse=(S.states.getD b default,0):=by
 intro b
 induction b using Nat.strongRecOn with
 |_ b ih=>
 intro hb
 rcases Nat.lt_or_ge 0 b with e|e
 ·obtain⟨i,j,w1,w2,w3,w4,w5, -, -⟩:=h.way hn hc.next hc.lens (b:=b) e hb
  rw [zcR e w1,List.reverse_cons]
  have hi:=ih i w3 w2
  obtain⟨l1,l2⟩:=hc.lead i w2
  have hmem:(S.moves.getD i []).getD j default∈xu c m (S.states.getD i default) d:=by
   rw [<-l1]
   exact qJ w4
  rw [zmx _ _ _ _ hi (zye hmem)]
  obtain⟨t,t1,t2,t3⟩:=l2.land j w4
  rw [w5] at t2
  have htb:t=b:=by omega
  rw [<-t3,htb]
 obtain rfl:b=0:=by omega
 rw [hc.first]
 rfl
def zcK (c:zH) (m:zC) (d:Nat):Nat->zi->Prop
 |0,s=>s=xI c
 |p+1,s=>∃t x,zcK c m d p t/\x∈xu c m t d/\s=(xR c m t x d).1
theorem zmz (hc:Closed c m d S) (h:Bfs S S.states.length L) (hn:L S.states.length=S.states.length):∀p s,zcK c m d p s->∃b,b<S.states.length/\S.states.getD b default=s/\dep S b<=p:=by
 intro p
 induction p with
 |zero=>
  intro s hs
  exact⟨0,hc.pos,by rw [hc.first];exact hs.symm,by simp [dep,xS]⟩
 |succ p ih=>
 rintro s ⟨t,x,ht,hx,rfl⟩
 obtain⟨a,a1,rfl,a3⟩:=ih t ht
 obtain⟨l1,l2⟩:=hc.lead a a1
 rw [<-l1] at hx
 obtain⟨j,hj,rfl⟩:=List.getElem_of_mem hx
 obtain⟨b,b1,b2,b3⟩:=l2.land j hj
 have hm:(S.moves.getD a []).getD j default=(S.moves.getD a [])[j] :=by rw [List.getD_eq_getElem?_getD,List.getElem?_eq_getElem hj];rfl
 rw [hm] at b3
 have:=h.ztQ hn hc.next hc.lens a1 b1 (by rw [l2.len];exact hj) b2
 exact⟨b,b1,b3,by omega⟩
theorem zpT (hc:Closed c m d S) (h:Bfs S S.states.length L) (hn:L S.states.length=S.states.length) {k:Nat} (hk:k<S.states.length) {p:Nat} (hp:p<(xS S k (k:Int)).length) {s:zi} (hs:zcK c m d p s):s≠S.states.getD k default:=by
 intro e
 obtain⟨b,b1,b2,b3⟩:=zmz hc h hn p s hs
 rw [e] at b2
 have hbk:b=k:=by
  rw [List.getD_eq_getElem?_getD,List.getD_eq_getElem?_getD,List.getElem?_eq_getElem b1,List.getElem?_eq_getElem hk] at b2
  exact(List.getElem_inj hc.apart).1 (by simpa using b2)
 subst hbk
 unfold dep at b3
 omega
end
end Go.Proofs.YtliajkheeniljaaGreatDoor
namespace Go.Proofs.YtliajkheeniljaaGreatDoor
open Go.RowKit
set_option maxRecDepth 100000
set_option maxHeartbeats 16000000
structure zkI (S:yX) (n:Nat) (S0:zi) (MV:zi->List zu) (DO:zi->zu->zi) (RPL:List zu->zi × Int) (NR:Nat->zi->Prop):Prop where
 pos:0<n
 few:n<=400
 sts:S.states.length=n
 mvs:S.moves.length=n
 nxt:S.next.length=n
 zero:NR 0 S0
 step:∀p s x,NR p s->x∈MV s->NR (p+1) (DO s x)
 z5c:∀p s,NR p s->jW 33 s
 len:∀(p:Nat) (l:List zi),l.Nodup->(∀s∈l,NR p s)->l.length<=n
 short:∀k,k<n->∀p s,p<(xS S k (k:Int)).length->NR p s->s≠S.states.getD k default
 rep:∀k,k<n->RPL (xS S k (k:Int)).reverse=(S.states.getD k default,0)
theorem zdq {α:Type} [Inhabited α] {l:List α} {b:Nat} (h:b<l.length):l.getD b default∈l:=by
 rw [List.getD_eq_getElem?_getD,List.getElem?_eq_getElem h]
 exact List.getElem_mem h
theorem zx0 {c:zH} {m:zC} (hm:vG c m=true) {S:yX} (h:qx c m 400 3=(S,0)):zkI S S.states.length (xI c) (λs=>xu c m s 3) (λs x=>(xR c m s x 3).1) (λl=>jO c m l 3) (zcK c m 3):=by
 have hcl:=zd5 (c:=c) (m:=m) (d:=3) (R:=400) hm (by omega) (by omega)
 have hbf:=zkZ (c:=c) (m:=m) (R:=400) (d:=3)
 have zpU:=zmJ (c:=c) (m:=m) (R:=400) (d:=3)
 rw [show((400:Nat):Int)=400 from rfl] at hbf zpU
 obtain⟨L,hb,hn⟩:=zmK h
 rw [h] at hcl hbf zpU
 dsimp only at hcl hbf zpU
 rcases hcl with⟨-,hc⟩|h40
 ·have hin:∀p s,zcK c m 3 p s->s∈S.states:=λp s hs=>by
   obtain⟨b,b1,b2, -⟩:=zmz hc hb hn p s hs
   rw [<-b2]
   exact zdq b1
  refine⟨hc.pos,zpU,rfl,hc.moves,hc.next,rfl,λp s x hs hx=>⟨s,x,hs,hx,rfl⟩,λp s hs=>hbf s (hin p s hs),λp l hl hs=> ?_,λk hk p s hp hs=>zpT hc hb hn hk hp hs,λk hk=> ?_⟩
  ·exact zqT hl (λs hx=>hin p s (hs s hx))
  show jO c m _ 3=_
  unfold jO
  rw [hm,if_pos rfl]
  exact zmy hc hb hn k hk
 cases h40
def zwc (l:List zu) (n:Nat) (w:World) (e:Ending) (w':World):Prop:=(∃(a:Option Addr) (c:Nat),e= .returned (.slice a n c)/\qO w' (.slice a n c) l)/\Below w.heap.size w w'
theorem ztn {w w':World} {l:List zu} {n:Nat} {e:Ending} (hn:n=l.length) (h:zm0 w l e w'):zwc l n w e w':=by
 subst hn
 obtain⟨sv,rfl,ho,hb⟩:=h
 obtain⟨a,c,rfl, -⟩:=xC ho
 exact⟨⟨a,c,rfl,bH ho⟩,hb⟩
def z2Z (s:zi) (bd:Bool) (w:World) (e:Ending) (w':World):Prop:=(∃(a b:Option Addr) (n c k f:Nat) (er:Int),e= .returned (.tuple #[.agg #[.slice a n c, .slice b k f, .bool bd], .int .i64 er])/\zX (λk=>k<w.heap.size) w' (λy=>qE y s [.slice a n c, .slice b k f, .bool bd]))/\Below w.heap.size w w'
theorem z5a (w:World) (c:zH) (tv:Value) (h:yE 3 w tv c.threads) (m:zC) (s:zi) (hb:jW 33 s) (sv mv:Value) (hs:zY w s sv mv) (x:zu):Calls Tryz.prog 37 #[yB c tv,xq m,yC s sv mv,zcL x] w (z2Z (xR c m s x 3).1 (xR c m s x 3).1.bad w):=by
 refine(zr2 w c tv 3 h m s sv mv hs (λj hj=>Nat.le_trans (hb j hj) (by omega)) x).mono ?_
 rintro e w' ⟨⟨xa,xn,xc,ya,yn,yc,bs,rfl,ho⟩,hb⟩
 exact⟨⟨xa,ya,xn,xc,yn,yc,_,rfl,zu8 ho (λk hk=>hk)⟩,hb⟩
theorem zq3 {y:World} {s:zi} {a b c:Value} (h:qE y s [a,b,c]):zY y s a b:=by
 obtain⟨tv,mv,he,hs⟩:=h
 simp only [List.cons.injEq,and_true] at he
 obtain⟨rfl,rfl, -⟩:=he
 exact hs
section
variable {W X X1 Y:World} {P:World->Prop} {v v':Value} {l:List zi} {css:List (List Value)} {B gs:Nat}
theorem zju (h:zX (λk=>k<X.heap.size) Y P) (hB:B<=X.heap.size):zX (λk=>k<B) Y P:=h.mono (λ_ hk=>Nat.lt_of_lt_of_le hk hB)
theorem zo5 (h:zX (λk=>k<X.heap.size) Y P) (hB:B<=X.heap.size) (hg:gs<X.heap.size):zX (λk=>k<B\/k=gs) Y P:=h.mono (λ_ hk=>hk.elim (λe=>Nat.lt_of_lt_of_le e hB) (λe=>e ▸ hg))
theorem zo4 (h:zX (λk=>k<B) X P) (o:Obj):zX (λk=>k<B\/k=X.heap.size) (X.alloc o) P:=h.step (G:=λ_=>False) ((Since.refl _ X).alloc o) (λ_ h=>h.elim) (λ_ hk=>hk.elim .inl (λe=> .inr (Nat.le_of_eq e.symm)))
theorem zh6 (h:zX (λk=>k<B\/k=gs) X P) (hs:Since (λk=>k=gs) X Y):zX (λk=>k<B\/k=gs) Y P:=h.step hs (λ_ hk=> .inl (.inr hk)) (λ_ hk=> .inl hk)
theorem zdY {F:Nat->Prop} (h:zX F X P) (hb:Below X.heap.size X Y):zX F Y P:=h.step (G:=λ_=>False) (xZ _ hb) (λ_ h=>h.elim) (λ_ hk=> .inl hk)
structure bV (W X:World) (v:Value) (l:List zi) (css:List (List Value)):Prop where
 below:Below W.heap.size W X
 st:yU (λk=>v.ownBlock=some k) X qE 3 W.heap.size 30 v l css
theorem bV.start (hb:Below W.heap.size W X):bV W X (.slice none 0 0) [] [] :=⟨hb,yU.nil _ _ _ _ _ _⟩
theorem bV.call (h:bV W X v l css) (hb:Below X.heap.size X Y):bV W Y v l css:=⟨zF h.below hb,h.st.step (G:=λ_=>False) (xZ _ hb) (λ_ _ h=>h) (λ_ h=>h.elim) (λ_ hk=> .inl hk)⟩
theorem bV.push (h:bV W X v l css) {o:Obj} {x:zi} {cs:List Value} (hx:zX (λk=>k<B) X (λy=>qE y x cs)) (hB:∀k,v.ownBlock=some k->k<B) (hc:cs.length=3) (h1:X1.ownsRow W.heap.size 30 3 v' (l.length+1) (css.flatten++cs))
  (h4:Since (λk=>v.ownBlock=some k) (X.alloc o) X1) (h5:∀k,v'.ownBlock=some k->v.ownBlock=some k\/k=(X.alloc o).heap.size):bV W X1 v' (l++ [x]) (css++ [cs]):=by
 have s1:Since (λk=>v.ownBlock=some k) X X1:=((Since.refl _ X).alloc o).trans h4 (λk hk=> .inl hk)
 refine⟨h.below.trans (s1.below h.below.size (λk e=>(h.st.row.lt k e).1)),h.st.push s1 (λk hk=> .inl hk) (λk hk=> ?_) (hx.mono hB) hc h1⟩
 rcases h5 k hk with h6|h6
 ·exact .inl h6
 refine .inr ?_;simp at h6;omega
theorem bV.lt (h:bV W X v l css):∀k,v.ownBlock=some k->k<X.heap.size:=λk e=>(h.st.row.lt k e).2
end
def z3a (l:List zu) (n:Nat) (w:World) (e:Ending) (w':World):Prop:=(∃(va:Option Addr) (vc:Nat),e= .returned (.slice va n vc)/\zX (λk=>k<w.heap.size) w' (λy=>qO y (.slice va n vc) l))/\Below w.heap.size w w'
theorem zxz (w:World) (c:zH) (tv:Value) (h:yE 3 w tv c.threads) (m:zC) (s:zi) (hb:jW 33 s) (sv mv:Value) (hs:zY w s sv mv):Calls Tryz.prog 36 #[yB c tv,xq m,yC s sv mv] w (z3a (xu c m s 3) (xu c m s 3).length w):=by
 refine(zsQ w c tv 3 h m s sv mv hs (λj hj=>Nat.le_trans (hb j hj) (by omega))).mono ?_
 rintro e w' ⟨⟨va,vc,rfl,ho⟩,hb⟩
 exact⟨⟨va,vc,rfl,λy hy=>bH (hy.row ho (λk hk e=>by have:=(ho.lt k hk).1;omega))⟩,hb⟩
theorem zq2 {X X1:World} {P:World->Prop} {v v':Value} (hm:zX (λk=>v.ownBlock=some k) X P) {o:Obj} (h4:Since (λk=>v.ownBlock=some k) (X.alloc o) X1) (h5:∀k,v'.ownBlock=some k->v.ownBlock=some k\/k=(X.alloc o).heap.size):zX (λk=>v'.ownBlock=some k) X1 P:=by
 refine hm.step (((Since.refl _ X).alloc o).trans h4 (λk hk=> .inl hk)) (λk hk=> .inl hk) (λk hk=> ?_)
 rcases h5 k hk with h6|h6
 ·exact .inl h6
 refine .inr ?_;simp at h6;omega
theorem zo6 {l:List zi} {u:zi} (h:l.Nodup) (hu:u ∉ l):(l++ [u]).Nodup:=by
 rw [List.nodup_append]
 refine⟨h,by simp,λa ha b hb e=> ?_⟩
 simp only [List.mem_singleton] at hb
 subst hb e
 exact hu ha
theorem zoz {X:World} {s:zi} {a b:Value} (hs:zY X s a b):jP (X.alloc (.cells #[a,b, .bool s.bad] 30)) (.slice (some ⟨X.heap.size,0,none⟩) 1 1) [s] :=by
 have hb:Below X.heap.size X (X.alloc (.cells #[a,b, .bool s.bad] 30)):=(Below.refl _ _).alloc (Nat.le_refl _) _
 have hr:(X.alloc (.cells #[a,b, .bool s.bad] 30)).ownsRow 0 30 3 (.slice (some ⟨X.heap.size,0,none⟩) 1 1) 1 [a,b, .bool s.bad] :=gI (yh X _) (Nat.zero_le _) rfl (by unfold maxLen;decide)
 refine zh.zbu (l:= [s]) hr λj hj=> ?_
 simp only [List.length_cons,List.length_nil] at hj
 obtain rfl:j=0:=by omega
 exact⟨[a,b, .bool s.bad],rfl,λi hi=>by simp,a,b,rfl,hs.below hb⟩
theorem zkj {l:List zi} {q:Nat} (hq:q<l.length) (u:zi):(u∈l.take (q+1))↔(u∈l.take q\/l.getD q default=u):=by
 rw [List.take_add_one,List.mem_append,List.getD_eq_getElem?_getD,List.getElem?_eq_getElem hq]
 simp [eq_comm]
