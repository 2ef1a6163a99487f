/- Steps. -/
import Derived.Test.YtliajkheeniljaaGreatDoorZpPSpace
import Derived.Test.YtliajkheeniljaaGreatDoorZpPTrail
set_option linter.all false
namespace Go.Proofs.YtliajkheeniljaaGreatDoor
open Go.RowKit
set_option maxRecDepth 100000
set_option maxHeartbeats 16000000
def zaI:zF:=⟨0,1⟩
def vX:xV:=(uQ qF zaI 100 1).1
def zlt:Bool:=decide ((uQ qF zaI 100 1).2=0) && decide (4<vX.states.length) && decide (vX.states.length<=100) && decide (vX.next.length=vX.states.length) && decide (vX.moves.length=vX.states.length) && vX.states.all (λs=> !s.bad) && decide (vJ vX 1 1= [⟨1,0,0⟩])
theorem zrm:zlt=true:=by decide+kernel
theorem zzj:(uQ qF zaI 3 1).2=40:=by decide+kernel
theorem zzk:(uQ qF zaI 0 1).2=1:=by decide+kernel
theorem zzl:(jA qF zaI [⟨1,0,0⟩,⟨1,1,0⟩] 1).2=0/\(jA qF zaI [⟨1,0,0⟩,⟨1,1,0⟩] 1).1.mem.length=2/\(jA qF zaI [⟨1,0,0⟩,⟨1,1,0⟩] 1).1.mem.getD 1 0=1:=by decide+kernel
theorem zzm:(jA qF zaI [⟨2,0,0⟩] 1).2=50:=by decide+kernel
structure zwV:Prop where
 e:(uQ qF zaI 100 1).2=0
 many:4<vX.states.length
 few:vX.states.length<=100
 next:vX.next.length=vX.states.length
 moves:vX.moves.length=vX.states.length
 calm:∀j,j<vX.states.length->(vX.states.getD j default).bad=false
 trail:vJ vX 1 1= [⟨1,0,0⟩]
theorem zdV:zwV:=by
 have h:=zrm
 unfold zlt at h
 simp only [Bool.and_eq_true,decide_eq_true_eq] at h
 obtain⟨⟨⟨⟨⟨⟨h1,h2⟩,h3⟩,h4⟩,h5⟩,h6⟩,h7⟩:=h
 refine⟨h1,h2,h3,h4,h5,λj hj=> ?_,h7⟩
 have:=List.all_eq_true.1 h6 _ (qR (x:=default) hj)
 simpa using this
def z1x (n:Nat) (w:World) (e:Ending) (w':World):Prop:=(∃(a1 a2 a3:Option Addr) (c1 c2 c3:Nat),e= .returned (.tuple #[.agg #[.slice a1 n c1, .slice a2 n c2, .slice a3 n c3], .int .i64 0])/\jL w' vX (.slice a1 n c1) (.slice a2 n c2) (.slice a3 n c3))/\Below w.heap.size w w'
def z1y (k:Int) (w:World) (e:Ending) (w':World):Prop:=(∃(a1 a2 a3:Option Addr) (n1 n2 n3 c1 c2 c3:Nat),e= .returned (.tuple #[.agg #[.slice a1 n1 c1, .slice a2 n2 c2, .slice a3 n3 c3], .int .i64 k]))/\Below w.heap.size w w'
theorem zzn (w:World) (ta:Option Addr) (tc n:Nat) (hn:n=vX.states.length) (h:yQ 1 w (.slice ta 2 tc) qF.threads):Calls Tryz.prog 28 #[.agg #[.int .i64 2, .int .i64 2, .slice ta 2 tc], .agg #[.int .i64 0, .int .i64 1], .int .i64 100] w (z1x n w):=by
 refine(zeQ w qF _ 1 h zaI 100).mono ?_
 rintro e w' ⟨⟨sv,mv,nv,rfl,hs, -, -⟩,hb⟩
 have d:=zdV
 rw [d.e]
 have hs2:jL w' vX sv mv nv:=hs
 obtain⟨a1,c1,rfl, -⟩:=zh.slice hs2.1
 obtain⟨a2,c2,rfl, -⟩:=zh.slice hs2.2.1
 obtain⟨a3,c3,rfl, -⟩:=zh.slice hs2.2.2
 rw [d.moves,d.next, <-hn] at hs2 ⊢
 exact⟨⟨a1,a2,a3,c1,c2,c3,rfl,hs2⟩,hb⟩
theorem zrn (w:World) (ta:Option Addr) (tc:Nat) (r k:Int) (hk:(uQ qF zaI r 1).2=k) (h:yQ 1 w (.slice ta 2 tc) qF.threads):Calls Tryz.prog 28 #[.agg #[.int .i64 2, .int .i64 2, .slice ta 2 tc], .agg #[.int .i64 0, .int .i64 1], .int .i64 r] w (z1y k w):=by
 refine(zeQ w qF _ 1 h zaI r).mono ?_
 rintro e w' ⟨⟨sv,mv,nv,rfl,hs, -, -⟩,hb⟩
 rw [hk]
 obtain⟨a1,c1,rfl, -⟩:=zh.slice hs.1
 obtain⟨a2,c2,rfl, -⟩:=zh.slice hs.2.1
 obtain⟨a3,c3,rfl, -⟩:=zh.slice hs.2.2
 exact⟨⟨a1,a2,a3,_,_,_,c1,c2,c3,rfl⟩,hb⟩
def z1z (w:World) (e:Ending) (w':World):Prop:=(∃(a:Option Addr) (b o n c f:Nat) (bd:Bool),e= .returned (.tuple #[.agg #[.slice a n c, .slice (some ⟨b,o,none⟩) 2 f, .bool bd], .int .i64 0])/\b<w'.heap.size/\w'.cell? ⟨b,o+1,none⟩=some (.int .i64 1))/\Below w.heap.size w w'
def z13 (k:Int) (w:World) (e:Ending) (w':World):Prop:=(∃(a b:Option Addr) (n c m f:Nat) (bd:Bool),e= .returned (.tuple #[.agg #[.slice a n c, .slice b m f, .bool bd], .int .i64 k]))/\Below w.heap.size w w'
theorem zzo (w:World) (ta:Option Addr) (tc:Nat) (h:yQ 1 w (.slice ta 2 tc) qF.threads) (lv:Value) (hl:qj w lv [⟨1,0,0⟩,⟨1,1,0⟩]):Calls Tryz.prog 34 #[.agg #[.int .i64 2, .int .i64 2, .slice ta 2 tc], .agg #[.int .i64 0, .int .i64 1],lv] w (z1z w):=by
 refine(zcT w qF _ 1 h zaI lv _ hl).mono ?_
 rintro e w' ⟨⟨a,b,n,c,k,f,rfl,hs⟩,hb⟩
 obtain⟨e1,e2,e3⟩:=zzl
 have hm:=hs.mem
 obtain⟨_,_,q, -⟩:=zh.slice hm
 cases q
 obtain⟨eb,eo,rfl,hbl,z0⟩:=xJ.part hm 1 (by rw [e2];decide)
 rw [e3] at z0
 rw [e1,e2]
 exact⟨⟨a,eb,eo,n,c,f,_,rfl,hbl,z0⟩,hb⟩
theorem zzp (w:World) (ta:Option Addr) (tc:Nat) (h:yQ 1 w (.slice ta 2 tc) qF.threads) (lv:Value) (hl:qj w lv [⟨2,0,0⟩]):Calls Tryz.prog 34 #[.agg #[.int .i64 2, .int .i64 2, .slice ta 2 tc], .agg #[.int .i64 0, .int .i64 1],lv] w (z13 50 w):=by
 refine(zcT w qF _ 1 h zaI lv _ hl).mono ?_
 rintro e w' ⟨⟨a,b,n,c,k,f,rfl,hs⟩,hb⟩
 rw [zzm]
 exact⟨⟨a,b,n,c,k,f,_,rfl⟩,hb⟩
def z14 (w:World) (e:Ending) (w':World):Prop:=(∃(b c:Nat),e= .returned (.slice (some ⟨b,0,none⟩) 1 c)/\w'.cell? ⟨b,0,none⟩=some (.int .i64 1)/\w'.cell? ⟨b,1,none⟩=some (.int .i64 0)/\w'.cell? ⟨b,2,none⟩=some (.int .i64 0))/\Below w.heap.size w w'
theorem z15 (w:World) (a1 a2 a3:Option Addr) (n c1 c2 c3:Nat) (h:jL w vX (.slice a1 n c1) (.slice a2 n c2) (.slice a3 n c3)):Calls Tryz.prog 39 #[.agg #[.slice a1 n c1, .slice a2 n c2, .slice a3 n c3], .int .i64 1] w (z14 w):=by
 have d:=zdV
 have hc:=zo3 w vX _ _ _ h d.moves d.next 1 (by have:=d.many;omega) (by have:=d.few;omega)
 rw [show((1:Nat):Int)=1 from rfl,d.trail] at hc
 refine hc.mono ?_
 rintro e w' ⟨sv,rfl,hr,hb⟩
 obtain⟨g,cap,rfl, -, -⟩:=wN hr (by decide)
 exact⟨⟨g,cap,rfl,hr.cellAt 0 (by decide),hr.cellAt 1 (by decide),hr.cellAt 2 (by decide)⟩,hb⟩
theorem z16 (w:World) (a1 a2 a3:Option Addr) (n c1 c2 c3:Nat) (h:jL w vX (.slice a1 n c1) (.slice a2 n c2) (.slice a3 n c3)):Calls Tryz.prog 31 #[.agg #[.slice a1 n c1, .slice a2 n c2, .slice a3 n c3]] w λe w'=>e= .returned (.int .i64 (-1))/\Below w.heap.size w w':=by
 refine(ztJ w vX _ _ _ h).mono ?_
 rintro e w' ⟨r,rfl,hr,hb⟩
 obtain rfl:r= -1:=hr.one (.inr ⟨rfl,zdV.calm⟩)
 exact⟨rfl,hb⟩
theorem z18 (w:World):Calls Tryz.prog 41 #[] w λe w'=>(∃(ta:Option Addr) (tc:Nat),e= .returned (.agg #[.int .i64 2, .int .i64 2, .slice ta 2 tc])/\yQ 1 w' (.slice ta 2 tc) qF.threads)/\Below w.heap.size w w':=by
 refine(znU w).mono ?_
 rintro e w' ⟨⟨tv,rfl,ht⟩,hb⟩
 obtain⟨ta,tc,rfl, -⟩:=zh.slice ht
 exact⟨⟨ta,tc,rfl,ht⟩,hb⟩
theorem zmw (w:World):Calls Tryz.prog 33 #[] w λe w'=>e= .returned (.bool true)/\Below w.heap.size w w':=by
 obtain⟨n,hn⟩:∃n,n=vX.states.length:=⟨_,rfl⟩
 have h4:(4:Int)<(n:Int):=by have:=zdV.many;omega
 have HN:=qh hn
 clear hn
 go_enter Tryz.func33,Tryz.ntmps33
 go_upto_region 2 with(go_at_call 41;go_must(refine(z18 _).mono ?_);rintro e W1 ⟨⟨ta,tc,rfl,ht⟩,hb⟩;have HT1:=qh ht;have HB0:=qh hb;clear ht hb)
 have HB1:=qh (HB0.out.trans ((xC W1 (.cells #[.int .i64 2, .int .i64 2, .slice ta 2 tc] 24) (.cells #[.int .i64 0, .int .i64 1] 26)).mono HB0.out.size))
 have HT2:=qh (zh.below (qo.stays 1) HT1.out (xC W1 (.cells #[.int .i64 2, .int .i64 2, .slice ta 2 tc] 24) (.cells #[.int .i64 0, .int .i64 1] 26)))
 have q1:((W1.alloc (.cells #[.int .i64 2, .int .i64 2, .slice ta 2 tc] 24)).alloc (.cells #[.int .i64 0, .int .i64 1] 26)).heap[W1.heap.size]? =some (.cells #[.int .i64 2, .int .i64 2, .slice ta 2 tc] 24 (0,0)):=(Below.heap_alloc _ _ _ (by simp)).trans (yj W1 _)
 have q2:((W1.alloc (.cells #[.int .i64 2, .int .i64 2, .slice ta 2 tc] 24)).alloc (.cells #[.int .i64 0, .int .i64 1] 26)).heap[W1.heap.size+1]? =some (.cells #[.int .i64 0, .int .i64 1] 26 (0,0)):=by
  have:=yj (W1.alloc (.cells #[.int .i64 2, .int .i64 2, .slice ta 2 tc] 24)) (.cells #[.int .i64 0, .int .i64 1] 26)
  rwa [World.size_alloc] at this
 have Q1:=qh q1
 have Q2:=qh q2
 clear q1 q2 HT1 HB0
 generalize World.alloc (World.alloc W1 _) _=X1 at HB1 HT2 Q1 Q2 ⊢
 generalize W1.heap.size=g1 at Q1 Q2 ⊢
 have CX:Hid (∀y,Below X1.heap.size X1 y->y.cell? ⟨g1,0,none⟩=some (.int .i64 2)/\y.cell? ⟨g1,1,none⟩=some (.int .i64 2)/\y.cell? ⟨g1,2,none⟩=some (.slice ta 2 tc)/\y.cell? ⟨g1+1,0,none⟩=some (.int .i64 0)/\y.cell? ⟨g1+1,1,none⟩=some (.int .i64 1)/\yQ 1 y (.slice ta 2 tc) qF.threads):=λy hy=>
  ⟨zi hy _ _ (ze Q1.out 0),zi hy _ _ (ze Q1.out 1),zi hy _ _ (ze Q1.out 2),zi hy _ _ (ze Q2.out 0),zi hy _ _ (ze Q2.out 1),zh.below (qo.stays 1) HT2.out hy⟩
 have qD:Hid (Below X1.heap.size X1 X1):=Below.refl _ _
 clear HT2 Q1 Q2
 obtain⟨x0,x1,x2,x3,x4,x5⟩:=CX.out X1 qD.out
 have HRW:=qh x5
 clear x5
 go_upto_region 3 with(go_at_call 28;go_must(refine(zzn _ _ _ n HN.out HRW.out).mono ?_);rintro e W2 ⟨⟨a1,a2,a3,c1,c2,c3,rfl,hs⟩,hb⟩;have pQ:=qh hs;have yx:=qh hb;clear hs hb)
 have hz:=yj W2 (.cells #[.slice a1 n c1, .slice a2 n c2, .slice a3 n c3] 71)
 have ha:=(Below.refl W2.heap.size W2).alloc (Nat.le_refl _) (.cells #[.slice a1 n c1, .slice a2 n c2, .slice a3 n c3] 71)
 replace pQ:=qh (pQ.out.below ha)
 have HS2:=qh (zG qD.out (yx.out.trans (ha.mono yx.out.size)))
 have HZ:=qh hz
 clear hz ha yx x0 x1 x2 x3 x4 HRW
 generalize World.alloc W2 _=X2 at pQ HS2 HZ ⊢
 generalize W2.heap.size=g3 at HZ ⊢
 have CS:Hid (∀y,Below X2.heap.size X2 y->y.cell? ⟨g3,0,none⟩=some (.slice a1 n c1)/\y.cell? ⟨g3,1,none⟩=some (.slice a2 n c2)/\y.cell? ⟨g3,2,none⟩=some (.slice a3 n c3)/\jL y vX (.slice a1 n c1) (.slice a2 n c2) (.slice a3 n c3)):=λy hy=>
  ⟨zi hy _ _ (ze HZ.out 0),zi hy _ _ (ze HZ.out 1),zi hy _ _ (ze HZ.out 2),pQ.out.below hy⟩
 have HU2:Hid (Below X2.heap.size X2 X2):=Below.refl _ _
 clear HZ pQ
 obtain⟨x0,x1,x2,x3,x4,x5⟩:=CX.out X2 HS2.out
 have HRW:=qh x5
 clear x5
 go_upto_region 4 with(go_at_call 28;go_must(refine(zrn _ _ _ 3 40 zzj HRW.out).mono ?_);rintro e W3 ⟨⟨p1,p2,p3,n1,n2,n3,k1,k2,k3,rfl⟩,hb⟩;have yx:=qh hb;clear hb)
 have ha:=yx.out.trans (((Below.refl W3.heap.size W3).alloc (Nat.le_refl _) (.cells #[.slice p1 n1 k1, .slice p2 n2 k2, .slice p3 n3 k3] 71)).mono yx.out.size)
 have HS3:=qh (zG HS2.out ha)
 have HU3:=qh (zG HU2.out ha)
 clear ha yx x0 x1 x2 x3 x4 HRW HS2 HU2
 generalize World.alloc W3 _=X3 at HS3 HU3 ⊢
 obtain⟨x0,x1,x2,x3,x4,x5⟩:=CX.out X3 HS3.out
 have HRW:=qh x5
 clear x5
 go_upto_region 5 with(go_at_call 28;go_must(refine(zrn _ _ _ 0 1 zzk HRW.out).mono ?_);rintro e W4 ⟨⟨p1,p2,p3,n1,n2,n3,k1,k2,k3,rfl⟩,hb⟩;have yx:=qh hb;clear hb)
 have ha:=yx.out.trans (((Below.refl W4.heap.size W4).alloc (Nat.le_refl _) (.cells #[.slice p1 n1 k1, .slice p2 n2 k2, .slice p3 n3 k3] 71)).mono yx.out.size)
 have HS4:=qh (zG HS3.out ha)
 have HU4:=qh (zG HU3.out ha)
 clear ha yx x0 x1 x2 x3 x4 HRW HS3 HU3
 generalize World.alloc W4 _=X4 at HS4 HU4 ⊢
 obtain⟨x0,x1,x2,x3,x4,x5⟩:=CX.out X4 HS4.out
 have HRW:=qh x5
 clear x5
 have hl2:qj (X4.alloc (.cells #[.int .i64 1, .int .i64 0, .int .i64 0, .int .i64 1, .int .i64 1, .int .i64 0] 32)) (.slice (some ⟨X4.heap.size,0,none⟩) 2 2) [⟨1,0,0⟩,⟨1,1,0⟩] :=jJ (B:=0) ⟨rfl, .inr ⟨X4.heap.size,2,_,rfl,Nat.zero_le _,yj X4 _,Nat.le_refl _,by unfold maxLen;decide,rfl,rfl⟩⟩
 have HL2:=qh hl2
 have zlu:=qh (zh.below (qo.stays 1) HRW.out ((Below.refl X4.heap.size X4).alloc (Nat.le_refl _) (.cells #[.int .i64 1, .int .i64 0, .int .i64 0, .int .i64 1, .int .i64 1, .int .i64 0] 32)))
 clear hl2
 go_upto_region 6 with(go_at_call 34;go_must(refine(zzo _ _ _ zlu.out _ HL2.out).mono ?_);rintro e W5 ⟨⟨p1,mb,mo,n1,k1,k2,bd,rfl,hmb,hmc⟩,hb⟩;have HMB:=qh hmb;have HMC:=qh hmc;have yx:=qh hb;clear hmb hmc hb)
 have hz:=yj W5 (.cells #[.slice p1 n1 k1, .slice (some ⟨mb,mo,none⟩) 2 k2, .bool bd] 30)
 have ha:=(Below.refl W5.heap.size W5).alloc (Nat.le_refl _) (.cells #[.slice p1 n1 k1, .slice (some ⟨mb,mo,none⟩) 2 k2, .bool bd] 30)
 have hc:=yx.out.trans (ha.mono yx.out.size)
 have hd:=((Below.refl X4.heap.size X4).alloc (Nat.le_refl _) (.cells #[.int .i64 1, .int .i64 0, .int .i64 0, .int .i64 1, .int .i64 1, .int .i64 0] 32)).trans (hc.mono (by simp))
 replace HMC:=qh (zi ha _ _ HMC.out)
 have HS5:=qh (zG HS4.out hd)
 have HU5:=qh (zG HU4.out hd)
 have HZ:=qh hz
 clear hz ha hc hd yx x0 x1 x2 x3 x4 HRW HS4 HU4 HL2 zlu HMB
 generalize World.alloc W5 _=X5 at HMC HS5 HU5 HZ ⊢
 generalize W5.heap.size=g9 at HZ ⊢
 have CM:Hid (∀y,Below X5.heap.size X5 y->y.cell? ⟨g9,1,none⟩=some (.slice (some ⟨mb,mo,none⟩) 2 k2)/\y.cell? ⟨mb,mo+1,none⟩=some (.int .i64 1)):=λy hy=>⟨zi hy _ _ (ze HZ.out 1),zi hy _ _ HMC.out⟩
 have HM5:Hid (Below X5.heap.size X5 X5):=Below.refl _ _
 clear HZ HMC
 obtain⟨x0,x1,x2,x3,x4,x5⟩:=CX.out X5 HS5.out
 have HRW:=qh x5
 clear x5
 have hl2:qj (X5.alloc (.cells #[.int .i64 2, .int .i64 0, .int .i64 0] 32)) (.slice (some ⟨X5.heap.size,0,none⟩) 1 1) [⟨2,0,0⟩] :=jJ (B:=0) ⟨rfl, .inr ⟨X5.heap.size,1,_,rfl,Nat.zero_le _,yj X5 _,Nat.le_refl _,by unfold maxLen;decide,rfl,rfl⟩⟩
 have HL2:=qh hl2
 have zlu:=qh (zh.below (qo.stays 1) HRW.out ((Below.refl X5.heap.size X5).alloc (Nat.le_refl _) (.cells #[.int .i64 2, .int .i64 0, .int .i64 0] 32)))
 clear hl2
 go_upto_region 7 with(go_at_call 34;go_must(refine(zzp _ _ _ zlu.out _ HL2.out).mono ?_);rintro e W6 ⟨⟨p5,p6,n5,k5,n6,k6,bd6,rfl⟩,hb⟩;have yx:=qh hb;clear hb)
 have hc:=yx.out.trans (((Below.refl W6.heap.size W6).alloc (Nat.le_refl _) (.cells #[.slice p5 n5 k5, .slice p6 n6 k6, .bool bd6] 30)).mono yx.out.size)
 have hd:=((Below.refl X5.heap.size X5).alloc (Nat.le_refl _) (.cells #[.int .i64 2, .int .i64 0, .int .i64 0] 32)).trans (hc.mono (by simp))
 have HS6:=qh (zG HS5.out hd)
 have HU6:=qh (zG HU5.out hd)
 have HM6:=qh (zG HM5.out hd)
 clear hc hd yx x0 x1 x2 x3 x4 HRW HS5 HU5 HM5 HL2 zlu
 generalize World.alloc W6 _=X6 at HS6 HU6 HM6 ⊢
 obtain⟨y0,y1,y2,y3⟩:=CS.out X6 HU6.out
 have pQ:=qh y3
 clear y3
 go_upto_region 8 with(go_at_call 39;go_must(refine(z15 _ _ _ _ _ _ _ _ pQ.out).mono ?_);rintro e X7 ⟨⟨tb,zzt,rfl,t0,t1,t2⟩,hb⟩;have yx:=qh hb;have T0:=qh t0;have T1:=qh t1;have T2:=qh t2;clear t0 t1 t2 hb)
 clear y0 y1 y2 pQ
 have HS7:=qh (zG HS6.out yx.out)
 have HU7:=qh (zG HU6.out yx.out)
 have HM7:=qh (zG HM6.out yx.out)
 clear yx HS6 HU6 HM6
 obtain⟨y0,y1,y2,y3⟩:=CS.out X7 HU7.out
 have pQ:=qh y3
 obtain⟨m0,m1⟩:=CM.out X7 HM7.out
 clear y3
 have t0:=T0.out
 have t1:=T1.out
 have t2:=T2.out
 go_wp2_with(go_at_call 31;go_must(refine(z16 _ _ _ _ _ _ _ _ pQ.out).mono ?_);rintro e X8 ⟨rfl,hb⟩;(have HB8:=qh hb);(have t0:=zi hb _ _ T0.out);(have t1:=zi hb _ _ T1.out);(have t2:=zi hb _ _ T2.out);clear hb)
 go_ret
 exact⟨rfl,HB1.out.trans ((zG HS7.out HB8.out).mono HB1.out.size)⟩
def zow (s:zl) (bd:Bool) (er:Int) (w:World) (e:Ending) (w':World):Prop:=(∃(a b:Option Addr) (n c k f:Nat),e= .returned (.tuple #[.agg #[.slice a n c, .slice b k f, .bool bd], .int .i64 er])/\zY w' s (.slice a n c) (.slice b k f))/\Below w.heap.size w w'
theorem zi1 {w w':World} {r:zl × Int} {s:zl} {bd:Bool} {er:Int} {e:Ending} (hr:r=(s,er)) (hb:bd=s.bad) (h:zaJ w r e w'):zow s bd er w e w':=by
 subst hr hb
 exact h
theorem zjo (w:World) (s:zl) (bd:Bool) (hbd:bd=s.bad) (a1 a2 b1 b2:Option Addr) (n1 n2 m1 m2 c1 c2 d1 d2:Nat) (ha:zY w s (.slice a1 n1 c1) (.slice a2 n2 c2)) (hb:zY w s (.slice b1 m1 d1) (.slice b2 m2 d2)):
  Calls Tryz.prog 17 #[.agg #[.slice a1 n1 c1, .slice a2 n2 c2, .bool bd], .agg #[.slice b1 m1 d1, .slice b2 m2 d2, .bool bd]] w λe w'=>e= .returned (.bool true)/\Below w.heap.size w w':=by
 subst hbd
 have h:=zrq w s s _ _ _ _ ha hb
 rw [decide_eq_true rfl] at h
 exact h
theorem zqI {c:zI} (h:codeOk c=true) (q:Int):vO c (zdQ q)=true:=by
 unfold vO zdQ
 simp only [Bool.and_eq_true,decide_eq_true_eq]
 have h1:=Int.emod_nonneg q (show(3:Int)≠0 by omega)
 have h2:=Int.emod_lt_of_pos q (show(0:Int)<3 by omega)
 have h3:=Int.emod_nonneg (q / 3) (show(3:Int)≠0 by omega)
 have h4:=Int.emod_lt_of_pos (q / 3) (show(0:Int)<3 by omega)
 exact⟨⟨⟨⟨h,by omega⟩,by omega⟩,by omega⟩,by omega⟩
theorem zjZ {x:Int} (h:(Lit.int .u8 x).wf=true):0<=x/\x<=255:=by
 constructor
 ·simp [Lit.wf,IntKind.min,IntKind.max,IntKind.signed] at h;omega
 simp [Lit.wf,IntKind.min,IntKind.max,IntKind.signed,IntKind.bits] at h;omega
end Go.Proofs.YtliajkheeniljaaGreatDoor
namespace Go.Proofs.YtliajkheeniljaaGreatDoor
open Go.RowKit
set_option maxRecDepth 100000
set_option maxHeartbeats 16000000
inductive zlv (c:zI) (m:zF) (d:Nat):zl->Prop
 |start:zlv c m d (qJ c)
 |step {s:zl} {x:zq} :zlv c m d s->x∈qE c m s d->zlv c m d (qC c m s x d).1
def z5C (w:World) (c:zI) (m:zF) (d:Nat) (en:Ending) (w':World):Prop:=(∃s tv mv bs,en= .returned (yB s tv mv)/\zlv c m d s/\OwnAt w.heap.size w' tv mv s.threads s.mem bs)/\Below w.heap.size w w'
def WF (w:World) (gs gr k:Nat):Prop:=k<w.heap.size\/k=gs\/k=gr
structure z8n (w V X:World) (gs gr:Nat) (c:zI) (m:zF) (d:Nat) (s:zl) (tv mv:Value):Prop where
 since:Since (λk=>k=gs) V X
 below:Below w.heap.size w V
 lo:w.heap.size<=gs/\w.heap.size<=gr/\gs≠gr
 box:X.heap[gs]? =some (.cells #[tv,mv, .bool s.bad] 30 (0,0))
 res:V.heap[gr]? =some (.cells #[.slice none 0 0, .slice none 0 0, .bool false] 30 (0,0))
 own:∃bs,OwnAt w.heap.size X tv mv s.threads s.mem bs/\∀k,k=gs\/k=gr->tv.ownBlock≠some k/\mv.ownBlock≠some k/\∀j,j<s.threads.length->(bs.getD j (.slice none 0 0)).ownBlock≠some k
 come:zlv c m d s
section
variable {w V X Y:World} {gs gr d:Nat} {c:zI} {m:zF} {s:zl} {tv mv:Value}
end
end Go.Proofs.YtliajkheeniljaaGreatDoor
namespace Go.Proofs.YtliajkheeniljaaGreatDoor
open Go.RowKit
set_option maxRecDepth 100000
set_option maxHeartbeats 16000000
def zv8 (s:zl) (bd:Bool) (w:World) (e:Ending) (w':World):Prop:=(∃(a b:Option Addr) (n c k f:Nat) (er:Int),e= .returned (.tuple #[.agg #[.slice a n c, .slice b k f, .bool bd], .int .i64 er])/\zZ (λk=>k<w.heap.size) w' (λy=>qp y s [.slice a n c, .slice b k f, .bool bd]))/\Below w.heap.size w w'
theorem z4f (w:World) (c:zI) (tv:Value) (h:yQ 3 w tv c.threads) (m:zF) (s:zl) (hb:kC 33 s) (sv mv:Value) (hs:zY w s sv mv) (x:zq):Calls Tryz.prog 37 #[yD c tv,yY m,yB s sv mv,zaD x] w (zv8 (qC c m s x 3).1 (qC c m s x 3).1.bad w):=by
 refine(zrr w c tv 3 h m s sv mv hs (λj hj=>Nat.le_trans (hb j hj) (by omega)) x).mono ?_
 rintro e w' ⟨⟨xa,xn,xc,ya,yn,yc,bs,rfl,ho⟩,hb⟩
 exact⟨⟨xa,ya,xn,xc,yn,yc,_,rfl,zsI ho (λk hk=>hk)⟩,hb⟩
theorem zeX {y:World} {s:zl} {a b c:Value} (h:qp y s [a,b,c]):zY y s a b:=by
 obtain⟨tv,mv,he,hs⟩:=h
 simp only [List.cons.injEq,and_true] at he
 obtain⟨rfl,rfl, -⟩:=he
 exact hs
section
variable {W X X1 Y:World} {P:World->Prop} {v v':Value} {l:List zl} {css:List (List Value)} {B gs:Nat}
theorem zo5 {F:Nat->Prop} (h:zZ F X P) (hb:Below X.heap.size X Y):zZ F Y P:=h.step (G:=λ_=>False) (qw _ hb) (λ_ h=>h.elim) (λ_ hk=> .inl hk)
structure z8o (W X:World) (v:Value) (l:List zl) (css:List (List Value)):Prop where
 below:Below W.heap.size W X
 st:xq (λk=>v.ownBlock=some k) X qp 3 W.heap.size 30 v l css
end
def z19 (l:List zq) (n:Nat) (w:World) (e:Ending) (w':World):Prop:=(∃(va:Option Addr) (vc:Nat),e= .returned (.slice va n vc)/\zZ (λk=>k<w.heap.size) w' (λy=>qj y (.slice va n vc) l))/\Below w.heap.size w w'
theorem zwL (w:World) (c:zI) (tv:Value) (h:yQ 3 w tv c.threads) (m:zF) (s:zl) (hb:kC 33 s) (sv mv:Value) (hs:zY w s sv mv):Calls Tryz.prog 36 #[yD c tv,yY m,yB s sv mv] w (z19 (qE c m s 3) (qE c m s 3).length w):=by
 refine(zrs w c tv 3 h m s sv mv hs (λj hj=>Nat.le_trans (hb j hj) (by omega))).mono ?_
 rintro e w' ⟨⟨va,vc,rfl,ho⟩,hb⟩
 exact⟨⟨va,vc,rfl,λy hy=>jJ (hy.row ho (λk hk e=>by have:=(ho.lt k hk).1;omega))⟩,hb⟩
end Go.Proofs.YtliajkheeniljaaGreatDoor
namespace Go.Proofs.YtliajkheeniljaaGreatDoor
open Go.RowKit
set_option maxRecDepth 100000
set_option maxHeartbeats 16000000
structure wU (W X:World) (gs:Nat) (lv:Value) (s:zl) (l:List zq) (tv mv:Value):Prop where
 below:Below W.heap.size W X
 lo:W.heap.size<=gs
 box:X.heap[gs]? =some (.cells #[tv,mv, .bool s.bad] 30 (0,0))
 row:X.ownsRow W.heap.size 32 3 lv l.length (zo zq.cells l)
 st:zZ (λk=>lv.ownBlock=some k\/k=gs) X (λy=>qp y s [tv,mv, .bool s.bad])
section
variable {W X X1 Y:World} {gs:Nat} {lv lv' tv mv pv qv:Value} {s t:zl} {l:List zq} {x:zq}
theorem wU.apart (h:wU W X gs lv s l tv mv):∀k,lv.ownBlock=some k->k≠gs:=xW h.row h.box (by decide)
theorem wU.call (h:wU W X gs lv s l tv mv) (hb:Below X.heap.size X Y):wU W Y gs lv s l tv mv:=⟨zG h.below hb,h.lo,(hb.block _ (zx h.box)).trans h.box,xO h.row hb,zo5 h.st hb⟩
theorem wU.start (hb:Below W.heap.size W X) (ha:zZ (λk=>k<W.heap.size) X (λy=>qp y s [tv,mv, .bool s.bad])):wU W (X.alloc (.cells #[tv,mv, .bool s.bad] 30)) X.heap.size (.slice none 0 0) s [] tv mv:=
 ⟨zG hb ((Below.refl _ _).alloc (Nat.le_refl _) _),hb.size,yj X _,World.ownsRow_nil _ _ _ _,ha.step (G:=λ_=>False) ((Since.refl _ X).alloc _) (λ_ h=>h.elim) (λk hk=>hk.elim (λe=>by simp [Value.ownBlock] at e) (λe=> .inr (Nat.le_of_eq e.symm)))⟩
theorem wU.push (h:wU W X gs lv s l tv mv) {o:Obj} (h1:X1.ownsRow W.heap.size 32 3 lv' (l.length+1) (zo zq.cells l++zq.cells x))
  (h4:Since (λk=>lv.ownBlock=some k) (X.alloc o) X1) (h5:∀k,lv'.ownBlock=some k->lv.ownBlock=some k\/k=(X.alloc o).heap.size):wU W X1 gs lv' s (l++ [x]) tv mv:=by
 have s1:Since (λk=>lv.ownBlock=some k) X X1:=((Since.refl _ X).alloc o).trans h4 (λk hk=> .inl hk)
 refine⟨h.below.trans (s1.below h.below.size (λk e=>(h.row.lt k e).1)),h.lo,ztK h.row h.box (by decide) h4, ?_,h.st.step s1 (λk hk=> .inl (.inl hk)) (λk hk=> ?_)⟩
 ·rw [List.length_append,show zo zq.cells (l++ [x])=zo zq.cells l++zq.cells x by simp [zo]]
  exact h1
 rcases hk with hk|hk
 ·rcases h5 k hk with h6|h6
  ·exact .inl (.inl h6)
  refine .inr ?_;simp at h6;omega
 exact .inl (.inr hk)
theorem wU.put (h:wU W X gs lv s l tv mv) (hb:Below X.heap.size X Y) (ha:zZ (λk=>k<X.heap.size) Y (λy=>qp y t [pv,qv, .bool t.bad])):wU W (yI Y gs 0 [pv,qv, .bool t.bad]) gs lv t l pv qv:=by
 have s1:=qd (g:=gs) [pv,qv, .bool t.bad] Y 0
 have h2:=h.call hb
 refine⟨h2.below.trans (s1.below h2.below.size (λk hk=>hk ▸ h.lo)),h.lo,qZ (cs:= [tv,mv, .bool s.bad]) _ rfl h2.box,s1.row h2.row (λk hk e=>h.apart k hk e),ha.step s1 (λk hk=> .inl (hk ▸ zx h.box)) (λk hk=> .inl ?_)⟩
 rcases hk with hk|hk
 ·exact(h.row.lt k hk).2
 exact hk ▸ zx h.box
end
theorem zzv (l:List zq) (x:zq):∀(r:Nat),r<l.length->(((zo zq.cells l).set (r*3) (.int .i64 x.kind)).set (r*3+1) (.int .i64 x.thread)).set (r*3+2) (.int .i64 x.var)=zo zq.cells (l.set r x):=by
 induction l with
 |nil=>intro r hr;simp at hr
 |cons y l ih=>
 intro r hr
 cases r with
 |zero=>simp [zo,zq.cells]
 |succ r=>
 have:=ih r (by simpa using hr)
 have e:(r+1)*3=r*3+3:=by omega
 simp only [zo,List.flatMap_cons,zq.cells,List.set_cons_succ,List.cons_append,List.nil_append,e,show r*3+3+1=(r*3+1)+3 by omega,show r*3+3+2=(r*3+2)+3 by omega] at this ⊢
 rw [<-this]
theorem zqN {X:World} {B g n cap r:Nat} {l:List zq} (h:X.ownsRow B 32 3 (.slice (some ⟨g,0,none⟩) n cap) n (zo zq.cells l)) (hn:n=l.length) (hr:r<n) (x:zq):
  qj (((X.setCell ⟨g,r*3,none⟩ (.int .i64 x.kind)).setCell ⟨g,r*3+1,none⟩ (.int .i64 x.thread)).setCell ⟨g,r*3+2,none⟩ (.int .i64 x.var)) (.slice (some ⟨g,0,none⟩) n cap) (l.set r x):=by
 have h2:=wE (wE (wE h (j:=r*3) (.int .i64 x.kind)) (j:=r*3+1) (.int .i64 x.thread)) (j:=r*3+2) (.int .i64 x.var)
 rw [zzv l x r (by omega)] at h2
 subst hn
 have h3:=h2
 rw [show l.length=(l.set r x).length by simp] at h3
 have:=jJ h3
 rwa [show(l.set r x).length=l.length by simp] at this
def z1A (s:zl) (bd:Bool) (w:World) (e:Ending) (w':World):Prop:=(∃(a b:Option Addr) (n c k f:Nat),e= .returned (.agg #[.slice a n c, .slice b k f, .bool bd])/\zZ (λk=>k<w.heap.size) w' (λy=>qp y s [.slice a n c, .slice b k f, .bool bd]))/\Below w.heap.size w w'
theorem zwK (w:World) (c:zI) (tv:Value) (h:yQ 3 w tv c.threads):Calls Tryz.prog 19 #[yD c tv] w (z1A (qJ c) (qJ c).bad w):=by
 refine(zjg w c tv 3 h).mono ?_
 rintro e w' ⟨⟨sv,mv,rfl,hs⟩,hb⟩
 obtain⟨a,c1,rfl, -⟩:=zh.slice hs.now.threads
 obtain⟨b,k,rfl, -⟩:=zh.slice hs.now.mem
 exact⟨⟨a,b,_,c1,_,k,rfl,λy hy=>⟨_,_,rfl,hs y hy⟩⟩,hb⟩
structure z1B (S0:zl) (MV:zl->List zq) (DO:zl->zq->zl) (RPL:List zq->zl × Int):Prop where
 zero:RPL [] =(S0,0)
 step:∀l s x,RPL l=(s,0)->x∈MV s->RPL (l++ [x])=(DO s x,0)
 z1r:kC 33 S0
 z4i:∀s x,kC 33 (DO s x)
theorem zyH {c:zI} {m:zF} (hm:vO c m=true):z1B (qJ c) (λs=>qE c m s 3) (λs x=>(qC c m s x 3).1) (λl=>jA c m l 3):=by
 have hr:∀l,jA c m l 3=vC c m 3 (qJ c) l:=λl=>by unfold jA;rw [hm,if_pos rfl]
 refine⟨by show jA c m [] 3=_;rw [hr];rfl,λl s x h hx=> ?_,zdB c,λs x=>zis⟩
 show jA c m (l++ [x]) 3=_
 have h2:jA c m l 3=(s,0):=h
 rw [hr] at h2
 rw [hr,zlp x l _ s h2 (zwS hx)]
