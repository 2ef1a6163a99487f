/- Steps. -/
import Derived.Test.YtnhahkiojbanfaaGreatDoorRsOwnS
set_option linter.all false
namespace Go.Proofs.YtnhahkiojbanfaaGreatDoor
open Go.RowKit
set_option maxRecDepth 100000
set_option maxHeartbeats 16000000
theorem zh4 {α:Type} [Inhabited α] {l r:List α} (hl:l.length=r.length) (h:∀j,j<l.length->l.getD j default=r.getD j default):l=r:=by
 apply List.ext_getElem hl
 intro j h1 h2
 have:=h j h1
 rwa [List.getD_eq_getElem?_getD,List.getD_eq_getElem?_getD,List.getElem?_eq_getElem h1,List.getElem?_eq_getElem h2] at this
theorem zh5 {α:Type} [Inhabited α] {l r:List α} (j:Nat) (h:l.getD j default≠r.getD j default):l≠r:=λe=>h (by rw [e])
theorem zsx (w:World) (va vb:Value) (la lb:List zl) (ha:zZ w va la) (hb:zZ w vb lb):
  Calls Tryz.prog 31 #[va,vb] w λe w'=>e= .returned (.bool (decide (la=lb)))/\Below w.heap.size w w':=by
 obtain⟨aa,ac,rfl,hal⟩:=zh.slice ha
 obtain⟨ba,bc,rfl,hbl⟩:=zh.slice hb
 obtain⟨n,hn⟩:∃n,n=la.length:=⟨_,rfl⟩
 obtain⟨m,hm⟩:∃m,m=lb.length:=⟨_,rfl⟩
 rw [<-hn] at ha hal ⊢
 rw [<-hm] at hb hbl ⊢
 have HA:=qh ha
 have HB:=qh hb
 have HN:=qh hn
 have HM:=qh hm
 have uW:Hid (la≠lb->decide (la=lb)=false):=λe=>decide_eq_false e
 have wK:Hid (la=lb->decide (la=lb)=true):=λe=>decide_eq_true e
 obtain⟨r,hr⟩:∃r,r=decide (la=lb):=⟨_,rfl⟩
 rw [<-hr] at uW wK ⊢
 clear ha hb hn hm hr
 by_cases hl:n=m
 rotate_left
 ·obtain rfl:=uW.out (λe=>hl (by rw [HN.out,HM.out,e]))
  have hl2:((n:Int) !=(m:Int))=true:=by simp;omega
  go_enter Tryz.func31,Tryz.ntmps31
  go_wp2_with fail
  go_ret
  exact⟨rfl,Below.refl _ _⟩
 subst hl
 have HL:Hid (la.length=lb.length):=by rw [Hid, <-HN.out, <-HM.out]
 go_enter Tryz.func31,Tryz.ntmps31
 go_wp2_with fail
 go_loopg [5] n (λgg s5 wr=>∃i:Nat,i<=n/\Hid (gg=n - i)/\s5= .int .i64 i/\Hid (Below w.heap.size w wr)/\Hid (∀j,j<i->la.getD j default=lb.getD j default))
 case atStart=>exact⟨0,Nat.zero_le _,rfl,rfl,Below.refl _ _,λj hj=>by omega⟩
 case round=>
 obtain⟨i,hi,HG,rfl,zL,HJ⟩:=hrel
 by_cases hlt:i<n
 rotate_left
 ·obtain rfl:n=i:=by omega
  obtain rfl:=wK.out (zh4 HL.out (by rw [<-HN.out];exact HJ.out))
  go_wp2_with fail
  go_ret
  exact⟨rfl,zL.out⟩
 have qN:(i:Int)<(n:Int):=by omega
 obtain⟨a1,a2,yh, -,x0,x1⟩:=zZ.part HA.out i (by rw [<-HN.out];exact hlt)
 obtain⟨b1,b2,pq, -,y0,y1⟩:=zZ.part HB.out i (by rw [<-HM.out];exact hlt)
 subst yh
 subst pq
 replace x0:=zk zL.out _ _ x0
 replace x1:=zk zL.out _ _ x1
 replace y0:=zk zL.out _ _ y0
 replace y1:=zk zL.out _ _ y1
 have kU:Hid (la.getD i default≠lb.getD i default->r=false):=λh=>uW.out (zh5 i h)
 have gK:Hid (la.getD i default=lb.getD i default->∀j,j<i+1->la.getD j default=lb.getD j default):=λe j hj=>by
  by_cases he:j=i
  ·subst he;exact e
  exact HJ.out j (by omega)
 generalize la.getD i default=ea at x0 x1 kU gK
 generalize lb.getD i default=eb at y0 y1 kU gK
 obtain⟨p,q⟩:=ea
 obtain⟨p',q'⟩:=eb
 simp only [] at x0 x1 y0 y1
 by_cases h1:p=p'
 ·subst h1
  by_cases h2:q=q'
  ·subst h2
   go_wp2_with fail
   go_quiet (fail)
   go_wp2_with fail
   go_roundg (n - (i+1))
   case measure=>rw [HG.out];omega
   case rel=>exact⟨i+1,by omega,rfl,by simp,yg zL.out _,gK.out (by trivial)⟩
  obtain rfl:=kU.out (by simp [h2])
  go_wp2_with fail
  go_quiet (fail)
  go_wp2_with fail
  go_ret
  exact⟨by first|rfl|simp,yg zL.out _⟩
 obtain rfl:=kU.out (by simp [h1])
 go_wp2_with fail
 go_quiet (fail)
 go_wp2_with fail
 go_ret
 exact⟨by first|rfl|simp,yg zL.out _⟩
theorem zfI:∃i,Tryz.prog.info? 3=some i/\i.size=1:=by
 have h:(Tryz.prog.info? 3).map (λi=>i.size)=some 1:=by kernel_rfl
 cases hq:Tryz.prog.info? 3 with
 |none=>rw [hq] at h;cases h
 |some i=>rw [hq] at h;exact⟨i,rfl,by simpa using h⟩
theorem zpQ:Tryz.prog.cellsOf 3=1:=by kernel_rfl
theorem ziG:Tryz.prog.underlying 3=some (.int .i64):=by kernel_rfl
theorem ziH:Tryz.prog.underlying 77=some (.array 4 3):=by kernel_rfl
theorem zgO (d:Nat) (w:World) (a b:Int):(Op.equalIn (d+1) 3 (.int .i64 a) (.int .i64 b)).run Tryz.prog w= .ok (a==b) w:=by
 simp [Op.equalIn,run_underlying ziG]
theorem kg (w:World) (xs:Array Value) (j:Nat) (a:Int) (h:xs[j]? =some (.int .i64 a)):(part 3 xs j).run Tryz.prog w= .ok (.int .i64 a) w:=by
 obtain⟨i,hi,hs⟩:=zfI
 have hagg:(isAgg 3).run Tryz.prog w= .ok false w:=by
  unfold isAgg
  rw [Sem.run_bind,run_underlying ziG w]
  rfl
 simp [part,Sem.run_bind,hagg,h]
@[go_sem] theorem z2G (w:World) (q0 q1 q2 q3 p0 p1 p2 p3:Int):(Op.equalIn 10000 77 (.agg #[.int .i64 q0, .int .i64 q1, .int .i64 q2, .int .i64 q3]) (.agg #[.int .i64 p0, .int .i64 p1, .int .i64 p2, .int .i64 p3])).run Tryz.prog w
  = .ok (decide (([q0,q1,q2,q3] :List Int)= [p0,p1,p2,p3])) w:=by
 obtain⟨i,hi,hs⟩:=zfI
 rw [run_equalIn_array w 9999 _ _ ziH hi,zpQ]
 have e:List.range 4= [0,1,2,3] :=rfl
 rw [e]
 have g0:=λ(w:World) (a b c d:Int)=>kg w #[.int .i64 a, .int .i64 b, .int .i64 c, .int .i64 d] 0 a rfl
 have g1:=λ(w:World) (a b c d:Int)=>kg w #[.int .i64 a, .int .i64 b, .int .i64 c, .int .i64 d] 1 b rfl
 have g2:=λ(w:World) (a b c d:Int)=>kg w #[.int .i64 a, .int .i64 b, .int .i64 c, .int .i64 d] 2 c rfl
 have g3:=λ(w:World) (a b c d:Int)=>kg w #[.int .i64 a, .int .i64 b, .int .i64 c, .int .i64 d] 3 d rfl
 have ge:=zgO 9998
 by_cases h0:q0=p0
 ·by_cases h1:q1=p1
  ·by_cases h2:q2=p2
   ·by_cases h3:q3=p3
    ·simp [Op.eqItems,g0,g1,g2,g3,ge,h0,h1,h2,h3]
    simp [Op.eqItems,g0,g1,g2,g3,ge,h0,h1,h2,h3]
   simp [Op.eqItems,g0,g1,g2,g3,ge,h0,h1,h2]
  simp [Op.eqItems,g0,g1,g2,g3,ge,h0,h1]
 simp [Op.eqItems,g0,g1,g2,g3,ge,h0]
theorem zsy {s t:zi} (h:s.threads≠t.threads):s≠t:=λe=>h (by rw [e])
theorem zsz {s t:zi} (h:s.mem≠t.mem):s≠t:=λe=>h (by rw [e])
theorem zs3 {s t:zi} (h:s.bad≠t.bad):s≠t:=λe=>h (by rw [e])
theorem zs4 {α:Type} {l r:List α} (h:l.length≠r.length):l≠r:=λe=>h (by rw [e])
theorem zjD (w:World) (s t:zi) (sa sb ta tb:Value) (hs:zX w s sa sb) (ht:zX w t ta tb):
  Calls Tryz.prog 16 #[yA s sa sb,yA t ta tb] w λe w'=>e= .returned (.bool (decide (s=t)))/\Below w.heap.size w w':=by
 obtain⟨sa1,sac,rfl,hsl⟩:=zh.slice hs.threads
 obtain⟨sb1,sbc,rfl,hsm⟩:=zh.slice hs.mem
 obtain⟨ta1,tac,rfl,htl⟩:=zh.slice ht.threads
 obtain⟨tb1,tbc,rfl,htm⟩:=zh.slice ht.mem
 have zpR:Hid (s.threads≠t.threads->decide (s=t)=false):=λh=>decide_eq_false (zsy h)
 have zbL:Hid (s.mem≠t.mem->decide (s=t)=false):=λh=>decide_eq_false (zsz h)
 have zvp:Hid (s.bad≠t.bad->decide (s=t)=false):=λh=>decide_eq_false (zs3 h)
 have wK:Hid (s.threads=t.threads->s.mem=t.mem->s.bad=t.bad->decide (s=t)=true):=λh1 h2 h3=>decide_eq_true (by cases s;cases t;simp only [] at h1 h2 h3;rw [h1,h2,h3])
 obtain⟨r,hr⟩:∃r,r=decide (s=t):=⟨_,rfl⟩
 rw [<-hr] at zpR zbL zvp wK ⊢
 clear hr
 have h1:=hs.threads
 have h2:=hs.mem
 have h3:=ht.threads
 have h4:=ht.mem
 clear hs ht
 unfold yA
 obtain⟨tl,sm,ze5⟩:=s
 obtain⟨tl',tm,zh6⟩:=t
 simp only [] at h1 h2 h3 h4 hsl hsm htl htm zpR zbL zvp wK ⊢
 obtain⟨n,hn⟩:∃n,n=tl.length:=⟨_,rfl⟩
 obtain⟨n',hn'⟩:∃n,n=tl'.length:=⟨_,rfl⟩
 obtain⟨m,hm⟩:∃m,m=sm.length:=⟨_,rfl⟩
 obtain⟨m',hm'⟩:∃m,m=tm.length:=⟨_,rfl⟩
 rw [<-hn] at h1 hsl ⊢
 rw [<-hn'] at h3 htl ⊢
 rw [<-hm] at h2 hsm ⊢
 rw [<-hm'] at h4 htm ⊢
 have hB:=xO w (.cells #[.slice sa1 n sac, .slice sb1 m sbc, .bool ze5] 42) (.cells #[.slice ta1 n' tac, .slice tb1 m' tbc, .bool zh6] 42)
 have H1:=qh (xP w (.cells #[.slice sa1 n sac, .slice sb1 m sbc, .bool ze5] 42) (.cells #[.slice ta1 n' tac, .slice tb1 m' tbc, .bool zh6] 42))
 have H2:=qh (xw w (.cells #[.slice sa1 n sac, .slice sb1 m sbc, .bool ze5] 42) (.cells #[.slice ta1 n' tac, .slice tb1 m' tbc, .bool zh6] 42))
 have HT1:=qh (zh.below wN.stays h1 hB)
 have HM1:=qh (zh.below zae.stays h2 hB)
 have HT2:=qh (zh.below wN.stays h3 hB)
 have HM2:=qh (zh.below zae.stays h4 hB)
 have HB:=qh hB
 have HN:=qh hn
 have HN':=qh hn'
 have HM:=qh hm
 have HM':=qh hm'
 clear h1 h2 h3 h4 hB hn hn' hm hm'
 go_enter Tryz.func16,Tryz.ntmps16
 go_upto_region 1 with fail
 generalize World.alloc (World.alloc w _) _=W at HB H1 H2 HT1 HM1 HT2 HM2 ⊢
 obtain⟨gx,hgx⟩:∃gx,gx=w.heap.size:=⟨_,rfl⟩
 rw [<-hgx] at H1 H2 ⊢
 clear hgx
 have HC:Hid (∀x,Below W.heap.size W x->x.cell? ⟨gx,0,none⟩=some (.slice sa1 n sac)/\x.cell? ⟨gx,1,none⟩=some (.slice sb1 m sbc)/\x.cell? ⟨gx,2,none⟩=some (.bool ze5)/\x.cell? ⟨gx+1,0,none⟩=some (.slice ta1 n' tac)/\x.cell? ⟨gx+1,1,none⟩=some (.slice tb1 m' tbc)/\x.cell? ⟨gx+1,2,none⟩=some (.bool zh6)):=λx hx=>
  ⟨zk hx _ _ (ze H1.out 0),zk hx _ _ (ze H1.out 1),zk hx _ _ (ze H1.out 2),zk hx _ _ (ze H2.out 0),zk hx _ _ (ze H2.out 1),zk hx _ _ (ze H2.out 2)⟩
 have yG:Hid (∀x,Below W.heap.size W x->Below w.heap.size w x):=λx hx=>HB.out.trans (hx.mono HB.out.size)
 obtain⟨c0,c1,c2,c3,c4,c5⟩:=HC.out W (Below.refl _ _)
 by_cases hnn:n=n'
 rotate_left
 ·obtain rfl:=zpR.out (zs4 (by rw [<-HN.out, <-HN'.out];exact hnn))
  have hn0:((n:Int) !=(n':Int))=true:=by simp;omega
  go_wp2_with fail
  go_ret
  exact⟨by first|rfl|simp,yG.out _ (Below.refl _ _)⟩
 by_cases hmm:m=m'
 rotate_left
 ·obtain rfl:=zbL.out (zs4 (by rw [<-HM.out, <-HM'.out];exact hmm))
  have hm0:((m:Int) !=(m':Int))=true:=by simp;omega
  subst hnn
  go_wp2_with fail
  go_ret
  exact⟨by first|rfl|simp,yG.out _ (Below.refl _ _)⟩
 by_cases hbb:ze5=zh6
 rotate_left
 ·obtain rfl:=zvp.out hbb
  subst hnn
  subst hmm
  have hb0:(ze5==zh6)=false:=by cases ze5<;>cases zh6<;>simp_all
  clear hbb
  go_wp2_with fail
  go_ret
  exact⟨by first|rfl|simp,yG.out _ (Below.refl _ _)⟩
 subst hnn
 subst hmm
 subst hbb
 have hb0:(ze5 !=ze5)=false:=by simp
 go_wp2_with fail
 clear c0 c1 c2 c3 c4 c5 hb0
 go_loopg [5] m (λgg s5 wr=>∃i:Nat,i<=m/\Hid (gg=m - i)/\s5= .int .i64 i/\Hid (Below W.heap.size W wr)/\Hid (∀j,j<i->sm.getD j default=tm.getD j default))
 case atStart=>exact⟨0,Nat.zero_le _,rfl,rfl,Below.refl _ _,λj hj=>by omega⟩
 case round=>
 obtain⟨i,hi,HG,rfl,zL,HJ⟩:=hrel
 obtain⟨c0,c1,c2,c3,c4,c5⟩:=HC.out wr zL.out
 by_cases hlt:i<m
 ·have qN:(i:Int)<(m:Int):=by omega
  obtain⟨a1,a2,yh, -,x0⟩:=qm.part HM1.out i (by rw [<-HM.out];exact hlt)
  obtain⟨b1,b2,pq, -,y0⟩:=qm.part HM2.out i (by rw [<-HM'.out];exact hlt)
  subst yh
  subst pq
  replace x0:=zk zL.out _ _ x0
  replace y0:=zk zL.out _ _ y0
  have kU:Hid (sm.getD i 0≠tm.getD i 0->r=false):=λh=>zbL.out (zh5 i h)
  have gK:Hid (sm.getD i 0=tm.getD i 0->∀j,j<i+1->sm.getD j default=tm.getD j default):=λe j hj=>by
   by_cases he:j=i
   ·subst he;exact e
   exact HJ.out j (by omega)
  generalize sm.getD i 0=p at x0 kU gK
  generalize tm.getD i 0=q at y0 kU gK
  by_cases h1:p=q
  ·subst h1
   go_wp2_with fail
   go_quiet (fail)
   go_wp2_with fail
   go_roundg (m - (i+1))
   case measure=>rw [HG.out];omega
   case rel=>exact⟨i+1,by omega,rfl,by simp,yg zL.out _,gK.out (by trivial)⟩
  obtain rfl:=kU.out (by simp [h1])
  go_wp2_with fail
  go_quiet (fail)
  go_wp2_with fail
  go_ret
  exact⟨by first|rfl|simp,yG.out _ (yg zL.out _)⟩
 obtain rfl:m=i:=by omega
 have hmem:sm=tm:=zh4 (by rw [<-HM.out, <-HM'.out]) (by rw [<-HM.out];exact HJ.out)
 have zj0:=qh hmem
 clear hmem
 go_wp2_with fail
 clear c0 c1 c2 c3 c4 c5
 go_loopg [6] n (λgg s6 wr=>∃i:Nat,i<=n/\Hid (gg=n - i)/\s6= .int .i64 i/\Hid (Below W.heap.size W wr)/\Hid (∀j,j<i->tl.getD j default=tl'.getD j default))
 case atStart=>exact⟨0,Nat.zero_le _,rfl,rfl,zL.out,λj hj=>by omega⟩
 case round=>
 obtain⟨i,hi,HG6,rfl,HBI,HJ6⟩:=hrel
 obtain⟨wo,rfl⟩:∃wo:World,wo=wr:=⟨_,rfl⟩
 by_cases hlt:i<n
 rotate_left
 ·obtain rfl:n=i:=by omega
  obtain rfl:=wK.out (zh4 (by rw [<-HN.out, <-HN'.out]) (by rw [<-HN.out];exact HJ6.out)) zj0.out (by trivial)
  obtain⟨c0,c1,c2,c3,c4,c5⟩:=HC.out wo HBI.out
  go_wp2_with fail
  go_ret
  exact⟨by first|rfl|simp,yG.out _ HBI.out⟩
 have qN:(i:Int)<(n:Int):=by omega
 obtain⟨a1,a2,ba,bc,yh, -,hr4,x0,x1,x2,x3,x4,x5,hbuf⟩:=qG.part HT1.out i (by rw [<-HN.out];exact hlt)
 obtain⟨b1,b2,ba',bc',pq, -,zpS,y0,y1,y2,y3,y4,y5,ziL⟩:=qG.part HT2.out i (by rw [<-HN'.out];exact hlt)
 subst yh
 subst pq
 have kU:Hid (tl.getD i default≠tl'.getD i default->r=false):=λh=>zpR.out (zh5 i h)
 have gK:Hid (tl.getD i default=tl'.getD i default->∀j,j<i+1->tl.getD j default=tl'.getD j default):=λe j hj=>by
  by_cases he:j=i
  ·subst he;exact e
  exact HJ6.out j (by omega)
 generalize tl.getD i default=ea at x0 x1 x2 x3 x4 x5 hbuf hr4 kU gK
 generalize tl'.getD i default=eb at y0 y1 y2 y3 y4 y5 ziL zpS kU gK
 obtain⟨pc,rg,bf⟩:=ea
 obtain⟨pc',rg',bf'⟩:=eb
 simp only [] at x0 x1 x2 x3 x4 x5 hbuf hr4 y0 y1 y2 y3 y4 y5 ziL zpS
 obtain⟨q0,q1,q2,q3,rfl⟩:=wO hr4
 obtain⟨p0,p1,p2,p3,rfl⟩:=wO zpS
 simp only [List.getD_cons_zero,List.getD_cons_succ] at x1 x2 x3 x4 y1 y2 y3 y4
 obtain⟨bl,hbl⟩:∃bl,bl=bf.length:=⟨_,rfl⟩
 obtain⟨bl',zvq⟩:∃bl,bl=bf'.length:=⟨_,rfl⟩
 rw [<-hbl] at x5 hbuf
 rw [<-zvq] at y5 ziL
 have HX:Hid (∀y,Below wo.heap.size wo y->(y.cell? ⟨gx,0,none⟩=some (.slice (some ⟨a1,a2,none⟩) n sac)/\y.cell? ⟨gx+1,0,none⟩=some (.slice (some ⟨b1,b2,none⟩) n tac)/\y.cell? ⟨a1,a2+i*6,none⟩=some (.int .i64 pc)/\y.cell? ⟨a1,a2+i*6+1,none⟩=some (.int .i64 q0)/\y.cell? ⟨a1,a2+i*6+2,none⟩=some (.int .i64 q1)/\y.cell? ⟨a1,a2+i*6+3,none⟩=some (.int .i64 q2)/\y.cell? ⟨a1,a2+i*6+4,none⟩=some (.int .i64 q3)/\y.cell? ⟨a1,a2+i*6+5,none⟩=some (.slice ba bl bc)/\
   y.cell? ⟨b1,b2+i*6,none⟩=some (.int .i64 pc')/\y.cell? ⟨b1,b2+i*6+1,none⟩=some (.int .i64 p0)/\y.cell? ⟨b1,b2+i*6+2,none⟩=some (.int .i64 p1)/\y.cell? ⟨b1,b2+i*6+3,none⟩=some (.int .i64 p2)/\y.cell? ⟨b1,b2+i*6+4,none⟩=some (.int .i64 p3)/\y.cell? ⟨b1,b2+i*6+5,none⟩=some (.slice ba' bl' bc'))):=λy hy=>by
  have hw:=zH HBI.out hy
  obtain⟨c0, -, -,c3, -, -⟩:=HC.out y hw
  exact⟨c0,c3,zk hw _ _ x0,zk hw _ _ x1,zk hw _ _ x2,zk hw _ _ x3,zk hw _ _ x4,zk hw _ _ x5,zk hw _ _ y0,zk hw _ _ y1,zk hw _ _ y2,zk hw _ _ y3,zk hw _ _ y4,zk hw _ _ y5⟩
 have HBF:=qh (zZ.below hbuf HBI.out)
 have z6C:=qh (zZ.below ziL HBI.out)
 obtain⟨c0,c1,c2,c3,c4,c5⟩:=HC.out wo HBI.out
 have jd:=qh hbl
 have zAq:=qh zvq
 clear x0 x1 x2 x3 x4 x5 y0 y1 y2 y3 y4 y5 hbuf ziL hbl zvq hr4 zpS
 go_upto_region 11 with fail
 clear c0 c1 c2 c3 c4 c5
 go_cut [7,8] (λs7 s8 w'=>∃xb yb,s7= .pointer (some ⟨xb,0,none⟩)/\s8= .pointer (some ⟨yb,0,none⟩)/\Hid (Below wo.heap.size wo w')/\Hid (w'.heap[xb]? =some (.cells #[.int .i64 pc, .int .i64 q0, .int .i64 q1, .int .i64 q2, .int .i64 q3, .slice ba bl bc] 80 (0,0)))/\Hid (w'.heap[yb]? =some (.cells #[.int .i64 pc', .int .i64 p0, .int .i64 p1, .int .i64 p2, .int .i64 p3, .slice ba' bl' bc'] 80 (0,0))))
 case first=>
  have hT0:=qh (Loc.start wo).drew
  refine jf (S:=λx=>Below wo.heap.size wo x) (Below.refl _ _).drew (λ_=> ?_)
  obtain⟨wd,hwd⟩:∃wd,wd=wo.drew:=⟨_,rfl⟩
  rw [<-hwd] at hT0 ⊢
  clear hwd
  refine zF 0 zP (hT0.out.below) ?_
  refine zF 1 HX.out (hT0.out.below) ?_
  refine zF 2 zP (hT0.out.below) ?_
  refine zF 3 zP (hT0.out.below) ?_
  refine zF 4 HX.out (hT0.out.below) ?_
  refine zF 5 zP (hT0.out.below) ?_
  refine zF 6 HX.out (hT0.out.below) ?_
  refine zF 7 zP (hT0.out.below) ?_
  refine zF 8 zP (hT0.out.below) ?_
  refine zF 9 HX.out (hT0.out.below) ?_
  refine wpAnyH_ready (rs:= [10,11]) (by kernel_rfl) (by simp) ?_
  refine AllReadyH.cons rfl (λK hK=> ?_) (AllReadyH.cons rfl (λK hK=> ?_) AllReadyH.nil)
  ·skip
   go_simp
   have za3:=hT0.out.alloc 80 [.int .i64 0, .int .i64 0, .int .i64 0, .int .i64 0, .int .i64 0, .slice none 0 0]
   refine hK.out _ _ za3.below (λ_=> ?_)
   obtain⟨xb,hxb⟩:∃n,n=wd.heap.size:=⟨_,rfl⟩
   rw [<-hxb] at za3 ⊢
   clear hxb
   generalize World.alloc wd _=Xs2 at za3 ⊢
   replace za3:=qh za3
   clear hK K
   refine yC 11 rfl (λK hK=> ?_)
   go_simp
   have za5:xb≠Xs2.heap.size:=za3.out.zbB (List.mem_cons_self ..)
   have zaT:=za3.out.alloc 80 [.int .i64 0, .int .i64 0, .int .i64 0, .int .i64 0, .int .i64 0, .slice none 0 0]
   refine hK.out _ _ zaT.below (λ_=> ?_)
   obtain⟨yb,hyb⟩:∃n,n=Xs2.heap.size:=⟨_,rfl⟩
   rw [<-hyb] at zaT za5 ⊢
   clear hyb
   replace za5:=qh za5
   generalize World.alloc Xs2 _=Xs4 at zaT ⊢
   replace zaT:=qh zaT
   clear hK K
   refine yC 12 rfl (λK hK=> ?_)
   obtain⟨hn, -⟩:=zaT.out.news (xb,80, [.int .i64 0, .int .i64 0, .int .i64 0, .int .i64 0, .int .i64 0, .slice none 0 0]) (List.mem_cons_of_mem _ (List.mem_cons_self ..))
   have d0:=ze hn 0
   have f0:=zA hn 0
   have d1:=ze hn 1
   have f1:=zA hn 1
   have d2:=ze hn 2
   have f2:=zA hn 2
   have d3:=ze hn 3
   have f3:=zA hn 3
   have d4:=ze hn 4
   have f4:=zA hn 4
   have d5:=ze hn 5
   have f5:=zA hn 5
   clear hn
   have zj1:=zaT.out.store (g:=xb) (t:=80) (cs:= [.int .i64 0, .int .i64 0, .int .i64 0, .int .i64 0, .int .i64 0, .slice none 0 0]) (List.mem_cons_of_mem _ (List.mem_cons_self ..)) [.int .i64 pc, .int .i64 q0, .int .i64 q1, .int .i64 q2, .int .i64 q3, .slice ba bl bc] rfl
   replace zj1:=qh zj1
   go_simp
   clear d0 f0 d1 f1 d2 f2 d3 f3 d4 f4 d5 f5
   refine hK.out _ (yx Xs4 xb 0 [.int .i64 pc, .int .i64 q0, .int .i64 q1, .int .i64 q2, .int .i64 q3, .slice ba bl bc]) zj1.out.below (λ_=> ?_)
   generalize yx Xs4 xb 0 _=Xs6 at zj1 ⊢
   clear hK K
   refine yC 13 rfl (λK hK=> ?_)
   obtain⟨hn, -⟩:=zj1.out.news (yb,80, [.int .i64 0, .int .i64 0, .int .i64 0, .int .i64 0, .int .i64 0, .slice none 0 0]) (jL (List.mem_cons_self ..) (Ne.symm za5.out))
   have d0:=ze hn 0
   have f0:=zA hn 0
   have d1:=ze hn 1
   have f1:=zA hn 1
   have d2:=ze hn 2
   have f2:=zA hn 2
   have d3:=ze hn 3
   have f3:=zA hn 3
   have d4:=ze hn 4
   have f4:=zA hn 4
   have d5:=ze hn 5
   have f5:=zA hn 5
   clear hn
   have zh7:=zj1.out.store (g:=yb) (t:=80) (cs:= [.int .i64 0, .int .i64 0, .int .i64 0, .int .i64 0, .int .i64 0, .slice none 0 0]) (jL (List.mem_cons_self ..) (Ne.symm za5.out)) [.int .i64 pc', .int .i64 p0, .int .i64 p1, .int .i64 p2, .int .i64 p3, .slice ba' bl' bc'] rfl
   replace zh7:=qh zh7
   go_simp
   clear d0 f0 d1 f1 d2 f2 d3 f3 d4 f4 d5 f5
   refine hK.out _ (yx Xs6 yb 0 [.int .i64 pc', .int .i64 p0, .int .i64 p1, .int .i64 p2, .int .i64 p3, .slice ba' bl' bc']) zh7.out.below (λ_=> ?_)
   generalize yx Xs6 yb 0 _=Xs8 at zh7 ⊢
   clear hK K
   refine xW ?_
   obtain⟨hx, -⟩:=zh7.out.news (xb,80, [.int .i64 pc, .int .i64 q0, .int .i64 q1, .int .i64 q2, .int .i64 q3, .slice ba bl bc]) (jL (uS (List.mem_cons_of_mem _ (List.mem_cons_self ..))) za5.out)
   obtain⟨hy, -⟩:=zh7.out.news (yb,80, [.int .i64 pc', .int .i64 p0, .int .i64 p1, .int .i64 p2, .int .i64 p3, .slice ba' bl' bc']) (uS (jL (List.mem_cons_self ..) (Ne.symm za5.out)))
   have HXX:=qh hx
   have HYY:=qh hy
   clear hx hy
   go_wp2_with fail
   go_meet
   case rel=>exact⟨xb,yb,rfl,rfl,zh7.out.below,HXX.out,HYY.out⟩
  skip
  go_simp
  have zh8:=hT0.out.alloc 80 [.int .i64 0, .int .i64 0, .int .i64 0, .int .i64 0, .int .i64 0, .slice none 0 0]
  refine hK.out _ _ zh8.below (λ_=> ?_)
  obtain⟨yb,hyb⟩:∃n,n=wd.heap.size:=⟨_,rfl⟩
  rw [<-hyb] at zh8 ⊢
  clear hyb
  generalize World.alloc wd _=zpA at zh8 ⊢
  replace zh8:=qh zh8
  clear hK K
  refine yC 10 rfl (λK hK=> ?_)
  go_simp
  have za6:yb≠zpA.heap.size:=zh8.out.zbB (List.mem_cons_self ..)
  have ze6:=zh8.out.alloc 80 [.int .i64 0, .int .i64 0, .int .i64 0, .int .i64 0, .int .i64 0, .slice none 0 0]
  refine hK.out _ _ ze6.below (λ_=> ?_)
  obtain⟨xb,hxb⟩:∃n,n=zpA.heap.size:=⟨_,rfl⟩
  rw [<-hxb] at ze6 za6 ⊢
  clear hxb
  replace za6:=qh za6
  generalize World.alloc zpA _=z0H at ze6 ⊢
  replace ze6:=qh ze6
  clear hK K
  refine yC 12 rfl (λK hK=> ?_)
  obtain⟨hn, -⟩:=ze6.out.news (xb,80, [.int .i64 0, .int .i64 0, .int .i64 0, .int .i64 0, .int .i64 0, .slice none 0 0]) (List.mem_cons_self ..)
  have d0:=ze hn 0
  have f0:=zA hn 0
  have d1:=ze hn 1
  have f1:=zA hn 1
  have d2:=ze hn 2
  have f2:=zA hn 2
  have d3:=ze hn 3
  have f3:=zA hn 3
  have d4:=ze hn 4
  have f4:=zA hn 4
  have d5:=ze hn 5
  have f5:=zA hn 5
  clear hn
  have zgo:=ze6.out.store (g:=xb) (t:=80) (cs:= [.int .i64 0, .int .i64 0, .int .i64 0, .int .i64 0, .int .i64 0, .slice none 0 0]) (List.mem_cons_self ..) [.int .i64 pc, .int .i64 q0, .int .i64 q1, .int .i64 q2, .int .i64 q3, .slice ba bl bc] rfl
  replace zgo:=qh zgo
  go_simp
  clear d0 f0 d1 f1 d2 f2 d3 f3 d4 f4 d5 f5
  refine hK.out _ (yx z0H xb 0 [.int .i64 pc, .int .i64 q0, .int .i64 q1, .int .i64 q2, .int .i64 q3, .slice ba bl bc]) zgo.out.below (λ_=> ?_)
  generalize yx z0H xb 0 _=z0I at zgo ⊢
  clear hK K
  refine yC 13 rfl (λK hK=> ?_)
  obtain⟨hn, -⟩:=zgo.out.news (yb,80, [.int .i64 0, .int .i64 0, .int .i64 0, .int .i64 0, .int .i64 0, .slice none 0 0]) (jL (List.mem_cons_of_mem _ (List.mem_cons_self ..)) za6.out)
  have d0:=ze hn 0
  have f0:=zA hn 0
  have d1:=ze hn 1
  have f1:=zA hn 1
  have d2:=ze hn 2
  have f2:=zA hn 2
  have d3:=ze hn 3
  have f3:=zA hn 3
  have d4:=ze hn 4
  have f4:=zA hn 4
  have d5:=ze hn 5
  have f5:=zA hn 5
  clear hn
  have ze7:=zgo.out.store (g:=yb) (t:=80) (cs:= [.int .i64 0, .int .i64 0, .int .i64 0, .int .i64 0, .int .i64 0, .slice none 0 0]) (jL (List.mem_cons_of_mem _ (List.mem_cons_self ..)) za6.out) [.int .i64 pc', .int .i64 p0, .int .i64 p1, .int .i64 p2, .int .i64 p3, .slice ba' bl' bc'] rfl
  replace ze7:=qh ze7
  go_simp
  clear d0 f0 d1 f1 d2 f2 d3 f3 d4 f4 d5 f5
  refine hK.out _ (yx z0I yb 0 [.int .i64 pc', .int .i64 p0, .int .i64 p1, .int .i64 p2, .int .i64 p3, .slice ba' bl' bc']) ze7.out.below (λ_=> ?_)
  generalize yx z0I yb 0 _=zAr at ze7 ⊢
  clear hK K
  refine xW ?_
  obtain⟨hx, -⟩:=ze7.out.news (xb,80, [.int .i64 pc, .int .i64 q0, .int .i64 q1, .int .i64 q2, .int .i64 q3, .slice ba bl bc]) (jL (uS (List.mem_cons_self ..)) (Ne.symm za6.out))
  obtain⟨hy, -⟩:=ze7.out.news (yb,80, [.int .i64 pc', .int .i64 p0, .int .i64 p1, .int .i64 p2, .int .i64 p3, .slice ba' bl' bc']) (uS (jL (List.mem_cons_of_mem _ (List.mem_cons_self ..)) za6.out))
  have HXX:=qh hx
  have HYY:=qh hy
  clear hx hy
  go_wp2_with fail
  go_meet
  case rel=>exact⟨xb,yb,rfl,rfl,ze7.out.below,HXX.out,HYY.out⟩
 case rest=>
 obtain⟨w2,rfl⟩:∃w2:World,w2=wc:=⟨_,rfl⟩
 obtain⟨xb,yb,rfl,rfl,HW2,HXB,HYB⟩:=hcut
 have x0:=ze HXB.out 0
 have x1:=ze HXB.out 1
 have x2:=ze HXB.out 2
 have x3:=ze HXB.out 3
 have x4:=ze HXB.out 4
 have x5:=ze HXB.out 5
 have y0:=ze HYB.out 0
 have y1:=ze HYB.out 1
 have y2:=ze HYB.out 2
 have y3:=ze HYB.out 3
 have y4:=ze HYB.out 4
 have y5:=ze HYB.out 5
 by_cases e0:pc=pc'
 rotate_left
 ·obtain rfl:=kU.out (λe=>e0 (by injection e))
  have he0:((pc:Int) !=pc')=true:=by simp;exact e0
  go_wp2_with fail
  go_ret
  exact⟨by first|rfl|simp,yG.out _ (zH HBI.out HW2.out)⟩
 subst e0
 by_cases e1:([q0,q1,q2,q3] :List Int)= [p0,p1,p2,p3]
 rotate_left
 ·obtain rfl:=kU.out (λe=>e1 (by injection e))
  have hag:(([q0,q1,q2,q3] :List Int)= [p0,p1,p2,p3])=False:=eq_false e1
  have zAs:decide (([q0,q1,q2,q3] :List Int)= [p0,p1,p2,p3])=false:=decide_eq_false e1
  clear e1
  go_wp2_with fail
  go_ret
  exact⟨by first|rfl|simp,yG.out _ (zH HBI.out HW2.out)⟩
 simp only [List.cons.injEq,and_true] at e1
 obtain⟨rfl,rfl,rfl,rfl⟩:=e1
 have HSM:Hid (∀y,Below w2.heap.size w2 y->Calls Tryz.prog 31 #[.slice ba bl bc, .slice ba' bl' bc'] y λe w'=>e= .returned (.bool (decide (bf=bf')))/\Below y.heap.size y w'):=λy hy=>
  zsx y _ _ bf bf' (zZ.below (zZ.below HBF.out HW2.out) hy) (zZ.below (zZ.below z6C.out HW2.out) hy)
 have he0:((pc:Int) !=pc)=false:=by simp
 by_cases hbe:bf=bf'
 ·subst hbe
  have hd:decide (bf=bf)=true:=decide_eq_true rfl
  rw [hd] at HSM
  clear hd
  go_wp2_with(go_at_call 31;refine(HSM.out _ (Below.refl _ _)).mono ?_;rintro e w3 ⟨rfl,hb3⟩;have HB3:=qh hb3;clear hb3)
  clear x0 x1 x2 x3 x4 x5 y0 y1 y2 y3 y4 y5
  go_roundg (n - (i+1))
  case measure=>rw [HG6.out];omega
  case rel=>exact⟨i+1,by omega,rfl,by simp,zH (zH HBI.out HW2.out) HB3.out,gK.out (by trivial)⟩
 rw [decide_eq_false hbe] at HSM
 obtain rfl:=kU.out (λe=>hbe (by injection e))
 have yO:=qh hbe
 clear hbe
 go_wp2_with(go_at_call 31;refine(HSM.out _ (Below.refl _ _)).mono ?_;rintro e w3 ⟨rfl,hb3⟩;have HB3:=qh hb3;clear hb3)
 clear x0 x1 x2 x3 x4 x5 y0 y1 y2 y3 y4 y5
 go_ret
 exact⟨by first|rfl|simp,yG.out _ (zH (zH HBI.out HW2.out) HB3.out)⟩
def atS (l:List zi) (t:zi):Int:=if t∈l then(l.idxOf t:Int) else -1
theorem z0J {l:List zi} {t:zi} {i:Nat} (hi:i<l.length) (h:∀j,j<i->l.getD j default≠t) (he:l.getD i default=t):t∈l/\l.idxOf t=i:=by
 induction l generalizing i with
 |nil=>simp at hi
 |cons x l ih=>
 cases i with
 |zero=>
  simp only [List.getD_cons_zero] at he
  subst he
  exact⟨List.mem_cons_self ..,by simp⟩
 |succ i=>
 have h0:=h 0 (by omega)
 simp only [List.getD_cons_zero] at h0
 simp only [List.getD_cons_succ] at he
 obtain⟨h1,h2⟩:=ih (by simpa using hi) (λj hj=>by have:=h (j+1) (by omega);simpa using this) he
 refine⟨List.mem_cons_of_mem _ h1, ?_⟩
 rw [List.idxOf_cons,h2]
 have:(x==t)=false:=by simpa using h0
 simp [this]
theorem z0K {l:List zi} {t:zi} {i:Nat} (hi:i<l.length) (h:∀j,j<i->l.getD j default≠t) (he:l.getD i default=t):atS l t=i:=by
 obtain⟨h1,h2⟩:=z0J hi h he
 unfold atS
 rw [if_pos h1,h2]
theorem z2V {l:List zi} {t:zi} (h:∀j,j<l.length->l.getD j default≠t):atS l t= -1:=by
 unfold atS
 rw [if_neg]
 intro hm
 obtain⟨j,hj,e⟩:=List.getElem_of_mem hm
 refine h j hj ?_
 rw [List.getD_eq_getElem?_getD,List.getElem?_eq_getElem hj, <-e];rfl
theorem zl1 (l:List zi) (t:zi):putAt l t=if atS l t<0 then(l++ [t],l.length) else(l,(atS l t).toNat):=by
 unfold putAt atS
 by_cases h:t∈l
 ·rw [if_pos h,if_pos h,if_neg (by omega)];simp
 rw [if_neg h,if_neg h,if_pos (by omega)]
theorem zzo (w:World) (l:List zi) (lv:Value) (hl:kH w lv l) (t:zi) (ta tb:Value) (ht:zX w t ta tb):
  Calls Tryz.prog 30 #[lv,yA t ta tb] w λe w'=>e= .returned (.int .i64 (atS l t))/\Below w.heap.size w w':=by
 obtain⟨la,lc,rfl,hll⟩:=zh.slice hl
 obtain⟨n,hn⟩:∃n,n=l.length:=⟨_,rfl⟩
 rw [<-hn] at hl hll ⊢
 have wK:Hid (∀i,i<n->(∀j,j<i->l.getD j default≠t)->l.getD i default=t->atS l t=i):=λi hi h e=>z0K (by rw [<-hn];exact hi) h e
 have uW:Hid ((∀j,j<n->l.getD j default≠t)->atS l t= -1):=λh=>z2V (by rw [<-hn];exact h)
 obtain⟨r,hr⟩:∃r,r=atS l t:=⟨_,rfl⟩
 rw [<-hr] at wK uW ⊢
 have zpT:Hid (∀y,Below w.heap.size w y->∀s sa sb,zX y s sa sb->Calls Tryz.prog 16 #[yA s sa sb,yA t ta tb] y λe w'=>e= .returned (.bool (decide (s=t)))/\Below y.heap.size y w'):=λy hy s sa sb hs=>zjD y s t sa sb ta tb hs (ht.below hy)
 obtain⟨ta1,ta3,rfl, -⟩:=zh.slice ht.threads
 obtain⟨tb1,tb3,rfl, -⟩:=zh.slice ht.mem
 obtain⟨ta2,z0L⟩:∃n,n=t.threads.length:=⟨_,rfl⟩
 obtain⟨tb2,z0M⟩:∃n,n=t.mem.length:=⟨_,rfl⟩
 obtain⟨tb0,htb⟩:∃b,b=t.bad:=⟨_,rfl⟩
 unfold yA at zpT ⊢
 rw [<-htb, <-z0L, <-z0M] at zpT ⊢
 clear ht hr htb z0L z0M
 have HL:=qh hl
 have HN:=qh hn
 clear hl hn
 have hB:=(Below.refl w.heap.size w).alloc (Nat.le_refl _) (.cells #[.slice ta1 ta2 ta3, .slice tb1 tb2 tb3, .bool tb0] 42)
 have H1:=qh (yj w (.cells #[.slice ta1 ta2 ta3, .slice tb1 tb2 tb3, .bool tb0] 42))
 have HB:=qh hB
 clear hB
 go_enter Tryz.func30,Tryz.ntmps30
 go_upto_region 1 with fail
 generalize World.alloc w _=W at HB H1 ⊢
 obtain⟨gx,hgx⟩:∃gx,gx=w.heap.size:=⟨_,rfl⟩
 rw [<-hgx] at H1 ⊢
 clear hgx
 have yG:Hid (∀x,Below W.heap.size W x->Below w.heap.size w x):=λx hx=>HB.out.trans (hx.mono HB.out.size)
 go_wp2_with fail
 go_loopg [5] n (λgg s5 wr=>∃i:Nat,i<=n/\Hid (gg=n - i)/\s5= .int .i64 i/\Hid (Below W.heap.size W wr)/\Hid (∀j,j<i->l.getD j default≠t))
 case atStart=>exact⟨0,Nat.zero_le _,rfl,rfl,Below.refl _ _,λj hj=>by omega⟩
 case round=>
 obtain⟨i,hi,HG,rfl,zL,HJ⟩:=hrel
 by_cases hlt:i<n
 rotate_left
 ·obtain rfl:n=i:=by omega
  obtain rfl:=uW.out HJ.out
  go_wp2_with fail
  go_ret
  exact⟨by first|rfl|simp,yG.out _ zL.out⟩
 have qN:(i:Int)<(n:Int):=by omega
 obtain⟨b,off,tv,mv,yh, -,x0,x1,x2,hst⟩:=kH.part HL.out i (by rw [<-HN.out];exact hlt)
 subst yh
 have HE:Hid (l.getD i default=t->r=i):=λe=>wK.out i hlt HJ.out e
 have kU:Hid (l.getD i default≠t->∀j,j<i+1->l.getD j default≠t):=λe j hj=>by
  by_cases he:j=i
  ·subst he;exact e
  exact HJ.out j (by omega)
 generalize l.getD i default=s at x2 hst HE kU
 obtain⟨sa,sac,rfl, -⟩:=zh.slice hst.threads
 obtain⟨sb,sbc,rfl, -⟩:=zh.slice hst.mem
 obtain⟨sl,hsl⟩:∃n,n=s.threads.length:=⟨_,rfl⟩
 obtain⟨sm,hsm⟩:∃n,n=s.mem.length:=⟨_,rfl⟩
 rw [<-hsl] at x0 hst
 rw [<-hsm] at x1 hst
 obtain⟨sbd,hsb⟩:∃b,b=s.bad:=⟨_,rfl⟩
 rw [<-hsb] at x2
 have CC:Hid (∀y,Below wr.heap.size wr y->y.cell? ⟨b,off+i*3,none⟩=some (.slice sa sl sac)/\y.cell? ⟨b,off+i*3+1,none⟩=some (.slice sb sm sbc)/\y.cell? ⟨b,off+i*3+2,none⟩=some (.bool sbd)/\y.cell? ⟨gx,0,none⟩=some (.slice ta1 ta2 ta3)/\y.cell? ⟨gx,1,none⟩=some (.slice tb1 tb2 tb3)/\y.cell? ⟨gx,2,none⟩=some (.bool tb0)):=λy hy=>by
  have hw:=zH zL.out hy
  have hw0:=yG.out _ hw
  exact⟨zk hw0 _ _ x0,zk hw0 _ _ x1,zk hw0 _ _ x2,zk hw _ _ (ze H1.out 0),zk hw _ _ (ze H1.out 1),zk hw _ _ (ze H1.out 2)⟩
 obtain⟨df,hdf⟩:∃d,d=decide (s=t):=⟨_,rfl⟩
 have hcall:∀y,Below wr.heap.size wr y->Calls Tryz.prog 16 #[.agg #[.slice sa sl sac, .slice sb sm sbc, .bool sbd], .agg #[.slice ta1 ta2 ta3, .slice tb1 tb2 tb3, .bool tb0]] y λe w'=>e= .returned (.bool df)/\Below y.heap.size y w':=λy hy=>by
  have hw0:=yG.out _ (zH zL.out hy)
  have:=zpT.out y hw0 s (.slice sa sl sac) (.slice sb sm sbc) (by rw [hsl,hsm] at hst ⊢;exact hst.below hw0)
  rw [<-hsb, <-hdf] at this
  exact this
 have zgn:=qh hcall
 have HDF:=qh hdf
 clear hsl hsm hsb hcall hdf x0 x1 x2 hst
 go_upto_region 4 with fail
 refine jf (S:=λx=>Below wr.heap.size wr x) (Below.refl _ _).drew (λhH=> ?_)
 refine zB 0 CC.out ?_
 refine zB 1 CC.out ?_
 refine zB 2 CC.out ?_
 refine zB 3 CC.out ?_
 refine zB 4 CC.out ?_
 refine yC 5 rfl (λK hK=> ?_)
 go_simp
 refine(zgn.out wr.drew hH).mono ?_
 rintro e hw5 ⟨rfl,hb⟩
 have zfj:Below wr.heap.size wr hw5:=zH hH hb
 refine hK.out _ _ zfj (λ_=> ?_)
 clear hK K hb hH
 refine xW ?_
 have zR:=qh zfj
 clear zfj
 cases df with
 |true=>
  obtain rfl:=HE.out (of_decide_eq_true HDF.out.symm)
  go_wp2_with fail
  go_ret
  exact⟨by first|rfl|simp,yG.out _ (zH zL.out zR.out)⟩
 |false=>
 have HN2:=qh (kU.out (of_decide_eq_false HDF.out.symm))
 go_wp2_with fail
 go_roundg (n - (i+1))
 case measure=>rw [HG.out];omega
 case rel=>exact⟨i+1,by omega,rfl,by simp,zH zL.out zR.out,HN2.out⟩
