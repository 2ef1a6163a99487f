/- Steps. -/
import Derived.Test.YtliajkheeniljaaGreatDoorZpOwnS
set_option linter.all false
namespace Go.Proofs.YtliajkheeniljaaGreatDoor
open Go.RowKit
set_option maxRecDepth 100000
set_option maxHeartbeats 16000000
theorem zgL {α:Type} [Inhabited α] {l r:List α} (hl:l.length=r.length) (h:∀j,j<l.length->l.getD j default=r.getD j default):l=r:=by
 apply List.ext_getElem hl
 intro j h1 h2
 have:=h j h1
 rwa [List.getD_eq_getElem?_getD,List.getD_eq_getElem?_getD,List.getElem?_eq_getElem h1,List.getElem?_eq_getElem h2] at this
theorem zgM {α:Type} [Inhabited α] {l r:List α} (j:Nat) (h:l.getD j default≠r.getD j default):l≠r:=λe=>h (by rw [e])
theorem zrM (w:World) (va vb:Value) (la lb:List zk) (ha:zU w va la) (hb:zU w vb lb):
  Calls Tryz.prog 44 #[va,vb] w λe w'=>e= .returned (.bool (decide (la=lb)))/\Below w.heap.size w w':=by
 obtain⟨aa,ac,rfl,hal⟩:=zh.slice ha
 obtain⟨ba,bc,rfl,hbl⟩:=zh.slice hb
 obtain⟨n,hn⟩:∃n,n=la.length:=⟨_,rfl⟩
 obtain⟨m,hm⟩:∃m,m=lb.length:=⟨_,rfl⟩
 rw [<-hn] at ha hal ⊢
 rw [<-hm] at hb hbl ⊢
 have HA:=qh ha
 have HB:=qh hb
 have HN:=qh hn
 have HM:=qh hm
 have HNO:Hid (la≠lb->decide (la=lb)=false):=λe=>decide_eq_false e
 have zaC:Hid (la=lb->decide (la=lb)=true):=λe=>decide_eq_true e
 obtain⟨r,hr⟩:∃r,r=decide (la=lb):=⟨_,rfl⟩
 rw [<-hr] at HNO zaC ⊢
 clear ha hb hn hm hr
 by_cases hl:n=m
 rotate_left
 ·obtain rfl:=HNO.out (λe=>hl (by rw [HN.out,HM.out,e]))
  have hl2:((n:Int) !=(m:Int))=true:=by simp;omega
  go_enter Tryz.func44,Tryz.ntmps44
  go_wp2_with fail
  go_ret
  exact⟨rfl,Below.refl _ _⟩
 subst hl
 have HL:Hid (la.length=lb.length):=by rw [Hid, <-HN.out, <-HM.out]
 go_enter Tryz.func44,Tryz.ntmps44
 go_wp2_with fail
 go_loopg [5] n (λgg s5 wr=>∃i:Nat,i<=n/\Hid (gg=n - i)/\s5= .int .i64 i/\Hid (Below w.heap.size w wr)/\Hid (∀j,j<i->la.getD j default=lb.getD j default))
 case atStart=>exact⟨0,Nat.zero_le _,rfl,rfl,Below.refl _ _,λj hj=>by omega⟩
 case round=>
 obtain⟨i,hi,HG,rfl,zT,HJ⟩:=hrel
 by_cases hlt:i<n
 rotate_left
 ·obtain rfl:n=i:=by omega
  obtain rfl:=zaC.out (zgL HL.out (by rw [<-HN.out];exact HJ.out))
  go_wp2_with fail
  go_ret
  exact⟨rfl,zT.out⟩
 have qN:(i:Int)<(n:Int):=by omega
 obtain⟨a1,a2,yh, -,x0,x1⟩:=zU.part HA.out i (by rw [<-HN.out];exact hlt)
 obtain⟨b1,b2,heb, -,y0,y1⟩:=zU.part HB.out i (by rw [<-HM.out];exact hlt)
 subst yh
 subst heb
 replace x0:=zi zT.out _ _ x0
 replace x1:=zi zT.out _ _ x1
 replace y0:=zi zT.out _ _ y0
 replace y1:=zi zT.out _ _ y1
 have wV:Hid (la.getD i default≠lb.getD i default->r=false):=λh=>HNO.out (zgM i h)
 have wR:Hid (la.getD i default=lb.getD i default->∀j,j<i+1->la.getD j default=lb.getD j default):=λe j hj=>by
  by_cases he:j=i
  ·subst he;exact e
  exact HJ.out j (by omega)
 generalize la.getD i default=ea at x0 x1 wV wR
 generalize lb.getD i default=eb at y0 y1 wV wR
 obtain⟨p,q⟩:=ea
 obtain⟨p',q'⟩:=eb
 simp only [] at x0 x1 y0 y1
 by_cases h1:p=p'
 ·subst h1
  by_cases h2:q=q'
  ·subst h2
   go_wp2_with fail
   go_quiet (fail)
   go_wp2_with fail
   go_roundg (n - (i+1))
   case measure=>rw [HG.out];omega
   case rel=>exact⟨i+1,by omega,rfl,by simp,yg zT.out _,wR.out (by trivial)⟩
  obtain rfl:=wV.out (by simp [h2])
  go_wp2_with fail
  go_quiet (fail)
  go_wp2_with fail
  go_ret
  exact⟨by first|rfl|simp,yg zT.out _⟩
 obtain rfl:=wV.out (by simp [h1])
 go_wp2_with fail
 go_quiet (fail)
 go_wp2_with fail
 go_ret
 exact⟨by first|rfl|simp,yg zT.out _⟩
theorem zeH:∃i,Tryz.prog.info? 3=some i/\i.size=1:=by
 have h:(Tryz.prog.info? 3).map (λi=>i.size)=some 1:=by kernel_rfl
 cases hq:Tryz.prog.info? 3 with
 |none=>rw [hq] at h;cases h
 |some i=>rw [hq] at h;exact⟨i,rfl,by simpa using h⟩
theorem zpg:Tryz.prog.cellsOf 3=1:=by kernel_rfl
theorem zih:Tryz.prog.underlying 3=some (.int .i64):=by kernel_rfl
theorem zhc:Tryz.prog.underlying 45=some (.array 4 3):=by kernel_rfl
theorem zgn (d:Nat) (w:World) (a b:Int):(Op.equalIn (d+1) 3 (.int .i64 a) (.int .i64 b)).run Tryz.prog w= .ok (a==b) w:=by
 simp [Op.equalIn,run_underlying zih]
theorem jR (w:World) (xs:Array Value) (j:Nat) (a:Int) (h:xs[j]? =some (.int .i64 a)):(part 3 xs j).run Tryz.prog w= .ok (.int .i64 a) w:=by
 obtain⟨i,hi,hs⟩:=zeH
 have hagg:(isAgg 3).run Tryz.prog w= .ok false w:=by
  unfold isAgg
  rw [Sem.run_bind,run_underlying zih w]
  rfl
 simp [part,Sem.run_bind,hagg,h]
@[go_sem] theorem z1k (w:World) (q0 q1 q2 q3 p0 p1 p2 p3:Int):(Op.equalIn 10000 45 (.agg #[.int .i64 q0, .int .i64 q1, .int .i64 q2, .int .i64 q3]) (.agg #[.int .i64 p0, .int .i64 p1, .int .i64 p2, .int .i64 p3])).run Tryz.prog w
  = .ok (decide (([q0,q1,q2,q3] :List Int)= [p0,p1,p2,p3])) w:=by
 obtain⟨i,hi,hs⟩:=zeH
 rw [run_equalIn_array w 9999 _ _ zhc hi,zpg]
 have e:List.range 4= [0,1,2,3] :=rfl
 rw [e]
 have g0:=λ(w:World) (a b c d:Int)=>jR w #[.int .i64 a, .int .i64 b, .int .i64 c, .int .i64 d] 0 a rfl
 have g1:=λ(w:World) (a b c d:Int)=>jR w #[.int .i64 a, .int .i64 b, .int .i64 c, .int .i64 d] 1 b rfl
 have g2:=λ(w:World) (a b c d:Int)=>jR w #[.int .i64 a, .int .i64 b, .int .i64 c, .int .i64 d] 2 c rfl
 have g3:=λ(w:World) (a b c d:Int)=>jR w #[.int .i64 a, .int .i64 b, .int .i64 c, .int .i64 d] 3 d rfl
 have ge:=zgn 9998
 by_cases h0:q0=p0
 ·by_cases h1:q1=p1
  ·by_cases h2:q2=p2
   ·by_cases h3:q3=p3
    ·simp [Op.eqItems,g0,g1,g2,g3,ge,h0,h1,h2,h3]
    simp [Op.eqItems,g0,g1,g2,g3,ge,h0,h1,h2,h3]
   simp [Op.eqItems,g0,g1,g2,g3,ge,h0,h1,h2]
  simp [Op.eqItems,g0,g1,g2,g3,ge,h0,h1]
 simp [Op.eqItems,g0,g1,g2,g3,ge,h0]
theorem zrN {s t:zl} (h:s.threads≠t.threads):s≠t:=λe=>h (by rw [e])
theorem zrO {s t:zl} (h:s.mem≠t.mem):s≠t:=λe=>h (by rw [e])
theorem zrP {s t:zl} (h:s.bad≠t.bad):s≠t:=λe=>h (by rw [e])
theorem zrQ {α:Type} {l r:List α} (h:l.length≠r.length):l≠r:=λe=>h (by rw [e])
theorem zrq (w:World) (s t:zl) (sa sb ta tb:Value) (hs:zY w s sa sb) (ht:zY w t ta tb):
  Calls Tryz.prog 17 #[yB s sa sb,yB t ta tb] w λe w'=>e= .returned (.bool (decide (s=t)))/\Below w.heap.size w w':=by
 obtain⟨sa1,sac,rfl,hsl⟩:=zh.slice hs.threads
 obtain⟨sb1,sbc,rfl,hsm⟩:=zh.slice hs.mem
 obtain⟨ta1,tac,rfl,htl⟩:=zh.slice ht.threads
 obtain⟨tb1,tbc,rfl,htm⟩:=zh.slice ht.mem
 have zph:Hid (s.threads≠t.threads->decide (s=t)=false):=λh=>decide_eq_false (zrN h)
 have zcV:Hid (s.mem≠t.mem->decide (s=t)=false):=λh=>decide_eq_false (zrO h)
 have zu1:Hid (s.bad≠t.bad->decide (s=t)=false):=λh=>decide_eq_false (zrP h)
 have zaC:Hid (s.threads=t.threads->s.mem=t.mem->s.bad=t.bad->decide (s=t)=true):=λh1 h2 h3=>decide_eq_true (by cases s;cases t;simp only [] at h1 h2 h3;rw [h1,h2,h3])
 obtain⟨r,hr⟩:∃r,r=decide (s=t):=⟨_,rfl⟩
 rw [<-hr] at zph zcV zu1 zaC ⊢
 clear hr
 have h1:=hs.threads
 have h2:=hs.mem
 have h3:=ht.threads
 have h4:=ht.mem
 clear hs ht
 unfold yB
 obtain⟨tl,sm,zei⟩:=s
 obtain⟨tl',tm,zgN⟩:=t
 simp only [] at h1 h2 h3 h4 hsl hsm htl htm zph zcV zu1 zaC ⊢
 obtain⟨n,hn⟩:∃n,n=tl.length:=⟨_,rfl⟩
 obtain⟨n',hn'⟩:∃n,n=tl'.length:=⟨_,rfl⟩
 obtain⟨m,hm⟩:∃m,m=sm.length:=⟨_,rfl⟩
 obtain⟨m',hm'⟩:∃m,m=tm.length:=⟨_,rfl⟩
 rw [<-hn] at h1 hsl ⊢
 rw [<-hn'] at h3 htl ⊢
 rw [<-hm] at h2 hsm ⊢
 rw [<-hm'] at h4 htm ⊢
 have hB:=xC w (.cells #[.slice sa1 n sac, .slice sb1 m sbc, .bool zei] 30) (.cells #[.slice ta1 n' tac, .slice tb1 m' tbc, .bool zgN] 30)
 have H1:=qh (xI w (.cells #[.slice sa1 n sac, .slice sb1 m sbc, .bool zei] 30) (.cells #[.slice ta1 n' tac, .slice tb1 m' tbc, .bool zgN] 30))
 have H2:=qh (xw w (.cells #[.slice sa1 n sac, .slice sb1 m sbc, .bool zei] 30) (.cells #[.slice ta1 n' tac, .slice tb1 m' tbc, .bool zgN] 30))
 have HT1:=qh (zh.below uw.stays h1 hB)
 have HM1:=qh (zh.below gQ.stays h2 hB)
 have HT2:=qh (zh.below uw.stays h3 hB)
 have HM2:=qh (zh.below gQ.stays h4 hB)
 have HB:=qh hB
 have HN:=qh hn
 have HN':=qh hn'
 have HM:=qh hm
 have HM':=qh hm'
 clear h1 h2 h3 h4 hB hn hn' hm hm'
 go_enter Tryz.func17,Tryz.ntmps17
 go_upto_region 1 with fail
 generalize World.alloc (World.alloc w _) _=W at HB H1 H2 HT1 HM1 HT2 HM2 ⊢
 obtain⟨gx,hgx⟩:∃gx,gx=w.heap.size:=⟨_,rfl⟩
 rw [<-hgx] at H1 H2 ⊢
 clear hgx
 have HC:Hid (∀x,Below W.heap.size W x->x.cell? ⟨gx,0,none⟩=some (.slice sa1 n sac)/\x.cell? ⟨gx,1,none⟩=some (.slice sb1 m sbc)/\x.cell? ⟨gx,2,none⟩=some (.bool zei)/\x.cell? ⟨gx+1,0,none⟩=some (.slice ta1 n' tac)/\x.cell? ⟨gx+1,1,none⟩=some (.slice tb1 m' tbc)/\x.cell? ⟨gx+1,2,none⟩=some (.bool zgN)):=λx hx=>
  ⟨zi hx _ _ (ze H1.out 0),zi hx _ _ (ze H1.out 1),zi hx _ _ (ze H1.out 2),zi hx _ _ (ze H2.out 0),zi hx _ _ (ze H2.out 1),zi hx _ _ (ze H2.out 2)⟩
 have yJ:Hid (∀x,Below W.heap.size W x->Below w.heap.size w x):=λx hx=>HB.out.trans (hx.mono HB.out.size)
 obtain⟨c0,c1,c2,c3,c4,c5⟩:=HC.out W (Below.refl _ _)
 by_cases hnn:n=n'
 rotate_left
 ·obtain rfl:=zph.out (zrQ (by rw [<-HN.out, <-HN'.out];exact hnn))
  have hn0:((n:Int) !=(n':Int))=true:=by simp;omega
  go_wp2_with fail
  go_ret
  exact⟨by first|rfl|simp,yJ.out _ (Below.refl _ _)⟩
 by_cases hmm:m=m'
 rotate_left
 ·obtain rfl:=zcV.out (zrQ (by rw [<-HM.out, <-HM'.out];exact hmm))
  have hm0:((m:Int) !=(m':Int))=true:=by simp;omega
  subst hnn
  go_wp2_with fail
  go_ret
  exact⟨by first|rfl|simp,yJ.out _ (Below.refl _ _)⟩
 by_cases hbb:zei=zgN
 rotate_left
 ·obtain rfl:=zu1.out hbb
  subst hnn
  subst hmm
  have hb0:(zei==zgN)=false:=by cases zei<;>cases zgN<;>simp_all
  clear hbb
  go_wp2_with fail
  go_ret
  exact⟨by first|rfl|simp,yJ.out _ (Below.refl _ _)⟩
 subst hnn
 subst hmm
 subst hbb
 have hb0:(zei !=zei)=false:=by simp
 go_wp2_with fail
 clear c0 c1 c2 c3 c4 c5 hb0
 go_loopg [5] m (λgg s5 wr=>∃i:Nat,i<=m/\Hid (gg=m - i)/\s5= .int .i64 i/\Hid (Below W.heap.size W wr)/\Hid (∀j,j<i->sm.getD j default=tm.getD j default))
 case atStart=>exact⟨0,Nat.zero_le _,rfl,rfl,Below.refl _ _,λj hj=>by omega⟩
 case round=>
 obtain⟨i,hi,HG,rfl,zT,HJ⟩:=hrel
 obtain⟨c0,c1,c2,c3,c4,c5⟩:=HC.out wr zT.out
 by_cases hlt:i<m
 ·have qN:(i:Int)<(m:Int):=by omega
  obtain⟨a1,a2,yh, -,x0⟩:=xJ.part HM1.out i (by rw [<-HM.out];exact hlt)
  obtain⟨b1,b2,heb, -,y0⟩:=xJ.part HM2.out i (by rw [<-HM'.out];exact hlt)
  subst yh
  subst heb
  replace x0:=zi zT.out _ _ x0
  replace y0:=zi zT.out _ _ y0
  have wV:Hid (sm.getD i 0≠tm.getD i 0->r=false):=λh=>zcV.out (zgM i h)
  have wR:Hid (sm.getD i 0=tm.getD i 0->∀j,j<i+1->sm.getD j default=tm.getD j default):=λe j hj=>by
   by_cases he:j=i
   ·subst he;exact e
   exact HJ.out j (by omega)
  generalize sm.getD i 0=p at x0 wV wR
  generalize tm.getD i 0=q at y0 wV wR
  by_cases h1:p=q
  ·subst h1
   go_wp2_with fail
   go_quiet (fail)
   go_wp2_with fail
   go_roundg (m - (i+1))
   case measure=>rw [HG.out];omega
   case rel=>exact⟨i+1,by omega,rfl,by simp,yg zT.out _,wR.out (by trivial)⟩
  obtain rfl:=wV.out (by simp [h1])
  go_wp2_with fail
  go_quiet (fail)
  go_wp2_with fail
  go_ret
  exact⟨by first|rfl|simp,yJ.out _ (yg zT.out _)⟩
 obtain rfl:m=i:=by omega
 have hmem:sm=tm:=zgL (by rw [<-HM.out, <-HM'.out]) (by rw [<-HM.out];exact HJ.out)
 have zej:=qh hmem
 clear hmem
 go_wp2_with fail
 clear c0 c1 c2 c3 c4 c5
 go_loopg [6] n (λgg s6 wr=>∃i:Nat,i<=n/\Hid (gg=n - i)/\s6= .int .i64 i/\Hid (Below W.heap.size W wr)/\Hid (∀j,j<i->tl.getD j default=tl'.getD j default))
 case atStart=>exact⟨0,Nat.zero_le _,rfl,rfl,zT.out,λj hj=>by omega⟩
 case round=>
 obtain⟨i,hi,HG6,rfl,HBI,HJ6⟩:=hrel
 obtain⟨wo,rfl⟩:∃wo:World,wo=wr:=⟨_,rfl⟩
 by_cases hlt:i<n
 rotate_left
 ·obtain rfl:n=i:=by omega
  obtain rfl:=zaC.out (zgL (by rw [<-HN.out, <-HN'.out]) (by rw [<-HN.out];exact HJ6.out)) zej.out (by trivial)
  obtain⟨c0,c1,c2,c3,c4,c5⟩:=HC.out wo HBI.out
  go_wp2_with fail
  go_ret
  exact⟨by first|rfl|simp,yJ.out _ HBI.out⟩
 have qN:(i:Int)<(n:Int):=by omega
 obtain⟨a1,a2,ba,bc,yh, -,hr4,x0,x1,x2,x3,x4,x5,hbuf⟩:=qP.part HT1.out i (by rw [<-HN.out];exact hlt)
 obtain⟨b1,b2,ba',bc',heb, -,zpi,y0,y1,y2,y3,y4,y5,zii⟩:=qP.part HT2.out i (by rw [<-HN'.out];exact hlt)
 subst yh
 subst heb
 have wV:Hid (tl.getD i default≠tl'.getD i default->r=false):=λh=>zph.out (zgM i h)
 have wR:Hid (tl.getD i default=tl'.getD i default->∀j,j<i+1->tl.getD j default=tl'.getD j default):=λe j hj=>by
  by_cases he:j=i
  ·subst he;exact e
  exact HJ6.out j (by omega)
 generalize tl.getD i default=ea at x0 x1 x2 x3 x4 x5 hbuf hr4 wV wR
 generalize tl'.getD i default=eb at y0 y1 y2 y3 y4 y5 zii zpi wV wR
 obtain⟨pc,rg,bf⟩:=ea
 obtain⟨pc',rg',bf'⟩:=eb
 simp only [] at x0 x1 x2 x3 x4 x5 hbuf hr4 y0 y1 y2 y3 y4 y5 zii zpi
 obtain⟨q0,q1,q2,q3,rfl⟩:=kN hr4
 obtain⟨p0,p1,p2,p3,rfl⟩:=kN zpi
 simp only [List.getD_cons_zero,List.getD_cons_succ] at x1 x2 x3 x4 y1 y2 y3 y4
 obtain⟨bl,hbl⟩:∃bl,bl=bf.length:=⟨_,rfl⟩
 obtain⟨bl',zu3⟩:∃bl,bl=bf'.length:=⟨_,rfl⟩
 rw [<-hbl] at x5 hbuf
 rw [<-zu3] at y5 zii
 have HX:Hid (∀y,Below wo.heap.size wo y->(y.cell? ⟨gx,0,none⟩=some (.slice (some ⟨a1,a2,none⟩) n sac)/\y.cell? ⟨gx+1,0,none⟩=some (.slice (some ⟨b1,b2,none⟩) n tac)/\y.cell? ⟨a1,a2+i*6,none⟩=some (.int .i64 pc)/\y.cell? ⟨a1,a2+i*6+1,none⟩=some (.int .i64 q0)/\y.cell? ⟨a1,a2+i*6+2,none⟩=some (.int .i64 q1)/\y.cell? ⟨a1,a2+i*6+3,none⟩=some (.int .i64 q2)/\y.cell? ⟨a1,a2+i*6+4,none⟩=some (.int .i64 q3)/\y.cell? ⟨a1,a2+i*6+5,none⟩=some (.slice ba bl bc)/\
   y.cell? ⟨b1,b2+i*6,none⟩=some (.int .i64 pc')/\y.cell? ⟨b1,b2+i*6+1,none⟩=some (.int .i64 p0)/\y.cell? ⟨b1,b2+i*6+2,none⟩=some (.int .i64 p1)/\y.cell? ⟨b1,b2+i*6+3,none⟩=some (.int .i64 p2)/\y.cell? ⟨b1,b2+i*6+4,none⟩=some (.int .i64 p3)/\y.cell? ⟨b1,b2+i*6+5,none⟩=some (.slice ba' bl' bc'))):=λy hy=>by
  have hw:=zG HBI.out hy
  obtain⟨c0, -, -,c3, -, -⟩:=HC.out y hw
  exact⟨c0,c3,zi hw _ _ x0,zi hw _ _ x1,zi hw _ _ x2,zi hw _ _ x3,zi hw _ _ x4,zi hw _ _ x5,zi hw _ _ y0,zi hw _ _ y1,zi hw _ _ y2,zi hw _ _ y3,zi hw _ _ y4,zi hw _ _ y5⟩
 have HBF:=qh (zU.below hbuf HBI.out)
 have z5f:=qh (zU.below zii HBI.out)
 obtain⟨c0,c1,c2,c3,c4,c5⟩:=HC.out wo HBI.out
 have qQ:=qh hbl
 have z9e:=qh zu3
 clear x0 x1 x2 x3 x4 x5 y0 y1 y2 y3 y4 y5 hbuf zii hbl zu3 hr4 zpi
 go_upto_region 11 with fail
 clear c0 c1 c2 c3 c4 c5
 go_cut [7,8] (λs7 s8 w'=>∃xb yb,s7= .pointer (some ⟨xb,0,none⟩)/\s8= .pointer (some ⟨yb,0,none⟩)/\Hid (Below wo.heap.size wo w')/\Hid (w'.heap[xb]? =some (.cells #[.int .i64 pc, .int .i64 q0, .int .i64 q1, .int .i64 q2, .int .i64 q3, .slice ba bl bc] 48 (0,0)))/\Hid (w'.heap[yb]? =some (.cells #[.int .i64 pc', .int .i64 p0, .int .i64 p1, .int .i64 p2, .int .i64 p3, .slice ba' bl' bc'] 48 (0,0))))
 case first=>
  have hT0:=qh (Loc.start wo).drew
  refine vV (S:=λx=>Below wo.heap.size wo x) (Below.refl _ _).drew (λ_=> ?_)
  obtain⟨wd,hwd⟩:∃wd,wd=wo.drew:=⟨_,rfl⟩
  rw [<-hwd] at hT0 ⊢
  clear hwd
  refine zD 0 zQ (hT0.out.below) ?_
  refine zD 1 HX.out (hT0.out.below) ?_
  refine zD 2 zQ (hT0.out.below) ?_
  refine zD 3 zQ (hT0.out.below) ?_
  refine zD 4 HX.out (hT0.out.below) ?_
  refine zD 5 zQ (hT0.out.below) ?_
  refine zD 6 HX.out (hT0.out.below) ?_
  refine zD 7 zQ (hT0.out.below) ?_
  refine zD 8 zQ (hT0.out.below) ?_
  refine zD 9 HX.out (hT0.out.below) ?_
  refine wpAnyH_ready (rs:= [10,11]) (by kernel_rfl) (by simp) ?_
  refine AllReadyH.cons rfl (λK hK=> ?_) (AllReadyH.cons rfl (λK hK=> ?_) AllReadyH.nil)
  ·skip
   go_simp
   have zaf:=hT0.out.alloc 48 [.int .i64 0, .int .i64 0, .int .i64 0, .int .i64 0, .int .i64 0, .slice none 0 0]
   refine hK.out _ _ zaf.below (λ_=> ?_)
   obtain⟨xb,hxb⟩:∃n,n=wd.heap.size:=⟨_,rfl⟩
   rw [<-hxb] at zaf ⊢
   clear hxb
   generalize World.alloc wd _=Xs2 at zaf ⊢
   replace zaf:=qh zaf
   clear hK K
   refine yA 11 rfl (λK hK=> ?_)
   go_simp
   have zaj:xb≠Xs2.heap.size:=zaf.out.zbr (List.mem_cons_self ..)
   have zaB:=zaf.out.alloc 48 [.int .i64 0, .int .i64 0, .int .i64 0, .int .i64 0, .int .i64 0, .slice none 0 0]
   refine hK.out _ _ zaB.below (λ_=> ?_)
   obtain⟨yb,hyb⟩:∃n,n=Xs2.heap.size:=⟨_,rfl⟩
   rw [<-hyb] at zaB zaj ⊢
   clear hyb
   replace zaj:=qh zaj
   generalize World.alloc Xs2 _=Xs4 at zaB ⊢
   replace zaB:=qh zaB
   clear hK K
   refine yA 12 rfl (λK hK=> ?_)
   obtain⟨hn, -⟩:=zaB.out.news (xb,48, [.int .i64 0, .int .i64 0, .int .i64 0, .int .i64 0, .int .i64 0, .slice none 0 0]) (List.mem_cons_of_mem _ (List.mem_cons_self ..))
   have d0:=ze hn 0
   have f0:=zB hn 0
   have d1:=ze hn 1
   have f1:=zB hn 1
   have d2:=ze hn 2
   have f2:=zB hn 2
   have d3:=ze hn 3
   have f3:=zB hn 3
   have d4:=ze hn 4
   have f4:=zB hn 4
   have d5:=ze hn 5
   have f5:=zB hn 5
   clear hn
   have ziE:=zaB.out.store (g:=xb) (t:=48) (cs:= [.int .i64 0, .int .i64 0, .int .i64 0, .int .i64 0, .int .i64 0, .slice none 0 0]) (List.mem_cons_of_mem _ (List.mem_cons_self ..)) [.int .i64 pc, .int .i64 q0, .int .i64 q1, .int .i64 q2, .int .i64 q3, .slice ba bl bc] rfl
   replace ziE:=qh ziE
   go_simp
   clear d0 f0 d1 f1 d2 f2 d3 f3 d4 f4 d5 f5
   refine hK.out _ (yI Xs4 xb 0 [.int .i64 pc, .int .i64 q0, .int .i64 q1, .int .i64 q2, .int .i64 q3, .slice ba bl bc]) ziE.out.below (λ_=> ?_)
   generalize yI Xs4 xb 0 _=Xs6 at ziE ⊢
   clear hK K
   refine yA 13 rfl (λK hK=> ?_)
   obtain⟨hn, -⟩:=ziE.out.news (yb,48, [.int .i64 0, .int .i64 0, .int .i64 0, .int .i64 0, .int .i64 0, .slice none 0 0]) (jK (List.mem_cons_self ..) (Ne.symm zaj.out))
   have d0:=ze hn 0
   have f0:=zB hn 0
   have d1:=ze hn 1
   have f1:=zB hn 1
   have d2:=ze hn 2
   have f2:=zB hn 2
   have d3:=ze hn 3
   have f3:=zB hn 3
   have d4:=ze hn 4
   have f4:=zB hn 4
   have d5:=ze hn 5
   have f5:=zB hn 5
   clear hn
   have zgO:=ziE.out.store (g:=yb) (t:=48) (cs:= [.int .i64 0, .int .i64 0, .int .i64 0, .int .i64 0, .int .i64 0, .slice none 0 0]) (jK (List.mem_cons_self ..) (Ne.symm zaj.out)) [.int .i64 pc', .int .i64 p0, .int .i64 p1, .int .i64 p2, .int .i64 p3, .slice ba' bl' bc'] rfl
   replace zgO:=qh zgO
   go_simp
   clear d0 f0 d1 f1 d2 f2 d3 f3 d4 f4 d5 f5
   refine hK.out _ (yI Xs6 yb 0 [.int .i64 pc', .int .i64 p0, .int .i64 p1, .int .i64 p2, .int .i64 p3, .slice ba' bl' bc']) zgO.out.below (λ_=> ?_)
   generalize yI Xs6 yb 0 _=Xs8 at zgO ⊢
   clear hK K
   refine xQ ?_
   obtain⟨hx, -⟩:=zgO.out.news (xb,48, [.int .i64 pc, .int .i64 q0, .int .i64 q1, .int .i64 q2, .int .i64 q3, .slice ba bl bc]) (jK (zao (List.mem_cons_of_mem _ (List.mem_cons_self ..))) zaj.out)
   obtain⟨hy, -⟩:=zgO.out.news (yb,48, [.int .i64 pc', .int .i64 p0, .int .i64 p1, .int .i64 p2, .int .i64 p3, .slice ba' bl' bc']) (zao (jK (List.mem_cons_self ..) (Ne.symm zaj.out)))
   have HXX:=qh hx
   have HYY:=qh hy
   clear hx hy
   go_wp2_with fail
   go_meet
   case rel=>exact⟨xb,yb,rfl,rfl,zgO.out.below,HXX.out,HYY.out⟩
  skip
  go_simp
  have zgP:=hT0.out.alloc 48 [.int .i64 0, .int .i64 0, .int .i64 0, .int .i64 0, .int .i64 0, .slice none 0 0]
  refine hK.out _ _ zgP.below (λ_=> ?_)
  obtain⟨yb,hyb⟩:∃n,n=wd.heap.size:=⟨_,rfl⟩
  rw [<-hyb] at zgP ⊢
  clear hyb
  generalize World.alloc wd _=zor at zgP ⊢
  replace zgP:=qh zgP
  clear hK K
  refine yA 10 rfl (λK hK=> ?_)
  go_simp
  have zak:yb≠zor.heap.size:=zgP.out.zbr (List.mem_cons_self ..)
  have zek:=zgP.out.alloc 48 [.int .i64 0, .int .i64 0, .int .i64 0, .int .i64 0, .int .i64 0, .slice none 0 0]
  refine hK.out _ _ zek.below (λ_=> ?_)
  obtain⟨xb,hxb⟩:∃n,n=zor.heap.size:=⟨_,rfl⟩
  rw [<-hxb] at zek zak ⊢
  clear hxb
  replace zak:=qh zak
  generalize World.alloc zor _=z0c at zek ⊢
  replace zek:=qh zek
  clear hK K
  refine yA 12 rfl (λK hK=> ?_)
  obtain⟨hn, -⟩:=zek.out.news (xb,48, [.int .i64 0, .int .i64 0, .int .i64 0, .int .i64 0, .int .i64 0, .slice none 0 0]) (List.mem_cons_self ..)
  have d0:=ze hn 0
  have f0:=zB hn 0
  have d1:=ze hn 1
  have f1:=zB hn 1
  have d2:=ze hn 2
  have f2:=zB hn 2
  have d3:=ze hn 3
  have f3:=zB hn 3
  have d4:=ze hn 4
  have f4:=zB hn 4
  have d5:=ze hn 5
  have f5:=zB hn 5
  clear hn
  have zf6:=zek.out.store (g:=xb) (t:=48) (cs:= [.int .i64 0, .int .i64 0, .int .i64 0, .int .i64 0, .int .i64 0, .slice none 0 0]) (List.mem_cons_self ..) [.int .i64 pc, .int .i64 q0, .int .i64 q1, .int .i64 q2, .int .i64 q3, .slice ba bl bc] rfl
  replace zf6:=qh zf6
  go_simp
  clear d0 f0 d1 f1 d2 f2 d3 f3 d4 f4 d5 f5
  refine hK.out _ (yI z0c xb 0 [.int .i64 pc, .int .i64 q0, .int .i64 q1, .int .i64 q2, .int .i64 q3, .slice ba bl bc]) zf6.out.below (λ_=> ?_)
  generalize yI z0c xb 0 _=z0d at zf6 ⊢
  clear hK K
  refine yA 13 rfl (λK hK=> ?_)
  obtain⟨hn, -⟩:=zf6.out.news (yb,48, [.int .i64 0, .int .i64 0, .int .i64 0, .int .i64 0, .int .i64 0, .slice none 0 0]) (jK (List.mem_cons_of_mem _ (List.mem_cons_self ..)) zak.out)
  have d0:=ze hn 0
  have f0:=zB hn 0
  have d1:=ze hn 1
  have f1:=zB hn 1
  have d2:=ze hn 2
  have f2:=zB hn 2
  have d3:=ze hn 3
  have f3:=zB hn 3
  have d4:=ze hn 4
  have f4:=zB hn 4
  have d5:=ze hn 5
  have f5:=zB hn 5
  clear hn
  have zel:=zf6.out.store (g:=yb) (t:=48) (cs:= [.int .i64 0, .int .i64 0, .int .i64 0, .int .i64 0, .int .i64 0, .slice none 0 0]) (jK (List.mem_cons_of_mem _ (List.mem_cons_self ..)) zak.out) [.int .i64 pc', .int .i64 p0, .int .i64 p1, .int .i64 p2, .int .i64 p3, .slice ba' bl' bc'] rfl
  replace zel:=qh zel
  go_simp
  clear d0 f0 d1 f1 d2 f2 d3 f3 d4 f4 d5 f5
  refine hK.out _ (yI z0d yb 0 [.int .i64 pc', .int .i64 p0, .int .i64 p1, .int .i64 p2, .int .i64 p3, .slice ba' bl' bc']) zel.out.below (λ_=> ?_)
  generalize yI z0d yb 0 _=z9f at zel ⊢
  clear hK K
  refine xQ ?_
  obtain⟨hx, -⟩:=zel.out.news (xb,48, [.int .i64 pc, .int .i64 q0, .int .i64 q1, .int .i64 q2, .int .i64 q3, .slice ba bl bc]) (jK (zao (List.mem_cons_self ..)) (Ne.symm zak.out))
  obtain⟨hy, -⟩:=zel.out.news (yb,48, [.int .i64 pc', .int .i64 p0, .int .i64 p1, .int .i64 p2, .int .i64 p3, .slice ba' bl' bc']) (zao (jK (List.mem_cons_of_mem _ (List.mem_cons_self ..)) zak.out))
  have HXX:=qh hx
  have HYY:=qh hy
  clear hx hy
  go_wp2_with fail
  go_meet
  case rel=>exact⟨xb,yb,rfl,rfl,zel.out.below,HXX.out,HYY.out⟩
 case rest=>
 obtain⟨w2,rfl⟩:∃w2:World,w2=wc:=⟨_,rfl⟩
 obtain⟨xb,yb,rfl,rfl,HW2,HXB,HYB⟩:=hcut
 have x0:=ze HXB.out 0
 have x1:=ze HXB.out 1
 have x2:=ze HXB.out 2
 have x3:=ze HXB.out 3
 have x4:=ze HXB.out 4
 have x5:=ze HXB.out 5
 have y0:=ze HYB.out 0
 have y1:=ze HYB.out 1
 have y2:=ze HYB.out 2
 have y3:=ze HYB.out 3
 have y4:=ze HYB.out 4
 have y5:=ze HYB.out 5
 by_cases e0:pc=pc'
 rotate_left
 ·obtain rfl:=wV.out (λe=>e0 (by injection e))
  have he0:((pc:Int) !=pc')=true:=by simp;exact e0
  go_wp2_with fail
  go_ret
  exact⟨by first|rfl|simp,yJ.out _ (zG HBI.out HW2.out)⟩
 subst e0
 by_cases e1:([q0,q1,q2,q3] :List Int)= [p0,p1,p2,p3]
 rotate_left
 ·obtain rfl:=wV.out (λe=>e1 (by injection e))
  have hag:(([q0,q1,q2,q3] :List Int)= [p0,p1,p2,p3])=False:=eq_false e1
  have z9g:decide (([q0,q1,q2,q3] :List Int)= [p0,p1,p2,p3])=false:=decide_eq_false e1
  clear e1
  go_wp2_with fail
  go_ret
  exact⟨by first|rfl|simp,yJ.out _ (zG HBI.out HW2.out)⟩
 simp only [List.cons.injEq,and_true] at e1
 obtain⟨rfl,rfl,rfl,rfl⟩:=e1
 have HSM:Hid (∀y,Below w2.heap.size w2 y->Calls Tryz.prog 44 #[.slice ba bl bc, .slice ba' bl' bc'] y λe w'=>e= .returned (.bool (decide (bf=bf')))/\Below y.heap.size y w'):=λy hy=>
  zrM y _ _ bf bf' (zU.below (zU.below HBF.out HW2.out) hy) (zU.below (zU.below z5f.out HW2.out) hy)
 have he0:((pc:Int) !=pc)=false:=by simp
 by_cases hbe:bf=bf'
 ·subst hbe
  have hd:decide (bf=bf)=true:=decide_eq_true rfl
  rw [hd] at HSM
  clear hd
  go_wp2_with(go_at_call 44;refine(HSM.out _ (Below.refl _ _)).mono ?_;rintro e w3 ⟨rfl,hb3⟩;have HB3:=qh hb3;clear hb3)
  clear x0 x1 x2 x3 x4 x5 y0 y1 y2 y3 y4 y5
  go_roundg (n - (i+1))
  case measure=>rw [HG6.out];omega
  case rel=>exact⟨i+1,by omega,rfl,by simp,zG (zG HBI.out HW2.out) HB3.out,wR.out (by trivial)⟩
 rw [decide_eq_false hbe] at HSM
 obtain rfl:=wV.out (λe=>hbe (by injection e))
 have yO:=qh hbe
 clear hbe
 go_wp2_with(go_at_call 44;refine(HSM.out _ (Below.refl _ _)).mono ?_;rintro e w3 ⟨rfl,hb3⟩;have HB3:=qh hb3;clear hb3)
 clear x0 x1 x2 x3 x4 x5 y0 y1 y2 y3 y4 y5
 go_ret
 exact⟨by first|rfl|simp,yJ.out _ (zG (zG HBI.out HW2.out) HB3.out)⟩
