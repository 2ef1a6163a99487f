/- Two buffers: are they the same: the document's answer: the walk. Four registers are compared. Two states: are they the same: the document's answer: the walk. -/
import Derived.ChangeKeysEq
import Derived.Deep.CutBlock
import Derived.Test.YtliajkheeniljaaGreatDoorZsData
import Derived.Test.YtliajkheeniljaaGreatDoorZsOwnP
import Derived.Test.YtliajkheeniljaaGreatDoorZsStepQ
import Derived.Test.YtliajkheeniljaaGreatDoorZsShort
set_option linter.all false
namespace Go.Proofs.YtliajkheeniljaaGreatDoor
open Go.RowKit
set_option maxRecDepth 100000
set_option maxHeartbeats 16000000
theorem zfj {α:Type} [Inhabited α] {l r:List α} (hl:l.length=r.length) (h:∀j,j<l.length->l.getD j default=r.getD j default):l=r:=by
 apply List.ext_getElem hl
 intro j h1 h2
 have:=h j h1
 rwa [List.getD_eq_getElem?_getD,List.getD_eq_getElem?_getD,List.getElem?_eq_getElem h1,List.getElem?_eq_getElem h2] at this
theorem zfk {α:Type} [Inhabited α] {l r:List α} (j:Nat) (h:l.getD j default≠r.getD j default):l≠r:=fun e=>h (by rw [e])
theorem zqj (w:World) (va vb:Value) (la lb:List zm) (ha:zQ w va la) (hb:zQ w vb lb):
  Calls Tryz.prog 44 #[va,vb] w fun e w'=>e= .returned (.bool (decide (la=lb)))/\Below w.heap.size w w':=by
 obtain⟨aa,ac,rfl,hal⟩:=zk.slice ha
 obtain⟨ba,bc,rfl,hbl⟩:=zk.slice hb
 obtain⟨n,hn⟩:∃n,n=la.length:=⟨_,rfl⟩
 obtain⟨m,hm⟩:∃m,m=lb.length:=⟨_,rfl⟩
 rw [<-hn] at ha hal ⊢
 rw [<-hm] at hb hbl ⊢
 have HA:=qh ha
 have HB:=qh hb
 have HN:=qh hn
 have HM:=qh hm
 have HNO:Hid (la≠lb->decide (la=lb)=false):=fun e=>decide_eq_false e
 have bH:Hid (la=lb->decide (la=lb)=true):=fun e=>decide_eq_true e
 obtain⟨r,hr⟩:∃r,r=decide (la=lb):=⟨_,rfl⟩
 rw [<-hr] at HNO bH ⊢
 clear ha hb hn hm hr
 by_cases hl:n=m
 rotate_left
 ·obtain rfl:=HNO.out (fun e=>hl (by rw [HN.out,HM.out,e]))
  have hl2:((n:Int) !=(m:Int))=true:=by simp;omega
  go_enter Tryz.func44,Tryz.ntmps44
  go_wp2_with fail
  go_ret
  exact⟨rfl,Below.refl _ _⟩
 subst hl
 have HL:Hid (la.length=lb.length):=by rw [Hid, <-HN.out, <-HM.out]
 go_enter Tryz.func44,Tryz.ntmps44
 go_wp2_with fail
 go_loopg [5] n (fun gg s5 wr=>∃i:Nat,i<=n/\Hid (gg=n - i)/\s5= .int .i64 i/\Hid (Below w.heap.size w wr)/\Hid (∀j,j<i->la.getD j default=lb.getD j default))
 case atStart=>exact⟨0,Nat.zero_le _,rfl,rfl,Below.refl _ _,fun j hj=>by omega⟩
 case round=>
  obtain⟨i,hi,HG,rfl,zP,HJ⟩:=hrel
  by_cases hlt:i<n
  rotate_left
  ·obtain rfl:n=i:=by omega
   obtain rfl:=bH.out (zfj HL.out (by rw [<-HN.out];exact HJ.out))
   go_wp2_with fail
   go_ret
   exact⟨rfl,zP.out⟩
  have qQ:(i:Int)<(n:Int):=by omega
  obtain⟨a1,a2,yx, -,x0,x1⟩:=zQ.part HA.out i (by rw [<-HN.out];exact hlt)
  obtain⟨b1,b2,bA, -,y0,y1⟩:=zQ.part HB.out i (by rw [<-HM.out];exact hlt)
  subst yx
  subst bA
  replace x0:=zl zP.out _ _ x0
  replace x1:=zl zP.out _ _ x1
  replace y0:=zl zP.out _ _ y0
  replace y1:=zl zP.out _ _ y1
  have kr:Hid (la.getD i default≠lb.getD i default->r=false):=fun h=>HNO.out (zfk i h)
  have jX:Hid (la.getD i default=lb.getD i default->∀j,j<i+1->la.getD j default=lb.getD j default):=fun e j hj=>by
   by_cases he:j=i
   ·subst he;exact e
   ·exact HJ.out j (by omega)
  generalize la.getD i default=ea at x0 x1 kr jX
  generalize lb.getD i default=eb at y0 y1 kr jX
  obtain⟨p,q⟩:=ea
  obtain⟨p',q'⟩:=eb
  simp only [] at x0 x1 y0 y1
  by_cases h1:p=p'
  ·subst h1
   by_cases h2:q=q'
   ·subst h2
    go_wp2_with fail
    go_quiet (fail)
    go_wp2_with fail
    go_roundg (n - (i+1))
    case measure=>rw [HG.out];omega
    case rel=>exact⟨i+1,by omega,rfl,by simp,zV zP.out _,jX.out (by trivial)⟩
   ·obtain rfl:=kr.out (by simp [h2])
    go_wp2_with fail
    go_quiet (fail)
    go_wp2_with fail
    go_ret
    exact⟨by first|rfl|simp,zV zP.out _⟩
  ·obtain rfl:=kr.out (by simp [h1])
   go_wp2_with fail
   go_quiet (fail)
   go_wp2_with fail
   go_ret
   exact⟨by first|rfl|simp,zV zP.out _⟩
theorem zhA:∃i,Tryz.prog.info? 3=some i/\i.size=1:=by
 have h:(Tryz.prog.info? 3).map (fun i=>i.size)=some 1:=by kernel_rfl
 cases hq:Tryz.prog.info? 3 with
 |none=>rw [hq] at h;cases h
 |some i=>rw [hq] at h;exact⟨i,rfl,by simpa using h⟩
theorem znx:Tryz.prog.cellsOf 3=1:=by kernel_rfl
theorem zg6:Tryz.prog.underlying 3=some (.int .i64):=by kernel_rfl
theorem zny:Tryz.prog.underlying 45=some (.array 4 3):=by kernel_rfl
theorem zez (d:Nat) (w:World) (a b:Int):(Op.equalIn (d+1) 3 (.int .i64 a) (.int .i64 b)).run Tryz.prog w= .ok (a==b) w:=by
 simp [Op.equalIn,run_underlying zg6]
theorem j5 (w:World) (xs:Array Value) (j:Nat) (a:Int) (h:xs[j]? =some (.int .i64 a)):(part 3 xs j).run Tryz.prog w= .ok (.int .i64 a) w:=by
 obtain⟨i,hi,hs⟩:=zhA
 have hagg:(isAgg 3).run Tryz.prog w= .ok false w:=by
  unfold isAgg
  rw [Sem.run_bind,run_underlying zg6 w]
  rfl
 simp [part,Sem.run_bind,hagg,h]
@[go_sem] theorem z1Q (w:World) (q0 q1 q2 q3 p0 p1 p2 p3:Int):(Op.equalIn 10000 45 (.agg #[.int .i64 q0, .int .i64 q1, .int .i64 q2, .int .i64 q3]) (.agg #[.int .i64 p0, .int .i64 p1, .int .i64 p2, .int .i64 p3])).run Tryz.prog w
  = .ok (decide (([q0,q1,q2,q3] :List Int)= [p0,p1,p2,p3])) w:=by
 obtain⟨i,hi,hs⟩:=zhA
 rw [run_equalIn_array w 9999 _ _ zny hi,znx]
 have e:List.range 4= [0,1,2,3] :=rfl
 rw [e]
 have g0:=fun(w:World) (a b c d:Int)=>j5 w #[.int .i64 a, .int .i64 b, .int .i64 c, .int .i64 d] 0 a rfl
 have g1:=fun(w:World) (a b c d:Int)=>j5 w #[.int .i64 a, .int .i64 b, .int .i64 c, .int .i64 d] 1 b rfl
 have g2:=fun(w:World) (a b c d:Int)=>j5 w #[.int .i64 a, .int .i64 b, .int .i64 c, .int .i64 d] 2 c rfl
 have g3:=fun(w:World) (a b c d:Int)=>j5 w #[.int .i64 a, .int .i64 b, .int .i64 c, .int .i64 d] 3 d rfl
 have ge:=zez 9998
 by_cases h0:q0=p0
 ·by_cases h1:q1=p1
  ·by_cases h2:q2=p2
   ·by_cases h3:q3=p3
    ·simp [Op.eqItems,g0,g1,g2,g3,ge,h0,h1,h2,h3]
    ·simp [Op.eqItems,g0,g1,g2,g3,ge,h0,h1,h2,h3]
   ·simp [Op.eqItems,g0,g1,g2,g3,ge,h0,h1,h2]
  ·simp [Op.eqItems,g0,g1,g2,g3,ge,h0,h1]
 ·simp [Op.eqItems,g0,g1,g2,g3,ge,h0]
theorem zqk {s t:zu} (h:s.threads≠t.threads):s≠t:=fun e=>h (by rw [e])
theorem zql {s t:zu} (h:s.mem≠t.mem):s≠t:=fun e=>h (by rw [e])
theorem zqm {s t:zu} (h:s.bad≠t.bad):s≠t:=fun e=>h (by rw [e])
theorem zqn {α:Type} {l r:List α} (h:l.length≠r.length):l≠r:=fun e=>h (by rw [e])
theorem zqo (w:World) (s t:zu) (sa sb ta tb:Value) (hs:zZ w s sa sb) (ht:zZ w t ta tb):
  Calls Tryz.prog 17 #[yH s sa sb,yH t ta tb] w fun e w'=>e= .returned (.bool (decide (s=t)))/\Below w.heap.size w w':=by
 obtain⟨sa1,sac,rfl,hsl⟩:=zk.slice hs.threads
 obtain⟨sb1,sbc,rfl,hsm⟩:=zk.slice hs.mem
 obtain⟨ta1,tac,rfl,htl⟩:=zk.slice ht.threads
 obtain⟨tb1,tbc,rfl,htm⟩:=zk.slice ht.mem
 have znz:Hid (s.threads≠t.threads->decide (s=t)=false):=fun h=>decide_eq_false (zqk h)
 have zbW:Hid (s.mem≠t.mem->decide (s=t)=false):=fun h=>decide_eq_false (zql h)
 have ztw:Hid (s.bad≠t.bad->decide (s=t)=false):=fun h=>decide_eq_false (zqm h)
 have bH:Hid (s.threads=t.threads->s.mem=t.mem->s.bad=t.bad->decide (s=t)=true):=fun h1 h2 h3=>decide_eq_true (by cases s;cases t;simp only [] at h1 h2 h3;rw [h1,h2,h3])
 obtain⟨r,hr⟩:∃r,r=decide (s=t):=⟨_,rfl⟩
 rw [<-hr] at znz zbW ztw bH ⊢
 clear hr
 have h1:=hs.threads
 have h2:=hs.mem
 have h3:=ht.threads
 have h4:=ht.mem
 clear hs ht
 unfold yH
 obtain⟨tl,sm,zcW⟩:=s
 obtain⟨tl',tm,zfl⟩:=t
 simp only [] at h1 h2 h3 h4 hsl hsm htl htm znz zbW ztw bH ⊢
 obtain⟨n,hn⟩:∃n,n=tl.length:=⟨_,rfl⟩
 obtain⟨n',hn'⟩:∃n,n=tl'.length:=⟨_,rfl⟩
 obtain⟨m,hm⟩:∃m,m=sm.length:=⟨_,rfl⟩
 obtain⟨m',hm'⟩:∃m,m=tm.length:=⟨_,rfl⟩
 rw [<-hn] at h1 hsl ⊢
 rw [<-hn'] at h3 htl ⊢
 rw [<-hm] at h2 hsm ⊢
 rw [<-hm'] at h4 htm ⊢
 have hB:=xQ w (.cells #[.slice sa1 n sac, .slice sb1 m sbc, .bool zcW] 30) (.cells #[.slice ta1 n' tac, .slice tb1 m' tbc, .bool zfl] 30)
 have H1:=qh (xH w (.cells #[.slice sa1 n sac, .slice sb1 m sbc, .bool zcW] 30) (.cells #[.slice ta1 n' tac, .slice tb1 m' tbc, .bool zfl] 30))
 have H2:=qh (xu w (.cells #[.slice sa1 n sac, .slice sb1 m sbc, .bool zcW] 30) (.cells #[.slice ta1 n' tac, .slice tb1 m' tbc, .bool zfl] 30))
 have HT1:=qh (zk.below gM.stays h1 hB)
 have HM1:=qh (zk.below wV.stays h2 hB)
 have HT2:=qh (zk.below gM.stays h3 hB)
 have bC:=qh (zk.below wV.stays h4 hB)
 have HB:=qh hB
 have HN:=qh hn
 have HN':=qh hn'
 have HM:=qh hm
 have HM':=qh hm'
 clear h1 h2 h3 h4 hB hn hn' hm hm'
 go_enter Tryz.func17,Tryz.ntmps17
 go_upto_region 1 with fail
 generalize World.alloc (World.alloc w _) _=W at HB H1 H2 HT1 HM1 HT2 bC ⊢
 obtain⟨gx,hgx⟩:∃gx,gx=w.heap.size:=⟨_,rfl⟩
 rw [<-hgx] at H1 H2 ⊢
 clear hgx
 have HC:Hid (∀x,Below W.heap.size W x->x.cell? ⟨gx,0,none⟩=some (.slice sa1 n sac)/\x.cell? ⟨gx,1,none⟩=some (.slice sb1 m sbc)/\x.cell? ⟨gx,2,none⟩=some (.bool zcW)/\x.cell? ⟨gx+1,0,none⟩=some (.slice ta1 n' tac)/\x.cell? ⟨gx+1,1,none⟩=some (.slice tb1 m' tbc)/\x.cell? ⟨gx+1,2,none⟩=some (.bool zfl)):=fun x hx=>
  ⟨zl hx _ _ (zi H1.out 0),zl hx _ _ (zi H1.out 1),zl hx _ _ (zi H1.out 2),zl hx _ _ (zi H2.out 0),zl hx _ _ (zi H2.out 1),zl hx _ _ (zi H2.out 2)⟩
 have yC:Hid (∀x,Below W.heap.size W x->Below w.heap.size w x):=fun x hx=>HB.out.trans (hx.mono HB.out.size)
 obtain⟨c0,c1,c2,c3,c4,c5⟩:=HC.out W (Below.refl _ _)
 by_cases hnn:n=n'
 rotate_left
 ·obtain rfl:=znz.out (zqn (by rw [<-HN.out, <-HN'.out];exact hnn))
  have hn0:((n:Int) !=(n':Int))=true:=by simp;omega
  go_wp2_with fail
  go_ret
  exact⟨by first|rfl|simp,yC.out _ (Below.refl _ _)⟩
 by_cases hmm:m=m'
 rotate_left
 ·obtain rfl:=zbW.out (zqn (by rw [<-HM.out, <-HM'.out];exact hmm))
  have hm0:((m:Int) !=(m':Int))=true:=by simp;omega
  subst hnn
  go_wp2_with fail
  go_ret
  exact⟨by first|rfl|simp,yC.out _ (Below.refl _ _)⟩
 by_cases hbb:zcW=zfl
 rotate_left
 ·obtain rfl:=ztw.out hbb
  subst hnn
  subst hmm
  have hb0:(zcW==zfl)=false:=by cases zcW<;>cases zfl<;>simp_all
  clear hbb
  go_wp2_with fail
  go_ret
  exact⟨by first|rfl|simp,yC.out _ (Below.refl _ _)⟩
 subst hnn
 subst hmm
 subst hbb
 have hb0:(zcW !=zcW)=false:=by simp
 go_wp2_with fail
 clear c0 c1 c2 c3 c4 c5 hb0
 go_loopg [5] m (fun gg s5 wr=>∃i:Nat,i<=m/\Hid (gg=m - i)/\s5= .int .i64 i/\Hid (Below W.heap.size W wr)/\Hid (∀j,j<i->sm.getD j default=tm.getD j default))
 case atStart=>exact⟨0,Nat.zero_le _,rfl,rfl,Below.refl _ _,fun j hj=>by omega⟩
 case round=>
  obtain⟨i,hi,HG,rfl,zP,HJ⟩:=hrel
  obtain⟨c0,c1,c2,c3,c4,c5⟩:=HC.out wr zP.out
  by_cases hlt:i<m
  ·have qQ:(i:Int)<(m:Int):=by omega
   obtain⟨a1,a2,yx, -,x0⟩:=xJ.part HM1.out i (by rw [<-HM.out];exact hlt)
   obtain⟨b1,b2,bA, -,y0⟩:=xJ.part bC.out i (by rw [<-HM'.out];exact hlt)
   subst yx
   subst bA
   replace x0:=zl zP.out _ _ x0
   replace y0:=zl zP.out _ _ y0
   have kr:Hid (sm.getD i 0≠tm.getD i 0->r=false):=fun h=>zbW.out (zfk i h)
   have jX:Hid (sm.getD i 0=tm.getD i 0->∀j,j<i+1->sm.getD j default=tm.getD j default):=fun e j hj=>by
    by_cases he:j=i
    ·subst he;exact e
    ·exact HJ.out j (by omega)
   generalize sm.getD i 0=p at x0 kr jX
   generalize tm.getD i 0=q at y0 kr jX
   by_cases h1:p=q
   ·subst h1
    go_wp2_with fail
    go_quiet (fail)
    go_wp2_with fail
    go_roundg (m - (i+1))
    case measure=>rw [HG.out];omega
    case rel=>exact⟨i+1,by omega,rfl,by simp,zV zP.out _,jX.out (by trivial)⟩
   ·obtain rfl:=kr.out (by simp [h1])
    go_wp2_with fail
    go_quiet (fail)
    go_wp2_with fail
    go_ret
    exact⟨by first|rfl|simp,yC.out _ (zV zP.out _)⟩
  obtain rfl:m=i:=by omega
  have hmem:sm=tm:=zfj (by rw [<-HM.out, <-HM'.out]) (by rw [<-HM.out];exact HJ.out)
  have zbk:=qh hmem
  clear hmem
  go_wp2_with fail
  clear c0 c1 c2 c3 c4 c5
  go_loopg [6] n (fun gg s6 wr=>∃i:Nat,i<=n/\Hid (gg=n - i)/\s6= .int .i64 i/\Hid (Below W.heap.size W wr)/\Hid (∀j,j<i->tl.getD j default=tl'.getD j default))
  case atStart=>exact⟨0,Nat.zero_le _,rfl,rfl,zP.out,fun j hj=>by omega⟩
  case round=>
   obtain⟨i,hi,HG6,rfl,HBI,HJ6⟩:=hrel
   obtain⟨wo,rfl⟩:∃wo:World,wo=wr:=⟨_,rfl⟩
   by_cases hlt:i<n
   rotate_left
   ·obtain rfl:n=i:=by omega
    obtain rfl:=bH.out (zfj (by rw [<-HN.out, <-HN'.out]) (by rw [<-HN.out];exact HJ6.out)) zbk.out (by trivial)
    obtain⟨c0,c1,c2,c3,c4,c5⟩:=HC.out wo HBI.out
    go_wp2_with fail
    go_ret
    exact⟨by first|rfl|simp,yC.out _ HBI.out⟩
   have qQ:(i:Int)<(n:Int):=by omega
   obtain⟨a1,a2,ba,bc,yx, -,hr4,x0,x1,x2,x3,x4,x5,hbuf⟩:=xY.part HT1.out i (by rw [<-HN.out];exact hlt)
   obtain⟨b1,b2,ba',bc',bA, -,zn0,y0,y1,y2,y3,y4,y5,zg7⟩:=xY.part HT2.out i (by rw [<-HN'.out];exact hlt)
   subst yx
   subst bA
   have kr:Hid (tl.getD i default≠tl'.getD i default->r=false):=fun h=>znz.out (zfk i h)
   have jX:Hid (tl.getD i default=tl'.getD i default->∀j,j<i+1->tl.getD j default=tl'.getD j default):=fun e j hj=>by
    by_cases he:j=i
    ·subst he;exact e
    ·exact HJ6.out j (by omega)
   generalize tl.getD i default=ea at x0 x1 x2 x3 x4 x5 hbuf hr4 kr jX
   generalize tl'.getD i default=eb at y0 y1 y2 y3 y4 y5 zg7 zn0 kr jX
   obtain⟨pc,rg,bf⟩:=ea
   obtain⟨pc',rg',bf'⟩:=eb
   simp only [] at x0 x1 x2 x3 x4 x5 hbuf hr4 y0 y1 y2 y3 y4 y5 zg7 zn0
   obtain⟨q0,q1,q2,q3,rfl⟩:=j4 hr4
   obtain⟨p0,p1,p2,p3,rfl⟩:=j4 zn0
   simp only [List.getD_cons_zero,List.getD_cons_succ] at x1 x2 x3 x4 y1 y2 y3 y4
   obtain⟨bl,hbl⟩:∃bl,bl=bf.length:=⟨_,rfl⟩
   obtain⟨bl',ztx⟩:∃bl,bl=bf'.length:=⟨_,rfl⟩
   rw [<-hbl] at x5 hbuf
   rw [<-ztx] at y5 zg7
   have HX:Hid (∀y,Below wo.heap.size wo y->(y.cell? ⟨gx,0,none⟩=some (.slice (some ⟨a1,a2,none⟩) n sac)/\y.cell? ⟨gx+1,0,none⟩=some (.slice (some ⟨b1,b2,none⟩) n tac)/\y.cell? ⟨a1,a2+i*6,none⟩=some (.int .i64 pc)/\y.cell? ⟨a1,a2+i*6+1,none⟩=some (.int .i64 q0)/\y.cell? ⟨a1,a2+i*6+2,none⟩=some (.int .i64 q1)/\y.cell? ⟨a1,a2+i*6+3,none⟩=some (.int .i64 q2)/\y.cell? ⟨a1,a2+i*6+4,none⟩=some (.int .i64 q3)/\y.cell? ⟨a1,a2+i*6+5,none⟩=some (.slice ba bl bc)/\
     y.cell? ⟨b1,b2+i*6,none⟩=some (.int .i64 pc')/\y.cell? ⟨b1,b2+i*6+1,none⟩=some (.int .i64 p0)/\y.cell? ⟨b1,b2+i*6+2,none⟩=some (.int .i64 p1)/\y.cell? ⟨b1,b2+i*6+3,none⟩=some (.int .i64 p2)/\y.cell? ⟨b1,b2+i*6+4,none⟩=some (.int .i64 p3)/\y.cell? ⟨b1,b2+i*6+5,none⟩=some (.slice ba' bl' bc'))):=fun y hy=>by
    have hw:=zF HBI.out hy
    obtain⟨c0, -, -,c3, -, -⟩:=HC.out y hw
    exact⟨c0,c3,zl hw _ _ x0,zl hw _ _ x1,zl hw _ _ x2,zl hw _ _ x3,zl hw _ _ x4,zl hw _ _ x5,zl hw _ _ y0,zl hw _ _ y1,zl hw _ _ y2,zl hw _ _ y3,zl hw _ _ y4,zl hw _ _ y5⟩
   have wh:=qh (zQ.below hbuf HBI.out)
   have zBD:=qh (zQ.below zg7 HBI.out)
   obtain⟨c0,c1,c2,c3,c4,c5⟩:=HC.out wo HBI.out
   have qp:=qh hbl
   have zK1:=qh ztx
   clear x0 x1 x2 x3 x4 x5 y0 y1 y2 y3 y4 y5 hbuf zg7 hbl ztx hr4 zn0
   go_upto_region 11 with fail
   clear c0 c1 c2 c3 c4 c5
   go_cut [7,8] (fun s7 s8 w'=>∃xb yb,s7= .pointer (some ⟨xb,0,none⟩)/\s8= .pointer (some ⟨yb,0,none⟩)/\Hid (Below wo.heap.size wo w')/\Hid (w'.heap[xb]? =some (.cells #[.int .i64 pc, .int .i64 q0, .int .i64 q1, .int .i64 q2, .int .i64 q3, .slice ba bl bc] 48 (0,0)))/\Hid (w'.heap[yb]? =some (.cells #[.int .i64 pc', .int .i64 p0, .int .i64 p1, .int .i64 p2, .int .i64 p3, .slice ba' bl' bc'] 48 (0,0))))
   case first=>
    have hT0:=qh (Loc.start wo).drew
    refine wp_region_noPanic ?_
    refine wp_region_held_drew (S:=fun x=>Below wo.heap.size wo x) (by kernel_rfl) (Below.refl _ _).drew (fun _=> ?_)
    obtain⟨wd,hwd⟩:∃wd,wd=wo.drew:=⟨_,rfl⟩
    rw [<-hwd] at hT0 ⊢
    clear hwd
    refine zy 0 57 ?vs1 rfl ?zrI (hT0.out.below) ?_
    case zrI=>(intro _ _;go_simp<;>rfl)
    simp only [Act.put,za,ze,zh]
    refine zy 1 58 ?vs2 rfl ?zrJ (hT0.out.below) ?_
    case zrJ=>(intro x h;have e:=HX.out x h;go_simp<;>rfl)
    simp only [Act.put,za,ze,zh]
    refine zy 2 59 ?vs3 rfl ?zrK (hT0.out.below) ?_
    case zrK=>(intro _ _;go_simp<;>rfl)
    simp only [Act.put,za,ze,zh]
    refine zy 3 60 ?vs4 rfl ?zrL (hT0.out.below) ?_
    case zrL=>(intro _ _;go_simp<;>rfl)
    simp only [Act.put,za,ze,zh]
    refine zy 4 61 ?vs5 rfl ?zrM (hT0.out.below) ?_
    case zrM=>(intro x h;have e:=HX.out x h;go_simp<;>rfl)
    simp only [Act.put,za,ze,zh]
    refine zy 5 62 ?vs6 rfl ?zrN (hT0.out.below) ?_
    case zrN=>(intro _ _;go_simp<;>rfl)
    simp only [Act.put,za,ze,zh]
    refine zy 6 63 ?vs7 rfl ?zrO (hT0.out.below) ?_
    case zrO=>(intro x h;have e:=HX.out x h;go_simp<;>rfl)
    simp only [Act.put,za,ze,zh]
    refine zy 7 64 ?vs8 rfl ?zBE (hT0.out.below) ?_
    case zBE=>(intro _ _;go_simp<;>rfl)
    simp only [Act.put,za,ze,zh]
    refine zy 8 65 ?vs9 rfl ?zBF (hT0.out.below) ?_
    case zBF=>(intro _ _;go_simp<;>rfl)
    simp only [Act.put,za,ze,zh]
    refine zy 9 66 ?zK2 rfl ?z4X (hT0.out.below) ?_
    case z4X=>(intro x h;have e:=HX.out x h;go_simp<;>rfl)
    simp only [Act.put,za,ze,zh]
    refine wpAnyH_ready (rs:= [10,11]) (by kernel_rfl) (by simp) ?_
    refine AllReadyH.cons rfl (fun K hK=> ?_) (AllReadyH.cons rfl (fun K hK=> ?_) AllReadyH.nil)
    ·skip
     go_simp
     have uQ:=hT0.out.alloc 48 [.int .i64 0, .int .i64 0, .int .i64 0, .int .i64 0, .int .i64 0, .slice none 0 0]
     refine hK.out _ _ uQ.below (fun _=> ?_)
     obtain⟨xb,hxb⟩:∃n,n=wd.heap.size:=⟨_,rfl⟩
     rw [<-hxb] at uQ ⊢
     clear hxb
     generalize World.alloc wd _=Xs2 at uQ ⊢
     replace uQ:=qh uQ
     clear hK K
     refine zY 11 rfl (fun K hK=> ?_)
     go_simp
     have uU:xb≠Xs2.heap.size:=uQ.out.za1 (List.mem_cons_self ..)
     have pI:=uQ.out.alloc 48 [.int .i64 0, .int .i64 0, .int .i64 0, .int .i64 0, .int .i64 0, .slice none 0 0]
     refine hK.out _ _ pI.below (fun _=> ?_)
     obtain⟨yb,hyb⟩:∃n,n=Xs2.heap.size:=⟨_,rfl⟩
     rw [<-hyb] at pI uU ⊢
     clear hyb
     replace uU:=qh uU
     generalize World.alloc Xs2 _=Xs4 at pI ⊢
     replace pI:=qh pI
     clear hK K
     refine zY 12 rfl (fun K hK=> ?_)
     obtain⟨hn, -⟩:=pI.out.news (xb,48, [.int .i64 0, .int .i64 0, .int .i64 0, .int .i64 0, .int .i64 0, .slice none 0 0]) (List.mem_cons_of_mem _ (List.mem_cons_self ..))
     have d0:=zi hn 0
     have f0:=zB hn 0
     have d1:=zi hn 1
     have f1:=zB hn 1
     have d2:=zi hn 2
     have f2:=zB hn 2
     have d3:=zi hn 3
     have f3:=zB hn 3
     have d4:=zi hn 4
     have f4:=zB hn 4
     have d5:=zi hn 5
     have f5:=zB hn 5
     clear hn
     have zhb:=pI.out.store (g:=xb) (t:=48) (cs:= [.int .i64 0, .int .i64 0, .int .i64 0, .int .i64 0, .int .i64 0, .slice none 0 0]) (List.mem_cons_of_mem _ (List.mem_cons_self ..)) [.int .i64 pc, .int .i64 q0, .int .i64 q1, .int .i64 q2, .int .i64 q3, .slice ba bl bc] rfl
     replace zhb:=qh zhb
     go_simp
     clear d0 f0 d1 f1 d2 f2 d3 f3 d4 f4 d5 f5
     refine hK.out _ (zU Xs4 xb 0 [.int .i64 pc, .int .i64 q0, .int .i64 q1, .int .i64 q2, .int .i64 q3, .slice ba bl bc]) zhb.out.below (fun _=> ?_)
     generalize zU Xs4 xb 0 _=Xs6 at zhb ⊢
     clear hK K
     refine zY 13 rfl (fun K hK=> ?_)
     obtain⟨hn, -⟩:=zhb.out.news (yb,48, [.int .i64 0, .int .i64 0, .int .i64 0, .int .i64 0, .int .i64 0, .slice none 0 0]) (vV (List.mem_cons_self ..) (Ne.symm uU.out))
     have d0:=zi hn 0
     have f0:=zB hn 0
     have d1:=zi hn 1
     have f1:=zB hn 1
     have d2:=zi hn 2
     have f2:=zB hn 2
     have d3:=zi hn 3
     have f3:=zB hn 3
     have d4:=zi hn 4
     have f4:=zB hn 4
     have d5:=zi hn 5
     have f5:=zB hn 5
     clear hn
     have zfm:=zhb.out.store (g:=yb) (t:=48) (cs:= [.int .i64 0, .int .i64 0, .int .i64 0, .int .i64 0, .int .i64 0, .slice none 0 0]) (vV (List.mem_cons_self ..) (Ne.symm uU.out)) [.int .i64 pc', .int .i64 p0, .int .i64 p1, .int .i64 p2, .int .i64 p3, .slice ba' bl' bc'] rfl
     replace zfm:=qh zfm
     go_simp
     clear d0 f0 d1 f1 d2 f2 d3 f3 d4 f4 d5 f5
     refine hK.out _ (zU Xs6 yb 0 [.int .i64 pc', .int .i64 p0, .int .i64 p1, .int .i64 p2, .int .i64 p3, .slice ba' bl' bc']) zfm.out.below (fun _=> ?_)
     generalize zU Xs6 yb 0 _=Xs8 at zfm ⊢
     clear hK K
     refine wpAnyH_done (by kernel_rfl) ?_ _
     refine NoPanic.normal ?_
     obtain⟨hx, -⟩:=zfm.out.news (xb,48, [.int .i64 pc, .int .i64 q0, .int .i64 q1, .int .i64 q2, .int .i64 q3, .slice ba bl bc]) (vV (uX (List.mem_cons_of_mem _ (List.mem_cons_self ..))) uU.out)
     obtain⟨hy, -⟩:=zfm.out.news (yb,48, [.int .i64 pc', .int .i64 p0, .int .i64 p1, .int .i64 p2, .int .i64 p3, .slice ba' bl' bc']) (uX (vV (List.mem_cons_self ..) (Ne.symm uU.out)))
     have HXX:=qh hx
     have HYY:=qh hy
     clear hx hy
     go_wp2_with fail
     go_meet
     case rel=>exact⟨xb,yb,rfl,rfl,zfm.out.below,HXX.out,HYY.out⟩
    ·skip
     go_simp
     have zfn:=hT0.out.alloc 48 [.int .i64 0, .int .i64 0, .int .i64 0, .int .i64 0, .int .i64 0, .slice none 0 0]
     refine hK.out _ _ zfn.below (fun _=> ?_)
     obtain⟨yb,hyb⟩:∃n,n=wd.heap.size:=⟨_,rfl⟩
     rw [<-hyb] at zfn ⊢
     clear hyb
     generalize World.alloc wd _=zmO at zfn ⊢
     replace zfn:=qh zfn
     clear hK K
     refine zY 10 rfl (fun K hK=> ?_)
     go_simp
     have uV:yb≠zmO.heap.size:=zfn.out.za1 (List.mem_cons_self ..)
     have zcX:=zfn.out.alloc 48 [.int .i64 0, .int .i64 0, .int .i64 0, .int .i64 0, .int .i64 0, .slice none 0 0]
     refine hK.out _ _ zcX.below (fun _=> ?_)
     obtain⟨xb,hxb⟩:∃n,n=zmO.heap.size:=⟨_,rfl⟩
     rw [<-hxb] at zcX uV ⊢
     clear hxb
     replace uV:=qh uV
     generalize World.alloc zmO _=z0y at zcX ⊢
     replace zcX:=qh zcX
     clear hK K
     refine zY 12 rfl (fun K hK=> ?_)
     obtain⟨hn, -⟩:=zcX.out.news (xb,48, [.int .i64 0, .int .i64 0, .int .i64 0, .int .i64 0, .int .i64 0, .slice none 0 0]) (List.mem_cons_self ..)
     have d0:=zi hn 0
     have f0:=zB hn 0
     have d1:=zi hn 1
     have f1:=zB hn 1
     have d2:=zi hn 2
     have f2:=zB hn 2
     have d3:=zi hn 3
     have f3:=zB hn 3
     have d4:=zi hn 4
     have f4:=zB hn 4
     have d5:=zi hn 5
     have f5:=zB hn 5
     clear hn
     have zep:=zcX.out.store (g:=xb) (t:=48) (cs:= [.int .i64 0, .int .i64 0, .int .i64 0, .int .i64 0, .int .i64 0, .slice none 0 0]) (List.mem_cons_self ..) [.int .i64 pc, .int .i64 q0, .int .i64 q1, .int .i64 q2, .int .i64 q3, .slice ba bl bc] rfl
     replace zep:=qh zep
     go_simp
     clear d0 f0 d1 f1 d2 f2 d3 f3 d4 f4 d5 f5
     refine hK.out _ (zU z0y xb 0 [.int .i64 pc, .int .i64 q0, .int .i64 q1, .int .i64 q2, .int .i64 q3, .slice ba bl bc]) zep.out.below (fun _=> ?_)
     generalize zU z0y xb 0 _=z0z at zep ⊢
     clear hK K
     refine zY 13 rfl (fun K hK=> ?_)
     obtain⟨hn, -⟩:=zep.out.news (yb,48, [.int .i64 0, .int .i64 0, .int .i64 0, .int .i64 0, .int .i64 0, .slice none 0 0]) (vV (List.mem_cons_of_mem _ (List.mem_cons_self ..)) uV.out)
     have d0:=zi hn 0
     have f0:=zB hn 0
     have d1:=zi hn 1
     have f1:=zB hn 1
     have d2:=zi hn 2
     have f2:=zB hn 2
     have d3:=zi hn 3
     have f3:=zB hn 3
     have d4:=zi hn 4
     have f4:=zB hn 4
     have d5:=zi hn 5
     have f5:=zB hn 5
     clear hn
     have zcY:=zep.out.store (g:=yb) (t:=48) (cs:= [.int .i64 0, .int .i64 0, .int .i64 0, .int .i64 0, .int .i64 0, .slice none 0 0]) (vV (List.mem_cons_of_mem _ (List.mem_cons_self ..)) uV.out) [.int .i64 pc', .int .i64 p0, .int .i64 p1, .int .i64 p2, .int .i64 p3, .slice ba' bl' bc'] rfl
     replace zcY:=qh zcY
     go_simp
     clear d0 f0 d1 f1 d2 f2 d3 f3 d4 f4 d5 f5
     refine hK.out _ (zU z0z yb 0 [.int .i64 pc', .int .i64 p0, .int .i64 p1, .int .i64 p2, .int .i64 p3, .slice ba' bl' bc']) zcY.out.below (fun _=> ?_)
     generalize zU z0z yb 0 _=zK3 at zcY ⊢
     clear hK K
     refine wpAnyH_done (by kernel_rfl) ?_ _
     refine NoPanic.normal ?_
     obtain⟨hx, -⟩:=zcY.out.news (xb,48, [.int .i64 pc, .int .i64 q0, .int .i64 q1, .int .i64 q2, .int .i64 q3, .slice ba bl bc]) (vV (uX (List.mem_cons_self ..)) (Ne.symm uV.out))
     obtain⟨hy, -⟩:=zcY.out.news (yb,48, [.int .i64 pc', .int .i64 p0, .int .i64 p1, .int .i64 p2, .int .i64 p3, .slice ba' bl' bc']) (uX (vV (List.mem_cons_of_mem _ (List.mem_cons_self ..)) uV.out))
     have HXX:=qh hx
     have HYY:=qh hy
     clear hx hy
     go_wp2_with fail
     go_meet
     case rel=>exact⟨xb,yb,rfl,rfl,zcY.out.below,HXX.out,HYY.out⟩
   case rest=>
    obtain⟨w2,rfl⟩:∃w2:World,w2=wc:=⟨_,rfl⟩
    obtain⟨xb,yb,rfl,rfl,HW2,HXB,HYB⟩:=hcut
    have x0:=zi HXB.out 0
    have x1:=zi HXB.out 1
    have x2:=zi HXB.out 2
    have x3:=zi HXB.out 3
    have x4:=zi HXB.out 4
    have x5:=zi HXB.out 5
    have y0:=zi HYB.out 0
    have y1:=zi HYB.out 1
    have y2:=zi HYB.out 2
    have y3:=zi HYB.out 3
    have y4:=zi HYB.out 4
    have y5:=zi HYB.out 5
    by_cases e0:pc=pc'
    rotate_left
    ·obtain rfl:=kr.out (fun e=>e0 (by injection e))
     have he0:((pc:Int) !=pc')=true:=by simp;exact e0
     go_wp2_with fail
     go_ret
     exact⟨by first|rfl|simp,yC.out _ (zF HBI.out HW2.out)⟩
    subst e0
    by_cases e1:([q0,q1,q2,q3] :List Int)= [p0,p1,p2,p3]
    rotate_left
    ·obtain rfl:=kr.out (fun e=>e1 (by injection e))
     have hag:(([q0,q1,q2,q3] :List Int)= [p0,p1,p2,p3])=False:=eq_false e1
     have zK4:decide (([q0,q1,q2,q3] :List Int)= [p0,p1,p2,p3])=false:=decide_eq_false e1
     clear e1
     go_wp2_with fail
     go_ret
     exact⟨by first|rfl|simp,yC.out _ (zF HBI.out HW2.out)⟩
    simp only [List.cons.injEq,and_true] at e1
    obtain⟨rfl,rfl,rfl,rfl⟩:=e1
    have HSM:Hid (∀y,Below w2.heap.size w2 y->Calls Tryz.prog 44 #[.slice ba bl bc, .slice ba' bl' bc'] y fun e w'=>e= .returned (.bool (decide (bf=bf')))/\Below y.heap.size y w'):=fun y hy=>
     zqj y _ _ bf bf' (zQ.below (zQ.below wh.out HW2.out) hy) (zQ.below (zQ.below zBD.out HW2.out) hy)
    have he0:((pc:Int) !=pc)=false:=by simp
    by_cases hbe:bf=bf'
    ·subst hbe
     have hd:decide (bf=bf)=true:=decide_eq_true rfl
     rw [hd] at HSM
     clear hd
     go_wp2_with(go_at_call 44;refine(HSM.out _ (Below.refl _ _)).mono ?_;rintro e w3 ⟨rfl,hb3⟩;have HB3:=qh hb3;clear hb3)
     clear x0 x1 x2 x3 x4 x5 y0 y1 y2 y3 y4 y5
     go_roundg (n - (i+1))
     case measure=>rw [HG6.out];omega
     case rel=>exact⟨i+1,by omega,rfl,by simp,zF (zF HBI.out HW2.out) HB3.out,jX.out (by trivial)⟩
    ·rw [decide_eq_false hbe] at HSM
     obtain rfl:=kr.out (fun e=>hbe (by injection e))
     have yE:=qh hbe
     clear hbe
     go_wp2_with(go_at_call 44;refine(HSM.out _ (Below.refl _ _)).mono ?_;rintro e w3 ⟨rfl,hb3⟩;have HB3:=qh hb3;clear hb3)
     clear x0 x1 x2 x3 x4 x5 y0 y1 y2 y3 y4 y5
     go_ret
     exact⟨by first|rfl|simp,yC.out _ (zF (zF HBI.out HW2.out) HB3.out)⟩
end Go.Proofs.YtliajkheeniljaaGreatDoor
