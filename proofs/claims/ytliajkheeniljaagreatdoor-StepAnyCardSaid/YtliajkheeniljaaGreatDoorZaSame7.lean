/- Two buffers: are they the same: the document's answer: the walk. Four registers are compared. Two states: are they the same: the document's answer: the walk. -/
import Derived.ChangeKeysEq
import Derived.Deep.CutBlock
import Derived.Test.YtliajkheeniljaaGreatDoorZaData
import Derived.Test.YtliajkheeniljaaGreatDoorZaOwnP
import Derived.Test.YtliajkheeniljaaGreatDoorZaStepQ
import Derived.Test.YtliajkheeniljaaGreatDoorZaShort
set_option linter.all false
namespace Go.Proofs.YtliajkheeniljaaGreatDoor
open Go.RowKit
set_option maxRecDepth 100000
set_option maxHeartbeats 16000000
theorem zdm {α:Type} [Inhabited α] {l r:List α} (hl:l.length=r.length) (h:∀j,j<l.length->l.getD j default=r.getD j default):l=r:=by
 apply List.ext_getElem hl
 intro j h1 h2
 have:=h j h1
 rwa [List.getD_eq_getElem?_getD,List.getD_eq_getElem?_getD,List.getElem?_eq_getElem h1,List.getElem?_eq_getElem h2] at this
theorem zdn {α:Type} [Inhabited α] {l r:List α} (j:Nat) (h:l.getD j default≠r.getD j default):l≠r:=fun e=>h (by rw [e])
theorem zmF (w:World) (va vb:Value) (la lb:List zn) (ha:zH w va la) (hb:zH w vb lb):
  Calls Tryz.prog 44 #[va,vb] w fun e w'=>e= .returned (.bool (decide (la=lb)))/\Below w.heap.size w w':=by
 obtain⟨aa,ac,rfl,hal⟩:=zl.slice ha
 obtain⟨ba,bc,rfl,hbl⟩:=zl.slice hb
 obtain⟨n,hn⟩:∃n,n=la.length:=⟨_,rfl⟩
 obtain⟨m,hm⟩:∃m,m=lb.length:=⟨_,rfl⟩
 rw [<-hn] at ha hal ⊢
 rw [<-hm] at hb hbl ⊢
 have HA:=qh ha
 have HB:=qh hb
 have HN:=qh hn
 have HM:=qh hm
 have HNO:Hid (la≠lb->decide (la=lb)=false):=fun e=>decide_eq_false e
 have gL:Hid (la=lb->decide (la=lb)=true):=fun e=>decide_eq_true e
 obtain⟨r,hr⟩:∃r,r=decide (la=lb):=⟨_,rfl⟩
 rw [<-hr] at HNO gL ⊢
 clear ha hb hn hm hr
 by_cases hl:n=m
 rotate_left
 ·obtain rfl:=HNO.out (fun e=>hl (by rw [HN.out,HM.out,e]))
  have hl2:((n:Int) !=(m:Int))=true:=by simp;omega
  go_enter Tryz.func44,Tryz.ntmps44
  go_wp2_with fail
  go_ret
  exact⟨rfl,Below.refl _ _⟩
 subst hl
 have HL:Hid (la.length=lb.length):=by rw [Hid, <-HN.out, <-HM.out]
 go_enter Tryz.func44,Tryz.ntmps44
 go_wp2_with fail
 go_loopg [5] n (fun gg s5 wr=>∃i:Nat,i<=n/\Hid (gg=n - i)/\s5= .int .i64 i/\Hid (Below w.heap.size w wr)/\Hid (∀j,j<i->la.getD j default=lb.getD j default))
 case atStart=>exact⟨0,Nat.zero_le _,rfl,rfl,Below.refl _ _,fun j hj=>by omega⟩
 case round=>
  obtain⟨i,hi,HG,rfl,zX,HJ⟩:=hrel
  by_cases hlt:i<n
  rotate_left
  ·obtain rfl:n=i:=by omega
   obtain rfl:=gL.out (zdm HL.out (by rw [<-HN.out];exact HJ.out))
   go_wp2_with fail
   go_ret
   exact⟨rfl,zX.out⟩
  have qg:(i:Int)<(n:Int):=by omega
  obtain⟨a1,a2,yw, -,x0,x1⟩:=zH.part HA.out i (by rw [<-HN.out];exact hlt)
  obtain⟨b1,b2,wQ, -,y0,y1⟩:=zH.part HB.out i (by rw [<-HM.out];exact hlt)
  subst yw
  subst wQ
  replace x0:=zm zX.out _ _ x0
  replace x1:=zm zX.out _ _ x1
  replace y0:=zm zX.out _ _ y0
  replace y1:=zm zX.out _ _ y1
  have jo:Hid (la.getD i default≠lb.getD i default->r=false):=fun h=>HNO.out (zdn i h)
  have je:Hid (la.getD i default=lb.getD i default->∀j,j<i+1->la.getD j default=lb.getD j default):=fun e j hj=>by
   by_cases he:j=i
   ·subst he;exact e
   ·exact HJ.out j (by omega)
  generalize la.getD i default=ea at x0 x1 jo je
  generalize lb.getD i default=eb at y0 y1 jo je
  obtain⟨p,q⟩:=ea
  obtain⟨p',q'⟩:=eb
  simp only [] at x0 x1 y0 y1
  by_cases h1:p=p'
  ·subst h1
   by_cases h2:q=q'
   ·subst h2
    go_wp2_with fail
    go_quiet (fail)
    go_wp2_with fail
    go_roundg (n - (i+1))
    case measure=>rw [HG.out];omega
    case rel=>exact⟨i+1,by omega,rfl,by simp,zQ zX.out _,je.out (by trivial)⟩
   ·obtain rfl:=jo.out (by simp [h2])
    go_wp2_with fail
    go_quiet (fail)
    go_wp2_with fail
    go_ret
    exact⟨by first|rfl|simp,zQ zX.out _⟩
  ·obtain rfl:=jo.out (by simp [h1])
   go_wp2_with fail
   go_quiet (fail)
   go_wp2_with fail
   go_ret
   exact⟨by first|rfl|simp,zQ zX.out _⟩
theorem zfj:∃i,Tryz.prog.info? 3=some i/\i.size=1:=by
 have h:(Tryz.prog.info? 3).map (fun i=>i.size)=some 1:=by kernel_rfl
 cases hq:Tryz.prog.info? 3 with
 |none=>rw [hq] at h;cases h
 |some i=>rw [hq] at h;exact⟨i,rfl,by simpa using h⟩
theorem zjM:Tryz.prog.cellsOf 3=1:=by kernel_rfl
theorem zec:Tryz.prog.underlying 3=some (.int .i64):=by kernel_rfl
theorem zjN:Tryz.prog.underlying 45=some (.array 4 3):=by kernel_rfl
theorem zcN (d:Nat) (w:World) (a b:Int):(Op.equalIn (d+1) 3 (.int .i64 a) (.int .i64 b)).run Tryz.prog w= .ok (a==b) w:=by
 simp [Op.equalIn,run_underlying zec]
theorem vR (w:World) (xs:Array Value) (j:Nat) (a:Int) (h:xs[j]? =some (.int .i64 a)):(part 3 xs j).run Tryz.prog w= .ok (.int .i64 a) w:=by
 obtain⟨i,hi,hs⟩:=zfj
 have hagg:(isAgg 3).run Tryz.prog w= .ok false w:=by
  unfold isAgg
  rw [Sem.run_bind,run_underlying zec w]
  rfl
 simp [part,Sem.run_bind,hagg,h]
@[go_sem] theorem zwP (w:World) (q0 q1 q2 q3 p0 p1 p2 p3:Int):(Op.equalIn 10000 45 (.agg #[.int .i64 q0, .int .i64 q1, .int .i64 q2, .int .i64 q3]) (.agg #[.int .i64 p0, .int .i64 p1, .int .i64 p2, .int .i64 p3])).run Tryz.prog w
  = .ok (decide (([q0,q1,q2,q3] :List Int)= [p0,p1,p2,p3])) w:=by
 obtain⟨i,hi,hs⟩:=zfj
 rw [run_equalIn_array w 9999 _ _ zjN hi,zjM]
 have e:List.range 4= [0,1,2,3] :=rfl
 rw [e]
 have g0:=fun(w:World) (a b c d:Int)=>vR w #[.int .i64 a, .int .i64 b, .int .i64 c, .int .i64 d] 0 a rfl
 have g1:=fun(w:World) (a b c d:Int)=>vR w #[.int .i64 a, .int .i64 b, .int .i64 c, .int .i64 d] 1 b rfl
 have g2:=fun(w:World) (a b c d:Int)=>vR w #[.int .i64 a, .int .i64 b, .int .i64 c, .int .i64 d] 2 c rfl
 have g3:=fun(w:World) (a b c d:Int)=>vR w #[.int .i64 a, .int .i64 b, .int .i64 c, .int .i64 d] 3 d rfl
 have ge:=zcN 9998
 by_cases h0:q0=p0
 ·by_cases h1:q1=p1
  ·by_cases h2:q2=p2
   ·by_cases h3:q3=p3
    ·simp [Op.eqItems,g0,g1,g2,g3,ge,h0,h1,h2,h3]
    ·simp [Op.eqItems,g0,g1,g2,g3,ge,h0,h1,h2,h3]
   ·simp [Op.eqItems,g0,g1,g2,g3,ge,h0,h1,h2]
  ·simp [Op.eqItems,g0,g1,g2,g3,ge,h0,h1]
 ·simp [Op.eqItems,g0,g1,g2,g3,ge,h0]
theorem zmG {s t:zu} (h:s.threads≠t.threads):s≠t:=fun e=>h (by rw [e])
theorem zmH {s t:zu} (h:s.mem≠t.mem):s≠t:=fun e=>h (by rw [e])
theorem zmI {s t:zu} (h:s.bad≠t.bad):s≠t:=fun e=>h (by rw [e])
theorem zmJ {α:Type} {l r:List α} (h:l.length≠r.length):l≠r:=fun e=>h (by rw [e])
theorem zeX (w:World) (s t:zu) (sa sb ta tb:Value) (hs:zN w s sa sb) (ht:zN w t ta tb):
  Calls Tryz.prog 17 #[zW s sa sb,zW t ta tb] w fun e w'=>e= .returned (.bool (decide (s=t)))/\Below w.heap.size w w':=by
 obtain⟨sa1,sac,rfl,hsl⟩:=zl.slice hs.threads
 obtain⟨sb1,sbc,rfl,hsm⟩:=zl.slice hs.mem
 obtain⟨ta1,tac,rfl,htl⟩:=zl.slice ht.threads
 obtain⟨tb1,tbc,rfl,htm⟩:=zl.slice ht.mem
 have zjO:Hid (s.threads≠t.threads->decide (s=t)=false):=fun h=>decide_eq_false (zmG h)
 have za3:Hid (s.mem≠t.mem->decide (s=t)=false):=fun h=>decide_eq_false (zmH h)
 have zpp:Hid (s.bad≠t.bad->decide (s=t)=false):=fun h=>decide_eq_false (zmI h)
 have gL:Hid (s.threads=t.threads->s.mem=t.mem->s.bad=t.bad->decide (s=t)=true):=fun h1 h2 h3=>decide_eq_true (by cases s;cases t;simp only [] at h1 h2 h3;rw [h1,h2,h3])
 obtain⟨r,hr⟩:∃r,r=decide (s=t):=⟨_,rfl⟩
 rw [<-hr] at zjO za3 zpp gL ⊢
 clear hr
 have h1:=hs.threads
 have h2:=hs.mem
 have h3:=ht.threads
 have h4:=ht.mem
 clear hs ht
 unfold zW
 obtain⟨tl,sm,zbq⟩:=s
 obtain⟨tl',tm,zdo⟩:=t
 simp only [] at h1 h2 h3 h4 hsl hsm htl htm zjO za3 zpp gL ⊢
 obtain⟨n,hn⟩:∃n,n=tl.length:=⟨_,rfl⟩
 obtain⟨n',hn'⟩:∃n,n=tl'.length:=⟨_,rfl⟩
 obtain⟨m,hm⟩:∃m,m=sm.length:=⟨_,rfl⟩
 obtain⟨m',hm'⟩:∃m,m=tm.length:=⟨_,rfl⟩
 rw [<-hn] at h1 hsl ⊢
 rw [<-hn'] at h3 htl ⊢
 rw [<-hm] at h2 hsm ⊢
 rw [<-hm'] at h4 htm ⊢
 have hB:=xw w (.cells #[.slice sa1 n sac, .slice sb1 m sbc, .bool zbq] 30) (.cells #[.slice ta1 n' tac, .slice tb1 m' tbc, .bool zdo] 30)
 have H1:=qh (xA w (.cells #[.slice sa1 n sac, .slice sb1 m sbc, .bool zbq] 30) (.cells #[.slice ta1 n' tac, .slice tb1 m' tbc, .bool zdo] 30))
 have H2:=qh (xq w (.cells #[.slice sa1 n sac, .slice sb1 m sbc, .bool zbq] 30) (.cells #[.slice ta1 n' tac, .slice tb1 m' tbc, .bool zdo] 30))
 have HT1:=qh (zl.below jf.stays h1 hB)
 have HM1:=qh (zl.below jY.stays h2 hB)
 have HT2:=qh (zl.below jf.stays h3 hB)
 have HM2:=qh (zl.below jY.stays h4 hB)
 have HB:=qh hB
 have HN:=qh hn
 have HN':=qh hn'
 have HM:=qh hm
 have HM':=qh hm'
 clear h1 h2 h3 h4 hB hn hn' hm hm'
 go_enter Tryz.func17,Tryz.ntmps17
 go_upto_region 1 with fail
 generalize World.alloc (World.alloc w _) _=W at HB H1 H2 HT1 HM1 HT2 HM2 ⊢
 obtain⟨gx,hgx⟩:∃gx,gx=w.heap.size:=⟨_,rfl⟩
 rw [<-hgx] at H1 H2 ⊢
 clear hgx
 have HC:Hid (∀x,Below W.heap.size W x->x.cell? ⟨gx,0,none⟩=some (.slice sa1 n sac)/\x.cell? ⟨gx,1,none⟩=some (.slice sb1 m sbc)/\x.cell? ⟨gx,2,none⟩=some (.bool zbq)/\x.cell? ⟨gx+1,0,none⟩=some (.slice ta1 n' tac)/\x.cell? ⟨gx+1,1,none⟩=some (.slice tb1 m' tbc)/\x.cell? ⟨gx+1,2,none⟩=some (.bool zdo)):=fun x hx=>
  ⟨zm hx _ _ (zh H1.out 0),zm hx _ _ (zh H1.out 1),zm hx _ _ (zh H1.out 2),zm hx _ _ (zh H2.out 0),zm hx _ _ (zh H2.out 1),zm hx _ _ (zh H2.out 2)⟩
 have zY:Hid (∀x,Below W.heap.size W x->Below w.heap.size w x):=fun x hx=>HB.out.trans (hx.mono HB.out.size)
 obtain⟨c0,c1,c2,c3,c4,c5⟩:=HC.out W (Below.refl _ _)
 by_cases hnn:n=n'
 rotate_left
 ·obtain rfl:=zjO.out (zmJ (by rw [<-HN.out, <-HN'.out];exact hnn))
  have hn0:((n:Int) !=(n':Int))=true:=by simp;omega
  go_wp2_with fail
  go_ret
  exact⟨by first|rfl|simp,zY.out _ (Below.refl _ _)⟩
 by_cases hmm:m=m'
 rotate_left
 ·obtain rfl:=za3.out (zmJ (by rw [<-HM.out, <-HM'.out];exact hmm))
  have hm0:((m:Int) !=(m':Int))=true:=by simp;omega
  subst hnn
  go_wp2_with fail
  go_ret
  exact⟨by first|rfl|simp,zY.out _ (Below.refl _ _)⟩
 by_cases hbb:zbq=zdo
 rotate_left
 ·obtain rfl:=zpp.out hbb
  subst hnn
  subst hmm
  have hb0:(zbq==zdo)=false:=by cases zbq<;>cases zdo<;>simp_all
  clear hbb
  go_wp2_with fail
  go_ret
  exact⟨by first|rfl|simp,zY.out _ (Below.refl _ _)⟩
 subst hnn
 subst hmm
 subst hbb
 have hb0:(zbq !=zbq)=false:=by simp
 go_wp2_with fail
 clear c0 c1 c2 c3 c4 c5 hb0
 go_loopg [5] m (fun gg s5 wr=>∃i:Nat,i<=m/\Hid (gg=m - i)/\s5= .int .i64 i/\Hid (Below W.heap.size W wr)/\Hid (∀j,j<i->sm.getD j default=tm.getD j default))
 case atStart=>exact⟨0,Nat.zero_le _,rfl,rfl,Below.refl _ _,fun j hj=>by omega⟩
 case round=>
  obtain⟨i,hi,HG,rfl,zX,HJ⟩:=hrel
  obtain⟨c0,c1,c2,c3,c4,c5⟩:=HC.out wr zX.out
  by_cases hlt:i<m
  ·have qg:(i:Int)<(m:Int):=by omega
   obtain⟨a1,a2,yw, -,x0⟩:=xH.part HM1.out i (by rw [<-HM.out];exact hlt)
   obtain⟨b1,b2,wQ, -,y0⟩:=xH.part HM2.out i (by rw [<-HM'.out];exact hlt)
   subst yw
   subst wQ
   replace x0:=zm zX.out _ _ x0
   replace y0:=zm zX.out _ _ y0
   have jo:Hid (sm.getD i 0≠tm.getD i 0->r=false):=fun h=>za3.out (zdn i h)
   have je:Hid (sm.getD i 0=tm.getD i 0->∀j,j<i+1->sm.getD j default=tm.getD j default):=fun e j hj=>by
    by_cases he:j=i
    ·subst he;exact e
    ·exact HJ.out j (by omega)
   generalize sm.getD i 0=p at x0 jo je
   generalize tm.getD i 0=q at y0 jo je
   by_cases h1:p=q
   ·subst h1
    go_wp2_with fail
    go_quiet (fail)
    go_wp2_with fail
    go_roundg (m - (i+1))
    case measure=>rw [HG.out];omega
    case rel=>exact⟨i+1,by omega,rfl,by simp,zQ zX.out _,je.out (by trivial)⟩
   ·obtain rfl:=jo.out (by simp [h1])
    go_wp2_with fail
    go_quiet (fail)
    go_wp2_with fail
    go_ret
    exact⟨by first|rfl|simp,zY.out _ (zQ zX.out _)⟩
  obtain rfl:m=i:=by omega
  have hmem:sm=tm:=zdm (by rw [<-HM.out, <-HM'.out]) (by rw [<-HM.out];exact HJ.out)
  have zbg:=qh hmem
  clear hmem
  go_wp2_with fail
  clear c0 c1 c2 c3 c4 c5
  go_loopg [6] n (fun gg s6 wr=>∃i:Nat,i<=n/\Hid (gg=n - i)/\s6= .int .i64 i/\Hid (Below W.heap.size W wr)/\Hid (∀j,j<i->tl.getD j default=tl'.getD j default))
  case atStart=>exact⟨0,Nat.zero_le _,rfl,rfl,zX.out,fun j hj=>by omega⟩
  case round=>
   obtain⟨i,hi,HG6,rfl,bG,HJ6⟩:=hrel
   obtain⟨wo,rfl⟩:∃wo:World,wo=wr:=⟨_,rfl⟩
   by_cases hlt:i<n
   rotate_left
   ·obtain rfl:n=i:=by omega
    obtain rfl:=gL.out (zdm (by rw [<-HN.out, <-HN'.out]) (by rw [<-HN.out];exact HJ6.out)) zbg.out (by trivial)
    obtain⟨c0,c1,c2,c3,c4,c5⟩:=HC.out wo bG.out
    go_wp2_with fail
    go_ret
    exact⟨by first|rfl|simp,zY.out _ bG.out⟩
   have qg:(i:Int)<(n:Int):=by omega
   obtain⟨a1,a2,ba,bc,yw, -,hr4,x0,x1,x2,x3,x4,x5,hbuf⟩:=xD.part HT1.out i (by rw [<-HN.out];exact hlt)
   obtain⟨b1,b2,ba',bc',wQ, -,zjP,y0,y1,y2,y3,y4,y5,zed⟩:=xD.part HT2.out i (by rw [<-HN'.out];exact hlt)
   subst yw
   subst wQ
   have jo:Hid (tl.getD i default≠tl'.getD i default->r=false):=fun h=>zjO.out (zdn i h)
   have je:Hid (tl.getD i default=tl'.getD i default->∀j,j<i+1->tl.getD j default=tl'.getD j default):=fun e j hj=>by
    by_cases he:j=i
    ·subst he;exact e
    ·exact HJ6.out j (by omega)
   generalize tl.getD i default=ea at x0 x1 x2 x3 x4 x5 hbuf hr4 jo je
   generalize tl'.getD i default=eb at y0 y1 y2 y3 y4 y5 zed zjP jo je
   obtain⟨pc,rg,bf⟩:=ea
   obtain⟨pc',rg',bf'⟩:=eb
   simp only [] at x0 x1 x2 x3 x4 x5 hbuf hr4 y0 y1 y2 y3 y4 y5 zed zjP
   obtain⟨q0,q1,q2,q3,rfl⟩:=vT hr4
   obtain⟨p0,p1,p2,p3,rfl⟩:=vT zjP
   simp only [List.getD_cons_zero,List.getD_cons_succ] at x1 x2 x3 x4 y1 y2 y3 y4
   obtain⟨bl,hbl⟩:∃bl,bl=bf.length:=⟨_,rfl⟩
   obtain⟨bl',zpq⟩:∃bl,bl=bf'.length:=⟨_,rfl⟩
   rw [<-hbl] at x5 hbuf
   rw [<-zpq] at y5 zed
   have HX:Hid (∀y,Below wo.heap.size wo y->(y.cell? ⟨gx,0,none⟩=some (.slice (some ⟨a1,a2,none⟩) n sac)/\y.cell? ⟨gx+1,0,none⟩=some (.slice (some ⟨b1,b2,none⟩) n tac)/\y.cell? ⟨a1,a2+i*6,none⟩=some (.int .i64 pc)/\y.cell? ⟨a1,a2+i*6+1,none⟩=some (.int .i64 q0)/\y.cell? ⟨a1,a2+i*6+2,none⟩=some (.int .i64 q1)/\y.cell? ⟨a1,a2+i*6+3,none⟩=some (.int .i64 q2)/\y.cell? ⟨a1,a2+i*6+4,none⟩=some (.int .i64 q3)/\y.cell? ⟨a1,a2+i*6+5,none⟩=some (.slice ba bl bc)/\
     y.cell? ⟨b1,b2+i*6,none⟩=some (.int .i64 pc')/\y.cell? ⟨b1,b2+i*6+1,none⟩=some (.int .i64 p0)/\y.cell? ⟨b1,b2+i*6+2,none⟩=some (.int .i64 p1)/\y.cell? ⟨b1,b2+i*6+3,none⟩=some (.int .i64 p2)/\y.cell? ⟨b1,b2+i*6+4,none⟩=some (.int .i64 p3)/\y.cell? ⟨b1,b2+i*6+5,none⟩=some (.slice ba' bl' bc'))):=fun y hy=>by
    have hw:=zB bG.out hy
    obtain⟨c0, -, -,c3, -, -⟩:=HC.out y hw
    exact⟨c0,c3,zm hw _ _ x0,zm hw _ _ x1,zm hw _ _ x2,zm hw _ _ x3,zm hw _ _ x4,zm hw _ _ x5,zm hw _ _ y0,zm hw _ _ y1,zm hw _ _ y2,zm hw _ _ y3,zm hw _ _ y4,zm hw _ _ y5⟩
   have uf:=qh (zH.below hbuf bG.out)
   have z4E:=qh (zH.below zed bG.out)
   obtain⟨c0,c1,c2,c3,c4,c5⟩:=HC.out wo bG.out
   have vD:=qh hbl
   have zDD:=qh zpq
   clear x0 x1 x2 x3 x4 x5 y0 y1 y2 y3 y4 y5 hbuf zed hbl zpq hr4 zjP
   go_upto_region 11 with fail
   clear c0 c1 c2 c3 c4 c5
   go_cut [7,8] (fun s7 s8 w'=>∃xb yb,s7= .pointer (some ⟨xb,0,none⟩)/\s8= .pointer (some ⟨yb,0,none⟩)/\Hid (Below wo.heap.size wo w')/\Hid (w'.heap[xb]? =some (.cells #[.int .i64 pc, .int .i64 q0, .int .i64 q1, .int .i64 q2, .int .i64 q3, .slice ba bl bc] 48 (0,0)))/\Hid (w'.heap[yb]? =some (.cells #[.int .i64 pc', .int .i64 p0, .int .i64 p1, .int .i64 p2, .int .i64 p3, .slice ba' bl' bc'] 48 (0,0))))
   case first=>
    have hT0:=qh (Loc.start wo).drew
    refine wp_region_noPanic ?_
    refine wp_region_held_drew (S:=fun x=>Below wo.heap.size wo x) (by kernel_rfl) (Below.refl _ _).drew (fun _=> ?_)
    obtain⟨wd,hwd⟩:∃wd,wd=wo.drew:=⟨_,rfl⟩
    rw [<-hwd] at hT0 ⊢
    clear hwd
    refine zA 0 57 ?vs1 rfl ?zg0 (hT0.out.below) ?_
    case zg0=>(intro _ _;go_simp<;>rfl)
    simp only [Act.put,za,ze,zf]
    refine zA 1 58 ?vs2 rfl ?zg1 (hT0.out.below) ?_
    case zg1=>(intro x h;have e:=HX.out x h;go_simp<;>rfl)
    simp only [Act.put,za,ze,zf]
    refine zA 2 59 ?vs3 rfl ?zg2 (hT0.out.below) ?_
    case zg2=>(intro _ _;go_simp<;>rfl)
    simp only [Act.put,za,ze,zf]
    refine zA 3 60 ?vs4 rfl ?zg3 (hT0.out.below) ?_
    case zg3=>(intro _ _;go_simp<;>rfl)
    simp only [Act.put,za,ze,zf]
    refine zA 4 61 ?vs5 rfl ?zg4 (hT0.out.below) ?_
    case zg4=>(intro x h;have e:=HX.out x h;go_simp<;>rfl)
    simp only [Act.put,za,ze,zf]
    refine zA 5 62 ?vs6 rfl ?zg5 (hT0.out.below) ?_
    case zg5=>(intro _ _;go_simp<;>rfl)
    simp only [Act.put,za,ze,zf]
    refine zA 6 63 ?vs7 rfl ?zg6 (hT0.out.below) ?_
    case zg6=>(intro x h;have e:=HX.out x h;go_simp<;>rfl)
    simp only [Act.put,za,ze,zf]
    refine zA 7 64 ?vs8 rfl ?zpg (hT0.out.below) ?_
    case zpg=>(intro _ _;go_simp<;>rfl)
    simp only [Act.put,za,ze,zf]
    refine zA 8 65 ?vs9 rfl ?zph (hT0.out.below) ?_
    case zph=>(intro _ _;go_simp<;>rfl)
    simp only [Act.put,za,ze,zf]
    refine zA 9 66 ?z4C rfl ?zjG (hT0.out.below) ?_
    case zjG=>(intro x h;have e:=HX.out x h;go_simp<;>rfl)
    simp only [Act.put,za,ze,zf]
    refine wpAnyH_ready (rs:= [10,11]) (by kernel_rfl) (by simp) ?_
    refine AllReadyH.cons rfl (fun K hK=> ?_) (AllReadyH.cons rfl (fun K hK=> ?_) AllReadyH.nil)
    ·skip
     go_simp
     have wI:=hT0.out.alloc 48 [.int .i64 0, .int .i64 0, .int .i64 0, .int .i64 0, .int .i64 0, .slice none 0 0]
     refine hK.out _ _ wI.below (fun _=> ?_)
     obtain⟨xb,hxb⟩:∃n,n=wd.heap.size:=⟨_,rfl⟩
     rw [<-hxb] at wI ⊢
     clear hxb
     generalize World.alloc wd _=Xs2 at wI ⊢
     replace wI:=qh wI
     clear hK K
     refine zT 11 rfl (fun K hK=> ?_)
     go_simp
     have wL:xb≠Xs2.heap.size:=wI.out.uP (List.mem_cons_self ..)
     have gQ:=wI.out.alloc 48 [.int .i64 0, .int .i64 0, .int .i64 0, .int .i64 0, .int .i64 0, .slice none 0 0]
     refine hK.out _ _ gQ.below (fun _=> ?_)
     obtain⟨yb,hyb⟩:∃n,n=Xs2.heap.size:=⟨_,rfl⟩
     rw [<-hyb] at gQ wL ⊢
     clear hyb
     replace wL:=qh wL
     generalize World.alloc Xs2 _=Xs4 at gQ ⊢
     replace gQ:=qh gQ
     clear hK K
     refine zT 12 rfl (fun K hK=> ?_)
     obtain⟨hn, -⟩:=gQ.out.news (xb,48, [.int .i64 0, .int .i64 0, .int .i64 0, .int .i64 0, .int .i64 0, .slice none 0 0]) (List.mem_cons_of_mem _ (List.mem_cons_self ..))
     have d0:=zh hn 0
     have f0:=zK hn 0
     have d1:=zh hn 1
     have f1:=zK hn 1
     have d2:=zh hn 2
     have f2:=zK hn 2
     have d3:=zh hn 3
     have f3:=zK hn 3
     have d4:=zh hn 4
     have f4:=zK hn 4
     have d5:=zh hn 5
     have f5:=zK hn 5
     clear hn
     have ze8:=gQ.out.store (g:=xb) (t:=48) (cs:= [.int .i64 0, .int .i64 0, .int .i64 0, .int .i64 0, .int .i64 0, .slice none 0 0]) (List.mem_cons_of_mem _ (List.mem_cons_self ..)) [.int .i64 pc, .int .i64 q0, .int .i64 q1, .int .i64 q2, .int .i64 q3, .slice ba bl bc] rfl
     replace ze8:=qh ze8
     go_simp
     clear d0 f0 d1 f1 d2 f2 d3 f3 d4 f4 d5 f5
     refine hK.out _ (zU Xs4 xb 0 [.int .i64 pc, .int .i64 q0, .int .i64 q1, .int .i64 q2, .int .i64 q3, .slice ba bl bc]) ze8.out.below (fun _=> ?_)
     generalize zU Xs4 xb 0 _=Xs6 at ze8 ⊢
     clear hK K
     refine zT 13 rfl (fun K hK=> ?_)
     obtain⟨hn, -⟩:=ze8.out.news (yb,48, [.int .i64 0, .int .i64 0, .int .i64 0, .int .i64 0, .int .i64 0, .slice none 0 0]) (qV (List.mem_cons_self ..) (Ne.symm wL.out))
     have d0:=zh hn 0
     have f0:=zK hn 0
     have d1:=zh hn 1
     have f1:=zK hn 1
     have d2:=zh hn 2
     have f2:=zK hn 2
     have d3:=zh hn 3
     have f3:=zK hn 3
     have d4:=zh hn 4
     have f4:=zK hn 4
     have d5:=zh hn 5
     have f5:=zK hn 5
     clear hn
     have zdp:=ze8.out.store (g:=yb) (t:=48) (cs:= [.int .i64 0, .int .i64 0, .int .i64 0, .int .i64 0, .int .i64 0, .slice none 0 0]) (qV (List.mem_cons_self ..) (Ne.symm wL.out)) [.int .i64 pc', .int .i64 p0, .int .i64 p1, .int .i64 p2, .int .i64 p3, .slice ba' bl' bc'] rfl
     replace zdp:=qh zdp
     go_simp
     clear d0 f0 d1 f1 d2 f2 d3 f3 d4 f4 d5 f5
     refine hK.out _ (zU Xs6 yb 0 [.int .i64 pc', .int .i64 p0, .int .i64 p1, .int .i64 p2, .int .i64 p3, .slice ba' bl' bc']) zdp.out.below (fun _=> ?_)
     generalize zU Xs6 yb 0 _=Xs8 at zdp ⊢
     clear hK K
     refine wpAnyH_done (by kernel_rfl) ?_ _
     refine NoPanic.normal ?_
     obtain⟨hx, -⟩:=zdp.out.news (xb,48, [.int .i64 pc, .int .i64 q0, .int .i64 q1, .int .i64 q2, .int .i64 q3, .slice ba bl bc]) (qV (wU (List.mem_cons_of_mem _ (List.mem_cons_self ..))) wL.out)
     obtain⟨hy, -⟩:=zdp.out.news (yb,48, [.int .i64 pc', .int .i64 p0, .int .i64 p1, .int .i64 p2, .int .i64 p3, .slice ba' bl' bc']) (wU (qV (List.mem_cons_self ..) (Ne.symm wL.out)))
     have HXX:=qh hx
     have HYY:=qh hy
     clear hx hy
     go_wp2_with fail
     go_meet
     case rel=>exact⟨xb,yb,rfl,rfl,zdp.out.below,HXX.out,HYY.out⟩
    ·skip
     go_simp
     have zdq:=hT0.out.alloc 48 [.int .i64 0, .int .i64 0, .int .i64 0, .int .i64 0, .int .i64 0, .slice none 0 0]
     refine hK.out _ _ zdq.below (fun _=> ?_)
     obtain⟨yb,hyb⟩:∃n,n=wd.heap.size:=⟨_,rfl⟩
     rw [<-hyb] at zdq ⊢
     clear hyb
     generalize World.alloc wd _=zjg at zdq ⊢
     replace zdq:=qh zdq
     clear hK K
     refine zT 10 rfl (fun K hK=> ?_)
     go_simp
     have wM:yb≠zjg.heap.size:=zdq.out.uP (List.mem_cons_self ..)
     have zbr:=zdq.out.alloc 48 [.int .i64 0, .int .i64 0, .int .i64 0, .int .i64 0, .int .i64 0, .slice none 0 0]
     refine hK.out _ _ zbr.below (fun _=> ?_)
     obtain⟨xb,hxb⟩:∃n,n=zjg.heap.size:=⟨_,rfl⟩
     rw [<-hxb] at zbr wM ⊢
     clear hxb
     replace wM:=qh wM
     generalize World.alloc zjg _=zwg at zbr ⊢
     replace zbr:=qh zbr
     clear hK K
     refine zT 12 rfl (fun K hK=> ?_)
     obtain⟨hn, -⟩:=zbr.out.news (xb,48, [.int .i64 0, .int .i64 0, .int .i64 0, .int .i64 0, .int .i64 0, .slice none 0 0]) (List.mem_cons_self ..)
     have d0:=zh hn 0
     have f0:=zK hn 0
     have d1:=zh hn 1
     have f1:=zK hn 1
     have d2:=zh hn 2
     have f2:=zK hn 2
     have d3:=zh hn 3
     have f3:=zK hn 3
     have d4:=zh hn 4
     have f4:=zK hn 4
     have d5:=zh hn 5
     have f5:=zK hn 5
     clear hn
     have zc2:=zbr.out.store (g:=xb) (t:=48) (cs:= [.int .i64 0, .int .i64 0, .int .i64 0, .int .i64 0, .int .i64 0, .slice none 0 0]) (List.mem_cons_self ..) [.int .i64 pc, .int .i64 q0, .int .i64 q1, .int .i64 q2, .int .i64 q3, .slice ba bl bc] rfl
     replace zc2:=qh zc2
     go_simp
     clear d0 f0 d1 f1 d2 f2 d3 f3 d4 f4 d5 f5
     refine hK.out _ (zU zwg xb 0 [.int .i64 pc, .int .i64 q0, .int .i64 q1, .int .i64 q2, .int .i64 q3, .slice ba bl bc]) zc2.out.below (fun _=> ?_)
     generalize zU zwg xb 0 _=zwh at zc2 ⊢
     clear hK K
     refine zT 13 rfl (fun K hK=> ?_)
     obtain⟨hn, -⟩:=zc2.out.news (yb,48, [.int .i64 0, .int .i64 0, .int .i64 0, .int .i64 0, .int .i64 0, .slice none 0 0]) (qV (List.mem_cons_of_mem _ (List.mem_cons_self ..)) wM.out)
     have d0:=zh hn 0
     have f0:=zK hn 0
     have d1:=zh hn 1
     have f1:=zK hn 1
     have d2:=zh hn 2
     have f2:=zK hn 2
     have d3:=zh hn 3
     have f3:=zK hn 3
     have d4:=zh hn 4
     have f4:=zK hn 4
     have d5:=zh hn 5
     have f5:=zK hn 5
     clear hn
     have zbs:=zc2.out.store (g:=yb) (t:=48) (cs:= [.int .i64 0, .int .i64 0, .int .i64 0, .int .i64 0, .int .i64 0, .slice none 0 0]) (qV (List.mem_cons_of_mem _ (List.mem_cons_self ..)) wM.out) [.int .i64 pc', .int .i64 p0, .int .i64 p1, .int .i64 p2, .int .i64 p3, .slice ba' bl' bc'] rfl
     replace zbs:=qh zbs
     go_simp
     clear d0 f0 d1 f1 d2 f2 d3 f3 d4 f4 d5 f5
     refine hK.out _ (zU zwh yb 0 [.int .i64 pc', .int .i64 p0, .int .i64 p1, .int .i64 p2, .int .i64 p3, .slice ba' bl' bc']) zbs.out.below (fun _=> ?_)
     generalize zU zwh yb 0 _=zDE at zbs ⊢
     clear hK K
     refine wpAnyH_done (by kernel_rfl) ?_ _
     refine NoPanic.normal ?_
     obtain⟨hx, -⟩:=zbs.out.news (xb,48, [.int .i64 pc, .int .i64 q0, .int .i64 q1, .int .i64 q2, .int .i64 q3, .slice ba bl bc]) (qV (wU (List.mem_cons_self ..)) (Ne.symm wM.out))
     obtain⟨hy, -⟩:=zbs.out.news (yb,48, [.int .i64 pc', .int .i64 p0, .int .i64 p1, .int .i64 p2, .int .i64 p3, .slice ba' bl' bc']) (wU (qV (List.mem_cons_of_mem _ (List.mem_cons_self ..)) wM.out))
     have HXX:=qh hx
     have HYY:=qh hy
     clear hx hy
     go_wp2_with fail
     go_meet
     case rel=>exact⟨xb,yb,rfl,rfl,zbs.out.below,HXX.out,HYY.out⟩
   case rest=>
    obtain⟨w2,rfl⟩:∃w2:World,w2=wc:=⟨_,rfl⟩
    obtain⟨xb,yb,rfl,rfl,HW2,HXB,HYB⟩:=hcut
    have x0:=zh HXB.out 0
    have x1:=zh HXB.out 1
    have x2:=zh HXB.out 2
    have x3:=zh HXB.out 3
    have x4:=zh HXB.out 4
    have x5:=zh HXB.out 5
    have y0:=zh HYB.out 0
    have y1:=zh HYB.out 1
    have y2:=zh HYB.out 2
    have y3:=zh HYB.out 3
    have y4:=zh HYB.out 4
    have y5:=zh HYB.out 5
    by_cases e0:pc=pc'
    rotate_left
    ·obtain rfl:=jo.out (fun e=>e0 (by injection e))
     have he0:((pc:Int) !=pc')=true:=by simp;exact e0
     go_wp2_with fail
     go_ret
     exact⟨by first|rfl|simp,zY.out _ (zB bG.out HW2.out)⟩
    subst e0
    by_cases e1:([q0,q1,q2,q3] :List Int)= [p0,p1,p2,p3]
    rotate_left
    ·obtain rfl:=jo.out (fun e=>e1 (by injection e))
     have hag:(([q0,q1,q2,q3] :List Int)= [p0,p1,p2,p3])=False:=eq_false e1
     have zDF:decide (([q0,q1,q2,q3] :List Int)= [p0,p1,p2,p3])=false:=decide_eq_false e1
     clear e1
     go_wp2_with fail
     go_ret
     exact⟨by first|rfl|simp,zY.out _ (zB bG.out HW2.out)⟩
    simp only [List.cons.injEq,and_true] at e1
    obtain⟨rfl,rfl,rfl,rfl⟩:=e1
    have HSM:Hid (∀y,Below w2.heap.size w2 y->Calls Tryz.prog 44 #[.slice ba bl bc, .slice ba' bl' bc'] y fun e w'=>e= .returned (.bool (decide (bf=bf')))/\Below y.heap.size y w'):=fun y hy=>
     zmF y _ _ bf bf' (zH.below (zH.below uf.out HW2.out) hy) (zH.below (zH.below z4E.out HW2.out) hy)
    have he0:((pc:Int) !=pc)=false:=by simp
    by_cases hbe:bf=bf'
    ·subst hbe
     have hd:decide (bf=bf)=true:=decide_eq_true rfl
     rw [hd] at HSM
     clear hd
     go_wp2_with(go_at_call 44;refine(HSM.out _ (Below.refl _ _)).mono ?_;rintro e w3 ⟨rfl,hb3⟩;have HB3:=qh hb3;clear hb3)
     clear x0 x1 x2 x3 x4 x5 y0 y1 y2 y3 y4 y5
     go_roundg (n - (i+1))
     case measure=>rw [HG6.out];omega
     case rel=>exact⟨i+1,by omega,rfl,by simp,zB (zB bG.out HW2.out) HB3.out,je.out (by trivial)⟩
    ·rw [decide_eq_false hbe] at HSM
     obtain rfl:=jo.out (fun e=>hbe (by injection e))
     have yg:=qh hbe
     clear hbe
     go_wp2_with(go_at_call 44;refine(HSM.out _ (Below.refl _ _)).mono ?_;rintro e w3 ⟨rfl,hb3⟩;have HB3:=qh hb3;clear hb3)
     clear x0 x1 x2 x3 x4 x5 y0 y1 y2 y3 y4 y5
     go_ret
     exact⟨by first|rfl|simp,zY.out _ (zB (zB bG.out HW2.out) HB3.out)⟩
end Go.Proofs.YtliajkheeniljaaGreatDoor
