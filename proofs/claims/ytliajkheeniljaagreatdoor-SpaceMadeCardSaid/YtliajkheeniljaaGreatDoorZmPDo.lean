/- Steps. -/
import Derived.Test.YtliajkheeniljaaGreatDoorZmFinMadeP
import Derived.Test.YtliajkheeniljaaGreatDoorZmPTry
set_option linter.all false
namespace Go.Proofs.YtliajkheeniljaaGreatDoor
open Go.RowKit
set_option maxRecDepth 100000
set_option maxHeartbeats 16000000
def zqn (w:World) (FW:World->zl->Value->Value->Prop) (r:zl × Int) (e:Ending) (w':World):Prop:=Below w.heap.size w w'/\∃xa xn xc ya yn yc,e= .returned (.tuple #[.agg #[.slice xa xn xc, .slice ya yn yc, .bool r.1.bad], .int .i64 r.2])/\FW w' r.1 (.slice xa xn xc) (.slice ya yn yc)
theorem zgI (w:World):yj w yY (.slice none 0 0) (.slice none 0 0):=
 ⟨⟨none,0,rfl,by simp [yY],λj hj=>by simp [yY] at hj⟩,⟨none,0,rfl,by simp [yY],λj hj=>by simp [yY] at hj⟩⟩
theorem zdU {w w':World} {FW:World->zl->Value->Value->Prop} {r:zl × Int} {k:Int} (hF:∀y,FW y yY (.slice none 0 0) (.slice none 0 0)) (h:r=(yY,k)) (hb:Below w.heap.size w w'):zqn w FW r (.returned (.tuple #[.agg #[.slice none 0 0, .slice none 0 0, .bool false], .int .i64 k])) w':=by
 subst h;exact⟨hb,none,0,0,none,0,0,rfl,hF _⟩
theorem zh3 {y:World} {g:Nat} {a0 b0 c0:Value} (hb:y.heap[g]? =some (.cells #[a0,b0,c0] 30 (0,0))):
  (y.cell? ⟨g,0,none⟩=some a0/\y.cell? ⟨g,1,none⟩=some b0/\y.cell? ⟨g,2,none⟩=some c0)/\(y.frozen? ⟨g,0,none⟩=false/\y.frozen? ⟨g,1,none⟩=false/\y.frozen? ⟨g,2,none⟩=false)/\
   ∀a b c:Value,(((y.setCell ⟨g,0,none⟩ a).setCell ⟨g,1,none⟩ b).setCell ⟨g,2,none⟩ c).heap[g]? =some (.cells #[a,b,c] 30 (0,0))/\Since (λk=>k=g) y (((y.setCell ⟨g,0,none⟩ a).setCell ⟨g,1,none⟩ b).setCell ⟨g,2,none⟩ c):=by
 refine⟨⟨ze hb 0,ze hb 1,ze hb 2⟩,⟨zB hb 0,zB hb 1,zB hb 2⟩,λa b c=> ?_⟩
 have hset:=zu (zu (zu hb 0 a) 1 b) 2 c
 simp only [List.setIfInBounds_toArray,List.set_cons_zero,List.set_cons_succ] at hset
 exact⟨hset,Since.setCell (F:=λk=>k=g) (p:=⟨g,2,none⟩) (Since.setCell (F:=λk=>k=g) (p:=⟨g,1,none⟩) (Since.setCell (F:=λk=>k=g) (p:=⟨g,0,none⟩) (Since.refl _ y) (.inl rfl) _) (.inl rfl) _) (.inl rfl) _⟩
theorem zwH (w:World) (c:zO) (cv:Value) (d:Nat) (hc:yT d w cv c.threads) (m:zH) (s:zl) (sv mv:Value) (hs:yj w s sv mv) (hb:∀j,j<s.threads.length->(s.threads.getD j default).buf.length<=1000000) (x:zx):
  Calls Tryz.prog 25 #[yK c cv,xB m,yF s sv mv,zh4 x] w (zqn w (Follows w s sv mv) (jD c m s x d)):=by
 obtain⟨fo,hfo⟩:∃fo,fo=yJ c m s:=⟨_,rfl⟩
 have hfits:=λW (hW:Below w.heap.size w W)=>zqh W c cv d (zh.below (xY.stays d) hc hW) m s sv mv (hs.below hW) hb
 have kX:=λ(hf:fo=true) W (hW:Below w.heap.size w W) (i:Nat) (hi:i<s.threads.length)=>zkN W c cv d (zh.below (xY.stays d) hc hW) m s sv mv (hs.below hW) hb (hfo.symm.trans hf) i hi x.kind x.var
 have hfe:∀y,Follows w s sv mv y yY (.slice none 0 0) (.slice none 0 0):=λ_ _ _ _ y _=>zgI y
 have hfw:∀(W1 W2 Y X:World) (S:zl) (a b:Value) (g1 g2:Nat),Below w.heap.size w W1->Follows W1 s sv mv W2 S a b->Since (λk=>k=g1) W2 Y->Since (λk=>k=g2) Y X->w.heap.size<=g1/\g1<W1.heap.size->w.heap.size<=g2/\g2<W1.heap.size->Follows w s sv mv X S a b:=λW1 W2 Y X S a b g1 g2 hb hf h1 h2 h3 h4=>
  hf.later (G:=λk=>k=g1\/k=g2) hb ((h1.mono (G:=λk=>k=g1\/k=g2) (λ_ _ e=> .inl e)).trans (h2.mono (G:=λk=>k=g1\/k=g2) (λ_ _ e=> .inr e)) (λ_ e=> .inl e)) (λk hk=> .inl (by rcases hk with e|e<;>subst e<;>assumption))
 obtain⟨FO,hFO⟩:∃FO:World->World->zl->Value->Value->Prop,FO=λW=>Follows W s sv mv:=⟨_,rfl⟩
 have zkO:∀W,Follows W s sv mv=FO W:=λW=>by rw [hFO]
 simp only [zkO] at kX hfw hfe ⊢
 have HFW:=qh hfw
 have HFE:=qh hfe
 clear hFO zkO hfw hfe
 obtain⟨R,hR⟩:∃R,R=jD c m s x d:=⟨_,rfl⟩
 have hRa:fo=false->R=(yY,1):=λe=>by rw [hR];unfold jD;rw [if_neg (by rw [<-hfo,e];decide)]
 have hRb:fo=true->¬(0<=x.thread/\x.thread<(s.threads.length:Int))->R=(yY,50):=λe h=>by rw [hR];unfold jD;rw [if_pos (hfo.symm.trans e),if_neg h]
 have hRc:fo=true->∀i:Nat,x.thread=(i:Int)->i<s.threads.length->R=zkr (uR c m s i x.kind x.var d):=λe i hi hlt=>by rw [hR,ziP (hfo.symm.trans e) ⟨by omega,by omega⟩,hi,Int.toNat_natCast]
 rw [<-hR]
 rw [<-hfo] at hfits
 clear hR hfo
 obtain⟨ca,cc,rfl, -⟩:=zh.slice hc
 obtain⟨ta,jr,rfl, -⟩:=zh.slice hs.threads
 obtain⟨ma,vP,rfl, -⟩:=zh.slice hs.mem
 obtain⟨T,hT⟩:∃T,T=λi=>uR c m s i x.kind x.var d:=⟨_,rfl⟩
 have hTi:∀i,uR c m s i x.kind x.var d=T i:=λi=>by rw [hT]
 simp only [hTi] at kX hRc
 clear hTi hT hb hc hs
 unfold yK xB yF at hfits kX ⊢
 unfold zh4
 obtain⟨n,hn⟩:∃n,n=s.threads.length:=⟨_,rfl⟩
 rw [<-hn] at hfits kX hRb hRc ⊢
 clear hn
 generalize s.mem.length=mn at hfits kX ⊢
 generalize s.bad=bad at hfits kX ⊢
 generalize c.threads.length=cn at hfits kX ⊢
 generalize c.vars=vars at hfits kX ⊢
 generalize c.domain=dom at hfits kX ⊢
 generalize m.model=mod at hfits kX ⊢
 generalize m.bound=bnd at hfits kX ⊢
 obtain⟨kind,th,vr⟩:=x
 simp only [] at kX hRb hRc ⊢
 have HRA:=qh hRa
 have HRB:=qh hRb
 have HRC:=qh hRc
 have zcH:=qh hfits
 have zsW:=qh kX
 clear hRa hRb hRc hfits kX
 obtain⟨hB,h1,h2,h3,h4,h5⟩:=zch w (.cells #[.int .i64 vars, .int .i64 dom, .slice ca cn cc] 24) (.cells #[.int .i64 mod, .int .i64 bnd] 26) (.cells #[.slice ta n jr, .slice ma mn vP, .bool bad] 30) (.cells #[.int .i64 kind, .int .i64 th, .int .i64 vr] 32) (.cells #[.slice none 0 0, .slice none 0 0, .bool false] 30)
 have HB:=qh hB
 have H1:=qh h1
 have H2:=qh h2
 have H3:=qh h3
 have H4:=qh h4
 have H5:=qh h5
 clear hB h1 h2 h3 h4 h5
 go_enter Tryz.func25,Tryz.ntmps25
 go_upto_region 1 with fail
 generalize World.alloc (World.alloc (World.alloc (World.alloc (World.alloc w _) _) _) _) _=W at HB H1 H2 H3 H4 H5 ⊢
 obtain⟨gx,hgx⟩:∃gx,gx=w.heap.size:=⟨_,rfl⟩
 rw [<-hgx] at H1 H2 H3 H4 H5 ⊢
 have yS:=qh hgx
 clear hgx
 have qg:Hid (∀y,Below W.heap.size W y->y.cell? ⟨gx,0,none⟩=some (.int .i64 vars)/\y.cell? ⟨gx,1,none⟩=some (.int .i64 dom)/\y.cell? ⟨gx,2,none⟩=some (.slice ca cn cc)/\
   y.cell? ⟨gx+1,0,none⟩=some (.int .i64 mod)/\y.cell? ⟨gx+1,1,none⟩=some (.int .i64 bnd)/\y.cell? ⟨gx+2,0,none⟩=some (.slice ta n jr)/\y.cell? ⟨gx+2,1,none⟩=some (.slice ma mn vP)/\y.cell? ⟨gx+2,2,none⟩=some (.bool bad)/\
   y.cell? ⟨gx+3,0,none⟩=some (.int .i64 kind)/\y.cell? ⟨gx+3,1,none⟩=some (.int .i64 th)/\y.cell? ⟨gx+3,2,none⟩=some (.int .i64 vr)):=λy hx=>
  ⟨zi hx _ _ (ze H1.out 0),zi hx _ _ (ze H1.out 1),zi hx _ _ (ze H1.out 2),zi hx _ _ (ze H2.out 0),zi hx _ _ (ze H2.out 1),zi hx _ _ (ze H3.out 0),zi hx _ _ (ze H3.out 1),zi hx _ _ (ze H3.out 2),zi hx _ _ (ze H4.out 0),zi hx _ _ (ze H4.out 1),zi hx _ _ (ze H4.out 2)⟩
 have zP:Hid (∀y,Below W.heap.size W y->_):=λy hy=>bW (w:=w) (g:=gx+4) ((hy.block _ (zw H5.out)).trans H5.out) (HB.out.trans (hy.mono HB.out.size)) (by rw [yS.out];omega)
 obtain⟨c0,c1,c2,c3,c4,c5,c6,c7, -, -, -⟩:=qg.out W (Below.refl _ _)
 go_wp2_with fail
 refine(zcH.out W HB.out).mono ?_
 rintro e W1 ⟨rfl,hb1⟩
 have HB1:=qh hb1
 clear hb1 zcH c0 c1 c2 c3 c4 c5 c6 c7
 cases fo with
 |false=>
  have HR:=qh (HRA.out rfl)
  obtain⟨⟨q0,q1,q2⟩,⟨f0,f1,f2⟩,hend⟩:=zP.out W1 HB1.out
  obtain⟨hset, -,hbe⟩:=hend (.slice none 0 0) (.slice none 0 0) (.bool false)
  have zG:=qh hset
  have yB:=qh hbe
  clear hset hbe hend
  go_wp2_with fail
  (try simp only [Exit.inBlock,Exit.then])
  refine bodyPost_ret (zy rfl _ _ (gx+4) 30 _ (0,0) _ rfl zG.out Tryz.underlying30 rfl zI) rfl ?_
  exact zdU HFE.out HR.out yB.out
 |true=>
 obtain⟨c0,c1,c2,c3,c4,c5,c6,c7,c8,c9,c10⟩:=qg.out W1 HB1.out
 by_cases ht:0<=th/\th<(n:Int)
 rotate_left
 ·have HR:=qh (HRB.out rfl ht)
  by_cases h0:th<0
  ·have z0:decide (th<0)=true:=decide_eq_true h0
   clear ht h0
   obtain⟨⟨q0,q1,q2⟩,⟨f0,f1,f2⟩,hend⟩:=zP.out W1 HB1.out
   obtain⟨hset, -,hbe⟩:=hend (.slice none 0 0) (.slice none 0 0) (.bool false)
   have zG:=qh hset
   have yB:=qh hbe
   clear hset hbe hend
   go_wp2_with fail
   (try simp only [Exit.inBlock,Exit.then])
   refine bodyPost_ret (zy rfl _ _ (gx+4) 30 _ (0,0) _ rfl zG.out Tryz.underlying30 rfl zI) rfl ?_
   exact zdU HFE.out HR.out yB.out
  have z0:decide (th<0)=false:=decide_eq_false h0
  have z1:decide ((n:Int)<=th)=true:=decide_eq_true (by omega)
  clear ht h0
  obtain⟨⟨q0,q1,q2⟩,⟨f0,f1,f2⟩,hend⟩:=zP.out W1 HB1.out
  obtain⟨hset, -,hbe⟩:=hend (.slice none 0 0) (.slice none 0 0) (.bool false)
  have zG:=qh hset
  have yB:=qh hbe
  clear hset hbe hend
  go_wp2_with fail
  (try simp only [Exit.inBlock,Exit.then])
  refine bodyPost_ret (zy rfl _ _ (gx+4) 30 _ (0,0) _ rfl zG.out Tryz.underlying30 rfl zI) rfl ?_
  exact zdU HFE.out HR.out yB.out
 obtain⟨i,rfl⟩:∃i:Nat,th=(i:Int):=⟨th.toNat,by omega⟩
 have hlt:i<n:=by omega
 have z0:decide ((i:Int)<0)=false:=decide_eq_false (by omega)
 have z1:decide ((n:Int)<=(i:Int))=false:=decide_eq_false (by omega)
 have hr:=HRC.out rfl i rfl hlt
 clear ht
 go_wp2_with fail
 refine(zsW.out (by trivial) W1 (HB.out.trans (HB1.out.mono HB.out.size)) i hlt).mono ?_
 rintro e W2 ⟨hb2,⟨ht,rfl⟩|⟨S,xa,xn,xc,ya,yn,yc,ht,rfl,hst⟩⟩
 ·have HR:Hid (R=(yY,50)):=by rw [Hid,hr,ht];rfl
  clear hr ht
  have HW2:Hid (Below W.heap.size W W2):=HB1.out.trans (hb2.mono HB1.out.size)
  clear hb2 c0 c1 c2 c3 c4 c5 c6 c7 c8 c9 c10
  obtain⟨⟨p0,p1,p2⟩,⟨u0,u1,u2⟩,zdV⟩:=zh3 ((HW2.out.block _ (zw H3.out)).trans H3.out)
  obtain⟨hy2,hys⟩:=zdV (.slice none 0 0) (.slice none 0 0) (.bool false)
  have jB:=qh ((hys.block (gx+4) (Nat.lt_of_lt_of_le (zw H5.out) HW2.out.size) (by omega)).trans ((HW2.out.block _ (zw H5.out)).trans H5.out))
  have HWY:=qh ((HB.out.trans (HW2.out.mono HB.out.size)).trans (hys.below (Nat.le_trans HB.out.size HW2.out.size) (λk e=>by have:=yS.out;omega)))
  clear zdV
  go_upto_region 6 with fail
  clear p0 p1 p2 u0 u1 u2
  generalize World.setCell (World.setCell (World.setCell W2 _ _) _ _) _ _=Y at hy2 hys jB HWY ⊢
  obtain⟨y0,y1,y2⟩:=(zh3 hy2).1
  obtain⟨⟨q0,q1,q2⟩,⟨f0,f1,f2⟩,hend⟩:=bW (w:=w) jB.out HWY.out (by rw [yS.out];omega)
  obtain⟨hset,hsi,hbe⟩:=hend (.slice none 0 0) (.slice none 0 0) (.bool false)
  have zG:=qh hset
  have yB:=qh hbe
  clear hset hbe hend hsi hy2 hys
  go_wp2_with fail
  (try simp only [Exit.inBlock,Exit.then])
  refine bodyPost_ret (zy rfl _ _ (gx+4) 30 _ (0,0) _ rfl zG.out Tryz.underlying30 rfl zI) rfl ?_
  exact zdU HFE.out HR.out yB.out
 have HR:Hid (R=(S,0)):=by rw [Hid,hr,ht];rfl
 clear hr ht
 have HW2:Hid (Below W.heap.size W W2):=HB1.out.trans (hb2.mono HB1.out.size)
 clear hb2 c0 c1 c2 c3 c4 c5 c6 c7 c8 c9 c10
 obtain⟨⟨p0,p1,p2⟩,⟨u0,u1,u2⟩,zdV⟩:=zh3 ((HW2.out.block _ (zw H3.out)).trans H3.out)
 obtain⟨hy2,hys⟩:=zdV (.slice xa xn xc) (.slice ya yn yc) (.bool S.bad)
 have jB:=qh ((hys.block (gx+4) (Nat.lt_of_lt_of_le (zw H5.out) HW2.out.size) (by omega)).trans ((HW2.out.block _ (zw H5.out)).trans H5.out))
 have HWY:=qh ((HB.out.trans (HW2.out.mono HB.out.size)).trans (hys.below (Nat.le_trans HB.out.size HW2.out.size) (λk e=>by have:=yS.out;omega)))
 have HST:=qh hst
 have HYS:=qh hys
 clear hst
 clear zdV
 go_upto_region 6 with fail
 clear p0 p1 p2 u0 u1 u2
 generalize World.setCell (World.setCell (World.setCell W2 _ _) _ _) _ _=Y at hy2 hys HYS jB HWY ⊢
 obtain⟨y0,y1,y2⟩:=(zh3 hy2).1
 obtain⟨⟨q0,q1,q2⟩,⟨f0,f1,f2⟩,hend⟩:=bW (w:=w) jB.out HWY.out (by rw [yS.out];omega)
 obtain⟨hset,hsi,hbe⟩:=hend (.slice xa xn xc) (.slice ya yn yc) (.bool S.bad)
 have yE:=qh (HFW.out W1 W2 Y _ S _ _ (gx+2) (gx+4) (HB.out.trans (HB1.out.mono HB.out.size)) HST.out HYS.out hsi ⟨by rw [yS.out];omega,Nat.lt_of_lt_of_le (zw H3.out) HB1.out.size⟩ ⟨by rw [yS.out];omega,Nat.lt_of_lt_of_le (zw H5.out) HB1.out.size⟩)
 clear HST HYS
 have zG:=qh hset
 have yB:=qh hbe
 clear hset hbe hend hsi hy2 hys
 go_wp2_with fail
 (try simp only [Exit.inBlock,Exit.then])
 refine bodyPost_ret (zy rfl _ _ (gx+4) 30 _ (0,0) _ rfl zG.out Tryz.underlying30 rfl zI) rfl ?_
 exact⟨yB.out,xa,xn,xc,ya,yn,yc,by rw [HR.out];rfl,by rw [HR.out];exact yE.out⟩
end Go.Proofs.YtliajkheeniljaaGreatDoor
namespace Go.Proofs.YtliajkheeniljaaGreatDoor
open Go.RowKit
set_option maxRecDepth 100000
set_option maxHeartbeats 16000000
def bZ (c:zO) (m:zH) (d:Nat):zl->List zx->zl × Int
 |s, [] =>(s,0)
 |s,x::l=>if (jD c m s x d).2=0 then bZ c m d (jD c m s x d).1 l else(yY,(jD c m s x d).2)
def zca (c:zO) (m:zH) (l:List zx) (d:Nat):zl × Int:=if jk c m then bZ c m d (jS c) l else(yY,1)
def zh5 (w:World) (r:zl × Int) (e:Ending) (w':World):Prop:=(∃(a b:Option Addr) (n c k f:Nat),e= .returned (.tuple #[.agg #[.slice a n c, .slice b k f, .bool r.1.bad], .int .i64 r.2])/\yj w' r.1 (.slice a n c) (.slice b k f))/\Below w.heap.size w w'
theorem zmy {c:zO} {m:zH} {d:Nat} {s:zl} {l:List zx} {i:Nat} (hi:i<l.length):bZ c m d s (l.drop i)=if (jD c m s (l.getD i default) d).2=0 then bZ c m d (jD c m s (l.getD i default) d).1 (l.drop (i+1)) else(yY,(jD c m s (l.getD i default) d).2):=by
 rw [List.drop_eq_getElem_cons hi,List.getD_eq_getElem?_getD,List.getElem?_eq_getElem hi];rfl
theorem zfe {y:World} {g:Nat} {a b c:Value} (hy:y.heap[g]? =some (.cells #[a,b,c] 30 (0,0))) (p q r:Value):(((y.setCell ⟨g,0,none⟩ p).setCell ⟨g,1,none⟩ q).setCell ⟨g,2,none⟩ r).heap[g]? =some (.cells #[p,q,r] 30 (0,0))/\Since (λk=>k=g) y (((y.setCell ⟨g,0,none⟩ p).setCell ⟨g,1,none⟩ q).setCell ⟨g,2,none⟩ r):=by
 have h:=zu (zu (zu hy 0 p) 1 q) 2 r
 refine⟨by simpa using h,Since.setCell (F:=λk=>k=g) (p:=⟨g,2,none⟩) (Since.setCell (F:=λk=>k=g) (p:=⟨g,1,none⟩) (Since.setCell (F:=λk=>k=g) (p:=⟨g,0,none⟩) (Since.refl _ y) (.inl rfl) _) (.inl rfl) _) (.inl rfl) _⟩
structure zdW (w W X:World) (g gs:Nat) (s:zl) (tv mv:Value):Prop where
 since:Since (λk=>k=gs) W X
 below:Below w.heap.size w W
 lo:w.heap.size<=g/\g<gs/\gs<W.heap.size
 res:X.heap[g]? =some (.cells #[.slice none 0 0, .slice none 0 0, .bool false] 30 (0,0))
 box:X.heap[gs]? =some (.cells #[tv,mv, .bool s.bad] 30 (0,0))
 st:yj X s tv mv
section
variable {w W X Y:World} {g gs:Nat} {s t:zl} {tv mv:Value}
theorem zdW.all (h:zdW w W X g gs s tv mv):Below w.heap.size w X:=h.below.trans (h.since.below h.below.size (λk hk=>by have:=h.lo;omega))
theorem zdW.put (h:zdW w W X g gs s tv mv) (hb:Below X.heap.size X Y) {pv qv:Value} (hs:yj Y t pv qv):
  zdW w W (((Y.setCell ⟨gs,0,none⟩ pv).setCell ⟨gs,1,none⟩ qv).setCell ⟨gs,2,none⟩ (.bool t.bad)) g gs t pv qv:=by
 obtain⟨a1,c1,rfl, -⟩:=zh.slice h.st.threads
 obtain⟨a2,c2,rfl, -⟩:=zh.slice h.st.mem
 have hbx:=(hb.block _ (zw h.box)).trans h.box
 have hrs:=(hb.block _ (zw h.res)).trans h.res
 obtain⟨h1,h2⟩:=zfe hbx pv qv (.bool t.bad)
 have hlo:=h.lo
 refine⟨(h.since.trans (xW (λk=>k=gs) hb) (λ_ e=> .inl e)).trans h2 (λ_ e=> .inl e),h.below,hlo,(h2.block _ (zw hrs) (by omega)).trans hrs,h1,zjr hs hbx h2⟩
theorem zdW.fin (h:zdW w W X g gs s tv mv) (hb:Below X.heap.size X Y) {pv qv:Value} (hs:yj Y t pv qv):(((Y.setCell ⟨g,0,none⟩ pv).setCell ⟨g,1,none⟩ qv).setCell ⟨g,2,none⟩ (.bool t.bad)).heap[g]? =some (.cells #[pv,qv, .bool t.bad] 30 (0,0))/\
  yj (((Y.setCell ⟨g,0,none⟩ pv).setCell ⟨g,1,none⟩ qv).setCell ⟨g,2,none⟩ (.bool t.bad)) t pv qv/\Below w.heap.size w (((Y.setCell ⟨g,0,none⟩ pv).setCell ⟨g,1,none⟩ qv).setCell ⟨g,2,none⟩ (.bool t.bad)):=by
 obtain⟨h1,h2⟩:=zfe ((hb.block _ (zw h.res)).trans h.res) pv qv (.bool t.bad)
 have hlo:=h.lo
 exact⟨h1,zjr hs ((hb.block _ (zw h.res)).trans h.res) h2,(h.all.trans (hb.mono h.all.size)).trans (h2.below (Nat.le_trans h.all.size hb.size) (λk hk=>by omega))⟩
end
theorem zge (w:World) (c:zO) (cv:Value) (d:Nat) (hc:yT d w cv c.threads) (m:zH) (lv:Value) (l:List zx) (hl:qH w lv l):Calls Tryz.prog 34 #[yK c cv,xB m,lv] w (zh5 w (zca c m l d)):=by
 obtain⟨ca,cc,rfl, -⟩:=zh.slice hc
 obtain⟨la,lc,rfl,hl63⟩:=zh.slice hl
 obtain⟨ln,hln⟩:∃n,n=l.length:=⟨_,rfl⟩
 rw [<-hln] at hl hl63 ⊢
 obtain⟨mo,hmo⟩:∃mo,mo=jk c m:=⟨_,rfl⟩
 have hmay:=λW hW=>zgG W c (.slice ca c.threads.length cc) d hW m
 rw [<-hmo] at hmay
 obtain⟨R,hR⟩:∃R,R=zca c m l d:=⟨_,rfl⟩
 obtain⟨S0,hS0⟩:∃S0,S0=jS c:=⟨_,rfl⟩
 have hR2:R=if mo then bZ c m d S0 l else(yY,1):=by rw [hR,hmo,hS0];rfl
 rw [<-hR]
 have hstart:=λW hc=>zh6 W c (.slice ca c.threads.length cc) d hc
 rw [<-hS0] at hstart
 have hsb:wM 33 S0:=by rw [hS0];exact zh7 c
 have hdo:=λW hc s sv mv hs hb x=>zwH W c (.slice ca c.threads.length cc) d hc m s sv mv hs hb x
 obtain⟨C,hC⟩:∃C,C=c:=⟨_,rfl⟩
 obtain⟨M,hM⟩:∃M,M=m:=⟨_,rfl⟩
 rw [<-hC, <-hM] at hR2
 obtain⟨vars,dom,cs⟩:=c
 obtain⟨mod,bnd⟩:=m
 unfold yK xB
 unfold yK xB at hdo hmay
 unfold yK at hstart
 simp only [] at hc hmay hstart hdo ⊢
 obtain⟨cn,hcn⟩:∃cn,cn=cs.length:=⟨_,rfl⟩
 rw [<-hcn] at hc hmay hstart hdo ⊢
 rw [<-hC, <-hM] at hdo
 obtain⟨hB,h1,h2,h3⟩:=zbG w (.cells #[.int .i64 vars, .int .i64 dom, .slice ca cn cc] 24) (.cells #[.int .i64 mod, .int .i64 bnd] 26) (.cells #[.slice none 0 0, .slice none 0 0, .bool false] 30)
 have HB:=qh hB
 have H1:=qh h1
 have H2:=qh h2
 have H3:=qh h3
 have kQ:=qh hc
 have HLS:=qh hl
 have zaT:=qh hmay
 have zff:=qh hstart
 have HDO:=qh hdo
 have HSB:=qh hsb
 have HRR:=qh hR2
 have jE:=qh hln
 clear hC hM hcn hmay hstart hdo hsb hR2 hmo hR hS0 hB h1 h2 h3 hc hl hln
 go_enter Tryz.func34,Tryz.ntmps34
 go_upto_region 1 with fail
 generalize World.alloc (World.alloc (World.alloc w _) _) _=W at HB H1 H2 H3 ⊢
 obtain⟨gx,hgx⟩:∃gx,gx=w.heap.size:=⟨_,rfl⟩
 rw [<-hgx] at H1 H2 H3 ⊢
 have yS:=qh hgx
 clear hgx
 have HK:Hid (∀y,Since (λk=>gx+2<=k) W y->y.cell? ⟨gx,0,none⟩=some (.int .i64 vars)/\y.cell? ⟨gx,1,none⟩=some (.int .i64 dom)/\y.cell? ⟨gx,2,none⟩=some (.slice ca cn cc)/\y.cell? ⟨gx+1,0,none⟩=some (.int .i64 mod)/\y.cell? ⟨gx+1,1,none⟩=some (.int .i64 bnd)):=λy hy=>by
  have k1:=(hy.block _ (zw H1.out) (by omega)).trans H1.out
  have k2:=(hy.block _ (zw H2.out) (by omega)).trans H2.out
  exact⟨ze k1 0,ze k1 1,ze k1 2,ze k2 0,ze k2 1⟩
 obtain⟨c0,c1,c2,e0,e1⟩:=HK.out W (Since.refl _ _)
 go_upto_if 15 with(go_at_call 52;go_must(refine(zaT.out W (zh.below (xY.stays d) kQ.out HB.out)).mono ?_);rintro e X1 ⟨rfl,hb⟩;have HB1:=qh hb;clear hb)
 clear c0 c1 c2 e0 e1
 have qV:Hid (Since (λk=>gx+2<=k) W X1):=xW _ HB1.out
 have H3X:=qh ((HB1.out.block _ (zw H3.out)).trans H3.out)
 cases mo with
 |false=>
  have hR:R=(yY,1):=HRR.out
  have hbx:=H3X.out
  obtain⟨hset,hsn⟩:=zfe hbx (.slice none 0 0) (.slice none 0 0) (.bool false)
  have hend:zh5 w R (.returned (.tuple #[.agg #[.slice none 0 0, .slice none 0 0, .bool false], .int .i64 1])) (((X1.setCell ⟨gx+2,0,none⟩ (.slice none 0 0)).setCell ⟨gx+2,1,none⟩ (.slice none 0 0)).setCell ⟨gx+2,2,none⟩ (.bool false)):=by
   rw [hR]
   exact⟨⟨none,none,0,0,0,0,rfl,zgI _⟩,(HB.out.trans (HB1.out.mono HB.out.size)).trans (hsn.below (Nat.le_trans HB.out.size HB1.out.size) (λk hk=>by have:=yS.out;omega))⟩
  have zG:=qh hset
  have zT:=qh hend
  have b0:=ze hbx 0
  have b1:=ze hbx 1
  have b2:=ze hbx 2
  have f0:=zB hbx 0
  have f1:=zB hbx 1
  have f2:=zB hbx 2
  clear hset hend hbx hR hsn
  go_wp2_with fail
  refine bodyPost_ret (zy rfl _ _ (gx+2) 30 _ (0,0) _ rfl zG.out Tryz.underlying30 rfl zI) rfl ?_
  exact zT.out
 |true=>
 have HR0:Hid (R=bZ C M d S0 l):=HRR.out
 obtain⟨c0,c1,c2,e0,e1⟩:=HK.out X1 qV.out
 go_upto_region 4 with(go_at_call 18;go_must(refine(zff.out X1 (zh.below (xY.stays d) kQ.out (zF HB.out HB1.out))).mono ?_);rintro e X2 ⟨⟨zv,yv,rfl,hst⟩,hb⟩;(obtain⟨za,zac,rfl, -⟩:=zh.slice hst.now.threads);(obtain⟨zb,zbc,rfl, -⟩:=zh.slice hst.now.mem);have HST:=qh hst.now;have HB2:=qh (zF HB1.out hb);have HBZ:=qh hb.size;unfold yF;clear hst hb)
 clear c0 c1 c2 e0 e1
 have hg2:gx+1+1=gx+2:=rfl
 obtain⟨gs,hgs⟩:∃g,g=X2.heap.size:=⟨_,rfl⟩
 obtain⟨n1,hn1⟩:∃n,n=S0.threads.length:=⟨_,rfl⟩
 obtain⟨n2,hn2⟩:∃n,n=S0.mem.length:=⟨_,rfl⟩
 rw [<-hn1, <-hn2] at HST ⊢
 have hL:zdW w (X2.alloc (.cells #[.slice za n1 zac, .slice zb n2 zbc, .bool S0.bad] 30)) (X2.alloc (.cells #[.slice za n1 zac, .slice zb n2 zbc, .bool S0.bad] 30)) (gx+2) gs S0 (.slice za n1 zac) (.slice zb n2 zbc):=by
  have h3:=zw H3X.out
  have h4:=HBZ.out
  have h5:=yS.out
  have h6:=HB1.out.size
  have h7:=zw H3.out
  have h8:=HB.out.size
  have hBX:Below X2.heap.size X2 (X2.alloc (.cells #[.slice za n1 zac, .slice zb n2 zbc, .bool S0.bad] 30)):=(Below.refl _ _).alloc (Nat.le_refl _) _
  have hk3:=(HB2.out.block _ h7).trans H3.out
  refine⟨Since.refl _ _,zF HB.out (zF HB2.out hBX),⟨by omega,by omega,by simp;omega⟩,(Below.heap_alloc _ _ _ (zw hk3)).trans hk3,by rw [hgs];exact yh _ _, ?_⟩
  exact HST.out.below hBX
 have hS2:Since (λk=>gx+2<=k) W (X2.alloc (.cells #[.slice za n1 zac, .slice zb n2 zbc, .bool S0.bad] 30)):=(xW _ HB2.out).alloc _
 have HL:=qh hL
 have HS2:=qh hS2
 clear hL hS2 HST HB2 HBZ hn1 hn2 H3X HB1 qV H3 hg2
 rw [<-hgs]
 clear hgs
 generalize World.alloc X2 _=W2 at HL HS2 ⊢
 go_wp2_with fail
 go_loopg [21] ln (λgg s21 wr=>∃(i:Nat) (s:zl) (pa qa:Option Addr) (pn pc qn qc:Nat),i<=ln/\Hid (gg=ln - i)/\s21= .int .i64 i/\Hid (zdW w W2 wr (gx+2) gs s (.slice pa pn pc) (.slice qa qn qc))/\Hid (R=bZ C M d s (l.drop i))/\Hid (wM 33 s))
 case atStart=>exact⟨0,S0,za,zb,n1,zac,n2,zbc,Nat.zero_le _,rfl,rfl,HL.out,by rw [Hid,HR0.out];rfl,HSB.out⟩
 case round=>
 obtain⟨i,s,pa,qa,pn,pc,qn,qc,hi,HG,rfl,pR,HRI,HBU⟩:=hrel
 obtain⟨wo,rfl⟩:∃wo:World,wo=wr:=⟨_,rfl⟩
 clear HL
 have HSW:Hid (Since (λk=>gx+2<=k) W wo):=HS2.out.trans pR.out.since (λk hk=> .inl (by have:=pR.out.lo;omega))
 obtain⟨bd,hbd⟩:∃b,b=s.bad:=⟨_,rfl⟩
 have hbx:=pR.out.box
 rw [<-hbd] at hbx
 have b0:=ze hbx 0
 have b1:=ze hbx 1
 have b2:=ze hbx 2
 have xq:=qh hbx
 by_cases hlt:i<ln
 rotate_left
 ·obtain rfl:ln=i:=by omega
  have hR:R=(s,0):=by rw [HRI.out,jE.out,List.drop_length];rfl
  obtain⟨hset,hs6,hb6⟩:=pR.out.fin (t:=s) (Below.refl _ _) pR.out.st
  rw [<-hbd] at hset hs6 hb6
  have hend:zh5 w R (.returned (.tuple #[.agg #[.slice pa pn pc, .slice qa qn qc, .bool bd], .int .i64 0])) (((wo.setCell ⟨gx+2,0,none⟩ (.slice pa pn pc)).setCell ⟨gx+2,1,none⟩ (.slice qa qn qc)).setCell ⟨gx+2,2,none⟩ (.bool bd)):=by
   rw [hR];exact⟨⟨pa,qa,pn,pc,qn,qc,by rw [hbd],hs6⟩,hb6⟩
  have zG:=qh hset
  have zT:=qh hend
  have hrs:=pR.out.res
  have d0:=ze hrs 0
  have d1:=ze hrs 1
  have d2:=ze hrs 2
  have f0:=zB hrs 0
  have f1:=zB hrs 1
  have f2:=zB hrs 2
  clear hset hs6 hb6 hend hrs hR hbx hbd
  go_wp2_with fail
  refine bodyPost_ret (zy rfl _ _ (gx+2) 30 _ (0,0) _ rfl zG.out Tryz.underlying30 rfl zI) rfl ?_
  exact zT.out
 have qx:(i:Int)<(ln:Int):=by omega
 obtain⟨mb,mof,zZ, -,x0,x1,x2⟩:=qH.part (zh.below zbF.stays HLS.out pR.out.all) i (by rw [<-jE.out];exact hlt)
 subst zZ
 obtain⟨x,hx⟩:∃x,x=l.getD i default:=⟨_,rfl⟩
 rw [<-hx] at x0 x1 x2
 obtain⟨⟨t,er⟩,hdd⟩:∃p,p=jD C M s x d:=⟨_,rfl⟩
 have hstp:R=if er=0 then bZ C M d t (l.drop (i+1)) else(yY,er):=by
  rw [HRI.out,zmy (by rw [<-jE.out];exact hlt), <-hx, <-hdd]
 have hbt:wM 33 t:=by have:=znm (c:=C) (m:=M) (s:=s) (x:=x) (d:=d);rw [<-hdd] at this;exact this
 have hst:=pR.out.st
 have hD:=λy (hy:Below wo.heap.size wo y)=>HDO.out y (zh.below (xY.stays d) kQ.out (zF pR.out.all hy)) s _ _ (hst.below hy) (λj hj=>by have:=HBU.out j hj;omega) x
 rw [<-hdd] at hD
 unfold yF zh4 at hD
 rw [<-hbd] at hD
 have hpn:s.threads.length=pn:=by obtain⟨a,c,e, -⟩:=zh.slice hst.threads;cases e;rfl
 have HDD:=qh hD
 have zfg:=qh hstp
 have HBT:=qh hbt
 clear hD hstp hbt hst hdd hx hbx hbd hpn
 obtain⟨xk,xt,xv⟩:=x
 simp only [] at x0 x1 x2 HDD
 go_upto_region 8 with fail
 have hA:Below wo.heap.size wo (wo.alloc (.cells #[.int .i64 xk, .int .i64 xt, .int .i64 xv] 32)):=(Below.refl _ _).alloc (Nat.le_refl _) _
 have HDA:=qh (HDD.out _ hA)
 have HAA:=qh hA
 have HHL:Hid (∀Y,Below wo.heap.size wo Y->(Y.heap[gs]? =some (.cells #[.slice pa pn pc, .slice qa qn qc, .bool bd] 30 (0,0)))):=λY hY=>(hY.block _ (zw xq.out)).trans xq.out
 have HMB:=qh (yh wo (.cells #[.int .i64 xk, .int .i64 xt, .int .i64 xv] 32))
 have zsX:Hid (Since (λk=>gx+2<=k) W (wo.alloc (.cells #[.int .i64 xk, .int .i64 xt, .int .i64 xv] 32))):=HSW.out.alloc _
 clear hA HDD b0 b1 b2 x0 x1 x2
 generalize World.alloc wo _=W3 at HDA HAA HMB zsX ⊢
 generalize wo.heap.size=gm at HMB ⊢
 obtain⟨c0,c1,c2,e0,e1⟩:=HK.out W3 zsX.out
 have hb3:=HHL.out W3 HAA.out
 have b0:=ze hb3 0
 have b1:=ze hb3 1
 have b2:=ze hb3 2
 have m0:=ze HMB.out 0
 have m1:=ze HMB.out 1
 have m2:=ze HMB.out 2
 clear hb3
 go_upto_region 9 with(go_at_call 25;go_must(refine HDA.out.mono ?_);rintro e Y ⟨hb,ra,rn,rc,ua,un,uc,rfl,hfo⟩;have jg:=qh hb;have HFO:=qh hfo;have hby:=(hb.block _ (zw (HHL.out W3 HAA.out))).trans (HHL.out W3 HAA.out);have g0:=ze hby 0;have g1:=ze hby 1;have g2:=ze hby 2;have g3:=zB hby 0;have g4:=zB hby 1;have g5:=zB hby 2;clear hb hfo hby)
 have zxN:=HFO.out.now (pR.out.st.below HAA.out)
 have hput:=pR.out.put (zF HAA.out jg.out) zxN
 have vV:=qh hput
 clear zxN hput HFO HDA HHL HMB zsX HAA jg xq pR c0 c1 c2 e0 e1 b0 b1 b2 m0 m1 m2 g0 g1 g2 g3 g4 g5
 generalize World.setCell (World.setCell (World.setCell Y _ _) _ _) _ _=X5 at vV ⊢
 by_cases her:er=0
 ·subst her
  have z4i:Hid (R=bZ C M d t (l.drop (i+1))):=by rw [Hid,zfg.out,if_pos rfl]
  go_wp2_with fail
  go_roundg (ln - (i+1))
  case measure=>rw [HG.out];omega
  case rel=>exact⟨i+1,t,ra,ua,rn,rc,un,uc,by omega,rfl,by simp,vV.out,z4i.out,HBT.out⟩
 have hR:R=(yY,er):=by rw [zfg.out,if_neg her]
 obtain⟨hset,hs6,hb6⟩:=vV.out.fin (t:=yY) (pv:= .slice none 0 0) (qv:= .slice none 0 0) (Below.refl _ _) (zgI _)
 have hend:zh5 w R (.returned (.tuple #[.agg #[.slice none 0 0, .slice none 0 0, .bool false], .int .i64 er])) (((X5.setCell ⟨gx+2,0,none⟩ (.slice none 0 0)).setCell ⟨gx+2,1,none⟩ (.slice none 0 0)).setCell ⟨gx+2,2,none⟩ (.bool false)):=by
  rw [hR];exact⟨⟨none,none,0,0,0,0,rfl,hs6⟩,hb6⟩
 have zG:=qh hset
 have zT:=qh hend
 have hbx:=vV.out.res
 have b0:=ze hbx 0
 have b1:=ze hbx 1
 have b2:=ze hbx 2
 have f0:=zB hbx 0
 have f1:=zB hbx 1
 have f2:=zB hbx 2
 have z9c:(er !=0)=true:=by simpa using her
 clear hset hs6 hb6 hend hbx hR
 go_wp2_with fail
 (try simp only [Exit.inBlock,Exit.then])
 refine bodyPost_ret (zy rfl _ _ (gx+2) 30 _ (0,0) _ rfl zG.out Tryz.underlying30 rfl zI) rfl ?_
 exact zT.out
