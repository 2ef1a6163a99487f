/- Steps. -/
import Derived.Test.YtliajkheeniljaaGreatDoorZxFinMadeP
import Derived.Test.YtliajkheeniljaaGreatDoorZxPTry
set_option linter.all false
namespace Go.Proofs.YtliajkheeniljaaGreatDoor
open Go.RowKit
set_option maxRecDepth 100000
set_option maxHeartbeats 16000000
def zq0 (w:World) (FW:World->zk->Value->Value->Prop) (r:zk × Int) (e:Ending) (w':World):Prop:=Below w.heap.size w w'/\∃xa xn xc ya yn yc,e= .returned (.tuple #[.agg #[.slice xa xn xc, .slice ya yn yc, .bool r.1.bad], .int .i64 r.2])/\FW w' r.1 (.slice xa xn xc) (.slice ya yn yc)
theorem zgP (w:World):zY w yZ (.slice none 0 0) (.slice none 0 0):=
 ⟨⟨none,0,rfl,by simp [yZ],λj hj=>by simp [yZ] at hj⟩,⟨none,0,rfl,by simp [yZ],λj hj=>by simp [yZ] at hj⟩⟩
theorem zdQ {w w':World} {FW:World->zk->Value->Value->Prop} {r:zk × Int} {k:Int} (hF:∀y,FW y yZ (.slice none 0 0) (.slice none 0 0)) (h:r=(yZ,k)) (hb:Below w.heap.size w w'):zq0 w FW r (.returned (.tuple #[.agg #[.slice none 0 0, .slice none 0 0, .bool false], .int .i64 k])) w':=by
 subst h;exact⟨hb,none,0,0,none,0,0,rfl,hF _⟩
theorem zh3 {y:World} {g:Nat} {a0 b0 c0:Value} (hb:y.heap[g]? =some (.cells #[a0,b0,c0] 30 (0,0))):
  (y.cell? ⟨g,0,none⟩=some a0/\y.cell? ⟨g,1,none⟩=some b0/\y.cell? ⟨g,2,none⟩=some c0)/\(y.frozen? ⟨g,0,none⟩=false/\y.frozen? ⟨g,1,none⟩=false/\y.frozen? ⟨g,2,none⟩=false)/\
   ∀a b c:Value,(((y.setCell ⟨g,0,none⟩ a).setCell ⟨g,1,none⟩ b).setCell ⟨g,2,none⟩ c).heap[g]? =some (.cells #[a,b,c] 30 (0,0))/\Since (λk=>k=g) y (((y.setCell ⟨g,0,none⟩ a).setCell ⟨g,1,none⟩ b).setCell ⟨g,2,none⟩ c):=by
 refine⟨⟨ze hb 0,ze hb 1,ze hb 2⟩,⟨zD hb 0,zD hb 1,zD hb 2⟩,λa b c=> ?_⟩
 have hset:=zw (zw (zw hb 0 a) 1 b) 2 c
 simp only [List.setIfInBounds_toArray,List.set_cons_zero,List.set_cons_succ] at hset
 exact⟨hset,Since.setCell (F:=λk=>k=g) (p:=⟨g,2,none⟩) (Since.setCell (F:=λk=>k=g) (p:=⟨g,1,none⟩) (Since.setCell (F:=λk=>k=g) (p:=⟨g,0,none⟩) (Since.refl _ y) (.inl rfl) _) (.inl rfl) _) (.inl rfl) _⟩
theorem zxH (w:World) (c:zF) (cv:Value) (d:Nat) (hc:yE d w cv c.threads) (m:zA) (s:zk) (sv mv:Value) (hs:zY w s sv mv) (hb:∀j,j<s.threads.length->(s.threads.getD j default).buf.length<=1000000) (x:zu):
  Calls Tryz.prog 25 #[yC c cv,xu m,yF s sv mv,zdR x] w (zq0 w (Follows w s sv mv) (qz c m s x d)):=by
 obtain⟨fo,hfo⟩:∃fo,fo=yA c m s:=⟨_,rfl⟩
 have hfits:=λW (hW:Below w.heap.size w W)=>zq1 W c cv d (zh.below (qx.stays d) hc hW) m s sv mv (hs.below hW) hb
 have kQ:=λ(hf:fo=true) W (hW:Below w.heap.size w W) (i:Nat) (hi:i<s.threads.length)=>zkN W c cv d (zh.below (qx.stays d) hc hW) m s sv mv (hs.below hW) hb (hfo.symm.trans hf) i hi x.kind x.var
 have hfe:∀y,Follows w s sv mv y yZ (.slice none 0 0) (.slice none 0 0):=λ_ _ _ _ y _=>zgP y
 have hfw:∀(W1 W2 Y X:World) (S:zk) (a b:Value) (g1 g2:Nat),Below w.heap.size w W1->Follows W1 s sv mv W2 S a b->Since (λk=>k=g1) W2 Y->Since (λk=>k=g2) Y X->w.heap.size<=g1/\g1<W1.heap.size->w.heap.size<=g2/\g2<W1.heap.size->Follows w s sv mv X S a b:=λW1 W2 Y X S a b g1 g2 hb hf h1 h2 h3 h4=>
  hf.later (G:=λk=>k=g1\/k=g2) hb ((h1.mono (G:=λk=>k=g1\/k=g2) (λ_ _ e=> .inl e)).trans (h2.mono (G:=λk=>k=g1\/k=g2) (λ_ _ e=> .inr e)) (λ_ e=> .inl e)) (λk hk=> .inl (by rcases hk with e|e<;>subst e<;>assumption))
 obtain⟨FO,hFO⟩:∃FO:World->World->zk->Value->Value->Prop,FO=λW=>Follows W s sv mv:=⟨_,rfl⟩
 have zkO:∀W,Follows W s sv mv=FO W:=λW=>by rw [hFO]
 simp only [zkO] at kQ hfw hfe ⊢
 have HFW:=qh hfw
 have HFE:=qh hfe
 clear hFO zkO hfw hfe
 obtain⟨R,hR⟩:∃R,R=qz c m s x d:=⟨_,rfl⟩
 have hRa:fo=false->R=(yZ,1):=λe=>by rw [hR];unfold qz;rw [if_neg (by rw [<-hfo,e];decide)]
 have hRb:fo=true->¬(0<=x.thread/\x.thread<(s.threads.length:Int))->R=(yZ,50):=λe h=>by rw [hR];unfold qz;rw [if_pos (hfo.symm.trans e),if_neg h]
 have hRc:fo=true->∀i:Nat,x.thread=(i:Int)->i<s.threads.length->R=zk4 (uN c m s i x.kind x.var d):=λe i hi hlt=>by rw [hR,ziQ (hfo.symm.trans e) ⟨by omega,by omega⟩,hi,Int.toNat_natCast]
 rw [<-hR]
 rw [<-hfo] at hfits
 clear hR hfo
 obtain⟨ca,cc,rfl, -⟩:=zh.slice hc
 obtain⟨ta,j3,rfl, -⟩:=zh.slice hs.threads
 obtain⟨ma,vY,rfl, -⟩:=zh.slice hs.mem
 obtain⟨T,hT⟩:∃T,T=λi=>uN c m s i x.kind x.var d:=⟨_,rfl⟩
 have hTi:∀i,uN c m s i x.kind x.var d=T i:=λi=>by rw [hT]
 simp only [hTi] at kQ hRc
 clear hTi hT hb hc hs
 unfold yC xu yF at hfits kQ ⊢
 unfold zdR
 obtain⟨n,hn⟩:∃n,n=s.threads.length:=⟨_,rfl⟩
 rw [<-hn] at hfits kQ hRb hRc ⊢
 clear hn
 generalize s.mem.length=mn at hfits kQ ⊢
 generalize s.bad=bad at hfits kQ ⊢
 generalize c.threads.length=cn at hfits kQ ⊢
 generalize c.vars=vars at hfits kQ ⊢
 generalize c.domain=dom at hfits kQ ⊢
 generalize m.model=mod at hfits kQ ⊢
 generalize m.bound=bnd at hfits kQ ⊢
 obtain⟨kind,th,vr⟩:=x
 simp only [] at kQ hRb hRc ⊢
 have HRA:=qh hRa
 have HRB:=qh hRb
 have HRC:=qh hRc
 have zcC:=qh hfits
 have ztr:=qh kQ
 clear hRa hRb hRc hfits kQ
 obtain⟨hB,h1,h2,h3,h4,h5⟩:=zce w (.cells #[.int .i64 vars, .int .i64 dom, .slice ca cn cc] 24) (.cells #[.int .i64 mod, .int .i64 bnd] 26) (.cells #[.slice ta n j3, .slice ma mn vY, .bool bad] 30) (.cells #[.int .i64 kind, .int .i64 th, .int .i64 vr] 32) (.cells #[.slice none 0 0, .slice none 0 0, .bool false] 30)
 have HB:=qh hB
 have H1:=qh h1
 have H2:=qh h2
 have H3:=qh h3
 have H4:=qh h4
 have H5:=qh h5
 clear hB h1 h2 h3 h4 h5
 go_enter Tryz.func25,Tryz.ntmps25
 go_upto_region 1 with fail
 generalize World.alloc (World.alloc (World.alloc (World.alloc (World.alloc w _) _) _) _) _=W at HB H1 H2 H3 H4 H5 ⊢
 obtain⟨gx,hgx⟩:∃gx,gx=w.heap.size:=⟨_,rfl⟩
 rw [<-hgx] at H1 H2 H3 H4 H5 ⊢
 have yX:=qh hgx
 clear hgx
 have qC:Hid (∀y,Below W.heap.size W y->y.cell? ⟨gx,0,none⟩=some (.int .i64 vars)/\y.cell? ⟨gx,1,none⟩=some (.int .i64 dom)/\y.cell? ⟨gx,2,none⟩=some (.slice ca cn cc)/\
   y.cell? ⟨gx+1,0,none⟩=some (.int .i64 mod)/\y.cell? ⟨gx+1,1,none⟩=some (.int .i64 bnd)/\y.cell? ⟨gx+2,0,none⟩=some (.slice ta n j3)/\y.cell? ⟨gx+2,1,none⟩=some (.slice ma mn vY)/\y.cell? ⟨gx+2,2,none⟩=some (.bool bad)/\
   y.cell? ⟨gx+3,0,none⟩=some (.int .i64 kind)/\y.cell? ⟨gx+3,1,none⟩=some (.int .i64 th)/\y.cell? ⟨gx+3,2,none⟩=some (.int .i64 vr)):=λy hx=>
  ⟨zi hx _ _ (ze H1.out 0),zi hx _ _ (ze H1.out 1),zi hx _ _ (ze H1.out 2),zi hx _ _ (ze H2.out 0),zi hx _ _ (ze H2.out 1),zi hx _ _ (ze H3.out 0),zi hx _ _ (ze H3.out 1),zi hx _ _ (ze H3.out 2),zi hx _ _ (ze H4.out 0),zi hx _ _ (ze H4.out 1),zi hx _ _ (ze H4.out 2)⟩
 have zQ:Hid (∀y,Below W.heap.size W y->_):=λy hy=>bZ (w:=w) (g:=gx+4) ((hy.block _ (zx H5.out)).trans H5.out) (HB.out.trans (hy.mono HB.out.size)) (by rw [yX.out];omega)
 obtain⟨c0,c1,c2,c3,c4,c5,c6,c7, -, -, -⟩:=qC.out W (Below.refl _ _)
 go_wp2_with fail
 refine(zcC.out W HB.out).mono ?_
 rintro e W1 ⟨rfl,hb1⟩
 have HB1:=qh hb1
 clear hb1 zcC c0 c1 c2 c3 c4 c5 c6 c7
 cases fo with
 |false=>
  have HR:=qh (HRA.out rfl)
  obtain⟨⟨q0,q1,q2⟩,⟨f0,f1,f2⟩,hend⟩:=zQ.out W1 HB1.out
  obtain⟨hset, -,hbe⟩:=hend (.slice none 0 0) (.slice none 0 0) (.bool false)
  have zJ:=qh hset
  have yI:=qh hbe
  clear hset hbe hend
  go_wp2_with fail
  (try simp only [Exit.inBlock,Exit.then])
  refine bodyPost_ret (zC rfl _ _ (gx+4) 30 _ (0,0) _ rfl zJ.out Tryz.underlying30 rfl zI) rfl ?_
  exact zdQ HFE.out HR.out yI.out
 |true=>
 obtain⟨c0,c1,c2,c3,c4,c5,c6,c7,c8,c9,c10⟩:=qC.out W1 HB1.out
 by_cases ht:0<=th/\th<(n:Int)
 rotate_left
 ·have HR:=qh (HRB.out rfl ht)
  by_cases h0:th<0
  ·have z0:decide (th<0)=true:=decide_eq_true h0
   clear ht h0
   obtain⟨⟨q0,q1,q2⟩,⟨f0,f1,f2⟩,hend⟩:=zQ.out W1 HB1.out
   obtain⟨hset, -,hbe⟩:=hend (.slice none 0 0) (.slice none 0 0) (.bool false)
   have zJ:=qh hset
   have yI:=qh hbe
   clear hset hbe hend
   go_wp2_with fail
   (try simp only [Exit.inBlock,Exit.then])
   refine bodyPost_ret (zC rfl _ _ (gx+4) 30 _ (0,0) _ rfl zJ.out Tryz.underlying30 rfl zI) rfl ?_
   exact zdQ HFE.out HR.out yI.out
  have z0:decide (th<0)=false:=decide_eq_false h0
  have z1:decide ((n:Int)<=th)=true:=decide_eq_true (by omega)
  clear ht h0
  obtain⟨⟨q0,q1,q2⟩,⟨f0,f1,f2⟩,hend⟩:=zQ.out W1 HB1.out
  obtain⟨hset, -,hbe⟩:=hend (.slice none 0 0) (.slice none 0 0) (.bool false)
  have zJ:=qh hset
  have yI:=qh hbe
  clear hset hbe hend
  go_wp2_with fail
  (try simp only [Exit.inBlock,Exit.then])
  refine bodyPost_ret (zC rfl _ _ (gx+4) 30 _ (0,0) _ rfl zJ.out Tryz.underlying30 rfl zI) rfl ?_
  exact zdQ HFE.out HR.out yI.out
 obtain⟨i,rfl⟩:∃i:Nat,th=(i:Int):=⟨th.toNat,by omega⟩
 have hlt:i<n:=by omega
 have z0:decide ((i:Int)<0)=false:=decide_eq_false (by omega)
 have z1:decide ((n:Int)<=(i:Int))=false:=decide_eq_false (by omega)
 have hr:=HRC.out rfl i rfl hlt
 clear ht
 go_wp2_with fail
 refine(ztr.out (by trivial) W1 (HB.out.trans (HB1.out.mono HB.out.size)) i hlt).mono ?_
 rintro e W2 ⟨hb2,⟨ht,rfl⟩|⟨S,xa,xn,xc,ya,yn,yc,ht,rfl,hst⟩⟩
 ·have HR:Hid (R=(yZ,50)):=by rw [Hid,hr,ht];rfl
  clear hr ht
  have HW2:Hid (Below W.heap.size W W2):=HB1.out.trans (hb2.mono HB1.out.size)
  clear hb2 c0 c1 c2 c3 c4 c5 c6 c7 c8 c9 c10
  obtain⟨⟨p0,p1,p2⟩,⟨u0,u1,u2⟩,zdS⟩:=zh3 ((HW2.out.block _ (zx H3.out)).trans H3.out)
  obtain⟨hy2,hys⟩:=zdS (.slice none 0 0) (.slice none 0 0) (.bool false)
  have jH:=qh ((hys.block (gx+4) (Nat.lt_of_lt_of_le (zx H5.out) HW2.out.size) (by omega)).trans ((HW2.out.block _ (zx H5.out)).trans H5.out))
  have HWY:=qh ((HB.out.trans (HW2.out.mono HB.out.size)).trans (hys.below (Nat.le_trans HB.out.size HW2.out.size) (λk e=>by have:=yX.out;omega)))
  clear zdS
  go_upto_region 6 with fail
  clear p0 p1 p2 u0 u1 u2
  generalize World.setCell (World.setCell (World.setCell W2 _ _) _ _) _ _=Y at hy2 hys jH HWY ⊢
  obtain⟨y0,y1,y2⟩:=(zh3 hy2).1
  obtain⟨⟨q0,q1,q2⟩,⟨f0,f1,f2⟩,hend⟩:=bZ (w:=w) jH.out HWY.out (by rw [yX.out];omega)
  obtain⟨hset,hsi,hbe⟩:=hend (.slice none 0 0) (.slice none 0 0) (.bool false)
  have zJ:=qh hset
  have yI:=qh hbe
  clear hset hbe hend hsi hy2 hys
  go_wp2_with fail
  (try simp only [Exit.inBlock,Exit.then])
  refine bodyPost_ret (zC rfl _ _ (gx+4) 30 _ (0,0) _ rfl zJ.out Tryz.underlying30 rfl zI) rfl ?_
  exact zdQ HFE.out HR.out yI.out
 have HR:Hid (R=(S,0)):=by rw [Hid,hr,ht];rfl
 clear hr ht
 have HW2:Hid (Below W.heap.size W W2):=HB1.out.trans (hb2.mono HB1.out.size)
 clear hb2 c0 c1 c2 c3 c4 c5 c6 c7 c8 c9 c10
 obtain⟨⟨p0,p1,p2⟩,⟨u0,u1,u2⟩,zdS⟩:=zh3 ((HW2.out.block _ (zx H3.out)).trans H3.out)
 obtain⟨hy2,hys⟩:=zdS (.slice xa xn xc) (.slice ya yn yc) (.bool S.bad)
 have jH:=qh ((hys.block (gx+4) (Nat.lt_of_lt_of_le (zx H5.out) HW2.out.size) (by omega)).trans ((HW2.out.block _ (zx H5.out)).trans H5.out))
 have HWY:=qh ((HB.out.trans (HW2.out.mono HB.out.size)).trans (hys.below (Nat.le_trans HB.out.size HW2.out.size) (λk e=>by have:=yX.out;omega)))
 have HST:=qh hst
 have HYS:=qh hys
 clear hst
 clear zdS
 go_upto_region 6 with fail
 clear p0 p1 p2 u0 u1 u2
 generalize World.setCell (World.setCell (World.setCell W2 _ _) _ _) _ _=Y at hy2 hys HYS jH HWY ⊢
 obtain⟨y0,y1,y2⟩:=(zh3 hy2).1
 obtain⟨⟨q0,q1,q2⟩,⟨f0,f1,f2⟩,hend⟩:=bZ (w:=w) jH.out HWY.out (by rw [yX.out];omega)
 obtain⟨hset,hsi,hbe⟩:=hend (.slice xa xn xc) (.slice ya yn yc) (.bool S.bad)
 have yK:=qh (HFW.out W1 W2 Y _ S _ _ (gx+2) (gx+4) (HB.out.trans (HB1.out.mono HB.out.size)) HST.out HYS.out hsi ⟨by rw [yX.out];omega,Nat.lt_of_lt_of_le (zx H3.out) HB1.out.size⟩ ⟨by rw [yX.out];omega,Nat.lt_of_lt_of_le (zx H5.out) HB1.out.size⟩)
 clear HST HYS
 have zJ:=qh hset
 have yI:=qh hbe
 clear hset hbe hend hsi hy2 hys
 go_wp2_with fail
 (try simp only [Exit.inBlock,Exit.then])
 refine bodyPost_ret (zC rfl _ _ (gx+4) 30 _ (0,0) _ rfl zJ.out Tryz.underlying30 rfl zI) rfl ?_
 exact⟨yI.out,xa,xn,xc,ya,yn,yc,by rw [HR.out];rfl,by rw [HR.out];exact yK.out⟩
end Go.Proofs.YtliajkheeniljaaGreatDoor
namespace Go.Proofs.YtliajkheeniljaaGreatDoor
open Go.RowKit
set_option maxRecDepth 100000
set_option maxHeartbeats 16000000
def pz (c:zF) (m:zA) (d:Nat):zk->List zu->zk × Int
 |s, [] =>(s,0)
 |s,x::l=>if (qz c m s x d).2=0 then pz c m d (qz c m s x d).1 l else(yZ,(qz c m s x d).2)
def zcc (c:zF) (m:zA) (l:List zu) (d:Nat):zk × Int:=if qm c m then pz c m d (xM c) l else(yZ,1)
def zh5 (w:World) (r:zk × Int) (e:Ending) (w':World):Prop:=(∃(a b:Option Addr) (n c k f:Nat),e= .returned (.tuple #[.agg #[.slice a n c, .slice b k f, .bool r.1.bad], .int .i64 r.2])/\zY w' r.1 (.slice a n c) (.slice b k f))/\Below w.heap.size w w'
theorem zmT {c:zF} {m:zA} {d:Nat} {s:zk} {l:List zu} {i:Nat} (hi:i<l.length):pz c m d s (l.drop i)=if (qz c m s (l.getD i default) d).2=0 then pz c m d (qz c m s (l.getD i default) d).1 (l.drop (i+1)) else(yZ,(qz c m s (l.getD i default) d).2):=by
 rw [List.drop_eq_getElem_cons hi,List.getD_eq_getElem?_getD,List.getElem?_eq_getElem hi];rfl
theorem zfa {y:World} {g:Nat} {a b c:Value} (hy:y.heap[g]? =some (.cells #[a,b,c] 30 (0,0))) (p q r:Value):(((y.setCell ⟨g,0,none⟩ p).setCell ⟨g,1,none⟩ q).setCell ⟨g,2,none⟩ r).heap[g]? =some (.cells #[p,q,r] 30 (0,0))/\Since (λk=>k=g) y (((y.setCell ⟨g,0,none⟩ p).setCell ⟨g,1,none⟩ q).setCell ⟨g,2,none⟩ r):=by
 have h:=zw (zw (zw hy 0 p) 1 q) 2 r
 refine⟨by simpa using h,Since.setCell (F:=λk=>k=g) (p:=⟨g,2,none⟩) (Since.setCell (F:=λk=>k=g) (p:=⟨g,1,none⟩) (Since.setCell (F:=λk=>k=g) (p:=⟨g,0,none⟩) (Since.refl _ y) (.inl rfl) _) (.inl rfl) _) (.inl rfl) _⟩
structure zdT (w W X:World) (g gs:Nat) (s:zk) (tv mv:Value):Prop where
 since:Since (λk=>k=gs) W X
 below:Below w.heap.size w W
 lo:w.heap.size<=g/\g<gs/\gs<W.heap.size
 res:X.heap[g]? =some (.cells #[.slice none 0 0, .slice none 0 0, .bool false] 30 (0,0))
 box:X.heap[gs]? =some (.cells #[tv,mv, .bool s.bad] 30 (0,0))
 st:zY X s tv mv
section
variable {w W X Y:World} {g gs:Nat} {s t:zk} {tv mv:Value}
theorem zdT.all (h:zdT w W X g gs s tv mv):Below w.heap.size w X:=h.below.trans (h.since.below h.below.size (λk hk=>by have:=h.lo;omega))
theorem zdT.put (h:zdT w W X g gs s tv mv) (hb:Below X.heap.size X Y) {pv qv:Value} (hs:zY Y t pv qv):
  zdT w W (((Y.setCell ⟨gs,0,none⟩ pv).setCell ⟨gs,1,none⟩ qv).setCell ⟨gs,2,none⟩ (.bool t.bad)) g gs t pv qv:=by
 obtain⟨a1,c1,rfl, -⟩:=zh.slice h.st.threads
 obtain⟨a2,c2,rfl, -⟩:=zh.slice h.st.mem
 have hbx:=(hb.block _ (zx h.box)).trans h.box
 have hrs:=(hb.block _ (zx h.res)).trans h.res
 obtain⟨h1,h2⟩:=zfa hbx pv qv (.bool t.bad)
 have hlo:=h.lo
 refine⟨(h.since.trans (qY (λk=>k=gs) hb) (λ_ e=> .inl e)).trans h2 (λ_ e=> .inl e),h.below,hlo,(h2.block _ (zx hrs) (by omega)).trans hrs,h1,zcA hs hbx h2⟩
theorem zdT.fin (h:zdT w W X g gs s tv mv) (hb:Below X.heap.size X Y) {pv qv:Value} (hs:zY Y t pv qv):(((Y.setCell ⟨g,0,none⟩ pv).setCell ⟨g,1,none⟩ qv).setCell ⟨g,2,none⟩ (.bool t.bad)).heap[g]? =some (.cells #[pv,qv, .bool t.bad] 30 (0,0))/\
  zY (((Y.setCell ⟨g,0,none⟩ pv).setCell ⟨g,1,none⟩ qv).setCell ⟨g,2,none⟩ (.bool t.bad)) t pv qv/\Below w.heap.size w (((Y.setCell ⟨g,0,none⟩ pv).setCell ⟨g,1,none⟩ qv).setCell ⟨g,2,none⟩ (.bool t.bad)):=by
 obtain⟨h1,h2⟩:=zfa ((hb.block _ (zx h.res)).trans h.res) pv qv (.bool t.bad)
 have hlo:=h.lo
 exact⟨h1,zcA hs ((hb.block _ (zx h.res)).trans h.res) h2,(h.all.trans (hb.mono h.all.size)).trans (h2.below (Nat.le_trans h.all.size hb.size) (λk hk=>by omega))⟩
end
theorem zgf (w:World) (c:zF) (cv:Value) (d:Nat) (hc:yE d w cv c.threads) (m:zA) (lv:Value) (l:List zu) (hl:qV w lv l):Calls Tryz.prog 34 #[yC c cv,xu m,lv] w (zh5 w (zcc c m l d)):=by
 obtain⟨ca,cc,rfl, -⟩:=zh.slice hc
 obtain⟨la,lc,rfl,hl63⟩:=zh.slice hl
 obtain⟨ln,hln⟩:∃n,n=l.length:=⟨_,rfl⟩
 rw [<-hln] at hl hl63 ⊢
 obtain⟨mo,hmo⟩:∃mo,mo=qm c m:=⟨_,rfl⟩
 have hmay:=λW hW=>zgQ W c (.slice ca c.threads.length cc) d hW m
 rw [<-hmo] at hmay
 obtain⟨R,hR⟩:∃R,R=zcc c m l d:=⟨_,rfl⟩
 obtain⟨S0,hS0⟩:∃S0,S0=xM c:=⟨_,rfl⟩
 have hR2:R=if mo then pz c m d S0 l else(yZ,1):=by rw [hR,hmo,hS0];rfl
 rw [<-hR]
 have hstart:=λW hc=>zh6 W c (.slice ca c.threads.length cc) d hc
 rw [<-hS0] at hstart
 have hsb:gB 33 S0:=by rw [hS0];exact zdU c
 have hdo:=λW hc s sv mv hs hb x=>zxH W c (.slice ca c.threads.length cc) d hc m s sv mv hs hb x
 obtain⟨C,hC⟩:∃C,C=c:=⟨_,rfl⟩
 obtain⟨M,hM⟩:∃M,M=m:=⟨_,rfl⟩
 rw [<-hC, <-hM] at hR2
 obtain⟨vars,dom,cs⟩:=c
 obtain⟨mod,bnd⟩:=m
 unfold yC xu
 unfold yC xu at hdo hmay
 unfold yC at hstart
 simp only [] at hc hmay hstart hdo ⊢
 obtain⟨cn,hcn⟩:∃cn,cn=cs.length:=⟨_,rfl⟩
 rw [<-hcn] at hc hmay hstart hdo ⊢
 rw [<-hC, <-hM] at hdo
 obtain⟨hB,h1,h2,h3⟩:=zdV w (.cells #[.int .i64 vars, .int .i64 dom, .slice ca cn cc] 24) (.cells #[.int .i64 mod, .int .i64 bnd] 26) (.cells #[.slice none 0 0, .slice none 0 0, .bool false] 30)
 have HB:=qh hB
 have H1:=qh h1
 have H2:=qh h2
 have H3:=qh h3
 have gQ:=qh hc
 have HLS:=qh hl
 have gY:=qh hmay
 have zkQ:=qh hstart
 have HDO:=qh hdo
 have HSB:=qh hsb
 have HRR:=qh hR2
 have jI:=qh hln
 clear hC hM hcn hmay hstart hdo hsb hR2 hmo hR hS0 hB h1 h2 h3 hc hl hln
 go_enter Tryz.func34,Tryz.ntmps34
 go_upto_region 1 with fail
 generalize World.alloc (World.alloc (World.alloc w _) _) _=W at HB H1 H2 H3 ⊢
 obtain⟨gx,hgx⟩:∃gx,gx=w.heap.size:=⟨_,rfl⟩
 rw [<-hgx] at H1 H2 H3 ⊢
 have yX:=qh hgx
 clear hgx
 have HK:Hid (∀y,Since (λk=>gx+2<=k) W y->y.cell? ⟨gx,0,none⟩=some (.int .i64 vars)/\y.cell? ⟨gx,1,none⟩=some (.int .i64 dom)/\y.cell? ⟨gx,2,none⟩=some (.slice ca cn cc)/\y.cell? ⟨gx+1,0,none⟩=some (.int .i64 mod)/\y.cell? ⟨gx+1,1,none⟩=some (.int .i64 bnd)):=λy hy=>by
  have k1:=(hy.block _ (zx H1.out) (by omega)).trans H1.out
  have k2:=(hy.block _ (zx H2.out) (by omega)).trans H2.out
  exact⟨ze k1 0,ze k1 1,ze k1 2,ze k2 0,ze k2 1⟩
 obtain⟨c0,c1,c2,e0,e1⟩:=HK.out W (Since.refl _ _)
 go_upto_if 15 with(go_at_call 52;go_must(refine(gY.out W (zh.below (qx.stays d) gQ.out HB.out)).mono ?_);rintro e X1 ⟨rfl,hb⟩;have HB1:=qh hb;clear hb)
 clear c0 c1 c2 e0 e1
 have vg:Hid (Since (λk=>gx+2<=k) W X1):=qY _ HB1.out
 have H3X:=qh ((HB1.out.block _ (zx H3.out)).trans H3.out)
 cases mo with
 |false=>
  have hR:R=(yZ,1):=HRR.out
  have hbx:=H3X.out
  obtain⟨hset,hsn⟩:=zfa hbx (.slice none 0 0) (.slice none 0 0) (.bool false)
  have hend:zh5 w R (.returned (.tuple #[.agg #[.slice none 0 0, .slice none 0 0, .bool false], .int .i64 1])) (((X1.setCell ⟨gx+2,0,none⟩ (.slice none 0 0)).setCell ⟨gx+2,1,none⟩ (.slice none 0 0)).setCell ⟨gx+2,2,none⟩ (.bool false)):=by
   rw [hR]
   exact⟨⟨none,none,0,0,0,0,rfl,zgP _⟩,(HB.out.trans (HB1.out.mono HB.out.size)).trans (hsn.below (Nat.le_trans HB.out.size HB1.out.size) (λk hk=>by have:=yX.out;omega))⟩
  have zJ:=qh hset
  have zW:=qh hend
  have b0:=ze hbx 0
  have b1:=ze hbx 1
  have b2:=ze hbx 2
  have f0:=zD hbx 0
  have f1:=zD hbx 1
  have f2:=zD hbx 2
  clear hset hend hbx hR hsn
  go_wp2_with fail
  refine bodyPost_ret (zC rfl _ _ (gx+2) 30 _ (0,0) _ rfl zJ.out Tryz.underlying30 rfl zI) rfl ?_
  exact zW.out
 |true=>
 have HR0:Hid (R=pz C M d S0 l):=HRR.out
 obtain⟨c0,c1,c2,e0,e1⟩:=HK.out X1 vg.out
 go_upto_region 4 with(go_at_call 18;go_must(refine(zkQ.out X1 (zh.below (qx.stays d) gQ.out (zB HB.out HB1.out))).mono ?_);rintro e X2 ⟨⟨zv,yv,rfl,hst⟩,hb⟩;(obtain⟨za,zac,rfl, -⟩:=zh.slice hst.now.threads);(obtain⟨zb,zbc,rfl, -⟩:=zh.slice hst.now.mem);have HST:=qh hst.now;have HB2:=qh (zB HB1.out hb);have HBZ:=qh hb.size;unfold yF;clear hst hb)
 clear c0 c1 c2 e0 e1
 have hg2:gx+1+1=gx+2:=rfl
 obtain⟨gs,hgs⟩:∃g,g=X2.heap.size:=⟨_,rfl⟩
 obtain⟨n1,hn1⟩:∃n,n=S0.threads.length:=⟨_,rfl⟩
 obtain⟨n2,hn2⟩:∃n,n=S0.mem.length:=⟨_,rfl⟩
 rw [<-hn1, <-hn2] at HST ⊢
 have hL:zdT w (X2.alloc (.cells #[.slice za n1 zac, .slice zb n2 zbc, .bool S0.bad] 30)) (X2.alloc (.cells #[.slice za n1 zac, .slice zb n2 zbc, .bool S0.bad] 30)) (gx+2) gs S0 (.slice za n1 zac) (.slice zb n2 zbc):=by
  have h3:=zx H3X.out
  have h4:=HBZ.out
  have h5:=yX.out
  have h6:=HB1.out.size
  have h7:=zx H3.out
  have h8:=HB.out.size
  have hBX:Below X2.heap.size X2 (X2.alloc (.cells #[.slice za n1 zac, .slice zb n2 zbc, .bool S0.bad] 30)):=(Below.refl _ _).alloc (Nat.le_refl _) _
  have hk3:=(HB2.out.block _ h7).trans H3.out
  refine⟨Since.refl _ _,zB HB.out (zB HB2.out hBX),⟨by omega,by omega,by simp;omega⟩,(Below.heap_alloc _ _ _ (zx hk3)).trans hk3,by rw [hgs];exact yt _ _, ?_⟩
  exact HST.out.below hBX
 have hS2:Since (λk=>gx+2<=k) W (X2.alloc (.cells #[.slice za n1 zac, .slice zb n2 zbc, .bool S0.bad] 30)):=(qY _ HB2.out).alloc _
 have HL:=qh hL
 have HS2:=qh hS2
 clear hL hS2 HST HB2 HBZ hn1 hn2 H3X HB1 vg H3 hg2
 rw [<-hgs]
 clear hgs
 generalize World.alloc X2 _=W2 at HL HS2 ⊢
 go_wp2_with fail
 go_loopg [21] ln (λgg s21 wr=>∃(i:Nat) (s:zk) (pa qa:Option Addr) (pn pc qn qc:Nat),i<=ln/\Hid (gg=ln - i)/\s21= .int .i64 i/\Hid (zdT w W2 wr (gx+2) gs s (.slice pa pn pc) (.slice qa qn qc))/\Hid (R=pz C M d s (l.drop i))/\Hid (gB 33 s))
 case atStart=>exact⟨0,S0,za,zb,n1,zac,n2,zbc,Nat.zero_le _,rfl,rfl,HL.out,by rw [Hid,HR0.out];rfl,HSB.out⟩
 case round=>
 obtain⟨i,s,pa,qa,pn,pc,qn,qc,hi,HG,rfl,pO,HRI,HBU⟩:=hrel
 obtain⟨wo,rfl⟩:∃wo:World,wo=wr:=⟨_,rfl⟩
 clear HL
 have HSW:Hid (Since (λk=>gx+2<=k) W wo):=HS2.out.trans pO.out.since (λk hk=> .inl (by have:=pO.out.lo;omega))
 obtain⟨bd,hbd⟩:∃b,b=s.bad:=⟨_,rfl⟩
 have hbx:=pO.out.box
 rw [<-hbd] at hbx
 have b0:=ze hbx 0
 have b1:=ze hbx 1
 have b2:=ze hbx 2
 have xw:=qh hbx
 by_cases hlt:i<ln
 rotate_left
 ·obtain rfl:ln=i:=by omega
  have hR:R=(s,0):=by rw [HRI.out,jI.out,List.drop_length];rfl
  obtain⟨hset,hs6,hb6⟩:=pO.out.fin (t:=s) (Below.refl _ _) pO.out.st
  rw [<-hbd] at hset hs6 hb6
  have hend:zh5 w R (.returned (.tuple #[.agg #[.slice pa pn pc, .slice qa qn qc, .bool bd], .int .i64 0])) (((wo.setCell ⟨gx+2,0,none⟩ (.slice pa pn pc)).setCell ⟨gx+2,1,none⟩ (.slice qa qn qc)).setCell ⟨gx+2,2,none⟩ (.bool bd)):=by
   rw [hR];exact⟨⟨pa,qa,pn,pc,qn,qc,by rw [hbd],hs6⟩,hb6⟩
  have zJ:=qh hset
  have zW:=qh hend
  have hrs:=pO.out.res
  have d0:=ze hrs 0
  have d1:=ze hrs 1
  have d2:=ze hrs 2
  have f0:=zD hrs 0
  have f1:=zD hrs 1
  have f2:=zD hrs 2
  clear hset hs6 hb6 hend hrs hR hbx hbd
  go_wp2_with fail
  refine bodyPost_ret (zC rfl _ _ (gx+2) 30 _ (0,0) _ rfl zJ.out Tryz.underlying30 rfl zI) rfl ?_
  exact zW.out
 have qG:(i:Int)<(ln:Int):=by omega
 obtain⟨mb,mof,zZ, -,x0,x1,x2⟩:=qV.part (zh.below zaD.stays HLS.out pO.out.all) i (by rw [<-jI.out];exact hlt)
 subst zZ
 obtain⟨x,hx⟩:∃x,x=l.getD i default:=⟨_,rfl⟩
 rw [<-hx] at x0 x1 x2
 obtain⟨⟨t,er⟩,hdd⟩:∃p,p=qz C M s x d:=⟨_,rfl⟩
 have hstp:R=if er=0 then pz C M d t (l.drop (i+1)) else(yZ,er):=by
  rw [HRI.out,zmT (by rw [<-jI.out];exact hlt), <-hx, <-hdd]
 have hbt:gB 33 t:=by have:=ziT (c:=C) (m:=M) (s:=s) (x:=x) (d:=d);rw [<-hdd] at this;exact this
 have hst:=pO.out.st
 have hD:=λy (hy:Below wo.heap.size wo y)=>HDO.out y (zh.below (qx.stays d) gQ.out (zB pO.out.all hy)) s _ _ (hst.below hy) (λj hj=>by have:=HBU.out j hj;omega) x
 rw [<-hdd] at hD
 unfold yF zdR at hD
 rw [<-hbd] at hD
 have hpn:s.threads.length=pn:=by obtain⟨a,c,e, -⟩:=zh.slice hst.threads;cases e;rfl
 have HDD:=qh hD
 have zfb:=qh hstp
 have HBT:=qh hbt
 clear hD hstp hbt hst hdd hx hbx hbd hpn
 obtain⟨xk,xt,xv⟩:=x
 simp only [] at x0 x1 x2 HDD
 go_upto_region 8 with fail
 have hA:Below wo.heap.size wo (wo.alloc (.cells #[.int .i64 xk, .int .i64 xt, .int .i64 xv] 32)):=(Below.refl _ _).alloc (Nat.le_refl _) _
 have HDA:=qh (HDD.out _ hA)
 have HAA:=qh hA
 have HHL:Hid (∀Y,Below wo.heap.size wo Y->(Y.heap[gs]? =some (.cells #[.slice pa pn pc, .slice qa qn qc, .bool bd] 30 (0,0)))):=λY hY=>(hY.block _ (zx xw.out)).trans xw.out
 have HMB:=qh (yt wo (.cells #[.int .i64 xk, .int .i64 xt, .int .i64 xv] 32))
 have zts:Hid (Since (λk=>gx+2<=k) W (wo.alloc (.cells #[.int .i64 xk, .int .i64 xt, .int .i64 xv] 32))):=HSW.out.alloc _
 clear hA HDD b0 b1 b2 x0 x1 x2
 generalize World.alloc wo _=W3 at HDA HAA HMB zts ⊢
 generalize wo.heap.size=gm at HMB ⊢
 obtain⟨c0,c1,c2,e0,e1⟩:=HK.out W3 zts.out
 have hb3:=HHL.out W3 HAA.out
 have b0:=ze hb3 0
 have b1:=ze hb3 1
 have b2:=ze hb3 2
 have m0:=ze HMB.out 0
 have m1:=ze HMB.out 1
 have m2:=ze HMB.out 2
 clear hb3
 go_upto_region 9 with(go_at_call 25;go_must(refine HDA.out.mono ?_);rintro e Y ⟨hb,ra,rn,rc,ua,un,uc,rfl,hfo⟩;have jr:=qh hb;have HFO:=qh hfo;have hby:=(hb.block _ (zx (HHL.out W3 HAA.out))).trans (HHL.out W3 HAA.out);have g0:=ze hby 0;have g1:=ze hby 1;have g2:=ze hby 2;have g3:=zD hby 0;have g4:=zD hby 1;have g5:=zD hby 2;clear hb hfo hby)
 have zy7:=HFO.out.now (pO.out.st.below HAA.out)
 have hput:=pO.out.put (zB HAA.out jr.out) zy7
 have kR:=qh hput
 clear zy7 hput HFO HDA HHL HMB zts HAA jr xw pO c0 c1 c2 e0 e1 b0 b1 b2 m0 m1 m2 g0 g1 g2 g3 g4 g5
 generalize World.setCell (World.setCell (World.setCell Y _ _) _ _) _ _=X5 at kR ⊢
 by_cases her:er=0
 ·subst her
  have z5d:Hid (R=pz C M d t (l.drop (i+1))):=by rw [Hid,zfb.out,if_pos rfl]
  go_wp2_with fail
  go_roundg (ln - (i+1))
  case measure=>rw [HG.out];omega
  case rel=>exact⟨i+1,t,ra,ua,rn,rc,un,uc,by omega,rfl,by simp,kR.out,z5d.out,HBT.out⟩
 have hR:R=(yZ,er):=by rw [zfb.out,if_neg her]
 obtain⟨hset,hs6,hb6⟩:=kR.out.fin (t:=yZ) (pv:= .slice none 0 0) (qv:= .slice none 0 0) (Below.refl _ _) (zgP _)
 have hend:zh5 w R (.returned (.tuple #[.agg #[.slice none 0 0, .slice none 0 0, .bool false], .int .i64 er])) (((X5.setCell ⟨gx+2,0,none⟩ (.slice none 0 0)).setCell ⟨gx+2,1,none⟩ (.slice none 0 0)).setCell ⟨gx+2,2,none⟩ (.bool false)):=by
  rw [hR];exact⟨⟨none,none,0,0,0,0,rfl,hs6⟩,hb6⟩
 have zJ:=qh hset
 have zW:=qh hend
 have hbx:=kR.out.res
 have b0:=ze hbx 0
 have b1:=ze hbx 1
 have b2:=ze hbx 2
 have f0:=zD hbx 0
 have f1:=zD hbx 1
 have f2:=zD hbx 2
 have zAo:(er !=0)=true:=by simpa using her
 clear hset hs6 hb6 hend hbx hR
 go_wp2_with fail
 (try simp only [Exit.inBlock,Exit.then])
 refine bodyPost_ret (zC rfl _ _ (gx+2) 30 _ (0,0) _ rfl zJ.out Tryz.underlying30 rfl zI) rfl ?_
 exact zW.out
