/- Steps. -/
import Derived.Test.YteggflahafiieaaGreatDoorZgPTry
set_option linter.all false
namespace Go.Proofs.YteggflahafiieaaGreatDoor
open Go.RowKit
set_option maxRecDepth 100000
set_option maxHeartbeats 16000000
def zsU (w:World) (FW:World->zm->Value->Value->Prop) (r:zm × Int) (e:Ending) (w':World):Prop:=Below w.heap.size w w'/\∃xa xn xc ya yn yc,e= .returned (.tuple #[.agg #[.slice xa xn xc, .slice ya yn yc, .bool r.1.bad], .int .i64 r.2])/\FW w' r.1 (.slice xa xn xc) (.slice ya yn yc)
theorem znK (w:World):yh w yP (.slice none 0 0) (.slice none 0 0):=
 ⟨⟨none,0,rfl,by simp [yP],λj hj=>by simp [yP] at hj⟩,⟨none,0,rfl,by simp [yP],λj hj=>by simp [yP] at hj⟩⟩
theorem zcE {w w':World} {FW:World->zm->Value->Value->Prop} {r:zm × Int} {k:Int} (hF:∀y,FW y yP (.slice none 0 0) (.slice none 0 0)) (h:r=(yP,k)) (hb:Below w.heap.size w w'):zsU w FW r (.returned (.tuple #[.agg #[.slice none 0 0, .slice none 0 0, .bool false], .int .i64 k])) w':=by
 subst h;exact⟨hb,none,0,0,none,0,0,rfl,hF _⟩
theorem zgI {y:World} {g:Nat} {a0 b0 c0:Value} (hb:y.heap[g]? =some (.cells #[a0,b0,c0] 35 (0,0))):
  (y.cell? ⟨g,0,none⟩=some a0/\y.cell? ⟨g,1,none⟩=some b0/\y.cell? ⟨g,2,none⟩=some c0)/\(y.frozen? ⟨g,0,none⟩=false/\y.frozen? ⟨g,1,none⟩=false/\y.frozen? ⟨g,2,none⟩=false)/\
   ∀a b c:Value,(((y.setCell ⟨g,0,none⟩ a).setCell ⟨g,1,none⟩ b).setCell ⟨g,2,none⟩ c).heap[g]? =some (.cells #[a,b,c] 35 (0,0))/\Since (λk=>k=g) y (((y.setCell ⟨g,0,none⟩ a).setCell ⟨g,1,none⟩ b).setCell ⟨g,2,none⟩ c):=by
 refine⟨⟨za hb 0,za hb 1,za hb 2⟩,⟨zw hb 0,zw hb 1,zw hb 2⟩,λa b c=> ?_⟩
 have hset:=zu (zu (zu hb 0 a) 1 b) 2 c
 simp only [List.setIfInBounds_toArray,List.set_cons_zero,List.set_cons_succ] at hset
 exact⟨hset,Since.setCell (F:=λk=>k=g) (p:=⟨g,2,none⟩) (Since.setCell (F:=λk=>k=g) (p:=⟨g,1,none⟩) (Since.setCell (F:=λk=>k=g) (p:=⟨g,0,none⟩) (Since.refl _ y) (.inl rfl) _) (.inl rfl) _) (.inl rfl) _⟩
theorem zpq (w:World) (c:zK) (cv:Value) (d:Nat) (hc:yZ d w cv c.threads) (m:zF) (s:zm) (sv mv:Value) (hs:yh w s sv mv) (hb:∀j,j<s.threads.length->(s.threads.getD j default).buf.length<=1000000) (x:zN):
  Calls Tryz.prog 14 #[yT c cv,xD m,yR s sv mv,zeo x] w (zsU w (Follows w s sv mv) (ji c m s x d)):=by
 obtain⟨fo,hfo⟩:∃fo,fo=xR c m s:=⟨_,rfl⟩
 have hfits:=λW (hW:Below w.heap.size w W)=>zdB W c cv d (ze.below (xK.stays d) hc hW) m s sv mv (hs.below hW) hb
 have jI:=λ(hf:fo=true) W (hW:Below w.heap.size w W) (i:Nat) (hi:i<s.threads.length)=>zln W c cv d (ze.below (xK.stays d) hc hW) m s sv mv (hs.below hW) hb (hfo.symm.trans hf) i hi x.kind x.var
 have hfe:∀y,Follows w s sv mv y yP (.slice none 0 0) (.slice none 0 0):=λ_ _ _ _ y _=>znK y
 have hfw:∀(W1 W2 Y X:World) (S:zm) (a b:Value) (g1 g2:Nat),Below w.heap.size w W1->Follows W1 s sv mv W2 S a b->Since (λk=>k=g1) W2 Y->Since (λk=>k=g2) Y X->w.heap.size<=g1/\g1<W1.heap.size->w.heap.size<=g2/\g2<W1.heap.size->Follows w s sv mv X S a b:=λW1 W2 Y X S a b g1 g2 hb hf h1 h2 h3 h4=>
  hf.later (G:=λk=>k=g1\/k=g2) hb ((h1.mono (G:=λk=>k=g1\/k=g2) (λ_ _ e=> .inl e)).trans (h2.mono (G:=λk=>k=g1\/k=g2) (λ_ _ e=> .inr e)) (λ_ e=> .inl e)) (λk hk=> .inl (by rcases hk with e|e<;>subst e<;>assumption))
 obtain⟨FO,hFO⟩:∃FO:World->World->zm->Value->Value->Prop,FO=λW=>Follows W s sv mv:=⟨_,rfl⟩
 have zlo:∀W,Follows W s sv mv=FO W:=λW=>by rw [hFO]
 simp only [zlo] at jI hfw hfe ⊢
 have HFW:=qh hfw
 have HFE:=qh hfe
 clear hFO zlo hfw hfe
 obtain⟨R,hR⟩:∃R,R=ji c m s x d:=⟨_,rfl⟩
 have hRa:fo=false->R=(yP,1):=λe=>by rw [hR];unfold ji;rw [if_neg (by rw [<-hfo,e];decide)]
 have hRb:fo=true->¬(0<=x.thread/\x.thread<(s.threads.length:Int))->R=(yP,50):=λe h=>by rw [hR];unfold ji;rw [if_pos (hfo.symm.trans e),if_neg h]
 have hRc:fo=true->∀i:Nat,x.thread=(i:Int)->i<s.threads.length->R=zkS (wS c m s i x.kind x.var d):=λe i hi hlt=>by rw [hR,zhf (hfo.symm.trans e) ⟨by omega,by omega⟩,hi,Int.toNat_natCast]
 rw [<-hR]
 rw [<-hfo] at hfits
 clear hR hfo
 obtain⟨ca,cc,rfl, -⟩:=ze.slice hc
 obtain⟨ta,vE,rfl, -⟩:=ze.slice hs.threads
 obtain⟨ma,qN,rfl, -⟩:=ze.slice hs.mem
 obtain⟨T,hT⟩:∃T,T=λi=>wS c m s i x.kind x.var d:=⟨_,rfl⟩
 have hTi:∀i,wS c m s i x.kind x.var d=T i:=λi=>by rw [hT]
 simp only [hTi] at jI hRc
 clear hTi hT hb hc hs
 unfold yT xD yR at hfits jI ⊢
 unfold zeo
 obtain⟨n,hn⟩:∃n,n=s.threads.length:=⟨_,rfl⟩
 rw [<-hn] at hfits jI hRb hRc ⊢
 clear hn
 generalize s.mem.length=mn at hfits jI ⊢
 generalize s.bad=bad at hfits jI ⊢
 generalize c.threads.length=cn at hfits jI ⊢
 generalize c.vars=vars at hfits jI ⊢
 generalize c.domain=dom at hfits jI ⊢
 generalize m.model=mod at hfits jI ⊢
 generalize m.bound=bnd at hfits jI ⊢
 obtain⟨kind,th,vr⟩:=x
 simp only [] at jI hRb hRc ⊢
 have HRA:=qh hRa
 have HRB:=qh hRb
 have HRC:=qh hRc
 have bN:=qh hfits
 have zuo:=qh jI
 clear hRa hRb hRc hfits jI
 obtain⟨hB,h1,h2,h3,h4,h5⟩:=zaV w (.cells #[.int .i64 vars, .int .i64 dom, .slice ca cn cc] 26) (.cells #[.int .i64 mod, .int .i64 bnd] 31) (.cells #[.slice ta n vE, .slice ma mn qN, .bool bad] 35) (.cells #[.int .i64 kind, .int .i64 th, .int .i64 vr] 43) (.cells #[.slice none 0 0, .slice none 0 0, .bool false] 35)
 have HB:=qh hB
 have H1:=qh h1
 have H2:=qh h2
 have H3:=qh h3
 have H4:=qh h4
 have H5:=qh h5
 clear hB h1 h2 h3 h4 h5
 go_enter Tryz.func14,Tryz.ntmps14
 go_upto_region 1 with fail
 generalize World.alloc (World.alloc (World.alloc (World.alloc (World.alloc w _) _) _) _) _=W at HB H1 H2 H3 H4 H5 ⊢
 obtain⟨gx,hgx⟩:∃gx,gx=w.heap.size:=⟨_,rfl⟩
 rw [<-hgx] at H1 H2 H3 H4 H5 ⊢
 have yV:=qh hgx
 clear hgx
 have xJ:Hid (∀y,Below W.heap.size W y->y.cell? ⟨gx,0,none⟩=some (.int .i64 vars)/\y.cell? ⟨gx,1,none⟩=some (.int .i64 dom)/\y.cell? ⟨gx,2,none⟩=some (.slice ca cn cc)/\
   y.cell? ⟨gx+1,0,none⟩=some (.int .i64 mod)/\y.cell? ⟨gx+1,1,none⟩=some (.int .i64 bnd)/\y.cell? ⟨gx+2,0,none⟩=some (.slice ta n vE)/\y.cell? ⟨gx+2,1,none⟩=some (.slice ma mn qN)/\y.cell? ⟨gx+2,2,none⟩=some (.bool bad)/\
   y.cell? ⟨gx+3,0,none⟩=some (.int .i64 kind)/\y.cell? ⟨gx+3,1,none⟩=some (.int .i64 th)/\y.cell? ⟨gx+3,2,none⟩=some (.int .i64 vr)):=λy hx=>
  ⟨zh hx _ _ (za H1.out 0),zh hx _ _ (za H1.out 1),zh hx _ _ (za H1.out 2),zh hx _ _ (za H2.out 0),zh hx _ _ (za H2.out 1),zh hx _ _ (za H3.out 0),zh hx _ _ (za H3.out 1),zh hx _ _ (za H3.out 2),zh hx _ _ (za H4.out 0),zh hx _ _ (za H4.out 1),zh hx _ _ (za H4.out 2)⟩
 have zJ:Hid (∀y,Below W.heap.size W y->_):=λy hy=>gY (w:=w) (g:=gx+4) ((hy.block _ (zq H5.out)).trans H5.out) (HB.out.trans (hy.mono HB.out.size)) (by rw [yV.out];omega)
 obtain⟨c0,c1,c2,c3,c4,c5,c6,c7, -, -, -⟩:=xJ.out W (Below.refl _ _)
 go_wp2_with fail
 refine(bN.out W HB.out).mono ?_
 rintro e W1 ⟨rfl,hb1⟩
 have HB1:=qh hb1
 clear hb1 bN c0 c1 c2 c3 c4 c5 c6 c7
 cases fo with
 |false=>
  have HR:=qh (HRA.out rfl)
  obtain⟨⟨q0,q1,q2⟩,⟨f0,f1,f2⟩,hend⟩:=zJ.out W1 HB1.out
  obtain⟨hset, -,hbe⟩:=hend (.slice none 0 0) (.slice none 0 0) (.bool false)
  have zI:=qh hset
  have yH:=qh hbe
  clear hset hbe hend
  go_wp2_with fail
  (try simp only [Exit.inBlock,Exit.then])
  refine bodyPost_ret (zy rfl _ _ (gx+4) 35 _ (0,0) _ rfl zI.out Tryz.underlying35 rfl zC) rfl ?_
  exact zcE HFE.out HR.out yH.out
 |true=>
 obtain⟨c0,c1,c2,c3,c4,c5,c6,c7,c8,c9,c10⟩:=xJ.out W1 HB1.out
 by_cases ht:0<=th/\th<(n:Int)
 rotate_left
 ·have HR:=qh (HRB.out rfl ht)
  by_cases h0:th<0
  ·have z0:decide (th<0)=true:=decide_eq_true h0
   clear ht h0
   obtain⟨⟨q0,q1,q2⟩,⟨f0,f1,f2⟩,hend⟩:=zJ.out W1 HB1.out
   obtain⟨hset, -,hbe⟩:=hend (.slice none 0 0) (.slice none 0 0) (.bool false)
   have zI:=qh hset
   have yH:=qh hbe
   clear hset hbe hend
   go_wp2_with fail
   (try simp only [Exit.inBlock,Exit.then])
   refine bodyPost_ret (zy rfl _ _ (gx+4) 35 _ (0,0) _ rfl zI.out Tryz.underlying35 rfl zC) rfl ?_
   exact zcE HFE.out HR.out yH.out
  have z0:decide (th<0)=false:=decide_eq_false h0
  have z1:decide ((n:Int)<=th)=true:=decide_eq_true (by omega)
  clear ht h0
  obtain⟨⟨q0,q1,q2⟩,⟨f0,f1,f2⟩,hend⟩:=zJ.out W1 HB1.out
  obtain⟨hset, -,hbe⟩:=hend (.slice none 0 0) (.slice none 0 0) (.bool false)
  have zI:=qh hset
  have yH:=qh hbe
  clear hset hbe hend
  go_wp2_with fail
  (try simp only [Exit.inBlock,Exit.then])
  refine bodyPost_ret (zy rfl _ _ (gx+4) 35 _ (0,0) _ rfl zI.out Tryz.underlying35 rfl zC) rfl ?_
  exact zcE HFE.out HR.out yH.out
 obtain⟨i,rfl⟩:∃i:Nat,th=(i:Int):=⟨th.toNat,by omega⟩
 have hlt:i<n:=by omega
 have z0:decide ((i:Int)<0)=false:=decide_eq_false (by omega)
 have z1:decide ((n:Int)<=(i:Int))=false:=decide_eq_false (by omega)
 have hr:=HRC.out rfl i rfl hlt
 clear ht
 go_wp2_with fail
 refine(zuo.out (by trivial) W1 (HB.out.trans (HB1.out.mono HB.out.size)) i hlt).mono ?_
 rintro e W2 ⟨hb2,⟨ht,rfl⟩|⟨S,xa,xn,xc,ya,yn,yc,ht,rfl,hst⟩⟩
 ·have HR:Hid (R=(yP,50)):=by rw [Hid,hr,ht];rfl
  clear hr ht
  have HW2:Hid (Below W.heap.size W W2):=HB1.out.trans (hb2.mono HB1.out.size)
  clear hb2 c0 c1 c2 c3 c4 c5 c6 c7 c8 c9 c10
  obtain⟨⟨p0,p1,p2⟩,⟨u0,u1,u2⟩,zc9⟩:=zgI ((HW2.out.block _ (zq H3.out)).trans H3.out)
  obtain⟨hy2,hys⟩:=zc9 (.slice none 0 0) (.slice none 0 0) (.bool false)
  have j4:=qh ((hys.block (gx+4) (Nat.lt_of_lt_of_le (zq H5.out) HW2.out.size) (by omega)).trans ((HW2.out.block _ (zq H5.out)).trans H5.out))
  have HWY:=qh ((HB.out.trans (HW2.out.mono HB.out.size)).trans (hys.below (Nat.le_trans HB.out.size HW2.out.size) (λk e=>by have:=yV.out;omega)))
  clear zc9
  go_upto_region 6 with fail
  clear p0 p1 p2 u0 u1 u2
  generalize World.setCell (World.setCell (World.setCell W2 _ _) _ _) _ _=Y at hy2 hys j4 HWY ⊢
  obtain⟨y0,y1,y2⟩:=(zgI hy2).1
  obtain⟨⟨q0,q1,q2⟩,⟨f0,f1,f2⟩,hend⟩:=gY (w:=w) j4.out HWY.out (by rw [yV.out];omega)
  obtain⟨hset,hsi,hbe⟩:=hend (.slice none 0 0) (.slice none 0 0) (.bool false)
  have zI:=qh hset
  have yH:=qh hbe
  clear hset hbe hend hsi hy2 hys
  go_wp2_with fail
  (try simp only [Exit.inBlock,Exit.then])
  refine bodyPost_ret (zy rfl _ _ (gx+4) 35 _ (0,0) _ rfl zI.out Tryz.underlying35 rfl zC) rfl ?_
  exact zcE HFE.out HR.out yH.out
 have HR:Hid (R=(S,0)):=by rw [Hid,hr,ht];rfl
 clear hr ht
 have HW2:Hid (Below W.heap.size W W2):=HB1.out.trans (hb2.mono HB1.out.size)
 clear hb2 c0 c1 c2 c3 c4 c5 c6 c7 c8 c9 c10
 obtain⟨⟨p0,p1,p2⟩,⟨u0,u1,u2⟩,zc9⟩:=zgI ((HW2.out.block _ (zq H3.out)).trans H3.out)
 obtain⟨hy2,hys⟩:=zc9 (.slice xa xn xc) (.slice ya yn yc) (.bool S.bad)
 have j4:=qh ((hys.block (gx+4) (Nat.lt_of_lt_of_le (zq H5.out) HW2.out.size) (by omega)).trans ((HW2.out.block _ (zq H5.out)).trans H5.out))
 have HWY:=qh ((HB.out.trans (HW2.out.mono HB.out.size)).trans (hys.below (Nat.le_trans HB.out.size HW2.out.size) (λk e=>by have:=yV.out;omega)))
 have HST:=qh hst
 have HYS:=qh hys
 clear hst
 clear zc9
 go_upto_region 6 with fail
 clear p0 p1 p2 u0 u1 u2
 generalize World.setCell (World.setCell (World.setCell W2 _ _) _ _) _ _=Y at hy2 hys HYS j4 HWY ⊢
 obtain⟨y0,y1,y2⟩:=(zgI hy2).1
 obtain⟨⟨q0,q1,q2⟩,⟨f0,f1,f2⟩,hend⟩:=gY (w:=w) j4.out HWY.out (by rw [yV.out];omega)
 obtain⟨hset,hsi,hbe⟩:=hend (.slice xa xn xc) (.slice ya yn yc) (.bool S.bad)
 have yL:=qh (HFW.out W1 W2 Y _ S _ _ (gx+2) (gx+4) (HB.out.trans (HB1.out.mono HB.out.size)) HST.out HYS.out hsi ⟨by rw [yV.out];omega,Nat.lt_of_lt_of_le (zq H3.out) HB1.out.size⟩ ⟨by rw [yV.out];omega,Nat.lt_of_lt_of_le (zq H5.out) HB1.out.size⟩)
 clear HST HYS
 have zI:=qh hset
 have yH:=qh hbe
 clear hset hbe hend hsi hy2 hys
 go_wp2_with fail
 (try simp only [Exit.inBlock,Exit.then])
 refine bodyPost_ret (zy rfl _ _ (gx+4) 35 _ (0,0) _ rfl zI.out Tryz.underlying35 rfl zC) rfl ?_
 exact⟨yH.out,xa,xn,xc,ya,yn,yc,by rw [HR.out];rfl,by rw [HR.out];exact yL.out⟩
