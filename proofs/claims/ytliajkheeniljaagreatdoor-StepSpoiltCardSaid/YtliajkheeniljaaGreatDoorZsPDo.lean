/- What is behind a move, by the program: the walk. -/
import Derived.Test.YtliajkheeniljaaGreatDoorZsPTry
import Derived.Test.YtliajkheeniljaaGreatDoorZsShort
set_option linter.all false
namespace Go.Proofs.YtliajkheeniljaaGreatDoor
open Go.RowKit
set_option maxRecDepth 100000
set_option maxHeartbeats 16000000
def zpq (w:World) (FW:World->zu->Value->Value->Prop) (r:zu × Int) (e:Ending) (w':World):Prop:=Below w.heap.size w w'/\∃xa xn xc ya yn yc,e= .returned (.tuple #[.agg #[.slice xa xn xc, .slice ya yn yc, .bool r.1.bad], .int .i64 r.2])/\FW w' r.1 (.slice xa xn xc) (.slice ya yn yc)
theorem ziM (w:World):zZ w yO (.slice none 0 0) (.slice none 0 0):=
 ⟨⟨none,0,rfl,by simp [yO],fun j hj=>by simp [yO] at hj⟩,⟨none,0,rfl,by simp [yO],fun j hj=>by simp [yO] at hj⟩⟩
theorem zcH {w w':World} {FW:World->zu->Value->Value->Prop} {r:zu × Int} {k:Int} (hF:∀y,FW y yO (.slice none 0 0) (.slice none 0 0)) (h:r=(yO,k)) (hb:Below w.heap.size w w'):zpq w FW r (.returned (.tuple #[.agg #[.slice none 0 0, .slice none 0 0, .bool false], .int .i64 k])) w':=by
 subst h;exact⟨hb,none,0,0,none,0,0,rfl,hF _⟩
theorem zgf {y:World} {g:Nat} {a0 b0 c0:Value} (hb:y.heap[g]? =some (.cells #[a0,b0,c0] 30 (0,0))):
  (y.cell? ⟨g,0,none⟩=some a0/\y.cell? ⟨g,1,none⟩=some b0/\y.cell? ⟨g,2,none⟩=some c0)/\(y.frozen? ⟨g,0,none⟩=false/\y.frozen? ⟨g,1,none⟩=false/\y.frozen? ⟨g,2,none⟩=false)/\
   ∀a b c:Value,(((y.setCell ⟨g,0,none⟩ a).setCell ⟨g,1,none⟩ b).setCell ⟨g,2,none⟩ c).heap[g]? =some (.cells #[a,b,c] 30 (0,0))/\Since (fun k=>k=g) y (((y.setCell ⟨g,0,none⟩ a).setCell ⟨g,1,none⟩ b).setCell ⟨g,2,none⟩ c):=by
 refine⟨⟨zi hb 0,zi hb 1,zi hb 2⟩,⟨zB hb 0,zB hb 1,zB hb 2⟩,fun a b c=> ?_⟩
 have hset:=zA (zA (zA hb 0 a) 1 b) 2 c
 simp only [List.setIfInBounds_toArray,List.set_cons_zero,List.set_cons_succ] at hset
 exact⟨hset,Since.setCell (F:=fun k=>k=g) (p:=⟨g,2,none⟩) (Since.setCell (F:=fun k=>k=g) (p:=⟨g,1,none⟩) (Since.setCell (F:=fun k=>k=g) (p:=⟨g,0,none⟩) (Since.refl _ y) (.inl rfl) _) (.inl rfl) _) (.inl rfl) _⟩
theorem zkE (w:World) (c:zX) (cv:Value) (d:Nat) (hc:yZ d w cv c.threads) (m:zK) (s:zu) (sv mv:Value) (hs:zZ w s sv mv) (hb:∀j,j<s.threads.length->(s.threads.getD j default).buf.length<=1000000) (x:zM):
  Calls Tryz.prog 25 #[yL c cv,yY m,yH s sv mv,zaR x] w (zpq w (Follows w s sv mv) (vN c m s x d)):=by
 obtain⟨fo,hfo⟩:∃fo,fo=xX c m s:=⟨_,rfl⟩
 have hfits:=fun W (hW:Below w.heap.size w W)=>zb1 W c cv d (zk.below (xC.stays d) hc hW) m s sv mv (hs.below hW) hb
 have jE:=fun(hf:fo=true) W (hW:Below w.heap.size w W) (i:Nat) (hi:i<s.threads.length)=>zju W c cv d (zk.below (xC.stays d) hc hW) m s sv mv (hs.below hW) hb (hfo.symm.trans hf) i hi x.kind x.var
 have hfe:∀y,Follows w s sv mv y yO (.slice none 0 0) (.slice none 0 0):=fun _ _ _ _ y _=>ziM y
 have hfw:∀(W1 W2 Y X:World) (S:zu) (a b:Value) (g1 g2:Nat),Below w.heap.size w W1->Follows W1 s sv mv W2 S a b->Since (fun k=>k=g1) W2 Y->Since (fun k=>k=g2) Y X->w.heap.size<=g1/\g1<W1.heap.size->w.heap.size<=g2/\g2<W1.heap.size->Follows w s sv mv X S a b:=fun W1 W2 Y X S a b g1 g2 hb hf h1 h2 h3 h4=>
  hf.later (G:=fun k=>k=g1\/k=g2) hb ((h1.mono (G:=fun k=>k=g1\/k=g2) (fun _ _ e=> .inl e)).trans (h2.mono (G:=fun k=>k=g1\/k=g2) (fun _ _ e=> .inr e)) (fun _ e=> .inl e)) (fun k hk=> .inl (by rcases hk with e|e<;>subst e<;>assumption))
 obtain⟨FO,hFO⟩:∃FO:World->World->zu->Value->Value->Prop,FO=fun W=>Follows W s sv mv:=⟨_,rfl⟩
 have zjv:∀W,Follows W s sv mv=FO W:=fun W=>by rw [hFO]
 simp only [zjv] at jE hfw hfe ⊢
 have HFW:=qh hfw
 have HFE:=qh hfe
 clear hFO zjv hfw hfe
 obtain⟨R,hR⟩:∃R,R=vN c m s x d:=⟨_,rfl⟩
 have hRa:fo=false->R=(yO,1):=fun e=>by rw [hR];unfold vN;rw [if_neg (by rw [<-hfo,e];decide)]
 have hRb:fo=true->¬(0<=x.thread/\x.thread<(s.threads.length:Int))->R=(yO,50):=fun e h=>by rw [hR];unfold vN;rw [if_pos (hfo.symm.trans e),if_neg h]
 have hRc:fo=true->∀i:Nat,x.thread=(i:Int)->i<s.threads.length->R=zhT (wH c m s i x.kind x.var d):=fun e i hi hlt=>by rw [hR,zgS (hfo.symm.trans e) ⟨by omega,by omega⟩,hi,Int.toNat_natCast]
 rw [<-hR]
 rw [<-hfo] at hfits
 clear hR hfo
 obtain⟨ca,cc,rfl, -⟩:=zk.slice hc
 obtain⟨ta,qm,rfl, -⟩:=zk.slice hs.threads
 obtain⟨ma,xV,rfl, -⟩:=zk.slice hs.mem
 obtain⟨T,hT⟩:∃T,T=fun i=>wH c m s i x.kind x.var d:=⟨_,rfl⟩
 have hTi:∀i,wH c m s i x.kind x.var d=T i:=fun i=>by rw [hT]
 simp only [hTi] at jE hRc
 clear hTi hT hb hc hs
 unfold yL yY yH at hfits jE ⊢
 unfold zaR
 obtain⟨n,hn⟩:∃n,n=s.threads.length:=⟨_,rfl⟩
 rw [<-hn] at hfits jE hRb hRc ⊢
 clear hn
 generalize s.mem.length=mn at hfits jE ⊢
 generalize s.bad=bad at hfits jE ⊢
 generalize c.threads.length=cn at hfits jE ⊢
 generalize c.vars=vars at hfits jE ⊢
 generalize c.domain=dom at hfits jE ⊢
 generalize m.model=mod at hfits jE ⊢
 generalize m.bound=bnd at hfits jE ⊢
 obtain⟨kind,th,vr⟩:=x
 simp only [] at jE hRb hRc ⊢
 have HRA:=qh hRa
 have HRB:=qh hRb
 have HRC:=qh hRc
 have bV:=qh hfits
 have zsf:=qh jE
 clear hRa hRb hRc hfits jE
 obtain⟨hB,h1,h2,h3,h4,h5⟩:=zbh w (.cells #[.int .i64 vars, .int .i64 dom, .slice ca cn cc] 24) (.cells #[.int .i64 mod, .int .i64 bnd] 26) (.cells #[.slice ta n qm, .slice ma mn xV, .bool bad] 30) (.cells #[.int .i64 kind, .int .i64 th, .int .i64 vr] 32) (.cells #[.slice none 0 0, .slice none 0 0, .bool false] 30)
 have HB:=qh hB
 have H1:=qh h1
 have H2:=qh h2
 have H3:=qh h3
 have H4:=qh h4
 have H5:=qh h5
 clear hB h1 h2 h3 h4 h5
 go_enter Tryz.func25,Tryz.ntmps25
 go_upto_region 1 with fail
 generalize World.alloc (World.alloc (World.alloc (World.alloc (World.alloc w _) _) _) _) _=W at HB H1 H2 H3 H4 H5 ⊢
 obtain⟨gx,hgx⟩:∃gx,gx=w.heap.size:=⟨_,rfl⟩
 rw [<-hgx] at H1 H2 H3 H4 H5 ⊢
 have yS:=qh hgx
 clear hgx
 have xD:Hid (∀y,Below W.heap.size W y->y.cell? ⟨gx,0,none⟩=some (.int .i64 vars)/\y.cell? ⟨gx,1,none⟩=some (.int .i64 dom)/\y.cell? ⟨gx,2,none⟩=some (.slice ca cn cc)/\
   y.cell? ⟨gx+1,0,none⟩=some (.int .i64 mod)/\y.cell? ⟨gx+1,1,none⟩=some (.int .i64 bnd)/\y.cell? ⟨gx+2,0,none⟩=some (.slice ta n qm)/\y.cell? ⟨gx+2,1,none⟩=some (.slice ma mn xV)/\y.cell? ⟨gx+2,2,none⟩=some (.bool bad)/\
   y.cell? ⟨gx+3,0,none⟩=some (.int .i64 kind)/\y.cell? ⟨gx+3,1,none⟩=some (.int .i64 th)/\y.cell? ⟨gx+3,2,none⟩=some (.int .i64 vr)):=fun y hx=>
  ⟨zl hx _ _ (zi H1.out 0),zl hx _ _ (zi H1.out 1),zl hx _ _ (zi H1.out 2),zl hx _ _ (zi H2.out 0),zl hx _ _ (zi H2.out 1),zl hx _ _ (zi H3.out 0),zl hx _ _ (zi H3.out 1),zl hx _ _ (zi H3.out 2),zl hx _ _ (zi H4.out 0),zl hx _ _ (zi H4.out 1),zl hx _ _ (zi H4.out 2)⟩
 have zL:Hid (∀y,Below W.heap.size W y->_):=fun y hy=>gT (w:=w) (g:=gx+4) ((hy.block _ (zw H5.out)).trans H5.out) (HB.out.trans (hy.mono HB.out.size)) (by rw [yS.out];omega)
 obtain⟨c0,c1,c2,c3,c4,c5,c6,c7, -, -, -⟩:=xD.out W (Below.refl _ _)
 go_wp2_with fail
 refine(bV.out W HB.out).mono ?_
 rintro e W1 ⟨rfl,hb1⟩
 have HB1:=qh hb1
 clear hb1 bV c0 c1 c2 c3 c4 c5 c6 c7
 cases fo with
 |false=>
  have HR:=qh (HRA.out rfl)
  obtain⟨⟨q0,q1,q2⟩,⟨f0,f1,f2⟩,hend⟩:=zL.out W1 HB1.out
  obtain⟨hset, -,hbe⟩:=hend (.slice none 0 0) (.slice none 0 0) (.bool false)
  have zI:=qh hset
  have yE:=qh hbe
  clear hset hbe hend
  go_wp2_with fail
  (try simp only [Exit.inBlock,Exit.then])
  refine bodyPost_ret (zD rfl _ _ (gx+4) 30 _ (0,0) _ rfl zI.out Tryz.underlying30 rfl zG) rfl ?_
  exact zcH HFE.out HR.out yE.out
 |true=>
  obtain⟨c0,c1,c2,c3,c4,c5,c6,c7,c8,c9,c10⟩:=xD.out W1 HB1.out
  by_cases ht:0<=th/\th<(n:Int)
  rotate_left
  ·have HR:=qh (HRB.out rfl ht)
   by_cases h0:th<0
   ·have z0:decide (th<0)=true:=decide_eq_true h0
    clear ht h0
    obtain⟨⟨q0,q1,q2⟩,⟨f0,f1,f2⟩,hend⟩:=zL.out W1 HB1.out
    obtain⟨hset, -,hbe⟩:=hend (.slice none 0 0) (.slice none 0 0) (.bool false)
    have zI:=qh hset
    have yE:=qh hbe
    clear hset hbe hend
    go_wp2_with fail
    (try simp only [Exit.inBlock,Exit.then])
    refine bodyPost_ret (zD rfl _ _ (gx+4) 30 _ (0,0) _ rfl zI.out Tryz.underlying30 rfl zG) rfl ?_
    exact zcH HFE.out HR.out yE.out
   have z0:decide (th<0)=false:=decide_eq_false h0
   have z1:decide ((n:Int)<=th)=true:=decide_eq_true (by omega)
   clear ht h0
   obtain⟨⟨q0,q1,q2⟩,⟨f0,f1,f2⟩,hend⟩:=zL.out W1 HB1.out
   obtain⟨hset, -,hbe⟩:=hend (.slice none 0 0) (.slice none 0 0) (.bool false)
   have zI:=qh hset
   have yE:=qh hbe
   clear hset hbe hend
   go_wp2_with fail
   (try simp only [Exit.inBlock,Exit.then])
   refine bodyPost_ret (zD rfl _ _ (gx+4) 30 _ (0,0) _ rfl zI.out Tryz.underlying30 rfl zG) rfl ?_
   exact zcH HFE.out HR.out yE.out
  obtain⟨i,rfl⟩:∃i:Nat,th=(i:Int):=⟨th.toNat,by omega⟩
  have hlt:i<n:=by omega
  have z0:decide ((i:Int)<0)=false:=decide_eq_false (by omega)
  have z1:decide ((n:Int)<=(i:Int))=false:=decide_eq_false (by omega)
  have hr:=HRC.out rfl i rfl hlt
  clear ht
  go_wp2_with fail
  refine(zsf.out (by trivial) W1 (HB.out.trans (HB1.out.mono HB.out.size)) i hlt).mono ?_
  rintro e W2 ⟨hb2,⟨ht,rfl⟩|⟨S,xa,xn,xc,ya,yn,yc,ht,rfl,hst⟩⟩
  ·have HR:Hid (R=(yO,50)):=by rw [Hid,hr,ht];rfl
   clear hr ht
   have HW2:Hid (Below W.heap.size W W2):=HB1.out.trans (hb2.mono HB1.out.size)
   clear hb2 c0 c1 c2 c3 c4 c5 c6 c7 c8 c9 c10
   obtain⟨⟨p0,p1,p2⟩,⟨u0,u1,u2⟩,zcF⟩:=zgf ((HW2.out.block _ (zw H3.out)).trans H3.out)
   obtain⟨hy2,hys⟩:=zcF (.slice none 0 0) (.slice none 0 0) (.bool false)
   have jq:=qh ((hys.block (gx+4) (Nat.lt_of_lt_of_le (zw H5.out) HW2.out.size) (by omega)).trans ((HW2.out.block _ (zw H5.out)).trans H5.out))
   have HWY:=qh ((HB.out.trans (HW2.out.mono HB.out.size)).trans (hys.below (Nat.le_trans HB.out.size HW2.out.size) (fun k e=>by have:=yS.out;omega)))
   clear zcF
   go_upto_region 6 with fail
   clear p0 p1 p2 u0 u1 u2
   generalize World.setCell (World.setCell (World.setCell W2 _ _) _ _) _ _=Y at hy2 hys jq HWY ⊢
   obtain⟨y0,y1,y2⟩:=(zgf hy2).1
   obtain⟨⟨q0,q1,q2⟩,⟨f0,f1,f2⟩,hend⟩:=gT (w:=w) jq.out HWY.out (by rw [yS.out];omega)
   obtain⟨hset,hsi,hbe⟩:=hend (.slice none 0 0) (.slice none 0 0) (.bool false)
   have zI:=qh hset
   have yE:=qh hbe
   clear hset hbe hend hsi hy2 hys
   go_wp2_with fail
   (try simp only [Exit.inBlock,Exit.then])
   refine bodyPost_ret (zD rfl _ _ (gx+4) 30 _ (0,0) _ rfl zI.out Tryz.underlying30 rfl zG) rfl ?_
   exact zcH HFE.out HR.out yE.out
  ·have HR:Hid (R=(S,0)):=by rw [Hid,hr,ht];rfl
   clear hr ht
   have HW2:Hid (Below W.heap.size W W2):=HB1.out.trans (hb2.mono HB1.out.size)
   clear hb2 c0 c1 c2 c3 c4 c5 c6 c7 c8 c9 c10
   obtain⟨⟨p0,p1,p2⟩,⟨u0,u1,u2⟩,zcF⟩:=zgf ((HW2.out.block _ (zw H3.out)).trans H3.out)
   obtain⟨hy2,hys⟩:=zcF (.slice xa xn xc) (.slice ya yn yc) (.bool S.bad)
   have jq:=qh ((hys.block (gx+4) (Nat.lt_of_lt_of_le (zw H5.out) HW2.out.size) (by omega)).trans ((HW2.out.block _ (zw H5.out)).trans H5.out))
   have HWY:=qh ((HB.out.trans (HW2.out.mono HB.out.size)).trans (hys.below (Nat.le_trans HB.out.size HW2.out.size) (fun k e=>by have:=yS.out;omega)))
   have HST:=qh hst
   have HYS:=qh hys
   clear hst
   clear zcF
   go_upto_region 6 with fail
   clear p0 p1 p2 u0 u1 u2
   generalize World.setCell (World.setCell (World.setCell W2 _ _) _ _) _ _=Y at hy2 hys HYS jq HWY ⊢
   obtain⟨y0,y1,y2⟩:=(zgf hy2).1
   obtain⟨⟨q0,q1,q2⟩,⟨f0,f1,f2⟩,hend⟩:=gT (w:=w) jq.out HWY.out (by rw [yS.out];omega)
   obtain⟨hset,hsi,hbe⟩:=hend (.slice xa xn xc) (.slice ya yn yc) (.bool S.bad)
   have yC:=qh (HFW.out W1 W2 Y _ S _ _ (gx+2) (gx+4) (HB.out.trans (HB1.out.mono HB.out.size)) HST.out HYS.out hsi ⟨by rw [yS.out];omega,Nat.lt_of_lt_of_le (zw H3.out) HB1.out.size⟩ ⟨by rw [yS.out];omega,Nat.lt_of_lt_of_le (zw H5.out) HB1.out.size⟩)
   clear HST HYS
   have zI:=qh hset
   have yE:=qh hbe
   clear hset hbe hend hsi hy2 hys
   go_wp2_with fail
   (try simp only [Exit.inBlock,Exit.then])
   refine bodyPost_ret (zD rfl _ _ (gx+4) 30 _ (0,0) _ rfl zI.out Tryz.underlying30 rfl zG) rfl ?_
   exact⟨yE.out,xa,xn,xc,ya,yn,yc,by rw [HR.out];rfl,by rw [HR.out];exact yC.out⟩
end Go.Proofs.YtliajkheeniljaaGreatDoor
