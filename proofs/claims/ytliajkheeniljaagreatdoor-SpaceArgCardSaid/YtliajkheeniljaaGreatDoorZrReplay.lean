/- Steps. -/
import Derived.Test.YtliajkheeniljaaGreatDoorZrFinMadeP
import Derived.Test.YtliajkheeniljaaGreatDoorZrPDo
set_option linter.all false
namespace Go.Proofs.YtliajkheeniljaaGreatDoor
open Go.RowKit
set_option maxRecDepth 100000
set_option maxHeartbeats 16000000
def kD (c:zP) (m:zI) (d:Nat):zl->List zx->zl × Int
 |s, [] =>(s,0)
 |s,x::l=>if (jB c m s x d).2=0 then kD c m d (jB c m s x d).1 l else(yR,(jB c m s x d).2)
def uR (c:zP) (m:zI) (l:List zx) (d:Nat):zl × Int:=if jd c m then kD c m d (jl c) l else(yR,1)
def zaL (w:World) (r:zl × Int) (e:Ending) (w':World):Prop:=(∃(a b:Option Addr) (n c k f:Nat),e= .returned (.tuple #[.agg #[.slice a n c, .slice b k f, .bool r.1.bad], .int .i64 r.2])/\zY w' r.1 (.slice a n c) (.slice b k f))/\Below w.heap.size w w'
theorem zgE {c:zP} {m:zI} {d:Nat} {s:zl} {l:List zx} {i:Nat} (hi:i<l.length):kD c m d s (l.drop i)=if (jB c m s (l.getD i default) d).2=0 then kD c m d (jB c m s (l.getD i default) d).1 (l.drop (i+1)) else(yR,(jB c m s (l.getD i default) d).2):=by
 rw [List.drop_eq_getElem_cons hi,List.getD_eq_getElem?_getD,List.getElem?_eq_getElem hi];rfl
theorem zdd {y:World} {g:Nat} {a b c:Value} (hy:y.heap[g]? =some (.cells #[a,b,c] 30 (0,0))) (p q r:Value):(((y.setCell ⟨g,0,none⟩ p).setCell ⟨g,1,none⟩ q).setCell ⟨g,2,none⟩ r).heap[g]? =some (.cells #[p,q,r] 30 (0,0))/\Since (λk=>k=g) y (((y.setCell ⟨g,0,none⟩ p).setCell ⟨g,1,none⟩ q).setCell ⟨g,2,none⟩ r):=by
 have h:=zu (zu (zu hy 0 p) 1 q) 2 r
 refine⟨by simpa using h,Since.setCell (F:=λk=>k=g) (p:=⟨g,2,none⟩) (Since.setCell (F:=λk=>k=g) (p:=⟨g,1,none⟩) (Since.setCell (F:=λk=>k=g) (p:=⟨g,0,none⟩) (Since.refl _ y) (.inl rfl) _) (.inl rfl) _) (.inl rfl) _⟩
structure zc2 (w W X:World) (g gs:Nat) (s:zl) (tv mv:Value):Prop where
 since:Since (λk=>k=gs) W X
 below:Below w.heap.size w W
 lo:w.heap.size<=g/\g<gs/\gs<W.heap.size
 res:X.heap[g]? =some (.cells #[.slice none 0 0, .slice none 0 0, .bool false] 30 (0,0))
 box:X.heap[gs]? =some (.cells #[tv,mv, .bool s.bad] 30 (0,0))
 st:zY X s tv mv
section
variable {w W X Y:World} {g gs:Nat} {s t:zl} {tv mv:Value}
theorem zc2.all (h:zc2 w W X g gs s tv mv):Below w.heap.size w X:=h.below.trans (h.since.below h.below.size (λk hk=>by have:=h.lo;omega))
theorem zc2.put (h:zc2 w W X g gs s tv mv) (hb:Below X.heap.size X Y) {pv qv:Value} (hs:zY Y t pv qv):
  zc2 w W (((Y.setCell ⟨gs,0,none⟩ pv).setCell ⟨gs,1,none⟩ qv).setCell ⟨gs,2,none⟩ (.bool t.bad)) g gs t pv qv:=by
 obtain⟨a1,c1,rfl, -⟩:=zh.slice h.st.threads
 obtain⟨a2,c2,rfl, -⟩:=zh.slice h.st.mem
 have hbx:=(hb.block _ (zw h.box)).trans h.box
 have hrs:=(hb.block _ (zw h.res)).trans h.res
 obtain⟨h1,h2⟩:=zdd hbx pv qv (.bool t.bad)
 have hlo:=h.lo
 refine⟨(h.since.trans (xO (λk=>k=gs) hb) (λ_ e=> .inl e)).trans h2 (λ_ e=> .inl e),h.below,hlo,(h2.block _ (zw hrs) (by omega)).trans hrs,h1,zde hs hbx h2⟩
theorem zc2.fin (h:zc2 w W X g gs s tv mv) (hb:Below X.heap.size X Y) {pv qv:Value} (hs:zY Y t pv qv):(((Y.setCell ⟨g,0,none⟩ pv).setCell ⟨g,1,none⟩ qv).setCell ⟨g,2,none⟩ (.bool t.bad)).heap[g]? =some (.cells #[pv,qv, .bool t.bad] 30 (0,0))/\
  zY (((Y.setCell ⟨g,0,none⟩ pv).setCell ⟨g,1,none⟩ qv).setCell ⟨g,2,none⟩ (.bool t.bad)) t pv qv/\Below w.heap.size w (((Y.setCell ⟨g,0,none⟩ pv).setCell ⟨g,1,none⟩ qv).setCell ⟨g,2,none⟩ (.bool t.bad)):=by
 obtain⟨h1,h2⟩:=zdd ((hb.block _ (zw h.res)).trans h.res) pv qv (.bool t.bad)
 have hlo:=h.lo
 exact⟨h1,zde hs ((hb.block _ (zw h.res)).trans h.res) h2,(h.all.trans (hb.mono h.all.size)).trans (h2.below (Nat.le_trans h.all.size hb.size) (λk hk=>by omega))⟩
end
theorem zd1 (w:World) (c:zP) (cv:Value) (d:Nat) (hc:yO d w cv c.threads) (m:zI) (lv:Value) (l:List zx) (hl:qg w lv l):Calls Tryz.prog 34 #[yH c cv,xu m,lv] w (zaL w (uR c m l d)):=by
 obtain⟨ca,cc,rfl, -⟩:=zh.slice hc
 obtain⟨la,lc,rfl,hl63⟩:=zh.slice hl
 obtain⟨ln,hln⟩:∃n,n=l.length:=⟨_,rfl⟩
 rw [<-hln] at hl hl63 ⊢
 obtain⟨mo,hmo⟩:∃mo,mo=jd c m:=⟨_,rfl⟩
 have hmay:=λW hW=>zhp W c (.slice ca c.threads.length cc) d hW m
 rw [<-hmo] at hmay
 obtain⟨R,hR⟩:∃R,R=uR c m l d:=⟨_,rfl⟩
 obtain⟨S0,hS0⟩:∃S0,S0=jl c:=⟨_,rfl⟩
 have hR2:R=if mo then kD c m d S0 l else(yR,1):=by rw [hR,hmo,hS0];rfl
 rw [<-hR]
 have hstart:=λW hc=>zhY W c (.slice ca c.threads.length cc) d hc
 rw [<-hS0] at hstart
 have hsb:jU 33 S0:=by rw [hS0];exact ze0 c
 have hdo:=λW hc s sv mv hs hb x=>zx4 W c (.slice ca c.threads.length cc) d hc m s sv mv hs hb x
 obtain⟨C,hC⟩:∃C,C=c:=⟨_,rfl⟩
 obtain⟨M,hM⟩:∃M,M=m:=⟨_,rfl⟩
 rw [<-hC, <-hM] at hR2
 obtain⟨vars,dom,cs⟩:=c
 obtain⟨mod,bnd⟩:=m
 unfold yH xu
 unfold yH xu at hdo hmay
 unfold yH at hstart
 simp only [] at hc hmay hstart hdo ⊢
 obtain⟨cn,hcn⟩:∃cn,cn=cs.length:=⟨_,rfl⟩
 rw [<-hcn] at hc hmay hstart hdo ⊢
 rw [<-hC, <-hM] at hdo
 obtain⟨hB,h1,h2,h3⟩:=zaM w (.cells #[.int .i64 vars, .int .i64 dom, .slice ca cn cc] 24) (.cells #[.int .i64 mod, .int .i64 bnd] 26) (.cells #[.slice none 0 0, .slice none 0 0, .bool false] 30)
 have HB:=qh hB
 have H1:=qh h1
 have H2:=qh h2
 have H3:=qh h3
 have jN:=qh hc
 have HLS:=qh hl
 have zaz:=qh hmay
 have zc3:=qh hstart
 have HDO:=qh hdo
 have HSB:=qh hsb
 have HRR:=qh hR2
 have jk:=qh hln
 clear hC hM hcn hmay hstart hdo hsb hR2 hmo hR hS0 hB h1 h2 h3 hc hl hln
 go_enter Tryz.func34,Tryz.ntmps34
 go_upto_region 1 with fail
 generalize World.alloc (World.alloc (World.alloc w _) _) _=W at HB H1 H2 H3 ⊢
 obtain⟨gx,hgx⟩:∃gx,gx=w.heap.size:=⟨_,rfl⟩
 rw [<-hgx] at H1 H2 H3 ⊢
 have yS:=qh hgx
 clear hgx
 have HK:Hid (∀y,Since (λk=>gx+2<=k) W y->y.cell? ⟨gx,0,none⟩=some (.int .i64 vars)/\y.cell? ⟨gx,1,none⟩=some (.int .i64 dom)/\y.cell? ⟨gx,2,none⟩=some (.slice ca cn cc)/\y.cell? ⟨gx+1,0,none⟩=some (.int .i64 mod)/\y.cell? ⟨gx+1,1,none⟩=some (.int .i64 bnd)):=λy hy=>by
  have k1:=(hy.block _ (zw H1.out) (by omega)).trans H1.out
  have k2:=(hy.block _ (zw H2.out) (by omega)).trans H2.out
  exact⟨ze k1 0,ze k1 1,ze k1 2,ze k2 0,ze k2 1⟩
 obtain⟨c0,c1,c2,e0,e1⟩:=HK.out W (Since.refl _ _)
 go_upto_if 15 with(go_at_call 52;go_must(refine(zaz.out W (zh.below (xU.stays d) jN.out HB.out)).mono ?_);rintro e X1 ⟨rfl,hb⟩;have HB1:=qh hb;clear hb)
 clear c0 c1 c2 e0 e1
 have qM:Hid (Since (λk=>gx+2<=k) W X1):=xO _ HB1.out
 have H3X:=qh ((HB1.out.block _ (zw H3.out)).trans H3.out)
 cases mo with
 |false=>
  have hR:R=(yR,1):=HRR.out
  have hbx:=H3X.out
  obtain⟨hset,hsn⟩:=zdd hbx (.slice none 0 0) (.slice none 0 0) (.bool false)
  have hend:zaL w R (.returned (.tuple #[.agg #[.slice none 0 0, .slice none 0 0, .bool false], .int .i64 1])) (((X1.setCell ⟨gx+2,0,none⟩ (.slice none 0 0)).setCell ⟨gx+2,1,none⟩ (.slice none 0 0)).setCell ⟨gx+2,2,none⟩ (.bool false)):=by
   rw [hR]
   exact⟨⟨none,none,0,0,0,0,rfl,zcq _⟩,(HB.out.trans (HB1.out.mono HB.out.size)).trans (hsn.below (Nat.le_trans HB.out.size HB1.out.size) (λk hk=>by have:=yS.out;omega))⟩
  have zG:=qh hset
  have zR:=qh hend
  have b0:=ze hbx 0
  have b1:=ze hbx 1
  have b2:=ze hbx 2
  have f0:=zA hbx 0
  have f1:=zA hbx 1
  have f2:=zA hbx 2
  clear hset hend hbx hR hsn
  go_wp2_with fail
  refine bodyPost_ret (zy rfl _ _ (gx+2) 30 _ (0,0) _ rfl zG.out Tryz.underlying30 rfl zH) rfl ?_
  exact zR.out
 |true=>
 have HR0:Hid (R=kD C M d S0 l):=HRR.out
 obtain⟨c0,c1,c2,e0,e1⟩:=HK.out X1 qM.out
 go_upto_region 4 with(go_at_call 18;go_must(refine(zc3.out X1 (zh.below (xU.stays d) jN.out (zD HB.out HB1.out))).mono ?_);rintro e X2 ⟨⟨zv,yv,rfl,hst⟩,hb⟩;(obtain⟨za,zac,rfl, -⟩:=zh.slice hst.now.threads);(obtain⟨zb,zbc,rfl, -⟩:=zh.slice hst.now.mem);have HST:=qh hst.now;have HB2:=qh (zD HB1.out hb);have HBZ:=qh hb.size;unfold yB;clear hst hb)
 clear c0 c1 c2 e0 e1
 have hg2:gx+1+1=gx+2:=rfl
 obtain⟨gs,hgs⟩:∃g,g=X2.heap.size:=⟨_,rfl⟩
 obtain⟨n1,hn1⟩:∃n,n=S0.threads.length:=⟨_,rfl⟩
 obtain⟨n2,hn2⟩:∃n,n=S0.mem.length:=⟨_,rfl⟩
 rw [<-hn1, <-hn2] at HST ⊢
 have hL:zc2 w (X2.alloc (.cells #[.slice za n1 zac, .slice zb n2 zbc, .bool S0.bad] 30)) (X2.alloc (.cells #[.slice za n1 zac, .slice zb n2 zbc, .bool S0.bad] 30)) (gx+2) gs S0 (.slice za n1 zac) (.slice zb n2 zbc):=by
  have h3:=zw H3X.out
  have h4:=HBZ.out
  have h5:=yS.out
  have h6:=HB1.out.size
  have h7:=zw H3.out
  have h8:=HB.out.size
  have hBX:Below X2.heap.size X2 (X2.alloc (.cells #[.slice za n1 zac, .slice zb n2 zbc, .bool S0.bad] 30)):=(Below.refl _ _).alloc (Nat.le_refl _) _
  have hk3:=(HB2.out.block _ h7).trans H3.out
  refine⟨Since.refl _ _,zD HB.out (zD HB2.out hBX),⟨by omega,by omega,by simp;omega⟩,(Below.heap_alloc _ _ _ (zw hk3)).trans hk3,by rw [hgs];exact yj _ _, ?_⟩
  exact HST.out.below hBX
 have hS2:Since (λk=>gx+2<=k) W (X2.alloc (.cells #[.slice za n1 zac, .slice zb n2 zbc, .bool S0.bad] 30)):=(xO _ HB2.out).alloc _
 have HL:=qh hL
 have HS2:=qh hS2
 clear hL hS2 HST HB2 HBZ hn1 hn2 H3X HB1 qM H3 hg2
 rw [<-hgs]
 clear hgs
 generalize World.alloc X2 _=W2 at HL HS2 ⊢
 go_wp2_with fail
 go_loopg [21] ln (λgg s21 wr=>∃(i:Nat) (s:zl) (pa qa:Option Addr) (pn pc qn qc:Nat),i<=ln/\Hid (gg=ln - i)/\s21= .int .i64 i/\Hid (zc2 w W2 wr (gx+2) gs s (.slice pa pn pc) (.slice qa qn qc))/\Hid (R=kD C M d s (l.drop i))/\Hid (jU 33 s))
 case atStart=>exact⟨0,S0,za,zb,n1,zac,n2,zbc,Nat.zero_le _,rfl,rfl,HL.out,by rw [Hid,HR0.out];rfl,HSB.out⟩
 case round=>
 obtain⟨i,s,pa,qa,pn,pc,qn,qc,hi,HG,rfl,jC,HRI,HBU⟩:=hrel
 obtain⟨wo,rfl⟩:∃wo:World,wo=wr:=⟨_,rfl⟩
 clear HL
 have HSW:Hid (Since (λk=>gx+2<=k) W wo):=HS2.out.trans jC.out.since (λk hk=> .inl (by have:=jC.out.lo;omega))
 obtain⟨bd,hbd⟩:∃b,b=s.bad:=⟨_,rfl⟩
 have hbx:=jC.out.box
 rw [<-hbd] at hbx
 have b0:=ze hbx 0
 have b1:=ze hbx 1
 have b2:=ze hbx 2
 have yZ:=qh hbx
 by_cases hlt:i<ln
 rotate_left
 ·obtain rfl:ln=i:=by omega
  have hR:R=(s,0):=by rw [HRI.out,jk.out,List.drop_length];rfl
  obtain⟨hset,hs6,hb6⟩:=jC.out.fin (t:=s) (Below.refl _ _) jC.out.st
  rw [<-hbd] at hset hs6 hb6
  have hend:zaL w R (.returned (.tuple #[.agg #[.slice pa pn pc, .slice qa qn qc, .bool bd], .int .i64 0])) (((wo.setCell ⟨gx+2,0,none⟩ (.slice pa pn pc)).setCell ⟨gx+2,1,none⟩ (.slice qa qn qc)).setCell ⟨gx+2,2,none⟩ (.bool bd)):=by
   rw [hR];exact⟨⟨pa,qa,pn,pc,qn,qc,by rw [hbd],hs6⟩,hb6⟩
  have zG:=qh hset
  have zR:=qh hend
  have hrs:=jC.out.res
  have d0:=ze hrs 0
  have d1:=ze hrs 1
  have d2:=ze hrs 2
  have f0:=zA hrs 0
  have f1:=zA hrs 1
  have f2:=zA hrs 2
  clear hset hs6 hb6 hend hrs hR hbx hbd
  go_wp2_with fail
  refine bodyPost_ret (zy rfl _ _ (gx+2) 30 _ (0,0) _ rfl zG.out Tryz.underlying30 rfl zH) rfl ?_
  exact zR.out
 have qx:(i:Int)<(ln:Int):=by omega
 obtain⟨mb,mof,yg, -,x0,x1,x2⟩:=qg.part (zh.below zbp.stays HLS.out jC.out.all) i (by rw [<-jk.out];exact hlt)
 subst yg
 obtain⟨x,hx⟩:∃x,x=l.getD i default:=⟨_,rfl⟩
 rw [<-hx] at x0 x1 x2
 obtain⟨⟨t,er⟩,hdd⟩:∃p,p=jB C M s x d:=⟨_,rfl⟩
 have hstp:R=if er=0 then kD C M d t (l.drop (i+1)) else(yR,er):=by
  rw [HRI.out,zgE (by rw [<-jk.out];exact hlt), <-hx, <-hdd]
 have hbt:jU 33 t:=by have:=zjm (c:=C) (m:=M) (s:=s) (x:=x) (d:=d);rw [<-hdd] at this;exact this
 have hst:=jC.out.st
 have hD:=λy (hy:Below wo.heap.size wo y)=>HDO.out y (zh.below (xU.stays d) jN.out (zD jC.out.all hy)) s _ _ (hst.below hy) (λj hj=>by have:=HBU.out j hj;omega) x
 rw [<-hdd] at hD
 unfold yB zbO at hD
 rw [<-hbd] at hD
 have hpn:s.threads.length=pn:=by obtain⟨a,c,e, -⟩:=zh.slice hst.threads;cases e;rfl
 have HDD:=qh hD
 have zc4:=qh hstp
 have HBT:=qh hbt
 clear hD hstp hbt hst hdd hx hbx hbd hpn
 obtain⟨xk,xt,xv⟩:=x
 simp only [] at x0 x1 x2 HDD
 go_upto_region 8 with fail
 have hA:Below wo.heap.size wo (wo.alloc (.cells #[.int .i64 xk, .int .i64 xt, .int .i64 xv] 32)):=(Below.refl _ _).alloc (Nat.le_refl _) _
 have HDA:=qh (HDD.out _ hA)
 have HAA:=qh hA
 have HHL:Hid (∀Y,Below wo.heap.size wo Y->(Y.heap[gs]? =some (.cells #[.slice pa pn pc, .slice qa qn qc, .bool bd] 30 (0,0)))):=λY hY=>(hY.block _ (zw yZ.out)).trans yZ.out
 have HMB:=qh (yj wo (.cells #[.int .i64 xk, .int .i64 xt, .int .i64 xv] 32))
 have zuf:Hid (Since (λk=>gx+2<=k) W (wo.alloc (.cells #[.int .i64 xk, .int .i64 xt, .int .i64 xv] 32))):=HSW.out.alloc _
 clear hA HDD b0 b1 b2 x0 x1 x2
 generalize World.alloc wo _=W3 at HDA HAA HMB zuf ⊢
 generalize wo.heap.size=gm at HMB ⊢
 obtain⟨c0,c1,c2,e0,e1⟩:=HK.out W3 zuf.out
 have hb3:=HHL.out W3 HAA.out
 have b0:=ze hb3 0
 have b1:=ze hb3 1
 have b2:=ze hb3 2
 have m0:=ze HMB.out 0
 have m1:=ze HMB.out 1
 have m2:=ze HMB.out 2
 clear hb3
 go_upto_region 9 with(go_at_call 25;go_must(refine HDA.out.mono ?_);rintro e Y ⟨hb,ra,rn,rc,ua,un,uc,rfl,hfo⟩;have jh:=qh hb;have HFO:=qh hfo;have hby:=(hb.block _ (zw (HHL.out W3 HAA.out))).trans (HHL.out W3 HAA.out);have g0:=ze hby 0;have g1:=ze hby 1;have g2:=ze hby 2;have g3:=zA hby 0;have g4:=zA hby 1;have g5:=zA hby 2;clear hb hfo hby)
 have zzA:=HFO.out.now (jC.out.st.below HAA.out)
 have hput:=jC.out.put (zD HAA.out jh.out) zzA
 have vG:=qh hput
 clear zzA hput HFO HDA HHL HMB zuf HAA jh yZ jC c0 c1 c2 e0 e1 b0 b1 b2 m0 m1 m2 g0 g1 g2 g3 g4 g5
 generalize World.setCell (World.setCell (World.setCell Y _ _) _ _) _ _=X5 at vG ⊢
 by_cases her:er=0
 ·subst her
  have zug:Hid (R=kD C M d t (l.drop (i+1))):=by rw [Hid,zc4.out,if_pos rfl]
  go_wp2_with fail
  go_roundg (ln - (i+1))
  case measure=>rw [HG.out];omega
  case rel=>exact⟨i+1,t,ra,ua,rn,rc,un,uc,by omega,rfl,by simp,vG.out,zug.out,HBT.out⟩
 have hR:R=(yR,er):=by rw [zc4.out,if_neg her]
 obtain⟨hset,hs6,hb6⟩:=vG.out.fin (t:=yR) (pv:= .slice none 0 0) (qv:= .slice none 0 0) (Below.refl _ _) (zcq _)
 have hend:zaL w R (.returned (.tuple #[.agg #[.slice none 0 0, .slice none 0 0, .bool false], .int .i64 er])) (((X5.setCell ⟨gx+2,0,none⟩ (.slice none 0 0)).setCell ⟨gx+2,1,none⟩ (.slice none 0 0)).setCell ⟨gx+2,2,none⟩ (.bool false)):=by
  rw [hR];exact⟨⟨none,none,0,0,0,0,rfl,hs6⟩,hb6⟩
 have zG:=qh hset
 have zR:=qh hend
 have hbx:=vG.out.res
 have b0:=ze hbx 0
 have b1:=ze hbx 1
 have b2:=ze hbx 2
 have f0:=zA hbx 0
 have f1:=zA hbx 1
 have f2:=zA hbx 2
 have z5C:(er !=0)=true:=by simpa using her
 clear hset hs6 hb6 hend hbx hR
 go_wp2_with fail
 (try simp only [Exit.inBlock,Exit.then])
 refine bodyPost_ret (zy rfl _ _ (gx+2) 30 _ (0,0) _ rfl zG.out Tryz.underlying30 rfl zH) rfl ?_
 exact zR.out
theorem zlP (w:World) (c:zP) (cv:Value) (d:Nat) (hc:yO d w cv c.threads) (m:zI) (lv:Value) (l:List zx) (hl:qg w lv l):Calls Tryz.prog 35 #[yH c cv,xu m,lv] w (zaL w (uR c m l d)):=by
 obtain⟨ca,cc,rfl, -⟩:=zh.slice hc
 obtain⟨la,lc,rfl,hl63⟩:=zh.slice hl
 obtain⟨ln,hln⟩:∃n,n=l.length:=⟨_,rfl⟩
 rw [<-hln] at hl hl63 ⊢
 obtain⟨mo,hmo⟩:∃mo,mo=jd c m:=⟨_,rfl⟩
 have hmay:=zex c ca cc d m
 rw [<-hmo] at hmay
 obtain⟨R,hR⟩:∃R,R=uR c m l d:=⟨_,rfl⟩
 obtain⟨S0,hS0⟩:∃S0,S0=jl c:=⟨_,rfl⟩
 have hR2:R=if mo then kD c m d S0 l else(yR,1):=by rw [hR,hmo,hS0];rfl
 rw [<-hR]
 have hstart:=λW hc=>zrl W c (.slice ca c.threads.length cc) d hc
 rw [<-hS0] at hstart
 have hsb:jU 33 S0:=by rw [hS0];exact ze0 c
 have hdo:=λW hc s sv mv hs hb x=>zqk W c (.slice ca c.threads.length cc) d hc m s sv mv hs hb x
 obtain⟨C,hC⟩:∃C,C=c:=⟨_,rfl⟩
 obtain⟨M,hM⟩:∃M,M=m:=⟨_,rfl⟩
 rw [<-hC, <-hM] at hR2
 obtain⟨vars,dom,cs⟩:=c
 obtain⟨mod,bnd⟩:=m
 unfold yH xu
 unfold yH xu at hdo
 unfold yH at hstart
 simp only [] at hc hmay hstart hdo ⊢
 obtain⟨cn,hcn⟩:∃cn,cn=cs.length:=⟨_,rfl⟩
 rw [<-hcn] at hc hmay hstart hdo ⊢
 rw [<-hC, <-hM] at hdo
 obtain⟨hB,h1,h2,h3⟩:=zaM w (.cells #[.int .i64 vars, .int .i64 dom, .slice ca cn cc] 24) (.cells #[.int .i64 mod, .int .i64 bnd] 26) (.cells #[.slice none 0 0, .slice none 0 0, .bool false] 30)
 have HB:=qh hB
 have H1:=qh h1
 have H2:=qh h2
 have H3:=qh h3
 have jN:=qh hc
 have HLS:=qh hl
 have zaz:=qh hmay
 have zc3:=qh hstart
 have HDO:=qh hdo
 have HSB:=qh hsb
 have HRR:=qh hR2
 have jk:=qh hln
 clear hC hM hcn hmay hstart hdo hsb hR2 hmo hR hS0 hB h1 h2 h3 hc hl hln
 go_enter Tryz.func35,Tryz.ntmps35
 go_upto_region 1 with fail
 generalize World.alloc (World.alloc (World.alloc w _) _) _=W at HB H1 H2 H3 ⊢
 obtain⟨gx,hgx⟩:∃gx,gx=w.heap.size:=⟨_,rfl⟩
 rw [<-hgx] at H1 H2 H3 ⊢
 have yS:=qh hgx
 clear hgx
 have HK:Hid (∀y,Since (λk=>gx+2<=k) W y->y.cell? ⟨gx,0,none⟩=some (.int .i64 vars)/\y.cell? ⟨gx,1,none⟩=some (.int .i64 dom)/\y.cell? ⟨gx,2,none⟩=some (.slice ca cn cc)/\y.cell? ⟨gx+1,0,none⟩=some (.int .i64 mod)/\y.cell? ⟨gx+1,1,none⟩=some (.int .i64 bnd)):=λy hy=>by
  have k1:=(hy.block _ (zw H1.out) (by omega)).trans H1.out
  have k2:=(hy.block _ (zw H2.out) (by omega)).trans H2.out
  exact⟨ze k1 0,ze k1 1,ze k1 2,ze k2 0,ze k2 1⟩
 obtain⟨c0,c1,c2,e0,e1⟩:=HK.out W (Since.refl _ _)
 go_upto_if 15 with(go_at_call 58;go_must(refine(zaz.out W (zh.below (xU.stays d) jN.out HB.out)).mono ?_);rintro e X1 ⟨rfl,hb⟩;have HB1:=qh hb;clear hb)
 clear c0 c1 c2 e0 e1
 have qM:Hid (Since (λk=>gx+2<=k) W X1):=xO _ HB1.out
 have H3X:=qh ((HB1.out.block _ (zw H3.out)).trans H3.out)
 cases mo with
 |false=>
  have hR:R=(yR,1):=HRR.out
  have hbx:=H3X.out
  obtain⟨hset,hsn⟩:=zdd hbx (.slice none 0 0) (.slice none 0 0) (.bool false)
  have hend:zaL w R (.returned (.tuple #[.agg #[.slice none 0 0, .slice none 0 0, .bool false], .int .i64 1])) (((X1.setCell ⟨gx+2,0,none⟩ (.slice none 0 0)).setCell ⟨gx+2,1,none⟩ (.slice none 0 0)).setCell ⟨gx+2,2,none⟩ (.bool false)):=by
   rw [hR]
   exact⟨⟨none,none,0,0,0,0,rfl,zcq _⟩,(HB.out.trans (HB1.out.mono HB.out.size)).trans (hsn.below (Nat.le_trans HB.out.size HB1.out.size) (λk hk=>by have:=yS.out;omega))⟩
  have zG:=qh hset
  have zR:=qh hend
  have b0:=ze hbx 0
  have b1:=ze hbx 1
  have b2:=ze hbx 2
  have f0:=zA hbx 0
  have f1:=zA hbx 1
  have f2:=zA hbx 2
  clear hset hend hbx hR hsn
  go_wp2_with fail
  refine bodyPost_ret (zy rfl _ _ (gx+2) 30 _ (0,0) _ rfl zG.out Tryz.underlying30 rfl zH) rfl ?_
  exact zR.out
 |true=>
 have HR0:Hid (R=kD C M d S0 l):=HRR.out
 obtain⟨c0,c1,c2,e0,e1⟩:=HK.out X1 qM.out
 go_upto_region 4 with(go_at_call 19;go_must(refine(zc3.out X1 (zh.below (xU.stays d) jN.out (zD HB.out HB1.out))).mono ?_);rintro e X2 ⟨⟨zv,yv,rfl,hst⟩,hb⟩;(obtain⟨za,zac,rfl, -⟩:=zh.slice hst.threads);(obtain⟨zb,zbc,rfl, -⟩:=zh.slice hst.mem);have HST:=qh hst;have HB2:=qh (zD HB1.out hb);have HBZ:=qh hb.size;unfold yB;clear hst hb)
 clear c0 c1 c2 e0 e1
 have hg2:gx+1+1=gx+2:=rfl
 obtain⟨gs,hgs⟩:∃g,g=X2.heap.size:=⟨_,rfl⟩
 obtain⟨n1,hn1⟩:∃n,n=S0.threads.length:=⟨_,rfl⟩
 obtain⟨n2,hn2⟩:∃n,n=S0.mem.length:=⟨_,rfl⟩
 rw [<-hn1, <-hn2] at HST ⊢
 have hL:zc2 w (X2.alloc (.cells #[.slice za n1 zac, .slice zb n2 zbc, .bool S0.bad] 30)) (X2.alloc (.cells #[.slice za n1 zac, .slice zb n2 zbc, .bool S0.bad] 30)) (gx+2) gs S0 (.slice za n1 zac) (.slice zb n2 zbc):=by
  have h3:=zw H3X.out
  have h4:=HBZ.out
  have h5:=yS.out
  have h6:=HB1.out.size
  have h7:=zw H3.out
  have h8:=HB.out.size
  have hBX:Below X2.heap.size X2 (X2.alloc (.cells #[.slice za n1 zac, .slice zb n2 zbc, .bool S0.bad] 30)):=(Below.refl _ _).alloc (Nat.le_refl _) _
  have hk3:=(HB2.out.block _ h7).trans H3.out
  refine⟨Since.refl _ _,zD HB.out (zD HB2.out hBX),⟨by omega,by omega,by simp;omega⟩,(Below.heap_alloc _ _ _ (zw hk3)).trans hk3,by rw [hgs];exact yj _ _, ?_⟩
  exact HST.out.below hBX
 have hS2:Since (λk=>gx+2<=k) W (X2.alloc (.cells #[.slice za n1 zac, .slice zb n2 zbc, .bool S0.bad] 30)):=(xO _ HB2.out).alloc _
 have HL:=qh hL
 have HS2:=qh hS2
 clear hL hS2 HST HB2 HBZ hn1 hn2 H3X HB1 qM H3 hg2
 rw [<-hgs]
 clear hgs
 generalize World.alloc X2 _=W2 at HL HS2 ⊢
 go_wp2_with fail
 go_loopg [9] ln (λgg s21 wr=>∃(i:Nat) (s:zl) (pa qa:Option Addr) (pn pc qn qc:Nat),i<=ln/\Hid (gg=ln - i)/\s21= .int .i64 i/\Hid (zc2 w W2 wr (gx+2) gs s (.slice pa pn pc) (.slice qa qn qc))/\Hid (R=kD C M d s (l.drop i))/\Hid (jU 33 s))
 case atStart=>exact⟨0,S0,za,zb,n1,zac,n2,zbc,Nat.zero_le _,rfl,rfl,HL.out,by rw [Hid,HR0.out];rfl,HSB.out⟩
 case round=>
 obtain⟨i,s,pa,qa,pn,pc,qn,qc,hi,HG,rfl,jC,HRI,HBU⟩:=hrel
 obtain⟨wo,rfl⟩:∃wo:World,wo=wr:=⟨_,rfl⟩
 clear HL
 have HSW:Hid (Since (λk=>gx+2<=k) W wo):=HS2.out.trans jC.out.since (λk hk=> .inl (by have:=jC.out.lo;omega))
 obtain⟨bd,hbd⟩:∃b,b=s.bad:=⟨_,rfl⟩
 have hbx:=jC.out.box
 rw [<-hbd] at hbx
 have b0:=ze hbx 0
 have b1:=ze hbx 1
 have b2:=ze hbx 2
 have yZ:=qh hbx
 by_cases hlt:i<ln
 rotate_left
 ·obtain rfl:ln=i:=by omega
  have hR:R=(s,0):=by rw [HRI.out,jk.out,List.drop_length];rfl
  obtain⟨hset,hs6,hb6⟩:=jC.out.fin (t:=s) (Below.refl _ _) jC.out.st
  rw [<-hbd] at hset hs6 hb6
  have hend:zaL w R (.returned (.tuple #[.agg #[.slice pa pn pc, .slice qa qn qc, .bool bd], .int .i64 0])) (((wo.setCell ⟨gx+2,0,none⟩ (.slice pa pn pc)).setCell ⟨gx+2,1,none⟩ (.slice qa qn qc)).setCell ⟨gx+2,2,none⟩ (.bool bd)):=by
   rw [hR];exact⟨⟨pa,qa,pn,pc,qn,qc,by rw [hbd],hs6⟩,hb6⟩
  have zG:=qh hset
  have zR:=qh hend
  have hrs:=jC.out.res
  have d0:=ze hrs 0
  have d1:=ze hrs 1
  have d2:=ze hrs 2
  have f0:=zA hrs 0
  have f1:=zA hrs 1
  have f2:=zA hrs 2
  clear hset hs6 hb6 hend hrs hR hbx hbd
  go_wp2_with fail
  refine bodyPost_ret (zy rfl _ _ (gx+2) 30 _ (0,0) _ rfl zG.out Tryz.underlying30 rfl zH) rfl ?_
  exact zR.out
 have qx:(i:Int)<(ln:Int):=by omega
 obtain⟨mb,mof,yg, -,x0,x1,x2⟩:=qg.part (zh.below zbp.stays HLS.out jC.out.all) i (by rw [<-jk.out];exact hlt)
 subst yg
 obtain⟨x,hx⟩:∃x,x=l.getD i default:=⟨_,rfl⟩
 rw [<-hx] at x0 x1 x2
 obtain⟨⟨t,er⟩,hdd⟩:∃p,p=jB C M s x d:=⟨_,rfl⟩
 have hstp:R=if er=0 then kD C M d t (l.drop (i+1)) else(yR,er):=by
  rw [HRI.out,zgE (by rw [<-jk.out];exact hlt), <-hx, <-hdd]
 have hbt:jU 33 t:=by have:=zjm (c:=C) (m:=M) (s:=s) (x:=x) (d:=d);rw [<-hdd] at this;exact this
 have hst:=jC.out.st
 have hD:=λy (hy:Below wo.heap.size wo y)=>HDO.out y (zh.below (xU.stays d) jN.out (zD jC.out.all hy)) s _ _ (hst.below hy) (λj hj=>by have:=HBU.out j hj;omega) x
 rw [<-hdd] at hD
 unfold yB zbO at hD
 rw [<-hbd] at hD
 have hpn:s.threads.length=pn:=by obtain⟨a,c,e, -⟩:=zh.slice hst.threads;cases e;rfl
 have HDD:=qh hD
 have zc4:=qh hstp
 have HBT:=qh hbt
 clear hD hstp hbt hst hdd hx hbx hbd hpn
 obtain⟨xk,xt,xv⟩:=x
 simp only [] at x0 x1 x2 HDD
 have C7:Hid (∀y,Below wo.heap.size wo y->y.cell? ⟨gx,0,none⟩=some (.int .i64 vars)/\y.cell? ⟨gx,1,none⟩=some (.int .i64 dom)/\y.cell? ⟨gx,2,none⟩=some (.slice ca cn cc)/\y.cell? ⟨gx+1,0,none⟩=some (.int .i64 mod)/\y.cell? ⟨gx+1,1,none⟩=some (.int .i64 bnd)/\
   y.cell? ⟨gs,0,none⟩=some (.slice pa pn pc)/\y.cell? ⟨gs,1,none⟩=some (.slice qa qn qc)/\y.cell? ⟨gs,2,none⟩=some (.bool bd)/\y.cell? ⟨mb,mof+i*3,none⟩=some (.int .i64 xk)/\y.cell? ⟨mb,mof+i*3+1,none⟩=some (.int .i64 xt)/\y.cell? ⟨mb,mof+i*3+2,none⟩=some (.int .i64 xv)):=λy hy=>by
  obtain⟨c0,c1,c2,e0,e1⟩:=HK.out y (HSW.out.trans (xO (λ_=>False) hy) (λ_ e=>e.elim))
  exact⟨c0,c1,c2,e0,e1,zi hy _ _ b0,zi hy _ _ b1,zi hy _ _ b2,zi hy _ _ x0,zi hy _ _ x1,zi hy _ _ x2⟩
 clear b0 b1 b2 x0 x1 x2
 go_upto_region 7 with fail
 go_cut [10,11] (λs10 s11 w'=>∃(g:Nat) (a b:Option Addr) (n c k f:Nat),s10= .pointer (some ⟨g,0,none⟩)/\s11= .int .i64 er/\Hid (w'.heap[g]? =some (.cells #[.slice a n c, .slice b k f, .bool t.bad] 30 (0,0)))/\Hid (zY w' t (.slice a n c) (.slice b k f))/\Hid (Below wo.heap.size wo w'))
 case first=>
  refine qL (S:=λx=>Below wo.heap.size wo x) (Below.refl _ _).drew (λ_=> ?_)
  obtain⟨V1a,hV1⟩:∃V1,V1=wo.drew:=⟨_,rfl⟩
  have zc5:Hid (Below wo.heap.size wo V1a):=by rw [hV1];exact(Below.refl _ _).drew
  rw [<-hV1]
  clear hV1
  refine zC 0 C7.out (zc5.out) ?_
  refine zC 1 C7.out (zc5.out) ?_
  refine zC 2 C7.out (zc5.out) ?_
  refine zC 3 zO (zc5.out) ?_
  refine zC 4 zO (zc5.out) ?_
  refine zC 5 zO (zc5.out) ?_
  refine zC 6 C7.out (zc5.out) ?_
  refine wpAnyH_ready (rs:= [7,11]) (by kernel_rfl) (by simp) ?_
  refine AllReadyH.cons rfl (λK hK=> ?_) (AllReadyH.cons rfl (λK hK=> ?_) AllReadyH.nil)
  ·skip
   go_simp
   refine(HDD.out V1a (zc5.out)).mono ?_
   rintro e Ya1 ⟨⟨ra,rn,rc,ua,un,uc,bs,rfl,ho⟩,hb⟩
   have hs:=ho.state t.bad
   unfold yB
   clear ho
   have z2D:=qh hs
   have zjn:=qh (zD zc5.out hb)
   clear hs hb
   refine hK.out _ _ zjn.out (λ_=> ?_)
   clear hK K
   refine zC 8 zO (zjn.out) ?_
   refine zC 9 zO (zjn.out) ?_
   refine zC 10 zO (zjn.out) ?_
   refine yw 11 rfl (λK hK=> ?_)
   go_simp
   have hz:=yj Ya1 (.cells #[.slice none 0 0, .slice none 0 0, .bool false] 30)
   have hb:=(Below.refl Ya1.heap.size Ya1).alloc (Nat.le_refl _) (.cells #[.slice none 0 0, .slice none 0 0, .bool false] 30)
   have HGL:Hid (wo.heap.size<=Ya1.heap.size):=(zjn.out).size
   have zwy:=qh (z2D.out.below hb)
   have zps:=qh (zD zjn.out hb)
   clear hb
   refine hK.out _ _ zps.out (λ_=> ?_)
   obtain⟨gsa,hgs⟩:∃g,g=Ya1.heap.size:=⟨_,rfl⟩
   rw [<-hgs] at hz HGL ⊢
   clear hgs
   generalize World.alloc Ya1 _=Ya3 at hz zwy zps ⊢
   have zdf:=qh hz
   clear hz
   clear hK K
   refine yw 12 rfl (λK hK=> ?_)
   have d0:=ze zdf.out 0
   have d1:=ze zdf.out 1
   have d2:=ze zdf.out 2
   have f0:=zA zdf.out 0
   have f1:=zA zdf.out 1
   have f2:=zA zdf.out 2
   have zc6:=qh (qW (cs:= [.slice none 0 0, .slice none 0 0, .bool false]) [.slice ra rn rc, .slice ua un uc, .bool t.bad] rfl zdf.out)
   have hsi:=xR (g:=gsa) [.slice ra rn rc, .slice ua un uc, .bool t.bad] Ya3 0
   have ze1:=qh (zde zwy.out zdf.out hsi)
   have zad:Hid (Below wo.heap.size wo (yA Ya3 gsa 0 [.slice ra rn rc, .slice ua un uc, .bool t.bad])):=(zps.out).trans (hsi.below (zps.out).size (λk hk=>by have:=HGL.out;omega))
   clear hsi HGL
   go_simp
   clear d0 d1 d2 f0 f1 f2
   refine hK.out _ (yA Ya3 gsa 0 [.slice ra rn rc, .slice ua un uc, .bool t.bad]) zad.out (λ_=> ?_)
   generalize yA Ya3 gsa 0 _=Y9a at zc6 ze1 zad ⊢
   clear hK K
   refine zC 13 zO (zad.out) ?_
   refine xE ?_
   go_wp2_with fail
   go_meet
   case rel=>exact⟨gsa,ra,ua,rn,rc,un,uc,rfl,rfl,zc6.out,ze1.out,zad.out⟩
  skip
  go_simp
  have hz:=yj V1a (.cells #[.slice none 0 0, .slice none 0 0, .bool false] 30)
  have hb:=(Below.refl V1a.heap.size V1a).alloc (Nat.le_refl _) (.cells #[.slice none 0 0, .slice none 0 0, .bool false] 30)
  have HGL:Hid (wo.heap.size<=V1a.heap.size):=(zc5.out).size
  have zpt:=qh (zD zc5.out hb)
  clear hb
  refine hK.out _ _ zpt.out (λ_=> ?_)
  obtain⟨gsa,hgs⟩:∃g,g=V1a.heap.size:=⟨_,rfl⟩
  rw [<-hgs] at hz HGL ⊢
  clear hgs
  generalize World.alloc V1a _=Ya5 at hz zpt ⊢
  have zw1:=qh hz
  clear hz
  clear hK K
  refine yw 7 rfl (λK hK=> ?_)
  go_simp
  refine(HDD.out Ya5 (zpt.out)).mono ?_
  rintro e Ya7 ⟨⟨ra,rn,rc,ua,un,uc,bs,rfl,ho⟩,hb⟩
  have hs:=ho.state t.bad
  unfold yB
  clear ho
  have zdg:=qh ((hb.block gsa (zw zw1.out)).trans zw1.out)
  have z2E:=qh hs
  have zjo:=qh (zD zpt.out hb)
  clear hs hb
  refine hK.out _ _ zjo.out (λ_=> ?_)
  clear hK K
  refine zC 8 zO (zjo.out) ?_
  refine zC 9 zO (zjo.out) ?_
  refine zC 10 zO (zjo.out) ?_
  refine yw 12 rfl (λK hK=> ?_)
  have d0:=ze zdg.out 0
  have d1:=ze zdg.out 1
  have d2:=ze zdg.out 2
  have f0:=zA zdg.out 0
  have f1:=zA zdg.out 1
  have f2:=zA zdg.out 2
  have zc6:=qh (qW (cs:= [.slice none 0 0, .slice none 0 0, .bool false]) [.slice ra rn rc, .slice ua un uc, .bool t.bad] rfl zdg.out)
  have hsi:=xR (g:=gsa) [.slice ra rn rc, .slice ua un uc, .bool t.bad] Ya7 0
  have ze1:=qh (zde z2E.out zdg.out hsi)
  have zad:Hid (Below wo.heap.size wo (yA Ya7 gsa 0 [.slice ra rn rc, .slice ua un uc, .bool t.bad])):=(zjo.out).trans (hsi.below (zjo.out).size (λk hk=>by have:=HGL.out;omega))
  clear hsi HGL
  go_simp
  clear d0 d1 d2 f0 f1 f2
  refine hK.out _ (yA Ya7 gsa 0 [.slice ra rn rc, .slice ua un uc, .bool t.bad]) zad.out (λ_=> ?_)
  generalize yA Ya7 gsa 0 _=Y9a at zc6 ze1 zad ⊢
  clear hK K
  refine zC 13 zO (zad.out) ?_
  refine xE ?_
  go_wp2_with fail
  go_meet
  case rel=>exact⟨gsa,ra,ua,rn,rc,un,uc,rfl,rfl,zc6.out,ze1.out,zad.out⟩
 case rest=>
 obtain⟨gt,ra,ua,rn,rc,un,uc,rfl,rfl,zc6,ze1,zad⟩:=hcut
 obtain⟨Y9a,rfl⟩:∃Y:World,Y=wc:=⟨_,rfl⟩
 have pV:=(zad.out.block _ (zw yZ.out)).trans yZ.out
 have g0:=ze pV 0
 have g1:=ze pV 1
 have g2:=ze pV 2
 have g3:=zA pV 0
 have g4:=zA pV 1
 have g5:=zA pV 2
 have z0:=ze zc6.out 0
 have z1:=ze zc6.out 1
 have z2:=ze zc6.out 2
 have hput:=jC.out.put zad.out ze1.out
 have vG:=qh hput
 have HR3:Hid (∀a b c:Nat,Y9a.heap[gx+2]? =some (.cells #[.slice none 0 0, .slice none 0 0, .bool false] 30 (0,0))/\(a=b->b=c->a=c)):=λa b c=>⟨(zad.out.block _ (zw jC.out.res)).trans jC.out.res,λh1 h2=>h1.trans h2⟩
 clear hput pV HDD yZ C7
 by_cases her:er=0
 ·subst her
  have zug:Hid (R=kD C M d t (l.drop (i+1))):=by rw [Hid,zc4.out,if_pos rfl]
  clear zc6 ze1 zad jC HR3
  go_wp2_with fail
  go_roundg (ln - (i+1))
  case measure=>rw [HG.out];omega
  case rel=>exact⟨i+1,t,ra,ua,rn,rc,un,uc,by omega,rfl,by simp,vG.out,zug.out,HBT.out⟩
 have hR:R=(yR,er):=by rw [zc4.out,if_neg her]
 obtain⟨hset,hs6,hb6⟩:=jC.out.fin (t:=yR) (pv:= .slice none 0 0) (qv:= .slice none 0 0) zad.out (zcq _)
 have hend:zaL w R (.returned (.tuple #[.agg #[.slice none 0 0, .slice none 0 0, .bool false], .int .i64 er])) (((Y9a.setCell ⟨gx+2,0,none⟩ (.slice none 0 0)).setCell ⟨gx+2,1,none⟩ (.slice none 0 0)).setCell ⟨gx+2,2,none⟩ (.bool false)):=by
  rw [hR];exact⟨⟨none,none,0,0,0,0,rfl,hs6⟩,hb6⟩
 have zG:=qh hset
 have zR:=qh hend
 have hbx:=(HR3.out 0 0 0).1
 have b0:=ze hbx 0
 have b1:=ze hbx 1
 have b2:=ze hbx 2
 have f0:=zA hbx 0
 have f1:=zA hbx 1
 have f2:=zA hbx 2
 have z5C:(er !=0)=true:=by simpa using her
 clear hset hs6 hb6 hend hbx hR zc6 ze1 zad jC vG HR3
 go_wp2_with fail
 (try simp only [Exit.inBlock,Exit.then])
 refine bodyPost_ret (zy rfl _ _ (gx+2) 30 _ (0,0) _ rfl zG.out Tryz.underlying30 rfl zH) rfl ?_
 exact zR.out
