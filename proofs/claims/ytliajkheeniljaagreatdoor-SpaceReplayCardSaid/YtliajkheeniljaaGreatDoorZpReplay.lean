/- Steps. -/
import Derived.Test.YtliajkheeniljaaGreatDoorZpPDo
import Derived.Test.YtliajkheeniljaaGreatDoorZpSmallW
set_option linter.all false
namespace Go.Proofs.YtliajkheeniljaaGreatDoor
open Go.RowKit
set_option maxRecDepth 100000
set_option maxHeartbeats 16000000
def vC (c:zI) (m:zF) (d:Nat):zl->List zq->zl × Int
 |s, [] =>(s,0)
 |s,x::l=>if (qC c m s x d).2=0 then vC c m d (qC c m s x d).1 l else(yH,(qC c m s x d).2)
def jA (c:zI) (m:zF) (l:List zq) (d:Nat):zl × Int:=if vO c m then vC c m d (qJ c) l else(yH,1)
def zaJ (w:World) (r:zl × Int) (e:Ending) (w':World):Prop:=(∃(a b:Option Addr) (n c k f:Nat),e= .returned (.tuple #[.agg #[.slice a n c, .slice b k f, .bool r.1.bad], .int .i64 r.2])/\zY w' r.1 (.slice a n c) (.slice b k f))/\Below w.heap.size w w'
theorem zgr {c:zI} {m:zF} {d:Nat} {s:zl} {l:List zq} {i:Nat} (hi:i<l.length):vC c m d s (l.drop i)=if (qC c m s (l.getD i default) d).2=0 then vC c m d (qC c m s (l.getD i default) d).1 (l.drop (i+1)) else(yH,(qC c m s (l.getD i default) d).2):=by
 rw [List.drop_eq_getElem_cons hi,List.getD_eq_getElem?_getD,List.getElem?_eq_getElem hi];rfl
theorem zcL {y:World} {g:Nat} {a b c:Value} (hy:y.heap[g]? =some (.cells #[a,b,c] 30 (0,0))) (p q r:Value):(((y.setCell ⟨g,0,none⟩ p).setCell ⟨g,1,none⟩ q).setCell ⟨g,2,none⟩ r).heap[g]? =some (.cells #[p,q,r] 30 (0,0))/\Since (λk=>k=g) y (((y.setCell ⟨g,0,none⟩ p).setCell ⟨g,1,none⟩ q).setCell ⟨g,2,none⟩ r):=by
 have h:=zw (zw (zw hy 0 p) 1 q) 2 r
 refine⟨by simpa using h,Since.setCell (F:=λk=>k=g) (p:=⟨g,2,none⟩) (Since.setCell (F:=λk=>k=g) (p:=⟨g,1,none⟩) (Since.setCell (F:=λk=>k=g) (p:=⟨g,0,none⟩) (Since.refl _ y) (.inl rfl) _) (.inl rfl) _) (.inl rfl) _⟩
structure zcq (w W X:World) (g gs:Nat) (s:zl) (tv mv:Value):Prop where
 since:Since (λk=>k=gs) W X
 below:Below w.heap.size w W
 lo:w.heap.size<=g/\g<gs/\gs<W.heap.size
 res:X.heap[g]? =some (.cells #[.slice none 0 0, .slice none 0 0, .bool false] 30 (0,0))
 box:X.heap[gs]? =some (.cells #[tv,mv, .bool s.bad] 30 (0,0))
 st:zY X s tv mv
section
variable {w W X Y:World} {g gs:Nat} {s t:zl} {tv mv:Value}
theorem zcq.all (h:zcq w W X g gs s tv mv):Below w.heap.size w X:=h.below.trans (h.since.below h.below.size (λk hk=>by have:=h.lo;omega))
theorem zcq.put (h:zcq w W X g gs s tv mv) (hb:Below X.heap.size X Y) {pv qv:Value} (hs:zY Y t pv qv):
  zcq w W (((Y.setCell ⟨gs,0,none⟩ pv).setCell ⟨gs,1,none⟩ qv).setCell ⟨gs,2,none⟩ (.bool t.bad)) g gs t pv qv:=by
 obtain⟨a1,c1,rfl, -⟩:=zh.slice h.st.threads
 obtain⟨a2,c2,rfl, -⟩:=zh.slice h.st.mem
 have hbx:=(hb.block _ (zx h.box)).trans h.box
 have hrs:=(hb.block _ (zx h.res)).trans h.res
 obtain⟨h1,h2⟩:=zcL hbx pv qv (.bool t.bad)
 have hlo:=h.lo
 refine⟨(h.since.trans (qw (λk=>k=gs) hb) (λ_ e=> .inl e)).trans h2 (λ_ e=> .inl e),h.below,hlo,(h2.block _ (zx hrs) (by omega)).trans hrs,h1,zcD hs hbx h2⟩
theorem zcq.fin (h:zcq w W X g gs s tv mv) (hb:Below X.heap.size X Y) {pv qv:Value} (hs:zY Y t pv qv):(((Y.setCell ⟨g,0,none⟩ pv).setCell ⟨g,1,none⟩ qv).setCell ⟨g,2,none⟩ (.bool t.bad)).heap[g]? =some (.cells #[pv,qv, .bool t.bad] 30 (0,0))/\
  zY (((Y.setCell ⟨g,0,none⟩ pv).setCell ⟨g,1,none⟩ qv).setCell ⟨g,2,none⟩ (.bool t.bad)) t pv qv/\Below w.heap.size w (((Y.setCell ⟨g,0,none⟩ pv).setCell ⟨g,1,none⟩ qv).setCell ⟨g,2,none⟩ (.bool t.bad)):=by
 obtain⟨h1,h2⟩:=zcL ((hb.block _ (zx h.res)).trans h.res) pv qv (.bool t.bad)
 have hlo:=h.lo
 exact⟨h1,zcD hs ((hb.block _ (zx h.res)).trans h.res) h2,(h.all.trans (hb.mono h.all.size)).trans (h2.below (Nat.le_trans h.all.size hb.size) (λk hk=>by omega))⟩
end
theorem zcT (w:World) (c:zI) (cv:Value) (d:Nat) (hc:yQ d w cv c.threads) (m:zF) (lv:Value) (l:List zq) (hl:qj w lv l):Calls Tryz.prog 34 #[yD c cv,yY m,lv] w (zaJ w (jA c m l d)):=by
 obtain⟨ca,cc,rfl, -⟩:=zh.slice hc
 obtain⟨la,lc,rfl,hl63⟩:=zh.slice hl
 obtain⟨ln,hln⟩:∃n,n=l.length:=⟨_,rfl⟩
 rw [<-hln] at hl hl63 ⊢
 obtain⟨mo,hmo⟩:∃mo,mo=vO c m:=⟨_,rfl⟩
 have hmay:=λW hW=>zg0 W c (.slice ca c.threads.length cc) d hW m
 rw [<-hmo] at hmay
 obtain⟨R,hR⟩:∃R,R=jA c m l d:=⟨_,rfl⟩
 obtain⟨S0,hS0⟩:∃S0,S0=qJ c:=⟨_,rfl⟩
 have hR2:R=if mo then vC c m d S0 l else(yH,1):=by rw [hR,hmo,hS0];rfl
 rw [<-hR]
 have hstart:=λW hc=>zho W c (.slice ca c.threads.length cc) d hc
 rw [<-hS0] at hstart
 have hsb:kC 33 S0:=by rw [hS0];exact zdB c
 have hdo:=λW hc s sv mv hs hb x=>zwU W c (.slice ca c.threads.length cc) d hc m s sv mv hs hb x
 obtain⟨C,hC⟩:∃C,C=c:=⟨_,rfl⟩
 obtain⟨M,hM⟩:∃M,M=m:=⟨_,rfl⟩
 rw [<-hC, <-hM] at hR2
 obtain⟨vars,dom,cs⟩:=c
 obtain⟨mod,bnd⟩:=m
 unfold yD yY
 unfold yD yY at hdo hmay
 unfold yD at hstart
 simp only [] at hc hmay hstart hdo ⊢
 obtain⟨cn,hcn⟩:∃cn,cn=cs.length:=⟨_,rfl⟩
 rw [<-hcn] at hc hmay hstart hdo ⊢
 rw [<-hC, <-hM] at hdo
 obtain⟨hB,h1,h2,h3⟩:=zbH w (.cells #[.int .i64 vars, .int .i64 dom, .slice ca cn cc] 24) (.cells #[.int .i64 mod, .int .i64 bnd] 26) (.cells #[.slice none 0 0, .slice none 0 0, .bool false] 30)
 have HB:=qh hB
 have H1:=qh h1
 have H2:=qh h2
 have H3:=qh h3
 have wz:=qh hc
 have HLS:=qh hl
 have zae:=qh hmay
 have zeR:=qh hstart
 have HDO:=qh hdo
 have HSB:=qh hsb
 have HRR:=qh hR2
 have jm:=qh hln
 clear hC hM hcn hmay hstart hdo hsb hR2 hmo hR hS0 hB h1 h2 h3 hc hl hln
 go_enter Tryz.func34,Tryz.ntmps34
 go_upto_region 1 with fail
 generalize World.alloc (World.alloc (World.alloc w _) _) _=W at HB H1 H2 H3 ⊢
 obtain⟨gx,hgx⟩:∃gx,gx=w.heap.size:=⟨_,rfl⟩
 rw [<-hgx] at H1 H2 H3 ⊢
 have yU:=qh hgx
 clear hgx
 have HK:Hid (∀y,Since (λk=>gx+2<=k) W y->y.cell? ⟨gx,0,none⟩=some (.int .i64 vars)/\y.cell? ⟨gx,1,none⟩=some (.int .i64 dom)/\y.cell? ⟨gx,2,none⟩=some (.slice ca cn cc)/\y.cell? ⟨gx+1,0,none⟩=some (.int .i64 mod)/\y.cell? ⟨gx+1,1,none⟩=some (.int .i64 bnd)):=λy hy=>by
  have k1:=(hy.block _ (zx H1.out) (by omega)).trans H1.out
  have k2:=(hy.block _ (zx H2.out) (by omega)).trans H2.out
  exact⟨ze k1 0,ze k1 1,ze k1 2,ze k2 0,ze k2 1⟩
 obtain⟨c0,c1,c2,e0,e1⟩:=HK.out W (Since.refl _ _)
 go_upto_if 15 with(go_at_call 52;go_must(refine(zae.out W (zh.below (qo.stays d) wz.out HB.out)).mono ?_);rintro e X1 ⟨rfl,hb⟩;have HB1:=qh hb;clear hb)
 clear c0 c1 c2 e0 e1
 have qD:Hid (Since (λk=>gx+2<=k) W X1):=qw _ HB1.out
 have H3X:=qh ((HB1.out.block _ (zx H3.out)).trans H3.out)
 cases mo with
 |false=>
  have hR:R=(yH,1):=HRR.out
  have hbx:=H3X.out
  obtain⟨hset,hsn⟩:=zcL hbx (.slice none 0 0) (.slice none 0 0) (.bool false)
  have hend:zaJ w R (.returned (.tuple #[.agg #[.slice none 0 0, .slice none 0 0, .bool false], .int .i64 1])) (((X1.setCell ⟨gx+2,0,none⟩ (.slice none 0 0)).setCell ⟨gx+2,1,none⟩ (.slice none 0 0)).setCell ⟨gx+2,2,none⟩ (.bool false)):=by
   rw [hR]
   exact⟨⟨none,none,0,0,0,0,rfl,zcm _⟩,(HB.out.trans (HB1.out.mono HB.out.size)).trans (hsn.below (Nat.le_trans HB.out.size HB1.out.size) (λk hk=>by have:=yU.out;omega))⟩
  have zJ:=qh hset
  have zV:=qh hend
  have b0:=ze hbx 0
  have b1:=ze hbx 1
  have b2:=ze hbx 2
  have f0:=zB hbx 0
  have f1:=zB hbx 1
  have f2:=zB hbx 2
  clear hset hend hbx hR hsn
  go_wp2_with fail
  refine bodyPost_ret (zy rfl _ _ (gx+2) 30 _ (0,0) _ rfl zJ.out Tryz.underlying30 rfl zH) rfl ?_
  exact zV.out
 |true=>
 have HR0:Hid (R=vC C M d S0 l):=HRR.out
 obtain⟨c0,c1,c2,e0,e1⟩:=HK.out X1 qD.out
 go_upto_region 4 with(go_at_call 18;go_must(refine(zeR.out X1 (zh.below (qo.stays d) wz.out (zG HB.out HB1.out))).mono ?_);rintro e X2 ⟨⟨zv,yv,rfl,hst⟩,hb⟩;(obtain⟨za,zac,rfl, -⟩:=zh.slice hst.now.threads);(obtain⟨zb,zbc,rfl, -⟩:=zh.slice hst.now.mem);have HST:=qh hst.now;have HB2:=qh (zG HB1.out hb);have pU:=qh hb.size;unfold yB;clear hst hb)
 clear c0 c1 c2 e0 e1
 have hg2:gx+1+1=gx+2:=rfl
 obtain⟨gs,hgs⟩:∃g,g=X2.heap.size:=⟨_,rfl⟩
 obtain⟨n1,hn1⟩:∃n,n=S0.threads.length:=⟨_,rfl⟩
 obtain⟨n2,hn2⟩:∃n,n=S0.mem.length:=⟨_,rfl⟩
 rw [<-hn1, <-hn2] at HST ⊢
 have hL:zcq w (X2.alloc (.cells #[.slice za n1 zac, .slice zb n2 zbc, .bool S0.bad] 30)) (X2.alloc (.cells #[.slice za n1 zac, .slice zb n2 zbc, .bool S0.bad] 30)) (gx+2) gs S0 (.slice za n1 zac) (.slice zb n2 zbc):=by
  have h3:=zx H3X.out
  have h4:=pU.out
  have h5:=yU.out
  have h6:=HB1.out.size
  have h7:=zx H3.out
  have h8:=HB.out.size
  have hBX:Below X2.heap.size X2 (X2.alloc (.cells #[.slice za n1 zac, .slice zb n2 zbc, .bool S0.bad] 30)):=(Below.refl _ _).alloc (Nat.le_refl _) _
  have hk3:=(HB2.out.block _ h7).trans H3.out
  refine⟨Since.refl _ _,zG HB.out (zG HB2.out hBX),⟨by omega,by omega,by simp;omega⟩,(Below.heap_alloc _ _ _ (zx hk3)).trans hk3,by rw [hgs];exact yj _ _, ?_⟩
  exact HST.out.below hBX
 have hS2:Since (λk=>gx+2<=k) W (X2.alloc (.cells #[.slice za n1 zac, .slice zb n2 zbc, .bool S0.bad] 30)):=(qw _ HB2.out).alloc _
 have HL:=qh hL
 have HS2:=qh hS2
 clear hL hS2 HST HB2 pU hn1 hn2 H3X HB1 qD H3 hg2
 rw [<-hgs]
 clear hgs
 generalize World.alloc X2 _=W2 at HL HS2 ⊢
 go_wp2_with fail
 go_loopg [21] ln (λgg s21 wr=>∃(i:Nat) (s:zl) (pa qa:Option Addr) (pn pc qn qc:Nat),i<=ln/\Hid (gg=ln - i)/\s21= .int .i64 i/\Hid (zcq w W2 wr (gx+2) gs s (.slice pa pn pc) (.slice qa qn qc))/\Hid (R=vC C M d s (l.drop i))/\Hid (kC 33 s))
 case atStart=>exact⟨0,S0,za,zb,n1,zac,n2,zbc,Nat.zero_le _,rfl,rfl,HL.out,by rw [Hid,HR0.out];rfl,HSB.out⟩
 case round=>
 obtain⟨i,s,pa,qa,pn,pc,qn,qc,hi,HG,rfl,jl,HRI,HBU⟩:=hrel
 obtain⟨wo,rfl⟩:∃wo:World,wo=wr:=⟨_,rfl⟩
 clear HL
 have HSW:Hid (Since (λk=>gx+2<=k) W wo):=HS2.out.trans jl.out.since (λk hk=> .inl (by have:=jl.out.lo;omega))
 obtain⟨bd,hbd⟩:∃b,b=s.bad:=⟨_,rfl⟩
 have hbx:=jl.out.box
 rw [<-hbd] at hbx
 have b0:=ze hbx 0
 have b1:=ze hbx 1
 have b2:=ze hbx 2
 have yX:=qh hbx
 by_cases hlt:i<ln
 rotate_left
 ·obtain rfl:ln=i:=by omega
  have hR:R=(s,0):=by rw [HRI.out,jm.out,List.drop_length];rfl
  obtain⟨hset,hs6,hb6⟩:=jl.out.fin (t:=s) (Below.refl _ _) jl.out.st
  rw [<-hbd] at hset hs6 hb6
  have hend:zaJ w R (.returned (.tuple #[.agg #[.slice pa pn pc, .slice qa qn qc, .bool bd], .int .i64 0])) (((wo.setCell ⟨gx+2,0,none⟩ (.slice pa pn pc)).setCell ⟨gx+2,1,none⟩ (.slice qa qn qc)).setCell ⟨gx+2,2,none⟩ (.bool bd)):=by
   rw [hR];exact⟨⟨pa,qa,pn,pc,qn,qc,by rw [hbd],hs6⟩,hb6⟩
  have zJ:=qh hset
  have zV:=qh hend
  have hrs:=jl.out.res
  have d0:=ze hrs 0
  have d1:=ze hrs 1
  have d2:=ze hrs 2
  have f0:=zB hrs 0
  have f1:=zB hrs 1
  have f2:=zB hrs 2
  clear hset hs6 hb6 hend hrs hR hbx hbd
  go_wp2_with fail
  refine bodyPost_ret (zy rfl _ _ (gx+2) 30 _ (0,0) _ rfl zJ.out Tryz.underlying30 rfl zH) rfl ?_
  exact zV.out
 have qN:(i:Int)<(ln:Int):=by omega
 obtain⟨mb,mof,yh, -,x0,x1,x2⟩:=qj.part (zh.below zaY.stays HLS.out jl.out.all) i (by rw [<-jm.out];exact hlt)
 subst yh
 obtain⟨x,hx⟩:∃x,x=l.getD i default:=⟨_,rfl⟩
 rw [<-hx] at x0 x1 x2
 obtain⟨⟨t,er⟩,hdd⟩:∃p,p=qC C M s x d:=⟨_,rfl⟩
 have hstp:R=if er=0 then vC C M d t (l.drop (i+1)) else(yH,er):=by
  rw [HRI.out,zgr (by rw [<-jm.out];exact hlt), <-hx, <-hdd]
 have hbt:kC 33 t:=by have:=zis (c:=C) (m:=M) (s:=s) (x:=x) (d:=d);rw [<-hdd] at this;exact this
 have hst:=jl.out.st
 have hD:=λy (hy:Below wo.heap.size wo y)=>HDO.out y (zh.below (qo.stays d) wz.out (zG jl.out.all hy)) s _ _ (hst.below hy) (λj hj=>by have:=HBU.out j hj;omega) x
 rw [<-hdd] at hD
 unfold yB zaD at hD
 rw [<-hbd] at hD
 have hpn:s.threads.length=pn:=by obtain⟨a,c,e, -⟩:=zh.slice hst.threads;cases e;rfl
 have HDD:=qh hD
 have zcc:=qh hstp
 have HBT:=qh hbt
 clear hD hstp hbt hst hdd hx hbx hbd hpn
 obtain⟨xk,xt,xv⟩:=x
 simp only [] at x0 x1 x2 HDD
 go_upto_region 8 with fail
 have hA:Below wo.heap.size wo (wo.alloc (.cells #[.int .i64 xk, .int .i64 xt, .int .i64 xv] 32)):=(Below.refl _ _).alloc (Nat.le_refl _) _
 have HDA:=qh (HDD.out _ hA)
 have HAA:=qh hA
 have HHL:Hid (∀Y,Below wo.heap.size wo Y->(Y.heap[gs]? =some (.cells #[.slice pa pn pc, .slice qa qn qc, .bool bd] 30 (0,0)))):=λY hY=>(hY.block _ (zx yX.out)).trans yX.out
 have HMB:=qh (yj wo (.cells #[.int .i64 xk, .int .i64 xt, .int .i64 xv] 32))
 have zuF:Hid (Since (λk=>gx+2<=k) W (wo.alloc (.cells #[.int .i64 xk, .int .i64 xt, .int .i64 xv] 32))):=HSW.out.alloc _
 clear hA HDD b0 b1 b2 x0 x1 x2
 generalize World.alloc wo _=W3 at HDA HAA HMB zuF ⊢
 generalize wo.heap.size=gm at HMB ⊢
 obtain⟨c0,c1,c2,e0,e1⟩:=HK.out W3 zuF.out
 have hb3:=HHL.out W3 HAA.out
 have b0:=ze hb3 0
 have b1:=ze hb3 1
 have b2:=ze hb3 2
 have m0:=ze HMB.out 0
 have m1:=ze HMB.out 1
 have m2:=ze HMB.out 2
 clear hb3
 go_upto_region 9 with(go_at_call 25;go_must(refine HDA.out.mono ?_);rintro e Y ⟨hb,ra,rn,rc,ua,un,uc,rfl,hfo⟩;have jo:=qh hb;have HFO:=qh hfo;have hby:=(hb.block _ (zx (HHL.out W3 HAA.out))).trans (HHL.out W3 HAA.out);have g0:=ze hby 0;have g1:=ze hby 1;have g2:=ze hby 2;have g3:=zB hby 0;have g4:=zB hby 1;have g5:=zB hby 2;clear hb hfo hby)
 have z00:=HFO.out.now (jl.out.st.below HAA.out)
 have hput:=jl.out.put (zG HAA.out jo.out) z00
 have jF:=qh hput
 clear z00 hput HFO HDA HHL HMB zuF HAA jo yX jl c0 c1 c2 e0 e1 b0 b1 b2 m0 m1 m2 g0 g1 g2 g3 g4 g5
 generalize World.setCell (World.setCell (World.setCell Y _ _) _ _) _ _=X5 at jF ⊢
 by_cases her:er=0
 ·subst her
  have zuG:Hid (R=vC C M d t (l.drop (i+1))):=by rw [Hid,zcc.out,if_pos rfl]
  go_wp2_with fail
  go_roundg (ln - (i+1))
  case measure=>rw [HG.out];omega
  case rel=>exact⟨i+1,t,ra,ua,rn,rc,un,uc,by omega,rfl,by simp,jF.out,zuG.out,HBT.out⟩
 have hR:R=(yH,er):=by rw [zcc.out,if_neg her]
 obtain⟨hset,hs6,hb6⟩:=jF.out.fin (t:=yH) (pv:= .slice none 0 0) (qv:= .slice none 0 0) (Below.refl _ _) (zcm _)
 have hend:zaJ w R (.returned (.tuple #[.agg #[.slice none 0 0, .slice none 0 0, .bool false], .int .i64 er])) (((X5.setCell ⟨gx+2,0,none⟩ (.slice none 0 0)).setCell ⟨gx+2,1,none⟩ (.slice none 0 0)).setCell ⟨gx+2,2,none⟩ (.bool false)):=by
  rw [hR];exact⟨⟨none,none,0,0,0,0,rfl,hs6⟩,hb6⟩
 have zJ:=qh hset
 have zV:=qh hend
 have hbx:=jF.out.res
 have b0:=ze hbx 0
 have b1:=ze hbx 1
 have b2:=ze hbx 2
 have f0:=zB hbx 0
 have f1:=zB hbx 1
 have f2:=zB hbx 2
 have z5q:(er !=0)=true:=by simpa using her
 clear hset hs6 hb6 hend hbx hR
 go_wp2_with fail
 (try simp only [Exit.inBlock,Exit.then])
 refine bodyPost_ret (zy rfl _ _ (gx+2) 30 _ (0,0) _ rfl zJ.out Tryz.underlying30 rfl zH) rfl ?_
 exact zV.out
theorem zkZ (w:World) (c:zI) (cv:Value) (d:Nat) (hc:yQ d w cv c.threads) (m:zF) (lv:Value) (l:List zq) (hl:qj w lv l):Calls Tryz.prog 35 #[yD c cv,yY m,lv] w (zaJ w (jA c m l d)):=by
 obtain⟨ca,cc,rfl, -⟩:=zh.slice hc
 obtain⟨la,lc,rfl,hl63⟩:=zh.slice hl
 obtain⟨ln,hln⟩:∃n,n=l.length:=⟨_,rfl⟩
 rw [<-hln] at hl hl63 ⊢
 obtain⟨mo,hmo⟩:∃mo,mo=vO c m:=⟨_,rfl⟩
 have hmay:=zhH c ca cc d m
 rw [<-hmo] at hmay
 obtain⟨R,hR⟩:∃R,R=jA c m l d:=⟨_,rfl⟩
 obtain⟨S0,hS0⟩:∃S0,S0=qJ c:=⟨_,rfl⟩
 have hR2:R=if mo then vC c m d S0 l else(yH,1):=by rw [hR,hmo,hS0];rfl
 rw [<-hR]
 have hstart:=λW hc=>zq5 W c (.slice ca c.threads.length cc) d hc
 rw [<-hS0] at hstart
 have hsb:kC 33 S0:=by rw [hS0];exact zdB c
 have hdo:=λW hc s sv mv hs hb x=>zrr W c (.slice ca c.threads.length cc) d hc m s sv mv hs hb x
 obtain⟨C,hC⟩:∃C,C=c:=⟨_,rfl⟩
 obtain⟨M,hM⟩:∃M,M=m:=⟨_,rfl⟩
 rw [<-hC, <-hM] at hR2
 obtain⟨vars,dom,cs⟩:=c
 obtain⟨mod,bnd⟩:=m
 unfold yD yY
 unfold yD yY at hdo
 unfold yD at hstart
 simp only [] at hc hmay hstart hdo ⊢
 obtain⟨cn,hcn⟩:∃cn,cn=cs.length:=⟨_,rfl⟩
 rw [<-hcn] at hc hmay hstart hdo ⊢
 rw [<-hC, <-hM] at hdo
 obtain⟨hB,h1,h2,h3⟩:=zbH w (.cells #[.int .i64 vars, .int .i64 dom, .slice ca cn cc] 24) (.cells #[.int .i64 mod, .int .i64 bnd] 26) (.cells #[.slice none 0 0, .slice none 0 0, .bool false] 30)
 have HB:=qh hB
 have H1:=qh h1
 have H2:=qh h2
 have H3:=qh h3
 have wz:=qh hc
 have HLS:=qh hl
 have zae:=qh hmay
 have zeR:=qh hstart
 have HDO:=qh hdo
 have HSB:=qh hsb
 have HRR:=qh hR2
 have jm:=qh hln
 clear hC hM hcn hmay hstart hdo hsb hR2 hmo hR hS0 hB h1 h2 h3 hc hl hln
 go_enter Tryz.func35,Tryz.ntmps35
 go_upto_region 1 with fail
 generalize World.alloc (World.alloc (World.alloc w _) _) _=W at HB H1 H2 H3 ⊢
 obtain⟨gx,hgx⟩:∃gx,gx=w.heap.size:=⟨_,rfl⟩
 rw [<-hgx] at H1 H2 H3 ⊢
 have yU:=qh hgx
 clear hgx
 have HK:Hid (∀y,Since (λk=>gx+2<=k) W y->y.cell? ⟨gx,0,none⟩=some (.int .i64 vars)/\y.cell? ⟨gx,1,none⟩=some (.int .i64 dom)/\y.cell? ⟨gx,2,none⟩=some (.slice ca cn cc)/\y.cell? ⟨gx+1,0,none⟩=some (.int .i64 mod)/\y.cell? ⟨gx+1,1,none⟩=some (.int .i64 bnd)):=λy hy=>by
  have k1:=(hy.block _ (zx H1.out) (by omega)).trans H1.out
  have k2:=(hy.block _ (zx H2.out) (by omega)).trans H2.out
  exact⟨ze k1 0,ze k1 1,ze k1 2,ze k2 0,ze k2 1⟩
 obtain⟨c0,c1,c2,e0,e1⟩:=HK.out W (Since.refl _ _)
 go_upto_if 15 with(go_at_call 58;go_must(refine(zae.out W (zh.below (qo.stays d) wz.out HB.out)).mono ?_);rintro e X1 ⟨rfl,hb⟩;have HB1:=qh hb;clear hb)
 clear c0 c1 c2 e0 e1
 have qD:Hid (Since (λk=>gx+2<=k) W X1):=qw _ HB1.out
 have H3X:=qh ((HB1.out.block _ (zx H3.out)).trans H3.out)
 cases mo with
 |false=>
  have hR:R=(yH,1):=HRR.out
  have hbx:=H3X.out
  obtain⟨hset,hsn⟩:=zcL hbx (.slice none 0 0) (.slice none 0 0) (.bool false)
  have hend:zaJ w R (.returned (.tuple #[.agg #[.slice none 0 0, .slice none 0 0, .bool false], .int .i64 1])) (((X1.setCell ⟨gx+2,0,none⟩ (.slice none 0 0)).setCell ⟨gx+2,1,none⟩ (.slice none 0 0)).setCell ⟨gx+2,2,none⟩ (.bool false)):=by
   rw [hR]
   exact⟨⟨none,none,0,0,0,0,rfl,zcm _⟩,(HB.out.trans (HB1.out.mono HB.out.size)).trans (hsn.below (Nat.le_trans HB.out.size HB1.out.size) (λk hk=>by have:=yU.out;omega))⟩
  have zJ:=qh hset
  have zV:=qh hend
  have b0:=ze hbx 0
  have b1:=ze hbx 1
  have b2:=ze hbx 2
  have f0:=zB hbx 0
  have f1:=zB hbx 1
  have f2:=zB hbx 2
  clear hset hend hbx hR hsn
  go_wp2_with fail
  refine bodyPost_ret (zy rfl _ _ (gx+2) 30 _ (0,0) _ rfl zJ.out Tryz.underlying30 rfl zH) rfl ?_
  exact zV.out
 |true=>
 have HR0:Hid (R=vC C M d S0 l):=HRR.out
 obtain⟨c0,c1,c2,e0,e1⟩:=HK.out X1 qD.out
 go_upto_region 4 with(go_at_call 19;go_must(refine(zeR.out X1 (zh.below (qo.stays d) wz.out (zG HB.out HB1.out))).mono ?_);rintro e X2 ⟨⟨zv,yv,rfl,hst⟩,hb⟩;(obtain⟨za,zac,rfl, -⟩:=zh.slice hst.threads);(obtain⟨zb,zbc,rfl, -⟩:=zh.slice hst.mem);have HST:=qh hst;have HB2:=qh (zG HB1.out hb);have pU:=qh hb.size;unfold yB;clear hst hb)
 clear c0 c1 c2 e0 e1
 have hg2:gx+1+1=gx+2:=rfl
 obtain⟨gs,hgs⟩:∃g,g=X2.heap.size:=⟨_,rfl⟩
 obtain⟨n1,hn1⟩:∃n,n=S0.threads.length:=⟨_,rfl⟩
 obtain⟨n2,hn2⟩:∃n,n=S0.mem.length:=⟨_,rfl⟩
 rw [<-hn1, <-hn2] at HST ⊢
 have hL:zcq w (X2.alloc (.cells #[.slice za n1 zac, .slice zb n2 zbc, .bool S0.bad] 30)) (X2.alloc (.cells #[.slice za n1 zac, .slice zb n2 zbc, .bool S0.bad] 30)) (gx+2) gs S0 (.slice za n1 zac) (.slice zb n2 zbc):=by
  have h3:=zx H3X.out
  have h4:=pU.out
  have h5:=yU.out
  have h6:=HB1.out.size
  have h7:=zx H3.out
  have h8:=HB.out.size
  have hBX:Below X2.heap.size X2 (X2.alloc (.cells #[.slice za n1 zac, .slice zb n2 zbc, .bool S0.bad] 30)):=(Below.refl _ _).alloc (Nat.le_refl _) _
  have hk3:=(HB2.out.block _ h7).trans H3.out
  refine⟨Since.refl _ _,zG HB.out (zG HB2.out hBX),⟨by omega,by omega,by simp;omega⟩,(Below.heap_alloc _ _ _ (zx hk3)).trans hk3,by rw [hgs];exact yj _ _, ?_⟩
  exact HST.out.below hBX
 have hS2:Since (λk=>gx+2<=k) W (X2.alloc (.cells #[.slice za n1 zac, .slice zb n2 zbc, .bool S0.bad] 30)):=(qw _ HB2.out).alloc _
 have HL:=qh hL
 have HS2:=qh hS2
 clear hL hS2 HST HB2 pU hn1 hn2 H3X HB1 qD H3 hg2
 rw [<-hgs]
 clear hgs
 generalize World.alloc X2 _=W2 at HL HS2 ⊢
 go_wp2_with fail
 go_loopg [9] ln (λgg s21 wr=>∃(i:Nat) (s:zl) (pa qa:Option Addr) (pn pc qn qc:Nat),i<=ln/\Hid (gg=ln - i)/\s21= .int .i64 i/\Hid (zcq w W2 wr (gx+2) gs s (.slice pa pn pc) (.slice qa qn qc))/\Hid (R=vC C M d s (l.drop i))/\Hid (kC 33 s))
 case atStart=>exact⟨0,S0,za,zb,n1,zac,n2,zbc,Nat.zero_le _,rfl,rfl,HL.out,by rw [Hid,HR0.out];rfl,HSB.out⟩
 case round=>
 obtain⟨i,s,pa,qa,pn,pc,qn,qc,hi,HG,rfl,jl,HRI,HBU⟩:=hrel
 obtain⟨wo,rfl⟩:∃wo:World,wo=wr:=⟨_,rfl⟩
 clear HL
 have HSW:Hid (Since (λk=>gx+2<=k) W wo):=HS2.out.trans jl.out.since (λk hk=> .inl (by have:=jl.out.lo;omega))
 obtain⟨bd,hbd⟩:∃b,b=s.bad:=⟨_,rfl⟩
 have hbx:=jl.out.box
 rw [<-hbd] at hbx
 have b0:=ze hbx 0
 have b1:=ze hbx 1
 have b2:=ze hbx 2
 have yX:=qh hbx
 by_cases hlt:i<ln
 rotate_left
 ·obtain rfl:ln=i:=by omega
  have hR:R=(s,0):=by rw [HRI.out,jm.out,List.drop_length];rfl
  obtain⟨hset,hs6,hb6⟩:=jl.out.fin (t:=s) (Below.refl _ _) jl.out.st
  rw [<-hbd] at hset hs6 hb6
  have hend:zaJ w R (.returned (.tuple #[.agg #[.slice pa pn pc, .slice qa qn qc, .bool bd], .int .i64 0])) (((wo.setCell ⟨gx+2,0,none⟩ (.slice pa pn pc)).setCell ⟨gx+2,1,none⟩ (.slice qa qn qc)).setCell ⟨gx+2,2,none⟩ (.bool bd)):=by
   rw [hR];exact⟨⟨pa,qa,pn,pc,qn,qc,by rw [hbd],hs6⟩,hb6⟩
  have zJ:=qh hset
  have zV:=qh hend
  have hrs:=jl.out.res
  have d0:=ze hrs 0
  have d1:=ze hrs 1
  have d2:=ze hrs 2
  have f0:=zB hrs 0
  have f1:=zB hrs 1
  have f2:=zB hrs 2
  clear hset hs6 hb6 hend hrs hR hbx hbd
  go_wp2_with fail
  refine bodyPost_ret (zy rfl _ _ (gx+2) 30 _ (0,0) _ rfl zJ.out Tryz.underlying30 rfl zH) rfl ?_
  exact zV.out
 have qN:(i:Int)<(ln:Int):=by omega
 obtain⟨mb,mof,yh, -,x0,x1,x2⟩:=qj.part (zh.below zaY.stays HLS.out jl.out.all) i (by rw [<-jm.out];exact hlt)
 subst yh
 obtain⟨x,hx⟩:∃x,x=l.getD i default:=⟨_,rfl⟩
 rw [<-hx] at x0 x1 x2
 obtain⟨⟨t,er⟩,hdd⟩:∃p,p=qC C M s x d:=⟨_,rfl⟩
 have hstp:R=if er=0 then vC C M d t (l.drop (i+1)) else(yH,er):=by
  rw [HRI.out,zgr (by rw [<-jm.out];exact hlt), <-hx, <-hdd]
 have hbt:kC 33 t:=by have:=zis (c:=C) (m:=M) (s:=s) (x:=x) (d:=d);rw [<-hdd] at this;exact this
 have hst:=jl.out.st
 have hD:=λy (hy:Below wo.heap.size wo y)=>HDO.out y (zh.below (qo.stays d) wz.out (zG jl.out.all hy)) s _ _ (hst.below hy) (λj hj=>by have:=HBU.out j hj;omega) x
 rw [<-hdd] at hD
 unfold yB zaD at hD
 rw [<-hbd] at hD
 have hpn:s.threads.length=pn:=by obtain⟨a,c,e, -⟩:=zh.slice hst.threads;cases e;rfl
 have HDD:=qh hD
 have zcc:=qh hstp
 have HBT:=qh hbt
 clear hD hstp hbt hst hdd hx hbx hbd hpn
 obtain⟨xk,xt,xv⟩:=x
 simp only [] at x0 x1 x2 HDD
 have C7:Hid (∀y,Below wo.heap.size wo y->y.cell? ⟨gx,0,none⟩=some (.int .i64 vars)/\y.cell? ⟨gx,1,none⟩=some (.int .i64 dom)/\y.cell? ⟨gx,2,none⟩=some (.slice ca cn cc)/\y.cell? ⟨gx+1,0,none⟩=some (.int .i64 mod)/\y.cell? ⟨gx+1,1,none⟩=some (.int .i64 bnd)/\
   y.cell? ⟨gs,0,none⟩=some (.slice pa pn pc)/\y.cell? ⟨gs,1,none⟩=some (.slice qa qn qc)/\y.cell? ⟨gs,2,none⟩=some (.bool bd)/\y.cell? ⟨mb,mof+i*3,none⟩=some (.int .i64 xk)/\y.cell? ⟨mb,mof+i*3+1,none⟩=some (.int .i64 xt)/\y.cell? ⟨mb,mof+i*3+2,none⟩=some (.int .i64 xv)):=λy hy=>by
  obtain⟨c0,c1,c2,e0,e1⟩:=HK.out y (HSW.out.trans (qw (λ_=>False) hy) (λ_ e=>e.elim))
  exact⟨c0,c1,c2,e0,e1,zi hy _ _ b0,zi hy _ _ b1,zi hy _ _ b2,zi hy _ _ x0,zi hy _ _ x1,zi hy _ _ x2⟩
 clear b0 b1 b2 x0 x1 x2
 go_upto_region 7 with fail
 go_cut [10,11] (λs10 s11 w'=>∃(g:Nat) (a b:Option Addr) (n c k f:Nat),s10= .pointer (some ⟨g,0,none⟩)/\s11= .int .i64 er/\Hid (w'.heap[g]? =some (.cells #[.slice a n c, .slice b k f, .bool t.bad] 30 (0,0)))/\Hid (zY w' t (.slice a n c) (.slice b k f))/\Hid (Below wo.heap.size wo w'))
 case first=>
  refine vV (S:=λx=>Below wo.heap.size wo x) (Below.refl _ _).drew (λ_=> ?_)
  obtain⟨V1a,hV1⟩:∃V1,V1=wo.drew:=⟨_,rfl⟩
  have zcr:Hid (Below wo.heap.size wo V1a):=by rw [hV1];exact(Below.refl _ _).drew
  rw [<-hV1]
  clear hV1
  refine zD 0 C7.out (zcr.out) ?_
  refine zD 1 C7.out (zcr.out) ?_
  refine zD 2 C7.out (zcr.out) ?_
  refine zD 3 zQ (zcr.out) ?_
  refine zD 4 zQ (zcr.out) ?_
  refine zD 5 zQ (zcr.out) ?_
  refine zD 6 C7.out (zcr.out) ?_
  refine wpAnyH_ready (rs:= [7,11]) (by kernel_rfl) (by simp) ?_
  refine AllReadyH.cons rfl (λK hK=> ?_) (AllReadyH.cons rfl (λK hK=> ?_) AllReadyH.nil)
  ·skip
   go_simp
   refine(HDD.out V1a (zcr.out)).mono ?_
   rintro e Ya1 ⟨⟨ra,rn,rc,ua,un,uc,bs,rfl,ho⟩,hb⟩
   have hs:=ho.state t.bad
   unfold yB
   clear ho
   have z1I:=qh hs
   have ziH:=qh (zG zcr.out hb)
   clear hs hb
   refine hK.out _ _ ziH.out (λ_=> ?_)
   clear hK K
   refine zD 8 zQ (ziH.out) ?_
   refine zD 9 zQ (ziH.out) ?_
   refine zD 10 zQ (ziH.out) ?_
   refine yA 11 rfl (λK hK=> ?_)
   go_simp
   have hz:=yj Ya1 (.cells #[.slice none 0 0, .slice none 0 0, .bool false] 30)
   have hb:=(Below.refl Ya1.heap.size Ya1).alloc (Nat.le_refl _) (.cells #[.slice none 0 0, .slice none 0 0, .bool false] 30)
   have HGL:Hid (wo.heap.size<=Ya1.heap.size):=(ziH.out).size
   have zwu:=qh (z1I.out.below hb)
   have zpw:=qh (zG ziH.out hb)
   clear hb
   refine hK.out _ _ zpw.out (λ_=> ?_)
   obtain⟨gsa,hgs⟩:∃g,g=Ya1.heap.size:=⟨_,rfl⟩
   rw [<-hgs] at hz HGL ⊢
   clear hgs
   generalize World.alloc Ya1 _=Ya3 at hz zwu zpw ⊢
   have zcM:=qh hz
   clear hz
   clear hK K
   refine yA 12 rfl (λK hK=> ?_)
   have d0:=ze zcM.out 0
   have d1:=ze zcM.out 1
   have d2:=ze zcM.out 2
   have f0:=zB zcM.out 0
   have f1:=zB zcM.out 1
   have f2:=zB zcM.out 2
   have zcs:=qh (qZ (cs:= [.slice none 0 0, .slice none 0 0, .bool false]) [.slice ra rn rc, .slice ua un uc, .bool t.bad] rfl zcM.out)
   have hsi:=qd (g:=gsa) [.slice ra rn rc, .slice ua un uc, .bool t.bad] Ya3 0
   have zem:=qh (zcD zwu.out zcM.out hsi)
   have pz:Hid (Below wo.heap.size wo (yI Ya3 gsa 0 [.slice ra rn rc, .slice ua un uc, .bool t.bad])):=(zpw.out).trans (hsi.below (zpw.out).size (λk hk=>by have:=HGL.out;omega))
   clear hsi HGL
   go_simp
   clear d0 d1 d2 f0 f1 f2
   refine hK.out _ (yI Ya3 gsa 0 [.slice ra rn rc, .slice ua un uc, .bool t.bad]) pz.out (λ_=> ?_)
   generalize yI Ya3 gsa 0 _=Y9a at zcs zem pz ⊢
   clear hK K
   refine zD 13 zQ (pz.out) ?_
   refine xQ ?_
   go_wp2_with fail
   go_meet
   case rel=>exact⟨gsa,ra,ua,rn,rc,un,uc,rfl,rfl,zcs.out,zem.out,pz.out⟩
  skip
  go_simp
  have hz:=yj V1a (.cells #[.slice none 0 0, .slice none 0 0, .bool false] 30)
  have hb:=(Below.refl V1a.heap.size V1a).alloc (Nat.le_refl _) (.cells #[.slice none 0 0, .slice none 0 0, .bool false] 30)
  have HGL:Hid (wo.heap.size<=V1a.heap.size):=(zcr.out).size
  have zpx:=qh (zG zcr.out hb)
  clear hb
  refine hK.out _ _ zpx.out (λ_=> ?_)
  obtain⟨gsa,hgs⟩:∃g,g=V1a.heap.size:=⟨_,rfl⟩
  rw [<-hgs] at hz HGL ⊢
  clear hgs
  generalize World.alloc V1a _=Ya5 at hz zpx ⊢
  have zwx:=qh hz
  clear hz
  clear hK K
  refine yA 7 rfl (λK hK=> ?_)
  go_simp
  refine(HDD.out Ya5 (zpx.out)).mono ?_
  rintro e Ya7 ⟨⟨ra,rn,rc,ua,un,uc,bs,rfl,ho⟩,hb⟩
  have hs:=ho.state t.bad
  unfold yB
  clear ho
  have zcN:=qh ((hb.block gsa (zx zwx.out)).trans zwx.out)
  have z1J:=qh hs
  have ziI:=qh (zG zpx.out hb)
  clear hs hb
  refine hK.out _ _ ziI.out (λ_=> ?_)
  clear hK K
  refine zD 8 zQ (ziI.out) ?_
  refine zD 9 zQ (ziI.out) ?_
  refine zD 10 zQ (ziI.out) ?_
  refine yA 12 rfl (λK hK=> ?_)
  have d0:=ze zcN.out 0
  have d1:=ze zcN.out 1
  have d2:=ze zcN.out 2
  have f0:=zB zcN.out 0
  have f1:=zB zcN.out 1
  have f2:=zB zcN.out 2
  have zcs:=qh (qZ (cs:= [.slice none 0 0, .slice none 0 0, .bool false]) [.slice ra rn rc, .slice ua un uc, .bool t.bad] rfl zcN.out)
  have hsi:=qd (g:=gsa) [.slice ra rn rc, .slice ua un uc, .bool t.bad] Ya7 0
  have zem:=qh (zcD z1J.out zcN.out hsi)
  have pz:Hid (Below wo.heap.size wo (yI Ya7 gsa 0 [.slice ra rn rc, .slice ua un uc, .bool t.bad])):=(ziI.out).trans (hsi.below (ziI.out).size (λk hk=>by have:=HGL.out;omega))
  clear hsi HGL
  go_simp
  clear d0 d1 d2 f0 f1 f2
  refine hK.out _ (yI Ya7 gsa 0 [.slice ra rn rc, .slice ua un uc, .bool t.bad]) pz.out (λ_=> ?_)
  generalize yI Ya7 gsa 0 _=Y9a at zcs zem pz ⊢
  clear hK K
  refine zD 13 zQ (pz.out) ?_
  refine xQ ?_
  go_wp2_with fail
  go_meet
  case rel=>exact⟨gsa,ra,ua,rn,rc,un,uc,rfl,rfl,zcs.out,zem.out,pz.out⟩
 case rest=>
 obtain⟨gt,ra,ua,rn,rc,un,uc,rfl,rfl,zcs,zem,pz⟩:=hcut
 obtain⟨Y9a,rfl⟩:∃Y:World,Y=wc:=⟨_,rfl⟩
 have bP:=(pz.out.block _ (zx yX.out)).trans yX.out
 have g0:=ze bP 0
 have g1:=ze bP 1
 have g2:=ze bP 2
 have g3:=zB bP 0
 have g4:=zB bP 1
 have g5:=zB bP 2
 have z0:=ze zcs.out 0
 have z1:=ze zcs.out 1
 have z2:=ze zcs.out 2
 have hput:=jl.out.put pz.out zem.out
 have jF:=qh hput
 have HR3:Hid (∀a b c:Nat,Y9a.heap[gx+2]? =some (.cells #[.slice none 0 0, .slice none 0 0, .bool false] 30 (0,0))/\(a=b->b=c->a=c)):=λa b c=>⟨(pz.out.block _ (zx jl.out.res)).trans jl.out.res,λh1 h2=>h1.trans h2⟩
 clear hput bP HDD yX C7
 by_cases her:er=0
 ·subst her
  have zuG:Hid (R=vC C M d t (l.drop (i+1))):=by rw [Hid,zcc.out,if_pos rfl]
  clear zcs zem pz jl HR3
  go_wp2_with fail
  go_roundg (ln - (i+1))
  case measure=>rw [HG.out];omega
  case rel=>exact⟨i+1,t,ra,ua,rn,rc,un,uc,by omega,rfl,by simp,jF.out,zuG.out,HBT.out⟩
 have hR:R=(yH,er):=by rw [zcc.out,if_neg her]
 obtain⟨hset,hs6,hb6⟩:=jl.out.fin (t:=yH) (pv:= .slice none 0 0) (qv:= .slice none 0 0) pz.out (zcm _)
 have hend:zaJ w R (.returned (.tuple #[.agg #[.slice none 0 0, .slice none 0 0, .bool false], .int .i64 er])) (((Y9a.setCell ⟨gx+2,0,none⟩ (.slice none 0 0)).setCell ⟨gx+2,1,none⟩ (.slice none 0 0)).setCell ⟨gx+2,2,none⟩ (.bool false)):=by
  rw [hR];exact⟨⟨none,none,0,0,0,0,rfl,hs6⟩,hb6⟩
 have zJ:=qh hset
 have zV:=qh hend
 have hbx:=(HR3.out 0 0 0).1
 have b0:=ze hbx 0
 have b1:=ze hbx 1
 have b2:=ze hbx 2
 have f0:=zB hbx 0
 have f1:=zB hbx 1
 have f2:=zB hbx 2
 have z5q:(er !=0)=true:=by simpa using her
 clear hset hs6 hb6 hend hbx hR zcs zem pz jl jF HR3
 go_wp2_with fail
 (try simp only [Exit.inBlock,Exit.then])
 refine bodyPost_ret (zy rfl _ _ (gx+2) 30 _ (0,0) _ rfl zJ.out Tryz.underlying30 rfl zH) rfl ?_
 exact zV.out
