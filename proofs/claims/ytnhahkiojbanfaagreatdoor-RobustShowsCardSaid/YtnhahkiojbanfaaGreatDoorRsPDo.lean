/- Steps. -/
import Derived.Test.YtnhahkiojbanfaaGreatDoorRsFinMadeP
import Derived.Test.YtnhahkiojbanfaaGreatDoorRsPTry
set_option linter.all false
namespace Go.Proofs.YtnhahkiojbanfaaGreatDoor
open Go.RowKit
set_option maxRecDepth 100000
set_option maxHeartbeats 16000000
theorem zmK (w:World):zX w xA (.slice none 0 0) (.slice none 0 0):=
 ⟨⟨none,0,rfl,by simp [xA],λj hj=>by simp [xA] at hj⟩,⟨none,0,rfl,by simp [xA],λj hj=>by simp [xA] at hj⟩⟩
end Go.Proofs.YtnhahkiojbanfaaGreatDoor
namespace Go.Proofs.YtnhahkiojbanfaaGreatDoor
open Go.RowKit
set_option maxRecDepth 100000
set_option maxHeartbeats 16000000
def jR (c:zD) (m:zy) (d:Nat):zi->List zq->zi × Int
 |s, [] =>(s,0)
 |s,x::l=>if (qB c m s x d).2=0 then jR c m d (qB c m s x d).1 l else(xA,(qB c m s x d).2)
def zbi (c:zD) (m:zy) (l:List zq) (d:Nat):zi × Int:=if qA c m then jR c m d (xY c) l else(xA,1)
def zff (w:World) (r:zi × Int) (e:Ending) (w':World):Prop:=(∃(a b:Option Addr) (n c k f:Nat),e= .returned (.tuple #[.agg #[.slice a n c, .slice b k f, .bool r.1.bad], .int .i64 r.2])/\zX w' r.1 (.slice a n c) (.slice b k f))/\Below w.heap.size w w'
theorem znC {c:zD} {m:zy} {d:Nat} {s:zi} {l:List zq} {i:Nat} (hi:i<l.length):jR c m d s (l.drop i)=if (qB c m s (l.getD i default) d).2=0 then jR c m d (qB c m s (l.getD i default) d).1 (l.drop (i+1)) else(xA,(qB c m s (l.getD i default) d).2):=by
 rw [List.drop_eq_getElem_cons hi,List.getD_eq_getElem?_getD,List.getElem?_eq_getElem hi];rfl
theorem zfU {y:World} {g:Nat} {a b c:Value} (hy:y.heap[g]? =some (.cells #[a,b,c] 42 (0,0))) (p q r:Value):(((y.setCell ⟨g,0,none⟩ p).setCell ⟨g,1,none⟩ q).setCell ⟨g,2,none⟩ r).heap[g]? =some (.cells #[p,q,r] 42 (0,0))/\Since (λk=>k=g) y (((y.setCell ⟨g,0,none⟩ p).setCell ⟨g,1,none⟩ q).setCell ⟨g,2,none⟩ r):=by
 have h:=zu (zu (zu hy 0 p) 1 q) 2 r
 refine⟨by simpa using h,Since.setCell (F:=λk=>k=g) (p:=⟨g,2,none⟩) (Since.setCell (F:=λk=>k=g) (p:=⟨g,1,none⟩) (Since.setCell (F:=λk=>k=g) (p:=⟨g,0,none⟩) (Since.refl _ y) (.inl rfl) _) (.inl rfl) _) (.inl rfl) _⟩
structure zeE (w W X:World) (g gs:Nat) (s:zi) (tv mv:Value):Prop where
 since:Since (λk=>k=gs) W X
 below:Below w.heap.size w W
 lo:w.heap.size<=g/\g<gs/\gs<W.heap.size
 res:X.heap[g]? =some (.cells #[.slice none 0 0, .slice none 0 0, .bool false] 42 (0,0))
 box:X.heap[gs]? =some (.cells #[tv,mv, .bool s.bad] 42 (0,0))
 st:zX X s tv mv
section
variable {w W X Y:World} {g gs:Nat} {s t:zi} {tv mv:Value}
theorem zeE.all (h:zeE w W X g gs s tv mv):Below w.heap.size w X:=h.below.trans (h.since.below h.below.size (λk hk=>by have:=h.lo;omega))
theorem zeE.put (h:zeE w W X g gs s tv mv) (hb:Below X.heap.size X Y) {pv qv:Value} (hs:zX Y t pv qv):
  zeE w W (((Y.setCell ⟨gs,0,none⟩ pv).setCell ⟨gs,1,none⟩ qv).setCell ⟨gs,2,none⟩ (.bool t.bad)) g gs t pv qv:=by
 obtain⟨a1,c1,rfl, -⟩:=zh.slice h.st.threads
 obtain⟨a2,c2,rfl, -⟩:=zh.slice h.st.mem
 have hbx:=(hb.block _ (zw h.box)).trans h.box
 have hrs:=(hb.block _ (zw h.res)).trans h.res
 obtain⟨h1,h2⟩:=zfU hbx pv qv (.bool t.bad)
 have hlo:=h.lo
 refine⟨(h.since.trans (xU (λk=>k=gs) hb) (λ_ e=> .inl e)).trans h2 (λ_ e=> .inl e),h.below,hlo,(h2.block _ (zw hrs) (by omega)).trans hrs,h1,zdp hs hbx h2⟩
theorem zeE.fin (h:zeE w W X g gs s tv mv) (hb:Below X.heap.size X Y) {pv qv:Value} (hs:zX Y t pv qv):(((Y.setCell ⟨g,0,none⟩ pv).setCell ⟨g,1,none⟩ qv).setCell ⟨g,2,none⟩ (.bool t.bad)).heap[g]? =some (.cells #[pv,qv, .bool t.bad] 42 (0,0))/\
  zX (((Y.setCell ⟨g,0,none⟩ pv).setCell ⟨g,1,none⟩ qv).setCell ⟨g,2,none⟩ (.bool t.bad)) t pv qv/\Below w.heap.size w (((Y.setCell ⟨g,0,none⟩ pv).setCell ⟨g,1,none⟩ qv).setCell ⟨g,2,none⟩ (.bool t.bad)):=by
 obtain⟨h1,h2⟩:=zfU ((hb.block _ (zw h.res)).trans h.res) pv qv (.bool t.bad)
 have hlo:=h.lo
 exact⟨h1,zdp hs ((hb.block _ (zw h.res)).trans h.res) h2,(h.all.trans (hb.mono h.all.size)).trans (h2.below (Nat.le_trans h.all.size hb.size) (λk hk=>by omega))⟩
end
theorem zlj (w:World) (c:zD) (cv:Value) (d:Nat) (hc:yS d w cv c.threads) (m:zy) (lv:Value) (l:List zq) (hl:j6 w lv l):Calls Tryz.prog 13 #[yQ c cv,qg m,lv] w (zff w (zbi c m l d)):=by
 obtain⟨ca,cc,rfl, -⟩:=zh.slice hc
 obtain⟨la,lc,rfl,hl63⟩:=zh.slice hl
 obtain⟨ln,hln⟩:∃n,n=l.length:=⟨_,rfl⟩
 rw [<-hln] at hl hl63 ⊢
 obtain⟨mo,hmo⟩:∃mo,mo=qA c m:=⟨_,rfl⟩
 have hmay:=zec c ca cc d m
 rw [<-hmo] at hmay
 obtain⟨R,hR⟩:∃R,R=zbi c m l d:=⟨_,rfl⟩
 obtain⟨S0,hS0⟩:∃S0,S0=xY c:=⟨_,rfl⟩
 have hR2:R=if mo then jR c m d S0 l else(xA,1):=by rw [hR,hmo,hS0];rfl
 rw [<-hR]
 have hstart:=λW hc=>zrJ W c (.slice ca c.threads.length cc) d hc
 rw [<-hS0] at hstart
 have hsb:wX 33 S0:=by rw [hS0];exact zeo c
 have hdo:=λW hc s sv mv hs hb x=>zro W c (.slice ca c.threads.length cc) d hc m s sv mv hs hb x
 obtain⟨C,hC⟩:∃C,C=c:=⟨_,rfl⟩
 obtain⟨M,hM⟩:∃M,M=m:=⟨_,rfl⟩
 rw [<-hC, <-hM] at hR2
 obtain⟨vars,dom,cs⟩:=c
 obtain⟨mod,bnd⟩:=m
 unfold yQ qg
 unfold yQ qg at hdo
 unfold yQ at hstart
 simp only [] at hc hmay hstart hdo ⊢
 obtain⟨cn,hcn⟩:∃cn,cn=cs.length:=⟨_,rfl⟩
 rw [<-hcn] at hc hmay hstart hdo ⊢
 rw [<-hC, <-hM] at hdo
 obtain⟨hB,h1,h2,h3⟩:=zce w (.cells #[.int .i64 vars, .int .i64 dom, .slice ca cn cc] 26) (.cells #[.int .i64 mod, .int .i64 bnd] 29) (.cells #[.slice none 0 0, .slice none 0 0, .bool false] 42)
 have HB:=qh hB
 have H1:=qh h1
 have H2:=qh h2
 have H3:=qh h3
 have wQ:=qh hc
 have HLS:=qh hl
 have zbg:=qh hmay
 have zfu:=qh hstart
 have HDO:=qh hdo
 have HSB:=qh hsb
 have HRR:=qh hR2
 have jJ:=qh hln
 clear hC hM hcn hmay hstart hdo hsb hR2 hmo hR hS0 hB h1 h2 h3 hc hl hln
 go_enter Tryz.func13,Tryz.ntmps13
 go_upto_region 1 with fail
 generalize World.alloc (World.alloc (World.alloc w _) _) _=W at HB H1 H2 H3 ⊢
 obtain⟨gx,hgx⟩:∃gx,gx=w.heap.size:=⟨_,rfl⟩
 rw [<-hgx] at H1 H2 H3 ⊢
 have xg:=qh hgx
 clear hgx
 have HK:Hid (∀y,Since (λk=>gx+2<=k) W y->y.cell? ⟨gx,0,none⟩=some (.int .i64 vars)/\y.cell? ⟨gx,1,none⟩=some (.int .i64 dom)/\y.cell? ⟨gx,2,none⟩=some (.slice ca cn cc)/\y.cell? ⟨gx+1,0,none⟩=some (.int .i64 mod)/\y.cell? ⟨gx+1,1,none⟩=some (.int .i64 bnd)):=λy hy=>by
  have k1:=(hy.block _ (zw H1.out) (by omega)).trans H1.out
  have k2:=(hy.block _ (zw H2.out) (by omega)).trans H2.out
  exact⟨ze k1 0,ze k1 1,ze k1 2,ze k2 0,ze k2 1⟩
 obtain⟨c0,c1,c2,e0,e1⟩:=HK.out W (Since.refl _ _)
 go_upto_if 15 with(go_at_call 26;go_must(refine(zbg.out W (zh.below (qD.stays d) wQ.out HB.out)).mono ?_);rintro e X1 ⟨rfl,hb⟩;have HB1:=qh hb;clear hb)
 clear c0 c1 c2 e0 e1
 have vC:Hid (Since (λk=>gx+2<=k) W X1):=xU _ HB1.out
 have H3X:=qh ((HB1.out.block _ (zw H3.out)).trans H3.out)
 cases mo with
 |false=>
  have hR:R=(xA,1):=HRR.out
  have hbx:=H3X.out
  obtain⟨hset,hsn⟩:=zfU hbx (.slice none 0 0) (.slice none 0 0) (.bool false)
  have hend:zff w R (.returned (.tuple #[.agg #[.slice none 0 0, .slice none 0 0, .bool false], .int .i64 1])) (((X1.setCell ⟨gx+2,0,none⟩ (.slice none 0 0)).setCell ⟨gx+2,1,none⟩ (.slice none 0 0)).setCell ⟨gx+2,2,none⟩ (.bool false)):=by
   rw [hR]
   exact⟨⟨none,none,0,0,0,0,rfl,zmK _⟩,(HB.out.trans (HB1.out.mono HB.out.size)).trans (hsn.below (Nat.le_trans HB.out.size HB1.out.size) (λk hk=>by have:=xg.out;omega))⟩
  have zJ:=qh hset
  have zR:=qh hend
  have b0:=ze hbx 0
  have b1:=ze hbx 1
  have b2:=ze hbx 2
  have f0:=zA hbx 0
  have f1:=zA hbx 1
  have f2:=zA hbx 2
  clear hset hend hbx hR hsn
  go_wp2_with fail
  refine bodyPost_ret (zC rfl _ _ (gx+2) 42 _ (0,0) _ rfl zJ.out Tryz.underlying42 rfl zM) rfl ?_
  exact zR.out
 |true=>
 have HR0:Hid (R=jR C M d S0 l):=HRR.out
 obtain⟨c0,c1,c2,e0,e1⟩:=HK.out X1 vC.out
 go_upto_region 4 with(go_at_call 27;go_must(refine(zfu.out X1 (zh.below (qD.stays d) wQ.out (zH HB.out HB1.out))).mono ?_);rintro e X2 ⟨⟨zv,yv,rfl,hst⟩,hb⟩;(obtain⟨za,zac,rfl, -⟩:=zh.slice hst.threads);(obtain⟨zb,zbc,rfl, -⟩:=zh.slice hst.mem);have HST:=qh hst;have HB2:=qh (zH HB1.out hb);have HBZ:=qh hb.size;unfold yA;clear hst hb)
 clear c0 c1 c2 e0 e1
 have hg2:gx+1+1=gx+2:=rfl
 obtain⟨gs,hgs⟩:∃g,g=X2.heap.size:=⟨_,rfl⟩
 obtain⟨n1,hn1⟩:∃n,n=S0.threads.length:=⟨_,rfl⟩
 obtain⟨n2,hn2⟩:∃n,n=S0.mem.length:=⟨_,rfl⟩
 rw [<-hn1, <-hn2] at HST ⊢
 have hL:zeE w (X2.alloc (.cells #[.slice za n1 zac, .slice zb n2 zbc, .bool S0.bad] 42)) (X2.alloc (.cells #[.slice za n1 zac, .slice zb n2 zbc, .bool S0.bad] 42)) (gx+2) gs S0 (.slice za n1 zac) (.slice zb n2 zbc):=by
  have h3:=zw H3X.out
  have h4:=HBZ.out
  have h5:=xg.out
  have h6:=HB1.out.size
  have h7:=zw H3.out
  have h8:=HB.out.size
  have hBX:Below X2.heap.size X2 (X2.alloc (.cells #[.slice za n1 zac, .slice zb n2 zbc, .bool S0.bad] 42)):=(Below.refl _ _).alloc (Nat.le_refl _) _
  have hk3:=(HB2.out.block _ h7).trans H3.out
  refine⟨Since.refl _ _,zH HB.out (zH HB2.out hBX),⟨by omega,by omega,by simp;omega⟩,(Below.heap_alloc _ _ _ (zw hk3)).trans hk3,by rw [hgs];exact yj _ _, ?_⟩
  exact HST.out.below hBX
 have hS2:Since (λk=>gx+2<=k) W (X2.alloc (.cells #[.slice za n1 zac, .slice zb n2 zbc, .bool S0.bad] 42)):=(xU _ HB2.out).alloc _
 have HL:=qh hL
 have HS2:=qh hS2
 clear hL hS2 HST HB2 HBZ hn1 hn2 H3X HB1 vC H3 hg2
 rw [<-hgs]
 clear hgs
 generalize World.alloc X2 _=W2 at HL HS2 ⊢
 go_wp2_with fail
 go_loopg [9] ln (λgg s21 wr=>∃(i:Nat) (s:zi) (pa qa:Option Addr) (pn pc qn qc:Nat),i<=ln/\Hid (gg=ln - i)/\s21= .int .i64 i/\Hid (zeE w W2 wr (gx+2) gs s (.slice pa pn pc) (.slice qa qn qc))/\Hid (R=jR C M d s (l.drop i))/\Hid (wX 33 s))
 case atStart=>exact⟨0,S0,za,zb,n1,zac,n2,zbc,Nat.zero_le _,rfl,rfl,HL.out,by rw [Hid,HR0.out];rfl,HSB.out⟩
 case round=>
 obtain⟨i,s,pa,qa,pn,pc,qn,qc,hi,HG,rfl,uR,HRI,HBU⟩:=hrel
 obtain⟨wo,rfl⟩:∃wo:World,wo=wr:=⟨_,rfl⟩
 clear HL
 have HSW:Hid (Since (λk=>gx+2<=k) W wo):=HS2.out.trans uR.out.since (λk hk=> .inl (by have:=uR.out.lo;omega))
 obtain⟨bd,hbd⟩:∃b,b=s.bad:=⟨_,rfl⟩
 have hbx:=uR.out.box
 rw [<-hbd] at hbx
 have b0:=ze hbx 0
 have b1:=ze hbx 1
 have b2:=ze hbx 2
 have xI:=qh hbx
 by_cases hlt:i<ln
 rotate_left
 ·obtain rfl:ln=i:=by omega
  have hR:R=(s,0):=by rw [HRI.out,jJ.out,List.drop_length];rfl
  obtain⟨hset,hs6,hb6⟩:=uR.out.fin (t:=s) (Below.refl _ _) uR.out.st
  rw [<-hbd] at hset hs6 hb6
  have hend:zff w R (.returned (.tuple #[.agg #[.slice pa pn pc, .slice qa qn qc, .bool bd], .int .i64 0])) (((wo.setCell ⟨gx+2,0,none⟩ (.slice pa pn pc)).setCell ⟨gx+2,1,none⟩ (.slice qa qn qc)).setCell ⟨gx+2,2,none⟩ (.bool bd)):=by
   rw [hR];exact⟨⟨pa,qa,pn,pc,qn,qc,by rw [hbd],hs6⟩,hb6⟩
  have zJ:=qh hset
  have zR:=qh hend
  have hrs:=uR.out.res
  have d0:=ze hrs 0
  have d1:=ze hrs 1
  have d2:=ze hrs 2
  have f0:=zA hrs 0
  have f1:=zA hrs 1
  have f2:=zA hrs 2
  clear hset hs6 hb6 hend hrs hR hbx hbd
  go_wp2_with fail
  refine bodyPost_ret (zC rfl _ _ (gx+2) 42 _ (0,0) _ rfl zJ.out Tryz.underlying42 rfl zM) rfl ?_
  exact zR.out
 have qN:(i:Int)<(ln:Int):=by omega
 obtain⟨mb,mof,yh, -,x0,x1,x2⟩:=j6.part (zh.below zcZ.stays HLS.out uR.out.all) i (by rw [<-jJ.out];exact hlt)
 subst yh
 obtain⟨x,hx⟩:∃x,x=l.getD i default:=⟨_,rfl⟩
 rw [<-hx] at x0 x1 x2
 obtain⟨⟨t,er⟩,hdd⟩:∃p,p=qB C M s x d:=⟨_,rfl⟩
 have hstp:R=if er=0 then jR C M d t (l.drop (i+1)) else(xA,er):=by
  rw [HRI.out,znC (by rw [<-jJ.out];exact hlt), <-hx, <-hdd]
 have hbt:wX 33 t:=by have:=zoh (c:=C) (m:=M) (s:=s) (x:=x) (d:=d);rw [<-hdd] at this;exact this
 have hst:=uR.out.st
 have hD:=λy (hy:Below wo.heap.size wo y)=>HDO.out y (zh.below (qD.stays d) wQ.out (zH uR.out.all hy)) s _ _ (hst.below hy) (λj hj=>by have:=HBU.out j hj;omega) x
 rw [<-hdd] at hD
 unfold yA zpw at hD
 rw [<-hbd] at hD
 have hpn:s.threads.length=pn:=by obtain⟨a,c,e, -⟩:=zh.slice hst.threads;cases e;rfl
 have HDD:=qh hD
 have zf5:=qh hstp
 have HBT:=qh hbt
 clear hD hstp hbt hst hdd hx hbx hbd hpn
 obtain⟨xk,xt,xv⟩:=x
 simp only [] at x0 x1 x2 HDD
 have C7:Hid (∀y,Below wo.heap.size wo y->y.cell? ⟨gx,0,none⟩=some (.int .i64 vars)/\y.cell? ⟨gx,1,none⟩=some (.int .i64 dom)/\y.cell? ⟨gx,2,none⟩=some (.slice ca cn cc)/\y.cell? ⟨gx+1,0,none⟩=some (.int .i64 mod)/\y.cell? ⟨gx+1,1,none⟩=some (.int .i64 bnd)/\
   y.cell? ⟨gs,0,none⟩=some (.slice pa pn pc)/\y.cell? ⟨gs,1,none⟩=some (.slice qa qn qc)/\y.cell? ⟨gs,2,none⟩=some (.bool bd)/\y.cell? ⟨mb,mof+i*3,none⟩=some (.int .i64 xk)/\y.cell? ⟨mb,mof+i*3+1,none⟩=some (.int .i64 xt)/\y.cell? ⟨mb,mof+i*3+2,none⟩=some (.int .i64 xv)):=λy hy=>by
  obtain⟨c0,c1,c2,e0,e1⟩:=HK.out y (HSW.out.trans (xU (λ_=>False) hy) (λ_ e=>e.elim))
  exact⟨c0,c1,c2,e0,e1,zk hy _ _ b0,zk hy _ _ b1,zk hy _ _ b2,zk hy _ _ x0,zk hy _ _ x1,zk hy _ _ x2⟩
 clear b0 b1 b2 x0 x1 x2
 go_upto_region 7 with fail
 go_cut [10,11] (λs10 s11 w'=>∃(g:Nat) (a b:Option Addr) (n c k f:Nat),s10= .pointer (some ⟨g,0,none⟩)/\s11= .int .i64 er/\Hid (w'.heap[g]? =some (.cells #[.slice a n c, .slice b k f, .bool t.bad] 42 (0,0)))/\Hid (zX w' t (.slice a n c) (.slice b k f))/\Hid (Below wo.heap.size wo w'))
 case first=>
  refine jf (S:=λx=>Below wo.heap.size wo x) (Below.refl _ _).drew (λ_=> ?_)
  obtain⟨V1a,hV1⟩:∃V1,V1=wo.drew:=⟨_,rfl⟩
  have zcP:Hid (Below wo.heap.size wo V1a):=by rw [hV1];exact(Below.refl _ _).drew
  rw [<-hV1]
  clear hV1
  refine zF 0 C7.out (zcP.out) ?_
  refine zF 1 C7.out (zcP.out) ?_
  refine zF 2 C7.out (zcP.out) ?_
  refine zF 3 zP (zcP.out) ?_
  refine zF 4 zP (zcP.out) ?_
  refine zF 5 zP (zcP.out) ?_
  refine zF 6 C7.out (zcP.out) ?_
  refine wpAnyH_ready (rs:= [7,11]) (by kernel_rfl) (by simp) ?_
  refine AllReadyH.cons rfl (λK hK=> ?_) (AllReadyH.cons rfl (λK hK=> ?_) AllReadyH.nil)
  ·skip
   go_simp
   refine(HDD.out V1a (zcP.out)).mono ?_
   rintro e Ya1 ⟨⟨ra,rn,rc,ua,un,uc,bs,rfl,ho⟩,hb⟩
   have hs:=ho.state t.bad
   unfold yA
   clear ho
   have z3e:=qh hs
   have zj9:=qh (zH zcP.out hb)
   clear hs hb
   refine hK.out _ _ zj9.out (λ_=> ?_)
   clear hK K
   refine zF 8 zP (zj9.out) ?_
   refine zF 9 zP (zj9.out) ?_
   refine zF 10 zP (zj9.out) ?_
   refine yC 11 rfl (λK hK=> ?_)
   go_simp
   have hz:=yj Ya1 (.cells #[.slice none 0 0, .slice none 0 0, .bool false] 42)
   have hb:=(Below.refl Ya1.heap.size Ya1).alloc (Nat.le_refl _) (.cells #[.slice none 0 0, .slice none 0 0, .bool false] 42)
   have HGL:Hid (wo.heap.size<=Ya1.heap.size):=(zj9.out).size
   have zxr:=qh (z3e.out.below hb)
   have zqu:=qh (zH zj9.out hb)
   clear hb
   refine hK.out _ _ zqu.out (λ_=> ?_)
   obtain⟨gsa,hgs⟩:∃g,g=Ya1.heap.size:=⟨_,rfl⟩
   rw [<-hgs] at hz HGL ⊢
   clear hgs
   generalize World.alloc Ya1 _=Ya3 at hz zxr zqu ⊢
   have zdr:=qh hz
   clear hz
   clear hK K
   refine yC 12 rfl (λK hK=> ?_)
   have d0:=ze zdr.out 0
   have d1:=ze zdr.out 1
   have d2:=ze zdr.out 2
   have f0:=zA zdr.out 0
   have f1:=zA zdr.out 1
   have f2:=zA zdr.out 2
   have zcQ:=qh (vw (cs:= [.slice none 0 0, .slice none 0 0, .bool false]) [.slice ra rn rc, .slice ua un uc, .bool t.bad] rfl zdr.out)
   have hsi:=xR (g:=gsa) [.slice ra rn rc, .slice ua un uc, .bool t.bad] Ya3 0
   have zeF:=qh (zdp zxr.out zdr.out hsi)
   have zak:Hid (Below wo.heap.size wo (yx Ya3 gsa 0 [.slice ra rn rc, .slice ua un uc, .bool t.bad])):=(zqu.out).trans (hsi.below (zqu.out).size (λk hk=>by have:=HGL.out;omega))
   clear hsi HGL
   go_simp
   clear d0 d1 d2 f0 f1 f2
   refine hK.out _ (yx Ya3 gsa 0 [.slice ra rn rc, .slice ua un uc, .bool t.bad]) zak.out (λ_=> ?_)
   generalize yx Ya3 gsa 0 _=Y9a at zcQ zeF zak ⊢
   clear hK K
   refine zF 13 zP (zak.out) ?_
   refine xW ?_
   go_wp2_with fail
   go_meet
   case rel=>exact⟨gsa,ra,ua,rn,rc,un,uc,rfl,rfl,zcQ.out,zeF.out,zak.out⟩
  skip
  go_simp
  have hz:=yj V1a (.cells #[.slice none 0 0, .slice none 0 0, .bool false] 42)
  have hb:=(Below.refl V1a.heap.size V1a).alloc (Nat.le_refl _) (.cells #[.slice none 0 0, .slice none 0 0, .bool false] 42)
  have HGL:Hid (wo.heap.size<=V1a.heap.size):=(zcP.out).size
  have zqv:=qh (zH zcP.out hb)
  clear hb
  refine hK.out _ _ zqv.out (λ_=> ?_)
  obtain⟨gsa,hgs⟩:∃g,g=V1a.heap.size:=⟨_,rfl⟩
  rw [<-hgs] at hz HGL ⊢
  clear hgs
  generalize World.alloc V1a _=Ya5 at hz zqv ⊢
  have zxu:=qh hz
  clear hz
  clear hK K
  refine yC 7 rfl (λK hK=> ?_)
  go_simp
  refine(HDD.out Ya5 (zqv.out)).mono ?_
  rintro e Ya7 ⟨⟨ra,rn,rc,ua,un,uc,bs,rfl,ho⟩,hb⟩
  have hs:=ho.state t.bad
  unfold yA
  clear ho
  have zds:=qh ((hb.block gsa (zw zxu.out)).trans zxu.out)
  have z3f:=qh hs
  have zjA:=qh (zH zqv.out hb)
  clear hs hb
  refine hK.out _ _ zjA.out (λ_=> ?_)
  clear hK K
  refine zF 8 zP (zjA.out) ?_
  refine zF 9 zP (zjA.out) ?_
  refine zF 10 zP (zjA.out) ?_
  refine yC 12 rfl (λK hK=> ?_)
  have d0:=ze zds.out 0
  have d1:=ze zds.out 1
  have d2:=ze zds.out 2
  have f0:=zA zds.out 0
  have f1:=zA zds.out 1
  have f2:=zA zds.out 2
  have zcQ:=qh (vw (cs:= [.slice none 0 0, .slice none 0 0, .bool false]) [.slice ra rn rc, .slice ua un uc, .bool t.bad] rfl zds.out)
  have hsi:=xR (g:=gsa) [.slice ra rn rc, .slice ua un uc, .bool t.bad] Ya7 0
  have zeF:=qh (zdp z3f.out zds.out hsi)
  have zak:Hid (Below wo.heap.size wo (yx Ya7 gsa 0 [.slice ra rn rc, .slice ua un uc, .bool t.bad])):=(zjA.out).trans (hsi.below (zjA.out).size (λk hk=>by have:=HGL.out;omega))
  clear hsi HGL
  go_simp
  clear d0 d1 d2 f0 f1 f2
  refine hK.out _ (yx Ya7 gsa 0 [.slice ra rn rc, .slice ua un uc, .bool t.bad]) zak.out (λ_=> ?_)
  generalize yx Ya7 gsa 0 _=Y9a at zcQ zeF zak ⊢
  clear hK K
  refine zF 13 zP (zak.out) ?_
  refine xW ?_
  go_wp2_with fail
  go_meet
  case rel=>exact⟨gsa,ra,ua,rn,rc,un,uc,rfl,rfl,zcQ.out,zeF.out,zak.out⟩
 case rest=>
 obtain⟨gt,ra,ua,rn,rc,un,uc,rfl,rfl,zcQ,zeF,zak⟩:=hcut
 obtain⟨Y9a,rfl⟩:∃Y:World,Y=wc:=⟨_,rfl⟩
 have hb9:=(zak.out.block _ (zw xI.out)).trans xI.out
 have g0:=ze hb9 0
 have g1:=ze hb9 1
 have g2:=ze hb9 2
 have g3:=zA hb9 0
 have g4:=zA hb9 1
 have g5:=zA hb9 2
 have z0:=ze zcQ.out 0
 have z1:=ze zcQ.out 1
 have z2:=ze zcQ.out 2
 have hput:=uR.out.put zak.out zeF.out
 have jE:=qh hput
 have HR3:Hid (∀a b c:Nat,Y9a.heap[gx+2]? =some (.cells #[.slice none 0 0, .slice none 0 0, .bool false] 42 (0,0))/\(a=b->b=c->a=c)):=λa b c=>⟨(zak.out.block _ (zw uR.out.res)).trans uR.out.res,λh1 h2=>h1.trans h2⟩
 clear hput hb9 HDD xI C7
 by_cases her:er=0
 ·subst her
  have z6V:Hid (R=jR C M d t (l.drop (i+1))):=by rw [Hid,zf5.out,if_pos rfl]
  clear zcQ zeF zak uR HR3
  go_wp2_with fail
  go_roundg (ln - (i+1))
  case measure=>rw [HG.out];omega
  case rel=>exact⟨i+1,t,ra,ua,rn,rc,un,uc,by omega,rfl,by simp,jE.out,z6V.out,HBT.out⟩
 have hR:R=(xA,er):=by rw [zf5.out,if_neg her]
 obtain⟨hset,hs6,hb6⟩:=uR.out.fin (t:=xA) (pv:= .slice none 0 0) (qv:= .slice none 0 0) zak.out (zmK _)
 have hend:zff w R (.returned (.tuple #[.agg #[.slice none 0 0, .slice none 0 0, .bool false], .int .i64 er])) (((Y9a.setCell ⟨gx+2,0,none⟩ (.slice none 0 0)).setCell ⟨gx+2,1,none⟩ (.slice none 0 0)).setCell ⟨gx+2,2,none⟩ (.bool false)):=by
  rw [hR];exact⟨⟨none,none,0,0,0,0,rfl,hs6⟩,hb6⟩
 have zJ:=qh hset
 have zR:=qh hend
 have hbx:=(HR3.out 0 0 0).1
 have b0:=ze hbx 0
 have b1:=ze hbx 1
 have b2:=ze hbx 2
 have f0:=zA hbx 0
 have f1:=zA hbx 1
 have f2:=zA hbx 2
 have zA6:(er !=0)=true:=by simpa using her
 clear hset hs6 hb6 hend hbx hR zcQ zeF zak uR jE HR3
 go_wp2_with fail
 (try simp only [Exit.inBlock,Exit.then])
 refine bodyPost_ret (zC rfl _ _ (gx+2) 42 _ (0,0) _ rfl zJ.out Tryz.underlying42 rfl zM) rfl ?_
 exact zR.out
