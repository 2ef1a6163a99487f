/- Steps. -/
import Derived.Test.YtliajkheeniljaaGreatDoorZrFits
import Derived.Test.YtliajkheeniljaaGreatDoorZrSame7
import Derived.Test.YtliajkheeniljaaGreatDoorZrStep
set_option linter.all false
namespace Go.Proofs.YtliajkheeniljaaGreatDoor
open Go.RowKit
set_option maxRecDepth 100000
set_option maxHeartbeats 16000000
theorem zaM (w:World) (o1 o2 o3:Obj):Below w.heap.size w (((w.alloc o1).alloc o2).alloc o3)/\(((w.alloc o1).alloc o2).alloc o3).heap[w.heap.size]? =some o1/\(((w.alloc o1).alloc o2).alloc o3).heap[w.heap.size+1]? =some o2/\(((w.alloc o1).alloc o2).alloc o3).heap[w.heap.size+2]? =some o3:=
 ⟨zaD w _ _ _,zaE w _ _ _,zar w _ _ _,zaF w _ _ _⟩
theorem bD (x:zx):(zx.cells x).length=3:=rfl
theorem bC:(Tryz.prog.info? 32).map (λi=>(i.zero,i.size,i.bytes))=some (some (.agg #[.int .i64 0, .int .i64 0, .int .i64 0]),3,24):=by kernel_rfl
theorem zbY (l:List zk) (model:Int):(yL l model).length<=l.length:=by
 unfold yL
 split
 ·exact zgV _ _
 split
 ·cases l<;>simp
 simp
theorem zpO (c:zP) (m:zI) (s:zl) (d i:Nat) (h:(s.threads.getD i default).buf.length<=100000):(kZ c m s d i).length<=100001:=by
 unfold kZ
 have:=zbY (s.threads.getD i default).buf m.model
 rw [List.length_append,List.length_map]
 split<;>simp only [List.length_cons,List.length_nil] <;>omega
theorem zb4 {α:Type} (f:α->List Value) (l:List α) (x:α):zq f (l++ [x])=zq f l++f x:=by simp [zq]
theorem zaO {α:Type} (f:Nat->List α) (i:Nat):(List.range (i+1)).flatMap f=(List.range i).flatMap f++f i:=by rw [List.range_succ];simp
theorem zm1 {α:Type} {f:α->List Value} {B:Nat} {e:TypeId} {size:Nat} {w X:World} {a a':Option Addr} {n m c c':Nat} {l:List α} {x:α} {o:Obj} (ho:w.ownsRow B e size (.slice a n c) n (zq f l)) (h1:X.ownsRow B e size (.slice a' m c') m (zq f l++f x))
  (h4:Since (λk=>(Value.slice a n c).ownBlock=some k) (w.alloc o) X) {V:World} (hV:Below V.heap.size V w) (hB:V.heap.size<=B):X.ownsRow B e size (.slice a' m c') m (zq f (l++ [x]))/\Below V.heap.size V X:=by
 refine⟨by rw [zb4];exact h1,hV.trans ((((Since.refl _ w).alloc o).trans h4 (λk hk=> .inl hk)).below hV.size (λk hk=>Nat.le_trans hB (ho.lt k hk).1))⟩
theorem zgQ {B:Nat} {e:TypeId} {size n:Nat} {w X:World} {v v' hv:Value} {xs:List Value} {o:Obj} (h:w.ownsRow B e size hv n xs) (hne:∀k,v.ownBlock=some k->hv.ownBlock≠some k) (h4:Since (λk=>v.ownBlock=some k) (w.alloc o) X)
  (h5:∀k,v'.ownBlock=some k->v.ownBlock=some k\/k=(w.alloc o).heap.size):X.ownsRow B e size hv n xs/\∀k,v'.ownBlock=some k->hv.ownBlock≠some k:=by
 refine⟨h4.row (h.alloc o) (λk h1 h2=>hne k h2 h1),λk h1 h2=> ?_⟩
 rcases h5 k h1 with h3|h3
 ·exact hne k h3 h2
 have:=(h.lt k h2).2;simp at h3;omega
def zh4 (w:World) (l:List zx) (e:Ending) (w':World):Prop:=(∃va vc,e= .returned (.slice va l.length vc)/\w'.ownsRow w.heap.size 32 3 (.slice va l.length vc) l.length (zq zx.cells l))/\Below w.heap.size w w'
theorem zgW {w w':World} {l:List zx} {va:Option Addr} {vn vc:Nat} (h:l.length=vn) (ho:w'.ownsRow w.heap.size 32 3 (.slice va vn vc) vn (zq zx.cells l)) (hb:Below w.heap.size w w'):zh4 w l (.returned (.slice va vn vc)) w':=by
 subst h;exact⟨⟨va,vc,rfl,ho⟩,hb⟩
theorem zrJ (w:World) (c:zP) (cv:Value) (d:Nat) (hc:yO d w cv c.threads) (m:zI) (s:zl) (sv mv:Value) (hs:zY w s sv mv) (hb:∀j,j<s.threads.length->(s.threads.getD j default).buf.length<=100000):
  Calls Tryz.prog 36 #[yH c cv,xu m,yB s sv mv] w (zh4 w (jm c m s d)):=by
 obtain⟨ca,cc,rfl, -⟩:=zh.slice hc
 obtain⟨ta,jr,rfl, -⟩:=zh.slice hs.threads
 obtain⟨ma,vQ,rfl, -⟩:=zh.slice hs.mem
 obtain⟨fo,hfo⟩:∃fo,fo=yJ c m s:=⟨_,rfl⟩
 obtain⟨R,hR⟩:∃R,R=jm c m s d:=⟨_,rfl⟩
 rw [<-hR]
 have hfits:=λW hc hs=>zkY W c (.slice ca c.threads.length cc) d hc m s (.slice ta s.threads.length jr) (.slice ma s.mem.length vQ) hs (λj hj=>by have:=hb j hj;omega)
 rw [<-hfo] at hfits
 have hstep:=λW hc hs i=>λ(hf:fo=true) hi=>zkZ W c (.slice ca c.threads.length cc) d hc m s (.slice ta s.threads.length jr) (.slice ma s.mem.length vQ) hs (hfo.symm.trans hf) i hi hb
 have bA:fo=true->s.threads.length<=4:=λe=>by
  obtain⟨h1, -,h2,h3, -⟩:=pE (hfo.symm.trans e)
  have h4:=xV h1
  rw [h2];exact h4.2.2.2.2.2
 have hmt:=λi (hi:i<s.threads.length)=>zpO c m s d i (hb i hi)
 have hR2:R=if fo then(List.range s.threads.length).flatMap (kZ c m s d) else [] :=by rw [hR,hfo];rfl
 have hmT:∀i,kZ c m s d i=(if (jZ c m s i d).isSome then [⟨1,i,0⟩] else [])++(yL (s.threads.getD i default).buf m.model).map λv=>(⟨2,i,v⟩:zx):=λi=>rfl
 obtain⟨MT,hMT⟩:∃MT,MT=kZ c m s d:=⟨_,rfl⟩
 rw [<-hMT] at hR2 hmt hmT
 have hT:=hs.threads
 obtain⟨vars,dom,cs⟩:=c
 obtain⟨mod,bnd⟩:=m
 obtain⟨ts,mem,bad⟩:=s
 obtain⟨SS,hSS⟩:∃SS,SS=λi=>jZ ⟨vars,dom,cs⟩ ⟨mod,bnd⟩ ⟨ts,mem,bad⟩ i d:=⟨_,rfl⟩
 have z1D:∀i,jZ ⟨vars,dom,cs⟩ ⟨mod,bnd⟩ ⟨ts,mem,bad⟩ i d=SS i:=λi=>by rw [hSS]
 simp only [] at hc hs hb bA hfits hstep hR2 hmt hT hmT ⊢
 simp only [z1D] at hstep hmT
 unfold yH xu yB
 unfold yH xu yB at hfits
 have hstep2:∀W,yO d W (.slice ca cs.length cc) cs->zY W ⟨ts,mem,bad⟩ (.slice ta ts.length jr) (.slice ma mem.length vQ)->∀i,fo=true->i<ts.length->Calls Tryz.prog 62 #[.agg #[.int .i64 vars, .int .i64 dom, .slice ca cs.length cc], .agg #[.int .i64 mod, .int .i64 bnd], .agg #[.slice ta ts.length jr, .slice ma mem.length vQ, .bool bad], .int .i64 i] W λe w'=>(∃xa xn xc ya yn yc b',e= .returned (.tuple #[.agg #[.slice xa xn xc, .slice ya yn yc, .bool b'], .bool (SS i).isSome]))/\Below W.heap.size W w':=λW h1 h2 i h3 h4=>
  (hstep W h1 h2 i h3 h4).mono λe w' ⟨⟨xa,xn,xc,ya,yn,yc,s',he,_⟩,hb⟩=>⟨⟨xa,xn,xc,ya,yn,yc,s'.bad,he⟩,hb⟩
 clear hstep
 simp only [] at hfits ⊢
 obtain⟨n,hn⟩:∃n,n=ts.length:=⟨_,rfl⟩
 obtain⟨cn,hcn⟩:∃cn,cn=cs.length:=⟨_,rfl⟩
 obtain⟨mn,hmn⟩:∃mn,mn=mem.length:=⟨_,rfl⟩
 rw [<-hn] at hs hT hb hfits hstep2 bA hR2 hmt ⊢
 rw [<-hmn] at hs hfits hstep2 ⊢
 rw [<-hcn] at hc hfits hstep2 ⊢
 obtain⟨hB,h1,h2,h3⟩:=zaM w (.cells #[.int .i64 vars, .int .i64 dom, .slice ca cn cc] 24) (.cells #[.int .i64 mod, .int .i64 bnd] 26) (.cells #[.slice ta n jr, .slice ma mn vQ, .bool bad] 30)
 have HB:=qh hB
 have H1:=qh h1
 have H2:=qh h2
 have H3:=qh h3
 have jN:=qh (zh.below (xU.stays d) hc hB)
 have HSW:=qh (zY.below hs hB)
 have HT:=qh (zh.below uQ.stays hT hB)
 have HN:=qh hn
 have HBU:=qh hb
 have zcS:=qh hfits
 have uy:=qh hstep2
 have HN4:=qh bA
 have HMT:=qh hmt
 have z6D:=qh hmT
 have HRR:=qh hR2
 clear hn hcn hmn hb hfits hstep2 bA hR2 hfo hB h1 h2 h3 hT hc hs hR hMT hSS z1D hmt hmT
 go_enter Tryz.func36,Tryz.ntmps36
 go_upto_region 1 with fail
 generalize World.alloc (World.alloc (World.alloc w _) _) _=W at HB H1 H2 H3 jN HSW HT ⊢
 obtain⟨gx,hgx⟩:∃gx,gx=w.heap.size:=⟨_,rfl⟩
 rw [<-hgx] at H1 H2 H3 ⊢
 have yS:Hid (w.heap.size<=W.heap.size):=HB.out.size
 clear hgx
 have qm:Hid (∀y,Below W.heap.size W y->y.cell? ⟨gx,0,none⟩=some (.int .i64 vars)/\y.cell? ⟨gx,1,none⟩=some (.int .i64 dom)/\y.cell? ⟨gx,2,none⟩=some (.slice ca cn cc)/\
   y.cell? ⟨gx+1,0,none⟩=some (.int .i64 mod)/\y.cell? ⟨gx+1,1,none⟩=some (.int .i64 bnd)/\y.cell? ⟨gx+2,0,none⟩=some (.slice ta n jr)/\y.cell? ⟨gx+2,1,none⟩=some (.slice ma mn vQ)/\y.cell? ⟨gx+2,2,none⟩=some (.bool bad)):=λy hx=>
  ⟨zi hx _ _ (ze H1.out 0),zi hx _ _ (ze H1.out 1),zi hx _ _ (ze H1.out 2),zi hx _ _ (ze H2.out 0),zi hx _ _ (ze H2.out 1),zi hx _ _ (ze H3.out 0),zi hx _ _ (ze H3.out 1),zi hx _ _ (ze H3.out 2)⟩
 have yG:Hid (∀x,Below W.heap.size W x->Below w.heap.size w x):=λx hx=>HB.out.trans (hx.mono HB.out.size)
 obtain⟨c0,c1,c2,c3,c4,c5,c6,c7⟩:=qm.out W (Below.refl _ _)
 go_wp2_with fail
 refine(zcS.out W jN.out HSW.out).mono ?_
 rintro e W1 ⟨rfl,hb1⟩
 have HB1:=qh hb1
 clear hb1 zcS c0 c1 c2 c3 c4 c5 c6 c7
 cases fo with
 |false=>
  have hr:R.length=0:=by rw [HRR.out];rfl
  have hr2:zq zx.cells R= [] :=by rw [HRR.out];rfl
  have HR:=qh hr
  have HR2:=qh hr2
  clear hr hr2
  go_wp2_with fail
  go_ret
  exact zgW HR.out (by rw [HR2.out];exact World.ownsRow_nil _ _ _ _) (yG.out _ HB1.out)
 |true=>
 have bA:n<=4:=HN4.out (by trivial)
 have HR:Hid (R=(List.range n).flatMap MT):=by rw [Hid,HRR.out];rfl
 clear HRR HN4
 go_wp2_with fail
 go_loopg [7,8] n (λgg s7 s8 wr=>∃(i:Nat) (oa:Option Addr) (on oc:Nat) (ml:List zx),i<=n/\Hid (gg=n - i)/\s7= .slice oa on oc/\s8= .int .i64 i/\on<=100001*i/\Hid (wr.ownsRow W.heap.size 32 3 (.slice oa on oc) on (zq zx.cells ml))/\Hid (ml.length=on)/\Hid (ml=(List.range i).flatMap MT)/\Hid (Below W.heap.size W wr))
 case atStart=>exact⟨0,none,0,0, [],Nat.zero_le _,rfl,rfl,rfl,by omega,World.ownsRow_nil _ _ _ _,rfl,rfl,HB1.out⟩
 case round=>
 obtain⟨i,oa,on,oc,ml,hi,HG,rfl,rfl,hon,HRO,kR,uU,zM⟩:=hrel
 obtain⟨wo,rfl⟩:∃wo:World,wo=wr:=⟨_,rfl⟩
 obtain⟨c0,c1,c2,c3,c4,c5,c6,c7⟩:=qm.out wo zM.out
 by_cases hlt:i<n
 rotate_left
 ·obtain rfl:n=i:=by omega
  have HR2:Hid (R=ml):=by rw [Hid,HR.out,uU.out]
  go_wp2_with fail
  go_ret
  exact zgW (by rw [HR2.out];exact kR.out) (by rw [HR2.out];exact xw HRO.out yS.out) (yG.out _ zM.out)
 have qx:(i:Int)<(n:Int):=by omega
 obtain⟨tb,yK,ba,bc,hta, -, -, -, -, -, -, -,x5,hbuf⟩:=qP.part HT.out i (by rw [<-HN.out];exact hlt)
 subst hta
 have hbl:=HBU.out i hlt
 have hmt:=z6D.out i
 have hml:=HMT.out i hlt
 generalize ts.getD i default=t at x5 hbuf hbl hmt
 have z6E:=qh hml
 obtain⟨hh,hhh⟩:∃hh,hh=yL t.buf mod:=⟨_,rfl⟩
 rw [<-hhh] at hmt
 have z1E:=qh hmt
 have hhl:hh.length<=100000:=by have:=zbY t.buf mod;rw [hhh];omega
 obtain⟨bl,kE⟩:∃bl,bl=t.buf.length:=⟨_,rfl⟩
 rw [<-kE] at x5 hbuf
 have zal:Hid (∀y,Below W.heap.size W y->Calls Tryz.prog 63 #[.slice ba bl bc, .int .i64 mod] y λe w'=>(∃va vc,e= .returned (.slice va hh.length vc)/\w'.ownsRow y.heap.size 3 1 (.slice va hh.length vc) hh.length (zq yP hh))/\Below y.heap.size y w'):=λy hy=>
  (zkh y (.slice ba bl bc) t.buf (zV.below hbuf hy) (by omega) mod).mono λe w' ⟨⟨sv,sn,he,hsn,hi⟩,hb⟩=>by
   rw [<-hhh] at hi hsn
   subst hsn
   obtain⟨a,cp,rfl, -⟩:=xC hi
   exact⟨⟨a,cp,he,hi⟩,hb⟩
 have HX5:Hid (∀y,Below W.heap.size W y->y.cell? ⟨tb,yK+i*6+5,none⟩=some (.slice ba bl bc)):=λy hy=>zi hy _ _ x5
 obtain⟨hn,hhn⟩:∃hn,hn=hh.length:=⟨_,rfl⟩
 rw [<-hhn] at zal hhl
 have HHN:=qh hhn
 clear hhn hhh kE x5 hbuf hbl hmt hml
 go_upto_if 33 with(go_at_call 62;go_must(refine(uy.out wo (zh.below (xU.stays d) jN.out zM.out) (HSW.out.below zM.out) i (by trivial) hlt).mono ?_);rintro e W2 ⟨⟨xa,xn,xc,ya,yn,yc,b',rfl⟩,hb2⟩;have HB2:=qh hb2;clear hb2)
 have hbx:=(Below.refl wo.heap.size wo).trans ((HB2.out).alloc HB2.out.size (.cells #[.slice xa xn xc, .slice ya yn yc, .bool b'] 30))
 have yZ:=qh hbx
 clear hbx c0 c1 c2 c3 c4 c5 c6 c7
 generalize World.alloc W2 _=W3 at yZ ⊢
 have zvg:=qh (xZ HRO.out yZ.out)
 have HB3:=qh (zD zM.out yZ.out)
 clear HB2 yZ HRO zM
 generalize hSS:(SS i).isSome=is at z1E ⊢
 clear hSS
 go_cut [7] (λs7 w'=>∃(pa:Option Addr) (pn pc:Nat) (pl:List zx),s7= .slice pa pn pc/\pn<=on+1/\Hid (w'.ownsRow W.heap.size 32 3 (.slice pa pn pc) pn (zq zx.cells pl))/\Hid (pl.length=pn)/\Hid (pl=ml++(if is then [⟨1,i,0⟩] else []))/\Hid (Below W.heap.size W w'))
 case first=>
  cases is with
  |true=>
   go_wp2_with(at_builtin;go_must(refine zJ _ rfl _ _ 52 rfl 32 (.agg #[.int .i64 0, .int .i64 0, .int .i64 0]) 3 24 Tryz.underlying52 bC rfl (by decide) W.heap.size (.slice oa on oc) on (zq zx.cells ml) rfl ((zvg.out).alloc _) ⟨W3.heap.size,0,none⟩ 1 1 (zx.cells ⟨1,i,0⟩) rfl rfl (qO _ (zx.cells ⟨1,i,0⟩) _) (by simp [zx.cells,Value.oneCell']) (by unfold maxLen;omega) (by omega) (by have:=HB3.out.size;simp;omega) ?_);intro ja jc X f1 f2 f3 f4 f5 f6;have HE:=qh (zm1 (zvg.out) f1 f4 (HB3.out) (Nat.le_refl _));clear f1 f2 f3 f4 f5 f6)
   go_meet
   case rel=>exact⟨ja,on+1,jc,ml++ [(⟨1,(i:Int),0⟩:zx)],rfl,by omega,HE.out.1,by rw [Hid,List.length_append,kR.out];rfl,by simp [Hid],HE.out.2⟩
  |false=>
  go_wp2_with fail
  go_meet
  case rel=>exact⟨oa,on,oc,ml,rfl,by omega,zvg.out,kR.out,by simp [Hid],HB3.out⟩
 case rest=>
 obtain⟨pa,pn,pc,pl,rfl,hpn,HPR,HPN,jM,jw⟩:=hcut
 obtain⟨W4,rfl⟩:∃W4:World,W4=wc:=⟨_,rfl⟩
 go_upto_region 10 with fail
 have HCX:Hid (∀y,Below W4.heap.size W4 y->y.cell? ⟨gx+2,0,none⟩=some (.slice (some ⟨tb,yK,none⟩) n jr)/\y.cell? ⟨gx+1,0,none⟩=some (.int .i64 mod)/\y.cell? ⟨tb,yK+i*6+5,none⟩=some (.slice ba bl bc)):=λy hy=>by
  have hw:=zD jw.out hy
  obtain⟨-, -, -,c3, -,c5, -, -⟩:=qm.out y hw
  exact⟨c5,c3,HX5.out y hw⟩
 have zoh:Hid (∀y,Below W4.heap.size W4 y->Calls Tryz.prog 63 #[.slice ba bl bc, .int .i64 mod] y λe w'=>(∃va vc,e= .returned (.slice va hn vc)/\w'.ownsRow y.heap.size 3 1 (.slice va hn vc) hn (zq yP hh))/\Below y.heap.size y w'):=λy hy=>zal.out y (zD jw.out hy)
 refine qL (S:=λx=>Below W4.heap.size W4 x) (Below.refl _ _).drew (λhH=> ?_)
 refine zo 0 HCX.out ?_
 refine zo 1 HCX.out ?_
 refine zo 2 HCX.out ?_
 refine zo 3 HCX.out ?_
 refine zo 4 HCX.out ?_
 refine zo 5 HCX.out ?_
 refine zo 6 HCX.out ?_
 refine zo 7 HCX.out ?_
 refine yw 8 rfl (λK hK=> ?_)
 go_simp
 refine(zoh.out W4.drew hH).mono ?_
 rintro e hw8 ⟨⟨va,vc,rfl,hhr⟩,hb⟩
 have HHI:=qh hhr
 have HHG:Hid (W4.heap.size<=W4.drew.heap.size):=(hH).size
 clear hhr
 have zvh:Below W4.heap.size W4 hw8:=zD hH hb
 refine hK.out _ _ zvh (λ_=> ?_)
 clear hK K hb hH
 refine zo 9 HCX.out ?_
 refine xE ?_
 have zR:=qh zvh
 clear zvh
 go_wp2_with fail
 obtain⟨W5,hW5⟩:∃W5,W5=hw8:=⟨_,rfl⟩
 rw [<-hW5] at zR HHI ⊢
 clear hW5
 have z6F:=qh (xZ HPR.out zR.out)
 have HB5:=qh (zD jw.out zR.out)
 have z6G:Hid (∀x,(Value.slice pa pn pc).ownBlock=some x->(Value.slice va hn vc).ownBlock≠some x):=λx h1 h2=>by have:=(HPR.out.lt x h1).2;have:=(HHI.out.lt x h2).1;have:=HHG.out;omega
 clear zal zoh HCX zR jw HPR HHG
 go_loopg [7,12] hn (λgg s7 s12 wr=>∃(k:Nat) (qa:Option Addr) (qn qc:Nat) (ql:List zx),k<=hn/\Hid (gg=hn - k)/\s7= .slice qa qn qc/\s12= .int .i64 k/\qn<=on+1+k/\Hid (wr.ownsRow W.heap.size 32 3 (.slice qa qn qc) qn (zq zx.cells ql))/\Hid (ql.length=qn)/\Hid (ql=pl++(hh.take k).map (λv=>⟨2,i,v⟩))/\Hid (∃B,wr.ownsRow B 3 1 (.slice va hn vc) hn (zq yP hh))/\Hid (∀x,(Value.slice qa qn qc).ownBlock=some x->(Value.slice va hn vc).ownBlock≠some x)/\Hid (Below W.heap.size W wr))
 case atStart=>exact⟨0,pa,pn,pc,pl,Nat.zero_le _,rfl,rfl,rfl,by omega,z6F.out,HPN.out,by simp [Hid],⟨_,HHI.out⟩,z6G.out,HB5.out⟩
 case round=>
 obtain⟨k,qa,qn,qc,ql,hk,HG2,rfl,rfl,hqn,HQR,HQN,HQL,HHR,wH,yt⟩:=hrel
 by_cases hkl:k<hn
 rotate_left
 ·obtain rfl:hn=k:=by omega
  have hst:ql=(List.range (i+1)).flatMap MT:=by
   rw [zaO,z1E.out, <-uU.out,HQL.out,jM.out,HHN.out,List.take_length,List.append_assoc]
  have z6H:qn<=100001*(i+1):=by
   have h1:=z6E.out
   have h2:=congrArg List.length hst
   rw [zaO,List.length_append, <-uU.out,kR.out,HQN.out] at h2
   omega
  have HST:=qh hst
  clear hst
  go_wp2_with fail
  go_roundg (n - (i+1))
  case measure=>rw [HG.out];omega
  case rel=>exact⟨i+1,qa,qn,qc,ql,by omega,rfl,rfl,by simp,z6H,HQR.out,HQN.out,HST.out,yt.out⟩
 have zmj:(k:Int)<(hn:Int):=by omega
 obtain⟨BH,hhr⟩:=HHR.out
 have hrw:=hhr
 rw [HHN.out] at hrw
 obtain⟨b9,o9,yg, -,e1⟩:=xI.part (gF hrw) k (by rw [<-HHN.out];exact hkl)
 subst yg
 have HRB:=qh hhr
 clear hhr hrw
 have jv:Hid (hh.take (k+1)=hh.take k++ [hh.getD k 0]):=by rw [Hid,List.take_succ_eq_append_getElem (by rw [<-HHN.out];exact hkl),List.getD_eq_getElem?_getD,List.getElem?_eq_getElem (by rw [<-HHN.out];exact hkl)];rfl
 generalize hh.getD k 0=v at e1 jv
 go_wp2_with(at_builtin;go_must(refine zJ _ rfl _ _ 52 rfl 32 (.agg #[.int .i64 0, .int .i64 0, .int .i64 0]) 3 24 Tryz.underlying52 bC rfl (by decide) W.heap.size (.slice qa qn qc) qn (zq zx.cells ql) rfl ((HQR.out).alloc _) ⟨wr.heap.size,0,none⟩ 1 1 (zx.cells ⟨2,i,v⟩) rfl rfl (qO _ (zx.cells ⟨2,i,v⟩) _) (by simp [zx.cells,Value.oneCell']) (by unfold maxLen;omega) (by omega) (by have:=yt.out.size;simp;omega) ?_);intro ja jc X f1 f2 f3 f4 f5 f6;have HE:=qh (zm1 (HQR.out) f1 f4 (yt.out) (Nat.le_refl _));have HE2:=qh (zgQ HRB.out wH.out f4 f5);clear f1 f2 f3 f4 f5 f6)
 go_roundg (hn - (k+1))
 case measure=>rw [HG2.out];omega
 case rel=>exact⟨k+1,ja,qn+1,jc,ql++ [(⟨2,(i:Int),v⟩:zx)],by omega,rfl,rfl,by simp,by omega,HE.out.1,by rw [Hid,List.length_append,HQN.out];rfl,by rw [Hid,HQL.out,jv.out];simp,⟨_,HE2.out.1⟩,HE2.out.2,HE.out.2⟩
theorem zcc:Tryz.prog.underlying 32=some (.struct (Tryz.prog.fieldsOf 32)):=by kernel_rfl
theorem zpP:Tryz.prog.stoodInHeld 32=false:=by kernel_rfl
@[go_sem] theorem z2Q:Tryz.prog.eqGuardType Tryz.prog.depth 32=false:=by kernel_rfl
theorem zns:(Tryz.prog.fieldsOf 32).toList.map (λf=>(f.name,f.type,f.offset))= [("Kind",3,0),("Thread",3,1),("Var",3,2)] :=by kernel_rfl
@[go_sem] theorem z2t (w:World) (a b c x y z:Int):(Op.equalIn 10000 32 (.agg #[.int .i64 a, .int .i64 b, .int .i64 c]) (.agg #[.int .i64 x, .int .i64 y, .int .i64 z])).run Tryz.prog w
  = .ok (a==x && b==y && c==z) w:=by
 rw [run_equalIn_agg w 9999 _ _ _ zcc zpP]
 obtain⟨f0,f1,f2,hf,h0,h1,h2⟩:∃f0 f1 f2,(Tryz.prog.fieldsOf 32).toList= [f0,f1,f2] /\(f0.name,f0.type,f0.offset)=("Kind",3,0)/\(f1.name,f1.type,f1.offset)=("Thread",3,1)/\(f2.name,f2.type,f2.offset)=("Var",3,2):=by
  have h:=zns
  generalize (Tryz.prog.fieldsOf 32).toList=l at h
  have hl:l.length=3:=by have:=congrArg List.length h;simpa using this
  match l,hl,h with
  | [f0,f1,f2],_,h=>
  simp only [List.map_cons,List.map_nil,List.cons.injEq,and_true] at h
  exact⟨f0,f1,f2,rfl,h.1,h.2.1,h.2.2⟩
 simp only [Prod.mk.injEq] at h0 h1 h2
 rw [hf]
 have p0:=λ(w:World) (a b c:Int)=>jV w #[.int .i64 a, .int .i64 b, .int .i64 c] 0 a rfl
 have p1:=λ(w:World) (a b c:Int)=>jV w #[.int .i64 a, .int .i64 b, .int .i64 c] 1 b rfl
 have p2:=λ(w:World) (a b c:Int)=>jV w #[.int .i64 a, .int .i64 b, .int .i64 c] 2 c rfl
 have ge:=zgH 9998
 cases e0:a==x<;>cases e1:b==y<;>cases e2:c==z<;>simp [Op.eqFields,h0,h1,h2,p0,p1,p2,ge,e0,e1,e2]
