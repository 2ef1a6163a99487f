/- Steps. -/
import Derived.Test.YtnhahkiojbanfaaGreatDoorRyFits
import Derived.Test.YtnhahkiojbanfaaGreatDoorRyStep
set_option linter.all false
namespace Go.Proofs.YtnhahkiojbanfaaGreatDoor
open Go.RowKit
set_option maxRecDepth 100000
set_option maxHeartbeats 16000000
theorem zdQ (w:World) (o1 o2 o3:Obj):Below w.heap.size w (((w.alloc o1).alloc o2).alloc o3)/\(((w.alloc o1).alloc o2).alloc o3).heap[w.heap.size]? =some o1/\(((w.alloc o1).alloc o2).alloc o3).heap[w.heap.size+1]? =some o2/\(((w.alloc o1).alloc o2).alloc o3).heap[w.heap.size+2]? =some o3:=
 ⟨zaI w _ _ _,zaJ w _ _ _,zau w _ _ _,zaK w _ _ _⟩
theorem bA (x:zq):(zq.cells x).length=3:=rfl
theorem wQ:(Tryz.prog.info? 70).map (λi=>(i.zero,i.size,i.bytes))=some (some (.agg #[.int .i64 0, .int .i64 0, .int .i64 0]),3,24):=by kernel_rfl
theorem zbS (l:List zl) (model:Int):(yI l model).length<=l.length:=by
 unfold yI
 split
 ·exact zgf _ _
 split
 ·cases l<;>simp
 simp
theorem zoL (c:zI) (m:zG) (s:zk) (d i:Nat) (h:(s.threads.getD i default).buf.length<=100000):(kX c m s d i).length<=100001:=by
 unfold kX
 have:=zbS (s.threads.getD i default).buf m.model
 rw [List.length_append,List.length_map]
 split<;>simp only [List.length_cons,List.length_nil] <;>omega
theorem zby {α:Type} (f:α->List Value) (l:List α) (x:α):zo f (l++ [x])=zo f l++f x:=by simp [zo]
theorem zaL {α:Type} (f:Nat->List α) (i:Nat):(List.range (i+1)).flatMap f=(List.range i).flatMap f++f i:=by rw [List.range_succ];simp
theorem zkW {α:Type} {f:α->List Value} {B:Nat} {e:TypeId} {size:Nat} {w X:World} {a a':Option Addr} {n m c c':Nat} {l:List α} {x:α} {o:Obj} (ho:w.ownsRow B e size (.slice a n c) n (zo f l)) (h1:X.ownsRow B e size (.slice a' m c') m (zo f l++f x))
  (h4:Since (λk=>(Value.slice a n c).ownBlock=some k) (w.alloc o) X) {V:World} (hV:Below V.heap.size V w) (hB:V.heap.size<=B):X.ownsRow B e size (.slice a' m c') m (zo f (l++ [x]))/\Below V.heap.size V X:=by
 refine⟨by rw [zby];exact h1,hV.trans ((((Since.refl _ w).alloc o).trans h4 (λk hk=> .inl hk)).below hV.size (λk hk=>Nat.le_trans hB (ho.lt k hk).1))⟩
theorem zgg {B:Nat} {e:TypeId} {size n:Nat} {w X:World} {v v' hv:Value} {xs:List Value} {o:Obj} (h:w.ownsRow B e size hv n xs) (hne:∀k,v.ownBlock=some k->hv.ownBlock≠some k) (h4:Since (λk=>v.ownBlock=some k) (w.alloc o) X)
  (h5:∀k,v'.ownBlock=some k->v.ownBlock=some k\/k=(w.alloc o).heap.size):X.ownsRow B e size hv n xs/\∀k,v'.ownBlock=some k->hv.ownBlock≠some k:=by
 refine⟨h4.row (h.alloc o) (λk h1 h2=>hne k h2 h1),λk h1 h2=> ?_⟩
 rcases h5 k h1 with h3|h3
 ·exact hne k h3 h2
 have:=(h.lt k h2).2;simp at h3;omega
def zgP (w:World) (l:List zq) (e:Ending) (w':World):Prop:=(∃va vc,e= .returned (.slice va l.length vc)/\w'.ownsRow w.heap.size 70 3 (.slice va l.length vc) l.length (zo zq.cells l))/\Below w.heap.size w w'
theorem zgh {w w':World} {l:List zq} {va:Option Addr} {vn vc:Nat} (h:l.length=vn) (ho:w'.ownsRow w.heap.size 70 3 (.slice va vn vc) vn (zo zq.cells l)) (hb:Below w.heap.size w w'):zgP w l (.returned (.slice va vn vc)) w':=by
 subst h;exact⟨⟨va,vc,rfl,ho⟩,hb⟩
theorem zqE (w:World) (c:zI) (cv:Value) (d:Nat) (hc:yJ d w cv c.threads) (m:zG) (s:zk) (sv mv:Value) (hs:yw w s sv mv) (hb:∀j,j<s.threads.length->(s.threads.getD j default).buf.length<=100000):
  Calls Tryz.prog 29 #[yO c cv,xO m,yE s sv mv] w (zgP w (qp c m s d)):=by
 obtain⟨ca,cc,rfl, -⟩:=zh.slice hc
 obtain⟨ta,jG,rfl, -⟩:=zh.slice hs.threads
 obtain⟨ma,jo,rfl, -⟩:=zh.slice hs.mem
 obtain⟨fo,hfo⟩:∃fo,fo=yB c m s:=⟨_,rfl⟩
 obtain⟨R,hR⟩:∃R,R=qp c m s d:=⟨_,rfl⟩
 rw [<-hR]
 have hfits:=λW hc hs=>zkX W c (.slice ca c.threads.length cc) d hc m s (.slice ta s.threads.length jG) (.slice ma s.mem.length jo) hs (λj hj=>by have:=hb j hj;omega)
 rw [<-hfo] at hfits
 have hstep:=λW hc hs i=>λ(hf:fo=true) hi=>zkY W c (.slice ca c.threads.length cc) d hc m s (.slice ta s.threads.length jG) (.slice ma s.mem.length jo) hs (hfo.symm.trans hf) i hi hb
 have bB:fo=true->s.threads.length<=4:=λe=>by
  obtain⟨h1, -,h2,h3, -⟩:=pE (hfo.symm.trans e)
  have h4:=xR h1
  rw [h2];exact h4.2.2.2.2.2
 have hmt:=λi (hi:i<s.threads.length)=>zoL c m s d i (hb i hi)
 have hR2:R=if fo then(List.range s.threads.length).flatMap (kX c m s d) else [] :=by rw [hR,hfo];rfl
 have hmT:∀i,kX c m s d i=(if (kg c m s i d).isSome then [⟨1,i,0⟩] else [])++(yI (s.threads.getD i default).buf m.model).map λv=>(⟨2,i,v⟩:zq):=λi=>rfl
 obtain⟨MT,hMT⟩:∃MT,MT=kX c m s d:=⟨_,rfl⟩
 rw [<-hMT] at hR2 hmt hmT
 have hT:=hs.threads
 obtain⟨vars,dom,cs⟩:=c
 obtain⟨mod,bnd⟩:=m
 obtain⟨ts,mem,bad⟩:=s
 obtain⟨SS,hSS⟩:∃SS,SS=λi=>kg ⟨vars,dom,cs⟩ ⟨mod,bnd⟩ ⟨ts,mem,bad⟩ i d:=⟨_,rfl⟩
 have zyw:∀i,kg ⟨vars,dom,cs⟩ ⟨mod,bnd⟩ ⟨ts,mem,bad⟩ i d=SS i:=λi=>by rw [hSS]
 simp only [] at hc hs hb bB hfits hstep hR2 hmt hT hmT ⊢
 simp only [zyw] at hstep hmT
 unfold yO xO yE
 unfold yO xO yE at hfits
 have hstep2:∀W,yJ d W (.slice ca cs.length cc) cs->yw W ⟨ts,mem,bad⟩ (.slice ta ts.length jG) (.slice ma mem.length jo)->∀i,fo=true->i<ts.length->Calls Tryz.prog 49 #[.agg #[.int .i64 vars, .int .i64 dom, .slice ca cs.length cc], .agg #[.int .i64 mod, .int .i64 bnd], .agg #[.slice ta ts.length jG, .slice ma mem.length jo, .bool bad], .int .i64 i] W λe w'=>(∃xa xn xc ya yn yc b',e= .returned (.tuple #[.agg #[.slice xa xn xc, .slice ya yn yc, .bool b'], .bool (SS i).isSome]))/\Below W.heap.size W w':=λW h1 h2 i h3 h4=>
  (hstep W h1 h2 i h3 h4).mono λe w' ⟨⟨xa,xn,xc,ya,yn,yc,s',he,_⟩,hb⟩=>⟨⟨xa,xn,xc,ya,yn,yc,s'.bad,he⟩,hb⟩
 clear hstep
 simp only [] at hfits ⊢
 obtain⟨n,hn⟩:∃n,n=ts.length:=⟨_,rfl⟩
 obtain⟨cn,hcn⟩:∃cn,cn=cs.length:=⟨_,rfl⟩
 obtain⟨mn,hmn⟩:∃mn,mn=mem.length:=⟨_,rfl⟩
 rw [<-hn] at hs hT hb hfits hstep2 bB hR2 hmt ⊢
 rw [<-hmn] at hs hfits hstep2 ⊢
 rw [<-hcn] at hc hfits hstep2 ⊢
 obtain⟨hB,h1,h2,h3⟩:=zdQ w (.cells #[.int .i64 vars, .int .i64 dom, .slice ca cn cc] 26) (.cells #[.int .i64 mod, .int .i64 bnd] 29) (.cells #[.slice ta n jG, .slice ma mn jo, .bool bad] 42)
 have HB:=qh hB
 have H1:=qh h1
 have H2:=qh h2
 have H3:=qh h3
 have uL:=qh (zh.below (qo.stays d) hc hB)
 have HSW:=qh (yw.below hs hB)
 have HT:=qh (zh.below wN.stays hT hB)
 have HN:=qh hn
 have HBU:=qh hb
 have zh5:=qh hfits
 have zaM:=qh hstep2
 have HN4:=qh bB
 have HMT:=qh hmt
 have z4S:=qh hmT
 have HRR:=qh hR2
 clear hn hcn hmn hb hfits hstep2 bB hR2 hfo hB h1 h2 h3 hT hc hs hR hMT hSS zyw hmt hmT
 go_enter Tryz.func29,Tryz.ntmps29
 go_upto_region 1 with fail
 generalize World.alloc (World.alloc (World.alloc w _) _) _=W at HB H1 H2 H3 uL HSW HT ⊢
 obtain⟨gx,hgx⟩:∃gx,gx=w.heap.size:=⟨_,rfl⟩
 rw [<-hgx] at H1 H2 H3 ⊢
 have xD:Hid (w.heap.size<=W.heap.size):=HB.out.size
 clear hgx
 have qw:Hid (∀y,Below W.heap.size W y->y.cell? ⟨gx,0,none⟩=some (.int .i64 vars)/\y.cell? ⟨gx,1,none⟩=some (.int .i64 dom)/\y.cell? ⟨gx,2,none⟩=some (.slice ca cn cc)/\
   y.cell? ⟨gx+1,0,none⟩=some (.int .i64 mod)/\y.cell? ⟨gx+1,1,none⟩=some (.int .i64 bnd)/\y.cell? ⟨gx+2,0,none⟩=some (.slice ta n jG)/\y.cell? ⟨gx+2,1,none⟩=some (.slice ma mn jo)/\y.cell? ⟨gx+2,2,none⟩=some (.bool bad)):=λy hx=>
  ⟨zi hx _ _ (ze H1.out 0),zi hx _ _ (ze H1.out 1),zi hx _ _ (ze H1.out 2),zi hx _ _ (ze H2.out 0),zi hx _ _ (ze H2.out 1),zi hx _ _ (ze H3.out 0),zi hx _ _ (ze H3.out 1),zi hx _ _ (ze H3.out 2)⟩
 have yA:Hid (∀x,Below W.heap.size W x->Below w.heap.size w x):=λx hx=>HB.out.trans (hx.mono HB.out.size)
 obtain⟨c0,c1,c2,c3,c4,c5,c6,c7⟩:=qw.out W (Below.refl _ _)
 go_wp2_with fail
 refine(zh5.out W uL.out HSW.out).mono ?_
 rintro e W1 ⟨rfl,hb1⟩
 have HB1:=qh hb1
 clear hb1 zh5 c0 c1 c2 c3 c4 c5 c6 c7
 cases fo with
 |false=>
  have hr:R.length=0:=by rw [HRR.out];rfl
  have hr2:zo zq.cells R= [] :=by rw [HRR.out];rfl
  have HR:=qh hr
  have HR2:=qh hr2
  clear hr hr2
  go_wp2_with fail
  go_ret
  exact zgh HR.out (by rw [HR2.out];exact World.ownsRow_nil _ _ _ _) (yA.out _ HB1.out)
 |true=>
 have bB:n<=4:=HN4.out (by trivial)
 have HR:Hid (R=(List.range n).flatMap MT):=by rw [Hid,HRR.out];rfl
 clear HRR HN4
 go_wp2_with fail
 go_loopg [7,8] n (λgg s7 s8 wr=>∃(i:Nat) (oa:Option Addr) (on oc:Nat) (ml:List zq),i<=n/\Hid (gg=n - i)/\s7= .slice oa on oc/\s8= .int .i64 i/\on<=100001*i/\Hid (wr.ownsRow W.heap.size 70 3 (.slice oa on oc) on (zo zq.cells ml))/\Hid (ml.length=on)/\Hid (ml=(List.range i).flatMap MT)/\Hid (Below W.heap.size W wr))
 case atStart=>exact⟨0,none,0,0, [],Nat.zero_le _,rfl,rfl,rfl,by omega,World.ownsRow_nil _ _ _ _,rfl,rfl,HB1.out⟩
 case round=>
 obtain⟨i,oa,on,oc,ml,hi,HG,rfl,rfl,hon,HRO,kU,uT,zH⟩:=hrel
 obtain⟨wo,rfl⟩:∃wo:World,wo=wr:=⟨_,rfl⟩
 obtain⟨c0,c1,c2,c3,c4,c5,c6,c7⟩:=qw.out wo zH.out
 by_cases hlt:i<n
 rotate_left
 ·obtain rfl:n=i:=by omega
  have HR2:Hid (R=ml):=by rw [Hid,HR.out,uT.out]
  go_wp2_with fail
  go_ret
  exact zgh (by rw [HR2.out];exact kU.out) (by rw [HR2.out];exact yU HRO.out xD.out) (yA.out _ zH.out)
 have qA:(i:Int)<(n:Int):=by omega
 obtain⟨tb,yH,ba,bc,hta, -, -, -, -, -, -, -,x5,hbuf⟩:=qB.part HT.out i (by rw [<-HN.out];exact hlt)
 subst hta
 have hbl:=HBU.out i hlt
 have hmt:=z4S.out i
 have hml:=HMT.out i hlt
 generalize ts.getD i default=t at x5 hbuf hbl hmt
 have z4T:=qh hml
 obtain⟨hh,hhh⟩:∃hh,hh=yI t.buf mod:=⟨_,rfl⟩
 rw [<-hhh] at hmt
 have zyx:=qh hmt
 have hhl:hh.length<=100000:=by have:=zbS t.buf mod;rw [hhh];omega
 obtain⟨bl,kH⟩:∃bl,bl=t.buf.length:=⟨_,rfl⟩
 rw [<-kH] at x5 hbuf
 have zal:Hid (∀y,Below W.heap.size W y->Calls Tryz.prog 50 #[.slice ba bl bc, .int .i64 mod] y λe w'=>(∃va vc,e= .returned (.slice va hh.length vc)/\w'.ownsRow y.heap.size 3 1 (.slice va hh.length vc) hh.length (zo yP hh))/\Below y.heap.size y w'):=λy hy=>
  (zjE y (.slice ba bl bc) t.buf (zY.below hbuf hy) (by omega) mod).mono λe w' ⟨⟨sv,sn,he,hsn,hi⟩,hb⟩=>by
   rw [<-hhh] at hi hsn
   subst hsn
   obtain⟨a,cp,rfl, -⟩:=xu hi
   exact⟨⟨a,cp,he,hi⟩,hb⟩
 have HX5:Hid (∀y,Below W.heap.size W y->y.cell? ⟨tb,yH+i*6+5,none⟩=some (.slice ba bl bc)):=λy hy=>zi hy _ _ x5
 obtain⟨hn,hhn⟩:∃hn,hn=hh.length:=⟨_,rfl⟩
 rw [<-hhn] at zal hhl
 have HHN:=qh hhn
 clear hhn hhh kH x5 hbuf hbl hmt hml
 go_upto_if 33 with(go_at_call 49;go_must(refine(zaM.out wo (zh.below (qo.stays d) uL.out zH.out) (HSW.out.below zH.out) i (by trivial) hlt).mono ?_);rintro e W2 ⟨⟨xa,xn,xc,ya,yn,yc,b',rfl⟩,hb2⟩;have HB2:=qh hb2;clear hb2)
 have hbx:=(Below.refl wo.heap.size wo).trans ((HB2.out).alloc HB2.out.size (.cells #[.slice xa xn xc, .slice ya yn yc, .bool b'] 42))
 have yZ:=qh hbx
 clear hbx c0 c1 c2 c3 c4 c5 c6 c7
 generalize World.alloc W2 _=W3 at yZ ⊢
 have zt9:=qh (xS HRO.out yZ.out)
 have HB3:=qh (zD zH.out yZ.out)
 clear HB2 yZ HRO zH
 generalize hSS:(SS i).isSome=is at zyx ⊢
 clear hSS
 go_cut [7] (λs7 w'=>∃(pa:Option Addr) (pn pc:Nat) (pl:List zq),s7= .slice pa pn pc/\pn<=on+1/\Hid (w'.ownsRow W.heap.size 70 3 (.slice pa pn pc) pn (zo zq.cells pl))/\Hid (pl.length=pn)/\Hid (pl=ml++(if is then [⟨1,i,0⟩] else []))/\Hid (Below W.heap.size W w'))
 case first=>
  cases is with
  |true=>
   go_wp2_with(at_builtin;go_must(refine zK _ rfl _ _ 32 rfl 70 (.agg #[.int .i64 0, .int .i64 0, .int .i64 0]) 3 24 Tryz.underlying32 wQ rfl (by decide) W.heap.size (.slice oa on oc) on (zo zq.cells ml) rfl ((zt9.out).alloc _) ⟨W3.heap.size,0,none⟩ 1 1 (zq.cells ⟨1,i,0⟩) rfl rfl (qJ _ (zq.cells ⟨1,i,0⟩) _) (by simp [zq.cells,Value.oneCell']) (by unfold maxLen;omega) (by omega) (by have:=HB3.out.size;simp;omega) ?_);intro ja jc X f1 f2 f3 f4 f5 f6;have HE:=qh (zkW (zt9.out) f1 f4 (HB3.out) (Nat.le_refl _));clear f1 f2 f3 f4 f5 f6)
   go_meet
   case rel=>exact⟨ja,on+1,jc,ml++ [(⟨1,(i:Int),0⟩:zq)],rfl,by omega,HE.out.1,by rw [Hid,List.length_append,kU.out];rfl,by simp [Hid],HE.out.2⟩
  |false=>
  go_wp2_with fail
  go_meet
  case rel=>exact⟨oa,on,oc,ml,rfl,by omega,zt9.out,kU.out,by simp [Hid],HB3.out⟩
 case rest=>
 obtain⟨pa,pn,pc,pl,rfl,hpn,HPR,HPN,jP,qZ⟩:=hcut
 obtain⟨W4,rfl⟩:∃W4:World,W4=wc:=⟨_,rfl⟩
 go_upto_region 10 with fail
 have HCX:Hid (∀y,Below W4.heap.size W4 y->y.cell? ⟨gx+2,0,none⟩=some (.slice (some ⟨tb,yH,none⟩) n jG)/\y.cell? ⟨gx+1,0,none⟩=some (.int .i64 mod)/\y.cell? ⟨tb,yH+i*6+5,none⟩=some (.slice ba bl bc)):=λy hy=>by
  have hw:=zD qZ.out hy
  obtain⟨-, -, -,c3, -,c5, -, -⟩:=qw.out y hw
  exact⟨c5,c3,HX5.out y hw⟩
 have znN:Hid (∀y,Below W4.heap.size W4 y->Calls Tryz.prog 50 #[.slice ba bl bc, .int .i64 mod] y λe w'=>(∃va vc,e= .returned (.slice va hn vc)/\w'.ownsRow y.heap.size 3 1 (.slice va hn vc) hn (zo yP hh))/\Below y.heap.size y w'):=λy hy=>zal.out y (zD qZ.out hy)
 refine vD (S:=λx=>Below W4.heap.size W4 x) (Below.refl _ _).drew (λhH=> ?_)
 refine zw 0 HCX.out ?_
 refine zw 1 HCX.out ?_
 refine zw 2 HCX.out ?_
 refine zw 3 HCX.out ?_
 refine zw 4 HCX.out ?_
 refine zw 5 HCX.out ?_
 refine zw 6 HCX.out ?_
 refine zw 7 HCX.out ?_
 refine yj 8 rfl (λK hK=> ?_)
 go_simp
 refine(znN.out W4.drew hH).mono ?_
 rintro e hw8 ⟨⟨va,vc,rfl,hhr⟩,hb⟩
 have HHI:=qh hhr
 have HHG:Hid (W4.heap.size<=W4.drew.heap.size):=(hH).size
 clear hhr
 have ztA:Below W4.heap.size W4 hw8:=zD hH hb
 refine hK.out _ _ ztA (λ_=> ?_)
 clear hK K hb hH
 refine zw 9 HCX.out ?_
 refine xP ?_
 have zR:=qh ztA
 clear ztA
 go_wp2_with fail
 obtain⟨W5,hW5⟩:∃W5,W5=hw8:=⟨_,rfl⟩
 rw [<-hW5] at zR HHI ⊢
 clear hW5
 have z4U:=qh (xS HPR.out zR.out)
 have jQ:=qh (zD qZ.out zR.out)
 have z4V:Hid (∀x,(Value.slice pa pn pc).ownBlock=some x->(Value.slice va hn vc).ownBlock≠some x):=λx h1 h2=>by have:=(HPR.out.lt x h1).2;have:=(HHI.out.lt x h2).1;have:=HHG.out;omega
 clear zal znN HCX zR qZ HPR HHG
 go_loopg [7,12] hn (λgg s7 s12 wr=>∃(k:Nat) (qa:Option Addr) (qn qc:Nat) (ql:List zq),k<=hn/\Hid (gg=hn - k)/\s7= .slice qa qn qc/\s12= .int .i64 k/\qn<=on+1+k/\Hid (wr.ownsRow W.heap.size 70 3 (.slice qa qn qc) qn (zo zq.cells ql))/\Hid (ql.length=qn)/\Hid (ql=pl++(hh.take k).map (λv=>⟨2,i,v⟩))/\Hid (∃B,wr.ownsRow B 3 1 (.slice va hn vc) hn (zo yP hh))/\Hid (∀x,(Value.slice qa qn qc).ownBlock=some x->(Value.slice va hn vc).ownBlock≠some x)/\Hid (Below W.heap.size W wr))
 case atStart=>exact⟨0,pa,pn,pc,pl,Nat.zero_le _,rfl,rfl,rfl,by omega,z4U.out,HPN.out,by simp [Hid],⟨_,HHI.out⟩,z4V.out,jQ.out⟩
 case round=>
 obtain⟨k,qa,qn,qc,ql,hk,HG2,rfl,rfl,hqn,HQR,HQN,HQL,HHR,j3,yQ⟩:=hrel
 by_cases hkl:k<hn
 rotate_left
 ·obtain rfl:hn=k:=by omega
  have hst:ql=(List.range (i+1)).flatMap MT:=by
   rw [zaL,zyx.out, <-uT.out,HQL.out,jP.out,HHN.out,List.take_length,List.append_assoc]
  have z4W:qn<=100001*(i+1):=by
   have h1:=z4T.out
   have h2:=congrArg List.length hst
   rw [zaL,List.length_append, <-uT.out,kU.out,HQN.out] at h2
   omega
  have HST:=qh hst
  clear hst
  go_wp2_with fail
  go_roundg (n - (i+1))
  case measure=>rw [HG.out];omega
  case rel=>exact⟨i+1,qa,qn,qc,ql,by omega,rfl,rfl,by simp,z4W,HQR.out,HQN.out,HST.out,yQ.out⟩
 have zoM:(k:Int)<(hn:Int):=by omega
 obtain⟨BH,hhr⟩:=HHR.out
 have hrw:=hhr
 rw [HHN.out] at hrw
 obtain⟨b9,o9,yg, -,e1⟩:=xU.part (gH hrw) k (by rw [<-HHN.out];exact hkl)
 subst yg
 have HRB:=qh hhr
 clear hhr hrw
 have jy:Hid (hh.take (k+1)=hh.take k++ [hh.getD k 0]):=by rw [Hid,List.take_succ_eq_append_getElem (by rw [<-HHN.out];exact hkl),List.getD_eq_getElem?_getD,List.getElem?_eq_getElem (by rw [<-HHN.out];exact hkl)];rfl
 generalize hh.getD k 0=v at e1 jy
 go_wp2_with(at_builtin;go_must(refine zK _ rfl _ _ 32 rfl 70 (.agg #[.int .i64 0, .int .i64 0, .int .i64 0]) 3 24 Tryz.underlying32 wQ rfl (by decide) W.heap.size (.slice qa qn qc) qn (zo zq.cells ql) rfl ((HQR.out).alloc _) ⟨wr.heap.size,0,none⟩ 1 1 (zq.cells ⟨2,i,v⟩) rfl rfl (qJ _ (zq.cells ⟨2,i,v⟩) _) (by simp [zq.cells,Value.oneCell']) (by unfold maxLen;omega) (by omega) (by have:=yQ.out.size;simp;omega) ?_);intro ja jc X f1 f2 f3 f4 f5 f6;have HE:=qh (zkW (HQR.out) f1 f4 (yQ.out) (Nat.le_refl _));have HE2:=qh (zgg HRB.out j3.out f4 f5);clear f1 f2 f3 f4 f5 f6)
 go_roundg (hn - (k+1))
 case measure=>rw [HG2.out];omega
 case rel=>exact⟨k+1,ja,qn+1,jc,ql++ [(⟨2,(i:Int),v⟩:zq)],by omega,rfl,rfl,by simp,by omega,HE.out.1,by rw [Hid,List.length_append,HQN.out];rfl,by rw [Hid,HQL.out,jy.out];simp,⟨_,HE2.out.1⟩,HE2.out.2,HE.out.2⟩
end Go.Proofs.YtnhahkiojbanfaaGreatDoor
namespace Go.Proofs.YtnhahkiojbanfaaGreatDoor
open Go.RowKit
set_option maxRecDepth 100000
set_option maxHeartbeats 16000000
theorem yC {w:World} {B C:Nat} {e e':TypeId} {size size':Nat} {v v':Value} {n n':Nat} {xs xs':List Value} (h:w.ownsRow B e size v n xs) (h':w.ownsRow C e' size' v' n' xs') (hne:e≠e'):∀k,v.ownBlock=some k->v'.ownBlock≠some k:=by
 intro k h1 h2
 rcases h'.2 with⟨rfl, -⟩|⟨g,cap,cur,rfl, -,hg, -⟩
 ·simp [Value.ownBlock] at h2
 simp only [Value.ownBlock,Option.some.injEq] at h2
 subst h2
 exact uo h h1 hg hne
structure yX {α:Type} [Inhabited α] (F:Nat->Prop) (X:World) (R:World->α->List Value->Prop) (size B:Nat) (e:TypeId) (v:Value) (l:List α) (css:List (List Value)):Prop where
 len:css.length=l.length
 part:∀j,j<l.length->(css.getD j []).length=size/\zW F X (λy=>R y (l.getD j default) (css.getD j []))
 row:X.ownsRow B e size v l.length css.flatten
section
variable {α:Type} [Inhabited α] {F F' G:Nat->Prop} {X X':World} {R:World->α->List Value->Prop} {size B:Nat} {e:TypeId} {v v':Value} {l:List α} {css:List (List Value)}
theorem yX.nil (F:Nat->Prop) (X:World) (R:World->α->List Value->Prop) (size B:Nat) (e:TypeId):yX F X R size B e (.slice none 0 0) [] [] :=⟨rfl,λj hj=>by simp at hj,World.ownsRow_nil _ _ _ _⟩
theorem yX.step (h:yX F X R size B e v l css) (hs:Since G X X') (hv:∀k,v.ownBlock=some k->¬G k) (hG:∀k,G k->F k\/X.heap.size<=k) (hF:∀k,F' k->F k\/X.heap.size<=k):yX F' X' R size B e v l css:=
 ⟨h.len,λj hj=>⟨(h.part j hj).1,(h.part j hj).2.step hs hG hF⟩,hs.row h.row hv⟩
theorem j4 {β:Type} {l:List β} {x d:β} {j:Nat} (hj:j<l.length):(l++ [x]).getD j d=l.getD j d:=by
 simp only [List.getD_eq_getElem?_getD,List.getElem?_append_left hj]
theorem jU {β:Type} {l:List β} {x d:β} :(l++ [x]).getD l.length d=x:=by
 simp [List.getD_eq_getElem?_getD]
theorem yX.push (h:yX F X R size B e v l css) (hs:Since G X X') (hG:∀k,G k->F k\/X.heap.size<=k) (hF:∀k,F' k->F k\/X.heap.size<=k) {x:α} {cs:List Value} (hx:zW F X (λy=>R y x cs)) (hc:cs.length=size)
  (h1:X'.ownsRow B e size v' (l.length+1) (css.flatten++cs)):yX F' X' R size B e v' (l++ [x]) (css++ [cs]):=by
 refine⟨by simp [h.len],λj hj=> ?_, ?_⟩
 ·rw [List.length_append] at hj
  simp only [List.length_cons,List.length_nil] at hj
  by_cases e:j=l.length
  ·subst e
   rw [jU,show l.length=css.length from h.len.symm,jU]
   exact⟨hc,hx.step hs hG hF⟩
  have hj':j<l.length:=by omega
  rw [j4 hj',j4 (by rw [h.len];exact hj')]
  exact⟨(h.part j hj').1,(h.part j hj').2.step hs hG hF⟩
 rw [List.length_append,List.flatten_append]
 simpa using h1
theorem zbT {css:List (List Value)} {size:Nat} :∀ {j i:Nat},(∀j,j<css.length->(css.getD j []).length=size)->j<css.length->i<size->css.flatten[j*size+i]? =(css.getD j [])[i]? :=by
 induction css with
 |nil=>intro j i _ hj;simp at hj
 |cons c css ih=>
 intro j i h hj hi
 have h0:=h 0 (by simp)
 simp only [List.getD_cons_zero] at h0
 cases j with
 |zero=>rw [List.flatten_cons,Nat.zero_mul,Nat.zero_add,List.getElem?_append_left (by rw [h0];exact hi)];rfl
 |succ j=>
 rw [List.flatten_cons,List.getElem?_append_right (by rw [h0,Nat.add_mul];omega),h0,show(j+1)*size+i - size=j*size+i by rw [Nat.add_mul];omega]
 exact ih (λj hj=>by have:=h (j+1) (by simpa using hj);simpa using this) (by simpa using hj) hi
theorem yX.slice (h:yX F X R size B e v l css):zh R size X v l:=
 zh.zco h.row λj hj=>⟨css.getD j [],(h.part j hj).1,λi hi=>zbT (λj hj=>(h.part j (by rw [<-h.len];exact hj)).1) (by rw [h.len];exact hj) hi,(h.part j hj).2.now⟩
end
def bC (w:World) (l:List zq) (cs:List Value):Prop:=∃v,cs= [v] /\vZ w v l
theorem bC.stays:kR bC:=λ_ _ _ _ ⟨v,h,h2⟩ hb=>⟨v,h,zh.below zbo.stays h2 hb⟩
def zbp (w:World) (l:List Int) (cs:List Value):Prop:=∃v,cs= [v] /\xU w v l
theorem zbp.stays:kR zbp:=λ_ _ _ _ ⟨v,h,h2⟩ hb=>⟨v,h,zh.below bD.stays h2 hb⟩
theorem zaz {w:World} {B:Nat} {sv:Value} {l:List zq} (h:w.ownsRow B 70 3 sv l.length (zo zq.cells l)):vZ w sv l:=zh.of_flat (R:=zbo) (f:=zq.cells) bA (λ_ _=>rfl) h
structure yV where
 states:List zk
 moves:List (List zq)
 next:List (List Int)
instance:Inhabited yV:=⟨⟨[], [], []⟩⟩
def qC (c:zI) (m:zG) (d:Nat) (room:Int) (s:zk):List zq->List zk->List Int->Option (List zk × List Int)
 | [],l,nx=>some (l,nx)
 |x::ms,l,nx=>if room<=((putAt l (kK c m s x d).1).2:Int) then none else qC c m d room s ms (putAt l (kK c m s x d).1).1 (nx++ [((putAt l (kK c m s x d).1).2:Int)])
def vR (c:zI) (m:zG) (d:Nat) (room:Int):Nat->Nat->List zk->List (List zq)->List (List Int)->Option yV
 |0,_,_,_,_=>none
 |f+1,i,l,ml,nl=>
 if i<l.length then
  match qC c m d room (l.getD i default) (qp c m (l.getD i default) d) l [] with
  |none=>none
  |some r=>vR c m d room f (i+1) r.1 (ml++ [qp c m (l.getD i default) d]) (nl++ [r.2])
 else some ⟨l,ml,nl⟩
def yT (c:zI) (m:zG) (room:Int) (d:Nat):yV × Int:=
 if jh c m=false\/room<1\/100000<room then(⟨[], [], []⟩,1)
 else match vR c m d room (room.toNat+1) 0 [vE c] [] [] with
  |some s=>(s,0)
  |none=>(⟨[], [], []⟩,40)
def XF (g r:Nat) (sv mv nv xv:Value) (k:Nat):Prop:=(k=g\/k<=r)\/sv.ownBlock=some k\/mv.ownBlock=some k\/nv.ownBlock=some k\/xv.ownBlock=some k
structure kY (W X:World) (g r:Nat) (sv mv nv xv:Value) (sl:List zk) (ml:List (List zq)) (nl:List (List Int)) (xl:List Int) (sc mc nc:List (List Value)):Prop where
 below:Below W.heap.size W X
 lo:W.heap.size<=g
 rlo:r<W.heap.size
 box:X.heap[g]? =some (.cells #[sv,mv,nv] 49 (0,0))
 st:yX (XF g r sv mv nv xv) X xV 3 W.heap.size 42 sv sl sc
 mo:yX (XF g r sv mv nv xv) X bC 1 W.heap.size 32 mv ml mc
 ne:yX (XF g r sv mv nv xv) X zbp 1 W.heap.size 31 nv nl nc
 xr:X.ownsRow W.heap.size 3 1 xv xl.length (zo yP xl)
section
variable {W X X1:World} {g r:Nat} {sv mv nv xv gX:Value} {sl:List zk} {ml:List (List zq)} {nl:List (List Int)} {xl:List Int} {sc mc nc:List (List Value)}
theorem yx {B e size n g:Nat} {v:Value} {xs:List Value} {c:Array Value} {t:TypeId} {f:Nat × Nat} (h:X.ownsRow B e size v n xs) (hb:X.heap[g]? =some (.cells c t f)) (hne:e≠t):∀k,v.ownBlock=some k->k≠g:=λk h1 e=>by
 subst e;exact uo h h1 hb hne
theorem kY.call (h:kY W X g r sv mv nv xv sl ml nl xl sc mc nc) (hb:Below X.heap.size X X1):kY W X1 g r sv mv nv xv sl ml nl xl sc mc nc:=by
 have hs:Since (λ_=>False) X X1:=qF _ hb
 exact⟨zD h.below hb,h.lo,h.rlo,(hb.block _ (zx h.box)).trans h.box,h.st.step hs (λ_ _ h=>h) (λ_ h=>h.elim) (λ_ h=> .inl h),h.mo.step hs (λ_ _ h=>h) (λ_ h=>h.elim) (λ_ h=> .inl h),h.ne.step hs (λ_ _ h=>h) (λ_ h=>h.elim) (λ_ h=> .inl h),xS h.xr hb⟩
theorem kY.zkJ (h:kY W X g r sv mv nv xv sl ml nl xl sc mc nc) {o:Obj} {x:zk} {cs:List Value} (hx:zW (XF g r sv mv nv xv) X (λy=>xV y x cs)) (hc:cs.length=3) (h1:X1.ownsRow W.heap.size 42 3 gX (sl.length+1) (sc.flatten++cs))
  (h4:Since (λk=>sv.ownBlock=some k) (X.alloc o) X1) (h5:∀k,gX.ownBlock=some k->sv.ownBlock=some k\/k=(X.alloc o).heap.size):kY W (X1.setCell ⟨g,0,none⟩ gX) g r gX mv nv xv (sl++ [x]) ml nl xl (sc++ [cs]) mc nc:=by
 have hg:=zx h.box
 have s1:Since (λk=>sv.ownBlock=some k) X X1:=((Since.refl _ X).alloc o).trans h4 (λk hk=> .inl hk)
 have b1:X1.heap[g]? =some (.cells #[sv,mv,nv] 49 (0,0)):=(s1.block _ hg (λe=>yx h.st.row h.box (by decide) _ e rfl)).trans h.box
 have s2:Since (λk=>k=g\/sv.ownBlock=some k) X (X1.setCell ⟨g,0,none⟩ gX):=(s1.mono (G:=λk=>k=g\/sv.ownBlock=some k) (λ_ _ h=> .inr h)).setCell (p:=⟨g,0,none⟩) (.inl (.inl rfl)) _
 have hG:∀k,(k=g\/sv.ownBlock=some k)->XF g r sv mv nv xv k\/X.heap.size<=k:=λk hk=> .inl (hk.elim (λh=> .inl (.inl h)) (λh=> .inr (.inl h)))
 have hF:∀k,XF g r gX mv nv xv k->XF g r sv mv nv xv k\/X.heap.size<=k:=λk hk=>by
  rcases hk with hk|hk|hk
  ·exact .inl (.inl hk)
  ·rcases h5 k hk with h6|h6
   ·exact .inl (.inr (.inl h6))
   refine .inr ?_;simp at h6;omega
  exact .inl (.inr (.inr hk))
 have zcp:(X1.setCell ⟨g,0,none⟩ gX).ownsRow W.heap.size 42 3 gX (sl.length+1) (sc.flatten++cs):=(Since.setCell (F:=λk=>k=g) (p:=⟨g,0,none⟩) (Since.refl _ X1) (.inl rfl) _).row h1 (λk hk e=>yx h1 b1 (by decide) k hk e)
 refine⟨h.below.trans (s2.below h.below.size (λk hk=>hk.elim (λe=>by rw [e];exact h.lo) (λe=>(h.st.row.lt k e).1))),h.lo,h.rlo, ?_,h.st.push s2 hG hF hx hc zcp,h.mo.step s2 ?_ hG hF,h.ne.step s2 ?_ hG hF,s2.row h.xr ?_⟩
 ·have:=zu b1 0 gX;simpa using this
 ·exact λk hk e=>e.elim (λe=>yx h.mo.row h.box (by decide) k hk e) (λe=>yC h.mo.row h.st.row (by decide) k hk e)
 ·exact λk hk e=>e.elim (λe=>yx h.ne.row h.box (by decide) k hk e) (λe=>yC h.ne.row h.st.row (by decide) k hk e)
 exact λk hk e=>e.elim (λe=>yx h.xr h.box (by decide) k hk e) (λe=>yC h.xr h.st.row (by decide) k hk e)
theorem kY.zkK (h:kY W X g r sv mv nv xv sl ml nl xl sc mc nc) {o:Obj} {x:Int} {xv':Value} (h1:X1.ownsRow W.heap.size 3 1 xv' (xl.length+1) (zo yP xl++ [.int .i64 x]))
  (h4:Since (λk=>xv.ownBlock=some k) (X.alloc o) X1) (h5:∀k,xv'.ownBlock=some k->xv.ownBlock=some k\/k=(X.alloc o).heap.size):kY W X1 g r sv mv nv xv' sl ml nl (xl++ [x]) sc mc nc:=by
 have hg:=zx h.box
 have s1:Since (λk=>xv.ownBlock=some k) X X1:=((Since.refl _ X).alloc o).trans h4 (λk hk=> .inl hk)
 have hG:∀k,xv.ownBlock=some k->XF g r sv mv nv xv k\/X.heap.size<=k:=λk hk=> .inl (.inr (.inr (.inr (.inr hk))))
 have hF:∀k,XF g r sv mv nv xv' k->XF g r sv mv nv xv k\/X.heap.size<=k:=λk hk=>by
  rcases hk with hk|hk|hk|hk|hk
  ·exact .inl (.inl hk)
  ·exact .inl (.inr (.inl hk))
  ·exact .inl (.inr (.inr (.inl hk)))
  ·exact .inl (.inr (.inr (.inr (.inl hk))))
  rcases h5 k hk with h6|h6
  ·exact .inl (.inr (.inr (.inr (.inr h6))))
  refine .inr ?_;simp at h6;omega
 refine⟨h.below.trans (s1.below h.below.size (λk hk=>(h.xr.lt k hk).1)),h.lo,h.rlo,(s1.block _ hg (λe=>yx h.xr h.box (by decide) _ e rfl)).trans h.box,h.st.step s1 ?_ hG hF,h.mo.step s1 ?_ hG hF,h.ne.step s1 ?_ hG hF, ?_⟩
 ·exact λk hk e=>yC h.st.row h.xr (by decide) k hk e
 ·exact λk hk e=>yC h.mo.row h.xr (by decide) k hk e
 ·exact λk hk e=>yC h.ne.row h.xr (by decide) k hk e
 rw [List.length_append,zby];exact h1
theorem kY.z2y (h:kY W X g r sv mv nv xv sl ml nl xl sc mc nc) {o:Obj} {x:List zq} {cs:List Value} {mv':Value} (hx:zW (XF g r sv mv nv xv) X (λy=>bC y x cs)) (hc:cs.length=1) (h1:X1.ownsRow W.heap.size 32 1 mv' (ml.length+1) (mc.flatten++cs))
  (h4:Since (λk=>mv.ownBlock=some k) (X.alloc o) X1) (h5:∀k,mv'.ownBlock=some k->mv.ownBlock=some k\/k=(X.alloc o).heap.size):kY W (X1.setCell ⟨g,1,none⟩ mv') g r sv mv' nv xv sl (ml++ [x]) nl xl sc (mc++ [cs]) nc:=by
 have hg:=zx h.box
 have s1:Since (λk=>mv.ownBlock=some k) X X1:=((Since.refl _ X).alloc o).trans h4 (λk hk=> .inl hk)
 have b1:X1.heap[g]? =some (.cells #[sv,mv,nv] 49 (0,0)):=(s1.block _ hg (λe=>yx h.mo.row h.box (by decide) _ e rfl)).trans h.box
 have s2:Since (λk=>k=g\/mv.ownBlock=some k) X (X1.setCell ⟨g,1,none⟩ mv'):=(s1.mono (G:=λk=>k=g\/mv.ownBlock=some k) (λ_ _ h=> .inr h)).setCell (p:=⟨g,1,none⟩) (.inl (.inl rfl)) _
 have hG:∀k,(k=g\/mv.ownBlock=some k)->XF g r sv mv nv xv k\/X.heap.size<=k:=λk hk=> .inl (hk.elim (λh=> .inl (.inl h)) (λh=> .inr (.inr (.inl h))))
 have hF:∀k,XF g r sv mv' nv xv k->XF g r sv mv nv xv k\/X.heap.size<=k:=λk hk=>by
  rcases hk with hk|hk|hk|hk
  ·exact .inl (.inl hk)
  ·exact .inl (.inr (.inl hk))
  ·rcases h5 k hk with h6|h6
   ·exact .inl (.inr (.inr (.inl h6)))
   refine .inr ?_;simp at h6;omega
  exact .inl (.inr (.inr (.inr hk)))
 have zcp:(X1.setCell ⟨g,1,none⟩ mv').ownsRow W.heap.size 32 1 mv' (ml.length+1) (mc.flatten++cs):=(Since.setCell (F:=λk=>k=g) (p:=⟨g,1,none⟩) (Since.refl _ X1) (.inl rfl) _).row h1 (λk hk e=>yx h1 b1 (by decide) k hk e)
 refine⟨h.below.trans (s2.below h.below.size (λk hk=>hk.elim (λe=>by rw [e];exact h.lo) (λe=>(h.mo.row.lt k e).1))),h.lo,h.rlo, ?_,h.st.step s2 ?_ hG hF,h.mo.push s2 hG hF hx hc zcp,h.ne.step s2 ?_ hG hF,s2.row h.xr ?_⟩
 ·have:=zu b1 1 mv';simpa using this
 ·exact λk hk e=>e.elim (λe=>yx h.st.row h.box (by decide) k hk e) (λe=>yC h.st.row h.mo.row (by decide) k hk e)
 ·exact λk hk e=>e.elim (λe=>yx h.ne.row h.box (by decide) k hk e) (λe=>yC h.ne.row h.mo.row (by decide) k hk e)
 exact λk hk e=>e.elim (λe=>yx h.xr h.box (by decide) k hk e) (λe=>yC h.xr h.mo.row (by decide) k hk e)
theorem kY.z2z (h:kY W X g r sv mv nv xv sl ml nl xl sc mc nc) {o:Obj} {gY:Value} (h1:X1.ownsRow W.heap.size 31 1 gY (nl.length+1) (nc.flatten++ [xv]))
  (h4:Since (λk=>nv.ownBlock=some k) (X.alloc o) X1) (h5:∀k,gY.ownBlock=some k->nv.ownBlock=some k\/k=(X.alloc o).heap.size):kY W (X1.setCell ⟨g,2,none⟩ gY) g r sv mv gY (.slice none 0 0) sl ml (nl++ [xl]) [] sc mc (nc++ [[xv]]):=by
 have hg:=zx h.box
 have s1:Since (λk=>nv.ownBlock=some k) X X1:=((Since.refl _ X).alloc o).trans h4 (λk hk=> .inl hk)
 have b1:X1.heap[g]? =some (.cells #[sv,mv,nv] 49 (0,0)):=(s1.block _ hg (λe=>yx h.ne.row h.box (by decide) _ e rfl)).trans h.box
 have s2:Since (λk=>k=g\/nv.ownBlock=some k) X (X1.setCell ⟨g,2,none⟩ gY):=(s1.mono (G:=λk=>k=g\/nv.ownBlock=some k) (λ_ _ h=> .inr h)).setCell (p:=⟨g,2,none⟩) (.inl (.inl rfl)) _
 have hG:∀k,(k=g\/nv.ownBlock=some k)->XF g r sv mv nv xv k\/X.heap.size<=k:=λk hk=> .inl (hk.elim (λh=> .inl (.inl h)) (λh=> .inr (.inr (.inr (.inl h)))))
 have hF:∀k,XF g r sv mv gY (.slice none 0 0) k->XF g r sv mv nv xv k\/X.heap.size<=k:=λk hk=>by
  rcases hk with hk|hk|hk|hk|hk
  ·exact .inl (.inl hk)
  ·exact .inl (.inr (.inl hk))
  ·exact .inl (.inr (.inr (.inl hk)))
  ·rcases h5 k hk with h6|h6
   ·exact .inl (.inr (.inr (.inr (.inl h6))))
   refine .inr ?_;simp at h6;omega
  simp [Value.ownBlock] at hk
 have zcp:(X1.setCell ⟨g,2,none⟩ gY).ownsRow W.heap.size 31 1 gY (nl.length+1) (nc.flatten++ [xv]):=(Since.setCell (F:=λk=>k=g) (p:=⟨g,2,none⟩) (Since.refl _ X1) (.inl rfl) _).row h1 (λk hk e=>yx h1 b1 (by decide) k hk e)
 have hxx:∀k,xv.ownBlock=some k->¬(k=g\/nv.ownBlock=some k):=λk hk e=>e.elim (λe=>yx h.xr h.box (by decide) k hk e) (λe=>yC h.xr h.ne.row (by decide) k hk e)
 have hxF:∀k,xv.ownBlock=some k->¬XF g r sv mv gY (.slice none 0 0) k:=λk hk e=>by
  rcases e with(e|e)|e|e|e|e
  ·exact yx h.xr h.box (by decide) k hk e
  ·have:=(h.xr.lt k hk).1;have:=h.rlo;omega
  ·exact yC h.xr h.st.row (by decide) k hk e
  ·exact yC h.xr h.mo.row (by decide) k hk e
  ·have hr:=s2.row h.xr hxx
   exact yC hr zcp (by decide) k hk e
  simp [Value.ownBlock] at e
 have hnew:zW (XF g r sv mv gY (.slice none 0 0)) (X1.setCell ⟨g,2,none⟩ gY) (λy=>zbp y xl [xv]):=λy hy=>⟨xv,rfl,gH (hy.row (s2.row h.xr hxx) hxF)⟩
 refine⟨h.below.trans (s2.below h.below.size (λk hk=>hk.elim (λe=>by rw [e];exact h.lo) (λe=>(h.ne.row.lt k e).1))),h.lo,h.rlo, ?_,h.st.step s2 ?_ hG hF,h.mo.step s2 ?_ hG hF, ?_,World.ownsRow_nil _ _ _ _⟩
 ·have:=zu b1 2 gY;simpa using this
 ·exact λk hk e=>e.elim (λe=>yx h.st.row h.box (by decide) k hk e) (λe=>yC h.st.row h.ne.row (by decide) k hk e)
 ·exact λk hk e=>e.elim (λe=>yx h.mo.row h.box (by decide) k hk e) (λe=>yC h.mo.row h.ne.row (by decide) k hk e)
 have h0:=h.ne.step (F':=XF g r sv mv gY (.slice none 0 0)) (Since.refl (λ_=>False) X) (λ_ _ h=>h) (λ_ h=>h.elim) hF
 refine⟨by simp [h.ne.len],λj hj=> ?_, ?_⟩
 ·rw [List.length_append] at hj
  simp only [List.length_cons,List.length_nil] at hj
  by_cases e:j=nl.length
  ·subst e
   rw [jU,show nl.length=nc.length from h.ne.len.symm,jU]
   exact⟨rfl,hnew⟩
  have hj':j<nl.length:=by omega
  rw [j4 hj',j4 (by rw [h.ne.len];exact hj')]
  exact⟨(h.ne.part j hj').1,(h.ne.part j hj').2.step s2 hG hF⟩
 rw [List.length_append,List.flatten_append]
 simpa using zcp
theorem zld {F:Nat->Prop} {B:Nat} {s:zk} {tv mv:Value} {bs:List Value} (h:OwnAt B X tv mv s.threads s.mem bs) (hF:∀k,F k->k<B):zW F X (λy=>xV y s [tv,mv, .bool s.bad]):=λy hy=>
 ⟨tv,mv,rfl,(h.since hy (λk hk e=>by have:=(h.row.lt k hk).1;have:=hF k e;omega) (λk hk e=>by have:=(h.mem.lt k hk).1;have:=hF k e;omega) (λj hj k hk e=>by have:=((h.buf j hj).lt k hk).1;have:=hF k e;omega)).state s.bad⟩
theorem kY.blocks (h:kY W X g r sv mv nv xv sl ml nl xl sc mc nc):∀k,XF g r sv mv nv xv k->k<X.heap.size:=λk hk=>by
 rcases hk with(hk|hk)|hk|hk|hk|hk
 ·rw [hk];exact zx h.box
 ·exact Nat.lt_of_le_of_lt hk (Nat.lt_of_lt_of_le h.rlo h.below.size)
 ·exact(h.st.row.lt k hk).2
 ·exact(h.mo.row.lt k hk).2
 ·exact(h.ne.row.lt k hk).2
 exact(h.xr.lt k hk).2
end
end Go.Proofs.YtnhahkiojbanfaaGreatDoor
namespace Go.Proofs.YtnhahkiojbanfaaGreatDoor
open Go.RowKit
set_option maxRecDepth 100000
set_option maxHeartbeats 16000000
def bE (b:Nat) (s:zk):Prop:=∀j,j<s.threads.length->(s.threads.getD j default).buf.length<=b
theorem zjg {α:Type} {p:α->Bool} {l:List α} {b:Nat} [Inhabited α] (h:∀k,k<l.length->p (l.getD k default)=true->(l.take k).countP p<b):l.countP p<=b:=by
 have key:∀k,k<=l.length->(l.take k).countP p<=b:=by
  intro k
  induction k with
  |zero=>intro _;simp
  |succ k ih=>
  intro hk
  rw [List.take_succ_eq_append_getElem (by omega),List.countP_append]
  have h1:=ih (by omega)
  have h2:=h k (by omega)
  rw [List.getD_eq_getElem?_getD,List.getElem?_eq_getElem (by omega)] at h2
  simp only [Option.getD_some] at h2
  by_cases e:p l[k] =true
  ·have:=h2 e
   simp only [List.countP_cons,List.countP_nil,e,if_true];omega
  simp only [List.countP_cons,List.countP_nil,e];simp;omega
 have:=key l.length (Nat.le_refl _)
 rwa [List.take_length] at this
theorem znj {l:List zl} (h:∀x∈l,0<=x.var/\x.var<4):l.length=l.countP (λx=>decide (x.var=0))+l.countP (λx=>decide (x.var=1))+l.countP (λx=>decide (x.var=2))+l.countP (λx=>decide (x.var=3)):=by
 induction l with
 |nil=>rfl
 |cons x l ih=>
 have h1:=ih (λy hy=>h y (List.mem_cons_of_mem _ hy))
 have h2:=h x (List.mem_cons_self ..)
 simp only [List.length_cons,List.countP_cons,h1]
 have:x.var=0\/x.var=1\/x.var=2\/x.var=3:=by omega
 rcases this with e|e|e|e<;>simp [e] <;>omega
theorem ztB {c:zI} {m:zG} {l:List zl} (hv:c.vars<=4) (hm:m.bound<=8) (h:∀k,k<l.length->qN c m l k=true):l.length<=32:=by
 have hf:∀k,k<l.length->qR (l.take k) m (l.getD k default)=true/\0<=(l.getD k default).var/\(l.getD k default).var<4:=λk hk=>by
  have:=h k hk
  unfold qN at this
  simp only [Bool.and_eq_true,decide_eq_true_eq] at this
  exact⟨this.1.1.1.1,this.1.1.1.2,by have:=this.1.1.2;omega⟩
 have hx:∀x∈l,0<=x.var/\x.var<4:=λx hx=>by
  obtain⟨k,hk,e⟩:=List.getElem_of_mem hx
  have:=hf k hk
  rw [List.getD_eq_getElem?_getD,List.getElem?_eq_getElem hk] at this
  rw [<-e];exact this.2
 have key:∀v:Int,l.countP (λx=>decide (x.var=v))<=8:=λv=>zjg λk hk hp=>by
  have h1:=(hf k hk).1
  have hp:(l.getD k default).var=v:=by simpa using hp
  unfold qR at h1
  simp only [Bool.and_eq_true,Bool.or_eq_true,decide_eq_true_eq] at h1
  obtain⟨-,h2⟩:=h1
  have h3:(l.take k).countP (λx=>decide (x.var=v))<=zdR (l.take k) m (l.getD k default).var:=by
   unfold zdR
   refine List.countP_mono_left (λx _ hx=> ?_)
   rw [hp]
   simp only [Bool.or_eq_true];exact .inr hx
  omega
 rw [znj hx]
 have:=key 0;have:=key 1;have:=key 2;have:=key 3
 omega
theorem zcJ {c:zI} {m:zG} {s:zk} (h:yB c m s=true):bE 32 s:=by
 intro j hj
 have h0:=h
 unfold yB at h
 simp only [Bool.and_eq_true,decide_eq_true_eq] at h
 obtain⟨⟨⟨⟨h1, -⟩, -⟩, -⟩,h5⟩:=h
 unfold jh at h1
 simp only [Bool.and_eq_true,decide_eq_true_eq] at h1
 have hb:=xR h1.1.1.1.1
 rw [List.all_eq_true] at h5
 have h6:=h5 j (List.mem_range.2 hj)
 unfold vS at h6
 simp only [Bool.and_eq_true,decide_eq_true_eq] at h6
 have h7:=h6.2
 rw [List.all_eq_true] at h7
 exact ztB hb.2.1 h1.2 (λk hk=>h7 k (List.mem_range.2 hk))
theorem zqJ {c:zI} {m:zG} {s:zk} {t:zy} {x:zV} {d:Nat} {r:zy × List Int × Bool} (h:stepT c m s t x d=some r):r.1.buf.length<=t.buf.length+1:=by
 have hp:∀b m e,(jJ b m e).length<=b.length+1:=λb m e=>by unfold jJ;split<;>simp
 by_cases h1:x.op=1
 ·rw [pF h1] at h;cases h;simp only [];omega
 by_cases h2:x.op=2
 ·by_cases hm:m.model=0
  ·rw [bF h2 hm] at h;cases h;simp only [];omega
  by_cases hq:qR t.buf m ⟨x.var,yu t.regs c.domain d x.a⟩=true
  ·rw [bG h2 hm hq] at h;cases h;exact hp _ _ _
  rw [bH h2 hm (by simpa using hq)] at h;cases h
 by_cases h3:x.op=3
 ·rw [zbz h3] at h;cases h;simp only [];omega
 by_cases h4:x.op=4
 ·rw [uO h4] at h;split at h
  ·cases h;simp only [];omega
  cases h
 by_cases h5:x.op=5
 ·rw [uq h5] at h;split at h
  ·cases h;simp only [];omega
  cases h
 by_cases h6:x.op=6
 ·by_cases hv:s.mem.getD x.var.toNat 0=yu t.regs c.domain d x.a
  ·rw [pG h6 hv] at h;split at h
   ·cases h;simp only [];omega
   cases h
  rw [pI h6 hv] at h;split at h
  ·cases h;simp only [];omega
  cases h
 by_cases h7:x.op=7
 ·rw [uw h7] at h;split at h
  ·cases h;simp only [];omega
  cases h
 by_cases h8:x.op=8
 ·rw [gI h8] at h;split at h
  ·cases h;simp only [];omega
  cases h
 by_cases h9:x.op=9
 ·rw [kZ h9] at h;cases h;simp only [];omega
 by_cases h12:x.op=12
 ·rw [gJ h12] at h;cases h;simp only [];split<;>simp only [] <;>omega
 by_cases h13:x.op=13
 ·rw [zaN h13] at h;cases h;simp only [];omega
 rw [zbq h1 h2 h3 h4 h5 h6 h7 h8 h9 h12 h13] at h;cases h;simp only [];omega
theorem zle {b:Nat} {ts:List zy} {mem:List Int} {bad:Bool} {i:Nat} {t:zy} (h:∀j,j<ts.length->(ts.getD j default).buf.length<=b) (ht:t.buf.length<=b):bE b ⟨ts.set i t,mem,bad⟩:=by
 intro j hj
 simp only [List.length_set] at hj ⊢
 rw [qV hj]
 split
 ·exact ht
 exact h j hj
theorem zqK (l:List zl) (v:Int):(takeB l v).2.length<=l.length:=zh7 l v l.length
theorem zxC {c:zI} {m:zG} {s:zk} {x:zq} {d:Nat} :bE 33 (kK c m s x d).1:=by
 have hE:bE 33 vF:=λj hj=>by simp [vF] at hj
 unfold kK
 by_cases hf:yB c m s=true
 rotate_left
 ·rw [if_neg hf];exact hE
 have hb:=zcJ hf
 rw [if_pos hf]
 split
 ·rename_i ht
  split
  ·cases hst:kg c m s x.thread.toNat d with
   |none=>exact hE
   |some t=>
   unfold kg at hst
   split at hst
   ·rw [Option.map_eq_some_iff] at hst
    obtain⟨r,h1,rfl⟩:=hst
    refine zle (λj hj=>by have:=hb j hj;omega) ?_
    have:=zqJ h1
    have:=hb x.thread.toNat (by omega)
    omega
   cases hst
  split
  ·refine zle (λj hj=>by have:=hb j hj;omega) ?_
   simp only []
   have:=zqK (s.threads.getD x.thread.toNat default).buf x.var
   have:=hb x.thread.toNat (by omega)
   omega
  exact hE
 exact hE
theorem zoN (c:zI):bE 33 (vE c):=by
 unfold vE
 split
 ·intro j hj
  simp only [List.length_replicate] at hj ⊢
  rw [List.getD_eq_getElem?_getD,List.getElem?_replicate,if_pos hj];simp [show(default:zy).buf= [] from rfl]
 intro j hj;simp at hj
theorem zh8 {c:zI} {m:zG} {s:zk} {d:Nat} :(qp c m s d).length<=132:=by
 unfold qp
 split
 ·rename_i hf
  have hb:=zcJ hf
  obtain⟨h1, -,h2, -, -⟩:=pE hf
  have h4:=(xR h1).2.2.2.2.2
  have key:∀k,k<=s.threads.length->((List.range k).flatMap (kX c m s d)).length<=33*k:=by
   intro k
   induction k with
   |zero=>intro _;simp
   |succ k ih=>
   intro hk
   rw [zaL,List.length_append]
   have:=ih (by omega)
   have h5:(kX c m s d k).length<=33:=by
    unfold kX
    have h6:=zbS (s.threads.getD k default).buf m.model
    have h7:=hb k (by omega)
    rw [List.length_append,List.length_map]
    split<;>simp only [List.length_cons,List.length_nil] <;>omega
   omega
  have:=key _ (Nat.le_refl _)
  omega
 simp
theorem zqL (l:List zk) (t:zk):(putAt l t).1.length<=l.length+1/\l.length<=(putAt l t).1.length/\(putAt l t).2<=l.length/\((putAt l t).1.length<=(putAt l t).2+1\/(putAt l t).1.length=l.length):=by
 unfold putAt
 split
 ·rename_i h
  have:=List.idxOf_le_length (a:=t) (l:=l)
  simp;omega
 simp
theorem vT {P:Program} (w:World) {ops:Array Oper} {rest:List Oper} {o:Oper} {a:Act} {Q:Exit->Act->World->Prop} (hgd:o.guard=none) (s x:Operand) (t:TypeId)
  (ho:o.op= .call { callee:= .builtin .append,args:= #[s,x],argTypes:= #[t,t] })
  (e:TypeId) (z:Value) (size bytes:Nat) (ht:P.underlying t=some (.slice e)) (hinfo:(P.info? e).map (λi=>(i.zero,i.size,i.bytes))=some (some z,size,bytes)) (hzs:z.cells.size=size) (hsz:0<size)
  (base:Nat) (v:Value) (n:Nat) (xs:List Value) (hs:a.eval s=v) (hown:w.ownsRow base e size v n xs)
  (ad:Option Addr) (m c:Nat) (news:List Value) (hx:a.eval x= .slice ad m c) (hl:news.length=m*size) (hnews:∀A,ad=some A->∀j u,news[j]? =some u->w.cell? (A.add j)=some u) (hnone:ad=none->m=0) (h1:∀u∈news,u.oneCell'=true)
  (h63:n+m<=maxLen) (hbytes:(n+m)*bytes<=140737488355328) (hbase:base<=w.heap.size)
  (h:∀a' cap' w',w'.ownsRow base e size (.slice a' (n+m) cap') (n+m) (xs++news)->cap'<=9223372036854775807->n+m<=cap'->Since (λk=>v.ownBlock=some k) w w'->
   (∀k,(Value.slice a' (n+m) cap').ownBlock=some k->v.ownBlock=some k\/k=w.heap.size)->
   wpList P ops Q rest (a.put o.dst (.slice a' (n+m) cap')) w'):wpList P ops Q (o::rest) a w:=by
 cases ad with
 |some A=>exact zK w hgd s x t ho e z size bytes ht hinfo hzs hsz base v n xs hs hown A m c news hx hl (hnews A rfl) h1 h63 hbytes hbase (λa' cap' w' p1 p2 p3 p4 p5 _=>h a' cap' w' p1 p2 p3 p4 p5)
 |none=>
 have hm:=hnone rfl
 subst hm
 have hn:news= [] :=List.eq_nil_of_length_eq_zero (by simpa using hl)
 subst hn
 obtain⟨i,hi,hz,hsize,hby⟩:=info_parts hinfo
 obtain⟨va,cap,rfl,hc1,hc2⟩:=xu hown
 have hr:(Builtin.append_ #[t,t] o.type #[.slice va n cap, .slice none 0 c]).run P w= .ok (.slice va n cap) w:=by
  cases va<;>simp [Builtin.append_,run_underlying ht,sizeOf,typeInfo,hi,Builtin.lenOf,Builtin.firstCells,hc1,storeCells]
 refine wpList_plain hgd λ_ hK=> ?_
 unfold Oper.wp execOp
 simp only [ho,resolve,invoke,builtin,Sem.run_bind,Sem.run_pure,Result.andThen_ok,List.map_toArray,List.map_cons,List.map_nil,hs,hx,hr]
 exact hK _ _ (h va cap w (by rw [List.append_nil];exact hown) (by unfold maxLen at hc2;omega) hc1 (Since.refl _ _) (λk hk=> .inl hk))
theorem gK {X:World} {B g size n:Nat} {e:TypeId} {cs:List Value} (h:X.heap[g]? =some (.cells cs.toArray e (0,0))) (hB:B<=g) (hl:cs.length=n*size) (hn:n<=maxLen):X.ownsRow B e size (.slice (some ⟨g,0,none⟩) n n) n cs:=
 ⟨hl, .inr ⟨g,n,cs.toArray,rfl,hB,h,Nat.le_refl _,hn,by simp [hl],by rw [List.take_of_length_le (by simp [hl])]⟩⟩
def zy0 (_:World) (r:List Int) (cs:List Value):Prop:=r.length=4/\cs= [.int .i64 (r.getD 0 0), .int .i64 (r.getD 1 0), .int .i64 (r.getD 2 0), .int .i64 (r.getD 3 0)]
abbrev zy1:=zh zy0 4
structure zxD (w:World) (f:zlf) (mv rv:Value):Prop where
 mem:xU w mv f.mem
 regs:zy1 w rv f.regs
def zy2 (w:World) (f:zlf) (cs:List Value):Prop:=∃mv rv,cs= [mv,rv] /\zxD w f mv rv
abbrev z4X:=zh zy2 2
def zoO:zN:= .mk 1 1 0 []
def noE:zN:= .mk 0 0 0 []
def qz:zI:=⟨2,2, [[⟨2,0,0,zoO,noE,0⟩,⟨1,0,1,noE,noE,0⟩], [⟨2,0,1,zoO,noE,0⟩,⟨1,0,0,noE,noE,0⟩]]⟩
theorem znP (w:World):Calls Tryz.prog 46 #[.int .i64 1] w λe w'=>e= .returned (.agg #[.int .i64 1, .int .i64 1, .int .u8 0, .slice none 0 0])/\Below w.heap.size w w':=by
 go_enter Tryz.func46,Tryz.ntmps46
 go_wp2
 exact bodyPost_ret (v:= .agg #[.int .i64 1, .int .i64 1, .int .u8 0, .slice none 0 0]) (by simp [results,Tryz.results46,go_sem]) rfl ⟨rfl,(Below.refl _ _).alloc (Nat.le_refl _) _⟩
theorem zxE {d:Nat} {w:World} {l:List (List zV)} {g m:Nat} {vs:List Value} {t:TypeId} (hb:w.heap[g]? =some (.cells vs.toArray t (0,0))) (hm:l.length<=m/\m<=9223372036854775807) (h:∀j,j<l.length->∃v,vs[j]? =some v/\wZ d w v (l.getD j [])):yJ d w (.slice (some ⟨g,0,none⟩) l.length m) l:=
 ⟨_,_,rfl,hm,λj hj=>by
  obtain⟨v,hv,hi⟩:=h j hj
  refine⟨g,0, [v],rfl,zx hb,rfl,λi hi=> ?_,v,rfl,hi⟩
  obtain rfl:i=0:=by omega
  rw [show 0+j*1+0=j by omega,ze hb,List.getElem?_toArray,hv];rfl⟩
theorem zqM (w:World) (k n o:Int):zF 1 w (.mk k n o []) (.slice none 0 0):=⟨none,0,rfl,by simp [zN.kids],λj hj=>by simp [zN.kids] at hj⟩
theorem zqN:(Tryz.prog.info? 26).map (·.size)=some 3:=by kernel_rfl
def zoP (x:zV):List Value:=x.cells (.slice none 0 0) (.slice none 0 0)
theorem zgQ (x:zV):(zoP x).length=12:=rfl
theorem zjF (w:World) {x:zN} (h:x.kids= []):zF 1 w x (.slice none 0 0):=by
 obtain⟨k,n,o,l⟩:=x
 have:l= [] :=h
 subst this
 exact zqM _ _ _ _
theorem zgj {w:World} {g m:Nat} {l:List zV} {t:TypeId} (hb:w.heap[g]? =some (.cells (zo zoP l).toArray t (0,0))) (hl:l.length<=maxLen) (hm:l.length=m) (h:∀j,j<l.length->(l.getD j default).a.kids= [] /\(l.getD j default).b.kids= []):wZ 1 w (.slice (some ⟨g,0,none⟩) m m) l:=by
 subst hm
 exact zh.zco (R:=vG 1) (gK (B:=0) hb (Nat.zero_le _) (jC zgQ l) hl) λj hj=>⟨zoP (l.getD j default),zgQ _,λ_ hi=>za0 zgQ hj hi,_,_,rfl,zjF _ (h j hj).1,zjF _ (h j hj).2⟩
def zy3 (w:World) (e:Ending) (w':World):Prop:=(∃tv,e= .returned (yO qz tv)/\yJ 1 w' tv qz.threads)/\Below w.heap.size w w'
theorem zoQ (w:World):Calls Tryz.prog 25 #[] w (zy3 w):=by
 go_enter Tryz.func25,Tryz.ntmps25
 go_upto_region 1 with fail
 have L0:=qh ((Loc.start w).alloc 26 [.int .i64 0, .int .i64 0, .slice none 0 0])
 generalize World.alloc w _=W0 at L0 ⊢
 generalize w.heap.size=g at L0 ⊢
 go_upto_region 2 with(go_at_call 46;go_must(refine(znP _).mono ?_);rintro e W1 ⟨rfl,hb⟩;have L1:=qh ((L0.out.later hb).alloc 60 [.int .i64 2, .int .i64 0, .int .i64 0, .int .i64 1, .int .i64 1, .int .u8 0, .slice none 0 0, .int .i64 0, .int .i64 0, .int .u8 0, .slice none 0 0, .int .i64 0, .int .i64 1, .int .i64 0, .int .i64 1, .int .i64 0, .int .i64 0, .int .u8 0, .slice none 0 0, .int .i64 0, .int .i64 0, .int .u8 0, .slice none 0 0, .int .i64 0]);clear hb L0)
 generalize World.alloc W1 _=X at L1 ⊢
 generalize W1.heap.size=b1 at L1 ⊢
 go_upto_region 3 with(go_at_call 46;go_must(refine(znP _).mono ?_);rintro e W2 ⟨rfl,hb⟩;have L3:=qh ((L1.out.later hb).alloc 60 [.int .i64 2, .int .i64 0, .int .i64 1, .int .i64 1, .int .i64 1, .int .u8 0, .slice none 0 0, .int .i64 0, .int .i64 0, .int .u8 0, .slice none 0 0, .int .i64 0, .int .i64 1, .int .i64 0, .int .i64 0, .int .i64 0, .int .i64 0, .int .u8 0, .slice none 0 0, .int .i64 0, .int .i64 0, .int .u8 0, .slice none 0 0, .int .i64 0]);clear hb L1)
 generalize World.alloc W2 _=Y at L3 ⊢
 generalize W2.heap.size=b2 at L3 ⊢
 have l5:=L3.out.alloc 55 [.slice (some ⟨b1,0,none⟩) 2 2, .slice (some ⟨b2,0,none⟩) 2 2]
 have hg:=(l5.news (g,26, [.int .i64 0, .int .i64 0, .slice none 0 0]) (by simp)).1
 have L5:=qh l5
 have k0:=ze hg 0
 have k1:=ze hg 1
 have k2:=ze hg 2
 have z0:=zA hg 0
 have z1:=zA hg 1
 have z2:=zA hg 2
 clear l5 hg L3
 go_wp2
 have l6:=L5.out.store (g:=g) (t:=26) (cs:= [.int .i64 0, .int .i64 0, .slice none 0 0]) (by simp) [.int .i64 2, .int .i64 2, .slice (some ⟨Y.heap.size,0,none⟩) 2 2] rfl
 have ha:=L5.out.apart
 simp only [List.map_cons,List.map_nil,List.nodup_cons,List.mem_cons,List.not_mem_nil,or_false,not_or] at ha
 have hg:=(l6.news _ (uP (t:=26) (cs:= [.int .i64 0, .int .i64 0, .slice none 0 0]) (by simp))).1
 have hy:=(l6.news _ (jK (p:=(Y.heap.size,55, [.slice (some ⟨b1,0,none⟩) 2 2, .slice (some ⟨b2,0,none⟩) 2 2])) (by simp) ha.1.2.2)).1
 have h2:=(l6.news _ (jK (p:=(b2,60, [.int .i64 2, .int .i64 0, .int .i64 1, .int .i64 1, .int .i64 1, .int .u8 0, .slice none 0 0, .int .i64 0, .int .i64 0, .int .u8 0, .slice none 0 0, .int .i64 0, .int .i64 1, .int .i64 0, .int .i64 0, .int .i64 0, .int .i64 0, .int .u8 0, .slice none 0 0, .int .i64 0, .int .i64 0, .int .u8 0, .slice none 0 0, .int .i64 0])) (by simp) ha.2.1.2)).1
 have h1:=(l6.news _ (jK (p:=(b1,60, [.int .i64 2, .int .i64 0, .int .i64 0, .int .i64 1, .int .i64 1, .int .u8 0, .slice none 0 0, .int .i64 0, .int .i64 0, .int .u8 0, .slice none 0 0, .int .i64 0, .int .i64 1, .int .i64 0, .int .i64 1, .int .i64 0, .int .i64 0, .int .u8 0, .slice none 0 0, .int .i64 0, .int .i64 0, .int .u8 0, .slice none 0 0, .int .i64 0])) (by simp) ha.2.2.1)).1
 have L6:=qh l6.below
 change bodyPost _ _ _ _ _ (yF _ g 0 [.int .i64 2, .int .i64 2, .slice (some ⟨Y.heap.size,0,none⟩) 2 2])
 generalize yF _ g 0 _=Z at hg hy h2 h1 L6 ⊢
 refine bodyPost_ret (xI rfl _ _ g 26 _ (0,0) _ rfl hg Tryz.underlying26 rfl zqN) rfl ?_
 refine⟨⟨_,rfl,zxE (l:=qz.threads) hy (by decide) λj hj=> ?_⟩,L6.out⟩
 match j,hj with
 |0,_=>exact⟨_,rfl,zgj (l:= [⟨2,0,0,zoO,noE,0⟩,⟨1,0,1,noE,noE,0⟩]) h1 (by decide) rfl (λj hj=>by match j,hj with|0,_=>exact⟨rfl,rfl⟩|1,_=>exact⟨rfl,rfl⟩)⟩
 |1,_=>exact⟨_,rfl,zgj (l:= [⟨2,0,1,zoO,noE,0⟩,⟨1,0,0,noE,noE,0⟩]) h2 (by decide) rfl (λj hj=>by match j,hj with|0,_=>exact⟨rfl,rfl⟩|1,_=>exact⟨rfl,rfl⟩)⟩
