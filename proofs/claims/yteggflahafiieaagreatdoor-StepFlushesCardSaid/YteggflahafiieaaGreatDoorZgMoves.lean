/- Steps. -/
import Derived.Test.YteggflahafiieaaGreatDoorZgFits
import Derived.Test.YteggflahafiieaaGreatDoorZgStep
set_option linter.all false
namespace Go.Proofs.YteggflahafiieaaGreatDoor
open Go.RowKit
set_option maxRecDepth 100000
set_option maxHeartbeats 16000000
theorem za8 (w:World) (o1 o2 o3:Obj):Below w.heap.size w (((w.alloc o1).alloc o2).alloc o3)/\(((w.alloc o1).alloc o2).alloc o3).heap[w.heap.size]? =some o1/\(((w.alloc o1).alloc o2).alloc o3).heap[w.heap.size+1]? =some o2/\(((w.alloc o1).alloc o2).alloc o3).heap[w.heap.size+2]? =some o3:=
 ⟨bI w _ _ _,bJ w _ _ _,uO w _ _ _,bK w _ _ _⟩
theorem zls (x:zN):(zN.cells x).length=3:=rfl
theorem uX:(Tryz.prog.info? 43).map (λi=>(i.zero,i.size,i.bytes))=some (some (.agg #[.int .i64 0, .int .i64 0, .int .i64 0]),3,24):=by kernel_rfl
theorem zcw (l:List zi) (model:Int):(yD l model).length<=l.length:=by
 unfold yD
 split
 ·exact zeS _ _
 split
 ·cases l<;>simp
 simp
theorem zqP (c:zK) (m:zF) (s:zm) (d i:Nat) (h:(s.threads.getD i default).buf.length<=100000):(wK c m s d i).length<=100001:=by
 unfold wK
 have:=zcw (s.threads.getD i default).buf m.model
 rw [List.length_append,List.length_map]
 split<;>simp only [List.length_cons,List.length_nil] <;>omega
theorem zde {α:Type} (f:α->List Value) (l:List α) (x:α):zl f (l++ [x])=zl f l++f x:=by simp [zl]
theorem za9 {α:Type} (f:Nat->List α) (i:Nat):(List.range (i+1)).flatMap f=(List.range i).flatMap f++f i:=by rw [List.range_succ];simp
theorem znT {α:Type} {f:α->List Value} {B:Nat} {e:TypeId} {size:Nat} {w X:World} {a a':Option Addr} {n m c c':Nat} {l:List α} {x:α} {o:Obj} (ho:w.ownsRow B e size (.slice a n c) n (zl f l)) (h1:X.ownsRow B e size (.slice a' m c') m (zl f l++f x))
  (h4:Since (λk=>(Value.slice a n c).ownBlock=some k) (w.alloc o) X) {V:World} (hV:Below V.heap.size V w) (hB:V.heap.size<=B):X.ownsRow B e size (.slice a' m c') m (zl f (l++ [x]))/\Below V.heap.size V X:=by
 refine⟨by rw [zde];exact h1,hV.trans ((((Since.refl _ w).alloc o).trans h4 (λk hk=> .inl hk)).below hV.size (λk hk=>Nat.le_trans hB (ho.lt k hk).1))⟩
theorem ze9 {B:Nat} {e:TypeId} {size n:Nat} {w X:World} {v v' hv:Value} {xs:List Value} {o:Obj} (h:w.ownsRow B e size hv n xs) (hne:∀k,v.ownBlock=some k->hv.ownBlock≠some k) (h4:Since (λk=>v.ownBlock=some k) (w.alloc o) X)
  (h5:∀k,v'.ownBlock=some k->v.ownBlock=some k\/k=(w.alloc o).heap.size):X.ownsRow B e size hv n xs/\∀k,v'.ownBlock=some k->hv.ownBlock≠some k:=by
 refine⟨h4.row (h.alloc o) (λk h1 h2=>hne k h2 h1),λk h1 h2=> ?_⟩
 rcases h5 k h1 with h3|h3
 ·exact hne k h3 h2
 have:=(h.lt k h2).2;simp at h3;omega
def zfw (w:World) (l:List zN) (e:Ending) (w':World):Prop:=(∃va vc,e= .returned (.slice va l.length vc)/\w'.ownsRow w.heap.size 43 3 (.slice va l.length vc) l.length (zl zN.cells l))/\Below w.heap.size w w'
theorem zac {w w':World} {l:List zN} {va:Option Addr} {vn vc:Nat} (h:l.length=vn) (ho:w'.ownsRow w.heap.size 43 3 (.slice va vn vc) vn (zl zN.cells l)) (hb:Below w.heap.size w w'):zfw w l (.returned (.slice va vn vc)) w':=by
 subst h;exact⟨⟨va,vc,rfl,ho⟩,hb⟩
theorem zrF (w:World) (c:zK) (cv:Value) (d:Nat) (hc:yZ d w cv c.threads) (m:zF) (s:zm) (sv mv:Value) (hs:yh w s sv mv) (hb:∀j,j<s.threads.length->(s.threads.getD j default).buf.length<=100000):
  Calls Tryz.prog 30 #[yT c cv,xD m,yR s sv mv] w (zfw w (qM c m s d)):=by
 obtain⟨ca,cc,rfl, -⟩:=ze.slice hc
 obtain⟨ta,vE,rfl, -⟩:=ze.slice hs.threads
 obtain⟨ma,qN,rfl, -⟩:=ze.slice hs.mem
 obtain⟨fo,hfo⟩:∃fo,fo=xR c m s:=⟨_,rfl⟩
 obtain⟨R,hR⟩:∃R,R=qM c m s d:=⟨_,rfl⟩
 rw [<-hR]
 have hfits:=λW hc hs=>zl9 W c (.slice ca c.threads.length cc) d hc m s (.slice ta s.threads.length vE) (.slice ma s.mem.length qN) hs (λj hj=>by have:=hb j hj;omega)
 rw [<-hfo] at hfits
 have hstep:=λW hc hs i=>λ(hf:fo=true) hi=>zlA W c (.slice ca c.threads.length cc) d hc m s (.slice ta s.threads.length vE) (.slice ma s.mem.length qN) hs (hfo.symm.trans hf) i hi hb
 have gD:fo=true->s.threads.length<=4:=λe=>by
  obtain⟨h1, -,h2,h3, -⟩:=bD (hfo.symm.trans e)
  have h4:=qA h1
  rw [h2];exact h4.2.2.2.2.2
 have hmt:=λi (hi:i<s.threads.length)=>zqP c m s d i (hb i hi)
 have hR2:R=if fo then(List.range s.threads.length).flatMap (wK c m s d) else [] :=by rw [hR,hfo];rfl
 have hmT:∀i,wK c m s d i=(if (vT c m s i d).isSome then [⟨1,i,0⟩] else [])++(yD (s.threads.getD i default).buf m.model).map λv=>(⟨2,i,v⟩:zN):=λi=>rfl
 obtain⟨MT,hMT⟩:∃MT,MT=wK c m s d:=⟨_,rfl⟩
 rw [<-hMT] at hR2 hmt hmT
 have hT:=hs.threads
 obtain⟨vars,dom,cs⟩:=c
 obtain⟨mod,bnd⟩:=m
 obtain⟨ts,mem,bad⟩:=s
 obtain⟨SS,hSS⟩:∃SS,SS=λi=>vT ⟨vars,dom,cs⟩ ⟨mod,bnd⟩ ⟨ts,mem,bad⟩ i d:=⟨_,rfl⟩
 have z0g:∀i,vT ⟨vars,dom,cs⟩ ⟨mod,bnd⟩ ⟨ts,mem,bad⟩ i d=SS i:=λi=>by rw [hSS]
 simp only [] at hc hs hb gD hfits hstep hR2 hmt hT hmT ⊢
 simp only [z0g] at hstep hmT
 unfold yT xD yR
 unfold yT xD yR at hfits
 have hstep2:∀W,yZ d W (.slice ca cs.length cc) cs->yh W ⟨ts,mem,bad⟩ (.slice ta ts.length vE) (.slice ma mem.length qN)->∀i,fo=true->i<ts.length->Calls Tryz.prog 59 #[.agg #[.int .i64 vars, .int .i64 dom, .slice ca cs.length cc], .agg #[.int .i64 mod, .int .i64 bnd], .agg #[.slice ta ts.length vE, .slice ma mem.length qN, .bool bad], .int .i64 i] W λe w'=>(∃xa xn xc ya yn yc b',e= .returned (.tuple #[.agg #[.slice xa xn xc, .slice ya yn yc, .bool b'], .bool (SS i).isSome]))/\Below W.heap.size W w':=λW h1 h2 i h3 h4=>
  (hstep W h1 h2 i h3 h4).mono λe w' ⟨⟨xa,xn,xc,ya,yn,yc,s',he,_⟩,hb⟩=>⟨⟨xa,xn,xc,ya,yn,yc,s'.bad,he⟩,hb⟩
 clear hstep
 simp only [] at hfits ⊢
 obtain⟨n,hn⟩:∃n,n=ts.length:=⟨_,rfl⟩
 obtain⟨cn,hcn⟩:∃cn,cn=cs.length:=⟨_,rfl⟩
 obtain⟨mn,hmn⟩:∃mn,mn=mem.length:=⟨_,rfl⟩
 rw [<-hn] at hs hT hb hfits hstep2 gD hR2 hmt ⊢
 rw [<-hmn] at hs hfits hstep2 ⊢
 rw [<-hcn] at hc hfits hstep2 ⊢
 obtain⟨hB,h1,h2,h3⟩:=za8 w (.cells #[.int .i64 vars, .int .i64 dom, .slice ca cn cc] 26) (.cells #[.int .i64 mod, .int .i64 bnd] 31) (.cells #[.slice ta n vE, .slice ma mn qN, .bool bad] 35)
 have HB:=qh hB
 have H1:=qh h1
 have H2:=qh h2
 have H3:=qh h3
 have uL:=qh (ze.below (xK.stays d) hc hB)
 have HSW:=qh (yh.below hs hB)
 have HT:=qh (ze.below pJ.stays hT hB)
 have HN:=qh hn
 have bE:=qh hb
 have bN:=qh hfits
 have wu:=qh hstep2
 have HN4:=qh gD
 have HMT:=qh hmt
 have z6T:=qh hmT
 have HRR:=qh hR2
 clear hn hcn hmn hb hfits hstep2 gD hR2 hfo hB h1 h2 h3 hT hc hs hR hMT hSS z0g hmt hmT
 go_enter Tryz.func30,Tryz.ntmps30
 go_upto_region 1 with fail
 generalize World.alloc (World.alloc (World.alloc w _) _) _=W at HB H1 H2 H3 uL HSW HT ⊢
 obtain⟨gx,hgx⟩:∃gx,gx=w.heap.size:=⟨_,rfl⟩
 rw [<-hgx] at H1 H2 H3 ⊢
 have yV:Hid (w.heap.size<=W.heap.size):=HB.out.size
 clear hgx
 have xJ:Hid (∀y,Below W.heap.size W y->y.cell? ⟨gx,0,none⟩=some (.int .i64 vars)/\y.cell? ⟨gx,1,none⟩=some (.int .i64 dom)/\y.cell? ⟨gx,2,none⟩=some (.slice ca cn cc)/\
   y.cell? ⟨gx+1,0,none⟩=some (.int .i64 mod)/\y.cell? ⟨gx+1,1,none⟩=some (.int .i64 bnd)/\y.cell? ⟨gx+2,0,none⟩=some (.slice ta n vE)/\y.cell? ⟨gx+2,1,none⟩=some (.slice ma mn qN)/\y.cell? ⟨gx+2,2,none⟩=some (.bool bad)):=λy hx=>
  ⟨zh hx _ _ (za H1.out 0),zh hx _ _ (za H1.out 1),zh hx _ _ (za H1.out 2),zh hx _ _ (za H2.out 0),zh hx _ _ (za H2.out 1),zh hx _ _ (za H3.out 0),zh hx _ _ (za H3.out 1),zh hx _ _ (za H3.out 2)⟩
 have yL:Hid (∀x,Below W.heap.size W x->Below w.heap.size w x):=λx hx=>HB.out.trans (hx.mono HB.out.size)
 obtain⟨c0,c1,c2,c3,c4,c5,c6,c7⟩:=xJ.out W (Below.refl _ _)
 go_wp2_with fail
 refine(bN.out W uL.out HSW.out).mono ?_
 rintro e W1 ⟨rfl,hb1⟩
 have HB1:=qh hb1
 clear hb1 bN c0 c1 c2 c3 c4 c5 c6 c7
 cases fo with
 |false=>
  have hr:R.length=0:=by rw [HRR.out];rfl
  have hr2:zl zN.cells R= [] :=by rw [HRR.out];rfl
  have HR:=qh hr
  have HR2:=qh hr2
  clear hr hr2
  go_wp2_with fail
  go_ret
  exact zac HR.out (by rw [HR2.out];exact World.ownsRow_nil _ _ _ _) (yL.out _ HB1.out)
 |true=>
 have gD:n<=4:=HN4.out (by trivial)
 have HR:Hid (R=(List.range n).flatMap MT):=by rw [Hid,HRR.out];rfl
 clear HRR HN4
 go_wp2_with fail
 go_loopg [7,8] n (λgg s7 s8 wr=>∃(i:Nat) (oa:Option Addr) (on oc:Nat) (ml:List zN),i<=n/\Hid (gg=n - i)/\s7= .slice oa on oc/\s8= .int .i64 i/\on<=100001*i/\Hid (wr.ownsRow W.heap.size 43 3 (.slice oa on oc) on (zl zN.cells ml))/\Hid (ml.length=on)/\Hid (ml=(List.range i).flatMap MT)/\Hid (Below W.heap.size W wr))
 case atStart=>exact⟨0,none,0,0, [],Nat.zero_le _,rfl,rfl,rfl,by omega,World.ownsRow_nil _ _ _ _,rfl,rfl,HB1.out⟩
 case round=>
 obtain⟨i,oa,on,oc,ml,hi,HG,rfl,rfl,hon,HRO,uj,HML,zX⟩:=hrel
 obtain⟨wo,rfl⟩:∃wo:World,wo=wr:=⟨_,rfl⟩
 obtain⟨c0,c1,c2,c3,c4,c5,c6,c7⟩:=xJ.out wo zX.out
 by_cases hlt:i<n
 rotate_left
 ·obtain rfl:n=i:=by omega
  have HR2:Hid (R=ml):=by rw [Hid,HR.out,HML.out]
  go_wp2_with fail
  go_ret
  exact zac (by rw [HR2.out];exact uj.out) (by rw [HR2.out];exact xw HRO.out yV.out) (yL.out _ zX.out)
 have qK:(i:Int)<(n:Int):=by omega
 obtain⟨tb,yA,ba,bc,hta, -, -, -, -, -, -, -,x5,hbuf⟩:=qj.part HT.out i (by rw [<-HN.out];exact hlt)
 subst hta
 have hbl:=bE.out i hlt
 have hmt:=z6T.out i
 have hml:=HMT.out i hlt
 generalize ts.getD i default=t at x5 hbuf hbl hmt
 have z6U:=qh hml
 obtain⟨hh,hhh⟩:∃hh,hh=yD t.buf mod:=⟨_,rfl⟩
 rw [<-hhh] at hmt
 have z0h:=qh hmt
 have hhl:hh.length<=100000:=by have:=zcw t.buf mod;rw [hhh];omega
 obtain⟨bl,jw⟩:∃bl,bl=t.buf.length:=⟨_,rfl⟩
 rw [<-jw] at x5 hbuf
 have uG:Hid (∀y,Below W.heap.size W y->Calls Tryz.prog 60 #[.slice ba bl bc, .int .i64 mod] y λe w'=>(∃va vc,e= .returned (.slice va hh.length vc)/\w'.ownsRow y.heap.size 3 1 (.slice va hh.length vc) hh.length (zl yO hh))/\Below y.heap.size y w'):=λy hy=>
  (zjC y (.slice ba bl bc) t.buf (zW.below hbuf hy) (by omega) mod).mono λe w' ⟨⟨sv,sn,he,hsn,hi⟩,hb⟩=>by
   rw [<-hhh] at hi hsn
   subst hsn
   obtain⟨a,cp,rfl, -⟩:=qO hi
   exact⟨⟨a,cp,he,hi⟩,hb⟩
 have HX5:Hid (∀y,Below W.heap.size W y->y.cell? ⟨tb,yA+i*6+5,none⟩=some (.slice ba bl bc)):=λy hy=>zh hy _ _ x5
 obtain⟨hn,hhn⟩:∃hn,hn=hh.length:=⟨_,rfl⟩
 rw [<-hhn] at uG hhl
 have HHN:=qh hhn
 clear hhn hhh jw x5 hbuf hbl hmt hml
 go_upto_if 33 with(go_at_call 59;go_must(refine(wu.out wo (ze.below (xK.stays d) uL.out zX.out) (HSW.out.below zX.out) i (by trivial) hlt).mono ?_);rintro e W2 ⟨⟨xa,xn,xc,ya,yn,yc,b',rfl⟩,hb2⟩;have HB2:=qh hb2;clear hb2)
 have hbx:=(Below.refl wo.heap.size wo).trans ((HB2.out).alloc HB2.out.size (.cells #[.slice xa xn xc, .slice ya yn yc, .bool b'] 35))
 have xC:=qh hbx
 clear hbx c0 c1 c2 c3 c4 c5 c6 c7
 generalize World.alloc W2 _=W3 at xC ⊢
 have zvt:=qh (xX HRO.out xC.out)
 have HB3:=qh (zB zX.out xC.out)
 clear HB2 xC HRO zX
 generalize hSS:(SS i).isSome=is at z0h ⊢
 clear hSS
 go_cut [7] (λs7 w'=>∃(pa:Option Addr) (pn pc:Nat) (pl:List zN),s7= .slice pa pn pc/\pn<=on+1/\Hid (w'.ownsRow W.heap.size 43 3 (.slice pa pn pc) pn (zl zN.cells pl))/\Hid (pl.length=pn)/\Hid (pl=ml++(if is then [⟨1,i,0⟩] else []))/\Hid (Below W.heap.size W w'))
 case first=>
  cases is with
  |true=>
   go_wp2_with(at_builtin;go_must(refine yx _ rfl _ _ 37 rfl 43 (.agg #[.int .i64 0, .int .i64 0, .int .i64 0]) 3 24 Tryz.underlying37 uX rfl (by decide) W.heap.size (.slice oa on oc) on (zl zN.cells ml) rfl ((zvt.out).alloc _) ⟨W3.heap.size,0,none⟩ 1 1 (zN.cells ⟨1,i,0⟩) rfl rfl (gT _ (zN.cells ⟨1,i,0⟩) _) (by simp [zN.cells,Value.oneCell']) (by unfold maxLen;omega) (by omega) (by have:=HB3.out.size;simp;omega) ?_);intro ja jc X f1 f2 f3 f4 f5 f6;have HE:=qh (znT (zvt.out) f1 f4 (HB3.out) (Nat.le_refl _));clear f1 f2 f3 f4 f5 f6)
   go_meet
   case rel=>exact⟨ja,on+1,jc,ml++ [(⟨1,(i:Int),0⟩:zN)],rfl,by omega,HE.out.1,by rw [Hid,List.length_append,uj.out];rfl,by simp [Hid],HE.out.2⟩
  |false=>
  go_wp2_with fail
  go_meet
  case rel=>exact⟨oa,on,oc,ml,rfl,by omega,zvt.out,uj.out,by simp [Hid],HB3.out⟩
 case rest=>
 obtain⟨pa,pn,pc,pl,rfl,hpn,HPR,HPN,gF,vL⟩:=hcut
 obtain⟨W4,rfl⟩:∃W4:World,W4=wc:=⟨_,rfl⟩
 go_upto_region 10 with fail
 have HCX:Hid (∀y,Below W4.heap.size W4 y->y.cell? ⟨gx+2,0,none⟩=some (.slice (some ⟨tb,yA,none⟩) n vE)/\y.cell? ⟨gx+1,0,none⟩=some (.int .i64 mod)/\y.cell? ⟨tb,yA+i*6+5,none⟩=some (.slice ba bl bc)):=λy hy=>by
  have hw:=zB vL.out hy
  obtain⟨-, -, -,c3, -,c5, -, -⟩:=xJ.out y hw
  exact⟨c5,c3,HX5.out y hw⟩
 have zp2:Hid (∀y,Below W4.heap.size W4 y->Calls Tryz.prog 60 #[.slice ba bl bc, .int .i64 mod] y λe w'=>(∃va vc,e= .returned (.slice va hn vc)/\w'.ownsRow y.heap.size 3 1 (.slice va hn vc) hn (zl yO hh))/\Below y.heap.size y w'):=λy hy=>uG.out y (zB vL.out hy)
 refine vJ (S:=λx=>Below W4.heap.size W4 x) (Below.refl _ _).drew (λhH=> ?_)
 refine zk 0 HCX.out ?_
 refine zk 1 HCX.out ?_
 refine zk 2 HCX.out ?_
 refine zk 3 HCX.out ?_
 refine zk 4 HCX.out ?_
 refine zk 5 HCX.out ?_
 refine zk 6 HCX.out ?_
 refine zk 7 HCX.out ?_
 refine yw 8 rfl (λK hK=> ?_)
 go_simp
 refine(zp2.out W4.drew hH).mono ?_
 rintro e hw8 ⟨⟨va,vc,rfl,hhr⟩,hb⟩
 have HHI:=qh hhr
 have HHG:Hid (W4.heap.size<=W4.drew.heap.size):=(hH).size
 clear hhr
 have zvu:Below W4.heap.size W4 hw8:=zB hH hb
 refine hK.out _ _ zvu (λ_=> ?_)
 clear hK K hb hH
 refine zk 9 HCX.out ?_
 refine xM ?_
 have yt:=qh zvu
 clear zvu
 go_wp2_with fail
 obtain⟨W5,hW5⟩:∃W5,W5=hw8:=⟨_,rfl⟩
 rw [<-hW5] at yt HHI ⊢
 clear hW5
 have z6V:=qh (xX HPR.out yt.out)
 have HB5:=qh (zB vL.out yt.out)
 have z6W:Hid (∀x,(Value.slice pa pn pc).ownBlock=some x->(Value.slice va hn vc).ownBlock≠some x):=λx h1 h2=>by have:=(HPR.out.lt x h1).2;have:=(HHI.out.lt x h2).1;have:=HHG.out;omega
 clear uG zp2 HCX yt vL HPR HHG
 go_loopg [7,12] hn (λgg s7 s12 wr=>∃(k:Nat) (qa:Option Addr) (qn qc:Nat) (ql:List zN),k<=hn/\Hid (gg=hn - k)/\s7= .slice qa qn qc/\s12= .int .i64 k/\qn<=on+1+k/\Hid (wr.ownsRow W.heap.size 43 3 (.slice qa qn qc) qn (zl zN.cells ql))/\Hid (ql.length=qn)/\Hid (ql=pl++(hh.take k).map (λv=>⟨2,i,v⟩))/\Hid (∃B,wr.ownsRow B 3 1 (.slice va hn vc) hn (zl yO hh))/\Hid (∀x,(Value.slice qa qn qc).ownBlock=some x->(Value.slice va hn vc).ownBlock≠some x)/\Hid (Below W.heap.size W wr))
 case atStart=>exact⟨0,pa,pn,pc,pl,Nat.zero_le _,rfl,rfl,rfl,by omega,z6V.out,HPN.out,by simp [Hid],⟨_,HHI.out⟩,z6W.out,HB5.out⟩
 case round=>
 obtain⟨k,qa,qn,qc,ql,hk,HG2,rfl,rfl,hqn,HQR,HQN,HQL,HHR,HNE,yM⟩:=hrel
 by_cases hkl:k<hn
 rotate_left
 ·obtain rfl:hn=k:=by omega
  have hst:ql=(List.range (i+1)).flatMap MT:=by
   rw [za9,z0h.out, <-HML.out,HQL.out,gF.out,HHN.out,List.take_length,List.append_assoc]
  have z6X:qn<=100001*(i+1):=by
   have h1:=z6U.out
   have h2:=congrArg List.length hst
   rw [za9,List.length_append, <-HML.out,uj.out,HQN.out] at h2
   omega
  have HST:=qh hst
  clear hst
  go_wp2_with fail
  go_roundg (n - (i+1))
  case measure=>rw [HG.out];omega
  case rel=>exact⟨i+1,qa,qn,qc,ql,by omega,rfl,rfl,by simp,z6X,HQR.out,HQN.out,HST.out,yM.out⟩
 have zyq:(k:Int)<(hn:Int):=by omega
 obtain⟨BH,hhr⟩:=HHR.out
 have hrw:=hhr
 rw [HHN.out] at hrw
 obtain⟨b9,o9,yG, -,e1⟩:=xI.part (gQ hrw) k (by rw [<-HHN.out];exact hkl)
 subst yG
 have HRB:=qh hhr
 clear hhr hrw
 have jX:Hid (hh.take (k+1)=hh.take k++ [hh.getD k 0]):=by rw [Hid,List.take_succ_eq_append_getElem (by rw [<-HHN.out];exact hkl),List.getD_eq_getElem?_getD,List.getElem?_eq_getElem (by rw [<-HHN.out];exact hkl)];rfl
 generalize hh.getD k 0=v at e1 jX
 go_wp2_with(at_builtin;go_must(refine yx _ rfl _ _ 37 rfl 43 (.agg #[.int .i64 0, .int .i64 0, .int .i64 0]) 3 24 Tryz.underlying37 uX rfl (by decide) W.heap.size (.slice qa qn qc) qn (zl zN.cells ql) rfl ((HQR.out).alloc _) ⟨wr.heap.size,0,none⟩ 1 1 (zN.cells ⟨2,i,v⟩) rfl rfl (gT _ (zN.cells ⟨2,i,v⟩) _) (by simp [zN.cells,Value.oneCell']) (by unfold maxLen;omega) (by omega) (by have:=yM.out.size;simp;omega) ?_);intro ja jc X f1 f2 f3 f4 f5 f6;have HE:=qh (znT (HQR.out) f1 f4 (yM.out) (Nat.le_refl _));have HE2:=qh (ze9 HRB.out HNE.out f4 f5);clear f1 f2 f3 f4 f5 f6)
 go_roundg (hn - (k+1))
 case measure=>rw [HG2.out];omega
 case rel=>exact⟨k+1,ja,qn+1,jc,ql++ [(⟨2,(i:Int),v⟩:zN)],by omega,rfl,rfl,by simp,by omega,HE.out.1,by rw [Hid,List.length_append,HQN.out];rfl,by rw [Hid,HQL.out,jX.out];simp,⟨_,HE2.out.1⟩,HE2.out.2,HE.out.2⟩
