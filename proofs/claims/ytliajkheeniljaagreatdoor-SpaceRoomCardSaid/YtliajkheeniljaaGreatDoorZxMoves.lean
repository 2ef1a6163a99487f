/- Steps. -/
import Derived.Test.YtliajkheeniljaaGreatDoorZxFits
import Derived.Test.YtliajkheeniljaaGreatDoorZxSame7
import Derived.Test.YtliajkheeniljaaGreatDoorZxStep
set_option linter.all false
namespace Go.Proofs.YtliajkheeniljaaGreatDoor
open Go.RowKit
set_option maxRecDepth 100000
set_option maxHeartbeats 16000000
theorem zdV (w:World) (o1 o2 o3:Obj):Below w.heap.size w (((w.alloc o1).alloc o2).alloc o3)/\(((w.alloc o1).alloc o2).alloc o3).heap[w.heap.size]? =some o1/\(((w.alloc o1).alloc o2).alloc o3).heap[w.heap.size+1]? =some o2/\(((w.alloc o1).alloc o2).alloc o3).heap[w.heap.size+2]? =some o3:=
 ⟨zaI w _ _ _,zaJ w _ _ _,zaq w _ _ _,zaK w _ _ _⟩
theorem bP (x:zu):(zu.cells x).length=3:=rfl
theorem bQ:(Tryz.prog.info? 32).map (λi=>(i.zero,i.size,i.bytes))=some (some (.agg #[.int .i64 0, .int .i64 0, .int .i64 0]),3,24):=by kernel_rfl
theorem zbV (l:List zo) (model:Int):(yD l model).length<=l.length:=by
 unfold yD
 split
 ·exact zg6 _ _
 split
 ·cases l<;>simp
 simp
theorem zpD (c:zF) (m:zA) (s:zk) (d i:Nat) (h:(s.threads.getD i default).buf.length<=100000):(kP c m s d i).length<=100001:=by
 unfold kP
 have:=zbV (s.threads.getD i default).buf m.model
 rw [List.length_append,List.length_map]
 split<;>simp only [List.length_cons,List.length_nil] <;>omega
theorem zcB {α:Type} (f:α->List Value) (l:List α) (x:α):zq f (l++ [x])=zq f l++f x:=by simp [zq]
theorem zaP {α:Type} (f:Nat->List α) (i:Nat):(List.range (i+1)).flatMap f=(List.range i).flatMap f++f i:=by rw [List.range_succ];simp
theorem zlZ {α:Type} {f:α->List Value} {B:Nat} {e:TypeId} {size:Nat} {w X:World} {a a':Option Addr} {n m c c':Nat} {l:List α} {x:α} {o:Obj} (ho:w.ownsRow B e size (.slice a n c) n (zq f l)) (h1:X.ownsRow B e size (.slice a' m c') m (zq f l++f x))
  (h4:Since (λk=>(Value.slice a n c).ownBlock=some k) (w.alloc o) X) {V:World} (hV:Below V.heap.size V w) (hB:V.heap.size<=B):X.ownsRow B e size (.slice a' m c') m (zq f (l++ [x]))/\Below V.heap.size V X:=by
 refine⟨by rw [zcB];exact h1,hV.trans ((((Since.refl _ w).alloc o).trans h4 (λk hk=> .inl hk)).below hV.size (λk hk=>Nat.le_trans hB (ho.lt k hk).1))⟩
theorem zg8 {B:Nat} {e:TypeId} {size n:Nat} {w X:World} {v v' hv:Value} {xs:List Value} {o:Obj} (h:w.ownsRow B e size hv n xs) (hne:∀k,v.ownBlock=some k->hv.ownBlock≠some k) (h4:Since (λk=>v.ownBlock=some k) (w.alloc o) X)
  (h5:∀k,v'.ownBlock=some k->v.ownBlock=some k\/k=(w.alloc o).heap.size):X.ownsRow B e size hv n xs/\∀k,v'.ownBlock=some k->hv.ownBlock≠some k:=by
 refine⟨h4.row (h.alloc o) (λk h1 h2=>hne k h2 h1),λk h1 h2=> ?_⟩
 rcases h5 k h1 with h3|h3
 ·exact hne k h3 h2
 have:=(h.lt k h2).2;simp at h3;omega
def zma (w:World) (l:List zu) (e:Ending) (w':World):Prop:=(∃va vc,e= .returned (.slice va l.length vc)/\w'.ownsRow w.heap.size 32 3 (.slice va l.length vc) l.length (zq zu.cells l))/\Below w.heap.size w w'
theorem zg9 {w w':World} {l:List zu} {va:Option Addr} {vn vc:Nat} (h:l.length=vn) (ho:w'.ownsRow w.heap.size 32 3 (.slice va vn vc) vn (zq zu.cells l)) (hb:Below w.heap.size w w'):zma w l (.returned (.slice va vn vc)) w':=by
 subst h;exact⟨⟨va,vc,rfl,ho⟩,hb⟩
theorem zrZ (w:World) (c:zF) (cv:Value) (d:Nat) (hc:yE d w cv c.threads) (m:zA) (s:zk) (sv mv:Value) (hs:zY w s sv mv) (hb:∀j,j<s.threads.length->(s.threads.getD j default).buf.length<=100000):
  Calls Tryz.prog 36 #[yC c cv,xu m,yF s sv mv] w (zma w (yY c m s d)):=by
 obtain⟨ca,cc,rfl, -⟩:=zh.slice hc
 obtain⟨ta,j3,rfl, -⟩:=zh.slice hs.threads
 obtain⟨ma,vY,rfl, -⟩:=zh.slice hs.mem
 obtain⟨fo,hfo⟩:∃fo,fo=yA c m s:=⟨_,rfl⟩
 obtain⟨R,hR⟩:∃R,R=yY c m s d:=⟨_,rfl⟩
 rw [<-hR]
 have hfits:=λW hc hs=>zlv W c (.slice ca c.threads.length cc) d hc m s (.slice ta s.threads.length j3) (.slice ma s.mem.length vY) hs (λj hj=>by have:=hb j hj;omega)
 rw [<-hfo] at hfits
 have hstep:=λW hc hs i=>λ(hf:fo=true) hi=>zmb W c (.slice ca c.threads.length cc) d hc m s (.slice ta s.threads.length j3) (.slice ma s.mem.length vY) hs (hfo.symm.trans hf) i hi hb
 have bA:fo=true->s.threads.length<=4:=λe=>by
  obtain⟨h1, -,h2,h3, -⟩:=pJ (hfo.symm.trans e)
  have h4:=xR h1
  rw [h2];exact h4.2.2.2.2.2
 have hmt:=λi (hi:i<s.threads.length)=>zpD c m s d i (hb i hi)
 have hR2:R=if fo then(List.range s.threads.length).flatMap (kP c m s d) else [] :=by rw [hR,hfo];rfl
 have hmT:∀i,kP c m s d i=(if (vH c m s i d).isSome then [⟨1,i,0⟩] else [])++(yD (s.threads.getD i default).buf m.model).map λv=>(⟨2,i,v⟩:zu):=λi=>rfl
 obtain⟨MT,hMT⟩:∃MT,MT=kP c m s d:=⟨_,rfl⟩
 rw [<-hMT] at hR2 hmt hmT
 have hT:=hs.threads
 obtain⟨vars,dom,cs⟩:=c
 obtain⟨mod,bnd⟩:=m
 obtain⟨ts,mem,bad⟩:=s
 obtain⟨SS,hSS⟩:∃SS,SS=λi=>vH ⟨vars,dom,cs⟩ ⟨mod,bnd⟩ ⟨ts,mem,bad⟩ i d:=⟨_,rfl⟩
 have zzY:∀i,vH ⟨vars,dom,cs⟩ ⟨mod,bnd⟩ ⟨ts,mem,bad⟩ i d=SS i:=λi=>by rw [hSS]
 simp only [] at hc hs hb bA hfits hstep hR2 hmt hT hmT ⊢
 simp only [zzY] at hstep hmT
 unfold yC xu yF
 unfold yC xu yF at hfits
 have hstep2:∀W,yE d W (.slice ca cs.length cc) cs->zY W ⟨ts,mem,bad⟩ (.slice ta ts.length j3) (.slice ma mem.length vY)->∀i,fo=true->i<ts.length->Calls Tryz.prog 62 #[.agg #[.int .i64 vars, .int .i64 dom, .slice ca cs.length cc], .agg #[.int .i64 mod, .int .i64 bnd], .agg #[.slice ta ts.length j3, .slice ma mem.length vY, .bool bad], .int .i64 i] W λe w'=>(∃xa xn xc ya yn yc b',e= .returned (.tuple #[.agg #[.slice xa xn xc, .slice ya yn yc, .bool b'], .bool (SS i).isSome]))/\Below W.heap.size W w':=λW h1 h2 i h3 h4=>
  (hstep W h1 h2 i h3 h4).mono λe w' ⟨⟨xa,xn,xc,ya,yn,yc,s',he,_⟩,hb⟩=>⟨⟨xa,xn,xc,ya,yn,yc,s'.bad,he⟩,hb⟩
 clear hstep
 simp only [] at hfits ⊢
 obtain⟨n,hn⟩:∃n,n=ts.length:=⟨_,rfl⟩
 obtain⟨cn,hcn⟩:∃cn,cn=cs.length:=⟨_,rfl⟩
 obtain⟨mn,hmn⟩:∃mn,mn=mem.length:=⟨_,rfl⟩
 rw [<-hn] at hs hT hb hfits hstep2 bA hR2 hmt ⊢
 rw [<-hmn] at hs hfits hstep2 ⊢
 rw [<-hcn] at hc hfits hstep2 ⊢
 obtain⟨hB,h1,h2,h3⟩:=zdV w (.cells #[.int .i64 vars, .int .i64 dom, .slice ca cn cc] 24) (.cells #[.int .i64 mod, .int .i64 bnd] 26) (.cells #[.slice ta n j3, .slice ma mn vY, .bool bad] 30)
 have HB:=qh hB
 have H1:=qh h1
 have H2:=qh h2
 have H3:=qh h3
 have gQ:=qh (zh.below (qx.stays d) hc hB)
 have HSW:=qh (zY.below hs hB)
 have HT:=qh (zh.below uL.stays hT hB)
 have HN:=qh hn
 have HBU:=qh hb
 have zcC:=qh hfits
 have uy:=qh hstep2
 have HN4:=qh bA
 have HMT:=qh hmt
 have z5Z:=qh hmT
 have HRR:=qh hR2
 clear hn hcn hmn hb hfits hstep2 bA hR2 hfo hB h1 h2 h3 hT hc hs hR hMT hSS zzY hmt hmT
 go_enter Tryz.func36,Tryz.ntmps36
 go_upto_region 1 with fail
 generalize World.alloc (World.alloc (World.alloc w _) _) _=W at HB H1 H2 H3 gQ HSW HT ⊢
 obtain⟨gx,hgx⟩:∃gx,gx=w.heap.size:=⟨_,rfl⟩
 rw [<-hgx] at H1 H2 H3 ⊢
 have yX:Hid (w.heap.size<=W.heap.size):=HB.out.size
 clear hgx
 have qC:Hid (∀y,Below W.heap.size W y->y.cell? ⟨gx,0,none⟩=some (.int .i64 vars)/\y.cell? ⟨gx,1,none⟩=some (.int .i64 dom)/\y.cell? ⟨gx,2,none⟩=some (.slice ca cn cc)/\
   y.cell? ⟨gx+1,0,none⟩=some (.int .i64 mod)/\y.cell? ⟨gx+1,1,none⟩=some (.int .i64 bnd)/\y.cell? ⟨gx+2,0,none⟩=some (.slice ta n j3)/\y.cell? ⟨gx+2,1,none⟩=some (.slice ma mn vY)/\y.cell? ⟨gx+2,2,none⟩=some (.bool bad)):=λy hx=>
  ⟨zi hx _ _ (ze H1.out 0),zi hx _ _ (ze H1.out 1),zi hx _ _ (ze H1.out 2),zi hx _ _ (ze H2.out 0),zi hx _ _ (ze H2.out 1),zi hx _ _ (ze H3.out 0),zi hx _ _ (ze H3.out 1),zi hx _ _ (ze H3.out 2)⟩
 have yK:Hid (∀x,Below W.heap.size W x->Below w.heap.size w x):=λx hx=>HB.out.trans (hx.mono HB.out.size)
 obtain⟨c0,c1,c2,c3,c4,c5,c6,c7⟩:=qC.out W (Below.refl _ _)
 go_wp2_with fail
 refine(zcC.out W gQ.out HSW.out).mono ?_
 rintro e W1 ⟨rfl,hb1⟩
 have HB1:=qh hb1
 clear hb1 zcC c0 c1 c2 c3 c4 c5 c6 c7
 cases fo with
 |false=>
  have hr:R.length=0:=by rw [HRR.out];rfl
  have hr2:zq zu.cells R= [] :=by rw [HRR.out];rfl
  have HR:=qh hr
  have HR2:=qh hr2
  clear hr hr2
  go_wp2_with fail
  go_ret
  exact zg9 HR.out (by rw [HR2.out];exact World.ownsRow_nil _ _ _ _) (yK.out _ HB1.out)
 |true=>
 have bA:n<=4:=HN4.out (by trivial)
 have HR:Hid (R=(List.range n).flatMap MT):=by rw [Hid,HRR.out];rfl
 clear HRR HN4
 go_wp2_with fail
 go_loopg [7,8] n (λgg s7 s8 wr=>∃(i:Nat) (oa:Option Addr) (on oc:Nat) (ml:List zu),i<=n/\Hid (gg=n - i)/\s7= .slice oa on oc/\s8= .int .i64 i/\on<=100001*i/\Hid (wr.ownsRow W.heap.size 32 3 (.slice oa on oc) on (zq zu.cells ml))/\Hid (ml.length=on)/\Hid (ml=(List.range i).flatMap MT)/\Hid (Below W.heap.size W wr))
 case atStart=>exact⟨0,none,0,0, [],Nat.zero_le _,rfl,rfl,rfl,by omega,World.ownsRow_nil _ _ _ _,rfl,rfl,HB1.out⟩
 case round=>
 obtain⟨i,oa,on,oc,ml,hi,HG,rfl,rfl,hon,HRO,kL,HML,zN⟩:=hrel
 obtain⟨wo,rfl⟩:∃wo:World,wo=wr:=⟨_,rfl⟩
 obtain⟨c0,c1,c2,c3,c4,c5,c6,c7⟩:=qC.out wo zN.out
 by_cases hlt:i<n
 rotate_left
 ·obtain rfl:n=i:=by omega
  have HR2:Hid (R=ml):=by rw [Hid,HR.out,HML.out]
  go_wp2_with fail
  go_ret
  exact zg9 (by rw [HR2.out];exact kL.out) (by rw [HR2.out];exact xA HRO.out yX.out) (yK.out _ zN.out)
 have qG:(i:Int)<(n:Int):=by omega
 obtain⟨tb,yJ,ba,bc,hta, -, -, -, -, -, -, -,x5,hbuf⟩:=qW.part HT.out i (by rw [<-HN.out];exact hlt)
 subst hta
 have hbl:=HBU.out i hlt
 have hmt:=z5Z.out i
 have hml:=HMT.out i hlt
 generalize ts.getD i default=t at x5 hbuf hbl hmt
 have z6a:=qh hml
 obtain⟨hh,hhh⟩:∃hh,hh=yD t.buf mod:=⟨_,rfl⟩
 rw [<-hhh] at hmt
 have zzZ:=qh hmt
 have hhl:hh.length<=100000:=by have:=zbV t.buf mod;rw [hhh];omega
 obtain⟨bl,kg⟩:∃bl,bl=t.buf.length:=⟨_,rfl⟩
 rw [<-kg] at x5 hbuf
 have zae:Hid (∀y,Below W.heap.size W y->Calls Tryz.prog 63 #[.slice ba bl bc, .int .i64 mod] y λe w'=>(∃va vc,e= .returned (.slice va hh.length vc)/\w'.ownsRow y.heap.size 3 1 (.slice va hh.length vc) hh.length (zq yP hh))/\Below y.heap.size y w'):=λy hy=>
  (zjZ y (.slice ba bl bc) t.buf (zV.below hbuf hy) (by omega) mod).mono λe w' ⟨⟨sv,sn,he,hsn,hi⟩,hb⟩=>by
   rw [<-hhh] at hi hsn
   subst hsn
   obtain⟨a,cp,rfl, -⟩:=xJ hi
   exact⟨⟨a,cp,he,hi⟩,hb⟩
 have HX5:Hid (∀y,Below W.heap.size W y->y.cell? ⟨tb,yJ+i*6+5,none⟩=some (.slice ba bl bc)):=λy hy=>zi hy _ _ x5
 obtain⟨hn,hhn⟩:∃hn,hn=hh.length:=⟨_,rfl⟩
 rw [<-hhn] at zae hhl
 have HHN:=qh hhn
 clear hhn hhh kg x5 hbuf hbl hmt hml
 go_upto_if 33 with(go_at_call 62;go_must(refine(uy.out wo (zh.below (qx.stays d) gQ.out zN.out) (HSW.out.below zN.out) i (by trivial) hlt).mono ?_);rintro e W2 ⟨⟨xa,xn,xc,ya,yn,yc,b',rfl⟩,hb2⟩;have HB2:=qh hb2;clear hb2)
 have hbx:=(Below.refl wo.heap.size wo).trans ((HB2.out).alloc HB2.out.size (.cells #[.slice xa xn xc, .slice ya yn yc, .bool b'] 30))
 have xw:=qh hbx
 clear hbx c0 c1 c2 c3 c4 c5 c6 c7
 generalize World.alloc W2 _=W3 at xw ⊢
 have zuG:=qh (qp HRO.out xw.out)
 have HB3:=qh (zB zN.out xw.out)
 clear HB2 xw HRO zN
 generalize hSS:(SS i).isSome=is at zzZ ⊢
 clear hSS
 go_cut [7] (λs7 w'=>∃(pa:Option Addr) (pn pc:Nat) (pl:List zu),s7= .slice pa pn pc/\pn<=on+1/\Hid (w'.ownsRow W.heap.size 32 3 (.slice pa pn pc) pn (zq zu.cells pl))/\Hid (pl.length=pn)/\Hid (pl=ml++(if is then [⟨1,i,0⟩] else []))/\Hid (Below W.heap.size W w'))
 case first=>
  cases is with
  |true=>
   go_wp2_with(at_builtin;go_must(refine zO _ rfl _ _ 52 rfl 32 (.agg #[.int .i64 0, .int .i64 0, .int .i64 0]) 3 24 Tryz.underlying52 bQ rfl (by decide) W.heap.size (.slice oa on oc) on (zq zu.cells ml) rfl ((zuG.out).alloc _) ⟨W3.heap.size,0,none⟩ 1 1 (zu.cells ⟨1,i,0⟩) rfl rfl (jv _ (zu.cells ⟨1,i,0⟩) _) (by simp [zu.cells,Value.oneCell']) (by unfold maxLen;omega) (by omega) (by have:=HB3.out.size;simp;omega) ?_);intro ja jc X f1 f2 f3 f4 f5 f6;have HE:=qh (zlZ (zuG.out) f1 f4 (HB3.out) (Nat.le_refl _));clear f1 f2 f3 f4 f5 f6)
   go_meet
   case rel=>exact⟨ja,on+1,jc,ml++ [(⟨1,(i:Int),0⟩:zu)],rfl,by omega,HE.out.1,by rw [Hid,List.length_append,kL.out];rfl,by simp [Hid],HE.out.2⟩
  |false=>
  go_wp2_with fail
  go_meet
  case rel=>exact⟨oa,on,oc,ml,rfl,by omega,zuG.out,kL.out,by simp [Hid],HB3.out⟩
 case rest=>
 obtain⟨pa,pn,pc,pl,rfl,hpn,HPR,HPN,kS,j5⟩:=hcut
 obtain⟨W4,rfl⟩:∃W4:World,W4=wc:=⟨_,rfl⟩
 go_upto_region 10 with fail
 have HCX:Hid (∀y,Below W4.heap.size W4 y->y.cell? ⟨gx+2,0,none⟩=some (.slice (some ⟨tb,yJ,none⟩) n j3)/\y.cell? ⟨gx+1,0,none⟩=some (.int .i64 mod)/\y.cell? ⟨tb,yJ+i*6+5,none⟩=some (.slice ba bl bc)):=λy hy=>by
  have hw:=zB j5.out hy
  obtain⟨-, -, -,c3, -,c5, -, -⟩:=qC.out y hw
  exact⟨c5,c3,HX5.out y hw⟩
 have zoh:Hid (∀y,Below W4.heap.size W4 y->Calls Tryz.prog 63 #[.slice ba bl bc, .int .i64 mod] y λe w'=>(∃va vc,e= .returned (.slice va hn vc)/\w'.ownsRow y.heap.size 3 1 (.slice va hn vc) hn (zq yP hh))/\Below y.heap.size y w'):=λy hy=>zae.out y (zB j5.out hy)
 refine qM (S:=λx=>Below W4.heap.size W4 x) (Below.refl _ _).drew (λhH=> ?_)
 refine zl 0 HCX.out ?_
 refine zl 1 HCX.out ?_
 refine zl 2 HCX.out ?_
 refine zl 3 HCX.out ?_
 refine zl 4 HCX.out ?_
 refine zl 5 HCX.out ?_
 refine zl 6 HCX.out ?_
 refine zl 7 HCX.out ?_
 refine yx 8 rfl (λK hK=> ?_)
 go_simp
 refine(zoh.out W4.drew hH).mono ?_
 rintro e hw8 ⟨⟨va,vc,rfl,hhr⟩,hb⟩
 have HHI:=qh hhr
 have HHG:Hid (W4.heap.size<=W4.drew.heap.size):=(hH).size
 clear hhr
 have zuH:Below W4.heap.size W4 hw8:=zB hH hb
 refine hK.out _ _ zuH (λ_=> ?_)
 clear hK K hb hH
 refine zl 9 HCX.out ?_
 refine xE ?_
 have zW:=qh zuH
 clear zuH
 go_wp2_with fail
 obtain⟨W5,hW5⟩:∃W5,W5=hw8:=⟨_,rfl⟩
 rw [<-hW5] at zW HHI ⊢
 clear hW5
 have z6b:=qh (qp HPR.out zW.out)
 have HB5:=qh (zB j5.out zW.out)
 have z6c:Hid (∀x,(Value.slice pa pn pc).ownBlock=some x->(Value.slice va hn vc).ownBlock≠some x):=λx h1 h2=>by have:=(HPR.out.lt x h1).2;have:=(HHI.out.lt x h2).1;have:=HHG.out;omega
 clear zae zoh HCX zW j5 HPR HHG
 go_loopg [7,12] hn (λgg s7 s12 wr=>∃(k:Nat) (qa:Option Addr) (qn qc:Nat) (ql:List zu),k<=hn/\Hid (gg=hn - k)/\s7= .slice qa qn qc/\s12= .int .i64 k/\qn<=on+1+k/\Hid (wr.ownsRow W.heap.size 32 3 (.slice qa qn qc) qn (zq zu.cells ql))/\Hid (ql.length=qn)/\Hid (ql=pl++(hh.take k).map (λv=>⟨2,i,v⟩))/\Hid (∃B,wr.ownsRow B 3 1 (.slice va hn vc) hn (zq yP hh))/\Hid (∀x,(Value.slice qa qn qc).ownBlock=some x->(Value.slice va hn vc).ownBlock≠some x)/\Hid (Below W.heap.size W wr))
 case atStart=>exact⟨0,pa,pn,pc,pl,Nat.zero_le _,rfl,rfl,rfl,by omega,z6b.out,HPN.out,by simp [Hid],⟨_,HHI.out⟩,z6c.out,HB5.out⟩
 case round=>
 obtain⟨k,qa,qn,qc,ql,hk,HG2,rfl,rfl,hqn,HQR,HQN,HQL,HHR,wO,yj⟩:=hrel
 by_cases hkl:k<hn
 rotate_left
 ·obtain rfl:hn=k:=by omega
  have hst:ql=(List.range (i+1)).flatMap MT:=by
   rw [zaP,zzZ.out, <-HML.out,HQL.out,kS.out,HHN.out,List.take_length,List.append_assoc]
  have z6d:qn<=100001*(i+1):=by
   have h1:=z6a.out
   have h2:=congrArg List.length hst
   rw [zaP,List.length_append, <-HML.out,kL.out,HQN.out] at h2
   omega
  have HST:=qh hst
  clear hst
  go_wp2_with fail
  go_roundg (n - (i+1))
  case measure=>rw [HG.out];omega
  case rel=>exact⟨i+1,qa,qn,qc,ql,by omega,rfl,rfl,by simp,z6d,HQR.out,HQN.out,HST.out,yj.out⟩
 have zpc:(k:Int)<(hn:Int):=by omega
 obtain⟨BH,hhr⟩:=HHR.out
 have hrw:=hhr
 rw [HHN.out] at hrw
 obtain⟨b9,o9,zZ, -,e1⟩:=xC.part (uJ hrw) k (by rw [<-HHN.out];exact hkl)
 subst zZ
 have HRB:=qh hhr
 clear hhr hrw
 have j4:Hid (hh.take (k+1)=hh.take k++ [hh.getD k 0]):=by rw [Hid,List.take_succ_eq_append_getElem (by rw [<-HHN.out];exact hkl),List.getD_eq_getElem?_getD,List.getElem?_eq_getElem (by rw [<-HHN.out];exact hkl)];rfl
 generalize hh.getD k 0=v at e1 j4
 go_wp2_with(at_builtin;go_must(refine zO _ rfl _ _ 52 rfl 32 (.agg #[.int .i64 0, .int .i64 0, .int .i64 0]) 3 24 Tryz.underlying52 bQ rfl (by decide) W.heap.size (.slice qa qn qc) qn (zq zu.cells ql) rfl ((HQR.out).alloc _) ⟨wr.heap.size,0,none⟩ 1 1 (zu.cells ⟨2,i,v⟩) rfl rfl (jv _ (zu.cells ⟨2,i,v⟩) _) (by simp [zu.cells,Value.oneCell']) (by unfold maxLen;omega) (by omega) (by have:=yj.out.size;simp;omega) ?_);intro ja jc X f1 f2 f3 f4 f5 f6;have HE:=qh (zlZ (HQR.out) f1 f4 (yj.out) (Nat.le_refl _));have HE2:=qh (zg8 HRB.out wO.out f4 f5);clear f1 f2 f3 f4 f5 f6)
 go_roundg (hn - (k+1))
 case measure=>rw [HG2.out];omega
 case rel=>exact⟨k+1,ja,qn+1,jc,ql++ [(⟨2,(i:Int),v⟩:zu)],by omega,rfl,rfl,by simp,by omega,HE.out.1,by rw [Hid,List.length_append,HQN.out];rfl,by rw [Hid,HQL.out,j4.out];simp,⟨_,HE2.out.1⟩,HE2.out.2,HE.out.2⟩
theorem zi0:Tryz.prog.underlying 32=some (.struct (Tryz.prog.fieldsOf 32)):=by kernel_rfl
theorem zpE:Tryz.prog.stoodInHeld 32=false:=by kernel_rfl
@[go_sem] theorem z2O:Tryz.prog.eqGuardType Tryz.prog.depth 32=false:=by kernel_rfl
theorem zno:(Tryz.prog.fieldsOf 32).toList.map (λf=>(f.name,f.type,f.offset))= [("Kind",3,0),("Thread",3,1),("Var",3,2)] :=by kernel_rfl
@[go_sem] theorem z2B (w:World) (a b c x y z:Int):(Op.equalIn 10000 32 (.agg #[.int .i64 a, .int .i64 b, .int .i64 c]) (.agg #[.int .i64 x, .int .i64 y, .int .i64 z])).run Tryz.prog w
  = .ok (a==x && b==y && c==z) w:=by
 rw [run_equalIn_agg w 9999 _ _ _ zi0 zpE]
 obtain⟨f0,f1,f2,hf,h0,h1,h2⟩:∃f0 f1 f2,(Tryz.prog.fieldsOf 32).toList= [f0,f1,f2] /\(f0.name,f0.type,f0.offset)=("Kind",3,0)/\(f1.name,f1.type,f1.offset)=("Thread",3,1)/\(f2.name,f2.type,f2.offset)=("Var",3,2):=by
  have h:=zno
  generalize (Tryz.prog.fieldsOf 32).toList=l at h
  have hl:l.length=3:=by have:=congrArg List.length h;simpa using this
  match l,hl,h with
  | [f0,f1,f2],_,h=>
  simp only [List.map_cons,List.map_nil,List.cons.injEq,and_true] at h
  exact⟨f0,f1,f2,rfl,h.1,h.2.1,h.2.2⟩
 simp only [Prod.mk.injEq] at h0 h1 h2
 rw [hf]
 have p0:=λ(w:World) (a b c:Int)=>jU w #[.int .i64 a, .int .i64 b, .int .i64 c] 0 a rfl
 have p1:=λ(w:World) (a b c:Int)=>jU w #[.int .i64 a, .int .i64 b, .int .i64 c] 1 b rfl
 have p2:=λ(w:World) (a b c:Int)=>jU w #[.int .i64 a, .int .i64 b, .int .i64 c] 2 c rfl
 have ge:=zgB 9998
 cases e0:a==x<;>cases e1:b==y<;>cases e2:c==z<;>simp [Op.eqFields,h0,h1,h2,p0,p1,p2,ge,e0,e1,e2]
end Go.Proofs.YtliajkheeniljaaGreatDoor
namespace Go.Proofs.YtliajkheeniljaaGreatDoor
open Go.RowKit
set_option maxRecDepth 100000
set_option maxHeartbeats 16000000
theorem qB {w:World} {B C:Nat} {e e':TypeId} {size size':Nat} {v v':Value} {n n':Nat} {xs xs':List Value} (h:w.ownsRow B e size v n xs) (h':w.ownsRow C e' size' v' n' xs') (hne:e≠e'):∀k,v.ownBlock=some k->v'.ownBlock≠some k:=by
 intro k h1 h2
 rcases h'.2 with⟨rfl, -⟩|⟨g,cap,cur,rfl, -,hg, -⟩
 ·simp [Value.ownBlock] at h2
 simp only [Value.ownBlock,Option.some.injEq] at h2
 subst h2
 exact ug h h1 hg hne
structure xq {α:Type} [Inhabited α] (F:Nat->Prop) (X:World) (R:World->α->List Value->Prop) (size B:Nat) (e:TypeId) (v:Value) (l:List α) (css:List (List Value)):Prop where
 len:css.length=l.length
 part:∀j,j<l.length->(css.getD j []).length=size/\yw F X (λy=>R y (l.getD j default) (css.getD j []))
 row:X.ownsRow B e size v l.length css.flatten
section
variable {α:Type} [Inhabited α] {F F' G:Nat->Prop} {X X':World} {R:World->α->List Value->Prop} {size B:Nat} {e:TypeId} {v v':Value} {l:List α} {css:List (List Value)}
theorem xq.nil (F:Nat->Prop) (X:World) (R:World->α->List Value->Prop) (size B:Nat) (e:TypeId):xq F X R size B e (.slice none 0 0) [] [] :=⟨rfl,λj hj=>by simp at hj,World.ownsRow_nil _ _ _ _⟩
theorem xq.step (h:xq F X R size B e v l css) (hs:Since G X X') (hv:∀k,v.ownBlock=some k->¬G k) (hG:∀k,G k->F k\/X.heap.size<=k) (hF:∀k,F' k->F k\/X.heap.size<=k):xq F' X' R size B e v l css:=
 ⟨h.len,λj hj=>⟨(h.part j hj).1,(h.part j hj).2.step hs hG hF⟩,hs.row h.row hv⟩
theorem bM {β:Type} {l:List β} {x d:β} {j:Nat} (hj:j<l.length):(l++ [x]).getD j d=l.getD j d:=by
 simp only [List.getD_eq_getElem?_getD,List.getElem?_append_left hj]
theorem bL {β:Type} {l:List β} {x d:β} :(l++ [x]).getD l.length d=x:=by
 simp [List.getD_eq_getElem?_getD]
theorem xq.push (h:xq F X R size B e v l css) (hs:Since G X X') (hG:∀k,G k->F k\/X.heap.size<=k) (hF:∀k,F' k->F k\/X.heap.size<=k) {x:α} {cs:List Value} (hx:yw F X (λy=>R y x cs)) (hc:cs.length=size)
  (h1:X'.ownsRow B e size v' (l.length+1) (css.flatten++cs)):xq F' X' R size B e v' (l++ [x]) (css++ [cs]):=by
 refine⟨by simp [h.len],λj hj=> ?_, ?_⟩
 ·rw [List.length_append] at hj
  simp only [List.length_cons,List.length_nil] at hj
  by_cases e:j=l.length
  ·subst e
   rw [bL,show l.length=css.length from h.len.symm,bL]
   exact⟨hc,hx.step hs hG hF⟩
  have hj':j<l.length:=by omega
  rw [bM hj',bM (by rw [h.len];exact hj')]
  exact⟨(h.part j hj').1,(h.part j hj').2.step hs hG hF⟩
 rw [List.length_append,List.flatten_append]
 simpa using h1
theorem zbS {css:List (List Value)} {size:Nat} :∀ {j i:Nat},(∀j,j<css.length->(css.getD j []).length=size)->j<css.length->i<size->css.flatten[j*size+i]? =(css.getD j [])[i]? :=by
 induction css with
 |nil=>intro j i _ hj;simp at hj
 |cons c css ih=>
 intro j i h hj hi
 have h0:=h 0 (by simp)
 simp only [List.getD_cons_zero] at h0
 cases j with
 |zero=>rw [List.flatten_cons,Nat.zero_mul,Nat.zero_add,List.getElem?_append_left (by rw [h0];exact hi)];rfl
 |succ j=>
 rw [List.flatten_cons,List.getElem?_append_right (by rw [h0,Nat.add_mul];omega),h0,show(j+1)*size+i - size=j*size+i by rw [Nat.add_mul];omega]
 exact ih (λj hj=>by have:=h (j+1) (by simpa using hj);simpa using this) (by simpa using hj) hi
theorem xq.slice (h:xq F X R size B e v l css):zh R size X v l:=
 zh.zco h.row λj hj=>⟨css.getD j [],(h.part j hj).1,λi hi=>zbS (λj hj=>(h.part j (by rw [<-h.len];exact hj)).1) (by rw [h.len];exact hj) hi,(h.part j hj).2.now⟩
end
def wG (w:World) (l:List zu) (cs:List Value):Prop:=∃v,cs= [v] /\qV w v l
theorem wG.stays:jQ wG:=λ_ _ _ _ ⟨v,h,h2⟩ hb=>⟨v,h,zh.below zaD.stays h2 hb⟩
def uQ (w:World) (l:List Int) (cs:List Value):Prop:=∃v,cs= [v] /\xC w v l
theorem uQ.stays:jQ uQ:=λ_ _ _ _ ⟨v,h,h2⟩ hb=>⟨v,h,zh.below gF.stays h2 hb⟩
theorem zat {w:World} {B:Nat} {sv:Value} {l:List zu} (h:w.ownsRow B 32 3 sv l.length (zq zu.cells l)):qV w sv l:=zh.of_flat (R:=zaD) (f:=zu.cells) bP (λ_ _=>rfl) h
structure yM where
 states:List zk
 moves:List (List zu)
 next:List (List Int)
instance:Inhabited yM:=⟨⟨[], [], []⟩⟩
def xU (c:zF) (m:zA) (d:Nat) (room:Int) (s:zk):List zu->List zk->List Int->Option (List zk × List Int)
 | [],l,nx=>some (l,nx)
 |x::ms,l,nx=>if room<=((putAt l (qz c m s x d).1).2:Int) then none else xU c m d room s ms (putAt l (qz c m s x d).1).1 (nx++ [((putAt l (qz c m s x d).1).2:Int)])
def xX (c:zF) (m:zA) (d:Nat) (room:Int):Nat->Nat->List zk->List (List zu)->List (List Int)->Option yM
 |0,_,_,_,_=>none
 |f+1,i,l,ml,nl=>
 if i<l.length then
  match xU c m d room (l.getD i default) (yY c m (l.getD i default) d) l [] with
  |none=>none
  |some r=>xX c m d room f (i+1) r.1 (ml++ [yY c m (l.getD i default) d]) (nl++ [r.2])
 else some ⟨l,ml,nl⟩
def yQ (c:zF) (m:zA) (room:Int) (d:Nat):yM × Int:=
 if qm c m=false\/room<1\/100000<room then(⟨[], [], []⟩,1)
 else match xX c m d room (room.toNat+1) 0 [xM c] [] [] with
  |some s=>(s,0)
  |none=>(⟨[], [], []⟩,40)
def XF (g r:Nat) (sv mv nv xv:Value) (k:Nat):Prop:=(k=g\/k<=r)\/sv.ownBlock=some k\/mv.ownBlock=some k\/nv.ownBlock=some k\/xv.ownBlock=some k
structure XAt (W X:World) (g r:Nat) (sv mv nv xv:Value) (sl:List zk) (ml:List (List zu)) (nl:List (List Int)) (xl:List Int) (sc mc nc:List (List Value)):Prop where
 below:Below W.heap.size W X
 lo:W.heap.size<=g
 rlo:r<W.heap.size
 box:X.heap[g]? =some (.cells #[sv,mv,nv] 71 (0,0))
 st:xq (XF g r sv mv nv xv) X qN 3 W.heap.size 30 sv sl sc
 mo:xq (XF g r sv mv nv xv) X wG 1 W.heap.size 52 mv ml mc
 ne:xq (XF g r sv mv nv xv) X uQ 1 W.heap.size 28 nv nl nc
 xr:X.ownsRow W.heap.size 3 1 xv xl.length (zq yP xl)
section
variable {W X X1:World} {g r:Nat} {sv mv nv xv sv':Value} {sl:List zk} {ml:List (List zu)} {nl:List (List Int)} {xl:List Int} {sc mc nc:List (List Value)}
theorem qE {B e size n g:Nat} {v:Value} {xs:List Value} {c:Array Value} {t:TypeId} {f:Nat × Nat} (h:X.ownsRow B e size v n xs) (hb:X.heap[g]? =some (.cells c t f)) (hne:e≠t):∀k,v.ownBlock=some k->k≠g:=λk h1 e=>by
 subst e;exact ug h h1 hb hne
end
end Go.Proofs.YtliajkheeniljaaGreatDoor
namespace Go.Proofs.YtliajkheeniljaaGreatDoor
open Go.RowKit
set_option maxRecDepth 100000
set_option maxHeartbeats 16000000
def gB (b:Nat) (s:zk):Prop:=∀j,j<s.threads.length->(s.threads.getD j default).buf.length<=b
theorem zjg {α:Type} {p:α->Bool} {l:List α} {b:Nat} [Inhabited α] (h:∀k,k<l.length->p (l.getD k default)=true->(l.take k).countP p<b):l.countP p<=b:=by
 have key:∀k,k<=l.length->(l.take k).countP p<=b:=by
  intro k
  induction k with
  |zero=>intro _;simp
  |succ k ih=>
  intro hk
  rw [List.take_succ_eq_append_getElem (by omega),List.countP_append]
  have h1:=ih (by omega)
  have h2:=h k (by omega)
  rw [List.getD_eq_getElem?_getD,List.getElem?_eq_getElem (by omega)] at h2
  simp only [Option.getD_some] at h2
  by_cases e:p l[k] =true
  ·have:=h2 e
   simp only [List.countP_cons,List.countP_nil,e,if_true];omega
  simp only [List.countP_cons,List.countP_nil,e];simp;omega
 have:=key l.length (Nat.le_refl _)
 rwa [List.take_length] at this
theorem znp {l:List zo} (h:∀x∈l,0<=x.var/\x.var<4):l.length=l.countP (λx=>decide (x.var=0))+l.countP (λx=>decide (x.var=1))+l.countP (λx=>decide (x.var=2))+l.countP (λx=>decide (x.var=3)):=by
 induction l with
 |nil=>rfl
 |cons x l ih=>
 have h1:=ih (λy hy=>h y (List.mem_cons_of_mem _ hy))
 have h2:=h x (List.mem_cons_self ..)
 simp only [List.length_cons,List.countP_cons,h1]
 have:x.var=0\/x.var=1\/x.var=2\/x.var=3:=by omega
 rcases this with e|e|e|e<;>simp [e] <;>omega
theorem zuI {c:zF} {m:zA} {l:List zo} (hv:c.vars<=4) (hm:m.bound<=8) (h:∀k,k<l.length->qj c m l k=true):l.length<=32:=by
 have hf:∀k,k<l.length->qo (l.take k) m (l.getD k default)=true/\0<=(l.getD k default).var/\(l.getD k default).var<4:=λk hk=>by
  have:=h k hk
  unfold qj at this
  simp only [Bool.and_eq_true,decide_eq_true_eq] at this
  exact⟨this.1.1.1.1,this.1.1.1.2,by have:=this.1.1.2;omega⟩
 have hx:∀x∈l,0<=x.var/\x.var<4:=λx hx=>by
  obtain⟨k,hk,e⟩:=List.getElem_of_mem hx
  have:=hf k hk
  rw [List.getD_eq_getElem?_getD,List.getElem?_eq_getElem hk] at this
  rw [<-e];exact this.2
 have key:∀v:Int,l.countP (λx=>decide (x.var=v))<=8:=λv=>zjg λk hk hp=>by
  have h1:=(hf k hk).1
  have hp:(l.getD k default).var=v:=by simpa using hp
  unfold qo at h1
  simp only [Bool.and_eq_true,Bool.or_eq_true,decide_eq_true_eq] at h1
  obtain⟨-,h2⟩:=h1
  have h3:(l.take k).countP (λx=>decide (x.var=v))<=zcv (l.take k) m (l.getD k default).var:=by
   unfold zcv
   refine List.countP_mono_left (λx _ hx=> ?_)
   rw [hp]
   simp only [Bool.or_eq_true];exact .inr hx
  omega
 rw [znp hx]
 have:=key 0;have:=key 1;have:=key 2;have:=key 3
 omega
theorem zcJ {c:zF} {m:zA} {s:zk} (h:yA c m s=true):gB 32 s:=by
 intro j hj
 have h0:=h
 unfold yA at h
 simp only [Bool.and_eq_true,decide_eq_true_eq] at h
 obtain⟨⟨⟨⟨h1, -⟩, -⟩, -⟩,h5⟩:=h
 unfold qm at h1
 simp only [Bool.and_eq_true,decide_eq_true_eq] at h1
 have hb:=xR h1.1.1.1.1
 rw [List.all_eq_true] at h5
 have h6:=h5 j (List.mem_range.2 hj)
 unfold qP at h6
 simp only [Bool.and_eq_true,decide_eq_true_eq] at h6
 have h7:=h6.2
 rw [List.all_eq_true] at h7
 exact zuI hb.2.1 h1.2 (λk hk=>h7 k (List.mem_range.2 hk))
theorem zsc {c:zF} {m:zA} {s:zk} {t:zy} {x:zS} {d:Nat} {r:zy × List Int × Bool} (h:stepT c m s t x d=some r):r.1.buf.length<=t.buf.length+1:=by
 have hp:∀b m e,(jl b m e).length<=b.length+1:=λb m e=>by unfold jl;split<;>simp
 by_cases h1:x.op=1
 ·rw [uo h1] at h;cases h;simp only [];omega
 by_cases h2:x.op=2
 ·by_cases hm:m.model=0
  ·rw [jC h2 hm] at h;cases h;simp only [];omega
  by_cases hq:qo t.buf m ⟨x.var,yh t.regs c.domain d x.a⟩=true
  ·rw [gJ h2 hm hq] at h;cases h;exact hp _ _ _
  rw [bK h2 hm (by simpa using hq)] at h;cases h
 by_cases h3:x.op=3
 ·rw [za8 h3] at h;cases h;simp only [];omega
 by_cases h4:x.op=4
 ·rw [wV h4] at h;split at h
  ·cases h;simp only [];omega
  cases h
 by_cases h5:x.op=5
 ·rw [wL h5] at h;split at h
  ·cases h;simp only [];omega
  cases h
 by_cases h6:x.op=6
 ·by_cases hv:s.mem.getD x.var.toNat 0=yh t.regs c.domain d x.a
  ·rw [uq h6 hv] at h;split at h
   ·cases h;simp only [];omega
   cases h
  rw [uw h6 hv] at h;split at h
  ·cases h;simp only [];omega
  cases h
 by_cases h7:x.op=7
 ·rw [wM h7] at h;split at h
  ·cases h;simp only [];omega
  cases h
 by_cases h8:x.op=8
 ·rw [wh h8] at h;split at h
  ·cases h;simp only [];omega
  cases h
 by_cases h9:x.op=9
 ·rw [jR h9] at h;cases h;simp only [];omega
 by_cases h12:x.op=12
 ·rw [wu h12] at h;cases h;simp only [];split<;>simp only [] <;>omega
 by_cases h13:x.op=13
 ·rw [pG h13] at h;cases h;simp only [];omega
 rw [zam h1 h2 h3 h4 h5 h6 h7 h8 h9 h12 h13] at h;cases h;simp only [];omega
theorem zme {b:Nat} {ts:List zy} {mem:List Int} {bad:Bool} {i:Nat} {t:zy} (h:∀j,j<ts.length->(ts.getD j default).buf.length<=b) (ht:t.buf.length<=b):gB b ⟨ts.set i t,mem,bad⟩:=by
 intro j hj
 simp only [List.length_set] at hj ⊢
 rw [qX hj]
 split
 ·exact ht
 exact h j hj
theorem zsd (l:List zo) (v:Int):(takeB l v).2.length<=l.length:=zi1 l v l.length
theorem ziT {c:zF} {m:zA} {s:zk} {x:zu} {d:Nat} :gB 33 (qz c m s x d).1:=by
 have hE:gB 33 yZ:=λj hj=>by simp [yZ] at hj
 unfold qz
 by_cases hf:yA c m s=true
 rotate_left
 ·rw [if_neg hf];exact hE
 have hb:=zcJ hf
 rw [if_pos hf]
 split
 ·rename_i ht
  split
  ·cases hst:vH c m s x.thread.toNat d with
   |none=>exact hE
   |some t=>
   unfold vH at hst
   split at hst
   ·rw [Option.map_eq_some_iff] at hst
    obtain⟨r,h1,rfl⟩:=hst
    refine zme (λj hj=>by have:=hb j hj;omega) ?_
    have:=zsc h1
    have:=hb x.thread.toNat (by omega)
    omega
   cases hst
  split
  ·refine zme (λj hj=>by have:=hb j hj;omega) ?_
   simp only []
   have:=zsd (s.threads.getD x.thread.toNat default).buf x.var
   have:=hb x.thread.toNat (by omega)
   omega
  exact hE
 exact hE
theorem zdU (c:zF):gB 33 (xM c):=by
 unfold xM
 split
 ·intro j hj
  simp only [List.length_replicate] at hj ⊢
  rw [List.getD_eq_getElem?_getD,List.getElem?_replicate,if_pos hj];simp [show(default:zy).buf= [] from rfl]
 intro j hj;simp at hj
theorem zpb {c:zF} {m:zA} {s:zk} {d:Nat} :(yY c m s d).length<=132:=by
 unfold yY
 split
 ·rename_i hf
  have hb:=zcJ hf
  obtain⟨h1, -,h2, -, -⟩:=pJ hf
  have h4:=(xR h1).2.2.2.2.2
  have key:∀k,k<=s.threads.length->((List.range k).flatMap (kP c m s d)).length<=33*k:=by
   intro k
   induction k with
   |zero=>intro _;simp
   |succ k ih=>
   intro hk
   rw [zaP,List.length_append]
   have:=ih (by omega)
   have h5:(kP c m s d k).length<=33:=by
    unfold kP
    have h6:=zbV (s.threads.getD k default).buf m.model
    have h7:=hb k (by omega)
    rw [List.length_append,List.length_map]
    split<;>simp only [List.length_cons,List.length_nil] <;>omega
   omega
  have:=key _ (Nat.le_refl _)
  omega
 simp
theorem vU {P:Program} (w:World) {ops:Array Oper} {rest:List Oper} {o:Oper} {a:Act} {Q:Exit->Act->World->Prop} (hgd:o.guard=none) (s x:Operand) (t:TypeId)
  (ho:o.op= .call { callee:= .builtin .append,args:= #[s,x],argTypes:= #[t,t] })
  (e:TypeId) (z:Value) (size bytes:Nat) (ht:P.underlying t=some (.slice e)) (hinfo:(P.info? e).map (λi=>(i.zero,i.size,i.bytes))=some (some z,size,bytes)) (hzs:z.cells.size=size) (hsz:0<size)
  (base:Nat) (v:Value) (n:Nat) (xs:List Value) (hs:a.eval s=v) (hown:w.ownsRow base e size v n xs)
  (ad:Option Addr) (m c:Nat) (news:List Value) (hx:a.eval x= .slice ad m c) (hl:news.length=m*size) (hnews:∀A,ad=some A->∀j u,news[j]? =some u->w.cell? (A.add j)=some u) (hnone:ad=none->m=0) (h1:∀u∈news,u.oneCell'=true)
  (h63:n+m<=maxLen) (hbytes:(n+m)*bytes<=140737488355328) (hbase:base<=w.heap.size)
  (h:∀a' cap' w',w'.ownsRow base e size (.slice a' (n+m) cap') (n+m) (xs++news)->cap'<=9223372036854775807->n+m<=cap'->Since (λk=>v.ownBlock=some k) w w'->
   (∀k,(Value.slice a' (n+m) cap').ownBlock=some k->v.ownBlock=some k\/k=w.heap.size)->
   wpList P ops Q rest (a.put o.dst (.slice a' (n+m) cap')) w'):wpList P ops Q (o::rest) a w:=by
 cases ad with
 |some A=>exact zO w hgd s x t ho e z size bytes ht hinfo hzs hsz base v n xs hs hown A m c news hx hl (hnews A rfl) h1 h63 hbytes hbase (λa' cap' w' p1 p2 p3 p4 p5 _=>h a' cap' w' p1 p2 p3 p4 p5)
 |none=>
 have hm:=hnone rfl
 subst hm
 have hn:news= [] :=List.eq_nil_of_length_eq_zero (by simpa using hl)
 subst hn
 obtain⟨i,hi,hz,hsize,hby⟩:=info_parts hinfo
 obtain⟨va,cap,rfl,hc1,hc2⟩:=xJ hown
 have hr:(Builtin.append_ #[t,t] o.type #[.slice va n cap, .slice none 0 c]).run P w= .ok (.slice va n cap) w:=by
  cases va<;>simp [Builtin.append_,run_underlying ht,sizeOf,typeInfo,hi,Builtin.lenOf,Builtin.firstCells,hc1,storeCells]
 refine wpList_plain hgd λ_ hK=> ?_
 unfold Oper.wp execOp
 simp only [ho,resolve,invoke,builtin,Sem.run_bind,Sem.run_pure,Result.andThen_ok,List.map_toArray,List.map_cons,List.map_nil,hs,hx,hr]
 exact hK _ _ (h va cap w (by rw [List.append_nil];exact hown) (by unfold maxLen at hc2;omega) hc1 (Since.refl _ _) (λk hk=> .inl hk))
theorem bq {X:World} {B g size n:Nat} {e:TypeId} {cs:List Value} (h:X.heap[g]? =some (.cells cs.toArray e (0,0))) (hB:B<=g) (hl:cs.length=n*size) (hn:n<=maxLen):X.ownsRow B e size (.slice (some ⟨g,0,none⟩) n n) n cs:=
 ⟨hl, .inr ⟨g,n,cs.toArray,rfl,hB,h,Nat.le_refl _,hn,by simp [hl],by rw [List.take_of_length_le (by simp [hl])]⟩⟩
def z0a (_:World) (r:List Int) (cs:List Value):Prop:=r.length=4/\cs= [.int .i64 (r.getD 0 0), .int .i64 (r.getD 1 0), .int .i64 (r.getD 2 0), .int .i64 (r.getD 3 0)]
abbrev z0b:=zh z0a 4
structure zye (w:World) (f:zmf) (mv rv:Value):Prop where
 mem:xC w mv f.mem
 regs:z0b w rv f.regs
def z0c (w:World) (f:zmf) (cs:List Value):Prop:=∃mv rv,cs= [mv,rv] /\zye w f mv rv
abbrev z6e:=zh z0c 2
def zpF:zM:= .mk 1 1 0 []
def noE:zM:= .mk 0 0 0 []
def qL:zF:=⟨2,2, [[⟨2,0,0,zpF,noE,0⟩,⟨1,0,1,noE,noE,0⟩], [⟨2,0,1,zpF,noE,0⟩,⟨1,0,0,noE,noE,0⟩]]⟩
theorem zok (w:World):Calls Tryz.prog 69 #[.int .i64 1] w λe w'=>e= .returned (.agg #[.int .i64 1, .int .i64 1, .int .u8 0, .slice none 0 0])/\Below w.heap.size w w':=by
 go_enter Tryz.func69,Tryz.ntmps69
 go_wp2
 exact bodyPost_ret (v:= .agg #[.int .i64 1, .int .i64 1, .int .u8 0, .slice none 0 0]) (by simp [results,Tryz.results69,go_sem]) rfl ⟨rfl,(Below.refl _ _).alloc (Nat.le_refl _) _⟩
theorem zyf {d:Nat} {w:World} {l:List (List zS)} {g m:Nat} {vs:List Value} {t:TypeId} (hb:w.heap[g]? =some (.cells vs.toArray t (0,0))) (hm:l.length<=m/\m<=9223372036854775807) (h:∀j,j<l.length->∃v,vs[j]? =some v/\wT d w v (l.getD j [])):yE d w (.slice (some ⟨g,0,none⟩) l.length m) l:=
 ⟨_,_,rfl,hm,λj hj=>by
  obtain⟨v,hv,hi⟩:=h j hj
  refine⟨g,0, [v],rfl,zx hb,rfl,λi hi=> ?_,v,rfl,hi⟩
  obtain rfl:i=0:=by omega
  rw [show 0+j*1+0=j by omega,ze hb,List.getElem?_toArray,hv];rfl⟩
theorem zse (w:World) (k n o:Int):zG 1 w (.mk k n o []) (.slice none 0 0):=⟨none,0,rfl,by simp [zM.kids],λj hj=>by simp [zM.kids] at hj⟩
theorem zsf:(Tryz.prog.info? 24).map (·.size)=some 3:=by kernel_rfl
def zpG (x:zS):List Value:=x.cells (.slice none 0 0) (.slice none 0 0)
theorem zhg (x:zS):(zpG x).length=12:=rfl
theorem zkc (w:World) {x:zM} (h:x.kids= []):zG 1 w x (.slice none 0 0):=by
 obtain⟨k,n,o,l⟩:=x
 have:l= [] :=h
 subst this
 exact zse _ _ _ _
theorem zgC {w:World} {g m:Nat} {l:List zS} {t:TypeId} (hb:w.heap[g]? =some (.cells (zq zpG l).toArray t (0,0))) (hl:l.length<=maxLen) (hm:l.length=m) (h:∀j,j<l.length->(l.getD j default).a.kids= [] /\(l.getD j default).b.kids= []):wT 1 w (.slice (some ⟨g,0,none⟩) m m) l:=by
 subst hm
 exact zh.zco (R:=vJ 1) (bq (B:=0) hb (Nat.zero_le _) (jE zhg l) hl) λj hj=>⟨zpG (l.getD j default),zhg _,λ_ hi=>zaz zhg hj hi,_,_,rfl,zkc _ (h j hj).1,zkc _ (h j hj).2⟩
def z0d (w:World) (e:Ending) (w':World):Prop:=(∃tv,e= .returned (yC qL tv)/\yE 1 w' tv qL.threads)/\Below w.heap.size w w'
theorem zpH (w:World):Calls Tryz.prog 41 #[] w (z0d w):=by
 go_enter Tryz.func41,Tryz.ntmps41
 go_upto_region 1 with fail
 have L0:=qh ((Loc.start w).alloc 24 [.int .i64 0, .int .i64 0, .slice none 0 0])
 generalize World.alloc w _=W0 at L0 ⊢
 generalize w.heap.size=g at L0 ⊢
 go_upto_region 2 with(go_at_call 69;go_must(refine(zok _).mono ?_);rintro e W1 ⟨rfl,hb⟩;have L1:=qh ((L0.out.later hb).alloc 64 [.int .i64 2, .int .i64 0, .int .i64 0, .int .i64 1, .int .i64 1, .int .u8 0, .slice none 0 0, .int .i64 0, .int .i64 0, .int .u8 0, .slice none 0 0, .int .i64 0, .int .i64 1, .int .i64 0, .int .i64 1, .int .i64 0, .int .i64 0, .int .u8 0, .slice none 0 0, .int .i64 0, .int .i64 0, .int .u8 0, .slice none 0 0, .int .i64 0]);clear hb L0)
 generalize World.alloc W1 _=X at L1 ⊢
 generalize W1.heap.size=b1 at L1 ⊢
 go_upto_region 3 with(go_at_call 69;go_must(refine(zok _).mono ?_);rintro e W2 ⟨rfl,hb⟩;have L3:=qh ((L1.out.later hb).alloc 64 [.int .i64 2, .int .i64 0, .int .i64 1, .int .i64 1, .int .i64 1, .int .u8 0, .slice none 0 0, .int .i64 0, .int .i64 0, .int .u8 0, .slice none 0 0, .int .i64 0, .int .i64 1, .int .i64 0, .int .i64 0, .int .i64 0, .int .i64 0, .int .u8 0, .slice none 0 0, .int .i64 0, .int .i64 0, .int .u8 0, .slice none 0 0, .int .i64 0]);clear hb L1)
 generalize World.alloc W2 _=Y at L3 ⊢
 generalize W2.heap.size=b2 at L3 ⊢
 have l5:=L3.out.alloc 59 [.slice (some ⟨b1,0,none⟩) 2 2, .slice (some ⟨b2,0,none⟩) 2 2]
 have hg:=(l5.news (g,24, [.int .i64 0, .int .i64 0, .slice none 0 0]) (by simp)).1
 have L5:=qh l5
 have k0:=ze hg 0
 have k1:=ze hg 1
 have k2:=ze hg 2
 have z0:=zD hg 0
 have z1:=zD hg 1
 have z2:=zD hg 2
 clear l5 hg L3
 go_wp2
 have l6:=L5.out.store (g:=g) (t:=24) (cs:= [.int .i64 0, .int .i64 0, .slice none 0 0]) (by simp) [.int .i64 2, .int .i64 2, .slice (some ⟨Y.heap.size,0,none⟩) 2 2] rfl
 have ha:=L5.out.apart
 simp only [List.map_cons,List.map_nil,List.nodup_cons,List.mem_cons,List.not_mem_nil,or_false,not_or] at ha
 have hg:=(l6.news _ (zaA (t:=24) (cs:= [.int .i64 0, .int .i64 0, .slice none 0 0]) (by simp))).1
 have hy:=(l6.news _ (jM (p:=(Y.heap.size,59, [.slice (some ⟨b1,0,none⟩) 2 2, .slice (some ⟨b2,0,none⟩) 2 2])) (by simp) ha.1.2.2)).1
 have h2:=(l6.news _ (jM (p:=(b2,64, [.int .i64 2, .int .i64 0, .int .i64 1, .int .i64 1, .int .i64 1, .int .u8 0, .slice none 0 0, .int .i64 0, .int .i64 0, .int .u8 0, .slice none 0 0, .int .i64 0, .int .i64 1, .int .i64 0, .int .i64 0, .int .i64 0, .int .i64 0, .int .u8 0, .slice none 0 0, .int .i64 0, .int .i64 0, .int .u8 0, .slice none 0 0, .int .i64 0])) (by simp) ha.2.1.2)).1
 have h1:=(l6.news _ (jM (p:=(b1,64, [.int .i64 2, .int .i64 0, .int .i64 0, .int .i64 1, .int .i64 1, .int .u8 0, .slice none 0 0, .int .i64 0, .int .i64 0, .int .u8 0, .slice none 0 0, .int .i64 0, .int .i64 1, .int .i64 0, .int .i64 1, .int .i64 0, .int .i64 0, .int .u8 0, .slice none 0 0, .int .i64 0, .int .i64 0, .int .u8 0, .slice none 0 0, .int .i64 0])) (by simp) ha.2.2.1)).1
 have L6:=qh l6.below
 change bodyPost _ _ _ _ _ (yG _ g 0 [.int .i64 2, .int .i64 2, .slice (some ⟨Y.heap.size,0,none⟩) 2 2])
 generalize yG _ g 0 _=Z at hg hy h2 h1 L6 ⊢
 refine bodyPost_ret (xQ rfl _ _ g 24 _ (0,0) _ rfl hg Tryz.underlying24 rfl zsf) rfl ?_
 refine⟨⟨_,rfl,zyf (l:=qL.threads) hy (by decide) λj hj=> ?_⟩,L6.out⟩
 match j,hj with
 |0,_=>exact⟨_,rfl,zgC (l:= [⟨2,0,0,zpF,noE,0⟩,⟨1,0,1,noE,noE,0⟩]) h1 (by decide) rfl (λj hj=>by match j,hj with|0,_=>exact⟨rfl,rfl⟩|1,_=>exact⟨rfl,rfl⟩)⟩
 |1,_=>exact⟨_,rfl,zgC (l:= [⟨2,0,1,zpF,noE,0⟩,⟨1,0,0,noE,noE,0⟩]) h2 (by decide) rfl (λj hj=>by match j,hj with|0,_=>exact⟨rfl,rfl⟩|1,_=>exact⟨rfl,rfl⟩)⟩
