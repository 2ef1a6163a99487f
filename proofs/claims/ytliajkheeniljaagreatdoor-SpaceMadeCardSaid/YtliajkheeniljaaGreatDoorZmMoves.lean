/- Steps. -/
import Derived.Test.YtliajkheeniljaaGreatDoorZmFits
import Derived.Test.YtliajkheeniljaaGreatDoorZmSame7
import Derived.Test.YtliajkheeniljaaGreatDoorZmStep
set_option linter.all false
namespace Go.Proofs.YtliajkheeniljaaGreatDoor
open Go.RowKit
set_option maxRecDepth 100000
set_option maxHeartbeats 16000000
theorem zbG (w:World) (o1 o2 o3:Obj):Below w.heap.size w (((w.alloc o1).alloc o2).alloc o3)/\(((w.alloc o1).alloc o2).alloc o3).heap[w.heap.size]? =some o1/\(((w.alloc o1).alloc o2).alloc o3).heap[w.heap.size+1]? =some o2/\(((w.alloc o1).alloc o2).alloc o3).heap[w.heap.size+2]? =some o3:=
 ⟨za5 w _ _ _,za6 w _ _ _,zai w _ _ _,za7 w _ _ _⟩
theorem bO (x:zx):(zx.cells x).length=3:=rfl
theorem bP:(Tryz.prog.info? 32).map (λi=>(i.zero,i.size,i.bytes))=some (some (.agg #[.int .i64 0, .int .i64 0, .int .i64 0]),3,24):=by kernel_rfl
theorem zbR (l:List zk) (model:Int):(yL l model).length<=l.length:=by
 unfold yL
 split
 ·exact zgz _ _
 split
 ·cases l<;>simp
 simp
theorem zoY (c:zO) (m:zH) (s:zl) (d i:Nat) (h:(s.threads.getD i default).buf.length<=100000):(wh c m s d i).length<=100001:=by
 unfold wh
 have:=zbR (s.threads.getD i default).buf m.model
 rw [List.length_append,List.length_map]
 split<;>simp only [List.length_cons,List.length_nil] <;>omega
theorem zbx {α:Type} (f:α->List Value) (l:List α) (x:α):zq f (l++ [x])=zq f l++f x:=by simp [zq]
theorem zaF {α:Type} (f:Nat->List α) (i:Nat):(List.range (i+1)).flatMap f=(List.range i).flatMap f++f i:=by rw [List.range_succ];simp
theorem zlz {α:Type} {f:α->List Value} {B:Nat} {e:TypeId} {size:Nat} {w X:World} {a a':Option Addr} {n m c c':Nat} {l:List α} {x:α} {o:Obj} (ho:w.ownsRow B e size (.slice a n c) n (zq f l)) (h1:X.ownsRow B e size (.slice a' m c') m (zq f l++f x))
  (h4:Since (λk=>(Value.slice a n c).ownBlock=some k) (w.alloc o) X) {V:World} (hV:Below V.heap.size V w) (hB:V.heap.size<=B):X.ownsRow B e size (.slice a' m c') m (zq f (l++ [x]))/\Below V.heap.size V X:=by
 refine⟨by rw [zbx];exact h1,hV.trans ((((Since.refl _ w).alloc o).trans h4 (λk hk=> .inl hk)).below hV.size (λk hk=>Nat.le_trans hB (ho.lt k hk).1))⟩
theorem zg0 {B:Nat} {e:TypeId} {size n:Nat} {w X:World} {v v' hv:Value} {xs:List Value} {o:Obj} (h:w.ownsRow B e size hv n xs) (hne:∀k,v.ownBlock=some k->hv.ownBlock≠some k) (h4:Since (λk=>v.ownBlock=some k) (w.alloc o) X)
  (h5:∀k,v'.ownBlock=some k->v.ownBlock=some k\/k=(w.alloc o).heap.size):X.ownsRow B e size hv n xs/\∀k,v'.ownBlock=some k->hv.ownBlock≠some k:=by
 refine⟨h4.row (h.alloc o) (λk h1 h2=>hne k h2 h1),λk h1 h2=> ?_⟩
 rcases h5 k h1 with h3|h3
 ·exact hne k h3 h2
 have:=(h.lt k h2).2;simp at h3;omega
def zgU (w:World) (l:List zx) (e:Ending) (w':World):Prop:=(∃va vc,e= .returned (.slice va l.length vc)/\w'.ownsRow w.heap.size 32 3 (.slice va l.length vc) l.length (zq zx.cells l))/\Below w.heap.size w w'
theorem zg1 {w w':World} {l:List zx} {va:Option Addr} {vn vc:Nat} (h:l.length=vn) (ho:w'.ownsRow w.heap.size 32 3 (.slice va vn vc) vn (zq zx.cells l)) (hb:Below w.heap.size w w'):zgU w l (.returned (.slice va vn vc)) w':=by
 subst h;exact⟨⟨va,vc,rfl,ho⟩,hb⟩
theorem zqR (w:World) (c:zO) (cv:Value) (d:Nat) (hc:yT d w cv c.threads) (m:zH) (s:zl) (sv mv:Value) (hs:yj w s sv mv) (hb:∀j,j<s.threads.length->(s.threads.getD j default).buf.length<=100000):
  Calls Tryz.prog 36 #[yK c cv,xB m,yF s sv mv] w (zgU w (ji c m s d)):=by
 obtain⟨ca,cc,rfl, -⟩:=zh.slice hc
 obtain⟨ta,jr,rfl, -⟩:=zh.slice hs.threads
 obtain⟨ma,vP,rfl, -⟩:=zh.slice hs.mem
 obtain⟨fo,hfo⟩:∃fo,fo=yJ c m s:=⟨_,rfl⟩
 obtain⟨R,hR⟩:∃R,R=ji c m s d:=⟨_,rfl⟩
 rw [<-hR]
 have hfits:=λW hc hs=>zla W c (.slice ca c.threads.length cc) d hc m s (.slice ta s.threads.length jr) (.slice ma s.mem.length vP) hs (λj hj=>by have:=hb j hj;omega)
 rw [<-hfo] at hfits
 have hstep:=λW hc hs i=>λ(hf:fo=true) hi=>zl0 W c (.slice ca c.threads.length cc) d hc m s (.slice ta s.threads.length jr) (.slice ma s.mem.length vP) hs (hfo.symm.trans hf) i hi hb
 have bL:fo=true->s.threads.length<=4:=λe=>by
  obtain⟨h1, -,h2,h3, -⟩:=pI (hfo.symm.trans e)
  have h4:=xS h1
  rw [h2];exact h4.2.2.2.2.2
 have hmt:=λi (hi:i<s.threads.length)=>zoY c m s d i (hb i hi)
 have hR2:R=if fo then(List.range s.threads.length).flatMap (wh c m s d) else [] :=by rw [hR,hfo];rfl
 have hmT:∀i,wh c m s d i=(if (jZ c m s i d).isSome then [⟨1,i,0⟩] else [])++(yL (s.threads.getD i default).buf m.model).map λv=>(⟨2,i,v⟩:zx):=λi=>rfl
 obtain⟨MT,hMT⟩:∃MT,MT=wh c m s d:=⟨_,rfl⟩
 rw [<-hMT] at hR2 hmt hmT
 have hT:=hs.threads
 obtain⟨vars,dom,cs⟩:=c
 obtain⟨mod,bnd⟩:=m
 obtain⟨ts,mem,bad⟩:=s
 obtain⟨SS,hSS⟩:∃SS,SS=λi=>jZ ⟨vars,dom,cs⟩ ⟨mod,bnd⟩ ⟨ts,mem,bad⟩ i d:=⟨_,rfl⟩
 have zzg:∀i,jZ ⟨vars,dom,cs⟩ ⟨mod,bnd⟩ ⟨ts,mem,bad⟩ i d=SS i:=λi=>by rw [hSS]
 simp only [] at hc hs hb bL hfits hstep hR2 hmt hT hmT ⊢
 simp only [zzg] at hstep hmT
 unfold yK xB yF
 unfold yK xB yF at hfits
 have hstep2:∀W,yT d W (.slice ca cs.length cc) cs->yj W ⟨ts,mem,bad⟩ (.slice ta ts.length jr) (.slice ma mem.length vP)->∀i,fo=true->i<ts.length->Calls Tryz.prog 62 #[.agg #[.int .i64 vars, .int .i64 dom, .slice ca cs.length cc], .agg #[.int .i64 mod, .int .i64 bnd], .agg #[.slice ta ts.length jr, .slice ma mem.length vP, .bool bad], .int .i64 i] W λe w'=>(∃xa xn xc ya yn yc b',e= .returned (.tuple #[.agg #[.slice xa xn xc, .slice ya yn yc, .bool b'], .bool (SS i).isSome]))/\Below W.heap.size W w':=λW h1 h2 i h3 h4=>
  (hstep W h1 h2 i h3 h4).mono λe w' ⟨⟨xa,xn,xc,ya,yn,yc,s',he,_⟩,hb⟩=>⟨⟨xa,xn,xc,ya,yn,yc,s'.bad,he⟩,hb⟩
 clear hstep
 simp only [] at hfits ⊢
 obtain⟨n,hn⟩:∃n,n=ts.length:=⟨_,rfl⟩
 obtain⟨cn,hcn⟩:∃cn,cn=cs.length:=⟨_,rfl⟩
 obtain⟨mn,hmn⟩:∃mn,mn=mem.length:=⟨_,rfl⟩
 rw [<-hn] at hs hT hb hfits hstep2 bL hR2 hmt ⊢
 rw [<-hmn] at hs hfits hstep2 ⊢
 rw [<-hcn] at hc hfits hstep2 ⊢
 obtain⟨hB,h1,h2,h3⟩:=zbG w (.cells #[.int .i64 vars, .int .i64 dom, .slice ca cn cc] 24) (.cells #[.int .i64 mod, .int .i64 bnd] 26) (.cells #[.slice ta n jr, .slice ma mn vP, .bool bad] 30)
 have HB:=qh hB
 have H1:=qh h1
 have H2:=qh h2
 have H3:=qh h3
 have kQ:=qh (zh.below (xY.stays d) hc hB)
 have HSW:=qh (yj.below hs hB)
 have HT:=qh (zh.below uN.stays hT hB)
 have HN:=qh hn
 have HBU:=qh hb
 have zcH:=qh hfits
 have uD:=qh hstep2
 have HN4:=qh bL
 have HMT:=qh hmt
 have z4V:=qh hmT
 have HRR:=qh hR2
 clear hn hcn hmn hb hfits hstep2 bL hR2 hfo hB h1 h2 h3 hT hc hs hR hMT hSS zzg hmt hmT
 go_enter Tryz.func36,Tryz.ntmps36
 go_upto_region 1 with fail
 generalize World.alloc (World.alloc (World.alloc w _) _) _=W at HB H1 H2 H3 kQ HSW HT ⊢
 obtain⟨gx,hgx⟩:∃gx,gx=w.heap.size:=⟨_,rfl⟩
 rw [<-hgx] at H1 H2 H3 ⊢
 have yS:Hid (w.heap.size<=W.heap.size):=HB.out.size
 clear hgx
 have qg:Hid (∀y,Below W.heap.size W y->y.cell? ⟨gx,0,none⟩=some (.int .i64 vars)/\y.cell? ⟨gx,1,none⟩=some (.int .i64 dom)/\y.cell? ⟨gx,2,none⟩=some (.slice ca cn cc)/\
   y.cell? ⟨gx+1,0,none⟩=some (.int .i64 mod)/\y.cell? ⟨gx+1,1,none⟩=some (.int .i64 bnd)/\y.cell? ⟨gx+2,0,none⟩=some (.slice ta n jr)/\y.cell? ⟨gx+2,1,none⟩=some (.slice ma mn vP)/\y.cell? ⟨gx+2,2,none⟩=some (.bool bad)):=λy hx=>
  ⟨zi hx _ _ (ze H1.out 0),zi hx _ _ (ze H1.out 1),zi hx _ _ (ze H1.out 2),zi hx _ _ (ze H2.out 0),zi hx _ _ (ze H2.out 1),zi hx _ _ (ze H3.out 0),zi hx _ _ (ze H3.out 1),zi hx _ _ (ze H3.out 2)⟩
 have yE:Hid (∀x,Below W.heap.size W x->Below w.heap.size w x):=λx hx=>HB.out.trans (hx.mono HB.out.size)
 obtain⟨c0,c1,c2,c3,c4,c5,c6,c7⟩:=qg.out W (Below.refl _ _)
 go_wp2_with fail
 refine(zcH.out W kQ.out HSW.out).mono ?_
 rintro e W1 ⟨rfl,hb1⟩
 have HB1:=qh hb1
 clear hb1 zcH c0 c1 c2 c3 c4 c5 c6 c7
 cases fo with
 |false=>
  have hr:R.length=0:=by rw [HRR.out];rfl
  have hr2:zq zx.cells R= [] :=by rw [HRR.out];rfl
  have HR:=qh hr
  have HR2:=qh hr2
  clear hr hr2
  go_wp2_with fail
  go_ret
  exact zg1 HR.out (by rw [HR2.out];exact World.ownsRow_nil _ _ _ _) (yE.out _ HB1.out)
 |true=>
 have bL:n<=4:=HN4.out (by trivial)
 have HR:Hid (R=(List.range n).flatMap MT):=by rw [Hid,HRR.out];rfl
 clear HRR HN4
 go_wp2_with fail
 go_loopg [7,8] n (λgg s7 s8 wr=>∃(i:Nat) (oa:Option Addr) (on oc:Nat) (ml:List zx),i<=n/\Hid (gg=n - i)/\s7= .slice oa on oc/\s8= .int .i64 i/\on<=100001*i/\Hid (wr.ownsRow W.heap.size 32 3 (.slice oa on oc) on (zq zx.cells ml))/\Hid (ml.length=on)/\Hid (ml=(List.range i).flatMap MT)/\Hid (Below W.heap.size W wr))
 case atStart=>exact⟨0,none,0,0, [],Nat.zero_le _,rfl,rfl,rfl,by omega,World.ownsRow_nil _ _ _ _,rfl,rfl,HB1.out⟩
 case round=>
 obtain⟨i,oa,on,oc,ml,hi,HG,rfl,rfl,hon,HRO,kP,uT,zL⟩:=hrel
 obtain⟨wo,rfl⟩:∃wo:World,wo=wr:=⟨_,rfl⟩
 obtain⟨c0,c1,c2,c3,c4,c5,c6,c7⟩:=qg.out wo zL.out
 by_cases hlt:i<n
 rotate_left
 ·obtain rfl:n=i:=by omega
  have HR2:Hid (R=ml):=by rw [Hid,HR.out,uT.out]
  go_wp2_with fail
  go_ret
  exact zg1 (by rw [HR2.out];exact kP.out) (by rw [HR2.out];exact xu HRO.out yS.out) (yE.out _ zL.out)
 have qx:(i:Int)<(n:Int):=by omega
 obtain⟨tb,yI,ba,bc,hta, -, -, -, -, -, -, -,x5,hbuf⟩:=qO.part HT.out i (by rw [<-HN.out];exact hlt)
 subst hta
 have hbl:=HBU.out i hlt
 have hmt:=z4V.out i
 have hml:=HMT.out i hlt
 generalize ts.getD i default=t at x5 hbuf hbl hmt
 have z4W:=qh hml
 obtain⟨hh,hhh⟩:∃hh,hh=yL t.buf mod:=⟨_,rfl⟩
 rw [<-hhh] at hmt
 have zzh:=qh hmt
 have hhl:hh.length<=100000:=by have:=zbR t.buf mod;rw [hhh];omega
 obtain⟨bl,kC⟩:∃bl,bl=t.buf.length:=⟨_,rfl⟩
 rw [<-kC] at x5 hbuf
 have zab:Hid (∀y,Below W.heap.size W y->Calls Tryz.prog 63 #[.slice ba bl bc, .int .i64 mod] y λe w'=>(∃va vc,e= .returned (.slice va hh.length vc)/\w'.ownsRow y.heap.size 3 1 (.slice va hh.length vc) hh.length (zq yO hh))/\Below y.heap.size y w'):=λy hy=>
  (zjC y (.slice ba bl bc) t.buf (zV.below hbuf hy) (by omega) mod).mono λe w' ⟨⟨sv,sn,he,hsn,hi⟩,hb⟩=>by
   rw [<-hhh] at hi hsn
   subst hsn
   obtain⟨a,cp,rfl, -⟩:=xC hi
   exact⟨⟨a,cp,he,hi⟩,hb⟩
 have HX5:Hid (∀y,Below W.heap.size W y->y.cell? ⟨tb,yI+i*6+5,none⟩=some (.slice ba bl bc)):=λy hy=>zi hy _ _ x5
 obtain⟨hn,hhn⟩:∃hn,hn=hh.length:=⟨_,rfl⟩
 rw [<-hhn] at zab hhl
 have HHN:=qh hhn
 clear hhn hhh kC x5 hbuf hbl hmt hml
 go_upto_if 33 with(go_at_call 62;go_must(refine(uD.out wo (zh.below (xY.stays d) kQ.out zL.out) (HSW.out.below zL.out) i (by trivial) hlt).mono ?_);rintro e W2 ⟨⟨xa,xn,xc,ya,yn,yc,b',rfl⟩,hb2⟩;have HB2:=qh hb2;clear hb2)
 have hbx:=(Below.refl wo.heap.size wo).trans ((HB2.out).alloc HB2.out.size (.cells #[.slice xa xn xc, .slice ya yn yc, .bool b'] 30))
 have xq:=qh hbx
 clear hbx c0 c1 c2 c3 c4 c5 c6 c7
 generalize World.alloc W2 _=W3 at xq ⊢
 have ztN:=qh (xX HRO.out xq.out)
 have HB3:=qh (zF zL.out xq.out)
 clear HB2 xq HRO zL
 generalize hSS:(SS i).isSome=is at zzh ⊢
 clear hSS
 go_cut [7] (λs7 w'=>∃(pa:Option Addr) (pn pc:Nat) (pl:List zx),s7= .slice pa pn pc/\pn<=on+1/\Hid (w'.ownsRow W.heap.size 32 3 (.slice pa pn pc) pn (zq zx.cells pl))/\Hid (pl.length=pn)/\Hid (pl=ml++(if is then [⟨1,i,0⟩] else []))/\Hid (Below W.heap.size W w'))
 case first=>
  cases is with
  |true=>
   go_wp2_with(at_builtin;go_must(refine zJ _ rfl _ _ 52 rfl 32 (.agg #[.int .i64 0, .int .i64 0, .int .i64 0]) 3 24 Tryz.underlying52 bP rfl (by decide) W.heap.size (.slice oa on oc) on (zq zx.cells ml) rfl ((ztN.out).alloc _) ⟨W3.heap.size,0,none⟩ 1 1 (zx.cells ⟨1,i,0⟩) rfl rfl (qN _ (zx.cells ⟨1,i,0⟩) _) (by simp [zx.cells,Value.oneCell']) (by unfold maxLen;omega) (by omega) (by have:=HB3.out.size;simp;omega) ?_);intro ja jc X f1 f2 f3 f4 f5 f6;have HE:=qh (zlz (ztN.out) f1 f4 (HB3.out) (Nat.le_refl _));clear f1 f2 f3 f4 f5 f6)
   go_meet
   case rel=>exact⟨ja,on+1,jc,ml++ [(⟨1,(i:Int),0⟩:zx)],rfl,by omega,HE.out.1,by rw [Hid,List.length_append,kP.out];rfl,by simp [Hid],HE.out.2⟩
  |false=>
  go_wp2_with fail
  go_meet
  case rel=>exact⟨oa,on,oc,ml,rfl,by omega,ztN.out,kP.out,by simp [Hid],HB3.out⟩
 case rest=>
 obtain⟨pa,pn,pc,pl,rfl,hpn,HPR,HPN,jM,jq⟩:=hcut
 obtain⟨W4,rfl⟩:∃W4:World,W4=wc:=⟨_,rfl⟩
 go_upto_region 10 with fail
 have HCX:Hid (∀y,Below W4.heap.size W4 y->y.cell? ⟨gx+2,0,none⟩=some (.slice (some ⟨tb,yI,none⟩) n jr)/\y.cell? ⟨gx+1,0,none⟩=some (.int .i64 mod)/\y.cell? ⟨tb,yI+i*6+5,none⟩=some (.slice ba bl bc)):=λy hy=>by
  have hw:=zF jq.out hy
  obtain⟨-, -, -,c3, -,c5, -, -⟩:=qg.out y hw
  exact⟨c5,c3,HX5.out y hw⟩
 have znJ:Hid (∀y,Below W4.heap.size W4 y->Calls Tryz.prog 63 #[.slice ba bl bc, .int .i64 mod] y λe w'=>(∃va vc,e= .returned (.slice va hn vc)/\w'.ownsRow y.heap.size 3 1 (.slice va hn vc) hn (zq yO hh))/\Below y.heap.size y w'):=λy hy=>zab.out y (zF jq.out hy)
 refine qL (S:=λx=>Below W4.heap.size W4 x) (Below.refl _ _).drew (λhH=> ?_)
 refine zo 0 HCX.out ?_
 refine zo 1 HCX.out ?_
 refine zo 2 HCX.out ?_
 refine zo 3 HCX.out ?_
 refine zo 4 HCX.out ?_
 refine zo 5 HCX.out ?_
 refine zo 6 HCX.out ?_
 refine zo 7 HCX.out ?_
 refine yu 8 rfl (λK hK=> ?_)
 go_simp
 refine(znJ.out W4.drew hH).mono ?_
 rintro e hw8 ⟨⟨va,vc,rfl,hhr⟩,hb⟩
 have HHI:=qh hhr
 have HHG:Hid (W4.heap.size<=W4.drew.heap.size):=(hH).size
 clear hhr
 have ztO:Below W4.heap.size W4 hw8:=zF hH hb
 refine hK.out _ _ ztO (λ_=> ?_)
 clear hK K hb hH
 refine zo 9 HCX.out ?_
 refine xJ ?_
 have zT:=qh ztO
 clear ztO
 go_wp2_with fail
 obtain⟨W5,hW5⟩:∃W5,W5=hw8:=⟨_,rfl⟩
 rw [<-hW5] at zT HHI ⊢
 clear hW5
 have z4X:=qh (xX HPR.out zT.out)
 have HB5:=qh (zF jq.out zT.out)
 have z4Y:Hid (∀x,(Value.slice pa pn pc).ownBlock=some x->(Value.slice va hn vc).ownBlock≠some x):=λx h1 h2=>by have:=(HPR.out.lt x h1).2;have:=(HHI.out.lt x h2).1;have:=HHG.out;omega
 clear zab znJ HCX zT jq HPR HHG
 go_loopg [7,12] hn (λgg s7 s12 wr=>∃(k:Nat) (qa:Option Addr) (qn qc:Nat) (ql:List zx),k<=hn/\Hid (gg=hn - k)/\s7= .slice qa qn qc/\s12= .int .i64 k/\qn<=on+1+k/\Hid (wr.ownsRow W.heap.size 32 3 (.slice qa qn qc) qn (zq zx.cells ql))/\Hid (ql.length=qn)/\Hid (ql=pl++(hh.take k).map (λv=>⟨2,i,v⟩))/\Hid (∃B,wr.ownsRow B 3 1 (.slice va hn vc) hn (zq yO hh))/\Hid (∀x,(Value.slice qa qn qc).ownBlock=some x->(Value.slice va hn vc).ownBlock≠some x)/\Hid (Below W.heap.size W wr))
 case atStart=>exact⟨0,pa,pn,pc,pl,Nat.zero_le _,rfl,rfl,rfl,by omega,z4X.out,HPN.out,by simp [Hid],⟨_,HHI.out⟩,z4Y.out,HB5.out⟩
 case round=>
 obtain⟨k,qa,qn,qc,ql,hk,HG2,rfl,rfl,hqn,HQR,HQN,HQL,HHR,wG,yx⟩:=hrel
 by_cases hkl:k<hn
 rotate_left
 ·obtain rfl:hn=k:=by omega
  have hst:ql=(List.range (i+1)).flatMap MT:=by
   rw [zaF,zzh.out, <-uT.out,HQL.out,jM.out,HHN.out,List.take_length,List.append_assoc]
  have z4Z:qn<=100001*(i+1):=by
   have h1:=z4W.out
   have h2:=congrArg List.length hst
   rw [zaF,List.length_append, <-uT.out,kP.out,HQN.out] at h2
   omega
  have HST:=qh hst
  clear hst
  go_wp2_with fail
  go_roundg (n - (i+1))
  case measure=>rw [HG.out];omega
  case rel=>exact⟨i+1,qa,qn,qc,ql,by omega,rfl,rfl,by simp,z4Z,HQR.out,HQN.out,HST.out,yx.out⟩
 have zlg:(k:Int)<(hn:Int):=by omega
 obtain⟨BH,hhr⟩:=HHR.out
 have hrw:=hhr
 rw [HHN.out] at hrw
 obtain⟨b9,o9,zZ, -,e1⟩:=xI.part (gH hrw) k (by rw [<-HHN.out];exact hkl)
 subst zZ
 have HRB:=qh hhr
 clear hhr hrw
 have jo:Hid (hh.take (k+1)=hh.take k++ [hh.getD k 0]):=by rw [Hid,List.take_succ_eq_append_getElem (by rw [<-HHN.out];exact hkl),List.getD_eq_getElem?_getD,List.getElem?_eq_getElem (by rw [<-HHN.out];exact hkl)];rfl
 generalize hh.getD k 0=v at e1 jo
 go_wp2_with(at_builtin;go_must(refine zJ _ rfl _ _ 52 rfl 32 (.agg #[.int .i64 0, .int .i64 0, .int .i64 0]) 3 24 Tryz.underlying52 bP rfl (by decide) W.heap.size (.slice qa qn qc) qn (zq zx.cells ql) rfl ((HQR.out).alloc _) ⟨wr.heap.size,0,none⟩ 1 1 (zx.cells ⟨2,i,v⟩) rfl rfl (qN _ (zx.cells ⟨2,i,v⟩) _) (by simp [zx.cells,Value.oneCell']) (by unfold maxLen;omega) (by omega) (by have:=yx.out.size;simp;omega) ?_);intro ja jc X f1 f2 f3 f4 f5 f6;have HE:=qh (zlz (HQR.out) f1 f4 (yx.out) (Nat.le_refl _));have HE2:=qh (zg0 HRB.out wG.out f4 f5);clear f1 f2 f3 f4 f5 f6)
 go_roundg (hn - (k+1))
 case measure=>rw [HG2.out];omega
 case rel=>exact⟨k+1,ja,qn+1,jc,ql++ [(⟨2,(i:Int),v⟩:zx)],by omega,rfl,rfl,by simp,by omega,HE.out.1,by rw [Hid,List.length_append,HQN.out];rfl,by rw [Hid,HQL.out,jo.out];simp,⟨_,HE2.out.1⟩,HE2.out.2,HE.out.2⟩
theorem zih:Tryz.prog.underlying 32=some (.struct (Tryz.prog.fieldsOf 32)):=by kernel_rfl
theorem zoZ:Tryz.prog.stoodInHeld 32=false:=by kernel_rfl
@[go_sem] theorem z1N:Tryz.prog.eqGuardType Tryz.prog.depth 32=false:=by kernel_rfl
theorem zmB:(Tryz.prog.fieldsOf 32).toList.map (λf=>(f.name,f.type,f.offset))= [("Kind",3,0),("Thread",3,1),("Var",3,2)] :=by kernel_rfl
@[go_sem] theorem z14 (w:World) (a b c x y z:Int):(Op.equalIn 10000 32 (.agg #[.int .i64 a, .int .i64 b, .int .i64 c]) (.agg #[.int .i64 x, .int .i64 y, .int .i64 z])).run Tryz.prog w
  = .ok (a==x && b==y && c==z) w:=by
 rw [run_equalIn_agg w 9999 _ _ _ zih zoZ]
 obtain⟨f0,f1,f2,hf,h0,h1,h2⟩:∃f0 f1 f2,(Tryz.prog.fieldsOf 32).toList= [f0,f1,f2] /\(f0.name,f0.type,f0.offset)=("Kind",3,0)/\(f1.name,f1.type,f1.offset)=("Thread",3,1)/\(f2.name,f2.type,f2.offset)=("Var",3,2):=by
  have h:=zmB
  generalize (Tryz.prog.fieldsOf 32).toList=l at h
  have hl:l.length=3:=by have:=congrArg List.length h;simpa using this
  match l,hl,h with
  | [f0,f1,f2],_,h=>
  simp only [List.map_cons,List.map_nil,List.cons.injEq,and_true] at h
  exact⟨f0,f1,f2,rfl,h.1,h.2.1,h.2.2⟩
 simp only [Prod.mk.injEq] at h0 h1 h2
 rw [hf]
 have p0:=λ(w:World) (a b c:Int)=>jQ w #[.int .i64 a, .int .i64 b, .int .i64 c] 0 a rfl
 have p1:=λ(w:World) (a b c:Int)=>jQ w #[.int .i64 a, .int .i64 b, .int .i64 c] 1 b rfl
 have p2:=λ(w:World) (a b c:Int)=>jQ w #[.int .i64 a, .int .i64 b, .int .i64 c] 2 c rfl
 have ge:=zg2 9998
 cases e0:a==x<;>cases e1:b==y<;>cases e2:c==z<;>simp [Op.eqFields,h0,h1,h2,p0,p1,p2,ge,e0,e1,e2]
