/- Steps. -/
import Derived.Test.YtnhahkiojbanfaaGreatDoorRsFits
import Derived.Test.YtnhahkiojbanfaaGreatDoorRsStep
set_option linter.all false
namespace Go.Proofs.YtnhahkiojbanfaaGreatDoor
open Go.RowKit
set_option maxRecDepth 100000
set_option maxHeartbeats 16000000
theorem zce (w:World) (o1 o2 o3:Obj):Below w.heap.size w (((w.alloc o1).alloc o2).alloc o3)/\(((w.alloc o1).alloc o2).alloc o3).heap[w.heap.size]? =some o1/\(((w.alloc o1).alloc o2).alloc o3).heap[w.heap.size+1]? =some o2/\(((w.alloc o1).alloc o2).alloc o3).heap[w.heap.size+2]? =some o3:=
 ⟨zaG w _ _ _,zaH w _ _ _,zau w _ _ _,zaI w _ _ _⟩
theorem bR (x:zq):(zq.cells x).length=3:=rfl
theorem bU:(Tryz.prog.info? 70).map (λi=>(i.zero,i.size,i.bytes))=some (some (.agg #[.int .i64 0, .int .i64 0, .int .i64 0]),3,24):=by kernel_rfl
theorem zcg (l:List zl) (model:Int):(yK l model).length<=l.length:=by
 unfold yK
 split
 ·exact zg4 _ _
 split
 ·cases l<;>simp
 simp
theorem zp6 (c:zD) (m:zy) (s:zi) (d i:Nat) (h:(s.threads.getD i default).buf.length<=100000):(kY c m s d i).length<=100001:=by
 unfold kY
 have:=zcg (s.threads.getD i default).buf m.model
 rw [List.length_append,List.length_map]
 split<;>simp only [List.length_cons,List.length_nil] <;>omega
theorem zb5 {α:Type} (f:α->List Value) (l:List α) (x:α):zo f (l++ [x])=zo f l++f x:=by simp [zo]
theorem zaO {α:Type} (f:Nat->List α) (i:Nat):(List.range (i+1)).flatMap f=(List.range i).flatMap f++f i:=by rw [List.range_succ];simp
theorem zlM {α:Type} {f:α->List Value} {B:Nat} {e:TypeId} {size:Nat} {w X:World} {a a':Option Addr} {n m c c':Nat} {l:List α} {x:α} {o:Obj} (ho:w.ownsRow B e size (.slice a n c) n (zo f l)) (h1:X.ownsRow B e size (.slice a' m c') m (zo f l++f x))
  (h4:Since (λk=>(Value.slice a n c).ownBlock=some k) (w.alloc o) X) {V:World} (hV:Below V.heap.size V w) (hB:V.heap.size<=B):X.ownsRow B e size (.slice a' m c') m (zo f (l++ [x]))/\Below V.heap.size V X:=by
 refine⟨by rw [zb5];exact h1,hV.trans ((((Since.refl _ w).alloc o).trans h4 (λk hk=> .inl hk)).below hV.size (λk hk=>Nat.le_trans hB (ho.lt k hk).1))⟩
theorem zgB {B:Nat} {e:TypeId} {size n:Nat} {w X:World} {v v' hv:Value} {xs:List Value} {o:Obj} (h:w.ownsRow B e size hv n xs) (hne:∀k,v.ownBlock=some k->hv.ownBlock≠some k) (h4:Since (λk=>v.ownBlock=some k) (w.alloc o) X)
  (h5:∀k,v'.ownBlock=some k->v.ownBlock=some k\/k=(w.alloc o).heap.size):X.ownsRow B e size hv n xs/\∀k,v'.ownBlock=some k->hv.ownBlock≠some k:=by
 refine⟨h4.row (h.alloc o) (λk h1 h2=>hne k h2 h1),λk h1 h2=> ?_⟩
 rcases h5 k h1 with h3|h3
 ·exact hne k h3 h2
 have:=(h.lt k h2).2;simp at h3;omega
def zho (w:World) (l:List zq) (e:Ending) (w':World):Prop:=(∃va vc,e= .returned (.slice va l.length vc)/\w'.ownsRow w.heap.size 70 3 (.slice va l.length vc) l.length (zo zq.cells l))/\Below w.heap.size w w'
theorem zgC {w w':World} {l:List zq} {va:Option Addr} {vn vc:Nat} (h:l.length=vn) (ho:w'.ownsRow w.heap.size 70 3 (.slice va vn vc) vn (zo zq.cells l)) (hb:Below w.heap.size w w'):zho w l (.returned (.slice va vn vc)) w':=by
 subst h;exact⟨⟨va,vc,rfl,ho⟩,hb⟩
theorem zrn (w:World) (c:zD) (cv:Value) (d:Nat) (hc:yS d w cv c.threads) (m:zy) (s:zi) (sv mv:Value) (hs:zX w s sv mv) (hb:∀j,j<s.threads.length->(s.threads.getD j default).buf.length<=100000):
  Calls Tryz.prog 29 #[yQ c cv,qg m,yA s sv mv] w (zho w (xH c m s d)):=by
 obtain⟨ca,cc,rfl, -⟩:=zh.slice hc
 obtain⟨ta,jI,rfl, -⟩:=zh.slice hs.threads
 obtain⟨ma,jw,rfl, -⟩:=zh.slice hs.mem
 obtain⟨fo,hfo⟩:∃fo,fo=yB c m s:=⟨_,rfl⟩
 obtain⟨R,hR⟩:∃R,R=xH c m s d:=⟨_,rfl⟩
 rw [<-hR]
 have hfits:=λW hc hs=>zkV W c (.slice ca c.threads.length cc) d hc m s (.slice ta s.threads.length jI) (.slice ma s.mem.length jw) hs (λj hj=>by have:=hb j hj;omega)
 rw [<-hfo] at hfits
 have hstep:=λW hc hs i=>λ(hf:fo=true) hi=>zl7 W c (.slice ca c.threads.length cc) d hc m s (.slice ta s.threads.length jI) (.slice ma s.mem.length jw) hs (hfo.symm.trans hf) i hi hb
 have bH:fo=true->s.threads.length<=4:=λe=>by
  obtain⟨h1, -,h2,h3, -⟩:=pK (hfo.symm.trans e)
  have h4:=xV h1
  rw [h2];exact h4.2.2.2.2.2
 have hmt:=λi (hi:i<s.threads.length)=>zp6 c m s d i (hb i hi)
 have hR2:R=if fo then(List.range s.threads.length).flatMap (kY c m s d) else [] :=by rw [hR,hfo];rfl
 have hmT:∀i,kY c m s d i=(if (jl c m s i d).isSome then [⟨1,i,0⟩] else [])++(yK (s.threads.getD i default).buf m.model).map λv=>(⟨2,i,v⟩:zq):=λi=>rfl
 obtain⟨MT,hMT⟩:∃MT,MT=kY c m s d:=⟨_,rfl⟩
 rw [<-hMT] at hR2 hmt hmT
 have hT:=hs.threads
 obtain⟨vars,dom,cs⟩:=c
 obtain⟨mod,bnd⟩:=m
 obtain⟨ts,mem,bad⟩:=s
 obtain⟨SS,hSS⟩:∃SS,SS=λi=>jl ⟨vars,dom,cs⟩ ⟨mod,bnd⟩ ⟨ts,mem,bad⟩ i d:=⟨_,rfl⟩
 have zz9:∀i,jl ⟨vars,dom,cs⟩ ⟨mod,bnd⟩ ⟨ts,mem,bad⟩ i d=SS i:=λi=>by rw [hSS]
 simp only [] at hc hs hb bH hfits hstep hR2 hmt hT hmT ⊢
 simp only [zz9] at hstep hmT
 unfold yQ qg yA
 unfold yQ qg yA at hfits
 have hstep2:∀W,yS d W (.slice ca cs.length cc) cs->zX W ⟨ts,mem,bad⟩ (.slice ta ts.length jI) (.slice ma mem.length jw)->∀i,fo=true->i<ts.length->Calls Tryz.prog 49 #[.agg #[.int .i64 vars, .int .i64 dom, .slice ca cs.length cc], .agg #[.int .i64 mod, .int .i64 bnd], .agg #[.slice ta ts.length jI, .slice ma mem.length jw, .bool bad], .int .i64 i] W λe w'=>(∃xa xn xc ya yn yc b',e= .returned (.tuple #[.agg #[.slice xa xn xc, .slice ya yn yc, .bool b'], .bool (SS i).isSome]))/\Below W.heap.size W w':=λW h1 h2 i h3 h4=>
  (hstep W h1 h2 i h3 h4).mono λe w' ⟨⟨xa,xn,xc,ya,yn,yc,s',he,_⟩,hb⟩=>⟨⟨xa,xn,xc,ya,yn,yc,s'.bad,he⟩,hb⟩
 clear hstep
 simp only [] at hfits ⊢
 obtain⟨n,hn⟩:∃n,n=ts.length:=⟨_,rfl⟩
 obtain⟨cn,hcn⟩:∃cn,cn=cs.length:=⟨_,rfl⟩
 obtain⟨mn,hmn⟩:∃mn,mn=mem.length:=⟨_,rfl⟩
 rw [<-hn] at hs hT hb hfits hstep2 bH hR2 hmt ⊢
 rw [<-hmn] at hs hfits hstep2 ⊢
 rw [<-hcn] at hc hfits hstep2 ⊢
 obtain⟨hB,h1,h2,h3⟩:=zce w (.cells #[.int .i64 vars, .int .i64 dom, .slice ca cn cc] 26) (.cells #[.int .i64 mod, .int .i64 bnd] 29) (.cells #[.slice ta n jI, .slice ma mn jw, .bool bad] 42)
 have HB:=qh hB
 have H1:=qh h1
 have H2:=qh h2
 have H3:=qh h3
 have wQ:=qh (zh.below (qD.stays d) hc hB)
 have HSW:=qh (zX.below hs hB)
 have HT:=qh (zh.below wN.stays hT hB)
 have HN:=qh hn
 have HBU:=qh hb
 have ziq:=qh hfits
 have zaP:=qh hstep2
 have HN4:=qh bH
 have HMT:=qh hmt
 have z5N:=qh hmT
 have HRR:=qh hR2
 clear hn hcn hmn hb hfits hstep2 bH hR2 hfo hB h1 h2 h3 hT hc hs hR hMT hSS zz9 hmt hmT
 go_enter Tryz.func29,Tryz.ntmps29
 go_upto_region 1 with fail
 generalize World.alloc (World.alloc (World.alloc w _) _) _=W at HB H1 H2 H3 wQ HSW HT ⊢
 obtain⟨gx,hgx⟩:∃gx,gx=w.heap.size:=⟨_,rfl⟩
 rw [<-hgx] at H1 H2 H3 ⊢
 have xg:Hid (w.heap.size<=W.heap.size):=HB.out.size
 clear hgx
 have qx:Hid (∀y,Below W.heap.size W y->y.cell? ⟨gx,0,none⟩=some (.int .i64 vars)/\y.cell? ⟨gx,1,none⟩=some (.int .i64 dom)/\y.cell? ⟨gx,2,none⟩=some (.slice ca cn cc)/\
   y.cell? ⟨gx+1,0,none⟩=some (.int .i64 mod)/\y.cell? ⟨gx+1,1,none⟩=some (.int .i64 bnd)/\y.cell? ⟨gx+2,0,none⟩=some (.slice ta n jI)/\y.cell? ⟨gx+2,1,none⟩=some (.slice ma mn jw)/\y.cell? ⟨gx+2,2,none⟩=some (.bool bad)):=λy hx=>
  ⟨zk hx _ _ (ze H1.out 0),zk hx _ _ (ze H1.out 1),zk hx _ _ (ze H1.out 2),zk hx _ _ (ze H2.out 0),zk hx _ _ (ze H2.out 1),zk hx _ _ (ze H3.out 0),zk hx _ _ (ze H3.out 1),zk hx _ _ (ze H3.out 2)⟩
 have yG:Hid (∀x,Below W.heap.size W x->Below w.heap.size w x):=λx hx=>HB.out.trans (hx.mono HB.out.size)
 obtain⟨c0,c1,c2,c3,c4,c5,c6,c7⟩:=qx.out W (Below.refl _ _)
 go_wp2_with fail
 refine(ziq.out W wQ.out HSW.out).mono ?_
 rintro e W1 ⟨rfl,hb1⟩
 have HB1:=qh hb1
 clear hb1 ziq c0 c1 c2 c3 c4 c5 c6 c7
 cases fo with
 |false=>
  have hr:R.length=0:=by rw [HRR.out];rfl
  have hr2:zo zq.cells R= [] :=by rw [HRR.out];rfl
  have HR:=qh hr
  have HR2:=qh hr2
  clear hr hr2
  go_wp2_with fail
  go_ret
  exact zgC HR.out (by rw [HR2.out];exact World.ownsRow_nil _ _ _ _) (yG.out _ HB1.out)
 |true=>
 have bH:n<=4:=HN4.out (by trivial)
 have HR:Hid (R=(List.range n).flatMap MT):=by rw [Hid,HRR.out];rfl
 clear HRR HN4
 go_wp2_with fail
 go_loopg [7,8] n (λgg s7 s8 wr=>∃(i:Nat) (oa:Option Addr) (on oc:Nat) (ml:List zq),i<=n/\Hid (gg=n - i)/\s7= .slice oa on oc/\s8= .int .i64 i/\on<=100001*i/\Hid (wr.ownsRow W.heap.size 70 3 (.slice oa on oc) on (zo zq.cells ml))/\Hid (ml.length=on)/\Hid (ml=(List.range i).flatMap MT)/\Hid (Below W.heap.size W wr))
 case atStart=>exact⟨0,none,0,0, [],Nat.zero_le _,rfl,rfl,rfl,by omega,World.ownsRow_nil _ _ _ _,rfl,rfl,HB1.out⟩
 case round=>
 obtain⟨i,oa,on,oc,ml,hi,HG,rfl,rfl,hon,HRO,kV,bq,zL⟩:=hrel
 obtain⟨wo,rfl⟩:∃wo:World,wo=wr:=⟨_,rfl⟩
 obtain⟨c0,c1,c2,c3,c4,c5,c6,c7⟩:=qx.out wo zL.out
 by_cases hlt:i<n
 rotate_left
 ·obtain rfl:n=i:=by omega
  have HR2:Hid (R=ml):=by rw [Hid,HR.out,bq.out]
  go_wp2_with fail
  go_ret
  exact zgC (by rw [HR2.out];exact kV.out) (by rw [HR2.out];exact xq HRO.out xg.out) (yG.out _ zL.out)
 have qN:(i:Int)<(n:Int):=by omega
 obtain⟨tb,yJ,ba,bc,hta, -, -, -, -, -, -, -,x5,hbuf⟩:=qG.part HT.out i (by rw [<-HN.out];exact hlt)
 subst hta
 have hbl:=HBU.out i hlt
 have hmt:=z5N.out i
 have hml:=HMT.out i hlt
 generalize ts.getD i default=t at x5 hbuf hbl hmt
 have z5O:=qh hml
 obtain⟨hh,hhh⟩:∃hh,hh=yK t.buf mod:=⟨_,rfl⟩
 rw [<-hhh] at hmt
 have zzA:=qh hmt
 have hhl:hh.length<=100000:=by have:=zcg t.buf mod;rw [hhh];omega
 obtain⟨bl,kG⟩:∃bl,bl=t.buf.length:=⟨_,rfl⟩
 rw [<-kG] at x5 hbuf
 have zas:Hid (∀y,Below W.heap.size W y->Calls Tryz.prog 50 #[.slice ba bl bc, .int .i64 mod] y λe w'=>(∃va vc,e= .returned (.slice va hh.length vc)/\w'.ownsRow y.heap.size 3 1 (.slice va hh.length vc) hh.length (zo yM hh))/\Below y.heap.size y w'):=λy hy=>
  (zjS y (.slice ba bl bc) t.buf (zZ.below hbuf hy) (by omega) mod).mono λe w' ⟨⟨sv,sn,he,hsn,hi⟩,hb⟩=>by
   rw [<-hhh] at hi hsn
   subst hsn
   obtain⟨a,cp,rfl, -⟩:=xu hi
   exact⟨⟨a,cp,he,hi⟩,hb⟩
 have HX5:Hid (∀y,Below W.heap.size W y->y.cell? ⟨tb,yJ+i*6+5,none⟩=some (.slice ba bl bc)):=λy hy=>zk hy _ _ x5
 obtain⟨hn,hhn⟩:∃hn,hn=hh.length:=⟨_,rfl⟩
 rw [<-hhn] at zas hhl
 have HHN:=qh hhn
 clear hhn hhh kG x5 hbuf hbl hmt hml
 go_upto_if 33 with(go_at_call 49;go_must(refine(zaP.out wo (zh.below (qD.stays d) wQ.out zL.out) (HSW.out.below zL.out) i (by trivial) hlt).mono ?_);rintro e W2 ⟨⟨xa,xn,xc,ya,yn,yc,b',rfl⟩,hb2⟩;have HB2:=qh hb2;clear hb2)
 have hbx:=(Below.refl wo.heap.size wo).trans ((HB2.out).alloc HB2.out.size (.cells #[.slice xa xn xc, .slice ya yn yc, .bool b'] 42))
 have xI:=qh hbx
 clear hbx c0 c1 c2 c3 c4 c5 c6 c7
 generalize World.alloc W2 _=W3 at xI ⊢
 have zu1:=qh (qp HRO.out xI.out)
 have HB3:=qh (zH zL.out xI.out)
 clear HB2 xI HRO zL
 generalize hSS:(SS i).isSome=is at zzA ⊢
 clear hSS
 go_cut [7] (λs7 w'=>∃(pa:Option Addr) (pn pc:Nat) (pl:List zq),s7= .slice pa pn pc/\pn<=on+1/\Hid (w'.ownsRow W.heap.size 70 3 (.slice pa pn pc) pn (zo zq.cells pl))/\Hid (pl.length=pn)/\Hid (pl=ml++(if is then [⟨1,i,0⟩] else []))/\Hid (Below W.heap.size W w'))
 case first=>
  cases is with
  |true=>
   go_wp2_with(at_builtin;go_must(refine zI _ rfl _ _ 32 rfl 70 (.agg #[.int .i64 0, .int .i64 0, .int .i64 0]) 3 24 Tryz.underlying32 bU rfl (by decide) W.heap.size (.slice oa on oc) on (zo zq.cells ml) rfl ((zu1.out).alloc _) ⟨W3.heap.size,0,none⟩ 1 1 (zq.cells ⟨1,i,0⟩) rfl rfl (qY _ (zq.cells ⟨1,i,0⟩) _) (by simp [zq.cells,Value.oneCell']) (by unfold maxLen;omega) (by omega) (by have:=HB3.out.size;simp;omega) ?_);intro ja jc X f1 f2 f3 f4 f5 f6;have HE:=qh (zlM (zu1.out) f1 f4 (HB3.out) (Nat.le_refl _));clear f1 f2 f3 f4 f5 f6)
   go_meet
   case rel=>exact⟨ja,on+1,jc,ml++ [(⟨1,(i:Int),0⟩:zq)],rfl,by omega,HE.out.1,by rw [Hid,List.length_append,kV.out];rfl,by simp [Hid],HE.out.2⟩
  |false=>
  go_wp2_with fail
  go_meet
  case rel=>exact⟨oa,on,oc,ml,rfl,by omega,zu1.out,kV.out,by simp [Hid],HB3.out⟩
 case rest=>
 obtain⟨pa,pn,pc,pl,rfl,hpn,HPR,HPN,jS,vF⟩:=hcut
 obtain⟨W4,rfl⟩:∃W4:World,W4=wc:=⟨_,rfl⟩
 go_upto_region 10 with fail
 have HCX:Hid (∀y,Below W4.heap.size W4 y->y.cell? ⟨gx+2,0,none⟩=some (.slice (some ⟨tb,yJ,none⟩) n jI)/\y.cell? ⟨gx+1,0,none⟩=some (.int .i64 mod)/\y.cell? ⟨tb,yJ+i*6+5,none⟩=some (.slice ba bl bc)):=λy hy=>by
  have hw:=zH vF.out hy
  obtain⟨-, -, -,c3, -,c5, -, -⟩:=qx.out y hw
  exact⟨c5,c3,HX5.out y hw⟩
 have zor:Hid (∀y,Below W4.heap.size W4 y->Calls Tryz.prog 50 #[.slice ba bl bc, .int .i64 mod] y λe w'=>(∃va vc,e= .returned (.slice va hn vc)/\w'.ownsRow y.heap.size 3 1 (.slice va hn vc) hn (zo yM hh))/\Below y.heap.size y w'):=λy hy=>zas.out y (zH vF.out hy)
 refine jf (S:=λx=>Below W4.heap.size W4 x) (Below.refl _ _).drew (λhH=> ?_)
 refine zB 0 HCX.out ?_
 refine zB 1 HCX.out ?_
 refine zB 2 HCX.out ?_
 refine zB 3 HCX.out ?_
 refine zB 4 HCX.out ?_
 refine zB 5 HCX.out ?_
 refine zB 6 HCX.out ?_
 refine zB 7 HCX.out ?_
 refine yC 8 rfl (λK hK=> ?_)
 go_simp
 refine(zor.out W4.drew hH).mono ?_
 rintro e hw8 ⟨⟨va,vc,rfl,hhr⟩,hb⟩
 have HHI:=qh hhr
 have HHG:Hid (W4.heap.size<=W4.drew.heap.size):=(hH).size
 clear hhr
 have zu3:Below W4.heap.size W4 hw8:=zH hH hb
 refine hK.out _ _ zu3 (λ_=> ?_)
 clear hK K hb hH
 refine zB 9 HCX.out ?_
 refine xW ?_
 have zR:=qh zu3
 clear zu3
 go_wp2_with fail
 obtain⟨W5,hW5⟩:∃W5,W5=hw8:=⟨_,rfl⟩
 rw [<-hW5] at zR HHI ⊢
 clear hW5
 have z5P:=qh (qp HPR.out zR.out)
 have gJ:=qh (zH vF.out zR.out)
 have z5Q:Hid (∀x,(Value.slice pa pn pc).ownBlock=some x->(Value.slice va hn vc).ownBlock≠some x):=λx h1 h2=>by have:=(HPR.out.lt x h1).2;have:=(HHI.out.lt x h2).1;have:=HHG.out;omega
 clear zas zor HCX zR vF HPR HHG
 go_loopg [7,12] hn (λgg s7 s12 wr=>∃(k:Nat) (qa:Option Addr) (qn qc:Nat) (ql:List zq),k<=hn/\Hid (gg=hn - k)/\s7= .slice qa qn qc/\s12= .int .i64 k/\qn<=on+1+k/\Hid (wr.ownsRow W.heap.size 70 3 (.slice qa qn qc) qn (zo zq.cells ql))/\Hid (ql.length=qn)/\Hid (ql=pl++(hh.take k).map (λv=>⟨2,i,v⟩))/\Hid (∃B,wr.ownsRow B 3 1 (.slice va hn vc) hn (zo yM hh))/\Hid (∀x,(Value.slice qa qn qc).ownBlock=some x->(Value.slice va hn vc).ownBlock≠some x)/\Hid (Below W.heap.size W wr))
 case atStart=>exact⟨0,pa,pn,pc,pl,Nat.zero_le _,rfl,rfl,rfl,by omega,z5P.out,HPN.out,by simp [Hid],⟨_,HHI.out⟩,z5Q.out,gJ.out⟩
 case round=>
 obtain⟨k,qa,qn,qc,ql,hk,HG2,rfl,rfl,hqn,HQR,HQN,HQL,HHR,kU,yR⟩:=hrel
 by_cases hkl:k<hn
 rotate_left
 ·obtain rfl:hn=k:=by omega
  have hst:ql=(List.range (i+1)).flatMap MT:=by
   rw [zaO,zzA.out, <-bq.out,HQL.out,jS.out,HHN.out,List.take_length,List.append_assoc]
  have z5R:qn<=100001*(i+1):=by
   have h1:=z5O.out
   have h2:=congrArg List.length hst
   rw [zaO,List.length_append, <-bq.out,kV.out,HQN.out] at h2
   omega
  have HST:=qh hst
  clear hst
  go_wp2_with fail
  go_roundg (n - (i+1))
  case measure=>rw [HG.out];omega
  case rel=>exact⟨i+1,qa,qn,qc,ql,by omega,rfl,rfl,by simp,z5R,HQR.out,HQN.out,HST.out,yR.out⟩
 have zpt:(k:Int)<(hn:Int):=by omega
 obtain⟨BH,hhr⟩:=HHR.out
 have hrw:=hhr
 rw [HHN.out] at hrw
 obtain⟨b9,o9,yh, -,e1⟩:=qm.part (gN hrw) k (by rw [<-HHN.out];exact hkl)
 subst yh
 have HRB:=qh hhr
 clear hhr hrw
 have j3:Hid (hh.take (k+1)=hh.take k++ [hh.getD k 0]):=by rw [Hid,List.take_succ_eq_append_getElem (by rw [<-HHN.out];exact hkl),List.getD_eq_getElem?_getD,List.getElem?_eq_getElem (by rw [<-HHN.out];exact hkl)];rfl
 generalize hh.getD k 0=v at e1 j3
 go_wp2_with(at_builtin;go_must(refine zI _ rfl _ _ 32 rfl 70 (.agg #[.int .i64 0, .int .i64 0, .int .i64 0]) 3 24 Tryz.underlying32 bU rfl (by decide) W.heap.size (.slice qa qn qc) qn (zo zq.cells ql) rfl ((HQR.out).alloc _) ⟨wr.heap.size,0,none⟩ 1 1 (zq.cells ⟨2,i,v⟩) rfl rfl (qY _ (zq.cells ⟨2,i,v⟩) _) (by simp [zq.cells,Value.oneCell']) (by unfold maxLen;omega) (by omega) (by have:=yR.out.size;simp;omega) ?_);intro ja jc X f1 f2 f3 f4 f5 f6;have HE:=qh (zlM (HQR.out) f1 f4 (yR.out) (Nat.le_refl _));have HE2:=qh (zgB HRB.out kU.out f4 f5);clear f1 f2 f3 f4 f5 f6)
 go_roundg (hn - (k+1))
 case measure=>rw [HG2.out];omega
 case rel=>exact⟨k+1,ja,qn+1,jc,ql++ [(⟨2,(i:Int),v⟩:zq)],by omega,rfl,rfl,by simp,by omega,HE.out.1,by rw [Hid,List.length_append,HQN.out];rfl,by rw [Hid,HQL.out,j3.out];simp,⟨_,HE2.out.1⟩,HE2.out.2,HE.out.2⟩
