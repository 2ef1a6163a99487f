/- Steps. -/
import Derived.Test.YtmijlmglnnbdjaaGreatDoorUtFits
import Derived.Test.YtmijlmglnnbdjaaGreatDoorUtStep
set_option linter.all false
namespace Go.Proofs.YtmijlmglnnbdjaaGreatDoor
open Go.RowKit
set_option maxRecDepth 100000
set_option maxHeartbeats 16000000
theorem jX (w:World) (d c b:Obj):Below w.heap.size w (((w.alloc d).alloc c).alloc b)/\(((w.alloc d).alloc c).alloc b).heap[w.heap.size]? =some d/\(((w.alloc d).alloc c).alloc b).heap[w.heap.size+1]? =some c/\(((w.alloc d).alloc c).alloc b).heap[w.heap.size+2]? =some b:=
 ⟨zbv w _ _ _,zbw w _ _ _,zaN w _ _ _,zbx w _ _ _⟩
theorem zm7 (x:zw):(zw.cells x).length=3:=rfl
theorem uT:(Tryz.prog.info? 46).map (λi=>(i.zero,i.size,i.bytes))=some (some (.agg #[I4 0,I4 0,I4 0]),3,24):=by kernel_rfl
theorem zcF (l:List zq) (b:Int):(yX l b).length<=l.length:=by
 unfold yX;split
 ·exact zhf _ _
 split
 ·cases l<;>simp
 simp
theorem zq7 (c:zG) (m:zC) (s:zo) (d i:Nat) (h:(s.threads.getD i default).buf.length<=100000):(wE c m s d i).length<=100001:=by
 unfold wE;have:=zcF (s.threads.getD i default).buf m.model
 rw [List.length_append,List.length_map];split<;>simp only [List.length_cons,List.length_nil] <;>omega
theorem zgp {α:Type} (f:α->List Value) (l:List α) (x:α):zx f (l++ [x])=zx f l++f x:=by simp [zx]
theorem zb1 {α:Type} (f:Nat->List α) (i:Nat):(List.range (i+1)).flatMap f=(List.range i).flatMap f++f i:=by rw [List.range_succ];simp
theorem zm8 {α:Type} {f:α->List Value} {B:Nat} {e:TypeId} {size:Nat} {w X:World} {a i:Option Addr} {n m c h:Nat} {l:List α} {x:α} {o:Obj} (j:w.ownsRow B e size (.slice a n c) n (zx f l)) (t:X.ownsRow B e size (.slice i m h) m (zx f l++f x))
  (q:Since (λk=>(Value.slice a n c).ownBlock=some k) (w.alloc o) X) {V:World} (d:Below V.heap.size V w) (p:V.heap.size<=B):X.ownsRow B e size (.slice i m h) m (zx f (l++ [x]))/\Below V.heap.size V X:=by
 refine⟨by rw [zgp];exact t,d.trans ((((Since.refl _ w).alloc o).trans q (λk b=> .inl b)).below d.size (λk b=>Nat.le_trans p (j.lt k b).1))⟩
theorem zhs {B:Nat} {e:TypeId} {size n:Nat} {w X:World} {v v' c:Value} {xs:List Value} {o:Obj} (h:w.ownsRow B e size c n xs) (b:∀k,v.ownBlock=some k->c.ownBlock≠some k) (m:Since (λk=>v.ownBlock=some k) (w.alloc o) X)
  (j:∀k,v'.ownBlock=some k->v.ownBlock=some k\/k=(w.alloc o).heap.size):X.ownsRow B e size c n xs/\∀k,v'.ownBlock=some k->c.ownBlock≠some k:=by
 refine⟨m.row (h.alloc o) (λk i d=>b k d i),λk i d=> ?_⟩
 rcases j k i with f|f
 ·exact b k f d
 have:=(h.lt k d).2;simp at f;omega
def zeX (w:World) (l:List zw) (e:Ending) (w':World):Prop:=(∃va vc,e= .returned (.slice va l.length vc)/\w'.ownsRow w.heap.size 46 3 (.slice va l.length vc) l.length (zx zw.cells l))/\Below w.heap.size w w'
theorem zbW {w c:World} {l:List zw} {f:Option Addr} {b d:Nat} (h:l.length=b) (i:c.ownsRow w.heap.size 46 3 (.slice f b d) b (zx zw.cells l)) (j:Below w.heap.size w c):zeX w l (.returned (.slice f b d)) c:=by
 subst h;exact⟨⟨f,d,rfl,i⟩,j⟩
theorem ztr (w:World) (c:zG) (cv:Value) (d:Nat) (hc:yP d w cv c.threads) (m:zC) (s:zo) (sv mv:Value) (L:yD w s sv mv) (C:∀j,j<s.threads.length->(s.threads.getD j default).buf.length<=100000):
  Calls Tryz.prog 31 #[yj c cv,yE m,yB s sv mv] w (zeX w (xL c m s d)):=by
 obtain⟨ca,cc,rfl, -⟩:=zh.slice hc;obtain⟨ta,j6,rfl, -⟩:=zh.slice L.threads;obtain⟨ma,vU,rfl, -⟩:=zh.slice L.mem;obtain⟨fo,N⟩:=qxE (yJ c m s);obtain⟨R,hR⟩:=qxE (xL c m s d);rw [<-hR];have b:=λW hc L=>zm6 W c (.slice ca c.threads.length cc) d hc m s (.slice ta s.threads.length j6) (.slice ma s.mem.length vU) L (λj hj=>by have:=C j hj;omega)
 rw [<-N] at b;have u:=λW hc L i=>λ(hf:fo=true) hi=>zmn W c (.slice ca c.threads.length cc) d hc m s (.slice ta s.threads.length j6) (.slice ma s.mem.length vU) L (N.symm.trans hf) i hi C
 have pF:fo=true->s.threads.length<=4:=λe=>by
  obtain⟨h1, -,V,h3, -⟩:=zam (N.symm.trans e);have h4:=xY h1;rw [V];exact h4.2.2.2.2.2
 have p:=λi (hi:i<s.threads.length)=>zq7 c m s d i (C i hi);have O:R=if fo then(List.range s.threads.length).flatMap (wE c m s d) else [] :=by rw [hR,N];rfl
 have M:∀i,wE c m s d i=(if (kQ c m s i d).isSome then [⟨1,i,0⟩] else [])++(yX (s.threads.getD i default).buf m.model).map λv=>(⟨2,i,v⟩:zw):=λi=>rfl;obtain⟨MT,hMT⟩:=qxE (wE c m s d);rw [<-hMT] at O p M;have hT:=L.threads;obtain⟨vars,dom,cs⟩:=c;obtain⟨h,P⟩:=m;obtain⟨ts,mem,bad⟩:=s;obtain⟨SS,hSS⟩:∃SS,SS=λi=>kQ ⟨vars,dom,cs⟩ ⟨h,P⟩ ⟨ts,mem,bad⟩ i d:=⟨_,rfl⟩;have z3a:∀i,kQ ⟨vars,dom,cs⟩ ⟨h,P⟩ ⟨ts,mem,bad⟩ i d=SS i:=λi=>by rw [hSS]
 simp only [] at hc L C pF b u O p hT M ⊢;simp only [z3a] at u M;unfold yj yE yB;unfold yj yE yB at b
 have f:∀W,yP d W (.slice ca cs.length cc) cs->yD W ⟨ts,mem,bad⟩ (.slice ta ts.length j6) (.slice ma mem.length vU)->∀i,fo=true->i<ts.length->Calls Tryz.prog 57 #[.agg #[I4 vars,I4 dom, .slice ca cs.length cc], .agg #[I4 h,I4 P], .agg #[.slice ta ts.length j6, .slice ma mem.length vU, .bool bad],I4 i] W λe H=>(∃xa xn xc ya yn yc b',e= .returned (.tuple #[.agg #[.slice xa xn xc, .slice ya yn yc, .bool b'], .bool (SS i).isSome]))/\Below W.heap.size W H:=λW h1 V i h3 h4=>
  (u W h1 V i h3 h4).mono λe H ⟨⟨xa,xn,xc,ya,yn,yc,s',he,_⟩,C⟩=>⟨⟨xa,xn,xc,ya,yn,yc,s'.bad,he⟩,C⟩
 clear u;simp only [] at b ⊢;obtain⟨n,z⟩:=qxE ts.length;obtain⟨cn,hcn⟩:=qxE cs.length;obtain⟨mn,hmn⟩:=qxE mem.length;rw [<-z] at L hT C b f pF O p ⊢;rw [<-hmn] at L b f ⊢;rw [<-hcn] at hc b f ⊢;obtain⟨hB,h1,V,h3⟩:=jX w (.cells #[I4 vars,I4 dom, .slice ca cn cc] 25) (.cells #[I4 h,I4 P] 30) (.cells #[.slice ta n j6, .slice ma mn vU, .bool bad] 61);have HB:=qh hB;have H1:=qh h1;have H2:=qh V;have H3:=qh h3;have HCS:=qh (zh.below (xV.stays d) hc hB);have HSW:=qh (yD.below L hB);have HT:=qh (zh.below uJ.stays hT hB);have HN:=qh z;have HBU:=qh C;have zb2:=qh b;have bq:=qh f;have HN4:=qh pF
 have HMT:=qh p;have zAo:=qh M;have HRR:=qh O;clear z hcn hmn C b f pF O N hB h1 V h3 hT hc L hR hMT hSS z3a p M;go_enter Tryz.func31,Tryz.ntmps31
 go_upto_region 1 with fail
 generalize World.alloc (World.alloc (World.alloc w _) _) _=W at HB H1 H2 H3 HCS HSW HT ⊢;obtain⟨Y,hgx⟩:=qxE w.heap.size;rw [<-hgx] at H1 H2 H3 ⊢;have xG:J2 (w.heap.size<=W.heap.size):=HB.o.size;clear hgx
 have qy:J2 (∀y,Below W.heap.size W y->K3 y Y 0 (I4 vars)/\K3 y Y 1 (I4 dom)/\K3 y Y 2 (.slice ca cn cc)/\
   K3 y (Y+1) 0 (I4 h)/\K3 y (Y+1) 1 (I4 P)/\K3 y (Y+2) 0 (.slice ta n j6)/\K3 y (Y+2) 1 (.slice ma mn vU)/\K3 y (Y+2) 2 (.bool bad)):=λy hx=>
  ⟨zl hx _ _ (ze H1.o 0),zl hx _ _ (ze H1.o 1),zl hx _ _ (ze H1.o 2),zl hx _ _ (ze H2.o 0),zl hx _ _ (ze H2.o 1),zl hx _ _ (ze H3.o 0),zl hx _ _ (ze H3.o 1),zl hx _ _ (ze H3.o 2)⟩
 have yV:J2 (∀x,Below W.heap.size W x->Below w.heap.size w x):=λx hx=>HB.o.trans (hx.mono HB.o.size);obtain⟨c0,c1,c2,c3,c4,c5,c6,c7⟩:=qy.o W (Below.refl _ _);go_wp2_with fail
 refine(zb2.o W HCS.o HSW.o).mono ?_
 rintro e W1 ⟨rfl,hb1⟩;have HB1:=qh hb1;clear hb1 zb2 c0 c1 c2 c3 c4 c5 c6 c7;cases fo with
 |false=>
  have hr:R.length=0:=by rw [HRR.o];rfl
  have hr2:zx zw.cells R= [] :=by rw [HRR.o];rfl
  have HR:=qh hr;have HR2:=qh hr2;clear hr hr2;go_wp2_with fail
  go_ret;exact zbW HR.o (by rw [HR2.o];exact World.ownsRow_nil _ _ _ _) (yV.o _ HB1.o)
 |true=>
 have pF:n<=4:=HN4.o (by trivial);have HR:J2 (R=(List.range n).flatMap MT):=by rw [J2,HRR.o];rfl
 clear HRR HN4;go_wp2_with fail
 go_loopg [7,8] n (λgg s7 s8 wr=>∃(i:Nat) (oa:Option Addr) (J oc:Nat) (ml:List zw),i<=n/\J2 (gg=n - i)/\s7= .slice oa J oc/\s8=I4 i/\J<=100001*i/\J2 (wr.ownsRow W.heap.size 46 3 (.slice oa J oc) J (zx zw.cells ml))/\J2 (ml.length=J)/\J2 (ml=(List.range i).flatMap MT)/\J2 (Below W.heap.size W wr))
 case atStart=>exact⟨0,none,0,0, [],Nat.zero_le _,rfl,rfl,rfl,by omega,World.ownsRow_nil _ _ _ _,rfl,rfl,HB1.o⟩
 case round=>
 obtain⟨i,oa,J,oc,ml,hi,HG,rfl,rfl,hon,HRO,wJ,HML,zZ⟩:=hrel;obtain⟨wo,rfl⟩:=qxE (wr:World);obtain⟨c0,c1,c2,c3,c4,c5,c6,c7⟩:=qy.o wo zZ.o;by_cases hlt:i<n
 rotate_left
 ·obtain rfl:n=i:=by omega
  have HR2:J2 (R=ml):=by rw [J2,HR.o,HML.o]
  go_wp2_with fail
  go_ret;exact zbW (by rw [HR2.o];exact wJ.o) (by rw [HR2.o];exact xO HRO.o xG.o) (yV.o _ zZ.o)
 have vC:(i:Int)<(n:Int):=by omega
 obtain⟨tb,yT,ba,bc,hta, -, -, -, -, -, -, -,x5,A⟩:=qR.part HT.o i (by rw [<-HN.o];exact hlt);subst hta;have hbl:=HBU.o i hlt;have p:=zAo.o i;have hml:=HMT.o i hlt;generalize ts.getD i default=t at x5 A hbl p;have zAp:=qh hml;obtain⟨E,hhh⟩:=qxE (yX t.buf h);rw [<-hhh] at p;have z3b:=qh p;have hhl:E.length<=100000:=by have:=zcF t.buf h;rw [hhh];omega
 obtain⟨bl,wz⟩:=qxE t.buf.length;rw [<-wz] at x5 A
 have zaG:J2 (∀y,Below W.heap.size W y->Calls Tryz.prog 58 #[.slice ba bl bc,I4 h] y λe H=>(∃Q Z,e= .returned (.slice Q E.length Z)/\H.ownsRow y.heap.size 3 1 (.slice Q E.length Z) E.length (zx xI E))/\Below y.heap.size y H):=λy hy=>
  (zkE y (.slice ba bl bc) t.buf (zX.below A hy) (by omega) h).mono λe H ⟨⟨sv,sn,he,hsn,hi⟩,C⟩=>by
   rw [<-hhh] at hi hsn;subst hsn;obtain⟨a,cp,rfl, -⟩:=xS hi;exact⟨⟨a,cp,he,hi⟩,C⟩
 have gK:J2 (∀y,Below W.heap.size W y->K3 y tb (yT+i*6+5) (.slice ba bl bc)):=λy hy=>zl hy _ _ x5;obtain⟨z,hhn⟩:=qxE E.length;rw [<-hhn] at zaG hhl;have U:=qh hhn;clear hhn hhh wz x5 A hbl p hml;go_upto_if 33 with(go_at_call 57;go_must(refine(bq.o wo (zh.below (xV.stays d) HCS.o zZ.o) (HSW.o.below zZ.o) i (by trivial) hlt).mono ?_);rintro e W2 ⟨⟨xa,xn,xc,ya,yn,yc,b',rfl⟩,hb2⟩;have HB2:=qh hb2;clear hb2)
 have hbx:=(Below.refl wo.heap.size wo).trans ((HB2.o).alloc HB2.o.size (.cells #[.slice xa xn xc, .slice ya yn yc, .bool b'] 61));have yh:=qh hbx;clear hbx c0 c1 c2 c3 c4 c5 c6 c7;generalize World.alloc W2 _=W3 at yh ⊢;have zw0:=qh (xD HRO.o yh.o);have HB3:=qh (zy zZ.o yh.o);clear HB2 yh HRO zZ;generalize hSS:(SS i).isSome=is at z3b ⊢;clear hSS
 go_cut [7] (λs7 H=>∃(pa:Option Addr) (pn pc:Nat) (pl:List zw),s7= .slice pa pn pc/\pn<=J+1/\J2 (H.ownsRow W.heap.size 46 3 (.slice pa pn pc) pn (zx zw.cells pl))/\J2 (pl.length=pn)/\J2 (pl=ml++(if is then [⟨1,i,0⟩] else []))/\J2 (Below W.heap.size W H))
 case first=>
  cases is with
  |true=>
   go_wp2_with(at_builtin;go_must(refine zO _ rfl _ _ 40 rfl 46 (.agg #[I4 0,I4 0,I4 0]) 3 24 Tryz.underlying40 uT rfl (by decide) W.heap.size (.slice oa J oc) J (zx zw.cells ml) rfl ((zw0.o).alloc _) ⟨W3.heap.size,0,none⟩ 1 1 (zw.cells ⟨1,i,0⟩) rfl rfl (j4 _ (zw.cells ⟨1,i,0⟩) _) (by simp [zw.cells,Value.oneCell']) (by unfold maxLen;omega) (by omega) (by have:=HB3.o.size;simp;omega) ?_);intro ja jc X f1 f2 f3 f4 f5 f6;have HE:=qh (zm8 (zw0.o) f1 f4 (HB3.o) (Nat.le_refl _));clear f1 f2 f3 f4 f5 f6);go_meet
   case rel=>exact⟨ja,J+1,jc,ml++ [(⟨1,(i:Int),0⟩:zw)],rfl,by omega,HE.o.1,by rw [J2,List.length_append,wJ.o];rfl,by simp [J2],HE.o.2⟩
  |false=>
  go_wp2_with fail
  go_meet
  case rel=>exact⟨oa,J,oc,ml,rfl,by omega,zw0.o,wJ.o,by simp [J2],HB3.o⟩
 case rest=>
 obtain⟨pa,pn,pc,pl,rfl,hpn,HPR,HPN,kP,qZ⟩:=hcut;obtain⟨T,rfl⟩:=qxE (wc:World);go_upto_region 10 with fail
 have q:J2 (∀y,Below T.heap.size T y->K3 y (Y+2) 0 (.slice (some ⟨tb,yT,none⟩) n j6)/\K3 y (Y+1) 0 (I4 h)/\K3 y tb (yT+i*6+5) (.slice ba bl bc)):=λy hy=>by
  have hw:=zy qZ.o hy;obtain⟨-, -, -,c3, -,c5, -, -⟩:=qy.o y hw;exact⟨c5,c3,gK.o y hw⟩
 have zpl:J2 (∀y,Below T.heap.size T y->Calls Tryz.prog 58 #[.slice ba bl bc,I4 h] y λe H=>(∃Q Z,e= .returned (.slice Q z Z)/\H.ownsRow y.heap.size 3 1 (.slice Q z Z) z (zx xI E))/\Below y.heap.size y H):=λy hy=>zaG.o y (zy qZ.o hy);refine qz (S:=λx=>Below T.heap.size T x) (Below.refl _ _).drew (λhH=> ?_)
 refine zi 0 q.o ?_
 refine zi 1 q.o ?_
 refine zi 2 q.o ?_
 refine zi 3 q.o ?_
 refine zi 4 q.o ?_
 refine zi 5 q.o ?_
 refine zi 6 q.o ?_
 refine zi 7 q.o ?_
 refine yA 8 rfl (λK hK=> ?_)
 go_simp
 refine(zpl.o T.drew hH).mono ?_
 rintro e hw8 ⟨⟨Q,Z,rfl,D⟩,C⟩;have HHI:=qh D;have HHG:J2 (T.heap.size<=T.drew.heap.size):=(hH).size;clear D;have zw1:Below T.heap.size T hw8:=zy hH C;refine hK.out _ _ zw1 (λ_=> ?_)
 clear hK K C hH;refine zi 9 q.o ?_
 refine xC ?_
 have yG:=qh zw1;clear zw1;go_wp2_with fail
 obtain⟨W5,hW5⟩:=qxE hw8;rw [<-hW5] at yG HHI ⊢;clear hW5;have zAq:=qh (xD HPR.o yG.o);have HB5:=qh (zy qZ.o yG.o);have zAr:J2 (∀x,(Value.slice pa pn pc).ownBlock=some x->(Value.slice Q z Z).ownBlock≠some x):=λx h1 V=>by have:=(HPR.o.lt x h1).2;have:=(HHI.o.lt x V).1;have:=HHG.o;omega
 clear zaG zpl q yG qZ HPR HHG;go_loopg [7,12] z (λgg s7 s12 wr=>∃(k:Nat) (qa:Option Addr) (I qc:Nat) (ql:List zw),k<=z/\J2 (gg=z - k)/\s7= .slice qa I qc/\s12=I4 k/\I<=J+1+k/\J2 (wr.ownsRow W.heap.size 46 3 (.slice qa I qc) I (zx zw.cells ql))/\J2 (ql.length=I)/\J2 (ql=pl++(E.take k).map (λv=>⟨2,i,v⟩))/\J2 (∃B,wr.ownsRow B 3 1 (.slice Q z Z) z (zx xI E))/\J2 (∀x,(Value.slice qa I qc).ownBlock=some x->(Value.slice Q z Z).ownBlock≠some x)/\J2 (Below W.heap.size W wr))
 case atStart=>exact⟨0,pa,pn,pc,pl,Nat.zero_le _,rfl,rfl,rfl,by omega,zAq.o,HPN.o,by simp [J2],⟨_,HHI.o⟩,zAr.o,HB5.o⟩
 case round=>
 obtain⟨k,qa,I,qc,ql,hk,HG2,rfl,rfl,hqn,HQR,HQN,HQL,HHR,uI,yK⟩:=hrel;by_cases hkl:k<z
 rotate_left
 ·obtain rfl:z=k:=by omega
  have hst:ql=(List.range (i+1)).flatMap MT:=by
   rw [zb1,z3b.o, <-HML.o,HQL.o,kP.o,U.o,List.take_length,List.append_assoc]
  have zAs:I<=100001*(i+1):=by
   have h1:=zAp.o;have V:=congrArg List.length hst;rw [zb1,List.length_append, <-HML.o,wJ.o,HQN.o] at V;omega
  have HST:=qh hst;clear hst;go_wp2_with fail
  go_roundg (n - (i+1))
  case measure=>rw [HG.o];omega
  case rel=>exact⟨i+1,qa,I,qc,ql,by omega,rfl,rfl,by simp,zAs,HQR.o,HQN.o,HST.o,yK.o⟩
 have z3e:(k:Int)<(z:Int):=by omega
 obtain⟨BH,D⟩:=HHR.o;have hrw:=D;rw [U.o] at hrw;obtain⟨b9,o9,yI, -,e1⟩:=qx.part (zal hrw) k (by rw [<-U.o];exact hkl);subst yI;have HRB:=qh D;clear D hrw;have gF:J2 (E.take (k+1)=E.take k++ [E.getD k 0]):=by rw [J2,List.take_succ_eq_append_getElem (by rw [<-U.o];exact hkl),List.getD_eq_getElem?_getD,List.getElem?_eq_getElem (by rw [<-U.o];exact hkl)];rfl
 generalize E.getD k 0=v at e1 gF;go_wp2_with(at_builtin;go_must(refine zO _ rfl _ _ 40 rfl 46 (.agg #[I4 0,I4 0,I4 0]) 3 24 Tryz.underlying40 uT rfl (by decide) W.heap.size (.slice qa I qc) I (zx zw.cells ql) rfl ((HQR.o).alloc _) ⟨wr.heap.size,0,none⟩ 1 1 (zw.cells ⟨2,i,v⟩) rfl rfl (j4 _ (zw.cells ⟨2,i,v⟩) _) (by simp [zw.cells,Value.oneCell']) (by unfold maxLen;omega) (by omega) (by have:=yK.o.size;simp;omega) ?_);intro ja jc X f1 f2 f3 f4 f5 f6;have HE:=qh (zm8 (HQR.o) f1 f4 (yK.o) (Nat.le_refl _));have HE2:=qh (zhs HRB.o uI.o f4 f5);clear f1 f2 f3 f4 f5 f6);go_roundg (z - (k+1))
 case measure=>rw [HG2.o];omega
 case rel=>exact⟨k+1,ja,I+1,jc,ql++ [(⟨2,(i:Int),v⟩:zw)],by omega,rfl,rfl,by simp,by omega,HE.o.1,by rw [J2,List.length_append,HQN.o];rfl,by rw [J2,HQL.o,gF.o];simp,⟨_,HE2.o.1⟩,HE2.o.2,HE.o.2⟩
end Go.Proofs.YtmijlmglnnbdjaaGreatDoor
namespace Go.Proofs.YtmijlmglnnbdjaaGreatDoor
open Go.RowKit
set_option maxRecDepth 100000
set_option maxHeartbeats 16000000
theorem zcG {w:World} {B C:Nat} {e i:TypeId} {size b:Nat} {v v':Value} {n j:Nat} {xs c:List Value} (h:w.ownsRow B e size v n xs) (p:w.ownsRow C i b v' j c) (d:e≠i):∀k,v.ownBlock=some k->v'.ownBlock≠some k:=by
 intro k o f;rcases p.2 with⟨rfl, -⟩|⟨g,t,q,rfl, -,m, -⟩
 ·simp [Value.ownBlock] at f
 simp only [Value.ownBlock,Option.some.injEq] at f;subst f;exact bA h o m d
structure qA {α:Type} [Inhabited α] (F:Nat->Prop) (X:World) (R:World->α->List Value->Prop) (size B:Nat) (e:TypeId) (v:Value) (l:List α) (css:List (List Value)):Prop where
 len:css.length=l.length
 part:∀j,j<l.length->(css.getD j []).length=size/\yL F X (λy=>R y (l.getD j default) (css.getD j []))
 row:X.ownsRow B e size v l.length css.flatten
section
variable {α:Type} [Inhabited α] {F F' G:Nat->Prop} {X X':World} {R:World->α->List Value->Prop} {size B:Nat} {e:TypeId} {v v':Value} {l:List α} {css:List (List Value)}
theorem qA.nil (F:Nat->Prop) (X:World) (R:World->α->List Value->Prop) (size B:Nat) (e:TypeId):qA F X R size B e (N7) [] [] :=⟨rfl,λj b=>by simp at b,World.ownsRow_nil _ _ _ _⟩
theorem qA.step (h:qA F X R size B e v l css) (b:Since G X X') (d:∀k,v.ownBlock=some k->¬G k) (f:∀k,G k->F k\/X.heap.size<=k) (i:∀k,F' k->F k\/X.heap.size<=k):qA F' X' R size B e v l css:=
 ⟨h.len,λj c=>⟨(h.part j c).1,(h.part j c).2.step b f i⟩,b.row h.row d⟩
theorem zdk {β:Type} {l:List β} {x d:β} {j:Nat} (b:j<l.length):(l++ [x]).getD j d=l.getD j d:=by
 simp only [List.getD_eq_getElem?_getD,List.getElem?_append_left b]
theorem zdl {β:Type} {l:List β} {x d:β} :(l++ [x]).getD l.length d=x:=by
 simp [List.getD_eq_getElem?_getD]
theorem qA.push (h:qA F X R size B e v l css) (c:Since G X X') (f:∀k,G k->F k\/X.heap.size<=k) (i:∀k,F' k->F k\/X.heap.size<=k) {x:α} {cs:List Value} (hx:yL F X (λy=>R y x cs)) (m:cs.length=size)
  (n:X'.ownsRow B e size v' (l.length+1) (css.flatten++cs)):qA F' X' R size B e v' (l++ [x]) (css++ [cs]):=by
 refine⟨by simp [h.len],λj d=> ?_, ?_⟩
 ·rw [List.length_append] at d;simp only [List.length_cons,List.length_nil] at d;by_cases e:j=l.length
  ·subst e;rw [zdl,show l.length=css.length from h.len.symm,zdl];exact⟨m,hx.step c f i⟩
  have b:j<l.length:=by omega
  rw [zdk b,zdk (by rw [h.len];exact b)];exact⟨(h.part j b).1,(h.part j b).2.step c f i⟩
 rw [List.length_append,List.flatten_append];simpa using n
theorem ziP {css:List (List Value)} {size:Nat} :∀ {j i:Nat},(∀j,j<css.length->(css.getD j []).length=size)->j<css.length->i<size->css.flatten[j*size+i]? =(css.getD j [])[i]? :=by
 induction css with
 |nil=>intro j i _ b;simp at b
 |cons c css ih=>
 intro j i h b f;have d:=h 0 (by simp);simp only [List.getD_cons_zero] at d;cases j with
 |zero=>rw [List.flatten_cons,Nat.zero_mul,Nat.zero_add,List.getElem?_append_left (by rw [d];exact f)];rfl
 |succ j=>
 rw [List.flatten_cons,List.getElem?_append_right (by rw [d,Nat.add_mul];omega),d,show(j+1)*size+i - size=j*size+i by rw [Nat.add_mul];omega]
 exact ih (λj b=>by have:=h (j+1) (by simpa using b);simpa using this) (by simpa using b) f
theorem qA.slice (h:qA F X R size B e v l css):zh R size X v l:=
 zh.jB h.row λj b=>⟨css.getD j [],(h.part j b).1,λi c=>ziP (λj b=>(h.part j (by rw [<-h.len];exact b)).1) (by rw [h.len];exact b) c,(h.part j b).2.now⟩
end
def z3f (w:World) (l:List zw) (cs:List Value):Prop:=∃v,cs= [v] /\qB w v l
def z7g (w:World) (l:List Int) (cs:List Value):Prop:=∃v,cs= [v] /\qx w v l
theorem zeY {w:World} {B:Nat} {sv:Value} {l:List zw} (h:w.ownsRow B 46 3 sv l.length (zx zw.cells l)):qB w sv l:=zh.of_flat (R:=zdC) (f:=zw.cells) zm7 (λ_ _=>rfl) h
structure ztv where
 states:List zo
 moves:List (List zw)
 next:List (List Int)
instance:Inhabited ztv:=⟨⟨[], [], []⟩⟩
section
variable {W X X1:World} {g r:Nat} {sv mv nv xv sv':Value} {sl:List zo} {ml:List (List zw)} {nl:List (List Int)} {xl:List Int} {sc mc nc:List (List Value)}
theorem ztw {B e size n g:Nat} {v:Value} {xs:List Value} {c:Array Value} {t:TypeId} {f:Nat × Nat} (h:X.ownsRow B e size v n xs) (d:X.heap[g]? =some (.cells c t f)) (b:e≠t):∀k,v.ownBlock=some k->k≠g:=λk i e=>by
 subst e;exact bA h i d b
theorem zw2 {F:Nat->Prop} {B:Nat} {s:zo} {tv mv:Value} {bs:List Value} (h:OwnAt B X tv mv s.threads s.mem bs) (c:∀k,F k->k<B):yL F X (λy=>qY y s [tv,mv, .bool s.bad]):=λy d=>
 ⟨tv,mv,rfl,(h.since d (λk b e=>by have:=(h.row.lt k b).1;have:=c k e;omega) (λk b e=>by have:=(h.mem.lt k b).1;have:=c k e;omega) (λj f k b e=>by have:=((h.buf j f).lt k b).1;have:=c k e;omega)).state s.bad⟩
end
end Go.Proofs.YtmijlmglnnbdjaaGreatDoor
namespace Go.Proofs.YtmijlmglnnbdjaaGreatDoor
open Go.RowKit
set_option maxRecDepth 100000
set_option maxHeartbeats 16000000
def kH (b:Nat) (s:zo):Prop:=∀j,j<s.threads.length->(s.threads.getD j default).buf.length<=b
theorem zkm {α:Type} {p:α->Bool} {l:List α} {b:Nat} [Inhabited α] (h:∀k,k<l.length->p (l.getD k default)=true->(l.take k).countP p<b):l.countP p<=b:=by
 have c:∀k,k<=l.length->(l.take k).countP p<=b:=by
  intro k;induction k with
  |zero=>intro _;simp
  |succ k ih=>
  intro f;rw [List.take_succ_eq_append_getElem (by omega),List.countP_append];have i:=ih (by omega);have d:=h k (by omega);rw [List.getD_eq_getElem?_getD,List.getElem?_eq_getElem (by omega)] at d;simp only [Option.getD_some] at d;by_cases e:p l[k] =true
  ·have:=d e
   simp only [List.countP_cons,List.countP_nil,e,if_true];omega
  simp only [List.countP_cons,List.countP_nil,e];simp;omega
 have:=c l.length (Nat.le_refl _)
 rwa [List.take_length] at this
theorem zou {l:List zq} (h:∀x∈l,0<=x.var/\x.var<4):l.length=l.countP (λx=>decide (x.var=0))+l.countP (λx=>decide (x.var=1))+l.countP (λx=>decide (x.var=2))+l.countP (λx=>decide (x.var=3)):=by
 induction l with
 |nil=>rfl
 |cons x l ih=>
 have c:=ih (λy b=>h y (List.mem_cons_of_mem _ b));have d:=h x (List.mem_cons_self ..);simp only [List.length_cons,List.countP_cons,c];have:x.var=0\/x.var=1\/x.var=2\/x.var=3:=by omega
 rcases this with e|e|e|e<;>simp [e] <;>omega
theorem zw3 {c:zG} {m:zC} {l:List zq} (n:c.vars<=4) (o:m.bound<=8) (h:∀k,k<l.length->qF c m l k=true):l.length<=32:=by
 have j:∀k,k<l.length->qM (l.take k) m (l.getD k default)=true/\0<=(l.getD k default).var/\(l.getD k default).var<4:=λk d=>by
  have:=h k d
  unfold qF at this;simp only [Bool.and_eq_true,decide_eq_true_eq] at this;exact⟨this.1.1.1.1,this.1.1.1.2,by have:=this.1.1.2;omega⟩
 have hx:∀x∈l,0<=x.var/\x.var<4:=λx hx=>by
  obtain⟨k,d,e⟩:=List.getElem_of_mem hx;have:=j k d
  rw [List.getD_eq_getElem?_getD,List.getElem?_eq_getElem d] at this;rw [<-e];exact this.2
 have b:∀v:Int,l.countP (λx=>decide (x.var=v))<=8:=λv=>zkm λk d f=>by
  have i:=(j k d).1;have f:(l.getD k default).var=v:=by simpa using f
  unfold qM at i;simp only [Bool.and_eq_true,Bool.or_eq_true,decide_eq_true_eq] at i;obtain⟨-,q⟩:=i
  have p:(l.take k).countP (λx=>decide (x.var=v))<=zeZ (l.take k) m (l.getD k default).var:=by
   unfold zeZ;refine List.countP_mono_left (λx _ hx=> ?_)
   rw [f];simp only [Bool.or_eq_true];exact .inr hx
  omega
 rw [zou hx];have:=b 0;have:=b 1;have:=b 2;have:=b 3
 omega
theorem zdD {c:zG} {m:zC} {s:zo} (h:yJ c m s=true):kH 32 s:=by
 intro j o;have q:=h;unfold yJ at h;simp only [Bool.and_eq_true,decide_eq_true_eq] at h;obtain⟨⟨⟨⟨b, -⟩, -⟩, -⟩,i⟩:=h;unfold jU at b;simp only [Bool.and_eq_true,decide_eq_true_eq] at b;have p:=xY b.1.1.1.1;rw [List.all_eq_true] at i;have d:=i j (List.mem_range.2 o);unfold vE at d;simp only [Bool.and_eq_true,decide_eq_true_eq] at d;have f:=d.2;rw [List.all_eq_true] at f;exact zw3 p.2.1 b.2 (λk n=>f k (List.mem_range.2 n))
theorem ztx {c:zG} {m:zC} {s:zo} {t:zD} {x:yg} {d:Nat} {r:zD × List Int × Bool} (h:stepT c m s t x d=some r):r.1.buf.length<=t.buf.length+1:=by
 have f:∀b m e,(jQ b m e).length<=b.length+1:=λb m e=>by unfold jQ;split<;>simp
 by_cases h1:x.op=1
 ·rw [zan h1] at h;cases h;simp only [];omega
 by_cases h2:x.op=2
 ·by_cases hm:m.model=0
  ·rw [pJ h2 hm] at h;cases h;simp only [];omega
  by_cases hq:qM t.buf m ⟨x.var,yF t.regs c.domain d x.a⟩=true
  ·rw [pK h2 hm hq] at h;cases h;exact f _ _ _
  rw [pO h2 hm (by simpa using hq)] at h;cases h
 by_cases h3:x.op=3
 ·rw [zci h3] at h;cases h;simp only [];omega
 by_cases h4:x.op=4
 ·rw [bM h4] at h;split at h
  ·cases h;simp only [];omega
  cases h
 by_cases h5:x.op=5
 ·rw [uX h5] at h;split at h
  ·cases h;simp only [];omega
  cases h
 by_cases h6:x.op=6
 ·by_cases hv:s.mem.getD x.var.toNat 0=yF t.regs c.domain d x.a
  ·rw [zaq h6 hv] at h;split at h
   ·cases h;simp only [];omega
   cases h
  rw [zao h6 hv] at h;split at h
  ·cases h;simp only [];omega
  cases h
 by_cases h7:x.op=7
 ·rw [uY h7] at h;split at h
  ·cases h;simp only [];omega
  cases h
 by_cases h8:x.op=8
 ·rw [uD h8] at h;split at h
  ·cases h;simp only [];omega
  cases h
 by_cases h9:x.op=9
 ·rw [wR h9] at h;cases h;simp only [];omega
 by_cases h12:x.op=12
 ·rw [uE h12] at h;cases h;simp only [];split<;>simp only [] <;>omega
 by_cases h13:x.op=13
 ·rw [zbu h13] at h;cases h;simp only [];omega
 rw [zbU h1 h2 h3 h4 h5 h6 h7 h8 h9 h12 h13] at h;cases h;simp only [];omega
theorem zmB {b:Nat} {ts:List zD} {mem:List Int} {bad:Bool} {i:Nat} {t:zD} (h:∀j,j<ts.length->(ts.getD j default).buf.length<=b) (d:t.buf.length<=b):kH b ⟨ts.set i t,mem,bad⟩:=by
 intro j c;simp only [List.length_set] at c ⊢;rw [vJ c];split
 ·exact d
 exact h j c
theorem zty (l:List zq) (v:Int):(takeB l v).2.length<=l.length:=ziQ l v l.length
theorem z0E {c:zG} {m:zC} {s:zo} {x:zw} {d:Nat} :kH 33 (jR c m s x d).1:=by
 have hE:kH 33 qj:=λj b=>by simp [qj] at b
 unfold jR;by_cases hf:yJ c m s=true
 rotate_left
 ·rw [if_neg hf];exact hE
 have f:=zdD hf;rw [if_pos hf];split
 ·rename_i ht
  split
  ·cases hst:kQ c m s x.thread.toNat d with
   |none=>exact hE
   |some t=>
   unfold kQ at hst;split at hst
   ·rw [Option.map_eq_some_iff] at hst;obtain⟨r,h,rfl⟩:=hst;refine zmB (λj b=>by have:=f j b;omega) ?_
    have:=ztx h
    have:=f x.thread.toNat (by omega)
    omega
   cases hst
  split
  ·refine zmB (λj b=>by have:=f j b;omega) ?_
   simp only [];have:=zty (s.threads.getD x.thread.toNat default).buf x.var
   have:=f x.thread.toNat (by omega)
   omega
  exact hE
 exact hE
theorem zq8 (c:zG):kH 33 (vM c):=by
 unfold vM;split
 ·intro j b;simp only [List.length_replicate] at b ⊢;rw [List.getD_eq_getElem?_getD,List.getElem?_replicate,if_pos b];simp [show(default:zD).buf= [] from rfl]
 intro j b;simp at b
theorem zq9 {c:zG} {m:zC} {s:zo} {d:Nat} :(xL c m s d).length<=132:=by
 unfold xL;split
 ·rename_i hf
  have f:=zdD hf;obtain⟨h, -,q, -, -⟩:=zam hf;have p:=(xY h).2.2.2.2.2
  have b:∀k,k<=s.threads.length->((List.range k).flatMap (wE c m s d)).length<=33*k:=by
   intro k;induction k with
   |zero=>intro _;simp
   |succ k ih=>
   intro i;rw [zb1,List.length_append];have:=ih (by omega)
   have o:(wE c m s d k).length<=33:=by
    unfold wE;have n:=zcF (s.threads.getD k default).buf m.model;have j:=f k (by omega);rw [List.length_append,List.length_map];split<;>simp only [List.length_cons,List.length_nil] <;>omega
   omega
  have:=b _ (Nat.le_refl _)
  omega
 simp
theorem jo {P:Program} (w:World) {H:Array Oper} {rest:List Oper} {o:Oper} {a:Act} {Q:Exit->Act->World->Prop} (I:o.guard=none) (s x:Operand) (t:TypeId)
  (K:o.op= .call { callee:= .builtin .append,args:= #[s,x],argTypes:= #[t,t] })
  (e:TypeId) (z:Value) (size bytes:Nat) (Y:P.underlying t=some (.slice e)) (f:(P.info? e).map (λi=>(i.zero,i.size,i.bytes))=some (some z,size,bytes)) (O:z.cells.size=size) (S:0<size)
  (base:Nat) (v:Value) (n:Nat) (xs:List Value) (Z:a.eval s=v) (d:w.ownsRow base e size v n xs)
  (N:Option Addr) (m c:Nat) (news:List Value) (hx:a.eval x= .slice N m c) (hl:news.length=m*size) (y:∀A,N=some A->∀j u,news[j]? =some u->w.cell? (A.add j)=some u) (q:N=none->m=0) (h1:∀u∈news,u.oneCell'=true)
  (V:n+m<=maxLen) (p:(n+m)*bytes<=140737488355328) (C:base<=w.heap.size)
  (h:∀L b E,E.ownsRow base e size (.slice L (n+m) b) (n+m) (xs++news)->b<=9223372036854775807->n+m<=b->Since (λk=>v.ownBlock=some k) w E->
   (∀k,(Value.slice L (n+m) b).ownBlock=some k->v.ownBlock=some k\/k=w.heap.size)->
   wpList P H Q rest (a.put o.dst (.slice L (n+m) b)) E):wpList P H Q (o::rest) a w:=by
 cases N with
 |some A=>exact zO w I s x t K e z size bytes Y f O S base v n xs Z d A m c news hx hl (y A rfl) h1 V p C (λL b E p1 p2 p3 p4 p5 _=>h L b E p1 p2 p3 p4 p5)
 |none=>
 have hm:=q rfl;subst hm;have hn:news= [] :=List.eq_nil_of_length_eq_zero (by simpa using hl);subst hn;obtain⟨i,hi,hz,T,hby⟩:=info_parts f;obtain⟨M,D,rfl,J,U⟩:=xS d
 have hr:(Builtin.append_ #[t,t] o.type #[.slice M n D, .slice none 0 c]).run P w= .ok (.slice M n D) w:=by
  cases M<;>simp [Builtin.append_,run_underlying Y,sizeOf,typeInfo,hi,Builtin.lenOf,Builtin.firstCells,J,storeCells]
 refine wpList_plain I λ_ hK=> ?_
 unfold Oper.wp execOp;simp only [K,resolve,invoke,builtin,Sem.run_bind,Sem.run_pure,Result.andThen_ok,List.map_toArray,List.map_cons,List.map_nil,Z,hx,hr];exact hK _ _ (h M D w (by rw [List.append_nil];exact d) (by unfold maxLen at U;omega) J (Since.refl _ _) (λk hk=> .inl hk))
theorem pV {X:World} {B g size n:Nat} {e:TypeId} {cs:List Value} (h:X.heap[g]? =some (.cells cs.toArray e (0,0))) (d:B<=g) (b:cs.length=n*size) (c:n<=maxLen):X.ownsRow B e size (.slice (some ⟨g,0,none⟩) n n) n cs:=
 ⟨b, .inr ⟨g,n,cs.toArray,rfl,d,h,Nat.le_refl _,c,by simp [b],by rw [List.take_of_length_le (by simp [b])]⟩⟩
def z3g (_:World) (r:List Int) (cs:List Value):Prop:=r.length=4/\cs= [I4 (r.getD 0 0),I4 (r.getD 1 0),I4 (r.getD 2 0),I4 (r.getD 3 0)]
abbrev z3h:=zh z3g 4
structure z0F (w:World) (f:zmC) (mv rv:Value):Prop where
 mem:qx w mv f.mem
 regs:z3h w rv f.regs
def z3i (w:World) (f:zmC) (cs:List Value):Prop:=∃mv rv,cs= [mv,rv] /\z0F w f mv rv
abbrev zAt:=zh z3i 2
def zqA:zR:= .mk 1 1 0 []
def noE:zR:= .mk 0 0 0 []
def qI:zG:=⟨2,2, [[⟨2,0,0,zqA,noE,0⟩,⟨1,0,1,noE,noE,0⟩], [⟨2,0,1,zqA,noE,0⟩,⟨1,0,0,noE,noE,0⟩]]⟩
theorem zpn (w:World):Calls Tryz.prog 50 #[I4 1] w λe b=>e= .returned (.agg #[I4 1,I4 1, .int .u8 0,N7])/\Below w.heap.size w b:=by
 go_enter Tryz.func50,Tryz.ntmps50
 go_wp2
 exact bodyPost_ret (v:= .agg #[I4 1,I4 1, .int .u8 0,N7]) (by simp [results,Tryz.results50,go_sem]) rfl ⟨rfl,(Below.refl _ _).alloc (Nat.le_refl _) _⟩
theorem z0G {d:Nat} {w:World} {l:List (List yg)} {g m:Nat} {b:List Value} {t:TypeId} (f:w.heap[g]? =some (.cells b.toArray t (0,0))) (n:l.length<=m/\m<=9223372036854775807) (h:∀j,j<l.length->∃v,b[j]? =some v/\gX d w v (l.getD j [])):yP d w (.slice (some ⟨g,0,none⟩) l.length m) l:=
 ⟨_,_,rfl,n,λj o=>by
  obtain⟨v,k,c⟩:=h j o;refine⟨g,0, [v],rfl,zA f,rfl,λi c=> ?_,v,rfl,c⟩
  obtain rfl:i=0:=by omega
  rw [show 0+j*1+0=j by omega,ze f,List.getElem?_toArray,k];rfl⟩
theorem ztz (w:World) (k n o:Int):zJ 1 w (.mk k n o []) (N7):=⟨none,0,rfl,by simp [zR.kids],λj b=>by simp [zR.kids] at b⟩
theorem zt0:(Tryz.prog.info? 25).map (·.size)=some 3:=by kernel_rfl
def zqB (x:yg):List Value:=x.cells (N7) (N7)
theorem zhX (x:yg):(zqB x).length=12:=rfl
theorem zkT (w:World) {x:zR} (h:x.kids= []):zJ 1 w x (N7):=by
 obtain⟨k,n,o,l⟩:=x;have:l= [] :=h
 subst this;exact ztz _ _ _ _
theorem zht {w:World} {g m:Nat} {l:List yg} {t:TypeId} (k:w.heap[g]? =some (.cells (zx zqB l).toArray t (0,0))) (f:l.length<=maxLen) (d:l.length=m) (h:∀j,j<l.length->(l.getD j default).a.kids= [] /\(l.getD j default).b.kids= []):gX 1 w (.slice (some ⟨g,0,none⟩) m m) l:=by
 subst d;exact zh.jB (R:=vY 1) (pV (B:=0) k (Nat.zero_le _) (wK zhX l) f) λj c=>⟨zqB (l.getD j default),zhX _,λ_ i=>zaU zhX c i,_,_,rfl,zkT _ (h j c).1,zkT _ (h j c).2⟩
def z3j (w:World) (e:Ending) (w':World):Prop:=(∃tv,e= .returned (yj qI tv)/\yP 1 w' tv qI.threads)/\Below w.heap.size w w'
theorem zqC (w:World):Calls Tryz.prog 24 #[] w (z3j w):=by
 go_enter Tryz.func24,Tryz.ntmps24
 go_upto_region 1 with fail
 have m:=qh ((Loc.start w).alloc 25 [I4 0,I4 0,N7]);generalize World.alloc w _=W0 at m ⊢;generalize w.heap.size=g at m ⊢;go_upto_region 2 with(go_at_call 50;go_must(refine(zpn _).mono ?_);rintro e z ⟨rfl,f⟩;have k:=qh ((m.o.later f).alloc 107 [I4 2,I4 0,I4 0,I4 1,I4 1, .int .u8 0,N7,I4 0,I4 0, .int .u8 0,N7,I4 0,I4 1,I4 0,I4 1,I4 0,I4 0, .int .u8 0,N7,I4 0,I4 0, .int .u8 0,N7,I4 0]);clear f m)
 generalize World.alloc z _=X at k ⊢;generalize z.heap.size=b1 at k ⊢;go_upto_region 3 with(go_at_call 50;go_must(refine(zpn _).mono ?_);rintro e y ⟨rfl,f⟩;have i:=qh ((k.o.later f).alloc 107 [I4 2,I4 0,I4 1,I4 1,I4 1, .int .u8 0,N7,I4 0,I4 0, .int .u8 0,N7,I4 0,I4 1,I4 0,I4 0,I4 0,I4 0, .int .u8 0,N7,I4 0,I4 0, .int .u8 0,N7,I4 0]);clear f k)
 generalize World.alloc y _=Y at i ⊢;generalize y.heap.size=b2 at i ⊢;have n:=i.o.alloc 95 [.slice (some ⟨b1,0,none⟩) 2 2, .slice (some ⟨b2,0,none⟩) 2 2];have b:=(n.news (g,25, [I4 0,I4 0,N7]) (by simp)).1;have C:=qh n;have L:=ze b 0;have J:=ze b 1;have I:=ze b 2;have H:=zH b 0;have E:=zH b 1;have D:=zH b 2;clear n b i;go_wp2
 have c:=C.o.store (g:=g) (t:=25) (cs:= [I4 0,I4 0,N7]) (by simp) [I4 2,I4 2, .slice (some ⟨Y.heap.size,0,none⟩) 2 2] rfl;have h:=C.o.apart;simp only [List.map_cons,List.map_nil,List.nodup_cons,List.mem_cons,List.not_mem_nil,or_false,not_or] at h;have b:=(c.news _ (zbf (t:=25) (cs:= [I4 0,I4 0,N7]) (by simp))).1;have q:=(c.news _ (kK (p:=(Y.heap.size,95, [.slice (some ⟨b1,0,none⟩) 2 2, .slice (some ⟨b2,0,none⟩) 2 2])) (by simp) h.1.2.2)).1
 have u:=(c.news _ (kK (p:=(b2,107, [I4 2,I4 0,I4 1,I4 1,I4 1, .int .u8 0,N7,I4 0,I4 0, .int .u8 0,N7,I4 0,I4 1,I4 0,I4 0,I4 0,I4 0, .int .u8 0,N7,I4 0,I4 0, .int .u8 0,N7,I4 0])) (by simp) h.2.1.2)).1;have x:=(c.news _ (kK (p:=(b1,107, [I4 2,I4 0,I4 0,I4 1,I4 1, .int .u8 0,N7,I4 0,I4 0, .int .u8 0,N7,I4 0,I4 1,I4 0,I4 1,I4 0,I4 0, .int .u8 0,N7,I4 0,I4 0, .int .u8 0,N7,I4 0])) (by simp) h.2.2.1)).1;have A:=qh c.below;change bodyPost _ _ _ _ _ (yU _ g 0 [I4 2,I4 2, .slice (some ⟨Y.heap.size,0,none⟩) 2 2]);generalize yU _ g 0 _=Z at b q u x A ⊢
 refine bodyPost_ret (xu rfl _ _ g 25 _ (0,0) _ rfl b Tryz.underlying25 rfl zt0) rfl ?_
 refine⟨⟨_,rfl,z0G (l:=qI.threads) q (by decide) λj d=> ?_⟩,A.o⟩
 match j,d with
 |0,_=>exact⟨_,rfl,zht (l:= [⟨2,0,0,zqA,noE,0⟩,⟨1,0,1,noE,noE,0⟩]) x (by decide) rfl (λj d=>by match j,d with|0,_=>exact⟨rfl,rfl⟩|1,_=>exact⟨rfl,rfl⟩)⟩
 |1,_=>exact⟨_,rfl,zht (l:= [⟨2,0,1,zqA,noE,0⟩,⟨1,0,0,noE,noE,0⟩]) u (by decide) rfl (λj d=>by match j,d with|0,_=>exact⟨rfl,rfl⟩|1,_=>exact⟨rfl,rfl⟩)⟩
