/- Steps. -/
import Derived.Test.YtmijlmglnnbdjaaGreatDoorUtFalsP
import Derived.Test.YtmijlmglnnbdjaaGreatDoorUtMade
import Derived.Test.YtmijlmglnnbdjaaGreatDoorUtWalk7
set_option linter.all false
namespace Go.Proofs.YtmijlmglnnbdjaaGreatDoor
open Go.RowKit
set_option maxRecDepth 100000
set_option maxHeartbeats 16000000
def gy:List zw:= [⟨1,0,0⟩,⟨1,0,0⟩,⟨1,1,0⟩,⟨1,1,0⟩,⟨0,0,0⟩]
def zaY:zC:=⟨0,1⟩
def zxy:Form:= .mk 11 ⟨0,0,0,0⟩ [.mk 3 ⟨2,1,0,0⟩ []]
def z4z:Form:= .mk 1 ⟨0,0,0,0⟩ []
theorem z4A:(yM qI zaY gy 4 1).2=0/\(yM qI zaY gy 4 1).1.length=5/\((yM qI zaY gy 4 1).1.getD 4 default).threads.length=2/\((((yM qI zaY gy 4 1).1.getD 4 default).threads.getD 1 default).regs.getD 0 0)=1:=by decide+kernel
theorem z4B:(yM qI zaY [⟨1,0,0⟩] 0 1).2=50:=by decide+kernel
theorem z4C:(yM qI zaY [] 0 1).2=1:=by decide+kernel
theorem z4D:gM qI zaY gy 4 1=true:=by decide+kernel
theorem z4E:uw qI zaY 1 zxy true gy 4=true:=by decide+kernel
theorem z4F:uw qI zaY 1 z4z false gy 4=false:=by decide+kernel
theorem zk1:∀x∈gy,vZ x:=by
 intro x hx
 have h:(-1000000<=x.kind/\x.kind<=1000000)/\(-1000000<=x.thread/\x.thread<=1000000)/\(-1000000<=x.var/\x.var<=1000000):=by
  simp only [gy,List.mem_cons,List.not_mem_nil,or_false] at hx;rcases hx with rfl|rfl|rfl|rfl|rfl<;>simp
 exact⟨zaZ h.1,zaZ h.2.1,zaZ h.2.2⟩
theorem zh7 {w:World} {g:Nat} {l:List zw} {t:TypeId} (c:w.heap[g]? =some (.cells (zx zw.cells l).toArray t (0,0))) (h:l.length<=1000000):qB w (.slice (some ⟨g,0,none⟩) l.length l.length) l:=by
 refine⟨_,_,rfl,⟨Nat.le_refl _,by omega⟩,λj d=>⟨g,0,(l.getD j default).cells,rfl,zA c,rfl,λi b=> ?_,rfl⟩⟩
 have hx:=zaU (f:=zw.cells) (size:=3) (λ_=>rfl) d b;rw [Nat.zero_add, <-hx]
 have k:j*3+i<(zx zw.cells l).length:=by
  have:(zx zw.cells l)[j*3+i]? =some ((l.getD j default).cells[i]'b):=by rw [hx];exact List.getElem?_eq_getElem b
  exact(List.getElem?_eq_some_iff.1 this).1
 have:=ze c (j*3+i)
 simp only [List.getElem?_toArray] at this;exact this
theorem zb7 {w:World} {g:Nat} {f:Form} {kv:Value} {d:Nat} {t:TypeId} {k:Int} {p:zF} (b:w.heap[g]? =some (.cells (qQ f kv).toArray t (0,0))) (h:xE w d f kv):xE w (d+1) (.mk k p [f]) (.slice (some ⟨g,0,none⟩) 1 1):=by
 refine⟨_,_,rfl,by simp [Form.kids],λj c=> ?_⟩
 obtain rfl:j=0:=by simpa [Form.kids] using c
 refine⟨g,0,kv,rfl,zA b,λi l=> ?_,h⟩
 have:=ze b i
 simp only [List.getElem?_toArray] at this;simpa [Form.kids] using this
theorem z0T (w:World):Calls Tryz.prog 24 #[] w λe c=>(∃(b:Option Addr) (tc:Nat),e= .returned (.agg #[I4 2,I4 2, .slice b 2 tc])/\yP 1 c (.slice b 2 tc) qI.threads)/\Below w.heap.size w c:=by
 refine(zqC w).mono ?_
 rintro e c ⟨⟨tv,rfl,d⟩,f⟩;obtain⟨b,tc,rfl, -⟩:=zh.slice d;exact⟨⟨b,tc,rfl,d⟩,f⟩
def zAI (n:Nat) (k:Int) (p:World->Option Addr->Nat->Prop) (w:World) (e:Ending) (w':World):Prop:=(∃(a:Option Addr) (c:Nat),e= .returned (.tuple #[.slice a n c,I4 k])/\p w' a c)/\Below w.heap.size w w'
theorem z4G (w:World) (l:Option Addr) (tc:Nat) (h:yP 1 w (.slice l 2 tc) qI.threads) (g:Nat) (B:qB w (.slice (some ⟨g,0,none⟩) 5 5) gy):Calls Tryz.prog 14 #[.agg #[I4 2,I4 2, .slice l 2 tc], .agg #[I4 0,I4 1], .agg #[.slice (some ⟨g,0,none⟩) 5 5,I4 4]] w
  (zAI 5 0 (λy a c=>∃b o tb d t f,a=some ⟨b,o,none⟩/\(∀z,Below y.heap.size y z->z.cell? ⟨b,o+12,none⟩=some (.slice (some ⟨tb,d,none⟩) 2 f)/\z.cell? ⟨tb,d+7,none⟩=some (I4 1))/\t=c) w):=by
 refine(bP w qI _ 1 h zaY _ gy B 4).mono ?_
 rintro e D ⟨⟨a,n,c,r,rfl,A⟩,C⟩;obtain⟨x,p,m,v⟩:=z4A;rw [p] at r;subst r;rw [x];obtain⟨b,o,tv,mv,rfl, -,k, -, -,i⟩:=jY.part A 4 (by rw [p];decide)
 obtain⟨u,f,rfl, -⟩:=zh.slice i.threads;obtain⟨tb,d, -, -,rfl, -, -, -,j, -⟩:=qR.part i.threads 1 (by rw [m];decide)
 rw [m] at k;rw [v] at j;exact⟨⟨_,c,rfl,b,o,tb,d,c,f,rfl,λz q=>⟨zl q _ _ k,zl q _ _ j⟩,rfl⟩,C⟩
theorem z4H (w:World) (d:Option Addr) (tc:Nat) (h:yP 1 w (.slice d 2 tc) qI.threads) (g:Nat) (f:qB w (.slice (some ⟨g,0,none⟩) 1 1) [⟨1,0,0⟩]):Calls Tryz.prog 14 #[.agg #[I4 2,I4 2, .slice d 2 tc], .agg #[I4 0,I4 1], .agg #[.slice (some ⟨g,0,none⟩) 1 1,I4 0]] w
  (λe b=>(∃a n c,e= .returned (.tuple #[.slice a n c,I4 50]))/\Below w.heap.size w b):=by
 refine(bP w qI _ 1 h zaY _ [⟨1,0,0⟩] f 0).mono ?_
 rintro e b ⟨⟨a,n,c,k,rfl,j⟩,i⟩;rw [z4B];exact⟨⟨a,n,c,rfl⟩,i⟩
theorem z4I (w:World) (d:Option Addr) (tc:Nat) (h:yP 1 w (.slice d 2 tc) qI.threads):Calls Tryz.prog 14 #[.agg #[I4 2,I4 2, .slice d 2 tc], .agg #[I4 0,I4 1], .agg #[N7,I4 0]] w
  (λe b=>(∃a n c,e= .returned (.tuple #[.slice a n c,I4 1]))/\Below w.heap.size w b):=by
 refine(bP w qI _ 1 h zaY _ [] (zh.nil _) 0).mono ?_
 rintro e b ⟨⟨a,n,c,i,rfl,g⟩,f⟩;rw [z4C];exact⟨⟨a,n,c,rfl⟩,f⟩
theorem z4J (w:World) (b:Option Addr) (tc:Nat) (h:yP 1 w (.slice b 2 tc) qI.threads) (g:Nat) (c:qB w (.slice (some ⟨g,0,none⟩) 5 5) gy):Calls Tryz.prog 15 #[.agg #[I4 2,I4 2, .slice b 2 tc], .agg #[I4 0,I4 1], .agg #[.slice (some ⟨g,0,none⟩) 5 5,I4 4]] w (zbX true w):=by
 rw [<-z4D];exact zj0 w qI _ 1 h zaY _ gy c zk1 4
theorem z4K (w:World) (b:Option Addr) (tc:Nat) (h:yP 1 w (.slice b 2 tc) qI.threads) (g:Nat) (c:qB w (.slice (some ⟨g,0,none⟩) 5 5) gy) (q:Nat) (d:xE w 2 zxy (.slice (some ⟨q,0,none⟩) 1 1)):Calls Tryz.prog 16 #[.agg #[I4 2,I4 2, .slice b 2 tc], .agg #[I4 0,I4 1], .agg #[I4 11,I4 0,I4 0,I4 0,I4 0, .slice (some ⟨q,0,none⟩) 1 1], .bool true, .agg #[.slice (some ⟨g,0,none⟩) 5 5,I4 4]] w (zbX true w):=by
 rw [<-z4E];exact zgz w qI _ 1 h zaY zxy _ 2 d true _ gy c zk1 4
theorem z4L (w:World) (b:Option Addr) (tc:Nat) (h:yP 1 w (.slice b 2 tc) qI.threads) (g:Nat) (c:qB w (.slice (some ⟨g,0,none⟩) 5 5) gy):Calls Tryz.prog 16 #[.agg #[I4 2,I4 2, .slice b 2 tc], .agg #[I4 0,I4 1], .agg #[I4 1,I4 0,I4 0,I4 0,I4 0,N7], .bool false, .agg #[.slice (some ⟨g,0,none⟩) 5 5,I4 4]] w (zbX false w):=by
 rw [<-z4F];exact zgz w qI _ 1 h zaY z4z _ 1 (zh8 w 1 ⟨0,0,0,0⟩) false _ gy c zk1 4
theorem zo5 (w:World):Calls Tryz.prog 10 #[] w λe w'=>e= .returned (.bool true)/\Below w.heap.size w w':=by
 go_enter Tryz.func10,Tryz.ntmps10
 go_upto_region 2 with(go_at_call 24;go_must(refine(z0T _).mono ?_);rintro e Z ⟨⟨n,tc,rfl,ht⟩,c⟩;have K:=qh ht;have HB0:=qh c;clear ht c)
 have J:=xK Z (.cells #[I4 2,I4 2, .slice n 2 tc] 25) (.cells #[I4 0,I4 1] 30);have h1:=xA Z (.cells #[I4 2,I4 2, .slice n 2 tc] 25) (.cells #[I4 0,I4 1] 30);have h2:=xq Z (.cells #[I4 2,I4 2, .slice n 2 tc] 25) (.cells #[I4 0,I4 1] 30);have L:=qh (zh.below (xV.stays 1) K.o J);have O:=qh (zy HB0.o J);have T:=qh h1;have H2:=qh h2;clear J h1 h2 K HB0;generalize World.alloc (World.alloc Z _) _=X1 at L O T H2 ⊢;obtain⟨g,hg⟩:=qxE Z.heap.size;rw [<-hg] at T H2 ⊢;clear hg;go_upto_region 3 with fail
 have X:=xK X1 (.cells (zx zw.cells gy).toArray 46) (.cells #[.slice (some ⟨X1.heap.size,0,none⟩) 5 5,I4 4] 42);have h3:=xA X1 (.cells (zx zw.cells gy).toArray 46) (.cells #[.slice (some ⟨X1.heap.size,0,none⟩) 5 5,I4 4] 42);have h4:=xq X1 (.cells (zx zw.cells gy).toArray 46) (.cells #[.slice (some ⟨X1.heap.size,0,none⟩) 5 5,I4 4] 42);have hm:=zh7 (l:=gy) h3 (by decide);have s:=qh hm;have i:=qh X;have S:=qh h4;clear X h3 h4 hm;rw [show(zx zw.cells gy).toArray= #[I4 1,I4 0,I4 0,I4 1,I4 0,I4 0,I4 1,I4 1,I4 0,I4 1,I4 1,I4 0,I4 0,I4 0,I4 0] from rfl] at s i S
 generalize World.alloc (World.alloc X1 _) _=X2 at s i S ⊢;obtain⟨q,hq⟩:=qxE X1.heap.size;rw [<-hq] at s S ⊢;clear hq
 have U:J2 (∀y,Below X2.heap.size X2 y->K3 y g 0 (I4 2)/\K3 y g 1 (I4 2)/\K3 y g 2 (.slice n 2 tc)/\K3 y (g+1) 0 (I4 0)/\K3 y (g+1) 1 (I4 1)/\
   K3 y (q+1) 0 (.slice (some ⟨q,0,none⟩) 5 5)/\K3 y (q+1) 1 (I4 4)):=λy j=>
  ⟨zl (zy i.o j) _ _ (ze T.o 0),zl (zy i.o j) _ _ (ze T.o 1),zl (zy i.o j) _ _ (ze T.o 2),zl (zy i.o j) _ _ (ze H2.o 0),zl (zy i.o j) _ _ (ze H2.o 1),zl j _ _ (ze S.o 0),zl j _ _ (ze S.o 1)⟩
 have m:=qh (λy (j:Below X2.heap.size X2 y)=>zh.below (xV.stays 1) L.o (zy i.o j));have E:=qh (λy (j:Below X2.heap.size X2 y)=>jT s.o j);have yh:=qh (zy O.o i.o);clear T H2 S L s O i;obtain⟨B,A,z,x,v,t,r⟩:=U.o X2 (Below.refl _ _);go_upto_region 4 with(go_at_call 14;go_must(refine(z4G X2 n tc (m.o X2 (Below.refl _ _)) q (E.o X2 (Below.refl _ _))).mono ?_);rintro e G ⟨⟨a,cp,rfl,b,o,tb,to2,tn,tc2,rfl,hz,rfl⟩,c⟩;have HZ:=qh hz;have HB3:=qh c;clear c hz)
 clear B A z x v t r;go_upto_region 5 with fail
 have W:=xK G (.cells #[I4 3,I4 2,I4 1,I4 0,I4 0,N7] 38) (.cells #[I4 11,I4 0,I4 0,I4 0,I4 0, .slice (some ⟨G.heap.size,0,none⟩) 1 1] 38);have h5:=xA G (.cells #[I4 3,I4 2,I4 1,I4 0,I4 0,N7] 38) (.cells #[I4 11,I4 0,I4 0,I4 0,I4 0, .slice (some ⟨G.heap.size,0,none⟩) 1 1] 38);have h6:=xq G (.cells #[I4 3,I4 2,I4 1,I4 0,I4 0,N7] 38) (.cells #[I4 11,I4 0,I4 0,I4 0,I4 0, .slice (some ⟨G.heap.size,0,none⟩) 1 1] 38);have hf:=zb7 (f:= .mk 3 ⟨2,1,0,0⟩ []) (kv:=N7) (d:=1) (k:=11) (p:=⟨0,0,0,0⟩) h5 (zh8 _ _ _);have HF:=qh hf;have qZ:=qh W;have F:=qh h6;clear W h5 h6 hf
 generalize World.alloc (World.alloc G _) _=X4 at HF qZ F ⊢;obtain⟨u,hu⟩:=qxE G.heap.size;rw [<-hu] at HF F ⊢;clear hu;have H:=qh (zy HB3.o qZ.o)
 have CF:J2 (∀y,Below X4.heap.size X4 y->K3 y (u+1) 0 (I4 11)/\K3 y (u+1) 1 (I4 0)/\K3 y (u+1) 2 (I4 0)/\K3 y (u+1) 3 (I4 0)/\K3 y (u+1) 4 (I4 0)/\K3 y (u+1) 5 (.slice (some ⟨u,0,none⟩) 1 1)):=λy j=>
  ⟨zl j _ _ (ze F.o 0),zl j _ _ (ze F.o 1),zl j _ _ (ze F.o 2),zl j _ _ (ze F.o 3),zl j _ _ (ze F.o 4),zl j _ _ (ze F.o 5)⟩
 have HFW:=qh (λy (j:Below X4.heap.size X4 y)=>xE.below HF.o j);clear HF F;obtain⟨B,A,z,x,v,t,r⟩:=U.o X4 H.o;have Q:J2 (qB (X4.alloc (.cells #[I4 1,I4 0,I4 0] 46)) (.slice (some ⟨X4.heap.size,0,none⟩) 1 1) [⟨1,0,0⟩]):=zh7 (l:= [⟨1,0,0⟩]) (zQ X4 (.cells #[I4 1,I4 0,I4 0] 46)) (by decide);have P:J2 (Below X4.heap.size X4 (X4.alloc (.cells #[I4 1,I4 0,I4 0] 46))):=(Below.refl _ _).alloc (Nat.le_refl _) _;go_upto_region 6 with(go_at_call 14;go_must(refine(z4H _ n tc (m.o _ (zy H.o P.o)) X4.heap.size Q.o).mono ?_);rintro e X5 ⟨⟨a5,n5,c5',rfl⟩,c⟩;have N:=qh (zy P.o c);clear c)
 clear B A z x v t r Q P;have I:=qh (zy H.o N.o);obtain⟨B,A,z,x,v,t,r⟩:=U.o X5 I.o;go_upto_region 7 with(go_at_call 14;go_must(refine(z4I X5 n tc (m.o X5 I.o)).mono ?_);rintro e Y ⟨⟨a6,n6,c6',rfl⟩,c⟩;have M:=qh c;clear c)
 clear B A z x v t r;have h:=qh (zy I.o M.o);have zAJ:=qh (zy qZ.o (zy N.o M.o));have V:=qh (zy N.o M.o);obtain⟨B,A,z,x,v,t,r⟩:=U.o Y h.o;obtain⟨z0,z1⟩:=HZ.o Y zAJ.o
 go_wp2_with(first
  |(go_at_call 16;(refine(z4L X8 n tc (m.o X8 (zy h.o D.o)) q (E.o X8 (zy h.o D.o))).mono ?_);rintro e X9 ⟨rfl,c⟩;(have zAK:=qh (zy D.o c));clear c)
  |(go_at_call 16;go_must(refine(z4K R n tc (m.o R (zy h.o C.o)) q (E.o R (zy h.o C.o)) u (HFW.o R (zy V.o C.o))).mono ?_);rintro e X8 ⟨rfl,c⟩;(have D:=qh (zy C.o c));clear c f0 f1 f2 f3 f4 f5 B A z x v t r;(obtain⟨B,A,z,x,v,t,r⟩:=U.o X8 (zy h.o D.o)))
  |(go_at_call 15;go_must(refine(z4J Y n tc (m.o Y h.o) q (E.o Y h.o)).mono ?_);rintro e R ⟨rfl,c⟩;(have C:=qh c);clear B A z x v t r;(obtain⟨B,A,z,x,v,t,r⟩:=U.o R (zy h.o c));(obtain⟨f0,f1,f2,f3,f4,f5⟩:=CF.o R (zy V.o c));clear c))
 go_ret;exact⟨rfl,zy yh.o (zy h.o zAK.o)⟩
theorem zrk (V:World) (c:zG) (g:Value) (n:yP 3 V g c.threads) (m:zC):
  (∀y,Below V.heap.size V y->∀k o,vL y .u8 k o->Calls Tryz.prog 13 #[yj c g,yE m,k] y (zlc y))/\
  (∀y,Below V.heap.size V y->∀b l,qB y b l->∀bk:Nat,Calls Tryz.prog 14 #[yj c g,yE m, .agg #[b,I4 bk]] y (zgR y (yM c m l bk 3)))/\
  (∀y,Below V.heap.size V y->∀b l,qB y b l->(∀x∈l,vZ x)->∀bk:Nat,Calls Tryz.prog 15 #[yj c g,yE m, .agg #[b,I4 bk]] y (zbX (gM c m l bk 3) y))/\
  (∀y,Below V.heap.size V y->∀d f kv,xE y d f kv->∀b l,qB y b l->(∀x∈l,vZ x)->∀bk:Nat,Calls Tryz.prog 16 #[yj c g,yE m,vI f kv, .bool false, .agg #[b,I4 bk]] y (zbX (uw c m 3 f false l bk) y)):=
 ⟨λy h k o p=>zrl y c g 3 (zh.below (xV.stays 3) n h) m k o p,λy h b l j bk=>bP y c g 3 (zh.below (xV.stays 3) n h) m b l j bk,λy h b l j i bk=>zj0 y c g 3 (zh.below (xV.stays 3) n h) m b l j i bk,
  λy h d f kv q b l j i bk=>zgz y c g 3 (zh.below (xV.stays 3) n h) m f kv d q false b l j i bk⟩
theorem zrm (c:zG) (m:zC):(∀(l:List zw) (bk:Nat),(yM c m l bk 3).2≠0->gM c m l bk 3=false)/\(∀(l:List zw) (bk:Nat) f,(yM c m l bk 3).2=0->f.okD 6=true/\f.size<=41->uw c m 3 f false l bk≠uw c m 3 (.mk 4 ⟨0,0,0,0⟩ [f]) false l bk)/\
  (∀(l:List zw) (bk:Nat),(yM c m l bk 3).2=0->l.getD bk default=jP->gM c m l bk 3=true):=
 ⟨λl bk h=>zmT h,λl bk f h d=>zo6 h d.1 d.2,λl bk h g=>by
  obtain⟨k,b⟩:=zpv h;have i:k=bk:=by have:=b.eq;omega
  subst i;rw [b.fair];refine zrn ?_
  have:=zul h (by simpa using g)
  simpa [List.getD_eq_getElem?_getD,List.getElem?_drop] using this⟩
theorem zl2 (w:World) (sv:Value) (l0:List Int) (hn:vL w .u8 sv l0) (q:Int) (qw:(Lit.int .u8 q).wf=true) (wv:Value) (lw:List Int) (hw:vL w .u8 wv lw) (fv:Value) (lf:List Int) (hf:vL w .u8 fv lf):
  Calls Tryz.prog 5 #[sv, .int .u8 q,wv,fv] w λe w'=>e= .returned (.bool true)/\Below w.heap.size w w':=by
 obtain⟨q0,q1⟩:=u8_in qw;have HN:=qh hn;have HW:=qh hw;have HF:=qh hf;clear hn hw qw hf;go_enter Tryz.func5,Tryz.ntmps5
 go_upto_region 4 with(go_at_call 10;go_must(refine(zo5 w).mono ?_);rintro en W0 ⟨rfl,b⟩;(have HBA:=qh b);clear b)
 have HB0:J2 (Below w.heap.size w W0):=HBA.o;have HLQ:J2 (0<=q/\q<=255):=⟨q0,q1⟩
 go_upto_region 5 with(first|(go_at_call 9;go_must(refine(zo7 W2 q HLQ.o.1 HLQ.o.2).mono ?_);rintro en W3 ⟨rfl,b⟩;(have HB3:=qh (zy HB2.o b));(have HC3:=qh (zh.below (xV.stays 3) HC2.o b));clear b;unfold yE)|(go_at_call 7;go_must(refine(HM4.o).mono ?_);rintro en W2 ⟨⟨c,ta,tc,css,rfl,hok,hrow⟩,b⟩;(have vP:=qh hok);(have HC2:=qh hrow.slice);(have HB2:=qh (zy HB1.o b));clear hrow hok b HM4;unfold yj)|(go_at_call 8;go_must(refine(zui W0).mono ?_);rintro en W1 ⟨⟨kv,rfl,hks⟩,b⟩;(have HB1:=qh (zy HB0.o b));(have HM4:=qh (zum W1 _ l0 (HN.o.below (zy HB0.o b)) kv zg2 hks (by decide) (by decide) zx1));clear hks b))
 have zlS:=xY vP.o;obtain⟨m,hm⟩:=qxE (zj2 q);have hmV:m.model=q % 3/\m.bound=1+q / 3 % 3:=by rw [hm];exact⟨rfl,rfl⟩
 obtain⟨C,hC⟩:=qxE c;obtain⟨M,hM⟩:=qxE m;rw [<-hC] at zlS HC3;obtain⟨vars,L⟩:=qxE C.vars;obtain⟨dom,hdom⟩:=qxE C.domain;obtain⟨mo,hmo⟩:=qxE M.model;obtain⟨bo,wD⟩:=qxE M.bound;obtain⟨cn,hcn⟩:=qxE C.threads.length;have HCV:J2 (C.vars=vars/\C.domain=dom/\M.model=mo/\M.bound=bo):=⟨L.symm,hdom.symm,hmo.symm,wD.symm⟩;simp only [<-hC, <-hm, <-hM, <-L, <-hdom, <-hmo, <-wD, <-hcn,show(zj2 q).model=mo by rw [hmo,hM,hm],show(zj2 q).bound=bo by rw [wD,hM,hm]];have hc3:=HC3.o;rw [<-hcn] at hc3 zlS
 have hB:=((Below.refl W3.heap.size W3).alloc (Nat.le_refl _) (.cells #[.int .i64 vars, .int .i64 dom, .slice ta cn tc] 25)).alloc (by simp) (.cells #[.int .i64 mo, .int .i64 bo] 30);have H1:=qh (xA W3 (.cells #[.int .i64 vars, .int .i64 dom, .slice ta cn tc] 25) (.cells #[.int .i64 mo, .int .i64 bo] 30));have H2:=qh (xq W3 (.cells #[.int .i64 vars, .int .i64 dom, .slice ta cn tc] 25) (.cells #[.int .i64 mo, .int .i64 bo] 30));have HC:=qh (zh.below (xV.stays 3) hc3 hB);have HB:=qh (zy HB3.o hB);have HCN:=qh hcn;have HLC:=qh zlS
 clear hB hcn zlS hC hM hm hmV hc3 HC3 HC2 HB3 HB2 HB1 HB0 vP HN HLQ L hdom hmo wD;generalize World.alloc (World.alloc W3 _) _=V at HB H1 H2 HC ⊢;generalize W3.heap.size=gx at H1 H2 ⊢;have HW2:=qh (HW.o.below HB.o);clear HW;have qy:J2 (∀y,Below V.heap.size V y->K3 y gx 0 (.int .i64 vars)/\K3 y gx 1 (.int .i64 dom)/\K3 y gx 2 (.slice ta cn tc)/\K3 y (gx+1) 0 (.int .i64 mo)/\K3 y (gx+1) 1 (.int .i64 bo)):=λy r=>⟨zl r _ _ (ze H1.o 0),zl r _ _ (ze H1.o 1),zl r _ _ (ze H1.o 2),zl r _ _ (ze H2.o 0),zl r _ _ (ze H2.o 1)⟩;have HF2:=qh (HF.o.below HB.o);have X:=zrk V C (.slice ta cn tc) HC.o M
 unfold yj yE at X;simp only [HCV.o.1,HCV.o.2.1,HCV.o.2.2.1,HCV.o.2.2.2] at X;have zno:=qh X;have zz9:=qh (zrm C M);clear X HCN HLC H1 H2;go_upto_region 6 with(go_at_call 12;go_must(refine(zx2 V _ lf HF2.o).mono ?_);rintro e X1 ⟨⟨k,⟨E,D,B,A⟩,kids⟩,ka,kn,kc,rfl,hfa,hok,hsz,b⟩;unfold vI;simp only [Form.kind,Form.prop];(have HFA:=qh hfa);(have HFO:=qh (And.intro hok hsz));(have wL:=qh b);clear hfa hok hsz b)
 have I:=(Below.refl X1.heap.size X1).alloc (Nat.le_refl _) (.cells #[.int .i64 k, .int .i64 E, .int .i64 D, .int .i64 B, .int .i64 A, .slice ka kn kc] 38);have H3:=qh (zQ X1 (.cells #[.int .i64 k, .int .i64 E, .int .i64 D, .int .i64 B, .int .i64 A, .slice ka kn kc] 38));have HX2:=qh (zy wL.o I);have HF3:=qh (xE.below HFA.o I);clear I HFA wL;generalize World.alloc X1 _=X2 at H3 HX2 HF3 ⊢;obtain⟨gf,hgf⟩:=qxE X1.heap.size;rw [<-hgf] at H3 ⊢;clear hgf;obtain⟨c0,c1,c2,c3,c4⟩:=qy.o X2 HX2.o
 go_upto_region 7 with(go_at_call 13;go_must(refine(zno.o.1 X2 HX2.o wv lw (HW2.o.below HX2.o)).mono ?_);rintro e X3 ⟨⟨ra,rc,rn,ml,bk,hrn,rfl,hro,hbk,hwf⟩,b⟩;(have HRO:=qh hro);(have jS:=qh hrn);(have HBK:=qh hbk);(have HWF:=qh hwf);(have HX3:=qh b);clear hro hrn hbk hwf b c0 c1 c2 c3 c4)
 have I:=(Below.refl X3.heap.size X3).alloc (Nat.le_refl _) (.cells #[.slice ra rn rc, .int .i64 bk] 42);have H4:=qh (zQ X3 (.cells #[.slice ra rn rc, .int .i64 bk] 42));have W:=qh (zy HX2.o (zy HX3.o I));have hml:=jT (zeY (l:=ml) (by rw [<-jS.o];exact HRO.o)) I;have HML:=qh hml;have HF4:=qh (xE.below HF3.o (zy HX3.o I));have J:=qh (((zy HX3.o I).block _ (zA H3.o)).trans H3.o);clear I HRO hml HF3 H3 HX2 HX3;generalize World.alloc X3 _=X4 at H4 W HML HF4 J ⊢;obtain⟨gr,hgr⟩:=qxE X3.heap.size;rw [<-hgr] at H4 ⊢;clear hgr
 have CC:J2 (∀y,Below X4.heap.size X4 y->(K3 y gx 0 (.int .i64 vars)/\K3 y gx 1 (.int .i64 dom)/\K3 y gx 2 (.slice ta cn tc)/\K3 y (gx+1) 0 (.int .i64 mo)/\K3 y (gx+1) 1 (.int .i64 bo))/\K3 y gr 0 (.slice ra rn rc)/\K3 y gr 1 (.int .i64 bk)):=λy r=>
  ⟨qy.o y (zy W.o r),zl r _ _ (ze H4.o 0),zl r _ _ (ze H4.o 1)⟩
 have CF:J2 (∀y,Below X4.heap.size X4 y->K3 y gf 0 (.int .i64 k)/\K3 y gf 1 (.int .i64 E)/\K3 y gf 2 (.int .i64 D)/\K3 y gf 3 (.int .i64 B)/\K3 y gf 4 (.int .i64 A)/\K3 y gf 5 (.slice ka kn kc)):=λy r=>
  ⟨zl r _ _ (ze J.o 0),zl r _ _ (ze J.o 1),zl r _ _ (ze J.o 2),zl r _ _ (ze J.o 3),zl r _ _ (ze J.o 4),zl r _ _ (ze J.o 5)⟩
 have HST:=qh (zno.o.2.1 X4 W.o _ ml HML.o bk);have HFR:=qh (λy (r:Below X4.heap.size X4 y)=>zno.o.2.2.1 y (zy W.o r) _ ml (jT HML.o r) HWF.o bk);have HFL:=qh (λy (r:Below X4.heap.size X4 y) d f kv (hf:xE y d f kv)=>zno.o.2.2.2 y (zy W.o r) d f kv hf _ ml (jT HML.o r) HWF.o bk);obtain⟨hno,N,G⟩:=zz9.o;have hno:=hno ml bk;have N:=N ml bk (.mk k ⟨E,D,B,A⟩ kids);have G:=G ml bk;obtain⟨⟨S,er⟩,hS⟩:∃p,p=yM C M ml bk 3:=⟨_,rfl⟩;have hst:=HST.o;rw [<-hS] at hst hno N G;have qL:=qh hst;obtain⟨FR,hFR⟩:=qxE (gM C M ml bk 3);have O:=HFR.o;rw [<-hFR] at O hno G;have zx3:=qh O
 have h1:=λy r=>HFL.o y r 6 (.mk k ⟨E,D,B,A⟩ kids) _ (xE.below HF4.o r);have h2:=λy r (gz:Nat) (hz:xE y 7 (.mk 4 ⟨0,0,0,0⟩ [.mk k ⟨E,D,B,A⟩ kids]) (.slice (some ⟨gz,0,none⟩) 1 1))=>HFL.o y r 7 (.mk 4 ⟨0,0,0,0⟩ [.mk k ⟨E,D,B,A⟩ kids]) _ hz;obtain⟨F1,hF1⟩:=qxE (uw C M 3 (.mk k ⟨E,D,B,A⟩ kids) false ml bk);obtain⟨F2,hF2⟩:=qxE (uw C M 3 (.mk 4 ⟨0,0,0,0⟩ [.mk k ⟨E,D,B,A⟩ kids]) false ml bk);rw [<-hF1] at h1 N;rw [<-hF2] at h2 N;unfold vI at h1 h2;simp only [Form.kind,Form.prop] at h1 h2;have HL1:=qh h1;have HL2:=qh h2;have HNO:=qh hno;have HTU:=qh N;have HSF:=qh G;have zF5:=HFO
 clear h1 h2 hno N G hst O hF1 hF2 hFR hS HST HFR HFL zz9 zno J H4 qy;obtain⟨⟨c0,c1,c2,c3,c4⟩,c5,c6⟩:=CC.o X4 (Below.refl _ _);go_upto_region 8 with(go_at_call 14;go_must(refine(qL.o).mono ?_);rintro e T ⟨⟨a,n,cap,hn,rfl,hs⟩,b⟩;(have H:=qh b);clear b hs hn)
 clear c0 c1 c2 c3 c4 c5 c6;try simp only [] at HNO HTU HSF
 obtain⟨⟨c0,c1,c2,c3,c4⟩,c5,c6⟩:=CC.o T H.o;by_cases her:er=0
 rotate_left
 ·have hz:(er !=0)=true:=by simpa using her
  have O:FR=false:=HNO.o her;subst O;go_wp2_with(go_at_call 15;go_must(refine(zx3.o T H.o).mono ?_);rintro e X6 ⟨rfl,b⟩;have HX6:=qh b;clear b);go_ret;exact⟨rfl,zy HB.o (zy W.o (zy H.o HX6.o))⟩
 subst her;obtain⟨b1,b2,b3⟩:=HBK.o;have zAz:(bk:Int)<(rn:Int):=by omega
 obtain⟨mb,mof,hme, -,x0,x1,x2⟩:=qB.part (jT HML.o H.o) bk (by rw [<-jS.o];exact b3);subst hme;have G:=HSF.o (by first|rfl|trivial);obtain⟨x,hx⟩:=qxE (ml.getD bk default);rw [<-hx] at x0 x1 x2 G;clear hx;obtain⟨xk,xt,xv⟩:=x;simp only [] at x0 x1 x2;have zAL:=qh G;clear G;go_upto_region 10 with fail
 go_cut [16] (λs16 w'=>∃st:Bool,s16= .bool st/\J2 (st=true->FR=true)/\J2 (w'=T))
 case first=>
  by_cases e1:xk=0
  ·by_cases e2:xt=0
   ·by_cases e3:xv=0
    ·subst e1 e2 e3;go_wp2_with fail
     go_meet
     case rel=>exact⟨true,rfl,λ_=>zAL.o rfl,rfl⟩
    go_wp2_with fail
    go_meet
    case rel=>exact⟨false,rfl,λh=>(by cases h),rfl⟩
   go_wp2_with fail
   go_meet
   case rel=>exact⟨false,rfl,λh=>(by cases h),rfl⟩
  go_wp2_with fail
  go_meet
  case rel=>exact⟨false,rfl,λh=>(by cases h),rfl⟩
 case rest=>
 obtain⟨st,rfl,zAM,hw⟩:=hcut;rw [hw.o];clear hw x0 x1 x2 c0 c1 c2 c3 c4 c5 c6;have hne:=HTU.o (by first|rfl|trivial) HFO.o;have uM:=qh (zy HB.o (zy W.o H.o))
 have F:J2 (∀y,Below T.heap.size T y->K3 y gx 0 (.int .i64 vars)/\K3 y gx 1 (.int .i64 dom)/\K3 y gx 2 (.slice ta cn tc)/\K3 y (gx+1) 0 (.int .i64 mo)/\K3 y (gx+1) 1 (.int .i64 bo)/\K3 y gr 0 (.slice (some ⟨mb,mof,none⟩) rn rc)/\K3 y gr 1 (.int .i64 bk)/\
   K3 y gf 0 (.int .i64 k)/\K3 y gf 1 (.int .i64 E)/\K3 y gf 2 (.int .i64 D)/\K3 y gf 3 (.int .i64 B)/\K3 y gf 4 (.int .i64 A)/\K3 y gf 5 (.slice ka kn kc)):=λy r=>by
  obtain⟨⟨e0,e1,e2,e3,e4⟩,e5,e6⟩:=CC.o y (zy H.o r);exact⟨e0,e1,e2,e3,e4,e5,e6,CF.o y (zy H.o r)⟩
 have hf2:F2= !F1:=by revert hne;cases F1<;>cases F2<;>simp
 clear hne HTU;subst hf2;cases st with
 |true=>
  have O:FR=true:=zAM.o (by first|rfl|trivial);subst O;go_upto_region 11 with fail
  refine qz (S:=λx=>Below T.heap.size T x) (Below.refl _ _).drew (λ_=> ?_)
  obtain⟨U,P⟩:=qxE T.drew;have g:J2 (Below T.heap.size T U):=by rw [P];exact(Below.refl _ _).drew
  rw [<-P];clear P;refine zB 0 zM (g.o) ?_
  refine zB 1 zM (g.o) ?_
  refine zB 2 F.o (g.o) ?_
  refine zB 3 F.o (g.o) ?_
  refine zB 4 F.o (g.o) ?_
  refine zB 5 F.o (g.o) ?_
  refine zB 7 F.o (g.o) ?_
  refine zB 8 F.o (g.o) ?_
  refine zB 9 F.o (g.o) ?_
  refine zB 12 F.o (g.o) ?_
  refine wpAnyH_ready (rs:= [6,10]) (by kernel_rfl) (by simp) ?_
  refine AllReadyH.cons rfl (λK hK=> ?_) (AllReadyH.cons rfl (λK hK=> ?_) AllReadyH.nil)
  ·skip
   go_simp
   refine(HL1.o U (zy H.o g.o)).mono ?_
   rintro e Wa1 ⟨rfl,b⟩;have z4S:=qh (zy g.o b);clear b;refine hK.out _ _ z4S.o (λ_=> ?_)
   clear hK K;refine yA 10 rfl (λK hK=> ?_)
   go_simp
   have b:=(Below.refl Wa1.heap.size Wa1).alloc (Nat.le_refl _) (.cells #[.int .i64 k, .int .i64 E, .int .i64 D, .int .i64 B, .int .i64 A, .slice ka kn kc] 38);have Z:=qh (zy z4S.o b);have zro:=qh (zb7 (f:= .mk k ⟨E,D,B,A⟩ kids) (d:=6) (k:=4) (p:=⟨0,0,0,0⟩) (zQ Wa1 (.cells #[.int .i64 k, .int .i64 E, .int .i64 D, .int .i64 B, .int .i64 A, .slice ka kn kc] 38)) (xE.below HF4.o (zy H.o Z.o)));clear b;refine hK.out _ _ Z.o (λ_=> ?_)
   obtain⟨gz,z⟩:=qxE Wa1.heap.size;rw [<-z] at zro ⊢;clear z;generalize World.alloc Wa1 _=Ya3 at zro Z ⊢;clear hK K;refine zB 11 zM (Z.o) ?_
   refine yA 13 rfl (λK hK=> ?_)
   go_simp
   refine(HL2.o Ya3 (zy H.o Z.o) gz zro.o).mono ?_
   rintro e Wa6 ⟨rfl,b⟩;have t:=qh (zy Z.o b);have zAN:=qh (xE.below zro.o b);clear b;refine hK.out _ _ t.o (λ_=> ?_)
   clear hK K;refine zB 14 zM (t.o) ?_
   refine zB 15 zM (t.o) ?_
   refine zB 16 zM (t.o) ?_
   refine zB 17 zM (t.o) ?_
   refine zB 18 zM (t.o) ?_
   refine zB 19 zM (t.o) ?_
   refine zB 20 F.o (t.o) ?_
   refine zB 21 F.o (t.o) ?_
   refine zB 22 F.o (t.o) ?_
   refine yA 23 rfl (λK hK=> ?_)
   go_simp
   refine(zx3.o Wa6 (zy H.o t.o)).mono ?_
   rintro e Wa9 ⟨rfl,b⟩;have zj4:=qh (zy t.o b);have zEP:=qh (xE.below zAN.o b);clear b;refine hK.out _ _ zj4.o (λ_=> ?_)
   clear hK K;refine zB 24 zM (zj4.o) ?_
   refine zB 25 zM (zj4.o) ?_
   refine zB 26 zM (zj4.o) ?_
   refine xC ?_
   go_wp2_with fail
   go_ret;exact⟨by first|rfl|simp,zy uM.o (zj4.o)⟩
  skip
  go_simp
  have b:=(Below.refl U.heap.size U).alloc (Nat.le_refl _) (.cells #[.int .i64 k, .int .i64 E, .int .i64 D, .int .i64 B, .int .i64 A, .slice ka kn kc] 38);have s:=qh (zy g.o b);have zrp:=qh (zb7 (f:= .mk k ⟨E,D,B,A⟩ kids) (d:=6) (k:=4) (p:=⟨0,0,0,0⟩) (zQ U (.cells #[.int .i64 k, .int .i64 E, .int .i64 D, .int .i64 B, .int .i64 A, .slice ka kn kc] 38)) (xE.below HF4.o (zy H.o s.o)));clear b;refine hK.out _ _ s.o (λ_=> ?_)
  obtain⟨gz,z⟩:=qxE U.heap.size;rw [<-z] at zrp ⊢;clear z;generalize World.alloc U _=zAO at zrp s ⊢;clear hK K;refine zB 11 zM (s.o) ?_
  refine yA 6 rfl (λK hK=> ?_)
  go_simp
  refine(HL1.o zAO (zy H.o s.o)).mono ?_
  rintro e zAP ⟨rfl,b⟩;have zrq:=qh (zy s.o b);have zzB:=qh (xE.below zrp.o b);clear b;refine hK.out _ _ zrq.o (λ_=> ?_)
  clear hK K;refine yA 13 rfl (λK hK=> ?_)
  go_simp
  refine(HL2.o zAP (zy H.o zrq.o) gz zzB.o).mono ?_
  rintro e zAQ ⟨rfl,b⟩;have u:=qh (zy zrq.o b);have z7k:=qh (xE.below zzB.o b);clear b;refine hK.out _ _ u.o (λ_=> ?_)
  clear hK K;refine zB 14 zM (u.o) ?_
  refine zB 15 zM (u.o) ?_
  refine zB 16 zM (u.o) ?_
  refine zB 17 zM (u.o) ?_
  refine zB 18 zM (u.o) ?_
  refine zB 19 zM (u.o) ?_
  refine zB 20 F.o (u.o) ?_
  refine zB 21 F.o (u.o) ?_
  refine zB 22 F.o (u.o) ?_
  refine yA 23 rfl (λK hK=> ?_)
  go_simp
  refine(zx3.o zAQ (zy H.o u.o)).mono ?_
  rintro e zF6 ⟨rfl,b⟩;have zj5:=qh (zy u.o b);have zEQ:=qh (xE.below z7k.o b);clear b;refine hK.out _ _ zj5.o (λ_=> ?_)
  clear hK K;refine zB 24 zM (zj5.o) ?_
  refine zB 25 zM (zj5.o) ?_
  refine zB 26 zM (zj5.o) ?_
  refine xC ?_
  go_wp2_with fail
  go_ret;exact⟨by first|rfl|simp,zy uM.o (zj5.o)⟩
 |false=>
 go_upto_region 11 with fail
 refine qz (S:=λx=>Below T.heap.size T x) (Below.refl _ _).drew (λ_=> ?_)
 obtain⟨U,P⟩:=qxE T.drew;have g:J2 (Below T.heap.size T U):=by rw [P];exact(Below.refl _ _).drew
 rw [<-P];clear P;refine zB 0 zM (g.o) ?_
 refine zB 1 zM (g.o) ?_
 refine zB 2 F.o (g.o) ?_
 refine zB 3 F.o (g.o) ?_
 refine zB 4 F.o (g.o) ?_
 refine zB 5 F.o (g.o) ?_
 refine zB 7 F.o (g.o) ?_
 refine zB 8 F.o (g.o) ?_
 refine zB 9 F.o (g.o) ?_
 refine zB 12 F.o (g.o) ?_
 refine wpAnyH_ready (rs:= [6,10]) (by kernel_rfl) (by simp) ?_
 refine AllReadyH.cons rfl (λK hK=> ?_) (AllReadyH.cons rfl (λK hK=> ?_) AllReadyH.nil)
 ·skip
  go_simp
  refine(HL1.o U (zy H.o g.o)).mono ?_
  rintro e Wb1 ⟨rfl,b⟩;have z4T:=qh (zy g.o b);clear b;refine hK.out _ _ z4T.o (λ_=> ?_)
  clear hK K;refine yA 10 rfl (λK hK=> ?_)
  go_simp
  have b:=(Below.refl Wb1.heap.size Wb1).alloc (Nat.le_refl _) (.cells #[.int .i64 k, .int .i64 E, .int .i64 D, .int .i64 B, .int .i64 A, .slice ka kn kc] 38);have Y:=qh (zy z4T.o b);have zrr:=qh (zb7 (f:= .mk k ⟨E,D,B,A⟩ kids) (d:=6) (k:=4) (p:=⟨0,0,0,0⟩) (zQ Wb1 (.cells #[.int .i64 k, .int .i64 E, .int .i64 D, .int .i64 B, .int .i64 A, .slice ka kn kc] 38)) (xE.below HF4.o (zy H.o Y.o)));clear b;refine hK.out _ _ Y.o (λ_=> ?_)
  obtain⟨gz,z⟩:=qxE Wb1.heap.size;rw [<-z] at zrr ⊢;clear z;generalize World.alloc Wb1 _=Yb3 at zrr Y ⊢;clear hK K;refine zB 11 zM (Y.o) ?_
  refine yA 13 rfl (λK hK=> ?_)
  go_simp
  refine(HL2.o Yb3 (zy H.o Y.o) gz zrr.o).mono ?_
  rintro e Wb6 ⟨rfl,b⟩;have j:=qh (zy Y.o b);have zF7:=qh (xE.below zrr.o b);clear b;refine hK.out _ _ j.o (λ_=> ?_)
  clear hK K;refine zB 14 zM (j.o) ?_
  refine zB 15 zM (j.o) ?_
  refine zB 16 zM (j.o) ?_
  refine zB 17 zM (j.o) ?_
  refine zB 18 zM (j.o) ?_
  refine zB 19 zM (j.o) ?_
  refine wpAnyH_take (i:=20) (v:=undef) rfl (by kernel_rfl) (by kernel_rfl) (by kernel_rfl) (λ_ _ _ h=>h) (Or.inr ⟨by rfl,rfl⟩) (j.o) ?_
  change wpAnyH _ _ _ _ _ _ _ (Act.put _ (some 76) _) _;simp only [Act.put,jJ];try simp only [jK,jL]
  refine wpAnyH_take (i:=21) (v:=undef) rfl (by kernel_rfl) (by kernel_rfl) (by kernel_rfl) (λ_ _ _ h=>h) (Or.inr ⟨by rfl,rfl⟩) (j.o) ?_
  change wpAnyH _ _ _ _ _ _ _ (Act.put _ (some 77) _) _;simp only [Act.put,jJ];try simp only [jK,jL]
  refine wpAnyH_take (i:=22) (v:=undef) rfl (by kernel_rfl) (by kernel_rfl) (by kernel_rfl) (λ_ _ _ h=>h) (Or.inr ⟨by rfl,rfl⟩) (j.o) ?_
  change wpAnyH _ _ _ _ _ _ _ (Act.put _ (some 78) _) _;simp only [Act.put,jJ];try simp only [jK,jL]
  refine wpAnyH_take (i:=23) (v:=undef) rfl (by kernel_rfl) (by kernel_rfl) (by kernel_rfl) (λ_ _ _ h=>h) (Or.inr ⟨by rfl,rfl⟩) (j.o) ?_
  change wpAnyH _ _ _ _ _ _ _ (Act.put _ (some 79) _) _;simp only [Act.put,jJ];try simp only [jK,jL]
  refine zB 24 zM (j.o) ?_
  refine zB 25 zM (j.o) ?_
  refine zB 26 zM (j.o) ?_
  refine xC ?_
  go_wp2_with fail
  go_ret;exact⟨by first|rfl|simp,zy uM.o (j.o)⟩
 skip
 go_simp
 have b:=(Below.refl U.heap.size U).alloc (Nat.le_refl _) (.cells #[.int .i64 k, .int .i64 E, .int .i64 D, .int .i64 B, .int .i64 A, .slice ka kn kc] 38);have Q:=qh (zy g.o b);have zrs:=qh (zb7 (f:= .mk k ⟨E,D,B,A⟩ kids) (d:=6) (k:=4) (p:=⟨0,0,0,0⟩) (zQ U (.cells #[.int .i64 k, .int .i64 E, .int .i64 D, .int .i64 B, .int .i64 A, .slice ka kn kc] 38)) (xE.below HF4.o (zy H.o Q.o)));clear b;refine hK.out _ _ Q.o (λ_=> ?_)
 obtain⟨gz,z⟩:=qxE U.heap.size;rw [<-z] at zrs ⊢;clear z;generalize World.alloc U _=Yb9 at zrs Q ⊢;clear hK K;refine zB 11 zM (Q.o) ?_
 refine yA 6 rfl (λK hK=> ?_)
 go_simp
 refine(HL1.o Yb9 (zy H.o Q.o)).mono ?_
 rintro e zAR ⟨rfl,b⟩;have zrt:=qh (zy Q.o b);have zzC:=qh (xE.below zrs.o b);clear b;refine hK.out _ _ zrt.o (λ_=> ?_)
 clear hK K;refine yA 13 rfl (λK hK=> ?_)
 go_simp
 refine(HL2.o zAR (zy H.o zrt.o) gz zzC.o).mono ?_
 rintro e zF8 ⟨rfl,b⟩;have R:=qh (zy zrt.o b);have zER:=qh (xE.below zzC.o b);clear b;refine hK.out _ _ R.o (λ_=> ?_)
 clear hK K;refine zB 14 zM (R.o) ?_
 refine zB 15 zM (R.o) ?_
 refine zB 16 zM (R.o) ?_
 refine zB 17 zM (R.o) ?_
 refine zB 18 zM (R.o) ?_
 refine zB 19 zM (R.o) ?_
 refine wpAnyH_take (i:=20) (v:=undef) rfl (by kernel_rfl) (by kernel_rfl) (by kernel_rfl) (λ_ _ _ h=>h) (Or.inr ⟨by rfl,rfl⟩) (R.o) ?_
 change wpAnyH _ _ _ _ _ _ _ (Act.put _ (some 76) _) _;simp only [Act.put,jJ];try simp only [jK,jL]
 refine wpAnyH_take (i:=21) (v:=undef) rfl (by kernel_rfl) (by kernel_rfl) (by kernel_rfl) (λ_ _ _ h=>h) (Or.inr ⟨by rfl,rfl⟩) (R.o) ?_
 change wpAnyH _ _ _ _ _ _ _ (Act.put _ (some 77) _) _;simp only [Act.put,jJ];try simp only [jK,jL]
 refine wpAnyH_take (i:=22) (v:=undef) rfl (by kernel_rfl) (by kernel_rfl) (by kernel_rfl) (λ_ _ _ h=>h) (Or.inr ⟨by rfl,rfl⟩) (R.o) ?_
 change wpAnyH _ _ _ _ _ _ _ (Act.put _ (some 78) _) _;simp only [Act.put,jJ];try simp only [jK,jL]
 refine wpAnyH_take (i:=23) (v:=undef) rfl (by kernel_rfl) (by kernel_rfl) (by kernel_rfl) (λ_ _ _ h=>h) (Or.inr ⟨by rfl,rfl⟩) (R.o) ?_
 change wpAnyH _ _ _ _ _ _ _ (Act.put _ (some 79) _) _;simp only [Act.put,jJ];try simp only [jK,jL]
 refine zB 24 zM (R.o) ?_
 refine zB 25 zM (R.o) ?_
 refine zB 26 zM (R.o) ?_
 refine xC ?_
 go_wp2_with fail
 go_ret;exact⟨by first|rfl|simp,zy uM.o (R.o)⟩
