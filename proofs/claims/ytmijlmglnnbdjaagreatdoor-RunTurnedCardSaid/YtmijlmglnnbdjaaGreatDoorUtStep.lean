/- Steps. -/
import Derived.Test.YtmijlmglnnbdjaaGreatDoorUtOwn
import Derived.Test.YtmijlmglnnbdjaaGreatDoorUtOwnS
set_option linter.all false
namespace Go.Proofs.YtmijlmglnnbdjaaGreatDoor
open Go.RowKit
set_option maxRecDepth 100000
set_option maxHeartbeats 16000000
structure jg (W X:World) (gb gi tb n tc mb mn mc:Nat) (bad:Bool) (ts:List zD) (mem:List Int) (bs:List Value) (gG:List Value):Prop where
 own:jl W X gb (.slice (some ⟨tb,0,none⟩) n tc) (.slice (some ⟨mb,0,none⟩) mn mc) bad ts mem bs
 instr:X.heap[gi]? =some (.cells gG.toArray 107 (0,0))
 g1:gi≠gb
 g2:gi≠tb
 g3:gi≠mb
theorem jg.below {W X g:World} {gb d tb n tc mb b mc:Nat} {bad:Bool} {ts:List zD} {mem:List Int} {bs f:List Value} (h:jg W X gb d tb n tc mb b mc bad ts mem bs f) (c:Below X.heap.size X g):jg W g gb d tb n tc mb b mc bad ts mem bs f:=
 ⟨h.own.later c,(c.block _ (zA h.instr)).trans h.instr,h.g1,h.g2,h.g3⟩
theorem jg.thread {W X:World} {gb g tb n tc mb f mc:Nat} {bad:Bool} {ts:List zD} {mem:List Int} {bs l:List Value} (h:jg W X gb g tb n tc mb f mc bad ts mem bs l) {i k:Nat} (o:i<ts.length) (c:k<6) {t:zD} {b u:Value}
  (q:t.cells b=((ts.getD i default).cells (bs.getD i (N7))).set k u) (m:t.regs.length=4) (r:X.ownsRow W.heap.size 116 2 b t.buf.length (zx zq.cells t.buf)) (d:∀k,b.ownBlock=some k->k≠tb/\k≠mb/\k≠gb)
  (p:∀k,b.ownBlock=some k->∀j,j<ts.length->j≠i->(bs.getD j (N7)).ownBlock≠some k):
  jg W (X.setCell ⟨tb,i*6+k,none⟩ u) gb g tb n tc mb f mc bad (ts.set i t) mem (bs.set i b) l:=
 ⟨h.own.thread o c q m r (λk c=>⟨(d k c).1,λe=>(d k c).2.1 (by simpa [Value.ownBlock] using e.symm),(d k c).2.2⟩) p,(Below.heap_setCell _ _ _ _ h.g2).trans h.instr,h.g1,h.g2,h.g3⟩
theorem jg.mem {W X:World} {gb c tb n tc mb b mc:Nat} {bad:Bool} {ts:List zD} {mem:List Int} {bs d:List Value} (h:jg W X gb c tb n tc mb b mc bad ts mem bs d) (j:Nat) (x:Int):
  jg W (X.setCell ⟨mb,j,none⟩ (I4 x)) gb c tb n tc mb b mc bad ts (mem.set j x) bs d:=
 ⟨h.own.mem j x,(Below.heap_setCell _ _ _ _ h.g3).trans h.instr,h.g1,h.g2,h.g3⟩
theorem jg.isBad {W X:World} {gb d tb n tc mb c mc:Nat} {bad:Bool} {ts:List zD} {mem:List Int} {bs f:List Value} (h:jg W X gb d tb n tc mb c mc bad ts mem bs f) (b:Bool):
  jg W (X.setCell ⟨gb,2,none⟩ (.bool b)) gb d tb n tc mb c mc b ts mem bs f:=
 ⟨h.own.isBad b,(Below.heap_setCell _ _ _ _ h.g1).trans h.instr,h.g1,h.g2,h.g3⟩
theorem jg.zqh {W X:World} {gb j tb n tc mb d mc:Nat} {bad:Bool} {ts:List zD} {mem:List Int} {bs l:List Value} (h:jg W X gb j tb n tc mb d mc bad ts mem bs l) {i:Nat} (f:i<ts.length):
  ∀k u,k<6->((ts.getD i default).cells (bs.getD i (N7)))[k]? =some u->X.cell? ⟨tb,i*6+k,none⟩=some u/\X.frozen? ⟨tb,i*6+k,none⟩=false:=by
 obtain⟨c,b,e, -,g⟩:=h.own.threads f;cases e
 exact g
theorem jg.zlE {W X:World} {gb i tb n tc mb b mc:Nat} {bad:Bool} {ts:List zD} {mem:List Int} {bs k:List Value} (h:jg W X gb i tb n tc mb b mc bad ts mem bs k) {j:Nat} (f:j<mem.length):
  X.cell? ⟨mb,j,none⟩=some (I4 (mem.getD j 0))/\X.frozen? ⟨mb,j,none⟩=false:=by
 obtain⟨d,c,e, -,g⟩:=h.own.vars (by omega);cases e
 exact g j f
theorem jg.buf {W X:World} {gb f tb n tc mb d mc:Nat} {bad:Bool} {ts:List zD} {mem:List Int} {bs g:List Value} (h:jg W X gb f tb n tc mb d mc bad ts mem bs g) {i:Nat} (b:i<ts.length):
  X.ownsRow W.heap.size 116 2 (bs.getD i (N7)) (ts.getD i default).buf.length (zx zq.cells (ts.getD i default).buf)/\∀k,(bs.getD i (N7)).ownBlock=some k->k≠tb/\k≠mb/\k≠gb:=
 ⟨h.own.own.buf i b,λk c=>⟨λe=>(h.own.own.ne i b k c).1 (by rw [e];rfl),λe=>(h.own.own.ne i b k c).2 (by rw [e];rfl),λe=>h.own.n3 i b (e ▸ c)⟩⟩
theorem jg.dist {W X:World} {gb l tb n tc mb c mc:Nat} {bad:Bool} {ts:List zD} {mem:List Int} {bs m:List Value} (h:jg W X gb l tb n tc mb c mc bad ts mem bs m) {i:Nat} (g:i<ts.length):
  ∀k,(bs.getD i (N7)).ownBlock=some k->∀j,j<ts.length->j≠i->(bs.getD j (N7)).ownBlock≠some k:=λk d j f b=>h.own.own.one i j g f (λe=>b e.symm) k d
theorem jg.set {W X:World} {gb m tb n tc mb j mc:Nat} {bad:Bool} {ts:List zD} {mem:List Int} {bs o:List Value} (h:jg W X gb m tb n tc mb j mc bad ts mem bs o) {i k:Nat} (d:i<ts.length) (r:k<6) {t t':zD} {b u:Value}
  (l:ts.getD i default=t) (c:bs.getD i (N7)=b) (v:t'.cells b=(t.cells b).set k u) (p:t'.regs.length=4) (f:t'.buf=t.buf):
  jg W (X.setCell ⟨tb,i*6+k,none⟩ u) gb m tb n tc mb j mc bad (ts.set i t') mem (bs.set i b) o/\(ts.set i t').getD i default=t'/\(bs.set i b).getD i (N7)=b/\i<(ts.set i t').length:=by
 have q:=h.own.own.len;have g:=h.buf d;rw [l,c] at g;refine⟨h.thread d r (by rw [l,c];exact v) p (by rw [f];exact g.1) g.2 (by have:=h.dist d;rw [c] at this;exact this),by rw [vJ d,if_pos rfl],by rw [vJ (by rw [q];exact d),if_pos rfl],by rw [List.length_set];exact d⟩
theorem jg.pE {W X:World} {gb j tb n tc mb d mc:Nat} {bad:Bool} {ts:List zD} {mem:List Int} {bs l:List Value} (h:jg W X gb j tb n tc mb d mc bad ts mem bs l) {i:Nat} (g:i<ts.length) {t:zD} {b:Value}
  (f:ts.getD i default=t) (c:bs.getD i (N7)=b):∀k u,k<6->(t.cells b)[k]? =some u->X.cell? ⟨tb,i*6+k,none⟩=some u/\X.frozen? ⟨tb,i*6+k,none⟩=false:=by
 have:=h.zqh g
 rw [f,c] at this;exact this
theorem zc9 {pc r0 r1 r2 r3 v:Int} {c:List zq} {b:Value} {k:Nat} (d:k<4):(⟨pc, [r0,r1,r2,r3].set k v,c⟩:zD).cells b=((⟨pc, [r0,r1,r2,r3],c⟩:zD).cells b).set (1+k) (I4 v):=by
 have:k=0\/k=1\/k=2\/k=3:=by omega
 rcases this with rfl|rfl|rfl|rfl<;>rfl
theorem zeO {pc r0 r1 r2 r3:Int} {c:List zq} {b:Value} {k:Nat} (d:k<4):((⟨pc, [r0,r1,r2,r3],c⟩:zD).cells b)[1+k]? =some (I4 ([r0,r1,r2,r3].getD k 0)):=by
 have:k=0\/k=1\/k=2\/k=3:=by omega
 rcases this with rfl|rfl|rfl|rfl<;>rfl
theorem zsF {pc r0 r1 r2 r3:Int} {c:List zq} {b:Value} {k:Nat} (d:k<4):((⟨pc, [r0,r1,r2,r3].set k 0,c⟩:zD).cells b)[1+k]? =some (I4 ([0,0,0,0].getD k 0)):=by
 have:k=0\/k=1\/k=2\/k=3:=by omega
 rcases this with rfl|rfl|rfl|rfl<;>rfl
theorem zop {pc r0 r1 r2 r3:Int} {c:List zq} {b:Value} {k:Nat} (d:k<4):(⟨pc, [r0,r1,r2,r3].set k 1,c⟩:zD).cells b=((⟨pc, [r0,r1,r2,r3].set k 0,c⟩:zD).cells b).set (1+k) (I4 1):=by
 have:k=0\/k=1\/k=2\/k=3:=by omega
 rcases this with rfl|rfl|rfl|rfl<;>rfl
theorem uU {R:Option zo} {p m:Option Addr} {n o k l B:Nat} {b:Bool} {X:World} (h:R=none):∃j g i f c d s',Ending.returned (.tuple #[.agg #[.slice p n o, .slice m k l, .bool b], .bool false])= .returned (.tuple #[yB s' (.slice j g i) (.slice f c d), .bool R.isSome])/\∀t,R=some t->s'=t/\∃bs,OwnAt B X (.slice j g i) (.slice f c d) t.threads t.mem bs:=
 ⟨p,n,o,m,k,l,⟨[], [],b⟩,by rw [h];rfl,λt e=>by rw [h] at e;cases e⟩
theorem vD {R:Option zo} {o l:Option Addr} {m n j k B:Nat} {s:zo} {bs:List Value} {X:World} (h:R=some s) (p:OwnAt B X (.slice o m n) (.slice l j k) s.threads s.mem bs):∃i f g d b c s',Ending.returned (.tuple #[.agg #[.slice o m n, .slice l j k, .bool s.bad], .bool true])= .returned (.tuple #[yB s' (.slice i f g) (.slice d b c), .bool R.isSome])/\∀t,R=some t->s'=t/\∃bs,OwnAt B X (.slice i f g) (.slice d b c) t.threads t.mem bs:=
 ⟨o,m,n,l,j,k,s,by rw [h];rfl,λt e=>by rw [h] at e;cases e;exact⟨rfl,bs,p⟩⟩
theorem wP.z07 {e t:TypeId} {size:Nat} {V X:World} {v:Value} {n:Nat} {xs:List Value} {bs:List (Nat × List Value)} (h:wP e size t V X v n xs bs) {g:Nat} {cs:List Value} (c:(g,cs)∈bs) (l:List Value) (b:cs.length=l.length):
  Below V.heap.size V (yU X g 0 l)/\(yU X g 0 l).heap[g]? =some (.cells l.toArray t (0,0))/\V.heap.size<=g:=by
 obtain⟨f, -,d⟩:=h.news _ c;exact⟨h.below.trans ((xR l X 0).below h.below.size (λk e=>by omega)),qU l b f,d⟩
theorem zmn (w:World) (c:zG) (cv:Value) (d:Nat) (hc:yP d w cv c.threads) (m:zC) (s:zo) (sv mv:Value) (hs:yD w s sv mv) (hfit:yJ c m s=true) (i:Nat) (hi:i<s.threads.length) (hb:∀j,j<s.threads.length->(s.threads.getD j default).buf.length<=100000):
  Calls Tryz.prog 57 #[yj c cv,yE m,yB s sv mv,I4 i] w λe w'=>(∃xa xn xc ya yn yc s',e= .returned (.tuple #[yB s' (.slice xa xn xc) (.slice ya yn yc), .bool (kQ c m s i d).isSome])/\∀t,kQ c m s i d=some t->s'=t/\∃bs,OwnAt w.heap.size w' (.slice xa xn xc) (.slice ya yn yc) t.threads t.mem bs)/\Below w.heap.size w w':=by
 obtain⟨hcode,hmay,hlen,hmem,zmo⟩:=zam hfit;have hbd:=xY hcode;obtain⟨zgf,zmp⟩:=zmo i hi;have hins:=λk (hk:k<(c.threads.getD i []).length)=>ziB hcode (i:=i) (k:=k) (by rw [<-hlen];exact hi) hk;clear hcode hmay zmo hfit;obtain⟨ca,cc,rfl, -⟩:=zh.slice hc;obtain⟨ta,j6,rfl, -⟩:=zh.slice hs.threads;obtain⟨ma,vU,rfl, -⟩:=zh.slice hs.mem;have hown:=λW hW=>zpb W s (.slice ta s.threads.length j6) (.slice ma s.mem.length vU) hW (by omega) (by omega) (λj hj=>by have:=hb j hj;omega)
 obtain⟨R,hR⟩:=qxE (kQ c m s i d);rw [<-hR];obtain⟨l,hl⟩:=qxE (c.threads.getD i [] );obtain⟨t,ht⟩:=qxE (s.threads.getD i default);have hR2:R=if t.pc<(l.length:Int) then(stepT c m s t (l.getD t.pc.toNat default) d).map (λr=>⟨s.threads.set i r.1,r.2.1,r.2.2⟩) else none:=by rw [hR,hl,ht];rfl
 rw [<-ht] at zgf zmp;rw [<-hl] at zmp hins;have HST:J2 (∀x,stepT c m s t x d=stepT c m s t x d):=λ_=>rfl;obtain⟨C,hC⟩:=qxE c;obtain⟨M,hM⟩:=qxE m;obtain⟨S,hS⟩:=qxE s;rw [<-hC, <-hM, <-hS] at hR2;clear HST;have HRR:=qh hR2;have hT:=hs.threads;have hME:=hs.mem;obtain⟨vars,dom,cs⟩:=c;obtain⟨mod,bnd⟩:=m;obtain⟨ts,mem,bad⟩:=s;simp only [] at hc hs hi hb hlen hmem hbd hl ht hT hME hown hins zgf zmp hR2 ⊢;unfold yj yE yB;unfold yB at hown;simp only [] at hown ⊢;obtain⟨n,hn⟩:=qxE ts.length;obtain⟨cn,hcn⟩:=qxE cs.length;obtain⟨mn,hmn⟩:=qxE mem.length;rw [<-hn] at hT hown hi hb hlen ⊢
 rw [<-hmn] at hME hown hmem ⊢;rw [<-hcn] at hc hlen hbd ⊢;rw [<-hn, <-hmn] at hs;have qP:=qh hlen;have HME:=qh hmem;have HC:=qh hC;have HM:=qh hM;have HS:=qh hS;have HL:=qh hl;have HT:=qh ht;have HN:=qh hn;have HCN:=qh hcn;have jE:=qh hmn;have HBU:=qh hb;have z1O:=qh hins;have HOWN:=qh hown;have hB4:=zdc w (.cells #[I4 vars,I4 dom, .slice ca cn cc] 25) (.cells #[I4 mod,I4 bnd] 30) (.cells #[.slice ta n j6, .slice ma mn vU, .bool bad] 61) (.cells #[N7,N7, .bool false] 61);obtain⟨hB,h1,h2,h3,h4,h5⟩:=hB4;have HB:=qh hB;have H1:=qh h1;have H2:=qh h2;have H3:=qh h3;have H4:=qh h4;have H5:=qh h5
 have HCS:=qh (zh.below (xV.stays d) hc hB);have HSW:=qh (yD.below hs hB);have zeP:=qh (zh.below uV.stays hME hB);have z9W:=qh hME;have z9X:=qh h5;clear hlen hmem hC hM hS hl ht hn hcn hmn hb hins hown hB h1 h2 h3 h4 h5 hT hME hc hs hR hR2;go_enter Tryz.func57,Tryz.ntmps57
 go_upto_region 1 with fail
 generalize World.alloc (World.alloc (World.alloc (World.alloc w _) _) _) _=W at HB H1 H2 H3 H4 H5 HCS HSW zeP z9X ⊢;obtain⟨G,hgx⟩:=qxE w.heap.size;rw [<-hgx] at H1 H2 H3 H4 H5 ⊢;have xG:=qh hgx;clear hgx
 have qy:J2 (∀x,Below W.heap.size W x->K3 x G 0 (I4 vars)/\K3 x G 1 (I4 dom)/\K3 x G 2 (.slice ca cn cc)/\
   x.cell? ⟨G+1,0,none⟩=some (I4 mod)/\x.cell? ⟨G+1,1,none⟩=some (I4 bnd)/\x.cell? ⟨G+2,0,none⟩=some (.slice ta n j6)/\x.cell? ⟨G+2,1,none⟩=some (.slice ma mn vU)/\x.cell? ⟨G+2,2,none⟩=some (.bool bad)):=λx hx=>
  ⟨zl hx _ _ (ze H1.o 0),zl hx _ _ (ze H1.o 1),zl hx _ _ (ze H1.o 2),zl hx _ _ (ze H2.o 0),zl hx _ _ (ze H2.o 1),zl hx _ _ (ze H3.o 0),zl hx _ _ (ze H3.o 1),zl hx _ _ (ze H3.o 2)⟩
 obtain⟨c0,c1,c2,c3,c4,c5,c6,c7⟩:=qy.o W (Below.refl _ _);go_upto_region 2 with(go_at_call 59;refine(HOWN.o W HSW.o).mono ?_;rintro e W1 ⟨⟨tv1,mv1,bs,rfl,ho1⟩,hb1⟩;have HO1:=qh ho1;have HB1:=qh hb1;obtain⟨xa,xc,rfl, -, -⟩:=xS ho1.row;obtain⟨ya,yc,rfl, -, -⟩:=xS ho1.mem;clear ho1 hb1)
 rw [<-HN.o, <-jE.o];have zFf:1<=vars:=hbd.1;have zED:2<=dom:=hbd.2.2.1;have zEE:dom<=16:=hbd.2.2.2.1;have pF:n<=4:=by have:=hbd.2.2.2.2.2;have:=qP.o;omega
 have z9Y:mn<=4/\1<=mn:=by have:=hbd.2.1;have:=HME.o;omega
 clear c0 c1 c2 c3 c4 c5 c6 c7 hbd;have hol:=jl.zsK HO1.o HB1.o bad;rw [<-HN.o, <-jE.o] at hol;have HOL:=qh hol;clear hol;generalize World.alloc W1 _=X0 at HOL ⊢;obtain⟨gb,hgb⟩:=qxE W1.heap.size;rw [<-hgb] at HOL ⊢;clear hgb HO1 HB1 HOWN;obtain⟨tb,tc,hxa, -,htc⟩:=HOL.o.threads (by rw [<-HN.o];exact hi);rw [<-HN.o] at hxa;cases hxa
 obtain⟨mb,mc,hya, -,hmc⟩:=HOL.o.vars (by rw [<-jE.o];omega)
 rw [<-jE.o] at hya;cases hya
 have hr4:=HOL.o.own.regs i (by rw [<-HN.o];exact hi);obtain⟨bv,hbv⟩:=qxE (bs.getD i (N7));have hbuf:=(HOL.o.own.buf i (by rw [<-HN.o];exact hi));have hbl:=HBU.o i hi;rw [<-HT.o] at hr4 htc hbuf hbl;rw [<-hbv] at htc hbuf;obtain⟨ba,bc,rfl, -, -⟩:=xS hbuf;obtain⟨pc,rg,bf⟩:=t;obtain⟨r0,r1,r2,r3,rfl⟩:=wM hr4;simp only [] at zgf zmp htc hbuf hbl HRR;obtain⟨bl,wz⟩:=qxE bf.length;rw [<-wz] at htc hbuf hbl hbv;obtain⟨Z,rfl⟩:∃Z:Nat,pc=Z:=⟨pc.toNat,by omega⟩;have jk:=qh wz;have HBV:=qh hbv
 have HTC:J2 (∀k u,k<6-> [Value.int .i64 Z,I4 r0,I4 r1,I4 r2,I4 r3, .slice ba bl bc][k]? =some u->K3 X0 tb (i*6+k) u/\X0.frozen? ⟨tb,i*6+k,none⟩=false):=by
  have e:(⟨(Z:Int), [r0,r1,r2,r3],bf⟩:zD).cells (.slice ba bl bc)= [Value.int .i64 Z,I4 r0,I4 r1,I4 r2,I4 r3, .slice ba bl bc] :=rfl;rw [<-e];exact htc
 clear wz hbv hbuf htc hr4 hmc zgf;obtain⟨ln,hln⟩:=qxE l.length;rw [<-hln] at zmp HRR;obtain⟨eb,eo,ka,kc,yI, -,hec,hel⟩:=yP.part HCS.o i (by rw [<-HCN.o, <-qP.o];exact hi);rw [<-HL.o, <-hln] at hec hel;subst yI;have zvV:=qh hln;clear hln;have HEL:=qh hel;have HEC:J2 (∀x,Below W.heap.size W x->K3 x eb (eo+i) (.slice ka ln kc)):=λx hx=>zl hx _ _ hec;clear hel hec;have zFg:(i:Int)<(cn:Int):=by have:=qP.o;omega
 obtain⟨c0,c1,c2,c3,c4,c5,c6,c7⟩:=qy.o X0 HOL.o.below;have e0:=HEC.o X0 HOL.o.below;have t0:=(HTC.o 0 _ (by omega) rfl).1;rw [Nat.add_zero] at t0;have b0:=ze HOL.o.box 0;by_cases hp:Z<ln
 rotate_left
 ·have hpN:(ln:Int)<=(Z:Int):=by omega
  have f:R=none:=by rw [HRR.o,if_neg (by omega)]
  have P:=qh f;clear f;go_upto_region 3 with fail
  go_quiet (fail)
  go_upto_region 4 with fail
  generalize hX9:World.drewN X0 _=X9;have hb9:Below X0.heap.size X0 X9:=by rw [<-hX9];exact yw (Below.refl _ _) _
  clear hX9 c0 c1 c2 c3 c4 c5 c6 c7 e0 t0 b0;have hbw:=zy HOL.o.below hb9;have wh:=qh hbw;obtain⟨c0,c1,c2,c3,c4,c5,c6,c7⟩:=qy.o X9 hbw;have hr:=(hbw.block _ (zA H4.o)).trans H4.o;have q0:=ze hr 0;have q1:=ze hr 1;have q2:=ze hr 2;have f0:=zH hr 0;have f1:=zH hr 1;have f2:=zH hr 2;have q:=zu (zu (zu hr 0 (.slice ta n j6)) 1 (.slice ma mn vU)) 2 (.bool bad);simp only [List.setIfInBounds_toArray,List.set_cons_zero,List.set_cons_succ] at q
  have hS:Since (λk=>k=G+3) X9 (((X9.setCell ⟨G+3,0,none⟩ (.slice ta n j6)).setCell ⟨G+3,1,none⟩ (.slice ma mn vU)).setCell ⟨G+3,2,none⟩ (.bool bad)):=Since.setCell (F:=λk=>k=G+3) (p:=⟨G+3,2,none⟩) (Since.setCell (F:=λk=>k=G+3) (p:=⟨G+3,1,none⟩) (Since.setCell (F:=λk=>k=G+3) (p:=⟨G+3,0,none⟩) (Since.refl _ X9) (.inl rfl) _) (.inl rfl) _) (.inl rfl) _;have T:=qh q;have O:=qh hS;clear hr q hS hb9 hbw;go_wp2_with fail
  (try simp only [Exit.inBlock,Exit.then])
  refine bodyPost_ret (zK rfl _ _ (G+3) 61 _ (0,0) _ rfl T.o Tryz.underlying61 rfl zN) rfl ?_
  exact⟨uU P.o,(HB.o.trans (wh.o.mono HB.o.size)).trans (O.o.below (by have:=HB.o.size;have:=wh.o.size;omega) (λk e=>by have:=xG.o;omega))⟩
 have hpI:(Z:Int)<(ln:Int):=by omega
 have hpN:¬(ln:Int)<=(Z:Int):=by omega
 go_upto_region 3 with fail
 go_quiet (fail)
 go_upto_region 5 with fail
 generalize hX9:World.drewN X0 _=X9;have hb9:Below X0.heap.size X0 X9:=by rw [<-hX9];exact yw (Below.refl _ _) _
 clear hX9 c0 c1 c2 c3 c4 c5 c6 c7 e0 t0 b0;have zhQ:=qh (HOL.o.later hb9);have zkh:J2 (∀k u,k<6-> [Value.int .i64 Z,I4 r0,I4 r1,I4 r2,I4 r3, .slice ba bl bc][k]? =some u->∀x,Below X9.heap.size X9 x->K3 x tb (i*6+k) u):=λk u hk hu x hx=>zl (zy hb9 hx) _ _ (HTC.o k u hk hu).1;clear HTC;have wh:=qh hb9;clear hb9;obtain⟨fb,fo,aa,ac,xba,xbc,hka, -,⟨x0,x1,x2⟩,⟨x3,x4,x5,x6⟩,⟨x7,x8,x9,x10⟩,uf,xa,xb⟩:=gX.part HEL.o Z (by rw [<-zvV.o];exact hp);subst hka;obtain⟨x,hx⟩:=qxE (l.getD Z default);rw [<-hx] at x0 x1 x2 x3 x4 x5 x6 x7 x8 x9 x10 uf xa xb;have hins:=z1O.o Z (by rw [<-zvV.o];exact hp)
 rw [<-hx, <-zvV.o] at hins;obtain⟨zFh,hrg0,zcu,z9Z,z1Q⟩:=hins;rw [<-HME.o] at z1Q;have hr5:=HRR.o;rw [if_pos hpI,show((Z:Int)).toNat=Z from rfl, <-hx] at hr5;have vV:=qh hr5;clear hr5 HRR z1O hx;obtain⟨op,hop⟩:=qxE x.op;obtain⟨wZ,zvW⟩:∃v:Nat,(v:Int)=x.reg:=⟨x.reg.toNat,by omega⟩;obtain⟨jw,zvX⟩:∃v:Nat,(v:Int)=x.var:=⟨x.var.toNat,by omega⟩;obtain⟨dst,hdst⟩:=qxE x.dest;obtain⟨ak,hak⟩:=qxE x.a.kind;obtain⟨an,han⟩:=qxE x.a.n;obtain⟨ao,hao⟩:=qxE x.a.op;obtain⟨al,hal⟩:=qxE x.a.kids.length;obtain⟨bk,hbk⟩:=qxE x.b.kind;obtain⟨bn,hbn⟩:=qxE x.b.n;obtain⟨bo,wD⟩:=qxE x.b.op
 obtain⟨bkl,zvY⟩:=qxE x.b.kids.length;obtain⟨A,hA⟩:=qxE (yF [r0,r1,r2,r3] dom d x.a);obtain⟨B,hBB⟩:=qxE (yF [r0,r1,r2,r3] dom d x.b)
 have z1S:J2 (∀X,Below W.heap.size W X->Calls Tryz.prog 87 #[.agg #[I4 ak,I4 an, .int .u8 ao, .slice aa al ac], .agg #[I4 r0,I4 r1,I4 r2,I4 r3],I4 dom] X λe w'=>e= .returned (I4 A)/\Below X.heap.size X w'):=λX hX=>by
  rw [hak,han,hao,hal,hA];exact zmq r0 r1 r2 r3 dom (by omega) (by omega) d X x.a _ (xa.below hX)
 have z1T:J2 (∀X,Below W.heap.size W X->Calls Tryz.prog 87 #[.agg #[I4 bk,I4 bn, .int .u8 bo, .slice xba bkl xbc], .agg #[I4 r0,I4 r1,I4 r2,I4 r3],I4 dom] X λe w'=>e= .returned (I4 B)/\Below X.heap.size X w'):=λX hX=>by
  rw [hbk,hbn,wD,zvY,hBB];exact zmq r0 r1 r2 r3 dom (by omega) (by omega) d X x.b _ (xb.below hX)
 rw [<-hop] at x0;rw [<-zvW] at x1 zcu;have zcu:wZ<4:=by omega
 rw [<-zvX] at x2 z1Q;rw [<-hak] at x3;rw [<-han] at x4;rw [<-hao] at x5;rw [<-hal] at x6;rw [<-hbk] at x7;rw [<-hbn] at x8;rw [<-wD] at x9;rw [<-zvY] at x10;rw [<-hdst] at uf;have N:=qh hop;have HRG:=qh zvW;have HVR:=qh zvX;have HDS:=qh hdst;have HA:=qh hA;have U:=qh hBB;clear hop zvW zvX hdst hak han hao hal hbk hbn wD zvY hA hBB xa xb hrg0 z9Z
 have C5:J2 (∀y,Below X9.heap.size X9 y->K3 y G 2 (.slice (some ⟨eb,eo,none⟩) cn cc)/\K3 y eb (eo+i) (.slice (some ⟨fb,fo,none⟩) ln kc)/\K3 y tb (i*6) (I4 Z)/\
   K3 y fb (fo+Z*12) (I4 op)/\K3 y fb (fo+Z*12+1) (I4 wZ)/\K3 y fb (fo+Z*12+2) (I4 jw)/\
   K3 y fb (fo+Z*12+3) (I4 ak)/\K3 y fb (fo+Z*12+4) (I4 an)/\K3 y fb (fo+Z*12+5) (.int .u8 ao)/\K3 y fb (fo+Z*12+6) (.slice aa al ac)/\
   K3 y fb (fo+Z*12+7) (I4 bk)/\K3 y fb (fo+Z*12+8) (I4 bn)/\K3 y fb (fo+Z*12+9) (.int .u8 bo)/\K3 y fb (fo+Z*12+10) (.slice xba bkl xbc)/\K3 y fb (fo+Z*12+11) (I4 dst)):=λy hy=>
  have hw:=zy zhQ.o.below hy;have k2:=λp v h=>zl hw p v h
  ⟨(qy.o y hw).2.2.1,HEC.o y hw,zkh.o 0 _ (by omega) rfl y hy,k2 _ _ x0,k2 _ _ x1,k2 _ _ x2,k2 _ _ x3,k2 _ _ x4,k2 _ _ x5,k2 _ _ x6,k2 _ _ x7,k2 _ _ x8,k2 _ _ x9,k2 _ _ x10,k2 _ _ uf⟩
 clear x0 x1 x2 x3 x4 x5 x6 x7 x8 x9 x10 uf;have h0:=wP.start 3 1 107 X9;have hT0:=qh h0.drew;clear h0;refine qz (S:=λx=>Below X9.heap.size X9 x) (Below.refl _ _).drew (λ_=> ?_)
 obtain⟨wd,H⟩:=qxE X9.drew;rw [<-H] at hT0 ⊢;clear H;refine zB 0 zM (hT0.o.below) ?_
 refine zB 1 C5.o (hT0.o.below) ?_
 refine zB 2 zM (hT0.o.below) ?_
 refine zB 3 zM (hT0.o.below) ?_
 refine zB 4 C5.o (hT0.o.below) ?_
 refine zB 5 zM (hT0.o.below) ?_
 refine zB 6 zM (hT0.o.below) ?_
 refine zB 7 zM (hT0.o.below) ?_
 refine zB 8 C5.o (hT0.o.below) ?_
 refine zB 9 zM (hT0.o.below) ?_
 refine zB 10 C5.o (hT0.o.below) ?_
 refine yA 11 rfl (λK hK=> ?_)
 go_simp
 have jm:=hT0.o.alloc [I4 0,I4 0,I4 0,I4 0,I4 0, .int .u8 0,N7,I4 0,I4 0, .int .u8 0,N7,I4 0];refine hK.out _ _ jm.below (λ_=> ?_)
 obtain⟨gi,hgi⟩:=qxE wd.heap.size;rw [<-hgi] at jm ⊢;clear hgi;generalize World.alloc wd _=Xq2 at jm ⊢;replace jm:=qh jm;clear hK K;refine yA 12 rfl (λK hK=> ?_)
 have hb1:=jm.o.z07 (g:=gi) (cs:= [I4 0,I4 0,I4 0,I4 0,I4 0, .int .u8 0,N7,I4 0,I4 0, .int .u8 0,N7,I4 0]) (by simp) [I4 op,I4 wZ,I4 jw,I4 ak,I4 an, .int .u8 ao, .slice aa al ac,I4 bk,I4 bn, .int .u8 bo, .slice xba bkl xbc,I4 dst] rfl;obtain⟨hn, -, -⟩:=jm.o.news (gi, [I4 0,I4 0,I4 0,I4 0,I4 0, .int .u8 0,N7,I4 0,I4 0, .int .u8 0,N7,I4 0]) (by simp);have d0:=ze hn 0;have f0:=zH hn 0;have d1:=ze hn 1;have f1:=zH hn 1;have d2:=ze hn 2;have f2:=zH hn 2;have d3:=ze hn 3;have f3:=zH hn 3;have d4:=ze hn 4;have f4:=zH hn 4;have d5:=ze hn 5;have f5:=zH hn 5;have d6:=ze hn 6;have f6:=zH hn 6
 have d7:=ze hn 7;have f7:=zH hn 7;have d8:=ze hn 8;have f8:=zH hn 8;have d9:=ze hn 9;have f9:=zH hn 9;have d10:=ze hn 10;have f10:=zH hn 10;have d11:=ze hn 11;have f11:=zH hn 11;clear hn;have qV:=qh hb1;clear hb1;go_simp
 clear d0 f0 d1 f1 d2 f2 d3 f3 d4 f4 d5 f5 d6 f6 d7 f7 d8 f8 d9 f9 d10 f10 d11 f11;refine hK.out _ (yU Xq2 gi 0 [I4 op,I4 wZ,I4 jw,I4 ak,I4 an, .int .u8 ao, .slice aa al ac,I4 bk,I4 bn, .int .u8 bo, .slice xba bkl xbc,I4 dst]) qV.o.1 (λ_=> ?_)
 generalize yU Xq2 gi 0 _=X1 at qV ⊢;clear hK K;refine xC ?_
 have hgi:=qV.o.2.2
 have I:jg W X1 gb gi tb n xc mb mn yc bad ts mem bs [I4 op,I4 wZ,I4 jw,I4 ak,I4 an, .int .u8 ao, .slice aa al ac,I4 bk,I4 bn, .int .u8 bo, .slice xba bkl xbc,I4 dst] :=
  ⟨zhQ.o.later qV.o.1,qV.o.2.1,λe=>by have:=zA zhQ.o.box;omega,λe=>by have:=(zhQ.o.own.row.lt tb rfl).2;omega,λe=>by have:=(zhQ.o.own.mem.lt mb rfl).2;omega⟩
 have zeQ:=qh I;clear hgi I C5
 have zvZ:J2 (∀y,Below X1.heap.size X1 y->K3 y tb (i*6+1) (I4 r0)/\K3 y tb (i*6+2) (I4 r1)/\K3 y tb (i*6+3) (I4 r2)/\K3 y tb (i*6+4) (I4 r3)):=λy hy=>
  have h:=zy qV.o.1 hy
  ⟨zkh.o 1 _ (by omega) rfl y h,zkh.o 2 _ (by omega) rfl y h,zkh.o 3 _ (by omega) rfl y h,zkh.o 4 _ (by omega) rfl y h⟩
 have HB1:=qh zeQ.o.own.below
 have z1U:¬gi=G+3:=λe=>by
  have h1:=zA H4.o;have h2:=qV.o.2.2;have h3:=zhQ.o.below.size;omega
 have HGI:=qh z1U;clear z1U;go_upto_region 6 with fail
 obtain⟨t1,t2,t3,t4⟩:=zvZ.o X1 (Below.refl _ _);have z3:=ze zeQ.o.instr 3;have z4:=ze zeQ.o.instr 4;have z5:=ze zeQ.o.instr 5;have z6:=ze zeQ.o.instr 6;have c1:=(qy.o X1 HB1.o).2.1;refine wp_region_still_tail 8 (by kernel_rfl) (by kernel_rfl) ?_
 simp only [List.take_succ_cons,List.take_zero,List.drop_succ_cons,List.drop_zero];repeat still_step
 try refine wpStill_nil ?_
 change wpList _ _ _ _ _ X1.drew;obtain⟨wd,H⟩:=qxE X1.drew;rw [<-H];have kG:J2 (Below X1.heap.size X1 wd):=by rw [J2,H];exact(Below.refl _ _).drew
 clear H t1 t2 t3 t4 z3 z4 z5 z6 c1;go_upto_region 7 with(go_at_call 87;refine(z1S.o wd (zy HB1.o kG.o)).mono ?_;rintro e X2 ⟨rfl,hb⟩;have HB2:=qh (zy kG.o hb);clear hb)
 have zd4:=qh (zeQ.o.below HB2.o);clear kG;obtain⟨t1,t2,t3,t4⟩:=zvZ.o X2 HB2.o;have z7:=ze zd4.o.instr 7;have z8:=ze zd4.o.instr 8;have z9:=ze zd4.o.instr 9;have z10:=ze zd4.o.instr 10;have c1:=(qy.o X2 zd4.o.own.below).2.1;refine wp_region_still_tail 8 (by kernel_rfl) (by kernel_rfl) ?_
 simp only [List.take_succ_cons,List.take_zero,List.drop_succ_cons,List.drop_zero];repeat still_step
 try refine wpStill_nil ?_
 change wpList _ _ _ _ _ X2.drew;obtain⟨wd',H⟩:=qxE X2.drew;rw [<-H];have kG:J2 (Below X2.heap.size X2 wd'):=by rw [J2,H];exact(Below.refl _ _).drew
 clear H t1 t2 t3 t4 z7 z8 z9 z10 c1;go_upto_region 8 with(go_at_call 87;refine(z1T.o wd' (zy zd4.o.own.below kG.o)).mono ?_;rintro e X3 ⟨rfl,hb⟩;have HB3:=qh (zy kG.o hb);clear hb)
 have bV:=qh (zd4.o.below HB3.o);clear kG;have hin:i<ts.length:=by rw [<-HN.o];exact hi
 have hcl:(ts.getD i default).cells (bs.getD i (N7))= [I4 Z,I4 r0,I4 r1,I4 r2,I4 r3, .slice ba bl bc] :=by rw [<-HT.o, <-HBV.o];rfl
 have hpc:=bV.o.zqh hin 0 (I4 Z) (by omega) (by rw [hcl];rfl)
 rw [Nat.add_zero] at hpc;obtain⟨t0,f0⟩:=hpc;have hth:=bV.o.thread hin (k:=0) (by omega) (t:=⟨(Z:Int)+1, [r0,r1,r2,r3],bf⟩) (b:= .slice ba bl bc) (u:=I4 ((Z:Int)+1)) (by rw [hcl];rfl) rfl (by have:=(bV.o.buf hin).1;rw [<-HT.o, <-HBV.o] at this;exact this) (by have:=(bV.o.buf hin).2;rw [<-HBV.o] at this;exact this) (by have:=bV.o.dist hin;rw [<-HBV.o] at this;exact this);rw [Nat.add_zero] at hth;have V:=qh hth;have HIN:=qh hin;clear hin hcl hth;go_upto_region 9 with fail
 clear t0 f0;generalize World.setCell X3 _ _=X4 at V ⊢;clear zeQ zd4 bV zvZ zkh zhQ HB1 HB2 HB3 qV wh HOL z1S z1T HSW HCS HEL HEC HBU;obtain⟨ts1,zki⟩:=qxE (ts.set i ⟨(Z:Int)+1, [r0,r1,r2,r3],bf⟩);obtain⟨bs1,zwa⟩:=qxE (bs.set i (.slice ba bl bc));have hlb:bs.length=ts.length:=by have:=V.o.own.own.len;rw [List.length_set,List.length_set] at this;exact this
 rw [<-zki, <-zwa] at V;have pG:J2 (ts1.getD i default=⟨(Z:Int)+1, [r0,r1,r2,r3],bf⟩):=by rw [J2,zki,vJ HIN.o,if_pos rfl]
 have pI:J2 (bs1.getD i (N7)= .slice ba bl bc):=by rw [J2,zwa,vJ (by rw [hlb];exact HIN.o),if_pos rfl]
 have HL1:J2 (i<ts1.length):=by rw [J2,zki,List.length_set];exact HIN.o
 have gu:J2 (∀t',ts1.set i t'=ts.set i t'):=λt'=>by rw [zki,List.set_set]
 have HT1:J2 (ts1=ts.set i ⟨(Z:Int)+1, [r0,r1,r2,r3],bf⟩):=zki;clear zki zwa hlb HT
 have HTC:J2 (∀k u,k<6-> [Value.int .i64 ((Z:Int)+1),I4 r0,I4 r1,I4 r2,I4 r3, .slice ba bl bc][k]? =some u->K3 X4 tb (i*6+k) u/\X4.frozen? ⟨tb,i*6+k,none⟩=false):=by
  have h:=V.o.zqh HL1.o;rw [pG.o,pI.o] at h;exact h
 have kJ:J2 (R=Option.map (λr=>(⟨ts.set i r.1,r.2.1,r.2.2⟩:zo)) (stepT ⟨vars,dom,cs⟩ ⟨mod,bnd⟩ ⟨ts,mem,bad⟩ ⟨Z, [r0,r1,r2,r3],bf⟩ x d)):=by rw [J2,vV.o,HC.o,HM.o,HS.o]
 clear vV HC HM HS;have zde:=qh (V.o.buf HL1.o)
 have yV:J2 (∀(X:World) (b':Bool),X.heap[gb]? =some (.cells #[.slice (some ⟨tb,0,none⟩) n xc, .slice (some ⟨mb,0,none⟩) mn yc, .bool b'] 61 (0,0))->Below W.heap.size W X->
   (X.cell? ⟨gb,0,none⟩=some (.slice (some ⟨tb,0,none⟩) n xc)/\X.cell? ⟨gb,1,none⟩=some (.slice (some ⟨mb,0,none⟩) mn yc)/\X.cell? ⟨gb,2,none⟩=some (.bool b'))/\
   (X.cell? ⟨G+3,0,none⟩=some (N7)/\X.cell? ⟨G+3,1,none⟩=some (N7)/\X.cell? ⟨G+3,2,none⟩=some (.bool false))/\
   (X.frozen? ⟨G+3,0,none⟩=false/\X.frozen? ⟨G+3,1,none⟩=false/\X.frozen? ⟨G+3,2,none⟩=false)/\
   (((X.setCell ⟨G+3,0,none⟩ (.slice (some ⟨tb,0,none⟩) n xc)).setCell ⟨G+3,1,none⟩ (.slice (some ⟨mb,0,none⟩) mn yc)).setCell ⟨G+3,2,none⟩ (.bool b')).heap[G+3]? =some (.cells #[.slice (some ⟨tb,0,none⟩) n xc, .slice (some ⟨mb,0,none⟩) mn yc, .bool b'] 61 (0,0))/\
   Since (λk=>k=G+3) X (((X.setCell ⟨G+3,0,none⟩ (.slice (some ⟨tb,0,none⟩) n xc)).setCell ⟨G+3,1,none⟩ (.slice (some ⟨mb,0,none⟩) mn yc)).setCell ⟨G+3,2,none⟩ (.bool b'))/\
   Below w.heap.size w (((X.setCell ⟨G+3,0,none⟩ (.slice (some ⟨tb,0,none⟩) n xc)).setCell ⟨G+3,1,none⟩ (.slice (some ⟨mb,0,none⟩) mn yc)).setCell ⟨G+3,2,none⟩ (.bool b'))):=λX b' hX hW=>by
  have f:=(hW.block _ (zA H4.o)).trans H4.o;have q:=zu (zu (zu f 0 (.slice (some ⟨tb,0,none⟩) n xc)) 1 (.slice (some ⟨mb,0,none⟩) mn yc)) 2 (.bool b');simp only [List.setIfInBounds_toArray,List.set_cons_zero,List.set_cons_succ] at q
  have hS:Since (λk=>k=G+3) X (((X.setCell ⟨G+3,0,none⟩ (.slice (some ⟨tb,0,none⟩) n xc)).setCell ⟨G+3,1,none⟩ (.slice (some ⟨mb,0,none⟩) mn yc)).setCell ⟨G+3,2,none⟩ (.bool b')):=Since.setCell (F:=λk=>k=G+3) (p:=⟨G+3,2,none⟩) (Since.setCell (F:=λk=>k=G+3) (p:=⟨G+3,1,none⟩) (Since.setCell (F:=λk=>k=G+3) (p:=⟨G+3,0,none⟩) (Since.refl _ X) (.inl rfl) _) (.inl rfl) _) (.inl rfl) _;exact⟨⟨ze hX 0,ze hX 1,ze hX 2⟩,⟨ze f 0,ze f 1,ze f 2⟩,⟨zH f 0,zH f 1,zH f 2⟩,q,hS,(HB.o.trans (hW.mono HB.o.size)).trans (hS.below (by have:=HB.o.size;have:=hW.size;omega) (λk e=>by have:=xG.o;omega))⟩
 have uW:J2 (∀(X X':World) (b':Bool) (ts':List zD) (mem':List Int) (bs' gG:List Value),jg W X gb gi tb n xc mb mn yc b' ts' mem' bs' gG->Since (λk=>k=G+3) X X'->OwnAt w.heap.size X' (.slice (some ⟨tb,0,none⟩) n xc) (.slice (some ⟨mb,0,none⟩) mn yc) ts' mem' bs'):=λX X' b' ts' mem' bs' gG h hS=>by
  have hlt:=zA H4.o;exact OwnAt.lower (B:=W.heap.size) (h.own.own.since hS (λk hk e=>by have:=(h.own.own.row.lt k hk).1;omega) (λk hk e=>by have:=(h.own.own.mem.lt k hk).1;omega) (λj hj k hk e=>by have:=((h.own.own.buf j hj).lt k hk).1;omega)) HB.o.size
 go_cut [15] (λs15 w'=>∃em:Bool,s15= .bool em/\w'=X4/\J2 (em=decide (bl=0)))
 case first=>
  have t5:=(HTC.o 5 _ (by omega) rfl).1;by_cases J:bl=0
  ·have hb1:((bl:Int)==0)=true:=by simp [J]
   go_wp2_with fail
   go_meet
   case rel=>exact⟨true,by first|rfl|simp,rfl,by simp [J2,J]⟩
  have hb1:((bl:Int)==0)=false:=by simp [J]
  go_wp2_with fail
  go_meet
  case rel=>exact⟨false,by first|rfl|simp,rfl,by simp [J2,J]⟩
 case rest=>
 obtain⟨em,rfl,hww,HEM⟩:=hcut;obtain rfl:X4=wc:=hww.symm;have k0:=ze V.o.instr 0;go_upto_region 11 with fail
 clear k0;by_cases o1:op=1
 ·have jA:J2 ((1:Int)=x.op):=by rw [J2, <-N.o,o1]
  clear N;have N:=jA;clear jA;have p1:((op:Int)==1)=true:=by simp [o1]
  clear o1
  as_aux_lemma=>
   go_upto_region 12 with fail
   obtain⟨lk,hlk⟩:=qxE (uo bf jw);have zwb:=λY hY=>zwc Y (.slice ba bl bc) bf hY (by rw [<-jk.o];omega) jw
   rw [<-hlk] at zwb;have zAa:=qh zwb;have HLK:=qh hlk;clear zwb hlk;have hbu:=zde.o.1;rw [pG.o,pI.o] at hbu;have zqi:J2 (∀Y,Below X4.heap.size X4 Y->zX Y (.slice ba bl bc) bf):=λY hY=>zX.below (wQ hbu) hY;clear hbu;have CZ:J2 (∀y,Below X4.heap.size X4 y->K3 y tb (i*6+5) (.slice ba bl bc)/\K3 y gi 2 (I4 jw)):=λy hy=>⟨zl hy _ _ (HTC.o 5 _ (by omega) rfl).1,zl hy _ _ (ze V.o.instr 2)⟩;refine qz (S:=λx=>Below X4.heap.size X4 x) (Below.refl _ _).drew (λhH=> ?_)
   refine zi 0 CZ.o ?_
   refine zi 1 CZ.o ?_
   refine zi 2 CZ.o ?_
   refine zi 3 CZ.o ?_
   refine zi 4 CZ.o ?_
   refine zi 5 CZ.o ?_
   refine yA 6 rfl (λK hK=> ?_)
   go_simp
   refine(zAa.o X4.drew (zqi.o X4.drew hH)).mono ?_
   rintro e zeR ⟨rfl,hb⟩;have zqj:Below X4.heap.size X4 zeR:=zy hH hb;refine hK.out _ _ zqj (λ_=> ?_)
   clear hK K hb hH;refine zi 7 CZ.o ?_
   refine zi 8 CZ.o ?_
   refine zi 9 CZ.o ?_
   refine zi 10 CZ.o ?_
   refine zi 11 CZ.o ?_
   refine xC ?_
   have HRY:=qh (V.o.below zqj);clear zqj;skip
   cases lk with
   |some lv=>
    simp only [Option.getD_some,Option.isSome_some];go_upto_region 15 with fail
    have z1:=ze HRY.o.instr 1;refine wp_region_still_tail 7 (by kernel_rfl) (by kernel_rfl) ?_
    simp only [List.take_succ_cons,List.take_zero,List.drop_succ_cons,List.drop_zero];repeat still_step
    try refine wpStill_nil ?_
    change wpList _ _ _ _ _ zeR.drew;obtain⟨X5,hX5⟩:=qxE zeR.drew;rw [<-hX5];have zAb:J2 (Below zeR.heap.size zeR X5):=by rw [J2,hX5];exact(Below.refl _ _).drew
    clear hX5;have zyT:=qh (HRY.o.below zAb.o);clear z1;obtain⟨u0,v0⟩:=zyT.o.pE HL1.o pG.o pI.o (1+wZ) (I4 ([r0,r1,r2,r3].getD wZ 0)) (by omega) (zeO zcu);rw [<-Nat.add_assoc] at u0 v0;have hw6:=zyT.o.set HL1.o (k:=1+wZ) (by omega) (t':=⟨(Z:Int)+1,([r0,r1,r2,r3].set wZ lv),bf⟩) (u:=(I4 lv)) pG.o pI.o (zc9 zcu) (by simp) rfl;rw [<-Nat.add_assoc] at hw6;have HW6:=qh hw6;clear hw6;go_upto_region 48 with fail
    clear u0 v0;generalize World.setCell X5 _ _=X6 at HW6 ⊢;obtain⟨hr6,ht6,hb6,hl6⟩:=HW6.o;have z7a:=qh hr6;have zFi:=qh ht6;have zFj:=qh hb6;have HL6:=qh hl6;clear hr6 ht6 hb6 hl6 HW6
    have f:R=some ⟨ts.set i ⟨(Z:Int)+1, [r0,r1,r2,r3].set wZ lv,bf⟩,mem,bad⟩:=by
     rw [kJ.o,zan N.o.symm];simp only [Option.map_some];rw [<-HVR.o, <-HLK.o, <-HRG.o];rfl
    have P:=qh f;clear f;have I:=z7a.o;rw [gu.o] at I;have E:=qh I;clear I;obtain⟨⟨a0,a1,a2⟩,⟨q0,q1,q2⟩,⟨f0,f1,f2⟩,q,D,z⟩:=yV.o X6 bad E.o.own.box E.o.own.below;have T:=qh q;have O:=qh D;have U:=qh z;clear q D z;go_wp2_with fail
    (try simp only [Exit.inBlock,Exit.then])
    refine bodyPost_ret (zK rfl _ _ (G+3) 61 _ (0,0) _ rfl T.o Tryz.underlying61 rfl zN) rfl ?_
    exact⟨vD P.o (uW.o _ _ _ _ _ _ _ E.o O.o),U.o⟩
   |none=>
   simp only [Option.getD_none,Option.isSome_none];go_upto_region 14 with fail
   obtain⟨nv,hnv⟩:=qxE (mem.getD jw 0);obtain⟨sb,so,hsa, -,hsc⟩:=qx.part zeP.o jw (by rw [<-jE.o];omega)
   subst hsa;rw [<-hnv] at hsc;have HNV:=qh hnv;clear hnv;have s1:=zl HRY.o.own.below _ _ hsc;have c6:=(qy.o _ HRY.o.own.below).2.2.2.2.2.2.1;have bW:(jw:Int)<(mn:Int):=by omega
   have z2:=ze HRY.o.instr 2;go_upto_region 15 with fail
   clear z2 s1 c6 hsc;go_upto_region 15 with fail
   have z1:=ze HRY.o.instr 1;refine wp_region_still_tail 7 (by kernel_rfl) (by kernel_rfl) ?_
   simp only [List.take_succ_cons,List.take_zero,List.drop_succ_cons,List.drop_zero];repeat still_step
   try refine wpStill_nil ?_
   change wpList _ _ _ _ _ zeR.drew;obtain⟨X7,hX7⟩:=qxE zeR.drew;rw [<-hX7];have zAc:J2 (Below zeR.heap.size zeR X7):=by rw [J2,hX7];exact(Below.refl _ _).drew
   clear hX7;have zyU:=qh (HRY.o.below zAc.o);clear z1;obtain⟨u0,v0⟩:=zyU.o.pE HL1.o pG.o pI.o (1+wZ) (I4 ([r0,r1,r2,r3].getD wZ 0)) (by omega) (zeO zcu);rw [<-Nat.add_assoc] at u0 v0;have hw8:=zyU.o.set HL1.o (k:=1+wZ) (by omega) (t':=⟨(Z:Int)+1,([r0,r1,r2,r3].set wZ nv),bf⟩) (u:=(I4 nv)) pG.o pI.o (zc9 zcu) (by simp) rfl;rw [<-Nat.add_assoc] at hw8;have HW8:=qh hw8;clear hw8;go_upto_region 48 with fail
   clear u0 v0;generalize World.setCell X7 _ _=X8 at HW8 ⊢;obtain⟨hr8,ht8,hb8,hl8⟩:=HW8.o;have z7b:=qh hr8;have zFk:=qh ht8;have zFl:=qh hb8;have gH:=qh hl8;clear hr8 ht8 hb8 hl8 HW8
   have f:R=some ⟨ts.set i ⟨(Z:Int)+1, [r0,r1,r2,r3].set wZ nv,bf⟩,mem,bad⟩:=by
    rw [kJ.o,zan N.o.symm];simp only [Option.map_some];rw [<-HVR.o, <-HLK.o, <-HRG.o];rw [show((jw:Int)).toNat=jw from rfl, <-HNV.o];rfl
   have P:=qh f;clear f;have I:=z7b.o;rw [gu.o] at I;have E:=qh I;clear I;obtain⟨⟨a0,a1,a2⟩,⟨q0,q1,q2⟩,⟨f0,f1,f2⟩,q,D,z⟩:=yV.o X8 bad E.o.own.box E.o.own.below;have T:=qh q;have O:=qh D;have U:=qh z;clear q D z;go_wp2_with fail
   (try simp only [Exit.inBlock,Exit.then])
   refine bodyPost_ret (zK rfl _ _ (G+3) 61 _ (0,0) _ rfl T.o Tryz.underlying61 rfl zN) rfl ?_
   exact⟨vD P.o (uW.o _ _ _ _ _ _ _ E.o O.o),U.o⟩
 have p1:((op:Int)==1)=false:=by simp [o1]
 by_cases o2:op=2
 ·have jA:J2 ((2:Int)=x.op):=by rw [J2, <-N.o,o2]
  clear N;have N:=jA;clear jA;have p2:((op:Int)==2)=true:=by simp [o2]
  clear o2
  as_aux_lemma=>
   go_upto_region 17 with fail
   have c3:=(qy.o _ V.o.own.below).2.2.2.1;by_cases hm0:mod=0
   ·have hm1:((mod:Int)==0)=true:=by simp [hm0]
    have HM0:=qh hm0;clear hm0;go_upto_region 18 with fail
    clear c3 hm1;go_upto_region 18 with fail
    have z2:=ze V.o.instr 2;have hbx:=V.o.own.box;have g1:=ze hbx 1;clear hbx;have hml:jw<mem.length:=by rw [<-jE.o];omega
    obtain⟨m0,m1⟩:=V.o.zlE hml;have bW:(jw:Int)<(mn:Int):=by omega
    have zyW:=qh (V.o.mem jw A);clear hml;go_upto_region 19 with fail
    clear z2 g1 m0 m1 bW;generalize World.setCell X4 _ _=X9 at zyW ⊢
    have f:R=some ⟨ts1,(mem.set jw A),bad⟩:=by
     rw [kJ.o,pJ N.o.symm HM0.o];simp only [Option.map_some];rw [<-HVR.o, <-HA.o,HT1.o];rfl
    have P:=qh f;clear f;have I:=zyW.o;have E:=qh I;clear I;obtain⟨⟨a0,a1,a2⟩,⟨q0,q1,q2⟩,⟨f0,f1,f2⟩,q,D,z⟩:=yV.o X9 bad E.o.own.box E.o.own.below;have T:=qh q;have O:=qh D;have U:=qh z;clear q D z;go_wp2_with fail
    (try simp only [Exit.inBlock,Exit.then])
    refine bodyPost_ret (zK rfl _ _ (G+3) 61 _ (0,0) _ rfl T.o Tryz.underlying61 rfl zN) rfl ?_
    exact⟨vD P.o (uW.o _ _ _ _ _ _ _ E.o O.o),U.o⟩
   have hm1:((mod:Int)==0)=false:=by simp [hm0]
   have HM0:=qh hm0;clear hm0;go_upto_region 20 with fail
   clear c3 hm1;obtain⟨ok,hok⟩:=qxE (qM bf ⟨mod,bnd⟩ ⟨jw,A⟩);have hput:=λY hY=>zpf Y (.slice ba bl bc) bf hY (by rw [<-jk.o];omega) ⟨mod,bnd⟩ ⟨jw,A⟩
   rw [<-hok] at hput;have kT:=qh hput;have vP:=qh hok;clear hput hok;have hbu:=zde.o.1;rw [pG.o,pI.o] at hbu;have zqi:J2 (∀Y,Below X4.heap.size X4 Y->zX Y (.slice ba bl bc) bf):=λY hY=>zX.below (wQ hbu) hY;clear hbu;have CZ:J2 (∀y,Below X4.heap.size X4 y->K3 y tb (i*6+5) (.slice ba bl bc)/\K3 y gi 2 (I4 jw)/\K3 y (G+1) 0 (I4 mod)/\K3 y (G+1) 1 (I4 bnd)):=λy hy=>⟨zl hy _ _ (HTC.o 5 _ (by omega) rfl).1,zl hy _ _ (ze V.o.instr 2),(qy.o y (zy V.o.own.below hy)).2.2.2.1,(qy.o y (zy V.o.own.below hy)).2.2.2.2.1⟩;refine qz (S:=λx=>Below X4.heap.size X4 x) (Below.refl _ _).drew (λhH=> ?_)
   refine zi 0 CZ.o ?_
   refine zi 1 CZ.o ?_
   refine zi 2 CZ.o ?_
   refine zi 3 CZ.o ?_
   refine zi 4 CZ.o ?_
   refine zi 5 CZ.o ?_
   refine zi 6 CZ.o ?_
   refine zi 7 CZ.o ?_
   refine zi 8 CZ.o ?_
   refine yA 9 rfl (λK hK=> ?_)
   go_simp
   refine(kT.o X4.drew (zqi.o X4.drew hH)).mono ?_
   rintro e zmr ⟨⟨bv,rfl,hbv,hrow⟩,hb⟩;obtain⟨pa,pc2,rfl, -⟩:=zh.slice hbv;have vW:=qh hrow;clear hbv hrow;have zqk:Below X4.heap.size X4 zmr:=zy hH hb;refine hK.out _ _ zqk (λ_=> ?_)
   clear hK K hb hH;refine zi 10 CZ.o ?_
   refine zi 11 CZ.o ?_
   refine zi 12 CZ.o ?_
   refine zi 13 CZ.o ?_
   refine zi 14 CZ.o ?_
   refine xC ?_
   have HRY:=qh (V.o.below zqk);clear zqk;have zAd:=qh (zA V.o.own.box);have zAe:=qh (V.o.own.own.row.lt tb rfl).2;have zAf:=qh (V.o.own.own.mem.lt mb rfl).2;have zAg:=qh V.o.own.below.size;go_upto_region 21 with fail
   obtain⟨t5,v5⟩:=HRY.o.pE HL1.o pG.o pI.o 5 (.slice ba bl bc) (by omega) rfl;obtain⟨pl,hpl⟩:=qxE ((jQ bf ⟨mod,bnd⟩ ⟨jw,A⟩).length);rw [<-hpl] at vW ⊢;have kP:=qh hpl;clear hpl;cases ok with
   |true=>
    have hrw:=xO (C:=W.heap.size) (vW.o rfl) zAg.o;have hpw:=HRY.o.thread HL1.o (k:=5) (by omega) (t:=⟨(Z:Int)+1, [r0,r1,r2,r3],jQ bf ⟨mod,bnd⟩ ⟨jw,A⟩⟩) (b:= .slice pa pl pc2) (u:= .slice pa pl pc2) (by rw [pG.o,pI.o];rfl) rfl (by rw [<-kP.o];exact hrw) (λk hk=>by have h1:X4.heap.size<=k:=((vW.o rfl).lt k hk).1;have:=zAd.o;have:=zAe.o;have:=zAf.o;exact⟨by omega,by omega,by omega⟩) (λk hk j hj _ e=>by have h1:X4.heap.size<=k:=((vW.o rfl).lt k hk).1;have h2:=((V.o.own.own.buf j hj).lt k e).2;omega)
    rw [gu.o] at hpw;have HPW:=qh hpw;clear hpw hrw;go_upto_region 22 with fail
    clear t5 v5;generalize World.setCell zmr _ _=XY at HPW ⊢
    have f:R=some ⟨(ts.set i ⟨(Z:Int)+1, [r0,r1,r2,r3],jQ bf ⟨mod,bnd⟩ ⟨jw,A⟩⟩),mem,bad⟩:=by
     rw [kJ.o,pK N.o.symm HM0.o (by rw [<-HVR.o, <-HA.o, <-vP.o])];simp only [Option.map_some];rw [<-HVR.o, <-HA.o]
    have P:=qh f;clear f;have I:=HPW.o;have E:=qh I;clear I;obtain⟨⟨a0,a1,a2⟩,⟨q0,q1,q2⟩,⟨f0,f1,f2⟩,q,D,z⟩:=yV.o XY bad E.o.own.box E.o.own.below;have T:=qh q;have O:=qh D;have U:=qh z;clear q D z;go_wp2_with fail
    (try simp only [Exit.inBlock,Exit.then])
    refine bodyPost_ret (zK rfl _ _ (G+3) 61 _ (0,0) _ rfl T.o Tryz.underlying61 rfl zN) rfl ?_
    exact⟨vD P.o (uW.o _ _ _ _ _ _ _ E.o O.o),U.o⟩
   |false=>
   have hbx:=HRY.o.own.box;have hsY:Since (λx=>x=tb) zmr (zmr.setCell ⟨tb,i*6+5,none⟩ (.slice pa pl pc2)):=Since.setCell (F:=λx=>x=tb) (p:=⟨tb,i*6+5,none⟩) (Since.refl _ _) (.inl rfl) _;have zdZ:=(hsY.block gb (zA hbx) (λe=>HRY.o.own.n1 (by rw [e];rfl))).trans hbx
   have z2g:=HRY.o.own.below.trans (hsY.below HRY.o.own.below.size (λx e=>by have:=(HRY.o.own.own.row.lt tb rfl).1;omega))
   have yh:=qh zdZ;have z2h:=qh z2g;clear hbx hsY zdZ z2g
   have f:R=none:=by
    rw [kJ.o,pO N.o.symm HM0.o (by rw [<-HVR.o, <-HA.o, <-vP.o])];rfl
   have P:=qh f;clear f;go_upto_region 22 with fail
   clear t5 v5;generalize World.setCell zmr _ _=XY at yh z2h ⊢;obtain⟨⟨a0,a1,a2⟩,⟨q0,q1,q2⟩,⟨f0,f1,f2⟩,q, -,z⟩:=yV.o XY bad yh.o z2h.o;have T:=qh q;have U:=qh z;clear q z;go_wp2_with fail
   (try simp only [Exit.inBlock,Exit.then])
   refine bodyPost_ret (zK rfl _ _ (G+3) 61 _ (0,0) _ rfl T.o Tryz.underlying61 rfl zN) rfl ?_
   exact⟨uU P.o,U.o⟩
 have p2:((op:Int)==2)=false:=by simp [o2]
 by_cases o3:op=3
 ·have jA:J2 ((3:Int)=x.op):=by rw [J2, <-N.o,o3]
  clear N;have N:=jA;clear jA;have p3:((op:Int)==3)=true:=by simp [o3]
  clear o3
  as_aux_lemma=>
   go_upto_region 24 with fail
   have z1:=ze V.o.instr 1;refine wp_region_still_tail 7 (by kernel_rfl) (by kernel_rfl) ?_
   simp only [List.take_succ_cons,List.take_zero,List.drop_succ_cons,List.drop_zero];repeat still_step
   try refine wpStill_nil ?_
   change wpList _ _ _ _ _ X4.drew;obtain⟨X10,zwd⟩:=qxE X4.drew;rw [<-zwd];have z7c:J2 (Below X4.heap.size X4 X10):=by rw [J2,zwd];exact(Below.refl _ _).drew
   clear zwd;have zsP:=qh (V.o.below z7c.o);clear z1;obtain⟨u0,v0⟩:=zsP.o.pE HL1.o pG.o pI.o (1+wZ) (I4 ([r0,r1,r2,r3].getD wZ 0)) (by omega) (zeO zcu);rw [<-Nat.add_assoc] at u0 v0;have zdf:=zsP.o.set HL1.o (k:=1+wZ) (by omega) (t':=⟨(Z:Int)+1,([r0,r1,r2,r3].set wZ A),bf⟩) (u:=(I4 A)) pG.o pI.o (zc9 zcu) (by simp) rfl;rw [<-Nat.add_assoc] at zdf;have zwe:=qh zdf;clear zdf;go_upto_region 48 with fail
   clear u0 v0;generalize World.setCell X10 _ _=X11 at zwe ⊢;obtain⟨z2i,z2j,z2k,z2l⟩:=zwe.o;have z2m:=qh z2i;have zEF:=qh z2j;have zEG:=qh z2k;have zFm:=qh z2l;clear z2i z2j z2k z2l zwe
   have f:R=some ⟨ts.set i ⟨(Z:Int)+1, [r0,r1,r2,r3].set wZ A,bf⟩,mem,bad⟩:=by
    rw [kJ.o,zci N.o.symm];simp only [Option.map_some];rw [<-HA.o, <-HRG.o];rfl
   have P:=qh f;clear f;have I:=z2m.o;rw [gu.o] at I;have E:=qh I;clear I;obtain⟨⟨a0,a1,a2⟩,⟨q0,q1,q2⟩,⟨f0,f1,f2⟩,q,D,z⟩:=yV.o X11 bad E.o.own.box E.o.own.below;have T:=qh q;have O:=qh D;have U:=qh z;clear q D z;go_wp2_with fail
   (try simp only [Exit.inBlock,Exit.then])
   refine bodyPost_ret (zK rfl _ _ (G+3) 61 _ (0,0) _ rfl T.o Tryz.underlying61 rfl zN) rfl ?_
   exact⟨vD P.o (uW.o _ _ _ _ _ _ _ E.o O.o),U.o⟩
 have p3:((op:Int)==3)=false:=by simp [o3]
 by_cases o4:op=4
 ·have jA:J2 ((4:Int)=x.op):=by rw [J2, <-N.o,o4]
  clear N;have N:=jA;clear jA;have p4:((op:Int)==4)=true:=by simp [o4]
  clear o4
  as_aux_lemma=>
   go_upto_region 26 with fail
   cases em with
   |true=>
    have J:bf.length=0:=by rw [<-jk.o];exact of_decide_eq_true HEM.o.symm
    have Q:=qh J;clear J
    have f:R=some ⟨ts1,mem,bad⟩:=by
     rw [kJ.o,bM N.o.symm];rw [if_pos Q.o,HT1.o];rfl
    have P:=qh f;clear f;have I:=V.o;have E:=qh I;clear I;obtain⟨⟨a0,a1,a2⟩,⟨q0,q1,q2⟩,⟨f0,f1,f2⟩,q,D,z⟩:=yV.o X4 bad E.o.own.box E.o.own.below;have T:=qh q;have O:=qh D;have U:=qh z;clear q D z;go_wp2_with fail
    (try simp only [Exit.inBlock,Exit.then])
    refine bodyPost_ret (zK rfl _ _ (G+3) 61 _ (0,0) _ rfl T.o Tryz.underlying61 rfl zN) rfl ?_
    exact⟨vD P.o (uW.o _ _ _ _ _ _ _ E.o O.o),U.o⟩
   |false=>
   have J:¬bf.length=0:=by rw [<-jk.o];exact of_decide_eq_false HEM.o.symm
   have Q:=qh J;clear J
   have f:R=none:=by
    rw [kJ.o,bM N.o.symm];rw [if_neg Q.o];rfl
   have P:=qh f;clear f;have I:=V.o;have E:=qh I;clear I;obtain⟨⟨a0,a1,a2⟩,⟨q0,q1,q2⟩,⟨f0,f1,f2⟩,q,D,z⟩:=yV.o X4 bad E.o.own.box E.o.own.below;have T:=qh q;have O:=qh D;have U:=qh z;clear q D z;go_wp2_with fail
   (try simp only [Exit.inBlock,Exit.then])
   refine bodyPost_ret (zK rfl _ _ (G+3) 61 _ (0,0) _ rfl T.o Tryz.underlying61 rfl zN) rfl ?_
   exact⟨uU P.o,U.o⟩
 have p4:((op:Int)==4)=false:=by simp [o4]
 by_cases o5:op=5
 ·have jA:J2 ((5:Int)=x.op):=by rw [J2, <-N.o,o5]
  clear N;have N:=jA;clear jA;have p5:((op:Int)==5)=true:=by simp [o5]
  clear o5
  as_aux_lemma=>
   go_upto_region 28 with fail
   have CZ:J2 (∀y,Since (λk=>k=G+3) X4 y->K3 y gb 0 (.slice (some ⟨tb,0,none⟩) n xc)/\K3 y gb 1 (.slice (some ⟨mb,0,none⟩) mn yc)/\K3 y gb 2 (.bool bad)/\K3 y (G+1) 0 (I4 mod)):=λy hy=>by
    have h1:=V.o.own.box;have hlo:=V.o.own.lo;have hlt:=zA H4.o;have h2:=(hy.block _ (zA h1) (by omega)).trans h1;have h3:=(V.o.own.below.block _ (zA H2.o)).trans H2.o;have h4:=(hy.block _ (zA h3) (by omega)).trans h3;exact⟨ze h2 0,ze h2 1,ze h2 2,ze h4 0⟩
   cases em with
   |true=>
    have J:bf.length=0:=by rw [<-jk.o];exact of_decide_eq_true HEM.o.symm
    have Q:=qh J;clear J
    have f:R=some ⟨ts1,mem,bad⟩:=by
     rw [kJ.o,uX N.o.symm];rw [if_pos (.inl Q.o),HT1.o];rfl
    have P:=qh f;clear f;have I:=V.o;have E:=qh I;clear I;refine qz (S:=λy=>Since (λk=>k=G+3) X4 y) (Since.refl _ _).drew (λ_=> ?_)
    obtain⟨wd,H⟩:=qxE X4.drew;rw [<-H];have HFX:=yV.o wd bad (by rw [H];exact E.o.own.box) (by rw [H];exact E.o.own.below.drew);have L:J2 (Since (λk=>k=G+3) X4 wd):=by rw [J2,H];exact(Since.refl _ _).drew
    clear H;refine zB 0 CZ.o (L.o) ?_
    refine zB 1 zM (L.o) ?_
    refine zB 2 zM (L.o) ?_
    refine wpAnyH_take (i:=3) (v:=undef) rfl (by kernel_rfl) (by kernel_rfl) (by kernel_rfl) (λ_ _ _ h=>h) (Or.inr ⟨by rfl,rfl⟩) (L.o) ?_
    change wpAnyH _ _ _ _ _ _ _ (Act.put _ (some 158) _) _;simp only [Act.put,jJ];try simp only [jK,jL]
    refine wpAnyH_take (i:=4) (v:=undef) rfl (by kernel_rfl) (by kernel_rfl) (by kernel_rfl) (λ_ _ _ h=>h) (Or.inr ⟨by rfl,rfl⟩) (L.o) ?_
    change wpAnyH _ _ _ _ _ _ _ (Act.put _ (some 159) _) _;simp only [Act.put,jJ];try simp only [jK,jL]
    refine wpAnyH_take (i:=5) (v:=undef) rfl (by kernel_rfl) (by kernel_rfl) (by kernel_rfl) (λ_ _ _ h=>h) (Or.inr ⟨by rfl,rfl⟩) (L.o) ?_
    change wpAnyH _ _ _ _ _ _ _ (Act.put _ (some 160) _) _;simp only [Act.put,jJ];try simp only [jK,jL]
    refine zB 6 zM (L.o) ?_
    refine yA 7 rfl (λK hK=> ?_)
    obtain⟨-,⟨q0,q1,q2⟩,⟨f0,f1,f2⟩,q,D,z⟩:=HFX;have T:=qh q;have O:=qh D;have U:=qh z;clear q D z;go_simp
    refine hK.out _ _ (L.o.trans O.o (λ_ h=> .inl h)) (λ_=> ?_)
    clear hK K;refine zB 8 zM ((L.o.trans O.o (λ_ h=> .inl h))) ?_
    refine xC ?_
    go_wp2_with fail
    (try simp only [Exit.inBlock,Exit.then])
    refine bodyPost_ret (zK rfl _ _ (G+3) 61 _ (0,0) _ rfl T.o Tryz.underlying61 rfl zN) rfl ?_
    exact⟨vD P.o (uW.o _ _ _ _ _ _ _ E.o (L.o.trans O.o (λ_ h=> .inl h))),U.o⟩
   |false=>
   have J:¬bf.length=0:=by rw [<-jk.o];exact of_decide_eq_false HEM.o.symm
   have Q:=qh J;clear J;by_cases hm2:mod=2
   rotate_left
   ·have hm3:((mod:Int) !=2)=true:=by simp [hm2]
    have HM2:=qh hm2;clear hm2
    have f:R=some ⟨ts1,mem,bad⟩:=by
     rw [kJ.o,uX N.o.symm];rw [if_pos (.inr HM2.o),HT1.o];rfl
    have P:=qh f;clear f;have I:=V.o;have E:=qh I;clear I;refine qz (S:=λy=>Since (λk=>k=G+3) X4 y) (Since.refl _ _).drew (λ_=> ?_)
    obtain⟨wd,H⟩:=qxE X4.drew;rw [<-H];have HFX:=yV.o wd bad (by rw [H];exact E.o.own.box) (by rw [H];exact E.o.own.below.drew);have L:J2 (Since (λk=>k=G+3) X4 wd):=by rw [J2,H];exact(Since.refl _ _).drew
    clear H;refine zB 0 CZ.o (L.o) ?_
    refine zB 1 zM (L.o) ?_
    refine zB 2 zM (L.o) ?_
    refine zB 3 zM (L.o) ?_
    refine zB 4 CZ.o (L.o) ?_
    refine zB 5 zM (L.o) ?_
    refine zB 6 zM (L.o) ?_
    refine yA 7 rfl (λK hK=> ?_)
    obtain⟨-,⟨q0,q1,q2⟩,⟨f0,f1,f2⟩,q,D,z⟩:=HFX;have T:=qh q;have O:=qh D;have U:=qh z;clear q D z;go_simp
    refine hK.out _ _ (L.o.trans O.o (λ_ h=> .inl h)) (λ_=> ?_)
    clear hK K;refine zB 8 zM ((L.o.trans O.o (λ_ h=> .inl h))) ?_
    refine xC ?_
    go_wp2_with fail
    (try simp only [Exit.inBlock,Exit.then])
    refine bodyPost_ret (zK rfl _ _ (G+3) 61 _ (0,0) _ rfl T.o Tryz.underlying61 rfl zN) rfl ?_
    exact⟨vD P.o (uW.o _ _ _ _ _ _ _ E.o (L.o.trans O.o (λ_ h=> .inl h))),U.o⟩
   have hm3:((mod:Int) !=2)=false:=by simp [hm2]
   have HM2:=qh hm2;clear hm2
   have f:R=none:=by
    rw [kJ.o,uX N.o.symm];rw [if_neg (λh=>h.elim Q.o (λh=>h HM2.o))];rfl
   have P:=qh f;clear f;have I:=V.o;have E:=qh I;clear I;refine qz (S:=λy=>Since (λk=>k=G+3) X4 y) (Since.refl _ _).drew (λ_=> ?_)
   obtain⟨wd,H⟩:=qxE X4.drew;rw [<-H];have HFX:=yV.o wd bad (by rw [H];exact E.o.own.box) (by rw [H];exact E.o.own.below.drew);have L:J2 (Since (λk=>k=G+3) X4 wd):=by rw [J2,H];exact(Since.refl _ _).drew
   clear H;refine zB 0 CZ.o (L.o) ?_
   refine zB 1 zM (L.o) ?_
   refine zB 2 zM (L.o) ?_
   refine zB 3 zM (L.o) ?_
   refine zB 4 CZ.o (L.o) ?_
   refine zB 5 zM (L.o) ?_
   refine zB 6 zM (L.o) ?_
   refine yA 7 rfl (λK hK=> ?_)
   obtain⟨-,⟨q0,q1,q2⟩,⟨f0,f1,f2⟩,q,D,z⟩:=HFX;have T:=qh q;have O:=qh D;have U:=qh z;clear q D z;go_simp
   refine hK.out _ _ (L.o.trans O.o (λ_ h=> .inl h)) (λ_=> ?_)
   clear hK K;refine zB 8 zM ((L.o.trans O.o (λ_ h=> .inl h))) ?_
   refine xC ?_
   go_wp2_with fail
   (try simp only [Exit.inBlock,Exit.then])
   refine bodyPost_ret (zK rfl _ _ (G+3) 61 _ (0,0) _ rfl T.o Tryz.underlying61 rfl zN) rfl ?_
   exact⟨uU P.o,U.o⟩
 have p5:((op:Int)==5)=false:=by simp [o5]
 by_cases o6:op=6
 ·have jA:J2 ((6:Int)=x.op):=by rw [J2, <-N.o,o6]
  clear N;have N:=jA;clear jA;have p6:((op:Int)==6)=true:=by simp [o6]
  clear o6
  as_aux_lemma=>
   go_upto_region 30 with fail
   have z1:=ze V.o.instr 1;refine wp_region_still_tail 6 (by kernel_rfl) (by kernel_rfl) ?_
   simp only [List.take_succ_cons,List.take_zero,List.drop_succ_cons,List.drop_zero];repeat still_step
   try refine wpStill_nil ?_
   change wpList _ _ _ _ _ X4.drew;obtain⟨X15,zwf⟩:=qxE X4.drew;rw [<-zwf];have z7d:J2 (Below X4.heap.size X4 X15):=by rw [J2,zwf];exact(Below.refl _ _).drew
   clear zwf;have zsQ:=qh (V.o.below z7d.o);clear z1;obtain⟨u0,v0⟩:=zsQ.o.pE HL1.o pG.o pI.o (1+wZ) (I4 ([r0,r1,r2,r3].getD wZ 0)) (by omega) (zeO zcu);rw [<-Nat.add_assoc] at u0 v0;have hw16:=zsQ.o.set HL1.o (k:=1+wZ) (by omega) (t':=⟨(Z:Int)+1,([r0,r1,r2,r3].set wZ 0),bf⟩) (u:=(I4 0)) pG.o pI.o (zc9 zcu) (by simp) rfl;rw [<-Nat.add_assoc] at hw16;have zwg:=qh hw16;clear hw16;go_upto_region 31 with fail
   clear u0 v0;generalize World.setCell X15 _ _=X16 at zwg ⊢;obtain⟨z2o,z2p,z2q,z2r⟩:=zwg.o;have zbs:=qh z2o;have zyY:=qh z2p;have zyZ:=qh z2q;have z2s:=qh z2r;clear z2o z2p z2q z2r zwg;obtain⟨nv,hnv⟩:=qxE (mem.getD jw 0);obtain⟨sb,so,hsa, -,hsc⟩:=qx.part zeP.o jw (by rw [<-jE.o];omega)
   subst hsa;rw [<-hnv] at hsc;have HNV:=qh hnv;clear hnv;have s1:=zl zbs.o.own.below _ _ hsc;have c6:=(qy.o _ zbs.o.own.below).2.2.2.2.2.2.1;have bW:(jw:Int)<(mn:Int):=by omega
   have z2:=ze zbs.o.instr 2;by_cases ha0:nv=A
   rotate_left
   ·have ha1:((nv:Int)==A)=false:=by simp [ha0]
    have HA0:=qh ha0;clear ha0;go_upto_region 34 with fail
    clear z2 s1 c6 hsc bW ha1;cases em with
    |true=>
     have J:bf.length=0:=by rw [<-jk.o];exact of_decide_eq_true HEM.o.symm
     have Q:=qh J;clear J
     have f:R=some ⟨ts.set i ⟨(Z:Int)+1, [r0,r1,r2,r3].set wZ 0,bf⟩,mem,bad⟩:=by
      rw [kJ.o,zao N.o.symm (by rw [<-HVR.o, <-HA.o];exact λe=>HA0.o (HNV.o.trans e)),if_pos Q.o];simp only [Option.map_some];rw [<-HRG.o];rfl
     have P:=qh f;clear f;have I:=zbs.o;rw [gu.o] at I;have E:=qh I;clear I;obtain⟨⟨a0,a1,a2⟩,⟨q0,q1,q2⟩,⟨f0,f1,f2⟩,q,D,z⟩:=yV.o X16 bad E.o.own.box E.o.own.below;have T:=qh q;have O:=qh D;have U:=qh z;clear q D z;go_wp2_with fail
     (try simp only [Exit.inBlock,Exit.then])
     refine bodyPost_ret (zK rfl _ _ (G+3) 61 _ (0,0) _ rfl T.o Tryz.underlying61 rfl zN) rfl ?_
     exact⟨vD P.o (uW.o _ _ _ _ _ _ _ E.o O.o),U.o⟩
    |false=>
    have J:¬bf.length=0:=by rw [<-jk.o];exact of_decide_eq_false HEM.o.symm
    have Q:=qh J;clear J
    have f:R=none:=by
     rw [kJ.o,zao N.o.symm (by rw [<-HVR.o, <-HA.o];exact λe=>HA0.o (HNV.o.trans e)),if_neg Q.o];rfl
    have P:=qh f;clear f;have I:=zbs.o;have E:=qh I;clear I;obtain⟨⟨a0,a1,a2⟩,⟨q0,q1,q2⟩,⟨f0,f1,f2⟩,q,D,z⟩:=yV.o X16 bad E.o.own.box E.o.own.below;have T:=qh q;have O:=qh D;have U:=qh z;clear q D z;go_wp2_with fail
    (try simp only [Exit.inBlock,Exit.then])
    refine bodyPost_ret (zK rfl _ _ (G+3) 61 _ (0,0) _ rfl T.o Tryz.underlying61 rfl zN) rfl ?_
    exact⟨uU P.o,U.o⟩
   have ha1:((nv:Int)==A)=true:=by simp [ha0]
   have HA0:=qh ha0;clear ha0;go_upto_region 32 with fail
   clear z2 s1 c6 hsc bW ha1;go_upto_region 32 with fail
   have z2:=ze zbs.o.instr 2;have hbx:=zbs.o.own.box;have g1:=ze hbx 1;clear hbx;have hml:jw<mem.length:=by rw [<-jE.o];omega
   obtain⟨m0,m1⟩:=zbs.o.zlE hml;have bW:(jw:Int)<(mn:Int):=by omega
   have zms:=qh (zbs.o.mem jw B);clear hml;go_upto_region 33 with fail
   clear z2 g1 m0 m1 bW;generalize World.setCell X16 _ _=X17 at zms ⊢;go_upto_region 33 with fail
   have z1:=ze zms.o.instr 1;refine wp_region_still_tail 6 (by kernel_rfl) (by kernel_rfl) ?_
   simp only [List.take_succ_cons,List.take_zero,List.drop_succ_cons,List.drop_zero];repeat still_step
   try refine wpStill_nil ?_
   change wpList _ _ _ _ _ X17.drew;obtain⟨X18,zwh⟩:=qxE X17.drew;rw [<-zwh];have z7e:J2 (Below X17.heap.size X17 X18):=by rw [J2,zwh];exact(Below.refl _ _).drew
   clear zwh;have zsR:=qh (zms.o.below z7e.o);clear z1;obtain⟨u0,v0⟩:=zsR.o.pE z2s.o zyY.o zyZ.o (1+wZ) (I4 ([0,0,0,0].getD wZ 0)) (by omega) (zsF zcu);rw [<-Nat.add_assoc] at u0 v0;have zwi:=zsR.o.set z2s.o (k:=1+wZ) (by omega) (t':=⟨(Z:Int)+1,([r0,r1,r2,r3].set wZ 1),bf⟩) (u:=(I4 1)) zyY.o zyZ.o (zop zcu) (by simp) rfl;rw [<-Nat.add_assoc] at zwi;have zwj:=qh zwi;clear zwi;go_upto_region 34 with fail
   clear u0 v0;generalize World.setCell X18 _ _=X19 at zwj ⊢;obtain⟨z2t,z2u,z2v,z2w⟩:=zwj.o;have zsS:=qh z2t;have zEH:=qh z2u;have zEI:=qh z2v;have zFn:=qh z2w;clear z2t z2u z2v z2w zwj;cases em with
   |true=>
    have J:bf.length=0:=by rw [<-jk.o];exact of_decide_eq_true HEM.o.symm
    have Q:=qh J;clear J
    have f:R=some ⟨ts.set i ⟨(Z:Int)+1, [r0,r1,r2,r3].set wZ 1,bf⟩,(mem.set jw B),bad⟩:=by
     rw [kJ.o,zaq N.o.symm (by rw [<-HVR.o, <-HA.o, <-HA0.o,HNV.o];rfl),if_pos Q.o]
     simp only [Option.map_some];rw [<-HVR.o, <-U.o, <-HRG.o];rfl
    have P:=qh f;clear f;have I:=zsS.o;rw [List.set_set,gu.o] at I;have E:=qh I;clear I;obtain⟨⟨a0,a1,a2⟩,⟨q0,q1,q2⟩,⟨f0,f1,f2⟩,q,D,z⟩:=yV.o X19 bad E.o.own.box E.o.own.below;have T:=qh q;have O:=qh D;have U:=qh z;clear q D z;go_wp2_with fail
    (try simp only [Exit.inBlock,Exit.then])
    refine bodyPost_ret (zK rfl _ _ (G+3) 61 _ (0,0) _ rfl T.o Tryz.underlying61 rfl zN) rfl ?_
    exact⟨vD P.o (uW.o _ _ _ _ _ _ _ E.o O.o),U.o⟩
   |false=>
   have J:¬bf.length=0:=by rw [<-jk.o];exact of_decide_eq_false HEM.o.symm
   have Q:=qh J;clear J
   have f:R=none:=by
    rw [kJ.o,zaq N.o.symm (by rw [<-HVR.o, <-HA.o, <-HA0.o,HNV.o];rfl),if_neg Q.o]
    rfl
   have P:=qh f;clear f;have I:=zsS.o;have E:=qh I;clear I;obtain⟨⟨a0,a1,a2⟩,⟨q0,q1,q2⟩,⟨f0,f1,f2⟩,q,D,z⟩:=yV.o X19 bad E.o.own.box E.o.own.below;have T:=qh q;have O:=qh D;have U:=qh z;clear q D z;go_wp2_with fail
   (try simp only [Exit.inBlock,Exit.then])
   refine bodyPost_ret (zK rfl _ _ (G+3) 61 _ (0,0) _ rfl T.o Tryz.underlying61 rfl zN) rfl ?_
   exact⟨uU P.o,U.o⟩
 have p6:((op:Int)==6)=false:=by simp [o6]
 by_cases o7:op=7
 ·have jA:J2 ((7:Int)=x.op):=by rw [J2, <-N.o,o7]
  clear N;have N:=jA;clear jA;have p7:((op:Int)==7)=true:=by simp [o7]
  clear o7
  as_aux_lemma=>
   obtain⟨nv,hnv⟩:=qxE (mem.getD jw 0);obtain⟨sb,so,hsa,hsb,hsc⟩:=qx.part zeP.o jw (by rw [<-jE.o];omega)
   subst hsa;rw [<-hnv] at hsc;have HNV:=qh hnv;have HSC:=qh hsc;clear hnv hsc hsb;obtain⟨sb2,so2,he2,zAh, -⟩:=qx.part z9W.o jw (by rw [<-jE.o];omega)
   cases he2
   have HSG:J2 (¬sb=G+3):=λe=>by have:=xG.o;omega
   clear zAh;go_upto_region 36 with fail
   have z2:=ze V.o.instr 2;have hbx:=V.o.own.box;have g1:=ze hbx 1;clear hbx;have hml:jw<mem.length:=by rw [<-jE.o];omega
   obtain⟨m0,m1⟩:=V.o.zlE hml;have bW:(jw:Int)<(mn:Int):=by omega
   have zbt:=qh (V.o.mem jw 1);clear hml;go_upto_region 37 with fail
   clear z2 g1 m0 m1 bW;generalize World.setCell X4 _ _=X20 at zbt ⊢;have bW:(jw:Int)<(mn:Int):=by omega
   have CZ:J2 (∀y,Since (λk=>k=G+3) X20 y->K3 y gb 0 (.slice (some ⟨tb,0,none⟩) n xc)/\K3 y gb 1 (.slice (some ⟨mb,0,none⟩) mn yc)/\K3 y gb 2 (.bool bad)/\K3 y (G+2) 1 (.slice (some ⟨sb,so,none⟩) mn vU)/\K3 y gi 2 (I4 jw)/\K3 y sb (so+jw) (I4 nv)):=λy hy=>by
    have h1:=zbt.o.own.box;have hlo:=zbt.o.own.lo;have hlt:=zA H4.o;have h2:=(hy.block _ (zA h1) (by omega)).trans h1;have h3:=(zbt.o.own.below.block _ (zA H3.o)).trans H3.o;have h4:=(hy.block _ (zA h3) (by omega)).trans h3;have h5:=zbt.o.instr;have h6:=(hy.block _ (zA h5) HGI.o).trans h5;have h7:=zl zbt.o.own.below _ _ HSC.o;have h8:=(hy.cell (p:=⟨sb,so+jw,none⟩) (World.block_lt_of_cell? _ _ h7) HSG.o).trans h7;exact⟨ze h2 0,ze h2 1,ze h2 2,ze h4 1,ze h6 2,h8⟩
   cases em with
   |true=>
    have J:bf.length=0:=by rw [<-jk.o];exact of_decide_eq_true HEM.o.symm
    have Q:=qh J;clear J;by_cases ha0:nv=0
    rotate_left
    ·have ha1:((nv:Int)==0)=false:=by simp [ha0]
     have HA0:=qh ha0;clear ha0
     have f:R=none:=by
      rw [kJ.o,uY N.o.symm];rw [if_neg (λh=>HA0.o (by have:=h.2;rw [<-HVR.o] at this;exact HNV.o.trans this))];rfl
     have P:=qh f;clear f;have I:=zbt.o;have E:=qh I;clear I;refine qz (S:=λy=>Since (λk=>k=G+3) X20 y) (Since.refl _ _).drew (λ_=> ?_)
     obtain⟨wd,H⟩:=qxE X20.drew;rw [<-H];have HFX:=yV.o wd bad (by rw [H];exact E.o.own.box) (by rw [H];exact E.o.own.below.drew);have L:J2 (Since (λk=>k=G+3) X20 wd):=by rw [J2,H];exact(Since.refl _ _).drew
     clear H;refine zB 0 CZ.o (L.o) ?_
     refine zB 1 zM (L.o) ?_
     refine zB 2 zM (L.o) ?_
     refine zB 3 zM (L.o) ?_
     refine zB 4 CZ.o (L.o) ?_
     refine zB 5 zM (L.o) ?_
     refine zB 6 CZ.o (L.o) ?_
     refine zB 7 zM (L.o) ?_
     refine zB 8 CZ.o (L.o) ?_
     refine zB 9 zM (L.o) ?_
     refine zB 10 zM (L.o) ?_
     refine yA 11 rfl (λK hK=> ?_)
     obtain⟨-,⟨q0,q1,q2⟩,⟨f0,f1,f2⟩,q,D,z⟩:=HFX;have T:=qh q;have O:=qh D;have U:=qh z;clear q D z;go_simp
     refine hK.out _ _ (L.o.trans O.o (λ_ h=> .inl h)) (λ_=> ?_)
     clear hK K;refine zB 12 zM ((L.o.trans O.o (λ_ h=> .inl h))) ?_
     refine xC ?_
     go_wp2_with fail
     (try simp only [Exit.inBlock,Exit.then])
     refine bodyPost_ret (zK rfl _ _ (G+3) 61 _ (0,0) _ rfl T.o Tryz.underlying61 rfl zN) rfl ?_
     exact⟨uU P.o,U.o⟩
    have ha1:((nv:Int)==0)=true:=by simp [ha0]
    have HA0:=qh ha0;clear ha0
    have f:R=some ⟨ts1,(mem.set jw 1),bad⟩:=by
     rw [kJ.o,uY N.o.symm];rw [if_pos ⟨Q.o,by rw [<-HVR.o];exact HNV.o.symm.trans HA0.o⟩];simp only [Option.map_some];rw [<-HVR.o,HT1.o];rfl
    have P:=qh f;clear f;have I:=zbt.o;have E:=qh I;clear I;refine qz (S:=λy=>Since (λk=>k=G+3) X20 y) (Since.refl _ _).drew (λ_=> ?_)
    obtain⟨wd,H⟩:=qxE X20.drew;rw [<-H];have HFX:=yV.o wd bad (by rw [H];exact E.o.own.box) (by rw [H];exact E.o.own.below.drew);have L:J2 (Since (λk=>k=G+3) X20 wd):=by rw [J2,H];exact(Since.refl _ _).drew
    clear H;refine zB 0 CZ.o (L.o) ?_
    refine zB 1 zM (L.o) ?_
    refine zB 2 zM (L.o) ?_
    refine zB 3 zM (L.o) ?_
    refine zB 4 CZ.o (L.o) ?_
    refine zB 5 zM (L.o) ?_
    refine zB 6 CZ.o (L.o) ?_
    refine zB 7 zM (L.o) ?_
    refine zB 8 CZ.o (L.o) ?_
    refine zB 9 zM (L.o) ?_
    refine zB 10 zM (L.o) ?_
    refine yA 11 rfl (λK hK=> ?_)
    obtain⟨-,⟨q0,q1,q2⟩,⟨f0,f1,f2⟩,q,D,z⟩:=HFX;have T:=qh q;have O:=qh D;have U:=qh z;clear q D z;go_simp
    refine hK.out _ _ (L.o.trans O.o (λ_ h=> .inl h)) (λ_=> ?_)
    clear hK K;refine zB 12 zM ((L.o.trans O.o (λ_ h=> .inl h))) ?_
    refine xC ?_
    go_wp2_with fail
    (try simp only [Exit.inBlock,Exit.then])
    refine bodyPost_ret (zK rfl _ _ (G+3) 61 _ (0,0) _ rfl T.o Tryz.underlying61 rfl zN) rfl ?_
    exact⟨vD P.o (uW.o _ _ _ _ _ _ _ E.o (L.o.trans O.o (λ_ h=> .inl h))),U.o⟩
   |false=>
   have J:¬bf.length=0:=by rw [<-jk.o];exact of_decide_eq_false HEM.o.symm
   have Q:=qh J;clear J
   have f:R=none:=by
    rw [kJ.o,uY N.o.symm];rw [if_neg (λh=>Q.o h.1)];rfl
   have P:=qh f;clear f;have I:=zbt.o;have E:=qh I;clear I;refine qz (S:=λy=>Since (λk=>k=G+3) X20 y) (Since.refl _ _).drew (λ_=> ?_)
   obtain⟨wd,H⟩:=qxE X20.drew;rw [<-H];have HFX:=yV.o wd bad (by rw [H];exact E.o.own.box) (by rw [H];exact E.o.own.below.drew);have L:J2 (Since (λk=>k=G+3) X20 wd):=by rw [J2,H];exact(Since.refl _ _).drew
   clear H;refine zB 0 CZ.o (L.o) ?_
   refine zB 1 zM (L.o) ?_
   refine zB 2 zM (L.o) ?_
   refine wpAnyH_take (i:=3) (v:=undef) rfl (by kernel_rfl) (by kernel_rfl) (by kernel_rfl) (λ_ _ _ h=>h) (Or.inr ⟨by rfl,rfl⟩) (L.o) ?_
   change wpAnyH _ _ _ _ _ _ _ (Act.put _ (some 202) _) _;simp only [Act.put,jJ];try simp only [jK,jL]
   refine wpAnyH_take (i:=4) (v:=undef) rfl (by kernel_rfl) (by kernel_rfl) (by kernel_rfl) (λ_ _ _ h=>h) (Or.inr ⟨by rfl,rfl⟩) (L.o) ?_
   change wpAnyH _ _ _ _ _ _ _ (Act.put _ (some 203) _) _;simp only [Act.put,jJ];try simp only [jK,jL]
   refine wpAnyH_take (i:=5) (v:=undef) rfl (by kernel_rfl) (by kernel_rfl) (by kernel_rfl) (λ_ _ _ h=>h) (Or.inr ⟨by rfl,rfl⟩) (L.o) ?_
   change wpAnyH _ _ _ _ _ _ _ (Act.put _ (some 204) _) _;simp only [Act.put,jJ];try simp only [jK,jL]
   refine wpAnyH_take (i:=6) (v:=undef) rfl (by kernel_rfl) (by kernel_rfl) (by kernel_rfl) (λ_ _ _ h=>h) (Or.inr ⟨by rfl,rfl⟩) (L.o) ?_
   change wpAnyH _ _ _ _ _ _ _ (Act.put _ (some 205) _) _;simp only [Act.put,jJ];try simp only [jK,jL]
   refine wpAnyH_take (i:=7) (v:=undef) rfl (by kernel_rfl) (by kernel_rfl) (by kernel_rfl) (λ_ _ _ h=>h) (Or.inr ⟨by rfl,rfl⟩) (L.o) ?_
   change wpAnyH _ _ _ _ _ _ _ (Act.put _ (some 206) _) _;simp only [Act.put,jJ];try simp only [jK,jL]
   refine wpAnyH_take (i:=8) (v:=undef) rfl (by kernel_rfl) (by kernel_rfl) (by kernel_rfl) (λ_ _ _ h=>h) (Or.inr ⟨by rfl,rfl⟩) (L.o) ?_
   change wpAnyH _ _ _ _ _ _ _ (Act.put _ (some 207) _) _;simp only [Act.put,jJ];try simp only [jK,jL]
   refine wpAnyH_take (i:=9) (v:=undef) rfl (by kernel_rfl) (by kernel_rfl) (by kernel_rfl) (λ_ _ _ h=>h) (Or.inr ⟨by rfl,rfl⟩) (L.o) ?_
   change wpAnyH _ _ _ _ _ _ _ (Act.put _ (some 208) _) _;simp only [Act.put,jJ];try simp only [jK,jL]
   refine zB 10 zM (L.o) ?_
   refine yA 11 rfl (λK hK=> ?_)
   obtain⟨-,⟨q0,q1,q2⟩,⟨f0,f1,f2⟩,q,D,z⟩:=HFX;have T:=qh q;have O:=qh D;have U:=qh z;clear q D z;go_simp
   refine hK.out _ _ (L.o.trans O.o (λ_ h=> .inl h)) (λ_=> ?_)
   clear hK K;refine zB 12 zM ((L.o.trans O.o (λ_ h=> .inl h))) ?_
   refine xC ?_
   go_wp2_with fail
   (try simp only [Exit.inBlock,Exit.then])
   refine bodyPost_ret (zK rfl _ _ (G+3) 61 _ (0,0) _ rfl T.o Tryz.underlying61 rfl zN) rfl ?_
   exact⟨uU P.o,U.o⟩
 have p7:((op:Int)==7)=false:=by simp [o7]
 by_cases o8:op=8
 ·have jA:J2 ((8:Int)=x.op):=by rw [J2, <-N.o,o8]
  clear N;have N:=jA;clear jA;have p8:((op:Int)==8)=true:=by simp [o8]
  clear o8
  as_aux_lemma=>
   go_upto_region 39 with fail
   have z2:=ze V.o.instr 2;have hbx:=V.o.own.box;have g1:=ze hbx 1;clear hbx;have hml:jw<mem.length:=by rw [<-jE.o];omega
   obtain⟨m0,m1⟩:=V.o.zlE hml;have bW:(jw:Int)<(mn:Int):=by omega
   have zmt:=qh (V.o.mem jw 0);clear hml;go_upto_region 40 with fail
   clear z2 g1 m0 m1 bW;generalize World.setCell X4 _ _=X24 at zmt ⊢;cases em with
   |true=>
    have J:bf.length=0:=by rw [<-jk.o];exact of_decide_eq_true HEM.o.symm
    have Q:=qh J;clear J
    have f:R=some ⟨ts1,(mem.set jw 0),bad⟩:=by
     rw [kJ.o,uD N.o.symm];rw [if_pos Q.o];simp only [Option.map_some];rw [<-HVR.o,HT1.o];rfl
    have P:=qh f;clear f;have I:=zmt.o;have E:=qh I;clear I;obtain⟨⟨a0,a1,a2⟩,⟨q0,q1,q2⟩,⟨f0,f1,f2⟩,q,D,z⟩:=yV.o X24 bad E.o.own.box E.o.own.below;have T:=qh q;have O:=qh D;have U:=qh z;clear q D z;go_wp2_with fail
    (try simp only [Exit.inBlock,Exit.then])
    refine bodyPost_ret (zK rfl _ _ (G+3) 61 _ (0,0) _ rfl T.o Tryz.underlying61 rfl zN) rfl ?_
    exact⟨vD P.o (uW.o _ _ _ _ _ _ _ E.o O.o),U.o⟩
   |false=>
   have J:¬bf.length=0:=by rw [<-jk.o];exact of_decide_eq_false HEM.o.symm
   have Q:=qh J;clear J
   have f:R=none:=by
    rw [kJ.o,uD N.o.symm];rw [if_neg Q.o];rfl
   have P:=qh f;clear f;have I:=zmt.o;have E:=qh I;clear I;obtain⟨⟨a0,a1,a2⟩,⟨q0,q1,q2⟩,⟨f0,f1,f2⟩,q,D,z⟩:=yV.o X24 bad E.o.own.box E.o.own.below;have T:=qh q;have O:=qh D;have U:=qh z;clear q D z;go_wp2_with fail
   (try simp only [Exit.inBlock,Exit.then])
   refine bodyPost_ret (zK rfl _ _ (G+3) 61 _ (0,0) _ rfl T.o Tryz.underlying61 rfl zN) rfl ?_
   exact⟨uU P.o,U.o⟩
 have p8:((op:Int)==8)=false:=by simp [o8]
 by_cases o9:op=9
 ·have jA:J2 ((9:Int)=x.op):=by rw [J2, <-N.o,o9]
  clear N;have N:=jA;clear jA;have p9:((op:Int)==9)=true:=by simp [o9]
  clear o9
  as_aux_lemma=>
   go_upto_region 42 with fail
   have hbx:=V.o.own.box;have g2:=ze hbx 2;have h2:=zH hbx 2;clear hbx;cases bad with
   |true=>
    have zsU:=qh (V.o.isBad true);go_upto_region 48 with fail
    clear g2 h2;generalize World.setCell X4 _ _=X25 at zsU ⊢
    have f:R=some ⟨ts1,mem,true⟩:=by
     rw [kJ.o,wR N.o.symm];rw [HT1.o];rfl
    have P:=qh f;clear f;have I:=zsU.o;have E:=qh I;clear I;obtain⟨⟨a0,a1,a2⟩,⟨q0,q1,q2⟩,⟨f0,f1,f2⟩,q,D,z⟩:=yV.o X25 true E.o.own.box E.o.own.below;have T:=qh q;have O:=qh D;have U:=qh z;clear q D z;go_wp2_with fail
    (try simp only [Exit.inBlock,Exit.then])
    refine bodyPost_ret (zK rfl _ _ (G+3) 61 _ (0,0) _ rfl T.o Tryz.underlying61 rfl zN) rfl ?_
    exact⟨vD P.o (uW.o _ _ _ _ _ _ _ E.o O.o),U.o⟩
   |false=>
   by_cases ha0:A=0
   rotate_left
   ·have ha1:((A:Int)==0)=false:=by simp [ha0]
    have HA0:=qh ha0;clear ha0;have zsV:=qh (V.o.isBad false);go_upto_region 48 with fail
    clear g2 h2;generalize World.setCell X4 _ _=X27 at zsV ⊢
    have f:R=some ⟨ts1,mem,false⟩:=by
     rw [kJ.o,wR N.o.symm];rw [HT1.o, <-HA.o,decide_eq_false HA0.o];rfl
    have P:=qh f;clear f;have I:=zsV.o;have E:=qh I;clear I;obtain⟨⟨a0,a1,a2⟩,⟨q0,q1,q2⟩,⟨f0,f1,f2⟩,q,D,z⟩:=yV.o X27 false E.o.own.box E.o.own.below;have T:=qh q;have O:=qh D;have U:=qh z;clear q D z;go_wp2_with fail
    (try simp only [Exit.inBlock,Exit.then])
    refine bodyPost_ret (zK rfl _ _ (G+3) 61 _ (0,0) _ rfl T.o Tryz.underlying61 rfl zN) rfl ?_
    exact⟨vD P.o (uW.o _ _ _ _ _ _ _ E.o O.o),U.o⟩
   have ha1:((A:Int)==0)=true:=by simp [ha0]
   have HA0:=qh ha0;clear ha0;have zsW:=qh (V.o.isBad true);go_upto_region 48 with fail
   clear g2 h2;generalize World.setCell X4 _ _=X26 at zsW ⊢
   have f:R=some ⟨ts1,mem,true⟩:=by
    rw [kJ.o,wR N.o.symm];rw [HT1.o, <-HA.o,decide_eq_true HA0.o];rfl
   have P:=qh f;clear f;have I:=zsW.o;have E:=qh I;clear I;obtain⟨⟨a0,a1,a2⟩,⟨q0,q1,q2⟩,⟨f0,f1,f2⟩,q,D,z⟩:=yV.o X26 true E.o.own.box E.o.own.below;have T:=qh q;have O:=qh D;have U:=qh z;clear q D z;go_wp2_with fail
   (try simp only [Exit.inBlock,Exit.then])
   refine bodyPost_ret (zK rfl _ _ (G+3) 61 _ (0,0) _ rfl T.o Tryz.underlying61 rfl zN) rfl ?_
   exact⟨vD P.o (uW.o _ _ _ _ _ _ _ E.o O.o),U.o⟩
 have p9:((op:Int)==9)=false:=by simp [o9]
 by_cases o12:op=12
 rotate_left
 ·have p12:((op:Int)==12)=false:=by simp [o12]
  by_cases o13:op=13
  rotate_left
  ·have p13:((op:Int)==13)=false:=by simp [o13]
   as_aux_lemma=>
    go_upto_region 48 with fail
    have f:R=some ⟨ts1,mem,bad⟩:=by
     rw [kJ.o,zbU (by rw [<-N.o];exact o1) (by rw [<-N.o];exact o2) (by rw [<-N.o];exact o3) (by rw [<-N.o];exact o4) (by rw [<-N.o];exact o5) (by rw [<-N.o];exact o6) (by rw [<-N.o];exact o7) (by rw [<-N.o];exact o8) (by rw [<-N.o];exact o9) (by rw [<-N.o];exact o12) (by rw [<-N.o];exact o13),HT1.o];rfl
    have P:=qh f;clear f;have I:=V.o;have E:=qh I;clear I;obtain⟨⟨a0,a1,a2⟩,⟨q0,q1,q2⟩,⟨f0,f1,f2⟩,q,D,z⟩:=yV.o X4 bad E.o.own.box E.o.own.below;have T:=qh q;have O:=qh D;have U:=qh z;clear q D z;go_wp2_with fail
    (try simp only [Exit.inBlock,Exit.then])
    refine bodyPost_ret (zK rfl _ _ (G+3) 61 _ (0,0) _ rfl T.o Tryz.underlying61 rfl zN) rfl ?_
    exact⟨vD P.o (uW.o _ _ _ _ _ _ _ E.o O.o),U.o⟩
  have jA:J2 ((13:Int)=x.op):=by rw [J2, <-N.o,o13]
  clear N;have N:=jA;clear jA;have p13:((op:Int)==13)=true:=by simp [o13]
  clear o13
  as_aux_lemma=>
   go_upto_region 47 with fail
   have z11:=ze V.o.instr 11;obtain⟨u0,v0⟩:=V.o.pE HL1.o pG.o pI.o 0 (I4 ((Z:Int)+1)) (by omega) rfl;rw [Nat.add_zero] at u0 v0;have zwk:=V.o.set HL1.o (k:=0) (by omega) (t':=⟨dst, [r0,r1,r2,r3],bf⟩) (u:=(I4 dst)) pG.o pI.o rfl (by simp) rfl;rw [Nat.add_zero] at zwk;have zwl:=qh zwk;clear zwk;go_upto_region 48 with fail
   clear u0 v0 z11;generalize World.setCell X4 _ _=X29 at zwl ⊢;obtain⟨z2x,z2y,z2z,z2A⟩:=zwl.o;have z2B:=qh z2x;have zEJ:=qh z2y;have zEK:=qh z2z;have zFo:=qh z2A;clear z2x z2y z2z z2A zwl
   have f:R=some ⟨ts.set i ⟨dst, [r0,r1,r2,r3],bf⟩,mem,bad⟩:=by
    rw [kJ.o,zbu N.o.symm];simp only [Option.map_some];rw [<-HDS.o]
   have P:=qh f;clear f;have I:=z2B.o;rw [gu.o] at I;have E:=qh I;clear I;obtain⟨⟨a0,a1,a2⟩,⟨q0,q1,q2⟩,⟨f0,f1,f2⟩,q,D,z⟩:=yV.o X29 bad E.o.own.box E.o.own.below;have T:=qh q;have O:=qh D;have U:=qh z;clear q D z;go_wp2_with fail
   (try simp only [Exit.inBlock,Exit.then])
   refine bodyPost_ret (zK rfl _ _ (G+3) 61 _ (0,0) _ rfl T.o Tryz.underlying61 rfl zN) rfl ?_
   exact⟨vD P.o (uW.o _ _ _ _ _ _ _ E.o O.o),U.o⟩
 have jA:J2 ((12:Int)=x.op):=by rw [J2, <-N.o,o12]
 clear N;have N:=jA;clear jA;have p12:((op:Int)==12)=true:=by simp [o12]
 clear o12
 as_aux_lemma=>
  go_upto_region 44 with fail
  by_cases ha0:A=0
  rotate_left
  ·have ha1:((A:Int)==0)=false:=by simp [ha0]
   have HA0:=qh ha0;clear ha0;go_upto_region 48 with fail
   clear ha1
   have f:R=some ⟨ts1,mem,bad⟩:=by
    rw [kJ.o,uE N.o.symm];rw [<-HA.o,if_neg HA0.o,HT1.o];rfl
   have P:=qh f;clear f;have I:=V.o;have E:=qh I;clear I;obtain⟨⟨a0,a1,a2⟩,⟨q0,q1,q2⟩,⟨f0,f1,f2⟩,q,D,z⟩:=yV.o X4 bad E.o.own.box E.o.own.below;have T:=qh q;have O:=qh D;have U:=qh z;clear q D z;go_wp2_with fail
   (try simp only [Exit.inBlock,Exit.then])
   refine bodyPost_ret (zK rfl _ _ (G+3) 61 _ (0,0) _ rfl T.o Tryz.underlying61 rfl zN) rfl ?_
   exact⟨vD P.o (uW.o _ _ _ _ _ _ _ E.o O.o),U.o⟩
  have ha1:((A:Int)==0)=true:=by simp [ha0]
  have HA0:=qh ha0;clear ha0;go_upto_region 45 with fail
  clear ha1;have z11:=ze V.o.instr 11;obtain⟨u0,v0⟩:=V.o.pE HL1.o pG.o pI.o 0 (I4 ((Z:Int)+1)) (by omega) rfl;rw [Nat.add_zero] at u0 v0;have zwm:=V.o.set HL1.o (k:=0) (by omega) (t':=⟨dst, [r0,r1,r2,r3],bf⟩) (u:=(I4 dst)) pG.o pI.o rfl (by simp) rfl;rw [Nat.add_zero] at zwm;have zwn:=qh zwm;clear zwm;go_upto_region 48 with fail
  clear u0 v0 z11;generalize World.setCell X4 _ _=X28 at zwn ⊢;obtain⟨z2C,z2D,z2E,z2F⟩:=zwn.o;have z2G:=qh z2C;have zEL:=qh z2D;have zEM:=qh z2E;have zFp:=qh z2F;clear z2C z2D z2E z2F zwn
  have f:R=some ⟨ts.set i ⟨dst, [r0,r1,r2,r3],bf⟩,mem,bad⟩:=by
   rw [kJ.o,uE N.o.symm];rw [<-HA.o,if_pos HA0.o, <-HDS.o];rfl
  have P:=qh f;clear f;have I:=z2G.o;rw [gu.o] at I;have E:=qh I;clear I;obtain⟨⟨a0,a1,a2⟩,⟨q0,q1,q2⟩,⟨f0,f1,f2⟩,q,D,z⟩:=yV.o X28 bad E.o.own.box E.o.own.below;have T:=qh q;have O:=qh D;have U:=qh z;clear q D z;go_wp2_with fail
  (try simp only [Exit.inBlock,Exit.then])
  refine bodyPost_ret (zK rfl _ _ (G+3) 61 _ (0,0) _ rfl T.o Tryz.underlying61 rfl zN) rfl ?_
  exact⟨vD P.o (uW.o _ _ _ _ _ _ _ E.o O.o),U.o⟩
