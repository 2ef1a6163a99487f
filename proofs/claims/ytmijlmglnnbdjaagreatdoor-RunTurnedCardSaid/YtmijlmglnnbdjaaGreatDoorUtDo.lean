/- Steps. -/
import Derived.Lib.SlMapFilter
import Derived.Maps.Ext
import Derived.Test.YtmijlmglnnbdjaaGreatDoorUtFits
import Derived.Test.YtmijlmglnnbdjaaGreatDoorUtStep
set_option linter.all false
namespace Go.Proofs.YtmijlmglnnbdjaaGreatDoor
open Go.RowKit
set_option maxRecDepth 100000
set_option maxHeartbeats 16000000
theorem zds (w:World) (g f d c b:Obj):Below w.heap.size w (((((w.alloc g).alloc f).alloc d).alloc c).alloc b)/\(((((w.alloc g).alloc f).alloc d).alloc c).alloc b).heap[w.heap.size]? =some g/\(((((w.alloc g).alloc f).alloc d).alloc c).alloc b).heap[w.heap.size+1]? =some f/\
  (((((w.alloc g).alloc f).alloc d).alloc c).alloc b).heap[w.heap.size+2]? =some d/\(((((w.alloc g).alloc f).alloc d).alloc c).alloc b).heap[w.heap.size+3]? =some c/\(((((w.alloc g).alloc f).alloc d).alloc c).alloc b).heap[w.heap.size+4]? =some b:=by
 obtain⟨l,k,j,i,h, -⟩:=zdc w g f d c;refine⟨l.alloc (by simp;omega) b,(Below.heap_alloc _ _ _ (by simp;omega)).trans k,(Below.heap_alloc _ _ _ (by simp;try omega)).trans j,(Below.heap_alloc _ _ _ (by simp;try omega)).trans i,(Below.heap_alloc _ _ _ (by simp;try omega)).trans h, ?_⟩
 have:=zQ ((((w.alloc g).alloc f).alloc d).alloc c) b
 simpa using this
theorem wP.call {e t:TypeId} {size:Nat} {V X d:World} {v f:Value} {n g:Nat} {xs b:List Value} {bs:List (Nat × List Value)} (h:wP e size t V X v n xs bs) (j:Below X.heap.size X d) (i:d.ownsRow X.heap.size e size f g b):wP e size t V d f g b bs:=
 ⟨zy h.below j,xO i h.below.size,λp c=>⟨(j.block _ (zA (h.news p c).1)).trans (h.news p c).1,λe=>by have:=(i.lt _ e).1;have:=zA (h.news p c).1;omega,(h.news p c).2.2⟩⟩
theorem wP.storeAll {e t:TypeId} {size:Nat} {V X:World} {v:Value} {n:Nat} {xs:List Value} {bs:List (Nat × List Value)} (h:wP e size t V X v n xs bs) {g:Nat} {cs:List Value} (f:(g,cs)∈bs) (l:List Value) (c:cs.length=l.length):
  Below V.heap.size V (yU X g 0 l)/\(yU X g 0 l).heap[g]? =some (.cells l.toArray t (0,0))/\V.heap.size<=g/\(yU X g 0 l).ownsRow V.heap.size e size v n xs/\v.ownBlock≠some g:=by
 obtain⟨j,b,i⟩:=h.news _ f;exact⟨h.below.trans ((xR l X 0).below h.below.size (λk e=>by omega)),qU l c j,i,(xR l X 0).row h.row (λk d e=>b (e ▸ d)),b⟩
def vF (x:zw):Value:= .agg #[I4 x.kind,I4 x.thread,I4 x.var]
def zry (w:World) (r:zo × Int) (e:Ending) (w':World):Prop:=(∃xa xn xc ya yn yc bs,e= .returned (.tuple #[yB r.1 (.slice xa xn xc) (.slice ya yn yc),I4 r.2])/\OwnAt w.heap.size w' (.slice xa xn xc) (.slice ya yn yc) r.1.threads r.1.mem bs)/\Below w.heap.size w w'
def zlH (o:Option zo):zo × Int:=match o with|some t=>(t,0)|none=>(qj,50)
theorem zu7 (B:Nat) (w:World):OwnAt B w (N7) (N7) qj.threads qj.mem [] :=
 ⟨World.ownsRow_nil _ _ _ _,World.ownsRow_nil _ _ _ _,λj b=>by simp [qj] at b,rfl,λj b=>by simp [qj] at b,λj b=>by simp [qj] at b,λk c=>by simp [Value.ownBlock] at c,λi j d=>by simp [qj] at d⟩
theorem bR {w b:World} {r:zo × Int} {k:Int} (h:r=(qj,k)) (c:Below w.heap.size w b):zry w r (.returned (.tuple #[.agg #[N7,N7, .bool false],I4 k])) b:=by
 subst h;exact⟨⟨none,0,0,none,0,0, [],rfl,zu7 _ _⟩,c⟩
theorem zfy {w j:World} {r:zo × Int} {s:zo} {i d:Option Addr} {f g b c:Nat} {bs:List Value} (h:r=(s,0)) (k:OwnAt w.heap.size j (.slice i f g) (.slice d b c) s.threads s.mem bs) (l:Below w.heap.size w j):zry w r (.returned (.tuple #[.agg #[.slice i f g, .slice d b c, .bool s.bad],I4 0])) j:=by
 subst h;exact⟨⟨i,f,g,d,b,c,bs,rfl,k⟩,l⟩
theorem z5h (w:World) (c:zG) (cv:Value) (d:Nat) (hc:yP d w cv c.threads) (m:zC) (s:zo) (sv mv:Value) (hs:yD w s sv mv) (hb:∀j,j<s.threads.length->(s.threads.getD j default).buf.length<=100000) (x:zw):
  Calls Tryz.prog 32 #[yj c cv,yE m,yB s sv mv,vF x] w (zry w (jR c m s x d)):=by
 obtain⟨ca,cc,rfl, -⟩:=zh.slice hc;obtain⟨ta,j6,rfl, -⟩:=zh.slice hs.threads;obtain⟨ma,vU,rfl, -⟩:=zh.slice hs.mem;obtain⟨fo,hfo⟩:=qxE (yJ c m s);obtain⟨R,hR⟩:=qxE (jR c m s x d);rw [<-hR];have A:=λW hc hs=>zm6 W c (.slice ca c.threads.length cc) d hc m s (.slice ta s.threads.length j6) (.slice ma s.mem.length vU) hs (λj hj=>by have:=hb j hj;omega)
 rw [<-hfo] at A;have V:=λW hW=>zpb W s (.slice ta s.threads.length j6) (.slice ma s.mem.length vU) hW;have G:=λW hc hs i=>λ(hf:fo=true) hi=>zmn W c (.slice ca c.threads.length cc) d hc m s (.slice ta s.threads.length j6) (.slice ma s.mem.length vU) hs (hfo.symm.trans hf) i hi hb
 have hff:fo=true->s.threads.length=c.threads.length/\(s.mem.length:Int)=c.vars/\1<=c.vars/\c.vars<=4/\c.threads.length<=4:=λe=>by
  obtain⟨h1, -,h2,h3, -⟩:=zam (hfo.symm.trans e);have h4:=xY h1;exact⟨h2,h3,h4.1,h4.2.1,h4.2.2.2.2.2⟩
 have hfh:fo=true->∀i,i<s.threads.length->∀v,v∈yX (s.threads.getD i default).buf m.model->0<=v/\v<c.vars/\∃n,takeB (s.threads.getD i default).buf v=(some ⟨v,n⟩,(takeB (s.threads.getD i default).buf v).2):=λe i hi v hv=>zcO (hfo.symm.trans e) hi hv
 have hR2:R=(if fo then(if 0<=x.thread/\x.thread<(s.threads.length:Int) then(if x.kind=1/\x.var=0 then zlH (kQ c m s x.thread.toNat d)
   else if x.kind=2/\x.var∈yX (s.threads.getD x.thread.toNat default).buf m.model then(pR s x.thread.toNat x.var,0) else(qj,50)) else(qj,50)) else(qj,1):zo × Int):=by rw [hR,hfo];rfl
 obtain⟨vars,dom,cs⟩:=c;obtain⟨mod,bnd⟩:=m;obtain⟨ts,mem,bad⟩:=s;obtain⟨kind,th,vr⟩:=x;have hT:=hs.threads;have hME:=hs.mem;obtain⟨C,hC⟩:=qxE (⟨vars,dom,cs⟩:zG);obtain⟨M,hM⟩:=qxE (⟨mod,bnd⟩:zC);obtain⟨S,hS⟩:=qxE (⟨ts,mem,bad⟩:zo);rw [<-hC, <-hM, <-hS] at hR2;simp only [] at hc hs hb hff hfh A V G hR2 hT hME ⊢;unfold yj yE yB vF;unfold yj yE yB at A G;unfold yB at V;simp only [] at V A G ⊢;obtain⟨n,hn⟩:=qxE ts.length;obtain⟨cn,hcn⟩:=qxE cs.length;obtain⟨mn,hmn⟩:=qxE mem.length;rw [<-hn] at hs hT V hb A G hff hfh ⊢;rw [<-hmn] at hs hME V A G hff ⊢;rw [<-hcn] at hc A G hff ⊢
 obtain⟨hB,h1,h2,h3,h4,h5⟩:=zds w (.cells #[I4 vars,I4 dom, .slice ca cn cc] 25) (.cells #[I4 mod,I4 bnd] 30) (.cells #[.slice ta n j6, .slice ma mn vU, .bool bad] 61) (.cells #[I4 kind,I4 th,I4 vr] 46) (.cells #[N7,N7, .bool false] 61);have HB:=qh hB;have H1:=qh h1;have H2:=qh h2;have H3:=qh h3;have H4:=qh h4;have H5:=qh h5;have HCS:=qh (zh.below (xV.stays d) hc hB);have HSW:=qh (yD.below hs hB);have HC:=qh hC;have HM:=qh hM;have HS:=qh hS;have HN:=qh hn;have HCN:=qh hcn;have jE:=qh hmn;have HBU:=qh hb;have zb2:=qh A;have HOWN:=qh V;have bq:=qh G;have HFF:=qh hff;have HFH:=qh hfh
 have HRR:=qh hR2;clear hC hM hS hn hcn hmn hb A V G hff hfh hR2 hfo hB h1 h2 h3 h4 h5 hT hME hc hs hR;go_enter Tryz.func32,Tryz.ntmps32
 go_upto_region 1 with fail
 generalize World.alloc (World.alloc (World.alloc (World.alloc (World.alloc w _) _) _) _) _=W at HB H1 H2 H3 H4 H5 HCS HSW ⊢;obtain⟨z,hgx⟩:=qxE w.heap.size;rw [<-hgx] at H1 H2 H3 H4 H5 ⊢;have xG:=qh hgx;clear hgx
 have qy:J2 (∀y,Below W.heap.size W y->K3 y z 0 (I4 vars)/\K3 y z 1 (I4 dom)/\K3 y z 2 (.slice ca cn cc)/\
   K3 y (z+1) 0 (I4 mod)/\K3 y (z+1) 1 (I4 bnd)/\K3 y (z+2) 0 (.slice ta n j6)/\K3 y (z+2) 1 (.slice ma mn vU)/\K3 y (z+2) 2 (.bool bad)/\
   K3 y (z+3) 0 (I4 kind)/\K3 y (z+3) 1 (I4 th)/\K3 y (z+3) 2 (I4 vr)):=λy hx=>
  ⟨zl hx _ _ (ze H1.o 0),zl hx _ _ (ze H1.o 1),zl hx _ _ (ze H1.o 2),zl hx _ _ (ze H2.o 0),zl hx _ _ (ze H2.o 1),zl hx _ _ (ze H3.o 0),zl hx _ _ (ze H3.o 1),zl hx _ _ (ze H3.o 2),zl hx _ _ (ze H4.o 0),zl hx _ _ (ze H4.o 1),zl hx _ _ (ze H4.o 2)⟩
 have zT:J2 (∀y,Below W.heap.size W y->(K3 y (z+4) 0 (N7)/\K3 y (z+4) 1 (N7)/\K3 y (z+4) 2 (.bool false))/\
   (y.frozen? ⟨z+4,0,none⟩=false/\y.frozen? ⟨z+4,1,none⟩=false/\y.frozen? ⟨z+4,2,none⟩=false)/\
   ∀a b c:Value,(((y.setCell ⟨z+4,0,none⟩ a).setCell ⟨z+4,1,none⟩ b).setCell ⟨z+4,2,none⟩ c).heap[z+4]? =some (.cells #[a,b,c] 61 (0,0))/\
    Since (λk=>k=z+4) y (((y.setCell ⟨z+4,0,none⟩ a).setCell ⟨z+4,1,none⟩ b).setCell ⟨z+4,2,none⟩ c)/\
    Below w.heap.size w (((y.setCell ⟨z+4,0,none⟩ a).setCell ⟨z+4,1,none⟩ b).setCell ⟨z+4,2,none⟩ c)):=λy hy=>by
  have U:=(hy.block _ (zA H5.o)).trans H5.o;refine⟨⟨ze U 0,ze U 1,ze U 2⟩,⟨zH U 0,zH U 1,zH U 2⟩,λa b c=> ?_⟩
  have f:=zu (zu (zu U 0 a) 1 b) 2 c;simp only [List.setIfInBounds_toArray,List.set_cons_zero,List.set_cons_succ] at f;have hS:Since (λk=>k=z+4) y (((y.setCell ⟨z+4,0,none⟩ a).setCell ⟨z+4,1,none⟩ b).setCell ⟨z+4,2,none⟩ c):=Since.setCell (F:=λk=>k=z+4) (p:=⟨z+4,2,none⟩) (Since.setCell (F:=λk=>k=z+4) (p:=⟨z+4,1,none⟩) (Since.setCell (F:=λk=>k=z+4) (p:=⟨z+4,0,none⟩) (Since.refl _ y) (.inl rfl) _) (.inl rfl) _) (.inl rfl) _;exact⟨f,hS,(HB.o.trans (hy.mono HB.o.size)).trans (hS.below (by have:=HB.o.size;have:=hy.size;omega) (λk e=>by have:=xG.o;omega))⟩
 obtain⟨c0,c1,c2,c3,c4,c5,c6,c7, -, -, -⟩:=qy.o W (Below.refl _ _);go_wp2_with fail
 refine(zb2.o W HCS.o HSW.o).mono ?_
 rintro e W1 ⟨rfl,hb1⟩;have J:=qh hb1;clear hb1 zb2 c0 c1 c2 c3 c4 c5 c6 c7;cases fo with
 |false=>
  have hr:R=(qj,1):=by rw [HRR.o];rfl
  have HR:=qh hr;clear hr;obtain⟨⟨q0,q1,q2⟩,⟨f0,f1,f2⟩,l⟩:=zT.o W1 J.o;obtain⟨f, -,r⟩:=l (N7) (N7) (.bool false);have zL:=qh f;have yR:=qh r;clear f r l;go_wp2_with fail
  (try simp only [Exit.inBlock,Exit.then])
  refine bodyPost_ret (zK rfl _ _ (z+4) 61 _ (0,0) _ rfl zL.o Tryz.underlying61 rfl zN) rfl ?_
  exact bR HR.o yR.o
 |true=>
 obtain⟨c0,c1,c2,c3,c4,c5,c6,c7,c8,c9,Z⟩:=qy.o W1 J.o;by_cases ht:0<=th/\th<(n:Int)
 rotate_left
 ·have hr:R=(qj,50):=by
   rw [HRR.o,if_pos rfl,if_neg];rw [HS.o];simp only [];rw [<-HN.o];exact ht
  have HR:=qh hr;clear hr;by_cases ht0:th<0
  ·clear ht;go_upto_region 4 with fail
   clear c0 c1 c2 c3 c4 c5 c6 c7 c8 c9 Z;obtain⟨⟨q0,q1,q2⟩,⟨f0,f1,f2⟩,l⟩:=zT.o W1 J.o;obtain⟨f, -,r⟩:=l (N7) (N7) (.bool false);have zL:=qh f;have yR:=qh r;clear f r l;go_wp2_with fail
   (try simp only [Exit.inBlock,Exit.then])
   refine bodyPost_ret (zK rfl _ _ (z+4) 61 _ (0,0) _ rfl zL.o Tryz.underlying61 rfl zN) rfl ?_
   exact bR HR.o yR.o
  have ht1:(n:Int)<=th:=by omega
  clear ht;go_upto_region 4 with fail
  clear c0 c1 c2 c3 c4 c5 c6 c7 c8 c9 Z;obtain⟨⟨q0,q1,q2⟩,⟨f0,f1,f2⟩,l⟩:=zT.o W1 J.o;obtain⟨f, -,r⟩:=l (N7) (N7) (.bool false);have zL:=qh f;have yR:=qh r;clear f r l;go_wp2_with fail
  (try simp only [Exit.inBlock,Exit.then])
  refine bodyPost_ret (zK rfl _ _ (z+4) 61 _ (0,0) _ rfl zL.o Tryz.underlying61 rfl zN) rfl ?_
  exact bR HR.o yR.o
 obtain⟨i,rfl⟩:∃i:Nat,th=i:=⟨th.toNat,by omega⟩;have hi:i<n:=by omega
 have hiI:(i:Int)<(n:Int):=by omega
 have hi0:¬(i:Int)<0:=by omega
 clear ht;obtain⟨hln,hlm,hv1,hv4,hc4⟩:=HFF.o (by trivial);have z9Y:mn<=4/\1<=mn:=by omega
 have pF:n<=4:=by omega
 have HLM:=qh hlm;clear hln hlm hv1 hv4 hc4
 have HR2:J2 (R=(if kind=1/\vr=0 then zlH (kQ C M S i d)
   else if kind=2/\vr∈yX (S.threads.getD i default).buf M.model then(pR S i vr,0) else(qj,50):zo × Int)):=by
  rw [J2,HRR.o,if_pos rfl,if_pos ⟨by omega,by rw [HS.o];simp only [];rw [<-HN.o];exact hiI⟩];rfl
 clear HRR;by_cases hk1:kind=1/\vr=0
 ·obtain⟨rfl,rfl⟩:=hk1;obtain⟨st,hst⟩:=qxE (kQ C M S i d);have P:=HR2.o;rw [if_pos ⟨rfl,rfl⟩, <-hst] at P;have HR3:=qh P;have hsp:=bq.o W1 (zh.below (xV.stays d) HCS.o J.o) (HSW.o.below J.o) i rfl hi;rw [<-HC.o, <-HM.o, <-HS.o, <-hst] at hsp;have HSP:=qh hsp;clear P hsp hst HR2;go_upto_region 6 with fail
  go_upto_region 7 with(go_at_call 57;(refine HSP.o.mono ?_);rintro e W2 ⟨⟨xa,xn,xc,ya,yn,yc,s',rfl,hsp⟩,hb2⟩;have z5i:=qh hsp;have HB2:=qh (zy J.o hb2);clear hsp hb2;try unfold yB)
  have hbx:=HB2.o.alloc HB2.o.size (.cells #[.slice xa xn xc, .slice ya yn yc, .bool s'.bad] 61);have E:=zQ W2 (.cells #[.slice xa xn xc, .slice ya yn yc, .bool s'.bad] 61);have hkp:=λt (e:st=some t)=>(⟨(z5i.o t e).1,(z5i.o t e).2.elim λbs h=>⟨bs,h.below ((Below.refl _ _).alloc (Nat.le_refl _) _)⟩⟩:s'=t/\∃bs,OwnAt W1.heap.size (W2.alloc (.cells #[.slice xa xn xc, .slice ya yn yc, .bool s'.bad] 61)) (.slice xa xn xc) (.slice ya yn yc) t.threads t.mem bs);have HB3:=qh hbx;have O:=qh E;have HKP:=qh hkp;clear hbx E hkp c0 c1 c2 c3 c4 c5 c6 c7 c8 c9 Z;generalize World.alloc W2 _=W3 at HB3 O HKP ⊢
  obtain⟨xb,E⟩:=qxE W2.heap.size;rw [<-E] at O ⊢;clear E;cases st with
  |none=>
   have hr:R=(qj,50):=HR3.o;have HR:=qh hr;clear hr;simp only [Option.isSome_none];obtain⟨⟨q0,q1,q2⟩,⟨f0,f1,f2⟩,l⟩:=zT.o W3 HB3.o;obtain⟨f, -,r⟩:=l (N7) (N7) (.bool false);have zL:=qh f;have yR:=qh r;clear f r l;go_wp2_with fail
   (try simp only [Exit.inBlock,Exit.then])
   refine bodyPost_ret (zK rfl _ _ (z+4) 61 _ (0,0) _ rfl zL.o Tryz.underlying61 rfl zN) rfl ?_
   exact bR HR.o yR.o
  |some t=>
  obtain⟨rfl,bs,hst⟩:=HKP.o t rfl;have HST:=qh hst;clear hst;have hr:R=(s',0):=HR3.o;have HR:=qh hr;clear hr;simp only [Option.isSome_some];have b0:=ze O.o 0;have b1:=ze O.o 1;have b2:=ze O.o 2;obtain⟨⟨q0,q1,q2⟩,⟨f0,f1,f2⟩,l⟩:=zT.o W3 HB3.o;obtain⟨f,hsn,r⟩:=l (.slice xa xn xc) (.slice ya yn yc) (.bool s'.bad);have zL:=qh f;have qp:=qh hsn;have yR:=qh r;clear f r l hsn;go_wp2_with fail
  (try simp only [Exit.inBlock,Exit.then])
  refine bodyPost_ret (zK rfl _ _ (z+4) 61 _ (0,0) _ rfl zL.o Tryz.underlying61 rfl zN) rfl ?_
  refine zfy HR.o (OwnAt.lower (B:=W1.heap.size) (HST.o.since qp.o ?_ ?_ ?_) ?_) yR.o
  ·exact λk L e=>by have:=(HST.o.row.lt k L).1;have:=J.o.size;have:=zA H5.o;omega
  ·exact λk L e=>by have:=(HST.o.mem.lt k L).1;have:=J.o.size;have:=zA H5.o;omega
  ·exact λj hj k L e=>by have:=((HST.o.buf j hj).lt k L).1;have:=J.o.size;have:=zA H5.o;omega
  exact Nat.le_trans HB.o.size J.o.size
 have hk2:=hk1;have HK1:=qh hk2;have P:=HR2.o;rw [if_neg hk1] at P;clear HR2 hk2;go_upto_region 5 with fail
 go_cut [43] (λs43 w'=>s43= .bool false/\w'=W1)
 case first=>
  by_cases hkk:kind=1
  ·have hv0:¬vr=0:=λe=>HK1.o ⟨hkk,e⟩;have hk3:((kind:Int)==1)=true:=by simp [hkk]
   have hv3:((vr:Int)==0)=false:=by simp [hv0]
   clear hkk hv0 hk1;go_wp2_with fail
   go_meet
   case rel=>exact⟨by first|rfl|simp,rfl⟩
  have hk3:((kind:Int)==1)=false:=by simp [hkk]
  clear hkk hk1;go_wp2_with fail
  go_meet
  case rel=>exact⟨by first|rfl|simp,rfl⟩
 case rest=>
 obtain⟨rfl,hww⟩:=hcut;obtain rfl:W1=wc:=hww.symm;clear hk1 HK1 c0 c1 c2 c3 c4 c5 c6 c7 c8 c9 Z;obtain⟨t,ht⟩:=qxE (ts.getD i default);have hhd:=HFH.o (by trivial) i hi;have hbl:=HBU.o i hi;rw [HS.o,HM.o] at P;simp only [] at P;rw [<-ht] at hhd hbl P;obtain⟨sb,so,ba,bc,hta, -,hr4,x0,x1,x2,x3,x4,x5,hbuf⟩:=qR.part HSW.o.threads i (by simp only [];rw [<-HN.o];exact hi);simp only [] at hr4 x0 x1 x2 x3 x4 x5 hbuf;subst hta;rw [<-ht] at hr4 x5 hbuf;obtain⟨pc,rg,bf⟩:=t;obtain⟨r0,r1,r2,r3,rfl⟩:=wM hr4;simp only [] at x5 hbuf hhd hbl P;obtain⟨bl,wz⟩:=qxE bf.length;rw [<-wz] at x5 hbuf hbl
 obtain⟨hh,hhe⟩:=qxE (yX bf mod);rw [<-hhe] at hhd P;have HBF:J2 (∀y,Below W.heap.size W y->K3 y sb (so+i*6+5) (.slice ba bl bc)/\zX y (.slice ba bl bc) bf):=λy hy=>⟨zl hy _ _ x5,zX.below hbuf hy⟩;have HHD:=qh hhd;have HR3:=qh P;have jk:=qh wz;have HHE:=qh hhe;have HT:=qh ht;clear x0 x1 x2 x3 x4 x5 hr4 hbuf hhd P wz hhe ht;go_upto_region 10 with fail
 obtain⟨-, -, -,c3, -,c5, -, -, -,c9, -⟩:=qy.o W1 J.o;have x5:=(HBF.o W1 J.o).1;refine wp_region_still_tail 9 (by kernel_rfl) (by kernel_rfl) ?_
 simp only [List.take_succ_cons,List.take_zero,List.drop_succ_cons,List.drop_zero];repeat still_step
 try refine wpStill_nil ?_
 change wpList _ _ _ _ _ W1.drew;obtain⟨wd,hwd⟩:=qxE W1.drew;rw [<-hwd];have kG:J2 (Below W.heap.size W wd):=by rw [J2,hwd];exact J.o.drew
 clear hwd c3 c5 c9 x5;go_upto_region 11 with(go_at_call 58;(refine(zs7 wd (.slice ba bl bc) bf (HBF.o wd kG.o).2 (by rw [<-jk.o];omega) mod).mono ?_);rintro e W2 ⟨⟨hv,rfl,hhi⟩,hb2⟩;obtain⟨ha,hca,rfl,hhl⟩:=zh.slice hhi;have HHI:=qh hhi;have HB2:=qh (zy kG.o hb2);clear hhi hb2)
 rw [<-HHE.o] at HHI ⊢;obtain⟨hn2,hhn⟩:=qxE hh.length;rw [<-hhn] at HHI ⊢;have HHN:=qh hhn;rw [<-HHE.o, <-hhn] at hhl;clear hhn;go_wp2_with fail
 go_loopg [13] hn2 (λgg s13 wr=>∃j:Nat,j<=hn2/\J2 (gg=hn2 - j)/\s13=I4 j/\J2 (Below W2.heap.size W2 wr)/\J2 (∀q,q<j->kind=2->¬hh.getD q 0=vr))
 case atStart=>exact⟨0,Nat.zero_le _,rfl,rfl,Below.refl _ _,λq hq=>by omega⟩
 case round=>
 obtain⟨j,hj,HG,rfl,zZ,HJ⟩:=hrel;have yK:=qh (zy HB2.o zZ.o);have c8:=(qy.o wr yK.o).2.2.2.2.2.2.2.2.1;have Z:=(qy.o wr yK.o).2.2.2.2.2.2.2.2.2.2;by_cases hlt:j<hn2
 rotate_left
 ·obtain rfl:hn2=j:=by omega
  have hr:R=(qj,50):=by
   rw [HR3.o,if_neg];rintro⟨h1,h2⟩
   obtain⟨q,hq,e⟩:=List.getElem_of_mem h2;refine HJ.o q (by rw [HHN.o];exact hq) h1 ?_;rw [List.getD_eq_getElem?_getD,List.getElem?_eq_getElem hq, <-e];rfl
  have HR:=qh hr;clear hr;go_upto_region 20 with fail
  clear c8 Z;obtain⟨⟨q0,q1,q2⟩,⟨f0,f1,f2⟩,l⟩:=zT.o wr yK.o;obtain⟨f, -,r⟩:=l (N7) (N7) (.bool false);have zL:=qh f;have yR:=qh r;clear f r l;go_wp2_with fail
  (try simp only [Exit.inBlock,Exit.then])
  refine bodyPost_ret (zK rfl _ _ (z+4) 61 _ (0,0) _ rfl zL.o Tryz.underlying61 rfl zN) rfl ?_
  exact bR HR.o yR.o
 have vC:(j:Int)<(hn2:Int):=by omega
 by_cases hk2:kind=2
 rotate_left
 ·have hk3:((kind:Int)==2)=false:=by simp [hk2]
  have hr:R=(qj,50):=by rw [HR3.o,if_neg (λh=>hk2 h.1)]
  have HR:=qh hr;clear hr hk2;go_upto_region 20 with fail
  clear c8 Z;obtain⟨⟨q0,q1,q2⟩,⟨f0,f1,f2⟩,l⟩:=zT.o wr yK.o;obtain⟨f, -,r⟩:=l (N7) (N7) (.bool false);have zL:=qh f;have yR:=qh r;clear f r l;go_wp2_with fail
  (try simp only [Exit.inBlock,Exit.then])
  refine bodyPost_ret (zK rfl _ _ (z+4) 61 _ (0,0) _ rfl zL.o Tryz.underlying61 rfl zN) rfl ?_
  exact bR HR.o yR.o
 have hk3:((kind:Int)==2)=true:=by simp [hk2]
 obtain⟨hb9,ho9,yI, -,he1⟩:=qx.part HHI.o j (by rw [<-HHN.o];exact hlt);subst yI;obtain⟨hv,hhv⟩:=qxE (hh.getD j 0);rw [<-hhv] at he1;have e1:=zl zZ.o _ _ he1;have HHV:=qh hhv;have HK2:=qh hk2;clear hhv he1 hk2;by_cases he:hv=vr
 rotate_left
 ·have he2:((hv:Int)==vr)=false:=by simp [he]
  have HE:=qh he;clear he;go_wp2_with fail
  go_quiet (fail)
  go_wp2_with fail
  go_roundg (hn2 - (j+1))
  case measure=>rw [HG.o];omega
  case rel=>exact⟨j+1,by omega,rfl,by simp,yw zZ.o _,λq hq L=>by
   by_cases e:q=j
   ·subst e;rw [<-HHV.o];exact HE.o
   exact HJ.o q (by omega) L⟩
 subst he;have hmem:hv∈hh:=by rw [HHV.o];exact jF (by rw [<-HHN.o];exact hlt)
 obtain⟨hv0,hv4,en,htk⟩:=HHD.o hv hmem;rw [<-HLM.o] at hv4;obtain⟨v,rfl⟩:∃v:Nat,hv=v:=⟨hv.toNat,by omega⟩;have hvm:v<mn:=by omega
 have bW:(v:Int)<(mn:Int):=hv4;have hr4:=HR3.o;rw [if_pos ⟨HK2.o,hmem⟩] at hr4;have HR4:=qh hr4;have gF:=qh htk;clear hmem hr4 htk hv0 hv4 HR3;obtain⟨rest,hrest⟩:=qxE ((takeB bf v).2);rw [<-hrest] at gF
 have zgM:J2 (∀Y,Below W.heap.size W Y->Calls Tryz.prog 60 #[.slice ba bl bc,I4 v] Y λe w'=>(∃sa sn sc,e= .returned (.tuple #[.agg #[I4 v,I4 en], .slice sa sn sc, .bool true])/\w'.ownsRow Y.heap.size 116 2 (.slice sa sn sc) rest.length (zx zq.cells rest))/\Below Y.heap.size Y w'):=λY hY=>by
  refine(zxN Y (.slice ba bl bc) bf (HBF.o Y hY).2 (by rw [<-jk.o];omega) v).mono ?_
  rintro e w' ⟨⟨sv,he, -,I⟩,hb⟩;obtain⟨sa,sc,rfl, -, -⟩:=xS I;rw [<-hrest] at I he;rw [gF.o] at he;exact⟨⟨sa,rest.length,sc,he,I⟩,hb⟩
 have zFJ:=qh hrest;clear hrest;go_wp2_with fail
 go_quiet (fail)
 go_upto_region 15 with fail
 generalize hX9:World.drewN wr _=X9;have z5k:Below W.heap.size W X9:=by rw [<-hX9];exact yw yK.o _
 have wh:=qh z5k;clear hX9 z5k c8 Z e1;obtain⟨-, -, -, -, -,c5,c6,c7, -, -, -⟩:=qy.o X9 wh.o;go_upto_region 16 with(go_at_call 59;(refine(HOWN.o X9 (HSW.o.below wh.o) (by omega) (by omega) (λj hj=>by have:=HBU.o j hj;omega)).mono ?_);rintro e W3 ⟨⟨tv1,mv1,bs,rfl,ho1⟩,hb3⟩;have HO1:=qh ho1;have HB3:=qh hb3;obtain⟨xa,xc,rfl, -, -⟩:=xS ho1.row;obtain⟨ya,yc,rfl, -, -⟩:=xS ho1.mem;clear ho1 hb3)
 rw [<-HN.o, <-jE.o];clear c5 c6 c7;have hol:=jl.zsK (HO1.o.lower wh.o.size) (zy wh.o HB3.o) bad;rw [<-HN.o, <-jE.o] at hol;have H:=qh hol;clear hol;generalize World.alloc W3 _=X0 at H ⊢;obtain⟨gb,hgb⟩:=qxE W3.heap.size;rw [<-hgb] at H ⊢;clear hgb HO1 HB3;obtain⟨tb,tc,hxa, -, -⟩:=H.o.threads (by rw [<-HN.o];exact hi);rw [<-HN.o] at hxa;cases hxa
 obtain⟨mb,mc,hya, -, -⟩:=H.o.vars (by rw [<-jE.o];omega)
 rw [<-jE.o] at hya;cases hya
 have yh:=qh H.o.below
 have C6:J2 (∀y,Below X0.heap.size X0 y->K3 y (z+2) 0 (.slice (some ⟨sb,so,none⟩) n j6)/\K3 y (z+3) 1 (I4 i)/\K3 y (z+3) 2 (I4 v)/\K3 y sb (so+i*6+5) (.slice ba bl bc)):=λy hy=>by
  have hw:=zy yh.o hy;obtain⟨-, -, -, -, -,c5, -, -, -,c9,Z⟩:=qy.o y hw;exact⟨c5,c9,Z,(HBF.o y hw).1⟩
 have h0:=wP.start 116 2 116 X0;have N:=qh h0.drew;clear h0;refine qz (S:=λx=>Below X0.heap.size X0 x) (Below.refl _ _).drew (λ_=> ?_)
 obtain⟨wd,hwd⟩:=qxE X0.drew;rw [<-hwd] at N ⊢;clear hwd;refine zB 0 zM (N.o.below) ?_
 refine zB 1 C6.o (N.o.below) ?_
 refine zB 2 zM (N.o.below) ?_
 refine zB 3 C6.o (N.o.below) ?_
 refine zB 4 zM (N.o.below) ?_
 refine zB 5 zM (N.o.below) ?_
 refine zB 6 C6.o (N.o.below) ?_
 refine zB 7 zM (N.o.below) ?_
 refine zB 8 C6.o (N.o.below) ?_
 refine wpAnyH_ready (rs:= [9,14]) (by kernel_rfl) (by simp) ?_
 refine AllReadyH.cons rfl (λK hK=> ?_) (AllReadyH.cons rfl (λK hK=> ?_) AllReadyH.nil)
 ·skip
  go_simp
  refine(zgM.o wd (zy yh.o (N.o.below))).mono ?_
  rintro e Xd2 ⟨⟨sa,sn,sc,rfl,I⟩,hb⟩;have zk5:=qh (N.o.call hb I);clear hb I;refine hK.out _ _ zk5.o.below (λ_=> ?_)
  clear hK K;refine zB 10 zM (zk5.o.below) ?_
  refine zB 11 zM (zk5.o.below) ?_
  refine zB 12 zM (zk5.o.below) ?_
  refine zB 13 zM (zk5.o.below) ?_
  refine yA 14 rfl (λK hK=> ?_)
  go_simp
  have zim:=zk5.o.alloc [I4 0,I4 0];refine hK.out _ _ zim.below (λ_=> ?_)
  obtain⟨xb,E⟩:=qxE Xd2.heap.size;rw [<-E] at zim ⊢;clear E;generalize World.alloc Xd2 _=Xd4 at zim ⊢;replace zim:=qh zim;clear hK K;refine yA 15 rfl (λK hK=> ?_)
  have hb1:=zim.o.storeAll (g:=xb) (cs:= [I4 0,I4 0]) (by simp) [I4 v,I4 en] rfl;obtain⟨hn, -, -⟩:=zim.o.news (xb, [I4 0,I4 0]) (by simp);have d0:=ze hn 0;have f0:=zH hn 0;have d1:=ze hn 1;have f1:=zH hn 1;clear hn;have X:=qh hb1;clear hb1;go_simp
  clear d0 f0 d1 f1;refine hK.out _ (yU Xd4 xb 0 [I4 v,I4 en]) X.o.1 (λ_=> ?_)
  generalize yU Xd4 xb 0 _=X1 at X ⊢;clear hK K;refine zB 16 zM (X.o.1) ?_
  refine zB 17 zM (X.o.1) ?_
  refine xC ?_
  have T:=H.o.later X.o.1;have zny:=qh T;have hin:i<ts.length:=by rw [<-HN.o];exact hi
  have hcl:(ts.getD i default).cells (bs.getD i (N7))= [I4 pc,I4 r0,I4 r1,I4 r2,I4 r3,bs.getD i (N7)] :=by rw [<-HT.o];rfl
  obtain⟨tb',tc',hte, -,htc⟩:=T.threads hin;rw [<-HN.o] at hte;cases hte
  have h5:=htc 5 (bs.getD i (N7)) (by omega) (by rw [hcl];rfl)
  obtain⟨t5,v5⟩:=h5;have hsz:tb<X0.heap.size/\mb<X0.heap.size/\gb<X0.heap.size:=⟨(H.o.own.row.lt tb rfl).2,(H.o.own.mem.lt mb rfl).2,zA H.o.box⟩;have hth:=T.thread hin (k:=5) (by omega) (t:=⟨pc, [r0,r1,r2,r3],rest⟩) (b:= .slice sa sn sc) (u:= .slice sa sn sc) (by rw [hcl];rfl) rfl (by have h:=X.o.2.2.2.1;exact xO (B:=X0.heap.size) h yh.o.size) (λk L=>by have h1:=(X.o.2.2.2.1.lt k L).1;exact⟨by omega,λe=>by have:=(T.own.mem.lt k e).1;simp [Value.ownBlock] at e;omega,by omega⟩) (λk L j hj _ e=>by have h1:=(X.o.2.2.2.1.lt k L).1;have h2:=((H.o.own.buf j hj).lt k e).2;omega)
  have HTH:=qh hth;have uh:=qh hsz;clear T hcl htc hth hsz;have g0:=ze zny.o.box 0;have c9:=(qy.o X1 zny.o.below).2.2.2.2.2.2.2.2.2.1;have E:=(Below.heap_setCell X1 ⟨tb,i*6+5,none⟩ (.slice sa sn sc) xb (λe=>by have h1:=X.o.2.2.1;have h2:=uh.o.1;simp only [] at e;omega)).trans X.o.2.1
  have O:=qh E;clear E;go_upto_region 18 with fail
  clear t5 v5 g0 c9;generalize World.setCell X1 _ _=X2 at HTH O ⊢;obtain⟨mb',mc',hye, -,hmc⟩:=HTH.o.vars (by rw [<-jE.o];omega)
  rw [<-jE.o] at hye;cases hye
  obtain⟨m0,m1⟩:=hmc v (by rw [<-jE.o];exact hvm);have g1:=ze HTH.o.box 1;have x0:=ze O.o 0;have x1:=ze O.o 1;have hm3:=HTH.o.mem v en;have D:=qh hm3;clear hm3 hmc;go_upto_region 19 with fail
  clear m0 m1 g1 x0 x1;generalize World.setCell X2 _ _=X3 at D ⊢
  have hr5:R=(⟨ts.set i ⟨pc, [r0,r1,r2,r3],rest⟩,mem.set v en,bad⟩,0):=by
   rw [HR4.o];unfold pR;simp only [];rw [<-HT.o];simp only [];rw [gF.o];rfl
  have vV:=qh hr5;clear hr5;have hbw:=D.o.below;obtain⟨⟨q0,q1,q2⟩,⟨f0,f1,f2⟩,l⟩:=zT.o X3 hbw;have b0:=ze D.o.box 0;have b1:=ze D.o.box 1;have b2:=ze D.o.box 2;obtain⟨f,hsn,r⟩:=l (.slice (some ⟨tb,0,none⟩) n xc) (.slice (some ⟨mb,0,none⟩) mn yc) (.bool bad);have zL:=qh f;have qp:=qh hsn;have yR:=qh r;clear f r l hsn hbw;go_wp2_with fail
  (try simp only [Exit.inBlock,Exit.then])
  refine bodyPost_ret (zK rfl _ _ (z+4) 61 _ (0,0) _ rfl zL.o Tryz.underlying61 rfl zN) rfl ?_
  have hg5:=zA H5.o;refine zfy vV.o (OwnAt.lower (B:=W.heap.size) (D.o.own.since qp.o ?_ ?_ ?_) HB.o.size) yR.o
  ·exact λk L e=>by have:=(D.o.own.row.lt k L).1;omega
  ·exact λk L e=>by have:=(D.o.own.mem.lt k L).1;omega
  exact λj hj k L e=>by have:=((D.o.own.buf j hj).lt k L).1;omega
 skip
 go_simp
 have zin:=N.o.alloc [I4 0,I4 0];refine hK.out _ _ zin.below (λ_=> ?_)
 obtain⟨xb,E⟩:=qxE wd.heap.size;rw [<-E] at zin ⊢;clear E;generalize World.alloc wd _=Xd6 at zin ⊢;replace zin:=qh zin;clear hK K;refine yA 9 rfl (λK hK=> ?_)
 go_simp
 refine(zgM.o Xd6 (zy yh.o (zin.o.below))).mono ?_
 rintro e Xd8 ⟨⟨sa,sn,sc,rfl,I⟩,hb⟩;have zio:=qh (zin.o.call hb I);clear hb I;refine hK.out _ _ zio.o.below (λ_=> ?_)
 clear hK K;refine zB 10 zM (zio.o.below) ?_
 refine zB 11 zM (zio.o.below) ?_
 refine zB 12 zM (zio.o.below) ?_
 refine zB 13 zM (zio.o.below) ?_
 refine yA 15 rfl (λK hK=> ?_)
 have hb1:=zio.o.storeAll (g:=xb) (cs:= [I4 0,I4 0]) (by simp) [I4 v,I4 en] rfl;obtain⟨hn, -, -⟩:=zio.o.news (xb, [I4 0,I4 0]) (by simp);have d0:=ze hn 0;have f0:=zH hn 0;have d1:=ze hn 1;have f1:=zH hn 1;clear hn;have X:=qh hb1;clear hb1;go_simp
 clear d0 f0 d1 f1;refine hK.out _ (yU Xd8 xb 0 [I4 v,I4 en]) X.o.1 (λ_=> ?_)
 generalize yU Xd8 xb 0 _=X1 at X ⊢;clear hK K;refine zB 16 zM (X.o.1) ?_
 refine zB 17 zM (X.o.1) ?_
 refine xC ?_
 have T:=H.o.later X.o.1;have zny:=qh T;have hin:i<ts.length:=by rw [<-HN.o];exact hi
 have hcl:(ts.getD i default).cells (bs.getD i (N7))= [I4 pc,I4 r0,I4 r1,I4 r2,I4 r3,bs.getD i (N7)] :=by rw [<-HT.o];rfl
 obtain⟨tb',tc',hte, -,htc⟩:=T.threads hin;rw [<-HN.o] at hte;cases hte
 have h5:=htc 5 (bs.getD i (N7)) (by omega) (by rw [hcl];rfl)
 obtain⟨t5,v5⟩:=h5;have hsz:tb<X0.heap.size/\mb<X0.heap.size/\gb<X0.heap.size:=⟨(H.o.own.row.lt tb rfl).2,(H.o.own.mem.lt mb rfl).2,zA H.o.box⟩;have hth:=T.thread hin (k:=5) (by omega) (t:=⟨pc, [r0,r1,r2,r3],rest⟩) (b:= .slice sa sn sc) (u:= .slice sa sn sc) (by rw [hcl];rfl) rfl (by have h:=X.o.2.2.2.1;exact xO (B:=X0.heap.size) h yh.o.size) (λk L=>by have h1:=(X.o.2.2.2.1.lt k L).1;exact⟨by omega,λe=>by have:=(T.own.mem.lt k e).1;simp [Value.ownBlock] at e;omega,by omega⟩) (λk L j hj _ e=>by have h1:=(X.o.2.2.2.1.lt k L).1;have h2:=((H.o.own.buf j hj).lt k e).2;omega)
 have HTH:=qh hth;have uh:=qh hsz;clear T hcl htc hth hsz;have g0:=ze zny.o.box 0;have c9:=(qy.o X1 zny.o.below).2.2.2.2.2.2.2.2.2.1;have E:=(Below.heap_setCell X1 ⟨tb,i*6+5,none⟩ (.slice sa sn sc) xb (λe=>by have h1:=X.o.2.2.1;have h2:=uh.o.1;simp only [] at e;omega)).trans X.o.2.1
 have O:=qh E;clear E;go_upto_region 18 with fail
 clear t5 v5 g0 c9;generalize World.setCell X1 _ _=X2 at HTH O ⊢;obtain⟨mb',mc',hye, -,hmc⟩:=HTH.o.vars (by rw [<-jE.o];omega)
 rw [<-jE.o] at hye;cases hye
 obtain⟨m0,m1⟩:=hmc v (by rw [<-jE.o];exact hvm);have g1:=ze HTH.o.box 1;have x0:=ze O.o 0;have x1:=ze O.o 1;have hm3:=HTH.o.mem v en;have D:=qh hm3;clear hm3 hmc;go_upto_region 19 with fail
 clear m0 m1 g1 x0 x1;generalize World.setCell X2 _ _=X3 at D ⊢
 have hr5:R=(⟨ts.set i ⟨pc, [r0,r1,r2,r3],rest⟩,mem.set v en,bad⟩,0):=by
  rw [HR4.o];unfold pR;simp only [];rw [<-HT.o];simp only [];rw [gF.o];rfl
 have vV:=qh hr5;clear hr5;have hbw:=D.o.below;obtain⟨⟨q0,q1,q2⟩,⟨f0,f1,f2⟩,l⟩:=zT.o X3 hbw;have b0:=ze D.o.box 0;have b1:=ze D.o.box 1;have b2:=ze D.o.box 2;obtain⟨f,hsn,r⟩:=l (.slice (some ⟨tb,0,none⟩) n xc) (.slice (some ⟨mb,0,none⟩) mn yc) (.bool bad);have zL:=qh f;have qp:=qh hsn;have yR:=qh r;clear f r l hsn hbw;go_wp2_with fail
 (try simp only [Exit.inBlock,Exit.then])
 refine bodyPost_ret (zK rfl _ _ (z+4) 61 _ (0,0) _ rfl zL.o Tryz.underlying61 rfl zN) rfl ?_
 have hg5:=zA H5.o;refine zfy vV.o (OwnAt.lower (B:=W.heap.size) (D.o.own.since qp.o ?_ ?_ ?_) HB.o.size) yR.o
 ·exact λk L e=>by have:=(D.o.own.row.lt k L).1;omega
 ·exact λk L e=>by have:=(D.o.own.mem.lt k L).1;omega
 exact λj hj k L e=>by have:=((D.o.own.buf j hj).lt k L).1;omega
end Go.Proofs.YtmijlmglnnbdjaaGreatDoor
namespace Go.Proofs.YtmijlmglnnbdjaaGreatDoor
open Go.RowKit
set_option maxRecDepth 100000
set_option maxHeartbeats 16000000
theorem zxO:laidOutB Tryz.prog=true:=by kernel_rfl
theorem ziq:(46:TypeId)<Tryz.prog.types.size:=of_decide_eq_true (by kernel_rfl)
theorem gQ:Maps.Keyed Tryz.prog 46:=Maps.Keyed.of_law (deep_law_laid zxO (m:=2) (by omega) ziq (by kernel_rfl) (by rw [Tryz.underlying46]))
theorem zg5:Tryz.prog.keyType 46=true:=by kernel_rfl
theorem zcP:Tryz.prog.cellsOf 46=3:=by kernel_rfl
theorem zli:Tryz.prog.cellsOf 3=1:=by kernel_rfl
theorem zu9 (w:World):(zeroValue 126).run Tryz.prog w= .ok (.agg #[]) w:=by kernel_rfl
def vZ (x:zw):Prop:=(Lit.int .i64 x.kind).wf=true/\(Lit.int .i64 x.thread).wf=true/\(Lit.int .i64 x.var).wf=true
def jq (x:zw):Lit:= .string (keyBytes [.int .i64 x.kind, .int .i64 x.thread, .int .i64 x.var])
def znz:Value->Option (List Lit)
 | .int .i64 n=>if (Lit.int .i64 n).wf=true then some [.int .i64 n] else none
 |_=>none
theorem zir {v:Value} {l:List Lit} (h:znz v=some l):∃n,v= .int .i64 n/\(Lit.int .i64 n).wf=true/\l= [.int .i64 n] :=by
 unfold znz at h;split at h
 ·split at h
  ·rename_i n hw;cases h;exact⟨n,rfl,hw,rfl⟩
  cases h
 cases h
theorem keyLits_int (d:Nat) (v:Value):Tryz.prog.keyLits (d+1) 3 [v] =znz v:=by
 unfold Program.keyLits znz;rw [Tryz.underlying3];split
 ·simp_all
 ·rename_i q q' n h1 h2
  simp only [Option.some.injEq,TypeDesc.int.injEq,List.cons.injEq,and_true] at h1 h2;subst h1 h2;cases q'<;>simp
 all_goals first
  |(simp_all;done)
  |(cases v<;>simp_all)
theorem bE {x:zw} (h:vZ x):keyOf Tryz.prog 46 (vF x)=some (jq x):=by
 obtain⟨f,d,c⟩:=h;obtain⟨m,b⟩:∃m,Tryz.prog.types.size=m+1:=Nat.exists_eq_succ_of_ne_zero (λe=>by have h:=ziq;rw [e] at h;exact absurd h (Nat.not_lt_zero _));unfold keyOf;rw [Tryz.underlying46];simp only [];rw [zg5,if_pos (by simp [vF,Value.formed,Tryz.underlying46,zcP])];unfold Program.keyLits;rw [Tryz.underlying46];simp only [];rw [if_pos (by simp [vF,Value.cells,zcP]),b];simp [vF,Value.cells,zli,keyLits_int,znz,f,d,c,jq]
theorem zbO {v:Value} {l:Lit} (h:keyOf Tryz.prog 46 v=some l):∃x:zw,v=vF x/\vZ x/\l=jq x:=by
 have z:=h;obtain⟨m,n⟩:∃m,Tryz.prog.types.size=m+1:=Nat.exists_eq_succ_of_ne_zero (λe=>by have h:=ziq;rw [e] at h;exact absurd h (Nat.not_lt_zero _));unfold keyOf at h;rw [Tryz.underlying46] at h;simp only [] at h;split at h
 ·rename_i hf
  rw [zg5] at hf;simp only [Bool.true_and] at hf;unfold Value.formed at hf;rw [Tryz.underlying46,zcP] at hf;cases v with
  |agg cs=>
   obtain⟨t⟩:=cs;match t,hf with
   | [a,b,c],_=>
    unfold Program.keyLits at h;rw [Tryz.underlying46] at h;simp only [] at h;rw [if_pos (by simp [Value.cells,zcP]),n] at h;simp [Value.cells,zli,keyLits_int] at h;obtain⟨y,r,h⟩:=Option.bind_eq_some_iff.1 h;obtain⟨k,rfl,g,rfl⟩:=zir r;simp only [Function.comp_apply,Option.map_eq_some_iff,Option.bind_eq_some_iff,Option.some.injEq] at h;obtain⟨_,⟨_,⟨_,⟨lb,q,_,⟨u,p,rfl⟩,rfl⟩,rfl⟩,rfl⟩,rfl⟩:=h;obtain⟨j,rfl,f,rfl⟩:=zir q;obtain⟨i,rfl,d,rfl⟩:=zir p;exact⟨⟨k,j,i⟩,rfl,⟨g,f,d⟩,rfl⟩
   | [],hf=>simp at hf
   | [_],hf=>simp at hf
   | [_,_],hf=>simp at hf
   |_::_::_::_::_,hf=>simp at hf
  |_=>simp at hf
 cases h
theorem zfz {x y:zw} (hx:vZ x) (d:vZ y) (h:jq x=jq y):x=y:=by
 have:=gQ.inj (bE hx) (h ▸ bE d)
 obtain⟨a,b,c⟩:=x;obtain⟨i,g,f⟩:=y;unfold vF at this;simp only [Value.agg.injEq,Array.mk.injEq,List.cons.injEq,Value.int.injEq,true_and,and_true] at this;obtain⟨rfl,rfl,rfl⟩:=this;rfl
open Go.Maps in
theorem zis {x:zw} :WideAt.IsKeyLit (jq x):=by unfold jq;trivial
def jr (w:World) (b n:Nat) (In:zw->Prop):Prop:=∃D:DataW Unit,w.ownsMap Tryz.prog 46 unitElem b n D/\∀x,vZ x->(Maps.has D (jq x)=true↔In x)
theorem jr.since {w d:World} {b n:Nat} {F:Nat->Prop} {I:zw->Prop} (h:jr w b n I) (g:Since F w d) (i:¬F b):jr d b n I:=by
 obtain⟨D,⟨l,c,f,k⟩,j⟩:=h;exact⟨D,⟨l,c,(g.block b (zA f) i).trans f,k⟩,j⟩
theorem jr.lt {w:World} {b n:Nat} {I:zw->Prop} (h:jr w b n I):b<w.heap.size:=by obtain⟨D,c, -⟩:=h;exact c.lt
theorem jr.below {w c:World} {b n:Nat} {I:zw->Prop} (h:jr w b n I) (d:Below w.heap.size w c):jr c b n I:=h.since (xW (λ_=>False) d) (λe=>e)
theorem jr.to {w:World} {b n:Nat} {I J:zw->Prop} (h:jr w b n I) (c:∀x,vZ x->(I x↔J x)):jr w b n J:=by
 obtain⟨D,f,d⟩:=h;exact⟨D,f,λx hx=>(d x hx).trans (c x hx)⟩
theorem jr.made (w:World):jr (w.alloc (.map #[] 0)) w.heap.size 0 (λ_=>False):=⟨.map [],World.ownsMap_made w _ _ _,λx _=>by simp [Maps.has]⟩
theorem zeg {w c:World} {b:Nat} (h:w.grownBy c (some b)):Since (λk=>k=b) w c:=⟨h.os,h.tape,h.output,h.size,λi d f=>h.block i d (λe=>f (by simpa using e))⟩
theorem zoA {D:DataW Unit} (c:Maps.IsMap D) {x y:zw} (hx:vZ x) (b:vZ y):Maps.has (D.put (jq x) (.agg [])) (jq y)=true↔Maps.has D (jq y)=true\/y=x:=by
 by_cases e:y=x
 ·subst e;rw [Maps.has_put_same c zis];simp
 rw [Maps.has_put_other (λh=>e (zfz b hx h))];simp [e]
theorem zhC {D:DataW Unit} {x y:zw} (hx:vZ x) (b:vZ y):Maps.has (D.del (jq x)) (jq y)=true↔Maps.has D (jq y)=true/\y≠x:=by
 by_cases e:y=x
 ·subst e;rw [Maps.has_del_same];simp
 rw [Maps.has_del_other (λh=>e (zfz b hx h))];simp [e]
theorem jr.none {w:World} {b n:Nat} {I:zw->Prop} {D:DataW Unit} (h:w.ownsMap Tryz.prog 46 unitElem b n D) (g:∀x,vZ x->(Maps.has D (jq x)=true↔I x)):Maps.size D=0↔∀x,vZ x->¬I x:=by
 obtain⟨j,c,t,F,_,rfl⟩:=h;constructor
 ·intro i x hx r;have:=(g x hx).2 r
  simp only [Maps.size,List.length_eq_zero_iff] at i;rw [i] at this;simp [Maps.has] at this
 intro k;simp only [Maps.size,List.length_eq_zero_iff];cases hl:(j.toList.map (WideElems.rg Tryz.prog 46 (unitElem (H:=Unit)))).foldr DataW.insert [] with
 |nil=>rfl
 |cons p l=>
 exfalso
 have f:p∈(j.toList.map (WideElems.rg Tryz.prog 46 (unitElem (H:=Unit)))).foldr DataW.insert [] :=by rw [hl];simp
 obtain⟨e,q,rfl⟩:=List.mem_map.1 (mem_sorted.1 f);obtain⟨y,d⟩:=F.reads e q;obtain⟨x, -,hx,m⟩:=zbO (WideElems.rd_key d);refine k x hx ((g x hx).1 ?_)
 refine List.any_eq_true.2 ⟨_,f, ?_⟩
 rw [WideElems.rg_of d,m];exact WideAt.sameKey_self zis
end Go.Proofs.YtmijlmglnnbdjaaGreatDoor
namespace Go.Proofs.YtmijlmglnnbdjaaGreatDoor
open Go.RowKit
set_option maxRecDepth 100000
set_option maxHeartbeats 16000000
theorem zdv {w c:World} {b:Nat} (h:w.mapTurned c b):Since (λk=>k=b) w c:=zeg h.grown
theorem zrz {F G:Nat->Prop} {w b:World} (h:Since F w b) (f:∀k,F k->G k):Since G w b:=⟨h.os,h.tape,h.output,h.size,λk d c=>h.block k d (λe=>c (f k e))⟩
theorem below_grown {w b:World} (h:Below w.heap.size w b) (row:Option Nat):w.grownBy b row:=⟨h.os,h.tape,h.output,h.size,λi c _=>h.block i c⟩
section
variable (w:World) {ops:Array Oper} {rest:List Oper} {o:Oper} {a:Act} {Q:Exit->Act->World->Prop}
theorem zk6 (q:o.guard=none) (m x v:Operand) (d:o.op=Op.mapUpdate 123 m x v) (b n:Nat) (I:zw->Prop) (p:a.eval m= .map (some b)) (h:jr w b n I) (l:n<1000000) (y:zw) (g:vZ y) (hx:a.eval x=vF y) (j:a.eval v= .agg #[])
  (hK:∀c,jr c b (n+1) (λz=>I z\/z=y)->Since (λk=>k=b) w c->wpList Tryz.prog ops Q rest (a.put o.dst undef) c):wpList Tryz.prog ops Q (o::rest) a w:=by
 obtain⟨D,i,r⟩:=h;refine wpList_mapUpdate_in w q m x v _ d _ _ gQ Tryz.underlying123 unitElem b n D p i (Nat.lt_trans l (by unfold maxLen;decide)) _ _ (jq y) hx j (bE g) (.agg []) [] unitElem_mk ?_
 intro c r1 r2;exact hK c ⟨_,r1,λz f=>(zoA i.isMap g f).trans (by rw [r z f])⟩ (zdv r2)
theorem zjD (i:o.guard=none) (m x:Operand) (c:o.op=Op.lookup 123 m x true) (b n:Nat) (I:zw->Prop) (g:a.eval m= .map (some b)) (h:jr w b n I) (y:zw) (d:vZ y) (hx:a.eval x=vF y) (r:Bool) (f:r=true↔I y)
  (hK:wpList Tryz.prog ops Q rest (a.put o.dst (.tuple #[.agg #[], .bool r])) w):wpList Tryz.prog ops Q (o::rest) a w:=by
 obtain⟨D,k,j⟩:=h;refine wpList_lookup_own_unit w i m x _ c _ _ gQ Tryz.underlying123 (zu9 w) b n D g k _ (jq y) hx (bE d) ?_
 rw [show Maps.has D (jq y)=r from Bool.eq_iff_iff.2 ((j y d).trans f.symm)];exact hK
theorem zk7 (g:o.guard=none) (m:Operand) (c:o.op=Op.call { callee:=Callee.builtin Builtin.len,args:= #[m],argTypes:= #[123] }) (b n:Nat) (I:zw->Prop) (f:a.eval m= .map (some b)) (h:jr w b n I)
  (hK:∀k:Nat,(k=0↔∀x,vZ x->¬I x)->wpList Tryz.prog ops Q rest (a.put o.dst (I4 k)) w):wpList Tryz.prog ops Q (o::rest) a w:=by
 obtain⟨D,d,i⟩:=h;exact wpList_len_own w g m _ c _ _ Tryz.underlying123 unitElem b n D f d (hK _ (jr.none d i))
end
theorem jr.drop {w:World} {b n:Nat} {I:zw->Prop} (h:jr w b n I) {y:zw} (g:vZ y) (d:TypeId):∃c,(Builtin.delete_ #[123,46] d #[.map (some b),vF y]).run Tryz.prog w= .ok (.tuple #[]) c/\jr c b n (λz=>I z/\z≠y)/\Since (λk=>k=b) w c:=by
 obtain⟨D,j,i⟩:=h;obtain⟨c,r0,r1,r2⟩:=j.drop gQ Tryz.underlying123 (bE g) d;exact⟨c,r0,⟨_,r1,λz f=>(zhC g f).trans (by rw [i z f])⟩,zdv r2⟩
theorem zn0 {x y:zw} (hx:vZ x) (b:vZ y):(jq y).sameKey (jq x)=decide (y=x):=by
 by_cases e:y=x
 ·subst e;rw [WideAt.sameKey_self zis];simp
 rw [decide_eq_false e];cases h:(jq y).sameKey (jq x)
 ·rfl
 exact absurd (zfz b hx (WideAt.sameKey_eq h)) e
theorem zuA (w:World) (x:zw) (hx:vZ x) (g h j:Nat) (J:zw->Prop) (m:w.cell? ⟨g,0,none⟩=some (.map (some h))) (n:jr w h j J) (r:Bool) (l:r=true↔J x):
  Calls Tryz.prog 69 #[vF x, .agg #[], .pointer (some ⟨g,0,none⟩)] w λe u=>e= .returned (.bool (!r))/\Below w.heap.size w u:=by
 obtain⟨k,t,v⟩:=x;unfold vF;simp only [];have y:J2 (vZ ⟨k,t,v⟩):=hx;have z:J2 (r=true↔J ⟨k,t,v⟩):=l;have c:=xK w (.cells #[I4 k,I4 t,I4 v] 46) (.cells #[] 126);have d:=zl c _ _ m;have q:=qh (n.below c);have i:=qh c;obtain⟨W,f⟩:=qxE ((w.alloc (.cells #[I4 k,I4 t,I4 v] 46)).alloc (.cells #[] 126));have b:=xA w (.cells #[I4 k,I4 t,I4 v] 46) (.cells #[] 126);rw [<-f] at d q i b;have p:=qh f;clear hx l n m c f;go_enter Tryz.func69,Tryz.ntmps69
 go_upto_region 1 with fail
 rw [<-p.o];clear p;have C:=ze b 0;have B:=ze b 1;have A:=ze b 2;clear b;go_upto_region 2 with(at_lookup;refine zjD _ rfl _ _ rfl h j J rfl q.o ⟨k,t,v⟩ y.o rfl r z.o ?_)
 go_wp2_with fail
 go_ret;exact⟨rfl,i.o.trans (((Below.refl _ _).alloc (Nat.le_refl _) _).mono i.o.size)⟩
structure zbk (w X:World) (b n r cnt:Nat) (left:Lit->Bool) (D:DataW Unit) (I J:zw->Prop):Prop where
 rg:X.ranges Tryz.prog 46 unitElem b r n D left cnt
 since:Since (λk=>k=b) w X
 lo:w.heap.size<=r
 has:∀x,vZ x->(Maps.has D (jq x)=true↔I x/\(left (jq x)=true\/J x))
theorem zbk.stay {w X Y:World} {b n r d c:Nat} {left:Lit->Bool} {D:DataW Unit} {I J:zw->Prop} {x:zw} (h:zbk w X b n r d left D I J) (hx:vZ x) (j:left (jq x)=true) (l:J x)
  (i:Y.ranges Tryz.prog 46 unitElem b r n D (λz=>left z && !z.sameKey (jq x)) c) (g:Since (λk=>k=b\/k=r) X Y):zbk w Y b n r c (λz=>left z && !z.sameKey (jq x)) D I J:=by
 refine⟨i,h.since.trans g (λ_ e=>e.elim .inl (λe=> .inr (e ▸ h.lo))),h.lo,λy f=> ?_⟩
 rw [h.has y f,zn0 hx f];by_cases e:y=x
 ·subst e;simp [j,l]
 simp [e]
theorem zbk.strike {w X Y:World} {b n r f c:Nat} {left:Lit->Bool} {D:DataW Unit} {I J:zw->Prop} {x:zw} (h:zbk w X b n r f left D I J) (hx:vZ x) (j:¬J x)
  (i:Y.ranges Tryz.prog 46 unitElem b r n (D.del (jq x)) (λz=>left z && !z.sameKey (jq x)) c) (g:Since (λk=>k=b\/k=r) X Y):zbk w Y b n r c (λz=>left z && !z.sameKey (jq x)) (D.del (jq x)) I J:=by
 refine⟨i,h.since.trans g (λ_ e=>e.elim .inl (λe=> .inr (e ▸ h.lo))),h.lo,λy d=> ?_⟩
 rw [zhC hx d,h.has y d,zn0 hx d];by_cases e:y=x
 ·subst e;simp [j]
 simp [e]
theorem zk8 (w:World) (b n:Nat) (I:zw->Prop) (h:jr w b n I) (g bm nm:Nat) (J:zw->Prop) (hc:w.cell? ⟨g,0,none⟩=some (.map (some bm))) (hJ:jr w bm nm J) (hg:g≠b) (V:bm≠b):
  Calls Tryz.prog 68 #[.map (some b), .func (.func 69) #[] #[.pointer (some ⟨g,0,none⟩)]] w λe w'=>e= .returned (.tuple #[])/\jr w' b n (λx=>I x/\J x)/\Since (λk=>k=b) w w':=by
 obtain⟨D0,P,A⟩:=h
 have HFN:J2 (∀X,Since (λk=>k=b) w X->∀x,vZ x->∃r:Bool,(r=true↔J x)/\Calls Tryz.prog 69 #[vF x, .agg #[], .pointer (some ⟨g,0,none⟩)] X λe w'=>e= .returned (.bool (!r))/\Below X.heap.size X w'):=λX hX x hx=>by
  obtain⟨r,O⟩:∃r:Bool,r=true↔J x:=by
   by_cases hj:J x
   ·exact⟨true,by simp [hj]⟩
   exact⟨false,by simp [hj]⟩
  exact⟨r,O,zuA X x hx g bm nm J (hX.cell (p:=⟨g,0,none⟩) (World.block_lt_of_cell? w _ hc) (by simpa using hg)|>.trans hc) (hJ.since hX V) r O⟩
 have HH:=qh A;clear A hc hJ hg V;go_enter Tryz.func68,Tryz.ntmps68
 go_wp2_with(first
  |(at_range;refine wpList_range_own _ rfl _ 123 rfl 46 126 gQ Tryz.underlying123 unitElem b n _ rfl P ?_;intro w0 z U hs0)
  |go_in)
 go_frame
 have wN:J2 (zbk w w0 b n w.heap.size (Maps.size D0) (Maps.has D0) D0 I J):=⟨z,zeg (U.but _),Nat.le_refl _,λx hx=>by rw [HH.o x hx];exact⟨λh=>⟨h, .inl h⟩,λh=>h.1⟩⟩;clear z U hs0 HH;obtain⟨r,O⟩:=qxE w.heap.size;rw [<-O] at wN ⊢;clear O;go_loopg [] (Maps.size D0) (λgg wr=>∃(left:Lit->Bool) (D:DataW Unit),J2 (zbk w wr b n r gg left D I J))
 case atStart=>exact⟨_,_,wN.o⟩
 case round=>
 obtain⟨left,D,H⟩:=hrel;clear wN;have N:=H.o.rg
 go_wp2_with(first
  |(at_next;refine wpList_next_ranges _ rfl _ rfl 46 gQ unitElem vF (λ_:Unit=>Value.agg #[]) (λkey kl f=>by obtain⟨x,hx, -⟩:=zbO f;exact⟨x,hx⟩) (λv _ hv=>⟨(),(unitElem_inv hv).1⟩) b r n _ _ _ rfl N ?_ ?_)
  |go_in)
 ·intro _ hl0;go_wp2
  go_end0
  have hs:=H.o;exact⟨rfl,⟨D,hs.rg.owns,λx hx=>by rw [hs.has x hx,hl0];simp⟩,hs.since⟩
 intro x kl yd yp w1 s j R hv hat y hlt T hs1 F;obtain⟨x', -,i,rfl⟩:=zbO j
 have hxx:x'=x:=zfz i i (by rfl)|>λ_=>by
  have:=gQ.inj (bE i) j
  obtain⟨a,b,c⟩:=x;obtain⟨a',b',c'⟩:=x';unfold vF at this;simp only [Value.agg.injEq,Array.mk.injEq,List.cons.injEq,Value.int.injEq,true_and,and_true] at this;obtain⟨rfl,rfl,rfl⟩:=this;rfl
 subst hxx;obtain⟨k,t,v⟩:=x';have HX:J2 (vZ ⟨k,t,v⟩):=i;have HRG:=qh y;have qV:=qh (zeg T);unfold vF at F ⊢;simp only [] at F ⊢;have hkk:J2 (left (jq ⟨k,t,v⟩)=true):=R;clear i y T j hat hv R;have h1:=xA w1 (.cells #[.int .i64 k, .int .i64 t, .int .i64 v] 46) (.cells #[] 126);have W:=xK w1 (.cells #[.int .i64 k, .int .i64 t, .int .i64 v] 46) (.cells #[] 126);rw [hs1] at h1;have C:=qh h1;have G:=qh W;clear h1 W;go_upto_region 3 with fail
 have B:=qh (HRG.o.kept (below_grown G.o none) (by simp) (by simp));have q:J2 (Since (λk=>k=b\/k=r) wr ((w1.alloc (.cells #[.int .i64 k, .int .i64 t, .int .i64 v] 46)).alloc (.cells #[] 126))):=(zrz qV.o (λk f=> .inr f)).trans (xW (λk=>k=b\/k=r) G.o) (λk f=> .inl f);clear F qV G HRG N;obtain⟨g4,S⟩:=qxE wr.heap.size;rw [<-S] at C ⊢;clear S;generalize World.alloc (World.alloc w1 _) _=X at C B q ⊢;obtain⟨rr,M,l⟩:=HFN.o X (H.o.since.trans q.o (λk f=>f.elim .inl (λe=> .inr (e ▸ H.o.lo)))) ⟨k,t,v⟩ HX.o;have HRR:=qh M;have m:=qh l;clear M l HFN;unfold vF at m;simp only [] at m;have c0:=ze C.o 0
 have c1:=ze C.o 1;have c2:=ze C.o 2;cases rr with
 |true=>
  go_wp2_with(go_at_call 69;go_must(refine(m.o).mono ?_);rintro e Y ⟨rfl,Z⟩;have L:=qh Z;clear Z);go_roundg s
  case measure=>exact hlt
  case rel=>exact⟨_,D,H.o.stay HX.o hkk.o (by simpa using HRR.o) (B.o.kept (below_grown L.o none) (by simp) (by simp)) (q.o.trans (xW (λk=>k=b\/k=r) L.o) (λk f=> .inl f))⟩
 |false=>
 go_upto_region 4 with(go_at_call 69;go_must(refine(m.o).mono ?_);rintro e Y ⟨rfl,Z⟩;have L:=qh Z;clear Z)
 have zBc:=qh (B.o.kept (below_grown L.o none) (by simp) (by simp));have d:=(L.o.block _ (zA C.o)).trans C.o;clear c0 c1 c2;have c0:=ze d 0;have c1:=ze d 1;have c2:=ze d 2;clear d;go_wp2_with(at_delete;refine wpList_delete_ranges _ rfl _ _ 123 46 rfl 126 gQ Tryz.underlying123 unitElem b r n _ _ _ rfl zBc.o (vF ⟨k,t,v⟩) (jq ⟨k,t,v⟩) rfl (bE HX.o) ?_;intro w3 K u hle E;rw [Maps.strike_twice] at u);go_roundg K
 case measure=>omega
 case rel=>exact⟨_,_,H.o.strike HX.o (by simpa using HRR.o) u ((q.o.trans (xW (λk=>k=b\/k=r) L.o) (λk f=> .inl f)).trans (zdv E) (λk f=> .inl (.inl f)))⟩
