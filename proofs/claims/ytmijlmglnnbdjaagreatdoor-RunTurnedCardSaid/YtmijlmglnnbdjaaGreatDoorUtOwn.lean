/- Steps. -/
import Derived.Test.YtmijlmglnnbdjaaGreatDoorUtPart
set_option linter.all false
namespace Go.Proofs.YtmijlmglnnbdjaaGreatDoor
open Go.RowKit
set_option maxRecDepth 100000
set_option maxHeartbeats 16000000
theorem zpb (w:World) (s:zo) (tv mv:Value) (h:yD w s tv mv) (hl:s.threads.length<=1000000) (hm:s.mem.length<=1000000) (hb:∀j,j<s.threads.length->(s.threads.getD j default).buf.length<=1000000):
  Calls Tryz.prog 59 #[yB s tv mv] w λe w'=>(∃tv' mv' bs,e= .returned (yB s tv' mv')/\OwnAt w.heap.size w' tv' mv' s.threads s.mem bs)/\Below w.heap.size w w':=by
 obtain⟨ta,tc,rfl, -⟩:=zh.slice h.threads;obtain⟨ma,mc,rfl, -⟩:=zh.slice h.mem;obtain⟨ts,mem,bad⟩:=s;simp only [] at h hl hm hb ⊢;obtain⟨n,g⟩:=qxE ts.length;obtain⟨m,hmn⟩:=qxE mem.length;have hT:=h.threads;have hM:=h.mem;simp only [] at hT hM;clear h;unfold yB;simp only [];rw [<-g] at hl hT hb ⊢;rw [<-hmn] at hm hM ⊢;have HB:=qh (xK w (.cells #[.slice ta n tc, .slice ma m mc, .bool bad] 61) (.cells #[N7,N7, .bool false] 61));have H1:=qh (xA w (.cells #[.slice ta n tc, .slice ma m mc, .bool bad] 61) (.cells #[N7,N7, .bool false] 61))
 have H2:=qh (xq w (.cells #[.slice ta n tc, .slice ma m mc, .bool bad] 61) (.cells #[N7,N7, .bool false] 61));have hsz:((w.alloc (.cells #[.slice ta n tc, .slice ma m mc, .bool bad] 61)).alloc (.cells #[N7,N7, .bool false] 61)).heap.size=w.heap.size+2:=by simp
 have uh:=qh hsz;have HT:=qh (zh.below uJ.stays hT HB.o);have HM:=qh (zh.below uV.stays hM HB.o);have HBU:=qh hb;have HN:=qh g;have jE:=qh hmn;clear hT hM hb g hmn hsz;go_enter Tryz.func59,Tryz.ntmps59
 go_upto_region 1 with fail
 generalize World.alloc (World.alloc w _) _=W at HB H1 H2 uh HT HM ⊢;obtain⟨C,hgx⟩:=qxE w.heap.size;rw [<-hgx] at H1 H2 uh ⊢;have xG:=qh hgx;clear hgx
 have HC:J2 (∀x,Below W.heap.size W x->K3 x C 0 (.slice ta n tc)/\K3 x C 1 (.slice ma m mc)/\K3 x C 2 (.bool bad)):=λx hx=>
  ⟨zl hx _ _ (ze H1.o 0),zl hx _ _ (ze H1.o 1),zl hx _ _ (ze H1.o 2)⟩
 go_cut [3] (λs3 wr=>∃(gb:Nat) (va:Option Addr) (vc:Nat),s3= .pointer (some ⟨gb,0,none⟩)/\J2 (jl W wr gb (N7) (.slice va m vc) bad [] mem []))
 case first=>
  have h0:=wP.start 3 1 61 W;have d:=qh h0.drew;clear h0;by_cases hm0:m=0
  ·subst hm0;obtain⟨i0,hi0, -, -, -⟩:=info_parts jG;have HE:J2 (mem= []):=List.eq_nil_of_length_eq_zero jE.o.symm;refine qz (S:=λx=>Below W.heap.size W x) (Below.refl _ _).drew (λ_=> ?_)
   obtain⟨wd,Y⟩:=qxE W.drew;rw [<-Y] at d ⊢;clear Y;refine zB 0 zM (d.o.below) ?_
   refine zB 1 HC.o (d.o.below) ?_
   refine zB 3 zM (d.o.below) ?_
   refine zB 4 HC.o (d.o.below) ?_
   refine wpAnyH_ready (rs:= [2,6]) (by kernel_rfl) (by simp) ?_
   refine AllReadyH.cons rfl (λK hK=> ?_) (AllReadyH.cons rfl (λK hK=> ?_) AllReadyH.nil)
   ·skip
    refine kM wd (by rfl) (.const (N7)) (.tmp 7) 27 rfl 3 i0 Tryz.underlying27 hi0 (by rfl) ma mc (by rfl) ?_
    refine hK.out _ _ (d.o.below) (λ_=> ?_)
    clear hK K;refine zB 5 zM (d.o.below) ?_
    refine yA 6 rfl (λK hK=> ?_)
    go_simp
    have E:=d.o.alloc [N7,N7, .bool false];refine hK.out _ _ E.below (λ_=> ?_)
    obtain⟨gb,l⟩:=qxE wd.heap.size;rw [<-l] at E ⊢;clear l;generalize World.alloc wd _=zFN at E ⊢;replace E:=qh E;clear hK K;refine yA 7 rfl (λK hK=> ?_)
    obtain⟨b1,b2,b3,b4,b5⟩:=E.o.ziF (gb:=gb) (a:=N7) (b:=N7) (c:= .bool false) (by simp) (N7) (N7) (.bool bad);obtain⟨g, -, -⟩:=E.o.news (gb, [N7,N7, .bool false]) (by simp);have d0:=ze g 0;have f0:=zH g 0;have d1:=ze g 1;have f1:=zH g 1;have d2:=ze g 2;have f2:=zH g 2;clear g;have y:=qh b1;have J:=qh b2;have I:=qh b3;have H:=qh b5;have qZ:=qh b4;clear b1 b2 b3 b4 b5;go_simp
    refine hK.out _ _ y.o (λ_=> ?_)
    clear hK K;refine xC ?_
    go_wp2_with fail
    go_meet
    case rel=>exact⟨gb,none,0,by first|rfl|simp,jl.start (by rw [HE.o];exact J.o) y.o I.o qZ.o H.o⟩
   skip
   go_simp
   have A:=d.o.alloc [N7,N7, .bool false];refine hK.out _ _ A.below (λ_=> ?_)
   obtain⟨gb,l⟩:=qxE wd.heap.size;rw [<-l] at A ⊢;clear l;generalize World.alloc wd _=zBl at A ⊢;replace A:=qh A;clear hK K;refine yA 2 rfl (λK hK=> ?_)
   refine kM zBl (by rfl) (.const (N7)) (.tmp 7) 27 rfl 3 i0 Tryz.underlying27 hi0 (by rfl) ma mc (by rfl) ?_
   refine hK.out _ _ (A.o.below) (λ_=> ?_)
   clear hK K;refine zB 5 zM (A.o.below) ?_
   refine yA 7 rfl (λK hK=> ?_)
   obtain⟨b1,b2,b3,b4,b5⟩:=A.o.ziF (gb:=gb) (a:=N7) (b:=N7) (c:= .bool false) (by simp) (N7) (N7) (.bool bad);obtain⟨g, -, -⟩:=A.o.news (gb, [N7,N7, .bool false]) (by simp);have d0:=ze g 0;have f0:=zH g 0;have d1:=ze g 1;have f1:=zH g 1;have d2:=ze g 2;have f2:=zH g 2;clear g;have y:=qh b1;have J:=qh b2;have I:=qh b3;have H:=qh b5;have qZ:=qh b4;clear b1 b2 b3 b4 b5;go_simp
   refine hK.out _ _ y.o (λ_=> ?_)
   clear hK K;refine xC ?_
   go_wp2_with fail
   go_meet
   case rel=>exact⟨gb,none,0,by first|rfl|simp,jl.start (by rw [HE.o];exact J.o) y.o I.o qZ.o H.o⟩
  obtain⟨mb,mo,hma, -, -⟩:=qx.part HM.o 0 (by rw [<-jE.o];omega)
  subst hma;have zcQ:J2 (∀x,Below W.heap.size W x->∀j u,(zx xI mem)[j]? =some u->x.cell? ((⟨mb,mo,none⟩:Addr).add j)=some u):=λx hx=>zh.news (R:=uV) (f:=xI) (by decide) zbe (λ_ _ _ h=>h) (zh.below uV.stays HM.o hx);refine qz (S:=λx=>Below W.heap.size W x) (Below.refl _ _).drew (λ_=> ?_)
  obtain⟨wd,Y⟩:=qxE W.drew;rw [<-Y] at d ⊢;clear Y;refine zB 0 zM (d.o.below) ?_
  refine zB 1 HC.o (d.o.below) ?_
  refine zB 3 zM (d.o.below) ?_
  refine zB 4 HC.o (d.o.below) ?_
  refine wpAnyH_ready (rs:= [2,6]) (by kernel_rfl) (by simp) ?_
  refine AllReadyH.cons rfl (λK hK=> ?_) (AllReadyH.cons rfl (λK hK=> ?_) AllReadyH.nil)
  ·skip
   refine zY wd (by rfl) (.const (N7)) (.tmp 7) 27 rfl 3 (I4 0) 1 8 Tryz.underlying27 jG rfl (by decide) W.heap.size (N7) 0 [] (by rfl) d.o.row ⟨mb,mo,none⟩ m mc (zx xI mem) (by rfl) ((wK (f:=xI) zbe mem).trans (by rw [<-jE.o])) (zcQ.o _ (d.o.below)) (zpA) (by unfold maxLen;omega) (by omega) d.o.below.size ?_
   intro ra rc z5E M e2 e3 O L;try simp only [Nat.zero_add,List.nil_append] at M L ⊢
   have zrE:=qh (d.o.app M O L);clear M e2 e3 O L;refine hK.out _ _ zrE.o.below (λ_=> ?_)
   clear hK K;refine zB 5 zM (zrE.o.below) ?_
   refine yA 6 rfl (λK hK=> ?_)
   go_simp
   have D:=zrE.o.alloc [N7,N7, .bool false];refine hK.out _ _ D.below (λ_=> ?_)
   obtain⟨gb,l⟩:=qxE z5E.heap.size;rw [<-l] at D ⊢;clear l;generalize World.alloc z5E _=zFO at D ⊢;replace D:=qh D;clear hK K;refine yA 7 rfl (λK hK=> ?_)
   obtain⟨b1,b2,b3,b4,b5⟩:=D.o.ziF (gb:=gb) (a:=N7) (b:=N7) (c:= .bool false) (by simp) (N7) (.slice ra m rc) (.bool bad);obtain⟨g, -, -⟩:=D.o.news (gb, [N7,N7, .bool false]) (by simp);have d0:=ze g 0;have f0:=zH g 0;have d1:=ze g 1;have f1:=zH g 1;have d2:=ze g 2;have f2:=zH g 2;clear g;have y:=qh b1;have J:=qh b2;have I:=qh b3;have H:=qh b5;have qZ:=qh b4;clear b1 b2 b3 b4 b5;go_simp
   refine hK.out _ _ y.o (λ_=> ?_)
   clear hK K;refine xC ?_
   go_wp2_with fail
   go_meet
   case rel=>exact⟨gb,ra,rc,by first|rfl|simp,jl.start (by rw [<-jE.o];exact J.o) y.o I.o qZ.o H.o⟩
  skip
  go_simp
  have z:=d.o.alloc [N7,N7, .bool false];refine hK.out _ _ z.below (λ_=> ?_)
  obtain⟨gb,l⟩:=qxE wd.heap.size;rw [<-l] at z ⊢;clear l;generalize World.alloc wd _=zBm at z ⊢;replace z:=qh z;clear hK K;refine yA 2 rfl (λK hK=> ?_)
  refine zY zBm (by rfl) (.const (N7)) (.tmp 7) 27 rfl 3 (I4 0) 1 8 Tryz.underlying27 jG rfl (by decide) W.heap.size (N7) 0 [] (by rfl) z.o.row ⟨mb,mo,none⟩ m mc (zx xI mem) (by rfl) ((wK (f:=xI) zbe mem).trans (by rw [<-jE.o])) (zcQ.o _ (z.o.below)) (zpA) (by unfold maxLen;omega) (by omega) z.o.below.size ?_
  intro ra rc zFP M e2 e3 O L;try simp only [Nat.zero_add,List.nil_append] at M L ⊢
  have zlU:=qh (z.o.app M O L);clear M e2 e3 O L;refine hK.out _ _ zlU.o.below (λ_=> ?_)
  clear hK K;refine zB 5 zM (zlU.o.below) ?_
  refine yA 7 rfl (λK hK=> ?_)
  obtain⟨b1,b2,b3,b4,b5⟩:=zlU.o.ziF (gb:=gb) (a:=N7) (b:=N7) (c:= .bool false) (by simp) (N7) (.slice ra m rc) (.bool bad);obtain⟨g, -, -⟩:=zlU.o.news (gb, [N7,N7, .bool false]) (by simp);have d0:=ze g 0;have f0:=zH g 0;have d1:=ze g 1;have f1:=zH g 1;have d2:=ze g 2;have f2:=zH g 2;clear g;have y:=qh b1;have J:=qh b2;have I:=qh b3;have H:=qh b5;have qZ:=qh b4;clear b1 b2 b3 b4 b5;go_simp
  refine hK.out _ _ y.o (λ_=> ?_)
  clear hK K;refine xC ?_
  go_wp2_with fail
  go_meet
  case rel=>exact⟨gb,ra,rc,by first|rfl|simp,jl.start (by rw [<-jE.o];exact J.o) y.o I.o qZ.o H.o⟩
 case rest=>
 obtain⟨gb,va,vc,rfl,HO⟩:=hcut;go_wp2_with fail
 go_loopg [4] n (λgg s4 wr=>∃(i:Nat) (oa:Option Addr) (oc:Nat) (bs:List Value),i<=n/\J2 (gg=n - i)/\s4=I4 i/\J2 (jl W wr gb (.slice oa i oc) (.slice va m vc) bad (ts.take i) mem bs))
 case atStart=>exact⟨0,none,0, [],Nat.zero_le _,rfl,rfl,by simpa using HO⟩
 case round=>
 obtain⟨i,oa,oc,bs,hi,HG,rfl,q⟩:=hrel;obtain⟨c0,c1,c2⟩:=HC.o wr q.o.below;by_cases G:i<n
 rotate_left
 ·obtain rfl:n=i:=by omega
  have hfin:=q.o;rw [List.take_of_length_le (by rw [<-HN.o];exact Nat.le_refl _)] at hfin;have HF:=qh hfin;have z0:=ze q.o.box 0;have z1:=ze q.o.box 1;have z2:=ze q.o.box 2;have hgl:C+1<W.heap.size:=zA H2.o;have r:=(q.o.below.block _ hgl).trans H2.o;have d0:=ze r 0;have d1:=ze r 1;have d2:=ze r 2;have f0:=zH r 0;have f1:=zH r 1;have f2:=zH r 2;have Q:=zu (zu (zu r 0 (.slice oa n oc)) 1 (.slice va m vc)) 2 (.bool bad);simp only [List.setIfInBounds_toArray,List.set_cons_zero,List.set_cons_succ] at Q
  have hS:Since (λk=>k=C+1) wr (((wr.setCell ⟨C+1,0,none⟩ (.slice oa n oc)).setCell ⟨C+1,1,none⟩ (.slice va m vc)).setCell ⟨C+1,2,none⟩ (.bool bad)):=Since.setCell (F:=λk=>k=C+1) (p:=⟨C+1,2,none⟩) (Since.setCell (F:=λk=>k=C+1) (p:=⟨C+1,1,none⟩) (Since.setCell (F:=λk=>k=C+1) (p:=⟨C+1,0,none⟩) (Since.refl _ wr) (.inl rfl) _) (.inl rfl) _) (.inl rfl) _;have zL:=qh Q;have gu:=qh hS;have HGL:=qh hgl;clear Q hS hgl r hfin;go_wp2_with fail
  (try simp only [Exit.inBlock,Exit.then])
  refine bodyPost_ret (xu rfl _ _ (C+1) 61 _ (0,0) _ rfl zL.o Tryz.underlying61 rfl zN) rfl ?_
  have G:∀k,W.heap.size<=k->k≠C+1:=λk U=>by have:=HGL.o;omega
  refine⟨⟨.slice oa n oc, .slice va m vc,bs,rfl, ?_⟩, ?_⟩
  ·refine OwnAt.lower (B:=W.heap.size) ((HF.o.own).since gu.o (λk U=>G k ?_) (λk U=>G k ?_) (λj hj k U=>G k ?_)) (by have:=uh.o;have:=xG.o;omega)
   ·exact(HF.o.own.row.lt k U).1
   ·exact(HF.o.own.mem.lt k U).1
   exact((HF.o.own.buf j hj).lt k U).1
  rw [<-xG.o] at HB ⊢;exact(HB.o.trans (HF.o.below.mono (by have:=uh.o;omega))).trans (gu.o.below (by have:=uh.o;have:=HF.o.below.size;omega) (λk e=>by omega))
 have vC:(i:Int)<(n:Int):=by omega
 obtain⟨tb,yT,ba,bc,hta, -,hr4,x0,x1,x2,x3,x4,x5,hbuf⟩:=qR.part HT.o i (by rw [<-HN.o];exact G);subst hta;obtain⟨t,ht⟩:=qxE (ts.getD i default);rw [<-ht] at hr4 x0 x1 x2 x3 x4 x5 hbuf;have hbl:=HBU.o i G;rw [<-ht] at hbl;have Z:ts.take (i+1)=ts.take i++ [t] :=uR (by rw [<-HN.o];exact G) ht;have zgM:=qh Z;have hlen:(ts.take i).length=i:=by rw [List.length_take, <-HN.o];omega
 have HLEN:=qh hlen;have HR4:=qh hr4;have zde:=qh (zX.below hbuf q.o.below);have k:=λp v h=>zl q.o.below p v h;replace x0:=k _ _ x0;replace x1:=k _ _ x1;replace x2:=k _ _ x2;replace x3:=k _ _ x3;replace x4:=k _ _ x4;replace x5:=k _ _ x5;obtain⟨q0,q1,q2,q3,T⟩:=wM hr4;obtain⟨pc,hpc⟩:=qxE t.pc;obtain⟨bl,wz⟩:=qxE t.buf.length;have htc:∀V,t.cells V= [I4 pc,I4 q0,I4 q1,I4 q2,I4 q3,V] :=λV=>by unfold zD.cells;rw [T,hpc];rfl
 have HTC:=qh htc;rw [<-hpc] at x0;rw [T] at x1 x2 x3 x4;simp only [List.getD_cons_zero,List.getD_cons_succ] at x1 x2 x3 x4;rw [<-wz] at x5 hbl zde;have jk:=qh wz;clear ht hbuf k T hpc wz htc Z hlen hr4;go_upto_region 6 with fail
 clear c0 c1 c2 x0 x1 x2 x3 x4 x5;have hn0:Since (λ_=>False) wr (wr.alloc (.cells #[I4 pc,I4 q0,I4 q1,I4 q2,I4 q3, .slice ba bl bc] 75)):=(Since.refl _ wr).alloc _;have hn1:=zQ wr (.cells #[I4 pc,I4 q0,I4 q1,I4 q2,I4 q3, .slice ba bl bc] 75);have hn2:(wr.alloc (.cells #[I4 pc,I4 q0,I4 q1,I4 q2,I4 q3, .slice ba bl bc] 75)).heap.size=wr.heap.size+1:=by simp
 have HN0:=qh hn0;have P:=qh hn1;have HN2:=qh hn2;have HB0:=qh (zX.below zde.o (hn0.below (Nat.le_refl _) (λ_ e=>e.elim)));clear hn0 hn1 hn2;generalize World.alloc wr _=X0 at HN0 P HN2 HB0 ⊢;obtain⟨nb,hnb⟩:=qxE wr.heap.size;rw [<-hnb] at P HN2 ⊢;have HNB:=qh hnb;clear hnb
 go_cut [5] (λs5 w'=>∃V:Value,s5= .pointer (some ⟨nb,0,none⟩)/\J2 (w'.heap[nb]? =some (.cells #[I4 pc,I4 q0,I4 q1,I4 q2,I4 q3,V] 75 (0,0)))/\V.oneCell'=true/\
  J2 (∃X1,Since (λ_=>False) wr X1/\X1.ownsRow W.heap.size 116 2 V t.buf.length (zx zq.cells t.buf)/\(∀k,V.ownBlock=some k->wr.heap.size<=k/\k≠nb)/\Since (λk=>k=nb) X1 w'))
 case first=>
  have c5:=ze P.o 5;have f5:=zH P.o 5;by_cases hb0:bl=0
  ·subst hb0;obtain⟨i0,hi0, -, -, -⟩:=info_parts xQ;go_wp2_with(at_builtin;go_must(refine zg9 X0 rfl (.const (N7)) (.tmp 25) 73 rfl 116 i0 Tryz.underlying73 hi0 (by rfl) ba bc (by rfl) ?_))
   go_meet
   case rel=>
   refine⟨N7,rfl,qh ?_,rfl,X0,HN0.o, ?_, ?_,Since.setCell (F:=λk=>k=nb) (p:=⟨nb,5,none⟩) (Since.refl _ _) (.inl rfl) _⟩
   ·have:=zu P.o 5 (N7)
    simpa using this
   ·obtain he:=List.eq_nil_of_length_eq_zero jk.o.symm;rw [he];exact World.ownsRow_nil _ _ _ _
   intro k U;simp [Value.ownBlock] at U
  obtain⟨bb,bo,hba, -, -, -⟩:=zX.part HB0.o 0 (by rw [<-jk.o];omega)
  subst hba;have zcQ:=qh (zh.news (R:=zaK) (f:=zq.cells) (by decide) gT (λ_ _ _ h=>h) HB0.o)
  go_wp2_with(at_builtin;go_must(refine zO X0 rfl (.const (N7)) (.tmp 25) 73 rfl 116 (.agg #[I4 0,I4 0]) 2 16 Tryz.underlying73 xQ rfl (by decide) W.heap.size (N7) 0 [] rfl (World.ownsRow_nil _ _ _ _) ⟨bb,bo,none⟩ bl bc (zx zq.cells t.buf) rfl (by rw [wK gT, <-jk.o]) zcQ.o zac (by unfold maxLen;omega) (by omega) (by have:=q.o.below.size;have:=HN0.o.size;omega) ?_);intro ja jc X M e2 e3 O L e6;simp only [Nat.zero_add,List.nil_append] at M L ⊢;have HE1:=qh M;have HE4:=qh O;have HE5:=qh L;have T:=(O.block nb (by have:=HN2.o;omega) (by simp [Value.ownBlock])).trans P.o;have HQ:=qh T;have g5:=ze T 5;have h5:=zH T 5;clear M e2 e3 O L e6 T c5 f5)
  go_meet
  case rel=>
  refine⟨.slice ja bl jc,rfl,qh ?_,rfl,X,HN0.o.trans HE4.o (λk e=>by simp [Value.ownBlock] at e),by rw [<-jk.o];exact HE1.o, ?_,Since.setCell (F:=λk=>k=nb) (p:=⟨nb,5,none⟩) (Since.refl _ _) (.inl rfl) _⟩
  ·have:=zu HQ.o 5 (.slice ja bl jc)
   simpa using this
  intro k U;rcases HE5.o k U with e|e
  ·simp [Value.ownBlock] at e
  have:=HN2.o
  have:=HNB.o
  exact⟨by omega,by omega⟩
 case rest=>
 obtain⟨V,rfl,HQ,hbv,wL⟩:=hcut;obtain⟨X1,N,wD,hbn,hs2⟩:=wL.o;have qV:=qh N;have HS2:=qh hs2;have uM:=qh wD;have HBN:=qh hbn;have zdR:=q.o.own.row;rw [HLEN.o] at zdR;have hrow:=hs2.row (N.row zdR (λ_ _ e=>e)) (λk U e=>by have:=(zdR.lt k U).2;have:=HNB.o;omega)
 have l:=zA q.o.box;have wB:=(hs2.block gb (by have:=N.size;omega) (by have:=HNB.o;omega)).trans ((N.block gb l (λe=>e)).trans q.o.box)
 have z5H:W.heap.size<=wc.heap.size:=by have:=q.o.below.size;have:=N.size;have:=hs2.size;omega
 have vW:=qh hrow;have zyg:=qh wB;have zBn:=qh z5H;have qo:=qh l
 have hone:∀u∈ [Value.int .i64 pc,I4 q0,I4 q1,I4 q2,I4 q3,V],u.oneCell'=true:=λu hu=>by
  simp only [List.mem_cons,List.not_mem_nil,or_false] at hu;rcases hu with rfl|rfl|rfl|rfl|rfl|rfl<;>first|rfl|exact hbv
 have zdy:=qh hone;clear hone;have y0:=ze HQ.o 0;have y1:=ze HQ.o 1;have y2:=ze HQ.o 2;have y3:=ze HQ.o 3;have y4:=ze HQ.o 4;have y5:=ze HQ.o 5;have z0:=ze wB 0;clear N hs2 wD hbn zdR hrow wB z5H l wL
 go_wp2_with(at_builtin;go_must(refine zO _ rfl _ _ 59 rfl 75 (.agg #[I4 0,I4 0,I4 0,I4 0,I4 0,N7]) 6 64 Tryz.underlying59 zaF rfl (by decide) W.heap.size (.slice oa i oc) i (yu (ts.take i) bs) rfl (vW.o.alloc _) ⟨wc.heap.size,0,none⟩ 1 1 [I4 pc,I4 q0,I4 q1,I4 q2,I4 q3,V] rfl rfl (j4 _ _ _) zdy.o (by unfold maxLen;omega) (by omega) (by have:=zBn.o;simp;omega) ?_);intro ja jc X M e2 e3 O L e6;have HE1:=qh M;have HE4:=qh O;have HE5:=qh L;have T:=(O.block gb (by have:=zA zyg.o;simp;omega) q.o.n1).trans ((Below.heap_alloc _ _ _ (zA zyg.o)).trans zyg.o);have g0:=ze T 0;have g1:=zH T 0;clear M e2 e3 O L e6 T)
 go_roundg (n - (i+1))
 case measure=>rw [HG.o];omega
 case rel=>exact⟨i+1,ja,jc,bs++ [V],by omega,rfl,by simp,by rw [zgM.o];exact jl.push q.o HR4.o qV.o uM.o HBN.o (HS2.o.alloc _) (by rw [HNB.o];exact Nat.le_refl _) (by rw [HLEN.o,HTC.o];exact HE1.o) HE4.o HE5.o⟩
