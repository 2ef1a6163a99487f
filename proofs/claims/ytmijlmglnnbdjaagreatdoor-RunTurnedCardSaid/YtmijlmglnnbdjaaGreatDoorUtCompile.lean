/- Steps. -/
import Derived.Deep.RegionLaw
import Derived.Test.YtmijlmglnnbdjaaGreatDoorUtTreeR
set_option linter.all false
namespace Go.Proofs.YtmijlmglnnbdjaaGreatDoor
open Go.RowKit
set_option maxRecDepth 100000
set_option maxHeartbeats 16000000
theorem zjZ:(Tryz.prog.info? 25).map (·.size)=some 3:=by kernel_rfl
theorem zoK:(Tryz.prog.info? 95).map (λi=>(i.zero,i.size,i.bytes))=some (some (N7),1,24):=by kernel_rfl
def CF (va:Value) (gb gr:Nat) (k:Nat):Prop:=va.ownBlock=some k\/k=gb\/k=gr
theorem zvl {e B:Nat} {V Y:World} {F:Nat->Prop} {t:TypeId} {v:Value} {l:List yg} {css:List (List Value)} (h:gZ V B Y (vY e) 12 t v l css) (d:Below V.heap.size V Y) (i:∀k,F k->V.heap.size<=k) (b:∀k,F k->k<B):yL F Y (λy=>xV e y l [v]):=λy c=>
 ⟨v,rfl,gZ.slice (V:=V) (B:=B) (e:=t) (css:=css) ⟨h.len,h.part,c.row h.row (λk f g=>by have:=(h.row.lt k f).1;have:=b k g;omega)⟩ (vY.stays e) (d.trans (c.below d.size i))⟩
structure bG (e:Nat) (w X:World) (gb gr:Nat) (vn dom:Int) (va:Value) (cl:List (List yg)) (css:List (List Value)):Prop where
 below:Below w.heap.size w X
 box:X.heap[gb]? =some (.cells #[I4 vn,I4 dom,va] 25 (0,0))
 res:X.heap[gr]? =some (.cells #[I4 0,I4 0,N7] 25 (0,0))
 lo:w.heap.size<=gb/\w.heap.size<=gr/\gr≠gb
 row:qA (CF va gb gr) X (xV e) 1 w.heap.size 95 va cl css
theorem bG.own_ne {e:Nat} {w X:World} {gb d:Nat} {f dom:Int} {b:Value} {g:List (List yg)} {css:List (List Value)} (h:bG e w X gb d f dom b g css):∀k,b.ownBlock=some k->k≠gb/\k≠d:=λk c=>
 ⟨λe=>by subst e;exact bA h.row.row c h.box (by decide),λe=>by subst e;exact bA h.row.row c h.res (by decide)⟩
theorem bG.lt {e:Nat} {w X:World} {gb d:Nat} {f dom:Int} {c:Value} {g:List (List yg)} {css:List (List Value)} (h:bG e w X gb d f dom c g css):∀k,CF c gb d k->k<X.heap.size:=λk b=>by
 rcases b with b|rfl|rfl
 ·exact(h.row.row.lt k b).2
 ·exact zA h.box
 exact zA h.res
theorem bG.ge {e:Nat} {w X:World} {gb d:Nat} {f dom:Int} {c:Value} {g:List (List yg)} {css:List (List Value)} (h:bG e w X gb d f dom c g css):∀k,CF c gb d k->w.heap.size<=k:=λk b=>by
 have:=h.lo
 rcases b with b|rfl|rfl
 ·exact(h.row.row.lt k b).1
 ·omega
 omega
theorem bG.later {e:Nat} {w X Y:World} {gb f:Nat} {c dom:Int} {d:Value} {g:List (List yg)} {css:List (List Value)} (h:bG e w X gb f c dom d g css) (b:Below X.heap.size X Y):bG e w Y gb f c dom d g css:=
 ⟨zy h.below b,(b.block _ (zA h.box)).trans h.box,(b.block _ (zA h.res)).trans h.res,h.lo,h.row.step (xW (λ_=>False) b) (λ_ _ h=>h) (λ_ h=>h.elim) (λ_ i=> .inl i)⟩
theorem bG.push {e i E C c:Nat} {w Y g:World} {gb H:Nat} {x dom:Int} {m D d:Option Addr} {j B:Nat} {I:List (List yg)} {css v:List (List Value)} {t:TypeId} {l:List yg} {o:Obj} (h:bG e w Y gb H x dom (.slice m i j) I css) (N:I.length=i)
  (M:gZ w B Y (vY e) 12 t (.slice D E C) l v) (O:∀k,CF (.slice m i j) gb H k->k<B) (f:g.ownsRow w.heap.size 95 1 (.slice d (i+1) c) (i+1) (css.flatten++ [.slice D E C]))
  (L:Since (λk=>(Value.slice m i j).ownBlock=some k) (Y.alloc o) g) (q:∀k,(Value.slice d (i+1) c).ownBlock=some k->(Value.slice m i j).ownBlock=some k\/k=(Y.alloc o).heap.size):
  g.heap[gb]? =some (.cells #[I4 x,I4 dom, .slice m i j] 25 (0,0))/\bG e w (g.setCell ⟨gb,2,none⟩ (.slice d (i+1) c)) gb H x dom (.slice d (i+1) c) (I++ [l]) (css++ [[.slice D E C]])/\Since (λk=>(Value.slice m i j).ownBlock=some k\/k=gb) Y (g.setCell ⟨gb,2,none⟩ (.slice d (i+1) c)):=by
 have G:=h.lo;have r:=h.own_ne;have A:Since (λk=>(Value.slice m i j).ownBlock=some k) Y g:=((Since.refl _ Y).alloc o).trans L (λk b=> .inl b);have J:=(A.block _ (zA h.box) (λe=>(r _ e).1 rfl)).trans h.box;have n:=(A.block _ (zA h.res) (λe=>(r _ e).2 rfl)).trans h.res;have z:Since (λk=>k=gb) g (g.setCell ⟨gb,2,none⟩ (.slice d (i+1) c)):=Since.setCell (F:=λk=>k=gb) (p:=⟨gb,2,none⟩) (Since.refl _ _) (.inl rfl) _;have y:Since (λk=>(Value.slice m i j).ownBlock=some k\/k=gb) Y (g.setCell ⟨gb,2,none⟩ (.slice d (i+1) c)):=(A.mono (λk _ b=> .inl b)).trans z (λk b=> .inl (.inr b))
 have u:∀k,(Value.slice d (i+1) c).ownBlock=some k->k≠gb:=λk b e=>by
  rcases q k b with f|f
  ·exact(r k f).1 e
  have:=zA h.box;simp at f;omega
 refine⟨J,⟨h.below.trans (y.below h.below.size (λk b=>by rcases b with b|b;exact(h.row.row.lt k b).1;omega)), ?_, ?_,G, ?_⟩,y⟩
 ·have:=zu J 2 (.slice d (i+1) c);simpa using this
 ·exact(z.block _ (zA n) (by omega)).trans n
 refine h.row.push y (λk b=> ?_) (λk b=> ?_) (zvl M h.below h.ge O) rfl ?_
 ·rcases b with b|b
  ·exact .inl (.inl b)
  exact .inl (.inr (.inl b))
 ·rcases b with b|b|b
  ·rcases q k b with f|f
   ·exact .inl (.inl f)
   exact .inr (by simp at f;omega)
  ·exact .inl (.inr (.inl b))
  exact .inl (.inr (.inr b))
 rw [N];exact z.row f u
def zfA (e:Nat) (w:World) (c:zG) (en:Ending) (w':World):Prop:=(∃ta tc css,en= .returned (.tuple #[yj c (.slice ta c.threads.length tc),I4 0])/\qA (λk=>(Value.slice ta c.threads.length tc).ownBlock=some k) w' (xV e) 1 w.heap.size 95 (.slice ta c.threads.length tc) c.threads css)/\Below w.heap.size w w'
theorem zl8 {e n tc:Nat} {w X Z:World} {c:zG} {gb g:Nat} {d:Option Addr} {css:List (List Value)} (h:bG e w X gb g c.vars c.domain (.slice d n tc) c.threads css) (i:c.threads.length=n) (f:Since (λk=>k=g) X Z):
  zfA e w c (.returned (.tuple #[.agg #[I4 c.vars,I4 c.domain, .slice d n tc],I4 0])) Z:=by
 subst i;refine⟨⟨d,tc,css,rfl,h.row.step f (λk b e=>(h.own_ne k b).2 e) (λk b=> .inl (.inr (.inr b))) (λk b=> .inl (.inl b))⟩,h.below.trans (f.below h.below.size (λk b=>by have:=h.lo;omega))⟩
theorem zoL (e d:Nat) (w:World) (p:zc6) (z:zgI p) (vv tv:Value) (h:zen e d w p vv tv):Calls Tryz.prog 22 #[zgK p vv tv] w (zfA e w (zda p)):=by
 have c:=λy (hy:Below w.heap.size w y)=>zl1 e d y p z vv tv (h.below hy);obtain⟨va,vc,rfl, -⟩:=zh.slice h.vars;obtain⟨ta,tc,rfl, -⟩:=zh.slice h.threads
 have q:∀l∈p.threads,(zW l 0).length<=600:=λl hl=>by
  have h1:=(zaD p.vars.length p.domain l 20 0 (by omega) (z.ok l hl)).1;have h2:=z.one hl;omega
 obtain⟨C,hC⟩:=qxE (zda p);have m:C=⟨p.vars.length,p.domain,p.threads.map (λl=>zW l 0)⟩:=hC;have hm3:=z.many.2;have B:=h.threads;rw [<-hC];unfold zgK at c ⊢;generalize p.domain=dom at c m ⊢;generalize p.vars.length=vn at c m ⊢;generalize p.threads=T at c m q hm3 B ⊢;obtain⟨f,G⟩:=qxE T.length;rw [<-G] at c B hm3 ⊢
 have r:∀i,i<f->(C.threads.take (i+1))=C.threads.take i++ [zW (T.getD i []) 0] :=λi hi=>by
  have hi2:i<T.length:=by omega
  rw [m,List.take_succ_eq_append_getElem (by simpa using hi2)];simp [List.getD_eq_getElem?_getD,List.getElem?_eq_getElem hi2]
 have hcl:C.threads.length=f:=by rw [m,G];simp
 have g:∀i,i<f->(zW (T.getD i []) 0).length<=600:=λi hi=>q _ (jF (by omega))
 have j:∀i,i<f->∀v,yQ e d w (T.getD i []) v->∀y,Below w.heap.size w y->Calls Tryz.prog 47 #[v,I4 0] y (zah e w y (zW (T.getD i []) 0)):=λi hi v hv y hy=>
  zvh e d w y hy _ v hv 0 (by omega) (by have:=g i hi;omega)
 have x:C.vars=vn:=by rw [m]
 have M:C.domain=dom:=by rw [m]
 have hB:=((Below.refl w.heap.size w).alloc (Nat.le_refl _) (.cells #[.slice va vn vc,I4 dom, .slice ta f tc] 69)).alloc (by simp) (.cells #[I4 0,I4 0,N7] 25);have P:=qh (xA w (.cells #[.slice va vn vc,I4 dom, .slice ta f tc] 69) (.cells #[I4 0,I4 0,N7] 25));have H2:=qh (xq w (.cells #[.slice va vn vc,I4 dom, .slice ta f tc] 69) (.cells #[I4 0,I4 0,N7] 25));have HB:=qh hB;have HTN:=qh G;have zkf:=qh B;have Z:=qh c;have HCT:=qh r;have U:=qh hcl;have HGD:=qh g;have jk:=qh j;have K:=qh x;have a:=qh M;clear h z c q hC m G B r hcl g j x M hB;go_enter Tryz.func22,Tryz.ntmps22
 go_upto_region 1 with fail
 generalize World.alloc (World.alloc w _) _=W at HB P H2 ⊢;obtain⟨A,S⟩:=qxE w.heap.size;rw [<-S] at P H2 ⊢;have xG:=qh S;clear S;have c0:=ze P.o 0;have c1:=ze P.o 1;have c2:=ze P.o 2;go_upto_region 3 with(go_at_call 46;go_must(refine(Z.o W HB.o).mono ?_);rintro en W1 ⟨rfl,N⟩;(have I:=qh (zy HB.o N));(have X:=qh ((N.block _ (zA P.o)).trans P.o));(have K2:=qh ((N.block _ (zA H2.o)).trans H2.o));clear N c0 c1 c2)
 have c0:=ze X.o 0;have c1:=ze X.o 1;go_upto_region 4 with fail
 have hL:bG e w (W1.alloc (.cells #[I4 vn,I4 dom,N7] 25)) W1.heap.size (A+1) vn dom (N7) [] [] :=by
  have hk:=zA K2.o;exact⟨I.o.alloc I.o.size _,zQ _ _,(Below.heap_alloc _ _ _ hk).trans K2.o,⟨I.o.size,by have:=xG.o;omega,by omega⟩,qA.nil _ _ _ _ _ _⟩
 have HK1:=qh ((Below.heap_alloc W1 (.cells #[I4 vn,I4 dom,N7] 25) _ (zA X.o)).trans X.o);have L:=zA X.o;clear c0 c1 X K2 P H2 HB Z;generalize World.alloc W1 _=V at hL HK1 ⊢;generalize W1.heap.size=gb at hL L ⊢;have HL0:=qh hL;have hgb:A≠gb:=by omega
 clear hL L I;go_wp2_with fail
 go_loopg [5] f (λgg s5 wr=>∃(i:Nat) (F:Option Addr) (E:Nat) (css:List (List Value)),i<=f/\J2 (gg=f - i)/\s5=I4 i/\J2 (bG e w wr gb (A+1) vn dom (.slice F i E) (C.threads.take i) css)/\J2 (wr.heap[A]? =some (.cells #[.slice va vn vc,I4 dom, .slice ta f tc] 69 (0,0))))
 case atStart=>exact⟨0,none,0, [],Nat.zero_le _,rfl,rfl,HL0.o,HK1.o⟩
 case round=>
 obtain⟨i,F,E,css,hi,HG,rfl,n,HK⟩:=hrel;have c2:=ze HK.o 2;by_cases hlt:i<f
 rotate_left
 ·obtain rfl:f=i:=by omega
  have z0:=ze n.o.box 0;have z1:=ze n.o.box 1;have z2:=ze n.o.box 2;have r0:=ze n.o.res 0;have r1:=ze n.o.res 1;have r2:=ze n.o.res 2;have f0:=zH n.o.res 0;have f1:=zH n.o.res 1;have f2:=zH n.o.res 2;have O:C.threads.take f=C.threads:=List.take_of_length_le (by rw [U.o];exact Nat.le_refl _);have u:=n.o;rw [O] at u;have J:(yU wr (A+1) 0 [I4 vn,I4 dom, .slice F f E]).heap[A+1]? =some (.cells #[I4 vn,I4 dom, .slice F f E] 25 (0,0)):=qU (cs:= [I4 0,I4 0,N7]) _ rfl u.res
  have s:zfA e w C (.returned (.tuple #[.agg #[I4 vn,I4 dom, .slice F f E],I4 0])) (yU wr (A+1) 0 [I4 vn,I4 dom, .slice F f E]):=by
   have:=zl8 (by rw [K.o,a.o];exact u) U.o (xR [I4 vn,I4 dom, .slice F f E] wr 0);rw [K.o,a.o] at this;exact this
  have zL:=qh J;have HE:=qh s;clear J u s O;go_wp2_with fail
  refine bodyPost_ret (zK rfl _ _ (A+1) 25 _ (0,0) _ rfl zL.o Tryz.underlying25 rfl zjZ) rfl ?_
  exact HE.o
 have vC:(i:Int)<(f:Int):=by omega
 obtain⟨b,off,ka,kc,yI, -,x0,R⟩:=zgb.part zkf.o i (by rw [<-HTN.o];exact hlt);subst yI;have j:=jk.o i hlt _ R;have r:=HCT.o i hlt;have g:=HGD.o i hlt;have hci:(C.threads.take i).length=i:=by rw [List.length_take,U.o];omega
 generalize T.getD i [] =l at x0 j r g R;have y0:=zl n.o.below _ _ x0;generalize l.length=ln at y0 j;generalize zW l 0=bc at j r g;have z2:=ze n.o.box 2;have zf:=zH n.o.box 2;have hB0:=j wr.drew n.o.below.drew;have HLD:=qh (n.o.later (Y:=wr.drew) (Below.refl _ _).drew);have HB0:=qh hB0;have HCI:=qh hci;have zBB:=qh r;have zFZ:=qh g;have HLT:=qh (show∀k,CF (.slice F i E) gb (A+1) k->k<wr.drew.heap.size from n.o.lt);clear R x0 j r g hci hB0;go_upto_region 7 with fail
 go_region_law (first|(refine zY (Y.alloc (.cells #[.slice ra bc.length rc] 95)) (by rfl) (.tmp 24) (.tmp 31) 23 rfl 95 (N7) 1 24 Tryz.underlying23 zoK rfl (by decide) w.heap.size (.slice F i E) i (css.flatten) (by simp [Act.eval]) (t.alloc _) ⟨Y.heap.size,0,none⟩ 1 1 [.slice ra bc.length rc] (by simp [Act.eval]) rfl (j4 Y _ _) (by simp [Value.oneCell']) (by unfold maxLen;omega) (by omega) (by simp;omega) ?_;intro xa xc X3 hx3 zwu zwv hS3 Q;have z:=vB.push HCI.o hr HLT.o hx3 hS3 Q;have v2:=ze z.1 2;have v2f:=zH z.1 2;simp only [List.getElem?_toArray,List.getElem?_cons_zero,List.getElem?_cons_succ] at v2)|(go_simp;go_at_call 47;refine HB0.o.mono ?_;rintro en Y ⟨⟨ra,rc,z6x,rfl,hr⟩,N⟩;have vB:=HLD.o.later N;have t:=vB.row.row;rw [HCI.o] at t;have hYs:=vB.below.size;have D:=ze vB.box 2;simp only [List.getElem?_toArray,List.getElem?_cons_zero,List.getElem?_cons_succ] at D;have v2c:=λo=>(Below.cell ((Below.refl _ _).alloc (Nat.le_refl _) o) (World.block_lt_of_cell? Y _ D)).trans D))
 all_goals
  have H:=(N.block A (zA (w:=wr) HK.o)).trans HK.o;have hk4:=(z.2.2.block A (zA H) (λe=>by rcases e with e|e;exact bA t e H (by decide);exact hgb e)).trans H;have HP:=qh z.2.1;have HK4:=qh hk4;clear H hk4 z hr N vB t hYs D hx3 hS3 Q v2 v2f y0 z2 zf c2;go_wp2_with fail
  go_roundg (f - (i+1))
  case measure=>rw [HG.o];omega
  case rel=>exact⟨i+1,xa,xc,_,by omega,rfl,by simp,by rw [J2,zBB.o];exact HP.o,HK4.o⟩
