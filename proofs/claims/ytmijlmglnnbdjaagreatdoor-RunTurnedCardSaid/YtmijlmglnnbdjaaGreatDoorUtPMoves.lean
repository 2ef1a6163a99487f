/- Steps. -/
import Derived.Test.YtmijlmglnnbdjaaGreatDoorUtPNext
import Derived.Test.YtmijlmglnnbdjaaGreatDoorUtSmallW
set_option linter.all false
namespace Go.Proofs.YtmijlmglnnbdjaaGreatDoor
open Go.RowKit
set_option maxRecDepth 100000
set_option maxHeartbeats 16000000
theorem z1o {w:World} {s:zo} {sv mv:Value} (c:yD w s sv mv):yL (λ_=>False) w (λy=>yD y s sv mv):=λ_ b=>c.below (b.below (Nat.le_refl _) (λ_ h=>h.elim))
theorem zjN (w:World) (c:zG) (H:Value) (d:Nat) (G:yP d w H c.threads) (m:zC) (s:zo) (sv mv:Value) (u:yD w s sv mv) (M:∀j,j<s.threads.length->(s.threads.getD j default).buf.length<=1000000):
  Calls Tryz.prog 35 #[yj c H,yE m,yB s sv mv] w (zeX w (xL c m s d)):=by
 obtain⟨O,i⟩:=qxE (yJ c m s);have f:=λW (x:Below w.heap.size w W)=>zlj W c H d (zh.below (xV.stays d) G x) m s sv mv (u.below x) M;rw [<-i] at f;have b:=λ(hf:O=true) W (x:Below w.heap.size w W)=>zva W c H d (zh.below (xV.stays d) G x) m s sv mv (u.below x) M (i.symm.trans hf) (λ_=>False) (λ_ h=>h.elim) (z1o (u.below x));have q:O=false->xL c m s d= [] :=λe=>by unfold xL;rw [if_neg (by rw [<-i,e];decide)]
 obtain⟨R,N⟩:=qxE (xL c m s d);obtain⟨NX,C⟩:=qxE (zlJ c m s d);rw [<-N, <-C] at b;rw [<-N] at q ⊢;clear N C i;obtain⟨ca,cc,rfl, -⟩:=zh.slice G;obtain⟨U,Z,rfl, -⟩:=zh.slice u.threads;obtain⟨ma,vU,rfl, -⟩:=zh.slice u.mem;unfold yj yE yB at f b ⊢;clear M G u;generalize c.threads.length=cn at f b ⊢;generalize s.threads.length=n at f b ⊢;generalize s.mem.length=mn at f b ⊢;generalize s.bad=bad at f b ⊢;generalize c.vars=vars at f b ⊢;generalize c.domain=dom at f b ⊢;generalize m.model=mod at f b ⊢;generalize m.bound=bnd at f b ⊢
 obtain⟨K,h1,a,Q⟩:=jX w (.cells #[I4 vars,I4 dom, .slice ca cn cc] 25) (.cells #[I4 mod,I4 bnd] 30) (.cells #[.slice U n Z, .slice ma mn vU, .bool bad] 61);have I:=qh K;have F:=qh h1;have J:=qh a;have D:=qh Q;have z:=qh f;have L:=qh b;have S:=qh q;clear K h1 a Q f b q;go_enter Tryz.func35,Tryz.ntmps35
 go_upto_region 1 with fail
 generalize World.alloc (World.alloc (World.alloc w _) _) _=W at I F J D ⊢;obtain⟨p,A⟩:=qxE w.heap.size;rw [<-A] at F J D ⊢;clear A
 have V:J2 (∀y,Below W.heap.size W y->K3 y p 0 (I4 vars)/\K3 y p 1 (I4 dom)/\K3 y p 2 (.slice ca cn cc)/\
   K3 y (p+1) 0 (I4 mod)/\K3 y (p+1) 1 (I4 bnd)/\K3 y (p+2) 0 (.slice U n Z)/\K3 y (p+2) 1 (.slice ma mn vU)/\K3 y (p+2) 2 (.bool bad)):=λy hx=>
  ⟨zl hx _ _ (ze F.o 0),zl hx _ _ (ze F.o 1),zl hx _ _ (ze F.o 2),zl hx _ _ (ze J.o 0),zl hx _ _ (ze J.o 1),zl hx _ _ (ze D.o 0),zl hx _ _ (ze D.o 1),zl hx _ _ (ze D.o 2)⟩
 obtain⟨c0,c1,c2,c3,c4,c5,c6,c7⟩:=V.o W (Below.refl _ _);go_wp2_with fail
 refine(z.o W I.o).mono ?_
 rintro e W1 ⟨rfl,r⟩;have g:=qh (I.o.trans (r.mono I.o.size));obtain⟨d0,d1,d2,d3,d4,d5,d6,d7⟩:=V.o W1 r;clear r z c0 c1 c2 c3 c4 c5 c6 c7;cases O with
 |false=>
  have HR:=qh (S.o rfl);go_wp2_with fail
  go_ret;exact zbW (by rw [HR.o];rfl) (by rw [HR.o];exact World.ownsRow_nil _ _ _ _) g.o
 |true=>
 go_wp2_with fail
 refine(L.o (by trivial) W1 g.o).mono ?_
 rintro e W2 ⟨⟨va,vc,xa,xc,css,rfl,k, -⟩,B⟩;have P:=qh (xO k g.o.size);have T:=qh (g.o.trans (B.mono g.o.size));clear k B d0 d1 d2 d3 d4 d5 d6 d7;go_wp2_with fail
 go_ret;exact zbW rfl P.o T.o
theorem zaZ {n:Int} (h: -1000000<=n/\n<=1000000):(Lit.int .i64 n).wf=true:=by
 unfold Lit.wf;simp only [Bool.and_eq_true,decide_eq_true_eq];have c:IntKind.i64.min= -9223372036854775808:=by decide
 have b:IntKind.i64.max=9223372036854775807:=by decide
 rw [c,b];omega
theorem zct {n:Int} (c:0<=n) (b:n<=10):(Lit.int .i64 n).wf=true:=zaZ (by omega)
theorem ziw {c:zG} {m:zC} {s:zo} {d:Nat} {x:zw} (h:x∈xL c m s d):vZ x:=by
 obtain⟨b,i,g,hx⟩:=zgC h;obtain⟨o,z,y,u,r⟩:=zdz.1 b;obtain⟨k, -⟩:=zdU o;have j:=xY k;rcases hx with⟨rfl, -⟩|⟨v,rfl,f⟩
 ·exact⟨zct (n:=1) (by omega) (by omega),zct (n:=(i:Int)) (by omega) (by omega),zct (n:=0) (by omega) (by omega)⟩
 obtain⟨q,p, -⟩:=zcO b g f;exact⟨zct (n:=2) (by omega) (by omega),zct (n:=(i:Int)) (by omega) (by omega),zct (n:=v) (by omega) (by omega)⟩
theorem zkA {m:zC} {x:zw} (h:vZ x):vZ (wY m x):=by
 unfold wY;split
 ·exact⟨zct (n:=2) (by omega) (by omega),h.2.1,zct (n:=0) (by omega) (by omega)⟩
 exact h
theorem z1j {c:zG} {m:zC} {s:zo} {d:Nat} {x:zw} (h:x∈zcd c m d s):vZ x:=by
 obtain⟨y,b,rfl⟩:=List.mem_map.1 h;exact zkA (ziw b)
def zyr (l:List zw) (n:Nat) (w:World) (e:Ending) (w':World):Prop:=(∃(va:Option Addr) (vc:Nat),e= .returned (.slice va n vc)/\w'.ownsRow w.heap.size 46 3 (.slice va n vc) n (zx zw.cells l))/\Below w.heap.size w w'
theorem zkC {l:List zw} {n:Nat} {w b:World} {e:Ending} (c:n=l.length) (h:zeX w l e b):zyr l n w e b:=by subst c;exact h
def zpC (w:World) (l:List zw) (e:Ending) (w':World):Prop:=(∃b n,e= .returned (.map (some b))/\jr w' b n (λx=>x∈l)/\w.heap.size<=b/\n<=1000)/\Below w.heap.size w w'
theorem map_take {α β:Type} [Inhabited α] {f:α->β} {l:List α} {i:Nat} (b:i<l.length) (y:β):(y∈(l.take i).map f\/y=f (l.getD i default))↔y∈(l.take (i+1)).map f:=by
 rw [List.take_succ_eq_append_getElem b,List.map_append,List.mem_append,List.getD_eq_getElem?_getD,List.getElem?_eq_getElem b];simp
theorem zuQ (w:World) (c:zG) (cv:Value) (d:Nat) (hc:yP d w cv c.threads) (m:zC) (s:zo) (sv mv:Value) (hs:yD w s sv mv) (J:kH 33 s):
  Calls Tryz.prog 66 #[yj c cv,yE m,yB s sv mv] w (zpC w (zcd c m d s)):=by
 obtain⟨ca,cc,rfl, -⟩:=zh.slice hc;obtain⟨ta,tc,rfl, -⟩:=zh.slice hs.threads;obtain⟨ma,mc,rfl, -⟩:=zh.slice hs.mem;have g:=λW (hW:Below w.heap.size w W)=>zjN W c (.slice ca c.threads.length cc) d (zh.below (xV.stays d) hc hW) m s _ _ (hs.below hW) (λj hj=>Nat.le_trans (J j hj) (by omega));obtain⟨l,hl⟩:=qxE (xL c m s d)
 have b:∀i,i<l.length->vZ (wY m (l.getD i default)):=λi hi=>zkA (ziw (by
  rw [<-hl,List.getD_eq_getElem?_getD,List.getElem?_eq_getElem hi];exact List.getElem_mem hi))
 have A:l.length<=132:=by rw [hl];exact zq9
 rw [<-hl] at g;obtain⟨B,F⟩:=qxE l.length;have Z:=λW hW=>(g W hW).mono λe w' h=>zkC F h;have hl63:B<=9223372036854775807:=by omega
 rw [<-F] at A;have qP:=qh F;clear g F;have g:=Z;clear Z;rw [show zcd c m d s=l.map (wY m) by rw [hl];rfl]
 have q:=λW x=>zlp W m x;obtain⟨f,hf⟩:=qxE (wY m);have hpf:∀x,wY m x=f x:=λx=>by rw [hf]
 simp only [hpf] at b q;rw [<-hf];clear hf hpf hl J hc hs;unfold yj yE yB at g;unfold yE at q;unfold yj yE yB;generalize c.threads.length=cn at g ⊢;generalize s.threads.length=n at g ⊢;generalize s.mem.length=mn at g ⊢;generalize s.bad=bad at g ⊢;generalize c.vars=vars at g ⊢;generalize c.domain=dom at g ⊢;generalize m.model=mod at g q ⊢;generalize m.bound=bnd at g q ⊢;clear c m s;obtain⟨hB,h1,h2,h3⟩:=jX w (.cells #[I4 vars,I4 dom, .slice ca cn cc] 25) (.cells #[I4 mod,I4 bnd] 30) (.cells #[.slice ta n tc, .slice ma mn mc, .bool bad] 61);have HB:=qh hB;have H1:=qh h1;have V:=qh h2
 have H3:=qh h3;have HMV:=qh g;have HPR:=qh q;have HWF:=qh b;have O:=qh A;have hmm:= @run_makeMap Tryz.prog;clear hB h1 h2 h3 g q b A;go_enter Tryz.func66,Tryz.ntmps66
 go_upto_region 1 with fail
 generalize World.alloc (World.alloc (World.alloc w _) _) _=W0 at HB H1 V H3 ⊢;obtain⟨gx,R⟩:=qxE w.heap.size;rw [<-R] at H1 V H3 ⊢;have xG:=qh R;clear R;go_upto_region 2 with fail
 have wN:=qh (jr.made W0);have u:J2 (Below W0.heap.size W0 (W0.alloc (.map #[] 0))):=(Below.refl _ _).alloc (Nat.le_refl _) _;generalize World.alloc W0 _=W at wN u ⊢;have yK:=qh (zy HB.o u.o);have I:=(u.o.block _ (zA H1.o)).trans H1.o;have H:=(u.o.block _ (zA V.o)).trans V.o;have G:=(u.o.block _ (zA H3.o)).trans H3.o;have hmb:W0.heap.size<W.heap.size:=wN.o.lt;have S:=qh hmb;have HMX:J2 (gx+1<W0.heap.size):=zA V.o;have M:J2 (w.heap.size<=W0.heap.size):=HB.o.size;have T:=qh H;have c0:=ze I 0;have c1:=ze I 1;have c2:=ze I 2;have c3:=ze H 0;have c4:=ze H 1;have c5:=ze G 0;have c6:=ze G 1
 have c7:=ze G 2;obtain⟨mb,a⟩:=qxE W0.heap.size;rw [<-a] at wN S HMX M ⊢;clear I H G hmb a H1 V H3 HB u xG;go_wp2_with(go_at_call 35;go_must(refine(HMV.o W yK.o).mono ?_);rintro e X ⟨⟨va,vc,rfl,ho⟩,J⟩;have HO:=qh ho;have yh:=qh J;clear ho J);have qV:=qh (wN.o.below yh.o);have Q:=qh ((yh.o.block _ (zA T.o)).trans T.o);have HEN:=qh (zy yK.o yh.o);have uh:=qh yh.o.size
 have HXN:J2 (∀k,(Value.slice va B vc).ownBlock=some k->k≠mb):=λk hk=>by
  have h1:=(HO.o.lt k hk).1;have h2:=S.o;omega
 clear c0 c1 c2 c3 c4 c5 c6 c7 wN T yh yK HMV;go_loopg [16] B (λgg s16 wr=>∃(i:Nat),i<=B/\J2 (gg=B - i)/\s16=I4 i/\J2 (jr wr mb i (λy=>y∈(l.take i).map f))/\J2 (Since (λk=>k=mb) X wr))
 case atStart=>exact⟨0,Nat.zero_le _,rfl,rfl,qV.o.to (λz _=>by simp),Since.refl _ _⟩
 case round=>
 obtain⟨i,hi,HG,rfl,HSI,L⟩:=hrel;obtain⟨U,rfl⟩:=qxE (wr:World);clear qV;by_cases hlt:i<B
 rotate_left
 ·obtain rfl:B=i:=by omega
  go_wp2_with fail
  go_ret;refine⟨⟨mb,B,rfl,HSI.o.to (λz _=>by rw [qP.o,List.take_length]),M.o,by have:=O.o;omega⟩,HEN.o.trans (L.o.below (Nat.le_trans M.o (by have:=S.o;have:=uh.o;omega)) (λk hk=>hk ▸ M.o))⟩
 have vC:(i:Int)<(B:Int):=by omega
 have N:=zeY (l:=l) (by rw [<-qP.o];exact L.o.row HO.o (λk hk e=>HXN.o k hk e));obtain⟨mb2,mof,yI,hml,x0,x1,x2⟩:=qB.part N i (by rw [<-qP.o];exact hlt);subst yI;obtain⟨x,hx⟩:=qxE (l.getD i default);have b:=HWF.o i (by rw [<-qP.o];exact hlt);have p:=map_take (f:=f) (l:=l) (i:=i) (by rw [<-qP.o];exact hlt);rw [<-hx] at x0 x1 x2 b p;obtain⟨y,hy⟩:=qxE (f x);rw [<-hy] at b p;have D:=λW=>HPR.o W x;rw [<-hy] at D;have HWY:=qh b;have kT:=qh p;obtain⟨xk,xt,xv⟩:=x;obtain⟨yk,yt,yv⟩:=y;unfold vF at D;have HPX:=qh D;simp only [] at x0 x1 x2 HPX
 have P:=(L.o.block _ (zA Q.o) (by have:=HMX.o;omega)).trans Q.o
 clear N hx hy b p D;go_upto_region 5 with fail
 have hA:Below U.heap.size U (U.alloc (.cells #[I4 xk,I4 xt,I4 xv] 46)):=(Below.refl _ _).alloc (Nat.le_refl _) _;have C:=(hA.block _ (zA P)).trans P;have r:=zQ U (.cells #[I4 xk,I4 xt,I4 xv] 46);have HSA:=qh (HSI.o.below hA);have K:=qh (L.o.trans (xW (λk=>k=mb) hA) (λ_ e=> .inl e));clear x0 x1 x2 P hA;generalize World.alloc U _=W3 at HSA K C r ⊢;generalize U.heap.size=gm at r ⊢;have e0:=ze C 0;have e1:=ze C 1;have m0:=ze r 0;have m1:=ze r 1;have m2:=ze r 2;clear C r
 go_wp2_with(first
  |(go_at_call 67;go_must(refine(HPX.o W3).mono ?_);rintro e X5 ⟨rfl,J⟩;have HS5:=qh (HSA.o.below J);have zBy:=qh (K.o.trans (xW (λk=>k=mb) J) (λ_ e=> .inl e));clear J)
  |(at_mapUpdate;refine zk6 _ rfl _ _ _ rfl mb i _ rfl HS5.o (by have:=O.o;omega) ⟨yk,yt,yv⟩ HWY.o rfl rfl ?_;intro w6 hs6 hn6;have HS6:=qh (hs6.to (λz _=>kT.o z));have zBz:=qh (zBy.o.trans hn6 (λ_ e=> .inl e));clear hs6 hn6))
 go_roundg (B - (i+1))
 case measure=>rw [HG.o];omega
 case rel=>exact⟨i+1,by omega,rfl,by simp,HS6.o,zBz.o⟩
end Go.Proofs.YtmijlmglnnbdjaaGreatDoor
namespace Go.Proofs.YtmijlmglnnbdjaaGreatDoor
open Go.RowKit
set_option maxRecDepth 100000
set_option maxHeartbeats 16000000
def GF (E:Nat->Prop) (v:Value) (gs:Nat) (k:Nat):Prop:=v.ownBlock=some k\/k=gs\/E k
structure wC (E:Nat->Prop) (W X:World) (gs:Nat) (v:Value) (l:List zo) (css:List (List Value)) (s:zo) (tv mv:Value):Prop where
 below:Below W.heap.size W X
 lo:W.heap.size<=gs
 ap:v.ownBlock≠some gs
 box:X.heap[gs]? =some (.cells #[tv,mv, .bool s.bad] 61 (0,0))
 rows:qA (GF E v gs) X qY 3 W.heap.size 61 v l css
 st:yL (GF E v gs) X (λy=>qY y s [tv,mv, .bool s.bad])
section
variable {E E':Nat->Prop} {W X X1 Y:World} {gs:Nat} {v v' tv mv pv qv:Value} {s t:zo} {l:List zo} {css:List (List Value)}
theorem wC.lt (h:wC E W X gs v l css s tv mv):∀k,v.ownBlock=some k\/k=gs->k<X.heap.size:=λk b=>
 b.elim (λe=>(h.rows.row.lt k e).2) (λe=>e ▸ zA h.box)
theorem wC.now (h:wC E W X gs v l css s tv mv):yD X s tv mv:=by
 obtain⟨a,b,c,d⟩:=h.st.now;simp only [List.cons.injEq,and_true] at c;obtain⟨rfl,rfl, -⟩:=c;exact d
theorem wC.call (h:wC E W X gs v l css s tv mv) (b:Below X.heap.size X Y):wC E W Y gs v l css s tv mv:=
 ⟨zy h.below b,h.lo,h.ap,(b.block _ (zA h.box)).trans h.box,h.rows.step (G:=λ_=>False) (xW _ b) (λ_ _ h=>h) (λ_ h=>h.elim) (λ_ c=> .inl c),
  h.st.step (G:=λ_=>False) (xW _ b) (λ_ h=>h.elim) (λ_ c=> .inl c)⟩
theorem wC.start (c:Below W.heap.size W X) (hE:∀k,E k->k<W.heap.size\/X.heap.size<=k) (d:yL (λk=>k<W.heap.size) X (λy=>qY y s [tv,mv, .bool s.bad])):
  wC E W (X.alloc (.cells #[tv,mv, .bool s.bad] 61)) X.heap.size (N7) [] [] s tv mv:=
 ⟨zy c ((Below.refl _ _).alloc (Nat.le_refl _) _),c.size,by simp [Value.ownBlock],zQ X _,qA.nil _ _ _ _ _ _,d.step (G:=λ_=>False) ((Since.refl _ X).alloc _) (λ_ h=>h.elim) (λk b=>by
  rcases b with b|b|b
  ·simp [Value.ownBlock] at b
  ·exact .inr (Nat.le_of_eq b.symm)
  exact hE k b)⟩
theorem wC.push (h:wC E W X gs v l css s tv mv) {o:Obj} (m:X1.ownsRow W.heap.size 61 3 v' (l.length+1) (css.flatten++ [tv,mv, .bool s.bad]))
  (j:Since (λk=>v.ownBlock=some k) (X.alloc o) X1) (g:∀k,v'.ownBlock=some k->v.ownBlock=some k\/k=(X.alloc o).heap.size):wC E W X1 gs v' (l++ [s]) (css++ [[tv,mv, .bool s.bad]]) s tv mv:=by
 have d:Since (λk=>v.ownBlock=some k) X X1:=((Since.refl _ X).alloc o).trans j (λk b=> .inl b);have i:=zA h.box
 have f:∀k,GF E v' gs k->GF E v gs k\/X.heap.size<=k:=λk b=>by
  rcases b with b|b
  ·rcases g k b with c|c
   ·exact .inl (.inl c)
   refine .inr ?_;simp at c;omega
  exact .inl (.inr b)
 refine⟨h.below.trans (d.below h.below.size (λk e=>(h.rows.row.lt k e).1)),h.lo,λe=> ?_,(d.block _ i (λe=>h.ap e)).trans h.box, ?_,h.st.step d (λk b=> .inl (.inl b)) f⟩
 ·rcases g gs e with c|c
  ·exact h.ap c
  simp at c;omega
 exact h.rows.push d (λk b=> .inl (.inl b)) f h.st rfl m
theorem wC.put (h:wC E W X gs v l css s tv mv) (f:Below X.heap.size X Y) (i:yL (GF E v gs) Y (λy=>qY y t [pv,qv, .bool t.bad])):wC E W (yU Y gs 0 [pv,qv, .bool t.bad]) gs v l css t pv qv:=by
 have d:=xR (g:=gs) [pv,qv, .bool t.bad] Y 0;have c:=h.call f
 exact⟨c.below.trans (d.below c.below.size (λk b=>b ▸ h.lo)),h.lo,h.ap,qU (cs:= [tv,mv, .bool s.bad]) _ rfl c.box,c.rows.step d (λk b e=>h.ap (e ▸ b)) (λk b=> .inl (.inr (.inl b))) (λk b=> .inl b),
  i.step d (λk b=> .inl (.inr (.inl b))) (λk b=> .inl b)⟩
theorem wC.other (h:wC E W X gs v l css s tv mv) (c:Since E X Y) (hE:∀k,E k->v.ownBlock≠some k/\k≠gs/\W.heap.size<=k) (d:∀k,E' k->E k\/X.heap.size<=k):wC E' W Y gs v l css s tv mv:=by
 have f:∀k,GF E' v gs k->GF E v gs k\/X.heap.size<=k:=λk b=>by
  rcases b with b|b|b
  ·exact .inl (.inl b)
  ·exact .inl (.inr (.inl b))
  exact(d k b).elim (λe=> .inl (.inr (.inr e))) .inr
 exact⟨h.below.trans (c.below h.below.size (λk b=>(hE k b).2.2)),h.lo,h.ap,(c.block _ (zA h.box) (λe=>(hE _ e).2.1 rfl)).trans h.box,h.rows.step c (λk b e=>(hE k e).1 b) (λk b=> .inl (.inr (.inr b))) f,h.st.step c (λk b=> .inl (.inr (.inr b))) f⟩
theorem znP {f:zo} {c d:Value} {F:Nat->Prop} (h:Follows X f c d Y s tv mv) (n:∀k,F k->k<X.heap.size) (m:yL F X (λy=>qY y f [c,d, .bool f.bad])):yL F Y (λy=>qY y s [tv,mv, .bool s.bad]):=by
 have o:yL F X (λy=>yD y f c d):=λy g=>by
  obtain⟨a,b,i,j⟩:=m y g;simp only [List.cons.injEq,and_true] at i;obtain⟨rfl,rfl, -⟩:=i;exact j
 exact λy g=>⟨tv,mv,rfl,h F n o y g⟩
end
def zgR (w:World) (r:List zo × Int) (e:Ending) (w':World):Prop:=(∃(a:Option Addr) (n c:Nat),n=r.1.length/\e= .returned (.tuple #[.slice a n c,I4 r.2])/\jY w' (.slice a n c) r.1)/\Below w.heap.size w w'
theorem bB {w b:World} {r:List zo × Int} {k:Int} (c:r=([],k)) (d:Below w.heap.size w b):zgR w r (.returned (.tuple #[N7,I4 k])) b:=by
 subst c;exact⟨⟨none,0,0,rfl,rfl,zh.nil b⟩,d⟩
theorem zqL {E:Nat->Prop} {w b W X:World} {r:List zo × Int} {l:List zo} {css:List (List Value)} {gs n:Nat} {a:Option Addr} {c:Nat} {s:zo} {tv mv:Value} (f:r=(l,0)) (g:n=l.length) (j:Below w.heap.size w W) (h:wC E W X gs (.slice a n c) l css s tv mv) (i:Below X.heap.size X b):zgR w r (.returned (.tuple #[.slice a n c,I4 0])) b:=by
 subst f;have d:=h.call i;exact⟨⟨a,n,c,g,rfl,d.rows.slice⟩,zy j d.below⟩
end Go.Proofs.YtmijlmglnnbdjaaGreatDoor
namespace Go.Proofs.YtmijlmglnnbdjaaGreatDoor
open Go.RowKit
set_option maxRecDepth 100000
set_option maxHeartbeats 16000000
theorem zrM:Tryz.prog.underlying 46=some (.struct (Tryz.prog.fieldsOf 46)):=by kernel_rfl
theorem zrN:Tryz.prog.stoodInHeld 46=false:=by kernel_rfl
@[go_sem] theorem z7y:Tryz.prog.eqGuardType Tryz.prog.depth 46=false:=by kernel_rfl
theorem zoH:(Tryz.prog.fieldsOf 46).toList.map (λf=>(f.name,f.type,f.offset))= [("Kind",3,0),("Thread",3,1),("Var",3,2)] :=by kernel_rfl
@[go_sem] theorem z6S (w:World) (a b c x y z:Int):(Op.equalIn 10000 46 (.agg #[I4 a,I4 b,I4 c]) (.agg #[I4 x,I4 y,I4 z])).run Tryz.prog w
  = .ok (a==x && b==y && c==z) w:=by
 rw [run_equalIn_agg w 9999 _ _ _ zrM zrN]
 obtain⟨g,f,d,q,k,j,i⟩:∃g f d,(Tryz.prog.fieldsOf 46).toList= [g,f,d] /\(g.name,g.type,g.offset)=("Kind",3,0)/\(f.name,f.type,f.offset)=("Thread",3,1)/\(d.name,d.type,d.offset)=("Var",3,2):=by
  have h:=zoH;generalize (Tryz.prog.fieldsOf 46).toList=l at h;have p:l.length=3:=by have:=congrArg List.length h;simpa using this
  match l,p,h with
  | [g,f,d],_,h=>
  simp only [List.map_cons,List.map_nil,List.cons.injEq,and_true] at h;exact⟨g,f,d,rfl,h.1,h.2.1,h.2.2⟩
 simp only [Prod.mk.injEq] at k j i;rw [q];have o:=λ(w:World) (a b c:Int)=>kV w #[I4 a,I4 b,I4 c] 0 a rfl;have n:=λ(w:World) (a b c:Int)=>kV w #[I4 a,I4 b,I4 c] 1 b rfl;have m:=λ(w:World) (a b c:Int)=>kV w #[I4 a,I4 b,I4 c] 2 c rfl;have ge:=zhw 9998;cases e0:a==x<;>cases e1:b==y<;>cases e2:c==z<;>simp [Op.eqFields,k,j,i,o,n,m,ge,e0,e1,e2]
def DoA (F:Nat->Prop) (r:zo × Int) (bd:Bool) (w:World) (e:Ending) (w':World):Prop:=(∃(a b:Option Addr) (n c k f:Nat),e= .returned (.tuple #[.agg #[.slice a n c, .slice b k f, .bool bd],I4 r.2])/\yL F w' (λy=>qY y r.1 [.slice a n c, .slice b k f, .bool bd]))/\Below w.heap.size w w'
theorem z7h (w:World) (c:zG) (tv:Value) (d:Nat) (h:yP d w tv c.threads) (m:zC) (s:zo) (b:kH 33 s) (sv mv:Value) (q:yD w s sv mv) (F:Nat->Prop) (A:∀k,F k->k<w.heap.size) (z:yL F w (λy=>qY y s [sv,mv, .bool s.bad])) (x:zw):
  Calls Tryz.prog 36 #[yj c tv,yE m,yB s sv mv,vF x] w (DoA F (jR c m s x d) (jR c m s x d).1.bad w):=by
 refine(z0Z w c tv d h m s sv mv q (λj r=>Nat.le_trans (b j r) (by omega)) x).mono ?_
 rintro e B ⟨b,p,n,o,i,f,g,rfl,u⟩;exact⟨⟨p,i,n,o,f,g,rfl,znP u A z⟩,b⟩
theorem z7t (w:World) (c:zG) (tv:Value) (d:Nat) (h:yP d w tv c.threads) (m:zC) (s:zo) (b:kH 33 s) (sv mv:Value) (q:yD w s sv mv) (F:Nat->Prop) (z:∀k,F k->k<w.heap.size) (A:yL F w (λy=>qY y s [sv,mv, .bool s.bad])) (x:zw):
  Calls Tryz.prog 32 #[yj c tv,yE m,yB s sv mv,vF x] w (DoA F (jR c m s x d) (jR c m s x d).1.bad w):=by
 refine(z5h w c tv d h m s sv mv q (λj u=>Nat.le_trans (b j u) (by omega)) x).mono ?_
 rintro e B ⟨⟨p,n,o,i,f,g,bs,rfl,r⟩,b⟩;exact⟨⟨p,i,n,o,f,g,rfl,zw2 r z⟩,b⟩
theorem zwI (w:World) (c:zG) (tv:Value) (d:Nat) (h:yP d w tv c.threads):Calls Tryz.prog 34 #[yj c tv] w (z0j (vM c) (vM c).bad w):=by
 refine(zq3 w c tv d h).mono ?_
 rintro e m ⟨⟨sv,mv,rfl,f⟩,i⟩;obtain⟨a,j,rfl, -⟩:=zh.slice f.now.threads;obtain⟨b,k,rfl, -⟩:=zh.slice f.now.mem;exact⟨⟨a,b,_,j,_,k,rfl,λy g=>⟨_,_,rfl,f y g⟩⟩,i⟩
theorem zyn (w:World) (c:zG) (tv:Value) (d:Nat) (h:yP d w tv c.threads):Calls Tryz.prog 21 #[yj c tv] w (z0j (vM c) (vM c).bad w):=by
 refine(ztl w c tv d h).mono ?_
 rintro e m ⟨⟨sv,mv,rfl,f⟩,i⟩;obtain⟨a,j,rfl, -⟩:=zh.slice f.now.threads;obtain⟨b,k,rfl, -⟩:=zh.slice f.now.mem;exact⟨⟨a,b,_,j,_,k,rfl,λy g=>⟨_,_,rfl,f y g⟩⟩,i⟩
theorem zwJ (w:World) (c:zG) (tv:Value) (d:Nat) (h:yP d w tv c.threads) (m:zC) (s:zo) (i:kH 33 s) (sv mv:Value) (b:yD w s sv mv) (n:Nat) (f:n=(xL c m s d).length):Calls Tryz.prog 35 #[yj c tv,yE m,yB s sv mv] w (zyr (xL c m s d) n w):=
 (zjN w c tv d h m s sv mv b (λj g=>Nat.le_trans (i j g) (by omega))).mono λ_ _ h=>zkC f h
theorem zyo (w:World) (c:zG) (tv:Value) (d:Nat) (h:yP d w tv c.threads) (m:zC) (s:zo) (i:kH 33 s) (sv mv:Value) (b:yD w s sv mv) (n:Nat) (f:n=(xL c m s d).length):Calls Tryz.prog 31 #[yj c tv,yE m,yB s sv mv] w (zyr (xL c m s d) n w):=
 (ztr w c tv d h m s sv mv b (λj g=>Nat.le_trans (i j g) (by omega))).mono λ_ _ h=>zkC f h
theorem ziZ {c:zG} {m:zC} {s:zo} (h:yJ c m s=true):kH 33 s:=λj b=>Nat.le_trans (zdD h j b) (by omega)
theorem bytes_beq (a b:ByteArray):(a==b)=decide (a=b):=by
 rw [Bool.eq_iff_iff,decide_eq_true_eq];obtain⟨x⟩:=a;obtain⟨y⟩:=b;show(x==y)=true↔_
 simp
theorem z0M {c:zG} {m:zC} {s t:zo} (f:yJ c m s=true) (d:yJ c m t=true) (rs:zau s) (b:zau t):(keyOf s !=keyOf t)= !decide (s=t):=by
 unfold bne;rw [bytes_beq];congr 1
 rw [Bool.eq_iff_iff,decide_eq_true_eq,decide_eq_true_eq];exact⟨zwE f d rs b,λe=>by rw [e]⟩
structure zys (ln:Nat) (back:Int) (l:List zw) (mo:Bool) (R:List zo × Int) (S0:zo) (MV:zo->List zw) (DO:zo->zw->zo × Int) (FT:zo->Prop) (RL:List zo->zo->List zw->Option (List zo × zo)):Prop where
 bad:(mo=false\/ln<1\/100000<ln\/back<0\/(ln:Int)<=back)->R=([],1)
 good:mo=true->1<=ln->ln<=100000->0<=back->back<ln->R=pW back (RL [] S0 l)
 fin:∀out s,RL out s (l.drop ln)=some (out,s)
 stay:∀out s i,i<ln->l.getD i default=jP->MV s= [] ->RL out s (l.drop i)=RL (out++ [s]) s (l.drop (i+1))
 go:∀out s i,i<ln->¬(l.getD i default=jP/\MV s= [])->(DO s (l.getD i default)).2=0->RL out s (l.drop i)=RL (out++ [s]) (DO s (l.getD i default)).1 (l.drop (i+1))
 no:∀out s i,i<ln->¬(l.getD i default=jP/\MV s= [])->(DO s (l.getD i default)).2≠0->RL out s (l.drop i)=none
 zero:∀s,(DO s jP).2≠0
 zAy:mo=true->FT S0
 fit:∀s x,(DO s x).2=0->FT (DO s x).1
theorem ztK (c:zG) (m:zC) (l:List zw) (back:Int) (d:Nat):zys l.length back l (jU c m) (yM c m l back d) (vM c) (λs=>xL c m s d) (λs x=>jR c m s x d) (λs=>yJ c m s=true) (zb3 c m d):=by
 refine⟨λh=> ?_,λf b p o n=> ?_,λout s=>by rw [List.drop_length];rfl,λout s i g f b=>by rw [ziy g,zvb f b],λout s i g f b=>by rw [ziy g,z1p f b],λout s i g f b=>by rw [ziy g,z1q f b],λs=>zpJ,λh=>zjO h,λs x h=>zpK (zvc h)⟩
 ·unfold yM;rw [if_neg];intro k;obtain⟨j,y,u,r,q⟩:=bQ k;rcases h with h|h|h|h|h
  ·rw [h] at j;cases j
  ·omega
  ·omega
  ·omega
  omega
 unfold yM;rw [if_pos];unfold zjP;simp [f,b,p,o,n]
theorem ztL {back:Int} {b:Nat} {out:List zo} {s:zo} (c:back=b) (h:s=out.getD b default):pW back (some (out,s))=(out,0):=by
 subst c;unfold pW;simp only [Int.toNat_natCast];rw [if_pos h]
theorem zwK {back:Int} {b:Nat} {out:List zo} {s:zo} (c:back=b) (h:s≠out.getD b default):pW back (some (out,s))=([],50):=by
 subst c;unfold pW;simp only [Int.toNat_natCast];rw [if_neg h]
