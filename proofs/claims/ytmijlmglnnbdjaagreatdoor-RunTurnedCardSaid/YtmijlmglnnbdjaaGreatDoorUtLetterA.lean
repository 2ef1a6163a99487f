/- Steps. -/
import Derived.Test.YtmijlmglnnbdjaaGreatDoorUtRunE
set_option linter.all false
namespace Go.Proofs.YtmijlmglnnbdjaaGreatDoor
open Go.RowKit
set_option maxRecDepth 100000
set_option maxHeartbeats 16000000
def zv2 (l:List Bool) (w:World) (e:Ending) (w':World):Prop:=(∃(a:Option Addr) (n cp:Nat),n=l.length/\e= .returned (.slice a n cp)/\w'.ownsRow w.heap.size 4 1 (.slice a n cp) n (l.map Value.bool))/\Below w.heap.size w w'
theorem zoS {c:zG} {s:zo} {ps:List zF} {i:Nat} (b:i<ps.length):((ps.take i).map λp=>isS c p s).map Value.bool++ [.bool (isS c (ps.getD i ⟨0,0,0,0⟩) s)] =((ps.take (i+1)).map λp=>isS c p s).map Value.bool:=by
 rw [List.take_succ_eq_append_getElem b,List.map_append,List.map_append,List.getD_eq_getElem?_getD,List.getElem?_eq_getElem b];rfl
theorem zsg {w:World} {a:Option Addr} {n f:Nat} {l:List zF} (h:j5 w (.slice a n f) l) (j:Nat) (i:j<l.length):∃b c,a=some ⟨b,c,none⟩/\b<w.heap.size/\w.cell? ⟨b,c+j*4,none⟩=some (I4 (l.getD j ⟨0,0,0,0⟩).kind)/\
  w.cell? ⟨b,c+j*4+1,none⟩=some (I4 (l.getD j ⟨0,0,0,0⟩).thread)/\w.cell? ⟨b,c+j*4+2,none⟩=some (I4 (l.getD j ⟨0,0,0,0⟩).place)/\w.cell? ⟨b,c+j*4+3,none⟩=some (I4 (l.getD j ⟨0,0,0,0⟩).num):=by
 obtain⟨q,g,k, -,p⟩:=h;cases k
 obtain⟨b,c,o,m,d⟩:=p j i;exact⟨b,c,o,m,d 0 (by omega),d 1 (by omega),d 2 (by omega),d 3 (by omega)⟩
theorem zoT {w:World} {sv:Value} {l:List zF} (h:j5 w sv l):∃a b,sv= .slice a l.length b/\l.length<=9223372036854775807:=by
 obtain⟨a,b,d,c, -⟩:=h;exact⟨a,b,d,c⟩
theorem zo4 (w:World) (c:zG) (cv:Value) (d:Nat) (hc:yP d w cv c.threads) (f:Form) (kv:Value) (df:Nat) (hf:xE w df f kv) (R:f.size<=200) (s:zo) (sv mv:Value) (hs:yD w s sv mv):
  Calls Tryz.prog 40 #[yj c cv,vI f kv,yB s sv mv] w (zv2 (jZ c f s) w):=by
 obtain⟨ca,cc,rfl,hcn⟩:=zh.slice hc;obtain⟨ta,tc,rfl,htn⟩:=zh.slice hs.threads;obtain⟨ma,mc,rfl,hmn⟩:=zh.slice hs.mem;obtain⟨ka,kc,rfl,V⟩:=hf.slice;have g:=λW (hW:Below w.heap.size w W) p=>z1w W c (.slice ca c.threads.length cc) d (zh.below (xV.stays d) hc hW) p s _ _ (hs.below hW);have m:=λW (hW:Below w.heap.size w W)=>zkN df W f _ (hf.below hW) (by omega);have r:f.props.length<=200:=Nat.le_trans (zd8 f) R;have b:=λi=>zoS (c:=c) (s:=s) (ps:=f.props) (i:=i);unfold jZ;obtain⟨ps,z⟩:=qxE f.props;rw [<-z] at m r ⊢;simp only [<-z] at b;obtain⟨IS,C⟩:∃A,A=λp=>isS c p s:=⟨_,rfl⟩
 have e1:∀p,isS c p s=IS p:=λp=>by rw [C]
 rw [<-C];simp only [e1] at g b;clear z hc hs hf C e1;obtain⟨k,⟨p1,p2,p3,p4⟩,kids⟩:=f;unfold yj yB at g;unfold vI at m;unfold yj vI yB;simp only [Form.kind,Form.prop,Form.kids] at m V ⊢;clear R;generalize kids.length=kn at m V ⊢;generalize c.threads.length=cn at g hcn ⊢;generalize s.threads.length=tn at g htn ⊢;generalize s.mem.length=mn at g hmn ⊢;generalize c.vars=vars at g ⊢;generalize c.domain=dom at g ⊢;generalize s.bad=bd at g ⊢;clear c s kids;obtain⟨u,B⟩:=qxE ps.length;rw [<-B] at r b
 obtain⟨hB,h1,h2,h3⟩:=jX w (.cells #[I4 vars,I4 dom, .slice ca cn cc] 25) (.cells #[I4 k,I4 p1,I4 p2,I4 p3,I4 p4, .slice ka kn kc] 38) (.cells #[.slice ta tn tc, .slice ma mn mc, .bool bd] 61);have L:=qh hB;have N:=qh h1;have t:=qh h2;have M:=qh h3;have HIS:=qh g;have HPR:=qh m;have HNX:=qh b;have kP:=qh B;have HPN:=qh r;clear hB h1 h2 h3 g m b B r;go_enter Tryz.func40,Tryz.ntmps40
 go_upto_region 1 with fail
 generalize World.alloc (World.alloc (World.alloc w _) _) _=W at L N t M ⊢;obtain⟨l,Z⟩:=qxE w.heap.size;rw [<-Z] at N t M ⊢;clear Z;have hg2:l+1+1=l+2:=rfl
 have CC:J2 (∀y,Below W.heap.size W y->(K3 y l 0 (I4 vars)/\K3 y l 1 (I4 dom)/\K3 y l 2 (.slice ca cn cc))/\K3 y (l+2) 0 (.slice ta tn tc)/\K3 y (l+2) 1 (.slice ma mn mc)/\K3 y (l+2) 2 (.bool bd)):=λy j=>
  ⟨⟨zl j _ _ (ze N.o 0),zl j _ _ (ze N.o 1),zl j _ _ (ze N.o 2)⟩,zl j _ _ (ze M.o 0),zl j _ _ (ze M.o 1),zl j _ _ (ze M.o 2)⟩
 have f0:=ze t.o 0;have f1:=ze t.o 1;have f2:=ze t.o 2;have f3:=ze t.o 3;have f4:=ze t.o 4;have f5:=ze t.o 5;clear N t M;go_wp2_with(go_at_call 72;go_must(refine(HPR.o W L.o).mono ?_);rintro e X ⟨pv,rfl,T,a⟩;have HPO:=qh (j5.jB T);have HX:=qh a;(obtain⟨pa,pc,S,zBH⟩:=zoT HPO.o);rw [<-kP.o] at S zBH;subst S;clear T a);clear f0 f1 f2 f3 f4 f5;go_loopg [6,12] u (λgg s6 s12 wr=>∃(i:Nat) (I:Option Addr) (H:Nat),i<=u/\J2 (gg=u - i)/\s12=I4 i/\s6= .slice I i H/\J2 (wr.ownsRow X.heap.size 4 1 (.slice I i H) i (((ps.take i).map IS).map Value.bool))/\J2 (Below X.heap.size X wr))
 case atStart=>exact⟨0,none,0,Nat.zero_le _,rfl,rfl,rfl,World.ownsRow_nil _ _ _ _,Below.refl _ _⟩
 case round=>
 obtain⟨i,I,H,hi,HG,rfl,rfl,HOW,x⟩:=hrel;obtain⟨q,rfl⟩:=qxE (wr:World);have HZ:J2 (X.heap.size<=q.heap.size):=x.o.size;by_cases hlt:i<u
 rotate_left
 ·obtain rfl:u=i:=by omega
  go_wp2_with fail
  go_ret;refine⟨⟨I,u,H,by simp [kP.o],rfl, ?_⟩,L.o.trans ((zy HX.o x.o).mono L.o.size)⟩
  have h:=HOW.o;rw [List.take_of_length_le (Nat.le_of_eq kP.o.symm)] at h;exact qX h (Nat.le_trans L.o.size HX.o.size)
 have vC:(i:Int)<(u:Int):=by omega
 obtain⟨pb,po,U, -,G,F,E,D⟩:=zsg HPO.o i (by rw [<-kP.o];exact hlt);have HPE:=qh U;subst U;have b:=HNX.o i hlt;obtain⟨p,hp⟩:=qxE (ps.getD i ⟨0,0,0,0⟩);rw [<-hp] at G F E D b;have n:=λy (j:Below w.heap.size w y)=>HIS.o y j p;obtain⟨bt,Q⟩:=qxE (IS p);rw [<-Q] at b n;clear hp Q;obtain⟨q1,q2,q3,q4⟩:=p;unfold zF.val at n;simp only [] at G F E D n;have zBI:=qh b;have zBJ:=qh n
 have CP:J2 (∀y,Below X.heap.size X y->((K3 y l 0 (I4 vars)/\K3 y l 1 (I4 dom)/\K3 y l 2 (.slice ca cn cc))/\K3 y (l+2) 0 (.slice ta tn tc)/\K3 y (l+2) 1 (.slice ma mn mc)/\K3 y (l+2) 2 (.bool bd))/\
   K3 y pb (po+i*4) (I4 q1)/\K3 y pb (po+i*4+1) (I4 q2)/\K3 y pb (po+i*4+2) (I4 q3)/\K3 y pb (po+i*4+3) (I4 q4)):=λy j=>
  ⟨CC.o y (zy HX.o j),zl j _ _ G,zl j _ _ F,zl j _ _ E,zl j _ _ D⟩
 clear b n G F E D;obtain⟨⟨⟨c0,c1,c2⟩,c3,c4,c5⟩,G,F,E,D⟩:=CP.o q x.o;go_upto_region 4 with fail
 have HA:J2 (Below q.heap.size q (q.alloc (.cells #[I4 q1,I4 q2,I4 q3,I4 q4] 35))):=(Below.refl q.heap.size q).alloc (Nat.le_refl _) _;have J:=qh (zQ q (.cells #[I4 q1,I4 q2,I4 q3,I4 q4] 35));clear c0 c1 c2 c3 c4 c5 G F E D;generalize World.alloc q _=W3 at HA J ⊢;obtain⟨gm,K⟩:=qxE q.heap.size;rw [<-K] at J ⊢;clear K;obtain⟨⟨⟨c0,c1,c2⟩,c3,c4,c5⟩, -⟩:=CP.o W3 (zy x.o HA.o);have n0:=ze J.o 0;have n1:=ze J.o 1;have n2:=ze J.o 2;have n3:=ze J.o 3;have P:=zBJ.o W3 (zy L.o (zy HX.o (zy x.o HA.o)));have zBK:=qh P;clear P
 go_wp2_with(first|(go_at_call 73;go_must(refine(zBK.o).mono ?_);rintro e X4 ⟨rfl,a⟩;(have qZ:=qh (zy HA.o a));(have O:=qh (xD HOW.o qZ.o));(have HZ4:J2 (X.heap.size<=X4.heap.size):=Nat.le_trans HZ.o qZ.o.size);clear a)|(at_builtin;go_must(refine zO _ rfl _ _ 57 rfl 4 (.bool false) 1 1 Tryz.underlying57 zgd rfl (by decide) X.heap.size (.slice I i H) i (((ps.take i).map IS).map Value.bool) rfl (O.o.alloc _) ⟨X4.heap.size,0,none⟩ 1 1 [.bool bt] rfl rfl (zck X4 _ _) (by simp [Value.oneCell']) (by have:=HPN.o;unfold maxLen;omega) (by have:=HPN.o;omega) (by have:=HZ4.o;simp;omega) ?_);intro ja jc X5 k1 k2 k3 k4 k5 k6))
 go_roundg (u - (i+1))
 case measure=>rw [HG.o];omega
 case rel=>exact⟨i+1,ja,jc,by omega,rfl,by simp,rfl,by rw [J2, <-zBI.o];exact k1,(zy x.o qZ.o).trans (((Since.refl (λk=>(Value.slice I i H).ownBlock=some k) X4).alloc _|>.trans k4 (λ_ h=> .inl h)).below (Nat.le_trans x.o.size qZ.o.size) (λk e=>(O.o.lt k e).1))⟩
end Go.Proofs.YtmijlmglnnbdjaaGreatDoor
namespace Go.Proofs.YtmijlmglnnbdjaaGreatDoor
open Go.RowKit
set_option maxRecDepth 100000
set_option maxHeartbeats 16000000
def z0x (w:World) (b:List Bool) (cs:List Value):Prop:=∃v,cs= [v] /\yx w v b
structure zbL (W X:World) (gw:Nat) (v:Value) (ls:List (List Bool)) (css:List (List Value)) (bk:Int):Prop where
 below:Below W.heap.size W X
 lo:W.heap.size<=gw
 ap:v.ownBlock≠some gw
 box:X.heap[gw]? =some (.cells #[v,I4 bk] 87 (0,0))
 rows:qA (λk=>v.ownBlock=some k\/k=gw) X z0x 1 W.heap.size 57 v ls css
section
variable {W X X1 Y:World} {gw:Nat} {v v':Value} {ls:List (List Bool)} {css:List (List Value)} {bk:Int}
theorem zbL.start (b:Below W.heap.size W X):zbL W (X.alloc (.cells #[N7,I4 bk] 87)) X.heap.size (N7) [] [] bk:=
 ⟨zy b ((Below.refl _ _).alloc (Nat.le_refl _) _),b.size,by simp [Value.ownBlock],zQ X _,qA.nil _ _ _ _ _ _⟩
theorem zbL.call (h:zbL W X gw v ls css bk) (b:Below X.heap.size X Y):zbL W Y gw v ls css bk:=
 ⟨zy h.below b,h.lo,h.ap,(b.block _ (zA h.box)).trans h.box,h.rows.step (G:=λ_=>False) (xW _ b) (λ_ _ h=>h) (λ_ h=>h.elim) (λ_ c=> .inl c)⟩
theorem zbL.put (h:zbL W X gw v ls css bk) {o:Obj} {b:List Bool} {j:Value} {B:Nat} (g:X.ownsRow B 4 1 j b.length (b.map Value.bool)) (q:gw<B/\∀k,v.ownBlock=some k->k<B) (C:X1.ownsRow W.heap.size 57 1 v' (ls.length+1) (css.flatten++ [j])) (A:Since (λk=>v.ownBlock=some k) (X.alloc o) X1)
  (r:∀k,v'.ownBlock=some k->v.ownBlock=some k\/k=(X.alloc o).heap.size):zbL W (X1.setCell ⟨gw,0,none⟩ v') gw v' (ls++ [b]) (css++ [[j]]) bk/\X1.heap[gw]? =some (.cells #[v,I4 bk] 87 (0,0)):=by
 have l:Since (λk=>v.ownBlock=some k) X X1:=((Since.refl _ X).alloc o).trans A (λk c=> .inl c);have z:=zA h.box;have f:=(l.block _ z (λe=>h.ap e)).trans h.box
 have i:v'.ownBlock≠some gw:=λe=>by
  rcases r gw e with d|d
  ·exact h.ap d
  simp at d;omega
 have u:∀k,v'.ownBlock=some k->(v.ownBlock=some k\/k=gw)\/X.heap.size<=k:=λk c=>by
  rcases r k c with d|d
  ·exact .inl (.inl d)
  refine .inr ?_;simp at d;omega
 have m:yL (λk=>v.ownBlock=some k\/k=gw) X (λy=>z0x y b [j]):=λy t=>⟨j,rfl,yx.jB (t.row g (λk c e=>by
  have D:=(g.lt k c).1;rcases e with e|e
  ·have:=q.2 k e;omega
  have:=q.1;omega))⟩
 have x:=h.rows.push l (λk c=> .inl (.inl c)) (F':=λk=>v'.ownBlock=some k\/k=gw) (λk c=>c.elim (u k) (λe=> .inl (.inr e))) m rfl C;have n:=Since.setCell (F:=λk=>k=gw) (p:=⟨gw,0,none⟩) (Since.refl _ X1) (.inl rfl) v';refine⟨⟨(h.below.trans (l.below h.below.size (λk e=>(h.rows.row.lt k e).1))).trans (n.below (Nat.le_trans h.below.size l.size) (λk e=>e ▸ h.lo)),h.lo,i,zu f 0 v',x.step n (λk c e=>i (e ▸ c)) (λk c=> .inl (.inr c)) (λk c=> .inl c)⟩,f⟩
theorem zbL.letters {a:Option Addr} {n c:Nat} (h:zbL W X gw (.slice a n c) ls css bk):jy X (.slice a n c) ls:=by
 obtain⟨r,q,g,f⟩:=zh.slice h.rows.slice;refine⟨r,q,g,f,λj i=> ?_⟩
 obtain⟨b,d,cs,p,o,t,m,v,l,k⟩:=zh.part h.rows.slice j i;cases g
 subst l;refine⟨b,d,v,p,o, ?_,k⟩
 have:=m 0 (by omega)
 simpa using this
end
theorem z0S {c:zG} {m:zC} {d:Nat} {f:Form} {all:Bool} {l:List zw} {back:Int} {S:List zo} {g:Int} (h:(S,g)=yM c m l back d):
  ((g≠0\/f.fits=false\/(all=true/\gM c m l back d=false))->uw c m d f all l back=false)/\(g=0->f.fits=true->(all=true->gM c m l back d=true)->
   uw c m d f all l back= !(((f.truth f.props (S.map (jZ c f)) back.toNat)).getD 0 false)/\qK f (S.map (jZ c f)) back=true/\1<=(f.truth f.props (S.map (jZ c f)) back.toNat).length):=by
 have t:S=(yM c m l back d).1:=by rw [<-h]
 have r:g=(yM c m l back d).2:=by rw [<-h]
 subst t r
 have o:uw c m d f all l back=(f.fits && (!all||gM c m l back d) && (decide ((yM c m l back d).2=0) && !(f.sem f.props ((yM c m l back d).1.map (jZ c f)) back.toNat 0))):=by
  unfold uw gM;cases e:decide ((yM c m l back d).2=0)<;>simp
 rw [o];refine⟨λh=> ?_,λb i p=> ?_⟩
 ·rcases h with h|h|⟨h,q⟩
  ·rw [decide_eq_false h];simp
  ·rw [h];simp
  rw [h,q];simp
 have n:=zsh b i
 obtain⟨k,j⟩:=zsi (f:=f) (ls:=(yM c m l back d).1.map (jZ c f)) (bk:=back.toNat) (by
  rw [List.length_map,zfl b];exact(bQ (zbj b).1).2.1)
 refine⟨?_,n,j⟩
 rw [k,i,decide_eq_true b];cases all with
 |false=>simp
 |true=>rw [p rfl];simp
theorem zqW (w:World) (d c b f:Obj):Below w.heap.size w ((((w.alloc d).alloc c).alloc b).alloc f)/\((((w.alloc d).alloc c).alloc b).alloc f).heap[w.heap.size]? =some d/\((((w.alloc d).alloc c).alloc b).alloc f).heap[w.heap.size+1]? =some c/\((((w.alloc d).alloc c).alloc b).alloc f).heap[w.heap.size+2]? =some b/\((((w.alloc d).alloc c).alloc b).alloc f).heap[w.heap.size+3]? =some f:=by
 obtain⟨l,j,i,h⟩:=jX w d c b;have g:=(Below.refl (((w.alloc d).alloc c).alloc b).heap.size (((w.alloc d).alloc c).alloc b)).alloc (Nat.le_refl _) f;have k:(((w.alloc d).alloc c).alloc b).heap.size=w.heap.size+3:=by simp
 refine⟨zy l g,(g.block _ (zA j)).trans j,(g.block _ (zA i)).trans i,(g.block _ (zA h)).trans h, ?_⟩
 rw [<-k];exact zQ _ f
theorem zxa {α β:Type} [Inhabited α] {l:List α} {i:Nat} {f:α->β} (b:i<l.length):(l.take i).map f++ [f (l.getD i default)] =(l.take (i+1)).map f:=by
 rw [List.take_succ_eq_append_getElem b,List.map_append,List.getD_eq_getElem?_getD,List.getElem?_eq_getElem b];rfl
theorem zqX:(Tryz.prog.info? 57).map (λi=>(i.zero,i.size,i.bytes))=some (some (N7),1,24):=by kernel_rfl
