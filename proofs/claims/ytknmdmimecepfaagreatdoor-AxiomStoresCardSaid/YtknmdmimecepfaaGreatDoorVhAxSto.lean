/- Steps. -/
import Derived.Test.YtknmdmimecepfaaGreatDoorVhAxEvs
set_option linter.all false
namespace Go.Proofs.YtknmdmimecepfaaGreatDoor
open Go.RowKit
set_option maxRecDepth 100000
set_option maxHeartbeats 16000000
def zdh (x:zi):Prop:=x.op=2/\x.a.kind=1
def jP (x:zi) (b:Bool):zP:=⟨x.var,x.a.n,false,true,false,b⟩
def zd6 (c:zl):Prop:=∀i,i<c.threads.length->∀k,k<(c.threads.getD i []).length->zdh ((c.threads.getD i []).getD k default)
theorem vW {x:zi} (h:zdh x) (model:Int):xK model x.op=true:=by rw [h.1];rfl
theorem zol {x:zi} (h:zdh x) (dom:Int) (d:Nat) (regs:List Int):yP dom (d+1) regs x=jP x false:=by
 unfold yP
 rw [if_neg (by rw [h.1];omega),if_pos h.1]
 unfold yt
 rw [if_pos h.2];rfl
theorem zdi {m1 m2 dom:Int} {d:Nat} {l:List zi} (h:∀k,k<l.length->zdh (l.getD k default)) {i:Nat} :∀(n:Nat) (W:za),zO m1 dom d l i n W=zO m2 dom d l i n W:=by
 intro n
 induction n with
 |zero=>
  intro W
  show zB m1 dom d l i l.length W=zB m2 dom d l i l.length W
  rw [qA (λhl=>vW (h _ hl) m1),qA (λhl=>vW (h _ hl) m2)]
 |succ n ih=>
 intro W
 unfold zO
 rw [qA (λhl=>vW (h _ hl) m1),qA (λhl=>vW (h _ hl) m2)]
 split
 ·split
  ·rfl
  exact ih _
 rfl
theorem zdj {c:zl} (h:zd6 c) (m1 m2:Int) (d:Nat):∀i,i<=c.threads.length->yI c m1 d i=yI c m2 d i:=by
 intro i
 induction i with
 |zero=>intro _;rfl
 |succ i ih=>
 intro hi
 show zO m1 _ _ _ _ _ (yI c m1 d i)=zO m2 _ _ _ _ _ (yI c m2 d i)
 rw [ih (by omega),zdi (m1:=m1) (m2:=m2) (h i (by omega))]
structure zqX (l:List zi) (t:zH):Prop where
 at_:t.at_=l.length
 many:t.many=l.length
 evs:∀k,k<l.length->t.evs.getD k default=jP (l.getD k default) (t.evs.getD k default).come
theorem jy {α:Type} {l:List α} {k:Nat} {x d:α} (h:k<l.length):(l.set k x).getD k d=x:=by
 rw [List.getD_eq_getElem?_getD,List.getElem?_set_self h];rfl
theorem je {α:Type} {l:List α} {k j:Nat} {x d:α} (h:k≠j):(l.set k x).getD j d=l.getD j d:=by
 rw [List.getD_eq_getElem?_getD,List.getElem?_set_ne h, <-List.getD_eq_getElem?_getD]
theorem zjz {model dom:Int} {d:Nat} {l:List zi} (h:∀k,k<l.length->zdh (l.getD k default)) (h8:l.length<=8) {i:Nat} (hi:i<4):∀(n:Nat) (W:za),W.ok->(W.th i).at_=(W.th i).many->(W.th i).at_<=l.length->l.length<=(W.th i).at_+n->
  (∀k,k<(W.th i).many->(W.th i).evs.getD k default=jP (l.getD k default) false)->
  (((zO model dom (d+1) l i n W).th i).at_=l.length/\((zO model dom (d+1) l i n W).th i).many=l.length/\∀k,k<l.length->((zO model dom (d+1) l i n W).th i).evs.getD k default=jP (l.getD k default) false)/\(zO model dom (d+1) l i n W).mem=W.mem/\(zO model dom (d+1) l i n W).fails=W.fails:=by
 intro n
 induction n with
 |zero=>
  intro W hok ha hle hn hev
  have e:zO model dom (d+1) l i 0 W=W:=by
   show zB model dom (d+1) l i l.length W=W
   exact qA (λhl=>vW (h _ hl) model) _
  rw [e]
  exact⟨⟨by omega,by omega,λk hk=>hev k (by omega)⟩,rfl,rfl⟩
 |succ n ih=>
 intro W hok ha hle hn hev
 unfold zO
 rw [qA (λhl=>vW (h _ hl) model)]
 by_cases hl:(W.th i).at_<l.length
 rotate_left
 ·rw [if_neg hl]
  exact⟨⟨by omega,by omega,λk hk=>hev k (by omega)⟩,rfl,rfl⟩
 rw [if_pos hl,zol (h _ hl),if_neg (by simp [jP])]
 have wN:(W.th i).many<8:=by omega
 have hp:=za.wm hok hi (jP (l.getD (W.th i).at_ default) false)
 have hok1:(W.yh i (jP (l.getD (W.th i).at_ default) false)).ok:=by
  unfold za.yh
  exact za.zad (za.kU hok hi _ _) hi (by omega)
 have hs:=za.yT hok1 hi ((W.th i).at_+1)
 rw [hp] at hs
 obtain⟨a,b,e⟩:=ih ((W.yh i (jP (l.getD (W.th i).at_ default) false)).setAt i ((W.th i).at_+1)) (za.qZ hok1 hi _) (by rw [hs];show(W.th i).at_+1=(W.th i).many+1;omega) (by rw [hs];show(W.th i).at_+1<=_;omega) (by rw [hs];show _<=(W.th i).at_+1+n;omega) (by
  rw [hs]
  intro k hk
  have hk:k<(W.th i).many+1:=hk
  show((W.th i).evs.set (W.th i).many _).getD k default=_
  by_cases e:k=(W.th i).many
  ·subst e
   rw [jy (by rw [(za.yu hok hi).evs];exact wN), <-ha]
  rw [je (λh=>e h.symm)]
  exact hev k (by omega))
 exact⟨a,b,e⟩
structure zbu (c:zl) (A:za):Prop where
 ok:A.ok
 th:∀i,i<c.threads.length->zqX (c.threads.getD i []) (A.th i)
theorem zdX {c:zl} (hc:codeOk c=true) (hf:yw c=true) (hs:zd6 c) (hev:zY c c.threads.length<=8) {model:Int} {d:Nat} :∀n,n<=c.threads.length->
  (∀i,i<n->((yI c model (d+1) n).th i).at_=(c.threads.getD i []).length/\((yI c model (d+1) n).th i).many=(c.threads.getD i []).length/\∀k,k<(c.threads.getD i []).length->((yI c model (d+1) n).th i).evs.getD k default=jP ((c.threads.getD i []).getD k default) false)/\(yI c model (d+1) n).mem= [0,0,0,0] /\(yI c model (d+1) n).fails=false:=by
 have hb:=zZ hc
 intro n
 induction n with
 |zero=>intro _;exact⟨λi hi=>by omega,rfl,rfl⟩
 |succ n ih=>
 intro hn
 obtain⟨h1,h2,h3⟩:=ih (by omega)
 have hst:=vG (model:=model) (d:=d+1) hc hf hev n (by omega)
 have h0:=hst.rest n (Nat.le_refl _) (by omega)
 have hlen:(c.threads.getD n []).length<=8:=by
  have e:cntF 2 (c.threads.getD n []) 0=(c.threads.getD n []).length:=by
   unfold cntF
   rw [List.drop_zero,List.countP_eq_length]
   intro x hx
   obtain⟨k,hk,rfl⟩:=List.getElem_of_mem hx
   have:=vW (hs n (by omega) k hk) 2
   rwa [List.getD_eq_getElem?_getD,List.getElem?_eq_getElem hk] at this
  have:=zbA (c:=c) (i:=n) (by omega)
  omega
 have hbg:=zjz (model:=model) (dom:=c.domain) (d:=d) (hs n (by omega)) hlen (show n<4 by omega) (c.threads.getD n []).length (yI c model (d+1) n) hst.v.ok (by rw [h0];rfl) (by rw [h0];exact Nat.zero_le _) (by omega) (λk hk=>by rw [h0] at hk;exact absurd hk (Nat.not_lt_zero _))
 obtain⟨a,b,e⟩:=hbg
 refine⟨λi hi=> ?_,b.trans h2,e.trans h3⟩
 by_cases e:i=n
 ·subst e;exact a
 have hne:(yI c model (d+1) (n+1)).th i=(yI c model (d+1) n).th i:=uG (Ne.symm e) _ _
 rw [hne]
 exact h1 i (by omega)
theorem zat {c:zl} (hc:codeOk c=true) (hf:yw c=true) (hs:zd6 c) (hev:zY c c.threads.length<=8) {model:Int} {d:Nat} :zbu c (yI c model (d+1) c.threads.length):=by
 obtain⟨h1,h2,h3⟩:=zdX (model:=model) (d:=d) hc hf hs hev _ (Nat.le_refl _)
 refine⟨(vG (model:=model) (d:=d+1) hc hf hev _ (Nat.le_refl _)).v.ok,λi hi=> ?_⟩
 obtain⟨a,b,e⟩:=h1 i hi
 exact⟨a,b,λk hk=>by rw [e k hk];rfl⟩
theorem zcj {c:zl} {model:Int} {d:Nat} {A:za} (h:zbu c A) {i:Nat} (hi:i<c.threads.length):xD model c.domain d (c.threads.getD i []) A i=false:=by
 unfold xD
 rw [decide_eq_false (by rw [(h.th i hi).at_];omega)];rfl
theorem zg9 (x:zi) (b:Bool):(jP x b).did=jP x true:=rfl
theorem zbv {c:zl} (h4:c.threads.length<=4) {A:za} (h:zbu c A) {i k:Nat} (hi:i<c.threads.length) (hk:k<(c.threads.getD i []).length):zbu c (zF A i k):=by
 have hi4:i<4:=by omega
 have hth:=zaQ h.ok (k:=k) hi4
 have hok:(zF A i k).ok:=by
  unfold zF
  split
  ·exact za.wI (za.kU h.ok hi4 _ _) _ _
  exact za.kU h.ok hi4 _ _
 refine⟨hok,λj hj=> ?_⟩
 by_cases e:j=i
 ·subst e
  have ht:=h.th j hj
  rw [hth]
  refine⟨ht.at_,ht.many,λq hq=> ?_⟩
  show((A.th j).evs.set k _).getD q default=jP _ (((A.th j).evs.set k _).getD q default).come
  by_cases e:k=q
  ·subst e
   have hl8:k<(A.th j).evs.length:=by rw [(za.yu h.ok hi4).evs];have:=(za.yu h.ok hi4).many;rw [ht.many] at this;omega
   rw [jy hl8,ht.evs k hk,zg9];rfl
  rw [je e];exact ht.evs q hq
 rw [uH (λh=>e h.symm)];exact h.th j hj
theorem zj0 {m1 m2:Int} {t:zH} {k:Nat} {e:zP} (h:∀j,j<k->jS m2 (t.evs.getD j default) e=true->jS m1 (t.evs.getD j default) e=true) (hm:wz m1 t k e=true):wz m2 t k e=true:=by
 unfold wz at hm ⊢
 simp only [Bool.not_eq_true',List.any_eq_false] at hm ⊢
 intro j hj hh
 have h1:=hm j hj
 rw [Bool.and_eq_true] at hh h1
 exact h1 ⟨hh.1,h j (by simpa using hj) hh.2⟩
theorem zkK {m1 m2:Int} (hm:(m1=0/\m2=1)\/(m1=1/\m2=2)) (x y:zi) (a b:Bool) (h:jS m2 (jP x a) (jP y b)=true):jS m1 (jP x a) (jP y b)=true:=by
 rcases hm with⟨rfl,rfl⟩|⟨rfl,rfl⟩
 ·rfl
 rfl
theorem zj1 {x y:zi} (h:x.var=y.var) (a b:Bool):jS 2 (jP x a) (jP y b)=true:=by
 have e:decide (x.var=y.var)=true:=decide_eq_true h
 show(_||_||_||_||(!false && (_||decide (x.var=y.var))))=true
 rw [e];simp
theorem zmC {c:zl} {m1 m2:Int} (hm:(m1=0/\m2=1)\/(m1=1/\m2=2)) {A:za} (h:zbu c A) {i k:Nat} (hi:i<c.threads.length) (hk:k<(c.threads.getD i []).length) (hw:yJ m1 A i k=true):yJ m2 A i k=true:=by
 have ht:=h.th i hi
 unfold yJ at hw ⊢
 rw [Bool.and_eq_true] at hw ⊢
 refine⟨hw.1,zj0 (λj hj hh=> ?_) hw.2⟩
 rw [ht.evs j (by omega),ht.evs k hk] at hh ⊢
 exact zkK hm _ _ _ _ hh
theorem zj2 {c:zl} (h4:c.threads.length<=4) {m1 m2:Int} (hm:(m1=0/\m2=1)\/(m1=1/\m2=2)) {d:Nat} {A B:za} (hr:xX c m1 d A B) (h:zbu c A):xX c m2 d A B:=by
 induction hr with
 |refl=>exact .refl _
 | @step A B C hs _ ih=>
 rcases hs with⟨i,hi,hmr, -⟩|⟨i,k,hi,hk,hmw,rfl⟩
 ·rw [zcj h hi] at hmr;cases hmr
 have hk2:k<(c.threads.getD i []).length:=by rw [<-(h.th i hi).many];exact hk
 exact .step (.inr ⟨i,k,hi,hk,zmC hm h hi hk2 hmw,rfl⟩) (ih (zbv h4 h hi hk2))
theorem zkL {c:zl} (hc:codeOk c=true) {model:Int} {d:Nat} :∀(n:Nat) (A:za),qF c model A->zbu c A->yg c model A<n->∃B,xX c model d A B/\yS c B=true:=by
 have hb:=zZ hc
 intro n
 induction n with
 |zero=>intro A _ _ h;omega
 |succ n ih=>
 intro A hg hs hn
 by_cases hd:yS c A=true
 ·exact⟨A, .refl _,hd⟩
 have hex:∃i k,i<c.threads.length/\k<(A.th i).many/\yJ model A i k=true:=by
  apply Classical.byContradiction
  intro hno
  apply hd
  unfold yS jQ
  rw [List.all_eq_true]
  intro i hi
  have hi:i<c.threads.length:=by simpa using hi
  have ht:=hs.th i hi
  unfold wK
  rw [decide_eq_true (by rw [ht.at_];exact Nat.le_refl _),Bool.true_and]
  simp only [Bool.not_eq_true',List.any_eq_false]
  have hall:∀k,k<=(A.th i).many->∀j,j<k->((A.th i).evs.getD j default).come=true:=by
   intro k
   induction k with
   |zero=>intro _ j hj;omega
   |succ k ihk=>
   intro hk j hj
   have zes:=ihk (by omega)
   rcases Nat.lt_or_ge j k with hl|hl
   ·exact zes j hl
   obtain rfl:j=k:=by omega
   cases hcm:((A.th i).evs.getD j default).come with
   |true=>rfl
   |false=>
   exfalso
   apply hno
   refine⟨i,j,hi,by omega, ?_⟩
   unfold yJ wz
   rw [hcm]
   simp only [Bool.not_false,Bool.true_and,Bool.not_eq_true',List.any_eq_false]
   intro q hq
   rw [zes q (by simpa using hq)]
   simp
  intro j hj
  rw [hall _ (Nat.le_refl _) j (by simpa using hj)]
  simp
 obtain⟨i,k,hi,hk,hm⟩:=hex
 obtain⟨g1,g2⟩:=vX hc hg hi hk hm
 obtain⟨B,h1,h2⟩:=ih _ g1 (zbv (by omega) hs hi (by rw [<-(hs.th i hi).many];exact hk)) (by omega)
 exact⟨B, .step (.inr ⟨i,k,hi,hk,hm,rfl⟩) h1,h2⟩
def xA (l:List zi) (v:Int):Nat->Int
 |0=> -1
 |k+1=>if (l.getD k default).var=v then(l.getD k default).a.n else xA l v k
structure zdB (c:zl) (A:za):Prop where
 w:zbu c A
 order:∀i,i<c.threads.length->∀j k,j<k->k<(c.threads.getD i []).length->((c.threads.getD i []).getD j default).var=((c.threads.getD i []).getD k default).var->((A.th i).evs.getD k default).come=true->((A.th i).evs.getD j default).come=true
 val:∀v:Nat,v<4->((∀i,i<c.threads.length->∀k,k<(c.threads.getD i []).length->((c.threads.getD i []).getD k default).var=(v:Int)->((A.th i).evs.getD k default).come=false)/\A.mem.getD v 0=0)\/
  ∃i k,i<c.threads.length/\k<(c.threads.getD i []).length/\((c.threads.getD i []).getD k default).var=(v:Int)/\((A.th i).evs.getD k default).come=true/\A.mem.getD v 0=((c.threads.getD i []).getD k default).a.n/\
   ∀j,k<j->j<(c.threads.getD i []).length->((c.threads.getD i []).getD j default).var=(v:Int)->((A.th i).evs.getD j default).come=false
theorem zhM {c:zl} (h4:c.threads.length<=4) {A:za} (h:zdB c A) {i k:Nat} (hi:i<c.threads.length) (hk:k<(c.threads.getD i []).length) (hv0:0<=((c.threads.getD i []).getD k default).var/\((c.threads.getD i []).getD k default).var<4) (hm:yJ 2 A i k=true):zdB c (zF A i k):=by
 have hi4:i<4:=by omega
 have ht:=h.w.th i hi
 have hth:=zaQ h.w.ok (k:=k) hi4
 have ztd:(c.threads.getD i []).length<=8:=by have:=(za.yu h.w.ok hi4).many;rw [<-ht.many];exact this
 have hel:(A.th i).evs.length=8:=(za.yu h.w.ok hi4).evs
 have hek:=ht.evs k hk
 have zb9:((A.th i).evs.getD k default).come=false:=by
  unfold yJ at hm
  simp only [Bool.and_eq_true,Bool.not_eq_true'] at hm
  exact hm.1
 have hne:∀j,j≠i->(zF A i k).th j=A.th j:=λj hj=>uH (Ne.symm hj)
 have hcm:∀q,((zF A i k).th i).evs.getD q default=if q=k then jP ((c.threads.getD i []).getD k default) true else(A.th i).evs.getD q default:=λq=>by
  rw [hth]
  show((A.th i).evs.set k _).getD q default=_
  by_cases e:q=k
  ·subst e;rw [if_pos rfl,jy (by omega),hek,zg9]
  rw [if_neg e,je (λh=>e h.symm)]
 have hmem:(zF A i k).mem=A.mem.set ((c.threads.getD i []).getD k default).var.toNat ((c.threads.getD i []).getD k default).a.n:=by
  unfold zF
  rw [hek]
  simp only [jP,if_true];rfl
 have zes:∀j,j<k->((c.threads.getD i []).getD j default).var=((c.threads.getD i []).getD k default).var->((A.th i).evs.getD j default).come=true:=λj hj hv=>by
  have hm2:=hm
  unfold yJ wz at hm2
  simp only [Bool.and_eq_true,Bool.not_eq_true',List.any_eq_false] at hm2
  have h1:=hm2.2 j (by simpa using hj)
  cases hc2:((A.th i).evs.getD j default).come with
  |true=>rfl
  |false=>
  exfalso
  apply h1
  rw [hc2]
  refine⟨rfl, ?_⟩
  rw [ht.evs j (by omega),hek]
  exact zj1 hv _ _
 have hnext:∀j,k<j->j<(c.threads.getD i []).length->((c.threads.getD i []).getD k default).var=((c.threads.getD i []).getD j default).var->((A.th i).evs.getD j default).come=false:=λj hj hjl hv=>by
  cases hc2:((A.th i).evs.getD j default).come with
  |false=>rfl
  |true=>rw [h.order i hi k j hj hjl hv hc2] at zb9;cases zb9
 refine⟨zbv h4 h.w hi hk,λj hj p q hpq hq hv hcq=> ?_,λv hv=> ?_⟩
 ·by_cases e:j=i
  ·subst e
   rw [hcm] at hcq ⊢
   by_cases e1:p=k
   ·subst e1;rw [if_pos rfl];rfl
   rw [if_neg e1]
   by_cases e2:q=k
   ·subst e2;exact zes p hpq hv
   rw [if_neg e2] at hcq;exact h.order j hj p q hpq hq hv hcq
  rw [hne j e] at hcq ⊢;exact h.order j hj p q hpq hq hv hcq
 rw [hmem]
 by_cases ev:((c.threads.getD i []).getD k default).var=(v:Int)
 ·refine .inr ⟨i,k,hi,hk,ev,by rw [hcm,if_pos rfl];rfl,by rw [ev,Int.toNat_natCast];exact jy (by rw [h.w.ok.mem];exact hv),λj hj hjl hjv=> ?_⟩
  rw [hcm,if_neg (by omega)]
  exact hnext j hj hjl (ev.trans hjv.symm)
 have hmv:(A.mem.set ((c.threads.getD i []).getD k default).var.toNat ((c.threads.getD i []).getD k default).a.n).getD v 0=A.mem.getD v 0:=je (by omega)
 rw [hmv]
 rcases h.val v hv with⟨h1,h2⟩|⟨p,q,hp,hq,h1,h2,h3,h4⟩
 ·refine .inl ⟨λp hp q hq hv2=> ?_,h2⟩
  by_cases e:p=i
  ·subst e
   rw [hcm,if_neg (λe=>ev (by rw [<-e];exact hv2))];exact h1 p hp q hq hv2
  rw [hne p e];exact h1 p hp q hq hv2
 refine .inr ⟨p,q,hp,hq,h1, ?_,h3,λj hj hjl hjv=> ?_⟩
 ·by_cases e:p=i
  ·subst e
   rw [hcm,if_neg (λe=>ev (by rw [<-e];exact h1))];exact h2
  rw [hne p e];exact h2
 by_cases e:p=i
 ·subst e
  rw [hcm,if_neg (λe=>ev (by rw [<-e];exact hjv))];exact h4 j hj hjl hjv
 rw [hne p e];exact h4 j hj hjl hjv
theorem zhN {c:zl} (hc:codeOk c=true) {d:Nat} {A B:za} (hr:xX c 2 d A B) (hv:∀i,i<c.threads.length->∀k,k<(c.threads.getD i []).length->0<=((c.threads.getD i []).getD k default).var/\((c.threads.getD i []).getD k default).var<4) (h:zdB c A):zdB c B:=by
 have hb:=zZ hc
 induction hr with
 |refl=>exact h
 | @step A B C hs _ ih=>
 rcases hs with⟨i,hi,hmr, -⟩|⟨i,k,hi,hk,hmw,rfl⟩
 ·rw [zcj h.w hi] at hmr;cases hmr
 have hk2:k<(c.threads.getD i []).length:=by rw [<-(h.w.th i hi).many];exact hk
 exact ih (zhM (by omega) h hi hk2 (hv i hi k hk2) hmw)
theorem zmD {l:List zi} {v:Int} :∀n,(∀k,k<n->(l.getD k default).var≠v)->xA l v n= -1:=by
 intro n
 induction n with
 |zero=>intro _;rfl
 |succ n ih=>intro h;show(if _ then _ else _)=_;rw [if_neg (h n (by omega))];exact ih λk hk=>h k (by omega)
theorem zmE {l:List zi} {v:Int} {k:Nat} (hk:(l.getD k default).var=v):∀n,k<n->(∀j,k<j->j<n->(l.getD j default).var≠v)->xA l v n=(l.getD k default).a.n:=by
 intro n
 induction n with
 |zero=>intro h;omega
 |succ n ih=>
 intro hkn h
 show(if _ then _ else _)=_
 by_cases e:k=n
 ·subst e;rw [if_pos hk]
 rw [if_neg (h n (by omega) (by omega))];exact ih (by omega) λj h1 h2=>h j h1 (by omega)
theorem zkM {c:zl} {A:za} (h:zdB c A) (hd:yS c A=true) {v:Nat} (hv:v<4):
  ((∀i,i<c.threads.length->xA (c.threads.getD i []) v (c.threads.getD i []).length= -1)/\A.mem.getD v 0=0)\/
  ∃i k,i<c.threads.length/\k<(c.threads.getD i []).length/\xA (c.threads.getD i []) v (c.threads.getD i []).length=((c.threads.getD i []).getD k default).a.n/\A.mem.getD v 0=xA (c.threads.getD i []) v (c.threads.getD i []).length:=by
 have hall:∀i,i<c.threads.length->∀k,k<(c.threads.getD i []).length->((A.th i).evs.getD k default).come=true:=λi hi k hk=>(zaC (zdy hd hi)).2 k (by rw [(h.w.th i hi).many];exact hk)
 rcases h.val v hv with⟨h1,h2⟩|⟨i,k,hi,hk,h1,h2,h3,h4⟩
 ·refine .inl ⟨λi hi=>zmD _ λk hk e=> ?_,h2⟩
  have:=h1 i hi k hk e
  rw [hall i hi k hk] at this;cases this
 have hl:xA (c.threads.getD i []) v (c.threads.getD i []).length=((c.threads.getD i []).getD k default).a.n:=zmE h1 _ hk λj hj hjl e=>by
  have:=h4 j hj hjl e
  rw [hall i hi j hjl] at this;cases this
 exact .inr ⟨i,k,hi,hk,hl,by rw [hl];exact h3⟩
theorem zhO {c:zl} (hc:codeOk c=true) (hf:yw c=true) (hs:zd6 c) (hev:zY c c.threads.length<=8) {model:Int} {d:Nat} :zdB c (yI c model (d+1) c.threads.length):=by
 obtain⟨h1,h2, -⟩:=zdX (model:=model) (d:=d) hc hf hs hev _ (Nat.le_refl _)
 refine⟨zat hc hf hs hev,λi hi j k hj hk _ hcm=> ?_,λv hv=> .inl ⟨λi hi k hk _=> ?_, ?_⟩⟩
 ·rw [(h1 i hi).2.2 k hk] at hcm;cases hcm
 ·rw [(h1 i hi).2.2 k hk];rfl
 rw [h2]
 have:v=0\/v=1\/v=2\/v=3:=by omega
 rcases this with rfl|rfl|rfl|rfl<;>rfl
