/- Steps. -/
import Derived.Test.YtknmdmimecepfaaGreatDoorVhAxEnd
set_option linter.all false
namespace Go.Proofs.YtknmdmimecepfaaGreatDoor
open Go.RowKit
set_option maxRecDepth 100000
set_option maxHeartbeats 16000000
structure zab (dom:Int) (l:List zi):Prop where
 good:wh l
 len:l.length<=600
 a:∀k,k<l.length->((l.getD k default).op=2\/(l.getD k default).op=3\/(l.getD k default).op=6)->zS dom 20 (l.getD k default).a=true
 b:∀k,k<l.length->(l.getD k default).op=6->zS dom 20 (l.getD k default).b=true
theorem wu {c:zl} (h:codeOk c=true) (hf:yw c=true) {i:Nat} (hi:i<c.threads.length):zab c.domain (c.threads.getD i []):=by
 have hb:=zZ h
 have hlen:(c.threads.getD i []).length<=600:=by
  unfold codeOk at h
  simp only [Bool.and_eq_true] at h
  have h1:=h.2
  rw [List.all_eq_true] at h1
  have h2:=h1 _ (zV (x:= []) hi)
  unfold rowOk at h2
  simp only [Bool.and_eq_true,decide_eq_true_eq] at h2
  exact h2.1
 have hfit:∀k,k<(c.threads.getD i []).length->gQ c.vars c.domain (kindOf ((c.threads.getD i []).getD k default).op) (gT ((c.threads.getD i []).getD k default).op (c.threads.getD i []).length) ((c.threads.getD i []).getD k default)=true:=λk hk=>by
  rw [<-zcg];exact ziA h hi hk
 have hpart:∀k,k<(c.threads.getD i []).length->vC (kindOf ((c.threads.getD i []).getD k default).op) ((c.threads.getD i []).getD k default).reg ((c.threads.getD i []).getD k default).var ((c.threads.getD i []).getD k default).a ((c.threads.getD i []).getD k default).b c.vars c.domain=true/\((c.threads.getD i []).getD k default).dest<=gT ((c.threads.getD i []).getD k default).op (c.threads.getD i []).length:=λk hk=>by
  have:=hfit k hk
  unfold gQ at this
  simp only [Bool.and_eq_true,decide_eq_true_eq] at this
  exact⟨this.2,this.1.2⟩
 refine⟨λk hk=> ?_,hlen,λk hk ho=> ?_,λk hk ho=> ?_⟩
 ·obtain⟨hp,hd⟩:=hpart k hk
  unfold vC at hp
  simp only [Bool.and_eq_true] at hp
  refine⟨?_, ?_,λhl=> ?_⟩
  ·have:=hp.1.1.1
   unfold zh5 at this
   split at this
   ·simpa using this
   have h0:=of_decide_eq_true this;omega
  ·have:=hp.1.1.2
   unfold zh6 at this
   split at this
   ·simp only [Bool.and_eq_true,decide_eq_true_eq] at this;omega
   have h0:=of_decide_eq_true this;omega
  unfold yw at hf
  rw [List.all_eq_true] at hf
  have h1:=hf i (by simpa using hi)
  rw [List.all_eq_true] at h1
  have h2:=h1 k (by simpa using hk)
  rw [hl] at h2
  simp only [Bool.not_true,Bool.false_or,decide_eq_true_eq] at h2
  refine⟨h2, ?_⟩
  unfold gT at hd
  unfold xL at hl
  simp only [Bool.or_eq_true,decide_eq_true_eq] at hl
  rw [if_pos hl] at hd
  exact hd
 ·obtain⟨hp, -⟩:=hpart k hk
  unfold vC at hp
  simp only [Bool.and_eq_true] at hp
  have:=hp.1.2
  unfold zh7 at this
  rw [if_pos (by rcases ho with ho|ho|ho<;>(rw [ho];rfl))] at this
  exact this
 obtain⟨hp, -⟩:=hpart k hk
 unfold vC at hp
 simp only [Bool.and_eq_true] at hp
 have:=hp.2
 unfold zh8 at this
 rw [if_pos (by rw [ho];rfl)] at this
 exact this
structure zd0 (dom:Int) (e:zP):Prop where
 v:0<=e.v/\e.v<4
 n:0<=e.n/\e.n<dom
structure zhm (dom:Int) (t:zH):Prop where
 ok:t.ok
 regs:∀x∈t.regs,0<=x/\x<dom
 evs:∀e∈t.evs,zd0 dom e
structure xQ (dom:Int) (A:za):Prop where
 ok:A.ok
 mem:∀x∈A.mem,0<=x/\x<dom
 zD:∀t∈A.zD,zhm dom t
section
variable {dom:Int} {A:za} (h:xQ dom A) {i:Nat} (hi:i<4)
include h
theorem xQ.xq {x:Int} (v:Nat) (hx:0<=x/\x<dom):xQ dom (A.xq v x):=⟨za.wI h.ok v x,λy hy=>by
 rcases kJ hy with rfl|hy
 ·exact hx
 exact h.mem y hy,h.zD⟩
theorem xQ.qo (b:Bool):xQ dom (A.qo b):=⟨za.bK h.ok b,h.mem,h.zD⟩
theorem xQ.put {t:zH} (i:Nat) (ht:zhm dom t):xQ dom (A.put i t):=⟨za.za9 h.ok i ht.ok,h.mem,λy hy=>by
 rcases kJ hy with rfl|hy
 ·exact ht
 exact h.zD y hy⟩
include hi
theorem xQ.th:zhm dom (A.th i):=h.zD _ (qX (by rw [h.ok.zD];exact hi))
theorem xQ.reg {k:Nat} (hk:k<4):zcA dom ((A.th i).regs.getD k 0)=true:=by
 have ht:=h.th hi
 rw [vS]
 exact ht.regs _ (zV (x:=0) (by rw [ht.ok.regs];exact hk))
theorem xQ.eval (hd:1<=dom) {x:zC} (hx:zS dom 20 x=true) (d:Nat):0<=yt (A.th i).regs dom d x/\yt (A.th i).regs dom d x<dom:=by
 have:=zmt hd (λk hk=>h.reg hi hk) hx d
 rwa [vS] at this
theorem xQ.setAt (a:Nat):xQ dom (A.setAt i a):=h.put i ⟨⟨(h.th hi).ok.regs,(h.th hi).ok.evs,(h.th hi).ok.many⟩,(h.th hi).regs,(h.th hi).evs⟩
theorem xQ.zN {x:Int} (k:Nat) (hx:0<=x/\x<dom):xQ dom (A.zN i k x):=h.put i ⟨⟨by rw [List.length_set];exact(h.th hi).ok.regs,(h.th hi).ok.evs,(h.th hi).ok.many⟩,λy hy=>by
 rcases kJ hy with rfl|hy
 ·exact hx
 exact(h.th hi).regs y hy,(h.th hi).evs⟩
theorem xQ.yF {e:zP} (j:Nat) (he:zd0 dom e):xQ dom (A.yF i j e):=h.put i ⟨⟨(h.th hi).ok.regs,by rw [List.length_set];exact(h.th hi).ok.evs,(h.th hi).ok.many⟩,(h.th hi).regs,λy hy=>by
 rcases kJ hy with rfl|hy
 ·exact he
 exact(h.th hi).evs y hy⟩
theorem xQ.setMany {n:Nat} (hn:n<=8):xQ dom (A.setMany i n):=h.put i ⟨⟨(h.th hi).ok.regs,(h.th hi).ok.evs,hn⟩,(h.th hi).regs,(h.th hi).evs⟩
theorem xQ.yh {e:zP} (he:zd0 dom e) (hm:(A.th i).many<8):xQ dom (A.yh i e):=by
 unfold za.yh
 exact(h.yF hi _ he).setMany hi (by omega)
theorem xQ.one (hd:1<=dom) {l:List zi} (hl:zab dom l) {k:Nat} (hk:k<l.length) (d:Nat):xQ dom (yY dom d (l.getD k default) i A):=by
 unfold yY
 split
 ·rename_i h3
  exact(h.setAt hi _).zN hi _ (h.eval hi hd (hl.a k hk (.inr (.inl h3))) d)
 split
 ·exact(h.setAt hi _).qo _
 split
 ·exact h.setAt hi _
 exact h.setAt hi _
theorem xQ.yP (hd:1<=dom) {l:List zi} (hl:zab dom l) {k:Nat} (hk:k<l.length) (d:Nat):zd0 dom (Go.Proofs.YtknmdmimecepfaaGreatDoor.yP dom d (A.th i).regs (l.getD k default)):=by
 have hv:=(hl.good k hk).2.1
 unfold Go.Proofs.YtknmdmimecepfaaGreatDoor.yP
 split
 ·exact⟨hv,by show(0:Int)<=0/\0<dom;omega⟩
 split
 ·rename_i h2
  exact⟨hv,h.eval hi hd (hl.a k hk (.inl h2)) d⟩
 split
 ·exact⟨hv,by show(0:Int)<=0/\0<dom;omega⟩
 split
 ·exact⟨hv,by show(0:Int)<=0/\0<dom;omega⟩
 exact⟨by show(0:Int)<=0/\(0:Int)<4;omega,by show(0:Int)<=0/\0<dom;omega⟩
end
theorem xQ.zB {dom model:Int} (hd:1<=dom) {d:Nat} {l:List zi} (hl:zab dom l) {i:Nat} (hi:i<4):∀(n:Nat) {A:za},xQ dom A->xQ dom (zB model dom d l i n A):=by
 intro n
 induction n with
 |zero=>intro A h;exact h
 |succ n ih=>
 intro A h
 show xQ dom (if (A.th i).at_<l.length then _ else _)
 split
 ·rename_i ha
  split
  ·exact h
  exact ih (h.one hi hd hl ha d)
 exact h
theorem xQ.zO {dom model:Int} (hd:1<=dom) {d:Nat} {l:List zi} (hl:zab dom l) {i:Nat} (hi:i<4):∀(n:Nat) {A:za},xQ dom A->(A.th i).many+cntF model l (A.th i).at_<=8->xQ dom (zO model dom d l i n A):=by
 intro n
 induction n with
 |zero=>intro A h _;exact h.zB hd hl hi _
 |succ n ih=>
 intro A h hc
 have h1:=h.zB (model:=model) (d:=d) hd hl hi l.length
 have hf:=jY (model:=model) (dom:=dom) (d:=d) hl.good hi l.length A h.ok (by omega)
 show xQ dom (if _ then _ else _)
 split
 ·rename_i ha
  split
  ·exact h1
  have ht:=hf.stop ha
  have hcp:=cntF_step (model:=model) ha
  rw [if_pos ht] at hcp
  have hcm:=uY (model:=model) (l:=l) hf.more
  have wN:((Go.Proofs.YtknmdmimecepfaaGreatDoor.zB model dom d l i l.length A).th i).many<8:=by rw [hf.many];omega
  have hE:=h1.yP hi hd hl ha d
  have hp:=za.wm hf.ok hi (Go.Proofs.YtknmdmimecepfaaGreatDoor.yP dom d ((Go.Proofs.YtknmdmimecepfaaGreatDoor.zB model dom d l i l.length A).th i).regs (l.getD ((Go.Proofs.YtknmdmimecepfaaGreatDoor.zB model dom d l i l.length A).th i).at_ default))
  have h2:=h1.yh hi hE wN
  refine ih (h2.setAt hi _) ?_
  rw [za.yT h2.ok hi,hp]
  show((Go.Proofs.YtknmdmimecepfaaGreatDoor.zB model dom d l i l.length A).th i).many+1+cntF model l (((Go.Proofs.YtknmdmimecepfaaGreatDoor.zB model dom d l i l.length A).th i).at_+1)<=8
  rw [hf.many];omega
 exact h1
theorem zmF {dom:Int} {A:za} (h:xQ dom A) {i:Nat} (hi:i<4) {v:Nat} (hv:v<4):∀j,j<=8->0<=qJ A (A.th i) v j/\qJ A (A.th i) v j<dom:=by
 intro j
 induction j with
 |zero=>intro _;exact h.mem _ (zV (x:=0) (by rw [h.ok.mem];exact hv))
 |succ j ih=>
 intro hj
 unfold qJ
 split
 ·exact((h.th hi).evs _ (qX (by rw [(h.th hi).ok.evs];omega))).n
 exact ih (by omega)
theorem xQ.qI {dom:Int} (hd:2<=dom) {d:Nat} {l:List zi} (hl:zab dom l) {A:za} (h:xQ dom A) {i:Nat} (hi:i<4) {k:Nat} (hk:k<l.length) (ho:(l.getD k default).op=1\/(l.getD k default).op=6\/(l.getD k default).op=7):xQ dom (qI dom d (l.getD k default) i A):=by
 have hv:=(hl.good k hk).2.1
 unfold Go.Proofs.YtknmdmimecepfaaGreatDoor.qI
 split
 ·exact h.zN hi _ (zmF h hi (by omega) _ (h.th hi).ok.many)
 split
 ·exact h.xq _ (by omega)
 have h6:(l.getD k default).op=6:=by omega
 split
 ·exact((h.zN hi _ (by omega)).zN hi _ (by omega)).xq _ (h.eval hi (by omega) (hl.b k hk h6) d)
 exact h.zN hi _ (by omega)
def xB (t:zH):Nat:=(List.range t.many).countP λj=> !(t.evs.getD j default).come
