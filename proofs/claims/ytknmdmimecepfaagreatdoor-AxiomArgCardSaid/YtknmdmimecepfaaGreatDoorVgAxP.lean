/- Steps. -/
import Derived.Test.YtknmdmimecepfaaGreatDoorVgAxEnd
import Derived.Test.YtknmdmimecepfaaGreatDoorVgSmallW
set_option linter.all false
namespace Go.Proofs.YtknmdmimecepfaaGreatDoor
open Go.RowKit
set_option maxRecDepth 100000
set_option maxHeartbeats 16000000
structure zaW (dom:Int) (l:List zl):Prop where
 good:uo l
 len:l.length<=600
 a:∀k,k<l.length->((l.getD k default).op=2\/(l.getD k default).op=3\/(l.getD k default).op=6)->zy dom 20 (l.getD k default).a=true
 b:∀k,k<l.length->(l.getD k default).op=6->zy dom 20 (l.getD k default).b=true
theorem uq {c:zo} (h:codeOk c=true) (hf:yF c=true) {i:Nat} (hi:i<c.threads.length):zaW c.domain (c.threads.getD i []):=by
 have hb:=yI h
 have hlen:(c.threads.getD i []).length<=600:=by
  unfold codeOk at h
  simp only [Bool.and_eq_true] at h
  have h1:=h.2
  rw [List.all_eq_true] at h1
  have h2:=h1 _ (yL (x:= []) hi)
  unfold rowOk at h2
  simp only [Bool.and_eq_true,decide_eq_true_eq] at h2
  exact h2.1
 have hfit:∀k,k<(c.threads.getD i []).length->qN c.vars c.domain (kindOf ((c.threads.getD i []).getD k default).op) (bJ ((c.threads.getD i []).getD k default).op (c.threads.getD i []).length) ((c.threads.getD i []).getD k default)=true:=λk hk=>by
  rw [<-zdp];exact zly h hi hk
 have hpart:∀k,k<(c.threads.getD i []).length->xu (kindOf ((c.threads.getD i []).getD k default).op) ((c.threads.getD i []).getD k default).reg ((c.threads.getD i []).getD k default).var ((c.threads.getD i []).getD k default).a ((c.threads.getD i []).getD k default).b c.vars c.domain=true/\((c.threads.getD i []).getD k default).dest<=bJ ((c.threads.getD i []).getD k default).op (c.threads.getD i []).length:=λk hk=>by
  have:=hfit k hk
  unfold qN at this
  simp only [Bool.and_eq_true,decide_eq_true_eq] at this
  exact⟨this.2,this.1.2⟩
 refine⟨λk hk=> ?_,hlen,λk hk ho=> ?_,λk hk ho=> ?_⟩
 ·obtain⟨hp,hd⟩:=hpart k hk
  unfold xu at hp
  simp only [Bool.and_eq_true] at hp
  refine⟨?_, ?_,λhl=> ?_⟩
  ·have:=hp.1.1.1
   unfold wW at this
   split at this
   ·simpa using this
   have h0:=of_decide_eq_true this;omega
  ·have:=hp.1.1.2
   unfold jZ at this
   split at this
   ·simp only [Bool.and_eq_true,decide_eq_true_eq] at this;omega
   have h0:=of_decide_eq_true this;omega
  unfold yF at hf
  rw [List.all_eq_true] at hf
  have h1:=hf i (by simpa using hi)
  rw [List.all_eq_true] at h1
  have h2:=h1 k (by simpa using hk)
  rw [hl] at h2
  simp only [Bool.not_true,Bool.false_or,decide_eq_true_eq] at h2
  refine⟨h2, ?_⟩
  unfold bJ at hd
  unfold xg at hl
  simp only [Bool.or_eq_true,decide_eq_true_eq] at hl
  rw [if_pos hl] at hd
  exact hd
 ·obtain⟨hp, -⟩:=hpart k hk
  unfold xu at hp
  simp only [Bool.and_eq_true] at hp
  have:=hp.1.2
  unfold kg at this
  rw [if_pos (by rcases ho with ho|ho|ho<;>(rw [ho];rfl))] at this
  exact this
 obtain⟨hp, -⟩:=hpart k hk
 unfold xu at hp
 simp only [Bool.and_eq_true] at hp
 have:=hp.2
 unfold wX at this
 rw [if_pos (by rw [ho];rfl)] at this
 exact this
structure zfz (dom:Int) (e:yg):Prop where
 v:0<=e.v/\e.v<4
 n:0<=e.n/\e.n<dom
structure zjQ (dom:Int) (t:zR):Prop where
 ok:t.ok
 regs:∀x∈t.regs,0<=x/\x<dom
 evs:∀e∈t.evs,zfz dom e
structure qO (dom:Int) (A:ze):Prop where
 ok:A.ok
 mem:∀x∈A.mem,0<=x/\x<dom
 zO:∀t∈A.zO,zjQ dom t
section
variable {dom:Int} {A:ze} (h:qO dom A) {i:Nat} (hi:i<4)
include h
theorem qO.ql {x:Int} (v:Nat) (hx:0<=x/\x<dom):qO dom (A.ql v x):=⟨ze.zam h.ok v x,λy hy=>by
 rcases wY hy with rfl|hy
 ·exact hx
 exact h.mem y hy,h.zO⟩
theorem qO.vD (b:Bool):qO dom (A.vD b):=⟨ze.za6 h.ok b,h.mem,h.zO⟩
theorem qO.put {t:zR} (i:Nat) (ht:zjQ dom t):qO dom (A.put i t):=⟨ze.zcd h.ok i ht.ok,h.mem,λy hy=>by
 rcases wY hy with rfl|hy
 ·exact ht
 exact h.zO y hy⟩
include hi
theorem qO.th:zjQ dom (A.th i):=h.zO _ (jm (by rw [h.ok.zO];exact hi))
theorem qO.reg {k:Nat} (hk:k<4):ze1 dom ((A.th i).regs.getD k 0)=true:=by
 have ht:=h.th hi
 rw [jN]
 exact ht.regs _ (yL (x:=0) (by rw [ht.ok.regs];exact hk))
theorem qO.eval (hd:1<=dom) {x:zx} (hx:zy dom 20 x=true) (d:Nat):0<=yO (A.th i).regs dom d x/\yO (A.th i).regs dom d x<dom:=by
 have:=zqh hd (λk hk=>h.reg hi hk) hx d
 rwa [jN] at this
theorem qO.setAt (a:Nat):qO dom (A.setAt i a):=h.put i ⟨⟨(h.th hi).ok.regs,(h.th hi).ok.evs,(h.th hi).ok.many⟩,(h.th hi).regs,(h.th hi).evs⟩
theorem qO.zW {x:Int} (k:Nat) (hx:0<=x/\x<dom):qO dom (A.zW i k x):=h.put i ⟨⟨by rw [List.length_set];exact(h.th hi).ok.regs,(h.th hi).ok.evs,(h.th hi).ok.many⟩,λy hy=>by
 rcases wY hy with rfl|hy
 ·exact hx
 exact(h.th hi).regs y hy,(h.th hi).evs⟩
theorem qO.yV {e:yg} (j:Nat) (he:zfz dom e):qO dom (A.yV i j e):=h.put i ⟨⟨(h.th hi).ok.regs,by rw [List.length_set];exact(h.th hi).ok.evs,(h.th hi).ok.many⟩,(h.th hi).regs,λy hy=>by
 rcases wY hy with rfl|hy
 ·exact he
 exact(h.th hi).evs y hy⟩
theorem qO.setMany {n:Nat} (hn:n<=8):qO dom (A.setMany i n):=h.put i ⟨⟨(h.th hi).ok.regs,(h.th hi).ok.evs,hn⟩,(h.th hi).regs,(h.th hi).evs⟩
theorem qO.yP {e:yg} (he:zfz dom e) (hm:(A.th i).many<8):qO dom (A.yP i e):=by
 unfold ze.yP
 exact(h.yV hi _ he).setMany hi (by omega)
theorem qO.one (hd:1<=dom) {l:List zl} (hl:zaW dom l) {k:Nat} (hk:k<l.length) (d:Nat):qO dom (xZ dom d (l.getD k default) i A):=by
 unfold xZ
 split
 ·rename_i h3
  exact(h.setAt hi _).zW hi _ (h.eval hi hd (hl.a k hk (.inr (.inl h3))) d)
 split
 ·exact(h.setAt hi _).vD _
 split
 ·exact h.setAt hi _
 exact h.setAt hi _
theorem qO.xV (hd:1<=dom) {l:List zl} (hl:zaW dom l) {k:Nat} (hk:k<l.length) (d:Nat):zfz dom (Go.Proofs.YtknmdmimecepfaaGreatDoor.xV dom d (A.th i).regs (l.getD k default)):=by
 have hv:=(hl.good k hk).2.1
 unfold Go.Proofs.YtknmdmimecepfaaGreatDoor.xV
 split
 ·exact⟨hv,by show(0:Int)<=0/\0<dom;omega⟩
 split
 ·rename_i h2
  exact⟨hv,h.eval hi hd (hl.a k hk (.inl h2)) d⟩
 split
 ·exact⟨hv,by show(0:Int)<=0/\0<dom;omega⟩
 split
 ·exact⟨hv,by show(0:Int)<=0/\0<dom;omega⟩
 exact⟨by show(0:Int)<=0/\(0:Int)<4;omega,by show(0:Int)<=0/\0<dom;omega⟩
end
theorem qO.zN {dom model:Int} (hd:1<=dom) {d:Nat} {l:List zl} (hl:zaW dom l) {i:Nat} (hi:i<4):∀(n:Nat) {A:ze},qO dom A->qO dom (zN model dom d l i n A):=by
 intro n
 induction n with
 |zero=>intro A h;exact h
 |succ n ih=>
 intro A h
 show qO dom (if (A.th i).at_<l.length then _ else _)
 split
 ·rename_i ha
  split
  ·exact h
  exact ih (h.one hi hd hl ha d)
 exact h
theorem qO.yT {dom model:Int} (hd:1<=dom) {d:Nat} {l:List zl} (hl:zaW dom l) {i:Nat} (hi:i<4):∀(n:Nat) {A:ze},qO dom A->(A.th i).many+cntF model l (A.th i).at_<=8->qO dom (yT model dom d l i n A):=by
 intro n
 induction n with
 |zero=>intro A h _;exact h.zN hd hl hi _
 |succ n ih=>
 intro A h hc
 have h1:=h.zN (model:=model) (d:=d) hd hl hi l.length
 have hf:=wI (model:=model) (dom:=dom) (d:=d) hl.good hi l.length A h.ok (by omega)
 show qO dom (if _ then _ else _)
 split
 ·rename_i ha
  split
  ·exact h1
  have ht:=hf.stop ha
  have hcp:=cntF_step (model:=model) ha
  rw [if_pos ht] at hcp
  have hcm:=zad (model:=model) (l:=l) hf.more
  have bW:((Go.Proofs.YtknmdmimecepfaaGreatDoor.zN model dom d l i l.length A).th i).many<8:=by rw [hf.many];omega
  have hE:=h1.xV hi hd hl ha d
  have hp:=ze.bQ hf.ok hi (Go.Proofs.YtknmdmimecepfaaGreatDoor.xV dom d ((Go.Proofs.YtknmdmimecepfaaGreatDoor.zN model dom d l i l.length A).th i).regs (l.getD ((Go.Proofs.YtknmdmimecepfaaGreatDoor.zN model dom d l i l.length A).th i).at_ default))
  have h2:=h1.yP hi hE bW
  refine ih (h2.setAt hi _) ?_
  rw [ze.qA h2.ok hi,hp]
  show((Go.Proofs.YtknmdmimecepfaaGreatDoor.zN model dom d l i l.length A).th i).many+1+cntF model l (((Go.Proofs.YtknmdmimecepfaaGreatDoor.zN model dom d l i l.length A).th i).at_+1)<=8
  rw [hf.many];omega
 exact h1
theorem zqk {dom:Int} {A:ze} (h:qO dom A) {i:Nat} (hi:i<4) {v:Nat} (hv:v<4):∀j,j<=8->0<=vV A (A.th i) v j/\vV A (A.th i) v j<dom:=by
 intro j
 induction j with
 |zero=>intro _;exact h.mem _ (yL (x:=0) (by rw [h.ok.mem];exact hv))
 |succ j ih=>
 intro hj
 unfold vV
 split
 ·exact((h.th hi).evs _ (jm (by rw [(h.th hi).ok.evs];omega))).n
 exact ih (by omega)
theorem qO.vW {dom:Int} (hd:2<=dom) {d:Nat} {l:List zl} (hl:zaW dom l) {A:ze} (h:qO dom A) {i:Nat} (hi:i<4) {k:Nat} (hk:k<l.length) (ho:(l.getD k default).op=1\/(l.getD k default).op=6\/(l.getD k default).op=7):qO dom (vW dom d (l.getD k default) i A):=by
 have hv:=(hl.good k hk).2.1
 unfold Go.Proofs.YtknmdmimecepfaaGreatDoor.vW
 split
 ·exact h.zW hi _ (zqk h hi (by omega) _ (h.th hi).ok.many)
 split
 ·exact h.ql _ (by omega)
 have h6:(l.getD k default).op=6:=by omega
 split
 ·exact((h.zW hi _ (by omega)).zW hi _ (by omega)).ql _ (h.eval hi (by omega) (hl.b k hk h6) d)
 exact h.zW hi _ (by omega)
def qp (t:zR):Nat:=(List.range t.many).countP λj=> !(t.evs.getD j default).come
