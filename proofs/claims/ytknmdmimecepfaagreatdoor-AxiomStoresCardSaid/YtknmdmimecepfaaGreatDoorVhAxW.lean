/- Steps. -/
import Derived.Test.YtknmdmimecepfaaGreatDoorVhEval
set_option linter.all false
namespace Go.Proofs.YtknmdmimecepfaaGreatDoor
open Go.RowKit
set_option maxRecDepth 100000
set_option maxHeartbeats 16000000
abbrev za.th (W:za) (i:Nat):zH:=W.zD.getD i default
def za.setAt (W:za) (i a:Nat):za:=W.put i ⟨a,(W.th i).regs,(W.th i).evs,(W.th i).many⟩
def za.zN (W:za) (i k:Nat) (x:Int):za:=W.put i ⟨(W.th i).at_,(W.th i).regs.set k x,(W.th i).evs,(W.th i).many⟩
def za.yF (W:za) (i j:Nat) (e:zP):za:=W.put i ⟨(W.th i).at_,(W.th i).regs,(W.th i).evs.set j e,(W.th i).many⟩
def za.setMany (W:za) (i n:Nat):za:=W.put i ⟨(W.th i).at_,(W.th i).regs,(W.th i).evs,n⟩
def za.xq (W:za) (v:Nat) (x:Int):za:=⟨W.zD,W.mem.set v x,W.fails⟩
def za.qo (W:za) (b:Bool):za:=⟨W.zD,W.mem,b⟩
section
variable {W:za} (h:W.ok) {i:Nat} (hi:i<4)
include h
theorem za.wI (v:Nat) (x:Int):(W.xq v x).ok:=⟨h.zD,by simp [za.xq,h.mem],h.each⟩
theorem za.bK (b:Bool):(W.qo b).ok:=⟨h.zD,h.mem,h.each⟩
include hi
theorem za.qZ (a:Nat):(W.setAt i a).ok:=za.za9 h i ⟨(za.yu h hi).regs,(za.yu h hi).evs,(za.yu h hi).many⟩
theorem za.vM (k:Nat) (x:Int):(W.zN i k x).ok:=za.za9 h i ⟨by rw [List.length_set];exact(za.yu h hi).regs,(za.yu h hi).evs,(za.yu h hi).many⟩
theorem za.kU (j:Nat) (e:zP):(W.yF i j e).ok:=za.za9 h i ⟨(za.yu h hi).regs,by rw [List.length_set];exact(za.yu h hi).evs,(za.yu h hi).many⟩
theorem za.zad {n:Nat} (hn:n<=8):(W.setMany i n).ok:=za.za9 h i ⟨(za.yu h hi).regs,(za.yu h hi).evs,hn⟩
end
section
variable {w:World} {g:Nat} {W:za} (h:zo w g W) {i:Nat} (hi:i<4)
include h
theorem zo.xq {v:Nat} (hv:v<4) (x:Int):zo (w.setCell ⟨g,216+v,none⟩ (.int .i64 x)) g (W.xq v x):=h.store (za.zmp h.ok hv x) (za.wI h.ok v x)
theorem zo.qo (b:Bool):zo (w.setCell ⟨g,220,none⟩ (.bool b)) g (W.qo b):=h.store (za.zif h.ok b) (za.bK h.ok b)
include hi
theorem zo.setAt (a:Nat):zo (w.setCell ⟨g,i*54,none⟩ (.int .i64 a)) g (W.setAt i a):=
 h.store (k:=i*54+0) (za.zc0 h.ok hi (by omega) (zH.zmM _ a)) (za.qZ h.ok hi a)
theorem zo.zN {k:Nat} (hk:k<4) (x:Int):zo (w.setCell ⟨g,i*54+1+k,none⟩ (.int .i64 x)) g (W.zN i k x):=by
 rw [Nat.add_assoc]
 exact h.store (za.zc0 h.ok hi (by omega) (zH.zmq (za.yu h.ok hi) hk x)) (za.vM h.ok hi k x)
theorem zo.yF {j k:Nat} (hj:j<8) (hk:k<6) {e:zP} {u:Value} (he:e.cells=((W.th i).evs.getD j default).cells.set k u):zo (w.setCell ⟨g,i*54+5+j*6+k,none⟩ u) g (W.yF i j e):=by
 rw [show i*54+5+j*6+k=i*54+(5+j*6+k) by omega]
 exact h.store (za.zc0 h.ok hi (by omega) (zH.zmN (za.yu h.ok hi) hj hk he)) (za.kU h.ok hi j e)
theorem zo.setMany {n:Nat} (hn:n<=8):zo (w.setCell ⟨g,i*54+53,none⟩ (.int .i64 n)) g (W.setMany i n):=
 h.store (za.zc0 h.ok hi (by omega) (zH.zjX (za.yu h.ok hi) n)) (za.zad h.ok hi hn)
end
theorem za.uf {W:za} (h:W.ok) {i j:Nat} (hi:i<4) (hj:j<8) (e:zP):((W.yF i j e).th i).evs.getD j default=e:=by
 unfold za.yF za.th
 rw [za.ug h hi]
 simp only []
 rw [List.getD_eq_getElem?_getD,List.getElem?_set_self (by rw [(za.yu h hi).evs];exact hj)];rfl
theorem za.jh {W:za} (h:W.ok) {i:Nat} (hi:i<4) (j:Nat) (e f:zP):(W.yF i j e).yF i j f=W.yF i j f:=by
 show za.put (za.put _ _ _) _ _=za.put _ _ _
 have e1:(W.yF i j e).th i=_:=za.ug h hi _
 rw [e1]
 unfold za.put
 simp only [List.set_set]
theorem zo.zoS {w:World} {g:Nat} {W:za} (h:zo w g W) {i j:Nat} (hi:i<4) (hj:j<8) (e:zP):zo (w.setCells g (i*54+5+j*6) e.cells) g (W.yF i j e):=by
 obtain⟨v,n,r,s,f,c⟩:=e
 show zo ((((((w.setCell ⟨g,i*54+5+j*6+0,none⟩ (.int .i64 v)).setCell ⟨g,i*54+5+j*6+1,none⟩ (.int .i64 n)).setCell ⟨g,i*54+5+j*6+2,none⟩ (.bool r)).setCell ⟨g,i*54+5+j*6+3,none⟩ (.bool s)).setCell ⟨g,i*54+5+j*6+4,none⟩ (.bool f)).setCell ⟨g,i*54+5+j*6+5,none⟩ (.bool c)) g _
 obtain⟨e0,he⟩:∃e0,(W.th i).evs.getD j default=e0:=⟨_,rfl⟩
 obtain⟨v0,n0,r0,s0,f0,c0⟩:=e0
 have g0:=h.yF hi hj (k:=0) (by omega) (e:=⟨v,n0,r0,s0,f0,c0⟩) (u:= .int .i64 v) (by rw [he];rfl)
 have g1:=g0.yF hi hj (k:=1) (by omega) (e:=⟨v,n,r0,s0,f0,c0⟩) (u:= .int .i64 n) (by rw [za.uf h.ok hi hj];rfl)
 rw [za.jh h.ok hi] at g1
 have g2:=g1.yF hi hj (k:=2) (by omega) (e:=⟨v,n,r,s0,f0,c0⟩) (u:= .bool r) (by rw [za.uf h.ok hi hj];rfl)
 rw [za.jh h.ok hi] at g2
 have g3:=g2.yF hi hj (k:=3) (by omega) (e:=⟨v,n,r,s,f0,c0⟩) (u:= .bool s) (by rw [za.uf h.ok hi hj];rfl)
 rw [za.jh h.ok hi] at g3
 have g4:=g3.yF hi hj (k:=4) (by omega) (e:=⟨v,n,r,s,f,c0⟩) (u:= .bool f) (by rw [za.uf h.ok hi hj];rfl)
 rw [za.jh h.ok hi] at g4
 have g5:=g4.yF hi hj (k:=5) (by omega) (e:=⟨v,n,r,s,f,c⟩) (u:= .bool c) (by rw [za.uf h.ok hi hj];rfl)
 rw [za.jh h.ok hi] at g5
 exact g5
theorem uh {g:Nat} (l:List Value):∀(X:World) (j:Nat),Since (λk=>k=g) X (X.setCells g j l):=by
 induction l with
 |nil=>intro X j;exact Since.refl _ _
 |cons u l ih=>
 intro X j
 exact(Since.setCell (F:=λk=>k=g) (p:=⟨g,j,none⟩) (Since.refl _ X) (.inl rfl) u).trans (ih _ _) (λ_ h=> .inl h)
