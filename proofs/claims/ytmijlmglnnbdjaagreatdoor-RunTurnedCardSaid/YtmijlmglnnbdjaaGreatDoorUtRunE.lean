/- Steps. -/
import Derived.Test.YtmijlmglnnbdjaaGreatDoorUtIsA
import Derived.Test.YtmijlmglnnbdjaaGreatDoorUtPFair
set_option linter.all false
namespace Go.Proofs.YtmijlmglnnbdjaaGreatDoor
open Go.RowKit
set_option maxRecDepth 100000
set_option maxHeartbeats 16000000
section
variable {α:Type} [Inhabited α] {R:World->α->List Value->Prop} {size b off n cap:Nat} {w:World} {l:List α}
theorem zh.rest (h:zh R size w (.slice (some ⟨b,off,none⟩) n cap) l) (k:Nat) (v:k<=n):zh R size w (.slice (some ⟨b,off+k*size,none⟩) (n - k) (cap - k)) (l.drop k):=by
 obtain⟨a,c,g,x,t⟩:=h;cases g
 refine⟨_,cap - k,by rw [List.length_drop],by rw [List.length_drop];omega,λj d=> ?_⟩
 rw [List.length_drop] at d;obtain⟨y,u,cs,r,q,p,o,m⟩:=t (k+j) (by omega);cases r
 refine⟨b,off+k*size,cs,rfl,q,p,λi f=> ?_, ?_⟩
 ·rw [<-o i f,Nat.add_mul];congr 2;omega
 rw [show(l.drop k).getD j default=l.getD (k+j) default by simp only [List.getD_eq_getElem?_getD,List.getElem?_drop]];exact m
end
def gM (c:zG) (m:zC) (l:List zw) (back:Int) (d:Nat):Bool:=
 decide ((yM c m l back d).2=0) && zaw c m d ((yM c m l back d).1.drop back.toNat) (l.drop back.toNat)
theorem zfk {α:Type} {l:List α} {k:Nat} {x:α} (h:x∈l.drop k):x∈l:=List.mem_of_mem_drop h
structure z3J (c:zG) (m:zC) (d:Nat) (l:List zw) (back:Int) (S:List zo) (bk:Nat):Prop where
 eq:back=bk
 len:S.length=l.length
 lt:bk<l.length
 big:l.length<=100000
 fits:∀s∈S,yJ c m s=true
 fair:gM c m l back d=zaw c m d (S.drop bk) (l.drop bk)
theorem zpv {c:zG} {m:zC} {d:Nat} {l:List zw} {back:Int} (h:(yM c m l back d).2=0):∃bk,z3J c m d l back (yM c m l back d).1 bk:=by
 obtain⟨k,j,f,i,g⟩:=bQ (zbj h).1;refine⟨back.toNat,by omega,zfl h,by omega,f,zo0 h, ?_⟩
 unfold gM;rw [decide_eq_true h,Bool.true_and]
theorem zmT {c:zG} {m:zC} {d:Nat} {l:List zw} {back:Int} (h:(yM c m l back d).2≠0):gM c m l back d=false:=by
 unfold gM;rw [decide_eq_false h,Bool.false_and]
