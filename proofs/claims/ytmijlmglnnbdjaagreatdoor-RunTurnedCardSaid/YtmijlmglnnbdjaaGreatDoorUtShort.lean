/- Steps. -/
import Derived.Test.YtmijlmglnnbdjaaGreatDoorRows
import Derived.Lib.Hide
import Derived.Deep.RegionHeld3
namespace Go.Proofs.YtmijlmglnnbdjaaGreatDoor
open Go.RowKit
def J2 (p:Prop):Prop:=p
theorem J2.o {p:Prop} (h:J2 p):p:=h
theorem qh {p:Prop} (h:p):J2 p:=h
@[match_pattern] abbrev I4 (n:Int):Value:= .int .i64 n
abbrev K3 (w:World) (b o:Nat) (v:Value):Prop:=w.cell? ⟨b,o,none⟩=some v
abbrev N7:Value:= .slice none 0 0
theorem jJ {α:Type} (l:List α) (i:Nat) (x:α):l.toArray.setIfInBounds i x=(l.set i x).toArray:=by simp
theorem jK {α:Type} (a b:α) (l:List α):(a::l).set 0 b=b::l:=List.set_cons_zero
theorem jL {α:Type} (a b:α) (l:List α) (n:Nat):(a::l).set (n+1) b=a::l.set n b:=List.set_cons_succ
theorem qtk {P:Program} {k:Region.Mode} {f:Array Oper} {Q:Exit->Act->World->Prop} {S:World->Prop} (i d:Nat) (v:Value) {j:Oper} {g:Nat} {b:Array Bool} {a:Act} {w:World} (p:f[i]? =some j) (l:∀w,S w->(execOp a.eval j).run P w= .ok (.value v) w) (t:S w)
 (h:wpAnyH P k f Q S g (b.setIfInBounds i true) ⟨a.tmps.setIfInBounds d v,a.defers⟩ w) (r:j.dst=some d:=by rfl) (m:Region.wanted j (yielded f a.tmps)=true:=by rfl) (n:Region.noSelect f=true:=by kernel_rfl) (q:Region.free k f b i=true:=by kernel_rfl) (o:(Region.ready k f b).contains i=true:=by kernel_rfl)
 (u:∀c a w,Q (.panic c) (a.put j.dst v) w->Q (.panic c) a w:=by exact λ_ _ _ h=>h):wpAnyH P k f Q S (g+1) b a w:=
 wpAnyH_take p n q o u (Or.inl ⟨m,l⟩) t (by rw [r];exact h)
theorem qta {P:Program} {k:Region.Mode} {f:Array Oper} {Q:Exit->Act->World->Prop} {S:World->Prop} (i d:Nat) (v:Value) {j:Oper} {g:Nat} {b:Array Bool} {a:Act} {w:World} (p:f[i]? =some j) (l:∀w,S w->(execOp a.eval j).run P w= .ok (.value v) w)
 (h:wpAnyH P k f Q S g (b.setIfInBounds i true) ⟨a.tmps.setIfInBounds d v,a.defers⟩ w) (t:S w:=by assumption) (r:j.dst=some d:=by rfl) (m:Region.wanted j (yielded f a.tmps)=true:=by rfl) (n:Region.noSelect f=true:=by kernel_rfl) (q:Region.free k f b i=true:=by kernel_rfl) (o:(Region.ready k f b).contains i=true:=by kernel_rfl)
 (u:∀c a w,Q (.panic c) (a.put j.dst v) w->Q (.panic c) a w:=by exact λ_ _ _ h=>h):wpAnyH P k f Q S (g+1) b a w:=
 qtk i d v p l t h r m n q o u
theorem yA {P:Program} {f:Region.Mode} {c:Array Oper} {Q:Exit->Act->World->Prop} {S:World->Prop} (i:Nat) {d:Nat} {b:Array Bool} {a:Act} {w:World} {o:Oper} (k:c[i]? =some o)
 (h:∀g:Act->World->Prop,Shut (∀a w,S w->(S w->wpAnyH P f c Q S d (b.setIfInBounds i true) a w)->g a w)->if Region.wanted o (yielded c a.tmps)=true then Oper.wp P o a w g Q else g (a.put o.dst undef) w) (j:Region.ready f c b= [i] :=by kernel_rfl):wpAnyH P f c Q S (d+1) b a w:=
 wpAnyH_ready j (by simp) (AllReadyH.cons k h AllReadyH.nil)
theorem zM {S:World->Prop} :∀w,S w->True:=λ_ _=>trivial
theorem zB {P:Program} {k:Region.Mode} {f:Array Oper} {Q:Exit->Act->World->Prop} {S X:World->Prop} (i:Nat) (c:∀w,S w->X w) {d:Nat} {v:Value} {j:Oper} {g:Nat} {b:Array Bool} {a l:Act} {w:World} (u:S w)
 (h:wpAnyH P k f Q S g (b.setIfInBounds i true) l w) (q:f[i]? =some j:=by rfl) (m:∀w,S w->X w->(execOp a.eval j).run P w= .ok (.value v) w:=by intro _ _ _;go_simp<;>rfl) (t:j.dst=some d:=by rfl) (hE:(⟨a.tmps.setIfInBounds d v,a.defers⟩:Act)=l:=by simp only [Act.put,jJ,jK,jL];exact rfl) (n:Region.wanted j (yielded f a.tmps)=true:=by rfl) (o:Region.noSelect f=true:=by kernel_rfl) (r:Region.free k f b i=true:=by kernel_rfl) (p:(Region.ready k f b).contains i=true:=by kernel_rfl)
 (x:∀c a w,Q (.panic c) (a.put j.dst v) w->Q (.panic c) a w:=by exact λ_ _ _ h=>h):wpAnyH P k f Q S (g+1) b a w:=
 qtk i d v q (λw s=>m w s (c w s)) u (by rw [hE];exact h) t n o r p x
theorem zi {P:Program} {k:Region.Mode} {f:Array Oper} {Q:Exit->Act->World->Prop} {S X:World->Prop} (i:Nat) (c:∀w,S w->X w) {d:Nat} {v:Value} {j:Oper} {g:Nat} {b:Array Bool} {a l:Act} {w:World}
 (h:wpAnyH P k f Q S g (b.setIfInBounds i true) l w) (q:f[i]? =some j:=by rfl) (m:∀w,S w->X w->(execOp a.eval j).run P w= .ok (.value v) w:=by intro _ _ _;go_simp<;>rfl) (t:j.dst=some d:=by rfl) (hE:(⟨a.tmps.setIfInBounds d v,a.defers⟩:Act)=l:=by simp only [Act.put,jJ,jK,jL];exact rfl) (u:S w:=by assumption) (n:Region.wanted j (yielded f a.tmps)=true:=by rfl) (o:Region.noSelect f=true:=by kernel_rfl) (r:Region.free k f b i=true:=by kernel_rfl) (p:(Region.ready k f b).contains i=true:=by kernel_rfl)
 (x:∀c a w,Q (.panic c) (a.put j.dst v) w->Q (.panic c) a w:=by exact λ_ _ _ h=>h):wpAnyH P k f Q S (g+1) b a w:=
 qtk i d v q (λw s=>m w s (c w s)) u (by rw [hE];exact h) t n o r p x
theorem zS {P:Program} {k:Region.Mode} {f:Array Oper} {Q:Exit->Act->World->Prop} {S:World->Prop} (i:Nat) {d:Nat} {j:Oper} {g:Nat} {b:Array Bool} {a l:Act} {w:World} (t:S w)
 (h:wpAnyH P k f Q S g (b.setIfInBounds i true) l w) (p:f[i]? =some j:=by rfl) (r:j.dst=some d:=by rfl) (hE:(⟨a.tmps.setIfInBounds d undef,a.defers⟩:Act)=l:=by simp only [Act.put,jJ,jK,jL];exact rfl) (m:Region.wanted j (yielded f a.tmps)=false:=by rfl) (n:Region.noSelect f=true:=by kernel_rfl) (q:Region.free k f b i=true:=by kernel_rfl) (o:(Region.ready k f b).contains i=true:=by kernel_rfl)
 (u:∀c a w,Q (.panic c) (a.put j.dst undef) w->Q (.panic c) a w:=by exact λ_ _ _ h=>h):wpAnyH P k f Q S (g+1) b a w:=
 wpAnyH_take (v:=undef) p n q o u (Or.inr ⟨m,rfl⟩) t (by rw [<-hE] at h;unfold Act.put;rw [r];exact h)
theorem xC {P:Program} {f:Region.Mode} {d:Array Oper} {Q:Exit->Act->World->Prop} {S:World->Prop} {c:Nat} {b:Array Bool} {a:Act} {w:World} (h:Q .normal a w) (g:Region.ready f d b= [] :=by kernel_rfl):wpAnyH P f d (NoPanic Q) S c b a w:=wpAnyH_done g (NoPanic.normal h) c
theorem qz {P:Program} {b:Array Oper} {Q:Exit->Act->World->Prop} {S:World->Prop} {c:Nat} {a:Act} {w:World} (f:S w.drew) (h:S w.drew->wpAnyH P .any b (NoPanic Q) S b.size (Array.replicate b.size false) a w.drew) (d:P.follows .mixedOrders=true:=by kernel_rfl):(Code.region c b true).wp P Q a w:=wp_region_noPanic (wp_region_held_drew d f h)
theorem zQ (w:World) (o:Obj):(w.alloc o).heap[w.heap.size]? =some o:=heap_alloc_new w o
theorem qxE {α:Sort _} (a:α):∃n,n=a:=⟨a,rfl⟩
