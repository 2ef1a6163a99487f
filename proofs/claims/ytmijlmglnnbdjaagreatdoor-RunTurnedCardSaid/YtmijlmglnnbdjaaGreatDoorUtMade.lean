/- Steps. -/
import Derived.Test.YtmijlmglnnbdjaaGreatDoorUtMadeC
set_option linter.all false
namespace Go.Proofs.YtmijlmglnnbdjaaGreatDoor
open Go.RowKit
set_option maxRecDepth 100000
set_option maxHeartbeats 16000000
theorem zv3 (c:World) (sv:Value) (l:List Int) (f:vL c .u8 sv l) (b:Nat) (g:b<=5):zkt c sv b:=by
 induction b with
 |zero=>exact zjg c sv l f 0 (by omega) (λh=>by omega)
 |succ d ih=>exact zjg c sv l f (d+1) g (λ_=>by rw [show d+1 - 1=d by omega];exact ih (by omega))
theorem zcY {w:World} {o:Obj} {k:Nat} (h:k=w.heap.size):(w.alloc o).heap[k]? =some o:=by subst h;exact zQ w o
theorem kN {w:World} {o:Obj} {k:Nat} (h:k<w.heap.size):(w.alloc o).heap[k]? =w.heap[k]? :=Below.heap_alloc _ _ _ h
theorem z13 (w:World) (b c d f g h:Obj):Below w.heap.size w ((((((w.alloc b).alloc c).alloc d).alloc f).alloc g).alloc h)/\((((((w.alloc b).alloc c).alloc d).alloc f).alloc g).alloc h).heap[w.heap.size]? =some b/\((((((w.alloc b).alloc c).alloc d).alloc f).alloc g).alloc h).heap[w.heap.size+1]? =some c/\
  ((((((w.alloc b).alloc c).alloc d).alloc f).alloc g).alloc h).heap[w.heap.size+2]? =some d/\((((((w.alloc b).alloc c).alloc d).alloc f).alloc g).alloc h).heap[w.heap.size+3]? =some f/\((((((w.alloc b).alloc c).alloc d).alloc f).alloc g).alloc h).heap[w.heap.size+4]? =some g/\
  ((((((w.alloc b).alloc c).alloc d).alloc f).alloc g).alloc h).heap[w.heap.size+5]? =some h:=by
 have m:w.heap.size<=(w.alloc b).heap.size:=by rw [World.size_alloc];omega
 have l:w.heap.size<=((w.alloc b).alloc c).heap.size:=by simp only [World.size_alloc];omega
 have k:w.heap.size<=(((w.alloc b).alloc c).alloc d).heap.size:=by simp only [World.size_alloc];omega
 have j:w.heap.size<=((((w.alloc b).alloc c).alloc d).alloc f).heap.size:=by simp only [World.size_alloc];omega
 have i:w.heap.size<=(((((w.alloc b).alloc c).alloc d).alloc f).alloc g).heap.size:=by simp only [World.size_alloc];omega
 refine⟨((((((Below.refl _ _).alloc (Nat.le_refl _) _).alloc m _).alloc l _).alloc k _).alloc j _).alloc i _, ?_, ?_, ?_, ?_, ?_, ?_⟩
 ·rw [kN (by simp only [World.size_alloc];omega),kN (by simp only [World.size_alloc];omega),kN (by simp only [World.size_alloc];omega),kN (by simp only [World.size_alloc];omega),kN (by simp only [World.size_alloc];omega),zcY rfl]
 ·rw [kN (by simp only [World.size_alloc];omega),kN (by simp only [World.size_alloc];omega),kN (by simp only [World.size_alloc];omega),kN (by simp only [World.size_alloc];omega),zcY (by simp only [World.size_alloc])]
 ·rw [kN (by simp only [World.size_alloc];omega),kN (by simp only [World.size_alloc];omega),kN (by simp only [World.size_alloc];omega),zcY (by simp only [World.size_alloc])]
 ·rw [kN (by simp only [World.size_alloc];omega),kN (by simp only [World.size_alloc];omega),zcY (by simp only [World.size_alloc])]
 ·rw [kN (by simp only [World.size_alloc];omega),zcY (by simp only [World.size_alloc])]
 rw [zcY (by simp only [World.size_alloc])]
def zsj (w:World) (e:Ending) (w':World):Prop:=∃(f:Form) (ka:Option Addr) (kn kc:Nat),e= .returned (vI f (.slice ka kn kc))/\xE w' 6 f (.slice ka kn kc)/\f.okD 6=true/\f.size<=41/\Below w.heap.size w w'
theorem zx2 (w:World) (sv:Value) (l:List Int) (P:vL w .u8 sv l):Calls Tryz.prog 12 #[sv,I4 20] w (zsj w):=by
 have R:=λW (h:qG w W sv 0 20)=>zv3 w sv l P 5 (by omega) W 0 20 h (by omega) (by omega);obtain⟨J,I,rfl, -⟩:=P;have HM:=qh R;clear R;go_enter Tryz.func12,Tryz.ntmps12
 go_upto_region 5 with fail
 rw [show w.heap.size+1+1+1+1+1=w.heap.size+5 from rfl,show w.heap.size+1+1+1+1=w.heap.size+4 from rfl,show w.heap.size+1+1+1=w.heap.size+3 from rfl]
 have G:=z13 w (.cells #[.slice J l.length I] 22) (.cells #[I4 20] 3) (.cells #[I4 0,I4 0,I4 0,I4 0,I4 0,N7] 38) (.cells #[I4 0] 3) (.cells #[.func (.func 28) #[] #[.pointer (some ⟨w.heap.size+3,0,none⟩), .pointer (some ⟨w.heap.size,0,none⟩)]] 76) (.cells #[.func (.func 29) #[] #[.pointer (some ⟨w.heap.size+4,0,none⟩), .pointer (some ⟨w.heap.size+3,0,none⟩), .pointer (some ⟨w.heap.size,0,none⟩), .pointer (some ⟨w.heap.size+1,0,none⟩), .pointer (some ⟨w.heap.size+5,0,none⟩)]] 77);obtain⟨E,Q,K,Z,Y,U,T⟩:=G
 have z:qG w ((((((w.alloc (.cells #[.slice J l.length I] 22)).alloc (.cells #[I4 20] 3)).alloc (.cells #[I4 0,I4 0,I4 0,I4 0,I4 0,N7] 38)).alloc (.cells #[I4 0] 3)).alloc (.cells #[.func (.func 28) #[] #[.pointer (some ⟨w.heap.size+3,0,none⟩), .pointer (some ⟨w.heap.size,0,none⟩)]] 76)).alloc (.cells #[.func (.func 29) #[] #[.pointer (some ⟨w.heap.size+4,0,none⟩), .pointer (some ⟨w.heap.size+3,0,none⟩), .pointer (some ⟨w.heap.size,0,none⟩), .pointer (some ⟨w.heap.size+1,0,none⟩), .pointer (some ⟨w.heap.size+5,0,none⟩)]] 77)) (.slice J l.length I) 0 20:=⟨E,Q,K,Y,U,T⟩;have q:=qh z;have M:=qh Z
 clear E Q K Z Y U T z;generalize World.alloc _ _=W at q M ⊢;have vm:W.cell? ⟨w.heap.size+5,0,none⟩=some (.func (.func 29) #[] #[.pointer (some ⟨w.heap.size+4,0,none⟩), .pointer (some ⟨w.heap.size+3,0,none⟩), .pointer (some ⟨w.heap.size,0,none⟩), .pointer (some ⟨w.heap.size+1,0,none⟩), .pointer (some ⟨w.heap.size+5,0,none⟩)]):=ze q.o.maker 0;go_wp2_with fail
 refine(HM.o W q.o).mono ?_
 rintro e V ⟨k,n,m,i,g,kids,ka,kc,a',t',rfl,x,B,H,A,t, -⟩;have d:=(A.block _ (zA M.o) (by unfold Turns;omega)).trans M.o
 have f:(Form.mk k ⟨n,m,i,g⟩ kids).size<=41:=by obtain⟨N,h1,S, -⟩:=t;omega
 have O:=qh x;have vP:=qh B;have uh:=qh f;have D:=qh H.below;have L:=qh d;have hWV:=H.size
 have hkl:kids.length<=9223372036854775807:=by
  obtain⟨a,c,h1,S, -⟩:=x;exact S
 have z0:V.cell? ⟨w.heap.size+2,0,none⟩=some (I4 0):=ze d 0;have z1:V.cell? ⟨w.heap.size+2,1,none⟩=some (I4 0):=ze d 1;have z2:V.cell? ⟨w.heap.size+2,2,none⟩=some (I4 0):=ze d 2;have z3:V.cell? ⟨w.heap.size+2,3,none⟩=some (I4 0):=ze d 3;have z4:V.cell? ⟨w.heap.size+2,4,none⟩=some (I4 0):=ze d 4;have z5:V.cell? ⟨w.heap.size+2,5,none⟩=some (N7):=ze d 5;have zf:∀j,V.frozen? ⟨w.heap.size+2,j,none⟩=false:=λj=>zH d j;have hzW:w.heap.size+6<=W.heap.size:=q.o.size;clear d x B f A t H vm
 have r:((((((V.setCell ⟨w.heap.size+2,0,none⟩ (I4 k)).setCell ⟨w.heap.size+2,1,none⟩ (I4 n)).setCell ⟨w.heap.size+2,2,none⟩ (I4 m)).setCell ⟨w.heap.size+2,3,none⟩ (I4 i)).setCell ⟨w.heap.size+2,4,none⟩ (I4 g)).setCell ⟨w.heap.size+2,5,none⟩ (.slice ka kids.length kc)).heap[w.heap.size+2]? =some (.cells #[I4 k,I4 n,I4 m,I4 i,I4 g, .slice ka kids.length kc] 38 (0,0)):=by
  have:=(zu (zu (zu (zu (zu (zu L.o 0 (I4 k)) 1 (I4 n)) 2 (I4 m)) 3 (I4 i)) 4 (I4 g)) 5 (.slice ka kids.length kc))
  simpa using this
 have C:Since (λb=>b=w.heap.size+2) V ((((((V.setCell ⟨w.heap.size+2,0,none⟩ (I4 k)).setCell ⟨w.heap.size+2,1,none⟩ (I4 n)).setCell ⟨w.heap.size+2,2,none⟩ (I4 m)).setCell ⟨w.heap.size+2,3,none⟩ (I4 i)).setCell ⟨w.heap.size+2,4,none⟩ (I4 g)).setCell ⟨w.heap.size+2,5,none⟩ (.slice ka kids.length kc)):=Since.setCell (F:=λb=>b=w.heap.size+2) (p:=⟨w.heap.size+2,5,none⟩) (Since.setCell (F:=λb=>b=w.heap.size+2) (p:=⟨w.heap.size+2,4,none⟩) (Since.setCell (F:=λb=>b=w.heap.size+2) (p:=⟨w.heap.size+2,3,none⟩) (Since.setCell (F:=λb=>b=w.heap.size+2) (p:=⟨w.heap.size+2,2,none⟩) (Since.setCell (F:=λb=>b=w.heap.size+2) (p:=⟨w.heap.size+2,1,none⟩) (Since.setCell (F:=λb=>b=w.heap.size+2) (p:=⟨w.heap.size+2,0,none⟩) (Since.refl (λb=>b=w.heap.size+2) V) (.inl rfl) (I4 k)) (.inl rfl) (I4 n)) (.inl rfl) (I4 m)) (.inl rfl) (I4 i)) (.inl rfl) (I4 g)) (.inl rfl) (.slice ka kids.length kc)
 have u:=qh r;have y:=qh C;clear r C;go_wp2
 generalize ((((((V.setCell ⟨w.heap.size+2,0,none⟩ (I4 k)).setCell ⟨w.heap.size+2,1,none⟩ (I4 n)).setCell ⟨w.heap.size+2,2,none⟩ (I4 m)).setCell ⟨w.heap.size+2,3,none⟩ (I4 i)).setCell ⟨w.heap.size+2,4,none⟩ (I4 g)).setCell ⟨w.heap.size+2,5,none⟩ (.slice ka kids.length kc))=X at u y ⊢;have y0:X.cell? ⟨w.heap.size+2,0,none⟩=some (I4 k):=ze u.o 0;have y1:X.cell? ⟨w.heap.size+2,1,none⟩=some (I4 n):=ze u.o 1;have y2:X.cell? ⟨w.heap.size+2,2,none⟩=some (I4 m):=ze u.o 2;have y3:X.cell? ⟨w.heap.size+2,3,none⟩=some (I4 i):=ze u.o 3;have y4:X.cell? ⟨w.heap.size+2,4,none⟩=some (I4 g):=ze u.o 4
 have s:X.cell? ⟨w.heap.size+2,5,none⟩=some (.slice ka kids.length kc):=ze u.o 5;exact bodyPost_ret (v:= .agg #[I4 k,I4 n,I4 m,I4 i,I4 g, .slice ka kids.length kc]) (by simp [results,Tryz.results12,go_sem,y0,y1,y2,y3,y4,s]) rfl ⟨.mk k ⟨n,m,i,g⟩ kids,ka,_,kc,rfl,(O.o.since y.o (λb E h=>by omega)).at_,vP.o,uh.o,D.o.trans (y.o.below D.o.size (λb E=>by omega))⟩
