/- Steps. -/
import Derived.Test.YtknmdmimecepfaaGreatDoorVhClone
import Derived.Test.YtknmdmimecepfaaGreatDoorVhMade2
set_option linter.all false
namespace Go.Proofs.YtknmdmimecepfaaGreatDoor
open Go.RowKit
set_option maxRecDepth 100000
set_option maxHeartbeats 16000000
theorem zdJ:∃i,Tryz.prog.info? 3=some i/\i.size=1:=by
 have h:(Tryz.prog.info? 3).map (λi=>i.size)=some 1:=by kernel_rfl
 cases hq:Tryz.prog.info? 3 with
 |none=>rw [hq] at h;cases h
 |some i=>rw [hq] at h;exact⟨i,rfl,by simpa using h⟩
theorem zhn:Tryz.prog.cellsOf 3=1:=by kernel_rfl
theorem zc9:Tryz.prog.underlying 3=some (.int .i64):=by kernel_rfl
theorem zho:Tryz.prog.underlying 59=some (.array 4 3):=by kernel_rfl
theorem zfS (d:Nat) (w:World) (a b:Int):(Op.equalIn (d+1) 3 (.int .i64 a) (.int .i64 b)).run Tryz.prog w= .ok (a==b) w:=by
 simp [Op.equalIn,run_underlying zc9]
theorem kg (w:World) (xs:Array Value) (j:Nat) (a:Int) (h:xs[j]? =some (.int .i64 a)):(part 3 xs j).run Tryz.prog w= .ok (.int .i64 a) w:=by
 obtain⟨i,hi,hs⟩:=zdJ
 have hagg:(isAgg 3).run Tryz.prog w= .ok false w:=by
  unfold isAgg
  rw [Sem.run_bind,run_underlying zc9 w]
  rfl
 simp [part,Sem.run_bind,hagg,h]
@[go_sem] theorem zoR (w:World) (q0 q1 q2 q3 p0 p1 p2 p3:Int):(Op.equalIn 10000 59 (.agg #[.int .i64 q0, .int .i64 q1, .int .i64 q2, .int .i64 q3]) (.agg #[.int .i64 p0, .int .i64 p1, .int .i64 p2, .int .i64 p3])).run Tryz.prog w
  = .ok (decide (([q0,q1,q2,q3] :List Int)= [p0,p1,p2,p3])) w:=by
 obtain⟨i,hi,hs⟩:=zdJ
 rw [run_equalIn_array w 9999 _ _ zho hi,zhn]
 have e:List.range 4= [0,1,2,3] :=rfl
 rw [e]
 have g0:=λ(w:World) (a b c d:Int)=>kg w #[.int .i64 a, .int .i64 b, .int .i64 c, .int .i64 d] 0 a rfl
 have g1:=λ(w:World) (a b c d:Int)=>kg w #[.int .i64 a, .int .i64 b, .int .i64 c, .int .i64 d] 1 b rfl
 have g2:=λ(w:World) (a b c d:Int)=>kg w #[.int .i64 a, .int .i64 b, .int .i64 c, .int .i64 d] 2 c rfl
 have g3:=λ(w:World) (a b c d:Int)=>kg w #[.int .i64 a, .int .i64 b, .int .i64 c, .int .i64 d] 3 d rfl
 have ge:=zfS 9998
 by_cases h0:q0=p0
 ·by_cases h1:q1=p1
  ·by_cases h2:q2=p2
   ·by_cases h3:q3=p3
    ·simp [Op.eqItems,g0,g1,g2,g3,ge,h0,h1,h2,h3]
    simp [Op.eqItems,g0,g1,g2,g3,ge,h0,h1,h2,h3]
   simp [Op.eqItems,g0,g1,g2,g3,ge,h0,h1,h2]
  simp [Op.eqItems,g0,g1,g2,g3,ge,h0,h1]
 simp [Op.eqItems,g0,g1,g2,g3,ge,h0]
end Go.Proofs.YtknmdmimecepfaaGreatDoor
namespace Go.Proofs.YtknmdmimecepfaaGreatDoor
open Go.RowKit
set_option maxRecDepth 100000
set_option maxHeartbeats 16000000
def zrw (w:World) (s:zi9) (sv mv nv:Value):Prop:=zkm w sv s.states/\zf znl 1 w mv s.moves/\zf zoX 1 w nv s.next
section
variable {W X X1:World} {g r:Nat} {sv mv nv xv:Value} {sl:List uJ} {ml:List (List bA)} {nl:List (List Int)} {xl:List Int} {sc mc nc:List (List Value)}
theorem zka {B e size n g:Nat} {v:Value} {xs:List Value} {c:Array Value} {t:TypeId} {f:Nat × Nat} {o:Obj} (h:X.ownsRow B e size v n xs) (hb:X.heap[g]? =some (.cells c t f)) (hne:e≠t) (h4:Since (λk=>v.ownBlock=some k) (X.alloc o) X1):X1.heap[g]? =some (.cells c t f):=
 ((((Since.refl _ X).alloc o).trans h4 (λ_ hk=> .inl hk):Since (λk=>v.ownBlock=some k) X X1).block _ (zI hb) (λe=>yX h hb hne _ e rfl)).trans hb
end
end Go.Proofs.YtknmdmimecepfaaGreatDoor
namespace Go.Proofs.YtknmdmimecepfaaGreatDoor
open Go.RowKit
set_option maxRecDepth 100000
set_option maxHeartbeats 16000000
theorem vS {dom n:Int} :zcA dom n=true↔0<=n/\n<dom:=by unfold zcA;simp
theorem zmt {regs:List Int} {dom:Int} (hd:1<=dom) (hr:∀k,k<4->zcA dom (regs.getD k 0)=true) {x:zC} {e:Nat} (hx:zS dom e x=true) (d:Nat):zcA dom (yt regs dom d x)=true:=by
 cases d with
 |zero=>rw [vS];unfold yt;omega
 |succ d=>
 unfold yt
 cases e with
 |zero=>cases hx
 |succ e=>
 unfold zS at hx
 split
 ·rename_i h1
  rw [if_pos h1] at hx
  simp only [Bool.and_eq_true,decide_eq_true_eq] at hx
  rw [vS];exact hx.1.1
 split
 ·split
  ·rename_i h;exact hr _ (by omega)
  rw [vS];omega
 split
 ·rw [vS];exact⟨Int.emod_nonneg _ (by omega),Int.emod_lt_of_pos _ (by omega)⟩
 rw [vS];omega
theorem ziA {c:zl} (h:codeOk c=true) {i k:Nat} (hi:i<c.threads.length) (hk:k<(c.threads.getD i []).length):qC c.vars c.domain (c.threads.getD i []).length ((c.threads.getD i []).getD k default)=true:=by
 unfold codeOk at h
 simp only [Bool.and_eq_true] at h
 have h1:=h.2
 rw [List.all_eq_true] at h1
 have h2:=h1 _ (zV (x:= []) hi)
 unfold rowOk at h2
 simp only [Bool.and_eq_true] at h2
 have h4:=h2.2
 rw [List.all_eq_true] at h4
 exact h4 _ (zV hk)
end Go.Proofs.YtknmdmimecepfaaGreatDoor
namespace Go.Proofs.YtknmdmimecepfaaGreatDoor
open Go.RowKit
set_option maxRecDepth 100000
set_option maxHeartbeats 16000000
theorem zir:(Tryz.prog.info? 59).map (λi=>(i.zero,i.size,i.bytes))=some (some (.agg #[.int .i64 0, .int .i64 0, .int .i64 0, .int .i64 0]),4,32):=by kernel_rfl
structure uo (W X:World) (g:Nat) (mv rv:Value) (mem:List Int) (regs:List (List Int)):Prop where
 below:Below W.heap.size W X
 lo:W.heap.size<=g
 box:X.heap[g]? =some (.cells #[mv,rv] 51 (0,0))
 zeu:X.ownsRow W.heap.size 3 1 mv mem.length (zm zR mem)
 zaD:X.ownsRow W.heap.size 59 4 rv regs.length (zm zb6 regs)
section
variable {W X X1:World} {g:Nat} {mv rv rv':Value} {mem:List Int} {regs:List (List Int)}
theorem uo.later (h:uo W X g mv rv mem regs) (hb:Below X.heap.size X X1):uo W X1 g mv rv mem regs:=⟨zn h.below hb,h.lo,(hb.block _ (zI h.box)).trans h.box,yV h.zeu hb,yV h.zaD hb⟩
theorem uo.push (h:uo W X g mv rv mem regs) {o:Obj} {x:List Int} (h1:X1.ownsRow W.heap.size 59 4 rv' (regs.length+1) (zm zb6 regs++zb6 x)) (h4:Since (λk=>rv.ownBlock=some k) (X.alloc o) X1):
  uo W (X1.setCell ⟨g,1,none⟩ rv') g mv rv' mem (regs++ [x]):=by
 have s1:Since (λk=>rv.ownBlock=some k) X X1:=((Since.refl _ X).alloc o).trans h4 (λk hk=> .inl hk)
 have b1:X1.heap[g]? =some (.cells #[mv,rv] 51 (0,0)):=(s1.block _ (zI h.box) (λe=>yX h.zaD h.box (by decide) _ e rfl)).trans h.box
 have s2:Since (λk=>k=g) X1 (X1.setCell ⟨g,1,none⟩ rv'):=Since.setCell (F:=λk=>k=g) (p:=⟨g,1,none⟩) (Since.refl _ _) (.inl rfl) _
 have m1:=s1.row h.zeu (λk hk e=>zhp h.zeu h.zaD (by decide) k hk e)
 refine⟨h.below.trans ((s1.below h.below.size (λk hk=>(h.zaD.lt k hk).1)).trans (s2.below (Nat.le_trans h.below.size s1.size) (λk e=>by rw [e];exact h.lo))),h.lo, ?_,s2.row m1 (λk hk e=>yX m1 b1 (by decide) k hk e), ?_⟩
 ·have:=zq b1 1 rv';simpa using this
 rw [List.length_append,zdK]
 exact s2.row h1 (λk hk e=>yX h1 b1 (by decide) k hk e)
end
end Go.Proofs.YtknmdmimecepfaaGreatDoor
namespace Go.Proofs.YtknmdmimecepfaaGreatDoor
open Go.RowKit
set_option maxRecDepth 100000
set_option maxHeartbeats 16000000
theorem zhq:(Tryz.prog.info? 51).map (λi=>(i.zero,i.size,i.bytes))=some (some (.agg #[.slice none 0 0, .slice none 0 0]),2,48):=by kernel_rfl
structure kr {α:Type} [Inhabited α] (W X:World) (R:World->α->List Value->Prop) (size:Nat) (e:TypeId) (v:Value) (l:List α) (css:List (List Value)):Prop where
 below:Below W.heap.size W X
 len:css.length=l.length
 part:∀j,j<l.length->(css.getD j []).length=size/\R W (l.getD j default) (css.getD j [])
 row:X.ownsRow W.heap.size e size v l.length css.flatten
section
variable {α:Type} [Inhabited α] {W X X':World} {R:World->α->List Value->Prop} {size:Nat} {e:TypeId} {v v':Value} {l:List α} {css:List (List Value)}
theorem kr.nil (W:World) (R:World->α->List Value->Prop) (size:Nat) (e:TypeId) {X:World} (h:Below W.heap.size W X):kr W X R size e (.slice none 0 0) [] [] :=⟨h,rfl,λj hj=>by simp at hj,World.ownsRow_nil _ _ _ _⟩
theorem kr.later (h:kr W X R size e v l css) (hb:Below X.heap.size X X'):kr W X' R size e v l css:=⟨zn h.below hb,h.len,h.part,yV h.row hb⟩
theorem kr.push (h:kr W X R size e v l css) {x:α} {cs:List Value} {o:Obj} (hx:R W x cs) (hc:cs.length=size) (h1:X'.ownsRow W.heap.size e size v' (l.length+1) (css.flatten++cs)) (h4:Since (λk=>v.ownBlock=some k) (X.alloc o) X'):kr W X' R size e v' (l++ [x]) (css++ [cs]):=by
 have s1:Since (λk=>v.ownBlock=some k) X X':=((Since.refl _ X).alloc o).trans h4 (λk hk=> .inl hk)
 refine⟨h.below.trans (s1.below h.below.size (λk hk=>(h.row.lt k hk).1)),by simp [h.len],λj hj=> ?_, ?_⟩
 ·rw [List.length_append] at hj
  simp only [List.length_cons,List.length_nil] at hj
  by_cases e:j=l.length
  ·subst e
   rw [vT,show l.length=css.length from h.len.symm,vT]
   exact⟨hc,hx⟩
  have hj':j<l.length:=by omega
  rw [vU hj',vU (by rw [h.len];exact hj')]
  exact h.part j hj'
 rw [List.length_append,List.flatten_append]
 simpa using h1
theorem kr.slice (h:kr W X R size e v l css) (hR:qN R):zf R size X v l:=
 zf.uj h.row λj hj=>⟨css.getD j [],(h.part j hj).1,λi hi=>gM (λj hj=>(h.part j (by rw [<-h.len];exact hj)).1) (by rw [h.len];exact hj) hi,hR _ _ _ _ (h.part j hj).2 h.below⟩
end
theorem zkn {l:List zy} {i:Nat} (hi:i<l.length):l.take (i+1)=l.take i++ [l.getD i default] :=by
 rw [List.take_succ_eq_append_getElem hi,List.getD_eq_getElem?_getD,List.getElem?_eq_getElem hi];rfl
def ziB (w:World) (l:List zy) (e:Ending) (w':World):Prop:=(∃xa xc,e= .returned (.slice xa l.length xc)/\yK w' (.slice xa l.length xc) l)/\Below w.heap.size w w'
theorem ziC {w w':World} {l:List zy} {xa:Option Addr} {xn xc:Nat} (hn:xn=l.length) (h:yK w' (.slice xa xn xc) l) (hb:Below w.heap.size w w'):ziB w l (.returned (.slice xa xn xc)) w':=by subst hn;exact⟨⟨xa,xc,rfl,h⟩,hb⟩
