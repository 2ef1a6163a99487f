/- Steps. -/
import Derived.Test.YtknmdmimecepfaaGreatDoorVhData
set_option linter.all false
namespace Go.Proofs.YtknmdmimecepfaaGreatDoor
open Go.RowKit
set_option maxRecDepth 100000
set_option maxHeartbeats 16000000
def evalOp (op a b:Int):Int:=
 if op=43 then wrap64 (a+b) else if op=45 then wrap64 (a - b) else if op=42 then wrap64 (a*b) else if op=38 then bits .and .i64 a b else if op=124 then bits .or .i64 a b
 else if op=60 then(if a<b then 1 else 0) else if op=61 then(if a=b then 1 else 0) else if op=33 then(if a=b then 0 else 1) else 0
def yt (regs:List Int) (dom:Int):Nat->zC->Int
 |0,_=>0
 |d+1,x=>
 if x.kind=1 then x.n
 else if x.kind=2 then(if 0<=x.n/\x.n<4 then regs.getD x.n.toNat 0 else 0)
 else if x.kind=3/\x.kids.length=2 then evalOp x.op (yt regs dom d (x.kids.getD 0 default)) (yt regs dom d (x.kids.getD 1 default)) % dom
 else 0
theorem zkZ (n dom:Int) (h:1<=dom):(n.tmod dom+dom).tmod dom=n % dom:=by
 have h1:=Int.tmod_lt_of_pos n (show 0<dom by omega)
 have h2:=Int.lt_tmod_of_pos n (show 0<dom by omega)
 rw [Int.tmod_eq_emod_of_nonneg (by omega),Int.add_emod_right]
 rw [Int.tmod_def]
 rw [Int.sub_emod,Int.mul_emod_right]
 simp
theorem wrap_add {q dom:Int} (h2:q<dom) (h3: -dom<q) (h1:1<=dom) (h:dom<=1000):wrap64 (q+dom)=q+dom:=by unfold wrap64;omega
theorem zla (w:World) (o1:Obj) (r0 r1 r2 r3:Int):∀m:Nat,m<4->((w.alloc o1).alloc (.cells #[.int .i64 r0, .int .i64 r1, .int .i64 r2, .int .i64 r3] 59)).cell? ⟨w.heap.size+1,m,none⟩=some (.int .i64 ([r0,r1,r2,r3].getD m 0)):=λm hm=>by
 rw [ze (xu w _ _) m]
 have:m=0\/m=1\/m=2\/m=3:=by omega
 rcases this with rfl|rfl|rfl|rfl<;>rfl
structure zP where
 v:Int
 n:Int
 reads:Bool
 writes:Bool
 fence:Bool
 come:Bool
 deriving DecidableEq
instance:Inhabited zP:=⟨⟨0,0,false,false,false,false⟩⟩
def zP.cells (e:zP):List Value:= [.int .i64 e.v, .int .i64 e.n, .bool e.reads, .bool e.writes, .bool e.fence, .bool e.come]
def zP.val (e:zP):Value:= .agg #[.int .i64 e.v, .int .i64 e.n, .bool e.reads, .bool e.writes, .bool e.fence, .bool e.come]
structure zH where
 at_:Nat
 regs:List Int
 evs:List zP
 many:Nat
 deriving DecidableEq
instance:Inhabited zH:=⟨⟨0, [0,0,0,0],List.replicate 8 default,0⟩⟩
def zH.cells (t:zH):List Value:= .int .i64 t.at_::(zm zR t.regs++(zm zP.cells t.evs++ [.int .i64 t.many]))
structure zH.ok (t:zH):Prop where
 regs:t.regs.length=4
 evs:t.evs.length=8
 many:t.many<=8
structure za where
 zD:List zH
 mem:List Int
 fails:Bool
 deriving DecidableEq
instance:Inhabited za:=⟨⟨List.replicate 4 default, [0,0,0,0],false⟩⟩
def za.cells (W:za):List Value:=zm zH.cells W.zD++(zm zR W.mem++ [.bool W.fails])
structure za.ok (W:za):Prop where
 zD:W.zD.length=4
 mem:W.mem.length=4
 each:∀t∈W.zD,t.ok
theorem yj {α:Type} {f:α->List Value} {size:Nat} :∀ {l:List α},(∀x∈l,(f x).length=size)->(zm f l).length=l.length*size:=by
 intro l
 induction l with
 |nil=>intro _;simp [zm]
 |cons x l ih=>
 intro h
 have h1:=h x (by simp)
 have h2:=ih λy hy=>h y (by simp [hy])
 simp only [zm,List.flatMap_cons,List.length_append,List.length_cons] at h2 ⊢
 rw [h1,h2,Nat.add_mul];omega
theorem gW {α:Type} [Inhabited α] {f:α->List Value} {size:Nat} :∀ {l:List α} {j i:Nat},(∀x∈l,(f x).length=size)->j<l.length->i<size->(zm f l)[j*size+i]? =(f (l.getD j default))[i]? :=by
 intro l
 induction l with
 |nil=>intro j i _ h;simp at h
 |cons x l ih=>
 intro j i h hj hi
 have h1:=h x (by simp)
 show(f x++zm f l)[j*size+i]? =_
 cases j with
 |zero=>rw [List.getElem?_append_left (by omega)];simp
 |succ j=>
 rw [List.getElem?_append_right (by rw [h1,Nat.add_mul];omega),h1]
 have:=ih (j:=j) (i:=i) (λy hy=>h y (by simp [hy])) (by simpa using hj) hi
 rw [show(j+1)*size+i - size=j*size+i by rw [Nat.add_mul];omega,this]
 simp
theorem wH {α:Type} [Inhabited α] {f:α->List Value} {size:Nat} :∀ {l:List α} {j i:Nat} {x':α} {u:Value},(∀x∈l,(f x).length=size)->j<l.length->i<size->f x'=(f (l.getD j default)).set i u->(zm f l).set (j*size+i) u=zm f (l.set j x'):=by
 intro l
 induction l with
 |nil=>intro j i _ _ _ h;simp at h
 |cons x l ih=>
 intro j i x' u h hj hi he
 have h1:=h x (by simp)
 show(f x++zm f l).set (j*size+i) u=_
 cases j with
 |zero=>
  rw [List.set_append_left _ _ (by omega)]
  simp only [Nat.zero_mul,Nat.zero_add,List.getD_cons_zero,List.set_cons_zero] at he ⊢
  rw [<-he];rfl
 |succ j=>
 rw [List.set_append_right _ _ (by rw [h1,Nat.add_mul];omega),h1]
 have:=ih (j:=j) (i:=i) (x':=x') (u:=u) (λy hy=>h y (by simp [hy])) (by simpa using hj) hi (by simpa using he)
 rw [show(j+1)*size+i - size=j*size+i by rw [Nat.add_mul];omega,this]
 rfl
theorem qX {α:Type} [Inhabited α] {l:List α} {j:Nat} (h:j<l.length):l.getD j default∈l:=by
 rw [List.getD_eq_getElem?_getD,List.getElem?_eq_getElem h];exact List.getElem_mem h
theorem kJ {α:Type} {l:List α} {j:Nat} {x y:α} (h:y∈l.set j x):y=x\/y∈l:=by
 rcases List.mem_or_eq_of_mem_set h with h|h
 ·exact .inr h
 exact .inl h
theorem zQ (l:List Int):(zm zR l).length=l.length:=by rw [yj (size:=1) (λ_ _=>rfl)];omega
theorem q8 (l:List zP):(zm zP.cells l).length=l.length*6:=yj λ_ _=>rfl
theorem zH.xk {t:zH} (h:t.ok):t.cells.length=54:=by
 unfold zH.cells
 simp only [List.length_cons,List.length_append,zQ,q8,h.regs,h.evs,List.length_nil]
theorem za.xk {W:za} (h:W.ok):W.cells.length=221:=by
 unfold za.cells
 rw [List.length_append,List.length_append,yj (size:=54) (λt ht=>zH.xk (h.each t ht)),zQ,h.zD,h.mem];rfl
theorem zH.zoK {t:zH} (h:t.ok) {k:Nat} (hk:k<4):t.cells[1+k]? =some (.int .i64 (t.regs.getD k 0)):=by
 unfold zH.cells
 rw [Nat.add_comm,List.getElem?_cons_succ,List.getElem?_append_left (by rw [zQ,h.regs];omega)]
 have:=gW (f:=zR) (size:=1) (l:=t.regs) (j:=k) (i:=0) (λ_ _=>rfl) (by rw [h.regs];omega) (by omega)
 rw [Nat.mul_one,Nat.add_zero] at this
 rw [this];rfl
theorem zH.zpr {t:zH} (h:t.ok) {j i:Nat} (hj:j<8) (hi:i<6):t.cells[5+j*6+i]? =(t.evs.getD j default).cells[i]? :=by
 unfold zH.cells
 rw [show 5+j*6+i=(4+(j*6+i))+1 by omega,List.getElem?_cons_succ,List.getElem?_append_right (by rw [zQ,h.regs];omega),zQ,h.regs,
  List.getElem?_append_left (by rw [q8,h.evs];omega),show 4+(j*6+i) - 4=j*6+i by omega,gW (f:=zP.cells) (size:=6) (λ_ _=>rfl) (by rw [h.evs];exact hj) hi]
theorem zH.zmL {t:zH} (h:t.ok):t.cells[53]? =some (.int .i64 t.many):=by
 unfold zH.cells
 rw [show 53=52+1 by omega,List.getElem?_cons_succ,List.getElem?_append_right (by rw [zQ,h.regs];omega),zQ,h.regs,
  List.getElem?_append_right (by rw [q8,h.evs];omega),q8,h.evs];rfl
theorem zH.zmM (t:zH) (a:Nat):(⟨a,t.regs,t.evs,t.many⟩:zH).cells=t.cells.set 0 (.int .i64 a):=rfl
theorem zH.zmq {t:zH} (h:t.ok) {k:Nat} (hk:k<4) (x:Int):(⟨t.at_,t.regs.set k x,t.evs,t.many⟩:zH).cells=t.cells.set (1+k) (.int .i64 x):=by
 unfold zH.cells
 rw [Nat.add_comm,List.set_cons_succ,List.set_append_left _ _ (by rw [zQ,h.regs];omega)]
 have:=wH (f:=zR) (size:=1) (l:=t.regs) (j:=k) (i:=0) (x':=x) (u:= .int .i64 x) (λ_ _=>rfl) (by rw [h.regs];omega) (by omega) rfl
 rw [Nat.mul_one,Nat.add_zero] at this
 rw [this]
theorem zH.zmN {t:zH} (h:t.ok) {j i:Nat} (hj:j<8) (hi:i<6) {e:zP} {u:Value} (he:e.cells=(t.evs.getD j default).cells.set i u):(⟨t.at_,t.regs,t.evs.set j e,t.many⟩:zH).cells=t.cells.set (5+j*6+i) u:=by
 unfold zH.cells
 rw [show 5+j*6+i=(4+(j*6+i))+1 by omega,List.set_cons_succ,List.set_append_right _ _ (by rw [zQ,h.regs];omega),zQ,h.regs,
  List.set_append_left _ _ (by rw [q8,h.evs];omega),show 4+(j*6+i) - 4=j*6+i by omega,wH (f:=zP.cells) (size:=6) (λ_ _=>rfl) (by rw [h.evs];exact hj) hi he]
theorem zH.zjX {t:zH} (h:t.ok) (n:Nat):(⟨t.at_,t.regs,t.evs,n⟩:zH).cells=t.cells.set 53 (.int .i64 n):=by
 unfold zH.cells
 rw [show 53=52+1 by omega,List.set_cons_succ,List.set_append_right _ _ (by rw [zQ,h.regs];omega),zQ,h.regs,
  List.set_append_right _ _ (by rw [q8,h.evs];omega),q8,h.evs];rfl
theorem za.yU {W:za} (h:W.ok):∀t∈W.zD,t.cells.length=54:=λt ht=>zH.xk (h.each t ht)
theorem za.yu {W:za} (h:W.ok) {i:Nat} (hi:i<4):(W.zD.getD i default).ok:=h.each _ (qX (by rw [h.zD];exact hi))
theorem za.zps {W:za} (h:W.ok) {i k:Nat} (hi:i<4) (hk:k<54):W.cells[i*54+k]? =(W.zD.getD i default).cells[k]? :=by
 unfold za.cells
 rw [List.getElem?_append_left (by rw [yj (za.yU h),h.zD];omega),gW (za.yU h) (by rw [h.zD];exact hi) hk]
theorem za.at_mem {W:za} (h:W.ok) {v:Nat} (hv:v<4):W.cells[216+v]? =some (.int .i64 (W.mem.getD v 0)):=by
 unfold za.cells
 rw [List.getElem?_append_right (by rw [yj (za.yU h),h.zD];omega),yj (za.yU h),h.zD,List.getElem?_append_left (by rw [zQ,h.mem];omega)]
 have:=gW (f:=zR) (size:=1) (l:=W.mem) (j:=v) (i:=0) (λ_ _=>rfl) (by rw [h.mem];omega) (by omega)
 rw [Nat.mul_one,Nat.add_zero] at this
 rw [show 216+v - 4*54=v by omega,this];rfl
theorem za.zlk {W:za} (h:W.ok):W.cells[220]? =some (.bool W.fails):=by
 unfold za.cells
 rw [List.getElem?_append_right (by rw [yj (za.yU h),h.zD];omega),yj (za.yU h),h.zD,List.getElem?_append_right (by rw [zQ,h.mem];omega),zQ,h.mem];rfl
theorem za.zc0 {W:za} (h:W.ok) {i k:Nat} (hi:i<4) (hk:k<54) {t:zH} {u:Value} (he:t.cells=(W.zD.getD i default).cells.set k u):(⟨W.zD.set i t,W.mem,W.fails⟩:za).cells=W.cells.set (i*54+k) u:=by
 unfold za.cells
 rw [List.set_append_left _ _ (by rw [yj (za.yU h),h.zD];omega),wH (za.yU h) (by rw [h.zD];exact hi) hk he]
theorem za.zmp {W:za} (h:W.ok) {v:Nat} (hv:v<4) (x:Int):(⟨W.zD,W.mem.set v x,W.fails⟩:za).cells=W.cells.set (216+v) (.int .i64 x):=by
 unfold za.cells
 rw [List.set_append_right _ _ (by rw [yj (za.yU h),h.zD];omega),yj (za.yU h),h.zD,List.set_append_left _ _ (by rw [zQ,h.mem];omega)]
 have:=wH (f:=zR) (size:=1) (l:=W.mem) (j:=v) (i:=0) (x':=x) (u:= .int .i64 x) (λ_ _=>rfl) (by rw [h.mem];omega) (by omega) rfl
 rw [Nat.mul_one,Nat.add_zero] at this
 rw [show 216+v - 4*54=v by omega,this]
theorem za.zif {W:za} (h:W.ok) (b:Bool):(⟨W.zD,W.mem,b⟩:za).cells=W.cells.set 220 (.bool b):=by
 unfold za.cells
 rw [List.set_append_right _ _ (by rw [yj (za.yU h),h.zD];omega),yj (za.yU h),h.zD,List.set_append_right _ _ (by rw [zQ,h.mem];omega),zQ,h.mem];rfl
def za.put (W:za) (i:Nat) (t:zH):za:=⟨W.zD.set i t,W.mem,W.fails⟩
theorem za.za9 {W:za} (h:W.ok) (i:Nat) {t:zH} (ht:t.ok):(W.put i t).ok:=⟨by simp [za.put,h.zD],h.mem,λx hx=>by
 rcases kJ hx with rfl|hx
 ·exact ht
 exact h.each x hx⟩
theorem za.ug {W:za} (h:W.ok) {i:Nat} (hi:i<4) (t:zH):(W.put i t).zD.getD i default=t:=by
 unfold za.put
 rw [List.getD_eq_getElem?_getD,List.getElem?_set_self (by rw [h.zD];exact hi)];rfl
theorem za.znf {W:za} {i j:Nat} (hij:i≠j) (t:zH):(W.put i t).zD.getD j default=W.zD.getD j default:=by
 unfold za.put
 rw [List.getD_eq_getElem?_getD,List.getElem?_set_ne hij, <-List.getD_eq_getElem?_getD]
structure zo (w:World) (g:Nat) (W:za):Prop where
 blk:w.heap[g]? =some (.cells W.cells.toArray 67 (0,0))
 ok:W.ok
theorem zo.later {w w':World} {g:Nat} {W:za} (h:zo w g W) (hb:Below w.heap.size w w'):zo w' g W:=⟨(hb.block _ (zI h.blk)).trans h.blk,h.ok⟩
theorem zo.since {F:Nat->Prop} {w w':World} {g:Nat} {W:za} (h:zo w g W) (hs:Since F w w') (hf:¬F g):zo w' g W:=⟨(hs.block g (zI h.blk) hf).trans h.blk,h.ok⟩
theorem zo.cell {w:World} {g:Nat} {W:za} (h:zo w g W) {k:Nat} {u:Value} (hu:W.cells[k]? =some u):w.cell? ⟨g,k,none⟩=some u:=by
 rw [ze h.blk k,List.getElem?_toArray,hu]
theorem zo.th {w:World} {g:Nat} {W:za} (h:zo w g W) {i k:Nat} (hi:i<4) (hk:k<54) {u:Value} (hu:(W.zD.getD i default).cells[k]? =some u):w.cell? ⟨g,i*54+k,none⟩=some u:=h.cell ((za.zps h.ok hi hk).trans hu)
theorem zo.at0 {w:World} {g:Nat} {W:za} (h:zo w g W) {i:Nat} (hi:i<4):w.cell? ⟨g,i*54,none⟩=some (.int .i64 (W.zD.getD i default).at_):=h.th hi (k:=0) (by omega) rfl
theorem zo.reg {w:World} {g:Nat} {W:za} (h:zo w g W) {i k:Nat} (hi:i<4) (hk:k<4):w.cell? ⟨g,i*54+1+k,none⟩=some (.int .i64 ((W.zD.getD i default).regs.getD k 0)):=by
 have:=h.th hi (k:=1+k) (by omega) (zH.zoK (za.yu h.ok hi) hk)
 rwa [<-Nat.add_assoc] at this
theorem zo.ev {w:World} {g:Nat} {W:za} (h:zo w g W) {i j k:Nat} (hi:i<4) (hj:j<8) (hk:k<6) {u:Value} (hu:((W.zD.getD i default).evs.getD j default).cells[k]? =some u):w.cell? ⟨g,i*54+5+j*6+k,none⟩=some u:=by
 have:=h.th hi (k:=5+j*6+k) (by omega) ((zH.zpr (za.yu h.ok hi) hj hk).trans hu)
 rwa [show i*54+(5+j*6+k)=i*54+5+j*6+k by omega] at this
theorem zo.many {w:World} {g:Nat} {W:za} (h:zo w g W) {i:Nat} (hi:i<4):w.cell? ⟨g,i*54+53,none⟩=some (.int .i64 (W.zD.getD i default).many):=h.th hi (by omega) (zH.zmL (za.yu h.ok hi))
theorem zo.mem {w:World} {g:Nat} {W:za} (h:zo w g W) {v:Nat} (hv:v<4):w.cell? ⟨g,216+v,none⟩=some (.int .i64 (W.mem.getD v 0)):=h.cell (za.at_mem h.ok hv)
theorem zo.fails {w:World} {g:Nat} {W:za} (h:zo w g W):w.cell? ⟨g,220,none⟩=some (.bool W.fails):=h.cell (za.zlk h.ok)
theorem zo.free {w:World} {g:Nat} {W:za} (h:zo w g W) (k:Nat):w.frozen? ⟨g,k,none⟩=false:=yD h.blk k
theorem zo.store {w:World} {g:Nat} {W:za} (h:zo w g W) {k:Nat} {u:Value} {W':za} (he:W'.cells=W.cells.set k u) (hk:W'.ok):zo (w.setCell ⟨g,k,none⟩ u) g W':=by
 refine⟨?_,hk⟩
 have:=zq h.blk k u
 rw [this,he];simp
theorem zo.range {w:World} {g:Nat} {W:za} (h:zo w g W):w.rangeAt g 0 W.cells:=λj v hv=>by rw [Nat.zero_add];exact h.cell hv
