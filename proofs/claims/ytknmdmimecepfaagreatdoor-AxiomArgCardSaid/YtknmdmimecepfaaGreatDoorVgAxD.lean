/- Steps. -/
import Derived.Test.YtknmdmimecepfaaGreatDoorVgApp
set_option linter.all false
namespace Go.Proofs.YtknmdmimecepfaaGreatDoor
open Go.RowKit
set_option maxRecDepth 100000
set_option maxHeartbeats 16000000
structure yg where
 v:Int
 n:Int
 reads:Bool
 writes:Bool
 fence:Bool
 come:Bool
 deriving DecidableEq
instance:Inhabited yg:=⟨⟨0,0,false,false,false,false⟩⟩
def yg.cells (e:yg):List Value:= [.int .i64 e.v, .int .i64 e.n, .bool e.reads, .bool e.writes, .bool e.fence, .bool e.come]
def yg.val (e:yg):Value:= .agg #[.int .i64 e.v, .int .i64 e.n, .bool e.reads, .bool e.writes, .bool e.fence, .bool e.come]
structure zR where
 at_:Nat
 regs:List Int
 evs:List yg
 many:Nat
 deriving DecidableEq
instance:Inhabited zR:=⟨⟨0, [0,0,0,0],List.replicate 8 default,0⟩⟩
def zR.cells (t:zR):List Value:= .int .i64 t.at_::(zD yG t.regs++(zD yg.cells t.evs++ [.int .i64 t.many]))
structure zR.ok (t:zR):Prop where
 regs:t.regs.length=4
 evs:t.evs.length=8
 many:t.many<=8
structure ze where
 zO:List zR
 mem:List Int
 fails:Bool
 deriving DecidableEq
instance:Inhabited ze:=⟨⟨List.replicate 4 default, [0,0,0,0],false⟩⟩
def ze.cells (W:ze):List Value:=zD zR.cells W.zO++(zD yG W.mem++ [.bool W.fails])
structure ze.ok (W:ze):Prop where
 zO:W.zO.length=4
 mem:W.mem.length=4
 each:∀t∈W.zO,t.ok
theorem yJ {α:Type} {f:α->List Value} {size:Nat} :∀ {l:List α},(∀x∈l,(f x).length=size)->(zD f l).length=l.length*size:=by
 intro l
 induction l with
 |nil=>intro _;simp [zD]
 |cons x l ih=>
 intro h
 have h1:=h x (by simp)
 have h2:=ih λy hy=>h y (by simp [hy])
 simp only [zD,List.flatMap_cons,List.length_append,List.length_cons] at h2 ⊢
 rw [h1,h2,Nat.add_mul];omega
theorem bP {α:Type} [Inhabited α] {f:α->List Value} {size:Nat} :∀ {l:List α} {j i:Nat},(∀x∈l,(f x).length=size)->j<l.length->i<size->(zD f l)[j*size+i]? =(f (l.getD j default))[i]? :=by
 intro l
 induction l with
 |nil=>intro j i _ h;simp at h
 |cons x l ih=>
 intro j i h hj hi
 have h1:=h x (by simp)
 show(f x++zD f l)[j*size+i]? =_
 cases j with
 |zero=>rw [List.getElem?_append_left (by omega)];simp
 |succ j=>
 rw [List.getElem?_append_right (by rw [h1,Nat.add_mul];omega),h1]
 have:=ih (j:=j) (i:=i) (λy hy=>h y (by simp [hy])) (by simpa using hj) hi
 rw [show(j+1)*size+i - size=j*size+i by rw [Nat.add_mul];omega,this]
 simp
theorem uS {α:Type} [Inhabited α] {f:α->List Value} {size:Nat} :∀ {l:List α} {j i:Nat} {x':α} {u:Value},(∀x∈l,(f x).length=size)->j<l.length->i<size->f x'=(f (l.getD j default)).set i u->(zD f l).set (j*size+i) u=zD f (l.set j x'):=by
 intro l
 induction l with
 |nil=>intro j i _ _ _ h;simp at h
 |cons x l ih=>
 intro j i x' u h hj hi he
 have h1:=h x (by simp)
 show(f x++zD f l).set (j*size+i) u=_
 cases j with
 |zero=>
  rw [List.set_append_left _ _ (by omega)]
  simp only [Nat.zero_mul,Nat.zero_add,List.getD_cons_zero,List.set_cons_zero] at he ⊢
  rw [<-he];rfl
 |succ j=>
 rw [List.set_append_right _ _ (by rw [h1,Nat.add_mul];omega),h1]
 have:=ih (j:=j) (i:=i) (x':=x') (u:=u) (λy hy=>h y (by simp [hy])) (by simpa using hj) hi (by simpa using he)
 rw [show(j+1)*size+i - size=j*size+i by rw [Nat.add_mul];omega,this]
 rfl
theorem jm {α:Type} [Inhabited α] {l:List α} {j:Nat} (h:j<l.length):l.getD j default∈l:=by
 rw [List.getD_eq_getElem?_getD,List.getElem?_eq_getElem h];exact List.getElem_mem h
theorem wY {α:Type} {l:List α} {j:Nat} {x y:α} (h:y∈l.set j x):y=x\/y∈l:=by
 rcases List.mem_or_eq_of_mem_set h with h|h
 ·exact .inr h
 exact .inl h
theorem zY (l:List Int):(zD yG l).length=l.length:=by rw [yJ (size:=1) (λ_ _=>rfl)];omega
theorem vO (l:List yg):(zD yg.cells l).length=l.length*6:=yJ λ_ _=>rfl
theorem zR.qc {t:zR} (h:t.ok):t.cells.length=54:=by
 unfold zR.cells
 simp only [List.length_cons,List.length_append,zY,vO,h.regs,h.evs,List.length_nil]
theorem ze.qc {W:ze} (h:W.ok):W.cells.length=221:=by
 unfold ze.cells
 rw [List.length_append,List.length_append,yJ (size:=54) (λt ht=>zR.qc (h.each t ht)),zY,h.zO,h.mem];rfl
theorem zR.zsV {t:zR} (h:t.ok) {k:Nat} (hk:k<4):t.cells[1+k]? =some (.int .i64 (t.regs.getD k 0)):=by
 unfold zR.cells
 rw [Nat.add_comm,List.getElem?_cons_succ,List.getElem?_append_left (by rw [zY,h.regs];omega)]
 have:=bP (f:=yG) (size:=1) (l:=t.regs) (j:=k) (i:=0) (λ_ _=>rfl) (by rw [h.regs];omega) (by omega)
 rw [Nat.mul_one,Nat.add_zero] at this
 rw [this];rfl
theorem zR.ztD {t:zR} (h:t.ok) {j i:Nat} (hj:j<8) (hi:i<6):t.cells[5+j*6+i]? =(t.evs.getD j default).cells[i]? :=by
 unfold zR.cells
 rw [show 5+j*6+i=(4+(j*6+i))+1 by omega,List.getElem?_cons_succ,List.getElem?_append_right (by rw [zY,h.regs];omega),zY,h.regs,
  List.getElem?_append_left (by rw [vO,h.evs];omega),show 4+(j*6+i) - 4=j*6+i by omega,bP (f:=yg.cells) (size:=6) (λ_ _=>rfl) (by rw [h.evs];exact hj) hi]
theorem zR.zqA {t:zR} (h:t.ok):t.cells[53]? =some (.int .i64 t.many):=by
 unfold zR.cells
 rw [show 53=52+1 by omega,List.getElem?_cons_succ,List.getElem?_append_right (by rw [zY,h.regs];omega),zY,h.regs,
  List.getElem?_append_right (by rw [vO,h.evs];omega),vO,h.evs];rfl
theorem zR.zsW (t:zR) (a:Nat):(⟨a,t.regs,t.evs,t.many⟩:zR).cells=t.cells.set 0 (.int .i64 a):=rfl
theorem zR.zqB {t:zR} (h:t.ok) {k:Nat} (hk:k<4) (x:Int):(⟨t.at_,t.regs.set k x,t.evs,t.many⟩:zR).cells=t.cells.set (1+k) (.int .i64 x):=by
 unfold zR.cells
 rw [Nat.add_comm,List.set_cons_succ,List.set_append_left _ _ (by rw [zY,h.regs];omega)]
 have:=uS (f:=yG) (size:=1) (l:=t.regs) (j:=k) (i:=0) (x':=x) (u:= .int .i64 x) (λ_ _=>rfl) (by rw [h.regs];omega) (by omega) rfl
 rw [Nat.mul_one,Nat.add_zero] at this
 rw [this]
theorem zR.zsX {t:zR} (h:t.ok) {j i:Nat} (hj:j<8) (hi:i<6) {e:yg} {u:Value} (he:e.cells=(t.evs.getD j default).cells.set i u):(⟨t.at_,t.regs,t.evs.set j e,t.many⟩:zR).cells=t.cells.set (5+j*6+i) u:=by
 unfold zR.cells
 rw [show 5+j*6+i=(4+(j*6+i))+1 by omega,List.set_cons_succ,List.set_append_right _ _ (by rw [zY,h.regs];omega),zY,h.regs,
  List.set_append_left _ _ (by rw [vO,h.evs];omega),show 4+(j*6+i) - 4=j*6+i by omega,uS (f:=yg.cells) (size:=6) (λ_ _=>rfl) (by rw [h.evs];exact hj) hi he]
theorem zR.zpd {t:zR} (h:t.ok) (n:Nat):(⟨t.at_,t.regs,t.evs,n⟩:zR).cells=t.cells.set 53 (.int .i64 n):=by
 unfold zR.cells
 rw [show 53=52+1 by omega,List.set_cons_succ,List.set_append_right _ _ (by rw [zY,h.regs];omega),zY,h.regs,
  List.set_append_right _ _ (by rw [vO,h.evs];omega),vO,h.evs];rfl
theorem ze.xY {W:ze} (h:W.ok):∀t∈W.zO,t.cells.length=54:=λt ht=>zR.qc (h.each t ht)
theorem ze.xB {W:ze} (h:W.ok) {i:Nat} (hi:i<4):(W.zO.getD i default).ok:=h.each _ (jm (by rw [h.zO];exact hi))
theorem ze.ztE {W:ze} (h:W.ok) {i k:Nat} (hi:i<4) (hk:k<54):W.cells[i*54+k]? =(W.zO.getD i default).cells[k]? :=by
 unfold ze.cells
 rw [List.getElem?_append_left (by rw [yJ (ze.xY h),h.zO];omega),bP (ze.xY h) (by rw [h.zO];exact hi) hk]
theorem ze.at_mem {W:ze} (h:W.ok) {v:Nat} (hv:v<4):W.cells[216+v]? =some (.int .i64 (W.mem.getD v 0)):=by
 unfold ze.cells
 rw [List.getElem?_append_right (by rw [yJ (ze.xY h),h.zO];omega),yJ (ze.xY h),h.zO,List.getElem?_append_left (by rw [zY,h.mem];omega)]
 have:=bP (f:=yG) (size:=1) (l:=W.mem) (j:=v) (i:=0) (λ_ _=>rfl) (by rw [h.mem];omega) (by omega)
 rw [Nat.mul_one,Nat.add_zero] at this
 rw [show 216+v - 4*54=v by omega,this];rfl
theorem ze.zpe {W:ze} (h:W.ok):W.cells[220]? =some (.bool W.fails):=by
 unfold ze.cells
 rw [List.getElem?_append_right (by rw [yJ (ze.xY h),h.zO];omega),yJ (ze.xY h),h.zO,List.getElem?_append_right (by rw [zY,h.mem];omega),zY,h.mem];rfl
theorem ze.zfo {W:ze} (h:W.ok) {i k:Nat} (hi:i<4) (hk:k<54) {t:zR} {u:Value} (he:t.cells=(W.zO.getD i default).cells.set k u):(⟨W.zO.set i t,W.mem,W.fails⟩:ze).cells=W.cells.set (i*54+k) u:=by
 unfold ze.cells
 rw [List.set_append_left _ _ (by rw [yJ (ze.xY h),h.zO];omega),uS (ze.xY h) (by rw [h.zO];exact hi) hk he]
theorem ze.zqC {W:ze} (h:W.ok) {v:Nat} (hv:v<4) (x:Int):(⟨W.zO,W.mem.set v x,W.fails⟩:ze).cells=W.cells.set (216+v) (.int .i64 x):=by
 unfold ze.cells
 rw [List.set_append_right _ _ (by rw [yJ (ze.xY h),h.zO];omega),yJ (ze.xY h),h.zO,List.set_append_left _ _ (by rw [zY,h.mem];omega)]
 have:=uS (f:=yG) (size:=1) (l:=W.mem) (j:=v) (i:=0) (x':=x) (u:= .int .i64 x) (λ_ _=>rfl) (by rw [h.mem];omega) (by omega) rfl
 rw [Nat.mul_one,Nat.add_zero] at this
 rw [show 216+v - 4*54=v by omega,this]
theorem ze.zne {W:ze} (h:W.ok) (b:Bool):(⟨W.zO,W.mem,b⟩:ze).cells=W.cells.set 220 (.bool b):=by
 unfold ze.cells
 rw [List.set_append_right _ _ (by rw [yJ (ze.xY h),h.zO];omega),yJ (ze.xY h),h.zO,List.set_append_right _ _ (by rw [zY,h.mem];omega),zY,h.mem];rfl
def ze.put (W:ze) (i:Nat) (t:zR):ze:=⟨W.zO.set i t,W.mem,W.fails⟩
theorem ze.zcd {W:ze} (h:W.ok) (i:Nat) {t:zR} (ht:t.ok):(W.put i t).ok:=⟨by simp [ze.put,h.zO],h.mem,λx hx=>by
 rcases wY hx with rfl|hx
 ·exact ht
 exact h.each x hx⟩
theorem ze.zaa {W:ze} (h:W.ok) {i:Nat} (hi:i<4) (t:zR):(W.put i t).zO.getD i default=t:=by
 unfold ze.put
 rw [List.getD_eq_getElem?_getD,List.getElem?_set_self (by rw [h.zO];exact hi)];rfl
theorem ze.zrx {W:ze} {i j:Nat} (hij:i≠j) (t:zR):(W.put i t).zO.getD j default=W.zO.getD j default:=by
 unfold ze.put
 rw [List.getD_eq_getElem?_getD,List.getElem?_set_ne hij, <-List.getD_eq_getElem?_getD]
structure zC (w:World) (g:Nat) (W:ze):Prop where
 blk:w.heap[g]? =some (.cells W.cells.toArray 67 (0,0))
 ok:W.ok
theorem zC.later {w w':World} {g:Nat} {W:ze} (h:zC w g W) (hb:Below w.heap.size w w'):zC w' g W:=⟨(hb.block _ (zB h.blk)).trans h.blk,h.ok⟩
theorem zC.since {F:Nat->Prop} {w w':World} {g:Nat} {W:ze} (h:zC w g W) (hs:Since F w w') (hf:¬F g):zC w' g W:=⟨(hs.block g (zB h.blk) hf).trans h.blk,h.ok⟩
theorem zC.cell {w:World} {g:Nat} {W:ze} (h:zC w g W) {k:Nat} {u:Value} (hu:W.cells[k]? =some u):w.cell? ⟨g,k,none⟩=some u:=by
 rw [za h.blk k,List.getElem?_toArray,hu]
theorem zC.th {w:World} {g:Nat} {W:ze} (h:zC w g W) {i k:Nat} (hi:i<4) (hk:k<54) {u:Value} (hu:(W.zO.getD i default).cells[k]? =some u):w.cell? ⟨g,i*54+k,none⟩=some u:=h.cell ((ze.ztE h.ok hi hk).trans hu)
theorem zC.at0 {w:World} {g:Nat} {W:ze} (h:zC w g W) {i:Nat} (hi:i<4):w.cell? ⟨g,i*54,none⟩=some (.int .i64 (W.zO.getD i default).at_):=h.th hi (k:=0) (by omega) rfl
theorem zC.reg {w:World} {g:Nat} {W:ze} (h:zC w g W) {i k:Nat} (hi:i<4) (hk:k<4):w.cell? ⟨g,i*54+1+k,none⟩=some (.int .i64 ((W.zO.getD i default).regs.getD k 0)):=by
 have:=h.th hi (k:=1+k) (by omega) (zR.zsV (ze.xB h.ok hi) hk)
 rwa [<-Nat.add_assoc] at this
theorem zC.ev {w:World} {g:Nat} {W:ze} (h:zC w g W) {i j k:Nat} (hi:i<4) (hj:j<8) (hk:k<6) {u:Value} (hu:((W.zO.getD i default).evs.getD j default).cells[k]? =some u):w.cell? ⟨g,i*54+5+j*6+k,none⟩=some u:=by
 have:=h.th hi (k:=5+j*6+k) (by omega) ((zR.ztD (ze.xB h.ok hi) hj hk).trans hu)
 rwa [show i*54+(5+j*6+k)=i*54+5+j*6+k by omega] at this
theorem zC.many {w:World} {g:Nat} {W:ze} (h:zC w g W) {i:Nat} (hi:i<4):w.cell? ⟨g,i*54+53,none⟩=some (.int .i64 (W.zO.getD i default).many):=h.th hi (by omega) (zR.zqA (ze.xB h.ok hi))
theorem zC.mem {w:World} {g:Nat} {W:ze} (h:zC w g W) {v:Nat} (hv:v<4):w.cell? ⟨g,216+v,none⟩=some (.int .i64 (W.mem.getD v 0)):=h.cell (ze.at_mem h.ok hv)
theorem zC.fails {w:World} {g:Nat} {W:ze} (h:zC w g W):w.cell? ⟨g,220,none⟩=some (.bool W.fails):=h.cell (ze.zpe h.ok)
theorem zC.free {w:World} {g:Nat} {W:ze} (h:zC w g W) (k:Nat):w.frozen? ⟨g,k,none⟩=false:=zF h.blk k
theorem zC.store {w:World} {g:Nat} {W:ze} (h:zC w g W) {k:Nat} {u:Value} {W':ze} (he:W'.cells=W.cells.set k u) (hk:W'.ok):zC (w.setCell ⟨g,k,none⟩ u) g W':=by
 refine⟨?_,hk⟩
 have:=zw h.blk k u
 rw [this,he];simp
theorem zC.range {w:World} {g:Nat} {W:ze} (h:zC w g W):w.rangeAt g 0 W.cells:=λj v hv=>by rw [Nat.zero_add];exact h.cell hv
