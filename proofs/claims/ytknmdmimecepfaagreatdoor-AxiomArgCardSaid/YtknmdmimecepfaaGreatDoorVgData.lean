/- Steps. -/
import Derived.BigQuiet
import Derived.Deep.CutBlock
import Derived.Deep.DeepCutAuto
import Derived.StillTailTactics
import Derived.Test.YtknmdmimecepfaaGreatDoorVgBase
set_option linter.all false
namespace Go.Proofs.YtknmdmimecepfaaGreatDoor
open Go.RowKit
set_option maxRecDepth 100000
set_option maxHeartbeats 16000000
theorem zm {a b c:World} (h:Below a.heap.size a b) (k:Below b.heap.size b c):Below a.heap.size a c:=h.trans (k.mono h.size)
theorem zi {w w':World} (h:Below w.heap.size w w'):∀a v,w.cell? a=some v->w'.cell? a=some v:=λ_ _ hc=>(h.cell (World.block_lt_of_cell? w _ hc)).trans hc
def zh {α:Type} [Inhabited α] (R:World->α->List Value->Prop) (size:Nat) (w:World) (sv:Value) (l:List α):Prop:=
 ∃a cap,sv= .slice a l.length cap/\(l.length<=cap/\cap<=9223372036854775807)/\∀j,j<l.length->∃b off cs,a=some ⟨b,off,none⟩/\b<w.heap.size/\
  cs.length=size/\(∀i,i<size->w.cell? ⟨b,off+j*size+i,none⟩=cs[i]?)/\R w (l.getD j default) cs
def vP {α:Type} (R:World->α->List Value->Prop):Prop:=∀w w' x cs,R w x cs->Below w.heap.size w w'->R w' x cs
theorem zh.below {α:Type} [Inhabited α] {R:World->α->List Value->Prop} (hR:vP R) {size:Nat} {w w':World} {sv:Value} {l:List α} (h:zh R size w sv l) (hb:Below w.heap.size w w'):zh R size w' sv l:=by
 obtain⟨a,cap,h1,h2,h4⟩:=h
 refine⟨a,cap,h1,h2,λj hj=> ?_⟩
 obtain⟨b,off,cs,h5,h6,h7,h8,h9⟩:=h4 j hj
 exact⟨b,off,cs,h5,Nat.lt_of_lt_of_le h6 hb.size,h7,λi hi=>(hb.cell (p:=⟨b,off+j*size+i,none⟩) h6).trans (h8 i hi),hR _ _ _ _ h9 hb⟩
theorem zh.slice {α:Type} [Inhabited α] {R:World->α->List Value->Prop} {size:Nat} {w:World} {sv:Value} {l:List α} (h:zh R size w sv l):∃a cap,sv= .slice a l.length cap/\l.length<=9223372036854775807:=by
 obtain⟨a,cap,h1,h2, -⟩:=h;exact⟨a,cap,h1,Nat.le_trans h2.1 h2.2⟩
theorem zh.part {α:Type} [Inhabited α] {R:World->α->List Value->Prop} {size:Nat} {w:World} {a:Option Addr} {n cap:Nat} {l:List α} (h:zh R size w (.slice a n cap) l) (j:Nat) (hj:j<l.length):
  ∃b off cs,a=some ⟨b,off,none⟩/\b<w.heap.size/\cs.length=size/\(∀i,i<size->w.cell? ⟨b,off+j*size+i,none⟩=cs[i]?)/\R w (l.getD j default) cs:=by
 obtain⟨a',cap',he, -,hc⟩:=h
 cases he
 exact hc j hj
theorem zh.pK {α:Type} [Inhabited α] {R:World->α->List Value->Prop} {size:Nat} {w:World} {B:Nat} {e:TypeId} {sv:Value} {l:List α} {xs:List Value} (h:w.ownsRow B e size sv l.length xs)
  (hx:∀j,j<l.length->∃cs:List Value,cs.length=size/\(∀i,i<size->xs[j*size+i]? =cs[i]?)/\R w (l.getD j default) cs):zh R size w sv l:=by
 obtain⟨a,cap,rfl,h1,h2⟩:=vJ h
 unfold maxLen at h2
 refine⟨a,cap,rfl,⟨h1,by omega⟩,λj hj=> ?_⟩
 obtain⟨g,cap',he, -, -⟩:=zdY h (by omega)
 cases he
 obtain⟨cs,c1,c2,c3⟩:=hx j hj
 refine⟨g,0,cs,rfl,(h.lt g rfl).2,c1,λi hi=> ?_,c3⟩
 rw [Nat.zero_add,h.cellAt _ (by have:=Nat.mul_le_mul_right size (show j+1<=l.length by omega);rw [Nat.add_mul] at this;omega)]
 exact c2 i hi
def zD {α:Type} (f:α->List Value) (l:List α):List Value:=l.flatMap f
theorem zav {α:Type} {f:α->List Value} {size:Nat} (hf:∀x,(f x).length=size) (l:List α):(zD f l).length=l.length*size:=by
 induction l with
 |nil=>simp [zD]
 |cons p l ih=>simp only [zD,List.flatMap_cons,List.length_append,List.length_cons] at ih ⊢;rw [ih,hf,Nat.add_mul];omega
theorem zbu {α:Type} [Inhabited α] {f:α->List Value} {size:Nat} (hf:∀x,(f x).length=size):∀ {l:List α} {j i:Nat},j<l.length->i<size->(zD f l)[j*size+i]? =(f (l.getD j default))[i]? :=by
 intro l
 induction l with
 |nil=>intro j i hj;simp at hj
 |cons p l ih=>
 intro j i hj hi
 simp only [zD,List.flatMap_cons] at ih ⊢
 cases j with
 |zero=>rw [Nat.zero_mul,Nat.zero_add,List.getElem?_append_left (by rw [hf];exact hi)];rfl
 |succ j=>
 rw [List.getElem?_append_right (by rw [hf,Nat.add_mul];omega),hf,show(j+1)*size+i - size=j*size+i by rw [Nat.add_mul];omega]
 rw [ih (by simpa using hj) hi];rfl
structure zac where
 var:Int
 n:Int
 deriving DecidableEq
instance:Inhabited zac:=⟨⟨0,0⟩⟩
def zac.cells (e:zac):List Value:= [.int .i64 e.var, .int .i64 e.n]
def zac.val (e:zac):Value:= .agg #[.int .i64 e.var, .int .i64 e.n]
def zsZ (_:World) (e:zac) (cs:List Value):Prop:=cs=e.cells
abbrev ztG:=zh zsZ 2
structure za2 where
 kind:Int
 thread:Int
 var:Int
 deriving DecidableEq
instance:Inhabited za2:=⟨⟨0,0,0⟩⟩
def za2.cells (e:za2):List Value:= [.int .i64 e.kind, .int .i64 e.thread, .int .i64 e.var]
def ztH (_:World) (e:za2) (cs:List Value):Prop:=cs=e.cells
abbrev zqD:=zh ztH 3
def za5 (_:World) (x:Int) (cs:List Value):Prop:=cs= [.int .i64 x]
theorem za5.stays:vP za5:=λ_ _ _ _ h _=>h
abbrev xX:=zh za5 1
theorem xX.part {w:World} {a:Option Addr} {n cap:Nat} {l:List Int} (h:xX w (.slice a n cap) l) (j:Nat) (hj:j<l.length):∃b off,a=some ⟨b,off,none⟩/\b<w.heap.size/\w.cell? ⟨b,off+j,none⟩=some (.int .i64 (l.getD j 0)):=by
 obtain⟨b,off,cs,h1,h2,h3,h4,h5⟩:=zh.part h j hj
 have h5:cs= [.int .i64 (l.getD j default)] :=h5
 subst h5
 have:=h4 0 (by omega)
 rw [Nat.mul_one,Nat.add_zero] at this
 exact⟨b,off,h1,h2,this⟩
structure bR where
 pc:Int
 regs:List Int
 buf:List zac
 deriving DecidableEq
instance:Inhabited bR:=⟨⟨0, [0,0,0,0], []⟩⟩
def bR.cells (t:bR) (bv:Value):List Value:= [.int .i64 t.pc, .int .i64 (t.regs.getD 0 0), .int .i64 (t.regs.getD 1 0), .int .i64 (t.regs.getD 2 0), .int .i64 (t.regs.getD 3 0),bv]
def zqE (w:World) (t:bR) (cs:List Value):Prop:=t.regs.length=4/\∃bv,cs=t.cells bv/\ztG w bv t.buf
abbrev znf:=zh zqE 6
structure pI where
 threads:List bR
 mem:List Int
 bad:Bool
 deriving DecidableEq
instance:Inhabited pI:=⟨⟨[], [],false⟩⟩
structure zqF (w:World) (s:pI) (tv mv:Value):Prop where
 threads:znf w tv s.threads
 mem:xX w mv s.mem
def zta (w:World) (s:pI) (cs:List Value):Prop:=∃tv mv,cs= [tv,mv, .bool s.bad] /\zqF w s tv mv
abbrev zpa:=zh zta 3
inductive zx where
 |mk (kind n op:Int) (kids:List zx)
def zx.kind:zx->Int| .mk k _ _ _=>k
def zx.n:zx->Int| .mk _ n _ _=>n
def zx.op:zx->Int| .mk _ _ o _=>o
def zx.kids:zx->List zx| .mk _ _ _ l=>l
instance:Inhabited zx:=⟨.mk 0 0 0 []⟩
def zx.cells (x:zx) (kv:Value):List Value:= [.int .i64 x.kind, .int .i64 x.n, .int .u8 x.op,kv]
def yX (x:zx) (kv:Value):Value:= .agg #[.int .i64 x.kind, .int .i64 x.n, .int .u8 x.op,kv]
def zu:Nat->World->zx->Value->Prop
 |0,_,_,_=>False
 |d+1,w,x,kv=>zh (λw y cs=>∃kv',cs=y.cells kv'/\zu d w y kv') 4 w kv x.kids
theorem zu.below {d:Nat} {w w':World} {x:zx} {kv:Value} (h:zu d w x kv) (hb:Below w.heap.size w w'):zu d w' x kv:=by
 induction d generalizing w w' x kv with
 |zero=>exact h.elim
 |succ d ih=>exact zh.below (λ_ _ _ _ ⟨kv',e,h'⟩ hb'=>⟨kv',e,ih h' hb'⟩) h hb
theorem zu.slice {d:Nat} {w:World} {x:zx} {kv:Value} (h:zu d w x kv):∃a cap,kv= .slice a x.kids.length cap/\x.kids.length<=9223372036854775807:=by
 cases d with
 |zero=>exact h.elim
 |succ d=>exact zh.slice h
theorem zu.part {d:Nat} {w:World} {x:zx} {a:Option Addr} {n cap:Nat} (h:zu (d+1) w x (.slice a n cap)) (j:Nat) (hj:j<x.kids.length):∃b off ka kc,a=some ⟨b,off,none⟩/\b<w.heap.size/\
  w.cell? ⟨b,off+j*4,none⟩=some (.int .i64 (x.kids.getD j default).kind)/\w.cell? ⟨b,off+j*4+1,none⟩=some (.int .i64 (x.kids.getD j default).n)/\w.cell? ⟨b,off+j*4+2,none⟩=some (.int .u8 (x.kids.getD j default).op)/\w.cell? ⟨b,off+j*4+3,none⟩=some (.slice ka (x.kids.getD j default).kids.length kc)/\
  zu d w (x.kids.getD j default) (.slice ka (x.kids.getD j default).kids.length kc):=by
 obtain⟨b,off,cs,h1,h2,h3,h4,kv,h5,h6⟩:=zh.part h j hj
 subst h5
 obtain⟨ka,kc,rfl, -⟩:=h6.slice
 exact⟨b,off,ka,kc,h1,h2,h4 0 (by omega),h4 1 (by omega),h4 2 (by omega),h4 3 (by omega),h6⟩
structure zl where
 op:Int
 reg:Int
 var:Int
 a:zx
 b:zx
 dest:Int
instance:Inhabited zl:=⟨⟨0,0,0,default,default,0⟩⟩
def zl.cells (x:zl) (ka kb:Value):List Value:= [.int .i64 x.op, .int .i64 x.reg, .int .i64 x.var, .int .i64 x.a.kind, .int .i64 x.a.n, .int .u8 x.a.op,ka, .int .i64 x.b.kind, .int .i64 x.b.n, .int .u8 x.b.op,kb, .int .i64 x.dest]
def yH (d:Nat) (w:World) (x:zl) (cs:List Value):Prop:=∃ka kb,cs=x.cells ka kb/\zu d w x.a ka/\zu d w x.b kb
theorem yH.stays (d:Nat):vP (yH d):=λ_ _ _ _ ⟨ka,kb,h,h1,h2⟩ hb=>⟨ka,kb,h,h1.below hb,h2.below hb⟩
abbrev qD (d:Nat):=zh (yH d) 12
theorem qD.part {d:Nat} {w:World} {a:Option Addr} {n cap:Nat} {l:List zl} (h:qD d w (.slice a n cap) l) (j:Nat) (hj:j<l.length):∃b off aa ac ba bc,a=some ⟨b,off,none⟩/\b<w.heap.size/\
  (w.cell? ⟨b,off+j*12,none⟩=some (.int .i64 (l.getD j default).op)/\w.cell? ⟨b,off+j*12+1,none⟩=some (.int .i64 (l.getD j default).reg)/\w.cell? ⟨b,off+j*12+2,none⟩=some (.int .i64 (l.getD j default).var))/\
  (w.cell? ⟨b,off+j*12+3,none⟩=some (.int .i64 (l.getD j default).a.kind)/\w.cell? ⟨b,off+j*12+4,none⟩=some (.int .i64 (l.getD j default).a.n)/\w.cell? ⟨b,off+j*12+5,none⟩=some (.int .u8 (l.getD j default).a.op)/\w.cell? ⟨b,off+j*12+6,none⟩=some (.slice aa (l.getD j default).a.kids.length ac))/\
  (w.cell? ⟨b,off+j*12+7,none⟩=some (.int .i64 (l.getD j default).b.kind)/\w.cell? ⟨b,off+j*12+8,none⟩=some (.int .i64 (l.getD j default).b.n)/\w.cell? ⟨b,off+j*12+9,none⟩=some (.int .u8 (l.getD j default).b.op)/\w.cell? ⟨b,off+j*12+10,none⟩=some (.slice ba (l.getD j default).b.kids.length bc))/\
  w.cell? ⟨b,off+j*12+11,none⟩=some (.int .i64 (l.getD j default).dest)/\
  zu d w (l.getD j default).a (.slice aa (l.getD j default).a.kids.length ac)/\zu d w (l.getD j default).b (.slice ba (l.getD j default).b.kids.length bc):=by
 obtain⟨b,off,cs,h1,h2,h3,h4,ka,kb,h5,h6,h7⟩:=zh.part h j hj
 subst h5
 obtain⟨aa,ac,rfl, -⟩:=h6.slice
 obtain⟨ba,bc,rfl, -⟩:=h7.slice
 exact⟨b,off,aa,ac,ba,bc,h1,h2,⟨h4 0 (by omega),h4 1 (by omega),h4 2 (by omega)⟩,⟨h4 3 (by omega),h4 4 (by omega),h4 5 (by omega),h4 6 (by omega)⟩,⟨h4 7 (by omega),h4 8 (by omega),h4 9 (by omega),h4 10 (by omega)⟩,h4 11 (by omega),h6,h7⟩
def qC (d:Nat) (w:World) (l:List zl) (cs:List Value):Prop:=∃v,cs= [v] /\qD d w v l
theorem qC.stays (d:Nat):vP (qC d):=λ_ _ _ _ ⟨v,h,h1⟩ hb=>⟨v,h,zh.below (yH.stays d) h1 hb⟩
abbrev yw (d:Nat):=zh (qC d) 1
theorem yw.part {d:Nat} {w:World} {a:Option Addr} {n cap:Nat} {l:List (List zl)} (h:yw d w (.slice a n cap) l) (j:Nat) (hj:j<l.length):∃b off ka kc,a=some ⟨b,off,none⟩/\b<w.heap.size/\w.cell? ⟨b,off+j,none⟩=some (.slice ka (l.getD j []).length kc)/\qD d w (.slice ka (l.getD j []).length kc) (l.getD j []):=by
 obtain⟨b,off,cs,h1,h2,h3,h4,v,h5,h6⟩:=zh.part h j hj
 subst h5
 obtain⟨ka,kc,rfl, -⟩:=zh.slice h6
 have:=h4 0 (by omega)
 rw [Nat.mul_one,Nat.add_zero] at this
 exact⟨b,off,ka,kc,h1,h2,this,h6⟩
structure zo where
 vars:Int
 domain:Int
 threads:List (List zl)
def xL (c:zo) (tv:Value):Value:= .agg #[.int .i64 c.vars, .int .i64 c.domain,tv]
structure ztx where
 model:Int
 bound:Int
 deriving DecidableEq
