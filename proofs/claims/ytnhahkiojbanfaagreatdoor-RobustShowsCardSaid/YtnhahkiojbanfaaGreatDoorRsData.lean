/- Steps. -/
import Derived.BigQuiet
import Derived.Deep.AppendLies
import Derived.Deep.CutBlock
import Derived.Deep.DeepCutAuto
import Derived.StillTailTactics
import Derived.Test.YtnhahkiojbanfaaGreatDoorRsBase
set_option linter.all false
namespace Go.Proofs.YtnhahkiojbanfaaGreatDoor
open Go.RowKit
set_option maxRecDepth 100000
set_option maxHeartbeats 16000000
theorem zH {a b c:World} (h:Below a.heap.size a b) (k:Below b.heap.size b c):Below a.heap.size a c:=h.trans (k.mono h.size)
theorem zk {w w':World} (h:Below w.heap.size w w'):∀a v,w.cell? a=some v->w'.cell? a=some v:=λ_ _ hc=>(h.cell (World.block_lt_of_cell? w _ hc)).trans hc
def zh {α:Type} [Inhabited α] (R:World->α->List Value->Prop) (size:Nat) (w:World) (sv:Value) (l:List α):Prop:=
 ∃a cap,sv= .slice a l.length cap/\(l.length<=cap/\cap<=9223372036854775807)/\∀j,j<l.length->∃b off cs,a=some ⟨b,off,none⟩/\b<w.heap.size/\
  cs.length=size/\(∀i,i<size->w.cell? ⟨b,off+j*size+i,none⟩=cs[i]?)/\R w (l.getD j default) cs
def kP {α:Type} (R:World->α->List Value->Prop):Prop:=∀w w' x cs,R w x cs->Below w.heap.size w w'->R w' x cs
theorem zh.below {α:Type} [Inhabited α] {R:World->α->List Value->Prop} (hR:kP R) {size:Nat} {w w':World} {sv:Value} {l:List α} (h:zh R size w sv l) (hb:Below w.heap.size w w'):zh R size w' sv l:=by
 obtain⟨a,cap,h1,h2,h4⟩:=h
 refine⟨a,cap,h1,h2,λj hj=> ?_⟩
 obtain⟨b,off,cs,h5,h6,h7,h8,h9⟩:=h4 j hj
 exact⟨b,off,cs,h5,Nat.lt_of_lt_of_le h6 hb.size,h7,λi hi=>(hb.cell (p:=⟨b,off+j*size+i,none⟩) h6).trans (h8 i hi),hR _ _ _ _ h9 hb⟩
theorem zh.slice {α:Type} [Inhabited α] {R:World->α->List Value->Prop} {size:Nat} {w:World} {sv:Value} {l:List α} (h:zh R size w sv l):∃a cap,sv= .slice a l.length cap/\l.length<=9223372036854775807:=by
 obtain⟨a,cap,h1,h2, -⟩:=h;exact⟨a,cap,h1,Nat.le_trans h2.1 h2.2⟩
theorem zh.room {α:Type} [Inhabited α] {R:World->α->List Value->Prop} {size:Nat} {w:World} {a:Option Addr} {n cap:Nat} {l:List α} (h:zh R size w (.slice a n cap) l):l.length<=cap/\cap<=9223372036854775807:=by
 obtain⟨a',cap',he,h2, -⟩:=h;cases he;exact h2
theorem zh.part {α:Type} [Inhabited α] {R:World->α->List Value->Prop} {size:Nat} {w:World} {a:Option Addr} {n cap:Nat} {l:List α} (h:zh R size w (.slice a n cap) l) (j:Nat) (hj:j<l.length):
  ∃b off cs,a=some ⟨b,off,none⟩/\b<w.heap.size/\cs.length=size/\(∀i,i<size->w.cell? ⟨b,off+j*size+i,none⟩=cs[i]?)/\R w (l.getD j default) cs:=by
 obtain⟨a',cap',he, -,hc⟩:=h
 cases he
 exact hc j hj
theorem zh.zct {α:Type} [Inhabited α] {R:World->α->List Value->Prop} {size:Nat} {w:World} {B:Nat} {e:TypeId} {sv:Value} {l:List α} {xs:List Value} (h:w.ownsRow B e size sv l.length xs)
  (hx:∀j,j<l.length->∃cs:List Value,cs.length=size/\(∀i,i<size->xs[j*size+i]? =cs[i]?)/\R w (l.getD j default) cs):zh R size w sv l:=by
 obtain⟨a,cap,rfl,h1,h2⟩:=xu h
 unfold maxLen at h2
 refine⟨a,cap,rfl,⟨h1,by omega⟩,λj hj=> ?_⟩
 obtain⟨g,cap',he, -, -⟩:=uz h (by omega)
 cases he
 obtain⟨cs,c1,c2,c3⟩:=hx j hj
 refine⟨g,0,cs,rfl,(h.lt g rfl).2,c1,λi hi=> ?_,c3⟩
 rw [Nat.zero_add,h.cellAt _ (by have:=Nat.mul_le_mul_right size (show j+1<=l.length by omega);rw [Nat.add_mul] at this;omega)]
 exact c2 i hi
def zo {α:Type} (f:α->List Value) (l:List α):List Value:=l.flatMap f
theorem jB {α:Type} {f:α->List Value} {size:Nat} (hf:∀x,(f x).length=size) (l:List α):(zo f l).length=l.length*size:=by
 induction l with
 |nil=>simp [zo]
 |cons p l ih=>simp only [zo,List.flatMap_cons,List.length_append,List.length_cons] at ih ⊢;rw [ih,hf,Nat.add_mul];omega
theorem kW {α:Type} (f:α->List Value) (l r:List α):zo f (l++r)=zo f l++zo f r:=by simp [zo]
theorem zay {α:Type} [Inhabited α] {f:α->List Value} {size:Nat} (hf:∀x,(f x).length=size):∀ {l:List α} {j i:Nat},j<l.length->i<size->(zo f l)[j*size+i]? =(f (l.getD j default))[i]? :=by
 intro l
 induction l with
 |nil=>intro j i hj;simp at hj
 |cons p l ih=>
 intro j i hj hi
 simp only [zo,List.flatMap_cons] at ih ⊢
 cases j with
 |zero=>rw [Nat.zero_mul,Nat.zero_add,List.getElem?_append_left (by rw [hf];exact hi)];rfl
 |succ j=>
 rw [List.getElem?_append_right (by rw [hf,Nat.add_mul];omega),hf,show(j+1)*size+i - size=j*size+i by rw [Nat.add_mul];omega]
 rw [ih (by simpa using hj) hi];rfl
structure zl where
 var:Int
 n:Int
 deriving DecidableEq
instance:Inhabited zl:=⟨⟨0,0⟩⟩
def zl.cells (e:zl):List Value:= [.int .i64 e.var, .int .i64 e.n]
def zl.val (e:zl):Value:= .agg #[.int .i64 e.var, .int .i64 e.n]
def zan (_:World) (e:zl) (cs:List Value):Prop:=cs=e.cells
theorem zan.stays:kP zan:=λ_ _ _ _ h _=>h
abbrev zZ:=zh zan 2
theorem zZ.below {w w':World} {sv:Value} {l:List zl} (h:zZ w sv l) (hb:Below w.heap.size w w'):zZ w' sv l:=zh.below zan.stays h hb
theorem zZ.part {w:World} {a:Option Addr} {n cap:Nat} {l:List zl} (h:zZ w (.slice a n cap) l) (j:Nat) (hj:j<l.length):∃b off,a=some ⟨b,off,none⟩/\b<w.heap.size/\
  w.cell? ⟨b,off+j*2,none⟩=some (.int .i64 (l.getD j default).var)/\w.cell? ⟨b,off+j*2+1,none⟩=some (.int .i64 (l.getD j default).n):=by
 obtain⟨b,off,cs,h1,h2,h3,h4,h5⟩:=zh.part h j hj
 have h5:cs=zl.cells _:=h5
 subst h5
 exact⟨b,off,h1,h2,h4 0 (by omega),h4 1 (by omega)⟩
structure zq where
 kind:Int
 thread:Int
 var:Int
 deriving DecidableEq
instance:Inhabited zq:=⟨⟨0,0,0⟩⟩
def zq.cells (e:zq):List Value:= [.int .i64 e.kind, .int .i64 e.thread, .int .i64 e.var]
def zcZ (_:World) (e:zq) (cs:List Value):Prop:=cs=e.cells
theorem zcZ.stays:kP zcZ:=λ_ _ _ _ h _=>h
abbrev j6:=zh zcZ 3
theorem j6.part {w:World} {a:Option Addr} {n cap:Nat} {l:List zq} (h:j6 w (.slice a n cap) l) (j:Nat) (hj:j<l.length):∃b off,a=some ⟨b,off,none⟩/\b<w.heap.size/\
  w.cell? ⟨b,off+j*3,none⟩=some (.int .i64 (l.getD j default).kind)/\w.cell? ⟨b,off+j*3+1,none⟩=some (.int .i64 (l.getD j default).thread)/\w.cell? ⟨b,off+j*3+2,none⟩=some (.int .i64 (l.getD j default).var):=by
 obtain⟨b,off,cs,h1,h2,h3,h4,h5⟩:=zh.part h j hj
 have h5:cs=zq.cells _:=h5
 subst h5
 exact⟨b,off,h1,h2,h4 0 (by omega),h4 1 (by omega),h4 2 (by omega)⟩
def zae (_:World) (x:Int) (cs:List Value):Prop:=cs= [.int .i64 x]
theorem zae.stays:kP zae:=λ_ _ _ _ h _=>h
abbrev qm:=zh zae 1
theorem qm.part {w:World} {a:Option Addr} {n cap:Nat} {l:List Int} (h:qm w (.slice a n cap) l) (j:Nat) (hj:j<l.length):∃b off,a=some ⟨b,off,none⟩/\b<w.heap.size/\w.cell? ⟨b,off+j,none⟩=some (.int .i64 (l.getD j 0)):=by
 obtain⟨b,off,cs,h1,h2,h3,h4,h5⟩:=zh.part h j hj
 have h5:cs= [.int .i64 (l.getD j default)] :=h5
 subst h5
 have:=h4 0 (by omega)
 rw [Nat.mul_one,Nat.add_zero] at this
 exact⟨b,off,h1,h2,this⟩
structure zx where
 pc:Int
 regs:List Int
 buf:List zl
 deriving DecidableEq
instance:Inhabited zx:=⟨⟨0, [0,0,0,0], []⟩⟩
def zx.cells (t:zx) (bv:Value):List Value:= [.int .i64 t.pc, .int .i64 (t.regs.getD 0 0), .int .i64 (t.regs.getD 1 0), .int .i64 (t.regs.getD 2 0), .int .i64 (t.regs.getD 3 0),bv]
def wN (w:World) (t:zx) (cs:List Value):Prop:=t.regs.length=4/\∃bv,cs=t.cells bv/\zZ w bv t.buf
theorem wN.stays:kP wN:=λ_ _ _ _ ⟨h0,bv,h,h2⟩ hb=>⟨h0,bv,h,zZ.below h2 hb⟩
abbrev qG:=zh wN 6
theorem qG.part {w:World} {a:Option Addr} {n cap:Nat} {l:List zx} (h:qG w (.slice a n cap) l) (j:Nat) (hj:j<l.length):∃b off ba bc,a=some ⟨b,off,none⟩/\b<w.heap.size/\(l.getD j default).regs.length=4/\
  w.cell? ⟨b,off+j*6,none⟩=some (.int .i64 (l.getD j default).pc)/\w.cell? ⟨b,off+j*6+1,none⟩=some (.int .i64 ((l.getD j default).regs.getD 0 0))/\w.cell? ⟨b,off+j*6+2,none⟩=some (.int .i64 ((l.getD j default).regs.getD 1 0))/\w.cell? ⟨b,off+j*6+3,none⟩=some (.int .i64 ((l.getD j default).regs.getD 2 0))/\w.cell? ⟨b,off+j*6+4,none⟩=some (.int .i64 ((l.getD j default).regs.getD 3 0))/\
  w.cell? ⟨b,off+j*6+5,none⟩=some (.slice ba (l.getD j default).buf.length bc)/\zZ w (.slice ba (l.getD j default).buf.length bc) (l.getD j default).buf:=by
 obtain⟨b,off,cs,h1,h2,h3,h4,h0,bv,h5,h6⟩:=zh.part h j hj
 subst h5
 obtain⟨ba,bc,rfl, -⟩:=zh.slice h6
 exact⟨b,off,ba,bc,h1,h2,h0,h4 0 (by omega),h4 1 (by omega),h4 2 (by omega),h4 3 (by omega),h4 4 (by omega),h4 5 (by omega),h6⟩
structure zi where
 threads:List zx
 mem:List Int
 bad:Bool
 deriving DecidableEq
instance:Inhabited zi:=⟨⟨[], [],false⟩⟩
def yA (s:zi) (tv mv:Value):Value:= .agg #[tv,mv, .bool s.bad]
structure zX (w:World) (s:zi) (tv mv:Value):Prop where
 threads:qG w tv s.threads
 mem:qm w mv s.mem
theorem zX.below {w w':World} {s:zi} {tv mv:Value} (h:zX w s tv mv) (hb:Below w.heap.size w w'):zX w' s tv mv:=⟨zh.below wN.stays h.threads hb,zh.below zae.stays h.mem hb⟩
def qo (w:World) (s:zi) (cs:List Value):Prop:=∃tv mv,cs= [tv,mv, .bool s.bad] /\zX w s tv mv
theorem qo.stays:kP qo:=λ_ _ _ _ ⟨tv,mv,h,h2⟩ hb=>⟨tv,mv,h,h2.below hb⟩
abbrev kH:=zh qo 3
theorem kH.part {w:World} {a:Option Addr} {n cap:Nat} {l:List zi} (h:kH w (.slice a n cap) l) (j:Nat) (hj:j<l.length):∃b off tv mv,a=some ⟨b,off,none⟩/\b<w.heap.size/\
  w.cell? ⟨b,off+j*3,none⟩=some tv/\w.cell? ⟨b,off+j*3+1,none⟩=some mv/\w.cell? ⟨b,off+j*3+2,none⟩=some (.bool (l.getD j default).bad)/\zX w (l.getD j default) tv mv:=by
 obtain⟨b,off,cs,h1,h2,h3,h4,tv,mv,h5,h6⟩:=zh.part h j hj
 subst h5
 exact⟨b,off,tv,mv,h1,h2,h4 0 (by omega),h4 1 (by omega),h4 2 (by omega),h6⟩
inductive zO where
 |mk (kind n op:Int) (kids:List zO)
def zO.kind:zO->Int| .mk k _ _ _=>k
def zO.n:zO->Int| .mk _ n _ _=>n
def zO.op:zO->Int| .mk _ _ o _=>o
def zO.kids:zO->List zO| .mk _ _ _ l=>l
instance:Inhabited zO:=⟨.mk 0 0 0 []⟩
def zO.cells (x:zO) (kv:Value):List Value:= [.int .i64 x.kind, .int .i64 x.n, .int .u8 x.op,kv]
def qy (x:zO) (kv:Value):Value:= .agg #[.int .i64 x.kind, .int .i64 x.n, .int .u8 x.op,kv]
def zG:Nat->World->zO->Value->Prop
 |0,_,_,_=>False
 |d+1,w,x,kv=>zh (λw y cs=>∃kv',cs=y.cells kv'/\zG d w y kv') 4 w kv x.kids
theorem zG.below {d:Nat} {w w':World} {x:zO} {kv:Value} (h:zG d w x kv) (hb:Below w.heap.size w w'):zG d w' x kv:=by
 induction d generalizing w w' x kv with
 |zero=>exact h.elim
 |succ d ih=>exact zh.below (λ_ _ _ _ ⟨kv',e,h'⟩ hb'=>⟨kv',e,ih h' hb'⟩) h hb
theorem zG.slice {d:Nat} {w:World} {x:zO} {kv:Value} (h:zG d w x kv):∃a cap,kv= .slice a x.kids.length cap/\x.kids.length<=9223372036854775807:=by
 cases d with
 |zero=>exact h.elim
 |succ d=>exact zh.slice h
theorem zG.part {d:Nat} {w:World} {x:zO} {a:Option Addr} {n cap:Nat} (h:zG (d+1) w x (.slice a n cap)) (j:Nat) (hj:j<x.kids.length):∃b off ka kc,a=some ⟨b,off,none⟩/\b<w.heap.size/\
  w.cell? ⟨b,off+j*4,none⟩=some (.int .i64 (x.kids.getD j default).kind)/\w.cell? ⟨b,off+j*4+1,none⟩=some (.int .i64 (x.kids.getD j default).n)/\w.cell? ⟨b,off+j*4+2,none⟩=some (.int .u8 (x.kids.getD j default).op)/\w.cell? ⟨b,off+j*4+3,none⟩=some (.slice ka (x.kids.getD j default).kids.length kc)/\
  zG d w (x.kids.getD j default) (.slice ka (x.kids.getD j default).kids.length kc):=by
 obtain⟨b,off,cs,h1,h2,h3,h4,kv,h5,h6⟩:=zh.part h j hj
 subst h5
 obtain⟨ka,kc,rfl, -⟩:=h6.slice
 exact⟨b,off,ka,kc,h1,h2,h4 0 (by omega),h4 1 (by omega),h4 2 (by omega),h4 3 (by omega),h6⟩
structure zS where
 op:Int
 reg:Int
 var:Int
 a:zO
 b:zO
 dest:Int
instance:Inhabited zS:=⟨⟨0,0,0,default,default,0⟩⟩
def zS.cells (x:zS) (ka kb:Value):List Value:= [.int .i64 x.op, .int .i64 x.reg, .int .i64 x.var, .int .i64 x.a.kind, .int .i64 x.a.n, .int .u8 x.a.op,ka, .int .i64 x.b.kind, .int .i64 x.b.n, .int .u8 x.b.op,kb, .int .i64 x.dest]
def vK (d:Nat) (w:World) (x:zS) (cs:List Value):Prop:=∃ka kb,cs=x.cells ka kb/\zG d w x.a ka/\zG d w x.b kb
theorem vK.stays (d:Nat):kP (vK d):=λ_ _ _ _ ⟨ka,kb,h,h1,h2⟩ hb=>⟨ka,kb,h,h1.below hb,h2.below hb⟩
abbrev gD (d:Nat):=zh (vK d) 12
theorem gD.part {d:Nat} {w:World} {a:Option Addr} {n cap:Nat} {l:List zS} (h:gD d w (.slice a n cap) l) (j:Nat) (hj:j<l.length):∃b off aa ac ba bc,a=some ⟨b,off,none⟩/\b<w.heap.size/\
  (w.cell? ⟨b,off+j*12,none⟩=some (.int .i64 (l.getD j default).op)/\w.cell? ⟨b,off+j*12+1,none⟩=some (.int .i64 (l.getD j default).reg)/\w.cell? ⟨b,off+j*12+2,none⟩=some (.int .i64 (l.getD j default).var))/\
  (w.cell? ⟨b,off+j*12+3,none⟩=some (.int .i64 (l.getD j default).a.kind)/\w.cell? ⟨b,off+j*12+4,none⟩=some (.int .i64 (l.getD j default).a.n)/\w.cell? ⟨b,off+j*12+5,none⟩=some (.int .u8 (l.getD j default).a.op)/\w.cell? ⟨b,off+j*12+6,none⟩=some (.slice aa (l.getD j default).a.kids.length ac))/\
  (w.cell? ⟨b,off+j*12+7,none⟩=some (.int .i64 (l.getD j default).b.kind)/\w.cell? ⟨b,off+j*12+8,none⟩=some (.int .i64 (l.getD j default).b.n)/\w.cell? ⟨b,off+j*12+9,none⟩=some (.int .u8 (l.getD j default).b.op)/\w.cell? ⟨b,off+j*12+10,none⟩=some (.slice ba (l.getD j default).b.kids.length bc))/\
  w.cell? ⟨b,off+j*12+11,none⟩=some (.int .i64 (l.getD j default).dest)/\
  zG d w (l.getD j default).a (.slice aa (l.getD j default).a.kids.length ac)/\zG d w (l.getD j default).b (.slice ba (l.getD j default).b.kids.length bc):=by
 obtain⟨b,off,cs,h1,h2,h3,h4,ka,kb,h5,h6,h7⟩:=zh.part h j hj
 subst h5
 obtain⟨aa,ac,rfl, -⟩:=h6.slice
 obtain⟨ba,bc,rfl, -⟩:=h7.slice
 exact⟨b,off,aa,ac,ba,bc,h1,h2,⟨h4 0 (by omega),h4 1 (by omega),h4 2 (by omega)⟩,⟨h4 3 (by omega),h4 4 (by omega),h4 5 (by omega),h4 6 (by omega)⟩,⟨h4 7 (by omega),h4 8 (by omega),h4 9 (by omega),h4 10 (by omega)⟩,h4 11 (by omega),h6,h7⟩
def qD (d:Nat) (w:World) (l:List zS) (cs:List Value):Prop:=∃v,cs= [v] /\gD d w v l
theorem qD.stays (d:Nat):kP (qD d):=λ_ _ _ _ ⟨v,h,h1⟩ hb=>⟨v,h,zh.below (vK.stays d) h1 hb⟩
abbrev yS (d:Nat):=zh (qD d) 1
theorem yS.part {d:Nat} {w:World} {a:Option Addr} {n cap:Nat} {l:List (List zS)} (h:yS d w (.slice a n cap) l) (j:Nat) (hj:j<l.length):∃b off ka kc,a=some ⟨b,off,none⟩/\b<w.heap.size/\w.cell? ⟨b,off+j,none⟩=some (.slice ka (l.getD j []).length kc)/\gD d w (.slice ka (l.getD j []).length kc) (l.getD j []):=by
 obtain⟨b,off,cs,h1,h2,h3,h4,v,h5,h6⟩:=zh.part h j hj
 subst h5
 obtain⟨ka,kc,rfl, -⟩:=zh.slice h6
 have:=h4 0 (by omega)
 rw [Nat.mul_one,Nat.add_zero] at this
 exact⟨b,off,ka,kc,h1,h2,this,h6⟩
structure zD where
 vars:Int
 domain:Int
 threads:List (List zS)
def yQ (c:zD) (tv:Value):Value:= .agg #[.int .i64 c.vars, .int .i64 c.domain,tv]
structure zy where
 model:Int
 bound:Int
 deriving DecidableEq
def qg (m:zy):Value:= .agg #[.int .i64 m.model, .int .i64 m.bound]
end Go.Proofs.YtnhahkiojbanfaaGreatDoor
namespace Go.Proofs.YtnhahkiojbanfaaGreatDoor
open Go.RowKit
set_option maxRecDepth 100000
set_option maxHeartbeats 16000000
theorem zK {P:Program} (w:World) {ops:Array Oper} {o:Oper} {a:Act} {K:Act->World->Prop} {Q:Exit->Act->World->Prop} {E:Prop} (hw:Region.wanted o (yielded ops a.tmps)=true) (s x:Operand) (t:TypeId)
  (ho:o.op= .call { callee:= .builtin .append,args:= #[s,x],argTypes:= #[t,t] })
  (e:TypeId) (z:Value) (size bytes:Nat) (ht:P.underlying t=some (.slice e)) (hinfo:(P.info? e).map (λi=>(i.zero,i.size,i.bytes))=some (some z,size,bytes)) (hzs:z.cells.size=size) (hsz:0<size)
  (base:Nat) (v:Value) (n:Nat) (xs:List Value) (hs:a.eval s=v) (hown:w.ownsRow base e size v n xs)
  (ad:Addr) (m c:Nat) (news:List Value) (hx:a.eval x= .slice (some ad) m c) (hl:news.length=m*size) (hnews:∀j u,news[j]? =some u->w.cell? (ad.add j)=some u) (h1:∀u∈news,u.oneCell'=true)
  (h63:n+m<=maxLen) (hbytes:(n+m)*bytes<=140737488355328) (hbase:base<=w.heap.size)
  (h:∀a' cap' w',w'.ownsRow base e size (.slice a' (n+m) cap') (n+m) (xs++news)->cap'<=9223372036854775807->n+m<=cap'->Since (λk=>v.ownBlock=some k) w w'->
   (∀k,(Value.slice a' (n+m) cap').ownBlock=some k->v.ownBlock=some k\/k=w.heap.size)->
   K (a.put o.dst (.slice a' (n+m) cap')) w'):if Region.wanted o (yielded ops a.tmps)=true then Oper.wp P o a w K Q else E:=by
 rw [if_pos hw]
 obtain⟨i,hi,hz,hsize,hby⟩:=info_parts hinfo
 obtain⟨v',w',hr,h2,h3,h4⟩:=run_append_own (P:=P) w base t o.type e i z size bytes ht hi hz hsize hby hzs hsz v n xs hown ad m c news hl hnews h1 h63 hbytes hbase
 have hwh:=zcw ht hi hz hsize hby hown hl hnews h1 h63 hbytes hr
 obtain⟨a',cap',rfl,hc1,hc2⟩:=xu h2
 unfold Oper.wp execOp
 simp only [ho,resolve,invoke,builtin,Sem.run_bind,Sem.run_pure,Result.andThen_ok,List.map_toArray,List.map_cons,List.map_nil,hs,hx,hr]
 refine h a' cap' w' h2 (by unfold maxLen at hc2;omega) hc1 ((Since.refl _ _).grown h3 (λk hk=> .inl hk)) (λk hk=> ?_)
 rw [hk] at hwh
 rcases hwh with hwh|hwh
 ·exact .inl hwh.symm
 exact .inr (by simpa using hwh)
theorem zdk {P:Program} (w:World) (t ty e:TypeId) (i:TypeInfo) (ht:P.underlying t=some (.slice e)) (hi:P.info? e=some i) (a:Option Addr) (c:Nat):
  (Builtin.append_ #[t,t] ty #[.slice none 0 0, .slice a 0 c]).run P w= .ok (.slice none 0 0) w:=by
 cases a<;>simp [Builtin.append_,run_underlying ht,sizeOf,typeInfo,hi,Builtin.lenOf,Builtin.firstCells,loadCells,loadCellsFrom]
theorem zfF {P:Program} (w:World) {ops:Array Oper} {rest:List Oper} {o:Oper} {a:Act} {Q:Exit->Act->World->Prop} (hgd:o.guard=none) (s x:Operand) (t:TypeId)
  (ho:o.op= .call { callee:= .builtin .append,args:= #[s,x],argTypes:= #[t,t] }) (e:TypeId) (i:TypeInfo) (ht:P.underlying t=some (.slice e)) (hi:P.info? e=some i)
  (hs:a.eval s= .slice none 0 0) (ad:Option Addr) (c:Nat) (hx:a.eval x= .slice ad 0 c) (h:wpList P ops Q rest (a.put o.dst (.slice none 0 0)) w):wpList P ops Q (o::rest) a w:=by
 refine wpList_plain hgd λ_ hK=> ?_
 unfold Oper.wp execOp
 simp only [ho,resolve,invoke,builtin,Sem.run_bind,Sem.run_pure,Result.andThen_ok,List.map_toArray,List.map_cons,List.map_nil,hs,hx,zdk w t o.type e i ht hi ad c]
 exact hK _ _ h
theorem jP {P:Program} (w:World) {ops:Array Oper} {o:Oper} {a:Act} {K:Act->World->Prop} {Q:Exit->Act->World->Prop} {E:Prop} (hw:Region.wanted o (yielded ops a.tmps)=true) (s x:Operand) (t:TypeId)
  (ho:o.op= .call { callee:= .builtin .append,args:= #[s,x],argTypes:= #[t,t] }) (e:TypeId) (i:TypeInfo) (ht:P.underlying t=some (.slice e)) (hi:P.info? e=some i)
  (hs:a.eval s= .slice none 0 0) (ad:Option Addr) (c:Nat) (hx:a.eval x= .slice ad 0 c) (h:K (a.put o.dst (.slice none 0 0)) w):if Region.wanted o (yielded ops a.tmps)=true then Oper.wp P o a w K Q else E:=by
 rw [if_pos hw]
 unfold Oper.wp execOp
 simp only [ho,resolve,invoke,builtin,Sem.run_bind,Sem.run_pure,Result.andThen_ok,List.map_toArray,List.map_cons,List.map_nil,hs,hx,zdk w t o.type e i ht hi ad c]
 exact h
theorem zh.news {α:Type} [Inhabited α] {R:World->α->List Value->Prop} {size:Nat} {f:α->List Value} (hs:0<size) (hf:∀x,(f x).length=size) (hR:∀w x cs,R w x cs->cs=f x) {w:World} {b o n c:Nat} {l:List α} (h:zh R size w (.slice (some ⟨b,o,none⟩) n c) l):
  ∀j u,(zo f l)[j]? =some u->w.cell? ((⟨b,o,none⟩:Addr).add j)=some u:=by
 intro j u hu
 have hj:j<l.length*size:=by
  rcases Nat.lt_or_ge j (l.length*size) with e|e
  ·exact e
  rw [List.getElem?_eq_none (by rw [jB hf];exact e)] at hu;cases hu
 obtain⟨q,r,hq,hr,rfl⟩:∃q r,q<l.length/\r<size/\j=q*size+r:=
  ⟨j / size,j % size,Nat.div_lt_of_lt_mul (by rw [Nat.mul_comm];exact hj),Nat.mod_lt _ hs,by rw [Nat.mul_comm];exact(Nat.div_add_mod j size).symm⟩
 rw [zay hf hq hr] at hu
 obtain⟨b',o',cs,he, -, -,h4,h5⟩:=h.part q hq
 cases he
 have h6:=h4 r hr
 rw [hR _ _ _ h5,hu] at h6
 rw [show(⟨b,o,none⟩:Addr).add (q*size+r)=⟨b,o+q*size+r,none⟩ by
  simp only [Addr.add]
  split
  ·rename_i h;rw [show o+q*size+r=o by omega]
  rw [Nat.add_assoc]]
 exact h6
theorem zh.of_flat {α:Type} [Inhabited α] {R:World->α->List Value->Prop} {size:Nat} {f:α->List Value} (hf:∀x,(f x).length=size) (hR:∀w x,R w x (f x)) {w:World} {B:Nat} {e:TypeId} {sv:Value} {l:List α} (h:w.ownsRow B e size sv l.length (zo f l)):zh R size w sv l:=
 zh.zct h λj hj=>⟨f (l.getD j default),hf _,λ_ hi=>zay hf hj hi,hR _ _⟩
theorem zh.nil {α:Type} [Inhabited α] {R:World->α->List Value->Prop} {size:Nat} (w:World):zh R size w (.slice none 0 0) ([] :List α):=⟨none,0,rfl,by simp,λj hj=>by simp at hj⟩
theorem xq {X:World} {B C:Nat} {e:TypeId} {size:Nat} {v:Value} {n:Nat} {xs:List Value} (h:X.ownsRow B e size v n xs) (hC:C<=B):X.ownsRow C e size v n xs:=by
 refine⟨h.1, ?_⟩
 rcases h.2 with hn|⟨g,cap,cur,rfl,hb,rest⟩
 ·exact .inl hn
 exact .inr ⟨g,cap,cur,rfl,Nat.le_trans hC hb,rest⟩
structure App (e:TypeId) (size:Nat) (V X:World) (v:Value) (n:Nat) (xs:List Value) (bs:List (Nat × List Value)):Prop where
 below:Below V.heap.size V X
 row:X.ownsRow V.heap.size e size v n xs
 news:∀p∈bs,X.heap[p.1]? =some (.cells p.2.toArray e (0,0))/\v.ownBlock≠some p.1/\V.heap.size<=p.1
section
variable {e:TypeId} {size:Nat} {V X:World} {v:Value} {n:Nat} {xs:List Value} {bs:List (Nat × List Value)}
theorem App.start (e:TypeId) (size:Nat) (V:World):App e size V V (.slice none 0 0) 0 [] [] :=⟨Below.refl _ _,World.ownsRow_nil _ _ _ _,by simp⟩
theorem App.drew (h:App e size V X v n xs bs):App e size V X.drew v n xs bs:=⟨h.below.drew,(Since.refl (λ_=>False) X).drew.row h.row (λ_ _ h=>h),h.news⟩
theorem App.alloc (h:App e size V X v n xs bs) (cs:List Value):App e size V (X.alloc (.cells cs.toArray e)) v n xs ((X.heap.size,cs)::bs):=by
 refine⟨h.below.alloc h.below.size _,h.row.alloc _, ?_⟩
 intro p hp
 rcases List.mem_cons.1 hp with rfl|hp
 ·exact⟨yj X _,λe=>by have:=(h.row.lt _ e).2;simp at this,h.below.size⟩
 obtain⟨a,b,c⟩:=h.news p hp
 exact⟨(Below.heap_alloc _ _ _ (zw a)).trans a,b,c⟩
theorem App.app (h:App e size V X v n xs bs) {X':World} {v':Value} {m:Nat} {xs':List Value} (ho:X'.ownsRow V.heap.size e size v' m xs') (hs:Since (λk=>v.ownBlock=some k) X X') (hl:∀k,v'.ownBlock=some k->v.ownBlock=some k\/k=X.heap.size):App e size V X' v' m xs' bs:=by
 refine⟨h.below.trans (hs.below h.below.size (λk hk=>(h.row.lt k hk).1)),ho,λp hp=> ?_⟩
 obtain⟨a,b,c⟩:=h.news p hp
 refine⟨(hs.block _ (zw a) b).trans a,λe=> ?_,c⟩
 rcases hl _ e with e'|e'
 ·exact b e'
 have:=zw a;omega
theorem App.cell (h:App e size V X v n xs bs) {b:Nat} {cs:List Value} (hb:(b,cs)∈bs):∀j x,cs[j]? =some x->X.cell? ((⟨b,0,none⟩:Addr).add j)=some x:=by
 intro j x hj
 have:=ze (h.news _ hb).1 j
 rw [show(⟨b,0,none⟩:Addr).add j=⟨b,j,none⟩ by simp only [Addr.add];split<;>simp_all,this]
 simpa using hj
end
