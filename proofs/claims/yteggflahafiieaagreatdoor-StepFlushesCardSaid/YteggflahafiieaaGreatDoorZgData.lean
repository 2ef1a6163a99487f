/- Steps. -/
import Derived.BigQuiet
import Derived.Deep.AppendLies
import Derived.Deep.CutBlock
import Derived.Deep.DeepCutAuto
import Derived.StillTailTactics
import Derived.Test.YteggflahafiieaaGreatDoorZgBase
set_option linter.all false
namespace Go.Proofs.YteggflahafiieaaGreatDoor
open Go.RowKit
set_option maxRecDepth 100000
set_option maxHeartbeats 16000000
theorem zB {a b c:World} (h:Below a.heap.size a b) (k:Below b.heap.size b c):Below a.heap.size a c:=h.trans (k.mono h.size)
theorem zh {w w':World} (h:Below w.heap.size w w'):∀a v,w.cell? a=some v->w'.cell? a=some v:=λ_ _ hc=>(h.cell (World.block_lt_of_cell? w _ hc)).trans hc
def ze {α:Type} [Inhabited α] (R:World->α->List Value->Prop) (size:Nat) (w:World) (sv:Value) (l:List α):Prop:=
 ∃a cap,sv= .slice a l.length cap/\(l.length<=cap/\cap<=9223372036854775807)/\∀j,j<l.length->∃b off cs,a=some ⟨b,off,none⟩/\b<w.heap.size/\
  cs.length=size/\(∀i,i<size->w.cell? ⟨b,off+j*size+i,none⟩=cs[i]?)/\R w (l.getD j default) cs
def jO {α:Type} (R:World->α->List Value->Prop):Prop:=∀w w' x cs,R w x cs->Below w.heap.size w w'->R w' x cs
theorem ze.below {α:Type} [Inhabited α] {R:World->α->List Value->Prop} (hR:jO R) {size:Nat} {w w':World} {sv:Value} {l:List α} (h:ze R size w sv l) (hb:Below w.heap.size w w'):ze R size w' sv l:=by
 obtain⟨a,cap,h1,h2,h4⟩:=h
 refine⟨a,cap,h1,h2,λj hj=> ?_⟩
 obtain⟨b,off,cs,h5,h6,h7,h8,h9⟩:=h4 j hj
 exact⟨b,off,cs,h5,Nat.lt_of_lt_of_le h6 hb.size,h7,λi hi=>(hb.cell (p:=⟨b,off+j*size+i,none⟩) h6).trans (h8 i hi),hR _ _ _ _ h9 hb⟩
theorem ze.slice {α:Type} [Inhabited α] {R:World->α->List Value->Prop} {size:Nat} {w:World} {sv:Value} {l:List α} (h:ze R size w sv l):∃a cap,sv= .slice a l.length cap/\l.length<=9223372036854775807:=by
 obtain⟨a,cap,h1,h2, -⟩:=h;exact⟨a,cap,h1,Nat.le_trans h2.1 h2.2⟩
theorem ze.room {α:Type} [Inhabited α] {R:World->α->List Value->Prop} {size:Nat} {w:World} {a:Option Addr} {n cap:Nat} {l:List α} (h:ze R size w (.slice a n cap) l):l.length<=cap/\cap<=9223372036854775807:=by
 obtain⟨a',cap',he,h2, -⟩:=h;cases he;exact h2
theorem ze.part {α:Type} [Inhabited α] {R:World->α->List Value->Prop} {size:Nat} {w:World} {a:Option Addr} {n cap:Nat} {l:List α} (h:ze R size w (.slice a n cap) l) (j:Nat) (hj:j<l.length):
  ∃b off cs,a=some ⟨b,off,none⟩/\b<w.heap.size/\cs.length=size/\(∀i,i<size->w.cell? ⟨b,off+j*size+i,none⟩=cs[i]?)/\R w (l.getD j default) cs:=by
 obtain⟨a',cap',he, -,hc⟩:=h
 cases he
 exact hc j hj
theorem ze.zaQ {α:Type} [Inhabited α] {R:World->α->List Value->Prop} {size:Nat} {w:World} {B:Nat} {e:TypeId} {sv:Value} {l:List α} {xs:List Value} (h:w.ownsRow B e size sv l.length xs)
  (hx:∀j,j<l.length->∃cs:List Value,cs.length=size/\(∀i,i<size->xs[j*size+i]? =cs[i]?)/\R w (l.getD j default) cs):ze R size w sv l:=by
 obtain⟨a,cap,rfl,h1,h2⟩:=qO h
 unfold maxLen at h2
 refine⟨a,cap,rfl,⟨h1,by omega⟩,λj hj=> ?_⟩
 obtain⟨g,cap',he, -, -⟩:=zfb h (by omega)
 cases he
 obtain⟨cs,c1,c2,c3⟩:=hx j hj
 refine⟨g,0,cs,rfl,(h.lt g rfl).2,c1,λi hi=> ?_,c3⟩
 rw [Nat.zero_add,h.cellAt _ (by have:=Nat.mul_le_mul_right size (show j+1<=l.length by omega);rw [Nat.add_mul] at this;omega)]
 exact c2 i hi
def zl {α:Type} (f:α->List Value) (l:List α):List Value:=l.flatMap f
theorem jA {α:Type} {f:α->List Value} {size:Nat} (hf:∀x,(f x).length=size) (l:List α):(zl f l).length=l.length*size:=by
 induction l with
 |nil=>simp [zl]
 |cons p l ih=>simp only [zl,List.flatMap_cons,List.length_append,List.length_cons] at ih ⊢;rw [ih,hf,Nat.add_mul];omega
theorem kH {α:Type} (f:α->List Value) (l r:List α):zl f (l++r)=zl f l++zl f r:=by simp [zl]
theorem zaR {α:Type} [Inhabited α] {f:α->List Value} {size:Nat} (hf:∀x,(f x).length=size):∀ {l:List α} {j i:Nat},j<l.length->i<size->(zl f l)[j*size+i]? =(f (l.getD j default))[i]? :=by
 intro l
 induction l with
 |nil=>intro j i hj;simp at hj
 |cons p l ih=>
 intro j i hj hi
 simp only [zl,List.flatMap_cons] at ih ⊢
 cases j with
 |zero=>rw [Nat.zero_mul,Nat.zero_add,List.getElem?_append_left (by rw [hf];exact hi)];rfl
 |succ j=>
 rw [List.getElem?_append_right (by rw [hf,Nat.add_mul];omega),hf,show(j+1)*size+i - size=j*size+i by rw [Nat.add_mul];omega]
 rw [ih (by simpa using hj) hi];rfl
structure zi where
 var:Int
 n:Int
 deriving DecidableEq
instance:Inhabited zi:=⟨⟨0,0⟩⟩
def zi.cells (e:zi):List Value:= [.int .i64 e.var, .int .i64 e.n]
def zi.val (e:zi):Value:= .agg #[.int .i64 e.var, .int .i64 e.n]
def uH (_:World) (e:zi) (cs:List Value):Prop:=cs=e.cells
theorem uH.stays:jO uH:=λ_ _ _ _ h _=>h
abbrev zW:=ze uH 2
theorem zW.below {w w':World} {sv:Value} {l:List zi} (h:zW w sv l) (hb:Below w.heap.size w w'):zW w' sv l:=ze.below uH.stays h hb
theorem zW.part {w:World} {a:Option Addr} {n cap:Nat} {l:List zi} (h:zW w (.slice a n cap) l) (j:Nat) (hj:j<l.length):∃b off,a=some ⟨b,off,none⟩/\b<w.heap.size/\
  w.cell? ⟨b,off+j*2,none⟩=some (.int .i64 (l.getD j default).var)/\w.cell? ⟨b,off+j*2+1,none⟩=some (.int .i64 (l.getD j default).n):=by
 obtain⟨b,off,cs,h1,h2,h3,h4,h5⟩:=ze.part h j hj
 have h5:cs=zi.cells _:=h5
 subst h5
 exact⟨b,off,h1,h2,h4 0 (by omega),h4 1 (by omega)⟩
structure zN where
 kind:Int
 thread:Int
 var:Int
 deriving DecidableEq
instance:Inhabited zN:=⟨⟨0,0,0⟩⟩
def zN.cells (e:zN):List Value:= [.int .i64 e.kind, .int .i64 e.thread, .int .i64 e.var]
def zgi (_:World) (e:zN) (cs:List Value):Prop:=cs=e.cells
theorem zgi.stays:jO zgi:=λ_ _ _ _ h _=>h
abbrev uY:=ze zgi 3
theorem uY.part {w:World} {a:Option Addr} {n cap:Nat} {l:List zN} (h:uY w (.slice a n cap) l) (j:Nat) (hj:j<l.length):∃b off,a=some ⟨b,off,none⟩/\b<w.heap.size/\
  w.cell? ⟨b,off+j*3,none⟩=some (.int .i64 (l.getD j default).kind)/\w.cell? ⟨b,off+j*3+1,none⟩=some (.int .i64 (l.getD j default).thread)/\w.cell? ⟨b,off+j*3+2,none⟩=some (.int .i64 (l.getD j default).var):=by
 obtain⟨b,off,cs,h1,h2,h3,h4,h5⟩:=ze.part h j hj
 have h5:cs=zN.cells _:=h5
 subst h5
 exact⟨b,off,h1,h2,h4 0 (by omega),h4 1 (by omega),h4 2 (by omega)⟩
def uQ (_:World) (x:Int) (cs:List Value):Prop:=cs= [.int .i64 x]
theorem uQ.stays:jO uQ:=λ_ _ _ _ h _=>h
abbrev xI:=ze uQ 1
theorem xI.part {w:World} {a:Option Addr} {n cap:Nat} {l:List Int} (h:xI w (.slice a n cap) l) (j:Nat) (hj:j<l.length):∃b off,a=some ⟨b,off,none⟩/\b<w.heap.size/\w.cell? ⟨b,off+j,none⟩=some (.int .i64 (l.getD j 0)):=by
 obtain⟨b,off,cs,h1,h2,h3,h4,h5⟩:=ze.part h j hj
 have h5:cs= [.int .i64 (l.getD j default)] :=h5
 subst h5
 have:=h4 0 (by omega)
 rw [Nat.mul_one,Nat.add_zero] at this
 exact⟨b,off,h1,h2,this⟩
structure zo where
 pc:Int
 regs:List Int
 buf:List zi
 deriving DecidableEq
instance:Inhabited zo:=⟨⟨0, [0,0,0,0], []⟩⟩
def zo.cells (t:zo) (bv:Value):List Value:= [.int .i64 t.pc, .int .i64 (t.regs.getD 0 0), .int .i64 (t.regs.getD 1 0), .int .i64 (t.regs.getD 2 0), .int .i64 (t.regs.getD 3 0),bv]
def pJ (w:World) (t:zo) (cs:List Value):Prop:=t.regs.length=4/\∃bv,cs=t.cells bv/\zW w bv t.buf
theorem pJ.stays:jO pJ:=λ_ _ _ _ ⟨h0,bv,h,h2⟩ hb=>⟨h0,bv,h,zW.below h2 hb⟩
abbrev qj:=ze pJ 6
theorem qj.part {w:World} {a:Option Addr} {n cap:Nat} {l:List zo} (h:qj w (.slice a n cap) l) (j:Nat) (hj:j<l.length):∃b off ba bc,a=some ⟨b,off,none⟩/\b<w.heap.size/\(l.getD j default).regs.length=4/\
  w.cell? ⟨b,off+j*6,none⟩=some (.int .i64 (l.getD j default).pc)/\w.cell? ⟨b,off+j*6+1,none⟩=some (.int .i64 ((l.getD j default).regs.getD 0 0))/\w.cell? ⟨b,off+j*6+2,none⟩=some (.int .i64 ((l.getD j default).regs.getD 1 0))/\w.cell? ⟨b,off+j*6+3,none⟩=some (.int .i64 ((l.getD j default).regs.getD 2 0))/\w.cell? ⟨b,off+j*6+4,none⟩=some (.int .i64 ((l.getD j default).regs.getD 3 0))/\
  w.cell? ⟨b,off+j*6+5,none⟩=some (.slice ba (l.getD j default).buf.length bc)/\zW w (.slice ba (l.getD j default).buf.length bc) (l.getD j default).buf:=by
 obtain⟨b,off,cs,h1,h2,h3,h4,h0,bv,h5,h6⟩:=ze.part h j hj
 subst h5
 obtain⟨ba,bc,rfl, -⟩:=ze.slice h6
 exact⟨b,off,ba,bc,h1,h2,h0,h4 0 (by omega),h4 1 (by omega),h4 2 (by omega),h4 3 (by omega),h4 4 (by omega),h4 5 (by omega),h6⟩
structure zm where
 threads:List zo
 mem:List Int
 bad:Bool
 deriving DecidableEq
instance:Inhabited zm:=⟨⟨[], [],false⟩⟩
def yR (s:zm) (tv mv:Value):Value:= .agg #[tv,mv, .bool s.bad]
structure yh (w:World) (s:zm) (tv mv:Value):Prop where
 threads:qj w tv s.threads
 mem:xI w mv s.mem
theorem yh.below {w w':World} {s:zm} {tv mv:Value} (h:yh w s tv mv) (hb:Below w.heap.size w w'):yh w' s tv mv:=⟨ze.below pJ.stays h.threads hb,ze.below uQ.stays h.mem hb⟩
def zaO (w:World) (s:zm) (cs:List Value):Prop:=∃tv mv,cs= [tv,mv, .bool s.bad] /\yh w s tv mv
abbrev zuj:=ze zaO 3
inductive zH where
 |mk (kind n op:Int) (kids:List zH)
def zH.kind:zH->Int| .mk k _ _ _=>k
def zH.n:zH->Int| .mk _ n _ _=>n
def zH.op:zH->Int| .mk _ _ o _=>o
def zH.kids:zH->List zH| .mk _ _ _ l=>l
instance:Inhabited zH:=⟨.mk 0 0 0 []⟩
def zH.cells (x:zH) (kv:Value):List Value:= [.int .i64 x.kind, .int .i64 x.n, .int .u8 x.op,kv]
def xQ (x:zH) (kv:Value):Value:= .agg #[.int .i64 x.kind, .int .i64 x.n, .int .u8 x.op,kv]
def zx:Nat->World->zH->Value->Prop
 |0,_,_,_=>False
 |d+1,w,x,kv=>ze (λw y cs=>∃kv',cs=y.cells kv'/\zx d w y kv') 4 w kv x.kids
theorem zx.below {d:Nat} {w w':World} {x:zH} {kv:Value} (h:zx d w x kv) (hb:Below w.heap.size w w'):zx d w' x kv:=by
 induction d generalizing w w' x kv with
 |zero=>exact h.elim
 |succ d ih=>exact ze.below (λ_ _ _ _ ⟨kv',e,h'⟩ hb'=>⟨kv',e,ih h' hb'⟩) h hb
theorem zx.slice {d:Nat} {w:World} {x:zH} {kv:Value} (h:zx d w x kv):∃a cap,kv= .slice a x.kids.length cap/\x.kids.length<=9223372036854775807:=by
 cases d with
 |zero=>exact h.elim
 |succ d=>exact ze.slice h
theorem zx.part {d:Nat} {w:World} {x:zH} {a:Option Addr} {n cap:Nat} (h:zx (d+1) w x (.slice a n cap)) (j:Nat) (hj:j<x.kids.length):∃b off ka kc,a=some ⟨b,off,none⟩/\b<w.heap.size/\
  w.cell? ⟨b,off+j*4,none⟩=some (.int .i64 (x.kids.getD j default).kind)/\w.cell? ⟨b,off+j*4+1,none⟩=some (.int .i64 (x.kids.getD j default).n)/\w.cell? ⟨b,off+j*4+2,none⟩=some (.int .u8 (x.kids.getD j default).op)/\w.cell? ⟨b,off+j*4+3,none⟩=some (.slice ka (x.kids.getD j default).kids.length kc)/\
  zx d w (x.kids.getD j default) (.slice ka (x.kids.getD j default).kids.length kc):=by
 obtain⟨b,off,cs,h1,h2,h3,h4,kv,h5,h6⟩:=ze.part h j hj
 subst h5
 obtain⟨ka,kc,rfl, -⟩:=h6.slice
 exact⟨b,off,ka,kc,h1,h2,h4 0 (by omega),h4 1 (by omega),h4 2 (by omega),h4 3 (by omega),h6⟩
structure zT where
 op:Int
 reg:Int
 var:Int
 a:zH
 b:zH
 dest:Int
instance:Inhabited zT:=⟨⟨0,0,0,default,default,0⟩⟩
def zT.cells (x:zT) (ka kb:Value):List Value:= [.int .i64 x.op, .int .i64 x.reg, .int .i64 x.var, .int .i64 x.a.kind, .int .i64 x.a.n, .int .u8 x.a.op,ka, .int .i64 x.b.kind, .int .i64 x.b.n, .int .u8 x.b.op,kb, .int .i64 x.dest]
def qQ (d:Nat) (w:World) (x:zT) (cs:List Value):Prop:=∃ka kb,cs=x.cells ka kb/\zx d w x.a ka/\zx d w x.b kb
theorem qQ.stays (d:Nat):jO (qQ d):=λ_ _ _ _ ⟨ka,kb,h,h1,h2⟩ hb=>⟨ka,kb,h,h1.below hb,h2.below hb⟩
abbrev jJ (d:Nat):=ze (qQ d) 12
theorem jJ.part {d:Nat} {w:World} {a:Option Addr} {n cap:Nat} {l:List zT} (h:jJ d w (.slice a n cap) l) (j:Nat) (hj:j<l.length):∃b off aa ac ba bc,a=some ⟨b,off,none⟩/\b<w.heap.size/\
  (w.cell? ⟨b,off+j*12,none⟩=some (.int .i64 (l.getD j default).op)/\w.cell? ⟨b,off+j*12+1,none⟩=some (.int .i64 (l.getD j default).reg)/\w.cell? ⟨b,off+j*12+2,none⟩=some (.int .i64 (l.getD j default).var))/\
  (w.cell? ⟨b,off+j*12+3,none⟩=some (.int .i64 (l.getD j default).a.kind)/\w.cell? ⟨b,off+j*12+4,none⟩=some (.int .i64 (l.getD j default).a.n)/\w.cell? ⟨b,off+j*12+5,none⟩=some (.int .u8 (l.getD j default).a.op)/\w.cell? ⟨b,off+j*12+6,none⟩=some (.slice aa (l.getD j default).a.kids.length ac))/\
  (w.cell? ⟨b,off+j*12+7,none⟩=some (.int .i64 (l.getD j default).b.kind)/\w.cell? ⟨b,off+j*12+8,none⟩=some (.int .i64 (l.getD j default).b.n)/\w.cell? ⟨b,off+j*12+9,none⟩=some (.int .u8 (l.getD j default).b.op)/\w.cell? ⟨b,off+j*12+10,none⟩=some (.slice ba (l.getD j default).b.kids.length bc))/\
  w.cell? ⟨b,off+j*12+11,none⟩=some (.int .i64 (l.getD j default).dest)/\
  zx d w (l.getD j default).a (.slice aa (l.getD j default).a.kids.length ac)/\zx d w (l.getD j default).b (.slice ba (l.getD j default).b.kids.length bc):=by
 obtain⟨b,off,cs,h1,h2,h3,h4,ka,kb,h5,h6,h7⟩:=ze.part h j hj
 subst h5
 obtain⟨aa,ac,rfl, -⟩:=h6.slice
 obtain⟨ba,bc,rfl, -⟩:=h7.slice
 exact⟨b,off,aa,ac,ba,bc,h1,h2,⟨h4 0 (by omega),h4 1 (by omega),h4 2 (by omega)⟩,⟨h4 3 (by omega),h4 4 (by omega),h4 5 (by omega),h4 6 (by omega)⟩,⟨h4 7 (by omega),h4 8 (by omega),h4 9 (by omega),h4 10 (by omega)⟩,h4 11 (by omega),h6,h7⟩
def xK (d:Nat) (w:World) (l:List zT) (cs:List Value):Prop:=∃v,cs= [v] /\jJ d w v l
theorem xK.stays (d:Nat):jO (xK d):=λ_ _ _ _ ⟨v,h,h1⟩ hb=>⟨v,h,ze.below (qQ.stays d) h1 hb⟩
abbrev yZ (d:Nat):=ze (xK d) 1
theorem yZ.part {d:Nat} {w:World} {a:Option Addr} {n cap:Nat} {l:List (List zT)} (h:yZ d w (.slice a n cap) l) (j:Nat) (hj:j<l.length):∃b off ka kc,a=some ⟨b,off,none⟩/\b<w.heap.size/\w.cell? ⟨b,off+j,none⟩=some (.slice ka (l.getD j []).length kc)/\jJ d w (.slice ka (l.getD j []).length kc) (l.getD j []):=by
 obtain⟨b,off,cs,h1,h2,h3,h4,v,h5,h6⟩:=ze.part h j hj
 subst h5
 obtain⟨ka,kc,rfl, -⟩:=ze.slice h6
 have:=h4 0 (by omega)
 rw [Nat.mul_one,Nat.add_zero] at this
 exact⟨b,off,ka,kc,h1,h2,this,h6⟩
structure zK where
 vars:Int
 domain:Int
 threads:List (List zT)
def yT (c:zK) (tv:Value):Value:= .agg #[.int .i64 c.vars, .int .i64 c.domain,tv]
structure zF where
 model:Int
 bound:Int
 deriving DecidableEq
def xD (m:zF):Value:= .agg #[.int .i64 m.model, .int .i64 m.bound]
end Go.Proofs.YteggflahafiieaaGreatDoor
namespace Go.Proofs.YteggflahafiieaaGreatDoor
open Go.RowKit
set_option maxRecDepth 100000
set_option maxHeartbeats 16000000
theorem zV {P:Program} (w:World) {ops:Array Oper} {o:Oper} {a:Act} {K:Act->World->Prop} {Q:Exit->Act->World->Prop} {E:Prop} (hw:Region.wanted o (yielded ops a.tmps)=true) (s x:Operand) (t:TypeId)
  (ho:o.op= .call { callee:= .builtin .append,args:= #[s,x],argTypes:= #[t,t] })
  (e:TypeId) (z:Value) (size bytes:Nat) (ht:P.underlying t=some (.slice e)) (hinfo:(P.info? e).map (λi=>(i.zero,i.size,i.bytes))=some (some z,size,bytes)) (hzs:z.cells.size=size) (hsz:0<size)
  (base:Nat) (v:Value) (n:Nat) (xs:List Value) (hs:a.eval s=v) (hown:w.ownsRow base e size v n xs)
  (ad:Addr) (m c:Nat) (news:List Value) (hx:a.eval x= .slice (some ad) m c) (hl:news.length=m*size) (hnews:∀j u,news[j]? =some u->w.cell? (ad.add j)=some u) (h1:∀u∈news,u.oneCell'=true)
  (h63:n+m<=maxLen) (hbytes:(n+m)*bytes<=140737488355328) (hbase:base<=w.heap.size)
  (h:∀a' cap' w',w'.ownsRow base e size (.slice a' (n+m) cap') (n+m) (xs++news)->cap'<=9223372036854775807->n+m<=cap'->Since (λk=>v.ownBlock=some k) w w'->
   (∀k,(Value.slice a' (n+m) cap').ownBlock=some k->v.ownBlock=some k\/k=w.heap.size)->
   K (a.put o.dst (.slice a' (n+m) cap')) w'):if Region.wanted o (yielded ops a.tmps)=true then Oper.wp P o a w K Q else E:=by
 rw [if_pos hw]
 obtain⟨i,hi,hz,hsize,hby⟩:=info_parts hinfo
 obtain⟨v',w',hr,h2,h3,h4⟩:=run_append_own (P:=P) w base t o.type e i z size bytes ht hi hz hsize hby hzs hsz v n xs hown ad m c news hl hnews h1 h63 hbytes hbase
 have hwh:=zaS ht hi hz hsize hby hown hl hnews h1 h63 hbytes hr
 obtain⟨a',cap',rfl,hc1,hc2⟩:=qO h2
 unfold Oper.wp execOp
 simp only [ho,resolve,invoke,builtin,Sem.run_bind,Sem.run_pure,Result.andThen_ok,List.map_toArray,List.map_cons,List.map_nil,hs,hx,hr]
 refine h a' cap' w' h2 (by unfold maxLen at hc2;omega) hc1 ((Since.refl _ _).grown h3 (λk hk=> .inl hk)) (λk hk=> ?_)
 rw [hk] at hwh
 rcases hwh with hwh|hwh
 ·exact .inl hwh.symm
 exact .inr (by simpa using hwh)
theorem zbu {P:Program} (w:World) (t ty e:TypeId) (i:TypeInfo) (ht:P.underlying t=some (.slice e)) (hi:P.info? e=some i) (a:Option Addr) (c:Nat):
  (Builtin.append_ #[t,t] ty #[.slice none 0 0, .slice a 0 c]).run P w= .ok (.slice none 0 0) w:=by
 cases a<;>simp [Builtin.append_,run_underlying ht,sizeOf,typeInfo,hi,Builtin.lenOf,Builtin.firstCells,loadCells,loadCellsFrom]
theorem zdg {P:Program} (w:World) {ops:Array Oper} {rest:List Oper} {o:Oper} {a:Act} {Q:Exit->Act->World->Prop} (hgd:o.guard=none) (s x:Operand) (t:TypeId)
  (ho:o.op= .call { callee:= .builtin .append,args:= #[s,x],argTypes:= #[t,t] }) (e:TypeId) (i:TypeInfo) (ht:P.underlying t=some (.slice e)) (hi:P.info? e=some i)
  (hs:a.eval s= .slice none 0 0) (ad:Option Addr) (c:Nat) (hx:a.eval x= .slice ad 0 c) (h:wpList P ops Q rest (a.put o.dst (.slice none 0 0)) w):wpList P ops Q (o::rest) a w:=by
 refine wpList_plain hgd λ_ hK=> ?_
 unfold Oper.wp execOp
 simp only [ho,resolve,invoke,builtin,Sem.run_bind,Sem.run_pure,Result.andThen_ok,List.map_toArray,List.map_cons,List.map_nil,hs,hx,zbu w t o.type e i ht hi ad c]
 exact hK _ _ h
theorem jd {P:Program} (w:World) {ops:Array Oper} {o:Oper} {a:Act} {K:Act->World->Prop} {Q:Exit->Act->World->Prop} {E:Prop} (hw:Region.wanted o (yielded ops a.tmps)=true) (s x:Operand) (t:TypeId)
  (ho:o.op= .call { callee:= .builtin .append,args:= #[s,x],argTypes:= #[t,t] }) (e:TypeId) (i:TypeInfo) (ht:P.underlying t=some (.slice e)) (hi:P.info? e=some i)
  (hs:a.eval s= .slice none 0 0) (ad:Option Addr) (c:Nat) (hx:a.eval x= .slice ad 0 c) (h:K (a.put o.dst (.slice none 0 0)) w):if Region.wanted o (yielded ops a.tmps)=true then Oper.wp P o a w K Q else E:=by
 rw [if_pos hw]
 unfold Oper.wp execOp
 simp only [ho,resolve,invoke,builtin,Sem.run_bind,Sem.run_pure,Result.andThen_ok,List.map_toArray,List.map_cons,List.map_nil,hs,hx,zbu w t o.type e i ht hi ad c]
 exact h
theorem ze.news {α:Type} [Inhabited α] {R:World->α->List Value->Prop} {size:Nat} {f:α->List Value} (hs:0<size) (hf:∀x,(f x).length=size) (hR:∀w x cs,R w x cs->cs=f x) {w:World} {b o n c:Nat} {l:List α} (h:ze R size w (.slice (some ⟨b,o,none⟩) n c) l):
  ∀j u,(zl f l)[j]? =some u->w.cell? ((⟨b,o,none⟩:Addr).add j)=some u:=by
 intro j u hu
 have hj:j<l.length*size:=by
  rcases Nat.lt_or_ge j (l.length*size) with e|e
  ·exact e
  rw [List.getElem?_eq_none (by rw [jA hf];exact e)] at hu;cases hu
 obtain⟨q,r,hq,hr,rfl⟩:∃q r,q<l.length/\r<size/\j=q*size+r:=
  ⟨j / size,j % size,Nat.div_lt_of_lt_mul (by rw [Nat.mul_comm];exact hj),Nat.mod_lt _ hs,by rw [Nat.mul_comm];exact(Nat.div_add_mod j size).symm⟩
 rw [zaR hf hq hr] at hu
 obtain⟨b',o',cs,he, -, -,h4,h5⟩:=h.part q hq
 cases he
 have h6:=h4 r hr
 rw [hR _ _ _ h5,hu] at h6
 rw [show(⟨b,o,none⟩:Addr).add (q*size+r)=⟨b,o+q*size+r,none⟩ by
  simp only [Addr.add]
  split
  ·rename_i h;rw [show o+q*size+r=o by omega]
  rw [Nat.add_assoc]]
 exact h6
theorem ze.of_flat {α:Type} [Inhabited α] {R:World->α->List Value->Prop} {size:Nat} {f:α->List Value} (hf:∀x,(f x).length=size) (hR:∀w x,R w x (f x)) {w:World} {B:Nat} {e:TypeId} {sv:Value} {l:List α} (h:w.ownsRow B e size sv l.length (zl f l)):ze R size w sv l:=
 ze.zaQ h λj hj=>⟨f (l.getD j default),hf _,λ_ hi=>zaR hf hj hi,hR _ _⟩
theorem ze.nil {α:Type} [Inhabited α] {R:World->α->List Value->Prop} {size:Nat} (w:World):ze R size w (.slice none 0 0) ([] :List α):=⟨none,0,rfl,by simp,λj hj=>by simp at hj⟩
theorem xw {X:World} {B C:Nat} {e:TypeId} {size:Nat} {v:Value} {n:Nat} {xs:List Value} (h:X.ownsRow B e size v n xs) (hC:C<=B):X.ownsRow C e size v n xs:=by
 refine⟨h.1, ?_⟩
 rcases h.2 with hn|⟨g,cap,cur,rfl,hb,rest⟩
 ·exact .inl hn
 exact .inr ⟨g,cap,cur,rfl,Nat.le_trans hC hb,rest⟩
structure App (e:TypeId) (size:Nat) (V X:World) (v:Value) (n:Nat) (xs:List Value) (bs:List (Nat × List Value)):Prop where
 below:Below V.heap.size V X
 row:X.ownsRow V.heap.size e size v n xs
 news:∀p∈bs,X.heap[p.1]? =some (.cells p.2.toArray e (0,0))/\v.ownBlock≠some p.1/\V.heap.size<=p.1
section
variable {e:TypeId} {size:Nat} {V X:World} {v:Value} {n:Nat} {xs:List Value} {bs:List (Nat × List Value)}
theorem App.start (e:TypeId) (size:Nat) (V:World):App e size V V (.slice none 0 0) 0 [] [] :=⟨Below.refl _ _,World.ownsRow_nil _ _ _ _,by simp⟩
theorem App.drew (h:App e size V X v n xs bs):App e size V X.drew v n xs bs:=⟨h.below.drew,(Since.refl (λ_=>False) X).drew.row h.row (λ_ _ h=>h),h.news⟩
theorem App.alloc (h:App e size V X v n xs bs) (cs:List Value):App e size V (X.alloc (.cells cs.toArray e)) v n xs ((X.heap.size,cs)::bs):=by
 refine⟨h.below.alloc h.below.size _,h.row.alloc _, ?_⟩
 intro p hp
 rcases List.mem_cons.1 hp with rfl|hp
 ·exact⟨yE X _,λe=>by have:=(h.row.lt _ e).2;simp at this,h.below.size⟩
 obtain⟨a,b,c⟩:=h.news p hp
 exact⟨(Below.heap_alloc _ _ _ (zq a)).trans a,b,c⟩
theorem App.app (h:App e size V X v n xs bs) {X':World} {v':Value} {m:Nat} {xs':List Value} (ho:X'.ownsRow V.heap.size e size v' m xs') (hs:Since (λk=>v.ownBlock=some k) X X') (hl:∀k,v'.ownBlock=some k->v.ownBlock=some k\/k=X.heap.size):App e size V X' v' m xs' bs:=by
 refine⟨h.below.trans (hs.below h.below.size (λk hk=>(h.row.lt k hk).1)),ho,λp hp=> ?_⟩
 obtain⟨a,b,c⟩:=h.news p hp
 refine⟨(hs.block _ (zq a) b).trans a,λe=> ?_,c⟩
 rcases hl _ e with e'|e'
 ·exact b e'
 have:=zq a;omega
theorem App.cell (h:App e size V X v n xs bs) {b:Nat} {cs:List Value} (hb:(b,cs)∈bs):∀j x,cs[j]? =some x->X.cell? ((⟨b,0,none⟩:Addr).add j)=some x:=by
 intro j x hj
 have:=za (h.news _ hb).1 j
 rw [show(⟨b,0,none⟩:Addr).add j=⟨b,j,none⟩ by simp only [Addr.add];split<;>simp_all,this]
 simpa using hj
end
