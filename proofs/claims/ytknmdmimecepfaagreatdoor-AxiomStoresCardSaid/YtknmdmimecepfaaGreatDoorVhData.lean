/- Steps. -/
import Derived.BigQuiet
import Derived.Deep.AppendLies
import Derived.Deep.CutBlock
import Derived.Deep.DeepCutAuto
import Derived.StillTailTactics
import Derived.Test.YtknmdmimecepfaaGreatDoorVhBase
set_option linter.all false
namespace Go.Proofs.YtknmdmimecepfaaGreatDoor
open Go.RowKit
set_option maxRecDepth 100000
set_option maxHeartbeats 16000000
theorem zn {a b c:World} (h:Below a.heap.size a b) (k:Below b.heap.size b c):Below a.heap.size a c:=h.trans (k.mono h.size)
theorem zk {w w':World} (h:Below w.heap.size w w'):∀a v,w.cell? a=some v->w'.cell? a=some v:=λ_ _ hc=>(h.cell (World.block_lt_of_cell? w _ hc)).trans hc
def zf {α:Type} [Inhabited α] (R:World->α->List Value->Prop) (size:Nat) (w:World) (sv:Value) (l:List α):Prop:=
 ∃a cap,sv= .slice a l.length cap/\(l.length<=cap/\cap<=9223372036854775807)/\∀j,j<l.length->∃b off cs,a=some ⟨b,off,none⟩/\b<w.heap.size/\
  cs.length=size/\(∀i,i<size->w.cell? ⟨b,off+j*size+i,none⟩=cs[i]?)/\R w (l.getD j default) cs
def qN {α:Type} (R:World->α->List Value->Prop):Prop:=∀w w' x cs,R w x cs->Below w.heap.size w w'->R w' x cs
theorem zf.below {α:Type} [Inhabited α] {R:World->α->List Value->Prop} (hR:qN R) {size:Nat} {w w':World} {sv:Value} {l:List α} (h:zf R size w sv l) (hb:Below w.heap.size w w'):zf R size w' sv l:=by
 obtain⟨a,cap,h1,h2,h4⟩:=h
 refine⟨a,cap,h1,h2,λj hj=> ?_⟩
 obtain⟨b,off,cs,h5,h6,h7,h8,h9⟩:=h4 j hj
 exact⟨b,off,cs,h5,Nat.lt_of_lt_of_le h6 hb.size,h7,λi hi=>(hb.cell (p:=⟨b,off+j*size+i,none⟩) h6).trans (h8 i hi),hR _ _ _ _ h9 hb⟩
theorem zf.slice {α:Type} [Inhabited α] {R:World->α->List Value->Prop} {size:Nat} {w:World} {sv:Value} {l:List α} (h:zf R size w sv l):∃a cap,sv= .slice a l.length cap/\l.length<=9223372036854775807:=by
 obtain⟨a,cap,h1,h2, -⟩:=h;exact⟨a,cap,h1,Nat.le_trans h2.1 h2.2⟩
theorem zf.part {α:Type} [Inhabited α] {R:World->α->List Value->Prop} {size:Nat} {w:World} {a:Option Addr} {n cap:Nat} {l:List α} (h:zf R size w (.slice a n cap) l) (j:Nat) (hj:j<l.length):
  ∃b off cs,a=some ⟨b,off,none⟩/\b<w.heap.size/\cs.length=size/\(∀i,i<size->w.cell? ⟨b,off+j*size+i,none⟩=cs[i]?)/\R w (l.getD j default) cs:=by
 obtain⟨a',cap',he, -,hc⟩:=h
 cases he
 exact hc j hj
theorem zf.uj {α:Type} [Inhabited α] {R:World->α->List Value->Prop} {size:Nat} {w:World} {B:Nat} {e:TypeId} {sv:Value} {l:List α} {xs:List Value} (h:w.ownsRow B e size sv l.length xs)
  (hx:∀j,j<l.length->∃cs:List Value,cs.length=size/\(∀i,i<size->xs[j*size+i]? =cs[i]?)/\R w (l.getD j default) cs):zf R size w sv l:=by
 obtain⟨a,cap,rfl,h1,h2⟩:=xP h
 unfold maxLen at h2
 refine⟨a,cap,rfl,⟨h1,by omega⟩,λj hj=> ?_⟩
 obtain⟨g,cap',he, -, -⟩:=zcw h (by omega)
 cases he
 obtain⟨cs,c1,c2,c3⟩:=hx j hj
 refine⟨g,0,cs,rfl,(h.lt g rfl).2,c1,λi hi=> ?_,c3⟩
 rw [Nat.zero_add,h.cellAt _ (by have:=Nat.mul_le_mul_right size (show j+1<=l.length by omega);rw [Nat.add_mul] at this;omega)]
 exact c2 i hi
def zm {α:Type} (f:α->List Value) (l:List α):List Value:=l.flatMap f
theorem jB {α:Type} {f:α->List Value} {size:Nat} (hf:∀x,(f x).length=size) (l:List α):(zm f l).length=l.length*size:=by
 induction l with
 |nil=>simp [zm]
 |cons p l ih=>simp only [zm,List.flatMap_cons,List.length_append,List.length_cons] at ih ⊢;rw [ih,hf,Nat.add_mul];omega
theorem zaf {α:Type} [Inhabited α] {f:α->List Value} {size:Nat} (hf:∀x,(f x).length=size):∀ {l:List α} {j i:Nat},j<l.length->i<size->(zm f l)[j*size+i]? =(f (l.getD j default))[i]? :=by
 intro l
 induction l with
 |nil=>intro j i hj;simp at hj
 |cons p l ih=>
 intro j i hj hi
 simp only [zm,List.flatMap_cons] at ih ⊢
 cases j with
 |zero=>rw [Nat.zero_mul,Nat.zero_add,List.getElem?_append_left (by rw [hf];exact hi)];rfl
 |succ j=>
 rw [List.getElem?_append_right (by rw [hf,Nat.add_mul];omega),hf,show(j+1)*size+i - size=j*size+i by rw [Nat.add_mul];omega]
 rw [ih (by simpa using hj) hi];rfl
structure uR where
 var:Int
 n:Int
 deriving DecidableEq
instance:Inhabited uR:=⟨⟨0,0⟩⟩
def uR.cells (e:uR):List Value:= [.int .i64 e.var, .int .i64 e.n]
def uR.val (e:uR):Value:= .agg #[.int .i64 e.var, .int .i64 e.n]
def zoI (_:World) (e:uR) (cs:List Value):Prop:=cs=e.cells
abbrev zpp:=zf zoI 2
structure bA where
 kind:Int
 thread:Int
 var:Int
 deriving DecidableEq
instance:Inhabited bA:=⟨⟨0,0,0⟩⟩
def bA.cells (e:bA):List Value:= [.int .i64 e.kind, .int .i64 e.thread, .int .i64 e.var]
def zpq (_:World) (e:bA) (cs:List Value):Prop:=cs=e.cells
abbrev zmH:=zf zpq 3
def uy (_:World) (x:Int) (cs:List Value):Prop:=cs= [.int .i64 x]
theorem uy.stays:qN uy:=λ_ _ _ _ h _=>h
abbrev xJ:=zf uy 1
theorem xJ.part {w:World} {a:Option Addr} {n cap:Nat} {l:List Int} (h:xJ w (.slice a n cap) l) (j:Nat) (hj:j<l.length):∃b off,a=some ⟨b,off,none⟩/\b<w.heap.size/\w.cell? ⟨b,off+j,none⟩=some (.int .i64 (l.getD j 0)):=by
 obtain⟨b,off,cs,h1,h2,h3,h4,h5⟩:=zf.part h j hj
 have h5:cs= [.int .i64 (l.getD j default)] :=h5
 subst h5
 have:=h4 0 (by omega)
 rw [Nat.mul_one,Nat.add_zero] at this
 exact⟨b,off,h1,h2,this⟩
structure gZ where
 pc:Int
 regs:List Int
 buf:List uR
 deriving DecidableEq
instance:Inhabited gZ:=⟨⟨0, [0,0,0,0], []⟩⟩
def gZ.cells (t:gZ) (bv:Value):List Value:= [.int .i64 t.pc, .int .i64 (t.regs.getD 0 0), .int .i64 (t.regs.getD 1 0), .int .i64 (t.regs.getD 2 0), .int .i64 (t.regs.getD 3 0),bv]
def zmJ (w:World) (t:gZ) (cs:List Value):Prop:=t.regs.length=4/\∃bv,cs=t.cells bv/\zpp w bv t.buf
abbrev zjT:=zf zmJ 6
structure uJ where
 threads:List gZ
 mem:List Int
 bad:Bool
 deriving DecidableEq
instance:Inhabited uJ:=⟨⟨[], [],false⟩⟩
structure zmK (w:World) (s:uJ) (tv mv:Value):Prop where
 threads:zjT w tv s.threads
 mem:xJ w mv s.mem
def zoJ (w:World) (s:uJ) (cs:List Value):Prop:=∃tv mv,cs= [tv,mv, .bool s.bad] /\zmK w s tv mv
abbrev zkm:=zf zoJ 3
inductive zC where
 |mk (kind n op:Int) (kids:List zC)
def zC.kind:zC->Int| .mk k _ _ _=>k
def zC.n:zC->Int| .mk _ n _ _=>n
def zC.op:zC->Int| .mk _ _ o _=>o
def zC.kids:zC->List zC| .mk _ _ _ l=>l
instance:Inhabited zC:=⟨.mk 0 0 0 []⟩
def zC.cells (x:zC) (kv:Value):List Value:= [.int .i64 x.kind, .int .i64 x.n, .int .u8 x.op,kv]
def qc (x:zC) (kv:Value):Value:= .agg #[.int .i64 x.kind, .int .i64 x.n, .int .u8 x.op,kv]
def zM:Nat->World->zC->Value->Prop
 |0,_,_,_=>False
 |d+1,w,x,kv=>zf (λw y cs=>∃kv',cs=y.cells kv'/\zM d w y kv') 4 w kv x.kids
theorem zM.below {d:Nat} {w w':World} {x:zC} {kv:Value} (h:zM d w x kv) (hb:Below w.heap.size w w'):zM d w' x kv:=by
 induction d generalizing w w' x kv with
 |zero=>exact h.elim
 |succ d ih=>exact zf.below (λ_ _ _ _ ⟨kv',e,h'⟩ hb'=>⟨kv',e,ih h' hb'⟩) h hb
theorem zM.slice {d:Nat} {w:World} {x:zC} {kv:Value} (h:zM d w x kv):∃a cap,kv= .slice a x.kids.length cap/\x.kids.length<=9223372036854775807:=by
 cases d with
 |zero=>exact h.elim
 |succ d=>exact zf.slice h
theorem zM.part {d:Nat} {w:World} {x:zC} {a:Option Addr} {n cap:Nat} (h:zM (d+1) w x (.slice a n cap)) (j:Nat) (hj:j<x.kids.length):∃b off ka kc,a=some ⟨b,off,none⟩/\b<w.heap.size/\
  w.cell? ⟨b,off+j*4,none⟩=some (.int .i64 (x.kids.getD j default).kind)/\w.cell? ⟨b,off+j*4+1,none⟩=some (.int .i64 (x.kids.getD j default).n)/\w.cell? ⟨b,off+j*4+2,none⟩=some (.int .u8 (x.kids.getD j default).op)/\w.cell? ⟨b,off+j*4+3,none⟩=some (.slice ka (x.kids.getD j default).kids.length kc)/\
  zM d w (x.kids.getD j default) (.slice ka (x.kids.getD j default).kids.length kc):=by
 obtain⟨b,off,cs,h1,h2,h3,h4,kv,h5,h6⟩:=zf.part h j hj
 subst h5
 obtain⟨ka,kc,rfl, -⟩:=h6.slice
 exact⟨b,off,ka,kc,h1,h2,h4 0 (by omega),h4 1 (by omega),h4 2 (by omega),h4 3 (by omega),h6⟩
structure zi where
 op:Int
 reg:Int
 var:Int
 a:zC
 b:zC
 dest:Int
instance:Inhabited zi:=⟨⟨0,0,0,default,default,0⟩⟩
def zi.cells (x:zi) (ka kb:Value):List Value:= [.int .i64 x.op, .int .i64 x.reg, .int .i64 x.var, .int .i64 x.a.kind, .int .i64 x.a.n, .int .u8 x.a.op,ka, .int .i64 x.b.kind, .int .i64 x.b.n, .int .u8 x.b.op,kb, .int .i64 x.dest]
def xU (d:Nat) (w:World) (x:zi) (cs:List Value):Prop:=∃ka kb,cs=x.cells ka kb/\zM d w x.a ka/\zM d w x.b kb
theorem xU.stays (d:Nat):qN (xU d):=λ_ _ _ _ ⟨ka,kb,h,h1,h2⟩ hb=>⟨ka,kb,h,h1.below hb,h2.below hb⟩
abbrev qz (d:Nat):=zf (xU d) 12
theorem qz.part {d:Nat} {w:World} {a:Option Addr} {n cap:Nat} {l:List zi} (h:qz d w (.slice a n cap) l) (j:Nat) (hj:j<l.length):∃b off aa ac ba bc,a=some ⟨b,off,none⟩/\b<w.heap.size/\
  (w.cell? ⟨b,off+j*12,none⟩=some (.int .i64 (l.getD j default).op)/\w.cell? ⟨b,off+j*12+1,none⟩=some (.int .i64 (l.getD j default).reg)/\w.cell? ⟨b,off+j*12+2,none⟩=some (.int .i64 (l.getD j default).var))/\
  (w.cell? ⟨b,off+j*12+3,none⟩=some (.int .i64 (l.getD j default).a.kind)/\w.cell? ⟨b,off+j*12+4,none⟩=some (.int .i64 (l.getD j default).a.n)/\w.cell? ⟨b,off+j*12+5,none⟩=some (.int .u8 (l.getD j default).a.op)/\w.cell? ⟨b,off+j*12+6,none⟩=some (.slice aa (l.getD j default).a.kids.length ac))/\
  (w.cell? ⟨b,off+j*12+7,none⟩=some (.int .i64 (l.getD j default).b.kind)/\w.cell? ⟨b,off+j*12+8,none⟩=some (.int .i64 (l.getD j default).b.n)/\w.cell? ⟨b,off+j*12+9,none⟩=some (.int .u8 (l.getD j default).b.op)/\w.cell? ⟨b,off+j*12+10,none⟩=some (.slice ba (l.getD j default).b.kids.length bc))/\
  w.cell? ⟨b,off+j*12+11,none⟩=some (.int .i64 (l.getD j default).dest)/\
  zM d w (l.getD j default).a (.slice aa (l.getD j default).a.kids.length ac)/\zM d w (l.getD j default).b (.slice ba (l.getD j default).b.kids.length bc):=by
 obtain⟨b,off,cs,h1,h2,h3,h4,ka,kb,h5,h6,h7⟩:=zf.part h j hj
 subst h5
 obtain⟨aa,ac,rfl, -⟩:=h6.slice
 obtain⟨ba,bc,rfl, -⟩:=h7.slice
 exact⟨b,off,aa,ac,ba,bc,h1,h2,⟨h4 0 (by omega),h4 1 (by omega),h4 2 (by omega)⟩,⟨h4 3 (by omega),h4 4 (by omega),h4 5 (by omega),h4 6 (by omega)⟩,⟨h4 7 (by omega),h4 8 (by omega),h4 9 (by omega),h4 10 (by omega)⟩,h4 11 (by omega),h6,h7⟩
def j5 (d:Nat) (w:World) (l:List zi) (cs:List Value):Prop:=∃v,cs= [v] /\qz d w v l
theorem j5.stays (d:Nat):qN (j5 d):=λ_ _ _ _ ⟨v,h,h1⟩ hb=>⟨v,h,zf.below (xU.stays d) h1 hb⟩
abbrev yB (d:Nat):=zf (j5 d) 1
theorem yB.part {d:Nat} {w:World} {a:Option Addr} {n cap:Nat} {l:List (List zi)} (h:yB d w (.slice a n cap) l) (j:Nat) (hj:j<l.length):∃b off ka kc,a=some ⟨b,off,none⟩/\b<w.heap.size/\w.cell? ⟨b,off+j,none⟩=some (.slice ka (l.getD j []).length kc)/\qz d w (.slice ka (l.getD j []).length kc) (l.getD j []):=by
 obtain⟨b,off,cs,h1,h2,h3,h4,v,h5,h6⟩:=zf.part h j hj
 subst h5
 obtain⟨ka,kc,rfl, -⟩:=zf.slice h6
 have:=h4 0 (by omega)
 rw [Nat.mul_one,Nat.add_zero] at this
 exact⟨b,off,ka,kc,h1,h2,this,h6⟩
structure zl where
 vars:Int
 domain:Int
 threads:List (List zi)
def qP (c:zl) (tv:Value):Value:= .agg #[.int .i64 c.vars, .int .i64 c.domain,tv]
structure zpo where
 model:Int
 bound:Int
 deriving DecidableEq
end Go.Proofs.YtknmdmimecepfaaGreatDoor
namespace Go.Proofs.YtknmdmimecepfaaGreatDoor
open Go.RowKit
set_option maxRecDepth 100000
set_option maxHeartbeats 16000000
theorem vQ {P:Program} (w:World) {ops:Array Oper} {o:Oper} {a:Act} {K:Act->World->Prop} {Q:Exit->Act->World->Prop} {E:Prop} (hw:Region.wanted o (yielded ops a.tmps)=true) (s x:Operand) (t:TypeId)
  (ho:o.op= .call { callee:= .builtin .append,args:= #[s,x],argTypes:= #[t,t] })
  (e:TypeId) (z:Value) (size bytes:Nat) (ht:P.underlying t=some (.slice e)) (hinfo:(P.info? e).map (λi=>(i.zero,i.size,i.bytes))=some (some z,size,bytes)) (hzs:z.cells.size=size) (hsz:0<size)
  (base:Nat) (v:Value) (n:Nat) (xs:List Value) (hs:a.eval s=v) (hown:w.ownsRow base e size v n xs)
  (ad:Addr) (m c:Nat) (news:List Value) (hx:a.eval x= .slice (some ad) m c) (hl:news.length=m*size) (hnews:∀j u,news[j]? =some u->w.cell? (ad.add j)=some u) (h1:∀u∈news,u.oneCell'=true)
  (h63:n+m<=maxLen) (hbytes:(n+m)*bytes<=140737488355328) (hbase:base<=w.heap.size)
  (h:∀a' cap' w',w'.ownsRow base e size (.slice a' (n+m) cap') (n+m) (xs++news)->cap'<=9223372036854775807->n+m<=cap'->Since (λk=>v.ownBlock=some k) w w'->
   (∀k,(Value.slice a' (n+m) cap').ownBlock=some k->v.ownBlock=some k\/k=w.heap.size)->
   K (a.put o.dst (.slice a' (n+m) cap')) w'):if Region.wanted o (yielded ops a.tmps)=true then Oper.wp P o a w K Q else E:=by
 rw [if_pos hw]
 obtain⟨i,hi,hz,hsize,hby⟩:=info_parts hinfo
 obtain⟨v',w',hr,h2,h3,h4⟩:=run_append_own (P:=P) w base t o.type e i z size bytes ht hi hz hsize hby hzs hsz v n xs hown ad m c news hl hnews h1 h63 hbytes hbase
 have hwh:=uL ht hi hz hsize hby hown hl hnews h1 h63 hbytes hr
 obtain⟨a',cap',rfl,hc1,hc2⟩:=xP h2
 unfold Oper.wp execOp
 simp only [ho,resolve,invoke,builtin,Sem.run_bind,Sem.run_pure,Result.andThen_ok,List.map_toArray,List.map_cons,List.map_nil,hs,hx,hr]
 refine h a' cap' w' h2 (by unfold maxLen at hc2;omega) hc1 ((Since.refl _ _).grown h3 (λk hk=> .inl hk)) (λk hk=> ?_)
 rw [hk] at hwh
 rcases hwh with hwh|hwh
 ·exact .inl hwh.symm
 exact .inr (by simpa using hwh)
theorem zf.of_flat {α:Type} [Inhabited α] {R:World->α->List Value->Prop} {size:Nat} {f:α->List Value} (hf:∀x,(f x).length=size) (hR:∀w x,R w x (f x)) {w:World} {B:Nat} {e:TypeId} {sv:Value} {l:List α} (h:w.ownsRow B e size sv l.length (zm f l)):zf R size w sv l:=
 zf.uj h λj hj=>⟨f (l.getD j default),hf _,λ_ hi=>zaf hf hj hi,hR _ _⟩
theorem zdG {X:World} {B C:Nat} {e:TypeId} {size:Nat} {v:Value} {n:Nat} {xs:List Value} (h:X.ownsRow B e size v n xs) (hC:C<=B):X.ownsRow C e size v n xs:=by
 refine⟨h.1, ?_⟩
 rcases h.2 with hn|⟨g,cap,cur,rfl,hb,rest⟩
 ·exact .inl hn
 exact .inr ⟨g,cap,cur,rfl,Nat.le_trans hC hb,rest⟩
structure App (e:TypeId) (size:Nat) (V X:World) (v:Value) (n:Nat) (xs:List Value) (bs:List (Nat × List Value)):Prop where
 below:Below V.heap.size V X
 row:X.ownsRow V.heap.size e size v n xs
 news:∀p∈bs,X.heap[p.1]? =some (.cells p.2.toArray e (0,0))/\v.ownBlock≠some p.1/\V.heap.size<=p.1
section
variable {e:TypeId} {size:Nat} {V X:World} {v:Value} {n:Nat} {xs:List Value} {bs:List (Nat × List Value)}
end
end Go.Proofs.YtknmdmimecepfaaGreatDoor
namespace Go.Proofs.YtknmdmimecepfaaGreatDoor
open Go.RowKit
set_option maxRecDepth 100000
set_option maxHeartbeats 16000000
theorem xH (w:World) (o1 o2:Obj):Below w.heap.size w ((w.alloc o1).alloc o2):=((Below.refl _ _).alloc (Nat.le_refl _) _).alloc (by simp) _
theorem xI (w:World) (o1 o2:Obj):((w.alloc o1).alloc o2).heap[w.heap.size]? =some o1:=(Below.heap_alloc _ _ _ (by simp)).trans (yG w _)
theorem xu (w:World) (o1 o2:Obj):((w.alloc o1).alloc o2).heap[w.heap.size+1]? =some o2:=by
 have:=yG (w.alloc o1) o2
 simp only [World.size_alloc] at this;exact this
theorem uD:(Tryz.prog.info? 3).map (λi=>(i.zero,i.size,i.bytes))=some (some (.int .i64 0),1,8):=by kernel_rfl
theorem kZ (x:Int):([Value.int .i64 x]).length=1:=rfl
def zR (x:Int):List Value:= [.int .i64 x]
theorem bV {w:World} {B:Nat} {sv:Value} {l:List Int} (h:w.ownsRow B 3 1 sv l.length (zm zR l)):xJ w sv l:=zf.of_flat (R:=uy) (f:=zR) kZ (λ_ _=>rfl) h
theorem qx {P:Program} {fn:Func} {p:Tmp} {ty:TypeId} (h:fn.results= #[.cell p ty]) (tmps:Array Value) (w:World) (g:Nat) (t:TypeId) (cs:Array Value) (fr:Nat × Nat) (d:TypeDesc)
  (hp:tmps.getD p undef= .pointer (some ⟨g,0,none⟩)) (hg:w.heap[g]? =some (.cells cs t fr))
  (hu:P.underlying ty=some d) (hd:(match d with| .struct _| .array _ _=>true|_=>false)=true) (hi:(P.info? ty).map (·.size)=some cs.size):
  (results fn tmps).run P w= .ok (.agg cs) w:=by
 have hp':tmps[p]?.getD undef= .pointer (some ⟨g,0,none⟩):=by simpa using hp
 simp [results,h,hp',asAddr,run_loadVar_row w g t ty cs fr d hg hu hd hi]
theorem za7 {P:Program} {fn:Func} {p u:Tmp} {ty:TypeId} (h:fn.results= #[.cell p ty, .tmp u]) (tmps:Array Value) (w:World) (g:Nat) (t:TypeId) (cs:Array Value) (fr:Nat × Nat) (d:TypeDesc)
  (hp:tmps.getD p undef= .pointer (some ⟨g,0,none⟩)) (hg:w.heap[g]? =some (.cells cs t fr))
  (hu:P.underlying ty=some d) (hd:(match d with| .struct _| .array _ _=>true|_=>false)=true) (hi:(P.info? ty).map (·.size)=some cs.size):
  (results fn tmps).run P w= .ok (.tuple #[.agg cs,tmps.getD u undef]) w:=by
 have hp':tmps[p]?.getD undef= .pointer (some ⟨g,0,none⟩):=by simpa using hp
 simp [results,h,hp',asAddr,run_loadVar_row w g t ty cs fr d hg hu hd hi]
