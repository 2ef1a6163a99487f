/- Steps. -/
import Derived.Test.YtknmdmimecepfaaGreatDoorVhFinP
set_option linter.all false
namespace Go.Proofs.YtknmdmimecepfaaGreatDoor
open Go.RowKit
set_option maxRecDepth 100000
set_option maxHeartbeats 16000000
def uq (F:Nat->Prop) (X:World) (P:World->Prop):Prop:=∀X',Since F X X'->P X'
section
variable {F F' G:Nat->Prop} {X X':World} {P:World->Prop}
theorem uq.now (h:uq F X P):P X:=h X (Since.refl _ _)
theorem uq.step (h:uq F X P) (hs:Since G X X') (hG:∀k,G k->F k\/X.heap.size<=k) (hF:∀k,F' k->F k\/X.heap.size<=k):uq F' X' P:=λX'' h2=>
 h X'' ((hs.mono (G:=F) (λk hk hg=>(hG k hg).elim id (λh=>absurd hk (Nat.not_lt.2 h)))).trans h2 hF)
end
end Go.Proofs.YtknmdmimecepfaaGreatDoor
namespace Go.Proofs.YtknmdmimecepfaaGreatDoor
open Go.RowKit
set_option maxRecDepth 100000
set_option maxHeartbeats 16000000
theorem zdK {α:Type} (f:α->List Value) (l:List α) (x:α):zm f (l++ [x])=zm f l++f x:=by simp [zm]
theorem zkd {α:Type} {f:α->List Value} {B:Nat} {e:TypeId} {size:Nat} {w X:World} {a a':Option Addr} {n m c c':Nat} {l:List α} {x:α} {o:Obj} (ho:w.ownsRow B e size (.slice a n c) n (zm f l)) (h1:X.ownsRow B e size (.slice a' m c') m (zm f l++f x))
  (h4:Since (λk=>(Value.slice a n c).ownBlock=some k) (w.alloc o) X) {V:World} (hV:Below V.heap.size V w) (hB:V.heap.size<=B):X.ownsRow B e size (.slice a' m c') m (zm f (l++ [x]))/\Below V.heap.size V X:=by
 refine⟨by rw [zdK];exact h1,hV.trans ((((Since.refl _ w).alloc o).trans h4 (λk hk=> .inl hk)).below hV.size (λk hk=>Nat.le_trans hB (ho.lt k hk).1))⟩
end Go.Proofs.YtknmdmimecepfaaGreatDoor
namespace Go.Proofs.YtknmdmimecepfaaGreatDoor
open Go.RowKit
set_option maxRecDepth 100000
set_option maxHeartbeats 16000000
theorem zhp {w:World} {B C:Nat} {e e':TypeId} {size size':Nat} {v v':Value} {n n':Nat} {xs xs':List Value} (h:w.ownsRow B e size v n xs) (h':w.ownsRow C e' size' v' n' xs') (hne:e≠e'):∀k,v.ownBlock=some k->v'.ownBlock≠some k:=by
 intro k h1 h2
 rcases h'.2 with⟨rfl, -⟩|⟨g,cap,cur,rfl, -,hg, -⟩
 ·simp [Value.ownBlock] at h2
 simp only [Value.ownBlock,Option.some.injEq] at h2
 subst h2
 exact zfl h h1 hg hne
structure xY {α:Type} [Inhabited α] (F:Nat->Prop) (X:World) (R:World->α->List Value->Prop) (size B:Nat) (e:TypeId) (v:Value) (l:List α) (css:List (List Value)):Prop where
 len:css.length=l.length
 part:∀j,j<l.length->(css.getD j []).length=size/\uq F X (λy=>R y (l.getD j default) (css.getD j []))
 row:X.ownsRow B e size v l.length css.flatten
section
variable {α:Type} [Inhabited α] {F F' G:Nat->Prop} {X X':World} {R:World->α->List Value->Prop} {size B:Nat} {e:TypeId} {v v':Value} {l:List α} {css:List (List Value)}
theorem xY.nil (F:Nat->Prop) (X:World) (R:World->α->List Value->Prop) (size B:Nat) (e:TypeId):xY F X R size B e (.slice none 0 0) [] [] :=⟨rfl,λj hj=>by simp at hj,World.ownsRow_nil _ _ _ _⟩
theorem xY.step (h:xY F X R size B e v l css) (hs:Since G X X') (hv:∀k,v.ownBlock=some k->¬G k) (hG:∀k,G k->F k\/X.heap.size<=k) (hF:∀k,F' k->F k\/X.heap.size<=k):xY F' X' R size B e v l css:=
 ⟨h.len,λj hj=>⟨(h.part j hj).1,(h.part j hj).2.step hs hG hF⟩,hs.row h.row hv⟩
theorem vU {β:Type} {l:List β} {x d:β} {j:Nat} (hj:j<l.length):(l++ [x]).getD j d=l.getD j d:=by
 simp only [List.getD_eq_getElem?_getD,List.getElem?_append_left hj]
theorem vT {β:Type} {l:List β} {x d:β} :(l++ [x]).getD l.length d=x:=by
 simp [List.getD_eq_getElem?_getD]
theorem xY.push (h:xY F X R size B e v l css) (hs:Since G X X') (hG:∀k,G k->F k\/X.heap.size<=k) (hF:∀k,F' k->F k\/X.heap.size<=k) {x:α} {cs:List Value} (hx:uq F X (λy=>R y x cs)) (hc:cs.length=size)
  (h1:X'.ownsRow B e size v' (l.length+1) (css.flatten++cs)):xY F' X' R size B e v' (l++ [x]) (css++ [cs]):=by
 refine⟨by simp [h.len],λj hj=> ?_, ?_⟩
 ·rw [List.length_append] at hj
  simp only [List.length_cons,List.length_nil] at hj
  by_cases e:j=l.length
  ·subst e
   rw [vT,show l.length=css.length from h.len.symm,vT]
   exact⟨hc,hx.step hs hG hF⟩
  have hj':j<l.length:=by omega
  rw [vU hj',vU (by rw [h.len];exact hj')]
  exact⟨(h.part j hj').1,(h.part j hj').2.step hs hG hF⟩
 rw [List.length_append,List.flatten_append]
 simpa using h1
theorem gM {css:List (List Value)} {size:Nat} :∀ {j i:Nat},(∀j,j<css.length->(css.getD j []).length=size)->j<css.length->i<size->css.flatten[j*size+i]? =(css.getD j [])[i]? :=by
 induction css with
 |nil=>intro j i _ hj;simp at hj
 |cons c css ih=>
 intro j i h hj hi
 have h0:=h 0 (by simp)
 simp only [List.getD_cons_zero] at h0
 cases j with
 |zero=>rw [List.flatten_cons,Nat.zero_mul,Nat.zero_add,List.getElem?_append_left (by rw [h0];exact hi)];rfl
 |succ j=>
 rw [List.flatten_cons,List.getElem?_append_right (by rw [h0,Nat.add_mul];omega),h0,show(j+1)*size+i - size=j*size+i by rw [Nat.add_mul];omega]
 exact ih (λj hj=>by have:=h (j+1) (by simpa using hj);simpa using this) (by simpa using hj) hi
theorem xY.slice (h:xY F X R size B e v l css):zf R size X v l:=
 zf.uj h.row λj hj=>⟨css.getD j [],(h.part j hj).1,λi hi=>gM (λj hj=>(h.part j (by rw [<-h.len];exact hj)).1) (by rw [h.len];exact hj) hi,(h.part j hj).2.now⟩
end
def znl (w:World) (l:List bA) (cs:List Value):Prop:=∃v,cs= [v] /\zmH w v l
def zoX (w:World) (l:List Int) (cs:List Value):Prop:=∃v,cs= [v] /\xJ w v l
structure zi9 where
 states:List uJ
 moves:List (List bA)
 next:List (List Int)
instance:Inhabited zi9:=⟨⟨[], [], []⟩⟩
section
variable {W X X1:World} {g r:Nat} {sv mv nv xv sv':Value} {sl:List uJ} {ml:List (List bA)} {nl:List (List Int)} {xl:List Int} {sc mc nc:List (List Value)}
theorem yX {B e size n g:Nat} {v:Value} {xs:List Value} {c:Array Value} {t:TypeId} {f:Nat × Nat} (h:X.ownsRow B e size v n xs) (hb:X.heap[g]? =some (.cells c t f)) (hne:e≠t):∀k,v.ownBlock=some k->k≠g:=λk h1 e=>by
 subst e;exact zfl h h1 hb hne
end
end Go.Proofs.YtknmdmimecepfaaGreatDoor
namespace Go.Proofs.YtknmdmimecepfaaGreatDoor
open Go.RowKit
set_option maxRecDepth 100000
set_option maxHeartbeats 16000000
theorem gH {P:Program} (w:World) {ops:Array Oper} {rest:List Oper} {o:Oper} {a:Act} {Q:Exit->Act->World->Prop} (hgd:o.guard=none) (s x:Operand) (t:TypeId)
  (ho:o.op= .call { callee:= .builtin .append,args:= #[s,x],argTypes:= #[t,t] })
  (e:TypeId) (z:Value) (size bytes:Nat) (ht:P.underlying t=some (.slice e)) (hinfo:(P.info? e).map (λi=>(i.zero,i.size,i.bytes))=some (some z,size,bytes)) (hzs:z.cells.size=size) (hsz:0<size)
  (base:Nat) (v:Value) (n:Nat) (xs:List Value) (hs:a.eval s=v) (hown:w.ownsRow base e size v n xs)
  (ad:Option Addr) (m c:Nat) (news:List Value) (hx:a.eval x= .slice ad m c) (hl:news.length=m*size) (hnews:∀A,ad=some A->∀j u,news[j]? =some u->w.cell? (A.add j)=some u) (hnone:ad=none->m=0) (h1:∀u∈news,u.oneCell'=true)
  (h63:n+m<=maxLen) (hbytes:(n+m)*bytes<=140737488355328) (hbase:base<=w.heap.size)
  (h:∀a' cap' w',w'.ownsRow base e size (.slice a' (n+m) cap') (n+m) (xs++news)->cap'<=9223372036854775807->n+m<=cap'->Since (λk=>v.ownBlock=some k) w w'->
   (∀k,(Value.slice a' (n+m) cap').ownBlock=some k->v.ownBlock=some k\/k=w.heap.size)->
   wpList P ops Q rest (a.put o.dst (.slice a' (n+m) cap')) w'):wpList P ops Q (o::rest) a w:=by
 cases ad with
 |some A=>exact qO w hgd s x t ho e z size bytes ht hinfo hzs hsz base v n xs hs hown A m c news hx hl (hnews A rfl) h1 h63 hbytes hbase (λa' cap' w' p1 p2 p3 p4 p5 _=>h a' cap' w' p1 p2 p3 p4 p5)
 |none=>
 have hm:=hnone rfl
 subst hm
 have hn:news= [] :=List.eq_nil_of_length_eq_zero (by simpa using hl)
 subst hn
 obtain⟨i,hi,hz,hsize,hby⟩:=info_parts hinfo
 obtain⟨va,cap,rfl,hc1,hc2⟩:=xP hown
 have hr:(Builtin.append_ #[t,t] o.type #[.slice va n cap, .slice none 0 c]).run P w= .ok (.slice va n cap) w:=by
  cases va<;>simp [Builtin.append_,run_underlying ht,sizeOf,typeInfo,hi,Builtin.lenOf,Builtin.firstCells,hc1,storeCells]
 refine wpList_plain hgd λ_ hK=> ?_
 unfold Oper.wp execOp
 simp only [ho,resolve,invoke,builtin,Sem.run_bind,Sem.run_pure,Result.andThen_ok,List.map_toArray,List.map_cons,List.map_nil,hs,hx,hr]
 exact hK _ _ (h va cap w (by rw [List.append_nil];exact hown) (by unfold maxLen at hc2;omega) hc1 (Since.refl _ _) (λk hk=> .inl hk))
theorem ze8 {X:World} {B m c:Nat} {e:TypeId} {size:Nat} {a:Option Addr} {xs:List Value} (h:X.ownsRow B e size (.slice a (0+m) c) (0+m) ([] ++xs)):X.ownsRow B e size (.slice a m c) m xs:=by simpa using h
theorem zbo {X:World} {B g size n:Nat} {e:TypeId} {cs:List Value} (h:X.heap[g]? =some (.cells cs.toArray e (0,0))) (hB:B<=g) (hl:cs.length=n*size) (hn:n<=maxLen):X.ownsRow B e size (.slice (some ⟨g,0,none⟩) n n) n cs:=
 ⟨hl, .inr ⟨g,n,cs.toArray,rfl,hB,h,Nat.le_refl _,hn,by simp [hl],by rw [List.take_of_length_le (by simp [hl])]⟩⟩
def p9 (_:World) (r:List Int) (cs:List Value):Prop:=r.length=4/\cs= [.int .i64 (r.getD 0 0), .int .i64 (r.getD 1 0), .int .i64 (r.getD 2 0), .int .i64 (r.getD 3 0)]
theorem p9.stays:qN p9:=λ_ _ _ _ h _=>h
abbrev zaM:=zf p9 4
theorem zaM.part {w:World} {a:Option Addr} {n cap:Nat} {l:List (List Int)} (h:zaM w (.slice a n cap) l) (j:Nat) (hj:j<l.length):∃b off,a=some ⟨b,off,none⟩/\b<w.heap.size/\(l.getD j default).length=4/\
  w.cell? ⟨b,off+j*4,none⟩=some (.int .i64 ((l.getD j default).getD 0 0))/\w.cell? ⟨b,off+j*4+1,none⟩=some (.int .i64 ((l.getD j default).getD 1 0))/\w.cell? ⟨b,off+j*4+2,none⟩=some (.int .i64 ((l.getD j default).getD 2 0))/\w.cell? ⟨b,off+j*4+3,none⟩=some (.int .i64 ((l.getD j default).getD 3 0)):=by
 obtain⟨b,off,cs,h1,h2,h3,h4,h0,h5⟩:=zf.part h j hj
 subst h5
 exact⟨b,off,h1,h2,h0,h4 0 (by omega),h4 1 (by omega),h4 2 (by omega),h4 3 (by omega)⟩
def zb6 (r:List Int):List Value:= [.int .i64 (r.getD 0 0), .int .i64 (r.getD 1 0), .int .i64 (r.getD 2 0), .int .i64 (r.getD 3 0)]
theorem zim (r:List Int):(zb6 r).length=4:=rfl
def qg (mv rv:Value):Value:= .agg #[mv,rv]
structure xM (w:World) (f:zy) (mv rv:Value):Prop where
 mem:xJ w mv f.mem
 regs:zaM w rv f.regs
theorem xM.below {w w':World} {f:zy} {mv rv:Value} (h:xM w f mv rv) (hb:Below w.heap.size w w'):xM w' f mv rv:=⟨zf.below uy.stays h.mem hb,zf.below p9.stays h.regs hb⟩
def yL (w:World) (f:zy) (cs:List Value):Prop:=∃mv rv,cs= [mv,rv] /\xM w f mv rv
theorem yL.stays:qN yL:=λ_ _ _ _ ⟨mv,rv,h,h2⟩ hb=>⟨mv,rv,h,h2.below hb⟩
abbrev yK:=zf yL 2
theorem yK.part {w:World} {a:Option Addr} {n cap:Nat} {l:List zy} (h:yK w (.slice a n cap) l) (j:Nat) (hj:j<l.length):∃b off ma mc ra rc,a=some ⟨b,off,none⟩/\b<w.heap.size/\
  w.cell? ⟨b,off+j*2,none⟩=some (.slice ma (l.getD j default).mem.length mc)/\w.cell? ⟨b,off+j*2+1,none⟩=some (.slice ra (l.getD j default).regs.length rc)/\xM w (l.getD j default) (.slice ma (l.getD j default).mem.length mc) (.slice ra (l.getD j default).regs.length rc):=by
 obtain⟨b,off,cs,h1,h2,h3,h4,mv,rv,h5,h6⟩:=zf.part h j hj
 subst h5
 obtain⟨ma,mc,rfl, -⟩:=zf.slice h6.mem
 obtain⟨ra,rc,rfl, -⟩:=zf.slice h6.regs
 exact⟨b,off,ma,mc,ra,rc,h1,h2,h4 0 (by omega),h4 1 (by omega),h6⟩
theorem zkX (l:List Int):zm zR l=l.map (Value.int .i64):=by
 induction l with
 |nil=>rfl
 |cons y l ih=>simp only [zm,List.flatMap_cons,zR,List.map_cons] at ih ⊢;rw [ih];rfl
theorem zf5 (l r:List Int):zm zR (l++r)=zm zR l++zm zR r:=by simp [zm]
theorem ze7 {l:List Int} :∀u∈zm zR l,u.oneCell'=true:=by
 rw [zkX];intro u hu
 obtain⟨x, -,rfl⟩:=List.mem_map.1 hu
 rfl
theorem ze6 {w:World} {b:Option Addr} {n c:Nat} {l:List Int} (h:xJ w (.slice b n c) l):∀A,b=some A->∀j u,(zm zR l)[j]? =some u->w.cell? (A.add j)=some u:=by
 rintro A rfl j u hu
 obtain⟨ab,ao,asp⟩:=A
 have hj:j<l.length:=by
  rcases Nat.lt_or_ge j l.length with e|e
  ·exact e
  rw [List.getElem?_eq_none (by rw [jB (f:=zR) kZ];omega)] at hu;cases hu
 obtain⟨b',o',he, -,hc⟩:=xJ.part h j hj
 cases he
 rw [zmI hj] at hu
 cases hu
 rw [show(⟨ab,ao,none⟩:Addr).add j=⟨ab,ao+j,none⟩ by simp only [Addr.add];split<;>simp_all]
 exact hc
theorem zdF {w:World} {n c:Nat} {l:List Int} (h:xJ w (.slice none n c) l):n=0:=by
 obtain⟨a,cap,he, -,hc⟩:=h
 cases he
 rcases Nat.eq_zero_or_pos l.length with e|e
 ·exact e
 obtain⟨b,off,cs,h5, -⟩:=hc 0 e;cases h5
