/- Steps. -/
import Derived.Test.YteggflahafiieaaGreatDoorZgMoves
set_option linter.all false
namespace Go.Proofs.YteggflahafiieaaGreatDoor
open Go.RowKit
set_option maxRecDepth 100000
set_option maxHeartbeats 16000000
theorem zaJ {w:World} {B C:Nat} {e e':TypeId} {size size':Nat} {v v':Value} {n n':Nat} {xs xs':List Value} (h:w.ownsRow B e size v n xs) (h':w.ownsRow C e' size' v' n' xs') (hne:e≠e'):∀k,v.ownBlock=some k->v'.ownBlock≠some k:=by
 intro k h1 h2
 rcases h'.2 with⟨rfl, -⟩|⟨g,cap,cur,rfl, -,hg, -⟩
 ·simp [Value.ownBlock] at h2
 simp only [Value.ownBlock,Option.some.injEq] at h2
 subst h2
 exact gy h h1 hg hne
structure qp {α:Type} [Inhabited α] (F:Nat->Prop) (X:World) (R:World->α->List Value->Prop) (size B:Nat) (e:TypeId) (v:Value) (l:List α) (css:List (List Value)):Prop where
 len:css.length=l.length
 part:∀j,j<l.length->(css.getD j []).length=size/\yK F X (λy=>R y (l.getD j default) (css.getD j []))
 row:X.ownsRow B e size v l.length css.flatten
section
variable {α:Type} [Inhabited α] {F F' G:Nat->Prop} {X X':World} {R:World->α->List Value->Prop} {size B:Nat} {e:TypeId} {v v':Value} {l:List α} {css:List (List Value)}
theorem qp.nil (F:Nat->Prop) (X:World) (R:World->α->List Value->Prop) (size B:Nat) (e:TypeId):qp F X R size B e (.slice none 0 0) [] [] :=⟨rfl,λj hj=>by simp at hj,World.ownsRow_nil _ _ _ _⟩
theorem qp.step (h:qp F X R size B e v l css) (hs:Since G X X') (hv:∀k,v.ownBlock=some k->¬G k) (hG:∀k,G k->F k\/X.heap.size<=k) (hF:∀k,F' k->F k\/X.heap.size<=k):qp F' X' R size B e v l css:=
 ⟨h.len,λj hj=>⟨(h.part j hj).1,(h.part j hj).2.step hs hG hF⟩,hs.row h.row hv⟩
theorem zbg {β:Type} {l:List β} {x d:β} {j:Nat} (hj:j<l.length):(l++ [x]).getD j d=l.getD j d:=by
 simp only [List.getD_eq_getElem?_getD,List.getElem?_append_left hj]
theorem zbf {β:Type} {l:List β} {x d:β} :(l++ [x]).getD l.length d=x:=by
 simp [List.getD_eq_getElem?_getD]
theorem qp.push (h:qp F X R size B e v l css) (hs:Since G X X') (hG:∀k,G k->F k\/X.heap.size<=k) (hF:∀k,F' k->F k\/X.heap.size<=k) {x:α} {cs:List Value} (hx:yK F X (λy=>R y x cs)) (hc:cs.length=size)
  (h1:X'.ownsRow B e size v' (l.length+1) (css.flatten++cs)):qp F' X' R size B e v' (l++ [x]) (css++ [cs]):=by
 refine⟨by simp [h.len],λj hj=> ?_, ?_⟩
 ·rw [List.length_append] at hj
  simp only [List.length_cons,List.length_nil] at hj
  by_cases e:j=l.length
  ·subst e
   rw [zbf,show l.length=css.length from h.len.symm,zbf]
   exact⟨hc,hx.step hs hG hF⟩
  have hj':j<l.length:=by omega
  rw [zbg hj',zbg (by rw [h.len];exact hj')]
  exact⟨(h.part j hj').1,(h.part j hj').2.step hs hG hF⟩
 rw [List.length_append,List.flatten_append]
 simpa using h1
theorem zgL {css:List (List Value)} {size:Nat} :∀ {j i:Nat},(∀j,j<css.length->(css.getD j []).length=size)->j<css.length->i<size->css.flatten[j*size+i]? =(css.getD j [])[i]? :=by
 induction css with
 |nil=>intro j i _ hj;simp at hj
 |cons c css ih=>
 intro j i h hj hi
 have h0:=h 0 (by simp)
 simp only [List.getD_cons_zero] at h0
 cases j with
 |zero=>rw [List.flatten_cons,Nat.zero_mul,Nat.zero_add,List.getElem?_append_left (by rw [h0];exact hi)];rfl
 |succ j=>
 rw [List.flatten_cons,List.getElem?_append_right (by rw [h0,Nat.add_mul];omega),h0,show(j+1)*size+i - size=j*size+i by rw [Nat.add_mul];omega]
 exact ih (λj hj=>by have:=h (j+1) (by simpa using hj);simpa using this) (by simpa using hj) hi
theorem qp.slice (h:qp F X R size B e v l css):ze R size X v l:=
 ze.zaQ h.row λj hj=>⟨css.getD j [],(h.part j hj).1,λi hi=>zgL (λj hj=>(h.part j (by rw [<-h.len];exact hj)).1) (by rw [h.len];exact hj) hi,(h.part j hj).2.now⟩
end
def zyg (w:World) (l:List zN) (cs:List Value):Prop:=∃v,cs= [v] /\uY w v l
def z19 (w:World) (l:List Int) (cs:List Value):Prop:=∃v,cs= [v] /\xI w v l
theorem zfh {w:World} {B:Nat} {sv:Value} {l:List zN} (h:w.ownsRow B 43 3 sv l.length (zl zN.cells l)):uY w sv l:=ze.of_flat (R:=zgi) (f:=zN.cells) zls (λ_ _=>rfl) h
structure zrz where
 states:List zm
 moves:List (List zN)
 next:List (List Int)
instance:Inhabited zrz:=⟨⟨[], [], []⟩⟩
section
variable {W X X1:World} {g r:Nat} {sv mv nv xv sv':Value} {sl:List zm} {ml:List (List zN)} {nl:List (List Int)} {xl:List Int} {sc mc nc:List (List Value)}
end
end Go.Proofs.YteggflahafiieaaGreatDoor
namespace Go.Proofs.YteggflahafiieaaGreatDoor
open Go.RowKit
set_option maxRecDepth 100000
set_option maxHeartbeats 16000000
def zbW (b:Nat) (s:zm):Prop:=∀j,j<s.threads.length->(s.threads.getD j default).buf.length<=b
theorem zhi {α:Type} {p:α->Bool} {l:List α} {b:Nat} [Inhabited α] (h:∀k,k<l.length->p (l.getD k default)=true->(l.take k).countP p<b):l.countP p<=b:=by
 have key:∀k,k<=l.length->(l.take k).countP p<=b:=by
  intro k
  induction k with
  |zero=>intro _;simp
  |succ k ih=>
  intro hk
  rw [List.take_succ_eq_append_getElem (by omega),List.countP_append]
  have h1:=ih (by omega)
  have h2:=h k (by omega)
  rw [List.getD_eq_getElem?_getD,List.getElem?_eq_getElem (by omega)] at h2
  simp only [Option.getD_some] at h2
  by_cases e:p l[k] =true
  ·have:=h2 e
   simp only [List.countP_cons,List.countP_nil,e,if_true];omega
  simp only [List.countP_cons,List.countP_nil,e];simp;omega
 have:=key l.length (Nat.le_refl _)
 rwa [List.take_length] at this
theorem zoK {l:List zi} (h:∀x∈l,0<=x.var/\x.var<4):l.length=l.countP (λx=>decide (x.var=0))+l.countP (λx=>decide (x.var=1))+l.countP (λx=>decide (x.var=2))+l.countP (λx=>decide (x.var=3)):=by
 induction l with
 |nil=>rfl
 |cons x l ih=>
 have h1:=ih (λy hy=>h y (List.mem_cons_of_mem _ hy))
 have h2:=h x (List.mem_cons_self ..)
 simp only [List.length_cons,List.countP_cons,h1]
 have:x.var=0\/x.var=1\/x.var=2\/x.var=3:=by omega
 rcases this with e|e|e|e<;>simp [e] <;>omega
theorem zv2 {c:zK} {m:zF} {l:List zi} (hv:c.vars<=4) (hm:m.bound<=8) (h:∀k,k<l.length->xU c m l k=true):l.length<=32:=by
 have hf:∀k,k<l.length->xY (l.take k) m (l.getD k default)=true/\0<=(l.getD k default).var/\(l.getD k default).var<4:=λk hk=>by
  have:=h k hk
  unfold xU at this
  simp only [Bool.and_eq_true,decide_eq_true_eq] at this
  exact⟨this.1.1.1.1,this.1.1.1.2,by have:=this.1.1.2;omega⟩
 have hx:∀x∈l,0<=x.var/\x.var<4:=λx hx=>by
  obtain⟨k,hk,e⟩:=List.getElem_of_mem hx
  have:=hf k hk
  rw [List.getD_eq_getElem?_getD,List.getElem?_eq_getElem hk] at this
  rw [<-e];exact this.2
 have key:∀v:Int,l.countP (λx=>decide (x.var=v))<=8:=λv=>zhi λk hk hp=>by
  have h1:=(hf k hk).1
  have hp:(l.getD k default).var=v:=by simpa using hp
  unfold xY at h1
  simp only [Bool.and_eq_true,Bool.or_eq_true,decide_eq_true_eq] at h1
  obtain⟨-,h2⟩:=h1
  have h3:(l.take k).countP (λx=>decide (x.var=v))<=zc5 (l.take k) m (l.getD k default).var:=by
   unfold zc5
   refine List.countP_mono_left (λx _ hx=> ?_)
   rw [hp]
   simp only [Bool.or_eq_true];exact .inr hx
  omega
 rw [zoK hx]
 have:=key 0;have:=key 1;have:=key 2;have:=key 3
 omega
theorem ztg {c:zK} {m:zF} {s:zm} (h:xR c m s=true):zbW 32 s:=by
 intro j hj
 have h0:=h
 unfold xR at h
 simp only [Bool.and_eq_true,decide_eq_true_eq] at h
 obtain⟨⟨⟨⟨h1, -⟩, -⟩, -⟩,h5⟩:=h
 unfold jP at h1
 simp only [Bool.and_eq_true,decide_eq_true_eq] at h1
 have hb:=qA h1.1.1.1.1
 rw [List.all_eq_true] at h5
 have h6:=h5 j (List.mem_range.2 hj)
 unfold qD at h6
 simp only [Bool.and_eq_true,decide_eq_true_eq] at h6
 have h7:=h6.2
 rw [List.all_eq_true] at h7
 exact zv2 hb.2.1 h1.2 (λk hk=>h7 k (List.mem_range.2 hk))
theorem zth {c:zK} {m:zF} {s:zm} {t:zo} {x:zT} {d:Nat} {r:zo × List Int × Bool} (h:stepT c m s t x d=some r):r.1.buf.length<=t.buf.length+1:=by
 have hp:∀b m e,(vF b m e).length<=b.length+1:=λb m e=>by unfold vF;split<;>simp
 by_cases h1:x.op=1
 ·rw [kY h1] at h;cases h;simp only [];omega
 by_cases h2:x.op=2
 ·by_cases hm:m.model=0
  ·rw [kJ h2 hm] at h;cases h;simp only [];omega
  by_cases hq:xY t.buf m ⟨x.var,zZ t.regs c.domain d x.a⟩=true
  ·rw [kK h2 hm hq] at h;cases h;exact hp _ _ _
  rw [kL h2 hm (by simpa using hq)] at h;cases h
 by_cases h3:x.op=3
 ·rw [uW h3] at h;cases h;simp only [];omega
 by_cases h4:x.op=4
 ·rw [ku h4] at h;split at h
  ·cases h;simp only [];omega
  cases h
 by_cases h5:x.op=5
 ·rw [jV h5] at h;split at h
  ·cases h;simp only [];omega
  cases h
 by_cases h6:x.op=6
 ·by_cases hv:s.mem.getD x.var.toNat 0=zZ t.regs c.domain d x.a
  ·rw [kZ h6 hv] at h;split at h
   ·cases h;simp only [];omega
   cases h
  rw [wh h6 hv] at h;split at h
  ·cases h;simp only [];omega
  cases h
 by_cases h7:x.op=7
 ·rw [jW h7] at h;split at h
  ·cases h;simp only [];omega
  cases h
 by_cases h8:x.op=8
 ·rw [jG h8] at h;split at h
  ·cases h;simp only [];omega
  cases h
 by_cases h9:x.op=9
 ·rw [jk h9] at h;cases h;simp only [];omega
 by_cases h12:x.op=12
 ·rw [jH h12] at h;cases h;simp only [];split<;>simp only [] <;>omega
 by_cases h13:x.op=13
 ·rw [gV h13] at h;cases h;simp only [];omega
 rw [uF h1 h2 h3 h4 h5 h6 h7 h8 h9 h12 h13] at h;cases h;simp only [];omega
theorem zoa {b:Nat} {ts:List zo} {mem:List Int} {bad:Bool} {i:Nat} {t:zo} (h:∀j,j<ts.length->(ts.getD j default).buf.length<=b) (ht:t.buf.length<=b):zbW b ⟨ts.set i t,mem,bad⟩:=by
 intro j hj
 simp only [List.length_set] at hj ⊢
 rw [qg hj]
 split
 ·exact ht
 exact h j hj
theorem zti (l:List zi) (v:Int):(takeB l v).2.length<=l.length:=zfW l v l.length
theorem zxx {c:zK} {m:zF} {s:zm} {x:zN} {d:Nat} :zbW 33 (ji c m s x d).1:=by
 have hE:zbW 33 yP:=λj hj=>by simp [yP] at hj
 unfold ji
 by_cases hf:xR c m s=true
 rotate_left
 ·rw [if_neg hf];exact hE
 have hb:=ztg hf
 rw [if_pos hf]
 split
 ·rename_i ht
  split
  ·cases hst:vT c m s x.thread.toNat d with
   |none=>exact hE
   |some t=>
   unfold vT at hst
   split at hst
   ·rw [Option.map_eq_some_iff] at hst
    obtain⟨r,h1,rfl⟩:=hst
    refine zoa (λj hj=>by have:=hb j hj;omega) ?_
    have:=zth h1
    have:=hb x.thread.toNat (by omega)
    omega
   cases hst
  split
  ·refine zoa (λj hj=>by have:=hb j hj;omega) ?_
   simp only []
   have:=zti (s.threads.getD x.thread.toNat default).buf x.var
   have:=hb x.thread.toNat (by omega)
   omega
  exact hE
 exact hE
theorem zpY (c:zK):zbW 33 (uJ c):=by
 unfold uJ
 split
 ·intro j hj
  simp only [List.length_replicate] at hj ⊢
  rw [List.getD_eq_getElem?_getD,List.getElem?_replicate,if_pos hj];simp [show(default:zo).buf= [] from rfl]
 intro j hj;simp at hj
theorem vw {P:Program} (w:World) {ops:Array Oper} {rest:List Oper} {o:Oper} {a:Act} {Q:Exit->Act->World->Prop} (hgd:o.guard=none) (s x:Operand) (t:TypeId)
  (ho:o.op= .call { callee:= .builtin .append,args:= #[s,x],argTypes:= #[t,t] })
  (e:TypeId) (z:Value) (size bytes:Nat) (ht:P.underlying t=some (.slice e)) (hinfo:(P.info? e).map (λi=>(i.zero,i.size,i.bytes))=some (some z,size,bytes)) (hzs:z.cells.size=size) (hsz:0<size)
  (base:Nat) (v:Value) (n:Nat) (xs:List Value) (hs:a.eval s=v) (hown:w.ownsRow base e size v n xs)
  (ad:Option Addr) (m c:Nat) (news:List Value) (hx:a.eval x= .slice ad m c) (hl:news.length=m*size) (hnews:∀A,ad=some A->∀j u,news[j]? =some u->w.cell? (A.add j)=some u) (hnone:ad=none->m=0) (h1:∀u∈news,u.oneCell'=true)
  (h63:n+m<=maxLen) (hbytes:(n+m)*bytes<=140737488355328) (hbase:base<=w.heap.size)
  (h:∀a' cap' w',w'.ownsRow base e size (.slice a' (n+m) cap') (n+m) (xs++news)->cap'<=9223372036854775807->n+m<=cap'->Since (λk=>v.ownBlock=some k) w w'->
   (∀k,(Value.slice a' (n+m) cap').ownBlock=some k->v.ownBlock=some k\/k=w.heap.size)->
   wpList P ops Q rest (a.put o.dst (.slice a' (n+m) cap')) w'):wpList P ops Q (o::rest) a w:=by
 cases ad with
 |some A=>exact yx w hgd s x t ho e z size bytes ht hinfo hzs hsz base v n xs hs hown A m c news hx hl (hnews A rfl) h1 h63 hbytes hbase (λa' cap' w' p1 p2 p3 p4 p5 _=>h a' cap' w' p1 p2 p3 p4 p5)
 |none=>
 have hm:=hnone rfl
 subst hm
 have hn:news= [] :=List.eq_nil_of_length_eq_zero (by simpa using hl)
 subst hn
 obtain⟨i,hi,hz,hsize,hby⟩:=info_parts hinfo
 obtain⟨va,cap,rfl,hc1,hc2⟩:=qO hown
 have hr:(Builtin.append_ #[t,t] o.type #[.slice va n cap, .slice none 0 c]).run P w= .ok (.slice va n cap) w:=by
  cases va<;>simp [Builtin.append_,run_underlying ht,sizeOf,typeInfo,hi,Builtin.lenOf,Builtin.firstCells,hc1,storeCells]
 refine wpList_plain hgd λ_ hK=> ?_
 unfold Oper.wp execOp
 simp only [ho,resolve,invoke,builtin,Sem.run_bind,Sem.run_pure,Result.andThen_ok,List.map_toArray,List.map_cons,List.map_nil,hs,hx,hr]
 exact hK _ _ (h va cap w (by rw [List.append_nil];exact hown) (by unfold maxLen at hc2;omega) hc1 (Since.refl _ _) (λk hk=> .inl hk))
theorem zaL {X:World} {B g size n:Nat} {e:TypeId} {cs:List Value} (h:X.heap[g]? =some (.cells cs.toArray e (0,0))) (hB:B<=g) (hl:cs.length=n*size) (hn:n<=maxLen):X.ownsRow B e size (.slice (some ⟨g,0,none⟩) n n) n cs:=
 ⟨hl, .inr ⟨g,n,cs.toArray,rfl,hB,h,Nat.le_refl _,hn,by simp [hl],by rw [List.take_of_length_le (by simp [hl])]⟩⟩
def z0v (_:World) (r:List Int) (cs:List Value):Prop:=r.length=4/\cs= [.int .i64 (r.getD 0 0), .int .i64 (r.getD 1 0), .int .i64 (r.getD 2 0), .int .i64 (r.getD 3 0)]
abbrev z0w:=ze z0v 4
structure zxE (w:World) (f:zob) (mv rv:Value):Prop where
 mem:xI w mv f.mem
 regs:z0w w rv f.regs
def z0x (w:World) (f:zob) (cs:List Value):Prop:=∃mv rv,cs= [mv,rv] /\zxE w f mv rv
abbrev z7d:=ze z0x 2
def zqY:zH:= .mk 1 1 0 []
def noE:zH:= .mk 0 0 0 []
def qI:zK:=⟨2,2, [[⟨2,0,0,zqY,noE,0⟩,⟨1,0,1,noE,noE,0⟩], [⟨2,0,1,zqY,noE,0⟩,⟨1,0,0,noE,noE,0⟩]]⟩
theorem zp7 (w:World):Calls Tryz.prog 48 #[.int .i64 1] w λe w'=>e= .returned (.agg #[.int .i64 1, .int .i64 1, .int .u8 0, .slice none 0 0])/\Below w.heap.size w w':=by
 go_enter Tryz.func48,Tryz.ntmps48
 go_wp2
 exact bodyPost_ret (v:= .agg #[.int .i64 1, .int .i64 1, .int .u8 0, .slice none 0 0]) (by simp [results,Tryz.results48,go_sem]) rfl ⟨rfl,(Below.refl _ _).alloc (Nat.le_refl _) _⟩
theorem zxF {d:Nat} {w:World} {l:List (List zT)} {g m:Nat} {vs:List Value} {t:TypeId} (hb:w.heap[g]? =some (.cells vs.toArray t (0,0))) (hm:l.length<=m/\m<=9223372036854775807) (h:∀j,j<l.length->∃v,vs[j]? =some v/\jJ d w v (l.getD j [])):yZ d w (.slice (some ⟨g,0,none⟩) l.length m) l:=
 ⟨_,_,rfl,hm,λj hj=>by
  obtain⟨v,hv,hi⟩:=h j hj
  refine⟨g,0, [v],rfl,zq hb,rfl,λi hi=> ?_,v,rfl,hi⟩
  obtain rfl:i=0:=by omega
  rw [show 0+j*1+0=j by omega,za hb,List.getElem?_toArray,hv];rfl⟩
theorem ztj (w:World) (k n o:Int):zx 1 w (.mk k n o []) (.slice none 0 0):=⟨none,0,rfl,by simp [zH.kids],λj hj=>by simp [zH.kids] at hj⟩
theorem ztk:(Tryz.prog.info? 26).map (·.size)=some 3:=by kernel_rfl
def zqZ (x:zT):List Value:=x.cells (.slice none 0 0) (.slice none 0 0)
theorem zfy (x:zT):(zqZ x).length=12:=rfl
theorem zjH (w:World) {x:zH} (h:x.kids= []):zx 1 w x (.slice none 0 0):=by
 obtain⟨k,n,o,l⟩:=x
 have:l= [] :=h
 subst this
 exact ztj _ _ _ _
theorem zeX {w:World} {g m:Nat} {l:List zT} {t:TypeId} (hb:w.heap[g]? =some (.cells (zl zqZ l).toArray t (0,0))) (hl:l.length<=maxLen) (hm:l.length=m) (h:∀j,j<l.length->(l.getD j default).a.kids= [] /\(l.getD j default).b.kids= []):jJ 1 w (.slice (some ⟨g,0,none⟩) m m) l:=by
 subst hm
 exact ze.zaQ (R:=qQ 1) (zaL (B:=0) hb (Nat.zero_le _) (jA zfy l) hl) λj hj=>⟨zqZ (l.getD j default),zfy _,λ_ hi=>zaR zfy hj hi,_,_,rfl,zjH _ (h j hj).1,zjH _ (h j hj).2⟩
def z0y (w:World) (e:Ending) (w':World):Prop:=(∃tv,e= .returned (yT qI tv)/\yZ 1 w' tv qI.threads)/\Below w.heap.size w w'
theorem zqC (w:World):Calls Tryz.prog 24 #[] w (z0y w):=by
 go_enter Tryz.func24,Tryz.ntmps24
 go_upto_region 1 with fail
 have L0:=qh ((Loc.start w).alloc 26 [.int .i64 0, .int .i64 0, .slice none 0 0])
 generalize World.alloc w _=W0 at L0 ⊢
 generalize w.heap.size=g at L0 ⊢
 go_upto_region 2 with(go_at_call 48;go_must(refine(zp7 _).mono ?_);rintro e W1 ⟨rfl,hb⟩;have L1:=qh ((L0.out.later hb).alloc 53 [.int .i64 2, .int .i64 0, .int .i64 0, .int .i64 1, .int .i64 1, .int .u8 0, .slice none 0 0, .int .i64 0, .int .i64 0, .int .u8 0, .slice none 0 0, .int .i64 0, .int .i64 1, .int .i64 0, .int .i64 1, .int .i64 0, .int .i64 0, .int .u8 0, .slice none 0 0, .int .i64 0, .int .i64 0, .int .u8 0, .slice none 0 0, .int .i64 0]);clear hb L0)
 generalize World.alloc W1 _=X at L1 ⊢
 generalize W1.heap.size=b1 at L1 ⊢
 go_upto_region 3 with(go_at_call 48;go_must(refine(zp7 _).mono ?_);rintro e W2 ⟨rfl,hb⟩;have L3:=qh ((L1.out.later hb).alloc 53 [.int .i64 2, .int .i64 0, .int .i64 1, .int .i64 1, .int .i64 1, .int .u8 0, .slice none 0 0, .int .i64 0, .int .i64 0, .int .u8 0, .slice none 0 0, .int .i64 0, .int .i64 1, .int .i64 0, .int .i64 0, .int .i64 0, .int .i64 0, .int .u8 0, .slice none 0 0, .int .i64 0, .int .i64 0, .int .u8 0, .slice none 0 0, .int .i64 0]);clear hb L1)
 generalize World.alloc W2 _=Y at L3 ⊢
 generalize W2.heap.size=b2 at L3 ⊢
 have l5:=L3.out.alloc 48 [.slice (some ⟨b1,0,none⟩) 2 2, .slice (some ⟨b2,0,none⟩) 2 2]
 have hg:=(l5.news (g,26, [.int .i64 0, .int .i64 0, .slice none 0 0]) (by simp)).1
 have L5:=qh l5
 have k0:=za hg 0
 have k1:=za hg 1
 have k2:=za hg 2
 have z0:=zw hg 0
 have z1:=zw hg 1
 have z2:=zw hg 2
 clear l5 hg L3
 go_wp2
 have l6:=L5.out.store (g:=g) (t:=26) (cs:= [.int .i64 0, .int .i64 0, .slice none 0 0]) (by simp) [.int .i64 2, .int .i64 2, .slice (some ⟨Y.heap.size,0,none⟩) 2 2] rfl
 have ha:=L5.out.apart
 simp only [List.map_cons,List.map_nil,List.nodup_cons,List.mem_cons,List.not_mem_nil,or_false,not_or] at ha
 have hg:=(l6.news _ (bq (t:=26) (cs:= [.int .i64 0, .int .i64 0, .slice none 0 0]) (by simp))).1
 have hy:=(l6.news _ (je (p:=(Y.heap.size,48, [.slice (some ⟨b1,0,none⟩) 2 2, .slice (some ⟨b2,0,none⟩) 2 2])) (by simp) ha.1.2.2)).1
 have h2:=(l6.news _ (je (p:=(b2,53, [.int .i64 2, .int .i64 0, .int .i64 1, .int .i64 1, .int .i64 1, .int .u8 0, .slice none 0 0, .int .i64 0, .int .i64 0, .int .u8 0, .slice none 0 0, .int .i64 0, .int .i64 1, .int .i64 0, .int .i64 0, .int .i64 0, .int .i64 0, .int .u8 0, .slice none 0 0, .int .i64 0, .int .i64 0, .int .u8 0, .slice none 0 0, .int .i64 0])) (by simp) ha.2.1.2)).1
 have h1:=(l6.news _ (je (p:=(b1,53, [.int .i64 2, .int .i64 0, .int .i64 0, .int .i64 1, .int .i64 1, .int .u8 0, .slice none 0 0, .int .i64 0, .int .i64 0, .int .u8 0, .slice none 0 0, .int .i64 0, .int .i64 1, .int .i64 0, .int .i64 1, .int .i64 0, .int .i64 0, .int .u8 0, .slice none 0 0, .int .i64 0, .int .i64 0, .int .u8 0, .slice none 0 0, .int .i64 0])) (by simp) ha.2.2.1)).1
 have L6:=qh l6.below
 change bodyPost _ _ _ _ _ (zY _ g 0 [.int .i64 2, .int .i64 2, .slice (some ⟨Y.heap.size,0,none⟩) 2 2])
 generalize zY _ g 0 _=Z at hg hy h2 h1 L6 ⊢
 refine bodyPost_ret (yY rfl _ _ g 26 _ (0,0) _ rfl hg Tryz.underlying26 rfl ztk) rfl ?_
 refine⟨⟨_,rfl,zxF (l:=qI.threads) hy (by decide) λj hj=> ?_⟩,L6.out⟩
 match j,hj with
 |0,_=>exact⟨_,rfl,zeX (l:= [⟨2,0,0,zqY,noE,0⟩,⟨1,0,1,noE,noE,0⟩]) h1 (by decide) rfl (λj hj=>by match j,hj with|0,_=>exact⟨rfl,rfl⟩|1,_=>exact⟨rfl,rfl⟩)⟩
 |1,_=>exact⟨_,rfl,zeX (l:= [⟨2,0,1,zqY,noE,0⟩,⟨1,0,0,noE,noE,0⟩]) h2 (by decide) rfl (λj hj=>by match j,hj with|0,_=>exact⟨rfl,rfl⟩|1,_=>exact⟨rfl,rfl⟩)⟩
