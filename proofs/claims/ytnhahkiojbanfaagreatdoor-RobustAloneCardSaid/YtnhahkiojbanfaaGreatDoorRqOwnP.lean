/- Steps. -/
import Derived.Test.YtnhahkiojbanfaaGreatDoorRqPart
set_option linter.all false
namespace Go.Proofs.YtnhahkiojbanfaaGreatDoor
open Go.RowKit
set_option maxRecDepth 100000
set_option maxHeartbeats 16000000
def zR:List zA->List Value->List Value
 | [],_=> []
 |t::l,bs=>t.cells (bs.getD 0 (.slice none 0 0))++zR l (bs.drop 1)
theorem j5 (t:zA) (b:Value):(t.cells b).length=6:=rfl
theorem jJ (l:List zA):∀bs,(zR l bs).length=l.length*6:=by
 induction l with
 |nil=>intro bs;rfl
 |cons t l ih=>intro bs;simp only [zR,List.length_append,j5,List.length_cons];rw [ih];omega
theorem vE:∀ {l:List zA} {bs:List Value} {j i:Nat},j<l.length->i<6->(zR l bs)[j*6+i]? =((l.getD j default).cells (bs.getD j (.slice none 0 0)))[i]? :=by
 intro l
 induction l with
 |nil=>intro bs j i hj;simp at hj
 |cons t l ih=>
 intro bs j i hj hi
 unfold zR
 cases j with
 |zero=>rw [Nat.zero_mul,Nat.zero_add,List.getElem?_append_left (by rw [j5];exact hi)];rfl
 |succ j=>
 rw [List.getElem?_append_right (by rw [j5,Nat.add_mul];omega),j5,show(j+1)*6+i - 6=j*6+i by rw [Nat.add_mul];omega]
 rw [ih (by simpa using hj) hi]
 simp [List.getD_eq_getElem?_getD]
structure OwnAt (B:Nat) (X:World) (tv mv:Value) (ts:List zA) (mem:List Int) (bs:List Value):Prop where
 row:X.ownsRow B 80 6 tv ts.length (zR ts bs)
 mem:X.ownsRow B 3 1 mv mem.length (zq yU mem)
 regs:∀j,j<ts.length->(ts.getD j default).regs.length=4
 len:bs.length=ts.length
 buf:∀j,j<ts.length->X.ownsRow B 110 2 (bs.getD j (.slice none 0 0)) (ts.getD j default).buf.length (zq zl.cells (ts.getD j default).buf)
 ne:∀j,j<ts.length->∀k,(bs.getD j (.slice none 0 0)).ownBlock=some k->tv.ownBlock≠some k/\mv.ownBlock≠some k
 dis:∀k,tv.ownBlock=some k->mv.ownBlock≠some k
 one:∀i j,i<ts.length->j<ts.length->i≠j->∀k,(bs.getD i (.slice none 0 0)).ownBlock=some k->(bs.getD j (.slice none 0 0)).ownBlock≠some k
theorem zlT {t:zA} {b:Value} (hb:b.oneCell'=true):∀u∈t.cells b,u.oneCell'=true:=by
 intro u hu
 simp only [zA.cells,List.mem_cons,List.not_mem_nil,or_false] at hu
 rcases hu with rfl|rfl|rfl|rfl|rfl|rfl<;>first|rfl|exact hb
structure zxJ (W X:World) (gb:Nat) (tv mv:Value) (bad:Bool) (ts:List zA) (mem:List Int) (bs:List Value):Prop where
 own:OwnAt W.heap.size X tv mv ts mem bs
 box:X.heap[gb]? =some (.cells #[tv,mv, .bool bad] 42 (0,0))
 below:Below W.heap.size W X
 lo:W.heap.size<=gb
 n1:tv.ownBlock≠some gb
 n2:mv.ownBlock≠some gb
 n3:∀j,j<ts.length->(bs.getD j (.slice none 0 0)).ownBlock≠some gb
theorem znU {α:Type} {l:List α} {x d:α} {j:Nat} (hj:j<l.length+1):(l++ [x]).getD j d=if j=l.length then x else l.getD j d:=by
 simp only [List.getD_eq_getElem?_getD]
 by_cases h:j=l.length
 ·subst h;simp
 rw [if_neg h,List.getElem?_append_left (by omega)]
theorem zcM (w:World) (o1 o2 o3:Obj):Below w.heap.size w (((w.alloc o1).alloc o2).alloc o3):=(xQ w o1 o2).alloc (by simp;omega) o3
theorem zcN (w:World) (o1 o2 o3:Obj):(((w.alloc o1).alloc o2).alloc o3).heap[w.heap.size]? =some o1:=(Below.heap_alloc _ _ _ (by simp;omega)).trans (xR w o1 o2)
theorem zcl (w:World) (o1 o2 o3:Obj):(((w.alloc o1).alloc o2).alloc o3).heap[w.heap.size+1]? =some o2:=(Below.heap_alloc _ _ _ (by simp)).trans (yT w o1 o2)
theorem zcO (w:World) (o1 o2 o3:Obj):(((w.alloc o1).alloc o2).alloc o3).heap[w.heap.size+2]? =some o3:=by
 have:=zS ((w.alloc o1).alloc o2) o3
 simpa using this
theorem zaa {l:List Int} (h:l.length=4):∃a b c d,l= [a,b,c,d] :=by
 match l,h with
 | [a,b,c,d],_=>exact⟨a,b,c,d,rfl⟩
theorem bO {α:Type} [Inhabited α] {l:List α} {i:Nat} {t:α} (hi:i<l.length) (ht:t=l.getD i default):l.take (i+1)=l.take i++ [t] :=by
 rw [List.take_add_one,ht,List.getElem?_eq_getElem hi,List.getD_eq_getElem?_getD,List.getElem?_eq_getElem hi];rfl
structure z0V (e:TypeId) (size:Nat) (t:TypeId) (V X:World) (v:Value) (n:Nat) (xs:List Value) (bs:List (Nat × List Value)):Prop where
 below:Below V.heap.size V X
 row:X.ownsRow V.heap.size e size v n xs
 news:∀p∈bs,X.heap[p.1]? =some (.cells p.2.toArray t (0,0))/\v.ownBlock≠some p.1/\V.heap.size<=p.1
section
variable {e t:TypeId} {size:Nat} {V X:World} {v:Value} {n:Nat} {xs:List Value} {bs:List (Nat × List Value)}
end
theorem vP (w:World) (l:List Value) (t:TypeId):∀j u,l[j]? =some u->(w.alloc (.cells l.toArray t)).cell? ((⟨w.heap.size,0,none⟩:Addr).add j)=some u:=by
 intro j u hj
 have:=ze (zS w (.cells l.toArray t)) j
 rw [show(⟨w.heap.size,0,none⟩:Addr).add j=⟨w.heap.size,j,none⟩ by simp only [Addr.add];split<;>simp_all,this]
 simpa using hj
theorem jd:(Tryz.prog.info? 42).map (·.size)=some 3:=by kernel_rfl
theorem uz:(Tryz.prog.info? 42).map (λi=>(i.zero,i.size,i.bytes))=some (some (.agg #[.slice none 0 0, .slice none 0 0, .bool false]),3,56):=by kernel_rfl
theorem zaS:(Tryz.prog.info? 80).map (λi=>(i.zero,i.size,i.bytes))=some (some (.agg #[.int .i64 0, .int .i64 0, .int .i64 0, .int .i64 0, .int .i64 0, .slice none 0 0]),6,64):=by kernel_rfl
end Go.Proofs.YtnhahkiojbanfaaGreatDoor
namespace Go.Proofs.YtnhahkiojbanfaaGreatDoor
open Go.RowKit
set_option maxRecDepth 100000
set_option maxHeartbeats 16000000
def zO (F:Nat->Prop) (X:World) (P:World->Prop):Prop:=∀X',Since F X X'->P X'
section
variable {F F' G:Nat->Prop} {X X':World} {P:World->Prop}
theorem zO.now (h:zO F X P):P X:=h X (Since.refl _ _)
theorem zO.step (h:zO F X P) (hs:Since G X X') (hG:∀k,G k->F k\/X.heap.size<=k) (hF:∀k,F' k->F k\/X.heap.size<=k):zO F' X' P:=λX'' h2=>
 h X'' ((hs.mono (G:=F) (λk hk hg=>(hG k hg).elim id (λh=>absurd hk (Nat.not_lt.2 h)))).trans h2 hF)
end
end Go.Proofs.YtnhahkiojbanfaaGreatDoor
namespace Go.Proofs.YtnhahkiojbanfaaGreatDoor
open Go.RowKit
set_option maxRecDepth 100000
set_option maxHeartbeats 16000000
def z0A:List Value:= [.int .i64 0, .int .i64 0, .int .i64 0, .int .i64 0, .int .i64 0, .slice none 0 0]
theorem znq (i:Nat):zq yU (List.replicate (i+1) 0)=zq yU (List.replicate i 0)++ [.int .i64 0] :=by
 rw [List.replicate_succ',kL];rfl
structure zzQ (W X:World) (gb:Nat) (ta:Option Addr) (i tc:Nat) (ma:Option Addr) (k mc:Nat):Prop where
 row:X.ownsRow W.heap.size 80 6 (.slice ta i tc) i (zR (List.replicate i default) (List.replicate i (.slice none 0 0)))
 mem:X.ownsRow W.heap.size 3 1 (.slice ma k mc) k (zq yU (List.replicate k 0))
 box:X.heap[gb]? =some (.cells #[.slice ta i tc, .slice ma k mc, .bool false] 42 (0,0))
 since:Since (λx=>x=gb) W X
 lo:gb<W.heap.size
 dis:∀x,(Value.slice ta i tc).ownBlock=some x->(Value.slice ma k mc).ownBlock≠some x
theorem zjx {X:World} {B i tc k mc:Nat} {ta ma:Option Addr} (hrow:X.ownsRow B 80 6 (.slice ta i tc) i (zR (List.replicate i default) (List.replicate i (.slice none 0 0)))) (hmem:X.ownsRow B 3 1 (.slice ma k mc) k (zq yU (List.replicate k 0))):yG X ⟨List.replicate i default,List.replicate k 0,false⟩ (.slice ta i tc) (.slice ma k mc):=by
 refine⟨zh.zaX (B:=B) (e:=80) (xs:=zR (List.replicate i default) (List.replicate i (.slice none 0 0))) (by simpa using hrow) λj hj=> ?_,zad (B:=B) (by simpa using hmem)⟩
 have hd:(List.replicate i (default:zA)).getD j default=default:=by simp [List.getD_eq_getElem?_getD,List.getElem?_replicate];split<;>rfl
 have hv:(List.replicate i (Value.slice none 0 0)).getD j (.slice none 0 0)= .slice none 0 0:=by simp [List.getD_eq_getElem?_getD,List.getElem?_replicate];split<;>rfl
 refine⟨(default:zA).cells (.slice none 0 0),rfl,λm hm=> ?_, ?_⟩
 ·rw [vE hj hm,hd,hv]
 rw [hd];exact⟨rfl,_,rfl,zh.nil _⟩
def SrcOf (w:World) (sv:Value) (n size:Nat) (xs:List Value):Prop:=∃a cap,sv= .slice a n cap/\xs.length=n*size/\(a=none->n=0)/\∀A,a=some A->∀j u,xs[j]? =some u->w.cell? (A.add j)=some u
theorem SrcOf.below {w w':World} {sv:Value} {n size:Nat} {xs:List Value} (h:SrcOf w sv n size xs) (hb:Below w.heap.size w w'):SrcOf w' sv n size xs:=by
 obtain⟨a,cap,h1,h2,h3,h4⟩:=h
 exact⟨a,cap,h1,h2,h3,λA hA j u hj=>zk hb _ _ (h4 A hA j u hj)⟩
theorem SrcOf.of_slice {α:Type} [Inhabited α] {R:World->α->List Value->Prop} {size:Nat} {f:α->List Value} (hs:0<size) (hf:∀x,(f x).length=size) (hR:∀w x cs,R w x cs->cs=f x) {w:World} {sv:Value} {l:List α} (h:zh R size w sv l):SrcOf w sv l.length size (zq f l):=by
 obtain⟨a,cap,rfl, -⟩:=zh.slice h
 refine⟨a,cap,rfl,jO hf l,λe=> ?_,λA hA j u hj=> ?_⟩
 ·subst e
  rcases Nat.eq_zero_or_pos l.length with e0|e0
  ·exact e0
  obtain⟨b,off,cs,h5, -⟩:=zh.part h 0 e0;cases h5
 subst hA
 have hl:0<l.length:=by
  rcases Nat.eq_zero_or_pos l.length with e0|e0
  ·rw [List.getElem?_eq_none (by rw [jO hf,e0];omega)] at hj;cases hj
  exact e0
 obtain⟨b,off,cs,h5, -⟩:=zh.part h 0 hl
 cases h5
 exact zh.news hs hf hR h j u hj
theorem zqf {n:Nat} {P:Nat->Value->Prop} (h:∀j,j<n->∃v,P j v):∃l:List Value,l.length=n/\∀j,j<n->P j (l.getD j (.slice none 0 0)):=by
 induction n with
 |zero=>exact⟨[],rfl,λj hj=>by omega⟩
 |succ n ih=>
 obtain⟨l,h1,h2⟩:=ih λj hj=>h j (by omega)
 obtain⟨v,hv⟩:=h n (by omega)
 refine⟨l++ [v],by simp [h1],λj hj=> ?_⟩
 rw [znU (by omega)]
 by_cases e:j=n
 ·subst e;rw [if_pos h1.symm];exact hv
 rw [if_neg (by omega)];exact h2 j (by omega)
theorem SrcOf.threads {w:World} {sv:Value} {l:List zA} (h:qY w sv l):∃bs:List Value,bs.length=l.length/\SrcOf w sv l.length 6 (zR l bs)/\(∀j,j<l.length->(l.getD j default).regs.length=4/\yu w (bs.getD j (.slice none 0 0)) (l.getD j default).buf)/\∀u∈zR l bs,u.oneCell'=true:=by
 obtain⟨a,cap,rfl, -⟩:=zh.slice h
 obtain⟨bs,hb,hP⟩:=zqf (n:=l.length) (P:=λj v=>(l.getD j default).regs.length=4/\yu w v (l.getD j default).buf/\∃b off,a=some ⟨b,off,none⟩/\∀i,i<6->w.cell? ⟨b,off+j*6+i,none⟩=((l.getD j default).cells v)[i]?) λj hj=>by
  obtain⟨b,off,cs,h1, -,h3,h4,h5,bv,h6,h7⟩:=zh.part h j hj
  subst h6
  exact⟨bv,h5,h7,b,off,h1,h4⟩
 refine⟨bs,hb,⟨a,cap,rfl,jJ l bs,λe=> ?_,λA hA j u hj=> ?_⟩,λj hj=>⟨(hP j hj).1,(hP j hj).2.1⟩,λu hu=> ?_⟩
 ·subst e
  rcases Nat.eq_zero_or_pos l.length with e0|e0
  ·exact e0
  obtain⟨-, -,b,off,h5, -⟩:=hP 0 e0;cases h5
 ·subst hA
  have hlt:j<l.length*6:=by
   rcases Nat.lt_or_ge j (l.length*6) with e|e
   ·exact e
   rw [List.getElem?_eq_none (by rw [jJ];exact e)] at hj;cases hj
  obtain⟨q,r,hq,hr,rfl⟩:∃q r,q<l.length/\r<6/\j=q*6+r:=⟨j / 6,j % 6,by omega,by omega,by omega⟩
  rw [vE hq hr] at hj
  obtain⟨-, -,b,off,h5,h6⟩:=hP q hq
  cases h5
  rw [show(⟨b,off,none⟩:Addr).add (q*6+r)=⟨b,off+q*6+r,none⟩ by
   simp only [Addr.add]
   split
   ·rename_i h;rw [show off+q*6+r=off by omega]
   rw [Nat.add_assoc],h6 r hr]
  exact hj
 obtain⟨j,hj,rfl⟩:=List.getElem_of_mem hu
 rw [jJ] at hj
 obtain⟨q,r,hq,hr,rfl⟩:∃q r,q<l.length/\r<6/\j=q*6+r:=⟨j / 6,j % 6,by omega,by omega,by omega⟩
 have e:=vE (bs:=bs) hq hr
 rw [List.getElem?_eq_getElem (by rw [jJ];omega)] at e
 have hm:=List.mem_of_getElem? e.symm
 refine zlT ?_ _ hm
 obtain⟨a',cap',e', -⟩:=zh.slice (hP q hq).2.1
 rw [e'];rfl
theorem zga {w:World} {B:Nat} {sv:Value} {l:List zA} {bs:List Value} (h:w.ownsRow B 80 6 sv l.length (zR l bs)) (hb:∀j,j<l.length->(l.getD j default).regs.length=4/\yu w (bs.getD j (.slice none 0 0)) (l.getD j default).buf):qY w sv l:=
 zh.zaX h λj hj=>⟨(l.getD j default).cells (bs.getD j (.slice none 0 0)),j5 _ _,λ_ hi=>vE hj hi,(hb j hj).1,_,rfl,(hb j hj).2⟩
theorem wF {P:Program} (w:World) {ops:Array Oper} {rest:List Oper} {o:Oper} {a:Act} {Q:Exit->Act->World->Prop} (hgd:o.guard=none) (s x:Operand) (t:TypeId)
  (ho:o.op= .call { callee:= .builtin .append,args:= #[s,x],argTypes:= #[t,t] })
  (e:TypeId) (z:Value) (size bytes:Nat) (ht:P.underlying t=some (.slice e)) (hinfo:(P.info? e).map (λi=>(i.zero,i.size,i.bytes))=some (some z,size,bytes)) (hzs:z.cells.size=size) (hsz:0<size)
  (base:Nat) (v:Value) (n:Nat) (xs:List Value) (hs:a.eval s=v) (hown:w.ownsRow base e size v n xs)
  (sv:Value) (m:Nat) (news:List Value) (hx:a.eval x=sv) (hsrc:SrcOf w sv m size news) (h1:∀u∈news,u.oneCell'=true)
  (h63:n+m<=maxLen) (hbytes:(n+m)*bytes<=140737488355328) (hbase:base<=w.heap.size)
  (h:∀a' cap' w',w'.ownsRow base e size (.slice a' (n+m) cap') (n+m) (xs++news)->cap'<=9223372036854775807->n+m<=cap'->Since (λk=>v.ownBlock=some k) w w'->
   (∀k,(Value.slice a' (n+m) cap').ownBlock=some k->v.ownBlock=some k\/k=w.heap.size)->wpList P ops Q rest (a.put o.dst (.slice a' (n+m) cap')) w'):wpList P ops Q (o::rest) a w:=by
 obtain⟨ad,c,rfl,hl,hnone,hnews⟩:=hsrc
 cases ad with
 |some A=>
  obtain⟨i,hi,hz,hsize,hby⟩:=info_parts hinfo
  obtain⟨v',w',hr,h2,h3,h4⟩:=run_append_own (P:=P) w base t o.type e i z size bytes ht hi hz hsize hby hzs hsz v n xs hown A m c news hl (hnews A rfl) h1 h63 hbytes hbase
  have hw:=zay ht hi hz hsize hby hown hl (hnews A rfl) h1 h63 hbytes hr
  obtain⟨a',cap',rfl,hc1,hc2⟩:=xB h2
  refine wpList_plain hgd λ_ hK=> ?_
  unfold Oper.wp execOp
  simp only [ho,resolve,invoke,builtin,Sem.run_bind,Sem.run_pure,Result.andThen_ok,List.map_toArray,List.map_cons,List.map_nil,hs,hx,hr]
  refine hK _ _ (h a' cap' w' h2 (by unfold maxLen at hc2;omega) hc1 ((Since.refl _ _).grown h3 (λk hk=> .inl hk)) (λk hk=> ?_))
  rw [hk] at hw
  rcases hw with hw|hw
  ·exact .inl hw.symm
  exact .inr (by simpa using hw)
 |none=>
 have hm:=hnone rfl
 subst hm
 have hn:news= [] :=List.eq_nil_of_length_eq_zero (by simpa using hl)
 subst hn
 obtain⟨i,hi,hz,hsize,hby⟩:=info_parts hinfo
 obtain⟨va,cap,rfl,hc1,hc2⟩:=xB hown
 have hr:(Builtin.append_ #[t,t] o.type #[.slice va n cap, .slice none 0 c]).run P w= .ok (.slice va n cap) w:=by
  cases va<;>simp [Builtin.append_,run_underlying ht,sizeOf,typeInfo,hi,Builtin.lenOf,Builtin.firstCells,hc1,storeCells]
 refine wpList_plain hgd λ_ hK=> ?_
 unfold Oper.wp execOp
 simp only [ho,resolve,invoke,builtin,Sem.run_bind,Sem.run_pure,Result.andThen_ok,List.map_toArray,List.map_cons,List.map_nil,hs,hx,hr]
 exact hK _ _ (h va cap w (by rw [List.append_nil];exact hown) (by unfold maxLen at hc2;omega) hc1 (Since.refl _ _) (λk hk=> .inl hk))
theorem zf8 {P:Program} (w:World) (t ty:TypeId) (e:TypeId) (z:Value) (size bytes:Nat) (ht:P.underlying t=some (.slice e)) (hinfo:(P.info? e).map (λi=>(i.zero,i.size,i.bytes))=some (some z,size,bytes)) (hzs:z.cells.size=size) (hsz:0<size)
  (ao:Option Addr) (n:Nat) (olds:List Value) (hsrc:SrcOf w (.slice ao n n) n size olds)
  (ad:Addr) (m c:Nat) (news:List Value) (hl:news.length=m*size) (hnews:∀j u,news[j]? =some u->w.cell? (ad.add j)=some u) (h1:∀u∈news,u.oneCell'=true) (hm:0<m)
  (h63:n+m<=maxLen) (hbytes:(n+m)*bytes<=140737488355328):
  ∃a' cap' w',(Builtin.append_ #[t,t] ty #[.slice ao n n, .slice (some ad) m c]).run P w= .ok (.slice a' (n+m) cap') w'/\w'.ownsRow w.heap.size e size (.slice a' (n+m) cap') (n+m) (olds++news)/\cap'<=9223372036854775807/\n+m<=cap'/\Since (λ_=>False) w w':=by
 obtain⟨i,hi,hz,hsize,hby⟩:=info_parts hinfo
 obtain⟨ao',cap0,he,hol,hnone,holds⟩:=hsrc
 cases he
 have key:∃v' w',(Builtin.append_ #[t,t] ty #[.slice ao n n, .slice (some ad) m c]).run P w= .ok v' w'/\w'.ownsRow w.heap.size e size v' (n+m) (olds++news)/\w.grownBy w' none:=by
  cases ao with
  |some b=>exact run_append_arg_grows (P:=P) w t ty e i z size bytes ht hi hz hsize hby hzs hsz b n n olds hol (holds b rfl) ad m c news hl hnews (by omega) h63 hbytes
  |none=>
  obtain rfl:=hnone rfl
  obtain rfl:olds= [] :=List.eq_nil_of_length_eq_zero (by simpa using hol)
  obtain⟨v',w',hrun,r1,r2, -⟩:=run_append_own (P:=P) w w.heap.size t ty e i z size bytes ht hi hz hsize hby hzs hsz (.slice none 0 0) 0 [] (World.ownsRow_nil w _ e size) ad m c news hl hnews h1 h63 hbytes (Nat.le_refl _)
  exact⟨v',w',hrun,r1,r2⟩
 obtain⟨v',w',hr,h2,h3⟩:=key
 obtain⟨a',cap',rfl,hc1,hc2⟩:=xB h2
 exact⟨a',cap',w',hr,h2,by unfold maxLen at hc2;omega,hc1,(Since.refl _ _).grown h3 (λk hk=>by cases hk)⟩
theorem pq {P:Program} (w:World) {ops:Array Oper} {o:Oper} {a:Act} {K:Act->World->Prop} {Q:Exit->Act->World->Prop} {E:Prop} (hw:Region.wanted o (yielded ops a.tmps)=true) (s x:Operand) (t:TypeId)
  (ho:o.op= .call { callee:= .builtin .append,args:= #[s,x],argTypes:= #[t,t] })
  (e:TypeId) (z:Value) (size bytes:Nat) (ht:P.underlying t=some (.slice e)) (hinfo:(P.info? e).map (λi=>(i.zero,i.size,i.bytes))=some (some z,size,bytes)) (hzs:z.cells.size=size) (hsz:0<size)
  (ao:Option Addr) (n:Nat) (olds:List Value) (hs:a.eval s= .slice ao n n) (hsrc:SrcOf w (.slice ao n n) n size olds)
  (ad:Addr) (m c:Nat) (news:List Value) (hx:a.eval x= .slice (some ad) m c) (hl:news.length=m*size) (hnews:∀j u,news[j]? =some u->w.cell? (ad.add j)=some u) (h1:∀u∈news,u.oneCell'=true) (hm:0<m)
  (h63:n+m<=maxLen) (hbytes:(n+m)*bytes<=140737488355328)
  (h:∀a' cap' w',w'.ownsRow w.heap.size e size (.slice a' (n+m) cap') (n+m) (olds++news)->cap'<=9223372036854775807->n+m<=cap'->Since (λ_=>False) w w'->K (a.put o.dst (.slice a' (n+m) cap')) w'):
  if Region.wanted o (yielded ops a.tmps)=true then Oper.wp P o a w K Q else E:=by
 rw [if_pos hw]
 obtain⟨a',cap',w',hr,h2,h3,h4,h5⟩:=zf8 (P:=P) w t o.type e z size bytes ht hinfo hzs hsz ao n olds hsrc ad m c news hl hnews h1 hm h63 hbytes
 unfold Oper.wp execOp
 simp only [ho,resolve,invoke,builtin,Sem.run_bind,Sem.run_pure,Result.andThen_ok,List.map_toArray,List.map_cons,List.map_nil,hs,hx,hr]
 exact h a' cap' w' h2 h3 h4 h5
theorem row_zero {X:World} {B m c:Nat} {e:TypeId} {size:Nat} {a:Option Addr} {xs:List Value} (h:X.ownsRow B e size (.slice a (0+m) c) (0+m) ([] ++xs)):X.ownsRow B e size (.slice a m c) m xs:=by simpa using h
theorem jq {X:World} {B g size n:Nat} {e:TypeId} {cs:List Value} (h:X.heap[g]? =some (.cells cs.toArray e (0,0))) (hB:B<=g) (hl:cs.length=n*size) (hn:n<=maxLen):X.ownsRow B e size (.slice (some ⟨g,0,none⟩) n n) n cs:=
 ⟨hl, .inr ⟨g,n,cs.toArray,rfl,hB,h,Nat.le_refl _,hn,by simp [hl],by rw [List.take_of_length_le (by simp [hl])]⟩⟩
theorem uP {w:World} {B g n cap j size:Nat} {e:TypeId} {xs:List Value} (h:w.ownsRow B e size (.slice (some ⟨g,0,none⟩) n cap) n xs) (u:Value):(w.setCell ⟨g,j,none⟩ u).ownsRow B e size (.slice (some ⟨g,0,none⟩) n cap) n (xs.set j u):=by
 refine⟨by rw [List.length_set];exact h.1, ?_⟩
 rcases h.2 with⟨h1, -⟩|⟨g',cap',cur,h1,h2,h3,h4,h5,h6,h7⟩
 ·cases h1
 cases h1
 refine .inr ⟨g,cap,cur.setIfInBounds j u,rfl,h2,zD h3 j u,h4,h5,by rw [Array.size_setIfInBounds];exact h6, ?_⟩
 rw [Array.toList_setIfInBounds,List.take_set,h7]
theorem vC {w:World} {B:Nat} {e:TypeId} {size:Nat} {v:Value} {n:Nat} {xs:List Value} (h:w.ownsRow B e size v n xs) {j:Nat} {u:Value} (hj:xs[j]? =some u):∃g cap,v= .slice (some ⟨g,0,none⟩) n cap/\B<=g/\w.cell? ⟨g,j,none⟩=some u/\w.frozen? ⟨g,j,none⟩=false:=by
 have hlt:j<xs.length:=by
  rcases Nat.lt_or_ge j xs.length with h'|h'
  ·exact h'
  rw [List.getElem?_eq_none h'] at hj;cases hj
 rcases h.2 with⟨h1,h2⟩|⟨g,cap,cur,h1,h2,h3,h4,h5,h6,h7⟩
 ·have:=h.1;rw [h2] at this;omega
 refine⟨g,cap,h1,h2, ?_,zK h3 j⟩
 rw [ze h3, <-hj, <-h7,List.getElem?_take_of_lt (by rw [h.1] at hlt;exact hlt)]
 simp
theorem jL:∀ {l:List zA} {bs:List Value} {i k:Nat} {t:zA} {b u:Value},i<l.length->bs.length=l.length->k<6->t.cells b=((l.getD i default).cells (bs.getD i (.slice none 0 0))).set k u->
  zR (l.set i t) (bs.set i b)=(zR l bs).set (i*6+k) u:=by
 intro l
 induction l with
 |nil=>intro bs i k t b u hi;simp at hi
 |cons x l ih=>
 intro bs i k t b u hi hb hk hc
 cases bs with
 |nil=>simp at hb
 |cons y bs=>
 cases i with
 |zero=>
  simp only [List.getD_cons_zero] at hc
  simp only [List.set_cons_zero,zR,List.getD_cons_zero,List.drop_one,List.tail_cons,Nat.zero_mul,Nat.zero_add,hc]
  rw [List.set_append_left _ _ (by rw [j5];exact hk)]
 |succ i=>
 simp only [List.getD_cons_succ] at hc
 simp only [List.set_cons_succ,zR,List.getD_cons_zero,List.drop_one,List.tail_cons]
 rw [ih (by simpa using hi) (by simpa using hb) hk hc,List.set_append_right _ _ (by rw [j5,Nat.add_mul];omega),j5,show(i+1)*6+k - 6=i*6+k by rw [Nat.add_mul];omega]
theorem uW {α:Type} {l:List α} {i j:Nat} {x d:α} (hj:j<l.length):(l.set i x).getD j d=if j=i then x else l.getD j d:=by
 simp only [List.getD_eq_getElem?_getD]
 by_cases h:j=i
 ·subst h;rw [if_pos rfl,List.getElem?_set_self (by exact hj)];rfl
 rw [if_neg h,List.getElem?_set_ne (Ne.symm h)]
theorem zo9 {l:List Int} {j:Nat} {x:Int} :zq yU (l.set j x)=(zq yU l).set j (.int .i64 x):=by
 have h:∀l:List Int,zq yU l=l.map (Value.int .i64):=λl=>by
  induction l with
  |nil=>rfl
  |cons y l ih=>simp only [zq,List.flatMap_cons,yU,List.map_cons] at ih ⊢;rw [ih];rfl
 rw [h,h,List.map_set]
theorem zsv {l:List Int} {j:Nat} (hj:j<l.length):(zq yU l)[j]? =some (.int .i64 (l.getD j 0)):=by
 have:=gI (f:=yU) (size:=1) zaY (l:=l) (j:=j) (i:=0) hj (by omega)
 rw [Nat.mul_one,Nat.add_zero] at this
 exact this
end Go.Proofs.YtnhahkiojbanfaaGreatDoor
namespace Go.Proofs.YtnhahkiojbanfaaGreatDoor
open Go.RowKit
set_option maxRecDepth 100000
set_option maxHeartbeats 16000000
section
variable {c:zx} {m:zu} {s:zi} {t:zA} {x:zC} {d:Nat}
theorem uh (h:x.op=1):stepT c m s t x d=some (⟨t.pc+1,t.regs.set x.reg.toNat ((wI t.buf x.var).getD (s.mem.getD x.var.toNat 0)),t.buf⟩,s.mem,s.bad):=by simp [stepT,h]
theorem jF (h:x.op=2) (hm:m.model=0):stepT c m s t x d=some (⟨t.pc+1,t.regs,t.buf⟩,s.mem.set x.var.toNat (zW t.regs c.domain d x.a),s.bad):=by simp [stepT,h,hm]
theorem zah (h:x.op=2) (hm:¬m.model=0) (hp:qQ t.buf m ⟨x.var,zW t.regs c.domain d x.a⟩=true):stepT c m s t x d=some (⟨t.pc+1,t.regs,wP t.buf m ⟨x.var,zW t.regs c.domain d x.a⟩⟩,s.mem,s.bad):=by simp [stepT,h,hm,hp]
theorem zai (h:x.op=2) (hm:¬m.model=0) (hp:qQ t.buf m ⟨x.var,zW t.regs c.domain d x.a⟩=false):stepT c m s t x d=none:=by simp [stepT,h,hm,hp]
theorem za5 (h:x.op=3):stepT c m s t x d=some (⟨t.pc+1,t.regs.set x.reg.toNat (zW t.regs c.domain d x.a),t.buf⟩,s.mem,s.bad):=by simp [stepT,h]
theorem uZ (h:x.op=4):stepT c m s t x d=if t.buf.length=0 then some (⟨t.pc+1,t.regs,t.buf⟩,s.mem,s.bad) else none:=by simp [stepT,h]
theorem pz (h:x.op=5):stepT c m s t x d=if t.buf.length=0\/¬m.model=2 then some (⟨t.pc+1,t.regs,t.buf⟩,s.mem,s.bad) else none:=by simp [stepT,h]
theorem p8 (h:x.op=6) (hv:s.mem.getD x.var.toNat 0=zW t.regs c.domain d x.a):stepT c m s t x d=if t.buf.length=0 then some (⟨t.pc+1,t.regs.set x.reg.toNat 1,t.buf⟩,s.mem.set x.var.toNat (zW t.regs c.domain d x.b),s.bad) else none:=by
 unfold stepT
 simp only [h,hv]
 simp
theorem p9 (h:x.op=6) (hv:¬s.mem.getD x.var.toNat 0=zW t.regs c.domain d x.a):stepT c m s t x d=if t.buf.length=0 then some (⟨t.pc+1,t.regs.set x.reg.toNat 0,t.buf⟩,s.mem,s.bad) else none:=by
 unfold stepT
 simp only [h]
 simp only [if_neg hv]
 simp
theorem pE (h:x.op=7):stepT c m s t x d=if t.buf.length=0/\s.mem.getD x.var.toNat 0=0 then some (⟨t.pc+1,t.regs,t.buf⟩,s.mem.set x.var.toNat 1,s.bad) else none:=by simp [stepT,h]
theorem uj (h:x.op=8):stepT c m s t x d=if t.buf.length=0 then some (⟨t.pc+1,t.regs,t.buf⟩,s.mem.set x.var.toNat 0,s.bad) else none:=by simp [stepT,h]
theorem uo (h:x.op=9):stepT c m s t x d=some (⟨t.pc+1,t.regs,t.buf⟩,s.mem,s.bad||decide (zW t.regs c.domain d x.a=0)):=by simp [stepT,h]
theorem uq (h:x.op=12):stepT c m s t x d=some (if zW t.regs c.domain d x.a=0 then⟨x.dest,t.regs,t.buf⟩ else⟨t.pc+1,t.regs,t.buf⟩,s.mem,s.bad):=by simp [stepT,h]
theorem zaN (h1:¬x.op=1) (h2:¬x.op=2) (h3:¬x.op=3) (h4:¬x.op=4) (h5:¬x.op=5) (h6:¬x.op=6) (h7:¬x.op=7) (h8:¬x.op=8) (h9:¬x.op=9) (h12:¬x.op=12) (h13:¬x.op=13):stepT c m s t x d=some (⟨t.pc+1,t.regs,t.buf⟩,s.mem,s.bad):=by simp [stepT,h1,h2,h3,h4,h5,h6,h7,h8,h9,h12,h13]
theorem pF (h:x.op=13):stepT c m s t x d=some (⟨x.dest,t.regs,t.buf⟩,s.mem,s.bad):=by simp [stepT,h]
end
theorem zb0 {c:zx} {m:zu} {s:zi} (h:zP c m s=true):codeOk c=true/\xC c m=true/\s.threads.length=c.threads.length/\(s.mem.length:Int)=c.vars/\
  ∀i,i<s.threads.length->0<=(s.threads.getD i default).pc/\(s.threads.getD i default).pc<=((c.threads.getD i []).length:Int):=by
 unfold zP at h
 simp only [Bool.and_eq_true,decide_eq_true_eq] at h
 obtain⟨⟨⟨⟨h1,h2⟩,h3⟩, -⟩,h5⟩:=h
 have h6:=h1
 unfold xC at h6
 simp only [Bool.and_eq_true,decide_eq_true_eq] at h6
 refine⟨h6.1.1.1.1,h1,h2,h3,λi hi=> ?_⟩
 rw [List.all_eq_true] at h5
 have:=h5 i (List.mem_range.2 hi)
 unfold uR at this
 simp only [Bool.and_eq_true,decide_eq_true_eq] at this
 exact this.1.1
theorem yC {α:Type} {l:List α} {k:Nat} {x:α} (hk:k<l.length):l.getD k x∈l:=by
 rw [List.getD_eq_getElem?_getD,List.getElem?_eq_getElem hk];exact List.getElem_mem hk
theorem zkF {c:zx} (h:codeOk c=true) {i k:Nat} (hi:i<c.threads.length) (hk:k<(c.threads.getD i []).length):
  (c.threads.getD i []).length<=600/\0<=((c.threads.getD i []).getD k default).reg/\((c.threads.getD i []).getD k default).reg<4/\0<=((c.threads.getD i []).getD k default).var/\((c.threads.getD i []).getD k default).var<c.vars:=by
 have hb:=yQ h
 unfold codeOk at h
 simp only [Bool.and_eq_true,decide_eq_true_eq] at h
 have h1:=h.2
 rw [List.all_eq_true] at h1
 have h2:=h1 (c.threads.getD i []) (yC hi)
 unfold rowOk at h2
 simp only [Bool.and_eq_true,decide_eq_true_eq] at h2
 obtain⟨h3,h4⟩:=h2
 rw [List.all_eq_true] at h4
 have h5:=h4 ((c.threads.getD i []).getD k default) (yC hk)
 obtain⟨y,hy⟩:∃y,y=(c.threads.getD i []).getD k default:=⟨_,rfl⟩
 rw [<-hy] at h5 ⊢
 have key:∀kind yt,xY c.vars c.domain kind yt y=true->0<=y.reg/\y.reg<4/\0<=y.var/\y.var<c.vars:=by
  intro kind yt h
  unfold xY xH kH vO at h
  simp only [Bool.and_eq_true] at h
  obtain⟨-,⟨⟨h6,h7⟩, -⟩, -⟩:=h
  constructor
  ·split at h6
   ·simp only [Bool.and_eq_true,decide_eq_true_eq] at h6;exact h6.1
   simp only [decide_eq_true_eq] at h6;omega
  constructor
  ·split at h6
   ·simp only [Bool.and_eq_true,decide_eq_true_eq] at h6;exact h6.2
   simp only [decide_eq_true_eq] at h6;omega
  split at h7
  ·simp only [Bool.and_eq_true,decide_eq_true_eq] at h7;exact h7
  simp only [decide_eq_true_eq] at h7;omega
 unfold qF at h5
 refine⟨h3, ?_⟩
 split at h5
 ·exact key _ _ h5
 split at h5
 ·exact key _ _ h5
 split at h5
 ·cases h5
 exact key _ _ h5
theorem zcG (w:World) (o1 o2 o3 o4:Obj):Below w.heap.size w ((((w.alloc o1).alloc o2).alloc o3).alloc o4)/\((((w.alloc o1).alloc o2).alloc o3).alloc o4).heap[w.heap.size]? =some o1/\((((w.alloc o1).alloc o2).alloc o3).alloc o4).heap[w.heap.size+1]? =some o2/\
  ((((w.alloc o1).alloc o2).alloc o3).alloc o4).heap[w.heap.size+2]? =some o3/\((((w.alloc o1).alloc o2).alloc o3).alloc o4).heap[w.heap.size+3]? =some o4/\((((w.alloc o1).alloc o2).alloc o3).alloc o4).heap.size=w.heap.size+4:=by
 refine⟨(zcM w o1 o2 o3).alloc (by simp;omega) o4,(Below.heap_alloc _ _ _ (by simp;omega)).trans (zcN w o1 o2 o3),(Below.heap_alloc _ _ _ (by simp;try omega)).trans (zcl w o1 o2 o3),(Below.heap_alloc _ _ _ (by simp;try omega)).trans (zcO w o1 o2 o3), ?_,by simp⟩
 have:=zS (((w.alloc o1).alloc o2).alloc o3) o4
 simpa using this
def xI (X:World) (g:Nat):Nat->List Value->World
 |_, [] =>X
 |j,u::l=>xI (X.setCell ⟨g,j,none⟩ u) g (j+1) l
theorem qJ {g:Nat} (l:List Value):∀(X:World) (j:Nat),Since (λk=>k=g) X (xI X g j l):=by
 induction l with
 |nil=>intro X j;exact Since.refl _ _
 |cons u l ih=>
 intro X j
 exact(Since.setCell (F:=λk=>k=g) (p:=⟨g,j,none⟩) (Since.refl _ X) (.inl rfl) u).trans (ih _ _) (λ_ h=> .inl h)
theorem ziO {g:Nat} {t:TypeId} {f:Nat × Nat} (l:List Value):∀(X:World) (pre post:List Value),post.length=l.length->X.heap[g]? =some (.cells (pre++post).toArray t f)->(xI X g pre.length l).heap[g]? =some (.cells (pre++l).toArray t f):=by
 induction l with
 |nil=>
  intro X pre post hl h
  obtain rfl:post= [] :=List.eq_nil_of_length_eq_zero hl
  exact h
 |cons u l ih=>
 intro X pre post hl h
 cases post with
 |nil=>simp at hl
 |cons v post=>
 have h2:=zD h pre.length u
 have h3:((pre++v::post).toArray).setIfInBounds pre.length u=((pre++ [u])++post).toArray:=by
  rw [List.setIfInBounds_toArray,List.set_append_right _ _ (Nat.le_refl _)]
  simp
 rw [h3] at h2
 have:=ih _ (pre++ [u]) post (by simpa using hl) h2
 simpa [xI] using this
theorem vG {g:Nat} {t:TypeId} {f:Nat × Nat} {X:World} {cs:List Value} (l:List Value) (hl:cs.length=l.length) (h:X.heap[g]? =some (.cells cs.toArray t f)):(xI X g 0 l).heap[g]? =some (.cells l.toArray t f):=ziO l X [] cs hl h
