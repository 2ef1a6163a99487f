/- Steps. -/
import Derived.Deep.RegionLaw
import Derived.Test.YtnhahkiojbanfaaGreatDoorRsOwnS
set_option linter.all false
namespace Go.Proofs.YtnhahkiojbanfaaGreatDoor
open Go.RowKit
set_option maxRecDepth 100000
set_option maxHeartbeats 16000000
def SrcOf (w:World) (sv:Value) (n size:Nat) (xs:List Value):Prop:=∃a cap,sv= .slice a n cap/\xs.length=n*size/\(a=none->n=0)/\∀A,a=some A->∀j u,xs[j]? =some u->w.cell? (A.add j)=some u
theorem SrcOf.below {w w':World} {sv:Value} {n size:Nat} {xs:List Value} (h:SrcOf w sv n size xs) (hb:Below w.heap.size w w'):SrcOf w' sv n size xs:=by
 obtain⟨a,cap,h1,h2,h3,h4⟩:=h
 exact⟨a,cap,h1,h2,h3,λA hA j u hj=>zk hb _ _ (h4 A hA j u hj)⟩
theorem SrcOf.of_slice {α:Type} [Inhabited α] {R:World->α->List Value->Prop} {size:Nat} {f:α->List Value} (hs:0<size) (hf:∀x,(f x).length=size) (hR:∀w x cs,R w x cs->cs=f x) {w:World} {sv:Value} {l:List α} (h:zh R size w sv l):SrcOf w sv l.length size (zo f l):=by
 obtain⟨a,cap,rfl, -⟩:=zh.slice h
 refine⟨a,cap,rfl,jB hf l,λe=> ?_,λA hA j u hj=> ?_⟩
 ·subst e
  rcases Nat.eq_zero_or_pos l.length with e0|e0
  ·exact e0
  obtain⟨b,off,cs,h5, -⟩:=zh.part h 0 e0;cases h5
 subst hA
 have hl:0<l.length:=by
  rcases Nat.eq_zero_or_pos l.length with e0|e0
  ·rw [List.getElem?_eq_none (by rw [jB hf,e0];omega)] at hj;cases hj
  exact e0
 obtain⟨b,off,cs,h5, -⟩:=zh.part h 0 hl
 cases h5
 exact zh.news hs hf hR h j u hj
theorem ztW {n:Nat} {P:Nat->Value->Prop} (h:∀j,j<n->∃v,P j v):∃l:List Value,l.length=n/\∀j,j<n->P j (l.getD j (.slice none 0 0)):=by
 induction n with
 |zero=>exact⟨[],rfl,λj hj=>by omega⟩
 |succ n ih=>
 obtain⟨l,h1,h2⟩:=ih λj hj=>h j (by omega)
 obtain⟨v,hv⟩:=h n (by omega)
 refine⟨l++ [v],by simp [h1],λj hj=> ?_⟩
 rw [um (by omega)]
 by_cases e:j=n
 ·subst e;rw [if_pos h1.symm];exact hv
 rw [if_neg (by omega)];exact h2 j (by omega)
theorem SrcOf.threads {w:World} {sv:Value} {l:List zx} (h:qG w sv l):∃bs:List Value,bs.length=l.length/\SrcOf w sv l.length 6 (zY l bs)/\(∀j,j<l.length->(l.getD j default).regs.length=4/\zZ w (bs.getD j (.slice none 0 0)) (l.getD j default).buf)/\∀u∈zY l bs,u.oneCell'=true:=by
 obtain⟨a,cap,rfl, -⟩:=zh.slice h
 obtain⟨bs,hb,hP⟩:=ztW (n:=l.length) (P:=λj v=>(l.getD j default).regs.length=4/\zZ w v (l.getD j default).buf/\∃b off,a=some ⟨b,off,none⟩/\∀i,i<6->w.cell? ⟨b,off+j*6+i,none⟩=((l.getD j default).cells v)[i]?) λj hj=>by
  obtain⟨b,off,cs,h1, -,h3,h4,h5,bv,h6,h7⟩:=zh.part h j hj
  subst h6
  exact⟨bv,h5,h7,b,off,h1,h4⟩
 refine⟨bs,hb,⟨a,cap,rfl,gP l bs,λe=> ?_,λA hA j u hj=> ?_⟩,λj hj=>⟨(hP j hj).1,(hP j hj).2.1⟩,λu hu=> ?_⟩
 ·subst e
  rcases Nat.eq_zero_or_pos l.length with e0|e0
  ·exact e0
  obtain⟨-, -,b,off,h5, -⟩:=hP 0 e0;cases h5
 ·subst hA
  have hlt:j<l.length*6:=by
   rcases Nat.lt_or_ge j (l.length*6) with e|e
   ·exact e
   rw [List.getElem?_eq_none (by rw [gP];exact e)] at hj;cases hj
  obtain⟨q,r,hq,hr,rfl⟩:∃q r,q<l.length/\r<6/\j=q*6+r:=⟨j / 6,j % 6,by omega,by omega,by omega⟩
  rw [vN hq hr] at hj
  obtain⟨-, -,b,off,h5,h6⟩:=hP q hq
  cases h5
  rw [show(⟨b,off,none⟩:Addr).add (q*6+r)=⟨b,off+q*6+r,none⟩ by
   simp only [Addr.add]
   split
   ·rename_i h;rw [show off+q*6+r=off by omega]
   rw [Nat.add_assoc],h6 r hr]
  exact hj
 obtain⟨j,hj,rfl⟩:=List.getElem_of_mem hu
 rw [gP] at hj
 obtain⟨q,r,hq,hr,rfl⟩:∃q r,q<l.length/\r<6/\j=q*6+r:=⟨j / 6,j % 6,by omega,by omega,by omega⟩
 have e:=vN (bs:=bs) hq hr
 rw [List.getElem?_eq_getElem (by rw [gP];omega)] at e
 have hm:=List.mem_of_getElem? e.symm
 refine zpg ?_ _ hm
 obtain⟨a',cap',e', -⟩:=zh.slice (hP q hq).2.1
 rw [e'];rfl
theorem zjn {w:World} {B:Nat} {sv:Value} {l:List zx} {bs:List Value} (h:w.ownsRow B 80 6 sv l.length (zY l bs)) (hb:∀j,j<l.length->(l.getD j default).regs.length=4/\zZ w (bs.getD j (.slice none 0 0)) (l.getD j default).buf):qG w sv l:=
 zh.zct h λj hj=>⟨(l.getD j default).cells (bs.getD j (.slice none 0 0)),kQ _ _,λ_ hi=>vN hj hi,(hb j hj).1,_,rfl,(hb j hj).2⟩
theorem bI {P:Program} (w:World) {ops:Array Oper} {rest:List Oper} {o:Oper} {a:Act} {Q:Exit->Act->World->Prop} (hgd:o.guard=none) (s x:Operand) (t:TypeId)
  (ho:o.op= .call { callee:= .builtin .append,args:= #[s,x],argTypes:= #[t,t] })
  (e:TypeId) (z:Value) (size bytes:Nat) (ht:P.underlying t=some (.slice e)) (hinfo:(P.info? e).map (λi=>(i.zero,i.size,i.bytes))=some (some z,size,bytes)) (hzs:z.cells.size=size) (hsz:0<size)
  (base:Nat) (v:Value) (n:Nat) (xs:List Value) (hs:a.eval s=v) (hown:w.ownsRow base e size v n xs)
  (sv:Value) (m:Nat) (news:List Value) (hx:a.eval x=sv) (hsrc:SrcOf w sv m size news) (h1:∀u∈news,u.oneCell'=true)
  (h63:n+m<=maxLen) (hbytes:(n+m)*bytes<=140737488355328) (hbase:base<=w.heap.size)
  (h:∀a' cap' w',w'.ownsRow base e size (.slice a' (n+m) cap') (n+m) (xs++news)->cap'<=9223372036854775807->n+m<=cap'->Since (λk=>v.ownBlock=some k) w w'->
   (∀k,(Value.slice a' (n+m) cap').ownBlock=some k->v.ownBlock=some k\/k=w.heap.size)->wpList P ops Q rest (a.put o.dst (.slice a' (n+m) cap')) w'):wpList P ops Q (o::rest) a w:=by
 obtain⟨ad,c,rfl,hl,hnone,hnews⟩:=hsrc
 cases ad with
 |some A=>
  obtain⟨i,hi,hz,hsize,hby⟩:=info_parts hinfo
  obtain⟨v',w',hr,h2,h3,h4⟩:=run_append_own (P:=P) w base t o.type e i z size bytes ht hi hz hsize hby hzs hsz v n xs hown A m c news hl (hnews A rfl) h1 h63 hbytes hbase
  have hw:=zcw ht hi hz hsize hby hown hl (hnews A rfl) h1 h63 hbytes hr
  obtain⟨a',cap',rfl,hc1,hc2⟩:=xu h2
  refine wpList_plain hgd λ_ hK=> ?_
  unfold Oper.wp execOp
  simp only [ho,resolve,invoke,builtin,Sem.run_bind,Sem.run_pure,Result.andThen_ok,List.map_toArray,List.map_cons,List.map_nil,hs,hx,hr]
  refine hK _ _ (h a' cap' w' h2 (by unfold maxLen at hc2;omega) hc1 ((Since.refl _ _).grown h3 (λk hk=> .inl hk)) (λk hk=> ?_))
  rw [hk] at hw
  rcases hw with hw|hw
  ·exact .inl hw.symm
  exact .inr (by simpa using hw)
 |none=>
 have hm:=hnone rfl
 subst hm
 have hn:news= [] :=List.eq_nil_of_length_eq_zero (by simpa using hl)
 subst hn
 obtain⟨i,hi,hz,hsize,hby⟩:=info_parts hinfo
 obtain⟨va,cap,rfl,hc1,hc2⟩:=xu hown
 have hr:(Builtin.append_ #[t,t] o.type #[.slice va n cap, .slice none 0 c]).run P w= .ok (.slice va n cap) w:=by
  cases va<;>simp [Builtin.append_,run_underlying ht,sizeOf,typeInfo,hi,Builtin.lenOf,Builtin.firstCells,hc1,storeCells]
 refine wpList_plain hgd λ_ hK=> ?_
 unfold Oper.wp execOp
 simp only [ho,resolve,invoke,builtin,Sem.run_bind,Sem.run_pure,Result.andThen_ok,List.map_toArray,List.map_cons,List.map_nil,hs,hx,hr]
 exact hK _ _ (h va cap w (by rw [List.append_nil];exact hown) (by unfold maxLen at hc2;omega) hc1 (Since.refl _ _) (λk hk=> .inl hk))
theorem zhV {P:Program} (w:World) (t ty:TypeId) (e:TypeId) (z:Value) (size bytes:Nat) (ht:P.underlying t=some (.slice e)) (hinfo:(P.info? e).map (λi=>(i.zero,i.size,i.bytes))=some (some z,size,bytes)) (hzs:z.cells.size=size) (hsz:0<size)
  (ao:Option Addr) (n:Nat) (olds:List Value) (hsrc:SrcOf w (.slice ao n n) n size olds)
  (ad:Addr) (m c:Nat) (news:List Value) (hl:news.length=m*size) (hnews:∀j u,news[j]? =some u->w.cell? (ad.add j)=some u) (h1:∀u∈news,u.oneCell'=true) (hm:0<m)
  (h63:n+m<=maxLen) (hbytes:(n+m)*bytes<=140737488355328):
  ∃a' cap' w',(Builtin.append_ #[t,t] ty #[.slice ao n n, .slice (some ad) m c]).run P w= .ok (.slice a' (n+m) cap') w'/\w'.ownsRow w.heap.size e size (.slice a' (n+m) cap') (n+m) (olds++news)/\cap'<=9223372036854775807/\n+m<=cap'/\Since (λ_=>False) w w':=by
 obtain⟨i,hi,hz,hsize,hby⟩:=info_parts hinfo
 obtain⟨ao',cap0,he,hol,hnone,holds⟩:=hsrc
 cases he
 have key:∃v' w',(Builtin.append_ #[t,t] ty #[.slice ao n n, .slice (some ad) m c]).run P w= .ok v' w'/\w'.ownsRow w.heap.size e size v' (n+m) (olds++news)/\w.grownBy w' none:=by
  cases ao with
  |some b=>exact run_append_arg_grows (P:=P) w t ty e i z size bytes ht hi hz hsize hby hzs hsz b n n olds hol (holds b rfl) ad m c news hl hnews (by omega) h63 hbytes
  |none=>
  obtain rfl:=hnone rfl
  obtain rfl:olds= [] :=List.eq_nil_of_length_eq_zero (by simpa using hol)
  obtain⟨v',w',hrun,r1,r2, -⟩:=run_append_own (P:=P) w w.heap.size t ty e i z size bytes ht hi hz hsize hby hzs hsz (.slice none 0 0) 0 [] (World.ownsRow_nil w _ e size) ad m c news hl hnews h1 h63 hbytes (Nat.le_refl _)
  exact⟨v',w',hrun,r1,r2⟩
 obtain⟨v',w',hr,h2,h3⟩:=key
 obtain⟨a',cap',rfl,hc1,hc2⟩:=xu h2
 exact⟨a',cap',w',hr,h2,by unfold maxLen at hc2;omega,hc1,(Since.refl _ _).grown h3 (λk hk=>by cases hk)⟩
theorem zbQ {P:Program} (w:World) {ops:Array Oper} {o:Oper} {a:Act} {K:Act->World->Prop} {Q:Exit->Act->World->Prop} {E:Prop} (hw:Region.wanted o (yielded ops a.tmps)=true) (s x:Operand) (t:TypeId)
  (ho:o.op= .call { callee:= .builtin .append,args:= #[s,x],argTypes:= #[t,t] })
  (e:TypeId) (z:Value) (size bytes:Nat) (ht:P.underlying t=some (.slice e)) (hinfo:(P.info? e).map (λi=>(i.zero,i.size,i.bytes))=some (some z,size,bytes)) (hzs:z.cells.size=size) (hsz:0<size)
  (ao:Option Addr) (n:Nat) (olds:List Value) (hs:a.eval s= .slice ao n n) (hsrc:SrcOf w (.slice ao n n) n size olds)
  (ad:Addr) (m c:Nat) (news:List Value) (hx:a.eval x= .slice (some ad) m c) (hl:news.length=m*size) (hnews:∀j u,news[j]? =some u->w.cell? (ad.add j)=some u) (h1:∀u∈news,u.oneCell'=true) (hm:0<m)
  (h63:n+m<=maxLen) (hbytes:(n+m)*bytes<=140737488355328)
  (h:∀a' cap' w',w'.ownsRow w.heap.size e size (.slice a' (n+m) cap') (n+m) (olds++news)->cap'<=9223372036854775807->n+m<=cap'->Since (λ_=>False) w w'->K (a.put o.dst (.slice a' (n+m) cap')) w'):
  if Region.wanted o (yielded ops a.tmps)=true then Oper.wp P o a w K Q else E:=by
 rw [if_pos hw]
 obtain⟨a',cap',w',hr,h2,h3,h4,h5⟩:=zhV (P:=P) w t o.type e z size bytes ht hinfo hzs hsz ao n olds hsrc ad m c news hl hnews h1 hm h63 hbytes
 unfold Oper.wp execOp
 simp only [ho,resolve,invoke,builtin,Sem.run_bind,Sem.run_pure,Result.andThen_ok,List.map_toArray,List.map_cons,List.map_nil,hs,hx,hr]
 exact h a' cap' w' h2 h3 h4 h5
theorem row_zero {X:World} {B m c:Nat} {e:TypeId} {size:Nat} {a:Option Addr} {xs:List Value} (h:X.ownsRow B e size (.slice a (0+m) c) (0+m) ([] ++xs)):X.ownsRow B e size (.slice a m c) m xs:=by simpa using h
theorem wP {X:World} {B g size n:Nat} {e:TypeId} {cs:List Value} (h:X.heap[g]? =some (.cells cs.toArray e (0,0))) (hB:B<=g) (hl:cs.length=n*size) (hn:n<=maxLen):X.ownsRow B e size (.slice (some ⟨g,0,none⟩) n n) n cs:=
 ⟨hl, .inr ⟨g,n,cs.toArray,rfl,hB,h,Nat.le_refl _,hn,by simp [hl],by rw [List.take_of_length_le (by simp [hl])]⟩⟩
theorem zle (w:World) (sv:Value) (n:Nat) (xs:List Value) (h:SrcOf w sv n 1 xs) (h1:∀u∈xs,u.oneCell'=true) (hl:n<=100000000):Calls Tryz.prog 82 #[sv] w λe w'=>(∃ca cc,e= .returned (.slice ca n cc)/\w'.ownsRow w.heap.size 3 1 (.slice ca n cc) n xs)/\Below w.heap.size w w':=by
 obtain⟨sa,sc,rfl,h2,h3,h4⟩:=h
 cases sa with
 |none=>
  obtain rfl:=h3 rfl
  obtain rfl:xs= [] :=List.eq_nil_of_length_eq_zero (by simpa using h2)
  clear h1 h2 h3 h4
  have heq:∀w,(binOp .eql 31 (.slice none 0 sc) (.slice none 0 0)).run Tryz.prog w= .ok (.bool true) w:=λw=>by
   have:=Lib.run_eql_slice_nil (P:=Tryz.prog) w 31 3 none 0 sc 0 0 Tryz.underlying31
   simpa using this
  go_enter Tryz.func82,Tryz.ntmps82
  go_wp2_with fail
  go_ret
  exact⟨⟨none,0,by first|rfl|simp,World.ownsRow_nil _ _ _ _⟩,Below.refl _ _⟩
 |some A=>
 have heq:∀w,(binOp .eql 31 (.slice (some A) n sc) (.slice none 0 0)).run Tryz.prog w= .ok (.bool false) w:=λw=>by
  have:=Lib.run_eql_slice_nil (P:=Tryz.prog) w 31 3 (some A) n sc 0 0 Tryz.underlying31
  simpa using this
 have hrow:(w.alloc (.cells #[] 3)).ownsRow w.heap.size 3 1 (.slice (some ⟨w.heap.size,0,none⟩) 0 0) 0 [] :=wP (cs:= []) (yj w _) (Nat.le_refl _) rfl (by unfold maxLen;omega)
 have qZ:=qh hrow
 have HS:Hid (SrcOf (w.alloc (.cells #[] 3)) (.slice (some A) n sc) n 1 xs):=SrcOf.below ⟨some A,sc,rfl,h2,h3,h4⟩ ((Below.refl w.heap.size w).alloc (Nat.le_refl _) _)
 have H1:=qh h1
 clear hrow h1 h2 h3 h4
 go_enter Tryz.func82,Tryz.ntmps82
 go_wp2_with(at_builtin;go_must(refine bI _ rfl _ _ 31 rfl 3 (.int .i64 0) 1 8 Tryz.underlying31 vg rfl (by decide) w.heap.size (.slice (some ⟨w.heap.size,0,none⟩) 0 0) 0 [] rfl qZ.out (.slice (some A) n sc) n xs rfl HS.out H1.out (by unfold maxLen;omega) (by omega) (by simp) ?_);intro ja jc X f1 f2 f3 f4 f5;have HX:=qh (row_zero f1);have HXB:Hid (Below w.heap.size w X):=(((Since.refl (λk=>w.heap.size<=k) w).alloc (.cells #[] 3)).trans f4 (λk hk=> .inl (by simp [Value.ownBlock] at hk;omega))).below (Nat.le_refl _) (λk hk=>hk);clear f1 f2 f3 f4 f5)
 go_ret
 exact⟨⟨ja,jc,by first|rfl|simp,HX.out⟩,HXB.out⟩
theorem zjk (w:World) (sv:Value) (n:Nat) (xs:List Value) (h:SrcOf w sv n 2 xs) (h1:∀u∈xs,u.oneCell'=true) (hl:n<=100000000):Calls Tryz.prog 135 #[sv] w λe w'=>(∃ca cc,e= .returned (.slice ca n cc)/\w'.ownsRow w.heap.size 110 2 (.slice ca n cc) n xs)/\Below w.heap.size w w':=by
 obtain⟨sa,sc,rfl,h2,h3,h4⟩:=h
 cases sa with
 |none=>
  obtain rfl:=h3 rfl
  obtain rfl:xs= [] :=List.eq_nil_of_length_eq_zero (by simpa using h2)
  clear h1 h2 h3 h4
  have heq:∀w,(binOp .eql 78 (.slice none 0 sc) (.slice none 0 0)).run Tryz.prog w= .ok (.bool true) w:=λw=>by
   have:=Lib.run_eql_slice_nil (P:=Tryz.prog) w 78 110 none 0 sc 0 0 Tryz.underlying78
   simpa using this
  go_enter Tryz.func135,Tryz.ntmps135
  go_wp2_with fail
  go_ret
  exact⟨⟨none,0,by first|rfl|simp,World.ownsRow_nil _ _ _ _⟩,Below.refl _ _⟩
 |some A=>
 have heq:∀w,(binOp .eql 78 (.slice (some A) n sc) (.slice none 0 0)).run Tryz.prog w= .ok (.bool false) w:=λw=>by
  have:=Lib.run_eql_slice_nil (P:=Tryz.prog) w 78 110 (some A) n sc 0 0 Tryz.underlying78
  simpa using this
 have hrow:(w.alloc (.cells #[] 110)).ownsRow w.heap.size 110 2 (.slice (some ⟨w.heap.size,0,none⟩) 0 0) 0 [] :=wP (cs:= []) (yj w _) (Nat.le_refl _) rfl (by unfold maxLen;omega)
 have qZ:=qh hrow
 have HS:Hid (SrcOf (w.alloc (.cells #[] 110)) (.slice (some A) n sc) n 2 xs):=SrcOf.below ⟨some A,sc,rfl,h2,h3,h4⟩ ((Below.refl w.heap.size w).alloc (Nat.le_refl _) _)
 have H1:=qh h1
 clear hrow h1 h2 h3 h4
 go_enter Tryz.func135,Tryz.ntmps135
 go_wp2_with(at_builtin;go_must(refine bI _ rfl _ _ 78 rfl 110 (.agg #[.int .i64 0, .int .i64 0]) 2 16 Tryz.underlying78 xG rfl (by decide) w.heap.size (.slice (some ⟨w.heap.size,0,none⟩) 0 0) 0 [] rfl qZ.out (.slice (some A) n sc) n xs rfl HS.out H1.out (by unfold maxLen;omega) (by omega) (by simp) ?_);intro ja jc X f1 f2 f3 f4 f5;have HX:=qh (row_zero f1);have HXB:Hid (Below w.heap.size w X):=(((Since.refl (λk=>w.heap.size<=k) w).alloc (.cells #[] 110)).trans f4 (λk hk=> .inl (by simp [Value.ownBlock] at hk;omega))).below (Nat.le_refl _) (λk hk=>hk);clear f1 f2 f3 f4 f5)
 go_ret
 exact⟨⟨ja,jc,by first|rfl|simp,HX.out⟩,HXB.out⟩
theorem zhW (w:World) (sv:Value) (n:Nat) (xs:List Value) (h:SrcOf w sv n 6 xs) (h1:∀u∈xs,u.oneCell'=true) (hl:n<=100000000):Calls Tryz.prog 85 #[sv] w λe w'=>(∃ca cc,e= .returned (.slice ca n cc)/\w'.ownsRow w.heap.size 80 6 (.slice ca n cc) n xs)/\Below w.heap.size w w':=by
 obtain⟨sa,sc,rfl,h2,h3,h4⟩:=h
 cases sa with
 |none=>
  obtain rfl:=h3 rfl
  obtain rfl:xs= [] :=List.eq_nil_of_length_eq_zero (by simpa using h2)
  clear h1 h2 h3 h4
  have heq:∀w,(binOp .eql 40 (.slice none 0 sc) (.slice none 0 0)).run Tryz.prog w= .ok (.bool true) w:=λw=>by
   have:=Lib.run_eql_slice_nil (P:=Tryz.prog) w 40 80 none 0 sc 0 0 Tryz.underlying40
   simpa using this
  go_enter Tryz.func85,Tryz.ntmps85
  go_wp2_with fail
  go_ret
  exact⟨⟨none,0,by first|rfl|simp,World.ownsRow_nil _ _ _ _⟩,Below.refl _ _⟩
 |some A=>
 have heq:∀w,(binOp .eql 40 (.slice (some A) n sc) (.slice none 0 0)).run Tryz.prog w= .ok (.bool false) w:=λw=>by
  have:=Lib.run_eql_slice_nil (P:=Tryz.prog) w 40 80 (some A) n sc 0 0 Tryz.underlying40
  simpa using this
 have hrow:(w.alloc (.cells #[] 80)).ownsRow w.heap.size 80 6 (.slice (some ⟨w.heap.size,0,none⟩) 0 0) 0 [] :=wP (cs:= []) (yj w _) (Nat.le_refl _) rfl (by unfold maxLen;omega)
 have qZ:=qh hrow
 have HS:Hid (SrcOf (w.alloc (.cells #[] 80)) (.slice (some A) n sc) n 6 xs):=SrcOf.below ⟨some A,sc,rfl,h2,h3,h4⟩ ((Below.refl w.heap.size w).alloc (Nat.le_refl _) _)
 have H1:=qh h1
 clear hrow h1 h2 h3 h4
 go_enter Tryz.func85,Tryz.ntmps85
 go_wp2_with(at_builtin;go_must(refine bI _ rfl _ _ 40 rfl 80 (.agg #[.int .i64 0, .int .i64 0, .int .i64 0, .int .i64 0, .int .i64 0, .slice none 0 0]) 6 64 Tryz.underlying40 zao rfl (by decide) w.heap.size (.slice (some ⟨w.heap.size,0,none⟩) 0 0) 0 [] rfl qZ.out (.slice (some A) n sc) n xs rfl HS.out H1.out (by unfold maxLen;omega) (by omega) (by simp) ?_);intro ja jc X f1 f2 f3 f4 f5;have HX:=qh (row_zero f1);have HXB:Hid (Below w.heap.size w X):=(((Since.refl (λk=>w.heap.size<=k) w).alloc (.cells #[] 80)).trans f4 (λk hk=> .inl (by simp [Value.ownBlock] at hk;omega))).below (Nat.le_refl _) (λk hk=>hk);clear f1 f2 f3 f4 f5)
 go_ret
 exact⟨⟨ja,jc,by first|rfl|simp,HX.out⟩,HXB.out⟩
def zfn:List Value->Nat->List Value->List Value
 |l,_, [] =>l
 |l,o,v::r=>zfn (l.set o v) (o+1) r
theorem znY:∀(vs l:List Value) (o:Nat),o+vs.length<=l.length->zfn l o vs=l.take o++vs++l.drop (o+vs.length):=by
 intro vs
 induction vs with
 |nil=>intro l o h;simp [zfn]
 |cons v r ih=>
 intro l o h
 simp only [List.length_cons] at h
 unfold zfn
 rw [ih _ _ (by simp;omega)]
 have e1:(l.set o v).take (o+1)=l.take o++ [v] :=by
  rw [List.take_set,List.take_add_one,List.getElem?_eq_getElem (by omega),List.set_append_right _ _ (by simp;omega)]
  simp [Nat.min_eq_left (show o<=l.length by omega)]
 have e2:(l.set o v).drop (o+1+r.length)=l.drop (o+(v::r).length):=by
  rw [List.drop_set_of_lt (by omega)]
  congr 1
  simp only [List.length_cons];omega
 rw [e1,e2]
 simp
theorem setCells_at {b:Nat} {e:TypeId} {f:Nat × Nat} :∀(vs:List Value) (w:World) (o:Nat) (l:List Value),w.heap[b]? =some (.cells l.toArray e f)->(w.setCells b o vs).heap[b]? =some (.cells (zfn l o vs).toArray e f):=by
 intro vs
 induction vs with
 |nil=>intro w o l h;exact h
 |cons v r ih=>
 intro w o l h
 have h2:=zu h o v
 rw [List.setIfInBounds_toArray] at h2
 exact ih _ _ _ h2
theorem zd8 (b:Nat):∀(vs:List Value) (w:World) (o:Nat),Since (λk=>k=b) w (w.setCells b o vs):=by
 intro vs
 induction vs with
 |nil=>intro w o;exact Since.refl _ _
 |cons v r ih=>
 intro w o
 exact(Since.setCell (F:=λk=>k=b) (p:=⟨b,o,none⟩) (Since.refl _ w) (.inl rfl) v).trans (ih _ _) (λ_ h=> .inl h)
theorem zhX (w:World) (ty:TypeId) (b o c:Nat) (hc:∀j,j<2->(w.cell? ⟨b,o+j,none⟩).isSome=true) (hf:∀j,j<2->w.frozen? ⟨b,o+j,none⟩=false):
  (Builtin.clear_ #[78] ty #[.slice (some ⟨b,o,none⟩) 1 c]).run Tryz.prog w= .ok (.tuple #[]) (w.setCells b o [.int .i64 0, .int .i64 0]):=by
 obtain⟨i0,hi,hz0,hz1,hz2⟩:=info_parts xG
 have hst:=run_storeCells_cells (P:=Tryz.prog) b o [.int .i64 0, .int .i64 0] 0 w (by simpa using hc) (by simpa using hf) (by intro v hv;simp at hv;rw [hv];rfl)
 simp only [Nat.add_zero] at hst
 have hz:(zeroValue 110).run Tryz.prog w= .ok (.agg #[.int .i64 0, .int .i64 0]) w:=by simp [zeroValue,typeInfo,hi,hz0]
 have e:(Builtin.zeroCells (Value.agg #[.int .i64 0, .int .i64 0]).cells 1).toList= [.int .i64 0, .int .i64 0] :=by simp [Builtin.zeroCells,Value.cells];rfl
 unfold Builtin.clear_
 simp [run_underlying Tryz.underlying78,hz,e,hst]
theorem znd (w:World) (B g n cap i:Nat) (xs:List Value) (ho:w.ownsRow B 110 2 (.slice (some ⟨g,0,none⟩) n cap) n xs) (h1:∀u∈xs,u.oneCell'=true) (hi:i<n) (hn:n<=100000000):
  Calls Tryz.prog 134 #[.slice (some ⟨g,0,none⟩) n cap, .int .i64 i, .int .i64 ((i:Int)+1)] w λe w'=>e= .returned (.slice (some ⟨g,0,none⟩) (n - 1) cap)/\w'.ownsRow B 110 2 (.slice (some ⟨g,0,none⟩) (n - 1) cap) (n - 1) (xs.take (i*2)++xs.drop (i*2+2))/\Since (λk=>k=g) w w':=by
 obtain⟨hlen,hnone|⟨g',cap',cur,he,hBg,hg,hnc,hcm,hcs,htake⟩⟩:=ho
 ·cases hnone.1
 cases he
 unfold maxLen at hcm
 obtain⟨L,rfl⟩:∃L:List Value,cur=L.toArray:=⟨cur.toList,rfl⟩
 simp only [List.size_toArray] at hcs
 simp only [] at htake
 have hLx:∀j,j<n*2->L[j]? =xs[j]? :=λj hj=>by rw [<-htake,List.getElem?_take_of_lt hj]
 obtain⟨post,hpost⟩:∃p,p=xs.drop (i*2+2):=⟨_,rfl⟩
 have hpl:post.length=(n - i - 1)*2:=by rw [hpost,List.length_drop,hlen];omega
 obtain⟨A,hA,hsrc⟩:∃A:Addr,(if cap=i+1 then some (⟨g,0,none⟩:Addr) else some ⟨g,(i+1)*2,none⟩)=some A/\Hid (∀t u,post[t]? =some u->w.drew.cell? (A.add t)=some u):=by
  by_cases h:cap=i+1
  ·refine⟨⟨g,0,none⟩,by simp [h],λt u hu=> ?_⟩
   have h0:post.length=0:=by rw [hpl];omega
   rw [List.length_eq_zero_iff.1 h0] at hu
   simp at hu
  refine⟨⟨g,(i+1)*2,none⟩,by simp [h],λt u hu=> ?_⟩
  have ht:t<post.length:=(List.getElem?_eq_some_iff.1 hu).1
  rw [Addr.add_lit]
  have e:=ze (w:=w.drew) hg ((i+1)*2+t)
  rw [e]
  rw [hpost,List.getElem?_drop] at hu
  rw [List.getElem?_toArray,hLx _ (by omega),show(i+1)*2+t=i*2+2+t by omega]
  exact hu
 have s2:Hid (∀u∈post,u.oneCell'=true):=λu hu=>h1 u (by rw [hpost] at hu;exact List.mem_of_mem_drop hu)
 have s3:Hid (∀t,t<post.length->(w.drew.cell? ⟨g,0+i*2+t,none⟩).isSome=true/\w.drew.frozen? ⟨g,0+i*2+t,none⟩=false):=by
  intro t ht
  refine⟨?_,zA (w:=w.drew) hg _⟩
  have e:=ze (w:=w.drew) hg (0+i*2+t)
  rw [e,List.getElem?_toArray,hLx _ (by omega),List.getElem?_eq_getElem (by omega)];rfl
 obtain⟨W1,hW1⟩:∃W1,W1=w.drew.setCells g (0+i*2) post:=⟨_,rfl⟩
 obtain⟨M,hM⟩:∃M,M=zfn L (0+i*2) post:=⟨_,rfl⟩
 have hb1:W1.heap[g]? =some (.cells M.toArray 110 (0,0)):=by rw [hW1,hM];exact setCells_at _ _ _ _ hg
 have hl1:M=L.take (i*2)++post++L.drop (i*2+post.length):=by rw [hM,znY _ _ _ (by omega)];simp
 have hlen1:M.length=cap*2:=by rw [hl1];simp;omega
 have hcl:∀ty c,(Builtin.clear_ #[78] ty #[.slice (some ⟨g,(n - 1)*2,none⟩) 1 c]).run Tryz.prog W1= .ok (.tuple #[]) (W1.setCells g ((n - 1)*2) [.int .i64 0, .int .i64 0]):=λty c=>
  zhX W1 ty g ((n - 1)*2) c (λj hj=>by rw [ze hb1,List.getElem?_toArray,List.getElem?_eq_getElem (by omega)];rfl) (λj hj=>zA hb1 _)
 obtain⟨W2,hW2⟩:∃W2,W2=W1.setCells g ((n - 1)*2) [.int .i64 0, .int .i64 0] :=⟨_,rfl⟩
 have hb2:W2.heap[g]? =some (.cells (zfn M ((n - 1)*2) [.int .i64 0, .int .i64 0]).toArray 110 (0,0)):=by rw [hW2];exact setCells_at _ _ _ _ hb1
 have hl2:zfn M ((n - 1)*2) [.int .i64 0, .int .i64 0] =M.take ((n - 1)*2)++ [.int .i64 0, .int .i64 0] ++M.drop ((n - 1)*2+2):=znY _ _ _ (by simp;omega)
 have hend:Hid (W2.ownsRow B 110 2 (.slice (some ⟨g,0,none⟩) (n - 1) cap) (n - 1) (xs.take (i*2)++post)):=by
  have e3:xs.take (i*2)=L.take (i*2):=by rw [<-htake,List.take_take];congr 1;omega
  have e4:(L.take (i*2)++post).length=(n - 1)*2:=by rw [List.length_append,List.length_take,hpl];omega
  have e5:M.take ((n - 1)*2)=xs.take (i*2)++post:=by rw [hl1,List.take_append_of_le_length (by omega),List.take_of_length_le (by omega),e3]
  refine⟨by rw [List.length_append,List.length_take,hpl,hlen];omega, .inr ⟨g,cap,_,rfl,hBg,hb2,by omega,by unfold maxLen;omega, ?_, ?_⟩⟩
  ·rw [hl2];simp;omega
  rw [hl2,List.append_assoc,List.take_append_of_le_length (by rw [List.length_take];omega),List.take_of_length_le (by rw [List.length_take];omega),e5]
 have zcx:Hid (Since (λk=>k=g) w W2):=by
  rw [Hid,hW2,hW1]
  exact(((Since.refl _ w).drew).trans (zd8 g _ _ _) (λ_ h=> .inl h)).trans (zd8 g _ _ _) (λ_ h=> .inl h)
 rw [<-hpost]
 have hic:i<=cap:=by omega
 have hjc:i+1<=cap:=by omega
 have hiI:(i:Int)<=(n:Int):=by omega
 have hij:((i:Int)==(i:Int)+1)=false:=by rw [beq_eq_false_iff_ne];omega
 have jS:Hid (post.length=(n - i - 1)*2):=hpl
 have HW1:=qh hW1
 have HW2:=qh hW2
 clear hW1 hW2 hb1 hb2 hl1 hl2 hlen1 hM hpl hpost hLx htake hg hcs hlen
 go_enter Tryz.func134,Tryz.ntmps134
 obtain⟨i0,hi0,hz0,hz1,hz2⟩:=info_parts xG
 have hlow:i+(n - (i+1))=n - 1:=by omega
 have hz1':0<=(i:Int)+1:=by omega
 have hz2':(i:Int)+1<=(n:Int):=by omega
 have s1:Hid (post.length=(n - (i+1))*2):=by rw [Hid,jS.out];omega
 go_wp2_with fail
 go_region_law (refine step_append_room rfl (.tmp 22) (.tmp 25) 78 rfl 110 i0 2 Tryz.underlying78 hi0 hz1 g 0 i cap (by simp [Act.eval,Act.put]) A (n - (i+1)) (cap - (i+1)) post (by simp [Act.eval,Act.put]) s1.out hsrc.out s2.out (by omega) s3.out ?_;rw [<-HW1.out])
 have hz5:((n - 1:Nat):Int)<=(n:Int):=by omega
 have hz6:(n:Int)<=(cap:Int):=by omega
 have hz7:¬cap=n - 1:=by omega
 have hz8:n - (n - 1)=1:=by omega
 clear hA hsrc s1 s2 s3 jS hlow hz1' hz2' hij hic hjc hiI
 go_wp2_with fail
 rw [<-HW2.out]
 go_ret
 exact⟨rfl,hend.out,zcx.out⟩
