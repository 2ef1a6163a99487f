/- Steps. -/
import Derived.Test.YteggflahafiieaaGreatDoorZgKFuncs
import Derived.Test.YteggflahafiieaaGreatDoorZgOwnS
import Derived.Test.YteggflahafiieaaGreatDoorZgPSrc
set_option linter.all false
namespace Go.Proofs.YteggflahafiieaaGreatDoor
open Go.RowKit
set_option maxRecDepth 100000
set_option maxHeartbeats 16000000
theorem zlG (w:World) (sv:Value) (n:Nat) (xs:List Value) (h:SrcOf w sv n 1 xs) (h1:∀u∈xs,u.oneCell'=true) (hl:n<=100000000):Calls Tryz.prog 64 #[sv] w λe w'=>(∃ca cc,e= .returned (.slice ca n cc)/\w'.ownsRow w.heap.size 3 1 (.slice ca n cc) n xs)/\Below w.heap.size w w':=by
 obtain⟨sa,sc,rfl,h2,h3,h4⟩:=h
 cases sa with
 |none=>
  obtain rfl:=h3 rfl
  obtain rfl:xs= [] :=List.eq_nil_of_length_eq_zero (by simpa using h2)
  clear h1 h2 h3 h4
  have heq:∀w,(binOp .eql 28 (.slice none 0 sc) (.slice none 0 0)).run Tryz.prog w= .ok (.bool true) w:=λw=>by
   have:=Lib.run_eql_slice_nil (P:=Tryz.prog) w 28 3 none 0 sc 0 0 Tryz.underlying28
   simpa using this
  go_enter Tryz.func64,Tryz.ntmps64
  go_wp2_with fail
  go_ret
  exact⟨⟨none,0,by first|rfl|simp,World.ownsRow_nil _ _ _ _⟩,Below.refl _ _⟩
 |some A=>
 have heq:∀w,(binOp .eql 28 (.slice (some A) n sc) (.slice none 0 0)).run Tryz.prog w= .ok (.bool false) w:=λw=>by
  have:=Lib.run_eql_slice_nil (P:=Tryz.prog) w 28 3 (some A) n sc 0 0 Tryz.underlying28
  simpa using this
 have hrow:(w.alloc (.cells #[] 3)).ownsRow w.heap.size 3 1 (.slice (some ⟨w.heap.size,0,none⟩) 0 0) 0 [] :=jT (cs:= []) (yE w _) (Nat.le_refl _) rfl (by unfold maxLen;omega)
 have jh:=qh hrow
 have HS:Hid (SrcOf (w.alloc (.cells #[] 3)) (.slice (some A) n sc) n 1 xs):=SrcOf.below ⟨some A,sc,rfl,h2,h3,h4⟩ ((Below.refl w.heap.size w).alloc (Nat.le_refl _) _)
 have H1:=qh h1
 clear hrow h1 h2 h3 h4
 go_enter Tryz.func64,Tryz.ntmps64
 go_wp2_with(at_builtin;go_must(refine gJ _ rfl _ _ 28 rfl 3 (.int .i64 0) 1 8 Tryz.underlying28 vO rfl (by decide) w.heap.size (.slice (some ⟨w.heap.size,0,none⟩) 0 0) 0 [] rfl jh.out (.slice (some A) n sc) n xs rfl HS.out H1.out (by unfold maxLen;omega) (by omega) (by simp) ?_);intro ja jc X f1 f2 f3 f4 f5;have HX:=qh (row_zero f1);have HXB:Hid (Below w.heap.size w X):=(((Since.refl (λk=>w.heap.size<=k) w).alloc (.cells #[] 3)).trans f4 (λk hk=> .inl (by simp [Value.ownBlock] at hk;omega))).below (Nat.le_refl _) (λk hk=>hk);clear f1 f2 f3 f4 f5)
 go_ret
 exact⟨⟨ja,jc,by first|rfl|simp,HX.out⟩,HXB.out⟩
theorem zha (w:World) (sv:Value) (n:Nat) (xs:List Value) (h:SrcOf w sv n 2 xs) (h1:∀u∈xs,u.oneCell'=true) (hl:n<=100000000):Calls Tryz.prog 142 #[sv] w λe w'=>(∃ca cc,e= .returned (.slice ca n cc)/\w'.ownsRow w.heap.size 136 2 (.slice ca n cc) n xs)/\Below w.heap.size w w':=by
 obtain⟨sa,sc,rfl,h2,h3,h4⟩:=h
 cases sa with
 |none=>
  obtain rfl:=h3 rfl
  obtain rfl:xs= [] :=List.eq_nil_of_length_eq_zero (by simpa using h2)
  clear h1 h2 h3 h4
  have heq:∀w,(binOp .eql 45 (.slice none 0 sc) (.slice none 0 0)).run Tryz.prog w= .ok (.bool true) w:=λw=>by
   have:=Lib.run_eql_slice_nil (P:=Tryz.prog) w 45 136 none 0 sc 0 0 Tryz.underlying45
   simpa using this
  go_enter Tryz.func142,Tryz.ntmps142
  go_wp2_with fail
  go_ret
  exact⟨⟨none,0,by first|rfl|simp,World.ownsRow_nil _ _ _ _⟩,Below.refl _ _⟩
 |some A=>
 have heq:∀w,(binOp .eql 45 (.slice (some A) n sc) (.slice none 0 0)).run Tryz.prog w= .ok (.bool false) w:=λw=>by
  have:=Lib.run_eql_slice_nil (P:=Tryz.prog) w 45 136 (some A) n sc 0 0 Tryz.underlying45
  simpa using this
 have hrow:(w.alloc (.cells #[] 136)).ownsRow w.heap.size 136 2 (.slice (some ⟨w.heap.size,0,none⟩) 0 0) 0 [] :=jT (cs:= []) (yE w _) (Nat.le_refl _) rfl (by unfold maxLen;omega)
 have jh:=qh hrow
 have HS:Hid (SrcOf (w.alloc (.cells #[] 136)) (.slice (some A) n sc) n 2 xs):=SrcOf.below ⟨some A,sc,rfl,h2,h3,h4⟩ ((Below.refl w.heap.size w).alloc (Nat.le_refl _) _)
 have H1:=qh h1
 clear hrow h1 h2 h3 h4
 go_enter Tryz.func142,Tryz.ntmps142
 go_wp2_with(at_builtin;go_must(refine gJ _ rfl _ _ 45 rfl 136 (.agg #[.int .i64 0, .int .i64 0]) 2 16 Tryz.underlying45 xu rfl (by decide) w.heap.size (.slice (some ⟨w.heap.size,0,none⟩) 0 0) 0 [] rfl jh.out (.slice (some A) n sc) n xs rfl HS.out H1.out (by unfold maxLen;omega) (by omega) (by simp) ?_);intro ja jc X f1 f2 f3 f4 f5;have HX:=qh (row_zero f1);have HXB:Hid (Below w.heap.size w X):=(((Since.refl (λk=>w.heap.size<=k) w).alloc (.cells #[] 136)).trans f4 (λk hk=> .inl (by simp [Value.ownBlock] at hk;omega))).below (Nat.le_refl _) (λk hk=>hk);clear f1 f2 f3 f4 f5)
 go_ret
 exact⟨⟨ja,jc,by first|rfl|simp,HX.out⟩,HXB.out⟩
theorem zgv (w:World) (sv:Value) (n:Nat) (xs:List Value) (h:SrcOf w sv n 6 xs) (h1:∀u∈xs,u.oneCell'=true) (hl:n<=100000000):Calls Tryz.prog 67 #[sv] w λe w'=>(∃ca cc,e= .returned (.slice ca n cc)/\w'.ownsRow w.heap.size 47 6 (.slice ca n cc) n xs)/\Below w.heap.size w w':=by
 obtain⟨sa,sc,rfl,h2,h3,h4⟩:=h
 cases sa with
 |none=>
  obtain rfl:=h3 rfl
  obtain rfl:xs= [] :=List.eq_nil_of_length_eq_zero (by simpa using h2)
  clear h1 h2 h3 h4
  have heq:∀w,(binOp .eql 33 (.slice none 0 sc) (.slice none 0 0)).run Tryz.prog w= .ok (.bool true) w:=λw=>by
   have:=Lib.run_eql_slice_nil (P:=Tryz.prog) w 33 47 none 0 sc 0 0 Tryz.underlying33
   simpa using this
  go_enter Tryz.func67,Tryz.ntmps67
  go_wp2_with fail
  go_ret
  exact⟨⟨none,0,by first|rfl|simp,World.ownsRow_nil _ _ _ _⟩,Below.refl _ _⟩
 |some A=>
 have heq:∀w,(binOp .eql 33 (.slice (some A) n sc) (.slice none 0 0)).run Tryz.prog w= .ok (.bool false) w:=λw=>by
  have:=Lib.run_eql_slice_nil (P:=Tryz.prog) w 33 47 (some A) n sc 0 0 Tryz.underlying33
  simpa using this
 have hrow:(w.alloc (.cells #[] 47)).ownsRow w.heap.size 47 6 (.slice (some ⟨w.heap.size,0,none⟩) 0 0) 0 [] :=jT (cs:= []) (yE w _) (Nat.le_refl _) rfl (by unfold maxLen;omega)
 have jh:=qh hrow
 have HS:Hid (SrcOf (w.alloc (.cells #[] 47)) (.slice (some A) n sc) n 6 xs):=SrcOf.below ⟨some A,sc,rfl,h2,h3,h4⟩ ((Below.refl w.heap.size w).alloc (Nat.le_refl _) _)
 have H1:=qh h1
 clear hrow h1 h2 h3 h4
 go_enter Tryz.func67,Tryz.ntmps67
 go_wp2_with(at_builtin;go_must(refine gJ _ rfl _ _ 33 rfl 47 (.agg #[.int .i64 0, .int .i64 0, .int .i64 0, .int .i64 0, .int .i64 0, .slice none 0 0]) 6 64 Tryz.underlying33 uK rfl (by decide) w.heap.size (.slice (some ⟨w.heap.size,0,none⟩) 0 0) 0 [] rfl jh.out (.slice (some A) n sc) n xs rfl HS.out H1.out (by unfold maxLen;omega) (by omega) (by simp) ?_);intro ja jc X f1 f2 f3 f4 f5;have HX:=qh (row_zero f1);have HXB:Hid (Below w.heap.size w X):=(((Since.refl (λk=>w.heap.size<=k) w).alloc (.cells #[] 47)).trans f4 (λk hk=> .inl (by simp [Value.ownBlock] at hk;omega))).below (Nat.le_refl _) (λk hk=>hk);clear f1 f2 f3 f4 f5)
 go_ret
 exact⟨⟨ja,jc,by first|rfl|simp,HX.out⟩,HXB.out⟩
def zd9:List Value->Nat->List Value->List Value
 |l,_, [] =>l
 |l,o,v::r=>zd9 (l.set o v) (o+1) r
theorem zpv:∀(vs l:List Value) (o:Nat),o+vs.length<=l.length->zd9 l o vs=l.take o++vs++l.drop (o+vs.length):=by
 intro vs
 induction vs with
 |nil=>intro l o h;simp [zd9]
 |cons v r ih=>
 intro l o h
 simp only [List.length_cons] at h
 unfold zd9
 rw [ih _ _ (by simp;omega)]
 have e1:(l.set o v).take (o+1)=l.take o++ [v] :=by
  rw [List.take_set,List.take_add_one,List.getElem?_eq_getElem (by omega),List.set_append_right _ _ (by simp;omega)]
  simp [Nat.min_eq_left (show o<=l.length by omega)]
 have e2:(l.set o v).drop (o+1+r.length)=l.drop (o+(v::r).length):=by
  rw [List.drop_set_of_lt (by omega)]
  congr 1
  simp only [List.length_cons];omega
 rw [e1,e2]
 simp
theorem setCells_at {b:Nat} {e:TypeId} {f:Nat × Nat} :∀(vs:List Value) (w:World) (o:Nat) (l:List Value),w.heap[b]? =some (.cells l.toArray e f)->(w.setCells b o vs).heap[b]? =some (.cells (zd9 l o vs).toArray e f):=by
 intro vs
 induction vs with
 |nil=>intro w o l h;exact h
 |cons v r ih=>
 intro w o l h
 have h2:=zu h o v
 rw [List.setIfInBounds_toArray] at h2
 exact ih _ _ _ h2
theorem zch (b:Nat):∀(vs:List Value) (w:World) (o:Nat),Since (λk=>k=b) w (w.setCells b o vs):=by
 intro vs
 induction vs with
 |nil=>intro w o;exact Since.refl _ _
 |cons v r ih=>
 intro w o
 exact(Since.setCell (F:=λk=>k=b) (p:=⟨b,o,none⟩) (Since.refl _ w) (.inl rfl) v).trans (ih _ _) (λ_ h=> .inl h)
theorem zgA (w:World) (ty:TypeId) (b o c:Nat) (hc:∀j,j<2->(w.cell? ⟨b,o+j,none⟩).isSome=true) (hf:∀j,j<2->w.frozen? ⟨b,o+j,none⟩=false):
  (Builtin.clear_ #[45] ty #[.slice (some ⟨b,o,none⟩) 1 c]).run Tryz.prog w= .ok (.tuple #[]) (w.setCells b o [.int .i64 0, .int .i64 0]):=by
 obtain⟨i0,hi,hz0,hz1,hz2⟩:=info_parts xu
 have hst:=run_storeCells_cells (P:=Tryz.prog) b o [.int .i64 0, .int .i64 0] 0 w (by simpa using hc) (by simpa using hf) (by intro v hv;simp at hv;rw [hv];rfl)
 simp only [Nat.add_zero] at hst
 have hz:(zeroValue 136).run Tryz.prog w= .ok (.agg #[.int .i64 0, .int .i64 0]) w:=by simp [zeroValue,typeInfo,hi,hz0]
 have e:(Builtin.zeroCells (Value.agg #[.int .i64 0, .int .i64 0]).cells 1).toList= [.int .i64 0, .int .i64 0] :=by simp [Builtin.zeroCells,Value.cells];rfl
 unfold Builtin.clear_
 simp [run_underlying Tryz.underlying45,hz,e,hst]
theorem zoF (w:World) (B g n cap i:Nat) (xs:List Value) (ho:w.ownsRow B 136 2 (.slice (some ⟨g,0,none⟩) n cap) n xs) (h1:∀u∈xs,u.oneCell'=true) (hi:i<n) (hn:n<=100000000):
  Calls Tryz.prog 141 #[.slice (some ⟨g,0,none⟩) n cap, .int .i64 i, .int .i64 ((i:Int)+1)] w λe w'=>e= .returned (.slice (some ⟨g,0,none⟩) (n - 1) cap)/\w'.ownsRow B 136 2 (.slice (some ⟨g,0,none⟩) (n - 1) cap) (n - 1) (xs.take (i*2)++xs.drop (i*2+2))/\Since (λk=>k=g) w w':=by
 obtain⟨hlen,hnone|⟨g',cap',cur,he,hBg,hg,hnc,hcm,hcs,htake⟩⟩:=ho
 ·cases hnone.1
 cases he
 unfold maxLen at hcm
 obtain⟨L,rfl⟩:∃L:List Value,cur=L.toArray:=⟨cur.toList,rfl⟩
 simp only [List.size_toArray] at hcs
 simp only [] at htake
 have hLx:∀j,j<n*2->L[j]? =xs[j]? :=λj hj=>by rw [<-htake,List.getElem?_take_of_lt hj]
 obtain⟨post,hpost⟩:∃p,p=xs.drop (i*2+2):=⟨_,rfl⟩
 have hpl:post.length=(n - i - 1)*2:=by rw [hpost,List.length_drop,hlen];omega
 obtain⟨A,hA,hsrc⟩:∃A:Addr,(if cap=i+1 then some (⟨g,0,none⟩:Addr) else some ⟨g,(i+1)*2,none⟩)=some A/\Hid (∀t u,post[t]? =some u->w.drew.cell? (A.add t)=some u):=by
  by_cases h:cap=i+1
  ·refine⟨⟨g,0,none⟩,by simp [h],λt u hu=> ?_⟩
   have h0:post.length=0:=by rw [hpl];omega
   rw [List.length_eq_zero_iff.1 h0] at hu
   simp at hu
  refine⟨⟨g,(i+1)*2,none⟩,by simp [h],λt u hu=> ?_⟩
  have ht:t<post.length:=(List.getElem?_eq_some_iff.1 hu).1
  rw [Addr.add_lit]
  have e:=za (w:=w.drew) hg ((i+1)*2+t)
  rw [e]
  rw [hpost,List.getElem?_drop] at hu
  rw [List.getElem?_toArray,hLx _ (by omega),show(i+1)*2+t=i*2+2+t by omega]
  exact hu
 have s2:Hid (∀u∈post,u.oneCell'=true):=λu hu=>h1 u (by rw [hpost] at hu;exact List.mem_of_mem_drop hu)
 have s3:Hid (∀t,t<post.length->(w.drew.cell? ⟨g,0+i*2+t,none⟩).isSome=true/\w.drew.frozen? ⟨g,0+i*2+t,none⟩=false):=by
  intro t ht
  refine⟨?_,zw (w:=w.drew) hg _⟩
  have e:=za (w:=w.drew) hg (0+i*2+t)
  rw [e,List.getElem?_toArray,hLx _ (by omega),List.getElem?_eq_getElem (by omega)];rfl
 obtain⟨W1,hW1⟩:∃W1,W1=w.drew.setCells g (0+i*2) post:=⟨_,rfl⟩
 obtain⟨M,hM⟩:∃M,M=zd9 L (0+i*2) post:=⟨_,rfl⟩
 have hb1:W1.heap[g]? =some (.cells M.toArray 136 (0,0)):=by rw [hW1,hM];exact setCells_at _ _ _ _ hg
 have hl1:M=L.take (i*2)++post++L.drop (i*2+post.length):=by rw [hM,zpv _ _ _ (by omega)];simp
 have hlen1:M.length=cap*2:=by rw [hl1];simp;omega
 have hcl:∀ty c,(Builtin.clear_ #[45] ty #[.slice (some ⟨g,(n - 1)*2,none⟩) 1 c]).run Tryz.prog W1= .ok (.tuple #[]) (W1.setCells g ((n - 1)*2) [.int .i64 0, .int .i64 0]):=λty c=>
  zgA W1 ty g ((n - 1)*2) c (λj hj=>by rw [za hb1,List.getElem?_toArray,List.getElem?_eq_getElem (by omega)];rfl) (λj hj=>zw hb1 _)
 obtain⟨W2,hW2⟩:∃W2,W2=W1.setCells g ((n - 1)*2) [.int .i64 0, .int .i64 0] :=⟨_,rfl⟩
 have hb2:W2.heap[g]? =some (.cells (zd9 M ((n - 1)*2) [.int .i64 0, .int .i64 0]).toArray 136 (0,0)):=by rw [hW2];exact setCells_at _ _ _ _ hb1
 have hl2:zd9 M ((n - 1)*2) [.int .i64 0, .int .i64 0] =M.take ((n - 1)*2)++ [.int .i64 0, .int .i64 0] ++M.drop ((n - 1)*2+2):=zpv _ _ _ (by simp;omega)
 have hend:Hid (W2.ownsRow B 136 2 (.slice (some ⟨g,0,none⟩) (n - 1) cap) (n - 1) (xs.take (i*2)++post)):=by
  have e3:xs.take (i*2)=L.take (i*2):=by rw [<-htake,List.take_take];congr 1;omega
  have e4:(L.take (i*2)++post).length=(n - 1)*2:=by rw [List.length_append,List.length_take,hpl];omega
  have e5:M.take ((n - 1)*2)=xs.take (i*2)++post:=by rw [hl1,List.take_append_of_le_length (by omega),List.take_of_length_le (by omega),e3]
  refine⟨by rw [List.length_append,List.length_take,hpl,hlen];omega, .inr ⟨g,cap,_,rfl,hBg,hb2,by omega,by unfold maxLen;omega, ?_, ?_⟩⟩
  ·rw [hl2];simp;omega
  rw [hl2,List.append_assoc,List.take_append_of_le_length (by rw [List.length_take];omega),List.take_of_length_le (by rw [List.length_take];omega),e5]
 have zzJ:Hid (Since (λk=>k=g) w W2):=by
  rw [Hid,hW2,hW1]
  exact(((Since.refl _ w).drew).trans (zch g _ _ _) (λ_ h=> .inl h)).trans (zch g _ _ _) (λ_ h=> .inl h)
 rw [<-hpost]
 have hic:i<=cap:=by omega
 have hjc:i+1<=cap:=by omega
 have hiI:(i:Int)<=(n:Int):=by omega
 have hij:((i:Int)==(i:Int)+1)=false:=by rw [beq_eq_false_iff_ne];omega
 have gF:Hid (post.length=(n - i - 1)*2):=hpl
 have HW1:=qh hW1
 have HW2:=qh hW2
 clear hW1 hW2 hb1 hb2 hl1 hl2 hlen1 hM hpl hpost hLx htake hg hcs hlen
 go_enter Tryz.func141,Tryz.ntmps141
 obtain⟨i0,hi0,hz0,hz1,hz2⟩:=info_parts xu
 have hlow:i+(n - (i+1))=n - 1:=by omega
 have hz1':0<=(i:Int)+1:=by omega
 have hz2':(i:Int)+1<=(n:Int):=by omega
 have s1:Hid (post.length=(n - (i+1))*2):=by rw [Hid,gF.out];omega
 go_wp2_with fail
 go_region_law (refine step_append_room rfl (.tmp 22) (.tmp 25) 45 rfl 136 i0 2 Tryz.underlying45 hi0 hz1 g 0 i cap (by simp [Act.eval,Act.put]) A (n - (i+1)) (cap - (i+1)) post (by simp [Act.eval,Act.put]) s1.out hsrc.out s2.out (by omega) s3.out ?_;rw [<-HW1.out])
 have hz5:((n - 1:Nat):Int)<=(n:Int):=by omega
 have hz6:(n:Int)<=(cap:Int):=by omega
 have hz7:¬cap=n - 1:=by omega
 have hz8:n - (n - 1)=1:=by omega
 clear hA hsrc s1 s2 s3 gF hlow hz1' hz2' hij hic hjc hiI
 go_wp2_with fail
 rw [<-HW2.out]
 go_ret
 exact⟨rfl,hend.out,zzJ.out⟩
theorem zj6 (l:List zi) (v:Int):∀k,k<=l.length->(∀j,j<k->(l.getD j default).var≠v)->yC l v k=(none,l.take k):=by
 intro k
 induction k with
 |zero=>intro _ _;simp [yC]
 |succ k ih=>
 intro hk h
 unfold yC
 rw [ih (by omega) (λj hj=>h j (by omega))]
 have e:decide ((l.getD k default).var=v)=false:=decide_eq_false (h k (by omega))
 rw [e]
 simp only [Option.isNone_none,Bool.and_false,Bool.false_eq_true,if_false]
 rw [kU (by omega) rfl]
theorem zq2 (l:List zi) (v:Int) (i:Nat) (hi:i<l.length) (h:∀j,j<i->(l.getD j default).var≠v) (hv:(l.getD i default).var=v):∀k,i<k->k<=l.length->yC l v k=(some (l.getD i default),l.take i++(l.take k).drop (i+1)):=by
 intro k hk
 induction k with
 |zero=>omega
 |succ k ih=>
 intro hkl
 unfold yC
 by_cases he:k=i
 ·subst he
  rw [zj6 l v k (by omega) h,decide_eq_true hv]
  simp only [Option.isNone_none,Bool.and_true,if_true]
  rw [List.drop_eq_nil_of_le (by rw [List.length_take];omega),List.append_nil]
 rw [ih (by omega) (by omega)]
 simp only [Option.isNone_some,Bool.false_and,Bool.false_eq_true,if_false]
 rw [kU (l:=l) (i:=k) (by omega) rfl,List.drop_append_of_le_length (by rw [List.length_take];omega),List.append_assoc]
theorem zvj (l:List zi) (v:Int) (h:∀j,j<l.length->(l.getD j default).var≠v):takeB l v=(none,l):=by unfold takeB;rw [zj6 l v _ (Nat.le_refl _) h,List.take_length]
theorem zsA (l:List zi) (v:Int) (i:Nat) (hi:i<l.length) (h:∀j,j<i->(l.getD j default).var≠v) (hv:(l.getD i default).var=v):takeB l v=(some (l.getD i default),l.take i++l.drop (i+1)):=by
 unfold takeB;rw [zq2 l v i hi h hv _ hi (Nat.le_refl _),List.take_length]
theorem zsB (i:Nat) (h:i<=1000000000):IntKind.i64.wrap ((i:Int)+1)=(i:Int)+1:=IntWalk.i64_in _ (by omega)
theorem zq3 {α:Type} {f:α->List Value} {size:Nat} (hf:∀x,(f x).length=size):∀(l:List α) (i:Nat),(zl f l).take (i*size)=zl f (l.take i):=by
 intro l
 induction l with
 |nil=>intro i;simp [zl]
 |cons x l ih=>
 intro i
 cases i with
 |zero=>simp [zl]
 |succ i=>
 have e:=ih i
 simp only [zl,List.flatMap_cons,List.take_succ_cons] at e ⊢
 rw [List.take_append,List.take_of_length_le (by rw [hf,Nat.add_mul];omega),hf,show(i+1)*size - size=i*size by rw [Nat.add_mul];omega,e]
theorem zq4 {α:Type} {f:α->List Value} {size:Nat} (hf:∀x,(f x).length=size):∀(l:List α) (i:Nat),(zl f l).drop (i*size)=zl f (l.drop i):=by
 intro l
 induction l with
 |nil=>intro i;simp [zl]
 |cons x l ih=>
 intro i
 cases i with
 |zero=>simp [zl]
 |succ i=>
 have e:=ih i
 simp only [zl,List.flatMap_cons,List.drop_succ_cons] at e ⊢
 rw [List.drop_append,List.drop_of_length_le (by rw [hf,Nat.add_mul];omega),hf,show(i+1)*size - size=i*size by rw [Nat.add_mul];omega,e]
 rfl
theorem zq5 (w:World) (x y v:Int) (g:Nat) (hg:w.cell? ⟨g,0,none⟩=some (.int .i64 v)):Calls Tryz.prog 140 #[.agg #[.int .i64 x, .int .i64 y], .pointer (some ⟨g,0,none⟩)] w λe w'=>e= .returned (.bool (x==v))/\Below w.heap.size w w':=by
 have HA:=qh ((Below.refl w.heap.size w).alloc (Nat.le_refl _) (.cells #[.int .i64 x, .int .i64 y] 136))
 have HX:=qh (yE w (.cells #[.int .i64 x, .int .i64 y] 136))
 replace hg:=zh HA.out _ _ hg
 go_enter Tryz.func140,Tryz.ntmps140
 go_upto_region 1 with fail
 generalize World.alloc w _=W at HA HX hg ⊢
 obtain⟨gi,hgi⟩:∃g,g=w.heap.size:=⟨_,rfl⟩
 rw [<-hgi] at HX ⊢
 clear hgi
 have c0:W.cell? ⟨gi,0,none⟩=some (.int .i64 x):=za HX.out 0
 go_wp2_with fail
 go_ret
 exact⟨by first|rfl|simp,HA.out⟩
theorem zsC (w:World) (bv:Value) (l:List zi) (h:zW w bv l) (hl:l.length<=1000000) (v:Int):
  Calls Tryz.prog 102 #[bv, .int .i64 v] w λe w'=>(∃sv,e= .returned (.tuple #[((takeB l v).1.getD default).val,sv, .bool (takeB l v).1.isSome])/\zW w' sv (takeB l v).2/\((takeB l v).1.isSome=true->w'.ownsRow w.heap.size 136 2 sv (takeB l v).2.length (zl zi.cells (takeB l v).2)))/\Below w.heap.size w w':=by
 obtain⟨ba,bc,rfl, -⟩:=ze.slice h
 have hB:=xZ w (.cells #[.int .i64 v] 3) (.cells #[.int .i64 0, .int .i64 0] 136)
 have HB:=qh hB
 have H1:=qh (xL w (.cells #[.int .i64 v] 3) (.cells #[.int .i64 0, .int .i64 0] 136))
 have H2:=qh (xE w (.cells #[.int .i64 v] 3) (.cells #[.int .i64 0, .int .i64 0] 136))
 have HL:=qh h
 obtain⟨n,hn⟩:∃n,n=l.length:=⟨_,rfl⟩
 have HN:=qh hn
 have hix:=λW (hW:Below w.heap.size w W) (hg:W.cell? ⟨w.heap.size,0,none⟩=some (.int .i64 v))=>zhb uH uH.stays W _ l (zW.below h hW) 140 #[] #[.pointer (some ⟨w.heap.size,0,none⟩)] (λj=>(l.getD j default).var==v) (λ_ _=>rfl)
  (λj hj W' cs hcl hq hW'=>by
   obtain rfl:cs=zi.cells _:=hq
   exact zq5 W' _ _ v w.heap.size (zh hW' _ _ hg))
 rw [<-hn] at hix ⊢
 have HIX:=qh hix
 clear h hB hn hix
 go_enter Tryz.func102,Tryz.ntmps102
 go_upto_region 1 with fail
 generalize World.alloc (World.alloc w _) _=W at HB H1 H2 ⊢
 obtain⟨gx,hgx⟩:∃gx,gx=w.heap.size:=⟨_,rfl⟩
 rw [<-hgx] at H1 H2 HIX ⊢
 have yV:=qh hgx
 clear hgx
 go_wp2_with fail
 have HW:Hid (Below w.heap.size w W):=HB.out
 refine(HIX.out W (by rw [yV.out];exact HB.out) (za H1.out 0)).mono ?_
 rintro e w2 (⟨i,hi,rfl,hp,hb⟩|⟨rfl,hp,hb⟩)
 ·have HB2:Hid (Below w.heap.size w w2):=HB.out.trans (hb.mono HB.out.size)
  have HG:Hid (w2.heap[gx+1]? =some (.cells #[.int .i64 0, .int .i64 0] 136)):=(hb.block (gx+1) (zq H2.out)).trans H2.out
  have jX:Hid (takeB l v=(some (l.getD i default),l.take i++l.drop (i+1))):=zsA l v i (by rw [<-HN.out];exact hi) (λj hj=>by have:=hp.2 j hj;simpa using this) (by have:=hp.1;simpa using this)
  clear hb hp HIX HB H1 H2 HW
  obtain⟨bb,bo,rfl,hbb,q0,q1⟩:=HL.out.part i (by rw [<-HN.out];exact hi)
  obtain⟨x0,hx0⟩:∃x,x=(l.getD i default).var:=⟨_,rfl⟩
  obtain⟨x1,hx1⟩:∃x,x=(l.getD i default).n:=⟨_,rfl⟩
  rw [<-hx0] at q0
  rw [<-hx1] at q1
  have HV:Hid ((l.getD i default).val= .agg #[.int .i64 x0, .int .i64 x1]):=by rw [hx0,hx1];rfl
  have CC:Hid (∀X,Below w.heap.size w X->X.cell? ⟨bb,bo+i*2,none⟩=some (.int .i64 x0)/\X.cell? ⟨bb,bo+i*2+1,none⟩=some (.int .i64 x1)):=λX hX=>⟨zh hX _ _ q0,zh hX _ _ q1⟩
  have zq6:Hid (∀X,Below w.heap.size w X->SrcOf X (.slice (some ⟨bb,bo,none⟩) n bc) n 2 (zl zi.cells l)):=λX hX=>by
   have:=SrcOf.of_slice (R:=uH) (by decide) jY (λ_ _ _ h=>h) (zW.below HL.out hX)
   rw [<-HN.out] at this;exact this
  have z6I:Hid ((zl zi.cells l).take (i*2)++(zl zi.cells l).drop (i*2+2)=zl zi.cells (l.take i++l.drop (i+1))):=by
   rw [Hid,kH,zq3 jY,show i*2+2=(i+1)*2 by omega,zq4 jY]
  have HLEN:Hid ((l.take i++l.drop (i+1)).length=n - 1):=by rw [Hid,List.length_append,List.length_take,List.length_drop, <-HN.out];omega
  have hiI:(i:Int)<(n:Int):=by omega
  have hn0:0<n:=by omega
  have hnl:n<=100000000:=by rw [HN.out];omega
  have hwr:=zsB i (by omega)
  clear q0 q1 hx0 hx1 hbb
  go_upto_region 4 with fail
  refine vJ (S:=λx=>Below w.heap.size w x) (HB2.out.drew) (λhH=> ?_)
  refine zk 0 CC.out ?_
  refine zk 1 CC.out ?_
  refine zk 2 CC.out ?_
  refine zk 3 CC.out ?_
  refine zk 4 CC.out ?_
  refine zk 6 CC.out ?_
  refine zk 7 CC.out ?_
  refine zk 8 CC.out ?_
  refine yw 5 rfl (λK hK=> ?_)
  go_simp
  refine(zha w2.drew _ n (zl zi.cells l) (zq6.out w2.drew hH) gI hnl).mono ?_
  rintro e hw5 ⟨⟨ca,cc,rfl,hrow⟩,hb⟩
  obtain⟨cg,cap',hce,hcg, -⟩:=zfb hrow hn0
  cases hce
  have HG5:Hid (hw5.heap[gx+1]? =some (.cells #[.int .i64 0, .int .i64 0] 136)):=(hb.block (gx+1) (zq (w:=w2) HG.out)).trans HG.out
  have z2L:=qh hrow
  have HCG:=qh (show w2.heap.size<=cg from(hrow.lt cg rfl).1)
  clear hrow hcg
  have zq7:Below w.heap.size w hw5:=zB hH hb
  refine hK.out _ _ zq7 (λ_=> ?_)
  clear hK K hb hH
  refine yw 9 rfl (λK hK=> ?_)
  go_simp
  with_reducible refine(zoF hw5 _ cg n cc i _ z2L.out gI hi hnl).mono ?_
  rintro e hw9 ⟨rfl,hrow,hs⟩
  rw [z6I.out] at hrow
  have zwG:=qh hrow
  have HGG:=qh (show gx+1<w2.heap.size from zq HG.out)
  have HG9:Hid (hw9.heap[gx+1]? =some (.cells #[.int .i64 0, .int .i64 0] 136)):=(hs.block (gx+1) (zq HG5.out) (by have:=HGG.out;have:=HCG.out;omega)).trans HG5.out
  have hb:=hs
  clear hrow
  have zvk:Below w.heap.size w hw9:=(zq7).trans (hs.below (zq7).size (λk (e:k=cg)=>by have:=HCG.out;have:=HB2.out.size;omega))
  refine hK.out _ _ zvk (λ_=> ?_)
  clear hK K hb zq7
  refine yw 10 rfl (λK hK=> ?_)
  go_simp
  have d2:hw9.cell? ⟨gx+1,0,none⟩=some (.int .i64 0):=za HG9.out 0
  have d3:hw9.cell? ⟨gx+1,1,none⟩=some (.int .i64 0):=za HG9.out 1
  have f0:hw9.frozen? ⟨gx+1,0,none⟩=false:=zw HG9.out 0
  have f1:hw9.frozen? ⟨gx+1,1,none⟩=false:=zw HG9.out 1
  go_simp
  have zwH:=((zvk).setCell (p:=⟨gx+1,0,none⟩) (by rw [yV.out];simp) (.int .i64 x0)).setCell (p:=⟨gx+1,1,none⟩) (by rw [yV.out];simp) (.int .i64 x1)
  clear d2 d3 f0 f1
  refine hK.out _ _ zwH (λ_=> ?_)
  clear hK K zvk
  refine zk 11 CC.out ?_
  refine zk 12 CC.out ?_
  refine xM ?_
  have hfin:=Since.setCell (p:=⟨gx+1,1,none⟩) (Since.setCell (F:=λk=>k=gx+1) (p:=⟨gx+1,0,none⟩) (Since.refl _ hw9) (.inl rfl) (.int .i64 x0)) (.inl rfl) (.int .i64 x1)
  have hset:=zu (zu HG9.out 0 (.int .i64 x0)) 1 (.int .i64 x1)
  simp only [List.setIfInBounds_toArray,List.set_cons_zero,List.set_cons_succ] at hset
  have zI:=qh hset
  have yL:=qh hfin
  have yt:=qh (zwH)
  clear hset hfin
  go_wp2_with fail
  refine bodyPost_ret (zas rfl _ _ (gx+1) 136 _ (0,0) _ rfl zI.out Tryz.underlying136 rfl zcq) rfl ?_
  rw [jX.out]
  have zwI:((hw9.setCell ⟨gx+1,0,none⟩ (.int .i64 x0)).setCell ⟨gx+1,1,none⟩ (.int .i64 x1)).ownsRow w2.heap.size 136 2 (.slice (some ⟨cg,0,none⟩) (n - 1) cc) (l.take i++l.drop (i+1)).length (zl zi.cells (l.take i++l.drop (i+1))):=by
   rw [HLEN.out]
   exact yL.out.row zwG.out (λk hk e=>by have h1:w2.heap.size<=k:=(zwG.out.lt k hk).1;have:=HGG.out;omega)
  exact⟨⟨_,by rw [Option.getD_some,HV.out];rfl,jE zwI,λ_=>xw zwI HB2.out.size⟩,yt.out⟩
 have HB2:Hid (Below w.heap.size w w2):=HB.out.trans (hb.mono HB.out.size)
 have HG:Hid (w2.heap[gx+1]? =some (.cells #[.int .i64 0, .int .i64 0] 136)):=(hb.block (gx+1) (zq H2.out)).trans H2.out
 have jX:Hid (takeB l v=(none,l)):=zvj l v (λj hj=>by have:=hp j (by rw [HN.out];exact hj);simpa using this)
 clear hb hp HIX HB H1 H2 HW
 have d2:w2.cell? ⟨gx+1,0,none⟩=some (.int .i64 0):=za HG.out 0
 have d3:w2.cell? ⟨gx+1,1,none⟩=some (.int .i64 0):=za HG.out 1
 have f0:w2.frozen? ⟨gx+1,0,none⟩=false:=zw HG.out 0
 have f1:w2.frozen? ⟨gx+1,1,none⟩=false:=zw HG.out 1
 have hset:=zu (zu HG.out 0 (.int .i64 0)) 1 (.int .i64 0)
 simp only [List.setIfInBounds_toArray,List.set_cons_zero,List.set_cons_succ] at hset
 have zI:=qh hset
 have yt:=qh ((HB2.out.setCell (p:=⟨gx+1,0,none⟩) (by rw [yV.out];simp) (.int .i64 0)).setCell (p:=⟨gx+1,1,none⟩) (by rw [yV.out];simp) (.int .i64 0))
 clear hset
 go_wp2_with fail
 refine bodyPost_ret (zas rfl _ _ (gx+1) 136 _ (0,0) _ rfl zI.out Tryz.underlying136 rfl zcq) rfl ?_
 rw [jX.out]
 refine⟨⟨.slice ba n bc,rfl, ?_,λe=>by cases e⟩,yt.out⟩
 have:=zW.below HL.out yt.out
 rw [<-HN.out] at this
 exact this
