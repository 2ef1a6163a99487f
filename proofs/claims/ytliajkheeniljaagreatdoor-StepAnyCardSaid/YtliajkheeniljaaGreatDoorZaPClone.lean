/- Copies of slices: the program's: the walks. One store taken out of a row of the call's own: slices.Delete: the walk. -/
import Derived.Deep.RegionLaw
import Derived.Test.YtliajkheeniljaaGreatDoorZaPSrc
import Derived.Test.YtliajkheeniljaaGreatDoorZaStepQ
import Derived.Test.YtliajkheeniljaaGreatDoorZaShort
set_option linter.all false
namespace Go.Proofs.YtliajkheeniljaaGreatDoor
open Go.RowKit
set_option maxRecDepth 100000
set_option maxHeartbeats 16000000
theorem zgU (w:World) (sv:Value) (n:Nat) (xs:List Value) (h:SrcOf w sv n 1 xs) (h1:∀u∈xs,u.oneCell'=true) (hl:n<=100000000):Calls Tryz.prog 80 #[sv] w fun e w'=>(∃ca cc,e= .returned (.slice ca n cc)/\w'.ownsRow w.heap.size 3 1 (.slice ca n cc) n xs)/\Below w.heap.size w w':=by
 obtain⟨sa,sc,rfl,h2,h3,h4⟩:=h
 cases sa with
 |none=>
  obtain rfl:=h3 rfl
  obtain rfl:xs= [] :=List.eq_nil_of_length_eq_zero (by simpa using h2)
  clear h1 h2 h3 h4
  have heq:∀w,(binOp .eql 28 (.slice none 0 sc) (.slice none 0 0)).run Tryz.prog w= .ok (.bool true) w:=fun w=>by
   have:=Lib.run_eql_slice_nil (P:=Tryz.prog) w 28 3 none 0 sc 0 0 Tryz.underlying28
   simpa using this
  go_enter Tryz.func80,Tryz.ntmps80
  go_wp2_with fail
  go_ret
  exact⟨⟨none,0,by first|rfl|simp,World.ownsRow_nil _ _ _ _⟩,Below.refl _ _⟩
 |some A=>
  have heq:∀w,(binOp .eql 28 (.slice (some A) n sc) (.slice none 0 0)).run Tryz.prog w= .ok (.bool false) w:=fun w=>by
   have:=Lib.run_eql_slice_nil (P:=Tryz.prog) w 28 3 (some A) n sc 0 0 Tryz.underlying28
   simpa using this
  have hrow:(w.alloc (.cells #[] 3)).ownsRow w.heap.size 3 1 (.slice (some ⟨w.heap.size,0,none⟩) 0 0) 0 [] :=vU (cs:= []) (yK w _) (Nat.le_refl _) rfl (by unfold maxLen;omega)
  have j5:=qh hrow
  have HS:Hid (SrcOf (w.alloc (.cells #[] 3)) (.slice (some A) n sc) n 1 xs):=SrcOf.below ⟨some A,sc,rfl,h2,h3,h4⟩ ((Below.refl w.heap.size w).alloc (Nat.le_refl _) _)
  have H1:=qh h1
  clear hrow h1 h2 h3 h4
  go_enter Tryz.func80,Tryz.ntmps80
  go_wp2_with(at_builtin;go_must(refine kQ _ rfl _ _ 28 rfl 3 (.int .i64 0) 1 8 Tryz.underlying28 qC rfl (by decide) w.heap.size (.slice (some ⟨w.heap.size,0,none⟩) 0 0) 0 [] rfl j5.out (.slice (some A) n sc) n xs rfl HS.out H1.out (by unfold maxLen;omega) (by omega) (by simp) ?_);intro ja jc X f1 f2 f3 f4 f5;have HX:=qh (row_zero f1);have HXB:Hid (Below w.heap.size w X):=(((Since.refl (fun k=>w.heap.size<=k) w).alloc (.cells #[] 3)).trans f4 (fun k hk=> .inl (by simp [Value.ownBlock] at hk;omega))).below (Nat.le_refl _) (fun k hk=>hk);clear f1 f2 f3 f4 f5)
  go_ret
  exact⟨⟨ja,jc,by first|rfl|simp,HX.out⟩,HXB.out⟩
theorem zeu (w:World) (sv:Value) (n:Nat) (xs:List Value) (h:SrcOf w sv n 2 xs) (h1:∀u∈xs,u.oneCell'=true) (hl:n<=100000000):Calls Tryz.prog 140 #[sv] w fun e w'=>(∃ca cc,e= .returned (.slice ca n cc)/\w'.ownsRow w.heap.size 50 2 (.slice ca n cc) n xs)/\Below w.heap.size w w':=by
 obtain⟨sa,sc,rfl,h2,h3,h4⟩:=h
 cases sa with
 |none=>
  obtain rfl:=h3 rfl
  obtain rfl:xs= [] :=List.eq_nil_of_length_eq_zero (by simpa using h2)
  clear h1 h2 h3 h4
  have heq:∀w,(binOp .eql 46 (.slice none 0 sc) (.slice none 0 0)).run Tryz.prog w= .ok (.bool true) w:=fun w=>by
   have:=Lib.run_eql_slice_nil (P:=Tryz.prog) w 46 50 none 0 sc 0 0 Tryz.underlying46
   simpa using this
  go_enter Tryz.func140,Tryz.ntmps140
  go_wp2_with fail
  go_ret
  exact⟨⟨none,0,by first|rfl|simp,World.ownsRow_nil _ _ _ _⟩,Below.refl _ _⟩
 |some A=>
  have heq:∀w,(binOp .eql 46 (.slice (some A) n sc) (.slice none 0 0)).run Tryz.prog w= .ok (.bool false) w:=fun w=>by
   have:=Lib.run_eql_slice_nil (P:=Tryz.prog) w 46 50 (some A) n sc 0 0 Tryz.underlying46
   simpa using this
  have hrow:(w.alloc (.cells #[] 50)).ownsRow w.heap.size 50 2 (.slice (some ⟨w.heap.size,0,none⟩) 0 0) 0 [] :=vU (cs:= []) (yK w _) (Nat.le_refl _) rfl (by unfold maxLen;omega)
  have j5:=qh hrow
  have HS:Hid (SrcOf (w.alloc (.cells #[] 50)) (.slice (some A) n sc) n 2 xs):=SrcOf.below ⟨some A,sc,rfl,h2,h3,h4⟩ ((Below.refl w.heap.size w).alloc (Nat.le_refl _) _)
  have H1:=qh h1
  clear hrow h1 h2 h3 h4
  go_enter Tryz.func140,Tryz.ntmps140
  go_wp2_with(at_builtin;go_must(refine kQ _ rfl _ _ 46 rfl 50 (.agg #[.int .i64 0, .int .i64 0]) 2 16 Tryz.underlying46 yM rfl (by decide) w.heap.size (.slice (some ⟨w.heap.size,0,none⟩) 0 0) 0 [] rfl j5.out (.slice (some A) n sc) n xs rfl HS.out H1.out (by unfold maxLen;omega) (by omega) (by simp) ?_);intro ja jc X f1 f2 f3 f4 f5;have HX:=qh (row_zero f1);have HXB:Hid (Below w.heap.size w X):=(((Since.refl (fun k=>w.heap.size<=k) w).alloc (.cells #[] 50)).trans f4 (fun k hk=> .inl (by simp [Value.ownBlock] at hk;omega))).below (Nat.le_refl _) (fun k hk=>hk);clear f1 f2 f3 f4 f5)
  go_ret
  exact⟨⟨ja,jc,by first|rfl|simp,HX.out⟩,HXB.out⟩
theorem zdZ (w:World) (sv:Value) (n:Nat) (xs:List Value) (h:SrcOf w sv n 6 xs) (h1:∀u∈xs,u.oneCell'=true) (hl:n<=100000000):Calls Tryz.prog 83 #[sv] w fun e w'=>(∃ca cc,e= .returned (.slice ca n cc)/\w'.ownsRow w.heap.size 48 6 (.slice ca n cc) n xs)/\Below w.heap.size w w':=by
 obtain⟨sa,sc,rfl,h2,h3,h4⟩:=h
 cases sa with
 |none=>
  obtain rfl:=h3 rfl
  obtain rfl:xs= [] :=List.eq_nil_of_length_eq_zero (by simpa using h2)
  clear h1 h2 h3 h4
  have heq:∀w,(binOp .eql 27 (.slice none 0 sc) (.slice none 0 0)).run Tryz.prog w= .ok (.bool true) w:=fun w=>by
   have:=Lib.run_eql_slice_nil (P:=Tryz.prog) w 27 48 none 0 sc 0 0 Tryz.underlying27
   simpa using this
  go_enter Tryz.func83,Tryz.ntmps83
  go_wp2_with fail
  go_ret
  exact⟨⟨none,0,by first|rfl|simp,World.ownsRow_nil _ _ _ _⟩,Below.refl _ _⟩
 |some A=>
  have heq:∀w,(binOp .eql 27 (.slice (some A) n sc) (.slice none 0 0)).run Tryz.prog w= .ok (.bool false) w:=fun w=>by
   have:=Lib.run_eql_slice_nil (P:=Tryz.prog) w 27 48 (some A) n sc 0 0 Tryz.underlying27
   simpa using this
  have hrow:(w.alloc (.cells #[] 48)).ownsRow w.heap.size 48 6 (.slice (some ⟨w.heap.size,0,none⟩) 0 0) 0 [] :=vU (cs:= []) (yK w _) (Nat.le_refl _) rfl (by unfold maxLen;omega)
  have j5:=qh hrow
  have HS:Hid (SrcOf (w.alloc (.cells #[] 48)) (.slice (some A) n sc) n 6 xs):=SrcOf.below ⟨some A,sc,rfl,h2,h3,h4⟩ ((Below.refl w.heap.size w).alloc (Nat.le_refl _) _)
  have H1:=qh h1
  clear hrow h1 h2 h3 h4
  go_enter Tryz.func83,Tryz.ntmps83
  go_wp2_with(at_builtin;go_must(refine kQ _ rfl _ _ 27 rfl 48 (.agg #[.int .i64 0, .int .i64 0, .int .i64 0, .int .i64 0, .int .i64 0, .slice none 0 0]) 6 64 Tryz.underlying27 wB rfl (by decide) w.heap.size (.slice (some ⟨w.heap.size,0,none⟩) 0 0) 0 [] rfl j5.out (.slice (some A) n sc) n xs rfl HS.out H1.out (by unfold maxLen;omega) (by omega) (by simp) ?_);intro ja jc X f1 f2 f3 f4 f5;have HX:=qh (row_zero f1);have HXB:Hid (Below w.heap.size w X):=(((Since.refl (fun k=>w.heap.size<=k) w).alloc (.cells #[] 48)).trans f4 (fun k hk=> .inl (by simp [Value.ownBlock] at hk;omega))).below (Nat.le_refl _) (fun k hk=>hk);clear f1 f2 f3 f4 f5)
  go_ret
  exact⟨⟨ja,jc,by first|rfl|simp,HX.out⟩,HXB.out⟩
def zcj:List Value->Nat->List Value->List Value
 |l,_, [] =>l
 |l,o,v::r=>zcj (l.set o v) (o+1) r
theorem zij:∀(vs l:List Value) (o:Nat),o+vs.length<=l.length->zcj l o vs=l.take o++vs++l.drop (o+vs.length):=by
 intro vs
 induction vs with
 |nil=>intro l o h;simp [zcj]
 |cons v r ih=>
  intro l o h
  simp only [List.length_cons] at h
  unfold zcj
  rw [ih _ _ (by simp;omega)]
  have e1:(l.set o v).take (o+1)=l.take o++ [v] :=by
   rw [List.take_set,List.take_add_one,List.getElem?_eq_getElem (by omega),List.set_append_right _ _ (by simp;omega)]
   simp [Nat.min_eq_left (show o<=l.length by omega)]
  have e2:(l.set o v).drop (o+1+r.length)=l.drop (o+(v::r).length):=by
   rw [List.drop_set_of_lt (by omega)]
   congr 1
   simp only [List.length_cons];omega
  rw [e1,e2]
  simp
theorem setCells_at {b:Nat} {e:TypeId} {f:Nat × Nat} :∀(vs:List Value) (w:World) (o:Nat) (l:List Value),w.heap[b]? =some (.cells l.toArray e f)->(w.setCells b o vs).heap[b]? =some (.cells (zcj l o vs).toArray e f):=by
 intro vs
 induction vs with
 |nil=>intro w o l h;exact h
 |cons v r ih=>
  intro w o l h
  have h2:=zx h o v
  rw [List.setIfInBounds_toArray] at h2
  exact ih _ _ _ h2
theorem zaL (b:Nat):∀(vs:List Value) (w:World) (o:Nat),Since (fun k=>k=b) w (w.setCells b o vs):=by
 intro vs
 induction vs with
 |nil=>intro w o;exact Since.refl _ _
 |cons v r ih=>
  intro w o
  exact(Since.setCell (F:=fun k=>k=b) (p:=⟨b,o,none⟩) (Since.refl _ w) (.inl rfl) v).trans (ih _ _) (fun _ h=> .inl h)
theorem zef (w:World) (ty:TypeId) (b o c:Nat) (hc:∀j,j<2->(w.cell? ⟨b,o+j,none⟩).isSome=true) (hf:∀j,j<2->w.frozen? ⟨b,o+j,none⟩=false):
  (Builtin.clear_ #[46] ty #[.slice (some ⟨b,o,none⟩) 1 c]).run Tryz.prog w= .ok (.tuple #[]) (w.setCells b o [.int .i64 0, .int .i64 0]):=by
 obtain⟨i0,hi,hz0,hz1,hz2⟩:=info_parts yM
 have hst:=run_storeCells_cells (P:=Tryz.prog) b o [.int .i64 0, .int .i64 0] 0 w (by simpa using hc) (by simpa using hf) (by intro v hv;simp at hv;rw [hv];rfl)
 simp only [Nat.add_zero] at hst
 have hz:(zeroValue 50).run Tryz.prog w= .ok (.agg #[.int .i64 0, .int .i64 0]) w:=by simp [zeroValue,typeInfo,hi,hz0]
 have e:(Builtin.zeroCells (Value.agg #[.int .i64 0, .int .i64 0]).cells 1).toList= [.int .i64 0, .int .i64 0] :=by simp [Builtin.zeroCells,Value.cells];rfl
 unfold Builtin.clear_
 simp [run_underlying Tryz.underlying46,hz,e,hst]
theorem zhm (w:World) (B g n cap i:Nat) (xs:List Value) (ho:w.ownsRow B 50 2 (.slice (some ⟨g,0,none⟩) n cap) n xs) (h1:∀u∈xs,u.oneCell'=true) (hi:i<n) (hn:n<=100000000):
  Calls Tryz.prog 139 #[.slice (some ⟨g,0,none⟩) n cap, .int .i64 i, .int .i64 ((i:Int)+1)] w fun e w'=>e= .returned (.slice (some ⟨g,0,none⟩) (n - 1) cap)/\w'.ownsRow B 50 2 (.slice (some ⟨g,0,none⟩) (n - 1) cap) (n - 1) (xs.take (i*2)++xs.drop (i*2+2))/\Since (fun k=>k=g) w w':=by
 obtain⟨hlen,hnone|⟨g',cap',cur,he,hBg,hg,hnc,hcm,hcs,htake⟩⟩:=ho
 ·cases hnone.1
 cases he
 unfold maxLen at hcm
 obtain⟨L,rfl⟩:∃L:List Value,cur=L.toArray:=⟨cur.toList,rfl⟩
 simp only [List.size_toArray] at hcs
 simp only [] at htake
 have hLx:∀j,j<n*2->L[j]? =xs[j]? :=fun j hj=>by rw [<-htake,List.getElem?_take_of_lt hj]
 obtain⟨post,hpost⟩:∃p,p=xs.drop (i*2+2):=⟨_,rfl⟩
 have hpl:post.length=(n - i - 1)*2:=by rw [hpost,List.length_drop,hlen];omega
 obtain⟨A,hA,hsrc⟩:∃A:Addr,(if cap=i+1 then some (⟨g,0,none⟩:Addr) else some ⟨g,(i+1)*2,none⟩)=some A/\Hid (∀t u,post[t]? =some u->w.drew.cell? (A.add t)=some u):=by
  by_cases h:cap=i+1
  ·refine⟨⟨g,0,none⟩,by simp [h],fun t u hu=> ?_⟩
   have h0:post.length=0:=by rw [hpl];omega
   rw [List.length_eq_zero_iff.1 h0] at hu
   simp at hu
  ·refine⟨⟨g,(i+1)*2,none⟩,by simp [h],fun t u hu=> ?_⟩
   have ht:t<post.length:=(List.getElem?_eq_some_iff.1 hu).1
   rw [Addr.add_lit]
   have e:=zh (w:=w.drew) hg ((i+1)*2+t)
   rw [e]
   rw [hpost,List.getElem?_drop] at hu
   rw [List.getElem?_toArray,hLx _ (by omega),show(i+1)*2+t=i*2+2+t by omega]
   exact hu
 have s2:Hid (∀u∈post,u.oneCell'=true):=fun u hu=>h1 u (by rw [hpost] at hu;exact List.mem_of_mem_drop hu)
 have s3:Hid (∀t,t<post.length->(w.drew.cell? ⟨g,0+i*2+t,none⟩).isSome=true/\w.drew.frozen? ⟨g,0+i*2+t,none⟩=false):=by
  intro t ht
  refine⟨?_,zK (w:=w.drew) hg _⟩
  have e:=zh (w:=w.drew) hg (0+i*2+t)
  rw [e,List.getElem?_toArray,hLx _ (by omega),List.getElem?_eq_getElem (by omega)];rfl
 obtain⟨W1,hW1⟩:∃W1,W1=w.drew.setCells g (0+i*2) post:=⟨_,rfl⟩
 obtain⟨M,hM⟩:∃M,M=zcj L (0+i*2) post:=⟨_,rfl⟩
 have hb1:W1.heap[g]? =some (.cells M.toArray 50 (0,0)):=by rw [hW1,hM];exact setCells_at _ _ _ _ hg
 have hl1:M=L.take (i*2)++post++L.drop (i*2+post.length):=by rw [hM,zij _ _ _ (by omega)];simp
 have hlen1:M.length=cap*2:=by rw [hl1];simp;omega
 have hcl:∀ty c,(Builtin.clear_ #[46] ty #[.slice (some ⟨g,(n - 1)*2,none⟩) 1 c]).run Tryz.prog W1= .ok (.tuple #[]) (W1.setCells g ((n - 1)*2) [.int .i64 0, .int .i64 0]):=fun ty c=>
  zef W1 ty g ((n - 1)*2) c (fun j hj=>by rw [zh hb1,List.getElem?_toArray,List.getElem?_eq_getElem (by omega)];rfl) (fun j hj=>zK hb1 _)
 obtain⟨W2,hW2⟩:∃W2,W2=W1.setCells g ((n - 1)*2) [.int .i64 0, .int .i64 0] :=⟨_,rfl⟩
 have hb2:W2.heap[g]? =some (.cells (zcj M ((n - 1)*2) [.int .i64 0, .int .i64 0]).toArray 50 (0,0)):=by rw [hW2];exact setCells_at _ _ _ _ hb1
 have hl2:zcj M ((n - 1)*2) [.int .i64 0, .int .i64 0] =M.take ((n - 1)*2)++ [.int .i64 0, .int .i64 0] ++M.drop ((n - 1)*2+2):=zij _ _ _ (by simp;omega)
 have hend:Hid (W2.ownsRow B 50 2 (.slice (some ⟨g,0,none⟩) (n - 1) cap) (n - 1) (xs.take (i*2)++post)):=by
  have e3:xs.take (i*2)=L.take (i*2):=by rw [<-htake,List.take_take];congr 1;omega
  have e4:(L.take (i*2)++post).length=(n - 1)*2:=by rw [List.length_append,List.length_take,hpl];omega
  have e5:M.take ((n - 1)*2)=xs.take (i*2)++post:=by rw [hl1,List.take_append_of_le_length (by omega),List.take_of_length_le (by omega),e3]
  refine⟨by rw [List.length_append,List.length_take,hpl,hlen];omega, .inr ⟨g,cap,_,rfl,hBg,hb2,by omega,by unfold maxLen;omega, ?_, ?_⟩⟩
  ·rw [hl2];simp;omega
  ·rw [hl2,List.append_assoc,List.take_append_of_le_length (by rw [List.length_take];omega),List.take_of_length_le (by rw [List.length_take];omega),e5]
 have zwj:Hid (Since (fun k=>k=g) w W2):=by
  rw [Hid,hW2,hW1]
  exact(((Since.refl _ w).drew).trans (zaL g _ _ _) (fun _ h=> .inl h)).trans (zaL g _ _ _) (fun _ h=> .inl h)
 rw [<-hpost]
 have hic:i<=cap:=by omega
 have hjc:i+1<=cap:=by omega
 have hiI:(i:Int)<=(n:Int):=by omega
 have hij:((i:Int)==(i:Int)+1)=false:=by rw [beq_eq_false_iff_ne];omega
 have gN:Hid (post.length=(n - i - 1)*2):=hpl
 have HW1:=qh hW1
 have HW2:=qh hW2
 clear hW1 hW2 hb1 hb2 hl1 hl2 hlen1 hM hpl hpost hLx htake hg hcs hlen
 go_enter Tryz.func139,Tryz.ntmps139
 obtain⟨i0,hi0,hz0,hz1,hz2⟩:=info_parts yM
 have hlow:i+(n - (i+1))=n - 1:=by omega
 have hz1':0<=(i:Int)+1:=by omega
 have hz2':(i:Int)+1<=(n:Int):=by omega
 have s1:Hid (post.length=(n - (i+1))*2):=by rw [Hid,gN.out];omega
 go_wp2_with fail
 go_region_law (refine step_append_room rfl (.tmp 22) (.tmp 25) 46 rfl 50 i0 2 Tryz.underlying46 hi0 hz1 g 0 i cap (by simp [Act.eval,Act.put]) A (n - (i+1)) (cap - (i+1)) post (by simp [Act.eval,Act.put]) s1.out hsrc.out s2.out (by omega) s3.out ?_;rw [<-HW1.out])
 have hz5:((n - 1:Nat):Int)<=(n:Int):=by omega
 have hz6:(n:Int)<=(cap:Int):=by omega
 have hz7:¬cap=n - 1:=by omega
 have hz8:n - (n - 1)=1:=by omega
 clear hA hsrc s1 s2 s3 gN hlow hz1' hz2' hij hic hjc hiI
 go_wp2_with fail
 rw [<-HW2.out]
 go_ret
 exact⟨rfl,hend.out,zwj.out⟩
end Go.Proofs.YtliajkheeniljaaGreatDoor
