/- Steps. -/
import Derived.Test.YtmijlmglnnbdjaaGreatDoorUtForm
import Derived.Test.YtmijlmglnnbdjaaGreatDoorUtPSrc
set_option linter.all false
namespace Go.Proofs.YtmijlmglnnbdjaaGreatDoor
open Go.RowKit
set_option maxRecDepth 100000
set_option maxHeartbeats 16000000
theorem zn2 (w:World) (sv:Value) (n:Nat) (xs:List Value) (h:SrcOf w sv n 1 xs) (j:∀u∈xs,u.oneCell'=true) (F:n<=100000000):Calls Tryz.prog 96 #[sv] w λe m=>(∃r cc,e= .returned (.slice r n cc)/\m.ownsRow w.heap.size 3 1 (.slice r n cc) n xs)/\Below w.heap.size w m:=by
 obtain⟨sa,sc,rfl,d,c,i⟩:=h;cases sa with
 |none=>
  obtain rfl:=c rfl;obtain rfl:xs= [] :=List.eq_nil_of_length_eq_zero (by simpa using d);clear j d c i
  have g:∀w,(binOp .eql 27 (.slice none 0 sc) (N7)).run Tryz.prog w= .ok (.bool true) w:=λw=>by
   have:=Lib.run_eql_slice_nil (P:=Tryz.prog) w 27 3 none 0 sc 0 0 Tryz.underlying27
   simpa using this
  go_enter Tryz.func96,Tryz.ntmps96
  go_wp2_with fail
  go_ret;exact⟨⟨none,0,by first|rfl|simp,World.ownsRow_nil _ _ _ _⟩,Below.refl _ _⟩
 |some A=>
 have g:∀w,(binOp .eql 27 (.slice (some A) n sc) (N7)).run Tryz.prog w= .ok (.bool false) w:=λw=>by
  have:=Lib.run_eql_slice_nil (P:=Tryz.prog) w 27 3 (some A) n sc 0 0 Tryz.underlying27
  simpa using this
 have b:(w.alloc (.cells #[] 3)).ownsRow w.heap.size 3 1 (.slice (some ⟨w.heap.size,0,none⟩) 0 0) 0 [] :=gB (cs:= []) (zQ w _) (Nat.le_refl _) rfl (by unfold maxLen;omega)
 have t:=qh b;have D:J2 (SrcOf (w.alloc (.cells #[] 3)) (.slice (some A) n sc) n 1 xs):=SrcOf.below ⟨some A,sc,rfl,d,c,i⟩ ((Below.refl w.heap.size w).alloc (Nat.le_refl _) _);have E:=qh j;clear b j d c i;go_enter Tryz.func96,Tryz.ntmps96
 go_wp2_with(at_builtin;go_must(refine zad _ rfl _ _ 27 rfl 3 (I4 0) 1 8 Tryz.underlying27 jG rfl (by decide) w.heap.size (.slice (some ⟨w.heap.size,0,none⟩) 0 0) 0 [] rfl t.o (.slice (some A) n sc) n xs rfl D.o E.o (by unfold maxLen;omega) (by omega) (by simp) ?_);intro x v X q B z p y;have C:=qh (row_zero q);have l:J2 (Below w.heap.size w X):=(((Since.refl (λk=>w.heap.size<=k) w).alloc (.cells #[] 3)).trans p (λk f=> .inl (by simp [Value.ownBlock] at f;omega))).below (Nat.le_refl _) (λk f=>f);clear q B z p y);go_ret;exact⟨⟨x,v,by first|rfl|simp,C.o⟩,l.o⟩
theorem zk9 (w:World) (sv:Value) (n:Nat) (xs:List Value) (h:SrcOf w sv n 2 xs) (j:∀u∈xs,u.oneCell'=true) (F:n<=100000000):Calls Tryz.prog 174 #[sv] w λe m=>(∃r cc,e= .returned (.slice r n cc)/\m.ownsRow w.heap.size 116 2 (.slice r n cc) n xs)/\Below w.heap.size w m:=by
 obtain⟨sa,sc,rfl,d,c,i⟩:=h;cases sa with
 |none=>
  obtain rfl:=c rfl;obtain rfl:xs= [] :=List.eq_nil_of_length_eq_zero (by simpa using d);clear j d c i
  have g:∀w,(binOp .eql 73 (.slice none 0 sc) (N7)).run Tryz.prog w= .ok (.bool true) w:=λw=>by
   have:=Lib.run_eql_slice_nil (P:=Tryz.prog) w 73 116 none 0 sc 0 0 Tryz.underlying73
   simpa using this
  go_enter Tryz.func174,Tryz.ntmps174
  go_wp2_with fail
  go_ret;exact⟨⟨none,0,by first|rfl|simp,World.ownsRow_nil _ _ _ _⟩,Below.refl _ _⟩
 |some A=>
 have g:∀w,(binOp .eql 73 (.slice (some A) n sc) (N7)).run Tryz.prog w= .ok (.bool false) w:=λw=>by
  have:=Lib.run_eql_slice_nil (P:=Tryz.prog) w 73 116 (some A) n sc 0 0 Tryz.underlying73
  simpa using this
 have b:(w.alloc (.cells #[] 116)).ownsRow w.heap.size 116 2 (.slice (some ⟨w.heap.size,0,none⟩) 0 0) 0 [] :=gB (cs:= []) (zQ w _) (Nat.le_refl _) rfl (by unfold maxLen;omega)
 have t:=qh b;have D:J2 (SrcOf (w.alloc (.cells #[] 116)) (.slice (some A) n sc) n 2 xs):=SrcOf.below ⟨some A,sc,rfl,d,c,i⟩ ((Below.refl w.heap.size w).alloc (Nat.le_refl _) _);have E:=qh j;clear b j d c i;go_enter Tryz.func174,Tryz.ntmps174
 go_wp2_with(at_builtin;go_must(refine zad _ rfl _ _ 73 rfl 116 (.agg #[I4 0,I4 0]) 2 16 Tryz.underlying73 xQ rfl (by decide) w.heap.size (.slice (some ⟨w.heap.size,0,none⟩) 0 0) 0 [] rfl t.o (.slice (some A) n sc) n xs rfl D.o E.o (by unfold maxLen;omega) (by omega) (by simp) ?_);intro x v X q B z p y;have C:=qh (row_zero q);have l:J2 (Below w.heap.size w X):=(((Since.refl (λk=>w.heap.size<=k) w).alloc (.cells #[] 116)).trans p (λk f=> .inl (by simp [Value.ownBlock] at f;omega))).below (Nat.le_refl _) (λk f=>f);clear q B z p y);go_ret;exact⟨⟨x,v,by first|rfl|simp,C.o⟩,l.o⟩
theorem zjE (w:World) (sv:Value) (n:Nat) (xs:List Value) (h:SrcOf w sv n 6 xs) (j:∀u∈xs,u.oneCell'=true) (F:n<=100000000):Calls Tryz.prog 99 #[sv] w λe m=>(∃r cc,e= .returned (.slice r n cc)/\m.ownsRow w.heap.size 75 6 (.slice r n cc) n xs)/\Below w.heap.size w m:=by
 obtain⟨sa,sc,rfl,d,c,i⟩:=h;cases sa with
 |none=>
  obtain rfl:=c rfl;obtain rfl:xs= [] :=List.eq_nil_of_length_eq_zero (by simpa using d);clear j d c i
  have g:∀w,(binOp .eql 59 (.slice none 0 sc) (N7)).run Tryz.prog w= .ok (.bool true) w:=λw=>by
   have:=Lib.run_eql_slice_nil (P:=Tryz.prog) w 59 75 none 0 sc 0 0 Tryz.underlying59
   simpa using this
  go_enter Tryz.func99,Tryz.ntmps99
  go_wp2_with fail
  go_ret;exact⟨⟨none,0,by first|rfl|simp,World.ownsRow_nil _ _ _ _⟩,Below.refl _ _⟩
 |some A=>
 have g:∀w,(binOp .eql 59 (.slice (some A) n sc) (N7)).run Tryz.prog w= .ok (.bool false) w:=λw=>by
  have:=Lib.run_eql_slice_nil (P:=Tryz.prog) w 59 75 (some A) n sc 0 0 Tryz.underlying59
  simpa using this
 have b:(w.alloc (.cells #[] 75)).ownsRow w.heap.size 75 6 (.slice (some ⟨w.heap.size,0,none⟩) 0 0) 0 [] :=gB (cs:= []) (zQ w _) (Nat.le_refl _) rfl (by unfold maxLen;omega)
 have t:=qh b;have D:J2 (SrcOf (w.alloc (.cells #[] 75)) (.slice (some A) n sc) n 6 xs):=SrcOf.below ⟨some A,sc,rfl,d,c,i⟩ ((Below.refl w.heap.size w).alloc (Nat.le_refl _) _);have E:=qh j;clear b j d c i;go_enter Tryz.func99,Tryz.ntmps99
 go_wp2_with(at_builtin;go_must(refine zad _ rfl _ _ 59 rfl 75 (.agg #[I4 0,I4 0,I4 0,I4 0,I4 0,N7]) 6 64 Tryz.underlying59 zaF rfl (by decide) w.heap.size (.slice (some ⟨w.heap.size,0,none⟩) 0 0) 0 [] rfl t.o (.slice (some A) n sc) n xs rfl D.o E.o (by unfold maxLen;omega) (by omega) (by simp) ?_);intro x v X q B z p y;have C:=qh (row_zero q);have l:J2 (Below w.heap.size w X):=(((Since.refl (λk=>w.heap.size<=k) w).alloc (.cells #[] 75)).trans p (λk f=> .inl (by simp [Value.ownBlock] at f;omega))).below (Nat.le_refl _) (λk f=>f);clear q B z p y);go_ret;exact⟨⟨x,v,by first|rfl|simp,C.o⟩,l.o⟩
def zg8:List Value->Nat->List Value->List Value
 |l,_, [] =>l
 |l,o,v::r=>zg8 (l.set o v) (o+1) r
theorem zpB:∀(b l:List Value) (o:Nat),o+b.length<=l.length->zg8 l o b=l.take o++b++l.drop (o+b.length):=by
 intro b;induction b with
 |nil=>intro l o h;simp [zg8]
 |cons v r ih=>
 intro l o h;simp only [List.length_cons] at h;unfold zg8;rw [ih _ _ (by simp;omega)]
 have d:(l.set o v).take (o+1)=l.take o++ [v] :=by
  rw [List.take_set,List.take_add_one,List.getElem?_eq_getElem (by omega),List.set_append_right _ _ (by simp;omega)]
  simp [Nat.min_eq_left (show o<=l.length by omega)]
 have c:(l.set o v).drop (o+1+r.length)=l.drop (o+(v::r).length):=by
  rw [List.drop_set_of_lt (by omega)];congr 1
  simp only [List.length_cons];omega
 rw [d,c];simp
theorem setCells_at {b:Nat} {e:TypeId} {f:Nat × Nat} :∀(c:List Value) (w:World) (o:Nat) (l:List Value),w.heap[b]? =some (.cells l.toArray e f)->(w.setCells b o c).heap[b]? =some (.cells (zg8 l o c).toArray e f):=by
 intro c;induction c with
 |nil=>intro w o l h;exact h
 |cons v r ih=>
 intro w o l h;have d:=zu h o v;rw [List.setIfInBounds_toArray] at d;exact ih _ _ _ d
theorem zeE (b:Nat):∀(c:List Value) (w:World) (o:Nat),Since (λk=>k=b) w (w.setCells b o c):=by
 intro c;induction c with
 |nil=>intro w o;exact Since.refl _ _
 |cons v r ih=>
 intro w o;exact(Since.setCell (F:=λk=>k=b) (p:=⟨b,o,none⟩) (Since.refl _ w) (.inl rfl) v).trans (ih _ _) (λ_ h=> .inl h)
theorem zjK (w:World) (h:TypeId) (b o c:Nat) (p:∀j,j<2->(w.cell? ⟨b,o+j,none⟩).isSome=true) (n:∀j,j<2->w.frozen? ⟨b,o+j,none⟩=false):
  (Builtin.clear_ #[73] h #[.slice (some ⟨b,o,none⟩) 1 c]).run Tryz.prog w= .ok (.tuple #[]) (w.setCells b o [I4 0,I4 0]):=by
 obtain⟨q,m,f,k,i⟩:=info_parts xQ;have d:=run_storeCells_cells (P:=Tryz.prog) b o [I4 0,I4 0] 0 w (by simpa using p) (by simpa using n) (by intro v g;simp at g;rw [g];rfl)
 simp only [Nat.add_zero] at d;have l:(zeroValue 116).run Tryz.prog w= .ok (.agg #[I4 0,I4 0]) w:=by simp [zeroValue,typeInfo,m,f]
 have e:(Builtin.zeroCells (Value.agg #[I4 0,I4 0]).cells 1).toList= [I4 0,I4 0] :=by simp [Builtin.zeroCells,Value.cells];rfl
 unfold Builtin.clear_;simp [run_underlying Tryz.underlying73,l,e,d]
theorem zoC (w:World) (B g n d i:Nat) (xs:List Value) (ho:w.ownsRow B 116 2 (.slice (some ⟨g,0,none⟩) n d) n xs) (h1:∀u∈xs,u.oneCell'=true) (hi:i<n) (hn:n<=100000000):
  Calls Tryz.prog 173 #[.slice (some ⟨g,0,none⟩) n d,I4 i,I4 ((i:Int)+1)] w λe w'=>e= .returned (.slice (some ⟨g,0,none⟩) (n - 1) d)/\w'.ownsRow B 116 2 (.slice (some ⟨g,0,none⟩) (n - 1) d) (n - 1) (xs.take (i*2)++xs.drop (i*2+2))/\Since (λk=>k=g) w w':=by
 obtain⟨p,z|⟨g',cap',R,he,hBg,J,hnc,a,O,l⟩⟩:=ho
 ·cases z.1
 cases he
 unfold maxLen at a;obtain⟨L,rfl⟩:∃L:List Value,R=L.toArray:=⟨R.toList,rfl⟩;simp only [List.size_toArray] at O;simp only [] at l;have F:∀j,j<n*2->L[j]? =xs[j]? :=λj X=>by rw [<-l,List.getElem?_take_of_lt X]
 obtain⟨b,f⟩:=qxE (xs.drop (i*2+2));have m:b.length=(n - i - 1)*2:=by rw [f,List.length_drop,p];omega
 obtain⟨A,hA,y⟩:∃A:Addr,(if d=i+1 then some (⟨g,0,none⟩:Addr) else some ⟨g,(i+1)*2,none⟩)=some A/\J2 (∀t u,b[t]? =some u->w.drew.cell? (A.add t)=some u):=by
  by_cases h:d=i+1
  ·refine⟨⟨g,0,none⟩,by simp [h],λt u q=> ?_⟩
   have h0:b.length=0:=by rw [m];omega
   rw [List.length_eq_zero_iff.1 h0] at q;simp at q
  refine⟨⟨g,(i+1)*2,none⟩,by simp [h],λt u q=> ?_⟩
  have ht:t<b.length:=(List.getElem?_eq_some_iff.1 q).1;rw [Addr.add_lit];have e:=ze (w:=w.drew) J ((i+1)*2+t);rw [e];rw [f,List.getElem?_drop] at q;rw [List.getElem?_toArray,F _ (by omega),show(i+1)*2+t=i*2+2+t by omega];exact q
 have s2:J2 (∀u∈b,u.oneCell'=true):=λu q=>h1 u (by rw [f] at q;exact List.mem_of_mem_drop q)
 have s3:J2 (∀t,t<b.length->(w.drew.cell? ⟨g,0+i*2+t,none⟩).isSome=true/\w.drew.frozen? ⟨g,0+i*2+t,none⟩=false):=by
  intro t ht;refine⟨?_,zH (w:=w.drew) J _⟩
  have e:=ze (w:=w.drew) J (0+i*2+t);rw [e,List.getElem?_toArray,F _ (by omega),List.getElem?_eq_getElem (by omega)];rfl
 obtain⟨S,x⟩:=qxE (w.drew.setCells g (0+i*2) b);obtain⟨M,s⟩:=qxE (zg8 L (0+i*2) b);have r:S.heap[g]? =some (.cells M.toArray 116 (0,0)):=by rw [x,s];exact setCells_at _ _ _ _ J
 have E:M=L.take (i*2)++b++L.drop (i*2+b.length):=by rw [s,zpB _ _ _ (by omega)];simp
 have C:M.length=d*2:=by rw [E];simp;omega
 have hcl:∀U c,(Builtin.clear_ #[73] U #[.slice (some ⟨g,(n - 1)*2,none⟩) 1 c]).run Tryz.prog S= .ok (.tuple #[]) (S.setCells g ((n - 1)*2) [I4 0,I4 0]):=λU c=>
  zjK S U g ((n - 1)*2) c (λj X=>by rw [ze r,List.getElem?_toArray,List.getElem?_eq_getElem (by omega)];rfl) (λj X=>zH r _)
 obtain⟨W2,v⟩:=qxE (S.setCells g ((n - 1)*2) [I4 0,I4 0] );have P:W2.heap[g]? =some (.cells (zg8 M ((n - 1)*2) [I4 0,I4 0]).toArray 116 (0,0)):=by rw [v];exact setCells_at _ _ _ _ r
 have D:zg8 M ((n - 1)*2) [I4 0,I4 0] =M.take ((n - 1)*2)++ [I4 0,I4 0] ++M.drop ((n - 1)*2+2):=zpB _ _ _ (by simp;omega)
 have N:J2 (W2.ownsRow B 116 2 (.slice (some ⟨g,0,none⟩) (n - 1) d) (n - 1) (xs.take (i*2)++b)):=by
  have e3:xs.take (i*2)=L.take (i*2):=by rw [<-l,List.take_take];congr 1;omega
  have e4:(L.take (i*2)++b).length=(n - 1)*2:=by rw [List.length_append,List.length_take,m];omega
  have e5:M.take ((n - 1)*2)=xs.take (i*2)++b:=by rw [E,List.take_append_of_le_length (by omega),List.take_of_length_le (by omega),e3]
  refine⟨by rw [List.length_append,List.length_take,m,p];omega, .inr ⟨g,d,_,rfl,hBg,P,by omega,by unfold maxLen;omega, ?_, ?_⟩⟩
  ·rw [D];simp;omega
  rw [D,List.append_assoc,List.take_append_of_le_length (by rw [List.length_take];omega),List.take_of_length_le (by rw [List.length_take];omega),e5]
 have T:J2 (Since (λk=>k=g) w W2):=by
  rw [J2,v,x];exact(((Since.refl _ w).drew).trans (zeE g _ _ _) (λ_ h=> .inl h)).trans (zeE g _ _ _) (λ_ h=> .inl h)
 rw [<-f];have Z:i<=d:=by omega
 have W:i+1<=d:=by omega
 have K:(i:Int)<=(n:Int):=by omega
 have Y:((i:Int)==(i:Int)+1)=false:=by rw [beq_eq_false_iff_ne];omega
 have kP:J2 (b.length=(n - i - 1)*2):=m;have HW1:=qh x;have HW2:=qh v;clear x v r P E D C s m f F l J O p;go_enter Tryz.func173,Tryz.ntmps173
 obtain⟨i0,Q,hz0,V,hz2⟩:=info_parts xQ;have I:i+(n - (i+1))=n - 1:=by omega
 have H:0<=(i:Int)+1:=by omega
 have G:(i:Int)+1<=(n:Int):=by omega
 have s1:J2 (b.length=(n - (i+1))*2):=by rw [J2,kP.o];omega
 go_wp2_with fail
 go_region_law (refine step_append_room rfl (.tmp 22) (.tmp 25) 73 rfl 116 i0 2 Tryz.underlying73 Q V g 0 i d (by simp [Act.eval,Act.put]) A (n - (i+1)) (d - (i+1)) b (by simp [Act.eval,Act.put]) s1.o y.o s2.o (by omega) s3.o ?_;rw [<-HW1.o]);have hz5:((n - 1:Nat):Int)<=(n:Int):=by omega
 have hz6:(n:Int)<=(d:Int):=by omega
 have hz7:¬d=n - 1:=by omega
 have hz8:n - (n - 1)=1:=by omega
 clear hA y s1 s2 s3 kP I H G Y Z W K;go_wp2_with fail
 rw [<-HW2.o];go_ret;exact⟨rfl,N.o,T.o⟩
theorem zln (l:List zq) (v:Int):∀k,k<=l.length->(∀j,j<k->(l.getD j default).var≠v)->yY l v k=(none,l.take k):=by
 intro k;induction k with
 |zero=>intro _ _;simp [yY]
 |succ k ih=>
 intro b h;unfold yY;rw [ih (by omega) (λj c=>h j (by omega))];have e:decide ((l.getD k default).var=v)=false:=decide_eq_false (h k (by omega));rw [e];simp only [Option.isNone_none,Bool.and_false,Bool.false_eq_true,if_false];rw [uR (by omega) rfl]
theorem zr4 (l:List zq) (v:Int) (i:Nat) (f:i<l.length) (h:∀j,j<i->(l.getD j default).var≠v) (b:(l.getD i default).var=v):∀k,i<k->k<=l.length->yY l v k=(some (l.getD i default),l.take i++(l.take k).drop (i+1)):=by
 intro k d;induction k with
 |zero=>omega
 |succ k ih=>
 intro c;unfold yY;by_cases he:k=i
 ·subst he;rw [zln l v k (by omega) h,decide_eq_true b];simp only [Option.isNone_none,Bool.and_true,if_true];rw [List.drop_eq_nil_of_le (by rw [List.length_take];omega),List.append_nil]
 rw [ih (by omega) (by omega)];simp only [Option.isNone_some,Bool.false_and,Bool.false_eq_true,if_false];rw [uR (l:=l) (i:=k) (by omega) rfl,List.drop_append_of_le_length (by rw [List.length_take];omega),List.append_assoc]
theorem zya (l:List zq) (v:Int) (h:∀j,j<l.length->(l.getD j default).var≠v):takeB l v=(none,l):=by unfold takeB;rw [zln l v _ (Nat.le_refl _) h,List.take_length]
theorem zuN (l:List zq) (v:Int) (i:Nat) (b:i<l.length) (h:∀j,j<i->(l.getD j default).var≠v) (c:(l.getD i default).var=v):takeB l v=(some (l.getD i default),l.take i++l.drop (i+1)):=by
 unfold takeB;rw [zr4 l v i b h c _ b (Nat.le_refl _),List.take_length]
theorem zuO (i:Nat) (h:i<=1000000000):IntKind.i64.wrap ((i:Int)+1)=(i:Int)+1:=IntWalk.i64_in _ (by omega)
theorem zr5 {α:Type} {f:α->List Value} {size:Nat} (b:∀x,(f x).length=size):∀(l:List α) (i:Nat),(zx f l).take (i*size)=zx f (l.take i):=by
 intro l;induction l with
 |nil=>intro i;simp [zx]
 |cons x l ih=>
 intro i;cases i with
 |zero=>simp [zx]
 |succ i=>
 have e:=ih i;simp only [zx,List.flatMap_cons,List.take_succ_cons] at e ⊢;rw [List.take_append,List.take_of_length_le (by rw [b,Nat.add_mul];omega),b,show(i+1)*size - size=i*size by rw [Nat.add_mul];omega,e]
theorem zr6 {α:Type} {f:α->List Value} {size:Nat} (b:∀x,(f x).length=size):∀(l:List α) (i:Nat),(zx f l).drop (i*size)=zx f (l.drop i):=by
 intro l;induction l with
 |nil=>intro i;simp [zx]
 |cons x l ih=>
 intro i;cases i with
 |zero=>simp [zx]
 |succ i=>
 have e:=ih i;simp only [zx,List.flatMap_cons,List.drop_succ_cons] at e ⊢;rw [List.drop_append,List.drop_of_length_le (by rw [b,Nat.add_mul];omega),b,show(i+1)*size - size=i*size by rw [Nat.add_mul];omega,e]
 rfl
theorem zr7 (w:World) (x y v:Int) (g:Nat) (c:w.cell? ⟨g,0,none⟩=some (I4 v)):Calls Tryz.prog 172 #[.agg #[I4 x,I4 y], .pointer (some ⟨g,0,none⟩)] w λe h=>e= .returned (.bool (x==v))/\Below w.heap.size w h:=by
 have f:=qh ((Below.refl w.heap.size w).alloc (Nat.le_refl _) (.cells #[I4 x,I4 y] 116));have d:=qh (zQ w (.cells #[I4 x,I4 y] 116));replace c:=zl f.o _ _ c;go_enter Tryz.func172,Tryz.ntmps172
 go_upto_region 1 with fail
 generalize World.alloc w _=W at f d c ⊢;obtain⟨i,b⟩:=qxE w.heap.size;rw [<-b] at d ⊢;clear b;have j:W.cell? ⟨i,0,none⟩=some (I4 x):=ze d.o 0;go_wp2_with fail
 go_ret;exact⟨by first|rfl|simp,f.o⟩
theorem ztf (w:World) (bv:Value) (l:List zq) (h:zX w bv l) (hl:l.length<=1000000) (v:Int):
  Calls Tryz.prog 131 #[bv,I4 v] w λe w'=>(∃sv,e= .returned (.tuple #[((takeB l v).1.getD default).val,sv, .bool (takeB l v).1.isSome])/\zX w' sv (takeB l v).2/\((takeB l v).1.isSome=true->w'.ownsRow w.heap.size 116 2 sv (takeB l v).2.length (zx zq.cells (takeB l v).2)))/\Below w.heap.size w w':=by
 obtain⟨ba,bc,rfl, -⟩:=zh.slice h;have hB:=xK w (.cells #[I4 v] 3) (.cells #[I4 0,I4 0] 116);have A:=qh hB;have H1:=qh (xA w (.cells #[I4 v] 3) (.cells #[I4 0,I4 0] 116));have C:=qh (xq w (.cells #[I4 v] 3) (.cells #[I4 0,I4 0] 116));have HL:=qh h;obtain⟨n,hn⟩:=qxE l.length;have L:=qh hn
 have I:=λW (hW:Below w.heap.size w W) (hg:W.cell? ⟨w.heap.size,0,none⟩=some (I4 v))=>zkx zaK zaK.stays W _ l (zX.below h hW) 172 #[] #[.pointer (some ⟨w.heap.size,0,none⟩)] (λj=>(l.getD j default).var==v) (λ_ _=>rfl)
  (λj hj W' cs hcl hq hW'=>by
   obtain rfl:cs=zq.cells _:=hq;exact zr7 W' _ _ v w.heap.size (zl hW' _ _ hg))
 rw [<-hn] at I ⊢;have y:=qh I;clear h hB hn I;go_enter Tryz.func131,Tryz.ntmps131
 go_upto_region 1 with fail
 generalize World.alloc (World.alloc w _) _=W at A H1 C ⊢;obtain⟨b,J⟩:=qxE w.heap.size;rw [<-J] at H1 C y ⊢;have V:=qh J;clear J;go_wp2_with fail
 have HW:J2 (Below w.heap.size w W):=A.o;refine(y.o W (by rw [V.o];exact A.o) (ze H1.o 0)).mono ?_;rintro e g (⟨i,hi,rfl,O,m⟩|⟨rfl,O,m⟩)
 ·have r:J2 (Below w.heap.size w g):=A.o.trans (m.mono A.o.size);have z:J2 (g.heap[b+1]? =some (.cells #[I4 0,I4 0] 116)):=(m.block (b+1) (zA C.o)).trans C.o;have gF:J2 (takeB l v=(some (l.getD i default),l.take i++l.drop (i+1))):=zuN l v i (by rw [<-L.o];exact hi) (λj hj=>by have:=O.2 j hj;simpa using this) (by have:=O.1;simpa using this)
  clear m O y A H1 C HW;obtain⟨bb,bo,rfl,hbb,q0,q1⟩:=HL.o.part i (by rw [<-L.o];exact hi);obtain⟨N,G⟩:=qxE ((l.getD i default).var);obtain⟨M,E⟩:=qxE ((l.getD i default).n);rw [<-G] at q0;rw [<-E] at q1;have HV:J2 ((l.getD i default).val= .agg #[I4 N,I4 M]):=by rw [G,E];rfl
  have t:J2 (∀X,Below w.heap.size w X->K3 X bb (bo+i*2) (I4 N)/\K3 X bb (bo+i*2+1) (I4 M)):=λX hX=>⟨zl hX _ _ q0,zl hX _ _ q1⟩
  have zr8:J2 (∀X,Below w.heap.size w X->SrcOf X (.slice (some ⟨bb,bo,none⟩) n bc) n 2 (zx zq.cells l)):=λX hX=>by
   have:=SrcOf.of_slice (R:=zaK) (by decide) gT (λ_ _ _ h=>h) (zX.below HL.o hX)
   rw [<-L.o] at this;exact this
  have zBf:J2 ((zx zq.cells l).take (i*2)++(zx zq.cells l).drop (i*2+2)=zx zq.cells (l.take i++l.drop (i+1))):=by
   rw [J2,kS,zr5 gT,show i*2+2=(i+1)*2 by omega,zr6 gT]
  have Q:J2 ((l.take i++l.drop (i+1)).length=n - 1):=by rw [J2,List.length_append,List.length_take,List.length_drop, <-L.o];omega
  have hiI:(i:Int)<(n:Int):=by omega
  have hn0:0<n:=by omega
  have Y:n<=100000000:=by rw [L.o];omega
  have hwr:=zuO i (by omega);clear q0 q1 G E hbb;go_upto_region 4 with fail
  refine qz (S:=λx=>Below w.heap.size w x) (r.o.drew) (λhH=> ?_)
  refine zi 0 t.o ?_
  refine zi 1 t.o ?_
  refine zi 2 t.o ?_
  refine zi 3 t.o ?_
  refine zi 4 t.o ?_
  refine zi 6 t.o ?_
  refine zi 7 t.o ?_
  refine zi 8 t.o ?_
  refine yA 5 rfl (λK hK=> ?_)
  go_simp
  refine(zk9 g.drew _ n (zx zq.cells l) (zr8.o g.drew hH) zac Y).mono ?_
  rintro e H ⟨⟨ca,cc,rfl,c⟩,m⟩;obtain⟨Z,cap',hce,hcg, -⟩:=gW c hn0;cases hce
  have s:J2 (H.heap[b+1]? =some (.cells #[I4 0,I4 0] 116)):=(m.block (b+1) (zA (w:=g) z.o)).trans z.o;have z7p:=qh c;have HCG:=qh (show g.heap.size<=Z from(c.lt Z rfl).1);clear c hcg;have u:Below w.heap.size w H:=zy hH m;refine hK.out _ _ u (λ_=> ?_)
  clear hK K m hH;refine yA 9 rfl (λK hK=> ?_)
  go_simp
  with_reducible refine(zoC H _ Z n cc i _ z7p.o zac hi Y).mono ?_
  rintro e f ⟨rfl,c,hs⟩;rw [zBf.o] at c;have U:=qh c;have a:=qh (show b+1<g.heap.size from zA z.o);have q:J2 (f.heap[b+1]? =some (.cells #[I4 0,I4 0] 116)):=(hs.block (b+1) (zA s.o) (by have:=a.o;have:=HCG.o;omega)).trans s.o
  have m:=hs;clear c;have D:Below w.heap.size w f:=(u).trans (hs.below (u).size (λk (e:k=Z)=>by have:=HCG.o;have:=r.o.size;omega))
  refine hK.out _ _ D (λ_=> ?_)
  clear hK K m u;refine yA 10 rfl (λK hK=> ?_)
  go_simp
  have d2:f.cell? ⟨b+1,0,none⟩=some (I4 0):=ze q.o 0;have d3:f.cell? ⟨b+1,1,none⟩=some (I4 0):=ze q.o 1;have f0:f.frozen? ⟨b+1,0,none⟩=false:=zH q.o 0;have f1:f.frozen? ⟨b+1,1,none⟩=false:=zH q.o 1;go_simp
  have T:=((D).setCell (p:=⟨b+1,0,none⟩) (by rw [V.o];simp) (I4 N)).setCell (p:=⟨b+1,1,none⟩) (by rw [V.o];simp) (I4 M)
  clear d2 d3 f0 f1;refine hK.out _ _ T (λ_=> ?_)
  clear hK K D;refine zi 11 t.o ?_
  refine zi 12 t.o ?_
  refine xC ?_
  have B:=Since.setCell (p:=⟨b+1,1,none⟩) (Since.setCell (F:=λk=>k=b+1) (p:=⟨b+1,0,none⟩) (Since.refl _ f) (.inl rfl) (I4 N)) (.inl rfl) (I4 M);have d:=zu (zu q.o 0 (I4 N)) 1 (I4 M);simp only [List.setIfInBounds_toArray,List.set_cons_zero,List.set_cons_succ] at d;have zL:=qh d;have yV:=qh B;have yG:=qh (T);clear d B;go_wp2_with fail
  refine bodyPost_ret (zcz rfl _ _ (b+1) 116 _ (0,0) _ rfl zL.o Tryz.underlying116 rfl zf3) rfl ?_
  rw [gF.o]
  have P:((f.setCell ⟨b+1,0,none⟩ (I4 N)).setCell ⟨b+1,1,none⟩ (I4 M)).ownsRow g.heap.size 116 2 (.slice (some ⟨Z,0,none⟩) (n - 1) cc) (l.take i++l.drop (i+1)).length (zx zq.cells (l.take i++l.drop (i+1))):=by
   rw [Q.o];exact yV.o.row U.o (λk hk e=>by have h1:g.heap.size<=k:=(U.o.lt k hk).1;have:=a.o;omega)
  exact⟨⟨_,by rw [Option.getD_some,HV.o];rfl,wQ P,λ_=>xO P r.o.size⟩,yG.o⟩
 have r:J2 (Below w.heap.size w g):=A.o.trans (m.mono A.o.size);have z:J2 (g.heap[b+1]? =some (.cells #[I4 0,I4 0] 116)):=(m.block (b+1) (zA C.o)).trans C.o;have gF:J2 (takeB l v=(none,l)):=zya l v (λj hj=>by have:=O j (by rw [L.o];exact hj);simpa using this)
 clear m O y A H1 C HW;have d2:g.cell? ⟨b+1,0,none⟩=some (I4 0):=ze z.o 0;have d3:g.cell? ⟨b+1,1,none⟩=some (I4 0):=ze z.o 1;have f0:g.frozen? ⟨b+1,0,none⟩=false:=zH z.o 0;have f1:g.frozen? ⟨b+1,1,none⟩=false:=zH z.o 1;have d:=zu (zu z.o 0 (I4 0)) 1 (I4 0);simp only [List.setIfInBounds_toArray,List.set_cons_zero,List.set_cons_succ] at d;have zL:=qh d;have yG:=qh ((r.o.setCell (p:=⟨b+1,0,none⟩) (by rw [V.o];simp) (I4 0)).setCell (p:=⟨b+1,1,none⟩) (by rw [V.o];simp) (I4 0))
 clear d;go_wp2_with fail
 refine bodyPost_ret (zcz rfl _ _ (b+1) 116 _ (0,0) _ rfl zL.o Tryz.underlying116 rfl zf3) rfl ?_
 rw [gF.o];refine⟨⟨.slice ba n bc,rfl, ?_,λe=>by cases e⟩,yG.o⟩
 have:=zX.below HL.o yG.o
 rw [<-L.o] at this;exact this
