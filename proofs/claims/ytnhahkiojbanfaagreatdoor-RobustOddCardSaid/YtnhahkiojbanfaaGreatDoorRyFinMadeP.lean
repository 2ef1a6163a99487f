/- Steps. -/
import Derived.Test.YtnhahkiojbanfaaGreatDoorRyExplore
import Derived.Test.YtnhahkiojbanfaaGreatDoorRySmallW
set_option linter.all false
namespace Go.Proofs.YtnhahkiojbanfaaGreatDoor
open Go.RowKit
set_option maxRecDepth 100000
set_option maxHeartbeats 16000000
def zhX (n:Int):zG:=⟨n % 3,1+n / 3 % 3⟩
theorem znv (w:World) (n:Int) (h0:0<=n) (h1:n<=255):Calls Tryz.prog 8 #[.int .u8 n] w λe w'=>e= .returned (xO (zhX n))/\Below w.heap.size w w':=by
 unfold xO zhX
 go_enter Tryz.func8,Tryz.ntmps8
 go_wp2
 exact bodyPost_ret (v:= .agg #[.int .i64 (n % 3), .int .i64 (1+n / 3 % 3)]) (by simp [results,Tryz.results8,go_sem]) rfl ⟨rfl,(Below.refl _ _).alloc (Nat.le_refl _) _⟩
end Go.Proofs.YtnhahkiojbanfaaGreatDoor
namespace Go.Proofs.YtnhahkiojbanfaaGreatDoor
open Go.RowKit
set_option maxRecDepth 100000
set_option maxHeartbeats 16000000
theorem zjQ {c:zI} {m:zG} {s:zk} {d:Nat} {x:zq} (h:x∈qp c m s d):yB c m s=true/\∃i,i<s.threads.length/\((x=⟨1,i,0⟩/\∃t,kg c m s i d=some t)\/∃v,x=⟨2,i,v⟩/\v∈yI (s.threads.getD i default).buf m.model):=by
 unfold qp at h
 split at h
 ·rename_i hf
  refine⟨hf, ?_⟩
  obtain⟨i,hi,hx⟩:=List.mem_flatMap.1 h
  refine⟨i,List.mem_range.1 hi, ?_⟩
  unfold kX at hx
  rcases List.mem_append.1 hx with hx|hx
  ·split at hx
   ·rename_i hs
    rw [List.mem_singleton] at hx
    exact .inl ⟨hx,Option.isSome_iff_exists.1 hs⟩
   simp at hx
  obtain⟨v,hv,rfl⟩:=List.mem_map.1 hx
  exact .inr ⟨v,rfl,hv⟩
 simp at h
theorem zuh {c:zI} {m:zG} {s:zk} {d:Nat} {x:zq} (h:x∈qp c m s d):∃i,i<s.threads.length/\((x=⟨1,i,0⟩/\∃t,kg c m s i d=some t/\kK c m s x d=(t,0))\/∃v,x=⟨2,i,v⟩/\v∈yI (s.threads.getD i default).buf m.model/\kK c m s x d=(bP s i v,0)):=by
 obtain⟨hf,i,hi,hx⟩:=zjQ h
 refine⟨i,hi, ?_⟩
 rcases hx with⟨rfl,t,ht⟩|⟨v,rfl,hv⟩
 ·refine .inl ⟨rfl,t,ht, ?_⟩
  unfold kK
  rw [if_pos hf,if_pos ⟨by show(0:Int)<=(i:Int);omega,by show(i:Int)<_;omega⟩,if_pos ⟨rfl,rfl⟩]
  rw [show(⟨1,(i:Int),0⟩:zq).thread.toNat=i from Int.toNat_natCast i,ht]
 refine .inr ⟨v,rfl,hv, ?_⟩
 unfold kK
 rw [if_pos hf,if_pos ⟨by show(0:Int)<=(i:Int);omega,by show(i:Int)<_;omega⟩,if_neg (by rintro⟨h, -⟩;exact absurd (show(2:Int)=1 from h) (by decide))]
 rw [show(⟨2,(i:Int),v⟩:zq).thread.toNat=i from Int.toNat_natCast i,if_pos ⟨rfl,hv⟩]
theorem zr3 {l:List zk} {t s:zk} (h:s∈(putAt l t).1):s=t\/s∈l:=by
 unfold putAt at h
 split at h
 ·exact .inr h
 rcases List.mem_append.1 h with h|h
 ·exact .inr h
 exact .inl (List.mem_singleton.1 h)
theorem zpu {l:List zk} {t:zk} {R:Nat} (h:l.length<=R) (hr:(putAt l t).2<R):(putAt l t).1.length<=R:=by
 unfold putAt at hr ⊢
 split
 ·exact h
 rename_i hn
 rw [if_neg hn] at hr
 simp only [] at hr
 rw [List.length_append,List.length_singleton];omega
section
variable {c:zI} {m:zG} {d R:Nat} {P:zk->Prop}
theorem zpv {s:zk} :∀(ms:List zq) (l:List zk) (nx:List Int) (r:List zk × List Int),(∀x∈ms,P (kK c m s x d).1)->(∀t∈l,P t)->l.length<=R->qC c m d R s ms l nx=some r->(∀t∈r.1,P t)/\r.1.length<=R:=by
 intro ms
 induction ms with
 |nil=>
  intro l nx r _ hl hn h
  rw [qC] at h
  cases h
  exact⟨hl,hn⟩
 |cons x ms ih=>
 intro l nx r hx hl hn h
 rw [qC] at h
 split at h
 ·cases h
 rename_i hr
 refine ih _ _ r (λy hy=>hx y (List.mem_cons_of_mem _ hy)) (λt ht=> ?_) (zpu hn (by omega)) h
 rcases zr3 ht with rfl|ht
 ·exact hx x (List.mem_cons_self ..)
 exact hl t ht
theorem zpw (hs:∀s,P s->∀x∈qp c m s d,P (kK c m s x d).1):∀(f i:Nat) (l:List zk) (ml:List (List zq)) (nl:List (List Int)) (r:yV),(∀t∈l,P t)->l.length<=R->vR c m d R f i l ml nl=some r->(∀t∈r.states,P t)/\r.states.length<=R:=by
 intro f
 induction f with
 |zero=>intro i l ml nl r _ _ h;exact absurd h (by unfold vR;simp)
 |succ f ih=>
 intro i l ml nl r hl hn h
 unfold vR at h
 split at h
 ·rename_i hi
  cases hx:qC c m d R (l.getD i default) (qp c m (l.getD i default) d) l [] with
  |none=>rw [hx] at h;cases h
  |some q=>
  rw [hx] at h
  have hp:=hl _ (qG (x:=default) hi)
  obtain⟨h1,h2⟩:=zpv (P:=P) _ _ _ q (hs _ hp) hl hn hx
  exact ih _ _ _ _ r h1 h2 h
 cases h
 exact⟨hl,hn⟩
theorem zlD (hs:∀s,P s->∀x∈qp c m s d,P (kK c m s x d).1) (h0:P (vE c)):(∀t∈(yT c m R d).1.states,P t)/\(yT c m R d).1.states.length<=R:=by
 unfold yT
 split
 ·exact⟨λt ht=>by simp at ht,Nat.zero_le _⟩
 rename_i hr
 have h1:1<=R:=by
  have:¬(R:Int)<1:=λh=>hr (.inr (.inl h))
  omega
 cases hx:vR c m d R ((R:Int).toNat+1) 0 [vE c] [] [] with
 |none=>exact⟨λt ht=>by simp at ht,Nat.zero_le _⟩
 |some q=>exact zpw hs _ _ _ _ _ q (λt ht=>by rw [List.mem_singleton] at ht;subst ht;exact h0) (show [vE c].length<=R from h1) hx
end
theorem zr4 {c:zI} {m:zG} {s:zk} {t:zy} {x:zV} {d:Nat} {r:zy × List Int × Bool} (h:stepT c m s t x d=some r):r.2.1.length=s.mem.length:=by
 by_cases h1:x.op=1
 ·rw [pF h1] at h;cases h;rfl
 by_cases h2:x.op=2
 ·by_cases hm:m.model=0
  ·rw [bF h2 hm] at h;cases h;simp
  cases hp:qR t.buf m ⟨x.var,yu t.regs c.domain d x.a⟩ with
  |true=>rw [bG h2 hm hp] at h;cases h;rfl
  |false=>rw [bH h2 hm hp] at h;cases h
 by_cases h3:x.op=3
 ·rw [zbz h3] at h;cases h;rfl
 by_cases h4:x.op=4
 ·rw [uO h4] at h;split at h<;>cases h;rfl
 by_cases h5:x.op=5
 ·rw [uq h5] at h;split at h<;>cases h;rfl
 by_cases h6:x.op=6
 ·by_cases hv:s.mem.getD x.var.toNat 0=yu t.regs c.domain d x.a
  ·rw [pG h6 hv] at h;split at h<;>cases h;simp
  rw [pI h6 hv] at h;split at h<;>cases h;rfl
 by_cases h7:x.op=7
 ·rw [uw h7] at h;split at h<;>cases h;simp
 by_cases h8:x.op=8
 ·rw [gI h8] at h;split at h<;>cases h;simp
 by_cases h9:x.op=9
 ·rw [kZ h9] at h;cases h;rfl
 by_cases h12:x.op=12
 ·rw [gJ h12] at h;cases h;rfl
 by_cases h13:x.op=13
 ·rw [zaN h13] at h;cases h;rfl
 rw [zbq h1 h2 h3 h4 h5 h6 h7 h8 h9 h12 h13] at h;cases h;rfl
end Go.Proofs.YtnhahkiojbanfaaGreatDoor
namespace Go.Proofs.YtnhahkiojbanfaaGreatDoor
open Go.RowKit Go.ChangeShapes Go.WideShapes Go.ChangeAt
set_option maxRecDepth 100000
set_option maxHeartbeats 16000000
section
variable {X Z:World} {g:Nat}
end
structure Sp (V X:World) (mb:Option Nat):Prop where
 below:Below V.heap.size V X
 box:∀b,mb=some b->X.heap[b]? =some (.cells #[.slice none 0 0, .slice none 0 0, .slice none 0 0] 49 (0,0))/\V.heap.size<=b
section
variable {V X Y:World} {mb:Option Nat}
end
theorem zlG {H:Type} {enc:TypeId × Value->H} {P:Program} {w:World} {t e:TypeId} {k:IntKind} {a:Option Addr} {len cap:Nat} {d:DataW H} {p:List MemPlace} (ht:P.underlying t=some (.slice e)) (he:P.underlying e=some (.int k)) (hc:P.cellsOf e=1)
  (h:DataW.Trod enc P w 0 (λ_=>true) true t (.slice a len cap) d p):len<=cap:=by
 obtain⟨fuel,hf⟩:=h
 rcases open_ints ht he hc hf with⟨hcs,_⟩|⟨x,l,c,zs,hcs,_,hl,hm,hz,_,hcell,hws⟩
 ·simp [Value.cells] at hcs
  obtain⟨rfl,rfl,rfl⟩:=hcs
  exact Nat.le_refl _
 simp [Value.cells] at hcs
 obtain⟨rfl,rfl,rfl⟩:=hcs
 exact hl
end Go.Proofs.YtnhahkiojbanfaaGreatDoor
namespace Go.Proofs.YtnhahkiojbanfaaGreatDoor
open Go.RowKit
set_option maxRecDepth 100000
set_option maxHeartbeats 16000000
structure zfS (c:zI) (m:zG) (d:Nat) (l:List zk) (s:zk) (ms:List zq) (nx:List Int):Prop where
 len:nx.length=ms.length
 land:∀j,j<ms.length->∃t:Nat,t<l.length/\nx.getD j 0=t/\l.getD t default=(kK c m s (ms.getD j default) d).1
def Goes (l l':List zk):Prop:=∃x,l'=l++x
theorem Goes.refl (l:List zk):Goes l l:=⟨[],by simp⟩
theorem Goes.trans {a b c:List zk} (h:Goes a b) (k:Goes b c):Goes a c:=by
 obtain⟨x,rfl⟩:=h
 obtain⟨y,rfl⟩:=k
 exact⟨x++y,by simp⟩
theorem Goes.len {a b:List zk} (h:Goes a b):a.length<=b.length:=by obtain⟨x,rfl⟩:=h;simp
theorem Goes.get {a b:List zk} (h:Goes a b) {i:Nat} (hi:i<a.length):b.getD i default=a.getD i default:=by
 obtain⟨x,rfl⟩:=h
 simp only [List.getD_eq_getElem?_getD]
 rw [List.getElem?_append_left hi]
theorem zfS.goes {c:zI} {m:zG} {d:Nat} {l l':List zk} {s:zk} {ms:List zq} {nx:List Int} (h:zfS c m d l s ms nx) (hg:Goes l l'):zfS c m d l' s ms nx:=
 ⟨h.len,λj hj=>by
  obtain⟨t,h1,h2,h3⟩:=h.land j hj
  exact⟨t,by have:=hg.len;omega,h2,by rw [hg.get h1];exact h3⟩⟩
theorem zpx (l:List zk) (t:zk):Goes l (putAt l t).1:=by
 unfold putAt
 split
 ·exact .refl _
 exact⟨[t],rfl⟩
theorem zui (l:List zk) (t:zk):(putAt l t).2<(putAt l t).1.length/\(putAt l t).1.getD (putAt l t).2 default=t:=by
 unfold putAt
 split
 ·rename_i h
  have:=List.idxOf_lt_length_of_mem h
  refine⟨this, ?_⟩
  simp only [List.getD_eq_getElem?_getD]
  rw [List.getElem?_eq_getElem this]
  simp
 simp
theorem znw {l:List zk} (t:zk) (h:l.Nodup):(putAt l t).1.Nodup:=by
 unfold putAt
 split
 ·exact h
 rename_i hn
 rw [List.nodup_append]
 refine⟨h,by simp,λa ha b hb e=> ?_⟩
 simp only [List.mem_singleton] at hb
 subst hb e
 exact hn ha
theorem zlH {c:zI} {m:zG} {d:Nat} {R:Int} {s:zk} :∀(ms:List zq) (l:List zk) (nx:List Int) (r:List zk × List Int),l.Nodup->qC c m d R s ms l nx=some r->
  Goes l r.1/\r.1.Nodup/\∃tx,r.2=nx++tx/\zfS c m d r.1 s ms tx:=by
 intro ms
 induction ms with
 |nil=>
  intro l nx r hl h
  rw [qC] at h
  cases h
  exact⟨.refl _,hl, [],by simp,rfl,λj hj=>by simp at hj⟩
 |cons x ms ih=>
 intro l nx r hl h
 rw [qC] at h
 split at h
 ·cases h
 obtain⟨h1,h2,tx,h3,h4⟩:=ih _ _ r (znw _ hl) h
 refine⟨(zpx _ _).trans h1,h2,((putAt l (kK c m s x d).1).2:Int)::tx,by rw [h3];simp,by simp [h4.len],λj hj=> ?_⟩
 cases j with
 |zero=>
  obtain⟨p1,p2⟩:=zui l (kK c m s x d).1
  exact⟨_,by have:=h1.len;omega,rfl,by rw [h1.get p1];exact p2⟩
 |succ j=>
 obtain⟨t,g1,g2,g3⟩:=h4.land j (by simpa using hj)
 exact⟨t,g1,by simpa using g2,by simpa using g3⟩
def Gone (c:zI) (m:zG) (d:Nat) (l:List zk) (ml:List (List zq)) (nl:List (List Int)):Prop:=
 ml.length=nl.length/\∀i,i<ml.length->i<l.length/\ml.getD i [] =qp c m (l.getD i default) d/\zfS c m d l (l.getD i default) (ml.getD i []) (nl.getD i [])
theorem Gone.goes {c:zI} {m:zG} {d:Nat} {l l':List zk} {ml:List (List zq)} {nl:List (List Int)} (h:Gone c m d l ml nl) (hg:Goes l l'):Gone c m d l' ml nl:=
 ⟨h.1,λi hi=>by
  obtain⟨h1,h2,h3⟩:=h.2 i hi
  rw [hg.get h1]
  exact⟨by have:=hg.len;omega,h2,h3.goes hg⟩⟩
structure Closed (c:zI) (m:zG) (d:Nat) (S:yV):Prop where
 moves:S.moves.length=S.states.length
 next:S.next.length=S.states.length
 pos:0<S.states.length
 first:S.states.getD 0 default=vE c
 apart:S.states.Nodup
 lead:∀i,i<S.states.length->S.moves.getD i [] =qp c m (S.states.getD i default) d/\zfS c m d S.states (S.states.getD i default) (S.moves.getD i []) (S.next.getD i [])
theorem zk7 {c:zI} {m:zG} {d:Nat} {R:Int} :∀(f i:Nat) (l:List zk) (ml:List (List zq)) (nl:List (List Int)) (r:yV),l.Nodup->ml.length=i->i<=l.length->Gone c m d l ml nl->0<l.length->l.getD 0 default=vE c->vR c m d R f i l ml nl=some r->Closed c m d r:=by
 intro f
 induction f with
 |zero=>intro i l ml nl r _ _ _ _ _ _ h;exact absurd h (by unfold vR;simp)
 |succ f ih=>
 intro i l ml nl r hl hm hil hg hp h0 h
 unfold vR at h
 split at h
 ·rename_i hi
  cases hx:qC c m d R (l.getD i default) (qp c m (l.getD i default) d) l [] with
  |none=>rw [hx] at h;cases h
  |some q=>
  rw [hx] at h
  obtain⟨q1,q2,tx,q3,q4⟩:=zlH _ _ _ q hl hx
  rw [List.nil_append] at q3
  refine ih (i+1) q.1 _ _ r q2 (by simp [hm]) (by have:=q1.len;omega) ⟨by simp [hg.1],λj hj=> ?_⟩ (by have:=q1.len;omega) (by rw [q1.get hp];exact h0) h
  have hg2:=hg.goes q1
  rcases Nat.lt_or_ge j i with hlt|hge
  ·obtain⟨g1,g2,g3⟩:=hg2.2 j (by omega)
   have e1:(ml++ [qp c m (l.getD i default) d]).getD j [] =ml.getD j [] :=by simp only [List.getD_eq_getElem?_getD];rw [List.getElem?_append_left (by omega)]
   have e2:(nl++ [q.2]).getD j [] =nl.getD j [] :=by simp only [List.getD_eq_getElem?_getD];rw [List.getElem?_append_left (by have:=hg.1;omega)]
   rw [e1,e2]
   exact⟨g1,g2,g3⟩
  obtain rfl:j=i:=by simp at hj;omega
  have e1:(ml++ [qp c m (l.getD j default) d]).getD j [] =qp c m (l.getD j default) d:=by simp only [List.getD_eq_getElem?_getD];rw [List.getElem?_append_right (by omega),hm];simp
  have e2:(nl++ [q.2]).getD j [] =q.2:=by simp only [List.getD_eq_getElem?_getD];rw [List.getElem?_append_right (by have:=hg.1;omega), <-hg.1,hm];simp
  rw [e1,e2,q1.get hi,q3]
  exact⟨by have:=q1.len;omega,rfl,q4⟩
 cases h
 have hn:i=l.length:=by omega
 have hg1:=hg.1
 exact⟨show ml.length=l.length by omega,show nl.length=l.length by omega,hp,h0,hl,λj hj=>(hg.2 j (by have hj2:j<l.length:=hj;omega)).2⟩
theorem zjr {c:zI} {m:zG} {d:Nat} {R:Int} (hm:jh c m=true) (h1:1<=R) (h2:R<=100000):((yT c m R d).2=0/\Closed c m d (yT c m R d).1)\/(yT c m R d).2=40:=by
 unfold yT
 rw [if_neg (by rintro(h|h|h)<;>first|(rw [hm] at h;cases h)|omega)]
 cases hx:vR c m d R (R.toNat+1) 0 [vE c] [] [] with
 |none=>exact .inr rfl
 |some q=>exact .inl ⟨rfl,zk7 (R.toNat+1) 0 [vE c] [] [] q (List.pairwise_singleton _ _) rfl (Nat.zero_le _) ⟨rfl,λi hi=>absurd hi (Nat.not_lt_zero _)⟩ (Nat.zero_lt_one) rfl hx⟩
theorem wrap_u8 {x:Int} (h0:0<=x) (h1:x<=255):IntKind.i64.wrap x=x:=IntWalk.i64_in _ (by omega)
theorem jE {dom n:Int} :xZ dom n=true↔0<=n/\n<dom:=by unfold xZ;simp
def zdn (c:zI) (m:zG) (row:List zV) (t:zy):Prop:=0<=t.pc/\t.pc<=(row.length:Int)/\(∀k,k<4->xZ c.domain (t.regs.getD k 0)=true)/\∀k,k<t.buf.length->qN c m t.buf k=true
theorem zeg {c:zI} {m:zG} {s:zk} :yB c m s=true↔jh c m=true/\s.threads.length=c.threads.length/\(s.mem.length:Int)=c.vars/\(∀k,k<s.mem.length->xZ c.domain (s.mem.getD k 0)=true)/\∀i,i<s.threads.length->zdn c m (c.threads.getD i []) (s.threads.getD i default):=by
 unfold yB vS zdn
 simp only [Bool.and_eq_true,decide_eq_true_eq,List.all_eq_true,List.mem_range]
 constructor
 ·rintro⟨⟨⟨⟨h1,h2⟩,h3⟩,h4⟩,h5⟩
  exact⟨h1,h2,h3,h4,λi hi=>⟨(h5 i hi).1.1.1,(h5 i hi).1.1.2,(h5 i hi).1.2,(h5 i hi).2⟩⟩
 rintro⟨h1,h2,h3,h4,h5⟩
 exact⟨⟨⟨⟨h1,h2⟩,h3⟩,h4⟩,λi hi=>⟨⟨⟨(h5 i hi).1,(h5 i hi).2.1⟩,(h5 i hi).2.2.1⟩,(h5 i hi).2.2.2⟩⟩
theorem zfl {c:zI} {m:zG} (h:jh c m=true):codeOk c=true/\2<=c.domain:=by
 unfold jh at h
 simp only [Bool.and_eq_true,decide_eq_true_eq] at h
 exact⟨h.1.1.1.1,(xR h.1.1.1.1).2.2.1⟩
theorem zxK {regs:List Int} {dom:Int} (hd:1<=dom) (hr:∀k,k<4->xZ dom (regs.getD k 0)=true) {x:zN} {e:Nat} (hx:zS dom e x=true) (d:Nat):xZ dom (yu regs dom d x)=true:=by
 cases d with
 |zero=>rw [jE];unfold yu;omega
 |succ d=>
 unfold yu
 cases e with
 |zero=>cases hx
 |succ e=>
 unfold zS at hx
 split
 ·rename_i h1
  rw [if_pos h1] at hx
  simp only [Bool.and_eq_true,decide_eq_true_eq] at hx
  rw [jE];exact hx.1.1
 split
 ·split
  ·rename_i h;exact hr _ (by omega)
  rw [jE];omega
 split
 ·rw [jE];exact⟨Int.emod_nonneg _ (by omega),Int.emod_lt_of_pos _ (by omega)⟩
 rw [jE];omega
theorem zfm {dom:Int} {l:List Int} (hl:∀k,k<l.length->xZ dom (l.getD k 0)=true) (v:Nat) {n:Int} (hn:xZ dom n=true):∀k,k<(l.set v n).length->xZ dom ((l.set v n).getD k 0)=true:=λk hk=>by
 rw [List.length_set] at hk
 by_cases e:k=v
 ·subst e
  rw [List.getD_eq_getElem?_getD,List.getElem?_set_self hk];exact hn
 rw [List.getD_eq_getElem?_getD,List.getElem?_set_ne (Ne.symm e), <-List.getD_eq_getElem?_getD];exact hl k hk
theorem zxL {dom:Int} {l:List Int} (hl:∀k,k<4->xZ dom (l.getD k 0)=true) (v:Nat) {n:Int} (hn:xZ dom n=true):∀k,k<4->xZ dom ((l.set v n).getD k 0)=true:=λk hk=>by
 by_cases e:k=v
 ·subst e
  by_cases hk2:k<l.length
  ·rw [List.getD_eq_getElem?_getD,List.getElem?_set_self hk2];exact hn
  rw [List.set_eq_of_length_le (by omega)];exact hl k hk
 rw [List.getD_eq_getElem?_getD,List.getElem?_set_ne (Ne.symm e), <-List.getD_eq_getElem?_getD];exact hl k hk
theorem zaS {c:zI} {m:zG} {l:List zl} {k:Nat} (h:qN c m l k=true):qR (l.take k) m (l.getD k default)=true/\0<=(l.getD k default).var/\(l.getD k default).var<c.vars/\xZ c.domain (l.getD k default).n=true:=by
 unfold qN at h
 simp only [Bool.and_eq_true,decide_eq_true_eq] at h
 exact⟨h.1.1.1.1,h.1.1.1.2,h.1.1.2,jE.2 ⟨h.1.2,h.2⟩⟩
theorem zfT {c:zI} {m:zG} {l:List zl} {k:Nat} (h1:qR (l.take k) m (l.getD k default)=true) (h2:0<=(l.getD k default).var) (h3:(l.getD k default).var<c.vars) (h4:xZ c.domain (l.getD k default).n=true):qN c m l k=true:=by
 unfold qN
 simp only [Bool.and_eq_true,decide_eq_true_eq]
 exact⟨⟨⟨⟨h1,h2⟩,h3⟩,(jE.1 h4).1⟩,(jE.1 h4).2⟩
theorem zuj {c:zI} {m:zG} {l:List zl} (h:∀k,k<l.length->qN c m l k=true) (v:Int):∀i n,i<=l.length->pR l v i=some n->xZ c.domain n=true:=by
 intro i
 induction i with
 |zero=>intro n _ h2;unfold pR at h2;cases h2
 |succ i ih=>
 intro n hi h2
 unfold pR at h2
 split at h2
 ·cases h2;exact(zaS (h i (by omega))).2.2.2
 exact ih n (by omega) h2
theorem zuk {c:zI} {m:zG} {l:List zl} (h:∀k,k<l.length->qN c m l k=true) {x:zl} (hp:qR l m x=true) (h2:0<=x.var) (h3:x.var<c.vars) (h4:xZ c.domain x.n=true):∀k,k<(l++ [x]).length->qN c m (l++ [x]) k=true:=λk hk=>by
 rw [List.length_append,List.length_singleton] at hk
 by_cases e:k=l.length
 ·subst e
  have hg:(l++ [x]).getD l.length default=x:=jU
  exact zfT (by rw [hg,List.take_left];exact hp) (by rw [hg];exact h2) (by rw [hg];exact h3) (by rw [hg];exact h4)
 have hk2:k<l.length:=by omega
 have hg:(l++ [x]).getD k default=l.getD k default:=j4 hk2
 obtain⟨a1,a2,a3,a4⟩:=zaS (h k hk2)
 exact zfT (by rw [hg,List.take_append_of_le_length (by omega)];exact a1) (by rw [hg];exact a2) (by rw [hg];exact a3) (by rw [hg];exact a4)
theorem zlI {l r:List zl} {m:zG} {x:zl} (h:qR l m x=true) (hs:r.Sublist l):qR r m x=true:=by
 unfold qR zdR at h ⊢
 simp only [Bool.and_eq_true,decide_eq_true_eq] at h ⊢
 have:=hs.countP_le (p:=λy=>decide (m.model=1)||decide (y.var=x.var))
 exact⟨h.1,by omega⟩
theorem zpy {c:zI} {m:zG} {l:List zl} (h:∀k,k<l.length->qN c m l k=true) (p:Nat):∀k,k<(l.eraseIdx p).length->qN c m (l.eraseIdx p) k=true:=λk hk=>by
 by_cases hp:p<l.length
 rotate_left
 ·rw [List.eraseIdx_of_length_le (by omega)] at hk ⊢
  exact h k hk
 have hl:(l.eraseIdx p).length=l.length - 1:=List.length_eraseIdx_of_lt hp
 rw [hl] at hk
 by_cases e:k<p
 ·have hg:(l.eraseIdx p).getD k default=l.getD k default:=by
   simp only [List.getD_eq_getElem?_getD,List.getElem?_eraseIdx,if_pos e]
  obtain⟨a1,a2,a3,a4⟩:=zaS (h k (by omega))
  have ht:((l.eraseIdx p).take k).Sublist (l.take k):=by
   rw [List.eraseIdx_eq_take_drop_succ,List.take_append_of_le_length (by rw [List.length_take];omega),List.take_take,Nat.min_eq_left (by omega)]
   exact List.Sublist.refl _
  exact zfT (by rw [hg];exact zlI a1 ht) (by rw [hg];exact a2) (by rw [hg];exact a3) (by rw [hg];exact a4)
 have hg:(l.eraseIdx p).getD k default=l.getD (k+1) default:=by
  simp only [List.getD_eq_getElem?_getD,List.getElem?_eraseIdx,if_neg e]
 obtain⟨a1,a2,a3,a4⟩:=zaS (h (k+1) (by omega))
 have ht:((l.eraseIdx p).take k).Sublist (l.take (k+1)):=by
  rw [List.eraseIdx_eq_take_drop_succ,List.take_append,List.length_take,Nat.min_eq_left (by omega),List.take_take,Nat.min_eq_right (by omega)]
  have:l.take (k+1)=l.take p++(l.drop p).take (k+1 - p):=by
   rw [<-List.take_append_drop p l,List.take_append,List.length_take,Nat.min_eq_left (by omega),List.take_take,Nat.min_eq_right (by omega),List.take_append_drop]
  rw [this]
  refine List.Sublist.append_left ?_ _
  rw [show k+1 - p=(k - p)+1 by omega,List.drop_eq_getElem_cons hp,List.take_succ_cons]
  exact List.sublist_cons_self _ _
 exact zfT (by rw [hg];exact zlI a1 ht) (by rw [hg];exact a2) (by rw [hg];exact a3) (by rw [hg];exact a4)
theorem zlJ (l:List zl) (v:Int):∀i,i<=l.length->((yK l v i).1=none->(yK l v i).2=l.take i)/\∀e,(yK l v i).1=some e->∃p,p<i/\l.getD p default=e/\(yK l v i).2=(l.take i).eraseIdx p:=by
 intro i
 induction i with
 |zero=>intro _;exact⟨λ_=>rfl,λe h=>by cases h⟩
 |succ i ih=>
 intro hi
 obtain⟨h1,h2⟩:=ih (by omega)
 have htk:l.take (i+1)=l.take i++ [l.getD i default] :=by rw [List.take_succ_eq_append_getElem (by omega),List.getD_eq_getElem?_getD,List.getElem?_eq_getElem (by omega)];rfl
 unfold yK
 split
 ·rename_i h
  simp only [Bool.and_eq_true,decide_eq_true_eq,Option.isNone_iff_eq_none] at h
  refine⟨(λe=>by cases e),λe he=> ?_⟩
  cases he
  refine⟨i,by omega,rfl, ?_⟩
  rw [htk,List.eraseIdx_append_of_length_le (by rw [List.length_take];omega),List.length_take,Nat.min_eq_left (by omega),Nat.sub_self]
  simp [h1 h.1]
 refine⟨λe=>by rw [htk, <-h1 e],λe he=> ?_⟩
 obtain⟨p,hp,hpe,h3⟩:=h2 e he
 refine⟨p,by omega,hpe, ?_⟩
 rw [htk,List.eraseIdx_append_of_lt_length (by rw [List.length_take];omega)]
 show(yK l v i).2++ [l.getD i default] =_
 rw [h3]
theorem znx {vars dom:Int} {many:Nat} {x:zV} (h:qm vars dom many x=true):(x.op=12->zS dom 20 x.a=true/\0<=x.dest/\x.dest<=many)/\(x.op=13->0<=x.dest/\x.dest<=many)/\(¬x.op=12->¬x.op=13->qD x.op x.reg x.var x.a x.b vars dom=true):=by
 unfold qm at h
 refine⟨λe=> ?_,λe=> ?_,λe1 e2=> ?_⟩
 ·rw [if_pos e] at h
  unfold qI qD at h
  simp only [Bool.and_eq_true,decide_eq_true_eq] at h
  have:=h.2.1.2
  unfold wR at this
  rw [if_pos (by decide)] at this
  exact⟨this,h.1.1.2,h.1.2⟩
 ·rw [if_neg (by omega),if_pos e] at h
  unfold qI at h
  simp only [Bool.and_eq_true,decide_eq_true_eq] at h
  exact⟨h.1.1.2,h.1.2⟩
 rw [if_neg e1,if_neg e2] at h
 split at h
 ·cases h
 unfold qI at h
 simp only [Bool.and_eq_true] at h
 exact h.2
theorem zbZ {k reg v:Int} {a b:zN} {vars dom:Int} (h:qD k reg v a b vars dom=true):(wh k=true->0<=v/\v<vars)/\(gM k=true->zS dom 20 a=true)/\(hasB k=true->zS dom 20 b=true):=by
 unfold qD at h
 simp only [Bool.and_eq_true] at h
 obtain⟨⟨⟨-,h2⟩,h3⟩,h4⟩:=h
 refine⟨λe=> ?_,λe=> ?_,λe=> ?_⟩
 ·unfold kr at h2;rw [if_pos e] at h2;simpa using h2
 ·unfold wR at h3;rw [if_pos e] at h3;exact h3
 unfold uV at h4;rw [if_pos e] at h4;exact h4
theorem zpz {c:zI} {m:zG} {s:zk} {t:zy} {x:zV} {d:Nat} {row:List zV} {r:zy × List Int × Bool} (hm:jh c m=true) (ht:zdn c m row t) (hpc:t.pc<(row.length:Int)) (hx:qm c.vars c.domain row.length x=true)
  (hv:(s.mem.length:Int)=c.vars) (hmem:∀k,k<s.mem.length->xZ c.domain (s.mem.getD k 0)=true) (h:stepT c m s t x d=some r):zdn c m row r.1/\∀k,k<r.2.1.length->xZ c.domain (r.2.1.getD k 0)=true:=by
 obtain⟨hcode,hdom⟩:=zfl hm
 obtain⟨t1,t2,t3,t4⟩:=ht
 obtain⟨f12,f13,fp⟩:=znx hx
 have hnext:zdn c m row ⟨t.pc+1,t.regs,t.buf⟩:=⟨by show 0<=t.pc+1;omega,by show t.pc+1<=_;omega,t3,t4⟩
 have hset:∀(rg:Nat) (n:Int),xZ c.domain n=true->zdn c m row ⟨t.pc+1,t.regs.set rg n,t.buf⟩:=λrg n hn=>⟨by show 0<=t.pc+1;omega,by show t.pc+1<=_;omega,zxL t3 rg hn,t4⟩
 have h0:xZ c.domain 0=true:=by rw [jE];omega
 have h1:xZ c.domain 1=true:=by rw [jE];omega
 have hev:∀y,zS c.domain 20 y=true->xZ c.domain (yu t.regs c.domain d y)=true:=λy hy=>zxK (by omega) t3 hy d
 by_cases e1:x.op=1
 ·obtain⟨p1, -, -⟩:=zbZ (fp (by omega) (by omega))
  have hvr:=p1 (by rw [e1];rfl)
  rw [pF e1] at h;cases h
  refine⟨hset _ _ ?_,hmem⟩
  cases hl:gG t.buf x.var with
  |none=>exact hmem _ (by omega)
  |some n=>exact zuj t4 x.var _ n (Nat.le_refl _) hl
 by_cases e2:x.op=2
 ·obtain⟨p1,p2, -⟩:=zbZ (fp (by omega) (by omega))
  have hvr:=p1 (by rw [e2];rfl)
  have ha:=hev _ (p2 (by rw [e2];rfl))
  by_cases hmo:m.model=0
  ·rw [bF e2 hmo] at h;cases h;exact⟨hnext,zfm hmem _ ha⟩
  cases hp:qR t.buf m ⟨x.var,yu t.regs c.domain d x.a⟩ with
  |true=>
   rw [bG e2 hmo hp] at h;cases h
   refine⟨⟨by show 0<=t.pc+1;omega,by show t.pc+1<=_;omega,t3, ?_⟩,hmem⟩
   show∀k,k<(jJ t.buf m ⟨x.var,yu t.regs c.domain d x.a⟩).length->qN c m (jJ t.buf m ⟨x.var,yu t.regs c.domain d x.a⟩) k=true
   unfold jJ
   rw [if_pos hp]
   exact zuk t4 hp hvr.1 hvr.2 ha
  |false=>rw [bH e2 hmo hp] at h;cases h
 by_cases e3:x.op=3
 ·obtain⟨-,p2, -⟩:=zbZ (fp (by omega) (by omega))
  rw [zbz e3] at h;cases h;exact⟨hset _ _ (hev _ (p2 (by rw [e3];rfl))),hmem⟩
 by_cases e4:x.op=4
 ·rw [uO e4] at h;split at h<;>cases h;exact⟨hnext,hmem⟩
 by_cases e5:x.op=5
 ·rw [uq e5] at h;split at h<;>cases h;exact⟨hnext,hmem⟩
 by_cases e6:x.op=6
 ·obtain⟨-, -,p3⟩:=zbZ (fp (by omega) (by omega))
  have hb:=hev _ (p3 (by rw [e6];rfl))
  by_cases hv2:s.mem.getD x.var.toNat 0=yu t.regs c.domain d x.a
  ·rw [pG e6 hv2] at h;split at h<;>cases h;exact⟨hset _ _ h1,zfm hmem _ hb⟩
  rw [pI e6 hv2] at h;split at h<;>cases h;exact⟨hset _ _ h0,hmem⟩
 by_cases e7:x.op=7
 ·rw [uw e7] at h;split at h<;>cases h;exact⟨hnext,zfm hmem _ h1⟩
 by_cases e8:x.op=8
 ·rw [gI e8] at h;split at h<;>cases h;exact⟨hnext,zfm hmem _ h0⟩
 by_cases e9:x.op=9
 ·rw [kZ e9] at h;cases h;exact⟨hnext,hmem⟩
 by_cases e12:x.op=12
 ·have hd:=f12 e12
  rw [gJ e12] at h;cases h
  refine⟨?_,hmem⟩
  show zdn c m row (if _ then _ else _)
  split
  ·exact⟨hd.2.1,hd.2.2,t3,t4⟩
  exact hnext
 by_cases e13:x.op=13
 ·have hd:=f13 e13
  rw [zaN e13] at h;cases h;exact⟨⟨hd.1,hd.2,t3,t4⟩,hmem⟩
 rw [zbq e1 e2 e3 e4 e5 e6 e7 e8 e9 e12 e13] at h;cases h;exact⟨hnext,hmem⟩
theorem zlL {c:zI} {m:zG} {s:zk} (h:yB c m s=true) {i:Nat} {t:zy} {mem:List Int} {bad:Bool} (hi:i<s.threads.length) (ht:zdn c m (c.threads.getD i []) t) (hl:mem.length=s.mem.length) (hmem:∀k,k<mem.length->xZ c.domain (mem.getD k 0)=true):yB c m ⟨s.threads.set i t,mem,bad⟩=true:=by
 obtain⟨h1,h2,h3, -,h5⟩:=zeg.1 h
 refine zeg.2 ⟨h1,by simpa using h2,by show(mem.length:Int)=_;rw [hl];exact h3,hmem,λj hj=> ?_⟩
 have hj2:j<s.threads.length:=by simpa using hj
 show zdn c m _ ((s.threads.set i t).getD j default)
 by_cases e:j=i
 ·subst e
  have hg:(s.threads.set j t).getD j default=t:=by rw [List.getD_eq_getElem?_getD,List.getElem?_set_self hj2];rfl
  rw [hg];exact ht
 have hg:(s.threads.set i t).getD j default=s.threads.getD j default:=by rw [List.getD_eq_getElem?_getD,List.getElem?_set_ne (Ne.symm e), <-List.getD_eq_getElem?_getD]
 rw [hg];exact h5 j hj2
theorem zr5 {c:zI} (h:codeOk c=true) {i k:Nat} (hi:i<c.threads.length) (hk:k<(c.threads.getD i []).length):qm c.vars c.domain (c.threads.getD i []).length ((c.threads.getD i []).getD k default)=true:=by
 unfold codeOk at h
 simp only [Bool.and_eq_true] at h
 have h1:=h.2
 rw [List.all_eq_true] at h1
 have h2:=h1 _ (qG (x:= []) hi)
 unfold rowOk at h2
 simp only [Bool.and_eq_true] at h2
 have h4:=h2.2
 rw [List.all_eq_true] at h4
 exact h4 _ (qG hk)
theorem znY {c:zI} {m:zG} {s:zk} {d:Nat} {x:zq} (h:x∈qp c m s d):yB c m (kK c m s x d).1=true:=by
 obtain⟨hf, -⟩:=zjQ h
 obtain⟨h1,h2,h3,h4,h5⟩:=zeg.1 hf
 obtain⟨hcode, -⟩:=zfl h1
 obtain⟨i,hi,hx⟩:=zuh h
 have hti:=h5 i hi
 rcases hx with⟨rfl,t,ht,he⟩|⟨v,rfl,hv,he⟩
 ·rw [he]
  unfold kg at ht
  split at ht
  ·rename_i hpc
   obtain⟨r,hr,rfl⟩:=Option.map_eq_some_iff.1 ht
   have hk:(s.threads.getD i default).pc.toNat<(c.threads.getD i []).length:=by have:=hti.1;omega
   obtain⟨g1,g2⟩:=zpz h1 hti hpc (zr5 hcode (by omega) hk) h3 h4 hr
   exact zlL hf hi g1 (zr4 hr) g2
  cases ht
 rw [he]
 obtain⟨v0,v1,n,hn⟩:=zeh hf hi hv
 obtain⟨-,k2⟩:=zlJ (s.threads.getD i default).buf v _ (Nat.le_refl _)
 have hn1:(takeB (s.threads.getD i default).buf v).1=some ⟨v,n⟩:=by rw [hn]
 obtain⟨p,hp,hpe,hp2⟩:=k2 _ hn1
 rw [List.take_length] at hp2
 have hw:=zaS (hti.2.2.2 p hp)
 rw [hpe] at hw
 unfold bP
 rw [hn1]
 refine zlL hf hi ⟨hti.1,hti.2.1,hti.2.2.1, ?_⟩ (by simp) (zfm h4 _ hw.2.2.2)
 show∀k,k<(takeB (s.threads.getD i default).buf v).2.length->qN c m (takeB (s.threads.getD i default).buf v).2 k=true
 rw [show(takeB (s.threads.getD i default).buf v).2=(s.threads.getD i default).buf.eraseIdx p from hp2]
 exact zpy hti.2.2.2 p
theorem zhV {c:zI} {m:zG} (h:jh c m=true):yB c m (vE c)=true:=by
 obtain⟨hc,hd⟩:=zfl h
 have hb:=xR hc
 unfold vE
 rw [if_pos hc]
 refine zeg.2 ⟨h,by simp,by simp;omega,λk hk=> ?_,λi hi=> ?_⟩
 ·rw [jE]
  simp only [List.length_replicate] at hk
  simp [List.getD_eq_getElem?_getD,hk];omega
 simp only [List.length_replicate] at hi
 have hg:(List.replicate c.threads.length (default:zy)).getD i default=default:=by simp [List.getD_eq_getElem?_getD,hi]
 show zdn c m _ ((List.replicate c.threads.length (default:zy)).getD i default)
 rw [hg]
 refine⟨Int.le_refl _,by show(0:Int)<=_;omega,λk hk=> ?_,λk hk=>by simp [default] at hk⟩
 rw [jE]
 rcases(by omega:k=0\/k=1\/k=2\/k=3) with rfl|rfl|rfl|rfl<;>(constructor<;>(show _;simp [default];try omega))
