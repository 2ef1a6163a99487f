/- Steps. -/
import Derived.Test.YtnhahkiojbanfaaGreatDoorRqSmallW
set_option linter.all false
namespace Go.Proofs.YtnhahkiojbanfaaGreatDoor
open Go.RowKit
set_option maxRecDepth 100000
set_option maxHeartbeats 16000000
def zeK (n:Int):zu:=⟨n % 3,1+n / 3 % 3⟩
theorem zjj (w:World) (n:Int) (h0:0<=n) (h1:n<=255):Calls Tryz.prog 8 #[.int .u8 n] w λe w'=>e= .returned (vZ (zeK n))/\Below w.heap.size w w':=by
 unfold vZ zeK
 go_enter Tryz.func8,Tryz.ntmps8
 go_wp2
 exact bodyPost_ret (v:= .agg #[.int .i64 (n % 3), .int .i64 (1+n / 3 % 3)]) (by simp [results,Tryz.results8,go_sem]) rfl ⟨rfl,(Below.refl _ _).alloc (Nat.le_refl _) _⟩
end Go.Proofs.YtnhahkiojbanfaaGreatDoor
namespace Go.Proofs.YtnhahkiojbanfaaGreatDoor
open Go.RowKit
set_option maxRecDepth 100000
set_option maxHeartbeats 16000000
theorem za4 {c:zx} {m:zu} {s:zi} {d:Nat} {x:zo} (h:x∈yF c m s d):zP c m s=true/\∃i,i<s.threads.length/\((x=⟨1,i,0⟩/\∃t,vF c m s i d=some t)\/∃v,x=⟨2,i,v⟩/\v∈yE (s.threads.getD i default).buf m.model):=by
 unfold yF at h
 split at h
 ·rename_i hf
  refine⟨hf, ?_⟩
  obtain⟨i,hi,hx⟩:=List.mem_flatMap.1 h
  refine⟨i,List.mem_range.1 hi, ?_⟩
  unfold wU at hx
  rcases List.mem_append.1 hx with hx|hx
  ·split at hx
   ·rename_i hs
    rw [List.mem_singleton] at hx
    exact .inl ⟨hx,Option.isSome_iff_exists.1 hs⟩
   simp at hx
  obtain⟨v,hv,rfl⟩:=List.mem_map.1 hx
  exact .inr ⟨v,rfl,hv⟩
 simp at h
theorem zb6 {c:zx} {m:zu} {s:zi} {d:Nat} {x:zo} (h:x∈yF c m s d):∃i,i<s.threads.length/\((x=⟨1,i,0⟩/\∃t,vF c m s i d=some t/\qD c m s x d=(t,0))\/∃v,x=⟨2,i,v⟩/\v∈yE (s.threads.getD i default).buf m.model/\qD c m s x d=(wV s i v,0)):=by
 obtain⟨hf,i,hi,hx⟩:=za4 h
 refine⟨i,hi, ?_⟩
 rcases hx with⟨rfl,t,ht⟩|⟨v,rfl,hv⟩
 ·refine .inl ⟨rfl,t,ht, ?_⟩
  unfold qD
  rw [if_pos hf,if_pos ⟨by show(0:Int)<=(i:Int);omega,by show(i:Int)<_;omega⟩,if_pos ⟨rfl,rfl⟩]
  rw [show(⟨1,(i:Int),0⟩:zo).thread.toNat=i from Int.toNat_natCast i,ht]
 refine .inr ⟨v,rfl,hv, ?_⟩
 unfold qD
 rw [if_pos hf,if_pos ⟨by show(0:Int)<=(i:Int);omega,by show(i:Int)<_;omega⟩,if_neg (by rintro⟨h, -⟩;exact absurd (show(2:Int)=1 from h) (by decide))]
 rw [show(⟨2,(i:Int),v⟩:zo).thread.toNat=i from Int.toNat_natCast i,if_pos ⟨rfl,hv⟩]
theorem zm8 {l:List zi} {t s:zi} (h:s∈(putAt l t).1):s=t\/s∈l:=by
 unfold putAt at h
 split at h
 ·exact .inr h
 rcases List.mem_append.1 h with h|h
 ·exact .inr h
 exact .inl (List.mem_singleton.1 h)
theorem zkL {l:List zi} {t:zi} {R:Nat} (h:l.length<=R) (hr:(putAt l t).2<R):(putAt l t).1.length<=R:=by
 unfold putAt at hr ⊢
 split
 ·exact h
 rename_i hn
 rw [if_neg hn] at hr
 simp only [] at hr
 rw [List.length_append,List.length_singleton];omega
section
variable {c:zx} {m:zu} {d R:Nat} {P:zi->Prop}
theorem zkM {s:zi} :∀(ms:List zo) (l:List zi) (nx:List Int) (r:List zi × List Int),(∀x∈ms,P (qD c m s x d).1)->(∀t∈l,P t)->l.length<=R->xX c m d R s ms l nx=some r->(∀t∈r.1,P t)/\r.1.length<=R:=by
 intro ms
 induction ms with
 |nil=>
  intro l nx r _ hl hn h
  rw [xX] at h
  cases h
  exact⟨hl,hn⟩
 |cons x ms ih=>
 intro l nx r hx hl hn h
 rw [xX] at h
 split at h
 ·cases h
 rename_i hr
 refine ih _ _ r (λy hy=>hx y (List.mem_cons_of_mem _ hy)) (λt ht=> ?_) (zkL hn (by omega)) h
 rcases zm8 ht with rfl|ht
 ·exact hx x (List.mem_cons_self ..)
 exact hl t ht
theorem zkN (hs:∀s,P s->∀x∈yF c m s d,P (qD c m s x d).1):∀(f i:Nat) (l:List zi) (ml:List (List zo)) (nl:List (List Int)) (r:yj),(∀t∈l,P t)->l.length<=R->qz c m d R f i l ml nl=some r->(∀t∈r.states,P t)/\r.states.length<=R:=by
 intro f
 induction f with
 |zero=>intro i l ml nl r _ _ h;exact absurd h (by unfold qz;simp)
 |succ f ih=>
 intro i l ml nl r hl hn h
 unfold qz at h
 split at h
 ·rename_i hi
  cases hx:xX c m d R (l.getD i default) (yF c m (l.getD i default) d) l [] with
  |none=>rw [hx] at h;cases h
  |some q=>
  rw [hx] at h
  have hp:=hl _ (yC (x:=default) hi)
  obtain⟨h1,h2⟩:=zkM (P:=P) _ _ _ q (hs _ hp) hl hn hx
  exact ih _ _ _ _ r h1 h2 h
 cases h
 exact⟨hl,hn⟩
theorem kM (hs:∀s,P s->∀x∈yF c m s d,P (qD c m s x d).1) (h0:P (xq c)):(∀t∈(zV c m R d).1.states,P t)/\(zV c m R d).1.states.length<=R:=by
 unfold zV
 split
 ·exact⟨λt ht=>by simp at ht,Nat.zero_le _⟩
 rename_i hr
 have h1:1<=R:=by
  have:¬(R:Int)<1:=λh=>hr (.inr (.inl h))
  omega
 cases hx:qz c m d R ((R:Int).toNat+1) 0 [xq c] [] [] with
 |none=>exact⟨λt ht=>by simp at ht,Nat.zero_le _⟩
 |some q=>exact zkN hs _ _ _ _ _ q (λt ht=>by rw [List.mem_singleton] at ht;subst ht;exact h0) (show [xq c].length<=R from h1) hx
end
theorem zm9 {c:zx} {m:zu} {s:zi} {t:zA} {x:zC} {d:Nat} {r:zA × List Int × Bool} (h:stepT c m s t x d=some r):r.2.1.length=s.mem.length:=by
 by_cases h1:x.op=1
 ·rw [uh h1] at h;cases h;rfl
 by_cases h2:x.op=2
 ·by_cases hm:m.model=0
  ·rw [jF h2 hm] at h;cases h;simp
  cases hp:qQ t.buf m ⟨x.var,zW t.regs c.domain d x.a⟩ with
  |true=>rw [zah h2 hm hp] at h;cases h;rfl
  |false=>rw [zai h2 hm hp] at h;cases h
 by_cases h3:x.op=3
 ·rw [za5 h3] at h;cases h;rfl
 by_cases h4:x.op=4
 ·rw [uZ h4] at h;split at h<;>cases h;rfl
 by_cases h5:x.op=5
 ·rw [pz h5] at h;split at h<;>cases h;rfl
 by_cases h6:x.op=6
 ·by_cases hv:s.mem.getD x.var.toNat 0=zW t.regs c.domain d x.a
  ·rw [p8 h6 hv] at h;split at h<;>cases h;simp
  rw [p9 h6 hv] at h;split at h<;>cases h;rfl
 by_cases h7:x.op=7
 ·rw [pE h7] at h;split at h<;>cases h;simp
 by_cases h8:x.op=8
 ·rw [uj h8] at h;split at h<;>cases h;simp
 by_cases h9:x.op=9
 ·rw [uo h9] at h;cases h;rfl
 by_cases h12:x.op=12
 ·rw [uq h12] at h;cases h;rfl
 by_cases h13:x.op=13
 ·rw [pF h13] at h;cases h;rfl
 rw [zaN h1 h2 h3 h4 h5 h6 h7 h8 h9 h12 h13] at h;cases h;rfl
end Go.Proofs.YtnhahkiojbanfaaGreatDoor
namespace Go.Proofs.YtnhahkiojbanfaaGreatDoor
open Go.RowKit Go.ChangeShapes Go.WideShapes Go.ChangeAt
set_option maxRecDepth 100000
set_option maxHeartbeats 16000000
section
variable {X Z:World} {g:Nat}
end
structure Sp (V X:World) (mb:Option Nat):Prop where
 below:Below V.heap.size V X
 box:∀b,mb=some b->X.heap[b]? =some (.cells #[.slice none 0 0, .slice none 0 0, .slice none 0 0] 49 (0,0))/\V.heap.size<=b
section
variable {V X Y:World} {mb:Option Nat}
end
theorem zoJ {H:Type} {enc:TypeId × Value->H} {P:Program} {w:World} {t e:TypeId} {k:IntKind} {a:Option Addr} {len cap:Nat} {d:DataW H} {p:List MemPlace} (ht:P.underlying t=some (.slice e)) (he:P.underlying e=some (.int k)) (hc:P.cellsOf e=1)
  (h:DataW.Trod enc P w 0 (λ_=>true) true t (.slice a len cap) d p):len<=cap:=by
 obtain⟨fuel,hf⟩:=h
 rcases open_ints ht he hc hf with⟨hcs,_⟩|⟨x,l,c,zs,hcs,_,hl,hm,hz,_,hcell,hws⟩
 ·simp [Value.cells] at hcs
  obtain⟨rfl,rfl,rfl⟩:=hcs
  exact Nat.le_refl _
 simp [Value.cells] at hcs
 obtain⟨rfl,rfl,rfl⟩:=hcs
 exact hl
end Go.Proofs.YtnhahkiojbanfaaGreatDoor
namespace Go.Proofs.YtnhahkiojbanfaaGreatDoor
open Go.RowKit
set_option maxRecDepth 100000
set_option maxHeartbeats 16000000
theorem wrap_u8 {x:Int} (h0:0<=x) (h1:x<=255):IntKind.i64.wrap x=x:=IntWalk.i64_in _ (by omega)
theorem qZ {dom n:Int} :qy dom n=true↔0<=n/\n<dom:=by unfold qy;simp
def zaj (c:zx) (m:zu) (row:List zC) (t:zA):Prop:=0<=t.pc/\t.pc<=(row.length:Int)/\(∀k,k<4->qy c.domain (t.regs.getD k 0)=true)/\∀k,k<t.buf.length->vJ c m t.buf k=true
theorem kN {c:zx} {m:zu} {s:zi} :zP c m s=true↔xC c m=true/\s.threads.length=c.threads.length/\(s.mem.length:Int)=c.vars/\(∀k,k<s.mem.length->qy c.domain (s.mem.getD k 0)=true)/\∀i,i<s.threads.length->zaj c m (c.threads.getD i []) (s.threads.getD i default):=by
 unfold zP uR zaj
 simp only [Bool.and_eq_true,decide_eq_true_eq,List.all_eq_true,List.mem_range]
 constructor
 ·rintro⟨⟨⟨⟨h1,h2⟩,h3⟩,h4⟩,h5⟩
  exact⟨h1,h2,h3,h4,λi hi=>⟨(h5 i hi).1.1.1,(h5 i hi).1.1.2,(h5 i hi).1.2,(h5 i hi).2⟩⟩
 rintro⟨h1,h2,h3,h4,h5⟩
 exact⟨⟨⟨⟨h1,h2⟩,h3⟩,h4⟩,λi hi=>⟨⟨⟨(h5 i hi).1,(h5 i hi).2.1⟩,(h5 i hi).2.2.1⟩,(h5 i hi).2.2.2⟩⟩
theorem kP {c:zx} {m:zu} (h:xC c m=true):codeOk c=true/\2<=c.domain:=by
 unfold xC at h
 simp only [Bool.and_eq_true,decide_eq_true_eq] at h
 exact⟨h.1.1.1.1,(yQ h.1.1.1.1).2.2.1⟩
theorem zrV {regs:List Int} {dom:Int} (hd:1<=dom) (hr:∀k,k<4->qy dom (regs.getD k 0)=true) {x:zG} {e:Nat} (hx:zH dom e x=true) (d:Nat):qy dom (zW regs dom d x)=true:=by
 cases d with
 |zero=>rw [qZ];unfold zW;omega
 |succ d=>
 unfold zW
 cases e with
 |zero=>cases hx
 |succ e=>
 unfold zH at hx
 split
 ·rename_i h1
  rw [if_pos h1] at hx
  simp only [Bool.and_eq_true,decide_eq_true_eq] at hx
  rw [qZ];exact hx.1.1
 split
 ·split
  ·rename_i h;exact hr _ (by omega)
  rw [qZ];omega
 split
 ·rw [qZ];exact⟨Int.emod_nonneg _ (by omega),Int.emod_lt_of_pos _ (by omega)⟩
 rw [qZ];omega
theorem zc0 {dom:Int} {l:List Int} (hl:∀k,k<l.length->qy dom (l.getD k 0)=true) (v:Nat) {n:Int} (hn:qy dom n=true):∀k,k<(l.set v n).length->qy dom ((l.set v n).getD k 0)=true:=λk hk=>by
 rw [List.length_set] at hk
 by_cases e:k=v
 ·subst e
  rw [List.getD_eq_getElem?_getD,List.getElem?_set_self hk];exact hn
 rw [List.getD_eq_getElem?_getD,List.getElem?_set_ne (Ne.symm e), <-List.getD_eq_getElem?_getD];exact hl k hk
theorem zrW {dom:Int} {l:List Int} (hl:∀k,k<4->qy dom (l.getD k 0)=true) (v:Nat) {n:Int} (hn:qy dom n=true):∀k,k<4->qy dom ((l.set v n).getD k 0)=true:=λk hk=>by
 by_cases e:k=v
 ·subst e
  by_cases hk2:k<l.length
  ·rw [List.getD_eq_getElem?_getD,List.getElem?_set_self hk2];exact hn
  rw [List.set_eq_of_length_le (by omega)];exact hl k hk
 rw [List.getD_eq_getElem?_getD,List.getElem?_set_ne (Ne.symm e), <-List.getD_eq_getElem?_getD];exact hl k hk
theorem wH {c:zx} {m:zu} {l:List zl} {k:Nat} (h:vJ c m l k=true):qQ (l.take k) m (l.getD k default)=true/\0<=(l.getD k default).var/\(l.getD k default).var<c.vars/\qy c.domain (l.getD k default).n=true:=by
 unfold vJ at h
 simp only [Bool.and_eq_true,decide_eq_true_eq] at h
 exact⟨h.1.1.1.1,h.1.1.1.2,h.1.1.2,qZ.2 ⟨h.1.2,h.2⟩⟩
theorem zdl {c:zx} {m:zu} {l:List zl} {k:Nat} (h1:qQ (l.take k) m (l.getD k default)=true) (h2:0<=(l.getD k default).var) (h3:(l.getD k default).var<c.vars) (h4:qy c.domain (l.getD k default).n=true):vJ c m l k=true:=by
 unfold vJ
 simp only [Bool.and_eq_true,decide_eq_true_eq]
 exact⟨⟨⟨⟨h1,h2⟩,h3⟩,(qZ.1 h4).1⟩,(qZ.1 h4).2⟩
theorem zoK {c:zx} {m:zu} {l:List zl} (h:∀k,k<l.length->vJ c m l k=true) (v:Int):∀i n,i<=l.length->gB l v i=some n->qy c.domain n=true:=by
 intro i
 induction i with
 |zero=>intro n _ h2;unfold gB at h2;cases h2
 |succ i ih=>
 intro n hi h2
 unfold gB at h2
 split at h2
 ·cases h2;exact(wH (h i (by omega))).2.2.2
 exact ih n (by omega) h2
theorem zoL {c:zx} {m:zu} {l:List zl} (h:∀k,k<l.length->vJ c m l k=true) {x:zl} (hp:qQ l m x=true) (h2:0<=x.var) (h3:x.var<c.vars) (h4:qy c.domain x.n=true):∀k,k<(l++ [x]).length->vJ c m (l++ [x]) k=true:=λk hk=>by
 rw [List.length_append,List.length_singleton] at hk
 by_cases e:k=l.length
 ·subst e
  have hg:(l++ [x]).getD l.length default=x:=kQ
  exact zdl (by rw [hg,List.take_left];exact hp) (by rw [hg];exact h2) (by rw [hg];exact h3) (by rw [hg];exact h4)
 have hk2:k<l.length:=by omega
 have hg:(l++ [x]).getD k default=l.getD k default:=kR hk2
 obtain⟨a1,a2,a3,a4⟩:=wH (h k hk2)
 exact zdl (by rw [hg,List.take_append_of_le_length (by omega)];exact a1) (by rw [hg];exact a2) (by rw [hg];exact a3) (by rw [hg];exact a4)
theorem zh3 {l r:List zl} {m:zu} {x:zl} (h:qQ l m x=true) (hs:r.Sublist l):qQ r m x=true:=by
 unfold qQ zb7 at h ⊢
 simp only [Bool.and_eq_true,decide_eq_true_eq] at h ⊢
 have:=hs.countP_le (p:=λy=>decide (m.model=1)||decide (y.var=x.var))
 exact⟨h.1,by omega⟩
theorem zkO {c:zx} {m:zu} {l:List zl} (h:∀k,k<l.length->vJ c m l k=true) (p:Nat):∀k,k<(l.eraseIdx p).length->vJ c m (l.eraseIdx p) k=true:=λk hk=>by
 by_cases hp:p<l.length
 rotate_left
 ·rw [List.eraseIdx_of_length_le (by omega)] at hk ⊢
  exact h k hk
 have hl:(l.eraseIdx p).length=l.length - 1:=List.length_eraseIdx_of_lt hp
 rw [hl] at hk
 by_cases e:k<p
 ·have hg:(l.eraseIdx p).getD k default=l.getD k default:=by
   simp only [List.getD_eq_getElem?_getD,List.getElem?_eraseIdx,if_pos e]
  obtain⟨a1,a2,a3,a4⟩:=wH (h k (by omega))
  have ht:((l.eraseIdx p).take k).Sublist (l.take k):=by
   rw [List.eraseIdx_eq_take_drop_succ,List.take_append_of_le_length (by rw [List.length_take];omega),List.take_take,Nat.min_eq_left (by omega)]
   exact List.Sublist.refl _
  exact zdl (by rw [hg];exact zh3 a1 ht) (by rw [hg];exact a2) (by rw [hg];exact a3) (by rw [hg];exact a4)
 have hg:(l.eraseIdx p).getD k default=l.getD (k+1) default:=by
  simp only [List.getD_eq_getElem?_getD,List.getElem?_eraseIdx,if_neg e]
 obtain⟨a1,a2,a3,a4⟩:=wH (h (k+1) (by omega))
 have ht:((l.eraseIdx p).take k).Sublist (l.take (k+1)):=by
  rw [List.eraseIdx_eq_take_drop_succ,List.take_append,List.length_take,Nat.min_eq_left (by omega),List.take_take,Nat.min_eq_right (by omega)]
  have:l.take (k+1)=l.take p++(l.drop p).take (k+1 - p):=by
   rw [<-List.take_append_drop p l,List.take_append,List.length_take,Nat.min_eq_left (by omega),List.take_take,Nat.min_eq_right (by omega),List.take_append_drop]
  rw [this]
  refine List.Sublist.append_left ?_ _
  rw [show k+1 - p=(k - p)+1 by omega,List.drop_eq_getElem_cons hp,List.take_succ_cons]
  exact List.sublist_cons_self _ _
 exact zdl (by rw [hg];exact zh3 a1 ht) (by rw [hg];exact a2) (by rw [hg];exact a3) (by rw [hg];exact a4)
theorem zh4 (l:List zl) (v:Int):∀i,i<=l.length->((yL l v i).1=none->(yL l v i).2=l.take i)/\∀e,(yL l v i).1=some e->∃p,p<i/\l.getD p default=e/\(yL l v i).2=(l.take i).eraseIdx p:=by
 intro i
 induction i with
 |zero=>intro _;exact⟨λ_=>rfl,λe h=>by cases h⟩
 |succ i ih=>
 intro hi
 obtain⟨h1,h2⟩:=ih (by omega)
 have htk:l.take (i+1)=l.take i++ [l.getD i default] :=by rw [List.take_succ_eq_append_getElem (by omega),List.getD_eq_getElem?_getD,List.getElem?_eq_getElem (by omega)];rfl
 unfold yL
 split
 ·rename_i h
  simp only [Bool.and_eq_true,decide_eq_true_eq,Option.isNone_iff_eq_none] at h
  refine⟨(λe=>by cases e),λe he=> ?_⟩
  cases he
  refine⟨i,by omega,rfl, ?_⟩
  rw [htk,List.eraseIdx_append_of_length_le (by rw [List.length_take];omega),List.length_take,Nat.min_eq_left (by omega),Nat.sub_self]
  simp [h1 h.1]
 refine⟨λe=>by rw [htk, <-h1 e],λe he=> ?_⟩
 obtain⟨p,hp,hpe,h3⟩:=h2 e he
 refine⟨p,by omega,hpe, ?_⟩
 rw [htk,List.eraseIdx_append_of_lt_length (by rw [List.length_take];omega)]
 show(yL l v i).2++ [l.getD i default] =_
 rw [h3]
theorem zd8 {vars dom:Int} {many:Nat} {x:zC} (h:qF vars dom many x=true):(x.op=12->zH dom 20 x.a=true/\0<=x.dest/\x.dest<=many)/\(x.op=13->0<=x.dest/\x.dest<=many)/\(¬x.op=12->¬x.op=13->xH x.op x.reg x.var x.a x.b vars dom=true):=by
 unfold qF at h
 refine⟨λe=> ?_,λe=> ?_,λe1 e2=> ?_⟩
 ·rw [if_pos e] at h
  unfold xY xH at h
  simp only [Bool.and_eq_true,decide_eq_true_eq] at h
  have:=h.2.1.2
  unfold jv at this
  rw [if_pos (by decide)] at this
  exact⟨this,h.1.1.2,h.1.2⟩
 ·rw [if_neg (by omega),if_pos e] at h
  unfold xY at h
  simp only [Bool.and_eq_true,decide_eq_true_eq] at h
  exact⟨h.1.1.2,h.1.2⟩
 rw [if_neg e1,if_neg e2] at h
 split at h
 ·cases h
 unfold xY at h
 simp only [Bool.and_eq_true] at h
 exact h.2
theorem uw {k reg v:Int} {a b:zG} {vars dom:Int} (h:xH k reg v a b vars dom=true):(jg k=true->0<=v/\v<vars)/\(jG k=true->zH dom 20 a=true)/\(hasB k=true->zH dom 20 b=true):=by
 unfold xH at h
 simp only [Bool.and_eq_true] at h
 obtain⟨⟨⟨-,h2⟩,h3⟩,h4⟩:=h
 refine⟨λe=> ?_,λe=> ?_,λe=> ?_⟩
 ·unfold vO at h2;rw [if_pos e] at h2;simpa using h2
 ·unfold jv at h3;rw [if_pos e] at h3;exact h3
 unfold kG at h4;rw [if_pos e] at h4;exact h4
theorem zkP {c:zx} {m:zu} {s:zi} {t:zA} {x:zC} {d:Nat} {row:List zC} {r:zA × List Int × Bool} (hm:xC c m=true) (ht:zaj c m row t) (hpc:t.pc<(row.length:Int)) (hx:qF c.vars c.domain row.length x=true)
  (hv:(s.mem.length:Int)=c.vars) (hmem:∀k,k<s.mem.length->qy c.domain (s.mem.getD k 0)=true) (h:stepT c m s t x d=some r):zaj c m row r.1/\∀k,k<r.2.1.length->qy c.domain (r.2.1.getD k 0)=true:=by
 obtain⟨hcode,hdom⟩:=kP hm
 obtain⟨t1,t2,t3,t4⟩:=ht
 obtain⟨f12,f13,fp⟩:=zd8 hx
 have hnext:zaj c m row ⟨t.pc+1,t.regs,t.buf⟩:=⟨by show 0<=t.pc+1;omega,by show t.pc+1<=_;omega,t3,t4⟩
 have hset:∀(rg:Nat) (n:Int),qy c.domain n=true->zaj c m row ⟨t.pc+1,t.regs.set rg n,t.buf⟩:=λrg n hn=>⟨by show 0<=t.pc+1;omega,by show t.pc+1<=_;omega,zrW t3 rg hn,t4⟩
 have h0:qy c.domain 0=true:=by rw [qZ];omega
 have h1:qy c.domain 1=true:=by rw [qZ];omega
 have hev:∀y,zH c.domain 20 y=true->qy c.domain (zW t.regs c.domain d y)=true:=λy hy=>zrV (by omega) t3 hy d
 by_cases e1:x.op=1
 ·obtain⟨p1, -, -⟩:=uw (fp (by omega) (by omega))
  have hvr:=p1 (by rw [e1];rfl)
  rw [uh e1] at h;cases h
  refine⟨hset _ _ ?_,hmem⟩
  cases hl:wI t.buf x.var with
  |none=>exact hmem _ (by omega)
  |some n=>exact zoK t4 x.var _ n (Nat.le_refl _) hl
 by_cases e2:x.op=2
 ·obtain⟨p1,p2, -⟩:=uw (fp (by omega) (by omega))
  have hvr:=p1 (by rw [e2];rfl)
  have ha:=hev _ (p2 (by rw [e2];rfl))
  by_cases hmo:m.model=0
  ·rw [jF e2 hmo] at h;cases h;exact⟨hnext,zc0 hmem _ ha⟩
  cases hp:qQ t.buf m ⟨x.var,zW t.regs c.domain d x.a⟩ with
  |true=>
   rw [zah e2 hmo hp] at h;cases h
   refine⟨⟨by show 0<=t.pc+1;omega,by show t.pc+1<=_;omega,t3, ?_⟩,hmem⟩
   show∀k,k<(wP t.buf m ⟨x.var,zW t.regs c.domain d x.a⟩).length->vJ c m (wP t.buf m ⟨x.var,zW t.regs c.domain d x.a⟩) k=true
   unfold wP
   rw [if_pos hp]
   exact zoL t4 hp hvr.1 hvr.2 ha
  |false=>rw [zai e2 hmo hp] at h;cases h
 by_cases e3:x.op=3
 ·obtain⟨-,p2, -⟩:=uw (fp (by omega) (by omega))
  rw [za5 e3] at h;cases h;exact⟨hset _ _ (hev _ (p2 (by rw [e3];rfl))),hmem⟩
 by_cases e4:x.op=4
 ·rw [uZ e4] at h;split at h<;>cases h;exact⟨hnext,hmem⟩
 by_cases e5:x.op=5
 ·rw [pz e5] at h;split at h<;>cases h;exact⟨hnext,hmem⟩
 by_cases e6:x.op=6
 ·obtain⟨-, -,p3⟩:=uw (fp (by omega) (by omega))
  have hb:=hev _ (p3 (by rw [e6];rfl))
  by_cases hv2:s.mem.getD x.var.toNat 0=zW t.regs c.domain d x.a
  ·rw [p8 e6 hv2] at h;split at h<;>cases h;exact⟨hset _ _ h1,zc0 hmem _ hb⟩
  rw [p9 e6 hv2] at h;split at h<;>cases h;exact⟨hset _ _ h0,hmem⟩
 by_cases e7:x.op=7
 ·rw [pE e7] at h;split at h<;>cases h;exact⟨hnext,zc0 hmem _ h1⟩
 by_cases e8:x.op=8
 ·rw [uj e8] at h;split at h<;>cases h;exact⟨hnext,zc0 hmem _ h0⟩
 by_cases e9:x.op=9
 ·rw [uo e9] at h;cases h;exact⟨hnext,hmem⟩
 by_cases e12:x.op=12
 ·have hd:=f12 e12
  rw [uq e12] at h;cases h
  refine⟨?_,hmem⟩
  show zaj c m row (if _ then _ else _)
  split
  ·exact⟨hd.2.1,hd.2.2,t3,t4⟩
  exact hnext
 by_cases e13:x.op=13
 ·have hd:=f13 e13
  rw [pF e13] at h;cases h;exact⟨⟨hd.1,hd.2,t3,t4⟩,hmem⟩
 rw [zaN e1 e2 e3 e4 e5 e6 e7 e8 e9 e12 e13] at h;cases h;exact⟨hnext,hmem⟩
theorem zh6 {c:zx} {m:zu} {s:zi} (h:zP c m s=true) {i:Nat} {t:zA} {mem:List Int} {bad:Bool} (hi:i<s.threads.length) (ht:zaj c m (c.threads.getD i []) t) (hl:mem.length=s.mem.length) (hmem:∀k,k<mem.length->qy c.domain (mem.getD k 0)=true):zP c m ⟨s.threads.set i t,mem,bad⟩=true:=by
 obtain⟨h1,h2,h3, -,h5⟩:=kN.1 h
 refine kN.2 ⟨h1,by simpa using h2,by show(mem.length:Int)=_;rw [hl];exact h3,hmem,λj hj=> ?_⟩
 have hj2:j<s.threads.length:=by simpa using hj
 show zaj c m _ ((s.threads.set i t).getD j default)
 by_cases e:j=i
 ·subst e
  have hg:(s.threads.set j t).getD j default=t:=by rw [List.getD_eq_getElem?_getD,List.getElem?_set_self hj2];rfl
  rw [hg];exact ht
 have hg:(s.threads.set i t).getD j default=s.threads.getD j default:=by rw [List.getD_eq_getElem?_getD,List.getElem?_set_ne (Ne.symm e), <-List.getD_eq_getElem?_getD]
 rw [hg];exact h5 j hj2
theorem zgo {c:zx} (h:codeOk c=true) {i k:Nat} (hi:i<c.threads.length) (hk:k<(c.threads.getD i []).length):qF c.vars c.domain (c.threads.getD i []).length ((c.threads.getD i []).getD k default)=true:=by
 unfold codeOk at h
 simp only [Bool.and_eq_true] at h
 have h1:=h.2
 rw [List.all_eq_true] at h1
 have h2:=h1 _ (yC (x:= []) hi)
 unfold rowOk at h2
 simp only [Bool.and_eq_true] at h2
 have h4:=h2.2
 rw [List.all_eq_true] at h4
 exact h4 _ (yC hk)
theorem zbb {c:zx} {m:zu} {s:zi} {d:Nat} {x:zo} (h:x∈yF c m s d):zP c m (qD c m s x d).1=true:=by
 obtain⟨hf, -⟩:=za4 h
 obtain⟨h1,h2,h3,h4,h5⟩:=kN.1 hf
 obtain⟨hcode, -⟩:=kP h1
 obtain⟨i,hi,hx⟩:=zb6 h
 have hti:=h5 i hi
 rcases hx with⟨rfl,t,ht,he⟩|⟨v,rfl,hv,he⟩
 ·rw [he]
  unfold vF at ht
  split at ht
  ·rename_i hpc
   obtain⟨r,hr,rfl⟩:=Option.map_eq_some_iff.1 ht
   have hk:(s.threads.getD i default).pc.toNat<(c.threads.getD i []).length:=by have:=hti.1;omega
   obtain⟨g1,g2⟩:=zkP h1 hti hpc (zgo hcode (by omega) hk) h3 h4 hr
   exact zh6 hf hi g1 (zm9 hr) g2
  cases ht
 rw [he]
 obtain⟨v0,v1,n,hn⟩:=zb1 hf hi hv
 obtain⟨-,k2⟩:=zh4 (s.threads.getD i default).buf v _ (Nat.le_refl _)
 have hn1:(takeB (s.threads.getD i default).buf v).1=some ⟨v,n⟩:=by rw [hn]
 obtain⟨p,hp,hpe,hp2⟩:=k2 _ hn1
 rw [List.take_length] at hp2
 have hw:=wH (hti.2.2.2 p hp)
 rw [hpe] at hw
 unfold wV
 rw [hn1]
 refine zh6 hf hi ⟨hti.1,hti.2.1,hti.2.2.1, ?_⟩ (by simp) (zc0 h4 _ hw.2.2.2)
 show∀k,k<(takeB (s.threads.getD i default).buf v).2.length->vJ c m (takeB (s.threads.getD i default).buf v).2 k=true
 rw [show(takeB (s.threads.getD i default).buf v).2=(s.threads.getD i default).buf.eraseIdx p from hp2]
 exact zkO hti.2.2.2 p
theorem uy {c:zx} {m:zu} (h:xC c m=true):zP c m (xq c)=true:=by
 obtain⟨hc,hd⟩:=kP h
 have hb:=yQ hc
 unfold xq
 rw [if_pos hc]
 refine kN.2 ⟨h,by simp,by simp;omega,λk hk=> ?_,λi hi=> ?_⟩
 ·rw [qZ]
  simp only [List.length_replicate] at hk
  simp [List.getD_eq_getElem?_getD,hk];omega
 simp only [List.length_replicate] at hi
 have hg:(List.replicate c.threads.length (default:zA)).getD i default=default:=by simp [List.getD_eq_getElem?_getD,hi]
 show zaj c m _ ((List.replicate c.threads.length (default:zA)).getD i default)
 rw [hg]
 refine⟨Int.le_refl _,by show(0:Int)<=_;omega,λk hk=> ?_,λk hk=>by simp [default] at hk⟩
 rw [qZ]
 rcases(by omega:k=0\/k=1\/k=2\/k=3) with rfl|rfl|rfl|rfl<;>(constructor<;>(show _;simp [default];try omega))
