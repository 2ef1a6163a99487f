/- Steps. -/
import Derived.Test.YtknmdmimecepfaaGreatDoorVgCompile
import Derived.Test.YtknmdmimecepfaaGreatDoorVgMade2
import Derived.Test.YtknmdmimecepfaaGreatDoorVgSame7
set_option linter.all false
namespace Go.Proofs.YtknmdmimecepfaaGreatDoor
open Go.RowKit
set_option maxRecDepth 100000
set_option maxHeartbeats 16000000
theorem zez {α:Type} [Inhabited α] {R:World->α->List Value->Prop} {size g:Nat} {X Z:World} {v:Value} {l:List α} (hsz:4<=size) (hs:Since (λk=>k=g) X Z) (ht:∀j,3<=j->X.cell? ⟨g,j,none⟩=none) (hR:∀x cs,R X x cs->R Z x cs) (h:zh R size X v l):zh R size Z v l:=by
 obtain⟨a,cap,h1,h2,h4⟩:=h
 refine⟨a,cap,h1,h2,λj hj=> ?_⟩
 obtain⟨b,off,cs,h5,h6,h7,h8,h9⟩:=h4 j hj
 have hne:b≠g:=λe=>by
  subst e
  have h:=h8 (size - 1) (by omega)
  rw [ht _ (by omega),List.getElem?_eq_getElem (by omega)] at h
  cases h
 exact⟨b,off,cs,h5,Nat.lt_of_lt_of_le h6 hs.size,h7,λi hi=>(hs.cell (p:=⟨b,off+j*size+i,none⟩) h6 hne).trans (h8 i hi),hR _ _ h9⟩
theorem zfI {d g:Nat} {X Z:World} (hs:Since (λk=>k=g) X Z) (ht:∀j,3<=j->X.cell? ⟨g,j,none⟩=none) {x:zx} {kv:Value} (h:zu d X x kv):zu d Z x kv:=by
 induction d generalizing x kv with
 |zero=>exact h.elim
 |succ d ih=>exact zez (by omega) hs ht (λy cs ⟨kv',e,h'⟩=>⟨kv',e,ih h'⟩) h
theorem zn1 {d g:Nat} {X Z:World} (hs:Since (λk=>k=g) X Z) (ht:∀j,3<=j->X.cell? ⟨g,j,none⟩=none) {l:List zl} {cs:List Value} (h:qC d X l cs):qC d Z l cs:=by
 obtain⟨v,rfl,h⟩:=h
 exact⟨v,rfl,zez (by omega) hs ht (λy cs ⟨ka,kb,e,h1,h2⟩=>⟨ka,kb,e,zfI hs ht h1,zfI hs ht h2⟩) h⟩
theorem zqg {X:World} {g:Nat} {a b c:Value} {t:TypeId} {f:Nat × Nat} (h:X.heap[g]? =some (.cells #[a,b,c] t f)):∀j,3<=j->X.cell? ⟨g,j,none⟩=none:=λj hj=>by
 rw [za h];exact Array.getElem?_eq_none (by simpa using hj)
theorem zlv {F:Nat->Prop} {X Z:World} {g d:Nat} {a b c:Value} {t:TypeId} {f:Nat × Nat} {l:List zl} {cs:List Value} (h:yA F X (λy=>qC d y l cs)) (hg:X.heap[g]? =some (.cells #[a,b,c] t f)) (hF:¬F g) (hs:Since (λk=>k=g) X Z):yA F Z (λy=>qC d y l cs):=λy hy=>by
 have hgl:=zB hg
 have hz:=hs.size
 have hyz:=hy.size
 have hy0:({y with heap:=y.heap.setIfInBounds g (.cells #[a,b,c] t f)} :World).heap[g]? =some (.cells #[a,b,c] t f):=by
  simp [Array.getElem?_setIfInBounds_self_of_lt (show g<y.heap.size by omega)]
 have hk:∀k,k≠g->({y with heap:=y.heap.setIfInBounds g (.cells #[a,b,c] t f)} :World).heap[k]? =y.heap[k]? :=λk hne=>by
  simp [Array.getElem?_setIfInBounds_ne (Ne.symm hne)]
 have h0:Since F X ({y with heap:=y.heap.setIfInBounds g (.cells #[a,b,c] t f)} :World):=
  ⟨hy.os.trans hs.os,hy.tape.trans hs.tape,hy.output.trans hs.output,by simp;omega,λk hkl hkF=>by
   by_cases e:k=g
   ·subst e;rw [hy0];exact hg.symm
   rw [hk k e,hy.block k (by omega) hkF,hs.block k hkl e]⟩
 have h1:Since (λk=>k=g) ({y with heap:=y.heap.setIfInBounds g (.cells #[a,b,c] t f)} :World) y:=⟨rfl,rfl,rfl,by simp,λk _ hne=>(hk k hne).symm⟩
 exact zn1 h1 (zqg hy0) (h _ h0)
def ziX (w:World) (en:Ending) (w':World):Prop:=(∃c ta tc css,en= .returned (xL c (.slice ta c.threads.length tc))/\codeOk c=true/\xC (λk=>(Value.slice ta c.threads.length tc).ownBlock=some k) w' (qC 3) 1 w.heap.size 40 (.slice ta c.threads.length tc) c.threads css)/\Below w.heap.size w w'
theorem zn2:∀k∈zcc,1<=k/\k<=11:=by decide
theorem zlw (w:World) (sv:Value) (l:List Int) (hn:vU w .u8 sv l) (kv:Value) (ks:List Int) (hks:xX w kv ks) (hk1:1<=ks.length) (hk2:ks.length<=100) (hk3:∀k∈ks,1<=k/\k<=11):
  Calls Tryz.prog 12 #[sv,kv] w (ziX w):=by
 have hb1:=(Below.refl w.heap.size w).alloc (Nat.le_refl _) (.cells #[.int .i64 0, .int .i64 0, .slice none 0 0] 25)
 have hg1:=zT w (.cells #[.int .i64 0, .int .i64 0, .slice none 0 0] 25)
 have zgy:=zlx _ sv l (hn.below hb1) kv ks (zh.below za5.stays hks hb1) hk1 hk2 hk3
 obtain⟨sa,sc,rfl, -⟩:∃a c,sv= .slice a l.length c/\True:=by obtain⟨a,c,h, -⟩:=hn;exact⟨a,c,h,trivial⟩
 obtain⟨ka,kc,rfl, -⟩:=zh.slice hks
 generalize l.length=ln at zgy ⊢
 generalize ks.length=kn at zgy ⊢
 have HB1:=qh hb1
 have xE:=qh hg1
 have zpy:=qh zgy
 clear hb1 hg1 zgy hn hks hk1 hk2 hk3
 go_enter Tryz.func12,Tryz.ntmps12
 go_upto_region 1 with fail
 generalize World.alloc w _=W at HB1 xE zpy ⊢
 obtain⟨gr,hgr⟩:∃gr,gr=w.heap.size:=⟨_,rfl⟩
 rw [<-hgr] at xE ⊢
 have HGR:=qh hgr
 clear hgr
 go_upto_region 2 with(first|(go_at_call 32;go_must(refine(zbr.out).mono ?_);rintro en W3 ⟨⟨ta,tc,css,rfl,hrow⟩,hb⟩;(have yS:=qh hrow);(have HB3:=qh (zm HB2.out hb));(have HG3:=qh ((hb.block _ (zB HG2.out)).trans HG2.out));(have HW3:=qh hb.size);clear hrow hb;unfold xL)|(go_at_call 33;go_must(refine(zpy.out).mono ?_);rintro en W2 ⟨⟨p,vv,tv,rfl,hp,hpa⟩,hb⟩;(have zbr:=qh (ziy 3 4 W2 p hp vv tv hpa));(have qx:=qh (zjS hp));(have HB2:=qh (HB1.out.trans (hb.mono HB1.out.size)));(have HG2:=qh ((hb.block _ (zB xE.out)).trans xE.out));clear hb hp hpa;generalize pG p=c at zbr qx;unfold zcJ at zbr ⊢))
 generalize hcv:c.vars=vars
 generalize hcd:c.domain=dom
 generalize hcl:c.threads.length=cn
 have HCV:=qh hcv
 have HCD:=qh hcd
 have je:=qh hcl
 clear hcv hcd hcl
 have hb4:=HB3.out.alloc HB3.out.size (.cells #[.int .i64 vars, .int .i64 dom, .slice ta cn tc] 25)
 have hg4:=(Below.heap_alloc W3 (.cells #[.int .i64 vars, .int .i64 dom, .slice ta cn tc] 25) _ (zB HG3.out)).trans HG3.out
 have hn4:=zT W3 (.cells #[.int .i64 vars, .int .i64 dom, .slice ta cn tc] 25)
 have hs4:=(Since.refl (λ_=>False) W3).alloc (.cells #[.int .i64 vars, .int .i64 dom, .slice ta cn tc] 25)
 generalize World.alloc W3 _=X at hb4 hg4 hn4 hs4 ⊢
 generalize W3.heap.size=gc at hn4 ⊢
 have s:=vN (g:=gr) [.int .i64 vars, .int .i64 dom, .slice ta cn tc] X 0
 have hset:(qE X gr 0 [.int .i64 vars, .int .i64 dom, .slice ta cn tc]).heap[gr]? =_:=vG (cs:= [.int .i64 0, .int .i64 0, .slice none 0 0]) _ rfl hg4
 have hend:ziX w (.returned (.agg #[.int .i64 vars, .int .i64 dom, .slice ta cn tc])) (qE X gr 0 [.int .i64 vars, .int .i64 dom, .slice ta cn tc]):=by
  have h1:=yS.out
  rw [je.out] at h1
  have hlt:=HW3.out
  have hge:=HB2.out.size
  refine⟨⟨c,ta,tc,css,by unfold xL;rw [HCV.out,HCD.out,je.out],qx.out, ?_⟩,(hb4.trans (s.below hb4.size (λk hk=>by have:=HGR.out;omega)))⟩
  rw [je.out]
  have h2:xC (λk=>(Value.slice ta cn tc).ownBlock=some k) W3 (qC 3) 1 w.heap.size 40 (.slice ta cn tc) c.threads css:=⟨h1.len,h1.part,zbs h1.row hge⟩
  have hown:∀k,(Value.slice ta cn tc).ownBlock=some k->k≠gr:=λk hk e=>by have:=(h1.row.lt k hk).1;have:=zB HG2.out;omega
  have hgr:¬(Value.slice ta cn tc).ownBlock=some gr:=λe=>hown gr e rfl
  exact⟨h2.len,λj hj=>⟨(h2.part j hj).1,zlv ((h2.part j hj).2.step hs4 (λ_ h=>h.elim) (λk hk=> .inl hk)) hg4 hgr s⟩,s.row (hs4.row h2.row (λ_ _ h=>h)) hown⟩
 have zS:=qh hend
 have jM:=qh hset
 have c0:=za hn4 0
 have c1:=za hn4 1
 have c2:=za hn4 2
 have z0:=za hg4 0
 have z1:=za hg4 1
 have z2:=za hg4 2
 have f0:=zF hg4 0
 have f1:=zF hg4 1
 have f2:=zF hg4 2
 clear hend hset s hg4 hn4 hs4 hb4
 go_wp2_with fail
 refine bodyPost_ret (yB rfl _ _ gr 25 _ (0,0) _ rfl jM.out Tryz.underlying25 rfl ze0) rfl ?_
 exact zS.out
end Go.Proofs.YtknmdmimecepfaaGreatDoor
namespace Go.Proofs.YtknmdmimecepfaaGreatDoor
open Go.RowKit
set_option maxRecDepth 100000
set_option maxHeartbeats 16000000
def zxV (vars:Int):List zl:= [⟨2,0,0, .mk 1 1 0 [],default,0⟩,⟨1,0,vars - 1,default,default,0⟩,⟨9,0,0, .mk 2 0 0 [],default,0⟩]
def zxW (vars:Int):List Value:= [.int .i64 2, .int .i64 0, .int .i64 0, .int .i64 1, .int .i64 1, .int .u8 0, .slice none 0 0, .int .i64 0, .int .i64 0, .int .u8 0, .slice none 0 0, .int .i64 0,
 .int .i64 1, .int .i64 0, .int .i64 (vars - 1), .int .i64 0, .int .i64 0, .int .u8 0, .slice none 0 0, .int .i64 0, .int .i64 0, .int .u8 0, .slice none 0 0, .int .i64 0,
 .int .i64 9, .int .i64 0, .int .i64 0, .int .i64 2, .int .i64 0, .int .u8 0, .slice none 0 0, .int .i64 0, .int .i64 0, .int .u8 0, .slice none 0 0, .int .i64 0]
structure zw0 (w X:World) (gc gr g:Nat) (vars dom:Int) (n cap:Nat) (cl:List (List zl)):Prop where
 below:Below w.heap.size w X
 box:X.heap[gc]? =some (.cells #[.int .i64 vars, .int .i64 dom, .slice (some ⟨g,0,none⟩) n cap] 25 (0,0))
 res:X.heap[gr]? =some (.cells #[.int .i64 0, .int .i64 0, .slice none 0 0] 25 (0,0))
 lo:w.heap.size<=gc/\w.heap.size<=gr/\w.heap.size<=g/\gc≠gr/\g≠gc/\g≠gr
 row:∃cur:Array Value,X.heap[g]? =some (.cells cur 40 (0,0))/\n<=cur.size/\∀j,j<n->∃a c,cur[j]? =some (.slice a (cl.getD j []).length c)/\yA (λk=>k=g) X (λy=>qC 3 y (cl.getD j []) [.slice a (cl.getD j []).length c])
 len:cl.length=n
 ok:∀j,j<n->rowOk vars dom (cl.getD j [])=true
 room:n<=cap/\cap<=9223372036854775807
section
variable {w X:World} {gc gr g n cap:Nat} {vars dom:Int} {cl:List (List zl)}
end
end Go.Proofs.YtknmdmimecepfaaGreatDoor
namespace Go.Proofs.YtknmdmimecepfaaGreatDoor
open Go.RowKit
set_option maxRecDepth 100000
set_option maxHeartbeats 16000000
theorem jN {dom n:Int} :ze1 dom n=true↔0<=n/\n<dom:=by unfold ze1;simp
theorem zqh {regs:List Int} {dom:Int} (hd:1<=dom) (hr:∀k,k<4->ze1 dom (regs.getD k 0)=true) {x:zx} {e:Nat} (hx:zy dom e x=true) (d:Nat):ze1 dom (yO regs dom d x)=true:=by
 cases d with
 |zero=>rw [jN];unfold yO;omega
 |succ d=>
 unfold yO
 cases e with
 |zero=>cases hx
 |succ e=>
 unfold zy at hx
 split
 ·rename_i h1
  rw [if_pos h1] at hx
  simp only [Bool.and_eq_true,decide_eq_true_eq] at hx
  rw [jN];exact hx.1.1
 split
 ·split
  ·rename_i h;exact hr _ (by omega)
  rw [jN];omega
 split
 ·rw [jN];exact⟨Int.emod_nonneg _ (by omega),Int.emod_lt_of_pos _ (by omega)⟩
 rw [jN];omega
theorem zly {c:zo} (h:codeOk c=true) {i k:Nat} (hi:i<c.threads.length) (hk:k<(c.threads.getD i []).length):xO c.vars c.domain (c.threads.getD i []).length ((c.threads.getD i []).getD k default)=true:=by
 unfold codeOk at h
 simp only [Bool.and_eq_true] at h
 have h1:=h.2
 rw [List.all_eq_true] at h1
 have h2:=h1 _ (yL (x:= []) hi)
 unfold rowOk at h2
 simp only [Bool.and_eq_true] at h2
 have h4:=h2.2
 rw [List.all_eq_true] at h4
 exact h4 _ (yL hk)
