/- Steps. -/
import Derived.Test.YtnhahkiojbanfaaGreatDoorRsCompile
import Derived.Test.YtnhahkiojbanfaaGreatDoorRsMade2
set_option linter.all false
namespace Go.Proofs.YtnhahkiojbanfaaGreatDoor
open Go.RowKit
set_option maxRecDepth 100000
set_option maxHeartbeats 16000000
theorem ziv {α:Type} [Inhabited α] {R:World->α->List Value->Prop} {size g:Nat} {X Z:World} {v:Value} {l:List α} (hsz:4<=size) (hs:Since (λk=>k=g) X Z) (ht:∀j,3<=j->X.cell? ⟨g,j,none⟩=none) (hR:∀x cs,R X x cs->R Z x cs) (h:zh R size X v l):zh R size Z v l:=by
 obtain⟨a,cap,h1,h2,h4⟩:=h
 refine⟨a,cap,h1,h2,λj hj=> ?_⟩
 obtain⟨b,off,cs,h5,h6,h7,h8,h9⟩:=h4 j hj
 have hne:b≠g:=λe=>by
  subst e
  have h:=h8 (size - 1) (by omega)
  rw [ht _ (by omega),List.getElem?_eq_getElem (by omega)] at h
  cases h
 exact⟨b,off,cs,h5,Nat.lt_of_lt_of_le h6 hs.size,h7,λi hi=>(hs.cell (p:=⟨b,off+j*size+i,none⟩) h6 hne).trans (h8 i hi),hR _ _ h9⟩
theorem zjZ {d g:Nat} {X Z:World} (hs:Since (λk=>k=g) X Z) (ht:∀j,3<=j->X.cell? ⟨g,j,none⟩=none) {x:zO} {kv:Value} (h:zG d X x kv):zG d Z x kv:=by
 induction d generalizing x kv with
 |zero=>exact h.elim
 |succ d ih=>exact ziv (by omega) hs ht (λy cs ⟨kv',e,h'⟩=>⟨kv',e,ih h'⟩) h
theorem zlK {d g:Nat} {X Z:World} (hs:Since (λk=>k=g) X Z) (ht:∀j,3<=j->X.cell? ⟨g,j,none⟩=none) {l:List zS} {cs:List Value} (h:qD d X l cs):qD d Z l cs:=by
 obtain⟨v,rfl,h⟩:=h
 exact⟨v,rfl,ziv (by omega) hs ht (λy cs ⟨ka,kb,e,h1,h2⟩=>⟨ka,kb,e,zjZ hs ht h1,zjZ hs ht h2⟩) h⟩
theorem zoo {X:World} {g:Nat} {a b c:Value} {t:TypeId} {f:Nat × Nat} (h:X.heap[g]? =some (.cells #[a,b,c] t f)):∀j,3<=j->X.cell? ⟨g,j,none⟩=none:=λj hj=>by
 rw [ze h];exact Array.getElem?_eq_none (by simpa using hj)
theorem zka {F:Nat->Prop} {X Z:World} {g d:Nat} {a b c:Value} {t:TypeId} {f:Nat × Nat} {l:List zS} {cs:List Value} (h:zW F X (λy=>qD d y l cs)) (hg:X.heap[g]? =some (.cells #[a,b,c] t f)) (hF:¬F g) (hs:Since (λk=>k=g) X Z):zW F Z (λy=>qD d y l cs):=λy hy=>by
 have hgl:=zw hg
 have hz:=hs.size
 have hyz:=hy.size
 have hy0:({y with heap:=y.heap.setIfInBounds g (.cells #[a,b,c] t f)} :World).heap[g]? =some (.cells #[a,b,c] t f):=by
  simp [Array.getElem?_setIfInBounds_self_of_lt (show g<y.heap.size by omega)]
 have hk:∀k,k≠g->({y with heap:=y.heap.setIfInBounds g (.cells #[a,b,c] t f)} :World).heap[k]? =y.heap[k]? :=λk hne=>by
  simp [Array.getElem?_setIfInBounds_ne (Ne.symm hne)]
 have h0:Since F X ({y with heap:=y.heap.setIfInBounds g (.cells #[a,b,c] t f)} :World):=
  ⟨hy.os.trans hs.os,hy.tape.trans hs.tape,hy.output.trans hs.output,by simp;omega,λk hkl hkF=>by
   by_cases e:k=g
   ·subst e;rw [hy0];exact hg.symm
   rw [hk k e,hy.block k (by omega) hkF,hs.block k hkl e]⟩
 have h1:Since (λk=>k=g) ({y with heap:=y.heap.setIfInBounds g (.cells #[a,b,c] t f)} :World) y:=⟨rfl,rfl,rfl,by simp,λk _ hne=>(hk k hne).symm⟩
 exact zlK h1 (zoo hy0) (h _ h0)
def zop (w:World) (en:Ending) (w':World):Prop:=(∃c ta tc css,en= .returned (yQ c (.slice ta c.threads.length tc))/\codeOk c=true/\yV (λk=>(Value.slice ta c.threads.length tc).ownBlock=some k) w' (qD 3) 1 w.heap.size 55 (.slice ta c.threads.length tc) c.threads css)/\Below w.heap.size w w'
theorem zu0:∀k∈zfk,1<=k/\k<=11:=by decide
theorem zrA (w:World) (sv:Value) (l:List Int) (hn:jG w .u8 sv l) (kv:Value) (ks:List Int) (hks:qm w kv ks) (hk1:1<=ks.length) (hk2:ks.length<=100) (hk3:∀k∈ks,1<=k/\k<=11):
  Calls Tryz.prog 17 #[sv,kv] w (zop w):=by
 have hb1:=(Below.refl w.heap.size w).alloc (Nat.le_refl _) (.cells #[.int .i64 0, .int .i64 0, .slice none 0 0] 26)
 have hg1:=yj w (.cells #[.int .i64 0, .int .i64 0, .slice none 0 0] 26)
 have zet:=zqY _ sv l (hn.below hb1) kv ks (zh.below zae.stays hks hb1) hk1 hk2 hk3
 obtain⟨sa,sc,rfl, -⟩:∃a c,sv= .slice a l.length c/\True:=by obtain⟨a,c,h, -⟩:=hn;exact⟨a,c,h,trivial⟩
 obtain⟨ka,kc,rfl, -⟩:=zh.slice hks
 generalize l.length=ln at zet ⊢
 generalize ks.length=kn at zet ⊢
 have HB1:=qh hb1
 have qE:=qh hg1
 have zeu:=qh zet
 clear hb1 hg1 zet hn hks hk1 hk2 hk3
 go_enter Tryz.func17,Tryz.ntmps17
 go_upto_region 1 with fail
 generalize World.alloc w _=W at HB1 qE zeu ⊢
 obtain⟨gr,hgr⟩:∃gr,gr=w.heap.size:=⟨_,rfl⟩
 rw [<-hgr] at qE ⊢
 have ug:=qh hgr
 clear hgr
 go_upto_region 2 with(first|(go_at_call 32;go_must(refine(zp4.out).mono ?_);rintro en W3 ⟨⟨ta,tc,css,rfl,hrow⟩,hb⟩;(have qZ:=qh hrow);(have HB3:=qh (zH HB2.out hb));(have jv:=qh ((hb.block _ (zw HG2.out)).trans HG2.out));(have HW3:=qh hb.size);clear hrow hb;unfold yQ)|(go_at_call 33;go_must(refine(zeu.out).mono ?_);rintro en W2 ⟨⟨p,vv,tv,rfl,hp,hpa⟩,hb⟩;(have zp4:=qh (znp 3 4 W2 p hp vv tv hpa));(have je:=qh (zp5 hp));(have HB2:=qh (HB1.out.trans (hb.mono HB1.out.size)));(have HG2:=qh ((hb.block _ (zw qE.out)).trans qE.out));clear hb hp hpa;generalize zcE p=c at zp4 je;unfold zga at zp4 ⊢))
 generalize hcv:c.vars=vars
 generalize hcd:c.domain=dom
 generalize hcl:c.threads.length=cn
 have HCV:=qh hcv
 have HCD:=qh hcd
 have HCL:=qh hcl
 clear hcv hcd hcl
 have hb4:=HB3.out.alloc HB3.out.size (.cells #[.int .i64 vars, .int .i64 dom, .slice ta cn tc] 26)
 have hg4:=(Below.heap_alloc W3 (.cells #[.int .i64 vars, .int .i64 dom, .slice ta cn tc] 26) _ (zw jv.out)).trans jv.out
 have bH:=yj W3 (.cells #[.int .i64 vars, .int .i64 dom, .slice ta cn tc] 26)
 have hs4:=(Since.refl (λ_=>False) W3).alloc (.cells #[.int .i64 vars, .int .i64 dom, .slice ta cn tc] 26)
 generalize World.alloc W3 _=X at hb4 hg4 bH hs4 ⊢
 generalize W3.heap.size=gc at bH ⊢
 have s:=xR (g:=gr) [.int .i64 vars, .int .i64 dom, .slice ta cn tc] X 0
 have hset:(yx X gr 0 [.int .i64 vars, .int .i64 dom, .slice ta cn tc]).heap[gr]? =_:=vw (cs:= [.int .i64 0, .int .i64 0, .slice none 0 0]) _ rfl hg4
 have hend:zop w (.returned (.agg #[.int .i64 vars, .int .i64 dom, .slice ta cn tc])) (yx X gr 0 [.int .i64 vars, .int .i64 dom, .slice ta cn tc]):=by
  have h1:=qZ.out
  rw [HCL.out] at h1
  have hlt:=HW3.out
  have hge:=HB2.out.size
  refine⟨⟨c,ta,tc,css,by unfold yQ;rw [HCV.out,HCD.out,HCL.out],je.out, ?_⟩,(hb4.trans (s.below hb4.size (λk hk=>by have:=ug.out;omega)))⟩
  rw [HCL.out]
  have h2:yV (λk=>(Value.slice ta cn tc).ownBlock=some k) W3 (qD 3) 1 w.heap.size 55 (.slice ta cn tc) c.threads css:=⟨h1.len,h1.part,zlL h1.row hge⟩
  have hown:∀k,(Value.slice ta cn tc).ownBlock=some k->k≠gr:=λk hk e=>by have:=(h1.row.lt k hk).1;have:=zw HG2.out;omega
  have hgr:¬(Value.slice ta cn tc).ownBlock=some gr:=λe=>hown gr e rfl
  exact⟨h2.len,λj hj=>⟨(h2.part j hj).1,zka ((h2.part j hj).2.step hs4 (λ_ h=>h.elim) (λk hk=> .inl hk)) hg4 hgr s⟩,s.row (hs4.row h2.row (λ_ _ h=>h)) hown⟩
 have zR:=qh hend
 have zJ:=qh hset
 have c0:=ze bH 0
 have c1:=ze bH 1
 have c2:=ze bH 2
 have z0:=ze hg4 0
 have z1:=ze hg4 1
 have z2:=ze hg4 2
 have f0:=zA hg4 0
 have f1:=zA hg4 1
 have f2:=zA hg4 2
 clear hend hset s hg4 bH hs4 hb4
 go_wp2_with fail
 refine bodyPost_ret (xQ rfl _ _ gr 26 _ (0,0) _ rfl zJ.out Tryz.underlying26 rfl zev) rfl ?_
 exact zR.out
end Go.Proofs.YtnhahkiojbanfaaGreatDoor
namespace Go.Proofs.YtnhahkiojbanfaaGreatDoor
open Go.RowKit
set_option maxRecDepth 100000
set_option maxHeartbeats 16000000
theorem zrB {w:World} {k:IntKind} {a:Option Addr} {n cap m:Nat} {l:List Int} (h:jG w k (.slice a n cap) l) (hm:m<=n):jG w k (.slice a m cap) (l.take m):=by
 obtain⟨a',cap',he,h2,h3,h4⟩:=h
 cases he
 have hl:(l.take m).length=m:=by rw [List.length_take];omega
 refine⟨a,cap,by rw [hl],by omega,λx hx=>h3 x (List.mem_of_mem_take hx),λj hj=> ?_⟩
 rw [hl] at hj
 obtain⟨b,off,h5,h6,h7⟩:=h4 j (by omega)
 refine⟨b,off,h5,h6, ?_⟩
 rw [h7]
 simp only [List.getD_eq_getElem?_getD,List.getElem?_take_of_lt hj]
def zci (vars:Int):List zS:= [⟨2,0,0, .mk 1 1 0 [],default,0⟩,⟨1,0,vars - 1,default,default,0⟩,⟨9,0,0, .mk 2 0 0 [],default,0⟩]
def zcj (vars:Int):List Value:= [.int .i64 2, .int .i64 0, .int .i64 0, .int .i64 1, .int .i64 1, .int .u8 0, .slice none 0 0, .int .i64 0, .int .i64 0, .int .u8 0, .slice none 0 0, .int .i64 0,
 .int .i64 1, .int .i64 0, .int .i64 (vars - 1), .int .i64 0, .int .i64 0, .int .u8 0, .slice none 0 0, .int .i64 0, .int .i64 0, .int .u8 0, .slice none 0 0, .int .i64 0,
 .int .i64 9, .int .i64 0, .int .i64 0, .int .i64 2, .int .i64 0, .int .u8 0, .slice none 0 0, .int .i64 0, .int .i64 0, .int .u8 0, .slice none 0 0, .int .i64 0]
theorem zxZ {vars dom:Int} (h1:1<=vars) (h2:2<=dom):rowOk vars dom (zci vars)=true:=by
 have a1:qM vars dom 2 0 ⟨2,0,0, .mk 1 1 0 [],default,0⟩=true:=by
  have p1:kC 2 0 vars=true:=by simp [kC,wu];omega
  have p2:wW 2 (.mk 1 1 0 []) dom=true:=zf2 (by decide) (zrC (n:=1) (d:=1) (by omega))
  have p3:bC 2 0=true:=by decide
  have p4:bg 2 default dom=true:=by rfl
  simp [qM,qH,p1,p2,p3,p4]
 have a2:qM vars dom 1 0 ⟨1,0,vars - 1,default,default,0⟩=true:=by
  have p1:kC 1 (vars - 1) vars=true:=by simp [kC,wu];omega
  have p2:wW 1 default dom=true:=by rfl
  have p3:bC 1 0=true:=by decide
  have p4:bg 1 default dom=true:=by rfl
  simp [qM,qH,p1,p2,p3,p4]
 have a3:qM vars dom 9 0 ⟨9,0,0, .mk 2 0 0 [],default,0⟩=true:=by
  have p1:kC 9 0 vars=true:=by simp [kC,wu]
  have p2:wW 9 (.mk 2 0 0 []) dom=true:=zf2 (by decide) (zrD (n:=0) (d:=1) (by omega))
  have p3:bC 9 0=true:=by decide
  have p4:bg 9 default dom=true:=by rfl
  simp [qM,qH,p1,p2,p3,p4]
 simp [rowOk,zci,qC,a1,a2,a3]
theorem zya {X:World} {g:Nat} {vars:Int} (h:X.heap[g]? =some (.cells (zcj vars).toArray 60 (0,0))):qD 3 X (zci vars) [.slice (some ⟨g,0,none⟩) 3 3] :=by
 have hn:∀k n o:Int,zG 3 X (.mk k n o []) (.slice none 0 0):=λk n o=>⟨none,0,rfl,by simp [zO.kids],λj hj=>by simp [zO.kids] at hj⟩
 have hd:zG 3 X default (.slice none 0 0):=hn 0 0 0
 refine⟨_,rfl,_,3,rfl,by simp [zci],λj hj=> ?_⟩
 have hj3:j=0\/j=1\/j=2:=by simp [zci] at hj;omega
 rcases hj3 with rfl|rfl|rfl
 ·refine⟨g,0,(zcj vars).take 12,rfl,zw h,rfl,λi hi=> ?_, .slice none 0 0, .slice none 0 0,rfl,hn _ _ _,hd⟩
  rw [ze h]
  simp only [Nat.zero_mul,Nat.zero_add,List.getElem?_toArray,List.getElem?_take_of_lt hi]
 ·refine⟨g,0,((zcj vars).drop 12).take 12,rfl,zw h,rfl,λi hi=> ?_, .slice none 0 0, .slice none 0 0,rfl,hd,hd⟩
  rw [ze h]
  simp only [List.getElem?_toArray,List.getElem?_take_of_lt hi,List.getElem?_drop]
 refine⟨g,0,((zcj vars).drop 24).take 12,rfl,zw h,rfl,λi hi=> ?_, .slice none 0 0, .slice none 0 0,rfl,hn _ _ _,hd⟩
 rw [ze h]
 simp only [List.getElem?_toArray,List.getElem?_take_of_lt hi,List.getElem?_drop]
structure uO (w X:World) (gc gr g:Nat) (vars dom:Int) (n cap:Nat) (cl:List (List zS)):Prop where
 below:Below w.heap.size w X
 box:X.heap[gc]? =some (.cells #[.int .i64 vars, .int .i64 dom, .slice (some ⟨g,0,none⟩) n cap] 26 (0,0))
 res:X.heap[gr]? =some (.cells #[.int .i64 0, .int .i64 0, .slice none 0 0] 26 (0,0))
 lo:w.heap.size<=gc/\w.heap.size<=gr/\w.heap.size<=g/\gc≠gr/\g≠gc/\g≠gr
 row:∃cur:Array Value,X.heap[g]? =some (.cells cur 55 (0,0))/\n<=cur.size/\∀j,j<n->∃a c,cur[j]? =some (.slice a (cl.getD j []).length c)/\zW (λk=>k=g) X (λy=>qD 3 y (cl.getD j []) [.slice a (cl.getD j []).length c])
 len:cl.length=n
 ok:∀j,j<n->rowOk vars dom (cl.getD j [])=true
 room:n<=cap/\cap<=9223372036854775807
section
variable {w X:World} {gc gr g n cap:Nat} {vars dom:Int} {cl:List (List zS)}
theorem uO.first {Y:World} {tc:Nat} {ta:Option Addr} {css:List (List Value)} (hb:Below w.heap.size w Y) (hc:yV (λk=>(Value.slice ta n tc).ownBlock=some k) Y (qD 3) 1 w.heap.size 55 (.slice ta n tc) cl css) (hn:1<=n) (hl:cl.length=n) (hok:∀j,j<n->rowOk vars dom (cl.getD j [])=true)
  (hr:Y.heap[gr]? =some (.cells #[.int .i64 0, .int .i64 0, .slice none 0 0] 26 (0,0))) (hgr:w.heap.size<=gr):
  ∃g,ta=some ⟨g,0,none⟩/\uO w (Y.alloc (.cells #[.int .i64 vars, .int .i64 dom, .slice ta n tc] 26)) Y.heap.size gr g vars dom n tc cl:=by
 have hrow:=hc.row.2
 rw [hl] at hrow
 rcases hrow with⟨hv,h0⟩|⟨g,cap2,cur,hv,hg0,hg,h1,h2,h3,h4⟩
 ·omega
 cases hv
 have hgl:=zw hg
 have hrl:=zw hr
 have zhw:g≠gr:=λe=>by subst e;rw [hg] at hr;cases hr
 have s:=(Since.refl (λ_=>False) Y).alloc (.cells #[.int .i64 vars, .int .i64 dom, .slice (some ⟨g,0,none⟩) n tc] 26)
 refine⟨g,rfl,hb.alloc hb.size _,yj _ _,(Below.heap_alloc _ _ _ hrl).trans hr,⟨hb.size,hgr,hg0,by omega,by omega,zhw⟩,⟨cur,(Below.heap_alloc _ _ _ hgl).trans hg,by omega,λj hj=> ?_⟩,hl,hok,⟨h1,by unfold maxLen at h2;omega⟩⟩
 obtain⟨hp1,hp2⟩:=hc.part j (by omega)
 obtain⟨v,hv,hi⟩:=hp2.now
 obtain⟨a,c,rfl, -⟩:=zh.slice hi
 have hcs:css.getD j [] = [.slice a (cl.getD j default).length c] :=hv
 refine⟨a,c, ?_, ?_⟩
 ·have h5:=zca (css:=css) (size:=1) (j:=j) (i:=0) (λj hj=>(hc.part j (by rw [<-hc.len];exact hj)).1) (by rw [hc.len];omega) (by omega)
  rw [Nat.mul_one,Nat.add_zero,hcs, <-h4] at h5
  rw [List.getElem?_take_of_lt (by omega)] at h5
  have e:(default:List zS)= [] :=rfl
  rw [e] at h5
  simpa using h5
 have:=hp2.step s (F':=λk=>k=g) (λ_ h=>h.elim) (λk hk=> .inl (by subst hk;rfl))
 rw [hcs] at this
 exact this
theorem uO.reslice (h:uO w X gc gr g vars dom n cap cl) {m:Nat} (hm:m<=n):uO w (X.setCell ⟨gc,2,none⟩ (.slice (some ⟨g,0,none⟩) m cap)) gc gr g vars dom m cap (cl.take m):=by
 have hlo:=h.lo
 have s:Since (λk=>k=gc) X (X.setCell ⟨gc,2,none⟩ (.slice (some ⟨g,0,none⟩) m cap)):=Since.setCell (F:=λk=>k=gc) (p:=⟨gc,2,none⟩) (Since.refl _ _) (.inl rfl) _
 obtain⟨cur,h1,h2,h3⟩:=h.row
 have hget:∀j,j<m->(cl.take m).getD j [] =cl.getD j [] :=λj hj=>by simp only [List.getD_eq_getElem?_getD,List.getElem?_take_of_lt hj]
 refine⟨h.below.trans (s.below h.below.size (λk hk=>by omega)), ?_,(s.block _ (zw h.res) (by omega)).trans h.res,hlo,⟨cur,(s.block _ (zw h1) (by omega)).trans h1,by omega,λj hj=> ?_⟩, ?_,λj hj=> ?_,⟨by have:=h.room;omega,h.room.2⟩⟩
 ·have:=zu h.box 2 (.slice (some ⟨g,0,none⟩) m cap);simpa using this
 ·obtain⟨a,c,h4,h5⟩:=h3 j (by omega)
  rw [hget j hj]
  exact⟨a,c,h4,zka h5 h.box (by omega) s⟩
 ·rw [List.length_take,h.len];omega
 rw [hget j hj];exact h.ok j (by omega)
theorem uO.set (h:uO w X gc gr g vars dom n cap cl) {i:Nat} (hi:i<n) (h1:1<=vars) (h2:2<=dom):
  uO w ((X.alloc (.cells (zcj vars).toArray 60)).setCell ⟨g,i,none⟩ (.slice (some ⟨X.heap.size,0,none⟩) 3 3)) gc gr g vars dom n cap (cl.set i (zci vars)):=by
 have hlo:=h.lo
 obtain⟨cur,c1,c2,c3⟩:=h.row
 have hgl:=zw c1
 have s0:=(Since.refl (λ_=>False) X).alloc (.cells (zcj vars).toArray 60)
 have hnew:=yj X (.cells (zcj vars).toArray 60)
 have hg1:=(Below.heap_alloc X (.cells (zcj vars).toArray 60) _ hgl).trans c1
 generalize X.alloc (.cells (zcj vars).toArray 60)=Y at s0 hnew hg1 ⊢
 have s1:Since (λk=>k=g) Y (Y.setCell ⟨g,i,none⟩ (.slice (some ⟨X.heap.size,0,none⟩) 3 3)):=Since.setCell (F:=λk=>k=g) (p:=⟨g,i,none⟩) (Since.refl _ _) (.inl rfl) _
 have s:Since (λk=>k=g) X (Y.setCell ⟨g,i,none⟩ (.slice (some ⟨X.heap.size,0,none⟩) 3 3)):=(s0.mono (λ_ _ h=>h.elim)).trans s1 (λk hk=> .inl hk)
 refine⟨h.below.trans (s.below h.below.size (λk hk=>by omega)),(s.block _ (zw h.box) (by omega)).trans h.box,(s.block _ (zw h.res) (by omega)).trans h.res,hlo,⟨_,zu hg1 i _,by simpa using c2,λj hj=> ?_⟩,by rw [List.length_set];exact h.len,λj hj=> ?_,h.room⟩
 ·by_cases e:j=i
  ·subst e
   have hg:(cl.set j (zci vars)).getD j [] =zci vars:=by
    rw [List.getD_eq_getElem?_getD,List.getElem?_set_self (by rw [h.len];exact hj)];rfl
   rw [hg]
   refine⟨some ⟨X.heap.size,0,none⟩,3, ?_,λy hy=> ?_⟩
   ·rw [Array.getElem?_setIfInBounds_self_of_lt (by omega)];rfl
   have hne:X.heap.size≠g:=by omega
   exact zya ((hy.block _ (Nat.lt_of_lt_of_le (zw hnew) s1.size) hne).trans ((s1.block _ (zw hnew) hne).trans hnew))
  have hg:(cl.set i (zci vars)).getD j [] =cl.getD j [] :=by
   rw [List.getD_eq_getElem?_getD,List.getElem?_set_ne (Ne.symm e), <-List.getD_eq_getElem?_getD]
  rw [hg]
  obtain⟨a,c,h4,h5⟩:=c3 j hj
  exact⟨a,c,by rw [Array.getElem?_setIfInBounds_ne (Ne.symm e)];exact h4,h5.step s (λk hk=> .inl hk) (λk hk=> .inl hk)⟩
 by_cases e:j=i
 ·subst e
  rw [List.getD_eq_getElem?_getD,List.getElem?_set_self (by rw [h.len];exact hj)]
  exact zxZ h1 h2
 rw [List.getD_eq_getElem?_getD,List.getElem?_set_ne (Ne.symm e), <-List.getD_eq_getElem?_getD]
 exact h.ok j hj
end
def zhi (w:World) (en:Ending) (w':World):Prop:=(∃c tv,en= .returned (yQ c tv)/\yS 3 w' tv c.threads/\codeOk c=true/\c.threads.length<=2)/\Below w.heap.size w w'
theorem znq {w X:World} {gc gr g n cap:Nat} {vars dom:Int} {cl:List (List zS)} (h:uO w X gc gr g vars dom n cap cl) (hb:1<=vars/\vars<=4/\2<=dom/\dom<=16) (hn1:1<=n) (hn2:n<=2):
  zhi w (.returned (.agg #[.int .i64 vars, .int .i64 dom, .slice (some ⟨g,0,none⟩) n cap])) (yx X gr 0 [.int .i64 vars, .int .i64 dom, .slice (some ⟨g,0,none⟩) n cap])/\
  (yx X gr 0 [.int .i64 vars, .int .i64 dom, .slice (some ⟨g,0,none⟩) n cap]).heap[gr]? =some (.cells #[.int .i64 vars, .int .i64 dom, .slice (some ⟨g,0,none⟩) n cap] 26 (0,0)):=by
 have hlo:=h.lo
 have hl:=h.len
 have s:=xR (g:=gr) [.int .i64 vars, .int .i64 dom, .slice (some ⟨g,0,none⟩) n cap] X 0
 obtain⟨cur,c1,c2,c3⟩:=h.row
 have hg:=(s.block _ (zw c1) (by omega)).trans c1
 refine⟨⟨⟨⟨vars,dom,cl⟩, .slice (some ⟨g,0,none⟩) n cap,rfl,⟨_,cap,by rw [hl],by rw [hl];exact h.room,λj hj=> ?_⟩, ?_,by rw [hl];exact hn2⟩,h.below.trans (s.below h.below.size (λk hk=>by omega))⟩,vw (cs:= [.int .i64 0, .int .i64 0, .slice none 0 0]) _ rfl h.res⟩
 ·obtain⟨a,c,h4,h5⟩:=c3 j (by rw [<-hl];exact hj)
  refine⟨g,0, [.slice a (cl.getD j []).length c],rfl,zw hg,rfl,λi hi=> ?_,zlK s (zoo h.res) h5.now⟩
  obtain rfl:i=0:=by omega
  rw [ze hg]
  simpa using h4
 unfold codeOk
 simp only [Bool.and_eq_true,decide_eq_true_eq,hl]
 exact⟨⟨⟨⟨⟨⟨hb.1,hb.2.1⟩,hb.2.2.1⟩,hb.2.2.2⟩,hn1⟩,by omega⟩,zck _ [] _ (λj hj=>h.ok j (by rw [<-hl];exact hj))⟩
end Go.Proofs.YtnhahkiojbanfaaGreatDoor
namespace Go.Proofs.YtnhahkiojbanfaaGreatDoor
open Go.RowKit
set_option maxRecDepth 100000
set_option maxHeartbeats 16000000
theorem zng (w:World) (sv:Value) (l:List Int) (hn:jG w .u8 sv l) (hcap:∀a n c,sv= .slice a n c->n<=c):Calls Tryz.prog 7 #[sv] w (zhi w):=by
 have hb1:=(Below.refl w.heap.size w).alloc (Nat.le_refl _) (.cells #[.int .i64 0, .int .i64 0, .slice none 0 0] 26)
 have hg1:=yj w (.cells #[.int .i64 0, .int .i64 0, .slice none 0 0] 26)
 obtain⟨sa,sc,rfl, -⟩:∃a c,sv= .slice a l.length c/\True:=by obtain⟨a,c,h, -⟩:=hn;exact⟨a,c,h,trivial⟩
 replace hcap:=hcap _ _ _ rfl
 obtain⟨ln,hln⟩:∃n,n=l.length:=⟨_,rfl⟩
 rw [<-hln] at hn hcap ⊢
 have hn1:=hn.below hb1
 have HN:=qh hn1
 have HB:=qh hb1
 have HG:=qh hg1
 clear hb1 hg1 hn1 hn hln
 go_enter Tryz.func7,Tryz.ntmps7
 go_upto_region 1 with fail
 generalize World.alloc w _=W at HB HG HN ⊢
 obtain⟨gr,hgr⟩:∃gr,gr=w.heap.size:=⟨_,rfl⟩
 rw [<-hgr] at HG ⊢
 have ug:=qh hgr
 clear hgr
 go_upto_if 7 with fail
 go_cut [0] (λs0 w'=>∃(n:Nat) (l':List Int),s0= .slice sa n sc/\w'=W/\Hid (jG W .u8 (.slice sa n sc) l'))
 case first=>
  by_cases h30:30<ln
  ·have z9X:(30:Int)<(ln:Int):=by omega
   have z9Y:(30:Int)<=(sc:Int):=by omega
   have hn2:=zrB HN.out (m:=30) (by omega)
   have HN2:=qh hn2
   clear hn2
   go_wp2_with fail
   go_meet
   case rel=>exact⟨30,_,rfl,rfl,HN2.out⟩
  go_wp2_with fail
  go_meet
  case rel=>exact⟨ln,l,rfl,rfl,HN.out⟩
 case rest=>
 obtain⟨n,l',rfl,hwv,HN2⟩:=hcut
 obtain rfl:W=wc:=hwv.symm
 clear HN hcap
 go_upto_region 4 with(first|(go_at_call 17;go_must(refine(HM4.out).mono ?_);rintro en W3 ⟨⟨c,ta,tc,css,rfl,hok,hrow⟩,hb⟩;(have qZ:=qh hrow);(have je:=qh hok);(have HB3:=qh (zH HB2.out hb));(have HW2:=qh HB2.out.size);(have jv:=qh ((hb.block _ (zw HG2.out)).trans HG2.out));clear hrow hok hb HM4;unfold yQ)|(go_at_call 18;go_must(refine(zqX W).mono ?_);rintro en W2 ⟨⟨kv,rfl,hks⟩,hb⟩;(have HM4:=qh (zrA W2 _ l' (HN2.out.below hb) kv zfk hks (by decide) (by decide) zu0));(have HB2:=qh (zH HB.out hb));(have HG2:=qh ((hb.block _ (zw HG.out)).trans HG.out));clear hks hb HN2))
 have hbd:=xV je.out
 have uX:=qZ.out
 have z5M:c.threads.length<=tc:=by
  obtain⟨a,cap,he,h1, -⟩:=xu uX.row
  cases he;exact h1
 have zz8:∀j,j<c.threads.length->rowOk c.vars c.domain (c.threads.getD j [])=true:=λj hj=>by
  have h:=je.out
  unfold codeOk at h
  simp only [Bool.and_eq_true,List.all_eq_true] at h
  exact h.2 _ (xS hj)
 obtain⟨g,rfl,hL⟩:=uO.first HB3.out ⟨uX.len,uX.part,zlL uX.row HW2.out⟩ hbd.2.2.2.2.1 rfl zz8 jv.out (by have:=ug.out;omega)
 generalize c.vars=vars at hL hbd ⊢
 generalize c.domain=dom at hL hbd ⊢
 generalize c.threads.length=tn at hL hbd z5M ⊢
 obtain⟨v1,v4,d2,d16,t1,t4⟩:=hbd
 generalize World.alloc W3 _=X at hL ⊢
 generalize W3.heap.size=gc at hL ⊢
 have HL:=qh hL
 clear hL uX zz8 qZ je jv HB3 HW2 HB2 HG2 HB HG
 have c2:X.cell? ⟨gc,2,none⟩=some (.slice (some ⟨g,0,none⟩) tn tc):=ze HL.out.box 2
 have f2:=zA HL.out.box 2
 go_upto_if 16 with fail
 go_cut [16] (λz9Z w'=>∃(m:Nat) (cl:List (List zS)),1<=m/\m<=2/\Hid (uO w w' gc gr g vars dom m tc cl))
 case first=>
  by_cases h2:2<tn
  ·have h2I:(2:Int)<(tn:Int):=by omega
   have h2J:(2:Int)<=(tc:Int):=by omega
   have hre:=HL.out.reslice (m:=2) (by omega)
   have HRE:=qh hre
   clear hre
   go_wp2_with fail
   go_meet
   case rel=>exact⟨2,_,by omega,by omega,HRE.out⟩
  have h2I:decide ((2:Int)<(tn:Int))=false:=by rw [decide_eq_false_iff_not];omega
  go_wp2_with fail
  go_meet
  case rel=>exact⟨tn,_,by omega,by omega,HL.out⟩
 case rest=>
 obtain⟨m,cl0,hm1,hm2,HL2⟩:=hcut
 clear c2 f2 HL
 go_wp2_with fail
 go_loopg [4] m (λgg s4 wr=>∃(i:Nat) (cl:List (List zS)),i<=m/\Hid (gg=m - i)/\s4= .int .i64 i/\Hid (uO w wr gc gr g vars dom m tc cl))
 case atStart=>exact⟨0,cl0,Nat.zero_le _,rfl,rfl,HL2.out⟩
 case round=>
 obtain⟨i,cl,hi,HGG,rfl,HL⟩:=hrel
 clear HL2
 have c0:wr.cell? ⟨gc,0,none⟩=some (.int .i64 vars):=ze HL.out.box 0
 have c1:wr.cell? ⟨gc,1,none⟩=some (.int .i64 dom):=ze HL.out.box 1
 have c2:wr.cell? ⟨gc,2,none⟩=some (.slice (some ⟨g,0,none⟩) m tc):=ze HL.out.box 2
 by_cases hlt:i<m
 rotate_left
 ·obtain rfl:m=i:=by omega
  obtain⟨hend,hset⟩:=znq HL.out ⟨v1,v4,d2,d16⟩ hm1 hm2
  have z0:=ze HL.out.res 0
  have z1:=ze HL.out.res 1
  have z2:=ze HL.out.res 2
  have f0:=zA HL.out.res 0
  have f1:=zA HL.out.res 1
  have f2:=zA HL.out.res 2
  have zR:=qh hend
  have zJ:=qh hset
  clear hend hset
  go_wp2_with fail
  refine bodyPost_ret (xQ rfl _ _ gr 26 _ (0,0) _ rfl zJ.out Tryz.underlying26 rfl zev) rfl ?_
  exact zR.out
 have qN:(i:Int)<(m:Int):=by omega
 obtain⟨cur,r1,r2,r3⟩:=HL.out.row
 obtain⟨a,ac,r4, -⟩:=r3 i hlt
 have x0:wr.cell? ⟨g,i,none⟩=some (.slice a (cl.getD i []).length ac):=by rw [ze r1];exact r4
 have fx:=λo=>zA ((Below.heap_alloc wr o _ (zw r1)).trans r1) i
 have x1:=λo=>(Below.cell ((Below.refl wr.heap.size wr).alloc (Nat.le_refl _) o) (World.block_lt_of_cell? wr _ x0)).trans x0
 generalize (cl.getD i []).length=ln at x0 x1
 have hset:=HL.out.set hlt v1 d2
 have zJ:=qh hset
 clear r1 r2 r3 r4 hset
 by_cases h5:5<ln
 ·have h5I:(5:Int)<(ln:Int):=by omega
  go_wp2_with fail
  go_roundg (m - (i+1))
  case measure=>rw [HGG.out];omega
  case rel=>exact⟨i+1,_,by omega,rfl,by simp,zJ.out⟩
 have h5I:decide ((5:Int)<(ln:Int))=false:=by rw [decide_eq_false_iff_not];omega
 go_wp2_with fail
 go_roundg (m - (i+1))
 case measure=>rw [HGG.out];omega
 case rel=>exact⟨i+1,_,by omega,rfl,by simp,HL.out⟩
