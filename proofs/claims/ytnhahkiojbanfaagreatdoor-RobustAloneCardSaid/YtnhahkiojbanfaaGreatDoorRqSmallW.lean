/- Steps. -/
import Derived.Test.YtnhahkiojbanfaaGreatDoorRqCompile
import Derived.Test.YtnhahkiojbanfaaGreatDoorRqMade2
set_option linter.all false
namespace Go.Proofs.YtnhahkiojbanfaaGreatDoor
open Go.RowKit
set_option maxRecDepth 100000
set_option maxHeartbeats 16000000
theorem zf5 {α:Type} [Inhabited α] {R:World->α->List Value->Prop} {size g:Nat} {X Z:World} {v:Value} {l:List α} (hsz:4<=size) (hs:Since (λk=>k=g) X Z) (ht:∀j,3<=j->X.cell? ⟨g,j,none⟩=none) (hR:∀x cs,R X x cs->R Z x cs) (h:zh R size X v l):zh R size Z v l:=by
 obtain⟨a,cap,h1,h2,h4⟩:=h
 refine⟨a,cap,h1,h2,λj hj=> ?_⟩
 obtain⟨b,off,cs,h5,h6,h7,h8,h9⟩:=h4 j hj
 have hne:b≠g:=λe=>by
  subst e
  have h:=h8 (size - 1) (by omega)
  rw [ht _ (by omega),List.getElem?_eq_getElem (by omega)] at h
  cases h
 exact⟨b,off,cs,h5,Nat.lt_of_lt_of_le h6 hs.size,h7,λi hi=>(hs.cell (p:=⟨b,off+j*size+i,none⟩) h6 hne).trans (h8 i hi),hR _ _ h9⟩
theorem zgL {d g:Nat} {X Z:World} (hs:Since (λk=>k=g) X Z) (ht:∀j,3<=j->X.cell? ⟨g,j,none⟩=none) {x:zG} {kv:Value} (h:zw d X x kv):zw d Z x kv:=by
 induction d generalizing x kv with
 |zero=>exact h.elim
 |succ d ih=>exact zf5 (by omega) hs ht (λy cs ⟨kv',e,h'⟩=>⟨kv',e,ih h'⟩) h
theorem zhX {d g:Nat} {X Z:World} (hs:Since (λk=>k=g) X Z) (ht:∀j,3<=j->X.cell? ⟨g,j,none⟩=none) {l:List zC} {cs:List Value} (h:qU d X l cs):qU d Z l cs:=by
 obtain⟨v,rfl,h⟩:=h
 exact⟨v,rfl,zf5 (by omega) hs ht (λy cs ⟨ka,kb,e,h1,h2⟩=>⟨ka,kb,e,zgL hs ht h1,zgL hs ht h2⟩) h⟩
theorem zke {X:World} {g:Nat} {a b c:Value} {t:TypeId} {f:Nat × Nat} (h:X.heap[g]? =some (.cells #[a,b,c] t f)):∀j,3<=j->X.cell? ⟨g,j,none⟩=none:=λj hj=>by
 rw [ze h];exact Array.getElem?_eq_none (by simpa using hj)
theorem zgM {F:Nat->Prop} {X Z:World} {g d:Nat} {a b c:Value} {t:TypeId} {f:Nat × Nat} {l:List zC} {cs:List Value} (h:zO F X (λy=>qU d y l cs)) (hg:X.heap[g]? =some (.cells #[a,b,c] t f)) (hF:¬F g) (hs:Since (λk=>k=g) X Z):zO F Z (λy=>qU d y l cs):=λy hy=>by
 have hgl:=zy hg
 have hz:=hs.size
 have hyz:=hy.size
 have hy0:({y with heap:=y.heap.setIfInBounds g (.cells #[a,b,c] t f)} :World).heap[g]? =some (.cells #[a,b,c] t f):=by
  simp [Array.getElem?_setIfInBounds_self_of_lt (show g<y.heap.size by omega)]
 have hk:∀k,k≠g->({y with heap:=y.heap.setIfInBounds g (.cells #[a,b,c] t f)} :World).heap[k]? =y.heap[k]? :=λk hne=>by
  simp [Array.getElem?_setIfInBounds_ne (Ne.symm hne)]
 have h0:Since F X ({y with heap:=y.heap.setIfInBounds g (.cells #[a,b,c] t f)} :World):=
  ⟨hy.os.trans hs.os,hy.tape.trans hs.tape,hy.output.trans hs.output,by simp;omega,λk hkl hkF=>by
   by_cases e:k=g
   ·subst e;rw [hy0];exact hg.symm
   rw [hk k e,hy.block k (by omega) hkF,hs.block k hkl e]⟩
 have h1:Since (λk=>k=g) ({y with heap:=y.heap.setIfInBounds g (.cells #[a,b,c] t f)} :World) y:=⟨rfl,rfl,rfl,by simp,λk _ hne=>(hk k hne).symm⟩
 exact zhX h1 (zke hy0) (h _ h0)
def zk0 (w:World) (en:Ending) (w':World):Prop:=(∃c ta tc css,en= .returned (xW c (.slice ta c.threads.length tc))/\codeOk c=true/\yg (λk=>(Value.slice ta c.threads.length tc).ownBlock=some k) w' (qU 3) 1 w.heap.size 55 (.slice ta c.threads.length tc) c.threads css)/\Below w.heap.size w w'
theorem zpm:∀k∈zc1,1<=k/\k<=11:=by decide
theorem zmY (w:World) (sv:Value) (l:List Int) (hn:vo w .u8 sv l) (kv:Value) (ks:List Int) (hks:qI w kv ks) (hk1:1<=ks.length) (hk2:ks.length<=100) (hk3:∀k∈ks,1<=k/\k<=11):
  Calls Tryz.prog 17 #[sv,kv] w (zk0 w):=by
 have hb1:=(Below.refl w.heap.size w).alloc (Nat.le_refl _) (.cells #[.int .i64 0, .int .i64 0, .slice none 0 0] 26)
 have hg1:=zS w (.cells #[.int .i64 0, .int .i64 0, .slice none 0 0] 26)
 have zb2:=zmB _ sv l (hn.below hb1) kv ks (zh.below zbz.stays hks hb1) hk1 hk2 hk3
 obtain⟨sa,sc,rfl, -⟩:∃a c,sv= .slice a l.length c/\True:=by obtain⟨a,c,h, -⟩:=hn;exact⟨a,c,h,trivial⟩
 obtain⟨ka,kc,rfl, -⟩:=zh.slice hks
 generalize l.length=ln at zb2 ⊢
 generalize ks.length=kn at zb2 ⊢
 have HB1:=qh hb1
 have xS:=qh hg1
 have zb4:=qh zb2
 clear hb1 hg1 zb2 hn hks hk1 hk2 hk3
 go_enter Tryz.func17,Tryz.ntmps17
 go_upto_region 1 with fail
 generalize World.alloc w _=W at HB1 xS zb4 ⊢
 obtain⟨gr,hgr⟩:∃gr,gr=w.heap.size:=⟨_,rfl⟩
 rw [<-hgr] at xS ⊢
 have jP:=qh hgr
 clear hgr
 go_upto_region 2 with(first|(go_at_call 32;go_must(refine(zlN.out).mono ?_);rintro en W3 ⟨⟨ta,tc,css,rfl,hrow⟩,hb⟩;(have je:=qh hrow);(have HB3:=qh (zM HB2.out hb));(have vk:=qh ((hb.block _ (zy HG2.out)).trans HG2.out));(have HW3:=qh hb.size);clear hrow hb;unfold xW)|(go_at_call 33;go_must(refine(zb4.out).mono ?_);rintro en W2 ⟨⟨p,vv,tv,rfl,hp,hpa⟩,hb⟩;(have zlN:=qh (zj7 3 4 W2 p hp vv tv hpa));(have vK:=qh (zlB hp));(have HB2:=qh (HB1.out.trans (hb.mono HB1.out.size)));(have HG2:=qh ((hb.block _ (zy xS.out)).trans xS.out));clear hb hp hpa;generalize zax p=c at zlN vK;unfold zdn at zlN ⊢))
 generalize hcv:c.vars=vars
 generalize hcd:c.domain=dom
 generalize hcl:c.threads.length=cn
 have HCV:=qh hcv
 have HCD:=qh hcd
 have HCL:=qh hcl
 clear hcv hcd hcl
 have hb4:=HB3.out.alloc HB3.out.size (.cells #[.int .i64 vars, .int .i64 dom, .slice ta cn tc] 26)
 have hg4:=(Below.heap_alloc W3 (.cells #[.int .i64 vars, .int .i64 dom, .slice ta cn tc] 26) _ (zy vk.out)).trans vk.out
 have hn4:=zS W3 (.cells #[.int .i64 vars, .int .i64 dom, .slice ta cn tc] 26)
 have hs4:=(Since.refl (λ_=>False) W3).alloc (.cells #[.int .i64 vars, .int .i64 dom, .slice ta cn tc] 26)
 generalize World.alloc W3 _=X at hb4 hg4 hn4 hs4 ⊢
 generalize W3.heap.size=gc at hn4 ⊢
 have s:=qJ (g:=gr) [.int .i64 vars, .int .i64 dom, .slice ta cn tc] X 0
 have hset:(xI X gr 0 [.int .i64 vars, .int .i64 dom, .slice ta cn tc]).heap[gr]? =_:=vG (cs:= [.int .i64 0, .int .i64 0, .slice none 0 0]) _ rfl hg4
 have hend:zk0 w (.returned (.agg #[.int .i64 vars, .int .i64 dom, .slice ta cn tc])) (xI X gr 0 [.int .i64 vars, .int .i64 dom, .slice ta cn tc]):=by
  have h1:=je.out
  rw [HCL.out] at h1
  have hlt:=HW3.out
  have hge:=HB2.out.size
  refine⟨⟨c,ta,tc,css,by unfold xW;rw [HCV.out,HCD.out,HCL.out],vK.out, ?_⟩,(hb4.trans (s.below hb4.size (λk hk=>by have:=jP.out;omega)))⟩
  rw [HCL.out]
  have h2:yg (λk=>(Value.slice ta cn tc).ownBlock=some k) W3 (qU 3) 1 w.heap.size 55 (.slice ta cn tc) c.threads css:=⟨h1.len,h1.part,zhY h1.row hge⟩
  have hown:∀k,(Value.slice ta cn tc).ownBlock=some k->k≠gr:=λk hk e=>by have:=(h1.row.lt k hk).1;have:=zy HG2.out;omega
  have hgr:¬(Value.slice ta cn tc).ownBlock=some gr:=λe=>hown gr e rfl
  exact⟨h2.len,λj hj=>⟨(h2.part j hj).1,zgM ((h2.part j hj).2.step hs4 (λ_ h=>h.elim) (λk hk=> .inl hk)) hg4 hgr s⟩,s.row (hs4.row h2.row (λ_ _ h=>h)) hown⟩
 have zL:=qh hend
 have xg:=qh hset
 have c0:=ze hn4 0
 have c1:=ze hn4 1
 have c2:=ze hn4 2
 have z0:=ze hg4 0
 have z1:=ze hg4 1
 have z2:=ze hg4 2
 have f0:=zK hg4 0
 have f1:=zK hg4 1
 have f2:=zK hg4 2
 clear hend hset s hg4 hn4 hs4 hb4
 go_wp2_with fail
 refine bodyPost_ret (yV rfl _ _ gr 26 _ (0,0) _ rfl xg.out Tryz.underlying26 rfl zbJ) rfl ?_
 exact zL.out
end Go.Proofs.YtnhahkiojbanfaaGreatDoor
namespace Go.Proofs.YtnhahkiojbanfaaGreatDoor
open Go.RowKit
set_option maxRecDepth 100000
set_option maxHeartbeats 16000000
theorem zmX {w:World} {k:IntKind} {a:Option Addr} {n cap m:Nat} {l:List Int} (h:vo w k (.slice a n cap) l) (hm:m<=n):vo w k (.slice a m cap) (l.take m):=by
 obtain⟨a',cap',he,h2,h3,h4⟩:=h
 cases he
 have hl:(l.take m).length=m:=by rw [List.length_take];omega
 refine⟨a,cap,by rw [hl],by omega,λx hx=>h3 x (List.mem_of_mem_take hx),λj hj=> ?_⟩
 rw [hl] at hj
 obtain⟨b,off,h5,h6,h7⟩:=h4 j (by omega)
 refine⟨b,off,h5,h6, ?_⟩
 rw [h7]
 simp only [List.getD_eq_getElem?_getD,List.getElem?_take_of_lt hj]
def bC (vars:Int):List zC:= [⟨2,0,0, .mk 1 1 0 [],default,0⟩,⟨1,0,vars - 1,default,default,0⟩,⟨9,0,0, .mk 2 0 0 [],default,0⟩]
def pX (vars:Int):List Value:= [.int .i64 2, .int .i64 0, .int .i64 0, .int .i64 1, .int .i64 1, .int .u8 0, .slice none 0 0, .int .i64 0, .int .i64 0, .int .u8 0, .slice none 0 0, .int .i64 0,
 .int .i64 1, .int .i64 0, .int .i64 (vars - 1), .int .i64 0, .int .i64 0, .int .u8 0, .slice none 0 0, .int .i64 0, .int .i64 0, .int .u8 0, .slice none 0 0, .int .i64 0,
 .int .i64 9, .int .i64 0, .int .i64 0, .int .i64 2, .int .i64 0, .int .u8 0, .slice none 0 0, .int .i64 0, .int .i64 0, .int .u8 0, .slice none 0 0, .int .i64 0]
theorem zsx {vars dom:Int} (h1:1<=vars) (h2:2<=dom):rowOk vars dom (bC vars)=true:=by
 have a1:xY vars dom 2 0 ⟨2,0,0, .mk 1 1 0 [],default,0⟩=true:=by
  have p1:vO 2 0 vars=true:=by simp [vO,jg];omega
  have p2:jv 2 (.mk 1 1 0 []) dom=true:=zdc (by decide) (znP (n:=1) (d:=1) (by omega))
  have p3:kH 2 0=true:=by decide
  have p4:kG 2 default dom=true:=by rfl
  simp [xY,xH,p1,p2,p3,p4]
 have a2:xY vars dom 1 0 ⟨1,0,vars - 1,default,default,0⟩=true:=by
  have p1:vO 1 (vars - 1) vars=true:=by simp [vO,jg];omega
  have p2:jv 1 default dom=true:=by rfl
  have p3:kH 1 0=true:=by decide
  have p4:kG 1 default dom=true:=by rfl
  simp [xY,xH,p1,p2,p3,p4]
 have a3:xY vars dom 9 0 ⟨9,0,0, .mk 2 0 0 [],default,0⟩=true:=by
  have p1:vO 9 0 vars=true:=by simp [vO,jg]
  have p2:jv 9 (.mk 2 0 0 []) dom=true:=zdc (by decide) (znQ (n:=0) (d:=1) (by omega))
  have p3:kH 9 0=true:=by decide
  have p4:kG 9 default dom=true:=by rfl
  simp [xY,xH,p1,p2,p3,p4]
 simp [rowOk,bC,qF,a1,a2,a3]
theorem zsy {X:World} {g:Nat} {vars:Int} (h:X.heap[g]? =some (.cells (pX vars).toArray 60 (0,0))):qU 3 X (bC vars) [.slice (some ⟨g,0,none⟩) 3 3] :=by
 have hn:∀k n o:Int,zw 3 X (.mk k n o []) (.slice none 0 0):=λk n o=>⟨none,0,rfl,by simp [zG.kids],λj hj=>by simp [zG.kids] at hj⟩
 have hd:zw 3 X default (.slice none 0 0):=hn 0 0 0
 refine⟨_,rfl,_,3,rfl,by simp [bC],λj hj=> ?_⟩
 have hj3:j=0\/j=1\/j=2:=by simp [bC] at hj;omega
 rcases hj3 with rfl|rfl|rfl
 ·refine⟨g,0,(pX vars).take 12,rfl,zy h,rfl,λi hi=> ?_, .slice none 0 0, .slice none 0 0,rfl,hn _ _ _,hd⟩
  rw [ze h]
  simp only [Nat.zero_mul,Nat.zero_add,List.getElem?_toArray,List.getElem?_take_of_lt hi]
 ·refine⟨g,0,((pX vars).drop 12).take 12,rfl,zy h,rfl,λi hi=> ?_, .slice none 0 0, .slice none 0 0,rfl,hd,hd⟩
  rw [ze h]
  simp only [List.getElem?_toArray,List.getElem?_take_of_lt hi,List.getElem?_drop]
 refine⟨g,0,((pX vars).drop 24).take 12,rfl,zy h,rfl,λi hi=> ?_, .slice none 0 0, .slice none 0 0,rfl,hn _ _ _,hd⟩
 rw [ze h]
 simp only [List.getElem?_toArray,List.getElem?_take_of_lt hi,List.getElem?_drop]
structure kg (w X:World) (gc gr g:Nat) (vars dom:Int) (n cap:Nat) (cl:List (List zC)):Prop where
 below:Below w.heap.size w X
 box:X.heap[gc]? =some (.cells #[.int .i64 vars, .int .i64 dom, .slice (some ⟨g,0,none⟩) n cap] 26 (0,0))
 res:X.heap[gr]? =some (.cells #[.int .i64 0, .int .i64 0, .slice none 0 0] 26 (0,0))
 lo:w.heap.size<=gc/\w.heap.size<=gr/\w.heap.size<=g/\gc≠gr/\g≠gc/\g≠gr
 row:∃cur:Array Value,X.heap[g]? =some (.cells cur 55 (0,0))/\n<=cur.size/\∀j,j<n->∃a c,cur[j]? =some (.slice a (cl.getD j []).length c)/\zO (λk=>k=g) X (λy=>qU 3 y (cl.getD j []) [.slice a (cl.getD j []).length c])
 len:cl.length=n
 ok:∀j,j<n->rowOk vars dom (cl.getD j [])=true
 room:n<=cap/\cap<=9223372036854775807
section
variable {w X:World} {gc gr g n cap:Nat} {vars dom:Int} {cl:List (List zC)}
theorem kg.first {Y:World} {tc:Nat} {ta:Option Addr} {css:List (List Value)} (hb:Below w.heap.size w Y) (hc:yg (λk=>(Value.slice ta n tc).ownBlock=some k) Y (qU 3) 1 w.heap.size 55 (.slice ta n tc) cl css) (hn:1<=n) (hl:cl.length=n) (hok:∀j,j<n->rowOk vars dom (cl.getD j [])=true)
  (hr:Y.heap[gr]? =some (.cells #[.int .i64 0, .int .i64 0, .slice none 0 0] 26 (0,0))) (hgr:w.heap.size<=gr):
  ∃g,ta=some ⟨g,0,none⟩/\kg w (Y.alloc (.cells #[.int .i64 vars, .int .i64 dom, .slice ta n tc] 26)) Y.heap.size gr g vars dom n tc cl:=by
 have hrow:=hc.row.2
 rw [hl] at hrow
 rcases hrow with⟨hv,h0⟩|⟨g,cap2,cur,hv,hg0,hg,h1,h2,h3,h4⟩
 ·omega
 cases hv
 have hgl:=zy hg
 have hrl:=zy hr
 have ze9:g≠gr:=λe=>by subst e;rw [hg] at hr;cases hr
 have s:=(Since.refl (λ_=>False) Y).alloc (.cells #[.int .i64 vars, .int .i64 dom, .slice (some ⟨g,0,none⟩) n tc] 26)
 refine⟨g,rfl,hb.alloc hb.size _,zS _ _,(Below.heap_alloc _ _ _ hrl).trans hr,⟨hb.size,hgr,hg0,by omega,by omega,ze9⟩,⟨cur,(Below.heap_alloc _ _ _ hgl).trans hg,by omega,λj hj=> ?_⟩,hl,hok,⟨h1,by unfold maxLen at h2;omega⟩⟩
 obtain⟨hp1,hp2⟩:=hc.part j (by omega)
 obtain⟨v,hv,hi⟩:=hp2.now
 obtain⟨a,c,rfl, -⟩:=zh.slice hi
 have hcs:css.getD j [] = [.slice a (cl.getD j default).length c] :=hv
 refine⟨a,c, ?_, ?_⟩
 ·have h5:=pQ (css:=css) (size:=1) (j:=j) (i:=0) (λj hj=>(hc.part j (by rw [<-hc.len];exact hj)).1) (by rw [hc.len];omega) (by omega)
  rw [Nat.mul_one,Nat.add_zero,hcs, <-h4] at h5
  rw [List.getElem?_take_of_lt (by omega)] at h5
  have e:(default:List zC)= [] :=rfl
  rw [e] at h5
  simpa using h5
 have:=hp2.step s (F':=λk=>k=g) (λ_ h=>h.elim) (λk hk=> .inl (by subst hk;rfl))
 rw [hcs] at this
 exact this
theorem kg.reslice (h:kg w X gc gr g vars dom n cap cl) {m:Nat} (hm:m<=n):kg w (X.setCell ⟨gc,2,none⟩ (.slice (some ⟨g,0,none⟩) m cap)) gc gr g vars dom m cap (cl.take m):=by
 have hlo:=h.lo
 have s:Since (λk=>k=gc) X (X.setCell ⟨gc,2,none⟩ (.slice (some ⟨g,0,none⟩) m cap)):=Since.setCell (F:=λk=>k=gc) (p:=⟨gc,2,none⟩) (Since.refl _ _) (.inl rfl) _
 obtain⟨cur,h1,h2,h3⟩:=h.row
 have hget:∀j,j<m->(cl.take m).getD j [] =cl.getD j [] :=λj hj=>by simp only [List.getD_eq_getElem?_getD,List.getElem?_take_of_lt hj]
 refine⟨h.below.trans (s.below h.below.size (λk hk=>by omega)), ?_,(s.block _ (zy h.res) (by omega)).trans h.res,hlo,⟨cur,(s.block _ (zy h1) (by omega)).trans h1,by omega,λj hj=> ?_⟩, ?_,λj hj=> ?_,⟨by have:=h.room;omega,h.room.2⟩⟩
 ·have:=zD h.box 2 (.slice (some ⟨g,0,none⟩) m cap);simpa using this
 ·obtain⟨a,c,h4,h5⟩:=h3 j (by omega)
  rw [hget j hj]
  exact⟨a,c,h4,zgM h5 h.box (by omega) s⟩
 ·rw [List.length_take,h.len];omega
 rw [hget j hj];exact h.ok j (by omega)
theorem kg.set (h:kg w X gc gr g vars dom n cap cl) {i:Nat} (hi:i<n) (h1:1<=vars) (h2:2<=dom):
  kg w ((X.alloc (.cells (pX vars).toArray 60)).setCell ⟨g,i,none⟩ (.slice (some ⟨X.heap.size,0,none⟩) 3 3)) gc gr g vars dom n cap (cl.set i (bC vars)):=by
 have hlo:=h.lo
 obtain⟨cur,c1,c2,c3⟩:=h.row
 have hgl:=zy c1
 have s0:=(Since.refl (λ_=>False) X).alloc (.cells (pX vars).toArray 60)
 have hnew:=zS X (.cells (pX vars).toArray 60)
 have hg1:=(Below.heap_alloc X (.cells (pX vars).toArray 60) _ hgl).trans c1
 generalize X.alloc (.cells (pX vars).toArray 60)=Y at s0 hnew hg1 ⊢
 have s1:Since (λk=>k=g) Y (Y.setCell ⟨g,i,none⟩ (.slice (some ⟨X.heap.size,0,none⟩) 3 3)):=Since.setCell (F:=λk=>k=g) (p:=⟨g,i,none⟩) (Since.refl _ _) (.inl rfl) _
 have s:Since (λk=>k=g) X (Y.setCell ⟨g,i,none⟩ (.slice (some ⟨X.heap.size,0,none⟩) 3 3)):=(s0.mono (λ_ _ h=>h.elim)).trans s1 (λk hk=> .inl hk)
 refine⟨h.below.trans (s.below h.below.size (λk hk=>by omega)),(s.block _ (zy h.box) (by omega)).trans h.box,(s.block _ (zy h.res) (by omega)).trans h.res,hlo,⟨_,zD hg1 i _,by simpa using c2,λj hj=> ?_⟩,by rw [List.length_set];exact h.len,λj hj=> ?_,h.room⟩
 ·by_cases e:j=i
  ·subst e
   have hg:(cl.set j (bC vars)).getD j [] =bC vars:=by
    rw [List.getD_eq_getElem?_getD,List.getElem?_set_self (by rw [h.len];exact hj)];rfl
   rw [hg]
   refine⟨some ⟨X.heap.size,0,none⟩,3, ?_,λy hy=> ?_⟩
   ·rw [Array.getElem?_setIfInBounds_self_of_lt (by omega)];rfl
   have hne:X.heap.size≠g:=by omega
   exact zsy ((hy.block _ (Nat.lt_of_lt_of_le (zy hnew) s1.size) hne).trans ((s1.block _ (zy hnew) hne).trans hnew))
  have hg:(cl.set i (bC vars)).getD j [] =cl.getD j [] :=by
   rw [List.getD_eq_getElem?_getD,List.getElem?_set_ne (Ne.symm e), <-List.getD_eq_getElem?_getD]
  rw [hg]
  obtain⟨a,c,h4,h5⟩:=c3 j hj
  exact⟨a,c,by rw [Array.getElem?_setIfInBounds_ne (Ne.symm e)];exact h4,h5.step s (λk hk=> .inl hk) (λk hk=> .inl hk)⟩
 by_cases e:j=i
 ·subst e
  rw [List.getD_eq_getElem?_getD,List.getElem?_set_self (by rw [h.len];exact hj)]
  exact zsx h1 h2
 rw [List.getD_eq_getElem?_getD,List.getElem?_set_ne (Ne.symm e), <-List.getD_eq_getElem?_getD]
 exact h.ok j hj
end
end Go.Proofs.YtnhahkiojbanfaaGreatDoor
namespace Go.Proofs.YtnhahkiojbanfaaGreatDoor
open Go.RowKit
set_option maxRecDepth 100000
set_option maxHeartbeats 16000000
