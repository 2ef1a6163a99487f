/- Steps. -/
import Derived.Test.YteggflahafiieaaGreatDoorZgCompile
import Derived.Test.YteggflahafiieaaGreatDoorZgDo
import Derived.Test.YteggflahafiieaaGreatDoorZgMade2
import Derived.Test.YteggflahafiieaaGreatDoorZgStart
set_option linter.all false
namespace Go.Proofs.YteggflahafiieaaGreatDoor
open Go.RowKit
set_option maxRecDepth 100000
set_option maxHeartbeats 16000000
theorem zfX {α:Type} [Inhabited α] {R:World->α->List Value->Prop} {size g:Nat} {X Z:World} {v:Value} {l:List α} (hsz:4<=size) (hs:Since (λk=>k=g) X Z) (ht:∀j,3<=j->X.cell? ⟨g,j,none⟩=none) (hR:∀x cs,R X x cs->R Z x cs) (h:ze R size X v l):ze R size Z v l:=by
 obtain⟨a,cap,h1,h2,h4⟩:=h
 refine⟨a,cap,h1,h2,λj hj=> ?_⟩
 obtain⟨b,off,cs,h5,h6,h7,h8,h9⟩:=h4 j hj
 have hne:b≠g:=λe=>by
  subst e
  have h:=h8 (size - 1) (by omega)
  rw [ht _ (by omega),List.getElem?_eq_getElem (by omega)] at h
  cases h
 exact⟨b,off,cs,h5,Nat.lt_of_lt_of_le h6 hs.size,h7,λi hi=>(hs.cell (p:=⟨b,off+j*size+i,none⟩) h6 hne).trans (h8 i hi),hR _ _ h9⟩
theorem zjn {d g:Nat} {X Z:World} (hs:Since (λk=>k=g) X Z) (ht:∀j,3<=j->X.cell? ⟨g,j,none⟩=none) {x:zH} {kv:Value} (h:zx d X x kv):zx d Z x kv:=by
 induction d generalizing x kv with
 |zero=>exact h.elim
 |succ d ih=>exact zfX (by omega) hs ht (λy cs ⟨kv',e,h'⟩=>⟨kv',e,ih h'⟩) h
theorem zug {d g:Nat} {X Z:World} (hs:Since (λk=>k=g) X Z) (ht:∀j,3<=j->X.cell? ⟨g,j,none⟩=none) {l:List zT} {cs:List Value} (h:xK d X l cs):xK d Z l cs:=by
 obtain⟨v,rfl,h⟩:=h
 exact⟨v,rfl,zfX (by omega) hs ht (λy cs ⟨ka,kb,e,h1,h2⟩=>⟨ka,kb,e,zjn hs ht h1,zjn hs ht h2⟩) h⟩
theorem zxu {X:World} {g:Nat} {a b c:Value} {t:TypeId} {f:Nat × Nat} (h:X.heap[g]? =some (.cells #[a,b,c] t f)):∀j,3<=j->X.cell? ⟨g,j,none⟩=none:=λj hj=>by
 rw [za h];exact Array.getElem?_eq_none (by simpa using hj)
theorem zrx {F:Nat->Prop} {X Z:World} {g d:Nat} {a b c:Value} {t:TypeId} {f:Nat × Nat} {l:List zT} {cs:List Value} (h:yK F X (λy=>xK d y l cs)) (hg:X.heap[g]? =some (.cells #[a,b,c] t f)) (hF:¬F g) (hs:Since (λk=>k=g) X Z):yK F Z (λy=>xK d y l cs):=λy hy=>by
 have hgl:=zq hg
 have hz:=hs.size
 have hyz:=hy.size
 have hy0:({y with heap:=y.heap.setIfInBounds g (.cells #[a,b,c] t f)} :World).heap[g]? =some (.cells #[a,b,c] t f):=by
  simp [Array.getElem?_setIfInBounds_self_of_lt (show g<y.heap.size by omega)]
 have hk:∀k,k≠g->({y with heap:=y.heap.setIfInBounds g (.cells #[a,b,c] t f)} :World).heap[k]? =y.heap[k]? :=λk hne=>by
  simp [Array.getElem?_setIfInBounds_ne (Ne.symm hne)]
 have h0:Since F X ({y with heap:=y.heap.setIfInBounds g (.cells #[a,b,c] t f)} :World):=
  ⟨hy.os.trans hs.os,hy.tape.trans hs.tape,hy.output.trans hs.output,by simp;omega,λk hkl hkF=>by
   by_cases e:k=g
   ·subst e;rw [hy0];exact hg.symm
   rw [hk k e,hy.block k (by omega) hkF,hs.block k hkl e]⟩
 have h1:Since (λk=>k=g) ({y with heap:=y.heap.setIfInBounds g (.cells #[a,b,c] t f)} :World) y:=⟨rfl,rfl,rfl,by simp,λk _ hne=>(hk k hne).symm⟩
 exact zug h1 (zxu hy0) (h _ h0)
def zoT (w:World) (en:Ending) (w':World):Prop:=(∃c ta tc css,en= .returned (yT c (.slice ta c.threads.length tc))/\codeOk c=true/\qp (λk=>(Value.slice ta c.threads.length tc).ownBlock=some k) w' (xK 3) 1 w.heap.size 48 (.slice ta c.threads.length tc) c.threads css)/\Below w.heap.size w w'
theorem zuh:∀k∈zda,1<=k/\k<=11:=by decide
theorem zry (w:World) (sv:Value) (l:List Int) (hn:vY w .u8 sv l) (kv:Value) (ks:List Int) (hks:xI w kv ks) (hk1:1<=ks.length) (hk2:ks.length<=100) (hk3:∀k∈ks,1<=k/\k<=11):
  Calls Tryz.prog 9 #[sv,kv] w (zoT w):=by
 have hb1:=(Below.refl w.heap.size w).alloc (Nat.le_refl _) (.cells #[.int .i64 0, .int .i64 0, .slice none 0 0] 26)
 have hg1:=yE w (.cells #[.int .i64 0, .int .i64 0, .slice none 0 0] 26)
 have zcr:=zrt _ sv l (hn.below hb1) kv ks (ze.below uQ.stays hks hb1) hk1 hk2 hk3
 obtain⟨sa,sc,rfl, -⟩:∃a c,sv= .slice a l.length c/\True:=by obtain⟨a,c,h, -⟩:=hn;exact⟨a,c,h,trivial⟩
 obtain⟨ka,kc,rfl, -⟩:=ze.slice hks
 generalize l.length=ln at zcr ⊢
 generalize ks.length=kn at zcr ⊢
 have HB1:=qh hb1
 have xV:=qh hg1
 have zcs:=qh zcr
 clear hb1 hg1 zcr hn hks hk1 hk2 hk3
 go_enter Tryz.func9,Tryz.ntmps9
 go_upto_region 1 with fail
 generalize World.alloc w _=W at HB1 xV zcs ⊢
 obtain⟨gr,hgr⟩:∃gr,gr=w.heap.size:=⟨_,rfl⟩
 rw [<-hgr] at xV ⊢
 have wT:=qh hgr
 clear hgr
 go_upto_region 2 with(first|(go_at_call 27;go_must(refine(zpM.out).mono ?_);rintro en W3 ⟨⟨ta,tc,css,rfl,hrow⟩,hb⟩;(have jh:=qh hrow);(have HB3:=qh (zB HB2.out hb));(have jQ:=qh ((hb.block _ (zq HG2.out)).trans HG2.out));(have HW3:=qh hb.size);clear hrow hb;unfold yT)|(go_at_call 28;go_must(refine(zcs.out).mono ?_);rintro en W2 ⟨⟨p,vv,tv,rfl,hp,hpa⟩,hb⟩;(have zpM:=qh (zo1 3 4 W2 p hp vv tv hpa));(have vS:=qh (zpN hp));(have HB2:=qh (HB1.out.trans (hb.mono HB1.out.size)));(have HG2:=qh ((hb.block _ (zq xV.out)).trans xV.out));clear hb hp hpa;generalize zaN p=c at zpM vS;unfold zed at zpM ⊢))
 generalize hcv:c.vars=vars
 generalize hcd:c.domain=dom
 generalize hcl:c.threads.length=cn
 have HCV:=qh hcv
 have HCD:=qh hcd
 have HCL:=qh hcl
 clear hcv hcd hcl
 have hb4:=HB3.out.alloc HB3.out.size (.cells #[.int .i64 vars, .int .i64 dom, .slice ta cn tc] 26)
 have hg4:=(Below.heap_alloc W3 (.cells #[.int .i64 vars, .int .i64 dom, .slice ta cn tc] 26) _ (zq jQ.out)).trans jQ.out
 have gD:=yE W3 (.cells #[.int .i64 vars, .int .i64 dom, .slice ta cn tc] 26)
 have hs4:=(Since.refl (λ_=>False) W3).alloc (.cells #[.int .i64 vars, .int .i64 dom, .slice ta cn tc] 26)
 generalize World.alloc W3 _=X at hb4 hg4 gD hs4 ⊢
 generalize W3.heap.size=gc at gD ⊢
 have s:=yX (g:=gr) [.int .i64 vars, .int .i64 dom, .slice ta cn tc] X 0
 have hset:(zY X gr 0 [.int .i64 vars, .int .i64 dom, .slice ta cn tc]).heap[gr]? =_:=xS (cs:= [.int .i64 0, .int .i64 0, .slice none 0 0]) _ rfl hg4
 have hend:zoT w (.returned (.agg #[.int .i64 vars, .int .i64 dom, .slice ta cn tc])) (zY X gr 0 [.int .i64 vars, .int .i64 dom, .slice ta cn tc]):=by
  have h1:=jh.out
  rw [HCL.out] at h1
  have hlt:=HW3.out
  have hge:=HB2.out.size
  refine⟨⟨c,ta,tc,css,by unfold yT;rw [HCV.out,HCD.out,HCL.out],vS.out, ?_⟩,(hb4.trans (s.below hb4.size (λk hk=>by have:=wT.out;omega)))⟩
  rw [HCL.out]
  have h2:qp (λk=>(Value.slice ta cn tc).ownBlock=some k) W3 (xK 3) 1 w.heap.size 48 (.slice ta cn tc) c.threads css:=⟨h1.len,h1.part,zui h1.row hge⟩
  have hown:∀k,(Value.slice ta cn tc).ownBlock=some k->k≠gr:=λk hk e=>by have:=(h1.row.lt k hk).1;have:=zq HG2.out;omega
  have hgr:¬(Value.slice ta cn tc).ownBlock=some gr:=λe=>hown gr e rfl
  exact⟨h2.len,λj hj=>⟨(h2.part j hj).1,zrx ((h2.part j hj).2.step hs4 (λ_ h=>h.elim) (λk hk=> .inl hk)) hg4 hgr s⟩,s.row (hs4.row h2.row (λ_ _ h=>h)) hown⟩
 have yt:=qh hend
 have zI:=qh hset
 have c0:=za gD 0
 have c1:=za gD 1
 have c2:=za gD 2
 have z0:=za hg4 0
 have z1:=za hg4 1
 have z2:=za hg4 2
 have f0:=zw hg4 0
 have f1:=zw hg4 1
 have f2:=zw hg4 2
 clear hend hset s hg4 gD hs4 hb4
 go_wp2_with fail
 refine bodyPost_ret (yY rfl _ _ gr 26 _ (0,0) _ rfl zI.out Tryz.underlying26 rfl zfZ) rfl ?_
 exact yt.out
end Go.Proofs.YteggflahafiieaaGreatDoor
namespace Go.Proofs.YteggflahafiieaaGreatDoor
open Go.RowKit
set_option maxRecDepth 100000
set_option maxHeartbeats 16000000
def z9Z (vars:Int):List zT:= [⟨2,0,0, .mk 1 1 0 [],default,0⟩,⟨1,0,vars - 1,default,default,0⟩,⟨9,0,0, .mk 2 0 0 [],default,0⟩]
def zAa (vars:Int):List Value:= [.int .i64 2, .int .i64 0, .int .i64 0, .int .i64 1, .int .i64 1, .int .u8 0, .slice none 0 0, .int .i64 0, .int .i64 0, .int .u8 0, .slice none 0 0, .int .i64 0,
 .int .i64 1, .int .i64 0, .int .i64 (vars - 1), .int .i64 0, .int .i64 0, .int .u8 0, .slice none 0 0, .int .i64 0, .int .i64 0, .int .u8 0, .slice none 0 0, .int .i64 0,
 .int .i64 9, .int .i64 0, .int .i64 0, .int .i64 2, .int .i64 0, .int .u8 0, .slice none 0 0, .int .i64 0, .int .i64 0, .int .u8 0, .slice none 0 0, .int .i64 0]
structure z8c (w X:World) (gc gr g:Nat) (vars dom:Int) (n cap:Nat) (cl:List (List zT)):Prop where
 below:Below w.heap.size w X
 box:X.heap[gc]? =some (.cells #[.int .i64 vars, .int .i64 dom, .slice (some ⟨g,0,none⟩) n cap] 26 (0,0))
 res:X.heap[gr]? =some (.cells #[.int .i64 0, .int .i64 0, .slice none 0 0] 26 (0,0))
 lo:w.heap.size<=gc/\w.heap.size<=gr/\w.heap.size<=g/\gc≠gr/\g≠gc/\g≠gr
 row:∃cur:Array Value,X.heap[g]? =some (.cells cur 48 (0,0))/\n<=cur.size/\∀j,j<n->∃a c,cur[j]? =some (.slice a (cl.getD j []).length c)/\yK (λk=>k=g) X (λy=>xK 3 y (cl.getD j []) [.slice a (cl.getD j []).length c])
 len:cl.length=n
 ok:∀j,j<n->rowOk vars dom (cl.getD j [])=true
 room:n<=cap/\cap<=9223372036854775807
section
variable {w X:World} {gc gr g n cap:Nat} {vars dom:Int} {cl:List (List zT)}
end
end Go.Proofs.YteggflahafiieaaGreatDoor
namespace Go.Proofs.YteggflahafiieaaGreatDoor
open Go.RowKit
set_option maxRecDepth 100000
set_option maxHeartbeats 16000000
theorem zjo:∃i,Tryz.prog.info? 3=some i/\i.size=1:=by
 have h:(Tryz.prog.info? 3).map (λi=>i.size)=some 1:=by kernel_rfl
 cases hq:Tryz.prog.info? 3 with
 |none=>rw [hq] at h;cases h
 |some i=>rw [hq] at h;exact⟨i,rfl,by simpa using h⟩
theorem zpO:Tryz.prog.cellsOf 3=1:=by kernel_rfl
theorem zga:Tryz.prog.underlying 3=some (.int .i64):=by kernel_rfl
theorem zpP:Tryz.prog.underlying 44=some (.array 4 3):=by kernel_rfl
theorem ze5 (d:Nat) (w:World) (a b:Int):(Op.equalIn (d+1) 3 (.int .i64 a) (.int .i64 b)).run Tryz.prog w= .ok (a==b) w:=by
 simp [Op.equalIn,run_underlying zga]
theorem jF (w:World) (xs:Array Value) (j:Nat) (a:Int) (h:xs[j]? =some (.int .i64 a)):(part 3 xs j).run Tryz.prog w= .ok (.int .i64 a) w:=by
 obtain⟨i,hi,hs⟩:=zjo
 have hagg:(isAgg 3).run Tryz.prog w= .ok false w:=by
  unfold isAgg
  rw [Sem.run_bind,run_underlying zga w]
  rfl
 simp [part,Sem.run_bind,hagg,h]
@[go_sem] theorem z14 (w:World) (q0 q1 q2 q3 p0 p1 p2 p3:Int):(Op.equalIn 10000 44 (.agg #[.int .i64 q0, .int .i64 q1, .int .i64 q2, .int .i64 q3]) (.agg #[.int .i64 p0, .int .i64 p1, .int .i64 p2, .int .i64 p3])).run Tryz.prog w
  = .ok (decide (([q0,q1,q2,q3] :List Int)= [p0,p1,p2,p3])) w:=by
 obtain⟨i,hi,hs⟩:=zjo
 rw [run_equalIn_array w 9999 _ _ zpP hi,zpO]
 have e:List.range 4= [0,1,2,3] :=rfl
 rw [e]
 have g0:=λ(w:World) (a b c d:Int)=>jF w #[.int .i64 a, .int .i64 b, .int .i64 c, .int .i64 d] 0 a rfl
 have g1:=λ(w:World) (a b c d:Int)=>jF w #[.int .i64 a, .int .i64 b, .int .i64 c, .int .i64 d] 1 b rfl
 have g2:=λ(w:World) (a b c d:Int)=>jF w #[.int .i64 a, .int .i64 b, .int .i64 c, .int .i64 d] 2 c rfl
 have g3:=λ(w:World) (a b c d:Int)=>jF w #[.int .i64 a, .int .i64 b, .int .i64 c, .int .i64 d] 3 d rfl
 have ge:=ze5 9998
 by_cases h0:q0=p0
 ·by_cases h1:q1=p1
  ·by_cases h2:q2=p2
   ·by_cases h3:q3=p3
    ·simp [Op.eqItems,g0,g1,g2,g3,ge,h0,h1,h2,h3]
    simp [Op.eqItems,g0,g1,g2,g3,ge,h0,h1,h2,h3]
   simp [Op.eqItems,g0,g1,g2,g3,ge,h0,h1,h2]
  simp [Op.eqItems,g0,g1,g2,g3,ge,h0,h1]
 simp [Op.eqItems,g0,g1,g2,g3,ge,h0]
end Go.Proofs.YteggflahafiieaaGreatDoor
namespace Go.Proofs.YteggflahafiieaaGreatDoor
open Go.RowKit
set_option maxRecDepth 100000
set_option maxHeartbeats 16000000
def z7Y (w:World) (s:zrz) (sv mv nv:Value):Prop:=zuj w sv s.states/\ze zyg 1 w mv s.moves/\ze z19 1 w nv s.next
section
variable {W X X1:World} {g r:Nat} {sv mv nv xv:Value} {sl:List zm} {ml:List (List zN)} {nl:List (List Int)} {xl:List Int} {sc mc nc:List (List Value)}
end
end Go.Proofs.YteggflahafiieaaGreatDoor
namespace Go.Proofs.YteggflahafiieaaGreatDoor
open Go.RowKit
set_option maxRecDepth 100000
set_option maxHeartbeats 16000000
def zct (n:Int):zF:=⟨n % 3,1+n / 3 % 3⟩
theorem zo2 (w:World) (n:Int) (h0:0<=n) (h1:n<=255):Calls Tryz.prog 11 #[.int .u8 n] w λe w'=>e= .returned (xD (zct n))/\Below w.heap.size w w':=by
 unfold xD zct
 go_enter Tryz.func11,Tryz.ntmps11
 go_wp2
 exact bodyPost_ret (v:= .agg #[.int .i64 (n % 3), .int .i64 (1+n / 3 % 3)]) (by simp [results,Tryz.results11,go_sem]) rfl ⟨rfl,(Below.refl _ _).alloc (Nat.le_refl _) _⟩
end Go.Proofs.YteggflahafiieaaGreatDoor
namespace Go.Proofs.YteggflahafiieaaGreatDoor
open Go.RowKit
set_option maxRecDepth 100000
set_option maxHeartbeats 16000000
theorem zdc {c:zK} {m:zF} {s:zm} {d:Nat} {x:zN} (h:x∈qM c m s d):xR c m s=true/\∃i,i<s.threads.length/\((x=⟨1,i,0⟩/\∃t,vT c m s i d=some t)\/∃v,x=⟨2,i,v⟩/\v∈yD (s.threads.getD i default).buf m.model):=by
 unfold qM at h
 split at h
 ·rename_i hf
  refine⟨hf, ?_⟩
  obtain⟨i,hi,hx⟩:=List.mem_flatMap.1 h
  refine⟨i,List.mem_range.1 hi, ?_⟩
  unfold wK at hx
  rcases List.mem_append.1 hx with hx|hx
  ·split at hx
   ·rename_i hs
    rw [List.mem_singleton] at hx
    exact .inl ⟨hx,Option.isSome_iff_exists.1 hs⟩
   simp at hx
  obtain⟨v,hv,rfl⟩:=List.mem_map.1 hx
  exact .inr ⟨v,rfl,hv⟩
 simp at h
theorem zcu {c:zK} {m:zF} {s:zm} {d:Nat} {x:zN} (h:x∈qM c m s d):∃i,i<s.threads.length/\((x=⟨1,i,0⟩/\∃t,vT c m s i d=some t/\ji c m s x d=(t,0))\/∃v,x=⟨2,i,v⟩/\v∈yD (s.threads.getD i default).buf m.model/\ji c m s x d=(kI s i v,0)):=by
 obtain⟨hf,i,hi,hx⟩:=zdc h
 refine⟨i,hi, ?_⟩
 rcases hx with⟨rfl,t,ht⟩|⟨v,rfl,hv⟩
 ·refine .inl ⟨rfl,t,ht, ?_⟩
  unfold ji
  rw [if_pos hf,if_pos ⟨by show(0:Int)<=(i:Int);omega,by show(i:Int)<_;omega⟩,if_pos ⟨rfl,rfl⟩]
  rw [show(⟨1,(i:Int),0⟩:zN).thread.toNat=i from Int.toNat_natCast i,ht]
 refine .inr ⟨v,rfl,hv, ?_⟩
 unfold ji
 rw [if_pos hf,if_pos ⟨by show(0:Int)<=(i:Int);omega,by show(i:Int)<_;omega⟩,if_neg (by rintro⟨h, -⟩;exact absurd (show(2:Int)=1 from h) (by decide))]
 rw [show(⟨2,(i:Int),v⟩:zN).thread.toNat=i from Int.toNat_natCast i,if_pos ⟨rfl,hv⟩]
section
variable {c:zK} {m:zF} {d R:Nat} {P:zm->Prop}
end
theorem zjq {c:zK} {m:zF} {s:zm} {t:zo} {x:zT} {d:Nat} {r:zo × List Int × Bool} (h:stepT c m s t x d=some r):r.2.1.length=s.mem.length:=by
 by_cases h1:x.op=1
 ·rw [kY h1] at h;cases h;rfl
 by_cases h2:x.op=2
 ·by_cases hm:m.model=0
  ·rw [kJ h2 hm] at h;cases h;simp
  cases hp:xY t.buf m ⟨x.var,zZ t.regs c.domain d x.a⟩ with
  |true=>rw [kK h2 hm hp] at h;cases h;rfl
  |false=>rw [kL h2 hm hp] at h;cases h
 by_cases h3:x.op=3
 ·rw [uW h3] at h;cases h;rfl
 by_cases h4:x.op=4
 ·rw [ku h4] at h;split at h<;>cases h;rfl
 by_cases h5:x.op=5
 ·rw [jV h5] at h;split at h<;>cases h;rfl
 by_cases h6:x.op=6
 ·by_cases hv:s.mem.getD x.var.toNat 0=zZ t.regs c.domain d x.a
  ·rw [kZ h6 hv] at h;split at h<;>cases h;simp
  rw [wh h6 hv] at h;split at h<;>cases h;rfl
 by_cases h7:x.op=7
 ·rw [jW h7] at h;split at h<;>cases h;simp
 by_cases h8:x.op=8
 ·rw [jG h8] at h;split at h<;>cases h;simp
 by_cases h9:x.op=9
 ·rw [jk h9] at h;cases h;rfl
 by_cases h12:x.op=12
 ·rw [jH h12] at h;cases h;rfl
 by_cases h13:x.op=13
 ·rw [gV h13] at h;cases h;rfl
 rw [uF h1 h2 h3 h4 h5 h6 h7 h8 h9 h12 h13] at h;cases h;rfl
theorem zr0 {c:zK} {m:zF} {s t:zm} {i d:Nat} (h:vT c m s i d=some t):t.mem.length=s.mem.length/\t.threads.length=s.threads.length:=by
 unfold vT at h
 split at h
 ·obtain⟨r,hr,rfl⟩:=Option.map_eq_some_iff.1 h
  exact⟨zjq hr,by simp⟩
 cases h
theorem zyh {c:zK} {m:zF} {s:zm} {d:Nat} {x:zN} (h:x∈qM c m s d):(ji c m s x d).1.mem.length=s.mem.length/\(ji c m s x d).1.threads.length=s.threads.length:=by
 obtain⟨i,hi,hx⟩:=zcu h
 rcases hx with⟨rfl,t,ht,he⟩|⟨v,rfl,hv,he⟩
 ·rw [he];exact zr0 ht
 rw [he];exact⟨by simp [kI],by simp [kI]⟩
end Go.Proofs.YteggflahafiieaaGreatDoor
namespace Go.Proofs.YteggflahafiieaaGreatDoor
open Go.RowKit Go.ChangeShapes Go.WideShapes Go.ChangeAt
set_option maxRecDepth 100000
set_option maxHeartbeats 16000000
section
variable {X Z:World} {g:Nat}
end
section
variable {V X Y:World} {mb:Option Nat}
end
