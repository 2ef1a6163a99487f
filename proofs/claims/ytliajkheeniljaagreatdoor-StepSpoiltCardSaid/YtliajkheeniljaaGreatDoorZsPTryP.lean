/- A move in a state: the program's answer: what the last stores leave, as plain Lean. -/
import Derived.Test.YtliajkheeniljaaGreatDoorZsFits
import Derived.Test.YtliajkheeniljaaGreatDoorZsPClone
import Derived.Test.YtliajkheeniljaaGreatDoorZsPStep
import Derived.Test.YtliajkheeniljaaGreatDoorZsStepQ
import Derived.Test.YtliajkheeniljaaGreatDoorZsShort
set_option linter.all false
namespace Go.Proofs.YtliajkheeniljaaGreatDoor
open Go.RowKit
set_option maxRecDepth 100000
set_option maxHeartbeats 16000000
variable {v0:Value}
theorem zj7 {l:List zx} {bs:List Value} {i:Nat} (hi:i<l.length) (hb:bs.length=l.length) (hr:(l.getD i default).regs.length=4) (pc r0 r1 r2 r3:Int) (buf:List zm) (bv:Value):
  zR (l.set i ⟨pc, [r0,r1,r2,r3],buf⟩) (bs.set i bv)=((((((zR l bs).set (i*6) (.int .i64 pc)).set (i*6+1) (.int .i64 r0)).set (i*6+2) (.int .i64 r1)).set (i*6+3) (.int .i64 r2)).set (i*6+4) (.int .i64 r3)).set (i*6+5) bv:=by
 obtain⟨a,b,c,d,he⟩:=j4 hr
 obtain⟨b0,hb0⟩:∃v,v=bs.getD i (.slice none 0 0):=⟨_,rfl⟩
 obtain⟨p,bf,hT⟩:∃p bf,l.getD i default=⟨p, [a,b,c,d],bf⟩:=⟨_,_,by rw [<-he]⟩
 have hg:∀t:zx,(l.set i t).getD i default=t:=fun t=>by rw [xE hi,if_pos rfl]
 have hgb:∀v:Value,(bs.set i v).getD i (.slice none 0 0)=v:=fun v=>by rw [xE (by omega),if_pos rfl]
 have e1:=jh (l:=l) (bs:=bs) (i:=i) (k:=0) (t:=⟨pc, [a,b,c,d],bf⟩) (b:=b0) (u:= .int .i64 pc) hi hb (by omega) (by rw [hT, <-hb0];rfl)
 have e2:=jh (l:=l.set i ⟨pc, [a,b,c,d],bf⟩) (bs:=bs.set i b0) (i:=i) (k:=1) (t:=⟨pc, [r0,b,c,d],bf⟩) (b:=b0) (u:= .int .i64 r0) (by simpa using hi) (by simpa using hb) (by omega) (by rw [hg,hgb];rfl)
 have e3:=jh (l:=l.set i ⟨pc, [r0,b,c,d],bf⟩) (bs:=bs.set i b0) (i:=i) (k:=2) (t:=⟨pc, [r0,r1,c,d],bf⟩) (b:=b0) (u:= .int .i64 r1) (by simpa using hi) (by simpa using hb) (by omega) (by rw [hg,hgb];rfl)
 have e4:=jh (l:=l.set i ⟨pc, [r0,r1,c,d],bf⟩) (bs:=bs.set i b0) (i:=i) (k:=3) (t:=⟨pc, [r0,r1,r2,d],bf⟩) (b:=b0) (u:= .int .i64 r2) (by simpa using hi) (by simpa using hb) (by omega) (by rw [hg,hgb];rfl)
 have e5:=jh (l:=l.set i ⟨pc, [r0,r1,r2,d],bf⟩) (bs:=bs.set i b0) (i:=i) (k:=4) (t:=⟨pc, [r0,r1,r2,r3],bf⟩) (b:=b0) (u:= .int .i64 r3) (by simpa using hi) (by simpa using hb) (by omega) (by rw [hg,hgb];rfl)
 have e6:=jh (l:=l.set i ⟨pc, [r0,r1,r2,r3],bf⟩) (bs:=bs.set i b0) (i:=i) (k:=5) (t:=⟨pc, [r0,r1,r2,r3],buf⟩) (b:=bv) (u:=bv) (by simpa using hi) (by simpa using hb) (by omega) (by rw [hg,hgb];rfl)
 simp only [List.set_set] at e2 e3 e4 e5 e6
 rw [e6,e5,e4,e3,e2,e1,Nat.add_zero]
theorem zyD {w:World} {sv:Value} {l:List zm} (h:zQ w sv l) (hl:l≠ []) {g:Nat} {t:TypeId} {f:Nat × Nat} {a1 a2:Option Addr} {n1 c1 n2 c2:Nat} {bad:Bool} (hg:w.heap[g]? =some (.cells #[.slice a1 n1 c1, .slice a2 n2 c2, .bool bad] t f)):
  ∀b o n c,sv= .slice (some ⟨b,o,none⟩) n c->b≠g:=by
 intro b o n c hs e
 subst e hs
 obtain⟨a,cap,h1, -,h4⟩:=h
 cases h1
 obtain⟨b',off,cs,h5, -,h7,h8,h9⟩:=h4 0 (by cases l with|nil=>exact absurd rfl hl|cons=>simp)
 cases h5
 have h10:=h8 0 (by omega)
 obtain rfl:cs=zm.cells _:=h9
 rw [zi hg] at h10
 have:∀j:Nat,(#[Value.slice a1 n1 c1, .slice a2 n2 c2, .bool bad] :Array Value)[j]? ≠some (.int .i64 (l.getD 0 default).var):=by
  intro j
  rcases j with _|_|_|j<;>simp
 exact this _ (h10.trans rfl)
theorem zoW {w:World} {sv:Value} {l:List zm} (h:zQ w sv l) (hl:l≠ []):∀b o n c,sv= .slice (some ⟨b,o,none⟩) n c->b<w.heap.size:=by
 intro b o n c hs
 subst hs
 obtain⟨a,cap,h1, -,h4⟩:=h
 cases h1
 obtain⟨b',off,cs,h5,h6, -⟩:=h4 0 (by cases l with|nil=>exact absurd rfl hl|cons=>simp)
 cases h5
 exact h6
theorem zmX {α:Type} [Inhabited α] {F:Nat->Prop} {R:World->α->List Value->Prop} {size:Nat} {w:World} {sv:Value} {l:List α} (h:zk R size w sv l) (ha:yM F w (fun y=>zk R size y sv l)) (hz:0<size) (hR:∀y x cs,R y x cs->∃z,cs[0]? =some (.int .i64 z)) (hl:0<l.length):
  ∀b o n c,sv= .slice (some ⟨b,o,none⟩) n c->¬F b:=by
 intro b o n c e hF
 subst e
 obtain⟨a,cap,h1, -,h4⟩:=h
 cases h1
 obtain⟨b',off,cs,h5,h6,h7,h8,h9⟩:=h4 0 hl
 cases h5
 obtain⟨z,hz0⟩:=hR _ _ _ h9
 have hset:=World.cell?_setCell_same' w ⟨b,o+0*size+0,none⟩ (.bool true) (by rw [(h8 0 hz).trans hz0];rfl)
 obtain⟨a,cap,g1, -,g4⟩:=ha _ ((Since.refl F w).setCell (p:=⟨b,o+0*size+0,none⟩) (.inl hF) (.bool true))
 cases g1
 obtain⟨b',off,cs,g5,g6,g7,g8,g9⟩:=g4 0 hl
 cases g5
 obtain⟨z,hz0⟩:=hR _ _ _ g9
 have hc:=(g8 0 hz).trans hz0
 rw [hset] at hc
 cases hc
theorem zvr {w:World} {sv:Value} {l r:List zm} (h:zQ w sv l) (h':zQ w sv r):l=r:=by
 obtain⟨a,cap,e, -,h4⟩:=h
 obtain⟨a',cap',e', -,h4'⟩:=h'
 subst e
 simp only [Value.slice.injEq] at e'
 obtain⟨rfl,hn, -⟩:=e'
 refine zhM hn fun j hj=> ?_
 obtain⟨b,off,cs,h5,h6,h7,h8,h9⟩:=h4 j hj
 obtain⟨b',off',cs',g5,g6,g7,g8,g9⟩:=h4' j (hn ▸ hj)
 subst h5
 cases g5
 obtain rfl:cs=zm.cells _:=h9
 obtain rfl:cs'=zm.cells _:=g9
 have e0:=(h8 0 (by omega)).symm.trans (g8 0 (by omega))
 have e1:=(h8 1 (by omega)).symm.trans (g8 1 (by omega))
 refine zpg ?_ ?_
 ·simpa [zm.cells] using e0
 ·simpa [zm.cells] using e1
theorem zpB {F:Nat->Prop} {w:World} {s:zu} {sv mv:Value} {bs:List Value} (h0:zZ w s sv mv) (h:yM F w (fun y=>zZ y s sv mv)) (hsrc:SrcOf w sv s.threads.length 6 (zR s.threads bs)):
  ∀j,j<s.threads.length->yM F w (fun y=>zQ y (bs.getD j (.slice none 0 0)) (s.threads.getD j default).buf):=by
 intro j hj y hy
 obtain⟨a,cap,rfl, -, -,hcell⟩:=hsrc
 have hx:(zR s.threads bs)[j*6+5]? =some (bs.getD j (.slice none 0 0)):=(qK (bs:=bs) (i:=5) hj (by omega)).trans rfl
 obtain⟨b,off,cs,e5,e6, -⟩:=zk.part h0.threads j hj
 subst e5
 have hfree:=zmX h0.threads (fun y hy=>(h y hy).threads) (by decide) (fun _ x cs ⟨_,bv,e,_⟩=>⟨x.pc,by rw [e];rfl⟩) (by omega) b off _ _ rfl
 have hw:=hcell _ rfl _ _ hx
 obtain⟨b',off',cs',g5,g6,g7,g8,g9⟩:=zk.part (h y hy).threads j hj
 cases g5
 obtain⟨-,bv,e,hb⟩:=g9
 subst e
 have hy5:=(g8 5 (by omega)).trans (show(zx.cells _ bv)[5]? =some bv from rfl)
 have hc:=hy.cell (p:=⟨b,off+j*6+5,none⟩) e6 hfree
 have hw2:w.cell? ⟨b,off+j*6+5,none⟩=some (bs.getD j (.slice none 0 0)):=by simpa [Addr.add,Nat.add_assoc] using hw
 rw [hy5,hw2] at hc
 injection hc with hc
 rw [<-hc]
 exact hb
def Follows (w:World) (s0:zu) (sv0 mv0:Value) (X:World) (s:zu) (sv mv:Value):Prop:=∀F:Nat->Prop,(∀k,F k->k<w.heap.size)->yM F w (fun y=>zZ y s0 sv0 mv0)->yM F X (fun y=>zZ y s sv mv)
theorem Follows.now {w X:World} {s0 s:zu} {sv0 mv0 sv mv:Value} (h:Follows w s0 sv0 mv0 X s sv mv) (hs:zZ w s0 sv0 mv0):zZ X s sv mv:=
 (h (fun _=>False) (fun _ h=>h.elim) (fun _ hy=>hs.below (hy.below (Nat.le_refl _) (fun _ h=>h.elim)))).now
theorem Follows.later {w w1 w2 X:World} {G:Nat->Prop} {s0 s:zu} {sv0 mv0 sv mv:Value} (h:Follows w1 s0 sv0 mv0 w2 s sv mv) (hb:Below w.heap.size w w1) (hs:Since G w2 X) (hG:∀k,G k->(w.heap.size<=k/\k<w1.heap.size)\/w2.heap.size<=k):Follows w s0 sv0 mv0 X s sv mv:=by
 intro F hF ha
 have h1:yM (fun k=>F k\/(w.heap.size<=k/\k<w1.heap.size)) w1 (fun y=>zZ y s0 sv0 mv0):=ha.step (Since.of_below hb) (fun k hk=> .inr hk) (fun k hk=>hk.elim .inl (fun e=> .inr e.1))
 have h2:=h _ (fun k hk=>hk.elim (fun e=>Nat.lt_of_lt_of_le (hF k e) hb.size) (fun e=>e.2)) h1
 exact h2.step hs (fun k hk=>(hG k hk).elim (fun e=> .inl (.inr e)) .inr) (fun k hk=> .inl (.inl hk))
theorem zs3 {w w5 w6:World} {B gr gs mb mc tb cc i:Nat} {pc r0 r1 r2 r3 dom:Int} {buf:List zm} {bv:Value} {m:zK} {mem:List Int} {bad zs4:Bool} {ts:List zx} {bs:List Value} {sa ma:Option Addr} {sn sc mn0 xV:Nat}
  (h:xq v0 w5 B gr pc r0 r1 r2 r3 buf bv m dom mem mb mc bad) (hgs:w5.heap[gs]? =some (.cells #[.slice sa sn sc, .slice ma mn0 xV, .bool zs4] 30 (0,0))) (hB:gs<B) (hw:w.heap.size<=gs) (h5:Below w.heap.size w w5)
  (hrow:w6.ownsRow w5.heap.size 48 6 (.slice (some ⟨tb,0,none⟩) ts.length cc) ts.length (zR ts bs)) (h6:Below w5.heap.size w5 w6) (hi:i<ts.length) (hbs:bs.length=ts.length)
  (hts:∀j,j<ts.length->(ts.getD j default).regs.length=4/\zQ w (bs.getD j (.slice none 0 0)) (ts.getD j default).buf) {S0:zu} {sv0 mv0:Value} (hs0:zZ w S0 sv0 mv0) (hst:S0.threads=ts) (hsrc:SrcOf w sv0 ts.length 6 (zR ts bs)) (hv0:v0=bs.getD i (.slice none 0 0)) (hwB:w.heap.size<=B) (Z:World)
  (hZ:Z=((((((((w6.setCell ⟨gs,0,none⟩ (.slice (some ⟨tb,0,none⟩) ts.length cc)).drew.setCell ⟨tb,i*6,none⟩ (.int .i64 pc)).setCell ⟨tb,i*6+1,none⟩ (.int .i64 r0)).setCell ⟨tb,i*6+2,none⟩ (.int .i64 r1)).setCell ⟨tb,i*6+3,none⟩ (.int .i64 r2)).setCell ⟨tb,i*6+4,none⟩ (.int .i64 r3)).setCell ⟨tb,i*6+5,none⟩ bv).setCell ⟨gs,1,none⟩ (.slice (some ⟨mb,0,none⟩) mem.length mc)).setCell ⟨gs,2,none⟩ (.bool bad)):
  (∀g X,w.heap.size<=g->g<B->Since (fun k=>k=g) Z X->Follows w S0 sv0 mv0 X ⟨ts.set i ⟨pc, [r0,r1,r2,r3],buf⟩,mem,bad⟩ (.slice (some ⟨tb,0,none⟩) ts.length cc) (.slice (some ⟨mb,0,none⟩) mem.length mc))/\Z.heap[gs]? =some (.cells #[.slice (some ⟨tb,0,none⟩) ts.length cc, .slice (some ⟨mb,0,none⟩) mem.length mc, .bool bad] 30 (0,0))/\
   Since (fun k=>k=gs\/k=tb) w6 Z/\Below w.heap.size w Z:=by
 have htb:=(hrow.lt tb rfl).1
 have zAQ:=zw hgs
 have hne:tb≠gs:=by omega
 have zAR:=(h6.block gs zAQ).trans hgs
 have s0:=Since.setCell (F:=fun k=>k=gs) (p:=⟨gs,0,none⟩) (Since.refl _ w6) (.inl rfl) (.slice (some ⟨tb,0,none⟩) ts.length cc)
 have b0:=zA zAR 0 (.slice (some ⟨tb,0,none⟩) ts.length cc)
 have q0:=s0.drew.row hrow (fun k hk e=>hne (by cases hk;exact e))
 have q1:=wG (j:=i*6) q0 (.int .i64 pc)
 have q2:=wG (j:=i*6+1) q1 (.int .i64 r0)
 have q3:=wG (j:=i*6+2) q2 (.int .i64 r1)
 have q4:=wG (j:=i*6+3) q3 (.int .i64 r2)
 have q5:=wG (j:=i*6+4) q4 (.int .i64 r3)
 have q6:=wG (j:=i*6+5) q5 bv
 have st:=((((((Since.refl (fun k=>k=tb) (w6.setCell ⟨gs,0,none⟩ (.slice (some ⟨tb,0,none⟩) ts.length cc)).drew).setCell (p:=⟨tb,i*6,none⟩) (.inl rfl) (.int .i64 pc)).setCell (p:=⟨tb,i*6+1,none⟩) (.inl rfl) (.int .i64 r0)).setCell (p:=⟨tb,i*6+2,none⟩) (.inl rfl) (.int .i64 r1)).setCell (p:=⟨tb,i*6+3,none⟩) (.inl rfl) (.int .i64 r2)).setCell (p:=⟨tb,i*6+4,none⟩) (.inl rfl) (.int .i64 r3)).setCell (p:=⟨tb,i*6+5,none⟩) (.inl rfl) bv
 generalize hY:(((((((w6.setCell ⟨gs,0,none⟩ (.slice (some ⟨tb,0,none⟩) ts.length cc)).drew.setCell ⟨tb,i*6,none⟩ (.int .i64 pc)).setCell ⟨tb,i*6+1,none⟩ (.int .i64 r0)).setCell ⟨tb,i*6+2,none⟩ (.int .i64 r1)).setCell ⟨tb,i*6+3,none⟩ (.int .i64 r2)).setCell ⟨tb,i*6+4,none⟩ (.int .i64 r3)).setCell ⟨tb,i*6+5,none⟩ bv)=Y at hZ st q6
 have bY:Y.heap[gs]? =some (.cells #[.slice (some ⟨tb,0,none⟩) ts.length cc, .slice ma mn0 xV, .bool zs4] 30 (0,0)):=(st.block gs (zw b0) (fun e=>hne e.symm)).trans b0
 have b1:=zA bY 1 (.slice (some ⟨mb,0,none⟩) mem.length mc)
 have b2:=zA b1 2 (.bool bad)
 have sY:=(Since.setCell (F:=fun k=>k=gs) (p:=⟨gs,1,none⟩) (Since.refl _ Y) (.inl rfl) (.slice (some ⟨mb,0,none⟩) mem.length mc)).setCell (p:=⟨gs,2,none⟩) (.inl rfl) (.bool bad)
 have q7:=sY.row q6 (fun k hk e=>hne (by cases hk;exact e))
 rw [<-hZ] at b2 sY q7
 have hS:Since (fun k=>k=gs\/k=tb) w6 Z:=(((s0.drew.mono (G:=fun k=>k=gs\/k=tb) fun _ _ h=> .inl h).trans (st.mono (G:=fun k=>k=gs\/k=tb) fun _ _ h=> .inr h) fun _ h=> .inl h).trans (sY.mono (G:=fun k=>k=gs\/k=tb) fun _ _ h=> .inl h) fun _ h=> .inl h)
 have hwZ:Below w.heap.size w Z:=(h5.trans (h6.mono h5.size)).trans (hS.below (Nat.le_trans h5.size h6.size) (fun k hk=>by have:=h5.size;rcases hk with e|e<;>omega))
 have hB5:B<=w5.heap.size:=Nat.le_trans h.base (Nat.le_of_lt (zw h.block))
 have key:∀F:Nat->Prop,(∀k,F k->k<B)->(∀j,j<ts.length->yM F w (fun y=>zQ y (bs.getD j (.slice none 0 0)) (ts.getD j default).buf))->yM F Z (fun y=>zZ y ⟨ts.set i ⟨pc, [r0,r1,r2,r3],buf⟩,mem,bad⟩ (.slice (some ⟨tb,0,none⟩) ts.length cc) (.slice (some ⟨mb,0,none⟩) mem.length mc)):=by
  intro F hF hA y hy
  have hAZ:∀j,j<ts.length->zQ y (bs.getD j (.slice none 0 0)) (ts.getD j default).buf:=fun j hj=>((hA j hj).step (Since.of_below hwZ) (fun k hk=> .inr hk) (fun k hk=> .inl hk)) y hy
  refine⟨?_, ?_⟩
  ·have hr:=(hts i hi).1
   have e:=zj7 hi hbs hr pc r0 r1 r2 r3 buf bv
   have hl:(ts.set i ⟨pc, [r0,r1,r2,r3],buf⟩).length=ts.length:=by simp
   have key:xY y (.slice (some ⟨tb,0,none⟩) (ts.set i ⟨pc, [r0,r1,r2,r3],buf⟩).length cc) (ts.set i ⟨pc, [r0,r1,r2,r3],buf⟩):=by
    refine zgJ (B:=w5.heap.size) (bs:=bs.set i bv) (by rw [hl,e];exact hy.row q7 (fun k hk e=>by cases hk;have h9:tb<B:=hF _ e;omega)) fun j hj=> ?_
    rw [hl] at hj
    by_cases hji:j=i
    rotate_left
    ·rw [xE hj,if_neg hji,xE (by omega),if_neg hji]
     exact⟨(hts j hj).1,hAZ j hj⟩
    subst hji
    rw [xE hj,if_pos rfl,xE (by omega),if_pos rfl]
    refine⟨rfl, ?_⟩
    rcases h.kept with e0|hn
    ·subst e0
     have e1:buf=(ts.getD j default).buf:=by
      refine zvr h.qF ?_
      rw [hv0]
      exact zQ.below (hts j hj).2 h5
     have:=hAZ j hj
     rw [<-hv0, <-e1] at this
     exact this
    ·refine bD (F:=F) ?_ hy fun _ b o n c hb e=>by have:=hF _ e;have:=hn b o n c hb;omega
     refine bD (zQ.below h.qF h6) hS fun hn b o n c hb=> ?_
     have h1:=zyD h.qF hn hgs b o n c hb
     have h2:=zoW h.qF hn b o n c hb
     rintro(e|e)
     ·exact h1 e
     ·omega
   rw [hl] at key
   exact key
  ·have hr:=xS h.row h6
   have hm:=h.kC
   exact gL (hy.row (hS.row hr (fun k hk e=>by cases hk;change mb=gs\/mb=tb at e;rcases e with e|e<;>omega)) (fun k hk e=>by cases hk;have:=hF _ e;change mb<B at this;omega))
 refine⟨?_,b2,hS,hwZ⟩
 intro g X hg1 hg2 hX F hF ha
 subst hst
 have ha2:yM (fun k=>F k\/k=g) w (fun y=>zZ y S0 sv0 mv0):=ha.step (Since.refl F w) (fun k hk=> .inl hk) (fun k hk=>hk.elim .inl (fun e=> .inr (by omega)))
 have hz:=key (fun k=>F k\/k=g) (fun k hk=>hk.elim (fun e=>Nat.lt_of_lt_of_le (hF k e) hwB) (fun e=>by omega)) (zpB hs0 ha2 hsrc)
 exact hz.step hX (fun k hk=> .inl (.inr hk)) (fun k hk=> .inl (.inl hk))
end Go.Proofs.YtliajkheeniljaaGreatDoor
