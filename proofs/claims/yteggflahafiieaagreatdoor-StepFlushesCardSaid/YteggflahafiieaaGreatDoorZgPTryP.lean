/- Steps. -/
import Derived.Test.YteggflahafiieaaGreatDoorZgFits
import Derived.Test.YteggflahafiieaaGreatDoorZgPStep
set_option linter.all false
namespace Go.Proofs.YteggflahafiieaaGreatDoor
open Go.RowKit
set_option maxRecDepth 100000
set_option maxHeartbeats 16000000
variable {v0:Value}
theorem zon {l:List zo} {bs:List Value} {i:Nat} (hi:i<l.length) (hb:bs.length=l.length) (hr:(l.getD i default).regs.length=4) (pc r0 r1 r2 r3:Int) (buf:List zi) (bv:Value):
  zU (l.set i ⟨pc, [r0,r1,r2,r3],buf⟩) (bs.set i bv)=((((((zU l bs).set (i*6) (.int .i64 pc)).set (i*6+1) (.int .i64 r0)).set (i*6+2) (.int .i64 r1)).set (i*6+3) (.int .i64 r2)).set (i*6+4) (.int .i64 r3)).set (i*6+5) bv:=by
 obtain⟨a,b,c,d,he⟩:=jS hr
 obtain⟨b0,hb0⟩:∃v,v=bs.getD i (.slice none 0 0):=⟨_,rfl⟩
 obtain⟨p,bf,hT⟩:∃p bf,l.getD i default=⟨p, [a,b,c,d],bf⟩:=⟨_,_,by rw [<-he]⟩
 have hg:∀t:zo,(l.set i t).getD i default=t:=λt=>by rw [qg hi,if_pos rfl]
 have hgb:∀v:Value,(bs.set i v).getD i (.slice none 0 0)=v:=λv=>by rw [qg (by omega),if_pos rfl]
 have e1:=jL (l:=l) (bs:=bs) (i:=i) (k:=0) (t:=⟨pc, [a,b,c,d],bf⟩) (b:=b0) (u:= .int .i64 pc) hi hb (by omega) (by rw [hT, <-hb0];rfl)
 have e2:=jL (l:=l.set i ⟨pc, [a,b,c,d],bf⟩) (bs:=bs.set i b0) (i:=i) (k:=1) (t:=⟨pc, [r0,b,c,d],bf⟩) (b:=b0) (u:= .int .i64 r0) (by simpa using hi) (by simpa using hb) (by omega) (by rw [hg,hgb];rfl)
 have e3:=jL (l:=l.set i ⟨pc, [r0,b,c,d],bf⟩) (bs:=bs.set i b0) (i:=i) (k:=2) (t:=⟨pc, [r0,r1,c,d],bf⟩) (b:=b0) (u:= .int .i64 r1) (by simpa using hi) (by simpa using hb) (by omega) (by rw [hg,hgb];rfl)
 have e4:=jL (l:=l.set i ⟨pc, [r0,r1,c,d],bf⟩) (bs:=bs.set i b0) (i:=i) (k:=3) (t:=⟨pc, [r0,r1,r2,d],bf⟩) (b:=b0) (u:= .int .i64 r2) (by simpa using hi) (by simpa using hb) (by omega) (by rw [hg,hgb];rfl)
 have e5:=jL (l:=l.set i ⟨pc, [r0,r1,r2,d],bf⟩) (bs:=bs.set i b0) (i:=i) (k:=4) (t:=⟨pc, [r0,r1,r2,r3],bf⟩) (b:=b0) (u:= .int .i64 r3) (by simpa using hi) (by simpa using hb) (by omega) (by rw [hg,hgb];rfl)
 have e6:=jL (l:=l.set i ⟨pc, [r0,r1,r2,r3],bf⟩) (bs:=bs.set i b0) (i:=i) (k:=5) (t:=⟨pc, [r0,r1,r2,r3],buf⟩) (b:=bv) (u:=bv) (by simpa using hi) (by simpa using hb) (by omega) (by rw [hg,hgb];rfl)
 simp only [List.set_set] at e2 e3 e4 e5 e6
 rw [e6,e5,e4,e3,e2,e1,Nat.add_zero]
theorem z0B {w:World} {sv:Value} {l:List zi} (h:zW w sv l) (hl:l≠ []) {g:Nat} {t:TypeId} {f:Nat × Nat} {a1 a2:Option Addr} {n1 c1 n2 c2:Nat} {bad:Bool} (hg:w.heap[g]? =some (.cells #[.slice a1 n1 c1, .slice a2 n2 c2, .bool bad] t f)):
  ∀b o n c,sv= .slice (some ⟨b,o,none⟩) n c->b≠g:=by
 intro b o n c hs e
 subst e hs
 obtain⟨a,cap,h1, -,h4⟩:=h
 cases h1
 obtain⟨b',off,cs,h5, -,h7,h8,h9⟩:=h4 0 (by cases l with|nil=>exact absurd rfl hl|cons=>simp)
 cases h5
 have h10:=h8 0 (by omega)
 obtain rfl:cs=zi.cells _:=h9
 rw [za hg] at h10
 have:∀j:Nat,(#[Value.slice a1 n1 c1, .slice a2 n2 c2, .bool bad] :Array Value)[j]? ≠some (.int .i64 (l.getD 0 default).var):=by
  intro j
  rcases j with _|_|_|j<;>simp
 exact this _ (h10.trans rfl)
theorem zta {w:World} {sv:Value} {l:List zi} (h:zW w sv l) (hl:l≠ []):∀b o n c,sv= .slice (some ⟨b,o,none⟩) n c->b<w.heap.size:=by
 intro b o n c hs
 subst hs
 obtain⟨a,cap,h1, -,h4⟩:=h
 cases h1
 obtain⟨b',off,cs,h5,h6, -⟩:=h4 0 (by cases l with|nil=>exact absurd rfl hl|cons=>simp)
 cases h5
 exact h6
theorem zrb {α:Type} [Inhabited α] {F:Nat->Prop} {R:World->α->List Value->Prop} {size:Nat} {w:World} {sv:Value} {l:List α} (h:ze R size w sv l) (ha:yK F w (λy=>ze R size y sv l)) (hz:0<size) (hR:∀y x cs,R y x cs->∃z,cs[0]? =some (.int .i64 z)) (hl:0<l.length):
  ∀b o n c,sv= .slice (some ⟨b,o,none⟩) n c->¬F b:=by
 intro b o n c e hF
 subst e
 obtain⟨a,cap,h1, -,h4⟩:=h
 cases h1
 obtain⟨b',off,cs,h5,h6,h7,h8,h9⟩:=h4 0 hl
 cases h5
 obtain⟨z,hz0⟩:=hR _ _ _ h9
 have hset:=World.cell?_setCell_same' w ⟨b,o+0*size+0,none⟩ (.bool true) (by rw [(h8 0 hz).trans hz0];rfl)
 obtain⟨a,cap,g1, -,g4⟩:=ha _ ((Since.refl F w).setCell (p:=⟨b,o+0*size+0,none⟩) (.inl hF) (.bool true))
 cases g1
 obtain⟨b',off,cs,g5,g6,g7,g8,g9⟩:=g4 0 hl
 cases g5
 obtain⟨z,hz0⟩:=hR _ _ _ g9
 have hc:=(g8 0 hz).trans hz0
 rw [hset] at hc
 cases hc
theorem zxH {w:World} {sv:Value} {l r:List zi} (h:zW w sv l) (h':zW w sv r):l=r:=by
 obtain⟨a,cap,e, -,h4⟩:=h
 obtain⟨a',cap',e', -,h4'⟩:=h'
 subst e
 simp only [Value.slice.injEq] at e'
 obtain⟨rfl,hn, -⟩:=e'
 refine zkE hn λj hj=> ?_
 obtain⟨b,off,cs,h5,h6,h7,h8,h9⟩:=h4 j hj
 obtain⟨b',off',cs',g5,g6,g7,g8,g9⟩:=h4' j (hn ▸ hj)
 subst h5
 cases g5
 obtain rfl:cs=zi.cells _:=h9
 obtain rfl:cs'=zi.cells _:=g9
 have e0:=(h8 0 (by omega)).symm.trans (g8 0 (by omega))
 have e1:=(h8 1 (by omega)).symm.trans (g8 1 (by omega))
 refine zru ?_ ?_
 ·simpa [zi.cells] using e0
 simpa [zi.cells] using e1
theorem ztp {F:Nat->Prop} {w:World} {s:zm} {sv mv:Value} {bs:List Value} (h0:yh w s sv mv) (h:yK F w (λy=>yh y s sv mv)) (hsrc:SrcOf w sv s.threads.length 6 (zU s.threads bs)):
  ∀j,j<s.threads.length->yK F w (λy=>zW y (bs.getD j (.slice none 0 0)) (s.threads.getD j default).buf):=by
 intro j hj y hy
 obtain⟨a,cap,rfl, -, -,hcell⟩:=hsrc
 have hx:(zU s.threads bs)[j*6+5]? =some (bs.getD j (.slice none 0 0)):=(qV (bs:=bs) (i:=5) hj (by omega)).trans rfl
 obtain⟨b,off,cs,e5,e6, -⟩:=ze.part h0.threads j hj
 subst e5
 have hfree:=zrb h0.threads (λy hy=>(h y hy).threads) (by decide) (λ_ x cs ⟨_,bv,e,_⟩=>⟨x.pc,by rw [e];rfl⟩) (by omega) b off _ _ rfl
 have hw:=hcell _ rfl _ _ hx
 obtain⟨b',off',cs',g5,g6,g7,g8,g9⟩:=ze.part (h y hy).threads j hj
 cases g5
 obtain⟨-,bv,e,hb⟩:=g9
 subst e
 have hy5:=(g8 5 (by omega)).trans (show(zo.cells _ bv)[5]? =some bv from rfl)
 have hc:=hy.cell (p:=⟨b,off+j*6+5,none⟩) e6 hfree
 have hw2:w.cell? ⟨b,off+j*6+5,none⟩=some (bs.getD j (.slice none 0 0)):=by simpa [Addr.add,Nat.add_assoc] using hw
 rw [hy5,hw2] at hc
 injection hc with hc
 rw [<-hc]
 exact hb
def Follows (w:World) (s0:zm) (sv0 mv0:Value) (X:World) (s:zm) (sv mv:Value):Prop:=∀F:Nat->Prop,(∀k,F k->k<w.heap.size)->yK F w (λy=>yh y s0 sv0 mv0)->yK F X (λy=>yh y s sv mv)
theorem Follows.now {w X:World} {s0 s:zm} {sv0 mv0 sv mv:Value} (h:Follows w s0 sv0 mv0 X s sv mv) (hs:yh w s0 sv0 mv0):yh X s sv mv:=
 (h (λ_=>False) (λ_ h=>h.elim) (λ_ hy=>hs.below (hy.below (Nat.le_refl _) (λ_ h=>h.elim)))).now
theorem Follows.later {w w1 w2 X:World} {G:Nat->Prop} {s0 s:zm} {sv0 mv0 sv mv:Value} (h:Follows w1 s0 sv0 mv0 w2 s sv mv) (hb:Below w.heap.size w w1) (hs:Since G w2 X) (hG:∀k,G k->(w.heap.size<=k/\k<w1.heap.size)\/w2.heap.size<=k):Follows w s0 sv0 mv0 X s sv mv:=by
 intro F hF ha
 have h1:yK (λk=>F k\/(w.heap.size<=k/\k<w1.heap.size)) w1 (λy=>yh y s0 sv0 mv0):=ha.step (Since.of_below hb) (λk hk=> .inr hk) (λk hk=>hk.elim .inl (λe=> .inr e.1))
 have h2:=h _ (λk hk=>hk.elim (λe=>Nat.lt_of_lt_of_le (hF k e) hb.size) (λe=>e.2)) h1
 exact h2.step hs (λk hk=>(hG k hk).elim (λe=> .inl (.inr e)) .inr) (λk hk=> .inl (.inl hk))
theorem zuC {w w5 w6:World} {B gr gs mb mc tb cc i:Nat} {pc r0 r1 r2 r3 dom:Int} {buf:List zi} {bv:Value} {m:zF} {mem:List Int} {bad zuD:Bool} {ts:List zo} {bs:List Value} {sa ma:Option Addr} {sn sc mn0 qN:Nat}
  (h:xq v0 w5 B gr pc r0 r1 r2 r3 buf bv m dom mem mb mc bad) (hgs:w5.heap[gs]? =some (.cells #[.slice sa sn sc, .slice ma mn0 qN, .bool zuD] 35 (0,0))) (hB:gs<B) (hw:w.heap.size<=gs) (h5:Below w.heap.size w w5)
  (hrow:w6.ownsRow w5.heap.size 47 6 (.slice (some ⟨tb,0,none⟩) ts.length cc) ts.length (zU ts bs)) (h6:Below w5.heap.size w5 w6) (hi:i<ts.length) (hbs:bs.length=ts.length)
  (hts:∀j,j<ts.length->(ts.getD j default).regs.length=4/\zW w (bs.getD j (.slice none 0 0)) (ts.getD j default).buf) {S0:zm} {sv0 mv0:Value} (hs0:yh w S0 sv0 mv0) (hst:S0.threads=ts) (hsrc:SrcOf w sv0 ts.length 6 (zU ts bs)) (hv0:v0=bs.getD i (.slice none 0 0)) (hwB:w.heap.size<=B) (Z:World)
  (hZ:Z=((((((((w6.setCell ⟨gs,0,none⟩ (.slice (some ⟨tb,0,none⟩) ts.length cc)).drew.setCell ⟨tb,i*6,none⟩ (.int .i64 pc)).setCell ⟨tb,i*6+1,none⟩ (.int .i64 r0)).setCell ⟨tb,i*6+2,none⟩ (.int .i64 r1)).setCell ⟨tb,i*6+3,none⟩ (.int .i64 r2)).setCell ⟨tb,i*6+4,none⟩ (.int .i64 r3)).setCell ⟨tb,i*6+5,none⟩ bv).setCell ⟨gs,1,none⟩ (.slice (some ⟨mb,0,none⟩) mem.length mc)).setCell ⟨gs,2,none⟩ (.bool bad)):
  (∀g X,w.heap.size<=g->g<B->Since (λk=>k=g) Z X->Follows w S0 sv0 mv0 X ⟨ts.set i ⟨pc, [r0,r1,r2,r3],buf⟩,mem,bad⟩ (.slice (some ⟨tb,0,none⟩) ts.length cc) (.slice (some ⟨mb,0,none⟩) mem.length mc))/\Z.heap[gs]? =some (.cells #[.slice (some ⟨tb,0,none⟩) ts.length cc, .slice (some ⟨mb,0,none⟩) mem.length mc, .bool bad] 35 (0,0))/\
   Since (λk=>k=gs\/k=tb) w6 Z/\Below w.heap.size w Z:=by
 have htb:=(hrow.lt tb rfl).1
 have z7G:=zq hgs
 have hne:tb≠gs:=by omega
 have z7H:=(h6.block gs z7G).trans hgs
 have s0:=Since.setCell (F:=λk=>k=gs) (p:=⟨gs,0,none⟩) (Since.refl _ w6) (.inl rfl) (.slice (some ⟨tb,0,none⟩) ts.length cc)
 have b0:=zu z7H 0 (.slice (some ⟨tb,0,none⟩) ts.length cc)
 have q0:=s0.drew.row hrow (λk hk e=>hne (by cases hk;exact e))
 have q1:=uf (j:=i*6) q0 (.int .i64 pc)
 have q2:=uf (j:=i*6+1) q1 (.int .i64 r0)
 have q3:=uf (j:=i*6+2) q2 (.int .i64 r1)
 have q4:=uf (j:=i*6+3) q3 (.int .i64 r2)
 have q5:=uf (j:=i*6+4) q4 (.int .i64 r3)
 have q6:=uf (j:=i*6+5) q5 bv
 have st:=((((((Since.refl (λk=>k=tb) (w6.setCell ⟨gs,0,none⟩ (.slice (some ⟨tb,0,none⟩) ts.length cc)).drew).setCell (p:=⟨tb,i*6,none⟩) (.inl rfl) (.int .i64 pc)).setCell (p:=⟨tb,i*6+1,none⟩) (.inl rfl) (.int .i64 r0)).setCell (p:=⟨tb,i*6+2,none⟩) (.inl rfl) (.int .i64 r1)).setCell (p:=⟨tb,i*6+3,none⟩) (.inl rfl) (.int .i64 r2)).setCell (p:=⟨tb,i*6+4,none⟩) (.inl rfl) (.int .i64 r3)).setCell (p:=⟨tb,i*6+5,none⟩) (.inl rfl) bv
 generalize hY:(((((((w6.setCell ⟨gs,0,none⟩ (.slice (some ⟨tb,0,none⟩) ts.length cc)).drew.setCell ⟨tb,i*6,none⟩ (.int .i64 pc)).setCell ⟨tb,i*6+1,none⟩ (.int .i64 r0)).setCell ⟨tb,i*6+2,none⟩ (.int .i64 r1)).setCell ⟨tb,i*6+3,none⟩ (.int .i64 r2)).setCell ⟨tb,i*6+4,none⟩ (.int .i64 r3)).setCell ⟨tb,i*6+5,none⟩ bv)=Y at hZ st q6
 have bY:Y.heap[gs]? =some (.cells #[.slice (some ⟨tb,0,none⟩) ts.length cc, .slice ma mn0 qN, .bool zuD] 35 (0,0)):=(st.block gs (zq b0) (λe=>hne e.symm)).trans b0
 have b1:=zu bY 1 (.slice (some ⟨mb,0,none⟩) mem.length mc)
 have b2:=zu b1 2 (.bool bad)
 have sY:=(Since.setCell (F:=λk=>k=gs) (p:=⟨gs,1,none⟩) (Since.refl _ Y) (.inl rfl) (.slice (some ⟨mb,0,none⟩) mem.length mc)).setCell (p:=⟨gs,2,none⟩) (.inl rfl) (.bool bad)
 have q7:=sY.row q6 (λk hk e=>hne (by cases hk;exact e))
 rw [<-hZ] at b2 sY q7
 have hS:Since (λk=>k=gs\/k=tb) w6 Z:=(((s0.drew.mono (G:=λk=>k=gs\/k=tb) λ_ _ h=> .inl h).trans (st.mono (G:=λk=>k=gs\/k=tb) λ_ _ h=> .inr h) λ_ h=> .inl h).trans (sY.mono (G:=λk=>k=gs\/k=tb) λ_ _ h=> .inl h) λ_ h=> .inl h)
 have hwZ:Below w.heap.size w Z:=(h5.trans (h6.mono h5.size)).trans (hS.below (Nat.le_trans h5.size h6.size) (λk hk=>by have:=h5.size;rcases hk with e|e<;>omega))
 have hB5:B<=w5.heap.size:=Nat.le_trans h.base (Nat.le_of_lt (zq h.block))
 have key:∀F:Nat->Prop,(∀k,F k->k<B)->(∀j,j<ts.length->yK F w (λy=>zW y (bs.getD j (.slice none 0 0)) (ts.getD j default).buf))->yK F Z (λy=>yh y ⟨ts.set i ⟨pc, [r0,r1,r2,r3],buf⟩,mem,bad⟩ (.slice (some ⟨tb,0,none⟩) ts.length cc) (.slice (some ⟨mb,0,none⟩) mem.length mc)):=by
  intro F hF hA y hy
  have hAZ:∀j,j<ts.length->zW y (bs.getD j (.slice none 0 0)) (ts.getD j default).buf:=λj hj=>((hA j hj).step (Since.of_below hwZ) (λk hk=> .inr hk) (λk hk=> .inl hk)) y hy
  refine⟨?_, ?_⟩
  ·have hr:=(hts i hi).1
   have e:=zon hi hbs hr pc r0 r1 r2 r3 buf bv
   have hl:(ts.set i ⟨pc, [r0,r1,r2,r3],buf⟩).length=ts.length:=by simp
   have key:qj y (.slice (some ⟨tb,0,none⟩) (ts.set i ⟨pc, [r0,r1,r2,r3],buf⟩).length cc) (ts.set i ⟨pc, [r0,r1,r2,r3],buf⟩):=by
    refine zjg (B:=w5.heap.size) (bs:=bs.set i bv) (by rw [hl,e];exact hy.row q7 (λk hk e=>by cases hk;have h9:tb<B:=hF _ e;omega)) λj hj=> ?_
    rw [hl] at hj
    by_cases hji:j=i
    rotate_left
    ·rw [qg hj,if_neg hji,qg (by omega),if_neg hji]
     exact⟨(hts j hj).1,hAZ j hj⟩
    subst hji
    rw [qg hj,if_pos rfl,qg (by omega),if_pos rfl]
    refine⟨rfl, ?_⟩
    rcases h.kept with e0|hn
    ·subst e0
     have e1:buf=(ts.getD j default).buf:=by
      refine zxH h.qJ ?_
      rw [hv0]
      exact zW.below (hts j hj).2 h5
     have:=hAZ j hj
     rw [<-hv0, <-e1] at this
     exact this
    refine bA (F:=F) ?_ hy λ_ b o n c hb e=>by have:=hF _ e;have:=hn b o n c hb;omega
    refine bA (zW.below h.qJ h6) hS λhn b o n c hb=> ?_
    have h1:=z0B h.qJ hn hgs b o n c hb
    have h2:=zta h.qJ hn b o n c hb
    rintro(e|e)
    ·exact h1 e
    omega
   rw [hl] at key
   exact key
  have hr:=xX h.row h6
  have hm:=h.kQ
  exact gQ (hy.row (hS.row hr (λk hk e=>by cases hk;change mb=gs\/mb=tb at e;rcases e with e|e<;>omega)) (λk hk e=>by cases hk;have:=hF _ e;change mb<B at this;omega))
 refine⟨?_,b2,hS,hwZ⟩
 intro g X hg1 hg2 hX F hF ha
 subst hst
 have ha2:yK (λk=>F k\/k=g) w (λy=>yh y S0 sv0 mv0):=ha.step (Since.refl F w) (λk hk=> .inl hk) (λk hk=>hk.elim .inl (λe=> .inr (by omega)))
 have hz:=key (λk=>F k\/k=g) (λk hk=>hk.elim (λe=>Nat.lt_of_lt_of_le (hF k e) hwB) (λe=>by omega)) (ztp hs0 ha2 hsrc)
 exact hz.step hX (λk hk=> .inl (.inr hk)) (λk hk=> .inl (.inl hk))
