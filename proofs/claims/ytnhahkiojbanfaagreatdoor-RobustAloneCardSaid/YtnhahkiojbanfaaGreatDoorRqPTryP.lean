/- Steps. -/
import Derived.Test.YtnhahkiojbanfaaGreatDoorRqExpQ
import Derived.Test.YtnhahkiojbanfaaGreatDoorRqPWayAny
set_option linter.all false
namespace Go.Proofs.YtnhahkiojbanfaaGreatDoor
open Go.RowKit
set_option maxRecDepth 100000
set_option maxHeartbeats 16000000
variable {v0:Value}
theorem zi2 {l:List zA} {bs:List Value} {i:Nat} (hi:i<l.length) (hb:bs.length=l.length) (hr:(l.getD i default).regs.length=4) (pc r0 r1 r2 r3:Int) (buf:List zl) (bv:Value):
  zR (l.set i ⟨pc, [r0,r1,r2,r3],buf⟩) (bs.set i bv)=((((((zR l bs).set (i*6) (.int .i64 pc)).set (i*6+1) (.int .i64 r0)).set (i*6+2) (.int .i64 r1)).set (i*6+3) (.int .i64 r2)).set (i*6+4) (.int .i64 r3)).set (i*6+5) bv:=by
 obtain⟨a,b,c,d,he⟩:=zaa hr
 obtain⟨b0,hb0⟩:∃v,v=bs.getD i (.slice none 0 0):=⟨_,rfl⟩
 obtain⟨p,bf,hT⟩:∃p bf,l.getD i default=⟨p, [a,b,c,d],bf⟩:=⟨_,_,by rw [<-he]⟩
 have hg:∀t:zA,(l.set i t).getD i default=t:=λt=>by rw [uW hi,if_pos rfl]
 have hgb:∀v:Value,(bs.set i v).getD i (.slice none 0 0)=v:=λv=>by rw [uW (by omega),if_pos rfl]
 have e1:=jL (l:=l) (bs:=bs) (i:=i) (k:=0) (t:=⟨pc, [a,b,c,d],bf⟩) (b:=b0) (u:= .int .i64 pc) hi hb (by omega) (by rw [hT, <-hb0];rfl)
 have e2:=jL (l:=l.set i ⟨pc, [a,b,c,d],bf⟩) (bs:=bs.set i b0) (i:=i) (k:=1) (t:=⟨pc, [r0,b,c,d],bf⟩) (b:=b0) (u:= .int .i64 r0) (by simpa using hi) (by simpa using hb) (by omega) (by rw [hg,hgb];rfl)
 have e3:=jL (l:=l.set i ⟨pc, [r0,b,c,d],bf⟩) (bs:=bs.set i b0) (i:=i) (k:=2) (t:=⟨pc, [r0,r1,c,d],bf⟩) (b:=b0) (u:= .int .i64 r1) (by simpa using hi) (by simpa using hb) (by omega) (by rw [hg,hgb];rfl)
 have e4:=jL (l:=l.set i ⟨pc, [r0,r1,c,d],bf⟩) (bs:=bs.set i b0) (i:=i) (k:=3) (t:=⟨pc, [r0,r1,r2,d],bf⟩) (b:=b0) (u:= .int .i64 r2) (by simpa using hi) (by simpa using hb) (by omega) (by rw [hg,hgb];rfl)
 have e5:=jL (l:=l.set i ⟨pc, [r0,r1,r2,d],bf⟩) (bs:=bs.set i b0) (i:=i) (k:=4) (t:=⟨pc, [r0,r1,r2,r3],bf⟩) (b:=b0) (u:= .int .i64 r3) (by simpa using hi) (by simpa using hb) (by omega) (by rw [hg,hgb];rfl)
 have e6:=jL (l:=l.set i ⟨pc, [r0,r1,r2,r3],bf⟩) (bs:=bs.set i b0) (i:=i) (k:=5) (t:=⟨pc, [r0,r1,r2,r3],buf⟩) (b:=bv) (u:=bv) (by simpa using hi) (by simpa using hb) (by omega) (by rw [hg,hgb];rfl)
 simp only [List.set_set] at e2 e3 e4 e5 e6
 rw [e6,e5,e4,e3,e2,e1,Nat.add_zero]
theorem zux {w:World} {sv:Value} {l:List zl} (h:yu w sv l) (hl:l≠ []) {g:Nat} {t:TypeId} {f:Nat × Nat} {a1 a2:Option Addr} {n1 c1 n2 c2:Nat} {bad:Bool} (hg:w.heap[g]? =some (.cells #[.slice a1 n1 c1, .slice a2 n2 c2, .bool bad] t f)):
  ∀b o n c,sv= .slice (some ⟨b,o,none⟩) n c->b≠g:=by
 intro b o n c hs e
 subst e hs
 obtain⟨a,cap,h1, -,h4⟩:=h
 cases h1
 obtain⟨b',off,cs,h5, -,h7,h8,h9⟩:=h4 0 (by cases l with|nil=>exact absurd rfl hl|cons=>simp)
 cases h5
 have h10:=h8 0 (by omega)
 obtain rfl:cs=zl.cells _:=h9
 rw [ze hg] at h10
 have:∀j:Nat,(#[Value.slice a1 n1 c1, .slice a2 n2 c2, .bool bad] :Array Value)[j]? ≠some (.int .i64 (l.getD 0 default).var):=by
  intro j
  rcases j with _|_|_|j<;>simp
 exact this _ (h10.trans rfl)
theorem zn4 {w:World} {sv:Value} {l:List zl} (h:yu w sv l) (hl:l≠ []):∀b o n c,sv= .slice (some ⟨b,o,none⟩) n c->b<w.heap.size:=by
 intro b o n c hs
 subst hs
 obtain⟨a,cap,h1, -,h4⟩:=h
 cases h1
 obtain⟨b',off,cs,h5,h6, -⟩:=h4 0 (by cases l with|nil=>exact absurd rfl hl|cons=>simp)
 cases h5
 exact h6
theorem zlD {α:Type} [Inhabited α] {F:Nat->Prop} {R:World->α->List Value->Prop} {size:Nat} {w:World} {sv:Value} {l:List α} (h:zh R size w sv l) (ha:zO F w (λy=>zh R size y sv l)) (hz:0<size) (hR:∀y x cs,R y x cs->∃z,cs[0]? =some (.int .i64 z)) (hl:0<l.length):
  ∀b o n c,sv= .slice (some ⟨b,o,none⟩) n c->¬F b:=by
 intro b o n c e hF
 subst e
 obtain⟨a,cap,h1, -,h4⟩:=h
 cases h1
 obtain⟨b',off,cs,h5,h6,h7,h8,h9⟩:=h4 0 hl
 cases h5
 obtain⟨z,hz0⟩:=hR _ _ _ h9
 have hset:=World.cell?_setCell_same' w ⟨b,o+0*size+0,none⟩ (.bool true) (by rw [(h8 0 hz).trans hz0];rfl)
 obtain⟨a,cap,g1, -,g4⟩:=ha _ ((Since.refl F w).setCell (p:=⟨b,o+0*size+0,none⟩) (.inl hF) (.bool true))
 cases g1
 obtain⟨b',off,cs,g5,g6,g7,g8,g9⟩:=g4 0 hl
 cases g5
 obtain⟨z,hz0⟩:=hR _ _ _ g9
 have hc:=(g8 0 hz).trans hz0
 rw [hset] at hc
 cases hc
theorem zsu {w:World} {sv:Value} {l r:List zl} (h:yu w sv l) (h':yu w sv r):l=r:=by
 obtain⟨a,cap,e, -,h4⟩:=h
 obtain⟨a',cap',e', -,h4'⟩:=h'
 subst e
 simp only [Value.slice.injEq] at e'
 obtain⟨rfl,hn, -⟩:=e'
 refine zhe hn λj hj=> ?_
 obtain⟨b,off,cs,h5,h6,h7,h8,h9⟩:=h4 j hj
 obtain⟨b',off',cs',g5,g6,g7,g8,g9⟩:=h4' j (hn ▸ hj)
 subst h5
 cases g5
 obtain rfl:cs=zl.cells _:=h9
 obtain rfl:cs'=zl.cells _:=g9
 have e0:=(h8 0 (by omega)).symm.trans (g8 0 (by omega))
 have e1:=(h8 1 (by omega)).symm.trans (g8 1 (by omega))
 refine zn5 ?_ ?_
 ·simpa [zl.cells] using e0
 simpa [zl.cells] using e1
theorem zn6 {F:Nat->Prop} {w:World} {s:zi} {sv mv:Value} {bs:List Value} (h0:yG w s sv mv) (h:zO F w (λy=>yG y s sv mv)) (hsrc:SrcOf w sv s.threads.length 6 (zR s.threads bs)):
  ∀j,j<s.threads.length->zO F w (λy=>yu y (bs.getD j (.slice none 0 0)) (s.threads.getD j default).buf):=by
 intro j hj y hy
 obtain⟨a,cap,rfl, -, -,hcell⟩:=hsrc
 have hx:(zR s.threads bs)[j*6+5]? =some (bs.getD j (.slice none 0 0)):=(vE (bs:=bs) (i:=5) hj (by omega)).trans rfl
 obtain⟨b,off,cs,e5,e6, -⟩:=zh.part h0.threads j hj
 subst e5
 have hfree:=zlD h0.threads (λy hy=>(h y hy).threads) (by decide) (λ_ x cs ⟨_,bv,e,_⟩=>⟨x.pc,by rw [e];rfl⟩) (by omega) b off _ _ rfl
 have hw:=hcell _ rfl _ _ hx
 obtain⟨b',off',cs',g5,g6,g7,g8,g9⟩:=zh.part (h y hy).threads j hj
 cases g5
 obtain⟨-,bv,e,hb⟩:=g9
 subst e
 have hy5:=(g8 5 (by omega)).trans (show(zA.cells _ bv)[5]? =some bv from rfl)
 have hc:=hy.cell (p:=⟨b,off+j*6+5,none⟩) e6 hfree
 have hw2:w.cell? ⟨b,off+j*6+5,none⟩=some (bs.getD j (.slice none 0 0)):=by simpa [Addr.add,Nat.add_assoc] using hw
 rw [hy5,hw2] at hc
 injection hc with hc
 rw [<-hc]
 exact hb
def Follows (w:World) (s0:zi) (sv0 mv0:Value) (X:World) (s:zi) (sv mv:Value):Prop:=∀F:Nat->Prop,(∀k,F k->k<w.heap.size)->zO F w (λy=>yG y s0 sv0 mv0)->zO F X (λy=>yG y s sv mv)
theorem zoD {w w5 w6:World} {B gr gs mb mc tb cc i:Nat} {pc r0 r1 r2 r3 dom:Int} {buf:List zl} {bv:Value} {m:zu} {mem:List Int} {bad zoE:Bool} {ts:List zA} {bs:List Value} {sa ma:Option Addr} {sn sc mn0 wT:Nat}
  (h:yx v0 w5 B gr pc r0 r1 r2 r3 buf bv m dom mem mb mc bad) (hgs:w5.heap[gs]? =some (.cells #[.slice sa sn sc, .slice ma mn0 wT, .bool zoE] 42 (0,0))) (hB:gs<B) (hw:w.heap.size<=gs) (h5:Below w.heap.size w w5)
  (hrow:w6.ownsRow w5.heap.size 80 6 (.slice (some ⟨tb,0,none⟩) ts.length cc) ts.length (zR ts bs)) (h6:Below w5.heap.size w5 w6) (hi:i<ts.length) (hbs:bs.length=ts.length)
  (hts:∀j,j<ts.length->(ts.getD j default).regs.length=4/\yu w (bs.getD j (.slice none 0 0)) (ts.getD j default).buf) {S0:zi} {sv0 mv0:Value} (hs0:yG w S0 sv0 mv0) (hst:S0.threads=ts) (hsrc:SrcOf w sv0 ts.length 6 (zR ts bs)) (hv0:v0=bs.getD i (.slice none 0 0)) (hwB:w.heap.size<=B) (Z:World)
  (hZ:Z=((((((((w6.setCell ⟨gs,0,none⟩ (.slice (some ⟨tb,0,none⟩) ts.length cc)).drew.setCell ⟨tb,i*6,none⟩ (.int .i64 pc)).setCell ⟨tb,i*6+1,none⟩ (.int .i64 r0)).setCell ⟨tb,i*6+2,none⟩ (.int .i64 r1)).setCell ⟨tb,i*6+3,none⟩ (.int .i64 r2)).setCell ⟨tb,i*6+4,none⟩ (.int .i64 r3)).setCell ⟨tb,i*6+5,none⟩ bv).setCell ⟨gs,1,none⟩ (.slice (some ⟨mb,0,none⟩) mem.length mc)).setCell ⟨gs,2,none⟩ (.bool bad)):
  (∀g X,w.heap.size<=g->g<B->Since (λk=>k=g) Z X->Follows w S0 sv0 mv0 X ⟨ts.set i ⟨pc, [r0,r1,r2,r3],buf⟩,mem,bad⟩ (.slice (some ⟨tb,0,none⟩) ts.length cc) (.slice (some ⟨mb,0,none⟩) mem.length mc))/\Z.heap[gs]? =some (.cells #[.slice (some ⟨tb,0,none⟩) ts.length cc, .slice (some ⟨mb,0,none⟩) mem.length mc, .bool bad] 42 (0,0))/\
   Since (λk=>k=gs\/k=tb) w6 Z/\Below w.heap.size w Z:=by
 have htb:=(hrow.lt tb rfl).1
 have zxS:=zy hgs
 have hne:tb≠gs:=by omega
 have zxT:=(h6.block gs zxS).trans hgs
 have s0:=Since.setCell (F:=λk=>k=gs) (p:=⟨gs,0,none⟩) (Since.refl _ w6) (.inl rfl) (.slice (some ⟨tb,0,none⟩) ts.length cc)
 have b0:=zD zxT 0 (.slice (some ⟨tb,0,none⟩) ts.length cc)
 have q0:=s0.drew.row hrow (λk hk e=>hne (by cases hk;exact e))
 have q1:=uP (j:=i*6) q0 (.int .i64 pc)
 have q2:=uP (j:=i*6+1) q1 (.int .i64 r0)
 have q3:=uP (j:=i*6+2) q2 (.int .i64 r1)
 have q4:=uP (j:=i*6+3) q3 (.int .i64 r2)
 have q5:=uP (j:=i*6+4) q4 (.int .i64 r3)
 have q6:=uP (j:=i*6+5) q5 bv
 have st:=((((((Since.refl (λk=>k=tb) (w6.setCell ⟨gs,0,none⟩ (.slice (some ⟨tb,0,none⟩) ts.length cc)).drew).setCell (p:=⟨tb,i*6,none⟩) (.inl rfl) (.int .i64 pc)).setCell (p:=⟨tb,i*6+1,none⟩) (.inl rfl) (.int .i64 r0)).setCell (p:=⟨tb,i*6+2,none⟩) (.inl rfl) (.int .i64 r1)).setCell (p:=⟨tb,i*6+3,none⟩) (.inl rfl) (.int .i64 r2)).setCell (p:=⟨tb,i*6+4,none⟩) (.inl rfl) (.int .i64 r3)).setCell (p:=⟨tb,i*6+5,none⟩) (.inl rfl) bv
 generalize hY:(((((((w6.setCell ⟨gs,0,none⟩ (.slice (some ⟨tb,0,none⟩) ts.length cc)).drew.setCell ⟨tb,i*6,none⟩ (.int .i64 pc)).setCell ⟨tb,i*6+1,none⟩ (.int .i64 r0)).setCell ⟨tb,i*6+2,none⟩ (.int .i64 r1)).setCell ⟨tb,i*6+3,none⟩ (.int .i64 r2)).setCell ⟨tb,i*6+4,none⟩ (.int .i64 r3)).setCell ⟨tb,i*6+5,none⟩ bv)=Y at hZ st q6
 have bY:Y.heap[gs]? =some (.cells #[.slice (some ⟨tb,0,none⟩) ts.length cc, .slice ma mn0 wT, .bool zoE] 42 (0,0)):=(st.block gs (zy b0) (λe=>hne e.symm)).trans b0
 have b1:=zD bY 1 (.slice (some ⟨mb,0,none⟩) mem.length mc)
 have b2:=zD b1 2 (.bool bad)
 have sY:=(Since.setCell (F:=λk=>k=gs) (p:=⟨gs,1,none⟩) (Since.refl _ Y) (.inl rfl) (.slice (some ⟨mb,0,none⟩) mem.length mc)).setCell (p:=⟨gs,2,none⟩) (.inl rfl) (.bool bad)
 have q7:=sY.row q6 (λk hk e=>hne (by cases hk;exact e))
 rw [<-hZ] at b2 sY q7
 have hS:Since (λk=>k=gs\/k=tb) w6 Z:=(((s0.drew.mono (G:=λk=>k=gs\/k=tb) λ_ _ h=> .inl h).trans (st.mono (G:=λk=>k=gs\/k=tb) λ_ _ h=> .inr h) λ_ h=> .inl h).trans (sY.mono (G:=λk=>k=gs\/k=tb) λ_ _ h=> .inl h) λ_ h=> .inl h)
 have hwZ:Below w.heap.size w Z:=(h5.trans (h6.mono h5.size)).trans (hS.below (Nat.le_trans h5.size h6.size) (λk hk=>by have:=h5.size;rcases hk with e|e<;>omega))
 have hB5:B<=w5.heap.size:=Nat.le_trans h.base (Nat.le_of_lt (zy h.block))
 have key:∀F:Nat->Prop,(∀k,F k->k<B)->(∀j,j<ts.length->zO F w (λy=>yu y (bs.getD j (.slice none 0 0)) (ts.getD j default).buf))->zO F Z (λy=>yG y ⟨ts.set i ⟨pc, [r0,r1,r2,r3],buf⟩,mem,bad⟩ (.slice (some ⟨tb,0,none⟩) ts.length cc) (.slice (some ⟨mb,0,none⟩) mem.length mc)):=by
  intro F hF hA y hy
  have hAZ:∀j,j<ts.length->yu y (bs.getD j (.slice none 0 0)) (ts.getD j default).buf:=λj hj=>((hA j hj).step (Since.of_below hwZ) (λk hk=> .inr hk) (λk hk=> .inl hk)) y hy
  refine⟨?_, ?_⟩
  ·have hr:=(hts i hi).1
   have e:=zi2 hi hbs hr pc r0 r1 r2 r3 buf bv
   have hl:(ts.set i ⟨pc, [r0,r1,r2,r3],buf⟩).length=ts.length:=by simp
   have key:qY y (.slice (some ⟨tb,0,none⟩) (ts.set i ⟨pc, [r0,r1,r2,r3],buf⟩).length cc) (ts.set i ⟨pc, [r0,r1,r2,r3],buf⟩):=by
    refine zga (B:=w5.heap.size) (bs:=bs.set i bv) (by rw [hl,e];exact hy.row q7 (λk hk e=>by cases hk;have h9:tb<B:=hF _ e;omega)) λj hj=> ?_
    rw [hl] at hj
    by_cases hji:j=i
    rotate_left
    ·rw [uW hj,if_neg hji,uW (by omega),if_neg hji]
     exact⟨(hts j hj).1,hAZ j hj⟩
    subst hji
    rw [uW hj,if_pos rfl,uW (by omega),if_pos rfl]
    refine⟨rfl, ?_⟩
    rcases h.kept with e0|hn
    ·subst e0
     have e1:buf=(ts.getD j default).buf:=by
      refine zsu h.qm ?_
      rw [hv0]
      exact yu.below (hts j hj).2 h5
     have:=hAZ j hj
     rw [<-hv0, <-e1] at this
     exact this
    refine gV (F:=F) ?_ hy λ_ b o n c hb e=>by have:=hF _ e;have:=hn b o n c hb;omega
    refine gV (yu.below h.qm h6) hS λhn b o n c hb=> ?_
    have h1:=zux h.qm hn hgs b o n c hb
    have h2:=zn4 h.qm hn b o n c hb
    rintro(e|e)
    ·exact h1 e
    omega
   rw [hl] at key
   exact key
  have hr:=qC h.row h6
  have hm:=h.jD
  exact zad (hy.row (hS.row hr (λk hk e=>by cases hk;change mb=gs\/mb=tb at e;rcases e with e|e<;>omega)) (λk hk e=>by cases hk;have:=hF _ e;change mb<B at this;omega))
 refine⟨?_,b2,hS,hwZ⟩
 intro g X hg1 hg2 hX F hF ha
 subst hst
 have ha2:zO (λk=>F k\/k=g) w (λy=>yG y S0 sv0 mv0):=ha.step (Since.refl F w) (λk hk=> .inl hk) (λk hk=>hk.elim .inl (λe=> .inr (by omega)))
 have hz:=key (λk=>F k\/k=g) (λk hk=>hk.elim (λe=>Nat.lt_of_lt_of_le (hF k e) hwB) (λe=>by omega)) (zn6 hs0 ha2 hsrc)
 exact hz.step hX (λk hk=> .inl (.inr hk)) (λk hk=> .inl (.inl hk))
end Go.Proofs.YtnhahkiojbanfaaGreatDoor
namespace Go.Proofs.YtnhahkiojbanfaaGreatDoor
open Go.RowKit
set_option maxRecDepth 100000
set_option maxHeartbeats 16000000
theorem zoC {w V:World} {B mb mc:Nat} {pc r0 r1 r2 r3 dom:Int} {buf:List zl} {bv:Value} {m:zu} {mem:List Int} {bad:Bool} (hbf:yu w bv buf) (hwV:Below w.heap.size w V) (hw:w.heap.size<=B) (hB:B<=V.heap.size) (hrow:V.ownsRow B 3 1 (.slice (some ⟨mb,0,none⟩) mem.length mc) mem.length (zq yU mem)):
  yx bv (V.alloc (.cells #[.int .i64 pc, .int .i64 r0, .int .i64 r1, .int .i64 r2, .int .i64 r3,bv, .int .i64 m.model, .int .i64 m.bound, .int .i64 dom, .slice (some ⟨mb,0,none⟩) mem.length mc, .bool bad] 156)) B V.heap.size pc r0 r1 r2 r3 buf bv m dom mem mb mc bad:=by
 have hA:=(Below.refl V.heap.size V).alloc (Nat.le_refl _) (.cells #[.int .i64 pc, .int .i64 r0, .int .i64 r1, .int .i64 r2, .int .i64 r3,bv, .int .i64 m.model, .int .i64 m.bound, .int .i64 dom, .slice (some ⟨mb,0,none⟩) mem.length mc, .bool bad] 156)
 have hm:=hrow.lt mb rfl
 exact⟨zS V _,qC hrow hA,yu.below hbf (zM hwV hA),hB,by omega,λhn b o n c e=>by have:=zn4 hbf hn b o n c e;exact⟨by omega,by omega⟩, .inl rfl⟩
theorem zoH {w:World} {B n cap:Nat} {a:Option Addr} {l:List Int} (h:w.ownsRow B 3 1 (.slice a n cap) n (zq yU l)) (hl:0<l.length):∃g,a=some ⟨g,0,none⟩:=by
 obtain⟨g,cap',he, -⟩:=vC h (zsv hl)
 cases he
 exact⟨g,rfl⟩
theorem zd5 {w:World} {B n cap:Nat} {a:Option Addr} {l:List zA} {bs:List Value} (h:w.ownsRow B 80 6 (.slice a n cap) n (zR l bs)) (hl:0<l.length):∃g,a=some ⟨g,0,none⟩:=by
 obtain⟨g,cap',he, -⟩:=vC h (j:=0) (u:= .int .i64 (l.getD 0 default).pc) (show(zR l bs)[0]? =some (.int .i64 (l.getD 0 default).pc) from(vE (bs:=bs) (j:=0) (i:=0) hl (by omega)).trans rfl)
 cases he
 exact⟨g,rfl⟩
theorem zab {w y:World} {g:Nat} (hb:y.heap[g]? =some (.cells #[.slice none 0 0, .slice none 0 0, .bool false] 42 (0,0))) (hy:Below w.heap.size w y) (hg:w.heap.size<=g):
  (y.cell? ⟨g,0,none⟩=some (.slice none 0 0)/\y.cell? ⟨g,1,none⟩=some (.slice none 0 0)/\y.cell? ⟨g,2,none⟩=some (.bool false))/\(y.frozen? ⟨g,0,none⟩=false/\y.frozen? ⟨g,1,none⟩=false/\y.frozen? ⟨g,2,none⟩=false)/\
   ∀a b c:Value,(((y.setCell ⟨g,0,none⟩ a).setCell ⟨g,1,none⟩ b).setCell ⟨g,2,none⟩ c).heap[g]? =some (.cells #[a,b,c] 42 (0,0))/\
    Since (λk=>k=g) y (((y.setCell ⟨g,0,none⟩ a).setCell ⟨g,1,none⟩ b).setCell ⟨g,2,none⟩ c)/\Below w.heap.size w (((y.setCell ⟨g,0,none⟩ a).setCell ⟨g,1,none⟩ b).setCell ⟨g,2,none⟩ c):=by
 refine⟨⟨ze hb 0,ze hb 1,ze hb 2⟩,⟨zK hb 0,zK hb 1,zK hb 2⟩,λa b c=> ?_⟩
 have hset:=zD (zD (zD hb 0 a) 1 b) 2 c
 simp only [List.setIfInBounds_toArray,List.set_cons_zero,List.set_cons_succ] at hset
 have hS:Since (λk=>k=g) y (((y.setCell ⟨g,0,none⟩ a).setCell ⟨g,1,none⟩ b).setCell ⟨g,2,none⟩ c):=Since.setCell (F:=λk=>k=g) (p:=⟨g,2,none⟩) (Since.setCell (F:=λk=>k=g) (p:=⟨g,1,none⟩) (Since.setCell (F:=λk=>k=g) (p:=⟨g,0,none⟩) (Since.refl _ y) (.inl rfl) _) (.inl rfl) _) (.inl rfl) _
 exact⟨hset,hS,hy.trans (hS.below hy.size (λk e=>by omega))⟩
theorem zpJ (w:World) (p:Addr) (u:Value):(w.setCell p u).drew=w.drew.setCell p u:=rfl
theorem zh2 (w:World) (p0 p1 p2 p3 p4 p5 p6 p7:Addr) (u0 u1 u2 u3 u4 u5 u6 u7:Value):
  ((((((((w.setCell p0 u0).setCell p1 u1).setCell p2 u2).setCell p3 u3).setCell p4 u4).setCell p5 u5).setCell p6 u6).setCell p7 u7).drew=(((((((w.drew.setCell p0 u0).setCell p1 u1).setCell p2 u2).setCell p3 u3).setCell p4 u4).setCell p5 u5).setCell p6 u6).setCell p7 u7:=by
 simp only [zpJ]
theorem zrT {c:zx} (h:codeOk c=true) {i k:Nat} (hi:i<c.threads.length) (hk:k<(c.threads.getD i []).length):zlE ((c.threads.getD i []).getD k default).op:=by
 unfold codeOk at h
 simp only [Bool.and_eq_true,decide_eq_true_eq] at h
 have h1:=h.2
 rw [List.all_eq_true] at h1
 have h2:=h1 (c.threads.getD i []) (yC hi)
 unfold rowOk at h2
 simp only [Bool.and_eq_true,decide_eq_true_eq] at h2
 obtain⟨h3,h4⟩:=h2
 rw [List.all_eq_true] at h4
 have h5:=h4 ((c.threads.getD i []).getD k default) (yC hk)
 generalize (c.threads.getD i []).getD k default=y at h5 ⊢
 unfold qF at h5
 unfold zlE
 split at h5
 ·omega
 split at h5
 ·omega
 split at h5
 ·cases h5
 unfold xY at h5
 simp only [Bool.and_eq_true,decide_eq_true_eq] at h5
 obtain⟨⟨⟨⟨h6,h7⟩, -⟩, -⟩, -⟩:=h5
 omega
def gK (c:zx) (m:zu) (s:zi) (i:Nat) (kind vr:Int) (d:Nat):Option zi:=
 if kind=1/\vr=0 then vF c m s i d else if kind=2/\vr∈yE (s.threads.getD i default).buf m.model then some (wV s i vr) else none
def zeG (w:World) (FW:World->zi->Value->Value->Prop) (r:Option zi) (e:Ending) (w':World):Prop:=Below w.heap.size w w'/\((r=none/\e= .returned (.tuple #[.agg #[.slice none 0 0, .slice none 0 0, .bool false], .bool false]))\/∃s xa xn xc ya yn yc,r=some s/\e= .returned (.tuple #[.agg #[.slice xa xn xc, .slice ya yn yc, .bool s.bad], .bool true])/\FW w' s (.slice xa xn xc) (.slice ya yn yc))
theorem zrU {w:World} {a:Option Addr} {n c:Nat} {ts:List zA} {bs:List Value} {i b o:Nat} {v:Value} (h:SrcOf w (.slice a n c) ts.length 6 (zR ts bs)) (ha:a=some ⟨b,o,none⟩) (hi:i<ts.length) (hv:w.cell? ⟨b,o+i*6+5,none⟩=some v):v=bs.getD i (.slice none 0 0):=by
 obtain⟨a',cap,e, -, -,hcell⟩:=h
 cases e
 have hx:(zR ts bs)[i*6+5]? =some (bs.getD i (.slice none 0 0)):=(vE (bs:=bs) (i:=5) hi (by omega)).trans rfl
 have hw:=hcell _ ha _ _ hx
 have hw2:w.cell? ⟨b,o+i*6+5,none⟩=some (bs.getD i (.slice none 0 0)):=by simpa [Addr.add,Nat.add_assoc] using hw
 rw [hv] at hw2
 injection hw2
def zkJ (s:zi) (i:Nat) (r:zA × List Int × Bool):zi:=⟨s.threads.set i r.1,r.2.1,r.2.2⟩
theorem zm2 {c:zx} {m:zu} {s:zi} {i:Nat} {kind vr:Int} {d:Nat} (hk:kind=1) (hv:vr=0):gK c m s i kind vr d=(if (s.threads.getD i default).pc<((c.threads.getD i []).length:Int) then stepT c m s (s.threads.getD i default) ((c.threads.getD i []).getD (s.threads.getD i default).pc.toNat default) d else none).map (zkJ s i):=by
 unfold gK vF
 rw [if_pos ⟨hk,hv⟩]
 split<;>rfl
theorem zkE {c:zx} {m:zu} {s:zi} {i:Nat} {kind vr:Int} {d:Nat} (hk:kind=2) (hh:vr∈yE (s.threads.getD i default).buf m.model->∃n,takeB (s.threads.getD i default).buf vr=(some ⟨vr,n⟩,(takeB (s.threads.getD i default).buf vr).2)):
  gK c m s i kind vr d=(if vr∈yE (s.threads.getD i default).buf m.model then some (⟨(s.threads.getD i default).pc,(s.threads.getD i default).regs,(takeB (s.threads.getD i default).buf vr).2⟩,s.mem.set vr.toNat ((takeB (s.threads.getD i default).buf vr).1.getD default).n,s.bad) else none).map (zkJ s i):=by
 unfold gK
 rw [if_neg (by omega)]
 by_cases h:vr∈yE (s.threads.getD i default).buf m.model
 ·rw [if_pos ⟨hk,h⟩,if_pos h]
  obtain⟨n,hn⟩:=hh h
  unfold wV zkJ
  rw [hn]
  rfl
 rw [if_neg (λe=>h e.2),if_neg h];rfl
theorem zm3 {c:zx} {m:zu} {s:zi} {i:Nat} {kind vr:Int} {d:Nat} (h1:¬(kind=1/\vr=0)) (h2:¬kind=2):gK c m s i kind vr d=none:=by
 unfold gK
 rw [if_neg h1,if_neg (λe=>h2 e.1)]
theorem zkt {c:zx} {m:zu} {s:zi} {x:zo} {d:Nat} (hf:zP c m s=true) (h:0<=x.thread/\x.thread<(s.threads.length:Int)):qD c m s x d=zvM (gK c m s x.thread.toNat x.kind x.var d):=by
 unfold qD gK
 rw [if_pos hf,if_pos h]
 by_cases h1:x.kind=1/\x.var=0
 ·rw [if_pos h1,if_pos h1];rfl
 rw [if_neg h1,if_neg h1]
 split<;>rfl
