/- Steps. -/
import Derived.Test.YtnhahkiojbanfaaGreatDoorRsDo
import Derived.Test.YtnhahkiojbanfaaGreatDoorRsExpQ
import Derived.Test.YtnhahkiojbanfaaGreatDoorRsPHeads
set_option linter.all false
namespace Go.Proofs.YtnhahkiojbanfaaGreatDoor
open Go.RowKit
set_option maxRecDepth 100000
set_option maxHeartbeats 16000000
variable {v0:Value}
theorem zm5 {l:List zx} {bs:List Value} {i:Nat} (hi:i<l.length) (hb:bs.length=l.length) (hr:(l.getD i default).regs.length=4) (pc r0 r1 r2 r3:Int) (buf:List zl) (bv:Value):
  zY (l.set i ⟨pc, [r0,r1,r2,r3],buf⟩) (bs.set i bv)=((((((zY l bs).set (i*6) (.int .i64 pc)).set (i*6+1) (.int .i64 r0)).set (i*6+2) (.int .i64 r1)).set (i*6+3) (.int .i64 r2)).set (i*6+4) (.int .i64 r3)).set (i*6+5) bv:=by
 obtain⟨a,b,c,d,he⟩:=wO hr
 obtain⟨b0,hb0⟩:∃v,v=bs.getD i (.slice none 0 0):=⟨_,rfl⟩
 obtain⟨p,bf,hT⟩:∃p bf,l.getD i default=⟨p, [a,b,c,d],bf⟩:=⟨_,_,by rw [<-he]⟩
 have hg:∀t:zx,(l.set i t).getD i default=t:=λt=>by rw [vk hi,if_pos rfl]
 have hgb:∀v:Value,(bs.set i v).getD i (.slice none 0 0)=v:=λv=>by rw [vk (by omega),if_pos rfl]
 have e1:=wE (l:=l) (bs:=bs) (i:=i) (k:=0) (t:=⟨pc, [a,b,c,d],bf⟩) (b:=b0) (u:= .int .i64 pc) hi hb (by omega) (by rw [hT, <-hb0];rfl)
 have e2:=wE (l:=l.set i ⟨pc, [a,b,c,d],bf⟩) (bs:=bs.set i b0) (i:=i) (k:=1) (t:=⟨pc, [r0,b,c,d],bf⟩) (b:=b0) (u:= .int .i64 r0) (by simpa using hi) (by simpa using hb) (by omega) (by rw [hg,hgb];rfl)
 have e3:=wE (l:=l.set i ⟨pc, [r0,b,c,d],bf⟩) (bs:=bs.set i b0) (i:=i) (k:=2) (t:=⟨pc, [r0,r1,c,d],bf⟩) (b:=b0) (u:= .int .i64 r1) (by simpa using hi) (by simpa using hb) (by omega) (by rw [hg,hgb];rfl)
 have e4:=wE (l:=l.set i ⟨pc, [r0,r1,c,d],bf⟩) (bs:=bs.set i b0) (i:=i) (k:=3) (t:=⟨pc, [r0,r1,r2,d],bf⟩) (b:=b0) (u:= .int .i64 r2) (by simpa using hi) (by simpa using hb) (by omega) (by rw [hg,hgb];rfl)
 have e5:=wE (l:=l.set i ⟨pc, [r0,r1,r2,d],bf⟩) (bs:=bs.set i b0) (i:=i) (k:=4) (t:=⟨pc, [r0,r1,r2,r3],bf⟩) (b:=b0) (u:= .int .i64 r3) (by simpa using hi) (by simpa using hb) (by omega) (by rw [hg,hgb];rfl)
 have e6:=wE (l:=l.set i ⟨pc, [r0,r1,r2,r3],bf⟩) (bs:=bs.set i b0) (i:=i) (k:=5) (t:=⟨pc, [r0,r1,r2,r3],buf⟩) (b:=bv) (u:=bv) (by simpa using hi) (by simpa using hb) (by omega) (by rw [hg,hgb];rfl)
 simp only [List.set_set] at e2 e3 e4 e5 e6
 rw [e6,e5,e4,e3,e2,e1,Nat.add_zero]
theorem z1b {w:World} {sv:Value} {l:List zl} (h:zZ w sv l) (hl:l≠ []) {g:Nat} {t:TypeId} {f:Nat × Nat} {a1 a2:Option Addr} {n1 c1 n2 c2:Nat} {bad:Bool} (hg:w.heap[g]? =some (.cells #[.slice a1 n1 c1, .slice a2 n2 c2, .bool bad] t f)):
  ∀b o n c,sv= .slice (some ⟨b,o,none⟩) n c->b≠g:=by
 intro b o n c hs e
 subst e hs
 obtain⟨a,cap,h1, -,h4⟩:=h
 cases h1
 obtain⟨b',off,cs,h5, -,h7,h8,h9⟩:=h4 0 (by cases l with|nil=>exact absurd rfl hl|cons=>simp)
 cases h5
 have h10:=h8 0 (by omega)
 obtain rfl:cs=zl.cells _:=h9
 rw [ze hg] at h10
 have:∀j:Nat,(#[Value.slice a1 n1 c1, .slice a2 n2 c2, .bool bad] :Array Value)[j]? ≠some (.int .i64 (l.getD 0 default).var):=by
  intro j
  rcases j with _|_|_|j<;>simp
 exact this _ (h10.trans rfl)
theorem zsF {w:World} {sv:Value} {l:List zl} (h:zZ w sv l) (hl:l≠ []):∀b o n c,sv= .slice (some ⟨b,o,none⟩) n c->b<w.heap.size:=by
 intro b o n c hs
 subst hs
 obtain⟨a,cap,h1, -,h4⟩:=h
 cases h1
 obtain⟨b',off,cs,h5,h6, -⟩:=h4 0 (by cases l with|nil=>exact absurd rfl hl|cons=>simp)
 cases h5
 exact h6
theorem zqd {α:Type} [Inhabited α] {F:Nat->Prop} {R:World->α->List Value->Prop} {size:Nat} {w:World} {sv:Value} {l:List α} (h:zh R size w sv l) (ha:zW F w (λy=>zh R size y sv l)) (hz:0<size) (hR:∀y x cs,R y x cs->∃z,cs[0]? =some (.int .i64 z)) (hl:0<l.length):
  ∀b o n c,sv= .slice (some ⟨b,o,none⟩) n c->¬F b:=by
 intro b o n c e hF
 subst e
 obtain⟨a,cap,h1, -,h4⟩:=h
 cases h1
 obtain⟨b',off,cs,h5,h6,h7,h8,h9⟩:=h4 0 hl
 cases h5
 obtain⟨z,hz0⟩:=hR _ _ _ h9
 have hset:=World.cell?_setCell_same' w ⟨b,o+0*size+0,none⟩ (.bool true) (by rw [(h8 0 hz).trans hz0];rfl)
 obtain⟨a,cap,g1, -,g4⟩:=ha _ ((Since.refl F w).setCell (p:=⟨b,o+0*size+0,none⟩) (.inl hF) (.bool true))
 cases g1
 obtain⟨b',off,cs,g5,g6,g7,g8,g9⟩:=g4 0 hl
 cases g5
 obtain⟨z,hz0⟩:=hR _ _ _ g9
 have hc:=(g8 0 hz).trans hz0
 rw [hset] at hc
 cases hc
theorem zyn {w:World} {sv:Value} {l r:List zl} (h:zZ w sv l) (h':zZ w sv r):l=r:=by
 obtain⟨a,cap,e, -,h4⟩:=h
 obtain⟨a',cap',e', -,h4'⟩:=h'
 subst e
 simp only [Value.slice.injEq] at e'
 obtain⟨rfl,hn, -⟩:=e'
 refine zk8 hn λj hj=> ?_
 obtain⟨b,off,cs,h5,h6,h7,h8,h9⟩:=h4 j hj
 obtain⟨b',off',cs',g5,g6,g7,g8,g9⟩:=h4' j (hn ▸ hj)
 subst h5
 cases g5
 obtain rfl:cs=zl.cells _:=h9
 obtain rfl:cs'=zl.cells _:=g9
 have e0:=(h8 0 (by omega)).symm.trans (g8 0 (by omega))
 have e1:=(h8 1 (by omega)).symm.trans (g8 1 (by omega))
 refine zsf ?_ ?_
 ·simpa [zl.cells] using e0
 simpa [zl.cells] using e1
theorem zsG {F:Nat->Prop} {w:World} {s:zi} {sv mv:Value} {bs:List Value} (h0:zX w s sv mv) (h:zW F w (λy=>zX y s sv mv)) (hsrc:SrcOf w sv s.threads.length 6 (zY s.threads bs)):
  ∀j,j<s.threads.length->zW F w (λy=>zZ y (bs.getD j (.slice none 0 0)) (s.threads.getD j default).buf):=by
 intro j hj y hy
 obtain⟨a,cap,rfl, -, -,hcell⟩:=hsrc
 have hx:(zY s.threads bs)[j*6+5]? =some (bs.getD j (.slice none 0 0)):=(vN (bs:=bs) (i:=5) hj (by omega)).trans rfl
 obtain⟨b,off,cs,e5,e6, -⟩:=zh.part h0.threads j hj
 subst e5
 have hfree:=zqd h0.threads (λy hy=>(h y hy).threads) (by decide) (λ_ x cs ⟨_,bv,e,_⟩=>⟨x.pc,by rw [e];rfl⟩) (by omega) b off _ _ rfl
 have hw:=hcell _ rfl _ _ hx
 obtain⟨b',off',cs',g5,g6,g7,g8,g9⟩:=zh.part (h y hy).threads j hj
 cases g5
 obtain⟨-,bv,e,hb⟩:=g9
 subst e
 have hy5:=(g8 5 (by omega)).trans (show(zx.cells _ bv)[5]? =some bv from rfl)
 have hc:=hy.cell (p:=⟨b,off+j*6+5,none⟩) e6 hfree
 have hw2:w.cell? ⟨b,off+j*6+5,none⟩=some (bs.getD j (.slice none 0 0)):=by simpa [Addr.add,Nat.add_assoc] using hw
 rw [hy5,hw2] at hc
 injection hc with hc
 rw [<-hc]
 exact hb
def Follows (w:World) (s0:zi) (sv0 mv0:Value) (X:World) (s:zi) (sv mv:Value):Prop:=∀F:Nat->Prop,(∀k,F k->k<w.heap.size)->zW F w (λy=>zX y s0 sv0 mv0)->zW F X (λy=>zX y s sv mv)
theorem zv1 {w w5 w6:World} {B gr gs mb mc tb cc i:Nat} {pc r0 r1 r2 r3 dom:Int} {buf:List zl} {bv:Value} {m:zy} {mem:List Int} {bad zv2:Bool} {ts:List zx} {bs:List Value} {sa ma:Option Addr} {sn sc mn0 jw:Nat}
  (h:xD v0 w5 B gr pc r0 r1 r2 r3 buf bv m dom mem mb mc bad) (hgs:w5.heap[gs]? =some (.cells #[.slice sa sn sc, .slice ma mn0 jw, .bool zv2] 42 (0,0))) (hB:gs<B) (hw:w.heap.size<=gs) (h5:Below w.heap.size w w5)
  (hrow:w6.ownsRow w5.heap.size 80 6 (.slice (some ⟨tb,0,none⟩) ts.length cc) ts.length (zY ts bs)) (h6:Below w5.heap.size w5 w6) (hi:i<ts.length) (hbs:bs.length=ts.length)
  (hts:∀j,j<ts.length->(ts.getD j default).regs.length=4/\zZ w (bs.getD j (.slice none 0 0)) (ts.getD j default).buf) {S0:zi} {sv0 mv0:Value} (hs0:zX w S0 sv0 mv0) (hst:S0.threads=ts) (hsrc:SrcOf w sv0 ts.length 6 (zY ts bs)) (hv0:v0=bs.getD i (.slice none 0 0)) (hwB:w.heap.size<=B) (Z:World)
  (hZ:Z=((((((((w6.setCell ⟨gs,0,none⟩ (.slice (some ⟨tb,0,none⟩) ts.length cc)).drew.setCell ⟨tb,i*6,none⟩ (.int .i64 pc)).setCell ⟨tb,i*6+1,none⟩ (.int .i64 r0)).setCell ⟨tb,i*6+2,none⟩ (.int .i64 r1)).setCell ⟨tb,i*6+3,none⟩ (.int .i64 r2)).setCell ⟨tb,i*6+4,none⟩ (.int .i64 r3)).setCell ⟨tb,i*6+5,none⟩ bv).setCell ⟨gs,1,none⟩ (.slice (some ⟨mb,0,none⟩) mem.length mc)).setCell ⟨gs,2,none⟩ (.bool bad)):
  (∀g X,w.heap.size<=g->g<B->Since (λk=>k=g) Z X->Follows w S0 sv0 mv0 X ⟨ts.set i ⟨pc, [r0,r1,r2,r3],buf⟩,mem,bad⟩ (.slice (some ⟨tb,0,none⟩) ts.length cc) (.slice (some ⟨mb,0,none⟩) mem.length mc))/\Z.heap[gs]? =some (.cells #[.slice (some ⟨tb,0,none⟩) ts.length cc, .slice (some ⟨mb,0,none⟩) mem.length mc, .bool bad] 42 (0,0))/\
   Since (λk=>k=gs\/k=tb) w6 Z/\Below w.heap.size w Z:=by
 have htb:=(hrow.lt tb rfl).1
 have z6H:=zw hgs
 have hne:tb≠gs:=by omega
 have z6I:=(h6.block gs z6H).trans hgs
 have s0:=Since.setCell (F:=λk=>k=gs) (p:=⟨gs,0,none⟩) (Since.refl _ w6) (.inl rfl) (.slice (some ⟨tb,0,none⟩) ts.length cc)
 have b0:=zu z6I 0 (.slice (some ⟨tb,0,none⟩) ts.length cc)
 have q0:=s0.drew.row hrow (λk hk e=>hne (by cases hk;exact e))
 have q1:=pV (j:=i*6) q0 (.int .i64 pc)
 have q2:=pV (j:=i*6+1) q1 (.int .i64 r0)
 have q3:=pV (j:=i*6+2) q2 (.int .i64 r1)
 have q4:=pV (j:=i*6+3) q3 (.int .i64 r2)
 have q5:=pV (j:=i*6+4) q4 (.int .i64 r3)
 have q6:=pV (j:=i*6+5) q5 bv
 have st:=((((((Since.refl (λk=>k=tb) (w6.setCell ⟨gs,0,none⟩ (.slice (some ⟨tb,0,none⟩) ts.length cc)).drew).setCell (p:=⟨tb,i*6,none⟩) (.inl rfl) (.int .i64 pc)).setCell (p:=⟨tb,i*6+1,none⟩) (.inl rfl) (.int .i64 r0)).setCell (p:=⟨tb,i*6+2,none⟩) (.inl rfl) (.int .i64 r1)).setCell (p:=⟨tb,i*6+3,none⟩) (.inl rfl) (.int .i64 r2)).setCell (p:=⟨tb,i*6+4,none⟩) (.inl rfl) (.int .i64 r3)).setCell (p:=⟨tb,i*6+5,none⟩) (.inl rfl) bv
 generalize hY:(((((((w6.setCell ⟨gs,0,none⟩ (.slice (some ⟨tb,0,none⟩) ts.length cc)).drew.setCell ⟨tb,i*6,none⟩ (.int .i64 pc)).setCell ⟨tb,i*6+1,none⟩ (.int .i64 r0)).setCell ⟨tb,i*6+2,none⟩ (.int .i64 r1)).setCell ⟨tb,i*6+3,none⟩ (.int .i64 r2)).setCell ⟨tb,i*6+4,none⟩ (.int .i64 r3)).setCell ⟨tb,i*6+5,none⟩ bv)=Y at hZ st q6
 have bY:Y.heap[gs]? =some (.cells #[.slice (some ⟨tb,0,none⟩) ts.length cc, .slice ma mn0 jw, .bool zv2] 42 (0,0)):=(st.block gs (zw b0) (λe=>hne e.symm)).trans b0
 have b1:=zu bY 1 (.slice (some ⟨mb,0,none⟩) mem.length mc)
 have b2:=zu b1 2 (.bool bad)
 have sY:=(Since.setCell (F:=λk=>k=gs) (p:=⟨gs,1,none⟩) (Since.refl _ Y) (.inl rfl) (.slice (some ⟨mb,0,none⟩) mem.length mc)).setCell (p:=⟨gs,2,none⟩) (.inl rfl) (.bool bad)
 have q7:=sY.row q6 (λk hk e=>hne (by cases hk;exact e))
 rw [<-hZ] at b2 sY q7
 have hS:Since (λk=>k=gs\/k=tb) w6 Z:=(((s0.drew.mono (G:=λk=>k=gs\/k=tb) λ_ _ h=> .inl h).trans (st.mono (G:=λk=>k=gs\/k=tb) λ_ _ h=> .inr h) λ_ h=> .inl h).trans (sY.mono (G:=λk=>k=gs\/k=tb) λ_ _ h=> .inl h) λ_ h=> .inl h)
 have hwZ:Below w.heap.size w Z:=(h5.trans (h6.mono h5.size)).trans (hS.below (Nat.le_trans h5.size h6.size) (λk hk=>by have:=h5.size;rcases hk with e|e<;>omega))
 have hB5:B<=w5.heap.size:=Nat.le_trans h.base (Nat.le_of_lt (zw h.block))
 have key:∀F:Nat->Prop,(∀k,F k->k<B)->(∀j,j<ts.length->zW F w (λy=>zZ y (bs.getD j (.slice none 0 0)) (ts.getD j default).buf))->zW F Z (λy=>zX y ⟨ts.set i ⟨pc, [r0,r1,r2,r3],buf⟩,mem,bad⟩ (.slice (some ⟨tb,0,none⟩) ts.length cc) (.slice (some ⟨mb,0,none⟩) mem.length mc)):=by
  intro F hF hA y hy
  have hAZ:∀j,j<ts.length->zZ y (bs.getD j (.slice none 0 0)) (ts.getD j default).buf:=λj hj=>((hA j hj).step (Since.of_below hwZ) (λk hk=> .inr hk) (λk hk=> .inl hk)) y hy
  refine⟨?_, ?_⟩
  ·have hr:=(hts i hi).1
   have e:=zm5 hi hbs hr pc r0 r1 r2 r3 buf bv
   have hl:(ts.set i ⟨pc, [r0,r1,r2,r3],buf⟩).length=ts.length:=by simp
   have key:qG y (.slice (some ⟨tb,0,none⟩) (ts.set i ⟨pc, [r0,r1,r2,r3],buf⟩).length cc) (ts.set i ⟨pc, [r0,r1,r2,r3],buf⟩):=by
    refine zjn (B:=w5.heap.size) (bs:=bs.set i bv) (by rw [hl,e];exact hy.row q7 (λk hk e=>by cases hk;have h9:tb<B:=hF _ e;omega)) λj hj=> ?_
    rw [hl] at hj
    by_cases hji:j=i
    rotate_left
    ·rw [vk hj,if_neg hji,vk (by omega),if_neg hji]
     exact⟨(hts j hj).1,hAZ j hj⟩
    subst hji
    rw [vk hj,if_pos rfl,vk (by omega),if_pos rfl]
    refine⟨rfl, ?_⟩
    rcases h.kept with e0|hn
    ·subst e0
     have e1:buf=(ts.getD j default).buf:=by
      refine zyn h.vI ?_
      rw [hv0]
      exact zZ.below (hts j hj).2 h5
     have:=hAZ j hj
     rw [<-hv0, <-e1] at this
     exact this
    refine zaE (F:=F) ?_ hy λ_ b o n c hb e=>by have:=hF _ e;have:=hn b o n c hb;omega
    refine zaE (zZ.below h.vI h6) hS λhn b o n c hb=> ?_
    have h1:=z1b h.vI hn hgs b o n c hb
    have h2:=zsF h.vI hn b o n c hb
    rintro(e|e)
    ·exact h1 e
    omega
   rw [hl] at key
   exact key
  have hr:=qp h.row h6
  have hm:=h.gW
  exact gN (hy.row (hS.row hr (λk hk e=>by cases hk;change mb=gs\/mb=tb at e;rcases e with e|e<;>omega)) (λk hk e=>by cases hk;have:=hF _ e;change mb<B at this;omega))
 refine⟨?_,b2,hS,hwZ⟩
 intro g X hg1 hg2 hX F hF ha
 subst hst
 have ha2:zW (λk=>F k\/k=g) w (λy=>zX y S0 sv0 mv0):=ha.step (Since.refl F w) (λk hk=> .inl hk) (λk hk=>hk.elim .inl (λe=> .inr (by omega)))
 have hz:=key (λk=>F k\/k=g) (λk hk=>hk.elim (λe=>Nat.lt_of_lt_of_le (hF k e) hwB) (λe=>by omega)) (zsG hs0 ha2 hsrc)
 exact hz.step hX (λk hk=> .inl (.inr hk)) (λk hk=> .inl (.inl hk))
end Go.Proofs.YtnhahkiojbanfaaGreatDoor
namespace Go.Proofs.YtnhahkiojbanfaaGreatDoor
open Go.RowKit
set_option maxRecDepth 100000
set_option maxHeartbeats 16000000
theorem zv3 {w V:World} {B mb mc:Nat} {pc r0 r1 r2 r3 dom:Int} {buf:List zl} {bv:Value} {m:zy} {mem:List Int} {bad:Bool} (hbf:zZ w bv buf) (hwV:Below w.heap.size w V) (hw:w.heap.size<=B) (hB:B<=V.heap.size) (hrow:V.ownsRow B 3 1 (.slice (some ⟨mb,0,none⟩) mem.length mc) mem.length (zo yM mem)):
  xD bv (V.alloc (.cells #[.int .i64 pc, .int .i64 r0, .int .i64 r1, .int .i64 r2, .int .i64 r3,bv, .int .i64 m.model, .int .i64 m.bound, .int .i64 dom, .slice (some ⟨mb,0,none⟩) mem.length mc, .bool bad] 156)) B V.heap.size pc r0 r1 r2 r3 buf bv m dom mem mb mc bad:=by
 have hA:=(Below.refl V.heap.size V).alloc (Nat.le_refl _) (.cells #[.int .i64 pc, .int .i64 r0, .int .i64 r1, .int .i64 r2, .int .i64 r3,bv, .int .i64 m.model, .int .i64 m.bound, .int .i64 dom, .slice (some ⟨mb,0,none⟩) mem.length mc, .bool bad] 156)
 have hm:=hrow.lt mb rfl
 exact⟨yj V _,qp hrow hA,zZ.below hbf (zH hwV hA),hB,by omega,λhn b o n c e=>by have:=zsF hbf hn b o n c e;exact⟨by omega,by omega⟩, .inl rfl⟩
theorem zv4 {w:World} {B n cap:Nat} {a:Option Addr} {l:List Int} (h:w.ownsRow B 3 1 (.slice a n cap) n (zo yM l)) (hl:0<l.length):∃g,a=some ⟨g,0,none⟩:=by
 obtain⟨g,cap',he, -⟩:=vQ h (zj4 hl)
 cases he
 exact⟨g,rfl⟩
theorem zgR {w:World} {B n cap:Nat} {a:Option Addr} {l:List zx} {bs:List Value} (h:w.ownsRow B 80 6 (.slice a n cap) n (zY l bs)) (hl:0<l.length):∃g,a=some ⟨g,0,none⟩:=by
 obtain⟨g,cap',he, -⟩:=vQ h (j:=0) (u:= .int .i64 (l.getD 0 default).pc) (show(zY l bs)[0]? =some (.int .i64 (l.getD 0 default).pc) from(vN (bs:=bs) (j:=0) (i:=0) hl (by omega)).trans rfl)
 cases he
 exact⟨g,rfl⟩
theorem zcs {w y:World} {g:Nat} (hb:y.heap[g]? =some (.cells #[.slice none 0 0, .slice none 0 0, .bool false] 42 (0,0))) (hy:Below w.heap.size w y) (hg:w.heap.size<=g):
  (y.cell? ⟨g,0,none⟩=some (.slice none 0 0)/\y.cell? ⟨g,1,none⟩=some (.slice none 0 0)/\y.cell? ⟨g,2,none⟩=some (.bool false))/\(y.frozen? ⟨g,0,none⟩=false/\y.frozen? ⟨g,1,none⟩=false/\y.frozen? ⟨g,2,none⟩=false)/\
   ∀a b c:Value,(((y.setCell ⟨g,0,none⟩ a).setCell ⟨g,1,none⟩ b).setCell ⟨g,2,none⟩ c).heap[g]? =some (.cells #[a,b,c] 42 (0,0))/\
    Since (λk=>k=g) y (((y.setCell ⟨g,0,none⟩ a).setCell ⟨g,1,none⟩ b).setCell ⟨g,2,none⟩ c)/\Below w.heap.size w (((y.setCell ⟨g,0,none⟩ a).setCell ⟨g,1,none⟩ b).setCell ⟨g,2,none⟩ c):=by
 refine⟨⟨ze hb 0,ze hb 1,ze hb 2⟩,⟨zA hb 0,zA hb 1,zA hb 2⟩,λa b c=> ?_⟩
 have hset:=zu (zu (zu hb 0 a) 1 b) 2 c
 simp only [List.setIfInBounds_toArray,List.set_cons_zero,List.set_cons_succ] at hset
 have hS:Since (λk=>k=g) y (((y.setCell ⟨g,0,none⟩ a).setCell ⟨g,1,none⟩ b).setCell ⟨g,2,none⟩ c):=Since.setCell (F:=λk=>k=g) (p:=⟨g,2,none⟩) (Since.setCell (F:=λk=>k=g) (p:=⟨g,1,none⟩) (Since.setCell (F:=λk=>k=g) (p:=⟨g,0,none⟩) (Since.refl _ y) (.inl rfl) _) (.inl rfl) _) (.inl rfl) _
 exact⟨hset,hS,hy.trans (hS.below hy.size (λk e=>by omega))⟩
theorem zfP {α:Type} [Inhabited α] {R:World->α->List Value->Prop} {size:Nat} {w w':World} {sv:Value} {l:List α} (h:zh R size w sv l) (hz:0<size) (hR:∀x cs,R w x cs->(∃z,cs[0]? =some (.int .i64 z))/\R w' x cs) {g:Nat} {t:TypeId} {f:Nat × Nat} {a1 a2:Option Addr} {n1 c1 n2 c2:Nat} {bad:Bool}
  (hg:w.heap[g]? =some (.cells #[.slice a1 n1 c1, .slice a2 n2 c2, .bool bad] t f)) (hs:Since (λk=>k=g) w w'):zh R size w' sv l:=by
 obtain⟨a,cap,h1,h2,h4⟩:=h
 refine⟨a,cap,h1,h2,λj hj=> ?_⟩
 obtain⟨b,off,cs,h5,h6,h7,h8,h9⟩:=h4 j hj
 obtain⟨⟨z,hz0⟩,h10⟩:=hR _ _ h9
 have hne:b≠g:=by
  intro e
  subst e
  have h11:=(h8 0 hz).trans hz0
  rw [ze hg] at h11
  have:∀j:Nat,(#[Value.slice a1 n1 c1, .slice a2 n2 c2, .bool bad] :Array Value)[j]? ≠some (.int .i64 z):=by
   intro j
   rcases j with _|_|_|j<;>simp
  exact this _ h11
 exact⟨b,off,cs,h5,Nat.lt_of_lt_of_le h6 hs.size,h7,λi hi=>(hs.cell (p:=⟨b,off+j*size+i,none⟩) h6 hne).trans (h8 i hi),h10⟩
theorem zdp {w w':World} {s:zi} {tv mv:Value} (h:zX w s tv mv) {g:Nat} {t:TypeId} {f:Nat × Nat} {a1 a2:Option Addr} {n1 c1 n2 c2:Nat} {bad:Bool} (hg:w.heap[g]? =some (.cells #[.slice a1 n1 c1, .slice a2 n2 c2, .bool bad] t f)) (hs:Since (λk=>k=g) w w'):zX w' s tv mv:=
 ⟨zfP h.threads (by decide) (λx cs ⟨h0,bv,h1,h2⟩=>⟨⟨x.pc,by rw [h1];rfl⟩,h0,bv,h1,zfP h2 (by decide) (λy ds e=>⟨⟨y.var,by rw [show ds=zl.cells y from e];rfl⟩,e⟩) hg hs⟩) hg hs,
  zfP h.mem (by decide) (λy ds e=>⟨⟨y,by rw [show ds=yM y from e];rfl⟩,e⟩) hg hs⟩
theorem zv5 (w:World) (p:Addr) (u:Value):(w.setCell p u).drew=w.drew.setCell p u:=rfl
theorem zm6 (w:World) (p0 p1 p2 p3 p4 p5 p6 p7:Addr) (u0 u1 u2 u3 u4 u5 u6 u7:Value):
  ((((((((w.setCell p0 u0).setCell p1 u1).setCell p2 u2).setCell p3 u3).setCell p4 u4).setCell p5 u5).setCell p6 u6).setCell p7 u7).drew=(((((((w.drew.setCell p0 u0).setCell p1 u1).setCell p2 u2).setCell p3 u3).setCell p4 u4).setCell p5 u5).setCell p6 u6).setCell p7 u7:=by
 simp only [zv5]
theorem zyo {c:zD} (h:codeOk c=true) {i k:Nat} (hi:i<c.threads.length) (hk:k<(c.threads.getD i []).length):zqe ((c.threads.getD i []).getD k default).op:=by
 unfold codeOk at h
 simp only [Bool.and_eq_true,decide_eq_true_eq] at h
 have h1:=h.2
 rw [List.all_eq_true] at h1
 have h2:=h1 (c.threads.getD i []) (xS hi)
 unfold rowOk at h2
 simp only [Bool.and_eq_true,decide_eq_true_eq] at h2
 obtain⟨h3,h4⟩:=h2
 rw [List.all_eq_true] at h4
 have h5:=h4 ((c.threads.getD i []).getD k default) (xS hk)
 generalize (c.threads.getD i []).getD k default=y at h5 ⊢
 unfold qC at h5
 unfold zqe
 split at h5
 ·omega
 split at h5
 ·omega
 split at h5
 ·cases h5
 unfold qM at h5
 simp only [Bool.and_eq_true,decide_eq_true_eq] at h5
 obtain⟨⟨⟨⟨h6,h7⟩, -⟩, -⟩, -⟩:=h5
 omega
def za7 (c:zD) (m:zy) (s:zi) (i:Nat) (kind vr:Int) (d:Nat):Option zi:=
 if kind=1/\vr=0 then jl c m s i d else if kind=2/\vr∈yK (s.threads.getD i default).buf m.model then some (bN s i vr) else none
def ziU (w:World) (FW:World->zi->Value->Value->Prop) (r:Option zi) (e:Ending) (w':World):Prop:=Below w.heap.size w w'/\((r=none/\e= .returned (.tuple #[.agg #[.slice none 0 0, .slice none 0 0, .bool false], .bool false]))\/∃s xa xn xc ya yn yc,r=some s/\e= .returned (.tuple #[.agg #[.slice xa xn xc, .slice ya yn yc, .bool s.bad], .bool true])/\FW w' s (.slice xa xn xc) (.slice ya yn yc))
theorem zyp {w:World} {a:Option Addr} {n c:Nat} {ts:List zx} {bs:List Value} {i b o:Nat} {v:Value} (h:SrcOf w (.slice a n c) ts.length 6 (zY ts bs)) (ha:a=some ⟨b,o,none⟩) (hi:i<ts.length) (hv:w.cell? ⟨b,o+i*6+5,none⟩=some v):v=bs.getD i (.slice none 0 0):=by
 obtain⟨a',cap,e, -, -,hcell⟩:=h
 cases e
 have hx:(zY ts bs)[i*6+5]? =some (bs.getD i (.slice none 0 0)):=(vN (bs:=bs) (i:=5) hi (by omega)).trans rfl
 have hw:=hcell _ ha _ _ hx
 have hw2:w.cell? ⟨b,o+i*6+5,none⟩=some (bs.getD i (.slice none 0 0)):=by simpa [Addr.add,Nat.add_assoc] using hw
 rw [hv] at hw2
 injection hw2
def zqf (s:zi) (i:Nat) (r:zx × List Int × Bool):zi:=⟨s.threads.set i r.1,r.2.1,r.2.2⟩
theorem zsJ {c:zD} {m:zy} {s:zi} {i:Nat} {kind vr:Int} {d:Nat} (hk:kind=1) (hv:vr=0):za7 c m s i kind vr d=(if (s.threads.getD i default).pc<((c.threads.getD i []).length:Int) then stepT c m s (s.threads.getD i default) ((c.threads.getD i []).getD (s.threads.getD i default).pc.toNat default) d else none).map (zqf s i):=by
 unfold za7 jl
 rw [if_pos ⟨hk,hv⟩]
 split<;>rfl
theorem zqg {c:zD} {m:zy} {s:zi} {i:Nat} {kind vr:Int} {d:Nat} (hk:kind=2) (hh:vr∈yK (s.threads.getD i default).buf m.model->∃n,takeB (s.threads.getD i default).buf vr=(some ⟨vr,n⟩,(takeB (s.threads.getD i default).buf vr).2)):
  za7 c m s i kind vr d=(if vr∈yK (s.threads.getD i default).buf m.model then some (⟨(s.threads.getD i default).pc,(s.threads.getD i default).regs,(takeB (s.threads.getD i default).buf vr).2⟩,s.mem.set vr.toNat ((takeB (s.threads.getD i default).buf vr).1.getD default).n,s.bad) else none).map (zqf s i):=by
 unfold za7
 rw [if_neg (by omega)]
 by_cases h:vr∈yK (s.threads.getD i default).buf m.model
 ·rw [if_pos ⟨hk,h⟩,if_pos h]
  obtain⟨n,hn⟩:=hh h
  unfold bN zqf
  rw [hn]
  rfl
 rw [if_neg (λe=>h e.2),if_neg h];rfl
theorem zsK {c:zD} {m:zy} {s:zi} {i:Nat} {kind vr:Int} {d:Nat} (h1:¬(kind=1/\vr=0)) (h2:¬kind=2):za7 c m s i kind vr d=none:=by
 unfold za7
 rw [if_neg h1,if_neg (λe=>h2 e.1)]
theorem zoH {c:zD} {m:zy} {s:zi} {x:zq} {d:Nat} (hf:yB c m s=true) (h:0<=x.thread/\x.thread<(s.threads.length:Int)):qB c m s x d=zpx (za7 c m s x.thread.toNat x.kind x.var d):=by
 unfold qB za7
 rw [if_pos hf,if_pos h]
 by_cases h1:x.kind=1/\x.var=0
 ·rw [if_pos h1,if_pos h1];rfl
 rw [if_neg h1,if_neg h1]
 split<;>rfl
end Go.Proofs.YtnhahkiojbanfaaGreatDoor
namespace Go.Proofs.YtnhahkiojbanfaaGreatDoor
open Go.RowKit
set_option maxRecDepth 100000
set_option maxHeartbeats 16000000
structure bV (V X:World) (B:Nat) (u1 u2:Value) (e1:TypeId) (s1:Nat) (v1:Value) (n1:Nat) (xs1:List Value) (e2:TypeId) (s2:Nat) (v2:Value) (n2:Nat) (xs2:List Value) (bs:List (Nat × TypeId × List Value)):Prop where
 since:Since (λx=>u1.ownBlock=some x\/u2.ownBlock=some x) V X
 r1:X.ownsRow B e1 s1 v1 n1 xs1
 r2:X.ownsRow B e2 s2 v2 n2 xs2
 l1:∀x,v1.ownBlock=some x->u1.ownBlock=some x\/V.heap.size<=x
 l2:∀x,v2.ownBlock=some x->u2.ownBlock=some x\/V.heap.size<=x
 news:∀p∈bs,X.heap[p.1]? =some (.cells p.2.2.toArray p.2.1 (0,0))/\v1.ownBlock≠some p.1/\v2.ownBlock≠some p.1
 base:B<=X.heap.size
section
variable {V X:World} {B:Nat} {u1 u2 v1 v2:Value} {e1 e2:TypeId} {s1 s2 n1 n2:Nat} {xs1 xs2:List Value} {bs:List (Nat × TypeId × List Value)}
theorem bV.start (h1:V.ownsRow B e1 s1 v1 n1 xs1) (h2:V.ownsRow B e2 s2 v2 n2 xs2) (hB:B<=V.heap.size):bV V V.drew B v1 v2 e1 s1 v1 n1 xs1 e2 s2 v2 n2 xs2 [] :=
 ⟨(Since.refl _ _).drew,(Since.refl (λ_=>False) V).drew.row h1 (λ_ _ h=>h),(Since.refl (λ_=>False) V).drew.row h2 (λ_ _ h=>h),λ_ h=> .inl h,λ_ h=> .inl h,by simp,hB⟩
theorem bV.alloc (h:bV V X B u1 u2 e1 s1 v1 n1 xs1 e2 s2 v2 n2 xs2 bs) (t:TypeId) (cs:List Value):bV V (X.alloc (.cells cs.toArray t)) B u1 u2 e1 s1 v1 n1 xs1 e2 s2 v2 n2 xs2 ((X.heap.size,t,cs)::bs):=by
 refine⟨h.since.alloc _,h.r1.alloc _,h.r2.alloc _,h.l1,h.l2, ?_,by have:=h.base;simp;omega⟩
 intro p hp
 rcases List.mem_cons.1 hp with rfl|hp
 ·exact⟨yj X _,λe=>by have:=(h.r1.lt _ e).2;simp at this,λe=>by have:=(h.r2.lt _ e).2;simp at this⟩
 obtain⟨a,b,c⟩:=h.news p hp
 exact⟨(Below.heap_alloc _ _ _ (zw a)).trans a,b,c⟩
theorem bV.app1 (h:bV V X B u1 u2 e1 s1 v1 n1 xs1 e2 s2 v2 n2 xs2 bs) (hne:e1≠e2) {X':World} {v1':Value} {m:Nat} {xs':List Value} (ho:X'.ownsRow B e1 s1 v1' m xs') (hs:Since (λk=>v1.ownBlock=some k) X X') (hl:∀k,v1'.ownBlock=some k->v1.ownBlock=some k\/k=X.heap.size):
  bV V X' B u1 u2 e1 s1 v1' m xs' e2 s2 v2 n2 xs2 bs:=by
 refine⟨h.since.trans hs (λi hi=>(h.l1 i hi).imp .inl id),ho,hs.row h.r2 (λk hk e=>yE h.r1 h.r2 hne k e hk),λx hx=> ?_,h.l2,λp hp=> ?_,Nat.le_trans h.base hs.size⟩
 ·rcases hl x hx with e|rfl
  ·exact h.l1 x e
  exact .inr h.since.size
 obtain⟨a,b,c⟩:=h.news p hp
 refine⟨(hs.block _ (zw a) b).trans a,λe=> ?_,c⟩
 rcases hl _ e with e'|e'
 ·exact b e'
 have:=zw a;omega
theorem bV.zjv (h:bV V X B u1 u2 e1 s1 v1 n1 xs1 e2 s2 v2 n2 xs2 bs) (hne:e1≠e2) {X':World} {v2':Value} {m:Nat} {xs':List Value} (ho:X'.ownsRow B e2 s2 v2' m xs') (hs:Since (λk=>v2.ownBlock=some k) X X') (hl:∀k,v2'.ownBlock=some k->v2.ownBlock=some k\/k=X.heap.size):
  bV V X' B u1 u2 e1 s1 v1 n1 xs1 e2 s2 v2' m xs' bs:=by
 refine⟨h.since.trans hs (λi hi=>(h.l2 i hi).imp .inr id),hs.row h.r1 (λk hk e=>yE h.r1 h.r2 hne k hk e),ho,h.l1,λx hx=> ?_,λp hp=> ?_,Nat.le_trans h.base hs.size⟩
 ·rcases hl x hx with e|rfl
  ·exact h.l2 x e
  exact .inr h.since.size
 obtain⟨a,b,c⟩:=h.news p hp
 refine⟨(hs.block _ (zw a) c).trans a,b,λe=> ?_⟩
 rcases hl _ e with e'|e'
 ·exact c e'
 have:=zw a;omega
theorem bV.cell (h:bV V X B u1 u2 e1 s1 v1 n1 xs1 e2 s2 v2 n2 xs2 bs) {b:Nat} {t:TypeId} {cs:List Value} (hb:(b,t,cs)∈bs):∀j x,cs[j]? =some x->X.cell? ((⟨b,0,none⟩:Addr).add j)=some x:=by
 intro j x hj
 have:=ze (h.news _ hb).1 j
 rw [show(⟨b,0,none⟩:Addr).add j=⟨b,j,none⟩ by simp [Addr.add];omega,this,List.getElem?_toArray]
 exact hj
end
def NF (F0:Nat->Prop) (v1 v2:Value) (k:Nat):Prop:=F0 k\/v1.ownBlock=some k\/v2.ownBlock=some k
structure jy (F0:Nat->Prop) (W X:World) (v1 v2:Value) (ml:List zq) (nl:List zi) (css:List (List Value)):Prop where
 row:X.ownsRow W.heap.size 70 3 v1 ml.length (zo zq.cells ml)
 st:yV (NF F0 v1 v2) X qo 3 W.heap.size 42 v2 nl css
 below:Below W.heap.size W X
section
variable {F0:Nat->Prop} {W V X:World} {v1 v2:Value} {ml:List zq} {nl:List zi} {css:List (List Value)}
theorem jy.begin (hb:Below W.heap.size W X):jy F0 W X (.slice none 0 0) (.slice none 0 0) [] [] [] :=
 ⟨World.ownsRow_nil _ _ _ _,yV.nil _ _ _ _ _ _,hb⟩
theorem jy.later (h:jy F0 W V v1 v2 ml nl css) (hb:Below V.heap.size V X):jy F0 W X v1 v2 ml nl css:=
 ⟨qp h.row hb,h.st.step (G:=λ_=>False) (xU _ hb) (λ_ _ h=>h) (λ_ h=>h.elim) (λ_ hk=> .inl hk),zH h.below hb⟩
theorem jy.push (h:jy F0 W V v1 v2 ml nl css) {v1' v2':Value} {x:zq} {t:zi} {cs:List Value} {bs:List (Nat × TypeId × List Value)}
  (hT:bV V X W.heap.size v1 v2 70 3 v1' (ml.length+1) (zo zq.cells ml++zq.cells x) 42 3 v2' (nl.length+1) (css.flatten++cs) bs) (hx:zW (NF F0 v1 v2) V (λy=>qo y t cs)) (hc:cs.length=3):
  jy F0 W X v1' v2' (ml++ [x]) (nl++ [t]) (css++ [cs]):=by
 refine⟨?_, ?_, ?_⟩
 ·rw [List.length_append,zb5];exact hT.r1
 ·refine h.st.push (G:=λk=>v1.ownBlock=some k\/v2.ownBlock=some k) hT.since (λk hk=> .inl (.inr hk)) (λk hk=> ?_) hx hc hT.r2
  rcases hk with e|e|e
  ·exact .inl (.inl e)
  ·exact(hT.l1 k e).elim (λe=> .inl (.inr (.inl e))) .inr
  exact(hT.l2 k e).elim (λe=> .inl (.inr (.inr e))) .inr
 refine h.below.trans (hT.since.below h.below.size (λk hk=> ?_))
 rcases hk with e|e
 ·exact(h.row.lt k e).1
 exact(h.st.row.lt k e).1
theorem jy.less (h:jy F0 W V v1 v2 ml nl css) {F1:Nat->Prop} (hF:∀k,F1 k->F0 k\/V.heap.size<=k):jy F1 W V v1 v2 ml nl css:=by
 refine⟨h.row,h.st.step (G:=λ_=>False) (Since.refl _ _) (λ_ _ h=>h) (λ_ h=>h.elim) (λk hk=> ?_),h.below⟩
 rcases hk with e|e
 ·exact(hF k e).imp .inl id
 exact .inl (.inr e)
theorem jy.side (h:jy F0 W V v1 v2 ml nl css) {B n:Nat} {av:Value} {xs:List Value} {o:Obj} (ha:V.ownsRow B 70 3 av n xs) (hB:∀k,B<=k->F0 k) (hWB:W.heap.size<=B) (hne:∀k,v1.ownBlock=some k->av.ownBlock≠some k) (hs:Since (λk=>av.ownBlock=some k) (V.alloc o) X):
  jy F0 W X v1 v2 ml nl css:=by
 have hs2:Since (λk=>av.ownBlock=some k) V X:=((Since.refl _ V).alloc o).trans hs (λ_ hk=> .inl hk)
 refine⟨hs2.row h.row (λk hk e=>hne k hk e),h.st.step hs2 (λk hk e=>yE ha h.st.row (by decide) k e hk) (λk hk=> .inl (.inl (hB k (ha.lt k hk).1))) (λ_ hk=> .inl hk),h.below.trans (hs2.below h.below.size (λk hk=>Nat.le_trans hWB (ha.lt k hk).1))⟩
theorem jy.beside (h:jy F0 W V v1 v2 ml nl css) {B n:Nat} {av v1' v2':Value} {xs:List Value} {n1 n2:Nat} {xs1 xs2:List Value} {bs:List (Nat × TypeId × List Value)} (ha:V.ownsRow B 70 3 av n xs) (hne:∀k,v1.ownBlock=some k->av.ownBlock≠some k)
  (hT:bV V X W.heap.size v1 v2 70 3 v1' n1 xs1 42 3 v2' n2 xs2 bs):X.ownsRow B 70 3 av n xs/\∀k,v1'.ownBlock=some k->av.ownBlock≠some k:=by
 refine⟨hT.since.row ha (λk hk e=> ?_),λk hk e=> ?_⟩
 ·rcases e with e|e
  ·exact hne k e hk
  exact yE ha h.st.row (by decide) k hk e
 rcases hT.l1 k hk with e1|e1
 ·exact hne k e1 e
 have:=(ha.lt k e).2;omega
end
theorem ziU.told {w w':World} {FW:World->zi->Value->Value->Prop} {r:Option zi} {e:Ending} (h:ziU w FW r e w'):∃xa xn xc ya yn yc bd isv,e= .returned (.tuple #[.agg #[.slice xa xn xc, .slice ya yn yc, .bool bd], .bool isv])/\isv=r.isSome/\∀t,r=some t->bd=t.bad/\FW w' t (.slice xa xn xc) (.slice ya yn yc):=by
 rcases h.2 with⟨h1,h2⟩|⟨t,xa,xn,xc,ya,yn,yc,h1,h2,h3⟩
 ·exact⟨none,0,0,none,0,0,false,false,h2,by rw [h1];rfl,λt ht=>by rw [h1] at ht;cases ht⟩
 exact⟨xa,xn,xc,ya,yn,yc,t.bad,true,h2,by rw [h1];rfl,λt' ht=>by rw [h1] at ht;cases ht;exact⟨rfl,h3⟩⟩
def allT (m:zy) (s:zi) (i:Nat):List zq:=⟨1,(i:Int),0⟩::(yK (s.threads.getD i default).buf m.model).map λv=>⟨2,(i:Int),v⟩
def ze9 (c:zD) (m:zy) (s:zi) (d i:Nat) (x:zq):Option zi:=za7 c m s i x.kind x.var d
theorem zsL (c:zD) (m:zy) (s:zi) (d i:Nat):ze9 c m s d i ⟨1,(i:Int),0⟩=jl c m s i d:=by
 unfold ze9 za7
 rw [if_pos ⟨rfl,rfl⟩]
theorem zqh {c:zD} {m:zy} {s:zi} {d i:Nat} {v:Int} (hv:v∈yK (s.threads.getD i default).buf m.model):ze9 c m s d i ⟨2,(i:Int),v⟩=some (bN s i v):=by
 unfold ze9 za7
 rw [if_neg (by rintro⟨h, -⟩;simp at h),if_pos ⟨rfl,hv⟩]
theorem all_some {α β:Type} (f:α->Option β) (g:α->β):∀l:List α,(∀x∈l,f x=some (g x))->l.filter (λx=>(f x).isSome)=l/\l.filterMap f=l.map g
 | [],_=>⟨rfl,rfl⟩
 |x::l,h=>by
  obtain⟨h1,h2⟩:=all_some f g l (λy hy=>h y (List.mem_cons_of_mem _ hy))
  have hx:=h x (List.mem_cons_self ..)
  refine⟨?_, ?_⟩
  ·rw [List.filter_cons_of_pos (by rw [hx];rfl),h1]
  rw [List.filterMap_cons_some hx,h2];rfl
def zkS (c:zD) (m:zy) (s:zi) (d i:Nat):List zi:=(kY c m s d i).map λx=>(qB c m s x d).1
def zi0 (c:zD) (m:zy) (s:zi) (d:Nat):List zi:=(xH c m s d).map λx=>(qB c m s x d).1
theorem zsM {c:zD} {m:zy} {s:zi} {d i:Nat} (hf:yB c m s=true) (hi:i<s.threads.length):(allT m s i).filter (λx=>(ze9 c m s d i x).isSome)=kY c m s d i/\(allT m s i).filterMap (ze9 c m s d i)=zkS c m s d i:=by
 have hr:∀x∈(yK (s.threads.getD i default).buf m.model).map (λv=>(⟨2,(i:Int),v⟩:zq)),ze9 c m s d i x=some (qB c m s x d).1:=by
  intro x hx
  obtain⟨v,hv,rfl⟩:=List.mem_map.1 hx
  have h:=zqh (c:=c) (d:=d) hv
  have hdo:=zoH (x:=⟨2,(i:Int),v⟩) (d:=d) hf ⟨by simp,by simpa using hi⟩
  simp only [Int.toNat_natCast] at hdo
  rw [h,hdo,show za7 c m s i 2 v d=some (bN s i v) from h];rfl
 obtain⟨h1,h2⟩:=all_some (ze9 c m s d i) (λx=>(qB c m s x d).1) _ hr
 have hdo:=zoH (c:=c) (m:=m) (x:=⟨1,(i:Int),0⟩) (d:=d) hf ⟨by simp,by simpa using hi⟩
 simp only [Int.toNat_natCast] at hdo
 have hst:=zsL c m s d i
 unfold zkS kY allT
 cases hs:jl c m s i d with
 |none=>
  rw [hs] at hst
  rw [List.filter_cons_of_neg (by rw [hst];simp),h1,List.filterMap_cons_none hst,h2]
  exact⟨rfl,rfl⟩
 |some t=>
 rw [hs] at hst
 have e:(qB c m s ⟨1,(i:Int),0⟩ d).1=t:=by rw [hdo,show za7 c m s i 1 0 d=some t from hst];rfl
 rw [List.filter_cons_of_pos (by rw [hst];rfl),h1,List.filterMap_cons_some hst,h2]
 refine⟨rfl, ?_⟩
 show t::_=(qB c m s ⟨1,(i:Int),0⟩ d).1::_
 rw [e]
 rfl
theorem zv6 {c:zD} {m:zy} {s:zi} {d:Nat} (hf:yB c m s=true):zi0 c m s d=(List.range s.threads.length).flatMap (zkS c m s d):=by
 unfold zi0 xH
 rw [if_pos hf,List.map_flatMap];rfl
theorem zn8 {α:Type} [Inhabited α] {l:List α} {k:Nat} (hk:k<l.length) (p:α->Bool):(l.take (k+1)).filter p=(l.take k).filter p++(if p (l.getD k default) then [l.getD k default] else []):=by
 rw [bE hk rfl,List.filter_append]
 congr 1
 cases h:p (l.getD k default)
 ·rw [List.filter_cons_of_neg (by rw [h];simp)];simp
 rw [List.filter_cons_of_pos h];simp
theorem zj5 {α β:Type} [Inhabited α] {l:List α} {k:Nat} (hk:k<l.length) (f:α->Option β):(l.take (k+1)).filterMap f=(l.take k).filterMap f++(match f (l.getD k default) with|some y=> [y] |none=> []):=by
 rw [bE hk rfl,List.filterMap_append]
 congr 1
 cases h:f (l.getD k default)
 ·rw [List.filterMap_cons_none h];rfl
 rw [List.filterMap_cons_some h];rfl
def zew (F0:Nat->Prop) (w:World) (ml:List zq) (nl:List zi) (e:Ending) (w':World):Prop:=
 (∃va vc xa xc css,e= .returned (.tuple #[.slice va ml.length vc, .slice xa nl.length xc])/\w'.ownsRow w.heap.size 70 3 (.slice va ml.length vc) ml.length (zo zq.cells ml)/\yV F0 w' qo 3 w.heap.size 42 (.slice xa nl.length xc) nl css)/\Below w.heap.size w w'
theorem jy.fin {F0:Nat->Prop} {w W X:World} {va xa:Option Addr} {n vc k xc:Nat} {ml:List zq} {nl:List zi} {css:List (List Value)} (h:jy F0 W X (.slice va n vc) (.slice xa k xc) ml nl css) (hb:Below w.heap.size w W) (hn:ml.length=n) (hk:nl.length=k):
  zew F0 w ml nl (.returned (.tuple #[.slice va n vc, .slice xa k xc])) X:=by
 subst hn hk
 refine⟨⟨va,vc,xa,xc,css,rfl,xq h.row hb.size, ?_⟩,hb.trans (h.below.mono hb.size)⟩
 exact⟨h.st.len,λj hj=>⟨(h.st.part j hj).1,λy hy=>(h.st.part j hj).2 y (hy.mono (λk _ hk=> .inl hk))⟩,xq h.st.row hb.size⟩
