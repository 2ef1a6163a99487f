/- Steps. -/
import Derived.Test.YtknmdmimecepfaaGreatDoorVhAxMap
import Derived.Test.YtknmdmimecepfaaGreatDoorVhSame7
set_option linter.all false
namespace Go.Proofs.YtknmdmimecepfaaGreatDoor
open Go.RowKit
set_option maxRecDepth 100000
set_option maxHeartbeats 16000000
def qd (X:World) (k:Nat):Prop:=∃cs t,X.heap[k]? =some (.cells cs t (0,0))/\(t=3\/t=59)
theorem wL {X:World} {B size n k:Nat} {e:TypeId} {v:Value} {xs:List Value} (h:X.ownsRow B e size v n xs) (hk:v.ownBlock=some k):∃cs,X.heap[k]? =some (.cells cs e (0,0)):=by
 rcases h.2 with⟨rfl, -⟩|⟨g,cap,cur,rfl, -,hg, -⟩
 ·simp [Value.ownBlock] at hk
 simp only [Value.ownBlock,Option.some.injEq] at hk
 subst hk
 exact⟨cur,hg⟩
theorem qd.since {F:Nat->Prop} {X Y:World} {k:Nat} (hs:Since F X Y) (hk:k<X.heap.size) (hF:¬F k) (h:qd X k):qd Y k:=by
 obtain⟨cs,t,h1,h2⟩:=h
 exact⟨cs,t,(hs.block k hk hF).trans h1,h2⟩
theorem zo.zpf {w:World} {g:Nat} {A:za} (h:zo w g A):¬qd w g:=by
 rintro⟨cs,t,h1,h2⟩
 rw [h.blk] at h1
 simp only [Option.some.injEq,Obj.cells.injEq] at h1
 obtain⟨-,rfl, -⟩:=h1
 rcases h2 with h2|h2<;>exact absurd h2 (by decide)
structure yH where
 seen:List za
 out:List zy
 fails:Bool
structure zX (V w:World) (mb sm n:Nat) (c:zl) (cv:Value) (d:Nat) (model:Int) (ov:Value) (s:yH) (css:List (List Value)):Prop where
 base:Below V.heap.size V w
 code:yB d V cv c.threads
 blk:w.heap[mb]? =some (.cells #[.int .i64 c.vars, .int .i64 c.domain,cv, .int .i64 model, .map (some sm),ov, .bool s.fails] 58 (0,0))
 lo:V.heap.size<=mb/\V.heap.size<=sm
 set:kD w sm n s.seen
 outs:xY (λk=>¬qd w k) w yL 2 V.heap.size 51 ov s.out css
section
variable {V w w':World} {mb sm n:Nat} {c:zl} {cv:Value} {d:Nat} {model:Int} {ov:Value} {s:yH} {css:List (List Value)}
theorem zX.axc (h:zX V w mb sm n c cv d model ov s css):vE V w mb c cv d model:=⟨h.base,h.code,ze h.blk 1,ze h.blk 2,ze h.blk 3,zI h.blk⟩
theorem zX.since (h:zX V w mb sm n c cv d model ov s css) {G:Nat->Prop} (hs:Since G w w') (hV:∀k,G k->V.heap.size<=k) (h1:¬G mb) (h2:¬G sm) (h3:∀k,ov.ownBlock=some k->¬G k) (h4:∀k,G k->k<w.heap.size->¬qd w k):zX V w' mb sm n c cv d model ov s css:=
 ⟨h.base.trans (hs.below h.base.size hV),h.code,(hs.block _ (zI h.blk) h1).trans h.blk,h.lo,h.set.since hs h2,
  h.outs.step hs h3 (λk hk=>by
   rcases Nat.lt_or_ge k w.heap.size with hl|hl
   ·exact .inl (h4 k hk hl)
   ·exact .inr hl) (λk hk=>by
   rcases Nat.lt_or_ge k w.heap.size with hl|hl
   ·refine .inl λhi=>hk ?_
    by_cases hg:G k
    ·exact absurd hi (h4 k hg hl)
    exact hi.since hs hl hg
   exact .inr hl)⟩
theorem zX.later (h:zX V w mb sm n c cv d model ov s css) (hb:Below w.heap.size w w'):zX V w' mb sm n c cv d model ov s css:=
 h.since (zA (λ_=>False) hb) (λ_ h=>h.elim) (λh=>h) (λh=>h) (λ_ _ h=>h) (λ_ h=>h.elim)
theorem zX.zah (h:zX V w mb sm n c cv d model ov s css) {g:Nat} {A:za} (hW:zo w g A):mb≠g:=λe=>by
 have:=h.blk
 rw [e,hW.blk] at this
 simp only [Option.some.injEq,Obj.cells.injEq] at this
 exact absurd this.2.1 (by decide)
theorem zX.zcX (h:zX V w mb sm n c cv d model ov s css) {g:Nat} {A:za} (hW:zo w g A):sm≠g:=λe=>by
 obtain⟨D,⟨es,clock,h1, -⟩, -⟩:=h.set
 rw [e,hW.blk] at h1
 simp at h1
theorem zX.zc4 (h:zX V w mb sm n c cv d model ov s css) {g:Nat} {A:za} (hW:zo w g A):ov.ownBlock≠some g:=λe=>by
 obtain⟨cs,hc⟩:=wL h.outs.row e
 rw [hW.blk] at hc
 simp only [Option.some.injEq,Obj.cells.injEq] at hc
 exact absurd hc.2.1 (by decide)
theorem zX.one (h:zX V w mb sm n c cv d model ov s css) {g:Nat} {A:za} (hW:zo w g A) (hg:V.heap.size<=g) (hs:yC g w w'):zX V w' mb sm n c cv d model ov s css:=
 h.since hs (λk hk=>by have hk:k=g:=hk;subst hk;exact hg) (h.zah hW) (h.zcX hW) (λk hk e=>by have e:k=g:=e;subst e;exact h.zc4 hW hk) (λk hk _=>by have hk:k=g:=hk;subst hk;exact hW.zpf)
theorem zX.zfg (h:zX V w mb sm n c cv d model ov s css):ov.ownBlock≠some mb:=λe=>yX h.outs.row h.blk (by decide) _ e rfl
theorem zX.zeS (h:zX V w mb sm n c cv d model ov s css):ov.ownBlock≠some sm:=λe=>by
 obtain⟨D,⟨es,clock,h1, -⟩, -⟩:=h.set
 obtain⟨cs,hc⟩:=wL h.outs.row e
 rw [h1] at hc;simp at hc
theorem zX.zan (h:zX V w mb sm n c cv d model ov s css):mb≠sm:=λe=>by
 obtain⟨D,⟨es,clock,h1, -⟩, -⟩:=h.set
 have:=h.blk
 rw [e,h1] at this;simp at this
theorem zX.zfh (h:zX V w mb sm n c cv d model ov s css):¬qd w mb:=by
 rintro⟨cs,t,h1,h2⟩
 rw [h.blk] at h1
 simp only [Option.some.injEq,Obj.cells.injEq] at h1
 obtain⟨-,rfl, -⟩:=h1
 rcases h2 with h2|h2<;>exact absurd h2 (by decide)
theorem zX.zk6 (h:zX V w mb sm n c cv d model ov s css) {k:Nat} (hk:ov.ownBlock=some k):¬qd w k:=by
 rintro⟨cs,t,h1,h2⟩
 obtain⟨cs',hc⟩:=wL h.outs.row hk
 rw [hc] at h1
 simp only [Option.some.injEq,Obj.cells.injEq] at h1
 obtain⟨-,rfl, -⟩:=h1
 rcases h2 with h2|h2<;>exact absurd h2 (by decide)
theorem zao {G:Nat->Prop} {X Y:World} (hs:Since G X Y) (hG:∀k,G k->k<X.heap.size->¬qd X k):∀k,¬qd Y k->¬qd X k\/X.heap.size<=k:=λk hk=>by
 rcases Nat.lt_or_ge k X.heap.size with hl|hl
 ·refine .inl λhi=>hk ?_
  by_cases hg:G k
  ·exact absurd hi (hG k hg hl)
  exact hi.since hs hl hg
 exact .inr hl
theorem zX.push {X1:World} {uT:Value} {x:zy} {cs:List Value} (h:zX V w mb sm n c cv d model ov s css) (hx:uq (λk=>¬qd w k) w (λy=>yL y x cs)) (hc:cs.length=2)
  (h1:X1.ownsRow V.heap.size 51 2 uT (s.out.length+1) (css.flatten++cs)) (h4:Since (λk=>ov.ownBlock=some k) w X1):zX V (X1.setCell ⟨mb,5,none⟩ uT) mb sm n c cv d model uT ⟨s.seen,s.out++ [x],s.fails⟩ (css++ [cs]):=by
 have hb1:=(h4.block _ (zI h.blk) h.zfg).trans h.blk
 have zqN:uT.ownBlock≠some mb:=λe=>yX h1 hb1 (by decide) _ e rfl
 have hs2:Since (λk=>k=mb) X1 (X1.setCell ⟨mb,5,none⟩ uT):=Since.setCell (F:=λk=>k=mb) (p:=⟨mb,5,none⟩) (Since.refl _ _) (.inl rfl) _
 have hs:Since (λk=>ov.ownBlock=some k\/k=mb) w (X1.setCell ⟨mb,5,none⟩ uT):=(h4.mono (λk _ hk=> .inl hk)).trans hs2 (λk hk=> .inl (.inr hk))
 have hni:∀k,(ov.ownBlock=some k\/k=mb)->k<w.heap.size->¬qd w k:=λk hk _=>by
  rcases hk with hk|rfl
  ·exact h.zk6 hk
  exact h.zfh
 refine⟨h.base.trans (hs.below h.base.size (λk hk=> ?_)),h.code, ?_,h.lo,h.set.since hs (λe=>e.elim h.zeS (λe=>h.zan e.symm)), ?_⟩
 ·rcases hk with hk|rfl
  ·exact(h.outs.row.lt k hk).1
  exact h.lo.1
 ·have:=zq hb1 5 uT;simpa using this
 refine h.outs.push hs (λk hk=> ?_) (zao hs hni) hx hc (hs2.row h1 (λk hk e=>zqN (by have e:k=mb:=e;rw [<-e];exact hk)))
 rcases Nat.lt_or_ge k w.heap.size with hl|hl
 ·exact .inl (hni k hk hl)
 exact .inr hl
theorem zX.qo (h:zX V w mb sm n c cv d model ov s css) (b:Bool):zX V (w.setCell ⟨mb,6,none⟩ (.bool b)) mb sm n c cv d model ov ⟨s.seen,s.out,b⟩ css:=by
 have hs:Since (λk=>k=mb) w (w.setCell ⟨mb,6,none⟩ (.bool b)):=Since.setCell (F:=λk=>k=mb) (p:=⟨mb,6,none⟩) (Since.refl _ _) (.inl rfl) _
 have hni:∀k,k=mb->k<w.heap.size->¬qd w k:=λk hk _=>by rw [hk];exact h.zfh
 refine⟨h.base.trans (hs.below h.base.size (λk hk=>by have hk:k=mb:=hk;rw [hk];exact h.lo.1)),h.code, ?_,h.lo,h.set.since hs (λe=>h.zan e.symm), ?_⟩
 ·have:=zq h.blk 6 (.bool b);simpa using this
 exact h.outs.step hs (λk hk e=>h.zfg (by have e:k=mb:=e;rw [<-e];exact hk)) (λk hk=>by
  rcases Nat.lt_or_ge k w.heap.size with hl|hl
  ·exact .inl (hni k hk hl)
  exact .inr hl) (zao hs hni)
end
def vD (c:zl) (A:za):zy:=⟨A.mem.take c.vars.toNat,(A.zD.take c.threads.length).map (·.regs)⟩
