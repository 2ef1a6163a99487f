/- Steps. -/
import Derived.Test.YtknmdmimecepfaaGreatDoorVhAxSto
set_option linter.all false
namespace Go.Proofs.YtknmdmimecepfaaGreatDoor
open Go.RowKit
set_option maxRecDepth 100000
set_option maxHeartbeats 16000000
def zh1:zC:= .mk 1 1 0 []
def bF:zC:= .mk 0 0 0 []
def zW:zl:=⟨2,2, [[⟨2,0,0,zh1,bF,0⟩,⟨1,0,1,bF,bF,0⟩], [⟨2,0,1,zh1,bF,0⟩,⟨1,0,0,bF,bF,0⟩]]⟩
theorem zg3 (w:World):Calls Tryz.prog 35 #[.int .i64 1] w λe w'=>e= .returned (.agg #[.int .i64 1, .int .i64 1, .int .u8 0, .slice none 0 0])/\Below w.heap.size w w':=by
 go_enter Tryz.func35,Tryz.ntmps35
 go_wp2
 exact bodyPost_ret (v:= .agg #[.int .i64 1, .int .i64 1, .int .u8 0, .slice none 0 0]) (by simp [results,Tryz.results35,go_sem]) rfl ⟨rfl,(Below.refl _ _).alloc (Nat.le_refl _) _⟩
theorem zm7 {d:Nat} {w:World} {l:List (List zi)} {g m:Nat} {vs:List Value} {t:TypeId} (hb:w.heap[g]? =some (.cells vs.toArray t (0,0))) (hm:l.length<=m/\m<=9223372036854775807) (h:∀j,j<l.length->∃v,vs[j]? =some v/\qz d w v (l.getD j [])):yB d w (.slice (some ⟨g,0,none⟩) l.length m) l:=
 ⟨_,_,rfl,hm,λj hj=>by
  obtain⟨v,hv,hi⟩:=h j hj
  refine⟨g,0, [v],rfl,zI hb,rfl,λi hi=> ?_,v,rfl,hi⟩
  obtain rfl:i=0:=by omega
  rw [show 0+j*1+0=j by omega,ze hb,List.getElem?_toArray,hv];rfl⟩
theorem zbn (w:World) (k n o:Int):zM 1 w (.mk k n o []) (.slice none 0 0):=⟨none,0,rfl,by simp [zC.kids],λj hj=>by simp [zC.kids] at hj⟩
theorem zja:(Tryz.prog.info? 25).map (·.size)=some 3:=by kernel_rfl
def zh2 (x:zi):List Value:=x.cells (.slice none 0 0) (.slice none 0 0)
theorem zcv (x:zi):(zh2 x).length=12:=rfl
theorem zdS (w:World) {x:zC} (h:x.kids= []):zM 1 w x (.slice none 0 0):=by
 obtain⟨k,n,o,l⟩:=x
 have:l= [] :=h
 subst this
 exact zbn _ _ _ _
theorem zcf {w:World} {g m:Nat} {l:List zi} {t:TypeId} (hb:w.heap[g]? =some (.cells (zm zh2 l).toArray t (0,0))) (hl:l.length<=maxLen) (hm:l.length=m) (h:∀j,j<l.length->(l.getD j default).a.kids= [] /\(l.getD j default).b.kids= []):qz 1 w (.slice (some ⟨g,0,none⟩) m m) l:=by
 subst hm
 exact zf.uj (R:=xU 1) (zbo (B:=0) hb (Nat.zero_le _) (jB zcv l) hl) λj hj=>⟨zh2 (l.getD j default),zcv _,λ_ hi=>zaf zcv hj hi,_,_,rfl,zdS _ (h j hj).1,zdS _ (h j hj).2⟩
def zjb (w:World) (e:Ending) (w':World):Prop:=(∃tv,e= .returned (qP zW tv)/\yB 1 w' tv zW.threads)/\Below w.heap.size w w'
theorem zh3 (w:World):Calls Tryz.prog 20 #[] w (zjb w):=by
 go_enter Tryz.func20,Tryz.ntmps20
 go_upto_region 1 with fail
 have L0:=qh ((Loc.start w).alloc 25 [.int .i64 0, .int .i64 0, .slice none 0 0])
 generalize World.alloc w _=W0 at L0 ⊢
 generalize w.heap.size=g at L0 ⊢
 go_upto_region 2 with(go_at_call 35;go_must(refine(zg3 _).mono ?_);rintro e W1 ⟨rfl,hb⟩;have L1:=qh ((L0.out.later hb).alloc 45 [.int .i64 2, .int .i64 0, .int .i64 0, .int .i64 1, .int .i64 1, .int .u8 0, .slice none 0 0, .int .i64 0, .int .i64 0, .int .u8 0, .slice none 0 0, .int .i64 0, .int .i64 1, .int .i64 0, .int .i64 1, .int .i64 0, .int .i64 0, .int .u8 0, .slice none 0 0, .int .i64 0, .int .i64 0, .int .u8 0, .slice none 0 0, .int .i64 0]);clear hb L0)
 generalize World.alloc W1 _=X at L1 ⊢
 generalize W1.heap.size=b1 at L1 ⊢
 go_upto_region 3 with(go_at_call 35;go_must(refine(zg3 _).mono ?_);rintro e W2 ⟨rfl,hb⟩;have L3:=qh ((L1.out.later hb).alloc 45 [.int .i64 2, .int .i64 0, .int .i64 1, .int .i64 1, .int .i64 1, .int .u8 0, .slice none 0 0, .int .i64 0, .int .i64 0, .int .u8 0, .slice none 0 0, .int .i64 0, .int .i64 1, .int .i64 0, .int .i64 0, .int .i64 0, .int .i64 0, .int .u8 0, .slice none 0 0, .int .i64 0, .int .i64 0, .int .u8 0, .slice none 0 0, .int .i64 0]);clear hb L1)
 generalize World.alloc W2 _=Y at L3 ⊢
 generalize W2.heap.size=b2 at L3 ⊢
 have l5:=L3.out.alloc 40 [.slice (some ⟨b1,0,none⟩) 2 2, .slice (some ⟨b2,0,none⟩) 2 2]
 have hg:=(l5.news (g,25, [.int .i64 0, .int .i64 0, .slice none 0 0]) (by simp)).1
 have L5:=qh l5
 have k0:=ze hg 0
 have k1:=ze hg 1
 have k2:=ze hg 2
 have z0:=yD hg 0
 have z1:=yD hg 1
 have z2:=yD hg 2
 clear l5 hg L3
 go_wp2
 have l6:=L5.out.store (g:=g) (t:=25) (cs:= [.int .i64 0, .int .i64 0, .slice none 0 0]) (by simp) [.int .i64 2, .int .i64 2, .slice (some ⟨Y.heap.size,0,none⟩) 2 2] rfl
 have ha:=L5.out.apart
 simp only [List.map_cons,List.map_nil,List.nodup_cons,List.mem_cons,List.not_mem_nil,or_false,not_or] at ha
 have hg:=(l6.news _ (zm8 (t:=25) (cs:= [.int .i64 0, .int .i64 0, .slice none 0 0]) (by simp))).1
 have hy:=(l6.news _ (zd5 (p:=(Y.heap.size,40, [.slice (some ⟨b1,0,none⟩) 2 2, .slice (some ⟨b2,0,none⟩) 2 2])) (by simp) ha.1.2.2)).1
 have h2:=(l6.news _ (zd5 (p:=(b2,45, [.int .i64 2, .int .i64 0, .int .i64 1, .int .i64 1, .int .i64 1, .int .u8 0, .slice none 0 0, .int .i64 0, .int .i64 0, .int .u8 0, .slice none 0 0, .int .i64 0, .int .i64 1, .int .i64 0, .int .i64 0, .int .i64 0, .int .i64 0, .int .u8 0, .slice none 0 0, .int .i64 0, .int .i64 0, .int .u8 0, .slice none 0 0, .int .i64 0])) (by simp) ha.2.1.2)).1
 have h1:=(l6.news _ (zd5 (p:=(b1,45, [.int .i64 2, .int .i64 0, .int .i64 0, .int .i64 1, .int .i64 1, .int .u8 0, .slice none 0 0, .int .i64 0, .int .i64 0, .int .u8 0, .slice none 0 0, .int .i64 0, .int .i64 1, .int .i64 0, .int .i64 1, .int .i64 0, .int .i64 0, .int .u8 0, .slice none 0 0, .int .i64 0, .int .i64 0, .int .u8 0, .slice none 0 0, .int .i64 0])) (by simp) ha.2.2.1)).1
 have L6:=qh l6.below
 change bodyPost _ _ _ _ _ (wU _ g 0 [.int .i64 2, .int .i64 2, .slice (some ⟨Y.heap.size,0,none⟩) 2 2])
 generalize wU _ g 0 _=Z at hg hy h2 h1 L6 ⊢
 refine bodyPost_ret (qx rfl _ _ g 25 _ (0,0) _ rfl hg Tryz.underlying25 rfl zja) rfl ?_
 refine⟨⟨_,rfl,zm7 (l:=zW.threads) hy (by decide) λj hj=> ?_⟩,L6.out⟩
 match j,hj with
 |0,_=>exact⟨_,rfl,zcf (l:= [⟨2,0,0,zh1,bF,0⟩,⟨1,0,1,bF,bF,0⟩]) h1 (by decide) rfl (λj hj=>by match j,hj with|0,_=>exact⟨rfl,rfl⟩|1,_=>exact⟨rfl,rfl⟩)⟩
 |1,_=>exact⟨_,rfl,zcf (l:= [⟨2,0,1,zh1,bF,0⟩,⟨1,0,0,bF,bF,0⟩]) h2 (by decide) rfl (λj hj=>by match j,hj with|0,_=>exact⟨rfl,rfl⟩|1,_=>exact⟨rfl,rfl⟩)⟩
end Go.Proofs.YtknmdmimecepfaaGreatDoor
namespace Go.Proofs.YtknmdmimecepfaaGreatDoor
open Go.RowKit
set_option maxRecDepth 100000
set_option maxHeartbeats 16000000
def stI (v n:Int):zi:=⟨2,0,v, .mk 1 n 0 [],bF,0⟩
def bG (v n:Int):List Value:= [.int .i64 2, .int .i64 0, .int .i64 v, .int .i64 1, .int .i64 n, .int .u8 0, .slice none 0 0, .int .i64 0, .int .i64 0, .int .u8 0, .slice none 0 0, .int .i64 0]
theorem znC (w:World) (v n:Int):xU 1 w (stI v n) (bG v n):=⟨.slice none 0 0, .slice none 0 0,rfl,zbn w 1 n 0,zbn w 0 0 0⟩
def zff {α:Type} (f:Nat->α) (t:Nat) (x:α):Nat->α:=λi=>if i=t then x else f i
theorem qD {α:Type} (f:Nat->α) (t:Nat) (x:α):zff f t x t=x:=if_pos rfl
theorem qE {α:Type} {f:Nat->α} {t i:Nat} (h:i≠t) (x:α):zff f t x i=f i:=if_neg h
def zh4 (d:Int) (x:zi):Prop:=x=stI x.var x.a.n/\0<=x.var/\x.var<2/\0<=x.a.n/\x.a.n<d
def lastOf (R:Nat->List zi) (t:Nat) (v:Int):Int:=xA (R t) v (R t).length
structure xR (w X:World) (gr gc gl:Nat) (d:Int) (vs:Nat->Value) (R:Nat->List zi) (cc:Nat->List (List Value)):Prop where
 base:Below w.heap.size w X
 wC:X.heap[gr]? =some (.cells #[vs 0,vs 1] 40 (0,0))
 gD:X.heap[gc]? =some (.cells #[.int .i64 2, .int .i64 d, .slice (some ⟨gr,0,none⟩) 2 2] 25 (0,0))
 wD:X.heap[gl]? =some (.cells #[.int .i64 (lastOf R 0 0), .int .i64 (lastOf R 0 1), .int .i64 (lastOf R 1 0), .int .i64 (lastOf R 1 1)] 48 (0,0))
 lo:w.heap.size<=gr/\w.heap.size<=gc/\w.heap.size<=gl
 rows:∀t,t<2->vI w w.heap.size X (xU 1) 12 45 (vs t) (R t) (cc t)
 ne:∀k,(vs 0).ownBlock=some k->(vs 1).ownBlock≠some k
 good:∀t,t<2->∀x∈R t,zh4 d x
theorem zgc {l r:List zi} {v:Int} :∀k,k<=l.length->xA (l++r) v k=xA l v k:=by
 intro k
 induction k with
 |zero=>intro _;rfl
 |succ k ih=>
 intro hk
 show(if ((l++r).getD k default).var=v then((l++r).getD k default).a.n else xA (l++r) v k)=(if (l.getD k default).var=v then(l.getD k default).a.n else xA l v k)
 rw [show(l++r).getD k default=l.getD k default from ji (by omega),ih (by omega)]
theorem zjc (l:List zi) (x:zi) (v:Int):xA (l++ [x]) v (l++ [x]).length=if x.var=v then x.a.n else xA l v l.length:=by
 rw [List.length_append]
 show(if ((l++ [x]).getD l.length default).var=v then((l++ [x]).getD l.length default).a.n else xA (l++ [x]) v l.length)=_
 rw [show(l++ [x]).getD l.length default=x by rw [jk (Nat.le_refl _),Nat.sub_self];rfl,zgc _ (Nat.le_refl _)]
section
variable {w X:World} {gr gc gl:Nat} {d:Int} {vs:Nat->Value} {R:Nat->List zi} {cc:Nat->List (List Value)}
theorem xR.zlB (h:xR w X gr gc gl d vs R cc) {t:Nat} (ht:t<2):X.cell? ⟨gr,t,none⟩=some (vs t):=by
 have:t=0\/t=1:=by omega
 rcases this with rfl|rfl
 ·exact ze h.wC 0
 exact ze h.wC 1
theorem xR.zpe (h:xR w X gr gc gl d vs R cc) {t v:Nat} (ht:t<2) (hv:v<2):X.cell? ⟨gl,t*2+v,none⟩=some (.int .i64 (lastOf R t v)):=by
 have h1:t=0\/t=1:=by omega
 have h2:v=0\/v=1:=by omega
 rcases h1 with rfl|rfl<;>rcases h2 with rfl|rfl
 ·exact ze h.wD 0
 ·exact ze h.wD 1
 ·exact ze h.wD 2
 exact ze h.wD 3
theorem xR.later (h:xR w X gr gc gl d vs R cc) {Y:World} (hb:Below X.heap.size X Y):xR w Y gr gc gl d vs R cc:=
 ⟨zn h.base hb,(hb.block _ (zI h.wC)).trans h.wC,(hb.block _ (zI h.gD)).trans h.gD,(hb.block _ (zI h.wD)).trans h.wD,h.lo,λt ht=>(h.rows t ht).later hb,h.ne,h.good⟩
theorem xR.grc (h:xR w X gr gc gl d vs R cc):gr≠gc/\gr≠gl/\gc≠gl:=by
 refine⟨λe=> ?_,λe=> ?_,λe=> ?_⟩
 ·have:=h.wC;rw [e,h.gD] at this;simp only [Option.some.injEq,Obj.cells.injEq] at this;exact absurd this.2.1 (by decide)
 ·have:=h.wC;rw [e,h.wD] at this;simp only [Option.some.injEq,Obj.cells.injEq] at this;exact absurd this.2.1 (by decide)
 have:=h.gD;rw [e,h.wD] at this;simp only [Option.some.injEq,Obj.cells.injEq] at this;exact absurd this.2.1 (by decide)
theorem xR.apart (h:xR w X gr gc gl d vs R cc) {t:Nat} (ht:t<2):(vs t).ownBlock≠some gr/\(vs t).ownBlock≠some gc/\(vs t).ownBlock≠some gl:=
 ⟨λe=>yX (h.rows t ht).row h.wC (by decide) _ e rfl,λe=>yX (h.rows t ht).row h.gD (by decide) _ e rfl,λe=>yX (h.rows t ht).row h.wD (by decide) _ e rfl⟩
theorem xR.push (h:xR w X gr gc gl d vs R cc) {t:Nat} (ht:t<2) {v:Nat} (hv:v<2) {n:Int} (hn:0<=n/\n<d) {X1:World} {v':Value} (h1:X1.ownsRow w.heap.size 45 12 v' ((R t).length+1) ((cc t).flatten++bG v n)) (h4:Since (λk=>(vs t).ownBlock=some k) X X1) (h5:∀k,v'.ownBlock=some k->(vs t).ownBlock=some k\/X.heap.size<=k):
  xR w ((X1.setCell ⟨gr,t,none⟩ v').setCell ⟨gl,t*2+v,none⟩ (.int .i64 n)) gr gc gl d (zff vs t v') (zff R t (R t++ [stI v n])) (zff cc t (cc t++ [bG v n])):=by
 obtain⟨g1,g2,g3⟩:=h.grc
 obtain⟨a1,a2,a3⟩:=h.apart ht
 have hr1:=(h4.block _ (zI h.wC) a1).trans h.wC
 have hc1:=(h4.block _ (zI h.gD) a2).trans h.gD
 have hl1:=(h4.block _ (zI h.wD) a3).trans h.wD
 have hs2:Since (λk=>k=gr) X1 (X1.setCell ⟨gr,t,none⟩ v'):=Since.setCell (F:=λk=>k=gr) (p:=⟨gr,t,none⟩) (Since.refl _ _) (.inl rfl) _
 have hs3:Since (λk=>k=gr\/k=gl) X1 ((X1.setCell ⟨gr,t,none⟩ v').setCell ⟨gl,t*2+v,none⟩ (.int .i64 n)):=Since.setCell (F:=λk=>k=gr\/k=gl) (p:=⟨gl,t*2+v,none⟩) (hs2.mono (λk _ hk=> .inl hk)) (.inl (.inr rfl)) _
 have hr2:=zq hr1 t v'
 have hl2:(X1.setCell ⟨gr,t,none⟩ v').heap[gl]? =_:=(hs2.block _ (zI hl1) (λe=>g2 e.symm)).trans hl1
 have hl3:=zq hl2 (t*2+v) (.int .i64 n)
 have hr3:((X1.setCell ⟨gr,t,none⟩ v').setCell ⟨gl,t*2+v,none⟩ (.int .i64 n)).heap[gr]? =_:=((Since.setCell (F:=λk=>k=gl) (p:=⟨gl,t*2+v,none⟩) (Since.refl _ _) (.inl rfl) (.int .i64 n):Since (λk=>k=gl) (X1.setCell ⟨gr,t,none⟩ v') _).block _ (zI hr2) g2).trans hr2
 have hall:Since (λk=>(vs t).ownBlock=some k\/k=gr\/k=gl) X ((X1.setCell ⟨gr,t,none⟩ v').setCell ⟨gl,t*2+v,none⟩ (.int .i64 n)):=(h4.mono (λk _ hk=> .inl hk)).trans hs3 (λk hk=> .inl (.inr hk))
 have znD:v'.ownBlock≠some gr/\v'.ownBlock≠some gl:=⟨λe=>yX h1 hr1 (by decide) _ e rfl,λe=>yX h1 hl1 (by decide) _ e rfl⟩
 have hsn:∀q,xA (R t++ [stI v n]) q (R t++ [stI v n]).length=if (v:Int)=q then n else xA (R t) q (R t).length:=λq=>zjc _ _ _
 refine⟨h.base.trans (hall.below h.base.size (λk hk=> ?_)), ?_, ?_, ?_,h.lo,λs hs=> ?_,λk hk hk2=> ?_,λs hs x hx=> ?_⟩
 ·rcases hk with hk|rfl|rfl
  ·exact((h.rows t ht).row.lt k hk).1
  ·exact h.lo.1
  exact h.lo.2.2
 ·rw [hr3]
  have:t=0\/t=1:=by omega
  rcases this with rfl|rfl<;>rfl
 ·exact(hs3.block _ (zI hc1) (λe=>e.elim (λe=>g1 e.symm) (λe=>g3 e))).trans hc1
 ·rw [hl3]
  have e1:t=0\/t=1:=by omega
  have e2:v=0\/v=1:=by omega
  unfold lastOf
  rcases e1 with rfl|rfl<;>rcases e2 with rfl|rfl
  ·rw [qD,qE (show 1≠0 by omega),hsn,hsn];rfl
  ·rw [qD,qE (show 1≠0 by omega),hsn,hsn];rfl
  ·rw [qD,qE (show 0≠1 by omega),hsn,hsn];rfl
  rw [qD,qE (show 0≠1 by omega),hsn,hsn];rfl
 ·by_cases e:s=t
  ·subst e
   rw [qD,qD,qD]
   have h2:=(h.rows s hs).app (X':=X1) (v':=v') (r:= [stI v n]) (cs2:= [bG v n]) rfl (λj hj=>by
    obtain rfl:j=0:=by simpa using hj
    exact⟨rfl,znC w v n⟩) (by simpa using h1)
   exact h2.since hs3 (λk hk e=>by rcases e with rfl|rfl;exact znD.1 hk;exact znD.2 hk)
  rw [qE e,qE e,qE e]
  refine(h.rows s hs).since hall (λk hk e2=> ?_)
  rcases e2 with e2|rfl|rfl
  ·have:(s=0/\t=1)\/(s=1/\t=0):=by omega
   rcases this with⟨rfl,rfl⟩|⟨rfl,rfl⟩
   ·exact h.ne k hk e2
   exact h.ne k e2 hk
  ·exact(h.apart hs).1 hk
  exact(h.apart hs).2.2 hk
 ·have hlt:∀s,s<2->∀k,(vs s).ownBlock=some k->k<X.heap.size:=λs hs k hk=>((h.rows s hs).row.lt k hk).2
  have:t=0\/t=1:=by omega
  rcases this with rfl|rfl
  ·rw [qD] at hk
   rw [qE (show 1≠0 by omega)] at hk2
   rcases h5 k hk with e|e
   ·exact h.ne k e hk2
   have:=hlt 1 (by omega) k hk2;omega
  rw [qE (show 0≠1 by omega)] at hk
  rw [qD] at hk2
  rcases h5 k hk2 with e|e
  ·exact h.ne k hk e
  have:=hlt 0 (by omega) k hk;omega
 by_cases e:s=t
 ·subst e
  rw [qD] at hx
  rcases List.mem_append.1 hx with hx|hx
  ·exact h.good s hs x hx
  rw [List.mem_singleton.1 hx];exact⟨rfl,(by show(0:Int)<=(v:Int);omega),(by show(v:Int)<2;omega),hn.1,hn.2⟩
 rw [qE e] at hx;exact h.good s hs x hx
def xO (d:Int) (R:Nat->List zi):zl:=⟨2,d, [R 0,R 1]⟩
theorem xR.code (h:xR w X gr gc gl d vs R cc):yB 1 X (.slice (some ⟨gr,0,none⟩) 2 2) (xO d R).threads:=by
 refine⟨_,_,rfl,⟨by show 2<=2;omega,by omega⟩,λj hj=> ?_⟩
 have hj:j<2:=hj
 refine⟨gr,0, [vs j],rfl,zI h.wC,rfl,λi hi=> ?_,vs j,rfl, ?_⟩
 ·obtain rfl:i=0:=by omega
  rw [Nat.zero_add,Nat.mul_one,Nat.add_zero];exact h.zlB hj
 have:=(h.rows j hj).slice (xU.stays 1) h.base
 have e:(xO d R).threads.getD j default=R j:=by
  have:j=0\/j=1:=by omega
  rcases this with rfl|rfl<;>rfl
 rw [e];exact this
theorem xR.zk4 {j:Nat} (hj:j<2):(xO d R).threads.getD j [] =R j:=by
 have:j=0\/j=1:=by omega
 rcases this with rfl|rfl<;>rfl
end
theorem zm9 {d:Int} {many:Nat} {x:zi} (h:zh4 d x):qC 2 d many x=true:=by
 obtain⟨e,h1,h2,h3,h4⟩:=h
 rw [e]
 unfold qC gQ vC zh5 zh6 zh7 zh8
 have e1:zS d 20 (.mk 1 x.a.n 0 [])=true:=by
  unfold zS
  show(if (1:Int)=1 then _ else _)=true
  rw [if_pos rfl]
  show(decide (0<=x.a.n) && decide (x.a.n<d) && decide ((0:Int)=0) && decide (([] :List zC).length=0))=true
  rw [decide_eq_true h3,decide_eq_true h4];rfl
 show(decide ((1:Int)<=2) && decide ((2:Int)<=9) && decide ((0:Int)<=0) && decide ((0:Int)<=0) && ((if zaH 2 then _ else decide ((0:Int)=0)) && (if zaI 2 then decide (0<=x.var) && decide (x.var<2) else _) && (if zaJ 2 then zS d 20 (.mk 1 x.a.n 0 []) else _) && (if hasB 2 then _ else j3 bF)))=true
 rw [show zaH 2=false from rfl,show zaI 2=true from rfl,show zaJ 2=true from rfl,show hasB 2=false from rfl,if_neg (by simp),if_pos rfl,if_pos rfl,if_neg (by simp),decide_eq_true h1,decide_eq_true h2,e1];rfl
theorem zk5 {d:Int} {R:Nat->List zi} (hd:2<=d/\d<=16) (h:∀t,t<2->(R t).length<=600/\∀x∈R t,zh4 d x):codeOk (xO d R)=true/\yw (xO d R)=true/\zd6 (xO d R)/\qQ (xO d R)=false/\zY (xO d R) (xO d R).threads.length=(R 0).length+(R 1).length:=by
 have hop:∀t,t<2->∀k,k<(R t).length->((R t).getD k default).op=2/\((R t).getD k default).a.kind=1:=λt ht k hk=>by
  have:=(h t ht).2 _ (zV (x:=default) hk)
  rw [this.1];exact⟨rfl,rfl⟩
 have hcnt:∀t,t<2->cntF 2 (R t) 0=(R t).length:=λt ht=>by
  unfold cntF
  rw [List.drop_zero,List.countP_eq_length]
  intro x hx
  have:=(h t ht).2 x hx
  rw [this.1];rfl
 have hget:∀i,i<(xO d R).threads.length->i<2/\(xO d R).threads.getD i [] =R i:=λi hi=>⟨hi,xR.zk4 hi⟩
 refine⟨?_,zgv λi hi k hk hl=> ?_,λi hi k hk=> ?_, ?_, ?_⟩
 ·have hr:∀t,t<2->rowOk 2 d (R t)=true:=λt ht=>by
   unfold rowOk
   rw [decide_eq_true (h t ht).1,Bool.true_and,List.all_eq_true]
   exact λx hx=>zm9 ((h t ht).2 x hx)
  unfold codeOk xO
  simp only [List.all_cons,List.all_nil,hr 0 (by omega),hr 1 (by omega),List.length_cons,List.length_nil]
  rw [decide_eq_true hd.1,decide_eq_true hd.2];rfl
 ·obtain⟨h2,e⟩:=hget i hi
  rw [e] at hk hl
  rw [(hop i h2 k hk).1] at hl;cases hl
 ·obtain⟨h2,e⟩:=hget i hi
  rw [e] at hk ⊢
  exact hop i h2 k hk
 ·have hw:∀t,t<2->∀k,k<=(R t).length->∀n,xg d (R t) k n=n:=λt ht k=>by
   induction k with
   |zero=>intro _ n;rfl
   |succ k ih=>
   intro hk n
   show jv d (xg d (R t) k n) _=n
   rw [ih (by omega),(hop t ht k (by omega)).1]
   unfold jv
   rw [if_neg (by omega)]
  have e2:zcB (xO d R) 2=1:=by
   show xg d (R 1) (R 1).length (xg d (R 0) (R 0).length 1)=1
   rw [hw 0 (by omega) _ (Nat.le_refl _),hw 1 (by omega) _ (Nat.le_refl _)]
  unfold qQ
  rw [show(xO d R).threads.length=2 from rfl,e2];rfl
 show 0+cntF 2 (R 0) 0+cntF 2 (R 1) 0=_
 rw [hcnt 0 (by omega),hcnt 1 (by omega)];omega
