/- Steps. -/
import Derived.Test.YtnhahkiojbanfaaGreatDoorRyDo
import Derived.Test.YtnhahkiojbanfaaGreatDoorRyMoves
import Derived.Test.YtnhahkiojbanfaaGreatDoorRySame7
import Derived.Test.YtnhahkiojbanfaaGreatDoorRyStart
set_option linter.all false
namespace Go.Proofs.YtnhahkiojbanfaaGreatDoor
open Go.RowKit
set_option maxRecDepth 100000
set_option maxHeartbeats 16000000
theorem kT:(Tryz.prog.info? 49).map (·.size)=some 3:=by kernel_rfl
theorem zbs:(Tryz.prog.info? 32).map (λi=>(i.zero,i.size,i.bytes))=some (some (.slice none 0 0),1,24):=by kernel_rfl
theorem zca:(Tryz.prog.info? 31).map (λi=>(i.zero,i.size,i.bytes))=some (some (.slice none 0 0),1,24):=by kernel_rfl
def kW (w:World) (s:yV) (sv mv nv:Value):Prop:=j6 w sv s.states/\zh bC 1 w mv s.moves/\zh zbp 1 w nv s.next
theorem kW.below {w w':World} {s:yV} {sv mv nv:Value} (h:kW w s sv mv nv) (hb:Below w.heap.size w w'):kW w' s sv mv nv:=⟨zh.below xV.stays h.1 hb,zh.below bC.stays h.2.1 hb,zh.below zbp.stays h.2.2 hb⟩
theorem zW.mono {F G:Nat->Prop} {X:World} {P:World->Prop} (h:zW F X P) (hF:∀k,G k->F k):zW G X P:=h.step (Since.refl (λ_=>False) X) (λ_ h=>h.elim) (λk hk=> .inl (hF k hk))
def zd6 (w:World) (r:yV × Int) (e:Ending) (w':World):Prop:=(∃sv mv nv,e= .returned (.tuple #[.agg #[sv,mv,nv], .int .i64 r.2])/\kW w' r.1 sv mv nv/\zW (λk=>k<w.heap.size) w' (λy=>kW y r.1 sv mv nv)/\∀a n c,sv= .slice a n c->n<=c)/\Below w.heap.size w w'
theorem bQ {w w':World} {r:yV × Int} {k:Int} (h:r=(⟨[], [], []⟩,k)) (hb:Below w.heap.size w w'):zd6 w r (.returned (.tuple #[.agg #[.slice none 0 0, .slice none 0 0, .slice none 0 0], .int .i64 k])) w':=by
 subst h;exact⟨⟨_,_,_,rfl,⟨zh.nil _,zh.nil _,zh.nil _⟩,λ_ _=>⟨zh.nil _,zh.nil _,zh.nil _⟩,λa n c e=>by cases e;exact Nat.le_refl _⟩,hb⟩
def zfn (o:Option yV):yV × Int:=match o with|some s=>(s,0)|none=>(⟨[], [], []⟩,40)
theorem zhY {c:zI} {m:zG} {d:Nat} {room:Int} {s:zk} {ms:List zq} {k:Nat} (hk:k<ms.length) (l:List zk) (nx:List Int):qC c m d room s (ms.drop k) l nx=
  if room<=((putAt l (kK c m s (ms.getD k default) d).1).2:Int) then none else qC c m d room s (ms.drop (k+1)) (putAt l (kK c m s (ms.getD k default) d).1).1 (nx++ [((putAt l (kK c m s (ms.getD k default) d).1).2:Int)]):=by
 have h:ms.drop k=ms.getD k default::ms.drop (k+1):=by
  rw [List.getD_eq_getElem?_getD,List.getElem?_eq_getElem hk];exact(List.drop_eq_getElem_cons hk)
 rw [h];rfl
theorem zcb {c:zI} {m:zG} {d:Nat} {room:Int} {f i:Nat} {l:List zk} {ml:List (List zq)} {nl:List (List Int)} (hi:i<l.length):vR c m d room (f+1) i l ml nl=
  match qC c m d room (l.getD i default) (qp c m (l.getD i default) d) l [] with
  |none=>none
  |some r=>vR c m d room f (i+1) r.1 (ml++ [qp c m (l.getD i default) d]) (nl++ [r.2]):=by
 show(if i<l.length then _ else _)=_
 rw [if_pos hi]
 rfl
theorem zjR {c:zI} {m:zG} {d:Nat} {room:Int} {f i:Nat} {l:List zk} {ml:List (List zq)} {nl:List (List Int)} (hi:¬i<l.length):vR c m d room (f+1) i l ml nl=some ⟨l,ml,nl⟩:=by
 unfold vR
 rw [if_neg hi]
section
variable {W X X1:World} {g r:Nat} {sv mv nv xv:Value} {sl:List zk} {ml:List (List zq)} {nl:List (List Int)} {xl:List Int} {sc mc nc:List (List Value)}
theorem zgW {B e size n g:Nat} {v:Value} {xs:List Value} {c:Array Value} {t:TypeId} {f:Nat × Nat} {o:Obj} (h:X.ownsRow B e size v n xs) (hb:X.heap[g]? =some (.cells c t f)) (hne:e≠t) (h4:Since (λk=>v.ownBlock=some k) (X.alloc o) X1):X1.heap[g]? =some (.cells c t f):=
 ((((Since.refl _ X).alloc o).trans h4 (λ_ hk=> .inl hk):Since (λk=>v.ownBlock=some k) X X1).block _ (zx hb) (λe=>yx h hb hne _ e rfl)).trans hb
theorem kY.zxM (_:kY W X g r sv mv nv xv sl ml nl xl sc mc nc) {o:Obj} (h4:Since (λk=>sv.ownBlock=some k) (X.alloc o) X1) (v:Value):Since (XF g r sv mv nv xv) X (X1.setCell ⟨g,0,none⟩ v):=
 ((((Since.refl _ X).alloc o).trans h4 (λ_ hk=> .inl hk):Since (λk=>sv.ownBlock=some k) X X1).mono (G:=XF g r sv mv nv xv) (λ_ _ h=> .inr (.inl h))).setCell (p:=⟨g,0,none⟩) (.inl (.inl (.inl rfl))) _
theorem kY.zxN (_:kY W X g r sv mv nv xv sl ml nl xl sc mc nc) {o:Obj} (h4:Since (λk=>xv.ownBlock=some k) (X.alloc o) X1):Since (XF g r sv mv nv xv) X X1:=
 (((Since.refl _ X).alloc o).trans h4 (λ_ hk=> .inl hk):Since (λk=>xv.ownBlock=some k) X X1).mono (G:=XF g r sv mv nv xv) (λ_ _ h=> .inr (.inr (.inr (.inr h))))
theorem kY.z5z (_:kY W X g r sv mv nv xv sl ml nl xl sc mc nc) {o:Obj} {gX:Value} (h5:∀k,gX.ownBlock=some k->sv.ownBlock=some k\/k=(X.alloc o).heap.size):∀k,XF g r gX mv nv xv k->XF g r sv mv nv xv k\/X.heap.size<=k:=λk hk=>by
 rcases hk with hk|hk|hk
 ·exact .inl (.inl hk)
 ·rcases h5 k hk with h6|h6
  ·exact .inl (.inr (.inl h6))
  refine .inr ?_;simp at h6;omega
 exact .inl (.inr (.inr hk))
theorem kY.z5A (_:kY W X g r sv mv nv xv sl ml nl xl sc mc nc) {o:Obj} {xv':Value} (h5:∀k,xv'.ownBlock=some k->xv.ownBlock=some k\/k=(X.alloc o).heap.size):∀k,XF g r sv mv nv xv' k->XF g r sv mv nv xv k\/X.heap.size<=k:=λk hk=>by
 rcases hk with hk|hk|hk|hk|hk
 ·exact .inl (.inl hk)
 ·exact .inl (.inr (.inl hk))
 ·exact .inl (.inr (.inr (.inl hk)))
 ·exact .inl (.inr (.inr (.inr (.inl hk))))
 rcases h5 k hk with h6|h6
 ·exact .inl (.inr (.inr (.inr (.inr h6))))
 refine .inr ?_;simp at h6;omega
end
theorem zny (l:List zk) (t:zk):(putAt l t).1=l\/(putAt l t).1=l++ [t] :=by
 unfold putAt;split
 ·exact .inl rfl
 exact .inr rfl
theorem kY.fin {W X X1:World} {g r:Nat} {sv mv nv xv:Value} {sl:List zk} {ml:List (List zq)} {nl:List (List Int)} {xl:List Int} {sc mc nc:List (List Value)} (h:kY W X g r sv mv nv xv sl ml nl xl sc mc nc) (hs:Since (λk=>k=r) X X1):zW (λk=>k<=r) X1 (λy=>kW y ⟨sl,ml,nl⟩ sv mv nv):=λy hy=>by
 have hG:∀k,k=r->XF g r sv mv nv xv k\/X.heap.size<=k:=λk hk=> .inl (.inl (.inr (Nat.le_of_eq hk)))
 have hG2:∀k,k<=r->XF g r sv mv nv xv k\/X1.heap.size<=k:=λk hk=> .inl (.inl (.inr hk))
 have hF2:∀k,False->XF g r sv mv nv xv k\/X1.heap.size<=k:=λ_ h=>h.elim
 have hF:∀k,XF g r sv mv nv xv k->XF g r sv mv nv xv k\/X.heap.size<=k:=λk hk=> .inl hk
 exact⟨((h.st.step hs (λk hk e=>by have:=(h.st.row.lt k hk).1;have:=h.rlo;omega) hG hF).step hy (λk hk e=>by have:=(h.st.row.lt k hk).1;have:=h.rlo;omega) hG2 hF2).slice,((h.mo.step hs (λk hk e=>by have:=(h.mo.row.lt k hk).1;have:=h.rlo;omega) hG hF).step hy (λk hk e=>by have:=(h.mo.row.lt k hk).1;have:=h.rlo;omega) hG2 hF2).slice,((h.ne.step hs (λk hk e=>by have:=(h.ne.row.lt k hk).1;have:=h.rlo;omega) hG hF).step hy (λk hk e=>by have:=(h.ne.row.lt k hk).1;have:=h.rlo;omega) hG2 hF2).slice⟩
theorem zr6 {W W1 W2:World} {r:Nat} {s:zk} {zv yv:Value} (hr:r<W.heap.size) (hb1:Below W.heap.size W W1) (hb:Below W.heap.size W W2) (hst:zW (λk=>k<W1.heap.size) W2 (λy=>yw y s zv yv)):
  kY W ((W2.alloc (.cells #[zv,yv, .bool s.bad] 42)).alloc (.cells #[.slice (some ⟨W2.heap.size,0,none⟩) 1 1, .slice none 0 0, .slice none 0 0] 49)) (W2.heap.size+1) r (.slice (some ⟨W2.heap.size,0,none⟩) 1 1) (.slice none 0 0) (.slice none 0 0) (.slice none 0 0) [s] [] [] [] [[zv,yv, .bool s.bad]] [] [] :=by
 have hB:Below W2.heap.size W2 ((W2.alloc (.cells #[zv,yv, .bool s.bad] 42)).alloc (.cells #[.slice (some ⟨W2.heap.size,0,none⟩) 1 1, .slice none 0 0, .slice none 0 0] 49)):=((Below.refl _ _).alloc (Nat.le_refl _) _).alloc (by simp) _
 have h1:((W2.alloc (.cells #[zv,yv, .bool s.bad] 42)).alloc (.cells #[.slice (some ⟨W2.heap.size,0,none⟩) 1 1, .slice none 0 0, .slice none 0 0] 49)).heap[W2.heap.size]? =some (.cells #[zv,yv, .bool s.bad] 42 (0,0)):=(Below.heap_alloc _ _ _ (by simp)).trans (yh W2 _)
 have h2:((W2.alloc (.cells #[zv,yv, .bool s.bad] 42)).alloc (.cells #[.slice (some ⟨W2.heap.size,0,none⟩) 1 1, .slice none 0 0, .slice none 0 0] 49)).heap[W2.heap.size+1]? =some (.cells #[.slice (some ⟨W2.heap.size,0,none⟩) 1 1, .slice none 0 0, .slice none 0 0] 49 (0,0)):=by
  have:=yh (W2.alloc (.cells #[zv,yv, .bool s.bad] 42)) (.cells #[.slice (some ⟨W2.heap.size,0,none⟩) 1 1, .slice none 0 0, .slice none 0 0] 49)
  simpa using this
 have hF:∀k,XF (W2.heap.size+1) r (.slice (some ⟨W2.heap.size,0,none⟩) 1 1) (.slice none 0 0) (.slice none 0 0) (.slice none 0 0) k->k<W1.heap.size\/W2.heap.size<=k:=λk hk=>by
  have:=hb1.size
  unfold XF at hk
  simp [Value.ownBlock] at hk
  omega
 refine⟨zD hb hB,by have:=hb.size;omega,hr,h2,⟨rfl,λj hj=> ?_, ?_⟩,yX.nil _ _ _ _ _ _,yX.nil _ _ _ _ _ _,World.ownsRow_nil _ _ _ _⟩
 ·simp only [List.length_cons,List.length_nil] at hj
  obtain rfl:j=0:=by omega
  refine⟨rfl, ?_⟩
  have h3:zW (λk=>k<W1.heap.size) W2 (λy=>xV y s [zv,yv, .bool s.bad]):=λy hy=>⟨zv,yv,rfl,hst y hy⟩
  exact h3.step (G:=λ_=>False) (qF _ hB) (λ_ h=>h.elim) hF
 exact gK h1 hb.size rfl (by unfold maxLen;omega)
theorem zgt (w:World) (c:zI) (cv:Value) (d:Nat) (hc:yJ d w cv c.threads) (m:zG) (room:Int):
  Calls Tryz.prog 14 #[yO c cv,xO m, .int .i64 room] w (zd6 w (yT c m room d)):=by
 obtain⟨ca,cc,rfl, -⟩:=zh.slice hc
 obtain⟨mo,hmo⟩:∃mo,mo=jh c m:=⟨_,rfl⟩
 have hmay:=zhZ c ca cc d m
 rw [<-hmo] at hmay
 obtain⟨R,hR⟩:∃R,R=yT c m room d:=⟨_,rfl⟩
 obtain⟨S0,hS0⟩:∃S0,S0=vE c:=⟨_,rfl⟩
 have hR2:R=if mo=false\/room<1\/100000<room then(⟨[], [], []⟩,1) else zfn (vR c m d room (room.toNat+1) 0 [S0] [] []):=by rw [hR,hmo,hS0];rfl
 rw [<-hR]
 have hstart:=λW hc=>zr7 W c (.slice ca c.threads.length cc) d hc
 rw [<-hS0] at hstart
 have zd7:=λW hc s sv mv hs hb=>zqE W c (.slice ca c.threads.length cc) d hc m s sv mv hs hb
 have hdo:=λW hc s sv mv hs hb x=>zzo W c (.slice ca c.threads.length cc) d hc m s sv mv hs hb x
 have hsb:bE 33 S0:=by rw [hS0];exact zoN c
 obtain⟨C,hC⟩:∃C,C=c:=⟨_,rfl⟩
 obtain⟨M,hM⟩:∃M,M=m:=⟨_,rfl⟩
 rw [<-hC, <-hM] at hR2
 obtain⟨vars,dom,cs⟩:=c
 obtain⟨mod,bnd⟩:=m
 unfold yO xO
 unfold yO xO at zd7 hdo
 unfold yO at hstart
 simp only [] at hc hmay hstart zd7 hdo ⊢
 obtain⟨cn,hcn⟩:∃cn,cn=cs.length:=⟨_,rfl⟩
 rw [<-hcn] at hc hmay hstart zd7 hdo ⊢
 rw [<-hC, <-hM] at zd7 hdo
 obtain⟨hB,h1,h2,h3⟩:=zdQ w (.cells #[.int .i64 vars, .int .i64 dom, .slice ca cn cc] 26) (.cells #[.int .i64 mod, .int .i64 bnd] 29) (.cells #[.slice none 0 0, .slice none 0 0, .slice none 0 0] 49)
 have HB:=qh hB
 have H1:=qh h1
 have H2:=qh h2
 have H3:=qh h3
 have uL:=qh (zh.below (qo.stays d) hc hB)
 have zdo:=qh hmay
 have zlM:=qh hstart
 have HMV:=qh zd7
 have HDO:=qh hdo
 have HSB:=qh hsb
 have HRR:=qh hR2
 clear hC hM hcn hmay hstart zd7 hdo hsb hR2 hmo hR hS0 hB h1 h2 h3 hc
 go_enter Tryz.func14,Tryz.ntmps14
 go_upto_region 1 with fail
 generalize World.alloc (World.alloc (World.alloc w _) _) _=W at HB H1 H2 H3 uL ⊢
 obtain⟨gx,hgx⟩:∃gx,gx=w.heap.size:=⟨_,rfl⟩
 rw [<-hgx] at H1 H2 H3 ⊢
 have xD:=qh hgx
 clear hgx
 have qw:Hid (∀y,Below W.heap.size W y->y.cell? ⟨gx,0,none⟩=some (.int .i64 vars)/\y.cell? ⟨gx,1,none⟩=some (.int .i64 dom)/\y.cell? ⟨gx,2,none⟩=some (.slice ca cn cc)/\
   y.cell? ⟨gx+1,0,none⟩=some (.int .i64 mod)/\y.cell? ⟨gx+1,1,none⟩=some (.int .i64 bnd)):=λy hx=>
  ⟨zi hx _ _ (ze H1.out 0),zi hx _ _ (ze H1.out 1),zi hx _ _ (ze H1.out 2),zi hx _ _ (ze H2.out 0),zi hx _ _ (ze H2.out 1)⟩
 have zQ:Hid (∀y,Below W.heap.size W y->(y.cell? ⟨gx+2,0,none⟩=some (.slice none 0 0)/\y.cell? ⟨gx+2,1,none⟩=some (.slice none 0 0)/\y.cell? ⟨gx+2,2,none⟩=some (.slice none 0 0))/\
   (y.frozen? ⟨gx+2,0,none⟩=false/\y.frozen? ⟨gx+2,1,none⟩=false/\y.frozen? ⟨gx+2,2,none⟩=false)/\
   ∀a b c:Value,(((y.setCell ⟨gx+2,0,none⟩ a).setCell ⟨gx+2,1,none⟩ b).setCell ⟨gx+2,2,none⟩ c).heap[gx+2]? =some (.cells #[a,b,c] 49 (0,0))/\
    Since (λk=>k=gx+2) y (((y.setCell ⟨gx+2,0,none⟩ a).setCell ⟨gx+2,1,none⟩ b).setCell ⟨gx+2,2,none⟩ c)/\
    Below w.heap.size w (((y.setCell ⟨gx+2,0,none⟩ a).setCell ⟨gx+2,1,none⟩ b).setCell ⟨gx+2,2,none⟩ c)):=λy hy=>by
  have hres:=(hy.block _ (zx H3.out)).trans H3.out
  refine⟨⟨ze hres 0,ze hres 1,ze hres 2⟩,⟨zA hres 0,zA hres 1,zA hres 2⟩,λa b c=> ?_⟩
  have hset:=zu (zu (zu hres 0 a) 1 b) 2 c
  simp only [List.setIfInBounds_toArray,List.set_cons_zero,List.set_cons_succ] at hset
  have hS:Since (λk=>k=gx+2) y (((y.setCell ⟨gx+2,0,none⟩ a).setCell ⟨gx+2,1,none⟩ b).setCell ⟨gx+2,2,none⟩ c):=Since.setCell (F:=λk=>k=gx+2) (p:=⟨gx+2,2,none⟩) (Since.setCell (F:=λk=>k=gx+2) (p:=⟨gx+2,1,none⟩) (Since.setCell (F:=λk=>k=gx+2) (p:=⟨gx+2,0,none⟩) (Since.refl _ y) (.inl rfl) _) (.inl rfl) _) (.inl rfl) _
  exact⟨hset,hS,(HB.out.trans (hy.mono HB.out.size)).trans (hS.below (by have:=HB.out.size;have:=hy.size;omega) (λk e=>by have:=xD.out;omega))⟩
 obtain⟨c0,c1,c2,c3,c4⟩:=qw.out W (Below.refl _ _)
 go_wp2_with fail
 refine(zdo.out W uL.out).mono ?_
 rintro e W1 ⟨rfl,hb1⟩
 have HB1:=qh hb1
 clear hb1
 clear zdo
 have HBAD:Hid (mo=false\/room<1\/100000<room->R=(⟨[], [], []⟩,1)):=λh=>by rw [HRR.out,if_pos h]
 cases mo with
 |false=>
  have HR:=qh (HBAD.out (.inl rfl))
  clear HBAD HRR c0 c1 c2 c3 c4
  obtain⟨⟨q0,q1,q2⟩,⟨f0,f1,f2⟩,hend⟩:=zQ.out W1 HB1.out
  obtain⟨hset,hsn,hbe⟩:=hend (.slice none 0 0) (.slice none 0 0) (.slice none 0 0)
  have zL:=qh hset
  have yL:=qh hbe
  have xJ:=qh hsn
  clear hset hbe hend hsn
  go_wp2_with fail
  (try simp only [Exit.inBlock,Exit.then])
  refine bodyPost_ret (zB rfl _ _ (gx+2) 49 _ (0,0) _ rfl zL.out Tryz.underlying49 rfl kT) rfl ?_
  exact bQ HR.out yL.out
 |true=>
 by_cases hr1:room<1
 ·have HR:=qh (HBAD.out (.inr (.inl hr1)))
  clear HBAD HRR c0 c1 c2 c3 c4
  obtain⟨⟨q0,q1,q2⟩,⟨f0,f1,f2⟩,hend⟩:=zQ.out W1 HB1.out
  obtain⟨hset,hsn,hbe⟩:=hend (.slice none 0 0) (.slice none 0 0) (.slice none 0 0)
  have zL:=qh hset
  have yL:=qh hbe
  have xJ:=qh hsn
  clear hset hbe hend hsn
  go_wp2_with fail
  (try simp only [Exit.inBlock,Exit.then])
  refine bodyPost_ret (zB rfl _ _ (gx+2) 49 _ (0,0) _ rfl zL.out Tryz.underlying49 rfl kT) rfl ?_
  exact bQ HR.out yL.out
 by_cases hr2:100000<room
 ·have HR:=qh (HBAD.out (.inr (.inr hr2)))
  clear HBAD HRR c0 c1 c2 c3 c4
  obtain⟨⟨q0,q1,q2⟩,⟨f0,f1,f2⟩,hend⟩:=zQ.out W1 HB1.out
  obtain⟨hset,hsn,hbe⟩:=hend (.slice none 0 0) (.slice none 0 0) (.slice none 0 0)
  have zL:=qh hset
  have yL:=qh hbe
  have xJ:=qh hsn
  clear hset hbe hend hsn
  go_wp2_with fail
  (try simp only [Exit.inBlock,Exit.then])
  refine bodyPost_ret (zB rfl _ _ (gx+2) 49 _ (0,0) _ rfl zL.out Tryz.underlying49 rfl kT) rfl ?_
  exact bQ HR.out yL.out
 obtain⟨rm,rfl⟩:∃rm:Nat,room=rm:=⟨room.toNat,by omega⟩
 have HR0:Hid (R=zfn (vR C M d rm (rm+1) 0 [S0] [] [])):=by
  rw [Hid,HRR.out,if_neg]
  ·simp
  rintro(h|h|h)
  ·cases h
  ·exact hr1 h
  exact hr2 h
 clear HBAD HRR c0 c1 c2 c3 c4
 have hrm1:1<=rm:=by omega
 have zzp:rm<=100000:=by omega
 obtain⟨c0,c1,c2,c3,c4⟩:=qw.out W1 HB1.out
 go_upto_region 4 with(go_at_call 27;go_must(refine(zlM.out W1 (zh.below (qo.stays d) uL.out HB1.out)).mono ?_);rintro e W2 ⟨⟨zv,yv,rfl,hst⟩,hb2⟩;have HB2:=qh (zD HB1.out hb2);have HST:=qh hst;clear hst hb2;try unfold yE)
 have zzq:=zr6 (zx H3.out) HB1.out HB2.out HST.out
 have HXA:=qh zzq
 have hbs:∀j,j<1->bE 33 (([S0] :List zk).getD j default):=λj hj=>by
  obtain rfl:j=0:=by omega
  exact HSB.out
 have HBS:=qh hbs
 clear zzq hbs HB2 HST HB1 c0 c1 c2 c3 c4
 obtain⟨g7,hg7⟩:∃g,g=W2.heap.size:=⟨_,rfl⟩
 rw [<-hg7] at HXA ⊢
 clear hg7
 generalize World.alloc (World.alloc W2 _) _=X0 at HXA ⊢
 generalize g7+1=g8 at HXA ⊢
 go_wp2_with fail
 go_loopg [9] (rm+1) (λgg s9 wr=>∃(i:Nat) (sa ma na:Option Addr) (sn sc mc nc:Nat) (sl:List zk) (ml:List (List zq)) (nl:List (List Int)) (scc wK ncc:List (List Value)),i<=sn/\sn<=rm/\Hid (gg=rm+1 - i)/\s9= .int .i64 i/\Hid (kY W wr g8 (gx+2) (.slice sa sn sc) (.slice ma i mc) (.slice na i nc) (.slice none 0 0) sl ml nl [] scc wK ncc)/\Hid (sl.length=sn)/\Hid (ml.length=i)/\Hid (nl.length=i)/\Hid (R=zfn (vR C M d rm (rm+1 - i) i sl ml nl))/\Hid (∀j,j<sn->bE 33 (sl.getD j default)))
 case atStart=>exact⟨0,_,none,none,1,_,0,0, [S0], [], [],_, [], [],by omega,hrm1,rfl,rfl,HXA.out,rfl,rfl,rfl,HR0.out,HBS.out⟩
 case round=>
 obtain⟨i,sa,ma,na,sn,sc,mc,nc,sl,ml,nl,scc,wK,ncc,hi,hsn,HG,rfl,HXI,HSL,uT,HNL,HRI,HBI⟩:=hrel
 obtain⟨wo,rfl⟩:∃wo:World,wo=wr:=⟨_,rfl⟩
 have b0:=ze HXI.out.box 0
 by_cases hlt:i<sn
 rotate_left
 ·obtain rfl:i=sn:=by omega
  have hr:R=(⟨sl,ml,nl⟩,0):=by rw [HRI.out,show rm+1 - i=(rm - i)+1 by omega,zjR (by rw [HSL.out];omega)];rfl
  have HR:=qh hr
  have b1:=ze HXI.out.box 1
  have b2:=ze HXI.out.box 2
  have z5B:=qh HXI.out.below
  clear hr
  obtain⟨⟨q0,q1,q2⟩,⟨f0,f1,f2⟩,hend⟩:=zQ.out wo z5B.out
  obtain⟨hset,hsn,hbe⟩:=hend (.slice sa i sc) (.slice ma i mc) (.slice na i nc)
  have zL:=qh hset
  have yL:=qh hbe
  have xJ:=qh hsn
  clear hset hbe hend hsn
  go_wp2_with fail
  (try simp only [Exit.inBlock,Exit.then])
  refine bodyPost_ret (zB rfl _ _ (gx+2) 49 _ (0,0) _ rfl zL.out Tryz.underlying49 rfl kT) rfl ?_
  have hfin:=HXI.out.fin xJ.out
  refine⟨⟨_,_,_,by rw [HR.out];rfl, ?_⟩,yL.out⟩
  rw [HR.out]
  refine⟨hfin.now,hfin.mono (λk hk=>Nat.le_of_lt (by have:=xD.out;omega)),λa n c e=> ?_⟩
  obtain⟨a',c',he,hc, -⟩:=xu HXI.out.st.row
  cases e;cases he;exact hc
 have qA:(i:Int)<(sn:Int):=by omega
 obtain⟨eb,eo,tv,yv,yg, -,x0,x1,x2,hst⟩:=j6.part (HXI.out.st.slice) i (by rw [HSL.out];exact hlt)
 subst yg
 have hbi:=HBI.out i hlt
 obtain⟨s,hs⟩:∃s,s=sl.getD i default:=⟨_,rfl⟩
 rw [<-hs] at x2 hst hbi
 have HSI:=qh hs
 obtain⟨ta,tac,rfl, -⟩:=zh.slice hst.threads
 obtain⟨ya,yac,rfl, -⟩:=zh.slice hst.mem
 obtain⟨n1,hn1⟩:∃n,n=s.threads.length:=⟨_,rfl⟩
 obtain⟨n2,hn2⟩:∃n,n=s.mem.length:=⟨_,rfl⟩
 rw [<-hn1] at x0 hst
 rw [<-hn2] at x1 hst
 obtain⟨ms,hms⟩:∃ms,ms=qp C M s d:=⟨_,rfl⟩
 obtain⟨mn,hmn⟩:∃mn,mn=ms.length:=⟨_,rfl⟩
 have hml:mn<=132:=by rw [hmn,hms];exact zh8
 have hMV:∀y,Below wo.heap.size wo y->Calls Tryz.prog 29 #[.agg #[.int .i64 vars, .int .i64 dom, .slice ca cn cc], .agg #[.int .i64 mod, .int .i64 bnd], .agg #[.slice ta n1 tac, .slice ya n2 yac, .bool s.bad]] y λe w'=>(∃va vc,e= .returned (.slice va mn vc)/\w'.ownsRow y.heap.size 70 3 (.slice va mn vc) mn (zo zq.cells ms))/\Below y.heap.size y w':=λy hy=>by
  have:=HMV.out y (zh.below (qo.stays d) uL.out (zD HXI.out.below hy)) s (.slice ta n1 tac) (.slice ya n2 yac) (hst.below hy) (λj hj=>by have:=hbi j hj;omega)
  rw [<-hms] at this
  unfold zgP at this
  rw [<-hmn] at this
  exact this
 have zzr:=qh hMV
 have zp0:=qh hmn
 have HMS:=qh hms
 have C7:Hid (∀y,Below wo.heap.size wo y->y.cell? ⟨gx,0,none⟩=some (.int .i64 vars)/\y.cell? ⟨gx,1,none⟩=some (.int .i64 dom)/\y.cell? ⟨gx,2,none⟩=some (.slice ca cn cc)/\
   y.cell? ⟨gx+1,0,none⟩=some (.int .i64 mod)/\y.cell? ⟨gx+1,1,none⟩=some (.int .i64 bnd)/\y.cell? ⟨g8,0,none⟩=some (.slice (some ⟨eb,eo,none⟩) sn sc)/\y.cell? ⟨eb,eo+i*3,none⟩=some (.slice ta n1 tac)/\y.cell? ⟨eb,eo+i*3+1,none⟩=some (.slice ya n2 yac)/\y.cell? ⟨eb,eo+i*3+2,none⟩=some (.bool s.bad)):=λy hy=>by
  obtain⟨c0,c1,c2,c3,c4⟩:=qw.out y (zD HXI.out.below hy)
  exact⟨c0,c1,c2,c3,c4,zi hy _ _ b0,zi hy _ _ x0,zi hy _ _ x1,zi hy _ _ x2⟩
 clear hs hn1 hn2 hms hmn hMV hst x0 x1 x2 hbi
 go_upto_region 7 with fail
 clear b0
 refine vD (S:=λx=>Below wo.heap.size wo x) (Below.refl _ _).drew (λhH=> ?_)
 refine zw 0 C7.out ?_
 refine zw 1 C7.out ?_
 refine zw 2 C7.out ?_
 refine zw 3 C7.out ?_
 refine zw 4 C7.out ?_
 refine zw 5 C7.out ?_
 refine zw 6 C7.out ?_
 refine yj 7 rfl (λK hK=> ?_)
 go_simp
 refine(zzr.out wo.drew hH).mono ?_
 rintro e hw7 ⟨⟨va,vc,rfl,hmr⟩,hb⟩
 have HMR:=qh hmr
 have HMG:Hid (wo.heap.size<=wo.drew.heap.size):=(hH).size
 clear hmr
 have wu:Below wo.heap.size wo hw7:=zD hH hb
 refine hK.out _ _ wu (λ_=> ?_)
 clear hK K hb hH
 refine zw 8 C7.out ?_
 refine xP ?_
 have zR:=qh wu
 clear wu
 have hxm:=HXI.out.call zR.out
 have zzs:zW (XF g8 (gx+2) (.slice (some ⟨eb,eo,none⟩) sn sc) (.slice ma i mc) (.slice na i nc) (.slice none 0 0)) hw7 (λy=>vZ y (.slice va mn vc) ms):=λy hy=>zaz (by rw [<-zp0.out];exact hy.row HMR.out (λk hk e=>by have:=(HMR.out.lt k hk).1;have:=HXI.out.blocks k e;have:=HMG.out;omega))
 have HXM:=qh hxm
 have z5C:=qh zzs
 clear hxm zzs zzr C7
 go_wp2_with fail
 go_loopg [11,12] mn (λgg s11 s12 wr=>∃(k:Nat) (sa' xa:Option Addr) (vN sc' xc:Nat) (sl':List zk) (xl:List Int) (zbi:List (List Value)),k<=mn/\Hid (gg=mn - k)/\s11= .slice xa k xc/\s12= .int .i64 k/\i<vN/\vN<=rm/\Hid (kY W wr g8 (gx+2) (.slice sa' vN sc') (.slice ma i mc) (.slice na i nc) (.slice xa k xc) sl' ml nl xl zbi wK ncc)/\Hid (sl'.length=vN)/\Hid (xl.length=k)/\Hid (qC C M d rm s ms sl [] =qC C M d rm s (ms.drop k) sl' xl)/\Hid (zW (XF g8 (gx+2) (.slice sa' vN sc') (.slice ma i mc) (.slice na i nc) (.slice xa k xc)) wr (λy=>vZ y (.slice va mn vc) ms))/\Hid (∀j,j<vN->bE 33 (sl'.getD j default))/\Hid (sl'.getD i default=s))
 case atStart=>exact⟨0,_,none,sn,_,0,sl, [],_,Nat.zero_le _,rfl,rfl,rfl,hlt,hsn,HXM.out,HSL.out,rfl,rfl,z5C.out,HBI.out,HSI.out.symm⟩
 case round=>
 obtain⟨k,sa',xa,vN,sc',xc,sl',xl,zbi,hk,HG2,rfl,rfl,hin,zgX,HXK,zc0,HXL,HIN,HAK,kD,HSK⟩:=hrel
 obtain⟨jS,rfl⟩:∃jS:World,jS=wr:=⟨_,rfl⟩
 by_cases hkl:k<mn
 rotate_left
 ·obtain rfl:mn=k:=by omega
  have hin2:qC C M d rm s ms sl [] =some (sl',xl):=by rw [HIN.out,zp0.out,List.drop_length];rfl
  have zaj:R=zfn (vR C M d rm (rm+1 - (i+1)) (i+1) sl' (ml++ [ms]) (nl++ [xl])):=by
   rw [HRI.out,show rm+1 - i=(rm+1 - (i+1))+1 by omega,zcb (by rw [HSL.out];exact hlt), <-HSI.out, <-HMS.out,hin2]
  have qE:=qh zaj
  have hrow:=HXK.out.mo.row
  rw [uT.out] at hrow
  have qW:=qh hrow
  have hmv:zW (XF g8 (gx+2) (.slice sa' vN sc') (.slice ma i mc) (.slice na i nc) (.slice xa mn xc)) jS (λy=>bC y ms [.slice va mn vc]):=λy hy=>⟨_,rfl,HAK.out y hy⟩
  have z5D:=qh hmv
  clear hin2 zaj hrow hmv
  have b1:=ze HXK.out.box 1
  go_upto_region 21 with(at_builtin;go_must(refine zK _ rfl _ _ 46 rfl 32 (.slice none 0 0) 1 24 Tryz.underlying46 zbs rfl (by decide) W.heap.size (.slice ma i mc) i (wK.flatten) rfl ((qW.out).alloc _) ⟨jS.heap.size,0,none⟩ 1 1 [.slice va mn vc] rfl rfl (qJ _ [.slice va mn vc] _) (by simp [Value.oneCell']) (by unfold maxLen;omega) (by omega) (by have:=HXK.out.below.size;simp;omega) ?_);intro ja jc X f1 f2 f3 f4 f5 f6;have hbx:=zgW qW.out HXK.out.box (by decide) f4;have k0:=ze hbx 1;have z0:=zA hbx 1;have HP:=qh (HXK.out.z2y z5D.out rfl (by rw [uT.out];exact f1) f4 f5);clear f1 f2 f3 f4 f5 f6 hbx)
  clear b1 k0 z0
  generalize World.setCell X _ _=W9 at HP ⊢
  have hrow:=HP.out.ne.row
  rw [HNL.out] at hrow
  have zcT:=qh hrow
  clear hrow
  have b2:=ze HP.out.box 2
  go_wp2_with(at_builtin;go_must(refine zK _ rfl _ _ 47 rfl 31 (.slice none 0 0) 1 24 Tryz.underlying47 zca rfl (by decide) W.heap.size (.slice na i nc) i (ncc.flatten) rfl ((zcT.out).alloc _) ⟨W9.heap.size,0,none⟩ 1 1 [.slice xa mn xc] rfl rfl (qJ _ [.slice xa mn xc] _) (by simp [Value.oneCell']) (by unfold maxLen;omega) (by omega) (by have:=HP.out.below.size;simp;omega) ?_);intro jb kc X2 f1 f2 f3 f4 f5 f6;have hbx:=zgW zcT.out HP.out.box (by decide) f4;have k0:=ze hbx 2;have z0:=zA hbx 2;have HP2:=qh (HP.out.z2z (by rw [HNL.out];exact f1) f4 f5);clear f1 f2 f3 f4 f5 f6 hbx)
  go_roundg (rm+1 - (i+1))
  case measure=>rw [HG.out];omega
  case rel=>exact⟨i+1,sa',ja,jb,vN,sc',jc,kc,sl',ml++ [ms],nl++ [xl],zbi,_,_,by omega,zgX,rfl,by simp,HP2.out,zc0.out,by rw [Hid,List.length_append,uT.out];rfl,by rw [Hid,List.length_append,HNL.out];rfl,qE.out,kD.out⟩
 have zoM:(k:Int)<(mn:Int):=by omega
 have z5r:(i:Int)<(vN:Int):=by omega
 have b0:=ze HXK.out.box 0
 obtain⟨eb',eo',tv,yv,yg, -,x0,x1,x2,hst⟩:=j6.part (HXK.out.st.slice) i (by rw [zc0.out];exact hin)
 subst yg
 have hbi:=kD.out i hin
 rw [HSK.out] at x2 hst hbi
 obtain⟨ta',tac',rfl, -⟩:=zh.slice hst.threads
 obtain⟨ya',zul,rfl, -⟩:=zh.slice hst.mem
 obtain⟨n1',hn1⟩:∃n,n=s.threads.length:=⟨_,rfl⟩
 obtain⟨n2',hn2⟩:∃n,n=s.mem.length:=⟨_,rfl⟩
 rw [<-hn1] at x0 hst
 rw [<-hn2] at x1 hst
 obtain⟨mb,mo',hma, -,m0,m1,m2⟩:=vZ.part HAK.out.now k (by rw [<-zp0.out];exact hkl)
 have zzv:=hma
 obtain⟨x,hx⟩:∃x,x=ms.getD k default:=⟨_,rfl⟩
 rw [<-hx] at m0 m1 m2
 obtain⟨kd,th,vr⟩:=x
 simp only [] at m0 m1 m2
 obtain⟨⟨tt,er⟩,hdd⟩:∃p,p=kK C M s ⟨kd,th,vr⟩ d:=⟨_,rfl⟩
 have zzw:Hid (qC C M d rm s ms sl [] =if (rm:Int)<=((putAt sl' tt).2:Int) then none else qC C M d rm s (ms.drop (k+1)) (putAt sl' tt).1 (xl++ [((putAt sl' tt).2:Int)])):=by
  rw [Hid,HIN.out,zhY (by rw [<-zp0.out];exact hkl), <-hx, <-hdd]
 have hbt:bE 33 tt:=by have:=zxC (c:=C) (m:=M) (s:=s) (x:=⟨kd,th,vr⟩) (d:=d);rw [<-hdd] at this;exact this
 have hDO:∀y,Below jS.heap.size jS y->Calls Tryz.prog 28 #[.agg #[.int .i64 vars, .int .i64 dom, .slice ca cn cc], .agg #[.int .i64 mod, .int .i64 bnd], .agg #[.slice ta' n1' tac', .slice ya' n2' zul, .bool s.bad], .agg #[.int .i64 kd, .int .i64 th, .int .i64 vr]] y (zkP y (tt,er)):=λy hy=>by
  rw [hdd]
  exact HDO.out y (zh.below (qo.stays d) uL.out (zD HXK.out.below hy)) s (.slice ta' n1' tac') (.slice ya' n2' zul) (hst.below hy) (λj hj=>by have:=hbi j hj;omega) ⟨kd,th,vr⟩
 have zum:=qh hDO
 have HBT:=qh hbt
 have HMA:=qh zzv
 subst hma
 have C12:Hid (∀y,Below jS.heap.size jS y->y.cell? ⟨gx,0,none⟩=some (.int .i64 vars)/\y.cell? ⟨gx,1,none⟩=some (.int .i64 dom)/\y.cell? ⟨gx,2,none⟩=some (.slice ca cn cc)/\
   y.cell? ⟨gx+1,0,none⟩=some (.int .i64 mod)/\y.cell? ⟨gx+1,1,none⟩=some (.int .i64 bnd)/\y.cell? ⟨g8,0,none⟩=some (.slice (some ⟨eb',eo',none⟩) vN sc')/\y.cell? ⟨eb',eo'+i*3,none⟩=some (.slice ta' n1' tac')/\y.cell? ⟨eb',eo'+i*3+1,none⟩=some (.slice ya' n2' zul)/\y.cell? ⟨eb',eo'+i*3+2,none⟩=some (.bool s.bad)/\
   y.cell? ⟨mb,mo'+k*3,none⟩=some (.int .i64 kd)/\y.cell? ⟨mb,mo'+k*3+1,none⟩=some (.int .i64 th)/\y.cell? ⟨mb,mo'+k*3+2,none⟩=some (.int .i64 vr)):=λy hy=>by
  obtain⟨c0,c1,c2,c3,c4⟩:=qw.out y (zD HXK.out.below hy)
  exact⟨c0,c1,c2,c3,c4,zi hy _ _ b0,zi hy _ _ x0,zi hy _ _ x1,zi hy _ _ x2,zi hy _ _ m0,zi hy _ _ m1,zi hy _ _ m2⟩
 clear hn1 hn2 hdd hbt hDO hst x0 x1 x2 m0 m1 m2 hbi b0 zzv hx
 go_upto_region 12 with fail
 go_cut [13] (λs13 w'=>∃(tb:Nat) (za zb:Option Addr) (zn zc yn yc:Nat),s13= .pointer (some ⟨tb,0,none⟩)/\Hid (Below jS.heap.size jS w')/\Hid (w'.heap[tb]? =some (.cells #[.slice za zn zc, .slice zb yn yc, .bool tt.bad] 42 (0,0)))/\Hid (jS.heap.size<=tb)/\Hid (zW (λk=>k<jS.heap.size\/k=tb) w' (λy=>xV y tt [.slice za zn zc, .slice zb yn yc, .bool tt.bad])))
 case first=>
  have hT0:=qh (Loc.start jS).drew
  refine vD (S:=λx=>Below jS.heap.size jS x) (Below.refl _ _).drew (λ_=> ?_)
  obtain⟨wd,hwd⟩:∃wd,wd=jS.drew:=⟨_,rfl⟩
  rw [<-hwd] at hT0 ⊢
  clear hwd
  refine zC 0 C12.out (hT0.out.below) ?_
  refine zC 1 C12.out (hT0.out.below) ?_
  refine zC 2 zO (hT0.out.below) ?_
  refine zC 3 C12.out (hT0.out.below) ?_
  refine zC 4 zO (hT0.out.below) ?_
  refine zC 5 zO (hT0.out.below) ?_
  refine zC 6 C12.out (hT0.out.below) ?_
  refine zC 7 zO (hT0.out.below) ?_
  refine zC 8 zO (hT0.out.below) ?_
  refine zC 9 zO (hT0.out.below) ?_
  refine zC 10 C12.out (hT0.out.below) ?_
  refine wpAnyH_ready (rs:= [11,15]) (by kernel_rfl) (by simp) ?_
  refine AllReadyH.cons rfl (λK hK=> ?_) (AllReadyH.cons rfl (λK hK=> ?_) AllReadyH.nil)
  ·skip
   go_simp
   refine(zum.out wd (hT0.out.below)).mono ?_
   rintro e Xe2 ⟨⟨xa,xn,xc,ya,yn,yc,bs,rfl,hown⟩,hb⟩
   have zlR:=qh (hT0.out.later hb)
   have hog:jS.heap.size<=wd.heap.size:=(hT0.out.below).size
   have HAW:Hid (zW (λk=>k<jS.heap.size) Xe2 (λy=>xV y tt [.slice xa xn xc, .slice ya yn yc, .bool tt.bad])):=zld hown (λk hk=>by omega)
   clear hb hown hog
   try unfold yE
   refine hK.out _ _ zlR.out.below (λ_=> ?_)
   clear hK K
   refine zC 12 zO (zlR.out.below) ?_
   refine zC 13 zO (zlR.out.below) ?_
   refine zC 14 zO (zlR.out.below) ?_
   refine yj 15 rfl (λK hK=> ?_)
   go_simp
   have hAW:zW (λk=>k<jS.heap.size\/k=Xe2.heap.size) (Xe2.alloc (.cells ([.slice none 0 0, .slice none 0 0, .bool false] :List Value).toArray 42)) (λy=>xV y tt [.slice xa xn xc, .slice ya yn yc, .bool tt.bad]):=HAW.out.step (G:=λ_=>False) (qF _ ((Below.refl Xe2.heap.size Xe2).alloc (Nat.le_refl _) _)) (λ_ h=>h.elim) (λk hk=>by omega)
   clear HAW
   have zgY:=zlR.out.alloc 42 [.slice none 0 0, .slice none 0 0, .bool false]
   refine hK.out _ _ zgY.below (λ_=> ?_)
   obtain⟨tb,htb⟩:∃n,n=Xe2.heap.size:=⟨_,rfl⟩
   rw [<-htb] at zgY hAW ⊢
   clear htb
   generalize World.alloc Xe2 _=Xe4 at zgY hAW ⊢
   replace zgY:=qh zgY
   replace hAW:=qh hAW
   have HAW:=hAW
   clear hAW
   clear hK K
   refine yj 16 rfl (λK hK=> ?_)
   obtain⟨hn, -⟩:=zgY.out.news (tb,42, [.slice none 0 0, .slice none 0 0, .bool false]) (List.mem_cons_self ..)
   have d0:=ze hn 0
   have f0:=zA hn 0
   have d1:=ze hn 1
   have f1:=zA hn 1
   have d2:=ze hn 2
   have f2:=zA hn 2
   clear hn
   have zgZ:=zgY.out.store (g:=tb) (t:=42) (cs:= [.slice none 0 0, .slice none 0 0, .bool false]) (List.mem_cons_self ..) [.slice xa xn xc, .slice ya yn yc, .bool tt.bad] rfl
   replace zgZ:=qh zgZ
   go_simp
   clear d0 f0 d1 f1 d2 f2
   refine hK.out _ (yF Xe4 tb 0 [.slice xa xn xc, .slice ya yn yc, .bool tt.bad]) zgZ.out.below (λ_=> ?_)
   have hAW:zW (λk=>k<jS.heap.size\/k=tb) (yF Xe4 tb 0 [.slice xa xn xc, .slice ya yn yc, .bool tt.bad]) (λy=>xV y tt [.slice xa xn xc, .slice ya yn yc, .bool tt.bad]):=HAW.out.step (xW _ _ _) (λk hk=> .inl (.inr hk)) (λk hk=> .inl hk)
   clear HAW
   generalize yF Xe4 tb 0 _=Xe6 at zgZ hAW ⊢
   replace hAW:=qh hAW
   clear hK K
   refine zC 17 zO (zgZ.out.below) ?_
   refine xP ?_
   obtain⟨hx,hxl⟩:=zgZ.out.news (tb,42, [.slice xa xn xc, .slice ya yn yc, .bool tt.bad]) (uP (List.mem_cons_self ..))
   have HXX:=qh hx
   have HXL:=qh hxl
   clear hx hxl
   go_wp2_with fail
   go_meet
   case rel=>exact⟨tb,xa,ya,xn,xc,yn,yc,rfl,zgZ.out.below,HXX.out,HXL.out,hAW.out⟩
  skip
  go_simp
  have zei:=hT0.out.alloc 42 [.slice none 0 0, .slice none 0 0, .bool false]
  refine hK.out _ _ zei.below (λ_=> ?_)
  obtain⟨tb,htb⟩:∃n,n=wd.heap.size:=⟨_,rfl⟩
  rw [<-htb] at zei ⊢
  clear htb
  generalize World.alloc wd _=Xe8 at zei ⊢
  replace zei:=qh zei
  clear hK K
  refine yj 11 rfl (λK hK=> ?_)
  go_simp
  refine(zum.out Xe8 (zei.out.below)).mono ?_
  rintro e zp1 ⟨⟨xa,xn,xc,ya,yn,yc,bs,rfl,hown⟩,hb⟩
  have zjt:=qh (zei.out.later hb)
  have hog:jS.heap.size<=Xe8.heap.size:=(zei.out.below).size
  have htb:=zx (zei.out.news (tb,42, [.slice none 0 0, .slice none 0 0, .bool false]) (List.mem_cons_self ..)).1
  simp only [] at htb
  have HAW:Hid (zW (λk=>k<jS.heap.size\/k=tb) zp1 (λy=>xV y tt [.slice xa xn xc, .slice ya yn yc, .bool tt.bad])):=zld hown (λk hk=>by omega)
  clear htb
  clear hb hown hog
  try unfold yE
  refine hK.out _ _ zjt.out.below (λ_=> ?_)
  clear hK K
  refine zC 12 zO (zjt.out.below) ?_
  refine zC 13 zO (zjt.out.below) ?_
  refine zC 14 zO (zjt.out.below) ?_
  refine yj 16 rfl (λK hK=> ?_)
  obtain⟨hn, -⟩:=zjt.out.news (tb,42, [.slice none 0 0, .slice none 0 0, .bool false]) (List.mem_cons_self ..)
  have d0:=ze hn 0
  have f0:=zA hn 0
  have d1:=ze hn 1
  have f1:=zA hn 1
  have d2:=ze hn 2
  have f2:=zA hn 2
  clear hn
  have zej:=zjt.out.store (g:=tb) (t:=42) (cs:= [.slice none 0 0, .slice none 0 0, .bool false]) (List.mem_cons_self ..) [.slice xa xn xc, .slice ya yn yc, .bool tt.bad] rfl
  replace zej:=qh zej
  go_simp
  clear d0 f0 d1 f1 d2 f2
  refine hK.out _ (yF zp1 tb 0 [.slice xa xn xc, .slice ya yn yc, .bool tt.bad]) zej.out.below (λ_=> ?_)
  have hAW:zW (λk=>k<jS.heap.size\/k=tb) (yF zp1 tb 0 [.slice xa xn xc, .slice ya yn yc, .bool tt.bad]) (λy=>xV y tt [.slice xa xn xc, .slice ya yn yc, .bool tt.bad]):=HAW.out.step (xW _ _ _) (λk hk=> .inl (.inr hk)) (λk hk=> .inl hk)
  clear HAW
  generalize yF zp1 tb 0 _=z9S at zej hAW ⊢
  replace hAW:=qh hAW
  clear hK K
  refine zC 17 zO (zej.out.below) ?_
  refine xP ?_
  obtain⟨hx,hxl⟩:=zej.out.news (tb,42, [.slice xa xn xc, .slice ya yn yc, .bool tt.bad]) (uP (List.mem_cons_self ..))
  have HXX:=qh hx
  have HXL:=qh hxl
  clear hx hxl
  go_wp2_with fail
  go_meet
  case rel=>exact⟨tb,xa,ya,xn,xc,yn,yc,rfl,zej.out.below,HXX.out,HXL.out,hAW.out⟩
 case rest=>
 obtain⟨tb,za,zb,zn,zc,yn,yc,rfl,HB2,HTB,HTL,HAT⟩:=hcut
 obtain⟨W6,rfl⟩:∃W6:World,W6=wc:=⟨_,rfl⟩
 have HX6:=qh (HXK.out.call HB2.out)
 have HA6:Hid (zW (XF g8 (gx+2) (.slice (some ⟨eb',eo',none⟩) vN sc') (.slice ma i mc) (.slice na i nc) (.slice xa k xc)) W6 (λy=>vZ y (.slice (some ⟨mb,mo',none⟩) mn vc) ms)):=HAK.out.step (G:=λ_=>False) (qF _ HB2.out) (λ_ h=>h.elim) (λ_ h=> .inl h)
 have HT6:Hid (zW (XF g8 (gx+2) (.slice (some ⟨eb',eo',none⟩) vN sc') (.slice ma i mc) (.slice na i nc) (.slice xa k xc)) W6 (λy=>xV y tt [.slice za zn zc, .slice zb yn yc, .bool tt.bad])):=HAT.out.step (F':=XF g8 (gx+2) (.slice (some ⟨eb',eo',none⟩) vN sc') (.slice ma i mc) (.slice na i nc) (.slice xa k xc)) (G:=λ_=>False) (Since.refl _ _) (λ_ h=>h.elim) (λk h=> .inl (.inl (HXK.out.blocks k h)))
 have zun:∀y,Below W6.heap.size W6 y->Calls Tryz.prog 30 #[.slice (some ⟨eb',eo',none⟩) vN sc', .agg #[.slice za zn zc, .slice zb yn yc, .bool tt.bad]] y λe w'=>e= .returned (.int .i64 (atS sl' tt))/\Below y.heap.size y w':=λy hy=>by
  obtain⟨tv,mv,he,hs6⟩:=HT6.out.now
  simp only [List.cons.injEq,and_true] at he
  obtain⟨rfl,rfl⟩:=he
  exact zzy y sl' _ (zh.below xV.stays HX6.out.st.slice hy) tt _ _ (hs6.below hy)
 obtain⟨nn,hnn⟩:∃nn,nn=atS sl' tt:=⟨_,rfl⟩
 rw [<-hnn] at zun
 have zz0:=qh zun
 have HNN:=qh hnn
 clear zun hnn HAT HAK HXK zum C12
 have b0:=ze HX6.out.box 0
 have t0:=ze HTB.out 0
 have t1:=ze HTB.out 1
 have t2:=ze HTB.out 2
 go_upto_region 14 with(go_at_call 30;go_must(refine(zz0.out W6 (Below.refl _ _)).mono ?_);rintro e W7 ⟨rfl,hb7⟩;have HB7:=qh hb7;clear hb7)
 have HX7:=qh (HX6.out.call HB7.out)
 have HA7:=qh (HA6.out.step (F':=XF g8 (gx+2) (.slice (some ⟨eb',eo',none⟩) vN sc') (.slice ma i mc) (.slice na i nc) (.slice xa k xc)) (G:=λ_=>False) (qF _ HB7.out) (λ_ h=>h.elim) (λ_ h=> .inl h))
 have HT7:=qh (HT6.out.step (F':=XF g8 (gx+2) (.slice (some ⟨eb',eo',none⟩) vN sc') (.slice ma i mc) (.slice na i nc) (.slice xa k xc)) (G:=λ_=>False) (qF _ HB7.out) (λ_ h=>h.elim) (λ_ h=> .inl h))
 have zp2:=qh ((HB7.out.block _ (zx HTB.out)).trans HTB.out)
 clear b0 t0 t1 t2 HX6 HA6 HT6 HTB zz0
 go_upto_if 74 with fail
 go_cut [15] (λs15 w'=>∃(pn ps pc:Nat) (pa:Option Addr) (pl:List zk) (pcc:List (List Value)),s15= .int .i64 pn/\Hid (kY W w' g8 (gx+2) (.slice pa ps pc) (.slice ma i mc) (.slice na i nc) (.slice xa k xc) pl ml nl xl pcc wK ncc)/\Hid (pl.length=ps)/\Hid ((pl,pn)=putAt sl' tt)/\Hid (zW (XF g8 (gx+2) (.slice pa ps pc) (.slice ma i mc) (.slice na i nc) (.slice xa k xc)) w' (λy=>vZ y (.slice (some ⟨mb,mo',none⟩) mn vc) ms)))
 case first=>
  by_cases hneg:nn<0
  rotate_left
  ·obtain⟨q,rfl⟩:∃q:Nat,nn=q:=⟨nn.toNat,by omega⟩
   have hput:putAt sl' tt=(sl',q):=by rw [zlS, <-HNN.out,if_neg hneg];rfl
   have kI:=qh hput
   clear hput
   have hqn:((q:Int)<0)=False:=by simp
   go_wp2_with fail
   go_meet
   case rel=>exact⟨q,vN,sc',_,sl',_,rfl,HX7.out,zc0.out,kI.out.symm,HA7.out⟩
  have hput:putAt sl' tt=(sl'++ [tt],vN):=by rw [zlS, <-HNN.out,if_pos hneg,zc0.out]
  have hrow:=HX7.out.st.row
  rw [zc0.out] at hrow
  have qW:=qh hrow
  have kI:=qh hput
  clear hrow hput
  have b0:=ze HX7.out.box 0
  have t0:=ze zp2.out 0
  have t1:=ze zp2.out 1
  have t2:=ze zp2.out 2
  go_wp2_with(at_builtin;go_must(refine zK _ rfl _ _ 45 rfl 42 (.agg #[.slice none 0 0, .slice none 0 0, .bool false]) 3 56 Tryz.underlying45 pJ rfl (by decide) W.heap.size (.slice (some ⟨eb',eo',none⟩) vN sc') vN (zbi.flatten) rfl ((qW.out).alloc _) ⟨W7.heap.size,0,none⟩ 1 1 [.slice za zn zc, .slice zb yn yc, .bool tt.bad] rfl rfl (qJ _ [.slice za zn zc, .slice zb yn yc, .bool tt.bad] _) (by simp [Value.oneCell']) (by unfold maxLen;omega) (by omega) (by have:=HX7.out.below.size;simp;omega) ?_);intro ja jc X f1 f2 f3 f4 f5 f6;have hbx:=zgW qW.out HX7.out.box (by decide) f4;have k0:=ze hbx 0;have z0:=zA hbx 0;have HP:=qh (HX7.out.zkJ HT7.out rfl (by rw [zc0.out];exact f1) f4 f5);have HA8:=qh (HA7.out.step (HX7.out.zxM f4 (.slice ja (vN+1) jc)) (λk hk=> .inl hk) (HX7.out.z5z f5));clear f1 f2 f3 f4 f5 f6 hbx)
  go_meet
  case rel=>exact⟨vN,vN+1,jc,ja,sl'++ [tt],_,rfl,HP.out,by rw [Hid,List.length_append,zc0.out];rfl,kI.out.symm,HA8.out⟩
 case rest=>
 obtain⟨pn,ps,pc,pa,pl,pcc,rfl,HX8,jP,kI,HA8⟩:=hcut
 obtain⟨W8,rfl⟩:∃W8:World,W8=wc:=⟨_,rfl⟩
 clear HX7 HA7 HT7 zp2 HB7 HB2 HNN
 by_cases hfull:(rm:Int)<=(pn:Int)
 ·have hr:R=(⟨[], [], []⟩,40):=by
   rw [HRI.out,show rm+1 - i=(rm - i)+1 by omega,zcb (by rw [HSL.out];exact hlt), <-HSI.out, <-HMS.out,zzw.out, <-kI.out,if_pos hfull];rfl
  have HR:=qh hr
  have HB8:=qh HX8.out.below
  clear hr
  obtain⟨⟨q0,q1,q2⟩,⟨f0,f1,f2⟩,hend⟩:=zQ.out W8 HB8.out
  obtain⟨hset,hsn,hbe⟩:=hend (.slice none 0 0) (.slice none 0 0) (.slice none 0 0)
  have zL:=qh hset
  have yL:=qh hbe
  have xJ:=qh hsn
  clear hset hbe hend hsn
  go_wp2_with fail
  (try simp only [Exit.inBlock,Exit.then])
  refine bodyPost_ret (zB rfl _ _ (gx+2) 49 _ (0,0) _ rfl zL.out Tryz.underlying49 rfl kT) rfl ?_
  exact bQ HR.out yL.out
 have z5E:Hid (qC C M d rm s ms sl [] =qC C M d rm s (ms.drop (k+1)) pl (xl++ [(pn:Int)])):=by rw [Hid,zzw.out, <-kI.out,if_neg hfull]
 have hps:ps<=rm/\i<ps:=by
  have h1:=zqL sl' tt
  rw [<-kI.out,zc0.out] at h1
  simp only [] at h1
  rw [jP.out] at h1
  omega
 obtain⟨z5F,z5G⟩:=hps
 have hpc:=zny sl' tt
 rw [<-kI.out] at hpc
 simp only [] at hpc
 have hbp:∀j,j<ps->bE 33 (pl.getD j default):=λj hj=>by
  rcases hpc with e|e
  ·rw [e];exact kD.out j (by rw [<-zc0.out, <-e,jP.out];exact hj)
  rw [e]
  by_cases e2:j=sl'.length
  ·subst e2;rw [jU];exact HBT.out
  have hj2:j<sl'.length:=by rw [<-jP.out,e,List.length_append] at hj;simp only [List.length_cons,List.length_nil] at hj;omega
  rw [j4 hj2];exact kD.out j (by rw [<-zc0.out];exact hj2)
 have hsp:pl.getD i default=s:=by
  rcases hpc with e|e
  ·rw [e];exact HSK.out
  rw [e,j4 (by rw [zc0.out];exact hin)];exact HSK.out
 have HBP:=qh hbp
 have HSP:=qh hsp
 have hrow:=HX8.out.xr
 rw [HXL.out] at hrow
 have qW:=qh hrow
 clear hpc hbp hsp hrow
 go_wp2_with(at_builtin;go_must(refine zK _ rfl _ _ 31 rfl 3 (.int .i64 0) 1 8 Tryz.underlying31 qX rfl (by decide) W.heap.size (.slice xa k xc) k (zo yP xl) rfl ((qW.out).alloc _) ⟨W8.heap.size,0,none⟩ 1 1 [.int .i64 pn] rfl rfl (qJ _ [.int .i64 pn] _) (by simp [Value.oneCell']) (by unfold maxLen;omega) (by omega) (by have:=HX8.out.below.size;simp;omega) ?_);intro ja jc X f1 f2 f3 f4 f5 f6;have HP:=qh (HX8.out.zkK (by rw [HXL.out];exact f1) f4 f5);have HA9:=qh (HA8.out.step (HX8.out.zxN f4) (λk hk=> .inl hk) (HX8.out.z5A f5));clear f1 f2 f3 f4 f5 f6)
 go_roundg (mn - (k+1))
 case measure=>rw [HG2.out];omega
 case rel=>exact⟨k+1,pa,ja,ps,pc,jc,pl,xl++ [(pn:Int)],pcc,by omega,rfl,rfl,by simp,z5G,z5F,HP.out,jP.out,by rw [Hid,List.length_append,HXL.out];rfl,z5E.out,HA9.out,HBP.out,HSP.out⟩
