/- Steps. -/
import Derived.Test.YtnhahkiojbanfaaGreatDoorRsDo
import Derived.Test.YtnhahkiojbanfaaGreatDoorRsExpQ
import Derived.Test.YtnhahkiojbanfaaGreatDoorRsSame7
import Derived.Test.YtnhahkiojbanfaaGreatDoorRsStart
set_option linter.all false
namespace Go.Proofs.YtnhahkiojbanfaaGreatDoor
open Go.RowKit
set_option maxRecDepth 100000
set_option maxHeartbeats 16000000
theorem kR:(Tryz.prog.info? 49).map (·.size)=some 3:=by kernel_rfl
theorem zbx:(Tryz.prog.info? 32).map (λi=>(i.zero,i.size,i.bytes))=some (some (.slice none 0 0),1,24):=by kernel_rfl
theorem zcc:(Tryz.prog.info? 31).map (λi=>(i.zero,i.size,i.bytes))=some (some (.slice none 0 0),1,24):=by kernel_rfl
def wM (w:World) (s:yH) (sv mv nv:Value):Prop:=kH w sv s.states/\zh bL 1 w mv s.moves/\zh zbw 1 w nv s.next
theorem wM.below {w w':World} {s:yH} {sv mv nv:Value} (h:wM w s sv mv nv) (hb:Below w.heap.size w w'):wM w' s sv mv nv:=⟨zh.below qo.stays h.1 hb,zh.below bL.stays h.2.1 hb,zh.below zbw.stays h.2.2 hb⟩
theorem zW.mono {F G:Nat->Prop} {X:World} {P:World->Prop} (h:zW F X P) (hF:∀k,G k->F k):zW G X P:=h.step (Since.refl (λ_=>False) X) (λ_ h=>h.elim) (λk hk=> .inl (hF k hk))
def zcu (w:World) (r:yH × Int) (e:Ending) (w':World):Prop:=(∃sv mv nv,e= .returned (.tuple #[.agg #[sv,mv,nv], .int .i64 r.2])/\wM w' r.1 sv mv nv/\zW (λk=>k<w.heap.size) w' (λy=>wM y r.1 sv mv nv)/\∀a n c,sv= .slice a n c->n<=c)/\Below w.heap.size w w'
theorem bQ {w w':World} {r:yH × Int} {k:Int} (h:r=(⟨[], [], []⟩,k)) (hb:Below w.heap.size w w'):zcu w r (.returned (.tuple #[.agg #[.slice none 0 0, .slice none 0 0, .slice none 0 0], .int .i64 k])) w':=by
 subst h;exact⟨⟨_,_,_,rfl,⟨zh.nil _,zh.nil _,zh.nil _⟩,λ_ _=>⟨zh.nil _,zh.nil _,zh.nil _⟩,λa n c e=>by cases e;exact Nat.le_refl _⟩,hb⟩
def zft (o:Option yH):yH × Int:=match o with|some s=>(s,0)|none=>(⟨[], [], []⟩,40)
theorem zih {c:zD} {m:zy} {d:Nat} {room:Int} {s:zi} {ms:List zq} {k:Nat} (hk:k<ms.length) (l:List zi) (nx:List Int):xX c m d room s (ms.drop k) l nx=
  if room<=((putAt l (qB c m s (ms.getD k default) d).1).2:Int) then none else xX c m d room s (ms.drop (k+1)) (putAt l (qB c m s (ms.getD k default) d).1).1 (nx++ [((putAt l (qB c m s (ms.getD k default) d).1).2:Int)]):=by
 have h:ms.drop k=ms.getD k default::ms.drop (k+1):=by
  rw [List.getD_eq_getElem?_getD,List.getElem?_eq_getElem hk];exact(List.drop_eq_getElem_cons hk)
 rw [h];rfl
theorem zcd {c:zD} {m:zy} {d:Nat} {room:Int} {f i:Nat} {l:List zi} {ml:List (List zq)} {nl:List (List Int)} (hi:i<l.length):qO c m d room (f+1) i l ml nl=
  match xX c m d room (l.getD i default) (xH c m (l.getD i default) d) l [] with
  |none=>none
  |some r=>qO c m d room f (i+1) r.1 (ml++ [xH c m (l.getD i default) d]) (nl++ [r.2]):=by
 show(if i<l.length then _ else _)=_
 rw [if_pos hi]
 rfl
theorem zjQ {c:zD} {m:zy} {d:Nat} {room:Int} {f i:Nat} {l:List zi} {ml:List (List zq)} {nl:List (List Int)} (hi:¬i<l.length):qO c m d room (f+1) i l ml nl=some ⟨l,ml,nl⟩:=by
 unfold qO
 rw [if_neg hi]
section
variable {W X X1:World} {g r:Nat} {sv mv nv xv:Value} {sl:List zi} {ml:List (List zq)} {nl:List (List Int)} {xl:List Int} {sc mc nc:List (List Value)}
theorem zhn {B e size n g:Nat} {v:Value} {xs:List Value} {c:Array Value} {t:TypeId} {f:Nat × Nat} {o:Obj} (h:X.ownsRow B e size v n xs) (hb:X.heap[g]? =some (.cells c t f)) (hne:e≠t) (h4:Since (λk=>v.ownBlock=some k) (X.alloc o) X1):X1.heap[g]? =some (.cells c t f):=
 ((((Since.refl _ X).alloc o).trans h4 (λ_ hk=> .inl hk):Since (λk=>v.ownBlock=some k) X X1).block _ (zw hb) (λe=>yD h hb hne _ e rfl)).trans hb
theorem wz.zxV (_:wz W X g r sv mv nv xv sl ml nl xl sc mc nc) {o:Obj} (h4:Since (λk=>sv.ownBlock=some k) (X.alloc o) X1) (v:Value):Since (XF g r sv mv nv xv) X (X1.setCell ⟨g,0,none⟩ v):=
 ((((Since.refl _ X).alloc o).trans h4 (λ_ hk=> .inl hk):Since (λk=>sv.ownBlock=some k) X X1).mono (G:=XF g r sv mv nv xv) (λ_ _ h=> .inr (.inl h))).setCell (p:=⟨g,0,none⟩) (.inl (.inl (.inl rfl))) _
theorem wz.zxW (_:wz W X g r sv mv nv xv sl ml nl xl sc mc nc) {o:Obj} (h4:Since (λk=>xv.ownBlock=some k) (X.alloc o) X1):Since (XF g r sv mv nv xv) X X1:=
 (((Since.refl _ X).alloc o).trans h4 (λ_ hk=> .inl hk):Since (λk=>xv.ownBlock=some k) X X1).mono (G:=XF g r sv mv nv xv) (λ_ _ h=> .inr (.inr (.inr (.inr h))))
theorem wz.z5y (_:wz W X g r sv mv nv xv sl ml nl xl sc mc nc) {o:Obj} {uo:Value} (h5:∀k,uo.ownBlock=some k->sv.ownBlock=some k\/k=(X.alloc o).heap.size):∀k,XF g r uo mv nv xv k->XF g r sv mv nv xv k\/X.heap.size<=k:=λk hk=>by
 rcases hk with hk|hk|hk
 ·exact .inl (.inl hk)
 ·rcases h5 k hk with h6|h6
  ·exact .inl (.inr (.inl h6))
  refine .inr ?_;simp at h6;omega
 exact .inl (.inr (.inr hk))
theorem wz.z5z (_:wz W X g r sv mv nv xv sl ml nl xl sc mc nc) {o:Obj} {xv':Value} (h5:∀k,xv'.ownBlock=some k->xv.ownBlock=some k\/k=(X.alloc o).heap.size):∀k,XF g r sv mv nv xv' k->XF g r sv mv nv xv k\/X.heap.size<=k:=λk hk=>by
 rcases hk with hk|hk|hk|hk|hk
 ·exact .inl (.inl hk)
 ·exact .inl (.inr (.inl hk))
 ·exact .inl (.inr (.inr (.inl hk)))
 ·exact .inl (.inr (.inr (.inr (.inl hk))))
 rcases h5 k hk with h6|h6
 ·exact .inl (.inr (.inr (.inr (.inr h6))))
 refine .inr ?_;simp at h6;omega
end
theorem znm (l:List zi) (t:zi):(putAt l t).1=l\/(putAt l t).1=l++ [t] :=by
 unfold putAt;split
 ·exact .inl rfl
 exact .inr rfl
theorem wz.fin {W X X1:World} {g r:Nat} {sv mv nv xv:Value} {sl:List zi} {ml:List (List zq)} {nl:List (List Int)} {xl:List Int} {sc mc nc:List (List Value)} (h:wz W X g r sv mv nv xv sl ml nl xl sc mc nc) (hs:Since (λk=>k=r) X X1):zW (λk=>k<=r) X1 (λy=>wM y ⟨sl,ml,nl⟩ sv mv nv):=λy hy=>by
 have hG:∀k,k=r->XF g r sv mv nv xv k\/X.heap.size<=k:=λk hk=> .inl (.inl (.inr (Nat.le_of_eq hk)))
 have hG2:∀k,k<=r->XF g r sv mv nv xv k\/X1.heap.size<=k:=λk hk=> .inl (.inl (.inr hk))
 have hF2:∀k,False->XF g r sv mv nv xv k\/X1.heap.size<=k:=λ_ h=>h.elim
 have hF:∀k,XF g r sv mv nv xv k->XF g r sv mv nv xv k\/X.heap.size<=k:=λk hk=> .inl hk
 exact⟨((h.st.step hs (λk hk e=>by have:=(h.st.row.lt k hk).1;have:=h.rlo;omega) hG hF).step hy (λk hk e=>by have:=(h.st.row.lt k hk).1;have:=h.rlo;omega) hG2 hF2).slice,((h.mo.step hs (λk hk e=>by have:=(h.mo.row.lt k hk).1;have:=h.rlo;omega) hG hF).step hy (λk hk e=>by have:=(h.mo.row.lt k hk).1;have:=h.rlo;omega) hG2 hF2).slice,((h.ne.step hs (λk hk e=>by have:=(h.ne.row.lt k hk).1;have:=h.rlo;omega) hG hF).step hy (λk hk e=>by have:=(h.ne.row.lt k hk).1;have:=h.rlo;omega) hG2 hF2).slice⟩
theorem zrm {W W1 W2:World} {r:Nat} {s:zi} {zv yv:Value} (hr:r<W.heap.size) (hb1:Below W.heap.size W W1) (hb:Below W.heap.size W W2) (hst:zW (λk=>k<W1.heap.size) W2 (λy=>zX y s zv yv)):
  wz W ((W2.alloc (.cells #[zv,yv, .bool s.bad] 42)).alloc (.cells #[.slice (some ⟨W2.heap.size,0,none⟩) 1 1, .slice none 0 0, .slice none 0 0] 49)) (W2.heap.size+1) r (.slice (some ⟨W2.heap.size,0,none⟩) 1 1) (.slice none 0 0) (.slice none 0 0) (.slice none 0 0) [s] [] [] [] [[zv,yv, .bool s.bad]] [] [] :=by
 have hB:Below W2.heap.size W2 ((W2.alloc (.cells #[zv,yv, .bool s.bad] 42)).alloc (.cells #[.slice (some ⟨W2.heap.size,0,none⟩) 1 1, .slice none 0 0, .slice none 0 0] 49)):=((Below.refl _ _).alloc (Nat.le_refl _) _).alloc (by simp) _
 have h1:((W2.alloc (.cells #[zv,yv, .bool s.bad] 42)).alloc (.cells #[.slice (some ⟨W2.heap.size,0,none⟩) 1 1, .slice none 0 0, .slice none 0 0] 49)).heap[W2.heap.size]? =some (.cells #[zv,yv, .bool s.bad] 42 (0,0)):=(Below.heap_alloc _ _ _ (by simp)).trans (yj W2 _)
 have h2:((W2.alloc (.cells #[zv,yv, .bool s.bad] 42)).alloc (.cells #[.slice (some ⟨W2.heap.size,0,none⟩) 1 1, .slice none 0 0, .slice none 0 0] 49)).heap[W2.heap.size+1]? =some (.cells #[.slice (some ⟨W2.heap.size,0,none⟩) 1 1, .slice none 0 0, .slice none 0 0] 49 (0,0)):=by
  have:=yj (W2.alloc (.cells #[zv,yv, .bool s.bad] 42)) (.cells #[.slice (some ⟨W2.heap.size,0,none⟩) 1 1, .slice none 0 0, .slice none 0 0] 49)
  simpa using this
 have hF:∀k,XF (W2.heap.size+1) r (.slice (some ⟨W2.heap.size,0,none⟩) 1 1) (.slice none 0 0) (.slice none 0 0) (.slice none 0 0) k->k<W1.heap.size\/W2.heap.size<=k:=λk hk=>by
  have:=hb1.size
  unfold XF at hk
  simp [Value.ownBlock] at hk
  omega
 refine⟨zH hb hB,by have:=hb.size;omega,hr,h2,⟨rfl,λj hj=> ?_, ?_⟩,yV.nil _ _ _ _ _ _,yV.nil _ _ _ _ _ _,World.ownsRow_nil _ _ _ _⟩
 ·simp only [List.length_cons,List.length_nil] at hj
  obtain rfl:j=0:=by omega
  refine⟨rfl, ?_⟩
  have h3:zW (λk=>k<W1.heap.size) W2 (λy=>qo y s [zv,yv, .bool s.bad]):=λy hy=>⟨zv,yv,rfl,hst y hy⟩
  exact h3.step (G:=λ_=>False) (xU _ hB) (λ_ h=>h.elim) hF
 exact gM h1 hb.size rfl (by unfold maxLen;omega)
theorem zni (w:World) (c:zD) (cv:Value) (d:Nat) (hc:yS d w cv c.threads) (m:zy) (room:Int):
  Calls Tryz.prog 14 #[yQ c cv,qg m, .int .i64 room] w (zcu w (yt c m room d)):=by
 obtain⟨ca,cc,rfl, -⟩:=zh.slice hc
 obtain⟨mo,hmo⟩:∃mo,mo=qA c m:=⟨_,rfl⟩
 have hmay:=zec c ca cc d m
 rw [<-hmo] at hmay
 obtain⟨R,hR⟩:∃R,R=yt c m room d:=⟨_,rfl⟩
 obtain⟨S0,hS0⟩:∃S0,S0=xY c:=⟨_,rfl⟩
 have hR2:R=if mo=false\/room<1\/100000<room then(⟨[], [], []⟩,1) else zft (qO c m d room (room.toNat+1) 0 [S0] [] []):=by rw [hR,hmo,hS0];rfl
 rw [<-hR]
 have hstart:=λW hc=>zjR W c (.slice ca c.threads.length cc) d hc
 rw [<-hS0] at hstart
 have zdB:=λW hc s sv mv hs hb=>zrn W c (.slice ca c.threads.length cc) d hc m s sv mv hs hb
 have hdo:=λW hc s sv mv hs hb x=>zro W c (.slice ca c.threads.length cc) d hc m s sv mv hs hb x
 have hsb:wX 33 S0:=by rw [hS0];exact zeo c
 obtain⟨C,hC⟩:∃C,C=c:=⟨_,rfl⟩
 obtain⟨M,hM⟩:∃M,M=m:=⟨_,rfl⟩
 rw [<-hC, <-hM] at hR2
 obtain⟨vars,dom,cs⟩:=c
 obtain⟨mod,bnd⟩:=m
 unfold yQ qg
 unfold yQ qg at zdB hdo
 unfold yQ at hstart
 simp only [] at hc hmay hstart zdB hdo ⊢
 obtain⟨cn,hcn⟩:∃cn,cn=cs.length:=⟨_,rfl⟩
 rw [<-hcn] at hc hmay hstart zdB hdo ⊢
 rw [<-hC, <-hM] at zdB hdo
 obtain⟨hB,h1,h2,h3⟩:=zce w (.cells #[.int .i64 vars, .int .i64 dom, .slice ca cn cc] 26) (.cells #[.int .i64 mod, .int .i64 bnd] 29) (.cells #[.slice none 0 0, .slice none 0 0, .slice none 0 0] 49)
 have HB:=qh hB
 have H1:=qh h1
 have H2:=qh h2
 have H3:=qh h3
 have wQ:=qh (zh.below (qD.stays d) hc hB)
 have zbg:=qh hmay
 have zfu:=qh hstart
 have HMV:=qh zdB
 have HDO:=qh hdo
 have HSB:=qh hsb
 have HRR:=qh hR2
 clear hC hM hcn hmay hstart zdB hdo hsb hR2 hmo hR hS0 hB h1 h2 h3 hc
 go_enter Tryz.func14,Tryz.ntmps14
 go_upto_region 1 with fail
 generalize World.alloc (World.alloc (World.alloc w _) _) _=W at HB H1 H2 H3 wQ ⊢
 obtain⟨gx,hgx⟩:∃gx,gx=w.heap.size:=⟨_,rfl⟩
 rw [<-hgx] at H1 H2 H3 ⊢
 have xg:=qh hgx
 clear hgx
 have qx:Hid (∀y,Below W.heap.size W y->y.cell? ⟨gx,0,none⟩=some (.int .i64 vars)/\y.cell? ⟨gx,1,none⟩=some (.int .i64 dom)/\y.cell? ⟨gx,2,none⟩=some (.slice ca cn cc)/\
   y.cell? ⟨gx+1,0,none⟩=some (.int .i64 mod)/\y.cell? ⟨gx+1,1,none⟩=some (.int .i64 bnd)):=λy hx=>
  ⟨zk hx _ _ (ze H1.out 0),zk hx _ _ (ze H1.out 1),zk hx _ _ (ze H1.out 2),zk hx _ _ (ze H2.out 0),zk hx _ _ (ze H2.out 1)⟩
 have zQ:Hid (∀y,Below W.heap.size W y->(y.cell? ⟨gx+2,0,none⟩=some (.slice none 0 0)/\y.cell? ⟨gx+2,1,none⟩=some (.slice none 0 0)/\y.cell? ⟨gx+2,2,none⟩=some (.slice none 0 0))/\
   (y.frozen? ⟨gx+2,0,none⟩=false/\y.frozen? ⟨gx+2,1,none⟩=false/\y.frozen? ⟨gx+2,2,none⟩=false)/\
   ∀a b c:Value,(((y.setCell ⟨gx+2,0,none⟩ a).setCell ⟨gx+2,1,none⟩ b).setCell ⟨gx+2,2,none⟩ c).heap[gx+2]? =some (.cells #[a,b,c] 49 (0,0))/\
    Since (λk=>k=gx+2) y (((y.setCell ⟨gx+2,0,none⟩ a).setCell ⟨gx+2,1,none⟩ b).setCell ⟨gx+2,2,none⟩ c)/\
    Below w.heap.size w (((y.setCell ⟨gx+2,0,none⟩ a).setCell ⟨gx+2,1,none⟩ b).setCell ⟨gx+2,2,none⟩ c)):=λy hy=>by
  have hres:=(hy.block _ (zw H3.out)).trans H3.out
  refine⟨⟨ze hres 0,ze hres 1,ze hres 2⟩,⟨zA hres 0,zA hres 1,zA hres 2⟩,λa b c=> ?_⟩
  have hset:=zu (zu (zu hres 0 a) 1 b) 2 c
  simp only [List.setIfInBounds_toArray,List.set_cons_zero,List.set_cons_succ] at hset
  have hS:Since (λk=>k=gx+2) y (((y.setCell ⟨gx+2,0,none⟩ a).setCell ⟨gx+2,1,none⟩ b).setCell ⟨gx+2,2,none⟩ c):=Since.setCell (F:=λk=>k=gx+2) (p:=⟨gx+2,2,none⟩) (Since.setCell (F:=λk=>k=gx+2) (p:=⟨gx+2,1,none⟩) (Since.setCell (F:=λk=>k=gx+2) (p:=⟨gx+2,0,none⟩) (Since.refl _ y) (.inl rfl) _) (.inl rfl) _) (.inl rfl) _
  exact⟨hset,hS,(HB.out.trans (hy.mono HB.out.size)).trans (hS.below (by have:=HB.out.size;have:=hy.size;omega) (λk e=>by have:=xg.out;omega))⟩
 obtain⟨c0,c1,c2,c3,c4⟩:=qx.out W (Below.refl _ _)
 go_wp2_with fail
 refine(zbg.out W wQ.out).mono ?_
 rintro e W1 ⟨rfl,hb1⟩
 have HB1:=qh hb1
 clear hb1
 clear zbg
 have HBAD:Hid (mo=false\/room<1\/100000<room->R=(⟨[], [], []⟩,1)):=λh=>by rw [HRR.out,if_pos h]
 cases mo with
 |false=>
  have HR:=qh (HBAD.out (.inl rfl))
  clear HBAD HRR c0 c1 c2 c3 c4
  obtain⟨⟨q0,q1,q2⟩,⟨f0,f1,f2⟩,hend⟩:=zQ.out W1 HB1.out
  obtain⟨hset,hsn,hbe⟩:=hend (.slice none 0 0) (.slice none 0 0) (.slice none 0 0)
  have zJ:=qh hset
  have yO:=qh hbe
  have xJ:=qh hsn
  clear hset hbe hend hsn
  go_wp2_with fail
  (try simp only [Exit.inBlock,Exit.then])
  refine bodyPost_ret (zC rfl _ _ (gx+2) 49 _ (0,0) _ rfl zJ.out Tryz.underlying49 rfl kR) rfl ?_
  exact bQ HR.out yO.out
 |true=>
 by_cases hr1:room<1
 ·have HR:=qh (HBAD.out (.inr (.inl hr1)))
  clear HBAD HRR c0 c1 c2 c3 c4
  obtain⟨⟨q0,q1,q2⟩,⟨f0,f1,f2⟩,hend⟩:=zQ.out W1 HB1.out
  obtain⟨hset,hsn,hbe⟩:=hend (.slice none 0 0) (.slice none 0 0) (.slice none 0 0)
  have zJ:=qh hset
  have yO:=qh hbe
  have xJ:=qh hsn
  clear hset hbe hend hsn
  go_wp2_with fail
  (try simp only [Exit.inBlock,Exit.then])
  refine bodyPost_ret (zC rfl _ _ (gx+2) 49 _ (0,0) _ rfl zJ.out Tryz.underlying49 rfl kR) rfl ?_
  exact bQ HR.out yO.out
 by_cases hr2:100000<room
 ·have HR:=qh (HBAD.out (.inr (.inr hr2)))
  clear HBAD HRR c0 c1 c2 c3 c4
  obtain⟨⟨q0,q1,q2⟩,⟨f0,f1,f2⟩,hend⟩:=zQ.out W1 HB1.out
  obtain⟨hset,hsn,hbe⟩:=hend (.slice none 0 0) (.slice none 0 0) (.slice none 0 0)
  have zJ:=qh hset
  have yO:=qh hbe
  have xJ:=qh hsn
  clear hset hbe hend hsn
  go_wp2_with fail
  (try simp only [Exit.inBlock,Exit.then])
  refine bodyPost_ret (zC rfl _ _ (gx+2) 49 _ (0,0) _ rfl zJ.out Tryz.underlying49 rfl kR) rfl ?_
  exact bQ HR.out yO.out
 obtain⟨rm,rfl⟩:∃rm:Nat,room=rm:=⟨room.toNat,by omega⟩
 have HR0:Hid (R=zft (qO C M d rm (rm+1) 0 [S0] [] [])):=by
  rw [Hid,HRR.out,if_neg]
  ·simp
  rintro(h|h|h)
  ·cases h
  ·exact hr1 h
  exact hr2 h
 clear HBAD HRR c0 c1 c2 c3 c4
 have hrm1:1<=rm:=by omega
 have zzf:rm<=100000:=by omega
 obtain⟨c0,c1,c2,c3,c4⟩:=qx.out W1 HB1.out
 go_upto_region 4 with(go_at_call 27;go_must(refine(zfu.out W1 (zh.below (qD.stays d) wQ.out HB1.out)).mono ?_);rintro e W2 ⟨⟨zv,yv,rfl,hst⟩,hb2⟩;have HB2:=qh (zH HB1.out hb2);have HST:=qh hst;clear hst hb2;try unfold yA)
 have zzg:=zrm (zw H3.out) HB1.out HB2.out HST.out
 have HXA:=qh zzg
 have hbs:∀j,j<1->wX 33 (([S0] :List zi).getD j default):=λj hj=>by
  obtain rfl:j=0:=by omega
  exact HSB.out
 have HBS:=qh hbs
 clear zzg hbs HB2 HST HB1 c0 c1 c2 c3 c4
 obtain⟨g7,hg7⟩:∃g,g=W2.heap.size:=⟨_,rfl⟩
 rw [<-hg7] at HXA ⊢
 clear hg7
 generalize World.alloc (World.alloc W2 _) _=X0 at HXA ⊢
 generalize g7+1=g8 at HXA ⊢
 go_wp2_with fail
 go_loopg [9] (rm+1) (λgg s9 wr=>∃(i:Nat) (sa ma na:Option Addr) (sn sc mc nc:Nat) (sl:List zi) (ml:List (List zq)) (nl:List (List Int)) (scc wI ncc:List (List Value)),i<=sn/\sn<=rm/\Hid (gg=rm+1 - i)/\s9= .int .i64 i/\Hid (wz W wr g8 (gx+2) (.slice sa sn sc) (.slice ma i mc) (.slice na i nc) (.slice none 0 0) sl ml nl [] scc wI ncc)/\Hid (sl.length=sn)/\Hid (ml.length=i)/\Hid (nl.length=i)/\Hid (R=zft (qO C M d rm (rm+1 - i) i sl ml nl))/\Hid (∀j,j<sn->wX 33 (sl.getD j default)))
 case atStart=>exact⟨0,_,none,none,1,_,0,0, [S0], [], [],_, [], [],by omega,hrm1,rfl,rfl,HXA.out,rfl,rfl,rfl,HR0.out,HBS.out⟩
 case round=>
 obtain⟨i,sa,ma,na,sn,sc,mc,nc,sl,ml,nl,scc,wI,ncc,hi,hsn,HG,rfl,HXI,HSL,bq,HNL,HRI,HBI⟩:=hrel
 obtain⟨wo,rfl⟩:∃wo:World,wo=wr:=⟨_,rfl⟩
 have b0:=ze HXI.out.box 0
 by_cases hlt:i<sn
 rotate_left
 ·obtain rfl:i=sn:=by omega
  have hr:R=(⟨sl,ml,nl⟩,0):=by rw [HRI.out,show rm+1 - i=(rm - i)+1 by omega,zjQ (by rw [HSL.out];omega)];rfl
  have HR:=qh hr
  have b1:=ze HXI.out.box 1
  have b2:=ze HXI.out.box 2
  have z5A:=qh HXI.out.below
  clear hr
  obtain⟨⟨q0,q1,q2⟩,⟨f0,f1,f2⟩,hend⟩:=zQ.out wo z5A.out
  obtain⟨hset,hsn,hbe⟩:=hend (.slice sa i sc) (.slice ma i mc) (.slice na i nc)
  have zJ:=qh hset
  have yO:=qh hbe
  have xJ:=qh hsn
  clear hset hbe hend hsn
  go_wp2_with fail
  (try simp only [Exit.inBlock,Exit.then])
  refine bodyPost_ret (zC rfl _ _ (gx+2) 49 _ (0,0) _ rfl zJ.out Tryz.underlying49 rfl kR) rfl ?_
  have hfin:=HXI.out.fin xJ.out
  refine⟨⟨_,_,_,by rw [HR.out];rfl, ?_⟩,yO.out⟩
  rw [HR.out]
  refine⟨hfin.now,hfin.mono (λk hk=>Nat.le_of_lt (by have:=xg.out;omega)),λa n c e=> ?_⟩
  obtain⟨a',c',he,hc, -⟩:=xu HXI.out.st.row
  cases e;cases he;exact hc
 have qN:(i:Int)<(sn:Int):=by omega
 obtain⟨eb,eo,tv,yv,yh, -,x0,x1,x2,hst⟩:=kH.part (HXI.out.st.slice) i (by rw [HSL.out];exact hlt)
 subst yh
 have hbi:=HBI.out i hlt
 obtain⟨s,hs⟩:∃s,s=sl.getD i default:=⟨_,rfl⟩
 rw [<-hs] at x2 hst hbi
 have HSI:=qh hs
 obtain⟨ta,tac,rfl, -⟩:=zh.slice hst.threads
 obtain⟨ya,yac,rfl, -⟩:=zh.slice hst.mem
 obtain⟨n1,hn1⟩:∃n,n=s.threads.length:=⟨_,rfl⟩
 obtain⟨n2,hn2⟩:∃n,n=s.mem.length:=⟨_,rfl⟩
 rw [<-hn1] at x0 hst
 rw [<-hn2] at x1 hst
 obtain⟨ms,hms⟩:∃ms,ms=xH C M s d:=⟨_,rfl⟩
 obtain⟨mn,hmn⟩:∃mn,mn=ms.length:=⟨_,rfl⟩
 have hml:mn<=132:=by rw [hmn,hms];exact zii
 have hMV:∀y,Below wo.heap.size wo y->Calls Tryz.prog 29 #[.agg #[.int .i64 vars, .int .i64 dom, .slice ca cn cc], .agg #[.int .i64 mod, .int .i64 bnd], .agg #[.slice ta n1 tac, .slice ya n2 yac, .bool s.bad]] y λe w'=>(∃va vc,e= .returned (.slice va mn vc)/\w'.ownsRow y.heap.size 70 3 (.slice va mn vc) mn (zo zq.cells ms))/\Below y.heap.size y w':=λy hy=>by
  have:=HMV.out y (zh.below (qD.stays d) wQ.out (zH HXI.out.below hy)) s (.slice ta n1 tac) (.slice ya n2 yac) (hst.below hy) (λj hj=>by have:=hbi j hj;omega)
  rw [<-hms] at this
  unfold zho at this
  rw [<-hmn] at this
  exact this
 have zzh:=qh hMV
 have zps:=qh hmn
 have HMS:=qh hms
 have C7:Hid (∀y,Below wo.heap.size wo y->y.cell? ⟨gx,0,none⟩=some (.int .i64 vars)/\y.cell? ⟨gx,1,none⟩=some (.int .i64 dom)/\y.cell? ⟨gx,2,none⟩=some (.slice ca cn cc)/\
   y.cell? ⟨gx+1,0,none⟩=some (.int .i64 mod)/\y.cell? ⟨gx+1,1,none⟩=some (.int .i64 bnd)/\y.cell? ⟨g8,0,none⟩=some (.slice (some ⟨eb,eo,none⟩) sn sc)/\y.cell? ⟨eb,eo+i*3,none⟩=some (.slice ta n1 tac)/\y.cell? ⟨eb,eo+i*3+1,none⟩=some (.slice ya n2 yac)/\y.cell? ⟨eb,eo+i*3+2,none⟩=some (.bool s.bad)):=λy hy=>by
  obtain⟨c0,c1,c2,c3,c4⟩:=qx.out y (zH HXI.out.below hy)
  exact⟨c0,c1,c2,c3,c4,zk hy _ _ b0,zk hy _ _ x0,zk hy _ _ x1,zk hy _ _ x2⟩
 clear hs hn1 hn2 hms hmn hMV hst x0 x1 x2 hbi
 go_upto_region 7 with fail
 clear b0
 refine jf (S:=λx=>Below wo.heap.size wo x) (Below.refl _ _).drew (λhH=> ?_)
 refine zB 0 C7.out ?_
 refine zB 1 C7.out ?_
 refine zB 2 C7.out ?_
 refine zB 3 C7.out ?_
 refine zB 4 C7.out ?_
 refine zB 5 C7.out ?_
 refine zB 6 C7.out ?_
 refine yC 7 rfl (λK hK=> ?_)
 go_simp
 refine(zzh.out wo.drew hH).mono ?_
 rintro e hw7 ⟨⟨va,vc,rfl,hmr⟩,hb⟩
 have HMR:=qh hmr
 have HMG:Hid (wo.heap.size<=wo.drew.heap.size):=(hH).size
 clear hmr
 have gU:Below wo.heap.size wo hw7:=zH hH hb
 refine hK.out _ _ gU (λ_=> ?_)
 clear hK K hb hH
 refine zB 8 C7.out ?_
 refine xW ?_
 have zR:=qh gU
 clear gU
 have hxm:=HXI.out.call zR.out
 have zzi:zW (XF g8 (gx+2) (.slice (some ⟨eb,eo,none⟩) sn sc) (.slice ma i mc) (.slice na i nc) (.slice none 0 0)) hw7 (λy=>j6 y (.slice va mn vc) ms):=λy hy=>zbj (by rw [<-zps.out];exact hy.row HMR.out (λk hk e=>by have:=(HMR.out.lt k hk).1;have:=HXI.out.blocks k e;have:=HMG.out;omega))
 have HXM:=qh hxm
 have z5B:=qh zzi
 clear hxm zzi zzh C7
 go_wp2_with fail
 go_loopg [11,12] mn (λgg s11 s12 wr=>∃(k:Nat) (sa' xa:Option Addr) (vP sc' xc:Nat) (sl':List zi) (xl:List Int) (zbk:List (List Value)),k<=mn/\Hid (gg=mn - k)/\s11= .slice xa k xc/\s12= .int .i64 k/\i<vP/\vP<=rm/\Hid (wz W wr g8 (gx+2) (.slice sa' vP sc') (.slice ma i mc) (.slice na i nc) (.slice xa k xc) sl' ml nl xl zbk wI ncc)/\Hid (sl'.length=vP)/\Hid (xl.length=k)/\Hid (xX C M d rm s ms sl [] =xX C M d rm s (ms.drop k) sl' xl)/\Hid (zW (XF g8 (gx+2) (.slice sa' vP sc') (.slice ma i mc) (.slice na i nc) (.slice xa k xc)) wr (λy=>j6 y (.slice va mn vc) ms))/\Hid (∀j,j<vP->wX 33 (sl'.getD j default))/\Hid (sl'.getD i default=s))
 case atStart=>exact⟨0,_,none,sn,_,0,sl, [],_,Nat.zero_le _,rfl,rfl,rfl,hlt,hsn,HXM.out,HSL.out,rfl,rfl,z5B.out,HBI.out,HSI.out.symm⟩
 case round=>
 obtain⟨k,sa',xa,vP,sc',xc,sl',xl,zbk,hk,HG2,rfl,rfl,hin,zhp,HXK,zc8,HXL,HIN,HAK,HBK,HSK⟩:=hrel
 obtain⟨jT,rfl⟩:∃jT:World,jT=wr:=⟨_,rfl⟩
 by_cases hkl:k<mn
 rotate_left
 ·obtain rfl:mn=k:=by omega
  have hin2:xX C M d rm s ms sl [] =some (sl',xl):=by rw [HIN.out,zps.out,List.drop_length];rfl
  have zah:R=zft (qO C M d rm (rm+1 - (i+1)) (i+1) sl' (ml++ [ms]) (nl++ [xl])):=by
   rw [HRI.out,show rm+1 - i=(rm+1 - (i+1))+1 by omega,zcd (by rw [HSL.out];exact hlt), <-HSI.out, <-HMS.out,hin2]
  have qI:=qh zah
  have hrow:=HXK.out.mo.row
  rw [bq.out] at hrow
  have qZ:=qh hrow
  have hmv:zW (XF g8 (gx+2) (.slice sa' vP sc') (.slice ma i mc) (.slice na i nc) (.slice xa mn xc)) jT (λy=>bL y ms [.slice va mn vc]):=λy hy=>⟨_,rfl,HAK.out y hy⟩
  have z5C:=qh hmv
  clear hin2 zah hrow hmv
  have b1:=ze HXK.out.box 1
  go_upto_region 21 with(at_builtin;go_must(refine zI _ rfl _ _ 46 rfl 32 (.slice none 0 0) 1 24 Tryz.underlying46 zbx rfl (by decide) W.heap.size (.slice ma i mc) i (wI.flatten) rfl ((qZ.out).alloc _) ⟨jT.heap.size,0,none⟩ 1 1 [.slice va mn vc] rfl rfl (qY _ [.slice va mn vc] _) (by simp [Value.oneCell']) (by unfold maxLen;omega) (by omega) (by have:=HXK.out.below.size;simp;omega) ?_);intro ja jc X f1 f2 f3 f4 f5 f6;have hbx:=zhn qZ.out HXK.out.box (by decide) f4;have k0:=ze hbx 1;have z0:=zA hbx 1;have HP:=qh (HXK.out.z2N z5C.out rfl (by rw [bq.out];exact f1) f4 f5);clear f1 f2 f3 f4 f5 f6 hbx)
  clear b1 k0 z0
  generalize World.setCell X _ _=W9 at HP ⊢
  have hrow:=HP.out.ne.row
  rw [HNL.out] at hrow
  have zdd:=qh hrow
  clear hrow
  have b2:=ze HP.out.box 2
  go_wp2_with(at_builtin;go_must(refine zI _ rfl _ _ 47 rfl 31 (.slice none 0 0) 1 24 Tryz.underlying47 zcc rfl (by decide) W.heap.size (.slice na i nc) i (ncc.flatten) rfl ((zdd.out).alloc _) ⟨W9.heap.size,0,none⟩ 1 1 [.slice xa mn xc] rfl rfl (qY _ [.slice xa mn xc] _) (by simp [Value.oneCell']) (by unfold maxLen;omega) (by omega) (by have:=HP.out.below.size;simp;omega) ?_);intro jb kc X2 f1 f2 f3 f4 f5 f6;have hbx:=zhn zdd.out HP.out.box (by decide) f4;have k0:=ze hbx 2;have z0:=zA hbx 2;have HP2:=qh (HP.out.z2O (by rw [HNL.out];exact f1) f4 f5);clear f1 f2 f3 f4 f5 f6 hbx)
  go_roundg (rm+1 - (i+1))
  case measure=>rw [HG.out];omega
  case rel=>exact⟨i+1,sa',ja,jb,vP,sc',jc,kc,sl',ml++ [ms],nl++ [xl],zbk,_,_,by omega,zhp,rfl,by simp,HP2.out,zc8.out,by rw [Hid,List.length_append,bq.out];rfl,by rw [Hid,List.length_append,HNL.out];rfl,qI.out,HBK.out⟩
 have zpt:(k:Int)<(mn:Int):=by omega
 have z9S:(i:Int)<(vP:Int):=by omega
 have b0:=ze HXK.out.box 0
 obtain⟨eb',eo',tv,yv,yh, -,x0,x1,x2,hst⟩:=kH.part (HXK.out.st.slice) i (by rw [zc8.out];exact hin)
 subst yh
 have hbi:=HBK.out i hin
 rw [HSK.out] at x2 hst hbi
 obtain⟨ta',tac',rfl, -⟩:=zh.slice hst.threads
 obtain⟨ya',zuo,rfl, -⟩:=zh.slice hst.mem
 obtain⟨n1',hn1⟩:∃n,n=s.threads.length:=⟨_,rfl⟩
 obtain⟨n2',hn2⟩:∃n,n=s.mem.length:=⟨_,rfl⟩
 rw [<-hn1] at x0 hst
 rw [<-hn2] at x1 hst
 obtain⟨mb,mo',hma, -,m0,m1,m2⟩:=j6.part HAK.out.now k (by rw [<-zps.out];exact hkl)
 have zzl:=hma
 obtain⟨x,hx⟩:∃x,x=ms.getD k default:=⟨_,rfl⟩
 rw [<-hx] at m0 m1 m2
 obtain⟨kd,th,vr⟩:=x
 simp only [] at m0 m1 m2
 obtain⟨⟨tt,er⟩,hdd⟩:∃p,p=qB C M s ⟨kd,th,vr⟩ d:=⟨_,rfl⟩
 have zzm:Hid (xX C M d rm s ms sl [] =if (rm:Int)<=((putAt sl' tt).2:Int) then none else xX C M d rm s (ms.drop (k+1)) (putAt sl' tt).1 (xl++ [((putAt sl' tt).2:Int)])):=by
  rw [Hid,HIN.out,zih (by rw [<-zps.out];exact hkl), <-hx, <-hdd]
 have hbt:wX 33 tt:=by have:=zoh (c:=C) (m:=M) (s:=s) (x:=⟨kd,th,vr⟩) (d:=d);rw [<-hdd] at this;exact this
 have hDO:∀y,Below jT.heap.size jT y->Calls Tryz.prog 28 #[.agg #[.int .i64 vars, .int .i64 dom, .slice ca cn cc], .agg #[.int .i64 mod, .int .i64 bnd], .agg #[.slice ta' n1' tac', .slice ya' n2' zuo, .bool s.bad], .agg #[.int .i64 kd, .int .i64 th, .int .i64 vr]] y (zkM y (tt,er)):=λy hy=>by
  rw [hdd]
  exact HDO.out y (zh.below (qD.stays d) wQ.out (zH HXK.out.below hy)) s (.slice ta' n1' tac') (.slice ya' n2' zuo) (hst.below hy) (λj hj=>by have:=hbi j hj;omega) ⟨kd,th,vr⟩
 have zup:=qh hDO
 have HBT:=qh hbt
 have HMA:=qh zzl
 subst hma
 have C12:Hid (∀y,Below jT.heap.size jT y->y.cell? ⟨gx,0,none⟩=some (.int .i64 vars)/\y.cell? ⟨gx,1,none⟩=some (.int .i64 dom)/\y.cell? ⟨gx,2,none⟩=some (.slice ca cn cc)/\
   y.cell? ⟨gx+1,0,none⟩=some (.int .i64 mod)/\y.cell? ⟨gx+1,1,none⟩=some (.int .i64 bnd)/\y.cell? ⟨g8,0,none⟩=some (.slice (some ⟨eb',eo',none⟩) vP sc')/\y.cell? ⟨eb',eo'+i*3,none⟩=some (.slice ta' n1' tac')/\y.cell? ⟨eb',eo'+i*3+1,none⟩=some (.slice ya' n2' zuo)/\y.cell? ⟨eb',eo'+i*3+2,none⟩=some (.bool s.bad)/\
   y.cell? ⟨mb,mo'+k*3,none⟩=some (.int .i64 kd)/\y.cell? ⟨mb,mo'+k*3+1,none⟩=some (.int .i64 th)/\y.cell? ⟨mb,mo'+k*3+2,none⟩=some (.int .i64 vr)):=λy hy=>by
  obtain⟨c0,c1,c2,c3,c4⟩:=qx.out y (zH HXK.out.below hy)
  exact⟨c0,c1,c2,c3,c4,zk hy _ _ b0,zk hy _ _ x0,zk hy _ _ x1,zk hy _ _ x2,zk hy _ _ m0,zk hy _ _ m1,zk hy _ _ m2⟩
 clear hn1 hn2 hdd hbt hDO hst x0 x1 x2 m0 m1 m2 hbi b0 zzl hx
 go_upto_region 12 with fail
 go_cut [13] (λs13 w'=>∃(tb:Nat) (za zb:Option Addr) (zn zc yn yc:Nat),s13= .pointer (some ⟨tb,0,none⟩)/\Hid (Below jT.heap.size jT w')/\Hid (w'.heap[tb]? =some (.cells #[.slice za zn zc, .slice zb yn yc, .bool tt.bad] 42 (0,0)))/\Hid (jT.heap.size<=tb)/\Hid (zW (λk=>k<jT.heap.size\/k=tb) w' (λy=>qo y tt [.slice za zn zc, .slice zb yn yc, .bool tt.bad])))
 case first=>
  have hT0:=qh (Loc.start jT).drew
  refine jf (S:=λx=>Below jT.heap.size jT x) (Below.refl _ _).drew (λ_=> ?_)
  obtain⟨wd,hwd⟩:∃wd,wd=jT.drew:=⟨_,rfl⟩
  rw [<-hwd] at hT0 ⊢
  clear hwd
  refine zF 0 C12.out (hT0.out.below) ?_
  refine zF 1 C12.out (hT0.out.below) ?_
  refine zF 2 zP (hT0.out.below) ?_
  refine zF 3 C12.out (hT0.out.below) ?_
  refine zF 4 zP (hT0.out.below) ?_
  refine zF 5 zP (hT0.out.below) ?_
  refine zF 6 C12.out (hT0.out.below) ?_
  refine zF 7 zP (hT0.out.below) ?_
  refine zF 8 zP (hT0.out.below) ?_
  refine zF 9 zP (hT0.out.below) ?_
  refine zF 10 C12.out (hT0.out.below) ?_
  refine wpAnyH_ready (rs:= [11,15]) (by kernel_rfl) (by simp) ?_
  refine AllReadyH.cons rfl (λK hK=> ?_) (AllReadyH.cons rfl (λK hK=> ?_) AllReadyH.nil)
  ·skip
   go_simp
   refine(zup.out wd (hT0.out.below)).mono ?_
   rintro e Xe2 ⟨⟨xa,xn,xc,ya,yn,yc,bs,rfl,hown⟩,hb⟩
   have zlz:=qh (hT0.out.later hb)
   have hog:jT.heap.size<=wd.heap.size:=(hT0.out.below).size
   have HAW:Hid (zW (λk=>k<jT.heap.size) Xe2 (λy=>qo y tt [.slice xa xn xc, .slice ya yn yc, .bool tt.bad])):=zl0 hown (λk hk=>by omega)
   clear hb hown hog
   try unfold yA
   refine hK.out _ _ zlz.out.below (λ_=> ?_)
   clear hK K
   refine zF 12 zP (zlz.out.below) ?_
   refine zF 13 zP (zlz.out.below) ?_
   refine zF 14 zP (zlz.out.below) ?_
   refine yC 15 rfl (λK hK=> ?_)
   go_simp
   have hAW:zW (λk=>k<jT.heap.size\/k=Xe2.heap.size) (Xe2.alloc (.cells ([.slice none 0 0, .slice none 0 0, .bool false] :List Value).toArray 42)) (λy=>qo y tt [.slice xa xn xc, .slice ya yn yc, .bool tt.bad]):=HAW.out.step (G:=λ_=>False) (xU _ ((Below.refl Xe2.heap.size Xe2).alloc (Nat.le_refl _) _)) (λ_ h=>h.elim) (λk hk=>by omega)
   clear HAW
   have zhq:=zlz.out.alloc 42 [.slice none 0 0, .slice none 0 0, .bool false]
   refine hK.out _ _ zhq.below (λ_=> ?_)
   obtain⟨tb,htb⟩:∃n,n=Xe2.heap.size:=⟨_,rfl⟩
   rw [<-htb] at zhq hAW ⊢
   clear htb
   generalize World.alloc Xe2 _=Xe4 at zhq hAW ⊢
   replace zhq:=qh zhq
   replace hAW:=qh hAW
   have HAW:=hAW
   clear hAW
   clear hK K
   refine yC 16 rfl (λK hK=> ?_)
   obtain⟨hn, -⟩:=zhq.out.news (tb,42, [.slice none 0 0, .slice none 0 0, .bool false]) (List.mem_cons_self ..)
   have d0:=ze hn 0
   have f0:=zA hn 0
   have d1:=ze hn 1
   have f1:=zA hn 1
   have d2:=ze hn 2
   have f2:=zA hn 2
   clear hn
   have zhr:=zhq.out.store (g:=tb) (t:=42) (cs:= [.slice none 0 0, .slice none 0 0, .bool false]) (List.mem_cons_self ..) [.slice xa xn xc, .slice ya yn yc, .bool tt.bad] rfl
   replace zhr:=qh zhr
   go_simp
   clear d0 f0 d1 f1 d2 f2
   refine hK.out _ (yx Xe4 tb 0 [.slice xa xn xc, .slice ya yn yc, .bool tt.bad]) zhr.out.below (λ_=> ?_)
   have hAW:zW (λk=>k<jT.heap.size\/k=tb) (yx Xe4 tb 0 [.slice xa xn xc, .slice ya yn yc, .bool tt.bad]) (λy=>qo y tt [.slice xa xn xc, .slice ya yn yc, .bool tt.bad]):=HAW.out.step (xR _ _ _) (λk hk=> .inl (.inr hk)) (λk hk=> .inl hk)
   clear HAW
   generalize yx Xe4 tb 0 _=Xe6 at zhr hAW ⊢
   replace hAW:=qh hAW
   clear hK K
   refine zF 17 zP (zhr.out.below) ?_
   refine xW ?_
   obtain⟨hx,hxl⟩:=zhr.out.news (tb,42, [.slice xa xn xc, .slice ya yn yc, .bool tt.bad]) (uS (List.mem_cons_self ..))
   have HXX:=qh hx
   have HXL:=qh hxl
   clear hx hxl
   go_wp2_with fail
   go_meet
   case rel=>exact⟨tb,xa,ya,xn,xc,yn,yc,rfl,zhr.out.below,HXX.out,HXL.out,hAW.out⟩
  skip
  go_simp
  have zep:=hT0.out.alloc 42 [.slice none 0 0, .slice none 0 0, .bool false]
  refine hK.out _ _ zep.below (λ_=> ?_)
  obtain⟨tb,htb⟩:∃n,n=wd.heap.size:=⟨_,rfl⟩
  rw [<-htb] at zep ⊢
  clear htb
  generalize World.alloc wd _=Xe8 at zep ⊢
  replace zep:=qh zep
  clear hK K
  refine yC 11 rfl (λK hK=> ?_)
  go_simp
  refine(zup.out Xe8 (zep.out.below)).mono ?_
  rintro e zpu ⟨⟨xa,xn,xc,ya,yn,yc,bs,rfl,hown⟩,hb⟩
  have zjo:=qh (zep.out.later hb)
  have hog:jT.heap.size<=Xe8.heap.size:=(zep.out.below).size
  have htb:=zw (zep.out.news (tb,42, [.slice none 0 0, .slice none 0 0, .bool false]) (List.mem_cons_self ..)).1
  simp only [] at htb
  have HAW:Hid (zW (λk=>k<jT.heap.size\/k=tb) zpu (λy=>qo y tt [.slice xa xn xc, .slice ya yn yc, .bool tt.bad])):=zl0 hown (λk hk=>by omega)
  clear htb
  clear hb hown hog
  try unfold yA
  refine hK.out _ _ zjo.out.below (λ_=> ?_)
  clear hK K
  refine zF 12 zP (zjo.out.below) ?_
  refine zF 13 zP (zjo.out.below) ?_
  refine zF 14 zP (zjo.out.below) ?_
  refine yC 16 rfl (λK hK=> ?_)
  obtain⟨hn, -⟩:=zjo.out.news (tb,42, [.slice none 0 0, .slice none 0 0, .bool false]) (List.mem_cons_self ..)
  have d0:=ze hn 0
  have f0:=zA hn 0
  have d1:=ze hn 1
  have f1:=zA hn 1
  have d2:=ze hn 2
  have f2:=zA hn 2
  clear hn
  have zeq:=zjo.out.store (g:=tb) (t:=42) (cs:= [.slice none 0 0, .slice none 0 0, .bool false]) (List.mem_cons_self ..) [.slice xa xn xc, .slice ya yn yc, .bool tt.bad] rfl
  replace zeq:=qh zeq
  go_simp
  clear d0 f0 d1 f1 d2 f2
  refine hK.out _ (yx zpu tb 0 [.slice xa xn xc, .slice ya yn yc, .bool tt.bad]) zeq.out.below (λ_=> ?_)
  have hAW:zW (λk=>k<jT.heap.size\/k=tb) (yx zpu tb 0 [.slice xa xn xc, .slice ya yn yc, .bool tt.bad]) (λy=>qo y tt [.slice xa xn xc, .slice ya yn yc, .bool tt.bad]):=HAW.out.step (xR _ _ _) (λk hk=> .inl (.inr hk)) (λk hk=> .inl hk)
  clear HAW
  generalize yx zpu tb 0 _=z9T at zeq hAW ⊢
  replace hAW:=qh hAW
  clear hK K
  refine zF 17 zP (zeq.out.below) ?_
  refine xW ?_
  obtain⟨hx,hxl⟩:=zeq.out.news (tb,42, [.slice xa xn xc, .slice ya yn yc, .bool tt.bad]) (uS (List.mem_cons_self ..))
  have HXX:=qh hx
  have HXL:=qh hxl
  clear hx hxl
  go_wp2_with fail
  go_meet
  case rel=>exact⟨tb,xa,ya,xn,xc,yn,yc,rfl,zeq.out.below,HXX.out,HXL.out,hAW.out⟩
 case rest=>
 obtain⟨tb,za,zb,zn,zc,yn,yc,rfl,HB2,HTB,HTL,HAT⟩:=hcut
 obtain⟨W6,rfl⟩:∃W6:World,W6=wc:=⟨_,rfl⟩
 have HX6:=qh (HXK.out.call HB2.out)
 have HA6:Hid (zW (XF g8 (gx+2) (.slice (some ⟨eb',eo',none⟩) vP sc') (.slice ma i mc) (.slice na i nc) (.slice xa k xc)) W6 (λy=>j6 y (.slice (some ⟨mb,mo',none⟩) mn vc) ms)):=HAK.out.step (G:=λ_=>False) (xU _ HB2.out) (λ_ h=>h.elim) (λ_ h=> .inl h)
 have HT6:Hid (zW (XF g8 (gx+2) (.slice (some ⟨eb',eo',none⟩) vP sc') (.slice ma i mc) (.slice na i nc) (.slice xa k xc)) W6 (λy=>qo y tt [.slice za zn zc, .slice zb yn yc, .bool tt.bad])):=HAT.out.step (F':=XF g8 (gx+2) (.slice (some ⟨eb',eo',none⟩) vP sc') (.slice ma i mc) (.slice na i nc) (.slice xa k xc)) (G:=λ_=>False) (Since.refl _ _) (λ_ h=>h.elim) (λk h=> .inl (.inl (HXK.out.blocks k h)))
 have zuq:∀y,Below W6.heap.size W6 y->Calls Tryz.prog 30 #[.slice (some ⟨eb',eo',none⟩) vP sc', .agg #[.slice za zn zc, .slice zb yn yc, .bool tt.bad]] y λe w'=>e= .returned (.int .i64 (atS sl' tt))/\Below y.heap.size y w':=λy hy=>by
  obtain⟨tv,mv,he,hs6⟩:=HT6.out.now
  simp only [List.cons.injEq,and_true] at he
  obtain⟨rfl,rfl⟩:=he
  exact zzo y sl' _ (zh.below qo.stays HX6.out.st.slice hy) tt _ _ (hs6.below hy)
 obtain⟨nn,hnn⟩:∃nn,nn=atS sl' tt:=⟨_,rfl⟩
 rw [<-hnn] at zuq
 have zzp:=qh zuq
 have HNN:=qh hnn
 clear zuq hnn HAT HAK HXK zup C12
 have b0:=ze HX6.out.box 0
 have t0:=ze HTB.out 0
 have t1:=ze HTB.out 1
 have t2:=ze HTB.out 2
 go_upto_region 14 with(go_at_call 30;go_must(refine(zzp.out W6 (Below.refl _ _)).mono ?_);rintro e W7 ⟨rfl,hb7⟩;have HB7:=qh hb7;clear hb7)
 have HX7:=qh (HX6.out.call HB7.out)
 have HA7:=qh (HA6.out.step (F':=XF g8 (gx+2) (.slice (some ⟨eb',eo',none⟩) vP sc') (.slice ma i mc) (.slice na i nc) (.slice xa k xc)) (G:=λ_=>False) (xU _ HB7.out) (λ_ h=>h.elim) (λ_ h=> .inl h))
 have HT7:=qh (HT6.out.step (F':=XF g8 (gx+2) (.slice (some ⟨eb',eo',none⟩) vP sc') (.slice ma i mc) (.slice na i nc) (.slice xa k xc)) (G:=λ_=>False) (xU _ HB7.out) (λ_ h=>h.elim) (λ_ h=> .inl h))
 have zpv:=qh ((HB7.out.block _ (zw HTB.out)).trans HTB.out)
 clear b0 t0 t1 t2 HX6 HA6 HT6 HTB zzp
 go_upto_if 74 with fail
 go_cut [15] (λs15 w'=>∃(pn ps pc:Nat) (pa:Option Addr) (pl:List zi) (pcc:List (List Value)),s15= .int .i64 pn/\Hid (wz W w' g8 (gx+2) (.slice pa ps pc) (.slice ma i mc) (.slice na i nc) (.slice xa k xc) pl ml nl xl pcc wI ncc)/\Hid (pl.length=ps)/\Hid ((pl,pn)=putAt sl' tt)/\Hid (zW (XF g8 (gx+2) (.slice pa ps pc) (.slice ma i mc) (.slice na i nc) (.slice xa k xc)) w' (λy=>j6 y (.slice (some ⟨mb,mo',none⟩) mn vc) ms)))
 case first=>
  by_cases hneg:nn<0
  rotate_left
  ·obtain⟨q,rfl⟩:∃q:Nat,nn=q:=⟨nn.toNat,by omega⟩
   have hput:putAt sl' tt=(sl',q):=by rw [zl1, <-HNN.out,if_neg hneg];rfl
   have jE:=qh hput
   clear hput
   have hqn:((q:Int)<0)=False:=by simp
   go_wp2_with fail
   go_meet
   case rel=>exact⟨q,vP,sc',_,sl',_,rfl,HX7.out,zc8.out,jE.out.symm,HA7.out⟩
  have hput:putAt sl' tt=(sl'++ [tt],vP):=by rw [zl1, <-HNN.out,if_pos hneg,zc8.out]
  have hrow:=HX7.out.st.row
  rw [zc8.out] at hrow
  have qZ:=qh hrow
  have jE:=qh hput
  clear hrow hput
  have b0:=ze HX7.out.box 0
  have t0:=ze zpv.out 0
  have t1:=ze zpv.out 1
  have t2:=ze zpv.out 2
  go_wp2_with(at_builtin;go_must(refine zI _ rfl _ _ 45 rfl 42 (.agg #[.slice none 0 0, .slice none 0 0, .bool false]) 3 56 Tryz.underlying45 pJ rfl (by decide) W.heap.size (.slice (some ⟨eb',eo',none⟩) vP sc') vP (zbk.flatten) rfl ((qZ.out).alloc _) ⟨W7.heap.size,0,none⟩ 1 1 [.slice za zn zc, .slice zb yn yc, .bool tt.bad] rfl rfl (qY _ [.slice za zn zc, .slice zb yn yc, .bool tt.bad] _) (by simp [Value.oneCell']) (by unfold maxLen;omega) (by omega) (by have:=HX7.out.below.size;simp;omega) ?_);intro ja jc X f1 f2 f3 f4 f5 f6;have hbx:=zhn qZ.out HX7.out.box (by decide) f4;have k0:=ze hbx 0;have z0:=zA hbx 0;have HP:=qh (HX7.out.zkK HT7.out rfl (by rw [zc8.out];exact f1) f4 f5);have HA8:=qh (HA7.out.step (HX7.out.zxV f4 (.slice ja (vP+1) jc)) (λk hk=> .inl hk) (HX7.out.z5y f5));clear f1 f2 f3 f4 f5 f6 hbx)
  go_meet
  case rel=>exact⟨vP,vP+1,jc,ja,sl'++ [tt],_,rfl,HP.out,by rw [Hid,List.length_append,zc8.out];rfl,jE.out.symm,HA8.out⟩
 case rest=>
 obtain⟨pn,ps,pc,pa,pl,pcc,rfl,HX8,jS,jE,HA8⟩:=hcut
 obtain⟨W8,rfl⟩:∃W8:World,W8=wc:=⟨_,rfl⟩
 clear HX7 HA7 HT7 zpv HB7 HB2 HNN
 by_cases hfull:(rm:Int)<=(pn:Int)
 ·have hr:R=(⟨[], [], []⟩,40):=by
   rw [HRI.out,show rm+1 - i=(rm - i)+1 by omega,zcd (by rw [HSL.out];exact hlt), <-HSI.out, <-HMS.out,zzm.out, <-jE.out,if_pos hfull];rfl
  have HR:=qh hr
  have HB8:=qh HX8.out.below
  clear hr
  obtain⟨⟨q0,q1,q2⟩,⟨f0,f1,f2⟩,hend⟩:=zQ.out W8 HB8.out
  obtain⟨hset,hsn,hbe⟩:=hend (.slice none 0 0) (.slice none 0 0) (.slice none 0 0)
  have zJ:=qh hset
  have yO:=qh hbe
  have xJ:=qh hsn
  clear hset hbe hend hsn
  go_wp2_with fail
  (try simp only [Exit.inBlock,Exit.then])
  refine bodyPost_ret (zC rfl _ _ (gx+2) 49 _ (0,0) _ rfl zJ.out Tryz.underlying49 rfl kR) rfl ?_
  exact bQ HR.out yO.out
 have z5D:Hid (xX C M d rm s ms sl [] =xX C M d rm s (ms.drop (k+1)) pl (xl++ [(pn:Int)])):=by rw [Hid,zzm.out, <-jE.out,if_neg hfull]
 have hps:ps<=rm/\i<ps:=by
  have h1:=zrt sl' tt
  rw [<-jE.out,zc8.out] at h1
  simp only [] at h1
  rw [jS.out] at h1
  omega
 obtain⟨z5E,z5F⟩:=hps
 have hpc:=znm sl' tt
 rw [<-jE.out] at hpc
 simp only [] at hpc
 have hbp:∀j,j<ps->wX 33 (pl.getD j default):=λj hj=>by
  rcases hpc with e|e
  ·rw [e];exact HBK.out j (by rw [<-zc8.out, <-e,jS.out];exact hj)
  rw [e]
  by_cases e2:j=sl'.length
  ·subst e2;rw [jV];exact HBT.out
  have hj2:j<sl'.length:=by rw [<-jS.out,e,List.length_append] at hj;simp only [List.length_cons,List.length_nil] at hj;omega
  rw [j4 hj2];exact HBK.out j (by rw [<-zc8.out];exact hj2)
 have hsp:pl.getD i default=s:=by
  rcases hpc with e|e
  ·rw [e];exact HSK.out
  rw [e,j4 (by rw [zc8.out];exact hin)];exact HSK.out
 have HBP:=qh hbp
 have HSP:=qh hsp
 have hrow:=HX8.out.xr
 rw [HXL.out] at hrow
 have qZ:=qh hrow
 clear hpc hbp hsp hrow
 go_wp2_with(at_builtin;go_must(refine zI _ rfl _ _ 31 rfl 3 (.int .i64 0) 1 8 Tryz.underlying31 vg rfl (by decide) W.heap.size (.slice xa k xc) k (zo yM xl) rfl ((qZ.out).alloc _) ⟨W8.heap.size,0,none⟩ 1 1 [.int .i64 pn] rfl rfl (qY _ [.int .i64 pn] _) (by simp [Value.oneCell']) (by unfold maxLen;omega) (by omega) (by have:=HX8.out.below.size;simp;omega) ?_);intro ja jc X f1 f2 f3 f4 f5 f6;have HP:=qh (HX8.out.zkL (by rw [HXL.out];exact f1) f4 f5);have HA9:=qh (HA8.out.step (HX8.out.zxW f4) (λk hk=> .inl hk) (HX8.out.z5z f5));clear f1 f2 f3 f4 f5 f6)
 go_roundg (mn - (k+1))
 case measure=>rw [HG2.out];omega
 case rel=>exact⟨k+1,pa,ja,ps,pc,jc,pl,xl++ [(pn:Int)],pcc,by omega,rfl,rfl,by simp,z5F,z5E,HP.out,jS.out,by rw [Hid,List.length_append,HXL.out];rfl,z5D.out,HA9.out,HBP.out,HSP.out⟩
