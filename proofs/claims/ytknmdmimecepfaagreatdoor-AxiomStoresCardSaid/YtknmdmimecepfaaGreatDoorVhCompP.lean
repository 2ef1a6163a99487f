/- Steps. -/
import Derived.Test.YtknmdmimecepfaaGreatDoorVhClone
set_option linter.all false
namespace Go.Proofs.YtknmdmimecepfaaGreatDoor
open Go.RowKit
set_option maxRecDepth 100000
set_option maxHeartbeats 16000000
theorem ziI {l r:List Int} {i:Nat} (h1:i<l.length) (h2:i<r.length):zG (l.drop i) (r.drop i)=if zd1 (l.getD i 0) (r.getD i 0)≠0 then zd1 (l.getD i 0) (r.getD i 0) else zG (l.drop (i+1)) (r.drop (i+1)):=by
 rw [ze9 h1 h2]
 unfold zd1
 by_cases h:l.getD i 0<r.getD i 0
 ·rw [if_pos h,if_pos h];rfl
 rw [if_neg h,if_neg h]
 by_cases h':r.getD i 0<l.getD i 0
 ·rw [if_pos h',if_pos h'];rfl
 rw [if_neg h',if_neg h'];rfl
theorem ziJ {l r:List Int} (h:r.length<l.length):zG (l.drop r.length) (r.drop r.length)=1:=by
 rw [List.drop_length]
 cases hl:l.drop r.length with
 |nil=>have:=List.drop_eq_nil_iff.1 hl;omega
 |cons a q=>rfl
theorem zkr {l r:List Int} (h:l.length<=r.length):zG (l.drop l.length) (r.drop l.length)=if l.length<r.length then -1 else 0:=by
 rw [List.drop_length]
 cases hr:r.drop l.length with
 |nil=>have:=List.drop_eq_nil_iff.1 hr;rw [if_neg (by omega)];rfl
 |cons a q=>
 have:¬r.length<=l.length:=λe=>by rw [List.drop_eq_nil_iff.2 e] at hr;cases hr
 rw [if_pos (by omega)];rfl
theorem zeL (w:World) (X Y:List Int) (xv yv:Value) (hx:xJ w xv X) (hy:xJ w yv Y):
  Calls Tryz.prog 71 #[xv,yv] w λe w'=>e= .returned (.int .i64 (zG X Y))/\w=w':=by
 obtain⟨xa,xc,rfl,hxl⟩:=zf.slice hx
 obtain⟨ya,yc,rfl,hyl⟩:=zf.slice hy
 obtain⟨r,hr⟩:∃r,r=zG X Y:=⟨_,rfl⟩
 rw [<-hr]
 obtain⟨xn,hxn⟩:∃n,n=X.length:=⟨_,rfl⟩
 obtain⟨yn,hyn⟩:∃n,n=Y.length:=⟨_,rfl⟩
 rw [<-hxn] at hx hxl ⊢
 rw [<-hyn] at hy hyl ⊢
 have HX:=qh hx
 have HY:=qh hy
 have uX:=qh hxn
 have uF:=qh hyn
 have HR:=qh hr
 clear hx hy hxn hyn hr
 go_enter Tryz.func71,Tryz.ntmps71
 go_wp2_with fail
 go_loopg [11] xn (λgg s11 wr=>∃i:Nat,i<=xn/\i<=yn/\Hid (gg=xn - i)/\s11= .int .i64 i/\w=wr/\Hid (r=zG (X.drop i) (Y.drop i)))
 case atStart=>exact⟨0,Nat.zero_le _,Nat.zero_le _,rfl,rfl,rfl,HR.out⟩
 case round=>
 obtain⟨i,hi,hi2,HG,rfl,rfl,HJ⟩:=hrel
 by_cases hlx:i<xn
 rotate_left
 ·obtain rfl:xn=i:=by omega
  have hr1:r=if xn<yn then -1 else 0:=by rw [HJ.out,uX.out,zkr (by rw [<-uX.out, <-uF.out];exact hi2), <-uF.out]
  have HR1:=qh hr1
  clear hr1
  by_cases hxy:xn<yn
  ·have zqI:(xn:Int)<(yn:Int):=by omega
   go_wp2_with fail
   go_ret
   exact⟨by rw [HR1.out,if_pos hxy];first|rfl|simp,rfl⟩
  have zqI:¬(xn:Int)<(yn:Int):=by omega
  go_wp2_with fail
  go_ret
  exact⟨by rw [HR1.out,if_neg hxy];first|rfl|simp,rfl⟩
 have zke:(i:Int)<(xn:Int):=by omega
 obtain⟨b1,o1,hea, -,x0⟩:=xJ.part HX.out i (by rw [<-uX.out];exact hlx)
 subst hea
 by_cases hly:i<yn
 rotate_left
 ·obtain rfl:yn=i:=by omega
  have hr1:r=1:=by rw [HJ.out,uF.out,ziJ (by rw [<-uX.out, <-uF.out];exact hlx)]
  have HR1:=qh hr1
  clear hr1
  go_wp2_with fail
  go_ret
  exact⟨by rw [HR1.out];first|rfl|simp,rfl⟩
 have zne:(i:Int)<(yn:Int):=by omega
 have ztm:¬(yn:Int)<=(i:Int):=by omega
 obtain⟨b2,o2,pE, -,y0⟩:=xJ.part HY.out i (by rw [<-uF.out];exact hly)
 subst pE
 have hst:=ziI (l:=X) (r:=Y) (i:=i) (by rw [<-uX.out];exact hlx) (by rw [<-uF.out];exact hly)
 rw [<-HJ.out] at hst
 generalize X.getD i 0=p at x0 hst
 generalize Y.getD i 0=q at y0 hst
 have hcm:=λw=>zga w p q
 generalize zd1 p q=c at hcm hst
 have HST:=qh hst
 have HCM:=qh hcm
 clear hst hcm
 by_cases hc:c=0
 ·subst hc
  have HJ2:Hid (r=zG (X.drop (i+1)) (Y.drop (i+1))):=by rw [Hid,HST.out,if_neg (by simp)]
  go_wp2_with(go_at_call 98;go_must(refine(HCM.out _).mono ?_);rintro e w' ⟨rfl,rfl⟩)
  go_roundg (xn - (i+1))
  case measure=>rw [HG.out];omega
  case rel=>exact⟨i+1,by omega,by omega,rfl,by simp,rfl,HJ2.out⟩
 have hrc:r=c:=by rw [HST.out,if_pos hc]
 have HRC:=qh hrc
 have hc2:((c:Int)==0)=false:=by simpa using hc
 have hc3:((c:Int) !=0)=true:=by simpa using hc
 clear hrc
 go_wp2_with(go_at_call 98;go_must(refine(HCM.out _).mono ?_);rintro e w' ⟨rfl,rfl⟩)
 go_ret
 exact⟨by rw [HRC.out];first|rfl|simp,rfl⟩
theorem zdL (w:World) (a b:zy) (ma ra mb rb:Value) (ha:xM w a ma ra) (hb:xM w b mb rb) (hfa:j4 a) (gI:j4 b):
  Calls Tryz.prog 48 #[qg ma ra,qg mb rb] w λe w'=>e= .returned (.int .i64 (zG (zu a) (zu b)))/\Below w.heap.size w w'/\w.drawn<=w'.drawn:=by
 obtain⟨jC,jD,rfl, -⟩:=zf.slice ha.mem
 obtain⟨jE,jF,rfl, -⟩:=zf.slice ha.regs
 obtain⟨jG,jH,rfl, -⟩:=zf.slice hb.mem
 obtain⟨jI,jJ,rfl, -⟩:=zf.slice hb.regs
 obtain⟨X,hX⟩:∃X,X=zu a:=⟨_,rfl⟩
 obtain⟨Y,hY⟩:∃Y,Y=zu b:=⟨_,rfl⟩
 obtain⟨xn,hxn⟩:∃n,n=X.length:=⟨_,rfl⟩
 obtain⟨yn,hyn⟩:∃n,n=Y.length:=⟨_,rfl⟩
 have h1:=λW (h:Below w.heap.size w W)=>zeM W a _ _ (ha.below h) hfa
 have h2:=λW (h:Below w.heap.size w W)=>zeM W b _ _ (hb.below h) gI
 rw [<-hX, <-hxn] at h1
 rw [<-hY, <-hyn] at h2
 rw [<-hX, <-hY]
 unfold qg at h1 h2 ⊢
 generalize a.mem.length=n1 at h1 ⊢
 generalize a.regs.length=n2 at h1 ⊢
 generalize b.mem.length=n3 at h2 ⊢
 generalize b.regs.length=n4 at h2 ⊢
 have hB:=xH w (.cells #[.slice jC n1 jD, .slice jE n2 jF] 111) (.cells #[.slice jG n3 jH, .slice jI n4 jJ] 111)
 have H1:=qh (xI w (.cells #[.slice jC n1 jD, .slice jE n2 jF] 111) (.cells #[.slice jG n3 jH, .slice jI n4 jJ] 111))
 have H2:=qh (xu w (.cells #[.slice jC n1 jD, .slice jE n2 jF] 111) (.cells #[.slice jG n3 jH, .slice jI n4 jJ] 111))
 have HD0:Hid (w.drawn<=((w.alloc (.cells #[.slice jC n1 jD, .slice jE n2 jF] 111)).alloc (.cells #[.slice jG n3 jH, .slice jI n4 jJ] 111)).drawn):=Nat.le_refl _
 have HB:=qh hB
 have uX:=qh hxn
 have uF:=qh hyn
 have HA:=qh h1
 have HBB:=qh h2
 obtain⟨r,hr⟩:∃r,r=zG X Y:=⟨_,rfl⟩
 have HR:=qh hr
 rw [<-hr]
 clear ha hb hfa gI hX hY hxn hyn h1 h2 hB hr
 go_enter Tryz.func48,Tryz.ntmps48
 go_upto_region 1 with fail
 generalize World.alloc (World.alloc w _) _=W at HB HD0 H1 H2 ⊢
 obtain⟨gx,hgx⟩:∃gx,gx=w.heap.size:=⟨_,rfl⟩
 rw [<-hgx] at H1 H2 ⊢
 clear hgx
 have zU:Hid (∀x,Below W.heap.size W x->Below w.heap.size w x):=λx hx=>HB.out.trans (hx.mono HB.out.size)
 have HC:Hid (∀x,Below W.heap.size W x->x.cell? ⟨gx,0,none⟩=some (.slice jC n1 jD)/\x.cell? ⟨gx,1,none⟩=some (.slice jE n2 jF)/\x.cell? ⟨gx+1,0,none⟩=some (.slice jG n3 jH)/\x.cell? ⟨gx+1,1,none⟩=some (.slice jI n4 jJ)):=λx hx=>
  ⟨zk hx _ _ (ze H1.out 0),zk hx _ _ (ze H1.out 1),zk hx _ _ (ze H2.out 0),zk hx _ _ (ze H2.out 1)⟩
 refine vP (S:=λx=>Below W.heap.size W x) (Below.refl _ _).drew (λhH=> ?_)
 refine zh 0 HC.out ?_
 refine zh 2 HC.out ?_
 refine qG 1 rfl (λK hK=> ?_)
 go_simp
 refine(HA.out W.drew (zU.out _ hH)).mono ?_
 rintro e hw1 ⟨⟨fa,fc,rfl,hro⟩,hb,hd⟩
 have zc7:=qh hro
 have HD1:Hid (w.drawn<=hw1.drawn):=Nat.le_trans HD0.out (Nat.le_trans (Nat.le_succ _) hd)
 clear hro hd
 have zaj:Below W.heap.size W hw1:=zn hH hb
 refine hK.out _ _ zaj (λ_=> ?_)
 clear hK K hb hH
 refine qG 3 rfl (λK hK=> ?_)
 go_simp
 refine(HBB.out hw1 (zU.out _ zaj)).mono ?_
 rintro e hw3 ⟨⟨ga,gc,rfl,hro⟩,hb,hd⟩
 have zak:=qh hro
 have HX2:=qh (zf.below uy.stays (bV (by rw [<-uX.out];exact zc7.out)) hb)
 have HDD:=qh (Nat.le_trans HD1.out hd)
 clear hro hd
 have zcn:Below W.heap.size W hw3:=zn zaj hb
 refine hK.out _ _ zcn (λ_=> ?_)
 clear hK K hb zaj
 refine qG 4 rfl (λK hK=> ?_)
 go_simp
 refine(zeL hw3 X Y _ _ HX2.out (bV (by rw [<-uF.out];exact zak.out))).mono ?_
 rintro e hw4 ⟨rfl,hww⟩
 rw [<-HR.out]
 have hb:Below hw3.heap.size hw3 hw4:=by rw [<-hww];exact Below.refl _ _
 replace HDD:Hid (w.drawn<=hw4.drawn):=by rw [<-hww];exact HDD.out
 clear hww
 have zks:Below W.heap.size W hw4:=zn zcn hb
 refine hK.out _ _ zks (λ_=> ?_)
 clear hK K hb zcn
 refine zh 5 HC.out ?_
 refine vK ?_
 have HBE:=qh zks
 clear zks
 go_wp2_with fail
 go_ret
 exact⟨by first|rfl|simp,zU.out _ HBE.out,HDD.out⟩
abbrev qj:=zy × List Value
def uK (p q:qj):Bool:=decide (zG (zu p.1) (zu q.1)=0) && decide (p.1.mem.length=q.1.mem.length)
def zK (P:List qj):Nat->List qj
 |0=> []
 |i+1=>if i=0\/uK (P.getD i default) (P.getD (i - 1) default)=false then zK P i++ [P.getD i default] else zK P i
theorem zhu (P:List qj) (i:Nat):(zK P i).length<=i:=by
 induction i with
 |zero=>simp [zK]
 |succ i ih=>
 unfold zK
 split
 ·rw [List.length_append];simp only [List.length_cons,List.length_nil];omega
 omega
theorem bM {P:List qj} {k:Nat} (hk:k<=P.length) (h:∀j,1<=j->j<k->uK (P.getD j default) (P.getD (j - 1) default)=false):zK P k=P.take k:=by
 induction k with
 |zero=>simp [zK]
 |succ k ih=>
 have hk':k<P.length:=by omega
 unfold zK
 have hc:k=0\/uK (P.getD k default) (P.getD (k - 1) default)=false:=by
  rcases Nat.eq_zero_or_pos k with e|e
  ·exact .inl e
  exact .inr (h k e (by omega))
 rw [if_pos hc,ih (by omega) (λj h1 h2=>h j h1 (by omega)),List.take_succ_eq_append_getElem hk',List.getD_eq_getElem?_getD,List.getElem?_eq_getElem hk'];rfl
theorem zcF {P:List qj} {i:Nat} (h:uK (P.getD i default) (P.getD (i - 1) default)=false):zK P (i+1)=zK P i++ [P.getD i default] :=by
 conv=>lhs;unfold zK
 rw [if_pos (.inr h)]
theorem zaV {P:List qj} {i:Nat} (h0:0<i) (h:uK (P.getD i default) (P.getD (i - 1) default)=true):zK P (i+1)=zK P i:=by
 conv=>lhs;unfold zK
 rw [if_neg]
 rintro(e|e)
 ·omega
 rw [h] at e;cases e
theorem zcG {P:List qj} {i:Nat} (hi:i<=P.length) {p:qj} (h:p∈zK P i):p∈P:=by
 induction i with
 |zero=>simp [zK] at h
 |succ i ih=>
 unfold zK at h
 split at h
 ·rcases List.mem_append.1 h with h|h
  ·exact ih (by omega) h
  rw [List.mem_singleton.1 h];exact zV (by omega)
 exact ih (by omega) h
def xW (P:List qj):List Value:=P.flatMap (·.2)
theorem vV:∀ {P:List qj} {j i:Nat},(∀p∈P,p.2.length=2)->j<P.length->i<2->(xW P)[j*2+i]? =(P.getD j default).2[i]? :=by
 intro P
 induction P with
 |nil=>intro j i _ hj;simp at hj
 |cons p P ih=>
 intro j i h hj hi
 have h0:=h p (List.mem_cons_self ..)
 simp only [xW,List.flatMap_cons] at ih ⊢
 cases j with
 |zero=>rw [Nat.zero_mul,Nat.zero_add,List.getElem?_append_left (by rw [h0];exact hi)];rfl
 |succ j=>
 rw [List.getElem?_append_right (by rw [h0,Nat.add_mul];omega),h0,show(j+1)*2+i - 2=j*2+i by omega]
 exact ih (λq hq=>h q (List.mem_cons_of_mem _ hq)) (by simpa using hj) hi
theorem zhv {P:List qj} (h:∀p∈P,p.2.length=2):(xW P).length=P.length*2:=by
 induction P with
 |nil=>rfl
 |cons p P ih=>
 have h0:=h p (List.mem_cons_self ..)
 have h1:=ih (λq hq=>h q (List.mem_cons_of_mem _ hq))
 simp only [xW,List.flatMap_cons,List.length_append,List.length_cons] at h1 ⊢
 rw [h1,h0];omega
theorem zhw:∀ {P:List qj} {j:Nat} {f:zy} {a b:Value},(∀p∈P,p.2.length=2)->j<P.length->xW (P.set j (f, [a,b]))=((xW P).set (j*2) a).set (j*2+1) b:=by
 intro P
 induction P with
 |nil=>intro j f a b _ hj;simp at hj
 |cons p P ih=>
 intro j f a b h hj
 obtain⟨pf,pc⟩:=p
 have h0:pc.length=2:=h _ (List.mem_cons_self ..)
 obtain⟨x,y,rfl⟩:∃x y,pc= [x,y] :=by
  match pc,h0 with
  | [x,y],_=>exact⟨x,y,rfl⟩
 cases j with
 |zero=>simp [xW]
 |succ j=>
 have:=ih (f:=f) (a:=a) (b:=b) (λq hq=>h q (List.mem_cons_of_mem _ hq)) (by simpa using hj)
 simp only [xW,List.set_cons_succ,List.flatMap_cons,List.cons_append,List.nil_append] at this ⊢
 rw [this,show(j+1)*2=j*2+1+1 by omega,List.set_cons_succ,List.set_cons_succ,List.set_cons_succ,List.set_cons_succ]
theorem zeN {P:Program} (w:World) {ops:Array Oper} {rest:List Oper} {o:Oper} {a:Act} {Q:Exit->Act->World->Prop} (hgd:o.guard=none) (x:Operand) (t:TypeId)
  (ho:o.op= .call { callee:= .builtin .clear,args:= #[x],argTypes:= #[t] }) (e:TypeId) (z:Value) (ht:P.underlying t=some (.slice e)) (hz:∀w,(zeroValue e).run P w= .ok z w) (h1:∀v∈z.cells.toList,v.oneCell'=true)
  (g off m c:Nat) (hx:a.eval x= .slice (some ⟨g,off,none⟩) m c) (hm:0<m) (cur:Array Value) (te:TypeId) (hg:w.heap[g]? =some (.cells cur te (0,0))) (hroom:off+m*z.cells.size<=cur.size)
  (h:∀w' cur',w'.heap[g]? =some (.cells cur' te (0,0))->cur'.size=cur.size->(∀j,j<off->cur'[j]? =cur[j]?)->Since (λk=>k=g) w w'->wpList P ops Q rest (a.put o.dst (.tuple #[])) w'):wpList P ops Q (o::rest) a w:=by
 have hlen:(Builtin.zeroCells z.cells m).toList.length=m*z.cells.size:=by simp [Builtin.zeroCells]
 have hone:∀v∈(Builtin.zeroCells z.cells m).toList,v.oneCell'=true:=by
  intro v hv
  rcases Nat.eq_zero_or_pos z.cells.size with hs|hs
  ·have hnil:(Builtin.zeroCells z.cells m).toList= [] :=List.eq_nil_of_length_eq_zero (by rw [hlen,hs];simp)
   rw [hnil] at hv;cases hv
  simp only [Builtin.zeroCells,Array.toList_map,List.mem_map] at hv
  obtain⟨i, -,rfl⟩:=hv
  rw [getElem!_pos z.cells (i % z.cells.size) (Nat.mod_lt _ hs)]
  exact h1 _ (by simp)
 have hs:=run_storeCells_at (P:=P) g off te (Builtin.zeroCells z.cells m).toList 0 cur w hg (by rw [hlen];omega) hone
 obtain⟨m',rfl⟩:∃m',m=m'+1:=⟨m - 1,by omega⟩
 refine wpList_plain hgd λ_ hK=> ?_
 unfold Oper.wp execOp
 simp only [ho,resolve,invoke,builtin,Sem.run_bind,Sem.run_pure,Result.andThen_ok,List.map_toArray,List.map_cons,List.map_nil,hx]
 simp only [Builtin.clear_,Sem.run_bind,run_underlying ht,Result.andThen_ok,hz,hs,Sem.run_pure,List.getElem?_toArray,List.getElem?_cons_zero]
 refine hK _ _ (h _ _ (setRow_heap w g cur _ te (0,0) hg) ?_ ?_ ⟨rfl,rfl,rfl,by simp,λk _ hne=>setRow_other _ _ _ _ hne⟩)
 ·simp only [List.size_toArray,List.length_append,List.length_take,List.length_drop,Array.length_toList,hlen]
  omega
 intro j hj
 rw [List.getElem?_toArray,List.append_assoc,List.getElem?_append_left (by simp;omega),List.getElem?_take_of_lt (by omega)]
 simp
