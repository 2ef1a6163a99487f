/- Steps. -/
import Derived.Test.YtknmdmimecepfaaGreatDoorVgSame7
set_option linter.all false
namespace Go.Proofs.YtknmdmimecepfaaGreatDoor
open Go.RowKit
set_option maxRecDepth 100000
set_option maxHeartbeats 16000000
theorem zmD {l r:List Int} {i:Nat} (h1:i<l.length) (h2:i<r.length):yh (l.drop i) (r.drop i)=if zf8 (l.getD i 0) (r.getD i 0)≠0 then zf8 (l.getD i 0) (r.getD i 0) else yh (l.drop (i+1)) (r.drop (i+1)):=by
 rw [zoF h1 h2]
 unfold zf8
 by_cases h:l.getD i 0<r.getD i 0
 ·rw [if_pos h,if_pos h];rfl
 rw [if_neg h,if_neg h]
 by_cases h':r.getD i 0<l.getD i 0
 ·rw [if_pos h',if_pos h'];rfl
 rw [if_neg h',if_neg h'];rfl
theorem zmE {l r:List Int} (h:r.length<l.length):yh (l.drop r.length) (r.drop r.length)=1:=by
 rw [List.drop_length]
 cases hl:l.drop r.length with
 |nil=>have:=List.drop_eq_nil_iff.1 hl;omega
 |cons a q=>rfl
theorem zoG {l r:List Int} (h:l.length<=r.length):yh (l.drop l.length) (r.drop l.length)=if l.length<r.length then -1 else 0:=by
 rw [List.drop_length]
 cases hr:r.drop l.length with
 |nil=>have:=List.drop_eq_nil_iff.1 hr;rw [if_neg (by omega)];rfl
 |cons a q=>
 have:¬r.length<=l.length:=λe=>by rw [List.drop_eq_nil_iff.2 e] at hr;cases hr
 rw [if_pos (by omega)];rfl
theorem zhV (w:World) (X Y:List Int) (xv yv:Value) (hx:xX w xv X) (hy:xX w yv Y):
  Calls Tryz.prog 71 #[xv,yv] w λe w'=>e= .returned (.int .i64 (yh X Y))/\w=w':=by
 obtain⟨xa,xc,rfl,hxl⟩:=zh.slice hx
 obtain⟨ya,yc,rfl,hyl⟩:=zh.slice hy
 obtain⟨r,hr⟩:∃r,r=yh X Y:=⟨_,rfl⟩
 rw [<-hr]
 obtain⟨xn,hxn⟩:∃n,n=X.length:=⟨_,rfl⟩
 obtain⟨yn,hyn⟩:∃n,n=Y.length:=⟨_,rfl⟩
 rw [<-hxn] at hx hxl ⊢
 rw [<-hyn] at hy hyl ⊢
 have HX:=qh hx
 have HY:=qh hy
 have HXN:=qh hxn
 have HYN:=qh hyn
 have HR:=qh hr
 clear hx hy hxn hyn hr
 go_enter Tryz.func71,Tryz.ntmps71
 go_wp2_with fail
 go_loopg [11] xn (λgg s11 wr=>∃i:Nat,i<=xn/\i<=yn/\Hid (gg=xn - i)/\s11= .int .i64 i/\w=wr/\Hid (r=yh (X.drop i) (Y.drop i)))
 case atStart=>exact⟨0,Nat.zero_le _,Nat.zero_le _,rfl,rfl,rfl,HR.out⟩
 case round=>
 obtain⟨i,hi,hi2,HG,rfl,rfl,HJ⟩:=hrel
 by_cases hlx:i<xn
 rotate_left
 ·obtain rfl:xn=i:=by omega
  have hr1:r=if xn<yn then -1 else 0:=by rw [HJ.out,HXN.out,zoG (by rw [<-HXN.out, <-HYN.out];exact hi2), <-HYN.out]
  have HR1:=qh hr1
  clear hr1
  by_cases hxy:xn<yn
  ·have zvZ:(xn:Int)<(yn:Int):=by omega
   go_wp2_with fail
   go_ret
   exact⟨by rw [HR1.out,if_pos hxy];first|rfl|simp,rfl⟩
  have zvZ:¬(xn:Int)<(yn:Int):=by omega
  go_wp2_with fail
  go_ret
  exact⟨by rw [HR1.out,if_neg hxy];first|rfl|simp,rfl⟩
 have zy4:(i:Int)<(xn:Int):=by omega
 obtain⟨b1,o1,gB, -,x0⟩:=xX.part HX.out i (by rw [<-HXN.out];exact hlx)
 subst gB
 by_cases hly:i<yn
 rotate_left
 ·obtain rfl:yn=i:=by omega
  have hr1:r=1:=by rw [HJ.out,HYN.out,zmE (by rw [<-HXN.out, <-HYN.out];exact hlx)]
  have HR1:=qh hr1
  clear hr1
  go_wp2_with fail
  go_ret
  exact⟨by rw [HR1.out];first|rfl|simp,rfl⟩
 have zy5:(i:Int)<(yn:Int):=by omega
 have zy6:¬(yn:Int)<=(i:Int):=by omega
 obtain⟨b2,o2,wT, -,y0⟩:=xX.part HY.out i (by rw [<-HYN.out];exact hly)
 subst wT
 have hst:=zmD (l:=X) (r:=Y) (i:=i) (by rw [<-HXN.out];exact hlx) (by rw [<-HYN.out];exact hly)
 rw [<-HJ.out] at hst
 generalize X.getD i 0=p at x0 hst
 generalize Y.getD i 0=q at y0 hst
 have hcm:=λw=>ziG w p q
 generalize zf8 p q=c at hcm hst
 have HST:=qh hst
 have HCM:=qh hcm
 clear hst hcm
 by_cases hc:c=0
 ·subst hc
  have HJ2:Hid (r=yh (X.drop (i+1)) (Y.drop (i+1))):=by rw [Hid,HST.out,if_neg (by simp)]
  go_wp2_with(go_at_call 98;go_must(refine(HCM.out _).mono ?_);rintro e w' ⟨rfl,rfl⟩)
  go_roundg (xn - (i+1))
  case measure=>rw [HG.out];omega
  case rel=>exact⟨i+1,by omega,by omega,rfl,by simp,rfl,HJ2.out⟩
 have hrc:r=c:=by rw [HST.out,if_pos hc]
 have HRC:=qh hrc
 have hc2:((c:Int)==0)=false:=by simpa using hc
 have hc3:((c:Int) !=0)=true:=by simpa using hc
 clear hrc
 go_wp2_with(go_at_call 98;go_must(refine(HCM.out _).mono ?_);rintro e w' ⟨rfl,rfl⟩)
 go_ret
 exact⟨by rw [HRC.out];first|rfl|simp,rfl⟩
theorem zga (w:World) (a b:yt) (ma ra mb rb:Value) (ha:jl w a ma ra) (hb:jl w b mb rb) (hfa:zcv a) (hfb:zcv b):
  Calls Tryz.prog 48 #[bC ma ra,bC mb rb] w λe w'=>e= .returned (.int .i64 (yh (zL a) (zL b)))/\Below w.heap.size w w'/\w.drawn<=w'.drawn:=by
 obtain⟨ma1,mac,rfl, -⟩:=zh.slice ha.mem
 obtain⟨ra1,rac,rfl, -⟩:=zh.slice ha.regs
 obtain⟨mb1,mbc,rfl, -⟩:=zh.slice hb.mem
 obtain⟨rb1,rbc,rfl, -⟩:=zh.slice hb.regs
 obtain⟨X,hX⟩:∃X,X=zL a:=⟨_,rfl⟩
 obtain⟨Y,hY⟩:∃Y,Y=zL b:=⟨_,rfl⟩
 obtain⟨xn,hxn⟩:∃n,n=X.length:=⟨_,rfl⟩
 obtain⟨yn,hyn⟩:∃n,n=Y.length:=⟨_,rfl⟩
 have h1:=λW (h:Below w.heap.size w W)=>zhX W a _ _ (ha.below h) hfa
 have h2:=λW (h:Below w.heap.size w W)=>zhX W b _ _ (hb.below h) hfb
 rw [<-hX, <-hxn] at h1
 rw [<-hY, <-hyn] at h2
 rw [<-hX, <-hY]
 unfold bC at h1 h2 ⊢
 generalize a.mem.length=n1 at h1 ⊢
 generalize a.regs.length=n2 at h1 ⊢
 generalize b.mem.length=n3 at h2 ⊢
 generalize b.regs.length=n4 at h2 ⊢
 have hB:=qJ w (.cells #[.slice ma1 n1 mac, .slice ra1 n2 rac] 111) (.cells #[.slice mb1 n3 mbc, .slice rb1 n4 rbc] 111)
 have H1:=qh (qm w (.cells #[.slice ma1 n1 mac, .slice ra1 n2 rac] 111) (.cells #[.slice mb1 n3 mbc, .slice rb1 n4 rbc] 111))
 have H2:=qh (xA w (.cells #[.slice ma1 n1 mac, .slice ra1 n2 rac] 111) (.cells #[.slice mb1 n3 mbc, .slice rb1 n4 rbc] 111))
 have HD0:Hid (w.drawn<=((w.alloc (.cells #[.slice ma1 n1 mac, .slice ra1 n2 rac] 111)).alloc (.cells #[.slice mb1 n3 mbc, .slice rb1 n4 rbc] 111)).drawn):=Nat.le_refl _
 have HB:=qh hB
 have HXN:=qh hxn
 have HYN:=qh hyn
 have HA:=qh h1
 have HBB:=qh h2
 obtain⟨r,hr⟩:∃r,r=yh X Y:=⟨_,rfl⟩
 have HR:=qh hr
 rw [<-hr]
 clear ha hb hfa hfb hX hY hxn hyn h1 h2 hB hr
 go_enter Tryz.func48,Tryz.ntmps48
 go_upto_region 1 with fail
 generalize World.alloc (World.alloc w _) _=W at HB HD0 H1 H2 ⊢
 obtain⟨gx,hgx⟩:∃gx,gx=w.heap.size:=⟨_,rfl⟩
 rw [<-hgx] at H1 H2 ⊢
 clear hgx
 have zZ:Hid (∀x,Below W.heap.size W x->Below w.heap.size w x):=λx hx=>HB.out.trans (hx.mono HB.out.size)
 have HC:Hid (∀x,Below W.heap.size W x->x.cell? ⟨gx,0,none⟩=some (.slice ma1 n1 mac)/\x.cell? ⟨gx,1,none⟩=some (.slice ra1 n2 rac)/\x.cell? ⟨gx+1,0,none⟩=some (.slice mb1 n3 mbc)/\x.cell? ⟨gx+1,1,none⟩=some (.slice rb1 n4 rbc)):=λx hx=>
  ⟨zi hx _ _ (za H1.out 0),zi hx _ _ (za H1.out 1),zi hx _ _ (za H2.out 0),zi hx _ _ (za H2.out 1)⟩
 refine kP (S:=λx=>Below W.heap.size W x) (Below.refl _ _).drew (λhH=> ?_)
 refine zk 0 HC.out ?_
 refine zk 2 HC.out ?_
 refine yZ 1 rfl (λK hK=> ?_)
 go_simp
 refine(HA.out W.drew (zZ.out _ hH)).mono ?_
 rintro e hw1 ⟨⟨fa,fc,rfl,hro⟩,hb,hd⟩
 have zt9:=qh hro
 have HD1:Hid (w.drawn<=hw1.drawn):=Nat.le_trans HD0.out (Nat.le_trans (Nat.le_succ _) hd)
 clear hro hd
 have zk7:Below W.heap.size W hw1:=zm hH hb
 refine hK.out _ _ zk7 (λ_=> ?_)
 clear hK K hb hH
 refine yZ 3 rfl (λK hK=> ?_)
 go_simp
 refine(HBB.out hw1 (zZ.out _ zk7)).mono ?_
 rintro e hw3 ⟨⟨ga,gc,rfl,hro⟩,hb,hd⟩
 have uQ:=qh hro
 have HX2:=qh (zh.below za5.stays (zcK (by rw [<-HXN.out];exact zt9.out)) hb)
 have HDD:=qh (Nat.le_trans HD1.out hd)
 clear hro hd
 have zoH:Below W.heap.size W hw3:=zm zk7 hb
 refine hK.out _ _ zoH (λ_=> ?_)
 clear hK K hb zk7
 refine yZ 4 rfl (λK hK=> ?_)
 go_simp
 refine(zhV hw3 X Y _ _ HX2.out (zcK (by rw [<-HYN.out];exact uQ.out))).mono ?_
 rintro e hw4 ⟨rfl,hww⟩
 rw [<-HR.out]
 have hb:Below hw3.heap.size hw3 hw4:=by rw [<-hww];exact Below.refl _ _
 replace HDD:Hid (w.drawn<=hw4.drawn):=by rw [<-hww];exact HDD.out
 clear hww
 have zoI:Below W.heap.size W hw4:=zm zoH hb
 refine hK.out _ _ zoI (λ_=> ?_)
 clear hK K hb zoH
 refine zk 5 HC.out ?_
 refine vE ?_
 have HBE:=qh zoI
 clear zoI
 go_wp2_with fail
 go_ret
 exact⟨by first|rfl|simp,zZ.out _ HBE.out,HDD.out⟩
abbrev vo:=yt × List Value
def pQ (p q:vo):Bool:=decide (yh (zL p.1) (zL q.1)=0) && decide (p.1.mem.length=q.1.mem.length)
def zV (P:List vo):Nat->List vo
 |0=> []
 |i+1=>if i=0\/pQ (P.getD i default) (P.getD (i - 1) default)=false then zV P i++ [P.getD i default] else zV P i
theorem zkd (P:List vo) (i:Nat):(zV P i).length<=i:=by
 induction i with
 |zero=>simp [zV]
 |succ i ih=>
 unfold zV
 split
 ·rw [List.length_append];simp only [List.length_cons,List.length_nil];omega
 omega
theorem zaG {P:List vo} {k:Nat} (hk:k<=P.length) (h:∀j,1<=j->j<k->pQ (P.getD j default) (P.getD (j - 1) default)=false):zV P k=P.take k:=by
 induction k with
 |zero=>simp [zV]
 |succ k ih=>
 have hk':k<P.length:=by omega
 unfold zV
 have hc:k=0\/pQ (P.getD k default) (P.getD (k - 1) default)=false:=by
  rcases Nat.eq_zero_or_pos k with e|e
  ·exact .inl e
  exact .inr (h k e (by omega))
 rw [if_pos hc,ih (by omega) (λj h1 h2=>h j h1 (by omega)),List.take_succ_eq_append_getElem hk',List.getD_eq_getElem?_getD,List.getElem?_eq_getElem hk'];rfl
theorem ze8 {P:List vo} {i:Nat} (h:pQ (P.getD i default) (P.getD (i - 1) default)=false):zV P (i+1)=zV P i++ [P.getD i default] :=by
 conv=>lhs;unfold zV
 rw [if_pos (.inr h)]
theorem zcu {P:List vo} {i:Nat} (h0:0<i) (h:pQ (P.getD i default) (P.getD (i - 1) default)=true):zV P (i+1)=zV P i:=by
 conv=>lhs;unfold zV
 rw [if_neg]
 rintro(e|e)
 ·omega
 rw [h] at e;cases e
theorem ze9 {P:List vo} {i:Nat} (hi:i<=P.length) {p:vo} (h:p∈zV P i):p∈P:=by
 induction i with
 |zero=>simp [zV] at h
 |succ i ih=>
 unfold zV at h
 split at h
 ·rcases List.mem_append.1 h with h|h
  ·exact ih (by omega) h
  rw [List.mem_singleton.1 h];exact yL (by omega)
 exact ih (by omega) h
def qV (P:List vo):List Value:=P.flatMap (·.2)
theorem jS:∀ {P:List vo} {j i:Nat},(∀p∈P,p.2.length=2)->j<P.length->i<2->(qV P)[j*2+i]? =(P.getD j default).2[i]? :=by
 intro P
 induction P with
 |nil=>intro j i _ hj;simp at hj
 |cons p P ih=>
 intro j i h hj hi
 have h0:=h p (List.mem_cons_self ..)
 simp only [qV,List.flatMap_cons] at ih ⊢
 cases j with
 |zero=>rw [Nat.zero_mul,Nat.zero_add,List.getElem?_append_left (by rw [h0];exact hi)];rfl
 |succ j=>
 rw [List.getElem?_append_right (by rw [h0,Nat.add_mul];omega),h0,show(j+1)*2+i - 2=j*2+i by omega]
 exact ih (λq hq=>h q (List.mem_cons_of_mem _ hq)) (by simpa using hj) hi
theorem zk0 {P:List vo} (h:∀p∈P,p.2.length=2):(qV P).length=P.length*2:=by
 induction P with
 |nil=>rfl
 |cons p P ih=>
 have h0:=h p (List.mem_cons_self ..)
 have h1:=ih (λq hq=>h q (List.mem_cons_of_mem _ hq))
 simp only [qV,List.flatMap_cons,List.length_append,List.length_cons] at h1 ⊢
 rw [h1,h0];omega
theorem zk8:∀ {P:List vo} {j:Nat} {f:yt} {a b:Value},(∀p∈P,p.2.length=2)->j<P.length->qV (P.set j (f, [a,b]))=((qV P).set (j*2) a).set (j*2+1) b:=by
 intro P
 induction P with
 |nil=>intro j f a b _ hj;simp at hj
 |cons p P ih=>
 intro j f a b h hj
 obtain⟨pf,pc⟩:=p
 have h0:pc.length=2:=h _ (List.mem_cons_self ..)
 obtain⟨x,y,rfl⟩:∃x y,pc= [x,y] :=by
  match pc,h0 with
  | [x,y],_=>exact⟨x,y,rfl⟩
 cases j with
 |zero=>simp [qV]
 |succ j=>
 have:=ih (f:=f) (a:=a) (b:=b) (λq hq=>h q (List.mem_cons_of_mem _ hq)) (by simpa using hj)
 simp only [qV,List.set_cons_succ,List.flatMap_cons,List.cons_append,List.nil_append] at this ⊢
 rw [this,show(j+1)*2=j*2+1+1 by omega,List.set_cons_succ,List.set_cons_succ,List.set_cons_succ,List.set_cons_succ]
theorem zhY {P:Program} (w:World) {ops:Array Oper} {rest:List Oper} {o:Oper} {a:Act} {Q:Exit->Act->World->Prop} (hgd:o.guard=none) (x:Operand) (t:TypeId)
  (ho:o.op= .call { callee:= .builtin .clear,args:= #[x],argTypes:= #[t] }) (e:TypeId) (z:Value) (ht:P.underlying t=some (.slice e)) (hz:∀w,(zeroValue e).run P w= .ok z w) (h1:∀v∈z.cells.toList,v.oneCell'=true)
  (g off m c:Nat) (hx:a.eval x= .slice (some ⟨g,off,none⟩) m c) (hm:0<m) (cur:Array Value) (te:TypeId) (hg:w.heap[g]? =some (.cells cur te (0,0))) (hroom:off+m*z.cells.size<=cur.size)
  (h:∀w' cur',w'.heap[g]? =some (.cells cur' te (0,0))->cur'.size=cur.size->(∀j,j<off->cur'[j]? =cur[j]?)->Since (λk=>k=g) w w'->wpList P ops Q rest (a.put o.dst (.tuple #[])) w'):wpList P ops Q (o::rest) a w:=by
 have hlen:(Builtin.zeroCells z.cells m).toList.length=m*z.cells.size:=by simp [Builtin.zeroCells]
 have hone:∀v∈(Builtin.zeroCells z.cells m).toList,v.oneCell'=true:=by
  intro v hv
  rcases Nat.eq_zero_or_pos z.cells.size with hs|hs
  ·have hnil:(Builtin.zeroCells z.cells m).toList= [] :=List.eq_nil_of_length_eq_zero (by rw [hlen,hs];simp)
   rw [hnil] at hv;cases hv
  simp only [Builtin.zeroCells,Array.toList_map,List.mem_map] at hv
  obtain⟨i, -,rfl⟩:=hv
  rw [getElem!_pos z.cells (i % z.cells.size) (Nat.mod_lt _ hs)]
  exact h1 _ (by simp)
 have hs:=run_storeCells_at (P:=P) g off te (Builtin.zeroCells z.cells m).toList 0 cur w hg (by rw [hlen];omega) hone
 obtain⟨m',rfl⟩:∃m',m=m'+1:=⟨m - 1,by omega⟩
 refine wpList_plain hgd λ_ hK=> ?_
 unfold Oper.wp execOp
 simp only [ho,resolve,invoke,builtin,Sem.run_bind,Sem.run_pure,Result.andThen_ok,List.map_toArray,List.map_cons,List.map_nil,hx]
 simp only [Builtin.clear_,Sem.run_bind,run_underlying ht,Result.andThen_ok,hz,hs,Sem.run_pure,List.getElem?_toArray,List.getElem?_cons_zero]
 refine hK _ _ (h _ _ (setRow_heap w g cur _ te (0,0) hg) ?_ ?_ ⟨rfl,rfl,rfl,by simp,λk _ hne=>setRow_other _ _ _ _ hne⟩)
 ·simp only [List.size_toArray,List.length_append,List.length_take,List.length_drop,Array.length_toList,hlen]
  omega
 intro j hj
 rw [List.getElem?_toArray,List.append_assoc,List.getElem?_append_left (by simp;omega),List.getElem?_take_of_lt (by omega)]
 simp
