/- Steps. -/
import Derived.Shelf.SlSortCmp.NoneTotal
import Derived.Test.YtknmdmimecepfaaGreatDoorVhCompact
set_option linter.all false
namespace Go.Proofs.YtknmdmimecepfaaGreatDoor
open Go.Shelf Go.RowKit
set_option maxRecDepth 100000
set_option maxHeartbeats 16000000
def zgj:Go.Shelf.Ren:=⟨λ|6=>47|15=>70|14=>69|28=>96|29=>97|20=>88|21=>89|22=>90|23=>91|24=>92|25=>93|26=>94|27=>95|46=>119|47=>120|48=>121|49=>122|50=>123|57=>140|n=>n,λ|22=>110|24=>111|25=>113|3=>3|39=>142|0=>0|53=>171|55=>173|4=>4|46=>165|45=>164|50=>147|5=>5|9=>9|66=>186|70=>190|76=>195|77=>196|n=>n,λn=>n⟩
theorem zgB:Go.Proofs.SlLaysF0.n6 Tryz.prog zgj:= {
 mixed:=by kernel_rfl,
 f6:=⟨Tryz.f47.name,by decide,Tryz.func47.trans (congrArg some (by kernel_rfl))⟩,
 f14:=⟨Tryz.f69.name,by decide,Tryz.func69.trans (congrArg some (by kernel_rfl))⟩,
 f15:=Tryz.func70.trans (congrArg some (by kernel_rfl)),
 f20:=⟨Tryz.f88.name,by decide,Tryz.func88.trans (congrArg some (by kernel_rfl))⟩,
 f21:=⟨Tryz.f89.name,by decide,Tryz.func89.trans (congrArg some (by kernel_rfl))⟩,
 f22:=⟨Tryz.f90.name,by decide,Tryz.func90.trans (congrArg some (by kernel_rfl))⟩,
 f23:=⟨Tryz.f91.name,by decide,Tryz.func91.trans (congrArg some (by kernel_rfl))⟩,
 f24:=⟨Tryz.f92.name,by decide,Tryz.func92.trans (congrArg some (by kernel_rfl))⟩,
 f25:=⟨Tryz.f93.name,by decide,Tryz.func93.trans (congrArg some (by kernel_rfl))⟩,
 f26:=⟨Tryz.f94.name,by decide,Tryz.func94.trans (congrArg some (by kernel_rfl))⟩,
 f27:=⟨Tryz.f95.name,by decide,Tryz.func95.trans (congrArg some (by kernel_rfl))⟩,
 f28:=Tryz.func96.trans (congrArg some (by kernel_rfl)),
 f29:=Tryz.func97.trans (congrArg some (by kernel_rfl)),
 f46:=⟨Tryz.f119.name,by decide,Tryz.func119.trans (congrArg some (by kernel_rfl))⟩,
 f47:=Tryz.func120.trans (congrArg some (by kernel_rfl)),
 f48:=Tryz.func121.trans (congrArg some (by kernel_rfl)),
 f49:=⟨Tryz.f122.name,by decide,Tryz.func122.trans (congrArg some (by kernel_rfl))⟩,
 f50:=⟨Tryz.f123.name,by decide,Tryz.func123.trans (congrArg some (by kernel_rfl))⟩,
 f57:=⟨Tryz.f140.name,by decide,Tryz.func140.trans (congrArg some (by kernel_rfl))⟩,
 t0:=Tryz.underlying0,
 a0:=Tryz.isAgg0,
 z0:=Tryz.sizeOf0,
 v0:=Tryz.zeroValue0,
 t3:=Tryz.underlying3,
 a3:=Tryz.isAgg3,
 z3:=Tryz.sizeOf3,
 v3:=Tryz.zeroValue3,
 t4:=Tryz.underlying4,
 a4:=Tryz.isAgg4,
 z4:=Tryz.sizeOf4,
 v4:=Tryz.zeroValue4,
 t5:=Tryz.underlying5,
 a5:=Tryz.isAgg5,
 z5:=Tryz.sizeOf5,
 v5:=Tryz.zeroValue5,
 t9:=Tryz.underlying9,
 a9:=Tryz.isAgg9,
 z9:=Tryz.sizeOf9,
 v9:=Tryz.zeroValue9,
 t22:=Tryz.underlying110,
 a22:=Tryz.isAgg110,
 z22:=Tryz.sizeOf110,
 v22:=Tryz.zeroValue110,
 t25:=Tryz.underlying113,
 a25:=Tryz.isAgg113,
 z25:=Tryz.sizeOf113,
 v25:=Tryz.zeroValue113,
 t39:=Tryz.underlying142,
 a39:=Tryz.isAgg142,
 z39:=Tryz.sizeOf142,
 v39:=Tryz.zeroValue142,
 t45:=Tryz.underlying164,
 a45:=Tryz.isAgg164,
 z45:=Tryz.sizeOf164,
 v45:=Tryz.zeroValue164,
 t46:=Tryz.underlying165,
 a46:=Tryz.isAgg165,
 z46:=Tryz.sizeOf165,
 v46:=Tryz.zeroValue165,
 t50:=Tryz.underlying147,
 a50:=Tryz.isAgg147,
 z50:=Tryz.sizeOf147,
 v50:=Tryz.zeroValue147,
 t53:=Tryz.underlying171,
 a53:=Tryz.isAgg171,
 z53:=Tryz.sizeOf171,
 v53:=Tryz.zeroValue171,
 t55:=Tryz.underlying173,
 a55:=Tryz.isAgg173,
 z55:=Tryz.sizeOf173,
 v55:=Tryz.zeroValue173,
 t66:=Tryz.underlying186,
 a66:=Tryz.isAgg186,
 z66:=Tryz.sizeOf186,
 v66:=Tryz.zeroValue186,
 t70:=Tryz.underlying190,
 a70:=Tryz.isAgg190,
 z70:=Tryz.sizeOf190,
 v70:=Tryz.zeroValue190,
 t76:=Tryz.underlying195,
 a76:=Tryz.isAgg195,
 z76:=Tryz.sizeOf195,
 v76:=Tryz.zeroValue195,
 t77:=Tryz.underlying196,
 a77:=Tryz.isAgg196,
 z77:=Tryz.sizeOf196,
 v77:=Tryz.zeroValue196 }
end Go.Proofs.YtknmdmimecepfaaGreatDoor
namespace Go.Proofs.YtknmdmimecepfaaGreatDoor
open Go.RowKit Go.Sort
set_option maxRecDepth 100000
set_option maxHeartbeats 16000000
theorem grown_of {W w':World} (h:Below W.heap.size W w') (hd:W.drawn<=w'.drawn):∃q os',w'=grow (W.drewN q) os':=by
 refine⟨w'.drawn - W.drawn,w'.heap.extract W.heap.size w'.heap.size, ?_⟩
 have hh:W.heap++w'.heap.extract W.heap.size w'.heap.size=w'.heap:=by
  apply Array.ext_getElem?
  intro k
  have hs:=h.size
  by_cases hk:k<W.heap.size
  ·rw [Array.getElem?_append_left hk];exact(h.block k hk).symm
  rw [Array.getElem?_append_right (by omega),Array.getElem?_extract]
  by_cases hk2:k<w'.heap.size
  ·rw [if_pos (by omega),show W.heap.size+(k - W.heap.size)=k by omega]
  rw [if_neg (by omega),Array.getElem?_eq_none (by omega)]
 have h1:=h.os
 have h2:=h.tape
 have h3:=h.output
 unfold grow World.drewN
 cases w' with
 |mk heap tape drawn os output=>
 simp only [] at hh h1 h2 h3 hd ⊢
 simp only [hh,h1,h2,h3,World.mk.injEq,true_and,and_true]
 omega
section
variable {α:Type} [Inhabited α]
theorem zhS (enc:α->List Value) (k:Nat) {w:World} {g m:Nat} {dk:Array α} {os:Array Obj} {cur:Array Value} {t:TypeId} (hb:w.heap[g]? =some (.cells cur t (0,0))):
  (sortWorldK enc k w g 0 m dk os).heap[g]? =some (.cells (putCells id 0 (flatK enc k dk) cur) t (0,0)):=by
 have hg:=zI hb
 unfold sortWorldK grow putRowK putRow mapBlock Go.Sort.ahead
 simp only []
 rw [Array.getElem?_append_left (by simpa using hg),Array.getElem?_modify,if_pos rfl,hb]
 rfl
theorem zdm (enc:α->List Value) (k:Nat) (w:World) (g m:Nat) (dk:Array α) (os:Array Obj):Since (λi=>i=g) w (sortWorldK enc k w g 0 m dk os):=by
 refine⟨rfl,rfl,rfl, ?_,λi hi hne=> ?_⟩
 ·unfold sortWorldK grow putRowK putRow mapBlock Go.Sort.ahead
  simp
 unfold sortWorldK grow putRowK putRow mapBlock Go.Sort.ahead
 simp only []
 rw [Array.getElem?_append_left (by simpa using hi),Array.getElem?_modify,if_neg (λe=>hne e.symm)]
end
theorem zkQ {α:Type} (key:α->List Int):SWO (Go.Proofs.ltOf λx y:α=>zG (key x) (key y)) where
 irrefl x:=by
  show decide (zG (key x) (key x)<0)=false
  rw [qY];decide
 trans x y z h1 h2:=by
  unfold Go.Proofs.ltOf at*
  simp only [decide_eq_true_eq] at*
  exact kG h1 h2
 ntrans x y z h1 h2:=by
  unfold Go.Proofs.ltOf at*
  simp only [decide_eq_false_iff_not] at*
  intro h3
  have a1:¬zG (key x) (key y)<0:=h1
  have a2:¬zG (key y) (key z)<0:=h2
  rcases gU (key x) (key y) with e|e|e
  ·omega
  ·rw [gY e] at h3;exact a2 h3
  have h4:zG (key y) (key x)<0:=by rw [wW (key x) (key y)];omega
  exact a2 (kG h4 h3)
def zmG (w:World) (B:Nat) (v:Value) (P:List qj) (e:Ending) (w':World):Prop:=e= .returned (.tuple #[])/\(∃P':List qj,P'.length=P.length/\(∀p∈P',p∈P)/\(∀p∈P,p∈P')/\
 (∀i j,i<j->j<P'.length->¬zG (zu (P'.getD j default).1) (zu (P'.getD i default).1)<0)/\w'.ownsRow B 111 2 v P.length (xW P'))/\Since (λk=>v.ownBlock=some k) w w'
theorem zfk (w:World) (B:Nat) (v:Value) (P:List qj) (hrow:w.ownsRow B 111 2 v P.length (xW P)) (hok:∀p∈P,okP (λk=>v.ownBlock=some k) w p) (hn:P.length<=1000000):
  Calls Tryz.prog 47 #[v, .func (.func 48) #[] #[]] w (zmG w B v P):=by
 have h2P:∀p∈P,p.2.length=2:=λp hp=>(hok p hp).1
 rcases Nat.eq_zero_or_pos P.length with h0|h0
 ·have hP:P= [] :=List.eq_nil_of_length_eq_zero h0
  subst hP
  obtain⟨a,cap,rfl, -, -⟩:=xP hrow
  have hc:=Go.Proofs.AnyF.slices_SortFunc_none zgB a cap (.func (.func 48) #[] #[]) w
  refine Calls.mono hc λe w' ⟨he,hw⟩=> ?_
  subst hw
  exact⟨he,⟨[],rfl,λp hp=>hp,λp hp=>hp,λi j _ hj=>by simp at hj,hrow⟩,Since.refl _ _⟩
 obtain⟨g,cap,rfl,hcap,hcm⟩:=zcw hrow h0
 obtain⟨cur,hcb,hcs,hcur⟩:=zbD hrow
 have hbg:B<=g:=(hrow.lt g rfl).1
 let α:= { p:qj // p∈P }
 have hw0:∃x:α,True:=⟨⟨P.getD 0 default,zV h0⟩,trivial⟩
 obtain⟨x0, -⟩:=hw0
 letI:Inhabited α:=⟨x0⟩
 let enc:α->List Value:=λx=>x.1.2
 let cf:α->α->Int:=λx y=>zG (zu x.1.1) (zu y.1.1)
 let d:Array α:=P.attach.toArray
 have hds:d.size=P.length:=by
  show P.attach.toArray.size=_
  rw [List.size_toArray];exact List.length_attach
 have hdg:∀j,j<P.length->(d[j]!).1=P.getD j default:=λj hj=>by
  rw [getElem!_pos d j (by rw [hds];exact hj),List.getD_eq_getElem?_getD,List.getElem?_eq_getElem hj]
  show(P.attach.toArray[j]'(by rw [List.size_toArray,List.length_attach];exact hj)).1=P[j]
  rw [List.getElem_toArray,List.getElem_attach]
 have hfl:∀(e:Array α) (t:Nat),t<e.size*2->(flatK enc 2 e)[t]! =((e[t / 2]!).1.2)[t % 2]! :=λe t ht=>get_flatK enc 2 e t ht
 have hok2:∀x:α,okP (λk=>k=g) w x.1:=λx=>by
  obtain⟨a,b,c⟩:=hok x.1 x.2
  exact⟨a,λy hy=>b y (hy.mono (λk _ hk=>by rw [hk];rfl)),c⟩
 have hH:HoldsK enc 2 w g 0 d:=by
  intro t ht
  rw [size_flatK,hds] at ht
  have hq:t / 2<P.length:=by omega
  have h1:=vV h2P hq (i:=t % 2) (by omega)
  rw [show t / 2*2+t % 2=t by omega] at h1
  refine⟨?_,yD hcb _⟩
  rw [Nat.zero_add,ze hcb,hcur t ht,h1,hfl d t (by rw [hds];exact ht),hdg _ hq]
  have hl:=h2P _ (zV (x:=default) hq)
  rw [List.getElem?_eq_getElem (by rw [hl];omega),List.getElem!_eq_getElem?_getD,List.getElem?_eq_getElem (by rw [hl];omega)]
  rfl
 have hcmp:Go.Proofs.CmpLays Tryz.prog 48 #[] enc 2 cf g 0 d.size w:=by
  intro m os dk hdk x y
  have hs:=zdm enc 2 w g m dk os
  obtain⟨xl,xa,xf⟩:=hok2 x
  obtain⟨yl,ya,yf⟩:=hok2 y
  obtain⟨mx,rx,ex,fx⟩:=xa _ hs
  obtain⟨my,ry,ey,fy⟩:=ya _ hs
  have:=zdL (sortWorldK enc 2 w g 0 m dk os) x.1.1 y.1.1 mx rx my ry fx fy xf yf
  have e1:(enc x).toArray= #[mx,rx] :=by show x.1.2.toArray=_;rw [ex]
  have e2:(enc y).toArray= #[my,ry] :=by show y.1.2.toArray=_;rw [ey]
  rw [e1,e2]
  exact Calls.mono this λe w' ⟨he,hb,hd⟩=>⟨he,grown_of hb hd⟩
 have hc:=Go.Proofs.AnyQ.slices_SortFunc zgB 2 Tryz.isAgg111 Tryz.sizeOf111 enc (λx=>h2P x.1 x.2) (λx u hu=>by
   obtain⟨-,xa, -⟩:=hok2 x
   obtain⟨mx,rx,ex,fx⟩:=xa.now
   have hu2:u∈x.1.2:=hu
   rw [ex] at hu2
   obtain⟨_,_,rfl, -⟩:=zf.slice fx.mem
   obtain⟨_,_,rfl, -⟩:=zf.slice fx.regs
   simp only [List.mem_cons,List.not_mem_nil,or_false] at hu2
   rcases hu2 with rfl|rfl<;>rfl) cf (zkQ λx:α=>zu x.1.1) 48 #[] g 0 cap d w (enters_of Tryz.func48 (by kernel_rfl) rfl) hcmp hH (zI hcb) (by rw [hds];omega)
 rw [hds] at hc
 refine Calls.mono hc λe w' ⟨he,d',n,os,hp,hs,hw⟩=> ?_
 obtain⟨hp1, -,hp2⟩:=hp
 rw [hds] at hp1
 have hx1:(d'.extract 0 P.length).toList=d'.toList:=by rw [<-hp1];simp
 have hx2:(d.extract 0 P.length).toList=P.attach:=by rw [<-hds];simp [d]
 rw [hx1,hx2] at hp2
 have hgd:∀j,j<P.length->(d'.toList.map (·.1)).getD j default=(d'[j]!).1:=λj hj=>by
  rw [getElem!_pos d' j (by rw [hp1];exact hj),List.getD_eq_getElem?_getD,List.getElem?_map,List.getElem?_eq_getElem (by simpa [hp1] using hj)]
  simp
 have hlen:(d'.toList.map (·.1)).length=P.length:=by simp [hp1]
 have hblk:=zhS enc 2 (m:=n) (dk:=d') (os:=os) hcb
 rw [<-hw] at hblk
 refine⟨he,⟨d'.toList.map (·.1),hlen,λp hpp=> ?_,λp hpp=> ?_,λi j hij hj=> ?_, ?_⟩, ?_⟩
 ·obtain⟨x, -,rfl⟩:=List.mem_map.1 hpp
  exact x.2
 ·exact List.mem_map.2 ⟨⟨p,hpp⟩,hp2.mem_iff.2 (List.mem_attach P ⟨p,hpp⟩),rfl⟩
 ·rw [hlen] at hj
  rw [hgd j hj,hgd i (by omega)]
  have h3:=hs i j (Nat.zero_le _) hij hj
  unfold Go.Proofs.ltOf at h3
  simpa using h3
 ·have h2':∀p∈d'.toList.map (·.1),p.2.length=2:=λp hpp=>by
   obtain⟨x, -,rfl⟩:=List.mem_map.1 hpp
   exact h2P x.1 x.2
  have hcl:(xW (d'.toList.map (·.1))).length=P.length*2:=by rw [zhv h2',hlen]
  refine⟨hcl, .inr ⟨g,cap,_,rfl,hbg,hblk,hcap,hcm,by simp [putCells,hcs], ?_⟩⟩
  apply List.ext_getElem?
  intro t
  rw [List.getElem?_take]
  split
  ·rename_i ht
   have hq:t / 2<P.length:=by omega
   have h1:=vV h2' (j:=t / 2) (i:=t % 2) (by rw [hlen];exact hq) (by omega)
   rw [show t / 2*2+t % 2=t by omega,hgd _ hq] at h1
   rw [h1,Array.getElem?_toList]
   unfold putCells
   rw [Array.getElem?_mapIdx,Array.getElem?_eq_getElem (by rw [hcs];have:=Nat.mul_le_mul_right 2 hcap;omega)]
   simp only [Option.map_some]
   rw [if_pos ⟨Nat.zero_le _,by rw [size_flatK,hp1];omega⟩,Nat.sub_zero,hfl d' t (by rw [hp1];exact ht)]
   have hl:=h2P _ (d'[t / 2]!).2
   rw [List.getElem?_eq_getElem (by rw [hl];omega),List.getElem!_eq_getElem?_getD,List.getElem?_eq_getElem (by rw [hl];omega)]
   rfl
  rename_i ht
  rw [List.getElem?_eq_none (by rw [hcl];omega)]
 rw [hw]
 exact(zdm enc 2 w g n d' os).mono (λk _ hk=>by rw [hk];rfl)
