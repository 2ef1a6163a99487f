/- Steps. -/
import Derived.Lib.OwnBridge
import Derived.Sort.OwnSortedInts
import Derived.Test.YtnhahkiojbanfaaGreatDoorRsPWays4
set_option linter.all false
namespace Go.Proofs.YtnhahkiojbanfaaGreatDoor
open Go.RowKit Go.Sort
set_option maxRecDepth 100000
set_option maxHeartbeats 16000000
theorem getD_in {α:Type} {l:List α} {k:Nat} {x:α} (hk:k<l.length):l.getD k x∈l:=by
 rw [List.getD_eq_getElem?_getD,List.getElem?_eq_getElem hk];exact List.getElem_mem hk
theorem zyw:∀(a b:List Int),a.Pairwise (· < ·)->b.Pairwise (· < ·)->(∀x,x∈a↔x∈b)->a=b:=by
 intro a
 induction a with
 |nil=>
  intro b _ _ h
  cases b with
  |nil=>rfl
  |cons y b=>have:=(h y).2 (by simp);simp at this
 |cons x a ih=>
 intro b ha hb h
 cases b with
 |nil=>have:=(h x).1 (by simp);simp at this
 |cons y b=>
 rw [List.pairwise_cons] at ha hb
 have hxy:x=y:=by
  have h1:=(h x).1 (by simp)
  have h2:=(h y).2 (by simp)
  rcases List.mem_cons.1 h1 with e|e
  ·exact e
  rcases List.mem_cons.1 h2 with e2|e2
  ·exact e2.symm
  have:=hb.1 x e;have:=ha.1 y e2;omega
 subst hxy
 rw [ih b ha.2 hb.2 λz=>⟨λhz=> ?_,λhz=> ?_⟩]
 ·rcases List.mem_cons.1 ((h z).1 (by simp [hz])) with e|e
  ·have:=ha.1 z hz;omega
  exact e
 rcases List.mem_cons.1 ((h z).2 (by simp [hz])) with e|e
 ·have:=hb.1 z hz;omega
 exact e
theorem zmV {x v:Int} {l:List Int} :v∈wB x l↔v=x\/v∈l:=by
 induction l with
 |nil=>simp [wB]
 |cons y l ih=>unfold wB;split<;>simp only [List.mem_cons,ih] <;>(constructor<;>rintro(h|h|h)<;>simp [h])
theorem zq7 {x:Int} {l:List Int} (h:l.Pairwise (· < ·)) (hx:x ∉ l):(wB x l).Pairwise (· < ·):=by
 induction l with
 |nil=>simp [wB]
 |cons y l ih=>
 rw [List.pairwise_cons] at h
 simp only [List.mem_cons,not_or] at hx
 unfold wB
 split
 ·rename_i hlt
  rw [List.pairwise_cons]
  refine⟨λz hz=> ?_,List.pairwise_cons.2 h⟩
  rcases List.mem_cons.1 hz with e|e
  ·omega
  have:=h.1 z e;omega
 rw [List.pairwise_cons]
 refine⟨λz hz=> ?_,ih h.2 hx.2⟩
 rcases zmV.1 hz with e|e
 ·omega
 exact h.1 z e
theorem zgY {l:List zl} {v:Int} :∀ {i:Nat},v∈yU l i↔∃j,j<i/\(l.getD j default).var=v:=by
 intro i
 induction i with
 |zero=>simp [yU]
 |succ i ih=>
 unfold yU
 split
 ·rw [zmV,ih]
  constructor
  ·rintro(h|⟨j,hj,h⟩)
   ·exact⟨i,by omega,h.symm⟩
   exact⟨j,by omega,h⟩
  rintro⟨j,hj,h⟩
  by_cases e:j=i
  ·subst e;exact .inl h.symm
  exact .inr ⟨j,by omega,h⟩
 rename_i hn
 rw [ih]
 rw [List.all_eq_true] at hn
 constructor
 ·rintro⟨j,hj,h⟩;exact⟨j,by omega,h⟩
 rintro⟨j,hj,h⟩
 by_cases e:j=i
 ·subst e
  apply Classical.byContradiction
  intro hh
  apply hn
  intro k hk
  rw [List.mem_range] at hk
  exact decide_eq_true λe2=>hh ⟨k,hk,e2.trans h⟩
 exact⟨j,by omega,h⟩
theorem zkF (l:List zl):∀i,(yU l i).Pairwise (· < ·):=by
 intro i
 induction i with
 |zero=>simp [yU]
 |succ i ih=>
 unfold yU
 split
 ·rename_i h
  rw [List.all_eq_true] at h
  refine zq7 ih λhm=> ?_
  obtain⟨j,hj,e⟩:=zgY.1 hm
  exact of_decide_eq_true (h j (List.mem_range.2 hj)) e
 exact ih
theorem znN {z:List Int} {x:Int} :x∈Lib.compact z↔x∈z:=by
 unfold Lib.compact Lib.compactUpTo
 simp only [List.mem_map,List.mem_filter,List.mem_range]
 constructor
 ·rintro⟨j,⟨hj, -⟩,rfl⟩
  have:z.toArray[j]! =z[j] :=by simp [hj]
  rw [this];exact List.getElem_mem hj
 intro hx
 obtain⟨j,hj,rfl⟩:=List.getElem_of_mem hx
 have key:∀j,(hj:j<z.length)->∃k,(k<z.length/\Lib.keeps z.toArray k=true)/\z.toArray[k]! =z[j] :=by
  intro j
  induction j with
  |zero=>intro hj;exact⟨0,⟨hj,Lib.keeps_lt_one _ 0 (by omega)⟩,by simp [hj]⟩
  |succ j ih=>
  intro hj
  by_cases he:z.toArray[j+1]! =z.toArray[j+1 - 1]!
  ·obtain⟨k,hk,e⟩:=ih (by omega)
   refine⟨k,hk,e.trans ?_⟩
   have h1:z.toArray[j+1]! =z[j+1] :=by simp [hj]
   have h2:z.toArray[j+1 - 1]! =z[j] :=by simp [show j<z.length by omega]
   rw [<-h1,he,h2]
  exact⟨j+1,⟨hj,Lib.keeps_pos he⟩,by simp [hj]⟩
 obtain⟨k,hk,e⟩:=key j hj
 exact⟨k,hk,e⟩
theorem zkG {z:List Int} (h:z.Pairwise (· <= ·)):(Lib.compact z).Pairwise (· < ·):=by
 unfold Lib.compact Lib.compactUpTo
 rw [List.pairwise_map]
 refine List.Pairwise.imp_of_mem ?_ ((List.pairwise_lt_range (n:=z.length)).filter _)
 intro i j hi hj hij
 rw [List.mem_filter,List.mem_range] at hi hj
 have h1:z.toArray[i]! =z[i] :=by simp [hi.1]
 have h2:z.toArray[j]! =z[j] :=by simp [hj.1]
 have h3:z.toArray[j - 1]! =z[j - 1] :=by simp [show j - 1<z.length by omega]
 have hne:z[j] ≠z[j - 1] :=by
  intro e
  have:Lib.keeps z.toArray j=false:=Lib.keeps_neg (by omega) (by rw [h2,h3,e])
  rw [this] at hj;cases hj.2
 have hle:=List.pairwise_iff_getElem.1 h
 have a1:z[i] <=z[j - 1] :=by
  by_cases e:i=j - 1
  ·subst e;exact Int.le_refl _
  exact hle i (j - 1) hi.1 (by omega) (by omega)
 have a2:=hle (j - 1) j (by omega) hj.1 (by omega)
 show z.toArray[i]! <z.toArray[j]!
 rw [h1,h2]
 omega
theorem znO (l:List zl):Lib.compact ((l.map zl.var).mergeSort λx y=>decide (x<=y))=yU l l.length:=by
 refine zyw _ _ (zkG ?_) (zkF l _) λx=> ?_
 ·have:=List.pairwise_mergeSort (le:=λx y:Int=>decide (x<=y)) (λa b c h1 h2=>by simp at*;omega) (λa b=>by simp;omega) (l.map zl.var)
  exact this.imp (λh=>by simpa using h)
 rw [znN,List.mem_mergeSort,zgY,List.mem_map]
 constructor
 ·rintro⟨e,he,rfl⟩
  obtain⟨j,hj,rfl⟩:=List.getElem_of_mem he
  exact⟨j,hj,by rw [List.getD_eq_getElem?_getD,List.getElem?_eq_getElem hj];rfl⟩
 rintro⟨j,hj,rfl⟩
 exact⟨l.getD j default,getD_in hj,rfl⟩
theorem zk3 (l:List Int):zo yM l=l.map (Value.int .i64):=by
 induction l with
 |nil=>rfl
 |cons x l ih=>simp only [zo,List.flatMap_cons,List.map_cons] at ih ⊢;rw [ih];rfl
theorem zyx {w:World} {B:Nat} {e:TypeId} {size n cap k:Nat} {a:Option Addr} {xs:List Value} (h:w.ownsRow B e size (.slice a n cap) n xs) (hk:k<=n) (ha:a=none->n=0):w.ownsRow B e size (.slice a k cap) k (xs.take (k*size)):=by
 have hl:=h.1
 have hle:=Nat.mul_le_mul_right size hk
 refine⟨by rw [List.length_take,hl];omega, ?_⟩
 rcases h.2 with⟨he,hn⟩|⟨g,cap',cur,he,hB,hg,hn,hm,hs,ht⟩
 ·obtain rfl:k=0:=by omega
  cases he
  exact .inl ⟨rfl,rfl⟩
 cases he
 exact .inr ⟨g,_,cur,rfl,hB,hg,by omega,hm,hs,by rw [<-ht,List.take_take];congr 1;omega⟩
theorem zty {l:List zl} {i:Nat} (hi:i<l.length):(l.take (i+1)).map zl.var=(l.take i).map zl.var++ [(l.getD i default).var] :=by rw [bE hi rfl];simp
def zea (B:Nat) (X:World) (sv:Value) (l:List Int):Prop:=X.ownsRow B 3 1 sv l.length (zo yM l)
theorem zjb (w:World) (bv:Value) (l:List zl) (h:zZ w bv l) (hl:l.length<=1000000) (model:Int):
  Calls Tryz.prog 62 #[bv, .int .i64 model] w λe w'=>(∃sv,e= .returned sv/\zea w.heap.size w' sv (yK l model))/\Below w.heap.size w w':=by
 obtain⟨ba,bc,rfl, -⟩:=zh.slice h
 obtain⟨n,hn⟩:∃n,n=l.length:=⟨_,rfl⟩
 rw [<-hn] at h hl ⊢
 have HL:=qh h
 have HN:=qh hn
 clear h hn
 go_enter Tryz.func62,Tryz.ntmps62
 go_wp2_with fail
 go_loopg [4,6,9] n (λgg s4 s6 s9 wr=>∃(i:Nat) (oa:Option Addr) (oc:Nat),i<=n/\Hid (gg=n - i)/\s4= .slice oa i oc/\s9= .int .i64 i/\Hid (wr.ownsRow w.heap.size 3 1 (.slice oa i oc) i (zo yM ((l.take i).map zl.var)))/\Hid (Below w.heap.size w wr))
 case atStart=>exact⟨0,none,0,Nat.zero_le _,rfl,rfl,rfl,World.ownsRow_nil _ _ _ _,Below.refl _ _⟩
 case round=>
 obtain⟨i,oa,oc,hi,HG,rfl,rfl,HO,zL⟩:=hrel
 by_cases hlt:i<n
 ·have qN:(i:Int)<(n:Int):=by omega
  obtain⟨eb,eo,yh, -,he1,he2⟩:=HL.out.part i (by rw [<-HN.out];exact hlt)
  subst yh
  have hvs:=zty (l:=l) (i:=i) (by rw [<-HN.out];exact hlt)
  obtain⟨ev,hev⟩:∃ev,ev=(l.getD i default).var:=⟨_,rfl⟩
  obtain⟨en,hen⟩:∃en,en=(l.getD i default).n:=⟨_,rfl⟩
  rw [<-hev] at he1 hvs
  rw [<-hen] at he2
  have e1:=zk zL.out _ _ he1
  have e2:=zk zL.out _ _ he2
  have HVS:=qh hvs
  have HA:=qh ((Below.refl wr.heap.size wr).alloc (Nat.le_refl _) (.cells #[.int .i64 ev, .int .i64 en] 110))
  have HY:=qh (yj wr (.cells #[.int .i64 ev, .int .i64 en] 110))
  clear he1 he2 hev hen hvs
  go_upto_region 4 with fail
  generalize World.alloc wr _=X at HA HY ⊢
  obtain⟨gl,hgl⟩:∃g,g=wr.heap.size:=⟨_,rfl⟩
  rw [<-hgl] at HY ⊢
  clear hgl e1 e2
  have xI:Hid (Below w.heap.size w X):=zL.out.trans (HA.out.mono zL.out.size)
  have HOX:=qh (qp HO.out HA.out)
  have d0:X.cell? ⟨gl,0,none⟩=some (.int .i64 ev):=ze HY.out 0
  clear HY HA HO
  go_wp2_with(at_builtin;go_must(refine zI _ rfl _ _ 31 rfl 3 (.int .i64 0) 1 8 Tryz.underlying31 vg rfl (by decide) w.heap.size (.slice oa i oc) i (zo yM ((l.take i).map zl.var)) rfl (HOX.out.alloc _) ⟨X.heap.size,0,none⟩ 1 1 [.int .i64 ev] rfl rfl (cell_one_new _ _ _) (by simp [Value.oneCell']) (by unfold maxLen;omega) (by omega) (by have:=xI.out.size;simp;omega) ?_);intro ja jc Z f1 f2 f3 f4 f5 f6;have HE:=qh (za1 HOX.out f1 f4 xI.out (Nat.le_refl _));clear f1 f2 f3 f4 f5 f6)
  go_roundg (n - (i+1))
  case measure=>rw [HG.out];omega
  case rel=>exact⟨i+1,ja,jc,by omega,rfl,rfl,by simp,by rw [Hid,HVS.out];exact HE.out.1,HE.out.2⟩
 obtain rfl:n=i:=by omega
 have hfull:(l.take n).map zl.var=l.map zl.var:=by rw [HN.out,List.take_length]
 rw [hfull] at HO
 clear hfull
 by_cases m1:model=1
 ·subst m1
  by_cases h0:n=0
  ·subst h0
   have HH:Hid (yK l 1= []):=by rw [Hid,List.eq_nil_of_length_eq_zero HN.out.symm];rfl
   have zR:Hid (zea w.heap.size wr (.slice oa 0 oc) []):=by
    have:=HO.out
    rw [List.eq_nil_of_length_eq_zero HN.out.symm] at this
    exact this
   clear HO
   go_wp2_with fail
   go_ret
   exact⟨⟨_,rfl,by rw [HH.out];exact zR.out⟩,zL.out⟩
  obtain⟨g,cap,hoa,hg, -⟩:=uz HO.out (by omega)
  cases hoa
  have hn1:(1:Int)<=(n:Int):=by omega
  have hn2:1<=n:=by omega
  have HH:Hid (yK l 1= [(l.getD 0 default).var]):=by
   rw [Hid]
   cases l with
   |nil=>exact absurd HN.out h0
   |cons x l=>rfl
  have zR:Hid (zea w.heap.size wr (.slice (some ⟨g,0,none⟩) 1 oc) [(l.getD 0 default).var]):=by
   have h1:=zyx HO.out hn2 (λe=>by cases e)
   have e:(zo yM (l.map zl.var)).take (1*1)=zo yM [(l.getD 0 default).var] :=by
    cases l with
    |nil=>exact absurd HN.out h0
    |cons x l=>rfl
   rw [e] at h1
   exact h1
  have hnc:n<=oc:=by
   rcases HO.out.2 with⟨he, -⟩|⟨g',cap',cur,he,hB,hgh,h1,h2,h3,h4⟩
   ·cases he
   cases he;exact h1
  clear h0
  have hmin:(min (1:Int) (n:Int)).toNat=1:=by omega
  go_wp2_with fail
  go_ret
  exact⟨⟨.slice (some ⟨g,0,none⟩) 1 oc,rfl,by rw [HH.out];exact zR.out⟩,zL.out⟩
 by_cases m2:model=2
 rotate_left
 ·have b1:((model:Int)==1)=false:=by simp [m1]
  have b2:((model:Int)==2)=false:=by simp [m2]
  have HH:Hid (yK l model= []):=by unfold yK;rw [Hid,if_neg m2,if_neg m1]
  clear m1 m2
  go_wp2_with fail
  go_ret
  exact⟨⟨_,rfl,by rw [HH.out];exact World.ownsRow_nil _ _ _ _⟩,zL.out⟩
 subst m2
 have HH:Hid (yK l 2=yU l l.length):=rfl
 by_cases h0:n=0
 ·subst h0
  have zR:Hid (∀X,Below wr.heap.size wr X->zea w.heap.size X (.slice oa 0 oc) (yK l 2)):=λX hX=>by
   have:=qp HO.out hX
   have e:yK l 2= [] :=by rw [List.eq_nil_of_length_eq_zero HN.out.symm];rfl
   rw [List.eq_nil_of_length_eq_zero HN.out.symm] at this
   rw [e]
   exact this
  clear HO
  go_wp2_with fail
  refine(slices_Sort_int_none oa oc wr).mono ?_
  rintro e w2 ⟨rfl,rfl⟩
  go_wp2_with fail
  refine(slices_Compact_int_empty oa oc w2).mono ?_
  rintro e w3 ⟨rfl,rfl⟩
  go_wp2_with fail
  go_ret
  exact⟨⟨_,rfl,zR.out _ (Below.refl _ _)⟩,zL.out⟩
 obtain⟨zs,hzs⟩:∃z,z=l.map zl.var:=⟨_,rfl⟩
 have hrow:=HO.out
 rw [<-hzs,zk3] at hrow
 have hzl:zs.length=n:=by rw [hzs,List.length_map,HN.out]
 obtain⟨ts,hts⟩:∃t,t=zs.mergeSort (λx y=>decide (x<=y)):=⟨_,rfl⟩
 have htl:ts.length=zs.length:=by rw [hts,List.length_mergeSort]
 have hcp:Lib.compact ts=yK l 2:=by rw [hts,hzs,HH.out];exact znO l
 obtain⟨g,cap,hoa,hg,hgl,hnc,hcm, -,hH⟩:=Lib.holds_of_ownsRow hrow (by intro e;cases e;exact h0 rfl)
 cases hoa
 have hs:=slices_Sort_int g 0 oc zs wr hH hgl (by omega)
 rw [hzl, <-hts] at hs
 have HS:=qh hs
 have zR:Hid (∀k os,∀X,X=Sort.grow (putRow (Value.int .i64) (Sort.ahead wr k) g 0 ts.toArray) os->X.ownsRow w.heap.size 3 1 (.slice (some ⟨g,0,none⟩) n oc) n (ts.map (Value.int .i64))/\Below w.heap.size w X):=by
  rintro k os X rfl
  rcases hrow.2 with⟨he, -⟩|⟨g',cap',cur,he,hB,hgh,h1,h2,h3,h4⟩
  ·cases he
  cases he
  have:=ownsRow_sortedI (n:=k) (os:=os) htl hB hgh (by rw [hzl];exact h1) h2 h3
  rw [hzl] at this
  exact⟨this,zL.out.grown (grownBy_sortedI _) zL.out.size (λj hj=>by cases hj;exact hB)⟩
 have HTL:Hid (ts.length=n):=htl.trans hzl
 have HCP:=qh hcp
 clear hs hrow hzs hts htl hzl hcp hH HO
 go_wp2_with fail
 refine HS.out.mono ?_
 rintro e w2 ⟨rfl,k,os,hw2⟩
 obtain⟨hr2,hb2⟩:=zR.out k os w2 hw2
 obtain⟨g',cap',he', -,z6t, -, -, -,hH2⟩:=Lib.holds_of_ownsRow hr2 (by intro e;cases e)
 cases he'
 have hs2:=slices_Compact_int g 0 oc ts w2 hH2 (by rw [HTL.out];omega) (by rw [HTL.out];exact hnc)
 rw [HTL.out] at hs2
 have hlc:(Lib.compact ts).length<=n:=by
  rw [<-HTL.out];unfold Lib.compact Lib.compactUpTo
  rw [List.length_map];exact Nat.le_trans (List.length_filter_le _ _) (by simp)
 have HS2:=qh hs2
 have zx6:Hid (∀q X,X=putRow (Value.int .i64) (Sort.ahead w2 q) g 0 (Lib.compact ts++List.replicate (n - (Lib.compact ts).length) 0).toArray->zea w.heap.size X (.slice (some ⟨g,0,none⟩) (Lib.compact ts).length oc) (yK l 2)/\Below w.heap.size w X):=by
  rintro q X rfl
  have h1:=Lib.ownsRow_putRow (q:=q) (ys:=Lib.compact ts++List.replicate (n - (Lib.compact ts).length) 0) hr2 (by rw [List.length_append,List.length_replicate];omega) hlc
  rw [List.take_left', <-zk3] at h1
  ·refine⟨?_,Lib.below_putRow hb2 hg⟩
   rw [<-HCP.out]
   exact h1
  rfl
 clear hr2 hb2 hH2 hs2 hw2 HS zR
 go_wp2_with fail
 refine HS2.out.mono ?_
 rintro e w3 ⟨rfl,q,hw3⟩
 have HF:=qh (zx6.out q w3 hw3)
 clear hw3 HS2 zx6
 go_wp2_with fail
 go_ret
 exact⟨⟨_,rfl,HF.out.1⟩,HF.out.2⟩
theorem zq8 (w:World) (bv:Value) (l:List zl) (h:zZ w bv l) (hl:l.length<=1000000) (model:Int):
  Calls Tryz.prog 62 #[bv, .int .i64 model] w λe w'=>(∃sv,e= .returned sv/\qm w' sv (yK l model))/\Below w.heap.size w w':=
 (zjb w bv l h hl model).mono λ_ _ ⟨⟨sv,he,ho⟩,hb⟩=>⟨⟨sv,he,gN ho⟩,hb⟩
end Go.Proofs.YtnhahkiojbanfaaGreatDoor
namespace Go.Proofs.YtnhahkiojbanfaaGreatDoor
open Go.RowKit
set_option maxRecDepth 100000
set_option maxHeartbeats 16000000
variable {v0:Value}
theorem zwk:(Tryz.prog.info? 170).map (λi=>(i.zero,i.size,i.bytes))=some (some .nilFunc,1,8):=by kernel_rfl
theorem zmW (P:World):(zeroValue 170).run Tryz.prog P= .ok .nilFunc P:=by
 obtain⟨i0,hi,hz0,hz1,hz2⟩:=info_parts zwk
 simp [zeroValue,typeInfo,hi,hz0]
def zmD (n:Nat) (x:zS):Prop:=(0<=x.reg/\x.reg<4)/\(0<=x.var/\x.var<(n:Int))/\zqe x.op
theorem qP.told {w w':World} {B gr:Nat} {m:zy} {dom:Int} {mb mc:Nat} {res:Option (zx × List Int × Bool)} {e:Ending} (h:qP v0 w B gr m dom mb mc res e w'):∃b:Bool,e= .returned (.bool b)/\qP v0 w B gr m dom mb mc res (.returned (.bool b)) w':=by
 rcases h.2 with⟨-,he⟩|⟨t,mem,bad,bv, -,he, -⟩
 ·exact⟨false,he,he ▸ h⟩
 exact⟨true,he,he ▸ h⟩
theorem qP.base {w W w':World} {B gr:Nat} {m:zy} {dom:Int} {mb mc:Nat} {res:Option (zx × List Int × Bool)} {e:Ending} (h:qP v0 W B gr m dom mb mc res e w') (hb:Below B w W):qP v0 w B gr m dom mb mc res e w':=⟨hb.trans h.1,h.2⟩
theorem zti {w0 w:World} {B gr mb mc:Nat} {pc:Nat} {r0 r1 r2 r3:Int} {buf:List zl} {bv:Value} {m:zy} {c:zD} {s:zi} (h:xD v0 w B gr (pc:Int) r0 r1 r2 r3 buf bv m c.domain s.mem mb mc s.bad) (hB:B<=w.heap.size) (hd1:1<=c.domain) (hd2:c.domain<=1000) (d:Nat) (l:List zS) (lv:Value) (hl:gD d w0 lv l) (h0:Below w0.heap.size w0 w) (hB0:w0.heap.size<=B)
  (hx:∀j,j<l.length->zmD s.mem.length (l.getD j default)) (hbl:buf.length<=1000000):Calls Tryz.prog 83 #[.pointer (some ⟨gr,0,none⟩),lv] w λe w'=>
  qP v0 w B gr m c.domain mb mc (if (pc:Int)<(l.length:Int) then stepT c m s ⟨(pc:Int), [r0,r1,r2,r3],buf⟩ (l.getD pc default) d else none) e w':=by
 obtain⟨la,lc,rfl, -⟩:=zh.slice hl
 have hroom:=zh.room hl
 obtain⟨n,hn⟩:∃n,n=l.length:=⟨_,rfl⟩
 rw [<-hn] at hl hroom hx ⊢
 have HL:=qh hl
 have HN:=qh hn
 have HR:=qh h
 have yR:=qh hB
 have H0:=qh h0
 have HB0:=qh hB0
 clear h0 hB0
 have c0:w.cell? ⟨gr,0,none⟩=some (.int .i64 (pc:Int)):=ze h.block 0
 clear hl hn
 rcases Nat.lt_or_ge pc n with hlt|hlt
 rotate_left
 ·have hge:(n:Int)<=(pc:Int):=by omega
  rw [if_neg (by omega)]
  clear HL HR h hx hB
  go_enter Tryz.func83,Tryz.ntmps83
  go_wp2_with fail
  go_ret
  exact gH (Below.refl _ _)
 have qN:(pc:Int)<(n:Int):=by omega
 have hwr:IntKind.i64.wrap ((pc:Int)+1)=(pc:Int)+1:=IntWalk.i64_in _ (by omega)
 clear hroom
 rw [if_pos qN]
 obtain⟨eb,eo,aa,ac,ba,bc,yh, -,⟨x0,x1,x2⟩,⟨x3,x4,x5,x6⟩,⟨x7,x8,x9,x10⟩,gI,xa,xb⟩:=gD.part HL.out pc (by rw [<-HN.out];exact hlt)
 subst yh
 have hfx:=hx pc hlt
 replace x0:=zk H0.out _ _ x0
 replace x1:=zk H0.out _ _ x1
 replace x2:=zk H0.out _ _ x2
 replace x3:=zk H0.out _ _ x3
 replace x4:=zk H0.out _ _ x4
 replace x5:=zk H0.out _ _ x5
 replace x6:=zk H0.out _ _ x6
 replace x7:=zk H0.out _ _ x7
 replace x8:=zk H0.out _ _ x8
 replace x9:=zk H0.out _ _ x9
 replace x10:=zk H0.out _ _ x10
 replace gI:=zk H0.out _ _ gI
 obtain⟨x,hxx⟩:∃x,x=l.getD pc default:=⟨_,rfl⟩
 rw [<-hxx] at x0 x1 x2 x3 x4 x5 x6 x7 x8 x9 x10 gI xa xb hfx ⊢
 have zai:=λW V (hV:xD v0 W B gr ((pc:Int)+1) r0 r1 r2 r3 buf V m c.domain s.mem mb mc s.bad) (hW:B<=W.heap.size) (ha:zG d W x.a (.slice aa x.a.kids.length ac)) (hb:zG d W x.b (.slice ba x.b.kids.length bc))=>zwl hV hW hd1 hd2 d x _ _ ha hb hfx.1 hfx.2.1 hbl hfx.2.2
 unfold qK at zai
 have hxa:=λW (hW:Below w0.heap.size w0 W)=>xa.below hW
 have hxb:=λW (hW:Below w0.heap.size w0 W)=>xb.below hW
 clear xa xb hfx hxx
 obtain⟨res,hres⟩:∃r,r=stepT c m s ⟨(pc:Int), [r0,r1,r2,r3],buf⟩ x d:=⟨_,rfl⟩
 rw [<-hres] at zai ⊢
 clear hres
 obtain⟨op,reg,v,a,b,yJ⟩:=x
 simp only [] at x0 x1 x2 x3 x4 x5 x6 x7 x8 x9 x10 gI zai hxa hxb ⊢
 obtain⟨al,hal⟩:∃n,n=a.kids.length:=⟨_,rfl⟩
 obtain⟨bl,kG⟩:∃n,n=b.kids.length:=⟨_,rfl⟩
 obtain⟨ak,hak⟩:∃n,n=a.kind:=⟨_,rfl⟩
 obtain⟨an,han⟩:∃n,n=a.n:=⟨_,rfl⟩
 obtain⟨ao,hao⟩:∃n,n=a.op:=⟨_,rfl⟩
 obtain⟨bk,hbk⟩:∃n,n=b.kind:=⟨_,rfl⟩
 obtain⟨bn,hbn⟩:∃n,n=b.n:=⟨_,rfl⟩
 obtain⟨bo,hbo⟩:∃n,n=b.op:=⟨_,rfl⟩
 rw [<-hak] at x3 zai
 rw [<-han] at x4 zai
 rw [<-hao] at x5 zai
 rw [<-hal] at x6 zai hxa
 rw [<-hbk] at x7 zai
 rw [<-hbn] at x8 zai
 rw [<-hbo] at x9 zai
 rw [<-kG] at x10 zai hxb
 clear hak han hao hal hbk hbn hbo kG
 have zh2:=qh zai
 have HXA:=qh hxa
 have HXB:=qh hxb
 have HA:=qh ((Below.refl w.heap.size w).alloc (Nat.le_refl _) (.cells #[.int .i64 op, .int .i64 reg, .int .i64 v, .int .i64 ak, .int .i64 an, .int .u8 ao, .slice aa al ac, .int .i64 bk, .int .i64 bn, .int .u8 bo, .slice ba bl bc, .int .i64 yJ] 60))
 have HX:=qh (yj w (.cells #[.int .i64 op, .int .i64 reg, .int .i64 v, .int .i64 ak, .int .i64 an, .int .u8 ao, .slice aa al ac, .int .i64 bk, .int .i64 bn, .int .u8 bo, .slice ba bl bc, .int .i64 yJ] 60))
 clear zai hxa hxb h hB hx HL
 go_enter Tryz.func83,Tryz.ntmps83
 go_upto_region 4 with fail
 generalize World.alloc w _=X at HA HX ⊢
 obtain⟨gi,hgi⟩:∃g,g=w.heap.size:=⟨_,rfl⟩
 rw [<-hgi] at HX ⊢
 have HNG:=qh (show gi≠gr by have:=zw HR.out.block;omega)
 clear hgi c0 x0 x1 x2 x3 x4 x5 x6 x7 x8 x9 x10 gI
 have HRX:=qh (HR.out.below HA.out)
 have d0:X.cell? ⟨gr,0,none⟩=some (.int .i64 (pc:Int)):=ze HRX.out.block 0
 have f0:X.frozen? ⟨gr,0,none⟩=false:=zA HRX.out.block 0
 go_upto_region 5 with fail
 clear d0 f0
 have HRY:=qh (HRX.out.zpK ((pc:Int)+1))
 have jC:Hid (Below B w (X.setCell ⟨gr,0,none⟩ (.int .i64 ((pc:Int)+1)))):=(HA.out.mono yR.out).setCell (p:=⟨gr,0,none⟩) HR.out.base _
 have HSY:Hid (Since (λk=>k=gr) X (X.setCell ⟨gr,0,none⟩ (.int .i64 ((pc:Int)+1)))):=Since.setCell (F:=λk=>k=gr) (p:=⟨gr,0,none⟩) (Since.refl _ _) (.inl rfl) _
 have HEX:Hid (zG d (X.setCell ⟨gr,0,none⟩ (.int .i64 ((pc:Int)+1))) a (.slice aa al ac)/\zG d (X.setCell ⟨gr,0,none⟩ (.int .i64 ((pc:Int)+1))) b (.slice ba bl bc)):=⟨(HXA.out _ (H0.out.trans (jC.out.mono HB0.out))),(HXB.out _ (H0.out.trans (jC.out.mono HB0.out)))⟩
 generalize World.setCell X ⟨gr,0,none⟩ _=Y at HRY jC HSY HEX ⊢
 have hYB:B<=Y.heap.size:=Nat.le_trans yR.out jC.out.size
 obtain⟨f,hmf,hfn, -⟩:=zh2.out Y _ HRY.out hYB HEX.out.1 HEX.out.2
 have hrun:Hid (∀W,Below Y.heap.size Y W->Calls Tryz.prog f #[.pointer (some ⟨gr,0,none⟩), .agg #[.int .i64 op, .int .i64 reg, .int .i64 v, .int .i64 ak, .int .i64 an, .int .u8 ao, .slice aa al ac, .int .i64 bk, .int .i64 bn, .int .u8 bo, .slice ba bl bc, .int .i64 yJ]] W λe w'=>qP v0 W B gr m c.domain mb mc res e w'):=λW hW=>by
  obtain⟨f',z2D, -,hc⟩:=zh2.out W _ (HRY.out.below hW) (Nat.le_trans hYB hW.size) (HEX.out.1.below hW) (HEX.out.2.below hW)
  rw [hmf] at z2D
  cases z2D
  exact hc
 have CC:Hid (∀x,Below Y.heap.size Y x->x.cell? ⟨gi,0,none⟩=some (.int .i64 op)/\x.cell? ⟨gi,1,none⟩=some (.int .i64 reg)/\x.cell? ⟨gi,2,none⟩=some (.int .i64 v)/\x.cell? ⟨gi,3,none⟩=some (.int .i64 ak)/\x.cell? ⟨gi,4,none⟩=some (.int .i64 an)/\x.cell? ⟨gi,5,none⟩=some (.int .u8 ao)/\x.cell? ⟨gi,6,none⟩=some (.slice aa al ac)/\x.cell? ⟨gi,7,none⟩=some (.int .i64 bk)/\x.cell? ⟨gi,8,none⟩=some (.int .i64 bn)/\x.cell? ⟨gi,9,none⟩=some (.int .u8 bo)/\x.cell? ⟨gi,10,none⟩=some (.slice ba bl bc)/\x.cell? ⟨gi,11,none⟩=some (.int .i64 yJ)):=λx hx=>by
  have k:=λ(i:Nat) (u:Value) (hv:(#[.int .i64 op, .int .i64 reg, .int .i64 v, .int .i64 ak, .int .i64 an, .int .u8 ao, .slice aa al ac, .int .i64 bk, .int .i64 bn, .int .u8 bo, .slice ba bl bc, .int .i64 yJ] :Array Value)[i]? =some u)=>zk hx _ _ ((HSY.out.cell (p:=⟨gi,i,none⟩) (zw HX.out) HNG.out).trans ((ze HX.out i).trans hv))
  exact⟨k 0 _ rfl,k 1 _ rfl,k 2 _ rfl,k 3 _ rfl,k 4 _ rfl,k 5 _ rfl,k 6 _ rfl,k 7 _ rfl,k 8 _ rfl,k 9 _ rfl,k 10 _ rfl,k 11 _ rfl⟩
 have HMF:=qh hmf
 clear hmf zh2 HXA HXB
 refine wp_region_noPanic ?_
 refine yX (n0:=6) (S:=λx=>Below Y.heap.size Y x) (by kernel_rfl) ((Below.refl _ _).drew) (λhT=> ?_)
 refine zV 1 (λ_=>hT) ?_
 refine jr [3,6,7] 2 CC.out hT ?_
 refine zV 4 (λ_=>hT) ?_
 refine jr [6,7] 5 CC.out hT ?_
 refine vO 0 rfl (λK hK=> ?_)
 go_simp
 refine(zt0 Y.drew).mono ?_
 rintro e tw0 ⟨mp,rfl,hmi, -,hb⟩
 have hlk:=kF hmi Tryz.underlying171 Tryz.underlying3 (zmW tw0) op false
 rw [HMF.out] at hlk
 simp only [Option.getD_some,Bool.false_eq_true,if_false] at hlk
 clear hmi
 have hT0:Below Y.heap.size Y tw0:=zH hT hb
 refine hK.out _ _ (λ_ _=>hT0) ?_
 clear hK K hb hT
 refine vO 3 rfl (λK hK=> ?_)
 go_simp
 refine hK.out _ _ (λ_ _=>hT0) ?_
 clear hK K
 refine vO 6 rfl (λK hK=> ?_)
 go_simp
 clear hlk
 refine(hrun.out tw0 hT0).mono ?_
 rintro e tw6 hwe
 have hbx:Below B Y tw0:=hT0.mono hYB
 obtain⟨bb,rfl,hwe⟩:=hwe.told
 have HWE:=qh (hwe.base (jC.out.trans hbx))
 clear hwe hbx
 refine hK.out _ _ (λh=>absurd rfl h) ?_
 clear hK K
 refine zV 7 (λh=>absurd h (by decide+kernel)) ?_
 refine xE (by kernel_rfl) ?_ _
 refine NoPanic.normal ?_
 clear hfn
 go_wp2_with fail
 go_ret
 exact HWE.out
theorem zqm {w:World} {B gr mb mc:Nat} {pc r0 r1 r2 r3 dom:Int} {buf:List zl} {bv:Value} {m:zy} {mem:List Int} {bad:Bool} (h:xD v0 w B gr pc r0 r1 r2 r3 buf bv m dom mem mb mc bad) (hB:B<=w.heap.size) (hbl:buf.length<=1000000) (v:Int)
  (hh:v∈yK buf m.model->0<=v/\v<(mem.length:Int)/\∃n,takeB buf v=(some ⟨v,n⟩,(takeB buf v).2)):Calls Tryz.prog 84 #[.pointer (some ⟨gr,0,none⟩), .int .i64 v] w λe w'=>
  qP v0 w B gr m dom mb mc (if v∈yK buf m.model then some (⟨pc, [r0,r1,r2,r3],(takeB buf v).2⟩,mem.set v.toNat ((takeB buf v).1.getD default).n,bad) else none) e w':=by
 have zmX:=λW V (hV:xD v0 W B gr pc r0 r1 r2 r3 buf V m dom mem mb mc bad)=>zq8 W V buf hV.vI hbl m.model
 have htake:=λW V (hV:xD v0 W B gr pc r0 r1 r2 r3 buf V m dom mem mb mc bad)=>zqT W V buf hV.vI hbl v
 obtain⟨ua,uc,rfl, -⟩:=zh.slice h.vI
 obtain⟨hs,hhs⟩:∃l,l=yK buf m.model:=⟨_,rfl⟩
 rw [<-hhs] at hh zmX ⊢
 obtain⟨un,hun⟩:∃n,n=buf.length:=⟨_,rfl⟩
 rw [<-hun] at h
 have HUN:=qh hun
 have HR:=qh h
 have yR:=qh hB
 have zas:Hid (∀x,Below w.heap.size w x->Calls Tryz.prog 62 #[.slice ua un uc, .int .i64 m.model] x λe w'=>(∃sv,e= .returned sv/\qm w' sv hs)/\Below x.heap.size x w'):=λx hx=>zmX x _ (HR.out.below hx)
 have CC:Hid (∀x,Below w.heap.size w x->x.cell? ⟨gr,5,none⟩=some (.slice ua un uc)/\x.cell? ⟨gr,6,none⟩=some (.int .i64 m.model)):=λx hx=>⟨zk hx _ _ (ze HR.out.block 5),zk hx _ _ (ze HR.out.block 6)⟩
 have HH:=qh hh
 have j3:=qh htake
 clear zmX htake hhs hun h hB hh hbl
 by_cases hv:v∈hs
 rotate_left
 ·have hcv:hs.contains v=false:=by simpa using hv
  rw [if_neg hv]
  clear hv
  clear j3 HH
  obtain⟨res,hres⟩:∃r:Option (zx × List Int × Bool),r=none:=⟨_,rfl⟩
  rw [<-hres]
  have zQ:=qh hres
  clear hres
  go_enter Tryz.func84,Tryz.ntmps84
  go_upto_region 1 with fail
  refine jf (S:=λx=>Below w.heap.size w x) ((Below.refl _ _).drew) (λhH=> ?_)
  refine zB 0 CC.out ?_
  refine zB 1 CC.out ?_
  refine zB 2 CC.out ?_
  refine zB 3 CC.out ?_
  refine zB 4 CC.out ?_
  refine zB 5 CC.out ?_
  refine zB 6 CC.out ?_
  refine zB 7 CC.out ?_
  refine zB 8 CC.out ?_
  refine zB 9 CC.out ?_
  refine zB 11 CC.out ?_
  refine yC 10 rfl (λK hK=> ?_)
  go_simp
  refine(zas.out w.drew hH).mono ?_
  rintro e zq9 ⟨⟨sv,rfl,hsv⟩,hb⟩
  obtain⟨ha,hc,rfl, -⟩:=zh.slice hsv
  have zqA:Below w.heap.size w zq9:=zH hH hb
  refine hK.out _ _ zqA (λ_=> ?_)
  clear hK K hb hH
  refine yC 12 rfl (λK hK=> ?_)
  go_simp
  refine(zfe zq9 _ hs hsv v).mono ?_
  rintro e z2E ⟨he,hyx⟩
  rw [hcv] at he
  subst he
  have hb:Below zq9.heap.size zq9 z2E:=by rw [hyx];exact Below.refl _ _
  clear hyx hsv
  have zx9:Below w.heap.size w z2E:=zH zqA hb
  refine hK.out _ _ zx9 (λ_=> ?_)
  clear hK K hb zqA
  refine zB 13 CC.out ?_
  refine xW ?_
  go_wp2_with fail
  go_ret
  rw [zQ.out]
  exact gH (zx9.mono yR.out)
 have hcv:hs.contains v=true:=by simpa using hv
 obtain⟨hv0,hv1,tn,htk⟩:=HH.out hv
 rw [if_pos hv,htk]
 simp only [Option.getD_some]
 obtain⟨rest,hrest⟩:∃l,l=(takeB buf v).2:=⟨_,rfl⟩
 rw [<-hrest] at htk ⊢
 clear hrest
 obtain⟨vn,rfl⟩:∃k:Nat,v=(k:Int):=⟨v.toNat,by omega⟩
 have uy:vn<mem.length:=by omega
 simp only [Int.toNat_natCast]
 have zgg:Hid (∀x,Below w.heap.size w x->Calls Tryz.prog 101 #[.slice ua un uc, .int .i64 (vn:Int)] x λe w'=>(∃xa xc,e= .returned (.tuple #[.agg #[.int .i64 (vn:Int), .int .i64 tn], .slice xa rest.length xc, .bool true])/\w'.ownsRow x.heap.size 110 2 (.slice xa rest.length xc) rest.length (zo zl.cells rest))/\Below x.heap.size x w'):=λx hx=>(j3.out x _ (HR.out.below hx)).mono (by
  rintro e w' ⟨⟨sv,he,hbf,hrow⟩,hb⟩
  rw [htk] at he hbf hrow
  obtain⟨xa,xc,rfl, -⟩:=zh.slice hbf
  exact⟨⟨xa,xc,he,hrow rfl⟩,hb⟩)
 clear htk hv hv0
 clear j3 HH
 obtain⟨res,hres⟩:∃r:Option (zx × List Int × Bool),r=some (⟨pc, [r0,r1,r2,r3],rest⟩,mem.set vn tn,bad):=⟨_,rfl⟩
 rw [<-hres]
 have zQ:=qh hres
 clear hres
 go_enter Tryz.func84,Tryz.ntmps84
 go_upto_region 1 with fail
 refine jf (S:=λx=>Below w.heap.size w x) ((Below.refl _ _).drew) (λhH=> ?_)
 refine zB 0 CC.out ?_
 refine zB 1 CC.out ?_
 refine zB 2 CC.out ?_
 refine zB 3 CC.out ?_
 refine zB 4 CC.out ?_
 refine zB 5 CC.out ?_
 refine zB 6 CC.out ?_
 refine zB 7 CC.out ?_
 refine zB 8 CC.out ?_
 refine zB 9 CC.out ?_
 refine zB 11 CC.out ?_
 refine yC 10 rfl (λK hK=> ?_)
 go_simp
 refine(zas.out w.drew hH).mono ?_
 rintro e zqB ⟨⟨sv,rfl,hsv⟩,hb⟩
 obtain⟨ha,hc,rfl, -⟩:=zh.slice hsv
 have zqC:Below w.heap.size w zqB:=zH hH hb
 refine hK.out _ _ zqC (λ_=> ?_)
 clear hK K hb hH
 refine yC 12 rfl (λK hK=> ?_)
 go_simp
 refine(zfe zqB _ hs hsv (vn:Int)).mono ?_
 rintro e zmY ⟨he,hyx⟩
 rw [hcv] at he
 subst he
 have hb:Below zqB.heap.size zqB zmY:=by rw [hyx];exact Below.refl _ _
 clear hyx hsv
 have zkU:Below w.heap.size w zmY:=zH zqC hb
 refine hK.out _ _ zkU (λ_=> ?_)
 clear hK K hb zqC
 refine zB 13 CC.out ?_
 refine xW ?_
 have c5:zmY.cell? ⟨gr,5,none⟩=some (.slice ua un uc):=(CC.out _ zkU).1
 have HY:=qh zkU
 clear zkU hcv
 go_wp2_with fail
 refine(zgg.out zmY HY.out).mono ?_
 rintro e w3 ⟨⟨xa,xc,rfl,hrow⟩,hb3⟩
 clear c5
 have qZ:=qh hrow
 have H3:Hid (Below w.heap.size w w3):=zH HY.out hb3
 clear hrow hb3
 have HA:=qh ((Below.refl w3.heap.size w3).alloc (Nat.le_refl _) (.cells #[.int .i64 (vn:Int), .int .i64 tn] 110))
 have HX:=qh (yj w3 (.cells #[.int .i64 (vn:Int), .int .i64 tn] 110))
 go_upto_region 4 with fail
 generalize World.alloc w3 _=X at HA HX ⊢
 obtain⟨gx,hgx⟩:∃g,g=w3.heap.size:=⟨_,rfl⟩
 rw [<-hgx] at HX ⊢
 have HG:Hid (gx≠gr/\gx≠mb):=by
  have h1:=zw HR.out.block
  have h2:=HR.out.gW.2
  have h3:=H3.out.size
  exact⟨by omega,by omega⟩
 clear hgx
 have HWX:Hid (Below w.heap.size w X):=zH H3.out HA.out
 have HRX:=qh (HR.out.below (HWX.out.drew))
 have HRB:=qh (HRX.out.zse (V:=zmY) (bv':= .slice xa rest.length xc) (buf':=rest) ⟨Nat.lt_of_lt_of_le (zw HR.out.block) HY.out.size,Nat.lt_of_lt_of_le HR.out.gW.2 HY.out.size⟩ (qp qZ.out HA.out.drew))
 have HRC:=qh (HRB.out.zdM vn tn)
 have HBC:Hid (Below B w ((X.drew.setCell ⟨gr,5,none⟩ (.slice xa rest.length xc)).setCell ⟨mb,vn,none⟩ (.int .i64 tn))):=((HWX.out.drew.mono yR.out).setCell (p:=⟨gr,5,none⟩) HR.out.base _).setCell (p:=⟨mb,vn,none⟩) HR.out.gW.1 _
 have HS0:Hid (Since (λk=>k=gr\/k=mb) X X.drew/\X.drew.cell? ⟨gr,9,none⟩=some (.slice (some ⟨mb,0,none⟩) mem.length mc)):=⟨(Since.refl _ X).drew,ze HRX.out.block 9⟩
 have vC:Hid (Since (λk=>k=gr\/k=mb) X (X.drew.setCell ⟨gr,5,none⟩ (.slice xa rest.length xc))/\(X.drew.setCell ⟨gr,5,none⟩ (.slice xa rest.length xc)).cell? ⟨gr,9,none⟩=some (.slice (some ⟨mb,0,none⟩) mem.length mc)):=⟨Since.setCell (p:=⟨gr,5,none⟩) HS0.out.1 (.inl (.inl rfl)) _,ze HRB.out.block 9⟩
 have HS2:Hid (Since (λk=>k=gr\/k=mb) X ((X.drew.setCell ⟨gr,5,none⟩ (.slice xa rest.length xc)).setCell ⟨mb,vn,none⟩ (.int .i64 tn))/\((X.drew.setCell ⟨gr,5,none⟩ (.slice xa rest.length xc)).setCell ⟨mb,vn,none⟩ (.int .i64 tn)).cell? ⟨gr,9,none⟩=some (.slice (some ⟨mb,0,none⟩) mem.length mc)):=⟨Since.setCell (p:=⟨mb,vn,none⟩) vC.out.1 (.inl (.inr rfl)) _,by
  have:=ze HRC.out.block 9
  rw [List.length_set] at this
  exact this⟩
 have C4:Hid (∀x,(Since (λk=>k=gr\/k=mb) X x/\x.cell? ⟨gr,9,none⟩=some (.slice (some ⟨mb,0,none⟩) mem.length mc))->x.cell? ⟨gr,9,none⟩=some (.slice (some ⟨mb,0,none⟩) mem.length mc)/\x.cell? ⟨gx,0,none⟩=some (.int .i64 (vn:Int))/\x.cell? ⟨gx,1,none⟩=some (.int .i64 tn)):=λx hx=>⟨hx.2,(hx.1.cell (p:=⟨gx,0,none⟩) (zw HX.out) (λe=>e.elim HG.out.1 HG.out.2)).trans (ze HX.out 0),(hx.1.cell (p:=⟨gx,1,none⟩) (zw HX.out) (λe=>e.elim HG.out.1 HG.out.2)).trans (ze HX.out 1)⟩
 have q0:X.drew.cell? ⟨gr,5,none⟩=some (.slice ua un uc):=ze HRX.out.block 5
 have q1:X.drew.frozen? ⟨gr,5,none⟩=false:=zA HRX.out.block 5
 refine jf (S:=λx=>Since (λk=>k=gr\/k=mb) X x/\x.cell? ⟨gr,9,none⟩=some (.slice (some ⟨mb,0,none⟩) mem.length mc)) (HS0.out) (λhS=> ?_)
 refine zB 0 C4.out ?_
 refine zB 1 C4.out ?_
 refine zB 2 C4.out ?_
 refine zB 3 C4.out ?_
 refine zB 4 C4.out ?_
 refine zB 5 C4.out ?_
 refine zB 6 C4.out ?_
 refine zB 7 C4.out ?_
 refine zB 8 C4.out ?_
 refine zB 9 C4.out ?_
 refine zB 10 C4.out ?_
 refine zB 11 C4.out ?_
 refine zB 12 C4.out ?_
 refine yC 13 rfl (λK hK=> ?_)
 go_simp
 have zxA:=vC.out
 clear q0 q1
 have q2:(X.setCell ⟨gr,5,none⟩ (.slice xa rest.length xc)).cell? ⟨mb,vn,none⟩=some (.int .i64 (mem.getD vn 0)):=(HRB.out.uV uy).1
 have q3:X.frozen? ⟨mb,vn,none⟩=false:=((HR.out.below HWX.out).uV uy).2
 refine hK.out _ _ zxA (λ_=> ?_)
 clear hK K hS
 refine zB 14 C4.out ?_
 refine yC 15 rfl (λK hK=> ?_)
 go_simp
 have z3k:=HS2.out
 clear q2 q3
 refine hK.out _ _ z3k (λ_=> ?_)
 clear hK K zxA
 refine xW ?_
 go_wp2_with fail
 go_ret
 rw [zQ.out]
 exact j5 HRC.out HBC.out
