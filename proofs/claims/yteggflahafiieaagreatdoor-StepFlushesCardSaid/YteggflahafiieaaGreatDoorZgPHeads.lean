/- Steps. -/
import Derived.Lib.OwnBridge
import Derived.Sort.OwnSortedInts
import Derived.Test.YteggflahafiieaaGreatDoorZgPShelf
set_option linter.all false
namespace Go.Proofs.YteggflahafiieaaGreatDoor
open Go.RowKit Go.Sort
set_option maxRecDepth 100000
set_option maxHeartbeats 16000000
theorem getD_in {α:Type} {l:List α} {k:Nat} {x:α} (hk:k<l.length):l.getD k x∈l:=by
 rw [List.getD_eq_getElem?_getD,List.getElem?_eq_getElem hk];exact List.getElem_mem hk
theorem zxs:∀(a b:List Int),a.Pairwise (· < ·)->b.Pairwise (· < ·)->(∀x,x∈a↔x∈b)->a=b:=by
 intro a
 induction a with
 |nil=>
  intro b _ _ h
  cases b with
  |nil=>rfl
  |cons y b=>have:=(h y).2 (by simp);simp at this
 |cons x a ih=>
 intro b ha hb h
 cases b with
 |nil=>have:=(h x).1 (by simp);simp at this
 |cons y b=>
 rw [List.pairwise_cons] at ha hb
 have hxy:x=y:=by
  have h1:=(h x).1 (by simp)
  have h2:=(h y).2 (by simp)
  rcases List.mem_cons.1 h1 with e|e
  ·exact e
  rcases List.mem_cons.1 h2 with e2|e2
  ·exact e2.symm
  have:=hb.1 x e;have:=ha.1 y e2;omega
 subst hxy
 rw [ih b ha.2 hb.2 λz=>⟨λhz=> ?_,λhz=> ?_⟩]
 ·rcases List.mem_cons.1 ((h z).1 (by simp [hz])) with e|e
  ·have:=ha.1 z hz;omega
  exact e
 rcases List.mem_cons.1 ((h z).2 (by simp [hz])) with e|e
 ·have:=hb.1 z hz;omega
 exact e
theorem zlc {x v:Int} {l:List Int} :v∈jC x l↔v=x\/v∈l:=by
 induction l with
 |nil=>simp [jC]
 |cons y l ih=>unfold jC;split<;>simp only [List.mem_cons,ih] <;>(constructor<;>rintro(h|h|h)<;>simp [h])
theorem zpC {x:Int} {l:List Int} (h:l.Pairwise (· < ·)) (hx:x ∉ l):(jC x l).Pairwise (· < ·):=by
 induction l with
 |nil=>simp [jC]
 |cons y l ih=>
 rw [List.pairwise_cons] at h
 simp only [List.mem_cons,not_or] at hx
 unfold jC
 split
 ·rename_i hlt
  rw [List.pairwise_cons]
  refine⟨λz hz=> ?_,List.pairwise_cons.2 h⟩
  rcases List.mem_cons.1 hz with e|e
  ·omega
  have:=h.1 z e;omega
 rw [List.pairwise_cons]
 refine⟨λz hz=> ?_,ih h.2 hx.2⟩
 rcases zlc.1 hz with e|e
 ·omega
 exact h.1 z e
theorem ze3 {l:List zi} {v:Int} :∀ {i:Nat},v∈yJ l i↔∃j,j<i/\(l.getD j default).var=v:=by
 intro i
 induction i with
 |zero=>simp [yJ]
 |succ i ih=>
 unfold yJ
 split
 ·rw [zlc,ih]
  constructor
  ·rintro(h|⟨j,hj,h⟩)
   ·exact⟨i,by omega,h.symm⟩
   exact⟨j,by omega,h⟩
  rintro⟨j,hj,h⟩
  by_cases e:j=i
  ·subst e;exact .inl h.symm
  exact .inr ⟨j,by omega,h⟩
 rename_i hn
 rw [ih]
 rw [List.all_eq_true] at hn
 constructor
 ·rintro⟨j,hj,h⟩;exact⟨j,by omega,h⟩
 rintro⟨j,hj,h⟩
 by_cases e:j=i
 ·subst e
  apply Classical.byContradiction
  intro hh
  apply hn
  intro k hk
  rw [List.mem_range] at hk
  exact decide_eq_true λe2=>hh ⟨k,hk,e2.trans h⟩
 exact⟨j,by omega,h⟩
theorem zkC (l:List zi):∀i,(yJ l i).Pairwise (· < ·):=by
 intro i
 induction i with
 |zero=>simp [yJ]
 |succ i ih=>
 unfold yJ
 split
 ·rename_i h
  rw [List.all_eq_true] at h
  refine zpC ih λhm=> ?_
  obtain⟨j,hj,e⟩:=ze3.1 hm
  exact of_decide_eq_true (h j (List.mem_range.2 hj)) e
 exact ih
theorem zoz {z:List Int} {x:Int} :x∈Lib.compact z↔x∈z:=by
 unfold Lib.compact Lib.compactUpTo
 simp only [List.mem_map,List.mem_filter,List.mem_range]
 constructor
 ·rintro⟨j,⟨hj, -⟩,rfl⟩
  have:z.toArray[j]! =z[j] :=by simp [hj]
  rw [this];exact List.getElem_mem hj
 intro hx
 obtain⟨j,hj,rfl⟩:=List.getElem_of_mem hx
 have key:∀j,(hj:j<z.length)->∃k,(k<z.length/\Lib.keeps z.toArray k=true)/\z.toArray[k]! =z[j] :=by
  intro j
  induction j with
  |zero=>intro hj;exact⟨0,⟨hj,Lib.keeps_lt_one _ 0 (by omega)⟩,by simp [hj]⟩
  |succ j ih=>
  intro hj
  by_cases he:z.toArray[j+1]! =z.toArray[j+1 - 1]!
  ·obtain⟨k,hk,e⟩:=ih (by omega)
   refine⟨k,hk,e.trans ?_⟩
   have h1:z.toArray[j+1]! =z[j+1] :=by simp [hj]
   have h2:z.toArray[j+1 - 1]! =z[j] :=by simp [show j<z.length by omega]
   rw [<-h1,he,h2]
  exact⟨j+1,⟨hj,Lib.keeps_pos he⟩,by simp [hj]⟩
 obtain⟨k,hk,e⟩:=key j hj
 exact⟨k,hk,e⟩
theorem zkD {z:List Int} (h:z.Pairwise (· <= ·)):(Lib.compact z).Pairwise (· < ·):=by
 unfold Lib.compact Lib.compactUpTo
 rw [List.pairwise_map]
 refine List.Pairwise.imp_of_mem ?_ ((List.pairwise_lt_range (n:=z.length)).filter _)
 intro i j hi hj hij
 rw [List.mem_filter,List.mem_range] at hi hj
 have h1:z.toArray[i]! =z[i] :=by simp [hi.1]
 have h2:z.toArray[j]! =z[j] :=by simp [hj.1]
 have h3:z.toArray[j - 1]! =z[j - 1] :=by simp [show j - 1<z.length by omega]
 have hne:z[j] ≠z[j - 1] :=by
  intro e
  have:Lib.keeps z.toArray j=false:=Lib.keeps_neg (by omega) (by rw [h2,h3,e])
  rw [this] at hj;cases hj.2
 have hle:=List.pairwise_iff_getElem.1 h
 have a1:z[i] <=z[j - 1] :=by
  by_cases e:i=j - 1
  ·subst e;exact Int.le_refl _
  exact hle i (j - 1) hi.1 (by omega) (by omega)
 have a2:=hle (j - 1) j (by omega) hj.1 (by omega)
 show z.toArray[i]! <z.toArray[j]!
 rw [h1,h2]
 omega
theorem zo0 (l:List zi):Lib.compact ((l.map zi.var).mergeSort λx y=>decide (x<=y))=yJ l l.length:=by
 refine zxs _ _ (zkD ?_) (zkC l _) λx=> ?_
 ·have:=List.pairwise_mergeSort (le:=λx y:Int=>decide (x<=y)) (λa b c h1 h2=>by simp at*;omega) (λa b=>by simp;omega) (l.map zi.var)
  exact this.imp (λh=>by simpa using h)
 rw [zoz,List.mem_mergeSort,ze3,List.mem_map]
 constructor
 ·rintro⟨e,he,rfl⟩
  obtain⟨j,hj,rfl⟩:=List.getElem_of_mem he
  exact⟨j,hj,by rw [List.getD_eq_getElem?_getD,List.getElem?_eq_getElem hj];rfl⟩
 rintro⟨j,hj,rfl⟩
 exact⟨l.getD j default,getD_in hj,rfl⟩
theorem zjl (l:List Int):zl yO l=l.map (Value.int .i64):=by
 induction l with
 |nil=>rfl
 |cons x l ih=>simp only [zl,List.flatMap_cons,List.map_cons] at ih ⊢;rw [ih];rfl
theorem zxt {w:World} {B:Nat} {e:TypeId} {size n cap k:Nat} {a:Option Addr} {xs:List Value} (h:w.ownsRow B e size (.slice a n cap) n xs) (hk:k<=n) (ha:a=none->n=0):w.ownsRow B e size (.slice a k cap) k (xs.take (k*size)):=by
 have hl:=h.1
 have hle:=Nat.mul_le_mul_right size hk
 refine⟨by rw [List.length_take,hl];omega, ?_⟩
 rcases h.2 with⟨he,hn⟩|⟨g,cap',cur,he,hB,hg,hn,hm,hs,ht⟩
 ·obtain rfl:k=0:=by omega
  cases he
  exact .inl ⟨rfl,rfl⟩
 cases he
 exact .inr ⟨g,_,cur,rfl,hB,hg,by omega,hm,hs,by rw [<-ht,List.take_take];congr 1;omega⟩
theorem zrq {l:List zi} {i:Nat} (hi:i<l.length):(l.take (i+1)).map zi.var=(l.take i).map zi.var++ [(l.getD i default).var] :=by rw [kU hi rfl];simp
def zbL (B:Nat) (X:World) (sv:Value) (l:List Int):Prop:=X.ownsRow B 3 1 sv l.length (zl yO l)
theorem zfK (w:World) (bv:Value) (l:List zi) (h:zW w bv l) (hl:l.length<=1000000) (model:Int):
  Calls Tryz.prog 63 #[bv, .int .i64 model] w λe w'=>(∃sv,e= .returned sv/\zbL w.heap.size w' sv (yD l model))/\Below w.heap.size w w':=by
 obtain⟨ba,bc,rfl, -⟩:=ze.slice h
 obtain⟨n,hn⟩:∃n,n=l.length:=⟨_,rfl⟩
 rw [<-hn] at h hl ⊢
 have HL:=qh h
 have HN:=qh hn
 clear h hn
 go_enter Tryz.func63,Tryz.ntmps63
 go_wp2_with fail
 go_loopg [4,6,9] n (λgg s4 s6 s9 wr=>∃(i:Nat) (oa:Option Addr) (oc:Nat),i<=n/\Hid (gg=n - i)/\s4= .slice oa i oc/\s9= .int .i64 i/\Hid (wr.ownsRow w.heap.size 3 1 (.slice oa i oc) i (zl yO ((l.take i).map zi.var)))/\Hid (Below w.heap.size w wr))
 case atStart=>exact⟨0,none,0,Nat.zero_le _,rfl,rfl,rfl,World.ownsRow_nil _ _ _ _,Below.refl _ _⟩
 case round=>
 obtain⟨i,oa,oc,hi,HG,rfl,rfl,HO,zX⟩:=hrel
 by_cases hlt:i<n
 ·have qK:(i:Int)<(n:Int):=by omega
  obtain⟨eb,eo,yG, -,he1,he2⟩:=HL.out.part i (by rw [<-HN.out];exact hlt)
  subst yG
  have hvs:=zrq (l:=l) (i:=i) (by rw [<-HN.out];exact hlt)
  obtain⟨ev,hev⟩:∃ev,ev=(l.getD i default).var:=⟨_,rfl⟩
  obtain⟨en,hen⟩:∃en,en=(l.getD i default).n:=⟨_,rfl⟩
  rw [<-hev] at he1 hvs
  rw [<-hen] at he2
  have e1:=zh zX.out _ _ he1
  have e2:=zh zX.out _ _ he2
  have HVS:=qh hvs
  have HA:=qh ((Below.refl wr.heap.size wr).alloc (Nat.le_refl _) (.cells #[.int .i64 ev, .int .i64 en] 136))
  have HY:=qh (yE wr (.cells #[.int .i64 ev, .int .i64 en] 136))
  clear he1 he2 hev hen hvs
  go_upto_region 4 with fail
  generalize World.alloc wr _=X at HA HY ⊢
  obtain⟨gl,hgl⟩:∃g,g=wr.heap.size:=⟨_,rfl⟩
  rw [<-hgl] at HY ⊢
  clear hgl e1 e2
  have xC:Hid (Below w.heap.size w X):=zX.out.trans (HA.out.mono zX.out.size)
  have HOX:=qh (xX HO.out HA.out)
  have d0:X.cell? ⟨gl,0,none⟩=some (.int .i64 ev):=za HY.out 0
  clear HY HA HO
  go_wp2_with(at_builtin;go_must(refine yx _ rfl _ _ 28 rfl 3 (.int .i64 0) 1 8 Tryz.underlying28 vO rfl (by decide) w.heap.size (.slice oa i oc) i (zl yO ((l.take i).map zi.var)) rfl (HOX.out.alloc _) ⟨X.heap.size,0,none⟩ 1 1 [.int .i64 ev] rfl rfl (cell_one_new _ _ _) (by simp [Value.oneCell']) (by unfold maxLen;omega) (by omega) (by have:=xC.out.size;simp;omega) ?_);intro ja jc Z f1 f2 f3 f4 f5 f6;have HE:=qh (uP HOX.out f1 f4 xC.out (Nat.le_refl _));clear f1 f2 f3 f4 f5 f6)
  go_roundg (n - (i+1))
  case measure=>rw [HG.out];omega
  case rel=>exact⟨i+1,ja,jc,by omega,rfl,rfl,by simp,by rw [Hid,HVS.out];exact HE.out.1,HE.out.2⟩
 obtain rfl:n=i:=by omega
 have hfull:(l.take n).map zi.var=l.map zi.var:=by rw [HN.out,List.take_length]
 rw [hfull] at HO
 clear hfull
 by_cases m1:model=1
 ·subst m1
  by_cases h0:n=0
  ·subst h0
   have HH:Hid (yD l 1= []):=by rw [Hid,List.eq_nil_of_length_eq_zero HN.out.symm];rfl
   have yt:Hid (zbL w.heap.size wr (.slice oa 0 oc) []):=by
    have:=HO.out
    rw [List.eq_nil_of_length_eq_zero HN.out.symm] at this
    exact this
   clear HO
   go_wp2_with fail
   go_ret
   exact⟨⟨_,rfl,by rw [HH.out];exact yt.out⟩,zX.out⟩
  obtain⟨g,cap,hoa,hg, -⟩:=zfb HO.out (by omega)
  cases hoa
  have hn1:(1:Int)<=(n:Int):=by omega
  have hn2:1<=n:=by omega
  have HH:Hid (yD l 1= [(l.getD 0 default).var]):=by
   rw [Hid]
   cases l with
   |nil=>exact absurd HN.out h0
   |cons x l=>rfl
  have yt:Hid (zbL w.heap.size wr (.slice (some ⟨g,0,none⟩) 1 oc) [(l.getD 0 default).var]):=by
   have h1:=zxt HO.out hn2 (λe=>by cases e)
   have e:(zl yO (l.map zi.var)).take (1*1)=zl yO [(l.getD 0 default).var] :=by
    cases l with
    |nil=>exact absurd HN.out h0
    |cons x l=>rfl
   rw [e] at h1
   exact h1
  have hnc:n<=oc:=by
   rcases HO.out.2 with⟨he, -⟩|⟨g',cap',cur,he,hB,hgh,h1,h2,h3,h4⟩
   ·cases he
   cases he;exact h1
  clear h0
  have hmin:(min (1:Int) (n:Int)).toNat=1:=by omega
  go_wp2_with fail
  go_ret
  exact⟨⟨.slice (some ⟨g,0,none⟩) 1 oc,rfl,by rw [HH.out];exact yt.out⟩,zX.out⟩
 by_cases m2:model=2
 rotate_left
 ·have b1:((model:Int)==1)=false:=by simp [m1]
  have b2:((model:Int)==2)=false:=by simp [m2]
  have HH:Hid (yD l model= []):=by unfold yD;rw [Hid,if_neg m2,if_neg m1]
  clear m1 m2
  go_wp2_with fail
  go_ret
  exact⟨⟨_,rfl,by rw [HH.out];exact World.ownsRow_nil _ _ _ _⟩,zX.out⟩
 subst m2
 have HH:Hid (yD l 2=yJ l l.length):=rfl
 by_cases h0:n=0
 ·subst h0
  have yt:Hid (∀X,Below wr.heap.size wr X->zbL w.heap.size X (.slice oa 0 oc) (yD l 2)):=λX hX=>by
   have:=xX HO.out hX
   have e:yD l 2= [] :=by rw [List.eq_nil_of_length_eq_zero HN.out.symm];rfl
   rw [List.eq_nil_of_length_eq_zero HN.out.symm] at this
   rw [e]
   exact this
  clear HO
  go_wp2_with fail
  refine(slices_Sort_int_none oa oc wr).mono ?_
  rintro e w2 ⟨rfl,rfl⟩
  go_wp2_with fail
  refine(slices_Compact_int_empty oa oc w2).mono ?_
  rintro e w3 ⟨rfl,rfl⟩
  go_wp2_with fail
  go_ret
  exact⟨⟨_,rfl,yt.out _ (Below.refl _ _)⟩,zX.out⟩
 obtain⟨zs,hzs⟩:∃z,z=l.map zi.var:=⟨_,rfl⟩
 have hrow:=HO.out
 rw [<-hzs,zjl] at hrow
 have hzl:zs.length=n:=by rw [hzs,List.length_map,HN.out]
 obtain⟨ts,hts⟩:∃t,t=zs.mergeSort (λx y=>decide (x<=y)):=⟨_,rfl⟩
 have htl:ts.length=zs.length:=by rw [hts,List.length_mergeSort]
 have hcp:Lib.compact ts=yD l 2:=by rw [hts,hzs,HH.out];exact zo0 l
 obtain⟨g,cap,hoa,hg,hgl,hnc,hcm, -,hH⟩:=Lib.holds_of_ownsRow hrow (by intro e;cases e;exact h0 rfl)
 cases hoa
 have hs:=slices_Sort_int g 0 oc zs wr hH hgl (by omega)
 rw [hzl, <-hts] at hs
 have HS:=qh hs
 have yt:Hid (∀k os,∀X,X=Sort.grow (putRow (Value.int .i64) (Sort.ahead wr k) g 0 ts.toArray) os->X.ownsRow w.heap.size 3 1 (.slice (some ⟨g,0,none⟩) n oc) n (ts.map (Value.int .i64))/\Below w.heap.size w X):=by
  rintro k os X rfl
  rcases hrow.2 with⟨he, -⟩|⟨g',cap',cur,he,hB,hgh,h1,h2,h3,h4⟩
  ·cases he
  cases he
  have:=ownsRow_sortedI (n:=k) (os:=os) htl hB hgh (by rw [hzl];exact h1) h2 h3
  rw [hzl] at this
  exact⟨this,zX.out.grown (grownBy_sortedI _) zX.out.size (λj hj=>by cases hj;exact hB)⟩
 have HTL:Hid (ts.length=n):=htl.trans hzl
 have HCP:=qh hcp
 clear hs hrow hzs hts htl hzl hcp hH HO
 go_wp2_with fail
 refine HS.out.mono ?_
 rintro e w2 ⟨rfl,k,os,hw2⟩
 obtain⟨hr2,hb2⟩:=yt.out k os w2 hw2
 obtain⟨g',cap',he', -,z5o, -, -, -,hH2⟩:=Lib.holds_of_ownsRow hr2 (by intro e;cases e)
 cases he'
 have hs2:=slices_Compact_int g 0 oc ts w2 hH2 (by rw [HTL.out];omega) (by rw [HTL.out];exact hnc)
 rw [HTL.out] at hs2
 have hlc:(Lib.compact ts).length<=n:=by
  rw [<-HTL.out];unfold Lib.compact Lib.compactUpTo
  rw [List.length_map];exact Nat.le_trans (List.length_filter_le _ _) (by simp)
 have HS2:=qh hs2
 have zvZ:Hid (∀q X,X=putRow (Value.int .i64) (Sort.ahead w2 q) g 0 (Lib.compact ts++List.replicate (n - (Lib.compact ts).length) 0).toArray->zbL w.heap.size X (.slice (some ⟨g,0,none⟩) (Lib.compact ts).length oc) (yD l 2)/\Below w.heap.size w X):=by
  rintro q X rfl
  have h1:=Lib.ownsRow_putRow (q:=q) (ys:=Lib.compact ts++List.replicate (n - (Lib.compact ts).length) 0) hr2 (by rw [List.length_append,List.length_replicate];omega) hlc
  rw [List.take_left', <-zjl] at h1
  ·refine⟨?_,Lib.below_putRow hb2 hg⟩
   rw [<-HCP.out]
   exact h1
  rfl
 clear hr2 hb2 hH2 hs2 hw2 HS yt
 go_wp2_with fail
 refine HS2.out.mono ?_
 rintro e w3 ⟨rfl,q,hw3⟩
 have HF:=qh (zvZ.out q w3 hw3)
 clear hw3 HS2 zvZ
 go_wp2_with fail
 go_ret
 exact⟨⟨_,rfl,HF.out.1⟩,HF.out.2⟩
theorem zpD (w:World) (bv:Value) (l:List zi) (h:zW w bv l) (hl:l.length<=1000000) (model:Int):
  Calls Tryz.prog 63 #[bv, .int .i64 model] w λe w'=>(∃sv,e= .returned sv/\xI w' sv (yD l model))/\Below w.heap.size w w':=
 (zfK w bv l h hl model).mono λ_ _ ⟨⟨sv,he,ho⟩,hb⟩=>⟨⟨sv,he,gQ ho⟩,hb⟩
