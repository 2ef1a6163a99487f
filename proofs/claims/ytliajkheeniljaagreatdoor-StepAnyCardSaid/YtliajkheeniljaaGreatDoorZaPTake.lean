/- The oldest store to a variable, and the others: the program's answer: the walk. -/
import Derived.IntWalk
import Derived.Test.YtliajkheeniljaaGreatDoorZaKFuncs
import Derived.Test.YtliajkheeniljaaGreatDoorZaPClone
import Derived.Test.YtliajkheeniljaaGreatDoorZaShort
set_option linter.all false
namespace Go.Proofs.YtliajkheeniljaaGreatDoor
open Go.RowKit
set_option maxRecDepth 100000
set_option maxHeartbeats 16000000
theorem zeE (l:List zn) (v:Int):∀k,k<=l.length->(∀j,j<k->(l.getD j default).var≠v)->yH l v k=(none,l.take k):=by
 intro k
 induction k with
 |zero=>intro _ _;simp [yH]
 |succ k ih=>
  intro hk h
  unfold yH
  rw [ih (by omega) (fun j hj=>h j (by omega))]
  have e:decide ((l.getD k default).var=v)=false:=decide_eq_false (h k (by omega))
  rw [e]
  simp only [Option.isNone_none,Bool.and_false,Bool.false_eq_true,if_false]
  rw [jw (by omega) rfl]
theorem zix (l:List zn) (v:Int) (i:Nat) (hi:i<l.length) (h:∀j,j<i->(l.getD j default).var≠v) (hv:(l.getD i default).var=v):∀k,i<k->k<=l.length->yH l v k=(some (l.getD i default),l.take i++(l.take k).drop (i+1)):=by
 intro k hk
 induction k with
 |zero=>omega
 |succ k ih=>
  intro hkl
  unfold yH
  by_cases he:k=i
  ·subst he
   rw [zeE l v k (by omega) h,decide_eq_true hv]
   simp only [Option.isNone_none,Bool.and_true,if_true]
   rw [List.drop_eq_nil_of_le (by rw [List.length_take];omega),List.append_nil]
  ·rw [ih (by omega) (by omega)]
   simp only [Option.isNone_some,Bool.false_and,Bool.false_eq_true,if_false]
   rw [jw (l:=l) (i:=k) (by omega) rfl,List.drop_append_of_le_length (by rw [List.length_take];omega),List.append_assoc]
theorem zn3 (l:List zn) (v:Int) (h:∀j,j<l.length->(l.getD j default).var≠v):takeB l v=(none,l):=by unfold takeB;rw [zeE l v _ (Nat.le_refl _) h,List.take_length]
theorem zkN (l:List zn) (v:Int) (i:Nat) (hi:i<l.length) (h:∀j,j<i->(l.getD j default).var≠v) (hv:(l.getD i default).var=v):takeB l v=(some (l.getD i default),l.take i++l.drop (i+1)):=by
 unfold takeB;rw [zix l v i hi h hv _ hi (Nat.le_refl _),List.take_length]
theorem zkO (i:Nat) (h:i<=1000000000):IntKind.i64.wrap ((i:Int)+1)=(i:Int)+1:=IntWalk.i64_in _ (by omega)
theorem ziy {α:Type} {f:α->List Value} {size:Nat} (hf:∀x,(f x).length=size):∀(l:List α) (i:Nat),(zq f l).take (i*size)=zq f (l.take i):=by
 intro l
 induction l with
 |nil=>intro i;simp [zq]
 |cons x l ih=>
  intro i
  cases i with
  |zero=>simp [zq]
  |succ i=>
   have e:=ih i
   simp only [zq,List.flatMap_cons,List.take_succ_cons] at e ⊢
   rw [List.take_append,List.take_of_length_le (by rw [hf,Nat.add_mul];omega),hf,show(i+1)*size - size=i*size by rw [Nat.add_mul];omega,e]
theorem ziz {α:Type} {f:α->List Value} {size:Nat} (hf:∀x,(f x).length=size):∀(l:List α) (i:Nat),(zq f l).drop (i*size)=zq f (l.drop i):=by
 intro l
 induction l with
 |nil=>intro i;simp [zq]
 |cons x l ih=>
  intro i
  cases i with
  |zero=>simp [zq]
  |succ i=>
   have e:=ih i
   simp only [zq,List.flatMap_cons,List.drop_succ_cons] at e ⊢
   rw [List.drop_append,List.drop_of_length_le (by rw [hf,Nat.add_mul];omega),hf,show(i+1)*size - size=i*size by rw [Nat.add_mul];omega,e]
   rfl
theorem zi0 (w:World) (x y v:Int) (g:Nat) (hg:w.cell? ⟨g,0,none⟩=some (.int .i64 v)):Calls Tryz.prog 138 #[.agg #[.int .i64 x, .int .i64 y], .pointer (some ⟨g,0,none⟩)] w fun e w'=>e= .returned (.bool (x==v))/\Below w.heap.size w w':=by
 have HA:=qh ((Below.refl w.heap.size w).alloc (Nat.le_refl _) (.cells #[.int .i64 x, .int .i64 y] 50))
 have HX:=qh (yK w (.cells #[.int .i64 x, .int .i64 y] 50))
 replace hg:=zm HA.out _ _ hg
 go_enter Tryz.func138,Tryz.ntmps138
 go_upto_region 1 with fail
 generalize World.alloc w _=W at HA HX hg ⊢
 obtain⟨gi,hgi⟩:∃g,g=w.heap.size:=⟨_,rfl⟩
 rw [<-hgi] at HX ⊢
 clear hgi
 have c0:W.cell? ⟨gi,0,none⟩=some (.int .i64 x):=zh HX.out 0
 go_wp2_with fail
 go_ret
 exact⟨by first|rfl|simp,HA.out⟩
theorem zkP (w:World) (bv:Value) (l:List zn) (h:zH w bv l) (hl:l.length<=1000000) (v:Int):
  Calls Tryz.prog 109 #[bv, .int .i64 v] w fun e w'=>(∃sv,e= .returned (.tuple #[((takeB l v).1.getD default).val,sv, .bool (takeB l v).1.isSome])/\zH w' sv (takeB l v).2/\((takeB l v).1.isSome=true->w'.ownsRow w.heap.size 50 2 sv (takeB l v).2.length (zq zn.cells (takeB l v).2)))/\Below w.heap.size w w':=by
 obtain⟨ba,bc,rfl, -⟩:=zl.slice h
 have hB:=xw w (.cells #[.int .i64 v] 3) (.cells #[.int .i64 0, .int .i64 0] 50)
 have HB:=qh hB
 have H1:=qh (xA w (.cells #[.int .i64 v] 3) (.cells #[.int .i64 0, .int .i64 0] 50))
 have H2:=qh (xq w (.cells #[.int .i64 v] 3) (.cells #[.int .i64 0, .int .i64 0] 50))
 have HL:=qh h
 obtain⟨n,hn⟩:∃n,n=l.length:=⟨_,rfl⟩
 have HN:=qh hn
 have hix:=fun W (hW:Below w.heap.size w W) (hg:W.cell? ⟨w.heap.size,0,none⟩=some (.int .i64 v))=>zet jK jK.stays W _ l (zH.below h hW) 138 #[] #[.pointer (some ⟨w.heap.size,0,none⟩)] (fun j=>(l.getD j default).var==v) (fun _ _=>rfl)
  (fun j hj W' cs hcl hq hW'=>by
   obtain rfl:cs=zn.cells _:=hq
   exact zi0 W' _ _ v w.heap.size (zm hW' _ _ hg))
 rw [<-hn] at hix ⊢
 have HIX:=qh hix
 clear h hB hn hix
 go_enter Tryz.func109,Tryz.ntmps109
 go_upto_region 1 with fail
 generalize World.alloc (World.alloc w _) _=W at HB H1 H2 ⊢
 obtain⟨gx,hgx⟩:∃gx,gx=w.heap.size:=⟨_,rfl⟩
 rw [<-hgx] at H1 H2 HIX ⊢
 have xO:=qh hgx
 clear hgx
 go_wp2_with fail
 have HW:Hid (Below w.heap.size w W):=HB.out
 refine(HIX.out W (by rw [xO.out];exact HB.out) (zh H1.out 0)).mono ?_
 rintro e w2 (⟨i,hi,rfl,hp,hb⟩|⟨rfl,hp,hb⟩)
 ·have HB2:Hid (Below w.heap.size w w2):=HB.out.trans (hb.mono HB.out.size)
  have HG:Hid (w2.heap[gx+1]? =some (.cells #[.int .i64 0, .int .i64 0] 50)):=(hb.block (gx+1) (zJ H2.out)).trans H2.out
  have jL:Hid (takeB l v=(some (l.getD i default),l.take i++l.drop (i+1))):=zkN l v i (by rw [<-HN.out];exact hi) (fun j hj=>by have:=hp.2 j hj;simpa using this) (by have:=hp.1;simpa using this)
  clear hb hp HIX HB H1 H2 HW
  obtain⟨bb,bo,rfl,hbb,q0,q1⟩:=HL.out.part i (by rw [<-HN.out];exact hi)
  obtain⟨x0,hx0⟩:∃x,x=(l.getD i default).var:=⟨_,rfl⟩
  obtain⟨x1,hx1⟩:∃x,x=(l.getD i default).n:=⟨_,rfl⟩
  rw [<-hx0] at q0
  rw [<-hx1] at q1
  have HV:Hid ((l.getD i default).val= .agg #[.int .i64 x0, .int .i64 x1]):=by rw [hx0,hx1];rfl
  have CC:Hid (∀X,Below w.heap.size w X->X.cell? ⟨bb,bo+i*2,none⟩=some (.int .i64 x0)/\X.cell? ⟨bb,bo+i*2+1,none⟩=some (.int .i64 x1)):=fun X hX=>⟨zm hX _ _ q0,zm hX _ _ q1⟩
  have zi1:Hid (∀X,Below w.heap.size w X->SrcOf X (.slice (some ⟨bb,bo,none⟩) n bc) n 2 (zq zn.cells l)):=fun X hX=>by
   have:=SrcOf.of_slice (R:=jK) (by decide) vV (fun _ _ _ h=>h) (zH.below HL.out hX)
   rw [<-HN.out] at this;exact this
  have z2e:Hid ((zq zn.cells l).take (i*2)++(zq zn.cells l).drop (i*2+2)=zq zn.cells (l.take i++l.drop (i+1))):=by
   rw [Hid,jh,ziy vV,show i*2+2=(i+1)*2 by omega,ziz vV]
  have HLEN:Hid ((l.take i++l.drop (i+1)).length=n - 1):=by rw [Hid,List.length_append,List.length_take,List.length_drop, <-HN.out];omega
  have hiI:(i:Int)<(n:Int):=by omega
  have hn0:0<n:=by omega
  have hnl:n<=100000000:=by rw [HN.out];omega
  have hwr:=zkO i (by omega)
  clear q0 q1 hx0 hx1 hbb
  go_upto_region 4 with fail
  refine wp_region_noPanic ?_
  refine wp_region_held_drew (S:=fun x=>Below w.heap.size w x) (by kernel_rfl) (HB2.out.drew) (fun hH=> ?_)
  refine zo 0 15 ?vh1 rfl ?kr ?_
  case kr=>(intro x h;have e:=CC.out x h;go_simp<;>rfl)
  simp only [Act.put,za,ze,zf]
  refine zo 1 16 ?vh2 rfl ?ku ?_
  case ku=>(intro x h;have e:=CC.out x h;go_simp<;>rfl)
  simp only [Act.put,za,ze,zf]
  refine zo 2 17 ?vh3 rfl ?kC ?_
  case kC=>(intro x h;have e:=CC.out x h;go_simp<;>rfl)
  simp only [Act.put,za,ze,zf]
  refine zo 3 18 ?vh4 rfl ?kD ?_
  case kD=>(intro x h;have e:=CC.out x h;go_simp<;>rfl)
  simp only [Act.put,za,ze,zf]
  refine zo 4 19 ?vh5 rfl ?kE ?_
  case kE=>(intro x h;have e:=CC.out x h;go_simp<;>rfl)
  simp only [Act.put,za,ze,zf]
  refine zo 6 21 ?vh6 rfl ?kF ?_
  case kF=>(intro x h;have e:=CC.out x h;go_simp<;>rfl)
  simp only [Act.put,za,ze,zf]
  refine zo 7 22 ?vh7 rfl ?kG ?_
  case kG=>(intro x h;have e:=CC.out x h;go_simp<;>rfl)
  simp only [Act.put,za,ze,zf]
  refine zo 8 23 ?vh8 rfl ?kH ?_
  case kH=>(intro x h;have e:=CC.out x h;go_simp<;>rfl)
  simp only [Act.put,za,ze,zf]
  refine zT 5 rfl (fun K hK=> ?_)
  go_simp
  refine(zeu w2.drew _ n (zq zn.cells l) (zi1.out w2.drew hH) jZ hnl).mono ?_
  rintro e hw5 ⟨⟨ca,cc,rfl,hrow⟩,hb⟩
  obtain⟨cg,cap',hce,hcg, -⟩:=zcT hrow hn0
  cases hce
  have HG5:Hid (hw5.heap[gx+1]? =some (.cells #[.int .i64 0, .int .i64 0] 50)):=(hb.block (gx+1) (zJ (w:=w2) HG.out)).trans HG.out
  have zwZ:=qh hrow
  have HCG:=qh (show w2.heap.size<=cg from(hrow.lt cg rfl).1)
  clear hrow hcg
  have zi2:Below w.heap.size w hw5:=zB hH hb
  refine hK.out _ _ zi2 (fun _=> ?_)
  clear hK K hb hH
  refine zT 9 rfl (fun K hK=> ?_)
  go_simp
  with_reducible refine(zhm hw5 _ cg n cc i _ zwZ.out jZ hi hnl).mono ?_
  rintro e hw9 ⟨rfl,hrow,hs⟩
  rw [z2e.out] at hrow
  have zp1:=qh hrow
  have HGG:=qh (show gx+1<w2.heap.size from zJ HG.out)
  have HG9:Hid (hw9.heap[gx+1]? =some (.cells #[.int .i64 0, .int .i64 0] 50)):=(hs.block (gx+1) (zJ HG5.out) (by have:=HGG.out;have:=HCG.out;omega)).trans HG5.out
  have hb:=hs
  clear hrow
  have zn4:Below w.heap.size w hw9:=(zi2).trans (hs.below (zi2).size (fun k (e:k=cg)=>by have:=HCG.out;have:=HB2.out.size;omega))
  refine hK.out _ _ zn4 (fun _=> ?_)
  clear hK K hb zi2
  refine zT 10 rfl (fun K hK=> ?_)
  go_simp
  have d2:hw9.cell? ⟨gx+1,0,none⟩=some (.int .i64 0):=zh HG9.out 0
  have d3:hw9.cell? ⟨gx+1,1,none⟩=some (.int .i64 0):=zh HG9.out 1
  have f0:hw9.frozen? ⟨gx+1,0,none⟩=false:=zK HG9.out 0
  have f1:hw9.frozen? ⟨gx+1,1,none⟩=false:=zK HG9.out 1
  go_simp
  have zp2:=((zn4).setCell (p:=⟨gx+1,0,none⟩) (by rw [xO.out];simp) (.int .i64 x0)).setCell (p:=⟨gx+1,1,none⟩) (by rw [xO.out];simp) (.int .i64 x1)
  clear d2 d3 f0 f1
  refine hK.out _ _ zp2 (fun _=> ?_)
  clear hK K zn4
  refine zo 11 5 ?vh9 rfl ?wG ?_
  case wG=>(intro x h;have e:=CC.out x h;go_simp<;>rfl)
  simp only [Act.put,za,ze,zf]
  refine zo 12 6 ?zi3 rfl ?bL ?_
  case bL=>(intro x h;have e:=CC.out x h;go_simp<;>rfl)
  simp only [Act.put,za,ze,zf]
  refine wpAnyH_done (by kernel_rfl) ?_ _
  refine NoPanic.normal ?_
  have hfin:=Since.setCell (p:=⟨gx+1,1,none⟩) (Since.setCell (F:=fun k=>k=gx+1) (p:=⟨gx+1,0,none⟩) (Since.refl _ hw9) (.inl rfl) (.int .i64 x0)) (.inl rfl) (.int .i64 x1)
  have hset:=zx (zx HG9.out 0 (.int .i64 x0)) 1 (.int .i64 x1)
  simp only [List.setIfInBounds_toArray,List.set_cons_zero,List.set_cons_succ] at hset
  have zI:=qh hset
  have zY:=qh hfin
  have yT:=qh (zp2)
  clear hset hfin
  go_wp2_with fail
  refine bodyPost_ret (uW rfl _ _ (gx+1) 50 _ (0,0) _ rfl zI.out Tryz.underlying50 rfl zaS) rfl ?_
  rw [jL.out]
  have zp3:((hw9.setCell ⟨gx+1,0,none⟩ (.int .i64 x0)).setCell ⟨gx+1,1,none⟩ (.int .i64 x1)).ownsRow w2.heap.size 50 2 (.slice (some ⟨cg,0,none⟩) (n - 1) cc) (l.take i++l.drop (i+1)).length (zq zn.cells (l.take i++l.drop (i+1))):=by
   rw [HLEN.out]
   exact zY.out.row zp1.out (fun k hk e=>by have h1:w2.heap.size<=k:=(zp1.out.lt k hk).1;have:=HGG.out;omega)
  exact⟨⟨_,by rw [Option.getD_some,HV.out];rfl,vL zp3,fun _=>yN zp3 HB2.out.size⟩,yT.out⟩
 ·have HB2:Hid (Below w.heap.size w w2):=HB.out.trans (hb.mono HB.out.size)
  have HG:Hid (w2.heap[gx+1]? =some (.cells #[.int .i64 0, .int .i64 0] 50)):=(hb.block (gx+1) (zJ H2.out)).trans H2.out
  have jL:Hid (takeB l v=(none,l)):=zn3 l v (fun j hj=>by have:=hp j (by rw [HN.out];exact hj);simpa using this)
  clear hb hp HIX HB H1 H2 HW
  have d2:w2.cell? ⟨gx+1,0,none⟩=some (.int .i64 0):=zh HG.out 0
  have d3:w2.cell? ⟨gx+1,1,none⟩=some (.int .i64 0):=zh HG.out 1
  have f0:w2.frozen? ⟨gx+1,0,none⟩=false:=zK HG.out 0
  have f1:w2.frozen? ⟨gx+1,1,none⟩=false:=zK HG.out 1
  have hset:=zx (zx HG.out 0 (.int .i64 0)) 1 (.int .i64 0)
  simp only [List.setIfInBounds_toArray,List.set_cons_zero,List.set_cons_succ] at hset
  have zI:=qh hset
  have yT:=qh ((HB2.out.setCell (p:=⟨gx+1,0,none⟩) (by rw [xO.out];simp) (.int .i64 0)).setCell (p:=⟨gx+1,1,none⟩) (by rw [xO.out];simp) (.int .i64 0))
  clear hset
  go_wp2_with fail
  refine bodyPost_ret (uW rfl _ _ (gx+1) 50 _ (0,0) _ rfl zI.out Tryz.underlying50 rfl zaS) rfl ?_
  rw [jL.out]
  refine⟨⟨.slice ba n bc,rfl, ?_,fun e=>by cases e⟩,yT.out⟩
  have:=zH.below HL.out yT.out
  rw [<-HN.out] at this
  exact this
end Go.Proofs.YtliajkheeniljaaGreatDoor
