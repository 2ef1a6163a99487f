/- Steps. -/
import Derived.Test.YteggflahafiieaaGreatDoorZgKFuncs
import Derived.Test.YteggflahafiieaaGreatDoorZgPart
set_option linter.all false
namespace Go.Proofs.YteggflahafiieaaGreatDoor
open Go.RowKit
set_option maxRecDepth 100000
set_option maxHeartbeats 16000000
theorem zqd (dom:Int) (d:Nat) (hd:d<=1000) (ih:∀(e:Nat) (w:World) (x:zH) (kv:Value),zx e w x kv->Calls Tryz.prog 204 #[xQ x kv, .int .i64 d, .int .i64 dom] w λe w'=>e= .returned (.bool (zL dom d x))/\Below w.heap.size w w')
  (e:Nat) (w:World) (x:zH) (kv:Value) (h:zx e w x kv) (bd bo:Nat) (cd:w.cell? ⟨bd,0,none⟩=some (.int .i64 ((d:Int)+1))) (co:w.cell? ⟨bo,0,none⟩=some (.int .i64 dom)):
  Calls Tryz.prog 215 #[xQ x kv, .pointer (some ⟨bd,0,none⟩), .pointer (some ⟨bo,0,none⟩)] w λe w'=>e= .returned (.bool (!zL dom d x))/\Below w.heap.size w w':=by
 have hi:=λW (hW:Below w.heap.size w W)=>ih e W x kv (h.below hW)
 obtain⟨ka,kc,rfl, -⟩:=h.slice
 have hd2:wrap64 ((d:Int)+1 - 1)=(d:Int):=by unfold wrap64;omega
 generalize zL dom d x=r at hi ⊢
 unfold xQ at hi ⊢
 generalize x.kind=k at hi ⊢
 generalize x.n=n at hi ⊢
 generalize x.op=o at hi ⊢
 generalize x.kids.length=m at hi ⊢
 have HI:=qh hi
 clear hi ih h
 have HA:=qh ((Below.refl w.heap.size w).alloc (Nat.le_refl _) (.cells #[.int .i64 k, .int .i64 n, .int .u8 o, .slice ka m kc] 51))
 have xG:=qh (yE w (.cells #[.int .i64 k, .int .i64 n, .int .u8 o, .slice ka m kc] 51))
 replace cd:=zh HA.out _ _ cd
 replace co:=zh HA.out _ _ co
 go_enter Tryz.func215,Tryz.ntmps215
 go_upto_region 1 with fail
 generalize World.alloc w _=W at HA xG cd co ⊢
 obtain⟨gx,hgx⟩:∃gx,gx=w.heap.size:=⟨_,rfl⟩
 rw [<-hgx] at xG ⊢
 clear hgx
 have c0:W.cell? ⟨gx,0,none⟩=some (.int .i64 k):=za xG.out 0
 have c1:W.cell? ⟨gx,1,none⟩=some (.int .i64 n):=za xG.out 1
 have c2:W.cell? ⟨gx,2,none⟩=some (.int .u8 o):=za xG.out 2
 have c3:W.cell? ⟨gx,3,none⟩=some (.slice ka m kc):=za xG.out 3
 go_wp2_with(go_at_call 204;go_must(refine(HI.out _ HA.out).mono ?_);rintro e w1 ⟨rfl,hb⟩;have HB1:=qh (zB HA.out hb);clear hb)
 go_ret
 exact⟨by first|rfl|simp,HB1.out⟩
def zqe (e:Nat) (w:World) (y:zH) (cs:List Value):Prop:=∃kv',cs=y.cells kv'/\zx e w y kv'
theorem zqe.stays (e:Nat):jO (zqe e):=λ_ _ _ _ ⟨kv',q1,q2⟩ hb=>⟨kv',q1,q2.below hb⟩
def zbZ (dom k:Int):Int:=if k=1 then dom else if k=2 then 4 else if k=3 then 1 else 0
theorem zrL (dom k:Int):(wz (uz (uz (uz [] 1 (Value.int .i64 dom)) 2 (.int .i64 4)) 3 (.int .i64 1)) k).getD (.int .i64 0)= .int .i64 (zbZ dom k):=by
 simp only [uz,wz,zbZ]
 by_cases h1:k=1
 ·subst h1;rfl
 by_cases h2:k=2
 ·subst h2;rfl
 by_cases h3:k=3
 ·subst h3;rfl
 rw [if_neg h1,if_neg h2,if_neg h3]
 simp [uz,wz,Ne.symm h1,Ne.symm h2,Ne.symm h3]
theorem zqf (dom k n o:Int) (m:Nat) (A B:Bool):(if k=1 then decide (0<=n) && decide (n<dom) && decide (o=0) && decide (m=0)
   else if k=2 then decide (0<=n) && decide (n<4) && decide (o=0) && decide (m=0)
   else if k=3 then decide (n=0) && vD o && decide (m=2) && A && B else false)=
  (decide (0<=n) && decide (n<zbZ dom k) && (if k=3 then vD o && decide (m=2) && (A && B) else decide (o=0) && decide (m=0))):=by
 unfold zbZ
 by_cases h1:k=1
 ·subst h1;simp [Bool.and_assoc]
 by_cases h2:k=2
 ·subst h2;simp [Bool.and_assoc]
 by_cases h3:k=3
 ·subst h3
  have e:decide (n=0)=(decide (0<=n) && decide (n<1)):=by
   by_cases h:n=0
   ·subst h;rfl
   rw [decide_eq_false h];by_cases h0:0<=n
   ·rw [decide_eq_false (by omega:¬n<1)];simp
   rw [decide_eq_false h0];rfl
  simp only [e];simp [Bool.and_assoc]
 rw [if_neg h1,if_neg h2,if_neg h3,if_neg h1,if_neg h2,if_neg h3]
 by_cases h0:0<=n
 ·rw [decide_eq_false (by omega:¬n<0)];simp
 rw [decide_eq_false h0];rfl
theorem zdu (P:World):(zeroValue 3).run Tryz.prog P= .ok (.int .i64 0) P:=by
 obtain⟨i0,hi,hz0,hz1,hz2⟩:=info_parts vO
 simp [zeroValue,typeInfo,hi,hz0]
theorem zrM (dom:Int) (d:Nat) (hd:d<=1000):∀(e:Nat) (w:World) (x:zH) (kv:Value),zx e w x kv->
  Calls Tryz.prog 204 #[xQ x kv, .int .i64 d, .int .i64 dom] w λe w'=>e= .returned (.bool (zL dom d x))/\Below w.heap.size w w':=by
 induction d with
 |zero=>
  intro e w x kv h
  obtain⟨ka,kc,rfl, -⟩:=h.slice
  have hr:zL dom 0 x=false:=rfl
  rw [hr]
  clear hr
  unfold xQ
  clear h
  have HB:=qh (zgs w (.cells #[.int .i64 x.kind, .int .i64 x.n, .int .u8 x.op, .slice ka x.kids.length kc] 51) (.cells #[.int .i64 0] 3) (.cells #[.int .i64 dom] 3)).1
  go_enter Tryz.func204,Tryz.ntmps204
  go_wp2_with fail
  go_ret
  exact⟨by first|rfl|simp,HB.out⟩
 |succ d ih=>
 intro e w x kv h
 obtain⟨ka,kc,rfl, -⟩:=h.slice
 obtain⟨k,hk⟩:∃k,k=x.kind:=⟨_,rfl⟩
 obtain⟨n,hn⟩:∃n,n=x.n:=⟨_,rfl⟩
 obtain⟨o,ho⟩:∃o,o=x.op:=⟨_,rfl⟩
 obtain⟨m,hm⟩:∃m,m=x.kids.length:=⟨_,rfl⟩
 obtain⟨r,hr⟩:∃r,r=zL dom (d+1) x:=⟨_,rfl⟩
 have hr2:r=(if k=1 then decide (0<=n) && decide (n<dom) && decide (o=0) && decide (m=0)
  else if k=2 then decide (0<=n) && decide (n<4) && decide (o=0) && decide (m=0)
  else if k=3 then decide (n=0) && vD o && decide (m=2) && zL dom d (x.kids.getD 0 default) && zL dom d (x.kids.getD 1 default) else false):=by rw [hr,hk,hn,ho,hm];rfl
 rw [<-hr]
 have HR:=qh hr2
 have HM:=qh hm
 rw [<-hm] at h
 have HE:=qh h
 unfold xQ
 rw [<-hk, <-hn, <-ho, <-hm]
 have hB:=zgs w (.cells #[.int .i64 k, .int .i64 n, .int .u8 o, .slice ka m kc] 51) (.cells #[.int .i64 ((d:Int)+1)] 3) (.cells #[.int .i64 dom] 3)
 have HB:=qh hB.1
 have HX:=qh hB.2.1
 have HD:=qh hB.2.2.1
 have HO:=qh hB.2.2.2.1
 have HS:=qh hB.2.2.2.2
 clear hk hn ho hm hr hr2 h hB
 have hd1:¬((d:Int)+1<1):=by omega
 have hd3:(((d+1:Nat):Int))=(d:Int)+1:=by omega
 simp only [hd3]
 clear hd3
 go_enter Tryz.func204,Tryz.ntmps204
 go_upto_region 3 with fail
 generalize World.alloc (World.alloc (World.alloc w _) _) _=W at HB HX HD HO HS ⊢
 obtain⟨gx,hgx⟩:∃gx,gx=w.heap.size:=⟨_,rfl⟩
 rw [<-hgx] at HX HD HO ⊢
 have CC:Hid (∀x,Below W.heap.size W x->(x.cell? ⟨gx,0,none⟩=some (.int .i64 k)/\x.cell? ⟨gx,1,none⟩=some (.int .i64 n)/\x.cell? ⟨gx,2,none⟩=some (.int .u8 o)/\x.cell? ⟨gx,3,none⟩=some (.slice ka m kc))/\x.cell? ⟨gx+1,0,none⟩=some (.int .i64 ((d:Int)+1))/\x.cell? ⟨gx+2,0,none⟩=some (.int .i64 dom)):=λx hx=>
  ⟨⟨zh hx _ _ (za HX.out 0),zh hx _ _ (za HX.out 1),zh hx _ _ (za HX.out 2),zh hx _ _ (za HX.out 3)⟩,zh hx _ _ (za HD.out 0),zh hx _ _ (za HO.out 0)⟩
 clear hgx
 have hmm:= @run_makeMap Tryz.prog
 have h0:wQ (W.alloc (.map #[] 0)) W.heap.size [] :=⟨#[],0,yE W _,rfl⟩
 have HW:=qh ((Below.refl W.heap.size W).alloc (Nat.le_refl _) (.map #[] 0))
 obtain⟨⟨c0,c1,c2,c3⟩,cd,co⟩:=CC.out _ HW.out
 go_upto_region 4 with(first|(refine qU _ rfl _ _ _ 207 rfl 3 3 .i64 Tryz.underlying207 Tryz.underlying3 W.heap.size _ rfl _ rfl (.int .i64 dom) rfl h0 ?_;clear h0;intro w1 h0 hs1 hz1;replace HW:=qh (HW.out.trans (hs1.below HW.out.size (λk hk=>by omega)));clear hs1 hz1;clear c0 c1 c2 c3 cd co;obtain⟨⟨c0,c1,c2,c3⟩,cd,co⟩:=CC.out _ HW.out)|(refine qU _ rfl _ _ _ 207 rfl 3 3 .i64 Tryz.underlying207 Tryz.underlying3 W.heap.size _ rfl _ rfl (.int .i64 4) rfl h0 ?_;clear h0;intro w1 h0 hs1 hz1;replace HW:=qh (HW.out.trans (hs1.below HW.out.size (λk hk=>by omega)));clear hs1 hz1;clear c0 c1 c2 c3 cd co;obtain⟨⟨c0,c1,c2,c3⟩,cd,co⟩:=CC.out _ HW.out)|(refine qU _ rfl _ _ _ 207 rfl 3 3 .i64 Tryz.underlying207 Tryz.underlying3 W.heap.size _ rfl _ rfl (.int .i64 1) rfl h0 ?_;clear h0;intro w1 h0 hs1 hz1;replace HW:=qh (HW.out.trans (hs1.below HW.out.size (λk hk=>by omega)));clear hs1 hz1;clear c0 c1 c2 c3 cd co;obtain⟨⟨c0,c1,c2,c3⟩,cd,co⟩:=CC.out _ HW.out;have hlk:=wY h0 Tryz.underlying207 Tryz.underlying3 (zdu w1) k false;rw [zrL] at hlk;clear h0))
 have pE:Hid (Below w.heap.size w w1):=HB.out.trans (HW.out.mono HB.out.size)
 clear hlk hmm
 have HR1:Hid (r=(decide (0<=n) && decide (n<zbZ dom k) && (if k=3 then vD o && decide (m=2) && (zL dom d (x.kids.getD 0 default) && zL dom d (x.kids.getD 1 default)) else decide (o=0) && decide (m=0)))):=HR.out.trans (zqf dom k n o m _ _)
 clear HR
 generalize zbZ dom k=mo at HR1 ⊢
 by_cases a1:0<=n
 rotate_left
 ·obtain rfl:r=false:=by rw [HR1.out,decide_eq_false a1];simp
  clear HR1
  go_wp2_with fail
  go_ret
  exact⟨by first|rfl|simp,pE.out⟩
 by_cases a2:n<mo
 rotate_left
 ·obtain rfl:r=false:=by rw [HR1.out,decide_eq_false a2];simp
  clear HR1
  go_wp2_with fail
  go_ret
  exact⟨by first|rfl|simp,pE.out⟩
 have HR2:Hid (r=(if k=3 then vD o && decide (m=2) && (zL dom d (x.kids.getD 0 default) && zL dom d (x.kids.getD 1 default)) else decide (o=0) && decide (m=0))):=by rw [Hid,HR1.out,decide_eq_true a1,decide_eq_true a2];rfl
 clear HR1
 by_cases k3:k=3
 rotate_left
 ·have HR3:Hid (r=(decide (o=0) && decide (m=0))):=by rw [Hid,HR2.out,if_neg k3]
  have k3b:(k==3)=false:=by simp [k3]
  clear HR2
  by_cases a3:o=0
  ·have ba3:((o:Int)==0)=true:=by simp [a3]
   by_cases a4:m=0
   ·subst a4
    obtain rfl:r=true:=by rw [HR3.out];simp [a3]
    clear HR3 a3
    go_wp2_with fail
    go_ret
    exact⟨by first|rfl|simp,pE.out⟩
   have ba4:((m:Int)==0)=false:=by simp [a4]
   obtain rfl:r=false:=by rw [HR3.out];simp [a4]
   clear HR3 a3
   go_wp2_with fail
   go_ret
   exact⟨by first|rfl|simp,pE.out⟩
  have ba3:((o:Int)==0)=false:=by simp [a3]
  obtain rfl:r=false:=by rw [HR3.out];simp [a3]
  clear HR3
  go_wp2_with fail
  go_ret
  exact⟨by first|rfl|simp,pE.out⟩
 have HR3:Hid (r=(vD o && decide (m=2) && (zL dom d (x.kids.getD 0 default) && zL dom d (x.kids.getD 1 default)))):=by rw [Hid,HR2.out,if_pos k3]
 have kb3:((k:Int)==3)=true:=by simp [k3]
 clear HR2 k3
 have HC2:Hid (∀X,Below w1.heap.size w1 X->X.cell? ⟨gx,2,none⟩=some (.int .u8 o)/\X.cell? ⟨gx,3,none⟩=some (.slice ka m kc)):=λX hX=>by
  obtain⟨⟨-, -,r2,r3⟩, -, -⟩:=CC.out X (HW.out.trans (hX.mono HW.out.size));exact⟨r2,r3⟩
 go_wp2_with fail
 refine(zrO w1 o).mono ?_
 rintro e w2 ⟨⟨s,rfl,hs⟩,hb2⟩
 have HB2:=qh hb2
 clear c0 c1 c2 c3 hb2
 obtain⟨c2,c3⟩:=HC2.out w2 HB2.out
 cases hsg:vD o with
 |false=>
  have hs2:(s.toList== [])=true:=by have:=hs;rw [hsg] at this;simpa using this
  have hs3:(s.toList.isEmpty)=true:=by have:=hs;rw [hsg] at this;simpa using this
  have hs4:(s.toList != [])=false:=by have:=hs3;simpa using this
  obtain rfl:r=false:=by rw [HR3.out,hsg];simp
  clear HR3 hs hsg
  go_wp2_with fail
  go_ret
  exact⟨by first|rfl|simp,pE.out.trans (HB2.out.mono pE.out.size)⟩
 |true=>
 have hs3:(s.toList.isEmpty)=false:=by have:=hs;rw [hsg] at this;simpa using this
 have hs2:(s.toList== [])=false:=by cases hq:s.toList with|nil=>rw [hq] at hs3;simp at hs3|cons a b=>rfl
 have hs4:(s.toList != [])=true:=by have:=hs2;simpa using this
 have HR4:Hid (r=(decide (m=2) && (zL dom d (x.kids.getD 0 default) && zL dom d (x.kids.getD 1 default)))):=by rw [Hid,HR3.out,hsg];simp
 clear HR3 hs hsg
 by_cases a5:m=2
 rotate_left
 ·have b2:((m:Int)==2)=false:=by rw [beq_eq_false_iff_ne];omega
  have b3:(m==2)=false:=by simp [a5]
  obtain rfl:r=false:=by rw [HR4.out];simp [a5]
  clear HR4
  go_wp2_with fail
  go_ret
  exact⟨by first|rfl|simp,pE.out.trans (HB2.out.mono pE.out.size)⟩
 obtain⟨e',rfl⟩:∃e',e=e'+1:=by
  cases e with
  |zero=>exact HE.out.elim
  |succ e'=>exact⟨e',rfl⟩
 have HR5:Hid (r= !((List.range x.kids.length).any λj=> !zL dom d (x.kids.getD j default))):=by
  rw [Hid,HR4.out, <-HM.out,a5];simp [List.range_succ]
 clear HR4
 have hw2:Below w.heap.size w w2:=pE.out.trans (HB2.out.mono pE.out.size)
 have hke:=zx.below HE.out hw2
 rw [HM.out] at hke
 have hco:Calls Tryz.prog 217 #[.slice ka x.kids.length kc, .func (.func 215) #[] #[.pointer (some ⟨gx+1,0,none⟩), .pointer (some ⟨gx+1+1,0,none⟩)]] w2 λe w'=>e= .returned (.bool ((List.range x.kids.length).any λj=> !zL dom d (x.kids.getD j default)))/\Below w2.heap.size w2 w':=
  zfo (zqe e') (zqe.stays e') w2 _ x.kids hke 215 #[] _ _ (λ_ _=>rfl)
   (λj hj W' cs hcl ⟨kv',q1,q2⟩ hW'=>by
    subst q1
    obtain⟨-,cd',co'⟩:=CC.out W' (HW.out.trans ((HB2.out.trans (hW'.mono HB2.out.size)).mono HW.out.size))
    exact zqd dom d (by omega) (λe W X kv hx=>ih (by omega) e W X kv hx) e' W' _ kv' q2 (gx+1) (gx+2) cd' co')
 rw [<-HM.out] at hco
 rw [<-HM.out] at HR5
 subst a5
 generalize ((List.range 2).any λj=> !zL dom d (x.kids.getD j default))=rr at HR5 hco
 have HCO:=qh hco
 clear hco hw2 hke
 go_wp2_with fail
 refine HCO.out.mono ?_
 rintro e w3 ⟨rfl,hb3⟩
 have HB3:=qh hb3
 have HW5:Hid (Below w.heap.size w w3):=pE.out.trans ((HB2.out.trans (HB3.out.mono HB2.out.size)).mono pE.out.size)
 clear hb3 c2 c3
 obtain rfl:r= !rr:=HR5.out
 clear HR5 HCO
 go_wp2_with fail
 go_ret
 exact⟨by first|rfl|simp,HW5.out⟩
theorem zlD (dom:Int) (e:Nat) (w:World) (x:zH) (kv:Value) (h:zx e w x kv):Calls Tryz.prog 161 #[xQ x kv, .int .i64 dom] w λe w'=>e= .returned (.bool (zL dom 20 x))/\Below w.heap.size w w':=by
 have hi:=λW (hW:Below w.heap.size w W)=>zrM dom 20 (by omega) e W x kv (h.below hW)
 obtain⟨ka,kc,rfl, -⟩:=h.slice
 generalize zL dom 20 x=r at hi ⊢
 unfold xQ at hi ⊢
 generalize x.kind=k at hi ⊢
 generalize x.n=n at hi ⊢
 generalize x.op=o at hi ⊢
 generalize x.kids.length=m at hi ⊢
 have HI:=qh hi
 clear hi h
 have HA:=qh ((Below.refl w.heap.size w).alloc (Nat.le_refl _) (.cells #[.int .i64 k, .int .i64 n, .int .u8 o, .slice ka m kc] 51))
 have xG:=qh (yE w (.cells #[.int .i64 k, .int .i64 n, .int .u8 o, .slice ka m kc] 51))
 go_enter Tryz.func161,Tryz.ntmps161
 go_upto_region 1 with fail
 generalize World.alloc w _=W at HA xG ⊢
 obtain⟨gx,hgx⟩:∃gx,gx=w.heap.size:=⟨_,rfl⟩
 rw [<-hgx] at xG ⊢
 clear hgx
 have c0:W.cell? ⟨gx,0,none⟩=some (.int .i64 k):=za xG.out 0
 have c1:W.cell? ⟨gx,1,none⟩=some (.int .i64 n):=za xG.out 1
 have c2:W.cell? ⟨gx,2,none⟩=some (.int .u8 o):=za xG.out 2
 have c3:W.cell? ⟨gx,3,none⟩=some (.slice ka m kc):=za xG.out 3
 go_wp2_with fail
 refine(HI.out _ HA.out).mono ?_
 rintro e w1 ⟨rfl,hb⟩
 have HB1:=qh (zB HA.out hb)
 clear hb
 go_wp2_with fail
 go_ret
 exact⟨by first|rfl|simp,HB1.out⟩
def zby (dom:Int) (has:Bool) (x:zH):Bool:=if has then zL dom 20 x else qC x
theorem zgt (dom:Int) (e:Nat) (w:World) (x:zH) (kv:Value) (h:zx e w x kv) (has:Bool) (bo:Nat) (co:w.cell? ⟨bo,0,none⟩=some (.int .i64 dom)):
  Calls Tryz.prog 160 #[xQ x kv, .bool has, .pointer (some ⟨bo,0,none⟩)] w λe w'=>e= .returned (.bool (zby dom has x))/\Below w.heap.size w w':=by
 have hi:=λW (hW:Below w.heap.size w W)=>zlD dom e W x kv (h.below hW)
 obtain⟨ka,kc,rfl, -⟩:=h.slice
 have hn:=λW=>zrQ W x ka kc
 obtain⟨rn,hrn⟩:∃r,r=qC x:=⟨_,rfl⟩
 obtain⟨ro,hro⟩:∃r,r=zL dom 20 x:=⟨_,rfl⟩
 have hr:zby dom has x=if has then ro else rn:=by rw [hrn,hro];rfl
 rw [<-hro] at hi
 rw [<-hrn] at hn
 rw [hr]
 clear hr hrn hro
 unfold xQ at hi hn ⊢
 generalize x.kind=k at hi hn ⊢
 generalize x.n=n at hi hn ⊢
 generalize x.op=o at hi hn ⊢
 generalize x.kids.length=m at hi hn ⊢
 have HI:=qh hi
 have HN:=qh hn
 clear hi hn h
 have HA:=qh ((Below.refl w.heap.size w).alloc (Nat.le_refl _) (.cells #[.int .i64 k, .int .i64 n, .int .u8 o, .slice ka m kc] 51))
 have xG:=qh (yE w (.cells #[.int .i64 k, .int .i64 n, .int .u8 o, .slice ka m kc] 51))
 replace co:=zh HA.out _ _ co
 cases has with
 |true=>
  go_enter Tryz.func160,Tryz.ntmps160
  go_upto_region 1 with fail
  generalize World.alloc w _=W at HA xG co ⊢
  obtain⟨gx,hgx⟩:∃gx,gx=w.heap.size:=⟨_,rfl⟩
  rw [<-hgx] at xG ⊢
  clear hgx
  have c0:W.cell? ⟨gx,0,none⟩=some (.int .i64 k):=za xG.out 0
  have c1:W.cell? ⟨gx,1,none⟩=some (.int .i64 n):=za xG.out 1
  have c2:W.cell? ⟨gx,2,none⟩=some (.int .u8 o):=za xG.out 2
  have c3:W.cell? ⟨gx,3,none⟩=some (.slice ka m kc):=za xG.out 3
  go_wp2_with fail
  refine(HI.out _ HA.out).mono ?_
  rintro e w1 ⟨rfl,hb⟩
  have HB1:=qh (zB HA.out hb)
  clear hb
  go_wp2_with fail
  go_ret
  exact⟨by first|rfl|simp,HB1.out⟩
 |false=>
 go_enter Tryz.func160,Tryz.ntmps160
 go_upto_region 1 with fail
 generalize World.alloc w _=W at HA xG co ⊢
 obtain⟨gx,hgx⟩:∃gx,gx=w.heap.size:=⟨_,rfl⟩
 rw [<-hgx] at xG ⊢
 clear hgx
 have c0:W.cell? ⟨gx,0,none⟩=some (.int .i64 k):=za xG.out 0
 have c1:W.cell? ⟨gx,1,none⟩=some (.int .i64 n):=za xG.out 1
 have c2:W.cell? ⟨gx,2,none⟩=some (.int .u8 o):=za xG.out 2
 have c3:W.cell? ⟨gx,3,none⟩=some (.slice ka m kc):=za xG.out 3
 go_wp2_with fail
 refine(HN.out _).mono ?_
 rintro e w1 ⟨rfl,hb⟩
 have HB1:=qh (zB HA.out hb)
 clear hb
 go_wp2_with fail
 go_ret
 exact⟨by first|rfl|simp,HB1.out⟩
def fmZ:Value:= .agg #[.bool false, .bool false, .bool false, .bool false, .bool false, .bool false, .nilFunc]
theorem zrS:(Tryz.prog.info? 235).map (λi=>(i.zero,i.size,i.bytes))=some (some fmZ,7,16):=by kernel_rfl
theorem zkH (P:World):(zeroValue 235).run Tryz.prog P= .ok fmZ P:=by
 obtain⟨i0,hi,hz0,hz1,hz2⟩:=info_parts zrS
 simp [zeroValue,typeInfo,hi,hz0]
theorem zrT (k:Int):∃t o fv,fv.oneCell'=true/\(wz fmL k).getD fmZ= .agg #[.bool (gH k), .bool (kM k), .bool (kN k), .bool (hasB k), .bool t, .bool o,fv] :=by
 by_cases h:1<=k/\k<=11
 ·have:k=1\/k=2\/k=3\/k=4\/k=5\/k=6\/k=7\/k=8\/k=9\/k=10\/k=11:=by omega
  rcases this with rfl|rfl|rfl|rfl|rfl|rfl|rfl|rfl|rfl|rfl|rfl<;>exact⟨_,_,_,rfl,rfl⟩
 have e:(wz fmL k).getD fmZ=fmZ:=by
  have n1:¬(1:Int)=k:=by omega
  have n2:¬(2:Int)=k:=by omega
  have n3:¬(3:Int)=k:=by omega
  have n4:¬(4:Int)=k:=by omega
  have n5:¬(5:Int)=k:=by omega
  have n6:¬(6:Int)=k:=by omega
  have n7:¬(7:Int)=k:=by omega
  have n8:¬(8:Int)=k:=by omega
  have n9:¬(9:Int)=k:=by omega
  have n10:¬(10:Int)=k:=by omega
  have n11:¬(11:Int)=k:=by omega
  simp [fmL,wz,n1,n2,n3,n4,n5,n6,n7,n8,n9,n10,n11]
 rw [e]
 refine⟨false,false, .nilFunc,rfl, ?_⟩
 have a1:gH k=false:=by unfold gH;exact decide_eq_false (by omega)
 have a2:kM k=false:=by unfold kM;exact decide_eq_false (by omega)
 have a3:kN k=false:=by unfold kN;exact decide_eq_false (by omega)
 have a4:hasB k=false:=by unfold hasB;exact decide_eq_false (by omega)
 rw [a1,a2,a3,a4];rfl
def zc4 (n m:Int) (h:Bool):Bool:=if h then decide (0<=n) && decide (n<m) else decide (n=0)
theorem zqg (k reg v:Int) (a b:zH) (vars dom:Int):qm k reg v a b vars dom=(zc4 reg 4 (gH k) && zc4 v vars (kM k) && zby dom (kN k) a && zby dom (hasB k) b):=rfl
theorem zrU (w:World) (k reg v:Int) (a b:zH) (ka kb:Value) (e:Nat) (ha:zx e w a ka) (hb:zx e w b kb) (vars dom:Int):
  Calls Tryz.prog 119 #[.int .i64 k, .int .i64 reg, .int .i64 v,xQ a ka,xQ b kb, .int .i64 vars, .int .i64 dom] w λe w'=>e= .returned (.bool (qm k reg v a b vars dom))/\Below w.heap.size w w':=by
 rw [zqg]
 have hia:=λW (hW:Below w.heap.size w W) has bo co=>zgt dom e W a ka (ha.below hW) has bo co
 have hib:=λW (hW:Below w.heap.size w W) has bo co=>zgt dom e W b kb (hb.below hW) has bo co
 obtain⟨aa,ac,rfl, -⟩:=ha.slice
 obtain⟨ba,bc,rfl, -⟩:=hb.slice
 obtain⟨fo,ft,fv,hfv,hfm⟩:=zrT k
 have hst:∀a W,(store a fv .plain).run Tryz.prog W=stored Tryz.prog W a fv .plain:=λa W=>run_store _ _ _ _ _ hfv
 generalize gH k=h0 at hfm ⊢
 generalize kM k=h1 at hfm ⊢
 generalize kN k=h2 at hfm ⊢
 generalize hasB k=h3 at hfm ⊢
 obtain⟨r1,hr1⟩:∃r,r=zc4 reg 4 h0:=⟨_,rfl⟩
 obtain⟨r2,hr2⟩:∃r,r=zc4 v vars h1:=⟨_,rfl⟩
 obtain⟨r3,hr3⟩:∃r,r=zby dom h2 a:=⟨_,rfl⟩
 obtain⟨r4,hr4⟩:∃r,r=zby dom h3 b:=⟨_,rfl⟩
 have hn1:=λW=>zeI W reg 4 h0
 have hn2:=λW=>zeI W v vars h1
 unfold zc4 at hr1 hr2
 rw [<-hr1] at hn1
 rw [<-hr2] at hn2
 replace hia:=λW hW bo co=>hia W hW h2 bo co
 replace hib:=λW hW bo co=>hib W hW h3 bo co
 rw [<-hr3] at hia
 rw [<-hr4] at hib
 have hr5:(zc4 reg 4 h0 && zc4 v vars h1 && zby dom h2 a && zby dom h3 b)=(r1 && r2 && r3 && r4):=by rw [hr1,hr2,hr3,hr4];rfl
 rw [hr5]
 clear hr5 hr1 hr2 hr3 hr4 ha hb
 unfold xQ at hia hib ⊢
 generalize a.kind=ak at hia ⊢
 generalize a.n=an at hia ⊢
 generalize a.op=ao at hia ⊢
 generalize a.kids.length=am at hia ⊢
 generalize b.kind=bk at hib ⊢
 generalize b.n=bn at hib ⊢
 generalize b.op=bo at hib ⊢
 generalize b.kids.length=bm at hib ⊢
 have HIA:=qh hia
 have HIB:=qh hib
 have HN1:=qh hn1
 have HN2:=qh hn2
 clear hia hib hn1 hn2
 have hB:=zgs w (.cells #[.int .i64 ak, .int .i64 an, .int .u8 ao, .slice aa am ac] 51) (.cells #[.int .i64 bk, .int .i64 bn, .int .u8 bo, .slice ba bm bc] 51) (.cells #[.int .i64 dom] 3)
 have HB:=qh hB.1
 have HX:=qh hB.2.1
 have HD:=qh hB.2.2.1
 have HO:=qh hB.2.2.2.1
 clear hB
 have HFM:=qh hfm
 clear hfm
 go_enter Tryz.func119,Tryz.ntmps119
 go_upto_region 1 with fail
 generalize World.alloc (World.alloc (World.alloc w _) _) _=W at HB HX HD HO ⊢
 obtain⟨gx,hgx⟩:∃gx,gx=w.heap.size:=⟨_,rfl⟩
 rw [<-hgx] at HX HD HO ⊢
 clear hgx
 go_wp2_with fail
 refine(zqh W).mono ?_
 rintro e w1 ⟨mb,rfl,hm1, -,hb1⟩
 have HB1:=qh hb1
 have hlk:=wY hm1 Tryz.underlying236 Tryz.underlying3 (zkH w1) k false
 rw [HFM.out] at hlk
 have HA:=qh ((Below.refl w1.heap.size w1).alloc (Nat.le_refl _) (.cells #[.bool h0, .bool h1, .bool h2, .bool h3, .bool fo, .bool ft,fv] 235))
 have HF:=qh (yE w1 (.cells #[.bool h0, .bool h1, .bool h2, .bool h3, .bool fo, .bool ft,fv] 235))
 clear hm1 HFM hb1
 go_upto_region 2 with fail
 generalize World.alloc w1 _=X at HA HF ⊢
 obtain⟨gf,hgf⟩:∃g,g=w1.heap.size:=⟨_,rfl⟩
 rw [<-hgf] at HF ⊢
 clear hgf
 have HW:Hid (Below w.heap.size w X):=HB.out.trans ((HB1.out.trans (HA.out.mono HB1.out.size)).mono HB.out.size)
 have HC:Hid (∀x,Below X.heap.size X x->(x.cell? ⟨gx,0,none⟩=some (.int .i64 ak)/\x.cell? ⟨gx,1,none⟩=some (.int .i64 an)/\x.cell? ⟨gx,2,none⟩=some (.int .u8 ao)/\x.cell? ⟨gx,3,none⟩=some (.slice aa am ac))/\
   (x.cell? ⟨gx+1,0,none⟩=some (.int .i64 bk)/\x.cell? ⟨gx+1,1,none⟩=some (.int .i64 bn)/\x.cell? ⟨gx+1,2,none⟩=some (.int .u8 bo)/\x.cell? ⟨gx+1,3,none⟩=some (.slice ba bm bc))/\
   (x.cell? ⟨gf,0,none⟩=some (.bool h0)/\x.cell? ⟨gf,1,none⟩=some (.bool h1)/\x.cell? ⟨gf,2,none⟩=some (.bool h2)/\x.cell? ⟨gf,3,none⟩=some (.bool h3))/\x.cell? ⟨gx+1+1,0,none⟩=some (.int .i64 dom)):=λx hx=>
  have k:=λp v h=>zh (zB (HB1.out.trans (HA.out.mono HB1.out.size)) hx) p v h
  ⟨⟨k _ _ (za HX.out 0),k _ _ (za HX.out 1),k _ _ (za HX.out 2),k _ _ (za HX.out 3)⟩,⟨k _ _ (za HD.out 0),k _ _ (za HD.out 1),k _ _ (za HD.out 2),k _ _ (za HD.out 3)⟩,⟨zh hx _ _ (za HF.out 0),zh hx _ _ (za HF.out 1),zh hx _ _ (za HF.out 2),zh hx _ _ (za HF.out 3)⟩,k _ _ (za HO.out 0)⟩
 clear hlk hst HX HD HO HF HB HB1 HA
 have HXX:=qh (Below.refl X.heap.size X)
 obtain⟨⟨c0,c1,c2,c3⟩,⟨d0,d1,d2,d3⟩,⟨e0,e1,e2,e3⟩,co⟩:=HC.out X HXX.out
 go_wp2_with fail
 refine(HN1.out X).mono ?_
 rintro e w2 ⟨rfl,rfl⟩
 cases r1 with
 |false=>
  go_wp2_with fail
  go_ret
  exact⟨by first|rfl|simp,HW.out⟩
 |true=>
 go_wp2_with fail
 refine(HN2.out w2).mono ?_
 rintro e w3 ⟨rfl,rfl⟩
 cases r2 with
 |false=>
  go_wp2_with fail
  go_ret
  exact⟨by first|rfl|simp,HW.out⟩
 |true=>
 go_wp2_with fail
 refine(HIA.out w3 HW.out (gx+1+1) co).mono ?_
 rintro e w4 ⟨rfl,hb4⟩
 have vL:=qh hb4
 have pE:=qh (HW.out.trans (hb4.mono HW.out.size))
 clear hb4 c0 c1 c2 c3 d0 d1 d2 d3 e0 e1 e2 e3 co
 obtain⟨-,⟨d0,d1,d2,d3⟩,⟨-, -, -,e3⟩,co⟩:=HC.out w4 vL.out
 cases r3 with
 |false=>
  go_wp2_with fail
  go_ret
  exact⟨by first|rfl|simp,pE.out⟩
 |true=>
 go_wp2_with fail
 refine(HIB.out w4 pE.out (gx+1+1) co).mono ?_
 rintro e w5 ⟨rfl,hb5⟩
 have HW5:=qh (pE.out.trans (hb5.mono pE.out.size))
 clear hb5 d0 d1 d2 d3 e3 co
 go_wp2_with fail
 go_ret
 exact⟨by first|rfl|simp,HW5.out⟩
