/- Steps. -/
import Derived.Test.YtknmdmimecepfaaGreatDoorVhExpr
import Derived.Test.YtknmdmimecepfaaGreatDoorVhIMap
import Derived.Test.YtknmdmimecepfaaGreatDoorVhKFuncs
set_option linter.all false
namespace Go.Proofs.YtknmdmimecepfaaGreatDoor
open Go.RowKit
set_option maxRecDepth 100000
set_option maxHeartbeats 16000000
def fmT (r v a b t o:Bool) (f:Nat):Value:= .agg #[.bool r, .bool v, .bool a, .bool b, .bool t, .bool o, .func (.func f) #[] #[]]
def fmL:List (Int × Value):= [(1,fmT true true false false false false 127),(2,fmT false true true false false false 128),(3,fmT true false true false false false 129),(4,fmT false false false false false false 130),(5,fmT false false false false false false 131),(6,fmT true true true true false false 132),(7,fmT false true false false false false 133),(8,fmT false true false false false false 134),(9,fmT false false true false false false 135),(10,fmT false false true false true true 136),(11,fmT false false true false true false 137)]
def zkg (l:List (Int × Value)) (w:World) (e:Ending) (w':World):Prop:=∃b,e= .returned (.map (some b))/\vZ w' b l/\w.heap.size<=b/\Below w.heap.size w w'
theorem zhd (w:World):Calls Tryz.prog 105 #[] w (zkg fmL w):=by
 have hmm:= @run_makeMap Tryz.prog
 have h0:vZ (w.alloc (.map #[] 0)) w.heap.size [] :=⟨#[],0,yG w _,rfl⟩
 have hB0:Below w.heap.size w (w.alloc (.map #[] 0)):=(Below.refl _ _).alloc (Nat.le_refl _) _
 go_enter Tryz.func105,Tryz.ntmps105
 go_wp2_with(refine xC _ rfl _ _ _ 181 rfl 3 180 .i64 Tryz.underlying181 Tryz.underlying3 w.heap.size _ rfl _ rfl _ rfl h0 ?_;clear h0;intro w1 h0 hs1 hz1;replace hB0:=hB0.trans (hs1.below hB0.size (λk hk=>by omega));clear hs1 hz1)
 go_ret
 exact⟨w.heap.size,rfl,h0,Nat.le_refl _,hB0⟩
theorem zbO (w:World) (n m:Int) (h:Bool):Calls Tryz.prog 109 #[.int .i64 n, .int .i64 m, .bool h] w λe w'=>e= .returned (.bool (if h then decide (0<=n) && decide (n<m) else decide (n=0)))/\w'=w:=by
 cases h
 ·by_cases h0:n=0
  ·subst h0
   go_enter Tryz.func109,Tryz.ntmps109
   go_wp2_with fail
   go_ret
   exact⟨by first|rfl|simp,rfl⟩
  by_cases h1:0<=n
  ·by_cases h2:n<m
   ·go_enter Tryz.func109,Tryz.ntmps109
    go_wp2_with fail
    go_ret
    exact⟨by simp [h0],rfl⟩
   go_enter Tryz.func109,Tryz.ntmps109
   go_wp2_with fail
   go_ret
   exact⟨by simp [h0],rfl⟩
  go_enter Tryz.func109,Tryz.ntmps109
  go_wp2_with fail
  go_ret
  exact⟨by simp [h0],rfl⟩
 by_cases h0:n=0
 ·subst h0
  by_cases h2:0<m
  ·go_enter Tryz.func109,Tryz.ntmps109
   go_wp2_with fail
   go_ret
   exact⟨by simp [h2],rfl⟩
  go_enter Tryz.func109,Tryz.ntmps109
  go_wp2_with fail
  go_ret
  exact⟨by simp;omega,rfl⟩
 by_cases h1:0<=n
 ·by_cases h2:n<m
  ·go_enter Tryz.func109,Tryz.ntmps109
   go_wp2_with fail
   go_ret
   exact⟨by simp [h1,h2],rfl⟩
  go_enter Tryz.func109,Tryz.ntmps109
  go_wp2_with fail
  go_ret
  exact⟨by simp;omega,rfl⟩
 go_enter Tryz.func109,Tryz.ntmps109
 go_wp2_with fail
 go_ret
 exact⟨by simp;omega,rfl⟩
theorem zi6 (w:World) (op:Int):Calls Tryz.prog 146 #[.int .u8 op] w λe w'=>(∃s:ByteArray,e= .returned (.string s)/\s.toList.isEmpty= !qR op)/\Below w.heap.size w w':=by
 have hcv:=zkh w op
 have HA:=qh ((Below.refl w.heap.size w).alloc (Nat.le_refl _) (.cells #[.int .u8 op] 5))
 by_cases hs:op=43\/op=45\/op=42\/op=60\/op=38\/op=124
 ·have hi:qR op=true:=by unfold qR;exact decide_eq_true (by omega)
  rw [hi]
  rcases hs with rfl|rfl|rfl|rfl|rfl|rfl<;>
  ·go_enter Tryz.func146,Tryz.ntmps146
   go_wp2_with fail
   go_ret
   exact⟨⟨_,rfl,zms _⟩,HA.out⟩
 by_cases h7:op=61
 ·subst h7
  clear hs
  go_enter Tryz.func146,Tryz.ntmps146
  go_wp2_with fail
  go_ret
  exact⟨⟨_,rfl,by decide+kernel⟩,Below.refl _ _⟩
 by_cases h8:op=33
 ·subst h8
  clear hs
  go_enter Tryz.func146,Tryz.ntmps146
  go_wp2_with fail
  go_ret
  exact⟨⟨_,rfl,by decide+kernel⟩,Below.refl _ _⟩
 have hi:qR op=false:=by unfold qR;exact decide_eq_false (by omega)
 rw [hi]
 obtain⟨h1,h2,h3,h4,h5,h6⟩:op≠43/\op≠45/\op≠42/\op≠60/\op≠38/\op≠124:=by omega
 clear hs hi
 go_enter Tryz.func146,Tryz.ntmps146
 go_wp2_with fail
 go_ret
 exact⟨⟨_,rfl,by decide+kernel⟩,Below.refl _ _⟩
theorem ziu (w:World) (x:zC) (ka:Option Addr) (kc:Nat):Calls Tryz.prog 108 #[qc x (.slice ka x.kids.length kc)] w λe w'=>e= .returned (.bool (j3 x))/\Below w.heap.size w w':=by
 obtain⟨k,n,o,l⟩:=x
 obtain⟨m,hm⟩:∃m,m=l.length:=⟨_,rfl⟩
 obtain⟨r,hr⟩:∃r,r=j3 (.mk k n o l):=⟨_,rfl⟩
 rw [<-hr]
 have hr2:r=(decide (k=0) && decide (n=0) && decide (o=0) && decide (m=0)):=by rw [hr,hm];rfl
 have HR:=qh hr2
 unfold qc
 simp only [zC.kind,zC.n,zC.op,zC.kids]
 rw [<-hm]
 clear hr hr2 hm
 have HA:=qh ((Below.refl w.heap.size w).alloc (Nat.le_refl _) (.cells #[.int .i64 k, .int .i64 n, .int .u8 o, .slice ka m kc] 43))
 have xV:=qh (yG w (.cells #[.int .i64 k, .int .i64 n, .int .u8 o, .slice ka m kc] 43))
 go_enter Tryz.func108,Tryz.ntmps108
 go_upto_region 1 with fail
 generalize World.alloc w _=W at HA xV ⊢
 obtain⟨gx,hgx⟩:∃gx,gx=w.heap.size:=⟨_,rfl⟩
 rw [<-hgx] at xV ⊢
 clear hgx
 have c0:W.cell? ⟨gx,0,none⟩=some (.int .i64 k):=ze xV.out 0
 have c1:W.cell? ⟨gx,1,none⟩=some (.int .i64 n):=ze xV.out 1
 have c2:W.cell? ⟨gx,2,none⟩=some (.int .u8 o):=ze xV.out 2
 have c3:W.cell? ⟨gx,3,none⟩=some (.slice ka m kc):=ze xV.out 3
 by_cases a1:k=0
 rotate_left
 ·have b1:((k:Int)==0)=false:=by simp [a1]
  obtain rfl:r=false:=by rw [HR.out];simp [a1]
  clear HR a1
  go_wp2_with fail
  go_ret
  exact⟨by first|rfl|simp,HA.out⟩
 have b1:((k:Int)==0)=true:=by simp [a1]
 by_cases a2:n=0
 rotate_left
 ·have b2:((n:Int)==0)=false:=by simp [a2]
  obtain rfl:r=false:=by rw [HR.out];simp [a2]
  clear HR a1 a2
  go_wp2_with fail
  go_ret
  exact⟨by first|rfl|simp,HA.out⟩
 have b2:((n:Int)==0)=true:=by simp [a2]
 by_cases a3:o=0
 ·have b3:((o:Int)==0)=true:=by simp [a3]
  obtain rfl:r=decide (m=0):=by rw [HR.out];simp [a1,a2,a3]
  clear HR a1 a2 a3
  by_cases a4:m=0
  ·have b4:((m:Int)==0)=true:=by simp [a4]
   subst a4
   go_wp2_with fail
   go_ret
   exact⟨by first|rfl|simp,HA.out⟩
  have b4:((m:Int)==0)=false:=by simp [a4]
  go_wp2_with fail
  go_ret
  exact⟨by first|rfl|simp [a4],HA.out⟩
 have b3:((o:Int)==0)=false:=by simp [a3]
 obtain rfl:r=false:=by rw [HR.out];simp [a3]
 clear HR a1 a2 a3
 go_wp2_with fail
 go_ret
 exact⟨by first|rfl|simp,HA.out⟩
theorem ze5 (w:World) (o1 o2 o3:Obj):Below w.heap.size w (((w.alloc o1).alloc o2).alloc o3)/\(((w.alloc o1).alloc o2).alloc o3).heap[w.heap.size]? =some o1/\(((w.alloc o1).alloc o2).alloc o3).heap[w.heap.size+1]? =some o2/\
  (((w.alloc o1).alloc o2).alloc o3).heap[w.heap.size+2]? =some o3/\(((w.alloc o1).alloc o2).alloc o3).heap.size=w.heap.size+3:=by
 have h3:=yG ((w.alloc o1).alloc o2) o3
 simp only [World.size_alloc] at h3
 refine⟨(xH w o1 o2).alloc (by simp;omega) _,(Below.heap_alloc _ _ _ (by simp;omega)).trans (xI w o1 o2),(Below.heap_alloc _ _ _ (by simp)).trans (xu w o1 o2),h3,by simp⟩
theorem zhh (dom:Int) (d:Nat) (hd:d<=1000) (ih:∀(e:Nat) (w:World) (x:zC) (kv:Value),zM e w x kv->Calls Tryz.prog 138 #[qc x kv, .int .i64 d, .int .i64 dom] w λe w'=>e= .returned (.bool (zS dom d x))/\Below w.heap.size w w')
  (e:Nat) (w:World) (x:zC) (kv:Value) (h:zM e w x kv) (bd bo:Nat) (cd:w.cell? ⟨bd,0,none⟩=some (.int .i64 ((d:Int)+1))) (co:w.cell? ⟨bo,0,none⟩=some (.int .i64 dom)):
  Calls Tryz.prog 145 #[qc x kv, .pointer (some ⟨bd,0,none⟩), .pointer (some ⟨bo,0,none⟩)] w λe w'=>e= .returned (.bool (!zS dom d x))/\Below w.heap.size w w':=by
 have hi:=λW (hW:Below w.heap.size w W)=>ih e W x kv (h.below hW)
 obtain⟨ka,kc,rfl, -⟩:=h.slice
 have hd2:wrap64 ((d:Int)+1 - 1)=(d:Int):=by unfold wrap64;omega
 generalize zS dom d x=r at hi ⊢
 unfold qc at hi ⊢
 generalize x.kind=k at hi ⊢
 generalize x.n=n at hi ⊢
 generalize x.op=o at hi ⊢
 generalize x.kids.length=m at hi ⊢
 have HI:=qh hi
 clear hi ih h
 have HA:=qh ((Below.refl w.heap.size w).alloc (Nat.le_refl _) (.cells #[.int .i64 k, .int .i64 n, .int .u8 o, .slice ka m kc] 43))
 have xV:=qh (yG w (.cells #[.int .i64 k, .int .i64 n, .int .u8 o, .slice ka m kc] 43))
 replace cd:=zk HA.out _ _ cd
 replace co:=zk HA.out _ _ co
 go_enter Tryz.func145,Tryz.ntmps145
 go_upto_region 1 with fail
 generalize World.alloc w _=W at HA xV cd co ⊢
 obtain⟨gx,hgx⟩:∃gx,gx=w.heap.size:=⟨_,rfl⟩
 rw [<-hgx] at xV ⊢
 clear hgx
 have c0:W.cell? ⟨gx,0,none⟩=some (.int .i64 k):=ze xV.out 0
 have c1:W.cell? ⟨gx,1,none⟩=some (.int .i64 n):=ze xV.out 1
 have c2:W.cell? ⟨gx,2,none⟩=some (.int .u8 o):=ze xV.out 2
 have c3:W.cell? ⟨gx,3,none⟩=some (.slice ka m kc):=ze xV.out 3
 go_wp2_with(go_at_call 138;go_must(refine(HI.out _ HA.out).mono ?_);rintro e w1 ⟨rfl,hb⟩;have HB1:=qh (zn HA.out hb);clear hb)
 go_ret
 exact⟨by first|rfl|simp,HB1.out⟩
def zhi (e:Nat) (w:World) (y:zC) (cs:List Value):Prop:=∃kv',cs=y.cells kv'/\zM e w y kv'
theorem zhi.stays (e:Nat):qN (zhi e):=λ_ _ _ _ ⟨kv',q1,q2⟩ hb=>⟨kv',q1,q2.below hb⟩
def pF (dom k:Int):Int:=if k=1 then dom else if k=2 then 4 else if k=3 then 1 else 0
theorem zi7 (dom k:Int):(vL (jg (jg (jg [] 1 (Value.int .i64 dom)) 2 (.int .i64 4)) 3 (.int .i64 1)) k).getD (.int .i64 0)= .int .i64 (pF dom k):=by
 simp only [jg,vL,pF]
 by_cases h1:k=1
 ·subst h1;rfl
 by_cases h2:k=2
 ·subst h2;rfl
 by_cases h3:k=3
 ·subst h3;rfl
 rw [if_neg h1,if_neg h2,if_neg h3]
 simp [jg,vL,Ne.symm h1,Ne.symm h2,Ne.symm h3]
theorem zhj (dom k n o:Int) (m:Nat) (A B:Bool):(if k=1 then decide (0<=n) && decide (n<dom) && decide (o=0) && decide (m=0)
   else if k=2 then decide (0<=n) && decide (n<4) && decide (o=0) && decide (m=0)
   else if k=3 then decide (n=0) && qR o && decide (m=2) && A && B else false)=
  (decide (0<=n) && decide (n<pF dom k) && (if k=3 then qR o && decide (m=2) && (A && B) else decide (o=0) && decide (m=0))):=by
 unfold pF
 by_cases h1:k=1
 ·subst h1;simp [Bool.and_assoc]
 by_cases h2:k=2
 ·subst h2;simp [Bool.and_assoc]
 by_cases h3:k=3
 ·subst h3
  have e:decide (n=0)=(decide (0<=n) && decide (n<1)):=by
   by_cases h:n=0
   ·subst h;rfl
   rw [decide_eq_false h];by_cases h0:0<=n
   ·rw [decide_eq_false (by omega:¬n<1)];simp
   rw [decide_eq_false h0];rfl
  simp only [e];simp [Bool.and_assoc]
 rw [if_neg h1,if_neg h2,if_neg h3,if_neg h1,if_neg h2,if_neg h3]
 by_cases h0:0<=n
 ·rw [decide_eq_false (by omega:¬n<0)];simp
 rw [decide_eq_false h0];rfl
theorem zaS (P:World):(zeroValue 3).run Tryz.prog P= .ok (.int .i64 0) P:=by
 obtain⟨i0,hi,hz0,hz1,hz2⟩:=info_parts uD
 simp [zeroValue,typeInfo,hi,hz0]
theorem zit (dom:Int) (d:Nat) (hd:d<=1000):∀(e:Nat) (w:World) (x:zC) (kv:Value),zM e w x kv->
  Calls Tryz.prog 138 #[qc x kv, .int .i64 d, .int .i64 dom] w λe w'=>e= .returned (.bool (zS dom d x))/\Below w.heap.size w w':=by
 induction d with
 |zero=>
  intro e w x kv h
  obtain⟨ka,kc,rfl, -⟩:=h.slice
  have hr:zS dom 0 x=false:=rfl
  rw [hr]
  clear hr
  unfold qc
  clear h
  have HB:=qh (ze5 w (.cells #[.int .i64 x.kind, .int .i64 x.n, .int .u8 x.op, .slice ka x.kids.length kc] 43) (.cells #[.int .i64 0] 3) (.cells #[.int .i64 dom] 3)).1
  go_enter Tryz.func138,Tryz.ntmps138
  go_wp2_with fail
  go_ret
  exact⟨by first|rfl|simp,HB.out⟩
 |succ d ih=>
 intro e w x kv h
 obtain⟨ka,kc,rfl, -⟩:=h.slice
 obtain⟨k,hk⟩:∃k,k=x.kind:=⟨_,rfl⟩
 obtain⟨n,hn⟩:∃n,n=x.n:=⟨_,rfl⟩
 obtain⟨o,ho⟩:∃o,o=x.op:=⟨_,rfl⟩
 obtain⟨m,hm⟩:∃m,m=x.kids.length:=⟨_,rfl⟩
 obtain⟨r,hr⟩:∃r,r=zS dom (d+1) x:=⟨_,rfl⟩
 have hr2:r=(if k=1 then decide (0<=n) && decide (n<dom) && decide (o=0) && decide (m=0)
  else if k=2 then decide (0<=n) && decide (n<4) && decide (o=0) && decide (m=0)
  else if k=3 then decide (n=0) && qR o && decide (m=2) && zS dom d (x.kids.getD 0 default) && zS dom d (x.kids.getD 1 default) else false):=by rw [hr,hk,hn,ho,hm];rfl
 rw [<-hr]
 have HR:=qh hr2
 have HM:=qh hm
 rw [<-hm] at h
 have HE:=qh h
 unfold qc
 rw [<-hk, <-hn, <-ho, <-hm]
 have hB:=ze5 w (.cells #[.int .i64 k, .int .i64 n, .int .u8 o, .slice ka m kc] 43) (.cells #[.int .i64 ((d:Int)+1)] 3) (.cells #[.int .i64 dom] 3)
 have HB:=qh hB.1
 have HX:=qh hB.2.1
 have HD:=qh hB.2.2.1
 have HO:=qh hB.2.2.2.1
 have HS:=qh hB.2.2.2.2
 clear hk hn ho hm hr hr2 h hB
 have hd1:¬((d:Int)+1<1):=by omega
 have hd3:(((d+1:Nat):Int))=(d:Int)+1:=by omega
 simp only [hd3]
 clear hd3
 go_enter Tryz.func138,Tryz.ntmps138
 go_upto_region 3 with fail
 generalize World.alloc (World.alloc (World.alloc w _) _) _=W at HB HX HD HO HS ⊢
 obtain⟨gx,hgx⟩:∃gx,gx=w.heap.size:=⟨_,rfl⟩
 rw [<-hgx] at HX HD HO ⊢
 have CC:Hid (∀x,Below W.heap.size W x->(x.cell? ⟨gx,0,none⟩=some (.int .i64 k)/\x.cell? ⟨gx,1,none⟩=some (.int .i64 n)/\x.cell? ⟨gx,2,none⟩=some (.int .u8 o)/\x.cell? ⟨gx,3,none⟩=some (.slice ka m kc))/\x.cell? ⟨gx+1,0,none⟩=some (.int .i64 ((d:Int)+1))/\x.cell? ⟨gx+2,0,none⟩=some (.int .i64 dom)):=λx hx=>
  ⟨⟨zk hx _ _ (ze HX.out 0),zk hx _ _ (ze HX.out 1),zk hx _ _ (ze HX.out 2),zk hx _ _ (ze HX.out 3)⟩,zk hx _ _ (ze HD.out 0),zk hx _ _ (ze HO.out 0)⟩
 clear hgx
 have hmm:= @run_makeMap Tryz.prog
 have h0:vZ (W.alloc (.map #[] 0)) W.heap.size [] :=⟨#[],0,yG W _,rfl⟩
 have HW:=qh ((Below.refl W.heap.size W).alloc (Nat.le_refl _) (.map #[] 0))
 obtain⟨⟨c0,c1,c2,c3⟩,cd,co⟩:=CC.out _ HW.out
 go_upto_region 4 with(first|(refine xC _ rfl _ _ _ 158 rfl 3 3 .i64 Tryz.underlying158 Tryz.underlying3 W.heap.size _ rfl _ rfl (.int .i64 dom) rfl h0 ?_;clear h0;intro w1 h0 hs1 hz1;replace HW:=qh (HW.out.trans (hs1.below HW.out.size (λk hk=>by omega)));clear hs1 hz1;clear c0 c1 c2 c3 cd co;obtain⟨⟨c0,c1,c2,c3⟩,cd,co⟩:=CC.out _ HW.out)|(refine xC _ rfl _ _ _ 158 rfl 3 3 .i64 Tryz.underlying158 Tryz.underlying3 W.heap.size _ rfl _ rfl (.int .i64 4) rfl h0 ?_;clear h0;intro w1 h0 hs1 hz1;replace HW:=qh (HW.out.trans (hs1.below HW.out.size (λk hk=>by omega)));clear hs1 hz1;clear c0 c1 c2 c3 cd co;obtain⟨⟨c0,c1,c2,c3⟩,cd,co⟩:=CC.out _ HW.out)|(refine xC _ rfl _ _ _ 158 rfl 3 3 .i64 Tryz.underlying158 Tryz.underlying3 W.heap.size _ rfl _ rfl (.int .i64 1) rfl h0 ?_;clear h0;intro w1 h0 hs1 hz1;replace HW:=qh (HW.out.trans (hs1.below HW.out.size (λk hk=>by omega)));clear hs1 hz1;clear c0 c1 c2 c3 cd co;obtain⟨⟨c0,c1,c2,c3⟩,cd,co⟩:=CC.out _ HW.out;have hlk:=jW h0 Tryz.underlying158 Tryz.underlying3 (zaS w1) k false;rw [zi7] at hlk;clear h0))
 have qy:Hid (Below w.heap.size w w1):=HB.out.trans (HW.out.mono HB.out.size)
 clear hlk hmm
 have HR1:Hid (r=(decide (0<=n) && decide (n<pF dom k) && (if k=3 then qR o && decide (m=2) && (zS dom d (x.kids.getD 0 default) && zS dom d (x.kids.getD 1 default)) else decide (o=0) && decide (m=0)))):=HR.out.trans (zhj dom k n o m _ _)
 clear HR
 generalize pF dom k=mo at HR1 ⊢
 by_cases a1:0<=n
 rotate_left
 ·obtain rfl:r=false:=by rw [HR1.out,decide_eq_false a1];simp
  clear HR1
  go_wp2_with fail
  go_ret
  exact⟨by first|rfl|simp,qy.out⟩
 by_cases a2:n<mo
 rotate_left
 ·obtain rfl:r=false:=by rw [HR1.out,decide_eq_false a2];simp
  clear HR1
  go_wp2_with fail
  go_ret
  exact⟨by first|rfl|simp,qy.out⟩
 have HR2:Hid (r=(if k=3 then qR o && decide (m=2) && (zS dom d (x.kids.getD 0 default) && zS dom d (x.kids.getD 1 default)) else decide (o=0) && decide (m=0))):=by rw [Hid,HR1.out,decide_eq_true a1,decide_eq_true a2];rfl
 clear HR1
 by_cases k3:k=3
 rotate_left
 ·have HR3:Hid (r=(decide (o=0) && decide (m=0))):=by rw [Hid,HR2.out,if_neg k3]
  have k3b:(k==3)=false:=by simp [k3]
  clear HR2
  by_cases a3:o=0
  ·have ba3:((o:Int)==0)=true:=by simp [a3]
   by_cases a4:m=0
   ·subst a4
    obtain rfl:r=true:=by rw [HR3.out];simp [a3]
    clear HR3 a3
    go_wp2_with fail
    go_ret
    exact⟨by first|rfl|simp,qy.out⟩
   have ba4:((m:Int)==0)=false:=by simp [a4]
   obtain rfl:r=false:=by rw [HR3.out];simp [a4]
   clear HR3 a3
   go_wp2_with fail
   go_ret
   exact⟨by first|rfl|simp,qy.out⟩
  have ba3:((o:Int)==0)=false:=by simp [a3]
  obtain rfl:r=false:=by rw [HR3.out];simp [a3]
  clear HR3
  go_wp2_with fail
  go_ret
  exact⟨by first|rfl|simp,qy.out⟩
 have HR3:Hid (r=(qR o && decide (m=2) && (zS dom d (x.kids.getD 0 default) && zS dom d (x.kids.getD 1 default)))):=by rw [Hid,HR2.out,if_pos k3]
 have kb3:((k:Int)==3)=true:=by simp [k3]
 clear HR2 k3
 have uI:Hid (∀X,Below w1.heap.size w1 X->X.cell? ⟨gx,2,none⟩=some (.int .u8 o)/\X.cell? ⟨gx,3,none⟩=some (.slice ka m kc)):=λX hX=>by
  obtain⟨⟨-, -,r2,r3⟩, -, -⟩:=CC.out X (HW.out.trans (hX.mono HW.out.size));exact⟨r2,r3⟩
 go_wp2_with fail
 refine(zi6 w1 o).mono ?_
 rintro e w2 ⟨⟨s,rfl,hs⟩,hb2⟩
 have HB2:=qh hb2
 clear c0 c1 c2 c3 hb2
 obtain⟨c2,c3⟩:=uI.out w2 HB2.out
 cases hsg:qR o with
 |false=>
  have hs2:(s.toList== [])=true:=by have:=hs;rw [hsg] at this;simpa using this
  have hs3:(s.toList.isEmpty)=true:=by have:=hs;rw [hsg] at this;simpa using this
  have hs4:(s.toList != [])=false:=by have:=hs3;simpa using this
  obtain rfl:r=false:=by rw [HR3.out,hsg];simp
  clear HR3 hs hsg
  go_wp2_with fail
  go_ret
  exact⟨by first|rfl|simp,qy.out.trans (HB2.out.mono qy.out.size)⟩
 |true=>
 have hs3:(s.toList.isEmpty)=false:=by have:=hs;rw [hsg] at this;simpa using this
 have hs2:(s.toList== [])=false:=by cases hq:s.toList with|nil=>rw [hq] at hs3;simp at hs3|cons a b=>rfl
 have hs4:(s.toList != [])=true:=by have:=hs2;simpa using this
 have HR4:Hid (r=(decide (m=2) && (zS dom d (x.kids.getD 0 default) && zS dom d (x.kids.getD 1 default)))):=by rw [Hid,HR3.out,hsg];simp
 clear HR3 hs hsg
 by_cases a5:m=2
 rotate_left
 ·have b2:((m:Int)==2)=false:=by rw [beq_eq_false_iff_ne];omega
  have b3:(m==2)=false:=by simp [a5]
  obtain rfl:r=false:=by rw [HR4.out];simp [a5]
  clear HR4
  go_wp2_with fail
  go_ret
  exact⟨by first|rfl|simp,qy.out.trans (HB2.out.mono qy.out.size)⟩
 obtain⟨e',rfl⟩:∃e',e=e'+1:=by
  cases e with
  |zero=>exact HE.out.elim
  |succ e'=>exact⟨e',rfl⟩
 have HR5:Hid (r= !((List.range x.kids.length).any λj=> !zS dom d (x.kids.getD j default))):=by
  rw [Hid,HR4.out, <-HM.out,a5];simp [List.range_succ]
 clear HR4
 have hw2:Below w.heap.size w w2:=qy.out.trans (HB2.out.mono qy.out.size)
 have hke:=zM.below HE.out hw2
 rw [HM.out] at hke
 have hco:Calls Tryz.prog 147 #[.slice ka x.kids.length kc, .func (.func 145) #[] #[.pointer (some ⟨gx+1,0,none⟩), .pointer (some ⟨gx+1+1,0,none⟩)]] w2 λe w'=>e= .returned (.bool ((List.range x.kids.length).any λj=> !zS dom d (x.kids.getD j default)))/\Below w2.heap.size w2 w':=
  zcp (zhi e') (zhi.stays e') w2 _ x.kids hke 145 #[] _ _ (λ_ _=>rfl)
   (λj hj W' cs hcl ⟨kv',q1,q2⟩ hW'=>by
    subst q1
    obtain⟨-,cd',co'⟩:=CC.out W' (HW.out.trans ((HB2.out.trans (hW'.mono HB2.out.size)).mono HW.out.size))
    exact zhh dom d (by omega) (λe W X kv hx=>ih (by omega) e W X kv hx) e' W' _ kv' q2 (gx+1) (gx+2) cd' co')
 rw [<-HM.out] at hco
 rw [<-HM.out] at HR5
 subst a5
 generalize ((List.range 2).any λj=> !zS dom d (x.kids.getD j default))=rr at HR5 hco
 have HCO:=qh hco
 clear hco hw2 hke
 go_wp2_with fail
 refine HCO.out.mono ?_
 rintro e w3 ⟨rfl,hb3⟩
 have HB3:=qh hb3
 have p8:Hid (Below w.heap.size w w3):=qy.out.trans ((HB2.out.trans (HB3.out.mono HB2.out.size)).mono qy.out.size)
 clear hb3 c2 c3
 obtain rfl:r= !rr:=HR5.out
 clear HR5 HCO
 go_wp2_with fail
 go_ret
 exact⟨by first|rfl|simp,p8.out⟩
