/- Steps. -/
import Derived.Test.YtknmdmimecepfaaGreatDoorVgApp
set_option linter.all false
namespace Go.Proofs.YtknmdmimecepfaaGreatDoor
open Go.RowKit
set_option maxRecDepth 100000
set_option maxHeartbeats 16000000
def zy (dom:Int):Nat->zx->Bool
 |0,_=>false
 |d+1,x=>
 if x.kind=1 then decide (0<=x.n) && decide (x.n<dom) && decide (x.op=0) && decide (x.kids.length=0)
 else if x.kind=2 then decide (0<=x.n) && decide (x.n<4) && decide (x.op=0) && decide (x.kids.length=0)
 else if x.kind=3 then decide (x.n=0) && qo x.op && decide (x.kids.length=2) && zy dom d (x.kids.getD 0 default) && zy dom d (x.kids.getD 1 default)
 else false
theorem zoq (dom:Int) (d:Nat) (hd:d<=1000):∀(e:Nat) (w:World) (x:zx) (kv:Value),zu e w x kv->
  Calls Tryz.prog 104 #[yX x kv, .int .i64 d, .int .i64 dom] w λe w'=>e= .returned (.bool (zy dom d x))/\Below w.heap.size w w':=by
 induction d with
 |zero=>
  intro e w x kv h
  obtain⟨ka,kc,rfl,hkl⟩:=h.slice
  have hr:zy dom 0 x=false:=rfl
  rw [hr]
  clear hr
  have HA:=qh ((Below.refl w.heap.size w).alloc (Nat.le_refl _) (.cells #[.int .i64 x.kind, .int .i64 x.n, .int .u8 x.op, .slice ka x.kids.length kc] 43))
  unfold yX
  clear h hkl
  go_enter Tryz.func104,Tryz.ntmps104
  go_wp2_with fail
  go_ret
  exact⟨by first|rfl|simp,HA.out⟩
 |succ d ih=>
 intro e w x kv h
 obtain⟨ka,kc,rfl,hkl⟩:=h.slice
 obtain⟨k,hk⟩:∃k,k=x.kind:=⟨_,rfl⟩
 obtain⟨n,hn⟩:∃n,n=x.n:=⟨_,rfl⟩
 obtain⟨o,ho⟩:∃o,o=x.op:=⟨_,rfl⟩
 obtain⟨m,hm⟩:∃m,m=x.kids.length:=⟨_,rfl⟩
 obtain⟨r,hr⟩:∃r,r=zy dom (d+1) x:=⟨_,rfl⟩
 have hr2:r=(if k=1 then decide (0<=n) && decide (n<dom) && decide (o=0) && decide (m=0)
  else if k=2 then decide (0<=n) && decide (n<4) && decide (o=0) && decide (m=0)
  else if k=3 then decide (n=0) && qo o && decide (m=2) && zy dom d (x.kids.getD 0 default) && zy dom d (x.kids.getD 1 default) else false):=by rw [hr,hk,hn,ho,hm];rfl
 rw [<-hr]
 have HR:=qh hr2
 have HM:=qh hm
 rw [<-hm] at h hkl
 have HE:=qh h
 have HIH:=qh (ih (by omega))
 unfold yX
 rw [<-hk, <-hn, <-ho, <-hm]
 clear hk hn ho hm hr hr2 h ih
 have HA:=qh ((Below.refl w.heap.size w).alloc (Nat.le_refl _) (.cells #[.int .i64 k, .int .i64 n, .int .u8 o, .slice ka m kc] 43))
 have yx:=qh (zT w (.cells #[.int .i64 k, .int .i64 n, .int .u8 o, .slice ka m kc] 43))
 go_enter Tryz.func104,Tryz.ntmps104
 go_upto_region 1 with fail
 generalize World.alloc w _=W at HA yx ⊢
 obtain⟨gx,hgx⟩:∃gx,gx=w.heap.size:=⟨_,rfl⟩
 rw [<-hgx] at yx ⊢
 clear hgx
 have HC:Hid (∀x,Below W.heap.size W x->x.cell? ⟨gx,0,none⟩=some (.int .i64 k)/\x.cell? ⟨gx,1,none⟩=some (.int .i64 n)/\x.cell? ⟨gx,2,none⟩=some (.int .u8 o)/\x.cell? ⟨gx,3,none⟩=some (.slice ka m kc)):=λx hx=>⟨zi hx _ _ (za yx.out 0),zi hx _ _ (za yx.out 1),zi hx _ _ (za yx.out 2),zi hx _ _ (za yx.out 3)⟩
 obtain⟨c0,c1,c2,c3⟩:=HC.out W (Below.refl _ _)
 have hd1:¬((d:Int)+1<1):=by omega
 have hd2:wrap64 ((d:Int)+1 - 1)=(d:Int):=by unfold wrap64;omega
 have hd3:(((d+1:Nat):Int))=(d:Int)+1:=by omega
 simp only [hd3]
 clear hd3
 by_cases k1:k=1
 ·have kb:((k:Int)==1)=true:=by simp [k1]
  have HR2:Hid (r=(decide (0<=n) && decide (n<dom) && decide (o=0) && decide (m=0))):=by rw [Hid,HR.out,if_pos k1]
  clear HR k1
  by_cases a1:0<=n
  rotate_left
  ·skip
   have x1:n<0:=by omega
   obtain rfl:r=false:=by rw [HR2.out];simp [a1]
   clear HR2
   go_wp2_with fail
   go_ret
   exact⟨by first|rfl|simp,HA.out⟩
  skip
  have x1:¬n<0:=by omega
  by_cases a2:n<dom
  rotate_left
  ·skip
   obtain rfl:r=false:=by rw [HR2.out];simp [a2]
   clear HR2
   go_wp2_with fail
   go_ret
   exact⟨by first|rfl|simp,HA.out⟩
  skip
  by_cases a3:o=0
  rotate_left
  ·skip
   have ba3:((o:Int)==0)=false:=by simp [a3]
   obtain rfl:r=false:=by rw [HR2.out];simp [a3]
   clear HR2
   go_wp2_with fail
   go_ret
   exact⟨by first|rfl|simp,HA.out⟩
  skip
  have ba3:((o:Int)==0)=true:=by simp [a3]
  by_cases a4:m=0
  ·skip
   have ba4:((m:Int)==0)=true:=by simp [a4]
   obtain rfl:r=true:=by rw [HR2.out];simp [a1,a2,a3,a4]
   subst a4
   clear HR2 a3
   go_wp2_with fail
   go_ret
   exact⟨by first|rfl|simp,HA.out⟩
  skip
  have ba4:((m:Int)==0)=false:=by simp [a4]
  obtain rfl:r=false:=by rw [HR2.out];simp [a4]
  clear HR2
  go_wp2_with fail
  go_ret
  exact⟨by first|rfl|simp,HA.out⟩
 have kb:((k:Int)==1)=false:=by simp [k1]
 by_cases k2:k=2
 ·have kb2:((k:Int)==2)=true:=by simp [k2]
  have HR2:Hid (r=(decide (0<=n) && decide (n<4) && decide (o=0) && decide (m=0))):=by rw [Hid,HR.out,if_neg k1,if_pos k2]
  clear HR k1 k2
  by_cases a1:0<=n
  rotate_left
  ·skip
   have x1:n<0:=by omega
   obtain rfl:r=false:=by rw [HR2.out];simp [a1]
   clear HR2
   go_wp2_with fail
   go_ret
   exact⟨by first|rfl|simp,HA.out⟩
  skip
  have x1:¬n<0:=by omega
  by_cases a2:n<4
  rotate_left
  ·skip
   obtain rfl:r=false:=by rw [HR2.out];simp [a2]
   clear HR2
   go_wp2_with fail
   go_ret
   exact⟨by first|rfl|simp,HA.out⟩
  skip
  by_cases a3:o=0
  rotate_left
  ·skip
   have ba3:((o:Int)==0)=false:=by simp [a3]
   obtain rfl:r=false:=by rw [HR2.out];simp [a3]
   clear HR2
   go_wp2_with fail
   go_ret
   exact⟨by first|rfl|simp,HA.out⟩
  skip
  have ba3:((o:Int)==0)=true:=by simp [a3]
  by_cases a4:m=0
  ·skip
   have ba4:((m:Int)==0)=true:=by simp [a4]
   obtain rfl:r=true:=by rw [HR2.out];simp [a1,a2,a3,a4]
   subst a4
   clear HR2 a3
   go_wp2_with fail
   go_ret
   exact⟨by first|rfl|simp,HA.out⟩
  skip
  have ba4:((m:Int)==0)=false:=by simp [a4]
  obtain rfl:r=false:=by rw [HR2.out];simp [a4]
  clear HR2
  go_wp2_with fail
  go_ret
  exact⟨by first|rfl|simp,HA.out⟩
 have kb2:((k:Int)==2)=false:=by simp [k2]
 by_cases k3:k=3
 rotate_left
 ·have kb3:((k:Int)==3)=false:=by simp [k3]
  obtain rfl:r=false:=by rw [HR.out,if_neg k1,if_neg k2,if_neg k3]
  clear k1 k2 k3
  clear HR
  go_wp2_with fail
  go_ret
  exact⟨by first|rfl|simp,HA.out⟩
 have kb3:((k:Int)==3)=true:=by simp [k3]
 have HR2:Hid (r=(decide (n=0) && qo o && decide (m=2) && zy dom d (x.kids.getD 0 default) && zy dom d (x.kids.getD 1 default))):=by rw [Hid,HR.out,if_neg k1,if_neg k2,if_pos k3]
 clear HR k1 k2 k3
 by_cases a1:n=0
 rotate_left
 ·have b1:((n:Int)==0)=false:=by simp [a1]
  obtain rfl:r=false:=by rw [HR2.out];simp [a1]
  clear HR2
  go_wp2_with fail
  go_ret
  exact⟨by first|rfl|simp,HA.out⟩
 have b1:((n:Int)==0)=true:=by simp [a1]
 go_wp2_with fail
 refine(zor W o).mono ?_
 rintro e W1 ⟨⟨s,rfl,hs⟩,hb1⟩
 have HB1:=qh hb1
 clear c0 c1 c2 c3 hb1
 obtain⟨c0,c1,c2,c3⟩:=HC.out W1 HB1.out
 cases hsg:qo o with
 |false=>
  have hs2:(s.toList== [])=true:=by have:=hs;rw [hsg] at this;simpa using this
  have hs3:(s.toList.isEmpty)=true:=by have:=hs;rw [hsg] at this;simpa using this
  have hs4:(s.toList != [])=false:=by have:=hs3;simpa using this
  obtain rfl:r=false:=by rw [HR2.out,hsg];simp
  clear HR2 hs hsg
  go_wp2_with fail
  go_ret
  exact⟨by first|rfl|simp,HA.out.trans (HB1.out.mono HA.out.size)⟩
 |true=>
 have hs3:(s.toList.isEmpty)=false:=by have:=hs;rw [hsg] at this;simpa using this
 have hs2:(s.toList== [])=false:=by cases hq:s.toList with|nil=>rw [hq] at hs3;simp at hs3|cons a b=>rfl
 have hs4:(s.toList != [])=true:=by have:=hs2;simpa using this
 have HR3:Hid (r=(decide (m=2) && zy dom d (x.kids.getD 0 default) && zy dom d (x.kids.getD 1 default))):=by rw [Hid,HR2.out,hsg,a1];simp
 clear HR2 hs hsg
 by_cases a2:m=2
 rotate_left
 ·have b2:((m:Int)==2)=false:=by rw [beq_eq_false_iff_ne];omega
  have b3:(m==2)=false:=by simp [a2]
  obtain rfl:r=false:=by rw [HR3.out];simp [a2]
  clear HR3
  go_wp2_with fail
  go_ret
  exact⟨by first|rfl|simp,HA.out.trans (HB1.out.mono HA.out.size)⟩
 obtain⟨e',rfl⟩:∃e',e=e'+1:=by
  cases e with
  |zero=>exact HE.out.elim
  |succ e'=>exact⟨e',rfl⟩
 have hx:=HE.out
 subst a2
 obtain⟨jQ,ko,ka0,kc0,hka, -,p0,p1,p2,p3,hx0⟩:=hx.part 0 (by rw [<-HM.out];omega)
 subst hka
 obtain⟨zv8,ko2,ka1,kc1,hka, -,q0,q1,q2,q3,hx1⟩:=hx.part 1 (by rw [<-HM.out];omega)
 cases hka
 obtain⟨y0,hy0⟩:∃y,y=x.kids.getD 0 default:=⟨_,rfl⟩
 obtain⟨y1,hy1⟩:∃y,y=x.kids.getD 1 default:=⟨_,rfl⟩
 rw [<-hy0] at p0 p1 p2 p3 hx0
 rw [<-hy1] at q0 q1 q2 q3 hx1
 rw [<-hy0, <-hy1] at HR3
 have hk:=λX (hX:Below W.heap.size W X)=>zi (HA.out.trans (hX.mono HA.out.size))
 rw [Nat.zero_mul,Nat.add_zero] at p0 p1 p2 p3
 rw [Nat.one_mul] at q0 q1 q2 q3
 have HQ:Hid (∀X,Below W.heap.size W X->X.cell? ⟨jQ,ko+4,none⟩=some (.int .i64 y1.kind)/\X.cell? ⟨jQ,ko+4+1,none⟩=some (.int .i64 y1.n)/\X.cell? ⟨jQ,ko+4+2,none⟩=some (.int .u8 y1.op)/\X.cell? ⟨jQ,ko+4+3,none⟩=some (.slice ka1 y1.kids.length kc1)):=λX hX=>⟨hk X hX _ _ q0,hk X hX _ _ q1,hk X hX _ _ q2,hk X hX _ _ q3⟩
 have HX0:Hid (∀X,Below W.heap.size W X->Calls Tryz.prog 104 #[.agg #[.int .i64 y0.kind, .int .i64 y0.n, .int .u8 y0.op, .slice ka0 y0.kids.length kc0], .int .i64 d, .int .i64 dom] X λe w'=>e= .returned (.bool (zy dom d y0))/\Below X.heap.size X w'):=λX hX=>HIH.out e' X y0 _ (hx0.below (HA.out.trans (hX.mono HA.out.size)))
 have jA:Hid (∀X,Below W.heap.size W X->Calls Tryz.prog 104 #[.agg #[.int .i64 y1.kind, .int .i64 y1.n, .int .u8 y1.op, .slice ka1 y1.kids.length kc1], .int .i64 d, .int .i64 dom] X λe w'=>e= .returned (.bool (zy dom d y1))/\Below X.heap.size X w'):=λX hX=>HIH.out e' X y1 _ (hx1.below (HA.out.trans (hX.mono HA.out.size)))
 have d0:=hk W1 HB1.out _ _ p0
 have d1:=hk W1 HB1.out _ _ p1
 have d2:=hk W1 HB1.out _ _ p2
 have d3:=hk W1 HB1.out _ _ p3
 clear p0 p1 p2 p3 q0 q1 q2 q3 hx hx0 hx1 hk hy0 hy1
 go_wp2_with fail
 refine(HX0.out W1 HB1.out).mono ?_
 rintro e W2 ⟨rfl,hb2⟩
 have HB2:=qh (zm HB1.out hb2)
 clear c0 c1 c2 c3 d0 d1 d2 d3 hb2
 cases hr0:zy dom d y0 with
 |false=>
  obtain rfl:r=false:=by rw [HR3.out,hr0];simp
  clear HR3 hr0
  go_wp2_with fail
  go_ret
  exact⟨by first|rfl|simp,HA.out.trans (HB2.out.mono HA.out.size)⟩
 |true=>
 have HR4:Hid (r=zy dom d y1):=by rw [Hid,HR3.out,hr0];simp
 obtain⟨c0,c1,c2,c3⟩:=HC.out W2 HB2.out
 obtain⟨q0,q1,q2,q3⟩:=HQ.out W2 HB2.out
 clear HR3 hr0
 go_wp2_with fail
 refine(jA.out W2 HB2.out).mono ?_
 rw [<-HR4.out]
 rintro e W3 ⟨rfl,hb3⟩
 have HB3:=qh (zm HB2.out hb3)
 clear c0 c1 c2 c3 q0 q1 q2 q3 hb3
 go_wp2_with fail
 go_ret
 exact⟨by first|rfl|simp,HA.out.trans (HB3.out.mono HA.out.size)⟩
theorem zd2 (dom:Int) (e:Nat) (w:World) (x:zx) (kv:Value) (h:zu e w x kv):
  Calls Tryz.prog 80 #[yX x kv, .int .i64 dom] w λe w'=>e= .returned (.bool (zy dom 20 x))/\Below w.heap.size w w':=by
 obtain⟨ka,kc,rfl,hkl⟩:=h.slice
 have HA:=qh ((Below.refl w.heap.size w).alloc (Nat.le_refl _) (.cells #[.int .i64 x.kind, .int .i64 x.n, .int .u8 x.op, .slice ka x.kids.length kc] 43))
 have yx:=qh (zT w (.cells #[.int .i64 x.kind, .int .i64 x.n, .int .u8 x.op, .slice ka x.kids.length kc] 43))
 have HX:Hid (Calls Tryz.prog 104 #[.agg #[.int .i64 x.kind, .int .i64 x.n, .int .u8 x.op, .slice ka x.kids.length kc], .int .i64 20, .int .i64 dom] (w.alloc (.cells #[.int .i64 x.kind, .int .i64 x.n, .int .u8 x.op, .slice ka x.kids.length kc] 43)) λe w'=>e= .returned (.bool (zy dom 20 x))/\Below (w.alloc (.cells #[.int .i64 x.kind, .int .i64 x.n, .int .u8 x.op, .slice ka x.kids.length kc] 43)).heap.size (w.alloc (.cells #[.int .i64 x.kind, .int .i64 x.n, .int .u8 x.op, .slice ka x.kids.length kc] 43)) w'):=zoq dom 20 (by omega) e _ x _ (h.below HA.out)
 unfold yX
 clear h hkl
 go_enter Tryz.func80,Tryz.ntmps80
 go_upto_region 1 with fail
 generalize World.alloc w _=W at HA yx HX ⊢
 obtain⟨gx,hgx⟩:∃gx,gx=w.heap.size:=⟨_,rfl⟩
 rw [<-hgx] at yx ⊢
 clear hgx
 have c0:W.cell? ⟨gx,0,none⟩=some (.int .i64 x.kind):=za yx.out 0
 have c1:W.cell? ⟨gx,1,none⟩=some (.int .i64 x.n):=za yx.out 1
 have c2:W.cell? ⟨gx,2,none⟩=some (.int .u8 x.op):=za yx.out 2
 have c3:W.cell? ⟨gx,3,none⟩=some (.slice ka x.kids.length kc):=za yx.out 3
 go_wp2_with fail
 refine HX.out.mono ?_
 rintro e W1 ⟨rfl,hb1⟩
 have HB1:=qh hb1
 clear hb1 c0 c1 c2 c3
 go_wp2_with fail
 go_ret
 exact⟨by first|rfl|simp,HA.out.trans (HB1.out.mono HA.out.size)⟩
def jT (k:Int):Bool:=decide (k=1\/k=3\/k=6)
def j3 (k:Int):Bool:=decide (k=1\/k=2\/k=6\/k=7\/k=8)
def j4 (k:Int):Bool:=decide (k=2\/k=3\/k=6\/k=9\/k=10\/k=11)
def hasB (k:Int):Bool:=decide (k=6)
theorem zhO:(Tryz.prog.info? 153).map (·.size)=some 4:=by kernel_rfl
theorem zq0 (w:World) (k:Int):Calls Tryz.prog 79 #[.int .i64 k] w λe w'=>e= .returned (.agg #[.bool (jT k), .bool (j3 k), .bool (j4 k), .bool (hasB k)])/\Below w.heap.size w w':=by
 have HA:=qh ((Below.refl w.heap.size w).alloc (Nat.le_refl _) (.cells #[.bool false, .bool false, .bool false, .bool false] 153))
 have yx:=qh (zT w (.cells #[.bool false, .bool false, .bool false, .bool false] 153))
 go_enter Tryz.func79,Tryz.ntmps79
 go_upto_region 1 with fail
 generalize World.alloc w _=W at HA yx ⊢
 obtain⟨gx,hgx⟩:∃gx,gx=w.heap.size:=⟨_,rfl⟩
 rw [<-hgx] at yx ⊢
 have vk:=qh hgx
 clear hgx
 have d0:W.cell? ⟨gx,0,none⟩=some (.bool false):=za yx.out 0
 have d1:W.cell? ⟨gx,1,none⟩=some (.bool false):=za yx.out 1
 have d2:W.cell? ⟨gx,2,none⟩=some (.bool false):=za yx.out 2
 have d3:W.cell? ⟨gx,3,none⟩=some (.bool false):=za yx.out 3
 have f0:W.frozen? ⟨gx,0,none⟩=false:=zF yx.out 0
 have f1:W.frozen? ⟨gx,1,none⟩=false:=zF yx.out 1
 have f2:W.frozen? ⟨gx,2,none⟩=false:=zF yx.out 2
 have f3:W.frozen? ⟨gx,3,none⟩=false:=zF yx.out 3
 have zZ:Hid (∀b0 b1 b2 b3:Bool,((((W.setCell ⟨gx,0,none⟩ (.bool b0)).setCell ⟨gx,1,none⟩ (.bool b1)).setCell ⟨gx,2,none⟩ (.bool b2)).setCell ⟨gx,3,none⟩ (.bool b3)).heap[gx]? =some (.cells #[.bool b0, .bool b1, .bool b2, .bool b3] 153 (0,0))/\Below w.heap.size w ((((W.setCell ⟨gx,0,none⟩ (.bool b0)).setCell ⟨gx,1,none⟩ (.bool b1)).setCell ⟨gx,2,none⟩ (.bool b2)).setCell ⟨gx,3,none⟩ (.bool b3))):=λb0 b1 b2 b3=>by
  have h1:=zw (zw (zw (zw yx.out 0 (.bool b0)) 1 (.bool b1)) 2 (.bool b2)) 3 (.bool b3)
  simp only [List.setIfInBounds_toArray,List.set_cons_zero,List.set_cons_succ] at h1
  have hS:Since (λk=>k=gx) W ((((W.setCell ⟨gx,0,none⟩ (.bool b0)).setCell ⟨gx,1,none⟩ (.bool b1)).setCell ⟨gx,2,none⟩ (.bool b2)).setCell ⟨gx,3,none⟩ (.bool b3)):=Since.setCell (p:=⟨gx,3,none⟩) (Since.setCell (p:=⟨gx,2,none⟩) (Since.setCell (p:=⟨gx,1,none⟩) (Since.setCell (F:=λk=>k=gx) (p:=⟨gx,0,none⟩) (Since.refl _ W) (.inl rfl) _) (.inl rfl) _) (.inl rfl) _) (.inl rfl) _
  exact⟨h1,HA.out.trans (hS.below HA.out.size (λy hy=>by have:=vk.out;omega))⟩
 by_cases hk:1<=k/\k<=11
 ·have hc:k=1\/k=2\/k=3\/k=4\/k=5\/k=6\/k=7\/k=8\/k=9\/k=10\/k=11:=by omega
  clear hk
  rcases hc with rfl|rfl|rfl|rfl|rfl|rfl|rfl|rfl|rfl|rfl|rfl
  all_goals
   go_wp2_with fail
   (try simp only [Exit.inBlock,Exit.then])
   exact bodyPost_ret (yB rfl _ _ gx 153 _ (0,0) _ rfl (zZ.out _ _ _ _).1 Tryz.underlying153 rfl zhO) rfl ⟨rfl,(zZ.out _ _ _ _).2⟩
 have e:∀j:Int,1<=j->j<=11->(k==j)=false:=λj h1 h2=>by rw [beq_eq_false_iff_ne];omega
 have e1:=e 1 (by omega) (by omega)
 have e2:=e 2 (by omega) (by omega)
 have e3:=e 3 (by omega) (by omega)
 have e6:=e 6 (by omega) (by omega)
 have e7:=e 7 (by omega) (by omega)
 have e8:=e 8 (by omega) (by omega)
 have e9:=e 9 (by omega) (by omega)
 have e10:=e 10 (by omega) (by omega)
 have e11:=e 11 (by omega) (by omega)
 have h1:jT k=false:=by unfold jT;rw [decide_eq_false_iff_not];omega
 have h2:j3 k=false:=by unfold j3;rw [decide_eq_false_iff_not];omega
 have h3:j4 k=false:=by unfold j4;rw [decide_eq_false_iff_not];omega
 have h4:hasB k=false:=by unfold hasB;rw [decide_eq_false_iff_not];omega
 have HH:=qh (And.intro h1 (And.intro h2 (And.intro h3 h4)))
 clear e h1 h2 h3 h4 hk
 go_wp2_with fail
 (try simp only [Exit.inBlock,Exit.then])
 refine bodyPost_ret (yB rfl _ _ gx 153 _ (0,0) _ rfl (zZ.out _ _ _ _).1 Tryz.underlying153 rfl zhO) rfl ⟨?_,(zZ.out _ _ _ _).2⟩
 rw [HH.out.1,HH.out.2.1,HH.out.2.2.1,HH.out.2.2.2]
