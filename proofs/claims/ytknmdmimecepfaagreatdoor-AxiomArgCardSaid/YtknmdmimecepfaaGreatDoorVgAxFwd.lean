/- Steps. -/
import Derived.Test.YtknmdmimecepfaaGreatDoorVgAxB
import Derived.Test.YtknmdmimecepfaaGreatDoorVgCodeR
set_option linter.all false
namespace Go.Proofs.YtknmdmimecepfaaGreatDoor
open Go.RowKit
set_option maxRecDepth 100000
set_option maxHeartbeats 16000000
def zQ (c:zo):Nat->Nat
 |0=>0
 |i+1=>zQ c i+cntF 2 (c.threads.getD i []) 0
theorem zgU {model:Int} {l:List zl} {a:Nat} (h:l.length<=a):cntF model l a=0:=by
 unfold cntF;rw [List.drop_eq_nil_of_le h];rfl
theorem zn0 {model:Int} {l:List zl} {a:Nat} :cntF model l a<=l.length:=by
 unfold cntF
 exact Nat.le_trans List.countP_le_length (by simp)
theorem zfF (l:List zl) (q:Nat) (hq:q<l.length) (n m:Nat) (h:n+cntF 2 l q=m):(qK 2 (l.getD q default).op=true->n+1+cntF 2 l (q+1)=m)/\(qK 2 (l.getD q default).op=false->n+cntF 2 l (q+1)=m):=by
 have:=cntF_step (model:=2) hq
 refine⟨λe=> ?_,λe=> ?_⟩
 ·rw [e,if_pos rfl] at this;omega
 rw [e,if_neg (by simp)] at this;omega
def kT (dom n op:Int):Int:=if (op=1\/op=6)/\n<=5000 then n*dom else n
def xP (dom:Int) (l:List zl):Nat->Int->Int
 |0,n=>n
 |k+1,n=>kT dom (xP dom l k n) (l.getD k default).op
def p9 (c:zo):Nat->Int
 |0=>1
 |i+1=>xP c.domain (c.threads.getD i []) (c.threads.getD i []).length (p9 c i)
def vB (c:zo):Bool:=decide (5000<p9 c c.threads.length)
theorem ziu {dom n op:Int} (hd1:0<=dom) (hd2:dom<=16) (hn:0<=n/\n<=80000):0<=kT dom n op/\kT dom n op<=80000:=by
 unfold kT
 split
 ·rename_i h
  refine⟨Int.mul_nonneg hn.1 hd1, ?_⟩
  have h1:n*dom<=5000*dom:=Int.mul_le_mul_of_nonneg_right h.2 hd1
  omega
 exact hn
theorem za4 {dom:Int} {l:List zl} (hd1:0<=dom) (hd2:dom<=16) {n:Int} (hn:0<=n/\n<=80000):∀k,0<=xP dom l k n/\xP dom l k n<=80000:=by
 intro k
 induction k with
 |zero=>exact hn
 |succ k ih=>exact ziu hd1 hd2 ih
theorem zgV {c:zo} (hd1:0<=c.domain) (hd2:c.domain<=16):∀i,0<=p9 c i/\p9 c i<=80000:=by
 intro i
 induction i with
 |zero=>exact⟨(by omega:(0:Int)<=1),(by omega:(1:Int)<=80000)⟩
 |succ i ih=>exact za4 hd1 hd2 ih _
theorem ziV {c:zo} (h:∀i,i<c.threads.length->∀k,k<(c.threads.getD i []).length->xg ((c.threads.getD i []).getD k default).op=true->(k:Int)<((c.threads.getD i []).getD k default).dest):yF c=true:=by
 unfold yF
 rw [List.all_eq_true]
 intro i hi
 rw [List.all_eq_true]
 intro k hk
 have:=h i (by simpa using hi) k (by simpa using hk)
 cases hl:xg ((c.threads.getD i []).getD k default).op with
 |false=>rfl
 |true=>rw [decide_eq_true (this hl)];rfl
theorem zgW {c:zo} {i k:Nat} (hi:i<c.threads.length) (hk:k<(c.threads.getD i []).length) (hl:xg ((c.threads.getD i []).getD k default).op=true) (hd:¬(k:Int)<((c.threads.getD i []).getD k default).dest):yF c=false:=by
 unfold yF
 rw [List.all_eq_false]
 refine⟨i,by simpa using hi, ?_⟩
 rw [Bool.not_eq_true,List.all_eq_false]
 refine⟨k,by simpa using hk, ?_⟩
 rw [hl,decide_eq_false hd];decide
theorem zgX (w:World) (c:zo) (tv:Value) (d:Nat) (h:yw d w tv c.threads) (h4:c.threads.length<=100000) (hrow:∀i,i<c.threads.length->(c.threads.getD i []).length<=100000):Calls Tryz.prog 21 #[xL c tv] w λe w'=>e= .returned (.bool (yF c && codeOk c))/\Below w.heap.size w w':=by
 obtain⟨ta,tc,rfl,htl⟩:=zh.slice h
 obtain⟨n,hn⟩:∃n,n=c.threads.length:=⟨_,rfl⟩
 have yS:=qh hrow
 rw [<-hn] at h htl h4 ⊢
 clear hrow
 unfold xL
 have hA:=(Below.refl w.heap.size w).alloc (Nat.le_refl _) (.cells #[.int .i64 c.vars, .int .i64 c.domain, .slice ta n tc] 25)
 have HB:=qh hA
 have H1:=qh (zT w (.cells #[.int .i64 c.vars, .int .i64 c.domain, .slice ta n tc] 25))
 have HT:=qh (zh.below (qC.stays d) h hA)
 have HN:=qh hn
 clear h hA hn
 go_enter Tryz.func21,Tryz.ntmps21
 go_upto_region 1 with fail
 generalize World.alloc w _=W at HB H1 HT ⊢
 obtain⟨gx,hgx⟩:∃gx,gx=w.heap.size:=⟨_,rfl⟩
 rw [<-hgx] at H1 ⊢
 clear hgx
 have HC:Hid (∀x,Below W.heap.size W x->x.cell? ⟨gx,0,none⟩=some (.int .i64 c.vars)/\x.cell? ⟨gx,1,none⟩=some (.int .i64 c.domain)/\x.cell? ⟨gx,2,none⟩=some (.slice ta n tc)):=λx hx=>⟨zi hx _ _ (za H1.out 0),zi hx _ _ (za H1.out 1),zi hx _ _ (za H1.out 2)⟩
 have qM:Hid (Below W.heap.size W W):=Below.refl _ _
 obtain⟨c0,c1,c2⟩:=HC.out W (Below.refl _ _)
 go_wp2_with fail
 clear c0 c1 c2
 go_loopg [10] n (λgg s10 wr=>∃(i:Nat),i<=n/\Hid (gg=n - i)/\s10= .int .i64 i/\Hid (Below W.heap.size W wr)/\Hid (∀j,j<i->∀k,k<(c.threads.getD j []).length->xg ((c.threads.getD j []).getD k default).op=true->(k:Int)<((c.threads.getD j []).getD k default).dest))
 case atStart=>exact⟨0,Nat.zero_le _,rfl,rfl,Below.refl _ _,λj hj=>by omega⟩
 case round=>
 obtain⟨i,hi,HG,rfl,qy,HJ⟩:=hrel
 obtain⟨wo,rfl⟩:∃wo:World,wo=wr:=⟨_,rfl⟩
 obtain⟨c0,c1,c2⟩:=HC.out wo qy.out
 by_cases hlt:i<n
 rotate_left
 ·obtain rfl:n=i:=by omega
  have zZ:Hid (yF c=true):=ziV (by rw [<-HN.out];exact HJ.out)
  have hco:=ziv wo c (.slice ta c.threads.length tc) d (by have:=zh.below (qC.stays d) HT.out qy.out;rw [HN.out] at this;exact this)
  unfold xL at hco
  rw [<-HN.out] at hco
  have HCO:=qh hco
  clear hco
  go_wp2_with(go_at_call 37;go_must(refine HCO.out.mono ?_);rintro e U2 ⟨rfl,hb⟩;(have HB3:=qh hb);clear hb)
  go_ret
  rw [zZ.out,Bool.true_and]
  exact⟨rfl,zm (zm HB.out qy.out) HB3.out⟩
 have qQ:(i:Int)<(n:Int):=by omega
 obtain⟨eb,eo,ka,kc,rfl,wT,xq,hel⟩:=yw.part HT.out i (by rw [<-HN.out];exact hlt)
 obtain⟨l,hl⟩:∃l,l=c.threads.getD i [] :=⟨_,rfl⟩
 rw [<-hl] at xq hel
 obtain⟨ln,hln⟩:∃ln,ln=l.length:=⟨_,rfl⟩
 rw [<-hln] at xq hel
 have e0:=zi (zm qM.out qy.out) _ _ xq
 have HL:=qh hl
 have yM:=qh hln
 have pE:=qh hel
 have HEC:=qh xq
 have hl6:ln<=100000:=by rw [hln,hl];exact yS.out i (by rw [<-HN.out];exact hlt)
 clear hl hln xq hel wT
 go_wp2_with fail
 clear e0 c0 c1 c2
 go_loopg [16] ln (λgg s16 wr=>∃(q:Nat),q<=ln/\Hid (gg=ln - q)/\s16= .int .i64 q/\Hid (Below W.heap.size W wr)/\Hid (∀k,k<q->xg (l.getD k default).op=true->(k:Int)<(l.getD k default).dest))
 case atStart=>exact⟨0,Nat.zero_le _,rfl,rfl,qy.out,λj hj=>by omega⟩
 case round=>
 obtain⟨q,hq,HG2,rfl,HB2,HJ2⟩:=hrel
 obtain⟨qd,rfl⟩:∃qd:World,qd=wr:=⟨_,rfl⟩
 obtain⟨c0,c1,c2⟩:=HC.out qd HB2.out
 have e0:=zi (zm qM.out HB2.out) _ _ HEC.out
 by_cases hlq:q<ln
 rotate_left
 ·obtain rfl:ln=q:=by omega
  have jE:Hid (∀j,j<i+1->∀k,k<(c.threads.getD j []).length->xg ((c.threads.getD j []).getD k default).op=true->(k:Int)<((c.threads.getD j []).getD k default).dest):=λj hj=>by
   rcases Nat.lt_or_ge j i with hl|hl
   ·exact HJ.out j hl
   obtain rfl:j=i:=by omega
   rw [<-HL.out, <-yM.out];exact HJ2.out
  go_wp2_with fail
  go_roundg (n - (i+1))
  case measure=>rw [HG.out];omega
  case rel=>exact⟨i+1,by omega,rfl,by simp,HB2.out,jE.out⟩
 have zfv:(q:Int)<(ln:Int):=by omega
 obtain⟨fb,fo,aa,ac,ba,bc,rfl, -,⟨x0,x1,x2⟩,⟨x3,x4,x5,x6⟩,⟨x7,x8,x9,x10⟩,qZ,xa,xb⟩:=qD.part (zh.below (yH.stays d) pE.out (zm qM.out HB2.out)) q (by rw [<-yM.out];exact hlq)
 obtain⟨x,hx⟩:∃x,x=l.getD q default:=⟨_,rfl⟩
 rw [<-hx] at x0 x1 x2 x3 x4 x5 x6 x7 x8 x9 x10 qZ xa xb
 have HX:=qh hx
 clear hx
 have HA:=qh (zK qd (.cells #[.int .i64 x.op, .int .i64 x.reg, .int .i64 x.var, .int .i64 x.a.kind, .int .i64 x.a.n, .int .u8 x.a.op, .slice aa x.a.kids.length ac, .int .i64 x.b.kind, .int .i64 x.b.n, .int .u8 x.b.op, .slice ba x.b.kids.length bc, .int .i64 x.dest] 45))
 have zP:=qh (zT qd (.cells #[.int .i64 x.op, .int .i64 x.reg, .int .i64 x.var, .int .i64 x.a.kind, .int .i64 x.a.n, .int .u8 x.a.op, .slice aa x.a.kids.length ac, .int .i64 x.b.kind, .int .i64 x.b.n, .int .u8 x.b.op, .slice ba x.b.kids.length bc, .int .i64 x.dest] 45))
 go_upto_region 7 with fail
 generalize World.alloc qd _=U at HA zP ⊢
 obtain⟨gu,hgu⟩:∃g,g=qd.heap.size:=⟨_,rfl⟩
 rw [<-hgu] at zP ⊢
 clear hgu x0 x1 x2 x3 x4 x5 x6 x7 x8 x9 x10 qZ c0 c1 c2 e0
 have y0:U.cell? ⟨gu,0,none⟩=some (.int .i64 x.op):=za zP.out 0
 have bF:U.cell? ⟨gu,11,none⟩=some (.int .i64 x.dest):=za zP.out 11
 have jJ:=qh (zm HB2.out HA.out)
 have hpl:=zew U x.op
 obtain⟨lb,hlb⟩:∃b,b=xg x.op:=⟨_,rfl⟩
 rw [<-hlb] at hpl
 have HPL:=qh hpl
 have HLB:=qh hlb
 clear hlb hpl
 cases lb with
 |true=>
  by_cases hds:x.dest<=(q:Int)
  ·have zZ:Hid (yF c=false):=zgW (i:=i) (k:=q) (by rw [<-HN.out];exact hlt) (by rw [<-HL.out, <-yM.out];exact hlq) (by rw [<-HL.out, <-HX.out];exact HLB.out.symm) (by rw [<-HL.out, <-HX.out];omega)
   go_wp2_with(go_at_call 36;go_must(refine HPL.out.mono ?_);rintro e U2 ⟨rfl,rfl⟩)
   go_ret
   rw [zZ.out]
   exact⟨rfl,zm HB.out jJ.out⟩
  have jE:Hid (xg x.op=true->(q:Int)<x.dest):=λ_=>by omega
  go_wp2_with(go_at_call 36;go_must(refine HPL.out.mono ?_);rintro e U2 ⟨rfl,rfl⟩)
  go_roundg (ln - (q+1))
  case measure=>rw [HG2.out];omega
  case rel=>exact⟨q+1,by omega,rfl,by simp,jJ.out,λk hk=>by
   rcases Nat.lt_or_ge k q with hl|hl
   ·exact HJ2.out k hl
   obtain rfl:k=q:=by omega
   rw [<-HX.out];exact jE.out⟩
 |false=>
 go_wp2_with(go_at_call 36;go_must(refine HPL.out.mono ?_);rintro e U2 ⟨rfl,rfl⟩)
 go_roundg (ln - (q+1))
 case measure=>rw [HG2.out];omega
 case rel=>exact⟨q+1,by omega,rfl,by simp,jJ.out,λk hk=>by
  rcases Nat.lt_or_ge k q with hl|hl
  ·exact HJ2.out k hl
  obtain rfl:k=q:=by omega
  rw [<-HX.out];exact λe=>absurd (HLB.out.trans e) (by simp)⟩
theorem zgZ (w:World) (c:zo) (tv:Value) (d:Nat) (h:yw d w tv c.threads) (h4:c.threads.length<=100000) (hrow:∀i,i<c.threads.length->(c.threads.getD i []).length<=100000):Calls Tryz.prog 14 #[xL c tv] w λe w'=>e= .returned (.bool (yF c && codeOk c))/\Below w.heap.size w w':=by
 obtain⟨ta,tc,rfl,htl⟩:=zh.slice h
 obtain⟨n,hn⟩:∃n,n=c.threads.length:=⟨_,rfl⟩
 have yS:=qh hrow
 rw [<-hn] at h htl h4 ⊢
 clear hrow
 unfold xL
 have hA:=(Below.refl w.heap.size w).alloc (Nat.le_refl _) (.cells #[.int .i64 c.vars, .int .i64 c.domain, .slice ta n tc] 25)
 have HB:=qh hA
 have H1:=qh (zT w (.cells #[.int .i64 c.vars, .int .i64 c.domain, .slice ta n tc] 25))
 have HT:=qh (zh.below (qC.stays d) h hA)
 have HN:=qh hn
 clear h hA hn
 go_enter Tryz.func14,Tryz.ntmps14
 go_upto_region 1 with fail
 generalize World.alloc w _=W at HB H1 HT ⊢
 obtain⟨gx,hgx⟩:∃gx,gx=w.heap.size:=⟨_,rfl⟩
 rw [<-hgx] at H1 ⊢
 clear hgx
 have HC:Hid (∀x,Below W.heap.size W x->x.cell? ⟨gx,0,none⟩=some (.int .i64 c.vars)/\x.cell? ⟨gx,1,none⟩=some (.int .i64 c.domain)/\x.cell? ⟨gx,2,none⟩=some (.slice ta n tc)):=λx hx=>⟨zi hx _ _ (za H1.out 0),zi hx _ _ (za H1.out 1),zi hx _ _ (za H1.out 2)⟩
 have qM:Hid (Below W.heap.size W W):=Below.refl _ _
 obtain⟨c0,c1,c2⟩:=HC.out W (Below.refl _ _)
 go_wp2_with fail
 clear c0 c1 c2
 go_loopg [3] n (λgg s3 wr=>∃(i:Nat),i<=n/\Hid (gg=n - i)/\s3= .int .i64 i/\Hid (Below W.heap.size W wr)/\Hid (∀j,j<i->∀k,k<(c.threads.getD j []).length->xg ((c.threads.getD j []).getD k default).op=true->(k:Int)<((c.threads.getD j []).getD k default).dest))
 case atStart=>exact⟨0,Nat.zero_le _,rfl,rfl,Below.refl _ _,λj hj=>by omega⟩
 case round=>
 obtain⟨i,hi,HG,rfl,qy,HJ⟩:=hrel
 obtain⟨wo,rfl⟩:∃wo:World,wo=wr:=⟨_,rfl⟩
 obtain⟨c0,c1,c2⟩:=HC.out wo qy.out
 by_cases hlt:i<n
 rotate_left
 ·obtain rfl:n=i:=by omega
  have zZ:Hid (yF c=true):=ziV (by rw [<-HN.out];exact HJ.out)
  have hco:=zjR wo c (.slice ta c.threads.length tc) d (by have:=zh.below (qC.stays d) HT.out qy.out;rw [HN.out] at this;exact this)
  unfold xL at hco
  rw [<-HN.out] at hco
  have HCO:=qh hco
  clear hco
  go_wp2_with(go_at_call 34;go_must(refine HCO.out.mono ?_);rintro e U2 ⟨rfl,hb⟩;(have HB3:=qh hb);clear hb)
  go_ret
  rw [zZ.out,Bool.true_and]
  exact⟨rfl,zm (zm HB.out qy.out) HB3.out⟩
 have qQ:(i:Int)<(n:Int):=by omega
 obtain⟨eb,eo,ka,kc,rfl,wT,xq,hel⟩:=yw.part HT.out i (by rw [<-HN.out];exact hlt)
 obtain⟨l,hl⟩:∃l,l=c.threads.getD i [] :=⟨_,rfl⟩
 rw [<-hl] at xq hel
 obtain⟨ln,hln⟩:∃ln,ln=l.length:=⟨_,rfl⟩
 rw [<-hln] at xq hel
 have e0:=zi (zm qM.out qy.out) _ _ xq
 have HL:=qh hl
 have yM:=qh hln
 have pE:=qh hel
 have HEC:=qh xq
 have hl6:ln<=100000:=by rw [hln,hl];exact yS.out i (by rw [<-HN.out];exact hlt)
 clear hl hln xq hel wT
 go_wp2_with fail
 clear e0 c0 c1 c2
 go_loopg [4] ln (λgg s4 wr=>∃(q:Nat),q<=ln/\Hid (gg=ln - q)/\s4= .int .i64 q/\Hid (Below W.heap.size W wr)/\Hid (∀k,k<q->xg (l.getD k default).op=true->(k:Int)<(l.getD k default).dest))
 case atStart=>exact⟨0,Nat.zero_le _,rfl,rfl,qy.out,λj hj=>by omega⟩
 case round=>
 obtain⟨q,hq,HG2,rfl,HB2,HJ2⟩:=hrel
 obtain⟨qd,rfl⟩:∃qd:World,qd=wr:=⟨_,rfl⟩
 obtain⟨c0,c1,c2⟩:=HC.out qd HB2.out
 have e0:=zi (zm qM.out HB2.out) _ _ HEC.out
 by_cases hlq:q<ln
 rotate_left
 ·obtain rfl:ln=q:=by omega
  have jE:Hid (∀j,j<i+1->∀k,k<(c.threads.getD j []).length->xg ((c.threads.getD j []).getD k default).op=true->(k:Int)<((c.threads.getD j []).getD k default).dest):=λj hj=>by
   rcases Nat.lt_or_ge j i with hl|hl
   ·exact HJ.out j hl
   obtain rfl:j=i:=by omega
   rw [<-HL.out, <-yM.out];exact HJ2.out
  go_wp2_with fail
  go_roundg (n - (i+1))
  case measure=>rw [HG.out];omega
  case rel=>exact⟨i+1,by omega,rfl,by simp,HB2.out,jE.out⟩
 have zfv:(q:Int)<(ln:Int):=by omega
 obtain⟨fb,fo,aa,ac,ba,bc,rfl, -,⟨x0,x1,x2⟩,⟨x3,x4,x5,x6⟩,⟨x7,x8,x9,x10⟩,qZ,xa,xb⟩:=qD.part (zh.below (yH.stays d) pE.out (zm qM.out HB2.out)) q (by rw [<-yM.out];exact hlq)
 obtain⟨x,hx⟩:∃x,x=l.getD q default:=⟨_,rfl⟩
 rw [<-hx] at x0 x1 x2 x3 x4 x5 x6 x7 x8 x9 x10 qZ xa xb
 have HX:=qh hx
 clear hx
 have HA:=qh (zK qd (.cells #[.int .i64 x.op, .int .i64 x.reg, .int .i64 x.var, .int .i64 x.a.kind, .int .i64 x.a.n, .int .u8 x.a.op, .slice aa x.a.kids.length ac, .int .i64 x.b.kind, .int .i64 x.b.n, .int .u8 x.b.op, .slice ba x.b.kids.length bc, .int .i64 x.dest] 45))
 have zP:=qh (zT qd (.cells #[.int .i64 x.op, .int .i64 x.reg, .int .i64 x.var, .int .i64 x.a.kind, .int .i64 x.a.n, .int .u8 x.a.op, .slice aa x.a.kids.length ac, .int .i64 x.b.kind, .int .i64 x.b.n, .int .u8 x.b.op, .slice ba x.b.kids.length bc, .int .i64 x.dest] 45))
 go_upto_region 8 with fail
 generalize World.alloc qd _=U at HA zP ⊢
 obtain⟨gu,hgu⟩:∃g,g=qd.heap.size:=⟨_,rfl⟩
 rw [<-hgu] at zP ⊢
 clear hgu x0 x1 x2 x3 x4 x5 x6 x7 x8 x9 x10 qZ c0 c1 c2 e0
 have y0:U.cell? ⟨gu,0,none⟩=some (.int .i64 x.op):=za zP.out 0
 have bF:U.cell? ⟨gu,11,none⟩=some (.int .i64 x.dest):=za zP.out 11
 have jJ:=qh (zm HB2.out HA.out)
 obtain⟨op,hop⟩:∃v,v=x.op:=⟨_,rfl⟩
 rw [<-hop] at y0
 have HOP:=qh hop
 clear hop
 by_cases o12:op=12
 ·subst o12
  by_cases hds:x.dest<=(q:Int)
  ·have zZ:Hid (yF c=false):=zgW (i:=i) (k:=q) (by rw [<-HN.out];exact hlt) (by rw [<-HL.out, <-yM.out];exact hlq) (by rw [<-HL.out, <-HX.out, <-HOP.out];rfl) (by rw [<-HL.out, <-HX.out];omega)
   go_wp2_with fail
   go_ret
   rw [zZ.out]
   exact⟨rfl,zm HB.out jJ.out⟩
  have jE:Hid (xg x.op=true->(q:Int)<x.dest):=λ_=>by omega
  go_wp2_with fail
  go_roundg (ln - (q+1))
  case measure=>rw [HG2.out];omega
  case rel=>exact⟨q+1,by omega,rfl,by simp,jJ.out,λk hk=>by
   rcases Nat.lt_or_ge k q with hl|hl
   ·exact HJ2.out k hl
   obtain rfl:k=q:=by omega
   rw [<-HX.out];exact jE.out⟩
 have zye:((op:Int)==12)=false:=by simpa using o12
 by_cases o13:op=13
 rotate_left
 ·have zyf:((op:Int)==13)=false:=by simpa using o13
  have jE:Hid (xg x.op=true->(q:Int)<x.dest):=λe=>by
   rw [<-HOP.out] at e
   unfold xg at e
   simp only [Bool.or_eq_true,decide_eq_true_eq] at e
   omega
  go_wp2_with fail
  go_roundg (ln - (q+1))
  case measure=>rw [HG2.out];omega
  case rel=>exact⟨q+1,by omega,rfl,by simp,jJ.out,λk hk=>by
   rcases Nat.lt_or_ge k q with hl|hl
   ·exact HJ2.out k hl
   obtain rfl:k=q:=by omega
   rw [<-HX.out];exact jE.out⟩
 subst o13
 by_cases hds:x.dest<=(q:Int)
 ·have zZ:Hid (yF c=false):=zgW (i:=i) (k:=q) (by rw [<-HN.out];exact hlt) (by rw [<-HL.out, <-yM.out];exact hlq) (by rw [<-HL.out, <-HX.out, <-HOP.out];rfl) (by rw [<-HL.out, <-HX.out];omega)
  go_wp2_with fail
  go_ret
  rw [zZ.out]
  exact⟨rfl,zm HB.out jJ.out⟩
 have jE:Hid (xg x.op=true->(q:Int)<x.dest):=λ_=>by omega
 go_wp2_with fail
 go_roundg (ln - (q+1))
 case measure=>rw [HG2.out];omega
 case rel=>exact⟨q+1,by omega,rfl,by simp,jJ.out,λk hk=>by
  rcases Nat.lt_or_ge k q with hl|hl
  ·exact HJ2.out k hl
  obtain rfl:k=q:=by omega
  rw [<-HX.out];exact jE.out⟩
