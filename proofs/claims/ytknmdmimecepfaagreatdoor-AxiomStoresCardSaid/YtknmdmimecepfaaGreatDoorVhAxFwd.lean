/- Steps. -/
import Derived.Test.YtknmdmimecepfaaGreatDoorVhAxB
set_option linter.all false
namespace Go.Proofs.YtknmdmimecepfaaGreatDoor
open Go.RowKit
set_option maxRecDepth 100000
set_option maxHeartbeats 16000000
def zY (c:zl):Nat->Nat
 |0=>0
 |i+1=>zY c i+cntF 2 (c.threads.getD i []) 0
theorem zkj {model:Int} {l:List zi} {a:Nat} (h:l.length<=a):cntF model l a=0:=by
 unfold cntF;rw [List.drop_eq_nil_of_le h];rfl
theorem zki {model:Int} {l:List zi} {a:Nat} :cntF model l a<=l.length:=by
 unfold cntF
 exact Nat.le_trans List.countP_le_length (by simp)
theorem zi8 (l:List zi) (q:Nat) (hq:q<l.length) (n m:Nat) (h:n+cntF 2 l q=m):(xK 2 (l.getD q default).op=true->n+1+cntF 2 l (q+1)=m)/\(xK 2 (l.getD q default).op=false->n+cntF 2 l (q+1)=m):=by
 have:=cntF_step (model:=2) hq
 refine⟨λe=> ?_,λe=> ?_⟩
 ·rw [e,if_pos rfl] at this;omega
 rw [e,if_neg (by simp)] at this;omega
def jv (dom n op:Int):Int:=if (op=1\/op=6)/\n<=5000 then n*dom else n
def xg (dom:Int) (l:List zi):Nat->Int->Int
 |0,n=>n
 |k+1,n=>jv dom (xg dom l k n) (l.getD k default).op
def zcB (c:zl):Nat->Int
 |0=>1
 |i+1=>xg c.domain (c.threads.getD i []) (c.threads.getD i []).length (zcB c i)
def qQ (c:zl):Bool:=decide (5000<zcB c c.threads.length)
theorem zfT {dom n op:Int} (hd1:0<=dom) (hd2:dom<=16) (hn:0<=n/\n<=80000):0<=jv dom n op/\jv dom n op<=80000:=by
 unfold jv
 split
 ·rename_i h
  refine⟨Int.mul_nonneg hn.1 hd1, ?_⟩
  have h1:n*dom<=5000*dom:=Int.mul_le_mul_of_nonneg_right h.2 hd1
  omega
 exact hn
theorem zfU {dom:Int} {l:List zi} (hd1:0<=dom) (hd2:dom<=16) {n:Int} (hn:0<=n/\n<=80000):∀k,0<=xg dom l k n/\xg dom l k n<=80000:=by
 intro k
 induction k with
 |zero=>exact hn
 |succ k ih=>exact zfT hd1 hd2 ih
theorem zgv {c:zl} (h:∀i,i<c.threads.length->∀k,k<(c.threads.getD i []).length->xL ((c.threads.getD i []).getD k default).op=true->(k:Int)<((c.threads.getD i []).getD k default).dest):yw c=true:=by
 unfold yw
 rw [List.all_eq_true]
 intro i hi
 rw [List.all_eq_true]
 intro k hk
 have:=h i (by simpa using hi) k (by simpa using hk)
 cases hl:xL ((c.threads.getD i []).getD k default).op with
 |false=>rfl
 |true=>rw [decide_eq_true (this hl)];rfl
theorem znm {c:zl} {i k:Nat} (hi:i<c.threads.length) (hk:k<(c.threads.getD i []).length) (hl:xL ((c.threads.getD i []).getD k default).op=true) (hd:¬(k:Int)<((c.threads.getD i []).getD k default).dest):yw c=false:=by
 unfold yw
 rw [List.all_eq_false]
 refine⟨i,by simpa using hi, ?_⟩
 rw [Bool.not_eq_true,List.all_eq_false]
 refine⟨k,by simpa using hk, ?_⟩
 rw [hl,decide_eq_false hd];decide
theorem zeI (w:World) (c:zl) (tv:Value) (d:Nat) (h:yB d w tv c.threads) (h4:c.threads.length<=100000) (hrow:∀i,i<c.threads.length->(c.threads.getD i []).length<=100000):Calls Tryz.prog 21 #[qP c tv] w λe w'=>e= .returned (.bool (yw c && codeOk c))/\Below w.heap.size w w':=by
 obtain⟨ta,tc,rfl,htl⟩:=zf.slice h
 obtain⟨n,hn⟩:∃n,n=c.threads.length:=⟨_,rfl⟩
 have qw:=qh hrow
 rw [<-hn] at h htl h4 ⊢
 clear hrow
 unfold qP
 have hA:=(Below.refl w.heap.size w).alloc (Nat.le_refl _) (.cells #[.int .i64 c.vars, .int .i64 c.domain, .slice ta n tc] 25)
 have HB:=qh hA
 have H1:=qh (yG w (.cells #[.int .i64 c.vars, .int .i64 c.domain, .slice ta n tc] 25))
 have HT:=qh (zf.below (j5.stays d) h hA)
 have HN:=qh hn
 clear h hA hn
 go_enter Tryz.func21,Tryz.ntmps21
 go_upto_region 1 with fail
 generalize World.alloc w _=W at HB H1 HT ⊢
 obtain⟨gx,hgx⟩:∃gx,gx=w.heap.size:=⟨_,rfl⟩
 rw [<-hgx] at H1 ⊢
 clear hgx
 have HC:Hid (∀x,Below W.heap.size W x->x.cell? ⟨gx,0,none⟩=some (.int .i64 c.vars)/\x.cell? ⟨gx,1,none⟩=some (.int .i64 c.domain)/\x.cell? ⟨gx,2,none⟩=some (.slice ta n tc)):=λx hx=>⟨zk hx _ _ (ze H1.out 0),zk hx _ _ (ze H1.out 1),zk hx _ _ (ze H1.out 2)⟩
 have HBW:Hid (Below W.heap.size W W):=Below.refl _ _
 obtain⟨c0,c1,c2⟩:=HC.out W (Below.refl _ _)
 go_wp2_with fail
 clear c0 c1 c2
 go_loopg [10] n (λgg s10 wr=>∃(i:Nat),i<=n/\Hid (gg=n - i)/\s10= .int .i64 i/\Hid (Below W.heap.size W wr)/\Hid (∀j,j<i->∀k,k<(c.threads.getD j []).length->xL ((c.threads.getD j []).getD k default).op=true->(k:Int)<((c.threads.getD j []).getD k default).dest))
 case atStart=>exact⟨0,Nat.zero_le _,rfl,rfl,Below.refl _ _,λj hj=>by omega⟩
 case round=>
 obtain⟨i,hi,HG,rfl,vR,HJ⟩:=hrel
 obtain⟨wo,rfl⟩:∃wo:World,wo=wr:=⟨_,rfl⟩
 obtain⟨c0,c1,c2⟩:=HC.out wo vR.out
 by_cases hlt:i<n
 rotate_left
 ·obtain rfl:n=i:=by omega
  have zU:Hid (yw c=true):=zgv (by rw [<-HN.out];exact HJ.out)
  have hco:=zfV wo c (.slice ta c.threads.length tc) d (by have:=zf.below (j5.stays d) HT.out vR.out;rw [HN.out] at this;exact this)
  unfold qP at hco
  rw [<-HN.out] at hco
  have HCO:=qh hco
  clear hco
  go_wp2_with(go_at_call 37;go_must(refine HCO.out.mono ?_);rintro e U2 ⟨rfl,hb⟩;(have HB3:=qh hb);clear hb)
  go_ret
  rw [zU.out,Bool.true_and]
  exact⟨rfl,zn (zn HB.out vR.out) HB3.out⟩
 have qK:(i:Int)<(n:Int):=by omega
 obtain⟨eb,eo,ka,kc,rfl,pE,qL,hel⟩:=yB.part HT.out i (by rw [<-HN.out];exact hlt)
 obtain⟨l,hl⟩:∃l,l=c.threads.getD i [] :=⟨_,rfl⟩
 rw [<-hl] at qL hel
 obtain⟨ln,hln⟩:∃ln,ln=l.length:=⟨_,rfl⟩
 rw [<-hln] at qL hel
 have e0:=zk (zn HBW.out vR.out) _ _ qL
 have HL:=qh hl
 have qm:=qh hln
 have HEL:=qh hel
 have HEC:=qh qL
 have hl6:ln<=100000:=by rw [hln,hl];exact qw.out i (by rw [<-HN.out];exact hlt)
 clear hl hln qL hel pE
 go_wp2_with fail
 clear e0 c0 c1 c2
 go_loopg [16] ln (λgg s16 wr=>∃(q:Nat),q<=ln/\Hid (gg=ln - q)/\s16= .int .i64 q/\Hid (Below W.heap.size W wr)/\Hid (∀k,k<q->xL (l.getD k default).op=true->(k:Int)<(l.getD k default).dest))
 case atStart=>exact⟨0,Nat.zero_le _,rfl,rfl,vR.out,λj hj=>by omega⟩
 case round=>
 obtain⟨q,hq,HG2,rfl,HB2,HJ2⟩:=hrel
 obtain⟨xE,rfl⟩:∃xE:World,xE=wr:=⟨_,rfl⟩
 obtain⟨c0,c1,c2⟩:=HC.out xE HB2.out
 have e0:=zk (zn HBW.out HB2.out) _ _ HEC.out
 by_cases hlq:q<ln
 rotate_left
 ·obtain rfl:ln=q:=by omega
  have bB:Hid (∀j,j<i+1->∀k,k<(c.threads.getD j []).length->xL ((c.threads.getD j []).getD k default).op=true->(k:Int)<((c.threads.getD j []).getD k default).dest):=λj hj=>by
   rcases Nat.lt_or_ge j i with hl|hl
   ·exact HJ.out j hl
   obtain rfl:j=i:=by omega
   rw [<-HL.out, <-qm.out];exact HJ2.out
  go_wp2_with fail
  go_roundg (n - (i+1))
  case measure=>rw [HG.out];omega
  case rel=>exact⟨i+1,by omega,rfl,by simp,HB2.out,bB.out⟩
 have znj:(q:Int)<(ln:Int):=by omega
 obtain⟨fb,fo,aa,ac,ba,bc,rfl, -,⟨x0,x1,x2⟩,⟨x3,x4,x5,x6⟩,⟨x7,x8,x9,x10⟩,uZ,xa,xb⟩:=qz.part (zf.below (xU.stays d) HEL.out (zn HBW.out HB2.out)) q (by rw [<-qm.out];exact hlq)
 obtain⟨x,hx⟩:∃x,x=l.getD q default:=⟨_,rfl⟩
 rw [<-hx] at x0 x1 x2 x3 x4 x5 x6 x7 x8 x9 x10 uZ xa xb
 have HX:=qh hx
 clear hx
 have HA:=qh (zw xE (.cells #[.int .i64 x.op, .int .i64 x.reg, .int .i64 x.var, .int .i64 x.a.kind, .int .i64 x.a.n, .int .u8 x.a.op, .slice aa x.a.kids.length ac, .int .i64 x.b.kind, .int .i64 x.b.n, .int .u8 x.b.op, .slice ba x.b.kids.length bc, .int .i64 x.dest] 45))
 have zL:=qh (yG xE (.cells #[.int .i64 x.op, .int .i64 x.reg, .int .i64 x.var, .int .i64 x.a.kind, .int .i64 x.a.n, .int .u8 x.a.op, .slice aa x.a.kids.length ac, .int .i64 x.b.kind, .int .i64 x.b.n, .int .u8 x.b.op, .slice ba x.b.kids.length bc, .int .i64 x.dest] 45))
 go_upto_region 7 with fail
 generalize World.alloc xE _=U at HA zL ⊢
 obtain⟨gu,hgu⟩:∃g,g=xE.heap.size:=⟨_,rfl⟩
 rw [<-hgu] at zL ⊢
 clear hgu x0 x1 x2 x3 x4 x5 x6 x7 x8 x9 x10 uZ c0 c1 c2 e0
 have y0:U.cell? ⟨gu,0,none⟩=some (.int .i64 x.op):=ze zL.out 0
 have bg:U.cell? ⟨gu,11,none⟩=some (.int .i64 x.dest):=ze zL.out 11
 have wO:=qh (zn HB2.out HA.out)
 have hpl:=zcC U x.op
 obtain⟨lb,hlb⟩:∃b,b=xL x.op:=⟨_,rfl⟩
 rw [<-hlb] at hpl
 have HPL:=qh hpl
 have HLB:=qh hlb
 clear hlb hpl
 cases lb with
 |true=>
  by_cases hds:x.dest<=(q:Int)
  ·have zU:Hid (yw c=false):=znm (i:=i) (k:=q) (by rw [<-HN.out];exact hlt) (by rw [<-HL.out, <-qm.out];exact hlq) (by rw [<-HL.out, <-HX.out];exact HLB.out.symm) (by rw [<-HL.out, <-HX.out];omega)
   go_wp2_with(go_at_call 36;go_must(refine HPL.out.mono ?_);rintro e U2 ⟨rfl,rfl⟩)
   go_ret
   rw [zU.out]
   exact⟨rfl,zn HB.out wO.out⟩
  have bB:Hid (xL x.op=true->(q:Int)<x.dest):=λ_=>by omega
  go_wp2_with(go_at_call 36;go_must(refine HPL.out.mono ?_);rintro e U2 ⟨rfl,rfl⟩)
  go_roundg (ln - (q+1))
  case measure=>rw [HG2.out];omega
  case rel=>exact⟨q+1,by omega,rfl,by simp,wO.out,λk hk=>by
   rcases Nat.lt_or_ge k q with hl|hl
   ·exact HJ2.out k hl
   obtain rfl:k=q:=by omega
   rw [<-HX.out];exact bB.out⟩
 |false=>
 go_wp2_with(go_at_call 36;go_must(refine HPL.out.mono ?_);rintro e U2 ⟨rfl,rfl⟩)
 go_roundg (ln - (q+1))
 case measure=>rw [HG2.out];omega
 case rel=>exact⟨q+1,by omega,rfl,by simp,wO.out,λk hk=>by
  rcases Nat.lt_or_ge k q with hl|hl
  ·exact HJ2.out k hl
  obtain rfl:k=q:=by omega
  rw [<-HX.out];exact λe=>absurd (HLB.out.trans e) (by simp)⟩
