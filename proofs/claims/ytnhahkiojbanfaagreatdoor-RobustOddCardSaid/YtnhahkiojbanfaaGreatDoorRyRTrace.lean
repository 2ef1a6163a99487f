/- Steps. -/
import Derived.Test.YtnhahkiojbanfaaGreatDoorRyPRev
set_option linter.all false
namespace Go.Proofs.YtnhahkiojbanfaaGreatDoor
open Go.RowKit
set_option maxRecDepth 100000
set_option maxHeartbeats 16000000
theorem uD {f:Nat->List (Int × zq × Nat)} {t:Int} :∀ {n:Nat},(∀j,j<n->qO (f j) t=none)->qO ((List.range n).flatMap f) t=none:=by
 intro n
 induction n with
 |zero=>intro _;rfl
 |succ n ih=>
 intro h1
 rw [List.range_succ,List.flatMap_append,zaw,ih (λj hj=>h1 j (by omega))]
 simp only [List.flatMap_cons,List.flatMap_nil,List.append_nil]
 exact h1 n (by omega)
theorem zgq {f:Nat->List (Int × zq × Nat)} {t:Int} :∀ {n i:Nat} {x:zq × Nat},(∀j,j<i->qO (f j) t=none)->qO (f i) t=some x->i<n->qO ((List.range n).flatMap f) t=some x:=by
 intro n
 induction n with
 |zero=>intro i _ _ _ h;omega
 |succ n ih=>
 intro i x h1 h2 h3
 rw [List.range_succ,List.flatMap_append,zaw]
 rcases Nat.lt_or_ge i n with h|h
 ·rw [ih h1 h2 h]
 obtain rfl:i=n:=by omega
 rw [uD h1]
 simp only [List.flatMap_cons,List.flatMap_nil,List.append_nil]
 exact h2
theorem zea {ms:List zq} {i:Nat} {nx:List Int} {k:Nat} {t:Int} (h:nx.getD k 0≠t):qO (gP ms i nx k) t=none:=by
 unfold gP
 split
 ·unfold qO
  rw [if_neg h];rfl
 rfl
theorem zrh {ms:List zq} {i:Nat} {nx:List Int} {k:Nat} {t:Int} (h:nx.getD k 0=t) (hi:(i:Int)<t) (hk:k<ms.length):qO (gP ms i nx k) t=some (ms.getD k default,i):=by
 unfold gP
 rw [if_pos ⟨by rw [h];exact hi,hk⟩]
 unfold qO
 rw [if_pos h]
def zhM (S:yV) (t:Int) (i:Nat):Prop:=∀j,j<i->∀k,k<(S.next.getD j []).length->(S.next.getD j []).getD k 0≠t
theorem zri {S:yV} {t i k:Nat} (h1:zhM S t i) (h2:∀j,j<k->(S.next.getD i []).getD j 0≠(t:Int)) (h3:(S.next.getD i []).getD k 0=(t:Int)) (hk:k<(S.next.getD i []).length) (hm:k<(S.moves.getD i []).length) (hi:i<t) (hn:i<S.next.length):zah S (t:Int)=some ((S.moves.getD i []).getD k default,i):=by
 unfold zah qx
 refine zgq (i:=i) (λj hj=>uD (λq hq=>zea (h1 j hj q hq))) ?_ hn
 exact zgq (i:=k) (λq hq=>zea (h2 q hq)) (zrh h3 (by omega) hm) hk
theorem zrj {S:yV} {t:Nat} (h1:zhM S t t):zah S (t:Int)=none:=by
 unfold zah qx
 refine uD (λi _=>uD (λk hk=> ?_))
 rcases Nat.lt_or_ge i t with h|h
 ·exact zea (h1 i h k hk)
 by_cases e:(S.next.getD i []).getD k 0=(t:Int)
 ·unfold gP
  rw [if_neg (by rintro⟨h2, -⟩;omega)]
  rfl
 exact zea e
theorem znq {S:yV} {b:Nat} (h:zah S (b:Int)=none):xQ S b (b:Int)= [] :=by
 cases b with
 |zero=>rfl
 |succ b=>
 unfold xQ
 rw [if_pos (by omega),h]
def zw6 (B:Nat) (l:List zq) (n:Nat) (w:World) (e:Ending) (w':World):Prop:=(∃(a:Option Addr) (c:Nat),e= .returned (.slice a n c)/\w'.ownsRow B 70 3 (.slice a n c) n (zo zq.cells l))/\Below w.heap.size w w'
theorem ztV {w w':World} {B:Nat} {l:List zq} {n:Nat} {e:Ending} (hn:n=l.length) (hB:B<=w.heap.size) (h:zcx w l e w'):zw6 B l n w e w':=by
 subst hn
 obtain⟨sv,rfl,ho,hb⟩:=h
 obtain⟨a,c,rfl, -⟩:=xu ho
 exact⟨⟨a,c,rfl,yU ho hB⟩,hb⟩
theorem zph (S:yV) (hm:S.moves.length=S.states.length) (hn:S.next.length=S.states.length) (hl:∀i,i<S.states.length->(S.next.getD i []).length=(S.moves.getD i []).length) (hb:S.states.length<=1000000):∀(tt:Nat),tt<S.states.length->∀(w:World) (sv mv nv:Value),kW w S sv mv nv->
  Calls Tryz.prog 24 #[zb5 sv mv nv, .int .i64 (tt:Int)] w (zcx w (xQ S tt (tt:Int)).reverse):=by
 intro tt
 induction tt using Nat.strongRecOn with
 |_ tt IH=>
 intro hto w sv mv nv h
 obtain⟨a1,c1,rfl, -⟩:=zh.slice h.1
 obtain⟨a2,c2,rfl, -⟩:=zh.slice h.2.1
 obtain⟨a3,c3,rfl, -⟩:=zh.slice h.2.2
 rw [hm,hn] at h
 rw [hm,hn]
 obtain⟨n,hn1⟩:∃n,n=S.states.length:=⟨_,rfl⟩
 rw [<-hn1] at h hto hb hm hn hl IH ⊢
 obtain⟨W,hW⟩:∃W,W=w.alloc (.cells #[.slice a1 n c1, .slice a2 n c2, .slice a3 n c3] 49):=⟨_,rfl⟩
 have hB:Below w.heap.size w W:=by rw [hW];exact(Below.refl _ _).alloc (Nat.le_refl _) _
 have hbx:W.heap[w.heap.size]? =some (.cells #[.slice a1 n c1, .slice a2 n c2, .slice a3 n c3] 49 (0,0)):=by rw [hW];exact yh _ _
 have hs:kW W S (.slice a1 n c1) (.slice a2 n c2) (.slice a3 n c3):=h.below hB
 have hih:∀i,i<tt->∀y,Below W.heap.size W y->∀B,B<=y.heap.size->Calls Tryz.prog 24 #[.agg #[.slice a1 n c1, .slice a2 n c2, .slice a3 n c3], .int .i64 (i:Int)] y (zw6 B (xQ S i (i:Int)).reverse (xQ S i (i:Int)).reverse.length y):=λi hi y hy B hB=>(IH i hi (by omega) y _ _ _ (hs.below hy)).mono λ_ _ h=>ztV rfl hB h
 unfold zb5
 have HW:=qh hW
 have HB:=qh hB
 have yZ:=qh hbx
 have HS:=qh hs
 have HIH:=qh hih
 have HM:=qh hm
 have HN:=qh hn
 have HL:=qh hl
 have wJ:=qh hn1
 clear h hW hB hbx hs hih IH hm hn hl hn1
 go_enter Tryz.func24,Tryz.ntmps24
 go_upto_region 1 with fail
 rw [<-HW.out]
 clear HW
 obtain⟨g,hg⟩:∃g,g=w.heap.size:=⟨_,rfl⟩
 rw [<-hg] at yZ ⊢
 clear hg
 have CS:Hid (∀y,Below W.heap.size W y->y.cell? ⟨g,0,none⟩=some (.slice a1 n c1)/\y.cell? ⟨g,1,none⟩=some (.slice a2 n c2)/\y.cell? ⟨g,2,none⟩=some (.slice a3 n c3)):=λy hy=>⟨zi hy _ _ (ze yZ.out 0),zi hy _ _ (ze yZ.out 1),zi hy _ _ (ze yZ.out 2)⟩
 clear yZ
 obtain⟨z0,z1,z2⟩:=CS.out W (Below.refl _ _)
 have z9N:(tt:Int)<(n:Int):=by omega
 have hd0:decide ((tt:Int)<0)=false:=decide_eq_false (by omega)
 have hd1:decide ((n:Int)<=(tt:Int))=false:=decide_eq_false (by omega)
 have hd2:decide (n<=tt)=false:=decide_eq_false (by omega)
 have hd3:((n:Int) !=(n:Int))=false:=by simp
 have hd4:(n !=n)=false:=by simp
 go_upto_region 3 with fail
 clear hd0 hd1 hd2 hd3 hd4 z0 z1 z2
 by_cases h0:tt=0
 ·subst h0
  go_wp2_with fail
  go_ret
  exact⟨_,rfl,World.ownsRow_nil _ _ _ _,HB.out⟩
 have h0I:((tt:Int)==0)=false:=beq_eq_false_iff_ne.2 (by omega)
 have h0J:(tt==0)=false:=beq_eq_false_iff_ne.2 h0
 have h0K:decide ((tt:Int)=0)=false:=decide_eq_false (by omega)
 have h0L:decide (tt=0)=false:=decide_eq_false h0
 go_upto_block 0 with fail
 go_wp2_with fail
 go_loopg [5] tt (λgg s5 wr=>∃i:Nat,i<=tt/\Hid (gg=tt - i)/\s5= .int .i64 i/\Hid (zhM S (tt:Int) i)/\Hid (Below W.heap.size W wr))
 case atStart=>exact⟨0,Nat.zero_le _,rfl,rfl,λj hj=>absurd hj (Nat.not_lt_zero _),Below.refl _ _⟩
 case round=>
 obtain⟨i,hi,HG,rfl,jR,zH⟩:=hrel
 obtain⟨wo,rfl⟩:∃X:World,X=wr:=⟨_,rfl⟩
 by_cases hlt:i<tt
 rotate_left
 ·obtain rfl:i=tt:=by omega
  have hno:=znq (zrj jR.out)
  have HE:=qh hno
  clear hno
  go_wp2_with fail
  go_ret
  refine⟨_,rfl, ?_,HB.out.trans (zH.out.mono HB.out.size)⟩
  rw [HE.out]
  exact World.ownsRow_nil _ _ _ _
 have qA:(i:Int)<(tt:Int):=by omega
 have hin:i<n:=by omega
 have z5r:(i:Int)<(n:Int):=by omega
 obtain⟨mb,mof,ka,kc,hma, -,q0,hms⟩:=zgr HS.out.2.1 i (by rw [HM.out];exact hin)
 obtain⟨nb,nof,la,lc,hna, -,r0,hns⟩:=zhN HS.out.2.2 i (by rw [HN.out];exact hin)
 have HMA:=qh hma
 have HNA:=qh hna
 subst hma
 subst hna
 obtain⟨ms,zpi⟩:∃x,x=S.moves.getD i [] :=⟨_,rfl⟩
 obtain⟨nx,zpj⟩:∃x,x=S.next.getD i [] :=⟨_,rfl⟩
 rw [<-zpi] at q0 hms
 rw [<-zpj] at r0 hns
 have hle:=HL.out i hin
 rw [<-zpi, <-zpj] at hle
 obtain⟨mn,hmn⟩:∃x,x=ms.length:=⟨_,rfl⟩
 rw [hle, <-hmn] at hns r0
 rw [<-hmn] at hms q0 hle
 have CR:Hid (∀y,Below W.heap.size W y->y.cell? ⟨g,0,none⟩=some (.slice a1 n c1)/\y.cell? ⟨g,1,none⟩=some (.slice (some ⟨mb,mof,none⟩) n c2)/\y.cell? ⟨g,2,none⟩=some (.slice (some ⟨nb,nof,none⟩) n c3)/\y.cell? ⟨mb,mof+i,none⟩=some (.slice ka mn kc)/\y.cell? ⟨nb,nof+i,none⟩=some (.slice la mn lc)):=λy hy=>⟨(CS.out y hy).1,(CS.out y hy).2.1,(CS.out y hy).2.2,zi hy _ _ q0,zi hy _ _ r0⟩
 have HMS:=qh hms
 have HNS:=qh hns
 have qP:=qh hmn
 have HLE:=qh hle
 have HME:=qh zpi
 have j3:=qh zpj
 obtain⟨_,_, -,hm63⟩:=zh.slice hms
 rw [<-hmn] at hm63
 clear q0 r0 hms hns hmn hle zpi zpj
 go_wp2_with fail
 go_loopg [6] mn (λgg s6 wr=>∃k:Nat,k<=mn/\Hid (gg=mn - k)/\s6= .int .i64 k/\Hid (∀j,j<k->nx.getD j 0≠(tt:Int))/\Hid (Below W.heap.size W wr))
 case atStart=>exact⟨0,Nat.zero_le _,rfl,rfl,λj hj=>absurd hj (Nat.not_lt_zero _),zH.out⟩
 case round=>
 obtain⟨k,hk,HG2,rfl,HNK,kD⟩:=hrel
 obtain⟨w2,rfl⟩:∃X:World,X=wr:=⟨_,rfl⟩
 obtain⟨z0,z1,z2,q0,r0⟩:=CR.out w2 kD.out
 by_cases hkl:k<mn
 rotate_left
 ·obtain rfl:k=mn:=by omega
  have zai:Hid (zhM S (tt:Int) (i+1)):=λj hj q hq=>by
   by_cases e:j=i
   ·subst e;rw [<-j3.out];exact HNK.out q (by rw [<-HLE.out,j3.out];exact hq)
   exact jR.out j (by omega) q hq
  go_wp2_with fail
  go_roundg (tt - (i+1))
  case measure=>rw [HG.out];omega
  case rel=>exact⟨i+1,by omega,rfl,by simp,zai.out,kD.out⟩
 have hkI:(k:Int)<(mn:Int):=by omega
 obtain⟨ib,io,hia, -,v0⟩:=xU.part (zh.below bD.stays HNS.out kD.out) k (by rw [HLE.out];exact hkl)
 have HIA:=qh hia
 subst hia
 obtain⟨v,hv⟩:∃v,v=nx.getD k 0:=⟨_,rfl⟩
 rw [<-hv] at v0
 by_cases hvt:v=(tt:Int)
 rotate_left
 ·have hne:(v==(tt:Int))=false:=beq_eq_false_iff_ne.2 hvt
  have hne2:decide (v=(tt:Int))=false:=decide_eq_false hvt
  have z5s:Hid (∀j,j<k+1->nx.getD j 0≠(tt:Int)):=λj hj=>by
   by_cases e:j=k
   ·subst e;rw [<-hv];exact hvt
   exact HNK.out j (by omega)
  clear hv
  go_wp2_with fail
  go_roundg (mn - (k+1))
  case measure=>rw [HG2.out];omega
  case rel=>exact⟨k+1,by omega,rfl,by simp,z5s.out,kD.out⟩
 subst hvt
 have uy:=zri (k:=k) jR.out (by rw [<-j3.out];exact HNK.out) (by rw [<-j3.out];exact hv.symm) (by rw [<-j3.out,HLE.out];exact hkl) (by rw [<-HME.out, <-qP.out];exact hkl) hlt (by rw [HN.out];exact hin)
 have htr:=zrl (by omega) uy
 rw [<-HME.out] at htr
 obtain⟨pb,pof,hka, -,m0,m1,m2⟩:=vZ.part HMS.out k (by rw [<-qP.out];exact hkl)
 have HKA:=qh hka
 subst hka
 obtain⟨x,hx⟩:∃x,x=ms.getD k default:=⟨_,rfl⟩
 rw [<-hx] at m0 m1 m2 htr
 obtain⟨xk,xt,xv⟩:=x
 simp only [] at m0 m1 m2
 obtain⟨TL,hTL⟩:∃l,l=(xQ S i (i:Int)).reverse:=⟨_,rfl⟩
 obtain⟨tn,htn⟩:∃q,q=TL.length:=⟨_,rfl⟩
 have ztW:=HIH.out i hlt
 rw [<-hTL, <-htn] at ztW
 have htl:tn<=i:=by rw [htn,hTL,List.length_reverse];exact zff S i _
 have hfin:(xQ S tt (tt:Int)).reverse=TL++ [⟨xk,xt,xv⟩] :=by rw [htr,List.reverse_cons, <-hTL]
 have yA:=qh hfin
 have HTN:=qh htn
 have zzd:=qh ztW
 have CV:Hid (∀y,Below w2.heap.size w2 y->(y.cell? ⟨g,0,none⟩=some (.slice a1 n c1)/\y.cell? ⟨g,1,none⟩=some (.slice (some ⟨mb,mof,none⟩) n c2)/\y.cell? ⟨g,2,none⟩=some (.slice (some ⟨nb,nof,none⟩) n c3))/\y.cell? ⟨mb,mof+i,none⟩=some (.slice (some ⟨pb,pof,none⟩) mn kc)/\y.cell? ⟨pb,pof+k*3,none⟩=some (.int .i64 xk)/\y.cell? ⟨pb,pof+k*3+1,none⟩=some (.int .i64 xt)/\y.cell? ⟨pb,pof+k*3+2,none⟩=some (.int .i64 xv)):=λy hy=>by
  obtain⟨e0,e1,e2,e3, -⟩:=CR.out y (zD kD.out hy)
  have hb:=zD kD.out hy
  exact⟨⟨e0,e1,e2⟩,e3,zi hb _ _ m0,zi hb _ _ m1,zi hb _ _ m2⟩
 have heq:((tt:Int)==(tt:Int))=true:=by simp
 clear hv uy htr m0 m1 m2 hx hTL htn ztW hfin
 go_upto_region 12 with fail
 clear z0 z1 z2 q0 r0 v0
 refine vD (S:=λx=>Below w2.heap.size w2 x) (Below.refl _ _).drew (λ_=> ?_)
 obtain⟨V1,hV1⟩:∃V1,V1=w2.drew:=⟨_,rfl⟩
 have hT0:Hid (Below w2.heap.size w2 V1):=by rw [hV1];exact(Below.refl _ _).drew
 rw [<-hV1]
 clear hV1
 refine zC 0 CV.out (hT0.out) ?_
 refine zC 1 zO (hT0.out) ?_
 refine zC 3 zO (hT0.out) ?_
 refine zC 4 CV.out (hT0.out) ?_
 refine zC 5 zO (hT0.out) ?_
 refine zC 6 zO (hT0.out) ?_
 refine zC 7 CV.out (hT0.out) ?_
 refine zC 8 zO (hT0.out) ?_
 refine zC 9 zO (hT0.out) ?_
 refine zC 10 CV.out (hT0.out) ?_
 refine wpAnyH_ready (rs:= [2,11]) (by kernel_rfl) (by simp) ?_
 refine AllReadyH.cons rfl (λK hK=> ?_) (AllReadyH.cons rfl (λK hK=> ?_) AllReadyH.nil)
 ·skip
  go_simp
  refine(zzd.out V1 (zD kD.out (hT0.out)) w2.heap.size (hT0.out).size).mono ?_
  rintro e Ya1 ⟨⟨qa,qc,rfl,ho⟩,hb⟩
  have z2C:=qh ho
  have zze:=qh (zD (hT0.out) hb)
  clear ho hb
  refine hK.out _ _ zze.out (λ_=> ?_)
  clear hK K
  refine yj 11 rfl (λK hK=> ?_)
  go_simp
  have hz:=qJ Ya1 [.int .i64 xk, .int .i64 xt, .int .i64 xv] 70
  have hb:=(Below.refl Ya1.heap.size Ya1).alloc (Nat.le_refl _) (.cells ([.int .i64 xk, .int .i64 xt, .int .i64 xv] :List Value).toArray 70)
  have zpk:=qh (xS z2C.out hb)
  have zl3:=qh (zD (zze.out) hb)
  clear hb
  refine hK.out _ _ zl3.out (λ_=> ?_)
  obtain⟨gz,hgz⟩:∃g,g=Ya1.heap.size:=⟨_,rfl⟩
  rw [<-hgz] at hz ⊢
  clear hgz
  generalize World.alloc Ya1 _=Ya3 at hz zpk zl3 ⊢
  have z2D:=qh hz
  clear hz
  clear hK K
  refine yj 12 rfl (λK hK=> ?_)
  refine zJ Ya3 (by rfl) (.tmp 73) (.tmp 82) 32 rfl 70 (.agg #[.int .i64 0, .int .i64 0, .int .i64 0]) 3 24 Tryz.underlying32 wQ rfl (by decide) w2.heap.size (.slice qa tn qc) tn (zo zq.cells TL) (by rfl) zpk.out ⟨gz,0,none⟩ 1 1 [.int .i64 xk, .int .i64 xt, .int .i64 xv] (by rfl) rfl z2D.out (by simp [Value.oneCell']) (by unfold maxLen;omega) (by omega) (zl3.out).size ?_
  intro ja jc Y9 f1 f2 f3 f4 f5
  have HE:=qh f1
  have hs9:Below w2.heap.size w2 Y9:=(zl3.out).trans (f4.below (zl3.out).size (λk hk=>(zpk.out.lt k hk).1))
  have HS9:=qh hs9
  clear f1 f2 f3 f4 f5 hs9
  refine hK.out _ _ HS9.out (λ_=> ?_)
  clear hK K
  refine zC 13 zO (HS9.out) ?_
  refine xP ?_
  go_wp2_with fail
  go_ret
  refine⟨_,rfl, ?_,HB.out.trans ((zD kD.out HS9.out).mono HB.out.size)⟩
  rw [yA.out,List.length_append, <-HTN.out,show zo zq.cells (TL++ [(⟨xk,xt,xv⟩:zq)])=zo zq.cells TL++ [.int .i64 xk, .int .i64 xt, .int .i64 xv] by simp [zo,zq.cells]]
  exact yU HE.out (Nat.le_trans HB.out.size kD.out.size)
 skip
 go_simp
 have hz:=qJ V1 [.int .i64 xk, .int .i64 xt, .int .i64 xv] 70
 have hb:=(Below.refl V1.heap.size V1).alloc (Nat.le_refl _) (.cells ([.int .i64 xk, .int .i64 xt, .int .i64 xv] :List Value).toArray 70)
 have zl5:=qh (zD (hT0.out) hb)
 clear hb
 refine hK.out _ _ zl5.out (λ_=> ?_)
 obtain⟨gz,hgz⟩:∃g,g=V1.heap.size:=⟨_,rfl⟩
 rw [<-hgz] at hz ⊢
 clear hgz
 generalize World.alloc V1 _=Ya5 at hz zl5 ⊢
 have z2E:=qh hz
 clear hz
 clear hK K
 refine yj 2 rfl (λK hK=> ?_)
 go_simp
 refine(zzd.out Ya5 (zD kD.out (zl5.out)) w2.heap.size (zl5.out).size).mono ?_
 rintro e Ya7 ⟨⟨qa,qc,rfl,ho⟩,hb⟩
 have zwB:=qh ho
 have z2F:Hid (∀(j:Nat) (u:Value),([.int .i64 xk, .int .i64 xt, .int .i64 xv] :List Value)[j]? =some u->Ya7.cell? ((⟨gz,0,none⟩:Addr).add j)=some u):=λj u hj=>zi hb _ _ (z2E.out j u hj)
 have zpl:=qh (zD (zl5.out) hb)
 clear ho hb
 refine hK.out _ _ zpl.out (λ_=> ?_)
 clear hK K
 refine yj 12 rfl (λK hK=> ?_)
 refine zJ Ya7 (by rfl) (.tmp 73) (.tmp 82) 32 rfl 70 (.agg #[.int .i64 0, .int .i64 0, .int .i64 0]) 3 24 Tryz.underlying32 wQ rfl (by decide) w2.heap.size (.slice qa tn qc) tn (zo zq.cells TL) (by rfl) zwB.out ⟨gz,0,none⟩ 1 1 [.int .i64 xk, .int .i64 xt, .int .i64 xv] (by rfl) rfl z2F.out (by simp [Value.oneCell']) (by unfold maxLen;omega) (by omega) (zpl.out).size ?_
 intro ja jc Y9 f1 f2 f3 f4 f5
 have HE:=qh f1
 have hs9:Below w2.heap.size w2 Y9:=(zpl.out).trans (f4.below (zpl.out).size (λk hk=>(zwB.out.lt k hk).1))
 have HS9:=qh hs9
 clear f1 f2 f3 f4 f5 hs9
 refine hK.out _ _ HS9.out (λ_=> ?_)
 clear hK K
 refine zC 13 zO (HS9.out) ?_
 refine xP ?_
 go_wp2_with fail
 go_ret
 refine⟨_,rfl, ?_,HB.out.trans ((zD kD.out HS9.out).mono HB.out.size)⟩
 rw [yA.out,List.length_append, <-HTN.out,show zo zq.cells (TL++ [(⟨xk,xt,xv⟩:zq)])=zo zq.cells TL++ [.int .i64 xk, .int .i64 xt, .int .i64 xv] by simp [zo,zq.cells]]
 exact yU HE.out (Nat.le_trans HB.out.size kD.out.size)
theorem zgs (w:World) (c:zI) (cv:Value) (d:Nat) (hc:yJ d w cv c.threads) (m:zG) (room:Int):Calls Tryz.prog 10 #[yO c cv,xO m, .int .i64 room] w (zhO w (qU c m room d)):=by
 obtain⟨ca,cc,rfl, -⟩:=zh.slice hc
 have hex:=λy hy=>zgt y c (.slice ca c.threads.length cc) d hy m room
 have hsc:=λy hy=>zgt y c (.slice ca c.threads.length cc) d hy scM room
 have hrf:=zwC c m room d
 have hf1:∀S,yT c m room d=(S,0)->zeb c m S:=λS h=>zkO h
 have hf2:∀S,yT c scM room d=(S,0)->zeb c scM S:=λS h=>zkO h
 obtain⟨R,hR⟩:∃R,R=qU c m room d:=⟨_,rfl⟩
 rw [<-hR] at hrf ⊢
 clear hR
 obtain⟨E1,hE1⟩:∃E,E=yT c m room d:=⟨_,rfl⟩
 obtain⟨E2,hE2⟩:∃E,E=yT c scM room d:=⟨_,rfl⟩
 rw [<-hE1] at hex hrf hf1
 rw [<-hE2] at hsc hrf hf2
 clear hE1 hE2
 obtain⟨S,e1⟩:=E1
 obtain⟨T,e2⟩:=E2
 dsimp only at hrf
 have hf3:e1=0->zeb c m S:=λh=>hf1 S (by rw [h])
 have hf4:e2=0->zeb c scM T:=λh=>hf2 T (by rw [h])
 clear hf1 hf2
 obtain⟨C,hC⟩:∃C,C=c:=⟨_,rfl⟩
 obtain⟨M,hM⟩:∃M,M=m:=⟨_,rfl⟩
 rw [<-hC] at hf4
 rw [<-hC, <-hM] at hf3
 obtain⟨vars,dom,cs⟩:=c
 obtain⟨mo,bo⟩:=m
 unfold yO xO at hex hsc
 unfold scM at hsc
 unfold yO xO
 dsimp only at hc hex hsc ⊢
 clear hC hM
 generalize cs.length=cn at hc hex hsc ⊢
 obtain⟨n1,hn1⟩:∃n,n=S.states.length:=⟨_,rfl⟩
 obtain⟨n2,hn2⟩:∃n,n=S.moves.length:=⟨_,rfl⟩
 obtain⟨n3,hn3⟩:∃n,n=S.next.length:=⟨_,rfl⟩
 obtain⟨k1,hk1⟩:∃n,n=T.states.length:=⟨_,rfl⟩
 obtain⟨k2,hk2⟩:∃n,n=T.moves.length:=⟨_,rfl⟩
 obtain⟨k3,hk3⟩:∃n,n=T.next.length:=⟨_,rfl⟩
 have HX1:Hid (∀y,yJ d y (.slice ca cn cc) cs->Calls Tryz.prog 14 #[.agg #[.int .i64 vars, .int .i64 dom, .slice ca cn cc], .agg #[.int .i64 mo, .int .i64 bo], .int .i64 room] y (zhP S e1 n1 n2 n3 y)):=λy hy=>(hex y hy).mono λ_ _ h=>zec rfl hn1 hn2 hn3 h
 have HX2:Hid (∀y,yJ d y (.slice ca cn cc) cs->Calls Tryz.prog 14 #[.agg #[.int .i64 vars, .int .i64 dom, .slice ca cn cc], .agg #[.int .i64 0, .int .i64 1], .int .i64 room] y (zhP T e2 k1 k2 k3 y)):=λy hy=>(hsc y hy).mono λ_ _ h=>zec rfl hk1 hk2 hk3 h
 obtain⟨W,hW⟩:∃W,W=(w.alloc (.cells #[.int .i64 vars, .int .i64 dom, .slice ca cn cc] 26)).alloc (.cells #[.int .i64 mo, .int .i64 bo] 29):=⟨_,rfl⟩
 have h1:W.heap[w.heap.size]? =some (.cells #[.int .i64 vars, .int .i64 dom, .slice ca cn cc] 26 (0,0)):=by rw [hW];exact xA _ _ _
 have h2:W.heap[w.heap.size+1]? =some (.cells #[.int .i64 mo, .int .i64 bo] 29 (0,0)):=by rw [hW];exact xg _ _ _
 have hB:Below w.heap.size w W:=by rw [hW];exact xB _ _ _
 have hcw:=zh.below (qo.stays d) hc hB
 have HW:=qh hW
 have H1:=qh h1
 have H2:=qh h2
 have HB:=qh hB
 have HCW:=qh hcw
 have HRF:=qh hrf
 have HF3:=qh hf3
 have HF4:=qh hf4
 have wJ:=qh hn1
 have HN2:=qh hn2
 have HN3:=qh hn3
 have HK1:=qh hk1
 have HK2:=qh hk2
 have HK3:=qh hk3
 clear hc hex hsc hrf hf3 hf4 hW h1 h2 hB hcw hn1 hn2 hn3 hk1 hk2 hk3
 go_enter Tryz.func10,Tryz.ntmps10
 go_upto_region 1 with fail
 rw [<-HW.out]
 clear HW
 obtain⟨gx,hgx⟩:∃g,g=w.heap.size:=⟨_,rfl⟩
 rw [<-hgx] at H1 H2 ⊢
 clear hgx
 have CX:Hid (∀y,Below W.heap.size W y->(y.cell? ⟨gx,0,none⟩=some (.int .i64 vars)/\y.cell? ⟨gx,1,none⟩=some (.int .i64 dom)/\y.cell? ⟨gx,2,none⟩=some (.slice ca cn cc))/\y.cell? ⟨gx+1,0,none⟩=some (.int .i64 mo)/\y.cell? ⟨gx+1,1,none⟩=some (.int .i64 bo)):=λy hy=>⟨⟨zi hy _ _ (ze H1.out 0),zi hy _ _ (ze H1.out 1),zi hy _ _ (ze H1.out 2)⟩,zi hy _ _ (ze H2.out 0),zi hy _ _ (ze H2.out 1)⟩
 have CR:Hid (∀y,Below W.heap.size W y->yJ d y (.slice ca cn cc) cs):=λy hy=>zh.below (qo.stays d) HCW.out hy
 clear H1 H2 HCW
 obtain⟨⟨z0,z1,z2⟩,x0,x1⟩:=CX.out W (Below.refl _ _)
 go_upto_region 2 with(go_at_call 14;go_must(refine(HX1.out W (CR.out W (Below.refl _ _))).mono ?_);rintro e W1 ⟨⟨a1,a2,a3,c1,c2,c3,rfl,hs⟩,hb⟩;(have HSP:=qh hs);(have yQ:=qh hb);clear hs hb)
 have hz:=yh W1 (.cells #[.slice a1 n1 c1, .slice a2 n2 c2, .slice a3 n3 c3] 49)
 have ha:=(Below.refl W1.heap.size W1).alloc (Nat.le_refl _) (.cells #[.slice a1 n1 c1, .slice a2 n2 c2, .slice a3 n3 c3] 49)
 have HS:=qh (HSP.out.below ha)
 have HR1:=qh (zD yQ.out ha)
 have HZ:=qh hz
 clear hz ha yQ HSP HX1 z0 z1 z2 x0 x1
 generalize World.alloc W1 _=X1 at HZ HS HR1 ⊢
 generalize W1.heap.size=gs at HZ ⊢
 by_cases he1:e1=0
 rotate_left
 ·have hr:=HRF.out.one he1
  have hne:(e1 !=0)=true:=by simpa using he1
  have zR:=qh (pQ (b:=false) (k:=e1) hr (HB.out.trans (HR1.out.mono HB.out.size)))
  clear hr
  go_wp2_with fail
  go_ret3
  exact zR.out
 subst he1
 have CS:Hid (∀y,Below X1.heap.size X1 y->y.cell? ⟨gs,0,none⟩=some (.slice a1 n1 c1)/\y.cell? ⟨gs,1,none⟩=some (.slice a2 n2 c2)/\y.cell? ⟨gs,2,none⟩=some (.slice a3 n3 c3)):=λy hy=>⟨zi hy _ _ (ze HZ.out 0),zi hy _ _ (ze HZ.out 1),zi hy _ _ (ze HZ.out 2)⟩
 clear HZ
 obtain⟨⟨z0,z1,z2⟩, -, -⟩:=CX.out X1 HR1.out
 have HRW:=qh (CR.out X1 HR1.out)
 go_upto_region 5 with(go_at_call 14;go_must(refine(HX2.out X1 HRW.out).mono ?_);rintro e W4 ⟨⟨b1,b2,b3,d1,d2,d3,rfl,hs⟩,hb⟩;(have HSP:=qh hs);(have yQ:=qh hb);clear hs hb)
 have hz:=yh W4 (.cells #[.slice b1 k1 d1, .slice b2 k2 d2, .slice b3 k3 d3] 49)
 have ha:=(Below.refl W4.heap.size W4).alloc (Nat.le_refl _) (.cells #[.slice b1 k1 d1, .slice b2 k2 d2, .slice b3 k3 d3] 49)
 have HT:=qh (HSP.out.below ha)
 have HR4:=qh (zD yQ.out ha)
 have HZ:=qh hz
 clear hz ha yQ HSP HX2 HRW z0 z1 z2
 generalize World.alloc W4 _=X4 at HZ HT HR4 ⊢
 generalize W4.heap.size=gt at HZ ⊢
 have yZ:=qh (HB.out.trans ((zD HR1.out HR4.out).mono HB.out.size))
 by_cases he2:e2=0
 rotate_left
 ·have hr:=HRF.out.two rfl he2
  have hne:(e2 !=0)=true:=by simpa using he2
  have zR:=qh (pQ (b:=false) (k:=e2) hr yZ.out)
  clear hr
  go_wp2_with fail
  go_ret3
  exact zR.out
 subst he2
 have F1:=HF3.out (by first|rfl|trivial)
 have F2:=HF4.out (by first|rfl|trivial)
 have hodd:=HRF.out.odd rfl rfl
 have hnone:=HRF.out.none rfl rfl
 clear HF3 HF4 HRF
 obtain rfl:n2=n1:=by rw [HN2.out,wJ.out];exact F1.mvs
 obtain rfl:n3=n2:=by rw [HN3.out,wJ.out];exact F1.nxt
 obtain⟨n,rfl⟩:∃n,n=n3:=⟨_,rfl⟩
 obtain rfl:k2=k1:=by rw [HK2.out,HK1.out];exact F2.mvs
 obtain rfl:k3=k2:=by rw [HK3.out,HK1.out];exact F2.nxt
 obtain⟨k,rfl⟩:∃n,n=k3:=⟨_,rfl⟩
 clear HN2 HN3 HK2 HK3
 have hpn:0<n:=by rw [wJ.out];exact F1.pos
 have hn63:n<=100000:=by rw [wJ.out];exact F1.few
 have z5t:k<=100000:=by rw [HK1.out];exact F2.few
 have hpk:0<k:=by rw [HK1.out];exact F2.pos
 have CT:Hid (∀y,Below X4.heap.size X4 y->(y.cell? ⟨gs,0,none⟩=some (.slice a1 n c1)/\y.cell? ⟨gs,1,none⟩=some (.slice a2 n c2)/\y.cell? ⟨gs,2,none⟩=some (.slice a3 n c3))/\y.cell? ⟨gt,0,none⟩=some (.slice b1 k d1)/\y.cell? ⟨gt,1,none⟩=some (.slice b2 k d2)/\y.cell? ⟨gt,2,none⟩=some (.slice b3 k d3)):=λy hy=>⟨CS.out y (zD HR4.out hy),zi hy _ _ (ze HZ.out 0),zi hy _ _ (ze HZ.out 1),zi hy _ _ (ze HZ.out 2)⟩
 have HS4:=qh (HS.out.below HR4.out)
 clear HZ CS HS
 obtain⟨sb,so,rfl,hps⟩:=zjo HS4.out.1 (by rw [<-wJ.out];exact hpn)
 rw [<-wJ.out] at hps
 have HPS:=qh hps
 clear hps
 rw [<-wJ.out] at hodd hnone
 have zl8:=qh hodd
 have zhS:=qh hnone
 have HF1:=qh F1
 have HF2:=qh F2
 clear hodd hnone F1 F2
 have HTR:Hid (∀i,i<n->∀y,Below X4.heap.size X4 y->Calls Tryz.prog 24 #[.agg #[.slice (some ⟨sb,so,none⟩) n c1, .slice a2 n c2, .slice a3 n c3], .int .i64 (i:Int)] y (zcx y (xQ S i (i:Int)).reverse)):=λi hi y hy=>zph S HF1.out.mvs HF1.out.nxt HF1.out.lens (Nat.le_trans HF1.out.few (by omega)) i (by rw [<-wJ.out];exact hi) y _ _ _ (HS4.out.below hy)
 have HTS:Hid (∀y,Below X4.heap.size X4 y->j6 y (.slice b1 k d1) T.states):=λy hy=>zh.below xV.stays HT.out.1 hy
 go_wp2_with fail
 go_loopg [13] n (λgg s13 wr=>∃i:Nat,i<=n/\Hid (gg=n - i)/\s13= .int .i64 i/\Hid (∀j,j<i->za1 T.states (S.states.getD j default)=false)/\Hid (Below X4.heap.size X4 wr))
 case atStart=>exact⟨0,Nat.zero_le _,rfl,rfl,λj hj=>absurd hj (Nat.not_lt_zero _),Below.refl _ _⟩
 case round=>
 obtain⟨i,hi,HG,rfl,jR,zH⟩:=hrel
 obtain⟨wo,rfl⟩:∃X:World,X=wr:=⟨_,rfl⟩
 obtain⟨⟨p0,p1,p2⟩,t0,t1,t2⟩:=CT.out wo zH.out
 by_cases hlt:i<n
 rotate_left
 ·obtain rfl:i=n:=by omega
  have zR:=qh (pQ (b:=true) (k:=0) (zhS.out jR.out) (yZ.out.trans (zH.out.mono yZ.out.size)))
  go_wp2_with fail
  go_ret3
  exact zR.out
 have qA:(i:Int)<(n:Int):=by omega
 obtain⟨s,hs⟩:∃s,s=S.states.getD i default:=⟨_,rfl⟩
 have hps:=HPS.out i hlt
 rw [<-hs] at hps
 obtain⟨bs,hbs⟩:∃b,b=s.bad:=⟨_,rfl⟩
 rw [<-hbs] at hps
 obtain⟨ua,ub,un,uc,uk,uf,hu⟩:=hps
 have HU:=qh hu
 have HSE:=qh hs
 have HBS:=qh hbs
 clear hu hs hbs
 have HCL:Hid (∀y,Below X4.heap.size X4 y->Calls Tryz.prog 15 #[.agg #[.slice ua un uc, .slice ub uk uf, .bool bs]] y λe w'=>e= .returned (.bool (bN s))/\Below y.heap.size y w'):=λy hy=>by
  rw [HBS.out]
  exact zl9 y s _ _ (HU.out y hy).2.2.2
 have HHA:Hid (∀y,Below X4.heap.size X4 y->Calls Tryz.prog 23 #[.slice b1 k d1, .agg #[.slice ua un uc, .slice ub uk uf, .bool bs]] y λe w'=>e= .returned (.bool (zdl T.states s))/\Below y.heap.size y w'):=λy hy=>zrs y _ T.states (HTS.out y hy) s _ _ _ _ _ _ _ (HU.out y hy).2.2.2
 have CC:Hid (∀y,Below wo.heap.size wo y->((y.cell? ⟨gs,0,none⟩=some (.slice (some ⟨sb,so,none⟩) n c1)/\y.cell? ⟨gs,1,none⟩=some (.slice a2 n c2)/\y.cell? ⟨gs,2,none⟩=some (.slice a3 n c3))/\y.cell? ⟨gt,0,none⟩=some (.slice b1 k d1)/\y.cell? ⟨gt,1,none⟩=some (.slice b2 k d2)/\y.cell? ⟨gt,2,none⟩=some (.slice b3 k d3))/\y.cell? ⟨sb,so+i*3,none⟩=some (.slice ua un uc)/\y.cell? ⟨sb,so+i*3+1,none⟩=some (.slice ub uk uf)/\y.cell? ⟨sb,so+i*3+2,none⟩=some (.bool bs)):=λy hy=>by
  have hb:=zD zH.out hy
  exact⟨CT.out y hb,(HU.out y hb).1,(HU.out y hb).2.1,(HU.out y hb).2.2.1⟩
 obtain⟨od,hod⟩:∃b,b=za1 T.states s:=⟨_,rfl⟩
 have HOD:=qh hod
 clear hod
 go_upto_region 10 with fail
 clear p0 p1 p2 t0 t1 t2
 go_cut [57] (λs57 w'=>s57= .bool od/\Hid (Below wo.heap.size wo w'))
 case first=>
  obtain⟨cl,hcl⟩:∃b,b=bN s:=⟨_,rfl⟩
  obtain⟨mt,hmt⟩:∃b,b=zdl T.states s:=⟨_,rfl⟩
  have hod:=HOD.out
  unfold za1 at hod
  rw [<-hcl, <-hmt] at hod
  have ztX:=HCL.out
  have ztY:=HHA.out
  rw [<-hcl] at ztX
  rw [<-hmt] at ztY
  have zzh:=qh ztX
  have z5u:=qh ztY
  subst hod
  clear hcl hmt ztX ztY HCL HHA HOD
  cases cl with
  |true=>
   refine vD (S:=λx=>Below wo.heap.size wo x) ((Below.refl _ _).drew) (λhH=> ?_)
   refine zw 0 CC.out ?_
   refine zw 1 CC.out ?_
   refine zw 2 CC.out ?_
   refine zw 3 CC.out ?_
   refine zw 4 CC.out ?_
   refine yj 5 rfl (λK hK=> ?_)
   go_simp
   refine(zzh.out wo.drew (zD zH.out hH)).mono ?_
   rintro e hw5 ⟨rfl,hb⟩
   have zbh:Below wo.heap.size wo hw5:=zD hH hb
   refine hK.out _ _ zbh (λ_=> ?_)
   clear hK K hb hH
   refine zw 6 CC.out ?_
   refine zw 7 CC.out ?_
   refine zw 8 CC.out ?_
   refine zw 9 CC.out ?_
   refine zw 10 CC.out ?_
   refine zw 11 CC.out ?_
   refine zw 12 CC.out ?_
   refine zw 13 CC.out ?_
   refine yj 14 rfl (λK hK=> ?_)
   go_simp
   refine(z5u.out hw5 (zD zH.out zbh)).mono ?_
   rintro e zpm ⟨rfl,hb⟩
   have zed:Below wo.heap.size wo zpm:=zD zbh hb
   refine hK.out _ _ zed (λ_=> ?_)
   clear hK K hb zbh
   refine zw 15 CC.out ?_
   refine zw 16 CC.out ?_
   refine xP ?_
   go_wp2_with fail
   go_meet
   case rel=>exact⟨by simp,zed⟩
  |false=>
  refine vD (S:=λx=>Below wo.heap.size wo x) ((Below.refl _ _).drew) (λhI=> ?_)
  refine zw 0 CC.out ?_
  refine zw 1 CC.out ?_
  refine zw 2 CC.out ?_
  refine zw 3 CC.out ?_
  refine zw 4 CC.out ?_
  refine yj 5 rfl (λK hK=> ?_)
  go_simp
  refine(zzh.out wo.drew (zD zH.out hI)).mono ?_
  rintro e iw5 ⟨rfl,hb⟩
  have zzi:Below wo.heap.size wo iw5:=zD hI hb
  refine hK.out _ _ zzi (λ_=> ?_)
  clear hK K hb hI
  refine zw 6 CC.out ?_
  refine qwo 7 (by assumption) ?_
  refine qwo 8 (by assumption) ?_
  refine qwo 9 (by assumption) ?_
  refine qwo 10 (by assumption) ?_
  refine qwo 11 (by assumption) ?_
  refine qwo 12 (by assumption) ?_
  refine qwo 13 (by assumption) ?_
  refine qwo 14 (by assumption) ?_
  refine qwo 15 (by assumption) ?_
  refine zw 16 CC.out ?_
  refine xP ?_
  go_wp2_with fail
  go_meet
  case rel=>exact⟨by simp,zzi⟩
 case rest=>
 obtain⟨rfl,z5v⟩:=hcut
 obtain⟨w5,rfl⟩:∃X:World,X=wc:=⟨_,rfl⟩
 have jQ:=qh (zD zH.out z5v.out)
 clear HCL HHA CC
 cases od with
 |true=>
  have hr:=zl8.out i hlt jR.out (by rw [<-HSE.out];exact HOD.out.symm)
  have HR:=qh hr
  obtain⟨⟨p0,p1,p2⟩, -⟩:=CT.out w5 jQ.out
  have HTI:=qh (HTR.out i hlt w5 jQ.out)
  clear hr zhS zl8
  go_wp2_with(go_at_call 24;go_must(refine(HTI.out).mono ?_);rintro e w6 ⟨tv,rfl,ho,hb⟩;(obtain⟨qa,qc,rfl, -⟩:=xu ho);(have hom:=zaz ho);(have HO:=qh hom);clear hom;(have HB6:=qh hb);clear ho hb)
  go_ret3
  rw [HR.out]
  exact⟨⟨qa,_,qc,rfl,by have h:=HO.out;rw [List.length_reverse] at h;exact h⟩,yZ.out.trans ((zD jQ.out HB6.out).mono yZ.out.size)⟩
 |false=>
 have zai:Hid (∀j,j<i+1->za1 T.states (S.states.getD j default)=false):=λj hj=>by
  by_cases e:j=i
  ·subst e;rw [<-HSE.out];exact HOD.out.symm
  exact jR.out j (by omega)
 go_wp2_with fail
 go_roundg (n - (i+1))
 case measure=>rw [HG.out];omega
 case rel=>exact⟨i+1,by omega,rfl,by simp,zai.out,jQ.out⟩
