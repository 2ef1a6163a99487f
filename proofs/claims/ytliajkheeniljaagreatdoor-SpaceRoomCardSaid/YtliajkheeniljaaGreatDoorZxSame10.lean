/- Steps. -/
import Derived.Test.YtliajkheeniljaaGreatDoorZxStart
set_option linter.all false
namespace Go.Proofs.YtliajkheeniljaaGreatDoor
open Go.RowKit
set_option maxRecDepth 100000
set_option maxHeartbeats 16000000
theorem zgK (w:World) (av bv:Value) (l:List zu) (ha:qV w av l) (hb:qV w bv l):Calls Tryz.prog 38 #[av,bv] w λe w'=>e= .returned (.bool true)/\Below w.heap.size w w':=by
 obtain⟨aa,ac,rfl,hal⟩:=zh.slice ha
 obtain⟨ba,bc,rfl, -⟩:=zh.slice hb
 obtain⟨n,hn⟩:∃n,n=l.length:=⟨_,rfl⟩
 rw [<-hn] at ha hb hal ⊢
 have HA:=qh ha
 have HB:=qh hb
 have HN:=qh hn
 clear ha hb hn
 go_enter Tryz.func38,Tryz.ntmps38
 go_wp2_with fail
 go_loopg [5] n (λgg s5 wr=>∃i:Nat,i<=n/\Hid (gg=n - i)/\s5= .int .i64 i/\Hid (Below w.heap.size w wr))
 case atStart=>exact⟨0,Nat.zero_le _,rfl,rfl,Below.refl _ _⟩
 case round=>
 obtain⟨i,hi,HG,rfl,zN⟩:=hrel
 by_cases hlt:i<n
 rotate_left
 ·obtain rfl:n=i:=by omega
  go_wp2_with fail
  go_ret
  exact⟨rfl,zN.out⟩
 have qG:(i:Int)<(n:Int):=by omega
 obtain⟨eb,eo,zZ, -,x0,x1,x2⟩:=qV.part HA.out i (by rw [<-HN.out];exact hlt)
 subst zZ
 obtain⟨fb,fo,hfa, -,y0,y1,y2⟩:=qV.part HB.out i (by rw [<-HN.out];exact hlt)
 subst hfa
 generalize l.getD i default=x at x0 x1 x2 y0 y1 y2
 obtain⟨k,t,v⟩:=x
 simp only [] at x0 x1 x2 y0 y1 y2
 replace x0:=zi zN.out _ _ x0
 replace x1:=zi zN.out _ _ x1
 replace x2:=zi zN.out _ _ x2
 replace y0:=zi zN.out _ _ y0
 replace y1:=zi zN.out _ _ y1
 replace y2:=zi zN.out _ _ y2
 have CC:Hid (∀y,Below wr.heap.size wr y->y.cell? ⟨eb,eo+i*3,none⟩=some (.int .i64 k)/\y.cell? ⟨eb,eo+i*3+1,none⟩=some (.int .i64 t)/\y.cell? ⟨eb,eo+i*3+2,none⟩=some (.int .i64 v)/\y.cell? ⟨fb,fo+i*3,none⟩=some (.int .i64 k)/\y.cell? ⟨fb,fo+i*3+1,none⟩=some (.int .i64 t)/\y.cell? ⟨fb,fo+i*3+2,none⟩=some (.int .i64 v)):=λy hy=>
  ⟨zi hy _ _ x0,zi hy _ _ x1,zi hy _ _ x2,zi hy _ _ y0,zi hy _ _ y1,zi hy _ _ y2⟩
 clear x0 x1 x2 y0 y1 y2
 go_upto_region 6 with fail
 refine qM (S:=λx=>Below wr.heap.size wr x) ((Below.refl _ _).drew) (λhH=> ?_)
 refine zl 0 CC.out ?_
 refine zl 1 CC.out ?_
 refine zl 2 CC.out ?_
 refine zl 3 CC.out ?_
 refine zl 4 CC.out ?_
 refine zl 5 CC.out ?_
 refine zl 6 CC.out ?_
 refine zl 7 CC.out ?_
 refine zl 8 CC.out ?_
 refine xE ?_
 go_wp2_with fail
 go_roundg (n - (i+1))
 case measure=>rw [HG.out];omega
 case rel=>exact⟨i+1,by omega,rfl,by simp,zB (a:=w) zN.out (hH)⟩
theorem zaf {w:World} {a:Option Addr} {n cap:Nat} {l:List (List zu)} (h:zh wG 1 w (.slice a n cap) l) (j:Nat) (hj:j<l.length):∃b off ka kc,a=some ⟨b,off,none⟩/\b<w.heap.size/\w.cell? ⟨b,off+j,none⟩=some (.slice ka (l.getD j []).length kc)/\qV w (.slice ka (l.getD j []).length kc) (l.getD j []):=by
 obtain⟨b,off,cs,h1,h2,h3,h4,v,h5,h6⟩:=zh.part h j hj
 subst h5
 obtain⟨ka,kc,rfl, -⟩:=zh.slice h6
 have:=h4 0 (by omega)
 rw [Nat.mul_one,Nat.add_zero] at this
 exact⟨b,off,ka,kc,h1,h2,this,h6⟩
theorem zaF {w:World} {a:Option Addr} {n cap:Nat} {l:List (List Int)} (h:zh uQ 1 w (.slice a n cap) l) (j:Nat) (hj:j<l.length):∃b off ka kc,a=some ⟨b,off,none⟩/\b<w.heap.size/\w.cell? ⟨b,off+j,none⟩=some (.slice ka (l.getD j []).length kc)/\xC w (.slice ka (l.getD j []).length kc) (l.getD j []):=by
 obtain⟨b,off,cs,h1,h2,h3,h4,v,h5,h6⟩:=zh.part h j hj
 subst h5
 obtain⟨ka,kc,rfl, -⟩:=zh.slice h6
 have:=h4 0 (by omega)
 rw [Nat.mul_one,Nat.add_zero] at this
 exact⟨b,off,ka,kc,h1,h2,this,h6⟩
def bB (sv mv nv:Value):Value:= .agg #[sv,mv,nv]
theorem zpT (w:World) (S:yM) (sa ma na sb mb nb:Value) (ha:qK w S sa ma na) (hb:qK w S sb mb nb):Calls Tryz.prog 30 #[bB sa ma na,bB sb mb nb] w λe w'=>e= .returned (.bool true)/\Below w.heap.size w w':=by
 obtain⟨h1,h2,h3⟩:=ha
 obtain⟨k1,k2,k3⟩:=hb
 obtain⟨a1,c1,rfl,hl1⟩:=zh.slice h1
 obtain⟨a2,c2,rfl,hl2⟩:=zh.slice h2
 obtain⟨a3,c3,rfl,hl3⟩:=zh.slice h3
 obtain⟨b1,d1,rfl, -⟩:=zh.slice k1
 obtain⟨b2,d2,rfl, -⟩:=zh.slice k2
 obtain⟨b3,d3,rfl, -⟩:=zh.slice k3
 obtain⟨sl,ml,nl⟩:=S
 simp only [] at h1 h2 h3 k1 k2 k3 hl1 hl2 hl3 ⊢
 obtain⟨n1,hn1⟩:∃n,n=sl.length:=⟨_,rfl⟩
 obtain⟨n2,hn2⟩:∃n,n=ml.length:=⟨_,rfl⟩
 obtain⟨n3,hn3⟩:∃n,n=nl.length:=⟨_,rfl⟩
 rw [<-hn1] at h1 k1 hl1 ⊢
 rw [<-hn2] at h2 k2 hl2 ⊢
 rw [<-hn3] at h3 k3 hl3 ⊢
 unfold bB
 have hB:=yU w (.cells #[.slice a1 n1 c1, .slice a2 n2 c2, .slice a3 n3 c3] 71) (.cells #[.slice b1 n1 d1, .slice b2 n2 d2, .slice b3 n3 d3] 71)
 have H1:=qh (xP w (.cells #[.slice a1 n1 c1, .slice a2 n2 c2, .slice a3 n3 c3] 71) (.cells #[.slice b1 n1 d1, .slice b2 n2 d2, .slice b3 n3 d3] 71))
 have H2:=qh (xB w (.cells #[.slice a1 n1 c1, .slice a2 n2 c2, .slice a3 n3 c3] 71) (.cells #[.slice b1 n1 d1, .slice b2 n2 d2, .slice b3 n3 d3] 71))
 have HA1:=qh (zh.below qN.stays h1 hB)
 have HA2:=qh (zh.below wG.stays h2 hB)
 have HA3:=qh (zh.below uQ.stays h3 hB)
 have HK1:=qh (zh.below qN.stays k1 hB)
 have HK2:=qh (zh.below wG.stays k2 hB)
 have HK3:=qh (zh.below uQ.stays k3 hB)
 have HB:=qh hB
 have gI:=qh hn1
 have HN2:=qh hn2
 have HN3:=qh hn3
 clear h1 h2 h3 k1 k2 k3 hB hn1 hn2 hn3
 go_enter Tryz.func30,Tryz.ntmps30
 go_upto_region 1 with fail
 generalize World.alloc (World.alloc w _) _=W at HB H1 H2 HA1 HA2 HA3 HK1 HK2 HK3 ⊢
 obtain⟨gx,hgx⟩:∃gx,gx=w.heap.size:=⟨_,rfl⟩
 rw [<-hgx] at H1 H2 ⊢
 have yX:=qh hgx
 clear hgx
 have HC:Hid (∀y,Below W.heap.size W y->(y.cell? ⟨gx,0,none⟩=some (.slice a1 n1 c1)/\y.cell? ⟨gx,1,none⟩=some (.slice a2 n2 c2)/\y.cell? ⟨gx,2,none⟩=some (.slice a3 n3 c3))/\y.cell? ⟨gx+1,0,none⟩=some (.slice b1 n1 d1)/\y.cell? ⟨gx+1,1,none⟩=some (.slice b2 n2 d2)/\y.cell? ⟨gx+1,2,none⟩=some (.slice b3 n3 d3)):=λy hy=>
  ⟨⟨zi hy _ _ (ze H1.out 0),zi hy _ _ (ze H1.out 1),zi hy _ _ (ze H1.out 2)⟩,zi hy _ _ (ze H2.out 0),zi hy _ _ (ze H2.out 1),zi hy _ _ (ze H2.out 2)⟩
 obtain⟨⟨c0,q1,q2⟩,q3,q4,q5⟩:=HC.out W (Below.refl _ _)
 go_wp2_with fail
 clear c0 q1 q2 q3 q4 q5
 go_loopg [5] n1 (λgg s5 wr=>∃i:Nat,i<=n1/\Hid (gg=n1 - i)/\s5= .int .i64 i/\Hid (Below W.heap.size W wr))
 case atStart=>exact⟨0,Nat.zero_le _,rfl,rfl,Below.refl _ _⟩
 case round=>
 obtain⟨i,hi,HG,rfl,zN⟩:=hrel
 obtain⟨wo,rfl⟩:∃wo:World,wo=wr:=⟨_,rfl⟩
 obtain⟨⟨c0,q1,q2⟩,q3,q4,q5⟩:=HC.out wo zN.out
 by_cases hlt:i<n1
 ·have qG:(i:Int)<(n1:Int):=by omega
  obtain⟨eb,eo,tv,yv,zZ, -,x0,x1,x2,hst⟩:=kV.part (zh.below qN.stays HA1.out zN.out) i (by rw [<-gI.out];exact hlt)
  subst zZ
  obtain⟨fb,fo,tv2,yv2,hfa, -,y0,y1,y2,uh⟩:=kV.part (zh.below qN.stays HK1.out zN.out) i (by rw [<-gI.out];exact hlt)
  subst hfa
  generalize sl.getD i default=s at x2 y2 hst uh
  obtain⟨ta,tac,rfl, -⟩:=zh.slice hst.threads
  obtain⟨ya,yac,rfl, -⟩:=zh.slice hst.mem
  obtain⟨tb,tbc,rfl, -⟩:=zh.slice uh.threads
  obtain⟨yb,ybc,rfl, -⟩:=zh.slice uh.mem
  have hsm:=λy (hy:Below wo.heap.size wo y)=>zke y s s _ _ _ _ (hst.below hy) (uh.below hy)
  unfold yF at hsm
  generalize s.threads.length=m1 at x0 y0 hsm
  generalize s.mem.length=m2 at x1 y1 hsm
  generalize s.bad=bd at x2 y2 hsm
  simp only [decide_true] at hsm
  have HSM:=qh hsm
  have C6:Hid (∀y,Below wo.heap.size wo y->y.cell? ⟨gx,0,none⟩=some (.slice (some ⟨eb,eo,none⟩) n1 c1)/\y.cell? ⟨gx+1,0,none⟩=some (.slice (some ⟨fb,fo,none⟩) n1 d1)/\y.cell? ⟨eb,eo+i*3,none⟩=some (.slice ta m1 tac)/\y.cell? ⟨eb,eo+i*3+1,none⟩=some (.slice ya m2 yac)/\y.cell? ⟨eb,eo+i*3+2,none⟩=some (.bool bd)/\y.cell? ⟨fb,fo+i*3,none⟩=some (.slice tb m1 tbc)/\y.cell? ⟨fb,fo+i*3+1,none⟩=some (.slice yb m2 ybc)/\y.cell? ⟨fb,fo+i*3+2,none⟩=some (.bool bd)):=λy hy=>
   ⟨zi hy _ _ c0,zi hy _ _ q3,zi hy _ _ x0,zi hy _ _ x1,zi hy _ _ x2,zi hy _ _ y0,zi hy _ _ y1,zi hy _ _ y2⟩
  clear x0 x1 x2 y0 y1 y2 hst uh hsm
  go_upto_region 6 with fail
  clear c0 q1 q2 q3 q4 q5
  refine qM (S:=λx=>Below wo.heap.size wo x) ((Below.refl _ _).drew) (λhaH=> ?_)
  refine zl 0 C6.out ?_
  refine zl 1 C6.out ?_
  refine zl 2 C6.out ?_
  refine zl 3 C6.out ?_
  refine zl 4 C6.out ?_
  refine zl 5 C6.out ?_
  refine zl 6 C6.out ?_
  refine zl 7 C6.out ?_
  refine zl 8 C6.out ?_
  refine zl 9 C6.out ?_
  refine yx 10 rfl (λK hK=> ?_)
  go_simp
  refine(HSM.out wo.drew haH).mono ?_
  rintro en z6v ⟨rfl,hb⟩
  have zs4:Below wo.heap.size wo z6v:=zB haH hb
  refine hK.out _ _ zs4 (λ_=> ?_)
  clear hK K hb haH
  refine zl 11 C6.out ?_
  refine xE ?_
  have yI:=qh (zB zN.out (zs4))
  go_wp2_with fail
  go_roundg (n1 - (i+1))
  case measure=>rw [HG.out];omega
  case rel=>exact⟨i+1,by omega,rfl,by simp,yI.out⟩
 obtain rfl:n1=i:=by omega
 go_wp2_with fail
 clear c0 q1 q2 q3 q4 q5
 go_loopg [6] n2 (λgg s6 wr=>∃i:Nat,i<=n2/\Hid (gg=n2 - i)/\s6= .int .i64 i/\Hid (Below W.heap.size W wr))
 case atStart=>exact⟨0,Nat.zero_le _,rfl,rfl,zN.out⟩
 case round=>
 obtain⟨i,hi,HG2,rfl,HBM⟩:=hrel
 obtain⟨wp,rfl⟩:∃wo:World,wo=wr:=⟨_,rfl⟩
 clear zN
 obtain⟨⟨c0,q1,q2⟩,q3,q4,q5⟩:=HC.out wp HBM.out
 by_cases hlt:i<n2
 ·have qG:(i:Int)<(n2:Int):=by omega
  obtain⟨eb,eo,ka,kc,zZ, -,x0,hm1⟩:=zaf (zh.below wG.stays HA2.out HBM.out) i (by rw [<-HN2.out];exact hlt)
  subst zZ
  obtain⟨fb,fo,kb,kd,hfa, -,y0,hm2⟩:=zaf (zh.below wG.stays HK2.out HBM.out) i (by rw [<-HN2.out];exact hlt)
  subst hfa
  generalize ml.getD i [] =ms at x0 y0 hm1 hm2
  have hsm:=λy (hy:Below wp.heap.size wp y)=>zgK y _ _ ms (zh.below zaD.stays hm1 hy) (zh.below zaD.stays hm2 hy)
  generalize ms.length=m1 at x0 y0 hsm
  have HSM:=qh hsm
  have C11:Hid (∀y,Below wp.heap.size wp y->y.cell? ⟨gx,1,none⟩=some (.slice (some ⟨eb,eo,none⟩) n2 c2)/\y.cell? ⟨gx+1,1,none⟩=some (.slice (some ⟨fb,fo,none⟩) n2 d2)/\y.cell? ⟨eb,eo+i,none⟩=some (.slice ka m1 kc)/\y.cell? ⟨fb,fo+i,none⟩=some (.slice kb m1 kd)):=λy hy=>
   ⟨zi hy _ _ q1,zi hy _ _ q4,zi hy _ _ x0,zi hy _ _ y0⟩
  clear x0 y0 hm1 hm2 hsm
  go_upto_region 11 with fail
  clear c0 q1 q2 q3 q4 q5
  refine qM (S:=λx=>Below wp.heap.size wp x) ((Below.refl _ _).drew) (λhbH=> ?_)
  refine zl 0 C11.out ?_
  refine zl 1 C11.out ?_
  refine zl 2 C11.out ?_
  refine zl 3 C11.out ?_
  refine zl 4 C11.out ?_
  refine zl 5 C11.out ?_
  refine zl 6 C11.out ?_
  refine zl 7 C11.out ?_
  refine zl 8 C11.out ?_
  refine zl 9 C11.out ?_
  refine yx 10 rfl (λK hK=> ?_)
  go_simp
  refine(HSM.out wp.drew hbH).mono ?_
  rintro en z6w ⟨rfl,hb⟩
  have zs5:Below wp.heap.size wp z6w:=zB hbH hb
  refine hK.out _ _ zs5 (λ_=> ?_)
  clear hK K hb hbH
  refine zl 11 C11.out ?_
  refine xE ?_
  have yI:=qh (zB HBM.out (zs5))
  go_wp2_with fail
  go_roundg (n2 - (i+1))
  case measure=>rw [HG2.out];omega
  case rel=>exact⟨i+1,by omega,rfl,by simp,yI.out⟩
 obtain rfl:n2=i:=by omega
 go_wp2_with fail
 clear c0 q1 q2 q3 q4 q5
 go_loopg [7] n3 (λgg s7 wr=>∃i:Nat,i<=n3/\Hid (gg=n3 - i)/\s7= .int .i64 i/\Hid (Below W.heap.size W wr))
 case atStart=>exact⟨0,Nat.zero_le _,rfl,rfl,HBM.out⟩
 case round=>
 obtain⟨i,hi,jg,rfl,HBN⟩:=hrel
 obtain⟨wq,rfl⟩:∃wo:World,wo=wr:=⟨_,rfl⟩
 clear HBM
 obtain⟨⟨c0,q1,q2⟩,q3,q4,q5⟩:=HC.out wq HBN.out
 by_cases hlt:i<n3
 rotate_left
 ·obtain rfl:n3=i:=by omega
  have zW:=qh (HB.out.trans (HBN.out.mono HB.out.size))
  go_wp2_with fail
  go_ret
  exact⟨rfl,zW.out⟩
 have qG:(i:Int)<(n3:Int):=by omega
 obtain⟨eb,eo,ka,kc,zZ, -,x0,hm1⟩:=zaF (zh.below uQ.stays HA3.out HBN.out) i (by rw [<-HN3.out];exact hlt)
 subst zZ
 obtain⟨fb,fo,kb,kd,hfa, -,y0,hm2⟩:=zaF (zh.below uQ.stays HK3.out HBN.out) i (by rw [<-HN3.out];exact hlt)
 subst hfa
 generalize nl.getD i [] =ns at x0 y0 hm1 hm2
 obtain⟨m1,hm⟩:∃n,n=ns.length:=⟨_,rfl⟩
 rw [<-hm] at x0 y0 hm1 hm2
 have hmr:=zh.room hm1
 have hm63:m1<=9223372036854775807:=by omega
 have HMM:=qh hm
 have HI1:=qh hm1
 have HI2:=qh hm2
 have C16:Hid (∀y,Below wq.heap.size wq y->y.cell? ⟨gx,2,none⟩=some (.slice (some ⟨eb,eo,none⟩) n3 c3)/\y.cell? ⟨gx+1,2,none⟩=some (.slice (some ⟨fb,fo,none⟩) n3 d3)/\y.cell? ⟨eb,eo+i,none⟩=some (.slice ka m1 kc)/\y.cell? ⟨fb,fo+i,none⟩=some (.slice kb m1 kd)):=λy hy=>
  ⟨zi hy _ _ q2,zi hy _ _ q5,zi hy _ _ x0,zi hy _ _ y0⟩
 clear x0 y0 hm1 hm2 hm hmr
 go_upto_region 16 with fail
 clear c0 q1 q2 q3 q4 q5
 refine qM (S:=λx=>Below wq.heap.size wq x) ((Below.refl _ _).drew) (λhcH=> ?_)
 refine zl 0 C16.out ?_
 refine zl 1 C16.out ?_
 refine zl 2 C16.out ?_
 refine zl 3 C16.out ?_
 refine zl 4 C16.out ?_
 refine zl 5 C16.out ?_
 refine zl 6 C16.out ?_
 refine zl 7 C16.out ?_
 refine zl 8 C16.out ?_
 refine zl 9 C16.out ?_
 refine zl 10 C16.out ?_
 refine zl 11 C16.out ?_
 refine zl 12 C16.out ?_
 refine xE ?_
 obtain⟨wv,hwv⟩:∃Y,Y=wq.drew:=⟨_,rfl⟩
 have HBV:Hid (Below wq.heap.size wq wv):=by rw [hwv];exact(Below.refl _ _).drew
 rw [<-hwv]
 clear hwv hcH
 go_wp2_with fail
 go_loopg [8] m1 (λgg s8 wr=>∃k:Nat,k<=m1/\Hid (gg=m1 - k)/\s8= .int .i64 k/\Hid (Below wq.heap.size wq wr))
 case atStart=>exact⟨0,Nat.zero_le _,rfl,rfl,HBV.out⟩
 case round=>
 obtain⟨k,hk,jH,rfl,bC⟩:=hrel
 obtain⟨wk,rfl⟩:∃wo:World,wo=wr:=⟨_,rfl⟩
 clear HBV
 obtain⟨c0,q1,q2,q3⟩:=C16.out wk bC.out
 by_cases hkl:k<m1
 rotate_left
 ·obtain rfl:m1=k:=by omega
  have HBF:=qh (zB HBN.out bC.out)
  go_wp2_with fail
  go_roundg (n3 - (i+1))
  case measure=>rw [jg.out];omega
  case rel=>exact⟨i+1,by omega,rfl,by simp,HBF.out⟩
 have zpc:(k:Int)<(m1:Int):=by omega
 obtain⟨gb,go_,hga, -,z0⟩:=xC.part HI1.out k (by rw [<-HMM.out];exact hkl)
 subst hga
 obtain⟨hb,ho,hha, -,z1⟩:=xC.part HI2.out k (by rw [<-HMM.out];exact hkl)
 subst hha
 generalize ns.getD k 0=x at z0 z1
 have C21:Hid (∀y,Below wk.heap.size wk y->y.cell? ⟨gx,2,none⟩=some (.slice (some ⟨eb,eo,none⟩) n3 c3)/\y.cell? ⟨gx+1,2,none⟩=some (.slice (some ⟨fb,fo,none⟩) n3 d3)/\y.cell? ⟨eb,eo+i,none⟩=some (.slice (some ⟨gb,go_,none⟩) m1 kc)/\y.cell? ⟨fb,fo+i,none⟩=some (.slice (some ⟨hb,ho,none⟩) m1 kd)/\y.cell? ⟨gb,go_+k,none⟩=some (.int .i64 x)/\y.cell? ⟨hb,ho+k,none⟩=some (.int .i64 x)):=λy hy=>by
  obtain⟨p0,p1,p2,p3⟩:=C16.out y (zB bC.out hy)
  exact⟨p0,p1,p2,p3,zi (zB bC.out hy) _ _ z0,zi (zB bC.out hy) _ _ z1⟩
 clear z0 z1
 go_upto_region 21 with fail
 clear c0 q1 q2 q3
 refine qM (S:=λx=>Below wk.heap.size wk x) ((Below.refl _ _).drew) (λhdH=> ?_)
 refine zl 0 C21.out ?_
 refine zl 1 C21.out ?_
 refine zl 2 C21.out ?_
 refine zl 3 C21.out ?_
 refine zl 4 C21.out ?_
 refine zl 5 C21.out ?_
 refine zl 6 C21.out ?_
 refine zl 7 C21.out ?_
 refine zl 8 C21.out ?_
 refine zl 9 C21.out ?_
 refine zl 10 C21.out ?_
 refine zl 11 C21.out ?_
 refine zl 12 C21.out ?_
 refine zl 13 C21.out ?_
 refine zl 14 C21.out ?_
 refine zl 15 C21.out ?_
 refine zl 16 C21.out ?_
 refine xE ?_
 have yI:=qh (zB bC.out (hdH))
 go_wp2_with fail
 go_roundg (m1 - (k+1))
 case measure=>rw [jH.out];omega
 case rel=>exact⟨k+1,by omega,rfl,by simp,yI.out⟩
