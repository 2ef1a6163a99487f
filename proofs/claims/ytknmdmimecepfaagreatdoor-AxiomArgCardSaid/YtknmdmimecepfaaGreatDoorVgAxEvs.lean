/- Steps. -/
import Derived.Test.YtknmdmimecepfaaGreatDoorVgAxFwd
set_option linter.all false
namespace Go.Proofs.YtknmdmimecepfaaGreatDoor
open Go.RowKit
set_option maxRecDepth 100000
set_option maxHeartbeats 16000000
theorem zdI {c:zo} (hrow:∀i,i<c.threads.length->(c.threads.getD i []).length<=100000):∀i,i<=c.threads.length->zQ c i<=100000*i:=by
 intro i
 induction i with
 |zero=>intro _;exact Nat.le_refl _
 |succ i ih=>
 intro hi
 have h1:=ih (by omega)
 have h2:cntF 2 (c.threads.getD i []) 0<=_:=zn0
 have h3:=hrow i (by omega)
 show zQ c i+cntF 2 (c.threads.getD i []) 0<=_
 omega
theorem ziw (w:World) (c:zo) (tv:Value) (d:Nat) (h:yw d w tv c.threads) (h4:c.threads.length<=100000) (hrow:∀i,i<c.threads.length->(c.threads.getD i []).length<=100000):Calls Tryz.prog 22 #[xL c tv] w λe w'=>e= .returned (.int .i64 (zQ c c.threads.length:Nat))/\Below w.heap.size w w':=by
 have hle:=zdI hrow
 obtain⟨ta,tc,rfl,htl⟩:=zh.slice h
 obtain⟨n,hn⟩:∃n,n=c.threads.length:=⟨_,rfl⟩
 have yS:=qh hrow
 rw [<-hn] at h htl h4 ⊢
 clear hrow
 unfold xL
 have hA:=(Below.refl w.heap.size w).alloc (Nat.le_refl _) (.cells #[.int .i64 c.vars, .int .i64 c.domain, .slice ta n tc] 25)
 have HB:=qh hA
 have H1:=qh (zT w (.cells #[.int .i64 c.vars, .int .i64 c.domain, .slice ta n tc] 25))
 have HT:=qh (zh.below (qC.stays d) h hA)
 have HN:=qh hn
 have HLE:=qh hle
 clear h hA hn hle
 go_enter Tryz.func22,Tryz.ntmps22
 go_upto_region 1 with fail
 generalize World.alloc w _=W at HB H1 HT ⊢
 obtain⟨gx,hgx⟩:∃gx,gx=w.heap.size:=⟨_,rfl⟩
 rw [<-hgx] at H1 ⊢
 clear hgx
 have HC:Hid (∀x,Below W.heap.size W x->x.cell? ⟨gx,0,none⟩=some (.int .i64 c.vars)/\x.cell? ⟨gx,1,none⟩=some (.int .i64 c.domain)/\x.cell? ⟨gx,2,none⟩=some (.slice ta n tc)):=λx hx=>⟨zi hx _ _ (za H1.out 0),zi hx _ _ (za H1.out 1),zi hx _ _ (za H1.out 2)⟩
 have HM:=qh (zT W (.cells #[.int .i64 0, .int .i64 0, .slice none 0 0, .int .i64 2, .map none, .slice none 0 0, .bool false] 58))
 have HBM:=qh (zK W (.cells #[.int .i64 0, .int .i64 0, .slice none 0 0, .int .i64 2, .map none, .slice none 0 0, .bool false] 58))
 go_upto_region 2 with fail
 generalize World.alloc W _=Y at HM HBM ⊢
 obtain⟨gm,hgm⟩:∃gx,gx=W.heap.size:=⟨_,rfl⟩
 rw [<-hgm] at HM ⊢
 clear hgm
 replace HC:Hid (∀x,Below Y.heap.size Y x->x.cell? ⟨gx,2,none⟩=some (.slice ta n tc)/\x.cell? ⟨gm,3,none⟩=some (.int .i64 2)):=λx hx=>⟨(HC.out x (zm HBM.out hx)).2.2,zi hx _ _ (za HM.out 3)⟩
 have qM:Hid (Below W.heap.size W Y):=HBM.out
 clear HBM
 replace HB:=qh (zm HB.out qM.out)
 obtain⟨c2,m3⟩:=HC.out Y (Below.refl _ _)
 have HE0:Hid (0+0=zQ c 0):=rfl
 go_wp2_with fail
 clear c2 m3
 go_loopg [2,13] n (λgg s2 s13 wr=>∃(i:Nat) (m:Nat),i<=n/\Hid (gg=n - i)/\s13= .int .i64 i/\Hid (Below Y.heap.size Y wr)/\s2= .int .i64 m/\Hid (m=zQ c i)/\m<=100000*i)
 case atStart=>exact⟨0,0,Nat.zero_le _,rfl,rfl,Below.refl _ _,rfl,rfl,Nat.le_refl _⟩
 case round=>
 obtain⟨i,m,hi,HG,rfl,qy,rfl,wO,hmb⟩:=hrel
 obtain⟨wo,rfl⟩:∃wo:World,wo=wr:=⟨_,rfl⟩
 obtain⟨c2,m3⟩:=HC.out wo qy.out
 by_cases hlt:i<n
 rotate_left
 ·obtain rfl:n=i:=by omega
  go_wp2_with fail
  go_ret
  rw [<-wO.out]
  exact⟨rfl,zm HB.out qy.out⟩
 have qQ:(i:Int)<(n:Int):=by omega
 obtain⟨eb,eo,ka,kc,rfl,wT,xq,hel⟩:=yw.part HT.out i (by rw [<-HN.out];exact hlt)
 obtain⟨l,hl⟩:∃l,l=c.threads.getD i [] :=⟨_,rfl⟩
 rw [<-hl] at xq hel
 obtain⟨ln,hln⟩:∃ln,ln=l.length:=⟨_,rfl⟩
 rw [<-hln] at xq hel
 have e0:=zi (zm qM.out qy.out) _ _ xq
 have HL:=qh hl
 have yM:=qh hln
 have pE:=qh hel
 have HEC:=qh xq
 have hl6:ln<=100000:=by rw [hln,hl];exact yS.out i (by rw [<-HN.out];exact hlt)
 clear hl hln xq hel wT
 go_wp2_with fail
 clear e0 c2 m3
 go_loopg [2,19] ln (λgg s2 s19 wr=>∃(q:Nat) (k:Nat),q<=ln/\Hid (gg=ln - q)/\s19= .int .i64 q/\Hid (Below Y.heap.size Y wr)/\s2= .int .i64 k/\Hid (k+cntF 2 l q=zQ c (i+1))/\k<=100000*i+q)
 case atStart=>exact⟨0,m,Nat.zero_le _,rfl,rfl,qy.out,rfl,(by rw [wO.out,HL.out];rfl),(by omega)⟩
 case round=>
 obtain⟨q,k,hq,HG2,rfl,HB2,rfl,HKI,hkb⟩:=hrel
 obtain⟨qd,rfl⟩:∃qd:World,qd=wr:=⟨_,rfl⟩
 obtain⟨c2,m3⟩:=HC.out qd HB2.out
 have e0:=zi (zm qM.out HB2.out) _ _ HEC.out
 by_cases hlq:q<ln
 rotate_left
 ·obtain rfl:ln=q:=by omega
  have hk:k=zQ c (i+1):=by have:=HKI.out;rw [yM.out,zgU (Nat.le_refl _)] at this;exact this
  have HK:=qh hk
  clear hk
  go_wp2_with fail
  go_roundg (n - (i+1))
  case measure=>rw [HG.out];omega
  case rel=>exact⟨i+1,k,by omega,rfl,by simp,HB2.out,rfl,HK.out,by omega⟩
 have zfv:(q:Int)<(ln:Int):=by omega
 obtain⟨fb,fo,aa,ac,ba,bc,rfl, -,⟨x0,x1,x2⟩,⟨x3,x4,x5,x6⟩,⟨x7,x8,x9,x10⟩,qZ,xa,xb⟩:=qD.part (zh.below (yH.stays d) pE.out (zm qM.out HB2.out)) q (by rw [<-yM.out];exact hlq)
 obtain⟨x,hx⟩:∃x,x=l.getD q default:=⟨_,rfl⟩
 rw [<-hx] at x0 x1 x2 x3 x4 x5 x6 x7 x8 x9 x10 qZ xa xb
 have HX:=qh hx
 clear hx
 have HA:=qh (zK qd (.cells #[.int .i64 x.op, .int .i64 x.reg, .int .i64 x.var, .int .i64 x.a.kind, .int .i64 x.a.n, .int .u8 x.a.op, .slice aa x.a.kids.length ac, .int .i64 x.b.kind, .int .i64 x.b.n, .int .u8 x.b.op, .slice ba x.b.kids.length bc, .int .i64 x.dest] 45))
 have zP:=qh (zT qd (.cells #[.int .i64 x.op, .int .i64 x.reg, .int .i64 x.var, .int .i64 x.a.kind, .int .i64 x.a.n, .int .u8 x.a.op, .slice aa x.a.kids.length ac, .int .i64 x.b.kind, .int .i64 x.b.n, .int .u8 x.b.op, .slice ba x.b.kids.length bc, .int .i64 x.dest] 45))
 go_upto_region 8 with fail
 generalize World.alloc qd _=U at HA zP ⊢
 obtain⟨gu,hgu⟩:∃g,g=qd.heap.size:=⟨_,rfl⟩
 rw [<-hgu] at zP ⊢
 clear hgu x0 x1 x2 x3 x4 x5 x6 x7 x8 x9 x10 qZ c2 m3 e0
 have y0:=za zP.out 0;have y1:=za zP.out 1;have y2:=za zP.out 2;have y3:=za zP.out 3;have y4:=za zP.out 4;have y5:=za zP.out 5;have y6:=za zP.out 6;have y7:=za zP.out 7;have y8:=za zP.out 8;have y9:=za zP.out 9;have pF:=za zP.out 10;have bF:=za zP.out 11
 have jJ:=qh (zm HB2.out HA.out)
 have qj:=zdn U gm 2 (HC.out U jJ.out).2 x (.slice aa x.a.kids.length ac) (.slice ba x.b.kids.length bc)
 unfold vS at qj
 have hsome:=zfF l q (by rw [<-yM.out];exact hlq) k _ HKI.out
 rw [<-HX.out] at hsome
 obtain⟨tb,htb⟩:∃b,b=qK 2 x.op:=⟨_,rfl⟩
 rw [<-htb] at qj hsome
 have HTB:=qh htb
 have zaS:=qh qj
 have wU:=qh hsome
 clear htb qj hsome
 cases tb with
 |true=>
  have kQ:k+1+cntF 2 l (q+1)=zQ c (i+1):=wU.out.1 rfl
  have xS:=qh kQ
  clear kQ
  go_wp2_with(go_at_call 38;go_must(refine zaS.out.mono ?_);rintro e U2 ⟨rfl,hb⟩;(have HB3:=qh hb);clear hb y0 y1 y2 y3 y4 y5 y6 y7 y8 y9 pF bF)
  go_roundg (ln - (q+1))
  case measure=>rw [HG2.out];omega
  case rel=>exact⟨q+1,k+1,by omega,rfl,by simp,zm jJ.out HB3.out,by simp,xS.out,by omega⟩
 |false=>
 have kQ:k+cntF 2 l (q+1)=zQ c (i+1):=wU.out.2 rfl
 have xS:=qh kQ
 clear kQ
 go_wp2_with(go_at_call 38;go_must(refine zaS.out.mono ?_);rintro e U2 ⟨rfl,hb⟩;(have HB3:=qh hb);clear hb y0 y1 y2 y3 y4 y5 y6 y7 y8 y9 pF bF)
 go_roundg (ln - (q+1))
 case measure=>rw [HG2.out];omega
 case rel=>exact⟨q+1,k,by omega,rfl,by simp,zm jJ.out HB3.out,rfl,xS.out,by omega⟩
theorem zix (w:World) (c:zo) (tv:Value) (d:Nat) (h:yw d w tv c.threads) (h4:c.threads.length<=100000) (hrow:∀i,i<c.threads.length->(c.threads.getD i []).length<=100000):Calls Tryz.prog 15 #[xL c tv] w λe w'=>e= .returned (.int .i64 (zQ c c.threads.length:Nat))/\Below w.heap.size w w':=by
 obtain⟨ta,tc,rfl,htl⟩:=zh.slice h
 obtain⟨n,hn⟩:∃n,n=c.threads.length:=⟨_,rfl⟩
 have yS:=qh hrow
 rw [<-hn] at h htl h4 ⊢
 clear hrow
 unfold xL
 have hA:=(Below.refl w.heap.size w).alloc (Nat.le_refl _) (.cells #[.int .i64 c.vars, .int .i64 c.domain, .slice ta n tc] 25)
 have HB:=qh hA
 have H1:=qh (zT w (.cells #[.int .i64 c.vars, .int .i64 c.domain, .slice ta n tc] 25))
 have HT:=qh (zh.below (qC.stays d) h hA)
 have HN:=qh hn
 clear h hA hn
 go_enter Tryz.func15,Tryz.ntmps15
 go_upto_region 1 with fail
 generalize World.alloc w _=W at HB H1 HT ⊢
 obtain⟨gx,hgx⟩:∃gx,gx=w.heap.size:=⟨_,rfl⟩
 rw [<-hgx] at H1 ⊢
 clear hgx
 have HC:Hid (∀x,Below W.heap.size W x->x.cell? ⟨gx,0,none⟩=some (.int .i64 c.vars)/\x.cell? ⟨gx,1,none⟩=some (.int .i64 c.domain)/\x.cell? ⟨gx,2,none⟩=some (.slice ta n tc)):=λx hx=>⟨zi hx _ _ (za H1.out 0),zi hx _ _ (za H1.out 1),zi hx _ _ (za H1.out 2)⟩
 have qM:Hid (Below W.heap.size W W):=Below.refl _ _
 obtain⟨c0,c1,c2⟩:=HC.out W (Below.refl _ _)
 go_wp2_with fail
 clear c0 c1 c2
 go_loopg [3,4] n (λgg s3 s4 wr=>∃(i:Nat) (m:Nat),i<=n/\Hid (gg=n - i)/\s4= .int .i64 i/\Hid (Below W.heap.size W wr)/\s3= .int .i64 m/\Hid (m=zQ c i)/\m<=100000*i)
 case atStart=>exact⟨0,0,Nat.zero_le _,rfl,rfl,Below.refl _ _,rfl,rfl,Nat.le_refl _⟩
 case round=>
 obtain⟨i,m,hi,HG,rfl,qy,rfl,wO,hmb⟩:=hrel
 obtain⟨wo,rfl⟩:∃wo:World,wo=wr:=⟨_,rfl⟩
 obtain⟨c0,c1,c2⟩:=HC.out wo qy.out
 by_cases hlt:i<n
 rotate_left
 ·obtain rfl:n=i:=by omega
  go_wp2_with fail
  go_ret
  rw [<-wO.out]
  exact⟨rfl,zm HB.out qy.out⟩
 have qQ:(i:Int)<(n:Int):=by omega
 obtain⟨eb,eo,ka,kc,rfl,wT,xq,hel⟩:=yw.part HT.out i (by rw [<-HN.out];exact hlt)
 obtain⟨l,hl⟩:∃l,l=c.threads.getD i [] :=⟨_,rfl⟩
 rw [<-hl] at xq hel
 obtain⟨ln,hln⟩:∃ln,ln=l.length:=⟨_,rfl⟩
 rw [<-hln] at xq hel
 have e0:=zi (zm qM.out qy.out) _ _ xq
 have HL:=qh hl
 have yM:=qh hln
 have pE:=qh hel
 have HEC:=qh xq
 have hl6:ln<=100000:=by rw [hln,hl];exact yS.out i (by rw [<-HN.out];exact hlt)
 clear hl hln xq hel wT
 go_wp2_with fail
 clear e0 c0 c1 c2
 go_loopg [3,5] ln (λgg s3 s5 wr=>∃(q:Nat) (k:Nat),q<=ln/\Hid (gg=ln - q)/\s5= .int .i64 q/\Hid (Below W.heap.size W wr)/\s3= .int .i64 k/\Hid (k+cntF 2 l q=zQ c (i+1))/\k<=100000*i+q)
 case atStart=>exact⟨0,m,Nat.zero_le _,rfl,rfl,qy.out,rfl,(by rw [wO.out,HL.out];rfl),(by omega)⟩
 case round=>
 obtain⟨q,k,hq,HG2,rfl,HB2,rfl,HKI,hkb⟩:=hrel
 obtain⟨qd,rfl⟩:∃qd:World,qd=wr:=⟨_,rfl⟩
 obtain⟨c0,c1,c2⟩:=HC.out qd HB2.out
 have e0:=zi (zm qM.out HB2.out) _ _ HEC.out
 by_cases hlq:q<ln
 rotate_left
 ·obtain rfl:ln=q:=by omega
  have hk:k=zQ c (i+1):=by have:=HKI.out;rw [yM.out,zgU (Nat.le_refl _)] at this;exact this
  have HK:=qh hk
  clear hk
  go_wp2_with fail
  go_roundg (n - (i+1))
  case measure=>rw [HG.out];omega
  case rel=>exact⟨i+1,k,by omega,rfl,by simp,HB2.out,rfl,HK.out,by omega⟩
 have zfv:(q:Int)<(ln:Int):=by omega
 obtain⟨fb,fo,aa,ac,ba,bc,rfl, -,⟨x0,x1,x2⟩,⟨x3,x4,x5,x6⟩,⟨x7,x8,x9,x10⟩,qZ,xa,xb⟩:=qD.part (zh.below (yH.stays d) pE.out (zm qM.out HB2.out)) q (by rw [<-yM.out];exact hlq)
 obtain⟨x,hx⟩:∃x,x=l.getD q default:=⟨_,rfl⟩
 rw [<-hx] at x0 x1 x2 x3 x4 x5 x6 x7 x8 x9 x10 qZ xa xb
 have HX:=qh hx
 clear hx
 clear x1 x2 x3 x4 x5 x6 x7 x8 x9 x10 qZ
 have hsome:=zfF l q (by rw [<-yM.out];exact hlq) k _ HKI.out
 rw [<-HX.out] at hsome
 obtain⟨op,hop⟩:∃v,v=x.op:=⟨_,rfl⟩
 rw [<-hop] at x0 hsome
 have wU:=qh hsome
 clear hop hsome
 by_cases o1:op=1
 ·subst o1
  have xS:Hid (k+1+cntF 2 l (q+1)=zQ c (i+1)):=wU.out.1 rfl
  go_wp2_with fail
  go_roundg (ln - (q+1))
  case measure=>rw [HG2.out];omega
  case rel=>exact⟨q+1,k+1,by omega,rfl,by simp,HB2.out,by simp,xS.out,by omega⟩
 have n1:((op:Int)==1)=false:=by simpa using o1
 by_cases o2:op=2
 ·subst o2
  have xS:Hid (k+1+cntF 2 l (q+1)=zQ c (i+1)):=wU.out.1 rfl
  go_wp2_with fail
  go_roundg (ln - (q+1))
  case measure=>rw [HG2.out];omega
  case rel=>exact⟨q+1,k+1,by omega,rfl,by simp,HB2.out,by simp,xS.out,by omega⟩
 have n2:((op:Int)==2)=false:=by simpa using o2
 by_cases o4:op=4
 ·subst o4
  have xS:Hid (k+1+cntF 2 l (q+1)=zQ c (i+1)):=wU.out.1 rfl
  go_wp2_with fail
  go_roundg (ln - (q+1))
  case measure=>rw [HG2.out];omega
  case rel=>exact⟨q+1,k+1,by omega,rfl,by simp,HB2.out,by simp,xS.out,by omega⟩
 have n4:((op:Int)==4)=false:=by simpa using o4
 by_cases o5:op=5
 ·subst o5
  have xS:Hid (k+1+cntF 2 l (q+1)=zQ c (i+1)):=wU.out.1 rfl
  go_wp2_with fail
  go_roundg (ln - (q+1))
  case measure=>rw [HG2.out];omega
  case rel=>exact⟨q+1,k+1,by omega,rfl,by simp,HB2.out,by simp,xS.out,by omega⟩
 have n5:((op:Int)==5)=false:=by simpa using o5
 by_cases o6:op=6
 ·subst o6
  have xS:Hid (k+1+cntF 2 l (q+1)=zQ c (i+1)):=wU.out.1 rfl
  go_wp2_with fail
  go_roundg (ln - (q+1))
  case measure=>rw [HG2.out];omega
  case rel=>exact⟨q+1,k+1,by omega,rfl,by simp,HB2.out,by simp,xS.out,by omega⟩
 have n6:((op:Int)==6)=false:=by simpa using o6
 by_cases o7:op=7
 ·subst o7
  have xS:Hid (k+1+cntF 2 l (q+1)=zQ c (i+1)):=wU.out.1 rfl
  go_wp2_with fail
  go_roundg (ln - (q+1))
  case measure=>rw [HG2.out];omega
  case rel=>exact⟨q+1,k+1,by omega,rfl,by simp,HB2.out,by simp,xS.out,by omega⟩
 have n7:((op:Int)==7)=false:=by simpa using o7
 by_cases o8:op=8
 ·subst o8
  have xS:Hid (k+1+cntF 2 l (q+1)=zQ c (i+1)):=wU.out.1 rfl
  go_wp2_with fail
  go_roundg (ln - (q+1))
  case measure=>rw [HG2.out];omega
  case rel=>exact⟨q+1,k+1,by omega,rfl,by simp,HB2.out,by simp,xS.out,by omega⟩
 have n8:((op:Int)==8)=false:=by simpa using o8
 have xS:Hid (k+cntF 2 l (q+1)=zQ c (i+1)):=wU.out.2 (by unfold qK;simp [o1,o2,o4,o5,o6,o7,o8])
 go_wp2_with fail
 go_roundg (ln - (q+1))
 case measure=>rw [HG2.out];omega
 case rel=>exact⟨q+1,k,by omega,rfl,by simp,HB2.out,rfl,xS.out,by omega⟩
theorem zlu (w:World) (c:zo) (tv:Value) (d:Nat) (h:yw d w tv c.threads) (h4:c.threads.length<=100000) (hrow:∀i,i<c.threads.length->(c.threads.getD i []).length<=100000) (hd1:0<=c.domain) (hd2:c.domain<=16):Calls Tryz.prog 16 #[xL c tv] w λe w'=>e= .returned (.bool (vB c))/\Below w.heap.size w w':=by
 obtain⟨ta,tc,rfl,htl⟩:=zh.slice h
 obtain⟨n,hn⟩:∃n,n=c.threads.length:=⟨_,rfl⟩
 have yS:=qh hrow
 rw [<-hn] at h htl h4 ⊢
 clear hrow
 unfold xL
 have hA:=(Below.refl w.heap.size w).alloc (Nat.le_refl _) (.cells #[.int .i64 c.vars, .int .i64 c.domain, .slice ta n tc] 25)
 have HB:=qh hA
 have H1:=qh (zT w (.cells #[.int .i64 c.vars, .int .i64 c.domain, .slice ta n tc] 25))
 have HT:=qh (zh.below (qC.stays d) h hA)
 have HN:=qh hn
 clear h hA hn
 go_enter Tryz.func16,Tryz.ntmps16
 go_upto_region 1 with fail
 generalize World.alloc w _=W at HB H1 HT ⊢
 obtain⟨gx,hgx⟩:∃gx,gx=w.heap.size:=⟨_,rfl⟩
 rw [<-hgx] at H1 ⊢
 clear hgx
 have HC:Hid (∀x,Below W.heap.size W x->x.cell? ⟨gx,0,none⟩=some (.int .i64 c.vars)/\x.cell? ⟨gx,1,none⟩=some (.int .i64 c.domain)/\x.cell? ⟨gx,2,none⟩=some (.slice ta n tc)):=λx hx=>⟨zi hx _ _ (za H1.out 0),zi hx _ _ (za H1.out 1),zi hx _ _ (za H1.out 2)⟩
 have qM:Hid (Below W.heap.size W W):=Below.refl _ _
 have HR:=qh (zgV hd1 hd2)
 obtain⟨dom,hdom⟩:∃x,x=c.domain:=⟨_,rfl⟩
 rw [<-hdom] at HC H1 hd1 hd2 ⊢
 have zfx:=qh hdom
 clear hdom
 obtain⟨c0,c1,c2⟩:=HC.out W (Below.refl _ _)
 go_wp2_with fail
 clear c0 c1 c2
 go_loopg [3,4] n (λgg s3 s4 wr=>∃(i:Nat) (m:Int),i<=n/\Hid (gg=n - i)/\s4= .int .i64 i/\Hid (Below W.heap.size W wr)/\s3= .int .i64 m/\Hid (m=p9 c i))
 case atStart=>exact⟨0,1,Nat.zero_le _,rfl,rfl,Below.refl _ _,rfl,rfl⟩
 case round=>
 obtain⟨i,m,hi,HG,rfl,qy,rfl,wO⟩:=hrel
 obtain⟨wo,rfl⟩:∃wo:World,wo=wr:=⟨_,rfl⟩
 obtain⟨c0,c1,c2⟩:=HC.out wo qy.out
 by_cases hlt:i<n
 rotate_left
 ·obtain rfl:n=i:=by omega
  have hfin:vB c=decide (5000<m):=by rw [wO.out,HN.out];rfl
  have zZ:=qh hfin
  clear hfin
  go_wp2_with fail
  go_ret
  rw [zZ.out]
  exact⟨by first|rfl|simp,zm HB.out qy.out⟩
 have qQ:(i:Int)<(n:Int):=by omega
 obtain⟨eb,eo,ka,kc,rfl,wT,xq,hel⟩:=yw.part HT.out i (by rw [<-HN.out];exact hlt)
 obtain⟨l,hl⟩:∃l,l=c.threads.getD i [] :=⟨_,rfl⟩
 rw [<-hl] at xq hel
 obtain⟨ln,hln⟩:∃ln,ln=l.length:=⟨_,rfl⟩
 rw [<-hln] at xq hel
 have e0:=zi (zm qM.out qy.out) _ _ xq
 have HL:=qh hl
 have yM:=qh hln
 have pE:=qh hel
 have HEC:=qh xq
 have hl6:ln<=100000:=by rw [hln,hl];exact yS.out i (by rw [<-HN.out];exact hlt)
 clear hl hln xq hel wT
 go_wp2_with fail
 clear e0 c0 c1 c2
 go_loopg [3,5] ln (λgg s3 s5 wr=>∃(q:Nat) (k:Int),q<=ln/\Hid (gg=ln - q)/\s5= .int .i64 q/\Hid (Below W.heap.size W wr)/\s3= .int .i64 k/\Hid (k=xP dom l q m))
 case atStart=>exact⟨0,m,Nat.zero_le _,rfl,rfl,qy.out,rfl,rfl⟩
 case round=>
 obtain⟨q,k,hq,HG2,rfl,HB2,rfl,HKI⟩:=hrel
 obtain⟨qd,rfl⟩:∃qd:World,qd=wr:=⟨_,rfl⟩
 obtain⟨c0,c1,c2⟩:=HC.out qd HB2.out
 have e0:=zi (zm qM.out HB2.out) _ _ HEC.out
 by_cases hlq:q<ln
 rotate_left
 ·obtain rfl:ln=q:=by omega
  have hk:k=p9 c (i+1):=by rw [HKI.out,wO.out,yM.out,HL.out,zfx.out];rfl
  have HK:=qh hk
  clear hk
  go_wp2_with fail
  go_roundg (n - (i+1))
  case measure=>rw [HG.out];omega
  case rel=>exact⟨i+1,k,by omega,rfl,by simp,HB2.out,rfl,HK.out⟩
 have zfv:(q:Int)<(ln:Int):=by omega
 obtain⟨fb,fo,aa,ac,ba,bc,rfl, -,⟨x0,x1,x2⟩,⟨x3,x4,x5,x6⟩,⟨x7,x8,x9,x10⟩,qZ,xa,xb⟩:=qD.part (zh.below (yH.stays d) pE.out (zm qM.out HB2.out)) q (by rw [<-yM.out];exact hlq)
 obtain⟨x,hx⟩:∃x,x=l.getD q default:=⟨_,rfl⟩
 rw [<-hx] at x0 x1 x2 x3 x4 x5 x6 x7 x8 x9 x10 qZ xa xb
 have HX:=qh hx
 clear hx
 clear x1 x2 x3 x4 x5 x6 x7 x8 x9 x10 qZ
 have hrk:0<=k/\k<=80000:=by rw [HKI.out];exact za4 hd1 hd2 (by rw [wO.out];exact HR.out i) q
 obtain⟨hk0,hk8⟩:=hrk
 obtain⟨op,hop⟩:∃v,v=x.op:=⟨_,rfl⟩
 have hnx:xP dom l (q+1) m=kT dom k op:=by rw [hop,HX.out,HKI.out];rfl
 rw [<-hop] at x0
 unfold kT at hnx
 have jE:=qh hnx
 clear hop hnx
 by_cases hk5:k<=5000
 rotate_left
 ·have xS:Hid (k=xP dom l (q+1) m):=by show _=_;rw [jE.out,if_neg (λh=>hk5 h.2)]
  by_cases o1:op=1
  ·subst o1
   go_wp2_with fail
   go_roundg (ln - (q+1))
   case measure=>rw [HG2.out];omega
   case rel=>exact⟨q+1,k,by omega,rfl,by simp,HB2.out,rfl,xS.out⟩
  have n1:((op:Int)==1)=false:=by simpa using o1
  by_cases o6:op=6
  ·subst o6
   go_wp2_with fail
   go_roundg (ln - (q+1))
   case measure=>rw [HG2.out];omega
   case rel=>exact⟨q+1,k,by omega,rfl,by simp,HB2.out,rfl,xS.out⟩
  have n6:((op:Int)==6)=false:=by simpa using o6
  go_wp2_with fail
  go_roundg (ln - (q+1))
  case measure=>rw [HG2.out];omega
  case rel=>exact⟨q+1,k,by omega,rfl,by simp,HB2.out,rfl,xS.out⟩
 have hmul:0<=k*dom/\k*dom<=80000:=by
  refine⟨Int.mul_nonneg hk0 hd1, ?_⟩
  have h1:k*dom<=5000*dom:=Int.mul_le_mul_of_nonneg_right hk5 hd1
  omega
 have hwr:IntKind.i64.wrap (k*dom)=k*dom:=IntWalk.i64_in _ (by omega)
 by_cases o1:op=1
 ·subst o1
  have xS:Hid (k*dom=xP dom l (q+1) m):=by show _=_;rw [jE.out,if_pos ⟨Or.inl rfl,hk5⟩]
  go_wp2_with fail
  go_roundg (ln - (q+1))
  case measure=>rw [HG2.out];omega
  case rel=>exact⟨q+1,k*dom,by omega,rfl,by simp,HB2.out,rfl,xS.out⟩
 have n1:((op:Int)==1)=false:=by simpa using o1
 by_cases o6:op=6
 ·subst o6
  have xS:Hid (k*dom=xP dom l (q+1) m):=by show _=_;rw [jE.out,if_pos ⟨Or.inr rfl,hk5⟩]
  go_wp2_with fail
  go_roundg (ln - (q+1))
  case measure=>rw [HG2.out];omega
  case rel=>exact⟨q+1,k*dom,by omega,rfl,by simp,HB2.out,rfl,xS.out⟩
 have n6:((op:Int)==6)=false:=by simpa using o6
 have xS:Hid (k=xP dom l (q+1) m):=by show _=_;rw [jE.out,if_neg (by omega)]
 go_wp2_with fail
 go_roundg (ln - (q+1))
 case measure=>rw [HG2.out];omega
 case rel=>exact⟨q+1,k,by omega,rfl,by simp,HB2.out,rfl,xS.out⟩
