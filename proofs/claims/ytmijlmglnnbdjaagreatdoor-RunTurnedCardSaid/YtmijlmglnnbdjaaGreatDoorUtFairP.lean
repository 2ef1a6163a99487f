/- Steps. -/
import Derived.Test.YtmijlmglnnbdjaaGreatDoorUtPRunS
import Derived.Test.YtmijlmglnnbdjaaGreatDoorUtRunE
set_option linter.all false
namespace Go.Proofs.YtmijlmglnnbdjaaGreatDoor
open Go.RowKit
set_option maxRecDepth 100000
set_option maxHeartbeats 16000000
theorem zpz {c:zG} {m:zC} {d:Nat} {l:List zw} {back:Int} {S:List zo} {b:Int} (h:(S,b)=yM c m l back d):(b=0->∃bk,z3J c m d l back S bk)/\(b≠0->gM c m l back d=false):=by
 have g:S=(yM c m l back d).1:=by rw [<-h]
 have f:b=(yM c m l back d).2:=by rw [<-h]
 subst g f;exact⟨λh=>zpv h,λh=>zmT h⟩
theorem zcJ {α:Type} [Inhabited α] {R:World->α->List Value->Prop} {size n d:Nat} {w:World} {a:Option Addr} {l:List α} (h:zh R size w (.slice a n d) l) (g:1<=l.length):∃b c,a=some ⟨b,c,none⟩:=by
 obtain⟨b,c,cs,f, -⟩:=h.part 0 g;exact⟨b,c,f⟩
theorem zj0 (w:World) (c:zG) (cv:Value) (d:Nat) (hc:yP d w cv c.threads) (m:zC) (lv:Value) (l:List zw) (R:qB w lv l) (M:∀x∈l,vZ x) (back:Int):Calls Tryz.prog 15 #[yj c cv,yE m, .agg #[lv,I4 back]] w (zbX (gM c m l back d) w):=by
 obtain⟨G,cc,rfl, -⟩:=zh.slice hc;obtain⟨la,u,rfl,P⟩:=zh.slice R;have b:=λW (hW:Below w.heap.size w W)=>bP W c (.slice G c.threads.length cc) d (zh.below (xV.stays d) hc hW) m (.slice la l.length u) l (jT R hW) back;have f:=λW (hW:Below w.heap.size w W) lv2 l2 hl2 mv2 m2 hm2 h1 h2 h3 h4=>zla W c (.slice G c.threads.length cc) d (zh.below (xV.stays d) hc hW) m lv2 l2 hl2 mv2 m2 hm2 h1 h2 h3 h4;obtain⟨⟨S,er⟩,hS⟩:∃p,p=yM c m l back d:=⟨_,rfl⟩;have B:=zpz hS;rw [<-hS] at b;obtain⟨FR,E⟩:=qxE (gM c m l back d)
 have r:er=0->∃bk:Nat,back=bk/\S.length=l.length/\bk<l.length/\(∀s∈S,kH 33 s)/\FR=zaw c m d (S.drop bk) (l.drop bk):=λh=>by
  obtain⟨bk,N⟩:=B.1 h;exact⟨bk,N.eq,N.len,N.lt,λs F=>ziZ (N.fits s F),by rw [E,N.fair]⟩
 have z:=B.2;rw [<-E] at z ⊢;obtain⟨FA,Y⟩:=qxE (zaw c m d);rw [<-Y] at r f;clear B hS E Y hc;unfold yj yE at b f ⊢;generalize c.threads.length=cn at b f ⊢;generalize c.vars=vars at b f ⊢;generalize c.domain=dom at b f ⊢;generalize m.model=mod at b f ⊢;generalize m.bound=bnd at b f ⊢;clear c m;obtain⟨ln,A⟩:=qxE l.length;rw [<-A] at R P b r ⊢;obtain⟨hB,h1,h2,h3⟩:=jX w (.cells #[I4 vars,I4 dom, .slice G cn cc] 25) (.cells #[I4 mod,I4 bnd] 30) (.cells #[.slice la ln u,I4 back] 42);have H:=qh hB;have I:=qh h1;have H2:=qh h2;have Q:=qh h3;have HST:=qh b;have HPF:=qh f;have qd:=qh r;have HG2:=qh z
 have HL:=qh R;have qP:=qh A;have HWF:=qh M;clear hB h1 h2 h3 b f r z R A M;go_enter Tryz.func15,Tryz.ntmps15
 go_upto_region 1 with fail
 generalize World.alloc (World.alloc (World.alloc w _) _) _=W at H I H2 Q ⊢;obtain⟨g,T⟩:=qxE w.heap.size;rw [<-T] at I H2 Q ⊢;clear T;have hg2:g+1+1=g+2:=rfl
 have CC:J2 (∀y,Below W.heap.size W y->K3 y g 0 (I4 vars)/\K3 y g 1 (I4 dom)/\K3 y g 2 (.slice G cn cc)/\K3 y (g+1) 0 (I4 mod)/\K3 y (g+1) 1 (I4 bnd)/\
   K3 y (g+2) 0 (.slice la ln u)/\K3 y (g+2) 1 (I4 back)):=λy j=>
  ⟨zl j _ _ (ze I.o 0),zl j _ _ (ze I.o 1),zl j _ _ (ze I.o 2),zl j _ _ (ze H2.o 0),zl j _ _ (ze H2.o 1),zl j _ _ (ze Q.o 0),zl j _ _ (ze Q.o 1)⟩
 obtain⟨c0,c1,c2,c3,c4,c5,c6⟩:=CC.o W (Below.refl _ _);clear I H2 Q;go_upto_region 2 with(go_at_call 14;go_must(refine(HST.o W H.o).mono ?_);rintro e X ⟨⟨a,n,t,hn,rfl,F⟩,V⟩;have Z:=qh V;have gu:=qh F;have HN:=qh hn;clear V F hn)
 clear c0 c1 c2 c3 c4 c5 c6;by_cases her:er=0
 rotate_left
 ·have hz:(er==0)=false:=by simpa using her
  have k:FR=false:=HG2.o her;have HFR:=qh k;clear k;refine qz (S:=λx=>Below X.heap.size X x) ((Below.refl _ _).drew) (λha=> ?_)
  refine qta 0 16 ?va1 rfl ?zBD ?_
  case zBD=>(intro x h;go_simp<;>rfl)
  simp only [Act.put,jJ,jK,jL];refine qta 1 17 ?va2 rfl ?zBE ?_
  case zBE=>(intro x h;go_simp<;>rfl)
  simp only [Act.put,jJ,jK,jL];refine qta 2 18 ?va3 rfl ?zBF ?_
  case zBF=>(intro x h;go_simp<;>rfl)
  simp only [Act.put,jJ,jK,jL];refine zS 3 (by assumption) ?_
  refine zS 4 (by assumption) ?_
  refine zS 5 (by assumption) ?_
  refine zS 6 (by assumption) ?_
  refine zS 7 (by assumption) ?_
  refine zS 8 (by assumption) ?_
  refine zS 9 (by assumption) ?_
  refine zS 10 (by assumption) ?_
  refine zS 11 (by assumption) ?_
  refine zS 12 (by assumption) ?_
  refine zS 13 (by assumption) ?_
  refine zS 14 (by assumption) ?_
  refine qta 15 31 ?zGb rfl ?z7B ?_
  case z7B=>(intro x h;go_simp<;>rfl)
  simp only [Act.put,jJ,jK,jL];refine qta 16 6 ?zGc rfl ?z7C ?_
  case z7C=>(intro x h;go_simp<;>rfl)
  simp only [Act.put,jJ,jK,jL];refine xC ?_
  go_wp2_with fail
  go_ret;rw [HFR.o];exact⟨rfl,zy H.o (zy Z.o ha)⟩
 subst her;obtain⟨bk,rfl,q,hbl,U,k⟩:=qd.o (by first|rfl|trivial);try simp only [] at HN gu
 have hnl:n=ln:=by rw [HN.o,q]
 subst hnl;obtain⟨ab,ao,rfl⟩:=zcJ gu.o (by rw [q];omega)
 obtain⟨lb,lo,rfl⟩:=zcJ HL.o (by rw [<-qP.o];omega)
 have v:=(zh.room gu.o);have L:=(zh.room HL.o);rw [q] at v;rw [<-qP.o] at L;have q1:(bk:Int)<=(n:Int):=by omega
 have q2:(bk:Int)<=(t:Int):=by omega
 have q3:¬(t:Int)=(bk:Int):=by omega
 have q4:¬t=bk:=by omega
 have q5:(bk:Int)<=(u:Int):=by omega
 have q6:¬(u:Int)=(bk:Int):=by omega
 have q7:¬u=bk:=by omega
 have C:(S.drop bk).length=n - bk:=by rw [List.length_drop,q]
 have O:(l.drop bk).length=n - bk:=by rw [List.length_drop, <-qP.o]
 have HFX:J2 (∀y,Below X.heap.size X y->Calls Tryz.prog 38 #[.agg #[I4 vars,I4 dom, .slice G cn cc], .agg #[I4 mod,I4 bnd], .slice (some ⟨ab,ao+bk*3,none⟩) (n - bk) (t - bk), .slice (some ⟨lb,lo+bk*3,none⟩) (n - bk) (u - bk)] y (zbX FR y)):=λy j=>by
  rw [k];exact HPF.o y (zy H.o (zy Z.o j)) _ _ (zh.below qY.stays (zh.rest gu.o bk (by omega)) j) _ _ (zh.below zdC.stays (zh.rest (jT HL.o (zy H.o Z.o)) bk (by omega)) j) (by rw [C];omega) (by rw [C,O];exact Nat.le_refl _) (λs F=>U s (zfk F)) (λx hx=>HWF.o x (zfk hx))
 have i:J2 (∀y,Below X.heap.size X y->K3 y g 0 (I4 vars)/\K3 y g 1 (I4 dom)/\K3 y g 2 (.slice G cn cc)/\K3 y (g+1) 0 (I4 mod)/\K3 y (g+1) 1 (I4 bnd)/\
   K3 y (g+2) 0 (.slice (some ⟨lb,lo,none⟩) n u)/\K3 y (g+2) 1 (I4 bk)):=λy j=>CC.o y (zy Z.o j)
 clear q U k C O v L CC;refine qz (S:=λx=>Below X.heap.size X x) ((Below.refl _ _).drew) (λD=> ?_)
 refine zi 0 i.o ?_
 refine zi 1 i.o ?_
 refine zi 2 i.o ?_
 refine zi 3 i.o ?_
 refine zi 4 i.o ?_
 refine zi 5 i.o ?_
 refine zi 6 i.o ?_
 refine zi 7 i.o ?_
 refine zi 8 i.o ?_
 refine zi 9 i.o ?_
 refine zi 10 i.o ?_
 refine zi 11 i.o ?_
 refine zi 12 i.o ?_
 refine zi 13 i.o ?_
 refine yA 14 rfl (λK hK=> ?_)
 go_simp
 refine(HFX.o X.drew D).mono ?_
 rintro e zBG ⟨rfl,V⟩;have J:Below X.heap.size X zBG:=zy D V;refine hK.out _ _ J (λ_=> ?_)
 clear hK K V D;refine zi 15 i.o ?_
 refine zi 16 i.o ?_
 refine xC ?_
 go_wp2_with fail
 go_ret;exact⟨rfl,zy H.o (zy Z.o J)⟩
