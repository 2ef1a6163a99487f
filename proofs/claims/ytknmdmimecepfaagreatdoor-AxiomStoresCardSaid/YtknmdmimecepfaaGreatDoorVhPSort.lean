/- Steps. -/
import Derived.Test.YtknmdmimecepfaaGreatDoorVhSame7
import Derived.Test.YtknmdmimecepfaaGreatDoorVhSortP
set_option linter.all false
namespace Go.Proofs.YtknmdmimecepfaaGreatDoor
open Go.RowKit
set_option maxRecDepth 100000
set_option maxHeartbeats 16000000
theorem zjf {l:List zy} {css:List (List Value)} (h:css.length=l.length):xW (l.zip css)=css.flatten:=by
 induction l generalizing css with
 |nil=>cases css with
  |nil=>rfl
  |cons c css=>simp at h
 |cons x l ih=>
 cases css with
 |nil=>simp at h
 |cons c css=>
 have:=ih (css:=css) (by simpa using h)
 simp only [xW,List.zip_cons_cons,List.flatMap_cons,List.flatten_cons] at this ⊢
 rw [this]
theorem zg5 {l:List zy} {css:List (List Value)} (h:css.length=l.length) {p:qj} (hp:p∈l.zip css):∃j,j<l.length/\p=(l.getD j default,css.getD j []):=by
 obtain⟨j,hj,e⟩:=List.getElem_of_mem hp
 have hj2:j<l.length:=by simp at hj;omega
 refine⟨j,hj2, ?_⟩
 rw [<-e,List.getElem_zip,List.getD_eq_getElem?_getD,List.getD_eq_getElem?_getD,List.getElem?_eq_getElem hj2,List.getElem?_eq_getElem (by omega)]
 rfl
theorem zmA {l:List zy} {css:List (List Value)} (h:css.length=l.length) {x:zy} (hx:x∈l):∃p∈l.zip css,p.1=x:=by
 obtain⟨j,hj,e⟩:=List.getElem_of_mem hx
 refine⟨(l.zip css)[j]'(by simp;omega),List.getElem_mem _, ?_⟩
 rw [List.getElem_zip];exact e
theorem zhB {M:Nat} {P:List qj} (hM:∀p∈P,p.1.mem.length=M) (hs:∀i j,i<j->j<P.length->¬zG (zu (P.getD j default).1) (zu (P.getD i default).1)<0):
  ∀i,i<=P.length->jw ((zK P i).map (·.1))/\(0<i->∀p∈zK P i,¬zG (zu (P.getD (i - 1) default).1) (zu p.1)<0)/\(∀j,j<i->∃p∈zK P i,zu p.1=zu (P.getD j default).1):=by
 intro i
 induction i with
 |zero=>intro _;exact⟨by simp [zK,jw],λh=>absurd h (by omega),λj hj=>by omega⟩
 |succ i ih=>
 intro hi
 obtain⟨h1,h2,h3⟩:=ih (by omega)
 rcases Nat.eq_zero_or_pos i with e0|e0
 ·subst e0
  have:zK P (0+1)= [P.getD 0 default] :=by unfold zK;rw [if_pos (.inl rfl)];rfl
  rw [this]
  refine⟨by simp [jw],λ_ p hp=> ?_,λj hj=>⟨_,List.mem_singleton.2 rfl,by rw [show j=0 by omega]⟩⟩
  rw [List.mem_singleton.1 hp]
  simp only [Nat.add_sub_cancel]
  rw [qY];omega
 have hge:∀p∈zK P i,¬zG (zu (P.getD i default).1) (zu p.1)<0:=λp hp hlt=>by
  have a:=h2 e0 p hp
  have b:=hs (i - 1) i (by omega) (by omega)
  rcases gU (zu (P.getD i default).1) (zu (P.getD (i - 1) default).1) with e|e|e
  ·omega
  ·rw [gY e] at hlt;exact a hlt
  have c:zG (zu (P.getD (i - 1) default).1) (zu (P.getD i default).1)<0:=by rw [wW (zu (P.getD i default).1)];omega
  exact a (kG c hlt)
 by_cases he:uK (P.getD i default) (P.getD (i - 1) default)=true
 ·rw [zaV e0 he]
  have hfe:zu (P.getD i default).1=zu (P.getD (i - 1) default).1:=by
   unfold uK at he
   simp only [Bool.and_eq_true,decide_eq_true_eq] at he
   exact gY he.1
  refine⟨h1,λ_ p hp=> ?_,λj hj=> ?_⟩
  ·simp only [Nat.add_sub_cancel];exact hge p hp
  by_cases hj2:j=i
  ·subst hj2
   obtain⟨p,hp,e⟩:=h3 (j - 1) (by omega)
   exact⟨p,hp,by rw [e,hfe]⟩
  exact h3 j (by omega)
 have he:uK (P.getD i default) (P.getD (i - 1) default)=false:=by simpa using he
 rw [zcF he]
 have hne:zu (P.getD i default).1≠zu (P.getD (i - 1) default).1:=λe=>by
  unfold uK at he
  rw [e,qY,hM _ (zV (by omega)),hM _ (zV (by omega))] at he
  simp at he
 have hlt:∀p∈zK P i,zG (zu p.1) (zu (P.getD i default).1)<0:=λp hp=>by
  have a:=h2 e0 p hp
  have b:zG (zu (P.getD (i - 1) default).1) (zu (P.getD i default).1)<0:=by
   have b0:=hs (i - 1) i (by omega) (by omega)
   rw [wW (zu (P.getD i default).1)]
   rcases gU (zu (P.getD i default).1) (zu (P.getD (i - 1) default).1) with e|e|e
   ·omega
   ·exact absurd (gY e) hne
   omega
  rcases gU (zu (P.getD (i - 1) default).1) (zu p.1) with e|e|e
  ·omega
  ·rw [<-gY e];exact b
  have c:zG (zu p.1) (zu (P.getD (i - 1) default).1)<0:=by rw [wW (zu (P.getD (i - 1) default).1)];omega
  exact kG c b
 refine⟨?_,λ_ p hp=> ?_,λj hj=> ?_⟩
 ·rw [List.map_append]
  unfold jw at h1 ⊢
  rw [List.pairwise_append]
  refine⟨h1,by simp,λx hx y hy=> ?_⟩
  simp only [List.map_cons,List.map_nil,List.mem_singleton] at hy
  obtain⟨p,hp,rfl⟩:=List.mem_map.1 hx
  rw [hy];exact hlt p hp
 ·simp only [Nat.add_sub_cancel]
  rcases List.mem_append.1 hp with hp|hp
  ·exact hge p hp
  rw [List.mem_singleton.1 hp,qY];omega
 by_cases hj2:j=i
 ·subst hj2;exact⟨_,List.mem_append_right _ (List.mem_singleton.2 rfl),rfl⟩
 obtain⟨p,hp,e⟩:=h3 j (by omega)
 exact⟨p,List.mem_append_left _ hp,e⟩
def vH (_M:Nat) (l r:List zy):Prop:=jw r/\(∀x∈r,x∈l)/\∀x∈l,∃y∈r,zu y=zu x
def zk8 (w:World) (M:Nat) (l:List zy) (e:Ending) (w':World):Prop:=∃r,vH M l r/\ziB w r e w'
theorem zk9 {M:Nat} {l:List zy} {css:List (List Value)} (hc:css.length=l.length) (hM:∀x∈l,x.mem.length=M) {P':List qj} (_h1:P'.length=(l.zip css).length) (h2:∀p∈P',p∈l.zip css) (h3:∀p∈l.zip css,p∈P')
  (hs:∀i j,i<j->j<P'.length->¬zG (zu (P'.getD j default).1) (zu (P'.getD i default).1)<0):vH M l ((zK P' P'.length).map (·.1)):=by
 have hin:∀p∈P',p.1∈l:=λp hp=>by
  obtain⟨j,hj,rfl⟩:=zg5 hc (h2 p hp)
  exact zV hj
 obtain⟨a, -,b⟩:=zhB (M:=M) (λp hp=>hM _ (hin p hp)) hs P'.length (Nat.le_refl _)
 refine⟨a,λx hx=> ?_,λx hx=> ?_⟩
 ·obtain⟨p,hp,rfl⟩:=List.mem_map.1 hx
  exact hin p (zcG (Nat.le_refl _) hp)
 obtain⟨p,hp,rfl⟩:=zmA hc hx
 obtain⟨j,hj,e⟩:=List.getElem_of_mem (h3 p hp)
 obtain⟨q,hq,e2⟩:=b j hj
 refine⟨q.1,List.mem_map.2 ⟨q,hq,rfl⟩, ?_⟩
 rw [e2,List.getD_eq_getElem?_getD,List.getElem?_eq_getElem hj, <-e];rfl
theorem take_one {l:List zy} {i:Nat} (hi:i<l.length):l.take (i+1)=l.take i++ [l.getD i default] :=zkn hi
theorem zjg (w:World) (M:Nat) (l:List zy) (lv:Value) (hl:yK w lv l) (hM:∀x∈l,x.mem.length=M) (bQ:∀x∈l,j4 x) (hn:l.length<=1000000):
  Calls Tryz.prog 26 #[lv] w (zk8 w M l):=by
 obtain⟨la,lc,rfl, -⟩:=zf.slice hl
 obtain⟨n,hnn⟩:∃n,n=l.length:=⟨_,rfl⟩
 rw [<-hnn] at hl hn ⊢
 have HL:=qh hl
 have HN:=qh hnn
 have zqO:=qh bQ
 have HM:=qh hM
 clear hl hnn bQ hM
 go_enter Tryz.func26,Tryz.ntmps26
 go_wp2_with fail
 go_loopg [3,10] n (λgg s3 s10 wr=>∃(i:Nat) (oa:Option Addr) (oc:Nat) (css:List (List Value)),i<=n/\Hid (gg=n - i)/\s3= .slice oa i oc/\s10= .int .i64 i/\Hid (kr w wr yL 2 111 (.slice oa i oc) (l.take i) css))
 case atStart=>exact⟨0,none,0, [],Nat.zero_le _,rfl,rfl,rfl,kr.nil _ _ _ _ (Below.refl _ _)⟩
 case round=>
 obtain⟨i,oa,oc,css,hi,HG,rfl,rfl,HR⟩:=hrel
 by_cases hlt:i<n
 ·have qK:(i:Int)<(n:Int):=by omega
  obtain⟨b,off,ga,gc,ka,kc,hea, -,x0,x1,hfi⟩:=yK.part HL.out i (by rw [<-HN.out];exact hlt)
  subst hea
  have htg:=take_one (l:=l) (i:=i) (by rw [<-HN.out];exact hlt)
  have hlen:(l.take i).length=i:=by rw [List.length_take, <-HN.out];omega
  generalize l.getD i default=f at x0 x1 hfi htg
  generalize f.mem.length=fm at x0 hfi
  generalize f.regs.length=fr at x1 hfi
  have hcp:yL w f [.slice ga fm gc, .slice ka fr kc] :=⟨_,_,rfl,hfi⟩
  have HCP:=qh hcp
  have HTG:=qh htg
  have HLEN:=qh hlen
  replace x0:=zk HR.out.below _ _ x0
  replace x1:=zk HR.out.below _ _ x1
  clear hcp hfi htg hlen
  go_upto_region 5 with fail
  clear x0 x1
  have hrx:=HR.out.later ((Below.refl wr.heap.size wr).alloc (Nat.le_refl _) (.cells #[.slice ga fm gc, .slice ka fr kc] 51))
  have htb:=yG wr (.cells #[.slice ga fm gc, .slice ka fr kc] 51)
  have HRX:=qh hrx
  have HTB:=qh htb
  clear hrx htb
  generalize World.alloc wr _=X at HRX HTB ⊢
  generalize wr.heap.size=tb at HTB ⊢
  have t0:=ze HTB.out 0
  have t1:=ze HTB.out 1
  have hrow:=HRX.out.row
  rw [HLEN.out] at hrow
  have qw:=qh hrow
  clear hrow
  go_wp2_with(at_builtin;go_must(refine qO _ rfl _ _ 110 rfl 111 (.agg #[.slice none 0 0, .slice none 0 0]) 2 48 Tryz.underlying110 zkA rfl (by decide) w.heap.size (.slice oa i oc) i (css.flatten) rfl ((qw.out).alloc _) ⟨X.heap.size,0,none⟩ 1 1 [.slice ga fm gc, .slice ka fr kc] rfl rfl (kW _ [.slice ga fm gc, .slice ka fr kc] _) (by simp [Value.oneCell']) (by unfold maxLen;omega) (by omega) (by have:=HRX.out.below.size;simp;omega) ?_);intro ja jc X2 f1 f2 f3 f4 f5 f6;(have HP:=qh (HRX.out.push (x:=f) (cs:= [.slice ga fm gc, .slice ka fr kc]) HCP.out rfl (by rw [HLEN.out];exact f1) f4));clear f1 f2 f3 f4 f5 f6)
  go_roundg (n - (i+1))
  case measure=>rw [HG.out];omega
  case rel=>exact⟨i+1,ja,jc,_,by omega,rfl,rfl,by simp,by rw [Hid,HTG.out];exact HP.out⟩
 obtain rfl:n=i:=by omega
 have hR:=HR.out
 rw [HN.out,List.take_length] at hR
 rw [<-HN.out] at hR
 have gF:=qh hR
 clear hR HR
 have hcl:css.length=l.length:=gF.out.len
 have hzl:(l.zip css).length=n:=by rw [List.length_zip,hcl, <-HN.out];omega
 have zhC:wr.ownsRow w.heap.size 111 2 (.slice oa n oc) (l.zip css).length (xW (l.zip css)):=by
  rw [zjf hcl,hzl]
  have:=gF.out.row
  rw [<-HN.out] at this
  exact this
 have hF:∀k,(Value.slice oa n oc).ownBlock=some k->w.heap.size<=k:=λk hk=>(zhC.lt k hk).1
 have hok:∀p∈l.zip css,okP (λk=>(Value.slice oa n oc).ownBlock=some k) wr p:=λp hp=>by
  obtain⟨j,hj,rfl⟩:=zg5 hcl hp
  obtain⟨a,b⟩:=gF.out.part j hj
  exact⟨a,λy hy=>yL.stays _ _ _ _ b (gF.out.below.trans (hy.below gF.out.below.size (λk hk=>hF k hk))),zqO.out _ (zV hj)⟩
 have hsort:=zfk wr w.heap.size (.slice oa n oc) (l.zip css) zhC hok (by rw [hzl];exact hn)
 have zlF:=qh hsort
 have qp:=qh hok
 have HF:=qh hF
 have HZL:=qh hzl
 have zqP:=qh hcl
 clear hcl hzl zhC hF hok hsort
 go_upto_region 8 with(go_at_call 47;go_must(refine zlF.out.mono ?_);rintro e W2 ⟨rfl,⟨P',hp1,hp2,hp3,hp4,hp5⟩,hs2⟩;(have HP1:=qh hp1);(have HP2:=qh hp2);(have HP3:=qh hp3);(have HP4:=qh hp4);(have HP5:=qh hp5);(have HS2:=qh hs2);clear hp1 hp2 hp3 hp4 hp5 hs2)
 have hb2:Below w.heap.size w W2:=gF.out.below.trans (HS2.out.below gF.out.below.size (λk hk=>HF.out k hk))
 have hpl:P'.length=n:=by rw [HP1.out,HZL.out]
 have hok2:∀p∈P',okP (λk=>(Value.slice oa n oc).ownBlock=some k) W2 p:=λp hp=>by
  obtain⟨a,b,c⟩:=qp.out p (HP2.out p hp)
  exact⟨a,b.step HS2.out (λk hk=> .inl hk) (λk hk=> .inl hk),c⟩
 have hcomp:=zge W2 w.heap.size (.slice oa n oc) P' (by have:=HP5.out;rw [HZL.out] at this;rw [hpl];exact this) hok2 (by rw [hpl];exact hn)
 have hres:=zk9 zqP.out HM.out HP1.out HP2.out HP3.out (λi j h1 h2=>by have:=HP4.out i j h1 h2;omega)
 have hdl:(zK P' P'.length).length<=n:=by have:=zhu P' P'.length;omega
 have HB2:=qh hb2
 have zhD:=qh hcomp
 have zkB:=qh hres
 clear hb2 hok2 hcomp hres HP1 HP2 HP3 HP4 HP5 zlF qp HS2
 clear hpl
 generalize zK P' P'.length=D at zhD zkB hdl
 obtain⟨r,hr⟩:∃r,r=D.map (·.1):=⟨_,rfl⟩
 obtain⟨m,hm⟩:∃m,m=r.length:=⟨_,rfl⟩
 have hmd:D.length=m:=by rw [hm,hr,List.length_map]
 have zjh:Calls Tryz.prog 49 #[.slice oa n oc, .func (.func 50) #[] #[]] W2 λe w'=>(∃xa xc,e= .returned (.slice xa m xc)/\yK w' (.slice xa m xc) r)/\Since (λk=>(Value.slice oa n oc).ownBlock=some k) W2 w':=by
  have:=zhD.out
  unfold zd7 at this
  rw [hmd, <-hr] at this
  exact this
 rw [<-hr] at zkB
 have znJ:=qh zjh
 have kN:=qh hm
 have hml:m<=1000000:=by omega
 clear hr hm hmd zjh zhD hdl
 go_upto_region 9 with(go_at_call 49;go_must(refine znJ.out.mono ?_);rintro e W3 ⟨⟨xa,xc,rfl,hx⟩,hs3⟩;(have HX:=qh hx);(have HB3:Hid (Below w.heap.size w W3):=HB2.out.trans (hs3.below HB2.out.size (λk hk=>HF.out k hk)));clear hx hs3)
 go_wp2_with fail
 go_loopg [2,24] m (λgg s2 s24 wr=>∃(i:Nat) (ya:Option Addr) (yc:Nat) (cs2:List (List Value)),i<=m/\Hid (gg=m - i)/\s2= .slice ya i yc/\s24= .int .i64 i/\Hid (kr W3 wr yL 2 51 (.slice ya i yc) (r.take i) cs2))
 case atStart=>exact⟨0,none,0, [],Nat.zero_le _,rfl,rfl,rfl,kr.nil _ _ _ _ (Below.refl _ _)⟩
 case round=>
 obtain⟨i,ya,yc,cs2,hi2,HG2,rfl,rfl,HR⟩:=hrel
 by_cases hlt2:i<m
 rotate_left
 ·obtain rfl:m=i:=by omega
  have hR:=HR.out
  rw [kN.out,List.take_length] at hR
  rw [<-kN.out] at hR
  have HRR:=qh hR
  clear hR HR
  go_wp2_with fail
  go_ret
  exact⟨r,zkB.out,ziC kN.out (HRR.out.slice yL.stays) (HB3.out.trans (HRR.out.below.mono HB3.out.size))⟩
 have qK:(i:Int)<(m:Int):=by omega
 obtain⟨b,off,ga,gc,ka,kc,hea, -,x0,x1,hfi⟩:=yK.part HX.out i (by rw [<-kN.out];exact hlt2)
 subst hea
 have htg:=take_one (l:=r) (i:=i) (by rw [<-kN.out];exact hlt2)
 have hlen:(r.take i).length=i:=by rw [List.length_take, <-kN.out];omega
 generalize r.getD i default=f at x0 x1 hfi htg
 generalize f.mem.length=fm at x0 hfi
 generalize f.regs.length=fr at x1 hfi
 have hcp:yL W3 f [.slice ga fm gc, .slice ka fr kc] :=⟨_,_,rfl,hfi⟩
 have HCP:=qh hcp
 have HTG:=qh htg
 have HLEN:=qh hlen
 replace x0:=zk HR.out.below _ _ x0
 replace x1:=zk HR.out.below _ _ x1
 clear hcp hfi htg hlen
 go_upto_region 11 with fail
 clear x0 x1
 have hrx:=HR.out.later ((Below.refl wr.heap.size wr).alloc (Nat.le_refl _) (.cells #[.slice ga fm gc, .slice ka fr kc] 111))
 have htb:=yG wr (.cells #[.slice ga fm gc, .slice ka fr kc] 111)
 have HRX:=qh hrx
 have HTB:=qh htb
 clear hrx htb
 generalize World.alloc wr _=X at HRX HTB ⊢
 generalize wr.heap.size=tb at HTB ⊢
 have t0:=ze HTB.out 0
 have t1:=ze HTB.out 1
 have hrow:=HRX.out.row
 rw [HLEN.out] at hrow
 have qw:=qh hrow
 clear hrow
 go_wp2_with(at_builtin;go_must(refine qO _ rfl _ _ 27 rfl 51 (.agg #[.slice none 0 0, .slice none 0 0]) 2 48 Tryz.underlying27 zhq rfl (by decide) W3.heap.size (.slice ya i yc) i (cs2.flatten) rfl ((qw.out).alloc _) ⟨X.heap.size,0,none⟩ 1 1 [.slice ga fm gc, .slice ka fr kc] rfl rfl (kW _ [.slice ga fm gc, .slice ka fr kc] _) (by simp [Value.oneCell']) (by unfold maxLen;omega) (by omega) (by have:=HRX.out.below.size;simp;omega) ?_);intro ja jc X2 f1 f2 f3 f4 f5 f6;(have HP:=qh (HRX.out.push (x:=f) (cs:= [.slice ga fm gc, .slice ka fr kc]) HCP.out rfl (by rw [HLEN.out];exact f1) f4));clear f1 f2 f3 f4 f5 f6)
 go_roundg (m - (i+1))
 case measure=>rw [HG2.out];omega
 case rel=>exact⟨i+1,ja,jc,_,by omega,rfl,rfl,by simp,by rw [Hid,HTG.out];exact HP.out⟩
