/- Steps. -/
import Derived.Test.YteggflahafiieaaGreatDoorZgFits
import Derived.Test.YteggflahafiieaaGreatDoorZgStep
set_option linter.all false
namespace Go.Proofs.YteggflahafiieaaGreatDoor
open Go.RowKit
set_option maxRecDepth 100000
set_option maxHeartbeats 16000000
theorem zaV (w:World) (o1 o2 o3 o4 o5:Obj):Below w.heap.size w (((((w.alloc o1).alloc o2).alloc o3).alloc o4).alloc o5)/\(((((w.alloc o1).alloc o2).alloc o3).alloc o4).alloc o5).heap[w.heap.size]? =some o1/\(((((w.alloc o1).alloc o2).alloc o3).alloc o4).alloc o5).heap[w.heap.size+1]? =some o2/\
  (((((w.alloc o1).alloc o2).alloc o3).alloc o4).alloc o5).heap[w.heap.size+2]? =some o3/\(((((w.alloc o1).alloc o2).alloc o3).alloc o4).alloc o5).heap[w.heap.size+3]? =some o4/\(((((w.alloc o1).alloc o2).alloc o3).alloc o4).alloc o5).heap[w.heap.size+4]? =some o5:=by
 obtain⟨h0,h1,h2,h3,h4, -⟩:=zaW w o1 o2 o3 o4
 refine⟨h0.alloc (by simp;omega) o5,(Below.heap_alloc _ _ _ (by simp;omega)).trans h1,(Below.heap_alloc _ _ _ (by simp;try omega)).trans h2,(Below.heap_alloc _ _ _ (by simp;try omega)).trans h3,(Below.heap_alloc _ _ _ (by simp;try omega)).trans h4, ?_⟩
 have:=yE ((((w.alloc o1).alloc o2).alloc o3).alloc o4) o5
 simpa using this
theorem jK.call {e t:TypeId} {size:Nat} {V X X':World} {v v':Value} {n n':Nat} {xs xs':List Value} {bs:List (Nat × List Value)} (h:jK e size t V X v n xs bs) (hb:Below X.heap.size X X') (hr:X'.ownsRow X.heap.size e size v' n' xs'):jK e size t V X' v' n' xs' bs:=
 ⟨zB h.below hb,xw hr h.below.size,λp hp=>⟨(hb.block _ (zq (h.news p hp).1)).trans (h.news p hp).1,λe=>by have:=(hr.lt _ e).1;have:=zq (h.news p hp).1;omega,(h.news p hp).2.2⟩⟩
theorem jK.storeAll {e t:TypeId} {size:Nat} {V X:World} {v:Value} {n:Nat} {xs:List Value} {bs:List (Nat × List Value)} (h:jK e size t V X v n xs bs) {g:Nat} {cs:List Value} (hb:(g,cs)∈bs) (l:List Value) (hl:cs.length=l.length):
  Below V.heap.size V (zY X g 0 l)/\(zY X g 0 l).heap[g]? =some (.cells l.toArray t (0,0))/\V.heap.size<=g/\(zY X g 0 l).ownsRow V.heap.size e size v n xs/\v.ownBlock≠some g:=by
 obtain⟨h1,h2,h3⟩:=h.news _ hb
 exact⟨h.below.trans ((yX l X 0).below h.below.size (λk e=>by omega)),xS l hl h1,h3,(yX l X 0).row h.row (λk hk e=>h2 (e ▸ hk)),h2⟩
def zeo (x:zN):Value:= .agg #[.int .i64 x.kind, .int .i64 x.thread, .int .i64 x.var]
def zqc (w:World) (r:zm × Int) (e:Ending) (w':World):Prop:=(∃xa xn xc ya yn yc bs,e= .returned (.tuple #[yR r.1 (.slice xa xn xc) (.slice ya yn yc), .int .i64 r.2])/\OwnAt w.heap.size w' (.slice xa xn xc) (.slice ya yn yc) r.1.threads r.1.mem bs)/\Below w.heap.size w w'
def zkS (o:Option zm):zm × Int:=match o with|some t=>(t,0)|none=>(yP,50)
theorem zrH (B:Nat) (w:World):OwnAt B w (.slice none 0 0) (.slice none 0 0) yP.threads yP.mem [] :=
 ⟨World.ownsRow_nil _ _ _ _,World.ownsRow_nil _ _ _ _,λj hj=>by simp [yP] at hj,rfl,λj hj=>by simp [yP] at hj,λj hj=>by simp [yP] at hj,λk hk=>by simp [Value.ownBlock] at hk,λi j hi=>by simp [yP] at hi⟩
theorem wP {w w':World} {r:zm × Int} {k:Int} (h:r=(yP,k)) (hb:Below w.heap.size w w'):zqc w r (.returned (.tuple #[.agg #[.slice none 0 0, .slice none 0 0, .bool false], .int .i64 k])) w':=by
 subst h;exact⟨⟨none,0,0,none,0,0, [],rfl,zrH _ _⟩,hb⟩
theorem zc3 {w w':World} {r:zm × Int} {s:zm} {xa ya:Option Addr} {xn xc yn yc:Nat} {bs:List Value} (h:r=(s,0)) (ho:OwnAt w.heap.size w' (.slice xa xn xc) (.slice ya yn yc) s.threads s.mem bs) (hb:Below w.heap.size w w'):zqc w r (.returned (.tuple #[.agg #[.slice xa xn xc, .slice ya yn yc, .bool s.bad], .int .i64 0])) w':=by
 subst h;exact⟨⟨xa,xn,xc,ya,yn,yc,bs,rfl,ho⟩,hb⟩
theorem zyK (w:World) (c:zK) (cv:Value) (d:Nat) (hc:yZ d w cv c.threads) (m:zF) (s:zm) (sv mv:Value) (hs:yh w s sv mv) (hb:∀j,j<s.threads.length->(s.threads.getD j default).buf.length<=100000) (x:zN):
  Calls Tryz.prog 31 #[yT c cv,xD m,yR s sv mv,zeo x] w (zqc w (ji c m s x d)):=by
 obtain⟨ca,cc,rfl, -⟩:=ze.slice hc
 obtain⟨ta,vE,rfl, -⟩:=ze.slice hs.threads
 obtain⟨ma,qN,rfl, -⟩:=ze.slice hs.mem
 obtain⟨fo,hfo⟩:∃fo,fo=xR c m s:=⟨_,rfl⟩
 obtain⟨R,hR⟩:∃R,R=ji c m s x d:=⟨_,rfl⟩
 rw [<-hR]
 have hfits:=λW hc hs=>zl9 W c (.slice ca c.threads.length cc) d hc m s (.slice ta s.threads.length vE) (.slice ma s.mem.length qN) hs (λj hj=>by have:=hb j hj;omega)
 rw [<-hfo] at hfits
 have hown:=λW hW=>zpf W s (.slice ta s.threads.length vE) (.slice ma s.mem.length qN) hW
 have hstep:=λW hc hs i=>λ(hf:fo=true) hi=>zlA W c (.slice ca c.threads.length cc) d hc m s (.slice ta s.threads.length vE) (.slice ma s.mem.length qN) hs (hfo.symm.trans hf) i hi hb
 have hff:fo=true->s.threads.length=c.threads.length/\(s.mem.length:Int)=c.vars/\1<=c.vars/\c.vars<=4/\c.threads.length<=4:=λe=>by
  obtain⟨h1, -,h2,h3, -⟩:=bD (hfo.symm.trans e)
  have h4:=qA h1
  exact⟨h2,h3,h4.1,h4.2.1,h4.2.2.2.2.2⟩
 have hfh:fo=true->∀i,i<s.threads.length->∀v,v∈yD (s.threads.getD i default).buf m.model->0<=v/\v<c.vars/\∃n,takeB (s.threads.getD i default).buf v=(some ⟨v,n⟩,(takeB (s.threads.getD i default).buf v).2):=λe i hi v hv=>zaC (hfo.symm.trans e) hi hv
 have hR2:R=(if fo then(if 0<=x.thread/\x.thread<(s.threads.length:Int) then(if x.kind=1/\x.var=0 then zkS (vT c m s x.thread.toNat d)
   else if x.kind=2/\x.var∈yD (s.threads.getD x.thread.toNat default).buf m.model then(kI s x.thread.toNat x.var,0) else(yP,50)) else(yP,50)) else(yP,1):zm × Int):=by rw [hR,hfo];rfl
 obtain⟨vars,dom,cs⟩:=c
 obtain⟨mod,bnd⟩:=m
 obtain⟨ts,mem,bad⟩:=s
 obtain⟨kind,th,vr⟩:=x
 have hT:=hs.threads
 have hME:=hs.mem
 obtain⟨C,hC⟩:∃C:zK,C=⟨vars,dom,cs⟩:=⟨_,rfl⟩
 obtain⟨M,hM⟩:∃M:zF,M=⟨mod,bnd⟩:=⟨_,rfl⟩
 obtain⟨S,hS⟩:∃S:zm,S=⟨ts,mem,bad⟩:=⟨_,rfl⟩
 rw [<-hC, <-hM, <-hS] at hR2
 simp only [] at hc hs hb hff hfh hfits hown hstep hR2 hT hME ⊢
 unfold yT xD yR zeo
 unfold yT xD yR at hfits hstep
 unfold yR at hown
 simp only [] at hown hfits hstep ⊢
 obtain⟨n,hn⟩:∃n,n=ts.length:=⟨_,rfl⟩
 obtain⟨cn,hcn⟩:∃cn,cn=cs.length:=⟨_,rfl⟩
 obtain⟨mn,hmn⟩:∃mn,mn=mem.length:=⟨_,rfl⟩
 rw [<-hn] at hs hT hown hb hfits hstep hff hfh ⊢
 rw [<-hmn] at hs hME hown hfits hstep hff ⊢
 rw [<-hcn] at hc hfits hstep hff ⊢
 obtain⟨hB,h1,h2,h3,h4,h5⟩:=zaV w (.cells #[.int .i64 vars, .int .i64 dom, .slice ca cn cc] 26) (.cells #[.int .i64 mod, .int .i64 bnd] 31) (.cells #[.slice ta n vE, .slice ma mn qN, .bool bad] 35) (.cells #[.int .i64 kind, .int .i64 th, .int .i64 vr] 43) (.cells #[.slice none 0 0, .slice none 0 0, .bool false] 35)
 have HB:=qh hB
 have H1:=qh h1
 have H2:=qh h2
 have H3:=qh h3
 have H4:=qh h4
 have H5:=qh h5
 have uL:=qh (ze.below (xK.stays d) hc hB)
 have HSW:=qh (yh.below hs hB)
 have HC:=qh hC
 have HM:=qh hM
 have HS:=qh hS
 have HN:=qh hn
 have HCN:=qh hcn
 have vW:=qh hmn
 have bE:=qh hb
 have bN:=qh hfits
 have HOWN:=qh hown
 have wu:=qh hstep
 have HFF:=qh hff
 have HFH:=qh hfh
 have HRR:=qh hR2
 clear hC hM hS hn hcn hmn hb hfits hown hstep hff hfh hR2 hfo hB h1 h2 h3 h4 h5 hT hME hc hs hR
 go_enter Tryz.func31,Tryz.ntmps31
 go_upto_region 1 with fail
 generalize World.alloc (World.alloc (World.alloc (World.alloc (World.alloc w _) _) _) _) _=W at HB H1 H2 H3 H4 H5 uL HSW ⊢
 obtain⟨gx,hgx⟩:∃gx,gx=w.heap.size:=⟨_,rfl⟩
 rw [<-hgx] at H1 H2 H3 H4 H5 ⊢
 have yV:=qh hgx
 clear hgx
 have xJ:Hid (∀y,Below W.heap.size W y->y.cell? ⟨gx,0,none⟩=some (.int .i64 vars)/\y.cell? ⟨gx,1,none⟩=some (.int .i64 dom)/\y.cell? ⟨gx,2,none⟩=some (.slice ca cn cc)/\
   y.cell? ⟨gx+1,0,none⟩=some (.int .i64 mod)/\y.cell? ⟨gx+1,1,none⟩=some (.int .i64 bnd)/\y.cell? ⟨gx+2,0,none⟩=some (.slice ta n vE)/\y.cell? ⟨gx+2,1,none⟩=some (.slice ma mn qN)/\y.cell? ⟨gx+2,2,none⟩=some (.bool bad)/\
   y.cell? ⟨gx+3,0,none⟩=some (.int .i64 kind)/\y.cell? ⟨gx+3,1,none⟩=some (.int .i64 th)/\y.cell? ⟨gx+3,2,none⟩=some (.int .i64 vr)):=λy hx=>
  ⟨zh hx _ _ (za H1.out 0),zh hx _ _ (za H1.out 1),zh hx _ _ (za H1.out 2),zh hx _ _ (za H2.out 0),zh hx _ _ (za H2.out 1),zh hx _ _ (za H3.out 0),zh hx _ _ (za H3.out 1),zh hx _ _ (za H3.out 2),zh hx _ _ (za H4.out 0),zh hx _ _ (za H4.out 1),zh hx _ _ (za H4.out 2)⟩
 have zJ:Hid (∀y,Below W.heap.size W y->(y.cell? ⟨gx+4,0,none⟩=some (.slice none 0 0)/\y.cell? ⟨gx+4,1,none⟩=some (.slice none 0 0)/\y.cell? ⟨gx+4,2,none⟩=some (.bool false))/\
   (y.frozen? ⟨gx+4,0,none⟩=false/\y.frozen? ⟨gx+4,1,none⟩=false/\y.frozen? ⟨gx+4,2,none⟩=false)/\
   ∀a b c:Value,(((y.setCell ⟨gx+4,0,none⟩ a).setCell ⟨gx+4,1,none⟩ b).setCell ⟨gx+4,2,none⟩ c).heap[gx+4]? =some (.cells #[a,b,c] 35 (0,0))/\
    Since (λk=>k=gx+4) y (((y.setCell ⟨gx+4,0,none⟩ a).setCell ⟨gx+4,1,none⟩ b).setCell ⟨gx+4,2,none⟩ c)/\
    Below w.heap.size w (((y.setCell ⟨gx+4,0,none⟩ a).setCell ⟨gx+4,1,none⟩ b).setCell ⟨gx+4,2,none⟩ c)):=λy hy=>by
  have hres:=(hy.block _ (zq H5.out)).trans H5.out
  refine⟨⟨za hres 0,za hres 1,za hres 2⟩,⟨zw hres 0,zw hres 1,zw hres 2⟩,λa b c=> ?_⟩
  have hset:=zu (zu (zu hres 0 a) 1 b) 2 c
  simp only [List.setIfInBounds_toArray,List.set_cons_zero,List.set_cons_succ] at hset
  have hS:Since (λk=>k=gx+4) y (((y.setCell ⟨gx+4,0,none⟩ a).setCell ⟨gx+4,1,none⟩ b).setCell ⟨gx+4,2,none⟩ c):=Since.setCell (F:=λk=>k=gx+4) (p:=⟨gx+4,2,none⟩) (Since.setCell (F:=λk=>k=gx+4) (p:=⟨gx+4,1,none⟩) (Since.setCell (F:=λk=>k=gx+4) (p:=⟨gx+4,0,none⟩) (Since.refl _ y) (.inl rfl) _) (.inl rfl) _) (.inl rfl) _
  exact⟨hset,hS,(HB.out.trans (hy.mono HB.out.size)).trans (hS.below (by have:=HB.out.size;have:=hy.size;omega) (λk e=>by have:=yV.out;omega))⟩
 obtain⟨c0,c1,c2,c3,c4,c5,c6,c7, -, -, -⟩:=xJ.out W (Below.refl _ _)
 go_wp2_with fail
 refine(bN.out W uL.out HSW.out).mono ?_
 rintro e W1 ⟨rfl,hb1⟩
 have HB1:=qh hb1
 clear hb1 bN c0 c1 c2 c3 c4 c5 c6 c7
 cases fo with
 |false=>
  have hr:R=(yP,1):=by rw [HRR.out];rfl
  have HR:=qh hr
  clear hr
  obtain⟨⟨q0,q1,q2⟩,⟨f0,f1,f2⟩,hend⟩:=zJ.out W1 HB1.out
  obtain⟨hset, -,hbe⟩:=hend (.slice none 0 0) (.slice none 0 0) (.bool false)
  have zI:=qh hset
  have yH:=qh hbe
  clear hset hbe hend
  go_wp2_with fail
  (try simp only [Exit.inBlock,Exit.then])
  refine bodyPost_ret (zy rfl _ _ (gx+4) 35 _ (0,0) _ rfl zI.out Tryz.underlying35 rfl zC) rfl ?_
  exact wP HR.out yH.out
 |true=>
 obtain⟨c0,c1,c2,c3,c4,c5,c6,c7,c8,c9,c10⟩:=xJ.out W1 HB1.out
 by_cases ht:0<=th/\th<(n:Int)
 rotate_left
 ·have hr:R=(yP,50):=by
   rw [HRR.out,if_pos rfl,if_neg]
   rw [HS.out];simp only [];rw [<-HN.out];exact ht
  have HR:=qh hr
  clear hr
  by_cases ht0:th<0
  ·clear ht
   go_upto_region 4 with fail
   clear c0 c1 c2 c3 c4 c5 c6 c7 c8 c9 c10
   obtain⟨⟨q0,q1,q2⟩,⟨f0,f1,f2⟩,hend⟩:=zJ.out W1 HB1.out
   obtain⟨hset, -,hbe⟩:=hend (.slice none 0 0) (.slice none 0 0) (.bool false)
   have zI:=qh hset
   have yH:=qh hbe
   clear hset hbe hend
   go_wp2_with fail
   (try simp only [Exit.inBlock,Exit.then])
   refine bodyPost_ret (zy rfl _ _ (gx+4) 35 _ (0,0) _ rfl zI.out Tryz.underlying35 rfl zC) rfl ?_
   exact wP HR.out yH.out
  have ht1:(n:Int)<=th:=by omega
  clear ht
  go_upto_region 4 with fail
  clear c0 c1 c2 c3 c4 c5 c6 c7 c8 c9 c10
  obtain⟨⟨q0,q1,q2⟩,⟨f0,f1,f2⟩,hend⟩:=zJ.out W1 HB1.out
  obtain⟨hset, -,hbe⟩:=hend (.slice none 0 0) (.slice none 0 0) (.bool false)
  have zI:=qh hset
  have yH:=qh hbe
  clear hset hbe hend
  go_wp2_with fail
  (try simp only [Exit.inBlock,Exit.then])
  refine bodyPost_ret (zy rfl _ _ (gx+4) 35 _ (0,0) _ rfl zI.out Tryz.underlying35 rfl zC) rfl ?_
  exact wP HR.out yH.out
 obtain⟨i,rfl⟩:∃i:Nat,th=i:=⟨th.toNat,by omega⟩
 have hi:i<n:=by omega
 have hiI:(i:Int)<(n:Int):=by omega
 have hi0:¬(i:Int)<0:=by omega
 clear ht
 obtain⟨hln,hlm,hv1,hv4,hc4⟩:=HFF.out (by trivial)
 have z5U:mn<=4/\1<=mn:=by omega
 have gD:n<=4:=by omega
 have HLM:=qh hlm
 clear hln hlm hv1 hv4 hc4
 have HR2:Hid (R=(if kind=1/\vr=0 then zkS (vT C M S i d)
   else if kind=2/\vr∈yD (S.threads.getD i default).buf M.model then(kI S i vr,0) else(yP,50):zm × Int)):=by
  rw [Hid,HRR.out,if_pos rfl,if_pos ⟨by omega,by rw [HS.out];simp only [];rw [<-HN.out];exact hiI⟩];rfl
 clear HRR
 by_cases hk1:kind=1/\vr=0
 ·obtain⟨rfl,rfl⟩:=hk1
  obtain⟨st,hst⟩:∃st,st=vT C M S i d:=⟨_,rfl⟩
  have hr3:=HR2.out
  rw [if_pos ⟨rfl,rfl⟩, <-hst] at hr3
  have HR3:=qh hr3
  have hsp:=wu.out W1 (ze.below (xK.stays d) uL.out HB1.out) (HSW.out.below HB1.out) i rfl hi
  rw [<-HC.out, <-HM.out, <-HS.out, <-hst] at hsp
  have HSP:=qh hsp
  clear hr3 hsp hst HR2
  go_upto_region 6 with fail
  go_upto_region 7 with(go_at_call 59;(refine HSP.out.mono ?_);rintro e W2 ⟨⟨xa,xn,xc,ya,yn,yc,s',rfl,hsp⟩,hb2⟩;have zyR:=qh hsp;have HB2:=qh (zB HB1.out hb2);clear hsp hb2;try unfold yR)
  have hbx:=HB2.out.alloc HB2.out.size (.cells #[.slice xa xn xc, .slice ya yn yc, .bool s'.bad] 35)
  have hxb:=yE W2 (.cells #[.slice xa xn xc, .slice ya yn yc, .bool s'.bad] 35)
  have hkp:=λt (e:st=some t)=>(⟨(zyR.out t e).1,(zyR.out t e).2.elim λbs h=>⟨bs,h.below ((Below.refl _ _).alloc (Nat.le_refl _) _)⟩⟩:s'=t/\∃bs,OwnAt W1.heap.size (W2.alloc (.cells #[.slice xa xn xc, .slice ya yn yc, .bool s'.bad] 35)) (.slice xa xn xc) (.slice ya yn yc) t.threads t.mem bs)
  have HB3:=qh hbx
  have HXB:=qh hxb
  have HKP:=qh hkp
  clear hbx hxb hkp c0 c1 c2 c3 c4 c5 c6 c7 c8 c9 c10
  generalize World.alloc W2 _=W3 at HB3 HXB HKP ⊢
  obtain⟨xb,hxb⟩:∃xb,xb=W2.heap.size:=⟨_,rfl⟩
  rw [<-hxb] at HXB ⊢
  clear hxb
  cases st with
  |none=>
   have hr:R=(yP,50):=HR3.out
   have HR:=qh hr
   clear hr
   simp only [Option.isSome_none]
   obtain⟨⟨q0,q1,q2⟩,⟨f0,f1,f2⟩,hend⟩:=zJ.out W3 HB3.out
   obtain⟨hset, -,hbe⟩:=hend (.slice none 0 0) (.slice none 0 0) (.bool false)
   have zI:=qh hset
   have yH:=qh hbe
   clear hset hbe hend
   go_wp2_with fail
   (try simp only [Exit.inBlock,Exit.then])
   refine bodyPost_ret (zy rfl _ _ (gx+4) 35 _ (0,0) _ rfl zI.out Tryz.underlying35 rfl zC) rfl ?_
   exact wP HR.out yH.out
  |some t=>
  obtain⟨rfl,bs,hst⟩:=HKP.out t rfl
  have HST:=qh hst
  clear hst
  have hr:R=(s',0):=HR3.out
  have HR:=qh hr
  clear hr
  simp only [Option.isSome_some]
  have b0:=za HXB.out 0
  have b1:=za HXB.out 1
  have b2:=za HXB.out 2
  obtain⟨⟨q0,q1,q2⟩,⟨f0,f1,f2⟩,hend⟩:=zJ.out W3 HB3.out
  obtain⟨hset,hsn,hbe⟩:=hend (.slice xa xn xc) (.slice ya yn yc) (.bool s'.bad)
  have zI:=qh hset
  have xH:=qh hsn
  have yH:=qh hbe
  clear hset hbe hend hsn
  go_wp2_with fail
  (try simp only [Exit.inBlock,Exit.then])
  refine bodyPost_ret (zy rfl _ _ (gx+4) 35 _ (0,0) _ rfl zI.out Tryz.underlying35 rfl zC) rfl ?_
  refine zc3 HR.out (OwnAt.lower (B:=W1.heap.size) (HST.out.since xH.out ?_ ?_ ?_) ?_) yH.out
  ·exact λk hk e=>by have:=(HST.out.row.lt k hk).1;have:=HB1.out.size;have:=zq H5.out;omega
  ·exact λk hk e=>by have:=(HST.out.mem.lt k hk).1;have:=HB1.out.size;have:=zq H5.out;omega
  ·exact λj hj k hk e=>by have:=((HST.out.buf j hj).lt k hk).1;have:=HB1.out.size;have:=zq H5.out;omega
  exact Nat.le_trans HB.out.size HB1.out.size
 have hk2:=hk1
 have HK1:=qh hk2
 have hr3:=HR2.out
 rw [if_neg hk1] at hr3
 clear HR2 hk2
 go_upto_region 5 with fail
 go_cut [43] (λs43 w'=>s43= .bool false/\w'=W1)
 case first=>
  by_cases hkk:kind=1
  ·have hv0:¬vr=0:=λe=>HK1.out ⟨hkk,e⟩
   have hk3:((kind:Int)==1)=true:=by simp [hkk]
   have hv3:((vr:Int)==0)=false:=by simp [hv0]
   clear hkk hv0 hk1
   go_wp2_with fail
   go_meet
   case rel=>exact⟨by first|rfl|simp,rfl⟩
  have hk3:((kind:Int)==1)=false:=by simp [hkk]
  clear hkk hk1
  go_wp2_with fail
  go_meet
  case rel=>exact⟨by first|rfl|simp,rfl⟩
 case rest=>
 obtain⟨rfl,hww⟩:=hcut
 obtain rfl:W1=wc:=hww.symm
 clear hk1 HK1 c0 c1 c2 c3 c4 c5 c6 c7 c8 c9 c10
 obtain⟨t,ht⟩:∃t,t=ts.getD i default:=⟨_,rfl⟩
 have hhd:=HFH.out (by trivial) i hi
 have hbl:=bE.out i hi
 rw [HS.out,HM.out] at hr3
 simp only [] at hr3
 rw [<-ht] at hhd hbl hr3
 obtain⟨sb,so,ba,bc,hta, -,hr4,x0,x1,x2,x3,x4,x5,hbuf⟩:=qj.part HSW.out.threads i (by simp only [];rw [<-HN.out];exact hi)
 simp only [] at hr4 x0 x1 x2 x3 x4 x5 hbuf
 subst hta
 rw [<-ht] at hr4 x5 hbuf
 obtain⟨pc,rg,bf⟩:=t
 obtain⟨r0,r1,r2,r3,rfl⟩:=jS hr4
 simp only [] at x5 hbuf hhd hbl hr3
 obtain⟨bl,jw⟩:∃bl,bl=bf.length:=⟨_,rfl⟩
 rw [<-jw] at x5 hbuf hbl
 obtain⟨hh,hhe⟩:∃hh,hh=yD bf mod:=⟨_,rfl⟩
 rw [<-hhe] at hhd hr3
 have HBF:Hid (∀y,Below W.heap.size W y->y.cell? ⟨sb,so+i*6+5,none⟩=some (.slice ba bl bc)/\zW y (.slice ba bl bc) bf):=λy hy=>⟨zh hy _ _ x5,zW.below hbuf hy⟩
 have HHD:=qh hhd
 have HR3:=qh hr3
 have vG:=qh jw
 have HHE:=qh hhe
 have HT:=qh ht
 clear x0 x1 x2 x3 x4 x5 hr4 hbuf hhd hr3 jw hhe ht
 go_upto_region 10 with fail
 obtain⟨-, -, -,c3, -,c5, -, -, -,c9, -⟩:=xJ.out W1 HB1.out
 have x5:=(HBF.out W1 HB1.out).1
 refine wp_region_still_tail 9 (by kernel_rfl) (by kernel_rfl) ?_
 simp only [List.take_succ_cons,List.take_zero,List.drop_succ_cons,List.drop_zero]
 repeat still_step
 try refine wpStill_nil ?_
 change wpList _ _ _ _ _ W1.drew
 obtain⟨wd,hwd⟩:∃wd,wd=W1.drew:=⟨_,rfl⟩
 rw [<-hwd]
 have wN:Hid (Below W.heap.size W wd):=by rw [Hid,hwd];exact HB1.out.drew
 clear hwd c3 c5 c9 x5
 go_upto_region 11 with(go_at_call 60;(refine(zrJ wd (.slice ba bl bc) bf (HBF.out wd wN.out).2 (by rw [<-vG.out];omega) mod).mono ?_);rintro e W2 ⟨⟨hv,rfl,hhi⟩,hb2⟩;obtain⟨ha,hca,rfl,hhl⟩:=ze.slice hhi;have HHI:=qh hhi;have HB2:=qh (zB wN.out hb2);clear hhi hb2)
 rw [<-HHE.out] at HHI ⊢
 obtain⟨hn2,hhn⟩:∃k,k=hh.length:=⟨_,rfl⟩
 rw [<-hhn] at HHI ⊢
 have HHN:=qh hhn
 rw [<-HHE.out, <-hhn] at hhl
 clear hhn
 go_wp2_with fail
 go_loopg [13] hn2 (λgg s13 wr=>∃j:Nat,j<=hn2/\Hid (gg=hn2 - j)/\s13= .int .i64 j/\Hid (Below W2.heap.size W2 wr)/\Hid (∀q,q<j->kind=2->¬hh.getD q 0=vr))
 case atStart=>exact⟨0,Nat.zero_le _,rfl,rfl,Below.refl _ _,λq hq=>by omega⟩
 case round=>
 obtain⟨j,hj,HG,rfl,zX,HJ⟩:=hrel
 have yM:=qh (zB HB2.out zX.out)
 have c8:=(xJ.out wr yM.out).2.2.2.2.2.2.2.2.1
 have c10:=(xJ.out wr yM.out).2.2.2.2.2.2.2.2.2.2
 by_cases hlt:j<hn2
 rotate_left
 ·obtain rfl:hn2=j:=by omega
  have hr:R=(yP,50):=by
   rw [HR3.out,if_neg]
   rintro⟨h1,h2⟩
   obtain⟨q,hq,e⟩:=List.getElem_of_mem h2
   refine HJ.out q (by rw [HHN.out];exact hq) h1 ?_
   rw [List.getD_eq_getElem?_getD,List.getElem?_eq_getElem hq, <-e];rfl
  have HR:=qh hr
  clear hr
  go_upto_region 20 with fail
  clear c8 c10
  obtain⟨⟨q0,q1,q2⟩,⟨f0,f1,f2⟩,hend⟩:=zJ.out wr yM.out
  obtain⟨hset, -,hbe⟩:=hend (.slice none 0 0) (.slice none 0 0) (.bool false)
  have zI:=qh hset
  have yH:=qh hbe
  clear hset hbe hend
  go_wp2_with fail
  (try simp only [Exit.inBlock,Exit.then])
  refine bodyPost_ret (zy rfl _ _ (gx+4) 35 _ (0,0) _ rfl zI.out Tryz.underlying35 rfl zC) rfl ?_
  exact wP HR.out yH.out
 have qK:(j:Int)<(hn2:Int):=by omega
 by_cases hk2:kind=2
 rotate_left
 ·have hk3:((kind:Int)==2)=false:=by simp [hk2]
  have hr:R=(yP,50):=by rw [HR3.out,if_neg (λh=>hk2 h.1)]
  have HR:=qh hr
  clear hr hk2
  go_upto_region 20 with fail
  clear c8 c10
  obtain⟨⟨q0,q1,q2⟩,⟨f0,f1,f2⟩,hend⟩:=zJ.out wr yM.out
  obtain⟨hset, -,hbe⟩:=hend (.slice none 0 0) (.slice none 0 0) (.bool false)
  have zI:=qh hset
  have yH:=qh hbe
  clear hset hbe hend
  go_wp2_with fail
  (try simp only [Exit.inBlock,Exit.then])
  refine bodyPost_ret (zy rfl _ _ (gx+4) 35 _ (0,0) _ rfl zI.out Tryz.underlying35 rfl zC) rfl ?_
  exact wP HR.out yH.out
 have hk3:((kind:Int)==2)=true:=by simp [hk2]
 obtain⟨hb9,ho9,yG, -,he1⟩:=xI.part HHI.out j (by rw [<-HHN.out];exact hlt)
 subst yG
 obtain⟨hv,hhv⟩:∃hv,hv=hh.getD j 0:=⟨_,rfl⟩
 rw [<-hhv] at he1
 have e1:=zh zX.out _ _ he1
 have HHV:=qh hhv
 have HK2:=qh hk2
 clear hhv he1 hk2
 by_cases he:hv=vr
 rotate_left
 ·have he2:((hv:Int)==vr)=false:=by simp [he]
  have HE:=qh he
  clear he
  go_wp2_with fail
  go_quiet (fail)
  go_wp2_with fail
  go_roundg (hn2 - (j+1))
  case measure=>rw [HG.out];omega
  case rel=>exact⟨j+1,by omega,rfl,by simp,yj zX.out _,λq hq hk=>by
   by_cases e:q=j
   ·subst e;rw [<-HHV.out];exact HE.out
   exact HJ.out q (by omega) hk⟩
 subst he
 have hmem:hv∈hh:=by rw [HHV.out];exact qP (by rw [<-HHN.out];exact hlt)
 obtain⟨hv0,hv4,en,htk⟩:=HHD.out hv hmem
 rw [<-HLM.out] at hv4
 obtain⟨v,rfl⟩:∃v:Nat,hv=v:=⟨hv.toNat,by omega⟩
 have hvm:v<mn:=by omega
 have wX:(v:Int)<(mn:Int):=hv4
 have hr4:=HR3.out
 rw [if_pos ⟨HK2.out,hmem⟩] at hr4
 have HR4:=qh hr4
 have jX:=qh htk
 clear hmem hr4 htk hv0 hv4 HR3
 obtain⟨rest,hrest⟩:∃rest,rest=(takeB bf v).2:=⟨_,rfl⟩
 rw [<-hrest] at jX
 have zep:Hid (∀Y,Below W.heap.size W Y->Calls Tryz.prog 62 #[.slice ba bl bc, .int .i64 v] Y λe w'=>(∃sa sn sc,e= .returned (.tuple #[.agg #[.int .i64 v, .int .i64 en], .slice sa sn sc, .bool true])/\w'.ownsRow Y.heap.size 136 2 (.slice sa sn sc) rest.length (zl zi.cells rest))/\Below Y.heap.size Y w'):=λY hY=>by
  refine(zue Y (.slice ba bl bc) bf (HBF.out Y hY).2 (by rw [<-vG.out];omega) v).mono ?_
  rintro e w' ⟨⟨sv,he, -,hrow⟩,hb⟩
  obtain⟨sa,sc,rfl, -, -⟩:=qO hrow
  rw [<-hrest] at hrow he
  rw [jX.out] at he
  exact⟨⟨sa,rest.length,sc,he,hrow⟩,hb⟩
 have zA2:=qh hrest
 clear hrest
 go_wp2_with fail
 go_quiet (fail)
 go_upto_region 15 with fail
 generalize hX9:World.drewN wr _=X9
 have zyU:Below W.heap.size W X9:=by rw [<-hX9];exact yj yM.out _
 have jq:=qh zyU
 clear hX9 zyU c8 c10 e1
 obtain⟨-, -, -, -, -,c5,c6,c7, -, -, -⟩:=xJ.out X9 jq.out
 go_upto_region 16 with(go_at_call 61;(refine(HOWN.out X9 (HSW.out.below jq.out) (by omega) (by omega) (λj hj=>by have:=bE.out j hj;omega)).mono ?_);rintro e W3 ⟨⟨tv1,mv1,bs,rfl,ho1⟩,hb3⟩;have HO1:=qh ho1;have HB3:=qh hb3;obtain⟨xa,xc,rfl, -, -⟩:=qO ho1.row;obtain⟨ya,yc,rfl, -, -⟩:=qO ho1.mem;clear ho1 hb3)
 rw [<-HN.out, <-vW.out]
 clear c5 c6 c7
 have hol:=qZ.zrK (HO1.out.lower jq.out.size) (zB jq.out HB3.out) bad
 rw [<-HN.out, <-vW.out] at hol
 have HOL:=qh hol
 clear hol
 generalize World.alloc W3 _=X0 at HOL ⊢
 obtain⟨gb,hgb⟩:∃gb,gb=W3.heap.size:=⟨_,rfl⟩
 rw [<-hgb] at HOL ⊢
 clear hgb HO1 HB3
 obtain⟨tb,tc,hxa, -, -⟩:=HOL.out.threads (by rw [<-HN.out];exact hi)
 rw [<-HN.out] at hxa
 cases hxa
 obtain⟨mb,mc,hya, -, -⟩:=HOL.out.vars (by rw [<-vW.out];omega)
 rw [<-vW.out] at hya
 cases hya
 have xC:=qh HOL.out.below
 have C6:Hid (∀y,Below X0.heap.size X0 y->y.cell? ⟨gx+2,0,none⟩=some (.slice (some ⟨sb,so,none⟩) n vE)/\y.cell? ⟨gx+3,1,none⟩=some (.int .i64 i)/\y.cell? ⟨gx+3,2,none⟩=some (.int .i64 v)/\y.cell? ⟨sb,so+i*6+5,none⟩=some (.slice ba bl bc)):=λy hy=>by
  have hw:=zB xC.out hy
  obtain⟨-, -, -, -, -,c5, -, -, -,c9,c10⟩:=xJ.out y hw
  exact⟨c5,c9,c10,(HBF.out y hw).1⟩
 have h0:=jK.start 136 2 136 X0
 have hT0:=qh h0.drew
 clear h0
 refine vJ (S:=λx=>Below X0.heap.size X0 x) (Below.refl _ _).drew (λ_=> ?_)
 obtain⟨wd,hwd⟩:∃wd,wd=X0.drew:=⟨_,rfl⟩
 rw [<-hwd] at hT0 ⊢
 clear hwd
 refine zA 0 zM (hT0.out.below) ?_
 refine zA 1 C6.out (hT0.out.below) ?_
 refine zA 2 zM (hT0.out.below) ?_
 refine zA 3 C6.out (hT0.out.below) ?_
 refine zA 4 zM (hT0.out.below) ?_
 refine zA 5 zM (hT0.out.below) ?_
 refine zA 6 C6.out (hT0.out.below) ?_
 refine zA 7 zM (hT0.out.below) ?_
 refine zA 8 C6.out (hT0.out.below) ?_
 refine wpAnyH_ready (rs:= [9,14]) (by kernel_rfl) (by simp) ?_
 refine AllReadyH.cons rfl (λK hK=> ?_) (AllReadyH.cons rfl (λK hK=> ?_) AllReadyH.nil)
 ·skip
  go_simp
  refine(zep.out wd (zB xC.out (hT0.out.below))).mono ?_
  rintro e Xd2 ⟨⟨sa,sn,sc,rfl,hrow⟩,hb⟩
  have zgV:=qh (hT0.out.call hb hrow)
  clear hb hrow
  refine hK.out _ _ zgV.out.below (λ_=> ?_)
  clear hK K
  refine zA 10 zM (zgV.out.below) ?_
  refine zA 11 zM (zgV.out.below) ?_
  refine zA 12 zM (zgV.out.below) ?_
  refine zA 13 zM (zgV.out.below) ?_
  refine yw 14 rfl (λK hK=> ?_)
  go_simp
  have zfl:=zgV.out.alloc [.int .i64 0, .int .i64 0]
  refine hK.out _ _ zfl.below (λ_=> ?_)
  obtain⟨xb,hxb⟩:∃n,n=Xd2.heap.size:=⟨_,rfl⟩
  rw [<-hxb] at zfl ⊢
  clear hxb
  generalize World.alloc Xd2 _=Xd4 at zfl ⊢
  replace zfl:=qh zfl
  clear hK K
  refine yw 15 rfl (λK hK=> ?_)
  have hb1:=zfl.out.storeAll (g:=xb) (cs:= [.int .i64 0, .int .i64 0]) (by simp) [.int .i64 v, .int .i64 en] rfl
  obtain⟨hn, -, -⟩:=zfl.out.news (xb, [.int .i64 0, .int .i64 0]) (by simp)
  have d0:=za hn 0
  have f0:=zw hn 0
  have d1:=za hn 1
  have f1:=zw hn 1
  clear hn
  have vU:=qh hb1
  clear hb1
  go_simp
  clear d0 f0 d1 f1
  refine hK.out _ (zY Xd4 xb 0 [.int .i64 v, .int .i64 en]) vU.out.1 (λ_=> ?_)
  generalize zY Xd4 xb 0 _=X1 at vU ⊢
  clear hK K
  refine zA 16 zM (vU.out.1) ?_
  refine zA 17 zM (vU.out.1) ?_
  refine xM ?_
  have zaX:=HOL.out.later vU.out.1
  have zlC:=qh zaX
  have hin:i<ts.length:=by rw [<-HN.out];exact hi
  have hcl:(ts.getD i default).cells (bs.getD i (.slice none 0 0))= [.int .i64 pc, .int .i64 r0, .int .i64 r1, .int .i64 r2, .int .i64 r3,bs.getD i (.slice none 0 0)] :=by rw [<-HT.out];rfl
  obtain⟨tb',tc',hte, -,htc⟩:=zaX.threads hin
  rw [<-HN.out] at hte
  cases hte
  have h5:=htc 5 (bs.getD i (.slice none 0 0)) (by omega) (by rw [hcl];rfl)
  obtain⟨t5,v5⟩:=h5
  have hsz:tb<X0.heap.size/\mb<X0.heap.size/\gb<X0.heap.size:=⟨(HOL.out.own.row.lt tb rfl).2,(HOL.out.own.mem.lt mb rfl).2,zq HOL.out.box⟩
  have hth:=zaX.thread hin (k:=5) (by omega) (t:=⟨pc, [r0,r1,r2,r3],rest⟩) (b:= .slice sa sn sc) (u:= .slice sa sn sc) (by rw [hcl];rfl) rfl (by have h:=vU.out.2.2.2.1;exact xw (B:=X0.heap.size) h xC.out.size) (λk hk=>by have h1:=(vU.out.2.2.2.1.lt k hk).1;exact⟨by omega,λe=>by have:=(zaX.own.mem.lt k e).1;simp [Value.ownBlock] at e;omega,by omega⟩) (λk hk j hj _ e=>by have h1:=(vU.out.2.2.2.1.lt k hk).1;have h2:=((HOL.out.own.buf j hj).lt k e).2;omega)
  have HTH:=qh hth
  have HSZ:=qh hsz
  clear zaX hcl htc hth hsz
  have g0:=za zlC.out.box 0
  have c9:=(xJ.out X1 zlC.out.below).2.2.2.2.2.2.2.2.2.1
  have hxb:=(Below.heap_setCell X1 ⟨tb,i*6+5,none⟩ (.slice sa sn sc) xb (λe=>by have h1:=vU.out.2.2.1;have h2:=HSZ.out.1;simp only [] at e;omega)).trans vU.out.2.1
  have HXB:=qh hxb
  clear hxb
  go_upto_region 18 with fail
  clear t5 v5 g0 c9
  generalize World.setCell X1 _ _=X2 at HTH HXB ⊢
  obtain⟨mb',mc',hye, -,hmc⟩:=HTH.out.vars (by rw [<-vW.out];omega)
  rw [<-vW.out] at hye
  cases hye
  obtain⟨m0,m1⟩:=hmc v (by rw [<-vW.out];exact hvm)
  have g1:=za HTH.out.box 1
  have x0:=za HXB.out 0
  have x1:=za HXB.out 1
  have hm3:=HTH.out.mem v en
  have uq:=qh hm3
  clear hm3 hmc
  go_upto_region 19 with fail
  clear m0 m1 g1 x0 x1
  generalize World.setCell X2 _ _=X3 at uq ⊢
  have hr5:R=(⟨ts.set i ⟨pc, [r0,r1,r2,r3],rest⟩,mem.set v en,bad⟩,0):=by
   rw [HR4.out]
   unfold kI
   simp only []
   rw [<-HT.out]
   simp only []
   rw [jX.out]
   rfl
  have HR5:=qh hr5
  clear hr5
  have hbw:=uq.out.below
  obtain⟨⟨q0,q1,q2⟩,⟨f0,f1,f2⟩,hend⟩:=zJ.out X3 hbw
  have b0:=za uq.out.box 0
  have b1:=za uq.out.box 1
  have b2:=za uq.out.box 2
  obtain⟨hset,hsn,hbe⟩:=hend (.slice (some ⟨tb,0,none⟩) n xc) (.slice (some ⟨mb,0,none⟩) mn yc) (.bool bad)
  have zI:=qh hset
  have xH:=qh hsn
  have yH:=qh hbe
  clear hset hbe hend hsn hbw
  go_wp2_with fail
  (try simp only [Exit.inBlock,Exit.then])
  refine bodyPost_ret (zy rfl _ _ (gx+4) 35 _ (0,0) _ rfl zI.out Tryz.underlying35 rfl zC) rfl ?_
  have hg5:=zq H5.out
  refine zc3 HR5.out (OwnAt.lower (B:=W.heap.size) (uq.out.own.since xH.out ?_ ?_ ?_) HB.out.size) yH.out
  ·exact λk hk e=>by have:=(uq.out.own.row.lt k hk).1;omega
  ·exact λk hk e=>by have:=(uq.out.own.mem.lt k hk).1;omega
  exact λj hj k hk e=>by have:=((uq.out.own.buf j hj).lt k hk).1;omega
 skip
 go_simp
 have zfm:=hT0.out.alloc [.int .i64 0, .int .i64 0]
 refine hK.out _ _ zfm.below (λ_=> ?_)
 obtain⟨xb,hxb⟩:∃n,n=wd.heap.size:=⟨_,rfl⟩
 rw [<-hxb] at zfm ⊢
 clear hxb
 generalize World.alloc wd _=Xd6 at zfm ⊢
 replace zfm:=qh zfm
 clear hK K
 refine yw 9 rfl (λK hK=> ?_)
 go_simp
 refine(zep.out Xd6 (zB xC.out (zfm.out.below))).mono ?_
 rintro e Xd8 ⟨⟨sa,sn,sc,rfl,hrow⟩,hb⟩
 have zfn:=qh (zfm.out.call hb hrow)
 clear hb hrow
 refine hK.out _ _ zfn.out.below (λ_=> ?_)
 clear hK K
 refine zA 10 zM (zfn.out.below) ?_
 refine zA 11 zM (zfn.out.below) ?_
 refine zA 12 zM (zfn.out.below) ?_
 refine zA 13 zM (zfn.out.below) ?_
 refine yw 15 rfl (λK hK=> ?_)
 have hb1:=zfn.out.storeAll (g:=xb) (cs:= [.int .i64 0, .int .i64 0]) (by simp) [.int .i64 v, .int .i64 en] rfl
 obtain⟨hn, -, -⟩:=zfn.out.news (xb, [.int .i64 0, .int .i64 0]) (by simp)
 have d0:=za hn 0
 have f0:=zw hn 0
 have d1:=za hn 1
 have f1:=zw hn 1
 clear hn
 have vU:=qh hb1
 clear hb1
 go_simp
 clear d0 f0 d1 f1
 refine hK.out _ (zY Xd8 xb 0 [.int .i64 v, .int .i64 en]) vU.out.1 (λ_=> ?_)
 generalize zY Xd8 xb 0 _=X1 at vU ⊢
 clear hK K
 refine zA 16 zM (vU.out.1) ?_
 refine zA 17 zM (vU.out.1) ?_
 refine xM ?_
 have zaX:=HOL.out.later vU.out.1
 have zlC:=qh zaX
 have hin:i<ts.length:=by rw [<-HN.out];exact hi
 have hcl:(ts.getD i default).cells (bs.getD i (.slice none 0 0))= [.int .i64 pc, .int .i64 r0, .int .i64 r1, .int .i64 r2, .int .i64 r3,bs.getD i (.slice none 0 0)] :=by rw [<-HT.out];rfl
 obtain⟨tb',tc',hte, -,htc⟩:=zaX.threads hin
 rw [<-HN.out] at hte
 cases hte
 have h5:=htc 5 (bs.getD i (.slice none 0 0)) (by omega) (by rw [hcl];rfl)
 obtain⟨t5,v5⟩:=h5
 have hsz:tb<X0.heap.size/\mb<X0.heap.size/\gb<X0.heap.size:=⟨(HOL.out.own.row.lt tb rfl).2,(HOL.out.own.mem.lt mb rfl).2,zq HOL.out.box⟩
 have hth:=zaX.thread hin (k:=5) (by omega) (t:=⟨pc, [r0,r1,r2,r3],rest⟩) (b:= .slice sa sn sc) (u:= .slice sa sn sc) (by rw [hcl];rfl) rfl (by have h:=vU.out.2.2.2.1;exact xw (B:=X0.heap.size) h xC.out.size) (λk hk=>by have h1:=(vU.out.2.2.2.1.lt k hk).1;exact⟨by omega,λe=>by have:=(zaX.own.mem.lt k e).1;simp [Value.ownBlock] at e;omega,by omega⟩) (λk hk j hj _ e=>by have h1:=(vU.out.2.2.2.1.lt k hk).1;have h2:=((HOL.out.own.buf j hj).lt k e).2;omega)
 have HTH:=qh hth
 have HSZ:=qh hsz
 clear zaX hcl htc hth hsz
 have g0:=za zlC.out.box 0
 have c9:=(xJ.out X1 zlC.out.below).2.2.2.2.2.2.2.2.2.1
 have hxb:=(Below.heap_setCell X1 ⟨tb,i*6+5,none⟩ (.slice sa sn sc) xb (λe=>by have h1:=vU.out.2.2.1;have h2:=HSZ.out.1;simp only [] at e;omega)).trans vU.out.2.1
 have HXB:=qh hxb
 clear hxb
 go_upto_region 18 with fail
 clear t5 v5 g0 c9
 generalize World.setCell X1 _ _=X2 at HTH HXB ⊢
 obtain⟨mb',mc',hye, -,hmc⟩:=HTH.out.vars (by rw [<-vW.out];omega)
 rw [<-vW.out] at hye
 cases hye
 obtain⟨m0,m1⟩:=hmc v (by rw [<-vW.out];exact hvm)
 have g1:=za HTH.out.box 1
 have x0:=za HXB.out 0
 have x1:=za HXB.out 1
 have hm3:=HTH.out.mem v en
 have uq:=qh hm3
 clear hm3 hmc
 go_upto_region 19 with fail
 clear m0 m1 g1 x0 x1
 generalize World.setCell X2 _ _=X3 at uq ⊢
 have hr5:R=(⟨ts.set i ⟨pc, [r0,r1,r2,r3],rest⟩,mem.set v en,bad⟩,0):=by
  rw [HR4.out]
  unfold kI
  simp only []
  rw [<-HT.out]
  simp only []
  rw [jX.out]
  rfl
 have HR5:=qh hr5
 clear hr5
 have hbw:=uq.out.below
 obtain⟨⟨q0,q1,q2⟩,⟨f0,f1,f2⟩,hend⟩:=zJ.out X3 hbw
 have b0:=za uq.out.box 0
 have b1:=za uq.out.box 1
 have b2:=za uq.out.box 2
 obtain⟨hset,hsn,hbe⟩:=hend (.slice (some ⟨tb,0,none⟩) n xc) (.slice (some ⟨mb,0,none⟩) mn yc) (.bool bad)
 have zI:=qh hset
 have xH:=qh hsn
 have yH:=qh hbe
 clear hset hbe hend hsn hbw
 go_wp2_with fail
 (try simp only [Exit.inBlock,Exit.then])
 refine bodyPost_ret (zy rfl _ _ (gx+4) 35 _ (0,0) _ rfl zI.out Tryz.underlying35 rfl zC) rfl ?_
 have hg5:=zq H5.out
 refine zc3 HR5.out (OwnAt.lower (B:=W.heap.size) (uq.out.own.since xH.out ?_ ?_ ?_) HB.out.size) yH.out
 ·exact λk hk e=>by have:=(uq.out.own.row.lt k hk).1;omega
 ·exact λk hk e=>by have:=(uq.out.own.mem.lt k hk).1;omega
 exact λj hj k hk e=>by have:=((uq.out.own.buf j hj).lt k hk).1;omega
