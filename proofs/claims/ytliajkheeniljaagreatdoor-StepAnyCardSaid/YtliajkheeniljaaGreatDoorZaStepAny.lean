/- What any move does in any state of any code is what the document says, or it is refused: the walk. -/
import Derived.Test.YtliajkheeniljaaGreatDoorZaFew
import Derived.Test.YtliajkheeniljaaGreatDoorZaPMoves
import Derived.Test.YtliajkheeniljaaGreatDoorZaSameL
import Derived.Test.YtliajkheeniljaaGreatDoorZaShort
set_option linter.all false
namespace Go.Proofs.YtliajkheeniljaaGreatDoor
open Go.RowKit
set_option maxRecDepth 100000
set_option maxHeartbeats 16000000
theorem zhy (w:World) (c:zS) (cv:Value) (d:Nat) (hc:yF d w cv c.threads) (m:zM) (s:zu) (sv mv:Value) (hs:zN w s sv mv) (x:zG) (B:Int) (hB:B=1125899906842624) (h1:(c.threads.length:Int)<=B) (h2:(s.threads.length:Int)<=B) (h3:(s.mem.length:Int)<=B)
  (h4:∀i,i<c.threads.length->(((c.threads.getD i []).length:Nat):Int)<=B) (h5:∀j,j<s.threads.length->(((s.threads.getD j default).buf.length:Nat):Int)<=B):
  Calls Tryz.prog 3 #[yD c cv,yR m,zW s sv mv,gJ x] w fun e w'=>e= .returned (.bool true)/\Below w.heap.size w w':=by
 have zbv:=fun y (hy:Below w.heap.size w y)=>zs8 y c cv d (zl.below (xu.stays d) hc hy) s sv mv (hs.below hy) B hB h1 h2 h3 h4 h5
 have hsame:=fun y (hy:Below w.heap.size w y) hb=>zon y c cv d (zl.below (xu.stays d) hc hy) m s sv mv (hs.below hy) hb x
 have hps:=fun y (hy:Below w.heap.size w y)=>zd2 y c cv d (zl.below (xu.stays d) hc hy)
 have hrs:=fun y (hy:Below w.heap.size w y)=>zla y c cv d (zl.below (xu.stays d) hc hy)
 have hsm:∀y (S:zu) (a b a' b':Value),zN y S a b->zN y S a' b'->Calls Tryz.prog 17 #[zW S a b,zW S a' b'] y fun e w'=>e= .returned (.bool true)/\Below y.heap.size y w':=fun y S a b a' b' g1 g2=>by
  have h:=zeX y S S _ _ _ _ g1 g2
  rw [decide_eq_true rfl] at h
  exact h
 generalize kI c=S0 at hps hrs
 obtain⟨ca,cc,rfl, -⟩:=zl.slice hc
 obtain⟨ta,xB,rfl, -⟩:=zl.slice hs.threads
 obtain⟨ma,yZ,rfl, -⟩:=zl.slice hs.mem
 clear hc hs h1 h2 h3 h4 h5 hB
 unfold yD yR zW gJ at hsame
 unfold yD zW at zbv
 unfold yD at hps hrs
 unfold yD yR zW gJ
 generalize c.threads.length=cn at zbv hsame hps hrs ⊢
 generalize c.vars=vars at zbv hsame hps hrs ⊢
 generalize c.domain=dom at zbv hsame hps hrs ⊢
 generalize s.mem.length=mn at zbv hsame ⊢
 generalize s.bad=bad at zbv hsame ⊢
 generalize m.model=mod at hsame ⊢
 generalize m.bound=bnd at hsame ⊢
 obtain⟨n,hn⟩:∃n,n=s.threads.length:=⟨_,rfl⟩
 rw [<-hn] at zbv ⊢
 have zhe:∀y,Below w.heap.size w y->(∀j,j<s.threads.length->(s.threads.getD j default).buf.length<=100000)->Calls Tryz.prog 16 #[.agg #[.int .i64 vars, .int .i64 dom, .slice ca cn cc], .agg #[.int .i64 mod, .int .i64 bnd], .agg #[.slice ta n xB, .slice ma mn yZ, .bool bad], .agg #[.int .i64 x.kind, .int .i64 x.thread, .int .i64 x.var]] y fun e w'=>e= .returned (.bool true)/\Below y.heap.size y w':=fun y hy hb=>by
  have h:=hsame y hy hb
  rw [<-hn] at h
  exact h
 obtain⟨kd,th,vr⟩:=x
 simp only [] at zhe ⊢
 obtain⟨hB,hx1,hx2,hx3,hx4, -⟩:=kM w (.cells #[.int .i64 vars, .int .i64 dom, .slice ca cn cc] 24) (.cells #[.int .i64 mod, .int .i64 bnd] 26) (.cells #[.slice ta n xB, .slice ma mn yZ, .bool bad] 30) (.cells #[.int .i64 kd, .int .i64 th, .int .i64 vr] 32)
 have HB:=qh hB
 have H1:=qh hx1
 have H2:=qh hx2
 have H3:=qh hx3
 have H4:=qh hx4
 have zw9:=qh zbv
 have zf3:=qh zhe
 have HPS:=qh hps
 have HRS:=qh hrs
 have HSM:=qh hsm
 clear hB hx1 hx2 hx3 hx4 zbv hsame zhe hps hrs hsm hn
 go_enter Tryz.func3,Tryz.ntmps3
 go_upto_region 1 with fail
 generalize World.alloc (World.alloc (World.alloc (World.alloc w _) _) _) _=W at HB H1 H2 H3 H4 ⊢
 obtain⟨gx,hgx⟩:∃gx,gx=w.heap.size:=⟨_,rfl⟩
 rw [<-hgx] at H1 H2 H3 H4 ⊢
 clear hgx
 have yJ:Hid (∀y,Below W.heap.size W y->y.cell? ⟨gx,0,none⟩=some (.int .i64 vars)/\y.cell? ⟨gx,1,none⟩=some (.int .i64 dom)/\y.cell? ⟨gx,2,none⟩=some (.slice ca cn cc)/\
   y.cell? ⟨gx+1,0,none⟩=some (.int .i64 mod)/\y.cell? ⟨gx+1,1,none⟩=some (.int .i64 bnd)/\y.cell? ⟨gx+2,0,none⟩=some (.slice ta n xB)/\y.cell? ⟨gx+2,1,none⟩=some (.slice ma mn yZ)/\y.cell? ⟨gx+2,2,none⟩=some (.bool bad)/\
   y.cell? ⟨gx+3,0,none⟩=some (.int .i64 kd)/\y.cell? ⟨gx+3,1,none⟩=some (.int .i64 th)/\y.cell? ⟨gx+3,2,none⟩=some (.int .i64 vr)):=fun y hx=>
  ⟨zm hx _ _ (zh H1.out 0),zm hx _ _ (zh H1.out 1),zm hx _ _ (zh H1.out 2),zm hx _ _ (zh H2.out 0),zm hx _ _ (zh H2.out 1),zm hx _ _ (zh H3.out 0),zm hx _ _ (zh H3.out 1),zm hx _ _ (zh H3.out 2),zm hx _ _ (zh H4.out 0),zm hx _ _ (zh H4.out 1),zm hx _ _ (zh H4.out 2)⟩
 have yu:Hid (∀y,Below W.heap.size W y->Below w.heap.size w y):=fun y hy=>HB.out.trans (hy.mono HB.out.size)
 clear H1 H2 H3 H4
 obtain⟨c0,c1,c2,c3,c4,c5,c6,c7,c8,c9,c10⟩:=yJ.out W (Below.refl _ _)
 go_upto_if 12 with(go_at_call 14;go_must(refine(zw9.out W (yu.out W (Below.refl _ _))).mono ?_);rintro e X ⟨⟨b,rfl,hbf⟩,hb⟩;(have HX:=qh hb);(have uf:=qh hbf);clear hb hbf)
 clear c0 c1 c2 c3 c4 c5 c6 c7 c8 c9 c10 zw9
 cases b with
 |false=>
  go_wp2_with(go_at_call 15;go_must(refine(zd1 X).mono ?_);rintro e X2 ⟨rfl,hb⟩;(have HX2:=qh (zB HX.out hb));clear hb)
  have yT:=qh (yu.out _ HX2.out)
  go_ret
  exact⟨rfl,yT.out⟩
 |true=>
  have hbuf:=uf.out rfl
  have uV:Hid (∀j,j<s.threads.length->(s.threads.getD j default).buf.length<=100000):=fun j hj=>by have:=hbuf j hj;omega
  have j3:Hid (∀y,Below X.heap.size X y->y.cell? ⟨gx,0,none⟩=some (.int .i64 vars)/\y.cell? ⟨gx,1,none⟩=some (.int .i64 dom)/\y.cell? ⟨gx,2,none⟩=some (.slice ca cn cc)/\
   y.cell? ⟨gx+1,0,none⟩=some (.int .i64 mod)/\y.cell? ⟨gx+1,1,none⟩=some (.int .i64 bnd)/\y.cell? ⟨gx+2,0,none⟩=some (.slice ta n xB)/\y.cell? ⟨gx+2,1,none⟩=some (.slice ma mn yZ)/\y.cell? ⟨gx+2,2,none⟩=some (.bool bad)/\
   y.cell? ⟨gx+3,0,none⟩=some (.int .i64 kd)/\y.cell? ⟨gx+3,1,none⟩=some (.int .i64 th)/\y.cell? ⟨gx+3,2,none⟩=some (.int .i64 vr)):=fun y hy=>yJ.out y (zB HX.out hy)
  have HWX:Hid (∀y,Below X.heap.size X y->Below w.heap.size w y):=fun y hy=>yu.out y (zB HX.out hy)
  clear hbuf uf yJ yu HX
  go_upto_region 3 with fail
  refine wp_region_noPanic ?_
  refine wp_region_held_drew (S:=fun x=>Below X.heap.size X x) (by kernel_rfl) ((Below.refl _ _).drew) (fun hH=> ?_)
  refine zT 0 rfl (fun K hK=> ?_)
  go_simp
  refine(zd1 X.drew).mono ?_
  rintro e hw0 ⟨rfl,hb⟩
  have zk7:Below X.heap.size X hw0:=zB hH hb
  refine hK.out _ _ zk7 (fun _=> ?_)
  clear hK K hb hH
  refine zo 1 15 ?vh1 rfl ?kr ?_
  case kr=>(intro x h;have e:=j3.out x h;go_simp<;>rfl)
  simp only [Act.put,za,ze,zf]
  refine zo 2 16 ?vh2 rfl ?ku ?_
  case ku=>(intro x h;have e:=j3.out x h;go_simp<;>rfl)
  simp only [Act.put,za,ze,zf]
  refine zo 3 17 ?vh3 rfl ?kC ?_
  case kC=>(intro x h;have e:=j3.out x h;go_simp<;>rfl)
  simp only [Act.put,za,ze,zf]
  refine zo 4 18 ?vh4 rfl ?kD ?_
  case kD=>(intro x h;have e:=j3.out x h;go_simp<;>rfl)
  simp only [Act.put,za,ze,zf]
  refine zo 5 19 ?vh5 rfl ?kE ?_
  case kE=>(intro x h;have e:=j3.out x h;go_simp<;>rfl)
  simp only [Act.put,za,ze,zf]
  refine zT 6 rfl (fun K hK=> ?_)
  go_simp
  refine(zf3.out hw0 (HWX.out _ zk7) uV.out).mono ?_
  rintro e hw6 ⟨rfl,hb⟩
  have zk8:Below X.heap.size X hw6:=zB zk7 hb
  refine hK.out _ _ zk8 (fun _=> ?_)
  clear hK K hb zk7
  refine zo 7 21 ?vh6 rfl ?kF ?_
  case kF=>(intro x h;have e:=j3.out x h;go_simp<;>rfl)
  simp only [Act.put,za,ze,zf]
  refine zo 8 22 ?vh7 rfl ?kG ?_
  case kG=>(intro x h;have e:=j3.out x h;go_simp<;>rfl)
  simp only [Act.put,za,ze,zf]
  refine zo 9 23 ?vh8 rfl ?kH ?_
  case kH=>(intro x h;have e:=j3.out x h;go_simp<;>rfl)
  simp only [Act.put,za,ze,zf]
  refine zo 11 25 ?vh9 rfl ?wG ?_
  case wG=>(intro x h;have e:=j3.out x h;go_simp<;>rfl)
  simp only [Act.put,za,ze,zf]
  refine zT 10 rfl (fun K hK=> ?_)
  go_simp
  refine(HPS.out hw6 (HWX.out _ zk8)).mono ?_
  rintro e zhf ⟨⟨pa,pb,rfl,haw⟩,hb⟩
  have qF:=qh haw.now
  clear haw
  have zbw:Below X.heap.size X zhf:=zB zk8 hb
  refine hK.out _ _ zbw (fun _=> ?_)
  clear hK K hb zk8
  refine zT 12 rfl (fun K hK=> ?_)
  go_simp
  refine(HRS.out zhf (HWX.out _ zbw)).mono ?_
  rintro e zwA ⟨⟨qa,qb,rfl,haw⟩,hb⟩
  have HS2:=qh haw.now
  have kg:=qh (qF.out.below hb)
  clear haw qF
  have zk9:Below X.heap.size X zwA:=zB zbw hb
  refine hK.out _ _ zk9 (fun _=> ?_)
  clear hK K hb zbw
  refine zT 13 rfl (fun K hK=> ?_)
  go_simp
  refine(HSM.out zwA S0 pa pb qa qb kg.out HS2.out).mono ?_
  rintro e z5t ⟨rfl,hb⟩
  have zq7:Below X.heap.size X z5t:=zB zk9 hb
  refine hK.out _ _ zq7 (fun _=> ?_)
  clear hK K hb zk9
  refine zo 14 28 ?zi3 rfl ?bL ?_
  case bL=>(intro x h;have e:=j3.out x h;go_simp<;>rfl)
  simp only [Act.put,za,ze,zf]
  refine zo 15 8 ?zom rfl ?zbf ?_
  case zbf=>(intro x h;have e:=j3.out x h;go_simp<;>rfl)
  simp only [Act.put,za,ze,zf]
  refine wpAnyH_done (by kernel_rfl) ?_ _
  refine NoPanic.normal ?_
  have yT:=qh (HWX.out _ zq7)
  go_wp2_with fail
  go_ret
  exact⟨rfl,yT.out⟩
end Go.Proofs.YtliajkheeniljaaGreatDoor
