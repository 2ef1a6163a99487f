/- Steps. -/
import Derived.Test.YtknmdmimecepfaaGreatDoorVgAxOut
set_option linter.all false
namespace Go.Proofs.YtknmdmimecepfaaGreatDoor
open Go.RowKit
set_option maxRecDepth 100000
set_option maxHeartbeats 16000000
def zkw:zx:= .mk 1 1 0 []
def noE:zx:= .mk 0 0 0 []
def yD:zo:=⟨2,2, [[⟨2,0,0,zkw,noE,0⟩,⟨1,0,1,noE,noE,0⟩], [⟨2,0,1,zkw,noE,0⟩,⟨1,0,0,noE,noE,0⟩]]⟩
theorem zjr (w:World):Calls Tryz.prog 35 #[.int .i64 1] w λe w'=>e= .returned (.agg #[.int .i64 1, .int .i64 1, .int .u8 0, .slice none 0 0])/\Below w.heap.size w w':=by
 go_enter Tryz.func35,Tryz.ntmps35
 go_wp2
 exact bodyPost_ret (v:= .agg #[.int .i64 1, .int .i64 1, .int .u8 0, .slice none 0 0]) (by simp [results,Tryz.results35,go_sem]) rfl ⟨rfl,(Below.refl _ _).alloc (Nat.le_refl _) _⟩
theorem zqy {d:Nat} {w:World} {l:List (List zl)} {g m:Nat} {vs:List Value} {t:TypeId} (hb:w.heap[g]? =some (.cells vs.toArray t (0,0))) (hm:l.length<=m/\m<=9223372036854775807) (h:∀j,j<l.length->∃v,vs[j]? =some v/\qD d w v (l.getD j [])):yw d w (.slice (some ⟨g,0,none⟩) l.length m) l:=
 ⟨_,_,rfl,hm,λj hj=>by
  obtain⟨v,hv,hi⟩:=h j hj
  refine⟨g,0, [v],rfl,zB hb,rfl,λi hi=> ?_,v,rfl,hi⟩
  obtain rfl:i=0:=by omega
  rw [show 0+j*1+0=j by omega,za hb,List.getElem?_toArray,hv];rfl⟩
theorem zmp (w:World) (k n o:Int):zu 1 w (.mk k n o []) (.slice none 0 0):=⟨none,0,rfl,by simp [zx.kids],λj hj=>by simp [zx.kids] at hj⟩
theorem zmq:(Tryz.prog.info? 25).map (·.size)=some 3:=by kernel_rfl
def zkx (x:zl):List Value:=x.cells (.slice none 0 0) (.slice none 0 0)
theorem zdX (x:zl):(zkx x).length=12:=rfl
theorem zfX (w:World) {x:zx} (h:x.kids= []):zu 1 w x (.slice none 0 0):=by
 obtain⟨k,n,o,l⟩:=x
 have:l= [] :=h
 subst this
 exact zmp _ _ _ _
theorem zdz {w:World} {g m:Nat} {l:List zl} {t:TypeId} (hb:w.heap[g]? =some (.cells (zD zkx l).toArray t (0,0))) (hl:l.length<=maxLen) (hm:l.length=m) (h:∀j,j<l.length->(l.getD j default).a.kids= [] /\(l.getD j default).b.kids= []):qD 1 w (.slice (some ⟨g,0,none⟩) m m) l:=by
 subst hm
 exact zh.pK (R:=yH 1) (gL (B:=0) hb (Nat.zero_le _) (zav zdX l) hl) λj hj=>⟨zkx (l.getD j default),zdX _,λ_ hi=>zbu zdX hj hi,_,_,rfl,zfX _ (h j hj).1,zfX _ (h j hj).2⟩
def zmr (w:World) (e:Ending) (w':World):Prop:=(∃tv,e= .returned (xL yD tv)/\yw 1 w' tv yD.threads)/\Below w.heap.size w w'
theorem zky (w:World):Calls Tryz.prog 20 #[] w (zmr w):=by
 go_enter Tryz.func20,Tryz.ntmps20
 go_upto_region 1 with fail
 have L0:=qh ((Loc.start w).alloc 25 [.int .i64 0, .int .i64 0, .slice none 0 0])
 generalize World.alloc w _=W0 at L0 ⊢
 generalize w.heap.size=g at L0 ⊢
 go_upto_region 2 with(go_at_call 35;go_must(refine(zjr _).mono ?_);rintro e W1 ⟨rfl,hb⟩;have L1:=qh ((L0.out.later hb).alloc 45 [.int .i64 2, .int .i64 0, .int .i64 0, .int .i64 1, .int .i64 1, .int .u8 0, .slice none 0 0, .int .i64 0, .int .i64 0, .int .u8 0, .slice none 0 0, .int .i64 0, .int .i64 1, .int .i64 0, .int .i64 1, .int .i64 0, .int .i64 0, .int .u8 0, .slice none 0 0, .int .i64 0, .int .i64 0, .int .u8 0, .slice none 0 0, .int .i64 0]);clear hb L0)
 generalize World.alloc W1 _=X at L1 ⊢
 generalize W1.heap.size=b1 at L1 ⊢
 go_upto_region 3 with(go_at_call 35;go_must(refine(zjr _).mono ?_);rintro e W2 ⟨rfl,hb⟩;have L3:=qh ((L1.out.later hb).alloc 45 [.int .i64 2, .int .i64 0, .int .i64 1, .int .i64 1, .int .i64 1, .int .u8 0, .slice none 0 0, .int .i64 0, .int .i64 0, .int .u8 0, .slice none 0 0, .int .i64 0, .int .i64 1, .int .i64 0, .int .i64 0, .int .i64 0, .int .i64 0, .int .u8 0, .slice none 0 0, .int .i64 0, .int .i64 0, .int .u8 0, .slice none 0 0, .int .i64 0]);clear hb L1)
 generalize World.alloc W2 _=Y at L3 ⊢
 generalize W2.heap.size=b2 at L3 ⊢
 have l5:=L3.out.alloc 40 [.slice (some ⟨b1,0,none⟩) 2 2, .slice (some ⟨b2,0,none⟩) 2 2]
 have hg:=(l5.news (g,25, [.int .i64 0, .int .i64 0, .slice none 0 0]) (by simp)).1
 have L5:=qh l5
 have k0:=za hg 0
 have k1:=za hg 1
 have k2:=za hg 2
 have z0:=zF hg 0
 have z1:=zF hg 1
 have z2:=zF hg 2
 clear l5 hg L3
 go_wp2
 have l6:=L5.out.store (g:=g) (t:=25) (cs:= [.int .i64 0, .int .i64 0, .slice none 0 0]) (by simp) [.int .i64 2, .int .i64 2, .slice (some ⟨Y.heap.size,0,none⟩) 2 2] rfl
 have ha:=L5.out.apart
 simp only [List.map_cons,List.map_nil,List.nodup_cons,List.mem_cons,List.not_mem_nil,or_false,not_or] at ha
 have hg:=(l6.news _ (zqj (t:=25) (cs:= [.int .i64 0, .int .i64 0, .slice none 0 0]) (by simp))).1
 have hy:=(l6.news _ (zfy (p:=(Y.heap.size,40, [.slice (some ⟨b1,0,none⟩) 2 2, .slice (some ⟨b2,0,none⟩) 2 2])) (by simp) ha.1.2.2)).1
 have h2:=(l6.news _ (zfy (p:=(b2,45, [.int .i64 2, .int .i64 0, .int .i64 1, .int .i64 1, .int .i64 1, .int .u8 0, .slice none 0 0, .int .i64 0, .int .i64 0, .int .u8 0, .slice none 0 0, .int .i64 0, .int .i64 1, .int .i64 0, .int .i64 0, .int .i64 0, .int .i64 0, .int .u8 0, .slice none 0 0, .int .i64 0, .int .i64 0, .int .u8 0, .slice none 0 0, .int .i64 0])) (by simp) ha.2.1.2)).1
 have h1:=(l6.news _ (zfy (p:=(b1,45, [.int .i64 2, .int .i64 0, .int .i64 0, .int .i64 1, .int .i64 1, .int .u8 0, .slice none 0 0, .int .i64 0, .int .i64 0, .int .u8 0, .slice none 0 0, .int .i64 0, .int .i64 1, .int .i64 0, .int .i64 1, .int .i64 0, .int .i64 0, .int .u8 0, .slice none 0 0, .int .i64 0, .int .i64 0, .int .u8 0, .slice none 0 0, .int .i64 0])) (by simp) ha.2.2.1)).1
 have L6:=qh l6.below
 change bodyPost _ _ _ _ _ (qE _ g 0 [.int .i64 2, .int .i64 2, .slice (some ⟨Y.heap.size,0,none⟩) 2 2])
 generalize qE _ g 0 _=Z at hg hy h2 h1 L6 ⊢
 refine bodyPost_ret (yB rfl _ _ g 25 _ (0,0) _ rfl hg Tryz.underlying25 rfl zmq) rfl ?_
 refine⟨⟨_,rfl,zqy (l:=yD.threads) hy (by decide) λj hj=> ?_⟩,L6.out⟩
 match j,hj with
 |0,_=>exact⟨_,rfl,zdz (l:= [⟨2,0,0,zkw,noE,0⟩,⟨1,0,1,noE,noE,0⟩]) h1 (by decide) rfl (λj hj=>by match j,hj with|0,_=>exact⟨rfl,rfl⟩|1,_=>exact⟨rfl,rfl⟩)⟩
 |1,_=>exact⟨_,rfl,zdz (l:= [⟨2,0,1,zkw,noE,0⟩,⟨1,0,0,noE,noE,0⟩]) h2 (by decide) rfl (λj hj=>by match j,hj with|0,_=>exact⟨rfl,rfl⟩|1,_=>exact⟨rfl,rfl⟩)⟩
theorem jB.arg {w w':World} {c:zo} {model:Int} {d:Nat} {e:Ending} (h:jB w c model d e w') (ha:(yF c && codeOk c)=false\/model<0\/2<model):e= .returned (.tuple #[.slice none 0 0, .bool false, .int .i64 1])/\Below w.heap.size w w':=by
 obtain⟨hb,h⟩:=h;rw [if_pos ha] at h;exact⟨h,hb⟩
theorem jB.long {w w':World} {c:zo} {model:Int} {d:Nat} {e:Ending} (h:jB w c model d e w') (ha:¬((yF c && codeOk c)=false\/model<0\/2<model)) (hl:8<zQ c c.threads.length\/vB c=true):e= .returned (.tuple #[.slice none 0 0, .bool false, .int .i64 2])/\Below w.heap.size w w':=by
 obtain⟨hb,h⟩:=h;rw [if_neg ha,if_pos hl] at h;exact⟨h,hb⟩
theorem jB.ok {w w':World} {c:zo} {model:Int} {d:Nat} {e:Ending} (h:jB w c model d e w') (ha:¬((yF c && codeOk c)=false\/model<0\/2<model)) (hl:¬(8<zQ c c.threads.length\/vB c=true)):
  ∃r a cap,e= .returned (.tuple #[.slice a r.length cap, .bool (jg c model d).fails, .int .i64 0])/\bS c.vars.toNat (jg c model d).out r/\qX w' (.slice a r.length cap) r/\Below w.heap.size w w':=by
 obtain⟨hb,h⟩:=h
 rw [if_neg ha,if_neg hl] at h
 obtain⟨r,a,cap,h1,h2,h3⟩:=h
 exact⟨r,a,cap,h1,h2,h3,hb⟩
def z4:List Int:= [0,0,0,0]
def o4:List Int:= [1,0,0,0]
def zcU:List yt:= [⟨[1,1], [z4,o4]⟩,⟨[1,1], [o4,z4]⟩,⟨[1,1], [o4,o4]⟩]
def zax:List yt:= [⟨[1,1], [z4,z4]⟩,⟨[1,1], [z4,o4]⟩,⟨[1,1], [o4,z4]⟩,⟨[1,1], [o4,o4]⟩]
theorem zb8:yF yD=true/\codeOk yD=true/\zQ yD yD.threads.length=4/\vB yD=false:=by decide+kernel
theorem zfY:(jg yD 0 1).fails=false/\(jg yD 1 1).fails=false:=by decide+kernel
theorem zhJ:(∀x∈(jg yD 0 1).out,x∈zcU)/\(∀x∈zcU,x∈(jg yD 0 1).out):=by decide+kernel
theorem zhK:(∀x∈(jg yD 1 1).out,x∈zax)/\(∀x∈zax,x∈(jg yD 1 1).out):=by decide+kernel
instance:DecidablePred kU:=λl=>by unfold kU;infer_instance
theorem zhL:kU zcU/\kU zax:=by decide+kernel
theorem zfZ:(∀x∈zcU,x.mem.length=2/\x.regs.length=2/\∀g∈x.regs,g.length=4)/\(∀x∈zax,x.mem.length=2/\x.regs.length=2/\∀g∈x.regs,g.length=4):=by decide+kernel
theorem zjs {M T:Nat} {l r D:List yt} (h:bS M l r) (hd:kU D) (h1:∀x∈l,x∈D) (h2:∀x∈D,x∈l) (hs:∀x∈D,x.mem.length=M/\x.regs.length=T/\∀g∈x.regs,g.length=4):r=D:=by
 obtain⟨a,b,c⟩:=h
 exact zlz (M:=M) (T:=T) a hd (λx hx=>⟨x,h1 x (b x hx),rfl⟩) (λx hx=>c x (h2 x hx)) (λx hx=>by
  rcases hx with hx|hx
  ·exact hs x (h1 x (b x hx))
  exact hs x hx)
def zf6 (w:World) (D:List yt) (e:Ending) (w':World):Prop:=∃a cap,e= .returned (.tuple #[.slice a D.length cap, .bool false, .int .i64 0])/\qX w' (.slice a D.length cap) D/\Below w.heap.size w w'
theorem zms {m:Int} (h0:0<=m) (h2:m<=2):¬((yF yD && codeOk yD)=false\/m<0\/2<m):=by
 rw [zb8.1,zb8.2.1]
 rintro(h|h|h)
 ·cases h
 ·omega
 omega
theorem zjt:¬(8<zQ yD yD.threads.length\/vB yD=true):=by
 rw [zb8.2.2.1,zb8.2.2.2]
 rintro(h|h)
 ·omega
 cases h
theorem zol {w w':World} {e:Ending} (h:jB w yD 0 1 e w'):zf6 w zcU e w':=by
 obtain⟨r,a,cap,h1,h2,h3,h4⟩:=h.ok (zms (by omega) (by omega)) zjt
 obtain rfl:=zjs (M:=2) (T:=2) h2 zhL.1 zhJ.1 zhJ.2 zfZ.1
 rw [zfY.1] at h1
 exact⟨a,cap,h1,h3,h4⟩
theorem zom {w w':World} {e:Ending} (h:jB w yD 1 1 e w'):zf6 w zax e w':=by
 obtain⟨r,a,cap,h1,h2,h3,h4⟩:=h.ok (zms (by omega) (by omega)) zjt
 obtain rfl:=zjs (M:=2) (T:=2) h2 zhL.2 zhK.1 zhK.2 zfZ.2
 rw [zfY.2] at h1
 exact⟨a,cap,h1,h3,h4⟩
theorem zon (d:Nat) (w:World):yw d w (.slice none 0 0) [] :=⟨none,0,rfl,⟨by simp,by omega⟩,λj hj=>by simp at hj⟩
theorem ziB (w:World):Calls Tryz.prog 10 #[] w λe w'=>e= .returned (.bool true)/\Below w.heap.size w w':=by
 have HD:=qh (zky w)
 have HO0:=qh (λX tv (h:yw 1 X tv yD.threads)=>(jC X yD tv 1 h (by decide) (by decide) 0).mono (λ_ _ h=>zol h))
 have wD:=qh (λX tv (h:yw 1 X tv yD.threads)=>(jC X yD tv 1 h (by decide) (by decide) 1).mono (λ_ _ h=>zom h))
 have HO3:=qh (λX tv (h:yw 1 X tv yD.threads)=>(jC X yD tv 1 h (by decide) (by decide) 3).mono (λ_ _ h=>h.arg (.inr (.inr (by omega)))))
 have HOE:=qh (λX=>(jC X ⟨0,0, []⟩ (.slice none 0 0) 1 (zon 1 X) (by decide) (by decide) 0).mono (λ_ _ h=>h.arg (.inl (by decide+kernel))))
 unfold xL at HO0 wD HO3 HOE
 unfold zmr xL at HD
 obtain⟨C,hC⟩:∃C,C=yD:=⟨_,rfl⟩
 rw [<-hC] at HD HO0 wD HO3
 clear hC
 unfold zf6 at HO0 wD
 have hl0:zcU.length=3:=rfl
 have hl1:zax.length=4:=rfl
 have hp:∀X a cap,qX X (.slice a zax.length cap) zax->∃b off mb mo mc rv,a=some ⟨b,off,none⟩/\X.cell? ⟨b,off,none⟩=some (.slice (some ⟨mb,mo,none⟩) 2 mc)/\X.cell? ⟨b,off+1,none⟩=some rv/\X.cell? ⟨mb,mo+1,none⟩=some (.int .i64 1):=λX a cap h=>by
  obtain⟨b,off,cs,h1,h2,h3,h4,mv,rv,rfl,h5⟩:=zh.part h 0 (by decide)
  have h6:=h5.mem
  obtain⟨ma,mc,rfl, -⟩:=zh.slice h6
  obtain⟨mb,mo,e1, -,h7⟩:=xX.part h6 1 (by decide)
  subst e1
  have q0:=h4 0 (by omega)
  have q1:=h4 1 (by omega)
  rw [Nat.zero_mul,Nat.add_zero] at q0 q1
  exact⟨b,off,mb,mo,mc,rv,h1,q0,q1,h7⟩
 rw [hl0] at HO0
 rw [hl1] at wD hp
 have HP:=qh hp
 clear hl0 hl1 hp
 go_enter Tryz.func10,Tryz.ntmps10
 go_upto_region 2 with(go_at_call 20;go_must(refine HD.out.mono ?_);rintro e X1 ⟨⟨tv,rfl,hrows⟩,hb⟩;(obtain⟨ta,tc,rfl, -⟩:=zh.slice hrows);(have HR:=qh hrows);(have jA:=qh hb);clear hb hrows)
 have HNW:=qh (zT X1 (.cells #[.int .i64 C.vars, .int .i64 C.domain, .slice ta C.threads.length tc] 25))
 have HAL:=qh (zK X1 (.cells #[.int .i64 C.vars, .int .i64 C.domain, .slice ta C.threads.length tc] 25))
 generalize World.alloc X1 _=X2 at HNW HAL ⊢
 obtain⟨g,hg⟩:∃q,q=X1.heap.size:=⟨_,rfl⟩
 rw [<-hg] at HNW ⊢
 clear hg
 have HC:Hid (∀x,Below X2.heap.size X2 x->(x.cell? ⟨g,0,none⟩=some (.int .i64 C.vars)/\x.cell? ⟨g,1,none⟩=some (.int .i64 C.domain)/\x.cell? ⟨g,2,none⟩=some (.slice ta C.threads.length tc))/\yw 1 x (.slice ta C.threads.length tc) C.threads):=λx hx=>⟨⟨zi hx _ _ (za HNW.out 0),zi hx _ _ (za HNW.out 1),zi hx _ _ (za HNW.out 2)⟩,zh.below (qC.stays 1) HR.out (zm HAL.out hx)⟩
 have HB2:=qh (zm jA.out HAL.out)
 clear HNW HAL HR
 obtain⟨⟨c0,c1,c2⟩,hr⟩:=HC.out X2 (Below.refl _ _)
 have HR:=qh hr
 clear hr
 go_upto_region 3 with(go_at_call 8;go_must(refine(HO0.out X2 _ HR.out).mono ?_);rintro e X3 ⟨a0,cap0,rfl,hf0,hb⟩;(have ug:=qh hb);clear hb hf0 c0 c1 c2)
 obtain⟨⟨c0,c1,c2⟩,hr⟩:=HC.out X3 ug.out
 replace HR:=qh hr
 clear hr
 go_upto_region 4 with(go_at_call 8;go_must(refine(wD.out X3 _ HR.out).mono ?_);rintro e X4 ⟨a1,zvJ,rfl,hf1,hb⟩;(have HX4:=qh (zm ug.out hb));(have HF1:=qh hf1);clear hb hf1 c0 c1 c2)
 obtain⟨⟨c0,c1,c2⟩,hr⟩:=HC.out X4 HX4.out
 replace HR:=qh hr
 clear hr
 go_upto_region 5 with(go_at_call 8;go_must(refine(HO3.out X4 _ HR.out).mono ?_);rintro e X5 ⟨rfl,hb⟩;(have HX5:=qh (zm HX4.out hb));(have HF2:=qh (zh.below qF.stays HF1.out hb));clear hb c0 c1 c2)
 go_upto_region 6 with(go_at_call 8;go_must(refine(HOE.out X5).mono ?_);rintro e X6 ⟨rfl,hb⟩;(have HX6:=qh (zm HX5.out hb));(have HF3:=qh (zh.below qF.stays HF2.out hb));clear hb)
 obtain⟨b,off,mb,mo,mc,rv,rfl,m0,m1,m2⟩:=HP.out X6 a1 zvJ HF3.out
 go_wp2_with fail
 go_ret
 exact⟨by first|rfl|simp,zm HB2.out HX6.out⟩
