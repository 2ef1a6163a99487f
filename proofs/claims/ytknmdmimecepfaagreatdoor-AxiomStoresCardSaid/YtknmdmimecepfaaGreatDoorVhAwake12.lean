/- Steps. -/
import Derived.Test.YtknmdmimecepfaaGreatDoorVhAxOut
import Derived.Test.YtknmdmimecepfaaGreatDoorVhDek
set_option linter.all false
namespace Go.Proofs.YtknmdmimecepfaaGreatDoor
open Go.RowKit
set_option maxRecDepth 100000
set_option maxHeartbeats 16000000
theorem jr.arg {w w':World} {c:zl} {model:Int} {d:Nat} {e:Ending} (h:jr w c model d e w') (ha:(yw c && codeOk c)=false\/model<0\/2<model):e= .returned (.tuple #[.slice none 0 0, .bool false, .int .i64 1])/\Below w.heap.size w w':=by
 obtain⟨hb,h⟩:=h;rw [if_pos ha] at h;exact⟨h,hb⟩
theorem jr.ok {w w':World} {c:zl} {model:Int} {d:Nat} {e:Ending} (h:jr w c model d e w') (ha:¬((yw c && codeOk c)=false\/model<0\/2<model)) (hl:¬(8<zY c c.threads.length\/qQ c=true)):
  ∃r a cap,e= .returned (.tuple #[.slice a r.length cap, .bool (yZ c model d).fails, .int .i64 0])/\vH c.vars.toNat (yZ c model d).out r/\yK w' (.slice a r.length cap) r/\Below w.heap.size w w':=by
 obtain⟨hb,h⟩:=h
 rw [if_neg ha,if_neg hl] at h
 obtain⟨r,a,cap,h1,h2,h3⟩:=h
 exact⟨r,a,cap,h1,h2,h3,hb⟩
def z4:List Int:= [0,0,0,0]
def o4:List Int:= [1,0,0,0]
def zbG:List zy:= [⟨[1,1], [z4,o4]⟩,⟨[1,1], [o4,z4]⟩,⟨[1,1], [o4,o4]⟩]
def bJ:List zy:= [⟨[1,1], [z4,z4]⟩,⟨[1,1], [z4,o4]⟩,⟨[1,1], [o4,z4]⟩,⟨[1,1], [o4,o4]⟩]
theorem zau:yw zW=true/\codeOk zW=true/\zY zW zW.threads.length=4/\qQ zW=false:=by decide+kernel
theorem zed:(yZ zW 0 1).fails=false/\(yZ zW 1 1).fails=false:=by decide+kernel
theorem zfH:(∀x∈(yZ zW 0 1).out,x∈zbG)/\(∀x∈zbG,x∈(yZ zW 0 1).out):=by decide+kernel
theorem zfI:(∀x∈(yZ zW 1 1).out,x∈bJ)/\(∀x∈bJ,x∈(yZ zW 1 1).out):=by decide+kernel
instance:DecidablePred jw:=λl=>by unfold jw;infer_instance
theorem zfJ:jw zbG/\jw bJ:=by decide+kernel
theorem zee:(∀x∈zbG,x.mem.length=2/\x.regs.length=2/\∀g∈x.regs,g.length=4)/\(∀x∈bJ,x.mem.length=2/\x.regs.length=2/\∀g∈x.regs,g.length=4):=by decide+kernel
theorem zgK {M T:Nat} {l r D:List zy} (h:vH M l r) (hd:jw D) (h1:∀x∈l,x∈D) (h2:∀x∈D,x∈l) (hs:∀x∈D,x.mem.length=M/\x.regs.length=T/\∀g∈x.regs,g.length=4):r=D:=by
 obtain⟨a,b,c⟩:=h
 exact zjH (M:=M) (T:=T) a hd (λx hx=>⟨x,h1 x (b x hx),rfl⟩) (λx hx=>c x (h2 x hx)) (λx hx=>by
  rcases hx with hx|hx
  ·exact hs x (h1 x (b x hx))
  exact hs x hx)
def zdC (w:World) (D:List zy) (e:Ending) (w':World):Prop:=∃a cap,e= .returned (.tuple #[.slice a D.length cap, .bool false, .int .i64 0])/\yK w' (.slice a D.length cap) D/\Below w.heap.size w w'
theorem zjI {m:Int} (h0:0<=m) (h2:m<=2):¬((yw zW && codeOk zW)=false\/m<0\/2<m):=by
 rw [zau.1,zau.2.1]
 rintro(h|h|h)
 ·cases h
 ·omega
 omega
theorem zgL:¬(8<zY zW zW.threads.length\/qQ zW=true):=by
 rw [zau.2.2.1,zau.2.2.2]
 rintro(h|h)
 ·omega
 cases h
theorem zlc {w w':World} {e:Ending} (h:jr w zW 0 1 e w'):zdC w zbG e w':=by
 obtain⟨r,a,cap,h1,h2,h3,h4⟩:=h.ok (zjI (by omega) (by omega)) zgL
 obtain rfl:=zgK (M:=2) (T:=2) h2 zfJ.1 zfH.1 zfH.2 zee.1
 rw [zed.1] at h1
 exact⟨a,cap,h1,h3,h4⟩
theorem zld {w w':World} {e:Ending} (h:jr w zW 1 1 e w'):zdC w bJ e w':=by
 obtain⟨r,a,cap,h1,h2,h3,h4⟩:=h.ok (zjI (by omega) (by omega)) zgL
 obtain rfl:=zgK (M:=2) (T:=2) h2 zfJ.2 zfI.1 zfI.2 zee.2
 rw [zed.2] at h1
 exact⟨a,cap,h1,h3,h4⟩
theorem zle (d:Nat) (w:World):yB d w (.slice none 0 0) [] :=⟨none,0,rfl,⟨by simp,by omega⟩,λj hj=>by simp at hj⟩
theorem zgl (w:World):Calls Tryz.prog 10 #[] w λe w'=>e= .returned (.bool true)/\Below w.heap.size w w':=by
 have HD:=qh (zh3 w)
 have HO0:=qh (λX tv (h:yB 1 X tv zW.threads)=>(vF X zW tv 1 h (by decide) (by decide) 0).mono (λ_ _ h=>zlc h))
 have HO1:=qh (λX tv (h:yB 1 X tv zW.threads)=>(vF X zW tv 1 h (by decide) (by decide) 1).mono (λ_ _ h=>zld h))
 have HO3:=qh (λX tv (h:yB 1 X tv zW.threads)=>(vF X zW tv 1 h (by decide) (by decide) 3).mono (λ_ _ h=>h.arg (.inr (.inr (by omega)))))
 have HOE:=qh (λX=>(vF X ⟨0,0, []⟩ (.slice none 0 0) 1 (zle 1 X) (by decide) (by decide) 0).mono (λ_ _ h=>h.arg (.inl (by decide+kernel))))
 unfold qP at HO0 HO1 HO3 HOE
 unfold zjb qP at HD
 obtain⟨C,hC⟩:∃C,C=zW:=⟨_,rfl⟩
 rw [<-hC] at HD HO0 HO1 HO3
 clear hC
 unfold zdC at HO0 HO1
 have hl0:zbG.length=3:=rfl
 have hl1:bJ.length=4:=rfl
 have hp:∀X a cap,yK X (.slice a bJ.length cap) bJ->∃b off mb mo mc rv,a=some ⟨b,off,none⟩/\X.cell? ⟨b,off,none⟩=some (.slice (some ⟨mb,mo,none⟩) 2 mc)/\X.cell? ⟨b,off+1,none⟩=some rv/\X.cell? ⟨mb,mo+1,none⟩=some (.int .i64 1):=λX a cap h=>by
  obtain⟨b,off,cs,h1,h2,h3,h4,mv,rv,rfl,h5⟩:=zf.part h 0 (by decide)
  have h6:=h5.mem
  obtain⟨ma,mc,rfl, -⟩:=zf.slice h6
  obtain⟨mb,mo,e1, -,h7⟩:=xJ.part h6 1 (by decide)
  subst e1
  have q0:=h4 0 (by omega)
  have q1:=h4 1 (by omega)
  rw [Nat.zero_mul,Nat.add_zero] at q0 q1
  exact⟨b,off,mb,mo,mc,rv,h1,q0,q1,h7⟩
 rw [hl0] at HO0
 rw [hl1] at HO1 hp
 have HP:=qh hp
 clear hl0 hl1 hp
 go_enter Tryz.func10,Tryz.ntmps10
 go_upto_region 2 with(go_at_call 20;go_must(refine HD.out.mono ?_);rintro e X1 ⟨⟨tv,rfl,hrows⟩,hb⟩;(obtain⟨ta,tc,rfl, -⟩:=zf.slice hrows);(have HR:=qh hrows);(have qW:=qh hb);clear hb hrows)
 have HNW:=qh (yG X1 (.cells #[.int .i64 C.vars, .int .i64 C.domain, .slice ta C.threads.length tc] 25))
 have HAL:=qh (zw X1 (.cells #[.int .i64 C.vars, .int .i64 C.domain, .slice ta C.threads.length tc] 25))
 generalize World.alloc X1 _=X2 at HNW HAL ⊢
 obtain⟨g,hg⟩:∃q,q=X1.heap.size:=⟨_,rfl⟩
 rw [<-hg] at HNW ⊢
 clear hg
 have HC:Hid (∀x,Below X2.heap.size X2 x->(x.cell? ⟨g,0,none⟩=some (.int .i64 C.vars)/\x.cell? ⟨g,1,none⟩=some (.int .i64 C.domain)/\x.cell? ⟨g,2,none⟩=some (.slice ta C.threads.length tc))/\yB 1 x (.slice ta C.threads.length tc) C.threads):=λx hx=>⟨⟨zk hx _ _ (ze HNW.out 0),zk hx _ _ (ze HNW.out 1),zk hx _ _ (ze HNW.out 2)⟩,zf.below (j5.stays 1) HR.out (zn HAL.out hx)⟩
 have HB2:=qh (zn qW.out HAL.out)
 clear HNW HAL HR
 obtain⟨⟨c0,c1,c2⟩,hr⟩:=HC.out X2 (Below.refl _ _)
 have HR:=qh hr
 clear hr
 go_upto_region 3 with(go_at_call 8;go_must(refine(HO0.out X2 _ HR.out).mono ?_);rintro e X3 ⟨a0,cap0,rfl,hf0,hb⟩;(have kT:=qh hb);clear hb hf0 c0 c1 c2)
 obtain⟨⟨c0,c1,c2⟩,hr⟩:=HC.out X3 kT.out
 replace HR:=qh hr
 clear hr
 go_upto_region 4 with(go_at_call 8;go_must(refine(HO1.out X3 _ HR.out).mono ?_);rintro e X4 ⟨a1,zrl,rfl,hf1,hb⟩;(have HX4:=qh (zn kT.out hb));(have HF1:=qh hf1);clear hb hf1 c0 c1 c2)
 obtain⟨⟨c0,c1,c2⟩,hr⟩:=HC.out X4 HX4.out
 replace HR:=qh hr
 clear hr
 go_upto_region 5 with(go_at_call 8;go_must(refine(HO3.out X4 _ HR.out).mono ?_);rintro e X5 ⟨rfl,hb⟩;(have HX5:=qh (zn HX4.out hb));(have HF2:=qh (zf.below yL.stays HF1.out hb));clear hb c0 c1 c2)
 go_upto_region 6 with(go_at_call 8;go_must(refine(HOE.out X5).mono ?_);rintro e X6 ⟨rfl,hb⟩;(have HX6:=qh (zn HX5.out hb));(have HF3:=qh (zf.below yL.stays HF2.out hb));clear hb)
 obtain⟨b,off,mb,mo,mc,rv,rfl,m0,m1,m2⟩:=HP.out X6 a1 zrl HF3.out
 go_wp2_with fail
 go_ret
 exact⟨by first|rfl|simp,zn HB2.out HX6.out⟩
