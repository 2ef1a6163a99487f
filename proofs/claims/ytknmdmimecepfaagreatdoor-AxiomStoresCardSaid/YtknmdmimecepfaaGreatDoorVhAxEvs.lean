/- Steps. -/
import Derived.Test.YtknmdmimecepfaaGreatDoorVhAxDfs
import Derived.Test.YtknmdmimecepfaaGreatDoorVhAxFwd
set_option linter.all false
namespace Go.Proofs.YtknmdmimecepfaaGreatDoor
open Go.RowKit
set_option maxRecDepth 100000
set_option maxHeartbeats 16000000
theorem zeE {c:zl} (hrow:∀i,i<c.threads.length->(c.threads.getD i []).length<=100000):∀i,i<=c.threads.length->zY c i<=100000*i:=by
 intro i
 induction i with
 |zero=>intro _;exact Nat.le_refl _
 |succ i ih=>
 intro hi
 have h1:=ih (by omega)
 have h2:cntF 2 (c.threads.getD i []) 0<=_:=zki
 have h3:=hrow i (by omega)
 show zY c i+cntF 2 (c.threads.getD i []) 0<=_
 omega
theorem zfR (w:World) (c:zl) (tv:Value) (d:Nat) (h:yB d w tv c.threads) (h4:c.threads.length<=100000) (hrow:∀i,i<c.threads.length->(c.threads.getD i []).length<=100000):Calls Tryz.prog 22 #[qP c tv] w λe w'=>e= .returned (.int .i64 (zY c c.threads.length:Nat))/\Below w.heap.size w w':=by
 have hle:=zeE hrow
 obtain⟨ta,tc,rfl,htl⟩:=zf.slice h
 obtain⟨n,hn⟩:∃n,n=c.threads.length:=⟨_,rfl⟩
 have qw:=qh hrow
 rw [<-hn] at h htl h4 ⊢
 clear hrow
 unfold qP
 have hA:=(Below.refl w.heap.size w).alloc (Nat.le_refl _) (.cells #[.int .i64 c.vars, .int .i64 c.domain, .slice ta n tc] 25)
 have HB:=qh hA
 have H1:=qh (yG w (.cells #[.int .i64 c.vars, .int .i64 c.domain, .slice ta n tc] 25))
 have HT:=qh (zf.below (j5.stays d) h hA)
 have HN:=qh hn
 have HLE:=qh hle
 clear h hA hn hle
 go_enter Tryz.func22,Tryz.ntmps22
 go_upto_region 1 with fail
 generalize World.alloc w _=W at HB H1 HT ⊢
 obtain⟨gx,hgx⟩:∃gx,gx=w.heap.size:=⟨_,rfl⟩
 rw [<-hgx] at H1 ⊢
 clear hgx
 have HC:Hid (∀x,Below W.heap.size W x->x.cell? ⟨gx,0,none⟩=some (.int .i64 c.vars)/\x.cell? ⟨gx,1,none⟩=some (.int .i64 c.domain)/\x.cell? ⟨gx,2,none⟩=some (.slice ta n tc)):=λx hx=>⟨zk hx _ _ (ze H1.out 0),zk hx _ _ (ze H1.out 1),zk hx _ _ (ze H1.out 2)⟩
 have HM:=qh (yG W (.cells #[.int .i64 0, .int .i64 0, .slice none 0 0, .int .i64 2, .map none, .slice none 0 0, .bool false] 58))
 have HBM:=qh (zw W (.cells #[.int .i64 0, .int .i64 0, .slice none 0 0, .int .i64 2, .map none, .slice none 0 0, .bool false] 58))
 go_upto_region 2 with fail
 generalize World.alloc W _=Y at HM HBM ⊢
 obtain⟨gm,hgm⟩:∃gx,gx=W.heap.size:=⟨_,rfl⟩
 rw [<-hgm] at HM ⊢
 clear hgm
 replace HC:Hid (∀x,Below Y.heap.size Y x->x.cell? ⟨gx,2,none⟩=some (.slice ta n tc)/\x.cell? ⟨gm,3,none⟩=some (.int .i64 2)):=λx hx=>⟨(HC.out x (zn HBM.out hx)).2.2,zk hx _ _ (ze HM.out 3)⟩
 have HBW:Hid (Below W.heap.size W Y):=HBM.out
 clear HBM
 replace HB:=qh (zn HB.out HBW.out)
 obtain⟨c2,m3⟩:=HC.out Y (Below.refl _ _)
 have HE0:Hid (0+0=zY c 0):=rfl
 go_wp2_with fail
 clear c2 m3
 go_loopg [2,13] n (λgg s2 s13 wr=>∃(i:Nat) (m:Nat),i<=n/\Hid (gg=n - i)/\s13= .int .i64 i/\Hid (Below Y.heap.size Y wr)/\s2= .int .i64 m/\Hid (m=zY c i)/\m<=100000*i)
 case atStart=>exact⟨0,0,Nat.zero_le _,rfl,rfl,Below.refl _ _,rfl,rfl,Nat.le_refl _⟩
 case round=>
 obtain⟨i,m,hi,HG,rfl,vR,rfl,HMI,hmb⟩:=hrel
 obtain⟨wo,rfl⟩:∃wo:World,wo=wr:=⟨_,rfl⟩
 obtain⟨c2,m3⟩:=HC.out wo vR.out
 by_cases hlt:i<n
 rotate_left
 ·obtain rfl:n=i:=by omega
  go_wp2_with fail
  go_ret
  rw [<-HMI.out]
  exact⟨rfl,zn HB.out vR.out⟩
 have qK:(i:Int)<(n:Int):=by omega
 obtain⟨eb,eo,ka,kc,rfl,pE,qL,hel⟩:=yB.part HT.out i (by rw [<-HN.out];exact hlt)
 obtain⟨l,hl⟩:∃l,l=c.threads.getD i [] :=⟨_,rfl⟩
 rw [<-hl] at qL hel
 obtain⟨ln,hln⟩:∃ln,ln=l.length:=⟨_,rfl⟩
 rw [<-hln] at qL hel
 have e0:=zk (zn HBW.out vR.out) _ _ qL
 have HL:=qh hl
 have qm:=qh hln
 have HEL:=qh hel
 have HEC:=qh qL
 have hl6:ln<=100000:=by rw [hln,hl];exact qw.out i (by rw [<-HN.out];exact hlt)
 clear hl hln qL hel pE
 go_wp2_with fail
 clear e0 c2 m3
 go_loopg [2,19] ln (λgg s2 s19 wr=>∃(q:Nat) (k:Nat),q<=ln/\Hid (gg=ln - q)/\s19= .int .i64 q/\Hid (Below Y.heap.size Y wr)/\s2= .int .i64 k/\Hid (k+cntF 2 l q=zY c (i+1))/\k<=100000*i+q)
 case atStart=>exact⟨0,m,Nat.zero_le _,rfl,rfl,vR.out,rfl,(by rw [HMI.out,HL.out];rfl),(by omega)⟩
 case round=>
 obtain⟨q,k,hq,HG2,rfl,HB2,rfl,HKI,hkb⟩:=hrel
 obtain⟨xE,rfl⟩:∃xE:World,xE=wr:=⟨_,rfl⟩
 obtain⟨c2,m3⟩:=HC.out xE HB2.out
 have e0:=zk (zn HBW.out HB2.out) _ _ HEC.out
 by_cases hlq:q<ln
 rotate_left
 ·obtain rfl:ln=q:=by omega
  have hk:k=zY c (i+1):=by have:=HKI.out;rw [qm.out,zkj (Nat.le_refl _)] at this;exact this
  have HK:=qh hk
  clear hk
  go_wp2_with fail
  go_roundg (n - (i+1))
  case measure=>rw [HG.out];omega
  case rel=>exact⟨i+1,k,by omega,rfl,by simp,HB2.out,rfl,HK.out,by omega⟩
 have znj:(q:Int)<(ln:Int):=by omega
 obtain⟨fb,fo,aa,ac,ba,bc,rfl, -,⟨x0,x1,x2⟩,⟨x3,x4,x5,x6⟩,⟨x7,x8,x9,x10⟩,uZ,xa,xb⟩:=qz.part (zf.below (xU.stays d) HEL.out (zn HBW.out HB2.out)) q (by rw [<-qm.out];exact hlq)
 obtain⟨x,hx⟩:∃x,x=l.getD q default:=⟨_,rfl⟩
 rw [<-hx] at x0 x1 x2 x3 x4 x5 x6 x7 x8 x9 x10 uZ xa xb
 have HX:=qh hx
 clear hx
 have HA:=qh (zw xE (.cells #[.int .i64 x.op, .int .i64 x.reg, .int .i64 x.var, .int .i64 x.a.kind, .int .i64 x.a.n, .int .u8 x.a.op, .slice aa x.a.kids.length ac, .int .i64 x.b.kind, .int .i64 x.b.n, .int .u8 x.b.op, .slice ba x.b.kids.length bc, .int .i64 x.dest] 45))
 have zL:=qh (yG xE (.cells #[.int .i64 x.op, .int .i64 x.reg, .int .i64 x.var, .int .i64 x.a.kind, .int .i64 x.a.n, .int .u8 x.a.op, .slice aa x.a.kids.length ac, .int .i64 x.b.kind, .int .i64 x.b.n, .int .u8 x.b.op, .slice ba x.b.kids.length bc, .int .i64 x.dest] 45))
 go_upto_region 8 with fail
 generalize World.alloc xE _=U at HA zL ⊢
 obtain⟨gu,hgu⟩:∃g,g=xE.heap.size:=⟨_,rfl⟩
 rw [<-hgu] at zL ⊢
 clear hgu x0 x1 x2 x3 x4 x5 x6 x7 x8 x9 x10 uZ c2 m3 e0
 have y0:=ze zL.out 0;have y1:=ze zL.out 1;have y2:=ze zL.out 2;have y3:=ze zL.out 3;have y4:=ze zL.out 4;have y5:=ze zL.out 5;have y6:=ze zL.out 6;have y7:=ze zL.out 7;have y8:=ze zL.out 8;have y9:=ze zL.out 9;have pG:=ze zL.out 10;have bg:=ze zL.out 11
 have wO:=qh (zn HB2.out HA.out)
 have xw:=zbN U gm 2 (HC.out U wO.out).2 x (.slice aa x.a.kids.length ac) (.slice ba x.b.kids.length bc)
 unfold qH at xw
 have hsome:=zi8 l q (by rw [<-qm.out];exact hlq) k _ HKI.out
 rw [<-HX.out] at hsome
 obtain⟨tb,htb⟩:∃b,b=xK 2 x.op:=⟨_,rfl⟩
 rw [<-htb] at xw hsome
 have HTB:=qh htb
 have pI:=qh xw
 have zlz:=qh hsome
 clear htb xw hsome
 cases tb with
 |true=>
  have bq:k+1+cntF 2 l (q+1)=zY c (i+1):=zlz.out.1 rfl
  have wP:=qh bq
  clear bq
  go_wp2_with(go_at_call 38;go_must(refine pI.out.mono ?_);rintro e U2 ⟨rfl,hb⟩;(have HB3:=qh hb);clear hb y0 y1 y2 y3 y4 y5 y6 y7 y8 y9 pG bg)
  go_roundg (ln - (q+1))
  case measure=>rw [HG2.out];omega
  case rel=>exact⟨q+1,k+1,by omega,rfl,by simp,zn wO.out HB3.out,by simp,wP.out,by omega⟩
 |false=>
 have bq:k+cntF 2 l (q+1)=zY c (i+1):=zlz.out.2 rfl
 have wP:=qh bq
 clear bq
 go_wp2_with(go_at_call 38;go_must(refine pI.out.mono ?_);rintro e U2 ⟨rfl,hb⟩;(have HB3:=qh hb);clear hb y0 y1 y2 y3 y4 y5 y6 y7 y8 y9 pG bg)
 go_roundg (ln - (q+1))
 case measure=>rw [HG2.out];omega
 case rel=>exact⟨q+1,k,by omega,rfl,by simp,zn wO.out HB3.out,rfl,wP.out,by omega⟩
def yI (c:zl) (model:Int) (d:Nat):Nat->za
 |0=>default
 |i+1=>zO model c.domain d (c.threads.getD i []) i (c.threads.getD i []).length (yI c model d i)
theorem zhk {model op:Int} (h:xK model op=true):xK 2 op=true:=by
 unfold xK at h ⊢
 rw [Bool.or_eq_true] at h ⊢
 rcases h with h|h
 ·exact .inl h
 rw [Bool.and_eq_true] at h
 exact .inr (by rw [h.1];rfl)
theorem zeG (model:Int) (l:List zi) (a:Nat):cntF model l a<=cntF 2 l a:=by
 unfold cntF
 exact List.countP_mono_left λx _ h=>zhk h
theorem zhl {c:zl} {i j:Nat} (h:i<=j):zY c i<=zY c j:=by
 induction h with
 |refl=>exact Nat.le_refl _
 | @step m _ ih=>exact Nat.le_trans ih (Nat.le_add_right _ _)
theorem zbA {c:zl} {i:Nat} (hi:i<c.threads.length):cntF 2 (c.threads.getD i []) 0<=zY c c.threads.length:=by
 have h1:zY c (i+1)=zY c i+cntF 2 (c.threads.getD i []) 0:=rfl
 have h2:=zhl (c:=c) (show i+1<=c.threads.length from hi)
 omega
structure StF (c:zl) (model:Int) (n:Nat) (A:za):Prop where
 v:xQ c.domain A
 cnt:∀i,i<c.threads.length->(A.th i).many+cntF model (c.threads.getD i []) (A.th i).at_<=cntF 2 (c.threads.getD i []) 0
 stood:∀i,i<n->Stood (c.threads.getD i []) (A.th i)
 le:∀i,i<c.threads.length->(A.th i).at_<=(c.threads.getD i []).length
 rest:∀i,n<=i->i<4->A.th i=default
 nu:∀i,i<c.threads.length->jK model (c.threads.getD i []) (A.th i)<=cntF 2 (c.threads.getD i []) 0
theorem gP (i:Nat):(default:za).th i=default:=by
 show(List.replicate 4 (default:zH)).getD i default=default
 rw [List.getD_eq_getElem?_getD]
 by_cases h:i<4
 ·rw [List.getElem?_replicate,if_pos h];rfl
 rw [List.getElem?_replicate,if_neg h];rfl
theorem zeH {dom:Int} (hd:1<=dom):zhm dom (default:zH):=
 ⟨⟨rfl,rfl,Nat.zero_le _⟩,λx hx=>by
  have hx:x∈([0,0,0,0] :List Int):=hx
  simp only [List.mem_cons,List.not_mem_nil,or_false,or_self] at hx
  omega,λe he=>by
  have he:e∈List.replicate 8 (default:zP):=he
  rw [List.eq_of_mem_replicate he]
  exact⟨⟨Int.le_refl _,by decide⟩,⟨Int.le_refl _,show(0:Int)<dom by omega⟩⟩⟩
theorem zkk {c:zl} {model:Int} (hd:1<=c.domain):StF c model 0 default:=by
 refine⟨⟨⟨rfl,rfl,λt ht=> ?_⟩,λx hx=> ?_,λt ht=> ?_⟩,λi hi=> ?_,λi hi=>by omega,λi hi=> ?_,λi _ _=>gP i,λi hi=> ?_⟩
 ·have ht:t∈List.replicate 4 (default:zH):=ht
  rw [List.eq_of_mem_replicate ht];exact⟨rfl,rfl,Nat.zero_le _⟩
 ·have hx:x∈([0,0,0,0] :List Int):=hx
  simp only [List.mem_cons,List.not_mem_nil,or_false,or_self] at hx
  omega
 ·have ht:t∈List.replicate 4 (default:zH):=ht
  rw [List.eq_of_mem_replicate ht];exact zeH hd
 ·rw [gP];show 0+cntF model _ 0<=_;rw [Nat.zero_add];exact zeG _ _ _
 ·rw [gP];exact Nat.zero_le _
 rw [gP];show xB default+cntF model _ 0<=_
 have h0:xB (default:zH)=0:=rfl
 rw [h0,Nat.zero_add];exact zeG _ _ _
theorem zkl {c:zl} (hc:codeOk c=true) (hf:yw c=true) {model:Int} {d n:Nat} {A:za} (hev:zY c c.threads.length<=8) (hn:n<c.threads.length) (h:StF c model n A):
  StF c model (n+1) (zO model c.domain d (c.threads.getD n []) n (c.threads.getD n []).length A):=by
 have hb:=zZ hc
 have hl:=wu hc hf hn
 have hn4:n<4:=by omega
 have h8:=zbA hn
 have hcn:=h.cnt n hn
 have hA0:=h.rest n (Nat.le_refl _) hn4
 have hbf:=zbR (model:=model) (dom:=c.domain) (d:=d) hl.good hn4 (c.threads.getD n []).length A h.v.ok (by omega) (h.le n hn) (by omega)
 have hne:∀j,j≠n->(zO model c.domain d (c.threads.getD n []) n (c.threads.getD n []).length A).th j=A.th j:=λj hj=>uG (Ne.symm hj) _ A
 refine⟨h.v.zO (by omega) hl hn4 _ (by omega),λj hj=> ?_,λj hj=> ?_,λj hj=> ?_,λj hj hj4=>by rw [hne j (by omega)];exact h.rest j (by omega) hj4,λj hj=> ?_⟩
 ·by_cases e:j=n
  ·subst e;exact Nat.le_trans hbf.cnt hcn
  rw [hne j e];exact h.cnt j hj
 ·by_cases e:j=n
  ·subst e;exact hbf.stood
  rw [hne j e];exact h.stood j (by omega)
 ·by_cases e:j=n
  ·subst e;exact hbf.le
  rw [hne j e];exact h.le j hj
 by_cases e:j=n
 ·subst e;exact Nat.le_trans hbf.nu (h.nu j hj)
 rw [hne j e];exact h.nu j hj
theorem vG {c:zl} (hc:codeOk c=true) (hf:yw c=true) {model:Int} {d:Nat} (hev:zY c c.threads.length<=8):∀n,n<=c.threads.length->StF c model n (yI c model d n):=by
 have hb:=zZ hc
 intro n
 induction n with
 |zero=>intro _;exact zkk (by omega)
 |succ n ih=>intro hn;exact zkl hc hf hev hn (ih (by omega))
theorem StF.good {c:zl} {model:Int} {A:za} (h:StF c model c.threads.length A) (hev:zY c c.threads.length<=8):qF c model A/\yg c model A<=zY c c.threads.length:=by
 refine⟨⟨h.v,λi hi=>Nat.le_trans (h.cnt i hi) (Nat.le_trans (zbA hi) hev),h.stood,h.le,λi hi hi4=>by rw [h.rest i hi hi4];rfl⟩, ?_⟩
 have:∀n,n<=c.threads.length->jZ c model A n<=zY c n:=by
  intro n
  induction n with
  |zero=>intro _;exact Nat.le_refl _
  |succ n ih=>
  intro hn
  have h1:=ih (by omega)
  have h2:=h.nu n (by omega)
  show jZ c model A n+jK _ _ _<=zY c n+cntF 2 _ 0
  omega
 exact this _ (Nat.le_refl _)
def yZ (c:zl) (model:Int) (d:Nat):yH:=zx c model d 9 (yI c model d c.threads.length) ⟨[], [],false⟩
theorem wQ {c:zl} (hc:codeOk c=true) (hf:yw c=true) {model:Int} {d:Nat} (hev:zY c c.threads.length<=8):
  (∀x,x∈(yZ c model d).out↔∃B,xX c model d (yI c model d c.threads.length) B/\yS c B=true/\x=vD c B)/\
  ((yZ c model d).fails=true↔∃B,xX c model d (yI c model d c.threads.length) B/\yS c B=true/\B.fails=true):=by
 obtain⟨hg,hnu⟩:=(vG (model:=model) (d:=d) hc hf hev _ (Nat.le_refl _)).good hev
 exact zjY hc hf hg (by omega)
theorem wR {c:zl} (hc:codeOk c=true) (hf:yw c=true) {model:Int} {d:Nat} (hev:zY c c.threads.length<=8):∀x∈(yZ c model d).out,x.mem.length=c.vars.toNat/\x.regs.length=c.threads.length/\∀r∈x.regs,r.length=4:=by
 intro x hx
 obtain⟨hg,hnu⟩:=(vG (model:=model) (d:=d) hc hf hev _ (Nat.le_refl _)).good hev
 have hb:=zZ hc
 obtain⟨B,hB, -,rfl⟩:=((wQ hc hf hev).1 x).1 hx
 have hgB:=zgT hc hf hg hB
 refine⟨?_, ?_,λr hr=> ?_⟩
 ·show(B.mem.take c.vars.toNat).length=_
  rw [List.length_take,hgB.v.ok.mem];omega
 ·show((B.zD.take c.threads.length).map _).length=_
  rw [List.length_map,List.length_take,hgB.v.ok.zD];omega
 obtain⟨t,ht,rfl⟩:=List.mem_map.1 (show r∈(B.zD.take c.threads.length).map (·.regs) from hr)
 exact(hgB.v.ok.each t (List.mem_of_mem_take ht)).regs
