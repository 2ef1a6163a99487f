/- Steps. -/
import Derived.Test.YtknmdmimecepfaaGreatDoorVhRFlat
set_option linter.all false
namespace Go.Proofs.YtknmdmimecepfaaGreatDoor
open Go.RowKit
set_option maxRecDepth 100000
set_option maxHeartbeats 16000000
def bR (x:zy) (B:List zy):Nat->Bool
 |0=>false
 |k+1=>bR x B k||vg x (B.getD k default)
def wG (A B:List zy):Bool:=(List.range A.length).all λi=>bR (A.getD i default) B B.length
theorem zkV {x:zy} {B:List zy} :∀n,bR x B n=true↔∃k,k<n/\vg x (B.getD k default)=true:=by
 intro n
 induction n with
 |zero=>exact⟨λh=>(by cases h),λ⟨k,hk,_⟩=>(by omega)⟩
 |succ n ih=>
 show(bR x B n||vg x (B.getD n default))=true↔_
 rw [Bool.or_eq_true,ih]
 constructor
 ·rintro(⟨k,hk,h⟩|h)
  ·exact⟨k,by omega,h⟩
  exact⟨n,by omega,h⟩
 rintro⟨k,hk,h⟩
 rcases Nat.lt_or_ge k n with hl|hl
 ·exact .inl ⟨k,hl,h⟩
 obtain rfl:k=n:=by omega
 exact .inr h
theorem zdq {A B:List zy} (h:∀i,i<A.length->bR (A.getD i default) B B.length=true):wG A B=true:=by
 unfold wG;rw [List.all_eq_true];intro i hi;exact h i (by simpa using hi)
theorem zjW {A B:List zy} {i:Nat} (hi:i<A.length) (h:bR (A.getD i default) B B.length=false):wG A B=false:=by
 unfold wG;rw [List.all_eq_false];exact⟨i,by simpa using hi,by rw [h];simp⟩
theorem zdr (w:World) (A B:List zy) (av bv:Value) (hA:yK w av A) (hB:yK w bv B) (hfa:∀x∈A,j4 x) (gI:∀x∈B,j4 x):
  Calls Tryz.prog 17 #[av,bv] w λe w'=>e= .returned (.bool (wG A B))/\Below w.heap.size w w':=by
 obtain⟨aa,ac,rfl,hal⟩:=zf.slice hA
 obtain⟨ba,bc,rfl,hbl⟩:=zf.slice hB
 obtain⟨n,hn⟩:∃n,n=A.length:=⟨_,rfl⟩
 obtain⟨m,hm⟩:∃n,n=B.length:=⟨_,rfl⟩
 obtain⟨r,hr⟩:∃r,r=wG A B:=⟨_,rfl⟩
 rw [<-hn] at hA hal ⊢
 rw [<-hm] at hB hbl ⊢
 rw [<-hr]
 have HA:=qh hA
 have HB:=qh hB
 have HFA:=qh hfa
 have HFB:=qh gI
 have HN:=qh hn
 have HM:=qh hm
 have HR:=qh hr
 clear hA hB hfa gI hn hm hr
 go_enter Tryz.func17,Tryz.ntmps17
 go_wp2_with fail
 go_loopg [5] n (λgg s5 wr=>∃i:Nat,i<=n/\Hid (gg=n - i)/\s5= .int .i64 i/\Hid (Below w.heap.size w wr)/\Hid (∀j,j<i->bR (A.getD j default) B B.length=true))
 case atStart=>exact⟨0,Nat.zero_le _,rfl,rfl,Below.refl _ _,λj hj=>by omega⟩
 case round=>
 obtain⟨i,hi,HG,rfl,vR,HJ⟩:=hrel
 obtain⟨wo,rfl⟩:∃wo:World,wo=wr:=⟨_,rfl⟩
 by_cases hlt:i<n
 rotate_left
 ·obtain rfl:n=i:=by omega
  have hfin:r=true:=by rw [HR.out];exact zdq (by rw [<-HN.out];exact HJ.out)
  subst hfin
  go_wp2_with fail
  go_ret
  exact⟨by first|rfl|simp,vR.out⟩
 have qK:(i:Int)<(n:Int):=by omega
 go_wp2_with fail
 go_loopg [6,7] m (λgg s6 s7 wr=>∃(k:Nat) (b:Bool),k<=m/\Hid (gg=m - k)/\s7= .int .i64 k/\s6= .bool b/\Hid (b=bR (A.getD i default) B k)/\Hid (Below w.heap.size w wr))
 case atStart=>exact⟨0,false,Nat.zero_le _,rfl,rfl,rfl,rfl,vR.out⟩
 case round=>
 obtain⟨k,b,hk,HG2,rfl,rfl,HBK,HB2⟩:=hrel
 obtain⟨xE,rfl⟩:∃xE:World,xE=wr:=⟨_,rfl⟩
 by_cases hlk:k<m
 rotate_left
 ·obtain rfl:m=k:=by omega
  cases b with
  |true=>
   have HNJ:Hid (∀j,j<i+1->bR (A.getD j default) B B.length=true):=λj hj=>by
    rcases Nat.lt_or_ge j i with hl|hl
    ·exact HJ.out j hl
    obtain rfl:j=i:=by omega
    have:=HBK.out;rw [HM.out] at this;exact this.symm
   go_wp2_with fail
   go_roundg (n - (i+1))
   case measure=>rw [HG.out];omega
   case rel=>exact⟨i+1,by omega,rfl,by simp,HB2.out,HNJ.out⟩
  |false=>
  have hfin:r=false:=by rw [HR.out];exact zjW (i:=i) (by rw [<-HN.out];exact hlt) (by have:=HBK.out;rw [HM.out] at this;exact this.symm)
  subst hfin
  go_wp2_with fail
  go_ret
  exact⟨by first|rfl|simp,HB2.out⟩
 have zty:(k:Int)<(m:Int):=by omega
 obtain⟨xb,xo,xma,xmc,xra,xrc,rfl, -,x0,x1,xf⟩:=yK.part HA.out i (by rw [<-HN.out];exact hlt)
 obtain⟨yb,yo,yma,ymc,yra,yrc,rfl, -,y0,y1,yf⟩:=yK.part HB.out k (by rw [<-HM.out];exact hlk)
 have hx1:=HFA.out _ (zV (x:=default) (show i<A.length by rw [<-HN.out];exact hlt))
 have hy1:=HFB.out _ (zV (x:=default) (show k<B.length by rw [<-HM.out];exact hlk))
 have hnx:bR (A.getD i default) B (k+1)=(b||vg (A.getD i default) (B.getD k default)):=by rw [HBK.out];rfl
 obtain⟨x,hx⟩:∃x,x=A.getD i default:=⟨_,rfl⟩
 obtain⟨y,hy⟩:∃x,x=B.getD k default:=⟨_,rfl⟩
 rw [<-hx] at x0 x1 xf hx1 hnx HBK
 rw [<-hy] at y0 y1 yf hy1 hnx
 have hsm:=λX (hX:Below w.heap.size w X)=>zdz X x y _ _ _ _ (xf.below hX) (yf.below hX) hx1 hy1
 obtain⟨sb,hsb⟩:∃b,b=vg x y:=⟨_,rfl⟩
 rw [<-hsb] at hnx hsm
 have CC:Hid (∀X,Below xE.heap.size xE X->X.cell? ⟨xb,xo+i*2,none⟩=some (.slice xma x.mem.length xmc)/\X.cell? ⟨xb,xo+i*2+1,none⟩=some (.slice xra x.regs.length xrc)/\X.cell? ⟨yb,yo+k*2,none⟩=some (.slice yma y.mem.length ymc)/\X.cell? ⟨yb,yo+k*2+1,none⟩=some (.slice yra y.regs.length yrc)):=λX hX=>
  ⟨zk (zn HB2.out hX) _ _ x0,zk (zn HB2.out hX) _ _ x1,zk (zn HB2.out hX) _ _ y0,zk (zn HB2.out hX) _ _ y1⟩
 unfold qg at hsm
 have HSM:=qh hsm
 have bB:=qh hnx
 have HXE:=qh hx
 clear x0 x1 y0 y1 xf yf hx1 hy1 hsb hy hsm hnx hx
 cases b with
 |true=>
  go_upto_region 8 with fail
  refine vP (S:=λx=>Below xE.heap.size xE x) ((Below.refl _ _).drew) (λhT=> ?_)
  refine zh 0 CC.out ?_
  refine zh 1 CC.out ?_
  refine qV 2 (by assumption) ?_
  refine qV 3 (by assumption) ?_
  refine qV 4 (by assumption) ?_
  refine qV 5 (by assumption) ?_
  refine qV 6 (by assumption) ?_
  refine qV 7 (by assumption) ?_
  refine qV 8 (by assumption) ?_
  refine qV 9 (by assumption) ?_
  refine qV 10 (by assumption) ?_
  refine zh 11 CC.out ?_
  refine zh 12 CC.out ?_
  refine vK ?_
  go_wp2_with fail
  go_roundg (m - (k+1))
  case measure=>rw [HG2.out];omega
  case rel=>exact⟨k+1,true,by omega,rfl,by simp,rfl,by rw [Hid, <-HXE.out,bB.out];rfl,zn HB2.out hT⟩
 |false=>
 go_upto_region 8 with fail
 refine vP (S:=λx=>Below xE.heap.size xE x) ((Below.refl _ _).drew) (λhF=> ?_)
 refine zh 0 CC.out ?_
 refine zh 1 CC.out ?_
 refine zh 2 CC.out ?_
 refine zh 3 CC.out ?_
 refine zh 4 CC.out ?_
 refine zh 5 CC.out ?_
 refine zh 6 CC.out ?_
 refine zh 7 CC.out ?_
 refine zh 8 CC.out ?_
 refine zh 9 CC.out ?_
 refine qG 10 rfl (λK hK=> ?_)
 go_simp
 refine(HSM.out xE.drew (zn HB2.out hF)).mono ?_
 rintro e zrv ⟨rfl,hb⟩
 have zmo:Below xE.heap.size xE zrv:=zn hF hb
 refine hK.out _ _ zmo (λ_=> ?_)
 clear hK K hb hF
 refine zh 11 CC.out ?_
 refine zh 12 CC.out ?_
 refine vK ?_
 go_wp2_with fail
 go_roundg (m - (k+1))
 case measure=>rw [HG2.out];omega
 case rel=>exact⟨k+1,sb,by omega,rfl,by simp,by first|rfl|simp,by rw [Hid, <-HXE.out,bB.out];simp,zn HB2.out zmo⟩
