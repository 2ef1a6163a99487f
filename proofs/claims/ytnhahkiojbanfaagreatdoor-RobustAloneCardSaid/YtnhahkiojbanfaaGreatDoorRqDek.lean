/- Steps. -/
import Derived.Test.YtnhahkiojbanfaaGreatDoorRqPRev
import Derived.Test.YtnhahkiojbanfaaGreatDoorRqPSpace
set_option linter.all false
namespace Go.Proofs.YtnhahkiojbanfaaGreatDoor
open Go.RowKit
set_option maxRecDepth 100000
set_option maxHeartbeats 16000000
def zmx:zG:= .mk 1 1 0 []
def noE:zG:= .mk 0 0 0 []
def yR:zx:=⟨2,2, [[⟨2,0,0,zmx,noE,0⟩,⟨1,0,1,noE,noE,0⟩], [⟨2,0,1,zmx,noE,0⟩,⟨1,0,0,noE,noE,0⟩]]⟩
theorem zkB (w:World):Calls Tryz.prog 46 #[.int .i64 1] w λe w'=>e= .returned (.agg #[.int .i64 1, .int .i64 1, .int .u8 0, .slice none 0 0])/\Below w.heap.size w w':=by
 go_enter Tryz.func46,Tryz.ntmps46
 go_wp2
 exact bodyPost_ret (v:= .agg #[.int .i64 1, .int .i64 1, .int .u8 0, .slice none 0 0]) (by simp [results,Tryz.results46,go_sem]) rfl ⟨rfl,(Below.refl _ _).alloc (Nat.le_refl _) _⟩
theorem zsB {d:Nat} {w:World} {l:List (List zC)} {g m:Nat} {vs:List Value} {t:TypeId} (hb:w.heap[g]? =some (.cells vs.toArray t (0,0))) (hm:l.length<=m/\m<=9223372036854775807) (h:∀j,j<l.length->∃v,vs[j]? =some v/\j6 d w v (l.getD j [])):yS d w (.slice (some ⟨g,0,none⟩) l.length m) l:=
 ⟨_,_,rfl,hm,λj hj=>by
  obtain⟨v,hv,hi⟩:=h j hj
  refine⟨g,0, [v],rfl,zy hb,rfl,λi hi=> ?_,v,rfl,hi⟩
  obtain rfl:i=0:=by omega
  rw [show 0+j*1+0=j by omega,ze hb,List.getElem?_toArray,hv];rfl⟩
theorem zo1 (w:World) (k n o:Int):zw 1 w (.mk k n o []) (.slice none 0 0):=⟨none,0,rfl,by simp [zG.kids],λj hj=>by simp [zG.kids] at hj⟩
theorem zo2:(Tryz.prog.info? 26).map (·.size)=some 3:=by kernel_rfl
def zmy (x:zC):List Value:=x.cells (.slice none 0 0) (.slice none 0 0)
theorem zeD (x:zC):(zmy x).length=12:=rfl
theorem zgW (w:World) {x:zG} (h:x.kids= []):zw 1 w x (.slice none 0 0):=by
 obtain⟨k,n,o,l⟩:=x
 have:l= [] :=h
 subst this
 exact zo1 _ _ _ _
theorem zek {w:World} {g m:Nat} {l:List zC} {t:TypeId} (hb:w.heap[g]? =some (.cells (zq zmy l).toArray t (0,0))) (hl:l.length<=maxLen) (hm:l.length=m) (h:∀j,j<l.length->(l.getD j default).a.kids= [] /\(l.getD j default).b.kids= []):j6 1 w (.slice (some ⟨g,0,none⟩) m m) l:=by
 subst hm
 exact zh.zaX (R:=xE 1) (kS (B:=0) hb (Nat.zero_le _) (jO zeD l) hl) λj hj=>⟨zmy (l.getD j default),zeD _,λ_ hi=>gI zeD hj hi,_,_,rfl,zgW _ (h j hj).1,zgW _ (h j hj).2⟩
def zv7 (w:World) (e:Ending) (w':World):Prop:=(∃tv,e= .returned (xW yR tv)/\yS 1 w' tv yR.threads)/\Below w.heap.size w w'
theorem zlx (w:World):Calls Tryz.prog 25 #[] w (zv7 w):=by
 go_enter Tryz.func25,Tryz.ntmps25
 go_upto_region 1 with fail
 have L0:=qh ((Loc.start w).alloc 26 [.int .i64 0, .int .i64 0, .slice none 0 0])
 generalize World.alloc w _=W0 at L0 ⊢
 generalize w.heap.size=g at L0 ⊢
 go_upto_region 2 with(go_at_call 46;go_must(refine(zkB _).mono ?_);rintro e W1 ⟨rfl,hb⟩;have L1:=qh ((L0.out.later hb).alloc 60 [.int .i64 2, .int .i64 0, .int .i64 0, .int .i64 1, .int .i64 1, .int .u8 0, .slice none 0 0, .int .i64 0, .int .i64 0, .int .u8 0, .slice none 0 0, .int .i64 0, .int .i64 1, .int .i64 0, .int .i64 1, .int .i64 0, .int .i64 0, .int .u8 0, .slice none 0 0, .int .i64 0, .int .i64 0, .int .u8 0, .slice none 0 0, .int .i64 0]);clear hb L0)
 generalize World.alloc W1 _=X at L1 ⊢
 generalize W1.heap.size=b1 at L1 ⊢
 go_upto_region 3 with(go_at_call 46;go_must(refine(zkB _).mono ?_);rintro e W2 ⟨rfl,hb⟩;have L3:=qh ((L1.out.later hb).alloc 60 [.int .i64 2, .int .i64 0, .int .i64 1, .int .i64 1, .int .i64 1, .int .u8 0, .slice none 0 0, .int .i64 0, .int .i64 0, .int .u8 0, .slice none 0 0, .int .i64 0, .int .i64 1, .int .i64 0, .int .i64 0, .int .i64 0, .int .i64 0, .int .u8 0, .slice none 0 0, .int .i64 0, .int .i64 0, .int .u8 0, .slice none 0 0, .int .i64 0]);clear hb L1)
 generalize World.alloc W2 _=Y at L3 ⊢
 generalize W2.heap.size=b2 at L3 ⊢
 have l5:=L3.out.alloc 55 [.slice (some ⟨b1,0,none⟩) 2 2, .slice (some ⟨b2,0,none⟩) 2 2]
 have hg:=(l5.news (g,26, [.int .i64 0, .int .i64 0, .slice none 0 0]) (by simp)).1
 have L5:=qh l5
 have k0:=ze hg 0
 have k1:=ze hg 1
 have k2:=ze hg 2
 have z0:=zK hg 0
 have z1:=zK hg 1
 have z2:=zK hg 2
 clear l5 hg L3
 go_wp2
 have l6:=L5.out.store (g:=g) (t:=26) (cs:= [.int .i64 0, .int .i64 0, .slice none 0 0]) (by simp) [.int .i64 2, .int .i64 2, .slice (some ⟨Y.heap.size,0,none⟩) 2 2] rfl
 have ha:=L5.out.apart
 simp only [List.map_cons,List.map_nil,List.nodup_cons,List.mem_cons,List.not_mem_nil,or_false,not_or] at ha
 have hg:=(l6.news _ (zdv (t:=26) (cs:= [.int .i64 0, .int .i64 0, .slice none 0 0]) (by simp))).1
 have hy:=(l6.news _ (uU (p:=(Y.heap.size,55, [.slice (some ⟨b1,0,none⟩) 2 2, .slice (some ⟨b2,0,none⟩) 2 2])) (by simp) ha.1.2.2)).1
 have h2:=(l6.news _ (uU (p:=(b2,60, [.int .i64 2, .int .i64 0, .int .i64 1, .int .i64 1, .int .i64 1, .int .u8 0, .slice none 0 0, .int .i64 0, .int .i64 0, .int .u8 0, .slice none 0 0, .int .i64 0, .int .i64 1, .int .i64 0, .int .i64 0, .int .i64 0, .int .i64 0, .int .u8 0, .slice none 0 0, .int .i64 0, .int .i64 0, .int .u8 0, .slice none 0 0, .int .i64 0])) (by simp) ha.2.1.2)).1
 have h1:=(l6.news _ (uU (p:=(b1,60, [.int .i64 2, .int .i64 0, .int .i64 0, .int .i64 1, .int .i64 1, .int .u8 0, .slice none 0 0, .int .i64 0, .int .i64 0, .int .u8 0, .slice none 0 0, .int .i64 0, .int .i64 1, .int .i64 0, .int .i64 1, .int .i64 0, .int .i64 0, .int .u8 0, .slice none 0 0, .int .i64 0, .int .i64 0, .int .u8 0, .slice none 0 0, .int .i64 0])) (by simp) ha.2.2.1)).1
 have L6:=qh l6.below
 change bodyPost _ _ _ _ _ (xI _ g 0 [.int .i64 2, .int .i64 2, .slice (some ⟨Y.heap.size,0,none⟩) 2 2])
 generalize xI _ g 0 _=Z at hg hy h2 h1 L6 ⊢
 refine bodyPost_ret (yV rfl _ _ g 26 _ (0,0) _ rfl hg Tryz.underlying26 rfl zo2) rfl ?_
 refine⟨⟨_,rfl,zsB (l:=yR.threads) hy (by decide) λj hj=> ?_⟩,L6.out⟩
 match j,hj with
 |0,_=>exact⟨_,rfl,zek (l:= [⟨2,0,0,zmx,noE,0⟩,⟨1,0,1,noE,noE,0⟩]) h1 (by decide) rfl (λj hj=>by match j,hj with|0,_=>exact⟨rfl,rfl⟩|1,_=>exact⟨rfl,rfl⟩)⟩
 |1,_=>exact⟨_,rfl,zek (l:= [⟨2,0,1,zmx,noE,0⟩,⟨1,0,0,noE,noE,0⟩]) h2 (by decide) rfl (λj hj=>by match j,hj with|0,_=>exact⟨rfl,rfl⟩|1,_=>exact⟨rfl,rfl⟩)⟩
def z0D (l:List zi) (r:Int):Prop:=(∃i:Nat,i<l.length/\r=i/\(l.getD i default).bad=true/\∀j,j<i->(l.getD j default).bad=false)\/(r= -1/\∀j,j<l.length->(l.getD j default).bad=false)
theorem znl {c:zx} (h:codeOk c=true) (q:Int):xC c (zeK q)=true:=by
 unfold xC zeK
 simp only [Bool.and_eq_true,decide_eq_true_eq]
 have h1:=Int.emod_nonneg q (show(3:Int)≠0 by omega)
 have h2:=Int.emod_lt_of_pos q (show(0:Int)<3 by omega)
 have h3:=Int.emod_nonneg (q / 3) (show(3:Int)≠0 by omega)
 have h4:=Int.emod_lt_of_pos (q / 3) (show(0:Int)<3 by omega)
 exact⟨⟨⟨⟨h,by omega⟩,by omega⟩,by omega⟩,by omega⟩
theorem zro {x:Int} (h:(Lit.int .u8 x).wf=true):0<=x/\x<=255:=by
 constructor
 ·simp [Lit.wf,IntKind.min,IntKind.max,IntKind.signed] at h;omega
 simp [Lit.wf,IntKind.min,IntKind.max,IntKind.signed,IntKind.bits] at h;omega
