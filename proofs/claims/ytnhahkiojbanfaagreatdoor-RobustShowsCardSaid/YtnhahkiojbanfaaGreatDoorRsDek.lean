/- Steps. -/
import Derived.Test.YtnhahkiojbanfaaGreatDoorRsPSpace
import Derived.Test.YtnhahkiojbanfaaGreatDoorRsShortQ
set_option linter.all false
namespace Go.Proofs.YtnhahkiojbanfaaGreatDoor
open Go.RowKit
set_option maxRecDepth 100000
set_option maxHeartbeats 16000000
def zoP:zO:= .mk 1 1 0 []
def noE:zO:= .mk 0 0 0 []
def qF:zD:=⟨2,2, [[⟨2,0,0,zoP,noE,0⟩,⟨1,0,1,noE,noE,0⟩], [⟨2,0,1,zoP,noE,0⟩,⟨1,0,0,noE,noE,0⟩]]⟩
theorem znP (w:World):Calls Tryz.prog 46 #[.int .i64 1] w λe w'=>e= .returned (.agg #[.int .i64 1, .int .i64 1, .int .u8 0, .slice none 0 0])/\Below w.heap.size w w':=by
 go_enter Tryz.func46,Tryz.ntmps46
 go_wp2
 exact bodyPost_ret (v:= .agg #[.int .i64 1, .int .i64 1, .int .u8 0, .slice none 0 0]) (by simp [results,Tryz.results46,go_sem]) rfl ⟨rfl,(Below.refl _ _).alloc (Nat.le_refl _) _⟩
theorem zxC {d:Nat} {w:World} {l:List (List zS)} {g m:Nat} {vs:List Value} {t:TypeId} (hb:w.heap[g]? =some (.cells vs.toArray t (0,0))) (hm:l.length<=m/\m<=9223372036854775807) (h:∀j,j<l.length->∃v,vs[j]? =some v/\gD d w v (l.getD j [])):yS d w (.slice (some ⟨g,0,none⟩) l.length m) l:=
 ⟨_,_,rfl,hm,λj hj=>by
  obtain⟨v,hv,hi⟩:=h j hj
  refine⟨g,0, [v],rfl,zw hb,rfl,λi hi=> ?_,v,rfl,hi⟩
  obtain rfl:i=0:=by omega
  rw [show 0+j*1+0=j by omega,ze hb,List.getElem?_toArray,hv];rfl⟩
theorem zqJ (w:World) (k n o:Int):zG 1 w (.mk k n o []) (.slice none 0 0):=⟨none,0,rfl,by simp [zO.kids],λj hj=>by simp [zO.kids] at hj⟩
theorem zqK:(Tryz.prog.info? 26).map (·.size)=some 3:=by kernel_rfl
def zoQ (x:zS):List Value:=x.cells (.slice none 0 0) (.slice none 0 0)
theorem zha (x:zS):(zoQ x).length=12:=rfl
theorem zjC (w:World) {x:zO} (h:x.kids= []):zG 1 w x (.slice none 0 0):=by
 obtain⟨k,n,o,l⟩:=x
 have:l= [] :=h
 subst this
 exact zqJ _ _ _ _
theorem zgu {w:World} {g m:Nat} {l:List zS} {t:TypeId} (hb:w.heap[g]? =some (.cells (zo zoQ l).toArray t (0,0))) (hl:l.length<=maxLen) (hm:l.length=m) (h:∀j,j<l.length->(l.getD j default).a.kids= [] /\(l.getD j default).b.kids= []):gD 1 w (.slice (some ⟨g,0,none⟩) m m) l:=by
 subst hm
 exact zh.zct (R:=vK 1) (gM (B:=0) hb (Nat.zero_le _) (jB zha l) hl) λj hj=>⟨zoQ (l.getD j default),zha _,λ_ hi=>zay zha hj hi,_,_,rfl,zjC _ (h j hj).1,zjC _ (h j hj).2⟩
def zyy (w:World) (e:Ending) (w':World):Prop:=(∃tv,e= .returned (yQ qF tv)/\yS 1 w' tv qF.threads)/\Below w.heap.size w w'
theorem zoR (w:World):Calls Tryz.prog 25 #[] w (zyy w):=by
 go_enter Tryz.func25,Tryz.ntmps25
 go_upto_region 1 with fail
 have L0:=qh ((Loc.start w).alloc 26 [.int .i64 0, .int .i64 0, .slice none 0 0])
 generalize World.alloc w _=W0 at L0 ⊢
 generalize w.heap.size=g at L0 ⊢
 go_upto_region 2 with(go_at_call 46;go_must(refine(znP _).mono ?_);rintro e W1 ⟨rfl,hb⟩;have L1:=qh ((L0.out.later hb).alloc 60 [.int .i64 2, .int .i64 0, .int .i64 0, .int .i64 1, .int .i64 1, .int .u8 0, .slice none 0 0, .int .i64 0, .int .i64 0, .int .u8 0, .slice none 0 0, .int .i64 0, .int .i64 1, .int .i64 0, .int .i64 1, .int .i64 0, .int .i64 0, .int .u8 0, .slice none 0 0, .int .i64 0, .int .i64 0, .int .u8 0, .slice none 0 0, .int .i64 0]);clear hb L0)
 generalize World.alloc W1 _=X at L1 ⊢
 generalize W1.heap.size=b1 at L1 ⊢
 go_upto_region 3 with(go_at_call 46;go_must(refine(znP _).mono ?_);rintro e W2 ⟨rfl,hb⟩;have L3:=qh ((L1.out.later hb).alloc 60 [.int .i64 2, .int .i64 0, .int .i64 1, .int .i64 1, .int .i64 1, .int .u8 0, .slice none 0 0, .int .i64 0, .int .i64 0, .int .u8 0, .slice none 0 0, .int .i64 0, .int .i64 1, .int .i64 0, .int .i64 0, .int .i64 0, .int .i64 0, .int .u8 0, .slice none 0 0, .int .i64 0, .int .i64 0, .int .u8 0, .slice none 0 0, .int .i64 0]);clear hb L1)
 generalize World.alloc W2 _=Y at L3 ⊢
 generalize W2.heap.size=b2 at L3 ⊢
 have l5:=L3.out.alloc 55 [.slice (some ⟨b1,0,none⟩) 2 2, .slice (some ⟨b2,0,none⟩) 2 2]
 have hg:=(l5.news (g,26, [.int .i64 0, .int .i64 0, .slice none 0 0]) (by simp)).1
 have L5:=qh l5
 have k0:=ze hg 0
 have k1:=ze hg 1
 have k2:=ze hg 2
 have z0:=zA hg 0
 have z1:=zA hg 1
 have z2:=zA hg 2
 clear l5 hg L3
 go_wp2
 have l6:=L5.out.store (g:=g) (t:=26) (cs:= [.int .i64 0, .int .i64 0, .slice none 0 0]) (by simp) [.int .i64 2, .int .i64 2, .slice (some ⟨Y.heap.size,0,none⟩) 2 2] rfl
 have ha:=L5.out.apart
 simp only [List.map_cons,List.map_nil,List.nodup_cons,List.mem_cons,List.not_mem_nil,or_false,not_or] at ha
 have hg:=(l6.news _ (uS (t:=26) (cs:= [.int .i64 0, .int .i64 0, .slice none 0 0]) (by simp))).1
 have hy:=(l6.news _ (jL (p:=(Y.heap.size,55, [.slice (some ⟨b1,0,none⟩) 2 2, .slice (some ⟨b2,0,none⟩) 2 2])) (by simp) ha.1.2.2)).1
 have h2:=(l6.news _ (jL (p:=(b2,60, [.int .i64 2, .int .i64 0, .int .i64 1, .int .i64 1, .int .i64 1, .int .u8 0, .slice none 0 0, .int .i64 0, .int .i64 0, .int .u8 0, .slice none 0 0, .int .i64 0, .int .i64 1, .int .i64 0, .int .i64 0, .int .i64 0, .int .i64 0, .int .u8 0, .slice none 0 0, .int .i64 0, .int .i64 0, .int .u8 0, .slice none 0 0, .int .i64 0])) (by simp) ha.2.1.2)).1
 have h1:=(l6.news _ (jL (p:=(b1,60, [.int .i64 2, .int .i64 0, .int .i64 0, .int .i64 1, .int .i64 1, .int .u8 0, .slice none 0 0, .int .i64 0, .int .i64 0, .int .u8 0, .slice none 0 0, .int .i64 0, .int .i64 1, .int .i64 0, .int .i64 1, .int .i64 0, .int .i64 0, .int .u8 0, .slice none 0 0, .int .i64 0, .int .i64 0, .int .u8 0, .slice none 0 0, .int .i64 0])) (by simp) ha.2.2.1)).1
 have L6:=qh l6.below
 change bodyPost _ _ _ _ _ (yx _ g 0 [.int .i64 2, .int .i64 2, .slice (some ⟨Y.heap.size,0,none⟩) 2 2])
 generalize yx _ g 0 _=Z at hg hy h2 h1 L6 ⊢
 refine bodyPost_ret (xQ rfl _ _ g 26 _ (0,0) _ rfl hg Tryz.underlying26 rfl zqK) rfl ?_
 refine⟨⟨_,rfl,zxC (l:=qF.threads) hy (by decide) λj hj=> ?_⟩,L6.out⟩
 match j,hj with
 |0,_=>exact⟨_,rfl,zgu (l:= [⟨2,0,0,zoP,noE,0⟩,⟨1,0,1,noE,noE,0⟩]) h1 (by decide) rfl (λj hj=>by match j,hj with|0,_=>exact⟨rfl,rfl⟩|1,_=>exact⟨rfl,rfl⟩)⟩
 |1,_=>exact⟨_,rfl,zgu (l:= [⟨2,0,1,zoP,noE,0⟩,⟨1,0,0,noE,noE,0⟩]) h2 (by decide) rfl (λj hj=>by match j,hj with|0,_=>exact⟨rfl,rfl⟩|1,_=>exact⟨rfl,rfl⟩)⟩
def zyz (S:yH) (er:Int) (n1 n2 n3:Nat) (w:World) (e:Ending) (w':World):Prop:=(∃(a1 a2 a3:Option Addr) (c1 c2 c3:Nat),e= .returned (.tuple #[.agg #[.slice a1 n1 c1, .slice a2 n2 c2, .slice a3 n3 c3], .int .i64 er])/\wM w' S (.slice a1 n1 c1) (.slice a2 n2 c2) (.slice a3 n3 c3))/\Below w.heap.size w w'
theorem zxD {w w':World} {r:yH × Int} {S:yH} {er:Int} {n1 n2 n3:Nat} {e:Ending} (hr:r=(S,er)) (h1:n1=S.states.length) (h2:n2=S.moves.length) (h3:n3=S.next.length) (h:zcu w r e w'):zyz S er n1 n2 n3 w e w':=by
 subst hr h1 h2 h3
 obtain⟨⟨sv,mv,nv,rfl,hs, -, -⟩,hb⟩:=h
 obtain⟨a1,c1,rfl, -⟩:=zh.slice hs.1
 obtain⟨a2,c2,rfl, -⟩:=zh.slice hs.2.1
 obtain⟨a3,c3,rfl, -⟩:=zh.slice hs.2.2
 exact⟨⟨a1,a2,a3,c1,c2,c3,rfl,hs⟩,hb⟩
def zy0 (s:zi) (bd:Bool) (er:Int) (w:World) (e:Ending) (w':World):Prop:=(∃(a b:Option Addr) (n c k f:Nat),e= .returned (.tuple #[.agg #[.slice a n c, .slice b k f, .bool bd], .int .i64 er])/\zX w' s (.slice a n c) (.slice b k f))/\Below w.heap.size w w'
theorem zxE {w w':World} {r:zi × Int} {s:zi} {bd:Bool} {er:Int} {e:Ending} (hr:r=(s,er)) (hb:bd=s.bad) (h:zff w r e w'):zy0 s bd er w e w':=by
 subst hr hb
 exact h
theorem zqL {c:zD} (h:codeOk c=true) (q:Int):qA c (zhF q)=true:=by
 unfold qA zhF
 simp only [Bool.and_eq_true,decide_eq_true_eq]
 have h1:=Int.emod_nonneg q (show(3:Int)≠0 by omega)
 have h2:=Int.emod_lt_of_pos q (show(0:Int)<3 by omega)
 have h3:=Int.emod_nonneg (q / 3) (show(3:Int)≠0 by omega)
 have h4:=Int.emod_lt_of_pos (q / 3) (show(0:Int)<3 by omega)
 exact⟨⟨⟨⟨h,by omega⟩,by omega⟩,by omega⟩,by omega⟩
theorem zwn {x:Int} (h:(Lit.int .u8 x).wf=true):0<=x/\x<=255:=by
 constructor
 ·simp [Lit.wf,IntKind.min,IntKind.max,IntKind.signed] at h;omega
 simp [Lit.wf,IntKind.min,IntKind.max,IntKind.signed,IntKind.bits] at h;omega
theorem zqM (w:World) (s t:zi) (bd be:Bool) (hbd:bd=s.bad) (hbe:be=t.bad) (a1 a2 b1 b2:Option Addr) (n1 n2 m1 m2 c1 c2 d1 d2:Nat) (ha:zX w s (.slice a1 n1 c1) (.slice a2 n2 c2)) (hb:zX w t (.slice b1 m1 d1) (.slice b2 m2 d2)):
  Calls Tryz.prog 16 #[.agg #[.slice a1 n1 c1, .slice a2 n2 c2, .bool bd], .agg #[.slice b1 m1 d1, .slice b2 m2 d2, .bool be]] w λe w'=>e= .returned (.bool (decide (s=t)))/\Below w.heap.size w w':=by
 subst hbd hbe
 exact zjD w s t _ _ _ _ ha hb
