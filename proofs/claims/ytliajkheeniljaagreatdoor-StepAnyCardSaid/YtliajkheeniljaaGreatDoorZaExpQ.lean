/- Rows of things that lie elsewhere, while they grow. Explore: what it holds while it runs. Explore: what is so of the states that are come to: plain Lean. Finals as data; append of a slice that may be nil. All states that are come to: the document's answer: the walk. Statements and programs: what they are as data, and how they lie in memory. Statements as instructions: the document's answer: a block, its statements' answers given. A statement as instructions: the document's answer: the walk, its blocks' answers given. A statement as instructions: the document's answer: an If. Statements as instructions: the document's answer, however deep. Names: what a byte is: the document's answer. A word of one byte is none of the language's own. A letter is a name: the document's answer: the walk. Programs: which may be, and that their instructions may be: plain Lean. May statements be: the document's answer: the walk over statements that may be. A program that may be is told so: the document's answer: the walk. Two threads that each store and look at the other one's: the code, in memory. -/
import Derived.Test.YtliajkheeniljaaGreatDoorZaData
import Derived.Test.YtliajkheeniljaaGreatDoorZaDo
import Derived.Test.YtliajkheeniljaaGreatDoorZaFits
import Derived.Test.YtliajkheeniljaaGreatDoorZaLook
import Derived.Test.YtliajkheeniljaaGreatDoorZaMoves
import Derived.Test.YtliajkheeniljaaGreatDoorZaSame7
import Derived.Test.YtliajkheeniljaaGreatDoorZaStart
import Derived.Test.YtliajkheeniljaaGreatDoorZaStepQ
import Derived.Test.YtliajkheeniljaaGreatDoorZaShort
set_option linter.all false
namespace Go.Proofs.YtliajkheeniljaaGreatDoor
open Go.RowKit
set_option maxRecDepth 100000
set_option maxHeartbeats 16000000
theorem bU {w:World} {B C:Nat} {e e':TypeId} {size size':Nat} {v v':Value} {n n':Nat} {xs xs':List Value} (h:w.ownsRow B e size v n xs) (h':w.ownsRow C e' size' v' n' xs') (hne:e≠e'):∀k,v.ownBlock=some k->v'.ownBlock≠some k:=by
 intro k h1 h2
 rcases h'.2 with⟨rfl, -⟩|⟨g,cap,cur,rfl, -,hg, -⟩
 ·simp [Value.ownBlock] at h2
 ·simp only [Value.ownBlock,Option.some.injEq] at h2
  subst h2
  exact zn5 h h1 hg hne
structure qG {α:Type} [Inhabited α] (F:Nat->Prop) (X:World) (R:World->α->List Value->Prop) (size B:Nat) (e:TypeId) (v:Value) (l:List α) (css:List (List Value)):Prop where
 len:css.length=l.length
 part:∀j,j<l.length->(css.getD j []).length=size/\vB F X (fun y=>R y (l.getD j default) (css.getD j []))
 row:X.ownsRow B e size v l.length css.flatten
section
variable {α:Type} [Inhabited α] {F F' G:Nat->Prop} {X X':World} {R:World->α->List Value->Prop} {size B:Nat} {e:TypeId} {v v':Value} {l:List α} {css:List (List Value)}
theorem qG.nil (F:Nat->Prop) (X:World) (R:World->α->List Value->Prop) (size B:Nat) (e:TypeId):qG F X R size B e (.slice none 0 0) [] [] :=⟨rfl,fun j hj=>by simp at hj,World.ownsRow_nil _ _ _ _⟩
theorem qG.step (h:qG F X R size B e v l css) (hs:Since G X X') (hv:∀k,v.ownBlock=some k->¬G k) (hG:∀k,G k->F k\/X.heap.size<=k) (hF:∀k,F' k->F k\/X.heap.size<=k):qG F' X' R size B e v l css:=
 ⟨h.len,fun j hj=>⟨(h.part j hj).1,(h.part j hj).2.step hs hG hF⟩,hs.row h.row hv⟩
theorem zcq {β:Type} {l:List β} {x d:β} {j:Nat} (hj:j<l.length):(l++ [x]).getD j d=l.getD j d:=by
 simp only [List.getD_eq_getElem?_getD,List.getElem?_append_left hj]
theorem zcr {β:Type} {l:List β} {x d:β} :(l++ [x]).getD l.length d=x:=by
 simp [List.getD_eq_getElem?_getD]
theorem qG.push (h:qG F X R size B e v l css) (hs:Since G X X') (hG:∀k,G k->F k\/X.heap.size<=k) (hF:∀k,F' k->F k\/X.heap.size<=k) {x:α} {cs:List Value} (hx:vB F X (fun y=>R y x cs)) (hc:cs.length=size)
  (h1:X'.ownsRow B e size v' (l.length+1) (css.flatten++cs)):qG F' X' R size B e v' (l++ [x]) (css++ [cs]):=by
 refine⟨by simp [h.len],fun j hj=> ?_, ?_⟩
 ·rw [List.length_append] at hj
  simp only [List.length_cons,List.length_nil] at hj
  by_cases e:j=l.length
  ·subst e
   rw [zcr,show l.length=css.length from h.len.symm,zcr]
   exact⟨hc,hx.step hs hG hF⟩
  ·have hj':j<l.length:=by omega
   rw [zcq hj',zcq (by rw [h.len];exact hj')]
   exact⟨(h.part j hj').1,(h.part j hj').2.step hs hG hF⟩
 ·rw [List.length_append,List.flatten_append]
  simpa using h1
end
def znh (w:World) (l:List zG) (cs:List Value):Prop:=∃v,cs= [v] /\jl w v l
def zq8 (w:World) (l:List Int) (cs:List Value):Prop:=∃v,cs= [v] /\xH w v l
theorem zcW {w:World} {B:Nat} {sv:Value} {l:List zG} (h:w.ownsRow B 32 3 sv l.length (zq zG.cells l)):jl w sv l:=zl.of_flat (R:=zak) (f:=zG.cells) zgi (fun _ _=>rfl) h
structure zni where
 states:List zu
 moves:List (List zG)
 next:List (List Int)
instance:Inhabited zni:=⟨⟨[], [], []⟩⟩
def XF (g r:Nat) (sv mv nv xv:Value) (k:Nat):Prop:=(k=g\/k<=r)\/sv.ownBlock=some k\/mv.ownBlock=some k\/nv.ownBlock=some k\/xv.ownBlock=some k
structure XAt (W X:World) (g r:Nat) (sv mv nv xv:Value) (sl:List zu) (ml:List (List zG)) (nl:List (List Int)) (xl:List Int) (sc mc nc:List (List Value)):Prop where
 below:Below W.heap.size W X
 lo:W.heap.size<=g
 rlo:r<W.heap.size
 box:X.heap[g]? =some (.cells #[sv,mv,nv] 71 (0,0))
 st:qG (XF g r sv mv nv xv) X gI 3 W.heap.size 30 sv sl sc
 mo:qG (XF g r sv mv nv xv) X znh 1 W.heap.size 52 mv ml mc
 ne:qG (XF g r sv mv nv xv) X zq8 1 W.heap.size 28 nv nl nc
 xr:X.ownsRow W.heap.size 3 1 xv xl.length (zq yE xl)
section
variable {W X X1:World} {g r:Nat} {sv mv nv xv sv':Value} {sl:List zu} {ml:List (List zG)} {nl:List (List Int)} {xl:List Int} {sc mc nc:List (List Value)}
end
end Go.Proofs.YtliajkheeniljaaGreatDoor
namespace Go.Proofs.YtliajkheeniljaaGreatDoor
open Go.RowKit
set_option maxRecDepth 100000
set_option maxHeartbeats 16000000
end Go.Proofs.YtliajkheeniljaaGreatDoor
namespace Go.Proofs.YtliajkheeniljaaGreatDoor
open Go.RowKit
set_option maxRecDepth 100000
set_option maxHeartbeats 16000000
theorem zhh {X:World} {B g size n:Nat} {e:TypeId} {cs:List Value} (h:X.heap[g]? =some (.cells cs.toArray e (0,0))) (hB:B<=g) (hl:cs.length=n*size) (hn:n<=maxLen):X.ownsRow B e size (.slice (some ⟨g,0,none⟩) n n) n cs:=
 ⟨hl, .inr ⟨g,n,cs.toArray,rfl,hB,h,Nat.le_refl _,hn,by simp [hl],by rw [List.take_of_length_le (by simp [hl])]⟩⟩
def zwE (_:World) (r:List Int) (cs:List Value):Prop:=r.length=4/\cs= [.int .i64 (r.getD 0 0), .int .i64 (r.getD 1 0), .int .i64 (r.getD 2 0), .int .i64 (r.getD 3 0)]
abbrev zwF:=zl zwE 4
structure zsD (w:World) (f:zgB) (mv rv:Value):Prop where
 mem:xH w mv f.mem
 regs:zwF w rv f.regs
def zwG (w:World) (f:zgB) (cs:List Value):Prop:=∃mv rv,cs= [mv,rv] /\zsD w f mv rv
abbrev z5u:=zl zwG 2
end Go.Proofs.YtliajkheeniljaaGreatDoor
namespace Go.Proofs.YtliajkheeniljaaGreatDoor
open Go.RowKit
set_option maxRecDepth 100000
set_option maxHeartbeats 16000000
def z5G (w:World) (s:zni) (sv mv nv:Value):Prop:=zoY w sv s.states/\zl znh 1 w mv s.moves/\zl zq8 1 w nv s.next
section
variable {W X X1:World} {g r:Nat} {sv mv nv xv:Value} {sl:List zu} {ml:List (List zG)} {nl:List (List Int)} {xl:List Int} {sc mc nc:List (List Value)}
end
end Go.Proofs.YtliajkheeniljaaGreatDoor
namespace Go.Proofs.YtliajkheeniljaaGreatDoor
open Go.RowKit
set_option maxRecDepth 100000
set_option maxHeartbeats 16000000
inductive xG where
 |mk (kind reg var:Int) (a b:zR) (yes no:List xG)
def xG.kind:xG->Int| .mk k _ _ _ _ _ _=>k
def xG.reg:xG->Int| .mk _ r _ _ _ _ _=>r
def xG.var:xG->Int| .mk _ _ v _ _ _ _=>v
def xG.a:xG->zR| .mk _ _ _ a _ _ _=>a
def xG.b:xG->zR| .mk _ _ _ _ b _ _=>b
def xG.yes:xG->List xG| .mk _ _ _ _ _ l _=>l
def xG.no:xG->List xG| .mk _ _ _ _ _ _ l=>l
instance:Inhabited xG:=⟨.mk 0 0 0 default default [] []⟩
def xG.cells (x:xG) (ka kb yv nv:Value):List Value:= [.int .i64 x.kind, .int .i64 x.reg, .int .i64 x.var, .int .i64 x.a.kind, .int .i64 x.a.n, .int .u8 x.a.op,ka, .int .i64 x.b.kind, .int .i64 x.b.n, .int .u8 x.b.op,kb,yv,nv]
def zaP (e:Nat):Nat->World->List xG->Value->Prop
 |0,_,_,_=>False
 |d+1,w,l,v=>zl (fun w y cs=>∃ka kb yv nv,cs=y.cells ka kb yv nv/\zF e w y.a ka/\zF e w y.b kb/\zaP e d w y.yes yv/\zaP e d w y.no nv) 13 w v l
def zzk (e d:Nat) (w:World) (y:xG) (cs:List Value):Prop:=∃ka kb yv nv,cs=y.cells ka kb yv nv/\zF e w y.a ka/\zF e w y.b kb/\zaP e d w y.yes yv/\zaP e d w y.no nv
def zeA (a:zR) (yC:Int):yB:=⟨12,0,0,a,default,yC⟩
def zq9 (yC:Int):yB:=⟨13,0,0,default,default,yC⟩
mutual
def zqA:xG->Int->List yB
 | .mk k r v a b y n,at_=>
  if k=10 then
   if n.length=0 then zeA a (at_+1+(jP y (at_+1)).length)::jP y (at_+1)
   else zeA a (at_+2+(jP y (at_+1)).length)::(jP y (at_+1)++zq9 (at_+2+(jP y (at_+1)).length+(jP n (at_+2+(jP y (at_+1)).length)).length)::jP n (at_+2+(jP y (at_+1)).length))
  else if k=11 then zeA a (at_+2+(jP y (at_+1)).length)::(jP y (at_+1)++ [zq9 at_])
  else [⟨k,r,v,a,b,0⟩]
def jP:List xG->Int->List yB
 | [],_=> []
 |x::l,at_=>zqA x at_++jP l (at_+(zqA x at_).length)
end
structure zqB where
 vars:List (List UInt8)
 domain:Int
 threads:List (List xG)
end Go.Proofs.YtliajkheeniljaaGreatDoor
namespace Go.Proofs.YtliajkheeniljaaGreatDoor
open Go.RowKit
set_option maxRecDepth 100000
set_option maxHeartbeats 16000000
section
variable {α:Type} [Inhabited α] {X X':World} {R:World->α->List Value->Prop} {size:Nat} {e:TypeId} {v v':Value} {l:List α} {css:List (List Value)}
structure zEs (V:World) (B:Nat) (X:World) (R:World->α->List Value->Prop) (size:Nat) (e:TypeId) (v:Value) (l:List α) (css:List (List Value)):Prop where
 len:css.length=l.length
 part:∀j,j<l.length->(css.getD j []).length=size/\R V (l.getD j default) (css.getD j [])
 row:X.ownsRow B e size v l.length css.flatten
end
end Go.Proofs.YtliajkheeniljaaGreatDoor
namespace Go.Proofs.YtliajkheeniljaaGreatDoor
open Go.RowKit
set_option maxRecDepth 100000
set_option maxHeartbeats 16000000
end Go.Proofs.YtliajkheeniljaaGreatDoor
namespace Go.Proofs.YtliajkheeniljaaGreatDoor
open Go.RowKit
set_option maxRecDepth 100000
set_option maxHeartbeats 16000000
end Go.Proofs.YtliajkheeniljaaGreatDoor
namespace Go.Proofs.YtliajkheeniljaaGreatDoor
open Go.RowKit
set_option maxRecDepth 100000
set_option maxHeartbeats 16000000
end Go.Proofs.YtliajkheeniljaaGreatDoor
namespace Go.Proofs.YtliajkheeniljaaGreatDoor
open Go.RowKit
set_option maxRecDepth 100000
set_option maxHeartbeats 16000000
end Go.Proofs.YtliajkheeniljaaGreatDoor
namespace Go.Proofs.YtliajkheeniljaaGreatDoor
open Go.RowKit
set_option maxRecDepth 100000
set_option maxHeartbeats 16000000
end Go.Proofs.YtliajkheeniljaaGreatDoor
namespace Go.Proofs.YtliajkheeniljaaGreatDoor
open Go.RowKit
set_option maxRecDepth 100000
set_option maxHeartbeats 16000000
end Go.Proofs.YtliajkheeniljaaGreatDoor
namespace Go.Proofs.YtliajkheeniljaaGreatDoor
open Go.RowKit
set_option maxRecDepth 100000
set_option maxHeartbeats 16000000
mutual
def zzS:xG->Nat
 | .mk _ _ _ _ _ y n=>1+za9 y+za9 n
def za9:List xG->Nat
 | [] =>0
 |x::l=>zzS x+za9 l
end
def zwH (vars dom k r v:Int) (a b:zR) (y n:List xG):Bool:=decide (1<=k) && decide (k<=11) && jr k r v a b vars dom && (decide (k=10)||decide (n.length=0) && (decide (k=11)||decide (y.length=0)))
mutual
def zwI (vars dom:Int):xG->Nat->Bool
 | .mk k r v a b y n,d=>decide (1<=d) && zwH vars dom k r v a b y n && bW vars dom y (d - 1) && bW vars dom n (d - 1)
def bW (vars dom:Int):List xG->Nat->Bool
 | [],_=>true
 |x::l,d=>zwI vars dom x d && bW vars dom l d
end
def xyz:List (List UInt8):= [[120], [121], [122]]
structure zBr (p:zqB):Prop where
 vars:∃n,1<=n/\n<=3/\p.vars=xyz.take n
 dom:2<=p.domain/\p.domain<=16
 many:1<=p.threads.length/\p.threads.length<=3
 ok:∀l∈p.threads,bW p.vars.length p.domain l 20=true
 all:(p.threads.map za9).sum<=200
end Go.Proofs.YtliajkheeniljaaGreatDoor
namespace Go.Proofs.YtliajkheeniljaaGreatDoor
open Go.RowKit
set_option maxRecDepth 100000
set_option maxHeartbeats 16000000
end Go.Proofs.YtliajkheeniljaaGreatDoor
namespace Go.Proofs.YtliajkheeniljaaGreatDoor
open Go.RowKit
set_option maxRecDepth 100000
set_option maxHeartbeats 16000000
def z5v (_:World) (x:List UInt8) (cs:List Value):Prop:=cs= [.string ⟨x.toArray⟩]
abbrev zwJ:=zl z5v 1
def ztc (e d:Nat) (w:World) (l:List xG) (cs:List Value):Prop:=∃v,cs= [v] /\zaP e d w l v
abbrev zwK (e d:Nat):=zl (ztc e d) 1
structure z9M (e d:Nat) (w:World) (p:zqB) (vv tv:Value):Prop where
 vars:zwJ w vv p.vars
 threads:zwK e d w tv p.threads
end Go.Proofs.YtliajkheeniljaaGreatDoor
namespace Go.Proofs.YtliajkheeniljaaGreatDoor
open Go.RowKit
set_option maxRecDepth 100000
set_option maxHeartbeats 16000000
def zkE:zR:= .mk 1 1 0 []
def noE:zR:= .mk 0 0 0 []
def xV:zS:=⟨2,2, [[⟨2,0,0,zkE,noE,0⟩,⟨1,0,1,noE,noE,0⟩], [⟨2,0,1,zkE,noE,0⟩,⟨1,0,0,noE,noE,0⟩]]⟩
theorem zik (w:World):Calls Tryz.prog 69 #[.int .i64 1] w fun e w'=>e= .returned (.agg #[.int .i64 1, .int .i64 1, .int .u8 0, .slice none 0 0])/\Below w.heap.size w w':=by
 go_enter Tryz.func69,Tryz.ntmps69
 go_wp2
 exact bodyPost_ret (v:= .agg #[.int .i64 1, .int .i64 1, .int .u8 0, .slice none 0 0]) (by simp [results,Tryz.results69,go_sem]) rfl ⟨rfl,(Below.refl _ _).alloc (Nat.le_refl _) _⟩
theorem zsE {d:Nat} {w:World} {l:List (List yB)} {g m:Nat} {vs:List Value} {t:TypeId} (hb:w.heap[g]? =some (.cells vs.toArray t (0,0))) (hm:l.length<=m/\m<=9223372036854775807) (h:∀j,j<l.length->∃v,vs[j]? =some v/\vQ d w v (l.getD j [])):yF d w (.slice (some ⟨g,0,none⟩) l.length m) l:=
 ⟨_,_,rfl,hm,fun j hj=>by
  obtain⟨v,hv,hi⟩:=h j hj
  refine⟨g,0, [v],rfl,zJ hb,rfl,fun i hi=> ?_,v,rfl,hi⟩
  obtain rfl:i=0:=by omega
  rw [show 0+j*1+0=j by omega,zh hb,List.getElem?_toArray,hv];rfl⟩
theorem znj (w:World) (k n o:Int):zF 1 w (.mk k n o []) (.slice none 0 0):=⟨none,0,rfl,by simp [zR.kids],fun j hj=>by simp [zR.kids] at hj⟩
theorem znk:(Tryz.prog.info? 24).map (·.size)=some 3:=by kernel_rfl
def zkF (x:yB):List Value:=x.cells (.slice none 0 0) (.slice none 0 0)
theorem zdr (x:yB):(zkF x).length=12:=rfl
theorem zfm (w:World) {x:zR} (h:x.kids= []):zF 1 w x (.slice none 0 0):=by
 obtain⟨k,n,o,l⟩:=x
 have:l= [] :=h
 subst this
 exact znj _ _ _ _
theorem zcS {w:World} {g m:Nat} {l:List yB} {t:TypeId} (hb:w.heap[g]? =some (.cells (zq zkF l).toArray t (0,0))) (hl:l.length<=maxLen) (hm:l.length=m) (h:∀j,j<l.length->(l.getD j default).a.kids= [] /\(l.getD j default).b.kids= []):vQ 1 w (.slice (some ⟨g,0,none⟩) m m) l:=by
 subst hm
 exact zl.zbS (R:=kL 1) (zhh (B:=0) hb (Nat.zero_le _) (vI zdr l) hl) fun j hj=>⟨zkF (l.getD j default),zdr _,fun _ hi=>pV zdr hj hi,_,_,rfl,zfm _ (h j hj).1,zfm _ (h j hj).2⟩
def zwL (w:World) (e:Ending) (w':World):Prop:=(∃tv,e= .returned (yD xV tv)/\yF 1 w' tv xV.threads)/\Below w.heap.size w w'
theorem zi5 (w:World):Calls Tryz.prog 41 #[] w (zwL w):=by
 go_enter Tryz.func41,Tryz.ntmps41
 go_upto_region 1 with fail
 have L0:=qh ((Loc.start w).alloc 24 [.int .i64 0, .int .i64 0, .slice none 0 0])
 generalize World.alloc w _=W0 at L0 ⊢
 generalize w.heap.size=g at L0 ⊢
 go_upto_region 2 with(go_at_call 69;go_must(refine(zik _).mono ?_);rintro e W1 ⟨rfl,hb⟩;have L1:=qh ((L0.out.later hb).alloc 64 [.int .i64 2, .int .i64 0, .int .i64 0, .int .i64 1, .int .i64 1, .int .u8 0, .slice none 0 0, .int .i64 0, .int .i64 0, .int .u8 0, .slice none 0 0, .int .i64 0, .int .i64 1, .int .i64 0, .int .i64 1, .int .i64 0, .int .i64 0, .int .u8 0, .slice none 0 0, .int .i64 0, .int .i64 0, .int .u8 0, .slice none 0 0, .int .i64 0]);clear hb L0)
 generalize World.alloc W1 _=X at L1 ⊢
 generalize W1.heap.size=b1 at L1 ⊢
 go_upto_region 3 with(go_at_call 69;go_must(refine(zik _).mono ?_);rintro e W2 ⟨rfl,hb⟩;have L3:=qh ((L1.out.later hb).alloc 64 [.int .i64 2, .int .i64 0, .int .i64 1, .int .i64 1, .int .i64 1, .int .u8 0, .slice none 0 0, .int .i64 0, .int .i64 0, .int .u8 0, .slice none 0 0, .int .i64 0, .int .i64 1, .int .i64 0, .int .i64 0, .int .i64 0, .int .i64 0, .int .u8 0, .slice none 0 0, .int .i64 0, .int .i64 0, .int .u8 0, .slice none 0 0, .int .i64 0]);clear hb L1)
 generalize World.alloc W2 _=Y at L3 ⊢
 generalize W2.heap.size=b2 at L3 ⊢
 have l5:=L3.out.alloc 59 [.slice (some ⟨b1,0,none⟩) 2 2, .slice (some ⟨b2,0,none⟩) 2 2]
 have hg:=(l5.news (g,24, [.int .i64 0, .int .i64 0, .slice none 0 0]) (by simp)).1
 have L5:=qh l5
 have k0:=zh hg 0
 have k1:=zh hg 1
 have k2:=zh hg 2
 have z0:=zK hg 0
 have z1:=zK hg 1
 have z2:=zK hg 2
 clear l5 hg L3
 go_wp2
 have l6:=L5.out.store (g:=g) (t:=24) (cs:= [.int .i64 0, .int .i64 0, .slice none 0 0]) (by simp) [.int .i64 2, .int .i64 2, .slice (some ⟨Y.heap.size,0,none⟩) 2 2] rfl
 have ha:=L5.out.apart
 simp only [List.map_cons,List.map_nil,List.nodup_cons,List.mem_cons,List.not_mem_nil,or_false,not_or] at ha
 have hg:=(l6.news _ (wU (t:=24) (cs:= [.int .i64 0, .int .i64 0, .slice none 0 0]) (by simp))).1
 have hy:=(l6.news _ (qV (p:=(Y.heap.size,59, [.slice (some ⟨b1,0,none⟩) 2 2, .slice (some ⟨b2,0,none⟩) 2 2])) (by simp) ha.1.2.2)).1
 have h2:=(l6.news _ (qV (p:=(b2,64, [.int .i64 2, .int .i64 0, .int .i64 1, .int .i64 1, .int .i64 1, .int .u8 0, .slice none 0 0, .int .i64 0, .int .i64 0, .int .u8 0, .slice none 0 0, .int .i64 0, .int .i64 1, .int .i64 0, .int .i64 0, .int .i64 0, .int .i64 0, .int .u8 0, .slice none 0 0, .int .i64 0, .int .i64 0, .int .u8 0, .slice none 0 0, .int .i64 0])) (by simp) ha.2.1.2)).1
 have h1:=(l6.news _ (qV (p:=(b1,64, [.int .i64 2, .int .i64 0, .int .i64 0, .int .i64 1, .int .i64 1, .int .u8 0, .slice none 0 0, .int .i64 0, .int .i64 0, .int .u8 0, .slice none 0 0, .int .i64 0, .int .i64 1, .int .i64 0, .int .i64 1, .int .i64 0, .int .i64 0, .int .u8 0, .slice none 0 0, .int .i64 0, .int .i64 0, .int .u8 0, .slice none 0 0, .int .i64 0])) (by simp) ha.2.2.1)).1
 have L6:=qh l6.below
 change bodyPost _ _ _ _ _ (zU _ g 0 [.int .i64 2, .int .i64 2, .slice (some ⟨Y.heap.size,0,none⟩) 2 2])
 generalize zU _ g 0 _=Z at hg hy h2 h1 L6 ⊢
 refine bodyPost_ret (qI rfl _ _ g 24 _ (0,0) _ rfl hg Tryz.underlying24 rfl znk) rfl ?_
 refine⟨⟨_,rfl,zsE (l:=xV.threads) hy (by decide) fun j hj=> ?_⟩,L6.out⟩
 match j,hj with
 |0,_=>exact⟨_,rfl,zcS (l:= [⟨2,0,0,zkE,noE,0⟩,⟨1,0,1,noE,noE,0⟩]) h1 (by decide) rfl (fun j hj=>by match j,hj with|0,_=>exact⟨rfl,rfl⟩|1,_=>exact⟨rfl,rfl⟩)⟩
 |1,_=>exact⟨_,rfl,zcS (l:= [⟨2,0,1,zkE,noE,0⟩,⟨1,0,0,noE,noE,0⟩]) h2 (by decide) rfl (fun j hj=>by match j,hj with|0,_=>exact⟨rfl,rfl⟩|1,_=>exact⟨rfl,rfl⟩)⟩
end Go.Proofs.YtliajkheeniljaaGreatDoor
