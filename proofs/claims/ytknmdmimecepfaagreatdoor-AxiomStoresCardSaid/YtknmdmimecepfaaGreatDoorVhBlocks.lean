/- Steps. -/
import Derived.Test.YtknmdmimecepfaaGreatDoorVhFits
set_option linter.all false
namespace Go.Proofs.YtknmdmimecepfaaGreatDoor
open Go.RowKit
set_option maxRecDepth 100000
set_option maxHeartbeats 16000000
inductive yx where
 |mk (kind reg var:Int) (a b:zC) (yes no:List yx)
def yx.kind:yx->Int| .mk k _ _ _ _ _ _=>k
def yx.reg:yx->Int| .mk _ r _ _ _ _ _=>r
def yx.var:yx->Int| .mk _ _ v _ _ _ _=>v
def yx.a:yx->zC| .mk _ _ _ a _ _ _=>a
def yx.b:yx->zC| .mk _ _ _ _ b _ _=>b
def yx.yes:yx->List yx| .mk _ _ _ _ _ l _=>l
def yx.no:yx->List yx| .mk _ _ _ _ _ _ l=>l
instance:Inhabited yx:=⟨.mk 0 0 0 default default [] []⟩
def yx.cells (x:yx) (ka kb yv nv:Value):List Value:= [.int .i64 x.kind, .int .i64 x.reg, .int .i64 x.var, .int .i64 x.a.kind, .int .i64 x.a.n, .int .u8 x.a.op,ka, .int .i64 x.b.kind, .int .i64 x.b.n, .int .u8 x.b.op,kb,yv,nv]
def bS (e:Nat):Nat->World->List yx->Value->Prop
 |0,_,_,_=>False
 |d+1,w,l,v=>zf (λw y cs=>∃ka kb yv nv,cs=y.cells ka kb yv nv/\zM e w y.a ka/\zM e w y.b kb/\bS e d w y.yes yv/\bS e d w y.no nv) 13 w v l
def zoT (e d:Nat) (w:World) (y:yx) (cs:List Value):Prop:=∃ka kb yv nv,cs=y.cells ka kb yv nv/\zM e w y.a ka/\zM e w y.b kb/\bS e d w y.yes yv/\bS e d w y.no nv
def zdx (a:zC) (vN:Int):zi:=⟨12,0,0,a,default,vN⟩
def zll (vN:Int):zi:=⟨13,0,0,default,default,vN⟩
mutual
def zlm:yx->Int->List zi
 | .mk k r v a b y n,at_=>
 if k=10 then
  if n.length=0 then zdx a (at_+1+(vB y (at_+1)).length)::vB y (at_+1)
  else zdx a (at_+2+(vB y (at_+1)).length)::(vB y (at_+1)++zll (at_+2+(vB y (at_+1)).length+(vB n (at_+2+(vB y (at_+1)).length)).length)::vB n (at_+2+(vB y (at_+1)).length))
 else if k=11 then zdx a (at_+2+(vB y (at_+1)).length)::(vB y (at_+1)++ [zll at_])
 else [⟨k,r,v,a,b,0⟩]
def vB:List yx->Int->List zi
 | [],_=> []
 |x::l,at_=>zlm x at_++vB l (at_+(zlm x at_).length)
end
structure zln where
 vars:List (List UInt8)
 domain:Int
 threads:List (List yx)
end Go.Proofs.YtknmdmimecepfaaGreatDoor
namespace Go.Proofs.YtknmdmimecepfaaGreatDoor
open Go.RowKit
set_option maxRecDepth 100000
set_option maxHeartbeats 16000000
section
variable {α:Type} [Inhabited α] {X X':World} {R:World->α->List Value->Prop} {size:Nat} {e:TypeId} {v v':Value} {l:List α} {css:List (List Value)}
theorem ji {β:Type} {l r:List β} {d:β} {j:Nat} (hj:j<l.length):(l++r).getD j d=l.getD j d:=by
 simp only [List.getD_eq_getElem?_getD,List.getElem?_append_left hj]
theorem jk {β:Type} {l r:List β} {d:β} {j:Nat} (hj:l.length<=j):(l++r).getD j d=r.getD (j - l.length) d:=by
 simp only [List.getD_eq_getElem?_getD,List.getElem?_append_right hj]
structure vI (V:World) (B:Nat) (X:World) (R:World->α->List Value->Prop) (size:Nat) (e:TypeId) (v:Value) (l:List α) (css:List (List Value)):Prop where
 len:css.length=l.length
 part:∀j,j<l.length->(css.getD j []).length=size/\R V (l.getD j default) (css.getD j [])
 row:X.ownsRow B e size v l.length css.flatten
theorem vI.nil (V:World) (B:Nat) (X:World) (R:World->α->List Value->Prop) (size:Nat) (e:TypeId):vI V B X R size e (.slice none 0 0) [] [] :=⟨rfl,λj hj=>by simp at hj,World.ownsRow_nil _ _ _ _⟩
theorem vI.later {V:World} {B:Nat} (h:vI V B X R size e v l css) (hb:Below X.heap.size X X'):vI V B X' R size e v l css:=⟨h.len,h.part,yV h.row hb⟩
theorem vI.app {V:World} {B:Nat} (h:vI V B X R size e v l css) {r:List α} {cs2:List (List Value)} (hl:cs2.length=r.length) (hx:∀j,j<r.length->(cs2.getD j []).length=size/\R V (r.getD j default) (cs2.getD j [])) (h1:X'.ownsRow B e size v' (l.length+r.length) (css.flatten++cs2.flatten)):vI V B X' R size e v' (l++r) (css++cs2):=by
 refine⟨by simp [h.len,hl],λj hj=> ?_, ?_⟩
 ·rw [List.length_append] at hj
  by_cases e:j<l.length
  ·rw [show(css++cs2).getD j [] =css.getD j [] from ji (by rw [h.len];exact e),show(l++r).getD j default=l.getD j default from ji e];exact h.part j e
  rw [show(css++cs2).getD j [] =cs2.getD (j - l.length) [] by rw [jk (by rw [h.len];omega),h.len],show(l++r).getD j default=r.getD (j - l.length) default from jk (by omega)];exact hx _ (by omega)
 rw [List.length_append,List.flatten_append];exact h1
theorem vI.slice {V:World} {B:Nat} (h:vI V B X R size e v l css) (hR:qN R) (hb:Below V.heap.size V X):zf R size X v l:=
 zf.uj h.row λj hj=>⟨css.getD j [],(h.part j hj).1,λi hi=>gM (λj hj=>(h.part j (by rw [<-h.len];exact hj)).1) (by rw [h.len];exact hj) hi,hR _ _ _ _ (h.part j hj).2 hb⟩
end
theorem zae:(Tryz.prog.info? 45).map (λi=>(i.zero,i.size,i.bytes))=some (some (.agg #[.int .i64 0, .int .i64 0, .int .i64 0, .int .i64 0, .int .i64 0, .int .u8 0, .slice none 0 0, .int .i64 0, .int .i64 0, .int .u8 0, .slice none 0 0, .int .i64 0]),12,128):=by kernel_rfl
theorem cells_one {e d:Nat} {w:World} {l:List zi} {css:List (List Value)} (_h:e=d) (hp:∀j,j<l.length->(css.getD j []).length=12/\xU d w (l.getD j default) (css.getD j [])) (hl:css.length=l.length):∀u∈css.flatten,u.oneCell'=true:=by
 intro u hu
 obtain⟨cs,hcs,hu⟩:=List.mem_flatten.1 hu
 obtain⟨j,hj,rfl⟩:=List.getElem_of_mem hcs
 have h2:=(hp j (by omega)).2
 rw [show css.getD j [] =css[j] by rw [List.getD_eq_getElem?_getD,List.getElem?_eq_getElem hj];rfl] at h2
 obtain⟨ka,kb,e,ha,hb⟩:=h2
 obtain⟨_,_,rfl, -⟩:=ha.slice
 obtain⟨_,_,rfl, -⟩:=hb.slice
 rw [e] at hu
 simp only [zi.cells,List.mem_cons,List.not_mem_nil,or_false] at hu
 rcases hu with rfl|rfl|rfl|rfl|rfl|rfl|rfl|rfl|rfl|rfl|rfl|rfl<;>rfl
end Go.Proofs.YtknmdmimecepfaaGreatDoor
namespace Go.Proofs.YtknmdmimecepfaaGreatDoor
open Go.RowKit
set_option maxRecDepth 100000
set_option maxHeartbeats 16000000
theorem vI.since {α:Type} [Inhabited α] {V X X':World} {B size:Nat} {R:World->α->List Value->Prop} {t:TypeId} {v:Value} {l:List α} {css:List (List Value)} {F:Nat->Prop} (h:vI V B X R size t v l css) (hs:Since F X X') (hv:∀k,v.ownBlock=some k->¬F k):vI V B X' R size t v l css:=⟨h.len,h.part,hs.row h.row hv⟩
mutual
def zoU:yx->Nat
 | .mk _ _ _ _ _ y n=>1+bT y+bT n
def bT:List yx->Nat
 | [] =>0
 |x::l=>zoU x+bT l
end
def zmO (vars dom k r v:Int) (a b:zC) (y n:List yx):Bool:=decide (1<=k) && decide (k<=11) && vC k r v a b vars dom && (decide (k=10)||decide (n.length=0) && (decide (k=11)||decide (y.length=0)))
mutual
def zmP (vars dom:Int):yx->Nat->Bool
 | .mk k r v a b y n,d=>decide (1<=d) && zmO vars dom k r v a b y n && gX vars dom y (d - 1) && gX vars dom n (d - 1)
def gX (vars dom:Int):List yx->Nat->Bool
 | [],_=>true
 |x::l,d=>zmP vars dom x d && gX vars dom l d
end
def xyz:List (List UInt8):= [[120], [121], [122]]
structure zsX (p:zln):Prop where
 vars:∃n,1<=n/\n<=3/\p.vars=xyz.take n
 dom:2<=p.domain/\p.domain<=16
 many:1<=p.threads.length/\p.threads.length<=3
 ok:∀l∈p.threads,gX p.vars.length p.domain l 20=true
 all:(p.threads.map bT).sum<=200
def zq6 (_:World) (x:List UInt8) (cs:List Value):Prop:=cs= [.string ⟨x.toArray⟩]
abbrev zmQ:=zf zq6 1
def zmR (e d:Nat) (w:World) (l:List yx) (cs:List Value):Prop:=∃v,cs= [v] /\bS e d w l v
abbrev zmS (e d:Nat):=zf (zmR e d) 1
structure zrx (e d:Nat) (w:World) (p:zln) (vv tv:Value):Prop where
 vars:zmQ w vv p.vars
 threads:zmS e d w tv p.threads
