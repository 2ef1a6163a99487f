/- Steps. -/
import Derived.Lib.SlMapFilter
import Derived.Maps.Ext
import Derived.Test.YtknmdmimecepfaaGreatDoorVhAxRead
set_option linter.all false
namespace Go.Proofs.YtknmdmimecepfaaGreatDoor
open Go.RowKit
set_option maxRecDepth 100000
set_option maxHeartbeats 16000000
set_option maxRecDepth 100000
theorem ziK:laidOutB Tryz.prog=true:=by kernel_rfl
theorem ziL:(67:TypeId)<Tryz.prog.types.size:=of_decide_eq_true (by kernel_rfl)
theorem bN:Maps.Keyed Tryz.prog 67:=Maps.Keyed.of_law (deep_law_laid ziK (m:=6) (by omega) ziL (by kernel_rfl) (by rw [Tryz.underlying67]))
theorem zej:Tryz.prog.keyType 67=true:=by kernel_rfl
theorem zbV:Tryz.prog.cellsOf 67=221:=by kernel_rfl
theorem zaX:Tryz.prog.cellsOf 64=54:=by kernel_rfl
theorem zaz:Tryz.prog.cellsOf 65=216:=by kernel_rfl
theorem zbW:Tryz.prog.cellsOf 61=6:=by kernel_rfl
theorem zaY:Tryz.prog.cellsOf 62=48:=by kernel_rfl
theorem zam:Tryz.prog.cellsOf 59=4:=by kernel_rfl
theorem kC:Tryz.prog.cellsOf 3=1:=by kernel_rfl
theorem zbX:Tryz.prog.cellsOf 4=1:=by kernel_rfl
theorem zcH (w:World):(zeroValue 104).run Tryz.prog w= .ok (.agg #[]) w:=by kernel_rfl
theorem mapM_some {α β:Type} {f:α->Option β} :∀ {l:List α},(∀x∈l,(f x).isSome=true)->(l.mapM f).isSome=true:=by
 intro l
 induction l with
 |nil=>intro _;rfl
 |cons x l ih=>
 intro h
 obtain⟨y,hy⟩:=Option.isSome_iff_exists.1 (h x (by simp))
 obtain⟨ys,hys⟩:=Option.isSome_iff_exists.1 (ih λz hz=>h z (by simp [hz]))
 rw [List.mapM_cons,hy,hys];rfl
theorem zaZ (d:Nat) {n:Int} (h:(Lit.int .i64 n).wf=true):Tryz.prog.keyLits (d+1) 3 [.int .i64 n] =some [.int .i64 n] :=by
 unfold Program.keyLits
 rw [Tryz.underlying3]
 simp [h]
theorem zgw (d:Nat) (b:Bool):Tryz.prog.keyLits (d+1) 4 [.bool b] =some [.bool b] :=by
 unfold Program.keyLits
 rw [Tryz.underlying4]
theorem zcq {P:Program} {t e:TypeId} {n d:Nat} {cs:List Value} (hu:P.underlying t=some (.array n e)) (hlen:cs.length=P.cellsOf t) (h:∀i,i<n->(P.keyLits d e ((cs.drop (i*P.cellsOf e)).take (P.cellsOf e))).isSome=true):(P.keyLits (d+1) t cs).isSome=true:=by
 unfold Program.keyLits
 rw [hu]
 simp only []
 rw [if_pos hlen,Option.isSome_map]
 exact mapM_some λi hi=>h i (by simpa using hi)
theorem zba {P:Program} {t:TypeId} {fs:Array Field} {d:Nat} {cs:List Value} (hu:P.underlying t=some (.struct fs)) (hlen:cs.length=P.cellsOf t) (hb:fs.all (·.name != "_")=true) (h:∀f∈fs.toList,(P.keyLits d f.type ((cs.drop f.offset).take (P.cellsOf f.type))).isSome=true):(P.keyLits (d+1) t cs).isSome=true:=by
 unfold Program.keyLits
 rw [hu]
 simp only []
 rw [if_pos ⟨hlen,hb⟩,Option.isSome_map]
 exact mapM_some λf hf=>h f hf
theorem jL {α:Type} {a b:List α} {n:Nat} (h:a.length=n) (k:Nat):(a++b).drop (n+k)=b.drop k:=by
 subst h
 rw [List.drop_append,List.drop_eq_nil_of_le (by omega),List.nil_append]
 congr 1;omega
theorem zbb {α:Type} [Inhabited α] {f:α->List Value} {size:Nat} :∀ {l:List α} {j:Nat},(∀x∈l,(f x).length=size)->j<l.length->((zm f l).drop (j*size)).take size=f (l.getD j default):=by
 intro l
 induction l with
 |nil=>intro j _ h;simp at h
 |cons x l ih=>
 intro j h hj
 have h1:=h x (by simp)
 show((f x++zm f l).drop (j*size)).take size=_
 cases j with
 |zero=>rw [Nat.zero_mul,List.drop_zero,List.take_append_of_le_length (by omega),List.take_of_length_le (by omega)];rfl
 |succ j=>
 rw [show(j+1)*size=size+j*size by rw [Nat.add_mul];omega,jL h1]
 have:=ih (j:=j) (λy hy=>h y (by simp [hy])) (by simpa using hj)
 simpa using this
def wfI (n:Int):Prop:=(Lit.int .i64 n).wf=true
structure zP.wf (e:zP):Prop where
 v:wfI e.v
 n:wfI e.n
structure zH.wf (t:zH):Prop where
 ok:t.ok
 at_:wfI t.at_
 regs:∀x∈t.regs,wfI x
 evs:∀e∈t.evs,e.wf
 many:wfI t.many
structure za.wf (W:za):Prop where
 ok:W.ok
 mem:∀x∈W.mem,wfI x
 zD:∀t∈W.zD,t.wf
theorem zpa (d:Nat) {e:zP} (h:e.wf):(Tryz.prog.keyLits (d+2) 61 e.cells).isSome=true:=by
 refine zba Tryz.underlying61 zbW.symm (by kernel_rfl) λf hf=> ?_
 simp only [List.mem_cons,List.not_mem_nil,or_false] at hf
 rcases hf with rfl|rfl|rfl|rfl|rfl|rfl
 ·simp [kC,zP.cells,zaZ d h.v]
 ·simp [kC,zP.cells,zaZ d h.n]
 all_goals simp [zbX,zP.cells,zgw d]
theorem zgx (d:Nat) {l:List Int} (hl:l.length=4) (h:∀x∈l,wfI x):(Tryz.prog.keyLits (d+2) 59 (zm zR l)).isSome=true:=by
 refine zcq Tryz.underlying59 (by rw [zQ,hl,zam]) λi hi=> ?_
 rw [kC,zbb (f:=zR) (size:=1) (λ_ _=>rfl) (by omega)]
 show(Tryz.prog.keyLits (d+1) 3 [.int .i64 (l.getD i default)]).isSome=true
 rw [zaZ d (h _ (qX (by omega)))];rfl
theorem znv (d:Nat) {l:List zP} (hl:l.length=8) (h:∀e∈l,e.wf):(Tryz.prog.keyLits (d+3) 62 (zm zP.cells l)).isSome=true:=by
 refine zcq Tryz.underlying62 (by rw [q8,hl,zaY]) λi hi=> ?_
 rw [zbW,zbb (f:=zP.cells) (size:=6) (λ_ _=>rfl) (by omega)]
 exact zpa d (h _ (qX (by omega)))
theorem ziM (d:Nat) {t:zH} (h:t.wf):(Tryz.prog.keyLits (d+4) 64 t.cells).isSome=true:=by
 refine zba Tryz.underlying64 ((zH.xk h.ok).trans zaX.symm) (by kernel_rfl) λf hf=> ?_
 simp only [List.mem_cons,List.not_mem_nil,or_false] at hf
 have e1:(zm zR t.regs).length=4:=by rw [zQ,h.ok.regs]
 have e2:(zm zP.cells t.evs).length=48:=by rw [q8,h.ok.evs]
 unfold zH.cells
 rcases hf with rfl|rfl|rfl|rfl
 ·simp [kC,zaZ (d+2) h.at_]
 ·simp only [zam]
  rw [show(Value.int .i64 t.at_::(zm zR t.regs++(zm zP.cells t.evs++ [Value.int .i64 t.many]))).drop 1=zm zR t.regs++(zm zP.cells t.evs++ [Value.int .i64 t.many]) from rfl,List.take_append_of_le_length (by omega),List.take_of_length_le (by omega)]
  exact zgx (d+1) h.ok.regs h.regs
 ·simp only [zaY]
  rw [show(Value.int .i64 t.at_::(zm zR t.regs++(zm zP.cells t.evs++ [Value.int .i64 t.many]))).drop 5=(zm zR t.regs++(zm zP.cells t.evs++ [Value.int .i64 t.many])).drop 4 from rfl,List.drop_append_of_le_length (by omega),List.drop_eq_nil_of_le (by omega),List.nil_append,List.take_append_of_le_length (by omega),List.take_of_length_le (by omega)]
  exact znv d h.ok.evs h.evs
 simp only [kC]
 rw [show(Value.int .i64 t.at_::(zm zR t.regs++(zm zP.cells t.evs++ [Value.int .i64 t.many]))).drop 53=(zm zR t.regs++(zm zP.cells t.evs++ [Value.int .i64 t.many])).drop 52 from rfl,show 52=4+(48+0) by omega,jL e1,jL e2]
 have:=zaZ (d+2) h.many
 simp [this]
theorem zkt (d:Nat) {W:za} (h:W.wf):(Tryz.prog.keyLits (d+6) 67 W.cells).isSome=true:=by
 refine zba Tryz.underlying67 ((za.xk h.ok).trans zbV.symm) (by kernel_rfl) λf hf=> ?_
 simp only [List.mem_cons,List.not_mem_nil,or_false] at hf
 have e1:(zm zH.cells W.zD).length=216:=by rw [yj (za.yU h.ok),h.ok.zD]
 have e2:(zm zR W.mem).length=4:=by rw [zQ,h.ok.mem]
 unfold za.cells
 rcases hf with rfl|rfl|rfl
 ·simp only [zaz]
  rw [List.drop_zero,List.take_append_of_le_length (by omega),List.take_of_length_le (by omega)]
  refine zcq Tryz.underlying65 (by rw [e1,zaz]) λi hi=> ?_
  rw [zaX,zbb (za.yU h.ok) (by rw [h.ok.zD];exact hi)]
  exact ziM d (h.zD _ (qX (by rw [h.ok.zD];exact hi)))
 ·simp only [zam]
  rw [show(zm zH.cells W.zD++(zm zR W.mem++ [Value.bool W.fails])).drop 216=zm zR W.mem++ [Value.bool W.fails] from jL (k:=0) e1,List.take_append_of_le_length (by omega),List.take_of_length_le (by omega)]
  exact zgx (d+3) h.ok.mem h.mem
 simp only [zbX]
 rw [show(zm zH.cells W.zD++(zm zR W.mem++ [Value.bool W.fails])).drop 220= [Value.bool W.fails] from(jL (k:=4) e1).trans (jL (k:=0) e2)]
 simp [zgw (d+4)]
theorem ziN:∃m,Tryz.prog.types.size+1=m+6:=⟨Tryz.prog.types.size - 5,by have:5<=Tryz.prog.types.size:=of_decide_eq_true (by kernel_rfl);omega⟩
def za.val (W:za):Value:= .agg W.cells.toArray
theorem zgb {W:za} (h:W.wf):(keyOf Tryz.prog 67 W.val).isSome=true:=by
 obtain⟨m,hm⟩:=ziN
 unfold keyOf
 rw [Tryz.underlying67]
 simp only []
 rw [zej,if_pos (by simp [za.val,Value.formed,Tryz.underlying67,zbV,za.xk h.ok]),Option.isSome_map,hm]
 have e:W.val.cells.toList=W.cells:=by simp [za.val,Value.cells]
 rw [e]
 exact zkt m h
noncomputable def bO (W:za):Lit:=(keyOf Tryz.prog 67 W.val).getD (.bool false)
theorem vk {W:za} (h:W.wf):keyOf Tryz.prog 67 W.val=some (bO W):=by
 obtain⟨l,hl⟩:=Option.isSome_iff_exists.1 (zgb h)
 unfold bO;rw [hl];rfl
theorem zku {W:za} (h:W.wf):Go.WideAt.IsKeyLit (bO W):=by
 have h0:=vk h
 unfold keyOf at h0
 rw [Tryz.underlying67] at h0
 simp only [] at h0
 split at h0
 ·obtain⟨ls, -,e⟩:=Option.map_eq_some_iff.1 h0
  rw [<-e];trivial
 cases h0
theorem zm2 {a b:zP} (h:a.cells=b.cells):a=b:=by
 obtain⟨a1,a2,a3,a4,a5,a6⟩:=a
 obtain⟨b1,b2,b3,b4,b5,b6⟩:=b
 simp only [zP.cells,List.cons.injEq,Value.int.injEq,Value.bool.injEq,true_and,and_true] at h
 obtain⟨rfl,rfl,rfl,rfl,rfl,rfl⟩:=h
 rfl
theorem zcr {α:Type} {f:α->List Value} {size:Nat} (hi:∀x y,f x=f y->x=y):∀ {l r:List α},(∀x∈l,(f x).length=size)->(∀x∈r,(f x).length=size)->l.length=r.length->zm f l=zm f r->l=r:=by
 intro l
 induction l with
 |nil=>intro r _ _ hl _;cases r with
  |nil=>rfl
  |cons y r=>simp at hl
 |cons x l ih=>
 intro r h1 h2 hl he
 cases r with
 |nil=>simp at hl
 |cons y r=>
 have he:f x++zm f l=f y++zm f r:=he
 obtain⟨ha,hb⟩:=List.append_inj he ((h1 x (by simp)).trans (h2 y (by simp)).symm)
 rw [hi _ _ ha,ih (λz hz=>h1 z (by simp [hz])) (λz hz=>h2 z (by simp [hz])) (by simpa using hl) hb]
theorem zeP (x y:Int) (h:zR x=zR y):x=y:=by simpa [zR] using h
theorem zm3 {a b:zH} (ha:a.ok) (hb:b.ok) (h:a.cells=b.cells):a=b:=by
 unfold zH.cells at h
 simp only [List.cons.injEq,Value.int.injEq,true_and] at h
 obtain⟨h1,h2⟩:=h
 obtain⟨h3,h4⟩:=List.append_inj h2 (by rw [zQ,zQ,ha.regs,hb.regs])
 obtain⟨h5,h6⟩:=List.append_inj h4 (by rw [q8,q8,ha.evs,hb.evs])
 have r1:=zcr (f:=zR) (size:=1) zeP (λ_ _=>rfl) (λ_ _=>rfl) (ha.regs.trans hb.regs.symm) h3
 have r2:=zcr (f:=zP.cells) (size:=6) (λ_ _=>zm2) (λ_ _=>rfl) (λ_ _=>rfl) (ha.evs.trans hb.evs.symm) h5
 obtain⟨a1,a2,a3,a4⟩:=a
 obtain⟨b1,b2,b3,b4⟩:=b
 simp only [List.cons.injEq,Value.int.injEq,true_and,and_true] at h6 h1 r1 r2
 rw [r1,r2,show a1=b1 by omega,show a4=b4 by omega]
theorem ziO:∀ {l r:List zH},(∀x∈l,x.ok)->(∀x∈r,x.ok)->l.length=r.length->zm zH.cells l=zm zH.cells r->l=r:=by
 intro l
 induction l with
 |nil=>intro r _ _ hl _;cases r with
  |nil=>rfl
  |cons y r=>simp at hl
 |cons x l ih=>
 intro r h1 h2 hl he
 cases r with
 |nil=>simp at hl
 |cons y r=>
 have he:x.cells++zm zH.cells l=y.cells++zm zH.cells r:=he
 have hx:=h1 x (by simp)
 have hy:=h2 y (by simp)
 obtain⟨ha,hb⟩:=List.append_inj he ((zH.xk hx).trans (zH.xk hy).symm)
 rw [zm3 hx hy ha,ih (λz hz=>h1 z (by simp [hz])) (λz hz=>h2 z (by simp [hz])) (by simpa using hl) hb]
theorem zm4 {a b:za} (ha:a.ok) (hb:b.ok) (h:a.cells=b.cells):a=b:=by
 unfold za.cells at h
 obtain⟨h1,h2⟩:=List.append_inj h (by rw [yj (za.yU ha),yj (za.yU hb),ha.zD,hb.zD])
 obtain⟨h3,h4⟩:=List.append_inj h2 (by rw [zQ,zQ,ha.mem,hb.mem])
 have r1:=ziO ha.each hb.each (ha.zD.trans hb.zD.symm) h1
 have r2:=zcr (f:=zR) (size:=1) zeP (λ_ _=>rfl) (λ_ _=>rfl) (ha.mem.trans hb.mem.symm) h3
 obtain⟨a1,a2,a3⟩:=a
 obtain⟨b1,b2,b3⟩:=b
 simp only [List.cons.injEq,Value.bool.injEq,and_true] at r1 r2 h4
 rw [r1,r2,h4]
theorem zeQ {a b:za} (ha:a.wf) (hb:b.wf) (h:bO a=bO b):a=b:=by
 have:=bN.inj (vk ha) (h ▸ vk hb)
 unfold za.val at this
 simp only [Value.agg.injEq] at this
 exact zm4 ha.ok hb.ok (by simpa using congrArg Array.toList this)
open Go.Maps in
def kD (w:World) (b n:Nat) (l:List za):Prop:=∃D:DataW Unit,w.ownsMap Tryz.prog 67 unitElem b n D/\∀x,za.wf x->(Maps.has D (bO x)=true↔x∈l)
theorem kD.since {w w':World} {b n:Nat} {F:Nat->Prop} {l:List za} (h:kD w b n l) (hs:Since F w w') (hF:¬F b):kD w' b n l:=by
 obtain⟨D,⟨es,clock,h1,h2⟩,h3⟩:=h
 exact⟨D,⟨es,clock,(hs.block b (zI h1) hF).trans h1,h2⟩,h3⟩
theorem kD.below {w w':World} {b n:Nat} {l:List za} (h:kD w b n l) (hb:Below w.heap.size w w'):kD w' b n l:=h.since (zA (λ_=>False) hb) (λe=>e)
theorem kD.made (w:World):kD (w.alloc (.map #[] 0)) w.heap.size 0 [] :=⟨.map [],World.ownsMap_made w _ _ _,λx _=>by simp [Maps.has]⟩
theorem zeR {w w':World} {b:Nat} (h:w.grownBy w' (some b)):Since (λk=>k=b) w w':=⟨h.os,h.tape,h.output,h.size,λi hi he=>h.block i hi (λe=>he (by simpa using e))⟩
theorem ziP {D:DataW Unit} (hm:Maps.IsMap D) {x y:za} (hx:x.wf) (hy:y.wf):Maps.has (D.put (bO x) (.agg [])) (bO y)=true↔Maps.has D (bO y)=true\/y=x:=by
 by_cases e:y=x
 ·subst e;rw [Maps.has_put_same hm (zku hx)];simp
 rw [Maps.has_put_other (λh=>e (zeQ hy hx h))];simp [e]
section
variable (w:World) {ops:Array Oper} {rest:List Oper} {o:Oper} {a:Act} {Q:Exit->Act->World->Prop}
theorem znw {b n:Nat} {l:List za} (h:kD w b n l) {y:za} (hy:y.wf):(Instr.lookup 56 (.map (some b)) y.val true).run Tryz.prog w= .ok (.tuple #[.agg #[], .bool (decide (y∈l))]) w:=by
 obtain⟨D,h1,h2⟩:=h
 obtain⟨v,ps,hr,hv⟩:=h1.look_ok bN Tryz.underlying56 (zcH w) unitElem_mk (vk hy)
 obtain⟨rfl, -⟩:=unitElem_inv hv
 rw [hr,show Maps.has D (bO y)=decide (y∈l) from Bool.eq_iff_iff.2 ((h2 y hy).trans (by simp))]
theorem zpb {b n:Nat} {l:List za} (h:kD w b n l) (hn:n<1000000000) {y:za} (hy:y.wf):∃w',(Instr.mapUpdate 56 (.map (some b)) y.val (.agg #[])).run Tryz.prog w= .ok () w'/\kD w' b (n+1) (y::l)/\Since (λk=>k=b) w w':=by
 obtain⟨D,h1,h2⟩:=h
 obtain⟨w',hr,r1,r2⟩:=h1.store bN Tryz.underlying56 (Nat.lt_trans hn (by unfold maxLen;decide)) (vk hy) unitElem_mk
 exact⟨w',hr,⟨_,r1,λz hz=>(ziP h1.isMap hy hz).trans (by rw [h2 z hz,List.mem_cons,Or.comm])⟩,zeR r2.grown⟩
end
