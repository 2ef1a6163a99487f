/- Steps. -/
import Derived.Lib.SlMapFilter
import Derived.Maps.Ext
import Derived.Test.YtknmdmimecepfaaGreatDoorVgAxRead
set_option linter.all false
namespace Go.Proofs.YtknmdmimecepfaaGreatDoor
open Go.RowKit
set_option maxRecDepth 100000
set_option maxHeartbeats 16000000
set_option maxRecDepth 100000
theorem zlM:laidOutB Tryz.prog=true:=by kernel_rfl
theorem zlN:(67:TypeId)<Tryz.prog.types.size:=of_decide_eq_true (by kernel_rfl)
theorem za8:Maps.Keyed Tryz.prog 67:=Maps.Keyed.of_law (deep_law_laid zlM (m:=6) (by omega) zlN (by kernel_rfl) (by rw [Tryz.underlying67]))
theorem zgq:Tryz.prog.keyType 67=true:=by kernel_rfl
theorem zdu:Tryz.prog.cellsOf 67=221:=by kernel_rfl
theorem zcp:Tryz.prog.cellsOf 64=54:=by kernel_rfl
theorem zbM:Tryz.prog.cellsOf 65=216:=by kernel_rfl
theorem zdv:Tryz.prog.cellsOf 61=6:=by kernel_rfl
theorem zcq:Tryz.prog.cellsOf 62=48:=by kernel_rfl
theorem zby:Tryz.prog.cellsOf 59=4:=by kernel_rfl
theorem gH:Tryz.prog.cellsOf 3=1:=by kernel_rfl
theorem zdw:Tryz.prog.cellsOf 4=1:=by kernel_rfl
theorem zek (w:World):(zeroValue 104).run Tryz.prog w= .ok (.agg #[]) w:=by kernel_rfl
theorem mapM_some {α β:Type} {f:α->Option β} :∀ {l:List α},(∀x∈l,(f x).isSome=true)->(l.mapM f).isSome=true:=by
 intro l
 induction l with
 |nil=>intro _;rfl
 |cons x l ih=>
 intro h
 obtain⟨y,hy⟩:=Option.isSome_iff_exists.1 (h x (by simp))
 obtain⟨ys,hys⟩:=Option.isSome_iff_exists.1 (ih λz hz=>h z (by simp [hz]))
 rw [List.mapM_cons,hy,hys];rfl
theorem zcr (d:Nat) {n:Int} (h:(Lit.int .i64 n).wf=true):Tryz.prog.keyLits (d+1) 3 [.int .i64 n] =some [.int .i64 n] :=by
 unfold Program.keyLits
 rw [Tryz.underlying3]
 simp [h]
theorem zjj (d:Nat) (b:Bool):Tryz.prog.keyLits (d+1) 4 [.bool b] =some [.bool b] :=by
 unfold Program.keyLits
 rw [Tryz.underlying4]
theorem zdM {P:Program} {t e:TypeId} {n d:Nat} {cs:List Value} (hu:P.underlying t=some (.array n e)) (hlen:cs.length=P.cellsOf t) (h:∀i,i<n->(P.keyLits d e ((cs.drop (i*P.cellsOf e)).take (P.cellsOf e))).isSome=true):(P.keyLits (d+1) t cs).isSome=true:=by
 unfold Program.keyLits
 rw [hu]
 simp only []
 rw [if_pos hlen,Option.isSome_map]
 exact mapM_some λi hi=>h i (by simpa using hi)
theorem zcs {P:Program} {t:TypeId} {fs:Array Field} {d:Nat} {cs:List Value} (hu:P.underlying t=some (.struct fs)) (hlen:cs.length=P.cellsOf t) (hb:fs.all (·.name != "_")=true) (h:∀f∈fs.toList,(P.keyLits d f.type ((cs.drop f.offset).take (P.cellsOf f.type))).isSome=true):(P.keyLits (d+1) t cs).isSome=true:=by
 unfold Program.keyLits
 rw [hu]
 simp only []
 rw [if_pos ⟨hlen,hb⟩,Option.isSome_map]
 exact mapM_some λf hf=>h f hf
theorem wE {α:Type} {a b:List α} {n:Nat} (h:a.length=n) (k:Nat):(a++b).drop (n+k)=b.drop k:=by
 subst h
 rw [List.drop_append,List.drop_eq_nil_of_le (by omega),List.nil_append]
 congr 1;omega
theorem zct {α:Type} [Inhabited α] {f:α->List Value} {size:Nat} :∀ {l:List α} {j:Nat},(∀x∈l,(f x).length=size)->j<l.length->((zD f l).drop (j*size)).take size=f (l.getD j default):=by
 intro l
 induction l with
 |nil=>intro j _ h;simp at h
 |cons x l ih=>
 intro j h hj
 have h1:=h x (by simp)
 show((f x++zD f l).drop (j*size)).take size=_
 cases j with
 |zero=>rw [Nat.zero_mul,List.drop_zero,List.take_append_of_le_length (by omega),List.take_of_length_le (by omega)];rfl
 |succ j=>
 rw [show(j+1)*size=size+j*size by rw [Nat.add_mul];omega,wE h1]
 have:=ih (j:=j) (λy hy=>h y (by simp [hy])) (by simpa using hj)
 simpa using this
def wfI (n:Int):Prop:=(Lit.int .i64 n).wf=true
structure yg.wf (e:yg):Prop where
 v:wfI e.v
 n:wfI e.n
structure zR.wf (t:zR):Prop where
 ok:t.ok
 at_:wfI t.at_
 regs:∀x∈t.regs,wfI x
 evs:∀e∈t.evs,e.wf
 many:wfI t.many
structure ze.wf (W:ze):Prop where
 ok:W.ok
 mem:∀x∈W.mem,wfI x
 zO:∀t∈W.zO,t.wf
theorem zt3 (d:Nat) {e:yg} (h:e.wf):(Tryz.prog.keyLits (d+2) 61 e.cells).isSome=true:=by
 refine zcs Tryz.underlying61 zdv.symm (by kernel_rfl) λf hf=> ?_
 simp only [List.mem_cons,List.not_mem_nil,or_false] at hf
 rcases hf with rfl|rfl|rfl|rfl|rfl|rfl
 ·simp [gH,yg.cells,zcr d h.v]
 ·simp [gH,yg.cells,zcr d h.n]
 all_goals simp [zdw,yg.cells,zjj d]
theorem zjk (d:Nat) {l:List Int} (hl:l.length=4) (h:∀x∈l,wfI x):(Tryz.prog.keyLits (d+2) 59 (zD yG l)).isSome=true:=by
 refine zdM Tryz.underlying59 (by rw [zY,hl,zby]) λi hi=> ?_
 rw [gH,zct (f:=yG) (size:=1) (λ_ _=>rfl) (by omega)]
 show(Tryz.prog.keyLits (d+1) 3 [.int .i64 (l.getD i default)]).isSome=true
 rw [zcr d (h _ (jm (by omega)))];rfl
theorem zrz (d:Nat) {l:List yg} (hl:l.length=8) (h:∀e∈l,e.wf):(Tryz.prog.keyLits (d+3) 62 (zD yg.cells l)).isSome=true:=by
 refine zdM Tryz.underlying62 (by rw [vO,hl,zcq]) λi hi=> ?_
 rw [zdv,zct (f:=yg.cells) (size:=6) (λ_ _=>rfl) (by omega)]
 exact zt3 d (h _ (jm (by omega)))
theorem zlO (d:Nat) {t:zR} (h:t.wf):(Tryz.prog.keyLits (d+4) 64 t.cells).isSome=true:=by
 refine zcs Tryz.underlying64 ((zR.qc h.ok).trans zcp.symm) (by kernel_rfl) λf hf=> ?_
 simp only [List.mem_cons,List.not_mem_nil,or_false] at hf
 have e1:(zD yG t.regs).length=4:=by rw [zY,h.ok.regs]
 have e2:(zD yg.cells t.evs).length=48:=by rw [vO,h.ok.evs]
 unfold zR.cells
 rcases hf with rfl|rfl|rfl|rfl
 ·simp [gH,zcr (d+2) h.at_]
 ·simp only [zby]
  rw [show(Value.int .i64 t.at_::(zD yG t.regs++(zD yg.cells t.evs++ [Value.int .i64 t.many]))).drop 1=zD yG t.regs++(zD yg.cells t.evs++ [Value.int .i64 t.many]) from rfl,List.take_append_of_le_length (by omega),List.take_of_length_le (by omega)]
  exact zjk (d+1) h.ok.regs h.regs
 ·simp only [zcq]
  rw [show(Value.int .i64 t.at_::(zD yG t.regs++(zD yg.cells t.evs++ [Value.int .i64 t.many]))).drop 5=(zD yG t.regs++(zD yg.cells t.evs++ [Value.int .i64 t.many])).drop 4 from rfl,List.drop_append_of_le_length (by omega),List.drop_eq_nil_of_le (by omega),List.nil_append,List.take_append_of_le_length (by omega),List.take_of_length_le (by omega)]
  exact zrz d h.ok.evs h.evs
 simp only [gH]
 rw [show(Value.int .i64 t.at_::(zD yG t.regs++(zD yg.cells t.evs++ [Value.int .i64 t.many]))).drop 53=(zD yG t.regs++(zD yg.cells t.evs++ [Value.int .i64 t.many])).drop 52 from rfl,show 52=4+(48+0) by omega,wE e1,wE e2]
 have:=zcr (d+2) h.many
 simp [this]
theorem zn8 (d:Nat) {W:ze} (h:W.wf):(Tryz.prog.keyLits (d+6) 67 W.cells).isSome=true:=by
 refine zcs Tryz.underlying67 ((ze.qc h.ok).trans zdu.symm) (by kernel_rfl) λf hf=> ?_
 simp only [List.mem_cons,List.not_mem_nil,or_false] at hf
 have e1:(zD zR.cells W.zO).length=216:=by rw [yJ (ze.xY h.ok),h.ok.zO]
 have e2:(zD yG W.mem).length=4:=by rw [zY,h.ok.mem]
 unfold ze.cells
 rcases hf with rfl|rfl|rfl
 ·simp only [zbM]
  rw [List.drop_zero,List.take_append_of_le_length (by omega),List.take_of_length_le (by omega)]
  refine zdM Tryz.underlying65 (by rw [e1,zbM]) λi hi=> ?_
  rw [zcp,zct (ze.xY h.ok) (by rw [h.ok.zO];exact hi)]
  exact zlO d (h.zO _ (jm (by rw [h.ok.zO];exact hi)))
 ·simp only [zby]
  rw [show(zD zR.cells W.zO++(zD yG W.mem++ [Value.bool W.fails])).drop 216=zD yG W.mem++ [Value.bool W.fails] from wE (k:=0) e1,List.take_append_of_le_length (by omega),List.take_of_length_le (by omega)]
  exact zjk (d+3) h.ok.mem h.mem
 simp only [zdw]
 rw [show(zD zR.cells W.zO++(zD yG W.mem++ [Value.bool W.fails])).drop 220= [Value.bool W.fails] from(wE (k:=4) e1).trans (wE (k:=0) e2)]
 simp [zjj (d+4)]
theorem zlP:∃m,Tryz.prog.types.size+1=m+6:=⟨Tryz.prog.types.size - 5,by have:5<=Tryz.prog.types.size:=of_decide_eq_true (by kernel_rfl);omega⟩
def ze.val (W:ze):Value:= .agg W.cells.toArray
theorem zi5 {W:ze} (h:W.wf):(keyOf Tryz.prog 67 W.val).isSome=true:=by
 obtain⟨m,hm⟩:=zlP
 unfold keyOf
 rw [Tryz.underlying67]
 simp only []
 rw [zgq,if_pos (by simp [ze.val,Value.formed,Tryz.underlying67,zdu,ze.qc h.ok]),Option.isSome_map,hm]
 have e:W.val.cells.toList=W.cells:=by simp [ze.val,Value.cells]
 rw [e]
 exact zn8 m h
noncomputable def za9 (W:ze):Lit:=(keyOf Tryz.prog 67 W.val).getD (.bool false)
theorem jy {W:ze} (h:W.wf):keyOf Tryz.prog 67 W.val=some (za9 W):=by
 obtain⟨l,hl⟩:=Option.isSome_iff_exists.1 (zi5 h)
 unfold za9;rw [hl];rfl
theorem zn9 {W:ze} (h:W.wf):Go.WideAt.IsKeyLit (za9 W):=by
 have h0:=jy h
 unfold keyOf at h0
 rw [Tryz.underlying67] at h0
 simp only [] at h0
 split at h0
 ·obtain⟨ls, -,e⟩:=Option.map_eq_some_iff.1 h0
  rw [<-e];trivial
 cases h0
theorem zqt {a b:yg} (h:a.cells=b.cells):a=b:=by
 obtain⟨a1,a2,a3,a4,a5,a6⟩:=a
 obtain⟨b1,b2,b3,b4,b5,b6⟩:=b
 simp only [yg.cells,List.cons.injEq,Value.int.injEq,Value.bool.injEq,true_and,and_true] at h
 obtain⟨rfl,rfl,rfl,rfl,rfl,rfl⟩:=h
 rfl
theorem zdN {α:Type} {f:α->List Value} {size:Nat} (hi:∀x y,f x=f y->x=y):∀ {l r:List α},(∀x∈l,(f x).length=size)->(∀x∈r,(f x).length=size)->l.length=r.length->zD f l=zD f r->l=r:=by
 intro l
 induction l with
 |nil=>intro r _ _ hl _;cases r with
  |nil=>rfl
  |cons y r=>simp at hl
 |cons x l ih=>
 intro r h1 h2 hl he
 cases r with
 |nil=>simp at hl
 |cons y r=>
 have he:f x++zD f l=f y++zD f r:=he
 obtain⟨ha,hb⟩:=List.append_inj he ((h1 x (by simp)).trans (h2 y (by simp)).symm)
 rw [hi _ _ ha,ih (λz hz=>h1 z (by simp [hz])) (λz hz=>h2 z (by simp [hz])) (by simpa using hl) hb]
theorem zhq (x y:Int) (h:yG x=yG y):x=y:=by simpa [yG] using h
theorem zqu {a b:zR} (ha:a.ok) (hb:b.ok) (h:a.cells=b.cells):a=b:=by
 unfold zR.cells at h
 simp only [List.cons.injEq,Value.int.injEq,true_and] at h
 obtain⟨h1,h2⟩:=h
 obtain⟨h3,h4⟩:=List.append_inj h2 (by rw [zY,zY,ha.regs,hb.regs])
 obtain⟨h5,h6⟩:=List.append_inj h4 (by rw [vO,vO,ha.evs,hb.evs])
 have r1:=zdN (f:=yG) (size:=1) zhq (λ_ _=>rfl) (λ_ _=>rfl) (ha.regs.trans hb.regs.symm) h3
 have r2:=zdN (f:=yg.cells) (size:=6) (λ_ _=>zqt) (λ_ _=>rfl) (λ_ _=>rfl) (ha.evs.trans hb.evs.symm) h5
 obtain⟨a1,a2,a3,a4⟩:=a
 obtain⟨b1,b2,b3,b4⟩:=b
 simp only [List.cons.injEq,Value.int.injEq,true_and,and_true] at h6 h1 r1 r2
 rw [r1,r2,show a1=b1 by omega,show a4=b4 by omega]
theorem zlQ:∀ {l r:List zR},(∀x∈l,x.ok)->(∀x∈r,x.ok)->l.length=r.length->zD zR.cells l=zD zR.cells r->l=r:=by
 intro l
 induction l with
 |nil=>intro r _ _ hl _;cases r with
  |nil=>rfl
  |cons y r=>simp at hl
 |cons x l ih=>
 intro r h1 h2 hl he
 cases r with
 |nil=>simp at hl
 |cons y r=>
 have he:x.cells++zD zR.cells l=y.cells++zD zR.cells r:=he
 have hx:=h1 x (by simp)
 have hy:=h2 y (by simp)
 obtain⟨ha,hb⟩:=List.append_inj he ((zR.qc hx).trans (zR.qc hy).symm)
 rw [zqu hx hy ha,ih (λz hz=>h1 z (by simp [hz])) (λz hz=>h2 z (by simp [hz])) (by simpa using hl) hb]
theorem zqv {a b:ze} (ha:a.ok) (hb:b.ok) (h:a.cells=b.cells):a=b:=by
 unfold ze.cells at h
 obtain⟨h1,h2⟩:=List.append_inj h (by rw [yJ (ze.xY ha),yJ (ze.xY hb),ha.zO,hb.zO])
 obtain⟨h3,h4⟩:=List.append_inj h2 (by rw [zY,zY,ha.mem,hb.mem])
 have r1:=zlQ ha.each hb.each (ha.zO.trans hb.zO.symm) h1
 have r2:=zdN (f:=yG) (size:=1) zhq (λ_ _=>rfl) (λ_ _=>rfl) (ha.mem.trans hb.mem.symm) h3
 obtain⟨a1,a2,a3⟩:=a
 obtain⟨b1,b2,b3⟩:=b
 simp only [List.cons.injEq,Value.bool.injEq,and_true] at r1 r2 h4
 rw [r1,r2,h4]
theorem zhr {a b:ze} (ha:a.wf) (hb:b.wf) (h:za9 a=za9 b):a=b:=by
 have:=za8.inj (jy ha) (h ▸ jy hb)
 unfold ze.val at this
 simp only [Value.agg.injEq] at this
 exact zqv ha.ok hb.ok (by simpa using congrArg Array.toList this)
open Go.Maps in
def gI (w:World) (b n:Nat) (l:List ze):Prop:=∃D:DataW Unit,w.ownsMap Tryz.prog 67 unitElem b n D/\∀x,ze.wf x->(Maps.has D (za9 x)=true↔x∈l)
theorem gI.since {w w':World} {b n:Nat} {F:Nat->Prop} {l:List ze} (h:gI w b n l) (hs:Since F w w') (hF:¬F b):gI w' b n l:=by
 obtain⟨D,⟨es,clock,h1,h2⟩,h3⟩:=h
 exact⟨D,⟨es,clock,(hs.block b (zB h1) hF).trans h1,h2⟩,h3⟩
theorem gI.below {w w':World} {b n:Nat} {l:List ze} (h:gI w b n l) (hb:Below w.heap.size w w'):gI w' b n l:=h.since (zH (λ_=>False) hb) (λe=>e)
theorem gI.made (w:World):gI (w.alloc (.map #[] 0)) w.heap.size 0 [] :=⟨.map [],World.ownsMap_made w _ _ _,λx _=>by simp [Maps.has]⟩
theorem zhs {w w':World} {b:Nat} (h:w.grownBy w' (some b)):Since (λk=>k=b) w w':=⟨h.os,h.tape,h.output,h.size,λi hi he=>h.block i hi (λe=>he (by simpa using e))⟩
theorem zlR {D:DataW Unit} (hm:Maps.IsMap D) {x y:ze} (hx:x.wf) (hy:y.wf):Maps.has (D.put (za9 x) (.agg [])) (za9 y)=true↔Maps.has D (za9 y)=true\/y=x:=by
 by_cases e:y=x
 ·subst e;rw [Maps.has_put_same hm (zn9 hx)];simp
 rw [Maps.has_put_other (λh=>e (zhr hy hx h))];simp [e]
section
variable (w:World) {ops:Array Oper} {rest:List Oper} {o:Oper} {a:Act} {Q:Exit->Act->World->Prop}
theorem zqK {b n:Nat} {l:List ze} (h:gI w b n l) {y:ze} (hy:y.wf):(Instr.lookup 56 (.map (some b)) y.val true).run Tryz.prog w= .ok (.tuple #[.agg #[], .bool (decide (y∈l))]) w:=by
 obtain⟨D,h1,h2⟩:=h
 obtain⟨v,ps,hr,hv⟩:=h1.look_ok za8 Tryz.underlying56 (zek w) unitElem_mk (jy hy)
 obtain⟨rfl, -⟩:=unitElem_inv hv
 rw [hr,show Maps.has D (za9 y)=decide (y∈l) from Bool.eq_iff_iff.2 ((h2 y hy).trans (by simp))]
theorem ztv {b n:Nat} {l:List ze} (h:gI w b n l) (hn:n<1000000000) {y:ze} (hy:y.wf):∃w',(Instr.mapUpdate 56 (.map (some b)) y.val (.agg #[])).run Tryz.prog w= .ok () w'/\gI w' b (n+1) (y::l)/\Since (λk=>k=b) w w':=by
 obtain⟨D,h1,h2⟩:=h
 obtain⟨w',hr,r1,r2⟩:=h1.store za8 Tryz.underlying56 (Nat.lt_trans hn (by unfold maxLen;decide)) (jy hy) unitElem_mk
 exact⟨w',hr,⟨_,r1,λz hz=>(zlR h1.isMap hy hz).trans (by rw [h2 z hz,List.mem_cons,Or.comm])⟩,zhs r2.grown⟩
end
