/- Steps. -/
import Derived.Test.YtnhahkiojbanfaaGreatDoorRsPEval
set_option linter.all false
namespace Go.Proofs.YtnhahkiojbanfaaGreatDoor
open Go.RowKit
set_option maxRecDepth 100000
set_option maxHeartbeats 16000000
section
variable {P:Program} {ops:Array Oper} {Q:Exit->Act->World->Prop} {md:Region.Mode} {S:World->Prop} {n0:Nat}
def qz (P:Program) (md:Region.Mode) (ops:Array Oper) (Q:Exit->Act->World->Prop) (S:World->Prop) (n0:Nat):Nat->Array Bool->Act->World->Prop
 |0,listed,a,w=>Region.ready md ops listed= [] /\Q .normal a w
 |fuel+1,listed,a,w=>
 (Region.ready md ops listed= [] ->Q .normal a w)/\
 ∀i∈Region.ready md ops listed,wpOp P ops Q i (λa' w'=>(i≠n0->listed.getD n0 true=false->S w')/\qz P md ops Q S n0 fuel (listed.setIfInBounds i true) a' w') a w
theorem zfc:∀(fuel:Nat) (listed:Array Bool) (a:Act) (w:World),qz P md ops Q S n0 fuel listed a w->wpAny P md ops Q fuel listed a w
 |0,_,_,_,h=>h
 |fuel+1,_,_,_,h=>⟨h.1,λi hi=>wpOp_mono (λa' w' h'=>zfc fuel _ a' w' h'.2) (h.2 i hi)⟩
def ziT (md:Region.Mode) (ops:Array Oper) (n0 i:Nat):Bool:=match ops[n0]? with|some o=>o.after.any (λe=>Region.binds md e && e.on==i)|none=>false
theorem zkw {listed:Array Bool} {i:Nat} (hw:ziT md ops n0 i=true) (hi:listed.getD i true=false):n0 ∉ Region.ready md ops listed:=by
 intro hr
 obtain⟨-,o,ho,hall⟩:=mem_ready.1 hr
 unfold ziT at hw
 rw [ho] at hw
 simp only [] at hw
 rw [Array.any_eq_true] at hw
 obtain⟨k,hk,he⟩:=hw
 simp only [Bool.and_eq_true,beq_iff_eq] at he
 have h2:=hall _ (Array.getElem_mem hk) he.1
 rw [he.2] at h2
 rcases Nat.lt_or_ge i listed.size with h'|h'
 ·simp [h'] at hi h2;rw [hi] at h2;cases h2
 simp [Array.getElem?_eq_none h'] at h2
def zgq (md:Region.Mode) (ops:Array Oper) (Wt:List Nat) (i:Nat):Bool:=Wt.all (λx=>ziT md ops x i||Wt.any (λy=>ziT md ops x y))
theorem zv0 {Wt:List Nat} {i:Nat} {listed:Array Bool} (hc:zgq md ops Wt i=true) (hi:listed.getD i true=false) (hl:∀x∈Wt,listed.getD x true=false) {x:Nat} (hx:x∈Wt):x ∉ Region.ready md ops listed:=by
 unfold zgq at hc
 rw [List.all_eq_true] at hc
 have h:=hc x hx
 rw [Bool.or_eq_true,List.any_eq_true] at h
 rcases h with h|⟨y,hy,h⟩
 ·exact zkw h hi
 exact zkw h (hl y hy)
theorem zfO {S1:World->Prop} {i:Nat} {oi:Oper} {v:Value} (Wt:List Nat) (hi:ops[i]? =some oi) (hsel:∀(j:Nat) (o:Oper) cs b,ops[j]? =some o->o.op≠ .select cs b)
  (hQ:∀c a w,Q (.panic c) (a.put oi.dst v) w->Q (.panic c) a w) (hin:i≠n0) (hc:zgq md ops Wt i=true) (hiW:i ∉ Wt) (hn:(n0∈Wt/\∀w,S w->S1 w)\/∀w,S1 w):
  ∀(fuel:Nat) (listed:Array Bool) (a:Act) (w:World),(∀x∈Wt,listed.getD x true=false)->
   (∀j oj,ops[j]? =some oj->j≠i->listed.getD j true=false->(∀e∈oj.after,Region.binds md e=true->e.on≠i)->oi.apart ops oj=true)->
   i∈Region.ready md ops listed->YieldsIf P ops S1 oi v a->(listed.getD n0 true=false->S w)->
   qz P md ops Q S n0 fuel (listed.setIfInBounds i true) (a.put oi.dst v) w->qz P md ops Q S n0 (fuel+1) listed a w:=by
 intro fuel
 induction fuel with
 |zero=>
  intro listed a w hl _ hr hy hS H
  have hS1:S1 w:=hn.elim (λh=>h.2 w (hS (hl n0 h.1))) (λh=>h w)
  refine⟨λh=>(by rw [h] at hr;cases hr),λj hj=> ?_⟩
  by_cases hji:j=i
  ·subst hji;exact hy.wpOp hi hS1 ⟨λ_ h=>hS h,H⟩
  have:=ready_mono hj hji
  rw [H.1] at this
  cases this
 |succ fuel ih=>
 intro listed a w hl hfree hr hy hS H
 have hS1:S1 w:=hn.elim (λh=>h.2 w (hS (hl n0 h.1))) (λh=>h w)
 refine⟨λh=>(by rw [h] at hr;cases hr),λj hj=> ?_⟩
 by_cases hji:j=i
 ·subst hji;exact hy.wpOp hi hS1 ⟨λ_ h=>hS h,H⟩
 have h1:=H.2 j (ready_mono hj hji)
 obtain⟨hjun,oj,hoj,hall⟩:=mem_ready.1 hj
 have hnot:∀e∈oj.after,Region.binds md e=true->e.on≠i:=λe he hb heq=>by
  have h1:=hall e he hb
  have h0:=(mem_ready.1 hr).1
  rw [heq] at h1
  rcases Nat.lt_or_ge i listed.size with h'|h'
  ·simp [h'] at h0 h1;rw [h0] at h1;cases h1
  simp [Array.getElem?_eq_none h'] at h1
 have h2:=wpOp_putIf hoj (hfree j oj hoj hji hjun hnot) (λcs b=>hsel i oi cs b hi) (λcs b=>hsel j oj cs b hoj) hQ hy h1
 have hfree':∀k ok,ops[k]? =some ok->k≠i->(listed.setIfInBounds j true).getD k true=false->
   (∀e∈ok.after,Region.binds md e=true->e.on≠i)->oi.apart ops ok=true:=λk ok hk hki hun hno=>by
  refine hfree k ok hk hki ?_ hno
  by_cases hjk:j=k
  ·subst hjk;exact hjun
  rw [getD_set_ne true hjk] at hun;exact hun
 refine wpOp_mono (λa' w' h3=> ?_) h2
 have hjW:j ∉ Wt:=λhm=>zv0 hc (mem_ready.1 hr).1 hl hm hj
 have hset:∀x,j≠x->(listed.setIfInBounds j true).getD x true=listed.getD x true:=λx hjx=>getD_set_ne true hjx
 have hl1:(listed.setIfInBounds i true).getD n0 true=listed.getD n0 true:=getD_set_ne true hin
 have hS':j≠n0->listed.getD n0 true=false->S w':=λhjn h=>h3.2.1 hjn (hl1.trans h)
 refine⟨hS',ih (listed.setIfInBounds j true) a' w' (λx hx=>(hset x (λe=>hjW (e ▸ hx))).trans (hl x hx)) hfree' (ready_mono hr (Ne.symm hji)) h3.1 (λh=> ?_) ?_⟩
 ·by_cases hjn:j=n0
  ·subst hjn
   rcases Nat.lt_or_ge j listed.size with h'|h'
   ·simp [h'] at h
   have:=(mem_ready.1 hj).1
   simp [Array.getElem?_eq_none h'] at this
  exact hS' hjn ((hset n0 hjn).symm.trans h)
 rw [Array.setIfInBounds_comm _ _ hji]
 exact h3.2.2
def zdW (listed:Array Bool) (Wt:List Nat):Bool:=Wt.all (λx=>listed.getD x true==false)
theorem zm4 {listed:Array Bool} {Wt:List Nat} (h:zdW listed Wt=true):∀x∈Wt,listed.getD x true=false:=λx hx=>by
 unfold zdW at h
 rw [List.all_eq_true] at h
 exact eq_of_beq (h x hx)
theorem zn3 (Wt:List Nat) {i:Nat} {oi:Oper} {v:Value} {fuel:Nat} {listed:Array Bool} {a:Act} {w:World} (hi:ops[i]? =some oi)
  (hs:Region.noSelect ops=true) (hf:Region.free md ops listed i=true) (hr:(Region.ready md ops listed).contains i=true) (hin:i≠n0) (hl:zdW listed Wt=true) (hc:zgq md ops Wt i=true) (hiW:Wt.contains i=false) (hnW:Wt.contains n0=true)
  (hQ:∀c a w,Q (.panic c) (a.put oi.dst v) w->Q (.panic c) a w) (hy:YieldsIf P ops S oi v a) (hS:S w)
  (h:qz P md ops Q S n0 fuel (listed.setIfInBounds i true) (a.put oi.dst v) w):qz P md ops Q S n0 (fuel+1) listed a w:=
 zfO Wt hi (Region.noSelect_spec hs) hQ hin hc (by simpa using hiW) (.inl ⟨by simpa using hnW,λ_ h=>h⟩) fuel listed a w (zm4 hl) (Region.free_spec hi hf) (by simpa using hr) hy (λ_=>hS) h
theorem zn4 {i:Nat} {oi:Oper} {v:Value} {fuel:Nat} {listed:Array Bool} {a:Act} {w:World} (hi:ops[i]? =some oi)
  (hs:Region.noSelect ops=true) (hf:Region.free md ops listed i=true) (hr:(Region.ready md ops listed).contains i=true) (hin:i≠n0)
  (hQ:∀c a w,Q (.panic c) (a.put oi.dst v) w->Q (.panic c) a w) (hy:YieldsIf P ops (λ_=>True) oi v a) (hS:listed.getD n0 true=false->S w)
  (h:qz P md ops Q S n0 fuel (listed.setIfInBounds i true) (a.put oi.dst v) w):qz P md ops Q S n0 (fuel+1) listed a w:=
 zfO [] hi (Region.noSelect_spec hs) hQ hin rfl (by simp) (.inr λ_=>trivial) fuel listed a w (by simp) (Region.free_spec hi hf) (by simpa using hr) hy hS h
def zaU (P:Program) (md:Region.Mode) (ops:Array Oper) (Q:Exit->Act->World->Prop) (S:World->Prop) (n0 fuel:Nat) (listed:Array Bool) (a:Act) (w:World) (rs:List Nat):Prop:=
 ∀i∈rs,wpOp P ops Q i (λa' w'=>(i≠n0->listed.getD n0 true=false->S w')/\qz P md ops Q S n0 fuel (listed.setIfInBounds i true) a' w') a w
theorem zaU.nil {fuel:Nat} {listed:Array Bool} {a:Act} {w:World} :zaU P md ops Q S n0 fuel listed a w [] :=λ_ h=>by cases h
theorem zaU.cons {fuel:Nat} {listed:Array Bool} {a:Act} {w:World} {i:Nat} {o:Oper} {rs:List Nat} (ho:ops[i]? =some o)
  (h:∀K':Act->World->Prop,Hid (∀a w,(i≠n0->listed.getD n0 true=false->S w)->qz P md ops Q S n0 fuel (listed.setIfInBounds i true) a w->K' a w)->if Region.wanted o (yielded ops a.tmps)=true then Oper.wp P o a w K' Q else K' (a.put o.dst undef) w)
  (hs:zaU P md ops Q S n0 fuel listed a w rs):zaU P md ops Q S n0 fuel listed a w (i::rs):=λj hj=>by
 rcases List.mem_cons.1 hj with rfl|hj
 ·exact wpOp_step ho (λK' hK=>h K' (λa w hS hW=>hK a w ⟨hS,hW⟩))
 exact hs j hj
theorem zcF {rs:List Nat} {fuel:Nat} {listed:Array Bool} {a:Act} {w:World} (hr:Region.ready md ops listed=rs) (hne:rs≠ [])
  (h:zaU P md ops Q S n0 fuel listed a w rs):qz P md ops Q S n0 (fuel+1) listed a w:=⟨λh0=>absurd (hr ▸ h0) hne,hr ▸ h⟩
theorem xE {listed:Array Bool} {a:Act} {w:World} (hr:Region.ready md ops listed= []) (h:Q .normal a w):∀fuel,qz P md ops Q S n0 fuel listed a w
 |0=>⟨hr,h⟩
 |_+1=>⟨λ_=>h,by rw [hr];simp⟩
theorem yX {id:Nat} {a:Act} {w:World} (hm:P.follows .mixedOrders=true) (hS:S w.drew)
  (h:S w.drew->qz P .any ops Q S n0 ops.size (Array.replicate ops.size false) a w.drew):(Code.region id ops true).wp P Q a w:=
 wp_region_any hm (zfc _ _ _ _ (h hS))
end
theorem qtF {P:Program} {md:Region.Mode} {ops:Array Oper} {Q:Exit->Act->World->Prop} {S:World->Prop} {n0:Nat} (i d:Nat) (v:Value) {oi:Oper} {fuel:Nat} {listed:Array Bool} {a:Act} {w:World} (hi:ops[i]? =some oi) (hy:∀w,True->(execOp a.eval oi).run P w= .ok (.value v) w) (hS:listed.getD n0 true=false->S w)
 (h:qz P md ops Q S n0 fuel (listed.setIfInBounds i true) ⟨a.tmps.setIfInBounds d v,a.defers⟩ w) (hd:oi.dst=some d:=by rfl) (hw:Region.wanted oi (yielded ops a.tmps)=true:=by rfl) (hs:Region.noSelect ops=true:=by kernel_rfl) (hf:Region.free md ops listed i=true:=by kernel_rfl) (hr:(Region.ready md ops listed).contains i=true:=by kernel_rfl) (hin:i≠n0:=by decide)
 (hQ:∀c a w,Q (.panic c) (a.put oi.dst v) w->Q (.panic c) a w:=by exact λ_ _ _ h=>h):qz P md ops Q S n0 (fuel+1) listed a w:=
 zn4 hi hs hf hr hin hQ (Or.inl ⟨hw,hy⟩) hS (by rw [hd];exact h)
theorem qtT {P:Program} {md:Region.Mode} {ops:Array Oper} {Q:Exit->Act->World->Prop} {S:World->Prop} {n0:Nat} (Wt:List Nat) (i d:Nat) (v:Value) {oi:Oper} {fuel:Nat} {listed:Array Bool} {a:Act} {w:World} (hi:ops[i]? =some oi) (hy:∀w,S w->(execOp a.eval oi).run P w= .ok (.value v) w) (hS:S w)
 (h:qz P md ops Q S n0 fuel (listed.setIfInBounds i true) ⟨a.tmps.setIfInBounds d v,a.defers⟩ w) (hd:oi.dst=some d:=by rfl) (hw:Region.wanted oi (yielded ops a.tmps)=true:=by rfl) (hs:Region.noSelect ops=true:=by kernel_rfl) (hf:Region.free md ops listed i=true:=by kernel_rfl) (hr:(Region.ready md ops listed).contains i=true:=by kernel_rfl) (hin:i≠n0:=by decide)
 (hl:zdW listed Wt=true:=by kernel_rfl) (hc:zgq md ops Wt i=true:=by kernel_rfl) (hiW:Wt.contains i=false:=by rfl) (hnW:Wt.contains n0=true:=by rfl) (hQ:∀c a w,Q (.panic c) (a.put oi.dst v) w->Q (.panic c) a w:=by exact λ_ _ _ h=>h):qz P md ops Q S n0 (fuel+1) listed a w:=
 zn3 Wt hi hs hf hr hin hl hc hiW hnW hQ (Or.inl ⟨hw,hy⟩) hS (by rw [hd];exact h)
theorem zV {P:Program} {md:Region.Mode} {ops:Array Oper} {Q:Exit->Act->World->Prop} {S:World->Prop} {n0:Nat} (i:Nat) {d:Nat} {v:Value} {oi:Oper} {fuel:Nat} {listed:Array Bool} {a a2:Act} {w:World} (hS:listed.getD n0 true=false->S w)
 (h:qz P md ops Q S n0 fuel (listed.setIfInBounds i true) a2 w) (hi:ops[i]? =some oi:=by rfl) (hy:∀w,True->(execOp a.eval oi).run P w= .ok (.value v) w:=by intro _ _;go_simp<;>rfl) (hd:oi.dst=some d:=by rfl) (hE:(⟨a.tmps.setIfInBounds d v,a.defers⟩:Act)=a2:=by simp only [Act.put,kJ,kK,kL];exact rfl) (hw:Region.wanted oi (yielded ops a.tmps)=true:=by rfl) (hs:Region.noSelect ops=true:=by kernel_rfl) (hf:Region.free md ops listed i=true:=by kernel_rfl) (hr:(Region.ready md ops listed).contains i=true:=by kernel_rfl) (hin:i≠n0:=by decide)
 (hQ:∀c a w,Q (.panic c) (a.put oi.dst v) w->Q (.panic c) a w:=by exact λ_ _ _ h=>h):qz P md ops Q S n0 (fuel+1) listed a w:=
 qtF i d v hi hy hS (by rw [hE];exact h) hd hw hs hf hr hin hQ
theorem jr {P:Program} {md:Region.Mode} {ops:Array Oper} {Q:Exit->Act->World->Prop} {S X:World->Prop} {n0:Nat} (Wt:List Nat) (i:Nat) (c:∀w,S w->X w) {d:Nat} {v:Value} {oi:Oper} {fuel:Nat} {listed:Array Bool} {a a2:Act} {w:World} (hS:S w)
 (h:qz P md ops Q S n0 fuel (listed.setIfInBounds i true) a2 w) (hi:ops[i]? =some oi:=by rfl) (hy:∀w,S w->X w->(execOp a.eval oi).run P w= .ok (.value v) w:=by intro _ _ _;go_simp<;>rfl) (hd:oi.dst=some d:=by rfl) (hE:(⟨a.tmps.setIfInBounds d v,a.defers⟩:Act)=a2:=by simp only [Act.put,kJ,kK,kL];exact rfl) (hw:Region.wanted oi (yielded ops a.tmps)=true:=by rfl) (hs:Region.noSelect ops=true:=by kernel_rfl) (hf:Region.free md ops listed i=true:=by kernel_rfl) (hr:(Region.ready md ops listed).contains i=true:=by kernel_rfl) (hin:i≠n0:=by decide)
 (hl:zdW listed Wt=true:=by kernel_rfl) (hc:zgq md ops Wt i=true:=by kernel_rfl) (hiW:Wt.contains i=false:=by rfl) (hnW:Wt.contains n0=true:=by rfl) (hQ:∀c a w,Q (.panic c) (a.put oi.dst v) w->Q (.panic c) a w:=by exact λ_ _ _ h=>h):qz P md ops Q S n0 (fuel+1) listed a w:=
 qtT Wt i d v hi (λw s=>hy w s (c w s)) hS (by rw [hE];exact h) hd hw hs hf hr hin hl hc hiW hnW hQ
theorem vO {P:Program} {md:Region.Mode} {ops:Array Oper} {Q:Exit->Act->World->Prop} {S:World->Prop} {n0:Nat} (i:Nat) {fuel:Nat} {listed:Array Bool} {a:Act} {w:World} {o:Oper} (ho:ops[i]? =some o)
 (h:∀K':Act->World->Prop,Hid (∀a w,(i≠n0->listed.getD n0 true=false->S w)->qz P md ops Q S n0 fuel (listed.setIfInBounds i true) a w->K' a w)->if Region.wanted o (yielded ops a.tmps)=true then Oper.wp P o a w K' Q else K' (a.put o.dst undef) w) (hr:Region.ready md ops listed= [i] :=by kernel_rfl):qz P md ops Q S n0 (fuel+1) listed a w:=
 zcF hr (by simp) (zaU.cons ho h zaU.nil)
end Go.Proofs.YtnhahkiojbanfaaGreatDoor
namespace Go.Proofs.YtnhahkiojbanfaaGreatDoor
open Go.RowKit
set_option maxRecDepth 100000
set_option maxHeartbeats 16000000
variable {v0:Value}
def qP (v0:Value) (w:World) (B gr:Nat) (m:zy) (dom:Int) (mb mc:Nat) (res:Option (zx × List Int × Bool)) (e:Ending) (w':World):Prop:=
 Below B w w'/\((res=none/\e= .returned (.bool false))\/∃(t:zx) (mem:List Int) (bad:Bool) (bv:Value),res=some (t,mem,bad)/\e= .returned (.bool true)/\t.regs.length=4/\xD v0 w' B gr t.pc (t.regs.getD 0 0) (t.regs.getD 1 0) (t.regs.getD 2 0) (t.regs.getD 3 0) t.buf bv m dom mem mb mc bad)
section
variable {w w':World} {B gr mb mc:Nat} {pc r0 r1 r2 r3 dom:Int} {buf:List zl} {bv:Value} {m:zy} {mem:List Int} {bad:Bool}
theorem j5 (h:xD v0 w' B gr pc r0 r1 r2 r3 buf bv m dom mem mb mc bad) (hb:Below B w w'):qP v0 w B gr m dom mb mc (some (⟨pc, [r0,r1,r2,r3],buf⟩,mem,bad)) (.returned (.bool true)) w':=
 ⟨hb, .inr ⟨_,_,_,_,rfl,rfl,rfl,h⟩⟩
theorem zdL {k:Nat} {x:Int} (h:xD v0 w' B gr pc (([r0,r1,r2,r3].set k x).getD 0 0) (([r0,r1,r2,r3].set k x).getD 1 0) (([r0,r1,r2,r3].set k x).getD 2 0) (([r0,r1,r2,r3].set k x).getD 3 0) buf bv m dom mem mb mc bad) (hb:Below B w w'):qP v0 w B gr m dom mb mc (some (⟨pc, [r0,r1,r2,r3].set k x,buf⟩,mem,bad)) (.returned (.bool true)) w':=
 ⟨hb, .inr ⟨_,_,_,_,rfl,rfl,by simp,h⟩⟩
theorem gH (hb:Below B w w'):qP v0 w B gr m dom mb mc none (.returned (.bool false)) w':=⟨hb, .inl ⟨rfl,rfl⟩⟩
end
theorem xD.zdK {w:World} {B gr mb mc:Nat} {pc r0 r1 r2 r3 dom:Int} {buf:List zl} {bv:Value} {m:zy} {mem:List Int} {bad:Bool} (h:xD v0 w B gr pc r0 r1 r2 r3 buf bv m dom mem mb mc bad) {k:Nat} (hk:k<4):w.cell? ⟨gr,1+k,none⟩=some (.int .i64 ([r0,r1,r2,r3].getD k 0))/\w.frozen? ⟨gr,1+k,none⟩=false:=by
 refine⟨?_,zA h.block _⟩
 have e:=ze h.block (1+k)
 have:k=0\/k=1\/k=2\/k=3:=by omega
 rcases this with rfl|rfl|rfl|rfl<;>exact e
theorem zsD {w:World} {B gr mb mc:Nat} {pc r0 r1 r2 r3 dom:Int} {buf:List zl} {bv:Value} {m:zy} {mem:List Int} {bad:Bool} (h:xD v0 w B gr pc r0 r1 r2 r3 buf bv m dom mem mb mc bad) (hB:B<=w.heap.size) (hd1:1<=dom) (hd2:dom<=1000) (d:Nat) (x:zS) (ka kb:Value) (ha:zG d w x.a ka) (hb:zG d w x.b kb)
  (qw:0<=x.reg/\x.reg<4) (hvar:0<=x.var/\x.var<(mem.length:Int)) (hbl:buf.length<=1000000):Calls Tryz.prog 130 #[.pointer (some ⟨gr,0,none⟩),qK x ka kb] w λe w'=>
  qP v0 w B gr m dom mb mc (some (⟨x.dest, [r0,r1,r2,r3],buf⟩,mem,bad)) e w':=by
 obtain⟨aa,ac,rfl, -⟩:=ha.slice
 obtain⟨ba,bc,rfl, -⟩:=hb.slice
 obtain⟨ua,uc,rfl, -⟩:=zh.slice h.vI
 obtain⟨op,reg,v,a,b,yJ⟩:=x
 simp only [] at qw hvar ha hb ⊢
 obtain⟨reg,rfl⟩:∃k:Nat,reg=(k:Int):=⟨reg.toNat,by omega⟩
 obtain⟨v,rfl⟩:∃k:Nat,v=(k:Int):=⟨v.toNat,by omega⟩
 have hr4:reg<4:=by omega
 have uy:v<mem.length:=by omega
 have bA:(v:Int)<(mem.length:Int):=hvar.2
 have hrI:(reg:Int)<4:=qw.2
 try simp only [Int.toNat_natCast]
 clear ha hb
 unfold qK
 simp only []
 generalize a.kind=ak at ⊢
 generalize a.n=an at ⊢
 generalize a.op=ao at ⊢
 generalize a.kids.length=al at ⊢
 generalize b.kind=bk at ⊢
 generalize b.n=bn at ⊢
 generalize b.op=bo at ⊢
 generalize b.kids.length=bl at ⊢
 obtain⟨res,hres⟩:∃r:Option (zx × List Int × Bool),r=(some (⟨yJ, [r0,r1,r2,r3],buf⟩,mem,bad)):=⟨_,rfl⟩
 rw [<-hres]
 have zQ:=qh hres
 clear hres
 obtain⟨un,hun⟩:∃n,n=buf.length:=⟨_,rfl⟩
 rw [<-hun] at h hbl
 have HUN:=qh hun
 have HR:=qh h
 have yR:=qh hB
 have HA:=qh ((Below.refl w.heap.size w).alloc (Nat.le_refl _) (.cells #[.int .i64 op, .int .i64 (reg:Int), .int .i64 (v:Int), .int .i64 ak, .int .i64 an, .int .u8 ao, .slice aa al ac, .int .i64 bk, .int .i64 bn, .int .u8 bo, .slice ba bl bc, .int .i64 yJ] 60))
 have HX:=qh (yj w (.cells #[.int .i64 op, .int .i64 (reg:Int), .int .i64 (v:Int), .int .i64 ak, .int .i64 an, .int .u8 ao, .slice aa al ac, .int .i64 bk, .int .i64 bn, .int .u8 bo, .slice ba bl bc, .int .i64 yJ] 60))
 clear h hun hB
 go_enter Tryz.func130,Tryz.ntmps130
 go_upto_region 1 with fail
 generalize World.alloc w _=W at HA HX ⊢
 obtain⟨gi,hgi⟩:∃g,g=w.heap.size:=⟨_,rfl⟩
 rw [<-hgi] at HX ⊢
 clear hgi
 have HRW:=qh (HR.out.below HA.out)
 have jF:Hid (Below B w W):=HA.out.mono yR.out
 have CC:Hid (∀x,Below W.heap.size W x->x.cell? ⟨gi,11,none⟩=some (.int .i64 yJ)/\x.cell? ⟨gr,0,none⟩=some (.int .i64 pc)):=λx hx=>⟨zk hx _ _ (ze HX.out 11),zk hx _ _ (ze HRW.out.block 0)⟩
 obtain⟨c0,c1⟩:=CC.out W (Below.refl _ _)
 have f0:W.frozen? ⟨gr,0,none⟩=false:=zA HRW.out.block 0
 go_wp2_with fail
 go_ret
 rw [zQ.out]
 exact j5 (HRW.out.zpK yJ) (jF.out.setCell (p:=⟨gr,0,none⟩) HRW.out.base _)
theorem zn5 {w:World} {B gr mb mc:Nat} {pc r0 r1 r2 r3 dom:Int} {buf:List zl} {bv:Value} {m:zy} {mem:List Int} {bad:Bool} (h:xD v0 w B gr pc r0 r1 r2 r3 buf bv m dom mem mb mc bad) (hB:B<=w.heap.size) (hd1:1<=dom) (hd2:dom<=1000) (d:Nat) (x:zS) (ka kb:Value) (ha:zG d w x.a ka) (hb:zG d w x.b kb)
  (qw:0<=x.reg/\x.reg<4) (hvar:0<=x.var/\x.var<(mem.length:Int)) (hbl:buf.length<=1000000):Calls Tryz.prog 129 #[.pointer (some ⟨gr,0,none⟩),qK x ka kb] w λe w'=>
  qP v0 w B gr m dom mb mc (some (if yw [r0,r1,r2,r3] dom d x.a=0 then(⟨x.dest, [r0,r1,r2,r3],buf⟩:zx) else⟨pc, [r0,r1,r2,r3],buf⟩,mem,bad)) e w':=by
 have yh:=λW V (hV:xD v0 W B gr pc r0 r1 r2 r3 buf V m dom mem mb mc bad) (hW:Below w.heap.size w W)=>zaB hV hd1 hd2 d x.a ka (ha.below hW)
 obtain⟨aa,ac,rfl, -⟩:=ha.slice
 obtain⟨ba,bc,rfl, -⟩:=hb.slice
 obtain⟨ua,uc,rfl, -⟩:=zh.slice h.vI
 obtain⟨op,reg,v,a,b,yJ⟩:=x
 simp only [] at qw hvar ha hb yh ⊢
 obtain⟨reg,rfl⟩:∃k:Nat,reg=(k:Int):=⟨reg.toNat,by omega⟩
 obtain⟨v,rfl⟩:∃k:Nat,v=(k:Int):=⟨v.toNat,by omega⟩
 have hr4:reg<4:=by omega
 have uy:v<mem.length:=by omega
 have bA:(v:Int)<(mem.length:Int):=hvar.2
 have hrI:(reg:Int)<4:=qw.2
 try simp only [Int.toNat_natCast]
 clear ha hb
 unfold qK
 simp only []
 unfold qy at yh
 generalize hva:yw [r0,r1,r2,r3] dom d a=va at yh ⊢
 clear hva
 generalize a.kind=ak at yh ⊢
 generalize a.n=an at yh ⊢
 generalize a.op=ao at yh ⊢
 generalize a.kids.length=al at yh ⊢
 generalize b.kind=bk at ⊢
 generalize b.n=bn at ⊢
 generalize b.op=bo at ⊢
 generalize b.kids.length=bl at ⊢
 have HEA:=qh yh
 clear yh
 obtain⟨res,hres⟩:∃r:Option (zx × List Int × Bool),r=(some (if va=0 then(⟨yJ, [r0,r1,r2,r3],buf⟩:zx) else⟨pc, [r0,r1,r2,r3],buf⟩,mem,bad)):=⟨_,rfl⟩
 rw [<-hres]
 have zQ:=qh hres
 clear hres
 obtain⟨un,hun⟩:∃n,n=buf.length:=⟨_,rfl⟩
 rw [<-hun] at h hbl
 have HUN:=qh hun
 have HR:=qh h
 have yR:=qh hB
 have HA:=qh ((Below.refl w.heap.size w).alloc (Nat.le_refl _) (.cells #[.int .i64 op, .int .i64 (reg:Int), .int .i64 (v:Int), .int .i64 ak, .int .i64 an, .int .u8 ao, .slice aa al ac, .int .i64 bk, .int .i64 bn, .int .u8 bo, .slice ba bl bc, .int .i64 yJ] 60))
 have HX:=qh (yj w (.cells #[.int .i64 op, .int .i64 (reg:Int), .int .i64 (v:Int), .int .i64 ak, .int .i64 an, .int .u8 ao, .slice aa al ac, .int .i64 bk, .int .i64 bn, .int .u8 bo, .slice ba bl bc, .int .i64 yJ] 60))
 clear h hun hB
 go_enter Tryz.func129,Tryz.ntmps129
 go_upto_region 1 with fail
 generalize World.alloc w _=W at HA HX ⊢
 obtain⟨gi,hgi⟩:∃g,g=w.heap.size:=⟨_,rfl⟩
 rw [<-hgi] at HX ⊢
 clear hgi
 have HRW:=qh (HR.out.below HA.out)
 have jF:Hid (Below B w W):=HA.out.mono yR.out
 have CC:Hid (∀x,Below W.heap.size W x->x.cell? ⟨gi,3,none⟩=some (.int .i64 ak)/\x.cell? ⟨gi,4,none⟩=some (.int .i64 an)/\x.cell? ⟨gi,5,none⟩=some (.int .u8 ao)/\x.cell? ⟨gi,6,none⟩=some (.slice aa al ac)):=λx hx=>⟨zk hx _ _ (ze HX.out 3),zk hx _ _ (ze HX.out 4),zk hx _ _ (ze HX.out 5),zk hx _ _ (ze HX.out 6)⟩
 obtain⟨c0,c1,c2,c3⟩:=CC.out W (Below.refl _ _)
 go_wp2_with fail
 refine(HEA.out W _ HRW.out HA.out).mono ?_
 rintro e w2 ⟨rfl,hb2⟩
 have HR2:=qh (HRW.out.below hb2)
 have HBB:Hid (Below B w w2):=jF.out.trans (hb2.mono (Nat.le_trans yR.out HA.out.size))
 have d0:w2.cell? ⟨gi,11,none⟩=some (.int .i64 yJ):=zk hb2 _ _ (ze HX.out 11)
 have d1:w2.cell? ⟨gr,0,none⟩=some (.int .i64 pc):=ze HR2.out.block 0
 have f0:w2.frozen? ⟨gr,0,none⟩=false:=zA HR2.out.block 0
 clear hb2 c0 c1 c2 c3
 by_cases hz:va=0
 ·subst hz
  go_wp2_with fail
  go_ret
  first|rw [zQ.out,if_pos rfl] |rw [zQ.out,if_pos trivial]
  exact j5 (HR2.out.zpK yJ) (HBB.out.setCell (p:=⟨gr,0,none⟩) HR2.out.base _)
 have hz1:((va:Int)==0)=false:=by simp [hz]
 have HZ:=qh hz
 clear hz
 go_wp2_with fail
 go_ret
 rw [zQ.out,if_neg HZ.out]
 exact j5 HR2.out HBB.out
theorem zn6 {w:World} {B gr mb mc:Nat} {pc r0 r1 r2 r3 dom:Int} {buf:List zl} {bv:Value} {m:zy} {mem:List Int} {bad:Bool} (h:xD v0 w B gr pc r0 r1 r2 r3 buf bv m dom mem mb mc bad) (hB:B<=w.heap.size) (hd1:1<=dom) (hd2:dom<=1000) (d:Nat) (x:zS) (ka kb:Value) (ha:zG d w x.a ka) (hb:zG d w x.b kb)
  (qw:0<=x.reg/\x.reg<4) (hvar:0<=x.var/\x.var<(mem.length:Int)) (hbl:buf.length<=1000000):Calls Tryz.prog 128 #[.pointer (some ⟨gr,0,none⟩),qK x ka kb] w λe w'=>
  qP v0 w B gr m dom mb mc (some (⟨pc, [r0,r1,r2,r3],buf⟩,mem,bad||decide (yw [r0,r1,r2,r3] dom d x.a=0))) e w':=by
 have yh:=λW V (hV:xD v0 W B gr pc r0 r1 r2 r3 buf V m dom mem mb mc bad) (hW:Below w.heap.size w W)=>zaB hV hd1 hd2 d x.a ka (ha.below hW)
 obtain⟨aa,ac,rfl, -⟩:=ha.slice
 obtain⟨ba,bc,rfl, -⟩:=hb.slice
 obtain⟨ua,uc,rfl, -⟩:=zh.slice h.vI
 obtain⟨op,reg,v,a,b,yJ⟩:=x
 simp only [] at qw hvar ha hb yh ⊢
 obtain⟨reg,rfl⟩:∃k:Nat,reg=(k:Int):=⟨reg.toNat,by omega⟩
 obtain⟨v,rfl⟩:∃k:Nat,v=(k:Int):=⟨v.toNat,by omega⟩
 have hr4:reg<4:=by omega
 have uy:v<mem.length:=by omega
 have bA:(v:Int)<(mem.length:Int):=hvar.2
 have hrI:(reg:Int)<4:=qw.2
 try simp only [Int.toNat_natCast]
 clear ha hb
 unfold qK
 simp only []
 unfold qy at yh
 generalize hva:yw [r0,r1,r2,r3] dom d a=va at yh ⊢
 clear hva
 generalize a.kind=ak at yh ⊢
 generalize a.n=an at yh ⊢
 generalize a.op=ao at yh ⊢
 generalize a.kids.length=al at yh ⊢
 generalize b.kind=bk at ⊢
 generalize b.n=bn at ⊢
 generalize b.op=bo at ⊢
 generalize b.kids.length=bl at ⊢
 have HEA:=qh yh
 clear yh
 obtain⟨res,hres⟩:∃r:Option (zx × List Int × Bool),r=(some (⟨pc, [r0,r1,r2,r3],buf⟩,mem,bad||decide (va=0))):=⟨_,rfl⟩
 rw [<-hres]
 have zQ:=qh hres
 clear hres
 obtain⟨un,hun⟩:∃n,n=buf.length:=⟨_,rfl⟩
 rw [<-hun] at h hbl
 have HUN:=qh hun
 have HR:=qh h
 have yR:=qh hB
 have HA:=qh ((Below.refl w.heap.size w).alloc (Nat.le_refl _) (.cells #[.int .i64 op, .int .i64 (reg:Int), .int .i64 (v:Int), .int .i64 ak, .int .i64 an, .int .u8 ao, .slice aa al ac, .int .i64 bk, .int .i64 bn, .int .u8 bo, .slice ba bl bc, .int .i64 yJ] 60))
 have HX:=qh (yj w (.cells #[.int .i64 op, .int .i64 (reg:Int), .int .i64 (v:Int), .int .i64 ak, .int .i64 an, .int .u8 ao, .slice aa al ac, .int .i64 bk, .int .i64 bn, .int .u8 bo, .slice ba bl bc, .int .i64 yJ] 60))
 clear h hun hB
 go_enter Tryz.func128,Tryz.ntmps128
 go_upto_region 1 with fail
 generalize World.alloc w _=W at HA HX ⊢
 obtain⟨gi,hgi⟩:∃g,g=w.heap.size:=⟨_,rfl⟩
 rw [<-hgi] at HX ⊢
 clear hgi
 have HRW:=qh (HR.out.below HA.out)
 have jF:Hid (Below B w W):=HA.out.mono yR.out
 have CC:Hid (∀x,Below W.heap.size W x->x.cell? ⟨gi,3,none⟩=some (.int .i64 ak)/\x.cell? ⟨gi,4,none⟩=some (.int .i64 an)/\x.cell? ⟨gi,5,none⟩=some (.int .u8 ao)/\x.cell? ⟨gi,6,none⟩=some (.slice aa al ac)/\x.cell? ⟨gr,10,none⟩=some (.bool bad)):=λx hx=>⟨zk hx _ _ (ze HX.out 3),zk hx _ _ (ze HX.out 4),zk hx _ _ (ze HX.out 5),zk hx _ _ (ze HX.out 6),zk hx _ _ (ze HRW.out.block 10)⟩
 obtain⟨c0,c1,c2,c3,c4⟩:=CC.out W (Below.refl _ _)
 have f10:W.frozen? ⟨gr,10,none⟩=false:=zA HRW.out.block 10
 cases bad with
 |true=>
  go_wp2_with fail
  go_ret
  rw [zQ.out]
  exact j5 (HRW.out.zmj _) (jF.out.setCell (p:=⟨gr,10,none⟩) HRW.out.base _)
 |false=>
 go_wp2_with fail
 refine(HEA.out W _ HRW.out HA.out).mono ?_
 rintro e w2 ⟨rfl,hb2⟩
 have HR2:=qh (HRW.out.below hb2)
 have HBB:Hid (Below B w w2):=jF.out.trans (hb2.mono (Nat.le_trans yR.out HA.out.size))
 have d1:w2.cell? ⟨gr,10,none⟩=some (.bool false):=ze HR2.out.block 10
 have g0:w2.frozen? ⟨gr,10,none⟩=false:=zA HR2.out.block 10
 clear hb2 f10 c0 c1 c2 c3 c4
 by_cases hz:va=0
 ·subst hz
  go_wp2_with fail
  go_ret
  rw [zQ.out]
  exact j5 (HR2.out.zmj _) (HBB.out.setCell (p:=⟨gr,10,none⟩) HR2.out.base _)
 have hz1:((va:Int)==0)=false:=by simp [hz]
 have HZ:Hid ((false||decide (va=0))=false):=by simp [Hid,hz]
 clear hz
 go_wp2_with fail
 go_ret
 rw [zQ.out,HZ.out]
 exact j5 (HR2.out.zmj _) (HBB.out.setCell (p:=⟨gr,10,none⟩) HR2.out.base _)
theorem zqc {w:World} {B gr mb mc:Nat} {pc r0 r1 r2 r3 dom:Int} {buf:List zl} {bv:Value} {m:zy} {mem:List Int} {bad:Bool} (h:xD v0 w B gr pc r0 r1 r2 r3 buf bv m dom mem mb mc bad) (hB:B<=w.heap.size) (hd1:1<=dom) (hd2:dom<=1000) (d:Nat) (x:zS) (ka kb:Value) (ha:zG d w x.a ka) (hb:zG d w x.b kb)
  (qw:0<=x.reg/\x.reg<4) (hvar:0<=x.var/\x.var<(mem.length:Int)) (hbl:buf.length<=1000000):Calls Tryz.prog 123 #[.pointer (some ⟨gr,0,none⟩),qK x ka kb] w λe w'=>
  qP v0 w B gr m dom mb mc (if buf.length=0 then some (⟨pc, [r0,r1,r2,r3],buf⟩,mem,bad) else none) e w':=by
 obtain⟨aa,ac,rfl, -⟩:=ha.slice
 obtain⟨ba,bc,rfl, -⟩:=hb.slice
 obtain⟨ua,uc,rfl, -⟩:=zh.slice h.vI
 obtain⟨op,reg,v,a,b,yJ⟩:=x
 simp only [] at qw hvar ha hb ⊢
 obtain⟨reg,rfl⟩:∃k:Nat,reg=(k:Int):=⟨reg.toNat,by omega⟩
 obtain⟨v,rfl⟩:∃k:Nat,v=(k:Int):=⟨v.toNat,by omega⟩
 have hr4:reg<4:=by omega
 have uy:v<mem.length:=by omega
 have bA:(v:Int)<(mem.length:Int):=hvar.2
 have hrI:(reg:Int)<4:=qw.2
 try simp only [Int.toNat_natCast]
 clear ha hb
 unfold qK
 simp only []
 generalize a.kind=ak at ⊢
 generalize a.n=an at ⊢
 generalize a.op=ao at ⊢
 generalize a.kids.length=al at ⊢
 generalize b.kind=bk at ⊢
 generalize b.n=bn at ⊢
 generalize b.op=bo at ⊢
 generalize b.kids.length=bl at ⊢
 obtain⟨res,hres⟩:∃r:Option (zx × List Int × Bool),r=(if buf.length=0 then some (⟨pc, [r0,r1,r2,r3],buf⟩,mem,bad) else none):=⟨_,rfl⟩
 rw [<-hres]
 have zQ:=qh hres
 clear hres
 obtain⟨un,hun⟩:∃n,n=buf.length:=⟨_,rfl⟩
 rw [<-hun] at h hbl
 have HUN:=qh hun
 have HR:=qh h
 have yR:=qh hB
 have HA:=qh ((Below.refl w.heap.size w).alloc (Nat.le_refl _) (.cells #[.int .i64 op, .int .i64 (reg:Int), .int .i64 (v:Int), .int .i64 ak, .int .i64 an, .int .u8 ao, .slice aa al ac, .int .i64 bk, .int .i64 bn, .int .u8 bo, .slice ba bl bc, .int .i64 yJ] 60))
 have HX:=qh (yj w (.cells #[.int .i64 op, .int .i64 (reg:Int), .int .i64 (v:Int), .int .i64 ak, .int .i64 an, .int .u8 ao, .slice aa al ac, .int .i64 bk, .int .i64 bn, .int .u8 bo, .slice ba bl bc, .int .i64 yJ] 60))
 clear h hun hB
 go_enter Tryz.func123,Tryz.ntmps123
 go_upto_region 1 with fail
 generalize World.alloc w _=W at HA HX ⊢
 obtain⟨gi,hgi⟩:∃g,g=w.heap.size:=⟨_,rfl⟩
 rw [<-hgi] at HX ⊢
 clear hgi
 have HRW:=qh (HR.out.below HA.out)
 have jF:Hid (Below B w W):=HA.out.mono yR.out
 go_wp2_with fail
 refine(pQ HRW.out).mono ?_
 rintro e w2 ⟨rfl,rfl⟩
 by_cases hz:buf.length=0
 ·have HZ:=qh hz
  have hz1:decide (buf.length=0)=true:=decide_eq_true hz
  clear hz
  rw [hz1]
  go_wp2_with fail
  go_ret
  rw [zQ.out,if_pos HZ.out]
  exact j5 HRW.out jF.out
 have HZ:=qh hz
 have hz1:decide (buf.length=0)=false:=decide_eq_false hz
 clear hz
 rw [hz1]
 go_wp2_with fail
 go_ret
 rw [zQ.out,if_neg HZ.out]
 exact gH jF.out
theorem zsE {w:World} {B gr mb mc:Nat} {pc r0 r1 r2 r3 dom:Int} {buf:List zl} {bv:Value} {m:zy} {mem:List Int} {bad:Bool} (h:xD v0 w B gr pc r0 r1 r2 r3 buf bv m dom mem mb mc bad) (hB:B<=w.heap.size) (hd1:1<=dom) (hd2:dom<=1000) (d:Nat) (x:zS) (ka kb:Value) (ha:zG d w x.a ka) (hb:zG d w x.b kb)
  (qw:0<=x.reg/\x.reg<4) (hvar:0<=x.var/\x.var<(mem.length:Int)) (hbl:buf.length<=1000000):Calls Tryz.prog 124 #[.pointer (some ⟨gr,0,none⟩),qK x ka kb] w λe w'=>
  qP v0 w B gr m dom mb mc (if buf.length=0\/¬m.model=2 then some (⟨pc, [r0,r1,r2,r3],buf⟩,mem,bad) else none) e w':=by
 obtain⟨aa,ac,rfl, -⟩:=ha.slice
 obtain⟨ba,bc,rfl, -⟩:=hb.slice
 obtain⟨ua,uc,rfl, -⟩:=zh.slice h.vI
 obtain⟨op,reg,v,a,b,yJ⟩:=x
 simp only [] at qw hvar ha hb ⊢
 obtain⟨reg,rfl⟩:∃k:Nat,reg=(k:Int):=⟨reg.toNat,by omega⟩
 obtain⟨v,rfl⟩:∃k:Nat,v=(k:Int):=⟨v.toNat,by omega⟩
 have hr4:reg<4:=by omega
 have uy:v<mem.length:=by omega
 have bA:(v:Int)<(mem.length:Int):=hvar.2
 have hrI:(reg:Int)<4:=qw.2
 try simp only [Int.toNat_natCast]
 clear ha hb
 unfold qK
 simp only []
 generalize a.kind=ak at ⊢
 generalize a.n=an at ⊢
 generalize a.op=ao at ⊢
 generalize a.kids.length=al at ⊢
 generalize b.kind=bk at ⊢
 generalize b.n=bn at ⊢
 generalize b.op=bo at ⊢
 generalize b.kids.length=bl at ⊢
 obtain⟨res,hres⟩:∃r:Option (zx × List Int × Bool),r=(if buf.length=0\/¬m.model=2 then some (⟨pc, [r0,r1,r2,r3],buf⟩,mem,bad) else none):=⟨_,rfl⟩
 rw [<-hres]
 have zQ:=qh hres
 clear hres
 obtain⟨un,hun⟩:∃n,n=buf.length:=⟨_,rfl⟩
 rw [<-hun] at h hbl
 have HUN:=qh hun
 have HR:=qh h
 have yR:=qh hB
 have HA:=qh ((Below.refl w.heap.size w).alloc (Nat.le_refl _) (.cells #[.int .i64 op, .int .i64 (reg:Int), .int .i64 (v:Int), .int .i64 ak, .int .i64 an, .int .u8 ao, .slice aa al ac, .int .i64 bk, .int .i64 bn, .int .u8 bo, .slice ba bl bc, .int .i64 yJ] 60))
 have HX:=qh (yj w (.cells #[.int .i64 op, .int .i64 (reg:Int), .int .i64 (v:Int), .int .i64 ak, .int .i64 an, .int .u8 ao, .slice aa al ac, .int .i64 bk, .int .i64 bn, .int .u8 bo, .slice ba bl bc, .int .i64 yJ] 60))
 clear h hun hB
 go_enter Tryz.func124,Tryz.ntmps124
 go_upto_region 1 with fail
 generalize World.alloc w _=W at HA HX ⊢
 obtain⟨gi,hgi⟩:∃g,g=w.heap.size:=⟨_,rfl⟩
 rw [<-hgi] at HX ⊢
 clear hgi
 have HRW:=qh (HR.out.below HA.out)
 have jF:Hid (Below B w W):=HA.out.mono yR.out
 have CC:Hid (∀x,Below W.heap.size W x->x.cell? ⟨gr,6,none⟩=some (.int .i64 m.model)):=λx hx=>zk hx _ _ (ze HRW.out.block 6)
 go_wp2_with fail
 refine(pQ HRW.out).mono ?_
 rintro e w2 ⟨rfl,rfl⟩
 by_cases hz:buf.length=0
 ·have HZ:=qh hz
  have hz1:decide (buf.length=0)=true:=decide_eq_true hz
  clear hz
  rw [hz1]
  go_wp2_with fail
  go_ret
  rw [zQ.out,if_pos (.inl HZ.out)]
  exact j5 HRW.out jF.out
 have HZ:=qh hz
 have hz1:decide (buf.length=0)=false:=decide_eq_false hz
 clear hz
 rw [hz1]
 have c0:=CC.out w2 (Below.refl _ _)
 by_cases hm:m.model=2
 ·have hm1:((m.model:Int) !=2)=false:=by simp [hm]
  have HM:=qh hm
  clear hm
  go_wp2_with fail
  go_ret
  rw [zQ.out,if_neg (λh=>h.elim HZ.out (λh2=>h2 HM.out))]
  exact gH jF.out
 have hm1:((m.model:Int) !=2)=true:=by simp [hm]
 have HM:=qh hm
 clear hm
 go_wp2_with fail
 go_ret
 rw [zQ.out,if_pos (.inr HM.out)]
 exact j5 HRW.out jF.out
theorem zn7 {w:World} {B gr mb mc:Nat} {pc r0 r1 r2 r3 dom:Int} {buf:List zl} {bv:Value} {m:zy} {mem:List Int} {bad:Bool} (h:xD v0 w B gr pc r0 r1 r2 r3 buf bv m dom mem mb mc bad) (hB:B<=w.heap.size) (hd1:1<=dom) (hd2:dom<=1000) (d:Nat) (x:zS) (ka kb:Value) (ha:zG d w x.a ka) (hb:zG d w x.b kb)
  (qw:0<=x.reg/\x.reg<4) (hvar:0<=x.var/\x.var<(mem.length:Int)) (hbl:buf.length<=1000000):Calls Tryz.prog 127 #[.pointer (some ⟨gr,0,none⟩),qK x ka kb] w λe w'=>
  qP v0 w B gr m dom mb mc (if buf.length=0 then some (⟨pc, [r0,r1,r2,r3],buf⟩,mem.set x.var.toNat 0,bad) else none) e w':=by
 obtain⟨aa,ac,rfl, -⟩:=ha.slice
 obtain⟨ba,bc,rfl, -⟩:=hb.slice
 obtain⟨ua,uc,rfl, -⟩:=zh.slice h.vI
 obtain⟨op,reg,v,a,b,yJ⟩:=x
 simp only [] at qw hvar ha hb ⊢
 obtain⟨reg,rfl⟩:∃k:Nat,reg=(k:Int):=⟨reg.toNat,by omega⟩
 obtain⟨v,rfl⟩:∃k:Nat,v=(k:Int):=⟨v.toNat,by omega⟩
 have hr4:reg<4:=by omega
 have uy:v<mem.length:=by omega
 have bA:(v:Int)<(mem.length:Int):=hvar.2
 have hrI:(reg:Int)<4:=qw.2
 try simp only [Int.toNat_natCast]
 clear ha hb
 unfold qK
 simp only []
 generalize a.kind=ak at ⊢
 generalize a.n=an at ⊢
 generalize a.op=ao at ⊢
 generalize a.kids.length=al at ⊢
 generalize b.kind=bk at ⊢
 generalize b.n=bn at ⊢
 generalize b.op=bo at ⊢
 generalize b.kids.length=bl at ⊢
 obtain⟨res,hres⟩:∃r:Option (zx × List Int × Bool),r=(if buf.length=0 then some (⟨pc, [r0,r1,r2,r3],buf⟩,mem.set v 0,bad) else none):=⟨_,rfl⟩
 rw [<-hres]
 have zQ:=qh hres
 clear hres
 obtain⟨un,hun⟩:∃n,n=buf.length:=⟨_,rfl⟩
 rw [<-hun] at h hbl
 have HUN:=qh hun
 have HR:=qh h
 have yR:=qh hB
 have HA:=qh ((Below.refl w.heap.size w).alloc (Nat.le_refl _) (.cells #[.int .i64 op, .int .i64 (reg:Int), .int .i64 (v:Int), .int .i64 ak, .int .i64 an, .int .u8 ao, .slice aa al ac, .int .i64 bk, .int .i64 bn, .int .u8 bo, .slice ba bl bc, .int .i64 yJ] 60))
 have HX:=qh (yj w (.cells #[.int .i64 op, .int .i64 (reg:Int), .int .i64 (v:Int), .int .i64 ak, .int .i64 an, .int .u8 ao, .slice aa al ac, .int .i64 bk, .int .i64 bn, .int .u8 bo, .slice ba bl bc, .int .i64 yJ] 60))
 clear h hun hB
 go_enter Tryz.func127,Tryz.ntmps127
 go_upto_region 1 with fail
 generalize World.alloc w _=W at HA HX ⊢
 obtain⟨gi,hgi⟩:∃g,g=w.heap.size:=⟨_,rfl⟩
 rw [<-hgi] at HX ⊢
 clear hgi
 have HRW:=qh (HR.out.below HA.out)
 have jF:Hid (Below B w W):=HA.out.mono yR.out
 have CC:Hid (∀x,Below W.heap.size W x->x.cell? ⟨gi,2,none⟩=some (.int .i64 (v:Int))/\x.cell? ⟨gr,9,none⟩=some (.slice (some ⟨mb,0,none⟩) mem.length mc)):=λx hx=>⟨zk hx _ _ (ze HX.out 2),zk hx _ _ (ze HRW.out.block 9)⟩
 refine wp_region_noPanic ?_
 refine yX (n0:=7) (S:=λx=>Below W.heap.size W x) (by kernel_rfl) ((Below.refl _ _).drew) (λhT=> ?_)
 refine zV 0 (λ_=>hT) ?_
 refine zV 1 (λ_=>hT) ?_
 refine zV 2 (λ_=>hT) ?_
 refine jr [6,7] 3 CC.out hT ?_
 refine zV 4 (λ_=>hT) ?_
 refine jr [6,7] 5 CC.out hT ?_
 refine zV 6 (λ_=>hT) ?_
 refine vO 7 rfl (λK hK=> ?_)
 obtain⟨q0,q1⟩:=(HRW.out.below (Below.refl _ _).drew).uV uy
 go_simp
 refine hK.out _ _ (λh=>absurd rfl h) ?_
 clear hK K
 refine xE (by kernel_rfl) ?_ _
 refine NoPanic.normal ?_
 clear q0 q1
 have HR2:=qh ((HRW.out.below (Below.refl _ _).drew).zdM v 0)
 have HB2:Hid (Below B w (W.drew.setCell ⟨mb,v,none⟩ (.int .i64 0))):=jF.out.drew.setCell (p:=⟨mb,v,none⟩) HRW.out.gW.1 _
 go_wp2_with fail
 refine(pQ HR2.out).mono ?_
 rintro e w3 ⟨rfl,rfl⟩
 by_cases hz:buf.length=0
 ·have HZ:=qh hz
  have hz1:decide (buf.length=0)=true:=decide_eq_true hz
  clear hz
  rw [hz1]
  go_wp2_with fail
  go_ret
  rw [zQ.out,if_pos HZ.out]
  exact j5 HR2.out HB2.out
 have HZ:=qh hz
 have hz1:decide (buf.length=0)=false:=decide_eq_false hz
 clear hz
 rw [hz1]
 go_wp2_with fail
 go_ret
 rw [zQ.out,if_neg HZ.out]
 exact gH HB2.out
