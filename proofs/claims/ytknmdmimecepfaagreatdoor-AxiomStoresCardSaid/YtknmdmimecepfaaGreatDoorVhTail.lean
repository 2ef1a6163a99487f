/- Steps. -/
import Derived.Test.YtknmdmimecepfaaGreatDoorVhBase
set_option linter.all false
namespace Go.Proofs.YtknmdmimecepfaaGreatDoor
open Go.RowKit
set_option maxRecDepth 100000
set_option maxHeartbeats 16000000
section
variable {P:Program} {ops:Array Oper} {Q:Exit->Act->World->Prop} {md:Region.Mode} {S:World->Prop} {n0:Nat}
def yE (P:Program) (md:Region.Mode) (ops:Array Oper) (Q:Exit->Act->World->Prop) (S:World->Prop) (n0:Nat):Nat->Array Bool->Act->World->Prop
 |0,listed,a,w=>Region.ready md ops listed= [] /\Q .normal a w
 |fuel+1,listed,a,w=>
 (Region.ready md ops listed= [] ->Q .normal a w)/\
 ∀i∈Region.ready md ops listed,wpOp P ops Q i (λa' w'=>(i≠n0->listed.getD n0 true=false->S w')/\yE P md ops Q S n0 fuel (listed.setIfInBounds i true) a' w') a w
theorem za5:∀(fuel:Nat) (listed:Array Bool) (a:Act) (w:World),yE P md ops Q S n0 fuel listed a w->wpAny P md ops Q fuel listed a w
 |0,_,_,_,h=>h
 |fuel+1,_,_,_,h=>⟨h.1,λi hi=>wpOp_mono (λa' w' h'=>za5 fuel _ a' w' h'.2) (h.2 i hi)⟩
def zdu (md:Region.Mode) (ops:Array Oper) (n0 i:Nat):Bool:=match ops[n0]? with|some o=>o.after.any (λe=>Region.binds md e && e.on==i)|none=>false
theorem zec {listed:Array Bool} {i:Nat} (hw:zdu md ops n0 i=true) (hi:listed.getD i true=false):n0 ∉ Region.ready md ops listed:=by
 intro hr
 obtain⟨-,o,ho,hall⟩:=mem_ready.1 hr
 unfold zdu at hw
 rw [ho] at hw
 simp only [] at hw
 rw [Array.any_eq_true] at hw
 obtain⟨k,hk,he⟩:=hw
 simp only [Bool.and_eq_true,beq_iff_eq] at he
 have h2:=hall _ (Array.getElem_mem hk) he.1
 rw [he.2] at h2
 rcases Nat.lt_or_ge i listed.size with h'|h'
 ·simp [h'] at hi h2;rw [hi] at h2;cases h2
 simp [Array.getElem?_eq_none h'] at h2
def zbF (md:Region.Mode) (ops:Array Oper) (Wt:List Nat) (i:Nat):Bool:=Wt.all (λx=>zdu md ops x i||Wt.any (λy=>zdu md ops x y))
theorem zlb {Wt:List Nat} {i:Nat} {listed:Array Bool} (hc:zbF md ops Wt i=true) (hi:listed.getD i true=false) (hl:∀x∈Wt,listed.getD x true=false) {x:Nat} (hx:x∈Wt):x ∉ Region.ready md ops listed:=by
 unfold zbF at hc
 rw [List.all_eq_true] at hc
 have h:=hc x hx
 rw [Bool.or_eq_true,List.any_eq_true] at h
 rcases h with h|⟨y,hy,h⟩
 ·exact zec h hi
 exact zec h (hl y hy)
theorem zbz {S1:World->Prop} {i:Nat} {oi:Oper} {v:Value} (Wt:List Nat) (hi:ops[i]? =some oi) (hsel:∀(j:Nat) (o:Oper) cs b,ops[j]? =some o->o.op≠ .select cs b)
  (hQ:∀c a w,Q (.panic c) (a.put oi.dst v) w->Q (.panic c) a w) (hin:i≠n0) (hc:zbF md ops Wt i=true) (hiW:i ∉ Wt) (hn:(n0∈Wt/\∀w,S w->S1 w)\/∀w,S1 w):
  ∀(fuel:Nat) (listed:Array Bool) (a:Act) (w:World),(∀x∈Wt,listed.getD x true=false)->
   (∀j oj,ops[j]? =some oj->j≠i->listed.getD j true=false->(∀e∈oj.after,Region.binds md e=true->e.on≠i)->oi.apart ops oj=true)->
   i∈Region.ready md ops listed->YieldsIf P ops S1 oi v a->(listed.getD n0 true=false->S w)->
   yE P md ops Q S n0 fuel (listed.setIfInBounds i true) (a.put oi.dst v) w->yE P md ops Q S n0 (fuel+1) listed a w:=by
 intro fuel
 induction fuel with
 |zero=>
  intro listed a w hl _ hr hy hS H
  have hS1:S1 w:=hn.elim (λh=>h.2 w (hS (hl n0 h.1))) (λh=>h w)
  refine⟨λh=>(by rw [h] at hr;cases hr),λj hj=> ?_⟩
  by_cases hji:j=i
  ·subst hji;exact hy.wpOp hi hS1 ⟨λ_ h=>hS h,H⟩
  have:=ready_mono hj hji
  rw [H.1] at this
  cases this
 |succ fuel ih=>
 intro listed a w hl hfree hr hy hS H
 have hS1:S1 w:=hn.elim (λh=>h.2 w (hS (hl n0 h.1))) (λh=>h w)
 refine⟨λh=>(by rw [h] at hr;cases hr),λj hj=> ?_⟩
 by_cases hji:j=i
 ·subst hji;exact hy.wpOp hi hS1 ⟨λ_ h=>hS h,H⟩
 have h1:=H.2 j (ready_mono hj hji)
 obtain⟨hjun,oj,hoj,hall⟩:=mem_ready.1 hj
 have hnot:∀e∈oj.after,Region.binds md e=true->e.on≠i:=λe he hb heq=>by
  have h1:=hall e he hb
  have h0:=(mem_ready.1 hr).1
  rw [heq] at h1
  rcases Nat.lt_or_ge i listed.size with h'|h'
  ·simp [h'] at h0 h1;rw [h0] at h1;cases h1
  simp [Array.getElem?_eq_none h'] at h1
 have h2:=wpOp_putIf hoj (hfree j oj hoj hji hjun hnot) (λcs b=>hsel i oi cs b hi) (λcs b=>hsel j oj cs b hoj) hQ hy h1
 have hfree':∀k ok,ops[k]? =some ok->k≠i->(listed.setIfInBounds j true).getD k true=false->
   (∀e∈ok.after,Region.binds md e=true->e.on≠i)->oi.apart ops ok=true:=λk ok hk hki hun hno=>by
  refine hfree k ok hk hki ?_ hno
  by_cases hjk:j=k
  ·subst hjk;exact hjun
  rw [getD_set_ne true hjk] at hun;exact hun
 refine wpOp_mono (λa' w' h3=> ?_) h2
 have hjW:j ∉ Wt:=λhm=>zlb hc (mem_ready.1 hr).1 hl hm hj
 have hset:∀x,j≠x->(listed.setIfInBounds j true).getD x true=listed.getD x true:=λx hjx=>getD_set_ne true hjx
 have hl1:(listed.setIfInBounds i true).getD n0 true=listed.getD n0 true:=getD_set_ne true hin
 have hS':j≠n0->listed.getD n0 true=false->S w':=λhjn h=>h3.2.1 hjn (hl1.trans h)
 refine⟨hS',ih (listed.setIfInBounds j true) a' w' (λx hx=>(hset x (λe=>hjW (e ▸ hx))).trans (hl x hx)) hfree' (ready_mono hr (Ne.symm hji)) h3.1 (λh=> ?_) ?_⟩
 ·by_cases hjn:j=n0
  ·subst hjn
   rcases Nat.lt_or_ge j listed.size with h'|h'
   ·simp [h'] at h
   have:=(mem_ready.1 hj).1
   simp [Array.getElem?_eq_none h'] at this
  exact hS' hjn ((hset n0 hjn).symm.trans h)
 rw [Array.setIfInBounds_comm _ _ hji]
 exact h3.2.2
def zac (listed:Array Bool) (Wt:List Nat):Bool:=Wt.all (λx=>listed.getD x true==false)
theorem zfF {listed:Array Bool} {Wt:List Nat} (h:zac listed Wt=true):∀x∈Wt,listed.getD x true=false:=λx hx=>by
 unfold zac at h
 rw [List.all_eq_true] at h
 exact eq_of_beq (h x hx)
theorem zgm (Wt:List Nat) {i:Nat} {oi:Oper} {v:Value} {fuel:Nat} {listed:Array Bool} {a:Act} {w:World} (hi:ops[i]? =some oi)
  (hs:Region.noSelect ops=true) (hf:Region.free md ops listed i=true) (hr:(Region.ready md ops listed).contains i=true) (hin:i≠n0) (hl:zac listed Wt=true) (hc:zbF md ops Wt i=true) (hiW:Wt.contains i=false) (hnW:Wt.contains n0=true)
  (hQ:∀c a w,Q (.panic c) (a.put oi.dst v) w->Q (.panic c) a w) (hy:YieldsIf P ops S oi v a) (hS:S w)
  (h:yE P md ops Q S n0 fuel (listed.setIfInBounds i true) (a.put oi.dst v) w):yE P md ops Q S n0 (fuel+1) listed a w:=
 zbz Wt hi (Region.noSelect_spec hs) hQ hin hc (by simpa using hiW) (.inl ⟨by simpa using hnW,λ_ h=>h⟩) fuel listed a w (zfF hl) (Region.free_spec hi hf) (by simpa using hr) hy (λ_=>hS) h
theorem zgn {i:Nat} {oi:Oper} {v:Value} {fuel:Nat} {listed:Array Bool} {a:Act} {w:World} (hi:ops[i]? =some oi)
  (hs:Region.noSelect ops=true) (hf:Region.free md ops listed i=true) (hr:(Region.ready md ops listed).contains i=true) (hin:i≠n0)
  (hQ:∀c a w,Q (.panic c) (a.put oi.dst v) w->Q (.panic c) a w) (hy:YieldsIf P ops (λ_=>True) oi v a) (hS:listed.getD n0 true=false->S w)
  (h:yE P md ops Q S n0 fuel (listed.setIfInBounds i true) (a.put oi.dst v) w):yE P md ops Q S n0 (fuel+1) listed a w:=
 zbz [] hi (Region.noSelect_spec hs) hQ hin rfl (by simp) (.inr λ_=>trivial) fuel listed a w (by simp) (Region.free_spec hi hf) (by simpa using hr) hy hS h
def zb0 (P:Program) (md:Region.Mode) (ops:Array Oper) (Q:Exit->Act->World->Prop) (S:World->Prop) (n0 fuel:Nat) (listed:Array Bool) (a:Act) (w:World) (rs:List Nat):Prop:=
 ∀i∈rs,wpOp P ops Q i (λa' w'=>(i≠n0->listed.getD n0 true=false->S w')/\yE P md ops Q S n0 fuel (listed.setIfInBounds i true) a' w') a w
theorem zb0.nil {fuel:Nat} {listed:Array Bool} {a:Act} {w:World} :zb0 P md ops Q S n0 fuel listed a w [] :=λ_ h=>by cases h
theorem zb0.cons {fuel:Nat} {listed:Array Bool} {a:Act} {w:World} {i:Nat} {o:Oper} {rs:List Nat} (ho:ops[i]? =some o)
  (h:∀K':Act->World->Prop,Hid (∀a w,(i≠n0->listed.getD n0 true=false->S w)->yE P md ops Q S n0 fuel (listed.setIfInBounds i true) a w->K' a w)->if Region.wanted o (yielded ops a.tmps)=true then Oper.wp P o a w K' Q else K' (a.put o.dst undef) w)
  (hs:zb0 P md ops Q S n0 fuel listed a w rs):zb0 P md ops Q S n0 fuel listed a w (i::rs):=λj hj=>by
 rcases List.mem_cons.1 hj with rfl|hj
 ·exact wpOp_step ho (λK' hK=>h K' (λa w hS hW=>hK a w ⟨hS,hW⟩))
 exact hs j hj
theorem zfG {rs:List Nat} {fuel:Nat} {listed:Array Bool} {a:Act} {w:World} (hr:Region.ready md ops listed=rs) (hne:rs≠ [])
  (h:zb0 P md ops Q S n0 fuel listed a w rs):yE P md ops Q S n0 (fuel+1) listed a w:=⟨λh0=>absurd (hr ▸ h0) hne,hr ▸ h⟩
theorem xG {listed:Array Bool} {a:Act} {w:World} (hr:Region.ready md ops listed= []) (h:Q .normal a w):∀fuel,yE P md ops Q S n0 fuel listed a w
 |0=>⟨hr,h⟩
 |_+1=>⟨λ_=>h,by rw [hr];simp⟩
theorem yM {id:Nat} {a:Act} {w:World} (hm:P.follows .mixedOrders=true) (hS:S w.drew)
  (h:S w.drew->yE P .any ops Q S n0 ops.size (Array.replicate ops.size false) a w.drew):(Code.region id ops true).wp P Q a w:=
 wp_region_any hm (za5 _ _ _ _ (h hS))
end
theorem qtF {P:Program} {md:Region.Mode} {ops:Array Oper} {Q:Exit->Act->World->Prop} {S:World->Prop} {n0:Nat} (i d:Nat) (v:Value) {oi:Oper} {fuel:Nat} {listed:Array Bool} {a:Act} {w:World} (hi:ops[i]? =some oi) (hy:∀w,True->(execOp a.eval oi).run P w= .ok (.value v) w) (hS:listed.getD n0 true=false->S w)
 (h:yE P md ops Q S n0 fuel (listed.setIfInBounds i true) ⟨a.tmps.setIfInBounds d v,a.defers⟩ w) (hd:oi.dst=some d:=by rfl) (hw:Region.wanted oi (yielded ops a.tmps)=true:=by rfl) (hs:Region.noSelect ops=true:=by kernel_rfl) (hf:Region.free md ops listed i=true:=by kernel_rfl) (hr:(Region.ready md ops listed).contains i=true:=by kernel_rfl) (hin:i≠n0:=by decide)
 (hQ:∀c a w,Q (.panic c) (a.put oi.dst v) w->Q (.panic c) a w:=by exact λ_ _ _ h=>h):yE P md ops Q S n0 (fuel+1) listed a w:=
 zgn hi hs hf hr hin hQ (Or.inl ⟨hw,hy⟩) hS (by rw [hd];exact h)
theorem qtT {P:Program} {md:Region.Mode} {ops:Array Oper} {Q:Exit->Act->World->Prop} {S:World->Prop} {n0:Nat} (Wt:List Nat) (i d:Nat) (v:Value) {oi:Oper} {fuel:Nat} {listed:Array Bool} {a:Act} {w:World} (hi:ops[i]? =some oi) (hy:∀w,S w->(execOp a.eval oi).run P w= .ok (.value v) w) (hS:S w)
 (h:yE P md ops Q S n0 fuel (listed.setIfInBounds i true) ⟨a.tmps.setIfInBounds d v,a.defers⟩ w) (hd:oi.dst=some d:=by rfl) (hw:Region.wanted oi (yielded ops a.tmps)=true:=by rfl) (hs:Region.noSelect ops=true:=by kernel_rfl) (hf:Region.free md ops listed i=true:=by kernel_rfl) (hr:(Region.ready md ops listed).contains i=true:=by kernel_rfl) (hin:i≠n0:=by decide)
 (hl:zac listed Wt=true:=by kernel_rfl) (hc:zbF md ops Wt i=true:=by kernel_rfl) (hiW:Wt.contains i=false:=by rfl) (hnW:Wt.contains n0=true:=by rfl) (hQ:∀c a w,Q (.panic c) (a.put oi.dst v) w->Q (.panic c) a w:=by exact λ_ _ _ h=>h):yE P md ops Q S n0 (fuel+1) listed a w:=
 zgm Wt hi hs hf hr hin hl hc hiW hnW hQ (Or.inl ⟨hw,hy⟩) hS (by rw [hd];exact h)
theorem zT {P:Program} {md:Region.Mode} {ops:Array Oper} {Q:Exit->Act->World->Prop} {S:World->Prop} {n0:Nat} (i:Nat) {d:Nat} {v:Value} {oi:Oper} {fuel:Nat} {listed:Array Bool} {a a2:Act} {w:World} (hS:listed.getD n0 true=false->S w)
 (h:yE P md ops Q S n0 fuel (listed.setIfInBounds i true) a2 w) (hi:ops[i]? =some oi:=by rfl) (hy:∀w,True->(execOp a.eval oi).run P w= .ok (.value v) w:=by intro _ _;go_simp<;>rfl) (hd:oi.dst=some d:=by rfl) (hE:(⟨a.tmps.setIfInBounds d v,a.defers⟩:Act)=a2:=by simp only [Act.put,qz1,qz2,qz3];exact rfl) (hw:Region.wanted oi (yielded ops a.tmps)=true:=by rfl) (hs:Region.noSelect ops=true:=by kernel_rfl) (hf:Region.free md ops listed i=true:=by kernel_rfl) (hr:(Region.ready md ops listed).contains i=true:=by kernel_rfl) (hin:i≠n0:=by decide)
 (hQ:∀c a w,Q (.panic c) (a.put oi.dst v) w->Q (.panic c) a w:=by exact λ_ _ _ h=>h):yE P md ops Q S n0 (fuel+1) listed a w:=
 qtF i d v hi hy hS (by rw [hE];exact h) hd hw hs hf hr hin hQ
theorem jR {P:Program} {md:Region.Mode} {ops:Array Oper} {Q:Exit->Act->World->Prop} {S X:World->Prop} {n0:Nat} (Wt:List Nat) (i:Nat) (c:∀w,S w->X w) {d:Nat} {v:Value} {oi:Oper} {fuel:Nat} {listed:Array Bool} {a a2:Act} {w:World} (hS:S w)
 (h:yE P md ops Q S n0 fuel (listed.setIfInBounds i true) a2 w) (hi:ops[i]? =some oi:=by rfl) (hy:∀w,S w->X w->(execOp a.eval oi).run P w= .ok (.value v) w:=by intro _ _ _;go_simp<;>rfl) (hd:oi.dst=some d:=by rfl) (hE:(⟨a.tmps.setIfInBounds d v,a.defers⟩:Act)=a2:=by simp only [Act.put,qz1,qz2,qz3];exact rfl) (hw:Region.wanted oi (yielded ops a.tmps)=true:=by rfl) (hs:Region.noSelect ops=true:=by kernel_rfl) (hf:Region.free md ops listed i=true:=by kernel_rfl) (hr:(Region.ready md ops listed).contains i=true:=by kernel_rfl) (hin:i≠n0:=by decide)
 (hl:zac listed Wt=true:=by kernel_rfl) (hc:zbF md ops Wt i=true:=by kernel_rfl) (hiW:Wt.contains i=false:=by rfl) (hnW:Wt.contains n0=true:=by rfl) (hQ:∀c a w,Q (.panic c) (a.put oi.dst v) w->Q (.panic c) a w:=by exact λ_ _ _ h=>h):yE P md ops Q S n0 (fuel+1) listed a w:=
 qtT Wt i d v hi (λw s=>hy w s (c w s)) hS (by rw [hE];exact h) hd hw hs hf hr hin hl hc hiW hnW hQ
theorem wM {P:Program} {md:Region.Mode} {ops:Array Oper} {Q:Exit->Act->World->Prop} {S:World->Prop} {n0:Nat} (i:Nat) {fuel:Nat} {listed:Array Bool} {a:Act} {w:World} {o:Oper} (ho:ops[i]? =some o)
 (h:∀K':Act->World->Prop,Hid (∀a w,(i≠n0->listed.getD n0 true=false->S w)->yE P md ops Q S n0 fuel (listed.setIfInBounds i true) a w->K' a w)->if Region.wanted o (yielded ops a.tmps)=true then Oper.wp P o a w K' Q else K' (a.put o.dst undef) w) (hr:Region.ready md ops listed= [i] :=by kernel_rfl):yE P md ops Q S n0 (fuel+1) listed a w:=
 zfG hr (by simp) (zb0.cons ho h zb0.nil)
