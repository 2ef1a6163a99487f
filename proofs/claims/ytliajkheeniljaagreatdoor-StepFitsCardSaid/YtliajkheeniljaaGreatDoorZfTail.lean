/- A drawn region whose loads are stable up to its first store: a condition on the world that holds until that store comes. -/
import Derived.Deep.RegionHeld3
import Derived.Lib.Hide
import Derived.Test.YtliajkheeniljaaGreatDoorZfBase
import Derived.Test.YtliajkheeniljaaGreatDoorZfShort
set_option linter.all false
namespace Go.Proofs.YtliajkheeniljaaGreatDoor
open Go.RowKit
set_option maxRecDepth 100000
set_option maxHeartbeats 16000000
section
variable {P : Program} {ops : Array Oper} {Q : Exit → Act → World → Prop} {md : Region.Mode} {S : World → Prop} {n0 : Nat}
def wpAnyT (P : Program) (md : Region.Mode) (ops : Array Oper) (Q : Exit → Act → World → Prop) (S : World → Prop) (n0 : Nat) : Nat → Array Bool → Act → World → Prop
 | 0, listed, a, w => Region.ready md ops listed = [] ∧ Q .normal a w
 | fuel + 1, listed, a, w =>
  (Region.ready md ops listed = [] → Q .normal a w) ∧
  ∀ i ∈ Region.ready md ops listed, wpOp P ops Q i (fun a' w' => (i ≠ n0 → listed.getD n0 true = false → S w') ∧ wpAnyT P md ops Q S n0 fuel (listed.setIfInBounds i true) a' w') a w
theorem wpAny_of_tail : ∀ (fuel : Nat) (listed : Array Bool) (a : Act) (w : World), wpAnyT P md ops Q S n0 fuel listed a w → wpAny P md ops Q fuel listed a w
 | 0, _, _, _, h => h
 | fuel + 1, _, _, _, h => ⟨h.1, fun i hi => wpOp_mono (fun a' w' h' => wpAny_of_tail fuel _ a' w' h'.2) (h.2 i hi)⟩
def waitsB (md : Region.Mode) (ops : Array Oper) (n0 i : Nat) : Bool := match ops[n0]? with | some o => o.after.any (fun e => Region.binds md e && e.on == i) | none => false
theorem waits_out {listed : Array Bool} {i : Nat} (hw : waitsB md ops n0 i = true) (hi : listed.getD i true = false) : n0 ∉ Region.ready md ops listed := by
 intro hr
 obtain ⟨-, o, ho, hall⟩ := mem_ready.1 hr
 unfold waitsB at hw
 rw [ho] at hw
 simp only [] at hw
 rw [Array.any_eq_true] at hw
 obtain ⟨k, hk, he⟩ := hw
 simp only [Bool.and_eq_true, beq_iff_eq] at he
 have h2 := hall _ (Array.getElem_mem hk) he.1
 rw [he.2] at h2
 rcases Nat.lt_or_ge i listed.size with h' | h'
 ·simp [h'] at hi h2; rw [hi] at h2; cases h2
 ·simp [Array.getElem?_eq_none h'] at h2
def closB (md : Region.Mode) (ops : Array Oper) (Wt : List Nat) (i : Nat) : Bool := Wt.all (fun x => waitsB md ops x i || Wt.any (fun y => waitsB md ops x y))
theorem clos_out {Wt : List Nat} {i : Nat} {listed : Array Bool} (hc : closB md ops Wt i = true) (hi : listed.getD i true = false) (hl : ∀ x ∈ Wt, listed.getD x true = false) {x : Nat} (hx : x ∈ Wt) : x ∉ Region.ready md ops listed := by
 unfold closB at hc
 rw [List.all_eq_true] at hc
 have h := hc x hx
 rw [Bool.or_eq_true, List.any_eq_true] at h
 rcases h with h | ⟨y, hy, h⟩
 ·exact waits_out h hi
 ·exact waits_out h (hl y hy)
theorem wpAnyT_first {S1 : World → Prop} {i : Nat} {oi : Oper} {v : Value} (Wt : List Nat) (hi : ops[i]? = some oi) (hsel : ∀ (j : Nat) (o : Oper) cs b, ops[j]? = some o → o.op ≠ .select cs b)
  (hQ : ∀ c a w, Q (.panic c) (a.put oi.dst v) w → Q (.panic c) a w) (hin : i ≠ n0) (hc : closB md ops Wt i = true) (hiW : i ∉ Wt) (hn : (n0 ∈ Wt ∧ ∀ w, S w → S1 w) ∨ ∀ w, S1 w) :
  ∀ (fuel : Nat) (listed : Array Bool) (a : Act) (w : World), (∀ x ∈ Wt, listed.getD x true = false) →
   (∀ j oj, ops[j]? = some oj → j ≠ i → listed.getD j true = false → (∀ e ∈ oj.after, Region.binds md e = true → e.on ≠ i) → oi.apart ops oj = true) →
   i ∈ Region.ready md ops listed → YieldsIf P ops S1 oi v a → (listed.getD n0 true = false → S w) →
   wpAnyT P md ops Q S n0 fuel (listed.setIfInBounds i true) (a.put oi.dst v) w → wpAnyT P md ops Q S n0 (fuel + 1) listed a w := by
 intro fuel
 induction fuel with
 | zero =>
  intro listed a w hl _ hr hy hS H
  have hS1 : S1 w := hn.elim (fun h => h.2 w (hS (hl n0 h.1))) (fun h => h w)
  refine ⟨fun h => (by rw [h] at hr; cases hr), fun j hj => ?_⟩
  by_cases hji : j = i
  ·subst hji; exact hy.wpOp hi hS1 ⟨fun _ h => hS h, H⟩
  ·have := ready_mono hj hji
   rw [H.1] at this
   cases this
 | succ fuel ih =>
  intro listed a w hl hfree hr hy hS H
  have hS1 : S1 w := hn.elim (fun h => h.2 w (hS (hl n0 h.1))) (fun h => h w)
  refine ⟨fun h => (by rw [h] at hr; cases hr), fun j hj => ?_⟩
  by_cases hji : j = i
  ·subst hji; exact hy.wpOp hi hS1 ⟨fun _ h => hS h, H⟩
  have h1 := H.2 j (ready_mono hj hji)
  obtain ⟨hjun, oj, hoj, hall⟩ := mem_ready.1 hj
  have hnot : ∀ e ∈ oj.after, Region.binds md e = true → e.on ≠ i := fun e he hb heq => by
   have h1 := hall e he hb
   have h0 := (mem_ready.1 hr).1
   rw [heq] at h1
   rcases Nat.lt_or_ge i listed.size with h' | h'
   ·simp [h'] at h0 h1; rw [h0] at h1; cases h1
   ·simp [Array.getElem?_eq_none h'] at h1
  have h2 := wpOp_putIf hoj (hfree j oj hoj hji hjun hnot) (fun cs b => hsel i oi cs b hi) (fun cs b => hsel j oj cs b hoj) hQ hy h1
  have hfree' : ∀ k ok, ops[k]? = some ok → k ≠ i → (listed.setIfInBounds j true).getD k true = false →
    (∀ e ∈ ok.after, Region.binds md e = true → e.on ≠ i) → oi.apart ops ok = true := fun k ok hk hki hun hno => by
   refine hfree k ok hk hki ?_ hno
   by_cases hjk : j = k
   ·subst hjk; exact hjun
   ·rw [getD_set_ne true hjk] at hun; exact hun
  refine wpOp_mono (fun a' w' h3 => ?_) h2
  have hjW : j ∉ Wt := fun hm => clos_out hc (mem_ready.1 hr).1 hl hm hj
  have hset : ∀ x, j ≠ x → (listed.setIfInBounds j true).getD x true = listed.getD x true := fun x hjx => getD_set_ne true hjx
  have hl1 : (listed.setIfInBounds i true).getD n0 true = listed.getD n0 true := getD_set_ne true hin
  have hS' : j ≠ n0 → listed.getD n0 true = false → S w' := fun hjn h => h3.2.1 hjn (hl1.trans h)
  refine ⟨hS', ih (listed.setIfInBounds j true) a' w' (fun x hx => (hset x (fun e => hjW (e ▸ hx))).trans (hl x hx)) hfree' (ready_mono hr (Ne.symm hji)) h3.1 (fun h => ?_) ?_⟩
  ·by_cases hjn : j = n0
   ·subst hjn
    rcases Nat.lt_or_ge j listed.size with h' | h'
    ·simp [h'] at h
    ·have := (mem_ready.1 hj).1
     simp [Array.getElem?_eq_none h'] at this
   ·exact hS' hjn ((hset n0 hjn).symm.trans h)
  ·rw [Array.setIfInBounds_comm _ _ hji]
   exact h3.2.2
def allFree (listed : Array Bool) (Wt : List Nat) : Bool := Wt.all (fun x => listed.getD x true == false)
theorem allFree_spec {listed : Array Bool} {Wt : List Nat} (h : allFree listed Wt = true) : ∀ x ∈ Wt, listed.getD x true = false := fun x hx => by
 unfold allFree at h
 rw [List.all_eq_true] at h
 exact eq_of_beq (h x hx)
theorem wpAnyT_take (Wt : List Nat) {i : Nat} {oi : Oper} {v : Value} {fuel : Nat} {listed : Array Bool} {a : Act} {w : World} (hi : ops[i]? = some oi)
  (hs : Region.noSelect ops = true) (hf : Region.free md ops listed i = true) (hr : (Region.ready md ops listed).contains i = true) (hin : i ≠ n0) (hl : allFree listed Wt = true) (hc : closB md ops Wt i = true) (hiW : Wt.contains i = false) (hnW : Wt.contains n0 = true)
  (hQ : ∀ c a w, Q (.panic c) (a.put oi.dst v) w → Q (.panic c) a w) (hy : YieldsIf P ops S oi v a) (hS : S w)
  (h : wpAnyT P md ops Q S n0 fuel (listed.setIfInBounds i true) (a.put oi.dst v) w) : wpAnyT P md ops Q S n0 (fuel + 1) listed a w :=
 wpAnyT_first Wt hi (Region.noSelect_spec hs) hQ hin hc (by simpa using hiW) (.inl ⟨by simpa using hnW, fun _ h => h⟩) fuel listed a w (allFree_spec hl) (Region.free_spec hi hf) (by simpa using hr) hy (fun _ => hS) h
theorem wpAnyT_free {i : Nat} {oi : Oper} {v : Value} {fuel : Nat} {listed : Array Bool} {a : Act} {w : World} (hi : ops[i]? = some oi)
  (hs : Region.noSelect ops = true) (hf : Region.free md ops listed i = true) (hr : (Region.ready md ops listed).contains i = true) (hin : i ≠ n0)
  (hQ : ∀ c a w, Q (.panic c) (a.put oi.dst v) w → Q (.panic c) a w) (hy : YieldsIf P ops (fun _ => True) oi v a) (hS : listed.getD n0 true = false → S w)
  (h : wpAnyT P md ops Q S n0 fuel (listed.setIfInBounds i true) (a.put oi.dst v) w) : wpAnyT P md ops Q S n0 (fuel + 1) listed a w :=
 wpAnyT_first [] hi (Region.noSelect_spec hs) hQ hin rfl (by simp) (.inr fun _ => trivial) fuel listed a w (by simp) (Region.free_spec hi hf) (by simpa using hr) hy hS h
def AllT (P : Program) (md : Region.Mode) (ops : Array Oper) (Q : Exit → Act → World → Prop) (S : World → Prop) (n0 fuel : Nat) (listed : Array Bool) (a : Act) (w : World) (rs : List Nat) : Prop :=
 ∀ i ∈ rs, wpOp P ops Q i (fun a' w' => (i ≠ n0 → listed.getD n0 true = false → S w') ∧ wpAnyT P md ops Q S n0 fuel (listed.setIfInBounds i true) a' w') a w
theorem AllT.nil {fuel : Nat} {listed : Array Bool} {a : Act} {w : World} : AllT P md ops Q S n0 fuel listed a w [] := fun _ h => by cases h
theorem AllT.cons {fuel : Nat} {listed : Array Bool} {a : Act} {w : World} {i : Nat} {o : Oper} {rs : List Nat} (ho : ops[i]? = some o)
  (h : ∀ K' : Act → World → Prop, Hid (∀ a w, (i ≠ n0 → listed.getD n0 true = false → S w) → wpAnyT P md ops Q S n0 fuel (listed.setIfInBounds i true) a w → K' a w) → if Region.wanted o (yielded ops a.tmps) = true then Oper.wp P o a w K' Q else K' (a.put o.dst undef) w)
  (hs : AllT P md ops Q S n0 fuel listed a w rs) : AllT P md ops Q S n0 fuel listed a w (i :: rs) := fun j hj => by
 rcases List.mem_cons.1 hj with rfl | hj
 ·exact wpOp_step ho (fun K' hK => h K' (fun a w hS hW => hK a w ⟨hS, hW⟩))
 ·exact hs j hj
theorem wpAnyT_ready {rs : List Nat} {fuel : Nat} {listed : Array Bool} {a : Act} {w : World} (hr : Region.ready md ops listed = rs) (hne : rs ≠ [])
  (h : AllT P md ops Q S n0 fuel listed a w rs) : wpAnyT P md ops Q S n0 (fuel + 1) listed a w := ⟨fun h0 => absurd (hr ▸ h0) hne, hr ▸ h⟩
theorem wpAnyT_done {listed : Array Bool} {a : Act} {w : World} (hr : Region.ready md ops listed = []) (h : Q .normal a w) : ∀ fuel, wpAnyT P md ops Q S n0 fuel listed a w
 | 0 => ⟨hr, h⟩
 | _ + 1 => ⟨fun _ => h, by rw [hr]; simp⟩
theorem wp_region_tail {id : Nat} {a : Act} {w : World} (hm : P.follows .mixedOrders = true) (hS : S w.drew)
  (h : S w.drew → wpAnyT P .any ops Q S n0 ops.size (Array.replicate ops.size false) a w.drew) : (Code.region id ops true).wp P Q a w :=
 wp_region_any hm (wpAny_of_tail _ _ _ _ (h hS))
end
theorem qtF {P : Program} {md : Region.Mode} {ops : Array Oper} {Q : Exit → Act → World → Prop} {S : World → Prop} {n0 : Nat} (i d : Nat) (v : Value) {oi : Oper} {fuel : Nat} {listed : Array Bool} {a : Act} {w : World} (hi : ops[i]? = some oi) (hy : ∀ w, True → (execOp a.eval oi).run P w = .ok (.value v) w) (hS : listed.getD n0 true = false → S w)
 (h : wpAnyT P md ops Q S n0 fuel (listed.setIfInBounds i true) ⟨a.tmps.setIfInBounds d v, a.defers⟩ w) (hd : oi.dst = some d := by rfl) (hw : Region.wanted oi (yielded ops a.tmps) = true := by rfl) (hs : Region.noSelect ops = true := by kernel_rfl) (hf : Region.free md ops listed i = true := by kernel_rfl) (hr : (Region.ready md ops listed).contains i = true := by kernel_rfl) (hin : i ≠ n0 := by decide)
 (hQ : ∀ c a w, Q (.panic c) (a.put oi.dst v) w → Q (.panic c) a w := by exact fun _ _ _ h => h) : wpAnyT P md ops Q S n0 (fuel + 1) listed a w :=
 wpAnyT_free hi hs hf hr hin hQ (Or.inl ⟨hw, hy⟩) hS (by rw [hd]; exact h)
theorem qtT {P : Program} {md : Region.Mode} {ops : Array Oper} {Q : Exit → Act → World → Prop} {S : World → Prop} {n0 : Nat} (Wt : List Nat) (i d : Nat) (v : Value) {oi : Oper} {fuel : Nat} {listed : Array Bool} {a : Act} {w : World} (hi : ops[i]? = some oi) (hy : ∀ w, S w → (execOp a.eval oi).run P w = .ok (.value v) w) (hS : S w)
 (h : wpAnyT P md ops Q S n0 fuel (listed.setIfInBounds i true) ⟨a.tmps.setIfInBounds d v, a.defers⟩ w) (hd : oi.dst = some d := by rfl) (hw : Region.wanted oi (yielded ops a.tmps) = true := by rfl) (hs : Region.noSelect ops = true := by kernel_rfl) (hf : Region.free md ops listed i = true := by kernel_rfl) (hr : (Region.ready md ops listed).contains i = true := by kernel_rfl) (hin : i ≠ n0 := by decide)
 (hl : allFree listed Wt = true := by kernel_rfl) (hc : closB md ops Wt i = true := by kernel_rfl) (hiW : Wt.contains i = false := by rfl) (hnW : Wt.contains n0 = true := by rfl) (hQ : ∀ c a w, Q (.panic c) (a.put oi.dst v) w → Q (.panic c) a w := by exact fun _ _ _ h => h) : wpAnyT P md ops Q S n0 (fuel + 1) listed a w :=
 wpAnyT_take Wt hi hs hf hr hin hl hc hiW hnW hQ (Or.inl ⟨hw, hy⟩) hS (by rw [hd]; exact h)
theorem qrT {P : Program} {md : Region.Mode} {ops : Array Oper} {Q : Exit → Act → World → Prop} {S : World → Prop} {n0 : Nat} (i : Nat) {fuel : Nat} {listed : Array Bool} {a : Act} {w : World} {o : Oper} (ho : ops[i]? = some o)
 (h : ∀ K' : Act → World → Prop, Hid (∀ a w, (i ≠ n0 → listed.getD n0 true = false → S w) → wpAnyT P md ops Q S n0 fuel (listed.setIfInBounds i true) a w → K' a w) → if Region.wanted o (yielded ops a.tmps) = true then Oper.wp P o a w K' Q else K' (a.put o.dst undef) w) (hr : Region.ready md ops listed = [i] := by kernel_rfl) : wpAnyT P md ops Q S n0 (fuel + 1) listed a w :=
 wpAnyT_ready hr (by simp) (AllT.cons ho h AllT.nil)
end Go.Proofs.YtliajkheeniljaaGreatDoor
