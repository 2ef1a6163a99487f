/- Blocks of a call's own that are known whole, whichever order they came in. A flush: what is so of it, as plain Lean. What is there in the end: the document's answer, as plain Lean; finals that are sorted, each once, are those that are put in one by one. -/
import Derived.Test.YtnlkbboghcdpnaaStepQ
import Derived.Test.YtnlkbboghcdpnaaHeads
namespace Go.Proofs.Ytnlkbboghcdpnaa
open Go.RowKit

/-- Nothing that was there has turned; blocks of its own hold this. -/
structure Loc (V X : World) (bs : List (Nat × TypeId × List Value)) : Prop where
  below : Below V.heap.size V X
  news : ∀ p ∈ bs, X.heap[p.1]? = some (.cells p.2.2.toArray p.2.1 (0, 0)) ∧ V.heap.size ≤ p.1
  apart : (bs.map (·.1)).Nodup
/-- What a block holds is told anew. -/
def upd (g : Nat) (l : List Value) (bs : List (Nat × TypeId × List Value)) : List (Nat × TypeId × List Value) := bs.map fun p => if p.1 = g then (p.1, p.2.1, l) else p
section
variable {V X : World} {bs : List (Nat × TypeId × List Value)}
theorem Loc.start (V : World) : Loc V V [] := ⟨Below.refl _ _, by simp, by simp⟩
theorem Loc.drew (h : Loc V X bs) : Loc V X.drew bs := ⟨h.below.drew, h.news, h.apart⟩
theorem Loc.drewN (h : Loc V X bs) (n : Nat) : Loc V (X.drewN n) bs := ⟨drewN_below h.below n, h.news, h.apart⟩
theorem Loc.later (h : Loc V X bs) {X' : World} (hb : Below X.heap.size X X') : Loc V X' bs := ⟨below_then h.below hb, fun p hp => ⟨(hb.block _ (lt_of_block (h.news p hp).1)).trans (h.news p hp).1, (h.news p hp).2⟩, h.apart⟩
theorem Loc.alloc (h : Loc V X bs) (t : TypeId) (cs : List Value) : Loc V (X.alloc (.cells cs.toArray t)) ((X.heap.size, t, cs) :: bs) := by
  refine ⟨h.below.alloc h.below.size _, ?_, ?_⟩
  · intro p hp
    rcases List.mem_cons.1 hp with rfl | hp
    · exact ⟨heap_alloc_new X _, h.below.size⟩
    · exact ⟨(Below.heap_alloc _ _ _ (lt_of_block (h.news p hp).1)).trans (h.news p hp).1, (h.news p hp).2⟩
  · simp only [List.map_cons, List.nodup_cons]
    refine ⟨?_, h.apart⟩
    intro hm
    obtain ⟨p, hp, e⟩ := List.mem_map.1 hm
    have := lt_of_block (h.news p hp).1
    omega
theorem Loc.store (h : Loc V X bs) {g : Nat} {t : TypeId} {cs : List Value} (hg : (g, t, cs) ∈ bs) (l : List Value) (hl : cs.length = l.length) : Loc V (setAll X g 0 l) (upd g l bs) := by
  have hS := setAll_since (g := g) l X 0
  refine ⟨h.below.trans (hS.below h.below.size (fun k e => by rw [e]; exact (h.news _ hg).2)), ?_, ?_⟩
  · intro p hp
    obtain ⟨q, hq, rfl⟩ := List.mem_map.1 hp
    by_cases e : q.1 = g
    · simp only [if_pos e]
      have hqe : q = (g, t, cs) := by
        have h1 := h.news q hq
        have h2 := h.news _ hg
        rw [e] at h1
        obtain ⟨a, b, c⟩ := q
        simp only [] at e h1 h2
        subst e
        have h3 := h1.1.symm.trans h2.1
        simp only [Option.some.injEq, Obj.cells.injEq] at h3
        obtain ⟨h4, h5, -⟩ := h3
        have h6 : c = cs := by simpa using h4
        rw [h5, h6]
      subst hqe
      exact ⟨setAll_new l hl (h.news _ hg).1, (h.news _ hg).2⟩
    · rw [if_neg e]
      exact ⟨(hS.block _ (lt_of_block (h.news q hq).1) e).trans (h.news q hq).1, (h.news q hq).2⟩
  · have : (upd g l bs).map (·.1) = bs.map (·.1) := by
      unfold upd
      rw [List.map_map]
      refine List.map_congr_left (fun p _ => ?_)
      simp only [Function.comp]
      split <;> rfl
    rw [this]; exact h.apart
theorem upd_mem {g : Nat} {t : TypeId} {cs l : List Value} (h : (g, t, cs) ∈ bs) : (g, t, l) ∈ upd g l bs := List.mem_map.2 ⟨_, h, by simp⟩
theorem mem_upd {g : Nat} {l : List Value} {p : Nat × TypeId × List Value} (h : p ∈ bs) (hne : p.1 ≠ g) : p ∈ upd g l bs := List.mem_map.2 ⟨p, h, by simp [hne]⟩
theorem Loc.ne_new (h : Loc V X bs) {p : Nat × TypeId × List Value} (hp : p ∈ bs) : p.1 ≠ X.heap.size := Nat.ne_of_lt (lt_of_block (h.news p hp).1)
end
end Go.Proofs.Ytnlkbboghcdpnaa
namespace Go.Proofs.Ytnlkbboghcdpnaa
open Go.RowKit

theorem insV_mem {x v : Int} {l : List Int} (h : v ∈ insV x l) : v = x ∨ v ∈ l := by
  induction l with
  | nil => simp only [insV, List.mem_singleton] at h; exact .inl h
  | cons y l ih =>
    unfold insV at h
    split at h
    · rcases List.mem_cons.1 h with rfl | h
      · exact .inl rfl
      · exact .inr h
    · rcases List.mem_cons.1 h with rfl | h
      · exact .inr (List.mem_cons_self ..)
      · exact (ih h).imp id (fun h => List.mem_cons_of_mem _ h)
theorem headsTo_mem {l : List EntryD} {v : Int} {i : Nat} (h : v ∈ headsTo l i) : ∃ j, j < i ∧ (l.getD j default).var = v := by
  induction i with
  | zero => simp [headsTo] at h
  | succ i ih =>
    unfold headsTo at h
    split at h
    · rcases insV_mem h with rfl | h
      · exact ⟨i, by omega, rfl⟩
      · obtain ⟨j, hj, e⟩ := ih h; exact ⟨j, by omega, e⟩
    · obtain ⟨j, hj, e⟩ := ih h; exact ⟨j, by omega, e⟩
theorem heads_mem {l : List EntryD} {v model : Int} (h : v ∈ headsB l model) : ∃ j, j < l.length ∧ (l.getD j default).var = v := by
  unfold headsB at h
  split at h
  · exact headsTo_mem h
  · split at h
    · cases l with
      | nil => cases h
      | cons x r =>
        simp only [List.mem_singleton] at h
        exact ⟨0, by simp, by rw [h]; rfl⟩
    · cases h
theorem take_found {l : List EntryD} {v : Int} {i : Nat} (h : ∃ j, j < i ∧ (l.getD j default).var = v) : ∃ n, (takeTo l v i).1 = some ⟨v, n⟩ := by
  induction i with
  | zero => obtain ⟨j, hj, -⟩ := h; omega
  | succ i ih =>
    unfold takeTo
    by_cases hs : (takeTo l v i).1.isNone
    · by_cases hv : (l.getD i default).var = v
      · rw [if_pos (by simp only [hs, Bool.true_and]; exact decide_eq_true hv)]
        exact ⟨(l.getD i default).n, by rw [← hv]⟩
      · obtain ⟨j, hj, e⟩ := h
        have hj2 : j < i := by
          rcases Nat.lt_or_ge j i with h1 | h1
          · exact h1
          · obtain rfl : j = i := by omega
            exact absurd e hv
        obtain ⟨n, hn⟩ := ih ⟨j, hj2, e⟩
        rw [hn] at hs; cases hs
    · rw [if_neg (by simp only [Bool.and_eq_true]; exact fun h => hs h.1)]
      have : ∃ y, (takeTo l v i).1 = some y := by
        cases h3 : (takeTo l v i).1 with
        | none => rw [h3] at hs; exact absurd rfl hs
        | some y => exact ⟨y, rfl⟩
      obtain ⟨y, hy⟩ := this
      have hyv : ∀ k y, (takeTo l v k).1 = some y → y.var = v := by
        intro k
        induction k with
        | zero => intro y h; cases h
        | succ k ihk =>
          intro y h
          unfold takeTo at h
          split at h
          · rename_i h4
            simp only [Bool.and_eq_true, decide_eq_true_eq] at h4
            cases h
            exact h4.2
          · exact ihk y h
      have hv := hyv i y hy
      exact ⟨y.n, by rw [hy, ← hv]⟩
/-- A variable whose oldest store may come is there. -/
theorem fits_heads {c : CodeD} {m : MachD} {s : StateD} (h : fitsOk c m s = true) {i : Nat} (hi : i < s.threads.length) {v : Int} (hv : v ∈ headsB (s.threads.getD i default).buf m.model) :
    0 ≤ v ∧ v < c.vars ∧ ∃ n, takeB (s.threads.getD i default).buf v = (some ⟨v, n⟩, (takeB (s.threads.getD i default).buf v).2) := by
  obtain ⟨j, hj, e⟩ := heads_mem hv
  unfold fitsOk at h
  simp only [Bool.and_eq_true] at h
  have h5 := h.2
  rw [List.all_eq_true] at h5
  have h6 := h5 i (List.mem_range.2 hi)
  unfold threadOk at h6
  simp only [Bool.and_eq_true] at h6
  have h7 := h6.2
  rw [List.all_eq_true] at h7
  have h8 := h7 j (List.mem_range.2 hj)
  unfold waitOk at h8
  simp only [Bool.and_eq_true, decide_eq_true_eq] at h8
  rw [e] at h8
  obtain ⟨n, hn⟩ := take_found (l := (s.threads.getD i default).buf) ⟨j, hj, e⟩
  exact ⟨h8.1.1.1.2, h8.1.1.2, n, Prod.ext hn rfl⟩
end Go.Proofs.Ytnlkbboghcdpnaa
namespace Go.Proofs.Ytnlkbboghcdpnaa
open Go.RowKit

/-- What is there when all have ended. -/
structure FinalD where
  mem : List Int
  regs : List (List Int)
  deriving DecidableEq
instance : Inhabited FinalD := ⟨⟨[], []⟩⟩
def flatD (f : FinalD) : List Int := f.mem ++ f.regs.flatten
/-- slices.Compare. -/
def cmpI : List Int → List Int → Int
  | [], [] => 0
  | [], _ :: _ => -1
  | _ :: _, [] => 1
  | a :: l, b :: r => if a < b then -1 else if b < a then 1 else cmpI l r
theorem cmpI_self (l : List Int) : cmpI l l = 0 := by
  induction l with
  | nil => rfl
  | cons a l ih => simp [cmpI, ih]
theorem cmpI_three (l r : List Int) : cmpI l r = -1 ∨ cmpI l r = 0 ∨ cmpI l r = 1 := by
  induction l generalizing r with
  | nil => cases r <;> simp [cmpI]
  | cons a l ih =>
    cases r with
    | nil => simp [cmpI]
    | cons b r =>
      unfold cmpI
      split
      · simp
      · split
        · simp
        · exact ih r
theorem cmpI_eq {l r : List Int} (h : cmpI l r = 0) : l = r := by
  induction l generalizing r with
  | nil => cases r <;> simp [cmpI] at h ⊢
  | cons a l ih =>
    cases r with
    | nil => simp [cmpI] at h
    | cons b r =>
      unfold cmpI at h
      split at h
      · cases h
      · split at h
        · cases h
        · rw [ih h, show a = b by omega]
theorem cmpI_swap (l r : List Int) : cmpI r l = - cmpI l r := by
  induction l generalizing r with
  | nil => cases r <;> rfl
  | cons a l ih =>
    cases r with
    | nil => rfl
    | cons b r =>
      unfold cmpI
      by_cases h1 : a < b
      · rw [if_pos h1, if_neg (by omega), if_pos h1]; rfl
      · by_cases h2 : b < a
        · rw [if_pos h2, if_neg h1, if_pos h2]
        · rw [if_neg h2, if_neg h1, if_neg h1, if_neg h2]; exact ih r
theorem cmpI_trans {l r s : List Int} (h1 : cmpI l r < 0) (h2 : cmpI r s < 0) : cmpI l s < 0 := by
  induction l generalizing r s with
  | nil =>
    cases r with
    | nil => simp [cmpI] at h1
    | cons b r =>
      cases s with
      | nil => simp [cmpI] at h2
      | cons c s => simp [cmpI]
  | cons a l ih =>
    cases r with
    | nil => simp [cmpI] at h1
    | cons b r =>
      cases s with
      | nil => simp [cmpI] at h2
      | cons c s =>
        unfold cmpI at h1 h2 ⊢
        by_cases e1 : a < b
        · by_cases e2 : b < c
          · rw [if_pos (by omega)]; decide
          · rw [if_neg e2] at h2
            by_cases e3 : c < b
            · rw [if_pos e3] at h2; omega
            · rw [if_pos (by omega)]; decide
        · rw [if_neg e1] at h1
          by_cases e4 : b < a
          · rw [if_pos e4] at h1; omega
          · rw [if_neg e4] at h1
            by_cases e2 : b < c
            · rw [if_pos (by omega)]; decide
            · rw [if_neg e2] at h2
              by_cases e3 : c < b
              · rw [if_pos e3] at h2; omega
              · rw [if_neg e3] at h2
                rw [if_neg (by omega), if_neg (by omega)]
                exact ih h1 h2
def clearS (s : StateD) : Bool := s.threads.all fun t => decide (t.buf.length = 0)
def endedS (c : CodeD) (s : StateD) : Bool := decide (s.threads.length = c.threads.length) && (List.range s.threads.length).all (fun i => decide ((s.threads.getD i default).pc = ((c.threads.getD i []).length : Int))) && clearS s
def ofS (s : StateD) : FinalD := ⟨s.mem, s.threads.map (·.regs)⟩
/-- Does one stand ahead of another one? -/
def belowD (a b : FinalD) : Bool := decide (cmpI (flatD a) (flatD b) < 0)
def sameOneD (a b : FinalD) : Bool := decide (a.mem.length = b.mem.length) && !belowD a b && !belowD b a
def addF : List FinalD → FinalD → List FinalD
  | [], f => [f]
  | x :: l, f => if sameOneD x f then x :: l else if belowD f x then f :: x :: l else x :: addF l f
/-- The finals. -/
def finalsTo (c : CodeD) (l : List StateD) (i : Nat) : List FinalD := (l.take i).foldl (fun out s => if endedS c s then addF out (ofS s) else out) []
def finalsS (c : CodeD) (l : List StateD) : List FinalD := finalsTo c l l.length
/-- Those that have ended. -/
def endsS (c : CodeD) (l : List StateD) : List FinalD := (l.filter (endedS c)).map ofS
/-- They rise. -/
def Rises (l : List FinalD) : Prop := l.Pairwise (fun a b => cmpI (flatD a) (flatD b) < 0)
theorem belowD_iff {a b : FinalD} : belowD a b = true ↔ cmpI (flatD a) (flatD b) < 0 := by unfold belowD; simp
theorem sameOne_of {M : Nat} {a b : FinalD} (ha : a.mem.length = M) (hb : b.mem.length = M) : sameOneD a b = true ↔ flatD a = flatD b := by
  unfold sameOneD belowD
  rw [ha, hb]
  constructor
  · intro h
    simp only [decide_true, Bool.true_and, Bool.and_eq_true, Bool.not_eq_true', decide_eq_false_iff_not] at h
    obtain ⟨h1, h2⟩ := h
    rw [cmpI_swap (flatD a) (flatD b)] at h2
    exact cmpI_eq (by omega)
  · intro h
    rw [h, cmpI_self]; simp
theorem sameOne_self (a : FinalD) : sameOneD a a = true := by unfold sameOneD belowD; rw [cmpI_self]; simp
theorem addF_mem {l : List FinalD} {f x : FinalD} (h : x ∈ addF l f) : x = f ∨ x ∈ l := by
  induction l with
  | nil => simp only [addF, List.mem_singleton] at h; exact .inl h
  | cons y l ih =>
    unfold addF at h
    split at h
    · exact .inr h
    · split at h
      · rcases List.mem_cons.1 h with h | h
        · exact .inl h
        · exact .inr h
      · rcases List.mem_cons.1 h with h | h
        · exact .inr (h ▸ List.mem_cons_self ..)
        · exact (ih h).imp id (List.mem_cons_of_mem _)
theorem addF_has {M : Nat} {l : List FinalD} {f x : FinalD} (hf : f.mem.length = M) (hl : ∀ y ∈ l, y.mem.length = M) (hx : x = f ∨ x ∈ l) : ∃ y ∈ addF l f, flatD y = flatD x := by
  induction l with
  | nil =>
    rcases hx with rfl | hx
    · exact ⟨x, by simp [addF], rfl⟩
    · cases hx
  | cons y l ih =>
    have ih := fun h => ih (fun z hz => hl z (List.mem_cons_of_mem _ hz)) h
    unfold addF
    split
    · rename_i hs
      rcases hx with rfl | hx
      · exact ⟨y, List.mem_cons_self .., (sameOne_of (hl y (List.mem_cons_self ..)) hf).1 hs⟩
      · exact ⟨x, hx, rfl⟩
    · split
      · rcases hx with rfl | hx
        · exact ⟨x, List.mem_cons_self .., rfl⟩
        · exact ⟨x, List.mem_cons_of_mem _ hx, rfl⟩
      · rcases hx with rfl | hx
        · obtain ⟨z, hz, e⟩ := ih (.inl rfl); exact ⟨z, List.mem_cons_of_mem _ hz, e⟩
        · rcases List.mem_cons.1 hx with rfl | hx
          · exact ⟨x, List.mem_cons_self .., rfl⟩
          · obtain ⟨z, hz, e⟩ := ih (.inr hx); exact ⟨z, List.mem_cons_of_mem _ hz, e⟩
theorem addF_rises {M : Nat} {l : List FinalD} {f : FinalD} (hf : f.mem.length = M) (hl : ∀ y ∈ l, y.mem.length = M) (h : Rises l) : Rises (addF l f) := by
  induction l with
  | nil => simp [addF, Rises]
  | cons y l ih =>
    obtain ⟨h1, h2⟩ := List.pairwise_cons.1 h
    have hy := hl y (List.mem_cons_self ..)
    unfold addF
    split
    · exact h
    · rename_i hs
      split
      · rename_i hb
        have hb := belowD_iff.1 hb
        refine List.pairwise_cons.2 ⟨fun z hz => ?_, h⟩
        rcases List.mem_cons.1 hz with rfl | hz
        · exact hb
        · exact cmpI_trans hb (h1 z hz)
      · rename_i hb
        have hb2 : ¬ cmpI (flatD f) (flatD y) < 0 := fun e => hb (belowD_iff.2 e)
        have hne : flatD y ≠ flatD f := fun e => hs ((sameOne_of hy hf).2 e)
        have hyf : cmpI (flatD y) (flatD f) < 0 := by
          rw [cmpI_swap (flatD f) (flatD y)]
          rcases cmpI_three (flatD f) (flatD y) with e | e | e
          · omega
          · exact absurd (cmpI_eq e).symm hne
          · omega
        refine List.pairwise_cons.2 ⟨fun z hz => ?_, ih (fun z hz => hl z (List.mem_cons_of_mem _ hz)) h2⟩
        rcases addF_mem hz with rfl | hz
        · exact hyf
        · exact h1 z hz
/-- Two lists that rise, of the same finals, are one. -/
theorem rises_one {M T : Nat} {l r : List FinalD} (hl : Rises l) (hr : Rises r) (h1 : ∀ x ∈ l, ∃ y ∈ r, flatD y = flatD x) (h2 : ∀ x ∈ r, ∃ y ∈ l, flatD y = flatD x)
    (hM : ∀ x, x ∈ l ∨ x ∈ r → x.mem.length = M ∧ x.regs.length = T ∧ ∀ g ∈ x.regs, g.length = 4) : l = r := by
  have key : ∀ x y : FinalD, (x ∈ l ∨ x ∈ r) → (y ∈ l ∨ y ∈ r) → flatD x = flatD y → x = y := by
    intro x y hx hy e
    obtain ⟨a1, a2, a3⟩ := hM x hx
    obtain ⟨b1, b2, b3⟩ := hM y hy
    obtain ⟨xm, xr⟩ := x
    obtain ⟨ym, yr⟩ := y
    simp only [] at a1 a2 a3 b1 b2 b3
    unfold flatD at e
    simp only [] at e
    obtain ⟨e1, e2⟩ := List.append_inj e (by rw [a1, b1])
    subst e1
    have : xr = yr := by
      clear hx hy hM h1 h2 a1 b1 e
      induction xr generalizing yr T with
      | nil =>
        cases yr with
        | nil => rfl
        | cons g yr => simp at a2 b2; omega
      | cons g xr ih =>
        cases yr with
        | nil => simp at a2 b2; omega
        | cons g' yr =>
          simp only [List.flatten_cons] at e2
          obtain ⟨e3, e4⟩ := List.append_inj e2 (by rw [a3 g (List.mem_cons_self ..), b3 g' (List.mem_cons_self ..)])
          subst e3
          rw [ih (T := T - 1) (by simp at a2; omega) (fun q hq => a3 q (List.mem_cons_of_mem _ hq)) yr (by simp at b2; omega) (fun q hq => b3 q (List.mem_cons_of_mem _ hq)) e4]
    rw [this]
  clear hM
  induction l generalizing r with
  | nil =>
    cases r with
    | nil => rfl
    | cons y r => obtain ⟨z, hz, -⟩ := h2 y (List.mem_cons_self ..); cases hz
  | cons x l ih =>
    cases r with
    | nil => obtain ⟨z, hz, -⟩ := h1 x (List.mem_cons_self ..); cases hz
    | cons y r =>
      obtain ⟨p1, p2⟩ := List.pairwise_cons.1 hl
      obtain ⟨q1, q2⟩ := List.pairwise_cons.1 hr
      have hxy : flatD x = flatD y := by
        obtain ⟨z, hz, e⟩ := h1 x (List.mem_cons_self ..)
        rcases List.mem_cons.1 hz with rfl | hz
        · exact e.symm
        · obtain ⟨u, hu, e2⟩ := h2 y (List.mem_cons_self ..)
          rcases List.mem_cons.1 hu with rfl | hu
          · exact e2
          · have a := q1 z hz
            have b := p1 u hu
            rw [e] at a
            rw [e2] at b
            have := cmpI_trans a b
            rw [cmpI_self] at this
            omega
      have hxe := key x y (.inl (List.mem_cons_self ..)) (.inr (List.mem_cons_self ..)) hxy
      subst hxe
      congr 1
      refine ih p2 q2 (fun z hz => ?_) (fun z hz => ?_) (fun a b ha hb => key a b (ha.imp (List.mem_cons_of_mem _) (List.mem_cons_of_mem _)) (hb.imp (List.mem_cons_of_mem _) (List.mem_cons_of_mem _)))
      · obtain ⟨u, hu, e⟩ := h1 z (List.mem_cons_of_mem _ hz)
        rcases List.mem_cons.1 hu with rfl | hu
        · have := p1 z hz
          rw [← e, cmpI_self] at this; omega
        · exact ⟨u, hu, e⟩
      · obtain ⟨u, hu, e⟩ := h2 z (List.mem_cons_of_mem _ hz)
        rcases List.mem_cons.1 hu with rfl | hu
        · have := q1 z hz
          rw [← e, cmpI_self] at this; omega
        · exact ⟨u, hu, e⟩
theorem finalsTo_succ {c : CodeD} {l : List StateD} {i : Nat} (hi : i < l.length) : finalsTo c l (i + 1) = if endedS c (l.getD i default) then addF (finalsTo c l i) (ofS (l.getD i default)) else finalsTo c l i := by
  unfold finalsTo
  rw [List.take_succ_eq_append_getElem hi, List.foldl_append, List.getD_eq_getElem?_getD, List.getElem?_eq_getElem hi]
  rfl
theorem finalsTo_facts {c : CodeD} {l : List StateD} {M : Nat} (hM : ∀ s ∈ l, s.mem.length = M) : ∀ i, i ≤ l.length → Rises (finalsTo c l i) ∧ (∀ x ∈ finalsTo c l i, x ∈ endsS c (l.take i)) ∧ ∀ x ∈ endsS c (l.take i), ∃ y ∈ finalsTo c l i, flatD y = flatD x := by
  have hme : ∀ i, ∀ x ∈ endsS c (l.take i), x.mem.length = M := fun i x hx => by
    unfold endsS at hx
    obtain ⟨s, hs, rfl⟩ := List.mem_map.1 hx
    exact hM s (List.mem_of_mem_take (List.mem_filter.1 hs).1)
  intro i
  induction i with
  | zero => intro _; simp [finalsTo, endsS, Rises]
  | succ i ih =>
    intro hi
    obtain ⟨h1, h2, h3⟩ := ih (by omega)
    have hs : endsS c (l.take (i + 1)) = endsS c (l.take i) ++ (if endedS c (l.getD i default) then [ofS (l.getD i default)] else []) := by
      unfold endsS
      rw [List.take_succ_eq_append_getElem (by omega), List.filter_append, List.map_append, List.getD_eq_getElem?_getD, List.getElem?_eq_getElem (by omega)]
      simp only [Option.getD_some, List.filter_cons, List.filter_nil]
      split <;> rfl
    have hsm : (ofS (l.getD i default)).mem.length = M := by
      rw [List.getD_eq_getElem?_getD, List.getElem?_eq_getElem (by omega)]
      exact hM _ (List.getElem_mem _)
    rw [finalsTo_succ (by omega), hs]
    by_cases he : endedS c (l.getD i default) = true
    · rw [if_pos he, if_pos he]
      have hf : ∀ y ∈ finalsTo c l i, y.mem.length = M := fun y hy => hme i y (h2 y hy)
      refine ⟨addF_rises hsm hf h1, fun x hx => ?_, fun x hx => ?_⟩
      · rcases addF_mem hx with rfl | hx
        · exact List.mem_append_right _ (List.mem_singleton.2 rfl)
        · exact List.mem_append_left _ (h2 x hx)
      · rcases List.mem_append.1 hx with hx | hx
        · obtain ⟨y, hy, e⟩ := h3 x hx
          obtain ⟨z, hz, e2⟩ := addF_has hsm hf (.inr hy)
          exact ⟨z, hz, e2.trans e⟩
        · exact addF_has hsm hf (.inl (List.mem_singleton.1 hx))
    · rw [if_neg he, if_neg he, List.append_nil]
      exact ⟨h1, h2, h3⟩
/-- Each once, sorted: the finals. -/
theorem finals_of {c : CodeD} {l : List StateD} {M : Nat} (hM : ∀ s ∈ l, s.mem.length = M) (hR : ∀ s ∈ l, ∀ t ∈ s.threads, t.regs.length = 4) {r : List FinalD} (h1 : Rises r) (h2 : ∀ x ∈ r, x ∈ endsS c l) (h3 : ∀ x ∈ endsS c l, ∃ y ∈ r, flatD y = flatD x) : r = finalsS c l := by
  obtain ⟨k1, k2, k3⟩ := finalsTo_facts (c := c) hM l.length (Nat.le_refl _)
  rw [List.take_length] at k2 k3
  refine rises_one (M := M) (T := c.threads.length) h1 k1 (fun x hx => k3 x (h2 x hx)) (fun x hx => h3 x (k2 x hx)) (fun x hx => ?_)
  have hx : x ∈ endsS c l := hx.elim (h2 x) (k2 x)
  unfold endsS at hx
  obtain ⟨s, hs, rfl⟩ := List.mem_map.1 hx
  obtain ⟨hs1, hs2⟩ := List.mem_filter.1 hs
  unfold endedS at hs2
  simp only [Bool.and_eq_true, decide_eq_true_eq] at hs2
  refine ⟨hM s hs1, by simp [ofS, hs2.1.1], fun g hg => ?_⟩
  simp only [ofS] at hg
  obtain ⟨t, ht, rfl⟩ := List.mem_map.1 hg
  exact hR s hs1 t ht
end Go.Proofs.Ytnlkbboghcdpnaa
