/- Groups of nodes that lead back to one another: what a walk keeps: plain laws. -/
import Derived.Test.YtoojalcfojflhaaBase
namespace Go.Proofs.Ytoojalcfojflhaa

/-- One comes from a node to another, in any number of steps. -/
inductive Reach (succ : Nat → List Nat) : Nat → Nat → Prop
  | refl (a : Nat) : Reach succ a a
  | step {a k b : Nat} (h : k ∈ succ a) (r : Reach succ k b) : Reach succ a b
theorem Reach.trans {succ : Nat → List Nat} {a b c : Nat} (h : Reach succ a b) (k : Reach succ b c) : Reach succ a c := by
  induction h with
  | refl => exact k
  | step e _ ih => exact .step e (ih k)
theorem Reach.edge {succ : Nat → List Nat} {a b : Nat} (h : b ∈ succ a) : Reach succ a b := .step h (.refl b)
/-- What is kept of a set stays in it. -/
theorem Reach.stays {succ : Nat → List Nat} {C : Nat → Prop} (hC : ∀ a, C a → ∀ k ∈ succ a, C k) {a b : Nat} (h : Reach succ a b) (ha : C a) : C b := by
  induction h with
  | refl => exact ha
  | step e _ ih => exact ih (hC _ ha _ e)

/-- The walker. -/
structure TS where
  order : Nat → Nat
  low : Nat → Nat
  group : Nat → Int
  openL : List Nat
  path : List Nat
  next : Nat → Nat
  many : Nat
def upd {α : Type} (f : Nat → α) (i : Nat) (v : α) : Nat → α := fun j => if j = i then v else f j
theorem upd_same {α : Type} (f : Nat → α) (i : Nat) (v : α) : upd f i v i = v := if_pos rfl
theorem upd_other {α : Type} (f : Nat → α) (i j : Nat) (v : α) (h : j ≠ i) : upd f i v j = f j := if_neg h
def TS.enter (s : TS) (i : Nat) : TS := { s with many := s.many + 1, order := upd s.order i (s.many + 1), low := upd s.low i (s.many + 1), openL := s.openL ++ [i], path := s.path ++ [i] }
def TS.advance (s : TS) (i : Nat) : TS := { s with next := upd s.next i (s.next i + 1) }
def TS.relax (s : TS) (i k : Nat) : TS := { s with low := upd s.low i (min (s.low i) (s.order k)) }
/-- What one goes back by: the node's low is handed on. -/
def TS.back (s : TS) (i : Nat) : TS :=
  { s with path := s.path.dropLast, low := match s.path.dropLast.getLast? with | some p => upd s.low p (min (s.low p) (s.low i)) | none => s.low }
/-- A group is closed. -/
def TS.shut (s : TS) (i : Nat) : TS :=
  { s with group := fun v => if v ∈ s.openL.drop (s.openL.idxOf i) then (i : Int) else s.group v, openL := s.openL.take (s.openL.idxOf i) }
/-- What is so at each point of the walk. -/
structure TInv (n : Nat) (succ : Nat → List Nat) (I : Nat → Prop) (s : TS) : Prop where
  bound : ∀ v, 0 < s.order v → v < n
  le_many : ∀ v, s.order v ≤ s.many
  inj : ∀ u v, 0 < s.order u → s.order u = s.order v → u = v
  rise : s.openL.Pairwise (fun a b => s.order a < s.order b)
  opens : ∀ v, v ∈ s.openL ↔ 0 < s.order v ∧ s.group v < 0
  sub : s.path.Sublist s.openL
  gvis : ∀ v, 0 ≤ s.group v → 0 < s.order v
  low_le : ∀ v ∈ s.openL, s.low v ≤ s.order v
  low_to : ∀ v ∈ s.openL, ∃ u ∈ s.openL, s.order u = s.low v ∧ Reach succ v u
  down : ∀ p ∈ s.path, ∀ w ∈ s.openL, s.order p ≤ s.order w → Reach succ p w
  off : ∀ w ∈ s.openL, w ∉ s.path → s.low w < s.order w ∧ s.next w = (succ w).length
  hand : ∀ w ∈ s.openL, w ∉ s.path → ∀ p ∈ s.path, s.order p ≤ s.order w → (∀ p' ∈ s.path, s.order p' ≤ s.order w → s.order p' ≤ s.order p) → s.low p ≤ s.low w
  seen : ∀ w ∈ s.openL, ∀ m, m < s.next w → ∀ k, (succ w)[m]? = some k → 0 < s.order k ∧ (s.group k < 0 → s.low w ≤ s.order k)
  closed : ∀ v, 0 ≤ s.group v → ∀ k ∈ succ v, 0 ≤ s.group k
  scc : ∀ u v, 0 ≤ s.group u → 0 ≤ s.group v → (s.group u = s.group v ↔ Reach succ u v ∧ Reach succ v u)
  rep : ∀ u, 0 ≤ s.group u → ∃ r : Nat, s.group u = (r : Int) ∧ s.group r = (r : Int)
  src : ∀ v, 0 < s.order v → ∃ a, I a ∧ Reach succ a v
  next_le : ∀ v, s.next v ≤ (succ v).length
  fresh : ∀ v, s.order v = 0 → s.next v = 0

theorem last_max {s : TS} {n : Nat} {succ : Nat → List Nat} {I : Nat → Prop} (h : TInv n succ I s) {i : Nat} (hi : s.path.getLast? = some i) : i ∈ s.path ∧ ∀ p ∈ s.path, s.order p ≤ s.order i := by
  have hp : s.path.Pairwise (fun a b => s.order a < s.order b) := h.rise.sublist h.sub
  obtain ⟨l, hl⟩ : ∃ l, s.path = l ++ [i] := List.getLast?_eq_some_iff.1 hi
  refine ⟨by rw [hl]; simp, fun p hpm => ?_⟩
  rw [hl] at hp hpm
  rcases List.mem_append.1 hpm with e | e
  · exact Nat.le_of_lt ((List.pairwise_append.1 hp).2.2 p e i (by simp))
  · simp at e; subst e; exact Nat.le_refl _
theorem TInv.vis {s : TS} {n : Nat} {succ : Nat → List Nat} {I : Nat → Prop} (h : TInv n succ I s) {v : Nat} (hv : v ∈ s.openL) : 0 < s.order v ∧ s.group v < 0 := (h.opens v).1 hv
/-- A node that was seen already is held against the one at hand. -/
theorem TInv.relaxed {s : TS} {n : Nat} {succ : Nat → List Nat} {I : Nat → Prop} (h : TInv n succ I s) {i k : Nat} (hi : s.path.getLast? = some i) (hm : (succ i)[s.next i]? = some k) (hk : 0 < s.order k) (hg : s.group k < 0) : TInv n succ I ((s.advance i).relax i k) := by
  obtain ⟨hip, hmax⟩ := last_max h hi
  have hio : i ∈ s.openL := h.sub.subset hip
  have hko : k ∈ s.openL := (h.opens k).2 ⟨hk, hg⟩
  have hik : k ∈ succ i := List.mem_of_getElem? hm
  have hlow : ∀ w, ((s.advance i).relax i k).low w ≤ s.low w := fun w => by
    unfold TS.relax TS.advance upd; simp only []; split
    · subst w; exact Nat.min_le_left _ _
    · exact Nat.le_refl _
  have hlt : s.next i < (succ i).length := (List.getElem?_eq_some_iff.1 hm).1
  refine ⟨h.bound, h.le_many, h.inj, h.rise, h.opens, h.sub, h.gvis, fun v hv => Nat.le_trans (hlow v) (h.low_le v hv), fun v hv => ?_, h.down, fun w hw hwp => ?_, fun w hw hwp p hp h1 h2 => ?_, fun w hw m hmw k' hk' => ?_, h.closed, h.scc, h.rep, h.src, fun v => ?_, fun v hv => ?_⟩
  · by_cases e : v = i
    · subst e
      have hl : ((s.advance v).relax v k).low v = min (s.low v) (s.order k) := upd_same _ _ _
      rw [hl]
      rcases Nat.le_total (s.low v) (s.order k) with h1 | h1
      · rw [Nat.min_eq_left h1]; exact h.low_to v hv
      · rw [Nat.min_eq_right h1]; exact ⟨k, hko, rfl, .edge hik⟩
    · have hl : ((s.advance i).relax i k).low v = s.low v := upd_other _ _ _ _ e
      rw [hl]; exact h.low_to v hv
  · have e : w ≠ i := by rintro rfl; exact hwp hip
    have hl : ((s.advance i).relax i k).low w = s.low w := upd_other _ _ _ _ e
    have hnx : ((s.advance i).relax i k).next w = s.next w := upd_other _ _ _ _ e
    rw [hl, hnx]; exact h.off w hw hwp
  · have e : w ≠ i := by rintro rfl; exact hwp hip
    have hl : ((s.advance i).relax i k).low w = s.low w := upd_other _ _ _ _ e
    rw [hl]
    exact Nat.le_trans (hlow p) (h.hand w hw hwp p hp h1 h2)
  · by_cases e : w = i
    · subst e
      have hnx : ((s.advance w).relax w k).next w = s.next w + 1 := upd_same _ _ _
      rw [hnx] at hmw
      rcases Nat.lt_or_eq_of_le (Nat.le_of_lt_succ hmw) with h1 | rfl
      · obtain ⟨a, b⟩ := h.seen w hw m h1 k' hk'
        exact ⟨a, fun hg' => Nat.le_trans (hlow w) (b hg')⟩
      · rw [hm] at hk'; cases hk'
        refine ⟨hk, fun _ => ?_⟩
        have hl : ((s.advance w).relax w k).low w = min (s.low w) (s.order k) := upd_same _ _ _
        rw [hl]; exact Nat.min_le_right _ _
    · have hnx : ((s.advance i).relax i k).next w = s.next w := upd_other _ _ _ _ e
      rw [hnx] at hmw
      obtain ⟨a, b⟩ := h.seen w hw m hmw k' hk'
      exact ⟨a, fun hg' => Nat.le_trans (hlow w) (b hg')⟩
  · by_cases e : v = i
    · subst e
      have hnx : ((s.advance v).relax v k).next v = s.next v + 1 := upd_same _ _ _
      rw [hnx]; exact hlt
    · have hnx : ((s.advance i).relax i k).next v = s.next v := upd_other _ _ _ _ e
      rw [hnx]; exact h.next_le v
  · have e : v ≠ i := by rintro rfl; have := (h.vis hio).1; have h0 : s.order v = 0 := hv; omega
    have hnx : ((s.advance i).relax i k).next v = s.next v := upd_other _ _ _ _ e
    rw [hnx]; exact h.fresh v hv
/-- A node in a group is passed by. -/
theorem TInv.passed {s : TS} {n : Nat} {succ : Nat → List Nat} {I : Nat → Prop} (h : TInv n succ I s) {i k : Nat} (hi : s.path.getLast? = some i) (hm : (succ i)[s.next i]? = some k) (hk : 0 < s.order k) (hg : 0 ≤ s.group k) : TInv n succ I (s.advance i) := by
  obtain ⟨hip, hmax⟩ := last_max h hi
  have hio : i ∈ s.openL := h.sub.subset hip
  have hlt : s.next i < (succ i).length := (List.getElem?_eq_some_iff.1 hm).1
  refine ⟨h.bound, h.le_many, h.inj, h.rise, h.opens, h.sub, h.gvis, h.low_le, h.low_to, h.down, fun w hw hwp => ?_, h.hand, fun w hw m hmw k' hk' => ?_, h.closed, h.scc, h.rep, h.src, fun v => ?_, fun v hv => ?_⟩
  · have e : w ≠ i := by rintro rfl; exact hwp hip
    have hnx : (s.advance i).next w = s.next w := upd_other _ _ _ _ e
    rw [hnx]; exact h.off w hw hwp
  · by_cases e : w = i
    · subst e
      have hnx : (s.advance w).next w = s.next w + 1 := upd_same _ _ _
      rw [hnx] at hmw
      rcases Nat.lt_or_eq_of_le (Nat.le_of_lt_succ hmw) with h1 | rfl
      · exact h.seen w hw m h1 k' hk'
      · rw [hm] at hk'; cases hk'
        exact ⟨hk, fun h' => by have : s.group k < 0 := h'; omega⟩
    · have hnx : (s.advance i).next w = s.next w := upd_other _ _ _ _ e
      rw [hnx] at hmw; exact h.seen w hw m hmw k' hk'
  · by_cases e : v = i
    · subst e
      have hnx : (s.advance v).next v = s.next v + 1 := upd_same _ _ _
      rw [hnx]; exact hlt
    · have hnx : (s.advance i).next v = s.next v := upd_other _ _ _ _ e
      rw [hnx]; exact h.next_le v
  · have e : v ≠ i := by rintro rfl; have := (h.vis hio).1; have h0 : s.order v = 0 := hv; omega
    have hnx : (s.advance i).next v = s.next v := upd_other _ _ _ _ e
    rw [hnx]; exact h.fresh v hv
/-- One comes to a node that is new. -/
theorem TInv.entered_ {s : TS} {n : Nat} {succ : Nat → List Nat} {I : Nat → Prop} (h : TInv n succ I s) {k : Nat} {nx : Nat → Nat} (hkn : k < n) (hk0 : s.order k = 0) (h1 : ∀ w, w ∉ s.path → nx w = s.next w)
    (h2 : ∀ w m, m < nx w → m < s.next w ∨ (w ∈ s.path ∧ (succ w)[m]? = some k)) (h3 : ∀ v, nx v ≤ (succ v).length) (h4 : ∀ v, s.order v = 0 → nx v = 0) (hr : ∀ p ∈ s.path, Reach succ p k) (hs : ∃ a, I a ∧ Reach succ a k) :
    TInv n succ I (({ s with next := nx } : TS).enter k) := by
  have hko : ∀ v, v ∈ s.openL → v ≠ k := fun v hv e => by have := (h.vis hv).1; subst e; omega
  have hkp : ∀ v, v ∈ s.path → v ≠ k := fun v hv => hko v (h.sub.subset hv)
  have hg : s.group k < 0 := by
    rcases Int.lt_or_le (s.group k) 0 with e | e
    · exact e
    · have := h.gvis k e; omega
  have ok : (({ s with next := nx } : TS).enter k).order k = s.many + 1 := upd_same _ _ _
  have on : ∀ v, v ≠ k → (({ s with next := nx } : TS).enter k).order v = s.order v := fun v e => upd_other _ _ _ _ e
  have lk : (({ s with next := nx } : TS).enter k).low k = s.many + 1 := upd_same _ _ _
  have ln : ∀ v, v ≠ k → (({ s with next := nx } : TS).enter k).low v = s.low v := fun v e => upd_other _ _ _ _ e
  have mo : ∀ v, v ∈ (({ s with next := nx } : TS).enter k).openL ↔ v ∈ s.openL ∨ v = k := fun v => by show v ∈ s.openL ++ [k] ↔ _; simp
  have mp : ∀ v, v ∈ (({ s with next := nx } : TS).enter k).path ↔ v ∈ s.path ∨ v = k := fun v => by show v ∈ s.path ++ [k] ↔ _; simp
  refine ⟨fun v hv => ?_, fun v => ?_, fun u v hu he => ?_, ?_, fun v => ?_, ?_, fun v hv => ?_, fun v hv => ?_, fun v hv => ?_, fun p hp w hw hle => ?_, fun w hw hwp => ?_, fun w hw hwp p hp hle hmx => ?_, fun w hw m hm k' hk' => ?_, h.closed, h.scc, h.rep, fun v hv => ?_, h3, fun v hv => ?_⟩
  · by_cases e : v = k
    · subst e; exact hkn
    · rw [on v e] at hv; exact h.bound v hv
  · show _ ≤ s.many + 1
    by_cases e : v = k
    · subst e; rw [ok]; exact Nat.le_refl _
    · rw [on v e]; have := h.le_many v; omega
  · by_cases e : u = k
    · by_cases e' : v = k
      · rw [e, e']
      · subst e; rw [ok, on v e'] at he; have := h.le_many v; omega
    · by_cases e' : v = k
      · subst e'; rw [ok, on u e] at he; have := h.le_many u; omega
      · rw [on u e, on v e'] at he; rw [on u e] at hu; exact h.inj u v hu he
  · show (s.openL ++ [k]).Pairwise _
    rw [List.pairwise_append]
    refine ⟨h.rise.imp_of_mem (fun {a b} ha hb hab => by rw [on a (hko a ha), on b (hko b hb)]; exact hab), by simp, fun a ha b hb => ?_⟩
    simp at hb; subst hb
    rw [on a (hko a ha), ok]; have := h.le_many a; omega
  · rw [mo]
    show _ ↔ _ ∧ s.group v < 0
    by_cases e : v = k
    · subst e; rw [ok]; exact ⟨fun _ => ⟨by omega, hg⟩, fun _ => .inr rfl⟩
    · rw [on v e, ← h.opens]; exact ⟨fun h => h.elim id (fun e' => absurd e' e), .inl⟩
  · exact h.sub.append (List.Sublist.refl _)
  · by_cases e : v = k
    · subst e; rw [ok]; omega
    · rw [on v e]; exact h.gvis v hv
  · rcases (mo v).1 hv with e | rfl
    · rw [ln v (hko v e), on v (hko v e)]; exact h.low_le v e
    · rw [lk, ok]; exact Nat.le_refl _
  · rcases (mo v).1 hv with e | rfl
    · obtain ⟨u, hu, e1, e2⟩ := h.low_to v e
      exact ⟨u, (mo u).2 (.inl hu), by rw [ln v (hko v e), on u (hko u hu)]; exact e1, e2⟩
    · exact ⟨v, hv, by rw [lk, ok], .refl v⟩
  · rcases (mp p).1 hp with e | rfl
    · rcases (mo w).1 hw with e' | rfl
      · rw [on p (hkp p e), on w (hko w e')] at hle; exact h.down p e w e' hle
      · exact hr p e
    · rcases (mo w).1 hw with e' | rfl
      · rw [ok, on w (hko w e')] at hle; have := h.le_many w; omega
      · exact .refl _
  · have hwk : w ≠ k := fun e => hwp ((mp w).2 (.inr e))
    have hwo : w ∈ s.openL := ((mo w).1 hw).elim id (fun e => absurd e hwk)
    have hwp' : w ∉ s.path := fun e => hwp ((mp w).2 (.inl e))
    rw [ln w hwk, on w hwk]
    obtain ⟨e1, e2⟩ := h.off w hwo hwp'
    exact ⟨e1, by show nx w = _; rw [h1 w hwp']; exact e2⟩
  · have hwk : w ≠ k := fun e => hwp ((mp w).2 (.inr e))
    have hwo : w ∈ s.openL := ((mo w).1 hw).elim id (fun e => absurd e hwk)
    have hwp' : w ∉ s.path := fun e => hwp ((mp w).2 (.inl e))
    rcases (mp p).1 hp with e | rfl
    · rw [ln p (hkp p e), ln w hwk]
      rw [on p (hkp p e), on w hwk] at hle
      refine h.hand w hwo hwp' p e hle (fun p' hp' hle' => ?_)
      have := hmx p' ((mp p').2 (.inl hp')) (by rw [on p' (hkp p' hp'), on w hwk]; exact hle')
      rwa [on p' (hkp p' hp'), on p (hkp p e)] at this
    · rw [ok, on w hwk] at hle; have := h.le_many w; omega
  · rcases (mo w).1 hw with e | rfl
    · rw [ln w (hko w e)]
      rcases h2 w m hm with e' | ⟨e1, e2⟩
      · obtain ⟨b1, b2⟩ := h.seen w e m e' k' hk'
        have hkk : k' ≠ k := by rintro rfl; omega
        rw [on k' hkk]; exact ⟨b1, b2⟩
      · rw [hk'] at e2; cases e2
        rw [ok]
        have := h.low_le w e; have := h.le_many w
        exact ⟨by omega, fun _ => by omega⟩
    · have : nx w = 0 := h4 w hk0
      have hm' : m < nx w := hm
      omega
  · by_cases e : v = k
    · subst e; exact hs
    · rw [on v e] at hv; exact h.src v hv
  · have e : v ≠ k := by rintro rfl; rw [ok] at hv; omega
    rw [on v e] at hv; exact h4 v hv
theorem TInv.entered {s : TS} {n : Nat} {succ : Nat → List Nat} {I : Nat → Prop} (h : TInv n succ I s) {i k : Nat} (hi : s.path.getLast? = some i) (hm : (succ i)[s.next i]? = some k) (hkn : k < n) (hk0 : s.order k = 0) : TInv n succ I ((s.advance i).enter k) := by
  obtain ⟨hip, hmax⟩ := last_max h hi
  have hio : i ∈ s.openL := h.sub.subset hip
  have hik : k ∈ succ i := List.mem_of_getElem? hm
  have hlt : s.next i < (succ i).length := (List.getElem?_eq_some_iff.1 hm).1
  refine h.entered_ (nx := upd s.next i (s.next i + 1)) hkn hk0 (fun w hw => upd_other _ _ _ _ (by rintro rfl; exact hw hip)) (fun w m hmw => ?_) (fun v => ?_) (fun v hv => ?_) (fun p hp => (h.down p hp i hio (hmax p hp)).trans (.edge hik)) ?_
  · by_cases e : w = i
    · subst e
      rw [upd_same] at hmw
      rcases Nat.lt_or_eq_of_le (Nat.le_of_lt_succ hmw) with h1 | rfl
      · exact .inl h1
      · exact .inr ⟨hip, hm⟩
    · rw [upd_other _ _ _ _ e] at hmw; exact .inl hmw
  · by_cases e : v = i
    · subst e; rw [upd_same]; exact hlt
    · rw [upd_other _ _ _ _ e]; exact h.next_le v
  · have e : v ≠ i := by rintro rfl; have := (h.vis hio).1; omega
    rw [upd_other _ _ _ _ e]; exact h.fresh v hv
  · obtain ⟨a, ha, hr⟩ := h.src i (h.vis hio).1
    exact ⟨a, ha, hr.trans (.edge hik)⟩
theorem TInv.begun {s : TS} {n : Nat} {succ : Nat → List Nat} {I : Nat → Prop} (h : TInv n succ I s) {k : Nat} (hp : s.path = []) (hkn : k < n) (hk0 : s.order k = 0) (hI : I k) : TInv n succ I (s.enter k) := by
  have := h.entered_ (nx := s.next) hkn hk0 (fun _ _ => rfl) (fun _ _ hm => .inl hm) h.next_le h.fresh (fun p hpm => by rw [hp] at hpm; simp at hpm) ⟨k, hI, .refl k⟩
  exact this
/-- Where one is nowhere, nothing is open. -/
theorem TInv.none_open {s : TS} {n : Nat} {succ : Nat → List Nat} {I : Nat → Prop} (h : TInv n succ I s) (hp : s.path = []) : s.openL = [] := by
  have : ∀ m w, w ∈ s.openL → s.order w = m → False := by
    intro m
    induction m using Nat.strongRecOn with
    | ind m ih =>
      intro w hw hm
      obtain ⟨e1, -⟩ := h.off w hw (by rw [hp]; simp)
      obtain ⟨u, hu, e2, -⟩ := h.low_to w hw
      exact ih (s.order u) (by omega) u hu rfl
  cases ho : s.openL with
  | nil => rfl
  | cons w l => exact (this _ w (by rw [ho]; simp) rfl).elim
/-- What going back turns: the low of the node that one goes back to. -/
theorem back_low {s : TS} {n : Nat} {succ : Nat → List Nat} {I : Nat → Prop} (h : TInv n succ I s) {i : Nat} {l : List Nat} (hl : s.path = l ++ [i]) :
    (s.back i).path = l ∧ (∀ w, w ∉ l → (s.back i).low w = s.low w) ∧ (∀ w, (s.back i).low w ≤ s.low w) ∧ (∀ q ∈ l, (∀ p ∈ l, s.order p ≤ s.order q) → (s.back i).low q = min (s.low q) (s.low i)) ∧ (∀ w, (s.back i).low w = s.low w ∨ (w ∈ l ∧ (s.back i).low w = min (s.low w) (s.low i))) := by
  have hd : s.path.dropLast = l := by rw [hl]; simp
  have hpw : s.path.Pairwise (fun a b => s.order a < s.order b) := h.rise.sublist h.sub
  have hv : ∀ q ∈ l, 0 < s.order q := fun q hq => (h.vis (h.sub.subset (by rw [hl]; simp [hq]))).1
  unfold TS.back
  simp only [hd]
  cases hg : l.getLast? with
  | none =>
    have : l = [] := by simpa using hg
    subst this
    exact ⟨trivial, fun _ _ => rfl, fun _ => Nat.le_refl _, fun q hq => by simp at hq, fun _ => .inl rfl⟩
  | some p =>
    obtain ⟨l', hl'⟩ : ∃ l', l = l' ++ [p] := List.getLast?_eq_some_iff.1 hg
    have hpl : p ∈ l := by rw [hl']; simp
    have hpm : ∀ q ∈ l, s.order q ≤ s.order p := fun q hq => by
      rw [hl, hl'] at hpw
      have h2 := (List.pairwise_append.1 (List.pairwise_append.1 hpw).1).2.2
      rw [hl'] at hq
      rcases List.mem_append.1 hq with e | e
      · exact Nat.le_of_lt (h2 q e p (by simp))
      · simp at e; subst e; exact Nat.le_refl _
    refine ⟨trivial, fun w hw => upd_other _ _ _ _ (by rintro rfl; exact hw hpl), fun w => ?_, fun q hq hm => ?_, fun w => ?_⟩
    · by_cases e : w = p
      · subst e; simp only []; rw [upd_same]; exact Nat.min_le_left _ _
      · simp only []; rw [upd_other _ _ _ _ e]; exact Nat.le_refl _
    · have : q = p := h.inj q p (hv q hq) (Nat.le_antisymm (hpm q hq) (hm p hpl))
      subst this; exact upd_same _ _ _
    · by_cases e : w = p
      · subst e; exact .inr ⟨hpl, upd_same _ _ _⟩
      · exact .inl (upd_other _ _ _ _ e)
/-- The nodes that one is at, but for the last one, stand ahead of it. -/
theorem path_ahead {s : TS} {n : Nat} {succ : Nat → List Nat} {I : Nat → Prop} (h : TInv n succ I s) {i : Nat} {l : List Nat} (hl : s.path = l ++ [i]) : (∀ q ∈ l, s.order q < s.order i) ∧ i ∈ s.openL ∧ i ∉ l ∧ ∀ p ∈ s.path, p = i ∨ p ∈ l := by
  have hpw : s.path.Pairwise (fun a b => s.order a < s.order b) := h.rise.sublist h.sub
  rw [hl] at hpw
  have h1 : ∀ q ∈ l, s.order q < s.order i := fun q hq => (List.pairwise_append.1 hpw).2.2 q hq i (by simp)
  exact ⟨h1, h.sub.subset (by rw [hl]; simp), fun e => by have := h1 i e; omega, fun p hp => by rw [hl] at hp; simp at hp; exact hp.symm⟩
/-- One goes back from a node that leads back. -/
theorem TInv.left {s : TS} {n : Nat} {succ : Nat → List Nat} {I : Nat → Prop} (h : TInv n succ I s) {i : Nat} {l : List Nat} (hl : s.path = l ++ [i]) (hend : s.next i = (succ i).length) (hlow : s.low i < s.order i) : TInv n succ I (s.back i) := by
  obtain ⟨ha, hio, hil, hpi⟩ := path_ahead h hl
  obtain ⟨b1, b2, b3, b4, b5⟩ := back_low h hl
  have hsub : l.Sublist s.openL := (by rw [hl] at *; exact List.sublist_append_left l [i] : l.Sublist s.path).trans h.sub
  refine ⟨h.bound, h.le_many, h.inj, h.rise, h.opens, by rw [b1]; exact hsub, h.gvis, fun v hv => Nat.le_trans (b3 v) (h.low_le v hv), fun v hv => ?_, fun p hp w hw hle => ?_, fun w hw hwp => ?_, fun w hw hwp q hq hle hmx => ?_, fun w hw m hm k hk => ?_, h.closed, h.scc, h.rep, h.src, h.next_le, h.fresh⟩
  · rcases b5 v with e | ⟨hvl, e⟩
    · rw [e]; exact h.low_to v hv
    · rw [e]
      rcases Nat.le_total (s.low v) (s.low i) with h1 | h1
      · rw [Nat.min_eq_left h1]; exact h.low_to v hv
      · rw [Nat.min_eq_right h1]
        obtain ⟨u, hu, e1, e2⟩ := h.low_to i hio
        exact ⟨u, hu, e1, (h.down v (by rw [hl]; simp [hvl]) i hio (Nat.le_of_lt (ha v hvl))).trans e2⟩
  · rw [b1] at hp; exact h.down p (by rw [hl]; simp [hp]) w hw hle
  · rw [b1] at hwp
    rw [b2 w hwp]
    by_cases e : w = i
    · subst e; exact ⟨hlow, hend⟩
    · exact h.off w hw (fun e' => (hpi w e').elim e hwp)
  · rw [b1] at hwp hq hmx
    rw [b2 w hwp]
    by_cases e : w = i
    · subst e
      rw [b4 q hq (fun p hp => hmx p hp (Nat.le_of_lt (ha p hp)))]
      exact Nat.min_le_right _ _
    · have hwp' : w ∉ s.path := fun e' => (hpi w e').elim e hwp
      by_cases e2 : s.order i ≤ s.order w
      · have h1 := h.hand w hw hwp' i (by rw [hl]; simp) e2 (fun p' hp' _ => by
          rcases hpi p' hp' with rfl | e3
          · exact Nat.le_refl _
          · exact Nat.le_of_lt (ha p' e3))
        rw [b4 q hq (fun p hp => hmx p hp (Nat.le_trans (Nat.le_of_lt (ha p hp)) e2))]
        exact Nat.le_trans (Nat.min_le_right _ _) h1
      · refine Nat.le_trans (b3 q) (h.hand w hw hwp' q (by rw [hl]; simp [hq]) hle (fun p' hp' hle' => ?_))
        rcases hpi p' hp' with rfl | e3
        · omega
        · exact hmx p' e3 hle'
  · obtain ⟨c1, c2⟩ := h.seen w hw m hm k hk
    exact ⟨c1, fun hg => Nat.le_trans (b3 w) (c2 hg)⟩
/-- What is open from a node on. -/
theorem open_parts {s : TS} {n : Nat} {succ : Nat → List Nat} {I : Nat → Prop} (h : TInv n succ I s) {i : Nat} (hi : i ∈ s.openL) :
    (∀ v, v ∈ s.openL.drop (s.openL.idxOf i) ↔ v ∈ s.openL ∧ s.order i ≤ s.order v) ∧ (∀ v, v ∈ s.openL.take (s.openL.idxOf i) ↔ v ∈ s.openL ∧ s.order v < s.order i) := by
  have hlt := List.idxOf_lt_length_of_mem hi
  have hd : s.openL.drop (s.openL.idxOf i) = i :: s.openL.drop (s.openL.idxOf i + 1) := by
    rw [List.drop_eq_getElem_cons hlt, List.getElem_idxOf hlt]
  have hr := h.rise
  rw [← List.take_append_drop (s.openL.idxOf i) s.openL, List.pairwise_append] at hr
  obtain ⟨-, r2, r3⟩ := hr
  have hB : ∀ v ∈ s.openL.drop (s.openL.idxOf i), s.order i ≤ s.order v := fun v hv => by
    rw [hd] at r2 hv
    rcases List.mem_cons.1 hv with rfl | e
    · exact Nat.le_refl _
    · exact Nat.le_of_lt ((List.pairwise_cons.1 r2).1 v e)
  have hA : ∀ v ∈ s.openL.take (s.openL.idxOf i), s.order v < s.order i := fun v hv => r3 v hv i (by rw [hd]; simp)
  have hm : ∀ v, v ∈ s.openL ↔ v ∈ s.openL.take (s.openL.idxOf i) ∨ v ∈ s.openL.drop (s.openL.idxOf i) := fun v => by
    rw [← List.mem_append, List.take_append_drop]
  refine ⟨fun v => ⟨fun hv => ⟨(hm v).2 (.inr hv), hB v hv⟩, fun ⟨hv, ho⟩ => ?_⟩, fun v => ⟨fun hv => ⟨(hm v).2 (.inl hv), hA v hv⟩, fun ⟨hv, ho⟩ => ?_⟩⟩
  · rcases (hm v).1 hv with e | e
    · have := hA v e; omega
    · exact e
  · rcases (hm v).1 hv with e | e
    · exact e
    · have := hB v e; omega
/-- One goes back from a node that leads no further back: a group is closed. -/
theorem TInv.closed_ {s : TS} {n : Nat} {succ : Nat → List Nat} {I : Nat → Prop} (h : TInv n succ I s) {i : Nat} {l : List Nat} (hl : s.path = l ++ [i]) (hend : s.next i = (succ i).length) (hlow : ¬ s.low i < s.order i) : TInv n succ I ((s.back i).shut i) := by
  obtain ⟨ha, hio, hil, hpi⟩ := path_ahead h hl
  obtain ⟨b1, b2, b3, b4, b5⟩ := back_low h hl
  obtain ⟨pB, pA⟩ := open_parts h hio
  have hli : s.low i = s.order i := Nat.le_antisymm (h.low_le i hio) (Nat.le_of_not_lt hlow)
  have hlp : ∀ v ∈ l, v ∈ s.openL := fun v hv => h.sub.subset (by rw [hl]; simp [hv])
  have hlw : (s.back i).low = s.low := by
    funext w
    rcases b5 w with e | ⟨hwl, e⟩
    · exact e
    · rw [e]; have := h.low_le w (hlp w hwl); have := ha w hwl; exact Nat.min_eq_left (by omega)
  have hBg : ∀ v, v ∈ s.openL.drop (s.openL.idxOf i) → s.group v < 0 := fun v hv => (h.vis ((pB v).1 hv).1).2
  have gB : ∀ v, v ∈ s.openL.drop (s.openL.idxOf i) → ((s.back i).shut i).group v = (i : Int) := fun v hv => if_pos hv
  have gN : ∀ v, v ∉ s.openL.drop (s.openL.idxOf i) → ((s.back i).shut i).group v = s.group v := fun v hv => if_neg hv
  have gO : ∀ v, 0 ≤ s.group v → ((s.back i).shut i).group v = s.group v := fun v hv => gN v (fun e => by have := hBg v e; omega)
  have hoff : ∀ w, w ∈ s.openL → s.order i ≤ s.order w → w ≠ i → w ∉ s.path := fun w _ ho e hp => by
    rcases hpi w hp with e' | e'
    · exact e e'
    · have := ha w e'; omega
  have hhand : ∀ w, w ∈ s.openL → s.order i ≤ s.order w → s.order i ≤ s.low w := fun w hw ho => by
    by_cases e : w = i
    · subst e; omega
    · have := h.hand w hw (hoff w hw ho e) i (by rw [hl]; simp) ho (fun p' hp' _ => by
        rcases hpi p' hp' with rfl | e3
        · exact Nat.le_refl _
        · exact Nat.le_of_lt (ha p' e3))
      omega
  have K1 : ∀ w, w ∈ s.openL.drop (s.openL.idxOf i) → Reach succ i w := fun w hw => h.down i (by rw [hl]; simp) w ((pB w).1 hw).1 ((pB w).1 hw).2
  have K2' : ∀ m w, w ∈ s.openL → s.order i ≤ s.order w → s.order w = m → Reach succ w i := by
    intro m
    induction m using Nat.strongRecOn with
    | ind m ih =>
      intro w hw ho hm
      by_cases e : w = i
      · subst e; exact .refl _
      · obtain ⟨e1, -⟩ := h.off w hw (hoff w hw ho e)
        obtain ⟨u, hu, e2, e3⟩ := h.low_to w hw
        have := hhand w hw ho
        exact e3.trans (ih (s.order u) (by omega) u hu (by omega) rfl)
  have K2 : ∀ w, w ∈ s.openL.drop (s.openL.idxOf i) → Reach succ w i := fun w hw => K2' _ w ((pB w).1 hw).1 ((pB w).1 hw).2 rfl
  have K3 : ∀ w, w ∈ s.openL.drop (s.openL.idxOf i) → ∀ k ∈ succ w, 0 ≤ ((s.back i).shut i).group k := fun w hw k hk => by
    obtain ⟨hwo, hwi⟩ := (pB w).1 hw
    obtain ⟨m, hm, he⟩ := List.getElem_of_mem hk
    have hnx : s.next w = (succ w).length := by
      by_cases e : w = i
      · subst e; exact hend
      · exact (h.off w hwo (hoff w hwo hwi e)).2
    obtain ⟨c1, c2⟩ := h.seen w hwo m (by omega) k (by rw [List.getElem?_eq_getElem hm, he])
    rcases Int.lt_or_le (s.group k) 0 with hg | hg
    · have hko := (h.opens k).2 ⟨c1, hg⟩
      have := c2 hg; have := hhand w hwo hwi
      rw [gB k ((pB k).2 ⟨hko, by omega⟩)]; exact Int.natCast_nonneg _
    · rw [gO k hg]; exact hg
  have hcl : ∀ {u v : Nat}, 0 ≤ s.group u → Reach succ u v → 0 ≤ s.group v := fun hu hr => hr.stays (C := fun v => 0 ≤ s.group v) h.closed hu
  have hib : i ∈ s.openL.drop (s.openL.idxOf i) := (pB i).2 ⟨hio, Nat.le_refl _⟩
  refine ⟨h.bound, h.le_many, h.inj, h.rise.sublist (List.take_sublist _ _), fun v => ?_, ?_, fun v hv => ?_, fun v hv => ?_, fun v hv => ?_, fun p hp w hw hle => ?_, fun w hw hwp => ?_, fun w hw hwp q hq hle hmx => ?_, fun w hw m hm k hk => ?_, fun v hv k hk => ?_, fun u v hu hv => ?_, fun u hu => ?_, h.src, h.next_le, h.fresh⟩
  · show v ∈ s.openL.take (s.openL.idxOf i) ↔ 0 < s.order v ∧ _
    rw [pA]
    constructor
    · rintro ⟨h1, h2⟩
      rw [gN v (fun e => by have := ((pB v).1 e).2; omega)]; exact h.vis h1
    · rintro ⟨h1, h2⟩
      by_cases e : v ∈ s.openL.drop (s.openL.idxOf i)
      · rw [gB v e] at h2; have := Int.natCast_nonneg i; omega
      · rw [gN v e] at h2
        have hvo := (h.opens v).2 ⟨h1, h2⟩
        exact ⟨hvo, Nat.lt_of_not_le (fun e' => e ((pB v).2 ⟨hvo, e'⟩))⟩
  · show ((s.back i).path).Sublist (s.openL.take (s.openL.idxOf i))
    rw [b1]
    have hsub : (l.filter (fun v => decide (s.order v < s.order i))).Sublist (s.openL.filter (fun v => decide (s.order v < s.order i))) := by
      have := h.sub.filter (fun v => decide (s.order v < s.order i))
      rw [hl, List.filter_append] at this
      simpa using this
    rw [List.filter_eq_self.2 (fun v hv => by simpa using ha v hv)] at hsub
    have e : s.openL.filter (fun v => decide (s.order v < s.order i)) = s.openL.take (s.openL.idxOf i) := by
      conv => lhs; rw [← List.take_append_drop (s.openL.idxOf i) s.openL]
      rw [List.filter_append, List.filter_eq_self.2 (fun v hv => by simpa using ((pA v).1 hv).2), List.filter_eq_nil_iff.2 (fun v hv => by simpa using ((pB v).1 hv).2)]
      simp
    rw [← e]; exact hsub
  · by_cases e : v ∈ s.openL.drop (s.openL.idxOf i)
    · exact (h.vis ((pB v).1 e).1).1
    · rw [gN v e] at hv; exact h.gvis v hv
  · show (s.back i).low v ≤ _
    rw [hlw]; exact h.low_le v ((pA v).1 hv).1
  · obtain ⟨hvo, hvi⟩ := (pA v).1 hv
    obtain ⟨u, hu, e1, e2⟩ := h.low_to v hvo
    have := h.low_le v hvo
    exact ⟨u, (pA u).2 ⟨hu, by omega⟩, by show _ = (s.back i).low v; rw [hlw]; exact e1, e2⟩
  · have hp' : p ∈ (s.back i).path := hp
    rw [b1] at hp'
    exact h.down p (by rw [hl]; simp [hp']) w ((pA w).1 hw).1 hle
  · have hwp1 : w ∉ (s.back i).path := hwp
    rw [b1] at hwp1
    obtain ⟨hwo, hwi⟩ := (pA w).1 hw
    show (s.back i).low w < _ ∧ _
    rw [hlw]
    exact h.off w hwo (fun e => (hpi w e).elim (fun e' => by subst e'; omega) hwp1)
  · have hwp1 : w ∉ (s.back i).path := hwp
    have hq1 : q ∈ (s.back i).path := hq
    have hmx1 : ∀ p' ∈ (s.back i).path, s.order p' ≤ s.order w → s.order p' ≤ s.order q := hmx
    rw [b1] at hwp1 hq1 hmx1
    obtain ⟨hwo, hwi⟩ := (pA w).1 hw
    show (s.back i).low q ≤ (s.back i).low w
    rw [hlw]
    refine h.hand w hwo (fun e => (hpi w e).elim (fun e' => by subst e'; omega) hwp1) q (by rw [hl]; simp [hq1]) hle (fun p' hp' hle' => ?_)
    rcases hpi p' hp' with rfl | e
    · omega
    · exact hmx1 p' e hle'
  · obtain ⟨hwo, hwi⟩ := (pA w).1 hw
    obtain ⟨c1, c2⟩ := h.seen w hwo m hm k hk
    refine ⟨c1, fun hg => ?_⟩
    show (s.back i).low w ≤ _
    rw [hlw]
    refine c2 ?_
    by_cases e : k ∈ s.openL.drop (s.openL.idxOf i)
    · exact hBg k e
    · rw [gN k e] at hg; exact hg
  · by_cases e : v ∈ s.openL.drop (s.openL.idxOf i)
    · exact K3 v e k hk
    · rw [gN v e] at hv
      have := h.closed v hv k hk
      rw [gO k this]; exact this
  · by_cases eu : u ∈ s.openL.drop (s.openL.idxOf i) <;> by_cases ev : v ∈ s.openL.drop (s.openL.idxOf i)
    · rw [gB u eu, gB v ev]
      exact ⟨fun _ => ⟨(K2 u eu).trans (K1 v ev), (K2 v ev).trans (K1 u eu)⟩, fun _ => rfl⟩
    · rw [gN v ev] at hv
      rw [gB u eu, gN v ev]
      constructor
      · intro e
        obtain ⟨r, e1, e2⟩ := h.rep v hv
        have : (r : Int) = (i : Int) := by rw [← e1]; exact e.symm
        have hri : r = i := by omega
        subst hri
        have := hBg r hib; omega
      · rintro ⟨-, hr⟩
        have := hcl hv hr; have := hBg u eu; omega
    · rw [gN u eu] at hu
      rw [gN u eu, gB v ev]
      constructor
      · intro e
        obtain ⟨r, e1, e2⟩ := h.rep u hu
        have : (r : Int) = (i : Int) := by rw [← e1]; exact e
        have hri : r = i := by omega
        subst hri
        have := hBg r hib; omega
      · rintro ⟨hr, -⟩
        have := hcl hu hr; have := hBg v ev; omega
    · rw [gN u eu] at hu
      rw [gN v ev] at hv
      rw [gN u eu, gN v ev]
      exact h.scc u v hu hv
  · by_cases eu : u ∈ s.openL.drop (s.openL.idxOf i)
    · exact ⟨i, gB u eu, gB i hib⟩
    · rw [gN u eu] at hu
      obtain ⟨r, e1, e2⟩ := h.rep u hu
      exact ⟨r, by rw [gN u eu]; exact e1, by rw [gO r (by rw [e2]; exact Int.natCast_nonneg _)]; exact e2⟩
end Go.Proofs.Ytoojalcfojflhaa
