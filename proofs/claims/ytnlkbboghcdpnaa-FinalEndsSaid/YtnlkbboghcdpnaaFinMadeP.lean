/- A machine by a number. What is so of all states that are come to: plain Lean. States that lie elsewhere than in a box of nothing. The numbers that came in: as many as there is room for. -/
import Derived.Test.YtnlkbboghcdpnaaData
import Derived.Test.YtnlkbboghcdpnaaExpQ
import Derived.Test.YtnlkbboghcdpnaaAwakeF
import Derived.Test.YtnlkbboghcdpnaaSmallW
namespace Go.Proofs.Ytnlkbboghcdpnaa
open Go.RowKit

def machS (n : Int) : MachD := ⟨n % 3, 1 + n / 3 % 3⟩
set_option maxRecDepth 100000 in
set_option maxHeartbeats 4000000 in
theorem machine_any (w : World) (n : Int) (h0 : 0 ≤ n) (h1 : n ≤ 255) : Calls Try.prog 18 #[.int .u8 n] w fun e w' => e = .returned (machV (machS n)) ∧ Below w.heap.size w w' := by
  unfold machV machS
  go_enter Try.func18, Try.ntmps18
  go_wp2
  exact bodyPost_ret (v := .agg #[.int .i64 (n % 3), .int .i64 (1 + n / 3 % 3)]) (by simp [results, Try.results18, go_sem]) rfl ⟨rfl, (Below.refl _ _).alloc (Nat.le_refl _) _⟩
end Go.Proofs.Ytnlkbboghcdpnaa
namespace Go.Proofs.Ytnlkbboghcdpnaa
open Go.RowKit

/-- A move that may be: what it is. -/
theorem moves_mem {c : CodeD} {m : MachD} {s : StateD} {d : Nat} {x : MoveD} (h : x ∈ movesS c m s d) : fitsOk c m s = true ∧ ∃ i, i < s.threads.length ∧ ((x = ⟨1, i, 0⟩ ∧ ∃ t, stepS c m s i d = some t) ∨ ∃ v, x = ⟨2, i, v⟩ ∧ v ∈ headsB (s.threads.getD i default).buf m.model) := by
  unfold movesS at h
  split at h
  · rename_i hf
    refine ⟨hf, ?_⟩
    obtain ⟨i, hi, hx⟩ := List.mem_flatMap.1 h
    refine ⟨i, List.mem_range.1 hi, ?_⟩
    unfold movesT at hx
    rcases List.mem_append.1 hx with hx | hx
    · split at hx
      · rename_i hs
        rw [List.mem_singleton] at hx
        exact .inl ⟨hx, Option.isSome_iff_exists.1 hs⟩
      · simp at hx
    · obtain ⟨v, hv, rfl⟩ := List.mem_map.1 hx
      exact .inr ⟨v, rfl, hv⟩
  · simp at h
/-- What is behind a move that may be. -/
theorem do_moves {c : CodeD} {m : MachD} {s : StateD} {d : Nat} {x : MoveD} (h : x ∈ movesS c m s d) : ∃ i, i < s.threads.length ∧ ((x = ⟨1, i, 0⟩ ∧ ∃ t, stepS c m s i d = some t ∧ doS c m s x d = (t, 0)) ∨ ∃ v, x = ⟨2, i, v⟩ ∧ v ∈ headsB (s.threads.getD i default).buf m.model ∧ doS c m s x d = (flushS s i v, 0)) := by
  obtain ⟨hf, i, hi, hx⟩ := moves_mem h
  refine ⟨i, hi, ?_⟩
  rcases hx with ⟨rfl, t, ht⟩ | ⟨v, rfl, hv⟩
  · refine .inl ⟨rfl, t, ht, ?_⟩
    unfold doS
    rw [if_pos hf, if_pos ⟨by show (0 : Int) ≤ (i : Int); omega, by show (i : Int) < _; omega⟩, if_pos ⟨rfl, rfl⟩]
    rw [show (⟨1, (i : Int), 0⟩ : MoveD).thread.toNat = i from Int.toNat_natCast i, ht]
  · refine .inr ⟨v, rfl, hv, ?_⟩
    unfold doS
    rw [if_pos hf, if_pos ⟨by show (0 : Int) ≤ (i : Int); omega, by show (i : Int) < _; omega⟩, if_neg (by rintro ⟨h, -⟩; exact absurd (show (2 : Int) = 1 from h) (by decide))]
    rw [show (⟨2, (i : Int), v⟩ : MoveD).thread.toNat = i from Int.toNat_natCast i, if_pos ⟨rfl, hv⟩]
theorem putAt_mem {l : List StateD} {t s : StateD} (h : s ∈ (putAt l t).1) : s = t ∨ s ∈ l := by
  unfold putAt at h
  split at h
  · exact .inr h
  · rcases List.mem_append.1 h with h | h
    · exact .inr h
    · exact .inl (List.mem_singleton.1 h)
theorem putAt_room {l : List StateD} {t : StateD} {R : Nat} (h : l.length ≤ R) (hr : (putAt l t).2 < R) : (putAt l t).1.length ≤ R := by
  unfold putAt at hr ⊢
  split
  · exact h
  · rename_i hn
    rw [if_neg hn] at hr
    simp only [] at hr
    rw [List.length_append, List.length_singleton]; omega
section
variable {c : CodeD} {m : MachD} {d R : Nat} {P : StateD → Prop}
theorem innerX_inv {s : StateD} : ∀ (ms : List MoveD) (l : List StateD) (nx : List Int) (r : List StateD × List Int), (∀ x ∈ ms, P (doS c m s x d).1) → (∀ t ∈ l, P t) → l.length ≤ R → innerX c m d R s ms l nx = some r → (∀ t ∈ r.1, P t) ∧ r.1.length ≤ R := by
  intro ms
  induction ms with
  | nil =>
    intro l nx r _ hl hn h
    rw [innerX] at h
    cases h
    exact ⟨hl, hn⟩
  | cons x ms ih =>
    intro l nx r hx hl hn h
    rw [innerX] at h
    split at h
    · cases h
    · rename_i hr
      refine ih _ _ r (fun y hy => hx y (List.mem_cons_of_mem _ hy)) (fun t ht => ?_) (putAt_room hn (by omega)) h
      rcases putAt_mem ht with rfl | ht
      · exact hx x (List.mem_cons_self ..)
      · exact hl t ht
theorem outerX_inv (hs : ∀ s, P s → ∀ x ∈ movesS c m s d, P (doS c m s x d).1) : ∀ (f i : Nat) (l : List StateD) (ml : List (List MoveD)) (nl : List (List Int)) (r : SpaceD), (∀ t ∈ l, P t) → l.length ≤ R → outerX c m d R f i l ml nl = some r → (∀ t ∈ r.states, P t) ∧ r.states.length ≤ R := by
  intro f
  induction f with
  | zero => intro i l ml nl r _ _ h; exact absurd h (by unfold outerX; simp)
  | succ f ih =>
    intro i l ml nl r hl hn h
    unfold outerX at h
    split at h
    · rename_i hi
      cases hx : innerX c m d R (l.getD i default) (movesS c m (l.getD i default) d) l [] with
      | none => rw [hx] at h; cases h
      | some q =>
        rw [hx] at h
        have hp := hl _ (getD_mem (x := default) hi)
        obtain ⟨h1, h2⟩ := innerX_inv (P := P) _ _ _ q (hs _ hp) hl hn hx
        exact ih _ _ _ _ r h1 h2 h
    · cases h
      exact ⟨hl, hn⟩
theorem exploreS_inv (hs : ∀ s, P s → ∀ x ∈ movesS c m s d, P (doS c m s x d).1) (h0 : P (startS c)) : (∀ t ∈ (exploreS c m R d).1.states, P t) ∧ (exploreS c m R d).1.states.length ≤ R := by
  unfold exploreS
  split
  · exact ⟨fun t ht => by simp at ht, Nat.zero_le _⟩
  · rename_i hr
    have h1 : 1 ≤ R := by
      have : ¬ (R : Int) < 1 := fun h => hr (.inr (.inl h))
      omega
    cases hx : outerX c m d R ((R : Int).toNat + 1) 0 [startS c] [] [] with
    | none => exact ⟨fun t ht => by simp at ht, Nat.zero_le _⟩
    | some q => exact outerX_inv hs _ _ _ _ _ q (fun t ht => by rw [List.mem_singleton] at ht; subst ht; exact h0) (show [startS c].length ≤ R from h1) hx
end
/-- So many cells, so many threads. -/
def Sized (c : CodeD) (s : StateD) : Prop := s.mem.length = (startS c).mem.length ∧ s.threads.length = (startS c).threads.length
theorem stepT_mem {c : CodeD} {m : MachD} {s : StateD} {t : ThreadD} {x : InstrD} {d : Nat} {r : ThreadD × List Int × Bool} (h : stepT c m s t x d = some r) : r.2.1.length = s.mem.length := by
  by_cases h1 : x.op = 1
  · rw [stepT_load h1] at h; cases h; rfl
  by_cases h2 : x.op = 2
  · by_cases hm : m.model = 0
    · rw [stepT_store0 h2 hm] at h; cases h; simp
    · cases hp : putOk t.buf m ⟨x.var, evalN t.regs c.domain d x.a⟩ with
      | true => rw [stepT_storeY h2 hm hp] at h; cases h; rfl
      | false => rw [stepT_storeN h2 hm hp] at h; cases h
  by_cases h3 : x.op = 3
  · rw [stepT_set h3] at h; cases h; rfl
  by_cases h4 : x.op = 4
  · rw [stepT_fence h4] at h; split at h <;> cases h; rfl
  by_cases h5 : x.op = 5
  · rw [stepT_weak h5] at h; split at h <;> cases h; rfl
  by_cases h6 : x.op = 6
  · by_cases hv : s.mem.getD x.var.toNat 0 = evalN t.regs c.domain d x.a
    · rw [stepT_casY h6 hv] at h; split at h <;> cases h; simp
    · rw [stepT_casN h6 hv] at h; split at h <;> cases h; rfl
  by_cases h7 : x.op = 7
  · rw [stepT_lock h7] at h; split at h <;> cases h; simp
  by_cases h8 : x.op = 8
  · rw [stepT_unlock h8] at h; split at h <;> cases h; simp
  by_cases h9 : x.op = 9
  · rw [stepT_assert h9] at h; cases h; rfl
  by_cases h12 : x.op = 12
  · rw [stepT_branch h12] at h; cases h; rfl
  by_cases h13 : x.op = 13
  · rw [stepT_jump h13] at h; cases h; rfl
  · rw [stepT_other h1 h2 h3 h4 h5 h6 h7 h8 h9 h12 h13] at h; cases h; rfl
theorem stepS_len {c : CodeD} {m : MachD} {s t : StateD} {i d : Nat} (h : stepS c m s i d = some t) : t.mem.length = s.mem.length ∧ t.threads.length = s.threads.length := by
  unfold stepS at h
  split at h
  · obtain ⟨r, hr, rfl⟩ := Option.map_eq_some_iff.1 h
    exact ⟨stepT_mem hr, by simp⟩
  · cases h
theorem do_len {c : CodeD} {m : MachD} {s : StateD} {d : Nat} {x : MoveD} (h : x ∈ movesS c m s d) : (doS c m s x d).1.mem.length = s.mem.length ∧ (doS c m s x d).1.threads.length = s.threads.length := by
  obtain ⟨i, hi, hx⟩ := do_moves h
  rcases hx with ⟨rfl, t, ht, he⟩ | ⟨v, rfl, hv, he⟩
  · rw [he]; exact stepS_len ht
  · rw [he]; exact ⟨by simp [flushS], by simp [flushS]⟩
theorem explore_sized (c : CodeD) (m : MachD) (R d : Nat) : (∀ t ∈ (exploreS c m R d).1.states, Sized c t) ∧ (exploreS c m R d).1.states.length ≤ R :=
  exploreS_inv (P := Sized c) (fun _ hs _ hx => ⟨(do_len hx).1.trans hs.1, (do_len hx).2.trans hs.2⟩) ⟨rfl, rfl⟩
theorem start_len (c : CodeD) : (startS c).mem.length ≤ 4 ∧ (startS c).threads.length ≤ 4 := by
  unfold startS
  split
  · rename_i h
    have := codeOk_bounds h
    simp only [List.length_replicate]; omega
  · simp
end Go.Proofs.Ytnlkbboghcdpnaa
namespace Go.Proofs.Ytnlkbboghcdpnaa
open Go.RowKit Go.ChangeShapes Go.WideShapes Go.ChangeAt

theorem slice_nil {α : Type} [Inhabited α] {R : World → α → List Value → Prop} {size g : Nat} {X Z : World} {v : Value} {l : List α} (hs : Since (fun k => k = g) X Z) (ht : ∀ j, X.cell? ⟨g, j, none⟩ = none ∨ X.cell? ⟨g, j, none⟩ = some (.slice none 0 0)) (hR : ∀ x cs, R X x cs → R Z x cs)
    (hne : ∀ x cs, R X x cs → ∃ i, i < size ∧ ∃ v, cs[i]? = some v ∧ v ≠ .slice none 0 0) (h : SliceR R size X v l) : SliceR R size Z v l := by
  obtain ⟨a, cap, h1, h2, h4⟩ := h
  refine ⟨a, cap, h1, h2, fun j hj => ?_⟩
  obtain ⟨b, off, cs, h5, h6, h7, h8, h9⟩ := h4 j hj
  have hbg : b ≠ g := fun e => by
    subst e
    obtain ⟨i, hi, v, hv, hvn⟩ := hne _ _ h9
    have h := h8 i hi
    rw [hv] at h
    rcases ht (off + j * size + i) with e | e
    · rw [e] at h; cases h
    · rw [e] at h; cases h; exact hvn rfl
  exact ⟨b, off, cs, h5, Nat.lt_of_lt_of_le h6 hs.size, h7, fun i hi => (hs.cell (p := ⟨b, off + j * size + i, none⟩) h6 hbg).trans (h8 i hi), hR _ _ h9⟩
section
variable {X Z : World} {g : Nat}
theorem ints_nil (hs : Since (fun k => k = g) X Z) (ht : ∀ j, X.cell? ⟨g, j, none⟩ = none ∨ X.cell? ⟨g, j, none⟩ = some (.slice none 0 0)) {v : Value} {l : List Int} (h : IntsAt X v l) : IntsAt Z v l :=
  slice_nil hs ht (fun _ _ h => h) (fun x cs h => ⟨0, by omega, .int .i64 x, by have h : cs = [.int .i64 x] := h; rw [h]; rfl, by intro e; cases e⟩) h
theorem buf_nil (hs : Since (fun k => k = g) X Z) (ht : ∀ j, X.cell? ⟨g, j, none⟩ = none ∨ X.cell? ⟨g, j, none⟩ = some (.slice none 0 0)) {v : Value} {l : List EntryD} (h : BufAt X v l) : BufAt Z v l :=
  slice_nil hs ht (fun _ _ h => h) (fun x cs h => ⟨0, by omega, .int .i64 x.var, by have h : cs = x.cells := h; rw [h]; rfl, by intro e; cases e⟩) h
theorem threads_nil (hs : Since (fun k => k = g) X Z) (ht : ∀ j, X.cell? ⟨g, j, none⟩ = none ∨ X.cell? ⟨g, j, none⟩ = some (.slice none 0 0)) {v : Value} {l : List ThreadD} (h : ThreadsAt X v l) : ThreadsAt Z v l :=
  slice_nil hs ht (fun x cs ⟨h0, bv, e, h⟩ => ⟨h0, bv, e, buf_nil hs ht h⟩) (fun x cs ⟨_, bv, e, _⟩ => ⟨0, by omega, .int .i64 x.pc, by rw [e]; rfl, by intro e; cases e⟩) h
theorem states_nil (hs : Since (fun k => k = g) X Z) (ht : ∀ j, X.cell? ⟨g, j, none⟩ = none ∨ X.cell? ⟨g, j, none⟩ = some (.slice none 0 0)) {v : Value} {l : List StateD} (h : StatesAt X v l) : StatesAt Z v l :=
  slice_nil hs ht (fun x cs ⟨tv, mv, e, h⟩ => ⟨tv, mv, e, threads_nil hs ht h.threads, ints_nil hs ht h.mem⟩) (fun x cs ⟨tv, mv, e, _⟩ => ⟨2, by omega, .bool x.bad, by rw [e]; rfl, by intro e; cases e⟩) h
theorem nil_box {t : TypeId} {f : Nat × Nat} (h : X.heap[g]? = some (.cells #[.slice none 0 0, .slice none 0 0, .slice none 0 0] t f)) : ∀ j, X.cell? ⟨g, j, none⟩ = none ∨ X.cell? ⟨g, j, none⟩ = some (.slice none 0 0) := fun j => by
  rw [cell_of_block h]
  rcases (by omega : j = 0 ∨ j = 1 ∨ j = 2 ∨ 3 ≤ j) with rfl | rfl | rfl | h
  · exact .inr rfl
  · exact .inr rfl
  · exact .inr rfl
  · exact .inl (Array.getElem?_eq_none (by simpa using h))
end
/-- A box that states are put into, laid or not yet. -/
structure Sp (V X : World) (mb : Option Nat) : Prop where
  below : Below V.heap.size V X
  box : ∀ b, mb = some b → X.heap[b]? = some (.cells #[.slice none 0 0, .slice none 0 0, .slice none 0 0] 42 (0, 0)) ∧ V.heap.size ≤ b
section
variable {V X Y : World} {mb : Option Nat}
theorem Sp.call (h : Sp V X mb) (hb : Below X.heap.size X Y) : Sp V Y mb := ⟨below_then h.below hb, fun b hm => ⟨(hb.block _ (lt_of_block (h.box b hm).1)).trans (h.box b hm).1, (h.box b hm).2⟩⟩
theorem Sp.lay (h : Sp V X none) : Sp V (X.alloc (.cells #[.slice none 0 0, .slice none 0 0, .slice none 0 0] 42)) (some X.heap.size) :=
  ⟨h.below.alloc h.below.size _, fun b hm => by cases hm; exact ⟨heap_alloc_new X _, h.below.size⟩⟩
theorem Sp.put {gs : Nat} (h : Sp V X (some gs)) (sv mv nv : Value) : Below V.heap.size V (setAll X gs 0 [sv, mv, nv]) ∧ (setAll X gs 0 [sv, mv, nv]).heap[gs]? = some (.cells #[sv, mv, nv] 42 (0, 0)) ∧ ∀ (v : Value) (l : List StateD), StatesAt X v l → StatesAt (setAll X gs 0 [sv, mv, nv]) v l := by
  obtain ⟨h1, h2⟩ := h.box gs rfl
  have s := setAll_since (g := gs) [sv, mv, nv] X 0
  exact ⟨h.below.trans (s.below h.below.size (fun k hk => by omega)), setAll_new (cs := [.slice none 0 0, .slice none 0 0, .slice none 0 0]) _ rfl h1, fun v l hl => states_nil s (nil_box h1) hl⟩
end
/-- A slice that came in has room for what it has. -/
theorem cap_open {H : Type} {enc : TypeId × Value → H} {P : Program} {w : World} {t e : TypeId} {k : IntKind} {a : Option Addr} {len cap : Nat} {d : DataW H} {p : List MemPlace} (ht : P.underlying t = some (.slice e)) (he : P.underlying e = some (.int k)) (hc : P.cellsOf e = 1)
    (h : DataW.Trod enc P w 0 (fun _ => true) true t (.slice a len cap) d p) : len ≤ cap := by
  obtain ⟨fuel, hf⟩ := h
  rcases open_ints ht he hc hf with ⟨hcs, _⟩ | ⟨x, l, c, zs, hcs, _, hl, hm, hz, _, hcell, hws⟩
  · simp [Value.cells] at hcs
    obtain ⟨rfl, rfl, rfl⟩ := hcs
    exact Nat.le_refl _
  · simp [Value.cells] at hcs
    obtain ⟨rfl, rfl, rfl⟩ := hcs
    exact hl
/-- All states that are come to are few, and alike in size. -/
theorem states_few (c : CodeD) (m : MachD) (d : Nat) : (∀ s ∈ (exploreS c m 400 d).1.states, s.mem.length = (startS c).mem.length) ∧ (∀ s ∈ (exploreS c m 400 d).1.states, fewS s) ∧ (exploreS c m 400 d).1.states.length ≤ 400 := by
  have h := explore_sized c m 400 d
  rw [show ((400 : Nat) : Int) = 400 from rfl] at h
  obtain ⟨h1, h2⟩ := h
  have h3 := start_len c
  exact ⟨fun s hs => (h1 s hs).1, fun s hs => ⟨by rw [(h1 s hs).1]; omega, by rw [(h1 s hs).2]; omega⟩, h2⟩
end Go.Proofs.Ytnlkbboghcdpnaa
