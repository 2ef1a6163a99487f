/- A move in a state: the program's answer: what its walk needs, as plain Lean. -/
import Derived.Test.YtliajkheeniljaaGreatDoorZfFinD
import Derived.Test.YtliajkheeniljaaGreatDoorZfPTryP
import Derived.Test.YtliajkheeniljaaGreatDoorZfShort
set_option linter.all false
namespace Go.Proofs.YtliajkheeniljaaGreatDoor
open Go.RowKit
set_option maxRecDepth 100000
set_option maxHeartbeats 16000000
theorem run_made {w V : World} {B mb mc : Nat} {pc r0 r1 r2 r3 dom : Int} {buf : List EntryD} {bv : Value} {m : MachD} {mem : List Int} {bad : Bool} (hbf : BufAt w bv buf) (hwV : Below w.heap.size w V) (hw : w.heap.size ≤ B) (hB : B ≤ V.heap.size) (hrow : V.ownsRow B 3 1 (.slice (some ⟨mb, 0, none⟩) mem.length mc) mem.length (flatC intC mem)) :
  RunR bv (V.alloc (.cells #[.int .i64 pc, .int .i64 r0, .int .i64 r1, .int .i64 r2, .int .i64 r3, bv, .int .i64 m.model, .int .i64 m.bound, .int .i64 dom, .slice (some ⟨mb, 0, none⟩) mem.length mc, .bool bad] 138)) B V.heap.size pc r0 r1 r2 r3 buf bv m dom mem mb mc bad := by
 have hA := (Below.refl V.heap.size V).alloc (Nat.le_refl _) (.cells #[.int .i64 pc, .int .i64 r0, .int .i64 r1, .int .i64 r2, .int .i64 r3, bv, .int .i64 m.model, .int .i64 m.bound, .int .i64 dom, .slice (some ⟨mb, 0, none⟩) mem.length mc, .bool bad] 138)
 have hm := hrow.lt mb rfl
 exact ⟨qhn V _, row_below hrow hA, BufAt.below hbf (qbt hwV hA), hB, by omega, fun hn b o n c e => by have := buf_lt hbf hn b o n c e; exact ⟨by omega, by omega⟩, .inl rfl⟩
theorem ints_ptr {w : World} {B n cap : Nat} {a : Option Addr} {l : List Int} (h : w.ownsRow B 3 1 (.slice a n cap) n (flatC intC l)) (hl : 0 < l.length) : ∃ g, a = some ⟨g, 0, none⟩ := by
 obtain ⟨g, cap', he, -⟩ := row_ptr h (flat_at hl)
 cases he
 exact ⟨g, rfl⟩
theorem threads_ptr {w : World} {B n cap : Nat} {a : Option Addr} {l : List ThreadD} {bs : List Value} (h : w.ownsRow B 48 6 (.slice a n cap) n (threadsC l bs)) (hl : 0 < l.length) : ∃ g, a = some ⟨g, 0, none⟩ := by
 obtain ⟨g, cap', he, -⟩ := row_ptr h (j := 0) (u := .int .i64 (l.getD 0 default).pc) (show (threadsC l bs)[0]? = some (.int .i64 (l.getD 0 default).pc) from (threadsC_at (bs := bs) (j := 0) (i := 0) hl (by omega)).trans rfl)
 cases he
 exact ⟨g, rfl⟩
theorem res_box {w y : World} {g : Nat} (hb : y.heap[g]? = some (.cells #[.slice none 0 0, .slice none 0 0, .bool false] 30 (0, 0))) (hy : Below w.heap.size w y) (hg : w.heap.size ≤ g) :
  (y.cell? ⟨g, 0, none⟩ = some (.slice none 0 0) ∧ y.cell? ⟨g, 1, none⟩ = some (.slice none 0 0) ∧ y.cell? ⟨g, 2, none⟩ = some (.bool false)) ∧ (y.frozen? ⟨g, 0, none⟩ = false ∧ y.frozen? ⟨g, 1, none⟩ = false ∧ y.frozen? ⟨g, 2, none⟩ = false) ∧
   ∀ a b c : Value, (((y.setCell ⟨g, 0, none⟩ a).setCell ⟨g, 1, none⟩ b).setCell ⟨g, 2, none⟩ c).heap[g]? = some (.cells #[a, b, c] 30 (0, 0)) ∧
    Since (fun k => k = g) y (((y.setCell ⟨g, 0, none⟩ a).setCell ⟨g, 1, none⟩ b).setCell ⟨g, 2, none⟩ c) ∧ Below w.heap.size w (((y.setCell ⟨g, 0, none⟩ a).setCell ⟨g, 1, none⟩ b).setCell ⟨g, 2, none⟩ c) := by
 refine ⟨⟨qcb hb 0, qcb hb 1, qcb hb 2⟩, ⟨qfb hb 0, qfb hb 1, qfb hb 2⟩, fun a b c => ?_⟩
 have hset := set_of_block (set_of_block (set_of_block hb 0 a) 1 b) 2 c
 simp only [List.setIfInBounds_toArray, List.set_cons_zero, List.set_cons_succ] at hset
 have hS : Since (fun k => k = g) y (((y.setCell ⟨g, 0, none⟩ a).setCell ⟨g, 1, none⟩ b).setCell ⟨g, 2, none⟩ c) := Since.setCell (F := fun k => k = g) (p := ⟨g, 2, none⟩) (Since.setCell (F := fun k => k = g) (p := ⟨g, 1, none⟩) (Since.setCell (F := fun k => k = g) (p := ⟨g, 0, none⟩) (Since.refl _ y) (.inl rfl) _) (.inl rfl) _) (.inl rfl) _
 exact ⟨hset, hS, hy.trans (hS.below hy.size (fun k e => by omega))⟩
theorem slice_off {α : Type} [Inhabited α] {R : World → α → List Value → Prop} {size : Nat} {w w' : World} {sv : Value} {l : List α} (h : SliceR R size w sv l) (hz : 0 < size) (hR : ∀ x cs, R w x cs → (∃ z, cs[0]? = some (.int .i64 z)) ∧ R w' x cs) {g : Nat} {t : TypeId} {f : Nat × Nat} {a1 a2 : Option Addr} {n1 c1 n2 c2 : Nat} {bad : Bool}
  (hg : w.heap[g]? = some (.cells #[.slice a1 n1 c1, .slice a2 n2 c2, .bool bad] t f)) (hs : Since (fun k => k = g) w w') : SliceR R size w' sv l := by
 obtain ⟨a, cap, h1, h2, h4⟩ := h
 refine ⟨a, cap, h1, h2, fun j hj => ?_⟩
 obtain ⟨b, off, cs, h5, h6, h7, h8, h9⟩ := h4 j hj
 obtain ⟨⟨z, hz0⟩, h10⟩ := hR _ _ h9
 have hne : b ≠ g := by
  intro e
  subst e
  have h11 := (h8 0 hz).trans hz0
  rw [qcb hg] at h11
  have : ∀ j : Nat, (#[Value.slice a1 n1 c1, .slice a2 n2 c2, .bool bad] : Array Value)[j]? ≠ some (.int .i64 z) := by
   intro j
   rcases j with _ | _ | _ | j <;> simp
  exact this _ h11
 exact ⟨b, off, cs, h5, Nat.lt_of_lt_of_le h6 hs.size, h7, fun i hi => (hs.cell (p := ⟨b, off + j * size + i, none⟩) h6 hne).trans (h8 i hi), h10⟩
theorem state_off {w w' : World} {s : StateD} {tv mv : Value} (h : StateAt w s tv mv) {g : Nat} {t : TypeId} {f : Nat × Nat} {a1 a2 : Option Addr} {n1 c1 n2 c2 : Nat} {bad : Bool} (hg : w.heap[g]? = some (.cells #[.slice a1 n1 c1, .slice a2 n2 c2, .bool bad] t f)) (hs : Since (fun k => k = g) w w') : StateAt w' s tv mv :=
 ⟨slice_off h.threads (by decide) (fun x cs ⟨h0, bv, h1, h2⟩ => ⟨⟨x.pc, by rw [h1]; rfl⟩, h0, bv, h1, slice_off h2 (by decide) (fun y ds e => ⟨⟨y.var, by rw [show ds = EntryD.cells y from e]; rfl⟩, e⟩) hg hs⟩) hg hs,
  slice_off h.mem (by decide) (fun y ds e => ⟨⟨y, by rw [show ds = intC y from e]; rfl⟩, e⟩) hg hs⟩
theorem drew_set (w : World) (p : Addr) (u : Value) : (w.setCell p u).drew = w.drew.setCell p u := rfl
theorem drew_out (w : World) (p0 p1 p2 p3 p4 p5 p6 p7 : Addr) (u0 u1 u2 u3 u4 u5 u6 u7 : Value) :
  ((((((((w.setCell p0 u0).setCell p1 u1).setCell p2 u2).setCell p3 u3).setCell p4 u4).setCell p5 u5).setCell p6 u6).setCell p7 u7).drew = (((((((w.drew.setCell p0 u0).setCell p1 u1).setCell p2 u2).setCell p3 u3).setCell p4 u4).setCell p5 u5).setCell p6 u6).setCell p7 u7 := by
 simp only [drew_set]
theorem code_op {c : CodeD} (h : codeOk c = true) {i k : Nat} (hi : i < c.threads.length) (hk : k < (c.threads.getD i []).length) : opOk ((c.threads.getD i []).getD k default).op := by
 unfold codeOk at h
 simp only [Bool.and_eq_true, decide_eq_true_eq] at h
 have h1 := h.2
 rw [List.all_eq_true] at h1
 have h2 := h1 (c.threads.getD i []) (getD_mem hi)
 unfold rowOk at h2
 simp only [Bool.and_eq_true, decide_eq_true_eq] at h2
 obtain ⟨h3, h4⟩ := h2
 rw [List.all_eq_true] at h4
 have h5 := h4 ((c.threads.getD i []).getD k default) (getD_mem hk)
 generalize (c.threads.getD i []).getD k default = y at h5 ⊢
 unfold instrOk at h5
 unfold opOk
 split at h5
 ·omega
 ·split at h5
  ·omega
  ·split at h5
   ·cases h5
   ·unfold fitsI at h5
    simp only [Bool.and_eq_true, decide_eq_true_eq] at h5
    obtain ⟨⟨⟨⟨h6, h7⟩, -⟩, -⟩, -⟩ := h5
    omega
def tryS (c : CodeD) (m : MachD) (s : StateD) (i : Nat) (kind vr : Int) (d : Nat) : Option StateD :=
 if kind = 1 ∧ vr = 0 then stepS c m s i d else if kind = 2 ∧ vr ∈ headsB (s.threads.getD i default).buf m.model then some (flushS s i vr) else none
def TryEnd (w : World) (FW : World → StateD → Value → Value → Prop) (r : Option StateD) (e : Ending) (w' : World) : Prop := Below w.heap.size w w' ∧ ((r = none ∧ e = .returned (.tuple #[.agg #[.slice none 0 0, .slice none 0 0, .bool false], .bool false])) ∨ ∃ s xa xn xc ya yn yc, r = some s ∧ e = .returned (.tuple #[.agg #[.slice xa xn xc, .slice ya yn yc, .bool s.bad], .bool true]) ∧ FW w' s (.slice xa xn xc) (.slice ya yn yc))
theorem buf_src {w : World} {a : Option Addr} {n c : Nat} {ts : List ThreadD} {bs : List Value} {i b o : Nat} {v : Value} (h : SrcOf w (.slice a n c) ts.length 6 (threadsC ts bs)) (ha : a = some ⟨b, o, none⟩) (hi : i < ts.length) (hv : w.cell? ⟨b, o + i * 6 + 5, none⟩ = some v) : v = bs.getD i (.slice none 0 0) := by
 obtain ⟨a', cap, e, -, -, hcell⟩ := h
 cases e
 have hx : (threadsC ts bs)[i * 6 + 5]? = some (bs.getD i (.slice none 0 0)) := (threadsC_at (bs := bs) (i := 5) hi (by omega)).trans rfl
 have hw := hcell _ ha _ _ hx
 have hw2 : w.cell? ⟨b, o + i * 6 + 5, none⟩ = some (bs.getD i (.slice none 0 0)) := by simpa [Addr.add, Nat.add_assoc] using hw
 rw [hv] at hw2
 injection hw2
def ranS (s : StateD) (i : Nat) (r : ThreadD × List Int × Bool) : StateD := ⟨s.threads.set i r.1, r.2.1, r.2.2⟩
theorem tryS_step {c : CodeD} {m : MachD} {s : StateD} {i : Nat} {kind vr : Int} {d : Nat} (hk : kind = 1) (hv : vr = 0) : tryS c m s i kind vr d = (if (s.threads.getD i default).pc < ((c.threads.getD i []).length : Int) then stepT c m s (s.threads.getD i default) ((c.threads.getD i []).getD (s.threads.getD i default).pc.toNat default) d else none).map (ranS s i) := by
 unfold tryS stepS
 rw [if_pos ⟨hk, hv⟩]
 split <;> rfl
theorem tryS_flush {c : CodeD} {m : MachD} {s : StateD} {i : Nat} {kind vr : Int} {d : Nat} (hk : kind = 2) (hh : vr ∈ headsB (s.threads.getD i default).buf m.model → ∃ n, takeB (s.threads.getD i default).buf vr = (some ⟨vr, n⟩, (takeB (s.threads.getD i default).buf vr).2)) :
  tryS c m s i kind vr d = (if vr ∈ headsB (s.threads.getD i default).buf m.model then some (⟨(s.threads.getD i default).pc, (s.threads.getD i default).regs, (takeB (s.threads.getD i default).buf vr).2⟩, s.mem.set vr.toNat ((takeB (s.threads.getD i default).buf vr).1.getD default).n, s.bad) else none).map (ranS s i) := by
 unfold tryS
 rw [if_neg (by omega)]
 by_cases h : vr ∈ headsB (s.threads.getD i default).buf m.model
 ·rw [if_pos ⟨hk, h⟩, if_pos h]
  obtain ⟨n, hn⟩ := hh h
  unfold flushS ranS
  rw [hn]
  rfl
 ·rw [if_neg (fun e => h e.2), if_neg h]; rfl
theorem tryS_none {c : CodeD} {m : MachD} {s : StateD} {i : Nat} {kind vr : Int} {d : Nat} (h1 : ¬ (kind = 1 ∧ vr = 0)) (h2 : ¬ kind = 2) : tryS c m s i kind vr d = none := by
 unfold tryS
 rw [if_neg h1, if_neg (fun e => h2 e.1)]
theorem tryS_do {c : CodeD} {m : MachD} {s : StateD} {x : MoveD} {d : Nat} (hf : fitsOk c m s = true) (h : 0 ≤ x.thread ∧ x.thread < (s.threads.length : Int)) : doS c m s x d = stepR (tryS c m s x.thread.toNat x.kind x.var d) := by
 unfold doS tryS
 rw [if_pos hf, if_pos h]
 by_cases h1 : x.kind = 1 ∧ x.var = 0
 ·rw [if_pos h1, if_pos h1]; rfl
 ·rw [if_neg h1, if_neg h1]
  split <;> rfl
end Go.Proofs.YtliajkheeniljaaGreatDoor
