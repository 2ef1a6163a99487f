/- Formulas by numbers: what lies in memory while one is made; the walk that picks. -/
import Derived.Test.YtidnpdkibndpkaaRightAll
import Derived.Test.YtidnpdkibndpkaaRProp
import Derived.Laws.EntriesVeiled
namespace Go.Proofs.Ytidnpdkibndpkaa
open Go.RowKit

/-- Formulas in a slice, all in blocks of a kind. -/
def FormsInP (P : Nat → Prop) (R : Form → Value → Prop) (w : World) (sv : Value) (l : List Form) : Prop :=
  ∃ a cap, sv = .slice a l.length cap ∧ l.length ≤ 9223372036854775807 ∧ ∀ j, j < l.length → ∃ b off kv, a = some ⟨b, off, none⟩ ∧ (P b ∧ b < w.heap.size) ∧
    (∀ i, i < 6 → w.cell? ⟨b, off + j * 6 + i, none⟩ = (formCells (l.getD j default) kv)[i]?) ∧ R (l.getD j default) kv
def FormAtP (P : Nat → Prop) (w : World) : Nat → Form → Value → Prop
  | 0, _, _ => False
  | d + 1, f, kv => FormsInP P (FormAtP P w d) w kv f.kids
theorem FormAtP.since {P F : Nat → Prop} {w w' : World} {d : Nat} {f : Form} {kv : Value} (h : FormAtP P w d f kv) (hs : Since F w w') (hF : ∀ k, P k → ¬ F k) : FormAtP P w' d f kv := by
  induction d generalizing f kv with
  | zero => exact h.elim
  | succ d ih =>
    obtain ⟨a, cap, h1, h2, h4⟩ := h
    refine ⟨a, cap, h1, h2, fun j hj => ?_⟩
    obtain ⟨b, off, kv', h5, h6, h7, h8⟩ := h4 j hj
    exact ⟨b, off, kv', h5, ⟨h6.1, Nat.lt_of_lt_of_le h6.2 hs.size⟩, fun i hi => (hs.cell (p := ⟨b, off + j * 6 + i, none⟩) h6.2 (hF b h6.1)).trans (h7 i hi), ih h8⟩
theorem FormAtP.at_ {P : Nat → Prop} {w : World} {d : Nat} {f : Form} {kv : Value} (h : FormAtP P w d f kv) : FormAt w d f kv := by
  induction d generalizing f kv with
  | zero => exact h.elim
  | succ d ih =>
    obtain ⟨a, cap, h1, h2, h4⟩ := h
    refine ⟨a, cap, h1, h2, fun j hj => ?_⟩
    obtain ⟨b, off, kv', h5, h6, h7, h8⟩ := h4 j hj
    exact ⟨b, off, kv', h5, h6.2, h7, ih h8⟩
theorem FormAtP.more {P : Nat → Prop} {w : World} {d : Nat} {f : Form} {kv : Value} (h : FormAtP P w d f kv) : FormAtP P w (d + 1) f kv := by
  induction d generalizing f kv with
  | zero => exact h.elim
  | succ d ih =>
    obtain ⟨a, cap, h1, h2, h4⟩ := h
    refine ⟨a, cap, h1, h2, fun j hj => ?_⟩
    obtain ⟨b, off, kv', h5, h6, h7, h8⟩ := h4 j hj
    exact ⟨b, off, kv', h5, h6, h7, ih h8⟩
theorem FormAtP.le {P : Nat → Prop} {w : World} {d e : Nat} {f : Form} {kv : Value} (h : FormAtP P w d f kv) (hl : d ≤ e) : FormAtP P w e f kv := by
  induction hl with
  | refl => exact h
  | step _ ih => exact ih.more
theorem formAtP_leaf (P : Nat → Prop) (w : World) (k : Int) (p : PropD) : FormAtP P w 1 (.mk k p []) (.slice none 0 0) := ⟨none, 0, rfl, by simp [Form.kids], fun j hj => by simp [Form.kids] at hj⟩

/-- While a formula is made: the numbers that came in, how many were taken, how many of time are left, and the functions. -/
structure MadeSt (w0 w : World) (sv : Value) (a t : Nat) : Prop where
  below : Below w0.heap.size w0 w
  lv : w.heap[w0.heap.size]? = some (.cells #[sv] 33 (0, 0))
  times : w.heap[w0.heap.size + 1]? = some (.cells #[.int .i64 t] 3 (0, 0))
  taken : w.heap[w0.heap.size + 3]? = some (.cells #[.int .i64 a] 3 (0, 0))
  pick : w.heap[w0.heap.size + 4]? = some (.cells #[.func (.func 21) #[] #[.pointer (some ⟨w0.heap.size + 3, 0, none⟩), .pointer (some ⟨w0.heap.size, 0, none⟩)]] 51 (0, 0))
  maker : w.heap[w0.heap.size + 5]? = some (.cells #[.func (.func 22) #[] #[.pointer (some ⟨w0.heap.size + 4, 0, none⟩), .pointer (some ⟨w0.heap.size + 3, 0, none⟩), .pointer (some ⟨w0.heap.size, 0, none⟩), .pointer (some ⟨w0.heap.size + 1, 0, none⟩), .pointer (some ⟨w0.heap.size + 5, 0, none⟩)]] 52 (0, 0))
/-- What may turn. -/
def Turns (w0 : World) (k : Nat) : Prop := k = w0.heap.size + 3 ∨ k = w0.heap.size + 1
theorem MadeSt.size {w0 w : World} {sv : Value} {a t : Nat} (h : MadeSt w0 w sv a t) : w0.heap.size + 6 ≤ w.heap.size := lt_of_block h.maker
theorem MadeSt.since {w0 w w' : World} {sv : Value} {a t : Nat} {F : Nat → Prop} (h : MadeSt w0 w sv a t) (hs : Since F w w') (hF : ∀ k, k < w0.heap.size + 6 → ¬ F k) : MadeSt w0 w' sv a t := by
  have hz := h.size
  have hb : ∀ k, k < w0.heap.size + 6 → w'.heap[k]? = w.heap[k]? := fun k hk => hs.block k (by omega) (hF k hk)
  exact ⟨⟨hs.os.trans h.below.os, hs.tape.trans h.below.tape, hs.output.trans h.below.output, Nat.le_trans h.below.size hs.size, fun k hk => (hb k (by omega)).trans (h.below.block k hk)⟩,
    (hb _ (by omega)).trans h.lv, (hb _ (by omega)).trans h.times, (hb _ (by omega)).trans h.taken, (hb _ (by omega)).trans h.pick, (hb _ (by omega)).trans h.maker⟩
theorem MadeSt.then {w0 w w' : World} {sv : Value} {a t : Nat} (h : MadeSt w0 w sv a t) (hb : Below w.heap.size w w') : MadeSt w0 w' sv a t := h.since (since_of (fun _ => False) hb) (fun _ _ h => h)
theorem MadeSt.take {w0 w : World} {sv : Value} {a t : Nat} (h : MadeSt w0 w sv a t) (b : Nat) : MadeSt w0 (w.setCell ⟨w0.heap.size + 3, 0, none⟩ (.int .i64 b)) sv b t := by
  have hk : ∀ k, k ≠ w0.heap.size + 3 → (w.setCell ⟨w0.heap.size + 3, 0, none⟩ (.int .i64 (b : Nat))).heap[k]? = w.heap[k]? := fun k hk => Below.heap_setCell _ _ _ _ hk
  have hs := set_of_block h.taken 0 (.int .i64 (b : Nat))
  exact ⟨h.below.setCell (by simp) _, (hk _ (by omega)).trans h.lv, (hk _ (by omega)).trans h.times, by simpa using hs, (hk _ (by omega)).trans h.pick, (hk _ (by omega)).trans h.maker⟩
theorem MadeSt.spend {w0 w : World} {sv : Value} {a t : Nat} (h : MadeSt w0 w sv a t) (s : Nat) : MadeSt w0 (w.setCell ⟨w0.heap.size + 1, 0, none⟩ (.int .i64 s)) sv a s := by
  have hk : ∀ k, k ≠ w0.heap.size + 1 → (w.setCell ⟨w0.heap.size + 1, 0, none⟩ (.int .i64 (s : Nat))).heap[k]? = w.heap[k]? := fun k hk => Below.heap_setCell _ _ _ _ hk
  have hs := set_of_block h.times 0 (.int .i64 (s : Nat))
  exact ⟨h.below.setCell (by simp) _, (hk _ (by omega)).trans h.lv, by simpa using hs, (hk _ (by omega)).trans h.taken, (hk _ (by omega)).trans h.pick, (hk _ (by omega)).trans h.maker⟩

/-- What picking tells: less than so many. -/
def TellsPick (w0 : World) (sv : Value) (a t n : Nat) (w : World) (e : Ending) (w' : World) : Prop := ∃ r : Nat, r < n ∧ e = .returned (.int .i64 r) ∧ MadeSt w0 w' sv (a + 1) t ∧ Since (fun k => k = w0.heap.size + 3) w w'
set_option maxHeartbeats 1000000 in
theorem pick_any (w0 w : World) (sv : Value) (l : List Int) (a t n : Nat) (h : MadeSt w0 w sv a t) (hn : NumsAt w0 .u8 sv l) (n1 : 1 ≤ n) (n2 : n ≤ 100) (ha : a ≤ 1000000) :
    Calls Try.prog 21 #[.int .i64 n, .pointer (some ⟨w0.heap.size + 3, 0, none⟩), .pointer (some ⟨w0.heap.size, 0, none⟩)] w (TellsPick w0 sv a t n w) := by
  obtain ⟨la, lc, rfl, hll, hwf, hcell⟩ := hn
  have hst := h.take (a + 1)
  have hsi : Since (fun k => k = w0.heap.size + 3) w (w.setCell ⟨w0.heap.size + 3, 0, none⟩ (.int .i64 ((a + 1 : Nat) : Int))) := Since.setCell (F := fun k => k = w0.heap.size + 3) (p := ⟨w0.heap.size + 3, 0, none⟩) (Since.refl _ _) (.inl rfl) _
  have hat : w.cell? ⟨w0.heap.size + 3, 0, none⟩ = some (.int .i64 a) := cell_of_block h.taken 0
  have hfz : w.frozen? ⟨w0.heap.size + 3, 0, none⟩ = false := free_of_block h.taken 0
  rw [show ((a + 1 : Nat) : Int) = (a : Int) + 1 by omega] at hst hsi
  have HS := Lib.hid hst
  have HI := Lib.hid hsi
  clear hst hsi h
  go_enter Try.func21, Try.ntmps21
  go_upto_region 2 with fail
  generalize hV : World.setCell w _ _ = V at HS HI ⊢
  clear hV hat hfz
  have hat : V.cell? ⟨w0.heap.size + 3, 0, none⟩ = some (.int .i64 ((a : Int) + 1)) := by
    have := cell_of_block HS.out.taken 0
    simpa using this
  have hlv : V.cell? ⟨w0.heap.size, 0, none⟩ = some (.slice la l.length lc) := cell_of_block HS.out.lv 0
  by_cases hc : a < l.length
  · obtain ⟨b, off, rfl, hb, hx⟩ := hcell a hc
    have hx2 := (HS.out.below.cell (p := ⟨b, off + a, none⟩) hb).trans hx
    obtain ⟨x, hxd⟩ : ∃ x, x = l.getD a 0 := ⟨_, rfl⟩
    rw [← hxd] at hx2
    have hxw : (Lit.int .u8 x).wf = true := by
      rw [hxd, List.getD_eq_getElem?_getD, List.getElem?_eq_getElem hc]
      exact hwf _ (List.getElem_mem hc)
    have hx0 : 0 ≤ x := by simp [Lit.wf, IntKind.min, IntKind.max, IntKind.signed] at hxw; omega
    have hx1 : x ≤ 255 := by simp [Lit.wf, IntKind.min, IntKind.max, IntKind.signed, IntKind.bits] at hxw; omega
    have hcl : ¬ (l.length : Int) < (a : Int) + 1 := by omega
    have hal : (a : Int) < l.length := by omega
    clear hx hxd hxw hwf hcell
    go_wp2
    go_ret
    have hm0 := Int.emod_nonneg x (show (n : Int) ≠ 0 by omega)
    have hm1 := Int.emod_lt_of_pos x (show (0 : Int) < (n : Int) by omega)
    refine ⟨(x % (n : Int)).toNat, ?_, ?_, HS.out, HI.out⟩
    · generalize x % (n : Int) = q at hm0 hm1 ⊢
      omega
    · show Ending.returned (.int .i64 (x % (n : Int))) = _
      rw [Int.toNat_of_nonneg hm0]
  · have hcl : (l.length : Int) < (a : Int) + 1 := by omega
    clear hwf hcell
    go_wp2
    go_ret
    exact ⟨0, by omega, rfl, HS.out, HI.out⟩
end Go.Proofs.Ytidnpdkibndpkaa
