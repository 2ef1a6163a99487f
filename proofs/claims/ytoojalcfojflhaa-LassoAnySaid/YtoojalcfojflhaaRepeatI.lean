/- A list of so many numbers that are alike. -/
import Derived.Test.YtoojalcfojflhaaWalk
import Derived.Laws.MathBits
import Derived.Laws.CopyOwn
import Derived.IntWalk
namespace Go.Proofs.Ytoojalcfojflhaa
open Go.RowKit

theorem and_small (n : Nat) (hn : n ≤ 1000000000) : bits BinOp.and IntKind.u64 (n : Int) 4294967295 = (n : Int) := by
  rw [and_low32 _ (by omega) (by omega)]; omega
set_option maxHeartbeats 1000000 in
theorem mul64_any (n : Nat) (hn : n ≤ 1000000000) (w : World) : Calls Try.prog 49 #[.int .u64 1, .int .u64 n] w fun e w' => e = .returned (.tuple #[.int .u64 0, .int .u64 n]) ∧ w = w' := by
  have e1 : bits BinOp.and IntKind.u64 1 4294967295 = 1 := by decide +kernel
  have e0 : bits BinOp.and IntKind.u64 0 4294967295 = 0 := by decide +kernel
  have e2 := and_small n hn
  have e3 : (n : Int) / 4294967296 = 0 := by omega
  have e4 : IntKind.u64.wrap (n : Int) = (n : Int) := IntWalk.u64_in _ (by omega)
  have e5 : IntKind.u64.wrap 0 = 0 := by decide +kernel
  go_enter Try.func49, Try.ntmps49
  go_wp2
  go_ret2
  exact ⟨rfl, rfl⟩
set_option maxHeartbeats 1000000 in
theorem mul_any (n : Nat) (hn : n ≤ 1000000000) (w : World) : Calls Try.prog 44 #[.int .u64 1, .int .u64 n] w fun e w' => e = .returned (.tuple #[.int .u64 0, .int .u64 n]) ∧ w = w' := by
  have h := fun W => mul64_any n hn W
  have H := Lib.hid h
  have e4 : IntKind.u64.wrap (n : Int) = (n : Int) := IntWalk.u64_in _ (by omega)
  clear h
  go_enter Try.func44, Try.ntmps44
  go_wp2_with (go_at_call 49; refine (H.out _).mono ?_; rintro e w' ⟨rfl, rfl⟩)
  go_ret2
  exact ⟨rfl, rfl⟩

/-- So many are told. -/
def filled (b : Int) (n m : Nat) : List Value := (List.range n).map (fun j => Value.int .i64 (if j < m then b else 0))
theorem filled_zero (b : Int) (n : Nat) : filled b n 0 = (madeCells (Value.int .i64 0).cells (n * 1)).toList := by
  apply List.ext_getElem?
  intro i
  simp only [madeCells, filled, Nat.mul_one]
  by_cases h : i < n <;> simp [h, Value.cells, Nat.mod_one]
theorem filled_len (b : Int) (n m : Nat) : (filled b n m).length = n := by simp [filled]
theorem filled_splice (b : Int) (n m k : Nat) (h : m + k ≤ n) : splice (filled b n m) m (List.replicate k (.int .i64 b)) = filled b n (m + k) := by
  apply List.ext_getElem?
  intro i
  unfold splice
  simp only [List.length_replicate]
  by_cases h1 : i < m
  · rw [List.getElem?_append_left (by rw [List.length_take, filled_len]; omega), List.getElem?_take_of_lt h1]
    have h2 : i < n := by omega
    have h3 : i < m + k := by omega
    simp [filled, h1, h2, h3]
  · rw [List.getElem?_append_right (by rw [List.length_take, filled_len]; omega), List.length_take, filled_len, show min m n = m by omega]
    by_cases h2 : i < m + k
    · rw [List.getElem?_append_left (by rw [List.length_replicate]; omega)]
      have h3 : i < n := by omega
      have h4 : i - m < k := by omega
      simp [filled, h2, h3, h4]
    · rw [List.getElem?_append_right (by rw [List.length_replicate]; omega), List.getElem?_drop, List.length_replicate]
      have e : m + k + (i - m - k) = i := by omega
      rw [e]
      by_cases h3 : i < n
      · simp [filled, h1, h2, h3]
      · simp [filled, h3]
theorem filled_full (b : Int) (n : Nat) : filled b n n = (List.replicate n b).map (Value.int .i64) := by
  apply List.ext_getElem?
  intro i
  by_cases h : i < n <;> simp [filled, h]
theorem row_whole {w : World} {B : Nat} {e : TypeId} {g n : Nat} {xs : List Value} (h : w.ownsRow B e 1 (.slice (some ⟨g, 0, none⟩) n n) n xs) : w.heap[g]? = some (.cells xs.toArray e (0, 0)) := by
  rcases h.2 with ⟨he, _⟩ | ⟨g', cap, cur, he, _, hg, _, _, hs, ht⟩
  · cases he
  · cases he
    rw [List.take_of_length_le (by simp [hs])] at ht
    rw [hg, ← ht]
theorem int_size : (Try.prog.info? 3).map (·.size) = some 1 := by kernel_rfl
set_option maxRecDepth 100000 in
set_option maxHeartbeats 2000000 in
theorem repeat_any (b : Int) (n : Nat) (hn1 : 1 ≤ n) (hn : n ≤ 1000000000) (w : World) (a : Addr) (h : w.cell? a = some (.int .i64 b)) (ha : a.block < w.heap.size) (_hap : a.spot = none) :
    Calls Try.prog 34 #[.slice (some a) 1 1, .int .i64 n] w (fun e w' => ∃ g, e = .returned (.slice (some ⟨g, 0, none⟩) n n) ∧ w'.heap[g]? = some (.cells (intsA n fun _ => b) 3 (0, 0)) ∧ w.heap.size ≤ g ∧ Below w.heap.size w w') := by
  obtain ⟨i0, hi, hz0, hz1, hz2⟩ := info_parts int_info
  have hb2 : i0.bytes * n ≤ 281474976710656 := by rw [hz2]; omega
  have hmul := fun W => mul_any n hn W
  have HM := Lib.hid hmul
  have e4 : IntKind.u64.wrap (n : Int) = (n : Int) := IntWalk.u64_in _ (by omega)
  have e5 : IntKind.i64.wrap (n : Int) = (n : Int) := IntWalk.i64_in _ (by omega)
  have hneg : ¬ (n : Int) < 0 := by omega
  clear hz2 hmul
  go_enter Try.func34, Try.ntmps34
  go_wp2_with (first | (go_at_call 44; refine (HM.out _).mono ?_; rintro e w' ⟨rfl, rfl⟩) | (at_make; refine wpList_make_full _ rfl _ _ 23 rfl w.heap.size 3 i0 (.int .i64 0) 1 Try.underlying23 hi hz0 hz1 .i64 .i64 _ _ n rfl rfl (by omega) (by omega) hb2 (by unfold maxLen; omega) (Nat.le_refl _) ?_; intro w1 hown1 hgr1; have hblk := row_whole hown1; rw [← filled_zero b] at hblk; have hB1 : Below w.heap.size w w1 := ((Since.refl (fun _ => False) w).grown hgr1 (by simp)).below (Nat.le_refl _) (fun k h => h.elim); have h1c : w1.cell? a = some (.int .i64 b) := (hB1.cell ha).trans h; clear hown1 hgr1) | (with_reducible refine wpList_copy_splice rfl (.tmp 31) (.tmp 32) 23 23 rfl 3 Try.underlying23 int_size (some ⟨w.heap.size, 0, none⟩) (some a) n n 1 1 rfl rfl w.heap.size 0 (filled b n 0) 3 hblk [.int .i64 b] (by simp [Nat.min_def]; omega) (fun _ => ⟨rfl, a, rfl, fun j v hj => by (cases j with | zero => (simp at hj; subst hj; rw [Addr.add]; split <;> simp_all) | succ j => simp at hj)⟩) (by simp [filled]; omega) (by simp [Value.oneCell']) w.heap.size w hB1 (Nat.le_refl _) ?_; intro w2 H2 hB2; clear hblk hB1 h1c))
  go_loopg [8] (n - 1) (fun g s8 wr => ∃ m : Nat, 1 ≤ m ∧ m ≤ n ∧ Hid (g + m = n) ∧ s8 = .int .i64 m ∧ Hid (wr.heap[w.heap.size]? = some (.cells (filled b n m).toArray 3 (0, 0))) ∧ Below w.heap.size w wr)
  case atStart => exact ⟨1, Nat.le_refl _, hn1, by rw [Hid]; omega, rfl, by have := H2.out; rw [show ([Value.int .i64 b] : List Value) = List.replicate 1 (.int .i64 b) from rfl, filled_splice b n 0 1 (by omega)] at this; exact this, hB2⟩
  case round =>
    obtain ⟨m, hm1, hmn, HG, rfl, HX, hB⟩ := hrel
    clear H2 hB2
    by_cases hlt : m < n
    · have hne : ¬ n = m := by omega
      have hcells : ∀ j, j < min m (n - m) → wr.drew.cell? ⟨w.heap.size, j, none⟩ = some (.int .i64 b) := by
        intro j hj
        rw [cell_of_block (w := wr.drew) HX.out j]
        have h1 : j < n := by omega
        have h2 : j < m := by omega
        simp [filled, h1, h2]
      have s1 : Hid (wr.drew.heap[w.heap.size]? = some (.cells (filled b n m).toArray 3 (0, 0))) := HX.out
      have s2 : Hid ((List.replicate (min m (n - m)) (Value.int .i64 b)).length = Nat.min m (n - m)) := by rw [Hid, List.length_replicate]
      have s3 : Hid (0 < (List.replicate (min m (n - m)) (Value.int .i64 b)).length → (some ⟨w.heap.size, m, none⟩ : Option Addr) = some ⟨w.heap.size, m, none⟩ ∧ ∃ ad, (some ⟨w.heap.size, 0, none⟩ : Option Addr) = some ad ∧ ∀ j v, (List.replicate (min m (n - m)) (Value.int .i64 b))[j]? = some v → wr.drew.cell? (ad.add j) = some v) := by
        refine fun _ => ⟨rfl, _, rfl, fun j v hj => ?_⟩
        rw [List.getElem?_replicate] at hj
        split at hj
        · cases hj; rw [show (⟨w.heap.size, 0, none⟩ : Addr).add j = ⟨w.heap.size, j, none⟩ from by unfold Addr.add; split <;> simp_all]; exact hcells j (by assumption)
        · cases hj
      have s4 : Hid (m + (List.replicate (min m (n - m)) (Value.int .i64 b)).length ≤ (filled b n m).length) := by rw [Hid, List.length_replicate, filled_len]; omega
      have s5 : Hid (∀ v ∈ List.replicate (min m (n - m)) (Value.int .i64 b), v.oneCell' = true) := by intro v hv; rw [List.mem_replicate] at hv; rw [hv.2]; rfl
      have s6 : Hid (Below w.heap.size w wr.drew) := hB.drew
      clear hcells hB
      go_wp2
      go_region_law (refine step_copy_splice rfl (.tmp 41) (.tmp 44) 23 23 rfl 3 Try.underlying23 int_size (some ⟨w.heap.size, m, none⟩) (some ⟨w.heap.size, 0, none⟩) (n - m) (n - m) m n (by simp [Act.eval, Act.put]) (by simp [Act.eval, Act.put]) w.heap.size m (filled b n m) 3 s1.out (List.replicate (min m (n - m)) (.int .i64 b)) s2.out (fun h => ⟨rfl, (s3.out h).2⟩) s4.out s5.out w.heap.size w s6.out (Nat.le_refl _) ?_; intro w2 H2 hB2)
      go_wp2
      go_roundg (n - (m + min m (n - m)))
      case measure => have := HG.out; omega
      case rel =>
        refine ⟨m + min m (n - m), by omega, by omega, by rw [Hid]; omega, ?_, ?_, hB2⟩
        · rw [IntWalk.i64_in _ (by omega)]; rfl
        · have := H2.out
          rw [filled_splice b n m _ (by omega)] at this
          exact this
    · obtain rfl : m = n := by omega
      have HB := Lib.hid hB
      clear hB
      go_wp2
      go_ret
      refine ⟨w.heap.size, rfl, ?_, Nat.le_refl _, HB.out⟩
      have h1 : wr.heap[w.heap.size]? = some (.cells (filled b m m).toArray 3 (0, 0)) := HX.out
      have h2 : (filled b m m).toArray = intsA m fun _ => b := by
        unfold filled intsA
        congr 1
        apply List.map_congr_left
        intro j hj
        rw [if_pos (by simpa using hj)]
      rwa [h2] at h1
set_option maxRecDepth 100000 in
set_option maxHeartbeats 2000000 in
theorem repeat_zero (b : Int) (w : World) (a : Addr) (h : w.cell? a = some (.int .i64 b)) (ha : a.block < w.heap.size) (_hap : a.spot = none) :
    Calls Try.prog 34 #[.slice (some a) 1 1, .int .i64 0] w (fun e w' => ∃ g, e = .returned (.slice (some ⟨g, 0, none⟩) 0 0) ∧ w'.heap[g]? = some (.cells (intsA 0 fun _ => b) 3 (0, 0)) ∧ w.heap.size ≤ g ∧ Below w.heap.size w w') := by
  obtain ⟨i0, hi, hz0, hz1, hz2⟩ := info_parts int_info
  have hb2 : i0.bytes * 0 ≤ 281474976710656 := by omega
  have hmul := fun W => mul_any 0 (by omega) W
  have HM := Lib.hid hmul
  have e4 : IntKind.u64.wrap 0 = 0 := by decide +kernel
  have e5 : IntKind.i64.wrap 0 = 0 := by decide +kernel
  clear hz2 hmul
  go_enter Try.func34, Try.ntmps34
  go_wp2_with (first | (go_at_call 44; refine (HM.out _).mono ?_; rintro e w' ⟨rfl, rfl⟩) | (at_make; refine wpList_make_full _ rfl _ _ 23 rfl w.heap.size 3 i0 (.int .i64 0) 1 Try.underlying23 hi hz0 hz1 .i64 .i64 _ _ 0 rfl rfl (by omega) (by omega) hb2 (by unfold maxLen; omega) (Nat.le_refl _) ?_; intro w1 hown1 hgr1; have hblk := row_whole hown1; rw [← filled_zero b] at hblk; have hB1 : Below w.heap.size w w1 := ((Since.refl (fun _ => False) w).grown hgr1 (by simp)).below (Nat.le_refl _) (fun k h => h.elim); have h1c : w1.cell? a = some (.int .i64 b) := (hB1.cell ha).trans h; clear hown1 hgr1) | (with_reducible refine wpList_copy_splice rfl (.tmp 31) (.tmp 32) 23 23 rfl 3 Try.underlying23 int_size (some ⟨w.heap.size, 0, none⟩) (some a) 0 0 1 1 rfl rfl w.heap.size 0 (filled b 0 0) 3 hblk [] (by simp) (fun h => absurd h (by simp)) (by simp) (by simp) w.heap.size w hB1 (Nat.le_refl _) ?_; intro w2 H2 hB2; clear hblk hB1 h1c))
  go_loopg [8] 0 (fun g s8 wr => Hid (g = 0) ∧ s8 = .int .i64 0 ∧ Hid (wr.heap[w.heap.size]? = some (.cells (filled b 0 0).toArray 3 (0, 0))) ∧ Hid (Below w.heap.size w wr))
  case atStart => exact ⟨rfl, rfl, by have := H2.out; exact this, hB2⟩
  case round =>
    obtain ⟨-, rfl, HX, HB⟩ := hrel
    clear H2 hB2
    go_wp2
    go_ret
    exact ⟨w.heap.size, rfl, HX.out, Nat.le_refl _, HB.out⟩
theorem repeat_all (b : Int) (n : Nat) (hn : n ≤ 1000000000) (w : World) (a : Addr) (h : w.cell? a = some (.int .i64 b)) (ha : a.block < w.heap.size) (hap : a.spot = none) :
    Calls Try.prog 34 #[.slice (some a) 1 1, .int .i64 n] w (fun e w' => ∃ g, e = .returned (.slice (some ⟨g, 0, none⟩) n n) ∧ w'.heap[g]? = some (.cells (intsA n fun _ => b) 3 (0, 0)) ∧ w.heap.size ≤ g ∧ Below w.heap.size w w') := by
  by_cases h0 : n = 0
  · subst h0
    exact repeat_zero b w a h ha hap
  · exact repeat_any b n (by omega) hn w a h ha hap
end Go.Proofs.Ytoojalcfojflhaa
