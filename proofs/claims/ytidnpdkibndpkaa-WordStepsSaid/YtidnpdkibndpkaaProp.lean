/- May an atom be: package logic's way: the walk. -/
import Derived.Test.YtidnpdkibndpkaaForms
import Derived.Test.YtidnpdkibndpkaaLogic
import Derived.Deep.RegionWith
import Derived.Deep.RegionHeld3
import Derived.Deep.DeepCutAuto
import Derived.Laws.EntriesVeiled
namespace Go.Proofs.Ytidnpdkibndpkaa
open Go.RowKit

def sh (s : List UInt8) (f : FuncId) : Value := .agg #[.string ⟨s.toArray⟩, .func (.func f) #[] #[]]
def shapesL : List (Int × Value) := [(1, sh [109, 101, 109] 67), (2, sh [114, 101, 103] 68), (3, sh [97, 116] 69), (4, sh [101, 109, 112, 116, 121] 66), (6, sh [101, 110, 100, 101, 100] 66), (5, sh [98, 97, 100] 70)]
def TellsShapes (w : World) (e : Ending) (w' : World) : Prop := ∃ b, e = .returned (.map (some b)) ∧ MapInts w' b shapesL ∧ w.heap.size ≤ b ∧ Below w.heap.size w w'

set_option maxRecDepth 100000 in
set_option maxHeartbeats 1000000 in
theorem shapes_any (w : World) : Calls Try.prog 63 #[] w (TellsShapes w) := by
  have hmm := @run_makeMap Try.prog
  have h0 : MapInts (w.alloc (.map #[] 0)) w.heap.size [] := ⟨#[], 0, heap_alloc_new w _, rfl⟩
  have hB0 : Below w.heap.size w (w.alloc (.map #[] 0)) := (Below.refl _ _).alloc (Nat.le_refl _) _
  go_enter Try.func63, Try.ntmps63
  go_wp2_with (refine wpList_insert_ints _ rfl _ _ _ 92 rfl 3 90 .i64 Try.underlying92 Try.underlying3 w.heap.size _ rfl _ rfl _ rfl h0 ?_; clear h0; intro w1 h0 hs1 hz1; replace hB0 := hB0.trans (hs1.below hB0.size (fun k hk => by omega)); clear hs1 hz1)
  go_ret
  exact ⟨w.heap.size, rfl, h0, Nat.le_refl _, hB0⟩

/-- A call that tells the places of an atom's numbers: fields of the atom that lies at block a. -/
def TellsPlaces (a : Nat) (L : List Nat) (w : World) (e : Ending) (w' : World) : Prop :=
  ∃ sa c, e = .returned (.slice sa L.length L.length) ∧ (0 < L.length → sa = some ⟨c, 0, none⟩ ∧ w.heap.size ≤ c ∧ w'.heap[c]? = some (.cells (L.map fun j => Value.pointer (some ⟨a, j, none⟩)).toArray 96 (0, 0))) ∧ Below w.heap.size w w'
theorem places1 (a : Nat) (w : World) : Calls Try.prog 66 #[.pointer (some ⟨a, 0, none⟩)] w (TellsPlaces a [1] w) := by
  go_enter Try.func66, Try.ntmps66
  go_wp2
  go_ret
  exact ⟨_, w.heap.size, rfl, fun _ => ⟨rfl, Nat.le_refl _, heap_alloc_new w _⟩, (Below.refl _ _).alloc (Nat.le_refl _) _⟩
theorem places2 (a : Nat) (w : World) : Calls Try.prog 67 #[.pointer (some ⟨a, 0, none⟩)] w (TellsPlaces a [2, 3] w) := by
  go_enter Try.func67, Try.ntmps67
  go_wp2
  go_region
  all_goals
    go_wp2
    go_ret
    exact ⟨_, w.heap.size, rfl, fun _ => ⟨rfl, Nat.le_refl _, heap_alloc_new w _⟩, ((Below.refl _ _).alloc (Nat.le_refl _) _).drew⟩
theorem places3 (a : Nat) (w : World) : Calls Try.prog 68 #[.pointer (some ⟨a, 0, none⟩)] w (TellsPlaces a [1, 2, 3] w) := by
  go_enter Try.func68, Try.ntmps68
  go_wp2
  go_region
  all_goals
    go_wp2
    go_ret
    exact ⟨_, w.heap.size, rfl, fun _ => ⟨rfl, Nat.le_refl _, heap_alloc_new w _⟩, ((Below.refl _ _).alloc (Nat.le_refl _) _).drew⟩
theorem places4 (a : Nat) (w : World) : Calls Try.prog 69 #[.pointer (some ⟨a, 0, none⟩)] w (TellsPlaces a [1, 3] w) := by
  go_enter Try.func69, Try.ntmps69
  go_wp2
  go_region
  all_goals
    go_wp2
    go_ret
    exact ⟨_, w.heap.size, rfl, fun _ => ⟨rfl, Nat.le_refl _, heap_alloc_new w _⟩, ((Below.refl _ _).alloc (Nat.le_refl _) _).drew⟩
theorem places5 (a : Nat) (w : World) : Calls Try.prog 70 #[.pointer (some ⟨a, 0, none⟩)] w (TellsPlaces a [] w) := by
  go_enter Try.func70, Try.ntmps70
  go_wp2
  go_ret
  exact ⟨_, 0, rfl, fun h => absurd h (by simp), Below.refl _ _⟩

theorem zero_shape (w : World) : (zeroValue 90).run Try.prog w = .ok (.agg #[.string ByteArray.empty, .nilFunc]) w := by kernel_rfl

set_option maxRecDepth 100000 in
set_option maxHeartbeats 2000000 in
theorem prop_none (w : World) (p : PropD) (s : ByteArray) (hs : s = ByteArray.empty) (hk : mfind shapesL p.kind = none) : Calls Try.prog 45 #[p.val] w fun e w' => e = .returned (.bool false) ∧ Below w.heap.size w w' := by
  obtain ⟨p1, p2, p3, p4⟩ := p
  simp only at hk
  unfold PropD.val
  have HK := Lib.hid hk
  clear hk
  go_enter Try.func45, Try.ntmps45
  go_wp2
  have hbx : ∀ j v, (#[Value.int .i64 p1, .int .i64 p2, .int .i64 p3, .int .i64 p4])[j]? = some v → (w.alloc (.cells #[.int .i64 p1, .int .i64 p2, .int .i64 p3, .int .i64 p4] 23)).cell? ⟨w.heap.size, j, none⟩ = some v := fun j v h => (cell_of_block (heap_alloc_new w _) j).trans h
  have HBX := Lib.hid hbx
  clear hbx
  have HS := Lib.hid hs
  clear hs
  go_wp2_with fail
  go_cut [3, 4] (fun s3 s4 wx => ∃ g : Nat, s3 = .pointer (some ⟨g, 0, none⟩) ∧ s4 = .bool false ∧ wx.cell? ⟨g, 1, none⟩ = some (.nilFunc) ∧ Below w.heap.size w wx ∧ w.heap.size < wx.heap.size ∧ g < wx.heap.size ∧
    (∀ j v, (#[Value.int .i64 p1, .int .i64 p2, .int .i64 p3, .int .i64 p4])[j]? = some v → wx.cell? ⟨w.heap.size, j, none⟩ = some v))
  case first =>
    go_region_with (first | (go_at_call 63; refine (shapes_any _).mono ?_; rintro e w2 ⟨b, rfl, hm, hb, hbel⟩; have hx0 : w2.cell? ⟨w.heap.size, 0, none⟩ = some (.int .i64 p1) := (hbel.cell (p := ⟨w.heap.size, 0, none⟩) (by simp [World.drew]; try omega)).trans (by first | exact HBX.out 0 _ rfl | exact (Below.cell (((Below.refl _ _).alloc (Nat.le_refl _) _)) (p := ⟨w.heap.size, 0, none⟩) (by simp)).trans (HBX.out 0 _ rfl)); have hx0' : ∀ o, (w2.alloc o).cell? ⟨w.heap.size, 0, none⟩ = some (.int .i64 p1) := fun o => (Below.cell ((Below.refl w2.heap.size w2).alloc (Nat.le_refl _) o) (p := ⟨w.heap.size, 0, none⟩) (World.block_lt_of_cell? _ _ hx0)).trans hx0; have hlt2 : w.heap.size < w2.heap.size := World.block_lt_of_cell? _ _ hx0; have hl1 : (Instr.lookup 92 (.map (some b)) (.int .i64 p1) true).run Try.prog w2 = .ok (.tuple #[.agg #[.string s, .nilFunc], .bool false]) w2 := (run_lookup_ints hm Try.underlying92 Try.underlying3 (zero_shape _) p1 true).trans (by rw [HK.out, HS.out]; rfl); have hl2 : ∀ o, (Instr.lookup 92 (.map (some b)) (.int .i64 p1) true).run Try.prog (w2.alloc o) = .ok (.tuple #[.agg #[.string s, .nilFunc], .bool false]) (w2.alloc o) := fun o => (run_lookup_ints (hm.below ((Below.refl _ _).alloc (Nat.le_refl _) o)) Try.underlying92 Try.underlying3 (zero_shape _) p1 true).trans (by rw [HK.out, HS.out]; rfl); have h30 : w2.cell? ⟨w.heap.size + 1, 0, none⟩ = some (.string ByteArray.empty) := (hbel.cell (p := ⟨w.heap.size + 1, 0, none⟩) (by simp [World.drew])).trans (cell_of_block (heap_alloc2_new w (.cells #[.int .i64 p1, .int .i64 p2, .int .i64 p3, .int .i64 p4] 23) (.cells #[.string ByteArray.empty, .nilFunc] 90)) 0); have h31 : w2.cell? ⟨w.heap.size + 1, 1, none⟩ = some .nilFunc := (hbel.cell (p := ⟨w.heap.size + 1, 1, none⟩) (by simp [World.drew])).trans (cell_of_block (heap_alloc2_new w (.cells #[.int .i64 p1, .int .i64 p2, .int .i64 p3, .int .i64 p4] 23) (.cells #[.string ByteArray.empty, .nilFunc] 90)) 1); have h3f : ∀ j, w2.frozen? ⟨w.heap.size + 1, j, none⟩ = false := fun j => (hbel.frozen (p := ⟨w.heap.size + 1, j, none⟩) (by simp [World.drew])).trans (free_of_block (heap_alloc2_new w (.cells #[.int .i64 p1, .int .i64 p2, .int .i64 p3, .int .i64 p4] 23) (.cells #[.string ByteArray.empty, .nilFunc] 90)) j); have HB2 := Lib.hid (((((Below.refl w.heap.size w).alloc (Nat.le_refl _) (.cells #[.int .i64 p1, .int .i64 p2, .int .i64 p3, .int .i64 p4] 23)).alloc (by simp) (.cells #[.string ByteArray.empty, .nilFunc] 90)).drew).trans (hbel.mono (by simp [World.drew]; omega))); have HP2 : Hid (∀ j v, (#[Value.int .i64 p1, .int .i64 p2, .int .i64 p3, .int .i64 p4])[j]? = some v → w2.cell? ⟨w.heap.size, j, none⟩ = some v) := fun j v h => (hbel.cell (p := ⟨w.heap.size, j, none⟩) (by simp [World.drew]; omega)).trans ((Below.cell ((Below.refl _ _).alloc (Nat.le_refl _) _) (p := ⟨w.heap.size, j, none⟩) (by simp)).trans (HBX.out j v h)); have HT2 : Hid (w2.heap[w.heap.size + 1]? = some (.cells #[.string ByteArray.empty, .nilFunc] 90 (0, 0))) := (hbel.block (w.heap.size + 1) (by simp [World.drew])).trans (heap_alloc2_new w _ _)) | (go_at_call 63; refine (shapes_any _).mono ?_; rintro e w2 ⟨b, rfl, hm, hb, hbel⟩; have hx0 : w2.cell? ⟨w.heap.size, 0, none⟩ = some (.int .i64 p1) := (hbel.cell (p := ⟨w.heap.size, 0, none⟩) (by simp [World.drew]; try omega)).trans (by first | exact HBX.out 0 _ rfl | exact (Below.cell (((Below.refl _ _).alloc (Nat.le_refl _) _)) (p := ⟨w.heap.size, 0, none⟩) (by simp)).trans (HBX.out 0 _ rfl)); have hx0' : ∀ o, (w2.alloc o).cell? ⟨w.heap.size, 0, none⟩ = some (.int .i64 p1) := fun o => (Below.cell ((Below.refl w2.heap.size w2).alloc (Nat.le_refl _) o) (p := ⟨w.heap.size, 0, none⟩) (World.block_lt_of_cell? _ _ hx0)).trans hx0; have hlt2 : w.heap.size < w2.heap.size := World.block_lt_of_cell? _ _ hx0; have hl1 : (Instr.lookup 92 (.map (some b)) (.int .i64 p1) true).run Try.prog w2 = .ok (.tuple #[.agg #[.string s, .nilFunc], .bool false]) w2 := (run_lookup_ints hm Try.underlying92 Try.underlying3 (zero_shape _) p1 true).trans (by rw [HK.out, HS.out]; rfl); have hl2 : ∀ o, (Instr.lookup 92 (.map (some b)) (.int .i64 p1) true).run Try.prog (w2.alloc o) = .ok (.tuple #[.agg #[.string s, .nilFunc], .bool false]) (w2.alloc o) := fun o => (run_lookup_ints (hm.below ((Below.refl _ _).alloc (Nat.le_refl _) o)) Try.underlying92 Try.underlying3 (zero_shape _) p1 true).trans (by rw [HK.out, HS.out]; rfl); have HB2 := Lib.hid ((((Below.refl w.heap.size w).alloc (Nat.le_refl _) (.cells #[.int .i64 p1, .int .i64 p2, .int .i64 p3, .int .i64 p4] 23)).drew).trans (hbel.mono (by simp [World.drew]))); have HP2 : Hid (∀ j v, (#[Value.int .i64 p1, .int .i64 p2, .int .i64 p3, .int .i64 p4])[j]? = some v → w2.cell? ⟨w.heap.size, j, none⟩ = some v) := fun j v h => (hbel.cell (p := ⟨w.heap.size, j, none⟩) (by simp [World.drew])).trans (HBX.out j v h)))
    all_goals
      go_wp2_with fail
      go_meet
      case rel =>
        first
          | exact ⟨w2.heap.size, rfl, rfl, cell_of_block (heap_alloc_new w2 _) 1, HB2.out.alloc HB2.out.size _, by simp; omega, by simp, fun j v h => (Below.cell ((Below.refl _ _).alloc (Nat.le_refl _) _) (p := ⟨w.heap.size, j, none⟩) (by simpa using hlt2)).trans (HP2.out j v h)⟩
          | exact ⟨w.heap.size + 1, rfl, rfl, cell_of_block (set_of_block (set_of_block HT2.out 0 _) 1 _) 1, (HB2.out.setCell (by simp) _).setCell (by simp) _, by simp [World.setCell]; omega, by have := lt_of_block HT2.out; simpa [World.setCell] using this,
              fun j v h => ((Since.setCell (F := fun k => k = w.heap.size + 1) (Since.setCell (F := fun k => k = w.heap.size + 1) (Since.refl _ w2) (p := ⟨w.heap.size + 1, 0, none⟩) (.inl rfl) _) (p := ⟨w.heap.size + 1, 1, none⟩) (.inl rfl) _).cell (p := ⟨w.heap.size, j, none⟩) hlt2 (by simp)).trans (HP2.out j v h)⟩
  case rest =>
    obtain ⟨g, rfl, rfl, hg, hB, -⟩ := hcut
    go_wp2
    go_ret
    exact ⟨rfl, hB⟩
end Go.Proofs.Ytidnpdkibndpkaa
