/- The table's grow: the walk. -/
import Derived.Test.YtbpkcdgpplnglaaTabWalk
import Derived.StillTailTactics
namespace Go.Proofs.Ytbpkcdgpplnglaa
open Go.RowKit

theorem tab_info3 : (Try.prog.info? 3).map (fun i => (i.zero, i.size, i.bytes)) = some (some (.int .i64 0), 1, 8) := by kernel_rfl
theorem tab_info9 : (Try.prog.info? 9).map (fun i => (i.zero, i.size, i.bytes)) = some (some (.string ByteArray.empty), 1, 16) := by kernel_rfl

theorem made_zero (n : Nat) : (madeCells (Value.int .i64 0).cells (n * 1)).toList = natsV (List.replicate n 0) := by
  apply List.ext_getElem?
  intro i
  simp only [madeCells, natsV, Nat.mul_one]
  by_cases h : i < n <;> simp [h, Value.cells, Nat.mod_one]

/-- A slot is written. -/
theorem TabV.store {w : World} {B : Nat} {F : Nat → Prop} {b kv sb sc keys slots room} (h : TabV w B F b kv sb sc keys slots room) (r x : Nat) :
    TabV (w.setCell ⟨sb, r, none⟩ (.int .i64 (x : Int))) B F b kv sb sc keys (slots.set r x) room := by
  refine ⟨?_, ?_, ?_, h.fb, h.fsb, h.fk, h.ne, h.base, ?_⟩
  · rw [Below.heap_setCell _ _ _ _ (fun e => h.ne e.symm)]; simpa using h.block
  · exact (Since.setCell (F := fun k => k = sb) (Since.refl _ _) (.inl rfl) _).row h.krow (fun k hk => (h.fk k hk).2.2)
  · have := (h.srow.stored r (.int .i64 (x : Int))).1
    simpa [natsV, List.map_set] using this
  · intro k hk; simpa [World.setCell] using h.lt k hk
/-- The slots are put in place of the elder ones. -/
theorem TabV.slots {w : World} {B : Nat} {F : Nat → Prop} {b kv sb sc keys slots room} (h : TabV w B F b kv sb sc keys slots room) {sl : List Nat} {sb' sc' : Nat}
    (hs : w.ownsRow B 3 1 (.slice (some ⟨sb', 0, none⟩) sl.length sc') sl.length (natsV sl)) (hne : sb' ≠ b) (hk : ∀ k, kv.ownBlock = some k → k ≠ sb') (hF : F sb') :
    TabV (w.setCell ⟨b, 1, none⟩ (.slice (some ⟨sb', 0, none⟩) sl.length sc')) B F b kv sb' sc' keys sl room := by
  refine ⟨?_, ?_, ?_, h.fb, hF, fun k hkk => ⟨(h.fk k hkk).1, (h.fk k hkk).2.1, hk k hkk⟩, hne, h.base, ?_⟩
  · rw [set_of_block h.block]; simp
  · exact (Since.setCell (F := fun k => k = b) (Since.refl _ _) (.inl rfl) _).row h.krow (fun k hk => (h.fk k hk).2.1)
  · exact (Since.setCell (F := fun k => k = b) (Since.refl _ _) (.inl rfl) _).row hs (fun k hk => by simp [Value.ownBlock] at hk; omega)
  · intro k hk; simpa [World.setCell] using h.lt k hk
/-- More blocks may be the table's. -/
theorem TabV.wide {w : World} {B : Nat} {F G : Nat → Prop} {b kv sb sc keys slots room} (h : TabV w B F b kv sb sc keys slots room) (hG : ∀ k, F k → G k) (hl : ∀ k, G k → k < w.heap.size) : TabV w B G b kv sb sc keys slots room :=
  ⟨h.block, h.krow, h.srow, hG _ h.fb, hG _ h.fsb, fun k hk => ⟨hG _ (h.fk k hk).1, (h.fk k hk).2⟩, h.ne, h.base, hl⟩

set_option maxHeartbeats 1000000 in
theorem grow_any {w : World} {B : Nat} {F : Nat → Prop} {b kv sb sc keys slots room} (h : TabV w B F b kv sb sc keys slots room) (m : Nat) (hn : slots.length = 2 ^ m) (hm : slots.length < 1073741824) (hB : B ≤ w.heap.size)
    (hnd : keys.Nodup) (hkl : keys.length ≤ slots.length) (hks : ∀ k ∈ keys, k.size ≤ maxLen) :
    Calls Try.prog 17 #[.pointer (some ⟨b, 0, none⟩)] w fun e w' => e = .returned (.tuple #[]) ∧
      ∃ sb' sc' slots', TabV w' B (fun k => F k ∨ k = w.heap.size) b kv sb' sc' keys slots' room ∧ slots'.length = 2 * slots.length ∧ Placed startOf keys keys.length slots' ∧ Since F w w' := by
  obtain ⟨ka, kcap, rfl, hkc1, hkc2⟩ := row_slice h.krow
  obtain ⟨i0, hi, hz0, hz1, hz2⟩ := info_parts tab_info3
  have hc1 : w.cell? ⟨b, 1, none⟩ = some (.slice (some ⟨sb, 0, none⟩) slots.length sc) := cell_of_block h.block 1
  have hb := lt_of_block h.block
  have HN := Lib.hid hn
  have h2n : 0 < slots.length := by rw [hn]; exact Nat.two_pow_pos m
  clear hn
  have hb2 : i0.bytes * (2 * slots.length) ≤ 281474976710656 := by rw [hz2]; omega
  clear hz2
  unfold maxLen at hkc2
  go_enter Try.func17, Try.ntmps17
  go_wp2_with (at_make; refine wpList_make_full _ rfl _ _ 40 rfl B 3 i0 (.int .i64 0) 1 Try.underlying40 hi hz0 hz1 .i64 .i64 _ _ (2 * slots.length) rfl rfl (by omega) (by omega) hb2 (by unfold maxLen; omega) hB ?_; intro w1 hown1 hgr1; have hc2 : w1.cell? ⟨b, 1, none⟩ = some (.slice (some ⟨sb, 0, none⟩) slots.length sc) := hgr1.cell hc1 (by simp); have hf2 : w1.frozen? ⟨b, 1, none⟩ = false := (World.frozen?_of_block (hgr1.block b hb (by simp))).trans (free_of_block h.block 1); have hc0 : w1.cell? ⟨b, 0, none⟩ = some (.slice ka keys.length kcap) := hgr1.cell (cell_of_block h.block 0) (by simp))
  go_loopg [19] keys.length (fun g s19 wr => ∃ (i : Nat) (sl : List Nat), i ≤ keys.length ∧ Hid (g = keys.length - i) ∧ s19 = .int .i64 i ∧
    TabV wr B (fun k => F k ∨ k = w.heap.size) b (.slice ka keys.length kcap) w.heap.size (2 * slots.length) keys sl room ∧ Hid (sl.length = 2 * slots.length) ∧ Placed startOf keys i sl ∧ Since (fun k => F k) w wr)
  case atStart =>
    have hS1 : Since (fun _ => False) w w1 := (Since.refl _ _).grown hgr1 (by simp)
    have hz : w.heap.size < w1.heap.size := by
      have := hown1.lt w.heap.size (by simp [Value.ownBlock])
      omega
    have hr2 : w1.ownsRow B 3 1 (.slice (some ⟨w.heap.size, 0, none⟩) (List.replicate (2 * slots.length) 0).length (2 * slots.length)) (List.replicate (2 * slots.length) 0).length (natsV (List.replicate (2 * slots.length) 0)) := by
      rw [← made_zero, List.length_replicate]; exact hown1
    have hT1 := ((h.since hS1 (fun _ _ h => h)).wide (G := fun k => F k ∨ k = w.heap.size) (fun _ h => .inl h) (by rintro k (hk | rfl); exact Nat.lt_of_lt_of_le (h.lt k hk) hS1.size; exact hz)).slots hr2 (by omega) (fun k hk => by have := h.lt k (h.fk k hk).1; omega) (.inr rfl)
    rw [List.length_replicate] at hT1
    refine ⟨0, List.replicate (2 * slots.length) 0, Nat.zero_le _, by simp [Hid], by simp, hT1, by simp [Hid], placed_zero _ _ hnd _ (by omega), ?_⟩
    exact (hS1.mono (fun _ _ h => h.elim)).setCell (.inl h.fb) _
  case round =>
    obtain ⟨i, sl, hi1, HG, rfl, hT, HL, hP, hS⟩ := hrel
    by_cases hlt : i < keys.length
    · obtain ⟨kb, cap', he, -, -⟩ := row_some hT.krow (by omega)
      obtain ⟨d, hd⟩ := hP.ends keys[i] (startOf keys[i] sl.length)
      have hsl : 0 < sl.length := by rw [HL.out]; omega
      obtain ⟨r, hr⟩ : ∃ r, r = (startOf keys[i] sl.length + d) % sl.length := ⟨_, rfl⟩
      have hrl : r < sl.length := by rw [hr]; exact Nat.mod_lt _ hsl
      have hcall := fun n => (slot_any (wr.drewN n) B _ b keys sl room ⟨_, _, _, hT.drewN n⟩ keys[i] (hks _ (List.getElem_mem hlt)) d (m + 1) r (by rw [HL.out, HN.out, Nat.pow_succ]; omega) (by rw [HL.out]; omega) hd (fun j => Nat.le_trans (hP.small j) hi1) hr).mono (R' := fun e w' => e = .returned (.int .i64 (r : Int)) ∧ w' = wr.drewN n) (fun _ _ ⟨a, b⟩ => ⟨a, b.symm⟩)
      have HR := Lib.hid hr
      have HD := Lib.hid hd
      have hkey : wr.cell? ⟨kb, i, none⟩ = some (.string keys[i]) := by
        rw [he] at hT
        rw [hT.krow.cellAt i (by omega)]
        simp [strsV, List.getElem?_eq_getElem hlt]
      have hce : ∃ v, wr.cell? ⟨w.heap.size, r, none⟩ = some v := by
        rw [hT.srow.cellAt r (by omega)]
        simp [natsV, List.getElem?_eq_getElem hrl]
      obtain ⟨v0, hce⟩ := hce
      have hfz : wr.frozen? ⟨w.heap.size, r, none⟩ = false := hT.srow.frozenAt r
      have hc1r : wr.cell? ⟨b, 1, none⟩ = some (.slice (some ⟨w.heap.size, 0, none⟩) sl.length (2 * slots.length)) := cell_of_block hT.block 1
      have HE : Hid (ka = some ⟨kb, 0, none⟩ ∧ True) := by simpa [Hid] using (show ka = some ⟨kb, 0, none⟩ from by cases he; rfl)
      obtain rfl := HE.out.1
      have hkb : keys.length ≤ 9223372036854775807 := by omega
      have hw64 : IntKind.i64.wrap ((i : Int) + 1) = (i : Int) + 1 := IntWalk.i64_in _ (by omega)
      clear hr hd hc1 hc2 hf2 hc0 hgr1 hown1 he
      obtain ⟨key, hkeyd⟩ : ∃ key, key = keys[i] := ⟨_, rfl⟩
      rw [← hkeyd] at hkey hcall
      clear hkeyd
      go_wp2
      refine wp_region_still_tail 10 (by kernel_rfl) (by kernel_rfl) ?_
      simp only [List.take_succ_cons, List.take_zero, List.drop_succ_cons, List.drop_zero]
      repeat still_step
      still_call (hcall 1)
      repeat still_step
      refine wpStill_nil ?_
      change wpList _ _ _ _ _ wr.drew
      go_wp2
      go_roundg (gk - 1)
      case measure => rw [HG.out]; omega
      case rel =>
        refine ⟨i + 1, sl.set r (i + 1), by omega, by rw [HG.out]; simp [Hid]; omega, by simp, ?_, by simpa [Hid] using HL.out, ?_, ?_⟩
        · exact (hT.store r (i + 1)).drewN 1
        · have := hP.add hlt (by rw [HL.out]; omega) HD.out
          rw [← HR.out] at this; exact this
        · exact Since.drew _ (hS.setCell (.inr (Nat.le_refl _)) _)
    · go_wp2
      go_end0
      have : i = keys.length := by omega
      subst this
      exact ⟨rfl, _, _, sl, hT, HL.out, hP, hS⟩
end Go.Proofs.Ytbpkcdgpplnglaa
