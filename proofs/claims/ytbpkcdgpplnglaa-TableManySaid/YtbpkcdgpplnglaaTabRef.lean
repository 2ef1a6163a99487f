/- The document's table: its walks; and both tables' contracts in the same words. -/
import Derived.Test.YtbpkcdgpplnglaaTabAdd
namespace Go.Proofs.Ytbpkcdgpplnglaa
open Go.RowKit

/-- The document's table in memory. -/
structure RefAt (w : World) (B : Nat) (F : Nat → Prop) (b : Nat) (keys : List ByteArray) (room : Nat) : Prop where
  ex : ∃ kv, w.heap[b]? = some (.cells #[kv, .int .i64 room] 39 (0, 0)) ∧ w.ownsRow B 9 1 kv keys.length (strsV keys) ∧ (∀ k, kv.ownBlock = some k → F k ∧ k ≠ b)
  fb : F b
  base : B ≤ b
  lt : ∀ k, F k → k < w.heap.size
theorem RefAt.since {w w' : World} {B : Nat} {F G : Nat → Prop} {b keys room} (h : RefAt w B F b keys room) (hs : Since G w w') (hG : ∀ k, F k → ¬ G k) : RefAt w' B F b keys room :=
  let ⟨kv, h1, h2, h3⟩ := h.ex
  ⟨⟨kv, (hs.block b (h.lt b h.fb) (hG b h.fb)).trans h1, hs.row h2 (fun k hk => hG k (h3 k hk).1), h3⟩, h.fb, h.base, fun k hk => Nat.lt_of_lt_of_le (h.lt k hk) hs.size⟩
theorem RefAt.drewN {w : World} {B F b keys room} (h : RefAt w B F b keys room) (n : Nat) : RefAt (w.drewN n) B F b keys room :=
  h.since (Since.drewN (fun _ => False) n (Since.refl _ _)) (fun _ _ h => h)
theorem RefAt.keys_ {w B F b keys room} (h : RefAt w B F b keys room) :
    ∃ a cap, w.cell? ⟨b, 0, none⟩ = some (.slice a keys.length cap) ∧ w.cell? ⟨b, 1, none⟩ = some (.int .i64 room) ∧ keys.length ≤ 9223372036854775807 ∧
      ∀ j, j < keys.length → ∃ g, a = some ⟨g, 0, none⟩ ∧ w.cell? ⟨g, j, none⟩ = some (.string (keys.getD j ByteArray.empty)) := by
  obtain ⟨kv, hb, hko, -⟩ := h.ex
  obtain ⟨a, cap, rfl, h1, h2⟩ := row_slice hko
  refine ⟨a, cap, cell_of_block hb 0, cell_of_block hb 1, by unfold maxLen at h2; omega, ?_⟩
  intro j hj
  obtain ⟨g, cap', he, -, -⟩ := row_some hko (by omega)
  cases he
  refine ⟨g, rfl, ?_⟩
  rw [hko.cellAt j (by omega)]
  simp [strsV, List.getElem?_map, List.getD, List.getElem?_eq_getElem hj]

set_option maxHeartbeats 400000 in
theorem ref_find {w B F b keys room} (h : RefAt w B F b keys room) (key : ByteArray) (r : Int) (hr : FindIs keys key r) :
    Calls Try.prog 14 #[.pointer (some ⟨b, 0, none⟩), .string key] w fun e w' => e = .returned (.int .i64 r) ∧ w = w' := by
  obtain ⟨a, cap, hc0, -, hl, hk⟩ := h.keys_
  have HR := Lib.hid hr
  have hneg : ∀ i, i < keys.length → keys.getD i ByteArray.empty = key → (∀ j, j < i → keys.getD j ByteArray.empty ≠ key) → r = i := by
    intro i hi he hj
    rcases hr with ⟨i', h1, h2, rfl, h3⟩ | ⟨rfl, h3⟩
    · rcases Nat.lt_trichotomy i i' with hlt | rfl | hgt
      · exact absurd he (h3 i hlt)
      · rfl
      · exact absurd h2 (hj i' hgt)
    · exact absurd he (h3 i hi)
  have hend : (∀ j, j < keys.length → keys.getD j ByteArray.empty ≠ key) → r = -1 := by
    intro hj
    rcases hr with ⟨i', h1, h2, rfl, h3⟩ | ⟨rfl, h3⟩
    · exact absurd h2 (hj i' h1)
    · rfl
  clear hr h
  go_enter Try.func14, Try.ntmps14
  go_wp2
  go_loopg [5] keys.length (fun g s5 wr => wr = w ∧ ∃ i : Nat, i ≤ keys.length ∧ Hid (g = keys.length - i) ∧ s5 = .int .i64 i ∧ Hid (∀ j, j < i → keys.getD j ByteArray.empty ≠ key))
  case atStart => exact ⟨rfl, 0, Nat.zero_le _, rfl, rfl, fun j hj => by omega⟩
  case round =>
    obtain ⟨rfl, i, hi, HG, rfl, HJ⟩ := hrel
    by_cases hlt : i < keys.length
    · obtain ⟨g, rfl, hcell⟩ := hk i hlt
      have hn := hneg i hlt
      obtain ⟨ki, hki⟩ : ∃ ki, ki = keys.getD i ByteArray.empty := ⟨_, rfl⟩
      have HK := Lib.hid hki
      rw [← hki] at hcell hn
      have HN := Lib.hid hn
      clear hki hn hneg hend hk
      by_cases hkey : ki = key
      · have HE : Hid (r = i) := HN.out hkey HJ.out
        clear HN
        subst hkey
        go_wp2
        go_ret
        exact ⟨by rw [HE.out]; rfl, rfl⟩
      · clear HN
        have hkb := bytes_ne hkey
        go_wp2
        go_roundg (gk - 1)
        case measure => rw [HG.out]; omega
        case rel =>
          refine ⟨rfl, i + 1, by omega, by rw [HG.out]; simp [Hid]; omega, by go_num, ?_⟩
          intro j hj
          rcases Nat.lt_or_eq_of_le (Nat.le_of_lt_succ hj) with h1 | rfl
          · exact HJ.out j h1
          · rw [← HK.out]; exact hkey
    · have hr1 : r = -1 := hend fun j hj => HJ.out j (by omega)
      subst hr1
      clear hneg hend hk
      go_wp2
      go_ret
      exact ⟨rfl, rfl⟩

theorem ref_at_out {w B F b keys room} (h : RefAt w B F b keys room) (i : Int) (hi : i < 0 ∨ (keys.length : Int) ≤ i) : Calls Try.prog 16 #[.pointer (some ⟨b, 0, none⟩), .int .i64 i] w fun e w' => e = .returned (.string ByteArray.empty) ∧ w = w' := by
  obtain ⟨a, cap, hc0, -, hl, -⟩ := h.keys_
  clear h
  by_cases h0 : i < 0
  · clear hi
    go_enter Try.func16, Try.ntmps16
    go_wp2
    go_ret
    exact ⟨rfl, rfl⟩
  · have hi' : (keys.length : Int) ≤ i := by omega
    clear hi
    go_enter Try.func16, Try.ntmps16
    go_wp2
    go_ret
    exact ⟨rfl, rfl⟩

theorem ref_at_in {w B F b keys room} (h : RefAt w B F b keys room) (i : Nat) (hi : i < keys.length) : Calls Try.prog 16 #[.pointer (some ⟨b, 0, none⟩), .int .i64 i] w fun e w' => e = .returned (.string (keys.getD i ByteArray.empty)) ∧ w = w' := by
  obtain ⟨a, cap, hc, -, hl, hk⟩ := h.keys_
  obtain ⟨g, rfl, hcell⟩ := hk i hi
  obtain ⟨ki, hki⟩ : ∃ ki, ki = keys.getD i ByteArray.empty := ⟨_, rfl⟩
  rw [← hki] at hcell ⊢
  clear hki hk h
  go_enter Try.func16, Try.ntmps16
  go_wp2
  go_ret
  exact ⟨rfl, rfl⟩

theorem ref_add_old {w B F b keys room} (h : RefAt w B F b keys room) (key : ByteArray) (r : Int) (hr : FindIs keys key r) (h0 : 0 ≤ r) :
    Calls Try.prog 15 #[.pointer (some ⟨b, 0, none⟩), .string key] w fun e w' => e = .returned (.tuple #[.int .i64 r, .bool false]) ∧ ∃ n, w' = w.drewN n := by
  go_enter Try.func15, Try.ntmps15
  go_wp2_with (go_at_call 14; refine (ref_find h key r hr).mono ?_; rintro e w' ⟨rfl, rfl⟩)
  go_ret2
  exact ⟨rfl, 0, rfl⟩

theorem ref_add_full {w B F b keys room} (h : RefAt w B F b keys room) (key : ByteArray) (hr : FindIs keys key (-1)) (h0 : room ≤ keys.length) :
    Calls Try.prog 15 #[.pointer (some ⟨b, 0, none⟩), .string key] w fun e w' => e = .returned (.tuple #[.int .i64 (-1), .bool false]) ∧ ∃ n, w' = w.drewN n := by
  have hf := ref_find h key (-1) hr
  obtain ⟨a, cap, hc0, hc1, hl, -⟩ := h.keys_
  clear h hr
  have h0' : (room : Int) ≤ keys.length := by omega
  go_enter Try.func15, Try.ntmps15
  go_wp2_with (go_at_call 14; refine hf.mono ?_; rintro e w' ⟨rfl, rfl⟩)
  go_quiet (fail)
  go_wp2
  go_ret2
  exact ⟨rfl, _, rfl⟩

set_option maxHeartbeats 1000000 in
theorem ref_add_new {w B F b keys room} (h : RefAt w B F b keys room) (key : ByteArray) (hr : FindIs keys key (-1)) (h0 : keys.length < room) (hroom : room ≤ 100000) (hB : B ≤ w.heap.size) :
    Calls Try.prog 15 #[.pointer (some ⟨b, 0, none⟩), .string key] w fun e w' => e = .returned (.tuple #[.int .i64 keys.length, .bool true]) ∧
      RefAt w' B (fun k => F k ∨ w.heap.size ≤ k ∧ k < w'.heap.size) b (keys ++ [key]) room ∧ Since F w w' := by
  have hf := ref_find h key (-1) hr
  obtain ⟨⟨kv, hb, hko, hkb⟩, hfb, hbase, hlt⟩ := h
  obtain ⟨ka, kcap, rfl, hkc1, hkc2⟩ := row_slice hko
  have hc0 : w.cell? ⟨b, 0, none⟩ = some (.slice ka keys.length kcap) := cell_of_block hb 0
  have hc1 : w.cell? ⟨b, 1, none⟩ = some (.int .i64 room) := cell_of_block hb 1
  have h0' : (keys.length : Int) < room := by omega
  unfold maxLen at hkc2
  go_enter Try.func15, Try.ntmps15
  go_wp2_with (go_at_call 14; refine hf.mono ?_; rintro e w' ⟨rfl, rfl⟩)
  go_quiet (fail)
  generalize hWn : World.drewN w _ = W
  have hbW : W.heap[b]? = some (.cells #[.slice ka keys.length kcap, .int .i64 room] 39 (0, 0)) := by rw [← hWn]; exact hb
  have hkW : W.ownsRow B 9 1 (.slice ka keys.length kcap) keys.length (strsV keys) := by rw [← hWn]; exact hko
  have hSW : Since F w W := hWn ▸ Since.drewN _ _ (Since.refl _ _)
  have hzW : w.heap.size = W.heap.size := by rw [← hWn]; rfl
  clear hc0 hc1 hf hWn
  have hc0 : W.cell? ⟨b, 0, none⟩ = some (.slice ka keys.length kcap) := cell_of_block hbW 0
  have hBW : B ≤ W.heap.size := by omega
  have HZ := Lib.hid hzW
  clear hzW
  go_wp2_with (at_builtin; go_must (refine wpList_append_at_ _ rfl _ _ 22 rfl 9 (.string ByteArray.empty) 1 16 Try.underlying22 tab_info9 rfl (by decide) B (.slice ka keys.length kcap) keys.length (strsV keys) rfl (hkW.alloc _) ⟨W.heap.size, 0, none⟩ 1 1 [.string key] rfl rfl (cell_one_new _ _ _) (by simp [Value.oneCell']) (by unfold maxLen; omega) (by omega) (by simp; omega) ?_); intro ka' kcap' w1 hown' hcap1 hcap2 hS1 hloc _; clear hc0; go_must (have hblk : w1.heap[b]? = _ := (hS1.block b (by simp; exact Nat.lt_succ_of_lt (lt_of_block hbW)) (fun e => (hkb b e).2 rfl)).trans ((Below.heap_alloc _ _ _ (lt_of_block hbW)).trans hbW)); have hc0' := cell_of_block hblk 0; have hf0' := free_of_block hblk 0; simp only [List.getElem?_toArray, List.getElem?_cons_zero] at hc0')
  go_ret2
  have hS : Since (fun k => (Value.slice ka keys.length kcap).ownBlock = some k) W w1 := ((Since.refl _ _).alloc _).trans hS1 (fun k hk => .inl hk)
  have hltk : ∀ k, (Value.slice ka' (keys.length + 1) kcap').ownBlock = some k → k < w1.heap.size := fun k hk => (hown'.lt k hk).2
  have hbl := lt_of_block hb
  have hlocs : ∀ k, (Value.slice ka' (keys.length + 1) kcap').ownBlock = some k → ((Value.slice ka keys.length kcap).ownBlock = some k ∨ w.heap.size ≤ k) := fun k hk => (hloc k hk).imp id (fun e => by have := HZ.out; simp at e; omega)
  refine ⟨rfl, ⟨⟨.slice ka' (keys.length + 1) kcap', ?_, ?_, ?_⟩, .inl hfb, hbase, ?_⟩, ?_⟩
  · rw [set_of_block hblk]; simp
  · have := (Since.setCell (F := fun k => k = b) (Since.refl _ w1) (p := ⟨b, 0, none⟩) (.inl rfl) (.slice ka' (keys.length + 1) kcap')).row hown' (fun k hk e => by
      rcases hlocs k hk with h1 | h1
      · exact (hkb k h1).2 e
      · omega)
    simpa [strsV] using this
  · intro k hk
    rcases hlocs k hk with h1 | h1
    · exact ⟨.inl (hkb k h1).1, (hkb k h1).2⟩
    · exact ⟨.inr ⟨h1, by simpa [World.setCell] using hltk k hk⟩, by omega⟩
  · rintro k (hk | hk)
    · have := hlt k hk; have := hS.size; have := HZ.out; simp [World.setCell]; omega
    · exact hk.2
  · exact (hSW.trans (hS.mono (G := F) (fun k _ hk => (hkb k hk).1)) (fun k hk => .inl hk)).setCell (.inl hfb) _
end Go.Proofs.Ytbpkcdgpplnglaa
