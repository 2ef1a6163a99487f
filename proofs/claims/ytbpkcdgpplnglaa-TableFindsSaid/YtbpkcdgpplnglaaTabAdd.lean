/- The table: New, Find, Add, as the document says it of keys: the walks and their contracts. -/
import Derived.Test.YtbpkcdgpplnglaaTabGrow
namespace Go.Proofs.Ytbpkcdgpplnglaa
open Go.RowKit

/-- Where a key stands among keys: the first place, or -1. -/
def FindIs (keys : List ByteArray) (key : ByteArray) (r : Int) : Prop :=
  (∃ i, i < keys.length ∧ keys.getD i ByteArray.empty = key ∧ r = (i : Int) ∧ ∀ j, j < i → keys.getD j ByteArray.empty ≠ key) ∨ (r = -1 ∧ ∀ i, i < keys.length → keys.getD i ByteArray.empty ≠ key)
theorem findIs_exists (keys : List ByteArray) (key : ByteArray) : ∃ r, FindIs keys key r := by
  by_cases h : ∃ i, i < keys.length ∧ keys.getD i ByteArray.empty = key
  · obtain ⟨i, hi⟩ := h
    obtain ⟨d, h1, h2, _⟩ := exists_least' (p := fun i => i < keys.length ∧ keys.getD i ByteArray.empty = key) hi
    exact ⟨d, .inl ⟨d, h1.1, h1.2, rfl, fun j hj he => h2 j hj ⟨by omega, he⟩⟩⟩
  · exact ⟨-1, .inr ⟨rfl, fun i hi he => h ⟨i, hi, he⟩⟩⟩
theorem FindIs.range {keys : List ByteArray} {key : ByteArray} {r : Int} (h : FindIs keys key r) : -1 ≤ r ∧ r < keys.length := by
  rcases h with ⟨i, h1, _, rfl, _⟩ | ⟨rfl, _⟩ <;> omega
theorem FindIs.notMem {keys : List ByteArray} {key : ByteArray} {r : Int} (h : FindIs keys key r) (hr : r < 0) : key ∉ keys := by
  rcases h with ⟨i, _, _, rfl, _⟩ | ⟨_, h⟩
  · omega
  · intro hm
    obtain ⟨i, hi, he⟩ := List.getElem_of_mem hm
    exact h i hi (by simp [List.getD, List.getElem?_eq_getElem hi, he])

/-- A table of keys, with room for so many. -/
def Tab (w : World) (B : Nat) (F : Nat → Prop) (b : Nat) (keys : List ByteArray) (room : Nat) : Prop :=
  ∃ kv sb sc slots m, TabV w B F b kv sb sc keys slots room ∧ slots.length = 2 ^ m ∧ 4 ≤ m ∧ slots.length < 1073741824 ∧ Placed startOf keys keys.length slots ∧
    keys.length ≤ room ∧ room ≤ 100000 ∧ (∀ k ∈ keys, k.size ≤ maxLen) ∧ 2 * keys.length ≤ slots.length
theorem Tab.since {w w' : World} {B : Nat} {F G : Nat → Prop} {b keys room} (h : Tab w B F b keys room) (hs : Since G w w') (hG : ∀ k, F k → ¬ G k) : Tab w' B F b keys room :=
  let ⟨kv, sb, sc, sl, m, h1, h2⟩ := h; ⟨kv, sb, sc, sl, m, h1.since hs hG, h2⟩
theorem Tab.lt {w B F b keys room} (h : Tab w B F b keys room) : ∀ k, F k → k < w.heap.size := let ⟨_, _, _, _, _, h1, _⟩ := h; h1.lt
theorem Tab.drewN {w : World} {B F b keys room} (h : Tab w B F b keys room) (n : Nat) : Tab (w.drewN n) B F b keys room :=
  h.since (Since.drewN (fun _ => False) n (Since.refl _ _)) (fun _ _ h => h)

theorem tab_find {w B F b keys room} (h : Tab w B F b keys room) (key : ByteArray) (hk : key.size ≤ maxLen) (r : Int) (hr : FindIs keys key r) :
    Calls Try.prog 11 #[.pointer (some ⟨b, 0, none⟩), .string key] w fun e w' => e = .returned (.int .i64 r) ∧ ∃ n, w' = w.drewN n := by
  obtain ⟨kv, sb, sc, slots, m, hT, hn, h4, hm, hP, hkr, hro, hks, h2k⟩ := h
  obtain ⟨d, hd⟩ := hP.ends key (startOf key slots.length)
  have hc := find_any ⟨_, _, _, hT⟩ key hk d m _ _ hn (by omega) hd hP.small rfl rfl
  have he : ((slots.getD ((startOf key slots.length + d) % slots.length) 0 : Nat) : Int) - 1 = r := by
    rcases hr with ⟨i, h1, h2, rfl, _⟩ | ⟨rfl, h2⟩
    · rw [hP.some h1 (by simpa [List.getD, List.getElem?_eq_getElem h1] using h2) hd]; omega
    · rw [hP.none hd h2]; omega
  rw [he] at hc
  exact hc

theorem tab_new_nil (room : Int) (hr : room < 1 ∨ 100000 < room) (w : World) : Calls Try.prog 9 #[.int .i64 room] w fun e w' => e = .returned (.pointer none) ∧ w = w' := by
  by_cases h1 : room < 1
  · clear hr
    go_enter Try.func9, Try.ntmps9
    go_wp2
    go_ret
    exact ⟨rfl, rfl⟩
  · have h2 : 100000 < room := by omega
    clear hr
    go_enter Try.func9, Try.ntmps9
    go_wp2
    go_ret
    exact ⟨rfl, rfl⟩

set_option maxHeartbeats 400000 in
theorem tab_new (room : Nat) (h1 : 1 ≤ room) (h2 : room ≤ 100000) (w : World) (B : Nat) (hB : B ≤ w.heap.size) : Calls Try.prog 9 #[.int .i64 (room : Int)] w fun e w' =>
    ∃ b, e = .returned (.pointer (some ⟨b, 0, none⟩)) ∧ Tab w' B (fun k => w.heap.size ≤ k ∧ k < w'.heap.size) b [] room ∧ Since (fun _ => False) w w' := by
  obtain ⟨i0, hi, hz0, hz1, hz2⟩ := info_parts tab_info3
  have hb2 : i0.bytes * 16 ≤ 281474976710656 := by rw [hz2]; decide
  clear hz2
  go_enter Try.func9, Try.ntmps9
  go_wp2_with (at_make; refine wpList_make_full _ rfl _ _ 40 rfl B 3 i0 (.int .i64 0) 1 Try.underlying40 hi hz0 hz1 .i64 .i64 _ _ 16 rfl rfl (by decide) (by decide) hb2 (by unfold maxLen; omega) hB ?_; intro w1 hown1 hgr1)
  go_ret
  have hS1 : Since (fun _ => False) w w1 := (Since.refl _ _).grown hgr1 (by simp)
  have hz : w.heap.size < w1.heap.size := by
    have := hown1.lt w.heap.size (by simp [Value.ownBlock])
    omega
  have hr2 : w1.ownsRow B 3 1 (.slice (some ⟨w.heap.size, 0, none⟩) 16 16) 16 (natsV (List.replicate 16 0)) := by
    rw [← made_zero]; exact hown1
  refine ⟨w1.heap.size, rfl, ⟨_, w.heap.size, 16, List.replicate 16 0, 4, ⟨heap_alloc_new w1 _, World.ownsRow_nil _ _ _ _, hr2.alloc _, ?_, ?_, ?_, ?_, ?_, ?_⟩, by simp, by simp, by simp, placed_zero _ _ List.nodup_nil _ (by simp), by simp, h2, by simp, by simp⟩, hS1.alloc _⟩
  · simp; omega
  · simp; omega
  · simp [Value.ownBlock]
  · omega
  · omega
  · intro k hk; exact hk.2

theorem add_nil (key : ByteArray) (w : World) : Calls Try.prog 10 #[.pointer none, .string key] w fun e w' => e = .returned (.tuple #[.int .i64 (-1), .bool false]) ∧ ∃ n, w' = w.drewN n := by
  go_enter Try.func10, Try.ntmps10
  go_wp2_with (go_at_call 11; refine (find_nil _ _).mono ?_; rintro e w' ⟨rfl, rfl⟩)
  go_quiet (fail)
  go_wp2
  go_ret2
  exact ⟨rfl, _, rfl⟩

set_option maxHeartbeats 400000 in
theorem add_old {w B F b keys room} (h : Tab w B F b keys room) (key : ByteArray) (hk : key.size ≤ maxLen) (r : Int) (hr : FindIs keys key r) (h0 : 0 ≤ r) :
    Calls Try.prog 10 #[.pointer (some ⟨b, 0, none⟩), .string key] w fun e w' => e = .returned (.tuple #[.int .i64 r, .bool false]) ∧ ∃ n, w' = w.drewN n := by
  go_enter Try.func10, Try.ntmps10
  go_wp2_with (go_at_call 11; refine (tab_find h key hk r hr).mono ?_; rintro e w' ⟨rfl, n1, rfl⟩)
  go_ret2
  exact ⟨rfl, _, rfl⟩

set_option maxHeartbeats 400000 in
theorem add_full {w B F b keys room} (h : Tab w B F b keys room) (key : ByteArray) (hk : key.size ≤ maxLen) (hr : FindIs keys key (-1)) (h0 : room ≤ keys.length) :
    Calls Try.prog 10 #[.pointer (some ⟨b, 0, none⟩), .string key] w fun e w' => e = .returned (.tuple #[.int .i64 (-1), .bool false]) ∧ ∃ n, w' = w.drewN n := by
  have hf := tab_find h key hk (-1) hr
  obtain ⟨kv, sb, sc, slots, m, hT, -⟩ := h
  obtain ⟨ka, kcap, rfl, hkc1, hkc2⟩ := row_slice hT.krow
  have hc0 : w.cell? ⟨b, 0, none⟩ = some (.slice ka keys.length kcap) := cell_of_block hT.block 0
  have hc2 : w.cell? ⟨b, 2, none⟩ = some (.int .i64 room) := cell_of_block hT.block 2
  clear hT hr
  have h0' : (room : Int) ≤ keys.length := by omega
  go_enter Try.func10, Try.ntmps10
  go_wp2_with (go_at_call 11; refine hf.mono ?_; rintro e w' ⟨rfl, n1, rfl⟩)
  go_quiet (fail)
  go_wp2
  go_ret2
  exact ⟨rfl, n1 + nq, by simp⟩

/-- A key more: behind the append and the store of the row. -/
theorem TabV.push {w w1 : World} {B : Nat} {F : Nat → Prop} {b kv sb sc keys slots room} (h : TabV w B F b kv sb sc keys slots room) {key : ByteArray} {ka' : Option Addr} {cap' : Nat}
    (ho : w1.ownsRow B 9 1 (.slice ka' (keys.length + 1) cap') (keys.length + 1) (strsV keys ++ [.string key])) (hs : Since (fun k => kv.ownBlock = some k) (w.alloc (.cells #[.string key] 9)) w1)
    (hw : ∀ k, (Value.slice ka' (keys.length + 1) cap').ownBlock = some k → kv.ownBlock = some k ∨ k = (w.alloc (.cells #[.string key] 9)).heap.size) :
    TabV (w1.setCell ⟨b, 0, none⟩ (.slice ka' (keys.length + 1) cap')) B (fun k => F k ∨ w.heap.size ≤ k ∧ k < w1.heap.size) b (.slice ka' (keys.length + 1) cap') sb sc (keys ++ [key]) slots room ∧
      Since F w (w1.setCell ⟨b, 0, none⟩ (.slice ka' (keys.length + 1) cap')) := by
  have hS : Since (fun k => kv.ownBlock = some k) w w1 := ((Since.refl _ _).alloc _).trans hs (fun k hk => .inl hk)
  have hbl := (hS.block b (h.lt b h.fb) (fun e => (h.fk b e).2.1 rfl)).trans h.block
  have hlt : ∀ k, (Value.slice ka' (keys.length + 1) cap').ownBlock = some k → k < w1.heap.size := fun k hk => (ho.lt k hk).2
  have hloc : ∀ k, (Value.slice ka' (keys.length + 1) cap').ownBlock = some k → (kv.ownBlock = some k ∨ w.heap.size ≤ k) := fun k hk => (hw k hk).imp id (fun e => by simp at e; omega)
  refine ⟨⟨?_, ?_, ?_, .inl h.fb, .inl h.fsb, ?_, h.ne, h.base, ?_⟩, ?_⟩
  · rw [set_of_block hbl]; simp
  · have := (Since.setCell (F := fun k => k = b) (Since.refl _ w1) (p := ⟨b, 0, none⟩) (.inl rfl) (.slice ka' (keys.length + 1) cap')).row ho (fun k hk e => by
      rcases hloc k hk with h1 | h1
      · exact (h.fk k h1).2.1 e
      · have := h.lt b h.fb; omega)
    simpa [strsV] using this
  · have := (Since.setCell (F := fun k => k = b) (Since.refl _ w1) (p := ⟨b, 0, none⟩) (.inl rfl) (.slice ka' (keys.length + 1) cap')).row (hS.row h.srow (fun k hk e => by simp [Value.ownBlock] at hk; exact (h.fk k e).2.2 hk.symm)) (fun k hk e => by simp [Value.ownBlock] at hk; exact h.ne (hk.trans e))
    exact this
  · intro k hk
    rcases hloc k hk with h1 | h1
    · exact ⟨.inl (h.fk k h1).1, (h.fk k h1).2⟩
    · exact ⟨.inr ⟨h1, hlt k hk⟩, by have := h.lt b h.fb; omega, by have := h.lt sb h.fsb; omega⟩
  · rintro k (hk | hk)
    · have := h.lt k hk; have := hS.size; simp [World.setCell]; omega
    · simpa [World.setCell] using hk.2
  · exact (hS.mono (fun k _ hk => (h.fk k hk).1)).setCell (.inl h.fb) _

set_option maxHeartbeats 1000000 in
theorem add_new {w B F b keys room} (h : Tab w B F b keys room) (key : ByteArray) (hk : key.size ≤ maxLen) (hr : FindIs keys key (-1)) (h0 : keys.length < room) (hB : B ≤ w.heap.size) :
    Calls Try.prog 10 #[.pointer (some ⟨b, 0, none⟩), .string key] w fun e w' => e = .returned (.tuple #[.int .i64 keys.length, .bool true]) ∧
      Tab w' B (fun k => F k ∨ w.heap.size ≤ k ∧ k < w'.heap.size) b (keys ++ [key]) room ∧ Since F w w' := by
  have hf := tab_find h key hk (-1) hr
  have hnot := hr.notMem (by omega)
  obtain ⟨kv, sb, sc, slots, m, hT, hn, hm4, hsl, hP, -, hroom, hks, h2k⟩ := h
  obtain ⟨ka, kcap, rfl, hkc1, hkc2⟩ := row_slice hT.krow
  have hc0 : w.cell? ⟨b, 0, none⟩ = some (.slice ka keys.length kcap) := cell_of_block hT.block 0
  have hc1 : w.cell? ⟨b, 1, none⟩ = some (.slice (some ⟨sb, 0, none⟩) slots.length sc) := cell_of_block hT.block 1
  have hc2 : w.cell? ⟨b, 2, none⟩ = some (.int .i64 room) := cell_of_block hT.block 2
  have h0' : (keys.length : Int) < room := by omega
  have HN := Lib.hid hn
  clear hn
  unfold maxLen at hkc2
  by_cases hg : slots.length ≤ 2 * keys.length
  · have hg' : (slots.length : Int) ≤ 2 * keys.length := by omega
    go_enter Try.func10, Try.ntmps10
    go_wp2_with (go_at_call 11; refine hf.mono ?_; rintro e w' ⟨rfl, n1, rfl⟩)
    go_quiet (fail)
    go_wp2
    go_quiet (fail)
    go_wp2_with fail
    generalize hWn : World.drewN w _ = W0
    have hTW0 : TabV W0 B F b (.slice ka keys.length kcap) sb sc keys slots room := hWn ▸ hT.drewN _
    have hSW0 : Since F w W0 := hWn ▸ Since.drewN _ _ (Since.refl _ _)
    have hz0 : W0.heap.size = w.heap.size := by rw [← hWn]; rfl
    have HZ0 := Lib.hid hz0
    refine (grow_any hTW0 m HN.out hsl (Nat.le_trans hB hSW0.size) hP.nodup (by have := hP.room; omega) hks).mono ?_
    rintro e W ⟨rfl, sb', sc', sl, hTW, hsl2, hPW, hSW1⟩
    have hSW := hSW0.trans hSW1 (fun _ h => .inl h)
    have HSL := Lib.hid hsl2
    have HNW : Hid (sl.length = 2 ^ (m + 1)) := by simp only [Hid]; rw [hsl2, HN.out, Nat.pow_succ]; omega
    have hslW : sl.length < 1073741824 := by rw [hsl2]; omega
    have h2kW : 2 * (keys.length + 1) ≤ sl.length := by have := hP.room; rw [hsl2]; omega
    have hm4W : 4 ≤ m + 1 := by omega
    have hFW : ∀ k, (F k ∨ k = W0.heap.size) → F k ∨ w.heap.size ≤ k := fun k hk => hk.imp id (fun e => by omega)
    have hzW : W0.heap.size < W.heap.size := by have := hTW.lt _ (.inr rfl); omega
    obtain ⟨mm, hmm⟩ : ∃ mm, mm = m + 1 := ⟨_, rfl⟩
    rw [← hmm] at HNW hm4W
    clear hWn hT hf hc0 hc1 hc2 hmm hg hg' hP HN h2k hm4 hsl hsl2 hz0 hTW0 hSW0 hSW1
    go_wp2_with fail
    obtain ⟨d, hd⟩ := hPW.ends key (startOf key sl.length)
    have hlW : 0 < sl.length := by rw [HNW.out]; exact Nat.two_pow_pos _
    obtain ⟨r, hr2⟩ : ∃ r, r = (startOf key sl.length + d) % sl.length := ⟨_, rfl⟩
    have hrl : r < sl.length := by rw [hr2]; exact Nat.mod_lt _ hlW
    have hcall := slot_any W B _ b keys sl room ⟨_, _, _, hTW⟩ key hk d mm r HNW.out (by omega) hd hPW.small hr2
    have HR2 := Lib.hid hr2
    have HD := Lib.hid hd
    clear hr2 hd
    refine hcall.mono ?_
    rintro e w' ⟨rfl, rfl⟩
    clear hcall
    have hc0 : W.cell? ⟨b, 0, none⟩ = some (.slice ka keys.length kcap) := cell_of_block hTW.block 0
    have hBW : B ≤ W.heap.size := Nat.le_trans hB hSW.size
    go_wp2_with (at_builtin; go_must (refine wpList_append_at_ _ rfl _ _ 22 rfl 9 (.string ByteArray.empty) 1 16 Try.underlying22 tab_info9 rfl (by decide) B (.slice ka keys.length kcap) keys.length (strsV keys) rfl (hTW.krow.alloc _) ⟨W.heap.size, 0, none⟩ 1 1 [.string key] rfl rfl (cell_one_new _ _ _) (by simp [Value.oneCell']) (by unfold maxLen; omega) (by omega) (by simp; omega) ?_); intro ka' kcap' w1 hown' hcap1 hcap2 hS1 hloc _; clear hc0; go_must (have hPU := hTW.push hown' hS1 hloc); go_must (have hblk : w1.heap[b]? = _ := (hS1.block b (by simp; exact Nat.lt_succ_of_lt (lt_of_block hTW.block)) (fun e => (hTW.fk b e).2.1 rfl)).trans ((Below.heap_alloc _ _ _ (lt_of_block hTW.block)).trans hTW.block)); have hc0' := cell_of_block hblk 0; have hf0' := free_of_block hblk 0; simp only [List.getElem?_toArray, List.getElem?_cons_zero] at hc0')
    have hfsb := hFW _ hTW.fsb
    obtain ⟨hTP, hSP⟩ := hPU
    generalize hW2 : World.setCell w1 _ _ = W2 at hTP hSP ⊢
    have hw1z : w1.heap.size = W2.heap.size := by rw [← hW2]; simp [World.setCell]
    rw [hw1z] at hTP
    have hSz := hSP.size
    clear hW2 hw1z hblk hc0' hf0' hown' hS1 hloc hTW
    have hc0 : W2.cell? ⟨b, 0, none⟩ = some (.slice ka' (keys.length + 1) kcap') := cell_of_block hTP.block 0
    have hc1 := cell_of_block hTP.block 1
    simp only [List.getElem?_toArray, List.getElem?_cons_zero, List.getElem?_cons_succ] at hc1
    have hce : ∃ v, W2.cell? ⟨sb', r, none⟩ = some v := by
      rw [hTP.srow.cellAt r (by omega)]
      simp [natsV, List.getElem?_eq_getElem hrl]
    obtain ⟨v0, hce⟩ := hce
    have hfz : W2.frozen? ⟨sb', r, none⟩ = false := hTP.srow.frozenAt r
    have hc0s : ∀ u, (W2.setCell ⟨sb', r, none⟩ u).cell? ⟨b, 0, none⟩ = some (.slice ka' (keys.length + 1) kcap') := fun u =>
      ((Since.setCell (F := fun k => k = sb') (Since.refl _ W2) (p := ⟨sb', r, none⟩) (.inl rfl) u).cell (p := ⟨b, 0, none⟩) (lt_of_block hTP.block) (fun e => hTP.ne e.symm)).trans hc0
    refine wp_region_still_tail 11 (by kernel_rfl) (by kernel_rfl) ?_
    simp only [List.take_succ_cons, List.take_zero, List.drop_succ_cons, List.drop_zero]
    repeat still_step
    refine wpStill_nil ?_
    change wpList _ _ _ _ _ W2.drew
    go_wp2
    go_ret2
    have hTS := hTP.store r (keys.length + 1)
    have hTf := (hTS.drewN 1).wide (G := fun k => F k ∨ w.heap.size ≤ k ∧ k < ((W2.setCell ⟨sb', r, none⟩ (.int .i64 ((keys.length : Int) + 1))).drew).heap.size) (fun k hk => by
      rcases hk with hk | hk
      · exact (hFW k hk).imp id (fun h1 => ⟨h1, by have := hTP.lt k (.inl hk); simpa [World.setCell] using this⟩)
      · exact .inr ⟨Nat.le_trans hSW.size hk.1, by simpa [World.setCell] using hk.2⟩) (fun k hk => by
      rcases hk with hk | hk
      · have := hTP.lt k (.inl (.inl hk)); simpa [World.setCell] using this
      · simpa [World.setCell] using hk.2)
    refine ⟨rfl, ⟨_, _, _, _, mm, hTf, by simpa using HNW.out, hm4W, by simpa using hslW, ?_, by simp; omega, hroom, ?_, by simpa using h2kW⟩, ?_⟩
    · have hp := hPW.more key hnot
      have := hp.add (by simp) (by omega) (d := d) (by simpa using Ends.more hPW rfl [key] HD.out)
      simpa [← HR2.out] using this
    · intro k hk1
      simp at hk1
      rcases hk1 with hk1 | rfl
      · exact hks k hk1
      · exact hk
    · have h3 := (hSW.trans hSP hFW)
      exact Since.drew _ (h3.setCell hfsb _)
  · have hg' : (2 : Int) * keys.length < slots.length := by omega
    go_enter Try.func10, Try.ntmps10
    go_wp2_with (go_at_call 11; refine hf.mono ?_; rintro e w' ⟨rfl, n1, rfl⟩)
    go_quiet (fail)
    go_wp2
    go_quiet (fail)
    go_wp2_with fail
    generalize hWn : World.drewN w _ = W
    have hTW : TabV W B F b (.slice ka keys.length kcap) sb sc keys slots room := hWn ▸ hT.drewN _
    have hSW : Since F w W := hWn ▸ Since.drewN _ _ (Since.refl _ _)
    have hPW := hP
    have HNW := HN
    have hslW := hsl
    have h2kW : 2 * (keys.length + 1) ≤ slots.length := by
      have e : slots.length = 2 * 2 ^ (m - 1) := by rw [HN.out, ← Nat.pow_succ']; congr 1; omega
      omega
    have hm4W := hm4
    have hFW : ∀ k, F k → F k ∨ w.heap.size ≤ k := fun k hk => .inl hk
    obtain ⟨mm, hmm⟩ : ∃ mm, mm = m := ⟨_, rfl⟩
    rw [← hmm] at HNW hm4W
    obtain ⟨sl, hsleq⟩ : ∃ sl, sl = slots := ⟨_, rfl⟩
    rw [← hsleq] at HNW hPW hTW hslW h2kW
    clear hWn hT hf hc0 hc1 hc2 hmm hsleq hg hg' hP HN h2k hm4 hsl
    obtain ⟨d, hd⟩ := hPW.ends key (startOf key sl.length)
    have hlW : 0 < sl.length := by rw [HNW.out]; exact Nat.two_pow_pos _
    obtain ⟨r, hr2⟩ : ∃ r, r = (startOf key sl.length + d) % sl.length := ⟨_, rfl⟩
    have hrl : r < sl.length := by rw [hr2]; exact Nat.mod_lt _ hlW
    have hcall := slot_any W B _ b keys sl room ⟨_, _, _, hTW⟩ key hk d mm r HNW.out (by omega) hd hPW.small hr2
    have HR2 := Lib.hid hr2
    have HD := Lib.hid hd
    clear hr2 hd
    refine hcall.mono ?_
    rintro e w' ⟨rfl, rfl⟩
    clear hcall
    have hc0 : W.cell? ⟨b, 0, none⟩ = some (.slice ka keys.length kcap) := cell_of_block hTW.block 0
    have hBW : B ≤ W.heap.size := Nat.le_trans hB hSW.size
    go_wp2_with (at_builtin; go_must (refine wpList_append_at_ _ rfl _ _ 22 rfl 9 (.string ByteArray.empty) 1 16 Try.underlying22 tab_info9 rfl (by decide) B (.slice ka keys.length kcap) keys.length (strsV keys) rfl (hTW.krow.alloc _) ⟨W.heap.size, 0, none⟩ 1 1 [.string key] rfl rfl (cell_one_new _ _ _) (by simp [Value.oneCell']) (by unfold maxLen; omega) (by omega) (by simp; omega) ?_); intro ka' kcap' w1 hown' hcap1 hcap2 hS1 hloc _; clear hc0; go_must (have hPU := hTW.push hown' hS1 hloc); go_must (have hblk : w1.heap[b]? = _ := (hS1.block b (by simp; exact Nat.lt_succ_of_lt (lt_of_block hTW.block)) (fun e => (hTW.fk b e).2.1 rfl)).trans ((Below.heap_alloc _ _ _ (lt_of_block hTW.block)).trans hTW.block)); have hc0' := cell_of_block hblk 0; have hf0' := free_of_block hblk 0; simp only [List.getElem?_toArray, List.getElem?_cons_zero] at hc0')
    have hfsb := hFW _ hTW.fsb
    obtain ⟨hTP, hSP⟩ := hPU
    generalize hW2 : World.setCell w1 _ _ = W2 at hTP hSP ⊢
    have hw1z : w1.heap.size = W2.heap.size := by rw [← hW2]; simp [World.setCell]
    rw [hw1z] at hTP
    have hSz := hSP.size
    clear hW2 hw1z hblk hc0' hf0' hown' hS1 hloc hTW
    have hc0 : W2.cell? ⟨b, 0, none⟩ = some (.slice ka' (keys.length + 1) kcap') := cell_of_block hTP.block 0
    have hc1 := cell_of_block hTP.block 1
    simp only [List.getElem?_toArray, List.getElem?_cons_zero, List.getElem?_cons_succ] at hc1
    have hce : ∃ v, W2.cell? ⟨sb, r, none⟩ = some v := by
      rw [hTP.srow.cellAt r (by omega)]
      simp [natsV, List.getElem?_eq_getElem hrl]
    obtain ⟨v0, hce⟩ := hce
    have hfz : W2.frozen? ⟨sb, r, none⟩ = false := hTP.srow.frozenAt r
    have hc0s : ∀ u, (W2.setCell ⟨sb, r, none⟩ u).cell? ⟨b, 0, none⟩ = some (.slice ka' (keys.length + 1) kcap') := fun u =>
      ((Since.setCell (F := fun k => k = sb) (Since.refl _ W2) (p := ⟨sb, r, none⟩) (.inl rfl) u).cell (p := ⟨b, 0, none⟩) (lt_of_block hTP.block) (fun e => hTP.ne e.symm)).trans hc0
    refine wp_region_still_tail 11 (by kernel_rfl) (by kernel_rfl) ?_
    simp only [List.take_succ_cons, List.take_zero, List.drop_succ_cons, List.drop_zero]
    repeat still_step
    refine wpStill_nil ?_
    change wpList _ _ _ _ _ W2.drew
    go_wp2
    go_ret2
    have hTS := hTP.store r (keys.length + 1)
    have hTf := (hTS.drewN 1).wide (G := fun k => F k ∨ w.heap.size ≤ k ∧ k < ((W2.setCell ⟨sb, r, none⟩ (.int .i64 ((keys.length : Int) + 1))).drew).heap.size) (fun k hk => by
      rcases hk with hk | hk
      · exact (hFW k hk).imp id (fun h1 => ⟨h1, by have := hTP.lt k (.inl hk); simpa [World.setCell] using this⟩)
      · exact .inr ⟨Nat.le_trans hSW.size hk.1, by simpa [World.setCell] using hk.2⟩) (fun k hk => by
      rcases hk with hk | hk
      · have := hTP.lt k (.inl hk); simpa [World.setCell] using this
      · simpa [World.setCell] using hk.2)
    refine ⟨rfl, ⟨_, _, _, _, mm, hTf, by simpa using HNW.out, hm4W, by simpa using hslW, ?_, by simp; omega, hroom, ?_, by simpa using h2kW⟩, ?_⟩
    · have hp := hPW.more key hnot
      have := hp.add (by simp) (by omega) (d := d) (by simpa using Ends.more hPW rfl [key] HD.out)
      simpa [← HR2.out] using this
    · intro k hk1
      simp at hk1
      rcases hk1 with hk1 | rfl
      · exact hks k hk1
      · exact hk
    · have h3 := (hSW.trans hSP hFW)
      exact Since.drew _ (h3.setCell hfsb _)
end Go.Proofs.Ytbpkcdgpplnglaa
