/- play: what any keys tell, one behind the other, is what the document's table tells: the walk. -/
import Derived.Test.YtbpkcdgpplnglaaTabAwake
import Derived.Test.YtbpkcdgpplnglaaOpens
namespace Go.Proofs.Ytbpkcdgpplnglaa
open Go.RowKit

/-- The tables between two keys. -/
def Both (w wr : World) (v : Value) (rb : Nat) (keys : List ByteArray) (room : Nat) : Prop :=
  ∃ F G, TV wr w.heap.size F v keys room ∧ RefAt wr w.heap.size G rb keys room ∧ (∀ k, F k → w.heap.size ≤ k) ∧ (∀ k, F k → k < wr.heap.size) ∧ (∀ k, G k → w.heap.size ≤ k ∧ ¬ F k) ∧ Below w.heap.size w wr
theorem Both.drewN {w wr v rb keys room} (h : Both w wr v rb keys room) (n : Nat) : Both w (wr.drewN n) v rb keys room :=
  let ⟨F, G, h1, h2, h3, h3', h4, h5⟩ := h; ⟨F, G, h1.drewN n, h2.drewN n, h3, h3', h4, h5.trans ⟨rfl, rfl, rfl, Nat.le_refl _, fun _ _ => rfl⟩⟩
theorem both_len {w wr v rb keys room} (h : Both w wr v rb keys room) : Calls Try.prog 12 #[v] wr fun e w' => e = .returned (.int .i64 keys.length) ∧ wr = w' := let ⟨_, _, h1, _⟩ := h; tv_len h1
theorem both_find {w wr v rb keys room} (h : Both w wr v rb keys room) (key : ByteArray) (hk : key.size ≤ maxLen) (r : Int) (hr : FindIs keys key r) :
    Calls Try.prog 11 #[v, .string key] wr fun e w' => e = .returned (.int .i64 r) ∧ ∃ n, w' = wr.drewN n := let ⟨_, _, h1, _⟩ := h; tv_find h1 key hk r hr
theorem both_rfind {w wr v rb keys room} (h : Both w wr v rb keys room) (key : ByteArray) (r : Int) (hr : FindIs keys key r) :
    Calls Try.prog 14 #[.pointer (some ⟨rb, 0, none⟩), .string key] wr fun e w' => e = .returned (.int .i64 r) ∧ wr = w' := let ⟨_, _, _, h1, _⟩ := h; ref_find h1 key r hr
theorem both_at {w wr v rb keys room} (h : Both w wr v rb keys room) (i : Int) : Calls Try.prog 13 #[v, .int .i64 i] wr fun e w' => e = .returned (.string (atOf keys i)) ∧ wr = w' := let ⟨_, _, h1, _⟩ := h; tv_at h1 i
theorem both_rat {w wr v rb keys room} (h : Both w wr v rb keys room) (i : Int) : Calls Try.prog 16 #[.pointer (some ⟨rb, 0, none⟩), .int .i64 i] wr fun e w' => e = .returned (.string (atOf keys i)) ∧ wr = w' := let ⟨_, _, _, h1, _⟩ := h; ref_at h1 i
/-- The table has the key added, the document's has not yet. -/
def Half (w wr : World) (v : Value) (rb : Nat) (keys keys' : List ByteArray) (room : Nat) : Prop :=
  ∃ F G, TV wr w.heap.size F v keys' room ∧ RefAt wr w.heap.size G rb keys room ∧ (∀ k, F k → w.heap.size ≤ k) ∧ (∀ k, F k → k < wr.heap.size) ∧ (∀ k, G k → w.heap.size ≤ k ∧ ¬ F k) ∧ Below w.heap.size w wr
theorem TV.lt {w B F v keys room} (h : TV w B F v keys room) : v = .pointer none ∨ ∀ k, F k → k < w.heap.size := by
  rcases h with ⟨rfl, _⟩ | ⟨b, _, ht⟩
  · exact .inl rfl
  · exact .inr ht.lt
theorem TV.none_any {w B F v keys room} (h : TV w B F v keys room) (hv : v = .pointer none) (G : Nat → Prop) : TV w B G v keys room := by
  rcases h with h | ⟨b, rfl, ht⟩
  · exact .inl h
  · cases hv
theorem both_add {w wr v rb keys room} (h : Both w wr v rb keys room) (key : ByteArray) (hk : key.size ≤ maxLen) {a : Int} {is : Bool} {keys' : List ByteArray} (ha : AddIs keys room key a is keys') :
    Calls Try.prog 10 #[v, .string key] wr fun e w' => e = .returned (.tuple #[.int .i64 a, .bool is]) ∧ Half w w' v rb keys keys' room := by
  obtain ⟨F, G, h1, h2, h3, h3', h4, h5⟩ := h
  refine (tv_add h1 key hk ha h5.size).mono ?_
  rintro e w' ⟨rfl, F', h6, h7, h8⟩
  have hr := h2.since h8 (fun k hk => (h4 k hk).2)
  have hb := h5.trans (h8.below h5.size h3)
  have hg : ∀ k, F' k → w.heap.size ≤ k := fun k hk => (h7 k hk).elim (h3 k) (fun h => Nat.le_trans h5.size h)
  rcases h6.lt with hv | hl
  · exact ⟨rfl, fun _ => False, G, h6.none_any hv _, hr, fun _ h => h.elim, fun _ h => h.elim, fun k hk => ⟨(h4 k hk).1, id⟩, hb⟩
  · exact ⟨rfl, F', G, h6, hr, hg, hl, fun k hk => ⟨(h4 k hk).1, fun hf => by
      rcases h7 k hf with h | h
      · exact (h4 k hk).2 h
      · have := h2.lt k hk; omega⟩, hb⟩
theorem half_add {w wr v rb keys keys' room} (h : Half w wr v rb keys keys' room) (hroom : room ≤ 100000) (key : ByteArray) {a : Int} {is : Bool} (ha : AddIs keys room key a is keys') :
    Calls Try.prog 15 #[.pointer (some ⟨rb, 0, none⟩), .string key] wr fun e w' => e = .returned (.tuple #[.int .i64 a, .bool is]) ∧ Both w w' v rb keys' room := by
  obtain ⟨F, G, h1, h2, h3, h3', h4, h5⟩ := h
  refine (ref_add h2 hroom key ha h5.size).mono ?_
  rintro e w' ⟨rfl, G', h6, h7, h8⟩
  refine ⟨rfl, F, G', h1.since h8 (fun k hk hg => (h4 k hg).2 hk), h6, h3, fun k hk => Nat.lt_of_lt_of_le (h3' k hk) h8.size, ?_, h5.trans (h8.below h5.size (fun k hk => (h4 k hk).1))⟩
  intro k hk
  rcases h7 k hk with h | h
  · exact h4 k h
  · exact ⟨Nat.le_trans h5.size h, fun hf => by have := h3' k hf; omega⟩
theorem both_keys {w wr v rb keys room} (h : Both w wr v rb keys room) : ∃ a cap, wr.cell? ⟨rb, 0, none⟩ = some (.slice a keys.length cap) ∧ keys.length ≤ 9223372036854775807 := let ⟨_, _, _, h1, _⟩ := h; let ⟨a, cap, h2, _, h3, _⟩ := h1.keys_; ⟨a, cap, h2, h3⟩
theorem both_below {w wr v rb keys room} (h : Both w wr v rb keys room) : Below w.heap.size w wr := let ⟨_, _, _, _, _, _, _, h1⟩ := h; h1

theorem half_below {w wr v rb keys keys' room} (h : Half w wr v rb keys keys' room) : Below w.heap.size w wr := let ⟨_, _, _, _, _, _, _, h1⟩ := h; h1
theorem both_short {w wr v rb keys room} (h : Both w wr v rb keys room) (hr : room ≤ 100000) : keys.length ≤ 100000 := by
  obtain ⟨_, _, h1, _⟩ := h
  rcases h1 with ⟨_, rfl, _⟩ | ⟨b, _, kv, sb, sc, sl, m, _, _, _, _, _, h2, _⟩
  · simp
  · omega

set_option maxHeartbeats 4000000 in
theorem play_any (w : World) (room : Int) (sv : Value) (l : List ByteArray) (hl : StrsAt w sv l) :
    Calls Try.prog 7 #[.int .i64 room, sv] w fun e w' => e = .returned (.bool true) ∧ Below w.heap.size w w' := by
  obtain ⟨la, lcap, rfl, hl1, hls, hlc⟩ := hl
  go_enter Try.func7, Try.ntmps7
  go_wp2_with fail
  refine (tv_new room w w.heap.size (Nat.le_refl _)).mono ?_
  rintro e w1 ⟨v, F1, rfl, h1, hF1, hS1⟩
  have hz1 := hS1.size
  have start : ∀ R : Nat, R = (if 1 ≤ room ∧ room ≤ 100000 then room.toNat else 0) → Both w (w1.alloc (.cells #[.slice none 0 0, .int .i64 (R : Int)] 39)) v w1.heap.size [] R := by
    intro R hR
    refine ⟨F1, fun k => k = w1.heap.size, ?_, ⟨⟨.slice none 0 0, heap_alloc_new _ _, World.ownsRow_nil _ _ _ _, fun k hk => by simp [Value.ownBlock] at hk⟩, rfl, hz1, fun k hk => by simp [hk]⟩, fun k hk => (hF1 k hk).1, fun k hk => by have := (hF1 k hk).2; simp; omega, fun k hk => ⟨by omega, fun hf => by have := (hF1 k hf).2; omega⟩, ?_⟩
    · rw [hR]; exact h1.since ((Since.refl (fun _ => False) _).alloc _) (fun _ _ h => h)
    · exact (hS1.below (Nat.le_refl _) (fun _ h => h.elim)).alloc hz1 _
  have hkeys : ∀ i, i < l.length → (l.getD i ByteArray.empty).size ≤ maxLen := by
    intro i hi
    rw [List.getD_eq_getElem?_getD, List.getElem?_eq_getElem hi]
    exact hls _ (List.getElem_mem hi)
  have hcells : ∀ wx, Below w.heap.size w wx → ∀ j, j < l.length → ∃ b off, la = some ⟨b, off, none⟩ ∧ wx.cell? ⟨b, off + j, none⟩ = some (.string (l.getD j ByteArray.empty)) := by
    intro wx hb j hj
    obtain ⟨b, off, h1, h2, h3⟩ := hlc j hj
    exact ⟨b, off, h1, (hb.cell (p := ⟨b, off + j, none⟩) h2).trans h3⟩
  clear h1 hF1 hS1 hlc hls
  have hcase : ∃ R : Nat, R = (if 1 ≤ room ∧ room ≤ 100000 then room.toNat else 0) ∧ R ≤ 100000 ∧ ((100000 < room ∧ R = 0) ∨ (room < 0 ∧ R = 0) ∨ (0 ≤ room ∧ room ≤ 100000 ∧ room = R)) := by
    refine ⟨_, rfl, ?_, ?_⟩ <;> split <;> omega
  obtain ⟨R, hR, hR1, hcase⟩ := hcase
  replace start := start R hR
  clear hR
  obtain ⟨RR, hRR⟩ : ∃ RR, RR = R := ⟨_, rfl⟩
  have HRR := Lib.hid hRR
  clear hRR
  rcases hcase with ⟨hbig, rfl⟩ | ⟨hneg, rfl⟩ | ⟨h0, h2, rfl⟩
  all_goals
    replace start := Lib.hid start
    go_wp2
    replace start := start.out
    go_loopg [7] l.length (fun g s7 wr => ∃ (i : Nat) (keys : List ByteArray), i ≤ l.length ∧ Hid (g = l.length - i) ∧ s7 = .int .i64 i ∧ Both w wr v w1.heap.size keys RR)
    case atStart => exact ⟨0, [], Nat.zero_le _, rfl, rfl, by rw [HRR.out]; exact start⟩
    case round =>
      obtain ⟨i, keys, hi, HG, rfl, hB⟩ := hrel
      by_cases hlt : i < l.length
      · obtain ⟨b, off, hla, hc1⟩ := hcells wr (both_below hB) i hlt
        have hk := hkeys i hlt
        obtain ⟨key, hkey⟩ : ∃ key, key = l.getD i ByteArray.empty := ⟨_, rfl⟩
        have hc2 : ∀ wx, Below w.heap.size w wx → wx.cell? ⟨b, off + i, none⟩ = some (.string key) := by
          intro wx hbx
          obtain ⟨b', off', h1, h2⟩ := hcells wx hbx i hlt
          rw [hla] at h1; cases h1
          rw [hkey]; exact h2
        rw [← hkey] at hk hc1
        subst hla
        clear hkey hcells hkeys
        replace hc2 := Lib.hid hc2
        obtain ⟨r, hr⟩ := findIs_exists keys key
        obtain ⟨a, is, keys', ha⟩ := addIs_exists keys RR key
        go_wp2
        go_quiet ((first | (go_at_call 11; exact Calls.quiet_of (both_find (hB.drewN _) key hk r hr)) | (go_at_call 14; exact Calls.quiet_of_same ((both_rfind (hB.drewN _) key r hr).mono fun _ _ ⟨a, b⟩ => ⟨a, b.symm⟩))))
        go_wp2_with fail
        refine (both_add (hB.drewN _) key hk ha).mono ?_
        rintro e w2 ⟨rfl, hH⟩
        have hc3 := hc2.out w2 (half_below hH)
        have hBR := HRR.out ▸ hR1
        clear hc1
        go_wp2_with fail
        refine (half_add hH hBR key ha).mono ?_
        rintro e w3 ⟨rfl, hB3⟩
        obtain ⟨ka, kcap, hk0, hk1⟩ := both_keys hB3
        clear hc3 hH hB
        go_wp2
        go_quiet ((go_at_call 12; exact Calls.quiet_of_same ((both_len (hB3.drewN _)).mono fun _ _ ⟨a, b⟩ => ⟨a, b.symm⟩)))
        go_wp2
        go_roundg (gk - 1)
        case measure => rw [HG.out]; omega
        case rel => exact ⟨i + 1, keys', by omega, by rw [HG.out]; simp [Hid]; omega, by go_num, hB3.drewN _⟩
      · clear hcells hkeys
        have hkn : keys.length ≤ 9223372036854775807 ∧ ∃ K, K = keys.length ∧ keys.length ≤ 100000 := by
          obtain ⟨ka, kcap, hk0, hk1⟩ := both_keys hB
          exact ⟨hk1, keys.length, rfl, both_short hB (HRR.out ▸ hR1)⟩
        obtain ⟨hk1, -, -, hk5⟩ := hkn
        have HB := Lib.hid hB
        go_wp2
        go_loopg [12] (keys.length + 2) (fun g s12 wx => wx = wr ∧ ∃ q : Int, -1 ≤ q ∧ q ≤ keys.length + 1 ∧ Hid (g = (keys.length + 1 - q).toNat) ∧ s12 = .int .i64 q)
        case atStart => exact ⟨rfl, -1, by omega, by omega, by simp [Hid]; omega, rfl⟩
        case round =>
          obtain ⟨rfl, q, hq1, hq2, HG2, rfl⟩ := hrel
          obtain ⟨ka, kcap, hk0, -⟩ := both_keys hB
          by_cases hq : q ≤ keys.length
          · go_wp2_with fail
            refine (both_at hB q).mono ?_
            rintro e w' ⟨rfl, rfl⟩
            go_wp2_with fail
            refine (both_rat hB q).mono ?_
            rintro e w' ⟨rfl, rfl⟩
            go_wp2
            go_roundg ((keys.length + 1 - (q + 1)).toNat)
            case measure => rw [HG2.out]; omega
            case rel => exact ⟨rfl, q + 1, by omega, by omega, rfl, rfl⟩
          · go_wp2
            go_ret
            exact ⟨rfl, both_below hB⟩
end Go.Proofs.Ytbpkcdgpplnglaa
