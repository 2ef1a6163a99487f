/- TableAny and TableMany: the walks. -/
import Derived.Test.YtbpkcdgpplnglaaTabPlay
import Derived.OpenShut
namespace Go.Proofs.Ytbpkcdgpplnglaa
open Go.RowKit

set_option maxHeartbeats 1000000 in
theorem tableAny_walk (w : World) (room : Int) (sv : Value) (l : List ByteArray) (hl : StrsAt w sv l) :
    Calls Try.prog 3 #[.int .i64 room, sv] w fun e w' => e = .returned (.bool true) ∧ Below w.heap.size w w' := by
  have hl' := hl
  obtain ⟨la, lcap, rfl, hl1, hls, hlc⟩ := hl
  by_cases h100 : 100 < l.length
  · have h100' : (100 : Int) < l.length := by omega
    go_enter Try.func3, Try.ntmps3
    go_wp2_with (go_at_call 6; refine (awake_any _).mono ?_; rintro e w' ⟨rfl, hb⟩)
    go_ret
    exact ⟨rfl, hb⟩
  · have hkeys : ∀ i, i < l.length → (l.getD i ByteArray.empty).size ≤ maxLen := by
      intro i hi
      rw [List.getD_eq_getElem?_getD, List.getElem?_eq_getElem hi]
      exact hls _ (List.getElem_mem hi)
    have HL := Lib.hid hl'
    clear hl' hls
    go_enter Try.func3, Try.ntmps3
    go_wp2
    go_loopg [5] l.length (fun g s5 wr => wr = w ∧ ∃ i : Nat, i ≤ l.length ∧ Hid (g = l.length - i) ∧ s5 = .int .i64 i)
    case atStart => exact ⟨rfl, 0, Nat.zero_le _, rfl, rfl⟩
    case round =>
      obtain ⟨rfl, i, hi, HG, rfl⟩ := hrel
      by_cases hlt : i < l.length
      · obtain ⟨b, off, hla, -, hc⟩ := hlc i hlt
        have hk := hkeys i hlt
        obtain ⟨key, hkey⟩ : ∃ key, key = l.getD i ByteArray.empty := ⟨_, rfl⟩
        rw [← hkey] at hk hc
        unfold maxLen at hk
        subst hla
        clear hkey hlc hkeys
        by_cases hbig : 100 < key.size
        · have hbig' : (100 : Int) < key.size := by omega
          go_wp2_with (go_at_call 6; refine (awake_any _).mono ?_; rintro e w' ⟨rfl, hb⟩)
          go_ret
          exact ⟨rfl, hb⟩
        · go_wp2
          go_roundg (gk - 1)
          case measure => rw [HG.out]; omega
          case rel => exact ⟨rfl, i + 1, by omega, by rw [HG.out]; simp [Hid]; omega, by go_num⟩
      · clear hlc hkeys
        go_wp2_with (go_at_call 6; refine (awake_any _).mono ?_; rintro e w2 ⟨rfl, hb⟩)
        have hl2 : StrsAt w2 (.slice la l.length lcap) l := HL.out.below hb
        go_wp2_with (go_at_call 7; refine (play_any _ room _ l hl2).mono ?_; rintro e w3 ⟨rfl, hb3⟩)
        go_ret
        exact ⟨rfl, hb.trans (hb3.mono hb.size)⟩

/-- A string of at most 300 letters is told. -/
def Short (w : World) (e : Ending) (w' : World) : Prop := ∃ s : ByteArray, e = .returned (.string s) ∧ w = w' ∧ s.size ≤ 300
theorem letter_size (k : Nat) : ((⟨#[97, 98, 99]⟩ : ByteArray).extract (k % 3) (k % 3 + 1)).size = 1 := by
  have h : k % 3 = 0 ∨ k % 3 = 1 ∨ k % 3 = 2 := by omega
  rcases h with h | h | h <;> rw [h] <;> rfl

theorem key_any (n : Nat) (hn : n < 65536) (w : World) :
    Calls Try.prog 8 #[.int .u16 (n : Int)] w (Short w) := by
  go_enter Try.func8, Try.ntmps8
  go_wp2
  go_loopg [3, 4] (n % 300) (fun g s3 s4 wr => wr = w ∧ ∃ (s : ByteArray) (k : Nat), Hid (g = k) ∧ s4 = .int .i64 k ∧ s3 = .string s ∧ k ≤ 300 ∧ s.size + k ≤ 300)
  case atStart => exact ⟨rfl, ByteArray.empty, n % 300, rfl, rfl, rfl, by omega, by simp; omega⟩
  case round =>
    obtain ⟨rfl, s, k, HG, rfl, rfl, hk, hs⟩ := hrel
    by_cases h0 : 0 < k
    · have h0' : (0 : Int) < k := by omega
      go_wp2
      go_roundg (k / 3)
      case measure => rw [HG.out]; omega
      case rel => exact ⟨rfl, _, k / 3, rfl, by go_num, rfl, by omega, by rw [ByteArray.size_append, letter_size]; omega⟩
    · have : k = 0 := by omega
      subst this
      go_wp2
      go_ret
      exact ⟨s, rfl, rfl, by omega⟩

/-- A row of strings of the call's own, as a list that came in. -/
theorem StrsAt.of_row {w : World} {B : Nat} {sv : Value} {l : List ByteArray} (h : w.ownsRow B 9 1 sv l.length (strsV l)) (hs : ∀ s ∈ l, s.size ≤ maxLen) : StrsAt w sv l := by
  obtain ⟨a, cap, rfl, h1, h2⟩ := row_slice h
  refine ⟨a, cap, rfl, by unfold maxLen at h2; omega, hs, ?_⟩
  intro j hj
  obtain ⟨g, cap', he, -, -⟩ := row_some h (by omega)
  cases he
  refine ⟨g, 0, rfl, (h.lt g rfl).2, ?_⟩
  rw [show 0 + j = j from by omega, h.cellAt j (by omega)]
  simp [strsV, List.getElem?_map, List.getD, List.getElem?_eq_getElem hj]

set_option maxRecDepth 100000 in
set_option maxHeartbeats 2000000 in
theorem tableMany_walk (w : World) (room : Int) (sv : Value) (l : List Int) (hl : NumsAt w .u16 sv l) (hr0 : 0 ≤ room) (hr1 : room < 65536) :
    Calls Try.prog 4 #[.int .u16 room, sv] w fun e w' => e = .returned (.bool true) ∧ Below w.heap.size w w' := by
  obtain ⟨la, lcap, rfl, hl1, hls, hlc⟩ := hl
  have hnum : ∀ i, i < l.length → ∃ n : Nat, l.getD i 0 = (n : Int) ∧ n < 65536 := by
    intro i hi
    have := bounds_u16 (hls _ (List.getElem_mem hi))
    rw [List.getD_eq_getElem?_getD, List.getElem?_eq_getElem hi]
    exact ⟨l[i].toNat, by simp; omega, by omega⟩
  clear hls
  go_enter Try.func4, Try.ntmps4
  go_wp2
  go_loopg [5, 6] l.length (fun g s5 s6 wr => ∃ (i : Nat) (ks : List ByteArray) (ka : Option Addr) (kc : Nat), i ≤ l.length ∧ i ≤ 400 ∧ Hid (g = l.length - i) ∧ s6 = .int .i64 i ∧ s5 = .slice ka i kc ∧
    wr.ownsRow w.heap.size 9 1 (.slice ka i kc) i (strsV ks) ∧ Hid (∀ s ∈ ks, s.size ≤ maxLen) ∧ Hid (ks.length = i) ∧ Below w.heap.size w wr)
  case atStart => exact ⟨0, [], none, 0, Nat.zero_le _, by omega, rfl, rfl, rfl, World.ownsRow_nil _ _ _ _, by simp [Hid], rfl, Below.refl _ _⟩
  case round =>
    obtain ⟨i, ks, ka, kc, hi, hi4, HG, rfl, rfl, hown, HS, HK, hB⟩ := hrel
    have hz := hB.size
    by_cases hlt : i < l.length ∧ i < 400
    · obtain ⟨hlt, hlt4⟩ := hlt
      obtain ⟨b, off, hla, hbw, hc⟩ := hlc i hlt
      obtain ⟨n, hn, hn2⟩ := hnum i hlt
      rw [hn] at hc
      have hc' : wr.cell? ⟨b, off + i, none⟩ = some (.int .u16 (n : Int)) := (hB.cell (p := ⟨b, off + i, none⟩) hbw).trans hc
      subst hla
      clear hnum hlc hn hc
      go_wp2_with (first | (go_at_call 8; refine (key_any n hn2 _).mono ?_; rintro e w' ⟨s, rfl, rfl, hs⟩) | (at_builtin; go_must (refine wpList_append_at_ _ rfl _ _ 22 rfl 9 (.string ByteArray.empty) 1 16 Try.underlying22 tab_info9 rfl (by decide) w.heap.size (.slice ka i kc) i (strsV ks) rfl (hown.alloc _) ⟨wr.heap.size, 0, none⟩ 1 1 [.string s] rfl rfl (cell_one_new _ _ _) (by simp [Value.oneCell']) (by unfold maxLen; omega) (by omega) (by simp; omega) ?_); intro ka' kcap' w1 hown' hcap1 hcap2 hS1 hloc _))
      go_roundg (gk - 1)
      case measure => rw [HG.out]; omega
      case rel =>
        refine ⟨i + 1, ks ++ [s], ka', kcap', by omega, by omega, by rw [HG.out]; simp [Hid]; omega, by go_num, rfl, by simpa [strsV] using hown', ?_, by simp [Hid, HK.out], ?_⟩
        · intro x hx
          rcases List.mem_append.1 hx with hx | hx
          · exact HS.out x hx
          · simp at hx; subst hx; unfold maxLen; omega
        · refine (hB.alloc hz _).trans (hS1.below (by simp; omega) (fun k hk => (hown.lt k hk).1))
    · have hend : ∀ wx, Below wr.heap.size wr wx → Calls Try.prog 7 #[.int .i64 (1 + room % 200), .slice ka i kc] wx (fun e w' => e = .returned (.bool true) ∧ Below wx.heap.size wx w') := by
        intro wx hx
        have hr := (Since.of_below hx).row hown (fun k hk => by have := (hown.lt k hk).2; omega)
        have := StrsAt.of_row (l := ks) (by rw [HK.out]; exact hr) HS.out
        exact play_any wx _ _ ks this
      clear hlc hnum
      by_cases h1 : i < l.length
      · have h2 : i = 400 := by omega
        subst h2
        go_wp2_with (go_at_call 6; refine (awake_any _).mono ?_; rintro e w2 ⟨rfl, hb⟩)
        go_wp2_with (go_at_call 7; refine (hend _ hb).mono ?_; rintro e w3 ⟨rfl, hb3⟩)
        go_ret
        exact ⟨rfl, (hB.trans (hb.mono hz)).trans (hb3.mono (Nat.le_trans hz hb.size))⟩
      · clear hlt
        go_wp2_with (go_at_call 6; refine (awake_any _).mono ?_; rintro e w2 ⟨rfl, hb⟩)
        go_wp2_with (go_at_call 7; refine (hend _ hb).mono ?_; rintro e w3 ⟨rfl, hb3⟩)
        go_ret
        exact ⟨rfl, (hB.trans (hb.mono hz)).trans (hb3.mono (Nat.le_trans hz hb.size))⟩

theorem tableAny_walkA (w : World) (room : Int) (_ : (Lit.int .i64 room).wf = true) (sv : Value) (l : List ByteArray) (hl : StrsAt w sv l) :
    Calls Try.prog 3 #[.int .i64 room, sv] w fun e w' => e = .returned (.bool true) ∧ Below w.heap.size w w' := tableAny_walk w room sv l hl
theorem tableMany_walkA (w : World) (room : Int) (h : (Lit.int .u16 room).wf = true) (sv : Value) (l : List Int) (hl : NumsAt w .u16 sv l) :
    Calls Try.prog 4 #[.int .u16 room, sv] w fun e w' => e = .returned (.bool true) ∧ Below w.heap.size w w' := by
  have := bounds_u16 h
  exact tableMany_walk w room sv l hl (by omega) (by omega)
end Go.Proofs.Ytbpkcdgpplnglaa
