/- TableFinds: the walk. -/
import Derived.Test.YtbpkcdgpplnglaaTabLaws
namespace Go.Proofs.Ytbpkcdgpplnglaa
open Go.RowKit

/-- Key number i of the law. -/
def mkey (i : Nat) : ByteArray := ⟨#[UInt8.ofNat (i / 256), UInt8.ofNat i, UInt8.ofNat (i * 7)]⟩
def mkeys (i : Nat) : List ByteArray := (List.range i).map mkey
theorem mkey_size (i : Nat) : (mkey i).size ≤ maxLen := by unfold maxLen; show 3 ≤ _; omega
theorem mkey_inj {i j : Nat} (hi : i < 65536) (hj : j < 65536) (h : mkey i = mkey j) : i = j := by
  unfold mkey at h
  simp only [ByteArray.mk.injEq, Array.mk.injEq, List.cons.injEq] at h
  have h1 := congrArg UInt8.toNat h.1
  have h2 := congrArg UInt8.toNat h.2.1
  simp only [UInt8.toNat_ofNat'] at h1 h2
  omega
theorem mkeys_getD {i j : Nat} (h : j < i) : (mkeys i).getD j ByteArray.empty = mkey j := by
  simp [mkeys, List.getD, h]
theorem mkeys_none {i j : Nat} (h : i ≤ j) (hj : j < 65536) : FindIs (mkeys i) (mkey j) (-1) := by
  refine .inr ⟨rfl, fun k hk he => ?_⟩
  have hk' : k < i := by simpa [mkeys] using hk
  rw [mkeys_getD hk'] at he
  have := mkey_inj (by omega) hj he
  omega
theorem mkeys_some {i j : Nat} (h : j < i) (hi : i < 65536) : FindIs (mkeys i) (mkey j) j := by
  refine .inl ⟨j, by simpa [mkeys] using h, mkeys_getD h, rfl, fun k hk he => ?_⟩
  rw [mkeys_getD (by omega)] at he
  have := mkey_inj (by omega) (by omega) he
  omega
theorem mkeys_x {i : Nat} : FindIs (mkeys i) ⟨#[120]⟩ (-1) := by
  refine .inr ⟨rfl, fun k hk he => ?_⟩
  have hk' : k < i := by simpa [mkeys] using hk
  rw [mkeys_getD hk'] at he
  have := congrArg ByteArray.size he
  exact absurd this (by show ¬ (3 = 1); omega)
theorem mkeys_succ (i : Nat) : mkeys (i + 1) = mkeys i ++ [mkey i] := by simp [mkeys, List.range_succ]

theorem conv3 (w : World) (x y z : Int) : (convert 33 9 (.slice (some ⟨w.heap.size, 0, none⟩) 3 3)).run Try.prog (w.alloc (.cells #[.int .u8 x, .int .u8 y, .int .u8 z] 5)) =
    .ok (.string ⟨#[UInt8.ofNat x.toNat, UInt8.ofNat y.toNat, UInt8.ofNat z.toNat]⟩) (w.alloc (.cells #[.int .u8 x, .int .u8 y, .int .u8 z] 5)) := by
  rw [run_convert_bytes_string _ _ _ 5 _ _ _ Try.underlying33 Try.underlying5 Try.underlying9]
  have hb := heap_alloc_new w (.cells #[.int .u8 x, .int .u8 y, .int .u8 z] 5)
  refine (run_bytesToString _ _ _ _ [x, y, z] (run_loadCells_list _ _ [.int .u8 x, .int .u8 y, .int .u8 z] ?_)).trans rfl
  intro j v hj
  rw [show (⟨w.heap.size, 0, none⟩ : Addr).add j = ⟨w.heap.size, j, none⟩ from by unfold Addr.add; split <;> simp_all, cell_of_block hb j]
  simpa using hj
theorem conv_key (w : World) (i : Nat) : (convert 33 9 (.slice (some ⟨w.heap.size, 0, none⟩) 3 3)).run Try.prog (w.alloc (.cells #[.int .u8 ((i : Int) / 256), .int .u8 ((i : Int) % 256), .int .u8 ((i : Int) * 7 % 256)] 5)) =
    .ok (.string (mkey i)) (w.alloc (.cells #[.int .u8 ((i : Int) / 256), .int .u8 ((i : Int) % 256), .int .u8 ((i : Int) * 7 % 256)] 5)) := by
  rw [conv3]
  have h1 : UInt8.ofNat ((i : Int) / 256).toNat = UInt8.ofNat (i / 256) := by congr 1
  have h2 : UInt8.ofNat ((i : Int) % 256).toNat = UInt8.ofNat i := by apply UInt8.toNat.inj; simp only [UInt8.toNat_ofNat']; omega
  have h3 : UInt8.ofNat ((i : Int) * 7 % 256).toNat = UInt8.ofNat (i * 7) := by apply UInt8.toNat.inj; simp only [UInt8.toNat_ofNat']; omega
  rw [h1, h2, h3, mkey]

set_option maxRecDepth 100000 in
set_option maxHeartbeats 2000000 in
theorem tableFinds_walk (w : World) (n : Int) (h0 : 0 ≤ n) (h1 : n < 65536) :
    Calls Try.prog 5 #[.int .u16 n] w fun e w' => e = .returned (.bool true) ∧ Below w.heap.size w w' := by
  obtain ⟨many, hm⟩ : ∃ many : Nat, ((1 + n % 2000 : Int) = many) ∧ 1 ≤ many ∧ many ≤ 2000 := ⟨(1 + n % 2000).toNat, by omega, by omega, by omega⟩
  obtain ⟨hm, hm1, hm2⟩ := hm
  go_enter Try.func5, Try.ntmps5
  go_wp2_with (first | (go_at_call 6; refine (awake_any _).mono ?_; rintro e w0 ⟨rfl, hb0⟩) | (go_at_call 9; refine (tab_new many hm1 (by omega) _ w.heap.size hb0.size).mono ?_; rintro e w1 ⟨tb, rfl, hT, hS⟩))
  have hS2 : Below w.heap.size w w1 := hb0.trans (hS.below hb0.size (fun _ h => h.elim))
  have hbase : ∀ k, w0.heap.size ≤ k ∧ k < w1.heap.size → w.heap.size ≤ k := fun k hk => Nat.le_trans hb0.size hk.1
  have HM := Lib.hid hm
  replace hT := Lib.hid hT
  clear hm
  go_loopg [6] many (fun g s6 wr => ∃ (i : Nat) (F : Nat → Prop), i ≤ many ∧ Hid (g = many - i) ∧ s6 = .int .i64 i ∧ Hid (Tab wr w.heap.size F tb (mkeys i) many ∧ (∀ k, F k → w.heap.size ≤ k)) ∧ Below w.heap.size w wr)
  case atStart => exact ⟨0, _, Nat.zero_le _, rfl, rfl, ⟨hT.out, hbase⟩, hS2⟩
  case round =>
    obtain ⟨i, F, hi, HG, rfl, HT, hB⟩ := hrel
    have hz := hB.size
    by_cases hlt : i < many
    · have hcv := conv_key wr i
      have hadd := fun W (h : Tab W w.heap.size F tb (mkeys i) many) (hBW : w.heap.size ≤ W.heap.size) => add_new h (mkey i) (mkey_size i) (mkeys_none (Nat.le_refl i) (by omega)) (by simp [mkeys]; exact hlt) hBW
      obtain ⟨key, hkey⟩ : ∃ key, key = mkey i := ⟨_, rfl⟩
      rw [← hkey] at hcv hadd
      have HK := Lib.hid hkey
      have HA := Lib.hid hadd
      clear hkey hadd
      go_wp2_with fail
      refine (HA.out _ (HT.out.1.since ((Since.refl (fun _ => False) _).alloc _) (fun _ _ h => h)) (by simp; omega)).mono ?_
      rintro e w2 ⟨rfl, hT2, hS2'⟩
      rw [show (mkeys i).length = i from by simp [mkeys]]
      go_wp2
      go_roundg (many - (i + 1))
      case measure => rw [HG.out]; omega
      case rel =>
        refine ⟨i + 1, _, by omega, rfl, by go_num, ⟨by rw [mkeys_succ, ← HK.out]; exact hT2, ?_⟩, ?_⟩
        · rintro k (hk | hk)
          · exact HT.out.2 k hk
          · have := hk.1; simp at this; omega
        · exact (hB.alloc hz _).trans (hS2'.below (by simp; omega) HT.out.2)
    · have : i = many := by omega
      subst this
      replace hB := Lib.hid hB
      go_wp2
      go_loopg [9] (i + 50) (fun g s9 wx => ∃ q : Nat, q ≤ i + 50 ∧ Hid (g = i + 50 - q) ∧ s9 = .int .i64 q ∧ Hid (Tab wx w.heap.size F tb (mkeys i) i) ∧ Hid (Below w.heap.size w wx))
      case atStart => exact ⟨0, Nat.zero_le _, rfl, rfl, HT.out.1, hB.out⟩
      case round =>
        obtain ⟨q, hq, HG2, rfl, HT2, HB2⟩ := hrel
        have hz2 := HB2.out.size
        have HF := Lib.hid HT.out.2
        clear hT HT hB
        by_cases hlt2 : q < i + 50
        · have hcv := conv_key wr q
          obtain ⟨key, hkey⟩ : ∃ key, key = mkey q := ⟨_, rfl⟩
          have hf1 : ∀ W, Hid (Tab W w.heap.size F tb (mkeys i) i → q < i → Calls Try.prog 11 #[.pointer (some ⟨tb, 0, none⟩), .string key] W fun e w' => e = .returned (.int .i64 q) ∧ ∃ n, w' = W.drewN n) := by
            intro W h h3; rw [hkey]; exact tab_find h (mkey q) (mkey_size q) q (mkeys_some h3 (by omega))
          have hf2 : ∀ W, Hid (Tab W w.heap.size F tb (mkeys i) i → i ≤ q → Calls Try.prog 11 #[.pointer (some ⟨tb, 0, none⟩), .string key] W fun e w' => e = .returned (.int .i64 (-1)) ∧ ∃ n, w' = W.drewN n) := by
            intro W h h3; rw [hkey]; exact tab_find h (mkey q) (mkey_size q) (-1) (mkeys_none h3 (by omega))
          rw [← hkey] at hcv
          clear hkey
          have HT3 := HT2.out.since ((Since.refl (fun _ => False) _).alloc (.cells #[.int .u8 ((q : Int) / 256), .int .u8 ((q : Int) % 256), .int .u8 ((q : Int) * 7 % 256)] 5)) (fun _ _ h => h)
          replace HT3 := Lib.hid HT3
          have HB3 := Lib.hid (HB2.out.alloc hz2 (.cells #[.int .u8 ((q : Int) / 256), .int .u8 ((q : Int) % 256), .int .u8 ((q : Int) * 7 % 256)] 5))
          by_cases hin : q < i
          · go_wp2_with fail
            refine ((hf1 _).out HT3.out hin).mono ?_
            rintro e w' ⟨rfl, n1, rfl⟩
            go_wp2
            go_roundg (i + 50 - (q + 1))
            case measure => rw [HG2.out]; omega
            case rel => exact ⟨q + 1, by omega, rfl, by go_num, HT3.out.drewN _, HB3.out.trans ⟨rfl, rfl, rfl, Nat.le_refl _, fun _ _ => rfl⟩⟩
          · go_wp2_with fail
            refine ((hf2 _).out HT3.out (by omega)).mono ?_
            rintro e w' ⟨rfl, n1, rfl⟩
            go_wp2
            go_roundg (i + 50 - (q + 1))
            case measure => rw [HG2.out]; omega
            case rel => exact ⟨q + 1, by omega, rfl, by go_num, HT3.out.drewN _, HB3.out.trans ⟨rfl, rfl, rfl, Nat.le_refl _, fun _ _ => rfl⟩⟩
        · go_wp2_with fail
          refine (add_full HT2.out ⟨#[120]⟩ (by unfold maxLen; show 1 ≤ _; omega) mkeys_x (by simp [mkeys])).mono ?_
          rintro e w' ⟨rfl, n1, rfl⟩
          go_wp2_with fail
          obtain ⟨kv, sb, sc, sl, m, hTV, -⟩ := HT2.out.drewN n1
          have hlen := len_any (keys := mkeys i) ⟨_, _, _, hTV⟩
          rw [show (mkeys i).length = i from by simp [mkeys]] at hlen
          refine hlen.mono ?_
          rintro e w' ⟨rfl, rfl⟩
          clear hlen hTV
          go_wp2
          go_ret
          exact ⟨rfl, HB2.out.trans ⟨rfl, rfl, rfl, Nat.le_refl _, fun _ _ => rfl⟩⟩

theorem tableFinds_walkA (w : World) (n : Int) (h : (Lit.int .u16 n).wf = true) :
    Calls Try.prog 5 #[.int .u16 n] w fun e w' => e = .returned (.bool true) ∧ Below w.heap.size w w' := by
  have := bounds_u16 h
  exact tableFinds_walk w n (by omega) (by omega)
end Go.Proofs.Ytbpkcdgpplnglaa
