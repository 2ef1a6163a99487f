/- Which nodes are come to from some: the document's answer: the walk. -/
import Derived.Test.YtoojalcfojflhaaGRef
import Derived.Test.YtoojalcfojflhaaReachN
import Derived.Test.YtoojalcfojflhaaWays
namespace Go.Proofs.Ytoojalcfojflhaa
open Go.RowKit

def yesV (l : List Bool) : List Value := l.map Value.bool
theorem yesV_len (l : List Bool) : (yesV l).length = l.length := by simp [yesV]
theorem yesV_at {l : List Bool} {j : Nat} (h : j < l.length) : (yesV l)[j]? = some (.bool (l.getD j false)) := by
  simp [yesV, List.getD_eq_getElem?_getD, h]
theorem yesV_set (l : List Bool) (j : Nat) (b : Bool) : (yesV l).set j (.bool b) = yesV (l.set j b) := by
  simp [yesV, List.map_set]
theorem getD_true_lt {l : List Bool} {j : Nat} (h : l.getD j false = true) : j < l.length := by
  rcases Nat.lt_or_ge j l.length with e | e
  · exact e
  · rw [List.getD_eq_getElem?_getD, List.getElem?_eq_none e] at h; simp at h
theorem getD_set_yes (l : List Bool) (j i : Nat) (hj : j < l.length) : (l.set j true).getD i false = (decide (i = j) || l.getD i false) := by
  simp only [List.getD_eq_getElem?_getD, List.getElem?_set]
  by_cases e : j = i
  · subst e; simp [hj]
  · have : ¬ i = j := fun h => e h.symm
    simp [e, this]
theorem yes_info : (Try.prog.info? 4).map (fun i => (i.zero, i.size, i.bytes)) = some (some (.bool false), 1, 1) := by kernel_rfl
/-- What is so within a round: all places before i are done, of i the first q edges. -/
structure Within (g : GraphD) (S : Nat → Prop) (n : Nat) (ys xs : List Bool) (i q : Nat) : Prop where
  len : xs.length = n
  mono : ∀ v, ys.getD v false = true → xs.getD v false = true
  sound : ∀ v, xs.getD v false = true → From g.succ S v
  done : ∀ v, v < i → ys.getD v false = true → ∀ k ∈ g.succ v, xs.getD k false = true
  part : ys.getD i false = true → ∀ k, k < q → xs.getD (g.toOf i k) false = true
theorem Within.next {g : GraphD} {S : Nat → Prop} {n : Nat} {ys xs : List Bool} {i q : Nat} (h : Within g S n ys xs i q) (he : q = (g.edges.getD i []).length ∨ xs.getD i false = false) : Within g S n ys xs (i + 1) 0 := by
  refine ⟨h.len, h.mono, h.sound, fun v hv hy k hk => ?_, fun _ k hk => absurd hk (by omega)⟩
  by_cases e : v < i
  · exact h.done v e hy k hk
  · obtain rfl : v = i := by omega
    obtain ⟨p, hp, rfl⟩ := g.succ_has hk
    rcases he with he | he
    · exact h.part hy p (by rw [he]; exact hp)
    · rw [h.mono v hy] at he; cases he
theorem Within.mark {g : GraphD} {S : Nat → Prop} {n : Nat} {ys xs : List Bool} {i q : Nat} (h : Within g S n ys xs i q) (hq : g.has i q) (ht : g.toOf i q < n) (hx : xs.getD i false = true) : Within g S n ys (xs.set (g.toOf i q) true) i (q + 1) := by
  have hl := h.len
  refine ⟨by simpa using hl, fun v hv => ?_, fun v hv => ?_, fun v hv hy k hk => ?_, fun hy k hk => ?_⟩
  · rw [getD_set_yes _ _ _ (by omega), h.mono v hv]; simp
  · rw [getD_set_yes _ _ _ (by omega)] at hv
    by_cases e : v = g.toOf i q
    · subst e
      obtain ⟨u, hu, hr⟩ := h.sound i hx
      exact ⟨u, hu, hr.trans (.edge (g.has_succ hq))⟩
    · simp [e] at hv
      exact h.sound v hv
  · rw [getD_set_yes _ _ _ (by omega), h.done v hv hy k hk]; simp
  · rw [getD_set_yes _ _ _ (by omega)]
    by_cases e : k < q
    · rw [h.part hy k e]; simp
    · obtain rfl : k = q := by omega
      simp
theorem Rounds.begin {g : GraphD} {n : Nat} {l : List Bool} (hl : l.length = n) : Rounds n g.succ (fun u => l.getD u false = true) (l.count true) 0 l :=
  ⟨hl, fun _ h => h, fun v h => ⟨v, h, .refl v⟩, .inr (by omega)⟩
theorem count_pos_of {l : List Bool} (h : ∃ v, l.getD v false = true) : 1 ≤ l.count true := by
  obtain ⟨v, hv⟩ := h
  have h1 := getD_true_lt hv
  rw [List.getD_eq_getElem?_getD, List.getElem?_eq_getElem h1] at hv
  exact List.count_pos_iff.2 (by have := List.getElem_mem h1; simp at hv; rwa [hv] at this)
/-- What is told of the nodes that are come to. -/
def TellsFrom (g : GraphD) (n : Nat) (S : Nat → Prop) (w : World) (e : Ending) (w' : World) : Prop :=
  ∃ sv out, e = .returned sv ∧ w'.ownsRow w.heap.size 4 1 sv n (yesV out) ∧ out.length = n ∧ (∀ v, out.getD v false = true ↔ From g.succ S v) ∧ Below w.heap.size w w'
set_option maxRecDepth 100000 in
set_option maxHeartbeats 4000000 in
theorem from_any (w : World) (g : GraphD) (ev iv : Value) (h : GraphAt w g ev iv) (hr : g.right = true) (lb lc : Nat) (l : List Bool) (hln : l.length = g.edges.length) (hlt : lb < w.heap.size) (hl : ∀ j u, (yesV l)[j]? = some u → w.cell? ((⟨lb, 0, none⟩ : Addr).add j) = some u) :
    Calls Try.prog 31 #[graphV g ev iv, .slice (some ⟨lb, 0, none⟩) g.edges.length lc] w (TellsFrom g g.edges.length (fun u => l.getD u false = true) w) := by
  obtain ⟨ea, ec, rfl, hel⟩ := h.edges.slice
  obtain ⟨ia, ic, rfl, hil⟩ := h.initial.slice
  have hn6 : g.edges.length ≤ 1000000 := by
    have h2 := hr
    unfold GraphD.right at h2
    simp only [Bool.and_eq_true, decide_eq_true_eq] at h2
    omega
  have HTO : Hid (∀ a k, g.has a k → g.toOf a k < g.edges.length ∧ ((g.edges.getD a []).getD k default).to = (g.toOf a k : Int)) := fun a k hk => GraphD.right_to hr hk
  obtain ⟨n, hn⟩ : ∃ n, n = g.edges.length := ⟨_, rfl⟩
  rw [← hn] at hln hel hn6 ⊢
  obtain ⟨gm, hgm⟩ : ∃ m, m = g.marks := ⟨_, rfl⟩
  obtain ⟨gi, hgi⟩ : ∃ i, i = g.initial.length := ⟨_, rfl⟩
  have hE := h.edges
  have hA := (Below.refl w.heap.size w).alloc (Nat.le_refl _) (.cells #[.slice ea n ec, .slice ia gi ic, .int .i64 gm] 25)
  have HA := Lib.hid hA
  have HGB := Lib.hid (heap_alloc_new w (.cells #[.slice ea n ec, .slice ia gi ic, .int .i64 gm] 25))
  have hE1 := h.edges.below hA
  have HL : Hid (∀ j u, (yesV l)[j]? = some u → (w.alloc (.cells #[.slice ea n ec, .slice ia gi ic, .int .i64 gm] 25)).cell? ((⟨lb, 0, none⟩ : Addr).add j) = some u) := fun j u hu => by
    have := hl j u hu
    have h2 := hA.cell (p := (⟨lb, 0, none⟩ : Addr).add j) (by simp only [Addr.add]; split <;> exact hlt)
    rw [h2]; exact this
  unfold graphV
  rw [← hgi, ← hgm]
  rw [← hn] at hE1
  have HN := Lib.hid hn
  have HE := Lib.hid hE1
  have HLN := Lib.hid hln
  clear hn hgm hgi hE hE1 hA h hil hln hlt hl hr
  go_enter Try.func31, Try.ntmps31
  go_upto_region 1 with fail
  generalize World.alloc w _ = W at HA HGB HE HL ⊢
  obtain ⟨gx, hgx⟩ : ∃ gx, gx = w.heap.size := ⟨_, rfl⟩
  rw [← hgx] at HGB ⊢
  have HGX := Lib.hid hgx
  have hsz : gx < W.heap.size := lt_of_block HGB.out
  clear hgx
  go_wp2_with (at_builtin; go_must (refine wpList_append_at_ _ rfl _ _ 66 rfl 4 (.bool false) 1 1 Try.underlying66 yes_info rfl (by decide) W.heap.size _ 0 [] rfl (World.ownsRow_nil _ _ _ _) ⟨lb, 0, none⟩ n lc (yesV l) rfl (by rw [yesV_len]; rw [HLN.out]; simp) HL.out (fun u hu => by obtain ⟨b, -, rfl⟩ := List.mem_map.1 hu; rfl) (by unfold maxLen; omega) (by omega) (Nat.le_refl _) ?_); intro a' cap' w4 ho hc1 hc2 hs how hnone; simp only [Nat.zero_add, List.nil_append] at ho how hc2 ⊢; have HO := Lib.hid ho; have HS : Hid (Below W.heap.size W w4) := hs.below (Nat.le_refl _) (fun k hk => by have hk : (Value.slice none 0 0).ownBlock = some k := hk; simp [Value.ownBlock] at hk); clear ho hc1 hc2 hs how hnone)
  go_loopg [6] n (fun gg s6 wr => ∃ (r : Nat) (ys : List Bool), r ≤ n ∧ Hid (gg = n - r) ∧ s6 = .int .i64 r ∧ Hid (wr.ownsRow W.heap.size 4 1 (.slice a' n cap') n (yesV ys)) ∧ Hid (Rounds n g.succ (fun u => l.getD u false = true) (l.count true) r ys) ∧ Hid (Below W.heap.size W wr))
  case atStart => exact ⟨0, l, Nat.zero_le _, rfl, rfl, HO.out, Rounds.begin HLN.out, HS.out⟩
  case round =>
    obtain ⟨r, ys, hrn, HG, rfl, HR, HRO, HB⟩ := hrel
    obtain ⟨wo, rfl⟩ : ∃ wo : World, wo = wr := ⟨_, rfl⟩
    clear HO HS
    by_cases hlt : r < n
    · have hltI : (r : Int) < (n : Int) := by omega
      go_wp2_with fail
      go_loopg [7] n (fun gg s7 wr => ∃ (i : Nat) (xs : List Bool), i ≤ n ∧ Hid (gg = n - i) ∧ s7 = .int .i64 i ∧ Hid (wr.ownsRow W.heap.size 4 1 (.slice a' n cap') n (yesV xs)) ∧ Hid (Within g (fun u => l.getD u false = true) n ys xs i 0) ∧ Hid (Below W.heap.size W wr))
      case atStart => exact ⟨0, ys, Nat.zero_le _, rfl, rfl, HR.out, ⟨HRO.out.len, fun _ h => h, HRO.out.sound, fun v hv => by omega, fun _ k hk => by omega⟩, HB.out⟩
      case round =>
        obtain ⟨i, xs, hi, HG2, rfl, HR2, HW2, HB2⟩ := hrel
        obtain ⟨w2, rfl⟩ : ∃ w2 : World, w2 = wr := ⟨_, rfl⟩
        clear HR HB
        by_cases hin : i < n
        · have hinI : (i : Int) < (n : Int) := by omega
          obtain ⟨-, eb, eo, ka, kc, rfl, heb, hec, hel2⟩ := HE.out.part i (by rw [← HN.out]; exact hin)
          obtain ⟨ln, hln⟩ : ∃ ln, ln = (g.edges.getD i []).length := ⟨_, rfl⟩
          rw [← hln] at hec hel2
          have hlb : ln ≤ 9223372036854775807 := by obtain ⟨_, _, _, h⟩ := hel2.slice; omega
          have HLN2 := Lib.hid hln
          have HEL := Lib.hid hel2
          have HEC : Hid (∀ x, Below W.heap.size W x → x.cell? ⟨eb, eo + i, none⟩ = some (.slice ka ln kc)) := fun x hx => cells_kept hx _ _ hec
          clear hln hel2 heb hec
          obtain ⟨rg, rc, hrg, -, -⟩ := row_some HR2.out (by omega)
          cases hrg
          go_wp2_with fail
          go_loopg [8] ln (fun gg s8 wr => ∃ (q : Nat) (zs : List Bool), q ≤ ln ∧ Hid (gg = ln - q) ∧ s8 = .int .i64 q ∧ Hid (wr.ownsRow W.heap.size 4 1 (.slice (some ⟨rg, 0, none⟩) n cap') n (yesV zs)) ∧ Hid (Within g (fun u => l.getD u false = true) n ys zs i q) ∧ Hid (Below W.heap.size W wr))
          case atStart => exact ⟨0, xs, Nat.zero_le _, rfl, rfl, HR2.out, HW2.out, HB2.out⟩
          case round =>
            obtain ⟨q, zs, hq, HG3, rfl, HR3, HW3, HB3⟩ := hrel
            clear HR2 HB2
            have c0 : wr.cell? ⟨gx, 0, none⟩ = some (.slice (some ⟨eb, eo, none⟩) n ec) := cells_kept HB3.out _ _ (cell_of_block HGB.out 0)
            have c1 := HEC.out wr HB3.out
            have hzl := HW3.out.len
            by_cases hlq : q < ln
            · have hlqI : (q : Int) < (ln : Int) := by omega
              have r0 := HR3.out.cellAt i (by omega)
              rw [yesV_at (by omega)] at r0
              obtain ⟨-, qb, qo, rfl, hqb, hqc, -⟩ := HEL.out.part q (by rw [← HLN2.out]; exact hlq)
              obtain ⟨t1, t2⟩ := HTO.out i q (by unfold GraphD.has; rw [← HLN2.out]; exact hlq)
              obtain ⟨t, ht⟩ : ∃ t, t = g.toOf i q := ⟨_, rfl⟩
              rw [t2, ← ht] at hqc
              rw [← ht, ← HN.out] at t1
              have c2 := cells_kept HB3.out _ _ hqc
              have HT := Lib.hid ht
              have t1I : (t : Int) < (n : Int) := by omega
              have f0 := HR3.out.frozenAt t
              obtain ⟨ov, hov⟩ : ∃ ov, wr.cell? ⟨rg, t, none⟩ = some ov := ⟨_, (HR3.out.cellAt t (by omega)).trans (List.getElem?_eq_getElem (by rw [yesV_len]; omega))⟩
              clear t2 ht hqc hqb
              obtain ⟨b, hb⟩ : ∃ b, b = zs.getD i false := ⟨_, rfl⟩
              rw [← hb] at r0
              have HBB := Lib.hid hb
              clear hb
              have hzs : Hid (b = true → Within g (fun u => l.getD u false = true) n ys (zs.set t true) i (q + 1)) := fun e => by
                have h5 := HW3.out.mark (q := q) (by unfold GraphD.has; rw [← HLN2.out]; exact hlq) (by rw [← HT.out]; exact t1) (by rw [← HBB.out]; exact e)
                rw [← HT.out] at h5; exact h5
              have HST : Hid (b = true → (wr.setCell ⟨rg, t, none⟩ (.bool true)).ownsRow W.heap.size 4 1 (.slice (some ⟨rg, 0, none⟩) n cap') n (yesV (zs.set t true))) := fun _ => by
                rw [← yesV_set]; exact (HR3.out.stored t (.bool true)).1
              have HSB : Hid (Below W.heap.size W (wr.setCell ⟨rg, t, none⟩ (.bool true))) := ((Since.setCell (F := fun k => k = rg) (p := ⟨rg, t, none⟩) (Since.refl _ wr) (.inl rfl) _).below HB3.out.size (fun k hk => by have := (HR3.out.lt rg rfl).1; omega)) |> fun h => HB3.out.trans h
              cases b with
              | true =>
                have HST1 := Lib.hid (HST.out rfl)
                have HZ1 := Lib.hid (hzs.out rfl)
                clear HR3 HST hzs
                go_wp2_with fail
                go_roundg (ln - (q + 1))
                case measure => rw [HG3.out]; omega
                case rel => exact ⟨q + 1, _, by omega, rfl, by simp, HST1.out, HZ1.out, HSB.out⟩
              | false =>
                go_wp2_with fail
                go_roundg (n - (i + 1))
                case measure => rw [HG2.out]; omega
                case rel => exact ⟨i + 1, zs, by omega, rfl, by simp, HR3.out, HW3.out.next (.inr HBB.out.symm), HB3.out⟩
            · obtain rfl : q = ln := by omega
              go_wp2_with fail
              go_roundg (n - (i + 1))
              case measure => rw [HG2.out]; omega
              case rel => exact ⟨i + 1, zs, by omega, rfl, by simp, HR3.out, HW3.out.next (.inl HLN2.out), HB3.out⟩
        · obtain rfl : i = n := by omega
          go_wp2_with fail
          go_roundg (i - (r + 1))
          case measure => rw [HG.out]; omega
          case rel => exact ⟨r + 1, xs, by omega, rfl, by simp, HR2.out, HRO.out.next HW2.out.len HW2.out.mono (fun v hv k hk => HW2.out.done v (by have := getD_true_lt hv; rw [HRO.out.len] at this; exact this) hv k hk) HW2.out.sound, HB2.out⟩
    · obtain rfl : r = n := by omega
      go_wp2_with fail
      go_ret
      exact ⟨_, ys, by first | rfl | simp, row_mono HR.out HA.out.size, HRO.out.len, fun v => HRO.out.full count_pos_of v, HA.out.trans (HB.out.mono HA.out.size)⟩
end Go.Proofs.Ytoojalcfojflhaa
