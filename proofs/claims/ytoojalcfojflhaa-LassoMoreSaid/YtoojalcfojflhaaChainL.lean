/- A long chain with a circle at its end has a lasso, without the circle none: the walk. -/
import Derived.Test.YtoojalcfojflhaaRowsE
namespace Go.Proofs.Ytoojalcfojflhaa
open Go.RowKit

def chainE (n : Nat) (c : Bool) (t j : Nat) : List EdgeD := if j + 1 < n then [⟨((j + 1 : Nat) : Int), 0⟩] else if c then [⟨(t : Int), 1⟩] else []
def gC (n : Nat) (c : Bool) (t : Nat) : GraphD := ⟨(List.range n).map (chainE n c t), [0], 1⟩
section
variable {n t : Nat} {c : Bool}
theorem gC_len : (gC n c t).edges.length = n := by simp [gC]
theorem gC_edges {j : Nat} (hj : j < n) : (gC n c t).edges.getD j [] = chainE n c t j := by simp [gC, List.getD_eq_getElem?_getD, hj]
theorem gC_lt {a k : Nat} (h : (gC n c t).has a k) : a < n := by have := (gC n c t).has_lt h; rwa [gC_len] at this
theorem gC_right (hn : 1 ≤ n) (hb : n ≤ 1000000) (ht : t < n) : (gC n c t).right = true := by
  unfold GraphD.right GraphD.node
  rw [gC_len]
  have h1 : (gC n c t).edges.all (fun l => l.all (fun e => decide (0 ≤ e.to ∧ e.to < (n : Int)))) = true := by
    rw [List.all_eq_true]
    intro l hl
    obtain ⟨j, hj, rfl⟩ := List.mem_map.1 hl
    unfold chainE
    split
    · simp; omega
    · split
      · simp; omega
      · rfl
  rw [h1]
  simp [gC]
  omega
theorem gC_fits : (gC n c t).fits := by
  intro a k h
  have ha := gC_lt h
  unfold GraphD.has at h
  unfold GraphD.markOf
  rw [gC_edges ha] at h ⊢
  unfold chainE at h ⊢
  split at h
  · rename_i h1; rw [if_pos h1]; have : k = 0 := by simpa using h
    subst this
    show (-9223372036854775808 : Int) ≤ 0 ∧ (0 : Int) ≤ 9223372036854775807; decide
  · rename_i h1; rw [if_neg h1]
    split at h
    · have : k = 0 := by simpa using h
      subst this; rename_i h2; rw [if_pos h2]
      show (-9223372036854775808 : Int) ≤ 1 ∧ (1 : Int) ≤ 9223372036854775807; decide
    · simp at h
theorem gC_step {a : Nat} (ha : a + 1 < n) : (gC n c t).has a 0 ∧ (gC n c t).toOf a 0 = a + 1 := by
  unfold GraphD.has GraphD.toOf
  rw [gC_edges (by omega)]
  unfold chainE
  rw [if_pos ha]
  exact ⟨by simp, rfl⟩
theorem gC_last (hn : 1 ≤ n) : (gC n true t).has (n - 1) 0 ∧ (gC n true t).toOf (n - 1) 0 = t ∧ (gC n true t).markOf (n - 1) 0 = 1 := by
  unfold GraphD.has GraphD.toOf GraphD.markOf
  rw [gC_edges (by omega)]
  unfold chainE
  rw [if_neg (by omega)]
  exact ⟨by simp, rfl, rfl⟩
theorem gC_reach {a b : Nat} (h : a ≤ b) (hb : b < n) : Reach (gC n c t).succ a b := by
  induction b with
  | zero => obtain rfl : a = 0 := by omega
            exact .refl 0
  | succ b ih =>
    by_cases e : a = b + 1
    · subst e; exact .refl _
    · obtain ⟨h1, h2⟩ := gC_step (c := c) (t := t) (a := b) hb
      have := (gC n c t).has_succ h1
      rw [h2] at this
      exact (ih (by omega) (by omega)).trans (.edge this)
theorem gC_up {a b : Nat} (h : Reach (gC n false t).succ a b) : a ≤ b := by
  induction h with
  | refl a => exact Nat.le_refl _
  | @step a k b he _ ih =>
    obtain ⟨q, h1, rfl⟩ := (gC n false t).succ_has he
    have ha := gC_lt h1
    unfold GraphD.has at h1
    rw [gC_edges ha] at h1
    unfold chainE at h1
    split at h1
    · rename_i h2
      have : q = 0 := by simpa using h1
      subst this
      rw [(gC_step h2).2] at ih; omega
    · simp at h1
theorem gC_yes (hn : 1 ≤ n) (ht : t < n) : HasL (gC n true t) := by
  obtain ⟨h1, h2, h3⟩ := gC_last (t := t) hn
  have hc : Circ (gC n true t) (n - 1) (n - 1) 0 := by
    have he := (gC n true t).has_succ h1
    exact ⟨h1, .refl _, .refl _, .edge he, by rw [h2]; exact gC_reach (by omega) (by omega)⟩
  refine ⟨n - 1, 0, by show ((0 : Nat) : Int) ∈ [0]; simp, gC_reach (Nat.zero_le _) (by omega), ⟨_, _, hc⟩, fun b hb => ⟨_, _, hc, ?_⟩⟩
  have : b = 0 := by have h : b < 1 := hb; omega
  subst this
  rw [h3]; decide
theorem gC_no : ¬ HasL (gC n false t) := by
  rintro ⟨i, x0, -, -, ⟨a, k, h1, h2, h3, h4, h5⟩, -⟩
  have e1 := gC_up h2
  have e2 := gC_up h5
  have ha := gC_lt h1
  unfold GraphD.has at h1
  rw [gC_edges ha] at h1
  unfold chainE at h1
  split at h1
  · rename_i h6
    have : k = 0 := by simpa using h1
    subst this
    rw [(gC_step h6).2] at e2; omega
  · simp at h1
end
theorem slice_info : (Try.prog.info? 29).map (fun i => (i.zero, i.size, i.bytes)) = some (some (.slice none 0 0), 1, 24) := by kernel_rfl
def partE (i j : Nat) : List EdgeD := if j < i then [⟨((j + 1 : Nat) : Int), 0⟩] else []
theorem partE_next {i : Nat} : upd (partE i) i [⟨((i + 1 : Nat) : Int), 0⟩] = partE (i + 1) := by
  funext j
  unfold upd partE
  by_cases e : j = i
  · subst e; rw [if_pos rfl, if_pos (by omega)]
  · rw [if_neg e]
    by_cases h : j < i
    · rw [if_pos h, if_pos (by omega)]
    · rw [if_neg h, if_neg (by omega)]
theorem partE_no {n t : Nat} (_hn : 1 ≤ n) : (List.range n).map (partE (n - 1)) = (gC n false t).edges := by
  unfold gC
  apply List.map_congr_left
  intro j hj
  have hj' : j < n := by simpa using hj
  unfold partE chainE
  by_cases h : j + 1 < n
  · rw [if_pos (by omega), if_pos h]
  · rw [if_neg (by omega), if_neg h]; rfl
theorem partE_yes {n t : Nat} (_hn : 1 ≤ n) : (List.range n).map (upd (partE (n - 1)) (n - 1) [⟨(t : Int), 1⟩]) = (gC n true t).edges := by
  unfold gC
  apply List.map_congr_left
  intro j hj
  have hj' : j < n := by simpa using hj
  unfold upd partE chainE
  by_cases h : j + 1 < n
  · rw [if_neg (by omega), if_pos (by omega), if_pos h]
  · rw [if_pos (by omega), if_neg h]; rfl
theorem made_slices {w w' : World} {B n : Nat} (ho : w'.ownsRow B 29 1 (.slice (some ⟨w.heap.size, 0, none⟩) n n) n (madeCells (Value.slice none 0 0).cells (n * 1)).toList) : w'.heap[w.heap.size]? = some (.cells ((List.range n).map (fun _ => Value.slice none 0 0)).toArray 29 (0, 0)) := by
  rw [row_whole ho]
  congr 2
  apply Array.ext_getElem?
  intro i
  simp only [madeCells, Nat.mul_one]
  by_cases h : i < n <;> simp [h, Value.cells, Nat.mod_one]
set_option maxRecDepth 100000 in
set_option maxHeartbeats 4000000 in
theorem lassoChain_any (w : World) (a : Int) (wa : (Lit.int .u16 a).wf = true) (b : Int) (wb : (Lit.int .u16 b).wf = true) (c : Bool) :
    Calls Try.prog 7 #[.int .u16 a, .int .u16 b, .bool c] w fun e w' => e = .returned (.bool true) ∧ Below w.heap.size w w' := by
  have ha : 0 ≤ a ∧ a ≤ 65535 := by
    simp [Lit.wf, IntKind.min, IntKind.max, IntKind.signed, IntKind.bits] at wa
    omega
  have hb : 0 ≤ b ∧ b ≤ 65535 := by
    simp [Lit.wf, IntKind.min, IntKind.max, IntKind.signed, IntKind.bits] at wb
    omega
  obtain ⟨a, rfl⟩ : ∃ x : Nat, a = (x : Int) := ⟨a.toNat, by omega⟩
  obtain ⟨b, rfl⟩ : ∃ x : Nat, b = (x : Int) := ⟨b.toNat, by omega⟩
  clear wa wb
  go_enter Try.func7, Try.ntmps7
  go_wp2_with fail
  refine (awakeL_any w).mono ?_
  rintro e w1 ⟨rfl, hb1⟩
  have HB1 := Lib.hid hb1
  clear hb1
  go_upto_region 5 with fail
  obtain ⟨n, hn⟩ : ∃ n : Nat, n = 1 + a % 3000 := ⟨_, rfl⟩
  have hnI : (1 + (a : Int) % 3000) = (n : Int) := by omega
  rw [hnI]
  have hn1 : 1 ≤ n := by omega
  have hn2 : n ≤ 3000 := by omega
  clear hn hnI
  obtain ⟨i0, hi, hz0, hz1, hz2⟩ := info_parts slice_info
  have hb2 : i0.bytes * n ≤ 281474976710656 := by rw [hz2]; omega
  clear hz2
  go_wp2_with (at_make; refine wpList_make_full _ rfl _ _ 22 rfl w1.heap.size 29 i0 (.slice none 0 0) 1 Try.underlying22 hi hz0 hz1 .i64 .i64 _ _ n rfl rfl rfl rfl hb2 (by unfold maxLen; omega) (Nat.le_refl _) ?_; intro w2 ho hg; have HO := Lib.hid (made_slices ho); have HB2 : Hid (Below w1.heap.size w1 w2) := ((Since.refl (fun _ => False) w1).grown hg (by simp)).below (Nat.le_refl _) (fun k h => h.elim); clear ho hg)
  clear hi hz0 hz1 hb2
  obtain ⟨eb, heb⟩ : ∃ eb, eb = w1.heap.size := ⟨_, rfl⟩
  rw [← heb] at HO ⊢
  have hx := boxes_below w2 (.cells #[.int .i64 0] 3) (.cells #[.slice (some ⟨eb, 0, none⟩) n n, .slice (some ⟨w2.heap.size, 0, none⟩) 1 1, .int .i64 1] 25)
  have HI0 := Lib.hid (boxes_first w2 (.cells #[.int .i64 0] 3) (.cells #[.slice (some ⟨eb, 0, none⟩) n n, .slice (some ⟨w2.heap.size, 0, none⟩) 1 1, .int .i64 1] 25))
  have HGX := Lib.hid (boxes_second w2 (.cells #[.int .i64 0] 3) (.cells #[.slice (some ⟨eb, 0, none⟩) n n, .slice (some ⟨w2.heap.size, 0, none⟩) 1 1, .int .i64 1] 25))
  have HR0 := Lib.hid (show RowsAt w2 w1.heap.size eb n (fun _ => .slice none 0 0) (partE 0) from ⟨HO.out, fun j hj => by unfold partE; rw [if_neg (by omega)]; exact World.ownsRow_nil _ _ _ _, fun j hj y hy => by simp [Value.ownBlock] at hy, fun j k hj hk hjk y hy => by simp [Value.ownBlock] at hy, HB2.out.size⟩)
  have HR1 := Lib.hid (HR0.out.below hx)
  have HW3 := Lib.hid (below_then (below_then HB1.out HB2.out) hx)
  have HEB : Hid (w1.heap.size ≤ eb ∧ eb < w2.heap.size) := ⟨by rw [heb]; exact Nat.le_refl _, lt_of_block HO.out⟩
  obtain ⟨ib, hib⟩ : ∃ ib, ib = w2.heap.size := ⟨_, rfl⟩
  rw [← hib] at HI0 HGX HEB HR1 HW3 ⊢
  clear heb hx hib HO HR0
  generalize World.alloc _ _ = W3 at HI0 HGX HR1 HW3 ⊢
  go_loopg [10] n (fun gg s10 wr => ∃ (i : Nat) (cs : Nat → Value), i + 1 ≤ n ∧ Hid (gg = n - i) ∧ s10 = .int .i64 i ∧ Hid (RowsAt wr w1.heap.size eb n cs (partE i)) ∧ Hid (Since (fun y => y = eb) W3 wr))
  case atStart => exact ⟨0, _, hn1, rfl, rfl, HR1.out, Since.refl _ _⟩
  case round =>
    obtain ⟨i, cs, hi, HG, rfl, HR, HS⟩ := hrel
    clear HR1
    have hgx := (HS.out.block _ (lt_of_block HGX.out) (by have := HEB.out; omega)).trans HGX.out
    have c0 := cell_of_block hgx 0
    have c1 := cell_of_block hgx 1
    have c2 := cell_of_block hgx 2
    simp only [List.getElem?_toArray, List.getElem?_cons_zero, List.getElem?_cons_succ] at c0 c1 c2
    have d0 := HR.out.cell (j := i) (by omega)
    have f0 : wr.frozen? ⟨eb, i, none⟩ = false := free_of_block HR.out.block i
    have HGX2 := Lib.hid hgx
    obtain ⟨cv, hcv⟩ : ∃ cv, cv = cs i := ⟨_, rfl⟩
    rw [← hcv] at d0
    clear hgx hcv
    by_cases hlt : i + 1 < n
    · have hltI : (i : Int) + 1 < (n : Int) := by omega
      have hiI : (i : Int) < (n : Int) := by omega
      have hal := (Below.refl wr.heap.size wr).alloc (Nat.le_refl _) (.cells #[.int .i64 ((i : Int) + 1), .int .i64 0] 37)
      have hnx := HR.out.set (i := i) (by omega) (w' := wr.alloc (.cells #[.int .i64 ((i : Int) + 1), .int .i64 0] 37)) (v := .slice (some ⟨wr.heap.size, 0, none⟩) 1 1) (l := [⟨((i + 1 : Nat) : Int), 0⟩]) ((since_of (fun _ => False) hal).mono (fun _ _ h => h.elim))
        (one_edge (w := wr) HR.out.base_le ⟨((i + 1 : Nat) : Int), 0⟩) (fun y hy => by simp [Value.ownBlock] at hy; omega)
      rw [partE_next] at hnx
      have hsi : Since (fun y => y = eb) W3 ((wr.alloc (.cells #[.int .i64 ((i : Int) + 1), .int .i64 0] 37)).setCell ⟨eb, i, none⟩ (.slice (some ⟨wr.heap.size, 0, none⟩) 1 1)) := Since.setCell (p := ⟨eb, i, none⟩) (HS.out.alloc _) (.inl rfl) _
      have d1 := cells_kept hal _ _ d0
      have f1 : (wr.alloc (.cells #[.int .i64 ((i : Int) + 1), .int .i64 0] 37)).frozen? ⟨eb, i, none⟩ = false := free_of_block ((hal.block _ (lt_of_block HR.out.block)).trans HR.out.block) i
      have HNX := Lib.hid hnx
      have HSI := Lib.hid hsi
      clear hal hnx hsi
      go_wp2_with fail
      go_roundg (n - (i + 1))
      case measure => rw [HG.out]; omega
      case rel => exact ⟨i + 1, _, by omega, rfl, by simp, HNX.out, HSI.out⟩
    · obtain ⟨k, rfl⟩ : ∃ k, n = k + 1 := ⟨n - 1, by omega⟩
      obtain rfl : i = k := by omega
      obtain ⟨t, ht⟩ : ∃ t, t = b % (i + 1) := ⟨_, rfl⟩
      have htl : t < i + 1 := by rw [ht]; exact Nat.mod_lt _ (by omega)
      have htI : (b : Int) % ((i : Int) + 1) = (t : Int) := by rw [ht]; simp
      have htI2 : (b : Int) % ((i + 1 : Nat) : Int) = (t : Int) := by rw [ht]; simp
      have HT := Lib.hid htl
      clear ht htl
      cases c
      · have hga : GraphAt wr (gC (i + 1) false t) (.slice (some ⟨eb, 0, none⟩) (i + 1) (i + 1)) (.slice (some ⟨ib, 0, none⟩) 1 1) := by
          refine ⟨?_, ?_⟩
          · have h1 := HR.out.edges (by omega)
            have h2 := partE_no (n := i + 1) (t := t) (by omega)
            simp only [Nat.add_sub_cancel] at h2
            rw [h2] at h1; exact h1
          · have h1 := (HS.out.block _ (lt_of_block HI0.out) (by have := HEB.out; omega)).trans HI0.out
            refine ⟨_, _, rfl, by show 1 ≤ 9223372036854775807; decide, fun x hx => ?_, fun j hj => ?_⟩
            · have h : x ∈ [(0 : Int)] := hx
              simp at h; subst h; decide
            · have hj0 : j = 0 := by have h : j < 1 := hj; omega
              subst hj0
              exact ⟨ib, 0, rfl, lt_of_block h1, cell_of_block h1 0⟩
        have hfind := find_any wr (gC (i + 1) false t) _ _ hga gC_fits (.inl (by rw [gC_len]; omega))
        have HW4 : Hid (Below w.heap.size w wr) := HW3.out.trans (HS.out.below HW3.out.size (fun y hy => by rw [hy]; exact Nat.le_trans HB1.out.size HEB.out.1))
        clear hga
        have HFIND := Lib.hid hfind
        clear hfind
        go_wp2_with fail
        refine HFIND.out.mono ?_
        rintro e w5 ⟨hb5, ⟨h1, -⟩ | ⟨-, -, rfl⟩ | ⟨-, h1, -⟩⟩
        · rw [gC_right (by omega) (by omega) HT.out] at h1; cases h1
        rotate_left
        · exact absurd h1 gC_no
        have hal := (Below.refl w5.heap.size w5).alloc (Nat.le_refl _) (.cells #[.slice none 0 0, .slice none 0 0, .int .i64 0] 27)
        have HB7 : Hid (Below w.heap.size w _) := HW4.out.trans ((below_then hb5 hal).mono HW4.out.size)
        clear hb5 hal HFIND c0 c1 c2
        go_wp2_with fail
        go_ret
        exact ⟨rfl, HB7.out⟩
      · have hwr2 : RowsAt ((wr.alloc (.cells #[.int .i64 (t : Int), .int .i64 1] 37)).setCell ⟨eb, i, none⟩ (.slice (some ⟨wr.heap.size, 0, none⟩) 1 1)) w1.heap.size eb (i + 1) (upd cs i (.slice (some ⟨wr.heap.size, 0, none⟩) 1 1)) (upd (partE i) i [⟨(t : Int), 1⟩]) :=
          HR.out.set (i := i) (by omega) (w' := wr.alloc (.cells #[.int .i64 (t : Int), .int .i64 1] 37)) ((since_of (fun _ => False) ((Below.refl _ _).alloc (Nat.le_refl _) _)).mono (fun _ _ h => h.elim)) (one_edge (w := wr) HR.out.base_le ⟨(t : Int), 1⟩) (fun y hy => by simp [Value.ownBlock] at hy; omega)
        have hal := (Below.refl wr.heap.size wr).alloc (Nat.le_refl _) (.cells #[.int .i64 (t : Int), .int .i64 1] 37)
        have hsi : Since (fun y => y = eb) W3 ((wr.alloc (.cells #[.int .i64 (t : Int), .int .i64 1] 37)).setCell ⟨eb, i, none⟩ (.slice (some ⟨wr.heap.size, 0, none⟩) 1 1)) := Since.setCell (p := ⟨eb, i, none⟩) (HS.out.alloc _) (.inl rfl) _
        have d1 := cells_kept hal _ _ d0
        have f1 : (wr.alloc (.cells #[.int .i64 (t : Int), .int .i64 1] 37)).frozen? ⟨eb, i, none⟩ = false := free_of_block ((hal.block _ (lt_of_block HR.out.block)).trans HR.out.block) i
        have HWR2 := Lib.hid hwr2
        have HSI := Lib.hid hsi
        clear hwr2 hal hsi
        go_upto_region 13 with fail
        generalize World.setCell _ _ _ = W4 at HWR2 HSI ⊢
        clear c0 c1 c2 d0 d1 f0 f1 HR HS
        have HGX4 := Lib.hid ((HSI.out.block _ (lt_of_block HGX.out) (by have := HEB.out; omega)).trans HGX.out)
        have c0 := cell_of_block HGX4.out 0
        have c1 := cell_of_block HGX4.out 1
        have c2 := cell_of_block HGX4.out 2
        simp only [List.getElem?_toArray, List.getElem?_cons_zero, List.getElem?_cons_succ] at c0 c1 c2
        have hga : GraphAt W4 (gC (i + 1) true t) (.slice (some ⟨eb, 0, none⟩) (i + 1) (i + 1)) (.slice (some ⟨ib, 0, none⟩) 1 1) := by
          refine ⟨?_, ?_⟩
          · have h1 := HWR2.out.edges (by omega)
            have h2 := partE_yes (n := i + 1) (t := t) (by omega)
            simp only [Nat.add_sub_cancel] at h2
            rw [h2] at h1; exact h1
          · have h1 := (HSI.out.block _ (lt_of_block HI0.out) (by have := HEB.out; omega)).trans HI0.out
            refine ⟨_, _, rfl, by show 1 ≤ 9223372036854775807; decide, fun x hx => ?_, fun j hj => ?_⟩
            · have h : x ∈ [(0 : Int)] := hx
              simp at h; subst h; decide
            · have hj0 : j = 0 := by have h : j < 1 := hj; omega
              subst hj0
              exact ⟨ib, 0, rfl, lt_of_block h1, cell_of_block h1 0⟩
        have hfind := find_any W4 (gC (i + 1) true t) _ _ hga gC_fits (.inl (by rw [gC_len]; omega))
        have HGA := Lib.hid hga
        have HW4 : Hid (Below w.heap.size w W4) := HW3.out.trans (HSI.out.below HW3.out.size (fun y hy => by rw [hy]; exact Nat.le_trans HB1.out.size HEB.out.1))
        clear hga
        have HFIND := Lib.hid hfind
        clear hfind
        go_wp2_with fail
        refine HFIND.out.mono ?_
        rintro e w5 ⟨hb5, ⟨h1, -⟩ | ⟨-, h1, -⟩ | ⟨-, -, L, nv, fv, rfl, hL, hacc, -, -, -⟩⟩
        · rw [gC_right (by omega) (by omega) HT.out] at h1; cases h1
        · exact absurd (gC_yes (by omega) HT.out) h1
        obtain ⟨na, nc, rfl, hnl⟩ := hL.nodes.slice
        obtain ⟨fa, fc, rfl, hfl⟩ := hL.edges.slice
        obtain ⟨nn, hnn⟩ : ∃ nn, nn = L.nodes.length := ⟨_, rfl⟩
        obtain ⟨fn, hfn⟩ : ∃ fn, fn = L.edges.length := ⟨_, rfl⟩
        obtain ⟨bk, hbk⟩ : ∃ bk, bk = L.back := ⟨_, rfl⟩
        rw [← hnn] at hL hnl
        rw [← hfn] at hL hfl
        unfold lassoV
        rw [← hnn, ← hfn, ← hbk]
        have hal := (Below.refl w5.heap.size w5).alloc (Nat.le_refl _) (.cells #[.slice na nn nc, .slice fa fn fc, .int .i64 bk] 27)
        have hbx := below_then hb5 hal
        have hra := fun X (hX : Below w5.heap.size w5 X) => refAccept_any X (gC (i + 1) true t) _ _ (HGA.out.below (below_then hb5 hX)) L _ _ (hL.below hX)
        rw [hacc] at hra
        unfold lassoV at hra
        rw [← hbk] at hra
        have HRA := Lib.hid hra
        have HLX := Lib.hid (heap_alloc_new w5 (.cells #[.slice na nn nc, .slice fa fn fc, .int .i64 bk] 27))
        have HBX := Lib.hid hbx
        have HAL := Lib.hid hal
        clear hL hacc hra hbx hal hb5 hnn hfn hbk HFIND
        go_upto_region 14 with fail
        generalize World.alloc w5 _ = W6 at HLX HBX HAL ⊢
        obtain ⟨lb, hlb⟩ : ∃ lb, lb = w5.heap.size := ⟨_, rfl⟩
        rw [← hlb] at HLX ⊢
        clear hlb c0 c1 c2
        have hgx6 := (HBX.out.block _ (lt_of_block HGX4.out)).trans HGX4.out
        have c0 := cell_of_block hgx6 0
        have c1 := cell_of_block hgx6 1
        have c2 := cell_of_block hgx6 2
        have q0 := cell_of_block HLX.out 0
        have q1 := cell_of_block HLX.out 1
        have q2 := cell_of_block HLX.out 2
        simp only [List.getElem?_toArray, List.getElem?_cons_zero, List.getElem?_cons_succ] at c0 c1 c2 q0 q1 q2
        clear hgx6
        go_wp2_with fail
        refine (HRA.out W6 HAL.out).mono ?_
        rintro e w7 ⟨rfl, hb7⟩
        have HB7 : Hid (Below w.heap.size w w7) := HW4.out.trans ((below_then HBX.out hb7).mono HW4.out.size)
        clear hb7 HRA c0 c1 c2 q0 q1 q2
        go_wp2_with fail
        go_ret
        exact ⟨rfl, HB7.out⟩
end Go.Proofs.Ytoojalcfojflhaa
