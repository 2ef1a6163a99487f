/- May an atom be: package logic's way, where its kind is one: the walk. -/
import Derived.Test.YtidnpdkibndpkaaProp
namespace Go.Proofs.Ytidnpdkibndpkaa
open Go.RowKit

/-- A field of an atom, by its place. -/
def PropD.field (p : PropD) : Nat → Int
  | 1 => p.thread
  | 2 => p.place
  | 3 => p.num
  | _ => p.kind
/-- An atom with some of its numbers alone. -/
def PropD.only (p : PropD) (L : List Nat) : PropD := ⟨p.kind, if 1 ∈ L then p.thread else 0, if 2 ∈ L then p.place else 0, if 3 ∈ L then p.num else 0⟩
def propFits (L : List Nat) (p : PropD) : Bool := L.all (fun j => decide (0 ≤ p.field j ∧ p.field j ≤ 999999)) && decide (p = p.only L)
theorem only_cells (p : PropD) (L : List Nat) (j : Nat) (hj : j = 1 ∨ j = 2 ∨ j = 3) : ((p.only L).cells).set j (.int .i64 (p.field j)) = (p.only (L ++ [j])).cells := by
  rcases hj with rfl | rfl | rfl <;> simp [PropD.only, PropD.cells, PropD.field]
theorem cells_field (p : PropD) (j : Nat) (hj : j = 1 ∨ j = 2 ∨ j = 3) : (p.cells)[j]? = some (.int .i64 (p.field j)) := by
  rcases hj with rfl | rfl | rfl <;> rfl

set_option maxRecDepth 100000 in
set_option maxHeartbeats 4000000 in
theorem prop_found (w : World) (p : PropD) (s : ByteArray) (L : List Nat) (fn : FuncId) (hL : ∀ j ∈ L, j = 1 ∨ j = 2 ∨ j = 3) (hLl : L.length ≤ 3) (hk : mfind shapesL p.kind = some (.agg #[.string s, .func (.func fn) #[] #[]]))
    (hfn : ∀ args W, (callFunc fn args).run Try.prog W = .ok (.enter fn args) W) (hpl : ∀ a W, Calls Try.prog fn #[.pointer (some ⟨a, 0, none⟩)] W (TellsPlaces a L W)) :
    Calls Try.prog 45 #[p.val] w fun e w' => e = .returned (.bool (propFits L p)) ∧ Below w.heap.size w w' := by
  have HPL := Lib.hid hpl
  clear hpl
  obtain ⟨res, hres⟩ : ∃ res, res = propFits L p := ⟨_, rfl⟩
  rw [← hres]
  have HRES := Lib.hid hres
  have HLL := Lib.hid hL
  clear hres hL
  obtain ⟨pp, hpp⟩ : ∃ pp, pp = p := ⟨_, rfl⟩
  rw [← hpp] at HRES
  have HPP := Lib.hid hpp
  clear hpp
  obtain ⟨p1, p2, p3, p4⟩ := p
  simp only at hk
  unfold PropD.val
  have HK := Lib.hid hk
  clear hk
  go_enter Try.func45, Try.ntmps45
  go_wp2
  have hbx : ∀ j v, (#[Value.int .i64 p1, .int .i64 p2, .int .i64 p3, .int .i64 p4])[j]? = some v → (w.alloc (.cells #[.int .i64 p1, .int .i64 p2, .int .i64 p3, .int .i64 p4] 23)).cell? ⟨w.heap.size, j, none⟩ = some v := fun j v h => (cell_of_block (heap_alloc_new w _) j).trans h
  have HBX := Lib.hid hbx
  clear hbx
  go_wp2_with fail
  go_cut [3, 4] (fun s3 s4 wx => ∃ g : Nat, s3 = .pointer (some ⟨g, 0, none⟩) ∧ s4 = .bool true ∧ wx.cell? ⟨g, 1, none⟩ = some (.func (.func fn) #[] #[]) ∧ Below w.heap.size w wx ∧ w.heap.size < wx.heap.size ∧ g < wx.heap.size ∧
    (∀ j v, (#[Value.int .i64 p1, .int .i64 p2, .int .i64 p3, .int .i64 p4])[j]? = some v → wx.cell? ⟨w.heap.size, j, none⟩ = some v))
  case first =>
    go_region_with (first | (go_at_call 63; refine (shapes_any _).mono ?_; rintro e w2 ⟨b, rfl, hm, hb, hbel⟩; have hx0 : w2.cell? ⟨w.heap.size, 0, none⟩ = some (.int .i64 p1) := (hbel.cell (p := ⟨w.heap.size, 0, none⟩) (by simp [World.drew]; try omega)).trans (by first | exact HBX.out 0 _ rfl | exact (Below.cell (((Below.refl _ _).alloc (Nat.le_refl _) _)) (p := ⟨w.heap.size, 0, none⟩) (by simp)).trans (HBX.out 0 _ rfl)); have hx0' : ∀ o, (w2.alloc o).cell? ⟨w.heap.size, 0, none⟩ = some (.int .i64 p1) := fun o => (Below.cell ((Below.refl w2.heap.size w2).alloc (Nat.le_refl _) o) (p := ⟨w.heap.size, 0, none⟩) (World.block_lt_of_cell? _ _ hx0)).trans hx0; have hlt2 : w.heap.size < w2.heap.size := World.block_lt_of_cell? _ _ hx0; have hl1 : (Instr.lookup 92 (.map (some b)) (.int .i64 p1) true).run Try.prog w2 = .ok (.tuple #[.agg #[.string s, .func (.func fn) #[] #[]], .bool true]) w2 := (run_lookup_ints hm Try.underlying92 Try.underlying3 (zero_shape _) p1 true).trans (by rw [HK.out]; rfl); have hl2 : ∀ o, (Instr.lookup 92 (.map (some b)) (.int .i64 p1) true).run Try.prog (w2.alloc o) = .ok (.tuple #[.agg #[.string s, .func (.func fn) #[] #[]], .bool true]) (w2.alloc o) := fun o => (run_lookup_ints (hm.below ((Below.refl _ _).alloc (Nat.le_refl _) o)) Try.underlying92 Try.underlying3 (zero_shape _) p1 true).trans (by rw [HK.out]; rfl); have h30 : w2.cell? ⟨w.heap.size + 1, 0, none⟩ = some (.string ByteArray.empty) := (hbel.cell (p := ⟨w.heap.size + 1, 0, none⟩) (by simp [World.drew])).trans (cell_of_block (heap_alloc2_new w (.cells #[.int .i64 p1, .int .i64 p2, .int .i64 p3, .int .i64 p4] 23) (.cells #[.string ByteArray.empty, .nilFunc] 90)) 0); have h31 : w2.cell? ⟨w.heap.size + 1, 1, none⟩ = some .nilFunc := (hbel.cell (p := ⟨w.heap.size + 1, 1, none⟩) (by simp [World.drew])).trans (cell_of_block (heap_alloc2_new w (.cells #[.int .i64 p1, .int .i64 p2, .int .i64 p3, .int .i64 p4] 23) (.cells #[.string ByteArray.empty, .nilFunc] 90)) 1); have h3f : ∀ j, w2.frozen? ⟨w.heap.size + 1, j, none⟩ = false := fun j => (hbel.frozen (p := ⟨w.heap.size + 1, j, none⟩) (by simp [World.drew])).trans (free_of_block (heap_alloc2_new w (.cells #[.int .i64 p1, .int .i64 p2, .int .i64 p3, .int .i64 p4] 23) (.cells #[.string ByteArray.empty, .nilFunc] 90)) j); have HB2 := Lib.hid (((((Below.refl w.heap.size w).alloc (Nat.le_refl _) (.cells #[.int .i64 p1, .int .i64 p2, .int .i64 p3, .int .i64 p4] 23)).alloc (by simp) (.cells #[.string ByteArray.empty, .nilFunc] 90)).drew).trans (hbel.mono (by simp [World.drew]; omega))); have HP2 : Hid (∀ j v, (#[Value.int .i64 p1, .int .i64 p2, .int .i64 p3, .int .i64 p4])[j]? = some v → w2.cell? ⟨w.heap.size, j, none⟩ = some v) := fun j v h => (hbel.cell (p := ⟨w.heap.size, j, none⟩) (by simp [World.drew]; omega)).trans ((Below.cell ((Below.refl _ _).alloc (Nat.le_refl _) _) (p := ⟨w.heap.size, j, none⟩) (by simp)).trans (HBX.out j v h)); have HT2 : Hid (w2.heap[w.heap.size + 1]? = some (.cells #[.string ByteArray.empty, .nilFunc] 90 (0, 0))) := (hbel.block (w.heap.size + 1) (by simp [World.drew])).trans (heap_alloc2_new w _ _)) | (go_at_call 63; refine (shapes_any _).mono ?_; rintro e w2 ⟨b, rfl, hm, hb, hbel⟩; have hx0 : w2.cell? ⟨w.heap.size, 0, none⟩ = some (.int .i64 p1) := (hbel.cell (p := ⟨w.heap.size, 0, none⟩) (by simp [World.drew]; try omega)).trans (by first | exact HBX.out 0 _ rfl | exact (Below.cell (((Below.refl _ _).alloc (Nat.le_refl _) _)) (p := ⟨w.heap.size, 0, none⟩) (by simp)).trans (HBX.out 0 _ rfl)); have hx0' : ∀ o, (w2.alloc o).cell? ⟨w.heap.size, 0, none⟩ = some (.int .i64 p1) := fun o => (Below.cell ((Below.refl w2.heap.size w2).alloc (Nat.le_refl _) o) (p := ⟨w.heap.size, 0, none⟩) (World.block_lt_of_cell? _ _ hx0)).trans hx0; have hlt2 : w.heap.size < w2.heap.size := World.block_lt_of_cell? _ _ hx0; have hl1 : (Instr.lookup 92 (.map (some b)) (.int .i64 p1) true).run Try.prog w2 = .ok (.tuple #[.agg #[.string s, .func (.func fn) #[] #[]], .bool true]) w2 := (run_lookup_ints hm Try.underlying92 Try.underlying3 (zero_shape _) p1 true).trans (by rw [HK.out]; rfl); have hl2 : ∀ o, (Instr.lookup 92 (.map (some b)) (.int .i64 p1) true).run Try.prog (w2.alloc o) = .ok (.tuple #[.agg #[.string s, .func (.func fn) #[] #[]], .bool true]) (w2.alloc o) := fun o => (run_lookup_ints (hm.below ((Below.refl _ _).alloc (Nat.le_refl _) o)) Try.underlying92 Try.underlying3 (zero_shape _) p1 true).trans (by rw [HK.out]; rfl); have HB2 := Lib.hid ((((Below.refl w.heap.size w).alloc (Nat.le_refl _) (.cells #[.int .i64 p1, .int .i64 p2, .int .i64 p3, .int .i64 p4] 23)).drew).trans (hbel.mono (by simp [World.drew]))); have HP2 : Hid (∀ j v, (#[Value.int .i64 p1, .int .i64 p2, .int .i64 p3, .int .i64 p4])[j]? = some v → w2.cell? ⟨w.heap.size, j, none⟩ = some v) := fun j v h => (hbel.cell (p := ⟨w.heap.size, j, none⟩) (by simp [World.drew])).trans (HBX.out j v h)))
    all_goals
      go_wp2_with fail
      go_meet
      case rel =>
        first
          | exact ⟨w2.heap.size, rfl, rfl, cell_of_block (heap_alloc_new w2 _) 1, HB2.out.alloc HB2.out.size _, by simp; omega, by simp, fun j v h => (Below.cell ((Below.refl _ _).alloc (Nat.le_refl _) _) (p := ⟨w.heap.size, j, none⟩) (by simpa using hlt2)).trans (HP2.out j v h)⟩
          | exact ⟨w.heap.size + 1, rfl, rfl, cell_of_block (set_of_block (set_of_block HT2.out 0 _) 1 _) 1, (HB2.out.setCell (by simp) _).setCell (by simp) _, by simp [World.setCell]; omega, by have := lt_of_block HT2.out; simpa [World.setCell] using this,
              fun j v h => ((Since.setCell (F := fun k => k = w.heap.size + 1) (Since.setCell (F := fun k => k = w.heap.size + 1) (Since.refl _ w2) (p := ⟨w.heap.size + 1, 0, none⟩) (.inl rfl) _) (p := ⟨w.heap.size + 1, 1, none⟩) (.inl rfl) _).cell (p := ⟨w.heap.size, j, none⟩) hlt2 (by simp)).trans (HP2.out j v h)⟩
  case rest =>
    obtain ⟨g, rfl, rfl, hg, hB, hwl, hgl, hpb⟩ := hcut
    have hp0 := hpb 0 _ rfl
    have HPB := Lib.hid hpb
    have hgl2 : ∀ o, (wc.alloc o).cell? ⟨g, 1, none⟩ = some (.func (.func fn) #[] #[]) := fun o => (Below.cell ((Below.refl _ _).alloc (Nat.le_refl _) _) (p := ⟨g, 1, none⟩) hgl).trans hg
    clear hpb
    have hz := hB.size
    have HZC := Lib.hid hz
    go_wp2_with fail
    refine (HPL.out wc.heap.size _).mono ?_
    rintro e w3 ⟨sa1, c1, rfl, hcb1, hb3⟩
    have hg3 : w3.cell? ⟨g, 1, none⟩ = some (.func (.func fn) #[] #[]) := (hb3.cell (p := ⟨g, 1, none⟩) (by simp; omega)).trans (hgl2 _)
    have HG3 := Lib.hid hg3
    clear hg hgl2 hp0
    go_wp2_with fail
    refine (HPL.out w.heap.size _).mono ?_
    rintro e w4 ⟨sa2, c2, rfl, hcb2, hb4⟩
    -- what is known of the four blocks: the atom's, the new one's, the two lists of places
    have hB4 : Below w.heap.size w w4 := ((hB.alloc hz _).trans (hb3.mono (by simp; omega))).trans (hb4.mono (by have := hb3.size; simp at this; omega))
    have hz3 : wc.heap.size + 1 ≤ w3.heap.size := by have := hb3.size; simpa using this
    have hqb : w4.heap[wc.heap.size]? = some (.cells #[.int .i64 p1, .int .i64 0, .int .i64 0, .int .i64 0] 23 (0, 0)) := (hb4.block _ (by omega)).trans ((hb3.block _ (by simp)).trans (heap_alloc_new wc _))
    have hcb1' : 0 < L.length → sa1 = some ⟨c1, 0, none⟩ ∧ wc.heap.size + 1 ≤ c1 ∧ w4.heap[c1]? = some (.cells (L.map fun j => Value.pointer (some ⟨wc.heap.size, j, none⟩)).toArray 96 (0, 0)) := fun h => ⟨(hcb1 h).1, by simpa using (hcb1 h).2.1, (hb4.block _ (lt_of_block (hcb1 h).2.2)).trans (hcb1 h).2.2⟩
    have hcb2' : 0 < L.length → sa2 = some ⟨c2, 0, none⟩ ∧ wc.heap.size + 1 ≤ c2 ∧ w4.heap[c2]? = some (.cells (L.map fun j => Value.pointer (some ⟨w.heap.size, j, none⟩)).toArray 96 (0, 0)) := fun h => ⟨(hcb2 h).1, by have := (hcb2 h).2.1; omega, (hcb2 h).2.2⟩
    have hpb4 : ∀ j v, (#[Value.int .i64 p1, .int .i64 p2, .int .i64 p3, .int .i64 p4])[j]? = some v → w4.cell? ⟨w.heap.size, j, none⟩ = some v := fun j v h =>
      (hb4.cell (p := ⟨w.heap.size, j, none⟩) (by simp; omega)).trans ((hb3.cell (p := ⟨w.heap.size, j, none⟩) (by simp; omega)).trans ((Below.cell ((Below.refl _ _).alloc (Nat.le_refl _) _) (p := ⟨w.heap.size, j, none⟩) (by simpa using hwl)).trans (HPB.out j v h)))
    have HB4 := Lib.hid hB4
    have HQB := Lib.hid hqb
    have HC1 := Lib.hid hcb1'
    have HC2 := Lib.hid hcb2'
    have HP4 := Lib.hid hpb4
    have hw4 : w3.heap.size ≤ w4.heap.size := hb4.size
    clear hB4 hqb hcb1 hcb1' hcb2 hcb2' hpb4 hb3 hb4 hB
    go_wp2
    go_loopg [28] L.length (fun gg s28 wr => ∃ i : Nat, i ≤ L.length ∧ Hid (gg = L.length - i) ∧ s28 = .int .i64 i ∧ Hid (Since (fun k => k = wc.heap.size) w4 wr) ∧
      Hid (wr.heap[wc.heap.size]? = some (.cells (pp.only (L.take i)).cells.toArray 23 (0, 0))) ∧ Hid (∀ j ∈ L.take i, 0 ≤ pp.field j ∧ pp.field j ≤ 999999))
    case atStart => exact ⟨0, Nat.zero_le _, rfl, rfl, Since.refl _ _, by rw [HPP.out]; exact HQB.out, by intro j hj; simp at hj⟩
    case round =>
      obtain ⟨i, hi, HG, rfl, HS, HQ, HF⟩ := hrel
      by_cases hlt : i < L.length
      · obtain ⟨n, hn⟩ : ∃ n, n = L[i] := ⟨_, rfl⟩
        obtain ⟨rfl, hc1, hC1⟩ := HC1.out (by omega)
        obtain ⟨rfl, hc2, hC2⟩ := HC2.out (by omega)
        have hn3 := HLL.out L[i] (List.getElem_mem hlt)
        rw [← hn] at hn3
        have hk1 : wr.cell? ⟨c1, i, none⟩ = some (.pointer (some ⟨wc.heap.size, n, none⟩)) := by
          rw [HS.out.cell (p := ⟨c1, i, none⟩) (lt_of_block hC1) (by simp; omega), cell_of_block hC1 i]
          simp [hlt, hn]
        have hk2 : wr.cell? ⟨c2, i, none⟩ = some (.pointer (some ⟨w.heap.size, n, none⟩)) := by
          rw [HS.out.cell (p := ⟨c2, i, none⟩) (lt_of_block hC2) (by simp; omega), cell_of_block hC2 i]
          simp [hlt, hn]
        have hk3 : wr.cell? ⟨w.heap.size, n, none⟩ = some (.int .i64 (pp.field n)) := by
          rw [HS.out.cell (p := ⟨w.heap.size, n, none⟩) (by simp; omega) (by simp; omega)]
          refine HP4.out n _ ?_
          rw [HPP.out]; have h := cells_field ⟨p1, p2, p3, p4⟩ n hn3; simpa [PropD.cells] using h
        have hk4 : ∃ v, wr.cell? ⟨wc.heap.size, n, none⟩ = some v := by
          rw [cell_of_block HQ.out n]
          rcases hn3 with rfl | rfl | rfl <;> exact ⟨_, rfl⟩
        obtain ⟨v0, hk4⟩ := hk4
        have hk5 : wr.frozen? ⟨wc.heap.size, n, none⟩ = false := free_of_block HQ.out n
        obtain ⟨x, hx⟩ : ∃ x, x = pp.field n := ⟨_, rfl⟩
        rw [← hx] at hk3
        have HX := Lib.hid hx
        have HN := Lib.hid hn
        have HN3 := Lib.hid hn3
        have hiL : (i : Int) < L.length := by omega
        clear hx hn hn3 hgl hwl hz hz3 hw4 hc1 hc2 hC1 hC2
        by_cases hx0 : x < 0
        · have hres : res = false := by
            rw [HRES.out, propFits]
            have : L.all (fun j => decide (0 ≤ pp.field j ∧ pp.field j ≤ 999999)) = false := by
              rw [Bool.eq_false_iff]; intro h; rw [List.all_eq_true] at h
              have := of_decide_eq_true (h L[i] (List.getElem_mem hlt))
              rw [← HN.out, ← HX.out] at this; omega
            rw [this, Bool.false_and]
          have hBr : Hid (Below w.heap.size w wr) := HB4.out.trans (HS.out.below HB4.out.size (fun k hk => by subst hk; exact HZC.out))
          subst hres
          go_wp2
          go_ret
          exact ⟨rfl, hBr.out⟩
        · by_cases hx1 : 999999 < x
          · have hres : res = false := by
              rw [HRES.out, propFits]
              have : L.all (fun j => decide (0 ≤ pp.field j ∧ pp.field j ≤ 999999)) = false := by
                rw [Bool.eq_false_iff]; intro h; rw [List.all_eq_true] at h
                have := of_decide_eq_true (h L[i] (List.getElem_mem hlt))
                rw [← HN.out, ← HX.out] at this; omega
              rw [this, Bool.false_and]
            have hBr : Hid (Below w.heap.size w wr) := HB4.out.trans (HS.out.below HB4.out.size (fun k hk => by subst hk; exact HZC.out))
            subst hres
            go_wp2
            go_ret
            exact ⟨rfl, hBr.out⟩
          · have hx1' : x ≤ 999999 := by omega
            go_wp2_with fail
            refine wp_region_still_tail 8 (by kernel_rfl) (by kernel_rfl) ?_
            simp only [List.take_succ_cons, List.take_zero, List.drop_succ_cons, List.drop_zero]
            repeat still_step
            refine wpStill_nil ?_
            change wpList _ _ _ _ _ wr.drew
            go_wp2
            go_roundg (L.length - (i + 1))
            case measure => rw [HG.out]; omega
            case rel =>
              refine ⟨i + 1, by omega, rfl, by go_num, Since.drew _ (HS.out.setCell (.inl rfl) _), ?_, ?_⟩
              · have hset := set_of_block HQ.out n (.int .i64 x)
                rw [HX.out] at hset
                have e : ((pp.only (L.take i)).cells.toArray.setIfInBounds n (.int .i64 (pp.field n))) = (pp.only (L.take (i + 1))).cells.toArray := by
                  rw [List.take_succ_eq_append_getElem hlt, ← HN.out, ← only_cells pp (L.take i) n HN3.out]
                  simp
                rw [e] at hset
                rw [HX.out]; exact hset
              · intro j hj
                rw [List.take_succ_eq_append_getElem hlt, List.mem_append, List.mem_singleton] at hj
                rcases hj with hj | rfl
                · exact HF.out j hj
                · rw [← HN.out, ← HX.out]; omega
      · have hie : i = L.length := by omega
        subst hie
        rw [List.take_length] at HQ HF
        have hall : L.all (fun j => decide (0 ≤ pp.field j ∧ pp.field j ≤ 999999)) = true := by
          rw [List.all_eq_true]; intro j hj; exact decide_eq_true (HF.out j hj)
        have hres : res = decide (pp = pp.only L) := by rw [HRES.out, propFits, hall, Bool.true_and]
        have hx : ∀ j v, (#[Value.int .i64 p1, .int .i64 p2, .int .i64 p3, .int .i64 p4])[j]? = some v → wr.cell? ⟨w.heap.size, j, none⟩ = some v := fun j v h =>
          (HS.out.cell (p := ⟨w.heap.size, j, none⟩) (by simp; omega) (by simp; omega)).trans (HP4.out j v h)
        have hx0 := hx 0 _ rfl
        have hx1 := hx 1 _ rfl
        have hx2 := hx 2 _ rfl
        have hx3 := hx 3 _ rfl
        obtain ⟨q, hq⟩ : ∃ q, q = pp.only L := ⟨_, rfl⟩
        rw [← hq] at hres
        have hqb := HQ.out
        rw [← hq] at hqb
        rw [HPP.out] at hres
        obtain ⟨q1, q2, q3, q4⟩ := q
        have hy0 : wr.cell? ⟨wc.heap.size, 0, none⟩ = some (.int .i64 q1) := cell_of_block hqb 0
        have hy1 : wr.cell? ⟨wc.heap.size, 1, none⟩ = some (.int .i64 q2) := cell_of_block hqb 1
        have hy2 : wr.cell? ⟨wc.heap.size, 2, none⟩ = some (.int .i64 q3) := cell_of_block hqb 2
        have hy3 : wr.cell? ⟨wc.heap.size, 3, none⟩ = some (.int .i64 q4) := cell_of_block hqb 3
        have hgd := prop_guard
        have heq := prop_eq res hres.symm
        have hBr : Hid (Below w.heap.size w wr) := HB4.out.trans (HS.out.below HB4.out.size (fun k hk => by subst hk; exact HZC.out))
        clear hx hqb hq hres hall
        go_wp2
        go_ret
        exact ⟨rfl, hBr.out⟩

/-- Which numbers an atom of a kind has. -/
def placesOf (k : Int) : Option (List Nat) := if k = 1 then some [2, 3] else if k = 2 then some [1, 2, 3] else if k = 3 then some [1, 3] else if k = 4 then some [1] else if k = 5 then some [] else if k = 6 then some [1] else none
/-- May an atom be? -/
def propOk (p : PropD) : Bool := match placesOf p.kind with | some L => propFits L p | none => false
theorem prop_any (w : World) (p : PropD) : Calls Try.prog 45 #[p.val] w fun e w' => e = .returned (.bool (propOk p)) ∧ Below w.heap.size w w' := by
  have hf : ∀ fn, fn = 66 ∨ fn = 67 ∨ fn = 68 ∨ fn = 69 ∨ fn = 70 → ∀ args W, (callFunc fn args).run Try.prog W = .ok (.enter fn args) W := by
    rintro fn (rfl | rfl | rfl | rfl | rfl) args W <;> go_simp
  unfold propOk placesOf
  by_cases h1 : p.kind = 1
  · rw [if_pos h1]
    exact prop_found w p _ [2, 3] _ (by simp) (by simp) (by rw [h1]; rfl) (hf _ (by simp)) places2
  rw [if_neg h1]
  by_cases h2 : p.kind = 2
  · rw [if_pos h2]
    exact prop_found w p _ [1, 2, 3] _ (by simp) (by simp) (by rw [h2]; rfl) (hf _ (by simp)) places3
  rw [if_neg h2]
  by_cases h3 : p.kind = 3
  · rw [if_pos h3]
    exact prop_found w p _ [1, 3] _ (by simp) (by simp) (by rw [h3]; rfl) (hf _ (by simp)) places4
  rw [if_neg h3]
  by_cases h4 : p.kind = 4
  · rw [if_pos h4]
    exact prop_found w p _ [1] _ (by simp) (by simp) (by rw [h4]; rfl) (hf _ (by simp)) places1
  rw [if_neg h4]
  by_cases h5 : p.kind = 5
  · rw [if_pos h5]
    exact prop_found w p _ [] _ (by simp) (by simp) (by rw [h5]; rfl) (hf _ (by simp)) places5
  rw [if_neg h5]
  by_cases h6 : p.kind = 6
  · rw [if_pos h6]
    exact prop_found w p _ [1] _ (by simp) (by simp) (by rw [h6]; rfl) (hf _ (by simp)) places1
  rw [if_neg h6]
  refine prop_none w p _ rfl ?_
  have e1 : ¬ 1 = p.kind := fun h => h1 h.symm
  have e2 : ¬ 2 = p.kind := fun h => h2 h.symm
  have e3 : ¬ 3 = p.kind := fun h => h3 h.symm
  have e4 : ¬ 4 = p.kind := fun h => h4 h.symm
  have e5 : ¬ 5 = p.kind := fun h => h5 h.symm
  have e6 : ¬ 6 = p.kind := fun h => h6 h.symm
  simp [shapesL, mfind, e1, e2, e3, e4, e5, e6]
end Go.Proofs.Ytidnpdkibndpkaa
