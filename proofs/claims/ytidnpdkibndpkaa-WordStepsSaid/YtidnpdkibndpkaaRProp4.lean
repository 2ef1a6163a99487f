/- May an atom be: the document's way, where its kind is one: the walk. -/
import Derived.Test.YtidnpdkibndpkaaRProp3
namespace Go.Proofs.Ytidnpdkibndpkaa
open Go.RowKit

/-- Append to a row of the call's own, inside a drawn region, guarded or not. -/
theorem step_append_at_ {P : Program} (w : World) {ops : Array Oper} {o : Oper} {a : Act} {K : Act → World → Prop} {Q : Exit → Act → World → Prop} {E : Prop} (hw : Region.wanted o (yielded ops a.tmps) = true) (s x : Operand) (t : TypeId)
    (ho : o.op = .call { callee := .builtin .append, args := #[s, x], argTypes := #[t, t] })
    (e : TypeId) (z : Value) (size bytes : Nat) (ht : P.underlying t = some (.slice e)) (hinfo : (P.info? e).map (fun i => (i.zero, i.size, i.bytes)) = some (some z, size, bytes)) (hzs : z.cells.size = size) (hsz : 0 < size)
    (base : Nat) (v : Value) (n : Nat) (xs : List Value) (hs : a.eval s = v) (hown : w.ownsRow base e size v n xs)
    (ad : Addr) (m c : Nat) (news : List Value) (hx : a.eval x = .slice (some ad) m c) (hl : news.length = m * size) (hnews : ∀ j u, news[j]? = some u → w.cell? (ad.add j) = some u) (h1 : ∀ u ∈ news, u.oneCell' = true)
    (h63 : n + m ≤ maxLen) (hbytes : (n + m) * bytes ≤ 140737488355328) (hbase : base ≤ w.heap.size)
    (h : ∀ a' cap' w', w'.ownsRow base e size (.slice a' (n + m) cap') (n + m) (xs ++ news) → cap' ≤ 9223372036854775807 → n + m ≤ cap' → Since (fun k => v.ownBlock = some k) w w' →
      K (a.put o.dst (.slice a' (n + m) cap')) w') : if Region.wanted o (yielded ops a.tmps) = true then Oper.wp P o a w K Q else E := by
  rw [if_pos hw]
  obtain ⟨i, hi, hz, hsize, hby⟩ := info_parts hinfo
  obtain ⟨v', w', hr, h2, h3, h4⟩ := run_append_own (P := P) w base t o.type e i z size bytes ht hi hz hsize hby hzs hsz v n xs hown ad m c news hl hnews h1 h63 hbytes hbase
  obtain ⟨a', cap', rfl, hc1, hc2⟩ := row_slice h2
  unfold Oper.wp execOp
  simp only [ho, resolve, invoke, builtin, Sem.run_bind, Sem.run_pure, Result.andThen_ok, List.map_toArray, List.map_cons, List.map_nil, hs, hx, hr]
  exact h a' cap' w' h2 (by unfold maxLen at hc2; omega) hc1 ((Since.refl _ _).grown h3 (fun k hk => .inl hk))

theorem getD_pad (l : List Int) (hl : l.length ≤ 3) (n : Nat) (hn : l.length = n) (xs : List Value) (hxs : xs = l.map (Value.int .i64) ++ [.int .i64 0, .int .i64 0, .int .i64 0]) (j : Nat) (hj : j < 3) :
    xs[j]? = some (.int .i64 ((l ++ [0, 0, 0]).getD j 0)) := by
  subst hxs
  rw [show (l.map (Value.int .i64) ++ [.int .i64 0, .int .i64 0, .int .i64 0] : List Value) = (l ++ [0, 0, 0]).map (Value.int .i64) by simp]
  rw [List.getElem?_map, List.getD_eq_getElem?_getD]
  have : (l ++ [0, 0, 0])[j]? = some ((l ++ [0, 0, 0])[j]'(by simp; omega)) := List.getElem?_eq_getElem _
  rw [this]; rfl

theorem all_no (l : List Int) (i : Nat) (hi : i < l.length) (h : ¬ (0 ≤ l.getD i 0 ∧ l.getD i 0 ≤ 999999)) : l.all (fun x => decide (0 ≤ x ∧ x ≤ 999999)) = false := by
  rw [List.all_eq_false]
  refine ⟨l[i], List.getElem_mem _, ?_⟩
  rw [List.getD_eq_getElem?_getD, List.getElem?_eq_getElem hi, Option.getD_some] at h
  simpa using h
theorem all_yes (l : List Int) (h : ∀ j, j < l.length → 0 ≤ l.getD j 0 ∧ l.getD j 0 ≤ 999999) : l.all (fun x => decide (0 ≤ x ∧ x ≤ 999999)) = true := by
  rw [List.all_eq_true]
  intro x hx
  obtain ⟨i, hi, rfl⟩ := List.getElem_of_mem hx
  have := h i hi
  rw [List.getD_eq_getElem?_getD, List.getElem?_eq_getElem hi, Option.getD_some] at this
  simpa using this

set_option maxRecDepth 100000 in
set_option maxHeartbeats 4000000 in
theorem rprop_some (w : World) (k p2 p3 p4 : Int) (c : UInt8) (cs : List UInt8) (l : List Int) (n : Nat) (hsw : propWord k = c :: cs) (hl : numsOf ⟨k, p2, p3, p4⟩ = l) (hln : l.length = n) (hn : n ≤ 3) (q1 q2 q3 q4 : Int)
    (hq : ofNums k (l ++ [0, 0, 0]) = ⟨q1, q2, q3, q4⟩) : Calls Try.prog 42 #[.agg #[.int .i64 k, .int .i64 p2, .int .i64 p3, .int .i64 p4]] w fun e w' => e = .returned (.bool (decide ((⟨k, p2, p3, p4⟩ : PropD) = ⟨q1, q2, q3, q4⟩) && l.all (fun x => decide (0 ≤ x ∧ x ≤ 999999)))) ∧ Below w.heap.size w w' := by
  have hw : ∀ W, Calls Try.prog 60 #[.int .i64 k] W fun e w' => e = .returned (.string ⟨⟨c :: cs⟩⟩) ∧ Below W.heap.size W w' := fun W => by have := propWord_any k W; rw [hsw] at this; exact this
  have hn' := fun W => numbers_any ⟨k, p2, p3, p4⟩ W
  unfold PropD.val at hn'
  rw [hl] at hn'
  have HW := Lib.hid hw
  have HN := Lib.hid hn'
  have HL := Lib.hid (getD_pad l (by omega) n hln _ rfl)
  have HLN := Lib.hid hln
  have HQ := Lib.hid hq
  clear hw hn' hsw hl hq hln
  have hgd := prop_guard
  obtain ⟨b, hb⟩ : ∃ b, decide ((⟨k, p2, p3, p4⟩ : PropD) = ⟨q1, q2, q3, q4⟩) = b := ⟨_, rfl⟩
  rw [hb]
  obtain ⟨ok, hok⟩ : ∃ ok, ok = l.all (fun x => decide (0 ≤ x ∧ x ≤ 999999)) := ⟨_, rfl⟩
  rw [← hok]
  have HOK := Lib.hid hok
  have heq := prop_eq b hb
  clear hb hok
  go_enter Try.func42, Try.ntmps42
  go_wp2
  go_cut [19] (fun s19 w' => s19 = .bool (!b) ∧ Below w.heap.size w w' ∧ w.heap.size < w'.heap.size ∧ w'.cell? ⟨w.heap.size, 0, none⟩ = some (.int .i64 k) ∧ w'.cell? ⟨w.heap.size, 1, none⟩ = some (.int .i64 p2) ∧ w'.cell? ⟨w.heap.size, 2, none⟩ = some (.int .i64 p3) ∧ w'.cell? ⟨w.heap.size, 3, none⟩ = some (.int .i64 p4))
  case first =>
    first
      | go_region_held3 (fun w' => w'.cell? ⟨w.heap.size, 0, none⟩ = some (.int .i64 k) ∧ w'.cell? ⟨w.heap.size, 1, none⟩ = some (.int .i64 p2) ∧ w'.cell? ⟨w.heap.size, 2, none⟩ = some (.int .i64 p3) ∧ w'.cell? ⟨w.heap.size, 3, none⟩ = some (.int .i64 p4)) (first | go_keep | (rw [hb2.cell (p := ⟨w.heap.size, 0, none⟩) (by simp [World.drew]; try omega), hb2.cell (p := ⟨w.heap.size, 1, none⟩) (by simp [World.drew]; try omega), hb2.cell (p := ⟨w.heap.size, 2, none⟩) (by simp [World.drew]; try omega), hb2.cell (p := ⟨w.heap.size, 3, none⟩) (by simp [World.drew]; try omega)]; go_keep) | (rw [hb3.cell (p := ⟨w.heap.size, 0, none⟩) (by simp; try omega), hb3.cell (p := ⟨w.heap.size, 1, none⟩) (by simp; try omega), hb3.cell (p := ⟨w.heap.size, 2, none⟩) (by simp; try omega), hb3.cell (p := ⟨w.heap.size, 3, none⟩) (by simp; try omega)]; go_keep) | (rw [hS4.cell (p := ⟨w.heap.size, 0, none⟩) (by simp; try omega) hnv, hS4.cell (p := ⟨w.heap.size, 1, none⟩) (by simp; try omega) hnv, hS4.cell (p := ⟨w.heap.size, 2, none⟩) (by simp; try omega) hnv, hS4.cell (p := ⟨w.heap.size, 3, none⟩) (by simp; try omega) hnv]; go_keep) | (rw [hb5.cell (p := ⟨w.heap.size, 0, none⟩) (by simp; try omega), hb5.cell (p := ⟨w.heap.size, 1, none⟩) (by simp; try omega), hb5.cell (p := ⟨w.heap.size, 2, none⟩) (by simp; try omega), hb5.cell (p := ⟨w.heap.size, 3, none⟩) (by simp; try omega)]; go_keep)) (first | (go_at_call 61; refine HO.out.mono ?_; rintro e w5 ⟨rfl, hb5⟩) | (go_at_call 60; refine (HW.out _).mono ?_; rintro e w2 ⟨rfl, hb2⟩; have hs2 : w.heap.size < w2.heap.size := (by have := hb2.size; simp [World.drew] at this; omega)) | (go_at_call 62; refine (HN.out _).mono ?_; rintro e w3 ⟨nv, rfl, hrow, hb3⟩; have hs3 : w.heap.size < w3.heap.size := (by have := hb3.size; (try simp at this); omega); have hnv : ¬ nv.ownBlock = some w.heap.size := (fun e => by have := (hrow.lt _ e).1; (try simp at this); omega); rw [HLN.out] at hrow) | (refine step_append_at_ _ (by rfl) _ _ 86 rfl 3 (.int .i64 0) 1 8 Try.underlying86 int_info rfl (by decide) 0 nv n (l.map (Value.int .i64)) rfl (row_mono (hrow.alloc _) (Nat.zero_le _)) ⟨w3.heap.size, 0, none⟩ 3 3 [.int .i64 0, .int .i64 0, .int .i64 0] rfl rfl (cells_new _ _ _) (by simp [Value.oneCell']) (by unfold maxLen; omega) (by omega) (Nat.zero_le _) ?_; intro xa xc w4 hx4 hxc1 hxc2 hS4; obtain ⟨g, cap, he, -, -⟩ := row_some hx4 (by omega); have hxa : xa = some ⟨g, 0, none⟩ := (Value.slice.inj he).1; subst hxa; clear he; have hs4 : w.heap.size < w4.heap.size := (by have := hS4.size; (try simp at this); omega); have hz4 : ∀ j, j < 3 → w4.cell? ⟨g, j, none⟩ = some (.int .i64 ((l ++ [0, 0, 0]).getD j 0)) := (fun j hj => by rw [hx4.cellAt j (by omega)]; exact HL.out j hj); have HO := Lib.hid ((of_any k w4 g (n + 3) xc (l ++ [0, 0, 0]) (by omega) (by omega) hz4).mono (R' := fun e w' => e = .returned (.agg #[.int .i64 q1, .int .i64 q2, .int .i64 q3, .int .i64 q4]) ∧ Below w4.heap.size w4 w') (fun _ _ h => by rw [HQ.out] at h; exact h)); clear hz4) | (refine step_append_at_ _ (by rfl) _ _ 86 rfl 3 (.int .i64 0) 1 8 Try.underlying86 int_info rfl (by decide) 0 nv n (l.map (Value.int .i64)) rfl (row_mono hrow (Nat.zero_le _)) ⟨w2.heap.size, 0, none⟩ 3 3 [.int .i64 0, .int .i64 0, .int .i64 0] rfl rfl (fun j u h => (hb3.cell (by simp [Addr.add]; split <;> simp)).trans (cells_new w2 _ _ j u h)) (by simp [Value.oneCell']) (by unfold maxLen; omega) (by omega) (Nat.zero_le _) ?_; intro xa xc w4 hx4 hxc1 hxc2 hS4; obtain ⟨g, cap, he, -, -⟩ := row_some hx4 (by omega); have hxa : xa = some ⟨g, 0, none⟩ := (Value.slice.inj he).1; subst hxa; clear he; have hs4 : w.heap.size < w4.heap.size := (by have := hS4.size; (try simp at this); omega); have hz4 : ∀ j, j < 3 → w4.cell? ⟨g, j, none⟩ = some (.int .i64 ((l ++ [0, 0, 0]).getD j 0)) := (fun j hj => by rw [hx4.cellAt j (by omega)]; exact HL.out j hj); have HO := Lib.hid ((of_any k w4 g (n + 3) xc (l ++ [0, 0, 0]) (by omega) (by omega) hz4).mono (R' := fun e w' => e = .returned (.agg #[.int .i64 q1, .int .i64 q2, .int .i64 q3, .int .i64 q4]) ∧ Below w4.heap.size w4 w') (fun _ _ h => by rw [HQ.out] at h; exact h)); clear hz4))
    all_goals
      have hB2 : Below w.heap.size w w2 := ((Below.refl _ _).alloc (Nat.le_refl _) _).drew.trans (hb2.mono (by simp [World.drew]))
      have hB4 : Below w.heap.size w w4 := hB2.trans (by
        first
          | exact (hb3.mono (Nat.le_of_lt hs2)).trans (((Below.refl _ _).alloc (Nat.le_of_lt hs3) _).trans (hS4.below (by simp; omega) (fun k hk => by have := (hrow.lt _ hk).1; omega)))
          | exact ((Below.refl _ _).alloc (Nat.le_of_lt hs2) _).trans ((hb3.mono (by simp; omega)).trans (hS4.below (by omega) (fun k hk => by have := (hrow.lt _ hk).1; simp at this; omega))))
      have hB5 := hB4.trans (hb5.mono (Nat.le_of_lt hs4))
      have hbx : ∀ j v, (#[Value.int .i64 k, .int .i64 p2, .int .i64 p3, .int .i64 p4])[j]? = some v → w5.cell? ⟨w.heap.size, j, none⟩ = some v := fun j v h => by
        have h0 : w2.cell? ⟨w.heap.size, j, none⟩ = some v := (hb2.cell (p := ⟨w.heap.size, j, none⟩) (by simp [World.drew])).trans ((cell_of_block (heap_alloc_new w _) j).trans h)
        have h4 : w4.cell? ⟨w.heap.size, j, none⟩ = some v := by
          first
            | exact (hS4.cell (p := ⟨w.heap.size, j, none⟩) (by simp; omega) hnv).trans ((Below.cell ((Below.refl _ _).alloc (Nat.le_refl _) _) (p := ⟨w.heap.size, j, none⟩) (by simp; omega)).trans ((hb3.cell (p := ⟨w.heap.size, j, none⟩) (by simp; omega)).trans h0))
            | exact (hS4.cell (p := ⟨w.heap.size, j, none⟩) (by simp; omega) hnv).trans ((hb3.cell (p := ⟨w.heap.size, j, none⟩) (by simp; omega)).trans ((Below.cell ((Below.refl _ _).alloc (Nat.le_refl _) _) (p := ⟨w.heap.size, j, none⟩) (by simp; omega)).trans h0))
        exact (hb5.cell (p := ⟨w.heap.size, j, none⟩) (by simp; omega)).trans h4
      have hs5 : w.heap.size < w5.heap.size := Nat.lt_of_lt_of_le hs4 hb5.size
      go_wp2_with fail
      go_meet
      case rel => exact ⟨rfl, hB5, hs5, hbx 0 _ rfl, hbx 1 _ rfl, hbx 2 _ rfl, hbx 3 _ rfl⟩
  case rest =>
    obtain ⟨rfl, hB, hsz, hc0, hc1, hc2, hc3⟩ := hcut
    cases b with
    | false =>
      go_wp2
      go_ret
      exact ⟨rfl, hB⟩
    | true =>
      go_wp2_with fail
      refine (HN.out _).mono ?_
      rintro e w3 ⟨nv, rfl, hrow, hb3⟩
      rw [HLN.out] at hrow
      have hB3 := hB.trans (hb3.mono (Nat.le_of_lt hsz))
      obtain ⟨na, nc, rfl, -, -⟩ := row_slice hrow
      have hcell : ∀ i, i < n → ∃ g, na = some ⟨g, 0, none⟩ ∧ w3.cell? ⟨g, i, none⟩ = some (.int .i64 (l.getD i 0)) := fun i hi => by
        obtain ⟨g, cap, he, -, -⟩ := row_some hrow (by omega)
        have hxa : na = some ⟨g, 0, none⟩ := (Value.slice.inj he).1
        subst hxa
        refine ⟨g, rfl, ?_⟩
        rw [hrow.cellAt i (by omega), List.getElem?_map, List.getD_eq_getElem?_getD, List.getElem?_eq_getElem (by rw [HLN.out]; exact hi)]
        rfl
      have HC := Lib.hid hcell
      clear hcell hrow
      go_wp2_with fail
      go_loopg [4] n (fun g s4 wr => ∃ i : Nat, i ≤ n ∧ Hid (g = n - i) ∧ s4 = .int .i64 i ∧ wr = w3 ∧ Hid (∀ j, j < i → 0 ≤ l.getD j 0 ∧ l.getD j 0 ≤ 999999))
      case atStart => exact ⟨0, Nat.zero_le _, rfl, rfl, rfl, fun j hj => by omega⟩
      case round =>
        obtain ⟨i, hi, HG, rfl, rfl, HJ⟩ := hrel
        by_cases hlt : i < n
        · obtain ⟨gg, rfl, hx⟩ := HC.out i hlt
          obtain ⟨x, hxe⟩ : ∃ x, x = l.getD i 0 := ⟨_, rfl⟩
          rw [← hxe] at hx
          have HX := Lib.hid hxe
          clear hxe
          by_cases h1 : x < 0
          · go_wp2
            go_ret
            refine ⟨?_, hB3⟩
            rw [HOK.out, all_no l i (by rw [HLN.out]; exact hlt) (by rw [← HX.out]; omega)]; rfl
          · by_cases h2 : 999999 < x
            · go_wp2
              go_ret
              refine ⟨?_, hB3⟩
              rw [HOK.out, all_no l i (by rw [HLN.out]; exact hlt) (by rw [← HX.out]; omega)]; rfl
            · go_wp2
              go_roundg (n - (i + 1))
              case measure => rw [HG.out]; omega
              case rel => exact ⟨i + 1, by omega, rfl, by simp, rfl, fun j hj => by
                by_cases he : j = i
                · subst he; rw [← HX.out]; omega
                · exact HJ.out j (by omega)⟩
        · go_wp2
          go_ret
          refine ⟨?_, hB3⟩
          rw [HOK.out, all_yes l (fun j hj => HJ.out j (by rw [HLN.out] at hj; omega))]; rfl

/-- May an atom be: the document's way. -/
theorem rprop_any (w : World) (p : PropD) : Calls Try.prog 42 #[p.val] w fun e w' => e = .returned (.bool (propOk p)) ∧ Below w.heap.size w w' := by
  by_cases h : 1 ≤ p.kind ∧ p.kind ≤ 6
  · obtain ⟨k, p2, p3, p4⟩ := p
    simp only at h
    have : k = 1 ∨ k = 2 ∨ k = 3 ∨ k = 4 ∨ k = 5 ∨ k = 6 := by omega
    clear h
    rcases this with rfl | rfl | rfl | rfl | rfl | rfl
    · exact (rprop_some w 1 p2 p3 p4 _ _ [p3, p4] 2 rfl rfl rfl (by omega) 1 0 p3 p4 rfl).mono (fun e w' h => ⟨h.1.trans (congrArg (fun b => Ending.returned (.bool b)) (Bool.and_comm _ _)), h.2⟩)
    · exact (rprop_some w 2 p2 p3 p4 _ _ [p2, p3, p4] 3 rfl rfl rfl (by omega) 2 p2 p3 p4 rfl).mono (fun e w' h => ⟨h.1.trans (congrArg (fun b => Ending.returned (.bool b)) (Bool.and_comm _ _)), h.2⟩)
    · exact (rprop_some w 3 p2 p3 p4 _ _ [p2, p4] 2 rfl rfl rfl (by omega) 3 p2 0 p4 rfl).mono (fun e w' h => ⟨h.1.trans (congrArg (fun b => Ending.returned (.bool b)) (Bool.and_comm _ _)), h.2⟩)
    · exact (rprop_some w 4 p2 p3 p4 _ _ [p2] 1 rfl rfl rfl (by omega) 4 p2 0 0 rfl).mono (fun e w' h => ⟨h.1.trans (congrArg (fun b => Ending.returned (.bool b)) (Bool.and_comm _ _)), h.2⟩)
    · exact (rprop_some w 5 p2 p3 p4 _ _ [] 0 rfl rfl rfl (by omega) 5 0 0 0 rfl).mono (fun e w' h => ⟨h.1.trans (congrArg (fun b => Ending.returned (.bool b)) (Bool.and_comm _ _)), h.2⟩)
    · exact (rprop_some w 6 p2 p3 p4 _ _ [p2] 1 rfl rfl rfl (by omega) 6 p2 0 0 rfl).mono (fun e w' h => ⟨h.1.trans (congrArg (fun b => Ending.returned (.bool b)) (Bool.and_comm _ _)), h.2⟩)
  · have hk : propWord p.kind = [] := by
      unfold propWord
      rw [if_neg (by omega), if_neg (by omega), if_neg (by omega), if_neg (by omega), if_neg (by omega), if_neg (by omega)]
    have hok : propOk p = false := by
      unfold propOk placesOf
      rw [if_neg (by omega), if_neg (by omega), if_neg (by omega), if_neg (by omega), if_neg (by omega), if_neg (by omega)]
    rw [hok]
    exact rprop_none w p hk
end Go.Proofs.Ytidnpdkibndpkaa
