/- WordTwice: whatever numbers: a word whose letters that come again are told twice is the same; no condition. -/
import Derived.Test.YtidnpdkibndpkaaTwice
namespace Go.Proofs.Ytidnpdkibndpkaa
open Go.RowKit

set_option maxRecDepth 100000 in
set_option maxHeartbeats 8000000 in
theorem wordTwice_walk (w : World) (v0 : Value) (l0 : List Int) (h0 : NumsAt w .u8 v0 l0) (v1 : Value) (l1 : List Int) (h1 : NumsAt w .u8 v1 l1) (back : Int) (hw : (Lit.int .u8 back).wf = true) :
    Calls Try.prog 7 #[v0, v1, .int .u8 back] w (fun e w' => e = .returned (.bool true) ∧ Below w.heap.size w w') := by
  have hb0 : 0 ≤ back ∧ back ≤ 255 := by simp [Lit.wf, IntKind.min, IntKind.max, IntKind.signed, IntKind.bits] at hw; omega
  obtain ⟨hb0, hb1⟩ := hb0
  have hm0 := fun W (hW : Below w.heap.size w W) => made_any W v0 l0 (h0.below hW)
  have hmw := fun W (hW : Below w.heap.size w W) (d : Nat) (f : Form) (kv : Value) (h : FormAt W d f kv) (hs : f.size ≤ 1000) => madeWc_any W d f kv v1 l1 back hb0 hb1 h hs (h1.below hW)
  obtain ⟨a0, c0, rfl, -⟩ := h0
  obtain ⟨a1, c1, rfl, -⟩ := h1
  have HM0 := Lib.hid hm0
  have HMW := Lib.hid hmw
  clear hm0 hmw hw
  go_enter Try.func7, Try.ntmps7
  go_wp2_with fail
  refine (awake_any _).mono ?_
  rintro e w1 ⟨rfl, hba⟩
  have HB1 := Lib.hid hba
  clear hba
  go_wp2_with fail
  refine (HM0.out w1 HB1.out).mono ?_
  rintro e w2 ⟨f, fa, fn, fc, rfl, hf, hfo, hfs, hbb⟩
  obtain ⟨fa', fc', he, hfl⟩ := hf.slice
  cases he
  have HB2 : Hid (Below w.heap.size w w2) := below_then HB1.out hbb
  have hmk := fun W (hW : Below w2.heap.size w2 W) => HMW.out W (below_then HB2.out hW) 6 f _ (hf.below hW) (by omega)
  have htr := fun W (hW : Below w2.heap.size w2 W) (lv : Value) (ls : List (List Bool)) (bk : Int) (hl : LettersAt W lv ls) => truth_any W 6 f _ lv ls bk (hf.below hW) hl
  -- what Back is
  have h8 : 1 ≤ lettersN l1 ∧ lettersN l1 ≤ 8 := by unfold lettersN; split <;> (try split) <;> omega
  have hbk : ∃ b : Nat, b < lettersN l1 ∧ back % (lettersN l1 : Int) = (b : Int) := by
    have h1 := Int.emod_nonneg back (show (lettersN l1 : Int) ≠ 0 by omega)
    have h2 := Int.emod_lt_of_pos back (show (0 : Int) < (lettersN l1 : Int) by omega)
    exact ⟨(back % (lettersN l1 : Int)).toNat, by omega, by omega⟩
  obtain ⟨b, hbn, hbe⟩ := hbk
  obtain ⟨lx, hlx, hm1, ht1, h2⟩ := twice_res f hfo hfs l1 b hbn
  unfold TellsWordC at hmk
  rw [hbe] at hmk
  obtain ⟨m, hm⟩ : ∃ m, m = f.props.length := ⟨_, rfl⟩
  rw [← hm] at hm1 ht1 h2
  simp only [← hm] at hmk
  obtain ⟨ls, hls⟩ : ∃ ls, ls = (List.range (lettersN l1)).map (letterOf l1 m) := ⟨_, rfl⟩
  have hln : ls.length = lettersN l1 := by rw [hls]; simp
  rw [← hls] at hm1 ht1 h2
  simp only [← hls] at hmk
  obtain ⟨n, hn⟩ : ∃ n, n = lettersN l1 := ⟨_, rfl⟩
  rw [← hn] at h8 hbn hlx h2 hln
  simp only [← hn] at hmk
  have htx : ∀ W, Below w2.heap.size w2 W → ∀ lv, LettersAt W lv ls → Calls Try.prog 15 #[formV f (.slice fa f.kids.length fc), .agg #[lv, .int .i64 b]] W (fun e w' => ∃ a c, e = .returned (.tuple #[.slice a n c, .int .i64 0]) ∧ n ≤ c ∧ BoolsAt w' (.slice a n c) lx ∧ Below W.heap.size W w') := fun W hW lv hl => (htr W hW lv ls b hl).mono fun e w' h => by
    obtain ⟨hB, ⟨-, sv, rfl, ho⟩ | ⟨hm, -⟩⟩ := h
    · rw [Int.toNat_natCast, ht1] at ho
      have hbs := BoolsAt.of_row ho
      obtain ⟨a, c, rfl, hc, -⟩ := row_slice ho
      rw [hlx] at hbs hc ⊢
      exact ⟨a, c, rfl, hc, hbs, hB⟩
    · rw [hm1] at hm; cases hm
  have hty : ∀ W, Below w2.heap.size w2 W → ∀ lv, LettersAt W lv (ls ++ ls.drop b) → ∀ bk : Nat, bk = b ∨ bk = n → Calls Try.prog 15 #[formV f (.slice fa f.kids.length fc), .agg #[lv, .int .i64 bk]] W (fun e w' => ∃ a c, e = .returned (.tuple #[.slice a (n + (n - b)) c, .int .i64 0]) ∧ n + (n - b) ≤ c ∧ BoolsAt w' (.slice a (n + (n - b)) c) (lx ++ lx.drop b) ∧ Below W.heap.size W w') := fun W hW lv hl bk hbk => (htr W hW lv _ bk hl).mono fun e w' h => by
    obtain ⟨hm2, ht2⟩ := h2 bk hbk
    obtain ⟨hB, ⟨-, sv, rfl, ho⟩ | ⟨hm, -⟩⟩ := h
    · rw [Int.toNat_natCast, ht2] at ho
      have hbs := BoolsAt.of_row ho
      obtain ⟨a, c, rfl, hc, -⟩ := row_slice ho
      have hl3 : (lx ++ lx.drop b).length = n + (n - b) := by simp [hlx]
      rw [hl3] at hbs hc ⊢
      exact ⟨a, c, rfl, hc, hbs, hB⟩
    · rw [hm2] at hm; cases hm
  have HMK := Lib.hid hmk
  have HTX := Lib.hid htx
  have HTY := Lib.hid hty
  have HLX := Lib.hid hlx
  have HLN := Lib.hid hln
  have HM := Lib.hid h8
  clear hmk htx hty hlx hln h8 htr hm1 ht1 h2 hls hm hn hbe hf hfo hfs hbb HM0 HMW HB1
  obtain ⟨fk, ⟨f1, f2, f3, f4⟩, fl⟩ := f
  simp only [Form.kids] at hfl HMK HTX HTY
  unfold formV at *
  simp only [Form.kind, Form.prop, Form.kids] at HMK HTX HTY ⊢
  go_wp2_with fail
  have hA := heap_alloc_new w2 (.cells #[.int .i64 fk, .int .i64 f1, .int .i64 f2, .int .i64 f3, .int .i64 f4, .slice fa fl.length fc] 26)
  have hBA : Below w2.heap.size w2 (w2.alloc (.cells #[.int .i64 fk, .int .i64 f1, .int .i64 f2, .int .i64 f3, .int .i64 f4, .slice fa fl.length fc] 26)) := (Below.refl _ _).alloc (Nat.le_refl _) _
  generalize World.alloc _ _ = w2a at hA hBA ⊢
  obtain ⟨A, hAd⟩ : ∃ A, A = w2.heap.size := ⟨_, rfl⟩
  rw [← hAd] at hA ⊢
  refine (HMK.out _ hBA).mono ?_
  rintro e w3 ⟨la, lc, rfl, hlc, hlt, hb3⟩
  have HA3 : Hid (w3.heap[A]? = _) := (hb3.block A (lt_of_block hA)).trans hA
  have HB3 : Hid (Below w2.heap.size w2 w3) := below_then hBA hb3
  have HLT := Lib.hid hlt
  have HLC := Lib.hid hlc
  clear hA hBA hb3 hlt hlc hAd HMK
  go_upto_region 6 with fail
  have hW9 := heap_alloc_new w3 (.cells #[.slice la n lc, .int .i64 b] 29)
  have hBW : Below w3.heap.size w3 (w3.alloc (.cells #[.slice la n lc, .int .i64 b] 29)) := (Below.refl _ _).alloc (Nat.le_refl _) _
  obtain ⟨T, hT⟩ : ∃ T, T = w3.heap.size := ⟨_, rfl⟩
  rw [← hT] at hW9 ⊢
  generalize World.alloc _ _ = W at hW9 hBW ⊢
  have HW9 := Lib.hid hW9
  have HAW : Hid (W.heap[A]? = _) := (hBW.block A (lt_of_block HA3.out)).trans HA3.out
  have HBW : Hid (Below w2.heap.size w2 W) := below_then HB3.out hBW
  have HLW : Hid (LettersAt W (.slice la n lc) ls) := HLT.out.below hBW
  have hTW := lt_of_block hW9
  obtain ⟨lb, lo, svs, rfl, hlbW, -, hsl, hsc, hsb, hone⟩ := HLW.out.row (by rw [HLN.out]; have := HM.out; omega)
  have HSC := Lib.hid hsc
  have HSB := Lib.hid hsb
  have HONE := Lib.hid hone
  have HSL := Lib.hid hsl
  clear hW9 hBW hsc hsb hone hsl HA3 HB3 HLT hT
  go_cut [10] (fun s10 w' => ∃ B10 ya yc, s10 = .pointer (some ⟨B10, 0, none⟩) ∧ Hid (w'.heap[B10]? = some (.cells #[.slice ya (n + (n - b)) yc, .int .i64 b] 29 (0, 0))) ∧ Hid (LettersAt w' (.slice ya (n + (n - b)) yc) (ls ++ ls.drop b)) ∧ Hid (Below W.heap.size W w'))
  case first =>
    have h8 := HM.out
    have hlc := HLC.out
    have i0 : (0 : Int) ≤ (b : Int) := by omega
    have i1 : (b : Int) ≤ (n : Int) := by omega
    have i2 : ¬ lc = b := by omega
    have cW : ∀ x : World, Below W.heap.size W x → x.cell? ⟨T, 0, none⟩ = some (.slice (some ⟨lb, lo, none⟩) n lc) ∧ x.cell? ⟨T, 1, none⟩ = some (.int .i64 b) :=
      fun x hx => ⟨cells_kept hx _ _ (cell_of_block HW9.out 0), cells_kept hx _ _ (cell_of_block HW9.out 1)⟩
    have CW := Lib.hid cW
    clear cW
    refine wp_region_noPanic ?_
    refine wp_region_held_drew (S := fun w' => Below W.heap.size W w') (by kernel_rfl) (Below.refl _ _).drew (fun hH => ?_)
    refine wpAnyH_take (i := 0) (v := .pointer (some ⟨T, 0, none⟩)) rfl (by kernel_rfl) (by kernel_rfl) (by kernel_rfl) (fun _ _ _ h => h) (Or.inl ⟨by rfl, ?_⟩) (by assumption) ?_
    · intro x hx
      obtain ⟨e0, e1⟩ := CW.out x hx
      go_simp
    change wpAnyH _ _ _ _ _ _ _ (Act.put _ (some 27) _) _
    simp only [Act.put, List.setIfInBounds_toArray, List.set_cons_zero, List.set_cons_succ]
    refine wpAnyH_take (i := 1) (v := .slice (some ⟨lb, lo, none⟩) n lc) rfl (by kernel_rfl) (by kernel_rfl) (by kernel_rfl) (fun _ _ _ h => h) (Or.inl ⟨by rfl, ?_⟩) (by assumption) ?_
    · intro x hx
      obtain ⟨e0, e1⟩ := CW.out x hx
      go_simp
    change wpAnyH _ _ _ _ _ _ _ (Act.put _ (some 28) _) _
    simp only [Act.put, List.setIfInBounds_toArray, List.set_cons_zero, List.set_cons_succ]
    refine wpAnyH_take (i := 3) (v := .pointer (some ⟨T, 0, none⟩)) rfl (by kernel_rfl) (by kernel_rfl) (by kernel_rfl) (fun _ _ _ h => h) (Or.inl ⟨by rfl, ?_⟩) (by assumption) ?_
    · intro x hx
      obtain ⟨e0, e1⟩ := CW.out x hx
      go_simp
    change wpAnyH _ _ _ _ _ _ _ (Act.put _ (some 30) _) _
    simp only [Act.put, List.setIfInBounds_toArray, List.set_cons_zero, List.set_cons_succ]
    refine wpAnyH_take (i := 4) (v := .slice (some ⟨lb, lo, none⟩) n lc) rfl (by kernel_rfl) (by kernel_rfl) (by kernel_rfl) (fun _ _ _ h => h) (Or.inl ⟨by rfl, ?_⟩) (by assumption) ?_
    · intro x hx
      obtain ⟨e0, e1⟩ := CW.out x hx
      go_simp
    change wpAnyH _ _ _ _ _ _ _ (Act.put _ (some 31) _) _
    simp only [Act.put, List.setIfInBounds_toArray, List.set_cons_zero, List.set_cons_succ]
    refine wpAnyH_take (i := 5) (v := .pointer (some ⟨T, 1, none⟩)) rfl (by kernel_rfl) (by kernel_rfl) (by kernel_rfl) (fun _ _ _ h => h) (Or.inl ⟨by rfl, ?_⟩) (by assumption) ?_
    · intro x hx
      obtain ⟨e0, e1⟩ := CW.out x hx
      go_simp
    change wpAnyH _ _ _ _ _ _ _ (Act.put _ (some 32) _) _
    simp only [Act.put, List.setIfInBounds_toArray, List.set_cons_zero, List.set_cons_succ]
    refine wpAnyH_take (i := 6) (v := .int .i64 b) rfl (by kernel_rfl) (by kernel_rfl) (by kernel_rfl) (fun _ _ _ h => h) (Or.inl ⟨by rfl, ?_⟩) (by assumption) ?_
    · intro x hx
      obtain ⟨e0, e1⟩ := CW.out x hx
      go_simp
    change wpAnyH _ _ _ _ _ _ _ (Act.put _ (some 33) _) _
    simp only [Act.put, List.setIfInBounds_toArray, List.set_cons_zero, List.set_cons_succ]
    refine wpAnyH_take (i := 7) (v := .slice (some ⟨lb, lo + b, none⟩) (n - b) (lc - b)) rfl (by kernel_rfl) (by kernel_rfl) (by kernel_rfl) (fun _ _ _ h => h) (Or.inl ⟨by rfl, ?_⟩) (by assumption) ?_
    · intro x hx
      obtain ⟨e0, e1⟩ := CW.out x hx
      go_simp
    change wpAnyH _ _ _ _ _ _ _ (Act.put _ (some 34) _) _
    simp only [Act.put, List.setIfInBounds_toArray, List.set_cons_zero, List.set_cons_succ]
    refine wpAnyH_take (i := 9) (v := .pointer (some ⟨T, 1, none⟩)) rfl (by kernel_rfl) (by kernel_rfl) (by kernel_rfl) (fun _ _ _ h => h) (Or.inl ⟨by rfl, ?_⟩) (by assumption) ?_
    · intro x hx
      obtain ⟨e0, e1⟩ := CW.out x hx
      go_simp
    change wpAnyH _ _ _ _ _ _ _ (Act.put _ (some 36) _) _
    simp only [Act.put, List.setIfInBounds_toArray, List.set_cons_zero, List.set_cons_succ]
    refine wpAnyH_take (i := 10) (v := .int .i64 b) rfl (by kernel_rfl) (by kernel_rfl) (by kernel_rfl) (fun _ _ _ h => h) (Or.inl ⟨by rfl, ?_⟩) (by assumption) ?_
    · intro x hx
      obtain ⟨e0, e1⟩ := CW.out x hx
      go_simp
    change wpAnyH _ _ _ _ _ _ _ (Act.put _ (some 37) _) _
    simp only [Act.put, List.setIfInBounds_toArray, List.set_cons_zero, List.set_cons_succ]
    generalize hA0 : Act.mk _ _ = ac0
    refine chain_since (L0 := #[true, true, false, true, true, true, true, true, false, true, true, false, false, false]) (cs := [2, 8, 11]) (bs := [12]) (obj := fun _ => .cells #[.slice none 0 0, .int .i64 0] 29) 1 W.heap.size
      (J := fun m U ac x => Below W.heap.size W x ∧ (∀ b, U b → W.heap.size ≤ b ∧ b < x.heap.size) ∧ (match m with
        | 0 => ac = ac0
        | 1 => ∃ xa xc, ac = ac0.put (some 29) (.slice xa n xc) ∧ x.ownsRow W.heap.size 41 1 (.slice xa n xc) n svs ∧ ∀ k, (Value.slice xa n xc).ownBlock = some k → ¬ U k
        | 2 => ∃ xa xc ya yc, ac = (ac0.put (some 29) (.slice xa n xc)).put (some 35) (.slice ya (n + (n - b)) yc) ∧ x.ownsRow W.heap.size 41 1 (.slice ya (n + (n - b)) yc) (n + (n - b)) (svs ++ svs.drop b) ∧ ∀ k, (Value.slice ya (n + (n - b)) yc).ownBlock = some k → ¬ U k
        | _ => ∃ xa xc ya yc, ac = ((ac0.put (some 29) (.slice xa n xc)).put (some 35) (.slice ya (n + (n - b)) yc)).put (some 38) (.agg #[.slice ya (n + (n - b)) yc, .int .i64 b]) ∧ x.ownsRow W.heap.size 41 1 (.slice ya (n + (n - b)) yc) (n + (n - b)) (svs ++ svs.drop b) ∧ ∀ k, (Value.slice ya (n + (n - b)) yc).ownBlock = some k → ¬ U k))
      (by kernel_rfl) rfl (by kernel_rfl) (by kernel_rfl) (by kernel_rfl) (by kernel_rfl) (fun _ _ _ _ _ h => h) (fun m U ac x h => h.1) ?_ ?_ ?_ ?_ ?_ ?_
    · exact ⟨(Below.refl _ _).drew, fun _ h => h.elim, rfl⟩
    · exact Nat.le_refl _
    · rintro m U ac x o ⟨h1, h2, h3⟩
      have hb : Below x.heap.size x (x.alloc o) := (Below.refl _ _).alloc (Nat.le_refl _) _
      have hsz := h1.size
      have hown : ∀ {v : Value} {k n : Nat} {xs : List Value}, x.ownsRow W.heap.size 41 1 v n xs → v.ownBlock = some k → ¬ U k → ¬ (U k ∨ k = x.heap.size) := fun hr hk hu h => by
        rcases h with h | h
        · exact hu h
        · have := (hr.lt _ hk).2; omega
      refine ⟨below_then h1 hb, ?_, ?_⟩
      · rintro b (h | rfl)
        · have := h2 b h; rw [World.size_alloc]; omega
        · rw [World.size_alloc]; omega
      · match m, h3 with
        | 0, h => exact h
        | 1, ⟨xa, xc, e, hr, hu⟩ => exact ⟨xa, xc, e, hr.alloc _, fun k hk => hown hr hk (hu k hk)⟩
        | 2, ⟨xa, xc, ya, yc, e, hr, hu⟩ => exact ⟨xa, xc, ya, yc, e, hr.alloc _, fun k hk => hown hr hk (hu k hk)⟩
        | m + 3, ⟨xa, xc, ya, yc, e, hr, hu⟩ => exact ⟨xa, xc, ya, yc, e, hr.alloc _, fun k hk => hown hr hk (hu k hk)⟩
    · intro j hj K ac x hK
      obtain rfl : j = 0 := by simp at hj; omega
      refine wpOp_step rfl (fun K' hK' => ?_)
      go_simp
      exact hK' _ _ hK
    · rintro m hm U ac x ⟨h1, h2, h3⟩ hU
      have hm' : m = 0 ∨ m = 1 ∨ m = 2 := by simp at hm; omega
      have hnews : ∀ j u, svs[j]? = some u → x.cell? ⟨lb, lo + j, none⟩ = some u := fun j u h => cells_kept h1 _ _ (HSC.out j u h)
      have hsl := HSL.out
      rcases hm' with rfl | rfl | rfl
      · obtain rfl : ac = ac0 := h3
        subst hA0
        refine wpOp_step rfl (fun K' hK' => ?_)
        refine step_append_where_ x (by rfl) (.const (.slice none 0 0)) (.tmp 28) 27 rfl 41 (.slice none 0 0) 1 24 Try.underlying27 letters_info rfl (by decide) W.heap.size (.slice none 0 0) 0 [] (by rfl) (World.ownsRow_nil _ _ _ _) ⟨lb, lo, none⟩ n lc svs (by rfl) (by omega) (fun j u h => by rw [add_at]; exact hnews j u h) HONE.out (by unfold maxLen; omega) (by omega) h1.size ?_
        intro xa xc x1 hown hc1 hc2 hS hloc
        simp only [Nat.zero_add, List.nil_append] at hown hc2 hloc ⊢
        have hb1 : Below x.heap.size x x1 := hS.below (Nat.le_refl _) (fun k hk => by cases hk)
        refine hK' _ _ ⟨⟨below_then h1 hb1, fun b h => ⟨(h2 b h).1, Nat.lt_of_lt_of_le (h2 b h).2 hb1.size⟩, xa, xc, rfl, hown, fun k hk hu => ?_⟩, hb1.size, fun k hk => hb1.block k (hU k hk)⟩
        rcases hloc k hk with h | h
        · cases h
        · have := hU k hu; omega
      · obtain ⟨xa, xc, rfl, hr, hu⟩ := h3
        subst hA0
        refine wpOp_step rfl (fun K' hK' => ?_)
        refine step_append_where_ x (by rfl) (.tmp 29) (.tmp 34) 27 rfl 41 (.slice none 0 0) 1 24 Try.underlying27 letters_info rfl (by decide) W.heap.size (.slice xa n xc) n svs (by rfl) hr ⟨lb, lo + b, none⟩ (n - b) (lc - b) (svs.drop b) (by rfl) (by simp; omega) (fun j u h => by rw [add_at, Nat.add_assoc]; exact hnews _ u (by simpa using h)) (fun u h => HONE.out u (List.mem_of_mem_drop h)) (by unfold maxLen; omega) (by omega) h1.size ?_
        intro ya yc x1 hown hc1 hc2 hS hloc
        refine hK' _ _ ⟨⟨h1.trans (hS.below h1.size (fun k hk => (hr.lt k hk).1)), fun b h => ⟨(h2 b h).1, Nat.lt_of_lt_of_le (h2 b h).2 hS.size⟩, xa, xc, ya, yc, rfl, hown, fun k hk hu2 => ?_⟩, hS.size, fun k hk => hS.block k (hU k hk) (fun h => hu k h hk)⟩
        rcases hloc k hk with h | h
        · exact hu k h hu2
        · have := hU k hu2; omega
      · obtain ⟨xa, xc, ya, yc, rfl, hr, hu⟩ := h3
        subst hA0
        refine wpOp_step rfl (fun K' hK' => ?_)
        go_simp
        exact hK' _ _ ⟨⟨h1, h2, xa, xc, ya, yc, rfl, hr, hu⟩, Nat.le_refl _, fun _ _ => rfl⟩
    · rintro B U ac x ⟨h1, h2, xa, xc, ya, yc, rfl, hr, hu⟩ hB hBd
      subst hA0
      obtain ⟨D, hD, uD, hDW, zD⟩ : ∃ D, B 0 = D ∧ U D ∧ W.heap.size ≤ D ∧ x.heap[D]? = some (.cells #[.slice none 0 0, .int .i64 0] 29) := ⟨B 0, rfl, hB 0 (by simp)⟩
      change wpAnyH _ _ _ _ _ 1 _ (Act.put (Act.put (Act.put (Act.put _ (some 29) _) (some 35) _) (some 38) _) (some 10) (.pointer (some ⟨B 0, 0, none⟩))) x
      rw [hD]
      simp only [Act.put, List.setIfInBounds_toArray, List.set_cons_zero, List.set_cons_succ]
      have q0 := cell_of_block zD 0
      have q1 := cell_of_block zD 1
      simp only [List.getElem?_toArray, List.getElem?_cons_zero, List.getElem?_cons_succ] at q0 q1
      have qf : ∀ j, x.frozen? ⟨D, j, none⟩ = false := fun j => free_of_block zD j
      have hs1 := set_of_block zD 0 (.slice ya (n + (n - b)) yc)
      have hs2 := set_of_block hs1 1 (.int .i64 b)
      have hs3 : ((x.setCell ⟨D, 0, none⟩ (.slice ya (n + (n - b)) yc)).setCell ⟨D, 1, none⟩ (.int .i64 b)).heap[D]? = some (.cells #[.slice ya (n + (n - b)) yc, .int .i64 b] 29 (0, 0)) := by simpa using hs2
      have hb2 : Below W.heap.size W ((x.setCell ⟨D, 0, none⟩ (.slice ya (n + (n - b)) yc)).setCell ⟨D, 1, none⟩ (.int .i64 b)) := (h1.setCell hDW _).setCell hDW _
      have hl2 := letters_twice (row_keep (row_keep hr zD (by decide)) hs1 (by decide)) HLN.out HSL.out HSB.out hb2
      have HS3 := Lib.hid hs3
      have HB2 := Lib.hid hb2
      have HL2 := Lib.hid hl2
      clear hs1 hs2 hs3 hb2 hl2 hr hu hB hBd h1 h2 zD uD hD
      refine wpAnyH_ready (rs := [13]) (by kernel_rfl) (by simp) ?_
      refine AllReadyH.cons rfl (fun K hK => ?_) AllReadyH.nil
      go_simp
      refine hK.out _ _ HB2.out (fun _ => ?_)
      generalize World.setCell _ _ _ = x7 at HS3 HB2 HL2 ⊢
      clear hK K q0 q1 qf
      refine wpAnyH_done (by kernel_rfl) ?_ _
      refine NoPanic.normal ?_
      go_wp2_with fail
      go_meet
      case rel => exact ⟨_, _, _, rfl, HS3.out, HL2.out, HB2.out⟩
  case rest =>
    obtain ⟨T2, ya, yc, rfl, HT2, HL2, HBC⟩ := hcut
    obtain ⟨wd, rfl⟩ : ∃ wd : World, wd = wc := ⟨_, rfl⟩
    have hA1 := (HBC.out.block A (lt_of_block HAW.out)).trans HAW.out
    have hT1 := (HBC.out.block T hTW).trans HW9.out
    have HB1 : Hid (Below w2.heap.size w2 wd) := below_then HBW.out HBC.out
    have HL1 : Hid (LettersAt wd (.slice (some ⟨lb, lo, none⟩) n lc) ls) := HLW.out.below HBC.out
    have a0c := cell_of_block hA1 0
    have a1c := cell_of_block hA1 1
    have a2c := cell_of_block hA1 2
    have a3c := cell_of_block hA1 3
    have a4c := cell_of_block hA1 4
    have a5c := cell_of_block hA1 5
    have t0c := cell_of_block hT1 0
    have t1c := cell_of_block hT1 1
    have u0c := cell_of_block HT2.out 0
    have u1c := cell_of_block HT2.out 1
    simp only [List.getElem?_toArray, List.getElem?_cons_zero, List.getElem?_cons_succ] at a0c a1c a2c a3c a4c a5c t0c t1c u0c u1c
    have hwl : LettersAt wd (.slice ya (n + (n - b)) yc) (ls ++ ls.drop b) := HL2.out
    have HL2w := Lib.hid hwl
    have h8 := HM.out
    clear hA1 hT1 HAW HW9 HBW HLW HBC HT2 HL2 hwl hTW
    go_upto_region 8 with fail
    have hT3 := heap_alloc_new wd (.cells #[.slice ya (n + (n - b)) yc, .int .i64 n] 29)
    have hB3 : Below wd.heap.size wd (wd.alloc (.cells #[.slice ya (n + (n - b)) yc, .int .i64 n] 29)) := (Below.refl _ _).alloc (Nat.le_refl _) _
    obtain ⟨T3, hT3d⟩ : ∃ T3, T3 = wd.heap.size := ⟨_, rfl⟩
    rw [← hT3d] at hT3 ⊢
    generalize World.alloc _ _ = W2 at hT3 hB3 ⊢
    have v0c := cell_of_block hT3 0
    have v1c := cell_of_block hT3 1
    simp only [List.getElem?_toArray, List.getElem?_cons_zero, List.getElem?_cons_succ] at v0c v1c
    replace a0c := cells_kept hB3 _ _ a0c
    replace a1c := cells_kept hB3 _ _ a1c
    replace a2c := cells_kept hB3 _ _ a2c
    replace a3c := cells_kept hB3 _ _ a3c
    replace a4c := cells_kept hB3 _ _ a4c
    replace a5c := cells_kept hB3 _ _ a5c
    replace t0c := cells_kept hB3 _ _ t0c
    replace t1c := cells_kept hB3 _ _ t1c
    replace u0c := cells_kept hB3 _ _ u0c
    replace u1c := cells_kept hB3 _ _ u1c
    have HB2 : Hid (Below w2.heap.size w2 W2) := below_then HB1.out hB3
    have HX2 : Hid (LettersAt W2 (.slice (some ⟨lb, lo, none⟩) n lc) ls) := HL1.out.below hB3
    have HY2 : Hid (LettersAt W2 (.slice ya (n + (n - b)) yc) (ls ++ ls.drop b)) := HL2w.out.below hB3
    clear hT3 hB3 hT3d HB1 HL1 HL2w
    go_wp2_with fail
    refine (HTX.out W2 HB2.out _ HX2.out).mono ?_
    rintro e W3 ⟨xa, xc, rfl, hxc, hbx, hb⟩
    replace a0c := cells_kept hb _ _ a0c
    replace a1c := cells_kept hb _ _ a1c
    replace a2c := cells_kept hb _ _ a2c
    replace a3c := cells_kept hb _ _ a3c
    replace a4c := cells_kept hb _ _ a4c
    replace a5c := cells_kept hb _ _ a5c
    replace t0c := cells_kept hb _ _ t0c
    replace t1c := cells_kept hb _ _ t1c
    replace u0c := cells_kept hb _ _ u0c
    replace u1c := cells_kept hb _ _ u1c
    replace v0c := cells_kept hb _ _ v0c
    replace v1c := cells_kept hb _ _ v1c
    have HB3 : Hid (Below w2.heap.size w2 W3) := below_then HB2.out hb
    have HY3 : Hid (LettersAt W3 (.slice ya (n + (n - b)) yc) (ls ++ ls.drop b)) := HY2.out.below hb
    have HR3 := Lib.hid hbx
    clear hb hbx HX2 HY2 HB2
    go_wp2_with fail
    refine (HTY.out W3 HB3.out _ HY3.out b (.inl rfl)).mono ?_
    rintro e W4 ⟨ra, rc, rfl, hrc, hbr, hb⟩
    replace a0c := cells_kept hb _ _ a0c
    replace a1c := cells_kept hb _ _ a1c
    replace a2c := cells_kept hb _ _ a2c
    replace a3c := cells_kept hb _ _ a3c
    replace a4c := cells_kept hb _ _ a4c
    replace a5c := cells_kept hb _ _ a5c
    replace t0c := cells_kept hb _ _ t0c
    replace t1c := cells_kept hb _ _ t1c
    replace u0c := cells_kept hb _ _ u0c
    replace u1c := cells_kept hb _ _ u1c
    replace v0c := cells_kept hb _ _ v0c
    replace v1c := cells_kept hb _ _ v1c
    have HB4 : Hid (Below w2.heap.size w2 W4) := below_then HB3.out hb
    have HY4 : Hid (LettersAt W4 (.slice ya (n + (n - b)) yc) (ls ++ ls.drop b)) := HY3.out.below hb
    have HR34 : Hid (BoolsAt W4 (.slice xa n xc) lx) := HR3.out.below hb
    have HS4 := Lib.hid hbr
    clear hb hbr HR3 HY3 HB3
    go_wp2_with fail
    refine (HTY.out W4 HB4.out _ HY4.out n (.inr rfl)).mono ?_
    rintro e W5 ⟨sa, sc, rfl, hsc, hbs, hb⟩
    replace a0c := cells_kept hb _ _ a0c
    replace a1c := cells_kept hb _ _ a1c
    replace a2c := cells_kept hb _ _ a2c
    replace a3c := cells_kept hb _ _ a3c
    replace a4c := cells_kept hb _ _ a4c
    replace a5c := cells_kept hb _ _ a5c
    replace t0c := cells_kept hb _ _ t0c
    replace t1c := cells_kept hb _ _ t1c
    replace u0c := cells_kept hb _ _ u0c
    replace u1c := cells_kept hb _ _ u1c
    replace v0c := cells_kept hb _ _ v0c
    replace v1c := cells_kept hb _ _ v1c
    have HB5 : Hid (Below w2.heap.size w2 W5) := below_then HB4.out hb
    have HR5 : Hid (BoolsAt W5 (.slice xa n xc) lx) := HR34.out.below hb
    have HS5 : Hid (BoolsAt W5 (.slice ra (n + (n - b)) rc) (lx ++ lx.drop b)) := HS4.out.below hb
    have HV5 := Lib.hid hbs
    clear hb hbs HR34 HS4 HY4 HB4 HTX HTY
    go_upto_region 11 with fail
    clear a0c a1c a2c a3c a4c a5c t0c u0c u1c v0c v1c
    have hlx := HLX.out
    obtain ⟨xb, xo, rfl⟩ : ∃ xb xo, xa = some ⟨xb, xo, none⟩ := by
      obtain ⟨a', c', he, -, h4⟩ := HR5.out
      cases he
      obtain ⟨xb, xo, e, -⟩ := h4 0 (by omega)
      exact ⟨xb, xo, e⟩
    obtain ⟨rb, ro, rfl⟩ : ∃ rb ro, ra = some ⟨rb, ro, none⟩ := by
      obtain ⟨a', c', he, -, h4⟩ := HS5.out
      obtain rfl : ra = a' := by injection he
      obtain ⟨xb, xo, e, -⟩ := h4 0 (by simp; omega)
      exact ⟨xb, xo, e⟩
    have hc1 := fun x (hx : Below W5.heap.size W5 x) => sameL_true (HR5.out.below hx) (show BoolsAt x (.slice (some ⟨rb, ro, none⟩) n rc) lx from by
      have := (HS5.out.below hx).take (k := n) (c' := rc) (by simp; omega)
      rw [← hlx, List.take_left] at this; rw [← hlx]; exact this)
    have hc2 := fun x (hx : Below W5.heap.size W5 x) => sameL_true (HS5.out.below hx) (HV5.out.below hx)
    have hc3 := fun x (hx : Below W5.heap.size W5 x) => sameL_true (show BoolsAt x (.slice (some ⟨rb, ro + n, none⟩) (n + (n - b) - n) (rc - n)) (lx.drop b) from by
      have := (HS5.out.below hx).drop (k := n) (n' := n + (n - b) - n) (c' := rc - n) (by simp; omega)
      rw [show (lx ++ lx.drop b).drop n = lx.drop b from by rw [← hlx, List.drop_left]] at this; exact this) ((HR5.out.below hx).drop (k := b) (n' := n - b) (c' := xc - b) (by omega))
    have hB0 : 0 < n - b := by omega
    have HC1 := Lib.hid hc1
    have HC2 := Lib.hid hc2
    have HC3 := Lib.hid hc3
    clear hc1 hc2 hc3 HR5 HS5 HV5 hlx HLX
    generalize hNd : n + (n - b) = N at hrc hsc HC1 HC2 HC3 ⊢
    have hN1 : (n : Int) < (N : Int) := by omega
    have hN2 : ¬ (N : Int) < (n : Int) := by omega
    have hN3 : ((N : Int) != (N : Int)) = false := by simp
    have hN4 : ((n : Int) > (N : Int)) = False := by simp; omega
    have i0 : (0 : Int) ≤ (b : Int) := by omega
    have i1 : (b : Int) ≤ (n : Int) := by omega
    have i2 : (0 : Int) ≤ (n : Int) := by omega
    have i3 : (n : Int) ≤ (N : Int) := by omega
    have i4 : (n : Int) ≤ (rc : Int) := by omega
    have i5 : ¬ rc = 0 := by omega
    have i6 : ¬ rc = n := by omega
    have i7 : ¬ xc = b := by omega
    clear hNd h8
    go_wp2_with fail
    have hx : ∀ a v, W5.cell? a = some v → W5.drew.cell? a = some v := fun _ _ h => h
    have hz0 : Below W5.heap.size W5 W5.drew := (Below.refl _ _).drew
    go_region_held3 (fun w' => w'.cell? ⟨T, 1, none⟩ = some (.int .i64 b)) (first | exact hx _ _ t1c | go_keep) (first | (go_at_call 16; refine (HC3.out y2 hz2).mono ?_; rintro e y3 ⟨rfl, hy3⟩; have hz3 : Below W5.heap.size W5 y3 := below_then hz2 hy3; have hx : ∀ a v, W5.cell? a = some v → y3.cell? a = some v := cells_kept hz3) | (go_at_call 16; refine (HC2.out y1 hz1).mono ?_; rintro e y2 ⟨rfl, hy2⟩; have hz2 : Below W5.heap.size W5 y2 := below_then hz1 hy2; have hx : ∀ a v, W5.cell? a = some v → y2.cell? a = some v := cells_kept hz2) | (go_at_call 16; refine (HC1.out _ hz0).mono ?_; rintro e y1 ⟨rfl, hy1⟩; have hz1 : Below W5.heap.size W5 y1 := below_then hz0 hy1; have hx : ∀ a v, W5.cell? a = some v → y1.cell? a = some v := cells_kept hz1))
    have HZ := Lib.hid (below_then HB2.out (below_then HB5.out hz3))
    clear hx hz0 hz1 hz2 hz3 hy1 hy2 hy3 HC1 HC2 HC3
    go_wp2_with fail
    go_ret
    exact ⟨rfl, HZ.out⟩
end Go.Proofs.Ytidnpdkibndpkaa
