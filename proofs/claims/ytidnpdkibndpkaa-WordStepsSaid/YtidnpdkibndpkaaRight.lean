/- May a formula be: package logic's way: the walk. -/
import Derived.Test.YtidnpdkibndpkaaProp2
namespace Go.Proofs.Ytidnpdkibndpkaa
open Go.RowKit

/-- How many parts a kind has, but atoms. -/
def kidsOf (k : Int) : Option Nat := if k = 1 ∨ k = 2 then some 0 else if k = 4 ∨ k = 8 ∨ k = 11 ∨ k = 12 then some 1 else if k = 5 ∨ k = 6 ∨ k = 7 ∨ k = 9 ∨ k = 10 then some 2 else none
mutual
/-- May a formula be, that may be so deep? -/
def Form.okD : Form → Nat → Bool
  | .mk k p kids, deep => decide (1 ≤ deep) && (if k = 3 then propOk p && decide (kids.length = 0) else match kidsOf k with
    | some n => decide (p = ⟨0, 0, 0, 0⟩) && decide (kids.length = n) && okL kids (deep - 1)
    | none => false)
def okL : List Form → Nat → Bool
  | [], _ => true
  | f :: l, deep => f.okD deep && okL l deep
end
theorem forms_some {k : Int} {n : Nat} (h : kidsOf k = some n) : ∃ s, mfind formsL k = some (fm s n) := by
  unfold kidsOf at h
  split at h
  · rename_i h1; cases h; rcases h1 with rfl | rfl <;> exact ⟨_, rfl⟩
  · split at h
    · rename_i h1; cases h; rcases h1 with rfl | rfl | rfl | rfl <;> exact ⟨_, rfl⟩
    · split at h
      · rename_i h1; cases h; rcases h1 with rfl | rfl | rfl | rfl | rfl <;> exact ⟨_, rfl⟩
      · cases h
theorem forms_none {k : Int} (h : kidsOf k = none) : mfind formsL k = none := by
  unfold kidsOf at h
  split at h
  · cases h
  · split at h
    · cases h
    · split at h
      · cases h
      · rename_i h1 h2 h3
        have e : ∀ j : Int, (j = 1 ∨ j = 2) ∨ (j = 4 ∨ j = 8 ∨ j = 11 ∨ j = 12) ∨ (j = 5 ∨ j = 6 ∨ j = 7 ∨ j = 9 ∨ j = 10) → ¬ j = k := by
          rintro j hj rfl; rcases hj with hj | hj | hj
          · exact h1 hj
          · exact h2 hj
          · exact h3 hj
        simp [formsL, mfind, e]

/-- A checker in memory. -/
structure CheckerAt (w : World) (cb : Nat) (many : Nat) (fb : Nat) : Prop where
  block : w.heap[cb]? = some (.cells #[.int .i64 many, .map (some fb)] 66 (0, 0))
  forms : MapInts w fb formsL
  ne : fb ≠ cb
/-- What right tells. -/
def TellsRight (cb fb many : Nat) (f : Form) (deep : Nat) (w : World) (e : Ending) (w' : World) : Prop :=
  ∃ (r : Bool) (many' : Nat), e = .returned (.bool r) ∧ CheckerAt w' cb many' fb ∧ Since (fun k => k = cb) w w' ∧ (r = true ↔ f.okD deep = true ∧ many + f.size ≤ 200) ∧ (r = true → many' = many + f.size)

theorem zero_form (w : World) : (zeroValue 78).run Try.prog w = .ok (.agg #[.string ByteArray.empty, .int .i64 0]) w := by kernel_rfl

theorem okL_take (l : List Form) (deep i : Nat) (h : i < l.length) : okL (l.take (i + 1)) deep = (okL (l.take i) deep && (l.getD i default).okD deep) := by
  induction l generalizing i with
  | nil => simp at h
  | cons f l ih => cases i with
    | zero => simp [okL]
    | succ i => simp only [List.take_succ_cons, okL]; rw [ih i (by simpa using h), Bool.and_assoc]; simp
theorem okL_kid (l : List Form) (deep i : Nat) (h : i < l.length) (ho : okL l deep = true) : (l.getD i default).okD deep = true := by
  induction l generalizing i with
  | nil => simp at h
  | cons f l ih => cases i with
    | zero => simp [okL] at ho; simpa using ho.1
    | succ i => simp [okL] at ho; simpa using ih i (by simpa using h) ho.2
/-- The statement of right's contract, so deep. -/
def RightAt (d : Nat) : Prop := ∀ (w : World) (f : Form) (kv : Value) (deep many cb fb B : Nat), FormAtB B w d f kv → B ≤ cb → CheckerAt w cb many fb → many ≤ 200 → deep ≤ 20 →
    Calls Try.prog 33 #[.pointer (some ⟨cb, 0, none⟩), formV f kv, .int .i64 deep] w (TellsRight cb fb many f deep w)
set_option maxHeartbeats 1000000 in
theorem odd_any (d : Nat) (hr : RightAt d) (w : World) (f : Form) (kv : Value) (deep many cb fb B s s2 : Nat) (h : FormAtB B w d f kv) (hBc : B ≤ cb) (hc : CheckerAt w cb many fb) (hm : many ≤ 200) (hd1 : 1 ≤ deep) (hd : deep ≤ 20)
    (h0 : w.cell? ⟨s, 0, none⟩ = some (.pointer (some ⟨cb, 0, none⟩))) (h2 : w.cell? ⟨s2, 0, none⟩ = some (.int .i64 deep)) :
    Calls Try.prog 46 #[formV f kv, .pointer (some ⟨s, 0, none⟩), .pointer (some ⟨s2, 0, none⟩)] w fun e w' =>
      ∃ (r : Bool) (many' : Nat), e = .returned (.bool (!r)) ∧ CheckerAt w' cb many' fb ∧ Since (fun k => k = cb) w w' ∧ (r = true ↔ f.okD (deep - 1) = true ∧ many + f.size ≤ 200) ∧ (r = true → many' = many + f.size) := by
  obtain ⟨ka, kc, rfl, hkl⟩ := h.slice
  obtain ⟨k, ⟨p1, p2, p3, p4⟩, kids⟩ := f
  simp only [Form.kids] at hkl ⊢
  have hB1 : Below w.heap.size w (w.alloc (.cells #[.int .i64 k, .int .i64 p1, .int .i64 p2, .int .i64 p3, .int .i64 p4, .slice ka kids.length kc] 26)) := (Below.refl _ _).alloc (Nat.le_refl _) _
  have hBl : B ≤ w.heap.size := Nat.le_trans hBc (Nat.le_of_lt (lt_of_block hc.block))
  have hcall := hr (w.alloc (.cells #[.int .i64 k, .int .i64 p1, .int .i64 p2, .int .i64 p3, .int .i64 p4, .slice ka kids.length kc] 26)) _ _ (deep - 1) many cb fb B (h.below (hB1.mono hBl)) hBc
    ⟨(hB1.block _ (lt_of_block hc.block)).trans hc.block, hc.forms.below hB1, hc.ne⟩ hm (by omega)
  have h0' := (hB1.cell (p := ⟨s, 0, none⟩) (World.block_lt_of_cell? _ _ h0)).trans h0
  have h2' := (hB1.cell (p := ⟨s2, 0, none⟩) (World.block_lt_of_cell? _ _ h2)).trans h2
  unfold formV at hcall ⊢
  simp only [Form.kind, Form.prop, Form.kids] at hcall ⊢
  rw [show ((deep - 1 : Nat) : Int) = (deep : Int) - 1 from by omega] at hcall
  have HC := Lib.hid hcall
  have HS := Lib.hid (since_of (fun k => k = cb) hB1)
  clear hcall hr hc hB1 h
  go_enter Try.func46, Try.ntmps46
  go_wp2_with fail
  refine HC.out.mono ?_
  rintro e w2 ⟨r, many', rfl, h5, h6, h7, h8⟩
  have HP : Hid (CheckerAt w2 cb many' fb ∧ Since (fun k => k = cb) w w2 ∧ (r = true ↔ (Form.mk k ⟨p1, p2, p3, p4⟩ kids).okD (deep - 1) = true ∧ many + (Form.mk k ⟨p1, p2, p3, p4⟩ kids).size ≤ 200) ∧ (r = true → many' = many + (Form.mk k ⟨p1, p2, p3, p4⟩ kids).size)) :=
    ⟨h5, HS.out.trans h6 (fun _ h => .inl h), h7, h8⟩
  clear h5 h6 h7 h8 HC h0 h2 h0' h2'
  go_wp2
  go_ret
  exact ⟨r, many', rfl, HP.out⟩

set_option maxRecDepth 100000 in
set_option maxHeartbeats 4000000 in
theorem right_any (d : Nat) : RightAt d := by
  induction d with
  | zero => exact fun w f kv deep many cb fb B h => h.elim
  | succ d ih =>
    intro w f kv deep many cb fb B h hBc hc hm hdp
    obtain ⟨ka, kc, rfl, hkl⟩ := h.slice
    obtain ⟨k, ⟨p1, p2, p3, p4⟩, kids⟩ := f
    simp only [Form.kids] at hkl ⊢
    unfold formV
    simp only [Form.kind, Form.prop]
    have hcb := lt_of_block hc.block
    have hB3 : Below w.heap.size w (((w.alloc (.cells #[.pointer (some ⟨cb, 0, none⟩)] 62)).alloc (.cells #[.int .i64 k, .int .i64 p1, .int .i64 p2, .int .i64 p3, .int .i64 p4, .slice ka kids.length kc] 26)).alloc (.cells #[.int .i64 deep] 3)) :=
      (((Below.refl _ _).alloc (Nat.le_refl _) _).alloc (by simp) _).alloc (by simp; omega) _
    have hb0 := heap_alloc_new w (.cells #[.pointer (some ⟨cb, 0, none⟩)] 62)
    have hb1 := heap_alloc_new (w.alloc (.cells #[.pointer (some ⟨cb, 0, none⟩)] 62)) (.cells #[.int .i64 k, .int .i64 p1, .int .i64 p2, .int .i64 p3, .int .i64 p4, .slice ka kids.length kc] 26)
    have hb2 := heap_alloc_new ((w.alloc (.cells #[.pointer (some ⟨cb, 0, none⟩)] 62)).alloc (.cells #[.int .i64 k, .int .i64 p1, .int .i64 p2, .int .i64 p3, .int .i64 p4, .slice ka kids.length kc] 26)) (.cells #[.int .i64 deep] 3)
    replace hb0 := ((Below.heap_alloc _ (.cells #[.int .i64 deep] 3) _ (by simp; omega)).trans (Below.heap_alloc _ (.cells #[.int .i64 k, .int .i64 p1, .int .i64 p2, .int .i64 p3, .int .i64 p4, .slice ka kids.length kc] 26) _ (by simp))).trans hb0
    replace hb1 := (Below.heap_alloc _ (.cells #[.int .i64 deep] 3) _ (by simp)).trans hb1
    simp only [World.size_alloc] at hb1 hb2
    have hsz : (((w.alloc (.cells #[.pointer (some ⟨cb, 0, none⟩)] 62)).alloc (.cells #[.int .i64 k, .int .i64 p1, .int .i64 p2, .int .i64 p3, .int .i64 p4, .slice ka kids.length kc] 26)).alloc (.cells #[.int .i64 deep] 3)).heap.size = w.heap.size + 3 := by simp
    have HB0 := Lib.hid hb0
    have HB1 := Lib.hid hb1
    have HB2 := Lib.hid hb2
    have HB3 := Lib.hid hB3
    have HSZ := Lib.hid hsz
    clear hb0 hb1 hb2 hB3 hsz
    go_enter Try.func33, Try.ntmps33
    go_upto_region 1 with fail
    generalize hW : World.alloc _ _ = W at HB0 HB1 HB2 HB3 HSZ ⊢
    clear hW
    have hs0 : W.cell? ⟨w.heap.size, 0, none⟩ = some (.pointer (some ⟨cb, 0, none⟩)) := cell_of_block HB0.out 0
    have hcW := (HB3.out.block cb hcb).trans hc.block
    have hm0 : W.cell? ⟨cb, 0, none⟩ = some (.int .i64 many) := cell_of_block hcW 0
    have hmf : W.frozen? ⟨cb, 0, none⟩ = false := free_of_block hcW 0
    have HCW := Lib.hid hcW
    clear hcW
    go_upto_region 2 with fail
    have hset := set_of_block HCW.out 0 (.int .i64 ((many : Int) + 1))
    have hkeep : ∀ x, x ≠ cb → (W.setCell ⟨cb, 0, none⟩ (.int .i64 ((many : Int) + 1))).heap[x]? = W.heap[x]? := fun x hx => Below.heap_setCell _ _ _ _ hx
    have hsz1 : (W.setCell ⟨cb, 0, none⟩ (.int .i64 ((many : Int) + 1))).heap.size = W.heap.size := by simp [World.setCell]
    have hSi : Since (fun k => k = cb) w (W.setCell ⟨cb, 0, none⟩ (.int .i64 ((many : Int) + 1))) := Since.setCell (F := fun k => k = cb) (p := ⟨cb, 0, none⟩) (since_of _ HB3.out) (.inl rfl) _
    generalize hW : World.setCell W _ _ = V at hset hkeep hsz1 hSi ⊢
    clear hW
    have hne0 : w.heap.size ≠ cb := by omega
    have hck : CheckerAt V cb (many + 1) fb := ⟨by simpa using hset, hc.forms.since hSi hc.ne, hc.ne⟩
    have HK := Lib.hid hck
    have HSI := Lib.hid hSi
    have HV0 : Hid (V.heap[w.heap.size]? = _) := (hkeep _ hne0).trans HB0.out
    have HV1 : Hid (V.heap[w.heap.size + 1]? = _) := (hkeep _ (by omega)).trans HB1.out
    have HV2 : Hid (V.heap[w.heap.size + 1 + 1]? = _) := (hkeep _ (by omega)).trans HB2.out
    have hsv : w.heap.size + 3 = V.heap.size := by rw [hsz1, HSZ.out]
    have HSV := Lib.hid hsv
    clear hset hkeep hsz1 hSi hck hs0 hm0 hmf hsv HB0 HB1 HB2 HB3 HCW HSZ
    have hv0 : V.cell? ⟨w.heap.size, 0, none⟩ = some (.pointer (some ⟨cb, 0, none⟩)) := cell_of_block HV0.out 0
    have hm1 : V.cell? ⟨cb, 0, none⟩ = some (.int .i64 ((many : Int) + 1)) := by simpa using cell_of_block HK.out.block 0
    have hv2 : V.cell? ⟨w.heap.size + 1 + 1, 0, none⟩ = some (.int .i64 deep) := cell_of_block HV2.out 0
    by_cases h200 : 200 < many + 1
    · have h200' : (200 : Int) < (many : Int) + 1 := by omega
      go_wp2
      go_ret
      refine ⟨false, many + 1, rfl, HK.out, HSI.out, ?_, by simp⟩
      have : 1 ≤ (Form.mk k ⟨p1, p2, p3, p4⟩ kids).size := by simp [Form.size]
      simp; intro _; omega
    by_cases hd1 : deep < 1
    · have hd1' : (deep : Int) < 1 := by omega
      go_wp2
      go_ret
      refine ⟨false, many + 1, rfl, HK.out, HSI.out, ?_, by simp⟩
      have : ¬ 1 ≤ deep := by omega
      simp [Form.okD, this]
    have hv10 : V.cell? ⟨w.heap.size + 1, 0, none⟩ = some (.int .i64 k) := cell_of_block HV1.out 0
    have hv11 : V.cell? ⟨w.heap.size + 1, 1, none⟩ = some (.int .i64 p1) := cell_of_block HV1.out 1
    have hv12 : V.cell? ⟨w.heap.size + 1, 2, none⟩ = some (.int .i64 p2) := cell_of_block HV1.out 2
    have hv13 : V.cell? ⟨w.heap.size + 1, 3, none⟩ = some (.int .i64 p3) := cell_of_block HV1.out 3
    have hv14 : V.cell? ⟨w.heap.size + 1, 4, none⟩ = some (.int .i64 p4) := cell_of_block HV1.out 4
    have hv15 : V.cell? ⟨w.heap.size + 1, 5, none⟩ = some (.slice ka kids.length kc) := cell_of_block HV1.out 5
    by_cases h3 : k = 3
    · subst h3
      have hpr := prop_any V ⟨p1, p2, p3, p4⟩
      obtain ⟨pr, hprd⟩ : ∃ pr, pr = propOk ⟨p1, p2, p3, p4⟩ := ⟨_, rfl⟩
      rw [← hprd] at hpr
      have HPR := Lib.hid hpr
      have HPD := Lib.hid hprd
      clear hpr hprd
      go_wp2_with fail
      refine HPR.out.mono ?_
      rintro e V2 ⟨rfl, hb2⟩
      have hw15 : V2.cell? ⟨w.heap.size + 1, 5, none⟩ = some (.slice ka kids.length kc) := (hb2.cell (p := ⟨w.heap.size + 1, 5, none⟩) (lt_of_block HV1.out)).trans hv15
      have HC2 : Hid (CheckerAt V2 cb (many + 1) fb) := ⟨(hb2.block _ (lt_of_block HK.out.block)).trans HK.out.block, HK.out.forms.below hb2, HK.out.ne⟩
      have HS2 : Hid (Since (fun k => k = cb) w V2) := HSI.out.trans (since_of (fun _ => False) hb2) (fun _ h => h.elim)
      clear hb2 hv0 hm1 hv2 hv10 hv11 hv12 hv13 hv14 hv15
      have hend : ∀ r : Bool, r = (pr && decide (kids.length = 0)) → TellsRight cb fb many (.mk 3 ⟨p1, p2, p3, p4⟩ kids) deep w (.returned (.bool r)) V2 := by
        intro r hr
        have hokd : (Form.mk 3 ⟨p1, p2, p3, p4⟩ kids).okD deep = r := by
          simp only [Form.okD, if_true]; rw [hr, HPD.out]; have : 1 ≤ deep := by omega
          simp [this]
        have hsize : r = true → (Form.mk 3 ⟨p1, p2, p3, p4⟩ kids).size = 1 := by
          intro h; rw [hr, Bool.and_eq_true] at h
          have := of_decide_eq_true h.2
          have : kids = [] := List.eq_nil_of_length_eq_zero this
          subst this; simp [Form.size, sizeL]
        refine ⟨r, many + 1, rfl, HC2.out, HS2.out, ?_, fun h => by rw [hsize h]⟩
        rw [hokd]
        exact ⟨fun h => ⟨h, by rw [hsize h]; omega⟩, fun h => h.1⟩
      have HE := Lib.hid hend
      clear hend
      cases pr
      · go_wp2
        go_ret
        exact HE.out false rfl
      · by_cases hk0 : kids.length = 0
        · go_wp2
          go_ret
          exact HE.out true (by simp [hk0])
        · have hk0' : ((kids.length : Int) == 0) = false := by rw [beq_eq_false_iff_ne]; omega
          go_wp2
          go_ret
          exact HE.out false (by simp [hk0])
    · have hk3 : (k == 3) = false := by simpa using h3
      have hm2 : V.cell? ⟨cb, 1, none⟩ = some (.map (some fb)) := cell_of_block HK.out.block 1
      obtain ⟨found, n, s, hkn, hfd⟩ : ∃ (found : Bool) (n : Nat) (s : List UInt8), mfind formsL k = (if found then some (fm s n) else none) ∧ (if found then kidsOf k = some n else kidsOf k = none ∧ n = 0 ∧ s = []) := by
        cases hkk : kidsOf k with
        | none => exact ⟨false, 0, [], by simpa using forms_none hkk, by simp⟩
        | some n => obtain ⟨s, hs⟩ := forms_some hkk; exact ⟨true, n, s, by simpa using hs, by simp⟩
      have hlk : ∀ W, MapInts W fb formsL → (Instr.lookup 63 (.map (some fb)) (.int .i64 k) true).run Try.prog W = .ok (.tuple #[.agg #[.string ⟨s.toArray⟩, .int .i64 n], .bool found]) W := by
        intro W hW
        rw [run_lookup_ints hW Try.underlying63 Try.underlying3 (zero_form W) k true, hkn]
        cases found
        · obtain ⟨-, rfl, rfl⟩ := hfd; rfl
        · rfl
      have hl1 := hlk V HK.out.forms
      have hl2 := fun o => hlk (V.alloc o) (HK.out.forms.below ((Below.refl _ _).alloc (Nat.le_refl _) o))
      have hl3 := hlk V.drew HK.out.forms
      have hl4 := fun o => hlk (V.alloc o).drew (HK.out.forms.below ((Below.refl _ _).alloc (Nat.le_refl _) o).drew)
      have hal : ∀ o a v, V.cell? a = some v → (V.alloc o).cell? a = some v := fun o a v h => (Below.cell ((Below.refl _ _).alloc (Nat.le_refl _) o) (World.block_lt_of_cell? _ _ h)).trans h
      have ha0 := fun o => hal o _ _ hv0
      have ha2 := fun o => hal o _ _ hm2
      have ha10 := fun o => hal o _ _ hv10
      clear hal
      have HFD := Lib.hid hfd
      clear hlk hkn hfd
      go_wp2_with fail
      go_cut [7, 8] (fun s7 s8 wx => ∃ g : Nat, s7 = .pointer (some ⟨g, 0, none⟩) ∧ s8 = .bool found ∧ wx.cell? ⟨g, 1, none⟩ = some (.int .i64 n) ∧ Below V.heap.size V wx)
      case first =>
        go_region
        all_goals
          go_wp2_with fail
          go_meet
          case rel => exact ⟨V.heap.size, rfl, rfl, cell_of_block (heap_alloc_new V _) 1, ((Below.refl _ _).alloc (Nat.le_refl _) _).drew⟩
      case rest =>
        obtain ⟨g, rfl, rfl, hg, hB⟩ := hcut
        have hx : ∀ a v, V.cell? a = some v → wc.cell? a = some v := fun a v h => (hB.cell (World.block_lt_of_cell? _ _ h)).trans h
        replace hv10 := hx _ _ hv10
        replace hv11 := hx _ _ hv11
        replace hv12 := hx _ _ hv12
        replace hv13 := hx _ _ hv13
        replace hv14 := hx _ _ hv14
        replace hv15 := hx _ _ hv15
        have HW0 := Lib.hid (hx _ _ hv0)
        have HW2 := Lib.hid (hx _ _ hv2)
        have HCK : Hid (CheckerAt wc cb (many + 1) fb) := ⟨(hB.block _ (lt_of_block HK.out.block)).trans HK.out.block, HK.out.forms.below hB, HK.out.ne⟩
        have HSW : Hid (Since (fun k => k = cb) w wc) := HSI.out.trans (since_of (fun _ => False) hB) (fun _ h => h.elim)
        have HIH := Lib.hid ih
        have HFM := Lib.hid h
        have hdp1 : 1 ≤ deep := by omega
        have hend0 : ∀ W, CheckerAt W cb (many + 1) fb → Since (fun k => k = cb) w W → (Form.mk k ⟨p1, p2, p3, p4⟩ kids).okD deep = false → TellsRight cb fb many (.mk k ⟨p1, p2, p3, p4⟩ kids) deep w (.returned (.bool false)) W := by
          intro W h1 h2 h3
          exact ⟨false, many + 1, rfl, h1, h2, by rw [h3]; simp, by simp⟩
        have HE0 := Lib.hid hend0
        clear hx hv0 hv2 hm1 hm2 hl1 hl2 hl3 hl4 ha0 ha2 ha10 hB hc hend0 ih h
        cases found
        · have hok : Hid ((Form.mk k ⟨p1, p2, p3, p4⟩ kids).okD deep = false) := by
            obtain ⟨h1, -, -⟩ := HFD.out
            simp [Hid, Form.okD, h3, h1]
          go_wp2
          go_ret
          exact HE0.out _ HCK.out HSW.out hok.out
        · have hkk : Hid (kidsOf k = some n) := HFD.out
          have hokd : (Form.mk k ⟨p1, p2, p3, p4⟩ kids).okD deep = (decide ((⟨p1, p2, p3, p4⟩ : PropD) = ⟨0, 0, 0, 0⟩) && decide (kids.length = n) && okL kids (deep - 1)) := by
            simp only [Form.okD, if_neg h3, hkk.out, decide_eq_true hdp1, Bool.true_and]
          have HOK := Lib.hid hokd
          clear hokd hkk HFD
          have hgd := prop_guard
          by_cases hpz : (⟨p1, p2, p3, p4⟩ : PropD) = ⟨0, 0, 0, 0⟩
          · have heq := prop_eq true (decide_eq_true hpz)
            have HPZ := Lib.hid hpz
            clear hpz
            by_cases hln : kids.length = n
            · have hln' : ((kids.length : Int) == (n : Int)) = true := by simp [hln]
              have HLN := Lib.hid hln
              clear hln
              go_wp2_with fail
              have hfn : ∀ args W, (callFunc 46 args).run Try.prog W = .ok (.enter 46 args) W := fun args W => by go_simp
              obtain ⟨a', cap', hae, hkn, hkc⟩ := HFM.out
              have hwB : Below B w wc := HSW.out.below (by have := lt_of_block HCK.out.block; omega) (fun k hk => by omega)
              have hs3 : w.heap.size + 1 + 1 < wc.heap.size := World.block_lt_of_cell? _ _ HW2.out
              have hread : ∀ i W, (CheckerAt W cb (many + 1 + sizeL (kids.take i)) fb ∧ many + 1 + sizeL (kids.take i) ≤ 200 ∧ okL (kids.take i) (deep - 1) = true ∧ Since (fun k => k = cb) wc W) →
                  FormsIn (fun f kv => FormAtB B w d f kv) W (.slice ka kids.length kc) kids := by
                intro i W hI
                refine ⟨a', cap', hae, hkn, fun j hj => ?_⟩
                obtain ⟨b, off, kv, e1, e2, e3, e4⟩ := hkc j hj
                have hbw : Below B w W := hwB.trans (hI.2.2.2.below (by have := hwB.size; have := lt_of_block HCK.out.block; omega) (fun k hk => by omega))
                refine ⟨b, off, kv, e1, by have := hbw.size; omega, fun i hi => (hbw.cell (p := ⟨b, off + j * 6 + i, none⟩) e2).trans (e3 i hi), e4⟩
              refine (containsFuncF_any (fun f kv => FormAtB B w d f kv) _ kids 46 #[] #[.pointer (some ⟨w.heap.size, 0, none⟩), .pointer (some ⟨w.heap.size + 1 + 1, 0, none⟩)]
                (fun i W => CheckerAt W cb (many + 1 + sizeL (kids.take i)) fb ∧ many + 1 + sizeL (kids.take i) ≤ 200 ∧ okL (kids.take i) (deep - 1) = true ∧ Since (fun k => k = cb) wc W)
                (fun _ W => ∃ many', CheckerAt W cb many' fb ∧ Since (fun k => k = cb) wc W ∧ ¬ (okL kids (deep - 1) = true ∧ many + 1 + sizeL kids ≤ 200)) hfn hread ?_ wc ⟨by simpa [sizeL] using HCK.out, by simp [sizeL]; omega, by simp [okL], Since.refl _ _⟩).mono ?_
              · intro i W kv hi hI hR
                obtain ⟨h1, h2, h3', h4⟩ := hI
                have hbw : Below B w W := hwB.trans (h4.below (by have := hwB.size; have := lt_of_block HCK.out.block; omega) (fun k hk => by omega))
                have hcbw := lt_of_block HCK.out.block
                have hW0 : W.cell? ⟨w.heap.size, 0, none⟩ = some (.pointer (some ⟨cb, 0, none⟩)) := (h4.cell (p := ⟨w.heap.size, 0, none⟩) (by simp; omega) (by simp; omega)).trans HW0.out
                have hW2 : W.cell? ⟨w.heap.size + 1 + 1, 0, none⟩ = some (.int .i64 deep) := (h4.cell (p := ⟨w.heap.size + 1 + 1, 0, none⟩) hs3 (by simp; omega)).trans HW2.out
                refine (odd_any d HIH.out W _ kv deep _ cb fb B w.heap.size (w.heap.size + 1 + 1) (hR.below hbw) hBc h1 h2 hdp1 hdp hW0 hW2).mono ?_
                rintro e W' ⟨r, many', rfl, g1, g2, g3, g4⟩
                refine ⟨!r, rfl, fun hr => ?_, fun hr => ?_⟩
                · have hrf : r = false := by simpa using hr
                  refine ⟨many', g1, h4.trans g2 (fun _ h => .inl h), ?_⟩
                  rintro ⟨o1, o2⟩
                  have := g3.2 ⟨okL_kid kids _ i hi o1, by have := sizeL_take_succ kids i hi; have := sizeL_take kids (i + 1); omega⟩
                  rw [hrf] at this; cases this
                · have hrt : r = true := by simpa using hr
                  have hs := sizeL_take_succ kids i hi
                  have hg := g3.1 hrt
                  refine ⟨?_, by omega, by rw [okL_take kids _ i hi, h3', hg.1]; rfl, h4.trans g2 (fun _ h => .inl h)⟩
                  have := g4 hrt
                  rw [hs, ← Nat.add_assoc, ← this]; exact g1
              · rintro e W (⟨i, hi, rfl, many', g1, g2, g3⟩ | ⟨rfl, g1, g2, g3, g4⟩)
                · have HG1 := Lib.hid g1
                  have HG2 : Hid (Since (fun k => k = cb) w W) := HSW.out.trans g2 (fun _ h => .inl h)
                  have HG3 := Lib.hid g3
                  clear g1 g2 g3 hread hfn hkc hwB
                  go_wp2
                  go_ret
                  refine ⟨false, many', rfl, HG1.out, HG2.out, ?_, by simp⟩
                  rw [HOK.out]
                  simp only [Bool.false_eq_true, false_iff]
                  rintro ⟨o1, o2⟩
                  rw [Bool.and_eq_true] at o1
                  exact HG3.out ⟨o1.2, by simp only [Form.size] at o2; omega⟩
                · rw [List.take_length] at g1 g2 g3
                  have HG1 := Lib.hid g1
                  have HG2 : Hid (Since (fun k => k = cb) w W) := HSW.out.trans g4 (fun _ h => .inl h)
                  have HG3 := Lib.hid g2
                  have HG4 := Lib.hid g3
                  clear g1 g2 g3 g4 hread hfn hkc hwB
                  go_wp2
                  go_ret
                  have hsz : (Form.mk k ⟨p1, p2, p3, p4⟩ kids).size = 1 + sizeL kids := by simp [Form.size]
                  refine ⟨true, many + 1 + sizeL kids, rfl, HG1.out, HG2.out, ?_, fun _ => by rw [hsz]; omega⟩
                  rw [HOK.out, HG4.out, decide_eq_true HPZ.out, decide_eq_true HLN.out, hsz]
                  have := HG3.out
                  simp; omega
            · have hln' : ((kids.length : Int) == (n : Int)) = false := by rw [beq_eq_false_iff_ne]; omega
              have HLN := Lib.hid hln
              clear hln
              go_wp2
              go_ret
              exact HE0.out _ HCK.out HSW.out (by rw [HOK.out]; simp [HLN.out])
          · have heq := prop_eq false (decide_eq_false hpz)
            have HPZ := Lib.hid hpz
            clear hpz
            go_wp2
            go_ret
            exact HE0.out _ HCK.out HSW.out (by rw [HOK.out, decide_eq_false HPZ.out]; simp)
end Go.Proofs.Ytidnpdkibndpkaa
