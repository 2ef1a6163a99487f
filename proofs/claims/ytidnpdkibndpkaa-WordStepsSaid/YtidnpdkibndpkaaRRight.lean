/- May a formula be: the document's way: the walk. -/
import Derived.Test.YtidnpdkibndpkaaRProp4
import Derived.Test.YtidnpdkibndpkaaRightAll
namespace Go.Proofs.Ytidnpdkibndpkaa
open Go.RowKit

/-- What stands ahead of the parts. -/
def headOk (k : Int) (p : PropD) (n deep : Nat) : Bool := decide (1 ≤ deep) && decide (kidsR k = (n : Int)) && (if k = 3 then propOk p else decide (p = ⟨0, 0, 0, 0⟩))
theorem kids_cases (k : Int) : (k = 1 ∨ k = 2) ∧ kidsOf k = some 0 ∧ kidsR k = 0 ∨ (k = 4 ∨ k = 8 ∨ k = 11 ∨ k = 12) ∧ kidsOf k = some 1 ∧ kidsR k = 1 ∨ (k = 5 ∨ k = 6 ∨ k = 7 ∨ k = 9 ∨ k = 10) ∧ kidsOf k = some 2 ∧ kidsR k = 2 ∨ k = 3 ∧ kidsR k = 0 ∨ (k < 1 ∨ 12 < k) ∧ kidsOf k = none ∧ kidsR k = -1 := by
  by_cases h : 1 ≤ k ∧ k ≤ 12
  · have : k = 1 ∨ k = 2 ∨ k = 3 ∨ k = 4 ∨ k = 5 ∨ k = 6 ∨ k = 7 ∨ k = 8 ∨ k = 9 ∨ k = 10 ∨ k = 11 ∨ k = 12 := by omega
    rcases this with rfl | rfl | rfl | rfl | rfl | rfl | rfl | rfl | rfl | rfl | rfl | rfl <;> simp [kidsOf, kidsR]
  · refine .inr (.inr (.inr (.inr ⟨by omega, ?_, ?_⟩)))
    · unfold kidsOf
      rw [if_neg (show ¬ (k = 1 ∨ k = 2) by omega), if_neg (show ¬ (k = 4 ∨ k = 8 ∨ k = 11 ∨ k = 12) by omega), if_neg (show ¬ (k = 5 ∨ k = 6 ∨ k = 7 ∨ k = 9 ∨ k = 10) by omega)]
    · unfold kidsR
      rw [if_neg (show ¬ (k = 1 ∨ k = 2 ∨ k = 3) by omega), if_neg (show ¬ (k = 4 ∨ k = 8 ∨ k = 11 ∨ k = 12) by omega), if_neg (show ¬ (k = 5 ∨ k = 6 ∨ k = 7 ∨ k = 9 ∨ k = 10) by omega)]
theorem dec_cast (a b : Nat) : decide ((a : Int) = (b : Int)) = decide (b = a) := by rw [decide_eq_decide]; omega
theorem okD_head (k : Int) (p : PropD) (kids : List Form) (deep : Nat) : (Form.mk k p kids).okD deep = (headOk k p kids.length deep && okL kids (deep - 1)) := by
  by_cases h1 : 1 ≤ deep
  · simp only [Form.okD, headOk, decide_eq_true h1, Bool.true_and]
    have hb : ∀ a b c : Bool, (a && b && c) = (b && a && c) := by decide
    rcases kids_cases k with ⟨hk, h2, h3⟩ | ⟨hk, h2, h3⟩ | ⟨hk, h2, h3⟩ | ⟨hk, h3⟩ | ⟨hk, h2, h3⟩
    · rw [if_neg (show ¬ k = 3 by omega), if_neg (show ¬ k = 3 by omega), h2, h3]
      rw [show decide ((0 : Int) = (kids.length : Int)) = decide (kids.length = 0) from dec_cast 0 kids.length]; exact hb ..
    · rw [if_neg (show ¬ k = 3 by omega), if_neg (show ¬ k = 3 by omega), h2, h3]
      rw [show decide ((1 : Int) = (kids.length : Int)) = decide (kids.length = 1) from dec_cast 1 kids.length]; exact hb ..
    · rw [if_neg (show ¬ k = 3 by omega), if_neg (show ¬ k = 3 by omega), h2, h3]
      rw [show decide ((2 : Int) = (kids.length : Int)) = decide (kids.length = 2) from dec_cast 2 kids.length]; exact hb ..
    · rw [if_pos hk, if_pos hk, h3]
      rw [show decide ((0 : Int) = (kids.length : Int)) = decide (kids.length = 0) from dec_cast 0 kids.length]
      by_cases hk : kids.length = 0
      · have : kids = [] := List.eq_nil_of_length_eq_zero hk
        subst this
        simp [okL]
      · rw [decide_eq_false hk]; simp
    · rw [if_neg (show ¬ k = 3 by omega), if_neg (show ¬ k = 3 by omega), h2, h3]
      have e : decide ((-1 : Int) = (kids.length : Int)) = false := by rw [decide_eq_false_iff_not]; omega
      rw [e]; simp
  · simp only [Form.okD, headOk, decide_eq_false h1, Bool.false_and]

/-- May it be: so deep, and not too great. -/
def Form.okR (f : Form) (deep : Nat) : Bool := f.okD deep && decide (f.size ≤ 200)
def TellsRR (f : Form) (deep : Nat) (w : World) (e : Ending) (w' : World) : Prop :=
  e = .returned (.tuple #[.int .i64 (if f.okR deep then f.size else 0), .bool (f.okR deep)]) ∧ Below w.heap.size w w'

set_option maxRecDepth 100000 in
set_option maxHeartbeats 4000000 in
theorem rright_any (d : Nat) : ∀ (w : World) (f : Form) (kv : Value) (deep : Nat), FormAt w d f kv → deep ≤ 20 → Calls Try.prog 29 #[formV f kv, .int .i64 deep] w (TellsRR f deep w) := by
  induction d with
  | zero => exact fun w f kv deep h => h.elim
  | succ d ih =>
    intro w f kv deep h hdp
    obtain ⟨ka, kc, rfl, hkl, hk⟩ := h
    obtain ⟨k, ⟨p1, p2, p3, p4⟩, kids⟩ := f
    simp only [Form.kids] at hkl hk ⊢
    unfold formV
    simp only [Form.kind, Form.prop]
    have HK := Lib.hid hk
    have HIH := Lib.hid ih
    clear hk ih
    have hbx := heap_alloc_new w (.cells #[.int .i64 k, .int .i64 p1, .int .i64 p2, .int .i64 p3, .int .i64 p4, .slice ka kids.length kc] 26)
    have c0 := cell_of_block hbx 0
    have c1 := cell_of_block hbx 1
    have c2 := cell_of_block hbx 2
    have c3 := cell_of_block hbx 3
    have c4 := cell_of_block hbx 4
    have c5 := cell_of_block hbx 5
    simp only [List.getElem?_toArray, List.getElem?_cons_zero, List.getElem?_cons_succ] at c0 c1 c2 c3 c4 c5
    obtain ⟨kr, hkr⟩ : ∃ kr, kr = kidsR k := ⟨_, rfl⟩
    have hkb : -1 ≤ kr ∧ kr ≤ 2 := by rw [hkr]; unfold kidsR; split <;> (try split) <;> (try split) <;> omega
    obtain ⟨hk1, hk2⟩ := hkb
    have hkids := kids_any k
    rw [← hkr] at hkids
    have HKD := Lib.hid hkids
    have HKR := Lib.hid hkr
    have HBX := Lib.hid hbx
    obtain ⟨hd, hhd⟩ : ∃ hd, hd = headOk k ⟨p1, p2, p3, p4⟩ kids.length deep := ⟨_, rfl⟩
    have HHD := Lib.hid hhd
    clear hkids hkr hbx hhd
    go_enter Try.func29, Try.ntmps29
    go_upto_region 2 with (go_at_call 23; refine (HKD.out _).mono ?_; rintro e w' ⟨rfl, rfl⟩)
    go_cut [44] (fun s44 w' => s44 = .bool (!hd) ∧ Below w.heap.size w w' ∧ w'.heap[w.heap.size]? = some (.cells #[.int .i64 k, .int .i64 p1, .int .i64 p2, .int .i64 p3, .int .i64 p4, .slice ka kids.length kc] 26 (0, 0)))
    case first =>
      have hB0 : Hid (Below w.heap.size w (w.alloc (.cells #[.int .i64 k, .int .i64 p1, .int .i64 p2, .int .i64 p3, .int .i64 p4, .slice ka kids.length kc] 26))) := (Below.refl _ _).alloc (Nat.le_refl _) _
      by_cases h1 : (deep : Int) < 1
      · have : Hid (hd = false) := by rw [Hid, HHD.out, headOk, decide_eq_false (show ¬ 1 ≤ deep by omega)]; rfl
        go_wp2_with fail
        go_meet
        case rel => exact ⟨by rw [this.out]; rfl, hB0.out, HBX.out⟩
      · by_cases h2 : kr = (kids.length : Int)
        · subst h2
          have HH1 : Hid (1 ≤ deep) := by rw [Hid]; omega
          by_cases h3 : k = 3
          · subst h3
            have hpr := rprop_any (w.alloc (.cells #[.int .i64 3, .int .i64 p1, .int .i64 p2, .int .i64 p3, .int .i64 p4, .slice ka kids.length kc] 26)) ⟨p1, p2, p3, p4⟩
            obtain ⟨pr, hprd⟩ : ∃ pr, pr = propOk ⟨p1, p2, p3, p4⟩ := ⟨_, rfl⟩
            rw [← hprd] at hpr
            have HPR := Lib.hid hpr
            have HPD := Lib.hid hprd
            clear hpr hprd
            have : Hid (hd = pr) := by rw [Hid, HHD.out, headOk, ← HKR.out, decide_eq_true rfl, decide_eq_true HH1.out, HPD.out]; rfl
            go_wp2_with fail
            refine HPR.out.mono ?_
            rintro e V2 ⟨rfl, hb2⟩
            have HBX2 : Hid (V2.heap[w.heap.size]? = _) := (hb2.block _ (by simp)).trans HBX.out
            have HB2 : Hid (Below w.heap.size w V2) := hB0.out.trans (hb2.mono (by simp))
            have c0' := cell_of_block HBX2.out 0
            simp only [List.getElem?_toArray, List.getElem?_cons_zero] at c0'
            clear hb2
            cases pr
            · go_wp2_with fail
              go_meet
              case rel => exact ⟨by rw [this.out]; rfl, HB2.out, HBX2.out⟩
            · go_wp2_with fail
              go_meet
              case rel => exact ⟨by rw [this.out]; rfl, HB2.out, HBX2.out⟩
          · have hk3 : (k == 3) = false := by simpa using h3
            have hgd := prop_guard
            have H3 := Lib.hid h3
            by_cases hpz : (⟨p1, p2, p3, p4⟩ : PropD) = ⟨0, 0, 0, 0⟩
            · have heq := prop_eq true (decide_eq_true hpz)
              have : Hid (hd = true) := by rw [Hid, HHD.out, headOk, ← HKR.out, decide_eq_true rfl, decide_eq_true HH1.out, if_neg H3.out, decide_eq_true hpz]; rfl
              clear hpz
              go_wp2_with fail
              go_meet
              case rel => exact ⟨by rw [this.out]; rfl, hB0.out, HBX.out⟩
            · have heq := prop_eq false (decide_eq_false hpz)
              have : Hid (hd = false) := by rw [Hid, HHD.out, headOk, ← HKR.out, decide_eq_true rfl, decide_eq_true HH1.out, if_neg H3.out, decide_eq_false hpz]; rfl
              clear hpz
              go_wp2_with fail
              go_meet
              case rel => exact ⟨by rw [this.out, show (k != 3) = true by rw [bne_iff_ne]; exact H3.out]; rfl, hB0.out, HBX.out⟩
        · have : Hid (hd = false) := by rw [Hid, HHD.out, headOk, ← HKR.out, decide_eq_false h2]; simp
          have h2' : (kr == (kids.length : Int)) = false := by rw [beq_eq_false_iff_ne]; exact h2
          have HH2 := Lib.hid h2
          clear h2
          go_wp2_with fail
          go_meet
          case rel => exact ⟨by rw [this.out]; rfl, hB0.out, HBX.out⟩
    case rest =>
      obtain ⟨rfl, hB, hbx⟩ := hcut
      have HBX2 := Lib.hid hbx
      have HB := Lib.hid hB
      have hz := hB.size
      clear HBX c0 c1 c2 c3 c4 c5 hbx hB
      cases hd with
      | false =>
        go_wp2_with fail
        go_ret2
        have he : (Form.mk k ⟨p1, p2, p3, p4⟩ kids).okR deep = false := by rw [Form.okR, okD_head, ← HHD.out]; rfl
        rw [TellsRR, he]
        exact ⟨rfl, HB.out⟩
      | true =>
        have hkl2 : kr = (kids.length : Int) := by
          have h1 := HHD.out
          unfold headOk at h1
          simp only [Bool.true_eq, Bool.and_eq_true, decide_eq_true_eq] at h1
          rw [HKR.out]; exact h1.1.2
        have hd1 : 1 ≤ deep := by
          have h1 := HHD.out
          unfold headOk at h1
          simp only [Bool.true_eq, Bool.and_eq_true, decide_eq_true_eq] at h1
          exact h1.1.1
        subst hkl2
        have hle : kids.length ≤ 2 := by omega
        go_wp2_with fail
        go_loopg [7, 8] kids.length (fun g s7 s8 wr => ∃ i n : Nat, i ≤ kids.length ∧ n ≤ 200 ∧ Hid (g = kids.length - i) ∧ s7 = .int .i64 n ∧ s8 = .int .i64 i ∧ Hid (n = 1 + sizeL (kids.take i)) ∧ Hid (okL (kids.take i) (deep - 1) = true) ∧ Below w.heap.size w wr ∧ Hid (wr.heap[w.heap.size]? = some (.cells #[.int .i64 k, .int .i64 p1, .int .i64 p2, .int .i64 p3, .int .i64 p4, .slice ka kids.length kc] 26 (0, 0))))
        case atStart => exact ⟨0, 1, Nat.zero_le _, by omega, rfl, rfl, rfl, by simp [Hid, sizeL], by simp [Hid, okL], HB.out, HBX2.out⟩
        case round =>
          obtain ⟨i, n, hi, hn, HG, rfl, rfl, HN, HO, hB, HX⟩ := hrel
          have hx5 : wr.cell? ⟨w.heap.size, 5, none⟩ = some (.slice ka kids.length kc) := cell_of_block HX.out 5
          have hz := hB.size
          by_cases hlt : i < kids.length
          · obtain ⟨b, off, kv, rfl, hb, hcell, hf⟩ := HK.out i hlt
            obtain ⟨g, hg⟩ : ∃ g, g = kids.getD i default := ⟨_, rfl⟩
            rw [← hg] at hcell hf
            obtain ⟨ga, gc, rfl, hgl⟩ := hf.slice
            have hrec := HIH.out wr g _ (deep - 1) (hf.below hB) (by omega)
            rw [show ((deep - 1 : Nat) : Int) = (deep : Int) - 1 from by omega] at hrec
            have HQ := Lib.hid hg
            clear hg hf
            obtain ⟨gk', ⟨q1, q2, q3, q4⟩, gl⟩ := g
            simp only [Form.kids] at hgl
            simp only [formV, Form.kind, Form.prop, Form.kids] at hrec
            obtain ⟨ok, hok⟩ : ∃ ok, ok = (Form.mk gk' ⟨q1, q2, q3, q4⟩ gl).okR (deep - 1) := ⟨_, rfl⟩
            obtain ⟨sz, hsz⟩ : ∃ sz : Nat, sz = if ok then (Form.mk gk' ⟨q1, q2, q3, q4⟩ gl).size else 0 := ⟨_, rfl⟩
            have hs200 : sz ≤ 200 := by
              rw [hsz]; split
              · rename_i h; rw [hok, Form.okR, Bool.and_eq_true, decide_eq_true_eq] at h; exact h.2
              · omega
            have hrec2 : Calls Try.prog 29 #[.agg #[.int .i64 gk', .int .i64 q1, .int .i64 q2, .int .i64 q3, .int .i64 q4, .slice ga gl.length gc], .int .i64 ((deep : Int) - 1)] wr (fun e w' => e = .returned (.tuple #[.int .i64 sz, .bool ok]) ∧ Below wr.heap.size wr w') :=
              hrec.mono (fun e w' h => by rw [TellsRR, ← hok] at h; refine ⟨h.1.trans ?_, h.2⟩; rw [hsz]; cases ok <;> rfl)
            have HREC := Lib.hid hrec2
            have HOK := Lib.hid hok
            have HSZ := Lib.hid hsz
            clear hrec hrec2 hok hsz
            have hy0 := (hB.cell (p := ⟨b, off + i * 6 + 0, none⟩) hb).trans (hcell 0 (by omega))
            have hy1 := (hB.cell (p := ⟨b, off + i * 6 + 1, none⟩) hb).trans (hcell 1 (by omega))
            have hy2 := (hB.cell (p := ⟨b, off + i * 6 + 2, none⟩) hb).trans (hcell 2 (by omega))
            have hy3 := (hB.cell (p := ⟨b, off + i * 6 + 3, none⟩) hb).trans (hcell 3 (by omega))
            have hy4 := (hB.cell (p := ⟨b, off + i * 6 + 4, none⟩) hb).trans (hcell 4 (by omega))
            have hy5 := (hB.cell (p := ⟨b, off + i * 6 + 5, none⟩) hb).trans (hcell 5 (by omega))
            simp only [formCells, Form.kind, Form.prop, Form.kids, List.getElem?_cons_zero, List.getElem?_cons_succ, Nat.add_zero] at hy0 hy1 hy2 hy3 hy4 hy5
            have HBR := Lib.hid hB
            clear hcell hB
            have hend : ∀ W, Below w.heap.size w W → (ok = false ∨ 200 < n + sz) → TellsRR (.mk k ⟨p1, p2, p3, p4⟩ kids) deep w (.returned (.tuple #[.int .i64 0, .bool false])) W := by
              intro W hW hc
              have he : (Form.mk k ⟨p1, p2, p3, p4⟩ kids).okR deep = false := by
                cases hh : (Form.mk k ⟨p1, p2, p3, p4⟩ kids).okR deep with
                | false => rfl
                | true =>
                  rw [Form.okR, okD_head, ← HHD.out, Bool.true_and, Bool.and_eq_true, decide_eq_true_eq] at hh
                  obtain ⟨h1, h2⟩ := hh
                  have h3 := okL_kid kids _ i hlt h1
                  rw [← HQ.out] at h3
                  have h4 := sizeL_take_succ kids i hlt
                  have h5 := sizeL_take kids (i + 1)
                  rw [← HQ.out] at h4
                  have h6 : (Form.mk k ⟨p1, p2, p3, p4⟩ kids).size = 1 + sizeL kids := rfl
                  have h7 : ok = true := by rw [HOK.out, Form.okR, h3, Bool.true_and, decide_eq_true_eq]; omega
                  rw [h7] at hc
                  have h8 : sz = (Form.mk gk' ⟨q1, q2, q3, q4⟩ gl).size := by rw [HSZ.out, h7]; rfl
                  have := HN.out
                  rcases hc with hc | hc
                  · cases hc
                  · omega
              rw [TellsRR, he]
              exact ⟨rfl, hW⟩
            have HE := Lib.hid hend
            clear hend
            go_wp2_with fail
            refine HREC.out.mono ?_
            rintro e w2 ⟨rfl, hb2⟩
            have HB2 := Lib.hid (HBR.out.trans (hb2.mono hz))
            have HX2 : Hid (w2.heap[w.heap.size]? = _) := (hb2.block _ (lt_of_block HX.out)).trans HX.out
            clear hy0 hy1 hy2 hy3 hy4 hy5 hb2 hx5
            cases ok with
            | false =>
              go_wp2
              go_ret2
              exact HE.out _ HB2.out (by simp)
            | true =>
              by_cases h200 : 200 < n + sz
              · have h200' : (200 : Int) < (n : Int) + (sz : Int) := by omega
                go_wp2
                go_ret2
                exact HE.out _ HB2.out (.inr h200)
              · have h200' : ¬ (200 : Int) < (n : Int) + (sz : Int) := by omega
                go_wp2
                go_roundg (kids.length - (i + 1))
                case measure => rw [HG.out]; omega
                case rel =>
                  refine ⟨i + 1, n + sz, by omega, by omega, rfl, by simp, by simp, ?_, ?_, HB2.out, HX2.out⟩
                  · rw [Hid, sizeL_take_succ kids i hlt, ← HQ.out, HN.out, HSZ.out]; simp; omega
                  · rw [Hid, okL_take kids _ i hlt, HO.out, ← HQ.out]
                    have := HOK.out
                    rw [Form.okR, Bool.true_eq, Bool.and_eq_true] at this
                    rw [this.1]; rfl
          · have hie : i = kids.length := by omega
            subst hie
            have HBR := Lib.hid hB
            clear hB
            go_wp2
            go_ret2
            have hN := HN.out
            have hO := HO.out
            rw [List.take_length] at hN hO
            have he : (Form.mk k ⟨p1, p2, p3, p4⟩ kids).okR deep = true := by
              rw [Form.okR, okD_head, ← HHD.out, hO, Bool.true_and, Bool.true_and, decide_eq_true_eq]
              show 1 + sizeL kids ≤ 200
              omega
            rw [TellsRR, he]
            refine ⟨?_, HBR.out⟩
            rw [hN]; rfl

set_option maxHeartbeats 1000000 in
/-- May a formula be: the document's answer. -/
theorem refRight_any (w : World) (d : Nat) (f : Form) (kv : Value) (h : FormAt w d f kv) :
    Calls Try.prog 17 #[formV f kv] w fun e w' => e = .returned (.bool f.fits) ∧ Below w.heap.size w w' := by
  have hr : ∀ W, Below w.heap.size w W → Calls Try.prog 29 #[formV f kv, .int .i64 20] W (TellsRR f 20 W) := fun W hW => rright_any d W f kv 20 (h.below hW) (by omega)
  have HR := Lib.hid hr
  clear hr
  obtain ⟨ka, kc, rfl, hkl⟩ := h.slice
  obtain ⟨k, ⟨p1, p2, p3, p4⟩, kids⟩ := f
  clear h
  simp only [Form.kids] at hkl ⊢
  obtain ⟨res, hres⟩ : ∃ res, res = (Form.mk k ⟨p1, p2, p3, p4⟩ kids).okR 20 := ⟨_, rfl⟩
  obtain ⟨sz, hsz⟩ : ∃ sz : Nat, sz = if res then (Form.mk k ⟨p1, p2, p3, p4⟩ kids).size else 0 := ⟨_, rfl⟩
  have hr2 : ∀ W, Below w.heap.size w W → Calls Try.prog 29 #[.agg #[.int .i64 k, .int .i64 p1, .int .i64 p2, .int .i64 p3, .int .i64 p4, .slice ka kids.length kc], .int .i64 20] W (fun e w' => e = .returned (.tuple #[.int .i64 sz, .bool res]) ∧ Below W.heap.size W w') :=
    fun W hW => (HR.out W hW).mono (fun e w' h => by rw [TellsRR, ← hres] at h; refine ⟨h.1.trans ?_, h.2⟩; rw [hsz]; cases res <;> rfl)
  have HR2 := Lib.hid hr2
  rw [show (Form.mk k ⟨p1, p2, p3, p4⟩ kids).fits = res from hres.symm]
  clear hr2 HR hres hsz
  unfold formV
  simp only [Form.kind, Form.prop]
  go_enter Try.func17, Try.ntmps17
  go_wp2_with fail
  refine (HR2.out _ ((Below.refl _ _).alloc (Nat.le_refl _) _)).mono ?_
  rintro e w2 ⟨rfl, hb⟩
  have HB2 : Hid (Below w.heap.size w w2) := ((Below.refl _ _).alloc (Nat.le_refl _) (.cells #[.int .i64 k, .int .i64 p1, .int .i64 p2, .int .i64 p3, .int .i64 p4, .slice ka kids.length kc] 26)).trans (hb.mono (by simp))
  clear hb HR2
  go_wp2
  go_ret
  exact ⟨rfl, HB2.out⟩
end Go.Proofs.Ytidnpdkibndpkaa
