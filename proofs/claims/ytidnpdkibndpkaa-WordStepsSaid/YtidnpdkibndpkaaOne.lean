/- Where a formula of one part, or of two, is so: package word's teller. -/
import Derived.Test.YtidnpdkibndpkaaClos
namespace Go.Proofs.Ytidnpdkibndpkaa
open Go.RowKit

theorem list_of_getD {l : List Bool} {n : Nat} {r : Nat → Bool} (hl : l.length = n) (h : ∀ i, i < n → l.getD i false = r i) : l = (List.range n).map r := by
  apply List.ext_getElem?
  intro i
  by_cases hi : i < n
  · have := h i hi
    rw [List.getD_eq_getElem?_getD, List.getElem?_eq_getElem (by omega), Option.getD_some] at this
    rw [List.getElem?_eq_getElem (by omega), this]
    simp [hi]
  · rw [List.getElem?_eq_none (by omega)]; simp [hi]
theorem TellsLasts.bools {n back : Nat} {is : Nat → Bool → Bool} {all : Bool} {w : World} {e : Ending} {w' : World} {r : Nat → Bool} (h : TellsLasts n back is all w e w') (hr : ∀ l, Passes n back is all 2 l → ∀ i, i < n → l.getD i false = r i) : TellsBools ((List.range n).map r) w e w' := by
  obtain ⟨sv, l, rfl, h1, h2, h3⟩ := h
  have := list_of_getD h3.1 (hr l h3)
  subst this
  exact ⟨sv, rfl, h1, h2⟩
theorem TellsBools.of {w W : World} {e : Ending} {w' : World} {l : List Bool} (h : TellsBools l W e w') (hB : Below w.heap.size w W) : TellsBools l w e w' := by
  obtain ⟨sv, h1, h2, h3⟩ := h
  exact ⟨sv, h1, row_mono h2 hB.size, hB.trans (h3.mono hB.size)⟩
theorem semK4 (t a b : Nat → Bool) (n back : Nat) : semKind 4 t a b n back = fun i => !a i := by simp [semKind]
theorem semK5 (t a b : Nat → Bool) (n back : Nat) : semKind 5 t a b n back = fun i => a i && b i := by simp [semKind]
theorem semK6 (t a b : Nat → Bool) (n back : Nat) : semKind 6 t a b n back = fun i => a i || b i := by simp [semKind]
theorem semK7 (t a b : Nat → Bool) (n back : Nat) : semKind 7 t a b n back = fun i => !a i || b i := by simp [semKind]
theorem semK8 (t a b : Nat → Bool) (n back : Nat) : semKind 8 t a b n back = fun i => a (nx n back i) := by simp [semKind]
theorem semK9 (t a b : Nat → Bool) (n back : Nat) : semKind 9 t a b n back = semU n back b a := by simp [semKind]
theorem semK12 (t a b : Nat → Bool) (n back : Nat) : semKind 12 t a b n back = semU n back a (fun _ => true) := by simp [semKind]
theorem semK10 (t a b : Nat → Bool) (n back : Nat) : semKind 10 t a b n back = fun i => !semU n back (fun i => !b i) (fun i => !a i) i := by simp [semKind]
theorem semK11 (t a b : Nat → Bool) (n back : Nat) : semKind 11 t a b n back = fun i => !semU n back (fun i => !a i) (fun _ => true) i := by simp [semKind]
theorem least_eq {n back : Nat} (hb : back < n) (g s : Nat → Bool) (l : List Bool) (h : Passes n back (fun i x => g i || (s i && x)) false 2 l) (i : Nat) (hi : i < n) : l.getD i false = semU n back g s i := by
  obtain ⟨o1, h1, h2⟩ := h.2.2.2 rfl
  exact lasts_law hb h1 h2 i hi
theorem most_eq {n back : Nat} (hb : back < n) (g s : Nat → Bool) (l : List Bool) (h : Passes n back (fun i x => g i && (s i || x)) true 2 l) (i : Nat) (hi : i < n) : l.getD i false = !semU n back (fun i => !g i) (fun i => !s i) i := by
  obtain ⟨o1, h1, h2⟩ := h.2.2.2 rfl
  exact lasts_turned hb h1 h2 i hi
set_option maxHeartbeats 1000000 in
theorem oneNext_any (w : World) (tb : Nat) (ad : Option Addr) (n lc back : Nat) (pv : Value) (av : Value) (la : List Bool) (ht : TellerAt w tb (.slice ad n lc) back pv) (_hn1 : 1 ≤ n) (hn : n ≤ 1000000000) (hb : back < n) (ha : BoolsAt w av la) (hla : la.length = n) (t b : Nat → Bool) :
    Calls Try.prog 40 #[.pointer (some ⟨tb, 0, none⟩), .int .i64 8, av] w (TellsBools ((List.range n).map (semKind 8 t (fun i => la.getD i false) b n back)) w) := by
  rw [semK8]
  obtain ⟨aa, ac, rfl, hal⟩ := ha.slice
  have hcall : ∀ (W : World) (sa st : Nat), Below w.heap.size w W → W.cell? ⟨sa, 0, none⟩ = some (.slice aa la.length ac) → W.cell? ⟨st, 0, none⟩ = some (.pointer (some ⟨tb, 0, none⟩)) →
      Calls Try.prog 36 #[.pointer (some ⟨tb, 0, none⟩), .func (.func 49) #[] #[.pointer (some ⟨sa, 0, none⟩), .pointer (some ⟨st, 0, none⟩)]] W (TellsBools ((List.range n).map (fun i => la.getD (nx n back i) false)) W) := by
    intro W sa st hB hsa hst
    have hfn : ∀ args W, (callFunc 49 args).run Try.prog W = .ok (.enter 49 args) W := fun args W => by go_simp
    exact each_any W tb ad n lc back pv (ht.below hB) hn 49 #[] _ _ hfn (fun i W' hi hW => (one1_any W' sa st tb _ ad n lc back pv la ((hW.cell (p := ⟨sa, 0, none⟩) (World.block_lt_of_cell? _ _ hsa)).trans hsa) ((hW.cell (p := ⟨st, 0, none⟩) (World.block_lt_of_cell? _ _ hst)).trans hst) ((ha.below hB).below hW) ((ht.below hB).below hW) hn hb hla i hi))
  obtain ⟨r, hr⟩ : ∃ r, r = (List.range n).map (fun i => la.getD (nx n back i) false) := ⟨_, rfl⟩
  rw [← hr] at hcall ⊢
  have HC := Lib.hid hcall
  clear hcall hr hla
  have hc0 : ((w.alloc (.cells #[.pointer (some ⟨tb, 0, none⟩)] 53)).alloc (.cells #[.slice aa la.length ac] 41)).cell? ⟨w.heap.size, 0, none⟩ = some (.pointer (some ⟨tb, 0, none⟩)) := (Below.cell ((Below.refl _ _).alloc (Nat.le_refl _) _) (p := ⟨w.heap.size, 0, none⟩) (by simp)).trans (cell_of_block (heap_alloc_new w _) 0)
  have hc1 : ((w.alloc (.cells #[.pointer (some ⟨tb, 0, none⟩)] 53)).alloc (.cells #[.slice aa la.length ac] 41)).cell? ⟨w.heap.size + 1, 0, none⟩ = some (.slice aa la.length ac) := by
    have := cell_of_block (heap_alloc_new (w.alloc (.cells #[.pointer (some ⟨tb, 0, none⟩)] 53)) (.cells #[.slice aa la.length ac] 41)) 0
    rw [World.size_alloc] at this; exact this
  have HW : Hid (Below w.heap.size w ((w.alloc (.cells #[.pointer (some ⟨tb, 0, none⟩)] 53)).alloc (.cells #[.slice aa la.length ac] 41))) := ((Below.refl _ _).alloc (Nat.le_refl _) _).alloc (by simp) _
  go_enter Try.func40, Try.ntmps40
  go_wp2_with fail
  refine (HC.out _ (w.heap.size + 1) w.heap.size HW.out hc1 hc0).mono ?_
  rintro e w2 ⟨sv, rfl, ho, hb2⟩
  have HP : Hid (w2.ownsRow w.heap.size 4 1 sv r.length (r.map Value.bool) ∧ Below w.heap.size w w2) := ⟨row_mono ho (by simp; omega), HW.out.trans (hb2.mono (by simp; omega))⟩
  clear ho hb2 HC hc0 hc1
  go_wp2
  go_ret
  exact ⟨sv, rfl, HP.out⟩
set_option maxHeartbeats 1000000 in
theorem oneAlways_any (w : World) (tb : Nat) (ad : Option Addr) (n lc back : Nat) (pv : Value) (av : Value) (la : List Bool) (ht : TellerAt w tb (.slice ad n lc) back pv) (hn1 : 1 ≤ n) (hn : n ≤ 1000000000) (hb : back < n) (ha : BoolsAt w av la) (hla : la.length = n) (t b : Nat → Bool) :
    Calls Try.prog 40 #[.pointer (some ⟨tb, 0, none⟩), .int .i64 11, av] w (TellsBools ((List.range n).map (semKind 11 t (fun i => la.getD i false) b n back)) w) := by
  rw [semK11]
  obtain ⟨aa, ac, rfl, hal⟩ := ha.slice
  have hcall : ∀ (W : World) (sa st : Nat), Below w.heap.size w W → W.cell? ⟨sa, 0, none⟩ = some (.slice aa la.length ac) → W.cell? ⟨st, 0, none⟩ = some (.pointer (some ⟨tb, 0, none⟩)) →
      Calls Try.prog 51 #[.pointer (some ⟨tb, 0, none⟩), .bool true, .func (.func 52) #[] #[.pointer (some ⟨sa, 0, none⟩)]] W (TellsBools ((List.range n).map (fun i => !semU n back (fun i => !la.getD i false) (fun _ => true) i)) W) := by
    intro W sa st hB hsa hst
    have hfn : ∀ args W, (callFunc 52 args).run Try.prog W = .ok (.enter 52 args) W := fun args W => by go_simp
    have hc2 : ∀ i x W', i < n → Below W.heap.size W W' → Calls Try.prog 52 (#[] ++ (#[.int .i64 (i : Nat), .bool x] ++ #[.pointer (some ⟨sa, 0, none⟩)])) W' fun e W'' => e = .returned (.bool (la.getD i false && x)) ∧ Below W'.heap.size W' W'' := by
      intro i x W' hi hW
      have h1 := (one2_any W' sa _ la ((hW.cell (p := ⟨sa, 0, none⟩) (World.block_lt_of_cell? _ _ hsa)).trans hsa) ((ha.below hB).below hW) i (by omega) x).mono (R' := fun e W'' => e = .returned (.bool (la.getD i false && x)) ∧ Below W'.heap.size W' W'') (fun _ _ h => ⟨h.1, h.2 ▸ Below.refl _ _⟩)
      exact h1
    have hL := lasts_any W tb ad n lc back pv (ht.below hB) hn1 hn hb true 52 #[] _ (fun i x => la.getD i false && x) hfn hc2
    exact hL.mono (fun _ _ h => h.bools (fun l hl i hi => most_eq hb (fun i => la.getD i false) (fun _ => false) l hl i hi))
  obtain ⟨r, hr⟩ : ∃ r, r = (List.range n).map (fun i => !semU n back (fun i => !la.getD i false) (fun _ => true) i) := ⟨_, rfl⟩
  rw [← hr] at hcall ⊢
  have HC := Lib.hid hcall
  clear hcall hr hla
  have hc0 : ((w.alloc (.cells #[.pointer (some ⟨tb, 0, none⟩)] 53)).alloc (.cells #[.slice aa la.length ac] 41)).cell? ⟨w.heap.size, 0, none⟩ = some (.pointer (some ⟨tb, 0, none⟩)) := (Below.cell ((Below.refl _ _).alloc (Nat.le_refl _) _) (p := ⟨w.heap.size, 0, none⟩) (by simp)).trans (cell_of_block (heap_alloc_new w _) 0)
  have hc1 : ((w.alloc (.cells #[.pointer (some ⟨tb, 0, none⟩)] 53)).alloc (.cells #[.slice aa la.length ac] 41)).cell? ⟨w.heap.size + 1, 0, none⟩ = some (.slice aa la.length ac) := by
    have := cell_of_block (heap_alloc_new (w.alloc (.cells #[.pointer (some ⟨tb, 0, none⟩)] 53)) (.cells #[.slice aa la.length ac] 41)) 0
    rw [World.size_alloc] at this; exact this
  have HW : Hid (Below w.heap.size w ((w.alloc (.cells #[.pointer (some ⟨tb, 0, none⟩)] 53)).alloc (.cells #[.slice aa la.length ac] 41))) := ((Below.refl _ _).alloc (Nat.le_refl _) _).alloc (by simp) _
  go_enter Try.func40, Try.ntmps40
  go_wp2_with fail
  refine (HC.out _ (w.heap.size + 1) w.heap.size HW.out hc1 hc0).mono ?_
  rintro e w2 ⟨sv, rfl, ho, hb2⟩
  have HP : Hid (w2.ownsRow w.heap.size 4 1 sv r.length (r.map Value.bool) ∧ Below w.heap.size w w2) := ⟨row_mono ho (by simp; omega), HW.out.trans (hb2.mono (by simp; omega))⟩
  clear ho hb2 HC hc0 hc1
  go_wp2
  go_ret
  exact ⟨sv, rfl, HP.out⟩
set_option maxHeartbeats 1000000 in
theorem oneEver_any (w : World) (tb : Nat) (ad : Option Addr) (n lc back : Nat) (pv : Value) (av : Value) (la : List Bool) (ht : TellerAt w tb (.slice ad n lc) back pv) (hn1 : 1 ≤ n) (hn : n ≤ 1000000000) (hb : back < n) (ha : BoolsAt w av la) (hla : la.length = n) (t b : Nat → Bool) :
    Calls Try.prog 40 #[.pointer (some ⟨tb, 0, none⟩), .int .i64 12, av] w (TellsBools ((List.range n).map (semKind 12 t (fun i => la.getD i false) b n back)) w) := by
  rw [semK12]
  obtain ⟨aa, ac, rfl, hal⟩ := ha.slice
  have hcall : ∀ (W : World) (sa st : Nat), Below w.heap.size w W → W.cell? ⟨sa, 0, none⟩ = some (.slice aa la.length ac) → W.cell? ⟨st, 0, none⟩ = some (.pointer (some ⟨tb, 0, none⟩)) →
      Calls Try.prog 51 #[.pointer (some ⟨tb, 0, none⟩), .bool false, .func (.func 53) #[] #[.pointer (some ⟨sa, 0, none⟩)]] W (TellsBools ((List.range n).map (semU n back (fun i => la.getD i false) (fun _ => true))) W) := by
    intro W sa st hB hsa hst
    have hfn : ∀ args W, (callFunc 53 args).run Try.prog W = .ok (.enter 53 args) W := fun args W => by go_simp
    have hc2 : ∀ i x W', i < n → Below W.heap.size W W' → Calls Try.prog 53 (#[] ++ (#[.int .i64 (i : Nat), .bool x] ++ #[.pointer (some ⟨sa, 0, none⟩)])) W' fun e W'' => e = .returned (.bool (la.getD i false || x)) ∧ Below W'.heap.size W' W'' := by
      intro i x W' hi hW
      have h1 := (one3_any W' sa _ la ((hW.cell (p := ⟨sa, 0, none⟩) (World.block_lt_of_cell? _ _ hsa)).trans hsa) ((ha.below hB).below hW) i (by omega) x).mono (R' := fun e W'' => e = .returned (.bool (la.getD i false || x)) ∧ Below W'.heap.size W' W'') (fun _ _ h => ⟨h.1, h.2 ▸ Below.refl _ _⟩)
      exact h1
    have hL := lasts_any W tb ad n lc back pv (ht.below hB) hn1 hn hb false 53 #[] _ (fun i x => la.getD i false || x) hfn hc2
    exact hL.mono (fun _ _ h => h.bools (fun l hl i hi => least_eq hb (fun i => la.getD i false) (fun _ => true) l hl i hi))
  obtain ⟨r, hr⟩ : ∃ r, r = (List.range n).map (semU n back (fun i => la.getD i false) (fun _ => true)) := ⟨_, rfl⟩
  rw [← hr] at hcall ⊢
  have HC := Lib.hid hcall
  clear hcall hr hla
  have hc0 : ((w.alloc (.cells #[.pointer (some ⟨tb, 0, none⟩)] 53)).alloc (.cells #[.slice aa la.length ac] 41)).cell? ⟨w.heap.size, 0, none⟩ = some (.pointer (some ⟨tb, 0, none⟩)) := (Below.cell ((Below.refl _ _).alloc (Nat.le_refl _) _) (p := ⟨w.heap.size, 0, none⟩) (by simp)).trans (cell_of_block (heap_alloc_new w _) 0)
  have hc1 : ((w.alloc (.cells #[.pointer (some ⟨tb, 0, none⟩)] 53)).alloc (.cells #[.slice aa la.length ac] 41)).cell? ⟨w.heap.size + 1, 0, none⟩ = some (.slice aa la.length ac) := by
    have := cell_of_block (heap_alloc_new (w.alloc (.cells #[.pointer (some ⟨tb, 0, none⟩)] 53)) (.cells #[.slice aa la.length ac] 41)) 0
    rw [World.size_alloc] at this; exact this
  have HW : Hid (Below w.heap.size w ((w.alloc (.cells #[.pointer (some ⟨tb, 0, none⟩)] 53)).alloc (.cells #[.slice aa la.length ac] 41))) := ((Below.refl _ _).alloc (Nat.le_refl _) _).alloc (by simp) _
  go_enter Try.func40, Try.ntmps40
  go_wp2_with fail
  refine (HC.out _ (w.heap.size + 1) w.heap.size HW.out hc1 hc0).mono ?_
  rintro e w2 ⟨sv, rfl, ho, hb2⟩
  have HP : Hid (w2.ownsRow w.heap.size 4 1 sv r.length (r.map Value.bool) ∧ Below w.heap.size w w2) := ⟨row_mono ho (by simp; omega), HW.out.trans (hb2.mono (by simp; omega))⟩
  clear ho hb2 HC hc0 hc1
  go_wp2
  go_ret
  exact ⟨sv, rfl, HP.out⟩
set_option maxHeartbeats 1000000 in
theorem oneNot_any (w : World) (tb : Nat) (ad : Option Addr) (n lc back : Nat) (pv : Value) (av : Value) (la : List Bool) (ht : TellerAt w tb (.slice ad n lc) back pv) (_hn1 : 1 ≤ n) (hn : n ≤ 1000000000) (_hb : back < n) (ha : BoolsAt w av la) (hla : la.length = n) (t b : Nat → Bool) :
    Calls Try.prog 40 #[.pointer (some ⟨tb, 0, none⟩), .int .i64 4, av] w (TellsBools ((List.range n).map (semKind 4 t (fun i => la.getD i false) b n back)) w) := by
  rw [semK4]
  obtain ⟨aa, ac, rfl, hal⟩ := ha.slice
  have hcall : ∀ (W : World) (sa st : Nat), Below w.heap.size w W → W.cell? ⟨sa, 0, none⟩ = some (.slice aa la.length ac) → W.cell? ⟨st, 0, none⟩ = some (.pointer (some ⟨tb, 0, none⟩)) →
      Calls Try.prog 36 #[.pointer (some ⟨tb, 0, none⟩), .func (.func 54) #[] #[.pointer (some ⟨sa, 0, none⟩)]] W (TellsBools ((List.range n).map (fun i => !(la.getD i false))) W) := by
    intro W sa st hB hsa hst
    have hfn : ∀ args W, (callFunc 54 args).run Try.prog W = .ok (.enter 54 args) W := fun args W => by go_simp
    exact each_any W tb ad n lc back pv (ht.below hB) hn 54 #[] _ _ hfn (fun i W' hi hW => (one4_any W' sa _ la ((hW.cell (p := ⟨sa, 0, none⟩) (World.block_lt_of_cell? _ _ hsa)).trans hsa) ((ha.below hB).below hW) i (by omega)).mono (fun _ _ h => ⟨h.1, h.2 ▸ Below.refl _ _⟩))
  obtain ⟨r, hr⟩ : ∃ r, r = (List.range n).map (fun i => !(la.getD i false)) := ⟨_, rfl⟩
  rw [← hr] at hcall ⊢
  have HC := Lib.hid hcall
  clear hcall hr hla
  have hc0 : ((w.alloc (.cells #[.pointer (some ⟨tb, 0, none⟩)] 53)).alloc (.cells #[.slice aa la.length ac] 41)).cell? ⟨w.heap.size, 0, none⟩ = some (.pointer (some ⟨tb, 0, none⟩)) := (Below.cell ((Below.refl _ _).alloc (Nat.le_refl _) _) (p := ⟨w.heap.size, 0, none⟩) (by simp)).trans (cell_of_block (heap_alloc_new w _) 0)
  have hc1 : ((w.alloc (.cells #[.pointer (some ⟨tb, 0, none⟩)] 53)).alloc (.cells #[.slice aa la.length ac] 41)).cell? ⟨w.heap.size + 1, 0, none⟩ = some (.slice aa la.length ac) := by
    have := cell_of_block (heap_alloc_new (w.alloc (.cells #[.pointer (some ⟨tb, 0, none⟩)] 53)) (.cells #[.slice aa la.length ac] 41)) 0
    rw [World.size_alloc] at this; exact this
  have HW : Hid (Below w.heap.size w ((w.alloc (.cells #[.pointer (some ⟨tb, 0, none⟩)] 53)).alloc (.cells #[.slice aa la.length ac] 41))) := ((Below.refl _ _).alloc (Nat.le_refl _) _).alloc (by simp) _
  go_enter Try.func40, Try.ntmps40
  go_wp2_with fail
  refine (HC.out _ (w.heap.size + 1) w.heap.size HW.out hc1 hc0).mono ?_
  rintro e w2 ⟨sv, rfl, ho, hb2⟩
  have HP : Hid (w2.ownsRow w.heap.size 4 1 sv r.length (r.map Value.bool) ∧ Below w.heap.size w w2) := ⟨row_mono ho (by simp; omega), HW.out.trans (hb2.mono (by simp; omega))⟩
  clear ho hb2 HC hc0 hc1
  go_wp2
  go_ret
  exact ⟨sv, rfl, HP.out⟩
set_option maxHeartbeats 1000000 in
theorem twoAnd_any (w : World) (tb : Nat) (ad : Option Addr) (n lc back : Nat) (pv : Value) (av bv : Value) (la lb : List Bool) (ht : TellerAt w tb (.slice ad n lc) back pv) (_hn1 : 1 ≤ n) (hn : n ≤ 1000000000) (_hb : back < n) (ha : BoolsAt w av la) (hla : la.length = n) (hbv : BoolsAt w bv lb) (hlb : lb.length = n) (t : Nat → Bool) :
    Calls Try.prog 41 #[.pointer (some ⟨tb, 0, none⟩), .int .i64 5, av, bv] w (TellsBools ((List.range n).map (semKind 5 t (fun i => la.getD i false) (fun i => lb.getD i false) n back)) w) := by
  rw [semK5]
  obtain ⟨aa, ac, rfl, hal⟩ := ha.slice
  obtain ⟨ba, bc, rfl, hbl⟩ := hbv.slice
  have hcall : ∀ (W : World) (sa sb : Nat), Below w.heap.size w W → W.cell? ⟨sa, 0, none⟩ = some (.slice aa la.length ac) → W.cell? ⟨sb, 0, none⟩ = some (.slice ba lb.length bc) →
      Calls Try.prog 36 #[.pointer (some ⟨tb, 0, none⟩), .func (.func 55) #[] #[.pointer (some ⟨sa, 0, none⟩), .pointer (some ⟨sb, 0, none⟩)]] W (TellsBools ((List.range n).map (fun i => (la.getD i false) && (lb.getD i false))) W) := by
    intro W sa sb hB hsa hsb
    have hfn : ∀ args W, (callFunc 55 args).run Try.prog W = .ok (.enter 55 args) W := fun args W => by go_simp
    exact each_any W tb ad n lc back pv (ht.below hB) hn 55 #[] _ _ hfn (fun i W' hi hW => (two1_any W' sa sb _ _ la lb ((hW.cell (p := ⟨sa, 0, none⟩) (World.block_lt_of_cell? _ _ hsa)).trans hsa) ((hW.cell (p := ⟨sb, 0, none⟩) (World.block_lt_of_cell? _ _ hsb)).trans hsb) ((ha.below hB).below hW) ((hbv.below hB).below hW) i (by omega) (by omega)).mono (fun _ _ h => ⟨h.1, h.2 ▸ Below.refl _ _⟩))
  obtain ⟨r, hr⟩ : ∃ r, r = (List.range n).map (fun i => (la.getD i false) && (lb.getD i false)) := ⟨_, rfl⟩
  rw [← hr] at hcall ⊢
  have HC := Lib.hid hcall
  clear hcall hr hla hlb
  have hc0 : ((w.alloc (.cells #[.slice aa la.length ac] 41)).alloc (.cells #[.slice ba lb.length bc] 41)).cell? ⟨w.heap.size, 0, none⟩ = some (.slice aa la.length ac) := (Below.cell ((Below.refl _ _).alloc (Nat.le_refl _) _) (p := ⟨w.heap.size, 0, none⟩) (by simp)).trans (cell_of_block (heap_alloc_new w _) 0)
  have hc1 : ((w.alloc (.cells #[.slice aa la.length ac] 41)).alloc (.cells #[.slice ba lb.length bc] 41)).cell? ⟨w.heap.size + 1, 0, none⟩ = some (.slice ba lb.length bc) := by
    have := cell_of_block (heap_alloc_new (w.alloc (.cells #[.slice aa la.length ac] 41)) (.cells #[.slice ba lb.length bc] 41)) 0
    rw [World.size_alloc] at this; exact this
  have HW : Hid (Below w.heap.size w ((w.alloc (.cells #[.slice aa la.length ac] 41)).alloc (.cells #[.slice ba lb.length bc] 41))) := ((Below.refl _ _).alloc (Nat.le_refl _) _).alloc (by simp) _
  go_enter Try.func41, Try.ntmps41
  go_wp2_with fail
  refine (HC.out _ w.heap.size (w.heap.size + 1) HW.out hc0 hc1).mono ?_
  rintro e w2 ⟨sv, rfl, ho, hb2⟩
  have HP : Hid (w2.ownsRow w.heap.size 4 1 sv r.length (r.map Value.bool) ∧ Below w.heap.size w w2) := ⟨row_mono ho (by simp; omega), HW.out.trans (hb2.mono (by simp; omega))⟩
  clear ho hb2 HC hc0 hc1
  go_wp2
  go_ret
  exact ⟨sv, rfl, HP.out⟩
set_option maxHeartbeats 1000000 in
theorem twoOr_any (w : World) (tb : Nat) (ad : Option Addr) (n lc back : Nat) (pv : Value) (av bv : Value) (la lb : List Bool) (ht : TellerAt w tb (.slice ad n lc) back pv) (_hn1 : 1 ≤ n) (hn : n ≤ 1000000000) (_hb : back < n) (ha : BoolsAt w av la) (hla : la.length = n) (hbv : BoolsAt w bv lb) (hlb : lb.length = n) (t : Nat → Bool) :
    Calls Try.prog 41 #[.pointer (some ⟨tb, 0, none⟩), .int .i64 6, av, bv] w (TellsBools ((List.range n).map (semKind 6 t (fun i => la.getD i false) (fun i => lb.getD i false) n back)) w) := by
  rw [semK6]
  obtain ⟨aa, ac, rfl, hal⟩ := ha.slice
  obtain ⟨ba, bc, rfl, hbl⟩ := hbv.slice
  have hcall : ∀ (W : World) (sa sb : Nat), Below w.heap.size w W → W.cell? ⟨sa, 0, none⟩ = some (.slice aa la.length ac) → W.cell? ⟨sb, 0, none⟩ = some (.slice ba lb.length bc) →
      Calls Try.prog 36 #[.pointer (some ⟨tb, 0, none⟩), .func (.func 56) #[] #[.pointer (some ⟨sa, 0, none⟩), .pointer (some ⟨sb, 0, none⟩)]] W (TellsBools ((List.range n).map (fun i => (la.getD i false) || (lb.getD i false))) W) := by
    intro W sa sb hB hsa hsb
    have hfn : ∀ args W, (callFunc 56 args).run Try.prog W = .ok (.enter 56 args) W := fun args W => by go_simp
    exact each_any W tb ad n lc back pv (ht.below hB) hn 56 #[] _ _ hfn (fun i W' hi hW => (two2_any W' sa sb _ _ la lb ((hW.cell (p := ⟨sa, 0, none⟩) (World.block_lt_of_cell? _ _ hsa)).trans hsa) ((hW.cell (p := ⟨sb, 0, none⟩) (World.block_lt_of_cell? _ _ hsb)).trans hsb) ((ha.below hB).below hW) ((hbv.below hB).below hW) i (by omega) (by omega)).mono (fun _ _ h => ⟨h.1, h.2 ▸ Below.refl _ _⟩))
  obtain ⟨r, hr⟩ : ∃ r, r = (List.range n).map (fun i => (la.getD i false) || (lb.getD i false)) := ⟨_, rfl⟩
  rw [← hr] at hcall ⊢
  have HC := Lib.hid hcall
  clear hcall hr hla hlb
  have hc0 : ((w.alloc (.cells #[.slice aa la.length ac] 41)).alloc (.cells #[.slice ba lb.length bc] 41)).cell? ⟨w.heap.size, 0, none⟩ = some (.slice aa la.length ac) := (Below.cell ((Below.refl _ _).alloc (Nat.le_refl _) _) (p := ⟨w.heap.size, 0, none⟩) (by simp)).trans (cell_of_block (heap_alloc_new w _) 0)
  have hc1 : ((w.alloc (.cells #[.slice aa la.length ac] 41)).alloc (.cells #[.slice ba lb.length bc] 41)).cell? ⟨w.heap.size + 1, 0, none⟩ = some (.slice ba lb.length bc) := by
    have := cell_of_block (heap_alloc_new (w.alloc (.cells #[.slice aa la.length ac] 41)) (.cells #[.slice ba lb.length bc] 41)) 0
    rw [World.size_alloc] at this; exact this
  have HW : Hid (Below w.heap.size w ((w.alloc (.cells #[.slice aa la.length ac] 41)).alloc (.cells #[.slice ba lb.length bc] 41))) := ((Below.refl _ _).alloc (Nat.le_refl _) _).alloc (by simp) _
  go_enter Try.func41, Try.ntmps41
  go_wp2_with fail
  refine (HC.out _ w.heap.size (w.heap.size + 1) HW.out hc0 hc1).mono ?_
  rintro e w2 ⟨sv, rfl, ho, hb2⟩
  have HP : Hid (w2.ownsRow w.heap.size 4 1 sv r.length (r.map Value.bool) ∧ Below w.heap.size w w2) := ⟨row_mono ho (by simp; omega), HW.out.trans (hb2.mono (by simp; omega))⟩
  clear ho hb2 HC hc0 hc1
  go_wp2
  go_ret
  exact ⟨sv, rfl, HP.out⟩
set_option maxHeartbeats 1000000 in
theorem twoUntil_any (w : World) (tb : Nat) (ad : Option Addr) (n lc back : Nat) (pv : Value) (av bv : Value) (la lb : List Bool) (ht : TellerAt w tb (.slice ad n lc) back pv) (hn1 : 1 ≤ n) (hn : n ≤ 1000000000) (hb : back < n) (ha : BoolsAt w av la) (hla : la.length = n) (hbv : BoolsAt w bv lb) (hlb : lb.length = n) (t : Nat → Bool) :
    Calls Try.prog 41 #[.pointer (some ⟨tb, 0, none⟩), .int .i64 9, av, bv] w (TellsBools ((List.range n).map (semKind 9 t (fun i => la.getD i false) (fun i => lb.getD i false) n back)) w) := by
  rw [semK9]
  obtain ⟨aa, ac, rfl, hal⟩ := ha.slice
  obtain ⟨ba, bc, rfl, hbl⟩ := hbv.slice
  have hcall : ∀ (W : World) (sa sb : Nat), Below w.heap.size w W → W.cell? ⟨sa, 0, none⟩ = some (.slice aa la.length ac) → W.cell? ⟨sb, 0, none⟩ = some (.slice ba lb.length bc) →
      Calls Try.prog 51 #[.pointer (some ⟨tb, 0, none⟩), .bool false, .func (.func 57) #[] #[.pointer (some ⟨sb, 0, none⟩), .pointer (some ⟨sa, 0, none⟩)]] W (TellsBools ((List.range n).map (semU n back (fun i => lb.getD i false) (fun i => la.getD i false))) W) := by
    intro W sa sb hB hsa hsb
    have hfn : ∀ args W, (callFunc 57 args).run Try.prog W = .ok (.enter 57 args) W := fun args W => by go_simp
    have hc2 : ∀ i x W', i < n → Below W.heap.size W W' → Calls Try.prog 57 (#[] ++ (#[.int .i64 (i : Nat), .bool x] ++ #[.pointer (some ⟨sb, 0, none⟩), .pointer (some ⟨sa, 0, none⟩)])) W' fun e W'' => e = .returned (.bool (lb.getD i false || (la.getD i false && x))) ∧ Below W'.heap.size W' W'' := by
      intro i x W' hi hW
      have h1 := (two3_any W' sa sb _ _ la lb ((hW.cell (p := ⟨sa, 0, none⟩) (World.block_lt_of_cell? _ _ hsa)).trans hsa) ((hW.cell (p := ⟨sb, 0, none⟩) (World.block_lt_of_cell? _ _ hsb)).trans hsb) ((ha.below hB).below hW) ((hbv.below hB).below hW) i (by omega) (by omega) x).mono (R' := fun e W'' => e = .returned (.bool (lb.getD i false || (la.getD i false && x))) ∧ Below W'.heap.size W' W'') (fun _ _ h => ⟨h.1, h.2 ▸ Below.refl _ _⟩)
      exact h1
    have hL := lasts_any W tb ad n lc back pv (ht.below hB) hn1 hn hb false 57 #[] _ (fun i x => lb.getD i false || (la.getD i false && x)) hfn hc2
    exact hL.mono (fun _ _ h => h.bools (fun l hl i hi => least_eq hb (fun i => lb.getD i false) (fun i => la.getD i false) l hl i hi))
  obtain ⟨r, hr⟩ : ∃ r, r = (List.range n).map (semU n back (fun i => lb.getD i false) (fun i => la.getD i false)) := ⟨_, rfl⟩
  rw [← hr] at hcall ⊢
  have HC := Lib.hid hcall
  clear hcall hr hla hlb
  have hc0 : ((w.alloc (.cells #[.slice aa la.length ac] 41)).alloc (.cells #[.slice ba lb.length bc] 41)).cell? ⟨w.heap.size, 0, none⟩ = some (.slice aa la.length ac) := (Below.cell ((Below.refl _ _).alloc (Nat.le_refl _) _) (p := ⟨w.heap.size, 0, none⟩) (by simp)).trans (cell_of_block (heap_alloc_new w _) 0)
  have hc1 : ((w.alloc (.cells #[.slice aa la.length ac] 41)).alloc (.cells #[.slice ba lb.length bc] 41)).cell? ⟨w.heap.size + 1, 0, none⟩ = some (.slice ba lb.length bc) := by
    have := cell_of_block (heap_alloc_new (w.alloc (.cells #[.slice aa la.length ac] 41)) (.cells #[.slice ba lb.length bc] 41)) 0
    rw [World.size_alloc] at this; exact this
  have HW : Hid (Below w.heap.size w ((w.alloc (.cells #[.slice aa la.length ac] 41)).alloc (.cells #[.slice ba lb.length bc] 41))) := ((Below.refl _ _).alloc (Nat.le_refl _) _).alloc (by simp) _
  go_enter Try.func41, Try.ntmps41
  go_wp2_with fail
  refine (HC.out _ w.heap.size (w.heap.size + 1) HW.out hc0 hc1).mono ?_
  rintro e w2 ⟨sv, rfl, ho, hb2⟩
  have HP : Hid (w2.ownsRow w.heap.size 4 1 sv r.length (r.map Value.bool) ∧ Below w.heap.size w w2) := ⟨row_mono ho (by simp; omega), HW.out.trans (hb2.mono (by simp; omega))⟩
  clear ho hb2 HC hc0 hc1
  go_wp2
  go_ret
  exact ⟨sv, rfl, HP.out⟩
set_option maxHeartbeats 1000000 in
theorem twoRelease_any (w : World) (tb : Nat) (ad : Option Addr) (n lc back : Nat) (pv : Value) (av bv : Value) (la lb : List Bool) (ht : TellerAt w tb (.slice ad n lc) back pv) (hn1 : 1 ≤ n) (hn : n ≤ 1000000000) (hb : back < n) (ha : BoolsAt w av la) (hla : la.length = n) (hbv : BoolsAt w bv lb) (hlb : lb.length = n) (t : Nat → Bool) :
    Calls Try.prog 41 #[.pointer (some ⟨tb, 0, none⟩), .int .i64 10, av, bv] w (TellsBools ((List.range n).map (semKind 10 t (fun i => la.getD i false) (fun i => lb.getD i false) n back)) w) := by
  rw [semK10]
  obtain ⟨aa, ac, rfl, hal⟩ := ha.slice
  obtain ⟨ba, bc, rfl, hbl⟩ := hbv.slice
  have hcall : ∀ (W : World) (sa sb : Nat), Below w.heap.size w W → W.cell? ⟨sa, 0, none⟩ = some (.slice aa la.length ac) → W.cell? ⟨sb, 0, none⟩ = some (.slice ba lb.length bc) →
      Calls Try.prog 51 #[.pointer (some ⟨tb, 0, none⟩), .bool true, .func (.func 58) #[] #[.pointer (some ⟨sb, 0, none⟩), .pointer (some ⟨sa, 0, none⟩)]] W (TellsBools ((List.range n).map (fun i => !semU n back (fun i => !lb.getD i false) (fun i => !la.getD i false) i)) W) := by
    intro W sa sb hB hsa hsb
    have hfn : ∀ args W, (callFunc 58 args).run Try.prog W = .ok (.enter 58 args) W := fun args W => by go_simp
    have hc2 : ∀ i x W', i < n → Below W.heap.size W W' → Calls Try.prog 58 (#[] ++ (#[.int .i64 (i : Nat), .bool x] ++ #[.pointer (some ⟨sb, 0, none⟩), .pointer (some ⟨sa, 0, none⟩)])) W' fun e W'' => e = .returned (.bool (lb.getD i false && (la.getD i false || x))) ∧ Below W'.heap.size W' W'' := by
      intro i x W' hi hW
      have h1 := (two4_any W' sa sb _ _ la lb ((hW.cell (p := ⟨sa, 0, none⟩) (World.block_lt_of_cell? _ _ hsa)).trans hsa) ((hW.cell (p := ⟨sb, 0, none⟩) (World.block_lt_of_cell? _ _ hsb)).trans hsb) ((ha.below hB).below hW) ((hbv.below hB).below hW) i (by omega) (by omega) x).mono (R' := fun e W'' => e = .returned (.bool (lb.getD i false && (la.getD i false || x))) ∧ Below W'.heap.size W' W'') (fun _ _ h => ⟨h.1, h.2 ▸ Below.refl _ _⟩)
      exact h1
    have hL := lasts_any W tb ad n lc back pv (ht.below hB) hn1 hn hb true 58 #[] _ (fun i x => lb.getD i false && (la.getD i false || x)) hfn hc2
    exact hL.mono (fun _ _ h => h.bools (fun l hl i hi => most_eq hb (fun i => lb.getD i false) (fun i => la.getD i false) l hl i hi))
  obtain ⟨r, hr⟩ : ∃ r, r = (List.range n).map (fun i => !semU n back (fun i => !lb.getD i false) (fun i => !la.getD i false) i) := ⟨_, rfl⟩
  rw [← hr] at hcall ⊢
  have HC := Lib.hid hcall
  clear hcall hr hla hlb
  have hc0 : ((w.alloc (.cells #[.slice aa la.length ac] 41)).alloc (.cells #[.slice ba lb.length bc] 41)).cell? ⟨w.heap.size, 0, none⟩ = some (.slice aa la.length ac) := (Below.cell ((Below.refl _ _).alloc (Nat.le_refl _) _) (p := ⟨w.heap.size, 0, none⟩) (by simp)).trans (cell_of_block (heap_alloc_new w _) 0)
  have hc1 : ((w.alloc (.cells #[.slice aa la.length ac] 41)).alloc (.cells #[.slice ba lb.length bc] 41)).cell? ⟨w.heap.size + 1, 0, none⟩ = some (.slice ba lb.length bc) := by
    have := cell_of_block (heap_alloc_new (w.alloc (.cells #[.slice aa la.length ac] 41)) (.cells #[.slice ba lb.length bc] 41)) 0
    rw [World.size_alloc] at this; exact this
  have HW : Hid (Below w.heap.size w ((w.alloc (.cells #[.slice aa la.length ac] 41)).alloc (.cells #[.slice ba lb.length bc] 41))) := ((Below.refl _ _).alloc (Nat.le_refl _) _).alloc (by simp) _
  go_enter Try.func41, Try.ntmps41
  go_wp2_with fail
  refine (HC.out _ w.heap.size (w.heap.size + 1) HW.out hc0 hc1).mono ?_
  rintro e w2 ⟨sv, rfl, ho, hb2⟩
  have HP : Hid (w2.ownsRow w.heap.size 4 1 sv r.length (r.map Value.bool) ∧ Below w.heap.size w w2) := ⟨row_mono ho (by simp; omega), HW.out.trans (hb2.mono (by simp; omega))⟩
  clear ho hb2 HC hc0 hc1
  go_wp2
  go_ret
  exact ⟨sv, rfl, HP.out⟩
set_option maxHeartbeats 1000000 in
theorem twoImply_any (w : World) (tb : Nat) (ad : Option Addr) (n lc back : Nat) (pv : Value) (av bv : Value) (la lb : List Bool) (ht : TellerAt w tb (.slice ad n lc) back pv) (_hn1 : 1 ≤ n) (hn : n ≤ 1000000000) (_hb : back < n) (ha : BoolsAt w av la) (hla : la.length = n) (hbv : BoolsAt w bv lb) (hlb : lb.length = n) (t : Nat → Bool) :
    Calls Try.prog 41 #[.pointer (some ⟨tb, 0, none⟩), .int .i64 7, av, bv] w (TellsBools ((List.range n).map (semKind 7 t (fun i => la.getD i false) (fun i => lb.getD i false) n back)) w) := by
  rw [semK7]
  obtain ⟨aa, ac, rfl, hal⟩ := ha.slice
  obtain ⟨ba, bc, rfl, hbl⟩ := hbv.slice
  have hcall : ∀ (W : World) (sa sb : Nat), Below w.heap.size w W → W.cell? ⟨sa, 0, none⟩ = some (.slice aa la.length ac) → W.cell? ⟨sb, 0, none⟩ = some (.slice ba lb.length bc) →
      Calls Try.prog 36 #[.pointer (some ⟨tb, 0, none⟩), .func (.func 59) #[] #[.pointer (some ⟨sa, 0, none⟩), .pointer (some ⟨sb, 0, none⟩)]] W (TellsBools ((List.range n).map (fun i => !(la.getD i false) || (lb.getD i false))) W) := by
    intro W sa sb hB hsa hsb
    have hfn : ∀ args W, (callFunc 59 args).run Try.prog W = .ok (.enter 59 args) W := fun args W => by go_simp
    exact each_any W tb ad n lc back pv (ht.below hB) hn 59 #[] _ _ hfn (fun i W' hi hW => (two5_any W' sa sb _ _ la lb ((hW.cell (p := ⟨sa, 0, none⟩) (World.block_lt_of_cell? _ _ hsa)).trans hsa) ((hW.cell (p := ⟨sb, 0, none⟩) (World.block_lt_of_cell? _ _ hsb)).trans hsb) ((ha.below hB).below hW) ((hbv.below hB).below hW) i (by omega) (by omega)).mono (fun _ _ h => ⟨h.1, h.2 ▸ Below.refl _ _⟩))
  obtain ⟨r, hr⟩ : ∃ r, r = (List.range n).map (fun i => !(la.getD i false) || (lb.getD i false)) := ⟨_, rfl⟩
  rw [← hr] at hcall ⊢
  have HC := Lib.hid hcall
  clear hcall hr hla hlb
  have hc0 : ((w.alloc (.cells #[.slice aa la.length ac] 41)).alloc (.cells #[.slice ba lb.length bc] 41)).cell? ⟨w.heap.size, 0, none⟩ = some (.slice aa la.length ac) := (Below.cell ((Below.refl _ _).alloc (Nat.le_refl _) _) (p := ⟨w.heap.size, 0, none⟩) (by simp)).trans (cell_of_block (heap_alloc_new w _) 0)
  have hc1 : ((w.alloc (.cells #[.slice aa la.length ac] 41)).alloc (.cells #[.slice ba lb.length bc] 41)).cell? ⟨w.heap.size + 1, 0, none⟩ = some (.slice ba lb.length bc) := by
    have := cell_of_block (heap_alloc_new (w.alloc (.cells #[.slice aa la.length ac] 41)) (.cells #[.slice ba lb.length bc] 41)) 0
    rw [World.size_alloc] at this; exact this
  have HW : Hid (Below w.heap.size w ((w.alloc (.cells #[.slice aa la.length ac] 41)).alloc (.cells #[.slice ba lb.length bc] 41))) := ((Below.refl _ _).alloc (Nat.le_refl _) _).alloc (by simp) _
  go_enter Try.func41, Try.ntmps41
  go_wp2_with fail
  refine (HC.out _ w.heap.size (w.heap.size + 1) HW.out hc0 hc1).mono ?_
  rintro e w2 ⟨sv, rfl, ho, hb2⟩
  have HP : Hid (w2.ownsRow w.heap.size 4 1 sv r.length (r.map Value.bool) ∧ Below w.heap.size w w2) := ⟨row_mono ho (by simp; omega), HW.out.trans (hb2.mono (by simp; omega))⟩
  clear ho hb2 HC hc0 hc1
  go_wp2
  go_ret
  exact ⟨sv, rfl, HP.out⟩
end Go.Proofs.Ytidnpdkibndpkaa
