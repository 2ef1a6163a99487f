/- Where a formula without parts is so: package word's teller. -/
import Derived.Test.YtidnpdkibndpkaaOne
namespace Go.Proofs.Ytidnpdkibndpkaa
open Go.RowKit

theorem ofTrue_any (w : World) (sf : Nat) (h : w.cell? ⟨sf, 0, none⟩ = some (.int .i64 1)) (i : Nat) :
    Calls Try.prog 37 #[.int .i64 i, .pointer (some ⟨sf, 0, none⟩)] w fun e w' => e = .returned (.bool true) ∧ w = w' := by
  go_enter Try.func37, Try.ntmps37
  go_wp2
  go_ret
  exact ⟨rfl, rfl⟩
theorem ofFalse_any (w : World) (sf : Nat) (h : w.cell? ⟨sf, 0, none⟩ = some (.int .i64 2)) (i : Nat) :
    Calls Try.prog 37 #[.int .i64 i, .pointer (some ⟨sf, 0, none⟩)] w fun e w' => e = .returned (.bool false) ∧ w = w' := by
  go_enter Try.func37, Try.ntmps37
  go_wp2
  go_ret
  exact ⟨rfl, rfl⟩

set_option maxHeartbeats 1000000 in
theorem ofAtom_any (w : World) (st sk tb : Nat) (lv : Value) (ls : List (List Bool)) (back : Nat) (pv : Value) (kk : Nat) (hst : w.cell? ⟨st, 0, none⟩ = some (.pointer (some ⟨tb, 0, none⟩))) (hsk : w.cell? ⟨sk, 0, none⟩ = some (.int .i64 kk))
    (ht : TellerAt w tb lv back pv) (hl : LettersAt w lv ls) (i : Nat) (hi : i < ls.length) (hk : kk < (ls.getD i []).length) :
    Calls Try.prog 39 #[.int .i64 i, .pointer (some ⟨st, 0, none⟩), .pointer (some ⟨sk, 0, none⟩)] w fun e w' => e = .returned (.bool ((ls.getD i []).getD kk false)) ∧ Below w.heap.size w w' := by
  obtain ⟨la, lc, rfl, hn, hc⟩ := hl
  obtain ⟨b, off, kv, rfl, hb, hkv, hbo⟩ := hc i hi
  obtain ⟨b2, off2, cap2, rfl, hn2, hc2⟩ := hbo.get kk hk
  have c0 := cell_of_block ht 0
  simp only [List.getElem?_toArray, List.getElem?_cons_zero] at c0
  obtain ⟨x, hx⟩ : ∃ x, x = (ls.getD i []).getD kk false := ⟨_, rfl⟩
  obtain ⟨m, hm⟩ : ∃ m, m = (ls.getD i []).length := ⟨_, rfl⟩
  rw [← hx] at hc2 ⊢
  rw [← hm] at hkv hk hn2
  clear hx hm hc hbo ht
  go_enter Try.func39, Try.ntmps39
  go_wp2
  go_quiet (fail)
  go_wp2
  go_ret
  exact ⟨rfl, drewN_below (Below.refl _ _) _⟩

/-- What the teller is asked with. -/
structure Asked (w : World) (tb : Nat) (lv : Value) (ls : List (List Bool)) (back : Nat) (pv : Value) (ps : List PropD) : Prop where
  teller : TellerAt w tb lv back pv
  letters : LettersAt w lv ls
  props : PropsAt w pv ps
  long : 1 ≤ ls.length
  short : ls.length ≤ 1000000000
  back : back < ls.length
  wide : ∀ i, i < ls.length → (ls.getD i []).length = ps.length
theorem Asked.below {w w' : World} {tb : Nat} {lv : Value} {ls : List (List Bool)} {back : Nat} {pv : Value} {ps : List PropD} (h : Asked w tb lv ls back pv ps) (hb : Below w.heap.size w w') : Asked w' tb lv ls back pv ps :=
  ⟨h.teller.below hb, h.letters.below hb, h.props.below hb, h.long, h.short, h.back, h.wide⟩
/-- The two boxes that the teller lays first. -/
def boxT (tb : Nat) : Obj := .cells #[.pointer (some ⟨tb, 0, none⟩)] 53
def boxF (k : Int) (p : PropD) (kv : Value) : Obj := .cells #[.int .i64 k, .int .i64 p.kind, .int .i64 p.thread, .int .i64 p.place, .int .i64 p.num, kv] 26
theorem boxes_below (w : World) (o1 o2 : Obj) : Below w.heap.size w ((w.alloc o1).alloc o2) := ((Below.refl _ _).alloc (Nat.le_refl _) _).alloc (by simp) _
theorem boxes_first (w : World) (o1 o2 : Obj) : ((w.alloc o1).alloc o2).heap[w.heap.size]? = some o1 := (Below.heap_alloc _ _ _ (by simp)).trans (heap_alloc_new w _)
theorem boxes_second (w : World) (o1 o2 : Obj) : ((w.alloc o1).alloc o2).heap[w.heap.size + 1]? = some o2 := by
  have := heap_alloc_new (w.alloc o1) o2
  rw [World.size_alloc] at this; exact this

set_option maxHeartbeats 1000000 in
theorem ofConst_any (b : Bool) (w : World) (tb : Nat) (lv : Value) (ls : List (List Bool)) (back : Nat) (pv : Value) (ps : List PropD) (ha : Asked w tb lv ls back pv ps) (p1 p2 p3 p4 : Int) (ka : Option Addr) (kn kc : Nat) :
    Calls Try.prog 28 #[.pointer (some ⟨tb, 0, none⟩), .agg #[.int .i64 (if b then 1 else 2), .int .i64 p1, .int .i64 p2, .int .i64 p3, .int .i64 p4, .slice ka kn kc]] w (TellsBools ((List.range ls.length).map (fun _ => b)) w) := by
  obtain ⟨la, lc, rfl, -⟩ := ha.letters.slice
  have hB := boxes_below w (.cells #[.pointer (some ⟨tb, 0, none⟩)] 53) (.cells #[.int .i64 (if b then 1 else 2), .int .i64 p1, .int .i64 p2, .int .i64 p3, .int .i64 p4, .slice ka kn kc] 26)
  have h1 := boxes_first w (.cells #[.pointer (some ⟨tb, 0, none⟩)] 53) (.cells #[.int .i64 (if b then 1 else 2), .int .i64 p1, .int .i64 p2, .int .i64 p3, .int .i64 p4, .slice ka kn kc] 26)
  have h2 := boxes_second w (.cells #[.pointer (some ⟨tb, 0, none⟩)] 53) (.cells #[.int .i64 (if b then 1 else 2), .int .i64 p1, .int .i64 p2, .int .i64 p3, .int .i64 p4, .slice ka kn kc] 26)
  have hfn : ∀ args W, (callFunc 37 args).run Try.prog W = .ok (.enter 37 args) W := fun args W => by go_simp
  have hcall := each_any _ tb la ls.length lc back pv (ha.teller.below hB) ha.short 37 #[] #[.pointer (some ⟨w.heap.size + 1, 0, none⟩)] (fun _ => b) hfn (fun i W' hi hW => by
    have hc : W'.cell? ⟨w.heap.size + 1, 0, none⟩ = some (.int .i64 (if b then 1 else 2)) := (hW.cell (p := ⟨w.heap.size + 1, 0, none⟩) (by simp)).trans (cell_of_block h2 0)
    cases b
    · exact (ofFalse_any W' _ hc i).mono (fun _ _ h => ⟨h.1, h.2 ▸ Below.refl _ _⟩)
    · exact (ofTrue_any W' _ hc i).mono (fun _ _ h => ⟨h.1, h.2 ▸ Below.refl _ _⟩))
  obtain ⟨r, hr⟩ : ∃ r, r = (List.range ls.length).map (fun _ => b) := ⟨_, rfl⟩
  rw [← hr] at hcall ⊢
  have c0 := cell_of_block h1 0
  have c1 := cell_of_block h2 0
  simp only [List.getElem?_toArray, List.getElem?_cons_zero] at c0 c1
  have HC := Lib.hid hcall
  have HB := Lib.hid hB
  clear hcall hB h1 h2 hr hfn ha
  cases b
  all_goals
    simp only [if_true, if_false, Bool.false_eq_true] at c0 c1 HC HB ⊢
    go_enter Try.func28, Try.ntmps28
    go_wp2_with fail
    refine HC.out.mono ?_
    rintro e w2 ⟨sv, rfl, ho, hb2⟩
    have HP : Hid (w2.ownsRow w.heap.size 4 1 sv r.length (r.map Value.bool) ∧ Below w.heap.size w w2) := ⟨row_mono ho HB.out.size, HB.out.trans (hb2.mono HB.out.size)⟩
    clear ho hb2 HC c0 c1
    go_wp2
    go_ret
    exact ⟨sv, rfl, HP.out⟩
end Go.Proofs.Ytidnpdkibndpkaa
