/- The kinds of formulas; a search by a function through formulas. -/
import Derived.Test.YtidnpdkibndpkaaForm
import Derived.Test.YtidnpdkibndpkaaIMap
namespace Go.Proofs.Ytidnpdkibndpkaa
open Go.RowKit

def fm (s : List UInt8) (n : Int) : Value := .agg #[.string ⟨s.toArray⟩, .int .i64 n]
def formsL : List (Int × Value) := [(1, fm [116, 114, 117, 101] 0), (2, fm [102, 97, 108, 115, 101] 0), (4, fm [110, 111, 116] 1), (5, fm [97, 110, 100] 2), (6, fm [111, 114] 2), (7, fm [105, 109, 112, 108, 121] 2), (8, fm [110, 101, 120, 116] 1), (9, fm [117, 110, 116, 105, 108] 2), (10, fm [114, 101, 108, 101, 97, 115, 101] 2), (11, fm [97, 108, 119, 97, 121, 115] 1), (12, fm [101, 118, 101, 114] 1)]
/-- A call that makes that map. -/
def TellsForms (w : World) (e : Ending) (w' : World) : Prop := ∃ b, e = .returned (.map (some b)) ∧ MapInts w' b formsL ∧ w.heap.size ≤ b ∧ Below w.heap.size w w'

set_option maxRecDepth 100000 in
set_option maxHeartbeats 1000000 in
theorem forms_any (w : World) : Calls Try.prog 32 #[] w (TellsForms w) := by
  have hmm := @run_makeMap Try.prog
  have h0 : MapInts (w.alloc (.map #[] 0)) w.heap.size [] := ⟨#[], 0, heap_alloc_new w _, rfl⟩
  have hB0 : Below w.heap.size w (w.alloc (.map #[] 0)) := (Below.refl _ _).alloc (Nat.le_refl _) _
  go_enter Try.func32, Try.ntmps32
  go_wp2_with (refine wpList_insert_ints _ rfl _ _ _ 63 rfl 3 78 .i64 Try.underlying63 Try.underlying3 w.heap.size _ rfl _ rfl _ rfl h0 ?_; clear h0; intro w1 h0 hs1 hz1; replace hB0 := hB0.trans (hs1.below hB0.size (fun k hk => by omega)); clear hs1 hz1)
  go_ret
  exact ⟨w.heap.size, rfl, h0, Nat.le_refl _, hB0⟩

theorem form_cells {w : World} {b o : Nat} {f : Form} {kv : Value} (h : ∀ i, i < 6 → w.cell? ⟨b, o + i, none⟩ = (formCells f kv)[i]?) :
    w.cell? ⟨b, o, none⟩ = some (.int .i64 f.kind) ∧ w.cell? ⟨b, o + 1, none⟩ = some (.int .i64 f.prop.kind) ∧ w.cell? ⟨b, o + 2, none⟩ = some (.int .i64 f.prop.thread) ∧
      w.cell? ⟨b, o + 3, none⟩ = some (.int .i64 f.prop.place) ∧ w.cell? ⟨b, o + 4, none⟩ = some (.int .i64 f.prop.num) ∧ w.cell? ⟨b, o + 5, none⟩ = some kv :=
  ⟨h 0 (by omega), h 1 (by omega), h 2 (by omega), h 3 (by omega), h 4 (by omega), h 5 (by omega)⟩

/-- A search through formulas by a function: I: what is so ahead of each one; H: what is so where it says yes. -/
theorem indexFuncF_any (R : Form → Value → Prop) (sv : Value) (l : List Form) (fn : FuncId) (first captured : Array Value) (I H : Nat → World → Prop)
    (hfn : ∀ args W, (callFunc fn args).run Try.prog W = .ok (.enter fn args) W) (hread : ∀ i W, I i W → FormsIn R W sv l)
    (hcall : ∀ i W kv, i < l.length → I i W → R (l.getD i default) kv → Calls Try.prog fn (first.push (formV (l.getD i default) kv) ++ captured) W fun e W' => ∃ r : Bool, e = .returned (.bool r) ∧ (r = true → H i W') ∧ (r = false → I (i + 1) W'))
    (w : World) (h0 : I 0 w) :
    Calls Try.prog 64 #[sv, .func (.func fn) first captured] w fun e w' =>
      (∃ i : Nat, i < l.length ∧ e = .returned (.int .i64 i) ∧ H i w') ∨ (e = .returned (.int .i64 (-1)) ∧ I l.length w') := by
  obtain ⟨a, cap, rfl, hn, -⟩ := hread 0 w h0
  have HI := Lib.hid h0
  clear h0
  go_enter Try.func64, Try.ntmps64
  go_wp2
  go_loopg [8] l.length (fun g s8 wr => ∃ i : Nat, i ≤ l.length ∧ Hid (g = l.length - i) ∧ s8 = .int .i64 i ∧ Hid (I i wr))
  case atStart => exact ⟨0, Nat.zero_le _, rfl, rfl, HI.out⟩
  case round =>
    obtain ⟨i, hi, HG, rfl, HR⟩ := hrel
    by_cases hlt : i < l.length
    · obtain ⟨a', cap', he, -, hc⟩ := hread i wr HR.out
      obtain ⟨b, off, kv, ha, hb, hcell, hr⟩ := hc i hlt
      cases he
      subst ha
      obtain ⟨c0, c1, c2, c3, c4, c5⟩ := form_cells hcell
      have hca := hcall i wr kv hlt HR.out hr
      obtain ⟨f, hf⟩ : ∃ f, f = l.getD i default := ⟨_, rfl⟩
      rw [← hf] at c0 c1 c2 c3 c4 hca
      unfold formV at hca
      have HC := Lib.hid hca
      clear hca hc hf hcell hcall
      go_wp2_with fail
      refine HC.out.mono ?_
      rintro e w2 ⟨r, rfl, hr1, hr2⟩
      cases r
      · have HN := Lib.hid (hr2 rfl)
        clear hr1 hr2 HC c0 c1 c2 c3 c4 c5
        go_wp2
        go_roundg (l.length - (i + 1))
        case measure => rw [HG.out]; omega
        case rel => exact ⟨i + 1, by omega, rfl, by go_num, HN.out⟩
      · have HN := Lib.hid (hr1 rfl)
        clear hr1 hr2 HC c0 c1 c2 c3 c4 c5
        go_wp2
        go_ret
        exact .inl ⟨i, hlt, rfl, HN.out⟩
    · have : i = l.length := by omega
      subst this
      clear hcall
      go_wp2
      go_ret
      exact .inr ⟨rfl, HR.out⟩
theorem containsFuncF_any (R : Form → Value → Prop) (sv : Value) (l : List Form) (fn : FuncId) (first captured : Array Value) (I H : Nat → World → Prop)
    (hfn : ∀ args W, (callFunc fn args).run Try.prog W = .ok (.enter fn args) W) (hread : ∀ i W, I i W → FormsIn R W sv l)
    (hcall : ∀ i W kv, i < l.length → I i W → R (l.getD i default) kv → Calls Try.prog fn (first.push (formV (l.getD i default) kv) ++ captured) W fun e W' => ∃ r : Bool, e = .returned (.bool r) ∧ (r = true → H i W') ∧ (r = false → I (i + 1) W'))
    (w : World) (h0 : I 0 w) :
    Calls Try.prog 47 #[sv, .func (.func fn) first captured] w fun e w' =>
      (∃ i : Nat, i < l.length ∧ e = .returned (.bool true) ∧ H i w') ∨ (e = .returned (.bool false) ∧ I l.length w') := by
  have hc := indexFuncF_any R sv l fn first captured I H hfn hread hcall w h0
  have HC := Lib.hid hc
  clear hc hread hcall h0 hfn
  go_enter Try.func47, Try.ntmps47
  go_wp2_with fail
  refine HC.out.mono ?_
  rintro e w2 (⟨i, hi, rfl, hh⟩ | ⟨rfl, hh⟩)
  · have HN := Lib.hid hh
    clear hh HC
    go_wp2
    go_ret
    exact .inl ⟨i, hi, rfl, HN.out⟩
  · have HN := Lib.hid hh
    clear hh HC
    go_wp2
    go_ret
    exact .inr ⟨rfl, HN.out⟩
end Go.Proofs.Ytidnpdkibndpkaa
