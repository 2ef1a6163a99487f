/- Where an atom is so: package word's teller. -/
import Derived.Test.YtidnpdkibndpkaaOfA
import Derived.Deep.RegionHeld3
namespace Go.Proofs.Ytidnpdkibndpkaa
open Go.RowKit

set_option maxRecDepth 100000 in
set_option maxHeartbeats 4000000 in
theorem ofAtomAll_any (w : World) (tb : Nat) (lv : Value) (ls : List (List Bool)) (back : Nat) (pv : Value) (ps : List PropD) (ha : Asked w tb lv ls back pv ps) (p1 p2 p3 p4 : Int) (ka : Option Addr) (kn kc : Nat) (kk : Nat) (hk : kk < ps.length) (hp : PlaceIs ps ⟨p1, p2, p3, p4⟩ kk) :
    Calls Try.prog 28 #[.pointer (some ⟨tb, 0, none⟩), .agg #[.int .i64 3, .int .i64 p1, .int .i64 p2, .int .i64 p3, .int .i64 p4, .slice ka kn kc]] w (TellsBools ((List.range ls.length).map (fun i => (ls.getD i []).getD kk false)) w) := by
  obtain ⟨la, lc, rfl, -⟩ := ha.letters.slice
  obtain ⟨pa, pc, rfl, -⟩ := ha.props
  have hB := boxes_below w (.cells #[.pointer (some ⟨tb, 0, none⟩)] 53) (.cells #[.int .i64 3, .int .i64 p1, .int .i64 p2, .int .i64 p3, .int .i64 p4, .slice ka kn kc] 26)
  have h1 := boxes_first w (.cells #[.pointer (some ⟨tb, 0, none⟩)] 53) (.cells #[.int .i64 3, .int .i64 p1, .int .i64 p2, .int .i64 p3, .int .i64 p4, .slice ka kn kc] 26)
  have h2 := boxes_second w (.cells #[.pointer (some ⟨tb, 0, none⟩)] 53) (.cells #[.int .i64 3, .int .i64 p1, .int .i64 p2, .int .i64 p3, .int .i64 p4, .slice ka kn kc] 26)
  have hfn : ∀ args W, (callFunc 39 args).run Try.prog W = .ok (.enter 39 args) W := fun args W => by go_simp
  have hcall : ∀ (W : World) (g : Nat), Below w.heap.size w W → W.cell? ⟨w.heap.size, 0, none⟩ = some (.pointer (some ⟨tb, 0, none⟩)) → W.cell? ⟨g, 0, none⟩ = some (.int .i64 kk) →
      Calls Try.prog 36 #[.pointer (some ⟨tb, 0, none⟩), .func (.func 39) #[] #[.pointer (some ⟨w.heap.size, 0, none⟩), .pointer (some ⟨g, 0, none⟩)]] W (TellsBools ((List.range ls.length).map (fun i => (ls.getD i []).getD kk false)) W) := by
    intro W g hW hc0 hcg
    have ha2 := ha.below hW
    refine each_any _ tb la ls.length lc back _ ha2.teller ha.short 39 #[] #[.pointer (some ⟨w.heap.size, 0, none⟩), .pointer (some ⟨g, 0, none⟩)] (fun i => (ls.getD i []).getD kk false) hfn (fun i W' hi hW' => ?_)
    have ha3 := ha2.below hW'
    exact ofAtom_any W' _ _ tb _ ls back _ kk ((hW'.cell (World.block_lt_of_cell? _ _ hc0)).trans hc0) ((hW'.cell (World.block_lt_of_cell? _ _ hcg)).trans hcg) ha3.teller ha3.letters i hi (by rw [ha.wide i hi]; exact hk)
  obtain ⟨r, hr⟩ : ∃ r, r = (List.range ls.length).map (fun i => (ls.getD i []).getD kk false) := ⟨_, rfl⟩
  rw [← hr] at hcall ⊢
  have hind : ∀ W, Below w.heap.size w W → Calls Try.prog 38 #[.slice pa ps.length pc, .agg #[.int .i64 p1, .int .i64 p2, .int .i64 p3, .int .i64 p4]] W fun e w' => e = .returned (.int .i64 kk) ∧ Below W.heap.size W w' :=
    fun W hW => index_any W _ ps (ha.props.below hW) ⟨p1, p2, p3, p4⟩ kk hp
  have ht := ha.teller.below hB
  have htb := lt_of_block ha.teller
  have c0 := cell_of_block h1 0
  have d0 := cell_of_block h2 0
  have d1 := cell_of_block h2 1
  have d2 := cell_of_block h2 2
  have d3 := cell_of_block h2 3
  have d4 := cell_of_block h2 4
  have t2 := cell_of_block ht 2
  simp only [List.getElem?_toArray, List.getElem?_cons_zero, List.getElem?_cons_succ] at c0 d0 d1 d2 d3 d4 t2
  have HC := Lib.hid hcall
  have HI := Lib.hid hind
  have HB := Lib.hid hB
  have hz := hB.size
  clear hcall hB h1 h2 hr hfn ha hind ht hp
  go_enter Try.func28, Try.ntmps28
  go_upto_region 6 with fail
  generalize hW : World.alloc _ _ = W at HB c0 d0 d1 d2 d3 d4 t2 ⊢
  have hws : w.heap.size + 2 = W.heap.size := by rw [← hW]; simp
  clear hW
  go_cut [5] (fun s5 w' => ∃ g : Nat, s5 = .pointer (some ⟨g, 0, none⟩) ∧ Below W.heap.size W w' ∧ w'.cell? ⟨g, 0, none⟩ = some (.int .i64 kk))
  case first =>
    have hid2 : Hid (∀ W', Below W.heap.size W W' → Below w.heap.size w W') := fun W' h => HB.out.trans (h.mono HB.out.size)
    have hal : ∀ o a v, W.cell? a = some v → (W.alloc o).cell? a = some v := fun o a v h => (Below.cell ((Below.refl _ _).alloc (Nat.le_refl _) o) (World.block_lt_of_cell? _ _ h)).trans h
    have a0 := fun o => hal o _ _ c0
    have a1 := fun o => hal o _ _ d1
    have a2 := fun o => hal o _ _ d2
    have a3 := fun o => hal o _ _ d3
    have a4 := fun o => hal o _ _ d4
    have a5 := fun o => hal o _ _ t2
    clear hal
    go_region_with (go_at_call 38; refine (HI.out _ (hid2.out _ (by first | exact (Below.refl _ _).drew | exact ((Below.refl _ _).alloc (Nat.le_refl _) _).drew | exact (Below.refl _ _) | exact ((Below.refl _ _).alloc (Nat.le_refl _) _)))).mono ?_; rintro e w5 ⟨rfl, hb5⟩; (try (have q1 : w5.cell? ⟨W.heap.size, 0, none⟩ = some (.int .i64 0) := (hb5.cell (p := ⟨W.heap.size, 0, none⟩) (by simp [World.drew])).trans (cell_of_block (heap_alloc_new W (.cells #[.int .i64 0] 3)) 0); have q2 : w5.frozen? ⟨W.heap.size, 0, none⟩ = false := (hb5.frozen (p := ⟨W.heap.size, 0, none⟩) (by simp [World.drew])).trans (free_of_block (heap_alloc_new W (.cells #[.int .i64 0] 3)) 0))))
    all_goals
      go_wp2_with fail
      go_meet
      case rel =>
        first
          | (have hbx : Below W.heap.size W w5 := (Below.refl _ _).drew.trans hb5; exact ⟨_, rfl, hbx.alloc hbx.size _, cell_of_block (heap_alloc_new w5 _) 0⟩)
          | exact ⟨_, rfl, ((((Below.refl _ _).alloc (Nat.le_refl _) _).drew.trans (hb5.mono (by simp [World.drew]))).setCell (Nat.le_refl _) _), cell_of_block (set_of_block ((hb5.block _ (by simp [World.drew])).trans (heap_alloc_new W (.cells #[.int .i64 0] 3))) 0 (.int .i64 kk)) 0⟩
  case rest =>
    obtain ⟨g, rfl, hB, hcg⟩ := hcut
    have hc0 : wc.cell? ⟨w.heap.size, 0, none⟩ = some (.pointer (some ⟨tb, 0, none⟩)) := (hB.cell (World.block_lt_of_cell? _ _ c0)).trans c0
    have HW : Hid (Below w.heap.size w wc) := HB.out.trans (hB.mono HB.out.size)
    clear c0 d0 d1 d2 d3 d4 t2 HI hB
    go_wp2_with fail
    refine (HC.out _ _ HW.out hc0 hcg).mono ?_
    rintro e w2 ⟨sv, rfl, ho, hb2⟩
    have HP : Hid (w2.ownsRow w.heap.size 4 1 sv r.length (r.map Value.bool) ∧ Below w.heap.size w w2) := ⟨row_mono ho HW.out.size, HW.out.trans (hb2.mono HW.out.size)⟩
    clear ho hb2 HC hc0 hcg
    go_wp2
    go_ret
    exact ⟨sv, rfl, HP.out⟩
end Go.Proofs.Ytidnpdkibndpkaa
