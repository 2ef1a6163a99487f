/- A lasso is told of any graph, just if there is one, and which ones are is what the document says: the walk. -/
import Derived.Test.YtoojalcfojflhaaTold
import Derived.Test.YtoojalcfojflhaaAwakeL
import Derived.Test.YtoojalcfojflhaaOpenG
namespace Go.Proofs.Ytoojalcfojflhaa
open Go.RowKit

set_option maxRecDepth 100000 in
set_option maxHeartbeats 4000000 in
theorem lassoAnyL_any (w : World) (g : GraphD) (ev iv : Value) (h : GraphAt w g ev iv) (hfit : g.fits) (l : LassoD) (nv fv : Value) (hl : LassoAt w l nv fv) :
    Calls Try.prog 3 #[graphV g ev iv, lassoV l nv fv] w fun e w' => e = .returned (.bool true) ∧ Below w.heap.size w w' := by
  obtain ⟨ea, ec, rfl, hel⟩ := h.edges.slice
  obtain ⟨ia, ic, rfl, hil⟩ := h.initial.slice
  obtain ⟨na, nc, rfl, hnl⟩ := hl.nodes.slice
  obtain ⟨fa, fc, rfl, hfl⟩ := hl.edges.slice
  obtain ⟨n, hn⟩ : ∃ n, n = g.edges.length := ⟨_, rfl⟩
  obtain ⟨k, hk⟩ : ∃ i, i = g.initial.length := ⟨_, rfl⟩
  obtain ⟨gm, hgm⟩ : ∃ m, m = g.marks := ⟨_, rfl⟩
  obtain ⟨nl, hnn⟩ : ∃ nn, nn = l.nodes.length := ⟨_, rfl⟩
  obtain ⟨fl, hfn⟩ : ∃ fn, fn = l.edges.length := ⟨_, rfl⟩
  obtain ⟨bk, hbk⟩ : ∃ bk, bk = l.back := ⟨_, rfl⟩
  have hgv : graphV g (.slice ea g.edges.length ec) (.slice ia g.initial.length ic) = .agg #[.slice ea n ec, .slice ia k ic, .int .i64 gm] := by unfold graphV; rw [hn, hk, hgm]
  have hlv : lassoV l (.slice na l.nodes.length nc) (.slice fa l.edges.length fc) = .agg #[.slice na nl nc, .slice fa fl fc, .int .i64 bk] := by unfold lassoV; rw [hnn, hfn, hbk]
  have h1 := fun x (hx : Below w.heap.size w x) => told_any x g _ _ (h.below hx) (fun y hy => findAll_any y g _ _ ((h.below hx).below hy) hfit)
  obtain ⟨r, hr⟩ : ∃ r, r = acceptOk g l := ⟨_, rfl⟩
  have h2 := fun x (hx : Below w.heap.size w x) => lassoAccept_any x g _ _ (h.below hx) l _ _ (hl.below hx)
  have h3 := fun x (hx : Below w.heap.size w x) => refAccept_any x g _ _ (h.below hx) l _ _ (hl.below hx)
  rw [hgv] at h1
  rw [hgv, hlv, ← hr] at h2 h3
  rw [hgv, hlv]
  have H1 := Lib.hid h1
  have H2 := Lib.hid h2
  have H3 := Lib.hid h3
  have hE := h.edges
  rw [← hn] at hE hel
  rw [← hk] at hil
  rw [← hnn] at hnl
  rw [← hfn] at hfl
  have HE := Lib.hid hE
  have HN := Lib.hid hn
  clear h1 h2 h3 hgv hlv hr hE hn hk hgm hnn hfn hbk h hl hfit
  have HB := Lib.hid (boxes_below w (.cells #[.slice ea n ec, .slice ia k ic, .int .i64 gm] 25) (.cells #[.slice na nl nc, .slice fa fl fc, .int .i64 bk] 27))
  have HG := Lib.hid (boxes_first w (.cells #[.slice ea n ec, .slice ia k ic, .int .i64 gm] 25) (.cells #[.slice na nl nc, .slice fa fl fc, .int .i64 bk] 27))
  have HL := Lib.hid (boxes_second w (.cells #[.slice ea n ec, .slice ia k ic, .int .i64 gm] 25) (.cells #[.slice na nl nc, .slice fa fl fc, .int .i64 bk] 27))
  go_enter Try.func3, Try.ntmps3
  go_upto_region 1 with fail
  generalize World.alloc (World.alloc w _) _ = W at HB HG HL ⊢
  obtain ⟨gx, hgx⟩ : ∃ gx, gx = w.heap.size := ⟨_, rfl⟩
  rw [← hgx] at HG HL ⊢
  have HGX := Lib.hid hgx
  clear hgx
  have HC : Hid (∀ x, Below W.heap.size W x → x.cell? ⟨gx, 0, none⟩ = some (.slice ea n ec) ∧ x.cell? ⟨gx, 1, none⟩ = some (.slice ia k ic) ∧ x.cell? ⟨gx, 2, none⟩ = some (.int .i64 gm) ∧ x.cell? ⟨gx + 1, 0, none⟩ = some (.slice na nl nc) ∧ x.cell? ⟨gx + 1, 1, none⟩ = some (.slice fa fl fc) ∧ x.cell? ⟨gx + 1, 2, none⟩ = some (.int .i64 bk)) := fun x hx =>
    ⟨cells_kept hx _ _ (cell_of_block HG.out 0), cells_kept hx _ _ (cell_of_block HG.out 1), cells_kept hx _ _ (cell_of_block HG.out 2), cells_kept hx _ _ (cell_of_block HL.out 0), cells_kept hx _ _ (cell_of_block HL.out 1), cells_kept hx _ _ (cell_of_block HL.out 2)⟩
  obtain ⟨c0, c1, c2, c3, c4, c5⟩ := HC.out W (Below.refl _ _)
  by_cases a1 : (10 : Int) < (n : Int)
  · go_wp2_with fail
    refine (awakeL_any W).mono ?_
    rintro e w2 ⟨rfl, hb⟩
    have HB2 := Lib.hid hb
    clear hb
    go_wp2_with fail
    go_ret
    exact ⟨by first | rfl | simp, below_then HB.out HB2.out⟩
  · by_cases a2 : (30 : Int) < (k : Int)
    · go_wp2_with fail
      refine (awakeL_any W).mono ?_
      rintro e w2 ⟨rfl, hb⟩
      have HB2 := Lib.hid hb
      clear hb
      go_wp2_with fail
      go_ret
      exact ⟨by first | rfl | simp, below_then HB.out HB2.out⟩
    · by_cases a3 : (100 : Int) < (nl : Int)
      · go_wp2_with fail
        refine (awakeL_any W).mono ?_
        rintro e w2 ⟨rfl, hb⟩
        have HB2 := Lib.hid hb
        clear hb
        go_wp2_with fail
        go_ret
        exact ⟨by first | rfl | simp, below_then HB.out HB2.out⟩
      · go_wp2_with fail
        go_loopg [5] n (fun gg s5 wr => ∃ i : Nat, i ≤ n ∧ Hid (gg = n - i) ∧ s5 = .int .i64 i ∧ wr = W)
        case atStart => exact ⟨0, Nat.zero_le _, rfl, rfl, rfl⟩
        case round =>
          obtain ⟨i, hi, HGG, rfl, hwr⟩ := hrel
          obtain rfl : W = wr := hwr.symm
          by_cases hlt : i < n
          · have hltI : (i : Int) < (n : Int) := by omega
            obtain ⟨-, eb, eo, ka, kc, rfl, heb, hec, -⟩ := (HE.out.below HB.out).part i (by rw [← HN.out]; exact hlt)
            obtain ⟨ln, hln⟩ : ∃ ln, ln = (g.edges.getD i []).length := ⟨_, rfl⟩
            rw [← hln] at hec
            clear hln heb
            by_cases a4 : (30 : Int) < (ln : Int)
            · go_wp2_with fail
              refine (awakeL_any W).mono ?_
              rintro e w2 ⟨rfl, hb⟩
              have HB2 := Lib.hid hb
              clear hb
              go_wp2_with fail
              go_ret
              exact ⟨by first | rfl | simp, below_then HB.out HB2.out⟩
            · go_wp2_with fail
              go_roundg (n - (i + 1))
              case measure => rw [HGG.out]; omega
              case rel => exact ⟨i + 1, by omega, rfl, by simp, rfl⟩
          · go_upto_region 8 with fail
            clear c0 c1 c2 c3 c4 c5
            refine wp_region_noPanic ?_
            refine wp_region_held_drew (S := fun x => Below W.heap.size W x) (by kernel_rfl) (Below.refl _ _).drew (fun hH => ?_)
            refine wpAnyH_ready (rs := [0]) (by kernel_rfl) (by simp) ?_
            refine AllReadyH.cons rfl (fun K hK => ?_) AllReadyH.nil
            go_simp
            refine (awakeL_any _).mono ?_
            rintro e yw0 ⟨rfl, hb⟩
            have hHy0 : Below W.heap.size W yw0 := below_then hH hb
            refine hK.out _ _ hHy0 (fun _ => ?_)
            clear hK K hb hH
            refine wpAnyH_take (i := 1) (v := ?vy1) rfl (by kernel_rfl) (by kernel_rfl) (by kernel_rfl) (fun _ _ _ h => h) (Or.inl ⟨by rfl, ?hyy1⟩) (by assumption) ?_
            case hyy1 => (intro x' hxx; obtain ⟨e0, e1, e2, e3, e4, e5⟩ := HC.out x' hxx; go_simp; try with_reducible rfl)
            change wpAnyH _ _ _ _ _ _ _ (Act.put _ (some 39) _) _
            simp only [Act.put, List.setIfInBounds_toArray, List.set_cons_zero, List.set_cons_succ]
            refine wpAnyH_take (i := 2) (v := ?vy2) rfl (by kernel_rfl) (by kernel_rfl) (by kernel_rfl) (fun _ _ _ h => h) (Or.inl ⟨by rfl, ?hyy2⟩) (by assumption) ?_
            case hyy2 => (intro x' hxx; obtain ⟨e0, e1, e2, e3, e4, e5⟩ := HC.out x' hxx; go_simp; try with_reducible rfl)
            change wpAnyH _ _ _ _ _ _ _ (Act.put _ (some 40) _) _
            simp only [Act.put, List.setIfInBounds_toArray, List.set_cons_zero, List.set_cons_succ]
            refine wpAnyH_ready (rs := [3]) (by kernel_rfl) (by simp) ?_
            refine AllReadyH.cons rfl (fun K hK => ?_) AllReadyH.nil
            go_simp
            refine (H1.out yw0 (below_then HB.out hHy0)).mono ?_
            rintro e yw3 ⟨rfl, hb⟩
            have hHy3 : Below W.heap.size W yw3 := below_then hHy0 hb
            refine hK.out _ _ hHy3 (fun _ => ?_)
            clear hK K hb hHy0
            refine wpAnyH_take (i := 4) (v := ?vy3) rfl (by kernel_rfl) (by kernel_rfl) (by kernel_rfl) (fun _ _ _ h => h) (Or.inl ⟨by rfl, ?hyy3⟩) (by assumption) ?_
            case hyy3 => (intro x' hxx; obtain ⟨e0, e1, e2, e3, e4, e5⟩ := HC.out x' hxx; go_simp; try with_reducible rfl)
            change wpAnyH _ _ _ _ _ _ _ (Act.put _ (some 42) _) _
            simp only [Act.put, List.setIfInBounds_toArray, List.set_cons_zero, List.set_cons_succ]
            refine wpAnyH_take (i := 5) (v := ?vy4) rfl (by kernel_rfl) (by kernel_rfl) (by kernel_rfl) (fun _ _ _ h => h) (Or.inl ⟨by rfl, ?hyy4⟩) (by assumption) ?_
            case hyy4 => (intro x' hxx; obtain ⟨e0, e1, e2, e3, e4, e5⟩ := HC.out x' hxx; go_simp; try with_reducible rfl)
            change wpAnyH _ _ _ _ _ _ _ (Act.put _ (some 43) _) _
            simp only [Act.put, List.setIfInBounds_toArray, List.set_cons_zero, List.set_cons_succ]
            refine wpAnyH_take (i := 6) (v := ?vy5) rfl (by kernel_rfl) (by kernel_rfl) (by kernel_rfl) (fun _ _ _ h => h) (Or.inl ⟨by rfl, ?hyy5⟩) (by assumption) ?_
            case hyy5 => (intro x' hxx; obtain ⟨e0, e1, e2, e3, e4, e5⟩ := HC.out x' hxx; go_simp; try with_reducible rfl)
            change wpAnyH _ _ _ _ _ _ _ (Act.put _ (some 44) _) _
            simp only [Act.put, List.setIfInBounds_toArray, List.set_cons_zero, List.set_cons_succ]
            refine wpAnyH_take (i := 7) (v := ?vy6) rfl (by kernel_rfl) (by kernel_rfl) (by kernel_rfl) (fun _ _ _ h => h) (Or.inl ⟨by rfl, ?hyy6⟩) (by assumption) ?_
            case hyy6 => (intro x' hxx; obtain ⟨e0, e1, e2, e3, e4, e5⟩ := HC.out x' hxx; go_simp; try with_reducible rfl)
            change wpAnyH _ _ _ _ _ _ _ (Act.put _ (some 45) _) _
            simp only [Act.put, List.setIfInBounds_toArray, List.set_cons_zero, List.set_cons_succ]
            refine wpAnyH_take (i := 9) (v := ?vy7) rfl (by kernel_rfl) (by kernel_rfl) (by kernel_rfl) (fun _ _ _ h => h) (Or.inl ⟨by rfl, ?hyy7⟩) (by assumption) ?_
            case hyy7 => (intro x' hxx; obtain ⟨e0, e1, e2, e3, e4, e5⟩ := HC.out x' hxx; go_simp; try with_reducible rfl)
            change wpAnyH _ _ _ _ _ _ _ (Act.put _ (some 47) _) _
            simp only [Act.put, List.setIfInBounds_toArray, List.set_cons_zero, List.set_cons_succ]
            refine wpAnyH_take (i := 10) (v := ?vy8) rfl (by kernel_rfl) (by kernel_rfl) (by kernel_rfl) (fun _ _ _ h => h) (Or.inl ⟨by rfl, ?hyy8⟩) (by assumption) ?_
            case hyy8 => (intro x' hxx; obtain ⟨e0, e1, e2, e3, e4, e5⟩ := HC.out x' hxx; go_simp; try with_reducible rfl)
            change wpAnyH _ _ _ _ _ _ _ (Act.put _ (some 48) _) _
            simp only [Act.put, List.setIfInBounds_toArray, List.set_cons_zero, List.set_cons_succ]
            refine wpAnyH_ready (rs := [8]) (by kernel_rfl) (by simp) ?_
            refine AllReadyH.cons rfl (fun K hK => ?_) AllReadyH.nil
            go_simp
            refine (H2.out yw3 (below_then HB.out hHy3)).mono ?_
            rintro e yw8 ⟨rfl, hb⟩
            have hHy8 : Below W.heap.size W yw8 := below_then hHy3 hb
            refine hK.out _ _ hHy8 (fun _ => ?_)
            clear hK K hb hHy3
            refine wpAnyH_ready (rs := [11]) (by kernel_rfl) (by simp) ?_
            refine AllReadyH.cons rfl (fun K hK => ?_) AllReadyH.nil
            go_simp
            refine (H3.out yw8 (below_then HB.out hHy8)).mono ?_
            rintro e yw11 ⟨rfl, hb⟩
            have hrr : (r == r) = true := by simp
            have hHy11 : Below W.heap.size W yw11 := below_then hHy8 hb
            refine hK.out _ _ hHy11 (fun _ => ?_)
            clear hK K hb hHy8
            refine wpAnyH_take (i := 12) (v := ?vy9) rfl (by kernel_rfl) (by kernel_rfl) (by kernel_rfl) (fun _ _ _ h => h) (Or.inl ⟨by rfl, ?hyy9⟩) (by assumption) ?_
            case hyy9 => (intro x' hxx; obtain ⟨e0, e1, e2, e3, e4, e5⟩ := HC.out x' hxx; go_simp; try with_reducible rfl)
            change wpAnyH _ _ _ _ _ _ _ (Act.put _ (some 50) _) _
            simp only [Act.put, List.setIfInBounds_toArray, List.set_cons_zero, List.set_cons_succ]
            refine wpAnyH_take (i := 13) (v := ?vy10) rfl (by kernel_rfl) (by kernel_rfl) (by kernel_rfl) (fun _ _ _ h => h) (Or.inl ⟨by rfl, ?hyy10⟩) (by assumption) ?_
            case hyy10 => (intro x' hxx; obtain ⟨e0, e1, e2, e3, e4, e5⟩ := HC.out x' hxx; go_simp; try with_reducible rfl)
            change wpAnyH _ _ _ _ _ _ _ (Act.put _ (some 51) _) _
            simp only [Act.put, List.setIfInBounds_toArray, List.set_cons_zero, List.set_cons_succ]
            refine wpAnyH_take (i := 14) (v := ?vy11) rfl (by kernel_rfl) (by kernel_rfl) (by kernel_rfl) (fun _ _ _ h => h) (Or.inl ⟨by rfl, ?hyy11⟩) (by assumption) ?_
            case hyy11 => (intro x' hxx; obtain ⟨e0, e1, e2, e3, e4, e5⟩ := HC.out x' hxx; go_simp; try with_reducible rfl)
            change wpAnyH _ _ _ _ _ _ _ (Act.put _ (some 4) _) _
            simp only [Act.put, List.setIfInBounds_toArray, List.set_cons_zero, List.set_cons_succ]
            refine wpAnyH_done (by kernel_rfl) ?_ _
            refine NoPanic.normal ?_
            have hHx := hHy11
            go_wp2_with fail
            go_ret
            exact ⟨by first | rfl | simp, below_then HB.out hHx⟩
end Go.Proofs.Ytoojalcfojflhaa
