/- Is what is told of a graph what may be: the walk. -/
import Derived.Test.YtoojalcfojflhaaHas
import Derived.Test.YtoojalcfojflhaaFind
namespace Go.Proofs.Ytoojalcfojflhaa
open Go.RowKit

set_option maxRecDepth 100000 in
set_option maxHeartbeats 4000000 in
theorem empty_zero (w : World) : Calls Try.prog 16 #[.agg #[.slice none 0 0, .slice none 0 0, .int .i64 0]] w fun e w' => e = .returned (.bool true) ∧ Below w.heap.size w w' := by
  have HA := Lib.hid ((Below.refl w.heap.size w).alloc (Nat.le_refl _) (.cells #[.slice none 0 0, .slice none 0 0, .int .i64 0] 27))
  have HGB := Lib.hid (heap_alloc_new w (.cells #[.slice none 0 0, .slice none 0 0, .int .i64 0] 27))
  go_enter Try.func16, Try.ntmps16
  go_upto_region 1 with fail
  generalize World.alloc w _ = W at HA HGB ⊢
  obtain ⟨gx, hgx⟩ : ∃ gx, gx = w.heap.size := ⟨_, rfl⟩
  rw [← hgx] at HGB ⊢
  clear hgx
  have c0 := cell_of_block HGB.out 0
  have c1 := cell_of_block HGB.out 1
  have c2 := cell_of_block HGB.out 2
  simp only [List.getElem?_toArray, List.getElem?_cons_zero, List.getElem?_cons_succ] at c0 c1 c2
  go_wp2_with fail
  go_ret
  exact ⟨by first | rfl | simp, HA.out⟩
set_option maxRecDepth 100000 in
set_option maxHeartbeats 4000000 in
theorem told_any (w : World) (g : GraphD) (ev iv : Value) (h : GraphAt w g ev iv) (hF : ∀ x, Below w.heap.size w x → Calls Try.prog 13 #[graphV g ev iv] x (FindTold g x)) :
    Calls Try.prog 9 #[graphV g ev iv] w fun e w' => e = .returned (.bool true) ∧ Below w.heap.size w w' := by
  obtain ⟨ea, ec, rfl, hel⟩ := h.edges.slice
  obtain ⟨ia, ic, rfl, hil⟩ := h.initial.slice
  obtain ⟨n, hn⟩ : ∃ n, n = g.edges.length := ⟨_, rfl⟩
  obtain ⟨k, hk⟩ : ∃ i, i = g.initial.length := ⟨_, rfl⟩
  obtain ⟨gm, hgm⟩ : ∃ m, m = g.marks := ⟨_, rfl⟩
  have hgv : graphV g (.slice ea g.edges.length ec) (.slice ia g.initial.length ic) = .agg #[.slice ea n ec, .slice ia k ic, .int .i64 gm] := by unfold graphV; rw [hn, hk, hgm]
  have h1 := fun x (hx : Below w.heap.size w x) => refRight_any x g _ _ (h.below hx)
  have h2 := fun x (hx : Below w.heap.size w x) => lassoRight_any x g _ _ (h.below hx)
  have h3 := fun x (hx : Below w.heap.size w x) (hr : g.right = true) => has_any x g _ _ (h.below hx) hr
  have h4 := fun x (hx : Below w.heap.size w x) L nv fv (hL : LassoAt x L nv fv) => refAccept_any x g _ _ (h.below hx) L nv fv hL
  rw [hgv] at hF h1 h2 h3 h4 ⊢
  have HF := Lib.hid hF
  have H1 := Lib.hid h1
  have H2 := Lib.hid h2
  have H3 := Lib.hid h3
  have H4 := Lib.hid h4
  clear hF h1 h2 h3 h4 hgv hgm hn hk h
  have HA := Lib.hid ((Below.refl w.heap.size w).alloc (Nat.le_refl _) (.cells #[.slice ea n ec, .slice ia k ic, .int .i64 gm] 25))
  have HGB := Lib.hid (heap_alloc_new w (.cells #[.slice ea n ec, .slice ia k ic, .int .i64 gm] 25))
  go_enter Try.func9, Try.ntmps9
  go_upto_region 1 with fail
  generalize World.alloc w _ = W at HA HGB ⊢
  obtain ⟨gx, hgx⟩ : ∃ gx, gx = w.heap.size := ⟨_, rfl⟩
  rw [← hgx] at HGB ⊢
  have HGX := Lib.hid hgx
  clear hgx
  have hgl := lt_of_block HGB.out
  have HC : Hid (∀ x, Below W.heap.size W x → x.cell? ⟨gx, 0, none⟩ = some (.slice ea n ec) ∧ x.cell? ⟨gx, 1, none⟩ = some (.slice ia k ic) ∧ x.cell? ⟨gx, 2, none⟩ = some (.int .i64 gm)) := fun x hx => ⟨cells_kept hx _ _ (cell_of_block HGB.out 0), cells_kept hx _ _ (cell_of_block HGB.out 1), cells_kept hx _ _ (cell_of_block HGB.out 2)⟩
  obtain ⟨c0, c1, c2⟩ := HC.out W (Below.refl _ _)
  go_wp2_with fail
  refine (HF.out W HA.out).mono ?_
  clear c0 c1 c2
  have KEY : ∀ (X : World) (na fa : Option Addr) (nl nc fl fc : Nat) (bk : Int), Below W.heap.size W X → Hid (Below W.heap.size W (X.alloc (.cells #[.slice na nl nc, .slice fa fl fc, .int .i64 bk] 27))) ∧ Hid ((X.alloc (.cells #[.slice na nl nc, .slice fa fl fc, .int .i64 bk] 27)).heap[X.heap.size]? = some (.cells #[.slice na nl nc, .slice fa fl fc, .int .i64 bk] 27)) := fun X na fa nl nc fl fc bk hx => ⟨below_then hx ((Below.refl X.heap.size X).alloc (Nat.le_refl _) _), heap_alloc_new _ _⟩
  rintro e X ⟨hb, ⟨hr, rfl⟩ | ⟨hr, hno, rfl⟩ | ⟨hr, hyes, L, nv, fv, rfl, hL, hacc, -, -, -⟩⟩
  · obtain ⟨HB, HLB⟩ := KEY X none none 0 0 0 0 0 hb
    clear KEY
    have HR := Lib.hid hr
    clear hr hb
    go_upto_region 2 with fail
    generalize World.alloc X _ = Y at HB HLB ⊢
    obtain ⟨lx, hlx⟩ : ∃ lx, lx = X.heap.size := ⟨_, rfl⟩
    rw [← hlx] at HLB ⊢
    clear hlx
    have HD : Hid (∀ x, Below Y.heap.size Y x → x.cell? ⟨lx, 0, none⟩ = some (.slice none 0 0) ∧ x.cell? ⟨lx, 1, none⟩ = some (.slice none 0 0) ∧ x.cell? ⟨lx, 2, none⟩ = some (.int .i64 0)) := fun x hx => ⟨cells_kept hx _ _ (cell_of_block HLB.out 0), cells_kept hx _ _ (cell_of_block HLB.out 1), cells_kept hx _ _ (cell_of_block HLB.out 2)⟩
    obtain ⟨c0, c1, c2⟩ := HC.out Y HB.out
    go_wp2_with fail
    refine (H1.out Y (below_then HA.out HB.out)).mono ?_
    rw [HR.out]
    rintro e Y2 ⟨rfl, hb2⟩
    have HB2 := Lib.hid hb2
    clear c0 c1 c2 hb2
    obtain ⟨c0, c1, c2⟩ := HC.out Y2 (below_then HB.out HB2.out)
    obtain ⟨d0, d1, d2⟩ := HD.out Y2 HB2.out
    go_wp2_with fail
    refine (empty_zero Y2).mono ?_
    rintro e Y3 ⟨rfl, hb3⟩
    have HB3 := Lib.hid (below_then HB2.out hb3)
    clear c0 c1 c2 d0 d1 d2 hb3
    obtain ⟨c0, c1, c2⟩ := HC.out Y3 (below_then HB.out HB3.out)
    go_wp2_with fail
    refine (H2.out Y3 (below_then HA.out (below_then HB.out HB3.out))).mono ?_
    rw [HR.out]
    rintro e Y4 ⟨rfl, hb4⟩
    have HB4 := Lib.hid (below_then HB3.out hb4)
    clear c0 c1 c2 hb4
    go_wp2_with fail
    go_ret
    exact ⟨by first | rfl | simp, HA.out.trans ((below_then HB.out HB4.out).mono HA.out.size)⟩
  · obtain ⟨HB, HLB⟩ := KEY X none none 0 0 0 0 0 hb
    clear KEY
    have HR := Lib.hid hr
    have HNO := Lib.hid hno
    clear hr hb hno
    go_upto_region 2 with fail
    generalize World.alloc X _ = Y at HB HLB ⊢
    obtain ⟨lx, hlx⟩ : ∃ lx, lx = X.heap.size := ⟨_, rfl⟩
    rw [← hlx] at HLB ⊢
    clear hlx
    have HD : Hid (∀ x, Below Y.heap.size Y x → x.cell? ⟨lx, 0, none⟩ = some (.slice none 0 0) ∧ x.cell? ⟨lx, 1, none⟩ = some (.slice none 0 0) ∧ x.cell? ⟨lx, 2, none⟩ = some (.int .i64 0)) := fun x hx => ⟨cells_kept hx _ _ (cell_of_block HLB.out 0), cells_kept hx _ _ (cell_of_block HLB.out 1), cells_kept hx _ _ (cell_of_block HLB.out 2)⟩
    obtain ⟨c0, c1, c2⟩ := HC.out Y HB.out
    go_wp2_with fail
    refine (H1.out Y (below_then HA.out HB.out)).mono ?_
    rw [HR.out]
    rintro e Y2 ⟨rfl, hb2⟩
    have HB2 := Lib.hid hb2
    clear c0 c1 c2 hb2
    obtain ⟨c0, c1, c2⟩ := HC.out Y2 (below_then HB.out HB2.out)
    go_wp2_with fail
    refine (H2.out Y2 (below_then HA.out (below_then HB.out HB2.out))).mono ?_
    rw [HR.out]
    rintro e Y3 ⟨rfl, hb3⟩
    have HB3 := Lib.hid (below_then HB2.out hb3)
    clear c0 c1 c2 hb3
    obtain ⟨c0, c1, c2⟩ := HC.out Y3 (below_then HB.out HB3.out)
    go_wp2_with fail
    refine (H3.out Y3 (below_then HA.out (below_then HB.out HB3.out)) HR.out).mono ?_
    rintro e Y4 ⟨⟨b, rfl, hbb⟩, hb4⟩
    have hbf : b = false := by
      cases b with
      | false => rfl
      | true => exact absurd (hbb.1 rfl) HNO.out
    subst hbf
    have HB4 := Lib.hid (below_then HB3.out hb4)
    clear c0 c1 c2 hb4 hbb
    obtain ⟨d0, d1, d2⟩ := HD.out Y4 HB4.out
    go_wp2_with fail
    refine (empty_zero Y4).mono ?_
    rintro e Y5 ⟨rfl, hb5⟩
    have HB5 := Lib.hid (below_then HB4.out hb5)
    clear d0 d1 d2 hb5
    go_wp2_with fail
    go_ret
    exact ⟨by first | rfl | simp, HA.out.trans ((below_then HB.out HB5.out).mono HA.out.size)⟩
  · obtain ⟨na, nc, rfl, hnl⟩ := hL.nodes.slice
    obtain ⟨fa, fc, rfl, hfl⟩ := hL.edges.slice
    obtain ⟨nl, hnn⟩ : ∃ nn, nn = L.nodes.length := ⟨_, rfl⟩
    obtain ⟨fl, hfn⟩ : ∃ fn, fn = L.edges.length := ⟨_, rfl⟩
    obtain ⟨bk, hbk⟩ : ∃ bk, bk = L.back := ⟨_, rfl⟩
    obtain ⟨HB, HLB⟩ := KEY X na fa nl nc fl fc bk hb
    clear KEY
    have HR := Lib.hid hr
    have HYES := Lib.hid hyes
    have HL : Hid (∀ x, Below X.heap.size X x → Calls Try.prog 11 #[.agg #[.slice ea n ec, .slice ia k ic, .int .i64 gm], .agg #[.slice na nl nc, .slice fa fl fc, .int .i64 bk]] x fun e w' => e = .returned (.bool true) ∧ Below x.heap.size x w') := fun x hx => by
      have h := H4.out x (below_then HA.out (below_then hb hx)) L _ _ (hL.below hx)
      rw [hacc] at h
      unfold lassoV at h
      rw [← hnn, ← hfn, ← hbk] at h
      exact h
    unfold lassoV
    rw [← hnn, ← hfn, ← hbk]
    have HXY := Lib.hid ((Below.refl X.heap.size X).alloc (Nat.le_refl _) (.cells #[.slice na nl nc, .slice fa fl fc, .int .i64 bk] 27))
    clear hr hb hyes hL hnn hfn hbk hacc hnl hfl
    go_upto_region 2 with fail
    generalize World.alloc X _ = Y at HB HLB HXY ⊢
    obtain ⟨lx, hlx⟩ : ∃ lx, lx = X.heap.size := ⟨_, rfl⟩
    rw [← hlx] at HLB ⊢
    clear hlx
    have HD : Hid (∀ x, Below Y.heap.size Y x → x.cell? ⟨lx, 0, none⟩ = some (.slice na nl nc) ∧ x.cell? ⟨lx, 1, none⟩ = some (.slice fa fl fc) ∧ x.cell? ⟨lx, 2, none⟩ = some (.int .i64 bk)) := fun x hx => ⟨cells_kept hx _ _ (cell_of_block HLB.out 0), cells_kept hx _ _ (cell_of_block HLB.out 1), cells_kept hx _ _ (cell_of_block HLB.out 2)⟩
    obtain ⟨c0, c1, c2⟩ := HC.out Y HB.out
    go_wp2_with fail
    refine (H1.out Y (below_then HA.out HB.out)).mono ?_
    rw [HR.out]
    rintro e Y2 ⟨rfl, hb2⟩
    have HB2 := Lib.hid hb2
    clear c0 c1 c2 hb2
    obtain ⟨c0, c1, c2⟩ := HC.out Y2 (below_then HB.out HB2.out)
    go_wp2_with fail
    refine (H2.out Y2 (below_then HA.out (below_then HB.out HB2.out))).mono ?_
    rw [HR.out]
    rintro e Y3 ⟨rfl, hb3⟩
    have HB3 := Lib.hid (below_then HB2.out hb3)
    clear c0 c1 c2 hb3
    obtain ⟨c0, c1, c2⟩ := HC.out Y3 (below_then HB.out HB3.out)
    go_wp2_with fail
    refine (H3.out Y3 (below_then HA.out (below_then HB.out HB3.out)) HR.out).mono ?_
    rintro e Y4 ⟨⟨b, rfl, hbb⟩, hb4⟩
    have hbf : b = true := hbb.2 HYES.out
    subst hbf
    have HB4 := Lib.hid (below_then HB3.out hb4)
    clear c0 c1 c2 hb4 hbb
    obtain ⟨c0, c1, c2⟩ := HC.out Y4 (below_then HB.out HB4.out)
    obtain ⟨d0, d1, d2⟩ := HD.out Y4 HB4.out
    go_wp2_with fail
    refine (HL.out Y4 (below_then HXY.out HB4.out)).mono ?_
    rintro e Y5 ⟨rfl, hb5⟩
    have HB5 := Lib.hid (below_then HB4.out hb5)
    clear d0 d1 d2 hb5
    go_wp2_with fail
    go_ret
    exact ⟨by first | rfl | simp, HA.out.trans ((below_then HB.out HB5.out).mono HA.out.size)⟩
end Go.Proofs.Ytoojalcfojflhaa
