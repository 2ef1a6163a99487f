/- The moves that may be: the program's answer: the walk. -/
import Derived.Test.YtliajkheeniljaaGreatDoorZfPFits
import Derived.Test.YtliajkheeniljaaGreatDoorZfPNext
import Derived.Test.YtliajkheeniljaaGreatDoorZfShort
set_option linter.all false
namespace Go.Proofs.YtliajkheeniljaaGreatDoor
open Go.RowKit
set_option maxRecDepth 100000
set_option maxHeartbeats 16000000
theorem away_no {w : World} {s : StateD} {sv mv : Value} (hs : StateAt w s sv mv) : Away (fun _ => False) w (fun y => StateAt y s sv mv) := fun _ hy => hs.below (hy.below (Nat.le_refl _) (fun _ h => h.elim))
theorem pmoves_any (w : World) (c : CodeD) (cv : Value) (d : Nat) (hc : RowsAt d w cv c.threads) (m : MachD) (s : StateD) (sv mv : Value) (hs : StateAt w s sv mv) (hb : ∀ j, j < s.threads.length → (s.threads.getD j default).buf.length ≤ 1000000) :
  Calls Tryz.prog 24 #[codeV c cv, machV m, stateV s sv mv] w (MovesEnd w (movesS c m s d)) := by
 obtain ⟨fo, hfo⟩ : ∃ fo, fo = fitsOk c m s := ⟨_, rfl⟩
 have hfits := fun W (hW : Below w.heap.size w W) => pfits_any W c cv d (SliceR.below (RowR.stays d) hc hW) m s sv mv (hs.below hW) hb
 rw [← hfo] at hfits
 have hnext := fun (hf : fo = true) W (hW : Below w.heap.size w W) => pnext_any W c cv d (SliceR.below (RowR.stays d) hc hW) m s sv mv (hs.below hW) hb (hfo.symm.trans hf) (fun _ => False) (fun _ h => h.elim) (away_no (hs.below hW))
 have hno : fo = false → movesS c m s d = [] := fun e => by unfold movesS; rw [if_neg (by rw [← hfo, e]; decide)]
 obtain ⟨R, hR⟩ : ∃ R, R = movesS c m s d := ⟨_, rfl⟩
 obtain ⟨NX, hNX⟩ : ∃ R, R = nextS c m s d := ⟨_, rfl⟩
 rw [← hR, ← hNX] at hnext
 rw [← hR] at hno ⊢
 clear hR hNX hfo
 obtain ⟨ca, cc, rfl, -⟩ := SliceR.slice hc
 obtain ⟨ta, tc0, rfl, -⟩ := SliceR.slice hs.threads
 obtain ⟨ma, mc0, rfl, -⟩ := SliceR.slice hs.mem
 unfold codeV machV stateV at hfits hnext ⊢
 clear hb hc hs
 generalize c.threads.length = cn at hfits hnext ⊢
 generalize s.threads.length = n at hfits hnext ⊢
 generalize s.mem.length = mn at hfits hnext ⊢
 generalize s.bad = bad at hfits hnext ⊢
 generalize c.vars = vars at hfits hnext ⊢
 generalize c.domain = dom at hfits hnext ⊢
 generalize m.model = mod at hfits hnext ⊢
 generalize m.bound = bnd at hfits hnext ⊢
 obtain ⟨hB, h1, h2, h3⟩ := boxes3_all w (.cells #[.int .i64 vars, .int .i64 dom, .slice ca cn cc] 24) (.cells #[.int .i64 mod, .int .i64 bnd] 26) (.cells #[.slice ta n tc0, .slice ma mn mc0, .bool bad] 30)
 have HB := qh hB
 have H1 := qh h1
 have H2 := qh h2
 have H3 := qh h3
 have HFITS := qh hfits
 have HNEXT := qh hnext
 have HNO := qh hno
 clear hB h1 h2 h3 hfits hnext hno
 go_enter Tryz.func24, Tryz.ntmps24
 go_upto_region 1 with fail
 generalize World.alloc (World.alloc (World.alloc w _) _) _ = W at HB H1 H2 H3 ⊢
 obtain ⟨gx, hgx⟩ : ∃ gx, gx = w.heap.size := ⟨_, rfl⟩
 rw [← hgx] at H1 H2 H3 ⊢
 clear hgx
 have HCC : Hid (∀ y, Below W.heap.size W y → y.cell? ⟨gx, 0, none⟩ = some (.int .i64 vars) ∧ y.cell? ⟨gx, 1, none⟩ = some (.int .i64 dom) ∧ y.cell? ⟨gx, 2, none⟩ = some (.slice ca cn cc) ∧
   y.cell? ⟨gx + 1, 0, none⟩ = some (.int .i64 mod) ∧ y.cell? ⟨gx + 1, 1, none⟩ = some (.int .i64 bnd) ∧ y.cell? ⟨gx + 2, 0, none⟩ = some (.slice ta n tc0) ∧ y.cell? ⟨gx + 2, 1, none⟩ = some (.slice ma mn mc0) ∧ y.cell? ⟨gx + 2, 2, none⟩ = some (.bool bad)) := fun y hx =>
  ⟨qck hx _ _ (qcb H1.out 0), qck hx _ _ (qcb H1.out 1), qck hx _ _ (qcb H1.out 2), qck hx _ _ (qcb H2.out 0), qck hx _ _ (qcb H2.out 1), qck hx _ _ (qcb H3.out 0), qck hx _ _ (qcb H3.out 1), qck hx _ _ (qcb H3.out 2)⟩
 obtain ⟨c0, c1, c2, c3, c4, c5, c6, c7⟩ := HCC.out W (Below.refl _ _)
 go_wp2_with fail
 refine (HFITS.out W HB.out).mono ?_
 rintro e W1 ⟨rfl, hb1⟩
 have HB1 := qh (HB.out.trans (hb1.mono HB.out.size))
 obtain ⟨d0, d1, d2, d3, d4, d5, d6, d7⟩ := HCC.out W1 hb1
 clear hb1 HFITS c0 c1 c2 c3 c4 c5 c6 c7
 cases fo with
 | false =>
  have HR := qh (HNO.out rfl)
  go_wp2_with fail
  go_ret
  exact movesEnd_of (by rw [HR.out]; rfl) (by rw [HR.out]; exact World.ownsRow_nil _ _ _ _) HB1.out
 | true =>
  go_wp2_with fail
  refine (HNEXT.out (by trivial) W1 HB1.out).mono ?_
  rintro e W2 ⟨⟨va, vc, xa, xc, css, rfl, hrow, -⟩, hb2⟩
  have HRW := qh (own_lower hrow HB1.out.size)
  have HB2 := qh (HB1.out.trans (hb2.mono HB1.out.size))
  clear hrow hb2 d0 d1 d2 d3 d4 d5 d6 d7
  go_wp2_with fail
  go_ret
  exact movesEnd_of rfl HRW.out HB2.out
end Go.Proofs.YtliajkheeniljaaGreatDoor
