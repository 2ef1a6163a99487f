/- A lasso is told of any graph by numbers, just if there is one: the walk. -/
import Derived.Test.YtoojalcfojflhaaTold
import Derived.Test.YtoojalcfojflhaaMadeL
namespace Go.Proofs.Ytoojalcfojflhaa
open Go.RowKit

set_option maxRecDepth 100000 in
set_option maxHeartbeats 4000000 in
theorem lassoMadeL_any (w : World) (sv : Value) (l : List Int) (hl : NumsAt w .u16 sv l) (many : Int) (w1 : (Lit.int .u8 many).wf = true) (marks : Int) (w2 : (Lit.int .u8 marks).wf = true) (init : Int) (w3 : (Lit.int .u8 init).wf = true) :
    Calls Try.prog 4 #[sv, .int .u8 many, .int .u8 marks, .int .u8 init] w fun e w' => e = .returned (.bool true) ∧ Below w.heap.size w w' := by
  have HM : Hid (∀ x, Below w.heap.size w x → Calls Try.prog 12 #[sv, .int .u8 many, .int .u8 marks, .int .u8 init] x fun e w' => ∃ g ev iv, e = .returned (graphV g ev iv) ∧ GraphAt w' g ev iv ∧ MadeG g ∧ Below x.heap.size x w') := fun x hx => madeL_any x sv l (hl.below hx) many marks init w1 w2 w3
  obtain ⟨sa, sc, rfl, hsl⟩ := hl.slice
  clear hl w1 w2 w3
  go_enter Try.func4, Try.ntmps4
  go_wp2_with fail
  refine (awakeL_any w).mono ?_
  rintro e w2 ⟨rfl, hb⟩
  have HB := Lib.hid hb
  clear hb
  go_wp2_with fail
  refine (HM.out w2 HB.out).mono ?_
  rintro e w3 ⟨g, ev, iv, rfl, hg, hm, hb3⟩
  have HB3 := Lib.hid (below_then HB.out hb3)
  have HT : Hid (Calls Try.prog 9 #[graphV g ev iv] w3 fun e w' => e = .returned (.bool true) ∧ Below w3.heap.size w3 w') := told_any w3 g ev iv hg (fun x hx => find_any x g ev iv (hg.below hx) hm.fits (.inl hm.pos))
  clear hb3 hg hm
  go_wp2_with fail
  refine HT.out.mono ?_
  rintro e w4 ⟨rfl, hb4⟩
  have HB4 := Lib.hid (below_then HB3.out hb4)
  clear hb4
  go_wp2_with fail
  go_ret
  exact ⟨by first | rfl | simp, HB4.out⟩
end Go.Proofs.Ytoojalcfojflhaa
