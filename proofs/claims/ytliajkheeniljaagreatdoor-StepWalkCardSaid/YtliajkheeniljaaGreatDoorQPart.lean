/- May what an instruction of a kind has be: the document's answer: the walk. May code be: the document's answer, as plain Lean. What moves do: the document's answer, as plain Lean. -/
import Derived.Test.YtliajkheeniljaaGreatDoorQEval
import Derived.Test.YtliajkheeniljaaGreatDoorQExpr2
import Derived.Test.YtliajkheeniljaaGreatDoorQHeads
import Derived.Test.YtliajkheeniljaaGreatDoorQShort
set_option linter.all false
namespace Go.Proofs.YtliajkheeniljaaGreatDoor
open Go.RowKit
set_option maxRecDepth 100000
set_option maxHeartbeats 16000000
theorem no_of {p : Bool} (h : true = !p) : p = false := by cases p <;> first | rfl | cases h
theorem yes_of {p : Bool} (h : false = !p) : p = true := by cases p <;> first | rfl | cases h
def partR (k reg : Int) : Bool := if hasR k then decide (0 ≤ reg) && decide (reg < 4) else decide (reg = 0)
def partV (k v vars : Int) : Bool := if hasV k then decide (0 ≤ v) && decide (v < vars) else decide (v = 0)
def partA (k : Int) (a : ExprT) (dom : Int) : Bool := if hasA k then exprOk dom 20 a else exprNone a
def partB (k : Int) (b : ExprT) (dom : Int) : Bool := if hasB k then exprOk dom 20 b else exprNone b
def partOk (k reg v : Int) (a b : ExprT) (vars dom : Int) : Bool := partR k reg && partV k v vars && partA k a dom && partB k b dom
theorem part_any (w : World) (k reg v : Int) (a b : ExprT) (ka kb : Value) (e : Nat) (ha : ExprAt e w a ka) (hb : ExprAt e w b kb) (vars dom : Int) :
  Calls Tryz.prog 74 #[.int .i64 k, .int .i64 reg, .int .i64 v, exprV a ka, exprV b kb, .int .i64 vars, .int .i64 dom] w fun e w' => e = .returned (.bool (partOk k reg v a b vars dom)) ∧ Below w.heap.size w w' := by
 obtain ⟨aa, ac, rfl, -⟩ := ha.slice
 obtain ⟨ba, bc, rfl, -⟩ := hb.slice
 have HB := qh (boxes_below w (.cells #[.int .i64 a.kind, .int .i64 a.n, .int .u8 a.op, .slice aa a.kids.length ac] 62) (.cells #[.int .i64 b.kind, .int .i64 b.n, .int .u8 b.op, .slice ba b.kids.length bc] 62))
 have H1 := qh (boxes_first w (.cells #[.int .i64 a.kind, .int .i64 a.n, .int .u8 a.op, .slice aa a.kids.length ac] 62) (.cells #[.int .i64 b.kind, .int .i64 b.n, .int .u8 b.op, .slice ba b.kids.length bc] 62))
 have H2 := qh (boxes_second w (.cells #[.int .i64 a.kind, .int .i64 a.n, .int .u8 a.op, .slice aa a.kids.length ac] 62) (.cells #[.int .i64 b.kind, .int .i64 b.n, .int .u8 b.op, .slice ba b.kids.length bc] 62))
 have HEA : Hid (∀ X, Below w.heap.size w X → Calls Tryz.prog 99 #[.agg #[.int .i64 a.kind, .int .i64 a.n, .int .u8 a.op, .slice aa a.kids.length ac], .int .i64 dom] X fun e w' => e = .returned (.bool (exprOk dom 20 a)) ∧ Below X.heap.size X w') := fun X hX => exprTop_any dom e X a _ (ha.below hX)
 have HEB : Hid (∀ X, Below w.heap.size w X → Calls Tryz.prog 99 #[.agg #[.int .i64 b.kind, .int .i64 b.n, .int .u8 b.op, .slice ba b.kids.length bc], .int .i64 dom] X fun e w' => e = .returned (.bool (exprOk dom 20 b)) ∧ Below X.heap.size X w') := fun X hX => exprTop_any dom e X b _ (hb.below hX)
 have HNA : Hid (∀ X, Calls Tryz.prog 100 #[.agg #[.int .i64 a.kind, .int .i64 a.n, .int .u8 a.op, .slice aa a.kids.length ac]] X fun e w' => e = .returned (.bool (exprNone a)) ∧ Below X.heap.size X w') := fun X => none_any X a aa ac
 have HNB : Hid (∀ X, Calls Tryz.prog 100 #[.agg #[.int .i64 b.kind, .int .i64 b.n, .int .u8 b.op, .slice ba b.kids.length bc]] X fun e w' => e = .returned (.bool (exprNone b)) ∧ Below X.heap.size X w') := fun X => none_any X b ba bc
 obtain ⟨r, hr⟩ : ∃ r, r = partOk k reg v a b vars dom := ⟨_, rfl⟩
 rw [← hr]
 have HR : Hid (r = ((if hasR k then decide (0 ≤ reg) && decide (reg < 4) else decide (reg = 0)) && (if hasV k then decide (0 ≤ v) && decide (v < vars) else decide (v = 0)) && (if hasA k then exprOk dom 20 a else exprNone a) && (if hasB k then exprOk dom 20 b else exprNone b))) := hr
 have HH := qh (fun X => has_any X k)
 obtain ⟨h0, e0⟩ : ∃ h, h = hasR k := ⟨_, rfl⟩
 obtain ⟨h1, e1⟩ : ∃ h, h = hasV k := ⟨_, rfl⟩
 obtain ⟨h2, e2⟩ : ∃ h, h = hasA k := ⟨_, rfl⟩
 obtain ⟨h3, e3⟩ : ∃ h, h = hasB k := ⟨_, rfl⟩
 rw [← e0, ← e1, ← e2, ← e3] at HR
 have HH2 : Hid (∀ X, Calls Tryz.prog 98 #[.int .i64 k] X fun e w' => e = .returned (.agg #[.bool h0, .bool h1, .bool h2, .bool h3]) ∧ Below X.heap.size X w') := fun X => by rw [e0, e1, e2, e3]; exact HH.out X
 unfold exprV
 clear ha hb hr HH e0 e1 e2 e3
 go_enter Tryz.func74, Tryz.ntmps74
 go_upto_region 1 with fail
 generalize World.alloc (World.alloc w _) _ = W at HB H1 H2 ⊢
 obtain ⟨gx, hgx⟩ : ∃ gx, gx = w.heap.size := ⟨_, rfl⟩
 rw [← hgx] at H1 H2 ⊢
 clear hgx
 go_wp2_with fail
 refine (HH2.out W).mono ?_
 rintro e X0 ⟨rfl, hb0⟩
 have HX0 := qh (qbt hb0 ((Below.refl X0.heap.size X0).alloc (Nat.le_refl _) (.cells #[.bool h0, .bool h1, .bool h2, .bool h3] 157)))
 have HHB := qh (qhn X0 (.cells #[.bool h0, .bool h1, .bool h2, .bool h3] 157))
 clear hb0 HH2
 go_upto_region 2 with fail
 generalize World.alloc X0 _ = X at HX0 HHB ⊢
 obtain ⟨hx, hhx⟩ : ∃ hx, hx = X0.heap.size := ⟨_, rfl⟩
 rw [← hhx] at HHB ⊢
 clear hhx
 have HC : Hid (∀ x, Below X.heap.size X x → (x.cell? ⟨gx, 0, none⟩ = some (.int .i64 a.kind) ∧ x.cell? ⟨gx, 1, none⟩ = some (.int .i64 a.n) ∧ x.cell? ⟨gx, 2, none⟩ = some (.int .u8 a.op) ∧ x.cell? ⟨gx, 3, none⟩ = some (.slice aa a.kids.length ac)) ∧
   (x.cell? ⟨gx + 1, 0, none⟩ = some (.int .i64 b.kind) ∧ x.cell? ⟨gx + 1, 1, none⟩ = some (.int .i64 b.n) ∧ x.cell? ⟨gx + 1, 2, none⟩ = some (.int .u8 b.op) ∧ x.cell? ⟨gx + 1, 3, none⟩ = some (.slice ba b.kids.length bc)) ∧
   (x.cell? ⟨hx, 0, none⟩ = some (.bool h0) ∧ x.cell? ⟨hx, 1, none⟩ = some (.bool h1) ∧ x.cell? ⟨hx, 2, none⟩ = some (.bool h2) ∧ x.cell? ⟨hx, 3, none⟩ = some (.bool h3))) := fun x hx =>
  have k := fun p v h => qck (qbt HX0.out hx) p v h
  ⟨⟨k _ _ (qcb H1.out 0), k _ _ (qcb H1.out 1), k _ _ (qcb H1.out 2), k _ _ (qcb H1.out 3)⟩, ⟨k _ _ (qcb H2.out 0), k _ _ (qcb H2.out 1), k _ _ (qcb H2.out 2), k _ _ (qcb H2.out 3)⟩, ⟨qck hx _ _ (qcb HHB.out 0), qck hx _ _ (qcb HHB.out 1), qck hx _ _ (qcb HHB.out 2), qck hx _ _ (qcb HHB.out 3)⟩⟩
 have HBX := qh (HB.out.trans (HX0.out.mono HB.out.size))
 clear H1 H2 HHB HB HX0
 go_cut [58] (fun s58 w' => ∃ q : Bool, s58 = .bool q ∧ w' = X ∧ Hid (q = !((if h0 then decide (0 ≤ reg) && decide (reg < 4) else decide (reg = 0)) && (if h1 then decide (0 ≤ v) && decide (v < vars) else decide (v = 0)))))
 case first =>
  obtain ⟨-, -, c0, c1, -, -⟩ := HC.out X (Below.refl _ _)
  cases h0 with
  | true =>
   by_cases r1 : 0 ≤ reg
   rotate_left
   ·have r1n : reg < 0 := by omega
    go_wp2_with fail
    go_meet
    case rel => exact ⟨true, by first | rfl | simp, rfl, by rw [Hid]; simp [r1]⟩
   have r1n : ¬ reg < 0 := by omega
   by_cases r2 : reg < 4
   rotate_left
   ·have r2n : 4 ≤ reg := by omega
    go_wp2_with fail
    go_meet
    case rel => exact ⟨true, by first | rfl | simp, rfl, by rw [Hid]; simp [r1, r2]⟩
   have r2n : ¬ 4 ≤ reg := by omega
   cases h1 with
   | true =>
    by_cases v1 : 0 ≤ v
    ·have v1n : ¬ v < 0 := by omega
     by_cases v2 : v < vars
     ·have v2n : ¬ vars ≤ v := by omega
      go_wp2_with fail
      go_meet
      case rel => exact ⟨false, by first | rfl | simp, rfl, by rw [Hid]; simp [r1, r2, v1, v2]⟩
     ·have v2n : vars ≤ v := by omega
      go_wp2_with fail
      go_meet
      case rel => exact ⟨true, by first | rfl | simp, rfl, by rw [Hid]; simp [r1, r2, v1, v2]⟩
    ·have v1n : v < 0 := by omega
     go_wp2_with fail
     go_meet
     case rel => exact ⟨true, by first | rfl | simp, rfl, by rw [Hid]; simp [r1, r2, v1]⟩
   | false =>
    by_cases v1 : v = 0
    ·have v1n : ((v : Int) != 0) = false := by simp [v1]
     have V1 := qh v1
     clear v1
     go_wp2_with fail
     go_meet
     case rel => exact ⟨false, by first | rfl | simp, rfl, by rw [Hid]; simp [r1, r2, V1.out]⟩
    ·have v1n : ((v : Int) != 0) = true := by simp [v1]
     go_wp2_with fail
     go_meet
     case rel => exact ⟨true, by first | rfl | simp, rfl, by rw [Hid]; simp [r1, r2, v1]⟩
  | false =>
   by_cases r1 : reg = 0
   rotate_left
   ·have r1n : ((reg : Int) != 0) = true := by simp [r1]
    go_wp2_with fail
    go_meet
    case rel => exact ⟨true, by first | rfl | simp, rfl, by rw [Hid]; simp [r1]⟩
   have r1n : ((reg : Int) != 0) = false := by simp [r1]
   have R1 := qh r1
   clear r1
   cases h1 with
   | true =>
    by_cases v1 : 0 ≤ v
    ·have v1n : ¬ v < 0 := by omega
     by_cases v2 : v < vars
     ·have v2n : ¬ vars ≤ v := by omega
      go_wp2_with fail
      go_meet
      case rel => exact ⟨false, by first | rfl | simp, rfl, by rw [Hid]; simp [R1.out, v1, v2]⟩
     ·have v2n : vars ≤ v := by omega
      go_wp2_with fail
      go_meet
      case rel => exact ⟨true, by first | rfl | simp, rfl, by rw [Hid]; simp [R1.out, v1, v2]⟩
    ·have v1n : v < 0 := by omega
     go_wp2_with fail
     go_meet
     case rel => exact ⟨true, by first | rfl | simp, rfl, by rw [Hid]; simp [R1.out, v1]⟩
   | false =>
    by_cases v1 : v = 0
    ·have v1n : ((v : Int) != 0) = false := by simp [v1]
     have V1 := qh v1
     clear v1
     go_wp2_with fail
     go_meet
     case rel => exact ⟨false, by first | rfl | simp, rfl, by rw [Hid]; simp [R1.out, V1.out]⟩
    ·have v1n : ((v : Int) != 0) = true := by simp [v1]
     go_wp2_with fail
     go_meet
     case rel => exact ⟨true, by first | rfl | simp, rfl, by rw [Hid]; simp [R1.out, v1]⟩
 case rest =>
  obtain ⟨q, rfl, hwq, HQ⟩ := hcut
  obtain rfl : X = wc := hwq.symm
  cases q with
  | true =>
   have hp := HQ.out
   obtain rfl : r = false := by
    rw [HR.out, no_of hp]; rfl
   clear HR HQ hp
   go_wp2_with fail
   go_ret
   exact ⟨by first | rfl | simp, HBX.out⟩
  | false =>
   have HR2 : Hid (r = ((if h2 then exprOk dom 20 a else exprNone a) && (if h3 then exprOk dom 20 b else exprNone b))) := by
    rw [Hid, HR.out, yes_of HQ.out]; rfl
   clear HR HQ
   go_upto_region 4 with fail
   go_cut [76] (fun s76 w' => ∃ q : Bool, s76 = .bool q ∧ Hid (q = !(if h2 then exprOk dom 20 a else exprNone a)) ∧ Hid (Below X.heap.size X w'))
   case first =>
    obtain ⟨⟨a0, a1, a2, a3⟩, -, -, -, c2, -⟩ := HC.out X (Below.refl _ _)
    cases h2 with
    | true =>
     go_wp2_with fail
     refine (HEA.out X HBX.out).mono ?_
     rintro e Y ⟨rfl, hby⟩
     have HBY := qh hby
     obtain ⟨-, -, -, -, c2', -⟩ := HC.out Y HBY.out
     clear hby a0 a1 a2 a3 c2
     cases hv : exprOk dom 20 a with
     | true =>
      go_wp2_with fail
      go_meet
      case rel => exact ⟨false, by first | rfl | simp, by rw [Hid]; simp [hv], HBY.out⟩
     | false =>
      go_wp2_with fail
      go_meet
      case rel => exact ⟨true, by first | rfl | simp, by rw [Hid]; simp [hv], HBY.out⟩
    | false =>
     go_wp2_with fail
     refine (HNA.out X).mono ?_
     rintro e Y ⟨rfl, hby⟩
     have HBY := qh hby
     clear hby a0 a1 a2 a3 c2
     cases hv : exprNone a with
     | true =>
      go_wp2_with fail
      go_meet
      case rel => exact ⟨false, by first | rfl | simp, by rw [Hid]; simp [hv], HBY.out⟩
     | false =>
      go_wp2_with fail
      go_meet
      case rel => exact ⟨true, by first | rfl | simp, by rw [Hid]; simp [hv], HBY.out⟩
   case rest =>
    obtain ⟨q, rfl, HQ, HBQ⟩ := hcut
    obtain ⟨Y, rfl⟩ : ∃ Y : World, Y = wc := ⟨_, rfl⟩
    have HBW := qh (HBX.out.trans (HBQ.out.mono HBX.out.size))
    cases q with
    | true =>
     obtain rfl : r = false := by
      rw [HR2.out, no_of HQ.out]; rfl
     clear HR2 HQ
     go_wp2_with fail
     go_ret
     exact ⟨by first | rfl | simp, HBW.out⟩
    | false =>
     have HR3 : Hid (r = (if h3 then exprOk dom 20 b else exprNone b)) := by
      rw [Hid, HR2.out, yes_of HQ.out]; rfl
     clear HR2 HQ
     obtain ⟨-, ⟨b0, b1, b2, b3⟩, -, -, -, c3⟩ := HC.out Y HBQ.out
     cases h3 with
     | true =>
      have HR4 : Hid (r = exprOk dom 20 b) := HR3.out
      go_wp2_with fail
      refine (HEB.out Y HBW.out).mono ?_
      rw [← HR4.out]
      rintro e Z ⟨rfl, hbz⟩
      have HBZ := qh hbz
      obtain ⟨-, -, -, -, -, c3'⟩ := HC.out Z (qbt HBQ.out HBZ.out)
      clear hbz b0 b1 b2 b3 c3 HR3 HR4
      cases r with
      | true =>
       go_wp2_with fail
       go_ret
       exact ⟨by first | rfl | simp, HBW.out.trans (HBZ.out.mono HBW.out.size)⟩
      | false =>
       go_wp2_with fail
       go_ret
       exact ⟨by first | rfl | simp, HBW.out.trans (HBZ.out.mono HBW.out.size)⟩
     | false =>
      have HR4 : Hid (r = exprNone b) := HR3.out
      go_wp2_with fail
      refine (HNB.out Y).mono ?_
      rw [← HR4.out]
      rintro e Z ⟨rfl, hbz⟩
      have HBZ := qh hbz
      clear hbz b0 b1 b2 b3 c3 HR3 HR4
      cases r with
      | true =>
       go_wp2_with fail
       go_ret
       exact ⟨by first | rfl | simp, HBW.out.trans (HBZ.out.mono HBW.out.size)⟩
      | false =>
       go_wp2_with fail
       go_ret
       exact ⟨by first | rfl | simp, HBW.out.trans (HBZ.out.mono HBW.out.size)⟩
def fitsI (vars dom kind to_ : Int) (x : InstrD) : Bool := decide (1 ≤ kind) && decide (kind ≤ 9) && decide (0 ≤ x.dest) && decide (x.dest ≤ to_) && partOk kind x.reg x.var x.a x.b vars dom
def instrOk (vars dom : Int) (many : Nat) (x : InstrD) : Bool :=
 if x.op = 12 then fitsI vars dom 9 many x else if x.op = 13 then fitsI vars dom 4 many x else if x.op = 10 ∨ x.op = 11 then false else fitsI vars dom x.op 0 x
def rowOk (vars dom : Int) (l : List InstrD) : Bool := decide (l.length ≤ 600) && l.all (instrOk vars dom l.length)
def codeOk (c : CodeD) : Bool := decide (1 ≤ c.vars) && decide (c.vars ≤ 4) && decide (2 ≤ c.domain) && decide (c.domain ≤ 16) && decide (1 ≤ c.threads.length) && decide (c.threads.length ≤ 4) && c.threads.all (rowOk c.vars c.domain)
theorem all_yes_of {α : Type} [Inhabited α] (l : List α) (d : α) (p : α → Bool) (h : ∀ j, j < l.length → p (l.getD j d) = true) : l.all p = true := by
 rw [List.all_eq_true]
 intro x hx
 obtain ⟨j, hj, rfl⟩ := List.getElem_of_mem hx
 have := h j hj
 rwa [List.getD_eq_getElem?_getD, List.getElem?_eq_getElem hj] at this
theorem all_no_of {α : Type} [Inhabited α] (l : List α) (d : α) (p : α → Bool) (j : Nat) (hj : j < l.length) (h : p (l.getD j d) = false) : l.all p = false := by
 rw [List.all_eq_false]
 rw [List.getD_eq_getElem?_getD, List.getElem?_eq_getElem hj] at h
 exact ⟨l[j], List.getElem_mem hj, by simpa using h⟩
def mayOk (c : CodeD) (m : MachD) : Bool := codeOk c && decide (0 ≤ m.model) && decide (m.model ≤ 2) && decide (1 ≤ m.bound) && decide (m.bound ≤ 8)
def startS (c : CodeD) : StateD := if codeOk c then ⟨List.replicate c.threads.length default, List.replicate c.vars.toNat 0, false⟩ else ⟨[], [], false⟩
def waitOk (c : CodeD) (m : MachD) (l : List EntryD) (k : Nat) : Bool :=
 putOk (l.take k) m (l.getD k default) && decide (0 ≤ (l.getD k default).var) && decide ((l.getD k default).var < c.vars) && decide (0 ≤ (l.getD k default).n) && decide ((l.getD k default).n < c.domain)
def inDom (dom n : Int) : Bool := decide (0 ≤ n) && decide (n < dom)
def threadOk (c : CodeD) (m : MachD) (s : StateD) (i : Nat) : Bool :=
 decide (0 ≤ (s.threads.getD i default).pc) && decide ((s.threads.getD i default).pc ≤ ((c.threads.getD i []).length : Int)) &&
 (List.range 4).all (fun k => inDom c.domain ((s.threads.getD i default).regs.getD k 0)) && (List.range (s.threads.getD i default).buf.length).all (waitOk c m (s.threads.getD i default).buf)
def fitsOk (c : CodeD) (m : MachD) (s : StateD) : Bool :=
 mayOk c m && decide (s.threads.length = c.threads.length) && decide ((s.mem.length : Int) = c.vars) && (List.range s.mem.length).all (fun k => inDom c.domain (s.mem.getD k 0)) && (List.range s.threads.length).all (threadOk c m s)
def stepT (c : CodeD) (m : MachD) (s : StateD) (t : ThreadD) (x : InstrD) (d : Nat) : Option (ThreadD × List Int × Bool) :=
 let a := evalN t.regs c.domain d x.a
 let b := evalN t.regs c.domain d x.b
 let t1 : ThreadD := ⟨t.pc + 1, t.regs, t.buf⟩
 let empty := decide (t.buf.length = 0)
 let v := x.var.toNat
 let at_ := s.mem.getD v 0
 let set_ := fun n : Int => (⟨t.pc + 1, t.regs.set x.reg.toNat n, t.buf⟩ : ThreadD)
 if x.op = 1 then some (set_ ((lookB t.buf x.var).getD at_), s.mem, s.bad)
 else if x.op = 2 then (if m.model = 0 then some (t1, s.mem.set v a, s.bad) else if putOk t.buf m ⟨x.var, a⟩ then some (⟨t.pc + 1, t.regs, putB t.buf m ⟨x.var, a⟩⟩, s.mem, s.bad) else none)
 else if x.op = 3 then some (set_ a, s.mem, s.bad)
 else if x.op = 4 then (if empty then some (t1, s.mem, s.bad) else none)
 else if x.op = 5 then (if empty || !decide (m.model = 2) then some (t1, s.mem, s.bad) else none)
 else if x.op = 6 then (if empty then (if at_ = a then some (set_ 1, s.mem.set v b, s.bad) else some (set_ 0, s.mem, s.bad)) else none)
 else if x.op = 7 then (if empty && decide (at_ = 0) then some (t1, s.mem.set v 1, s.bad) else none)
 else if x.op = 8 then (if empty then some (t1, s.mem.set v 0, s.bad) else none)
 else if x.op = 9 then some (t1, s.mem, s.bad || decide (a = 0))
 else if x.op = 12 then some (if a = 0 then ⟨x.dest, t.regs, t.buf⟩ else t1, s.mem, s.bad)
 else if x.op = 13 then some (⟨x.dest, t.regs, t.buf⟩, s.mem, s.bad)
 else some (t1, s.mem, s.bad)
def stepS (c : CodeD) (m : MachD) (s : StateD) (i : Nat) (d : Nat) : Option StateD :=
 if (s.threads.getD i default).pc < ((c.threads.getD i []).length : Int) then
  (stepT c m s (s.threads.getD i default) ((c.threads.getD i []).getD (s.threads.getD i default).pc.toNat default) d).map fun r => ⟨s.threads.set i r.1, r.2.1, r.2.2⟩
 else none
def flushS (s : StateD) (i : Nat) (v : Int) : StateD :=
 ⟨s.threads.set i ⟨(s.threads.getD i default).pc, (s.threads.getD i default).regs, (takeB (s.threads.getD i default).buf v).2⟩, s.mem.set ((takeB (s.threads.getD i default).buf v).1.getD default).var.toNat ((takeB (s.threads.getD i default).buf v).1.getD default).n, s.bad⟩
def emptyS : StateD := ⟨[], [], false⟩
def doS (c : CodeD) (m : MachD) (s : StateD) (x : MoveD) (d : Nat) : StateD × Int :=
 if fitsOk c m s then
  if 0 ≤ x.thread ∧ x.thread < (s.threads.length : Int) then
   if x.kind = 1 ∧ x.var = 0 then
    match stepS c m s x.thread.toNat d with
    | some t => (t, 0)
    | none => (emptyS, 50)
   else if x.kind = 2 ∧ x.var ∈ headsB (s.threads.getD x.thread.toNat default).buf m.model then (flushS s x.thread.toNat x.var, 0)
   else (emptyS, 50)
  else (emptyS, 50)
 else (emptyS, 1)
def movesT (c : CodeD) (m : MachD) (s : StateD) (d : Nat) (i : Nat) : List MoveD :=
 (if (stepS c m s i d).isSome then [⟨1, i, 0⟩] else []) ++ (headsB (s.threads.getD i default).buf m.model).map fun v => ⟨2, i, v⟩
def movesS (c : CodeD) (m : MachD) (s : StateD) (d : Nat) : List MoveD :=
 if fitsOk c m s then (List.range s.threads.length).flatMap (movesT c m s d) else []
instance : Inhabited CodeD := ⟨⟨0, 0, []⟩⟩
theorem codeOk_bounds {c : CodeD} (h : codeOk c = true) : 1 ≤ c.vars ∧ c.vars ≤ 4 ∧ 2 ≤ c.domain ∧ c.domain ≤ 16 ∧ 1 ≤ c.threads.length ∧ c.threads.length ≤ 4 := by
 unfold codeOk at h
 simp only [Bool.and_eq_true, decide_eq_true_eq] at h
 exact ⟨h.1.1.1.1.1.1, h.1.1.1.1.1.2, h.1.1.1.1.2, h.1.1.1.2, h.1.1.2, h.1.2⟩
end Go.Proofs.YtliajkheeniljaaGreatDoor
