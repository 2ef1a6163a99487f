/- May code be: the document's answer, as plain Lean. -/
import Derived.Test.YtnlkbboghcdpnaaPart
namespace Go.Proofs.Ytnlkbboghcdpnaa
open Go.RowKit

def fitsI (vars dom kind to_ : Int) (x : InstrD) : Bool := decide (1 ≤ kind) && decide (kind ≤ 9) && decide (0 ≤ x.dest) && decide (x.dest ≤ to_) && partOk kind x.reg x.var x.a x.b vars dom
/-- May an instruction be, of so many? -/
def instrOk (vars dom : Int) (many : Nat) (x : InstrD) : Bool :=
  if x.op = 12 then fitsI vars dom 9 many x else if x.op = 13 then fitsI vars dom 4 many x else if x.op = 10 ∨ x.op = 11 then false else fitsI vars dom x.op 0 x
def rowOk (vars dom : Int) (l : List InstrD) : Bool := decide (l.length ≤ 600) && l.all (instrOk vars dom l.length)
/-- May code be? -/
def codeOk (c : CodeD) : Bool := decide (1 ≤ c.vars) && decide (c.vars ≤ 4) && decide (2 ≤ c.domain) && decide (c.domain ≤ 16) && decide (1 ≤ c.threads.length) && decide (c.threads.length ≤ 4) && c.threads.all (rowOk c.vars c.domain)
theorem all_yes_of {α : Type} [Inhabited α] (l : List α) (d : α) (p : α → Bool) (h : ∀ j, j < l.length → p (l.getD j d) = true) : l.all p = true := by
  rw [List.all_eq_true]
  intro x hx
  obtain ⟨j, hj, rfl⟩ := List.getElem_of_mem hx
  have := h j hj
  rwa [List.getD_eq_getElem?_getD, List.getElem?_eq_getElem hj] at this
theorem all_no_of {α : Type} [Inhabited α] (l : List α) (d : α) (p : α → Bool) (j : Nat) (hj : j < l.length) (h : p (l.getD j d) = false) : l.all p = false := by
  rw [List.all_eq_false]
  rw [List.getD_eq_getElem?_getD, List.getElem?_eq_getElem hj] at h
  exact ⟨l[j], List.getElem_mem hj, by simpa using h⟩
end Go.Proofs.Ytnlkbboghcdpnaa
