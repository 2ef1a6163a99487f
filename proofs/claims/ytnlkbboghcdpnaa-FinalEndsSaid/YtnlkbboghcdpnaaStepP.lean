/- What moves do: the document's answer, as plain Lean. -/
import Derived.Test.YtnlkbboghcdpnaaCodeP
import Derived.Test.YtnlkbboghcdpnaaHeads
import Derived.Test.YtnlkbboghcdpnaaEval
namespace Go.Proofs.Ytnlkbboghcdpnaa
open Go.RowKit

/-- May a machine run code? -/
def mayOk (c : CodeD) (m : MachD) : Bool := codeOk c && decide (0 ≤ m.model) && decide (m.model ≤ 2) && decide (1 ≤ m.bound) && decide (m.bound ≤ 8)
/-- The first state. -/
def startS (c : CodeD) : StateD := if codeOk c then ⟨List.replicate c.threads.length default, List.replicate c.vars.toNat 0, false⟩ else ⟨[], [], false⟩
/-- May a store wait behind so many others? -/
def waitOk (c : CodeD) (m : MachD) (l : List EntryD) (k : Nat) : Bool :=
  putOk (l.take k) m (l.getD k default) && decide (0 ≤ (l.getD k default).var) && decide ((l.getD k default).var < c.vars) && decide (0 ≤ (l.getD k default).n) && decide ((l.getD k default).n < c.domain)
def inDom (dom n : Int) : Bool := decide (0 ≤ n) && decide (n < dom)
def threadOk (c : CodeD) (m : MachD) (s : StateD) (i : Nat) : Bool :=
  decide (0 ≤ (s.threads.getD i default).pc) && decide ((s.threads.getD i default).pc ≤ ((c.threads.getD i []).length : Int)) &&
  (List.range 4).all (fun k => inDom c.domain ((s.threads.getD i default).regs.getD k 0)) && (List.range (s.threads.getD i default).buf.length).all (waitOk c m (s.threads.getD i default).buf)
/-- Does a state fit? -/
def fitsOk (c : CodeD) (m : MachD) (s : StateD) : Bool :=
  mayOk c m && decide (s.threads.length = c.threads.length) && decide ((s.mem.length : Int) = c.vars) && (List.range s.mem.length).all (fun k => inDom c.domain (s.mem.getD k 0)) && (List.range s.threads.length).all (threadOk c m s)
/-- What an instruction does to a thread's state, its place already told; none: it may not be. -/
def stepT (c : CodeD) (m : MachD) (s : StateD) (t : ThreadD) (x : InstrD) (d : Nat) : Option (ThreadD × List Int × Bool) :=
  let a := evalN t.regs c.domain d x.a
  let b := evalN t.regs c.domain d x.b
  let t1 : ThreadD := ⟨t.pc + 1, t.regs, t.buf⟩
  let empty := decide (t.buf.length = 0)
  let v := x.var.toNat
  let at_ := s.mem.getD v 0
  let set_ := fun n : Int => (⟨t.pc + 1, t.regs.set x.reg.toNat n, t.buf⟩ : ThreadD)
  if x.op = 1 then some (set_ ((lookB t.buf x.var).getD at_), s.mem, s.bad)
  else if x.op = 2 then (if m.model = 0 then some (t1, s.mem.set v a, s.bad) else if putOk t.buf m ⟨x.var, a⟩ then some (⟨t.pc + 1, t.regs, putB t.buf m ⟨x.var, a⟩⟩, s.mem, s.bad) else none)
  else if x.op = 3 then some (set_ a, s.mem, s.bad)
  else if x.op = 4 then (if empty then some (t1, s.mem, s.bad) else none)
  else if x.op = 5 then (if empty || !decide (m.model = 2) then some (t1, s.mem, s.bad) else none)
  else if x.op = 6 then (if empty then (if at_ = a then some (set_ 1, s.mem.set v b, s.bad) else some (set_ 0, s.mem, s.bad)) else none)
  else if x.op = 7 then (if empty && decide (at_ = 0) then some (t1, s.mem.set v 1, s.bad) else none)
  else if x.op = 8 then (if empty then some (t1, s.mem.set v 0, s.bad) else none)
  else if x.op = 9 then some (t1, s.mem, s.bad || decide (a = 0))
  else if x.op = 12 then some (if a = 0 then ⟨x.dest, t.regs, t.buf⟩ else t1, s.mem, s.bad)
  else if x.op = 13 then some (⟨x.dest, t.regs, t.buf⟩, s.mem, s.bad)
  else some (t1, s.mem, s.bad)
/-- A thread's step. -/
def stepS (c : CodeD) (m : MachD) (s : StateD) (i : Nat) (d : Nat) : Option StateD :=
  if (s.threads.getD i default).pc < ((c.threads.getD i []).length : Int) then
    (stepT c m s (s.threads.getD i default) ((c.threads.getD i []).getD (s.threads.getD i default).pc.toNat default) d).map fun r => ⟨s.threads.set i r.1, r.2.1, r.2.2⟩
  else none
/-- A thread's oldest store to a variable comes. -/
def flushS (s : StateD) (i : Nat) (v : Int) : StateD :=
  ⟨s.threads.set i ⟨(s.threads.getD i default).pc, (s.threads.getD i default).regs, (takeB (s.threads.getD i default).buf v).2⟩, s.mem.set ((takeB (s.threads.getD i default).buf v).1.getD default).var.toNat ((takeB (s.threads.getD i default).buf v).1.getD default).n, s.bad⟩
def emptyS : StateD := ⟨[], [], false⟩
/-- What is behind a move, and which error. -/
def doS (c : CodeD) (m : MachD) (s : StateD) (x : MoveD) (d : Nat) : StateD × Int :=
  if fitsOk c m s then
    if 0 ≤ x.thread ∧ x.thread < (s.threads.length : Int) then
      if x.kind = 1 ∧ x.var = 0 then
        match stepS c m s x.thread.toNat d with
        | some t => (t, 0)
        | none => (emptyS, 50)
      else if x.kind = 2 ∧ x.var ∈ headsB (s.threads.getD x.thread.toNat default).buf m.model then (flushS s x.thread.toNat x.var, 0)
      else (emptyS, 50)
    else (emptyS, 50)
  else (emptyS, 1)
/-- The moves of a thread. -/
def movesT (c : CodeD) (m : MachD) (s : StateD) (d : Nat) (i : Nat) : List MoveD :=
  (if (stepS c m s i d).isSome then [⟨1, i, 0⟩] else []) ++ (headsB (s.threads.getD i default).buf m.model).map fun v => ⟨2, i, v⟩
/-- The moves. -/
def movesS (c : CodeD) (m : MachD) (s : StateD) (d : Nat) : List MoveD :=
  if fitsOk c m s then (List.range s.threads.length).flatMap (movesT c m s d) else []
/-- Explore: a state's place. -/
def putAt (l : List StateD) (t : StateD) : List StateD × Nat := if t ∈ l then (l, l.idxOf t) else (l ++ [t], l.length)
instance : Inhabited CodeD := ⟨⟨0, 0, []⟩⟩
theorem codeOk_bounds {c : CodeD} (h : codeOk c = true) : 1 ≤ c.vars ∧ c.vars ≤ 4 ∧ 2 ≤ c.domain ∧ c.domain ≤ 16 ∧ 1 ≤ c.threads.length ∧ c.threads.length ≤ 4 := by
  unfold codeOk at h
  simp only [Bool.and_eq_true, decide_eq_true_eq] at h
  exact ⟨h.1.1.1.1.1.1, h.1.1.1.1.1.2, h.1.1.1.1.2, h.1.1.1.2, h.1.1.2, h.1.2⟩
end Go.Proofs.Ytnlkbboghcdpnaa
