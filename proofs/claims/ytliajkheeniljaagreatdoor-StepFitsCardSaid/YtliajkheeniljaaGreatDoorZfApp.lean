/- Rows that grow by appends, in whatever order a statement takes its parts: laws. Stores that wait: the document's answer: the walks. What a thread sees of its own stores; are two buffers the same: the document's answer: the walks. The oldest store to a variable, and the others: the document's answer: the walk. What expressions are: the document's answer: the walk. The variables whose oldest store may be done: the document's answer: the walk. -/
import Derived.Deep.AppendLies
import Derived.IntWalk
import Derived.OwnWalk
import Derived.Test.YtliajkheeniljaaGreatDoorZfData
import Derived.Test.YtliajkheeniljaaGreatDoorZfShort
set_option linter.all false
namespace Go.Proofs.YtliajkheeniljaaGreatDoor
open Go.RowKit
set_option maxRecDepth 100000
set_option maxHeartbeats 16000000
theorem step_append_where_ {P : Program} (w : World) {ops : Array Oper} {o : Oper} {a : Act} {K : Act → World → Prop} {Q : Exit → Act → World → Prop} {E : Prop} (hw : Region.wanted o (yielded ops a.tmps) = true) (s x : Operand) (t : TypeId)
  (ho : o.op = .call { callee := .builtin .append, args := #[s, x], argTypes := #[t, t] })
  (e : TypeId) (z : Value) (size bytes : Nat) (ht : P.underlying t = some (.slice e)) (hinfo : (P.info? e).map (fun i => (i.zero, i.size, i.bytes)) = some (some z, size, bytes)) (hzs : z.cells.size = size) (hsz : 0 < size)
  (base : Nat) (v : Value) (n : Nat) (xs : List Value) (hs : a.eval s = v) (hown : w.ownsRow base e size v n xs)
  (ad : Addr) (m c : Nat) (news : List Value) (hx : a.eval x = .slice (some ad) m c) (hl : news.length = m * size) (hnews : ∀ j u, news[j]? = some u → w.cell? (ad.add j) = some u) (h1 : ∀ u ∈ news, u.oneCell' = true)
  (h63 : n + m ≤ maxLen) (hbytes : (n + m) * bytes ≤ 140737488355328) (hbase : base ≤ w.heap.size)
  (h : ∀ a' cap' w', w'.ownsRow base e size (.slice a' (n + m) cap') (n + m) (xs ++ news) → cap' ≤ 9223372036854775807 → n + m ≤ cap' → Since (fun k => v.ownBlock = some k) w w' →
   (∀ k, (Value.slice a' (n + m) cap').ownBlock = some k → v.ownBlock = some k ∨ k = w.heap.size) →
   K (a.put o.dst (.slice a' (n + m) cap')) w') : if Region.wanted o (yielded ops a.tmps) = true then Oper.wp P o a w K Q else E := by
 rw [if_pos hw]
 obtain ⟨i, hi, hz, hsize, hby⟩ := info_parts hinfo
 obtain ⟨v', w', hr, h2, h3, h4⟩ := run_append_own (P := P) w base t o.type e i z size bytes ht hi hz hsize hby hzs hsz v n xs hown ad m c news hl hnews h1 h63 hbytes hbase
 have hwh := append_where ht hi hz hsize hby hown hl hnews h1 h63 hbytes hr
 obtain ⟨a', cap', rfl, hc1, hc2⟩ := row_slice h2
 unfold Oper.wp execOp
 simp only [ho, resolve, invoke, builtin, Sem.run_bind, Sem.run_pure, Result.andThen_ok, List.map_toArray, List.map_cons, List.map_nil, hs, hx, hr]
 refine h a' cap' w' h2 (by unfold maxLen at hc2; omega) hc1 ((Since.refl _ _).grown h3 (fun k hk => .inl hk)) (fun k hk => ?_)
 rw [hk] at hwh
 rcases hwh with hwh | hwh
 ·exact .inl hwh.symm
 ·exact .inr (by simpa using hwh)
theorem SliceR.news {α : Type} [Inhabited α] {R : World → α → List Value → Prop} {size : Nat} {f : α → List Value} (hs : 0 < size) (hf : ∀ x, (f x).length = size) (hR : ∀ w x cs, R w x cs → cs = f x) {w : World} {b o n c : Nat} {l : List α} (h : SliceR R size w (.slice (some ⟨b, o, none⟩) n c) l) :
  ∀ j u, (flatC f l)[j]? = some u → w.cell? ((⟨b, o, none⟩ : Addr).add j) = some u := by
 intro j u hu
 have hj : j < l.length * size := by
  rcases Nat.lt_or_ge j (l.length * size) with e | e
  ·exact e
  ·rw [List.getElem?_eq_none (by rw [flatC_len hf]; exact e)] at hu; cases hu
 obtain ⟨q, r, hq, hr, rfl⟩ : ∃ q r, q < l.length ∧ r < size ∧ j = q * size + r :=
  ⟨j / size, j % size, Nat.div_lt_of_lt_mul (by rw [Nat.mul_comm]; exact hj), Nat.mod_lt _ hs, by rw [Nat.mul_comm]; exact (Nat.div_add_mod j size).symm⟩
 rw [flatC_at hf hq hr] at hu
 obtain ⟨b', o', cs, he, -, -, h4, h5⟩ := h.part q hq
 cases he
 have h6 := h4 r hr
 rw [hR _ _ _ h5, hu] at h6
 rw [show (⟨b, o, none⟩ : Addr).add (q * size + r) = ⟨b, o + q * size + r, none⟩ by
  simp only [Addr.add]
  split
  ·rename_i h; rw [show o + q * size + r = o by omega]
  ·rw [Nat.add_assoc]]
 exact h6
theorem SliceR.of_flat {α : Type} [Inhabited α] {R : World → α → List Value → Prop} {size : Nat} {f : α → List Value} (hf : ∀ x, (f x).length = size) (hR : ∀ w x, R w x (f x)) {w : World} {B : Nat} {e : TypeId} {sv : Value} {l : List α} (h : w.ownsRow B e size sv l.length (flatC f l)) : SliceR R size w sv l :=
 SliceR.of_row h fun j hj => ⟨f (l.getD j default), hf _, fun _ hi => flatC_at hf hj hi, hR _ _⟩
theorem SliceR.nil {α : Type} [Inhabited α] {R : World → α → List Value → Prop} {size : Nat} (w : World) : SliceR R size w (.slice none 0 0) ([] : List α) := ⟨none, 0, rfl, by simp, fun j hj => by simp at hj⟩
theorem own_lower {X : World} {B C : Nat} {e : TypeId} {size : Nat} {v : Value} {n : Nat} {xs : List Value} (h : X.ownsRow B e size v n xs) (hC : C ≤ B) : X.ownsRow C e size v n xs := by
 refine ⟨h.1, ?_⟩
 rcases h.2 with hn | ⟨g, cap, cur, rfl, hb, rest⟩
 ·exact .inl hn
 ·exact .inr ⟨g, cap, cur, rfl, Nat.le_trans hC hb, rest⟩
structure App (e : TypeId) (size : Nat) (V X : World) (v : Value) (n : Nat) (xs : List Value) (bs : List (Nat × List Value)) : Prop where
 below : Below V.heap.size V X
 row : X.ownsRow V.heap.size e size v n xs
 news : ∀ p ∈ bs, X.heap[p.1]? = some (.cells p.2.toArray e (0, 0)) ∧ v.ownBlock ≠ some p.1 ∧ V.heap.size ≤ p.1
section
variable {e : TypeId} {size : Nat} {V X : World} {v : Value} {n : Nat} {xs : List Value} {bs : List (Nat × List Value)}
end
end Go.Proofs.YtliajkheeniljaaGreatDoor
namespace Go.Proofs.YtliajkheeniljaaGreatDoor
open Go.RowKit
set_option maxRecDepth 100000
set_option maxHeartbeats 16000000
theorem boxes_below (w : World) (o1 o2 : Obj) : Below w.heap.size w ((w.alloc o1).alloc o2) := ((Below.refl _ _).alloc (Nat.le_refl _) _).alloc (by simp) _
theorem boxes_first (w : World) (o1 o2 : Obj) : ((w.alloc o1).alloc o2).heap[w.heap.size]? = some o1 := (Below.heap_alloc _ _ _ (by simp)).trans (qhn w _)
theorem boxes_second (w : World) (o1 o2 : Obj) : ((w.alloc o1).alloc o2).heap[w.heap.size + 1]? = some o2 := by
 have := qhn (w.alloc o1) o2
 simp only [World.size_alloc] at this; exact this
theorem entry_info : (Tryz.prog.info? 50).map (fun i => (i.zero, i.size, i.bytes)) = some (some (.agg #[.int .i64 0, .int .i64 0]), 2, 16) := by kernel_rfl
theorem int_info : (Tryz.prog.info? 3).map (fun i => (i.zero, i.size, i.bytes)) = some (some (.int .i64 0), 1, 8) := by kernel_rfl
theorem entry_len (x : EntryD) : x.cells.length = 2 := rfl
theorem int_len (x : Int) : ([Value.int .i64 x]).length = 1 := rfl
def intC (x : Int) : List Value := [.int .i64 x]
theorem entry_one {l : List EntryD} : ∀ u ∈ flatC EntryD.cells l, u.oneCell' = true := fun u hu => by
 obtain ⟨x, -, hx⟩ := List.mem_flatMap.1 hu
 simp [EntryD.cells] at hx
 rcases hx with rfl | rfl <;> rfl
theorem buf_of {w : World} {B : Nat} {sv : Value} {l : List EntryD} (h : w.ownsRow B 50 2 sv l.length (flatC EntryD.cells l)) : BufAt w sv l := SliceR.of_flat (R := EntryR) entry_len (fun _ _ => rfl) h
theorem ints_of {w : World} {B : Nat} {sv : Value} {l : List Int} (h : w.ownsRow B 3 1 sv l.length (flatC intC l)) : IntsAt w sv l := SliceR.of_flat (R := IntR) (f := intC) int_len (fun _ _ => rfl) h
def putCount (l : List EntryD) (m : MachD) (v : Int) : Nat := l.countP (fun y => decide (m.model = 1) || decide (y.var = v))
def putOk (l : List EntryD) (m : MachD) (x : EntryD) : Bool := (decide (m.model = 1) || decide (m.model = 2)) && decide ((putCount l m x.var : Int) < m.bound)
def putB (l : List EntryD) (m : MachD) (x : EntryD) : List EntryD := if putOk l m x then l ++ [x] else l
theorem count_step {l : List EntryD} {i : Nat} (hi : i < l.length) (p : EntryD → Bool) : (l.take (i + 1)).countP p = (l.take i).countP p + (if p (l.getD i default) then 1 else 0) := by
 rw [List.take_add_one, List.countP_append, List.getElem?_eq_getElem hi, List.getD_eq_getElem?_getD, List.getElem?_eq_getElem hi]
 simp [List.countP_cons]
end Go.Proofs.YtliajkheeniljaaGreatDoor
namespace Go.Proofs.YtliajkheeniljaaGreatDoor
open Go.RowKit
set_option maxRecDepth 100000
set_option maxHeartbeats 16000000
def scanB (l : List EntryD) (v : Int) : Nat → Option Int
 | 0 => none
 | k + 1 => if (l.getD k default).var = v then some (l.getD k default).n else scanB l v k
def lookB (l : List EntryD) (v : Int) : Option Int := scanB l v l.length
theorem entry_ext {a b : EntryD} (h1 : a.var = b.var) (h2 : a.n = b.n) : a = b := by cases a; cases b; simp_all
theorem list_ext_getD {α : Type} [Inhabited α] {a b : List α} (hl : a.length = b.length) (h : ∀ i, i < a.length → a.getD i default = b.getD i default) : a = b := by
 apply List.ext_getElem hl
 intro i h1 h2
 have := h i h1
 simpa [List.getD_eq_getElem?_getD, h1, h2] using this
end Go.Proofs.YtliajkheeniljaaGreatDoor
namespace Go.Proofs.YtliajkheeniljaaGreatDoor
open Go.RowKit
set_option maxRecDepth 100000
set_option maxHeartbeats 16000000
def takeTo (l : List EntryD) (v : Int) : Nat → Option EntryD × List EntryD
 | 0 => (none, [])
 | i + 1 => if (takeTo l v i).1.isNone && decide ((l.getD i default).var = v) then (some (l.getD i default), (takeTo l v i).2) else ((takeTo l v i).1, (takeTo l v i).2 ++ [l.getD i default])
def takeB (l : List EntryD) (v : Int) : Option EntryD × List EntryD := takeTo l v l.length
theorem takeTo_len (l : List EntryD) (v : Int) (i : Nat) : (takeTo l v i).2.length ≤ i := by
 induction i with
 | zero => simp [takeTo]
 | succ i ih =>
  unfold takeTo
  split
  ·simp only []; omega
  ·simp only [List.length_append, List.length_cons, List.length_nil]; omega
theorem results_cell2 {P : Program} {fn : Func} {p u v : Tmp} {ty : TypeId} (h : fn.results = #[.cell p ty, .tmp u, .tmp v]) (tmps : Array Value) (w : World) (g : Nat) (t : TypeId) (cs : Array Value) (fr : Nat × Nat) (d : TypeDesc)
  (hp : tmps.getD p undef = .pointer (some ⟨g, 0, none⟩)) (hg : w.heap[g]? = some (.cells cs t fr))
  (hu : P.underlying ty = some d) (hd : (match d with | .struct _ | .array _ _ => true | _ => false) = true) (hi : (P.info? ty).map (·.size) = some cs.size) :
  (results fn tmps).run P w = .ok (.tuple #[.agg cs, tmps.getD u undef, tmps.getD v undef]) w := by
 have hp' : tmps[p]?.getD undef = .pointer (some ⟨g, 0, none⟩) := by simpa using hp
 simp [results, h, hp', asAddr, run_loadVar_row w g t ty cs fr d hg hu hd hi]
theorem results_cell {P : Program} {fn : Func} {p : Tmp} {ty : TypeId} (h : fn.results = #[.cell p ty]) (tmps : Array Value) (w : World) (g : Nat) (t : TypeId) (cs : Array Value) (fr : Nat × Nat) (d : TypeDesc)
  (hp : tmps.getD p undef = .pointer (some ⟨g, 0, none⟩)) (hg : w.heap[g]? = some (.cells cs t fr))
  (hu : P.underlying ty = some d) (hd : (match d with | .struct _ | .array _ _ => true | _ => false) = true) (hi : (P.info? ty).map (·.size) = some cs.size) :
  (results fn tmps).run P w = .ok (.agg cs) w := by
 have hp' : tmps[p]?.getD undef = .pointer (some ⟨g, 0, none⟩) := by simpa using hp
 simp [results, h, hp', asAddr, run_loadVar_row w g t ty cs fr d hg hu hd hi]
theorem results_cell1 {P : Program} {fn : Func} {p u : Tmp} {ty : TypeId} (h : fn.results = #[.cell p ty, .tmp u]) (tmps : Array Value) (w : World) (g : Nat) (t : TypeId) (cs : Array Value) (fr : Nat × Nat) (d : TypeDesc)
  (hp : tmps.getD p undef = .pointer (some ⟨g, 0, none⟩)) (hg : w.heap[g]? = some (.cells cs t fr))
  (hu : P.underlying ty = some d) (hd : (match d with | .struct _ | .array _ _ => true | _ => false) = true) (hi : (P.info? ty).map (·.size) = some cs.size) :
  (results fn tmps).run P w = .ok (.tuple #[.agg cs, tmps.getD u undef]) w := by
 have hp' : tmps[p]?.getD undef = .pointer (some ⟨g, 0, none⟩) := by simpa using hp
 simp [results, h, hp', asAddr, run_loadVar_row w g t ty cs fr d hg hu hd hi]
theorem entry_size : (Tryz.prog.info? 50).map (·.size) = some 2 := by kernel_rfl
theorem two_new (w : World) (a b : Value) (t : TypeId) : ∀ j u, [a, b][j]? = some u → (w.alloc (.cells #[a, b] t)).cell? ((⟨w.heap.size, 0, none⟩ : Addr).add j) = some u := by
 intro j u hj
 have h := fun i => qcb (qhn w (.cells #[a, b] t)) i
 match j with
 | 0 => simp only [List.getElem?_cons_zero, Option.some.injEq] at hj; subst hj; simp [Addr.add, h 0]
 | 1 => simp only [List.getElem?_cons_succ, List.getElem?_cons_zero, Option.some.injEq] at hj; subst hj; simp [Addr.add, h 1]
 | j + 2 => simp at hj
end Go.Proofs.YtliajkheeniljaaGreatDoor
namespace Go.Proofs.YtliajkheeniljaaGreatDoor
open Go.RowKit
set_option maxRecDepth 100000
set_option maxHeartbeats 16000000
def evalOp (op a b : Int) : Int :=
 if op = 43 then wrap64 (a + b) else if op = 45 then wrap64 (a - b) else if op = 42 then wrap64 (a * b) else if op = 38 then bits .and .i64 a b else if op = 124 then bits .or .i64 a b
 else if op = 60 then (if a < b then 1 else 0) else if op = 61 then (if a = b then 1 else 0) else if op = 33 then (if a = b then 0 else 1) else 0
def evalN (regs : List Int) (dom : Int) : Nat → ExprT → Int
 | 0, _ => 0
 | d + 1, x =>
  if x.kind = 1 then x.n
  else if x.kind = 2 then (if 0 ≤ x.n ∧ x.n < 4 then regs.getD x.n.toNat 0 else 0)
  else if x.kind = 3 ∧ x.kids.length = 2 then evalOp x.op (evalN regs dom d (x.kids.getD 0 default)) (evalN regs dom d (x.kids.getD 1 default)) % dom
  else 0
theorem tmod_mod (n dom : Int) (h : 1 ≤ dom) : (n.tmod dom + dom).tmod dom = n % dom := by
 have h1 := Int.tmod_lt_of_pos n (show 0 < dom by omega)
 have h2 := Int.lt_tmod_of_pos n (show 0 < dom by omega)
 rw [Int.tmod_eq_emod_of_nonneg (by omega), Int.add_emod_right]
 rw [Int.tmod_def]
 rw [Int.sub_emod, Int.mul_emod_right]
 simp
theorem wrap_add {q dom : Int} (h2 : q < dom) (h3 : -dom < q) (h1 : 1 ≤ dom) (h : dom ≤ 1000) : wrap64 (q + dom) = q + dom := by unfold wrap64; omega
theorem regs_new (w : World) (o1 : Obj) (r0 r1 r2 r3 : Int) : ∀ m : Nat, m < 4 → ((w.alloc o1).alloc (.cells #[.int .i64 r0, .int .i64 r1, .int .i64 r2, .int .i64 r3] 45)).cell? ⟨w.heap.size + 1, m, none⟩ = some (.int .i64 ([r0, r1, r2, r3].getD m 0)) := fun m hm => by
 rw [qcb (boxes_second w _ _) m]
 have : m = 0 ∨ m = 1 ∨ m = 2 ∨ m = 3 := by omega
 rcases this with rfl | rfl | rfl | rfl <;> rfl
end Go.Proofs.YtliajkheeniljaaGreatDoor
namespace Go.Proofs.YtliajkheeniljaaGreatDoor
open Go.RowKit
set_option maxRecDepth 100000
set_option maxHeartbeats 16000000
def insV (x : Int) : List Int → List Int
 | [] => [x]
 | y :: l => if x < y then x :: y :: l else y :: insV x l
theorem insV_len (x : Int) (l : List Int) : (insV x l).length = l.length + 1 := by
 induction l with
 | nil => rfl
 | cons y l ih => unfold insV; split <;> simp [ih]
def headsTo (l : List EntryD) : Nat → List Int
 | 0 => []
 | i + 1 => if (List.range i).all (fun k => decide (¬ (l.getD k default).var = (l.getD i default).var)) then insV (l.getD i default).var (headsTo l i) else headsTo l i
def headsB (l : List EntryD) (model : Int) : List Int :=
 if model = 2 then headsTo l l.length else if model = 1 then (match l with | [] => [] | x :: _ => [x.var]) else []
theorem headsTo_len (l : List EntryD) (i : Nat) : (headsTo l i).length ≤ i := by
 induction i with
 | zero => simp [headsTo]
 | succ i ih =>
  unfold headsTo
  split
  ·rw [insV_len]; omega
  ·omega
theorem cell_one_new (w : World) (v : Value) (e : TypeId) : ∀ j u, [v][j]? = some u → (w.alloc (.cells #[v] e)).cell? ((⟨w.heap.size, 0, none⟩ : Addr).add j) = some u := by
 intro j u hj
 cases j with
 | zero =>
  simp only [List.getElem?_cons_zero, Option.some.injEq] at hj
  subst hj
  have := qcb (qhn w (.cells #[v] e)) 0
  simp [Addr.add]
 | succ j => simp at hj
theorem flat_one (l : List Int) (x : Int) : flatC intC (l ++ [x]) = flatC intC l ++ [.int .i64 x] := by rw [flatC_append]; rfl
theorem _root_.Go.World.ownsRow.drewN_ {w : World} {B : Nat} {e : TypeId} {size : Nat} {v : Value} {n : Nat} {xs : List Value} (h : w.ownsRow B e size v n xs) (k : Nat) : (w.drewN k).ownsRow B e size v n xs := (Since.drewN (fun _ => False) k (Since.refl _ w)).row h (fun _ _ h => h)
theorem push_int {B : Nat} {w X : World} {a a' : Option Addr} {n c c' : Nat} {l : List Int} {x : Int} {o : Obj} (ho : w.ownsRow B 3 1 (.slice a n c) n (flatC intC l)) (h1 : X.ownsRow B 3 1 (.slice a' (n + 1) c') (n + 1) (flatC intC l ++ [.int .i64 x]))
  (h4 : Since (fun k => (Value.slice a n c).ownBlock = some k) (w.alloc o) X) {V : World} (hV : Below V.heap.size V w) (hB : V.heap.size ≤ B) : X.ownsRow B 3 1 (.slice a' (n + 1) c') (n + 1) (flatC intC (l ++ [x])) ∧ Below V.heap.size V X := by
 refine ⟨by rw [flat_one]; exact h1, hV.trans ((((Since.refl _ w).alloc o).trans h4 (fun k hk => .inl hk)).below hV.size (fun k hk => Nat.le_trans hB (ho.lt k hk).1))⟩
end Go.Proofs.YtliajkheeniljaaGreatDoor
