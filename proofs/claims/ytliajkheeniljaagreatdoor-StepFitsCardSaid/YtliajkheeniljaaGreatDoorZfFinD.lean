/- Finals as data; append of a slice that may be nil. What is behind a move: the document's answer: the walk. All states that are come to: the document's answer: the walk. Two threads that each store and look at the other one's: the code, in memory. -/
import Derived.Test.YtliajkheeniljaaGreatDoorZfApp
import Derived.Test.YtliajkheeniljaaGreatDoorZfCodeP
import Derived.Test.YtliajkheeniljaaGreatDoorZfStep
import Derived.Test.YtliajkheeniljaaGreatDoorZfStepQ
import Derived.Test.YtliajkheeniljaaGreatDoorZfShort
set_option linter.all false
namespace Go.Proofs.YtliajkheeniljaaGreatDoor
open Go.RowKit
set_option maxRecDepth 100000
set_option maxHeartbeats 16000000
theorem wpList_append_src {P : Program} (w : World) {ops : Array Oper} {rest : List Oper} {o : Oper} {a : Act} {Q : Exit → Act → World → Prop} (hgd : o.guard = none) (s x : Operand) (t : TypeId)
  (ho : o.op = .call { callee := .builtin .append, args := #[s, x], argTypes := #[t, t] })
  (e : TypeId) (z : Value) (size bytes : Nat) (ht : P.underlying t = some (.slice e)) (hinfo : (P.info? e).map (fun i => (i.zero, i.size, i.bytes)) = some (some z, size, bytes)) (hzs : z.cells.size = size) (hsz : 0 < size)
  (base : Nat) (v : Value) (n : Nat) (xs : List Value) (hs : a.eval s = v) (hown : w.ownsRow base e size v n xs)
  (ad : Option Addr) (m c : Nat) (news : List Value) (hx : a.eval x = .slice ad m c) (hl : news.length = m * size) (hnews : ∀ A, ad = some A → ∀ j u, news[j]? = some u → w.cell? (A.add j) = some u) (hnone : ad = none → m = 0) (h1 : ∀ u ∈ news, u.oneCell' = true)
  (h63 : n + m ≤ maxLen) (hbytes : (n + m) * bytes ≤ 140737488355328) (hbase : base ≤ w.heap.size)
  (h : ∀ a' cap' w', w'.ownsRow base e size (.slice a' (n + m) cap') (n + m) (xs ++ news) → cap' ≤ 9223372036854775807 → n + m ≤ cap' → Since (fun k => v.ownBlock = some k) w w' →
   (∀ k, (Value.slice a' (n + m) cap').ownBlock = some k → v.ownBlock = some k ∨ k = w.heap.size) →
   wpList P ops Q rest (a.put o.dst (.slice a' (n + m) cap')) w') : wpList P ops Q (o :: rest) a w := by
 cases ad with
 | some A => exact wpList_append_at_ w hgd s x t ho e z size bytes ht hinfo hzs hsz base v n xs hs hown A m c news hx hl (hnews A rfl) h1 h63 hbytes hbase (fun a' cap' w' p1 p2 p3 p4 p5 _ => h a' cap' w' p1 p2 p3 p4 p5)
 | none =>
  have hm := hnone rfl
  subst hm
  have hn : news = [] := List.eq_nil_of_length_eq_zero (by simpa using hl)
  subst hn
  obtain ⟨i, hi, hz, hsize, hby⟩ := info_parts hinfo
  obtain ⟨va, cap, rfl, hc1, hc2⟩ := row_slice hown
  have hr : (Builtin.append_ #[t, t] o.type #[.slice va n cap, .slice none 0 c]).run P w = .ok (.slice va n cap) w := by
   cases va <;> simp [Builtin.append_, run_underlying ht, sizeOf, typeInfo, hi, Builtin.lenOf, Builtin.firstCells, hc1, storeCells]
  refine wpList_plain hgd fun _ hK => ?_
  unfold Oper.wp execOp
  simp only [ho, resolve, invoke, builtin, Sem.run_bind, Sem.run_pure, Result.andThen_ok, List.map_toArray, List.map_cons, List.map_nil, hs, hx, hr]
  exact hK _ _ (h va cap w (by rw [List.append_nil]; exact hown) (by unfold maxLen at hc2; omega) hc1 (Since.refl _ _) (fun k hk => .inl hk))
theorem row_of_block {X : World} {B g size n : Nat} {e : TypeId} {cs : List Value} (h : X.heap[g]? = some (.cells cs.toArray e (0, 0))) (hB : B ≤ g) (hl : cs.length = n * size) (hn : n ≤ maxLen) : X.ownsRow B e size (.slice (some ⟨g, 0, none⟩) n n) n cs :=
 ⟨hl, .inr ⟨g, n, cs.toArray, rfl, hB, h, Nat.le_refl _, hn, by simp [hl], by rw [List.take_of_length_le (by simp [hl])]⟩⟩
def Regs4R (_ : World) (r : List Int) (cs : List Value) : Prop := r.length = 4 ∧ cs = [.int .i64 (r.getD 0 0), .int .i64 (r.getD 1 0), .int .i64 (r.getD 2 0), .int .i64 (r.getD 3 0)]
abbrev RegsAt := SliceR Regs4R 4
structure FinalAt (w : World) (f : FinalD) (mv rv : Value) : Prop where
 mem : IntsAt w mv f.mem
 regs : RegsAt w rv f.regs
def FinalR (w : World) (f : FinalD) (cs : List Value) : Prop := ∃ mv rv, cs = [mv, rv] ∧ FinalAt w f mv rv
abbrev FinalsAt := SliceR FinalR 2
end Go.Proofs.YtliajkheeniljaaGreatDoor
namespace Go.Proofs.YtliajkheeniljaaGreatDoor
open Go.RowKit
set_option maxRecDepth 100000
set_option maxHeartbeats 16000000
theorem boxes5_below (w : World) (o1 o2 o3 o4 o5 : Obj) : Below w.heap.size w (((((w.alloc o1).alloc o2).alloc o3).alloc o4).alloc o5) ∧ (((((w.alloc o1).alloc o2).alloc o3).alloc o4).alloc o5).heap[w.heap.size]? = some o1 ∧ (((((w.alloc o1).alloc o2).alloc o3).alloc o4).alloc o5).heap[w.heap.size + 1]? = some o2 ∧
  (((((w.alloc o1).alloc o2).alloc o3).alloc o4).alloc o5).heap[w.heap.size + 2]? = some o3 ∧ (((((w.alloc o1).alloc o2).alloc o3).alloc o4).alloc o5).heap[w.heap.size + 3]? = some o4 ∧ (((((w.alloc o1).alloc o2).alloc o3).alloc o4).alloc o5).heap[w.heap.size + 4]? = some o5 := by
 obtain ⟨h0, h1, h2, h3, h4, -⟩ := boxes4_below w o1 o2 o3 o4
 refine ⟨h0.alloc (by simp; omega) o5, (Below.heap_alloc _ _ _ (by simp; omega)).trans h1, (Below.heap_alloc _ _ _ (by simp; try omega)).trans h2, (Below.heap_alloc _ _ _ (by simp; try omega)).trans h3, (Below.heap_alloc _ _ _ (by simp; try omega)).trans h4, ?_⟩
 have := qhn ((((w.alloc o1).alloc o2).alloc o3).alloc o4) o5
 simpa using this
def moveV (x : MoveD) : Value := .agg #[.int .i64 x.kind, .int .i64 x.thread, .int .i64 x.var]
def stepR (o : Option StateD) : StateD × Int := match o with | some t => (t, 0) | none => (emptyS, 50)
end Go.Proofs.YtliajkheeniljaaGreatDoor
namespace Go.Proofs.YtliajkheeniljaaGreatDoor
open Go.RowKit
set_option maxRecDepth 100000
set_option maxHeartbeats 16000000
def SpaceAt (w : World) (s : SpaceD) (sv mv nv : Value) : Prop := StatesAt w sv s.states ∧ SliceR MovesR 1 w mv s.moves ∧ SliceR IntsR 1 w nv s.next
section
variable {W X X1 : World} {g r : Nat} {sv mv nv xv : Value} {sl : List StateD} {ml : List (List MoveD)} {nl : List (List Int)} {xl : List Int} {sc mc nc : List (List Value)}
end
end Go.Proofs.YtliajkheeniljaaGreatDoor
namespace Go.Proofs.YtliajkheeniljaaGreatDoor
open Go.RowKit
set_option maxRecDepth 100000
set_option maxHeartbeats 16000000
def num1 : ExprT := .mk 1 1 0 []
def noE : ExprT := .mk 0 0 0 []
def dekkerC : CodeD := ⟨2, 2, [[⟨2, 0, 0, num1, noE, 0⟩, ⟨1, 0, 1, noE, noE, 0⟩], [⟨2, 0, 1, num1, noE, 0⟩, ⟨1, 0, 0, noE, noE, 0⟩]]⟩
theorem num_any (w : World) : Calls Tryz.prog 69 #[.int .i64 1] w fun e w' => e = .returned (.agg #[.int .i64 1, .int .i64 1, .int .u8 0, .slice none 0 0]) ∧ Below w.heap.size w w' := by
 go_enter Tryz.func69, Tryz.ntmps69
 go_wp2
 exact bodyPost_ret (v := .agg #[.int .i64 1, .int .i64 1, .int .u8 0, .slice none 0 0]) (by simp [results, Tryz.results69, go_sem]) rfl ⟨rfl, (Below.refl _ _).alloc (Nat.le_refl _) _⟩
theorem rows_at {d : Nat} {w : World} {l : List (List InstrD)} {g m : Nat} {vs : List Value} {t : TypeId} (hb : w.heap[g]? = some (.cells vs.toArray t (0, 0))) (hm : l.length ≤ m ∧ m ≤ 9223372036854775807) (h : ∀ j, j < l.length → ∃ v, vs[j]? = some v ∧ InstrsAt d w v (l.getD j [])) : RowsAt d w (.slice (some ⟨g, 0, none⟩) l.length m) l :=
 ⟨_, _, rfl, hm, fun j hj => by
  obtain ⟨v, hv, hi⟩ := h j hj
  refine ⟨g, 0, [v], rfl, qlb hb, rfl, fun i hi => ?_, v, rfl, hi⟩
  obtain rfl : i = 0 := by omega
  rw [show 0 + j * 1 + 0 = j by omega, qcb hb, List.getElem?_toArray, hv]; rfl⟩
theorem expr_leaf (w : World) (k n o : Int) : ExprAt 1 w (.mk k n o []) (.slice none 0 0) := ⟨none, 0, rfl, by simp [ExprT.kids], fun j hj => by simp [ExprT.kids] at hj⟩
theorem code_size : (Tryz.prog.info? 24).map (·.size) = some 3 := by kernel_rfl
def leafC (x : InstrD) : List Value := x.cells (.slice none 0 0) (.slice none 0 0)
theorem leaf_len (x : InstrD) : (leafC x).length = 12 := rfl
theorem leaf_expr (w : World) {x : ExprT} (h : x.kids = []) : ExprAt 1 w x (.slice none 0 0) := by
 obtain ⟨k, n, o, l⟩ := x
 have : l = [] := h
 subst this
 exact expr_leaf _ _ _ _
theorem leaf_instrs {w : World} {g m : Nat} {l : List InstrD} {t : TypeId} (hb : w.heap[g]? = some (.cells (flatC leafC l).toArray t (0, 0))) (hl : l.length ≤ maxLen) (hm : l.length = m) (h : ∀ j, j < l.length → (l.getD j default).a.kids = [] ∧ (l.getD j default).b.kids = []) : InstrsAt 1 w (.slice (some ⟨g, 0, none⟩) m m) l := by
 subst hm
 exact SliceR.of_row (R := InstrR 1) (row_of_block (B := 0) hb (Nat.zero_le _) (flatC_len leaf_len l) hl) fun j hj => ⟨leafC (l.getD j default), leaf_len _, fun _ hi => flatC_at leaf_len hj hi, _, _, rfl, leaf_expr _ (h j hj).1, leaf_expr _ (h j hj).2⟩
def DekEnd (w : World) (e : Ending) (w' : World) : Prop := (∃ tv, e = .returned (codeV dekkerC tv) ∧ RowsAt 1 w' tv dekkerC.threads) ∧ Below w.heap.size w w'
theorem dekker_any (w : World) : Calls Tryz.prog 41 #[] w (DekEnd w) := by
 go_enter Tryz.func41, Tryz.ntmps41
 go_upto_region 1 with fail
 have L0 := qh ((Loc.start w).alloc 24 [.int .i64 0, .int .i64 0, .slice none 0 0])
 generalize World.alloc w _ = W0 at L0 ⊢
 generalize w.heap.size = g at L0 ⊢
 go_upto_region 2 with (go_at_call 69; go_must (refine (num_any _).mono ?_); rintro e W1 ⟨rfl, hb⟩; have L1 := qh ((L0.out.later hb).alloc 64 [.int .i64 2, .int .i64 0, .int .i64 0, .int .i64 1, .int .i64 1, .int .u8 0, .slice none 0 0, .int .i64 0, .int .i64 0, .int .u8 0, .slice none 0 0, .int .i64 0, .int .i64 1, .int .i64 0, .int .i64 1, .int .i64 0, .int .i64 0, .int .u8 0, .slice none 0 0, .int .i64 0, .int .i64 0, .int .u8 0, .slice none 0 0, .int .i64 0]); clear hb L0)
 generalize World.alloc W1 _ = X at L1 ⊢
 generalize W1.heap.size = b1 at L1 ⊢
 go_upto_region 3 with (go_at_call 69; go_must (refine (num_any _).mono ?_); rintro e W2 ⟨rfl, hb⟩; have L3 := qh ((L1.out.later hb).alloc 64 [.int .i64 2, .int .i64 0, .int .i64 1, .int .i64 1, .int .i64 1, .int .u8 0, .slice none 0 0, .int .i64 0, .int .i64 0, .int .u8 0, .slice none 0 0, .int .i64 0, .int .i64 1, .int .i64 0, .int .i64 0, .int .i64 0, .int .i64 0, .int .u8 0, .slice none 0 0, .int .i64 0, .int .i64 0, .int .u8 0, .slice none 0 0, .int .i64 0]); clear hb L1)
 generalize World.alloc W2 _ = Y at L3 ⊢
 generalize W2.heap.size = b2 at L3 ⊢
 have l5 := L3.out.alloc 59 [.slice (some ⟨b1, 0, none⟩) 2 2, .slice (some ⟨b2, 0, none⟩) 2 2]
 have hg := (l5.news (g, 24, [.int .i64 0, .int .i64 0, .slice none 0 0]) (by simp)).1
 have L5 := qh l5
 have k0 := qcb hg 0
 have k1 := qcb hg 1
 have k2 := qcb hg 2
 have z0 := qfb hg 0
 have z1 := qfb hg 1
 have z2 := qfb hg 2
 clear l5 hg L3
 go_wp2
 have l6 := L5.out.store (g := g) (t := 24) (cs := [.int .i64 0, .int .i64 0, .slice none 0 0]) (by simp) [.int .i64 2, .int .i64 2, .slice (some ⟨Y.heap.size, 0, none⟩) 2 2] rfl
 have ha := L5.out.apart
 simp only [List.map_cons, List.map_nil, List.nodup_cons, List.mem_cons, List.not_mem_nil, or_false, not_or] at ha
 have hg := (l6.news _ (upd_mem (t := 24) (cs := [.int .i64 0, .int .i64 0, .slice none 0 0]) (by simp))).1
 have hy := (l6.news _ (mem_upd (p := (Y.heap.size, 59, [.slice (some ⟨b1, 0, none⟩) 2 2, .slice (some ⟨b2, 0, none⟩) 2 2])) (by simp) ha.1.2.2)).1
 have h2 := (l6.news _ (mem_upd (p := (b2, 64, [.int .i64 2, .int .i64 0, .int .i64 1, .int .i64 1, .int .i64 1, .int .u8 0, .slice none 0 0, .int .i64 0, .int .i64 0, .int .u8 0, .slice none 0 0, .int .i64 0, .int .i64 1, .int .i64 0, .int .i64 0, .int .i64 0, .int .i64 0, .int .u8 0, .slice none 0 0, .int .i64 0, .int .i64 0, .int .u8 0, .slice none 0 0, .int .i64 0])) (by simp) ha.2.1.2)).1
 have h1 := (l6.news _ (mem_upd (p := (b1, 64, [.int .i64 2, .int .i64 0, .int .i64 0, .int .i64 1, .int .i64 1, .int .u8 0, .slice none 0 0, .int .i64 0, .int .i64 0, .int .u8 0, .slice none 0 0, .int .i64 0, .int .i64 1, .int .i64 0, .int .i64 1, .int .i64 0, .int .i64 0, .int .u8 0, .slice none 0 0, .int .i64 0, .int .i64 0, .int .u8 0, .slice none 0 0, .int .i64 0])) (by simp) ha.2.2.1)).1
 have L6 := qh l6.below
 change bodyPost _ _ _ _ _ (setAll _ g 0 [.int .i64 2, .int .i64 2, .slice (some ⟨Y.heap.size, 0, none⟩) 2 2])
 generalize setAll _ g 0 _ = Z at hg hy h2 h1 L6 ⊢
 refine bodyPost_ret (results_cell rfl _ _ g 24 _ (0, 0) _ rfl hg Tryz.underlying24 rfl code_size) rfl ?_
 refine ⟨⟨_, rfl, rows_at (l := dekkerC.threads) hy (by decide) fun j hj => ?_⟩, L6.out⟩
 match j, hj with
 | 0, _ => exact ⟨_, rfl, leaf_instrs (l := [⟨2, 0, 0, num1, noE, 0⟩, ⟨1, 0, 1, noE, noE, 0⟩]) h1 (by decide) rfl (fun j hj => by match j, hj with | 0, _ => exact ⟨rfl, rfl⟩ | 1, _ => exact ⟨rfl, rfl⟩)⟩
 | 1, _ => exact ⟨_, rfl, leaf_instrs (l := [⟨2, 0, 1, num1, noE, 0⟩, ⟨1, 0, 0, noE, noE, 0⟩]) h2 (by decide) rfl (fun j hj => by match j, hj with | 0, _ => exact ⟨rfl, rfl⟩ | 1, _ => exact ⟨rfl, rfl⟩)⟩
end Go.Proofs.YtliajkheeniljaaGreatDoor
