/- Formulas by numbers: the walk that makes one. -/
import Derived.Test.YtidnpdkibndpkaaMadeA
import Derived.Deep.RegionLaw
import Derived.IntWalk
import Derived.Test.YtidnpdkibndpkaaRRight
namespace Go.Proofs.Ytidnpdkibndpkaa
open Go.RowKit

/-- How many there are, and how many numbers were taken. -/
def Counts (f : Form) (a a' : Nat) : Prop := ∃ N, f.size ≤ 2 * N + 1 ∧ N ≤ 20 - a ∧ a + N ≤ a' ∧ a' ≤ a + 10 * f.size
/-- A formula is made. -/
def TellsMade (w0 : World) (sv : Value) (deep a t : Nat) (w : World) (e : Ending) (w' : World) : Prop :=
  ∃ (k p1 p2 p3 p4 : Int) (kids : List Form) (ka : Option Addr) (kc a' t' : Nat), e = .returned (.agg #[.int .i64 k, .int .i64 p1, .int .i64 p2, .int .i64 p3, .int .i64 p4, .slice ka kids.length kc]) ∧
    FormAtP (fun b => w.heap.size ≤ b) w' (deep + 1) (.mk k ⟨p1, p2, p3, p4⟩ kids) (.slice ka kids.length kc) ∧ (Form.mk k ⟨p1, p2, p3, p4⟩ kids).okD (deep + 1) = true ∧ MadeSt w0 w' sv a' t' ∧ Since (Turns w0) w w' ∧
    Counts (.mk k ⟨p1, p2, p3, p4⟩ kids) a a' ∧ t' ≤ t
def MakerAt (w0 : World) (sv : Value) (deep : Nat) : Prop := ∀ (w : World) (a t : Nat), MadeSt w0 w sv a t → a ≤ 100000 * (6 - deep) → t ≤ 1000 →
    Calls Try.prog 22 #[.int .i64 deep, .pointer (some ⟨w0.heap.size + 4, 0, none⟩), .pointer (some ⟨w0.heap.size + 3, 0, none⟩), .pointer (some ⟨w0.heap.size, 0, none⟩), .pointer (some ⟨w0.heap.size + 1, 0, none⟩), .pointer (some ⟨w0.heap.size + 5, 0, none⟩)] w (TellsMade w0 sv deep a t w)
def NotAtom (deep a t : Nat) (k : Nat) : Prop := k ≠ 3 → 1 ≤ deep ∧ a + 1 ≤ 20 ∧ (8 ≤ k → 1 ≤ t)
theorem val_int {a b : Int} (h : a = b) : Value.int .i64 a = Value.int .i64 b := by rw [h]

theorem form_info : (Try.prog.info? 26).map (fun i => (i.zero, i.size, i.bytes)) = some (some (.agg #[.int .i64 0, .int .i64 0, .int .i64 0, .int .i64 0, .int .i64 0, .slice none 0 0]), 6, 64) := by kernel_rfl
theorem FormAtP.mono {P Q : Nat → Prop} {w : World} {d : Nat} {f : Form} {kv : Value} (h : FormAtP P w d f kv) (hPQ : ∀ b, P b → b < w.heap.size → Q b) : FormAtP Q w d f kv := by
  induction d generalizing f kv with
  | zero => exact h.elim
  | succ d ih =>
    obtain ⟨a, cap, h1, h2, h4⟩ := h
    refine ⟨a, cap, h1, h2, fun j hj => ?_⟩
    obtain ⟨b, off, kv', h5, h6, h7, h8⟩ := h4 j hj
    exact ⟨b, off, kv', h5, ⟨hPQ b h6.1 h6.2, h6.2⟩, h7, ih h8⟩
theorem sizeL_snoc (l : List Form) (f : Form) : sizeL (l ++ [f]) = sizeL l + f.size := by
  induction l with
  | nil => simp [sizeL]
  | cons g l ih => simp only [List.cons_append, sizeL, ih]; omega
/-- Append to a row of the call's own, inside a drawn region: where it lies behind it is told, too. -/
theorem step_append_where_ {P : Program} (w : World) {ops : Array Oper} {o : Oper} {a : Act} {K : Act → World → Prop} {Q : Exit → Act → World → Prop} {E : Prop} (hw : Region.wanted o (yielded ops a.tmps) = true) (s x : Operand) (t : TypeId)
    (ho : o.op = .call { callee := .builtin .append, args := #[s, x], argTypes := #[t, t] })
    (e : TypeId) (z : Value) (size bytes : Nat) (ht : P.underlying t = some (.slice e)) (hinfo : (P.info? e).map (fun i => (i.zero, i.size, i.bytes)) = some (some z, size, bytes)) (hzs : z.cells.size = size) (hsz : 0 < size)
    (base : Nat) (v : Value) (n : Nat) (xs : List Value) (hs : a.eval s = v) (hown : w.ownsRow base e size v n xs)
    (ad : Addr) (m c : Nat) (news : List Value) (hx : a.eval x = .slice (some ad) m c) (hl : news.length = m * size) (hnews : ∀ j u, news[j]? = some u → w.cell? (ad.add j) = some u) (h1 : ∀ u ∈ news, u.oneCell' = true)
    (h63 : n + m ≤ maxLen) (hbytes : (n + m) * bytes ≤ 140737488355328) (hbase : base ≤ w.heap.size)
    (h : ∀ a' cap' w', w'.ownsRow base e size (.slice a' (n + m) cap') (n + m) (xs ++ news) → cap' ≤ 9223372036854775807 → n + m ≤ cap' → Since (fun k => v.ownBlock = some k) w w' →
      (∀ k, (Value.slice a' (n + m) cap').ownBlock = some k → v.ownBlock = some k ∨ k = w.heap.size) →
      K (a.put o.dst (.slice a' (n + m) cap')) w') : if Region.wanted o (yielded ops a.tmps) = true then Oper.wp P o a w K Q else E := by
  rw [if_pos hw]
  obtain ⟨i, hi, hz, hsize, hby⟩ := info_parts hinfo
  obtain ⟨v', w', hr, h2, h3, h4⟩ := run_append_own (P := P) w base t o.type e i z size bytes ht hi hz hsize hby hzs hsz v n xs hown ad m c news hl hnews h1 h63 hbytes hbase
  have hwh := append_where ht hi hz hsize hby hown hl hnews h1 h63 hbytes hr
  obtain ⟨a', cap', rfl, hc1, hc2⟩ := row_slice h2
  unfold Oper.wp execOp
  simp only [ho, resolve, invoke, builtin, Sem.run_bind, Sem.run_pure, Result.andThen_ok, List.map_toArray, List.map_cons, List.map_nil, hs, hx, hr]
  refine h a' cap' w' h2 (by unfold maxLen at hc2; omega) hc1 ((Since.refl _ _).grown h3 (fun k hk => .inl hk)) (fun k hk => ?_)
  rw [hk] at hwh
  rcases hwh with hwh | hwh
  · exact .inl hwh.symm
  · exact .inr (by simpa using hwh)
def Sums (made : List (Form × Value)) (a2 a3 : Nat) : Prop := ∃ N, sizeL (made.map (·.1)) ≤ 2 * N + made.length ∧ N ≤ 20 - a2 ∧ a2 + N ≤ a3 ∧ a3 ≤ a2 + 10 * sizeL (made.map (·.1))
theorem propOk1 (x y : Nat) (hx : x ≤ 9) (hy : y ≤ 9) : propOk ⟨1, 0, x, y⟩ = true := by simp [propOk, placesOf, propFits, PropD.field, PropD.only]; omega
theorem propOk2 (x y z : Nat) (hx : x ≤ 9) (hy : y ≤ 9) (hz : z ≤ 9) : propOk ⟨2, x, y, z⟩ = true := by simp [propOk, placesOf, propFits, PropD.field, PropD.only]; omega
theorem propOk3 (x y : Nat) (hx : x ≤ 9) (hy : y ≤ 9) : propOk ⟨3, x, 0, y⟩ = true := by simp [propOk, placesOf, propFits, PropD.field, PropD.only]; omega
theorem propOk4 (x : Nat) (hx : x ≤ 9) : propOk ⟨4, x, 0, 0⟩ = true := by simp [propOk, placesOf, propFits, PropD.field, PropD.only]; omega
theorem propOk6 (x : Nat) (hx : x ≤ 9) : propOk ⟨6, x, 0, 0⟩ = true := by simp [propOk, placesOf, propFits, PropD.field, PropD.only]; omega
theorem maker_round {w0 w wr w2 w3 : World} {sv : Value} {F : Nat} {k p1 p2 p3 p4 gk g1 g2 g3 g4 : Int} {made : List (Form × Value)} {oa xa ga : Option Addr} {oc n xc a2 a3 a4 t4 deep gc : Nat} {gl : List Form}
    (hF6 : w0.heap.size + 6 ≤ F) (hFR : w.heap.size < F) (hz : w0.heap.size + 6 ≤ w.heap.size) (hdp : 1 ≤ deep) (HND : n = made.length)
    (HF52 : wr.heap[F]? = some (.cells #[.int .i64 k, .int .i64 p1, .int .i64 p2, .int .i64 p3, .int .i64 p4, .slice oa n oc] 26 (0, 0)))
    (HOW2 : wr.ownsRow (F + 1) 26 6 (.slice oa n oc) n (made.flatMap (fun q => formCells q.1 q.2)))
    (HMK : ∀ q ∈ made, FormAtP (fun b => F + 1 ≤ b ∧ (Value.slice oa made.length oc).ownBlock ≠ some b) wr deep q.1 q.2 ∧ q.1.okD deep = true) (HSI5 : Since (Turns w0) w wr) (HR5 : wr.heap[w.heap.size]? = some (.cells #[.int .i64 0, .int .i64 0, .int .i64 0, .int .i64 0, .int .i64 0, .slice none 0 0] 26 (0, 0))) (HSU : Sums made a2 a3)
    (hfm : FormAtP (fun b => wr.heap.size ≤ b) w2 (deep - 1 + 1) (.mk gk ⟨g1, g2, g3, g4⟩ gl) (.slice ga gl.length gc)) (hok : (Form.mk gk ⟨g1, g2, g3, g4⟩ gl).okD (deep - 1 + 1) = true) (hst4 : MadeSt w0 w2 sv a4 t4) (hsi4 : Since (Turns w0) wr w2) (hcnt : Counts (.mk gk ⟨g1, g2, g3, g4⟩ gl) a3 a4)
    (hF7 : w3.heap[F]? = some (.cells #[.int .i64 k, .int .i64 p1, .int .i64 p2, .int .i64 p3, .int .i64 p4, .slice oa n oc] 26 (0, 0)))
    (hx3 : w3.ownsRow (F + 1) 26 6 (.slice xa (n + 1) xc) (n + 1) (made.flatMap (fun q => formCells q.1 q.2) ++ [.int .i64 gk, .int .i64 g1, .int .i64 g2, .int .i64 g3, .int .i64 g4, .slice ga gl.length gc]))
    (hS3 : Since (fun b => (Value.slice oa n oc).ownBlock = some b) (w2.alloc (.cells #[.int .i64 gk, .int .i64 g1, .int .i64 g2, .int .i64 g3, .int .i64 g4, .slice ga gl.length gc] 26)) w3) (hloc3 : ∀ b, (Value.slice xa (n + 1) xc).ownBlock = some b → (Value.slice oa n oc).ownBlock = some b ∨ b = (w2.alloc (.cells #[.int .i64 gk, .int .i64 g1, .int .i64 g2, .int .i64 g3, .int .i64 g4, .slice ga gl.length gc] 26)).heap.size) :
    (made ++ [((Form.mk gk ⟨g1, g2, g3, g4⟩ gl), Value.slice ga gl.length gc)]).length = n + 1 ∧ (w3.setCell ⟨F, 5, none⟩ (.slice xa (n + 1) xc)).heap[F]? = some (.cells #[.int .i64 k, .int .i64 p1, .int .i64 p2, .int .i64 p3, .int .i64 p4, .slice xa (n + 1) xc] 26 (0, 0)) ∧
    (w3.setCell ⟨F, 5, none⟩ (.slice xa (n + 1) xc)).ownsRow (F + 1) 26 6 (.slice xa (n + 1) xc) (n + 1) ((made ++ [((Form.mk gk ⟨g1, g2, g3, g4⟩ gl), Value.slice ga gl.length gc)]).flatMap (fun q => formCells q.1 q.2)) ∧
    (∀ q ∈ (made ++ [((Form.mk gk ⟨g1, g2, g3, g4⟩ gl), Value.slice ga gl.length gc)]), FormAtP (fun b => F + 1 ≤ b ∧ (Value.slice xa (n + 1) xc).ownBlock ≠ some b) (w3.setCell ⟨F, 5, none⟩ (.slice xa (n + 1) xc)) deep q.1 q.2 ∧ q.1.okD deep = true) ∧
    MadeSt w0 (w3.setCell ⟨F, 5, none⟩ (.slice xa (n + 1) xc)) sv a4 t4 ∧ Since (Turns w0) w (w3.setCell ⟨F, 5, none⟩ (.slice xa (n + 1) xc)) ∧ (w3.setCell ⟨F, 5, none⟩ (.slice xa (n + 1) xc)).heap[w.heap.size]? = some (.cells #[.int .i64 0, .int .i64 0, .int .i64 0, .int .i64 0, .int .i64 0, .slice none 0 0] 26 (0, 0)) ∧ Sums (made ++ [((Form.mk gk ⟨g1, g2, g3, g4⟩ gl), Value.slice ga gl.length gc)]) a2 a4 := by
  have hlen : (made ++ [((Form.mk gk ⟨g1, g2, g3, g4⟩ gl), Value.slice ga gl.length gc)]).length = n + 1 := by rw [HND]; simp
  have hSf : Since (fun b => b = F) w3 (w3.setCell ⟨F, 5, none⟩ (.slice xa (n + 1) xc)) := Since.setCell (F := fun b => b = F) (p := ⟨F, 5, none⟩) (Since.refl _ _) (.inl rfl) (.slice xa (n + 1) xc)
  have hSall : Since (fun b => (Value.slice oa n oc).ownBlock = some b ∨ b = F) w2 (w3.setCell ⟨F, 5, none⟩ (.slice xa (n + 1) xc)) := (((Since.refl (fun b => (Value.slice oa n oc).ownBlock = some b ∨ b = F) w2).alloc (.cells #[.int .i64 gk, .int .i64 g1, .int .i64 g2, .int .i64 g3, .int .i64 g4, .slice ga gl.length gc] 26)).trans hS3 (fun k hk => .inl (.inl hk))).trans hSf (fun k hk => .inl (.inr hk))
  have hob : ∀ b, (Value.slice oa n oc).ownBlock = some b → F + 1 ≤ b ∧ b < wr.heap.size := fun b hb => HOW2.lt b hb
  have hblk : (w3.setCell ⟨F, 5, none⟩ (.slice xa (n + 1) xc)).heap[F]? = some (.cells #[.int .i64 k, .int .i64 p1, .int .i64 p2, .int .i64 p3, .int .i64 p4, .slice xa (n + 1) xc] 26 (0, 0)) := by
    have := set_of_block hF7 5 (.slice xa (n + 1) xc)
    simpa using this
  have hrow : (w3.setCell ⟨F, 5, none⟩ (.slice xa (n + 1) xc)).ownsRow (F + 1) 26 6 (.slice xa (n + 1) xc) (n + 1) ((made ++ [((Form.mk gk ⟨g1, g2, g3, g4⟩ gl), Value.slice ga gl.length gc)]).flatMap (fun q => formCells q.1 q.2)) := by
    rw [List.flatMap_append]
    exact ownsRow_setCell_below hx3 (by simp) _
  have hz2 : wr.heap.size ≤ w2.heap.size := hsi4.size
  have hFw : F < wr.heap.size := lt_of_block HF52
  have hnew : ∀ b, b < w2.heap.size + 1 → (Value.slice oa n oc).ownBlock ≠ some b → (Value.slice xa (n + 1) xc).ownBlock ≠ some b := by
    intro b hb h1 h2
    rcases hloc3 b h2 with h | h
    · exact h1 h
    · simp at h; omega
  have hkids : ∀ q ∈ (made ++ [((Form.mk gk ⟨g1, g2, g3, g4⟩ gl), Value.slice ga gl.length gc)]), FormAtP (fun b => F + 1 ≤ b ∧ (Value.slice xa (n + 1) xc).ownBlock ≠ some b) (w3.setCell ⟨F, 5, none⟩ (.slice xa (n + 1) xc)) deep q.1 q.2 ∧ q.1.okD deep = true := by
    intro q hq
    rw [List.mem_append, List.mem_singleton] at hq
    rcases hq with hq | rfl
    · obtain ⟨h1, h2⟩ := HMK q hq
      rw [← HND] at h1
      refine ⟨?_, h2⟩
      have h3 : FormAtP (fun b => (F + 1 ≤ b ∧ (Value.slice oa n oc).ownBlock ≠ some b) ∧ (Value.slice xa (n + 1) xc).ownBlock ≠ some b) wr deep q.1 q.2 := h1.mono (fun b hP hb => ⟨hP, hnew b (by omega) hP.2⟩)
      have h4 := (h3.since hsi4 (fun b hP hT => by have := hP.1.1; unfold Turns at hT; omega))
      exact (h4.since hSall (fun b hP hT => by rcases hT with h | h; exact hP.1.2 h; have := hP.1.1; omega)).mono (fun b hP _ => ⟨hP.1.1, hP.2⟩)
    · have h3 : FormAtP (fun b => (F + 1 ≤ b ∧ (Value.slice oa n oc).ownBlock ≠ some b) ∧ (Value.slice xa (n + 1) xc).ownBlock ≠ some b) w2 (deep - 1 + 1) (Form.mk gk ⟨g1, g2, g3, g4⟩ gl) (Value.slice ga gl.length gc) := hfm.mono (fun b hP hb => by
        have hP' : wr.heap.size ≤ b := hP
        have h1 : (Value.slice oa n oc).ownBlock ≠ some b := fun e => by have := (hob b e).2; omega
        exact ⟨⟨by omega, h1⟩, hnew b (by omega) h1⟩)
      rw [show deep - 1 + 1 = deep by omega] at h3 hok
      exact ⟨(h3.since hSall (fun b hP hT => by rcases hT with h | h; exact hP.1.2 h; have := hP.1.1; omega)).mono (fun b hP _ => ⟨hP.1.1, hP.2⟩), hok⟩
  have hst5 : MadeSt w0 (w3.setCell ⟨F, 5, none⟩ (.slice xa (n + 1) xc)) sv a4 t4 := hst4.since hSall (fun b hb hT => by rcases hT with h | h; have := (hob b h).1; omega; omega)
  have hsw : Since (Turns w0) w (w3.setCell ⟨F, 5, none⟩ (.slice xa (n + 1) xc)) := (HSI5.trans hsi4 (fun b hb => .inl hb)).trans hSall (fun b hT => .inr (by rcases hT with h | h; have := (hob b h).1; omega; omega))
  have hrr : (w3.setCell ⟨F, 5, none⟩ (.slice xa (n + 1) xc)).heap[w.heap.size]? = some (.cells #[.int .i64 0, .int .i64 0, .int .i64 0, .int .i64 0, .int .i64 0, .slice none 0 0] 26 (0, 0)) := by
    have h1 := (hsi4.block w.heap.size (lt_of_block HR5) (by unfold Turns; omega)).trans HR5
    exact (hSall.block _ (lt_of_block h1) (fun hT => by rcases hT with h | h; have := (hob _ h).1; omega; omega)).trans h1
  have hsums : Sums (made ++ [((Form.mk gk ⟨g1, g2, g3, g4⟩ gl), Value.slice ga gl.length gc)]) a2 a4 := by
    obtain ⟨N0, hN1, hN2, hN3, hN4⟩ := HSU
    obtain ⟨N1, hM1, hM2, hM3, hM4⟩ := hcnt
    refine ⟨N0 + N1, ?_, by omega, by omega, ?_⟩
    · simp only [List.map_append, List.map_cons, List.map_nil, sizeL_snoc, List.length_append, List.length_cons, List.length_nil]; omega
    · simp only [List.map_append, List.map_cons, List.map_nil, sizeL_snoc]; omega
  exact ⟨hlen, hblk, hrow, hkids, hst5, hsw, hrr, hsums⟩
theorem okL_of {made : List (Form × Value)} {deep : Nat} (h : ∀ q ∈ made, q.1.okD deep = true) : okL (made.map (·.1)) deep = true := by
  induction made with
  | nil => rfl
  | cons q made ih => simp only [List.map_cons, okL, Bool.and_eq_true]; exact ⟨h q (by simp), ih (fun x hx => h x (by simp [hx]))⟩
theorem maker_done {w0 w wr V : World} {sv : Value} {F k : Nat} {p1 p2 p3 p4 : Int} {made : List (Form × Value)} {oa : Option Addr} {oc n a a2 a3 t t3 deep kn : Nat}
    (hFR : w.heap.size < F) (hz : w0.heap.size + 6 ≤ w.heap.size) (hn : n = made.length) (hkn : kidsR (k : Int) = kn) (hml : made.length + 0 = kn) (hkn2 : kn ≤ 2) (HNA : NotAtom deep a t k)
    (HPP : (k = 3 → propOk ⟨p1, p2, p3, p4⟩ = true) ∧ (k ≠ 3 → (⟨p1, p2, p3, p4⟩ : PropD) = ⟨0, 0, 0, 0⟩)) (ha1 : a + 1 ≤ a2) (ha2 : a2 ≤ a + 5)
    (HOW : wr.ownsRow (F + 1) 26 6 (.slice oa n oc) n (made.flatMap (fun q => formCells q.1 q.2)))
    (HMK : ∀ q ∈ made, FormAtP (fun b => F + 1 ≤ b ∧ (Value.slice oa made.length oc).ownBlock ≠ some b) wr deep q.1 q.2 ∧ q.1.okD deep = true)
    (HST : MadeSt w0 wr sv a3 t3) (HSI : Since (Turns w0) w wr) (HSU : Sums made a2 a3) (ht : t3 ≤ t) (hSv : Since (fun b => b = w.heap.size) wr V) :
    TellsMade w0 sv deep a t w (.returned (.agg #[.int .i64 k, .int .i64 p1, .int .i64 p2, .int .i64 p3, .int .i64 p4, .slice oa n oc])) V := by
  have hml2 : (made.map (·.1)).length = n := by simp [hn]
  have hfm : FormAtP (fun b => F + 1 ≤ b) wr (deep + 1) (.mk k ⟨p1, p2, p3, p4⟩ (made.map (·.1))) (.slice oa n oc) := by
    obtain ⟨xa, xc, he, -, hcap⟩ := row_slice HOW
    refine ⟨oa, oc, by show _ = Value.slice oa (made.map (·.1)).length oc; rw [hml2], by show (made.map (·.1)).length ≤ _; rw [hml2]; omega, fun j hj => ?_⟩
    have hjn : j < made.length := by
      have : j < (made.map (·.1)).length := hj
      rw [hml2] at this; omega
    obtain ⟨g, cap, he2, -, -⟩ := row_some HOW (by omega)
    have hoa : oa = some ⟨g, 0, none⟩ := (Value.slice.inj he2).1
    subst hoa
    have hg := HOW.lt g rfl
    have hfst : (Form.mk (k : Int) ⟨p1, p2, p3, p4⟩ (made.map (·.1))).kids.getD j default = (made[j]).1 := by
      show (made.map (·.1)).getD j default = _
      simp [List.getD_eq_getElem?_getD, hjn]
    refine ⟨g, 0, (made[j]).2, rfl, hg, fun i hi => ?_, ?_⟩
    · rw [hfst, show 0 + j * 6 + i = j * 6 + i by omega, HOW.cellAt (j * 6 + i) (by omega), flatMap_get (fun q : Form × Value => formCells q.1 q.2) 6 (fun _ => rfl) made j i hjn hi]
    · rw [hfst]
      exact (HMK _ (List.getElem_mem hjn)).1.mono (fun b hb _ => hb.1)
  have hokd : (Form.mk (k : Int) ⟨p1, p2, p3, p4⟩ (made.map (·.1))).okD (deep + 1) = true := by
    rw [okD_head, Bool.and_eq_true]
    refine ⟨?_, okL_of (fun q hq => (HMK q hq).2)⟩
    unfold headOk
    rw [hml2, hkn, decide_eq_true (show 1 ≤ deep + 1 by omega), decide_eq_true (show ((kn : Nat) : Int) = (n : Int) by omega), Bool.true_and, Bool.true_and]
    by_cases h3 : k = 3
    · rw [if_pos (by omega)]; exact HPP.1 h3
    · rw [if_neg (by omega), decide_eq_true_iff]; exact HPP.2 h3
  refine ⟨k, p1, p2, p3, p4, made.map (·.1), oa, oc, a3, t3, by rw [hml2], ?_, hokd, HST.since hSv (fun b hb h => by omega), HSI.trans hSv (fun b hb => .inr (by omega)), ?_, ht⟩
  · rw [hml2]
    exact (hfm.since hSv (fun b hb h => by omega)).mono (fun b hb _ => by omega)
  · obtain ⟨N, h1, h2, h3, h4⟩ := HSU
    have hs : (Form.mk (k : Int) ⟨p1, p2, p3, p4⟩ (made.map (·.1))).size = 1 + sizeL (made.map (·.1)) := rfl
    by_cases hk3 : k = 3
    · have : made = [] := by
        subst hk3
        rw [show kidsR ((3 : Nat) : Int) = 0 from rfl] at hkn
        exact List.eq_nil_of_length_eq_zero (by omega)
      subst this
      refine ⟨0, ?_, by omega, by omega, ?_⟩
      · rw [hs]; simp [sizeL]
      · rw [hs]; simp [sizeL] at h4 ⊢; omega
    · have := HNA hk3
      refine ⟨N + 1, ?_, by omega, by omega, ?_⟩
      · rw [hs]; omega
      · rw [hs]; omega
set_option maxRecDepth 100000 in
set_option maxHeartbeats 8000000 in
theorem maker_step (w0 : World) (sv : Value) (l : List Int) (hn : NumsAt w0 .u8 sv l) (deep : Nat) (hd : deep ≤ 5) (ih : 1 ≤ deep → MakerAt w0 sv (deep - 1)) : MakerAt w0 sv deep := by
  intro w a t hst ha ht
  have hpick := fun W a t n h n1 n2 ha => pick_any w0 W sv l a t n h hn n1 n2 ha
  obtain ⟨la, lc, rfl, hll, -, -⟩ := hn
  have hz := hst.size
  have hR := heap_alloc_new w (.cells #[.int .i64 0, .int .i64 0, .int .i64 0, .int .i64 0, .int .i64 0, .slice none 0 0] 26)
  have hB : Below w.heap.size w (w.alloc (.cells #[.int .i64 0, .int .i64 0, .int .i64 0, .int .i64 0, .int .i64 0, .slice none 0 0] 26)) := (Below.refl _ _).alloc (Nat.le_refl _) _
  have hst1 := hst.then hB
  have PICK := Lib.hid hpick
  have HR := Lib.hid hR
  have HST := Lib.hid hst1
  have HSI : Hid (Since (Turns w0) w (w.alloc (.cells #[.int .i64 0, .int .i64 0, .int .i64 0, .int .i64 0, .int .i64 0, .slice none 0 0] 26))) := since_of _ hB
  have IH := Lib.hid ih
  have ha6 : a ≤ 600000 := by omega
  clear hpick hR hB hst1 hst ih
  go_enter Try.func22, Try.ntmps22
  go_upto_region 1 with fail
  generalize hW : World.alloc _ _ = W at HR HST HSI ⊢
  clear hW
  have hp : W.cell? ⟨w0.heap.size + 4, 0, none⟩ = some (.func (.func 21) #[] #[.pointer (some ⟨w0.heap.size + 3, 0, none⟩), .pointer (some ⟨w0.heap.size, 0, none⟩)]) := cell_of_block HST.out.pick 0
  go_wp2_with fail
  refine (PICK.out W a t 12 HST.out (by omega) (by omega) (by omega)).mono ?_
  rintro e V ⟨r, hr, rfl, hst, hsi⟩
  have HST1 := Lib.hid hst
  have HSI1 : Hid (Since (Turns w0) w V) := HSI.out.trans hsi (fun k hk => .inl (.inl hk))
  have HR1 : Hid (V.heap[w.heap.size]? = _) := (hsi.block _ (lt_of_block HR.out) (by omega)).trans HR.out
  have e3 : V.cell? ⟨w0.heap.size + 3, 0, none⟩ = some (.int .i64 ((a : Int) + 1)) := by
    have := cell_of_block hst.taken 0
    simpa using this
  have e0 : V.cell? ⟨w0.heap.size, 0, none⟩ = some (.slice la l.length lc) := cell_of_block hst.lv 0
  have e1 : V.cell? ⟨w0.heap.size + 1, 0, none⟩ = some (.int .i64 t) := cell_of_block hst.times 0
  clear hst hsi hp HST HSI HR
  go_upto_region 2 with fail
  go_cut [33] (fun s33 w' => ∃ b : Bool, s33 = .bool b ∧ w' = V ∧ Hid (b = false → NotAtom deep a t (r + 1)))
  case first =>
    by_cases h0 : deep = 0
    · subst h0
      go_wp2_with fail
      go_meet
      case rel => exact ⟨true, rfl, rfl, fun h => by cases h⟩
    · have h0' : ((deep : Int) == 0) = false := by rw [beq_eq_false_iff_ne]; omega
      have HH0 := Lib.hid h0
      clear h0
      by_cases h1 : (l.length : Int) ≤ (a : Int) + 1
      · go_wp2_with fail
        go_meet
        case rel => exact ⟨true, (by first | rfl | simp), rfl, fun h => by cases h⟩
      · by_cases h2 : (20 : Int) < (a : Int) + 1
        · go_wp2_with fail
          go_meet
          case rel => exact ⟨true, (by first | rfl | simp), rfl, fun h => by cases h⟩
        · by_cases h3 : (8 : Int) ≤ 1 + (r : Int)
          · by_cases h4 : (t : Int) < 1
            · go_wp2_with fail
              go_meet
              case rel => exact ⟨true, (by first | rfl | (simp; done) | (simp; omega)), rfl, fun h => by cases h⟩
            · have : Hid (NotAtom deep a t (r + 1)) := fun _ => ⟨by have := HH0.out; omega, by omega, fun _ => by omega⟩
              go_wp2_with fail
              go_meet
              case rel => exact ⟨false, (by first | rfl | (simp; done) | (simp; omega)), rfl, fun _ => this.out⟩
          · have : Hid (NotAtom deep a t (r + 1)) := fun _ => ⟨by have := HH0.out; omega, by omega, fun _ => by omega⟩
            go_wp2_with fail
            go_meet
            case rel => exact ⟨false, (by first | rfl | (simp; done) | (simp; omega)), rfl, fun _ => this.out⟩
  case rest =>
    obtain ⟨b, rfl, hwv, HN⟩ := hcut
    obtain rfl : V = wc := hwv.symm
    go_upto_if 33 with fail
    go_cut [8, 33] (fun s8 _s33 w' => ∃ k : Nat, 1 ≤ k ∧ k ≤ 12 ∧ s8 = .int .i64 k ∧ w' = V ∧ Hid (NotAtom deep a t k))
    case first =>
      cases b with
      | true =>
        go_wp2_with fail
        go_meet
        case rel => exact ⟨3, by omega, by omega, rfl, rfl, fun h => absurd rfl h⟩
      | false =>
        have HNA : Hid (NotAtom deep a t (r + 1)) := HN.out (by trivial)
        go_wp2_with fail
        go_meet
        case rel => exact ⟨r + 1, by omega, by omega, val_int (by omega), rfl, HNA.out⟩
    case rest =>
      obtain ⟨k, hk1, hk2, rfl, hwv, HNA⟩ := hcut
      obtain rfl : V = wc := hwv.symm
      clear HN
      go_upto_region 4 with fail
      go_cut [34, 35] (fun _s34 s35 w' => s35 = .bool (decide ((8 : Int) ≤ (k : Int))) ∧ w' = V)
      case first =>
        go_wp2_with fail
        go_meet
        case rel => exact ⟨rfl, rfl⟩
      case rest =>
        obtain ⟨rfl, hwv⟩ := hcut
        obtain rfl : V = wc := hwv.symm
        go_upto_if 35 with fail
        go_cut [35] (fun _s35 w' => ∃ t' : Nat, t' ≤ t ∧ Hid (MadeSt w0 w' (.slice la l.length lc) (a + 1) t') ∧ Hid (Since (Turns w0) w w') ∧ Hid (w'.heap[w.heap.size]? = some (.cells #[.int .i64 0, .int .i64 0, .int .i64 0, .int .i64 0, .int .i64 0, .slice none 0 0] 26 (0, 0))))
        case first =>
          by_cases h8 : (8 : Int) ≤ (k : Int)
          · have ht1 : 1 ≤ t := (HNA.out (by omega)).2.2 (by omega)
            have hfz : V.frozen? ⟨w0.heap.size + 1, 0, none⟩ = false := free_of_block HST1.out.times 0
            have hsp : MadeSt w0 (V.setCell ⟨w0.heap.size + 1, 0, none⟩ (.int .i64 ((t : Int) - 1))) (.slice la l.length lc) (a + 1) (t - 1) := by
              have := HST1.out.spend (t - 1)
              rw [show ((t - 1 : Nat) : Int) = (t : Int) - 1 by omega] at this; exact this
            have hsi : Since (Turns w0) w (V.setCell ⟨w0.heap.size + 1, 0, none⟩ (.int .i64 ((t : Int) - 1))) := HSI1.out.setCell (p := ⟨w0.heap.size + 1, 0, none⟩) (.inl (.inr rfl)) _
            have hrr : (V.setCell ⟨w0.heap.size + 1, 0, none⟩ (.int .i64 ((t : Int) - 1))).heap[w.heap.size]? = some (.cells #[.int .i64 0, .int .i64 0, .int .i64 0, .int .i64 0, .int .i64 0, .slice none 0 0] 26 (0, 0)) := (Below.heap_setCell _ _ _ _ (by simp; omega)).trans HR1.out
            have H1 := Lib.hid hsp
            have H2 := Lib.hid hsi
            have H3 := Lib.hid hrr
            clear hsp hsi hrr
            go_wp2_with fail
            go_meet
            case rel => exact ⟨t - 1, by omega, H1.out, H2.out, H3.out⟩
          · go_wp2_with fail
            go_meet
            case rel => exact ⟨t, Nat.le_refl _, HST1.out, HSI1.out, HR1.out⟩
        case rest =>
          obtain ⟨t', htt, HST2, HSI2, HR2⟩ := hcut
          obtain ⟨wo, rfl⟩ : ∃ wo : World, wo = wc := ⟨_, rfl⟩
          clear HST1 HSI1 HR1 e0 e1 e3
          go_upto_region 7 with fail
          have hFb : (wo.alloc (.cells #[.int .i64 k, .int .i64 0, .int .i64 0, .int .i64 0, .int .i64 0, .slice none 0 0] 26)).heap[wo.heap.size]? = some (.cells #[.int .i64 k, .int .i64 0, .int .i64 0, .int .i64 0, .int .i64 0, .slice none 0 0] 26 (0, 0)) := heap_alloc_new _ _
          have hB3 : Below wo.heap.size wo (wo.alloc (.cells #[.int .i64 k, .int .i64 0, .int .i64 0, .int .i64 0, .int .i64 0, .slice none 0 0] 26)) := (Below.refl _ _).alloc (Nat.le_refl _) _
          have HST3 : Hid (MadeSt w0 _ _ _ _) := HST2.out.then hB3
          have HSI3 : Hid (Since (Turns w0) w _) := HSI2.out.trans (since_of (fun _ => False) hB3) (fun _ h => h.elim)
          have HR3 : Hid (_ = some (Obj.cells #[.int .i64 0, .int .i64 0, .int .i64 0, .int .i64 0, .int .i64 0, .slice none 0 0] 26 (0, 0))) := (hB3.block _ (lt_of_block HR2.out)).trans HR2.out
          have hFR : w.heap.size < wo.heap.size := lt_of_block HR2.out
          obtain ⟨F, hFd⟩ : ∃ F, F = wo.heap.size := ⟨_, rfl⟩
          rw [← hFd] at hFb hFR ⊢
          have HF3 := Lib.hid hFb
          have HFD := Lib.hid hFd
          have hF6 : w0.heap.size + 6 ≤ F := by omega
          clear HST2 HSI2 HR2 hB3 hFb hFd
          generalize World.alloc _ _ = W3 at HST3 HSI3 HR3 HF3 ⊢
          go_upto_if 41 with fail
          go_cut [41] (fun _s41 w' => ∃ (p1 p2 p3 p4 : Int) (a2 : Nat), Hid (w'.heap[F]? = some (.cells #[.int .i64 k, .int .i64 p1, .int .i64 p2, .int .i64 p3, .int .i64 p4, .slice none 0 0] 26 (0, 0))) ∧ Hid (MadeSt w0 w' (.slice la l.length lc) a2 t') ∧ Hid (Since (Turns w0) w w') ∧ Hid (w'.heap[w.heap.size]? = some (.cells #[.int .i64 0, .int .i64 0, .int .i64 0, .int .i64 0, .int .i64 0, .slice none 0 0] 26 (0, 0))) ∧ a + 1 ≤ a2 ∧ a2 ≤ a + 5 ∧ Hid ((k = 3 → propOk ⟨p1, p2, p3, p4⟩ = true) ∧ (k ≠ 3 → (⟨p1, p2, p3, p4⟩ : PropD) = ⟨0, 0, 0, 0⟩)))
          case first =>
            by_cases h3 : k = 3
            · subst h3
              have hp : W3.cell? ⟨w0.heap.size + 4, 0, none⟩ = some (.func (.func 21) #[] #[.pointer (some ⟨w0.heap.size + 3, 0, none⟩), .pointer (some ⟨w0.heap.size, 0, none⟩)]) := cell_of_block HST3.out.pick 0
              go_wp2_with fail
              refine (PICK.out W3 _ _ 6 HST3.out (by omega) (by omega) (by omega)).mono ?_
              rintro e V4 ⟨r6, hr6, rfl, hst4, hsi4⟩
              have hF4 := (hsi4.block _ (lt_of_block HF3.out) (by omega)).trans HF3.out
              have hR4 := (hsi4.block _ (lt_of_block HR3.out) (by omega)).trans HR3.out
              have q1 := cell_of_block hF4 1
              simp only [List.getElem?_toArray, List.getElem?_cons_zero, List.getElem?_cons_succ] at q1
              have q2 := free_of_block hF4 1
              obtain ⟨kd, hkd⟩ : ∃ kd : Int, kd = 1 + (r6 : Int) := ⟨_, rfl⟩
              have hs5 := set_of_block hF4 1 (.int .i64 kd)
              have hS5 : Since (fun k => k = F) V4 (V4.setCell ⟨F, 1, none⟩ (.int .i64 kd)) := Since.setCell (F := fun k => k = F) (p := ⟨F, 1, none⟩) (Since.refl _ _) (.inl rfl) _
              have HST5 : Hid (MadeSt w0 (V4.setCell ⟨F, 1, none⟩ (.int .i64 kd)) _ _ _) := hst4.since hS5 (fun k hk he => by omega)
              have HSI5 : Hid (Since (Turns w0) w (V4.setCell ⟨F, 1, none⟩ (.int .i64 kd))) := (HSI3.out.trans hsi4 (fun k hk => .inl (.inl hk))).trans hS5 (fun k hk => .inr (by omega))
              have HR5 : Hid ((V4.setCell ⟨F, 1, none⟩ (.int .i64 kd)).heap[w.heap.size]? = _) := (hS5.block _ (lt_of_block hR4) (by omega)).trans hR4
              have HF5 : Hid ((V4.setCell ⟨F, 1, none⟩ (.int .i64 kd)).heap[F]? = some (.cells #[.int .i64 3, .int .i64 kd, .int .i64 0, .int .i64 0, .int .i64 0, .slice none 0 0] 26 (0, 0))) := by rw [Hid]; simpa using hs5
              clear hst4 hsi4 hF4 hR4 hs5 hS5 hp HST3 HSI3 HR3 HF3
              go_upto_region 9 with fail
              rw [← hkd]
              generalize World.setCell V4 _ _ = V5 at HST5 HSI5 HR5 HF5 ⊢
              clear q1 q2
              have hkk : kd = 1 ∨ kd = 2 ∨ kd = 3 ∨ kd = 4 ∨ kd = 5 ∨ kd = 6 := by omega
              have u1 : V5.cell? ⟨F, 1, none⟩ = some (.int .i64 kd) := cell_of_block HF5.out 1
              clear hkd
              rcases hkk with rfl | rfl | rfl | rfl | rfl | rfl
              · have hp0 : V5.cell? ⟨w0.heap.size + 4, 0, none⟩ = some (.func (.func 21) #[] #[.pointer (some ⟨w0.heap.size + 3, 0, none⟩), .pointer (some ⟨w0.heap.size, 0, none⟩)]) := cell_of_block HST5.out.pick 0
                have hne : ¬ w0.heap.size + 4 = F := by omega
                have hne2 : ¬ F = w0.heap.size + 4 := by omega
                go_wp2_with fail
                go_region_held3 (fun w' => w'.cell? ⟨w0.heap.size + 4, 0, none⟩ = some (.func (.func 21) #[] #[.pointer (some ⟨w0.heap.size + 3, 0, none⟩), .pointer (some ⟨w0.heap.size, 0, none⟩)])) (first | exact hp2 | exact hp1 | (rw [World.cell?_of_block (Below.heap_setCell _ _ _ _ hne)]; first | exact hp2 | (rw [World.cell?_of_block (Below.heap_setCell _ _ _ _ hne)]; first | exact hp2 | (rw [World.cell?_of_block (Below.heap_setCell _ _ _ _ hne)]; exact hp2))) | go_keep) (first | (go_at_call 21; refine (PICK.out _ _ _ 2 hst1 (by omega) (by omega) (by omega)).mono ?_; rintro e x2 ⟨r2, hr2, rfl, hst2, hsi2⟩; have hF2 := (hsi2.block _ (lt_of_block hF1) (by omega)).trans hF1; have hp2 := cell_of_block hst2.pick 0; simp only [List.getElem?_toArray, List.getElem?_cons_zero] at hp2; have qc3 := cell_of_block hF2 3; have qf3 := free_of_block hF2 3; simp only [List.getElem?_toArray, List.getElem?_cons_zero, List.getElem?_cons_succ] at qc3; have qc4 := cell_of_block hF2 4; have qf4 := free_of_block hF2 4; simp only [List.getElem?_toArray, List.getElem?_cons_zero, List.getElem?_cons_succ] at qc4) | (go_at_call 21; refine (PICK.out _ _ _ 2 (HST5.out.then ((Below.refl _ _).drew)) (by omega) (by omega) (by omega)).mono ?_; rintro e x1 ⟨r1, hr1, rfl, hst1, hsi1⟩; have hF1 := (hsi1.block _ (lt_of_block HF5.out) (by omega)).trans HF5.out; have hp1 := cell_of_block hst1.pick 0; simp only [List.getElem?_toArray, List.getElem?_cons_zero] at hp1))
                all_goals
                  go_wp2_with fail
                  have hfin := (set_of_block (set_of_block hF2 3 (.int .i64 (r1 : Int))) 4 (.int .i64 (r2 : Int)))
                  have hSf : Since (fun k => k = F) x2 ((x2.setCell ⟨F, 3, none⟩ (.int .i64 (r1 : Int))).setCell ⟨F, 4, none⟩ (.int .i64 (r2 : Int))) := Since.setCell (F := fun k => k = F) (p := ⟨F, 4, none⟩) (Since.setCell (F := fun k => k = F) (p := ⟨F, 3, none⟩) (Since.refl (fun k => k = F) x2) (.inl rfl) (.int .i64 (r1 : Int))) (.inl rfl) (.int .i64 (r2 : Int))
                  have hSw : Since (Turns w0) w x2 := (((HSI5.out.drew).trans hsi1 (fun k hk => .inl (.inl hk))).trans hsi2 (fun k hk => .inl (.inl hk)))
                  have hRw := ((hsi2.block _ (lt_of_block ((hsi1.block _ (lt_of_block HR5.out) (by omega)).trans HR5.out)) (by omega)).trans ((hsi1.block _ (lt_of_block HR5.out) (by omega)).trans HR5.out))
                  go_meet
                  case rel => exact ⟨1, 0, r1, r2, _, (by rw [Hid]; simpa using hfin), hst2.since hSf (fun k hk he => by omega), hSw.trans hSf (fun k hk => .inr (by omega)), (hSf.block _ (lt_of_block hRw) (by omega)).trans hRw, by omega, by omega, ⟨fun _ => propOk1 _ _ (by omega) (by omega), fun h => absurd rfl h⟩⟩
              · have hp0 : V5.cell? ⟨w0.heap.size + 4, 0, none⟩ = some (.func (.func 21) #[] #[.pointer (some ⟨w0.heap.size + 3, 0, none⟩), .pointer (some ⟨w0.heap.size, 0, none⟩)]) := cell_of_block HST5.out.pick 0
                have hne : ¬ w0.heap.size + 4 = F := by omega
                have hne2 : ¬ F = w0.heap.size + 4 := by omega
                go_wp2_with fail
                go_region_held3 (fun w' => w'.cell? ⟨w0.heap.size + 4, 0, none⟩ = some (.func (.func 21) #[] #[.pointer (some ⟨w0.heap.size + 3, 0, none⟩), .pointer (some ⟨w0.heap.size, 0, none⟩)])) (first | exact hp3 | exact hp2 | exact hp1 | (rw [World.cell?_of_block (Below.heap_setCell _ _ _ _ hne)]; first | exact hp3 | (rw [World.cell?_of_block (Below.heap_setCell _ _ _ _ hne)]; first | exact hp3 | (rw [World.cell?_of_block (Below.heap_setCell _ _ _ _ hne)]; exact hp3))) | go_keep) (first | (go_at_call 21; refine (PICK.out _ _ _ 2 hst2 (by omega) (by omega) (by omega)).mono ?_; rintro e x3 ⟨r3, hr3, rfl, hst3, hsi3⟩; have hF3 := (hsi3.block _ (lt_of_block hF2) (by omega)).trans hF2; have hp3 := cell_of_block hst3.pick 0; simp only [List.getElem?_toArray, List.getElem?_cons_zero] at hp3; have qc2 := cell_of_block hF3 2; have qf2 := free_of_block hF3 2; simp only [List.getElem?_toArray, List.getElem?_cons_zero, List.getElem?_cons_succ] at qc2; have qc3 := cell_of_block hF3 3; have qf3 := free_of_block hF3 3; simp only [List.getElem?_toArray, List.getElem?_cons_zero, List.getElem?_cons_succ] at qc3; have qc4 := cell_of_block hF3 4; have qf4 := free_of_block hF3 4; simp only [List.getElem?_toArray, List.getElem?_cons_zero, List.getElem?_cons_succ] at qc4) | (go_at_call 21; refine (PICK.out _ _ _ 2 hst1 (by omega) (by omega) (by omega)).mono ?_; rintro e x2 ⟨r2, hr2, rfl, hst2, hsi2⟩; have hF2 := (hsi2.block _ (lt_of_block hF1) (by omega)).trans hF1; have hp2 := cell_of_block hst2.pick 0; simp only [List.getElem?_toArray, List.getElem?_cons_zero] at hp2) | (go_at_call 21; refine (PICK.out _ _ _ 2 (HST5.out.then ((Below.refl _ _).drew)) (by omega) (by omega) (by omega)).mono ?_; rintro e x1 ⟨r1, hr1, rfl, hst1, hsi1⟩; have hF1 := (hsi1.block _ (lt_of_block HF5.out) (by omega)).trans HF5.out; have hp1 := cell_of_block hst1.pick 0; simp only [List.getElem?_toArray, List.getElem?_cons_zero] at hp1))
                all_goals
                  go_wp2_with fail
                  have hfin := (set_of_block (set_of_block (set_of_block hF3 2 (.int .i64 (r1 : Int))) 3 (.int .i64 (r2 : Int))) 4 (.int .i64 (r3 : Int)))
                  have hSf : Since (fun k => k = F) x3 (((x3.setCell ⟨F, 2, none⟩ (.int .i64 (r1 : Int))).setCell ⟨F, 3, none⟩ (.int .i64 (r2 : Int))).setCell ⟨F, 4, none⟩ (.int .i64 (r3 : Int))) := Since.setCell (F := fun k => k = F) (p := ⟨F, 4, none⟩) (Since.setCell (F := fun k => k = F) (p := ⟨F, 3, none⟩) (Since.setCell (F := fun k => k = F) (p := ⟨F, 2, none⟩) (Since.refl (fun k => k = F) x3) (.inl rfl) (.int .i64 (r1 : Int))) (.inl rfl) (.int .i64 (r2 : Int))) (.inl rfl) (.int .i64 (r3 : Int))
                  have hSw : Since (Turns w0) w x3 := ((((HSI5.out.drew).trans hsi1 (fun k hk => .inl (.inl hk))).trans hsi2 (fun k hk => .inl (.inl hk))).trans hsi3 (fun k hk => .inl (.inl hk)))
                  have hRw := ((hsi3.block _ (lt_of_block ((hsi2.block _ (lt_of_block ((hsi1.block _ (lt_of_block HR5.out) (by omega)).trans HR5.out)) (by omega)).trans ((hsi1.block _ (lt_of_block HR5.out) (by omega)).trans HR5.out))) (by omega)).trans ((hsi2.block _ (lt_of_block ((hsi1.block _ (lt_of_block HR5.out) (by omega)).trans HR5.out)) (by omega)).trans ((hsi1.block _ (lt_of_block HR5.out) (by omega)).trans HR5.out)))
                  go_meet
                  case rel => exact ⟨2, r1, r2, r3, _, (by rw [Hid]; simpa using hfin), hst3.since hSf (fun k hk he => by omega), hSw.trans hSf (fun k hk => .inr (by omega)), (hSf.block _ (lt_of_block hRw) (by omega)).trans hRw, by omega, by omega, ⟨fun _ => propOk2 _ _ _ (by omega) (by omega) (by omega), fun h => absurd rfl h⟩⟩
              · have hp0 : V5.cell? ⟨w0.heap.size + 4, 0, none⟩ = some (.func (.func 21) #[] #[.pointer (some ⟨w0.heap.size + 3, 0, none⟩), .pointer (some ⟨w0.heap.size, 0, none⟩)]) := cell_of_block HST5.out.pick 0
                have hne : ¬ w0.heap.size + 4 = F := by omega
                have hne2 : ¬ F = w0.heap.size + 4 := by omega
                go_wp2_with fail
                go_region_held3 (fun w' => w'.cell? ⟨w0.heap.size + 4, 0, none⟩ = some (.func (.func 21) #[] #[.pointer (some ⟨w0.heap.size + 3, 0, none⟩), .pointer (some ⟨w0.heap.size, 0, none⟩)])) (first | exact hp2 | exact hp1 | (rw [World.cell?_of_block (Below.heap_setCell _ _ _ _ hne)]; first | exact hp2 | (rw [World.cell?_of_block (Below.heap_setCell _ _ _ _ hne)]; first | exact hp2 | (rw [World.cell?_of_block (Below.heap_setCell _ _ _ _ hne)]; exact hp2))) | go_keep) (first | (go_at_call 21; refine (PICK.out _ _ _ 3 hst1 (by omega) (by omega) (by omega)).mono ?_; rintro e x2 ⟨r2, hr2, rfl, hst2, hsi2⟩; have hF2 := (hsi2.block _ (lt_of_block hF1) (by omega)).trans hF1; have hp2 := cell_of_block hst2.pick 0; simp only [List.getElem?_toArray, List.getElem?_cons_zero] at hp2; have qc2 := cell_of_block hF2 2; have qf2 := free_of_block hF2 2; simp only [List.getElem?_toArray, List.getElem?_cons_zero, List.getElem?_cons_succ] at qc2; have qc4 := cell_of_block hF2 4; have qf4 := free_of_block hF2 4; simp only [List.getElem?_toArray, List.getElem?_cons_zero, List.getElem?_cons_succ] at qc4) | (go_at_call 21; refine (PICK.out _ _ _ 2 (HST5.out.then ((Below.refl _ _).drew)) (by omega) (by omega) (by omega)).mono ?_; rintro e x1 ⟨r1, hr1, rfl, hst1, hsi1⟩; have hF1 := (hsi1.block _ (lt_of_block HF5.out) (by omega)).trans HF5.out; have hp1 := cell_of_block hst1.pick 0; simp only [List.getElem?_toArray, List.getElem?_cons_zero] at hp1))
                all_goals
                  go_wp2_with fail
                  have hfin := (set_of_block (set_of_block hF2 2 (.int .i64 (r1 : Int))) 4 (.int .i64 (r2 : Int)))
                  have hSf : Since (fun k => k = F) x2 ((x2.setCell ⟨F, 2, none⟩ (.int .i64 (r1 : Int))).setCell ⟨F, 4, none⟩ (.int .i64 (r2 : Int))) := Since.setCell (F := fun k => k = F) (p := ⟨F, 4, none⟩) (Since.setCell (F := fun k => k = F) (p := ⟨F, 2, none⟩) (Since.refl (fun k => k = F) x2) (.inl rfl) (.int .i64 (r1 : Int))) (.inl rfl) (.int .i64 (r2 : Int))
                  have hSw : Since (Turns w0) w x2 := (((HSI5.out.drew).trans hsi1 (fun k hk => .inl (.inl hk))).trans hsi2 (fun k hk => .inl (.inl hk)))
                  have hRw := ((hsi2.block _ (lt_of_block ((hsi1.block _ (lt_of_block HR5.out) (by omega)).trans HR5.out)) (by omega)).trans ((hsi1.block _ (lt_of_block HR5.out) (by omega)).trans HR5.out))
                  go_meet
                  case rel => exact ⟨3, r1, 0, r2, _, (by rw [Hid]; simpa using hfin), hst2.since hSf (fun k hk he => by omega), hSw.trans hSf (fun k hk => .inr (by omega)), (hSf.block _ (lt_of_block hRw) (by omega)).trans hRw, by omega, by omega, ⟨fun _ => propOk3 _ _ (by omega) (by omega), fun h => absurd rfl h⟩⟩
              · have hp0 : V5.cell? ⟨w0.heap.size + 4, 0, none⟩ = some (.func (.func 21) #[] #[.pointer (some ⟨w0.heap.size + 3, 0, none⟩), .pointer (some ⟨w0.heap.size, 0, none⟩)]) := cell_of_block HST5.out.pick 0
                go_wp2_with fail
                refine (PICK.out _ _ _ 2 HST5.out (by omega) (by omega) (by omega)).mono ?_
                rintro e x1 ⟨r1, hr1, rfl, hst1, hsi1⟩
                have hF1 := (hsi1.block _ (lt_of_block HF5.out) (by omega)).trans HF5.out
                have hp1 := cell_of_block hst1.pick 0
                simp only [List.getElem?_toArray, List.getElem?_cons_zero] at hp1
                have qc2 := cell_of_block hF1 2
                have qf2 := free_of_block hF1 2
                simp only [List.getElem?_toArray, List.getElem?_cons_zero, List.getElem?_cons_succ] at qc2
                go_wp2_with fail
                have hfin := (set_of_block hF1 2 (.int .i64 (r1 : Int)))
                have hSf : Since (fun k => k = F) x1 (x1.setCell ⟨F, 2, none⟩ (.int .i64 (r1 : Int))) := Since.setCell (F := fun k => k = F) (p := ⟨F, 2, none⟩) (Since.refl (fun k => k = F) x1) (.inl rfl) (.int .i64 (r1 : Int))
                have hSw : Since (Turns w0) w x1 := (HSI5.out.trans hsi1 (fun k hk => .inl (.inl hk)))
                have hRw := ((hsi1.block _ (lt_of_block HR5.out) (by omega)).trans HR5.out)
                go_meet
                case rel => exact ⟨4, r1, 0, 0, _, (by rw [Hid]; simpa using hfin), hst1.since hSf (fun k hk he => by omega), hSw.trans hSf (fun k hk => .inr (by omega)), (hSf.block _ (lt_of_block hRw) (by omega)).trans hRw, by omega, by omega, ⟨fun _ => propOk4 _ (by omega), fun h => absurd rfl h⟩⟩
              · go_wp2_with fail
                go_meet
                case rel => exact ⟨5, 0, 0, 0, _, HF5.out, HST5.out, HSI5.out, HR5.out, by omega, by omega, ⟨fun _ => by decide, fun h => absurd rfl h⟩⟩
              · have hp0 : V5.cell? ⟨w0.heap.size + 4, 0, none⟩ = some (.func (.func 21) #[] #[.pointer (some ⟨w0.heap.size + 3, 0, none⟩), .pointer (some ⟨w0.heap.size, 0, none⟩)]) := cell_of_block HST5.out.pick 0
                go_wp2_with fail
                refine (PICK.out _ _ _ 2 HST5.out (by omega) (by omega) (by omega)).mono ?_
                rintro e x1 ⟨r1, hr1, rfl, hst1, hsi1⟩
                have hF1 := (hsi1.block _ (lt_of_block HF5.out) (by omega)).trans HF5.out
                have hp1 := cell_of_block hst1.pick 0
                simp only [List.getElem?_toArray, List.getElem?_cons_zero] at hp1
                have qc2 := cell_of_block hF1 2
                have qf2 := free_of_block hF1 2
                simp only [List.getElem?_toArray, List.getElem?_cons_zero, List.getElem?_cons_succ] at qc2
                go_wp2_with fail
                have hfin := (set_of_block hF1 2 (.int .i64 (r1 : Int)))
                have hSf : Since (fun k => k = F) x1 (x1.setCell ⟨F, 2, none⟩ (.int .i64 (r1 : Int))) := Since.setCell (F := fun k => k = F) (p := ⟨F, 2, none⟩) (Since.refl (fun k => k = F) x1) (.inl rfl) (.int .i64 (r1 : Int))
                have hSw : Since (Turns w0) w x1 := (HSI5.out.trans hsi1 (fun k hk => .inl (.inl hk)))
                have hRw := ((hsi1.block _ (lt_of_block HR5.out) (by omega)).trans HR5.out)
                go_meet
                case rel => exact ⟨6, r1, 0, 0, _, (by rw [Hid]; simpa using hfin), hst1.since hSf (fun k hk he => by omega), hSw.trans hSf (fun k hk => .inr (by omega)), (hSf.block _ (lt_of_block hRw) (by omega)).trans hRw, by omega, by omega, ⟨fun _ => propOk6 _ (by omega), fun h => absurd rfl h⟩⟩
            · have hk3 : ((k : Int) == 3) = false := by rw [beq_eq_false_iff_ne]; omega
              go_wp2_with fail
              go_meet
              case rel => exact ⟨0, 0, 0, 0, a + 1, HF3.out, HST3.out, HSI3.out, HR3.out, by omega, by omega, ⟨fun h => absurd h h3, fun _ => rfl⟩⟩
          case rest =>
            obtain ⟨p1, p2, p3, p4, a2, HF4, HST4, HSI4, HR4, ha21, ha22, HPP⟩ := hcut
            obtain ⟨kn, hkn⟩ : ∃ kn : Nat, kidsR (k : Int) = kn := by
              rcases kids_cases (k : Int) with ⟨_, _, h⟩ | ⟨_, _, h⟩ | ⟨_, _, h⟩ | ⟨_, h⟩ | ⟨h, _⟩
              · exact ⟨0, h⟩
              · exact ⟨1, h⟩
              · exact ⟨2, h⟩
              · exact ⟨0, h⟩
              · omega
            have hkn2 : kn ≤ 2 := by
              have : kidsR (k : Int) ≤ 2 := by unfold kidsR; split <;> (try split) <;> (try split) <;> omega
              omega
            have HKN := Lib.hid hkn
            have hkk : ∀ W, Calls Try.prog 23 #[.int .i64 k] W fun e w' => e = .returned (.int .i64 kn) ∧ W = w' := fun W => by rw [← hkn]; exact kids_any k W
            have HKK := Lib.hid hkk
            clear hkn hkk HST3 HSI3 HR3 HF3 PICK
            obtain ⟨wk, rfl⟩ : ∃ wk : World, wk = wc := ⟨_, rfl⟩
            go_wp2_with (go_at_call 23; refine (HKK.out _).mono ?_; rintro e w' ⟨rfl, rfl⟩)
            go_loopg [10] kn (fun gg s10 wr => ∃ (i : Nat) (made : List (Form × Value)) (oa : Option Addr) (oc a3 t3 : Nat), s10 = .int .i64 i ∧ Hid (made.length + i = kn) ∧ Hid (gg = i) ∧ Hid (wr.heap[F]? = some (.cells #[.int .i64 k, .int .i64 p1, .int .i64 p2, .int .i64 p3, .int .i64 p4, .slice oa made.length oc] 26 (0, 0))) ∧
              Hid (wr.ownsRow (F + 1) 26 6 (.slice oa made.length oc) made.length (made.flatMap (fun q => formCells q.1 q.2))) ∧ Hid (∀ q ∈ made, FormAtP (fun b => F + 1 ≤ b ∧ (Value.slice oa made.length oc).ownBlock ≠ some b) wr deep q.1 q.2 ∧ q.1.okD deep = true) ∧
              Hid (MadeSt w0 wr (.slice la l.length lc) a3 t3) ∧ Hid (Since (Turns w0) w wr) ∧ Hid (wr.heap[w.heap.size]? = some (.cells #[.int .i64 0, .int .i64 0, .int .i64 0, .int .i64 0, .int .i64 0, .slice none 0 0] 26 (0, 0))) ∧ Hid (t3 ≤ t') ∧ Hid (Sums made a2 a3))
            case atStart => exact ⟨kn, [], none, 0, a2, t', rfl, by simp [Hid], rfl, HF4.out, World.ownsRow_nil _ _ _ _, fun q hq => by simp at hq, HST4.out, HSI4.out, HR4.out, Nat.le_refl _, ⟨0, by simp [sizeL], by omega, by omega, by simp [sizeL]⟩⟩
            case round =>
              obtain ⟨i, made, oa, oc, a3, t3, rfl, HML, HG, HF5, HOW, HMK, HST5, HSI5, HR5, HT3, HSU⟩ := hrel
              clear HF4 HST4 HSI4 HR4
              by_cases hi : 0 < i
              · obtain ⟨j, rfl⟩ : ∃ j, i = j + 1 := ⟨i - 1, by omega⟩
                have hk3 : k ≠ 3 := by
                  intro h; subst h
                  have h1 := HKN.out
                  have h2 := HML.out
                  rw [show kidsR ((3 : Nat) : Int) = 0 from rfl] at h1
                  omega
                have hna := HNA.out hk3
                have hml := HML.out
                have hsu := HSU.out
                have ht3 := HT3.out
                obtain ⟨N0, hN1, hN2, hN3, hN4⟩ := hsu
                have ihc := IH.out hna.1 wr.drew a3 t3 (HST5.out.then ((Below.refl _ _).drew)) (by omega) (by omega)
                rw [show ((deep - 1 : Nat) : Int) = (deep : Int) - 1 by omega] at ihc
                have IHC := Lib.hid ihc
                have v5 : wr.cell? ⟨F, 5, none⟩ = some (.slice oa made.length oc) := cell_of_block HF5.out 5
                have vf : wr.frozen? ⟨F, 5, none⟩ = false := free_of_block HF5.out 5
                have vm : wr.cell? ⟨w0.heap.size + 5, 0, none⟩ = some (.func (.func 22) #[] #[.pointer (some ⟨w0.heap.size + 4, 0, none⟩), .pointer (some ⟨w0.heap.size + 3, 0, none⟩), .pointer (some ⟨w0.heap.size, 0, none⟩), .pointer (some ⟨w0.heap.size + 1, 0, none⟩), .pointer (some ⟨w0.heap.size + 5, 0, none⟩)]) := cell_of_block HST5.out.maker 0
                have hj0 : (0 : Int) < (j : Int) + 1 := by omega
                obtain ⟨n, hnd⟩ : ∃ n, n = made.length := ⟨_, rfl⟩
                have hnl : n ≤ 2 := by omega
                have hdI : (1 : Int) ≤ (deep : Int) := by have := hna.1; omega
                rw [← hnd] at v5
                have HND := Lib.hid hnd
                have hown := HOW.out
                have hF5 := HF5.out
                rw [← hnd] at hown hF5
                have HOW2 := Lib.hid hown
                have HF52 := Lib.hid hF5
                have hjb : (j : Int) ≤ 2 := by omega
                clear ihc hna hN1 hN2 hN3 hN4 hml ht3 hnd hown hF5
                go_wp2_with fail
                have hw1 : IntKind.i64.wrap ((deep : Int) - 1) = (deep : Int) - 1 := IntWalk.i64_in _ (by omega)
                go_region_law (first | (refine step_append_where_ (w2.alloc (.cells #[.int .i64 gk, .int .i64 g1, .int .i64 g2, .int .i64 g3, .int .i64 g4, .slice ga gl.length gc] 26)) (by rfl) (.tmp 98) (.tmp 103) 24 rfl 26 (.agg #[.int .i64 0, .int .i64 0, .int .i64 0, .int .i64 0, .int .i64 0, .slice none 0 0]) 6 64 Try.underlying24 form_info rfl (by decide) (F + 1) (.slice oa n oc) n (made.flatMap (fun q => formCells q.1 q.2)) (by simp [Act.eval]) (hrow4.alloc _) ⟨w2.heap.size, 0, none⟩ 1 1 [.int .i64 gk, .int .i64 g1, .int .i64 g2, .int .i64 g3, .int .i64 g4, .slice ga gl.length gc] (by simp [Act.eval]) rfl (cells_new w2 _ _) (by simp [Value.oneCell']) (by unfold maxLen; omega) (by omega) (by simp; omega) ?_; intro xa xc w3 hx3 hxc1 hxc2 hS3 hloc3; have hF7 := (hS3.block F (by simp; omega) (fun e => by have := (hrow4.lt F e).1; omega)).trans ((Below.heap_alloc _ _ _ hFl).trans hF4); have v6 := cell_of_block hF7 5; have v6f := free_of_block hF7 5; simp only [List.getElem?_toArray, List.getElem?_cons_zero, List.getElem?_cons_succ] at v6) | (go_simp; go_at_call 22; refine (IHC.out).mono ?_; rintro e w2 ⟨gk, g1, g2, g3, g4, gl, ga, gc, a4, t4, rfl, hfm, hok, hst4, hsi4, hcnt, htt4⟩; have hF4 := (hsi4.block F (lt_of_block (w := wr) HF52.out) (by unfold Turns; omega)).trans HF52.out; have hFl := lt_of_block hF4; have hrow4 := hsi4.row (w := wr.drew) HOW2.out (fun b hb => by have := (HOW2.out.lt b hb).1; unfold Turns; omega); have v5b := cell_of_block hF4 5; simp only [List.getElem?_toArray, List.getElem?_cons_zero, List.getElem?_cons_succ] at v5b; have v5c := fun o => (Below.cell ((Below.refl _ _).alloc (Nat.le_refl _) o) (World.block_lt_of_cell? w2 _ v5b)).trans v5b))
                all_goals
                  clear hw1
                  obtain ⟨hlen, hblk, hrow, hkids, hst5, hsw, hrr, hsums⟩ := maker_round hF6 hFR hz (by omega) HND.out HF52.out HOW2.out HMK.out HSI5.out HR5.out HSU.out hfm hok hst4 ((Since.drew _ (Since.refl (Turns w0) wr)).trans hsi4 (fun _ h => .inl h)) hcnt hF7 hx3 hS3 hloc3
                  have hnm : n + 1 + j = kn := by have := HML.out; have := HND.out; omega
                  have H1 := Lib.hid hblk
                  have H2 := Lib.hid hrow
                  have H3 := Lib.hid hkids
                  have H4 := Lib.hid hst5
                  have H5 := Lib.hid hsw
                  have H6 := Lib.hid hrr
                  have H7 := Lib.hid hsums
                  have H8 : Hid (t4 ≤ t') := Nat.le_trans htt4 HT3.out
                  have H9 : Hid ((made ++ [((Form.mk gk ⟨g1, g2, g3, g4⟩ gl), Value.slice ga gl.length gc)]).length + j = kn) := by rw [Hid, hlen]; exact hnm
                  have H0 := Lib.hid hlen
                  clear hlen hblk hrow hkids hst5 hsw hrr hsums hnm hfm hok hst4 hsi4 hcnt hx3 hS3 hloc3 hF7 hF4 hrow4
                  go_wp2_with fail
                  go_roundg j
                  case measure => rw [HG.out]; omega
                  case rel =>
                    refine ⟨j, _, xa, xc, a4, t4, (by first | rfl | simp), H9.out, rfl, ?_, ?_, ?_, H4.out, H5.out, H6.out, H8.out, H7.out⟩
                    · rw [Hid, H0.out]; exact H1.out
                    · rw [Hid, H0.out]; exact H2.out
                    · rw [Hid, H0.out]; exact H3.out
              · obtain rfl : i = 0 := by omega
                have u0 : wr.cell? ⟨F, 0, none⟩ = some (.int .i64 k) := cell_of_block HF5.out 0
                have u1 : wr.cell? ⟨F, 1, none⟩ = some (.int .i64 p1) := cell_of_block HF5.out 1
                have u2 : wr.cell? ⟨F, 2, none⟩ = some (.int .i64 p2) := cell_of_block HF5.out 2
                have u3 : wr.cell? ⟨F, 3, none⟩ = some (.int .i64 p3) := cell_of_block HF5.out 3
                have u4 : wr.cell? ⟨F, 4, none⟩ = some (.int .i64 p4) := cell_of_block HF5.out 4
                have u5 : wr.cell? ⟨F, 5, none⟩ = some (.slice oa made.length oc) := cell_of_block HF5.out 5
                have z0 : wr.cell? ⟨w.heap.size, 0, none⟩ = some (.int .i64 0) := cell_of_block HR5.out 0
                have z1 : wr.cell? ⟨w.heap.size, 1, none⟩ = some (.int .i64 0) := cell_of_block HR5.out 1
                have z2 : wr.cell? ⟨w.heap.size, 2, none⟩ = some (.int .i64 0) := cell_of_block HR5.out 2
                have z3 : wr.cell? ⟨w.heap.size, 3, none⟩ = some (.int .i64 0) := cell_of_block HR5.out 3
                have z4 : wr.cell? ⟨w.heap.size, 4, none⟩ = some (.int .i64 0) := cell_of_block HR5.out 4
                have z5 : wr.cell? ⟨w.heap.size, 5, none⟩ = some (.slice none 0 0) := cell_of_block HR5.out 5
                have zf : ∀ j, wr.frozen? ⟨w.heap.size, j, none⟩ = false := fun j => free_of_block HR5.out j
                obtain ⟨n, hnd⟩ : ∃ n, n = made.length := ⟨_, rfl⟩
                have hml := HML.out
                rw [← hnd] at u5 hml
                have HND := Lib.hid hnd
                have hnb : n ≤ 2 := by omega
                clear hnd hml
                have hset : ((((((wr.setCell ⟨w.heap.size, 0, none⟩ (.int .i64 k)).setCell ⟨w.heap.size, 1, none⟩ (.int .i64 p1)).setCell ⟨w.heap.size, 2, none⟩ (.int .i64 p2)).setCell ⟨w.heap.size, 3, none⟩ (.int .i64 p3)).setCell ⟨w.heap.size, 4, none⟩ (.int .i64 p4)).setCell ⟨w.heap.size, 5, none⟩ (.slice oa n oc)).heap[w.heap.size]? = some (.cells #[.int .i64 k, .int .i64 p1, .int .i64 p2, .int .i64 p3, .int .i64 p4, .slice oa n oc] 26 (0, 0)) := by
                  have := (set_of_block (set_of_block (set_of_block (set_of_block (set_of_block (set_of_block HR5.out 0 (.int .i64 k)) 1 (.int .i64 p1)) 2 (.int .i64 p2)) 3 (.int .i64 p3)) 4 (.int .i64 p4)) 5 (.slice oa n oc))
                  simpa using this
                have hSv : Since (fun b => b = w.heap.size) wr ((((((wr.setCell ⟨w.heap.size, 0, none⟩ (.int .i64 k)).setCell ⟨w.heap.size, 1, none⟩ (.int .i64 p1)).setCell ⟨w.heap.size, 2, none⟩ (.int .i64 p2)).setCell ⟨w.heap.size, 3, none⟩ (.int .i64 p3)).setCell ⟨w.heap.size, 4, none⟩ (.int .i64 p4)).setCell ⟨w.heap.size, 5, none⟩ (.slice oa n oc)) := Since.setCell (F := fun b => b = w.heap.size) (p := ⟨w.heap.size, 5, none⟩) (Since.setCell (F := fun b => b = w.heap.size) (p := ⟨w.heap.size, 4, none⟩) (Since.setCell (F := fun b => b = w.heap.size) (p := ⟨w.heap.size, 3, none⟩) (Since.setCell (F := fun b => b = w.heap.size) (p := ⟨w.heap.size, 2, none⟩) (Since.setCell (F := fun b => b = w.heap.size) (p := ⟨w.heap.size, 1, none⟩) (Since.setCell (F := fun b => b = w.heap.size) (p := ⟨w.heap.size, 0, none⟩) (Since.refl (fun b => b = w.heap.size) wr) (.inl rfl) (.int .i64 k)) (.inl rfl) (.int .i64 p1)) (.inl rfl) (.int .i64 p2)) (.inl rfl) (.int .i64 p3)) (.inl rfl) (.int .i64 p4)) (.inl rfl) (.slice oa n oc)
                have HSET := Lib.hid hset
                have HSV := Lib.hid hSv
                clear hset hSv
                go_wp2
                generalize ((((((wr.setCell ⟨w.heap.size, 0, none⟩ (.int .i64 k)).setCell ⟨w.heap.size, 1, none⟩ (.int .i64 p1)).setCell ⟨w.heap.size, 2, none⟩ (.int .i64 p2)).setCell ⟨w.heap.size, 3, none⟩ (.int .i64 p3)).setCell ⟨w.heap.size, 4, none⟩ (.int .i64 p4)).setCell ⟨w.heap.size, 5, none⟩ (.slice oa n oc)) = V at HSET HSV ⊢
                have y0 : V.cell? ⟨w.heap.size, 0, none⟩ = some (.int .i64 k) := cell_of_block HSET.out 0
                have y1 : V.cell? ⟨w.heap.size, 1, none⟩ = some (.int .i64 p1) := cell_of_block HSET.out 1
                have y2 : V.cell? ⟨w.heap.size, 2, none⟩ = some (.int .i64 p2) := cell_of_block HSET.out 2
                have y3 : V.cell? ⟨w.heap.size, 3, none⟩ = some (.int .i64 p3) := cell_of_block HSET.out 3
                have y4 : V.cell? ⟨w.heap.size, 4, none⟩ = some (.int .i64 p4) := cell_of_block HSET.out 4
                have y5 : V.cell? ⟨w.heap.size, 5, none⟩ = some (.slice oa n oc) := cell_of_block HSET.out 5
                exact bodyPost_ret (v := .agg #[.int .i64 k, .int .i64 p1, .int .i64 p2, .int .i64 p3, .int .i64 p4, .slice oa n oc]) (by simp [results, Try.results22, go_sem, y0, y1, y2, y3, y4, y5]) rfl (maker_done hFR hz HND.out HKN.out HML.out hkn2 HNA.out HPP.out ha21 ha22 (by have := HOW.out; rw [← HND.out] at this; exact this) HMK.out HST5.out HSI5.out HSU.out (Nat.le_trans HT3.out htt) HSV.out)
end Go.Proofs.Ytidnpdkibndpkaa
