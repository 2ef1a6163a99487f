/- All states that are come to: the document's answer: the walk. -/
import Derived.Test.YtnlkbboghcdpnaaExpQ
import Derived.Test.YtnlkbboghcdpnaaFinD
import Derived.Test.YtnlkbboghcdpnaaDo
import Derived.Test.YtnlkbboghcdpnaaAt
import Derived.Test.YtnlkbboghcdpnaaStart
namespace Go.Proofs.Ytnlkbboghcdpnaa
open Go.RowKit

theorem space_size : (Try.prog.info? 42).map (·.size) = some 3 := by kernel_rfl
theorem movesl_info : (Try.prog.info? 53).map (fun i => (i.zero, i.size, i.bytes)) = some (some (.slice none 0 0), 1, 24) := by kernel_rfl
theorem intsl_info : (Try.prog.info? 29).map (fun i => (i.zero, i.size, i.bytes)) = some (some (.slice none 0 0), 1, 24) := by kernel_rfl
theorem Away.of_stays {α : Type} {R : World → α → List Value → Prop} (hR : Stays R) {X : World} {x : α} {cs : List Value} (h : R X x cs) {F : Nat → Prop} (hF : ∀ k, F k → X.heap.size ≤ k) : Away F X (fun y => R y x cs) := fun _ hy => hR _ _ _ _ h ⟨hy.os, hy.tape, hy.output, hy.size, fun k hk => hy.block k hk (fun e => absurd hk (Nat.not_lt.2 (hF k e)))⟩
def SpaceAt (w : World) (s : SpaceD) (sv mv nv : Value) : Prop := StatesAt w sv s.states ∧ SliceR MovesR 1 w mv s.moves ∧ SliceR IntsR 1 w nv s.next
theorem SpaceAt.below {w w' : World} {s : SpaceD} {sv mv nv : Value} (h : SpaceAt w s sv mv nv) (hb : Below w.heap.size w w') : SpaceAt w' s sv mv nv := ⟨SliceR.below StateR.stays h.1 hb, SliceR.below MovesR.stays h.2.1 hb, SliceR.below IntsR.stays h.2.2 hb⟩
theorem Away.mono {F G : Nat → Prop} {X : World} {P : World → Prop} (h : Away F X P) (hF : ∀ k, G k → F k) : Away G X P := h.step (Since.refl (fun _ => False) X) (fun _ h => h.elim) (fun k hk => .inl (hF k hk))
/-- What the call ends with. -/
def ExpEnd (w : World) (r : SpaceD × Int) (e : Ending) (w' : World) : Prop := (∃ sv mv nv, e = .returned (.tuple #[.agg #[sv, mv, nv], .int .i64 r.2]) ∧ SpaceAt w' r.1 sv mv nv ∧ Away (fun k => k < w.heap.size) w' (fun y => SpaceAt y r.1 sv mv nv) ∧ ∀ a n c, sv = .slice a n c → n ≤ c) ∧ Below w.heap.size w w'
theorem expEnd_empty {w w' : World} {r : SpaceD × Int} {k : Int} (h : r = (⟨[], [], []⟩, k)) (hb : Below w.heap.size w w') : ExpEnd w r (.returned (.tuple #[.agg #[.slice none 0 0, .slice none 0 0, .slice none 0 0], .int .i64 k])) w' := by
  subst h; exact ⟨⟨_, _, _, rfl, ⟨SliceR.nil _, SliceR.nil _, SliceR.nil _⟩, fun _ _ => ⟨SliceR.nil _, SliceR.nil _, SliceR.nil _⟩, fun a n c e => by cases e; exact Nat.le_refl _⟩, hb⟩
def resX (o : Option SpaceD) : SpaceD × Int := match o with | some s => (s, 0) | none => (⟨[], [], []⟩, 40)
theorem inner_step {c : CodeD} {m : MachD} {d : Nat} {room : Int} {s : StateD} {ms : List MoveD} {k : Nat} (hk : k < ms.length) (l : List StateD) (nx : List Int) : innerX c m d room s (ms.drop k) l nx =
    if room ≤ ((putAt l (doS c m s (ms.getD k default) d).1).2 : Int) then none else innerX c m d room s (ms.drop (k + 1)) (putAt l (doS c m s (ms.getD k default) d).1).1 (nx ++ [((putAt l (doS c m s (ms.getD k default) d).1).2 : Int)]) := by
  have h : ms.drop k = ms.getD k default :: ms.drop (k + 1) := by
    rw [List.getD_eq_getElem?_getD, List.getElem?_eq_getElem hk]; exact (List.drop_eq_getElem_cons hk)
  rw [h]; rfl
theorem outer_step {c : CodeD} {m : MachD} {d : Nat} {room : Int} {f i : Nat} {l : List StateD} {ml : List (List MoveD)} {nl : List (List Int)} (hi : i < l.length) : outerX c m d room (f + 1) i l ml nl =
    match innerX c m d room (l.getD i default) (movesS c m (l.getD i default) d) l [] with
    | none => none
    | some r => outerX c m d room f (i + 1) r.1 (ml ++ [movesS c m (l.getD i default) d]) (nl ++ [r.2]) := by
  show (if i < l.length then _ else _) = _
  rw [if_pos hi]
  rfl
theorem outer_end {c : CodeD} {m : MachD} {d : Nat} {room : Int} {f i : Nat} {l : List StateD} {ml : List (List MoveD)} {nl : List (List Int)} (hi : ¬ i < l.length) : outerX c m d room (f + 1) i l ml nl = some ⟨l, ml, nl⟩ := by
  unfold outerX
  rw [if_neg hi]
section
variable {W X X1 : World} {g r : Nat} {sv mv nv xv : Value} {sl : List StateD} {ml : List (List MoveD)} {nl : List (List Int)} {xl : List Int} {sc mc nc : List (List Value)}
theorem box_kept {B e size n g : Nat} {v : Value} {xs : List Value} {c : Array Value} {t : TypeId} {f : Nat × Nat} {o : Obj} (h : X.ownsRow B e size v n xs) (hb : X.heap[g]? = some (.cells c t f)) (hne : e ≠ t) (h4 : Since (fun k => v.ownBlock = some k) (X.alloc o) X1) : X1.heap[g]? = some (.cells c t f) :=
  ((((Since.refl _ X).alloc o).trans h4 (fun _ hk => .inl hk) : Since (fun k => v.ownBlock = some k) X X1).block _ (lt_of_block hb) (fun e => box_apart h hb hne _ e rfl)).trans hb
theorem XAt.since_s (_ : XAt W X g r sv mv nv xv sl ml nl xl sc mc nc) {o : Obj} (h4 : Since (fun k => sv.ownBlock = some k) (X.alloc o) X1) (v : Value) : Since (XF g r sv mv nv xv) X (X1.setCell ⟨g, 0, none⟩ v) :=
  ((((Since.refl _ X).alloc o).trans h4 (fun _ hk => .inl hk) : Since (fun k => sv.ownBlock = some k) X X1).mono (G := XF g r sv mv nv xv) (fun _ _ h => .inr (.inl h))).setCell (p := ⟨g, 0, none⟩) (.inl (.inl (.inl rfl))) _
theorem XAt.since_x (_ : XAt W X g r sv mv nv xv sl ml nl xl sc mc nc) {o : Obj} (h4 : Since (fun k => xv.ownBlock = some k) (X.alloc o) X1) : Since (XF g r sv mv nv xv) X X1 :=
  (((Since.refl _ X).alloc o).trans h4 (fun _ hk => .inl hk) : Since (fun k => xv.ownBlock = some k) X X1).mono (G := XF g r sv mv nv xv) (fun _ _ h => .inr (.inr (.inr (.inr h))))
theorem XAt.xf_s (_ : XAt W X g r sv mv nv xv sl ml nl xl sc mc nc) {o : Obj} {sv' : Value} (h5 : ∀ k, sv'.ownBlock = some k → sv.ownBlock = some k ∨ k = (X.alloc o).heap.size) : ∀ k, XF g r sv' mv nv xv k → XF g r sv mv nv xv k ∨ X.heap.size ≤ k := fun k hk => by
  rcases hk with hk | hk | hk
  · exact .inl (.inl hk)
  · rcases h5 k hk with h6 | h6
    · exact .inl (.inr (.inl h6))
    · refine .inr ?_; simp at h6; omega
  · exact .inl (.inr (.inr hk))
theorem XAt.xf_x (_ : XAt W X g r sv mv nv xv sl ml nl xl sc mc nc) {o : Obj} {xv' : Value} (h5 : ∀ k, xv'.ownBlock = some k → xv.ownBlock = some k ∨ k = (X.alloc o).heap.size) : ∀ k, XF g r sv mv nv xv' k → XF g r sv mv nv xv k ∨ X.heap.size ≤ k := fun k hk => by
  rcases hk with hk | hk | hk | hk | hk
  · exact .inl (.inl hk)
  · exact .inl (.inr (.inl hk))
  · exact .inl (.inr (.inr (.inl hk)))
  · exact .inl (.inr (.inr (.inr (.inl hk))))
  · rcases h5 k hk with h6 | h6
    · exact .inl (.inr (.inr (.inr (.inr h6))))
    · refine .inr ?_; simp at h6; omega
end
theorem putAt_cases (l : List StateD) (t : StateD) : (putAt l t).1 = l ∨ (putAt l t).1 = l ++ [t] := by
  unfold putAt; split
  · exact .inl rfl
  · exact .inr rfl
/-- What was gathered, behind a write to the result. -/
theorem XAt.fin {W X X1 : World} {g r : Nat} {sv mv nv xv : Value} {sl : List StateD} {ml : List (List MoveD)} {nl : List (List Int)} {xl : List Int} {sc mc nc : List (List Value)} (h : XAt W X g r sv mv nv xv sl ml nl xl sc mc nc) (hs : Since (fun k => k = r) X X1) : Away (fun k => k ≤ r) X1 (fun y => SpaceAt y ⟨sl, ml, nl⟩ sv mv nv) := fun y hy => by
  have hG : ∀ k, k = r → XF g r sv mv nv xv k ∨ X.heap.size ≤ k := fun k hk => .inl (.inl (.inr (Nat.le_of_eq hk)))
  have hG2 : ∀ k, k ≤ r → XF g r sv mv nv xv k ∨ X1.heap.size ≤ k := fun k hk => .inl (.inl (.inr hk))
  have hF2 : ∀ k, False → XF g r sv mv nv xv k ∨ X1.heap.size ≤ k := fun _ h => h.elim
  have hF : ∀ k, XF g r sv mv nv xv k → XF g r sv mv nv xv k ∨ X.heap.size ≤ k := fun k hk => .inl hk
  exact ⟨((h.st.step hs (fun k hk e => by have := (h.st.row.lt k hk).1; have := h.rlo; omega) hG hF).step hy (fun k hk e => by have := (h.st.row.lt k hk).1; have := h.rlo; omega) hG2 hF2).slice, ((h.mo.step hs (fun k hk e => by have := (h.mo.row.lt k hk).1; have := h.rlo; omega) hG hF).step hy (fun k hk e => by have := (h.mo.row.lt k hk).1; have := h.rlo; omega) hG2 hF2).slice, ((h.ne.step hs (fun k hk e => by have := (h.ne.row.lt k hk).1; have := h.rlo; omega) hG hF).step hy (fun k hk e => by have := (h.ne.row.lt k hk).1; have := h.rlo; omega) hG2 hF2).slice⟩
theorem xat_start {W W1 W2 : World} {r : Nat} {s : StateD} {zv yv : Value} (hr : r < W.heap.size) (hb1 : Below W.heap.size W W1) (hb : Below W.heap.size W W2) (hst : Away (fun k => k < W1.heap.size) W2 (fun y => StateAt y s zv yv)) :
    XAt W ((W2.alloc (.cells #[zv, yv, .bool s.bad] 31)).alloc (.cells #[.slice (some ⟨W2.heap.size, 0, none⟩) 1 1, .slice none 0 0, .slice none 0 0] 42)) (W2.heap.size + 1) r (.slice (some ⟨W2.heap.size, 0, none⟩) 1 1) (.slice none 0 0) (.slice none 0 0) (.slice none 0 0) [s] [] [] [] [[zv, yv, .bool s.bad]] [] [] := by
  have hB : Below W2.heap.size W2 ((W2.alloc (.cells #[zv, yv, .bool s.bad] 31)).alloc (.cells #[.slice (some ⟨W2.heap.size, 0, none⟩) 1 1, .slice none 0 0, .slice none 0 0] 42)) := ((Below.refl _ _).alloc (Nat.le_refl _) _).alloc (by simp) _
  have h1 : ((W2.alloc (.cells #[zv, yv, .bool s.bad] 31)).alloc (.cells #[.slice (some ⟨W2.heap.size, 0, none⟩) 1 1, .slice none 0 0, .slice none 0 0] 42)).heap[W2.heap.size]? = some (.cells #[zv, yv, .bool s.bad] 31 (0, 0)) := (Below.heap_alloc _ _ _ (by simp)).trans (heap_alloc_new W2 _)
  have h2 : ((W2.alloc (.cells #[zv, yv, .bool s.bad] 31)).alloc (.cells #[.slice (some ⟨W2.heap.size, 0, none⟩) 1 1, .slice none 0 0, .slice none 0 0] 42)).heap[W2.heap.size + 1]? = some (.cells #[.slice (some ⟨W2.heap.size, 0, none⟩) 1 1, .slice none 0 0, .slice none 0 0] 42 (0, 0)) := by
    have := heap_alloc_new (W2.alloc (.cells #[zv, yv, .bool s.bad] 31)) (.cells #[.slice (some ⟨W2.heap.size, 0, none⟩) 1 1, .slice none 0 0, .slice none 0 0] 42)
    simpa using this
  have hF : ∀ k, XF (W2.heap.size + 1) r (.slice (some ⟨W2.heap.size, 0, none⟩) 1 1) (.slice none 0 0) (.slice none 0 0) (.slice none 0 0) k → k < W1.heap.size ∨ W2.heap.size ≤ k := fun k hk => by
    have := hb1.size
    unfold XF at hk
    simp [Value.ownBlock] at hk
    omega
  refine ⟨below_then hb hB, by have := hb.size; omega, hr, h2, ⟨rfl, fun j hj => ?_, ?_⟩, ThingsC.nil _ _ _ _ _ _, ThingsC.nil _ _ _ _ _ _, World.ownsRow_nil _ _ _ _⟩
  · simp only [List.length_cons, List.length_nil] at hj
    obtain rfl : j = 0 := by omega
    refine ⟨rfl, ?_⟩
    have h3 : Away (fun k => k < W1.heap.size) W2 (fun y => StateR y s [zv, yv, .bool s.bad]) := fun y hy => ⟨zv, yv, rfl, hst y hy⟩
    exact h3.step (G := fun _ => False) (since_of _ hB) (fun _ h => h.elim) hF
  · exact row_of_block h1 hb.size rfl (by unfold maxLen; omega)
set_option maxRecDepth 100000 in
set_option maxHeartbeats 16000000 in
theorem explore_any (w : World) (c : CodeD) (cv : Value) (d : Nat) (hc : RowsAt d w cv c.threads) (m : MachD) (room : Int) :
    Calls Try.prog 17 #[codeV c cv, machV m, .int .i64 room] w (ExpEnd w (exploreS c m room d)) := by
  obtain ⟨ca, cc, rfl, -⟩ := SliceR.slice hc
  obtain ⟨mo, hmo⟩ : ∃ mo, mo = mayOk c m := ⟨_, rfl⟩
  have hmay := may_any_at c ca cc d m
  rw [← hmo] at hmay
  obtain ⟨R, hR⟩ : ∃ R, R = exploreS c m room d := ⟨_, rfl⟩
  obtain ⟨S0, hS0⟩ : ∃ S0, S0 = startS c := ⟨_, rfl⟩
  have hR2 : R = if mo = false ∨ room < 1 ∨ 100000 < room then (⟨[], [], []⟩, 1) else resX (outerX c m d room (room.toNat + 1) 0 [S0] [] []) := by rw [hR, hmo, hS0]; rfl
  rw [← hR]
  have hstart := fun W hc => start_own W c (.slice ca c.threads.length cc) d hc
  rw [← hS0] at hstart
  have hmoves := fun W hc s sv mv hs hb => moves_any W c (.slice ca c.threads.length cc) d hc m s sv mv hs hb
  have hdo := fun W hc s sv mv hs hb x => do_any W c (.slice ca c.threads.length cc) d hc m s sv mv hs hb x
  have hsb : bufsLe 33 S0 := by rw [hS0]; exact start_bufs c
  obtain ⟨C, hC⟩ : ∃ C, C = c := ⟨_, rfl⟩
  obtain ⟨M, hM⟩ : ∃ M, M = m := ⟨_, rfl⟩
  rw [← hC, ← hM] at hR2
  obtain ⟨vars, dom, cs⟩ := c
  obtain ⟨mod, bnd⟩ := m
  unfold codeV machV
  unfold codeV machV at hmoves hdo
  unfold codeV at hstart
  simp only [] at hc hmay hstart hmoves hdo ⊢
  obtain ⟨cn, hcn⟩ : ∃ cn, cn = cs.length := ⟨_, rfl⟩
  rw [← hcn] at hc hmay hstart hmoves hdo ⊢
  rw [← hC, ← hM] at hmoves hdo
  obtain ⟨hB, h1, h2, h3⟩ := boxes3_all w (.cells #[.int .i64 vars, .int .i64 dom, .slice ca cn cc] 24) (.cells #[.int .i64 mod, .int .i64 bnd] 47) (.cells #[.slice none 0 0, .slice none 0 0, .slice none 0 0] 42)
  have HB := Lib.hid hB
  have H1 := Lib.hid h1
  have H2 := Lib.hid h2
  have H3 := Lib.hid h3
  have HCS := Lib.hid (SliceR.below (RowR.stays d) hc hB)
  have HMAY := Lib.hid hmay
  have HSTART := Lib.hid hstart
  have HMV := Lib.hid hmoves
  have HDO := Lib.hid hdo
  have HSB := Lib.hid hsb
  have HRR := Lib.hid hR2
  clear hC hM hcn hmay hstart hmoves hdo hsb hR2 hmo hR hS0 hB h1 h2 h3 hc
  go_enter Try.func17, Try.ntmps17
  go_upto_region 1 with fail
  generalize World.alloc (World.alloc (World.alloc w _) _) _ = W at HB H1 H2 H3 HCS ⊢
  obtain ⟨gx, hgx⟩ : ∃ gx, gx = w.heap.size := ⟨_, rfl⟩
  rw [← hgx] at H1 H2 H3 ⊢
  have HGX := Lib.hid hgx
  clear hgx
  have HCC : Hid (∀ y, Below W.heap.size W y → y.cell? ⟨gx, 0, none⟩ = some (.int .i64 vars) ∧ y.cell? ⟨gx, 1, none⟩ = some (.int .i64 dom) ∧ y.cell? ⟨gx, 2, none⟩ = some (.slice ca cn cc) ∧
      y.cell? ⟨gx + 1, 0, none⟩ = some (.int .i64 mod) ∧ y.cell? ⟨gx + 1, 1, none⟩ = some (.int .i64 bnd)) := fun y hx =>
    ⟨cells_kept hx _ _ (cell_of_block H1.out 0), cells_kept hx _ _ (cell_of_block H1.out 1), cells_kept hx _ _ (cell_of_block H1.out 2), cells_kept hx _ _ (cell_of_block H2.out 0), cells_kept hx _ _ (cell_of_block H2.out 1)⟩
  have HRES : Hid (∀ y, Below W.heap.size W y → (y.cell? ⟨gx + 2, 0, none⟩ = some (.slice none 0 0) ∧ y.cell? ⟨gx + 2, 1, none⟩ = some (.slice none 0 0) ∧ y.cell? ⟨gx + 2, 2, none⟩ = some (.slice none 0 0)) ∧
      (y.frozen? ⟨gx + 2, 0, none⟩ = false ∧ y.frozen? ⟨gx + 2, 1, none⟩ = false ∧ y.frozen? ⟨gx + 2, 2, none⟩ = false) ∧
      ∀ a b c : Value, (((y.setCell ⟨gx + 2, 0, none⟩ a).setCell ⟨gx + 2, 1, none⟩ b).setCell ⟨gx + 2, 2, none⟩ c).heap[gx + 2]? = some (.cells #[a, b, c] 42 (0, 0)) ∧
        Since (fun k => k = gx + 2) y (((y.setCell ⟨gx + 2, 0, none⟩ a).setCell ⟨gx + 2, 1, none⟩ b).setCell ⟨gx + 2, 2, none⟩ c) ∧
        Below w.heap.size w (((y.setCell ⟨gx + 2, 0, none⟩ a).setCell ⟨gx + 2, 1, none⟩ b).setCell ⟨gx + 2, 2, none⟩ c)) := fun y hy => by
    have hres := (hy.block _ (lt_of_block H3.out)).trans H3.out
    refine ⟨⟨cell_of_block hres 0, cell_of_block hres 1, cell_of_block hres 2⟩, ⟨free_of_block hres 0, free_of_block hres 1, free_of_block hres 2⟩, fun a b c => ?_⟩
    have hset := set_of_block (set_of_block (set_of_block hres 0 a) 1 b) 2 c
    simp only [List.setIfInBounds_toArray, List.set_cons_zero, List.set_cons_succ] at hset
    have hS : Since (fun k => k = gx + 2) y (((y.setCell ⟨gx + 2, 0, none⟩ a).setCell ⟨gx + 2, 1, none⟩ b).setCell ⟨gx + 2, 2, none⟩ c) := Since.setCell (F := fun k => k = gx + 2) (p := ⟨gx + 2, 2, none⟩) (Since.setCell (F := fun k => k = gx + 2) (p := ⟨gx + 2, 1, none⟩) (Since.setCell (F := fun k => k = gx + 2) (p := ⟨gx + 2, 0, none⟩) (Since.refl _ y) (.inl rfl) _) (.inl rfl) _) (.inl rfl) _
    exact ⟨hset, hS, (HB.out.trans (hy.mono HB.out.size)).trans (hS.below (by have := HB.out.size; have := hy.size; omega) (fun k e => by have := HGX.out; omega))⟩
  obtain ⟨c0, c1, c2, c3, c4⟩ := HCC.out W (Below.refl _ _)
  go_wp2_with fail
  refine (HMAY.out W HCS.out).mono ?_
  rintro e W1 ⟨rfl, hb1⟩
  have HB1 := Lib.hid hb1
  clear hb1
  clear HMAY
  have HBAD : Hid (mo = false ∨ room < 1 ∨ 100000 < room → R = (⟨[], [], []⟩, 1)) := fun h => by rw [HRR.out, if_pos h]
  cases mo with
  | false =>
    have HR := Lib.hid (HBAD.out (.inl rfl))
    clear HBAD HRR c0 c1 c2 c3 c4
    obtain ⟨⟨q0, q1, q2⟩, ⟨f0, f1, f2⟩, hend⟩ := HRES.out W1 HB1.out
    obtain ⟨hset, hsn, hbe⟩ := hend (.slice none 0 0) (.slice none 0 0) (.slice none 0 0)
    have HSET := Lib.hid hset
    have HBE := Lib.hid hbe
    have HSN := Lib.hid hsn
    clear hset hbe hend hsn
    go_wp2_with fail
    (try simp only [Exit.inBlock, Exit.then])
    refine bodyPost_ret (results_cell1 rfl _ _ (gx + 2) 42 _ (0, 0) _ rfl HSET.out Try.underlying42 rfl space_size) rfl ?_
    exact expEnd_empty HR.out HBE.out
  | true =>
    by_cases hr1 : room < 1
    · have HR := Lib.hid (HBAD.out (.inr (.inl hr1)))
      clear HBAD HRR c0 c1 c2 c3 c4
      obtain ⟨⟨q0, q1, q2⟩, ⟨f0, f1, f2⟩, hend⟩ := HRES.out W1 HB1.out
      obtain ⟨hset, hsn, hbe⟩ := hend (.slice none 0 0) (.slice none 0 0) (.slice none 0 0)
      have HSET := Lib.hid hset
      have HBE := Lib.hid hbe
      have HSN := Lib.hid hsn
      clear hset hbe hend hsn
      go_wp2_with fail
      (try simp only [Exit.inBlock, Exit.then])
      refine bodyPost_ret (results_cell1 rfl _ _ (gx + 2) 42 _ (0, 0) _ rfl HSET.out Try.underlying42 rfl space_size) rfl ?_
      exact expEnd_empty HR.out HBE.out
    · by_cases hr2 : 100000 < room
      · have HR := Lib.hid (HBAD.out (.inr (.inr hr2)))
        clear HBAD HRR c0 c1 c2 c3 c4
        obtain ⟨⟨q0, q1, q2⟩, ⟨f0, f1, f2⟩, hend⟩ := HRES.out W1 HB1.out
        obtain ⟨hset, hsn, hbe⟩ := hend (.slice none 0 0) (.slice none 0 0) (.slice none 0 0)
        have HSET := Lib.hid hset
        have HBE := Lib.hid hbe
        have HSN := Lib.hid hsn
        clear hset hbe hend hsn
        go_wp2_with fail
        (try simp only [Exit.inBlock, Exit.then])
        refine bodyPost_ret (results_cell1 rfl _ _ (gx + 2) 42 _ (0, 0) _ rfl HSET.out Try.underlying42 rfl space_size) rfl ?_
        exact expEnd_empty HR.out HBE.out
      · obtain ⟨rm, rfl⟩ : ∃ rm : Nat, room = rm := ⟨room.toNat, by omega⟩
        have HR0 : Hid (R = resX (outerX C M d rm (rm + 1) 0 [S0] [] [])) := by
          rw [Hid, HRR.out, if_neg]
          · simp
          · rintro (h | h | h)
            · cases h
            · exact hr1 h
            · exact hr2 h
        clear HBAD HRR c0 c1 c2 c3 c4
        have hrm1 : 1 ≤ rm := by omega
        have hrm2 : rm ≤ 100000 := by omega
        obtain ⟨c0, c1, c2, c3, c4⟩ := HCC.out W1 HB1.out
        go_upto_region 4 with (go_at_call 35; go_must (refine (HSTART.out W1 (SliceR.below (RowR.stays d) HCS.out HB1.out)).mono ?_); rintro e W2 ⟨⟨zv, yv, rfl, hst⟩, hb2⟩; have HB2 := Lib.hid (below_then HB1.out hb2); have HST := Lib.hid hst; clear hst hb2; try unfold stateV)
        have hxat := xat_start (lt_of_block H3.out) HB1.out HB2.out HST.out
        have HXA := Lib.hid hxat
        have hbs : ∀ j, j < 1 → bufsLe 33 (([S0] : List StateD).getD j default) := fun j hj => by
          obtain rfl : j = 0 := by omega
          exact HSB.out
        have HBS := Lib.hid hbs
        clear hxat hbs HB2 HST HB1 c0 c1 c2 c3 c4
        obtain ⟨g7, hg7⟩ : ∃ g, g = W2.heap.size := ⟨_, rfl⟩
        rw [← hg7] at HXA ⊢
        clear hg7
        generalize World.alloc (World.alloc W2 _) _ = X0 at HXA ⊢
        generalize g7 + 1 = g8 at HXA ⊢
        go_wp2_with fail
        go_loopg [9] (rm + 1) (fun gg s9 wr => ∃ (i : Nat) (sa ma na : Option Addr) (sn sc mc nc : Nat) (sl : List StateD) (ml : List (List MoveD)) (nl : List (List Int)) (scc mcc ncc : List (List Value)), i ≤ sn ∧ sn ≤ rm ∧ Hid (gg = rm + 1 - i) ∧ s9 = .int .i64 i ∧ Hid (XAt W wr g8 (gx + 2) (.slice sa sn sc) (.slice ma i mc) (.slice na i nc) (.slice none 0 0) sl ml nl [] scc mcc ncc) ∧ Hid (sl.length = sn) ∧ Hid (ml.length = i) ∧ Hid (nl.length = i) ∧ Hid (R = resX (outerX C M d rm (rm + 1 - i) i sl ml nl)) ∧ Hid (∀ j, j < sn → bufsLe 33 (sl.getD j default)))
        case atStart => exact ⟨0, _, none, none, 1, _, 0, 0, [S0], [], [], _, [], [], by omega, hrm1, rfl, rfl, HXA.out, rfl, rfl, rfl, HR0.out, HBS.out⟩
        case round =>
          obtain ⟨i, sa, ma, na, sn, sc, mc, nc, sl, ml, nl, scc, mcc, ncc, hi, hsn, HG, rfl, HXI, HSL, HML, HNL, HRI, HBI⟩ := hrel
          obtain ⟨wo, rfl⟩ : ∃ wo : World, wo = wr := ⟨_, rfl⟩
          have b0 := cell_of_block HXI.out.box 0
          by_cases hlt : i < sn
          · have hltI : (i : Int) < (sn : Int) := by omega
            obtain ⟨eb, eo, tv, yv, hea, -, x0, x1, x2, hst⟩ := StatesAt.part (HXI.out.st.slice) i (by rw [HSL.out]; exact hlt)
            subst hea
            have hbi := HBI.out i hlt
            obtain ⟨s, hs⟩ : ∃ s, s = sl.getD i default := ⟨_, rfl⟩
            rw [← hs] at x2 hst hbi
            have HSI := Lib.hid hs
            obtain ⟨ta, tac, rfl, -⟩ := SliceR.slice hst.threads
            obtain ⟨ya, yac, rfl, -⟩ := SliceR.slice hst.mem
            obtain ⟨n1, hn1⟩ : ∃ n, n = s.threads.length := ⟨_, rfl⟩
            obtain ⟨n2, hn2⟩ : ∃ n, n = s.mem.length := ⟨_, rfl⟩
            rw [← hn1] at x0 hst
            rw [← hn2] at x1 hst
            obtain ⟨ms, hms⟩ : ∃ ms, ms = movesS C M s d := ⟨_, rfl⟩
            obtain ⟨mn, hmn⟩ : ∃ mn, mn = ms.length := ⟨_, rfl⟩
            have hml : mn ≤ 132 := by rw [hmn, hms]; exact movesS_len
            have hMV : ∀ y, Below wo.heap.size wo y → Calls Try.prog 22 #[.agg #[.int .i64 vars, .int .i64 dom, .slice ca cn cc], .agg #[.int .i64 mod, .int .i64 bnd], .agg #[.slice ta n1 tac, .slice ya n2 yac, .bool s.bad]] y fun e w' => (∃ va vc, e = .returned (.slice va mn vc) ∧ w'.ownsRow y.heap.size 85 3 (.slice va mn vc) mn (flatC MoveD.cells ms)) ∧ Below y.heap.size y w' := fun y hy => by
              have := HMV.out y (SliceR.below (RowR.stays d) HCS.out (below_then HXI.out.below hy)) s (.slice ta n1 tac) (.slice ya n2 yac) (hst.below hy) (fun j hj => by have := hbi j hj; omega)
              rw [← hms] at this
              unfold MovesEnd at this
              rw [← hmn] at this
              exact this
            have HMV1 := Lib.hid hMV
            have HMNN := Lib.hid hmn
            have HMS := Lib.hid hms
            have C7 : Hid (∀ y, Below wo.heap.size wo y → y.cell? ⟨gx, 0, none⟩ = some (.int .i64 vars) ∧ y.cell? ⟨gx, 1, none⟩ = some (.int .i64 dom) ∧ y.cell? ⟨gx, 2, none⟩ = some (.slice ca cn cc) ∧
                y.cell? ⟨gx + 1, 0, none⟩ = some (.int .i64 mod) ∧ y.cell? ⟨gx + 1, 1, none⟩ = some (.int .i64 bnd) ∧ y.cell? ⟨g8, 0, none⟩ = some (.slice (some ⟨eb, eo, none⟩) sn sc) ∧ y.cell? ⟨eb, eo + i * 3, none⟩ = some (.slice ta n1 tac) ∧ y.cell? ⟨eb, eo + i * 3 + 1, none⟩ = some (.slice ya n2 yac) ∧ y.cell? ⟨eb, eo + i * 3 + 2, none⟩ = some (.bool s.bad)) := fun y hy => by
              obtain ⟨c0, c1, c2, c3, c4⟩ := HCC.out y (below_then HXI.out.below hy)
              exact ⟨c0, c1, c2, c3, c4, cells_kept hy _ _ b0, cells_kept hy _ _ x0, cells_kept hy _ _ x1, cells_kept hy _ _ x2⟩
            clear hs hn1 hn2 hms hmn hMV hst x0 x1 x2 hbi
            go_upto_region 7 with fail
            clear b0
            refine wp_region_noPanic ?_
            refine wp_region_held_drew (S := fun x => Below wo.heap.size wo x) (by kernel_rfl) (Below.refl _ _).drew (fun hH => ?_)
            refine wpAnyH_take (i := 0) (v := ?vh1) rfl (by kernel_rfl) (by kernel_rfl) (by kernel_rfl) (fun _ _ _ h => h) (Or.inl ⟨by rfl, ?hyh1⟩) (by assumption) ?_
            case hyh1 => (intro x' hxx; obtain ⟨e0, e1, e2, e3, e4, e5, e6, e7, e8⟩ := C7.out x' hxx; go_simp; try with_reducible rfl)
            change wpAnyH _ _ _ _ _ _ _ (Act.put _ (some 40) _) _
            simp only [Act.put, List.setIfInBounds_toArray, List.set_cons_zero, List.set_cons_succ]
            refine wpAnyH_take (i := 1) (v := ?vh2) rfl (by kernel_rfl) (by kernel_rfl) (by kernel_rfl) (fun _ _ _ h => h) (Or.inl ⟨by rfl, ?hyh2⟩) (by assumption) ?_
            case hyh2 => (intro x' hxx; obtain ⟨e0, e1, e2, e3, e4, e5, e6, e7, e8⟩ := C7.out x' hxx; go_simp; try with_reducible rfl)
            change wpAnyH _ _ _ _ _ _ _ (Act.put _ (some 41) _) _
            simp only [Act.put, List.setIfInBounds_toArray, List.set_cons_zero, List.set_cons_succ]
            refine wpAnyH_take (i := 2) (v := ?vh3) rfl (by kernel_rfl) (by kernel_rfl) (by kernel_rfl) (fun _ _ _ h => h) (Or.inl ⟨by rfl, ?hyh3⟩) (by assumption) ?_
            case hyh3 => (intro x' hxx; obtain ⟨e0, e1, e2, e3, e4, e5, e6, e7, e8⟩ := C7.out x' hxx; go_simp; try with_reducible rfl)
            change wpAnyH _ _ _ _ _ _ _ (Act.put _ (some 42) _) _
            simp only [Act.put, List.setIfInBounds_toArray, List.set_cons_zero, List.set_cons_succ]
            refine wpAnyH_take (i := 3) (v := ?vh4) rfl (by kernel_rfl) (by kernel_rfl) (by kernel_rfl) (fun _ _ _ h => h) (Or.inl ⟨by rfl, ?hyh4⟩) (by assumption) ?_
            case hyh4 => (intro x' hxx; obtain ⟨e0, e1, e2, e3, e4, e5, e6, e7, e8⟩ := C7.out x' hxx; go_simp; try with_reducible rfl)
            change wpAnyH _ _ _ _ _ _ _ (Act.put _ (some 43) _) _
            simp only [Act.put, List.setIfInBounds_toArray, List.set_cons_zero, List.set_cons_succ]
            refine wpAnyH_take (i := 4) (v := ?vh5) rfl (by kernel_rfl) (by kernel_rfl) (by kernel_rfl) (fun _ _ _ h => h) (Or.inl ⟨by rfl, ?hyh5⟩) (by assumption) ?_
            case hyh5 => (intro x' hxx; obtain ⟨e0, e1, e2, e3, e4, e5, e6, e7, e8⟩ := C7.out x' hxx; go_simp; try with_reducible rfl)
            change wpAnyH _ _ _ _ _ _ _ (Act.put _ (some 44) _) _
            simp only [Act.put, List.setIfInBounds_toArray, List.set_cons_zero, List.set_cons_succ]
            refine wpAnyH_take (i := 5) (v := ?vh6) rfl (by kernel_rfl) (by kernel_rfl) (by kernel_rfl) (fun _ _ _ h => h) (Or.inl ⟨by rfl, ?hyh6⟩) (by assumption) ?_
            case hyh6 => (intro x' hxx; obtain ⟨e0, e1, e2, e3, e4, e5, e6, e7, e8⟩ := C7.out x' hxx; go_simp; try with_reducible rfl)
            change wpAnyH _ _ _ _ _ _ _ (Act.put _ (some 45) _) _
            simp only [Act.put, List.setIfInBounds_toArray, List.set_cons_zero, List.set_cons_succ]
            refine wpAnyH_take (i := 6) (v := ?vh7) rfl (by kernel_rfl) (by kernel_rfl) (by kernel_rfl) (fun _ _ _ h => h) (Or.inl ⟨by rfl, ?hyh7⟩) (by assumption) ?_
            case hyh7 => (intro x' hxx; obtain ⟨e0, e1, e2, e3, e4, e5, e6, e7, e8⟩ := C7.out x' hxx; go_simp; try with_reducible rfl)
            change wpAnyH _ _ _ _ _ _ _ (Act.put _ (some 46) _) _
            simp only [Act.put, List.setIfInBounds_toArray, List.set_cons_zero, List.set_cons_succ]
            refine wpAnyH_ready (rs := [7]) (by kernel_rfl) (by simp) ?_
            refine AllReadyH.cons rfl (fun K hK => ?_) AllReadyH.nil
            go_simp
            refine (HMV1.out wo.drew hH).mono ?_
            rintro e hw7 ⟨⟨va, vc, rfl, hmr⟩, hb⟩
            have HMR := Lib.hid hmr
            have HMG : Hid (wo.heap.size ≤ wo.drew.heap.size) := (hH).size
            clear hmr
            have hHh7 : Below wo.heap.size wo hw7 := below_then hH hb
            refine hK.out _ _ hHh7 (fun _ => ?_)
            clear hK K hb hH
            refine wpAnyH_take (i := 8) (v := ?vh8) rfl (by kernel_rfl) (by kernel_rfl) (by kernel_rfl) (fun _ _ _ h => h) (Or.inl ⟨by rfl, ?hyh8⟩) (by assumption) ?_
            case hyh8 => (intro x' hxx; obtain ⟨e0, e1, e2, e3, e4, e5, e6, e7, e8⟩ := C7.out x' hxx; go_simp; try with_reducible rfl)
            change wpAnyH _ _ _ _ _ _ _ (Act.put _ (some 10) _) _
            simp only [Act.put, List.setIfInBounds_toArray, List.set_cons_zero, List.set_cons_succ]
            refine wpAnyH_done (by kernel_rfl) ?_ _
            refine NoPanic.normal ?_
            have HEND := Lib.hid hHh7
            clear hHh7
            have hxm := HXI.out.call HEND.out
            have hawm : Away (XF g8 (gx + 2) (.slice (some ⟨eb, eo, none⟩) sn sc) (.slice ma i mc) (.slice na i nc) (.slice none 0 0)) hw7 (fun y => MovesAt y (.slice va mn vc) ms) := fun y hy => moves_of (by rw [← HMNN.out]; exact hy.row HMR.out (fun k hk e => by have := (HMR.out.lt k hk).1; have := HXI.out.blocks k e; have := HMG.out; omega))
            have HXM := Lib.hid hxm
            have HAWM := Lib.hid hawm
            clear hxm hawm HMV1 C7
            go_wp2_with fail
            go_loopg [11, 12] mn (fun gg s11 s12 wr => ∃ (k : Nat) (sa' xa : Option Addr) (sn' sc' xc : Nat) (sl' : List StateD) (xl : List Int) (scc' : List (List Value)), k ≤ mn ∧ Hid (gg = mn - k) ∧ s11 = .slice xa k xc ∧ s12 = .int .i64 k ∧ i < sn' ∧ sn' ≤ rm ∧ Hid (XAt W wr g8 (gx + 2) (.slice sa' sn' sc') (.slice ma i mc) (.slice na i nc) (.slice xa k xc) sl' ml nl xl scc' mcc ncc) ∧ Hid (sl'.length = sn') ∧ Hid (xl.length = k) ∧ Hid (innerX C M d rm s ms sl [] = innerX C M d rm s (ms.drop k) sl' xl) ∧ Hid (Away (XF g8 (gx + 2) (.slice sa' sn' sc') (.slice ma i mc) (.slice na i nc) (.slice xa k xc)) wr (fun y => MovesAt y (.slice va mn vc) ms)) ∧ Hid (∀ j, j < sn' → bufsLe 33 (sl'.getD j default)) ∧ Hid (sl'.getD i default = s))
            case atStart => exact ⟨0, _, none, sn, _, 0, sl, [], _, Nat.zero_le _, rfl, rfl, rfl, hlt, hsn, HXM.out, HSL.out, rfl, rfl, HAWM.out, HBI.out, HSI.out.symm⟩
            case round =>
              obtain ⟨k, sa', xa, sn', sc', xc, sl', xl, scc', hk, HG2, rfl, rfl, hin, hsn', HXK, HSL', HXL, HIN, HAK, HBK, HSK⟩ := hrel
              obtain ⟨wo2, rfl⟩ : ∃ wo2 : World, wo2 = wr := ⟨_, rfl⟩
              by_cases hkl : k < mn
              · have hklI : (k : Int) < (mn : Int) := by omega
                have hinI : (i : Int) < (sn' : Int) := by omega
                have b0 := cell_of_block HXK.out.box 0
                obtain ⟨eb', eo', tv, yv, hea, -, x0, x1, x2, hst⟩ := StatesAt.part (HXK.out.st.slice) i (by rw [HSL'.out]; exact hin)
                subst hea
                have hbi := HBK.out i hin
                rw [HSK.out] at x2 hst hbi
                obtain ⟨ta', tac', rfl, -⟩ := SliceR.slice hst.threads
                obtain ⟨ya', yac', rfl, -⟩ := SliceR.slice hst.mem
                obtain ⟨n1', hn1⟩ : ∃ n, n = s.threads.length := ⟨_, rfl⟩
                obtain ⟨n2', hn2⟩ : ∃ n, n = s.mem.length := ⟨_, rfl⟩
                rw [← hn1] at x0 hst
                rw [← hn2] at x1 hst
                obtain ⟨mb, mo', hma, -, m0, m1, m2⟩ := MovesAt.part HAK.out.now k (by rw [← HMNN.out]; exact hkl)
                have hma2 := hma
                obtain ⟨x, hx⟩ : ∃ x, x = ms.getD k default := ⟨_, rfl⟩
                rw [← hx] at m0 m1 m2
                obtain ⟨kd, th, vr⟩ := x
                simp only [] at m0 m1 m2
                obtain ⟨⟨tt, er⟩, hdd⟩ : ∃ p, p = doS C M s ⟨kd, th, vr⟩ d := ⟨_, rfl⟩
                have HIN2 : Hid (innerX C M d rm s ms sl [] = if (rm : Int) ≤ ((putAt sl' tt).2 : Int) then none else innerX C M d rm s (ms.drop (k + 1)) (putAt sl' tt).1 (xl ++ [((putAt sl' tt).2 : Int)])) := by
                  rw [Hid, HIN.out, inner_step (by rw [← HMNN.out]; exact hkl), ← hx, ← hdd]
                have hbt : bufsLe 33 tt := by have := do_bufs (c := C) (m := M) (s := s) (x := ⟨kd, th, vr⟩) (d := d); rw [← hdd] at this; exact this
                have hDO : ∀ y, Below wo2.heap.size wo2 y → Calls Try.prog 36 #[.agg #[.int .i64 vars, .int .i64 dom, .slice ca cn cc], .agg #[.int .i64 mod, .int .i64 bnd], .agg #[.slice ta' n1' tac', .slice ya' n2' yac', .bool s.bad], .agg #[.int .i64 kd, .int .i64 th, .int .i64 vr]] y (DoEnd y (tt, er)) := fun y hy => by
                  rw [hdd]
                  exact HDO.out y (SliceR.below (RowR.stays d) HCS.out (below_then HXK.out.below hy)) s (.slice ta' n1' tac') (.slice ya' n2' yac') (hst.below hy) (fun j hj => by have := hbi j hj; omega) ⟨kd, th, vr⟩
                have HDO1 := Lib.hid hDO
                have HBT := Lib.hid hbt
                have HMA := Lib.hid hma2
                subst hma
                have C12 : Hid (∀ y, Below wo2.heap.size wo2 y → y.cell? ⟨gx, 0, none⟩ = some (.int .i64 vars) ∧ y.cell? ⟨gx, 1, none⟩ = some (.int .i64 dom) ∧ y.cell? ⟨gx, 2, none⟩ = some (.slice ca cn cc) ∧
                    y.cell? ⟨gx + 1, 0, none⟩ = some (.int .i64 mod) ∧ y.cell? ⟨gx + 1, 1, none⟩ = some (.int .i64 bnd) ∧ y.cell? ⟨g8, 0, none⟩ = some (.slice (some ⟨eb', eo', none⟩) sn' sc') ∧ y.cell? ⟨eb', eo' + i * 3, none⟩ = some (.slice ta' n1' tac') ∧ y.cell? ⟨eb', eo' + i * 3 + 1, none⟩ = some (.slice ya' n2' yac') ∧ y.cell? ⟨eb', eo' + i * 3 + 2, none⟩ = some (.bool s.bad) ∧
                    y.cell? ⟨mb, mo' + k * 3, none⟩ = some (.int .i64 kd) ∧ y.cell? ⟨mb, mo' + k * 3 + 1, none⟩ = some (.int .i64 th) ∧ y.cell? ⟨mb, mo' + k * 3 + 2, none⟩ = some (.int .i64 vr)) := fun y hy => by
                  obtain ⟨c0, c1, c2, c3, c4⟩ := HCC.out y (below_then HXK.out.below hy)
                  exact ⟨c0, c1, c2, c3, c4, cells_kept hy _ _ b0, cells_kept hy _ _ x0, cells_kept hy _ _ x1, cells_kept hy _ _ x2, cells_kept hy _ _ m0, cells_kept hy _ _ m1, cells_kept hy _ _ m2⟩
                clear hn1 hn2 hdd hbt hDO hst x0 x1 x2 m0 m1 m2 hbi b0 hma2 hx
                go_upto_region 12 with fail
                go_cut [13] (fun s13 w' => ∃ (tb : Nat) (za zb : Option Addr) (zn zc yn yc : Nat), s13 = .pointer (some ⟨tb, 0, none⟩) ∧ Hid (Below wo2.heap.size wo2 w') ∧ Hid (w'.heap[tb]? = some (.cells #[.slice za zn zc, .slice zb yn yc, .bool tt.bad] 31 (0, 0))) ∧ Hid (wo2.heap.size ≤ tb) ∧ Hid (Away (fun k => k < wo2.heap.size ∨ k = tb) w' (fun y => StateR y tt [.slice za zn zc, .slice zb yn yc, .bool tt.bad])))
                case first =>
                  have hT0 := Lib.hid (Loc.start wo2).drew
                  refine wp_region_noPanic ?_
                  refine wp_region_held_drew (S := fun x => Below wo2.heap.size wo2 x) (by kernel_rfl) (Below.refl _ _).drew (fun _ => ?_)
                  obtain ⟨wd, hwd⟩ : ∃ wd, wd = wo2.drew := ⟨_, rfl⟩
                  rw [← hwd] at hT0 ⊢
                  clear hwd
                  refine wpAnyH_take (i := 0) (v := ?ve1) rfl (by kernel_rfl) (by kernel_rfl) (by kernel_rfl) (fun _ _ _ h => h) (Or.inl ⟨by rfl, ?hye1⟩) (hT0.out.below) ?_
                  case hye1 => (intro x' hxx; obtain ⟨e0, e1, e2, e3, e4, e5, e6, e7, e8, e9, e10, e11⟩ := C12.out x' hxx; go_simp; try with_reducible rfl)
                  change wpAnyH _ _ _ _ _ _ _ (Act.put _ (some 55) _) _
                  simp only [Act.put, List.setIfInBounds_toArray]
                  try simp only [List.set_cons_zero, List.set_cons_succ]
                  refine wpAnyH_take (i := 1) (v := ?ve2) rfl (by kernel_rfl) (by kernel_rfl) (by kernel_rfl) (fun _ _ _ h => h) (Or.inl ⟨by rfl, ?hye2⟩) (hT0.out.below) ?_
                  case hye2 => (intro x' hxx; obtain ⟨e0, e1, e2, e3, e4, e5, e6, e7, e8, e9, e10, e11⟩ := C12.out x' hxx; go_simp; try with_reducible rfl)
                  change wpAnyH _ _ _ _ _ _ _ (Act.put _ (some 56) _) _
                  simp only [Act.put, List.setIfInBounds_toArray]
                  try simp only [List.set_cons_zero, List.set_cons_succ]
                  refine wpAnyH_take (i := 2) (v := ?ve3) rfl (by kernel_rfl) (by kernel_rfl) (by kernel_rfl) (fun _ _ _ h => h) (Or.inl ⟨by rfl, ?hye3⟩) (hT0.out.below) ?_
                  case hye3 => (intro x' hxx; clear hxx; go_simp; try with_reducible rfl)
                  change wpAnyH _ _ _ _ _ _ _ (Act.put _ (some 57) _) _
                  simp only [Act.put, List.setIfInBounds_toArray]
                  try simp only [List.set_cons_zero, List.set_cons_succ]
                  refine wpAnyH_take (i := 3) (v := ?ve4) rfl (by kernel_rfl) (by kernel_rfl) (by kernel_rfl) (fun _ _ _ h => h) (Or.inl ⟨by rfl, ?hye4⟩) (hT0.out.below) ?_
                  case hye4 => (intro x' hxx; obtain ⟨e0, e1, e2, e3, e4, e5, e6, e7, e8, e9, e10, e11⟩ := C12.out x' hxx; go_simp; try with_reducible rfl)
                  change wpAnyH _ _ _ _ _ _ _ (Act.put _ (some 58) _) _
                  simp only [Act.put, List.setIfInBounds_toArray]
                  try simp only [List.set_cons_zero, List.set_cons_succ]
                  refine wpAnyH_take (i := 4) (v := ?ve5) rfl (by kernel_rfl) (by kernel_rfl) (by kernel_rfl) (fun _ _ _ h => h) (Or.inl ⟨by rfl, ?hye5⟩) (hT0.out.below) ?_
                  case hye5 => (intro x' hxx; clear hxx; go_simp; try with_reducible rfl)
                  change wpAnyH _ _ _ _ _ _ _ (Act.put _ (some 59) _) _
                  simp only [Act.put, List.setIfInBounds_toArray]
                  try simp only [List.set_cons_zero, List.set_cons_succ]
                  refine wpAnyH_take (i := 5) (v := ?ve6) rfl (by kernel_rfl) (by kernel_rfl) (by kernel_rfl) (fun _ _ _ h => h) (Or.inl ⟨by rfl, ?hye6⟩) (hT0.out.below) ?_
                  case hye6 => (intro x' hxx; clear hxx; go_simp; try with_reducible rfl)
                  change wpAnyH _ _ _ _ _ _ _ (Act.put _ (some 60) _) _
                  simp only [Act.put, List.setIfInBounds_toArray]
                  try simp only [List.set_cons_zero, List.set_cons_succ]
                  refine wpAnyH_take (i := 6) (v := ?ve7) rfl (by kernel_rfl) (by kernel_rfl) (by kernel_rfl) (fun _ _ _ h => h) (Or.inl ⟨by rfl, ?hye7⟩) (hT0.out.below) ?_
                  case hye7 => (intro x' hxx; obtain ⟨e0, e1, e2, e3, e4, e5, e6, e7, e8, e9, e10, e11⟩ := C12.out x' hxx; go_simp; try with_reducible rfl)
                  change wpAnyH _ _ _ _ _ _ _ (Act.put _ (some 61) _) _
                  simp only [Act.put, List.setIfInBounds_toArray]
                  try simp only [List.set_cons_zero, List.set_cons_succ]
                  refine wpAnyH_take (i := 7) (v := ?ve8) rfl (by kernel_rfl) (by kernel_rfl) (by kernel_rfl) (fun _ _ _ h => h) (Or.inl ⟨by rfl, ?hye8⟩) (hT0.out.below) ?_
                  case hye8 => (intro x' hxx; clear hxx; go_simp; try with_reducible rfl)
                  change wpAnyH _ _ _ _ _ _ _ (Act.put _ (some 62) _) _
                  simp only [Act.put, List.setIfInBounds_toArray]
                  try simp only [List.set_cons_zero, List.set_cons_succ]
                  refine wpAnyH_take (i := 8) (v := ?ve9) rfl (by kernel_rfl) (by kernel_rfl) (by kernel_rfl) (fun _ _ _ h => h) (Or.inl ⟨by rfl, ?hye9⟩) (hT0.out.below) ?_
                  case hye9 => (intro x' hxx; clear hxx; go_simp; try with_reducible rfl)
                  change wpAnyH _ _ _ _ _ _ _ (Act.put _ (some 63) _) _
                  simp only [Act.put, List.setIfInBounds_toArray]
                  try simp only [List.set_cons_zero, List.set_cons_succ]
                  refine wpAnyH_take (i := 9) (v := ?ve10) rfl (by kernel_rfl) (by kernel_rfl) (by kernel_rfl) (fun _ _ _ h => h) (Or.inl ⟨by rfl, ?hye10⟩) (hT0.out.below) ?_
                  case hye10 => (intro x' hxx; clear hxx; go_simp; try with_reducible rfl)
                  change wpAnyH _ _ _ _ _ _ _ (Act.put _ (some 64) _) _
                  simp only [Act.put, List.setIfInBounds_toArray]
                  try simp only [List.set_cons_zero, List.set_cons_succ]
                  refine wpAnyH_take (i := 10) (v := ?ve11) rfl (by kernel_rfl) (by kernel_rfl) (by kernel_rfl) (fun _ _ _ h => h) (Or.inl ⟨by rfl, ?hye11⟩) (hT0.out.below) ?_
                  case hye11 => (intro x' hxx; obtain ⟨e0, e1, e2, e3, e4, e5, e6, e7, e8, e9, e10, e11⟩ := C12.out x' hxx; go_simp; try with_reducible rfl)
                  change wpAnyH _ _ _ _ _ _ _ (Act.put _ (some 65) _) _
                  simp only [Act.put, List.setIfInBounds_toArray]
                  try simp only [List.set_cons_zero, List.set_cons_succ]
                  refine wpAnyH_ready (rs := [11, 15]) (by kernel_rfl) (by simp) ?_
                  refine AllReadyH.cons rfl (fun K hK => ?_) (AllReadyH.cons rfl (fun K hK => ?_) AllReadyH.nil)
                  · skip
                    go_simp
                    refine (HDO1.out wd (hT0.out.below)).mono ?_
                    rintro e Xe2 ⟨⟨xa, xn, xc, ya, yn, yc, bs, rfl, hown⟩, hb⟩
                    have hTe1 := Lib.hid (hT0.out.later hb)
                    have hog : wo2.heap.size ≤ wd.heap.size := (hT0.out.below).size
                    have HAW : Hid (Away (fun k => k < wo2.heap.size) Xe2 (fun y => StateR y tt [.slice xa xn xc, .slice ya yn yc, .bool tt.bad])) := own_away hown (fun k hk => by omega)
                    clear hb hown hog
                    try unfold stateV
                    refine hK.out _ _ hTe1.out.below (fun _ => ?_)
                    clear hK K
                    refine wpAnyH_take (i := 12) (v := ?ve12) rfl (by kernel_rfl) (by kernel_rfl) (by kernel_rfl) (fun _ _ _ h => h) (Or.inl ⟨by rfl, ?hye12⟩) (hTe1.out.below) ?_
                    case hye12 => (intro x' hxx; clear hxx; go_simp; try with_reducible rfl)
                    change wpAnyH _ _ _ _ _ _ _ (Act.put _ (some 54) _) _
                    simp only [Act.put, List.setIfInBounds_toArray]
                    try simp only [List.set_cons_zero, List.set_cons_succ]
                    refine wpAnyH_take (i := 13) (v := ?ve13) rfl (by kernel_rfl) (by kernel_rfl) (by kernel_rfl) (fun _ _ _ h => h) (Or.inl ⟨by rfl, ?hye13⟩) (hTe1.out.below) ?_
                    case hye13 => (intro x' hxx; clear hxx; go_simp; try with_reducible rfl)
                    change wpAnyH _ _ _ _ _ _ _ (Act.put _ (some 67) _) _
                    simp only [Act.put, List.setIfInBounds_toArray]
                    try simp only [List.set_cons_zero, List.set_cons_succ]
                    refine wpAnyH_take (i := 14) (v := ?ve14) rfl (by kernel_rfl) (by kernel_rfl) (by kernel_rfl) (fun _ _ _ h => h) (Or.inl ⟨by rfl, ?hye14⟩) (hTe1.out.below) ?_
                    case hye14 => (intro x' hxx; clear hxx; go_simp; try with_reducible rfl)
                    change wpAnyH _ _ _ _ _ _ _ (Act.put _ (some 68) _) _
                    simp only [Act.put, List.setIfInBounds_toArray]
                    try simp only [List.set_cons_zero, List.set_cons_succ]
                    refine wpAnyH_ready (rs := [15]) (by kernel_rfl) (by simp) ?_
                    refine AllReadyH.cons rfl (fun K hK => ?_) AllReadyH.nil
                    go_simp
                    have hAW : Away (fun k => k < wo2.heap.size ∨ k = Xe2.heap.size) (Xe2.alloc (.cells ([.slice none 0 0, .slice none 0 0, .bool false] : List Value).toArray 31)) (fun y => StateR y tt [.slice xa xn xc, .slice ya yn yc, .bool tt.bad]) := HAW.out.step (G := fun _ => False) (since_of _ ((Below.refl Xe2.heap.size Xe2).alloc (Nat.le_refl _) _)) (fun _ h => h.elim) (fun k hk => by omega)
                    clear HAW
                    have hTe3 := hTe1.out.alloc 31 [.slice none 0 0, .slice none 0 0, .bool false]
                    refine hK.out _ _ hTe3.below (fun _ => ?_)
                    obtain ⟨tb, htb⟩ : ∃ n, n = Xe2.heap.size := ⟨_, rfl⟩
                    rw [← htb] at hTe3 hAW ⊢
                    clear htb
                    generalize World.alloc Xe2 _ = Xe4 at hTe3 hAW ⊢
                    replace hTe3 := Lib.hid hTe3
                    replace hAW := Lib.hid hAW
                    have HAW := hAW
                    clear hAW
                    clear hK K
                    refine wpAnyH_ready (rs := [16]) (by kernel_rfl) (by simp) ?_
                    refine AllReadyH.cons rfl (fun K hK => ?_) AllReadyH.nil
                    obtain ⟨hn, -⟩ := hTe3.out.news (tb, 31, [.slice none 0 0, .slice none 0 0, .bool false]) (List.mem_cons_self ..)
                    have d0 := cell_of_block hn 0
                    have f0 := free_of_block hn 0
                    have d1 := cell_of_block hn 1
                    have f1 := free_of_block hn 1
                    have d2 := cell_of_block hn 2
                    have f2 := free_of_block hn 2
                    clear hn
                    have hTe5 := hTe3.out.store (g := tb) (t := 31) (cs := [.slice none 0 0, .slice none 0 0, .bool false]) (List.mem_cons_self ..) [.slice xa xn xc, .slice ya yn yc, .bool tt.bad] rfl
                    replace hTe5 := Lib.hid hTe5
                    go_simp
                    clear d0 f0 d1 f1 d2 f2
                    refine hK.out _ (setAll Xe4 tb 0 [.slice xa xn xc, .slice ya yn yc, .bool tt.bad]) hTe5.out.below (fun _ => ?_)
                    have hAW : Away (fun k => k < wo2.heap.size ∨ k = tb) (setAll Xe4 tb 0 [.slice xa xn xc, .slice ya yn yc, .bool tt.bad]) (fun y => StateR y tt [.slice xa xn xc, .slice ya yn yc, .bool tt.bad]) := HAW.out.step (setAll_since _ _ _) (fun k hk => .inl (.inr hk)) (fun k hk => .inl hk)
                    clear HAW
                    generalize setAll Xe4 tb 0 _ = Xe6 at hTe5 hAW ⊢
                    replace hAW := Lib.hid hAW
                    clear hK K
                    refine wpAnyH_take (i := 17) (v := ?ve15) rfl (by kernel_rfl) (by kernel_rfl) (by kernel_rfl) (fun _ _ _ h => h) (Or.inl ⟨by rfl, ?hye15⟩) (hTe5.out.below) ?_
                    case hye15 => (intro x' hxx; clear hxx; go_simp; try with_reducible rfl)
                    change wpAnyH _ _ _ _ _ _ _ (Act.put _ (some 14) _) _
                    simp only [Act.put, List.setIfInBounds_toArray]
                    try simp only [List.set_cons_zero, List.set_cons_succ]
                    refine wpAnyH_done (by kernel_rfl) ?_ _
                    refine NoPanic.normal ?_
                    obtain ⟨hx, hxl⟩ := hTe5.out.news (tb, 31, [.slice xa xn xc, .slice ya yn yc, .bool tt.bad]) (upd_mem (List.mem_cons_self ..))
                    have HXX := Lib.hid hx
                    have HXL := Lib.hid hxl
                    clear hx hxl
                    go_wp2_with fail
                    go_meet
                    case rel => exact ⟨tb, xa, ya, xn, xc, yn, yc, rfl, hTe5.out.below, HXX.out, HXL.out, hAW.out⟩
                  · skip
                    go_simp
                    have hTe7 := hT0.out.alloc 31 [.slice none 0 0, .slice none 0 0, .bool false]
                    refine hK.out _ _ hTe7.below (fun _ => ?_)
                    obtain ⟨tb, htb⟩ : ∃ n, n = wd.heap.size := ⟨_, rfl⟩
                    rw [← htb] at hTe7 ⊢
                    clear htb
                    generalize World.alloc wd _ = Xe8 at hTe7 ⊢
                    replace hTe7 := Lib.hid hTe7
                    clear hK K
                    refine wpAnyH_ready (rs := [11]) (by kernel_rfl) (by simp) ?_
                    refine AllReadyH.cons rfl (fun K hK => ?_) AllReadyH.nil
                    go_simp
                    refine (HDO1.out Xe8 (hTe7.out.below)).mono ?_
                    rintro e Xe10 ⟨⟨xa, xn, xc, ya, yn, yc, bs, rfl, hown⟩, hb⟩
                    have hTe9 := Lib.hid (hTe7.out.later hb)
                    have hog : wo2.heap.size ≤ Xe8.heap.size := (hTe7.out.below).size
                    have htb := lt_of_block (hTe7.out.news (tb, 31, [.slice none 0 0, .slice none 0 0, .bool false]) (List.mem_cons_self ..)).1
                    simp only [] at htb
                    have HAW : Hid (Away (fun k => k < wo2.heap.size ∨ k = tb) Xe10 (fun y => StateR y tt [.slice xa xn xc, .slice ya yn yc, .bool tt.bad])) := own_away hown (fun k hk => by omega)
                    clear htb
                    clear hb hown hog
                    try unfold stateV
                    refine hK.out _ _ hTe9.out.below (fun _ => ?_)
                    clear hK K
                    refine wpAnyH_take (i := 12) (v := ?ve16) rfl (by kernel_rfl) (by kernel_rfl) (by kernel_rfl) (fun _ _ _ h => h) (Or.inl ⟨by rfl, ?hye16⟩) (hTe9.out.below) ?_
                    case hye16 => (intro x' hxx; clear hxx; go_simp; try with_reducible rfl)
                    change wpAnyH _ _ _ _ _ _ _ (Act.put _ (some 54) _) _
                    simp only [Act.put, List.setIfInBounds_toArray]
                    try simp only [List.set_cons_zero, List.set_cons_succ]
                    refine wpAnyH_take (i := 13) (v := ?ve17) rfl (by kernel_rfl) (by kernel_rfl) (by kernel_rfl) (fun _ _ _ h => h) (Or.inl ⟨by rfl, ?hye17⟩) (hTe9.out.below) ?_
                    case hye17 => (intro x' hxx; clear hxx; go_simp; try with_reducible rfl)
                    change wpAnyH _ _ _ _ _ _ _ (Act.put _ (some 67) _) _
                    simp only [Act.put, List.setIfInBounds_toArray]
                    try simp only [List.set_cons_zero, List.set_cons_succ]
                    refine wpAnyH_take (i := 14) (v := ?ve18) rfl (by kernel_rfl) (by kernel_rfl) (by kernel_rfl) (fun _ _ _ h => h) (Or.inl ⟨by rfl, ?hye18⟩) (hTe9.out.below) ?_
                    case hye18 => (intro x' hxx; clear hxx; go_simp; try with_reducible rfl)
                    change wpAnyH _ _ _ _ _ _ _ (Act.put _ (some 68) _) _
                    simp only [Act.put, List.setIfInBounds_toArray]
                    try simp only [List.set_cons_zero, List.set_cons_succ]
                    refine wpAnyH_ready (rs := [16]) (by kernel_rfl) (by simp) ?_
                    refine AllReadyH.cons rfl (fun K hK => ?_) AllReadyH.nil
                    obtain ⟨hn, -⟩ := hTe9.out.news (tb, 31, [.slice none 0 0, .slice none 0 0, .bool false]) (List.mem_cons_self ..)
                    have d0 := cell_of_block hn 0
                    have f0 := free_of_block hn 0
                    have d1 := cell_of_block hn 1
                    have f1 := free_of_block hn 1
                    have d2 := cell_of_block hn 2
                    have f2 := free_of_block hn 2
                    clear hn
                    have hTe11 := hTe9.out.store (g := tb) (t := 31) (cs := [.slice none 0 0, .slice none 0 0, .bool false]) (List.mem_cons_self ..) [.slice xa xn xc, .slice ya yn yc, .bool tt.bad] rfl
                    replace hTe11 := Lib.hid hTe11
                    go_simp
                    clear d0 f0 d1 f1 d2 f2
                    refine hK.out _ (setAll Xe10 tb 0 [.slice xa xn xc, .slice ya yn yc, .bool tt.bad]) hTe11.out.below (fun _ => ?_)
                    have hAW : Away (fun k => k < wo2.heap.size ∨ k = tb) (setAll Xe10 tb 0 [.slice xa xn xc, .slice ya yn yc, .bool tt.bad]) (fun y => StateR y tt [.slice xa xn xc, .slice ya yn yc, .bool tt.bad]) := HAW.out.step (setAll_since _ _ _) (fun k hk => .inl (.inr hk)) (fun k hk => .inl hk)
                    clear HAW
                    generalize setAll Xe10 tb 0 _ = Xe12 at hTe11 hAW ⊢
                    replace hAW := Lib.hid hAW
                    clear hK K
                    refine wpAnyH_take (i := 17) (v := ?ve19) rfl (by kernel_rfl) (by kernel_rfl) (by kernel_rfl) (fun _ _ _ h => h) (Or.inl ⟨by rfl, ?hye19⟩) (hTe11.out.below) ?_
                    case hye19 => (intro x' hxx; clear hxx; go_simp; try with_reducible rfl)
                    change wpAnyH _ _ _ _ _ _ _ (Act.put _ (some 14) _) _
                    simp only [Act.put, List.setIfInBounds_toArray]
                    try simp only [List.set_cons_zero, List.set_cons_succ]
                    refine wpAnyH_done (by kernel_rfl) ?_ _
                    refine NoPanic.normal ?_
                    obtain ⟨hx, hxl⟩ := hTe11.out.news (tb, 31, [.slice xa xn xc, .slice ya yn yc, .bool tt.bad]) (upd_mem (List.mem_cons_self ..))
                    have HXX := Lib.hid hx
                    have HXL := Lib.hid hxl
                    clear hx hxl
                    go_wp2_with fail
                    go_meet
                    case rel => exact ⟨tb, xa, ya, xn, xc, yn, yc, rfl, hTe11.out.below, HXX.out, HXL.out, hAW.out⟩
                case rest =>
                  obtain ⟨tb, za, zb, zn, zc, yn, yc, rfl, HB2, HTB, HTL, HAT⟩ := hcut
                  obtain ⟨W6, rfl⟩ : ∃ W6 : World, W6 = wc := ⟨_, rfl⟩
                  have HX6 := Lib.hid (HXK.out.call HB2.out)
                  have HA6 : Hid (Away (XF g8 (gx + 2) (.slice (some ⟨eb', eo', none⟩) sn' sc') (.slice ma i mc) (.slice na i nc) (.slice xa k xc)) W6 (fun y => MovesAt y (.slice (some ⟨mb, mo', none⟩) mn vc) ms)) := HAK.out.step (G := fun _ => False) (since_of _ HB2.out) (fun _ h => h.elim) (fun _ h => .inl h)
                  have HT6 : Hid (Away (XF g8 (gx + 2) (.slice (some ⟨eb', eo', none⟩) sn' sc') (.slice ma i mc) (.slice na i nc) (.slice xa k xc)) W6 (fun y => StateR y tt [.slice za zn zc, .slice zb yn yc, .bool tt.bad])) := HAT.out.step (F' := XF g8 (gx + 2) (.slice (some ⟨eb', eo', none⟩) sn' sc') (.slice ma i mc) (.slice na i nc) (.slice xa k xc)) (G := fun _ => False) (Since.refl _ _) (fun _ h => h.elim) (fun k h => .inl (.inl (HXK.out.blocks k h)))
                  have hatc : ∀ y, Below W6.heap.size W6 y → Calls Try.prog 37 #[.slice (some ⟨eb', eo', none⟩) sn' sc', .agg #[.slice za zn zc, .slice zb yn yc, .bool tt.bad]] y fun e w' => e = .returned (.int .i64 (atS sl' tt)) ∧ Below y.heap.size y w' := fun y hy => by
                    obtain ⟨tv, mv, he, hs6⟩ := HT6.out.now
                    simp only [List.cons.injEq, and_true] at he
                    obtain ⟨rfl, rfl⟩ := he
                    exact at_any y sl' _ (SliceR.below StateR.stays HX6.out.st.slice hy) tt _ _ (hs6.below hy)
                  obtain ⟨nn, hnn⟩ : ∃ nn, nn = atS sl' tt := ⟨_, rfl⟩
                  rw [← hnn] at hatc
                  have HATC := Lib.hid hatc
                  have HNN := Lib.hid hnn
                  clear hatc hnn HAT HAK HXK HDO1 C12
                  have b0 := cell_of_block HX6.out.box 0
                  have t0 := cell_of_block HTB.out 0
                  have t1 := cell_of_block HTB.out 1
                  have t2 := cell_of_block HTB.out 2
                  go_upto_region 14 with (go_at_call 37; go_must (refine (HATC.out W6 (Below.refl _ _)).mono ?_); rintro e W7 ⟨rfl, hb7⟩; have HB7 := Lib.hid hb7; clear hb7)
                  have HX7 := Lib.hid (HX6.out.call HB7.out)
                  have HA7 := Lib.hid (HA6.out.step (F' := XF g8 (gx + 2) (.slice (some ⟨eb', eo', none⟩) sn' sc') (.slice ma i mc) (.slice na i nc) (.slice xa k xc)) (G := fun _ => False) (since_of _ HB7.out) (fun _ h => h.elim) (fun _ h => .inl h))
                  have HT7 := Lib.hid (HT6.out.step (F' := XF g8 (gx + 2) (.slice (some ⟨eb', eo', none⟩) sn' sc') (.slice ma i mc) (.slice na i nc) (.slice xa k xc)) (G := fun _ => False) (since_of _ HB7.out) (fun _ h => h.elim) (fun _ h => .inl h))
                  have HTB7 := Lib.hid ((HB7.out.block _ (lt_of_block HTB.out)).trans HTB.out)
                  clear b0 t0 t1 t2 HX6 HA6 HT6 HTB HATC
                  go_upto_if 74 with fail
                  go_cut [15] (fun s15 w' => ∃ (pn ps pc : Nat) (pa : Option Addr) (pl : List StateD) (pcc : List (List Value)), s15 = .int .i64 pn ∧ Hid (XAt W w' g8 (gx + 2) (.slice pa ps pc) (.slice ma i mc) (.slice na i nc) (.slice xa k xc) pl ml nl xl pcc mcc ncc) ∧ Hid (pl.length = ps) ∧ Hid ((pl, pn) = putAt sl' tt) ∧ Hid (Away (XF g8 (gx + 2) (.slice pa ps pc) (.slice ma i mc) (.slice na i nc) (.slice xa k xc)) w' (fun y => MovesAt y (.slice (some ⟨mb, mo', none⟩) mn vc) ms)))
                  case first =>
                    by_cases hneg : nn < 0
                    · have hput : putAt sl' tt = (sl' ++ [tt], sn') := by rw [putAt_eq, ← HNN.out, if_pos hneg, HSL'.out]
                      have hrow := HX7.out.st.row
                      rw [HSL'.out] at hrow
                      have HROW := Lib.hid hrow
                      have HPUT := Lib.hid hput
                      clear hrow hput
                      have b0 := cell_of_block HX7.out.box 0
                      have t0 := cell_of_block HTB7.out 0
                      have t1 := cell_of_block HTB7.out 1
                      have t2 := cell_of_block HTB7.out 2
                      go_wp2_with (at_builtin; go_must (refine wpList_append_at_ _ rfl _ _ 25 rfl 31 (.agg #[.slice none 0 0, .slice none 0 0, .bool false]) 3 56 Try.underlying25 state_info rfl (by decide) W.heap.size (.slice (some ⟨eb', eo', none⟩) sn' sc') sn' (scc'.flatten) rfl ((HROW.out).alloc _) ⟨W7.heap.size, 0, none⟩ 1 1 [.slice za zn zc, .slice zb yn yc, .bool tt.bad] rfl rfl (row_new _ [.slice za zn zc, .slice zb yn yc, .bool tt.bad] _) (by simp [Value.oneCell']) (by unfold maxLen; omega) (by omega) (by have := HX7.out.below.size; simp; omega) ?_); intro ja jc X f1 f2 f3 f4 f5 f6; have hbx := box_kept HROW.out HX7.out.box (by decide) f4; have k0 := cell_of_block hbx 0; have z0 := free_of_block hbx 0; have HP := Lib.hid (HX7.out.pushS HT7.out rfl (by rw [HSL'.out]; exact f1) f4 f5); have HA8 := Lib.hid (HA7.out.step (HX7.out.since_s f4 (.slice ja (sn' + 1) jc)) (fun k hk => .inl hk) (HX7.out.xf_s f5)); clear f1 f2 f3 f4 f5 f6 hbx)
                      go_meet
                      case rel => exact ⟨sn', sn' + 1, jc, ja, sl' ++ [tt], _, rfl, HP.out, by rw [Hid, List.length_append, HSL'.out]; rfl, HPUT.out.symm, HA8.out⟩
                    · obtain ⟨q, rfl⟩ : ∃ q : Nat, nn = q := ⟨nn.toNat, by omega⟩
                      have hput : putAt sl' tt = (sl', q) := by rw [putAt_eq, ← HNN.out, if_neg hneg]; rfl
                      have HPUT := Lib.hid hput
                      clear hput
                      have hqn : ((q : Int) < 0) = False := by simp
                      go_wp2_with fail
                      go_meet
                      case rel => exact ⟨q, sn', sc', _, sl', _, rfl, HX7.out, HSL'.out, HPUT.out.symm, HA7.out⟩
                  case rest =>
                    obtain ⟨pn, ps, pc, pa, pl, pcc, rfl, HX8, HPL, HPUT, HA8⟩ := hcut
                    obtain ⟨W8, rfl⟩ : ∃ W8 : World, W8 = wc := ⟨_, rfl⟩
                    clear HX7 HA7 HT7 HTB7 HB7 HB2 HNN
                    by_cases hfull : (rm : Int) ≤ (pn : Int)
                    · have hr : R = (⟨[], [], []⟩, 40) := by
                        rw [HRI.out, show rm + 1 - i = (rm - i) + 1 by omega, outer_step (by rw [HSL.out]; exact hlt), ← HSI.out, ← HMS.out, HIN2.out, ← HPUT.out, if_pos hfull]; rfl
                      have HR := Lib.hid hr
                      have HB8 := Lib.hid HX8.out.below
                      clear hr
                      obtain ⟨⟨q0, q1, q2⟩, ⟨f0, f1, f2⟩, hend⟩ := HRES.out W8 HB8.out
                      obtain ⟨hset, hsn, hbe⟩ := hend (.slice none 0 0) (.slice none 0 0) (.slice none 0 0)
                      have HSET := Lib.hid hset
                      have HBE := Lib.hid hbe
                      have HSN := Lib.hid hsn
                      clear hset hbe hend hsn
                      go_wp2_with fail
                      (try simp only [Exit.inBlock, Exit.then])
                      refine bodyPost_ret (results_cell1 rfl _ _ (gx + 2) 42 _ (0, 0) _ rfl HSET.out Try.underlying42 rfl space_size) rfl ?_
                      exact expEnd_empty HR.out HBE.out
                    · have HIN3 : Hid (innerX C M d rm s ms sl [] = innerX C M d rm s (ms.drop (k + 1)) pl (xl ++ [(pn : Int)])) := by rw [Hid, HIN2.out, ← HPUT.out, if_neg hfull]
                      have hps : ps ≤ rm ∧ i < ps := by
                        have h1 := putAt_len sl' tt
                        rw [← HPUT.out, HSL'.out] at h1
                        simp only [] at h1
                        rw [HPL.out] at h1
                        omega
                      obtain ⟨hps1, hps2⟩ := hps
                      have hpc := putAt_cases sl' tt
                      rw [← HPUT.out] at hpc
                      simp only [] at hpc
                      have hbp : ∀ j, j < ps → bufsLe 33 (pl.getD j default) := fun j hj => by
                        rcases hpc with e | e
                        · rw [e]; exact HBK.out j (by rw [← HSL'.out, ← e, HPL.out]; exact hj)
                        · rw [e]
                          by_cases e2 : j = sl'.length
                          · subst e2; rw [getD_snoc_eq]; exact HBT.out
                          · have hj2 : j < sl'.length := by rw [← HPL.out, e, List.length_append] at hj; simp only [List.length_cons, List.length_nil] at hj; omega
                            rw [getD_snoc_lt hj2]; exact HBK.out j (by rw [← HSL'.out]; exact hj2)
                      have hsp : pl.getD i default = s := by
                        rcases hpc with e | e
                        · rw [e]; exact HSK.out
                        · rw [e, getD_snoc_lt (by rw [HSL'.out]; exact hin)]; exact HSK.out
                      have HBP := Lib.hid hbp
                      have HSP := Lib.hid hsp
                      have hrow := HX8.out.xr
                      rw [HXL.out] at hrow
                      have HROW := Lib.hid hrow
                      clear hpc hbp hsp hrow
                      go_wp2_with (at_builtin; go_must (refine wpList_append_at_ _ rfl _ _ 29 rfl 3 (.int .i64 0) 1 8 Try.underlying29 int_info rfl (by decide) W.heap.size (.slice xa k xc) k (flatC intC xl) rfl ((HROW.out).alloc _) ⟨W8.heap.size, 0, none⟩ 1 1 [.int .i64 pn] rfl rfl (row_new _ [.int .i64 pn] _) (by simp [Value.oneCell']) (by unfold maxLen; omega) (by omega) (by have := HX8.out.below.size; simp; omega) ?_); intro ja jc X f1 f2 f3 f4 f5 f6; have HP := Lib.hid (HX8.out.pushX (by rw [HXL.out]; exact f1) f4 f5); have HA9 := Lib.hid (HA8.out.step (HX8.out.since_x f4) (fun k hk => .inl hk) (HX8.out.xf_x f5)); clear f1 f2 f3 f4 f5 f6)
                      go_roundg (mn - (k + 1))
                      case measure => rw [HG2.out]; omega
                      case rel => exact ⟨k + 1, pa, ja, ps, pc, jc, pl, xl ++ [(pn : Int)], pcc, by omega, rfl, rfl, by simp, hps2, hps1, HP.out, HPL.out, by rw [Hid, List.length_append, HXL.out]; rfl, HIN3.out, HA9.out, HBP.out, HSP.out⟩
              · obtain rfl : mn = k := by omega
                have hin2 : innerX C M d rm s ms sl [] = some (sl', xl) := by rw [HIN.out, HMNN.out, List.drop_length]; rfl
                have hst2 : R = resX (outerX C M d rm (rm + 1 - (i + 1)) (i + 1) sl' (ml ++ [ms]) (nl ++ [xl])) := by
                  rw [HRI.out, show rm + 1 - i = (rm + 1 - (i + 1)) + 1 by omega, outer_step (by rw [HSL.out]; exact hlt), ← HSI.out, ← HMS.out, hin2]
                have HST2 := Lib.hid hst2
                have hrow := HXK.out.mo.row
                rw [HML.out] at hrow
                have HROW := Lib.hid hrow
                have hmv : Away (XF g8 (gx + 2) (.slice sa' sn' sc') (.slice ma i mc) (.slice na i nc) (.slice xa mn xc)) wo2 (fun y => MovesR y ms [.slice va mn vc]) := fun y hy => ⟨_, rfl, HAK.out y hy⟩
                have HMVA := Lib.hid hmv
                clear hin2 hst2 hrow hmv
                have b1 := cell_of_block HXK.out.box 1
                go_upto_region 21 with (at_builtin; go_must (refine wpList_append_at_ _ rfl _ _ 39 rfl 53 (.slice none 0 0) 1 24 Try.underlying39 movesl_info rfl (by decide) W.heap.size (.slice ma i mc) i (mcc.flatten) rfl ((HROW.out).alloc _) ⟨wo2.heap.size, 0, none⟩ 1 1 [.slice va mn vc] rfl rfl (row_new _ [.slice va mn vc] _) (by simp [Value.oneCell']) (by unfold maxLen; omega) (by omega) (by have := HXK.out.below.size; simp; omega) ?_); intro ja jc X f1 f2 f3 f4 f5 f6; have hbx := box_kept HROW.out HXK.out.box (by decide) f4; have k0 := cell_of_block hbx 1; have z0 := free_of_block hbx 1; have HP := Lib.hid (HXK.out.pushM HMVA.out rfl (by rw [HML.out]; exact f1) f4 f5); clear f1 f2 f3 f4 f5 f6 hbx)
                clear b1 k0 z0
                generalize World.setCell X _ _ = W9 at HP ⊢
                have hrow := HP.out.ne.row
                rw [HNL.out] at hrow
                have HROW2 := Lib.hid hrow
                clear hrow
                have b2 := cell_of_block HP.out.box 2
                go_wp2_with (at_builtin; go_must (refine wpList_append_at_ _ rfl _ _ 40 rfl 29 (.slice none 0 0) 1 24 Try.underlying40 intsl_info rfl (by decide) W.heap.size (.slice na i nc) i (ncc.flatten) rfl ((HROW2.out).alloc _) ⟨W9.heap.size, 0, none⟩ 1 1 [.slice xa mn xc] rfl rfl (row_new _ [.slice xa mn xc] _) (by simp [Value.oneCell']) (by unfold maxLen; omega) (by omega) (by have := HP.out.below.size; simp; omega) ?_); intro jb kc X2 f1 f2 f3 f4 f5 f6; have hbx := box_kept HROW2.out HP.out.box (by decide) f4; have k0 := cell_of_block hbx 2; have z0 := free_of_block hbx 2; have HP2 := Lib.hid (HP.out.pushN (by rw [HNL.out]; exact f1) f4 f5); clear f1 f2 f3 f4 f5 f6 hbx)
                go_roundg (rm + 1 - (i + 1))
                case measure => rw [HG.out]; omega
                case rel => exact ⟨i + 1, sa', ja, jb, sn', sc', jc, kc, sl', ml ++ [ms], nl ++ [xl], scc', _, _, by omega, hsn', rfl, by simp, HP2.out, HSL'.out, by rw [Hid, List.length_append, HML.out]; rfl, by rw [Hid, List.length_append, HNL.out]; rfl, HST2.out, HBK.out⟩
          · obtain rfl : i = sn := by omega
            have hr : R = (⟨sl, ml, nl⟩, 0) := by rw [HRI.out, show rm + 1 - i = (rm - i) + 1 by omega, outer_end (by rw [HSL.out]; omega)]; rfl
            have HR := Lib.hid hr
            have b1 := cell_of_block HXI.out.box 1
            have b2 := cell_of_block HXI.out.box 2
            have HBI2 := Lib.hid HXI.out.below
            clear hr
            obtain ⟨⟨q0, q1, q2⟩, ⟨f0, f1, f2⟩, hend⟩ := HRES.out wo HBI2.out
            obtain ⟨hset, hsn, hbe⟩ := hend (.slice sa i sc) (.slice ma i mc) (.slice na i nc)
            have HSET := Lib.hid hset
            have HBE := Lib.hid hbe
            have HSN := Lib.hid hsn
            clear hset hbe hend hsn
            go_wp2_with fail
            (try simp only [Exit.inBlock, Exit.then])
            refine bodyPost_ret (results_cell1 rfl _ _ (gx + 2) 42 _ (0, 0) _ rfl HSET.out Try.underlying42 rfl space_size) rfl ?_
            have hfin := HXI.out.fin HSN.out
            refine ⟨⟨_, _, _, by rw [HR.out]; rfl, ?_⟩, HBE.out⟩
            rw [HR.out]
            refine ⟨hfin.now, hfin.mono (fun k hk => Nat.le_of_lt (by have := HGX.out; omega)), fun a n c e => ?_⟩
            obtain ⟨a', c', he, hc, -⟩ := row_slice HXI.out.st.row
            cases e; cases he; exact hc
end Go.Proofs.Ytnlkbboghcdpnaa
