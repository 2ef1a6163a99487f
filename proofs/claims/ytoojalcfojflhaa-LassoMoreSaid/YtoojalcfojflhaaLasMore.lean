/- With an edge and a node of Initial more there is a lasso where there was one, with a mark more there is none where there was none: the walk. -/
import Derived.Test.YtoojalcfojflhaaMoreP
import Derived.Test.YtoojalcfojflhaaTail
import Derived.Deep.CutBlock
namespace Go.Proofs.Ytoojalcfojflhaa
open Go.RowKit

def initV (l : List Int) : List Value := l.map (Value.int .i64)
theorem initV_len (l : List Int) : (initV l).length = l.length := by simp [initV]
/-- The edges of a node, as cells. -/
theorem edges_cells {w : World} {b o c : Nat} {l : List EdgeD} (h : EdgeLAt w (.slice (some ⟨b, o, none⟩) l.length c) l) : ∀ j u, (edgesV l)[j]? = some u → w.cell? ((⟨b, o, none⟩ : Addr).add j) = some u := by
  intro j u hu
  have hj : j < l.length * 2 := by
    rcases Nat.lt_or_ge j (l.length * 2) with e | e
    · exact e
    · rw [List.getElem?_eq_none (by rw [edgesV_len]; exact e)] at hu; cases hu
  obtain ⟨q, r, hr, rfl⟩ : ∃ q r, r < 2 ∧ j = q * 2 + r := ⟨j / 2, j % 2, Nat.mod_lt _ (by omega), by omega⟩
  rw [edgesV_at (by omega) hr] at hu
  obtain ⟨a', c', he, -, hc⟩ := h
  cases he
  obtain ⟨b', o', he, -, hx⟩ := hc q (by omega)
  cases he
  have h1 := hx r hr
  rw [hu] at h1
  have h2 : (⟨b, o, none⟩ : Addr).add (q * 2 + r) = ⟨b, o + q * 2 + r, none⟩ := by
    simp only [Addr.add]
    split
    · rename_i h; rw [show o + q * 2 + r = o by omega]
    · rw [Nat.add_assoc]
  rw [h2]; exact h1
theorem rows_apart {w : World} {B1 B2 : Nat} {e1 e2 : TypeId} {s1 s2 : Nat} {v1 v2 : Value} {n1 n2 : Nat} {x1 x2 : List Value} (h1 : w.ownsRow B1 e1 s1 v1 n1 x1) (h2 : w.ownsRow B2 e2 s2 v2 n2 x2) (he : e1 ≠ e2) (k : Nat) (hk : v1.ownBlock = some k) (hk2 : v2.ownBlock = some k) : False := by
  rcases h2.2 with ⟨rfl, _⟩ | ⟨g, cap, cur, rfl, _, hg, _⟩
  · simp [Value.ownBlock] at hk2
  · simp only [Value.ownBlock, Option.some.injEq] at hk2
    subst hk2
    exact row_type h1 hk hg he
/-- The edges told so far, in memory. -/
structure EdgesTo (V wr : World) (hb i : Nat) (ha : Option Addr) (hc : Nat) (iv : Value) (k : Nat) (xs : List Value) (gm : Int) (cs : List Value) (f : Nat → List EdgeD) : Prop where
  block : wr.heap[hb]? = some (.cells #[.slice ha i hc, iv, .int .i64 gm] 25 (0, 0))
  row : wr.ownsRow V.heap.size 29 1 (.slice ha i hc) i cs
  parts : ∀ j, j < i → ∃ v, cs[j]? = some v ∧ wr.ownsRow V.heap.size 37 2 v (f j).length (edgesV (f j))
  init : wr.ownsRow V.heap.size 3 1 iv k xs
  below : Below V.heap.size V wr
  hbV : V.heap.size ≤ hb
section
variable {V wr X X5 : World} {hb i : Nat} {ha ha' : Option Addr} {hc hc' : Nat} {iv : Value} {k : Nat} {xs : List Value} {gm : Int} {cs : List Value} {f : Nat → List EdgeD} {v : Value}
theorem EdgesTo.edges (h : EdgesTo V wr hb i ha hc iv k xs gm cs f) : EdgesAt wr (.slice ha i hc) ((List.range i).map f) := by
  obtain ⟨a, c, he, h1, h2⟩ := row_slice h.row
  cases he
  unfold maxLen at h2
  refine ⟨ha, hc, by simp, by simp; omega, fun j hj => ?_⟩
  have hj' : j < i := by simpa using hj
  obtain ⟨v, hv, hr⟩ := h.parts j hj'
  obtain ⟨g, c', he, -, -⟩ := row_some h.row (by omega)
  cases he
  refine ⟨g, 0, v, rfl, (h.row.lt g rfl).2, by rw [Nat.zero_add, h.row.cellAt j (by omega)]; exact hv, ?_⟩
  rw [show ((List.range i).map f).getD j [] = f j by simp [List.getD_eq_getElem?_getD, hj']]
  exact edges_of_row hr
theorem EdgesTo.push (h : EdgesTo V wr hb i ha hc iv k xs gm cs f) (hX : Below wr.heap.size wr X) (hv : X.ownsRow V.heap.size 37 2 v (f i).length (edgesV (f i))) (o : Obj)
    (ho : X5.ownsRow V.heap.size 29 1 (.slice ha' (i + 1) hc') (i + 1) (cs ++ [v])) (h4 : Since (fun k => (Value.slice ha i hc).ownBlock = some k) (X.alloc o) X5) :
    EdgesTo V (X5.setCell ⟨hb, 0, none⟩ (.slice ha' (i + 1) hc')) hb (i + 1) ha' hc' iv k xs gm (cs ++ [v]) f ∧ X5.cell? ⟨hb, 0, none⟩ = some (.slice ha i hc) ∧ X5.frozen? ⟨hb, 0, none⟩ = false := by
  have h5 : Since (fun k => (Value.slice ha i hc).ownBlock = some k) X X5 := ((Since.refl _ X).alloc o).trans h4 (fun k hk => .inl hk)
  have hs : Since (fun k => (Value.slice ha i hc).ownBlock = some k) wr X5 := (since_of _ hX).trans h5 (fun k hk => .inl hk)
  have hbF : ¬ (Value.slice ha i hc).ownBlock = some hb := fun e => row_type h.row e h.block (by decide)
  have hbX := (hs.block hb (lt_of_block h.block) hbF).trans h.block
  have hS : Since (fun y => y = hb) X5 (X5.setCell ⟨hb, 0, none⟩ (.slice ha' (i + 1) hc')) := Since.setCell (F := fun y => y = hb) (p := ⟨hb, 0, none⟩) (Since.refl _ X5) (.inl rfl) _
  have hne : ∀ {v : Value} {e : TypeId} {size n : Nat} {xs : List Value}, X5.ownsRow V.heap.size e size v n xs → e ≠ 25 → ∀ k, v.ownBlock = some k → ¬ k = hb := fun hr he k hk e => by
    subst e; exact row_type hr hk hbX he
  have hl : cs.length = i := by have := h.row.1; simpa using this
  have hin := hs.row h.init (fun k hk e => rows_apart h.init h.row (by decide) k hk e)
  have hvX := h5.row hv (fun k hk e => rows_apart hv (row_below h.row hX) (by decide) k hk e)
  refine ⟨⟨by rw [set_of_block hbX]; simp, hS.row ho (hne ho (by decide)), fun j hj => ?_, hS.row hin (hne hin (by decide)), (h.below.trans (hs.below h.below.size (fun k hk => (h.row.lt k hk).1))).trans (hS.below (Nat.le_trans h.below.size hs.size) (fun k hk => by have := h.hbV; omega)), h.hbV⟩, cell_of_block hbX 0, free_of_block hbX 0⟩
  rcases Nat.lt_or_ge j i with e | e
  · obtain ⟨u, hu, hr⟩ := h.parts j e
    have hrX := hs.row hr (fun k hk e' => rows_apart hr h.row (by decide) k hk e')
    exact ⟨u, by rw [List.getElem?_append_left (by omega)]; exact hu, hS.row hrX (hne hrX (by decide))⟩
  · obtain rfl : j = i := by omega
    exact ⟨v, by rw [List.getElem?_append_right (by omega), hl]; simp, hS.row hvX (hne hvX (by decide))⟩
end
theorem toV_in {x : Int} (h : (Lit.int .u8 x).wf = true) : 0 ≤ x ∧ x ≤ 255 := by
  simp [Lit.wf, IntKind.min, IntKind.max, IntKind.signed, IntKind.bits] at h
  omega
theorem wrap_u8 {x : Nat} (h : x ≤ 255) : IntKind.i64.wrap (x : Int) = (x : Int) := IntWalk.i64_in _ (by omega)
set_option maxRecDepth 100000 in
set_option maxHeartbeats 4000000 in
theorem lassoMoreL_any (w : World) (sv : Value) (l : List Int) (hl : NumsAt w .u16 sv l) (many : Int) (w1 : (Lit.int .u8 many).wf = true) (marks : Int) (w2 : (Lit.int .u8 marks).wf = true) (init : Int) (w3 : (Lit.int .u8 init).wf = true) (from_ : Int) (w4 : (Lit.int .u8 from_).wf = true) (to_ : Int) (w5 : (Lit.int .u8 to_).wf = true) :
    Calls Try.prog 6 #[sv, .int .u8 many, .int .u8 marks, .int .u8 init, .int .u8 from_, .int .u8 to_] w fun e w' => e = .returned (.bool true) ∧ Below w.heap.size w w' := by
  have HM : Hid (∀ x, Below w.heap.size w x → Calls Try.prog 12 #[sv, .int .u8 many, .int .u8 marks, .int .u8 init] x fun e w' => ∃ g ev iv, e = .returned (graphV g ev iv) ∧ GraphAt w' g ev iv ∧ MadeG g ∧ Below x.heap.size x w') := fun x hx => madeL_any x sv l (hl.below hx) many marks init w1 w2 w3
  obtain ⟨sa, sc, rfl, hsl⟩ := hl.slice
  have h4 := toV_in w4
  have h5 := toV_in w5
  obtain ⟨fr, rfl⟩ : ∃ x : Nat, from_ = (x : Int) := ⟨from_.toNat, by omega⟩
  obtain ⟨tx, rfl⟩ : ∃ x : Nat, to_ = (x : Int) := ⟨to_.toNat, by omega⟩
  have hfr : fr ≤ 255 := by omega
  have htx : tx ≤ 255 := by omega
  have HWK : Hid (IntKind.i64.wrap (tx : Int) = (tx : Int)) := wrap_u8 htx
  have HWF : Hid (IntKind.i64.wrap (fr : Int) = (fr : Int)) := wrap_u8 hfr
  clear hl w1 w2 w3 w4 w5 h4 h5
  go_enter Try.func6, Try.ntmps6
  go_wp2_with fail
  refine (awakeL_any w).mono ?_
  rintro e w2 ⟨rfl, hb⟩
  have HB := Lib.hid hb
  clear hb
  go_wp2_with fail
  refine (HM.out w2 HB.out).mono ?_
  rintro e w3 ⟨g, ev, iv, rfl, hg, hm, hb3⟩
  have HB3 := Lib.hid (below_then HB.out hb3)
  clear hb3 HB HM
  obtain ⟨ea, ec, rfl, hel⟩ := hg.edges.slice
  obtain ⟨ia, ic, rfl, hil⟩ := hg.initial.slice
  obtain ⟨n, hn⟩ : ∃ n, n = g.edges.length := ⟨_, rfl⟩
  obtain ⟨k, hk⟩ : ∃ i, i = g.initial.length := ⟨_, rfl⟩
  obtain ⟨gm, hgm⟩ : ∃ m, m = g.marks := ⟨_, rfl⟩
  have hn7 : 1 ≤ n ∧ n ≤ 7 := by have h1 := hm.pos; have h2 := hm.few; omega
  have hgm3 : 0 ≤ gm ∧ gm ≤ 3 := by have := hm.marks; omega
  have hk7 : k ≤ 7 := by have := hm.inits; omega
  have hgv : graphV g (.slice ea g.edges.length ec) (.slice ia g.initial.length ic) = .agg #[.slice ea n ec, .slice ia k ic, .int .i64 gm] := by unfold graphV; rw [hn, hk, hgm]
  have hgv2 : graphV (markG g) (.slice ea g.edges.length ec) (.slice ia g.initial.length ic) = .agg #[.slice ea n ec, .slice ia k ic, .int .i64 (gm + 1)] := by unfold graphV markG; rw [hn, hk, hgm]
  have hA := (Below.refl w3.heap.size w3).alloc (Nat.le_refl _) (.cells #[.slice ea n ec, .slice ia k ic, .int .i64 gm] 25)
  have HA := Lib.hid hA
  have HGB := Lib.hid (heap_alloc_new w3 (.cells #[.slice ea n ec, .slice ia k ic, .int .i64 gm] 25))
  have hG := hg.below hA
  have hf1 := fun x hx => (find_any x g _ _ (hG.below hx) hm.fits (.inl hm.pos)).mono fun e w' h => FindTold.of hm.right h
  have hf3 := fun x hx => (find_any x (markG g) _ _ (⟨hg.edges.below hx, hg.initial.below hx⟩ : GraphAt x (markG g) _ _) hm.fits (.inl hm.pos)).mono fun e w' h => FindTold.of (markG_right hm) h
  rw [hgv] at hf1
  rw [hgv2] at hf3
  have HF1 := Lib.hid hf1
  have HF3 := Lib.hid hf3
  have hE := hG.edges
  have hI := hG.initial
  rw [← hn] at hE
  rw [← hk] at hI
  have HE := Lib.hid hE
  have HI := Lib.hid hI
  have HM := Lib.hid hm
  have HN := Lib.hid hn
  have HK := Lib.hid hk
  have HGM := Lib.hid hgm
  rw [hgv]
  clear hgv hgv2 hA hG hf1 hf3 hE hI hm hn hk hgm hg hel hil
  go_upto_region 5 with fail
  generalize World.alloc w3 _ = W at HA HGB HE HI HF1 HF3 ⊢
  obtain ⟨gx, hgx⟩ : ∃ gx, gx = w3.heap.size := ⟨_, rfl⟩
  rw [← hgx] at HGB ⊢
  have HGX := Lib.hid hgx
  have hgw : gx < W.heap.size := lt_of_block HGB.out
  clear hgx
  have HC : Hid (∀ x, Below W.heap.size W x → x.cell? ⟨gx, 0, none⟩ = some (.slice ea n ec) ∧ x.cell? ⟨gx, 1, none⟩ = some (.slice ia k ic) ∧ x.cell? ⟨gx, 2, none⟩ = some (.int .i64 gm)) := fun x hx => ⟨cells_kept hx _ _ (cell_of_block HGB.out 0), cells_kept hx _ _ (cell_of_block HGB.out 1), cells_kept hx _ _ (cell_of_block HGB.out 2)⟩
  obtain ⟨c0, c1, c2⟩ := HC.out W (Below.refl _ _)
  go_wp2_with fail
  refine (HF1.out W (Below.refl _ _)).mono ?_
  rintro e X ⟨na, fa, nl, nc, fl, fc, bk, is_, rfl, his, hb⟩
  have HIS := Lib.hid his
  have HY := Lib.hid (below_then hb ((Below.refl X.heap.size X).alloc (Nat.le_refl _) (.cells #[.slice na nl nc, .slice fa fl fc, .int .i64 bk] 27)))
  clear c0 c1 c2 his hb HF1
  go_upto_region 6 with fail
  generalize World.alloc X _ = V0 at HY ⊢
  obtain ⟨c0, -, -⟩ := HC.out V0 HY.out
  go_upto_region 7 with fail
  clear c0
  obtain ⟨tt, htt⟩ : ∃ tt, tt = tx % n := ⟨_, rfl⟩
  have htn : tt < n := by rw [htt]; exact Nat.mod_lt _ (by omega)
  have m1 : (tx : Int).tmod (n : Int) = (tt : Int) := by rw [Int.tmod_eq_emod_of_nonneg (by omega), htt]; simp
  have m2 : (tx : Int) % (n : Int) = (tt : Int) := by rw [htt]; simp
  have hwk := HWK.out
  clear htt
  go_cut [19] (fun s19 w' => ∃ (hb : Nat) (ja : Option Addr) (jc : Nat), s19 = .pointer (some ⟨hb, 0, none⟩) ∧ Hid (w'.heap[hb]? = some (.cells #[.slice none 0 0, .slice ja (k + 1) jc, .int .i64 gm] 25 (0, 0))) ∧ Hid (w'.ownsRow V0.heap.size 3 1 (.slice ja (k + 1) jc) (k + 1) (initV (g.initial ++ [(tt : Int)]))) ∧ Hid (V0.heap.size ≤ hb) ∧ Hid (Below V0.heap.size V0 w'))
  case first =>
    have hnz : ¬ n = 0 := by omega
    have hcc : ∀ x, Below V0.heap.size V0 x → x.cell? ⟨gx, 0, none⟩ = some (.slice ea n ec) ∧ x.cell? ⟨gx, 1, none⟩ = some (.slice ia k ic) ∧ x.cell? ⟨gx, 2, none⟩ = some (.int .i64 gm) ∧ True ∧ True ∧ True := fun x hx => by
      obtain ⟨e0, e1, e2⟩ := HC.out x (below_then HY.out hx)
      exact ⟨e0, e1, e2, trivial, trivial, trivial⟩
    have CC := Lib.hid hcc
    clear hcc
    have HIV : Hid (initV (g.initial ++ [(tt : Int)]) = initV g.initial ++ [.int .i64 (tt : Int)]) := by simp [Hid, initV]
    obtain ⟨V1, hV1⟩ : ∃ V1, V1 = V0.drew := ⟨_, rfl⟩
    have h0 := AppG.start V0
    rw [← hV1] at h0
    have hT0 := Lib.hid h0
    clear h0
    by_cases hk0 : k = 0
    · as_aux_lemma =>
        have HIE : Hid (initV g.initial = []) := by
          have h1 : g.initial.length = 0 := by rw [← HK.out]; exact hk0
          rw [Hid, List.eq_nil_of_length_eq_zero h1]; rfl
        subst hk0
        have hint := int_info
        obtain ⟨i1, hi1, -, -, -⟩ := info_parts hint
        clear hint
        refine wp_region_noPanic ?_
        refine wp_region_tail (n0 := 13) (S := fun x => Below V0.heap.size V0 x) (by kernel_rfl) (by rw [← hV1]; exact hT0.out.below) (fun _ => ?_)
        rw [← hV1]
        clear hV1
        refine wpAnyT_free (i := 0) (v := ?v1) rfl (by kernel_rfl) (by kernel_rfl) (by kernel_rfl) (by decide) (fun _ _ _ h => h) (Or.inl ⟨by rfl, ?hy1⟩) (fun _ => hT0.out.below) ?_
        case hy1 => (intro x' _; go_simp; try with_reducible rfl)
        change wpAnyT _ _ _ _ _ _ _ _ (Act.put _ (some 45) _) _
        simp only [Act.put, List.setIfInBounds_toArray, List.set_cons_zero, List.set_cons_succ]
        refine wpAnyT_take [11, 13] (i := 1) (v := ?v2) rfl (by kernel_rfl) (by kernel_rfl) (by kernel_rfl) (by decide) (by kernel_rfl) (by kernel_rfl) (by rfl) (by rfl) (fun _ _ _ h => h) (Or.inl ⟨by rfl, ?hy2⟩) (hT0.out.below) ?_
        case hy2 => (intro x' hxx; obtain ⟨e0, e1, e2, e3, e4, e5⟩ := CC.out x' hxx; go_simp; try with_reducible rfl)
        change wpAnyT _ _ _ _ _ _ _ _ (Act.put _ (some 46) _) _
        simp only [Act.put, List.setIfInBounds_toArray, List.set_cons_zero, List.set_cons_succ]
        refine wpAnyT_free (i := 2) (v := ?v3) rfl (by kernel_rfl) (by kernel_rfl) (by kernel_rfl) (by decide) (fun _ _ _ h => h) (Or.inl ⟨by rfl, ?hy3⟩) (fun _ => hT0.out.below) ?_
        case hy3 => (intro x' _; go_simp; try with_reducible rfl)
        change wpAnyT _ _ _ _ _ _ _ _ (Act.put _ (some 47) _) _
        simp only [Act.put, List.setIfInBounds_toArray, List.set_cons_zero, List.set_cons_succ]
        refine wpAnyT_take [4, 10, 11, 13] (i := 3) (v := ?v4) rfl (by kernel_rfl) (by kernel_rfl) (by kernel_rfl) (by decide) (by kernel_rfl) (by kernel_rfl) (by rfl) (by rfl) (fun _ _ _ h => h) (Or.inl ⟨by rfl, ?hy4⟩) (hT0.out.below) ?_
        case hy4 => (intro x' hxx; obtain ⟨e0, e1, e2, e3, e4, e5⟩ := CC.out x' hxx; go_simp; try with_reducible rfl)
        change wpAnyT _ _ _ _ _ _ _ _ (Act.put _ (some 48) _) _
        simp only [Act.put, List.setIfInBounds_toArray, List.set_cons_zero, List.set_cons_succ]
        refine wpAnyT_free (i := 5) (v := ?v5) rfl (by kernel_rfl) (by kernel_rfl) (by kernel_rfl) (by decide) (fun _ _ _ h => h) (Or.inl ⟨by rfl, ?hy5⟩) (fun _ => hT0.out.below) ?_
        case hy5 => (intro x' _; go_simp; try with_reducible rfl)
        change wpAnyT _ _ _ _ _ _ _ _ (Act.put _ (some 50) _) _
        simp only [Act.put, List.setIfInBounds_toArray, List.set_cons_zero, List.set_cons_succ]
        refine wpAnyT_free (i := 6) (v := ?v6) rfl (by kernel_rfl) (by kernel_rfl) (by kernel_rfl) (by decide) (fun _ _ _ h => h) (Or.inl ⟨by rfl, ?hy6⟩) (fun _ => hT0.out.below) ?_
        case hy6 => (intro x' _; go_simp; try with_reducible rfl)
        change wpAnyT _ _ _ _ _ _ _ _ (Act.put _ (some 51) _) _
        simp only [Act.put, List.setIfInBounds_toArray, List.set_cons_zero, List.set_cons_succ]
        refine wpAnyT_free (i := 7) (v := ?v7) rfl (by kernel_rfl) (by kernel_rfl) (by kernel_rfl) (by decide) (fun _ _ _ h => h) (Or.inl ⟨by rfl, ?hy7⟩) (fun _ => hT0.out.below) ?_
        case hy7 => (intro x' _; go_simp; try with_reducible rfl)
        change wpAnyT _ _ _ _ _ _ _ _ (Act.put _ (some 52) _) _
        simp only [Act.put, List.setIfInBounds_toArray, List.set_cons_zero, List.set_cons_succ]
        refine wpAnyT_free (i := 8) (v := ?v8) rfl (by kernel_rfl) (by kernel_rfl) (by kernel_rfl) (by decide) (fun _ _ _ h => h) (Or.inl ⟨by rfl, ?hy8⟩) (fun _ => hT0.out.below) ?_
        case hy8 => (intro x' _; go_simp; try with_reducible rfl)
        change wpAnyT _ _ _ _ _ _ _ _ (Act.put _ (some 53) _) _
        simp only [Act.put, List.setIfInBounds_toArray, List.set_cons_zero, List.set_cons_succ]
        refine wpAnyT_ready (rs := [4, 9, 12]) (by kernel_rfl) (by simp) ?_
        refine AllT.cons rfl (fun K hK => ?_) (AllT.cons rfl (fun K hK => ?_) (AllT.cons rfl (fun K hK => ?_) AllT.nil))
        · skip
          refine step_append_none V1 (by rfl) (.const (.slice none 0 0)) (.tmp 48) 23 rfl 3 i1 Try.underlying23 hi1 (by rfl) ia ic (by rfl) ?_
          have hT1 := Lib.hid hT0.out
          refine hK.out _ _ (fun _ _ => hT1.out.below) ?_
          clear hK K
          change wpAnyT _ _ _ _ _ _ _ _ (Act.put _ (some 49) _) _
          simp only [Act.put, List.setIfInBounds_toArray, List.set_cons_zero, List.set_cons_succ]
          refine wpAnyT_ready (rs := [9, 12]) (by kernel_rfl) (by simp) ?_
          refine AllT.cons rfl (fun K hK => ?_) (AllT.cons rfl (fun K hK => ?_) AllT.nil)
          · skip
            go_simp
            have hT2 := hT1.out.alloc (.int .i64 (tt : Int))
            refine hK.out _ _ (fun _ _ => hT2.below) ?_
            obtain ⟨nb, hnb⟩ : ∃ n, n = V1.heap.size := ⟨_, rfl⟩
            rw [← hnb] at hT2 ⊢
            clear hnb
            generalize World.alloc V1 _ = X3 at hT2 ⊢
            replace hT2 := Lib.hid hT2
            clear hK K
            refine wpAnyT_ready (rs := [10, 12]) (by kernel_rfl) (by simp) ?_
            refine AllT.cons rfl (fun K hK => ?_) (AllT.cons rfl (fun K hK => ?_) AllT.nil)
            · skip
              refine step_append_where_ X3 (by rfl) (.tmp 49) (.tmp 54) 23 rfl 3 (.int .i64 0) 1 8 Try.underlying23 int_info rfl (by decide) V0.heap.size (.slice none 0 0) 0 [] (by rfl) hT2.out.row ⟨nb, 0, none⟩ 1 1 [.int .i64 (tt : Int)] (by rfl) rfl (hT2.out.cell (by simp)) (by simp [Value.oneCell']) (by unfold maxLen; omega) (by omega) hT2.out.below.size ?_
              intro ja jc X4 e1 e2 e3 e4 e5
              simp only [Nat.zero_add, List.nil_append] at e1 e5 ⊢
              have hT3 := Lib.hid (hT2.out.app e1 e4 e5)
              clear e1 e2 e3 e4 e5
              refine hK.out _ _ (fun _ _ => hT3.out.below) ?_
              clear hK K
              change wpAnyT _ _ _ _ _ _ _ _ (Act.put _ (some 55) _) _
              simp only [Act.put, List.setIfInBounds_toArray, List.set_cons_zero, List.set_cons_succ]
              refine wpAnyT_free (i := 11) (v := ?v9) rfl (by kernel_rfl) (by kernel_rfl) (by kernel_rfl) (by decide) (fun _ _ _ h => h) (Or.inl ⟨by rfl, ?hy9⟩) (fun _ => hT3.out.below) ?_
              case hy9 => (intro x' _; go_simp; try with_reducible rfl)
              change wpAnyT _ _ _ _ _ _ _ _ (Act.put _ (some 56) _) _
              simp only [Act.put, List.setIfInBounds_toArray, List.set_cons_zero, List.set_cons_succ]
              refine wpAnyT_ready (rs := [12]) (by kernel_rfl) (by simp) ?_
              refine AllT.cons rfl (fun K hK => ?_) AllT.nil
              go_simp
              have hT4 := hT3.out.allocG
              refine hK.out _ _ (fun _ _ => hT4.below) ?_
              obtain ⟨hb, hhb⟩ : ∃ n, n = X4.heap.size := ⟨_, rfl⟩
              rw [← hhb] at hT4 ⊢
              clear hhb
              generalize World.alloc X4 _ = X5 at hT4 ⊢
              replace hT4 := Lib.hid hT4
              clear hK K
              refine wpAnyT_ready (rs := [13]) (by kernel_rfl) (by simp) ?_
              refine AllT.cons rfl (fun K hK => ?_) AllT.nil
              obtain ⟨hm1, hm2, hm3⟩ := hT4.out.made hb (by simp)
              have d0 : X5.cell? ⟨hb, 0, none⟩ = some (.slice none 0 0) := cell_of_block hm1 0
              have f0 : X5.frozen? ⟨hb, 0, none⟩ = false := free_of_block hm1 0
              have d1 : X5.cell? ⟨hb, 1, none⟩ = some (.slice none 0 0) := cell_of_block hm1 1
              have f1 : X5.frozen? ⟨hb, 1, none⟩ = false := free_of_block hm1 1
              have d2 : X5.cell? ⟨hb, 2, none⟩ = some (.int .i64 0) := cell_of_block hm1 2
              have f2 : X5.frozen? ⟨hb, 2, none⟩ = false := free_of_block hm1 2
              clear hm1 hm2 hm3
              go_simp
              refine hK.out _ _ (fun h => absurd rfl h) ?_
              have hT5 := Lib.hid hT4.out
              clear hK K
              refine wpAnyT_done (by kernel_rfl) ?_ _
              refine NoPanic.normal ?_
              obtain ⟨hm1, hm2, hm3⟩ := hT5.out.made hb (by simp)
              have hset := set_of_block (set_of_block (set_of_block hm1 0 (.slice none 0 0)) 1 (.slice ja (0 + 1) jc)) 2 (.int .i64 gm)
              simp only [List.setIfInBounds_toArray, List.set_cons_zero, List.set_cons_succ] at hset
              have hS3 : Since (fun y => y = hb) X5 (((X5.setCell ⟨hb, 0, none⟩ (.slice none 0 0)).setCell ⟨hb, 1, none⟩ (.slice ja (0 + 1) jc)).setCell ⟨hb, 2, none⟩ (.int .i64 gm)) := Since.setCell (p := ⟨hb, 2, none⟩) (Since.setCell (p := ⟨hb, 1, none⟩) (Since.setCell (F := fun y => y = hb) (p := ⟨hb, 0, none⟩) (Since.refl _ _) (.inl rfl) _) (.inl rfl) _) (.inl rfl) _
              have hrow := hS3.row hT5.out.row (fun y hy e => hm2 (by rw [← e]; exact hy))
              have hbel := hT5.out.below.trans (hS3.below hT5.out.below.size (fun y hy => by omega))
              go_wp2_with fail
              go_meet
              case rel => exact ⟨hb, ja, jc, by first | rfl | simp, hset, by rw [Hid, HIV.out]; rw [HIE.out]; exact hrow, hm3, hbel⟩
            · skip
              go_simp
              have hT3 := hT2.out.allocG
              refine hK.out _ _ (fun _ _ => hT3.below) ?_
              obtain ⟨hb, hhb⟩ : ∃ n, n = X3.heap.size := ⟨_, rfl⟩
              rw [← hhb] at hT3 ⊢
              clear hhb
              generalize World.alloc X3 _ = X6 at hT3 ⊢
              replace hT3 := Lib.hid hT3
              clear hK K
              refine wpAnyT_ready (rs := [10]) (by kernel_rfl) (by simp) ?_
              refine AllT.cons rfl (fun K hK => ?_) AllT.nil
              refine step_append_where_ X6 (by rfl) (.tmp 49) (.tmp 54) 23 rfl 3 (.int .i64 0) 1 8 Try.underlying23 int_info rfl (by decide) V0.heap.size (.slice none 0 0) 0 [] (by rfl) hT3.out.row ⟨nb, 0, none⟩ 1 1 [.int .i64 (tt : Int)] (by rfl) rfl (hT3.out.cell (by simp)) (by simp [Value.oneCell']) (by unfold maxLen; omega) (by omega) hT3.out.below.size ?_
              intro ja jc X7 e1 e2 e3 e4 e5
              simp only [Nat.zero_add, List.nil_append] at e1 e5 ⊢
              have hT4 := Lib.hid (hT3.out.app e1 e4 e5)
              clear e1 e2 e3 e4 e5
              refine hK.out _ _ (fun _ _ => hT4.out.below) ?_
              clear hK K
              change wpAnyT _ _ _ _ _ _ _ _ (Act.put _ (some 55) _) _
              simp only [Act.put, List.setIfInBounds_toArray, List.set_cons_zero, List.set_cons_succ]
              refine wpAnyT_free (i := 11) (v := ?v10) rfl (by kernel_rfl) (by kernel_rfl) (by kernel_rfl) (by decide) (fun _ _ _ h => h) (Or.inl ⟨by rfl, ?hy10⟩) (fun _ => hT4.out.below) ?_
              case hy10 => (intro x' _; go_simp; try with_reducible rfl)
              change wpAnyT _ _ _ _ _ _ _ _ (Act.put _ (some 56) _) _
              simp only [Act.put, List.setIfInBounds_toArray, List.set_cons_zero, List.set_cons_succ]
              refine wpAnyT_ready (rs := [13]) (by kernel_rfl) (by simp) ?_
              refine AllT.cons rfl (fun K hK => ?_) AllT.nil
              obtain ⟨hm1, hm2, hm3⟩ := hT4.out.made hb (by simp)
              have d0 : X7.cell? ⟨hb, 0, none⟩ = some (.slice none 0 0) := cell_of_block hm1 0
              have f0 : X7.frozen? ⟨hb, 0, none⟩ = false := free_of_block hm1 0
              have d1 : X7.cell? ⟨hb, 1, none⟩ = some (.slice none 0 0) := cell_of_block hm1 1
              have f1 : X7.frozen? ⟨hb, 1, none⟩ = false := free_of_block hm1 1
              have d2 : X7.cell? ⟨hb, 2, none⟩ = some (.int .i64 0) := cell_of_block hm1 2
              have f2 : X7.frozen? ⟨hb, 2, none⟩ = false := free_of_block hm1 2
              clear hm1 hm2 hm3
              go_simp
              refine hK.out _ _ (fun h => absurd rfl h) ?_
              have hT5 := Lib.hid hT4.out
              clear hK K
              refine wpAnyT_done (by kernel_rfl) ?_ _
              refine NoPanic.normal ?_
              obtain ⟨hm1, hm2, hm3⟩ := hT5.out.made hb (by simp)
              have hset := set_of_block (set_of_block (set_of_block hm1 0 (.slice none 0 0)) 1 (.slice ja (0 + 1) jc)) 2 (.int .i64 gm)
              simp only [List.setIfInBounds_toArray, List.set_cons_zero, List.set_cons_succ] at hset
              have hS3 : Since (fun y => y = hb) X7 (((X7.setCell ⟨hb, 0, none⟩ (.slice none 0 0)).setCell ⟨hb, 1, none⟩ (.slice ja (0 + 1) jc)).setCell ⟨hb, 2, none⟩ (.int .i64 gm)) := Since.setCell (p := ⟨hb, 2, none⟩) (Since.setCell (p := ⟨hb, 1, none⟩) (Since.setCell (F := fun y => y = hb) (p := ⟨hb, 0, none⟩) (Since.refl _ _) (.inl rfl) _) (.inl rfl) _) (.inl rfl) _
              have hrow := hS3.row hT5.out.row (fun y hy e => hm2 (by rw [← e]; exact hy))
              have hbel := hT5.out.below.trans (hS3.below hT5.out.below.size (fun y hy => by omega))
              go_wp2_with fail
              go_meet
              case rel => exact ⟨hb, ja, jc, by first | rfl | simp, hset, by rw [Hid, HIV.out]; rw [HIE.out]; exact hrow, hm3, hbel⟩
          · skip
            go_simp
            have hT2 := hT1.out.allocG
            refine hK.out _ _ (fun _ _ => hT2.below) ?_
            obtain ⟨hb, hhb⟩ : ∃ n, n = V1.heap.size := ⟨_, rfl⟩
            rw [← hhb] at hT2 ⊢
            clear hhb
            generalize World.alloc V1 _ = X8 at hT2 ⊢
            replace hT2 := Lib.hid hT2
            clear hK K
            refine wpAnyT_ready (rs := [9]) (by kernel_rfl) (by simp) ?_
            refine AllT.cons rfl (fun K hK => ?_) AllT.nil
            go_simp
            have hT3 := hT2.out.alloc (.int .i64 (tt : Int))
            refine hK.out _ _ (fun _ _ => hT3.below) ?_
            obtain ⟨nb, hnb⟩ : ∃ n, n = X8.heap.size := ⟨_, rfl⟩
            rw [← hnb] at hT3 ⊢
            clear hnb
            generalize World.alloc X8 _ = X9 at hT3 ⊢
            replace hT3 := Lib.hid hT3
            clear hK K
            refine wpAnyT_ready (rs := [10]) (by kernel_rfl) (by simp) ?_
            refine AllT.cons rfl (fun K hK => ?_) AllT.nil
            refine step_append_where_ X9 (by rfl) (.tmp 49) (.tmp 54) 23 rfl 3 (.int .i64 0) 1 8 Try.underlying23 int_info rfl (by decide) V0.heap.size (.slice none 0 0) 0 [] (by rfl) hT3.out.row ⟨nb, 0, none⟩ 1 1 [.int .i64 (tt : Int)] (by rfl) rfl (hT3.out.cell (by simp)) (by simp [Value.oneCell']) (by unfold maxLen; omega) (by omega) hT3.out.below.size ?_
            intro ja jc X10 e1 e2 e3 e4 e5
            simp only [Nat.zero_add, List.nil_append] at e1 e5 ⊢
            have hT4 := Lib.hid (hT3.out.app e1 e4 e5)
            clear e1 e2 e3 e4 e5
            refine hK.out _ _ (fun _ _ => hT4.out.below) ?_
            clear hK K
            change wpAnyT _ _ _ _ _ _ _ _ (Act.put _ (some 55) _) _
            simp only [Act.put, List.setIfInBounds_toArray, List.set_cons_zero, List.set_cons_succ]
            refine wpAnyT_free (i := 11) (v := ?v11) rfl (by kernel_rfl) (by kernel_rfl) (by kernel_rfl) (by decide) (fun _ _ _ h => h) (Or.inl ⟨by rfl, ?hy11⟩) (fun _ => hT4.out.below) ?_
            case hy11 => (intro x' _; go_simp; try with_reducible rfl)
            change wpAnyT _ _ _ _ _ _ _ _ (Act.put _ (some 56) _) _
            simp only [Act.put, List.setIfInBounds_toArray, List.set_cons_zero, List.set_cons_succ]
            refine wpAnyT_ready (rs := [13]) (by kernel_rfl) (by simp) ?_
            refine AllT.cons rfl (fun K hK => ?_) AllT.nil
            obtain ⟨hm1, hm2, hm3⟩ := hT4.out.made hb (by simp)
            have d0 : X10.cell? ⟨hb, 0, none⟩ = some (.slice none 0 0) := cell_of_block hm1 0
            have f0 : X10.frozen? ⟨hb, 0, none⟩ = false := free_of_block hm1 0
            have d1 : X10.cell? ⟨hb, 1, none⟩ = some (.slice none 0 0) := cell_of_block hm1 1
            have f1 : X10.frozen? ⟨hb, 1, none⟩ = false := free_of_block hm1 1
            have d2 : X10.cell? ⟨hb, 2, none⟩ = some (.int .i64 0) := cell_of_block hm1 2
            have f2 : X10.frozen? ⟨hb, 2, none⟩ = false := free_of_block hm1 2
            clear hm1 hm2 hm3
            go_simp
            refine hK.out _ _ (fun h => absurd rfl h) ?_
            have hT5 := Lib.hid hT4.out
            clear hK K
            refine wpAnyT_done (by kernel_rfl) ?_ _
            refine NoPanic.normal ?_
            obtain ⟨hm1, hm2, hm3⟩ := hT5.out.made hb (by simp)
            have hset := set_of_block (set_of_block (set_of_block hm1 0 (.slice none 0 0)) 1 (.slice ja (0 + 1) jc)) 2 (.int .i64 gm)
            simp only [List.setIfInBounds_toArray, List.set_cons_zero, List.set_cons_succ] at hset
            have hS3 : Since (fun y => y = hb) X10 (((X10.setCell ⟨hb, 0, none⟩ (.slice none 0 0)).setCell ⟨hb, 1, none⟩ (.slice ja (0 + 1) jc)).setCell ⟨hb, 2, none⟩ (.int .i64 gm)) := Since.setCell (p := ⟨hb, 2, none⟩) (Since.setCell (p := ⟨hb, 1, none⟩) (Since.setCell (F := fun y => y = hb) (p := ⟨hb, 0, none⟩) (Since.refl _ _) (.inl rfl) _) (.inl rfl) _) (.inl rfl) _
            have hrow := hS3.row hT5.out.row (fun y hy e => hm2 (by rw [← e]; exact hy))
            have hbel := hT5.out.below.trans (hS3.below hT5.out.below.size (fun y hy => by omega))
            go_wp2_with fail
            go_meet
            case rel => exact ⟨hb, ja, jc, by first | rfl | simp, hset, by rw [Hid, HIV.out]; rw [HIE.out]; exact hrow, hm3, hbel⟩
        · skip
          go_simp
          have hT1 := hT0.out.alloc (.int .i64 (tt : Int))
          refine hK.out _ _ (fun _ _ => hT1.below) ?_
          obtain ⟨nb, hnb⟩ : ∃ n, n = V1.heap.size := ⟨_, rfl⟩
          rw [← hnb] at hT1 ⊢
          clear hnb
          generalize World.alloc V1 _ = X11 at hT1 ⊢
          replace hT1 := Lib.hid hT1
          clear hK K
          refine wpAnyT_ready (rs := [4, 12]) (by kernel_rfl) (by simp) ?_
          refine AllT.cons rfl (fun K hK => ?_) (AllT.cons rfl (fun K hK => ?_) AllT.nil)
          · skip
            refine step_append_none X11 (by rfl) (.const (.slice none 0 0)) (.tmp 48) 23 rfl 3 i1 Try.underlying23 hi1 (by rfl) ia ic (by rfl) ?_
            have hT2 := Lib.hid hT1.out
            refine hK.out _ _ (fun _ _ => hT2.out.below) ?_
            clear hK K
            change wpAnyT _ _ _ _ _ _ _ _ (Act.put _ (some 49) _) _
            simp only [Act.put, List.setIfInBounds_toArray, List.set_cons_zero, List.set_cons_succ]
            refine wpAnyT_ready (rs := [10, 12]) (by kernel_rfl) (by simp) ?_
            refine AllT.cons rfl (fun K hK => ?_) (AllT.cons rfl (fun K hK => ?_) AllT.nil)
            · skip
              refine step_append_where_ X11 (by rfl) (.tmp 49) (.tmp 54) 23 rfl 3 (.int .i64 0) 1 8 Try.underlying23 int_info rfl (by decide) V0.heap.size (.slice none 0 0) 0 [] (by rfl) hT2.out.row ⟨nb, 0, none⟩ 1 1 [.int .i64 (tt : Int)] (by rfl) rfl (hT2.out.cell (by simp)) (by simp [Value.oneCell']) (by unfold maxLen; omega) (by omega) hT2.out.below.size ?_
              intro ja jc X13 e1 e2 e3 e4 e5
              simp only [Nat.zero_add, List.nil_append] at e1 e5 ⊢
              have hT3 := Lib.hid (hT2.out.app e1 e4 e5)
              clear e1 e2 e3 e4 e5
              refine hK.out _ _ (fun _ _ => hT3.out.below) ?_
              clear hK K
              change wpAnyT _ _ _ _ _ _ _ _ (Act.put _ (some 55) _) _
              simp only [Act.put, List.setIfInBounds_toArray, List.set_cons_zero, List.set_cons_succ]
              refine wpAnyT_free (i := 11) (v := ?v12) rfl (by kernel_rfl) (by kernel_rfl) (by kernel_rfl) (by decide) (fun _ _ _ h => h) (Or.inl ⟨by rfl, ?hy12⟩) (fun _ => hT3.out.below) ?_
              case hy12 => (intro x' _; go_simp; try with_reducible rfl)
              change wpAnyT _ _ _ _ _ _ _ _ (Act.put _ (some 56) _) _
              simp only [Act.put, List.setIfInBounds_toArray, List.set_cons_zero, List.set_cons_succ]
              refine wpAnyT_ready (rs := [12]) (by kernel_rfl) (by simp) ?_
              refine AllT.cons rfl (fun K hK => ?_) AllT.nil
              go_simp
              have hT4 := hT3.out.allocG
              refine hK.out _ _ (fun _ _ => hT4.below) ?_
              obtain ⟨hb, hhb⟩ : ∃ n, n = X13.heap.size := ⟨_, rfl⟩
              rw [← hhb] at hT4 ⊢
              clear hhb
              generalize World.alloc X13 _ = X14 at hT4 ⊢
              replace hT4 := Lib.hid hT4
              clear hK K
              refine wpAnyT_ready (rs := [13]) (by kernel_rfl) (by simp) ?_
              refine AllT.cons rfl (fun K hK => ?_) AllT.nil
              obtain ⟨hm1, hm2, hm3⟩ := hT4.out.made hb (by simp)
              have d0 : X14.cell? ⟨hb, 0, none⟩ = some (.slice none 0 0) := cell_of_block hm1 0
              have f0 : X14.frozen? ⟨hb, 0, none⟩ = false := free_of_block hm1 0
              have d1 : X14.cell? ⟨hb, 1, none⟩ = some (.slice none 0 0) := cell_of_block hm1 1
              have f1 : X14.frozen? ⟨hb, 1, none⟩ = false := free_of_block hm1 1
              have d2 : X14.cell? ⟨hb, 2, none⟩ = some (.int .i64 0) := cell_of_block hm1 2
              have f2 : X14.frozen? ⟨hb, 2, none⟩ = false := free_of_block hm1 2
              clear hm1 hm2 hm3
              go_simp
              refine hK.out _ _ (fun h => absurd rfl h) ?_
              have hT5 := Lib.hid hT4.out
              clear hK K
              refine wpAnyT_done (by kernel_rfl) ?_ _
              refine NoPanic.normal ?_
              obtain ⟨hm1, hm2, hm3⟩ := hT5.out.made hb (by simp)
              have hset := set_of_block (set_of_block (set_of_block hm1 0 (.slice none 0 0)) 1 (.slice ja (0 + 1) jc)) 2 (.int .i64 gm)
              simp only [List.setIfInBounds_toArray, List.set_cons_zero, List.set_cons_succ] at hset
              have hS3 : Since (fun y => y = hb) X14 (((X14.setCell ⟨hb, 0, none⟩ (.slice none 0 0)).setCell ⟨hb, 1, none⟩ (.slice ja (0 + 1) jc)).setCell ⟨hb, 2, none⟩ (.int .i64 gm)) := Since.setCell (p := ⟨hb, 2, none⟩) (Since.setCell (p := ⟨hb, 1, none⟩) (Since.setCell (F := fun y => y = hb) (p := ⟨hb, 0, none⟩) (Since.refl _ _) (.inl rfl) _) (.inl rfl) _) (.inl rfl) _
              have hrow := hS3.row hT5.out.row (fun y hy e => hm2 (by rw [← e]; exact hy))
              have hbel := hT5.out.below.trans (hS3.below hT5.out.below.size (fun y hy => by omega))
              go_wp2_with fail
              go_meet
              case rel => exact ⟨hb, ja, jc, by first | rfl | simp, hset, by rw [Hid, HIV.out]; rw [HIE.out]; exact hrow, hm3, hbel⟩
            · skip
              go_simp
              have hT3 := hT2.out.allocG
              refine hK.out _ _ (fun _ _ => hT3.below) ?_
              obtain ⟨hb, hhb⟩ : ∃ n, n = X11.heap.size := ⟨_, rfl⟩
              rw [← hhb] at hT3 ⊢
              clear hhb
              generalize World.alloc X11 _ = X15 at hT3 ⊢
              replace hT3 := Lib.hid hT3
              clear hK K
              refine wpAnyT_ready (rs := [10]) (by kernel_rfl) (by simp) ?_
              refine AllT.cons rfl (fun K hK => ?_) AllT.nil
              refine step_append_where_ X15 (by rfl) (.tmp 49) (.tmp 54) 23 rfl 3 (.int .i64 0) 1 8 Try.underlying23 int_info rfl (by decide) V0.heap.size (.slice none 0 0) 0 [] (by rfl) hT3.out.row ⟨nb, 0, none⟩ 1 1 [.int .i64 (tt : Int)] (by rfl) rfl (hT3.out.cell (by simp)) (by simp [Value.oneCell']) (by unfold maxLen; omega) (by omega) hT3.out.below.size ?_
              intro ja jc X16 e1 e2 e3 e4 e5
              simp only [Nat.zero_add, List.nil_append] at e1 e5 ⊢
              have hT4 := Lib.hid (hT3.out.app e1 e4 e5)
              clear e1 e2 e3 e4 e5
              refine hK.out _ _ (fun _ _ => hT4.out.below) ?_
              clear hK K
              change wpAnyT _ _ _ _ _ _ _ _ (Act.put _ (some 55) _) _
              simp only [Act.put, List.setIfInBounds_toArray, List.set_cons_zero, List.set_cons_succ]
              refine wpAnyT_free (i := 11) (v := ?v13) rfl (by kernel_rfl) (by kernel_rfl) (by kernel_rfl) (by decide) (fun _ _ _ h => h) (Or.inl ⟨by rfl, ?hy13⟩) (fun _ => hT4.out.below) ?_
              case hy13 => (intro x' _; go_simp; try with_reducible rfl)
              change wpAnyT _ _ _ _ _ _ _ _ (Act.put _ (some 56) _) _
              simp only [Act.put, List.setIfInBounds_toArray, List.set_cons_zero, List.set_cons_succ]
              refine wpAnyT_ready (rs := [13]) (by kernel_rfl) (by simp) ?_
              refine AllT.cons rfl (fun K hK => ?_) AllT.nil
              obtain ⟨hm1, hm2, hm3⟩ := hT4.out.made hb (by simp)
              have d0 : X16.cell? ⟨hb, 0, none⟩ = some (.slice none 0 0) := cell_of_block hm1 0
              have f0 : X16.frozen? ⟨hb, 0, none⟩ = false := free_of_block hm1 0
              have d1 : X16.cell? ⟨hb, 1, none⟩ = some (.slice none 0 0) := cell_of_block hm1 1
              have f1 : X16.frozen? ⟨hb, 1, none⟩ = false := free_of_block hm1 1
              have d2 : X16.cell? ⟨hb, 2, none⟩ = some (.int .i64 0) := cell_of_block hm1 2
              have f2 : X16.frozen? ⟨hb, 2, none⟩ = false := free_of_block hm1 2
              clear hm1 hm2 hm3
              go_simp
              refine hK.out _ _ (fun h => absurd rfl h) ?_
              have hT5 := Lib.hid hT4.out
              clear hK K
              refine wpAnyT_done (by kernel_rfl) ?_ _
              refine NoPanic.normal ?_
              obtain ⟨hm1, hm2, hm3⟩ := hT5.out.made hb (by simp)
              have hset := set_of_block (set_of_block (set_of_block hm1 0 (.slice none 0 0)) 1 (.slice ja (0 + 1) jc)) 2 (.int .i64 gm)
              simp only [List.setIfInBounds_toArray, List.set_cons_zero, List.set_cons_succ] at hset
              have hS3 : Since (fun y => y = hb) X16 (((X16.setCell ⟨hb, 0, none⟩ (.slice none 0 0)).setCell ⟨hb, 1, none⟩ (.slice ja (0 + 1) jc)).setCell ⟨hb, 2, none⟩ (.int .i64 gm)) := Since.setCell (p := ⟨hb, 2, none⟩) (Since.setCell (p := ⟨hb, 1, none⟩) (Since.setCell (F := fun y => y = hb) (p := ⟨hb, 0, none⟩) (Since.refl _ _) (.inl rfl) _) (.inl rfl) _) (.inl rfl) _
              have hrow := hS3.row hT5.out.row (fun y hy e => hm2 (by rw [← e]; exact hy))
              have hbel := hT5.out.below.trans (hS3.below hT5.out.below.size (fun y hy => by omega))
              go_wp2_with fail
              go_meet
              case rel => exact ⟨hb, ja, jc, by first | rfl | simp, hset, by rw [Hid, HIV.out]; rw [HIE.out]; exact hrow, hm3, hbel⟩
          · skip
            go_simp
            have hT2 := hT1.out.allocG
            refine hK.out _ _ (fun _ _ => hT2.below) ?_
            obtain ⟨hb, hhb⟩ : ∃ n, n = X11.heap.size := ⟨_, rfl⟩
            rw [← hhb] at hT2 ⊢
            clear hhb
            generalize World.alloc X11 _ = X17 at hT2 ⊢
            replace hT2 := Lib.hid hT2
            clear hK K
            refine wpAnyT_ready (rs := [4]) (by kernel_rfl) (by simp) ?_
            refine AllT.cons rfl (fun K hK => ?_) AllT.nil
            refine step_append_none X17 (by rfl) (.const (.slice none 0 0)) (.tmp 48) 23 rfl 3 i1 Try.underlying23 hi1 (by rfl) ia ic (by rfl) ?_
            have hT3 := Lib.hid hT2.out
            refine hK.out _ _ (fun _ _ => hT3.out.below) ?_
            clear hK K
            change wpAnyT _ _ _ _ _ _ _ _ (Act.put _ (some 49) _) _
            simp only [Act.put, List.setIfInBounds_toArray, List.set_cons_zero, List.set_cons_succ]
            refine wpAnyT_ready (rs := [10]) (by kernel_rfl) (by simp) ?_
            refine AllT.cons rfl (fun K hK => ?_) AllT.nil
            refine step_append_where_ X17 (by rfl) (.tmp 49) (.tmp 54) 23 rfl 3 (.int .i64 0) 1 8 Try.underlying23 int_info rfl (by decide) V0.heap.size (.slice none 0 0) 0 [] (by rfl) hT3.out.row ⟨nb, 0, none⟩ 1 1 [.int .i64 (tt : Int)] (by rfl) rfl (hT3.out.cell (by simp)) (by simp [Value.oneCell']) (by unfold maxLen; omega) (by omega) hT3.out.below.size ?_
            intro ja jc X19 e1 e2 e3 e4 e5
            simp only [Nat.zero_add, List.nil_append] at e1 e5 ⊢
            have hT4 := Lib.hid (hT3.out.app e1 e4 e5)
            clear e1 e2 e3 e4 e5
            refine hK.out _ _ (fun _ _ => hT4.out.below) ?_
            clear hK K
            change wpAnyT _ _ _ _ _ _ _ _ (Act.put _ (some 55) _) _
            simp only [Act.put, List.setIfInBounds_toArray, List.set_cons_zero, List.set_cons_succ]
            refine wpAnyT_free (i := 11) (v := ?v14) rfl (by kernel_rfl) (by kernel_rfl) (by kernel_rfl) (by decide) (fun _ _ _ h => h) (Or.inl ⟨by rfl, ?hy14⟩) (fun _ => hT4.out.below) ?_
            case hy14 => (intro x' _; go_simp; try with_reducible rfl)
            change wpAnyT _ _ _ _ _ _ _ _ (Act.put _ (some 56) _) _
            simp only [Act.put, List.setIfInBounds_toArray, List.set_cons_zero, List.set_cons_succ]
            refine wpAnyT_ready (rs := [13]) (by kernel_rfl) (by simp) ?_
            refine AllT.cons rfl (fun K hK => ?_) AllT.nil
            obtain ⟨hm1, hm2, hm3⟩ := hT4.out.made hb (by simp)
            have d0 : X19.cell? ⟨hb, 0, none⟩ = some (.slice none 0 0) := cell_of_block hm1 0
            have f0 : X19.frozen? ⟨hb, 0, none⟩ = false := free_of_block hm1 0
            have d1 : X19.cell? ⟨hb, 1, none⟩ = some (.slice none 0 0) := cell_of_block hm1 1
            have f1 : X19.frozen? ⟨hb, 1, none⟩ = false := free_of_block hm1 1
            have d2 : X19.cell? ⟨hb, 2, none⟩ = some (.int .i64 0) := cell_of_block hm1 2
            have f2 : X19.frozen? ⟨hb, 2, none⟩ = false := free_of_block hm1 2
            clear hm1 hm2 hm3
            go_simp
            refine hK.out _ _ (fun h => absurd rfl h) ?_
            have hT5 := Lib.hid hT4.out
            clear hK K
            refine wpAnyT_done (by kernel_rfl) ?_ _
            refine NoPanic.normal ?_
            obtain ⟨hm1, hm2, hm3⟩ := hT5.out.made hb (by simp)
            have hset := set_of_block (set_of_block (set_of_block hm1 0 (.slice none 0 0)) 1 (.slice ja (0 + 1) jc)) 2 (.int .i64 gm)
            simp only [List.setIfInBounds_toArray, List.set_cons_zero, List.set_cons_succ] at hset
            have hS3 : Since (fun y => y = hb) X19 (((X19.setCell ⟨hb, 0, none⟩ (.slice none 0 0)).setCell ⟨hb, 1, none⟩ (.slice ja (0 + 1) jc)).setCell ⟨hb, 2, none⟩ (.int .i64 gm)) := Since.setCell (p := ⟨hb, 2, none⟩) (Since.setCell (p := ⟨hb, 1, none⟩) (Since.setCell (F := fun y => y = hb) (p := ⟨hb, 0, none⟩) (Since.refl _ _) (.inl rfl) _) (.inl rfl) _) (.inl rfl) _
            have hrow := hS3.row hT5.out.row (fun y hy e => hm2 (by rw [← e]; exact hy))
            have hbel := hT5.out.below.trans (hS3.below hT5.out.below.size (fun y hy => by omega))
            go_wp2_with fail
            go_meet
            case rel => exact ⟨hb, ja, jc, by first | rfl | simp, hset, by rw [Hid, HIV.out]; rw [HIE.out]; exact hrow, hm3, hbel⟩
        · skip
          go_simp
          have hT1 := hT0.out.allocG
          refine hK.out _ _ (fun _ _ => hT1.below) ?_
          obtain ⟨hb, hhb⟩ : ∃ n, n = V1.heap.size := ⟨_, rfl⟩
          rw [← hhb] at hT1 ⊢
          clear hhb
          generalize World.alloc V1 _ = X20 at hT1 ⊢
          replace hT1 := Lib.hid hT1
          clear hK K
          refine wpAnyT_ready (rs := [4, 9]) (by kernel_rfl) (by simp) ?_
          refine AllT.cons rfl (fun K hK => ?_) (AllT.cons rfl (fun K hK => ?_) AllT.nil)
          · skip
            refine step_append_none X20 (by rfl) (.const (.slice none 0 0)) (.tmp 48) 23 rfl 3 i1 Try.underlying23 hi1 (by rfl) ia ic (by rfl) ?_
            have hT2 := Lib.hid hT1.out
            refine hK.out _ _ (fun _ _ => hT2.out.below) ?_
            clear hK K
            change wpAnyT _ _ _ _ _ _ _ _ (Act.put _ (some 49) _) _
            simp only [Act.put, List.setIfInBounds_toArray, List.set_cons_zero, List.set_cons_succ]
            refine wpAnyT_ready (rs := [9]) (by kernel_rfl) (by simp) ?_
            refine AllT.cons rfl (fun K hK => ?_) AllT.nil
            go_simp
            have hT3 := hT2.out.alloc (.int .i64 (tt : Int))
            refine hK.out _ _ (fun _ _ => hT3.below) ?_
            obtain ⟨nb, hnb⟩ : ∃ n, n = X20.heap.size := ⟨_, rfl⟩
            rw [← hnb] at hT3 ⊢
            clear hnb
            generalize World.alloc X20 _ = X22 at hT3 ⊢
            replace hT3 := Lib.hid hT3
            clear hK K
            refine wpAnyT_ready (rs := [10]) (by kernel_rfl) (by simp) ?_
            refine AllT.cons rfl (fun K hK => ?_) AllT.nil
            refine step_append_where_ X22 (by rfl) (.tmp 49) (.tmp 54) 23 rfl 3 (.int .i64 0) 1 8 Try.underlying23 int_info rfl (by decide) V0.heap.size (.slice none 0 0) 0 [] (by rfl) hT3.out.row ⟨nb, 0, none⟩ 1 1 [.int .i64 (tt : Int)] (by rfl) rfl (hT3.out.cell (by simp)) (by simp [Value.oneCell']) (by unfold maxLen; omega) (by omega) hT3.out.below.size ?_
            intro ja jc X23 e1 e2 e3 e4 e5
            simp only [Nat.zero_add, List.nil_append] at e1 e5 ⊢
            have hT4 := Lib.hid (hT3.out.app e1 e4 e5)
            clear e1 e2 e3 e4 e5
            refine hK.out _ _ (fun _ _ => hT4.out.below) ?_
            clear hK K
            change wpAnyT _ _ _ _ _ _ _ _ (Act.put _ (some 55) _) _
            simp only [Act.put, List.setIfInBounds_toArray, List.set_cons_zero, List.set_cons_succ]
            refine wpAnyT_free (i := 11) (v := ?v15) rfl (by kernel_rfl) (by kernel_rfl) (by kernel_rfl) (by decide) (fun _ _ _ h => h) (Or.inl ⟨by rfl, ?hy15⟩) (fun _ => hT4.out.below) ?_
            case hy15 => (intro x' _; go_simp; try with_reducible rfl)
            change wpAnyT _ _ _ _ _ _ _ _ (Act.put _ (some 56) _) _
            simp only [Act.put, List.setIfInBounds_toArray, List.set_cons_zero, List.set_cons_succ]
            refine wpAnyT_ready (rs := [13]) (by kernel_rfl) (by simp) ?_
            refine AllT.cons rfl (fun K hK => ?_) AllT.nil
            obtain ⟨hm1, hm2, hm3⟩ := hT4.out.made hb (by simp)
            have d0 : X23.cell? ⟨hb, 0, none⟩ = some (.slice none 0 0) := cell_of_block hm1 0
            have f0 : X23.frozen? ⟨hb, 0, none⟩ = false := free_of_block hm1 0
            have d1 : X23.cell? ⟨hb, 1, none⟩ = some (.slice none 0 0) := cell_of_block hm1 1
            have f1 : X23.frozen? ⟨hb, 1, none⟩ = false := free_of_block hm1 1
            have d2 : X23.cell? ⟨hb, 2, none⟩ = some (.int .i64 0) := cell_of_block hm1 2
            have f2 : X23.frozen? ⟨hb, 2, none⟩ = false := free_of_block hm1 2
            clear hm1 hm2 hm3
            go_simp
            refine hK.out _ _ (fun h => absurd rfl h) ?_
            have hT5 := Lib.hid hT4.out
            clear hK K
            refine wpAnyT_done (by kernel_rfl) ?_ _
            refine NoPanic.normal ?_
            obtain ⟨hm1, hm2, hm3⟩ := hT5.out.made hb (by simp)
            have hset := set_of_block (set_of_block (set_of_block hm1 0 (.slice none 0 0)) 1 (.slice ja (0 + 1) jc)) 2 (.int .i64 gm)
            simp only [List.setIfInBounds_toArray, List.set_cons_zero, List.set_cons_succ] at hset
            have hS3 : Since (fun y => y = hb) X23 (((X23.setCell ⟨hb, 0, none⟩ (.slice none 0 0)).setCell ⟨hb, 1, none⟩ (.slice ja (0 + 1) jc)).setCell ⟨hb, 2, none⟩ (.int .i64 gm)) := Since.setCell (p := ⟨hb, 2, none⟩) (Since.setCell (p := ⟨hb, 1, none⟩) (Since.setCell (F := fun y => y = hb) (p := ⟨hb, 0, none⟩) (Since.refl _ _) (.inl rfl) _) (.inl rfl) _) (.inl rfl) _
            have hrow := hS3.row hT5.out.row (fun y hy e => hm2 (by rw [← e]; exact hy))
            have hbel := hT5.out.below.trans (hS3.below hT5.out.below.size (fun y hy => by omega))
            go_wp2_with fail
            go_meet
            case rel => exact ⟨hb, ja, jc, by first | rfl | simp, hset, by rw [Hid, HIV.out]; rw [HIE.out]; exact hrow, hm3, hbel⟩
          · skip
            go_simp
            have hT2 := hT1.out.alloc (.int .i64 (tt : Int))
            refine hK.out _ _ (fun _ _ => hT2.below) ?_
            obtain ⟨nb, hnb⟩ : ∃ n, n = X20.heap.size := ⟨_, rfl⟩
            rw [← hnb] at hT2 ⊢
            clear hnb
            generalize World.alloc X20 _ = X24 at hT2 ⊢
            replace hT2 := Lib.hid hT2
            clear hK K
            refine wpAnyT_ready (rs := [4]) (by kernel_rfl) (by simp) ?_
            refine AllT.cons rfl (fun K hK => ?_) AllT.nil
            refine step_append_none X24 (by rfl) (.const (.slice none 0 0)) (.tmp 48) 23 rfl 3 i1 Try.underlying23 hi1 (by rfl) ia ic (by rfl) ?_
            have hT3 := Lib.hid hT2.out
            refine hK.out _ _ (fun _ _ => hT3.out.below) ?_
            clear hK K
            change wpAnyT _ _ _ _ _ _ _ _ (Act.put _ (some 49) _) _
            simp only [Act.put, List.setIfInBounds_toArray, List.set_cons_zero, List.set_cons_succ]
            refine wpAnyT_ready (rs := [10]) (by kernel_rfl) (by simp) ?_
            refine AllT.cons rfl (fun K hK => ?_) AllT.nil
            refine step_append_where_ X24 (by rfl) (.tmp 49) (.tmp 54) 23 rfl 3 (.int .i64 0) 1 8 Try.underlying23 int_info rfl (by decide) V0.heap.size (.slice none 0 0) 0 [] (by rfl) hT3.out.row ⟨nb, 0, none⟩ 1 1 [.int .i64 (tt : Int)] (by rfl) rfl (hT3.out.cell (by simp)) (by simp [Value.oneCell']) (by unfold maxLen; omega) (by omega) hT3.out.below.size ?_
            intro ja jc X26 e1 e2 e3 e4 e5
            simp only [Nat.zero_add, List.nil_append] at e1 e5 ⊢
            have hT4 := Lib.hid (hT3.out.app e1 e4 e5)
            clear e1 e2 e3 e4 e5
            refine hK.out _ _ (fun _ _ => hT4.out.below) ?_
            clear hK K
            change wpAnyT _ _ _ _ _ _ _ _ (Act.put _ (some 55) _) _
            simp only [Act.put, List.setIfInBounds_toArray, List.set_cons_zero, List.set_cons_succ]
            refine wpAnyT_free (i := 11) (v := ?v16) rfl (by kernel_rfl) (by kernel_rfl) (by kernel_rfl) (by decide) (fun _ _ _ h => h) (Or.inl ⟨by rfl, ?hy16⟩) (fun _ => hT4.out.below) ?_
            case hy16 => (intro x' _; go_simp; try with_reducible rfl)
            change wpAnyT _ _ _ _ _ _ _ _ (Act.put _ (some 56) _) _
            simp only [Act.put, List.setIfInBounds_toArray, List.set_cons_zero, List.set_cons_succ]
            refine wpAnyT_ready (rs := [13]) (by kernel_rfl) (by simp) ?_
            refine AllT.cons rfl (fun K hK => ?_) AllT.nil
            obtain ⟨hm1, hm2, hm3⟩ := hT4.out.made hb (by simp)
            have d0 : X26.cell? ⟨hb, 0, none⟩ = some (.slice none 0 0) := cell_of_block hm1 0
            have f0 : X26.frozen? ⟨hb, 0, none⟩ = false := free_of_block hm1 0
            have d1 : X26.cell? ⟨hb, 1, none⟩ = some (.slice none 0 0) := cell_of_block hm1 1
            have f1 : X26.frozen? ⟨hb, 1, none⟩ = false := free_of_block hm1 1
            have d2 : X26.cell? ⟨hb, 2, none⟩ = some (.int .i64 0) := cell_of_block hm1 2
            have f2 : X26.frozen? ⟨hb, 2, none⟩ = false := free_of_block hm1 2
            clear hm1 hm2 hm3
            go_simp
            refine hK.out _ _ (fun h => absurd rfl h) ?_
            have hT5 := Lib.hid hT4.out
            clear hK K
            refine wpAnyT_done (by kernel_rfl) ?_ _
            refine NoPanic.normal ?_
            obtain ⟨hm1, hm2, hm3⟩ := hT5.out.made hb (by simp)
            have hset := set_of_block (set_of_block (set_of_block hm1 0 (.slice none 0 0)) 1 (.slice ja (0 + 1) jc)) 2 (.int .i64 gm)
            simp only [List.setIfInBounds_toArray, List.set_cons_zero, List.set_cons_succ] at hset
            have hS3 : Since (fun y => y = hb) X26 (((X26.setCell ⟨hb, 0, none⟩ (.slice none 0 0)).setCell ⟨hb, 1, none⟩ (.slice ja (0 + 1) jc)).setCell ⟨hb, 2, none⟩ (.int .i64 gm)) := Since.setCell (p := ⟨hb, 2, none⟩) (Since.setCell (p := ⟨hb, 1, none⟩) (Since.setCell (F := fun y => y = hb) (p := ⟨hb, 0, none⟩) (Since.refl _ _) (.inl rfl) _) (.inl rfl) _) (.inl rfl) _
            have hrow := hS3.row hT5.out.row (fun y hy e => hm2 (by rw [← e]; exact hy))
            have hbel := hT5.out.below.trans (hS3.below hT5.out.below.size (fun y hy => by omega))
            go_wp2_with fail
            go_meet
            case rel => exact ⟨hb, ja, jc, by first | rfl | simp, hset, by rw [Hid, HIV.out]; rw [HIE.out]; exact hrow, hm3, hbel⟩
    · as_aux_lemma =>
        obtain ⟨ib, io, hia, hil, HIC⟩ : ∃ ib io, ia = some ⟨ib, io, none⟩ ∧ (initV g.initial).length = k * 1 ∧ Hid (∀ x, Below V0.heap.size V0 x → ∀ j u, (initV g.initial)[j]? = some u → x.cell? ((⟨ib, io, none⟩ : Addr).add j) = some u) := by
          obtain ⟨-, ib, io, rfl, hib, -, -⟩ := HI.out.part 0 (by rw [← HK.out]; omega)
          refine ⟨ib, io, rfl, by rw [initV_len, HK.out]; simp, fun x hx j u hu => ?_⟩
          have hj : j < g.initial.length := by
            rcases Nat.lt_or_ge j g.initial.length with e | e
            · exact e
            · rw [List.getElem?_eq_none (by rw [initV_len]; exact e)] at hu; cases hu
          obtain ⟨-, b, o, he, hb, hc, -⟩ := HI.out.part j hj
          cases he
          have h1 := cells_kept (below_then HY.out hx) _ _ hc
          have h2 : u = .int .i64 (g.initial.getD j 0) := by
            simp only [initV, List.getElem?_map, List.getElem?_eq_getElem hj, Option.map_some, Option.some.injEq] at hu
            rw [← hu, List.getD_eq_getElem?_getD, List.getElem?_eq_getElem hj]; rfl
          rw [h2, ← h1]
          simp only [Addr.add]
          split
          · rename_i h; subst h; simp
          · rfl
        subst hia
        refine wp_region_noPanic ?_
        refine wp_region_tail (n0 := 13) (S := fun x => Below V0.heap.size V0 x) (by kernel_rfl) (by rw [← hV1]; exact hT0.out.below) (fun _ => ?_)
        rw [← hV1]
        clear hV1
        refine wpAnyT_free (i := 0) (v := ?v501) rfl (by kernel_rfl) (by kernel_rfl) (by kernel_rfl) (by decide) (fun _ _ _ h => h) (Or.inl ⟨by rfl, ?hy501⟩) (fun _ => hT0.out.below) ?_
        case hy501 => (intro x' _; go_simp; try with_reducible rfl)
        change wpAnyT _ _ _ _ _ _ _ _ (Act.put _ (some 45) _) _
        simp only [Act.put, List.setIfInBounds_toArray, List.set_cons_zero, List.set_cons_succ]
        refine wpAnyT_take [11, 13] (i := 1) (v := ?v502) rfl (by kernel_rfl) (by kernel_rfl) (by kernel_rfl) (by decide) (by kernel_rfl) (by kernel_rfl) (by rfl) (by rfl) (fun _ _ _ h => h) (Or.inl ⟨by rfl, ?hy502⟩) (hT0.out.below) ?_
        case hy502 => (intro x' hxx; obtain ⟨e0, e1, e2, e3, e4, e5⟩ := CC.out x' hxx; go_simp; try with_reducible rfl)
        change wpAnyT _ _ _ _ _ _ _ _ (Act.put _ (some 46) _) _
        simp only [Act.put, List.setIfInBounds_toArray, List.set_cons_zero, List.set_cons_succ]
        refine wpAnyT_free (i := 2) (v := ?v503) rfl (by kernel_rfl) (by kernel_rfl) (by kernel_rfl) (by decide) (fun _ _ _ h => h) (Or.inl ⟨by rfl, ?hy503⟩) (fun _ => hT0.out.below) ?_
        case hy503 => (intro x' _; go_simp; try with_reducible rfl)
        change wpAnyT _ _ _ _ _ _ _ _ (Act.put _ (some 47) _) _
        simp only [Act.put, List.setIfInBounds_toArray, List.set_cons_zero, List.set_cons_succ]
        refine wpAnyT_take [4, 10, 11, 13] (i := 3) (v := ?v504) rfl (by kernel_rfl) (by kernel_rfl) (by kernel_rfl) (by decide) (by kernel_rfl) (by kernel_rfl) (by rfl) (by rfl) (fun _ _ _ h => h) (Or.inl ⟨by rfl, ?hy504⟩) (hT0.out.below) ?_
        case hy504 => (intro x' hxx; obtain ⟨e0, e1, e2, e3, e4, e5⟩ := CC.out x' hxx; go_simp; try with_reducible rfl)
        change wpAnyT _ _ _ _ _ _ _ _ (Act.put _ (some 48) _) _
        simp only [Act.put, List.setIfInBounds_toArray, List.set_cons_zero, List.set_cons_succ]
        refine wpAnyT_free (i := 5) (v := ?v505) rfl (by kernel_rfl) (by kernel_rfl) (by kernel_rfl) (by decide) (fun _ _ _ h => h) (Or.inl ⟨by rfl, ?hy505⟩) (fun _ => hT0.out.below) ?_
        case hy505 => (intro x' _; go_simp; try with_reducible rfl)
        change wpAnyT _ _ _ _ _ _ _ _ (Act.put _ (some 50) _) _
        simp only [Act.put, List.setIfInBounds_toArray, List.set_cons_zero, List.set_cons_succ]
        refine wpAnyT_free (i := 6) (v := ?v506) rfl (by kernel_rfl) (by kernel_rfl) (by kernel_rfl) (by decide) (fun _ _ _ h => h) (Or.inl ⟨by rfl, ?hy506⟩) (fun _ => hT0.out.below) ?_
        case hy506 => (intro x' _; go_simp; try with_reducible rfl)
        change wpAnyT _ _ _ _ _ _ _ _ (Act.put _ (some 51) _) _
        simp only [Act.put, List.setIfInBounds_toArray, List.set_cons_zero, List.set_cons_succ]
        refine wpAnyT_free (i := 7) (v := ?v507) rfl (by kernel_rfl) (by kernel_rfl) (by kernel_rfl) (by decide) (fun _ _ _ h => h) (Or.inl ⟨by rfl, ?hy507⟩) (fun _ => hT0.out.below) ?_
        case hy507 => (intro x' _; go_simp; try with_reducible rfl)
        change wpAnyT _ _ _ _ _ _ _ _ (Act.put _ (some 52) _) _
        simp only [Act.put, List.setIfInBounds_toArray, List.set_cons_zero, List.set_cons_succ]
        refine wpAnyT_free (i := 8) (v := ?v508) rfl (by kernel_rfl) (by kernel_rfl) (by kernel_rfl) (by decide) (fun _ _ _ h => h) (Or.inl ⟨by rfl, ?hy508⟩) (fun _ => hT0.out.below) ?_
        case hy508 => (intro x' _; go_simp; try with_reducible rfl)
        change wpAnyT _ _ _ _ _ _ _ _ (Act.put _ (some 53) _) _
        simp only [Act.put, List.setIfInBounds_toArray, List.set_cons_zero, List.set_cons_succ]
        refine wpAnyT_ready (rs := [4, 9, 12]) (by kernel_rfl) (by simp) ?_
        refine AllT.cons rfl (fun K hK => ?_) (AllT.cons rfl (fun K hK => ?_) (AllT.cons rfl (fun K hK => ?_) AllT.nil))
        · skip
          refine step_append_where_ V1 (by rfl) (.const (.slice none 0 0)) (.tmp 48) 23 rfl 3 (.int .i64 0) 1 8 Try.underlying23 int_info rfl (by decide) V0.heap.size (.slice none 0 0) 0 [] (by rfl) hT0.out.row ⟨ib, io, none⟩ k ic (initV g.initial) (by rfl) hil (HIC.out V1 hT0.out.below) (fun u hu => by obtain ⟨b, -, rfl⟩ := List.mem_map.1 hu; rfl) (by unfold maxLen; omega) (by omega) hT0.out.below.size ?_
          intro ra rc X2 e1 e2 e3 e4 e5
          simp only [Nat.zero_add, List.nil_append] at e1 e5 ⊢
          have hT1 := Lib.hid (hT0.out.app e1 e4 e5)
          clear e1 e2 e3 e4 e5
          refine hK.out _ _ (fun _ _ => hT1.out.below) ?_
          clear hK K
          change wpAnyT _ _ _ _ _ _ _ _ (Act.put _ (some 49) _) _
          simp only [Act.put, List.setIfInBounds_toArray, List.set_cons_zero, List.set_cons_succ]
          refine wpAnyT_ready (rs := [9, 12]) (by kernel_rfl) (by simp) ?_
          refine AllT.cons rfl (fun K hK => ?_) (AllT.cons rfl (fun K hK => ?_) AllT.nil)
          · skip
            go_simp
            have hT2 := hT1.out.alloc (.int .i64 (tt : Int))
            refine hK.out _ _ (fun _ _ => hT2.below) ?_
            obtain ⟨nb, hnb⟩ : ∃ n, n = X2.heap.size := ⟨_, rfl⟩
            rw [← hnb] at hT2 ⊢
            clear hnb
            generalize World.alloc X2 _ = X3 at hT2 ⊢
            replace hT2 := Lib.hid hT2
            clear hK K
            refine wpAnyT_ready (rs := [10, 12]) (by kernel_rfl) (by simp) ?_
            refine AllT.cons rfl (fun K hK => ?_) (AllT.cons rfl (fun K hK => ?_) AllT.nil)
            · skip
              refine step_append_where_ X3 (by rfl) (.tmp 49) (.tmp 54) 23 rfl 3 (.int .i64 0) 1 8 Try.underlying23 int_info rfl (by decide) V0.heap.size (.slice ra k rc) k (initV g.initial) (by rfl) hT2.out.row ⟨nb, 0, none⟩ 1 1 [.int .i64 (tt : Int)] (by rfl) rfl (hT2.out.cell (by simp)) (by simp [Value.oneCell']) (by unfold maxLen; omega) (by omega) hT2.out.below.size ?_
              intro ja jc X4 e1 e2 e3 e4 e5
              have hT3 := Lib.hid (hT2.out.app e1 e4 e5)
              clear e1 e2 e3 e4 e5
              refine hK.out _ _ (fun _ _ => hT3.out.below) ?_
              clear hK K
              change wpAnyT _ _ _ _ _ _ _ _ (Act.put _ (some 55) _) _
              simp only [Act.put, List.setIfInBounds_toArray, List.set_cons_zero, List.set_cons_succ]
              refine wpAnyT_free (i := 11) (v := ?v509) rfl (by kernel_rfl) (by kernel_rfl) (by kernel_rfl) (by decide) (fun _ _ _ h => h) (Or.inl ⟨by rfl, ?hy509⟩) (fun _ => hT3.out.below) ?_
              case hy509 => (intro x' _; go_simp; try with_reducible rfl)
              change wpAnyT _ _ _ _ _ _ _ _ (Act.put _ (some 56) _) _
              simp only [Act.put, List.setIfInBounds_toArray, List.set_cons_zero, List.set_cons_succ]
              refine wpAnyT_ready (rs := [12]) (by kernel_rfl) (by simp) ?_
              refine AllT.cons rfl (fun K hK => ?_) AllT.nil
              go_simp
              have hT4 := hT3.out.allocG
              refine hK.out _ _ (fun _ _ => hT4.below) ?_
              obtain ⟨hb, hhb⟩ : ∃ n, n = X4.heap.size := ⟨_, rfl⟩
              rw [← hhb] at hT4 ⊢
              clear hhb
              generalize World.alloc X4 _ = X5 at hT4 ⊢
              replace hT4 := Lib.hid hT4
              clear hK K
              refine wpAnyT_ready (rs := [13]) (by kernel_rfl) (by simp) ?_
              refine AllT.cons rfl (fun K hK => ?_) AllT.nil
              obtain ⟨hm1, hm2, hm3⟩ := hT4.out.made hb (by simp)
              have d0 : X5.cell? ⟨hb, 0, none⟩ = some (.slice none 0 0) := cell_of_block hm1 0
              have f0 : X5.frozen? ⟨hb, 0, none⟩ = false := free_of_block hm1 0
              have d1 : X5.cell? ⟨hb, 1, none⟩ = some (.slice none 0 0) := cell_of_block hm1 1
              have f1 : X5.frozen? ⟨hb, 1, none⟩ = false := free_of_block hm1 1
              have d2 : X5.cell? ⟨hb, 2, none⟩ = some (.int .i64 0) := cell_of_block hm1 2
              have f2 : X5.frozen? ⟨hb, 2, none⟩ = false := free_of_block hm1 2
              clear hm1 hm2 hm3
              go_simp
              refine hK.out _ _ (fun h => absurd rfl h) ?_
              have hT5 := Lib.hid hT4.out
              clear hK K
              refine wpAnyT_done (by kernel_rfl) ?_ _
              refine NoPanic.normal ?_
              obtain ⟨hm1, hm2, hm3⟩ := hT5.out.made hb (by simp)
              have hset := set_of_block (set_of_block (set_of_block hm1 0 (.slice none 0 0)) 1 (.slice ja (k + 1) jc)) 2 (.int .i64 gm)
              simp only [List.setIfInBounds_toArray, List.set_cons_zero, List.set_cons_succ] at hset
              have hS3 : Since (fun y => y = hb) X5 (((X5.setCell ⟨hb, 0, none⟩ (.slice none 0 0)).setCell ⟨hb, 1, none⟩ (.slice ja (k + 1) jc)).setCell ⟨hb, 2, none⟩ (.int .i64 gm)) := Since.setCell (p := ⟨hb, 2, none⟩) (Since.setCell (p := ⟨hb, 1, none⟩) (Since.setCell (F := fun y => y = hb) (p := ⟨hb, 0, none⟩) (Since.refl _ _) (.inl rfl) _) (.inl rfl) _) (.inl rfl) _
              have hrow := hS3.row hT5.out.row (fun y hy e => hm2 (by rw [← e]; exact hy))
              have hbel := hT5.out.below.trans (hS3.below hT5.out.below.size (fun y hy => by omega))
              go_wp2_with fail
              go_meet
              case rel => exact ⟨hb, ja, jc, by first | rfl | simp, hset, by rw [Hid, HIV.out]; exact hrow, hm3, hbel⟩
            · skip
              go_simp
              have hT3 := hT2.out.allocG
              refine hK.out _ _ (fun _ _ => hT3.below) ?_
              obtain ⟨hb, hhb⟩ : ∃ n, n = X3.heap.size := ⟨_, rfl⟩
              rw [← hhb] at hT3 ⊢
              clear hhb
              generalize World.alloc X3 _ = X6 at hT3 ⊢
              replace hT3 := Lib.hid hT3
              clear hK K
              refine wpAnyT_ready (rs := [10]) (by kernel_rfl) (by simp) ?_
              refine AllT.cons rfl (fun K hK => ?_) AllT.nil
              refine step_append_where_ X6 (by rfl) (.tmp 49) (.tmp 54) 23 rfl 3 (.int .i64 0) 1 8 Try.underlying23 int_info rfl (by decide) V0.heap.size (.slice ra k rc) k (initV g.initial) (by rfl) hT3.out.row ⟨nb, 0, none⟩ 1 1 [.int .i64 (tt : Int)] (by rfl) rfl (hT3.out.cell (by simp)) (by simp [Value.oneCell']) (by unfold maxLen; omega) (by omega) hT3.out.below.size ?_
              intro ja jc X7 e1 e2 e3 e4 e5
              have hT4 := Lib.hid (hT3.out.app e1 e4 e5)
              clear e1 e2 e3 e4 e5
              refine hK.out _ _ (fun _ _ => hT4.out.below) ?_
              clear hK K
              change wpAnyT _ _ _ _ _ _ _ _ (Act.put _ (some 55) _) _
              simp only [Act.put, List.setIfInBounds_toArray, List.set_cons_zero, List.set_cons_succ]
              refine wpAnyT_free (i := 11) (v := ?v510) rfl (by kernel_rfl) (by kernel_rfl) (by kernel_rfl) (by decide) (fun _ _ _ h => h) (Or.inl ⟨by rfl, ?hy510⟩) (fun _ => hT4.out.below) ?_
              case hy510 => (intro x' _; go_simp; try with_reducible rfl)
              change wpAnyT _ _ _ _ _ _ _ _ (Act.put _ (some 56) _) _
              simp only [Act.put, List.setIfInBounds_toArray, List.set_cons_zero, List.set_cons_succ]
              refine wpAnyT_ready (rs := [13]) (by kernel_rfl) (by simp) ?_
              refine AllT.cons rfl (fun K hK => ?_) AllT.nil
              obtain ⟨hm1, hm2, hm3⟩ := hT4.out.made hb (by simp)
              have d0 : X7.cell? ⟨hb, 0, none⟩ = some (.slice none 0 0) := cell_of_block hm1 0
              have f0 : X7.frozen? ⟨hb, 0, none⟩ = false := free_of_block hm1 0
              have d1 : X7.cell? ⟨hb, 1, none⟩ = some (.slice none 0 0) := cell_of_block hm1 1
              have f1 : X7.frozen? ⟨hb, 1, none⟩ = false := free_of_block hm1 1
              have d2 : X7.cell? ⟨hb, 2, none⟩ = some (.int .i64 0) := cell_of_block hm1 2
              have f2 : X7.frozen? ⟨hb, 2, none⟩ = false := free_of_block hm1 2
              clear hm1 hm2 hm3
              go_simp
              refine hK.out _ _ (fun h => absurd rfl h) ?_
              have hT5 := Lib.hid hT4.out
              clear hK K
              refine wpAnyT_done (by kernel_rfl) ?_ _
              refine NoPanic.normal ?_
              obtain ⟨hm1, hm2, hm3⟩ := hT5.out.made hb (by simp)
              have hset := set_of_block (set_of_block (set_of_block hm1 0 (.slice none 0 0)) 1 (.slice ja (k + 1) jc)) 2 (.int .i64 gm)
              simp only [List.setIfInBounds_toArray, List.set_cons_zero, List.set_cons_succ] at hset
              have hS3 : Since (fun y => y = hb) X7 (((X7.setCell ⟨hb, 0, none⟩ (.slice none 0 0)).setCell ⟨hb, 1, none⟩ (.slice ja (k + 1) jc)).setCell ⟨hb, 2, none⟩ (.int .i64 gm)) := Since.setCell (p := ⟨hb, 2, none⟩) (Since.setCell (p := ⟨hb, 1, none⟩) (Since.setCell (F := fun y => y = hb) (p := ⟨hb, 0, none⟩) (Since.refl _ _) (.inl rfl) _) (.inl rfl) _) (.inl rfl) _
              have hrow := hS3.row hT5.out.row (fun y hy e => hm2 (by rw [← e]; exact hy))
              have hbel := hT5.out.below.trans (hS3.below hT5.out.below.size (fun y hy => by omega))
              go_wp2_with fail
              go_meet
              case rel => exact ⟨hb, ja, jc, by first | rfl | simp, hset, by rw [Hid, HIV.out]; exact hrow, hm3, hbel⟩
          · skip
            go_simp
            have hT2 := hT1.out.allocG
            refine hK.out _ _ (fun _ _ => hT2.below) ?_
            obtain ⟨hb, hhb⟩ : ∃ n, n = X2.heap.size := ⟨_, rfl⟩
            rw [← hhb] at hT2 ⊢
            clear hhb
            generalize World.alloc X2 _ = X8 at hT2 ⊢
            replace hT2 := Lib.hid hT2
            clear hK K
            refine wpAnyT_ready (rs := [9]) (by kernel_rfl) (by simp) ?_
            refine AllT.cons rfl (fun K hK => ?_) AllT.nil
            go_simp
            have hT3 := hT2.out.alloc (.int .i64 (tt : Int))
            refine hK.out _ _ (fun _ _ => hT3.below) ?_
            obtain ⟨nb, hnb⟩ : ∃ n, n = X8.heap.size := ⟨_, rfl⟩
            rw [← hnb] at hT3 ⊢
            clear hnb
            generalize World.alloc X8 _ = X9 at hT3 ⊢
            replace hT3 := Lib.hid hT3
            clear hK K
            refine wpAnyT_ready (rs := [10]) (by kernel_rfl) (by simp) ?_
            refine AllT.cons rfl (fun K hK => ?_) AllT.nil
            refine step_append_where_ X9 (by rfl) (.tmp 49) (.tmp 54) 23 rfl 3 (.int .i64 0) 1 8 Try.underlying23 int_info rfl (by decide) V0.heap.size (.slice ra k rc) k (initV g.initial) (by rfl) hT3.out.row ⟨nb, 0, none⟩ 1 1 [.int .i64 (tt : Int)] (by rfl) rfl (hT3.out.cell (by simp)) (by simp [Value.oneCell']) (by unfold maxLen; omega) (by omega) hT3.out.below.size ?_
            intro ja jc X10 e1 e2 e3 e4 e5
            have hT4 := Lib.hid (hT3.out.app e1 e4 e5)
            clear e1 e2 e3 e4 e5
            refine hK.out _ _ (fun _ _ => hT4.out.below) ?_
            clear hK K
            change wpAnyT _ _ _ _ _ _ _ _ (Act.put _ (some 55) _) _
            simp only [Act.put, List.setIfInBounds_toArray, List.set_cons_zero, List.set_cons_succ]
            refine wpAnyT_free (i := 11) (v := ?v511) rfl (by kernel_rfl) (by kernel_rfl) (by kernel_rfl) (by decide) (fun _ _ _ h => h) (Or.inl ⟨by rfl, ?hy511⟩) (fun _ => hT4.out.below) ?_
            case hy511 => (intro x' _; go_simp; try with_reducible rfl)
            change wpAnyT _ _ _ _ _ _ _ _ (Act.put _ (some 56) _) _
            simp only [Act.put, List.setIfInBounds_toArray, List.set_cons_zero, List.set_cons_succ]
            refine wpAnyT_ready (rs := [13]) (by kernel_rfl) (by simp) ?_
            refine AllT.cons rfl (fun K hK => ?_) AllT.nil
            obtain ⟨hm1, hm2, hm3⟩ := hT4.out.made hb (by simp)
            have d0 : X10.cell? ⟨hb, 0, none⟩ = some (.slice none 0 0) := cell_of_block hm1 0
            have f0 : X10.frozen? ⟨hb, 0, none⟩ = false := free_of_block hm1 0
            have d1 : X10.cell? ⟨hb, 1, none⟩ = some (.slice none 0 0) := cell_of_block hm1 1
            have f1 : X10.frozen? ⟨hb, 1, none⟩ = false := free_of_block hm1 1
            have d2 : X10.cell? ⟨hb, 2, none⟩ = some (.int .i64 0) := cell_of_block hm1 2
            have f2 : X10.frozen? ⟨hb, 2, none⟩ = false := free_of_block hm1 2
            clear hm1 hm2 hm3
            go_simp
            refine hK.out _ _ (fun h => absurd rfl h) ?_
            have hT5 := Lib.hid hT4.out
            clear hK K
            refine wpAnyT_done (by kernel_rfl) ?_ _
            refine NoPanic.normal ?_
            obtain ⟨hm1, hm2, hm3⟩ := hT5.out.made hb (by simp)
            have hset := set_of_block (set_of_block (set_of_block hm1 0 (.slice none 0 0)) 1 (.slice ja (k + 1) jc)) 2 (.int .i64 gm)
            simp only [List.setIfInBounds_toArray, List.set_cons_zero, List.set_cons_succ] at hset
            have hS3 : Since (fun y => y = hb) X10 (((X10.setCell ⟨hb, 0, none⟩ (.slice none 0 0)).setCell ⟨hb, 1, none⟩ (.slice ja (k + 1) jc)).setCell ⟨hb, 2, none⟩ (.int .i64 gm)) := Since.setCell (p := ⟨hb, 2, none⟩) (Since.setCell (p := ⟨hb, 1, none⟩) (Since.setCell (F := fun y => y = hb) (p := ⟨hb, 0, none⟩) (Since.refl _ _) (.inl rfl) _) (.inl rfl) _) (.inl rfl) _
            have hrow := hS3.row hT5.out.row (fun y hy e => hm2 (by rw [← e]; exact hy))
            have hbel := hT5.out.below.trans (hS3.below hT5.out.below.size (fun y hy => by omega))
            go_wp2_with fail
            go_meet
            case rel => exact ⟨hb, ja, jc, by first | rfl | simp, hset, by rw [Hid, HIV.out]; exact hrow, hm3, hbel⟩
        · skip
          go_simp
          have hT1 := hT0.out.alloc (.int .i64 (tt : Int))
          refine hK.out _ _ (fun _ _ => hT1.below) ?_
          obtain ⟨nb, hnb⟩ : ∃ n, n = V1.heap.size := ⟨_, rfl⟩
          rw [← hnb] at hT1 ⊢
          clear hnb
          generalize World.alloc V1 _ = X11 at hT1 ⊢
          replace hT1 := Lib.hid hT1
          clear hK K
          refine wpAnyT_ready (rs := [4, 12]) (by kernel_rfl) (by simp) ?_
          refine AllT.cons rfl (fun K hK => ?_) (AllT.cons rfl (fun K hK => ?_) AllT.nil)
          · skip
            refine step_append_where_ X11 (by rfl) (.const (.slice none 0 0)) (.tmp 48) 23 rfl 3 (.int .i64 0) 1 8 Try.underlying23 int_info rfl (by decide) V0.heap.size (.slice none 0 0) 0 [] (by rfl) hT1.out.row ⟨ib, io, none⟩ k ic (initV g.initial) (by rfl) hil (HIC.out X11 hT1.out.below) (fun u hu => by obtain ⟨b, -, rfl⟩ := List.mem_map.1 hu; rfl) (by unfold maxLen; omega) (by omega) hT1.out.below.size ?_
            intro ra rc X12 e1 e2 e3 e4 e5
            simp only [Nat.zero_add, List.nil_append] at e1 e5 ⊢
            have hT2 := Lib.hid (hT1.out.app e1 e4 e5)
            clear e1 e2 e3 e4 e5
            refine hK.out _ _ (fun _ _ => hT2.out.below) ?_
            clear hK K
            change wpAnyT _ _ _ _ _ _ _ _ (Act.put _ (some 49) _) _
            simp only [Act.put, List.setIfInBounds_toArray, List.set_cons_zero, List.set_cons_succ]
            refine wpAnyT_ready (rs := [10, 12]) (by kernel_rfl) (by simp) ?_
            refine AllT.cons rfl (fun K hK => ?_) (AllT.cons rfl (fun K hK => ?_) AllT.nil)
            · skip
              refine step_append_where_ X12 (by rfl) (.tmp 49) (.tmp 54) 23 rfl 3 (.int .i64 0) 1 8 Try.underlying23 int_info rfl (by decide) V0.heap.size (.slice ra k rc) k (initV g.initial) (by rfl) hT2.out.row ⟨nb, 0, none⟩ 1 1 [.int .i64 (tt : Int)] (by rfl) rfl (hT2.out.cell (by simp)) (by simp [Value.oneCell']) (by unfold maxLen; omega) (by omega) hT2.out.below.size ?_
              intro ja jc X13 e1 e2 e3 e4 e5
              have hT3 := Lib.hid (hT2.out.app e1 e4 e5)
              clear e1 e2 e3 e4 e5
              refine hK.out _ _ (fun _ _ => hT3.out.below) ?_
              clear hK K
              change wpAnyT _ _ _ _ _ _ _ _ (Act.put _ (some 55) _) _
              simp only [Act.put, List.setIfInBounds_toArray, List.set_cons_zero, List.set_cons_succ]
              refine wpAnyT_free (i := 11) (v := ?v512) rfl (by kernel_rfl) (by kernel_rfl) (by kernel_rfl) (by decide) (fun _ _ _ h => h) (Or.inl ⟨by rfl, ?hy512⟩) (fun _ => hT3.out.below) ?_
              case hy512 => (intro x' _; go_simp; try with_reducible rfl)
              change wpAnyT _ _ _ _ _ _ _ _ (Act.put _ (some 56) _) _
              simp only [Act.put, List.setIfInBounds_toArray, List.set_cons_zero, List.set_cons_succ]
              refine wpAnyT_ready (rs := [12]) (by kernel_rfl) (by simp) ?_
              refine AllT.cons rfl (fun K hK => ?_) AllT.nil
              go_simp
              have hT4 := hT3.out.allocG
              refine hK.out _ _ (fun _ _ => hT4.below) ?_
              obtain ⟨hb, hhb⟩ : ∃ n, n = X13.heap.size := ⟨_, rfl⟩
              rw [← hhb] at hT4 ⊢
              clear hhb
              generalize World.alloc X13 _ = X14 at hT4 ⊢
              replace hT4 := Lib.hid hT4
              clear hK K
              refine wpAnyT_ready (rs := [13]) (by kernel_rfl) (by simp) ?_
              refine AllT.cons rfl (fun K hK => ?_) AllT.nil
              obtain ⟨hm1, hm2, hm3⟩ := hT4.out.made hb (by simp)
              have d0 : X14.cell? ⟨hb, 0, none⟩ = some (.slice none 0 0) := cell_of_block hm1 0
              have f0 : X14.frozen? ⟨hb, 0, none⟩ = false := free_of_block hm1 0
              have d1 : X14.cell? ⟨hb, 1, none⟩ = some (.slice none 0 0) := cell_of_block hm1 1
              have f1 : X14.frozen? ⟨hb, 1, none⟩ = false := free_of_block hm1 1
              have d2 : X14.cell? ⟨hb, 2, none⟩ = some (.int .i64 0) := cell_of_block hm1 2
              have f2 : X14.frozen? ⟨hb, 2, none⟩ = false := free_of_block hm1 2
              clear hm1 hm2 hm3
              go_simp
              refine hK.out _ _ (fun h => absurd rfl h) ?_
              have hT5 := Lib.hid hT4.out
              clear hK K
              refine wpAnyT_done (by kernel_rfl) ?_ _
              refine NoPanic.normal ?_
              obtain ⟨hm1, hm2, hm3⟩ := hT5.out.made hb (by simp)
              have hset := set_of_block (set_of_block (set_of_block hm1 0 (.slice none 0 0)) 1 (.slice ja (k + 1) jc)) 2 (.int .i64 gm)
              simp only [List.setIfInBounds_toArray, List.set_cons_zero, List.set_cons_succ] at hset
              have hS3 : Since (fun y => y = hb) X14 (((X14.setCell ⟨hb, 0, none⟩ (.slice none 0 0)).setCell ⟨hb, 1, none⟩ (.slice ja (k + 1) jc)).setCell ⟨hb, 2, none⟩ (.int .i64 gm)) := Since.setCell (p := ⟨hb, 2, none⟩) (Since.setCell (p := ⟨hb, 1, none⟩) (Since.setCell (F := fun y => y = hb) (p := ⟨hb, 0, none⟩) (Since.refl _ _) (.inl rfl) _) (.inl rfl) _) (.inl rfl) _
              have hrow := hS3.row hT5.out.row (fun y hy e => hm2 (by rw [← e]; exact hy))
              have hbel := hT5.out.below.trans (hS3.below hT5.out.below.size (fun y hy => by omega))
              go_wp2_with fail
              go_meet
              case rel => exact ⟨hb, ja, jc, by first | rfl | simp, hset, by rw [Hid, HIV.out]; exact hrow, hm3, hbel⟩
            · skip
              go_simp
              have hT3 := hT2.out.allocG
              refine hK.out _ _ (fun _ _ => hT3.below) ?_
              obtain ⟨hb, hhb⟩ : ∃ n, n = X12.heap.size := ⟨_, rfl⟩
              rw [← hhb] at hT3 ⊢
              clear hhb
              generalize World.alloc X12 _ = X15 at hT3 ⊢
              replace hT3 := Lib.hid hT3
              clear hK K
              refine wpAnyT_ready (rs := [10]) (by kernel_rfl) (by simp) ?_
              refine AllT.cons rfl (fun K hK => ?_) AllT.nil
              refine step_append_where_ X15 (by rfl) (.tmp 49) (.tmp 54) 23 rfl 3 (.int .i64 0) 1 8 Try.underlying23 int_info rfl (by decide) V0.heap.size (.slice ra k rc) k (initV g.initial) (by rfl) hT3.out.row ⟨nb, 0, none⟩ 1 1 [.int .i64 (tt : Int)] (by rfl) rfl (hT3.out.cell (by simp)) (by simp [Value.oneCell']) (by unfold maxLen; omega) (by omega) hT3.out.below.size ?_
              intro ja jc X16 e1 e2 e3 e4 e5
              have hT4 := Lib.hid (hT3.out.app e1 e4 e5)
              clear e1 e2 e3 e4 e5
              refine hK.out _ _ (fun _ _ => hT4.out.below) ?_
              clear hK K
              change wpAnyT _ _ _ _ _ _ _ _ (Act.put _ (some 55) _) _
              simp only [Act.put, List.setIfInBounds_toArray, List.set_cons_zero, List.set_cons_succ]
              refine wpAnyT_free (i := 11) (v := ?v513) rfl (by kernel_rfl) (by kernel_rfl) (by kernel_rfl) (by decide) (fun _ _ _ h => h) (Or.inl ⟨by rfl, ?hy513⟩) (fun _ => hT4.out.below) ?_
              case hy513 => (intro x' _; go_simp; try with_reducible rfl)
              change wpAnyT _ _ _ _ _ _ _ _ (Act.put _ (some 56) _) _
              simp only [Act.put, List.setIfInBounds_toArray, List.set_cons_zero, List.set_cons_succ]
              refine wpAnyT_ready (rs := [13]) (by kernel_rfl) (by simp) ?_
              refine AllT.cons rfl (fun K hK => ?_) AllT.nil
              obtain ⟨hm1, hm2, hm3⟩ := hT4.out.made hb (by simp)
              have d0 : X16.cell? ⟨hb, 0, none⟩ = some (.slice none 0 0) := cell_of_block hm1 0
              have f0 : X16.frozen? ⟨hb, 0, none⟩ = false := free_of_block hm1 0
              have d1 : X16.cell? ⟨hb, 1, none⟩ = some (.slice none 0 0) := cell_of_block hm1 1
              have f1 : X16.frozen? ⟨hb, 1, none⟩ = false := free_of_block hm1 1
              have d2 : X16.cell? ⟨hb, 2, none⟩ = some (.int .i64 0) := cell_of_block hm1 2
              have f2 : X16.frozen? ⟨hb, 2, none⟩ = false := free_of_block hm1 2
              clear hm1 hm2 hm3
              go_simp
              refine hK.out _ _ (fun h => absurd rfl h) ?_
              have hT5 := Lib.hid hT4.out
              clear hK K
              refine wpAnyT_done (by kernel_rfl) ?_ _
              refine NoPanic.normal ?_
              obtain ⟨hm1, hm2, hm3⟩ := hT5.out.made hb (by simp)
              have hset := set_of_block (set_of_block (set_of_block hm1 0 (.slice none 0 0)) 1 (.slice ja (k + 1) jc)) 2 (.int .i64 gm)
              simp only [List.setIfInBounds_toArray, List.set_cons_zero, List.set_cons_succ] at hset
              have hS3 : Since (fun y => y = hb) X16 (((X16.setCell ⟨hb, 0, none⟩ (.slice none 0 0)).setCell ⟨hb, 1, none⟩ (.slice ja (k + 1) jc)).setCell ⟨hb, 2, none⟩ (.int .i64 gm)) := Since.setCell (p := ⟨hb, 2, none⟩) (Since.setCell (p := ⟨hb, 1, none⟩) (Since.setCell (F := fun y => y = hb) (p := ⟨hb, 0, none⟩) (Since.refl _ _) (.inl rfl) _) (.inl rfl) _) (.inl rfl) _
              have hrow := hS3.row hT5.out.row (fun y hy e => hm2 (by rw [← e]; exact hy))
              have hbel := hT5.out.below.trans (hS3.below hT5.out.below.size (fun y hy => by omega))
              go_wp2_with fail
              go_meet
              case rel => exact ⟨hb, ja, jc, by first | rfl | simp, hset, by rw [Hid, HIV.out]; exact hrow, hm3, hbel⟩
          · skip
            go_simp
            have hT2 := hT1.out.allocG
            refine hK.out _ _ (fun _ _ => hT2.below) ?_
            obtain ⟨hb, hhb⟩ : ∃ n, n = X11.heap.size := ⟨_, rfl⟩
            rw [← hhb] at hT2 ⊢
            clear hhb
            generalize World.alloc X11 _ = X17 at hT2 ⊢
            replace hT2 := Lib.hid hT2
            clear hK K
            refine wpAnyT_ready (rs := [4]) (by kernel_rfl) (by simp) ?_
            refine AllT.cons rfl (fun K hK => ?_) AllT.nil
            refine step_append_where_ X17 (by rfl) (.const (.slice none 0 0)) (.tmp 48) 23 rfl 3 (.int .i64 0) 1 8 Try.underlying23 int_info rfl (by decide) V0.heap.size (.slice none 0 0) 0 [] (by rfl) hT2.out.row ⟨ib, io, none⟩ k ic (initV g.initial) (by rfl) hil (HIC.out X17 hT2.out.below) (fun u hu => by obtain ⟨b, -, rfl⟩ := List.mem_map.1 hu; rfl) (by unfold maxLen; omega) (by omega) hT2.out.below.size ?_
            intro ra rc X18 e1 e2 e3 e4 e5
            simp only [Nat.zero_add, List.nil_append] at e1 e5 ⊢
            have hT3 := Lib.hid (hT2.out.app e1 e4 e5)
            clear e1 e2 e3 e4 e5
            refine hK.out _ _ (fun _ _ => hT3.out.below) ?_
            clear hK K
            change wpAnyT _ _ _ _ _ _ _ _ (Act.put _ (some 49) _) _
            simp only [Act.put, List.setIfInBounds_toArray, List.set_cons_zero, List.set_cons_succ]
            refine wpAnyT_ready (rs := [10]) (by kernel_rfl) (by simp) ?_
            refine AllT.cons rfl (fun K hK => ?_) AllT.nil
            refine step_append_where_ X18 (by rfl) (.tmp 49) (.tmp 54) 23 rfl 3 (.int .i64 0) 1 8 Try.underlying23 int_info rfl (by decide) V0.heap.size (.slice ra k rc) k (initV g.initial) (by rfl) hT3.out.row ⟨nb, 0, none⟩ 1 1 [.int .i64 (tt : Int)] (by rfl) rfl (hT3.out.cell (by simp)) (by simp [Value.oneCell']) (by unfold maxLen; omega) (by omega) hT3.out.below.size ?_
            intro ja jc X19 e1 e2 e3 e4 e5
            have hT4 := Lib.hid (hT3.out.app e1 e4 e5)
            clear e1 e2 e3 e4 e5
            refine hK.out _ _ (fun _ _ => hT4.out.below) ?_
            clear hK K
            change wpAnyT _ _ _ _ _ _ _ _ (Act.put _ (some 55) _) _
            simp only [Act.put, List.setIfInBounds_toArray, List.set_cons_zero, List.set_cons_succ]
            refine wpAnyT_free (i := 11) (v := ?v514) rfl (by kernel_rfl) (by kernel_rfl) (by kernel_rfl) (by decide) (fun _ _ _ h => h) (Or.inl ⟨by rfl, ?hy514⟩) (fun _ => hT4.out.below) ?_
            case hy514 => (intro x' _; go_simp; try with_reducible rfl)
            change wpAnyT _ _ _ _ _ _ _ _ (Act.put _ (some 56) _) _
            simp only [Act.put, List.setIfInBounds_toArray, List.set_cons_zero, List.set_cons_succ]
            refine wpAnyT_ready (rs := [13]) (by kernel_rfl) (by simp) ?_
            refine AllT.cons rfl (fun K hK => ?_) AllT.nil
            obtain ⟨hm1, hm2, hm3⟩ := hT4.out.made hb (by simp)
            have d0 : X19.cell? ⟨hb, 0, none⟩ = some (.slice none 0 0) := cell_of_block hm1 0
            have f0 : X19.frozen? ⟨hb, 0, none⟩ = false := free_of_block hm1 0
            have d1 : X19.cell? ⟨hb, 1, none⟩ = some (.slice none 0 0) := cell_of_block hm1 1
            have f1 : X19.frozen? ⟨hb, 1, none⟩ = false := free_of_block hm1 1
            have d2 : X19.cell? ⟨hb, 2, none⟩ = some (.int .i64 0) := cell_of_block hm1 2
            have f2 : X19.frozen? ⟨hb, 2, none⟩ = false := free_of_block hm1 2
            clear hm1 hm2 hm3
            go_simp
            refine hK.out _ _ (fun h => absurd rfl h) ?_
            have hT5 := Lib.hid hT4.out
            clear hK K
            refine wpAnyT_done (by kernel_rfl) ?_ _
            refine NoPanic.normal ?_
            obtain ⟨hm1, hm2, hm3⟩ := hT5.out.made hb (by simp)
            have hset := set_of_block (set_of_block (set_of_block hm1 0 (.slice none 0 0)) 1 (.slice ja (k + 1) jc)) 2 (.int .i64 gm)
            simp only [List.setIfInBounds_toArray, List.set_cons_zero, List.set_cons_succ] at hset
            have hS3 : Since (fun y => y = hb) X19 (((X19.setCell ⟨hb, 0, none⟩ (.slice none 0 0)).setCell ⟨hb, 1, none⟩ (.slice ja (k + 1) jc)).setCell ⟨hb, 2, none⟩ (.int .i64 gm)) := Since.setCell (p := ⟨hb, 2, none⟩) (Since.setCell (p := ⟨hb, 1, none⟩) (Since.setCell (F := fun y => y = hb) (p := ⟨hb, 0, none⟩) (Since.refl _ _) (.inl rfl) _) (.inl rfl) _) (.inl rfl) _
            have hrow := hS3.row hT5.out.row (fun y hy e => hm2 (by rw [← e]; exact hy))
            have hbel := hT5.out.below.trans (hS3.below hT5.out.below.size (fun y hy => by omega))
            go_wp2_with fail
            go_meet
            case rel => exact ⟨hb, ja, jc, by first | rfl | simp, hset, by rw [Hid, HIV.out]; exact hrow, hm3, hbel⟩
        · skip
          go_simp
          have hT1 := hT0.out.allocG
          refine hK.out _ _ (fun _ _ => hT1.below) ?_
          obtain ⟨hb, hhb⟩ : ∃ n, n = V1.heap.size := ⟨_, rfl⟩
          rw [← hhb] at hT1 ⊢
          clear hhb
          generalize World.alloc V1 _ = X20 at hT1 ⊢
          replace hT1 := Lib.hid hT1
          clear hK K
          refine wpAnyT_ready (rs := [4, 9]) (by kernel_rfl) (by simp) ?_
          refine AllT.cons rfl (fun K hK => ?_) (AllT.cons rfl (fun K hK => ?_) AllT.nil)
          · skip
            refine step_append_where_ X20 (by rfl) (.const (.slice none 0 0)) (.tmp 48) 23 rfl 3 (.int .i64 0) 1 8 Try.underlying23 int_info rfl (by decide) V0.heap.size (.slice none 0 0) 0 [] (by rfl) hT1.out.row ⟨ib, io, none⟩ k ic (initV g.initial) (by rfl) hil (HIC.out X20 hT1.out.below) (fun u hu => by obtain ⟨b, -, rfl⟩ := List.mem_map.1 hu; rfl) (by unfold maxLen; omega) (by omega) hT1.out.below.size ?_
            intro ra rc X21 e1 e2 e3 e4 e5
            simp only [Nat.zero_add, List.nil_append] at e1 e5 ⊢
            have hT2 := Lib.hid (hT1.out.app e1 e4 e5)
            clear e1 e2 e3 e4 e5
            refine hK.out _ _ (fun _ _ => hT2.out.below) ?_
            clear hK K
            change wpAnyT _ _ _ _ _ _ _ _ (Act.put _ (some 49) _) _
            simp only [Act.put, List.setIfInBounds_toArray, List.set_cons_zero, List.set_cons_succ]
            refine wpAnyT_ready (rs := [9]) (by kernel_rfl) (by simp) ?_
            refine AllT.cons rfl (fun K hK => ?_) AllT.nil
            go_simp
            have hT3 := hT2.out.alloc (.int .i64 (tt : Int))
            refine hK.out _ _ (fun _ _ => hT3.below) ?_
            obtain ⟨nb, hnb⟩ : ∃ n, n = X21.heap.size := ⟨_, rfl⟩
            rw [← hnb] at hT3 ⊢
            clear hnb
            generalize World.alloc X21 _ = X22 at hT3 ⊢
            replace hT3 := Lib.hid hT3
            clear hK K
            refine wpAnyT_ready (rs := [10]) (by kernel_rfl) (by simp) ?_
            refine AllT.cons rfl (fun K hK => ?_) AllT.nil
            refine step_append_where_ X22 (by rfl) (.tmp 49) (.tmp 54) 23 rfl 3 (.int .i64 0) 1 8 Try.underlying23 int_info rfl (by decide) V0.heap.size (.slice ra k rc) k (initV g.initial) (by rfl) hT3.out.row ⟨nb, 0, none⟩ 1 1 [.int .i64 (tt : Int)] (by rfl) rfl (hT3.out.cell (by simp)) (by simp [Value.oneCell']) (by unfold maxLen; omega) (by omega) hT3.out.below.size ?_
            intro ja jc X23 e1 e2 e3 e4 e5
            have hT4 := Lib.hid (hT3.out.app e1 e4 e5)
            clear e1 e2 e3 e4 e5
            refine hK.out _ _ (fun _ _ => hT4.out.below) ?_
            clear hK K
            change wpAnyT _ _ _ _ _ _ _ _ (Act.put _ (some 55) _) _
            simp only [Act.put, List.setIfInBounds_toArray, List.set_cons_zero, List.set_cons_succ]
            refine wpAnyT_free (i := 11) (v := ?v515) rfl (by kernel_rfl) (by kernel_rfl) (by kernel_rfl) (by decide) (fun _ _ _ h => h) (Or.inl ⟨by rfl, ?hy515⟩) (fun _ => hT4.out.below) ?_
            case hy515 => (intro x' _; go_simp; try with_reducible rfl)
            change wpAnyT _ _ _ _ _ _ _ _ (Act.put _ (some 56) _) _
            simp only [Act.put, List.setIfInBounds_toArray, List.set_cons_zero, List.set_cons_succ]
            refine wpAnyT_ready (rs := [13]) (by kernel_rfl) (by simp) ?_
            refine AllT.cons rfl (fun K hK => ?_) AllT.nil
            obtain ⟨hm1, hm2, hm3⟩ := hT4.out.made hb (by simp)
            have d0 : X23.cell? ⟨hb, 0, none⟩ = some (.slice none 0 0) := cell_of_block hm1 0
            have f0 : X23.frozen? ⟨hb, 0, none⟩ = false := free_of_block hm1 0
            have d1 : X23.cell? ⟨hb, 1, none⟩ = some (.slice none 0 0) := cell_of_block hm1 1
            have f1 : X23.frozen? ⟨hb, 1, none⟩ = false := free_of_block hm1 1
            have d2 : X23.cell? ⟨hb, 2, none⟩ = some (.int .i64 0) := cell_of_block hm1 2
            have f2 : X23.frozen? ⟨hb, 2, none⟩ = false := free_of_block hm1 2
            clear hm1 hm2 hm3
            go_simp
            refine hK.out _ _ (fun h => absurd rfl h) ?_
            have hT5 := Lib.hid hT4.out
            clear hK K
            refine wpAnyT_done (by kernel_rfl) ?_ _
            refine NoPanic.normal ?_
            obtain ⟨hm1, hm2, hm3⟩ := hT5.out.made hb (by simp)
            have hset := set_of_block (set_of_block (set_of_block hm1 0 (.slice none 0 0)) 1 (.slice ja (k + 1) jc)) 2 (.int .i64 gm)
            simp only [List.setIfInBounds_toArray, List.set_cons_zero, List.set_cons_succ] at hset
            have hS3 : Since (fun y => y = hb) X23 (((X23.setCell ⟨hb, 0, none⟩ (.slice none 0 0)).setCell ⟨hb, 1, none⟩ (.slice ja (k + 1) jc)).setCell ⟨hb, 2, none⟩ (.int .i64 gm)) := Since.setCell (p := ⟨hb, 2, none⟩) (Since.setCell (p := ⟨hb, 1, none⟩) (Since.setCell (F := fun y => y = hb) (p := ⟨hb, 0, none⟩) (Since.refl _ _) (.inl rfl) _) (.inl rfl) _) (.inl rfl) _
            have hrow := hS3.row hT5.out.row (fun y hy e => hm2 (by rw [← e]; exact hy))
            have hbel := hT5.out.below.trans (hS3.below hT5.out.below.size (fun y hy => by omega))
            go_wp2_with fail
            go_meet
            case rel => exact ⟨hb, ja, jc, by first | rfl | simp, hset, by rw [Hid, HIV.out]; exact hrow, hm3, hbel⟩
          · skip
            go_simp
            have hT2 := hT1.out.alloc (.int .i64 (tt : Int))
            refine hK.out _ _ (fun _ _ => hT2.below) ?_
            obtain ⟨nb, hnb⟩ : ∃ n, n = X20.heap.size := ⟨_, rfl⟩
            rw [← hnb] at hT2 ⊢
            clear hnb
            generalize World.alloc X20 _ = X24 at hT2 ⊢
            replace hT2 := Lib.hid hT2
            clear hK K
            refine wpAnyT_ready (rs := [4]) (by kernel_rfl) (by simp) ?_
            refine AllT.cons rfl (fun K hK => ?_) AllT.nil
            refine step_append_where_ X24 (by rfl) (.const (.slice none 0 0)) (.tmp 48) 23 rfl 3 (.int .i64 0) 1 8 Try.underlying23 int_info rfl (by decide) V0.heap.size (.slice none 0 0) 0 [] (by rfl) hT2.out.row ⟨ib, io, none⟩ k ic (initV g.initial) (by rfl) hil (HIC.out X24 hT2.out.below) (fun u hu => by obtain ⟨b, -, rfl⟩ := List.mem_map.1 hu; rfl) (by unfold maxLen; omega) (by omega) hT2.out.below.size ?_
            intro ra rc X25 e1 e2 e3 e4 e5
            simp only [Nat.zero_add, List.nil_append] at e1 e5 ⊢
            have hT3 := Lib.hid (hT2.out.app e1 e4 e5)
            clear e1 e2 e3 e4 e5
            refine hK.out _ _ (fun _ _ => hT3.out.below) ?_
            clear hK K
            change wpAnyT _ _ _ _ _ _ _ _ (Act.put _ (some 49) _) _
            simp only [Act.put, List.setIfInBounds_toArray, List.set_cons_zero, List.set_cons_succ]
            refine wpAnyT_ready (rs := [10]) (by kernel_rfl) (by simp) ?_
            refine AllT.cons rfl (fun K hK => ?_) AllT.nil
            refine step_append_where_ X25 (by rfl) (.tmp 49) (.tmp 54) 23 rfl 3 (.int .i64 0) 1 8 Try.underlying23 int_info rfl (by decide) V0.heap.size (.slice ra k rc) k (initV g.initial) (by rfl) hT3.out.row ⟨nb, 0, none⟩ 1 1 [.int .i64 (tt : Int)] (by rfl) rfl (hT3.out.cell (by simp)) (by simp [Value.oneCell']) (by unfold maxLen; omega) (by omega) hT3.out.below.size ?_
            intro ja jc X26 e1 e2 e3 e4 e5
            have hT4 := Lib.hid (hT3.out.app e1 e4 e5)
            clear e1 e2 e3 e4 e5
            refine hK.out _ _ (fun _ _ => hT4.out.below) ?_
            clear hK K
            change wpAnyT _ _ _ _ _ _ _ _ (Act.put _ (some 55) _) _
            simp only [Act.put, List.setIfInBounds_toArray, List.set_cons_zero, List.set_cons_succ]
            refine wpAnyT_free (i := 11) (v := ?v516) rfl (by kernel_rfl) (by kernel_rfl) (by kernel_rfl) (by decide) (fun _ _ _ h => h) (Or.inl ⟨by rfl, ?hy516⟩) (fun _ => hT4.out.below) ?_
            case hy516 => (intro x' _; go_simp; try with_reducible rfl)
            change wpAnyT _ _ _ _ _ _ _ _ (Act.put _ (some 56) _) _
            simp only [Act.put, List.setIfInBounds_toArray, List.set_cons_zero, List.set_cons_succ]
            refine wpAnyT_ready (rs := [13]) (by kernel_rfl) (by simp) ?_
            refine AllT.cons rfl (fun K hK => ?_) AllT.nil
            obtain ⟨hm1, hm2, hm3⟩ := hT4.out.made hb (by simp)
            have d0 : X26.cell? ⟨hb, 0, none⟩ = some (.slice none 0 0) := cell_of_block hm1 0
            have f0 : X26.frozen? ⟨hb, 0, none⟩ = false := free_of_block hm1 0
            have d1 : X26.cell? ⟨hb, 1, none⟩ = some (.slice none 0 0) := cell_of_block hm1 1
            have f1 : X26.frozen? ⟨hb, 1, none⟩ = false := free_of_block hm1 1
            have d2 : X26.cell? ⟨hb, 2, none⟩ = some (.int .i64 0) := cell_of_block hm1 2
            have f2 : X26.frozen? ⟨hb, 2, none⟩ = false := free_of_block hm1 2
            clear hm1 hm2 hm3
            go_simp
            refine hK.out _ _ (fun h => absurd rfl h) ?_
            have hT5 := Lib.hid hT4.out
            clear hK K
            refine wpAnyT_done (by kernel_rfl) ?_ _
            refine NoPanic.normal ?_
            obtain ⟨hm1, hm2, hm3⟩ := hT5.out.made hb (by simp)
            have hset := set_of_block (set_of_block (set_of_block hm1 0 (.slice none 0 0)) 1 (.slice ja (k + 1) jc)) 2 (.int .i64 gm)
            simp only [List.setIfInBounds_toArray, List.set_cons_zero, List.set_cons_succ] at hset
            have hS3 : Since (fun y => y = hb) X26 (((X26.setCell ⟨hb, 0, none⟩ (.slice none 0 0)).setCell ⟨hb, 1, none⟩ (.slice ja (k + 1) jc)).setCell ⟨hb, 2, none⟩ (.int .i64 gm)) := Since.setCell (p := ⟨hb, 2, none⟩) (Since.setCell (p := ⟨hb, 1, none⟩) (Since.setCell (F := fun y => y = hb) (p := ⟨hb, 0, none⟩) (Since.refl _ _) (.inl rfl) _) (.inl rfl) _) (.inl rfl) _
            have hrow := hS3.row hT5.out.row (fun y hy e => hm2 (by rw [← e]; exact hy))
            have hbel := hT5.out.below.trans (hS3.below hT5.out.below.size (fun y hy => by omega))
            go_wp2_with fail
            go_meet
            case rel => exact ⟨hb, ja, jc, by first | rfl | simp, hset, by rw [Hid, HIV.out]; exact hrow, hm3, hbel⟩
  case rest =>
    obtain ⟨hb, ja, jc, rfl, HHB, HROW, HHL, HBH⟩ := hcut
    obtain ⟨wh, rfl⟩ : ∃ wh : World, wh = wc := ⟨_, rfl⟩
    obtain ⟨af, haf⟩ : ∃ af, af = fr % n := ⟨_, rfl⟩
    have q1 : (fr : Int).tmod (n : Int) = (af : Int) := by rw [Int.tmod_eq_emod_of_nonneg (by omega), haf]; simp
    have q2 : (fr : Int) % (n : Int) = (af : Int) := by rw [haf]; simp
    have hnz : ¬ n = 0 := by omega
    have hwf := HWF.out
    clear haf
    obtain ⟨xs, hxs⟩ : ∃ xs, xs = initV (g.initial ++ [(tt : Int)]) := ⟨_, rfl⟩
    rw [← hxs] at HROW
    have HXS := Lib.hid hxs
    clear hxs
    obtain ⟨f, hf⟩ : ∃ f, f = moreE g af ⟨(tt : Int), (fr : Int)⟩ := ⟨_, rfl⟩
    have HFF := Lib.hid hf
    clear hf
    go_wp2_with fail
    go_loopg [20] n (fun gg s20 wr => ∃ (i : Nat) (ha : Option Addr) (hc : Nat) (cs : List Value), i ≤ n ∧ Hid (gg = n - i) ∧ s20 = .int .i64 i ∧ Hid (EdgesTo V0 wr hb i ha hc (.slice ja (k + 1) jc) (k + 1) xs gm cs f))
    case atStart => exact ⟨0, none, 0, [], Nat.zero_le _, rfl, rfl, ⟨HHB.out, World.ownsRow_nil _ _ _ _, fun j hj => by omega, HROW.out, HBH.out, HHL.out⟩⟩
    case round =>
      obtain ⟨i, ha, hc, cs, hi, HG, rfl, HET⟩ := hrel
      clear HHB HROW HBH
      obtain ⟨wo, rfl⟩ : ∃ wo : World, wo = wr := ⟨_, rfl⟩
      have HWO := Lib.hid (below_then HY.out HET.out.below)
      by_cases hin : i < n
      · have hinI : (i : Int) < (n : Int) := by omega
        obtain ⟨-, eb, eo, ka, kc, rfl, heb, hec, hel2⟩ := HE.out.part i (by rw [← HN.out]; exact hin)
        obtain ⟨ln, hln⟩ : ∃ ln, ln = (g.edges.getD i []).length := ⟨_, rfl⟩
        rw [← hln] at hec
        have hln20 : ln ≤ 20 := by rw [hln]; exact HM.out.short i
        have HLN2 := Lib.hid hln
        have HEL := Lib.hid (hel2.below HWO.out)
        obtain ⟨c0, -, -⟩ := HC.out wo HWO.out
        have c1 := cells_kept HWO.out _ _ hec
        clear hln hel2 heb hec
        go_upto_region 11 with fail
        go_cut [21] (fun s21 w' => ∃ (xa : Option Addr) (xc : Nat), s21 = .slice xa ln xc ∧ Hid (w'.ownsRow wo.heap.size 37 2 (.slice xa ln xc) ln (edgesV (g.edges.getD i []))) ∧ Hid (Below wo.heap.size wo w'))
        case first =>
          by_cases hl0 : ln = 0
          · have hnil : Hid (edgesV (g.edges.getD i []) = []) := by
              have h1 : (g.edges.getD i []).length = 0 := by rw [← HLN2.out]; exact hl0
              rw [Hid, List.eq_nil_of_length_eq_zero h1]; rfl
            subst hl0
            obtain ⟨i1, hi1, -, -, -⟩ := info_parts edge_info
            go_wp2_with (at_builtin; go_must (refine wpList_append_none _ rfl _ _ 29 rfl 37 i1 Try.underlying29 hi1 rfl ka kc rfl ?_))
            go_meet
            case rel => exact ⟨none, 0, rfl, by rw [Hid, hnil.out]; exact World.ownsRow_nil _ _ _ _, Below.refl _ _⟩
          · obtain ⟨-, kb, ko, hka, -, -, -⟩ := HEL.out.part 0 (by rw [← HLN2.out]; omega)
            subst hka
            have hce := edges_cells HEL.out
            have HCE := Lib.hid hce
            clear hce
            go_wp2_with (at_builtin; go_must (refine wpList_append_at_ _ rfl _ _ 29 rfl 37 (.agg #[.int .i64 0, .int .i64 0]) 2 16 Try.underlying29 edge_info rfl (by decide) wo.heap.size (.slice none 0 0) 0 [] rfl (World.ownsRow_nil _ _ _ _) ⟨kb, ko, none⟩ ln kc (edgesV (g.edges.getD i [])) rfl (by rw [edgesV_len, ← HLN2.out]) HCE.out (fun u hu => by obtain ⟨x, -, hx⟩ := List.mem_flatMap.1 hu; simp [EdgeD.cells] at hx; rcases hx with rfl | rfl <;> rfl) (by unfold maxLen; omega) (by omega) (Nat.le_refl _) ?_); intro xa xc X e1 e2 e3 e4 e5 e6; simp only [Nat.zero_add, List.nil_append] at e1 ⊢; have HE1 := Lib.hid e1; have HE4 : Hid (Below wo.heap.size wo X) := e4.below (Nat.le_refl _) (fun k hk => by have hk : (Value.slice none 0 0).ownBlock = some k := hk; simp [Value.ownBlock] at hk); clear e1 e2 e3 e4 e5 e6)
            go_meet
            case rel => exact ⟨xa, xc, rfl, HE1.out, HE4.out⟩
        case rest =>
          obtain ⟨xa, xc, rfl, HXR, HXB⟩ := hcut
          obtain ⟨W1, rfl⟩ : ∃ W1 : World, W1 = wc := ⟨_, rfl⟩
          clear c0 c1
          have hsV : V0.heap.size ≤ W1.heap.size := Nat.le_trans HET.out.below.size HXB.out.size
          by_cases hia : i = af
          · have hiaI : ((i : Int) == (af : Int)) = true := by simp [hia]
            have hiaB : (i == af) = true := by simp [hia]
            have HIA := Lib.hid hia
            clear hia
            go_upto_region 14 with (at_builtin; go_must (refine wpList_append_at_ _ rfl _ _ 29 rfl 37 (.agg #[.int .i64 0, .int .i64 0]) 2 16 Try.underlying29 edge_info rfl (by decide) wo.heap.size (.slice xa ln xc) ln (edgesV (g.edges.getD i [])) rfl (HXR.out.alloc _) ⟨W1.heap.size, 0, none⟩ 1 1 [.int .i64 (tt : Int), .int .i64 (fr : Int)] rfl rfl (two_new _ _ _ _) (by simp [Value.oneCell']) (by unfold maxLen; omega) (by omega) (by have := HXB.out.size; simp; omega) ?_); intro ya yc X e1 e2 e3 e4 e5 e6; have HE1 := Lib.hid e1; have HE4 : Hid (Below wo.heap.size wo X) := (HXB.out.alloc HXB.out.size _).trans (e4.below (by simp; have := HXB.out.size; omega) (fun k hk => (HXR.out.lt k hk).1)); clear e1 e2 e3 e4 e5 e6)
            have HFA : Hid (f i = g.edges.getD i [] ++ [(⟨(tt : Int), (fr : Int)⟩ : EdgeD)]) := by rw [Hid, HFF.out]; unfold moreE; rw [if_pos HIA.out]
            have HE1F : Hid (X.ownsRow wo.heap.size 37 2 (.slice ya (ln + 1) yc) (g.edges.getD i [] ++ [(⟨(tt : Int), (fr : Int)⟩ : EdgeD)]).length (edgesV (g.edges.getD i [] ++ [(⟨(tt : Int), (fr : Int)⟩ : EdgeD)]))) := by
              rw [Hid, edgesV_append, List.length_append, ← HLN2.out]; exact HE1.out
            have HP := Lib.hid (fun (o : Obj) (a' : Option Addr) (c' : Nat) (X5 : World) (ho : X5.ownsRow V0.heap.size 29 1 (.slice a' (i + 1) c') (i + 1) (cs ++ [.slice ya (ln + 1) yc])) (h4 : Since (fun k => (Value.slice ha i hc).ownBlock = some k) (X.alloc o) X5) => HET.out.push HE4.out (by rw [HFA.out]; exact row_mono HE1F.out HET.out.below.size) o ho h4)
            have c0 : X.cell? ⟨hb, 0, none⟩ = some (.slice ha i hc) := cells_kept HE4.out _ _ (cell_of_block HET.out.block 0)
            go_wp2_with (at_builtin; go_must (refine wpList_append_at_ _ rfl _ _ 22 rfl 29 (.slice none 0 0) 1 24 Try.underlying22 slice_info rfl (by decide) V0.heap.size (.slice ha i hc) i cs rfl ((row_below HET.out.row HE4.out).alloc _) ⟨X.heap.size, 0, none⟩ 1 1 [.slice ya (ln + 1) yc] rfl rfl (cell_one_new _ _ _) (by simp [Value.oneCell']) (by unfold maxLen; omega) (by omega) (by have h1 := HE4.out.size; have h2 := HET.out.below.size; simp; omega) ?_); intro a' c' X5 e1 e2 e3 e4 e5 e6; obtain ⟨p1, d1, f1⟩ := HP.out _ _ _ _ e1 e4; have HP1 := Lib.hid p1; clear e1 e2 e3 e4 e5 e6 p1 HP)
            go_roundg (n - (i + 1))
            case measure => rw [HG.out]; omega
            case rel => exact ⟨i + 1, _, _, _, by omega, rfl, by simp, HP1.out⟩
          · have hiaI : ((i : Int) == (af : Int)) = false := by rw [beq_eq_false_iff_ne]; omega
            have hiaB : (i == af) = false := by simp [hia]
            have HIA := Lib.hid hia
            clear hia
            have HFA : Hid (f i = g.edges.getD i []) := by rw [Hid, HFF.out]; unfold moreE; rw [if_neg HIA.out]
            have HE1F : Hid (W1.ownsRow wo.heap.size 37 2 (.slice xa ln xc) (g.edges.getD i []).length (edgesV (g.edges.getD i []))) := by rw [Hid, ← HLN2.out]; exact HXR.out
            go_upto_region 14 with fail
            have HP := Lib.hid (fun (o : Obj) (a' : Option Addr) (c' : Nat) (X5 : World) (ho : X5.ownsRow V0.heap.size 29 1 (.slice a' (i + 1) c') (i + 1) (cs ++ [.slice xa ln xc])) (h4 : Since (fun k => (Value.slice ha i hc).ownBlock = some k) (W1.alloc o) X5) => HET.out.push HXB.out (by rw [HFA.out]; exact row_mono HE1F.out HET.out.below.size) o ho h4)
            have c0 : W1.cell? ⟨hb, 0, none⟩ = some (.slice ha i hc) := cells_kept HXB.out _ _ (cell_of_block HET.out.block 0)
            go_wp2_with (at_builtin; go_must (refine wpList_append_at_ _ rfl _ _ 22 rfl 29 (.slice none 0 0) 1 24 Try.underlying22 slice_info rfl (by decide) V0.heap.size (.slice ha i hc) i cs rfl ((row_below HET.out.row HXB.out).alloc _) ⟨W1.heap.size, 0, none⟩ 1 1 [.slice xa ln xc] rfl rfl (cell_one_new _ _ _) (by simp [Value.oneCell']) (by unfold maxLen; omega) (by omega) (by have h1 := HXB.out.size; have h2 := HET.out.below.size; simp; omega) ?_); intro a' c' X5 e1 e2 e3 e4 e5 e6; obtain ⟨p1, d1, f1⟩ := HP.out _ _ _ _ e1 e4; have HP1 := Lib.hid p1; clear e1 e2 e3 e4 e5 e6 p1 HP)
            go_roundg (n - (i + 1))
            case measure => rw [HG.out]; omega
            case rel => exact ⟨i + 1, _, _, _, by omega, rfl, by simp, HP1.out⟩
      · obtain rfl : n = i := by omega
        have hlen : f = moreE g af ⟨(tt : Int), (fr : Int)⟩ := HFF.out
        have hi2 : NumsAt wo .i64 (.slice ja (k + 1) jc) (g.initial ++ [(tt : Int)]) := nums_of_row (B := V0.heap.size) (n := k + 1) (by have h1 := HET.out.init; rw [HXS.out] at h1; exact h1) (by omega) (fun x hx => by
          rcases List.mem_append.1 hx with h | h
          · have h1 := HM.out.initial x h
            rw [← HN.out] at h1; omega
          · simp at h; subst h; omega)
        have hgh : GraphAt wo (moreG g af tt ⟨(tt : Int), (fr : Int)⟩) (.slice ha n hc) (.slice ja (k + 1) jc) := ⟨by have h1 := HET.out.edges; rw [hlen] at h1; unfold moreG; rw [← HN.out]; exact h1, hi2⟩
        have hed : 0 ≤ (⟨(tt : Int), (fr : Int)⟩ : EdgeD).to ∧ (⟨(tt : Int), (fr : Int)⟩ : EdgeD).to < (g.edges.length : Int) ∧ 0 ≤ (⟨(tt : Int), (fr : Int)⟩ : EdgeD).marks ∧ (⟨(tt : Int), (fr : Int)⟩ : EdgeD).marks ≤ 255 := by rw [← HN.out]; simp only []; omega
        have hhv : graphV (moreG g af tt ⟨(tt : Int), (fr : Int)⟩) (.slice ha n hc) (.slice ja (k + 1) jc) = .agg #[.slice ha n hc, .slice ja (k + 1) jc, .int .i64 gm] := by unfold graphV moreG; rw [HGM.out]
        have hrh := moreG_right (a := af) (t := tt) HM.out (by rw [← HN.out]; exact htn) hed
        have hf2 := (find_any wo (moreG g af tt ⟨(tt : Int), (fr : Int)⟩) _ _ hgh (moreG_fits HM.out hed) (.inl (by rw [moreG_len, ← HN.out]; omega))).mono fun e w' h => FindTold.of hrh h
        rw [hhv] at hf2
        have HF2 := Lib.hid hf2
        clear hf2 hrh hhv hed hgh hi2 hlen
        have b0 : wo.cell? ⟨hb, 0, none⟩ = some (.slice ha n hc) := cell_of_block HET.out.block 0
        have b1 : wo.cell? ⟨hb, 1, none⟩ = some (.slice ja (k + 1) jc) := cell_of_block HET.out.block 1
        have b2 : wo.cell? ⟨hb, 2, none⟩ = some (.int .i64 gm) := cell_of_block HET.out.block 2
        go_upto_region 15 with fail
        go_wp2_with fail
        refine HF2.out.mono ?_
        rintro e X ⟨na2, fa2, nl2, nc2, fl2, fc2, bk2, so, rfl, hso, hbx⟩
        have HSO := Lib.hid hso
        have HX2 := Lib.hid (below_then HWO.out (below_then hbx ((Below.refl X.heap.size X).alloc (Nat.le_refl _) (.cells #[.slice na2 nl2 nc2, .slice fa2 fl2 fc2, .int .i64 bk2] 27))))
        clear hso hbx b0 b1 b2 HET
        go_upto_region 16 with fail
        generalize World.alloc X _ = X2 at HX2 ⊢
        have hgb2 := (HX2.out.block gx (lt_of_block HGB.out)).trans HGB.out
        have c2 : X2.cell? ⟨gx, 2, none⟩ = some (.int .i64 gm) := cell_of_block hgb2 2
        have f2 : X2.frozen? ⟨gx, 2, none⟩ = false := free_of_block hgb2 2
        have hset := set_of_block hgb2 2 (.int .i64 (gm + 1))
        simp only [List.setIfInBounds_toArray, List.set_cons_zero, List.set_cons_succ] at hset
        have HSET := Lib.hid hset
        have HX3 : Hid (Below w3.heap.size w3 (X2.setCell ⟨gx, 2, none⟩ (.int .i64 (gm + 1)))) := (HA.out.trans (HX2.out.mono HA.out.size)).trans ((Since.setCell (F := fun y => y = gx) (p := ⟨gx, 2, none⟩) (Since.refl _ X2) (.inl rfl) _).below (Nat.le_trans HA.out.size HX2.out.size) (fun y hy => by have := HGX.out; omega))
        have hwg : wrap64 (gm + 1) = gm + 1 := by unfold wrap64; omega
        clear hset hgb2
        go_upto_region 17 with fail
        clear c2 f2 hwg
        generalize World.setCell X2 _ _ = X3 at HSET HX3 ⊢
        have b0 : X3.cell? ⟨gx, 0, none⟩ = some (.slice ea n ec) := cell_of_block HSET.out 0
        have b1 : X3.cell? ⟨gx, 1, none⟩ = some (.slice ia k ic) := cell_of_block HSET.out 1
        have b2 : X3.cell? ⟨gx, 2, none⟩ = some (.int .i64 (gm + 1)) := cell_of_block HSET.out 2
        go_wp2_with fail
        refine (HF3.out X3 HX3.out).mono ?_
        rintro e X4 ⟨na3, fa3, nl3, nc3, fl3, fc3, bk3, less, rfl, hle, hbx⟩
        have HLE := Lib.hid hle
        have HX5 := Lib.hid (below_then HX3.out (below_then hbx ((Below.refl X4.heap.size X4).alloc (Nat.le_refl _) (.cells #[.slice na3 nl3 nc3, .slice fa3 fl3 fc3, .int .i64 bk3] 27))))
        clear hle hbx b0 b1 b2
        go_upto_region 18 with fail
        generalize World.alloc X4 _ = X5 at HX5 ⊢
        have hfin := Lib.hid ((HB3.out.trans (HX5.out.mono HB3.out.size)))
        have k1 : is_ = true → so = true := fun h => HSO.out.2 (moreG_hasL (HIS.out.1 h))
        have k2 : less = true → is_ = true := fun h => HIS.out.2 (markG_hasL (by have := HM.out.marks; omega) (HLE.out.1 h))
        cases is_ with
        | true =>
          obtain rfl := k1 rfl
          clear k1 k2
          cases less <;> (go_wp2_with fail; go_ret; exact ⟨by first | rfl | simp, hfin.out⟩)
        | false =>
          cases less with
          | true => exact absurd (k2 rfl) (by decide)
          | false =>
            clear k1 k2
            cases so <;> (go_wp2_with fail; go_ret; exact ⟨by first | rfl | simp, hfin.out⟩)
end Go.Proofs.Ytoojalcfojflhaa
