/- Whether nodes and edges by numbers are a lasso: the walk. -/
import Derived.Test.YtoojalcfojflhaaMadeL
import Derived.Deep.CutBlock
namespace Go.Proofs.Ytoojalcfojflhaa
open Go.RowKit

def intsV (l : List Int) : List Value := l.map (Value.int .i64)
theorem wrap_small (x : Int) (h : -1000000 ≤ x ∧ x ≤ 1000000) : wrap64 x = x := by unfold wrap64; omega
def smallL (l : List Int) : Prop := ∀ x ∈ l, -1000000 ≤ x ∧ x ≤ 1000000
theorem nums_small {w : World} {B n cap : Nat} {a : Option Addr} {xs : List Int} (h : w.ownsRow B 3 1 (.slice a n cap) n (intsV xs)) (hn : n ≤ 100000000) (hw : smallL xs) : NumsAt w .i64 (.slice a n cap) xs := by
  have hl : xs.length = n := by have := h.1; simpa [intsV] using this
  refine ⟨a, cap, by rw [hl], by omega, fun x hx => ?_, fun j hj => ?_⟩
  · obtain ⟨h1, h2⟩ := hw x hx
    simp [Lit.wf, IntKind.min, IntKind.max, IntKind.signed, IntKind.bits]
    omega
  · obtain ⟨g, cap', he, -, -⟩ := row_some h (by omega)
    cases he
    have hc := World.ownsRow.cellAt h j (by omega)
    have hx : xs[j]? = some xs[j] := List.getElem?_eq_getElem hj
    unfold intsV at hc
    rw [List.getElem?_map, hx] at hc
    refine ⟨g, 0, rfl, World.block_lt_of_cell? w _ hc, ?_⟩
    rw [Nat.zero_add, hc, List.getD_eq_getElem?_getD, hx]; rfl
/-- The lasso that is built. -/
structure LasSt (V wr : World) (lx q : Nat) (na fa : Option Addr) (nc fc : Nat) (xs ys : List Int) (bk : Int) : Prop where
  block : wr.heap[lx]? = some (.cells #[.slice na q nc, .slice fa q fc, .int .i64 bk] 27 (0, 0))
  r1 : wr.ownsRow V.heap.size 3 1 (.slice na q nc) q (intsV xs)
  r2 : wr.ownsRow V.heap.size 3 1 (.slice fa q fc) q (intsV ys)
  dis : ∀ y, (Value.slice na q nc).ownBlock = some y → (Value.slice fa q fc).ownBlock ≠ some y
  since : Since (fun y => y = lx) V wr
  small : smallL xs ∧ smallL ys
  lt : lx < V.heap.size
theorem LasSt.len {V wr : World} {lx q : Nat} {na fa : Option Addr} {nc fc : Nat} {xs ys : List Int} {bk : Int} (h : LasSt V wr lx q na fa nc fc xs ys bk) : xs.length = q ∧ ys.length = q := by
  have h1 := h.r1.1
  have h2 := h.r2.1
  simp [intsV] at h1 h2
  exact ⟨h1, h2⟩
theorem LasSt.setBack {V wr : World} {lx q : Nat} {na fa : Option Addr} {nc fc : Nat} {xs ys : List Int} {bk : Int} (h : LasSt V wr lx q na fa nc fc xs ys bk) (bk' : Int) : LasSt V (wr.setCell ⟨lx, 2, none⟩ (.int .i64 bk')) lx q na fa nc fc xs ys bk' := by
  have hS : Since (fun y => y = lx) wr (wr.setCell ⟨lx, 2, none⟩ (.int .i64 bk')) := Since.setCell (F := fun y => y = lx) (p := ⟨lx, 2, none⟩) (Since.refl _ wr) (.inl rfl) _
  have hlt := h.lt
  refine ⟨by rw [set_of_block h.block]; simp, hS.row h.r1 (fun y hy e => by have := (h.r1.lt y hy).1; omega), hS.row h.r2 (fun y hy e => by have := (h.r2.lt y hy).1; omega), h.dis, h.since.trans hS (fun y hy => .inl hy), h.small, h.lt⟩
theorem LasSt.drewN {V wr : World} {lx q : Nat} {na fa : Option Addr} {nc fc : Nat} {xs ys : List Int} {bk : Int} (h : LasSt V wr lx q na fa nc fc xs ys bk) (k : Nat) : LasSt V (wr.drewN k) lx q na fa nc fc xs ys bk :=
  ⟨h.block, (Since.drewN (fun _ => False) k (Since.refl _ wr)).row h.r1 (fun _ _ h => h), (Since.drewN (fun _ => False) k (Since.refl _ wr)).row h.r2 (fun _ _ h => h), h.dis, h.since.drewN _ k, h.small, h.lt⟩
theorem LasSt.step {V w0 X : World} {lx q : Nat} {na fa na' fa' : Option Addr} {nc fc nc' fc' : Nat} {xs ys : List Int} {bk p1 p2 : Int} {bs : List (Nat × Value)} (h : LasSt V w0 lx q na fa nc fc xs ys bk)
    (hT : Two w0 X V.heap.size (.slice na q nc) (.slice fa q fc) (.slice na' (q + 1) nc') (q + 1) (intsV xs ++ [.int .i64 p1]) (.slice fa' (q + 1) fc') (q + 1) (intsV ys ++ [.int .i64 p2]) bs) (h1 : -1000000 ≤ p1 ∧ p1 ≤ 1000000) (h2 : -1000000 ≤ p2 ∧ p2 ≤ 1000000) :
    LasSt V ((X.setCell ⟨lx, 0, none⟩ (.slice na' (q + 1) nc')).setCell ⟨lx, 1, none⟩ (.slice fa' (q + 1) fc')) lx (q + 1) na' fa' nc' fc' (xs ++ [p1]) (ys ++ [p2]) bk := by
  have hlt := h.lt
  have e1 : ∀ y, (Value.slice na q nc).ownBlock = some y → V.heap.size ≤ y := fun y hy => (h.r1.lt y hy).1
  have e2 : ∀ y, (Value.slice fa q fc).ownBlock = some y → V.heap.size ≤ y := fun y hy => (h.r2.lt y hy).1
  have hbX : X.heap[lx]? = _ := (hT.since.block lx (lt_of_block h.block) (fun e => by
    rcases e with e | e
    · have := e1 _ e; omega
    · have := e2 _ e; omega)).trans h.block
  have hS : Since (fun x => x = lx) X ((X.setCell ⟨lx, 0, none⟩ (.slice na' (q + 1) nc')).setCell ⟨lx, 1, none⟩ (.slice fa' (q + 1) fc')) := Since.setCell (p := ⟨lx, 1, none⟩) (Since.setCell (F := fun x => x = lx) (p := ⟨lx, 0, none⟩) (Since.refl _ X) (.inl rfl) _) (.inl rfl) _
  have v1 : intsV (xs ++ [p1]) = intsV xs ++ [.int .i64 p1] := by simp [intsV]
  have v2 : intsV (ys ++ [p2]) = intsV ys ++ [.int .i64 p2] := by simp [intsV]
  refine ⟨by rw [set_of_block (set_of_block hbX _ _) _ _]; simp, by rw [v1]; exact hS.row hT.r1 (fun y hy e => by have := (hT.r1.lt y hy).1; omega), by rw [v2]; exact hS.row hT.r2 (fun y hy e => by have := (hT.r2.lt y hy).1; omega), hT.dis, ?_, ⟨fun x hx => ?_, fun x hx => ?_⟩, h.lt⟩
  · refine (h.since.trans hT.since (fun y hy => .inr ?_)).trans hS (fun y hy => .inl hy)
    rcases hy with e | e
    · exact e1 y e
    · exact e2 y e
  · rcases List.mem_append.1 hx with e | e
    · exact h.small.1 x e
    · simp at e; subst e; exact h1
  · rcases List.mem_append.1 hx with e | e
    · exact h.small.2 x e
    · simp at e; subst e; exact h2
/-- A number is another. -/
theorem LasSt.setNode {V wr : World} {lx q : Nat} {g nc fc : Nat} {fa : Option Addr} {xs ys : List Int} {bk : Int} (h : LasSt V wr lx q (some ⟨g, 0, none⟩) fa nc fc xs ys bk) {j : Nat} (_hj : j < q) {v : Int} (hv : -1000000 ≤ v ∧ v ≤ 1000000) :
    LasSt V (wr.setCell ⟨g, j, none⟩ (.int .i64 v)) lx q (some ⟨g, 0, none⟩) fa nc fc (xs.set j v) ys bk := by
  have hlt := h.lt
  have hgb := (h.r1.lt g rfl).1
  have hgf : ∀ y, (Value.slice fa q fc).ownBlock = some y → y ≠ g := fun y hy e => h.dis g rfl (e ▸ hy)
  have hS : Since (fun y => y = g) wr (wr.setCell ⟨g, j, none⟩ (.int .i64 v)) := Since.setCell (F := fun y => y = g) (p := ⟨g, j, none⟩) (Since.refl _ wr) (.inl rfl) _
  refine ⟨(hS.block lx (lt_of_block h.block) (by omega)).trans h.block, ?_, hS.row h.r2 hgf, h.dis, h.since.trans hS (fun y hy => .inr (by omega)), ⟨fun x hx => ?_, h.small.2⟩, h.lt⟩
  · rcases h.r1.2 with ⟨he, _⟩ | ⟨g', cap', cur, he, hb, hg, h1, h2, h3, h4⟩
    · cases he
    · cases he
      refine ⟨by have := h.r1.1; simpa [intsV] using this, .inr ⟨g, nc, _, rfl, hb, set_of_block hg _ _, h1, h2, by simpa using h3, ?_⟩⟩
      have hlen := h.len.1
      apply List.ext_getElem?
      intro i
      unfold intsV
      rw [List.getElem?_map]
      by_cases hi : i < q
      · rw [List.getElem?_take_of_lt (by omega), Array.getElem?_toList, Array.getElem?_setIfInBounds]
        have hold : cur[i]? = (xs[i]?).map (Value.int .i64) := by
          have h5 : (cur.toList.take (q * 1))[i]? = (intsV xs)[i]? := by rw [h4]
          rw [List.getElem?_take_of_lt (by omega), Array.getElem?_toList] at h5
          unfold intsV at h5
          rw [List.getElem?_map] at h5
          exact h5
        by_cases e : j = i
        · subst e
          rw [if_pos rfl, if_pos (by omega), List.getElem?_set_self (by omega)]; rfl
        · rw [if_neg e, List.getElem?_set_ne e, hold]
      · rw [List.getElem?_eq_none (by simp; omega), List.getElem?_eq_none (by simp; omega)]; rfl
  · rcases List.mem_or_eq_of_mem_set hx with h5 | h5
    · exact h.small.1 x h5
    · subst h5; exact hv
set_option maxRecDepth 100000 in
set_option maxHeartbeats 4000000 in
theorem lassoAcceptL_any (w : World) (sv : Value) (l : List Int) (hl : NumsAt w .u16 sv l) (many : Int) (w1 : (Lit.int .u8 many).wf = true) (marks : Int) (w2 : (Lit.int .u8 marks).wf = true) (stv : Value) (sl : List Int) (hs : NumsAt w .u8 stv sl) (back : Int) (w4 : (Lit.int .u8 back).wf = true) (spoilt : Int) (w5 : (Lit.int .u8 spoilt).wf = true) :
    Calls Try.prog 5 #[sv, .int .u8 many, .int .u8 marks, stv, .int .u8 back, .int .u8 spoilt] w fun e w' => e = .returned (.bool true) ∧ Below w.heap.size w w' := by
  obtain ⟨ta, tc, rfl, htl⟩ := hs.slice
  have h4 : 0 ≤ back ∧ back ≤ 255 := by
    simp [Lit.wf, IntKind.min, IntKind.max, IntKind.signed, IntKind.bits] at w4
    omega
  have h5 : 0 ≤ spoilt ∧ spoilt ≤ 255 := by
    simp [Lit.wf, IntKind.min, IntKind.max, IntKind.signed, IntKind.bits] at w5
    omega
  obtain ⟨back, rfl⟩ : ∃ x : Nat, back = (x : Int) := ⟨back.toNat, by omega⟩
  obtain ⟨spoilt, rfl⟩ : ∃ x : Nat, spoilt = (x : Int) := ⟨spoilt.toNat, by omega⟩
  have h233 : -1000000 ≤ (spoilt : Int) - 233 ∧ (spoilt : Int) - 233 ≤ 1000000 := by omega
  have w233 := wrap_small _ h233
  have HSP := Lib.hid h233
  have HSW := Lib.hid w233
  clear h233 w233
  obtain ⟨tl, htl2⟩ : ∃ tl, tl = sl.length := ⟨_, rfl⟩
  rw [← htl2] at htl hs ⊢
  have hmade := madeL_any w sv l hl many marks 255 w1 w2 (by decide)
  have HMADE := Lib.hid hmade
  have HST := Lib.hid hs
  have HTL := Lib.hid htl2
  clear hmade hs hl w1 w2 w4 w5 htl2
  go_enter Try.func5, Try.ntmps5
  go_wp2_with fail
  refine HMADE.out.mono ?_
  rintro e wm ⟨g, ev, iv, rfl, hg, hm, hb1⟩
  obtain ⟨ea, ec, rfl, hel⟩ := hg.edges.slice
  obtain ⟨ia, ic, rfl, hil⟩ := hg.initial.slice
  obtain ⟨n, hn⟩ : ∃ n, n = g.edges.length := ⟨_, rfl⟩
  obtain ⟨gi, hgi⟩ : ∃ gi, gi = g.initial.length := ⟨_, rfl⟩
  obtain ⟨gm, hgm⟩ : ∃ gm, gm = g.marks := ⟨_, rfl⟩
  unfold graphV
  rw [← hn] at hg hel
  rw [← hgi] at hg hil
  rw [← hn, ← hgi, ← hgm]
  have hn1 : 1 ≤ n := by rw [hn]; exact hm.pos
  have hn2 : n ≤ 7 := by rw [hn]; exact hm.few
  have hx := boxes_below wm (.cells #[.slice ea n ec, .slice ia gi ic, .int .i64 gm] 25) (.cells #[.slice none 0 0, .slice none 0 0, .int .i64 0] 27)
  have HGX := Lib.hid (boxes_first wm (.cells #[.slice ea n ec, .slice ia gi ic, .int .i64 gm] 25) (.cells #[.slice none 0 0, .slice none 0 0, .int .i64 0] 27))
  have hlx := boxes_second wm (.cells #[.slice ea n ec, .slice ia gi ic, .int .i64 gm] 25) (.cells #[.slice none 0 0, .slice none 0 0, .int .i64 0] 27)
  have HG := Lib.hid hg
  have HST1 := Lib.hid (HST.out.below hb1)
  have HX := Lib.hid hx
  have HB := Lib.hid (below_then hb1 hx)
  have HBM : Hid (w.heap.size ≤ wm.heap.size) := hb1.size
  have HM := Lib.hid hm
  have HN := Lib.hid hn
  have HGI := Lib.hid hgi
  have HGM := Lib.hid hgm
  have h0 := fun (V : World) (hV : V = (wm.alloc (.cells #[.slice ea n ec, .slice ia gi ic, .int .i64 gm] 25)).alloc (.cells #[.slice none 0 0, .slice none 0 0, .int .i64 0] 27)) => (show LasSt V V (wm.heap.size + 1) 0 none none 0 0 [] [] 0 from by subst hV; exact ⟨hlx, World.ownsRow_nil _ _ _ _, World.ownsRow_nil _ _ _ _, by simp [Value.ownBlock], Since.refl _ _, ⟨by simp [smallL], by simp [smallL]⟩, lt_of_block hlx⟩)
  clear hg hx hb1 hm hn hgi hgm HST HMADE hlx
  go_upto_region 3 with fail
  obtain ⟨V, hV⟩ : ∃ V, V = (wm.alloc (.cells #[.slice ea n ec, .slice ia gi ic, .int .i64 gm] 25)).alloc (.cells #[.slice none 0 0, .slice none 0 0, .int .i64 0] 27) := ⟨_, rfl⟩
  have H0 := Lib.hid (h0 V hV)
  rw [← hV] at HGX HX HB ⊢
  clear h0 hV
  obtain ⟨gx, hgx⟩ : ∃ gx, gx = wm.heap.size := ⟨_, rfl⟩
  rw [← hgx] at HGX H0 ⊢
  have HGXW := Lib.hid hgx
  clear hgx
  have c0 := cell_of_block HGX.out 0
  have c1 := cell_of_block HGX.out 1
  have c2 := cell_of_block HGX.out 2
  simp only [List.getElem?_toArray, List.getElem?_cons_zero, List.getElem?_cons_succ] at c0 c1 c2
  obtain ⟨a0, ha0⟩ : ∃ a0, a0 = spoilt % n := ⟨_, rfl⟩
  have ha0n : a0 < n := by rw [ha0]; exact Nat.mod_lt _ (by omega)
  have m1 : (spoilt : Int) % (n : Int) = (a0 : Int) := by rw [ha0]; simp
  have m2 : (spoilt : Int).tmod (n : Int) = (a0 : Int) := by rw [Int.tmod_eq_emod_of_nonneg (by omega)]; exact m1
  have hnz : ¬ n = 0 := by omega
  clear ha0
  go_upto_block 0 with fail
  have C0 := Lib.hid c0
  clear m1 m2 c0 c1 c2
  go_cut [15, 16] (fun s15 _s16 w' => ∃ (at_ q : Nat) (na fa : Option Addr) (nc fc : Nat) (xs ys : List Int), s15 = .int .i64 at_ ∧ at_ < n ∧ q ≤ 12 ∧ Hid (LasSt V w' (gx + 1) q na fa nc fc xs ys 0))
  case first =>
    go_wp2_with fail
    go_loopg [15, 16] 12 (fun gg s15 s16 wr => ∃ (j at_ q : Nat) (na fa : Option Addr) (nc fc : Nat) (xs ys : List Int), j ≤ 12 ∧ j ≤ tl ∧ q ≤ j ∧ Hid (gg = 12 - j) ∧ s15 = .int .i64 at_ ∧ s16 = .int .i64 j ∧ at_ < n ∧ Hid (LasSt V wr (gx + 1) q na fa nc fc xs ys 0))
    case atStart => exact ⟨0, a0, 0, none, none, 0, 0, [], [], by omega, Nat.zero_le _, Nat.le_refl _, rfl, rfl, rfl, ha0n, H0.out⟩
    case round =>
      obtain ⟨j, at_, q, na, fa, nc, fc, xs, ys, hj12, hjt, hqj, HGG, rfl, rfl, hat, HL⟩ := hrel
      have hgx := (HL.out.since.block gx (lt_of_block HGX.out) (by omega)).trans HGX.out
      have c0 := cell_of_block hgx 0
      simp only [List.getElem?_toArray, List.getElem?_cons_zero] at c0
      have hbr : Below wm.heap.size wm wr := HX.out.trans (HL.out.since.below HX.out.size (fun y hy => by have := HGXW.out; omega))
      have hatI : (at_ : Int) < (n : Int) := by omega
      obtain ⟨-, eb, eo, ka, kc, rfl, heb, he1, he2⟩ := HG.out.edges.part at_ (by rw [← HN.out]; exact hat)
      obtain ⟨en, hen⟩ : ∃ en, en = (g.edges.getD at_ []).length := ⟨_, rfl⟩
      rw [← hen] at he1 he2
      have hlb : en ≤ 20 := by rw [hen]; exact HM.out.short at_
      have HEL := Lib.hid he2
      have HEN := Lib.hid hen
      have HBR := Lib.hid hbr
      have HEBX : Hid (eb ≠ gx + 1) := by have h2 := HGXW.out; rw [Hid]; omega
      have HEB8 : Hid (eb < V.heap.size) := Nat.lt_of_lt_of_le heb HX.out.size
      replace he1 := cells_kept hbr _ _ he1
      have HGX2 := Lib.hid hgx
      clear he2 hen hbr hgx heb
      by_cases b1 : j < tl
      · have b1I : (j : Int) < (tl : Int) := by omega
        have e1 : decide ((j : Int) < (tl : Int)) = true := by simp; omega
        have e1n : decide (j < tl) = true := by simp; omega
        by_cases b2 : j < 12
        · have b2I : (j : Int) < 12 := by omega
          have e2 : decide ((j : Int) < 12) = true := by simp; omega
          by_cases b3 : 0 < en
          · as_aux_lemma =>
              have b3I : (0 : Int) < (en : Int) := by omega
              have e3 : decide ((0 : Int) < (en : Int)) = true := by simp; omega
              have e3n : decide (0 < en) = true := by simp; omega
              obtain ⟨-, xb, xo, rfl, hxb, hxc, hxw⟩ := HST1.out.part j (by rw [← HTL.out]; exact b1)
              obtain ⟨xv, hxv⟩ : ∃ xv, xv = sl.getD j 0 := ⟨_, rfl⟩
              rw [← hxv] at hxc hxw
              clear hxv
              have hx0 : 0 ≤ xv ∧ xv ≤ 255 := by
                simp [Lit.wf, IntKind.min, IntKind.max, IntKind.signed, IntKind.bits] at hxw
                omega
              obtain ⟨x, rfl⟩ : ∃ x : Nat, xv = (x : Int) := ⟨xv.toNat, by omega⟩
              replace hxc := cells_kept HBR.out _ _ hxc
              obtain ⟨k, hk⟩ : ∃ k, k = x % en := ⟨_, rfl⟩
              have hke : k < en := by rw [hk]; exact Nat.mod_lt _ b3
              have m1 : (x : Int) % (en : Int) = (k : Int) := by rw [hk]; simp
              have m2 : (x : Int).tmod (en : Int) = (k : Int) := by rw [Int.tmod_eq_emod_of_nonneg (by omega)]; exact m1
              have hnz : ¬ en = 0 := by omega
              have hhas : g.has at_ k := by unfold GraphD.has; rw [← HEN.out]; exact hke
              obtain ⟨-, qb, qo, rfl, -, q1, -⟩ := HEL.out.part k (by rw [← HEN.out]; exact hke)
              have hto := GraphD.right_to HM.out.right hhas
              obtain ⟨y, hy⟩ : ∃ y, y = g.toOf at_ k := ⟨_, rfl⟩
              rw [hto.2, ← hy] at q1
              have hyn : y < n := by rw [HN.out, hy]; exact hto.1
              have HQBX : Hid (qb ≠ gx + 1) := by have h1 := World.block_lt_of_cell? wm _ q1; have h2 := HGXW.out; have h3 : qb < wm.heap.size := h1; rw [Hid]; omega
              have HQB8 : Hid (qb < V.heap.size) := Nat.lt_of_lt_of_le (World.block_lt_of_cell? wm _ q1) HX.out.size
              replace q1 := cells_kept HBR.out _ _ q1
              have hkI : (k : Int) < (en : Int) := by omega
              have hk20 : k < 20 := by omega
              have hw64 : wrap64 (x : Int) = (x : Int) := by unfold wrap64; omega
              clear hk hx0 hxw hxb hhas hto hy
              go_wp2_with fail
              go_quiet (fail)
              clear hxc m1 m2 hnz hw64
              go_upto_region 8 with fail
              have HL8 := Lib.hid (HL.out.drewN nq)
              replace q1 : (wr.drewN nq).cell? _ = _ := q1
              replace he1 : (wr.drewN nq).cell? _ = _ := he1
              replace c0 : (wr.drewN nq).cell? _ = _ := c0
              clear HL HGX2 HBR
              generalize World.drewN wr nq = V0 at HL8 q1 he1 c0 ⊢
              have hq12 : q ≤ 12 := by omega
              have hcc : ∀ x, Since (fun y => (Value.slice na q nc).ownBlock = some y ∨ (Value.slice fa q fc).ownBlock = some y) V0 x →
                  x.cell? ⟨gx + 1, 0, none⟩ = some (.slice na q nc) ∧ x.cell? ⟨gx + 1, 1, none⟩ = some (.slice fa q fc) ∧ x.frozen? ⟨gx + 1, 0, none⟩ = false ∧ x.frozen? ⟨gx + 1, 1, none⟩ = false ∧ x.cell? ⟨gx, 0, none⟩ = some (.slice (some ⟨eb, eo, none⟩) n ec) ∧ (x.cell? ⟨eb, eo + at_, none⟩ = some (.slice (some ⟨qb, qo, none⟩) en kc) ∧ x.cell? ⟨qb, qo + k * 2, none⟩ = some (.int .i64 (y : Int))) := by
                intro x hx
                have hlt := HL8.out.lt
                have n1 : ∀ z, z < V.heap.size → ¬ ((Value.slice na q nc).ownBlock = some z ∨ (Value.slice fa q fc).ownBlock = some z) := by
                  rintro z hz (e | e)
                  · have h1 := (HL8.out.r1.lt _ e).1; omega
                  · have h1 := (HL8.out.r2.lt _ e).1; omega
                have hbx := (hx.block _ (lt_of_block HL8.out.block) (n1 _ hlt)).trans HL8.out.block
                have hk : ∀ (p : Addr) v, V0.cell? p = some v → p.block < V.heap.size → x.cell? p = some v := fun p v hp hz => (hx.cell (World.block_lt_of_cell? V0 p hp) (n1 _ hz)).trans hp
                exact ⟨cell_of_block hbx 0, cell_of_block hbx 1, free_of_block hbx 0, free_of_block hbx 1, hk _ _ c0 (by show gx < _; omega), hk _ _ he1 HEB8.out, hk _ _ q1 HQB8.out⟩
              have CC := Lib.hid hcc
              clear hcc c0 he1 q1
              have h0 := Two.start HL8.out.r1 HL8.out.r2 HL8.out.dis (by have h1 := HL8.out.since.size; exact h1)
              obtain ⟨V1, hV1⟩ : ∃ V1, V1 = V0.drew := ⟨_, rfl⟩
              rw [← hV1] at h0
              have hT0 := Lib.hid h0
              clear h0
              refine wp_region_noPanic ?_
              refine wp_region_tail (n0 := 11) (S := fun x => Since (fun y => (Value.slice na q nc).ownBlock = some y ∨ (Value.slice fa q fc).ownBlock = some y) V0 x) (by kernel_rfl) (by rw [← hV1]; exact hT0.out.since) (fun _ => ?_)
              rw [← hV1]
              clear hV1
              refine wpAnyT_free (i := 0) (v := ?v1) rfl (by kernel_rfl) (by kernel_rfl) (by kernel_rfl) (by decide) (fun _ _ _ h => h) (Or.inl ⟨by rfl, ?hy1⟩) (fun _ => hT0.out.since) ?_
              case hy1 => (intro x' _; go_simp; try with_reducible rfl)
              change wpAnyT _ _ _ _ _ _ _ _ (Act.put _ (some 60) _) _
              simp only [Act.put, List.setIfInBounds_toArray, List.set_cons_zero, List.set_cons_succ]
              refine wpAnyT_take [4, 9, 10, 11, 12, 13] (i := 1) (v := ?v2) rfl (by kernel_rfl) (by kernel_rfl) (by kernel_rfl) (by decide) (by kernel_rfl) (by kernel_rfl) (by rfl) (by rfl) (fun _ _ _ h => h) (Or.inl ⟨by rfl, ?hy2⟩) (hT0.out.since) ?_
              case hy2 => (intro x' hxx; obtain ⟨e0, e1, e2, e3, e4, e5⟩ := CC.out x' hxx; go_simp; try with_reducible rfl)
              change wpAnyT _ _ _ _ _ _ _ _ (Act.put _ (some 61) _) _
              simp only [Act.put, List.setIfInBounds_toArray, List.set_cons_zero, List.set_cons_succ]
              refine wpAnyT_free (i := 2) (v := ?v3) rfl (by kernel_rfl) (by kernel_rfl) (by kernel_rfl) (by decide) (fun _ _ _ h => h) (Or.inl ⟨by rfl, ?hy3⟩) (fun _ => hT0.out.since) ?_
              case hy3 => (intro x' _; go_simp; try with_reducible rfl)
              change wpAnyT _ _ _ _ _ _ _ _ (Act.put _ (some 62) _) _
              simp only [Act.put, List.setIfInBounds_toArray, List.set_cons_zero, List.set_cons_succ]
              refine wpAnyT_free (i := 5) (v := ?v4) rfl (by kernel_rfl) (by kernel_rfl) (by kernel_rfl) (by decide) (fun _ _ _ h => h) (Or.inl ⟨by rfl, ?hy4⟩) (fun _ => hT0.out.since) ?_
              case hy4 => (intro x' _; go_simp; try with_reducible rfl)
              change wpAnyT _ _ _ _ _ _ _ _ (Act.put _ (some 65) _) _
              simp only [Act.put, List.setIfInBounds_toArray, List.set_cons_zero, List.set_cons_succ]
              refine wpAnyT_take [9, 10, 11, 12, 13] (i := 6) (v := ?v5) rfl (by kernel_rfl) (by kernel_rfl) (by kernel_rfl) (by decide) (by kernel_rfl) (by kernel_rfl) (by rfl) (by rfl) (fun _ _ _ h => h) (Or.inl ⟨by rfl, ?hy5⟩) (hT0.out.since) ?_
              case hy5 => (intro x' hxx; obtain ⟨e0, e1, e2, e3, e4, e5⟩ := CC.out x' hxx; go_simp; try with_reducible rfl)
              change wpAnyT _ _ _ _ _ _ _ _ (Act.put _ (some 66) _) _
              simp only [Act.put, List.setIfInBounds_toArray, List.set_cons_zero, List.set_cons_succ]
              refine wpAnyT_free (i := 7) (v := ?v6) rfl (by kernel_rfl) (by kernel_rfl) (by kernel_rfl) (by decide) (fun _ _ _ h => h) (Or.inl ⟨by rfl, ?hy6⟩) (fun _ => hT0.out.since) ?_
              case hy6 => (intro x' _; go_simp; try with_reducible rfl)
              change wpAnyT _ _ _ _ _ _ _ _ (Act.put _ (some 67) _) _
              simp only [Act.put, List.setIfInBounds_toArray, List.set_cons_zero, List.set_cons_succ]
              refine wpAnyT_ready (rs := [3, 8]) (by kernel_rfl) (by simp) ?_
              refine AllT.cons rfl (fun K hK => ?_) (AllT.cons rfl (fun K hK => ?_) AllT.nil)
              · skip
                go_simp
                have hT1 := hT0.out.alloc (.int .i64 (at_ : Int))
                refine hK.out _ _ (fun _ _ => hT1.since) ?_
                obtain ⟨nb3, hnb⟩ : ∃ n, n = V1.heap.size := ⟨_, rfl⟩
                rw [← hnb] at hT1 ⊢
                clear hnb
                generalize World.alloc V1 _ = X1 at hT1 ⊢
                replace hT1 := Lib.hid hT1
                clear hK K
                refine wpAnyT_ready (rs := [4, 8]) (by kernel_rfl) (by simp) ?_
                refine AllT.cons rfl (fun K hK => ?_) (AllT.cons rfl (fun K hK => ?_) AllT.nil)
                · skip
                  refine step_append_where_ X1 (by rfl) (.tmp 61) (.tmp 63) 23 rfl 3 (.int .i64 0) 1 8 Try.underlying23 int_info rfl (by decide) V.heap.size (.slice na q nc) q (intsV xs) (by rfl) hT1.out.r1 ⟨nb3, 0, none⟩ 1 1 [(.int .i64 (at_ : Int))] (by rfl) rfl (hT1.out.cell (by simp)) (by simp [Value.oneCell']) (by unfold maxLen; omega) (by omega) hT1.out.base ?_
                  intro na' nc' X2 e1 e2 e3 e4 e5
                  have hT2 := Lib.hid (hT1.out.app1 e1 e4 e5)
                  clear e1 e2 e3 e4 e5
                  refine hK.out _ _ (fun _ _ => hT2.out.since) ?_
                  clear hK K
                  change wpAnyT _ _ _ _ _ _ _ _ (Act.put _ (some 64) _) _
                  simp only [Act.put, List.setIfInBounds_toArray, List.set_cons_zero, List.set_cons_succ]
                  refine wpAnyT_free (i := 10) (v := ?v7) rfl (by kernel_rfl) (by kernel_rfl) (by kernel_rfl) (by decide) (fun _ _ _ h => h) (Or.inl ⟨by rfl, ?hy7⟩) (fun _ => hT2.out.since) ?_
                  case hy7 => (intro x' _; go_simp; try with_reducible rfl)
                  change wpAnyT _ _ _ _ _ _ _ _ (Act.put _ (some 70) _) _
                  simp only [Act.put, List.setIfInBounds_toArray, List.set_cons_zero, List.set_cons_succ]
                  refine wpAnyT_ready (rs := [8]) (by kernel_rfl) (by simp) ?_
                  refine AllT.cons rfl (fun K hK => ?_) AllT.nil
                  go_simp
                  have hT3 := hT2.out.alloc (.int .i64 (k : Int))
                  refine hK.out _ _ (fun _ _ => hT3.since) ?_
                  obtain ⟨nb8, hnb⟩ : ∃ n, n = X2.heap.size := ⟨_, rfl⟩
                  rw [← hnb] at hT3 ⊢
                  clear hnb
                  generalize World.alloc X2 _ = X3 at hT3 ⊢
                  replace hT3 := Lib.hid hT3
                  clear hK K
                  refine wpAnyT_ready (rs := [9]) (by kernel_rfl) (by simp) ?_
                  refine AllT.cons rfl (fun K hK => ?_) AllT.nil
                  refine step_append_where_ X3 (by rfl) (.tmp 66) (.tmp 68) 23 rfl 3 (.int .i64 0) 1 8 Try.underlying23 int_info rfl (by decide) V.heap.size (.slice fa q fc) q (intsV ys) (by rfl) hT3.out.r2 ⟨nb8, 0, none⟩ 1 1 [(.int .i64 (k : Int))] (by rfl) rfl (hT3.out.cell (by simp)) (by simp [Value.oneCell']) (by unfold maxLen; omega) (by omega) hT3.out.base ?_
                  intro fa' fc' X4 e1 e2 e3 e4 e5
                  have hT4 := Lib.hid (hT3.out.app2 e1 e4 e5)
                  clear e1 e2 e3 e4 e5
                  refine hK.out _ _ (fun _ _ => hT4.out.since) ?_
                  clear hK K
                  change wpAnyT _ _ _ _ _ _ _ _ (Act.put _ (some 69) _) _
                  simp only [Act.put, List.setIfInBounds_toArray, List.set_cons_zero, List.set_cons_succ]
                  refine wpAnyT_ready (rs := [11]) (by kernel_rfl) (by simp) ?_
                  refine AllT.cons rfl (fun K hK => ?_) AllT.nil
                  obtain ⟨u0, u1, u2, u3, -, -⟩ := CC.out X4 hT4.out.since
                  go_simp
                  refine hK.out _ _ (fun h => absurd rfl h) ?_
                  have hT5 := Lib.hid hT4.out
                  clear hK K
                  refine wpAnyT_free (i := 12) (v := ?v8) rfl (by kernel_rfl) (by kernel_rfl) (by kernel_rfl) (by decide) (fun _ _ _ h => h) (Or.inl ⟨by rfl, ?hy8⟩) (fun h => absurd h (by decide +kernel)) ?_
                  case hy8 => (intro x' _; go_simp; try with_reducible rfl)
                  change wpAnyT _ _ _ _ _ _ _ _ (Act.put _ (some 71) _) _
                  simp only [Act.put, List.setIfInBounds_toArray, List.set_cons_zero, List.set_cons_succ]
                  refine wpAnyT_ready (rs := [13]) (by kernel_rfl) (by simp) ?_
                  refine AllT.cons rfl (fun K hK => ?_) AllT.nil
                  have u4 : (X4.setCell ⟨gx + 1, 0, none⟩ (.slice na' (q + 1) nc')).cell? ⟨gx + 1, 1, none⟩ = some (.slice fa q fc) := by rw [World.cell?_setCell_other _ _ _ _ (by simp)]; exact u1
                  have u5 : (X4.setCell ⟨gx + 1, 0, none⟩ (.slice na' (q + 1) nc')).frozen? ⟨gx + 1, 1, none⟩ = false := by rw [World.frozen?_setCell]; exact u3
                  go_simp
                  refine hK.out _ _ (fun _ h => absurd h (by decide +kernel)) ?_
                  clear u0 u1 u2 u3 u4 u5
                  have hT6 := Lib.hid hT4.out
                  clear hK K
                  refine wpAnyT_done (by kernel_rfl) ?_ _
                  refine NoPanic.normal ?_
                  have hstep := HL8.out.step hT4.out (p1 := (at_ : Int)) (p2 := (k : Int)) (by omega) (by omega)
                  obtain ⟨-, -, -, -, g0, g1, g2⟩ := CC.out X4 hT4.out.since
                  have hk9 : ∀ (p : Addr) v, X4.cell? p = some v → p.block ≠ gx + 1 → ((X4.setCell ⟨gx + 1, 0, none⟩ (.slice na' (q + 1) nc')).setCell ⟨gx + 1, 1, none⟩ (.slice fa' (q + 1) fc')).cell? p = some v := fun p v hp hne => by rw [World.cell?_of_block (kept_get hne), World.cell?_of_block (kept_get hne)]; exact hp
                  replace g0 := hk9 _ _ g0 (by show gx ≠ gx + 1; omega)
                  replace g1 := hk9 _ _ g1 HEBX.out
                  replace g2 := hk9 _ _ g2 HQBX.out
                  have HSTEP := Lib.hid hstep
                  clear hstep hk9
                  generalize World.setCell _ _ _ = Z at HSTEP g0 g1 g2 ⊢
                  go_wp2_with fail
                  go_roundg (12 - (j + 1))
                  case measure => rw [HGG.out]; omega
                  case rel => exact ⟨j + 1, y, q + 1, na', fa', nc', fc', _, _, by omega, by omega, by omega, rfl, rfl, by simp, hyn, HSTEP.out⟩
                · skip
                  go_simp
                  have hT2 := hT1.out.alloc (.int .i64 (k : Int))
                  refine hK.out _ _ (fun _ _ => hT2.since) ?_
                  obtain ⟨nb8, hnb⟩ : ∃ n, n = X1.heap.size := ⟨_, rfl⟩
                  rw [← hnb] at hT2 ⊢
                  clear hnb
                  generalize World.alloc X1 _ = X2 at hT2 ⊢
                  replace hT2 := Lib.hid hT2
                  clear hK K
                  refine wpAnyT_ready (rs := [4]) (by kernel_rfl) (by simp) ?_
                  refine AllT.cons rfl (fun K hK => ?_) AllT.nil
                  refine step_append_where_ X2 (by rfl) (.tmp 61) (.tmp 63) 23 rfl 3 (.int .i64 0) 1 8 Try.underlying23 int_info rfl (by decide) V.heap.size (.slice na q nc) q (intsV xs) (by rfl) hT2.out.r1 ⟨nb3, 0, none⟩ 1 1 [(.int .i64 (at_ : Int))] (by rfl) rfl (hT2.out.cell (by simp)) (by simp [Value.oneCell']) (by unfold maxLen; omega) (by omega) hT2.out.base ?_
                  intro na' nc' X3 e1 e2 e3 e4 e5
                  have hT3 := Lib.hid (hT2.out.app1 e1 e4 e5)
                  clear e1 e2 e3 e4 e5
                  refine hK.out _ _ (fun _ _ => hT3.out.since) ?_
                  clear hK K
                  change wpAnyT _ _ _ _ _ _ _ _ (Act.put _ (some 64) _) _
                  simp only [Act.put, List.setIfInBounds_toArray, List.set_cons_zero, List.set_cons_succ]
                  refine wpAnyT_free (i := 10) (v := ?v9) rfl (by kernel_rfl) (by kernel_rfl) (by kernel_rfl) (by decide) (fun _ _ _ h => h) (Or.inl ⟨by rfl, ?hy9⟩) (fun _ => hT3.out.since) ?_
                  case hy9 => (intro x' _; go_simp; try with_reducible rfl)
                  change wpAnyT _ _ _ _ _ _ _ _ (Act.put _ (some 70) _) _
                  simp only [Act.put, List.setIfInBounds_toArray, List.set_cons_zero, List.set_cons_succ]
                  refine wpAnyT_ready (rs := [9]) (by kernel_rfl) (by simp) ?_
                  refine AllT.cons rfl (fun K hK => ?_) AllT.nil
                  refine step_append_where_ X3 (by rfl) (.tmp 66) (.tmp 68) 23 rfl 3 (.int .i64 0) 1 8 Try.underlying23 int_info rfl (by decide) V.heap.size (.slice fa q fc) q (intsV ys) (by rfl) hT3.out.r2 ⟨nb8, 0, none⟩ 1 1 [(.int .i64 (k : Int))] (by rfl) rfl (hT3.out.cell (by simp)) (by simp [Value.oneCell']) (by unfold maxLen; omega) (by omega) hT3.out.base ?_
                  intro fa' fc' X4 e1 e2 e3 e4 e5
                  have hT4 := Lib.hid (hT3.out.app2 e1 e4 e5)
                  clear e1 e2 e3 e4 e5
                  refine hK.out _ _ (fun _ _ => hT4.out.since) ?_
                  clear hK K
                  change wpAnyT _ _ _ _ _ _ _ _ (Act.put _ (some 69) _) _
                  simp only [Act.put, List.setIfInBounds_toArray, List.set_cons_zero, List.set_cons_succ]
                  refine wpAnyT_ready (rs := [11]) (by kernel_rfl) (by simp) ?_
                  refine AllT.cons rfl (fun K hK => ?_) AllT.nil
                  obtain ⟨u0, u1, u2, u3, -, -⟩ := CC.out X4 hT4.out.since
                  go_simp
                  refine hK.out _ _ (fun h => absurd rfl h) ?_
                  have hT5 := Lib.hid hT4.out
                  clear hK K
                  refine wpAnyT_free (i := 12) (v := ?v10) rfl (by kernel_rfl) (by kernel_rfl) (by kernel_rfl) (by decide) (fun _ _ _ h => h) (Or.inl ⟨by rfl, ?hy10⟩) (fun h => absurd h (by decide +kernel)) ?_
                  case hy10 => (intro x' _; go_simp; try with_reducible rfl)
                  change wpAnyT _ _ _ _ _ _ _ _ (Act.put _ (some 71) _) _
                  simp only [Act.put, List.setIfInBounds_toArray, List.set_cons_zero, List.set_cons_succ]
                  refine wpAnyT_ready (rs := [13]) (by kernel_rfl) (by simp) ?_
                  refine AllT.cons rfl (fun K hK => ?_) AllT.nil
                  have u4 : (X4.setCell ⟨gx + 1, 0, none⟩ (.slice na' (q + 1) nc')).cell? ⟨gx + 1, 1, none⟩ = some (.slice fa q fc) := by rw [World.cell?_setCell_other _ _ _ _ (by simp)]; exact u1
                  have u5 : (X4.setCell ⟨gx + 1, 0, none⟩ (.slice na' (q + 1) nc')).frozen? ⟨gx + 1, 1, none⟩ = false := by rw [World.frozen?_setCell]; exact u3
                  go_simp
                  refine hK.out _ _ (fun _ h => absurd h (by decide +kernel)) ?_
                  clear u0 u1 u2 u3 u4 u5
                  have hT6 := Lib.hid hT4.out
                  clear hK K
                  refine wpAnyT_done (by kernel_rfl) ?_ _
                  refine NoPanic.normal ?_
                  have hstep := HL8.out.step hT4.out (p1 := (at_ : Int)) (p2 := (k : Int)) (by omega) (by omega)
                  obtain ⟨-, -, -, -, g0, g1, g2⟩ := CC.out X4 hT4.out.since
                  have hk9 : ∀ (p : Addr) v, X4.cell? p = some v → p.block ≠ gx + 1 → ((X4.setCell ⟨gx + 1, 0, none⟩ (.slice na' (q + 1) nc')).setCell ⟨gx + 1, 1, none⟩ (.slice fa' (q + 1) fc')).cell? p = some v := fun p v hp hne => by rw [World.cell?_of_block (kept_get hne), World.cell?_of_block (kept_get hne)]; exact hp
                  replace g0 := hk9 _ _ g0 (by show gx ≠ gx + 1; omega)
                  replace g1 := hk9 _ _ g1 HEBX.out
                  replace g2 := hk9 _ _ g2 HQBX.out
                  have HSTEP := Lib.hid hstep
                  clear hstep hk9
                  generalize World.setCell _ _ _ = Z at HSTEP g0 g1 g2 ⊢
                  go_wp2_with fail
                  go_roundg (12 - (j + 1))
                  case measure => rw [HGG.out]; omega
                  case rel => exact ⟨j + 1, y, q + 1, na', fa', nc', fc', _, _, by omega, by omega, by omega, rfl, rfl, by simp, hyn, HSTEP.out⟩
              · skip
                go_simp
                have hT1 := hT0.out.alloc (.int .i64 (k : Int))
                refine hK.out _ _ (fun _ _ => hT1.since) ?_
                obtain ⟨nb8, hnb⟩ : ∃ n, n = V1.heap.size := ⟨_, rfl⟩
                rw [← hnb] at hT1 ⊢
                clear hnb
                generalize World.alloc V1 _ = X1 at hT1 ⊢
                replace hT1 := Lib.hid hT1
                clear hK K
                refine wpAnyT_ready (rs := [3]) (by kernel_rfl) (by simp) ?_
                refine AllT.cons rfl (fun K hK => ?_) AllT.nil
                go_simp
                have hT2 := hT1.out.alloc (.int .i64 (at_ : Int))
                refine hK.out _ _ (fun _ _ => hT2.since) ?_
                obtain ⟨nb3, hnb⟩ : ∃ n, n = X1.heap.size := ⟨_, rfl⟩
                rw [← hnb] at hT2 ⊢
                clear hnb
                generalize World.alloc X1 _ = X2 at hT2 ⊢
                replace hT2 := Lib.hid hT2
                clear hK K
                refine wpAnyT_ready (rs := [4]) (by kernel_rfl) (by simp) ?_
                refine AllT.cons rfl (fun K hK => ?_) AllT.nil
                refine step_append_where_ X2 (by rfl) (.tmp 61) (.tmp 63) 23 rfl 3 (.int .i64 0) 1 8 Try.underlying23 int_info rfl (by decide) V.heap.size (.slice na q nc) q (intsV xs) (by rfl) hT2.out.r1 ⟨nb3, 0, none⟩ 1 1 [(.int .i64 (at_ : Int))] (by rfl) rfl (hT2.out.cell (by simp)) (by simp [Value.oneCell']) (by unfold maxLen; omega) (by omega) hT2.out.base ?_
                intro na' nc' X3 e1 e2 e3 e4 e5
                have hT3 := Lib.hid (hT2.out.app1 e1 e4 e5)
                clear e1 e2 e3 e4 e5
                refine hK.out _ _ (fun _ _ => hT3.out.since) ?_
                clear hK K
                change wpAnyT _ _ _ _ _ _ _ _ (Act.put _ (some 64) _) _
                simp only [Act.put, List.setIfInBounds_toArray, List.set_cons_zero, List.set_cons_succ]
                refine wpAnyT_free (i := 10) (v := ?v11) rfl (by kernel_rfl) (by kernel_rfl) (by kernel_rfl) (by decide) (fun _ _ _ h => h) (Or.inl ⟨by rfl, ?hy11⟩) (fun _ => hT3.out.since) ?_
                case hy11 => (intro x' _; go_simp; try with_reducible rfl)
                change wpAnyT _ _ _ _ _ _ _ _ (Act.put _ (some 70) _) _
                simp only [Act.put, List.setIfInBounds_toArray, List.set_cons_zero, List.set_cons_succ]
                refine wpAnyT_ready (rs := [9]) (by kernel_rfl) (by simp) ?_
                refine AllT.cons rfl (fun K hK => ?_) AllT.nil
                refine step_append_where_ X3 (by rfl) (.tmp 66) (.tmp 68) 23 rfl 3 (.int .i64 0) 1 8 Try.underlying23 int_info rfl (by decide) V.heap.size (.slice fa q fc) q (intsV ys) (by rfl) hT3.out.r2 ⟨nb8, 0, none⟩ 1 1 [(.int .i64 (k : Int))] (by rfl) rfl (hT3.out.cell (by simp)) (by simp [Value.oneCell']) (by unfold maxLen; omega) (by omega) hT3.out.base ?_
                intro fa' fc' X4 e1 e2 e3 e4 e5
                have hT4 := Lib.hid (hT3.out.app2 e1 e4 e5)
                clear e1 e2 e3 e4 e5
                refine hK.out _ _ (fun _ _ => hT4.out.since) ?_
                clear hK K
                change wpAnyT _ _ _ _ _ _ _ _ (Act.put _ (some 69) _) _
                simp only [Act.put, List.setIfInBounds_toArray, List.set_cons_zero, List.set_cons_succ]
                refine wpAnyT_ready (rs := [11]) (by kernel_rfl) (by simp) ?_
                refine AllT.cons rfl (fun K hK => ?_) AllT.nil
                obtain ⟨u0, u1, u2, u3, -, -⟩ := CC.out X4 hT4.out.since
                go_simp
                refine hK.out _ _ (fun h => absurd rfl h) ?_
                have hT5 := Lib.hid hT4.out
                clear hK K
                refine wpAnyT_free (i := 12) (v := ?v12) rfl (by kernel_rfl) (by kernel_rfl) (by kernel_rfl) (by decide) (fun _ _ _ h => h) (Or.inl ⟨by rfl, ?hy12⟩) (fun h => absurd h (by decide +kernel)) ?_
                case hy12 => (intro x' _; go_simp; try with_reducible rfl)
                change wpAnyT _ _ _ _ _ _ _ _ (Act.put _ (some 71) _) _
                simp only [Act.put, List.setIfInBounds_toArray, List.set_cons_zero, List.set_cons_succ]
                refine wpAnyT_ready (rs := [13]) (by kernel_rfl) (by simp) ?_
                refine AllT.cons rfl (fun K hK => ?_) AllT.nil
                have u4 : (X4.setCell ⟨gx + 1, 0, none⟩ (.slice na' (q + 1) nc')).cell? ⟨gx + 1, 1, none⟩ = some (.slice fa q fc) := by rw [World.cell?_setCell_other _ _ _ _ (by simp)]; exact u1
                have u5 : (X4.setCell ⟨gx + 1, 0, none⟩ (.slice na' (q + 1) nc')).frozen? ⟨gx + 1, 1, none⟩ = false := by rw [World.frozen?_setCell]; exact u3
                go_simp
                refine hK.out _ _ (fun _ h => absurd h (by decide +kernel)) ?_
                clear u0 u1 u2 u3 u4 u5
                have hT6 := Lib.hid hT4.out
                clear hK K
                refine wpAnyT_done (by kernel_rfl) ?_ _
                refine NoPanic.normal ?_
                have hstep := HL8.out.step hT4.out (p1 := (at_ : Int)) (p2 := (k : Int)) (by omega) (by omega)
                obtain ⟨-, -, -, -, g0, g1, g2⟩ := CC.out X4 hT4.out.since
                have hk9 : ∀ (p : Addr) v, X4.cell? p = some v → p.block ≠ gx + 1 → ((X4.setCell ⟨gx + 1, 0, none⟩ (.slice na' (q + 1) nc')).setCell ⟨gx + 1, 1, none⟩ (.slice fa' (q + 1) fc')).cell? p = some v := fun p v hp hne => by rw [World.cell?_of_block (kept_get hne), World.cell?_of_block (kept_get hne)]; exact hp
                replace g0 := hk9 _ _ g0 (by show gx ≠ gx + 1; omega)
                replace g1 := hk9 _ _ g1 HEBX.out
                replace g2 := hk9 _ _ g2 HQBX.out
                have HSTEP := Lib.hid hstep
                clear hstep hk9
                generalize World.setCell _ _ _ = Z at HSTEP g0 g1 g2 ⊢
                go_wp2_with fail
                go_roundg (12 - (j + 1))
                case measure => rw [HGG.out]; omega
                case rel => exact ⟨j + 1, y, q + 1, na', fa', nc', fc', _, _, by omega, by omega, by omega, rfl, rfl, by simp, hyn, HSTEP.out⟩
          · have b3I : ¬ (0 : Int) < (en : Int) := by omega
            have e3 : decide ((0 : Int) < (en : Int)) = false := by simp; omega
            have e3n : decide (0 < en) = false := by simp; omega
            go_wp2_with fail
            go_meet
            case rel => exact ⟨at_, q, na, fa, nc, fc, xs, ys, rfl, hat, by omega, HL.out⟩
        · have b2I : ¬ (j : Int) < 12 := by omega
          have e2 : decide ((j : Int) < 12) = false := by simp; omega
          go_wp2_with fail
          go_meet
          case rel => exact ⟨at_, q, na, fa, nc, fc, xs, ys, rfl, hat, by omega, HL.out⟩
      · have b1I : ¬ (j : Int) < (tl : Int) := by omega
        have e1 : decide ((j : Int) < (tl : Int)) = false := by simp; omega
        have e1n : decide (j < tl) = false := by simp; omega
        go_wp2_with fail
        go_meet
        case rel => exact ⟨at_, q, na, fa, nc, fc, xs, ys, rfl, hat, by omega, HL.out⟩
  case rest =>
    obtain ⟨at_, q, na, fa, nc, fc, xs, ys, rfl, hat, hq12, HL⟩ := hcut
    obtain ⟨wo, rfl⟩ : ∃ wo : World, wo = wc := ⟨_, rfl⟩
    have c3 := cell_of_block HL.out.block 0
    have c5 := cell_of_block HL.out.block 2
    have f5 : wo.frozen? ⟨gx + 1, 2, none⟩ = false := free_of_block HL.out.block 2
    simp only [List.getElem?_toArray, List.getElem?_cons_zero, List.getElem?_cons_succ] at c3 c5
    obtain ⟨bk, hbk⟩ : ∃ bk, bk = back % (q + 1) := ⟨_, rfl⟩
    have n1 : (back : Int) % ((q : Int) + 1) = (bk : Int) := by rw [hbk]; simp
    have n2 : (back : Int).tmod ((q : Int) + 1) = (bk : Int) := by rw [Int.tmod_eq_emod_of_nonneg (by omega)]; exact n1
    have n3 : ¬ (q : Int) + 1 = 0 := by omega
    clear hbk
    go_upto_region 11 with fail
    clear n1 n2 n3 c3 c5 f5
    have HL1 := Lib.hid (HL.out.setBack (bk : Int))
    clear HL
    generalize World.setCell wo _ _ = Z at HL1 ⊢
    obtain ⟨ev2, hev2⟩ : ∃ ev2, ev2 = back % 2 := ⟨_, rfl⟩
    have k1 : (back : Int) % 2 = (ev2 : Int) := by omega
    have k2 : (back : Int).tmod 2 = (ev2 : Int) := by rw [Int.tmod_eq_emod_of_nonneg (by omega)]; exact k1
    clear hev2
    go_upto_block 2 with fail
    go_cut [18] (fun _s18 w' => ∃ bk2 : Int, Hid (LasSt V w' (gx + 1) q na fa nc fc xs ys bk2))
    case first =>
      go_wp2_with fail
      go_loopg [18] q (fun gg s18 wr => ∃ (i : Nat) (bk2 : Int), i ≤ q ∧ Hid (gg = q - i) ∧ s18 = .int .i64 i ∧ Hid (LasSt V wr (gx + 1) q na fa nc fc xs ys bk2))
      case atStart => exact ⟨0, _, Nat.zero_le _, rfl, rfl, HL1.out⟩
      case round =>
        obtain ⟨i, bk2, hi, HG3, rfl, HLW⟩ := hrel
        clear HL1
        have t0 := cell_of_block HLW.out.block 0
        have t2 := cell_of_block HLW.out.block 2
        have f2 : wr.frozen? ⟨gx + 1, 2, none⟩ = false := free_of_block HLW.out.block 2
        simp only [List.getElem?_toArray, List.getElem?_cons_zero, List.getElem?_cons_succ] at t0 t2
        by_cases c1 : i < q
        · have c1I : (i : Int) < (q : Int) := by omega
          have c1d : decide ((i : Int) < (q : Int)) = true := by simp; omega
          have c1e : decide (i < q) = true := by simp; omega
          by_cases c2 : ev2 = 0
          · have c2b : ((ev2 : Int) == 0) = true := by simp [c2]
            have c2b' : (ev2 == 0) = true := by simp [c2]
            obtain ⟨ng, ncap, hng, -, -⟩ := row_some HLW.out.r1 (by omega)
            cases hng
            obtain ⟨ov, hov⟩ : ∃ ov : Int, wr.cell? ⟨ng, i, none⟩ = some (.int .i64 ov) := by
              have h1 := World.ownsRow.cellAt HLW.out.r1 i (by omega)
              have h2 := HLW.out.len.1
              unfold intsV at h1
              rw [List.getElem?_map, List.getElem?_eq_getElem (by omega)] at h1
              exact ⟨_, h1⟩
            have C2 := Lib.hid c2
            clear c2
            by_cases c4 : ov = (at_ : Int)
            · have c4b : ((ov : Int) == (at_ : Int)) = true := by simp [c4]
              have C4 := Lib.hid c4
              clear c4
              have HSB := Lib.hid (HLW.out.setBack (i : Int))
              go_wp2_with fail
              go_roundg (q - (i + 1))
              case measure => rw [HG3.out]; omega
              case rel => exact ⟨i + 1, _, by omega, rfl, by simp, HSB.out⟩
            · have c4b : ((ov : Int) == (at_ : Int)) = false := by simp [c4]
              clear c4
              go_wp2_with fail
              go_roundg (q - (i + 1))
              case measure => rw [HG3.out]; omega
              case rel => exact ⟨i + 1, _, by omega, rfl, by simp, HLW.out⟩
          · have c2b : ((ev2 : Int) == 0) = false := by rw [beq_eq_false_iff_ne]; omega
            have c2b' : (ev2 == 0) = false := by simp [c2]
            clear c2 t2 f2
            go_wp2_with fail
            go_meet
            case rel => exact ⟨_, HLW.out⟩
        · have c1I : ¬ (i : Int) < (q : Int) := by omega
          have c1d : decide ((i : Int) < (q : Int)) = false := by simp; omega
          have c1e : decide (i < q) = false := by simp; omega
          go_wp2_with fail
          go_meet
          case rel => exact ⟨_, HLW.out⟩
    case rest =>
      obtain ⟨bk2, HLW⟩ := hcut
      clear HL1 k1 k2 Z
      obtain ⟨wr, rfl⟩ : ∃ wr : World, wr = wc := ⟨_, rfl⟩
      have t0 := cell_of_block HLW.out.block 0
      simp only [List.getElem?_toArray, List.getElem?_cons_zero] at t0
      go_upto_region 16 with fail
      go_cut [117] (fun s117 w' => ∃ b : Bool, s117 = .bool b ∧ w' = wr ∧ Hid (b = true → 230 < spoilt ∧ 0 < q))
      case first =>
        by_cases b6 : 230 < spoilt
        · have b6I : (230 : Int) < (spoilt : Int) := by omega
          have b6d : decide ((230 : Int) < (spoilt : Int)) = true := by simp; omega
          have b6e : decide (230 < spoilt) = true := by simp; omega
          by_cases b7 : 0 < q
          · have b7I : (0 : Int) < (q : Int) := by omega
            have b7d : decide ((0 : Int) < (q : Int)) = true := by simp; omega
            have b7e : decide (0 < q) = true := by simp; omega
            go_wp2_with fail
            go_meet
            case rel => exact ⟨true, rfl, rfl, fun _ => ⟨b6, b7⟩⟩
          · have b7I : ¬ (0 : Int) < (q : Int) := by omega
            have b7d : decide ((0 : Int) < (q : Int)) = false := by simp; omega
            have b7e : decide (0 < q) = false := by simp; omega
            go_wp2_with fail
            go_meet
            case rel => exact ⟨false, rfl, rfl, fun h => by cases h⟩
        · have b6I : ¬ (230 : Int) < (spoilt : Int) := by omega
          have b6d : decide ((230 : Int) < (spoilt : Int)) = false := by simp; omega
          have b6e : decide (230 < spoilt) = false := by simp; omega
          go_wp2_with fail
          go_meet
          case rel => exact ⟨false, rfl, rfl, fun h => by cases h⟩
      case rest =>
        obtain ⟨b, rfl, hww, HBQ⟩ := hcut
        obtain rfl : wr = wc := hww.symm
        go_upto_if 117 with fail
        go_cut [117] (fun _s117 w' => ∃ (na2 : Option Addr) (xs2 : List Int), Hid (LasSt V w' (gx + 1) q na2 fa nc fc xs2 ys bk2))
        case first =>
          cases b with
          | false =>
            go_wp2_with fail
            go_meet
            case rel => exact ⟨_, _, HLW.out⟩
          | true =>
            obtain ⟨b6, b7⟩ := HBQ.out rfl
            have b7I : (0 : Int) < (q : Int) := by omega
            obtain ⟨ng, ncap, hng, -, -⟩ := row_some HLW.out.r1 b7
            cases hng
            obtain ⟨r7, hr7⟩ : ∃ r7, r7 = spoilt % q := ⟨_, rfl⟩
            have hr7q : r7 < q := by rw [hr7]; exact Nat.mod_lt _ b7
            have p1 : (spoilt : Int) % (q : Int) = (r7 : Int) := by rw [hr7]; simp
            have p2 : (spoilt : Int).tmod (q : Int) = (r7 : Int) := by rw [Int.tmod_eq_emod_of_nonneg (by omega)]; exact p1
            have p3 : ¬ q = 0 := by omega
            have p4 : wrap64 (spoilt : Int) = (spoilt : Int) := by unfold wrap64; omega
            have p5 := HSW.out
            have hr7I : (r7 : Int) < (q : Int) := by omega
            obtain ⟨ov, hov⟩ : ∃ ov, wr.cell? ⟨ng, r7, none⟩ = some ov := by
              have h1 := World.ownsRow.cellAt HLW.out.r1 r7 (by omega)
              have h2 := HLW.out.r1.1
              exact ⟨_, h1.trans (List.getElem?_eq_getElem (by omega))⟩
            have fz : wr.frozen? ⟨ng, r7, none⟩ = false := World.ownsRow.frozenAt HLW.out.r1 r7
            have hset := HLW.out.setNode hr7q (v := (spoilt : Int) - 233) HSP.out
            have HSET := Lib.hid hset
            clear hset hr7
            go_wp2_with fail
            go_region
            go_wp2_with fail
            go_meet
            case rel => exact ⟨_, _, HSET.out.drewN 1⟩
        case rest =>
          obtain ⟨na2, xs2, HLF⟩ := hcut
          obtain ⟨Wf, rfl⟩ : ∃ Wf : World, Wf = wc := ⟨_, rfl⟩
          clear t0 HBQ HLW
          have hgw := (HLF.out.since.block gx (lt_of_block HGX.out) (by omega)).trans HGX.out
          have hlw := HLF.out.block
          have hcc : ∀ x, Below Wf.heap.size Wf x → x.cell? ⟨gx, 0, none⟩ = some (.slice ea n ec) ∧ x.cell? ⟨gx, 1, none⟩ = some (.slice ia gi ic) ∧ x.cell? ⟨gx, 2, none⟩ = some (.int .i64 gm) ∧ x.cell? ⟨gx + 1, 0, none⟩ = some (.slice na2 q nc) ∧ x.cell? ⟨gx + 1, 1, none⟩ = some (.slice fa q fc) ∧ x.cell? ⟨gx + 1, 2, none⟩ = some (.int .i64 bk2) := fun x hx =>
            ⟨cells_kept hx _ _ (cell_of_block hgw 0), cells_kept hx _ _ (cell_of_block hgw 1), cells_kept hx _ _ (cell_of_block hgw 2), cells_kept hx _ _ (cell_of_block hlw 0), cells_kept hx _ _ (cell_of_block hlw 1), cells_kept hx _ _ (cell_of_block hlw 2)⟩
          have CC := Lib.hid hcc
          have hbw : Below wm.heap.size wm Wf := HX.out.trans (HLF.out.since.below HX.out.size (fun y hy => by have := HGXW.out; omega))
          have hq7 : q ≤ 100000000 := by omega
          have hla : LassoAt Wf ⟨xs2, ys, bk2⟩ (.slice na2 q nc) (.slice fa q fc) := ⟨nums_small HLF.out.r1 hq7 HLF.out.small.1, nums_small HLF.out.r2 hq7 HLF.out.small.2⟩
          obtain ⟨r, hr⟩ : ∃ r, r = acceptOk g ⟨xs2, ys, bk2⟩ := ⟨_, rfl⟩
          have ha1 := fun x (hx : Below Wf.heap.size Wf x) => lassoAccept_any x g _ _ (HG.out.below (below_then hbw hx)) ⟨xs2, ys, bk2⟩ _ _ (hla.below hx)
          have ha2 := fun x (hx : Below Wf.heap.size Wf x) => refAccept_any x g _ _ (HG.out.below (below_then hbw hx)) ⟨xs2, ys, bk2⟩ _ _ (hla.below hx)
          rw [← hr] at ha1 ha2
          unfold graphV lassoV at ha1 ha2
          rw [← HGM.out] at ha1 ha2
          have HA1 := Lib.hid ha1
          have HA2 := Lib.hid ha2
          have HBF : Hid (Below w.heap.size w Wf) := HB.out.trans (HLF.out.since.below HB.out.size (fun y hy => by have h1 := HGXW.out; have h2 := HBM.out; omega))
          clear hgw hlw hcc hbw hla hr ha1 ha2 HLF
          go_upto_region 18 with fail
          refine wp_region_noPanic ?_
          refine wp_region_held_drew (S := fun x => Below Wf.heap.size Wf x) (by kernel_rfl) (Below.refl _ _).drew (fun hH => ?_)
          refine wpAnyH_ready (rs := [0]) (by kernel_rfl) (by simp) ?_
          refine AllReadyH.cons rfl (fun K hK => ?_) AllReadyH.nil
          go_simp
          refine (awakeL_any _).mono ?_
          rintro e x1 ⟨rfl, hb⟩
          have hH1 : Below Wf.heap.size Wf x1 := below_then hH hb
          refine hK.out _ _ hH1 (fun _ => ?_)
          clear hK K hb hH
          refine wpAnyH_take (i := 1) (v := ?vFx1) rfl (by kernel_rfl) (by kernel_rfl) (by kernel_rfl) (fun _ _ _ h => h) (Or.inl ⟨by rfl, ?hyFx1⟩) (by assumption) ?_
          case hyFx1 => (intro x' hxx; obtain ⟨e0, e1, e2, e3, e4, e5⟩ := CC.out x' hxx; go_simp; try with_reducible rfl)
          change wpAnyH _ _ _ _ _ _ _ (Act.put _ (some 131) _) _
          simp only [Act.put, List.setIfInBounds_toArray, List.set_cons_zero, List.set_cons_succ]
          refine wpAnyH_take (i := 2) (v := ?vFx2) rfl (by kernel_rfl) (by kernel_rfl) (by kernel_rfl) (fun _ _ _ h => h) (Or.inl ⟨by rfl, ?hyFx2⟩) (by assumption) ?_
          case hyFx2 => (intro x' hxx; obtain ⟨e0, e1, e2, e3, e4, e5⟩ := CC.out x' hxx; go_simp; try with_reducible rfl)
          change wpAnyH _ _ _ _ _ _ _ (Act.put _ (some 132) _) _
          simp only [Act.put, List.setIfInBounds_toArray, List.set_cons_zero, List.set_cons_succ]
          refine wpAnyH_take (i := 3) (v := ?vFx3) rfl (by kernel_rfl) (by kernel_rfl) (by kernel_rfl) (fun _ _ _ h => h) (Or.inl ⟨by rfl, ?hyFx3⟩) (by assumption) ?_
          case hyFx3 => (intro x' hxx; obtain ⟨e0, e1, e2, e3, e4, e5⟩ := CC.out x' hxx; go_simp; try with_reducible rfl)
          change wpAnyH _ _ _ _ _ _ _ (Act.put _ (some 133) _) _
          simp only [Act.put, List.setIfInBounds_toArray, List.set_cons_zero, List.set_cons_succ]
          refine wpAnyH_take (i := 5) (v := ?vFx4) rfl (by kernel_rfl) (by kernel_rfl) (by kernel_rfl) (fun _ _ _ h => h) (Or.inl ⟨by rfl, ?hyFx4⟩) (by assumption) ?_
          case hyFx4 => (intro x' hxx; obtain ⟨e0, e1, e2, e3, e4, e5⟩ := CC.out x' hxx; go_simp; try with_reducible rfl)
          change wpAnyH _ _ _ _ _ _ _ (Act.put _ (some 135) _) _
          simp only [Act.put, List.setIfInBounds_toArray, List.set_cons_zero, List.set_cons_succ]
          refine wpAnyH_take (i := 6) (v := ?vFx5) rfl (by kernel_rfl) (by kernel_rfl) (by kernel_rfl) (fun _ _ _ h => h) (Or.inl ⟨by rfl, ?hyFx5⟩) (by assumption) ?_
          case hyFx5 => (intro x' hxx; obtain ⟨e0, e1, e2, e3, e4, e5⟩ := CC.out x' hxx; go_simp; try with_reducible rfl)
          change wpAnyH _ _ _ _ _ _ _ (Act.put _ (some 136) _) _
          simp only [Act.put, List.setIfInBounds_toArray, List.set_cons_zero, List.set_cons_succ]
          refine wpAnyH_ready (rs := [4]) (by kernel_rfl) (by simp) ?_
          refine AllReadyH.cons rfl (fun K hK => ?_) AllReadyH.nil
          go_simp
          refine (HA1.out x1 hH1).mono ?_
          rintro e x2 ⟨rfl, hb⟩
          have hH2 : Below Wf.heap.size Wf x2 := below_then hH1 hb
          refine hK.out _ _ hH2 (fun _ => ?_)
          clear hK K hb hH1
          refine wpAnyH_ready (rs := [7]) (by kernel_rfl) (by simp) ?_
          refine AllReadyH.cons rfl (fun K hK => ?_) AllReadyH.nil
          go_simp
          refine (HA2.out x2 hH2).mono ?_
          rintro e x3 ⟨rfl, hb⟩
          have hH3 : Below Wf.heap.size Wf x3 := below_then hH2 hb
          refine hK.out _ _ hH3 (fun _ => ?_)
          clear hK K hb hH2
          have hrr : (r == r) = true := by simp
          refine wpAnyH_take (i := 8) (v := ?vFx6) rfl (by kernel_rfl) (by kernel_rfl) (by kernel_rfl) (fun _ _ _ h => h) (Or.inl ⟨by rfl, ?hyFx6⟩) (by assumption) ?_
          case hyFx6 => (intro x' hxx; obtain ⟨e0, e1, e2, e3, e4, e5⟩ := CC.out x' hxx; go_simp; try with_reducible rfl)
          change wpAnyH _ _ _ _ _ _ _ (Act.put _ (some 138) _) _
          simp only [Act.put, List.setIfInBounds_toArray, List.set_cons_zero, List.set_cons_succ]
          refine wpAnyH_take (i := 9) (v := ?vFx7) rfl (by kernel_rfl) (by kernel_rfl) (by kernel_rfl) (fun _ _ _ h => h) (Or.inl ⟨by rfl, ?hyFx7⟩) (by assumption) ?_
          case hyFx7 => (intro x' hxx; obtain ⟨e0, e1, e2, e3, e4, e5⟩ := CC.out x' hxx; go_simp; try with_reducible rfl)
          change wpAnyH _ _ _ _ _ _ _ (Act.put _ (some 139) _) _
          simp only [Act.put, List.setIfInBounds_toArray, List.set_cons_zero, List.set_cons_succ]
          refine wpAnyH_take (i := 10) (v := ?vFx8) rfl (by kernel_rfl) (by kernel_rfl) (by kernel_rfl) (fun _ _ _ h => h) (Or.inl ⟨by rfl, ?hyFx8⟩) (by assumption) ?_
          case hyFx8 => (intro x' hxx; obtain ⟨e0, e1, e2, e3, e4, e5⟩ := CC.out x' hxx; go_simp; try with_reducible rfl)
          change wpAnyH _ _ _ _ _ _ _ (Act.put _ (some 12) _) _
          simp only [Act.put, List.setIfInBounds_toArray, List.set_cons_zero, List.set_cons_succ]
          refine wpAnyH_done (by kernel_rfl) ?_ _
          refine NoPanic.normal ?_
          go_wp2_with fail
          go_ret
          exact ⟨by first | rfl | simp, HBF.out.trans (hH3.mono HBF.out.size)⟩
end Go.Proofs.Ytoojalcfojflhaa
