/- Is there a lasso: the document's answer: the walk. -/
import Derived.Test.YtoojalcfojflhaaFrom
import Derived.Test.YtoojalcfojflhaaRAccept
import Derived.Test.YtoojalcfojflhaaFindP
import Derived.Test.YtoojalcfojflhaaGroups
namespace Go.Proofs.Ytoojalcfojflhaa
open Go.RowKit

def onlyL (n i : Nat) : List Bool := (List.replicate n false).set i true
theorem onlyL_len (n i : Nat) : (onlyL n i).length = n := by simp [onlyL]
theorem onlyL_at (n i u : Nat) (hi : i < n) : (onlyL n i).getD u false = true ↔ u = i := by
  unfold onlyL
  rw [getD_set_yes _ _ _ (by simpa using hi)]
  simp [List.getD_eq_getElem?_getD, List.getElem?_replicate]
  intro h
  split at h <;> simp at h
theorem only_from {g : GraphD} {n i : Nat} (hi : i < n) (v : Nat) : From g.succ (fun u => (onlyL n i).getD u false = true) v ↔ Reach g.succ i v := by
  constructor
  · rintro ⟨u, hu, hr⟩
    obtain rfl := (onlyL_at n i u hi).1 hu
    exact hr
  · exact fun hr => ⟨i, (onlyL_at n i i hi).2 rfl, hr⟩
theorem made_yes (n : Nat) : (madeCells (Value.bool false).cells (n * 1)).toList = yesV (List.replicate n false) := by
  apply List.ext_getElem?
  intro i
  simp only [madeCells, yesV, Nat.mul_one]
  by_cases h : i < n <;> simp [h, Value.cells, Nat.mod_one]
/-- The set of a node. -/
def TellsOnly (n i : Nat) (w : World) (e : Ending) (w' : World) : Prop :=
  ∃ b, e = .returned (.slice (some ⟨b, 0, none⟩) n n) ∧ w'.ownsRow w.heap.size 4 1 (.slice (some ⟨b, 0, none⟩) n n) n (yesV (onlyL n i)) ∧ Below w.heap.size w w'
set_option maxRecDepth 100000 in
set_option maxHeartbeats 4000000 in
theorem only_any (w : World) (n i : Nat) (hi : i < n) (hn : n ≤ 1000000) : Calls Try.prog 32 #[.int .i64 n, .int .i64 i] w (TellsOnly n i w) := by
  obtain ⟨i0, hi0, hz0, hz1, hz2⟩ := info_parts yes_info
  have hb2 : i0.bytes * n ≤ 281474976710656 := by rw [hz2]; omega
  have hiI : (i : Int) < (n : Int) := by omega
  clear hz2
  go_enter Try.func32, Try.ntmps32
  go_wp2_with (at_make; refine wpList_make_full _ rfl _ _ 66 rfl w.heap.size 4 i0 (.bool false) 1 Try.underlying66 hi0 hz0 hz1 .i64 .i64 _ _ n rfl rfl rfl rfl hb2 (by unfold maxLen; omega) (Nat.le_refl _) ?_; intro w4 ho hg; rw [made_yes] at ho; have r0 := ho.cellAt i (by omega); rw [yesV_at (by simpa using hi)] at r0; have f0 := ho.frozenAt i; have HO := Lib.hid (ho.stored i (.bool true)).1; have HB2 : Hid (Below w.heap.size w (w4.setCell ⟨w.heap.size, i, none⟩ (.bool true))) := ((Since.refl (fun _ => False) w).grown hg (by simp)).below (Nat.le_refl _) (fun k h => h.elim) |>.trans ((Since.setCell (F := fun k => k = w.heap.size) (p := ⟨w.heap.size, i, none⟩) (Since.refl _ w4) (.inl rfl) _).below hg.size (fun k hk => by omega)); clear ho hg)
  go_ret
  refine ⟨_, by first | rfl | simp, ?_, HB2.out⟩
  have h1 := HO.out
  rw [yesV_set] at h1
  exact h1
/-- The edges before one. -/
def upTo (a q : Nat) : Nat → Nat → Prop := fun a' k' => a' < a ∨ (a' = a ∧ k' < q)
/-- What the edges of circles round a node have met. -/
structure Got (g : GraphD) (i : Nat) (P : Nat → Nat → Prop) (m : Int) (any : Bool) : Prop where
  any : any = true ↔ ∃ a k, P a k ∧ Circ g i a k
  met : ∀ b, bitI m b = true ↔ ∃ a k, P a k ∧ Circ g i a k ∧ bitI (g.markOf a k) b = true
theorem Got.start {g : GraphD} {i : Nat} : Got g i (upTo 0 0) 0 false := by
  constructor
  · simp [upTo]
  · intro b; rw [bitI_zero]; simp [upTo]
theorem Got.skip {g : GraphD} {i a q : Nat} {m : Int} {any : Bool} (h : Got g i (upTo a q) m any) (hn : ¬ Circ g i a q) : Got g i (upTo a (q + 1)) m any := by
  have hP : ∀ a' k', Circ g i a' k' → (upTo a (q + 1) a' k' ↔ upTo a q a' k') := fun a' k' hc => by
    unfold upTo
    constructor
    · rintro (e | ⟨rfl, e⟩)
      · exact .inl e
      · rcases Nat.lt_or_ge k' q with e2 | e2
        · exact .inr ⟨rfl, e2⟩
        · obtain rfl : k' = q := by omega
          exact absurd hc hn
    · rintro (e | ⟨rfl, e⟩)
      · exact .inl e
      · exact .inr ⟨rfl, by omega⟩
  refine ⟨h.any.trans ?_, fun b => (h.met b).trans ?_⟩
  · exact ⟨fun ⟨a', k', h1, h2⟩ => ⟨a', k', (hP a' k' h2).2 h1, h2⟩, fun ⟨a', k', h1, h2⟩ => ⟨a', k', (hP a' k' h2).1 h1, h2⟩⟩
  · exact ⟨fun ⟨a', k', h1, h2, h3⟩ => ⟨a', k', (hP a' k' h2).2 h1, h2, h3⟩, fun ⟨a', k', h1, h2, h3⟩ => ⟨a', k', (hP a' k' h2).1 h1, h2, h3⟩⟩
theorem Got.add {g : GraphD} {i a q : Nat} {m : Int} {any : Bool} (h : Got g i (upTo a q) m any) (hc : Circ g i a q) : Got g i (upTo a (q + 1)) (bits .or .i64 m (g.markOf a q)) true := by
  have hs : ∀ a' k', upTo a q a' k' → upTo a (q + 1) a' k' := fun a' k' h1 => by
    rcases h1 with e | ⟨rfl, e⟩
    · exact .inl e
    · exact .inr ⟨rfl, by omega⟩
  have hn : upTo a (q + 1) a q := .inr ⟨rfl, by omega⟩
  have ho : ∀ a' k', upTo a (q + 1) a' k' → upTo a q a' k' ∨ (a' = a ∧ k' = q) := fun a' k' h1 => by
    rcases h1 with e | ⟨rfl, e⟩
    · exact .inl (.inl e)
    · rcases Nat.lt_or_ge k' q with e2 | e2
      · exact .inl (.inr ⟨rfl, e2⟩)
      · exact .inr ⟨rfl, by omega⟩
  refine ⟨⟨fun _ => ⟨a, q, hn, hc⟩, fun _ => rfl⟩, fun b => ?_⟩
  rw [bitI_or, Bool.or_eq_true, h.met b]
  constructor
  · rintro (⟨a', k', h1, h2, h3⟩ | h1)
    · exact ⟨a', k', hs _ _ h1, h2, h3⟩
    · exact ⟨a, q, hn, hc, h1⟩
  · rintro ⟨a', k', h1, h2, h3⟩
    rcases ho _ _ h1 with e | ⟨rfl, rfl⟩
    · exact .inl ⟨a', k', e, h2, h3⟩
    · exact .inr h3
theorem Got.row {g : GraphD} {i a q : Nat} {m : Int} {any : Bool} (h : Got g i (upTo a q) m any) (hn : ∀ k, q ≤ k → ¬ Circ g i a k) : Got g i (upTo (a + 1) 0) m any := by
  have hP : ∀ a' k', Circ g i a' k' → (upTo (a + 1) 0 a' k' ↔ upTo a q a' k') := fun a' k' hc => by
    unfold upTo
    constructor
    · rintro (e | ⟨-, e⟩)
      · rcases Nat.lt_or_ge a' a with e2 | e2
        · exact .inl e2
        · obtain rfl : a' = a := by omega
          rcases Nat.lt_or_ge k' q with e3 | e3
          · exact .inr ⟨rfl, e3⟩
          · exact absurd hc (hn k' e3)
      · omega
    · rintro (e | ⟨rfl, e⟩)
      · exact .inl (by omega)
      · exact .inl (by omega)
  refine ⟨h.any.trans ?_, fun b => (h.met b).trans ?_⟩
  · exact ⟨fun ⟨a', k', h1, h2⟩ => ⟨a', k', (hP a' k' h2).2 h1, h2⟩, fun ⟨a', k', h1, h2⟩ => ⟨a', k', (hP a' k' h2).1 h1, h2⟩⟩
  · exact ⟨fun ⟨a', k', h1, h2, h3⟩ => ⟨a', k', (hP a' k' h2).2 h1, h2, h3⟩, fun ⟨a', k', h1, h2, h3⟩ => ⟨a', k', (hP a' k' h2).1 h1, h2, h3⟩⟩
/-- Is there a lasso round a node? -/
def LasAt (g : GraphD) (i : Nat) : Prop := (∃ x0 : Nat, (x0 : Int) ∈ g.initial ∧ Reach g.succ x0 i) ∧ (∃ a k, Circ g i a k) ∧ ∀ b, b < g.marks.toNat → ∃ a k, Circ g i a k ∧ bitI (g.markOf a k) b = true
theorem LasAt.hasL {g : GraphD} {i : Nat} (h : LasAt g i) : HasL g := by
  obtain ⟨⟨x0, h1, h2⟩, h3, h4⟩ := h
  exact ⟨i, x0, h1, h2, h3, h4⟩
theorem hasL_none {g : GraphD} (hr : g.right = true) (h : ∀ i, i < g.edges.length → ¬ LasAt g i) : ¬ HasL g := by
  rintro ⟨i, x0, h1, h2, h3, h4⟩
  have hi : i < g.edges.length := by
    refine h2.stays (C := fun v => v < g.edges.length) (fun v _ k hk => ?_) ?_
    · obtain ⟨q, hq, rfl⟩ := g.succ_has hk
      exact (GraphD.right_to hr hq).1
    · obtain ⟨j, hj, e⟩ := List.getElem_of_mem h1
      obtain ⟨x, hx, hx2⟩ := GraphD.right_init hr hj
      rw [List.getD_eq_getElem?_getD, List.getElem?_eq_getElem hj, Option.getD_some, e] at hx
      omega
  exact h i hi ⟨⟨x0, h1, h2⟩, h3, h4⟩
theorem Got.full {g : GraphD} {i : Nat} {m : Int} {any : Bool} (h : Got g i (upTo g.edges.length 0) m any) (hi : ∃ x0 : Nat, (x0 : Int) ∈ g.initial ∧ Reach g.succ x0 i) : LasAt g i ↔ any = true ∧ ∀ b, b < g.marks.toNat → bitI m b = true := by
  have hP : ∀ a k, Circ g i a k → upTo g.edges.length 0 a k := fun a k hc => .inl (g.has_lt hc.1)
  constructor
  · rintro ⟨-, ⟨a, k, h1⟩, h2⟩
    refine ⟨h.any.2 ⟨a, k, hP a k h1, h1⟩, fun b hb => ?_⟩
    obtain ⟨a', k', h3, h4⟩ := h2 b hb
    exact (h.met b).2 ⟨a', k', hP a' k' h3, h3, h4⟩
  · rintro ⟨h1, h2⟩
    obtain ⟨a, k, -, h3⟩ := h.any.1 h1
    refine ⟨hi, ⟨a, k, h3⟩, fun b hb => ?_⟩
    obtain ⟨a', k', -, h4, h5⟩ := (h.met b).1 (h2 b hb)
    exact ⟨a', k', h4, h5⟩
/-- Which nodes are Initial, of the first q. -/
def InitTo (g : GraphD) (n : Nat) (xs : List Bool) (q : Nat) : Prop := xs.length = n ∧ ∀ u : Nat, xs.getD u false = true ↔ ∃ j, j < q ∧ g.initial.getD j 0 = (u : Int)
theorem InitTo.start (g : GraphD) (n : Nat) : InitTo g n (List.replicate n false) 0 := by
  refine ⟨by simp, fun u => ⟨fun h => ?_, fun ⟨j, hj, _⟩ => absurd hj (by omega)⟩⟩
  simp only [List.getD_eq_getElem?_getD, List.getElem?_replicate] at h
  split at h <;> simp at h
theorem InitTo.next {g : GraphD} {n : Nat} {xs : List Bool} {q x : Nat} (h : InitTo g n xs q) (hx : g.initial.getD q 0 = (x : Int)) (hn : x < n) : InitTo g n (xs.set x true) (q + 1) := by
  refine ⟨by simpa using h.1, fun u => ?_⟩
  rw [getD_set_yes _ _ _ (by rw [h.1]; exact hn), Bool.or_eq_true, h.2 u, decide_eq_true_eq]
  constructor
  · rintro (rfl | ⟨j, hj, e⟩)
    · exact ⟨q, by omega, hx⟩
    · exact ⟨j, by omega, e⟩
  · rintro ⟨j, hj, e⟩
    rcases Nat.lt_or_ge j q with e2 | e2
    · exact .inr ⟨j, e2, e⟩
    · obtain rfl : j = q := by omega
      left; omega
theorem InitTo.from_ {g : GraphD} {n : Nat} {xs : List Bool} (h : InitTo g n xs g.initial.length) (v : Nat) : From g.succ (fun u => xs.getD u false = true) v ↔ ∃ x0 : Nat, (x0 : Int) ∈ g.initial ∧ Reach g.succ x0 v := by
  constructor
  · rintro ⟨u, hu, hr⟩
    obtain ⟨j, hj, e⟩ := (h.2 u).1 hu
    refine ⟨u, ?_, hr⟩
    rw [← e, List.getD_eq_getElem?_getD, List.getElem?_eq_getElem hj]
    exact List.getElem_mem hj
  · rintro ⟨x0, h1, h2⟩
    refine ⟨x0, (h.2 x0).2 ?_, h2⟩
    obtain ⟨j, hj, e⟩ := List.getElem_of_mem h1
    exact ⟨j, hj, by rw [List.getD_eq_getElem?_getD, List.getElem?_eq_getElem hj]; exact e⟩
set_option maxRecDepth 100000 in
set_option maxHeartbeats 4000000 in
theorem has_any (w : World) (g : GraphD) (ev iv : Value) (h : GraphAt w g ev iv) (hr : g.right = true) :
    Calls Try.prog 17 #[graphV g ev iv] w fun e w' => (∃ b, e = .returned (.bool b) ∧ (b = true ↔ HasL g)) ∧ Below w.heap.size w w' := by
  obtain ⟨ea, ec, rfl, hel⟩ := h.edges.slice
  obtain ⟨ia, ic, rfl, hil⟩ := h.initial.slice
  have hn6 : g.edges.length ≤ 1000000 ∧ 0 ≤ g.marks ∧ g.marks ≤ 40 := by
    have h2 := hr
    unfold GraphD.right at h2
    simp only [Bool.and_eq_true, decide_eq_true_eq] at h2
    omega
  obtain ⟨hn6, hm0, hm40⟩ := hn6
  have HTO : Hid (∀ a k, g.has a k → g.toOf a k < g.edges.length ∧ ((g.edges.getD a []).getD k default).to = (g.toOf a k : Int)) := fun a k hk => GraphD.right_to hr hk
  have HINI : Hid (∀ j, j < g.initial.length → ∃ x : Nat, g.initial.getD j 0 = (x : Int) ∧ x < g.edges.length) := fun j hj => GraphD.right_init hr hj
  obtain ⟨mn, hmn⟩ : ∃ mn : Nat, g.marks = (mn : Int) := ⟨g.marks.toNat, by omega⟩
  have hmn40 : mn ≤ 40 := by omega
  have HMN : Hid (g.marks.toNat = mn) := by rw [Hid, hmn]; simp
  obtain ⟨n, hn⟩ : ∃ n, n = g.edges.length := ⟨_, rfl⟩
  obtain ⟨k, hk⟩ : ∃ i, i = g.initial.length := ⟨_, rfl⟩
  rw [← hn] at hn6
  rw [← hk] at hil
  have hA := (Below.refl w.heap.size w).alloc (Nat.le_refl _) (.cells #[.slice ea n ec, .slice ia k ic, .int .i64 (mn : Int)] 25)
  have HA := Lib.hid hA
  have HGB := Lib.hid (heap_alloc_new w (.cells #[.slice ea n ec, .slice ia k ic, .int .i64 (mn : Int)] 25))
  have hG := h.below hA
  have HFROM : Hid (∀ x, Below (w.alloc (.cells #[.slice ea n ec, .slice ia k ic, .int .i64 (mn : Int)] 25)).heap.size (w.alloc (.cells #[.slice ea n ec, .slice ia k ic, .int .i64 (mn : Int)] 25)) x → ∀ (lb B : Nat) (l : List Bool), l.length = n → x.ownsRow B 4 1 (.slice (some ⟨lb, 0, none⟩) n n) n (yesV l) → Calls Try.prog 31 #[.agg #[.slice ea n ec, .slice ia k ic, .int .i64 (mn : Int)], .slice (some ⟨lb, 0, none⟩) n n] x (TellsFrom g n (fun u => l.getD u false = true) x)) := fun x hx lb B l hl ho => by
    have h1 := from_any x g _ _ (hG.below hx) hr lb n l (by rw [← hn]; exact hl) (ho.lt lb rfl).2 (ho.cells rfl)
    unfold graphV at h1
    rw [← hn, ← hk, hmn] at h1
    exact h1
  have HR := Lib.hid hr
  have HN := Lib.hid hn
  have HK := Lib.hid hk
  have HE := hG.edges
  have HI := hG.initial
  rw [← hn] at HE
  rw [← hk] at HI
  replace HE := Lib.hid HE
  replace HI := Lib.hid HI
  unfold graphV
  rw [← hn, ← hk, hmn]
  clear hn hk hG hA h hel hr hmn hm0 hm40
  obtain ⟨i0, hi0, hz0, hz1, hz2⟩ := info_parts yes_info
  have hb2 : i0.bytes * n ≤ 281474976710656 := by rw [hz2]; omega
  clear hz2
  go_enter Try.func17, Try.ntmps17
  go_upto_region 1 with fail
  generalize World.alloc w _ = W at HA HGB HE HI HFROM ⊢
  obtain ⟨gx, hgx⟩ : ∃ gx, gx = w.heap.size := ⟨_, rfl⟩
  rw [← hgx] at HGB ⊢
  have hsz : gx < W.heap.size := lt_of_block HGB.out
  have HGX := Lib.hid hgx
  clear hgx
  have HCELL : Hid (∀ x, Below W.heap.size W x → x.cell? ⟨gx, 0, none⟩ = some (.slice ea n ec) ∧ x.cell? ⟨gx, 1, none⟩ = some (.slice ia k ic) ∧ x.cell? ⟨gx, 2, none⟩ = some (.int .i64 (mn : Int))) := fun x hx => ⟨cells_kept hx _ _ (cell_of_block HGB.out 0), cells_kept hx _ _ (cell_of_block HGB.out 1), cells_kept hx _ _ (cell_of_block HGB.out 2)⟩
  have c0 := (HCELL.out W (Below.refl _ _)).1
  go_wp2_with (at_make; refine wpList_make_full _ rfl _ _ 66 rfl W.heap.size 4 i0 (.bool false) 1 Try.underlying66 hi0 hz0 hz1 .i64 .i64 _ _ n rfl rfl rfl rfl hb2 (by unfold maxLen; omega) (Nat.le_refl _) ?_; intro w4 ho hg; rw [made_yes] at ho; have HO := Lib.hid ho; have HS : Hid (Below W.heap.size W w4) := ((Since.refl (fun _ => False) W).grown hg (by simp)).below (Nat.le_refl _) (fun k h => h.elim); clear ho hg)
  clear hi0 hz0 hz1 hb2 c0
  obtain ⟨sb, hsb⟩ : ∃ sb, sb = W.heap.size := ⟨_, rfl⟩
  rw [← hsb] at HO ⊢
  have HSB := Lib.hid hsb
  clear hsb
  go_loopg [5] k (fun gg s5 wr => ∃ (q : Nat) (xs : List Bool), q ≤ k ∧ Hid (gg = k - q) ∧ s5 = .int .i64 q ∧ Hid (wr.ownsRow sb 4 1 (.slice (some ⟨sb, 0, none⟩) n n) n (yesV xs)) ∧ Hid (InitTo g n xs q) ∧ Hid (Below W.heap.size W wr))
  case atStart => exact ⟨0, _, Nat.zero_le _, rfl, rfl, HO.out, InitTo.start g n, HS.out⟩
  case round =>
    obtain ⟨q, xs, hq, HG, rfl, HX, HIT, HB⟩ := hrel
    clear HO HS
    obtain ⟨c0, c1, c2⟩ := HCELL.out wr HB.out
    by_cases hlq : q < k
    · have hlqI : (q : Int) < (k : Int) := by omega
      obtain ⟨-, qb, qo, rfl, hqb, hqc, -⟩ := HI.out.part q (by rw [← HK.out]; exact hlq)
      obtain ⟨t, ht1, ht2⟩ := HINI.out q (by rw [← HK.out]; exact hlq)
      rw [← HN.out] at ht2
      rw [ht1] at hqc
      have ht2I : (t : Int) < (n : Int) := by omega
      have cq := cells_kept HB.out _ _ hqc
      have HT := Lib.hid ht1
      have f0 := HX.out.frozenAt t
      have hxl := HIT.out.1
      obtain ⟨ov, hov⟩ : ∃ ov, wr.cell? ⟨sb, t, none⟩ = some ov := ⟨_, (HX.out.cellAt t (by omega)).trans (List.getElem?_eq_getElem (by rw [yesV_len]; omega))⟩
      have HX2 := Lib.hid (HX.out.stored t (.bool true)).1
      have HB2 : Hid (Below W.heap.size W (wr.setCell ⟨sb, t, none⟩ (.bool true))) := HB.out.trans ((Since.setCell (F := fun k => k = sb) (p := ⟨sb, t, none⟩) (Since.refl _ wr) (.inl rfl) _).below HB.out.size (fun k hk => by have := HSB.out; omega))
      clear ht1 hqc hqb
      go_wp2_with fail
      go_roundg (k - (q + 1))
      case measure => rw [HG.out]; omega
      case rel => exact ⟨q + 1, _, by omega, rfl, by simp, by have h1 := HX2.out; rw [yesV_set] at h1; exact h1, HIT.out.next HT.out ht2, HB2.out⟩
    · obtain rfl : k = q := by omega
      go_wp2_with fail
      refine (HFROM.out _ HB.out sb sb xs HIT.out.1 HX.out).mono ?_
      rintro e wq ⟨cv, come, rfl, hcr, hcl, hcf, hcb⟩
      obtain ⟨ca, cc, rfl, -, -⟩ := row_slice hcr
      have HCR := Lib.hid hcr
      have HCL := Lib.hid hcl
      have HIT2 := HIT.out
      rw [HK.out] at HIT2
      have HCF : Hid (∀ v, come.getD v false = true ↔ ∃ x0 : Nat, (x0 : Int) ∈ g.initial ∧ Reach g.succ x0 v) := fun v => (hcf v).trans (HIT2.from_ v)
      have HBC := Lib.hid (below_then HB.out hcb)
      clear hcr hcl hcf HIT2 HIT hcb HX HB c0 c1 c2 hlq HG hq
      obtain ⟨wo, rfl⟩ : ∃ wo : World, wo = wr := ⟨_, rfl⟩
      go_wp2_with fail
      go_loopg [7] n (fun gg s7 w' => ∃ i : Nat, i ≤ n ∧ Hid (gg = n - i) ∧ s7 = .int .i64 i ∧ Hid (Below wq.heap.size wq w') ∧ Hid (∀ j, j < i → ¬ LasAt g j))
      case atStart => exact ⟨0, Nat.zero_le _, rfl, rfl, Below.refl _ _, fun j hj => by omega⟩
      case round =>
        obtain ⟨i, hi, HG, rfl, HBI, HNO⟩ := hrel
        obtain ⟨wi, rfl⟩ : ∃ wi : World, wi = wr := ⟨_, rfl⟩
        by_cases hin : i < n
        · have hinI : (i : Int) < (n : Int) := by omega
          obtain ⟨cb, cc', hce, -, -⟩ := row_some HCR.out (by omega)
          cases hce
          have HBW := Lib.hid (below_then HBC.out HBI.out)
          have r0 := (row_below HCR.out HBI.out).cellAt i (by omega)
          rw [yesV_at (by rw [HCL.out]; exact hin)] at r0
          obtain ⟨ci, hci⟩ : ∃ ci, ci = come.getD i false := ⟨_, rfl⟩
          rw [← hci] at r0
          have HCI := Lib.hid hci
          clear hci
          cases ci with
          | false =>
            go_wp2_with fail
            go_roundg (n - (i + 1))
            case measure => rw [HG.out]; omega
            case rel => exact ⟨i + 1, by omega, rfl, by simp, HBI.out, fun j hj => by
              by_cases e : j = i
              · subst e
                rintro ⟨h1, -, -⟩
                have := (HCF.out j).2 h1
                rw [← HCI.out] at this; cases this
              · exact HNO.out j (by omega)⟩
          | true =>
            have HCOME : Hid (∃ x0 : Nat, (x0 : Int) ∈ g.initial ∧ Reach g.succ x0 i) := (HCF.out i).1 HCI.out.symm
            have CC : Hid (∀ x, Below wi.heap.size wi x → x.cell? ⟨gx, 0, none⟩ = some (.slice ea n ec) ∧ x.cell? ⟨gx, 1, none⟩ = some (.slice ia k ic) ∧ x.cell? ⟨gx, 2, none⟩ = some (.int .i64 (mn : Int))) := fun x hx => HCELL.out x (below_then HBW.out hx)
            go_upto_region 12 with fail
            clear r0
            refine wp_region_noPanic ?_
            refine wp_region_held_drew (S := fun x => Below wi.heap.size wi x) (by kernel_rfl) (Below.refl _ _).drew (fun hH => ?_)
            refine wpAnyH_take (i := 0) (v := ?vp1) rfl (by kernel_rfl) (by kernel_rfl) (by kernel_rfl) (fun _ _ _ h => h) (Or.inl ⟨by rfl, ?hyp1⟩) (by assumption) ?_
            case hyp1 => (intro x' hxx; obtain ⟨e0, e1, e2⟩ := CC.out x' hxx; go_simp; try with_reducible rfl)
            change wpAnyH _ _ _ _ _ _ _ (Act.put _ (some 47) _) _
            simp only [Act.put, List.setIfInBounds_toArray, List.set_cons_zero, List.set_cons_succ]
            refine wpAnyH_take (i := 1) (v := ?vp2) rfl (by kernel_rfl) (by kernel_rfl) (by kernel_rfl) (fun _ _ _ h => h) (Or.inl ⟨by rfl, ?hyp2⟩) (by assumption) ?_
            case hyp2 => (intro x' hxx; obtain ⟨e0, e1, e2⟩ := CC.out x' hxx; go_simp; try with_reducible rfl)
            change wpAnyH _ _ _ _ _ _ _ (Act.put _ (some 48) _) _
            simp only [Act.put, List.setIfInBounds_toArray, List.set_cons_zero, List.set_cons_succ]
            refine wpAnyH_take (i := 2) (v := ?vp3) rfl (by kernel_rfl) (by kernel_rfl) (by kernel_rfl) (fun _ _ _ h => h) (Or.inl ⟨by rfl, ?hyp3⟩) (by assumption) ?_
            case hyp3 => (intro x' hxx; obtain ⟨e0, e1, e2⟩ := CC.out x' hxx; go_simp; try with_reducible rfl)
            change wpAnyH _ _ _ _ _ _ _ (Act.put _ (some 49) _) _
            simp only [Act.put, List.setIfInBounds_toArray, List.set_cons_zero, List.set_cons_succ]
            refine wpAnyH_ready (rs := [3]) (by kernel_rfl) (by simp) ?_
            refine AllReadyH.cons rfl (fun K hK => ?_) AllReadyH.nil
            go_simp
            refine (only_any _ n i hin hn6).mono ?_
            rintro e pw3 ⟨ob, rfl, hor, hb⟩
            have hHp3 : Below wi.heap.size wi pw3 := below_then hH hb
            refine hK.out _ _ hHp3 (fun _ => ?_)
            clear hK K hb hH
            refine wpAnyH_ready (rs := [4]) (by kernel_rfl) (by simp) ?_
            refine AllReadyH.cons rfl (fun K hK => ?_) AllReadyH.nil
            go_simp
            refine (HFROM.out pw3 (below_then HBW.out hHp3) ob _ _ (onlyL_len n i) hor).mono ?_
            rintro e wt0 ⟨tv, there, rfl, htr, htl, htf, hb⟩
            obtain ⟨pw4, rfl⟩ : ∃ x : World, x = wt0 := ⟨_, rfl⟩
            have hHp4 : Below wi.heap.size wi pw4 := below_then hHp3 hb
            refine hK.out _ _ hHp4 (fun _ => ?_)
            clear hK K hb hHp3
            refine wpAnyH_take (i := 5) (v := ?vp4) rfl (by kernel_rfl) (by kernel_rfl) (by kernel_rfl) (fun _ _ _ h => h) (Or.inl ⟨by rfl, ?hyp4⟩) (by assumption) ?_
            case hyp4 => (intro x' hxx; obtain ⟨e0, e1, e2⟩ := CC.out x' hxx; go_simp; try with_reducible rfl)
            change wpAnyH _ _ _ _ _ _ _ (Act.put _ (some 8) _) _
            simp only [Act.put, List.setIfInBounds_toArray, List.set_cons_zero, List.set_cons_succ]
            refine wpAnyH_done (by kernel_rfl) ?_ _
            refine NoPanic.normal ?_
            have hH2 := hHp4
            clear hHp4
            obtain ⟨wt0, rfl⟩ : ∃ x : World, x = pw4 := ⟨_, rfl⟩
            obtain ⟨ta, tc, rfl, -, -⟩ := row_slice htr
            obtain ⟨tb, tc', hte, -, -⟩ := row_some htr (by omega)
            cases hte
            have HTR := Lib.hid htr
            have HTL := Lib.hid htl
            have HTF : Hid (∀ v, there.getD v false = true ↔ Reach g.succ i v) := fun v => (htf v).trans (only_from hin v)
            have HBT := Lib.hid (below_then HBW.out hH2)
            have HBT2 := Lib.hid (below_then HBI.out hH2)
            clear htr htl htf hH2 CC hor
            obtain ⟨wt, rfl⟩ : ∃ wt : World, wt = wt0 := ⟨_, rfl⟩
            go_wp2_with fail
            go_loopg [9, 10, 11] n (fun gg s9 s10 s11 w' => ∃ (a : Nat) (m : Int) (any : Bool), a ≤ n ∧ Hid (gg = n - a) ∧ s9 = .int .i64 m ∧ s10 = .bool any ∧ s11 = .int .i64 a ∧ Hid (Below wt.heap.size wt w') ∧ Hid (Got g i (upTo a 0) m any))
            case atStart => exact ⟨0, 0, false, Nat.zero_le _, rfl, rfl, rfl, rfl, (Below.refl _ _), Got.start⟩
            case round =>
              obtain ⟨a, m, any, ha, HG2, rfl, rfl, rfl, HBA, HGOT⟩ := hrel
              obtain ⟨wa, rfl⟩ : ∃ wa : World, wa = wr := ⟨_, rfl⟩
              have HBWA := Lib.hid (below_then HBT.out HBA.out)
              by_cases han : a < n
              · have hanI : (a : Int) < (n : Int) := by omega
                obtain ⟨-, eb, eo, ka, kc, rfl, heb, hec, hel2⟩ := HE.out.part a (by rw [← HN.out]; exact han)
                obtain ⟨ln, hln⟩ : ∃ ln, ln = (g.edges.getD a []).length := ⟨_, rfl⟩
                rw [← hln] at hec hel2
                have hlb : ln ≤ 9223372036854775807 := by obtain ⟨_, _, _, h⟩ := hel2.slice; omega
                have HLN2 := Lib.hid hln
                have HEL := Lib.hid hel2
                have HEC : Hid (∀ x, Below W.heap.size W x → x.cell? ⟨eb, eo + a, none⟩ = some (.slice ka ln kc)) := fun x hx => cells_kept hx _ _ hec
                clear hln hel2 heb hec
                obtain ⟨b1, hb1⟩ : ∃ b1, b1 = there.getD a false := ⟨_, rfl⟩
                have CC : Hid (∀ x, Below wa.heap.size wa x → x.cell? ⟨gx, 0, none⟩ = some (.slice (some ⟨eb, eo, none⟩) n ec) ∧ x.cell? ⟨gx, 1, none⟩ = some (.slice ia k ic) ∧ x.cell? ⟨gx, 2, none⟩ = some (.int .i64 (mn : Int)) ∧ x.cell? ⟨tb, a, none⟩ = some (.bool b1)) := fun x hx => by
                  obtain ⟨e0, e1, e2⟩ := HCELL.out x (below_then HBWA.out hx)
                  refine ⟨e0, e1, e2, ?_⟩
                  rw [(row_below HTR.out (below_then HBA.out hx)).cellAt a (by omega), yesV_at (by rw [HTL.out]; exact han), hb1]
                have HB1 : Hid (b1 = true ↔ Reach g.succ i a) := by rw [Hid, hb1]; exact HTF.out a
                clear hb1
                go_upto_region 17 with fail
                go_cut [12] (fun s12 w' => ∃ bk : Bool, s12 = .bool bk ∧ Hid (bk = true ↔ Reach g.succ i a ∧ Reach g.succ a i) ∧ Hid (Below wa.heap.size wa w'))
                case first =>
                  cases b1 with
                  | false =>
                    refine wp_region_noPanic ?_
                    refine wp_region_held_drew (S := fun x => Below wa.heap.size wa x) (by kernel_rfl) (Below.refl _ _).drew (fun hH => ?_)
                    refine wpAnyH_take (i := 0) (v := ?vf171) rfl (by kernel_rfl) (by kernel_rfl) (by kernel_rfl) (fun _ _ _ h => h) (Or.inl ⟨by rfl, ?hyf171⟩) (by assumption) ?_
                    case hyf171 => (intro x' hxx; obtain ⟨e0, e1, e2, e3⟩ := CC.out x' hxx; go_simp; try with_reducible rfl)
                    change wpAnyH _ _ _ _ _ _ _ (Act.put _ (some 57) _) _
                    simp only [Act.put, List.setIfInBounds_toArray, List.set_cons_zero, List.set_cons_succ]
                    refine wpAnyH_take (i := 1) (v := ?vf172) rfl (by kernel_rfl) (by kernel_rfl) (by kernel_rfl) (fun _ _ _ h => h) (Or.inl ⟨by rfl, ?hyf172⟩) (by assumption) ?_
                    case hyf172 => (intro x' hxx; obtain ⟨e0, e1, e2, e3⟩ := CC.out x' hxx; go_simp; try with_reducible rfl)
                    change wpAnyH _ _ _ _ _ _ _ (Act.put _ (some 58) _) _
                    simp only [Act.put, List.setIfInBounds_toArray, List.set_cons_zero, List.set_cons_succ]
                    refine wpAnyH_take (i := 2) (v := ?vf173) rfl (by kernel_rfl) (by kernel_rfl) (by kernel_rfl) (fun _ _ _ h => h) (Or.inl ⟨by rfl, ?hyf173⟩) (by assumption) ?_
                    case hyf173 => (intro x' hxx; obtain ⟨e0, e1, e2, e3⟩ := CC.out x' hxx; go_simp; try with_reducible rfl)
                    change wpAnyH _ _ _ _ _ _ _ (Act.put _ (some 59) _) _
                    simp only [Act.put, List.setIfInBounds_toArray, List.set_cons_zero, List.set_cons_succ]
                    refine wpAnyH_take (i := 3) (v := ?vf174) rfl (by kernel_rfl) (by kernel_rfl) (by kernel_rfl) (fun _ _ _ h => h) (Or.inl ⟨by rfl, ?hyf174⟩) (by assumption) ?_
                    case hyf174 => (intro x' hxx; obtain ⟨e0, e1, e2, e3⟩ := CC.out x' hxx; go_simp; try with_reducible rfl)
                    change wpAnyH _ _ _ _ _ _ _ (Act.put _ (some 60) _) _
                    simp only [Act.put, List.setIfInBounds_toArray, List.set_cons_zero, List.set_cons_succ]
                    refine wpAnyH_take (i := 4) (v := ?vf175) rfl (by kernel_rfl) (by kernel_rfl) (by kernel_rfl) (fun _ _ _ h => h) (Or.inl ⟨by rfl, ?hyf175⟩) (by assumption) ?_
                    case hyf175 => (intro x' hxx; obtain ⟨e0, e1, e2, e3⟩ := CC.out x' hxx; go_simp; try with_reducible rfl)
                    change wpAnyH _ _ _ _ _ _ _ (Act.put _ (some 61) _) _
                    simp only [Act.put, List.setIfInBounds_toArray, List.set_cons_zero, List.set_cons_succ]
                    refine wpAnyH_take (i := 5) (v := undef) rfl (by kernel_rfl) (by kernel_rfl) (by kernel_rfl) (fun _ _ _ h => h) (Or.inr ⟨by rfl, rfl⟩) (by assumption) ?_
                    change wpAnyH _ _ _ _ _ _ _ (Act.put _ (some 62) _) _
                    simp only [Act.put, List.setIfInBounds_toArray, List.set_cons_zero, List.set_cons_succ]
                    refine wpAnyH_take (i := 6) (v := undef) rfl (by kernel_rfl) (by kernel_rfl) (by kernel_rfl) (fun _ _ _ h => h) (Or.inr ⟨by rfl, rfl⟩) (by assumption) ?_
                    change wpAnyH _ _ _ _ _ _ _ (Act.put _ (some 63) _) _
                    simp only [Act.put, List.setIfInBounds_toArray, List.set_cons_zero, List.set_cons_succ]
                    refine wpAnyH_take (i := 7) (v := undef) rfl (by kernel_rfl) (by kernel_rfl) (by kernel_rfl) (fun _ _ _ h => h) (Or.inr ⟨by rfl, rfl⟩) (by assumption) ?_
                    change wpAnyH _ _ _ _ _ _ _ (Act.put _ (some 64) _) _
                    simp only [Act.put, List.setIfInBounds_toArray, List.set_cons_zero, List.set_cons_succ]
                    refine wpAnyH_take (i := 8) (v := undef) rfl (by kernel_rfl) (by kernel_rfl) (by kernel_rfl) (fun _ _ _ h => h) (Or.inr ⟨by rfl, rfl⟩) (by assumption) ?_
                    change wpAnyH _ _ _ _ _ _ _ (Act.put _ (some 65) _) _
                    simp only [Act.put, List.setIfInBounds_toArray, List.set_cons_zero, List.set_cons_succ]
                    refine wpAnyH_take (i := 9) (v := undef) rfl (by kernel_rfl) (by kernel_rfl) (by kernel_rfl) (fun _ _ _ h => h) (Or.inr ⟨by rfl, rfl⟩) (by assumption) ?_
                    change wpAnyH _ _ _ _ _ _ _ (Act.put _ (some 66) _) _
                    simp only [Act.put, List.setIfInBounds_toArray, List.set_cons_zero, List.set_cons_succ]
                    refine wpAnyH_take (i := 10) (v := undef) rfl (by kernel_rfl) (by kernel_rfl) (by kernel_rfl) (fun _ _ _ h => h) (Or.inr ⟨by rfl, rfl⟩) (by assumption) ?_
                    change wpAnyH _ _ _ _ _ _ _ (Act.put _ (some 67) _) _
                    simp only [Act.put, List.setIfInBounds_toArray, List.set_cons_zero, List.set_cons_succ]
                    refine wpAnyH_take (i := 11) (v := undef) rfl (by kernel_rfl) (by kernel_rfl) (by kernel_rfl) (fun _ _ _ h => h) (Or.inr ⟨by rfl, rfl⟩) (by assumption) ?_
                    change wpAnyH _ _ _ _ _ _ _ (Act.put _ (some 68) _) _
                    simp only [Act.put, List.setIfInBounds_toArray, List.set_cons_zero, List.set_cons_succ]
                    refine wpAnyH_take (i := 12) (v := undef) rfl (by kernel_rfl) (by kernel_rfl) (by kernel_rfl) (fun _ _ _ h => h) (Or.inr ⟨by rfl, rfl⟩) (by assumption) ?_
                    change wpAnyH _ _ _ _ _ _ _ (Act.put _ (some 69) _) _
                    simp only [Act.put, List.setIfInBounds_toArray, List.set_cons_zero, List.set_cons_succ]
                    refine wpAnyH_take (i := 13) (v := ?vf1714) rfl (by kernel_rfl) (by kernel_rfl) (by kernel_rfl) (fun _ _ _ h => h) (Or.inl ⟨by rfl, ?hyf1714⟩) (by assumption) ?_
                    case hyf1714 => (intro x' hxx; obtain ⟨e0, e1, e2, e3⟩ := CC.out x' hxx; go_simp; try with_reducible rfl)
                    change wpAnyH _ _ _ _ _ _ _ (Act.put _ (some 70) _) _
                    simp only [Act.put, List.setIfInBounds_toArray, List.set_cons_zero, List.set_cons_succ]
                    refine wpAnyH_take (i := 14) (v := ?vf1715) rfl (by kernel_rfl) (by kernel_rfl) (by kernel_rfl) (fun _ _ _ h => h) (Or.inl ⟨by rfl, ?hyf1715⟩) (by assumption) ?_
                    case hyf1715 => (intro x' hxx; obtain ⟨e0, e1, e2, e3⟩ := CC.out x' hxx; go_simp; try with_reducible rfl)
                    change wpAnyH _ _ _ _ _ _ _ (Act.put _ (some 12) _) _
                    simp only [Act.put, List.setIfInBounds_toArray, List.set_cons_zero, List.set_cons_succ]
                    refine wpAnyH_done (by kernel_rfl) ?_ _
                    refine NoPanic.normal ?_
                    go_wp2_with fail
                    go_meet
                    case rel => exact ⟨false, by first | rfl | simp, ⟨fun h => (by cases h), fun h => HB1.out.2 h.1⟩, hH⟩
                  | true =>
                    have HB1T := HB1.out.1 rfl
                    refine wp_region_noPanic ?_
                    refine wp_region_held_drew (S := fun x => Below wa.heap.size wa x) (by kernel_rfl) (Below.refl _ _).drew (fun hH => ?_)
                    refine wpAnyH_take (i := 0) (v := ?vt171) rfl (by kernel_rfl) (by kernel_rfl) (by kernel_rfl) (fun _ _ _ h => h) (Or.inl ⟨by rfl, ?hyt171⟩) (by assumption) ?_
                    case hyt171 => (intro x' hxx; obtain ⟨e0, e1, e2, e3⟩ := CC.out x' hxx; go_simp; try with_reducible rfl)
                    change wpAnyH _ _ _ _ _ _ _ (Act.put _ (some 57) _) _
                    simp only [Act.put, List.setIfInBounds_toArray, List.set_cons_zero, List.set_cons_succ]
                    refine wpAnyH_take (i := 1) (v := ?vt172) rfl (by kernel_rfl) (by kernel_rfl) (by kernel_rfl) (fun _ _ _ h => h) (Or.inl ⟨by rfl, ?hyt172⟩) (by assumption) ?_
                    case hyt172 => (intro x' hxx; obtain ⟨e0, e1, e2, e3⟩ := CC.out x' hxx; go_simp; try with_reducible rfl)
                    change wpAnyH _ _ _ _ _ _ _ (Act.put _ (some 58) _) _
                    simp only [Act.put, List.setIfInBounds_toArray, List.set_cons_zero, List.set_cons_succ]
                    refine wpAnyH_take (i := 2) (v := ?vt173) rfl (by kernel_rfl) (by kernel_rfl) (by kernel_rfl) (fun _ _ _ h => h) (Or.inl ⟨by rfl, ?hyt173⟩) (by assumption) ?_
                    case hyt173 => (intro x' hxx; obtain ⟨e0, e1, e2, e3⟩ := CC.out x' hxx; go_simp; try with_reducible rfl)
                    change wpAnyH _ _ _ _ _ _ _ (Act.put _ (some 59) _) _
                    simp only [Act.put, List.setIfInBounds_toArray, List.set_cons_zero, List.set_cons_succ]
                    refine wpAnyH_take (i := 3) (v := ?vt174) rfl (by kernel_rfl) (by kernel_rfl) (by kernel_rfl) (fun _ _ _ h => h) (Or.inl ⟨by rfl, ?hyt174⟩) (by assumption) ?_
                    case hyt174 => (intro x' hxx; obtain ⟨e0, e1, e2, e3⟩ := CC.out x' hxx; go_simp; try with_reducible rfl)
                    change wpAnyH _ _ _ _ _ _ _ (Act.put _ (some 60) _) _
                    simp only [Act.put, List.setIfInBounds_toArray, List.set_cons_zero, List.set_cons_succ]
                    refine wpAnyH_take (i := 4) (v := ?vt175) rfl (by kernel_rfl) (by kernel_rfl) (by kernel_rfl) (fun _ _ _ h => h) (Or.inl ⟨by rfl, ?hyt175⟩) (by assumption) ?_
                    case hyt175 => (intro x' hxx; obtain ⟨e0, e1, e2, e3⟩ := CC.out x' hxx; go_simp; try with_reducible rfl)
                    change wpAnyH _ _ _ _ _ _ _ (Act.put _ (some 61) _) _
                    simp only [Act.put, List.setIfInBounds_toArray, List.set_cons_zero, List.set_cons_succ]
                    refine wpAnyH_take (i := 5) (v := ?vt176) rfl (by kernel_rfl) (by kernel_rfl) (by kernel_rfl) (fun _ _ _ h => h) (Or.inl ⟨by rfl, ?hyt176⟩) (by assumption) ?_
                    case hyt176 => (intro x' hxx; obtain ⟨e0, e1, e2, e3⟩ := CC.out x' hxx; go_simp; try with_reducible rfl)
                    change wpAnyH _ _ _ _ _ _ _ (Act.put _ (some 62) _) _
                    simp only [Act.put, List.setIfInBounds_toArray, List.set_cons_zero, List.set_cons_succ]
                    refine wpAnyH_take (i := 6) (v := ?vt177) rfl (by kernel_rfl) (by kernel_rfl) (by kernel_rfl) (fun _ _ _ h => h) (Or.inl ⟨by rfl, ?hyt177⟩) (by assumption) ?_
                    case hyt177 => (intro x' hxx; obtain ⟨e0, e1, e2, e3⟩ := CC.out x' hxx; go_simp; try with_reducible rfl)
                    change wpAnyH _ _ _ _ _ _ _ (Act.put _ (some 63) _) _
                    simp only [Act.put, List.setIfInBounds_toArray, List.set_cons_zero, List.set_cons_succ]
                    refine wpAnyH_take (i := 7) (v := ?vt178) rfl (by kernel_rfl) (by kernel_rfl) (by kernel_rfl) (fun _ _ _ h => h) (Or.inl ⟨by rfl, ?hyt178⟩) (by assumption) ?_
                    case hyt178 => (intro x' hxx; obtain ⟨e0, e1, e2, e3⟩ := CC.out x' hxx; go_simp; try with_reducible rfl)
                    change wpAnyH _ _ _ _ _ _ _ (Act.put _ (some 64) _) _
                    simp only [Act.put, List.setIfInBounds_toArray, List.set_cons_zero, List.set_cons_succ]
                    refine wpAnyH_take (i := 10) (v := ?vt179) rfl (by kernel_rfl) (by kernel_rfl) (by kernel_rfl) (fun _ _ _ h => h) (Or.inl ⟨by rfl, ?hyt179⟩) (by assumption) ?_
                    case hyt179 => (intro x' hxx; obtain ⟨e0, e1, e2, e3⟩ := CC.out x' hxx; go_simp; try with_reducible rfl)
                    change wpAnyH _ _ _ _ _ _ _ (Act.put _ (some 67) _) _
                    simp only [Act.put, List.setIfInBounds_toArray, List.set_cons_zero, List.set_cons_succ]
                    refine wpAnyH_ready (rs := [8]) (by kernel_rfl) (by simp) ?_
                    refine AllReadyH.cons rfl (fun K hK => ?_) AllReadyH.nil
                    go_simp
                    refine (only_any _ n a han hn6).mono ?_
                    rintro e t17w8 ⟨ob, rfl, hor, hb⟩
                    have hHt178 : Below wa.heap.size wa t17w8 := below_then hH hb
                    refine hK.out _ _ hHt178 (fun _ => ?_)
                    clear hK K hb hH
                    refine wpAnyH_ready (rs := [9]) (by kernel_rfl) (by simp) ?_
                    refine AllReadyH.cons rfl (fun K hK => ?_) AllReadyH.nil
                    go_simp
                    refine (HFROM.out t17w8 (below_then HBWA.out hHt178) ob _ _ (onlyL_len n a) hor).mono ?_
                    rintro e t17w9 ⟨tv, out, rfl, hor2, hol, hof, hb⟩
                    obtain ⟨za, zc, rfl, -, -⟩ := row_slice hor2
                    obtain ⟨zb, zc', hze, -, -⟩ := row_some hor2 (by omega)
                    cases hze
                    have hzc := hor2.cellAt i (by omega)
                    rw [yesV_at (by rw [hol]; exact hin)] at hzc
                    obtain ⟨b2, hb2⟩ : ∃ b2, b2 = out.getD i false := ⟨_, rfl⟩
                    rw [← hb2] at hzc
                    have HB2X := Lib.hid hb2
                    clear hb2
                    have hHt179 : Below wa.heap.size wa t17w9 := below_then hHt178 hb
                    refine hK.out _ _ hHt179 (fun _ => ?_)
                    clear hK K hb hHt178
                    refine wpAnyH_take (i := 11) (v := ?vt1710) rfl (by kernel_rfl) (by kernel_rfl) (by kernel_rfl) (fun _ _ _ h => h) (Or.inl ⟨by rfl, ?hyt1710⟩) (by assumption) ?_
                    case hyt1710 => (intro x' hxx; obtain ⟨e0, e1, e2, e3⟩ := CC.out x' hxx; go_simp; try with_reducible rfl)
                    change wpAnyH _ _ _ _ _ _ _ (Act.put _ (some 68) _) _
                    simp only [Act.put, List.setIfInBounds_toArray, List.set_cons_zero, List.set_cons_succ]
                    refine wpAnyH_ready (rs := [12]) (by kernel_rfl) (by simp) ?_
                    refine AllReadyH.cons rfl (fun K hK => ?_) AllReadyH.nil
                    go_simp
                    refine hK.out _ _ hHt179 (fun _ => ?_)
                    clear hK K
                    refine wpAnyH_take (i := 13) (v := ?vt1711) rfl (by kernel_rfl) (by kernel_rfl) (by kernel_rfl) (fun _ _ _ h => h) (Or.inl ⟨by rfl, ?hyt1711⟩) (by assumption) ?_
                    case hyt1711 => (intro x' hxx; obtain ⟨e0, e1, e2, e3⟩ := CC.out x' hxx; go_simp; try with_reducible rfl)
                    change wpAnyH _ _ _ _ _ _ _ (Act.put _ (some 70) _) _
                    simp only [Act.put, List.setIfInBounds_toArray, List.set_cons_zero, List.set_cons_succ]
                    refine wpAnyH_take (i := 14) (v := ?vt1712) rfl (by kernel_rfl) (by kernel_rfl) (by kernel_rfl) (fun _ _ _ h => h) (Or.inl ⟨by rfl, ?hyt1712⟩) (by assumption) ?_
                    case hyt1712 => (intro x' hxx; obtain ⟨e0, e1, e2, e3⟩ := CC.out x' hxx; go_simp; try with_reducible rfl)
                    change wpAnyH _ _ _ _ _ _ _ (Act.put _ (some 12) _) _
                    simp only [Act.put, List.setIfInBounds_toArray, List.set_cons_zero, List.set_cons_succ]
                    refine wpAnyH_done (by kernel_rfl) ?_ _
                    refine NoPanic.normal ?_
                    have hHx := hHt179
                    go_wp2_with fail
                    go_meet
                    case rel => exact ⟨b2, by first | rfl | simp, by rw [Hid, HB2X.out, hof i, only_from han]; exact ⟨fun h => ⟨HB1T, h⟩, fun h => h.2⟩, hHx⟩
                case rest =>
                  obtain ⟨bk, rfl, HBK, HBB⟩ := hcut
                  obtain ⟨wk, rfl⟩ : ∃ wk : World, wk = wc := ⟨_, rfl⟩
                  have HBWK := Lib.hid (below_then HBWA.out HBB.out)
                  clear CC HB1
                  go_wp2_with fail
                  go_loopg [9, 10, 13] ln (fun gg s9 s10 s13 w' => ∃ (q : Nat) (m : Int) (any : Bool), q ≤ ln ∧ Hid (gg = ln - q) ∧ s9 = .int .i64 m ∧ s10 = .bool any ∧ s13 = .int .i64 q ∧ Hid (Below wk.heap.size wk w') ∧ Hid (Got g i (upTo a q) m any))
                  case atStart => exact ⟨0, m, any, Nat.zero_le _, rfl, rfl, rfl, rfl, Below.refl _ _, HGOT.out⟩
                  case round =>
                    clear HGOT
                    obtain ⟨q, m, any, hq, HG3, rfl, rfl, rfl, HBQ, HGQ⟩ := hrel
                    have HBWQ := Lib.hid (below_then HBWK.out HBQ.out)
                    have c0 := (HCELL.out wr HBWQ.out).1
                    have c1 := HEC.out wr HBWQ.out
                    by_cases hlq : q < ln
                    · have hlqI : (q : Int) < (ln : Int) := by omega
                      cases bk with
                      | false =>
                        go_wp2_with fail
                        go_roundg (n - (a + 1))
                        case measure => rw [HG2.out]; omega
                        case rel => exact ⟨a + 1, m, any, by omega, rfl, rfl, rfl, by simp, (HBA.out.trans (HBB.out.mono HBA.out.size)).trans (HBQ.out.mono (Nat.le_trans HBA.out.size HBB.out.size)), HGQ.out.row (fun k' _ hc => by have := HBK.out.2 ⟨hc.2.1, hc.2.2.1⟩; cases this)⟩
                      | true =>
                        obtain ⟨-, qb, qo, rfl, hqb, hqc, hqm⟩ := HEL.out.part q (by rw [← HLN2.out]; exact hlq)
                        obtain ⟨t1, t2⟩ := HTO.out a q (by unfold GraphD.has; rw [← HLN2.out]; exact hlq)
                        obtain ⟨t, ht⟩ : ∃ t, t = g.toOf a q := ⟨_, rfl⟩
                        obtain ⟨mk, hmk⟩ : ∃ mk, mk = g.markOf a q := ⟨_, rfl⟩
                        rw [t2, ← ht] at hqc
                        rw [show ((g.edges.getD a []).getD q default).marks = mk from hmk.symm] at hqm
                        rw [← ht, ← HN.out] at t1
                        have HQM : Hid (∀ x, Below W.heap.size W x → x.cell? ⟨qb, qo + q * 2 + 1, none⟩ = some (.int .i64 mk)) := fun x hx => cells_kept hx _ _ hqm
                        have c2 := cells_kept HBWQ.out _ _ hqc
                        have HT := Lib.hid ht
                        have HMK := Lib.hid hmk
                        have t1I : (t : Int) < (n : Int) := by omega
                        have HCA : Hid (g.has a q) := by rw [Hid]; unfold GraphD.has; rw [← HLN2.out]; exact hlq
                        obtain ⟨b1, hb1⟩ : ∃ b1, b1 = there.getD t false := ⟨_, rfl⟩
                        have CC : Hid (∀ x, Below wr.heap.size wr x → x.cell? ⟨gx, 0, none⟩ = some (.slice (some ⟨eb, eo, none⟩) n ec) ∧ x.cell? ⟨gx, 1, none⟩ = some (.slice ia k ic) ∧ x.cell? ⟨gx, 2, none⟩ = some (.int .i64 (mn : Int)) ∧ x.cell? ⟨tb, t, none⟩ = some (.bool b1)) := fun x hx => by
                          obtain ⟨e0, e1, e2⟩ := HCELL.out x (below_then HBWQ.out hx)
                          refine ⟨e0, e1, e2, ?_⟩
                          rw [(row_below HTR.out (below_then (below_then (below_then HBA.out HBB.out) HBQ.out) hx)).cellAt t (by omega), yesV_at (by rw [HTL.out]; exact t1), hb1]
                        have HB1 : Hid (b1 = true ↔ Reach g.succ i t) := by rw [Hid, hb1]; exact HTF.out t
                        clear hb1 t2 ht hmk hqc hqm hqb
                        go_upto_region 22 with fail
                        clear c0 c1 c2
                        go_cut [106] (fun s106 w' => ∃ b : Bool, s106 = .bool b ∧ Hid (b = true ↔ Reach g.succ i t ∧ Reach g.succ t i) ∧ Hid (Below wr.heap.size wr w'))
                        case first =>
                          cases b1 with
                          | false =>
                            refine wp_region_noPanic ?_
                            refine wp_region_held_drew (S := fun x => Below wr.heap.size wr x) (by kernel_rfl) (Below.refl _ _).drew (fun hH => ?_)
                            refine wpAnyH_take (i := 0) (v := ?vf221) rfl (by kernel_rfl) (by kernel_rfl) (by kernel_rfl) (fun _ _ _ h => h) (Or.inl ⟨by rfl, ?hyf221⟩) (by assumption) ?_
                            case hyf221 => (intro x' hxx; obtain ⟨e0, e1, e2, e3⟩ := CC.out x' hxx; go_simp; try with_reducible rfl)
                            change wpAnyH _ _ _ _ _ _ _ (Act.put _ (some 93) _) _
                            simp only [Act.put, List.setIfInBounds_toArray, List.set_cons_zero, List.set_cons_succ]
                            refine wpAnyH_take (i := 1) (v := ?vf222) rfl (by kernel_rfl) (by kernel_rfl) (by kernel_rfl) (fun _ _ _ h => h) (Or.inl ⟨by rfl, ?hyf222⟩) (by assumption) ?_
                            case hyf222 => (intro x' hxx; obtain ⟨e0, e1, e2, e3⟩ := CC.out x' hxx; go_simp; try with_reducible rfl)
                            change wpAnyH _ _ _ _ _ _ _ (Act.put _ (some 94) _) _
                            simp only [Act.put, List.setIfInBounds_toArray, List.set_cons_zero, List.set_cons_succ]
                            refine wpAnyH_take (i := 2) (v := ?vf223) rfl (by kernel_rfl) (by kernel_rfl) (by kernel_rfl) (fun _ _ _ h => h) (Or.inl ⟨by rfl, ?hyf223⟩) (by assumption) ?_
                            case hyf223 => (intro x' hxx; obtain ⟨e0, e1, e2, e3⟩ := CC.out x' hxx; go_simp; try with_reducible rfl)
                            change wpAnyH _ _ _ _ _ _ _ (Act.put _ (some 95) _) _
                            simp only [Act.put, List.setIfInBounds_toArray, List.set_cons_zero, List.set_cons_succ]
                            refine wpAnyH_take (i := 3) (v := ?vf224) rfl (by kernel_rfl) (by kernel_rfl) (by kernel_rfl) (fun _ _ _ h => h) (Or.inl ⟨by rfl, ?hyf224⟩) (by assumption) ?_
                            case hyf224 => (intro x' hxx; obtain ⟨e0, e1, e2, e3⟩ := CC.out x' hxx; go_simp; try with_reducible rfl)
                            change wpAnyH _ _ _ _ _ _ _ (Act.put _ (some 96) _) _
                            simp only [Act.put, List.setIfInBounds_toArray, List.set_cons_zero, List.set_cons_succ]
                            refine wpAnyH_take (i := 4) (v := ?vf225) rfl (by kernel_rfl) (by kernel_rfl) (by kernel_rfl) (fun _ _ _ h => h) (Or.inl ⟨by rfl, ?hyf225⟩) (by assumption) ?_
                            case hyf225 => (intro x' hxx; obtain ⟨e0, e1, e2, e3⟩ := CC.out x' hxx; go_simp; try with_reducible rfl)
                            change wpAnyH _ _ _ _ _ _ _ (Act.put _ (some 97) _) _
                            simp only [Act.put, List.setIfInBounds_toArray, List.set_cons_zero, List.set_cons_succ]
                            refine wpAnyH_take (i := 5) (v := undef) rfl (by kernel_rfl) (by kernel_rfl) (by kernel_rfl) (fun _ _ _ h => h) (Or.inr ⟨by rfl, rfl⟩) (by assumption) ?_
                            change wpAnyH _ _ _ _ _ _ _ (Act.put _ (some 98) _) _
                            simp only [Act.put, List.setIfInBounds_toArray, List.set_cons_zero, List.set_cons_succ]
                            refine wpAnyH_take (i := 6) (v := undef) rfl (by kernel_rfl) (by kernel_rfl) (by kernel_rfl) (fun _ _ _ h => h) (Or.inr ⟨by rfl, rfl⟩) (by assumption) ?_
                            change wpAnyH _ _ _ _ _ _ _ (Act.put _ (some 99) _) _
                            simp only [Act.put, List.setIfInBounds_toArray, List.set_cons_zero, List.set_cons_succ]
                            refine wpAnyH_take (i := 7) (v := undef) rfl (by kernel_rfl) (by kernel_rfl) (by kernel_rfl) (fun _ _ _ h => h) (Or.inr ⟨by rfl, rfl⟩) (by assumption) ?_
                            change wpAnyH _ _ _ _ _ _ _ (Act.put _ (some 100) _) _
                            simp only [Act.put, List.setIfInBounds_toArray, List.set_cons_zero, List.set_cons_succ]
                            refine wpAnyH_take (i := 8) (v := undef) rfl (by kernel_rfl) (by kernel_rfl) (by kernel_rfl) (fun _ _ _ h => h) (Or.inr ⟨by rfl, rfl⟩) (by assumption) ?_
                            change wpAnyH _ _ _ _ _ _ _ (Act.put _ (some 101) _) _
                            simp only [Act.put, List.setIfInBounds_toArray, List.set_cons_zero, List.set_cons_succ]
                            refine wpAnyH_take (i := 9) (v := undef) rfl (by kernel_rfl) (by kernel_rfl) (by kernel_rfl) (fun _ _ _ h => h) (Or.inr ⟨by rfl, rfl⟩) (by assumption) ?_
                            change wpAnyH _ _ _ _ _ _ _ (Act.put _ (some 102) _) _
                            simp only [Act.put, List.setIfInBounds_toArray, List.set_cons_zero, List.set_cons_succ]
                            refine wpAnyH_take (i := 10) (v := undef) rfl (by kernel_rfl) (by kernel_rfl) (by kernel_rfl) (fun _ _ _ h => h) (Or.inr ⟨by rfl, rfl⟩) (by assumption) ?_
                            change wpAnyH _ _ _ _ _ _ _ (Act.put _ (some 103) _) _
                            simp only [Act.put, List.setIfInBounds_toArray, List.set_cons_zero, List.set_cons_succ]
                            refine wpAnyH_take (i := 11) (v := undef) rfl (by kernel_rfl) (by kernel_rfl) (by kernel_rfl) (fun _ _ _ h => h) (Or.inr ⟨by rfl, rfl⟩) (by assumption) ?_
                            change wpAnyH _ _ _ _ _ _ _ (Act.put _ (some 104) _) _
                            simp only [Act.put, List.setIfInBounds_toArray, List.set_cons_zero, List.set_cons_succ]
                            refine wpAnyH_take (i := 12) (v := undef) rfl (by kernel_rfl) (by kernel_rfl) (by kernel_rfl) (fun _ _ _ h => h) (Or.inr ⟨by rfl, rfl⟩) (by assumption) ?_
                            change wpAnyH _ _ _ _ _ _ _ (Act.put _ (some 105) _) _
                            simp only [Act.put, List.setIfInBounds_toArray, List.set_cons_zero, List.set_cons_succ]
                            refine wpAnyH_take (i := 13) (v := ?vf2214) rfl (by kernel_rfl) (by kernel_rfl) (by kernel_rfl) (fun _ _ _ h => h) (Or.inl ⟨by rfl, ?hyf2214⟩) (by assumption) ?_
                            case hyf2214 => (intro x' hxx; obtain ⟨e0, e1, e2, e3⟩ := CC.out x' hxx; go_simp; try with_reducible rfl)
                            change wpAnyH _ _ _ _ _ _ _ (Act.put _ (some 106) _) _
                            simp only [Act.put, List.setIfInBounds_toArray, List.set_cons_zero, List.set_cons_succ]
                            refine wpAnyH_done (by kernel_rfl) ?_ _
                            refine NoPanic.normal ?_
                            go_wp2_with fail
                            go_meet
                            case rel => exact ⟨false, by first | rfl | simp, ⟨fun h => (by cases h), fun h => HB1.out.2 h.1⟩, hH⟩
                          | true =>
                            have HB1T := HB1.out.1 rfl
                            refine wp_region_noPanic ?_
                            refine wp_region_held_drew (S := fun x => Below wr.heap.size wr x) (by kernel_rfl) (Below.refl _ _).drew (fun hH => ?_)
                            refine wpAnyH_take (i := 0) (v := ?vt221) rfl (by kernel_rfl) (by kernel_rfl) (by kernel_rfl) (fun _ _ _ h => h) (Or.inl ⟨by rfl, ?hyt221⟩) (by assumption) ?_
                            case hyt221 => (intro x' hxx; obtain ⟨e0, e1, e2, e3⟩ := CC.out x' hxx; go_simp; try with_reducible rfl)
                            change wpAnyH _ _ _ _ _ _ _ (Act.put _ (some 93) _) _
                            simp only [Act.put, List.setIfInBounds_toArray, List.set_cons_zero, List.set_cons_succ]
                            refine wpAnyH_take (i := 1) (v := ?vt222) rfl (by kernel_rfl) (by kernel_rfl) (by kernel_rfl) (fun _ _ _ h => h) (Or.inl ⟨by rfl, ?hyt222⟩) (by assumption) ?_
                            case hyt222 => (intro x' hxx; obtain ⟨e0, e1, e2, e3⟩ := CC.out x' hxx; go_simp; try with_reducible rfl)
                            change wpAnyH _ _ _ _ _ _ _ (Act.put _ (some 94) _) _
                            simp only [Act.put, List.setIfInBounds_toArray, List.set_cons_zero, List.set_cons_succ]
                            refine wpAnyH_take (i := 2) (v := ?vt223) rfl (by kernel_rfl) (by kernel_rfl) (by kernel_rfl) (fun _ _ _ h => h) (Or.inl ⟨by rfl, ?hyt223⟩) (by assumption) ?_
                            case hyt223 => (intro x' hxx; obtain ⟨e0, e1, e2, e3⟩ := CC.out x' hxx; go_simp; try with_reducible rfl)
                            change wpAnyH _ _ _ _ _ _ _ (Act.put _ (some 95) _) _
                            simp only [Act.put, List.setIfInBounds_toArray, List.set_cons_zero, List.set_cons_succ]
                            refine wpAnyH_take (i := 3) (v := ?vt224) rfl (by kernel_rfl) (by kernel_rfl) (by kernel_rfl) (fun _ _ _ h => h) (Or.inl ⟨by rfl, ?hyt224⟩) (by assumption) ?_
                            case hyt224 => (intro x' hxx; obtain ⟨e0, e1, e2, e3⟩ := CC.out x' hxx; go_simp; try with_reducible rfl)
                            change wpAnyH _ _ _ _ _ _ _ (Act.put _ (some 96) _) _
                            simp only [Act.put, List.setIfInBounds_toArray, List.set_cons_zero, List.set_cons_succ]
                            refine wpAnyH_take (i := 4) (v := ?vt225) rfl (by kernel_rfl) (by kernel_rfl) (by kernel_rfl) (fun _ _ _ h => h) (Or.inl ⟨by rfl, ?hyt225⟩) (by assumption) ?_
                            case hyt225 => (intro x' hxx; obtain ⟨e0, e1, e2, e3⟩ := CC.out x' hxx; go_simp; try with_reducible rfl)
                            change wpAnyH _ _ _ _ _ _ _ (Act.put _ (some 97) _) _
                            simp only [Act.put, List.setIfInBounds_toArray, List.set_cons_zero, List.set_cons_succ]
                            refine wpAnyH_take (i := 5) (v := ?vt226) rfl (by kernel_rfl) (by kernel_rfl) (by kernel_rfl) (fun _ _ _ h => h) (Or.inl ⟨by rfl, ?hyt226⟩) (by assumption) ?_
                            case hyt226 => (intro x' hxx; obtain ⟨e0, e1, e2, e3⟩ := CC.out x' hxx; go_simp; try with_reducible rfl)
                            change wpAnyH _ _ _ _ _ _ _ (Act.put _ (some 98) _) _
                            simp only [Act.put, List.setIfInBounds_toArray, List.set_cons_zero, List.set_cons_succ]
                            refine wpAnyH_take (i := 6) (v := ?vt227) rfl (by kernel_rfl) (by kernel_rfl) (by kernel_rfl) (fun _ _ _ h => h) (Or.inl ⟨by rfl, ?hyt227⟩) (by assumption) ?_
                            case hyt227 => (intro x' hxx; obtain ⟨e0, e1, e2, e3⟩ := CC.out x' hxx; go_simp; try with_reducible rfl)
                            change wpAnyH _ _ _ _ _ _ _ (Act.put _ (some 99) _) _
                            simp only [Act.put, List.setIfInBounds_toArray, List.set_cons_zero, List.set_cons_succ]
                            refine wpAnyH_take (i := 7) (v := ?vt228) rfl (by kernel_rfl) (by kernel_rfl) (by kernel_rfl) (fun _ _ _ h => h) (Or.inl ⟨by rfl, ?hyt228⟩) (by assumption) ?_
                            case hyt228 => (intro x' hxx; obtain ⟨e0, e1, e2, e3⟩ := CC.out x' hxx; go_simp; try with_reducible rfl)
                            change wpAnyH _ _ _ _ _ _ _ (Act.put _ (some 100) _) _
                            simp only [Act.put, List.setIfInBounds_toArray, List.set_cons_zero, List.set_cons_succ]
                            refine wpAnyH_take (i := 10) (v := ?vt229) rfl (by kernel_rfl) (by kernel_rfl) (by kernel_rfl) (fun _ _ _ h => h) (Or.inl ⟨by rfl, ?hyt229⟩) (by assumption) ?_
                            case hyt229 => (intro x' hxx; obtain ⟨e0, e1, e2, e3⟩ := CC.out x' hxx; go_simp; try with_reducible rfl)
                            change wpAnyH _ _ _ _ _ _ _ (Act.put _ (some 103) _) _
                            simp only [Act.put, List.setIfInBounds_toArray, List.set_cons_zero, List.set_cons_succ]
                            refine wpAnyH_ready (rs := [8]) (by kernel_rfl) (by simp) ?_
                            refine AllReadyH.cons rfl (fun K hK => ?_) AllReadyH.nil
                            go_simp
                            refine (only_any _ n t t1 hn6).mono ?_
                            rintro e t22w8 ⟨ob, rfl, hor, hb⟩
                            have hHt228 : Below wr.heap.size wr t22w8 := below_then hH hb
                            refine hK.out _ _ hHt228 (fun _ => ?_)
                            clear hK K hb hH
                            refine wpAnyH_ready (rs := [9]) (by kernel_rfl) (by simp) ?_
                            refine AllReadyH.cons rfl (fun K hK => ?_) AllReadyH.nil
                            go_simp
                            refine (HFROM.out t22w8 (below_then HBWQ.out hHt228) ob _ _ (onlyL_len n t) hor).mono ?_
                            rintro e t22w9 ⟨tv, out, rfl, hor2, hol, hof, hb⟩
                            obtain ⟨za, zc, rfl, -, -⟩ := row_slice hor2
                            obtain ⟨zb, zc', hze, -, -⟩ := row_some hor2 (by omega)
                            cases hze
                            have hzc := hor2.cellAt i (by omega)
                            rw [yesV_at (by rw [hol]; exact hin)] at hzc
                            obtain ⟨b2, hb2⟩ : ∃ b2, b2 = out.getD i false := ⟨_, rfl⟩
                            rw [← hb2] at hzc
                            have HB2X := Lib.hid hb2
                            clear hb2
                            have hHt229 : Below wr.heap.size wr t22w9 := below_then hHt228 hb
                            refine hK.out _ _ hHt229 (fun _ => ?_)
                            clear hK K hb hHt228
                            refine wpAnyH_take (i := 11) (v := ?vt2210) rfl (by kernel_rfl) (by kernel_rfl) (by kernel_rfl) (fun _ _ _ h => h) (Or.inl ⟨by rfl, ?hyt2210⟩) (by assumption) ?_
                            case hyt2210 => (intro x' hxx; obtain ⟨e0, e1, e2, e3⟩ := CC.out x' hxx; go_simp; try with_reducible rfl)
                            change wpAnyH _ _ _ _ _ _ _ (Act.put _ (some 104) _) _
                            simp only [Act.put, List.setIfInBounds_toArray, List.set_cons_zero, List.set_cons_succ]
                            refine wpAnyH_ready (rs := [12]) (by kernel_rfl) (by simp) ?_
                            refine AllReadyH.cons rfl (fun K hK => ?_) AllReadyH.nil
                            go_simp
                            refine hK.out _ _ hHt229 (fun _ => ?_)
                            clear hK K
                            refine wpAnyH_take (i := 13) (v := ?vt2211) rfl (by kernel_rfl) (by kernel_rfl) (by kernel_rfl) (fun _ _ _ h => h) (Or.inl ⟨by rfl, ?hyt2211⟩) (by assumption) ?_
                            case hyt2211 => (intro x' hxx; obtain ⟨e0, e1, e2, e3⟩ := CC.out x' hxx; go_simp; try with_reducible rfl)
                            change wpAnyH _ _ _ _ _ _ _ (Act.put _ (some 106) _) _
                            simp only [Act.put, List.setIfInBounds_toArray, List.set_cons_zero, List.set_cons_succ]
                            refine wpAnyH_done (by kernel_rfl) ?_ _
                            refine NoPanic.normal ?_
                            have hHx := hHt229
                            go_wp2_with fail
                            go_meet
                            case rel => exact ⟨b2, by first | rfl | simp, by rw [Hid, HB2X.out, hof i, only_from t1]; exact ⟨fun h => ⟨HB1T, h⟩, fun h => h.2⟩, hHx⟩
                        case rest =>
                          obtain ⟨b, rfl, HBC2, HBD⟩ := hcut
                          clear CC HB1
                          have HBWD := Lib.hid (below_then HBWQ.out HBD.out)
                          have HBKD := Lib.hid (HBQ.out.trans (HBD.out.mono HBQ.out.size))
                          have c0 := (HCELL.out wc HBWD.out).1
                          have c1 := HEC.out wc HBWD.out
                          have c2 := HQM.out wc HBWD.out
                          have HBKT := HBK.out.1 rfl
                          cases b with
                          | false =>
                            go_wp2_with fail
                            go_roundg (ln - (q + 1))
                            case measure => rw [HG3.out]; omega
                            case rel => exact ⟨q + 1, m, any, by omega, rfl, rfl, rfl, by simp, HBKD.out, HGQ.out.skip (fun hc => by have := HBC2.out.2 (by rw [HT.out]; exact ⟨hc.2.2.2.1, hc.2.2.2.2⟩); cases this)⟩
                          | true =>
                            have HADD : Hid (Got g i (upTo a (q + 1)) (bits .or .i64 m mk) true) := by
                              have h1 := HBC2.out.1 rfl
                              rw [Hid, HMK.out]
                              rw [HT.out] at h1
                              exact HGQ.out.add ⟨HCA.out, HBKT.1, HBKT.2, h1.1, h1.2⟩
                            go_wp2_with fail
                            go_roundg (ln - (q + 1))
                            case measure => rw [HG3.out]; omega
                            case rel => exact ⟨q + 1, _, true, by omega, rfl, by first | rfl | simp, by first | rfl | simp, by simp, HBKD.out, HADD.out⟩
                    · obtain rfl : q = ln := by omega
                      go_wp2_with fail
                      go_roundg (n - (a + 1))
                      case measure => rw [HG2.out]; omega
                      case rel => exact ⟨a + 1, m, any, by omega, rfl, rfl, rfl, by simp, (HBA.out.trans (HBB.out.mono HBA.out.size)).trans (HBQ.out.mono (Nat.le_trans HBA.out.size HBB.out.size)), HGQ.out.row (fun k' hk' hc => by have h1 := hc.1; unfold GraphD.has at h1; rw [← HLN2.out] at h1; omega)⟩
              · obtain rfl : a = n := by omega
                have hfull := HGOT.out
                rw [HN.out] at hfull
                have HFULL := Lib.hid (hfull.full HCOME.out)
                clear hfull
                have c2 := (HCELL.out wa HBWA.out).2.2
                have HBIA := Lib.hid (below_then HBT2.out HBA.out)
                cases any with
                | false =>
                  go_wp2_with fail
                  go_quiet (fail)
                  go_wp2_with fail
                  go_roundg (a - (i + 1))
                  case measure => rw [HG.out]; omega
                  case rel => exact ⟨i + 1, by omega, rfl, by simp, drewN_below HBIA.out _, fun j hj => by
                    by_cases e : j = i
                    · subst e
                      intro h1
                      have := (HFULL.out.1 h1).1; cases this
                    · exact HNO.out j (by omega)⟩
                | true =>
                  have hM0 := mask64 mn hmn40
                  have HALL := Lib.hid (all_met m mn hmn40)
                  obtain ⟨M, hM⟩ : ∃ M : Int, M = 2 ^ mn - 1 := ⟨_, rfl⟩
                  rw [← hM] at hM0
                  have HM := Lib.hid hM
                  clear hM
                  by_cases hb : bits .and .i64 m M = M
                  · have hbb : (bits .and .i64 m M == M) = true := by simp [hb]
                    have HB3 := Lib.hid hb
                    clear hb
                    go_wp2_with fail
                    go_quiet (fail)
                    go_wp2_with fail
                    go_ret
                    have h2 := HALL.out.1 (by rw [← HM.out]; exact HB3.out)
                    rw [← HMN.out] at h2
                    exact ⟨⟨true, by first | rfl | simp, fun _ => (HFULL.out.2 ⟨by first | trivial | rfl, h2⟩).hasL, fun _ => rfl⟩, drewN_below (HA.out.trans ((below_then HBC.out HBIA.out).mono HA.out.size)) _⟩
                  · have hbb : (bits .and .i64 m M == M) = false := by simp [hb]
                    have HB3 := Lib.hid hb
                    clear hb
                    go_wp2_with fail
                    go_quiet (fail)
                    go_wp2_with fail
                    go_roundg (a - (i + 1))
                    case measure => rw [HG.out]; omega
                    case rel => exact ⟨i + 1, by omega, rfl, by simp, drewN_below HBIA.out _, fun j hj => by
                      by_cases e : j = i
                      · subst e
                        intro h1
                        have h2 := (HFULL.out.1 h1).2
                        rw [HMN.out] at h2
                        have h3 := HALL.out.2 h2
                        rw [← HM.out] at h3
                        exact HB3.out h3
                      · exact HNO.out j (by omega)⟩
        · obtain rfl : i = n := by omega
          go_wp2_with fail
          go_ret
          exact ⟨⟨false, by first | rfl | simp, fun h => (by cases h), fun h => absurd h (hasL_none HR.out (fun j hj => HNO.out j (by rw [HN.out]; exact hj)))⟩, HA.out.trans ((below_then HBC.out HBI.out).mono HA.out.size)⟩
end Go.Proofs.Ytoojalcfojflhaa
