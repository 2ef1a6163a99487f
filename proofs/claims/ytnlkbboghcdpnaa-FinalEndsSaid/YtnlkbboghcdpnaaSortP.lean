/- slices.SortFunc at finals: the numbers of its text. slices.SortFunc at finals: what comes of the shelf's contract. -/
import Derived.Shelf.SlSortCmp.WholeK
import Derived.Shelf.SlSortCmp.NoneTotal
import Derived.Test.YtnlkbboghcdpnaaRows
import Derived.Test.YtnlkbboghcdpnaaCompact
namespace Go.Proofs.Ytnlkbboghcdpnaa
open Go.Shelf Go.RowKit

def sortOne_ren : Go.Shelf.Ren := ⟨fun | 6 => 47 | 15 => 63 | 14 => 62 | 28 => 80 | 29 => 81 | 20 => 72 | 21 => 73 | 22 => 74 | 23 => 75 | 24 => 76 | 25 => 77 | 26 => 78 | 27 => 79 | 46 => 91 | 47 => 92 | 48 => 93 | 49 => 94 | 50 => 95 | 57 => 99 | n => n, fun | 22 => 102 | 24 => 103 | 25 => 105 | 3 => 3 | 39 => 133 | 0 => 0 | 53 => 151 | 55 => 153 | 4 => 4 | 46 => 145 | 45 => 144 | 50 => 129 | 5 => 5 | 9 => 9 | 66 => 162 | 70 => 166 | 76 => 170 | 77 => 171 | n => n, fun n => n⟩
theorem sortOne : Go.Proofs.SlLaysF0.n6 Try.prog sortOne_ren := {
  mixed := by kernel_rfl,
  f6 := ⟨Try.f47.name, by decide, Try.func47.trans (congrArg some (by kernel_rfl))⟩,
  f14 := ⟨Try.f62.name, by decide, Try.func62.trans (congrArg some (by kernel_rfl))⟩,
  f15 := Try.func63.trans (congrArg some (by kernel_rfl)),
  f20 := ⟨Try.f72.name, by decide, Try.func72.trans (congrArg some (by kernel_rfl))⟩,
  f21 := ⟨Try.f73.name, by decide, Try.func73.trans (congrArg some (by kernel_rfl))⟩,
  f22 := ⟨Try.f74.name, by decide, Try.func74.trans (congrArg some (by kernel_rfl))⟩,
  f23 := ⟨Try.f75.name, by decide, Try.func75.trans (congrArg some (by kernel_rfl))⟩,
  f24 := ⟨Try.f76.name, by decide, Try.func76.trans (congrArg some (by kernel_rfl))⟩,
  f25 := ⟨Try.f77.name, by decide, Try.func77.trans (congrArg some (by kernel_rfl))⟩,
  f26 := ⟨Try.f78.name, by decide, Try.func78.trans (congrArg some (by kernel_rfl))⟩,
  f27 := ⟨Try.f79.name, by decide, Try.func79.trans (congrArg some (by kernel_rfl))⟩,
  f28 := Try.func80.trans (congrArg some (by kernel_rfl)),
  f29 := Try.func81.trans (congrArg some (by kernel_rfl)),
  f46 := ⟨Try.f91.name, by decide, Try.func91.trans (congrArg some (by kernel_rfl))⟩,
  f47 := Try.func92.trans (congrArg some (by kernel_rfl)),
  f48 := Try.func93.trans (congrArg some (by kernel_rfl)),
  f49 := ⟨Try.f94.name, by decide, Try.func94.trans (congrArg some (by kernel_rfl))⟩,
  f50 := ⟨Try.f95.name, by decide, Try.func95.trans (congrArg some (by kernel_rfl))⟩,
  f57 := ⟨Try.f99.name, by decide, Try.func99.trans (congrArg some (by kernel_rfl))⟩,
  t0 := Try.underlying0,
  a0 := Try.isAgg0,
  z0 := Try.sizeOf0,
  v0 := Try.zeroValue0,
  t3 := Try.underlying3,
  a3 := Try.isAgg3,
  z3 := Try.sizeOf3,
  v3 := Try.zeroValue3,
  t4 := Try.underlying4,
  a4 := Try.isAgg4,
  z4 := Try.sizeOf4,
  v4 := Try.zeroValue4,
  t5 := Try.underlying5,
  a5 := Try.isAgg5,
  z5 := Try.sizeOf5,
  v5 := Try.zeroValue5,
  t9 := Try.underlying9,
  a9 := Try.isAgg9,
  z9 := Try.sizeOf9,
  v9 := Try.zeroValue9,
  t22 := Try.underlying102,
  a22 := Try.isAgg102,
  z22 := Try.sizeOf102,
  v22 := Try.zeroValue102,
  t25 := Try.underlying105,
  a25 := Try.isAgg105,
  z25 := Try.sizeOf105,
  v25 := Try.zeroValue105,
  t39 := Try.underlying133,
  a39 := Try.isAgg133,
  z39 := Try.sizeOf133,
  v39 := Try.zeroValue133,
  t45 := Try.underlying144,
  a45 := Try.isAgg144,
  z45 := Try.sizeOf144,
  v45 := Try.zeroValue144,
  t46 := Try.underlying145,
  a46 := Try.isAgg145,
  z46 := Try.sizeOf145,
  v46 := Try.zeroValue145,
  t50 := Try.underlying129,
  a50 := Try.isAgg129,
  z50 := Try.sizeOf129,
  v50 := Try.zeroValue129,
  t53 := Try.underlying151,
  a53 := Try.isAgg151,
  z53 := Try.sizeOf151,
  v53 := Try.zeroValue151,
  t55 := Try.underlying153,
  a55 := Try.isAgg153,
  z55 := Try.sizeOf153,
  v55 := Try.zeroValue153,
  t66 := Try.underlying162,
  a66 := Try.isAgg162,
  z66 := Try.sizeOf162,
  v66 := Try.zeroValue162,
  t70 := Try.underlying166,
  a70 := Try.isAgg166,
  z70 := Try.sizeOf166,
  v70 := Try.zeroValue166,
  t76 := Try.underlying170,
  a76 := Try.isAgg170,
  z76 := Try.sizeOf170,
  v76 := Try.zeroValue170,
  t77 := Try.underlying171,
  a77 := Try.isAgg171,
  z77 := Try.sizeOf171,
  v77 := Try.zeroValue171 }
end Go.Proofs.Ytnlkbboghcdpnaa
namespace Go.Proofs.Ytnlkbboghcdpnaa
open Go.RowKit Go.Sort

theorem grown_of {W w' : World} (h : Below W.heap.size W w') (hd : W.drawn ≤ w'.drawn) : ∃ q os', w' = grow (W.drewN q) os' := by
  refine ⟨w'.drawn - W.drawn, w'.heap.extract W.heap.size w'.heap.size, ?_⟩
  have hh : W.heap ++ w'.heap.extract W.heap.size w'.heap.size = w'.heap := by
    apply Array.ext_getElem?
    intro k
    have hs := h.size
    by_cases hk : k < W.heap.size
    · rw [Array.getElem?_append_left hk]; exact (h.block k hk).symm
    · rw [Array.getElem?_append_right (by omega), Array.getElem?_extract]
      by_cases hk2 : k < w'.heap.size
      · rw [if_pos (by omega), show W.heap.size + (k - W.heap.size) = k by omega]
      · rw [if_neg (by omega), Array.getElem?_eq_none (by omega)]
  have h1 := h.os
  have h2 := h.tape
  have h3 := h.output
  unfold grow World.drewN
  cases w' with
  | mk heap tape drawn os output =>
    simp only [] at hh h1 h2 h3 hd ⊢
    simp only [hh, h1, h2, h3, World.mk.injEq, true_and, and_true]
    omega
section
variable {α : Type} [Inhabited α]
theorem sort_block (enc : α → List Value) (k : Nat) {w : World} {g m : Nat} {dk : Array α} {os : Array Obj} {cur : Array Value} {t : TypeId} (hb : w.heap[g]? = some (.cells cur t (0, 0))) :
    (sortWorldK enc k w g 0 m dk os).heap[g]? = some (.cells (putCells id 0 (flatK enc k dk) cur) t (0, 0)) := by
  have hg := lt_of_block hb
  unfold sortWorldK grow putRowK putRow mapBlock Go.Sort.ahead
  simp only []
  rw [Array.getElem?_append_left (by simpa using hg), Array.getElem?_modify, if_pos rfl, hb]
  rfl
theorem sort_since (enc : α → List Value) (k : Nat) (w : World) (g m : Nat) (dk : Array α) (os : Array Obj) : Since (fun i => i = g) w (sortWorldK enc k w g 0 m dk os) := by
  refine ⟨rfl, rfl, rfl, ?_, fun i hi hne => ?_⟩
  · unfold sortWorldK grow putRowK putRow mapBlock Go.Sort.ahead
    simp
  · unfold sortWorldK grow putRowK putRow mapBlock Go.Sort.ahead
    simp only []
    rw [Array.getElem?_append_left (by simpa using hi), Array.getElem?_modify, if_neg (fun e => hne e.symm)]
end
theorem swo_flat {α : Type} (key : α → List Int) : SWO (Go.Proofs.ltOf fun x y : α => cmpI (key x) (key y)) where
  irrefl x := by
    show decide (cmpI (key x) (key x) < 0) = false
    rw [cmpI_self]; decide
  trans x y z h1 h2 := by
    unfold Go.Proofs.ltOf at *
    simp only [decide_eq_true_eq] at *
    exact cmpI_trans h1 h2
  ntrans x y z h1 h2 := by
    unfold Go.Proofs.ltOf at *
    simp only [decide_eq_false_iff_not] at *
    intro h3
    have a1 : ¬ cmpI (key x) (key y) < 0 := h1
    have a2 : ¬ cmpI (key y) (key z) < 0 := h2
    rcases cmpI_three (key x) (key y) with e | e | e
    · omega
    · rw [cmpI_eq e] at h3; exact a2 h3
    · have h4 : cmpI (key y) (key x) < 0 := by rw [cmpI_swap (key x) (key y)]; omega
      exact a2 (cmpI_trans h4 h3)
def SortEnd (w : World) (B : Nat) (v : Value) (P : List FinP) (e : Ending) (w' : World) : Prop := e = .returned (.tuple #[]) ∧ (∃ P' : List FinP, P'.length = P.length ∧ (∀ p ∈ P', p ∈ P) ∧ (∀ p ∈ P, p ∈ P') ∧
  (∀ i j, i < j → j < P'.length → ¬ cmpI (flatD (P'.getD j default).1) (flatD (P'.getD i default).1) < 0) ∧ w'.ownsRow B 103 2 v P.length (cellsP P')) ∧ Since (fun k => v.ownBlock = some k) w w'
theorem sortFunc_any (w : World) (B : Nat) (v : Value) (P : List FinP) (hrow : w.ownsRow B 103 2 v P.length (cellsP P)) (hok : ∀ p ∈ P, okP (fun k => v.ownBlock = some k) w p) (hn : P.length ≤ 1000000) :
    Calls Try.prog 47 #[v, .func (.func 48) #[] #[]] w (SortEnd w B v P) := by
  have h2P : ∀ p ∈ P, p.2.length = 2 := fun p hp => (hok p hp).1
  rcases Nat.eq_zero_or_pos P.length with h0 | h0
  · have hP : P = [] := List.eq_nil_of_length_eq_zero h0
    subst hP
    obtain ⟨a, cap, rfl, -, -⟩ := row_slice hrow
    have hc := Go.Proofs.AnyF.slices_SortFunc_none sortOne a cap (.func (.func 48) #[] #[]) w
    refine Calls.mono hc fun e w' ⟨he, hw⟩ => ?_
    subst hw
    exact ⟨he, ⟨[], rfl, fun p hp => hp, fun p hp => hp, fun i j _ hj => by simp at hj, hrow⟩, Since.refl _ _⟩
  · obtain ⟨g, cap, rfl, hcap, hcm⟩ := row_some hrow h0
    obtain ⟨cur, hcb, hcs, hcur⟩ := row_blk hrow
    have hbg : B ≤ g := (hrow.lt g rfl).1
    let α := { p : FinP // p ∈ P }
    have hw0 : ∃ x : α, True := ⟨⟨P.getD 0 default, getD_mem h0⟩, trivial⟩
    obtain ⟨x0, -⟩ := hw0
    letI : Inhabited α := ⟨x0⟩
    let enc : α → List Value := fun x => x.1.2
    let cf : α → α → Int := fun x y => cmpI (flatD x.1.1) (flatD y.1.1)
    let d : Array α := P.attach.toArray
    have hds : d.size = P.length := by
      show P.attach.toArray.size = _
      rw [List.size_toArray]; exact List.length_attach
    have hdg : ∀ j, j < P.length → (d[j]!).1 = P.getD j default := fun j hj => by
      rw [getElem!_pos d j (by rw [hds]; exact hj), List.getD_eq_getElem?_getD, List.getElem?_eq_getElem hj]
      show (P.attach.toArray[j]'(by rw [List.size_toArray, List.length_attach]; exact hj)).1 = P[j]
      rw [List.getElem_toArray, List.getElem_attach]
    have hfl : ∀ (e : Array α) (t : Nat), t < e.size * 2 → (flatK enc 2 e)[t]! = ((e[t / 2]!).1.2)[t % 2]! := fun e t ht => get_flatK enc 2 e t ht
    have hok2 : ∀ x : α, okP (fun k => k = g) w x.1 := fun x => by
      obtain ⟨a, b, c⟩ := hok x.1 x.2
      exact ⟨a, fun y hy => b y (hy.mono (fun k _ hk => by rw [hk]; rfl)), c⟩
    have hH : HoldsK enc 2 w g 0 d := by
      intro t ht
      rw [size_flatK, hds] at ht
      have hq : t / 2 < P.length := by omega
      have h1 := cellsP_at h2P hq (i := t % 2) (by omega)
      rw [show t / 2 * 2 + t % 2 = t by omega] at h1
      refine ⟨?_, free_of_block hcb _⟩
      rw [Nat.zero_add, cell_of_block hcb, hcur t ht, h1, hfl d t (by rw [hds]; exact ht), hdg _ hq]
      have hl := h2P _ (getD_mem (x := default) hq)
      rw [List.getElem?_eq_getElem (by rw [hl]; omega), List.getElem!_eq_getElem?_getD, List.getElem?_eq_getElem (by rw [hl]; omega)]
      rfl
    have hcmp : Go.Proofs.CmpLays Try.prog 48 #[] enc 2 cf g 0 d.size w := by
      intro m os dk hdk x y
      have hs := sort_since enc 2 w g m dk os
      obtain ⟨xl, xa, xf⟩ := hok2 x
      obtain ⟨yl, ya, yf⟩ := hok2 y
      obtain ⟨mx, rx, ex, fx⟩ := xa _ hs
      obtain ⟨my, ry, ey, fy⟩ := ya _ hs
      have := order_any (sortWorldK enc 2 w g 0 m dk os) x.1.1 y.1.1 mx rx my ry fx fy xf yf
      have e1 : (enc x).toArray = #[mx, rx] := by show x.1.2.toArray = _; rw [ex]
      have e2 : (enc y).toArray = #[my, ry] := by show y.1.2.toArray = _; rw [ey]
      rw [e1, e2]
      exact Calls.mono this fun e w' ⟨he, hb, hd⟩ => ⟨he, grown_of hb hd⟩
    have hc := Go.Proofs.AnyQ.slices_SortFunc sortOne 2 Try.isAgg103 Try.sizeOf103 enc (fun x => h2P x.1 x.2) (fun x u hu => by
        obtain ⟨-, xa, -⟩ := hok2 x
        obtain ⟨mx, rx, ex, fx⟩ := xa.now
        have hu2 : u ∈ x.1.2 := hu
        rw [ex] at hu2
        obtain ⟨_, _, rfl, -⟩ := SliceR.slice fx.mem
        obtain ⟨_, _, rfl, -⟩ := SliceR.slice fx.regs
        simp only [List.mem_cons, List.not_mem_nil, or_false] at hu2
        rcases hu2 with rfl | rfl <;> rfl) cf (swo_flat fun x : α => flatD x.1.1) 48 #[] g 0 cap d w (enters_of Try.func48 (by kernel_rfl) rfl) hcmp hH (lt_of_block hcb) (by rw [hds]; omega)
    rw [hds] at hc
    refine Calls.mono hc fun e w' ⟨he, d', n, os, hp, hs, hw⟩ => ?_
    obtain ⟨hp1, -, hp2⟩ := hp
    rw [hds] at hp1
    have hx1 : (d'.extract 0 P.length).toList = d'.toList := by rw [← hp1]; simp
    have hx2 : (d.extract 0 P.length).toList = P.attach := by rw [← hds]; simp [d]
    rw [hx1, hx2] at hp2
    have hgd : ∀ j, j < P.length → (d'.toList.map (·.1)).getD j default = (d'[j]!).1 := fun j hj => by
      rw [getElem!_pos d' j (by rw [hp1]; exact hj), List.getD_eq_getElem?_getD, List.getElem?_map, List.getElem?_eq_getElem (by simpa [hp1] using hj)]
      simp
    have hlen : (d'.toList.map (·.1)).length = P.length := by simp [hp1]
    have hblk := sort_block enc 2 (m := n) (dk := d') (os := os) hcb
    rw [← hw] at hblk
    refine ⟨he, ⟨d'.toList.map (·.1), hlen, fun p hpp => ?_, fun p hpp => ?_, fun i j hij hj => ?_, ?_⟩, ?_⟩
    · obtain ⟨x, -, rfl⟩ := List.mem_map.1 hpp
      exact x.2
    · exact List.mem_map.2 ⟨⟨p, hpp⟩, hp2.mem_iff.2 (List.mem_attach P ⟨p, hpp⟩), rfl⟩
    · rw [hlen] at hj
      rw [hgd j hj, hgd i (by omega)]
      have h3 := hs i j (Nat.zero_le _) hij hj
      unfold Go.Proofs.ltOf at h3
      simpa using h3
    · have h2' : ∀ p ∈ d'.toList.map (·.1), p.2.length = 2 := fun p hpp => by
        obtain ⟨x, -, rfl⟩ := List.mem_map.1 hpp
        exact h2P x.1 x.2
      have hcl : (cellsP (d'.toList.map (·.1))).length = P.length * 2 := by rw [cellsP_len h2', hlen]
      refine ⟨hcl, .inr ⟨g, cap, _, rfl, hbg, hblk, hcap, hcm, by simp [putCells, hcs], ?_⟩⟩
      apply List.ext_getElem?
      intro t
      rw [List.getElem?_take]
      split
      · rename_i ht
        have hq : t / 2 < P.length := by omega
        have h1 := cellsP_at h2' (j := t / 2) (i := t % 2) (by rw [hlen]; exact hq) (by omega)
        rw [show t / 2 * 2 + t % 2 = t by omega, hgd _ hq] at h1
        rw [h1, Array.getElem?_toList]
        unfold putCells
        rw [Array.getElem?_mapIdx, Array.getElem?_eq_getElem (by rw [hcs]; have := Nat.mul_le_mul_right 2 hcap; omega)]
        simp only [Option.map_some]
        rw [if_pos ⟨Nat.zero_le _, by rw [size_flatK, hp1]; omega⟩, Nat.sub_zero, hfl d' t (by rw [hp1]; exact ht)]
        have hl := h2P _ (d'[t / 2]!).2
        rw [List.getElem?_eq_getElem (by rw [hl]; omega), List.getElem!_eq_getElem?_getD, List.getElem?_eq_getElem (by rw [hl]; omega)]
        rfl
      · rename_i ht
        rw [List.getElem?_eq_none (by rw [hcl]; omega)]
    · rw [hw]
      exact (sort_since enc 2 w g n d' os).mono (fun k _ hk => by rw [hk]; rfl)
end Go.Proofs.Ytnlkbboghcdpnaa
