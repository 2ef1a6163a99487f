/- Stores that wait: the document's answer: the walks. -/
import Derived.Test.YtliajkheeniljaaGreatDoorQData
import Derived.Test.YtliajkheeniljaaGreatDoorQShort
set_option linter.all false
namespace Go.Proofs.YtliajkheeniljaaGreatDoor
open Go.RowKit
set_option maxRecDepth 100000
set_option maxHeartbeats 16000000
theorem boxes_below (w : World) (o1 o2 : Obj) : Below w.heap.size w ((w.alloc o1).alloc o2) := ((Below.refl _ _).alloc (Nat.le_refl _) _).alloc (by simp) _
theorem boxes_first (w : World) (o1 o2 : Obj) : ((w.alloc o1).alloc o2).heap[w.heap.size]? = some o1 := (Below.heap_alloc _ _ _ (by simp)).trans (qhn w _)
theorem boxes_second (w : World) (o1 o2 : Obj) : ((w.alloc o1).alloc o2).heap[w.heap.size + 1]? = some o2 := by
 have := qhn (w.alloc o1) o2
 simp only [World.size_alloc] at this; exact this
theorem entry_info : (Tryz.prog.info? 50).map (fun i => (i.zero, i.size, i.bytes)) = some (some (.agg #[.int .i64 0, .int .i64 0]), 2, 16) := by kernel_rfl
theorem int_info : (Tryz.prog.info? 3).map (fun i => (i.zero, i.size, i.bytes)) = some (some (.int .i64 0), 1, 8) := by kernel_rfl
theorem entry_len (x : EntryD) : x.cells.length = 2 := rfl
theorem int_len (x : Int) : ([Value.int .i64 x]).length = 1 := rfl
def intC (x : Int) : List Value := [.int .i64 x]
theorem entry_one {l : List EntryD} : ∀ u ∈ flatC EntryD.cells l, u.oneCell' = true := fun u hu => by
 obtain ⟨x, -, hx⟩ := List.mem_flatMap.1 hu
 simp [EntryD.cells] at hx
 rcases hx with rfl | rfl <;> rfl
theorem int_one {l : List Int} : ∀ u ∈ flatC intC l, u.oneCell' = true := fun u hu => by
 obtain ⟨x, -, hx⟩ := List.mem_flatMap.1 hu
 simp [intC] at hx
 subst hx; rfl
theorem buf_of {w : World} {B : Nat} {sv : Value} {l : List EntryD} (h : w.ownsRow B 50 2 sv l.length (flatC EntryD.cells l)) : BufAt w sv l := SliceR.of_flat (R := EntryR) entry_len (fun _ _ => rfl) h
theorem ints_of {w : World} {B : Nat} {sv : Value} {l : List Int} (h : w.ownsRow B 3 1 sv l.length (flatC intC l)) : IntsAt w sv l := SliceR.of_flat (R := IntR) (f := intC) int_len (fun _ _ => rfl) h
def putCount (l : List EntryD) (m : MachD) (v : Int) : Nat := l.countP (fun y => decide (m.model = 1) || decide (y.var = v))
def putOk (l : List EntryD) (m : MachD) (x : EntryD) : Bool := (decide (m.model = 1) || decide (m.model = 2)) && decide ((putCount l m x.var : Int) < m.bound)
def putB (l : List EntryD) (m : MachD) (x : EntryD) : List EntryD := if putOk l m x then l ++ [x] else l
theorem count_step {l : List EntryD} {i : Nat} (hi : i < l.length) (p : EntryD → Bool) : (l.take (i + 1)).countP p = (l.take i).countP p + (if p (l.getD i default) then 1 else 0) := by
 rw [List.take_add_one, List.countP_append, List.getElem?_eq_getElem hi, List.getD_eq_getElem?_getD, List.getElem?_eq_getElem hi]
 simp [List.countP_cons]
theorem put_any (w : World) (bv : Value) (l : List EntryD) (h : BufAt w bv l) (hl : l.length ≤ 1000000) (m : MachD) (x : EntryD) :
  Calls Tryz.prog 70 #[bv, machV m, x.val] w fun e w' => (∃ bv', e = .returned (.tuple #[bv', .bool (putOk l m x)]) ∧ BufAt w' bv' (putB l m x) ∧ (putOk l m x = true → w'.ownsRow w.heap.size 50 2 bv' (putB l m x).length (flatC EntryD.cells (putB l m x)))) ∧ Below w.heap.size w w' := by
 obtain ⟨ba, bc, rfl, -⟩ := SliceR.slice h
 obtain ⟨n, hn⟩ : ∃ n, n = l.length := ⟨_, rfl⟩
 obtain ⟨mm, mb⟩ := m
 obtain ⟨xv, xn⟩ := x
 obtain ⟨p, hp⟩ : ∃ p : EntryD → Bool, p = (fun y => decide (mm = 1) || decide (y.var = xv)) := ⟨_, rfl⟩
 obtain ⟨ok, hok⟩ : ∃ ok, ok = putOk l ⟨mm, mb⟩ ⟨xv, xn⟩ := ⟨_, rfl⟩
 have hok2 : ok = ((decide (mm = 1) || decide (mm = 2)) && decide ((l.countP p : Int) < mb)) := by rw [hok, hp]; rfl
 have hpb : putB l ⟨mm, mb⟩ ⟨xv, xn⟩ = if ok then l ++ [⟨xv, xn⟩] else l := by rw [hok]; rfl
 rw [← hok, hpb]
 rw [← hn] at h hl ⊢
 have HOK := qh hok2
 have HP := qh hp
 have HN := qh hn
 clear hok hok2 hpb hp hn
 have hb0 := boxes_below w (.cells #[.int .i64 mm, .int .i64 mb] 26) (.cells #[.int .i64 xv, .int .i64 xn] 50)
 have HB := qh hb0
 have HM := qh (boxes_first w (.cells #[.int .i64 mm, .int .i64 mb] 26) (.cells #[.int .i64 xv, .int .i64 xn] 50))
 have HX := qh (boxes_second w (.cells #[.int .i64 mm, .int .i64 mb] 26) (.cells #[.int .i64 xv, .int .i64 xn] 50))
 have HL := qh (BufAt.below h hb0)
 clear h hb0
 unfold machV EntryD.val
 simp only []
 go_enter Tryz.func70, Tryz.ntmps70
 go_upto_region 1 with fail
 generalize World.alloc (World.alloc w _) _ = W at HB HM HX HL ⊢
 obtain ⟨gx, hgx⟩ : ∃ gx, gx = w.heap.size := ⟨_, rfl⟩
 rw [← hgx] at HM HX ⊢
 clear hgx
 have HC : Hid (∀ x, Below W.heap.size W x → x.cell? ⟨gx, 0, none⟩ = some (.int .i64 mm) ∧ x.cell? ⟨gx, 1, none⟩ = some (.int .i64 mb) ∧ x.cell? ⟨gx + 1, 0, none⟩ = some (.int .i64 xv) ∧ x.cell? ⟨gx + 1, 1, none⟩ = some (.int .i64 xn)) := fun x hx =>
  ⟨qck hx _ _ (qcb HM.out 0), qck hx _ _ (qcb HM.out 1), qck hx _ _ (qcb HX.out 0), qck hx _ _ (qcb HX.out 1)⟩
 clear HM HX
 go_wp2_with fail
 go_loopg [8, 9] n (fun gg s8 s9 wr => ∃ i c : Nat, i ≤ n ∧ Hid (gg = n - i) ∧ s8 = .int .i64 c ∧ s9 = .int .i64 i ∧ Hid (c = (l.take i).countP p) ∧ c ≤ i ∧ Hid (Below W.heap.size W wr))
 case atStart => exact ⟨0, 0, Nat.zero_le _, rfl, rfl, rfl, by simp [Hid], Nat.le_refl _, Below.refl _ _⟩
 case round =>
  obtain ⟨i, c, hi, HG, rfl, rfl, HCN, hci, HBR⟩ := hrel
  by_cases hlt : i < n
  ·have hltI : (i : Int) < (n : Int) := by omega
   obtain ⟨c0, c1, c2, c3⟩ := HC.out wr HBR.out
   obtain ⟨eb, eo, hea, -, he1, -⟩ := HL.out.part i (by rw [← HN.out]; exact hlt)
   subst hea
   obtain ⟨ev, hev⟩ : ∃ ev, ev = (l.getD i default).var := ⟨_, rfl⟩
   rw [← hev] at he1
   have e1 := qck HBR.out _ _ he1
   have hst := count_step (l := l) (i := i) (by rw [← HN.out]; exact hlt) p
   rw [← HCN.out] at hst
   have HST := qh hst
   have HPI : Hid (p (l.getD i default) = (decide (mm = 1) || decide (ev = xv))) := by rw [Hid, HP.out, hev]
   clear he1 hev hst
   by_cases a1 : mm = 1
   ·have a1b : ((mm : Int) == 1) = true := by simp [a1]
    have HST2 : Hid (c + 1 = (l.take (i + 1)).countP p) := by rw [Hid, HST.out, HPI.out, a1]; simp
    have A1 := qh a1
    clear a1
    go_wp2_with fail
    go_quiet (fail)
    go_wp2_with fail
    go_roundg (n - (i + 1))
    case measure => rw [HG.out]; omega
    case rel => exact ⟨i + 1, c + 1, by omega, rfl, by simp, by simp, HST2.out, by omega, drewN_below HBR.out _⟩
   have a1b : ((mm : Int) == 1) = false := by simp [a1]
   have A1 := qh a1
   clear a1
   by_cases a2 : ev = xv
   ·have a2b : ((ev : Int) == xv) = true := by simp [a2]
    have HST2 : Hid (c + 1 = (l.take (i + 1)).countP p) := by rw [Hid, HST.out, HPI.out, a2]; simp
    clear a2
    go_wp2_with fail
    go_quiet (fail)
    go_wp2_with fail
    go_roundg (n - (i + 1))
    case measure => rw [HG.out]; omega
    case rel => exact ⟨i + 1, c + 1, by omega, rfl, by simp, by simp, HST2.out, by omega, drewN_below HBR.out _⟩
   ·have a2b : ((ev : Int) == xv) = false := by simp [a2]
    have A2 := qh a2
    have HST2 : Hid (c = (l.take (i + 1)).countP p) := by rw [Hid, HST.out, HPI.out]; simp [A1.out, A2.out]
    clear a2
    go_wp2_with fail
    go_quiet (fail)
    go_wp2_with fail
    go_roundg (n - (i + 1))
    case measure => rw [HG.out]; omega
    case rel => exact ⟨i + 1, c, by omega, rfl, rfl, by simp, HST2.out, by omega, drewN_below HBR.out _⟩
  obtain rfl : n = i := by omega
  obtain ⟨c0, c1, c2, c3⟩ := HC.out wr HBR.out
  have hcn : c = l.countP p := by rw [HCN.out, HN.out, List.take_length]
  have HCC := qh hcn
  have HLR := qh (BufAt.below HL.out HBR.out)
  clear hcn
  by_cases a1 : mm = 1 ∨ mm = 2
  rotate_left
  ·have hok : ok = false := by rw [HOK.out]; simp; omega
   have a3 : ¬ mm = 1 := fun e => a1 (.inl e)
   have a4 : ¬ mm = 2 := fun e => a1 (.inr e)
   have a3b : ((mm : Int) != 1) = true := by simp [a3]
   have a4b : ((mm : Int) != 2) = true := by simp [a4]
   clear a1 a3 a4
   subst hok
   go_wp2_with fail
   go_ret2
   exact ⟨⟨_, by first | rfl | simp, by simpa using HLR.out⟩, HB.out.trans (HBR.out.mono HB.out.size)⟩
  by_cases a2 : (c : Int) < mb
  rotate_left
  ·have hok : ok = false := by rw [HOK.out, ← HCC.out]; simp; omega
   subst hok
   have a2n : mb ≤ (c : Int) := by omega
   rcases a1 with rfl | rfl <;> (go_wp2_with fail; go_ret2; exact ⟨⟨_, by first | rfl | simp, by simpa using HLR.out⟩, HB.out.trans (HBR.out.mono HB.out.size)⟩)
  as_aux_lemma =>
   have hok : ok = true := by rw [HOK.out, ← HCC.out]; rcases a1 with a1 | a1 <;> simp [a1, a2]
   have a2n : ¬ mb ≤ (c : Int) := by omega
   subst hok
   have CC : Hid (∀ x, Below wr.heap.size wr x → x.cell? ⟨gx + 1, 0, none⟩ = some (.int .i64 xv) ∧ x.cell? ⟨gx + 1, 1, none⟩ = some (.int .i64 xn)) := fun x hx => ⟨(HC.out x (qbt HBR.out hx)).2.2.1, (HC.out x (qbt HBR.out hx)).2.2.2⟩
   have HEQ : Hid (flatC EntryD.cells (l ++ [⟨xv, xn⟩]) = flatC EntryD.cells l ++ [.int .i64 xv, .int .i64 xn]) := by rw [Hid, flatC_append]; rfl
   have HLEN : Hid ((l ++ [(⟨xv, xn⟩ : EntryD)]).length = n + 1) := by rw [Hid, List.length_append, ← HN.out]; rfl
   have HB9 : Hid (Below w.heap.size w wr) := HB.out.trans (HBR.out.mono HB.out.size)
   have h0 := App.start 50 2 wr
   have hT0 := qh h0.drew
   clear h0
   have KEY : ∀ mm : Int, (mm = 1 ∨ mm = 2) → ((mm != 1) = true ∧ (mm != 2) = false) ∨ (mm != 1) = false := fun mm h => by rcases h with rfl | rfl <;> simp
   obtain ⟨i0, hi0, -, -, -⟩ := info_parts entry_info
   by_cases hn0 : n = 0
   ·have HE : Hid (flatC EntryD.cells l = []) := by rw [Hid, show l = [] from List.eq_nil_of_length_eq_zero (by rw [← HN.out]; exact hn0)]; rfl
    subst hn0
    rcases KEY mm a1 with ⟨m1, m2⟩ | m1
    ·clear a1 KEY
     go_upto_region 9 with fail
     refine wp_region_noPanic ?_
     refine wp_region_held_drew (S := fun x => Below wr.heap.size wr x) (by kernel_rfl) (Below.refl _ _).drew (fun _ => ?_)
     obtain ⟨wd, hwd⟩ : ∃ wd, wd = wr.drew := ⟨_, rfl⟩
     rw [← hwd] at hT0 ⊢
     clear hwd
     refine qtk 0 46 ?vq1 rfl ?hyq1 (hT0.out.below) ?_
     case hyq1 => (intro _ _; go_simp <;> rfl)
     simp only [Act.put, qz1, qz2, qz3]
     refine qtk 2 48 ?vq2 rfl ?hyq2 (hT0.out.below) ?_
     case hyq2 => (intro x h; have e := CC.out x h; go_simp <;> rfl)
     simp only [Act.put, qz1, qz2, qz3]
     refine wpAnyH_ready (rs := [1, 3]) (by kernel_rfl) (by simp) ?_
     refine AllReadyH.cons rfl (fun K hK => ?_) (AllReadyH.cons rfl (fun K hK => ?_) AllReadyH.nil)
     ·skip
      refine step_append_none wd (by rfl) (.const (.slice none 0 0)) (.tmp 46) 46 rfl 50 i0 Tryz.underlying46 hi0 (by rfl) ba bc (by rfl) ?_
      refine hK.out _ _ (hT0.out.below) (fun _ => ?_)
      clear hK K
      refine qrH 3 rfl (fun K hK => ?_)
      go_simp
      have hTq1 := hT0.out.alloc [.int .i64 xv, .int .i64 xn]
      refine hK.out _ _ hTq1.below (fun _ => ?_)
      obtain ⟨nb, hnb⟩ : ∃ n, n = wd.heap.size := ⟨_, rfl⟩
      rw [← hnb] at hTq1 ⊢
      clear hnb
      generalize World.alloc wd _ = Xq2 at hTq1 ⊢
      replace hTq1 := qh hTq1
      clear hK K
      refine qrH 4 rfl (fun K hK => ?_)
      refine step_append_where_ Xq2 (by rfl) (.tmp 47) (.tmp 49) 46 rfl 50 (.agg #[.int .i64 0, .int .i64 0]) 2 16 Tryz.underlying46 entry_info rfl (by decide) wr.heap.size (.slice none 0 0) 0 [] (by rfl) hTq1.out.row ⟨nb, 0, none⟩ 1 1 [.int .i64 xv, .int .i64 xn] (by rfl) (rfl) (hTq1.out.cell (by simp)) (by simp [Value.oneCell']) (by unfold maxLen; omega) (by omega) hTq1.out.below.size ?_
      intro ja jc Xq4 e1 e2 e3 e4 e5
      try simp only [Nat.zero_add, List.nil_append] at e1 e5 ⊢
      have hTq3 := qh (hTq1.out.app e1 e4 e5)
      clear e1 e2 e3 e4 e5
      refine hK.out _ _ hTq3.out.below (fun _ => ?_)
      clear hK K
      refine qtk 5 6 ?vq3 rfl ?hyq3 (hTq3.out.below) ?_
      case hyq3 => (intro _ _; go_simp <;> rfl)
      simp only [Act.put, qz1, qz2, qz3]
      refine qtk 6 7 ?vq4 rfl ?hyq4 (hTq3.out.below) ?_
      case hyq4 => (intro _ _; go_simp <;> rfl)
      simp only [Act.put, qz1, qz2, qz3]
      refine wpAnyH_done (by kernel_rfl) ?_ _
      refine NoPanic.normal ?_
      have hr := hTq3.out.row
      go_wp2_with fail
      go_ret2
      refine ⟨⟨.slice ja 1 jc, by first | rfl | simp, ?_, ?_⟩, HB9.out.trans (hTq3.out.below.mono HB9.out.size)⟩
      ·try rw [if_pos rfl]
       exact buf_of (B := wr.heap.size) (by rw [HLEN.out, HEQ.out, HE.out]; exact hr)
      ·have h2 : _ := own_lower (C := w.heap.size) (B := wr.heap.size) (n := (l ++ [(⟨xv, xn⟩ : EntryD)]).length) (xs := flatC EntryD.cells (l ++ [⟨xv, xn⟩])) (by rw [HLEN.out, HEQ.out, HE.out]; exact hr) HB9.out.size
       first | exact h2 | (intro _; exact h2) | simpa using h2
     ·skip
      go_simp
      have hTq5 := hT0.out.alloc [.int .i64 xv, .int .i64 xn]
      refine hK.out _ _ hTq5.below (fun _ => ?_)
      obtain ⟨nb, hnb⟩ : ∃ n, n = wd.heap.size := ⟨_, rfl⟩
      rw [← hnb] at hTq5 ⊢
      clear hnb
      generalize World.alloc wd _ = Xq6 at hTq5 ⊢
      replace hTq5 := qh hTq5
      clear hK K
      refine qrH 1 rfl (fun K hK => ?_)
      refine step_append_none Xq6 (by rfl) (.const (.slice none 0 0)) (.tmp 46) 46 rfl 50 i0 Tryz.underlying46 hi0 (by rfl) ba bc (by rfl) ?_
      refine hK.out _ _ (hTq5.out.below) (fun _ => ?_)
      clear hK K
      refine qrH 4 rfl (fun K hK => ?_)
      refine step_append_where_ Xq6 (by rfl) (.tmp 47) (.tmp 49) 46 rfl 50 (.agg #[.int .i64 0, .int .i64 0]) 2 16 Tryz.underlying46 entry_info rfl (by decide) wr.heap.size (.slice none 0 0) 0 [] (by rfl) hTq5.out.row ⟨nb, 0, none⟩ 1 1 [.int .i64 xv, .int .i64 xn] (by rfl) (rfl) (hTq5.out.cell (by simp)) (by simp [Value.oneCell']) (by unfold maxLen; omega) (by omega) hTq5.out.below.size ?_
      intro ja jc Xq8 e1 e2 e3 e4 e5
      try simp only [Nat.zero_add, List.nil_append] at e1 e5 ⊢
      have hTq7 := qh (hTq5.out.app e1 e4 e5)
      clear e1 e2 e3 e4 e5
      refine hK.out _ _ hTq7.out.below (fun _ => ?_)
      clear hK K
      refine qtk 5 6 ?vq5 rfl ?hyq5 (hTq7.out.below) ?_
      case hyq5 => (intro _ _; go_simp <;> rfl)
      simp only [Act.put, qz1, qz2, qz3]
      refine qtk 6 7 ?vq6 rfl ?hyq6 (hTq7.out.below) ?_
      case hyq6 => (intro _ _; go_simp <;> rfl)
      simp only [Act.put, qz1, qz2, qz3]
      refine wpAnyH_done (by kernel_rfl) ?_ _
      refine NoPanic.normal ?_
      have hr := hTq7.out.row
      go_wp2_with fail
      go_ret2
      refine ⟨⟨.slice ja 1 jc, by first | rfl | simp, ?_, ?_⟩, HB9.out.trans (hTq7.out.below.mono HB9.out.size)⟩
      ·try rw [if_pos rfl]
       exact buf_of (B := wr.heap.size) (by rw [HLEN.out, HEQ.out, HE.out]; exact hr)
      ·have h2 : _ := own_lower (C := w.heap.size) (B := wr.heap.size) (n := (l ++ [(⟨xv, xn⟩ : EntryD)]).length) (xs := flatC EntryD.cells (l ++ [⟨xv, xn⟩])) (by rw [HLEN.out, HEQ.out, HE.out]; exact hr) HB9.out.size
       first | exact h2 | (intro _; exact h2) | simpa using h2
    ·clear a1 KEY
     go_upto_region 9 with fail
     refine wp_region_noPanic ?_
     refine wp_region_held_drew (S := fun x => Below wr.heap.size wr x) (by kernel_rfl) (Below.refl _ _).drew (fun _ => ?_)
     obtain ⟨wd, hwd⟩ : ∃ wd, wd = wr.drew := ⟨_, rfl⟩
     rw [← hwd] at hT0 ⊢
     clear hwd
     refine qtk 0 46 ?vq7 rfl ?hyq7 (hT0.out.below) ?_
     case hyq7 => (intro _ _; go_simp <;> rfl)
     simp only [Act.put, qz1, qz2, qz3]
     refine qtk 2 48 ?vq8 rfl ?hyq8 (hT0.out.below) ?_
     case hyq8 => (intro x h; have e := CC.out x h; go_simp <;> rfl)
     simp only [Act.put, qz1, qz2, qz3]
     refine wpAnyH_ready (rs := [1, 3]) (by kernel_rfl) (by simp) ?_
     refine AllReadyH.cons rfl (fun K hK => ?_) (AllReadyH.cons rfl (fun K hK => ?_) AllReadyH.nil)
     ·skip
      refine step_append_none wd (by rfl) (.const (.slice none 0 0)) (.tmp 46) 46 rfl 50 i0 Tryz.underlying46 hi0 (by rfl) ba bc (by rfl) ?_
      refine hK.out _ _ (hT0.out.below) (fun _ => ?_)
      clear hK K
      refine qrH 3 rfl (fun K hK => ?_)
      go_simp
      have hTq1 := hT0.out.alloc [.int .i64 xv, .int .i64 xn]
      refine hK.out _ _ hTq1.below (fun _ => ?_)
      obtain ⟨nb, hnb⟩ : ∃ n, n = wd.heap.size := ⟨_, rfl⟩
      rw [← hnb] at hTq1 ⊢
      clear hnb
      generalize World.alloc wd _ = Xq2 at hTq1 ⊢
      replace hTq1 := qh hTq1
      clear hK K
      refine qrH 4 rfl (fun K hK => ?_)
      refine step_append_where_ Xq2 (by rfl) (.tmp 47) (.tmp 49) 46 rfl 50 (.agg #[.int .i64 0, .int .i64 0]) 2 16 Tryz.underlying46 entry_info rfl (by decide) wr.heap.size (.slice none 0 0) 0 [] (by rfl) hTq1.out.row ⟨nb, 0, none⟩ 1 1 [.int .i64 xv, .int .i64 xn] (by rfl) (rfl) (hTq1.out.cell (by simp)) (by simp [Value.oneCell']) (by unfold maxLen; omega) (by omega) hTq1.out.below.size ?_
      intro ja jc Xq4 e1 e2 e3 e4 e5
      try simp only [Nat.zero_add, List.nil_append] at e1 e5 ⊢
      have hTq3 := qh (hTq1.out.app e1 e4 e5)
      clear e1 e2 e3 e4 e5
      refine hK.out _ _ hTq3.out.below (fun _ => ?_)
      clear hK K
      refine qtk 5 6 ?vq9 rfl ?hyq9 (hTq3.out.below) ?_
      case hyq9 => (intro _ _; go_simp <;> rfl)
      simp only [Act.put, qz1, qz2, qz3]
      refine qtk 6 7 ?vq10 rfl ?hyq10 (hTq3.out.below) ?_
      case hyq10 => (intro _ _; go_simp <;> rfl)
      simp only [Act.put, qz1, qz2, qz3]
      refine wpAnyH_done (by kernel_rfl) ?_ _
      refine NoPanic.normal ?_
      have hr := hTq3.out.row
      go_wp2_with fail
      go_ret2
      refine ⟨⟨.slice ja 1 jc, by first | rfl | simp, ?_, ?_⟩, HB9.out.trans (hTq3.out.below.mono HB9.out.size)⟩
      ·try rw [if_pos rfl]
       exact buf_of (B := wr.heap.size) (by rw [HLEN.out, HEQ.out, HE.out]; exact hr)
      ·have h2 : _ := own_lower (C := w.heap.size) (B := wr.heap.size) (n := (l ++ [(⟨xv, xn⟩ : EntryD)]).length) (xs := flatC EntryD.cells (l ++ [⟨xv, xn⟩])) (by rw [HLEN.out, HEQ.out, HE.out]; exact hr) HB9.out.size
       first | exact h2 | (intro _; exact h2) | simpa using h2
     ·skip
      go_simp
      have hTq5 := hT0.out.alloc [.int .i64 xv, .int .i64 xn]
      refine hK.out _ _ hTq5.below (fun _ => ?_)
      obtain ⟨nb, hnb⟩ : ∃ n, n = wd.heap.size := ⟨_, rfl⟩
      rw [← hnb] at hTq5 ⊢
      clear hnb
      generalize World.alloc wd _ = Xq6 at hTq5 ⊢
      replace hTq5 := qh hTq5
      clear hK K
      refine qrH 1 rfl (fun K hK => ?_)
      refine step_append_none Xq6 (by rfl) (.const (.slice none 0 0)) (.tmp 46) 46 rfl 50 i0 Tryz.underlying46 hi0 (by rfl) ba bc (by rfl) ?_
      refine hK.out _ _ (hTq5.out.below) (fun _ => ?_)
      clear hK K
      refine qrH 4 rfl (fun K hK => ?_)
      refine step_append_where_ Xq6 (by rfl) (.tmp 47) (.tmp 49) 46 rfl 50 (.agg #[.int .i64 0, .int .i64 0]) 2 16 Tryz.underlying46 entry_info rfl (by decide) wr.heap.size (.slice none 0 0) 0 [] (by rfl) hTq5.out.row ⟨nb, 0, none⟩ 1 1 [.int .i64 xv, .int .i64 xn] (by rfl) (rfl) (hTq5.out.cell (by simp)) (by simp [Value.oneCell']) (by unfold maxLen; omega) (by omega) hTq5.out.below.size ?_
      intro ja jc Xq8 e1 e2 e3 e4 e5
      try simp only [Nat.zero_add, List.nil_append] at e1 e5 ⊢
      have hTq7 := qh (hTq5.out.app e1 e4 e5)
      clear e1 e2 e3 e4 e5
      refine hK.out _ _ hTq7.out.below (fun _ => ?_)
      clear hK K
      refine qtk 5 6 ?vq11 rfl ?hyq11 (hTq7.out.below) ?_
      case hyq11 => (intro _ _; go_simp <;> rfl)
      simp only [Act.put, qz1, qz2, qz3]
      refine qtk 6 7 ?vq12 rfl ?hyq12 (hTq7.out.below) ?_
      case hyq12 => (intro _ _; go_simp <;> rfl)
      simp only [Act.put, qz1, qz2, qz3]
      refine wpAnyH_done (by kernel_rfl) ?_ _
      refine NoPanic.normal ?_
      have hr := hTq7.out.row
      go_wp2_with fail
      go_ret2
      refine ⟨⟨.slice ja 1 jc, by first | rfl | simp, ?_, ?_⟩, HB9.out.trans (hTq7.out.below.mono HB9.out.size)⟩
      ·try rw [if_pos rfl]
       exact buf_of (B := wr.heap.size) (by rw [HLEN.out, HEQ.out, HE.out]; exact hr)
      ·have h2 : _ := own_lower (C := w.heap.size) (B := wr.heap.size) (n := (l ++ [(⟨xv, xn⟩ : EntryD)]).length) (xs := flatC EntryD.cells (l ++ [⟨xv, xn⟩])) (by rw [HLEN.out, HEQ.out, HE.out]; exact hr) HB9.out.size
       first | exact h2 | (intro _; exact h2) | simpa using h2
   obtain ⟨bb, bo, hba, -⟩ := HLR.out.part 0 (by rw [← HN.out]; omega)
   subst hba
   have HNEWS : Hid (∀ x, Below wr.heap.size wr x → ∀ j u, (flatC EntryD.cells l)[j]? = some u → x.cell? ((⟨bb, bo, none⟩ : Addr).add j) = some u) := fun x hx => SliceR.news (by omega) entry_len (fun _ _ _ h => h) (BufAt.below HLR.out hx)
   have HLN : Hid ((flatC EntryD.cells l).length = n * 2) := by rw [Hid, flatC_len entry_len, ← HN.out]
   rcases KEY mm a1 with ⟨m1, m2⟩ | m1
   ·clear a1 KEY
    go_upto_region 9 with fail
    refine wp_region_noPanic ?_
    refine wp_region_held_drew (S := fun x => Below wr.heap.size wr x) (by kernel_rfl) (Below.refl _ _).drew (fun _ => ?_)
    obtain ⟨wd, hwd⟩ : ∃ wd, wd = wr.drew := ⟨_, rfl⟩
    rw [← hwd] at hT0 ⊢
    clear hwd
    refine qtk 0 46 ?vq13 rfl ?hyq13 (hT0.out.below) ?_
    case hyq13 => (intro _ _; go_simp <;> rfl)
    simp only [Act.put, qz1, qz2, qz3]
    refine qtk 2 48 ?vq14 rfl ?hyq14 (hT0.out.below) ?_
    case hyq14 => (intro x h; have e := CC.out x h; go_simp <;> rfl)
    simp only [Act.put, qz1, qz2, qz3]
    refine wpAnyH_ready (rs := [1, 3]) (by kernel_rfl) (by simp) ?_
    refine AllReadyH.cons rfl (fun K hK => ?_) (AllReadyH.cons rfl (fun K hK => ?_) AllReadyH.nil)
    ·skip
     refine step_append_where_ wd (by rfl) (.const (.slice none 0 0)) (.tmp 46) 46 rfl 50 (.agg #[.int .i64 0, .int .i64 0]) 2 16 Tryz.underlying46 entry_info rfl (by decide) wr.heap.size (.slice none 0 0) 0 [] (by rfl) hT0.out.row ⟨bb, bo, none⟩ n bc (flatC EntryD.cells l) (by rfl) (HLN.out) (HNEWS.out _ (hT0.out.below)) (entry_one) (by unfold maxLen; omega) (by omega) hT0.out.below.size ?_
     intro ra rc Xq2 e1 e2 e3 e4 e5
     try simp only [Nat.zero_add, List.nil_append] at e1 e5 ⊢
     have hTq1 := qh (hT0.out.app e1 e4 e5)
     clear e1 e2 e3 e4 e5
     refine hK.out _ _ hTq1.out.below (fun _ => ?_)
     clear hK K
     refine qrH 3 rfl (fun K hK => ?_)
     go_simp
     have hTq3 := hTq1.out.alloc [.int .i64 xv, .int .i64 xn]
     refine hK.out _ _ hTq3.below (fun _ => ?_)
     obtain ⟨nb, hnb⟩ : ∃ n, n = Xq2.heap.size := ⟨_, rfl⟩
     rw [← hnb] at hTq3 ⊢
     clear hnb
     generalize World.alloc Xq2 _ = Xq4 at hTq3 ⊢
     replace hTq3 := qh hTq3
     clear hK K
     refine qrH 4 rfl (fun K hK => ?_)
     refine step_append_where_ Xq4 (by rfl) (.tmp 47) (.tmp 49) 46 rfl 50 (.agg #[.int .i64 0, .int .i64 0]) 2 16 Tryz.underlying46 entry_info rfl (by decide) wr.heap.size (.slice ra n rc) n (flatC EntryD.cells l) (by rfl) hTq3.out.row ⟨nb, 0, none⟩ 1 1 [.int .i64 xv, .int .i64 xn] (by rfl) (rfl) (hTq3.out.cell (by simp)) (by simp [Value.oneCell']) (by unfold maxLen; omega) (by omega) hTq3.out.below.size ?_
     intro ja jc Xq6 e1 e2 e3 e4 e5
     try simp only [Nat.zero_add, List.nil_append] at e1 e5 ⊢
     have hTq5 := qh (hTq3.out.app e1 e4 e5)
     clear e1 e2 e3 e4 e5
     refine hK.out _ _ hTq5.out.below (fun _ => ?_)
     clear hK K
     refine qtk 5 6 ?vq15 rfl ?hyq15 (hTq5.out.below) ?_
     case hyq15 => (intro _ _; go_simp <;> rfl)
     simp only [Act.put, qz1, qz2, qz3]
     refine qtk 6 7 ?vq16 rfl ?hyq16 (hTq5.out.below) ?_
     case hyq16 => (intro _ _; go_simp <;> rfl)
     simp only [Act.put, qz1, qz2, qz3]
     refine wpAnyH_done (by kernel_rfl) ?_ _
     refine NoPanic.normal ?_
     have hr := hTq5.out.row
     go_wp2_with fail
     go_ret2
     refine ⟨⟨.slice ja (n + 1) jc, by first | rfl | simp, ?_, ?_⟩, HB9.out.trans (hTq5.out.below.mono HB9.out.size)⟩
     ·try rw [if_pos rfl]
      exact buf_of (B := wr.heap.size) (by rw [HLEN.out, HEQ.out]; exact hr)
     ·have h2 : _ := own_lower (C := w.heap.size) (B := wr.heap.size) (n := (l ++ [(⟨xv, xn⟩ : EntryD)]).length) (xs := flatC EntryD.cells (l ++ [⟨xv, xn⟩])) (by rw [HLEN.out, HEQ.out]; exact hr) HB9.out.size
      first | exact h2 | (intro _; exact h2) | simpa using h2
    ·skip
     go_simp
     have hTq7 := hT0.out.alloc [.int .i64 xv, .int .i64 xn]
     refine hK.out _ _ hTq7.below (fun _ => ?_)
     obtain ⟨nb, hnb⟩ : ∃ n, n = wd.heap.size := ⟨_, rfl⟩
     rw [← hnb] at hTq7 ⊢
     clear hnb
     generalize World.alloc wd _ = Xq8 at hTq7 ⊢
     replace hTq7 := qh hTq7
     clear hK K
     refine qrH 1 rfl (fun K hK => ?_)
     refine step_append_where_ Xq8 (by rfl) (.const (.slice none 0 0)) (.tmp 46) 46 rfl 50 (.agg #[.int .i64 0, .int .i64 0]) 2 16 Tryz.underlying46 entry_info rfl (by decide) wr.heap.size (.slice none 0 0) 0 [] (by rfl) hTq7.out.row ⟨bb, bo, none⟩ n bc (flatC EntryD.cells l) (by rfl) (HLN.out) (HNEWS.out _ (hTq7.out.below)) (entry_one) (by unfold maxLen; omega) (by omega) hTq7.out.below.size ?_
     intro ra rc Xq10 e1 e2 e3 e4 e5
     try simp only [Nat.zero_add, List.nil_append] at e1 e5 ⊢
     have hTq9 := qh (hTq7.out.app e1 e4 e5)
     clear e1 e2 e3 e4 e5
     refine hK.out _ _ hTq9.out.below (fun _ => ?_)
     clear hK K
     refine qrH 4 rfl (fun K hK => ?_)
     refine step_append_where_ Xq10 (by rfl) (.tmp 47) (.tmp 49) 46 rfl 50 (.agg #[.int .i64 0, .int .i64 0]) 2 16 Tryz.underlying46 entry_info rfl (by decide) wr.heap.size (.slice ra n rc) n (flatC EntryD.cells l) (by rfl) hTq9.out.row ⟨nb, 0, none⟩ 1 1 [.int .i64 xv, .int .i64 xn] (by rfl) (rfl) (hTq9.out.cell (by simp)) (by simp [Value.oneCell']) (by unfold maxLen; omega) (by omega) hTq9.out.below.size ?_
     intro ja jc Xq12 e1 e2 e3 e4 e5
     try simp only [Nat.zero_add, List.nil_append] at e1 e5 ⊢
     have hTq11 := qh (hTq9.out.app e1 e4 e5)
     clear e1 e2 e3 e4 e5
     refine hK.out _ _ hTq11.out.below (fun _ => ?_)
     clear hK K
     refine qtk 5 6 ?vq17 rfl ?hyq17 (hTq11.out.below) ?_
     case hyq17 => (intro _ _; go_simp <;> rfl)
     simp only [Act.put, qz1, qz2, qz3]
     refine qtk 6 7 ?vq18 rfl ?hyq18 (hTq11.out.below) ?_
     case hyq18 => (intro _ _; go_simp <;> rfl)
     simp only [Act.put, qz1, qz2, qz3]
     refine wpAnyH_done (by kernel_rfl) ?_ _
     refine NoPanic.normal ?_
     have hr := hTq11.out.row
     go_wp2_with fail
     go_ret2
     refine ⟨⟨.slice ja (n + 1) jc, by first | rfl | simp, ?_, ?_⟩, HB9.out.trans (hTq11.out.below.mono HB9.out.size)⟩
     ·try rw [if_pos rfl]
      exact buf_of (B := wr.heap.size) (by rw [HLEN.out, HEQ.out]; exact hr)
     ·have h2 : _ := own_lower (C := w.heap.size) (B := wr.heap.size) (n := (l ++ [(⟨xv, xn⟩ : EntryD)]).length) (xs := flatC EntryD.cells (l ++ [⟨xv, xn⟩])) (by rw [HLEN.out, HEQ.out]; exact hr) HB9.out.size
      first | exact h2 | (intro _; exact h2) | simpa using h2
   ·clear a1 KEY
    go_upto_region 9 with fail
    refine wp_region_noPanic ?_
    refine wp_region_held_drew (S := fun x => Below wr.heap.size wr x) (by kernel_rfl) (Below.refl _ _).drew (fun _ => ?_)
    obtain ⟨wd, hwd⟩ : ∃ wd, wd = wr.drew := ⟨_, rfl⟩
    rw [← hwd] at hT0 ⊢
    clear hwd
    refine qtk 0 46 ?vq19 rfl ?hyq19 (hT0.out.below) ?_
    case hyq19 => (intro _ _; go_simp <;> rfl)
    simp only [Act.put, qz1, qz2, qz3]
    refine qtk 2 48 ?vq20 rfl ?hyq20 (hT0.out.below) ?_
    case hyq20 => (intro x h; have e := CC.out x h; go_simp <;> rfl)
    simp only [Act.put, qz1, qz2, qz3]
    refine wpAnyH_ready (rs := [1, 3]) (by kernel_rfl) (by simp) ?_
    refine AllReadyH.cons rfl (fun K hK => ?_) (AllReadyH.cons rfl (fun K hK => ?_) AllReadyH.nil)
    ·skip
     refine step_append_where_ wd (by rfl) (.const (.slice none 0 0)) (.tmp 46) 46 rfl 50 (.agg #[.int .i64 0, .int .i64 0]) 2 16 Tryz.underlying46 entry_info rfl (by decide) wr.heap.size (.slice none 0 0) 0 [] (by rfl) hT0.out.row ⟨bb, bo, none⟩ n bc (flatC EntryD.cells l) (by rfl) (HLN.out) (HNEWS.out _ (hT0.out.below)) (entry_one) (by unfold maxLen; omega) (by omega) hT0.out.below.size ?_
     intro ra rc Xq2 e1 e2 e3 e4 e5
     try simp only [Nat.zero_add, List.nil_append] at e1 e5 ⊢
     have hTq1 := qh (hT0.out.app e1 e4 e5)
     clear e1 e2 e3 e4 e5
     refine hK.out _ _ hTq1.out.below (fun _ => ?_)
     clear hK K
     refine qrH 3 rfl (fun K hK => ?_)
     go_simp
     have hTq3 := hTq1.out.alloc [.int .i64 xv, .int .i64 xn]
     refine hK.out _ _ hTq3.below (fun _ => ?_)
     obtain ⟨nb, hnb⟩ : ∃ n, n = Xq2.heap.size := ⟨_, rfl⟩
     rw [← hnb] at hTq3 ⊢
     clear hnb
     generalize World.alloc Xq2 _ = Xq4 at hTq3 ⊢
     replace hTq3 := qh hTq3
     clear hK K
     refine qrH 4 rfl (fun K hK => ?_)
     refine step_append_where_ Xq4 (by rfl) (.tmp 47) (.tmp 49) 46 rfl 50 (.agg #[.int .i64 0, .int .i64 0]) 2 16 Tryz.underlying46 entry_info rfl (by decide) wr.heap.size (.slice ra n rc) n (flatC EntryD.cells l) (by rfl) hTq3.out.row ⟨nb, 0, none⟩ 1 1 [.int .i64 xv, .int .i64 xn] (by rfl) (rfl) (hTq3.out.cell (by simp)) (by simp [Value.oneCell']) (by unfold maxLen; omega) (by omega) hTq3.out.below.size ?_
     intro ja jc Xq6 e1 e2 e3 e4 e5
     try simp only [Nat.zero_add, List.nil_append] at e1 e5 ⊢
     have hTq5 := qh (hTq3.out.app e1 e4 e5)
     clear e1 e2 e3 e4 e5
     refine hK.out _ _ hTq5.out.below (fun _ => ?_)
     clear hK K
     refine qtk 5 6 ?vq21 rfl ?hyq21 (hTq5.out.below) ?_
     case hyq21 => (intro _ _; go_simp <;> rfl)
     simp only [Act.put, qz1, qz2, qz3]
     refine qtk 6 7 ?vq22 rfl ?hyq22 (hTq5.out.below) ?_
     case hyq22 => (intro _ _; go_simp <;> rfl)
     simp only [Act.put, qz1, qz2, qz3]
     refine wpAnyH_done (by kernel_rfl) ?_ _
     refine NoPanic.normal ?_
     have hr := hTq5.out.row
     go_wp2_with fail
     go_ret2
     refine ⟨⟨.slice ja (n + 1) jc, by first | rfl | simp, ?_, ?_⟩, HB9.out.trans (hTq5.out.below.mono HB9.out.size)⟩
     ·try rw [if_pos rfl]
      exact buf_of (B := wr.heap.size) (by rw [HLEN.out, HEQ.out]; exact hr)
     ·have h2 : _ := own_lower (C := w.heap.size) (B := wr.heap.size) (n := (l ++ [(⟨xv, xn⟩ : EntryD)]).length) (xs := flatC EntryD.cells (l ++ [⟨xv, xn⟩])) (by rw [HLEN.out, HEQ.out]; exact hr) HB9.out.size
      first | exact h2 | (intro _; exact h2) | simpa using h2
    ·skip
     go_simp
     have hTq7 := hT0.out.alloc [.int .i64 xv, .int .i64 xn]
     refine hK.out _ _ hTq7.below (fun _ => ?_)
     obtain ⟨nb, hnb⟩ : ∃ n, n = wd.heap.size := ⟨_, rfl⟩
     rw [← hnb] at hTq7 ⊢
     clear hnb
     generalize World.alloc wd _ = Xq8 at hTq7 ⊢
     replace hTq7 := qh hTq7
     clear hK K
     refine qrH 1 rfl (fun K hK => ?_)
     refine step_append_where_ Xq8 (by rfl) (.const (.slice none 0 0)) (.tmp 46) 46 rfl 50 (.agg #[.int .i64 0, .int .i64 0]) 2 16 Tryz.underlying46 entry_info rfl (by decide) wr.heap.size (.slice none 0 0) 0 [] (by rfl) hTq7.out.row ⟨bb, bo, none⟩ n bc (flatC EntryD.cells l) (by rfl) (HLN.out) (HNEWS.out _ (hTq7.out.below)) (entry_one) (by unfold maxLen; omega) (by omega) hTq7.out.below.size ?_
     intro ra rc Xq10 e1 e2 e3 e4 e5
     try simp only [Nat.zero_add, List.nil_append] at e1 e5 ⊢
     have hTq9 := qh (hTq7.out.app e1 e4 e5)
     clear e1 e2 e3 e4 e5
     refine hK.out _ _ hTq9.out.below (fun _ => ?_)
     clear hK K
     refine qrH 4 rfl (fun K hK => ?_)
     refine step_append_where_ Xq10 (by rfl) (.tmp 47) (.tmp 49) 46 rfl 50 (.agg #[.int .i64 0, .int .i64 0]) 2 16 Tryz.underlying46 entry_info rfl (by decide) wr.heap.size (.slice ra n rc) n (flatC EntryD.cells l) (by rfl) hTq9.out.row ⟨nb, 0, none⟩ 1 1 [.int .i64 xv, .int .i64 xn] (by rfl) (rfl) (hTq9.out.cell (by simp)) (by simp [Value.oneCell']) (by unfold maxLen; omega) (by omega) hTq9.out.below.size ?_
     intro ja jc Xq12 e1 e2 e3 e4 e5
     try simp only [Nat.zero_add, List.nil_append] at e1 e5 ⊢
     have hTq11 := qh (hTq9.out.app e1 e4 e5)
     clear e1 e2 e3 e4 e5
     refine hK.out _ _ hTq11.out.below (fun _ => ?_)
     clear hK K
     refine qtk 5 6 ?vq23 rfl ?hyq23 (hTq11.out.below) ?_
     case hyq23 => (intro _ _; go_simp <;> rfl)
     simp only [Act.put, qz1, qz2, qz3]
     refine qtk 6 7 ?vq24 rfl ?hyq24 (hTq11.out.below) ?_
     case hyq24 => (intro _ _; go_simp <;> rfl)
     simp only [Act.put, qz1, qz2, qz3]
     refine wpAnyH_done (by kernel_rfl) ?_ _
     refine NoPanic.normal ?_
     have hr := hTq11.out.row
     go_wp2_with fail
     go_ret2
     refine ⟨⟨.slice ja (n + 1) jc, by first | rfl | simp, ?_, ?_⟩, HB9.out.trans (hTq11.out.below.mono HB9.out.size)⟩
     ·try rw [if_pos rfl]
      exact buf_of (B := wr.heap.size) (by rw [HLEN.out, HEQ.out]; exact hr)
     ·have h2 : _ := own_lower (C := w.heap.size) (B := wr.heap.size) (n := (l ++ [(⟨xv, xn⟩ : EntryD)]).length) (xs := flatC EntryD.cells (l ++ [⟨xv, xn⟩])) (by rw [HLEN.out, HEQ.out]; exact hr) HB9.out.size
      first | exact h2 | (intro _; exact h2) | simpa using h2
end Go.Proofs.YtliajkheeniljaaGreatDoor
