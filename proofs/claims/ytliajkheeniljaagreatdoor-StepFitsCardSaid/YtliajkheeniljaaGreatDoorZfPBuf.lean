/- A buffer with a store more: the program's answer: the walk. -/
import Derived.Deep.RegionLaw
import Derived.Test.YtliajkheeniljaaGreatDoorZfPSrc
import Derived.Test.YtliajkheeniljaaGreatDoorZfShort
set_option linter.all false
namespace Go.Proofs.YtliajkheeniljaaGreatDoor
open Go.RowKit
set_option maxRecDepth 100000
set_option maxHeartbeats 16000000
theorem clip_any (w : World) (a : Option Addr) (n c : Nat) (hn : n ≤ c) : Calls Tryz.prog 110 #[.slice a n c] w fun e w' => e = .returned (.slice a n n) ∧ w' = w := by
 have h1 : ¬ ((n : Int) < 0) := by omega
 cases a with
 | none =>
  go_enter Tryz.func110, Tryz.ntmps110
  go_wp2_with fail
  go_ret
  exact ⟨by first | rfl | simp, rfl⟩
 | some a =>
  obtain ⟨ab, ao, asp⟩ := a
  go_enter Tryz.func110, Tryz.ntmps110
  go_wp2_with fail
  go_ret
  exact ⟨by first | rfl | simp, rfl⟩
theorem since_none {a b c : World} (h : Below a.heap.size a b) (k : Since (fun _ => False) b c) : Below a.heap.size a c := h.trans (k.below h.size (fun _ hk => hk.elim))
theorem alloc_drew_below (w : World) (o : Obj) : Below w.heap.size w (w.drew.alloc o) := (Below.refl _ _).drew.alloc (Nat.le_refl _) o
theorem pput_any (w : World) (bv : Value) (l : List EntryD) (h : BufAt w bv l) (hl : l.length ≤ 1000000) (m : MachD) (x : EntryD) :
  Calls Tryz.prog 85 #[bv, machV m, x.val] w fun e w' => (∃ bv', e = .returned (.tuple #[bv', .bool (putOk l m x)]) ∧ BufAt w' bv' (putB l m x) ∧ (putOk l m x = true → w'.ownsRow w.heap.size 50 2 bv' (putB l m x).length (flatC EntryD.cells (putB l m x)))) ∧ Below w.heap.size w w' := by
 obtain ⟨ba, bc, rfl, -⟩ := SliceR.slice h
 obtain ⟨n, hn⟩ : ∃ n, n = l.length := ⟨_, rfl⟩
 obtain ⟨mm, mb⟩ := m
 obtain ⟨xv, xn⟩ := x
 obtain ⟨p, hp⟩ : ∃ p : EntryD → Bool, p = (fun y => decide (mm = 1) || decide (y.var = xv)) := ⟨_, rfl⟩
 obtain ⟨ok, hok⟩ : ∃ ok, ok = putOk l ⟨mm, mb⟩ ⟨xv, xn⟩ := ⟨_, rfl⟩
 have hok2 : ok = ((decide (mm = 1) || decide (mm = 2)) && decide ((l.countP p : Int) < mb)) := by rw [hok, hp]; rfl
 have hpb : putB l ⟨mm, mb⟩ ⟨xv, xn⟩ = if ok then l ++ [⟨xv, xn⟩] else l := by rw [hok]; rfl
 rw [← hok, hpb]
 rw [← hn] at h hl ⊢
 have hroom := h.room
 rw [← hn] at hroom
 have HROOM := qh hroom
 have HOK := qh hok2
 have HP := qh hp
 have HN := qh hn
 clear hok hok2 hpb hp hn hroom
 have hb0 := boxes_below w (.cells #[.int .i64 mm, .int .i64 mb] 26) (.cells #[.int .i64 xv, .int .i64 xn] 50)
 have HB := qh hb0
 have HM := qh (boxes_first w (.cells #[.int .i64 mm, .int .i64 mb] 26) (.cells #[.int .i64 xv, .int .i64 xn] 50))
 have HX := qh (boxes_second w (.cells #[.int .i64 mm, .int .i64 mb] 26) (.cells #[.int .i64 xv, .int .i64 xn] 50))
 have HL := qh (BufAt.below h hb0)
 clear h hb0
 unfold machV EntryD.val
 simp only []
 go_enter Tryz.func85, Tryz.ntmps85
 go_upto_region 1 with fail
 generalize World.alloc (World.alloc w _) _ = W at HB HM HX HL ⊢
 obtain ⟨gx, hgx⟩ : ∃ gx, gx = w.heap.size := ⟨_, rfl⟩
 rw [← hgx] at HM HX ⊢
 clear hgx
 have HC : Hid (∀ x, Below W.heap.size W x → x.cell? ⟨gx, 0, none⟩ = some (.int .i64 mm) ∧ x.cell? ⟨gx, 1, none⟩ = some (.int .i64 mb) ∧ x.cell? ⟨gx + 1, 0, none⟩ = some (.int .i64 xv) ∧ x.cell? ⟨gx + 1, 1, none⟩ = some (.int .i64 xn)) := fun x hx =>
  ⟨qck hx _ _ (qcb HM.out 0), qck hx _ _ (qcb HM.out 1), qck hx _ _ (qcb HX.out 0), qck hx _ _ (qcb HX.out 1)⟩
 clear HM HX
 go_wp2_with fail
 go_loopg [8, 10, 13] n (fun gg s8 s10 s13 wr => ∃ i c : Nat, i ≤ n ∧ Hid (gg = n - i) ∧ s8 = .int .i64 c ∧ s13 = .int .i64 i ∧ Hid (c = (l.take i).countP p) ∧ c ≤ i ∧ Hid (Below W.heap.size W wr))
 case atStart => exact ⟨0, 0, Nat.zero_le _, rfl, rfl, rfl, by simp [Hid], Nat.le_refl _, Below.refl _ _⟩
 case round =>
  obtain ⟨i, c, hi, HG, rfl, rfl, HCN, hci, HBR⟩ := hrel
  by_cases hlt : i < n
  ·have hltI : (i : Int) < (n : Int) := by omega
   obtain ⟨eb, eo, hea, -, he1, he2⟩ := HL.out.part i (by rw [← HN.out]; exact hlt)
   subst hea
   obtain ⟨ev, hev⟩ : ∃ ev, ev = (l.getD i default).var := ⟨_, rfl⟩
   obtain ⟨en, hen⟩ : ∃ en, en = (l.getD i default).n := ⟨_, rfl⟩
   rw [← hev] at he1
   rw [← hen] at he2
   have e1 := qck HBR.out _ _ he1
   have e2 := qck HBR.out _ _ he2
   have hst := count_step (l := l) (i := i) (by rw [← HN.out]; exact hlt) p
   rw [← HCN.out] at hst
   have HST := qh hst
   have HPI : Hid (p (l.getD i default) = (decide (mm = 1) || decide (ev = xv))) := by rw [Hid, HP.out, hev]
   have HA := qh ((Below.refl wr.heap.size wr).alloc (Nat.le_refl _) (.cells #[.int .i64 ev, .int .i64 en] 50))
   have HY := qh (qhn wr (.cells #[.int .i64 ev, .int .i64 en] 50))
   clear he1 he2 hev hen hst
   go_upto_region 5 with fail
   generalize World.alloc wr _ = X at HA HY ⊢
   obtain ⟨gl, hgl⟩ : ∃ g, g = wr.heap.size := ⟨_, rfl⟩
   rw [← hgl] at HY ⊢
   clear hgl e1 e2
   have HBX : Hid (Below W.heap.size W X) := HBR.out.trans (HA.out.mono HBR.out.size)
   have d0 : X.cell? ⟨gl, 0, none⟩ = some (.int .i64 ev) := qcb HY.out 0
   obtain ⟨c0, c1, c2, c3⟩ := HC.out X HBX.out
   clear HY HA
   by_cases a1 : mm = 1
   ·have a1b : ((mm : Int) == 1) = true := by simp [a1]
    have HST2 : Hid (c + 1 = (l.take (i + 1)).countP p) := by rw [Hid, HST.out, HPI.out, a1]; simp
    have A1 := qh a1
    clear a1
    go_wp2_with fail
    go_roundg (n - (i + 1))
    case measure => rw [HG.out]; omega
    case rel => exact ⟨i + 1, c + 1, by omega, rfl, by simp, by simp, HST2.out, by omega, HBX.out⟩
   have a1b : ((mm : Int) == 1) = false := by simp [a1]
   have A1 := qh a1
   clear a1
   by_cases a2 : ev = xv
   ·have a2b : ((ev : Int) == xv) = true := by simp [a2]
    have HST2 : Hid (c + 1 = (l.take (i + 1)).countP p) := by rw [Hid, HST.out, HPI.out, a2]; simp
    clear a2
    go_wp2_with fail
    go_roundg (n - (i + 1))
    case measure => rw [HG.out]; omega
    case rel => exact ⟨i + 1, c + 1, by omega, rfl, by simp, by simp, HST2.out, by omega, HBX.out⟩
   ·have a2b : ((ev : Int) == xv) = false := by simp [a2]
    have A2 := qh a2
    have HST2 : Hid (c = (l.take (i + 1)).countP p) := by rw [Hid, HST.out, HPI.out]; simp [A1.out, A2.out]
    clear a2
    go_wp2_with fail
    go_roundg (n - (i + 1))
    case measure => rw [HG.out]; omega
    case rel => exact ⟨i + 1, c, by omega, rfl, rfl, by simp, HST2.out, by omega, HBX.out⟩
  obtain rfl : n = i := by omega
  obtain ⟨c0, c1, c2, c3⟩ := HC.out wr HBR.out
  have hcn : c = l.countP p := by rw [HCN.out, HN.out, List.take_length]
  have HCC := qh hcn
  have HLR := qh (BufAt.below HL.out HBR.out)
  have HWR := qh (HB.out.trans (HBR.out.mono HB.out.size))
  clear hcn HP HCN
  by_cases a2 : (c : Int) < mb
  rotate_left
  ·obtain rfl : ok = false := by
    rw [HOK.out, ← HCC.out]; simp [a2]
   clear HOK HCC
   go_wp2_with fail
   go_ret2
   exact ⟨⟨_, by first | rfl | simp, by simpa using HLR.out⟩, HWR.out⟩
  have a2n : ¬ mb ≤ (c : Int) := by omega
  by_cases a1 : mm = 1 ∨ mm = 2
  rotate_left
  ·obtain rfl : ok = false := by
    rw [HOK.out]
    have b1 : decide (mm = 1) = false := decide_eq_false (fun e => a1 (.inl e))
    have b2 : decide (mm = 2) = false := decide_eq_false (fun e => a1 (.inr e))
    rw [b1, b2]; rfl
   have b1 : ((mm : Int) == 1) = false := by rw [beq_eq_false_iff_ne]; exact fun e => a1 (.inl e)
   have b2 : ((mm : Int) == 2) = false := by rw [beq_eq_false_iff_ne]; exact fun e => a1 (.inr e)
   have b3 : ((mm : Int) != 1) = true := by rw [bne_iff_ne]; exact fun e => a1 (.inl e)
   have b4 : ((mm : Int) != 2) = true := by rw [bne_iff_ne]; exact fun e => a1 (.inr e)
   clear HOK HCC a1
   go_wp2_with fail
   go_ret2
   exact ⟨⟨_, by first | rfl | simp, by simpa using HLR.out⟩, HWR.out⟩
  obtain rfl : ok = true := by rw [HOK.out, ← HCC.out]; rcases a1 with a1 | a1 <;> simp [a1, a2]
  have HSRC : Hid (∀ X, Below wr.heap.size wr X → SrcOf X (.slice ba n n) n 2 (flatC EntryD.cells l)) := fun X hX => by
   have := SrcOf.of_slice (R := EntryR) (by decide) entry_len (fun _ _ _ h => h) (BufAt.below HLR.out hX)
   rw [← HN.out] at this
   obtain ⟨a', c', h1, h2, h3, h4⟩ := this
   cases h1
   exact ⟨ba, n, rfl, h2, h3, h4⟩
  have HEND : Hid (∀ a' cap' X, X.ownsRow (wr.drew.alloc (.cells #[.int .i64 xv, .int .i64 xn] 50)).heap.size 50 2 (.slice a' (n + 1) cap') (n + 1) (flatC EntryD.cells l ++ [.int .i64 xv, .int .i64 xn]) → BufAt X (.slice a' (n + 1) cap') (l ++ [⟨xv, xn⟩]) ∧ X.ownsRow w.heap.size 50 2 (.slice a' (n + 1) cap') (l ++ [(⟨xv, xn⟩ : EntryD)]).length (flatC EntryD.cells (l ++ [⟨xv, xn⟩]))) := fun a' cap' X hX => by
   have e1 : (l ++ [(⟨xv, xn⟩ : EntryD)]).length = n + 1 := by rw [List.length_append, ← HN.out]; rfl
   have e2 : flatC EntryD.cells (l ++ [⟨xv, xn⟩]) = flatC EntryD.cells l ++ [.int .i64 xv, .int .i64 xn] := by rw [flatC_append]; rfl
   have h3 : X.ownsRow (wr.drew.alloc (.cells #[.int .i64 xv, .int .i64 xn] 50)).heap.size 50 2 (.slice a' (n + 1) cap') (l ++ [(⟨xv, xn⟩ : EntryD)]).length (flatC EntryD.cells (l ++ [⟨xv, xn⟩])) := by rw [e1, e2]; exact hX
   exact ⟨buf_of h3, own_lower h3 (HWR.out.trans ((alloc_drew_below wr _).mono HWR.out.size)).size⟩
  have k1 := HROOM.out.1
  clear HOK HCC HLR HC HL HBR HB
  rcases a1 with rfl | rfl
  ·go_upto_region 10 with fail
   go_region_law (first | (refine step_append_full_ _ (by rfl) (.tmp 46) (.tmp 48) 46 rfl 50 (.agg #[.int .i64 0, .int .i64 0]) 2 16 Tryz.underlying46 entry_info rfl (by decide) ba n (flatC EntryD.cells l) rfl (HSRC.out _ (alloc_drew_below _ _)) ⟨wr.heap.size, 0, none⟩ 1 1 [.int .i64 xv, .int .i64 xn] rfl rfl (two_new wr.drew _ _ _) (by simp [Value.oneCell']) (by decide) (by unfold maxLen; omega) (by omega) ?_; intro ra rc X f1 f2 f3 f4; have HF1 := qh f1; have HF4 := qh f4; clear f1 f2 f3 f4) | (go_simp; go_at_call 110; refine (clip_any _ ba n bc k1).mono ?_; rintro e w2 ⟨rfl, rfl⟩))
   all_goals
    have HBF : Hid (Below w.heap.size w X) := HWR.out.trans ((since_none (alloc_drew_below wr _) HF4.out).mono HWR.out.size)
    go_wp2_with fail
    go_ret2
    have HE := HEND.out _ _ _ HF1.out
    exact ⟨⟨_, by first | rfl | simp, by simpa using HE.1, by simpa using HE.2⟩, HBF.out⟩
  ·go_upto_region 10 with fail
   go_region_law (first | (refine step_append_full_ _ (by rfl) (.tmp 46) (.tmp 48) 46 rfl 50 (.agg #[.int .i64 0, .int .i64 0]) 2 16 Tryz.underlying46 entry_info rfl (by decide) ba n (flatC EntryD.cells l) rfl (HSRC.out _ (alloc_drew_below _ _)) ⟨wr.heap.size, 0, none⟩ 1 1 [.int .i64 xv, .int .i64 xn] rfl rfl (two_new wr.drew _ _ _) (by simp [Value.oneCell']) (by decide) (by unfold maxLen; omega) (by omega) ?_; intro ra rc X f1 f2 f3 f4; have HF1 := qh f1; have HF4 := qh f4; clear f1 f2 f3 f4) | (go_simp; go_at_call 110; refine (clip_any _ ba n bc k1).mono ?_; rintro e w2 ⟨rfl, rfl⟩))
   all_goals
    have HBF : Hid (Below w.heap.size w X) := HWR.out.trans ((since_none (alloc_drew_below wr _) HF4.out).mono HWR.out.size)
    go_wp2_with fail
    go_ret2
    have HE := HEND.out _ _ _ HF1.out
    exact ⟨⟨_, by first | rfl | simp, by simpa using HE.1, by simpa using HE.2⟩, HBF.out⟩
end Go.Proofs.YtliajkheeniljaaGreatDoor
