/- Names: what a byte is: the document's answer. A word of one byte is none of the language's own. A letter is a name: the document's answer: the walk. Programs: which may be, and that their instructions may be: plain Lean. May statements be: the document's answer: the walk over statements that may be. A program that may be is told so: the document's answer: the walk. -/
import Derived.Test.YtliajkheeniljaaGreatDoorQBlocks
import Derived.Test.YtliajkheeniljaaGreatDoorQData
import Derived.Test.YtliajkheeniljaaGreatDoorQStepQ
import Derived.Test.YtliajkheeniljaaGreatDoorQShort
set_option linter.all false
namespace Go.Proofs.YtliajkheeniljaaGreatDoor
open Go.RowKit
set_option maxRecDepth 100000
set_option maxHeartbeats 16000000
def letterB (c : Int) : Bool := decide (97 ≤ c) && decide (c ≤ 122)
theorem letter_any (w : World) (c : Int) : Calls Tryz.prog 118 #[.int .u8 c] w fun e w' => e = .returned (.bool (letterB c)) ∧ Below w.heap.size w w' := by
 unfold letterB
 by_cases h1 : 97 ≤ c
 ·go_enter Tryz.func118, Tryz.ntmps118
  go_wp2
  go_ret
  exact ⟨by simp [h1], Below.refl _ _⟩
 ·go_enter Tryz.func118, Tryz.ntmps118
  go_wp2
  go_ret
  exact ⟨by simp; omega, Below.refl _ _⟩
def oneW (b : UInt8) : Value := .string ⟨#[b]⟩
theorem register_one (w : World) (b : UInt8) : Calls Tryz.prog 120 #[oneW b] w fun e w' => e = .returned (.int .i64 (-1)) ∧ Below w.heap.size w w' := by
 unfold oneW
 have hsz : ((⟨#[b]⟩ : ByteArray)).size = 1 := rfl
 generalize (⟨#[b]⟩ : ByteArray) = s at hsz ⊢
 have hszI : ((s.size : Int) == 2) = false := by rw [hsz]; rfl
 go_enter Tryz.func120, Tryz.ntmps120
 go_wp2
 go_ret
 exact ⟨rfl, Below.refl _ _⟩
def keyL : List ByteArray := [⟨#[118, 97, 114, 115]⟩, ⟨#[100, 111, 109, 97, 105, 110]⟩, ⟨#[116, 104, 114, 101, 97, 100]⟩, ⟨#[102, 101, 110, 99, 101]⟩, ⟨#[115, 102, 101, 110, 99, 101]⟩, ⟨#[99, 97, 115]⟩, ⟨#[108, 111, 99, 107]⟩, ⟨#[117, 110, 108, 111, 99, 107]⟩, ⟨#[97, 115, 115, 101, 114, 116]⟩, ⟨#[105, 102]⟩, ⟨#[101, 108, 115, 101]⟩, ⟨#[119, 104, 105, 108, 101]⟩]
theorem key_no (i : Nat) (hi : i < 12) (s : ByteArray) (hs : s.size = 1) : ∃ k : ByteArray, (keyL.map Value.string)[i]? = some (.string k) ∧ k ≠ s := by
 have hne : ∀ k : ByteArray, k.size ≠ 1 → k ≠ s := fun k hk e => by rw [e] at hk; exact hk hs
 match i, hi with
 | 0, _ => exact ⟨_, rfl, hne _ (by decide)⟩
 | 1, _ => exact ⟨_, rfl, hne _ (by decide)⟩
 | 2, _ => exact ⟨_, rfl, hne _ (by decide)⟩
 | 3, _ => exact ⟨_, rfl, hne _ (by decide)⟩
 | 4, _ => exact ⟨_, rfl, hne _ (by decide)⟩
 | 5, _ => exact ⟨_, rfl, hne _ (by decide)⟩
 | 6, _ => exact ⟨_, rfl, hne _ (by decide)⟩
 | 7, _ => exact ⟨_, rfl, hne _ (by decide)⟩
 | 8, _ => exact ⟨_, rfl, hne _ (by decide)⟩
 | 9, _ => exact ⟨_, rfl, hne _ (by decide)⟩
 | 10, _ => exact ⟨_, rfl, hne _ (by decide)⟩
 | 11, _ => exact ⟨_, rfl, hne _ (by decide)⟩
theorem key_one (w : World) (b : UInt8) : Calls Tryz.prog 119 #[oneW b] w fun e w' => e = .returned (.bool false) ∧ Below w.heap.size w w' := by
 unfold oneW
 have hsz : ((⟨#[b]⟩ : ByteArray)).size = 1 := rfl
 generalize (⟨#[b]⟩ : ByteArray) = s at hsz ⊢
 have HB := qh ((Below.refl w.heap.size w).alloc (Nat.le_refl _) (.cells #[.string ⟨#[118, 97, 114, 115]⟩, .string ⟨#[100, 111, 109, 97, 105, 110]⟩, .string ⟨#[116, 104, 114, 101, 97, 100]⟩, .string ⟨#[102, 101, 110, 99, 101]⟩, .string ⟨#[115, 102, 101, 110, 99, 101]⟩, .string ⟨#[99, 97, 115]⟩, .string ⟨#[108, 111, 99, 107]⟩, .string ⟨#[117, 110, 108, 111, 99, 107]⟩, .string ⟨#[97, 115, 115, 101, 114, 116]⟩, .string ⟨#[105, 102]⟩, .string ⟨#[101, 108, 115, 101]⟩, .string ⟨#[119, 104, 105, 108, 101]⟩] 9))
 have HG := qh (qhn w (.cells #[.string ⟨#[118, 97, 114, 115]⟩, .string ⟨#[100, 111, 109, 97, 105, 110]⟩, .string ⟨#[116, 104, 114, 101, 97, 100]⟩, .string ⟨#[102, 101, 110, 99, 101]⟩, .string ⟨#[115, 102, 101, 110, 99, 101]⟩, .string ⟨#[99, 97, 115]⟩, .string ⟨#[108, 111, 99, 107]⟩, .string ⟨#[117, 110, 108, 111, 99, 107]⟩, .string ⟨#[97, 115, 115, 101, 114, 116]⟩, .string ⟨#[105, 102]⟩, .string ⟨#[101, 108, 115, 101]⟩, .string ⟨#[119, 104, 105, 108, 101]⟩] 9))
 go_enter Tryz.func119, Tryz.ntmps119
 go_upto_region 2 with fail
 generalize World.alloc w _ = W at HB HG ⊢
 generalize w.heap.size = g at HG ⊢
 go_wp2_with fail
 go_loopg [4] 12 (fun gg s4 wr => ∃ i : Nat, i ≤ 12 ∧ Hid (gg = 12 - i) ∧ s4 = .int .i64 i ∧ wr = W)
 case atStart => exact ⟨0, by omega, rfl, rfl, rfl⟩
 case round =>
  obtain ⟨i, hi, HGG, rfl, rfl⟩ := hrel
  by_cases hlt : i < 12
  rotate_left
  ·obtain rfl : i = 12 := by omega
   go_wp2_with fail
   go_ret
   exact ⟨rfl, HB.out⟩
  have hltI : (i : Int) < 12 := by omega
  obtain ⟨k, hk, hne⟩ := key_no i hlt s hsz
  have x0 : wr.cell? ⟨g, i, none⟩ = some (.string k) := by rw [qcb HG.out, List.getElem?_toArray]; exact hk
  have hnl : (k.toList == s.toList) = false := by
   rw [ByteArray.toList_eq, ByteArray.toList_eq, beq_eq_false_iff_ne]
   intro e
   apply hne
   obtain ⟨kd⟩ := k
   obtain ⟨sd⟩ := s
   have : kd = sd := Array.toList_inj.1 e
   rw [this]
  go_wp2_with fail
  go_roundg (12 - (i + 1))
  case measure => rw [HGG.out]; omega
  case rel => exact ⟨i + 1, by omega, rfl, by simp, rfl⟩
theorem name_one (w : World) (b : UInt8) (hb : letterB b.toNat = true) : Calls Tryz.prog 101 #[oneW b] w fun e w' => e = .returned (.bool true) ∧ Below w.heap.size w w' := by
 have hk := fun y => key_one y b
 have hr := fun y => register_one y b
 unfold oneW at hk hr ⊢
 have hsz : ((⟨#[b]⟩ : ByteArray)).size = 1 := rfl
 have hget : ∀ h : 0 < ((⟨#[b]⟩ : ByteArray)).size, ((⟨#[b]⟩ : ByteArray))[0]'h = b := fun _ => rfl
 have hne : ((⟨#[b]⟩ : ByteArray)).toList.isEmpty = false := by rw [ByteArray.toList_eq]; rfl
 generalize (⟨#[b]⟩ : ByteArray) = s at hsz hget hk hr hne ⊢
 have hlet : ∀ (y : World) (h : 0 < s.size), Calls Tryz.prog 118 #[.int .u8 ((s[0]'h).toNat : Int)] y fun e w' => e = .returned (.bool true) ∧ Below y.heap.size y w' := fun y h => by
  have := letter_any y (b.toNat : Int)
  rw [hb] at this
  rw [hget h]; exact this
 have HK := qh hk
 have HR := qh hr
 have HLET := qh hlet
 clear hk hr hlet hget
 have hnl : (s.toList == ([] : List UInt8)) = false := by rw [beq_eq_false_iff_ne]; intro e; rw [e] at hne; cases hne
 go_enter Tryz.func101, Tryz.ntmps101
 go_wp2_with (first | (go_at_call 120; go_must (refine (HR.out W2).mono ?_); rintro e W3 ⟨rfl, hb3⟩) | (go_at_call 119; go_must (refine (HK.out W1).mono ?_); rintro e W2 ⟨rfl, hb2⟩) | (go_at_call 118; go_must (refine (HLET.out w _).mono ?_); rintro e W1 ⟨rfl, hb1⟩))
 have HB3 := qh (qbt (qbt hb1 hb2) hb3)
 clear hb1 hb2 hb3
 go_loopg [3] 1 (fun gg s3 wr => ∃ i : Nat, i ≤ 1 ∧ Hid (gg = 1 - i) ∧ s3 = .int .i64 i ∧ Hid (Below w.heap.size w wr))
 case atStart => exact ⟨0, by omega, rfl, rfl, HB3.out⟩
 case round =>
  obtain ⟨i, hi, HGG, rfl, HBR⟩ := hrel
  by_cases hlt : i < 1
  ·obtain rfl : i = 0 := by omega
   go_wp2_with (go_at_call 118; go_must (refine (HLET.out wr _).mono ?_); rintro e W4 ⟨rfl, hb4⟩; (have HB4 := qh (qbt HBR.out hb4)); clear hb4)
   go_roundg 0
   case measure => rw [HGG.out]; omega
   case rel => exact ⟨1, by omega, rfl, by simp, HB4.out⟩
  ·obtain rfl : i = 1 := by omega
   go_wp2_with fail
   go_ret
   exact ⟨rfl, HBR.out⟩
mutual
def stmtN : StmtT → Nat
 | .mk _ _ _ _ _ y n => 1 + stmtsN y + stmtsN n
def stmtsN : List StmtT → Nat
 | [] => 0
 | x :: l => stmtN x + stmtsN l
end
def headOk (vars dom k r v : Int) (a b : ExprT) (y n : List StmtT) : Bool := decide (1 ≤ k) && decide (k ≤ 11) && partOk k r v a b vars dom && (decide (k = 10) || decide (n.length = 0) && (decide (k = 11) || decide (y.length = 0)))
mutual
def stmtOk (vars dom : Int) : StmtT → Nat → Bool
 | .mk k r v a b y n, d => decide (1 ≤ d) && headOk vars dom k r v a b y n && stmtsOk vars dom y (d - 1) && stmtsOk vars dom n (d - 1)
def stmtsOk (vars dom : Int) : List StmtT → Nat → Bool
 | [], _ => true
 | x :: l, d => stmtOk vars dom x d && stmtsOk vars dom l d
end
theorem stmtOk_parts {vars dom : Int} {x : StmtT} {d : Nat} (h : stmtOk vars dom x d = true) : 1 ≤ d ∧ headOk vars dom x.kind x.reg x.var x.a x.b x.yes x.no = true ∧ stmtsOk vars dom x.yes (d - 1) = true ∧ stmtsOk vars dom x.no (d - 1) = true := by
 obtain ⟨k, r, v, a, b, y, n⟩ := x
 unfold stmtOk at h
 simp only [Bool.and_eq_true, decide_eq_true_eq] at h
 exact ⟨h.1.1.1, h.1.1.2, h.1.2, h.2⟩
theorem stmtN_parts (x : StmtT) : stmtN x = 1 + stmtsN x.yes + stmtsN x.no := by
 obtain ⟨k, r, v, a, b, y, n⟩ := x
 rw [stmtN]; rfl
theorem head_facts {vars dom k r v : Int} {a b : ExprT} {y n : List StmtT} (h : headOk vars dom k r v a b y n = true) : 1 ≤ k ∧ k ≤ 11 ∧ partOk k r v a b vars dom = true ∧ (k = 10 ∨ n.length = 0 ∧ (k = 11 ∨ y.length = 0)) := by
 unfold headOk at h
 simp only [Bool.and_eq_true, Bool.or_eq_true, decide_eq_true_eq] at h
 exact ⟨h.1.1.1, h.1.1.2, h.1.2, h.2⟩
theorem stmtsOk_all {vars dom : Int} {l : List StmtT} {d : Nat} : stmtsOk vars dom l d = true ↔ ∀ x ∈ l, stmtOk vars dom x d = true := by
 induction l with
 | nil => simp [stmtsOk]
 | cons x l ih => rw [stmtsOk, Bool.and_eq_true, ih]; simp
theorem stmtsN_app (l r : List StmtT) : stmtsN (l ++ r) = stmtsN l + stmtsN r := by
 induction l with
 | nil => simp [stmtsN]
 | cons x l ih => rw [List.cons_append, stmtsN, stmtsN, ih]; omega
theorem stmtsN_take {l : List StmtT} {i : Nat} (hi : i < l.length) : stmtsN (l.take (i + 1)) = stmtsN (l.take i) + stmtN (l.getD i default) := by
 rw [List.take_succ_eq_append_getElem hi, stmtsN_app, List.getD_eq_getElem?_getD, List.getElem?_eq_getElem hi]
 simp [stmtsN]
theorem stmtsN_le (l : List StmtT) (i : Nat) : stmtsN (l.take i) ≤ stmtsN l := by
 have := stmtsN_app (l.take i) (l.drop i)
 rw [List.take_append_drop] at this
 omega
theorem stmtsOk_more {vars dom : Int} : ∀ (d : Nat) (l : List StmtT), stmtsOk vars dom l d = true → stmtsOk vars dom l (d + 1) = true := by
 intro d
 induction d with
 | zero =>
  intro l h
  cases l with
  | nil => rw [stmtsOk]
  | cons x l =>
   rw [stmtsOk_all] at h
   have := (stmtOk_parts (h x (by simp))).1
   omega
 | succ d ih =>
  intro l h
  rw [stmtsOk_all] at h ⊢
  intro x hx
  have h2 := h x hx
  obtain ⟨k, r, v, a, b, y, n⟩ := x
  unfold stmtOk at h2 ⊢
  simp only [Bool.and_eq_true, decide_eq_true_eq] at h2 ⊢
  exact ⟨⟨⟨by omega, h2.1.1.2⟩, ih y h2.1.2⟩, ih n h2.2⟩
theorem stmtsOk_le {vars dom : Int} {d e : Nat} {l : List StmtT} (h : stmtsOk vars dom l d = true) (hl : d ≤ e) : stmtsOk vars dom l e = true := by
 induction hl with
 | refl => exact h
 | step _ ih => exact stmtsOk_more _ _ ih
def instrIn (vars dom : Int) (to_ : Int) (x : InstrD) : Bool :=
 if x.op = 12 then fitsI vars dom 9 to_ x else if x.op = 13 then fitsI vars dom 4 to_ x else if x.op = 10 ∨ x.op = 11 then false else fitsI vars dom x.op 0 x
theorem fitsI_mono {vars dom k a b : Int} {x : InstrD} (h : fitsI vars dom k a x = true) (hab : a ≤ b) : fitsI vars dom k b x = true := by
 unfold fitsI at h ⊢
 simp only [Bool.and_eq_true, decide_eq_true_eq] at h ⊢
 exact ⟨⟨h.1.1, by omega⟩, h.2⟩
theorem instrIn_mono {vars dom a b : Int} {x : InstrD} (h : instrIn vars dom a x = true) (hab : a ≤ b) : instrIn vars dom b x = true := by
 unfold instrIn at h ⊢
 split
 ·rename_i h1; rw [if_pos h1] at h; exact fitsI_mono h hab
 ·rename_i h1; rw [if_neg h1] at h
  split
  ·rename_i h2; rw [if_pos h2] at h; exact fitsI_mono h hab
  ·rename_i h2; rw [if_neg h2] at h; exact h
theorem branch_in {vars dom : Int} {k r v : Int} {a b : ExprT} (hk : k = 10 ∨ k = 11) (h : partOk k r v a b vars dom = true) {to_ b_ : Int} (h0 : 0 ≤ to_) (h1 : to_ ≤ b_) : instrIn vars dom b_ (branchI a to_) = true := by
 have hp : partOk 9 0 0 a default vars dom = true := by
  have e1 : partR 9 0 = true := by decide
  have e2 : partV 9 0 vars = true := by simp [partV, hasV]
  have e3 : partA 9 a dom = true := by
   unfold partOk at h
   simp only [Bool.and_eq_true] at h
   have := h.1.2
   rcases hk with rfl | rfl
   ·simpa [partA, hasA] using this
   ·simpa [partA, hasA] using this
  have e4 : partB 9 default dom = true := by rfl
  simp [partOk, e1, e2, e3, e4]
 show fitsI vars dom 9 b_ (branchI a to_) = true
 unfold fitsI branchI
 simp only [Bool.and_eq_true, decide_eq_true_eq]
 exact ⟨⟨⟨by omega, h0⟩, h1⟩, hp⟩
theorem jump_in {vars dom : Int} {to_ b_ : Int} (h0 : 0 ≤ to_) (h1 : to_ ≤ b_) : instrIn vars dom b_ (jumpI to_) = true := by
 have hp : partOk 4 0 0 default default vars dom = true := by
  have e2 : partV 4 0 vars = true := by simp [partV, hasV]
  have e1 : partR 4 0 = true := by decide
  have e3 : partA 4 default dom = true := by rfl
  have e4 : partB 4 default dom = true := by rfl
  simp [partOk, e1, e2, e3, e4]
 show fitsI vars dom 4 b_ (jumpI to_) = true
 unfold fitsI jumpI
 simp only [Bool.and_eq_true, decide_eq_true_eq]
 exact ⟨⟨⟨by omega, h0⟩, h1⟩, hp⟩
theorem plain_in {vars dom : Int} {k r v : Int} {a b : ExprT} (h1 : 1 ≤ k) (h2 : k ≤ 11) (hk : ¬ k = 10) (hk2 : ¬ k = 11) (h : partOk k r v a b vars dom = true) {b_ : Int} (_hb : 0 ≤ b_) : instrIn vars dom b_ ⟨k, r, v, a, b, 0⟩ = true := by
 unfold instrIn
 rw [if_neg (by show ¬ k = 12; omega), if_neg (by show ¬ k = 13; omega), if_neg (by show ¬ (k = 10 ∨ k = 11); omega)]
 unfold fitsI
 simp only [Bool.and_eq_true, decide_eq_true_eq]
 exact ⟨⟨⟨⟨h1, by omega⟩, by omega⟩, by omega⟩, h⟩
def GoodI (vars dom : Int) (at_ : Int) (n : Nat) (l : List InstrD) : Prop := l.length ≤ 3 * n ∧ ∀ x ∈ l, instrIn vars dom (at_ + l.length) x = true
theorem GoodI.weak {vars dom at_ : Int} {n : Nat} {l : List InstrD} (h : GoodI vars dom at_ n l) {b : Int} (hb : at_ + l.length ≤ b) : ∀ x ∈ l, instrIn vars dom b x = true := fun x hx => instrIn_mono (h.2 x hx) hb
mutual
theorem stmtC_good (vars dom : Int) : ∀ (x : StmtT) (d : Nat) (at_ : Int), 0 ≤ at_ → stmtOk vars dom x d = true → GoodI vars dom at_ (stmtN x) (stmtC x at_)
 | .mk k r v a b y n, d, at_, h0, h => by
  have hp := stmtOk_parts h
  simp only [StmtT.kind, StmtT.reg, StmtT.var, StmtT.a, StmtT.b, StmtT.yes, StmtT.no] at hp
  obtain ⟨h1, h2, h3, h4⟩ := hp
  obtain ⟨k1, k2, hpart, hkind⟩ := head_facts h2
  have hY := blockC_good vars dom y (d - 1) (at_ + 1) (by omega) h3
  have hN := blockC_good vars dom n (d - 1) (at_ + 2 + (blockC y (at_ + 1)).length) (by omega) h4
  rw [stmtN]
  unfold stmtC
  split
  ·rename_i hk
   split
   ·refine ⟨by have := hY.1; simp only [List.length_cons]; omega, fun x hx => ?_⟩
    rcases List.mem_cons.1 hx with rfl | hx
    ·exact branch_in (.inl hk) hpart (by omega) (by simp only [List.length_cons]; omega)
    ·exact hY.weak (by simp only [List.length_cons]; omega) x hx
   ·refine ⟨by have := hY.1; have := hN.1; simp only [List.length_cons, List.length_append]; omega, fun x hx => ?_⟩
    rcases List.mem_cons.1 hx with rfl | hx
    ·exact branch_in (.inl hk) hpart (by omega) (by simp only [List.length_cons, List.length_append]; omega)
    ·rcases List.mem_append.1 hx with hx | hx
     ·exact hY.weak (by simp only [List.length_cons, List.length_append]; omega) x hx
     ·rcases List.mem_cons.1 hx with rfl | hx
      ·exact jump_in (by omega) (by simp only [List.length_cons, List.length_append]; omega)
      ·exact hN.weak (by simp only [List.length_cons, List.length_append]; omega) x hx
  ·rename_i hk
   split
   ·rename_i hk2
    refine ⟨by have := hY.1; simp only [List.length_cons, List.length_append, List.length_nil]; omega, fun x hx => ?_⟩
    rcases List.mem_cons.1 hx with rfl | hx
    ·exact branch_in (.inr hk2) hpart (by omega) (by simp only [List.length_cons, List.length_append, List.length_nil]; omega)
    ·rcases List.mem_append.1 hx with hx | hx
     ·exact hY.weak (by simp only [List.length_cons, List.length_append, List.length_nil]; omega) x hx
     ·rw [List.mem_singleton] at hx
      subst hx
      exact jump_in h0 (by simp only [List.length_cons, List.length_append, List.length_nil]; omega)
   ·rename_i hk2
    refine ⟨by simp only [List.length_cons, List.length_nil]; omega, fun x hx => ?_⟩
    rw [List.mem_singleton] at hx
    subst hx
    exact plain_in k1 k2 hk hk2 hpart (by simp only [List.length_cons, List.length_nil]; omega)
theorem blockC_good (vars dom : Int) : ∀ (l : List StmtT) (d : Nat) (at_ : Int), 0 ≤ at_ → stmtsOk vars dom l d = true → GoodI vars dom at_ (stmtsN l) (blockC l at_)
 | [], d, at_, h0, h => by rw [blockC]; exact ⟨Nat.zero_le _, fun x hx => by simp at hx⟩
 | x :: l, d, at_, h0, h => by
  rw [stmtsOk, Bool.and_eq_true] at h
  have hX := stmtC_good vars dom x d at_ h0 h.1
  have hL := blockC_good vars dom l d (at_ + (stmtC x at_).length) (by omega) h.2
  rw [blockC, stmtsN]
  refine ⟨by have := hX.1; have := hL.1; rw [List.length_append]; omega, fun y hy => ?_⟩
  rcases List.mem_append.1 hy with hy | hy
  ·exact hX.weak (by rw [List.length_append]; omega) y hy
  ·exact hL.weak (by rw [List.length_append]; omega) y hy
end
def xyz : List (List UInt8) := [[120], [121], [122]]
structure GoodP (p : ProgD) : Prop where
 vars : ∃ n, 1 ≤ n ∧ n ≤ 3 ∧ p.vars = xyz.take n
 dom : 2 ≤ p.domain ∧ p.domain ≤ 16
 many : 1 ≤ p.threads.length ∧ p.threads.length ≤ 3
 ok : ∀ l ∈ p.threads, stmtsOk p.vars.length p.domain l 20 = true
 all : (p.threads.map stmtsN).sum ≤ 200
def compileS (p : ProgD) : CodeD := ⟨p.vars.length, p.domain, p.threads.map (fun l => blockC l 0)⟩
theorem sum_mem {l : List Nat} {x : Nat} (h : x ∈ l) : x ≤ l.sum := by
 induction l with
 | nil => simp at h
 | cons y l ih =>
  rcases List.mem_cons.1 h with rfl | h
  ·simp
  ·have := ih h; simp; omega
theorem GoodP.one {p : ProgD} (h : GoodP p) {l : List StmtT} (hl : l ∈ p.threads) : stmtsN l ≤ 200 := by
 have := sum_mem (List.mem_map.2 ⟨l, hl, rfl⟩ : stmtsN l ∈ p.threads.map stmtsN)
 have := h.all
 omega
theorem compile_ok {p : ProgD} (h : GoodP p) : codeOk (compileS p) = true := by
 obtain ⟨n, n1, n2, hn⟩ := h.vars
 have hv : p.vars.length = n := by rw [hn, List.length_take]; simp [xyz]; omega
 have hd := h.dom
 have hm := h.many
 unfold codeOk compileS
 simp only [Bool.and_eq_true, decide_eq_true_eq, List.length_map]
 refine ⟨⟨⟨⟨⟨⟨by omega, by omega⟩, by omega⟩, by omega⟩, by omega⟩, by omega⟩, ?_⟩
 rw [List.all_eq_true]
 intro r hr
 obtain ⟨l, hl, rfl⟩ := List.mem_map.1 hr
 have hg := blockC_good p.vars.length p.domain l 20 0 (by omega) (h.ok l hl)
 have h2 := h.one hl
 unfold rowOk
 simp only [Bool.and_eq_true, decide_eq_true_eq]
 refine ⟨by have := hg.1; omega, ?_⟩
 rw [List.all_eq_true]
 intro x hx
 have := hg.2 x hx
 rw [Int.zero_add] at this
 exact this
theorem val_int {a b : Int} (h : a = b) : Value.int .i64 a = Value.int .i64 b := by rw [h]
def StmtsSays (e d : Nat) : Prop := ∀ (w : World) (l : List StmtT) (v : Value), StmtsAt e d w l v → ∀ (deep : Nat) (vars dom : Int), deep ≤ 1000 → stmtsOk vars dom l deep = true → stmtsN l ≤ 200 →
 Calls Tryz.prog 102 #[v, .int .i64 deep, .int .i64 vars, .int .i64 dom] w fun en w' => en = .returned (.tuple #[.int .i64 (stmtsN l), .bool true]) ∧ Below w.heap.size w w'
theorem stmts_of (e d : Nat) (ih : StmtsSays e d) : StmtsSays e (d + 1) := by
 intro w l v hl deep vars dom hdeep hok hN
 obtain ⟨la, lc, rfl, hll⟩ := hl.slice
 have htk := fun i (hi : i < l.length) => stmtsN_take (l := l) (i := i) hi
 have hle := fun i => stmtsN_le l i
 have hz : stmtsN (l.take 0) = 0 := by simp [stmtsN]
 have hR : stmtsN l = stmtsN (l.take l.length) := by rw [List.take_length]
 rw [hR] at hN hle ⊢
 obtain ⟨NT, hNT⟩ : ∃ NT : Nat → Nat, NT = fun i => stmtsN (l.take i) := ⟨_, rfl⟩
 have hNT2 : ∀ i, stmtsN (l.take i) = NT i := fun i => by rw [hNT]
 simp only [hNT2] at htk hle hz hN ⊢
 have hall := stmtsOk_all.1 hok
 obtain ⟨n, hnn⟩ : ∃ n, n = l.length := ⟨_, rfl⟩
 rw [← hnn] at hl hll htk hN hle ⊢
 have HL := qh hl
 have HN := qh hnn
 have HTK := qh htk
 have HLE := qh hle
 have HZ := qh hz
 have HALL := qh hall
 have IH := qh ih
 clear hl hnn htk hle hz hR hNT hNT2 hall hok ih
 go_enter Tryz.func102, Tryz.ntmps102
 go_wp2_with fail
 go_loopg [10, 11] n (fun gg s10 s11 wr => ∃ i : Nat, i ≤ n ∧ Hid (gg = n - i) ∧ s10 = .int .i64 (NT i) ∧ s11 = .int .i64 i ∧ Hid (Below w.heap.size w wr))
 case atStart => exact ⟨0, Nat.zero_le _, rfl, val_int (by rw [HZ.out]; rfl), rfl, Below.refl _ _⟩
 case round =>
  obtain ⟨i, hi, HG, rfl, rfl, HBR⟩ := hrel
  by_cases hlt : i < n
  rotate_left
  ·obtain rfl : n = i := by omega
   have hNI : ((NT n : Nat) : Int) ≤ 200 := by omega
   go_wp2_with fail
   go_ret2
   exact ⟨by first | rfl | simp, HBR.out⟩
  have hltI : (i : Int) < (n : Int) := by omega
  obtain ⟨b, off, aa, ac, ba, bc, ya, yc, na, nc, hea, -, hcell, hA, hB, hY, hNo⟩ := StmtsAt.part HL.out i (by rw [← HN.out]; exact hlt)
  subst hea
  have hx := HTK.out i hlt
  have hn1 := HLE.out (i + 1)
  have hxo := HALL.out (l.getD i default) (getD_mem (by rw [← HN.out]; exact hlt))
  generalize l.getD i default = x at hcell hA hB hY hNo hx hxo
  obtain ⟨hd1, hhead, hyo, hno⟩ := stmtOk_parts hxo
  obtain ⟨hk1, hk2, hpart, hkind⟩ := head_facts hhead
  rw [stmtN_parts] at hx
  have hcy := fun y (hy : Below w.heap.size w y) => IH.out y x.yes _ (hY.below hy) (deep - 1) vars dom (by omega) hyo (by omega)
  have hcn := fun y (hy : Below w.heap.size w y) => IH.out y x.no _ (hNo.below hy) (deep - 1) vars dom (by omega) hno (by omega)
  have hcp := fun y (hy : Below w.heap.size w y) => part_any y x.kind x.reg x.var x.a x.b _ _ e (hA.below hy) (hB.below hy) vars dom
  rw [hpart] at hcp
  rw [show ((deep - 1 : Nat) : Int) = (deep : Int) - 1 by omega] at hcy hcn
  unfold exprV at hcp
  have x0 : wr.cell? ⟨b, off + i * 13, none⟩ = some (.int .i64 x.kind) := qck HBR.out _ _ (hcell 0 (by omega))
  have x1 : wr.cell? ⟨b, off + i * 13 + 1, none⟩ = some (.int .i64 x.reg) := qck HBR.out _ _ (hcell 1 (by omega))
  have x2 : wr.cell? ⟨b, off + i * 13 + 2, none⟩ = some (.int .i64 x.var) := qck HBR.out _ _ (hcell 2 (by omega))
  have x3 : wr.cell? ⟨b, off + i * 13 + 3, none⟩ = some (.int .i64 x.a.kind) := qck HBR.out _ _ (hcell 3 (by omega))
  have x4 : wr.cell? ⟨b, off + i * 13 + 4, none⟩ = some (.int .i64 x.a.n) := qck HBR.out _ _ (hcell 4 (by omega))
  have x5 : wr.cell? ⟨b, off + i * 13 + 5, none⟩ = some (.int .u8 x.a.op) := qck HBR.out _ _ (hcell 5 (by omega))
  have x6 : wr.cell? ⟨b, off + i * 13 + 6, none⟩ = some (.slice aa x.a.kids.length ac) := qck HBR.out _ _ (hcell 6 (by omega))
  have x7 : wr.cell? ⟨b, off + i * 13 + 7, none⟩ = some (.int .i64 x.b.kind) := qck HBR.out _ _ (hcell 7 (by omega))
  have x8 : wr.cell? ⟨b, off + i * 13 + 8, none⟩ = some (.int .i64 x.b.n) := qck HBR.out _ _ (hcell 8 (by omega))
  have x9 : wr.cell? ⟨b, off + i * 13 + 9, none⟩ = some (.int .u8 x.b.op) := qck HBR.out _ _ (hcell 9 (by omega))
  have x10 : wr.cell? ⟨b, off + i * 13 + 10, none⟩ = some (.slice ba x.b.kids.length bc) := qck HBR.out _ _ (hcell 10 (by omega))
  have x11 : wr.cell? ⟨b, off + i * 13 + 11, none⟩ = some (.slice ya x.yes.length yc) := qck HBR.out _ _ (hcell 11 (by omega))
  have x12 : wr.cell? ⟨b, off + i * 13 + 12, none⟩ = some (.slice na x.no.length nc) := qck HBR.out _ _ (hcell 12 (by omega))
  generalize hyN : stmtsN x.yes = yN at hx hcy
  generalize hnN : stmtsN x.no = nN at hx hcn
  generalize x.kind = q0 at x0 hcp hk1 hk2 hkind
  generalize x.reg = q1 at x1 hcp
  generalize x.var = q2 at x2 hcp
  generalize x.a.kind = q3 at x3 hcp
  generalize x.a.n = q4 at x4 hcp
  generalize x.a.op = q5 at x5 hcp
  generalize x.a.kids.length = q6 at x6 hcp
  generalize x.b.kind = q7 at x7 hcp
  generalize x.b.n = q8 at x8 hcp
  generalize x.b.op = q9 at x9 hcp
  generalize x.b.kids.length = q10 at x10 hcp
  generalize x.yes.length = q11 at x11 hcy hkind
  generalize x.no.length = q12 at x12 hcn hkind
  have HX : Hid (NT (i + 1) = NT i + (1 + yN + nN)) := hx
  have hs1 : NT i + (1 + yN + nN) ≤ 200 := by omega
  generalize NT i = ni at HX hs1 ⊢
  have HCY := qh hcy
  have HCN := qh hcn
  have HCP := qh hcp
  clear hcell hA hB hY hNo hx hn1 hxo hhead hyo hno hpart hcy hcn hcp hyN hnN
  have hd1I : (1 : Int) ≤ (deep : Int) := by omega
  have hn200 : (ni : Int) + 1 ≤ 200 := by omega
  have b1 : decide ((deep : Int) < 1) = false := by rw [decide_eq_false_iff_not]; omega
  have b2 : decide ((200 : Int) < (ni : Int) + 1) = false := by rw [decide_eq_false_iff_not]; omega
  have b3 : decide (q0 < 1) = false := by rw [decide_eq_false_iff_not]; omega
  have b4 : decide (11 < q0) = false := by rw [decide_eq_false_iff_not]; omega
  have HK := qh hkind
  clear hkind hd1
  go_upto_region 7 with fail
  clear x0 x1 x2 x3 x4 x5 x6 x7 x8 x9 x10 x11 x12
  have hbx := qbt HBR.out ((Below.refl wr.heap.size wr).alloc (Nat.le_refl _) (.cells #[.int .i64 q0, .int .i64 q1, .int .i64 q2, .int .i64 q3, .int .i64 q4, .int .u8 q5, .slice aa q6 ac, .int .i64 q7, .int .i64 q8, .int .u8 q9, .slice ba q10 bc, .slice ya q11 yc, .slice na q12 nc] 165))
  have hg := qhn wr (.cells #[.int .i64 q0, .int .i64 q1, .int .i64 q2, .int .i64 q3, .int .i64 q4, .int .u8 q5, .slice aa q6 ac, .int .i64 q7, .int .i64 q8, .int .u8 q9, .slice ba q10 bc, .slice ya q11 yc, .slice na q12 nc] 165)
  have HBX := qh hbx
  have HGX := qh hg
  clear hbx hg
  generalize World.alloc wr _ = X at HBX HGX ⊢
  generalize wr.heap.size = gx at HGX ⊢
  have y0 := qcb HGX.out 0
  have y1 := qcb HGX.out 1
  have y2 := qcb HGX.out 2
  have y3 := qcb HGX.out 3
  have y4 := qcb HGX.out 4
  have y5 := qcb HGX.out 5
  have y6 := qcb HGX.out 6
  have y7 := qcb HGX.out 7
  have y8 := qcb HGX.out 8
  have y9 := qcb HGX.out 9
  have y10 := qcb HGX.out 10
  go_upto_region 9 with (go_at_call 74; go_must (refine (HCP.out X HBX.out).mono ?_); rintro en X1 ⟨rfl, hb⟩; (have HB1 := qh hb); clear hb y0 y1 y2 y3 y4 y5 y6 y7 y8 y9 y10)
  have HBX1 := qh (qbt HBX.out HB1.out)
  have HG1 := qh ((HB1.out.block _ (qlb HGX.out)).trans HGX.out)
  have z0 : X1.cell? ⟨gx, 0, none⟩ = some (.int .i64 q0) := qcb HG1.out 0
  have z5 : X1.cell? ⟨gx, 11, none⟩ = some (.slice ya q11 yc) := qcb HG1.out 11
  have z6 : X1.cell? ⟨gx, 12, none⟩ = some (.slice na q12 nc) := qcb HG1.out 12
  clear HBX HB1 HGX b1 b2 b3 b4
  go_cut [80] (fun s80 w' => s80 = .bool false ∧ w' = X1)
  case first =>
   by_cases h10 : q0 = 10
   ·subst h10
    go_wp2_with fail
    go_meet
    case rel => exact ⟨(by first | rfl | simp), rfl⟩
   have hk := HK.out.resolve_left h10
   have h10b : (q0 == 10) = false := by rw [beq_eq_false_iff_ne]; exact h10
   have h10c : (q0 != 10) = true := by rw [bne, h10b]; rfl
   obtain ⟨hno, hk⟩ := hk
   subst hno
   clear h10
   by_cases h11 : q0 = 11
   ·subst h11
    clear h10b h10c
    go_wp2_with fail
    go_meet
    case rel => exact ⟨(by first | rfl | simp), rfl⟩
   ·have h11b : (q0 == 11) = false := by rw [beq_eq_false_iff_ne]; exact h11
    have h11c : (q0 != 11) = true := by rw [bne, h11b]; rfl
    have hy0 := hk.resolve_left h11
    subst hy0
    clear h11 hk h10b h11b
    go_wp2_with fail
    go_meet
    case rel => exact ⟨(by first | rfl | simp), rfl⟩
  case rest =>
   obtain ⟨rfl, hwv⟩ := hcut
   obtain rfl : X1 = wc := hwv.symm
   clear z0
   go_upto_region 12 with (go_at_call 102; go_must (refine (HCY.out X1 HBX1.out).mono ?_); rintro en X2 ⟨rfl, hb⟩; (have HB2 := qh hb); (have HBX2 := qh (qbt HBX1.out hb)); clear hb; (have z6' := qck HB2.out _ _ z6); clear z5 z6)
   go_upto_region 13 with (go_at_call 102; go_must (refine (HCN.out X2 HBX2.out).mono ?_); rintro en X3 ⟨rfl, hb⟩; (have HBX3 := qh (qbt HBX2.out hb)); clear hb z6')
   go_wp2_with fail
   go_roundg (n - (i + 1))
   case measure => rw [HG.out]; omega
   case rel => exact ⟨i + 1, by omega, rfl, val_int (by rw [HX.out]; omega), by simp, HBX3.out⟩
theorem stmts_any (e d : Nat) : StmtsSays e d := by
 induction d with
 | zero => intro w l v hl; exact hl.elim
 | succ d ih => exact stmts_of e d ih
def VarR (_ : World) (x : List UInt8) (cs : List Value) : Prop := cs = [.string ⟨x.toArray⟩]
theorem VarR.stays : Stays VarR := fun _ _ _ _ h _ => h
abbrev VarsAt := SliceR VarR 1
theorem VarsAt.part {w : World} {a : Option Addr} {n cap : Nat} {l : List (List UInt8)} (h : VarsAt w (.slice a n cap) l) (j : Nat) (hj : j < l.length) : ∃ b off, a = some ⟨b, off, none⟩ ∧ b < w.heap.size ∧ w.cell? ⟨b, off + j, none⟩ = some (.string ⟨(l.getD j []).toArray⟩) := by
 obtain ⟨b, off, cs, h1, h2, h3, h4, h5⟩ := SliceR.part h j hj
 have h5 : cs = [.string ⟨(l.getD j default).toArray⟩] := h5
 subst h5
 have := h4 0 (by omega)
 rw [Nat.mul_one, Nat.add_zero] at this
 exact ⟨b, off, h1, h2, this⟩
def ThrR (e d : Nat) (w : World) (l : List StmtT) (cs : List Value) : Prop := ∃ v, cs = [v] ∧ StmtsAt e d w l v
theorem ThrR.stays (e d : Nat) : Stays (ThrR e d) := fun _ _ _ _ ⟨v, h, h1⟩ hb => ⟨v, h, h1.below hb⟩
abbrev ThrsAt (e d : Nat) := SliceR (ThrR e d) 1
theorem ThrsAt.part {e d : Nat} {w : World} {a : Option Addr} {n cap : Nat} {l : List (List StmtT)} (h : ThrsAt e d w (.slice a n cap) l) (j : Nat) (hj : j < l.length) : ∃ b off ka kc, a = some ⟨b, off, none⟩ ∧ b < w.heap.size ∧ w.cell? ⟨b, off + j, none⟩ = some (.slice ka (l.getD j []).length kc) ∧ StmtsAt e d w (l.getD j []) (.slice ka (l.getD j []).length kc) := by
 obtain ⟨b, off, cs, h1, h2, h3, h4, v, h5, h6⟩ := SliceR.part h j hj
 subst h5
 obtain ⟨ka, kc, rfl, -⟩ := h6.slice
 have := h4 0 (by omega)
 rw [Nat.mul_one, Nat.add_zero] at this
 exact ⟨b, off, ka, kc, h1, h2, this, h6⟩
def progV (p : ProgD) (vv tv : Value) : Value := .agg #[vv, .int .i64 p.domain, tv]
structure ProgAt (e d : Nat) (w : World) (p : ProgD) (vv tv : Value) : Prop where
 vars : VarsAt w vv p.vars
 threads : ThrsAt e d w tv p.threads
theorem ProgAt.below {e d : Nat} {w w' : World} {p : ProgD} {vv tv : Value} (h : ProgAt e d w p vv tv) (hb : Below w.heap.size w w') : ProgAt e d w' p vv tv := ⟨SliceR.below VarR.stays h.vars hb, SliceR.below (ThrR.stays e d) h.threads hb⟩
theorem xyz_at {n i : Nat} (hn : n ≤ 3) (hi : i < n) : ∃ b : UInt8, (xyz.take n).getD i [] = [b] ∧ letterB b.toNat = true ∧ b.toNat = 120 + i := by
 have hi3 : i = 0 ∨ i = 1 ∨ i = 2 := by omega
 have e : (xyz.take n).getD i [] = xyz.getD i [] := by simp only [List.getD_eq_getElem?_getD, List.getElem?_take_of_lt hi]
 rw [e]
 rcases hi3 with rfl | rfl | rfl
 ·exact ⟨120, rfl, rfl, rfl⟩
 ·exact ⟨121, rfl, rfl, rfl⟩
 ·exact ⟨122, rfl, rfl, rfl⟩
theorem one_ne {a b : UInt8} (h : a ≠ b) : ((⟨#[a]⟩ : ByteArray).toList == (⟨#[b]⟩ : ByteArray).toList) = false := by
 rw [beq_eq_false_iff_ne, ByteArray.toList_eq, ByteArray.toList_eq]
 intro e
 exact h (by simpa using e)
theorem sum_take {l : List Nat} {i : Nat} (hi : i < l.length) : (l.take (i + 1)).sum = (l.take i).sum + l.getD i 0 := by
 rw [List.take_succ_eq_append_getElem hi, List.sum_append, List.getD_eq_getElem?_getD, List.getElem?_eq_getElem hi]; simp
theorem sum_le (l : List Nat) (i : Nat) : (l.take i).sum ≤ l.sum := by
 have : (l.take i).sum + (l.drop i).sum = l.sum := by rw [← List.sum_append, List.take_append_drop]
 omega
theorem treeRight_any (e d : Nat) (w : World) (p : ProgD) (hp : GoodP p) (vv tv : Value) (h : ProgAt e d w p vv tv) : Calls Tryz.prog 75 #[progV p vv tv] w fun e w' => e = .returned (.bool true) ∧ Below w.heap.size w w' := by
 obtain ⟨va, vc, rfl, -⟩ := SliceR.slice h.vars
 obtain ⟨ta, tc, rfl, -⟩ := SliceR.slice h.threads
 obtain ⟨vn, v1, v2, hv⟩ := hp.vars
 have hvl : p.vars.length = vn := by rw [hv, List.length_take]; simp [xyz]; omega
 obtain ⟨d1, d2⟩ := hp.dom
 obtain ⟨m1, m2⟩ := hp.many
 obtain ⟨tn, htn⟩ : ∃ n, n = p.threads.length := ⟨_, rfl⟩
 have hxy := fun i (hi : i < vn) => xyz_at v2 hi
 rw [← hv] at hxy
 have hok : ∀ i, i < tn → stmtsOk vn p.domain (p.threads.getD i []) 20 = true ∧ stmtsN (p.threads.getD i []) ≤ 200 := fun i hi => by
  have hm : p.threads.getD i [] ∈ p.threads := getD_mem (by rw [← htn]; exact hi)
  have := hp.ok _ hm
  rw [hvl] at this
  exact ⟨this, hp.one hm⟩
 obtain ⟨ST, hST⟩ : ∃ ST : Nat → Nat, ST = fun i => ((p.threads.map stmtsN).take i).sum := ⟨_, rfl⟩
 have hst : ∀ i, i < tn → ST (i + 1) = ST i + stmtsN (p.threads.getD i []) := fun i hi => by
  simp only [hST]
  have := sum_take (l := p.threads.map stmtsN) (i := i) (by simp [← htn]; exact hi)
  rw [this]
  simp [List.getD_eq_getElem?_getD, List.getElem?_eq_getElem (htn ▸ hi : i < p.threads.length)]
 have hsle : ∀ i, ST i ≤ 200 := fun i => by rw [hST]; exact Nat.le_trans (sum_le _ _) hp.all
 have hs0 : ST 0 = 0 := by rw [hST]; rfl
 have hvars := h.vars
 have hthr := h.threads
 rw [← hvl] at hxy
 unfold progV
 generalize p.domain = dom at d1 d2 hok ⊢
 rw [← htn] at m1 m2
 generalize p.vars = L at hvl hvars hxy ⊢
 generalize p.threads = T at htn hthr hok hst ⊢
 rw [hvl] at hvars hxy ⊢
 rw [← htn] at hthr ⊢
 have hB := (Below.refl w.heap.size w).alloc (Nat.le_refl _) (.cells #[.slice va vn vc, .int .i64 dom, .slice ta tn tc] 92)
 have H1 := qh (qhn w (.cells #[.slice va vn vc, .int .i64 dom, .slice ta tn tc] 92))
 have HVARS := qh (SliceR.below VarR.stays hvars hB)
 have HTHR := qh (SliceR.below (ThrR.stays e d) hthr hB)
 have HB := qh hB
 have HVL := qh hvl
 have HTN := qh htn
 have HXY := qh hxy
 have HOK := qh hok
 have HST := qh hst
 have HSLE := qh hsle
 have HS0 := qh hs0
 clear hvars hthr hB hvl htn hxy hok hst hsle hs0 h hp hv hST
 have b1 : decide ((vn : Int) < 1) = false := by rw [decide_eq_false_iff_not]; omega
 have b2 : decide ((4 : Int) < (vn : Int)) = false := by rw [decide_eq_false_iff_not]; omega
 have b3 : decide (dom < 2) = false := by rw [decide_eq_false_iff_not]; omega
 have b4 : decide (16 < dom) = false := by rw [decide_eq_false_iff_not]; omega
 have b5 : decide ((tn : Int) < 1) = false := by rw [decide_eq_false_iff_not]; omega
 have b6 : decide ((4 : Int) < (tn : Int)) = false := by rw [decide_eq_false_iff_not]; omega
 go_enter Tryz.func75, Tryz.ntmps75
 go_upto_region 1 with fail
 generalize World.alloc w _ = W at HB H1 HVARS HTHR ⊢
 generalize w.heap.size = gx at H1 ⊢
 have HOUT : Hid (∀ x, Below W.heap.size W x → Below w.heap.size w x) := fun x hx => HB.out.trans (hx.mono HB.out.size)
 have HC : Hid (∀ x, Below W.heap.size W x → x.cell? ⟨gx, 0, none⟩ = some (.slice va vn vc) ∧ x.cell? ⟨gx, 1, none⟩ = some (.int .i64 dom) ∧ x.cell? ⟨gx, 2, none⟩ = some (.slice ta tn tc)) := fun x hx => ⟨qck hx _ _ (qcb H1.out 0), qck hx _ _ (qcb H1.out 1), qck hx _ _ (qcb H1.out 2)⟩
 obtain ⟨c0, c1, c2⟩ := HC.out W (Below.refl _ _)
 go_wp2_with fail
 clear c0 c1 c2 b1 b2 b3 b4 b5 b6
 go_loopg [3] vn (fun gg s3 wr => ∃ i : Nat, i ≤ vn ∧ Hid (gg = vn - i) ∧ s3 = .int .i64 i ∧ Hid (Below W.heap.size W wr))
 case atStart => exact ⟨0, Nat.zero_le _, rfl, rfl, Below.refl _ _⟩
 case round =>
  obtain ⟨i, hi, HG, rfl, HBR⟩ := hrel
  obtain ⟨c0, c1, c2⟩ := HC.out wr HBR.out
  by_cases hlt : i < vn
  ·have hltI : (i : Int) < (vn : Int) := by omega
   obtain ⟨b, off, hea, -, x0⟩ := VarsAt.part HVARS.out i (by rw [HVL.out]; exact hlt)
   subst hea
   obtain ⟨u, hu1, hu2, hu3⟩ := HXY.out i hlt
   rw [hu1] at x0
   have hname : Calls Tryz.prog 101 #[.string ⟨#[u]⟩] wr fun e w' => e = .returned (.bool true) ∧ Below wr.heap.size wr w' := name_one wr u hu2
   have hneu : ∀ v : UInt8, v ≠ u → ((⟨#[v]⟩ : ByteArray).toList == (⟨#[u]⟩ : ByteArray).toList) = false := fun v hv => one_ne hv
   have x0' : W.cell? ⟨b, off + i, none⟩ = some (.string ⟨#[u]⟩) := x0
   generalize (⟨#[u]⟩ : ByteArray) = su at x0' hname hneu
   have HX0 := qh x0'
   have HU3 := qh hu3
   have HNEU := qh hneu
   have y0 : wr.cell? ⟨b, off + i, none⟩ = some (.string su) := qck HBR.out _ _ x0'
   have HNAME := qh hname
   clear hu1 hu2 hu3 x0 x0' hname hneu
   go_upto_region 8 with (go_at_call 101; go_must (refine HNAME.out.mono ?_); rintro en X1 ⟨rfl, hb⟩; (have HB1 := qh (qbt HBR.out hb)); clear hb y0 c0 c1 c2 HNAME)
   go_wp2_with fail
   clear HBR
   go_loopg [4] i (fun gg s4 wr => ∃ k : Nat, k ≤ i ∧ Hid (gg = i - k) ∧ s4 = .int .i64 k ∧ Hid (Below W.heap.size W wr))
   case atStart => exact ⟨0, Nat.zero_le _, rfl, rfl, HB1.out⟩
   case round =>
    obtain ⟨k, hk, HG2, rfl, HBR2⟩ := hrel
    by_cases hlk : k < i
    rotate_left
    ·obtain rfl : i = k := by omega
     go_wp2_with fail
     go_roundg (vn - (i + 1))
     case measure => rw [HG.out]; omega
     case rel => exact ⟨i + 1, by omega, rfl, by simp, HBR2.out⟩
    have hlkI : (k : Int) < (i : Int) := by omega
    obtain ⟨b', off', hea, -, x1⟩ := VarsAt.part HVARS.out k (by rw [HVL.out]; omega)
    obtain ⟨rfl, rfl⟩ : b = b' ∧ off = off' := by simpa using hea
    obtain ⟨v, hv1, hv2, hv3⟩ := HXY.out k (by omega)
    rw [hv1] at x1
    have hne : v ≠ u := fun e => by have := HU3.out; rw [e] at hv3; omega
    have hnl := HNEU.out v hne
    obtain ⟨c0, c1, c2⟩ := HC.out wr HBR2.out
    have y0 : wr.cell? ⟨b, off + i, none⟩ = some (.string su) := qck HBR2.out _ _ HX0.out
    have y1 : wr.cell? ⟨b, off + k, none⟩ = some (.string ⟨#[v]⟩) := qck HBR2.out _ _ x1
    clear hv1 hv2 hv3 x1 hne
    generalize (⟨#[v]⟩ : ByteArray) = sv at y1 hnl
    go_upto_region 11 with fail
    go_quiet (fail)
    go_wp2_with fail
    go_roundg (i - (k + 1))
    case measure => rw [HG2.out]; omega
    case rel => exact ⟨k + 1, by omega, rfl, by simp, drewN_below HBR2.out _⟩
  obtain rfl : vn = i := by omega
  go_wp2_with fail
  clear c0 c1 c2
  go_loopg [5, 6] tn (fun gg s5 s6 wr => ∃ i : Nat, i ≤ tn ∧ Hid (gg = tn - i) ∧ s5 = .int .i64 (ST i) ∧ s6 = .int .i64 i ∧ Hid (Below W.heap.size W wr))
  case atStart => exact ⟨0, Nat.zero_le _, rfl, val_int (by rw [HS0.out]; rfl), rfl, HBR.out⟩
  case round =>
   obtain ⟨i, hi, HG, rfl, rfl, HBR⟩ := hrel
   obtain ⟨c0, c1, c2⟩ := HC.out wr HBR.out
   by_cases hlt : i < tn
   rotate_left
   ·obtain rfl : tn = i := by omega
    go_wp2_with fail
    go_ret
    exact ⟨rfl, HOUT.out _ HBR.out⟩
   have hltI : (i : Int) < (tn : Int) := by omega
   obtain ⟨b, off, ka, kc, hea, -, x0, hst⟩ := ThrsAt.part HTHR.out i (by rw [← HTN.out]; exact hlt)
   subst hea
   obtain ⟨hok, h200⟩ := HOK.out i hlt
   have hs1 := HST.out i hlt
   have hs2 := HSLE.out (i + 1)
   generalize T.getD i [] = l at x0 hst hok h200 hs1
   have hcl := fun y (hy : Below W.heap.size W y) => stmts_any e d y l _ (hst.below hy) 20 vn dom (by omega) hok h200
   have y0 := qck HBR.out _ _ x0
   generalize l.length = ln at y0 hcl
   have HS1 : Hid (ST (i + 1) = ST i + stmtsN l) := hs1
   have hsum : ST i + stmtsN l ≤ 200 := by omega
   generalize stmtsN l = sn at hcl HS1 hsum
   generalize ST i = si at HS1 hsum ⊢
   have HCL := qh hcl
   clear hst hok h200 hs1 hs2 hcl x0
   go_upto_region 17 with fail
   have CC : Hid (∀ x, Below wr.heap.size wr x → x.cell? ⟨gx, 0, none⟩ = some (.slice va vn vc) ∧ x.cell? ⟨gx, 1, none⟩ = some (.int .i64 dom) ∧ x.cell? ⟨gx, 2, none⟩ = some (.slice (some ⟨b, off, none⟩) tn tc) ∧ x.cell? ⟨b, off + i, none⟩ = some (.slice ka ln kc)) := fun x hx => ⟨qck hx _ _ c0, qck hx _ _ c1, qck hx _ _ c2, qck hx _ _ y0⟩
   clear y0 c0 c1 c2
   refine wp_region_noPanic ?_
   refine wp_region_held_drew (S := fun x => Below wr.heap.size wr x) (by kernel_rfl) (Below.refl _ _).drew (fun hH => ?_)
   refine qta 0 79 ?vq1 rfl ?hyq1 ?_
   case hyq1 => (intro x h; have e := CC.out x h; go_simp <;> rfl)
   simp only [Act.put, qz1, qz2, qz3]
   refine qta 1 80 ?vq2 rfl ?hyq2 ?_
   case hyq2 => (intro x h; have e := CC.out x h; go_simp <;> rfl)
   simp only [Act.put, qz1, qz2, qz3]
   refine qta 2 81 ?vq3 rfl ?hyq3 ?_
   case hyq3 => (intro x h; have e := CC.out x h; go_simp <;> rfl)
   simp only [Act.put, qz1, qz2, qz3]
   refine qta 3 82 ?vq4 rfl ?hyq4 ?_
   case hyq4 => (intro x h; have e := CC.out x h; go_simp <;> rfl)
   simp only [Act.put, qz1, qz2, qz3]
   refine qta 4 83 ?vq5 rfl ?hyq5 ?_
   case hyq5 => (intro x h; have e := CC.out x h; go_simp <;> rfl)
   simp only [Act.put, qz1, qz2, qz3]
   refine qta 5 84 ?vq6 rfl ?hyq6 ?_
   case hyq6 => (intro x h; have e := CC.out x h; go_simp <;> rfl)
   simp only [Act.put, qz1, qz2, qz3]
   refine qta 6 85 ?vq7 rfl ?hyq7 ?_
   case hyq7 => (intro x h; have e := CC.out x h; go_simp <;> rfl)
   simp only [Act.put, qz1, qz2, qz3]
   refine qta 7 86 ?vq8 rfl ?hyq8 ?_
   case hyq8 => (intro x h; have e := CC.out x h; go_simp <;> rfl)
   simp only [Act.put, qz1, qz2, qz3]
   refine qta 8 87 ?vq9 rfl ?hyq9 ?_
   case hyq9 => (intro x h; have e := CC.out x h; go_simp <;> rfl)
   simp only [Act.put, qz1, qz2, qz3]
   refine qta 9 88 ?vq10 rfl ?hyq10 ?_
   case hyq10 => (intro x h; have e := CC.out x h; go_simp <;> rfl)
   simp only [Act.put, qz1, qz2, qz3]
   refine qrH 10 rfl (fun K hK => ?_)
   go_simp
   refine (HCL.out wr.drew (qbt HBR.out hH)).mono ?_
   rintro en qw10 ⟨rfl, hb⟩
   have hHq10 : Below wr.heap.size wr qw10 := qbt hH hb
   refine hK.out _ _ hHq10 (fun _ => ?_)
   clear hK K hb hH
   refine qta 11 78 ?vq11 rfl ?hyq11 ?_
   case hyq11 => (intro x h; have e := CC.out x h; go_simp <;> rfl)
   simp only [Act.put, qz1, qz2, qz3]
   refine qta 12 90 ?vq12 rfl ?hyq12 ?_
   case hyq12 => (intro x h; have e := CC.out x h; go_simp <;> rfl)
   simp only [Act.put, qz1, qz2, qz3]
   refine qta 13 91 ?vq13 rfl ?hyq13 ?_
   case hyq13 => (intro x h; have e := CC.out x h; go_simp <;> rfl)
   simp only [Act.put, qz1, qz2, qz3]
   refine qta 14 7 ?vq14 rfl ?hyq14 ?_
   case hyq14 => (intro x h; have e := CC.out x h; go_simp <;> rfl)
   simp only [Act.put, qz1, qz2, qz3]
   refine qta 15 8 ?vq15 rfl ?hyq15 ?_
   case hyq15 => (intro x h; have e := CC.out x h; go_simp <;> rfl)
   simp only [Act.put, qz1, qz2, qz3]
   refine wpAnyH_done (by kernel_rfl) ?_ _
   refine NoPanic.normal ?_
   have HBY := qh (qbt HBR.out hHq10)
   clear hHq10 CC
   have hs200 : (si : Int) + (sn : Int) ≤ 200 := by omega
   have b1 : decide ((200 : Int) < (si : Int) + (sn : Int)) = false := by rw [decide_eq_false_iff_not]; omega
   go_wp2_with fail
   go_roundg (tn - (i + 1))
   case measure => rw [HG.out]; omega
   case rel => exact ⟨i + 1, by omega, rfl, val_int (by rw [HS1.out]; omega), by simp, HBY.out⟩
end Go.Proofs.YtliajkheeniljaaGreatDoor
