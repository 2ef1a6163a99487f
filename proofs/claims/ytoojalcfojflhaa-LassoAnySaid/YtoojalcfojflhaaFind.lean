/- A lasso that meets all marks: the walk. -/
import Derived.Test.YtoojalcfojflhaaFindP
import Derived.Test.YtoojalcfojflhaaTail
import Derived.Test.YtoojalcfojflhaaTwo
namespace Go.Proofs.Ytoojalcfojflhaa
open Go.RowKit

theorem results_cell2 {P : Program} {fn : Func} {p u v : Tmp} {ty : TypeId} (h : fn.results = #[.cell p ty, .tmp u, .tmp v]) (tmps : Array Value) (w : World) (g : Nat) (t : TypeId) (cs : Array Value) (fr : Nat × Nat) (d : TypeDesc)
    (hp : tmps.getD p undef = .pointer (some ⟨g, 0, none⟩)) (hg : w.heap[g]? = some (.cells cs t fr))
    (hu : P.underlying ty = some d) (hd : (match d with | .struct _ | .array _ _ => true | _ => false) = true) (hi : (P.info? ty).map (·.size) = some cs.size) :
    (results fn tmps).run P w = .ok (.tuple #[.agg cs, tmps.getD u undef, tmps.getD v undef]) w := by
  have hp' : tmps[p]?.getD undef = .pointer (some ⟨g, 0, none⟩) := by simpa using hp
  simp [results, h, hp', asAddr, run_loadVar_row w g t ty cs fr d hg hu hd hi]
theorem lasso_size : (Try.prog.info? 27).map (·.size) = some 3 := by kernel_rfl
theorem loop_step {V6 wr X : World} {b1 : Nat} {na fa na' fa' : Option Addr} {nc fc nc' fc' j : Nat} {u : Value} {ob : Obj} {xs ys xs' ys' : List Value} {bs : List (Nat × Value)} (hb6 : b1 < V6.heap.size)
    (hbl : wr.heap[b1]? = some (.cells #[.slice na j nc, .slice fa j fc, u] 27 (0, 0))) (hs : Since (fun y => y = b1) V6 wr) (hr1 : wr.ownsRow V6.heap.size 3 1 (.slice na j nc) j xs) (hr2 : wr.ownsRow V6.heap.size 3 1 (.slice fa j fc) j ys)
    (hT : Two (wr.alloc ob) X V6.heap.size (.slice na j nc) (.slice fa j fc) (.slice na' (j + 1) nc') (j + 1) xs' (.slice fa' (j + 1) fc') (j + 1) ys' bs) :
    ((X.setCell ⟨b1, 0, none⟩ (.slice na' (j + 1) nc')).setCell ⟨b1, 1, none⟩ (.slice fa' (j + 1) fc')).heap[b1]? = some (.cells #[.slice na' (j + 1) nc', .slice fa' (j + 1) fc', u] 27 (0, 0)) ∧
    ((X.setCell ⟨b1, 0, none⟩ (.slice na' (j + 1) nc')).setCell ⟨b1, 1, none⟩ (.slice fa' (j + 1) fc')).ownsRow V6.heap.size 3 1 (.slice na' (j + 1) nc') (j + 1) xs' ∧
    ((X.setCell ⟨b1, 0, none⟩ (.slice na' (j + 1) nc')).setCell ⟨b1, 1, none⟩ (.slice fa' (j + 1) fc')).ownsRow V6.heap.size 3 1 (.slice fa' (j + 1) fc') (j + 1) ys' ∧
    Since (fun y => y = b1) V6 ((X.setCell ⟨b1, 0, none⟩ (.slice na' (j + 1) nc')).setCell ⟨b1, 1, none⟩ (.slice fa' (j + 1) fc')) := by
  have h1 : ∀ y, (Value.slice na j nc).ownBlock = some y → V6.heap.size ≤ y := fun y hy => (hr1.lt y hy).1
  have h2 : ∀ y, (Value.slice fa j fc).ownBlock = some y → V6.heap.size ≤ y := fun y hy => (hr2.lt y hy).1
  have hbX : X.heap[b1]? = _ := (hT.since.block b1 (Nat.lt_of_lt_of_le (lt_of_block hbl) (by simp)) (fun e => by
    rcases e with e | e
    · have := h1 _ e; omega
    · have := h2 _ e; omega)).trans ((Below.heap_alloc _ _ _ (lt_of_block hbl)).trans hbl)
  have hS : Since (fun x => x = b1) X ((X.setCell ⟨b1, 0, none⟩ (.slice na' (j + 1) nc')).setCell ⟨b1, 1, none⟩ (.slice fa' (j + 1) fc')) := Since.setCell (p := ⟨b1, 1, none⟩) (Since.setCell (F := fun x => x = b1) (p := ⟨b1, 0, none⟩) (Since.refl _ X) (.inl rfl) _) (.inl rfl) _
  refine ⟨?_, hS.row hT.r1 (fun y hy e => by have := (hT.r1.lt y hy).1; omega), hS.row hT.r2 (fun y hy e => by have := (hT.r2.lt y hy).1; omega), ?_⟩
  · rw [set_of_block (set_of_block hbX _ _) _ _]; simp
  · refine ((hs.alloc ob).trans hT.since (fun y hy => .inr ?_)).trans hS (fun y hy => .inl hy)
    rcases hy with e | e
    · exact h1 y e
    · exact h2 y e
/-- Has a group all that a lasso wants? -/
def Good (g : GraphD) (grp : Nat → Int) (t : Nat) : Prop := (∃ a k, Inner g grp t a k) ∧ ∀ b, b < g.marks.toNat → ∃ a k, Inner g grp t a k ∧ bitI (g.markOf a k) b = true
set_option maxRecDepth 100000 in
set_option maxHeartbeats 4000000 in
theorem findAll_any (w : World) (g : GraphD) (ev iv : Value) (h : GraphAt w g ev iv) (hfit : g.fits) : Calls Try.prog 13 #[graphV g ev iv] w (FindTold g w) := by
  obtain ⟨ea, ec, rfl, hel⟩ := h.edges.slice
  obtain ⟨ia, ic, rfl, hil⟩ := h.initial.slice
  obtain ⟨N, hN⟩ : ∃ N, N = g.edges.length := ⟨_, rfl⟩
  obtain ⟨q, hq⟩ : ∃ q, q = g.initial.length := ⟨_, rfl⟩
  obtain ⟨m, hm⟩ : ∃ m, m = g.marks := ⟨_, rfl⟩
  have HB := Lib.hid (boxes_below w (.cells #[.slice ea N ec, .slice ia q ic, .int .i64 m] 25) (.cells #[.slice none 0 0, .slice none 0 0, .int .i64 0] 27))
  have H1 := Lib.hid (boxes_first w (.cells #[.slice ea N ec, .slice ia q ic, .int .i64 m] 25) (.cells #[.slice none 0 0, .slice none 0 0, .int .i64 0] 27))
  have H2 := Lib.hid (boxes_second w (.cells #[.slice ea N ec, .slice ia q ic, .int .i64 m] 25) (.cells #[.slice none 0 0, .slice none 0 0, .int .i64 0] 27))
  have hright := fun W (hW : Below w.heap.size w W) => lassoRight_any W g _ _ (h.below hW)
  have hgroups := fun (hr : g.right = true) W (hW : Below w.heap.size w W) => groups_any W g _ _ (h.below hW) hr
  have hmet := fun (hr : g.right = true) W (hW : Below w.heap.size w W) => met_any W g _ _ (h.below hW) hr
  unfold graphV at *
  simp only [← hN, ← hq, ← hm] at hel hil hright hgroups hmet h ⊢
  have HG := Lib.hid h
  have HFIT := Lib.hid hfit
  have HRT := Lib.hid hright
  have HGRS := Lib.hid hgroups
  have HMET := Lib.hid hmet
  have HN := Lib.hid hN
  have HQ := Lib.hid hq
  have HM := Lib.hid hm
  clear h hfit hright hgroups hmet hN hq hm
  go_enter Try.func13, Try.ntmps13
  go_upto_region 1 with fail
  generalize World.alloc _ _ = W at HB H1 H2 ⊢
  obtain ⟨b, hb⟩ : ∃ b, b = w.heap.size := ⟨_, rfl⟩
  rw [← hb] at H1 H2 ⊢
  have HBW := Lib.hid hb
  clear hb
  have c0 := cell_of_block H1.out 0
  have c1 := cell_of_block H1.out 1
  have c2 := cell_of_block H1.out 2
  have d0 := cell_of_block H2.out 0
  have d1 := cell_of_block H2.out 1
  have d2 := cell_of_block H2.out 2
  have f0 := free_of_block H2.out 0
  have f1 := free_of_block H2.out 1
  have f2 := free_of_block H2.out 2
  simp only [List.getElem?_toArray, List.getElem?_cons_zero, List.getElem?_cons_succ] at c0 c1 c2 d0 d1 d2
  go_wp2_with fail
  refine (HRT.out W HB.out).mono ?_
  rintro e W1 ⟨rfl, hb1⟩
  have HB1 : Hid (Below W.heap.size W W1) := hb1
  clear HRT hb1
  obtain ⟨gr, hgr⟩ : ∃ gr, gr = g.right := ⟨_, rfl⟩
  rw [← hgr]
  have HGR := Lib.hid hgr
  clear hgr
  replace c0 := cells_kept HB1.out _ _ c0
  replace c1 := cells_kept HB1.out _ _ c1
  replace c2 := cells_kept HB1.out _ _ c2
  replace d0 := cells_kept HB1.out _ _ d0
  replace d1 := cells_kept HB1.out _ _ d1
  replace d2 := cells_kept HB1.out _ _ d2
  have hfz : ∀ x, W1.frozen? ⟨b + 1, x, none⟩ = false := fun x => free_of_block ((HB1.out.block _ (lt_of_block H2.out)).trans H2.out) x
  replace f0 := hfz 0
  replace f1 := hfz 1
  replace f2 := hfz 2
  clear hfz
  cases gr
  · have hbl := (HB1.out.block _ (lt_of_block H2.out)).trans H2.out
    have HBL := Lib.hid hbl
    clear hbl HGRS HMET
    go_wp2_with fail
    (try simp only [Exit.inBlock, Exit.then])
    have hs3 := set_of_block (set_of_block (set_of_block HBL.out 0 (.slice none 0 0)) 1 (.slice none 0 0)) 2 (.int .i64 0)
    simp only [List.setIfInBounds_toArray, List.set_cons_zero, List.set_cons_succ] at hs3
    refine bodyPost_ret (results_cell2 rfl _ _ (b + 1) 27 _ (0, 0) _ rfl hs3 Try.underlying27 rfl lasso_size) rfl ?_
    have hbw := HBW.out
    have h1 := below_then HB.out HB1.out
    exact ⟨((h1.setCell (p := ⟨b + 1, 0, none⟩) (by show w.heap.size ≤ b + 1; omega) _).setCell (p := ⟨b + 1, 1, none⟩) (by show w.heap.size ≤ b + 1; omega) _).setCell (p := ⟨b + 1, 2, none⟩) (by show w.heap.size ≤ b + 1; omega) _, .inl ⟨HGR.out.symm, rfl⟩⟩
  · have hr := HGR.out.symm
    obtain ⟨mn, hmn, hmn40⟩ : ∃ mn : Nat, m = (mn : Int) ∧ mn ≤ 40 := by
      have h := hr
      unfold GraphD.right at h
      simp only [Bool.and_eq_true, decide_eq_true_eq] at h
      have := HM.out
      exact ⟨m.toNat, by omega, by omega⟩
    have hN1 : N ≤ 1000000 := by
      have h := hr
      unfold GraphD.right at h
      simp only [Bool.and_eq_true, decide_eq_true_eq] at h
      have := HN.out
      omega
    subst hmn
    have HR := Lib.hid hr
    clear hr
    go_wp2_with fail
    refine (HGRS.out HR.out W1 (below_then HB.out HB1.out)).mono ?_
    rintro e W2 ⟨gb, s, rfl, hgb, hgbs, hb2, ht1, ht2, ht3⟩
    have HGP := Lib.hid (Groups.of (g := g) (by rw [← HN.out]; exact ht1) ht2 ht3)
    generalize s.group = grp at hgb HGP
    have hB2 : Below W.heap.size W W2 := below_then HB1.out hb2
    have hal := (Below.refl W2.heap.size W2).alloc (Nat.le_refl _) (.cells #[.slice (some ⟨gb, 0, none⟩) N N] 23)
    have HGX := Lib.hid (heap_alloc_new W2 (.cells #[.slice (some ⟨gb, 0, none⟩) N N] 23))
    have hB3 := below_then hB2 hal
    have HB3 := Lib.hid hB3
    have HGB := Lib.hid ((hal.block _ (lt_of_block hgb)).trans hgb)
    have HGBS : Hid (W.heap.size ≤ gb) := Nat.le_trans HB1.out.size hgbs
    have HGXS : Hid (W.heap.size ≤ W2.heap.size) := hB2.size
    have HBLT : Hid (b + 1 < W.heap.size) := lt_of_block H2.out
    clear hgb hgbs hb2 ht1 ht2 ht3 HGRS HB1 c0 c1 c2 d0 d1 d2 f0 f1 f2 hB2 hB3 hal
    go_upto_region 4 with fail
    generalize World.alloc W2 _ = V at HGX HB3 HGB ⊢
    obtain ⟨gx, hgx⟩ : ∃ gx, gx = W2.heap.size := ⟨_, rfl⟩
    rw [← hgx] at HGX HGXS ⊢
    clear hgx
    have H1V := Lib.hid ((HB3.out.block _ (lt_of_block H1.out)).trans H1.out)
    have H2V := Lib.hid ((HB3.out.block _ (lt_of_block H2.out)).trans H2.out)
    have c0 := cell_of_block H1V.out 0
    have c1 := cell_of_block H1V.out 1
    have c2 := cell_of_block H1V.out 2
    have c3 := cell_of_block HGX.out 0
    simp only [List.getElem?_toArray, List.getElem?_cons_zero, List.getElem?_cons_succ] at c0 c1 c2 c3
    go_upto_region 5 with fail
    rw [mask64 mn hmn40]
    obtain ⟨M, hM⟩ : ∃ M : Int, M = 2 ^ mn - 1 := ⟨_, rfl⟩
    rw [← hM]
    have HMASK := Lib.hid hM
    clear hM
    go_wp2_with fail
    refine (HMET.out HR.out V (below_then HB.out HB3.out) grp gb HGB.out).mono ?_
    rintro e W5 ⟨mb, ml, rfl, hmi, hmb, hb5, hmt⟩
    have HB5 : Hid (Below V.heap.size V W5) := hb5
    have HMI := Lib.hid hmi
    have HMT := Lib.hid hmt
    replace c0 := cells_kept hb5 _ _ c0
    replace c1 := cells_kept hb5 _ _ c1
    replace c2 := cells_kept hb5 _ _ c2
    replace c3 := cells_kept hb5 _ _ c3
    clear hmi hmb hb5 hmt HMET
    go_wp2_with fail
    have C0 := Lib.hid c0
    have C1 := Lib.hid c1
    have C2 := Lib.hid c2
    have C3 := Lib.hid c3
    clear c0 c1 c2 c3
    go_loopg [32] N (fun gg s32 wr => ∃ t : Nat, t ≤ N ∧ Hid (gg = N - t) ∧ s32 = .int .i64 t ∧ Hid (Below W5.heap.size W5 wr) ∧ Hid (∀ t', t' < t → ¬ Good g grp t'))
    case atStart => exact ⟨0, Nat.zero_le _, rfl, rfl, Below.refl _ _, fun t ht => by omega⟩
    case round =>
      obtain ⟨t, ht, HG2, rfl, HBR, HJ⟩ := hrel
      by_cases hlt : t < N
      · have htI : (t : Int) < (N : Int) := by omega
        have hal := (Below.refl wr.heap.size wr).alloc (Nat.le_refl _) (.cells #[.int .i64 (t : Int)] 3)
        have HTX := Lib.hid (heap_alloc_new wr (.cells #[.int .i64 (t : Int)] 3))
        have HBV := Lib.hid (below_then HBR.out hal)
        clear hal
        go_upto_region 9 with fail
        generalize World.alloc wr _ = V8 at HTX HBV ⊢
        obtain ⟨tx, htx⟩ : ∃ tx, tx = wr.heap.size := ⟨_, rfl⟩
        have HTXS : Hid (W.heap.size ≤ tx) := by rw [Hid, htx]; exact Nat.le_trans HB3.out.size (Nat.le_trans HB5.out.size HBR.out.size)
        rw [← htx] at HTX ⊢
        clear htx HBR
        have c4 := cell_of_block HTX.out 0
        simp only [List.getElem?_toArray, List.getElem?_cons_zero] at c4
        have hmi8 := HMI.out.below HBV.out
        rcases HMT.out (t : Int) with ⟨hn1, hn2⟩ | ⟨mv, hs1, ⟨ia1, ik1, -, hs2⟩, hs3⟩
        · have hlk : (Instr.lookup 48 (.map (some mb)) (.int .i64 (t : Int)) true).run Try.prog V8 = .ok (.tuple #[.int .i64 0, .bool false]) V8 := by
            rw [run_lookup_ints hmi8 Try.underlying48 Try.underlying3 (zero_int_run V8) t true, hn1]; rfl
          have hno : ¬ Good g grp t := fun hg => by obtain ⟨⟨a, k, h⟩, -⟩ := hg; exact hn2 a k trivial h
          have HNO := Lib.hid hno
          clear hn1 hn2 hmi8 hno
          go_wp2_with fail
          go_roundg (N - (t + 1))
          case measure => rw [HG2.out]; omega
          case rel => exact ⟨t + 1, by omega, rfl, by simp, HBV.out, fun t' ht' => by
            by_cases he : t' = t
            · subst he; exact HNO.out
            · exact HJ.out t' (by omega)⟩
        · have hlk : (Instr.lookup 48 (.map (some mb)) (.int .i64 (t : Int)) true).run Try.prog V8 = .ok (.tuple #[.int .i64 mv, .bool true]) V8 := by
            rw [run_lookup_ints hmi8 Try.underlying48 Try.underlying3 (zero_int_run V8) t true, hs1]; rfl
          have hgood : Good g grp t ↔ bits .and .i64 mv M = M := by
            have hmk2 : g.marks.toNat = mn := by have := HM.out; omega
            rw [HMASK.out, all_met mv mn hmn40]
            constructor
            · intro hg b hb
              obtain ⟨a, k, e1, e2⟩ := hg.2 b (by rw [hmk2]; exact hb)
              exact (hs3 b).2 ⟨a, k, trivial, e1, e2⟩
            · intro hb
              refine ⟨⟨ia1, ik1, hs2⟩, fun b hb' => ?_⟩
              obtain ⟨a, k, -, e1, e2⟩ := (hs3 b).1 (hb b (by rw [← hmk2]; exact hb'))
              exact ⟨a, k, e1, e2⟩
          obtain ⟨an, han⟩ : ∃ an, an = bits .and .i64 mv M := ⟨_, rfl⟩
          rw [← han] at hgood
          by_cases hae : an = M
          · have HGOOD := Lib.hid (hgood.2 hae)
            have hab : (bits .and .i64 mv M != M) = false := by rw [← han, hae]; simp
            clear hs1 hs2 hs3 hmi8 hgood han hae
            have d0 := cells_kept HBV.out _ _ C0.out
            have d1 := cells_kept HBV.out _ _ C1.out
            have d2 := cells_kept HBV.out _ _ C2.out
            have hB8 : Below w.heap.size w V8 := below_then (below_then (below_then HB.out HB3.out) HB5.out) HBV.out
            have hal := (Below.refl V8.heap.size V8).alloc (Nat.le_refl _) (.cells #[.slice ea N ec, .slice ia q ic, .int .i64 (mn : Int), .func (.func 21) #[] #[]] 54)
            have hnw := heap_alloc_new V8 (.cells #[.slice ea N ec, .slice ia q ic, .int .i64 (mn : Int), .func (.func 21) #[] #[]] 54)
            have HX := Lib.hid (below_then hB8 hal)
            have HXV := Lib.hid (below_then (below_then HB5.out HBV.out) hal)
            have HSB := Lib.hid hnw
            have HTX2 := Lib.hid ((hal.block _ (lt_of_block HTX.out)).trans HTX.out)
            have HTXL : Hid (tx < V8.heap.size) := lt_of_block HTX.out
            have HGOODL : Hid (gx < V8.heap.size ∧ gb < V8.heap.size ∧ b + 1 < V8.heap.size) := by
              have h1 := lt_of_block HGX.out
              have h2 := lt_of_block HGB.out
              have h3 := HBLT.out
              have h4 := HB3.out.size
              have h5 := HB5.out.size
              have h6 := HBV.out.size
              exact ⟨by omega, by omega, by omega⟩
            clear hB8 hal hnw HJ HTX
            as_aux_lemma =>
              go_upto_region 12 with fail
              clear hlk hab c4 d0 d1 d2
              generalize World.alloc V8 _ = V11 at HX HXV HSB HTX2 ⊢
              obtain ⟨sb, hsb⟩ : ∃ sb, sb = V8.heap.size := ⟨_, rfl⟩
              rw [← hsb] at HSB HTXL HGOODL ⊢
              clear hsb
              have HSBL : Hid (sb < V11.heap.size) := lt_of_block HSB.out
              have hsk : SeekAt V11 sb g ea ec (.slice ia q ic) (.func (.func 21) #[] #[]) := by
                have h1 := HSB.out
                rw [HN.out, HM.out] at h1
                have h2 := HG.out.below HX.out
                rw [HN.out] at h2
                exact ⟨h1, h2.edges, h2.initial⟩
              have hgb := (HXV.out.block _ (lt_of_block HGB.out)).trans HGB.out
              have hbeg := begin_any V11 g HR.out sb ea ec (.slice ia q ic) hsk grp gb t (by rw [← HN.out]; exact hgb) (HGP.out.from_ HGOOD.out.1)
              rw [← HN.out] at hbeg
              have HBEG := Lib.hid hbeg
              have c5 := cells_kept HXV.out _ _ (cell_of_block HGX.out 0)
              have c6 := cell_of_block HTX2.out 0
              simp only [List.getElem?_toArray, List.getElem?_cons_zero, List.getElem_toArray, List.getElem_cons_zero] at c5 c6
              clear hsk hgb hbeg
              go_wp2_with fail
              refine HBEG.out.mono ?_
              rintro e w3 ⟨v, l, x, at_, rfl, hr3, hb3, hx3, hway, hat, hlen⟩
              obtain ⟨oa, oc, rfl, ho1, ho2⟩ := hr3.slice
              obtain ⟨ll, hll⟩ : ∃ ll, ll = l.length := ⟨_, rfl⟩
              have hll1 : ll ≤ 1000000 := by rw [hll]; exact Nat.le_trans hlen hN1
              unfold StepsRow at hr3
              rw [← hll] at ho1 hr3 ⊢
              have hsb3 := (hb3.block _ (lt_of_block HSB.out)).trans HSB.out
              have c7 := cell_of_block hsb3 3
              have f7 : w3.frozen? ⟨sb, 3, none⟩ = false := free_of_block hsb3 3
              simp only [List.getElem?_toArray, List.getElem?_cons_zero, List.getElem?_cons_succ] at c7
              have HX3 := Lib.hid (below_then HX.out hb3)
              have HSZ3 := Lib.hid hb3.size
              have HXV3 := Lib.hid (below_then HXV.out hb3)
              have HTX3 := Lib.hid ((hb3.block _ (lt_of_block HTX2.out)).trans HTX2.out)
              have HSB3 := Lib.hid hsb3
              have hrl : ∀ y, (Value.slice oa ll oc).ownBlock = some y → sb < y := fun y hy => by have h1 := (hr3.lt y hy).1; have h2 := lt_of_block HSB.out; omega
              have HRL := Lib.hid hrl
              have HR3 := Lib.hid hr3
              have HX0 := Lib.hid hx3
              have HWAY := Lib.hid hway
              have HAT := Lib.hid hat
              have HLL := Lib.hid hll
              clear hr3 hb3 hx3 hway hat hlen hsb3 hrl hll HBEG HX HXV HTX2 HSB
              go_upto_region 14 with fail
              clear c7 f7
              have hs13 := set_of_block HSB3.out 3 (.func (.func 23) #[] #[.pointer (some ⟨gx, 0, none⟩), .pointer (some ⟨tx, 0, none⟩)])
              simp only [List.setIfInBounds_toArray, List.set_cons_zero, List.set_cons_succ] at hs13
              have hk13 : ∀ y, y ≠ sb → (w3.setCell ⟨sb, 3, none⟩ (.func (.func 23) #[] #[.pointer (some ⟨gx, 0, none⟩), .pointer (some ⟨tx, 0, none⟩)])).heap[y]? = w3.heap[y]? := fun y hy => kept_get hy
              have hz13 : (w3.setCell ⟨sb, 3, none⟩ (.func (.func 23) #[] #[.pointer (some ⟨gx, 0, none⟩), .pointer (some ⟨tx, 0, none⟩)])).heap.size = w3.heap.size := by simp [World.setCell]
              have hx13 : Below w.heap.size w (w3.setCell ⟨sb, 3, none⟩ (.func (.func 23) #[] #[.pointer (some ⟨gx, 0, none⟩), .pointer (some ⟨tx, 0, none⟩)])) := HX3.out.setCell (by show w.heap.size ≤ sb; have h1 := HBW.out; have h2 := HGOODL.out; omega) _
              have hr13 := (Since.setCell (F := fun k => k = sb) (Since.refl _ w3) (p := ⟨sb, 3, none⟩) (.inl rfl) (.func (.func 23) #[] #[.pointer (some ⟨gx, 0, none⟩), .pointer (some ⟨tx, 0, none⟩)])).row HR3.out (fun y hy e => by have := HRL.out y hy; omega)
              generalize World.setCell w3 _ _ = W13 at hs13 hk13 hz13 hx13 hr13 ⊢
              have hg13 : GroupAt W13 N grp gx tx gb t := by
                have h1 := HGOODL.out
                have h2 := HTXL.out
                exact ⟨(hk13 gx (by omega)).trans ((HXV3.out.block _ (lt_of_block HGX.out)).trans HGX.out), (hk13 gb (by omega)).trans ((HXV3.out.block _ (lt_of_block HGB.out)).trans HGB.out), (hk13 tx (by omega)).trans HTX3.out⟩
              have hl13 : W13.heap[b + 1]? = some (.cells #[.slice none 0 0, .slice none 0 0, .int .i64 0] 27 (0, 0)) := by
                have h1 := HGOODL.out
                exact (hk13 (b + 1) (by omega)).trans ((HXV3.out.block _ (lt_of_block H2V.out)).trans H2V.out)
              have c8 := cell_of_block hl13 2
              have f8 : W13.frozen? ⟨b + 1, 2, none⟩ = false := free_of_block hl13 2
              simp only [List.getElem?_toArray, List.getElem?_cons_zero, List.getElem?_cons_succ] at c8
              have HS13 := Lib.hid hs13
              have HZ13 := Lib.hid hz13
              have HX13 := Lib.hid hx13
              have HR13 := Lib.hid hr13
              have HG13 := Lib.hid hg13
              have HL13 := Lib.hid hl13
              clear hs13 hk13 hz13 hx13 hr13 hg13 hl13 HX3 HXV3 HTX3 HSB3 HR3
              go_upto_region 15 with fail
              clear c8 f8
              have hs14 := set_of_block HL13.out 2 (.int .i64 (ll : Int))
              simp only [List.setIfInBounds_toArray, List.set_cons_zero, List.set_cons_succ] at hs14
              have hk14 : ∀ y, y ≠ b + 1 → (W13.setCell ⟨b + 1, 2, none⟩ (.int .i64 (ll : Int))).heap[y]? = W13.heap[y]? := fun y hy => kept_get hy
              have hz14 : (W13.setCell ⟨b + 1, 2, none⟩ (.int .i64 (ll : Int))).heap.size = W13.heap.size := by simp [World.setCell]
              have hx14 : Below w.heap.size w (W13.setCell ⟨b + 1, 2, none⟩ (.int .i64 (ll : Int))) := HX13.out.setCell (by show w.heap.size ≤ b + 1; have h1 := HBW.out; omega) _
              have hr14 := (Since.setCell (F := fun k => k = b + 1) (Since.refl _ W13) (p := ⟨b + 1, 2, none⟩) (.inl rfl) (.int .i64 (ll : Int))).row HR13.out (fun y hy e => by have h1 := HRL.out y hy; have h2 := HGOODL.out; omega)
              generalize World.setCell W13 _ _ = W14 at hs14 hk14 hz14 hx14 hr14 ⊢
              have hg14 : GroupAt W14 N grp gx tx gb t := by
                have h1 := HBLT.out
                have h2 := HGBS.out
                have h3 := HGXS.out
                have h4 := HTXS.out
                exact ⟨(hk14 gx (by omega)).trans HG13.out.box, (hk14 gb (by omega)).trans HG13.out.list, (hk14 tx (by omega)).trans HG13.out.it⟩
              have hsk14 : SeekAt W14 sb g ea ec (.slice ia q ic) (.func (.func 23) #[] #[.pointer (some ⟨gx, 0, none⟩), .pointer (some ⟨tx, 0, none⟩)]) := by
                have h0 := HGOODL.out
                have h1 := (hk14 sb (by omega)).trans HS13.out
                rw [HN.out, HM.out] at h1
                have h2 := HG.out.below hx14
                rw [HN.out] at h2
                exact ⟨h1, h2.edges, h2.initial⟩
              have hrnd := round_any W14 g HR.out HFIT.out sb ea ec (.slice ia q ic) grp gx tx gb t hsk14 (by rw [← HN.out]; exact hg14) (HGP.out.strong HGOOD.out.1 HGOOD.out.2) at_ (HGP.out.lt at_ (by rw [HAT.out]; omega)) HAT.out
              have HRND := Lib.hid hrnd
              have HSZ : Hid (V11.heap.size ≤ W14.heap.size) := by rw [Hid, hz14, HZ13.out]; exact HSZ3.out
              have HL14 := Lib.hid hs14
              have HX14 := Lib.hid hx14
              have HR14 := Lib.hid hr14
              clear hs14 hk14 hz14 hx14 hr14 hg14 hsk14 hrnd HX13 HR13 HG13 HL13 HS13 HZ13
              go_wp2_with fail
              refine HRND.out.mono ?_
              rintro e w5 ⟨v2, l2, rfl, hr5, hb5, hne5, hway5, hmk5, hlen5⟩
              obtain ⟨oa2, oc2, rfl, ho3, ho4⟩ := hr5.slice
              obtain ⟨n2, hn2⟩ : ∃ n2, n2 = l2.length := ⟨_, rfl⟩
              have hn2b : n2 ≤ 42000000 := by rw [hn2]; exact hlen5
              obtain ⟨lg, hlg⟩ : ∃ lg, oa2 = some ⟨lg, 0, none⟩ := by
                obtain ⟨lg, h1, -⟩ := hr5.cell (j := 0) (List.length_pos_iff.2 hne5)
                exact ⟨lg, h1⟩
              subst hlg
              have hcells := World.ownsRow.cells hr5 (g := lg) rfl
              rw [← hn2] at ho3 ⊢
              have HROW5 := Lib.hid (row_below HR14.out hb5)
              have HCELLS := Lib.hid hcells
              have HX5 := Lib.hid (below_then HX14.out hb5)
              have HL5 := Lib.hid ((hb5.block _ (lt_of_block HL14.out)).trans HL14.out)
              have HNE5 := Lib.hid hne5
              have HWAY5 := Lib.hid hway5
              have HMK5 := Lib.hid hmk5
              have HN2 := Lib.hid hn2
              have hbsz : V11.heap.size ≤ w5.heap.size := Nat.le_trans HSZ.out hb5.size
              have hn2p : 1 ≤ n2 := by rw [hn2]; exact List.length_pos_iff.2 hne5
              clear hr5 hb5 hne5 hway5 hmk5 hlen5 hcells hn2 HRND HR14 HX14 HL14
              go_wp2_with (at_builtin; go_must (refine wpList_append_at_ _ rfl _ _ 55 rfl 60 (.agg #[.int .i64 0, .int .i64 0]) 2 16 Try.underlying55 step_info rfl (by decide) V11.heap.size (.slice oa ll oc) ll (stepsV l) rfl HROW5.out ⟨lg, 0, none⟩ n2 oc2 (stepsV l2) rfl (by rw [stepsV_len, HN2.out]) HCELLS.out steps_one (by unfold maxLen; omega) (by omega) hbsz ?_); intro sa sc V6 e1 e2 e3 e4 e5 e6; have HE1 := Lib.hid e1; have HX6 : Hid (Below w.heap.size w V6) := HX5.out.trans (e4.below HX5.out.size (fun k hk => by have h1 := HRL.out k hk; have h2 := HGOODL.out; have h3 := HBW.out; omega)); have HL6 : Hid (V6.heap[b + 1]? = _) := (e4.block _ (lt_of_block HL5.out) (fun hk => by have h1 := HRL.out _ hk; have h2 := HGOODL.out; omega)).trans HL5.out; clear e1 e2 e3 e4 e5 e6)
              obtain ⟨T, hT⟩ : ∃ T, T = ll + n2 := ⟨_, rfl⟩
              obtain ⟨L, hL⟩ : ∃ L, L = l ++ l2 := ⟨_, rfl⟩
              have hTL : T = L.length := by rw [hT, hL, List.length_append, ← HLL.out, ← HN2.out]
              have hstp : StepsRow V6 V11.heap.size (.slice sa T sc) L := by
                unfold StepsRow
                rw [← hTL, hL, stepsV_append, hT]
                exact HE1.out
              have hTb : T ≤ 43000000 := by omega
              have HSTP := Lib.hid hstp
              have HTL := Lib.hid hTL
              have HLE := Lib.hid hL
              rw [show ((ll : Int) + (n2 : Int)) = (T : Int) by omega, ← hT]
              have hb16 : b + 1 < V6.heap.size := lt_of_block HL6.out
              have hsab : ∀ y, (Value.slice sa T sc).ownBlock = some y → y ≠ b + 1 := fun y hy e => by
                have h1 := (HSTP.out.lt y hy).1
                have h2 := HGOODL.out
                have h3 := HSBL.out
                omega
              have HSAB := Lib.hid hsab
              have HB16 := Lib.hid hb16
              clear hstp hTL hL hT hsab hb16 HE1 HROW5 HCELLS HX5 HL5 HRL HGXS HGBS HTXS HMI HMT H1V H2V HGX HGB HBV
              as_aux_lemma =>
                go_loopg [73] T (fun gg s73 wr => ∃ (j : Nat) (na : Option Addr) (nc : Nat) (fa : Option Addr) (fc : Nat), j ≤ T ∧ Hid (gg = T - j) ∧ s73 = .int .i64 j ∧ Hid (wr.heap[b + 1]? = some (.cells #[.slice na j nc, .slice fa j fc, .int .i64 (ll : Int)] 27 (0, 0))) ∧ Hid (wr.ownsRow V6.heap.size 3 1 (.slice na j nc) j ((L.take j).map (fun p => Value.int .i64 (p.1 : Int)))) ∧ Hid (wr.ownsRow V6.heap.size 3 1 (.slice fa j fc) j ((L.take j).map (fun p => Value.int .i64 (p.2 : Int)))) ∧
                  Hid (∀ y, (Value.slice na j nc).ownBlock = some y → (Value.slice fa j fc).ownBlock ≠ some y) ∧ Hid (Since (fun y => y = b + 1) V6 wr))
                case atStart => exact ⟨0, none, 0, none, 0, Nat.zero_le _, rfl, rfl, HL6.out, World.ownsRow_nil _ _ _ _, World.ownsRow_nil _ _ _ _, by simp [Hid, Value.ownBlock], Since.refl _ _⟩
                case round =>
                  obtain ⟨j, na, nc, fa, fc, hj, HG3, rfl, HBL, HRN, HRF, HDIS, HSIN⟩ := hrel
                  by_cases hjl : j < T
                  · have hjI : (j : Int) < (T : Int) := by omega
                    have hst2 : StepsRow wr V11.heap.size (.slice sa T sc) L := HSIN.out.row HSTP.out (fun y hy => HSAB.out y hy)
                    obtain ⟨sg, hsg, -, -, -, q1, q2⟩ := StepsRow.cell hst2 (j := j) (by rw [← HTL.out]; exact hjl)
                    subst hsg
                    obtain ⟨p1, hp1⟩ : ∃ p1, p1 = (L.getD j (0, 0)).1 := ⟨_, rfl⟩
                    obtain ⟨p2, hp2⟩ : ∃ p2, p2 = (L.getD j (0, 0)).2 := ⟨_, rfl⟩
                    rw [← hp1] at q1
                    rw [← hp2] at q2
                    have HP1 := Lib.hid hp1
                    have HP2 := Lib.hid hp2
                    have hal := (Below.refl wr.heap.size wr).alloc (Nat.le_refl _) (.cells #[.int .i64 (p1 : Int), .int .i64 (p2 : Int)] 60)
                    have hr1 := row_below HRN.out hal
                    have hr2 := row_below HRF.out hal
                    have hb7 := (hal.block _ (lt_of_block HBL.out)).trans HBL.out
                    have hs7 := heap_alloc_new wr (.cells #[.int .i64 (p1 : Int), .int .i64 (p2 : Int)] 60)
                    have h0 := Two.start hr1 hr2 HDIS.out (Nat.le_trans HSIN.out.size hal.size)
                    have hcc : ∀ x, Since (fun y => (Value.slice na j nc).ownBlock = some y ∨ (Value.slice fa j fc).ownBlock = some y) (wr.alloc (.cells #[.int .i64 (p1 : Int), .int .i64 (p2 : Int)] 60)) x →
                        x.cell? ⟨b + 1, 0, none⟩ = some (.slice na j nc) ∧ x.cell? ⟨b + 1, 1, none⟩ = some (.slice fa j fc) ∧ x.cell? ⟨wr.heap.size, 0, none⟩ = some (.int .i64 (p1 : Int)) ∧ x.cell? ⟨wr.heap.size, 1, none⟩ = some (.int .i64 (p2 : Int)) ∧ x.frozen? ⟨b + 1, 0, none⟩ = false ∧ x.frozen? ⟨b + 1, 1, none⟩ = false := by
                      intro x hx
                      have n1 : ¬ ((Value.slice na j nc).ownBlock = some (b + 1) ∨ (Value.slice fa j fc).ownBlock = some (b + 1)) := by
                        rintro (e | e)
                        · have h1 := (HRN.out.lt _ e).1; have h2 := HB16.out; omega
                        · have h1 := (HRF.out.lt _ e).1; have h2 := HB16.out; omega
                      have n2 : ¬ ((Value.slice na j nc).ownBlock = some wr.heap.size ∨ (Value.slice fa j fc).ownBlock = some wr.heap.size) := by
                        rintro (e | e)
                        · have h1 := (HRN.out.lt _ e).2; omega
                        · have h1 := (HRF.out.lt _ e).2; omega
                      have hbx := (hx.block _ (lt_of_block hb7) n1).trans hb7
                      have hsx := (hx.block _ (lt_of_block hs7) n2).trans hs7
                      exact ⟨cell_of_block hbx 0, cell_of_block hbx 1, cell_of_block hsx 0, cell_of_block hsx 1, free_of_block hbx 0, free_of_block hbx 1⟩
                    have CC := Lib.hid hcc
                    clear hp1 hp2 hal hr1 hr2 hb7 hs7 hcc hst2
                    go_upto_region 18 with fail
                    obtain ⟨V, hV⟩ : ∃ V, V = wr.alloc (.cells #[.int .i64 (p1 : Int), .int .i64 (p2 : Int)] 60) := ⟨_, rfl⟩
                    rw [← hV] at h0 CC ⊢
                    have HV := Lib.hid hV
                    obtain ⟨sx, hsx⟩ : ∃ sx, sx = wr.heap.size := ⟨_, rfl⟩
                    rw [← hsx] at CC ⊢
                    clear q1 q2 hV hsx
                    obtain ⟨xs, hxs⟩ : ∃ xs, xs = (L.take j).map (fun p => Value.int .i64 (p.1 : Int)) := ⟨_, rfl⟩
                    obtain ⟨ys, hys⟩ : ∃ ys, ys = (L.take j).map (fun p => Value.int .i64 (p.2 : Int)) := ⟨_, rfl⟩
                    rw [← hxs, ← hys] at h0
                    have HXS := Lib.hid hxs
                    have HYS := Lib.hid hys
                    have hjb : j ≤ 43000000 := by omega
                    clear hxs hys
                    obtain ⟨V1, hV1⟩ : ∃ V1, V1 = V.drew := ⟨_, rfl⟩
                    rw [← hV1] at h0
                    have hT0 := Lib.hid h0
                    clear h0
                    refine wp_region_noPanic ?_
                    refine wp_region_tail (n0 := 13) (S := fun x => Since (fun y => (Value.slice na j nc).ownBlock = some y ∨ (Value.slice fa j fc).ownBlock = some y) V x) (by kernel_rfl) (by rw [← hV1]; exact hT0.out.since) (fun _ => ?_)
                    rw [← hV1]
                    clear hV1
                    refine wpAnyT_free (i := 0) (v := ?v1) rfl (by kernel_rfl) (by kernel_rfl) (by kernel_rfl) (by decide) (fun _ _ _ h => h) (Or.inl ⟨by rfl, ?hy1⟩) (fun _ => hT0.out.since) ?_
                    case hy1 => (intro x' _; go_simp; try with_reducible rfl)
                    change wpAnyT _ _ _ _ _ _ _ _ (Act.put _ (some 77) _) _
                    simp only [Act.put, List.setIfInBounds_toArray, List.set_cons_zero, List.set_cons_succ]
                    refine wpAnyT_take [5, 11, 12, 13, 14, 15] (i := 1) (v := ?v2) rfl (by kernel_rfl) (by kernel_rfl) (by kernel_rfl) (by decide) (by kernel_rfl) (by kernel_rfl) (by rfl) (by rfl) (fun _ _ _ h => h) (Or.inl ⟨by rfl, ?hy2⟩) (hT0.out.since) ?_
                    case hy2 => (intro x' hxx; obtain ⟨e0, e1, e2, e3, e4, e5⟩ := CC.out x' hxx; go_simp; try with_reducible rfl)
                    change wpAnyT _ _ _ _ _ _ _ _ (Act.put _ (some 78) _) _
                    simp only [Act.put, List.setIfInBounds_toArray, List.set_cons_zero, List.set_cons_succ]
                    refine wpAnyT_free (i := 2) (v := ?v3) rfl (by kernel_rfl) (by kernel_rfl) (by kernel_rfl) (by decide) (fun _ _ _ h => h) (Or.inl ⟨by rfl, ?hy3⟩) (fun _ => hT0.out.since) ?_
                    case hy3 => (intro x' _; go_simp; try with_reducible rfl)
                    change wpAnyT _ _ _ _ _ _ _ _ (Act.put _ (some 79) _) _
                    simp only [Act.put, List.setIfInBounds_toArray, List.set_cons_zero, List.set_cons_succ]
                    refine wpAnyT_take [4, 5, 11, 12, 13, 14, 15] (i := 3) (v := ?v4) rfl (by kernel_rfl) (by kernel_rfl) (by kernel_rfl) (by decide) (by kernel_rfl) (by kernel_rfl) (by rfl) (by rfl) (fun _ _ _ h => h) (Or.inl ⟨by rfl, ?hy4⟩) (hT0.out.since) ?_
                    case hy4 => (intro x' hxx; obtain ⟨e0, e1, e2, e3, e4, e5⟩ := CC.out x' hxx; go_simp; try with_reducible rfl)
                    change wpAnyT _ _ _ _ _ _ _ _ (Act.put _ (some 80) _) _
                    simp only [Act.put, List.setIfInBounds_toArray, List.set_cons_zero, List.set_cons_succ]
                    refine wpAnyT_free (i := 6) (v := ?v5) rfl (by kernel_rfl) (by kernel_rfl) (by kernel_rfl) (by decide) (fun _ _ _ h => h) (Or.inl ⟨by rfl, ?hy5⟩) (fun _ => hT0.out.since) ?_
                    case hy5 => (intro x' _; go_simp; try with_reducible rfl)
                    change wpAnyT _ _ _ _ _ _ _ _ (Act.put _ (some 83) _) _
                    simp only [Act.put, List.setIfInBounds_toArray, List.set_cons_zero, List.set_cons_succ]
                    refine wpAnyT_take [11, 12, 13, 14, 15] (i := 7) (v := ?v6) rfl (by kernel_rfl) (by kernel_rfl) (by kernel_rfl) (by decide) (by kernel_rfl) (by kernel_rfl) (by rfl) (by rfl) (fun _ _ _ h => h) (Or.inl ⟨by rfl, ?hy6⟩) (hT0.out.since) ?_
                    case hy6 => (intro x' hxx; obtain ⟨e0, e1, e2, e3, e4, e5⟩ := CC.out x' hxx; go_simp; try with_reducible rfl)
                    change wpAnyT _ _ _ _ _ _ _ _ (Act.put _ (some 84) _) _
                    simp only [Act.put, List.setIfInBounds_toArray, List.set_cons_zero, List.set_cons_succ]
                    refine wpAnyT_free (i := 8) (v := ?v7) rfl (by kernel_rfl) (by kernel_rfl) (by kernel_rfl) (by decide) (fun _ _ _ h => h) (Or.inl ⟨by rfl, ?hy7⟩) (fun _ => hT0.out.since) ?_
                    case hy7 => (intro x' _; go_simp; try with_reducible rfl)
                    change wpAnyT _ _ _ _ _ _ _ _ (Act.put _ (some 85) _) _
                    simp only [Act.put, List.setIfInBounds_toArray, List.set_cons_zero, List.set_cons_succ]
                    refine wpAnyT_take [10, 11, 13, 14, 15] (i := 9) (v := ?v8) rfl (by kernel_rfl) (by kernel_rfl) (by kernel_rfl) (by decide) (by kernel_rfl) (by kernel_rfl) (by rfl) (by rfl) (fun _ _ _ h => h) (Or.inl ⟨by rfl, ?hy8⟩) (hT0.out.since) ?_
                    case hy8 => (intro x' hxx; obtain ⟨e0, e1, e2, e3, e4, e5⟩ := CC.out x' hxx; go_simp; try with_reducible rfl)
                    change wpAnyT _ _ _ _ _ _ _ _ (Act.put _ (some 86) _) _
                    simp only [Act.put, List.setIfInBounds_toArray, List.set_cons_zero, List.set_cons_succ]
                    refine wpAnyT_ready (rs := [4, 10]) (by kernel_rfl) (by simp) ?_
                    refine AllT.cons rfl (fun K hK => ?_) (AllT.cons rfl (fun K hK => ?_) AllT.nil)
                    · skip
                      go_simp
                      have hT1 := hT0.out.alloc (.int .i64 (p1 : Int))
                      refine hK.out _ _ (fun _ _ => hT1.since) ?_
                      obtain ⟨nb4, hnb⟩ : ∃ n, n = V1.heap.size := ⟨_, rfl⟩
                      rw [← hnb] at hT1 ⊢
                      clear hnb
                      generalize World.alloc V1 _ = X1 at hT1 ⊢
                      replace hT1 := Lib.hid hT1
                      clear hK K
                      refine wpAnyT_ready (rs := [5, 10]) (by kernel_rfl) (by simp) ?_
                      refine AllT.cons rfl (fun K hK => ?_) (AllT.cons rfl (fun K hK => ?_) AllT.nil)
                      · skip
                        refine step_append_where_ X1 (by rfl) (.tmp 78) (.tmp 81) 23 rfl 3 (.int .i64 0) 1 8 Try.underlying23 int_info rfl (by decide) V6.heap.size (.slice na j nc) j xs (by rfl) hT1.out.r1 ⟨nb4, 0, none⟩ 1 1 [(.int .i64 (p1 : Int))] (by rfl) rfl (hT1.out.cell (by simp)) (by simp [Value.oneCell']) (by unfold maxLen; omega) (by omega) hT1.out.base ?_
                        intro na' nc' X2 e1 e2 e3 e4 e5
                        have hT2 := Lib.hid (hT1.out.app1 e1 e4 e5)
                        clear e1 e2 e3 e4 e5
                        refine hK.out _ _ (fun _ _ => hT2.out.since) ?_
                        clear hK K
                        change wpAnyT _ _ _ _ _ _ _ _ (Act.put _ (some 82) _) _
                        simp only [Act.put, List.setIfInBounds_toArray, List.set_cons_zero, List.set_cons_succ]
                        refine wpAnyT_free (i := 12) (v := ?v9) rfl (by kernel_rfl) (by kernel_rfl) (by kernel_rfl) (by decide) (fun _ _ _ h => h) (Or.inl ⟨by rfl, ?hy9⟩) (fun _ => hT2.out.since) ?_
                        case hy9 => (intro x' _; go_simp; try with_reducible rfl)
                        change wpAnyT _ _ _ _ _ _ _ _ (Act.put _ (some 89) _) _
                        simp only [Act.put, List.setIfInBounds_toArray, List.set_cons_zero, List.set_cons_succ]
                        refine wpAnyT_ready (rs := [10]) (by kernel_rfl) (by simp) ?_
                        refine AllT.cons rfl (fun K hK => ?_) AllT.nil
                        go_simp
                        have hT3 := hT2.out.alloc (.int .i64 (p2 : Int))
                        refine hK.out _ _ (fun _ _ => hT3.since) ?_
                        obtain ⟨nb10, hnb⟩ : ∃ n, n = X2.heap.size := ⟨_, rfl⟩
                        rw [← hnb] at hT3 ⊢
                        clear hnb
                        generalize World.alloc X2 _ = X3 at hT3 ⊢
                        replace hT3 := Lib.hid hT3
                        clear hK K
                        refine wpAnyT_ready (rs := [11]) (by kernel_rfl) (by simp) ?_
                        refine AllT.cons rfl (fun K hK => ?_) AllT.nil
                        refine step_append_where_ X3 (by rfl) (.tmp 84) (.tmp 87) 23 rfl 3 (.int .i64 0) 1 8 Try.underlying23 int_info rfl (by decide) V6.heap.size (.slice fa j fc) j ys (by rfl) hT3.out.r2 ⟨nb10, 0, none⟩ 1 1 [(.int .i64 (p2 : Int))] (by rfl) rfl (hT3.out.cell (by simp)) (by simp [Value.oneCell']) (by unfold maxLen; omega) (by omega) hT3.out.base ?_
                        intro fa' fc' X4 e1 e2 e3 e4 e5
                        have hT4 := Lib.hid (hT3.out.app2 e1 e4 e5)
                        clear e1 e2 e3 e4 e5
                        refine hK.out _ _ (fun _ _ => hT4.out.since) ?_
                        clear hK K
                        change wpAnyT _ _ _ _ _ _ _ _ (Act.put _ (some 88) _) _
                        simp only [Act.put, List.setIfInBounds_toArray, List.set_cons_zero, List.set_cons_succ]
                        refine wpAnyT_ready (rs := [13]) (by kernel_rfl) (by simp) ?_
                        refine AllT.cons rfl (fun K hK => ?_) AllT.nil
                        obtain ⟨u0, u1, -, -, u2, u3⟩ := CC.out X4 hT4.out.since
                        go_simp
                        refine hK.out _ _ (fun h => absurd rfl h) ?_
                        have hT5 := Lib.hid hT4.out
                        clear hK K
                        refine wpAnyT_free (i := 14) (v := ?v10) rfl (by kernel_rfl) (by kernel_rfl) (by kernel_rfl) (by decide) (fun _ _ _ h => h) (Or.inl ⟨by rfl, ?hy10⟩) (fun h => absurd h (by decide +kernel)) ?_
                        case hy10 => (intro x' _; go_simp; try with_reducible rfl)
                        change wpAnyT _ _ _ _ _ _ _ _ (Act.put _ (some 90) _) _
                        simp only [Act.put, List.setIfInBounds_toArray, List.set_cons_zero, List.set_cons_succ]
                        refine wpAnyT_ready (rs := [15]) (by kernel_rfl) (by simp) ?_
                        refine AllT.cons rfl (fun K hK => ?_) AllT.nil
                        have u4 : (X4.setCell ⟨b + 1, 0, none⟩ (.slice na' (j + 1) nc')).cell? ⟨b + 1, 1, none⟩ = some (.slice fa j fc) := by rw [World.cell?_setCell_other _ _ _ _ (by simp)]; exact u1
                        have u5 : (X4.setCell ⟨b + 1, 0, none⟩ (.slice na' (j + 1) nc')).frozen? ⟨b + 1, 1, none⟩ = false := by rw [World.frozen?_setCell]; exact u3
                        go_simp
                        refine hK.out _ _ (fun _ h => absurd h (by decide +kernel)) ?_
                        clear u0 u1 u2 u3 u4 u5
                        have hT6 := Lib.hid hT4.out
                        clear hK K
                        refine wpAnyT_done (by kernel_rfl) ?_ _
                        refine NoPanic.normal ?_
                        have hT9 := hT4.out
                        rw [HV.out] at hT9
                        obtain ⟨y1, y2, y3, y4⟩ := loop_step HB16.out HBL.out HSIN.out HRN.out HRF.out hT9
                        have y5 := hT9.dis
                        have Y1 := Lib.hid y1
                        have Y2 := Lib.hid y2
                        have Y3 := Lib.hid y3
                        have Y4 := Lib.hid y4
                        have Y5 := Lib.hid y5
                        clear hT9 y1 y2 y3 y4 y5
                        generalize World.setCell _ _ _ = Z at Y1 Y2 Y3 Y4 ⊢
                        go_wp2_with fail
                        go_roundg (T - (j + 1))
                        case measure => rw [HG3.out]; omega
                        case rel =>
                          have htk : L.take (j + 1) = L.take j ++ [L.getD j (0, 0)] := by rw [List.take_add_one, List.getD_eq_getElem?_getD, List.getElem?_eq_getElem (by rw [← HTL.out]; exact hjl)]; rfl
                          refine ⟨j + 1, na', nc', fa', fc', by omega, rfl, by simp, Y1.out, ?_, ?_, Y5.out, Y4.out⟩
                          · rw [Hid, htk, List.map_append, List.map_cons, List.map_nil, ← HXS.out, ← HP1.out]; exact Y2.out
                          · rw [Hid, htk, List.map_append, List.map_cons, List.map_nil, ← HYS.out, ← HP2.out]; exact Y3.out
                      · skip
                        go_simp
                        have hT2 := hT1.out.alloc (.int .i64 (p2 : Int))
                        refine hK.out _ _ (fun _ _ => hT2.since) ?_
                        obtain ⟨nb10, hnb⟩ : ∃ n, n = X1.heap.size := ⟨_, rfl⟩
                        rw [← hnb] at hT2 ⊢
                        clear hnb
                        generalize World.alloc X1 _ = X2 at hT2 ⊢
                        replace hT2 := Lib.hid hT2
                        clear hK K
                        refine wpAnyT_ready (rs := [5]) (by kernel_rfl) (by simp) ?_
                        refine AllT.cons rfl (fun K hK => ?_) AllT.nil
                        refine step_append_where_ X2 (by rfl) (.tmp 78) (.tmp 81) 23 rfl 3 (.int .i64 0) 1 8 Try.underlying23 int_info rfl (by decide) V6.heap.size (.slice na j nc) j xs (by rfl) hT2.out.r1 ⟨nb4, 0, none⟩ 1 1 [(.int .i64 (p1 : Int))] (by rfl) rfl (hT2.out.cell (by simp)) (by simp [Value.oneCell']) (by unfold maxLen; omega) (by omega) hT2.out.base ?_
                        intro na' nc' X3 e1 e2 e3 e4 e5
                        have hT3 := Lib.hid (hT2.out.app1 e1 e4 e5)
                        clear e1 e2 e3 e4 e5
                        refine hK.out _ _ (fun _ _ => hT3.out.since) ?_
                        clear hK K
                        change wpAnyT _ _ _ _ _ _ _ _ (Act.put _ (some 82) _) _
                        simp only [Act.put, List.setIfInBounds_toArray, List.set_cons_zero, List.set_cons_succ]
                        refine wpAnyT_free (i := 12) (v := ?v11) rfl (by kernel_rfl) (by kernel_rfl) (by kernel_rfl) (by decide) (fun _ _ _ h => h) (Or.inl ⟨by rfl, ?hy11⟩) (fun _ => hT3.out.since) ?_
                        case hy11 => (intro x' _; go_simp; try with_reducible rfl)
                        change wpAnyT _ _ _ _ _ _ _ _ (Act.put _ (some 89) _) _
                        simp only [Act.put, List.setIfInBounds_toArray, List.set_cons_zero, List.set_cons_succ]
                        refine wpAnyT_ready (rs := [11]) (by kernel_rfl) (by simp) ?_
                        refine AllT.cons rfl (fun K hK => ?_) AllT.nil
                        refine step_append_where_ X3 (by rfl) (.tmp 84) (.tmp 87) 23 rfl 3 (.int .i64 0) 1 8 Try.underlying23 int_info rfl (by decide) V6.heap.size (.slice fa j fc) j ys (by rfl) hT3.out.r2 ⟨nb10, 0, none⟩ 1 1 [(.int .i64 (p2 : Int))] (by rfl) rfl (hT3.out.cell (by simp)) (by simp [Value.oneCell']) (by unfold maxLen; omega) (by omega) hT3.out.base ?_
                        intro fa' fc' X4 e1 e2 e3 e4 e5
                        have hT4 := Lib.hid (hT3.out.app2 e1 e4 e5)
                        clear e1 e2 e3 e4 e5
                        refine hK.out _ _ (fun _ _ => hT4.out.since) ?_
                        clear hK K
                        change wpAnyT _ _ _ _ _ _ _ _ (Act.put _ (some 88) _) _
                        simp only [Act.put, List.setIfInBounds_toArray, List.set_cons_zero, List.set_cons_succ]
                        refine wpAnyT_ready (rs := [13]) (by kernel_rfl) (by simp) ?_
                        refine AllT.cons rfl (fun K hK => ?_) AllT.nil
                        obtain ⟨u0, u1, -, -, u2, u3⟩ := CC.out X4 hT4.out.since
                        go_simp
                        refine hK.out _ _ (fun h => absurd rfl h) ?_
                        have hT5 := Lib.hid hT4.out
                        clear hK K
                        refine wpAnyT_free (i := 14) (v := ?v12) rfl (by kernel_rfl) (by kernel_rfl) (by kernel_rfl) (by decide) (fun _ _ _ h => h) (Or.inl ⟨by rfl, ?hy12⟩) (fun h => absurd h (by decide +kernel)) ?_
                        case hy12 => (intro x' _; go_simp; try with_reducible rfl)
                        change wpAnyT _ _ _ _ _ _ _ _ (Act.put _ (some 90) _) _
                        simp only [Act.put, List.setIfInBounds_toArray, List.set_cons_zero, List.set_cons_succ]
                        refine wpAnyT_ready (rs := [15]) (by kernel_rfl) (by simp) ?_
                        refine AllT.cons rfl (fun K hK => ?_) AllT.nil
                        have u4 : (X4.setCell ⟨b + 1, 0, none⟩ (.slice na' (j + 1) nc')).cell? ⟨b + 1, 1, none⟩ = some (.slice fa j fc) := by rw [World.cell?_setCell_other _ _ _ _ (by simp)]; exact u1
                        have u5 : (X4.setCell ⟨b + 1, 0, none⟩ (.slice na' (j + 1) nc')).frozen? ⟨b + 1, 1, none⟩ = false := by rw [World.frozen?_setCell]; exact u3
                        go_simp
                        refine hK.out _ _ (fun _ h => absurd h (by decide +kernel)) ?_
                        clear u0 u1 u2 u3 u4 u5
                        have hT6 := Lib.hid hT4.out
                        clear hK K
                        refine wpAnyT_done (by kernel_rfl) ?_ _
                        refine NoPanic.normal ?_
                        have hT9 := hT4.out
                        rw [HV.out] at hT9
                        obtain ⟨y1, y2, y3, y4⟩ := loop_step HB16.out HBL.out HSIN.out HRN.out HRF.out hT9
                        have y5 := hT9.dis
                        have Y1 := Lib.hid y1
                        have Y2 := Lib.hid y2
                        have Y3 := Lib.hid y3
                        have Y4 := Lib.hid y4
                        have Y5 := Lib.hid y5
                        clear hT9 y1 y2 y3 y4 y5
                        generalize World.setCell _ _ _ = Z at Y1 Y2 Y3 Y4 ⊢
                        go_wp2_with fail
                        go_roundg (T - (j + 1))
                        case measure => rw [HG3.out]; omega
                        case rel =>
                          have htk : L.take (j + 1) = L.take j ++ [L.getD j (0, 0)] := by rw [List.take_add_one, List.getD_eq_getElem?_getD, List.getElem?_eq_getElem (by rw [← HTL.out]; exact hjl)]; rfl
                          refine ⟨j + 1, na', nc', fa', fc', by omega, rfl, by simp, Y1.out, ?_, ?_, Y5.out, Y4.out⟩
                          · rw [Hid, htk, List.map_append, List.map_cons, List.map_nil, ← HXS.out, ← HP1.out]; exact Y2.out
                          · rw [Hid, htk, List.map_append, List.map_cons, List.map_nil, ← HYS.out, ← HP2.out]; exact Y3.out
                    · skip
                      go_simp
                      have hT1 := hT0.out.alloc (.int .i64 (p2 : Int))
                      refine hK.out _ _ (fun _ _ => hT1.since) ?_
                      obtain ⟨nb10, hnb⟩ : ∃ n, n = V1.heap.size := ⟨_, rfl⟩
                      rw [← hnb] at hT1 ⊢
                      clear hnb
                      generalize World.alloc V1 _ = X1 at hT1 ⊢
                      replace hT1 := Lib.hid hT1
                      clear hK K
                      refine wpAnyT_ready (rs := [4]) (by kernel_rfl) (by simp) ?_
                      refine AllT.cons rfl (fun K hK => ?_) AllT.nil
                      go_simp
                      have hT2 := hT1.out.alloc (.int .i64 (p1 : Int))
                      refine hK.out _ _ (fun _ _ => hT2.since) ?_
                      obtain ⟨nb4, hnb⟩ : ∃ n, n = X1.heap.size := ⟨_, rfl⟩
                      rw [← hnb] at hT2 ⊢
                      clear hnb
                      generalize World.alloc X1 _ = X2 at hT2 ⊢
                      replace hT2 := Lib.hid hT2
                      clear hK K
                      refine wpAnyT_ready (rs := [5]) (by kernel_rfl) (by simp) ?_
                      refine AllT.cons rfl (fun K hK => ?_) AllT.nil
                      refine step_append_where_ X2 (by rfl) (.tmp 78) (.tmp 81) 23 rfl 3 (.int .i64 0) 1 8 Try.underlying23 int_info rfl (by decide) V6.heap.size (.slice na j nc) j xs (by rfl) hT2.out.r1 ⟨nb4, 0, none⟩ 1 1 [(.int .i64 (p1 : Int))] (by rfl) rfl (hT2.out.cell (by simp)) (by simp [Value.oneCell']) (by unfold maxLen; omega) (by omega) hT2.out.base ?_
                      intro na' nc' X3 e1 e2 e3 e4 e5
                      have hT3 := Lib.hid (hT2.out.app1 e1 e4 e5)
                      clear e1 e2 e3 e4 e5
                      refine hK.out _ _ (fun _ _ => hT3.out.since) ?_
                      clear hK K
                      change wpAnyT _ _ _ _ _ _ _ _ (Act.put _ (some 82) _) _
                      simp only [Act.put, List.setIfInBounds_toArray, List.set_cons_zero, List.set_cons_succ]
                      refine wpAnyT_free (i := 12) (v := ?v13) rfl (by kernel_rfl) (by kernel_rfl) (by kernel_rfl) (by decide) (fun _ _ _ h => h) (Or.inl ⟨by rfl, ?hy13⟩) (fun _ => hT3.out.since) ?_
                      case hy13 => (intro x' _; go_simp; try with_reducible rfl)
                      change wpAnyT _ _ _ _ _ _ _ _ (Act.put _ (some 89) _) _
                      simp only [Act.put, List.setIfInBounds_toArray, List.set_cons_zero, List.set_cons_succ]
                      refine wpAnyT_ready (rs := [11]) (by kernel_rfl) (by simp) ?_
                      refine AllT.cons rfl (fun K hK => ?_) AllT.nil
                      refine step_append_where_ X3 (by rfl) (.tmp 84) (.tmp 87) 23 rfl 3 (.int .i64 0) 1 8 Try.underlying23 int_info rfl (by decide) V6.heap.size (.slice fa j fc) j ys (by rfl) hT3.out.r2 ⟨nb10, 0, none⟩ 1 1 [(.int .i64 (p2 : Int))] (by rfl) rfl (hT3.out.cell (by simp)) (by simp [Value.oneCell']) (by unfold maxLen; omega) (by omega) hT3.out.base ?_
                      intro fa' fc' X4 e1 e2 e3 e4 e5
                      have hT4 := Lib.hid (hT3.out.app2 e1 e4 e5)
                      clear e1 e2 e3 e4 e5
                      refine hK.out _ _ (fun _ _ => hT4.out.since) ?_
                      clear hK K
                      change wpAnyT _ _ _ _ _ _ _ _ (Act.put _ (some 88) _) _
                      simp only [Act.put, List.setIfInBounds_toArray, List.set_cons_zero, List.set_cons_succ]
                      refine wpAnyT_ready (rs := [13]) (by kernel_rfl) (by simp) ?_
                      refine AllT.cons rfl (fun K hK => ?_) AllT.nil
                      obtain ⟨u0, u1, -, -, u2, u3⟩ := CC.out X4 hT4.out.since
                      go_simp
                      refine hK.out _ _ (fun h => absurd rfl h) ?_
                      have hT5 := Lib.hid hT4.out
                      clear hK K
                      refine wpAnyT_free (i := 14) (v := ?v14) rfl (by kernel_rfl) (by kernel_rfl) (by kernel_rfl) (by decide) (fun _ _ _ h => h) (Or.inl ⟨by rfl, ?hy14⟩) (fun h => absurd h (by decide +kernel)) ?_
                      case hy14 => (intro x' _; go_simp; try with_reducible rfl)
                      change wpAnyT _ _ _ _ _ _ _ _ (Act.put _ (some 90) _) _
                      simp only [Act.put, List.setIfInBounds_toArray, List.set_cons_zero, List.set_cons_succ]
                      refine wpAnyT_ready (rs := [15]) (by kernel_rfl) (by simp) ?_
                      refine AllT.cons rfl (fun K hK => ?_) AllT.nil
                      have u4 : (X4.setCell ⟨b + 1, 0, none⟩ (.slice na' (j + 1) nc')).cell? ⟨b + 1, 1, none⟩ = some (.slice fa j fc) := by rw [World.cell?_setCell_other _ _ _ _ (by simp)]; exact u1
                      have u5 : (X4.setCell ⟨b + 1, 0, none⟩ (.slice na' (j + 1) nc')).frozen? ⟨b + 1, 1, none⟩ = false := by rw [World.frozen?_setCell]; exact u3
                      go_simp
                      refine hK.out _ _ (fun _ h => absurd h (by decide +kernel)) ?_
                      clear u0 u1 u2 u3 u4 u5
                      have hT6 := Lib.hid hT4.out
                      clear hK K
                      refine wpAnyT_done (by kernel_rfl) ?_ _
                      refine NoPanic.normal ?_
                      have hT9 := hT4.out
                      rw [HV.out] at hT9
                      obtain ⟨y1, y2, y3, y4⟩ := loop_step HB16.out HBL.out HSIN.out HRN.out HRF.out hT9
                      have y5 := hT9.dis
                      have Y1 := Lib.hid y1
                      have Y2 := Lib.hid y2
                      have Y3 := Lib.hid y3
                      have Y4 := Lib.hid y4
                      have Y5 := Lib.hid y5
                      clear hT9 y1 y2 y3 y4 y5
                      generalize World.setCell _ _ _ = Z at Y1 Y2 Y3 Y4 ⊢
                      go_wp2_with fail
                      go_roundg (T - (j + 1))
                      case measure => rw [HG3.out]; omega
                      case rel =>
                        have htk : L.take (j + 1) = L.take j ++ [L.getD j (0, 0)] := by rw [List.take_add_one, List.getD_eq_getElem?_getD, List.getElem?_eq_getElem (by rw [← HTL.out]; exact hjl)]; rfl
                        refine ⟨j + 1, na', nc', fa', fc', by omega, rfl, by simp, Y1.out, ?_, ?_, Y5.out, Y4.out⟩
                        · rw [Hid, htk, List.map_append, List.map_cons, List.map_nil, ← HXS.out, ← HP1.out]; exact Y2.out
                        · rw [Hid, htk, List.map_append, List.map_cons, List.map_nil, ← HYS.out, ← HP2.out]; exact Y3.out
                  · obtain rfl : j = T := by omega
                    have u0 := cell_of_block HBL.out 0
                    have u1 := cell_of_block HBL.out 1
                    have u2 := cell_of_block HBL.out 2
                    have u3 : wr.frozen? ⟨b + 1, 0, none⟩ = false := free_of_block HBL.out 0
                    have u4 : wr.frozen? ⟨b + 1, 1, none⟩ = false := free_of_block HBL.out 1
                    have u5 : wr.frozen? ⟨b + 1, 2, none⟩ = false := free_of_block HBL.out 2
                    simp only [List.getElem?_toArray, List.getElem?_cons_zero, List.getElem?_cons_succ] at u0 u1 u2
                    go_wp2_with fail
                    (try simp only [Exit.inBlock, Exit.then])
                    have hs3 := set_of_block (set_of_block (set_of_block HBL.out 0 (.slice na j nc)) 1 (.slice fa j fc)) 2 (.int .i64 (ll : Int))
                    simp only [List.setIfInBounds_toArray, List.set_cons_zero, List.set_cons_succ] at hs3
                    have hSS : Since (fun x => x = b + 1) wr (((wr.setCell ⟨b + 1, 0, none⟩ (.slice na j nc)).setCell ⟨b + 1, 1, none⟩ (.slice fa j fc)).setCell ⟨b + 1, 2, none⟩ (.int .i64 (ll : Int))) :=
                      Since.setCell (p := ⟨b + 1, 2, none⟩) (Since.setCell (p := ⟨b + 1, 1, none⟩) (Since.setCell (F := fun x => x = b + 1) (p := ⟨b + 1, 0, none⟩) (Since.refl _ wr) (.inl rfl) _) (.inl rfl) _) (.inl rfl) _
                    refine bodyPost_ret (results_cell2 rfl _ _ (b + 1) 27 _ (0, 0) _ rfl hs3 Try.underlying27 rfl lasso_size) rfl ?_
                    have hSV : Since (fun x => x = b + 1) V6 _ := HSIN.out.trans hSS (fun y hy => .inl hy)
                    have hbw := HBW.out
                    have hway : Way g (fun _ => true) x (l ++ l2) at_ := HWAY.out.append (HWAY5.out.mono (fun _ _ => rfl))
                    have hall := hway.all_has
                    have hrn := hSS.row HRN.out (fun y hy e => by have h1 := (HRN.out.lt y hy).1; have h2 := HB16.out; omega)
                    have hrf := hSS.row HRF.out (fun y hy e => by have h1 := (HRF.out.lt y hy).1; have h2 := HB16.out; omega)
                    have htk : L.take j = l ++ l2 := by rw [← HLE.out]; exact List.take_of_length_le (by rw [← HTL.out]; exact Nat.le_refl _)
                    rw [htk] at hrn hrf
                    refine ⟨HX6.out.trans (hSV.below HX6.out.size (fun y hy => by omega)), .inr (.inr ⟨HR.out, HGP.out.has_iff.2 ⟨t, by rw [← HN.out]; exact hlt, HGOOD.out⟩, lassoOf l l2, .slice na j nc, .slice fa j fc, ?_, ⟨?_, ?_⟩, ?_, ?_, fun y hy => by have h1 := (HRN.out.lt y hy).1; have h2 := HX6.out.size; omega, fun y hy => by have h1 := (HRF.out.lt y hy).1; have h2 := HX6.out.size; omega⟩)⟩
                    · unfold lassoV lassoOf
                      rw [← HLL.out]; rfl
                    · refine nums_of_row (B := V6.heap.size) (n := j) ?_ (by omega) (fun y hy => ?_)
                      · have : (lassoOf l l2).nodes.map (Value.int .i64) = (l ++ l2).map (fun p => Value.int .i64 (p.1 : Int)) := by unfold lassoOf; simp only [List.map_map]; rfl
                        rw [this]; exact hrn
                      · obtain ⟨p, hp, rfl⟩ := List.mem_map.1 hy
                        have h1 := g.has_lt (hall p hp)
                        have h2 := HN.out
                        omega
                    · refine nums_of_row (B := V6.heap.size) (n := j) ?_ (by omega) (fun y hy => ?_)
                      · have : (lassoOf l l2).edges.map (Value.int .i64) = (l ++ l2).map (fun p => Value.int .i64 (p.2 : Int)) := by unfold lassoOf; simp only [List.map_map]; rfl
                        rw [this]; exact hrf
                      · obtain ⟨p, hp, rfl⟩ := List.mem_map.1 hy
                        have h1 := hall p hp
                        have h2 := g.has_lt h1
                        obtain ⟨-, _, _, _, _, -, -, -, h3⟩ := HG.out.edges.part p.1 h2
                        obtain ⟨_, _, _, h4⟩ := h3.slice
                        unfold GraphD.has at h1
                        omega
                    · exact lasso_ok g HR.out x at_ l l2 HX0.out HWAY.out (HWAY5.out.mono (fun _ _ => rfl)) HNE5.out HMK5.out
                    · have : (lassoOf l l2).nodes.length = l.length + l2.length := by simp [lassoOf]
                      rw [this, ← HN2.out]; omega
          · have hab : (bits .and .i64 mv M != M) = true := by rw [← han]; simpa using hae
            have HNO := Lib.hid (fun hg => hae (hgood.1 hg))
            clear hs1 hs2 hs3 hmi8 hgood han hae
            go_wp2_with fail
            go_roundg (N - (t + 1))
            case measure => rw [HG2.out]; omega
            case rel => exact ⟨t + 1, by omega, rfl, by simp, HBV.out, fun t' ht' => by
              by_cases he : t' = t
              · subst he; exact HNO.out
              · exact HJ.out t' (by omega)⟩
      · obtain rfl : t = N := by omega
        have hbl := (HBR.out.block _ (Nat.lt_of_lt_of_le (lt_of_block H2V.out) HB5.out.size)).trans ((HB5.out.block _ (lt_of_block H2V.out)).trans H2V.out)
        have u0 := cell_of_block hbl 0
        have u1 := cell_of_block hbl 1
        have u2 := cell_of_block hbl 2
        have u3 : wr.frozen? ⟨b + 1, 0, none⟩ = false := free_of_block hbl 0
        have u4 : wr.frozen? ⟨b + 1, 1, none⟩ = false := free_of_block hbl 1
        have u5 : wr.frozen? ⟨b + 1, 2, none⟩ = false := free_of_block hbl 2
        simp only [List.getElem?_toArray, List.getElem?_cons_zero, List.getElem?_cons_succ] at u0 u1 u2
        have HBLK := Lib.hid hbl
        clear hbl
        go_wp2_with fail
        (try simp only [Exit.inBlock, Exit.then])
        have hs3 := set_of_block (set_of_block (set_of_block HBLK.out 0 (.slice none 0 0)) 1 (.slice none 0 0)) 2 (.int .i64 0)
        simp only [List.setIfInBounds_toArray, List.set_cons_zero, List.set_cons_succ] at hs3
        refine bodyPost_ret (results_cell2 rfl _ _ (b + 1) 27 _ (0, 0) _ rfl hs3 Try.underlying27 rfl lasso_size) rfl ?_
        have hbw := HBW.out
        have h1 : Below w.heap.size w wr := below_then (below_then (below_then HB.out HB3.out) HB5.out) HBR.out
        refine ⟨((h1.setCell (p := ⟨b + 1, 0, none⟩) (by show w.heap.size ≤ b + 1; omega) _).setCell (p := ⟨b + 1, 1, none⟩) (by show w.heap.size ≤ b + 1; omega) _).setCell (p := ⟨b + 1, 2, none⟩) (by show w.heap.size ≤ b + 1; omega) _, .inr (.inl ⟨HR.out, fun hh => ?_, rfl⟩)⟩
        obtain ⟨t', ht', hg'⟩ := HGP.out.has_iff.1 hh
        exact HJ.out t' (by rw [HN.out]; exact ht') hg'
theorem find_any (w : World) (g : GraphD) (ev iv : Value) (h : GraphAt w g ev iv) (hfit : g.fits) (_hpos : 1 ≤ g.edges.length ∨ g.right = false) : Calls Try.prog 13 #[graphV g ev iv] w (FindTold g w) := findAll_any w g ev iv h hfit
end Go.Proofs.Ytoojalcfojflhaa
