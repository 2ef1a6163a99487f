/- StepAny: what any move does in any state of any code is what the document says, or it is refused: for every input. -/
import Derived.Test.YtliajkheeniljaaGreatDoorCards
import Derived.Test.YtliajkheeniljaaGreatDoorZaBase
import Derived.Test.YtliajkheeniljaaGreatDoorZaOpenZ
import Derived.Test.YtliajkheeniljaaGreatDoorZaStepAny
import Derived.Test.YtliajkheeniljaaGreatDoorZaShort
set_option linter.all false
namespace Go.Proofs.YtliajkheeniljaaGreatDoor.stepAny
open Go.ChangeShapes Go.WideShapes Go.ChangeAt Go.RowKit
set_option maxRecDepth 100000
set_option maxHeartbeats 16000000
open Go.ChangeMaps (open_string shut_string)
theorem lifted (os:Os) (started:os.Started) (H:Type) (enc:TypeId × Value->H):
  ReturnsInHanded {} Tryz.checked os 3 .any (fun w args=>(Rows.stepAnySpec.pre enc Tryz.prog Tryz.f3 Rows.stepAnyRow.domain false w args/\laidMet Tryz.prog Rows.stepAnyRow.laid w)/\sizedMet enc Tryz.prog Tryz.f3 (OpenSpec.ofChange Rows.stepAnySpec) false w args)
   (Rows.stepAnySpec.post enc Tryz.prog Tryz.f3 false true false false):=by
 refine returnsInHanded_of_change_and (C:=Tryz.checked) (X:=fun w _=>laidMet Tryz.prog Rows.stepAnyRow.laid w) (fun _ _ _ hh h=>h.of_heap hh) z2f started (by kernel_rfl) Tryz.func3
  (ChangeSpec.witness_at (enc:=enc) (C:=Tryz.checked) (os:=os) (X:=fun w _=>laidMet Tryz.prog Rows.stepAnyRow.laid w) false (zdz os) #[.agg #[.int .i64 0, .int .i64 0, .slice none 0 0], .agg #[.int .i64 0, .int .i64 0], .agg #[.slice none 0 0, .slice none 0 0, .bool false], .agg #[.int .i64 0, .int .i64 0, .int .i64 0]] 8 rfl (by kernel_rfl) (by kernel_rfl) (by kernel_rfl) (by kernel_rfl) (by kernel_rfl) (zkS os _)) ?_
 intro W base args ds gs before hval0 hW zxS hsz0 _ _
 clear zxS
 have hval:∀(j:Nat) t v,Tryz.f3.params[j]? =some t->args[j]? =some v->Value.okWide Tryz.prog W .any base t v:=hval0
 have hW':=hW
 obtain⟨p,q,hA0,hV,rfl,hfz,hnd⟩:=hW
 have hA:DataW.TrodAll enc Tryz.prog W 0 (fun _=>true) true Tryz.f3.params.toList args.toList ds p:=hA0
 rw [Tryz.params3] at hA hval
 obtain⟨v0,vs0,d0,ds0,p0,q0,hargs,rfl,rfl,h0,r0⟩:=trodAll_cons hA
 obtain⟨v1,vs1,d1,ds1,p1,q1,rfl,rfl,rfl,h1,r1⟩:=trodAll_cons r0
 obtain⟨v2,vs2,d2,ds2,p2,q2,rfl,rfl,rfl,h2,r2⟩:=trodAll_cons r1
 obtain⟨v3,vs3,d3,ds3,p3,q3,rfl,rfl,rfl,h3,r3⟩:=trodAll_cons r2
 obtain⟨rfl,rfl,rfl⟩:=trodAll_nil r3
 obtain rfl:args= #[v0,v1,v2,v3] :=by cases args;simp_all
 obtain⟨rfl,rfl⟩:=trodVars_none hV
 have k0:=h0
 have lt0:∀x∈p0,x.block<W.heap.size:=by obtain⟨m,hm⟩:=k0;exact DataW.trod_lt m _ _ _ hm
 have z0:∀n∈d0.weights Tryz.prog 24,n<=reachBytes:=fun n hn=>by
  have h:=List.all_eq_true.1 hsz0 n (DataW.weights_mem_each (j:=0) (t:=24) (d:=d0) (by first|rfl|(rw [Tryz.params3];rfl)) rfl n hn)
  simpa using h
 obtain⟨k00,c0,cv0,rfl,w0,y0,u0⟩:=ziN (hval 0 24 v0 rfl rfl) h0 z0
 have k1:=h1
 have lt1:∀x∈p1,x.block<W.heap.size:=by obtain⟨m,hm⟩:=k1;exact DataW.trod_lt m _ _ _ hm
 obtain⟨x1,rfl⟩:=zll (hval 1 26 v1 rfl rfl) h1
 have k2:=h2
 have lt2:∀x∈p2,x.block<W.heap.size:=by obtain⟨m,hm⟩:=k2;exact DataW.trod_lt m _ _ _ hm
 have z2:∀n∈d2.weights Tryz.prog 30,n<=reachBytes:=fun n hn=>by
  have h:=List.all_eq_true.1 hsz0 n (DataW.weights_mem_each (j:=2) (t:=30) (d:=d2) (by first|rfl|(rw [Tryz.params3];rfl)) rfl n hn)
  simpa using h
 obtain⟨s2,sv2,mv2,rfl,w2,y2,x2,u2⟩:=zhu (hval 2 30 v2 rfl rfl) h2 z2
 have k3:=h3
 have lt3:∀x∈p3,x.block<W.heap.size:=by obtain⟨m,hm⟩:=k3;exact DataW.trod_lt m _ _ _ hm
 obtain⟨x3,rfl⟩:=zlm (hval 3 32 v3 rfl rfl) h3
 clear hA0 hval0
 refine(zhy W c0 cv0 k00 w0 x1 s2 sv2 mv2 w2 x3 1125899906842624 rfl (by unfold reachBytes at y0;omega) (by unfold reachBytes at y2;omega) (by unfold reachBytes at x2;omega) (fun i hi=>by have h:=u0 i hi;unfold reachBytes at h;exact Int.ofNat_le.2 (Nat.le_trans h (by decide))) (fun j hj=>by have h:=u2 j hj;unfold reachBytes at h;exact Int.ofNat_le.2 (Nat.le_trans h (by decide)))).mono fun e W' ⟨he,bel⟩=> ?_
 subst he
 exact⟨_,rfl,_,_,_, [],_, [],hW',trodAll_mk1 (shut_bool Tryz.underlying4 _),(trodAll_cons_mk (Below.trod zaU (by kernel_rfl) (of_decide_eq_true (by kernel_rfl)) k0 bel lt0) (trodAll_cons_mk (Below.trod zaU (by kernel_rfl) (of_decide_eq_true (by kernel_rfl)) k1 bel lt1) (trodAll_cons_mk (Below.trod zaU (by kernel_rfl) (of_decide_eq_true (by kernel_rfl)) k2 bel lt2) (trodAll_cons_mk (Below.trod zaU (by kernel_rfl) (of_decide_eq_true (by kernel_rfl)) k3 bel lt3) trodAll_mk0)))),rfl,bel.frame _,fun h=>by cases h⟩
theorem over:Rows.stepAnyRow.holds Tryz.pinned (OpenSpec.ofChange Rows.stepAnySpec):=
 OpenClaim.holds_of_wide 3 Tryz.f3 rfl rfl rfl rfl rfl rfl rfl ⟨rfl,rfl,rfl,rfl,rfl⟩ rfl rfl rfl rfl rfl (by kernel_rfl) Tryz.func3 (by kernel_rfl)
  (of_decide_eq_true (by kernel_rfl)) (by unfold Func.isWrapper;first|(rw [if_pos (by decide+kernel)];kernel_rfl)|(rw [if_neg (by decide+kernel)];exact⟨rfl,rfl⟩))
  (fun os started H enc _=>lifted os started H enc)
end Go.Proofs.YtliajkheeniljaaGreatDoor.stepAny
namespace Go.Proofs.YtliajkheeniljaaGreatDoor
theorem stepAny_holds:Rows.StepAnyCardSaid:=
 Claim7.holds_tied_plain_at .later [] [.data, .data, .data] true (true, "d892adb1179e054dd6d5c063c2c1112e759161ef003ce4a6f8a1d939f97b1849") false stepAny.over (fun _ h=>by cases h) (by kernel_rfl) (fun _ h=>by cases h) stepAny_row_tie rfl ⟨rfl,rfl⟩ (by kernel_rfl) rfl
  (fun f fn hf hfn=>by
   obtain rfl:3=f:=Option.some.inj ((show Tryz.prog.funcNamed "gablet/gabletlaw07.StepAny" =some 3 by kernel_rfl).symm.trans hf)
   obtain rfl:Tryz.f3=fn:=Option.some.inj (Tryz.func3.symm.trans hfn)
   exact⟨by kernel_rfl,zi4 (by kernel_rfl)⟩)
  (by kernel_rfl)
#print axioms stepAny_holds
end Go.Proofs.YtliajkheeniljaaGreatDoor
