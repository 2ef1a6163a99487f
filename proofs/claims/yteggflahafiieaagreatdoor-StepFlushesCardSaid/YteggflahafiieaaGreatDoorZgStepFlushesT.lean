/- StepFlushes: a flush brings one store to memory and changes nothing else, and a step that touches no memory changes none: for every input. -/
import Derived.Test.YteggflahafiieaaGreatDoorCards
import Derived.Test.YteggflahafiieaaGreatDoorZgStepFlushes
set_option linter.all false
namespace Go.Proofs.YteggflahafiieaaGreatDoor.stepFlushes
open Go.ChangeShapes Go.WideShapes Go.ChangeAt Go.RowKit
set_option maxRecDepth 100000
set_option maxHeartbeats 16000000
open Go.ChangeMaps (open_string shut_string)
theorem lifted (os:Os) (started:os.Started) (H:Type) (enc:TypeId × Value->H):
  ReturnsInHanded {} Tryz.checked os 3 .any (λw args=>(Rows.stepFlushesSpec.pre enc Tryz.prog Tryz.f3 Rows.stepFlushesRow.domain false w args/\laidMet Tryz.prog Rows.stepFlushesRow.laid w)/\sizedMet enc Tryz.prog Tryz.f3 (OpenSpec.ofChange Rows.stepFlushesSpec) false w args)
   (Rows.stepFlushesSpec.post enc Tryz.prog Tryz.f3 false true false false):=by
 refine returnsInHanded_of_change_and (C:=Tryz.checked) (X:=λw _=>laidMet Tryz.prog Rows.stepFlushesRow.laid w) (λ_ _ _ hh h=>h.of_heap hh) z6g started (by kernel_rfl) Tryz.func3
  (ChangeSpec.witness_at (enc:=enc) (C:=Tryz.checked) (os:=os) (X:=λw _=>laidMet Tryz.prog Rows.stepFlushesRow.laid w) false (zg3 os) #[.slice none 0 0, .int .u8 0, .slice none 0 0] 8 rfl (by kernel_rfl) (by kernel_rfl) (by kernel_rfl) (by kernel_rfl) (by kernel_rfl) (zsz os _)) ?_
 intro W base args ds gs before hval0 hW z2R hsz0 _ _
 clear z2R
 have hval:∀(j:Nat) t v,Tryz.f3.params[j]? =some t->args[j]? =some v->Value.okWide Tryz.prog W .any base t v:=hval0
 have hW':=hW
 obtain⟨p,q,hA0,hV,rfl,hfz,hnd⟩:=hW
 have hA:DataW.TrodAll enc Tryz.prog W 0 (λ_=>true) true Tryz.f3.params.toList args.toList ds p:=hA0
 rw [Tryz.params3] at hA hval
 obtain⟨v0,vs0,d0,ds0,p0,q0,hargs,rfl,rfl,h0,r0⟩:=trodAll_cons hA
 obtain⟨v1,vs1,d1,ds1,p1,q1,rfl,rfl,rfl,h1,r1⟩:=trodAll_cons r0
 obtain⟨v2,vs2,d2,ds2,p2,q2,rfl,rfl,rfl,h2,r2⟩:=trodAll_cons r1
 obtain⟨rfl,rfl,rfl⟩:=trodAll_nil r2
 obtain rfl:args= #[v0,v1,v2] :=by cases args;simp_all
 obtain⟨rfl,rfl⟩:=trodVars_none hV
 clear hsz0
 obtain⟨a0,z6N,cap0,rfl⟩:=okWide_slice Tryz.underlying22 (hval 0 22 v0 rfl rfl)
 have k0:=h0
 have lt0:∀x∈p0,x.block<W.heap.size:=by obtain⟨m,hm⟩:=k0;exact DataW.trod_lt m _ _ _ hm
 obtain⟨l0,w0⟩:∃l,vY W .u8 (.slice a0 z6N cap0) l:=zeN Tryz.underlying22 Tryz.underlying5 (by kernel_rfl) h0
 obtain⟨a1,rfl,rfl,rfl,w1⟩:=open_int Tryz.underlying5 (hval 1 5 v1 rfl rfl) h1
 obtain⟨a2,len2,cap2,rfl⟩:=okWide_slice Tryz.underlying22 (hval 2 22 v2 rfl rfl)
 have k2:=h2
 have lt2:∀x∈p2,x.block<W.heap.size:=by obtain⟨m,hm⟩:=k2;exact DataW.trod_lt m _ _ _ hm
 obtain⟨l2,w2⟩:∃l,vY W .u8 (.slice a2 len2 cap2) l:=zeN Tryz.underlying22 Tryz.underlying5 (by kernel_rfl) h2
 clear hA0 hval0
 refine(zg4 W _ l0 w0 a1 w1 _ l2 w2).mono λe W' ⟨he,bel⟩=> ?_
 subst he
 exact⟨_,rfl,_,_,_, [],_, [],hW',trodAll_mk1 (shut_bool Tryz.underlying4 _),(trodAll_cons_mk (Below.trod zlV (by kernel_rfl) (of_decide_eq_true (by kernel_rfl)) k0 bel lt0) (trodAll_cons_mk (shut_int Tryz.underlying5 w1) (trodAll_cons_mk (Below.trod zlV (by kernel_rfl) (of_decide_eq_true (by kernel_rfl)) k2 bel lt2) trodAll_mk0))),rfl,bel.frame _,λh=>by cases h⟩
theorem over:Rows.stepFlushesRow.holds Tryz.pinned (OpenSpec.ofChange Rows.stepFlushesSpec):=
 OpenClaim.holds_of_wide 3 Tryz.f3 rfl rfl rfl rfl rfl rfl rfl ⟨rfl,rfl,rfl,rfl,rfl⟩ rfl rfl rfl rfl rfl (by kernel_rfl) Tryz.func3 (by kernel_rfl)
  (of_decide_eq_true (by kernel_rfl)) (by unfold Func.isWrapper;first|(rw [if_pos (by decide+kernel)];kernel_rfl)|(rw [if_neg (by decide+kernel)];exact⟨rfl,rfl⟩))
  (λos started H enc _=>lifted os started H enc)
end Go.Proofs.YteggflahafiieaaGreatDoor.stepFlushes
namespace Go.Proofs.YteggflahafiieaaGreatDoor
theorem stepFlushes_holds:Rows.StepFlushesCardSaid:=
 Claim7.holds_tied_plain_at .later [] [.data, .data, .data] true (true, "f28e97013ee4622a7e6c6cfca785df47bc12f97428656a9ba4d5384bc91a3511") false stepFlushes.over (λ_ h=>by cases h) (by kernel_rfl) (λ_ h=>by cases h) stepFlushes_row_tie rfl ⟨rfl,rfl⟩ (by kernel_rfl) rfl
  (λf fn hf hfn=>by
   obtain rfl:3=f:=Option.some.inj ((show Tryz.prog.funcNamed "gablet/gabletlaw07.StepFlushes" =some 3 by kernel_rfl).symm.trans hf)
   obtain rfl:Tryz.f3=fn:=Option.some.inj (Tryz.func3.symm.trans hfn)
   exact⟨by kernel_rfl,zqv (by kernel_rfl)⟩)
  (by kernel_rfl)
#print axioms stepFlushes_holds
