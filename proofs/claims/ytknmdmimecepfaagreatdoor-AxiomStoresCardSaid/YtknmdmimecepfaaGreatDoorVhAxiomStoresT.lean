/- AxiomStores: of threads that only store, in the end each variable is what some thread's last store to it is, of any model, for every input; nothing is assumed -/
import Derived.Test.YtknmdmimecepfaaGreatDoorCards
import Derived.Test.YtknmdmimecepfaaGreatDoorVhAxiomStores
set_option linter.all false
namespace Go.Proofs.YtknmdmimecepfaaGreatDoor.axiomStores
open Go.ChangeShapes Go.WideShapes Go.ChangeAt Go.RowKit
set_option maxRecDepth 100000
set_option maxHeartbeats 16000000
open Go.ChangeMaps (open_string shut_string)
theorem lifted (os:Os) (started:os.Started) (H:Type) (enc:TypeId × Value->H):
  ReturnsInHanded {} Tryz.checked os 6 .any (λw args=>(Rows.axiomStoresSpec.pre enc Tryz.prog Tryz.f6 Rows.axiomStoresRow.domain false w args/\laidMet Tryz.prog Rows.axiomStoresRow.laid w)/\sizedMet enc Tryz.prog Tryz.f6 (OpenSpec.ofChange Rows.axiomStoresSpec) false w args)
   (Rows.axiomStoresSpec.post enc Tryz.prog Tryz.f6 false true false false):=by
 refine returnsInHanded_of_change_and (C:=Tryz.checked) (X:=λw _=>laidMet Tryz.prog Rows.axiomStoresRow.laid w) (λ_ _ _ hh h=>h.of_heap hh) zqF started (by kernel_rfl) Tryz.func6
  (ChangeSpec.witness_at (enc:=enc) (C:=Tryz.checked) (os:=os) (X:=λw _=>laidMet Tryz.prog Rows.axiomStoresRow.laid w) false (zcD os) #[.slice none 0 0, .int .u8 0] 8 rfl (by kernel_rfl) (by kernel_rfl) (by kernel_rfl) (by kernel_rfl) (by kernel_rfl) (ziD os _)) ?_
 intro W base args ds gs before hval0 hW zoY hsz0 _ _
 clear zoY
 have hval:∀(j:Nat) t v,Tryz.f6.params[j]? =some t->args[j]? =some v->Value.okWide Tryz.prog W .any base t v:=hval0
 have hW':=hW
 obtain⟨p,q,hA0,hV,rfl,hfz,hnd⟩:=hW
 have hA:DataW.TrodAll enc Tryz.prog W 0 (λ_=>true) true Tryz.f6.params.toList args.toList ds p:=hA0
 rw [Tryz.params6] at hA hval
 obtain⟨v0,vs0,d0,ds0,p0,q0,hargs,rfl,rfl,h0,r0⟩:=trodAll_cons hA
 obtain⟨v1,vs1,d1,ds1,p1,q1,rfl,rfl,rfl,h1,r1⟩:=trodAll_cons r0
 obtain⟨rfl,rfl,rfl⟩:=trodAll_nil r1
 obtain rfl:args= #[v0,v1] :=by cases args;simp_all
 obtain⟨rfl,rfl⟩:=trodVars_none hV
 clear hsz0
 obtain⟨a0,zqG,cap0,rfl⟩:=okWide_slice Tryz.underlying22 (hval 0 22 v0 rfl rfl)
 have k0:=h0
 have lt0:∀x∈p0,x.block<W.heap.size:=by obtain⟨m,hm⟩:=k0;exact DataW.trod_lt m _ _ _ hm
 obtain⟨l0,w0⟩:∃l,wS W .u8 (.slice a0 zqG cap0) l:=zfW Tryz.underlying22 Tryz.underlying5 (by kernel_rfl) h0
 obtain⟨a1,rfl,rfl,rfl,w1⟩:=open_int Tryz.underlying5 (hval 1 5 v1 rfl rfl) h1
 clear hA0 hval0
 refine(zcE W _ l0 w0 a1 w1).mono λe W' ⟨he,bel⟩=> ?_
 subst he
 exact⟨_,rfl,_,_,_, [],_, [],hW',trodAll_mk1 (shut_bool Tryz.underlying4 _),(trodAll_cons_mk (Below.trod zko (by kernel_rfl) (of_decide_eq_true (by kernel_rfl)) k0 bel lt0) (trodAll_cons_mk (shut_int Tryz.underlying5 w1) trodAll_mk0)),rfl,bel.frame _,λh=>by cases h⟩
theorem over:Rows.axiomStoresRow.holds Tryz.pinned (OpenSpec.ofChange Rows.axiomStoresSpec):=
 OpenClaim.holds_of_wide 6 Tryz.f6 rfl rfl rfl rfl rfl rfl rfl ⟨rfl,rfl,rfl,rfl,rfl⟩ rfl rfl rfl rfl rfl (by kernel_rfl) Tryz.func6 (by kernel_rfl)
  (of_decide_eq_true (by kernel_rfl)) (by unfold Func.isWrapper;first|(rw [if_pos (by decide+kernel)];kernel_rfl)|(rw [if_neg (by decide+kernel)];exact⟨rfl,rfl⟩))
  (λos started H enc _=>lifted os started H enc)
end Go.Proofs.YtknmdmimecepfaaGreatDoor.axiomStores
namespace Go.Proofs.YtknmdmimecepfaaGreatDoor
theorem axiomStores_holds:Rows.AxiomStoresCardSaid:=
 Claim7.holds_tied_plain_at .later [] [.data, .data, .data] true (true, "1b5f3424e11f888f904ced37b0336b64550a5c35321caeb10ec1af3c5a19c065") false axiomStores.over (λ_ h=>by cases h) (by kernel_rfl) (λ_ h=>by cases h) axiomStores_row_tie rfl ⟨rfl,rfl⟩ (by kernel_rfl) rfl
  (λf fn hf hfn=>by
   obtain rfl:6=f:=Option.some.inj ((show Tryz.prog.funcNamed "gablet/gabletlaw12.AxiomStores" =some 6 by kernel_rfl).symm.trans hf)
   obtain rfl:Tryz.f6=fn:=Option.some.inj (Tryz.func6.symm.trans hfn)
   exact⟨by kernel_rfl,zhr (by kernel_rfl)⟩)
  (by kernel_rfl)
#print axioms axiomStores_holds
