/- AxiomArg: what may not be asked is refused, for every input; nothing is assumed -/
import Derived.Test.YtknmdmimecepfaaGreatDoorCards
import Derived.Test.YtknmdmimecepfaaGreatDoorVgAxiomArg
set_option linter.all false
namespace Go.Proofs.YtknmdmimecepfaaGreatDoor.axiomArg
open Go.ChangeShapes Go.WideShapes Go.ChangeAt Go.RowKit
set_option maxRecDepth 100000
set_option maxHeartbeats 16000000
open Go.ChangeMaps (open_string shut_string)
theorem lifted (os:Os) (started:os.Started) (H:Type) (enc:TypeId × Value->H):
  ReturnsInHanded {} Tryz.checked os 4 .any (λw args=>(Rows.axiomArgSpec.pre enc Tryz.prog Tryz.f4 Rows.axiomArgRow.domain false w args/\laidMet Tryz.prog Rows.axiomArgRow.laid w)/\sizedMet enc Tryz.prog Tryz.f4 (OpenSpec.ofChange Rows.axiomArgSpec) false w args)
   (Rows.axiomArgSpec.post enc Tryz.prog Tryz.f4 false true false false):=by
 refine returnsInHanded_of_change_and (C:=Tryz.checked) (X:=λw _=>laidMet Tryz.prog Rows.axiomArgRow.laid w) (λ_ _ _ hh h=>h.of_heap hh) zvB started (by kernel_rfl) Tryz.func4
  (ChangeSpec.witness_at (enc:=enc) (C:=Tryz.checked) (os:=os) (X:=λw _=>laidMet Tryz.prog Rows.axiomArgRow.laid w) false (zeP os) #[.slice none 0 0, .int .i64 0, .int .u8 0, .int .i64 0] 8 rfl (by kernel_rfl) (by kernel_rfl) (by kernel_rfl) (by kernel_rfl) (by kernel_rfl) (zmj os _)) ?_
 intro W base args ds gs before hval0 hW zt6 hsz0 _ _
 clear zt6
 have hval:∀(j:Nat) t v,Tryz.f4.params[j]? =some t->args[j]? =some v->Value.okWide Tryz.prog W .any base t v:=hval0
 have hW':=hW
 obtain⟨p,q,hA0,hV,rfl,hfz,hnd⟩:=hW
 have hA:DataW.TrodAll enc Tryz.prog W 0 (λ_=>true) true Tryz.f4.params.toList args.toList ds p:=hA0
 rw [Tryz.params4] at hA hval
 obtain⟨v0,vs0,d0,ds0,p0,q0,hargs,rfl,rfl,h0,r0⟩:=trodAll_cons hA
 obtain⟨v1,vs1,d1,ds1,p1,q1,rfl,rfl,rfl,h1,r1⟩:=trodAll_cons r0
 obtain⟨v2,vs2,d2,ds2,p2,q2,rfl,rfl,rfl,h2,r2⟩:=trodAll_cons r1
 obtain⟨v3,vs3,d3,ds3,p3,q3,rfl,rfl,rfl,h3,r3⟩:=trodAll_cons r2
 obtain⟨rfl,rfl,rfl⟩:=trodAll_nil r3
 obtain rfl:args= #[v0,v1,v2,v3] :=by cases args;simp_all
 obtain⟨rfl,rfl⟩:=trodVars_none hV
 clear hsz0
 obtain⟨a0,zvC,cap0,rfl⟩:=okWide_slice Tryz.underlying22 (hval 0 22 v0 rfl rfl)
 have k0:=h0
 have lt0:∀x∈p0,x.block<W.heap.size:=by obtain⟨m,hm⟩:=k0;exact DataW.trod_lt m _ _ _ hm
 obtain⟨l0,w0⟩:∃l,vU W .u8 (.slice a0 zvC cap0) l:=zi7 Tryz.underlying22 Tryz.underlying5 (by kernel_rfl) h0
 obtain⟨a1,rfl,rfl,rfl,w1⟩:=open_int Tryz.underlying3 (hval 1 3 v1 rfl rfl) h1
 obtain⟨a2,rfl,rfl,rfl,w2⟩:=open_int Tryz.underlying5 (hval 2 5 v2 rfl rfl) h2
 obtain⟨a3,rfl,rfl,rfl,w3⟩:=open_int Tryz.underlying3 (hval 3 3 v3 rfl rfl) h3
 clear hA0 hval0
 refine(zhC W _ l0 w0 a1 w1 a2 w2 a3 w3).mono λe W' ⟨he,bel⟩=> ?_
 subst he
 exact⟨_,rfl,_,_,_, [],_, [],hW',trodAll_mk1 (shut_bool Tryz.underlying4 _),(trodAll_cons_mk (Below.trod zoh (by kernel_rfl) (of_decide_eq_true (by kernel_rfl)) k0 bel lt0) (trodAll_cons_mk (shut_int Tryz.underlying3 w1) (trodAll_cons_mk (shut_int Tryz.underlying5 w2) (trodAll_cons_mk (shut_int Tryz.underlying3 w3) trodAll_mk0)))),rfl,bel.frame _,λh=>by cases h⟩
theorem over:Rows.axiomArgRow.holds Tryz.pinned (OpenSpec.ofChange Rows.axiomArgSpec):=
 OpenClaim.holds_of_wide 4 Tryz.f4 rfl rfl rfl rfl rfl rfl rfl ⟨rfl,rfl,rfl,rfl,rfl⟩ rfl rfl rfl rfl rfl (by kernel_rfl) Tryz.func4 (by kernel_rfl)
  (of_decide_eq_true (by kernel_rfl)) (by unfold Func.isWrapper;first|(rw [if_pos (by decide+kernel)];kernel_rfl)|(rw [if_neg (by decide+kernel)];exact⟨rfl,rfl⟩))
  (λos started H enc _=>lifted os started H enc)
end Go.Proofs.YtknmdmimecepfaaGreatDoor.axiomArg
namespace Go.Proofs.YtknmdmimecepfaaGreatDoor
theorem axiomArg_holds:Rows.AxiomArgCardSaid:=
 Claim7.holds_tied_plain_at .later [] [.data, .data, .data] true (true, "1b5f3424e11f888f904ced37b0336b64550a5c35321caeb10ec1af3c5a19c065") false axiomArg.over (λ_ h=>by cases h) (by kernel_rfl) (λ_ h=>by cases h) axiomArg_row_tie rfl ⟨rfl,rfl⟩ (by kernel_rfl) rfl
  (λf fn hf hfn=>by
   obtain rfl:4=f:=Option.some.inj ((show Tryz.prog.funcNamed "gablet/gabletlaw12.AxiomArg" =some 4 by kernel_rfl).symm.trans hf)
   obtain rfl:Tryz.f4=fn:=Option.some.inj (Tryz.func4.symm.trans hfn)
   exact⟨by kernel_rfl,zkr (by kernel_rfl)⟩)
  (by kernel_rfl)
#print axioms axiomArg_holds
