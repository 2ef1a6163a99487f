/- SpaceShort: all states that are come to are told, with all their moves and where these lead to, and no state twice: for every input. -/
import Derived.Lib.SmallJoins
import Derived.Test.YtliajkheeniljaaGreatDoorCards
import Derived.Test.YtliajkheeniljaaGreatDoorZtSpaceShort
set_option linter.all false
namespace Go.Proofs.YtliajkheeniljaaGreatDoor.spaceShort
open Go.ChangeShapes Go.WideShapes Go.ChangeAt Go.RowKit
set_option maxRecDepth 100000
set_option maxHeartbeats 16000000
open Go.ChangeMaps (open_string shut_string)
theorem lifted (os:Os) (started:os.Started) (H:Type) (enc:TypeId × Value->H):
  ReturnsInHanded {} Tryz.checked os 12 .any (λw args=>(Rows.spaceShortSpec.pre enc Tryz.prog Tryz.f12 Rows.spaceShortRow.domain false w args/\laidMet Tryz.prog Rows.spaceShortRow.laid w)/\sizedMet enc Tryz.prog Tryz.f12 (OpenSpec.ofChange Rows.spaceShortSpec) false w args)
   (Rows.spaceShortSpec.post enc Tryz.prog Tryz.f12 false true false false):=by
 refine returnsInHanded_of_change_and (C:=Tryz.checked) (X:=λw _=>laidMet Tryz.prog Rows.spaceShortRow.laid w) (λ_ _ _ hh h=>h.of_heap hh) z6G started (by kernel_rfl) Tryz.func12
  (ChangeSpec.witness_at (enc:=enc) (C:=Tryz.checked) (os:=os) (X:=λw _=>laidMet Tryz.prog Rows.spaceShortRow.laid w) false (ziH os) #[.slice none 0 0, .int .u8 0, .int .u16 0] 8 rfl (by kernel_rfl) (by kernel_rfl) (by kernel_rfl) (by kernel_rfl) (by kernel_rfl) (zsJ os _)) ?_
 intro W base args ds gs before hval0 hW z2M hsz0 _ _
 clear z2M
 have hval:∀(j:Nat) t v,Tryz.f12.params[j]? =some t->args[j]? =some v->Value.okWide Tryz.prog W .any base t v:=hval0
 have hW':=hW
 obtain⟨p,q,hA0,hV,rfl,hfz,hnd⟩:=hW
 have hA:DataW.TrodAll enc Tryz.prog W 0 (λ_=>true) true Tryz.f12.params.toList args.toList ds p:=hA0
 rw [Tryz.params12] at hA hval
 obtain⟨v0,vs0,d0,ds0,p0,q0,hargs,rfl,rfl,h0,r0⟩:=trodAll_cons hA
 obtain⟨v1,vs1,d1,ds1,p1,q1,rfl,rfl,rfl,h1,r1⟩:=trodAll_cons r0
 obtain⟨v2,vs2,d2,ds2,p2,q2,rfl,rfl,rfl,h2,r2⟩:=trodAll_cons r1
 obtain⟨rfl,rfl,rfl⟩:=trodAll_nil r2
 obtain rfl:args= #[v0,v1,v2] :=by cases args;simp_all
 obtain⟨rfl,rfl⟩:=trodVars_none hV
 clear hsz0
 obtain⟨a0,z1D,cap0,rfl⟩:=okWide_slice Tryz.underlying38 (hval 0 38 v0 rfl rfl)
 have k0:=h0
 have lt0:∀x∈p0,x.block<W.heap.size:=by obtain⟨m,hm⟩:=k0;exact DataW.trod_lt m _ _ _ hm
 obtain⟨l0,w0⟩:∃l,jJ W .u8 (.slice a0 z1D cap0) l:=znn Tryz.underlying38 Tryz.underlying5 (by kernel_rfl) h0
 have hc0:∀a n c,Value.slice a0 z1D cap0= .slice a n c->n<=c:=λa n c e=>by cases e;exact zu4 Tryz.underlying38 Tryz.underlying5 (by kernel_rfl) h0
 obtain⟨a1,rfl,rfl,rfl,w1⟩:=open_int Tryz.underlying5 (hval 1 5 v1 rfl rfl) h1
 obtain⟨a2,rfl,rfl,rfl,w2⟩:=open_int Tryz.underlying65 (hval 2 65 v2 rfl rfl) h2
 clear hA0 hval0
 refine(ziP W _ l0 w0 hc0 a1 (zxl w1).1 (zxl w1).2 a2 (zsK w2).1 (zsK w2).2).mono λe W' ⟨he,bel⟩=> ?_
 subst he
 exact⟨_,rfl,_,_,_, [],_, [],hW',trodAll_mk1 (shut_bool Tryz.underlying4 _),(trodAll_cons_mk (Below.trod zv8 (by kernel_rfl) (of_decide_eq_true (by kernel_rfl)) k0 bel lt0) (trodAll_cons_mk (shut_int Tryz.underlying5 w1) (trodAll_cons_mk (shut_int Tryz.underlying65 w2) trodAll_mk0))),rfl,bel.frame _,λh=>by cases h⟩
theorem over:Rows.spaceShortRow.holds Tryz.pinned (OpenSpec.ofChange Rows.spaceShortSpec):=
 OpenClaim.holds_of_wide 12 Tryz.f12 rfl rfl rfl rfl rfl rfl rfl ⟨rfl,rfl,rfl,rfl,rfl⟩ rfl rfl rfl rfl rfl (by kernel_rfl) Tryz.func12 (by kernel_rfl)
  (of_decide_eq_true (by kernel_rfl)) (by unfold Func.isWrapper;first|(rw [if_pos (by decide+kernel)];kernel_rfl)|(rw [if_neg (by decide+kernel)];exact⟨rfl,rfl⟩))
  (λos started H enc _=>lifted os started H enc)
end Go.Proofs.YtliajkheeniljaaGreatDoor.spaceShort
namespace Go.Proofs.YtliajkheeniljaaGreatDoor
theorem spaceShort_holds:Rows.SpaceShortCardSaid:=
 Claim7.holds_tied_plain_at .later [] [.data, .data, .data] true (true, "d892adb1179e054dd6d5c063c2c1112e759161ef003ce4a6f8a1d939f97b1849") false spaceShort.over (λ_ h=>by cases h) (by kernel_rfl) (λ_ h=>by cases h) spaceShort_row_tie rfl ⟨rfl,rfl⟩ (by kernel_rfl) rfl
  (λf fn hf hfn=>by
   obtain rfl:12=f:=Option.some.inj ((show Tryz.prog.funcNamed "gablet/gabletlaw10.SpaceShort" =some 12 by kernel_rfl).symm.trans hf)
   obtain rfl:Tryz.f12=fn:=Option.some.inj (Tryz.func12.symm.trans hfn)
   exact⟨by kernel_rfl,zpP (by kernel_rfl)⟩)
  (by kernel_rfl)
#print axioms spaceShort_holds
