/- SpaceArg: what may not be asked is refused, as the document says: for every input. -/
import Derived.Test.YtliajkheeniljaaGreatDoorCards
import Derived.Test.YtliajkheeniljaaGreatDoorZrOpenF
import Derived.Test.YtliajkheeniljaaGreatDoorZrPBad
set_option linter.all false
namespace Go.Proofs.YtliajkheeniljaaGreatDoor.spaceArg
open Go.ChangeShapes Go.WideShapes Go.ChangeAt Go.RowKit
set_option maxRecDepth 100000
set_option maxHeartbeats 16000000
open Go.ChangeMaps (open_string shut_string)
theorem lifted (os:Os) (started:os.Started) (H:Type) (enc:TypeId × Value->H):
  ReturnsInHanded {} Tryz.checked os 9 .any (λw args=>(Rows.spaceArgSpec.pre enc Tryz.prog Tryz.f9 Rows.spaceArgRow.domain false w args/\laidMet Tryz.prog Rows.spaceArgRow.laid w)/\sizedMet enc Tryz.prog Tryz.f9 (OpenSpec.ofChange Rows.spaceArgSpec) false w args)
   (Rows.spaceArgSpec.post enc Tryz.prog Tryz.f9 false true false false):=by
 refine returnsInHanded_of_change_and (C:=Tryz.checked) (X:=λw _=>laidMet Tryz.prog Rows.spaceArgRow.laid w) (λ_ _ _ hh h=>h.of_heap hh) z5q started (by kernel_rfl) Tryz.func9
  (ChangeSpec.witness_at (enc:=enc) (C:=Tryz.checked) (os:=os) (X:=λw _=>laidMet Tryz.prog Rows.spaceArgRow.laid w) false (zie os) #[.slice none 0 0, .agg #[.int .i64 0, .int .i64 0], .int .i64 0, .agg #[.int .i64 0, .int .i64 0, .int .i64 0]] 8 rfl (by kernel_rfl) (by kernel_rfl) (by kernel_rfl) (by kernel_rfl) (by kernel_rfl) (zqC os _)) ?_
 intro W base args ds gs before hval0 hW z2x hsz0 _ _
 clear z2x
 have hval:∀(j:Nat) t v,Tryz.f9.params[j]? =some t->args[j]? =some v->Value.okWide Tryz.prog W .any base t v:=hval0
 have hW':=hW
 obtain⟨p,q,hA0,hV,rfl,hfz,hnd⟩:=hW
 have hA:DataW.TrodAll enc Tryz.prog W 0 (λ_=>true) true Tryz.f9.params.toList args.toList ds p:=hA0
 rw [Tryz.params9] at hA hval
 obtain⟨v0,vs0,d0,ds0,p0,q0,hargs,rfl,rfl,h0,r0⟩:=trodAll_cons hA
 obtain⟨v1,vs1,d1,ds1,p1,q1,rfl,rfl,rfl,h1,r1⟩:=trodAll_cons r0
 obtain⟨v2,vs2,d2,ds2,p2,q2,rfl,rfl,rfl,h2,r2⟩:=trodAll_cons r1
 obtain⟨v3,vs3,d3,ds3,p3,q3,rfl,rfl,rfl,h3,r3⟩:=trodAll_cons r2
 obtain⟨rfl,rfl,rfl⟩:=trodAll_nil r3
 obtain rfl:args= #[v0,v1,v2,v3] :=by cases args;simp_all
 obtain⟨rfl,rfl⟩:=trodVars_none hV
 clear hsz0
 obtain⟨a0,zyV,cap0,rfl⟩:=okWide_slice Tryz.underlying38 (hval 0 38 v0 rfl rfl)
 have k0:=h0
 have lt0:∀x∈p0,x.block<W.heap.size:=by obtain⟨m,hm⟩:=k0;exact DataW.trod_lt m _ _ _ hm
 obtain⟨l0,w0⟩:∃l,jF W .u8 (.slice a0 zyV cap0) l:=zmV Tryz.underlying38 Tryz.underlying5 (by kernel_rfl) h0
 have hc0:∀a n c,Value.slice a0 zyV cap0= .slice a n c->n<=c:=λa n c e=>by cases e;exact ztB Tryz.underlying38 Tryz.underlying5 (by kernel_rfl) h0
 have k1:=h1
 have lt1:∀x∈p1,x.block<W.heap.size:=by obtain⟨m,hm⟩:=k1;exact DataW.trod_lt m _ _ _ hm
 obtain⟨x1,rfl⟩:=zqD (hval 1 26 v1 rfl rfl) h1
 obtain⟨a2,rfl,rfl,rfl,w2⟩:=open_int Tryz.underlying3 (hval 2 3 v2 rfl rfl) h2
 have k3:=h3
 have lt3:∀x∈p3,x.block<W.heap.size:=by obtain⟨m,hm⟩:=k3;exact DataW.trod_lt m _ _ _ hm
 obtain⟨x3,rfl⟩:=zqE (hval 3 32 v3 rfl rfl) h3
 clear hA0 hval0
 refine(zls W _ l0 w0 hc0 x1 a2 x3).mono λe W' ⟨he,bel⟩=> ?_
 subst he
 exact⟨_,rfl,_,_,_, [],_, [],hW',trodAll_mk1 (shut_bool Tryz.underlying4 _),(trodAll_cons_mk (Below.trod zhl (by kernel_rfl) (of_decide_eq_true (by kernel_rfl)) k0 bel lt0) (trodAll_cons_mk (Below.trod zhl (by kernel_rfl) (of_decide_eq_true (by kernel_rfl)) k1 bel lt1) (trodAll_cons_mk (shut_int Tryz.underlying3 w2) (trodAll_cons_mk (Below.trod zhl (by kernel_rfl) (of_decide_eq_true (by kernel_rfl)) k3 bel lt3) trodAll_mk0)))),rfl,bel.frame _,λh=>by cases h⟩
theorem over:Rows.spaceArgRow.holds Tryz.pinned (OpenSpec.ofChange Rows.spaceArgSpec):=
 OpenClaim.holds_of_wide 9 Tryz.f9 rfl rfl rfl rfl rfl rfl rfl ⟨rfl,rfl,rfl,rfl,rfl⟩ rfl rfl rfl rfl rfl (by kernel_rfl) Tryz.func9 (by kernel_rfl)
  (of_decide_eq_true (by kernel_rfl)) (by unfold Func.isWrapper;first|(rw [if_pos (by decide+kernel)];kernel_rfl)|(rw [if_neg (by decide+kernel)];exact⟨rfl,rfl⟩))
  (λos started H enc _=>lifted os started H enc)
end Go.Proofs.YtliajkheeniljaaGreatDoor.spaceArg
namespace Go.Proofs.YtliajkheeniljaaGreatDoor
theorem spaceArg_holds:Rows.SpaceArgCardSaid:=
 Claim7.holds_tied_plain_at .later [] [.data, .data, .data] true (true, "d892adb1179e054dd6d5c063c2c1112e759161ef003ce4a6f8a1d939f97b1849") false spaceArg.over (λ_ h=>by cases h) (by kernel_rfl) (λ_ h=>by cases h) spaceArg_row_tie rfl ⟨rfl,rfl⟩ (by kernel_rfl) rfl
  (λf fn hf hfn=>by
   obtain rfl:9=f:=Option.some.inj ((show Tryz.prog.funcNamed "gablet/gabletlaw10.SpaceArg" =some 9 by kernel_rfl).symm.trans hf)
   obtain rfl:Tryz.f9=fn:=Option.some.inj (Tryz.func9.symm.trans hfn)
   exact⟨by kernel_rfl,zoM (by kernel_rfl)⟩)
  (by kernel_rfl)
#print axioms spaceArg_holds
