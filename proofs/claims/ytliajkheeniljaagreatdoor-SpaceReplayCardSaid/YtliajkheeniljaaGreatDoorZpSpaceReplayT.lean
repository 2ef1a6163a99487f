/- SpaceReplay: the state behind any moves is what the document says, or the error is: for every input. -/
import Derived.Test.YtliajkheeniljaaGreatDoorCards
import Derived.Test.YtliajkheeniljaaGreatDoorZpOpenF
import Derived.Test.YtliajkheeniljaaGreatDoorZpSpaceReplay
set_option linter.all false
namespace Go.Proofs.YtliajkheeniljaaGreatDoor.spaceReplay
open Go.ChangeShapes Go.WideShapes Go.ChangeAt Go.RowKit
set_option maxRecDepth 100000
set_option maxHeartbeats 16000000
open Go.ChangeMaps (open_string shut_string)
theorem lifted (os:Os) (started:os.Started) (H:Type) (enc:TypeId × Value->H):
  ReturnsInHanded {} Tryz.checked os 10 .any (λw args=>(Rows.spaceReplaySpec.pre enc Tryz.prog Tryz.f10 Rows.spaceReplayRow.domain false w args/\laidMet Tryz.prog Rows.spaceReplayRow.laid w)/\sizedMet enc Tryz.prog Tryz.f10 (OpenSpec.ofChange Rows.spaceReplaySpec) false w args)
   (Rows.spaceReplaySpec.post enc Tryz.prog Tryz.f10 false true false false):=by
 refine returnsInHanded_of_change_and (C:=Tryz.checked) (X:=λw _=>laidMet Tryz.prog Rows.spaceReplayRow.laid w) (λ_ _ _ hh h=>h.of_heap hh) z4G started (by kernel_rfl) Tryz.func10
  (ChangeSpec.witness_at (enc:=enc) (C:=Tryz.checked) (os:=os) (X:=λw _=>laidMet Tryz.prog Rows.spaceReplayRow.laid w) false (zhK os) #[.slice none 0 0, .int .u8 0, .slice none 0 0, .int .u8 0, .agg #[.int .i64 0, .int .i64 0, .int .i64 0]] 8 rfl (by kernel_rfl) (by kernel_rfl) (by kernel_rfl) (by kernel_rfl) (by kernel_rfl) (zr6 os _)) ?_
 intro W base args ds gs before hval0 hW z1D hsz0 _ _
 clear z1D
 have hval:∀(j:Nat) t v,Tryz.f10.params[j]? =some t->args[j]? =some v->Value.okWide Tryz.prog W .any base t v:=hval0
 have hW':=hW
 obtain⟨p,q,hA0,hV,rfl,hfz,hnd⟩:=hW
 have hA:DataW.TrodAll enc Tryz.prog W 0 (λ_=>true) true Tryz.f10.params.toList args.toList ds p:=hA0
 rw [Tryz.params10] at hA hval
 obtain⟨v0,vs0,d0,ds0,p0,q0,hargs,rfl,rfl,h0,r0⟩:=trodAll_cons hA
 obtain⟨v1,vs1,d1,ds1,p1,q1,rfl,rfl,rfl,h1,r1⟩:=trodAll_cons r0
 obtain⟨v2,vs2,d2,ds2,p2,q2,rfl,rfl,rfl,h2,r2⟩:=trodAll_cons r1
 obtain⟨v3,vs3,d3,ds3,p3,q3,rfl,rfl,rfl,h3,r3⟩:=trodAll_cons r2
 obtain⟨v4,vs4,d4,ds4,p4,q4,rfl,rfl,rfl,h4,r4⟩:=trodAll_cons r3
 obtain⟨rfl,rfl,rfl⟩:=trodAll_nil r4
 obtain rfl:args= #[v0,v1,v2,v3,v4] :=by cases args;simp_all
 obtain⟨rfl,rfl⟩:=trodVars_none hV
 clear hsz0
 obtain⟨a0,z4H,cap0,rfl⟩:=okWide_slice Tryz.underlying38 (hval 0 38 v0 rfl rfl)
 have k0:=h0
 have lt0:∀x∈p0,x.block<W.heap.size:=by obtain⟨m,hm⟩:=k0;exact DataW.trod_lt m _ _ _ hm
 obtain⟨l0,w0⟩:∃l,kG W .u8 (.slice a0 z4H cap0) l:=zgj Tryz.underlying38 Tryz.underlying5 (by kernel_rfl) h0
 obtain⟨a1,rfl,rfl,rfl,w1⟩:=open_int Tryz.underlying5 (hval 1 5 v1 rfl rfl) h1
 obtain⟨a2,len2,cap2,rfl⟩:=okWide_slice Tryz.underlying38 (hval 2 38 v2 rfl rfl)
 have k2:=h2
 have lt2:∀x∈p2,x.block<W.heap.size:=by obtain⟨m,hm⟩:=k2;exact DataW.trod_lt m _ _ _ hm
 obtain⟨l2,w2⟩:∃l,kG W .u8 (.slice a2 len2 cap2) l:=zgj Tryz.underlying38 Tryz.underlying5 (by kernel_rfl) h2
 obtain⟨a3,rfl,rfl,rfl,w3⟩:=open_int Tryz.underlying5 (hval 3 5 v3 rfl rfl) h3
 have k4:=h4
 have lt4:∀x∈p4,x.block<W.heap.size:=by obtain⟨m,hm⟩:=k4;exact DataW.trod_lt m _ _ _ hm
 obtain⟨x4,rfl⟩:=zrt (hval 4 32 v4 rfl rfl) h4
 clear hA0 hval0
 refine(zh4 W _ l0 w0 a1 (zjZ w1).1 (zjZ w1).2 _ l2 w2 a3 (zjZ w3).1 (zjZ w3).2 x4).mono λe W' ⟨he,bel⟩=> ?_
 subst he
 exact⟨_,rfl,_,_,_, [],_, [],hW',trodAll_mk1 (shut_bool Tryz.underlying4 _),(trodAll_cons_mk (Below.trod zgE (by kernel_rfl) (of_decide_eq_true (by kernel_rfl)) k0 bel lt0) (trodAll_cons_mk (shut_int Tryz.underlying5 w1) (trodAll_cons_mk (Below.trod zgE (by kernel_rfl) (of_decide_eq_true (by kernel_rfl)) k2 bel lt2) (trodAll_cons_mk (shut_int Tryz.underlying5 w3) (trodAll_cons_mk (Below.trod zgE (by kernel_rfl) (of_decide_eq_true (by kernel_rfl)) k4 bel lt4) trodAll_mk0))))),rfl,bel.frame _,λh=>by cases h⟩
theorem over:Rows.spaceReplayRow.holds Tryz.pinned (OpenSpec.ofChange Rows.spaceReplaySpec):=
 OpenClaim.holds_of_wide 10 Tryz.f10 rfl rfl rfl rfl rfl rfl rfl ⟨rfl,rfl,rfl,rfl,rfl⟩ rfl rfl rfl rfl rfl (by kernel_rfl) Tryz.func10 (by kernel_rfl)
  (of_decide_eq_true (by kernel_rfl)) (by unfold Func.isWrapper;first|(rw [if_pos (by decide+kernel)];kernel_rfl)|(rw [if_neg (by decide+kernel)];exact⟨rfl,rfl⟩))
  (λos started H enc _=>lifted os started H enc)
end Go.Proofs.YtliajkheeniljaaGreatDoor.spaceReplay
namespace Go.Proofs.YtliajkheeniljaaGreatDoor
theorem spaceReplay_holds:Rows.SpaceReplayCardSaid:=
 Claim7.holds_tied_plain_at .later [] [.data, .data, .data] true (true, "d892adb1179e054dd6d5c063c2c1112e759161ef003ce4a6f8a1d939f97b1849") false spaceReplay.over (λ_ h=>by cases h) (by kernel_rfl) (λ_ h=>by cases h) spaceReplay_row_tie rfl ⟨rfl,rfl⟩ (by kernel_rfl) rfl
  (λf fn hf hfn=>by
   obtain rfl:10=f:=Option.some.inj ((show Tryz.prog.funcNamed "gablet/gabletlaw10.SpaceReplay" =some 10 by kernel_rfl).symm.trans hf)
   obtain rfl:Tryz.f10=fn:=Option.some.inj (Tryz.func10.symm.trans hfn)
   exact⟨by kernel_rfl,zoF (by kernel_rfl)⟩)
  (by kernel_rfl)
#print axioms spaceReplay_holds
