/- RunTurned: a run falsifies just one of a formula and Not of it; who stays is fair: for every input. -/
import Derived.Test.YtmijlmglnnbdjaaGreatDoorCards
import Derived.Test.YtmijlmglnnbdjaaGreatDoorUtAwake17
set_option linter.all false
namespace Go.Proofs.YtmijlmglnnbdjaaGreatDoor.runTurned
open Go.ChangeShapes Go.WideShapes Go.ChangeAt Go.RowKit
set_option maxRecDepth 100000
set_option maxHeartbeats 16000000
open Go.ChangeMaps (open_string shut_string)
theorem lifted (os:Os) (d:os.Started) (H:Type) (enc:TypeId × Value->H):
  ReturnsInHanded {} Tryz.checked os 5 .any (λw b=>(Rows.runTurnedSpec.pre enc Tryz.prog Tryz.f5 Rows.runTurnedRow.domain false w b/\laidMet Tryz.prog Rows.runTurnedRow.laid w)/\sizedMet enc Tryz.prog Tryz.f5 (OpenSpec.ofChange Rows.runTurnedSpec) false w b)
   (Rows.runTurnedSpec.post enc Tryz.prog Tryz.f5 false true false false):=by
 refine returnsInHanded_of_change_and (C:=Tryz.checked) (X:=λw _=>laidMet Tryz.prog Rows.runTurnedRow.laid w) (λ_ _ _ hh h=>h.of_heap hh) z9R d (by kernel_rfl) Tryz.func5
  (ChangeSpec.witness_at (enc:=enc) (C:=Tryz.checked) (os:=os) (X:=λw _=>laidMet Tryz.prog Rows.runTurnedRow.laid w) false (zi6 os) #[N7, .int .u8 0,N7,N7] 8 rfl (by kernel_rfl) (by kernel_rfl) (by kernel_rfl) (by kernel_rfl) (by kernel_rfl) (zs8 os _)) ?_
 intro W base b ds gs u f T B i _ _;clear B;have c:∀(j:Nat) t v,Tryz.f5.params[j]? =some t->b[j]? =some v->Value.okWide Tryz.prog W .any base t v:=f;have I:=T;obtain⟨p,q,n,hV,rfl,hfz,hnd⟩:=T;have U:DataW.TrodAll enc Tryz.prog W 0 (λ_=>true) true Tryz.f5.params.toList b.toList ds p:=n;rw [Tryz.params5] at U c;obtain⟨O,vs0,d0,ds0,p0,q0,G,rfl,rfl,Z,r0⟩:=trodAll_cons U;obtain⟨N,vs1,d1,ds1,p1,q1,rfl,rfl,rfl,h1,r1⟩:=trodAll_cons r0;obtain⟨M,vs2,d2,ds2,p2,q2,rfl,rfl,rfl,Y,r2⟩:=trodAll_cons r1;obtain⟨L,s,d3,ds3,p3,q3,rfl,rfl,rfl,V,r3⟩:=trodAll_cons r2;obtain⟨rfl,rfl,rfl⟩:=trodAll_nil r3
 obtain rfl:b= #[O,N,M,L] :=by cases b;simp_all
 obtain⟨rfl,rfl⟩:=trodVars_none hV;clear i;obtain⟨a0,A,r,rfl⟩:=okWide_slice Tryz.underlying22 (c 0 22 O rfl rfl);have S:=Z;have F:∀x∈p0,x.block<W.heap.size:=by obtain⟨m,k⟩:=S;exact DataW.trod_lt m _ _ _ k
 obtain⟨l0,a⟩:∃l,vL W .u8 (.slice a0 A r) l:=zdY Tryz.underlying22 Tryz.underlying5 (by kernel_rfl) Z;obtain⟨a1,rfl,rfl,rfl,J⟩:=open_int Tryz.underlying5 (c 1 5 N rfl rfl) h1;obtain⟨a2,g,o,rfl⟩:=okWide_slice Tryz.underlying22 (c 2 22 M rfl rfl);have R:=Y;have E:∀x∈p2,x.block<W.heap.size:=by obtain⟨m,k⟩:=R;exact DataW.trod_lt m _ _ _ k
 obtain⟨l2,Q⟩:∃l,vL W .u8 (.slice a2 g o) l:=zdY Tryz.underlying22 Tryz.underlying5 (by kernel_rfl) Y;obtain⟨a3,z,y,rfl⟩:=okWide_slice Tryz.underlying22 (c 3 22 L rfl rfl);have P:=V;have D:∀x∈p3,x.block<W.heap.size:=by obtain⟨m,k⟩:=P;exact DataW.trod_lt m _ _ _ k
 obtain⟨l3,K⟩:∃l,vL W .u8 (.slice a3 z y) l:=zdY Tryz.underlying22 Tryz.underlying5 (by kernel_rfl) V;clear n f;refine(zl2 W _ l0 a a1 J _ l2 Q _ l3 K).mono λe W' ⟨he,bel⟩=> ?_
 subst he;exact⟨_,rfl,_,_,_, [],_, [],I,trodAll_mk1 (shut_bool Tryz.underlying4 _),(trodAll_cons_mk (Below.trod zhP (by kernel_rfl) (of_decide_eq_true (by kernel_rfl)) S bel F) (trodAll_cons_mk (shut_int Tryz.underlying5 J) (trodAll_cons_mk (Below.trod zhP (by kernel_rfl) (of_decide_eq_true (by kernel_rfl)) R bel E) (trodAll_cons_mk (Below.trod zhP (by kernel_rfl) (of_decide_eq_true (by kernel_rfl)) P bel D) trodAll_mk0)))),rfl,bel.frame _,λh=>by cases h⟩
theorem over:Rows.runTurnedRow.holds Tryz.pinned (OpenSpec.ofChange Rows.runTurnedSpec):=
 OpenClaim.holds_of_wide 5 Tryz.f5 rfl rfl rfl rfl rfl rfl rfl ⟨rfl,rfl,rfl,rfl,rfl⟩ rfl rfl rfl rfl rfl (by kernel_rfl) Tryz.func5 (by kernel_rfl)
  (of_decide_eq_true (by kernel_rfl)) (by unfold Func.isWrapper;first|(rw [if_pos (by decide+kernel)];kernel_rfl)|(rw [if_neg (by decide+kernel)];exact⟨rfl,rfl⟩))
  (λos b H enc _=>lifted os b H enc)
end Go.Proofs.YtmijlmglnnbdjaaGreatDoor.runTurned
namespace Go.Proofs.YtmijlmglnnbdjaaGreatDoor
theorem runTurned_holds:Rows.RunTurnedCardSaid:=
 Claim7.holds_tied_plain_at .later [] [.data, .data, .data] true (true, "ba6d5afae969b1ba6e8dab1f90a453da4ed31621b3bee617ee8e666404cd1e90") false runTurned.over (λ_ h=>by cases h) (by kernel_rfl) (λ_ h=>by cases h) runTurned_row_tie rfl ⟨rfl,rfl⟩ (by kernel_rfl) rfl
  (λf d c b=>by
   obtain rfl:5=f:=Option.some.inj ((show Tryz.prog.funcNamed "gablet/gabletlaw17.RunTurned" =some 5 by kernel_rfl).symm.trans c);obtain rfl:Tryz.f5=d:=Option.some.inj (Tryz.func5.symm.trans b);exact⟨by kernel_rfl,zqc (by kernel_rfl)⟩)
  (by kernel_rfl)
#print axioms runTurned_holds
