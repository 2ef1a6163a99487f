/- Steps. -/
import Derived.Test.YtnhahkiojbanfaaGreatDoorRyOpenF
import Derived.Test.YtnhahkiojbanfaaGreatDoorRyRobustOdd
set_option linter.all false
namespace Go.Proofs.YtnhahkiojbanfaaGreatDoor.robustOdd
open Go.ChangeShapes Go.WideShapes Go.ChangeAt Go.RowKit
set_option maxRecDepth 100000
set_option maxHeartbeats 16000000
open Go.ChangeMaps (open_string shut_string)
theorem lifted (os:Os) (started:os.Started) (H:Type) (enc:TypeId × Value->H):
  ReturnsInHanded {} Tryz.checked os 4 .any (λw args=>(Rows.robustOddSpec.pre enc Tryz.prog Tryz.f4 Rows.robustOddRow.domain false w args/\laidMet Tryz.prog Rows.robustOddRow.laid w)/\sizedMet enc Tryz.prog Tryz.f4 (OpenSpec.ofChange Rows.robustOddSpec) false w args)
   (Rows.robustOddSpec.post enc Tryz.prog Tryz.f4 false true false false):=by
 refine returnsInHanded_of_change_and (C:=Tryz.checked) (X:=λw _=>laidMet Tryz.prog Rows.robustOddRow.laid w) (λ_ _ _ hh h=>h.of_heap hh) zzC started (by kernel_rfl) Tryz.func4
  (ChangeSpec.witness_at (enc:=enc) (C:=Tryz.checked) (os:=os) (X:=λw _=>laidMet Tryz.prog Rows.robustOddRow.laid w) false (zeo os) #[.slice none 0 0, .agg #[.int .i64 0, .int .i64 0], .int .i64 0, .int .i64 0] 8 rfl (by kernel_rfl) (by kernel_rfl) (by kernel_rfl) (by kernel_rfl) (by kernel_rfl) (zjV os _)) ?_
 intro W base args ds gs before hval0 hW zp5 hsz0 _ _
 clear zp5
 have hval:∀(j:Nat) t v,Tryz.f4.params[j]? =some t->args[j]? =some v->Value.okWide Tryz.prog W .any base t v:=hval0
 have hW':=hW
 obtain⟨p,q,hA0,hV,rfl,hfz,hnd⟩:=hW
 have hA:DataW.TrodAll enc Tryz.prog W 0 (λ_=>true) true Tryz.f4.params.toList args.toList ds p:=hA0
 rw [Tryz.params4] at hA hval
 obtain⟨v0,vs0,d0,ds0,p0,q0,hargs,rfl,rfl,h0,r0⟩:=trodAll_cons hA
 obtain⟨v1,vs1,d1,ds1,p1,q1,rfl,rfl,rfl,h1,r1⟩:=trodAll_cons r0
 obtain⟨v2,vs2,d2,ds2,p2,q2,rfl,rfl,rfl,h2,r2⟩:=trodAll_cons r1
 obtain⟨v3,vs3,d3,ds3,p3,q3,rfl,rfl,rfl,h3,r3⟩:=trodAll_cons r2
 obtain⟨rfl,rfl,rfl⟩:=trodAll_nil r3
 obtain rfl:args= #[v0,v1,v2,v3] :=by cases args;simp_all
 obtain⟨rfl,rfl⟩:=trodVars_none hV
 clear hsz0
 obtain⟨a0,zlW,cap0,rfl⟩:=okWide_slice Tryz.underlying22 (hval 0 22 v0 rfl rfl)
 have k0:=h0
 have lt0:∀x∈p0,x.block<W.heap.size:=by obtain⟨m,hm⟩:=k0;exact DataW.trod_lt m _ _ _ hm
 obtain⟨l0,w0⟩:∃l,jv W .u8 (.slice a0 zlW cap0) l:=zg4 Tryz.underlying22 Tryz.underlying5 (by kernel_rfl) h0
 have hc0:∀a n c,Value.slice a0 zlW cap0= .slice a n c->n<=c:=λa n c e=>by cases e;exact zlG Tryz.underlying22 Tryz.underlying5 (by kernel_rfl) h0
 have k1:=h1
 have lt1:∀x∈p1,x.block<W.heap.size:=by obtain⟨m,hm⟩:=k1;exact DataW.trod_lt m _ _ _ hm
 obtain⟨x1,rfl⟩:=zrF (hval 1 29 v1 rfl rfl) h1
 obtain⟨a2,rfl,rfl,rfl,w2⟩:=open_int Tryz.underlying3 (hval 2 3 v2 rfl rfl) h2
 obtain⟨a3,rfl,rfl,rfl,w3⟩:=open_int Tryz.underlying3 (hval 3 3 v3 rfl rfl) h3
 clear hA0 hval0
 refine(zk9 W _ l0 w0 hc0 x1 a2 a3).mono λe W' ⟨he,bel⟩=> ?_
 subst he
 exact⟨_,rfl,_,_,_, [],_, [],hW',trodAll_mk1 (shut_bool Tryz.underlying4 _),(trodAll_cons_mk (Below.trod zhe (by kernel_rfl) (of_decide_eq_true (by kernel_rfl)) k0 bel lt0) (trodAll_cons_mk (Below.trod zhe (by kernel_rfl) (of_decide_eq_true (by kernel_rfl)) k1 bel lt1) (trodAll_cons_mk (shut_int Tryz.underlying3 w2) (trodAll_cons_mk (shut_int Tryz.underlying3 w3) trodAll_mk0)))),rfl,bel.frame _,λh=>by cases h⟩
theorem over:Rows.robustOddRow.holds Tryz.pinned (OpenSpec.ofChange Rows.robustOddSpec):=
 OpenClaim.holds_of_wide 4 Tryz.f4 rfl rfl rfl rfl rfl rfl rfl ⟨rfl,rfl,rfl,rfl,rfl⟩ rfl rfl rfl rfl rfl (by kernel_rfl) Tryz.func4 (by kernel_rfl)
  (of_decide_eq_true (by kernel_rfl)) (by unfold Func.isWrapper;first|(rw [if_pos (by decide+kernel)];kernel_rfl)|(rw [if_neg (by decide+kernel)];exact⟨rfl,rfl⟩))
  (λos started H enc _=>lifted os started H enc)
end Go.Proofs.YtnhahkiojbanfaaGreatDoor.robustOdd
namespace Go.Proofs.YtnhahkiojbanfaaGreatDoor
theorem zir:Rows.RobustOddCardSaid:=
 Claim7.holds_tied_plain_at .later [] [.data, .data, .data] true (true, "b0afe261d4580aba95b75c68891bb52daf3ce1eff83e1798479d97d6abc33b28") false robustOdd.over (λ_ h=>by cases h) (by kernel_rfl) (λ_ h=>by cases h) robustOdd_row_tie rfl ⟨rfl,rfl⟩ (by kernel_rfl) rfl
  (λf fn hf hfn=>by
   obtain rfl:4=f:=Option.some.inj ((show Tryz.prog.funcNamed "gablet/gabletlaw19.RobustOdd" =some 4 by kernel_rfl).symm.trans hf)
   obtain rfl:Tryz.f4=fn:=Option.some.inj (Tryz.func4.symm.trans hfn)
   exact⟨by kernel_rfl,zii (by kernel_rfl)⟩)
  (by kernel_rfl)
