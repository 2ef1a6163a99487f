/- Steps. -/
import Derived.Lib.SmallJoins
import Derived.Test.YtnhahkiojbanfaaGreatDoorCards
import Derived.Test.YtnhahkiojbanfaaGreatDoorRyAwake19
set_option linter.all false
namespace Go.Proofs.YtnhahkiojbanfaaGreatDoor
open Go.RowKit Go.ChangeShapes Go.WideShapes Go.ChangeAt
set_option maxRecDepth 100000
set_option maxHeartbeats 16000000
theorem zlU {fs:Array Field} {i:Nat} {t:TypeId} {o:Nat} (h:(fs[i]?).map (λf=>(f.type,f.offset))=some (t,o)):∃f,fs[i]? =some f/\f.type=t/\f.offset=o:=by
 rw [Option.map_eq_some_iff] at h
 obtain⟨f,h1,h2⟩:=h
 exact⟨f,h1,(Prod.mk.inj h2).1,(Prod.mk.inj h2).2⟩
theorem zuq {α:Type} {l:List α} (h:l.length=2):∃a b,l= [a,b] :=by
 match l,h with
 | [a,b],_=>exact⟨a,b,rfl⟩
section
variable {H:Type} {enc:TypeId × Value->H} {w:World} {fuel:Nat} {x:DataW H × List MemPlace}
theorem zg3:Tryz.prog.cellsOf 3=1:=by kernel_rfl
theorem zok {cs:List Value} (h:DataW.trod enc Tryz.prog w 0 (λ_=>true) true fuel 3 cs=some x):∃q:Int,cs= [.int .i64 q] :=by
 obtain⟨q,hq, -, -⟩:=DataW.trod_int Tryz.underlying3 h
 exact⟨q,hq⟩
end
end Go.Proofs.YtnhahkiojbanfaaGreatDoor
namespace Go.Proofs.YtnhahkiojbanfaaGreatDoor
open Go.RowKit Go.ChangeShapes Go.WideShapes Go.ChangeAt
set_option maxRecDepth 100000
set_option maxHeartbeats 16000000
section
variable {H:Type} {enc:TypeId × Value->H} {w:World} {fuel:Nat} {x:DataW H × List MemPlace}
end
theorem zih:Tryz.prog.underlying 29=some (.struct (Tryz.prog.fieldsOf 29)):=by kernel_rfl
theorem zlV:Tryz.prog.cellsOf 29=2:=by kernel_rfl
theorem zxO:(Tryz.prog.fieldsOf 29).size=2:=by kernel_rfl
theorem zxP:((Tryz.prog.fieldsOf 29)[0]?).map (λf=>(f.type,f.offset))=some (3,0):=by kernel_rfl
theorem zxQ:((Tryz.prog.fieldsOf 29)[1]?).map (λf=>(f.type,f.offset))=some (3,1):=by kernel_rfl
theorem zrF {H:Type} {enc:TypeId × Value->H} {w:World} {b0:Nat} {v:Value} {d:DataW H} {p:List MemPlace} (hv:Value.okWide Tryz.prog w .any b0 29 v) (h:DataW.Trod enc Tryz.prog w 0 (λ_=>true) true 29 v d p):∃x,v=xO x:=by
 obtain⟨cs,rfl, -⟩:=okWide_struct zih hv
 obtain⟨fuel,hf⟩:=h
 obtain⟨cl,hcl⟩:∃cl,cl=(Value.agg cs).cells.toList:=⟨_,rfl⟩
 rw [<-hcl] at hf
 have h:=hf
 obtain⟨xs,n,hfu, -,hl,hxl,hg⟩:=DataW.trod_struct zih h
 rw [zxO] at hxl
 rw [zlV] at hl
 obtain⟨v0,v1,hcv⟩:=zuq hl
 subst hcv
 obtain⟨f0,g0,t0,o0⟩:=zlU zxP
 have h0:=hg 0 f0 g0
 rw [t0,o0,zg3,List.getElem?_eq_getElem (by omega)] at h0
 obtain⟨f1,g1,t1,o1⟩:=zlU zxQ
 have h1:=hg 1 f1 g1
 rw [t1,o1,zg3,List.getElem?_eq_getElem (by omega)] at h1
 simp only [List.drop_zero,List.drop_succ_cons,List.take_succ_cons,List.take_zero] at h0 h1
 obtain⟨q0,e0⟩:=zok h0
 simp only [List.cons.injEq,and_true] at e0
 subst e0
 obtain⟨q1,e1⟩:=zok h1
 simp only [List.cons.injEq,and_true] at e1
 subst e1
 have hcs:cs= #[.int .i64 q0, .int .i64 q1] :=by
  apply Array.toList_inj.1
  simpa [Value.cells] using hcl.symm
 exact⟨⟨q0,q1⟩,by rw [hcs];rfl⟩
end Go.Proofs.YtnhahkiojbanfaaGreatDoor
namespace Go.Proofs.YtnhahkiojbanfaaGreatDoor.robustMade
open Go.ChangeShapes Go.WideShapes Go.ChangeAt Go.RowKit
set_option maxRecDepth 100000
set_option maxHeartbeats 16000000
open Go.ChangeMaps (open_string shut_string)
theorem lifted (os:Os) (started:os.Started) (H:Type) (enc:TypeId × Value->H):
  ReturnsInHanded {} Tryz.checked os 3 .any (λw args=>(Rows.robustMadeSpec.pre enc Tryz.prog Tryz.f3 Rows.robustMadeRow.domain false w args/\laidMet Tryz.prog Rows.robustMadeRow.laid w)/\sizedMet enc Tryz.prog Tryz.f3 (OpenSpec.ofChange Rows.robustMadeSpec) false w args)
   (Rows.robustMadeSpec.post enc Tryz.prog Tryz.f3 false true false false):=by
 refine returnsInHanded_of_change_and (C:=Tryz.checked) (X:=λw _=>laidMet Tryz.prog Rows.robustMadeRow.laid w) (λ_ _ _ hh h=>h.of_heap hh) zzC started (by kernel_rfl) Tryz.func3
  (ChangeSpec.witness_at (enc:=enc) (C:=Tryz.checked) (os:=os) (X:=λw _=>laidMet Tryz.prog Rows.robustMadeRow.laid w) false (zeo os) #[.slice none 0 0, .int .u8 0, .int .u16 0] 8 rfl (by kernel_rfl) (by kernel_rfl) (by kernel_rfl) (by kernel_rfl) (by kernel_rfl) (zjV os _)) ?_
 intro W base args ds gs before hval0 hW zp5 hsz0 _ _
 clear zp5
 have hval:∀(j:Nat) t v,Tryz.f3.params[j]? =some t->args[j]? =some v->Value.okWide Tryz.prog W .any base t v:=hval0
 have hW':=hW
 obtain⟨p,q,hA0,hV,rfl,hfz,hnd⟩:=hW
 have hA:DataW.TrodAll enc Tryz.prog W 0 (λ_=>true) true Tryz.f3.params.toList args.toList ds p:=hA0
 rw [Tryz.params3] at hA hval
 obtain⟨v0,vs0,d0,ds0,p0,q0,hargs,rfl,rfl,h0,r0⟩:=trodAll_cons hA
 obtain⟨v1,vs1,d1,ds1,p1,q1,rfl,rfl,rfl,h1,r1⟩:=trodAll_cons r0
 obtain⟨v2,vs2,d2,ds2,p2,q2,rfl,rfl,rfl,h2,r2⟩:=trodAll_cons r1
 obtain⟨rfl,rfl,rfl⟩:=trodAll_nil r2
 obtain rfl:args= #[v0,v1,v2] :=by cases args;simp_all
 obtain⟨rfl,rfl⟩:=trodVars_none hV
 clear hsz0
 obtain⟨a0,zlW,cap0,rfl⟩:=okWide_slice Tryz.underlying22 (hval 0 22 v0 rfl rfl)
 have k0:=h0
 have lt0:∀x∈p0,x.block<W.heap.size:=by obtain⟨m,hm⟩:=k0;exact DataW.trod_lt m _ _ _ hm
 obtain⟨l0,w0⟩:∃l,jv W .u8 (.slice a0 zlW cap0) l:=zg4 Tryz.underlying22 Tryz.underlying5 (by kernel_rfl) h0
 have hc0:∀a n c,Value.slice a0 zlW cap0= .slice a n c->n<=c:=λa n c e=>by cases e;exact zlG Tryz.underlying22 Tryz.underlying5 (by kernel_rfl) h0
 obtain⟨a1,rfl,rfl,rfl,w1⟩:=open_int Tryz.underlying5 (hval 1 5 v1 rfl rfl) h1
 obtain⟨a2,rfl,rfl,rfl,w2⟩:=open_int Tryz.underlying23 (hval 2 23 v2 rfl rfl) h2
 clear hA0 hval0
 refine(zjv W _ l0 w0 hc0 a1 (zwN w1).1 (zwN w1).2 a2 (zrH w2).1 (zrH w2).2).mono λe W' ⟨he,bel⟩=> ?_
 subst he
 exact⟨_,rfl,_,_,_, [],_, [],hW',trodAll_mk1 (shut_bool Tryz.underlying4 _),(trodAll_cons_mk (Below.trod zhe (by kernel_rfl) (of_decide_eq_true (by kernel_rfl)) k0 bel lt0) (trodAll_cons_mk (shut_int Tryz.underlying5 w1) (trodAll_cons_mk (shut_int Tryz.underlying23 w2) trodAll_mk0))),rfl,bel.frame _,λh=>by cases h⟩
theorem over:Rows.robustMadeRow.holds Tryz.pinned (OpenSpec.ofChange Rows.robustMadeSpec):=
 OpenClaim.holds_of_wide 3 Tryz.f3 rfl rfl rfl rfl rfl rfl rfl ⟨rfl,rfl,rfl,rfl,rfl⟩ rfl rfl rfl rfl rfl (by kernel_rfl) Tryz.func3 (by kernel_rfl)
  (of_decide_eq_true (by kernel_rfl)) (by unfold Func.isWrapper;first|(rw [if_pos (by decide+kernel)];kernel_rfl)|(rw [if_neg (by decide+kernel)];exact⟨rfl,rfl⟩))
  (λos started H enc _=>lifted os started H enc)
end Go.Proofs.YtnhahkiojbanfaaGreatDoor.robustMade
namespace Go.Proofs.YtnhahkiojbanfaaGreatDoor
theorem zhf:Rows.RobustMadeCardSaid:=
 Claim7.holds_tied_plain_at .later [] [.data, .data, .data] true (true, "b0afe261d4580aba95b75c68891bb52daf3ce1eff83e1798479d97d6abc33b28") false robustMade.over (λ_ h=>by cases h) (by kernel_rfl) (λ_ h=>by cases h) robustMade_row_tie rfl ⟨rfl,rfl⟩ (by kernel_rfl) rfl
  (λf fn hf hfn=>by
   obtain rfl:3=f:=Option.some.inj ((show Tryz.prog.funcNamed "gablet/gabletlaw19.RobustMade" =some 3 by kernel_rfl).symm.trans hf)
   obtain rfl:Tryz.f3=fn:=Option.some.inj (Tryz.func3.symm.trans hfn)
   exact⟨by kernel_rfl,zii (by kernel_rfl)⟩)
  (by kernel_rfl)
