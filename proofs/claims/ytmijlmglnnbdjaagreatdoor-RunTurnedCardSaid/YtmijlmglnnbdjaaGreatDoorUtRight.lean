/- Steps. -/
import Derived.Test.YtmijlmglnnbdjaaGreatDoorUtLogic
set_option linter.all false
namespace Go.Proofs.YtmijlmglnnbdjaaGreatDoor
open Go.RowKit
set_option maxRecDepth 100000
set_option maxHeartbeats 16000000
def jM (k:Int):Option Nat:=if k=1\/k=2 then some 0 else if k=4\/k=8\/k=11\/k=12 then some 1 else if k=5\/k=6\/k=7\/k=9\/k=10 then some 2 else none
mutual
def Form.okD:Form->Nat->Bool
 | .mk k p kids,deep=>decide (1<=deep) && (if k=3 then kU p && decide (kids.length=0) else match jM k with
  |some n=>decide (p=⟨0,0,0,0⟩) && decide (kids.length=n) && bL kids (deep - 1)
  |none=>false)
def bL:List Form->Nat->Bool
 | [],_=>true
 |f::l,deep=>f.okD deep && bL l deep
end
theorem zso {k:Int} {n:Nat} (h:jM k=some n):∃s,kF zdq k=some (fm s n):=by
 unfold jM at h;split at h
 ·rename_i h1;cases h;rcases h1 with rfl|rfl<;>exact⟨_,rfl⟩
 split at h
 ·rename_i h1;cases h;rcases h1 with rfl|rfl|rfl|rfl<;>exact⟨_,rfl⟩
 split at h
 ·rename_i h1;cases h;rcases h1 with rfl|rfl|rfl|rfl|rfl<;>exact⟨_,rfl⟩
 cases h
theorem zsp {k:Int} (h:jM k=none):kF zdq k=none:=by
 unfold jM at h;split at h
 ·cases h
 split at h
 ·cases h
 split at h
 ·cases h
 rename_i h1 h2 h3
 have e:∀j:Int,(j=1\/j=2)\/(j=4\/j=8\/j=11\/j=12)\/(j=5\/j=6\/j=7\/j=9\/j=10)->¬j=k:=by
  rintro j b rfl;rcases b with b|b|b
  ·exact h1 b
  ·exact h2 b
  exact h3 b
 simp [zdq,kF,e]
structure jN (w:World) (cb:Nat) (many:Nat) (fb:Nat):Prop where
 block:w.heap[cb]? =some (.cells #[I4 many, .map (some fb)] 133 (0,0))
 forms:qN w fb zdq
 ne:fb≠cb
def zfC (cb fb many:Nat) (f:Form) (deep:Nat) (w:World) (e:Ending) (w':World):Prop:=
 ∃(r:Bool) (many':Nat),e= .returned (.bool r)/\jN w' cb many' fb/\Since (λk=>k=cb) w w'/\(r=true↔f.okD deep=true/\many+f.size<=200)/\(r=true->many'=many+f.size)
theorem zvA (w:World):(zeroValue 172).run Tryz.prog w= .ok (.agg #[.string ByteArray.empty,I4 0]) w:=by kernel_rfl
theorem zyI (l:List Form) (b i:Nat) (h:i<l.length):bL (l.take (i+1)) b=(bL (l.take i) b && (l.getD i default).okD b):=by
 induction l generalizing i with
 |nil=>simp at h
 |cons f l ih=>cases i with
  |zero=>simp [bL]
  |succ i=>simp only [List.take_succ_cons,bL];rw [ih i (by simpa using h),Bool.and_assoc];simp
theorem zpF (l:List Form) (b i:Nat) (h:i<l.length) (c:bL l b=true):(l.getD i default).okD b=true:=by
 induction l generalizing i with
 |nil=>simp at h
 |cons f l ih=>cases i with
  |zero=>simp [bL] at c;simpa using c.1
  |succ i=>simp [bL] at c;simpa using ih i (by simpa using h) c.2
def zpV (d:Nat):Prop:=∀(w:World) (f:Form) (kv:Value) (deep many cb fb B:Nat),uO B w d f kv->B<=cb->jN w cb many fb->many<=200->deep<=20->
  Calls Tryz.prog 71 #[.pointer (some ⟨cb,0,none⟩),vI f kv,I4 deep] w (zfC cb fb many f deep w)
theorem zyJ (d:Nat) (I:zpV d) (w:World) (f:Form) (kv:Value) (c g l x B s y:Nat) (h:uO B w d f kv) (v:B<=l) (m:jN w l g x) (P:g<=200) (R:1<=c) (U:c<=20)
  (F:w.cell? ⟨s,0,none⟩=some (.pointer (some ⟨l,0,none⟩))) (D:w.cell? ⟨y,0,none⟩=some (I4 c)):
  Calls Tryz.prog 101 #[vI f kv, .pointer (some ⟨s,0,none⟩), .pointer (some ⟨y,0,none⟩)] w λe H=>
   ∃(r:Bool) (b:Nat),e= .returned (.bool (!r))/\jN H l b x/\Since (λk=>k=l) w H/\(r=true↔f.okD (c - 1)=true/\g+f.size<=200)/\(r=true->b=g+f.size):=by
 obtain⟨ka,kc,rfl,z⟩:=h.slice;obtain⟨k,⟨u,t,q,n⟩,kids⟩:=f;simp only [Form.kids] at z ⊢;have j:Below w.heap.size w (w.alloc (.cells #[I4 k,I4 u,I4 t,I4 q,I4 n, .slice ka kids.length kc] 38)):=(Below.refl _ _).alloc (Nat.le_refl _) _;have A:B<=w.heap.size:=Nat.le_trans v (Nat.le_of_lt (zA m.block))
 have i:=I (w.alloc (.cells #[I4 k,I4 u,I4 t,I4 q,I4 n, .slice ka kids.length kc] 38)) _ _ (c - 1) g l x B (h.below (j.mono A)) v
  ⟨(j.block _ (zA m.block)).trans m.block,m.forms.below j,m.ne⟩ P (by omega)
 have E:=(j.cell (p:=⟨s,0,none⟩) (World.block_lt_of_cell? _ _ F)).trans F;have C:=(j.cell (p:=⟨y,0,none⟩) (World.block_lt_of_cell? _ _ D)).trans D;unfold vI at i ⊢;simp only [Form.kind,Form.prop,Form.kids] at i ⊢;rw [show((c - 1:Nat):Int)=(c:Int) - 1 from by omega] at i;have O:=qh i;have S:=qh (xW (λk=>k=l) j);clear i I m j h;go_enter Tryz.func101,Tryz.ntmps101
 go_wp2_with fail
 refine O.o.mono ?_
 rintro e G ⟨r,b,rfl,N,M,L,J⟩
 have T:J2 (jN G l b x/\Since (λk=>k=l) w G/\(r=true↔(Form.mk k ⟨u,t,q,n⟩ kids).okD (c - 1)=true/\g+(Form.mk k ⟨u,t,q,n⟩ kids).size<=200)/\(r=true->b=g+(Form.mk k ⟨u,t,q,n⟩ kids).size)):=
  ⟨N,S.o.trans M (λ_ h=> .inl h),L,J⟩
 clear N M L J O F D E C;go_wp2
 go_ret;exact⟨r,b,rfl,T.o⟩
theorem zvB (d:Nat):zpV d:=by
 induction d with
 |zero=>exact λw f kv l c m J B h=>h.elim
 |succ d ih=>
 intro w f kv l c m J B h hBc hc hm hdp;obtain⟨ka,kc,rfl,hkl⟩:=h.slice;obtain⟨k,⟨C,A,z,y⟩,kids⟩:=f;simp only [Form.kids] at hkl ⊢;unfold vI;simp only [Form.kind,Form.prop];have hcb:=zA hc.block
 have hB3:Below w.heap.size w (((w.alloc (.cells #[.pointer (some ⟨m,0,none⟩)] 129)).alloc (.cells #[I4 k,I4 C,I4 A,I4 z,I4 y, .slice ka kids.length kc] 38)).alloc (.cells #[I4 l] 3)):=
  (((Below.refl _ _).alloc (Nat.le_refl _) _).alloc (by simp) _).alloc (by simp;omega) _
 have hb0:=zQ w (.cells #[.pointer (some ⟨m,0,none⟩)] 129);have U:=zQ (w.alloc (.cells #[.pointer (some ⟨m,0,none⟩)] 129)) (.cells #[I4 k,I4 C,I4 A,I4 z,I4 y, .slice ka kids.length kc] 38);have D:=zQ ((w.alloc (.cells #[.pointer (some ⟨m,0,none⟩)] 129)).alloc (.cells #[I4 k,I4 C,I4 A,I4 z,I4 y, .slice ka kids.length kc] 38)) (.cells #[I4 l] 3);replace hb0:=((Below.heap_alloc _ (.cells #[I4 l] 3) _ (by simp;omega)).trans (Below.heap_alloc _ (.cells #[I4 k,I4 C,I4 A,I4 z,I4 y, .slice ka kids.length kc] 38) _ (by simp))).trans hb0
 replace U:=(Below.heap_alloc _ (.cells #[I4 l] 3) _ (by simp)).trans U;simp only [World.size_alloc] at U D;have O:(((w.alloc (.cells #[.pointer (some ⟨m,0,none⟩)] 129)).alloc (.cells #[I4 k,I4 C,I4 A,I4 z,I4 y, .slice ka kids.length kc] 38)).alloc (.cells #[I4 l] 3)).heap.size=w.heap.size+3:=by simp
 have HB0:=qh hb0;have HB1:=qh U;have HB2:=qh D;have HB3:=qh hB3;have uh:=qh O;clear hb0 U D hB3 O;go_enter Tryz.func71,Tryz.ntmps71
 go_upto_region 1 with fail
 generalize hW:World.alloc _ _=W at HB0 HB1 HB2 HB3 uh ⊢;clear hW;have hs0:W.cell? ⟨w.heap.size,0,none⟩=some (.pointer (some ⟨m,0,none⟩)):=ze HB0.o 0;have hcW:=(HB3.o.block m hcb).trans hc.block;have hm0:W.cell? ⟨m,0,none⟩=some (I4 c):=ze hcW 0;have hmf:W.frozen? ⟨m,0,none⟩=false:=zH hcW 0;have HCW:=qh hcW;clear hcW;go_upto_region 2 with fail
 have R:=zu HCW.o 0 (I4 ((c:Int)+1));have u:∀x,x≠m->(W.setCell ⟨m,0,none⟩ (I4 ((c:Int)+1))).heap[x]? =W.heap[x]? :=λx hx=>Below.heap_setCell _ _ _ _ hx;have N:(W.setCell ⟨m,0,none⟩ (I4 ((c:Int)+1))).heap.size=W.heap.size:=by simp [World.setCell]
 have hSi:Since (λk=>k=m) w (W.setCell ⟨m,0,none⟩ (I4 ((c:Int)+1))):=Since.setCell (F:=λk=>k=m) (p:=⟨m,0,none⟩) (xW _ HB3.o) (.inl rfl) _;generalize hW:World.setCell W _ _=V at R u N hSi ⊢;clear hW;have hne0:w.heap.size≠m:=by omega
 have hck:jN V m (c+1) J:=⟨by simpa using R,hc.forms.since hSi hc.ne,hc.ne⟩;have G:=qh hck;have HSI:=qh hSi;have HV0:J2 (V.heap[w.heap.size]? =_):=(u _ hne0).trans HB0.o;have I:J2 (V.heap[w.heap.size+1]? =_):=(u _ (by omega)).trans HB1.o;have HV2:J2 (V.heap[w.heap.size+1+1]? =_):=(u _ (by omega)).trans HB2.o;have hsv:w.heap.size+3=V.heap.size:=by rw [N,uh.o]
 have HSV:=qh hsv;clear R u N hSi hck hs0 hm0 hmf hsv HB0 HB1 HB2 HB3 HCW uh;have Q:V.cell? ⟨w.heap.size,0,none⟩=some (.pointer (some ⟨m,0,none⟩)):=ze HV0.o 0;have hm1:V.cell? ⟨m,0,none⟩=some (I4 ((c:Int)+1)):=by simpa using ze G.o.block 0
 have hv2:V.cell? ⟨w.heap.size+1+1,0,none⟩=some (I4 l):=ze HV2.o 0;by_cases zqa:200<c+1
 ·have zFa:(200:Int)<(c:Int)+1:=by omega
  go_wp2
  go_ret;refine⟨false,c+1,rfl,G.o,HSI.o, ?_,by simp⟩
  have:1<=(Form.mk k ⟨C,A,z,y⟩ kids).size:=by simp [Form.size]
  simp;intro _;omega
 by_cases hd1:l<1
 ·have zrv:(l:Int)<1:=by omega
  go_wp2
  go_ret;refine⟨false,c+1,rfl,G.o,HSI.o, ?_,by simp⟩
  have:¬1<=l:=by omega
  simp [Form.okD,this]
 have Z:V.cell? ⟨w.heap.size+1,0,none⟩=some (I4 k):=ze I.o 0;have zyK:V.cell? ⟨w.heap.size+1,1,none⟩=some (I4 C):=ze I.o 1;have zyL:V.cell? ⟨w.heap.size+1,2,none⟩=some (I4 A):=ze I.o 2;have zyM:V.cell? ⟨w.heap.size+1,3,none⟩=some (I4 z):=ze I.o 3;have zyN:V.cell? ⟨w.heap.size+1,4,none⟩=some (I4 y):=ze I.o 4;have Y:V.cell? ⟨w.heap.size+1,5,none⟩=some (.slice ka kids.length kc):=ze I.o 5;by_cases h3:k=3
 ·subst h3;have hpr:=zwr V ⟨C,A,z,y⟩;obtain⟨pr,zyO⟩:=qxE (kU ⟨C,A,z,y⟩);rw [<-zyO] at hpr;have HPR:=qh hpr;have HPD:=qh zyO;clear hpr zyO;go_wp2_with fail
  refine HPR.o.mono ?_
  rintro e V2 ⟨rfl,D⟩;have zxZ:V2.cell? ⟨w.heap.size+1,5,none⟩=some (.slice ka kids.length kc):=(D.cell (p:=⟨w.heap.size+1,5,none⟩) (zA I.o)).trans Y;have HC2:J2 (jN V2 m (c+1) J):=⟨(D.block _ (zA G.o.block)).trans G.o.block,G.o.forms.below D,G.o.ne⟩;have HS2:J2 (Since (λk=>k=m) w V2):=HSI.o.trans (xW (λ_=>False) D) (λ_ h=>h.elim);clear D Q hm1 hv2 Z zyK zyL zyM zyN Y
  have hend:∀r:Bool,r=(pr && decide (kids.length=0))->zfC m J c (.mk 3 ⟨C,A,z,y⟩ kids) l w (.returned (.bool r)) V2:=by
   intro r hr
   have K:(Form.mk 3 ⟨C,A,z,y⟩ kids).okD l=r:=by
    simp only [Form.okD,if_true];rw [hr,HPD.o];have:1<=l:=by omega
    simp [this]
   have P:r=true->(Form.mk 3 ⟨C,A,z,y⟩ kids).size=1:=by
    intro h;rw [hr,Bool.and_eq_true] at h;have:=of_decide_eq_true h.2
    have:kids= [] :=List.eq_nil_of_length_eq_zero this
    subst this;simp [Form.size,qE]
   refine⟨r,c+1,rfl,HC2.o,HS2.o, ?_,λh=>by rw [P h]⟩
   rw [K];exact⟨λh=>⟨h,by rw [P h];omega⟩,λh=>h.1⟩
  have HE:=qh hend;clear hend;cases pr
  ·go_wp2
   go_ret;exact HE.o false rfl
  by_cases hk0:kids.length=0
  ·go_wp2
   go_ret;exact HE.o true (by simp [hk0])
  have hk0':((kids.length:Int)==0)=false:=by rw [beq_eq_false_iff_ne];omega
  go_wp2
  go_ret;exact HE.o false (by simp [hk0])
 have hk3:(k==3)=false:=by simpa using h3
 have hm2:V.cell? ⟨m,1,none⟩=some (.map (some J)):=ze G.o.block 1
 obtain⟨q,n,s,hkn,hfd⟩:∃(q:Bool) (n:Nat) (s:List UInt8),kF zdq k=(if q then some (fm s n) else none)/\(if q then jM k=some n else jM k=none/\n=0/\s= []):=by
  cases T:jM k with
  |none=>exact⟨false,0, [],by simpa using zsp T,by simp⟩
  |some n=>obtain⟨s,hs⟩:=zso T;exact⟨true,n,s,by simpa using hs,by simp⟩
 have S:∀W,qN W J zdq->(Instr.lookup 130 (.map (some J)) (I4 k) true).run Tryz.prog W= .ok (.tuple #[.agg #[.string ⟨s.toArray⟩,I4 n], .bool q]) W:=by
  intro W hW;rw [qm hW Tryz.underlying130 Tryz.underlying3 (zvA W) k true,hkn];cases q
  ·obtain⟨-,rfl,rfl⟩:=hfd;rfl
  rfl
 have hl1:=S V G.o.forms;have hl2:=λo=>S (V.alloc o) (G.o.forms.below ((Below.refl _ _).alloc (Nat.le_refl _) o));have hl3:=S V.drew G.o.forms;have hl4:=λo=>S (V.alloc o).drew (G.o.forms.below ((Below.refl _ _).alloc (Nat.le_refl _) o).drew);have hal:∀o a v,V.cell? a=some v->(V.alloc o).cell? a=some v:=λo a v h=>(Below.cell ((Below.refl _ _).alloc (Nat.le_refl _) o) (World.block_lt_of_cell? _ _ h)).trans h;have ha0:=λo=>hal o _ _ Q;have ha2:=λo=>hal o _ _ hm2;have zBM:=λo=>hal o _ _ Z;clear hal;have HFD:=qh hfd;clear S hkn hfd;go_wp2_with fail
 go_cut [7,8] (λs7 s8 wx=>∃g:Nat,s7= .pointer (some ⟨g,0,none⟩)/\s8= .bool q/\wx.cell? ⟨g,1,none⟩=some (I4 n)/\Below V.heap.size V wx)
 case first=>
  go_region
  all_goals
   go_wp2_with fail
   go_meet
   case rel=>exact⟨V.heap.size,rfl,rfl,ze (zQ V _) 1,((Below.refl _ _).alloc (Nat.le_refl _) _).drew⟩
 case rest=>
 obtain⟨g,rfl,rfl,hg,hB⟩:=hcut;have hx:∀a v,V.cell? a=some v->wc.cell? a=some v:=λa v h=>(hB.cell (World.block_lt_of_cell? _ _ h)).trans h;replace Z:=hx _ _ Z;replace zyK:=hx _ _ zyK;replace zyL:=hx _ _ zyL;replace zyM:=hx _ _ zyM;replace zyN:=hx _ _ zyN;replace Y:=hx _ _ Y;have HW0:=qh (hx _ _ Q);have HW2:=qh (hx _ _ hv2);have E:J2 (jN wc m (c+1) J):=⟨(hB.block _ (zA G.o.block)).trans G.o.block,G.o.forms.below hB,G.o.ne⟩;have M:J2 (Since (λk=>k=m) w wc):=HSI.o.trans (xW (λ_=>False) hB) (λ_ h=>h.elim);have HIH:=qh ih;have HFM:=qh h;have z6O:1<=l:=by omega
 have z03:∀W,jN W m (c+1) J->Since (λk=>k=m) w W->(Form.mk k ⟨C,A,z,y⟩ kids).okD l=false->zfC m J c (.mk k ⟨C,A,z,y⟩ kids) l w (.returned (.bool false)) W:=by
  intro W h1 h2 h3;exact⟨false,c+1,rfl,h1,h2,by rw [h3];simp,by simp⟩
 have HE0:=qh z03;clear hx Q hv2 hm1 hm2 hl1 hl2 hl3 hl4 ha0 ha2 zBM hB hc z03 ih h;cases q
 ·have hok:J2 ((Form.mk k ⟨C,A,z,y⟩ kids).okD l=false):=by
   obtain⟨h1, -, -⟩:=HFD.o;simp [J2,Form.okD,h3,h1]
  go_wp2
  go_ret;exact HE0.o _ E.o M.o hok.o
 have T:J2 (jM k=some n):=HFD.o
 have K:(Form.mk k ⟨C,A,z,y⟩ kids).okD l=(decide ((⟨C,A,z,y⟩:zF)=⟨0,0,0,0⟩) && decide (kids.length=n) && bL kids (l - 1)):=by
  simp only [Form.okD,if_neg h3,T.o,decide_eq_true z6O,Bool.true_and]
 have vP:=qh K;clear K T HFD;have hgd:=zeT;by_cases hpz:(⟨C,A,z,y⟩:zF)=⟨0,0,0,0⟩
 rotate_left
 ·have heq:=zex false (decide_eq_false hpz);have HPZ:=qh hpz;clear hpz;go_wp2
  go_ret;exact HE0.o _ E.o M.o (by rw [vP.o,decide_eq_false HPZ.o];simp)
 have heq:=zex true (decide_eq_true hpz);have HPZ:=qh hpz;clear hpz;by_cases hln:kids.length=n
 rotate_left
 ·have zBN:((kids.length:Int)==(n:Int))=false:=by rw [beq_eq_false_iff_ne];omega
  have qP:=qh hln;clear hln;go_wp2
  go_ret;exact HE0.o _ E.o M.o (by rw [vP.o];simp [qP.o])
 have zBN:((kids.length:Int)==(n:Int))=true:=by simp [hln]
 have qP:=qh hln;clear hln;go_wp2_with fail
 have hfn:∀X W,(callFunc 101 X).run Tryz.prog W= .ok (.enter 101 X) W:=λX W=>by go_simp
 obtain⟨a',cap',hae,hkn,hkc⟩:=HFM.o;have L:Below B w wc:=M.o.below (by have:=zA E.o.block;omega) (λk hk=>by omega)
 have hs3:w.heap.size+1+1<wc.heap.size:=World.block_lt_of_cell? _ _ HW2.o
 have H:∀i W,(jN W m (c+1+qE (kids.take i)) J/\c+1+qE (kids.take i)<=200/\bL (kids.take i) (l - 1)=true/\Since (λk=>k=m) wc W)->
   zeB (λf kv=>uO B w d f kv) W (.slice ka kids.length kc) kids:=by
  intro i W hI;refine⟨a',cap',hae,hkn,λj hj=> ?_⟩
  obtain⟨b,off,kv,e1,e2,e3,e4⟩:=hkc j hj;have hbw:Below B w W:=L.trans (hI.2.2.2.below (by have:=L.size;have:=zA E.o.block;omega) (λk hk=>by omega))
  refine⟨b,off,kv,e1,by have:=hbw.size;omega,λi hi=>(hbw.cell (p:=⟨b,off+j*6+i,none⟩) e2).trans (e3 i hi),e4⟩
 refine(zhe (λf kv=>uO B w d f kv) _ kids 101 #[] #[.pointer (some ⟨w.heap.size,0,none⟩), .pointer (some ⟨w.heap.size+1+1,0,none⟩)]
  (λi W=>jN W m (c+1+qE (kids.take i)) J/\c+1+qE (kids.take i)<=200/\bL (kids.take i) (l - 1)=true/\Since (λk=>k=m) wc W)
  (λ_ W=>∃t,jN W m t J/\Since (λk=>k=m) wc W/\¬(bL kids (l - 1)=true/\c+1+qE kids<=200)) hfn H ?_ wc ⟨by simpa [qE] using E.o,by simp [qE];omega,by simp [bL],Since.refl _ _⟩).mono ?_
 ·intro i W kv hi hI hR;obtain⟨h1,h2,h3',h4⟩:=hI;have hbw:Below B w W:=L.trans (h4.below (by have:=L.size;have:=zA E.o.block;omega) (λk hk=>by omega))
  have zGd:=zA E.o.block;have hW0:W.cell? ⟨w.heap.size,0,none⟩=some (.pointer (some ⟨m,0,none⟩)):=(h4.cell (p:=⟨w.heap.size,0,none⟩) (by simp;omega) (by simp;omega)).trans HW0.o
  have hW2:W.cell? ⟨w.heap.size+1+1,0,none⟩=some (I4 l):=(h4.cell (p:=⟨w.heap.size+1+1,0,none⟩) hs3 (by simp;omega)).trans HW2.o
  refine(zyJ d HIH.o W _ kv l _ m J B w.heap.size (w.heap.size+1+1) (hR.below hbw) hBc h1 h2 z6O hdp hW0 hW2).mono ?_
  rintro e W' ⟨r,t,rfl,g1,g2,g3,g4⟩;refine⟨!r,rfl,λhr=> ?_,λhr=> ?_⟩
  ·have hrf:r=false:=by simpa using hr
   refine⟨t,g1,h4.trans g2 (λ_ h=> .inl h), ?_⟩
   rintro⟨o1,o2⟩
   have:=g3.2 ⟨zpF kids _ i hi o1,by have:=gJ kids i hi;have:=zcD kids (i+1);omega⟩
   rw [hrf] at this;cases this
  have hrt:r=true:=by simpa using hr
  have hs:=gJ kids i hi;have hg:=g3.1 hrt;refine⟨?_,by omega,by rw [zyI kids _ i hi,h3',hg.1];rfl,h4.trans g2 (λ_ h=> .inl h)⟩
  have:=g4 hrt
  rw [hs, <-Nat.add_assoc, <-this];exact g1
 rintro e W (⟨i,hi,rfl,t,g1,g2,g3⟩|⟨rfl,g1,g2,g3,g4⟩)
 ·have qd:=qh g1;have HG2:J2 (Since (λk=>k=m) w W):=M.o.trans g2 (λ_ h=> .inl h);have kZ:=qh g3;clear g1 g2 g3 H hfn hkc L;go_wp2
  go_ret;refine⟨false,t,rfl,qd.o,HG2.o, ?_,by simp⟩
  rw [vP.o];simp only [Bool.false_eq_true,false_iff];rintro⟨o1,o2⟩
  rw [Bool.and_eq_true] at o1;exact kZ.o ⟨o1.2,by simp only [Form.size] at o2;omega⟩
 rw [List.take_length] at g1 g2 g3;have qd:=qh g1;have HG2:J2 (Since (λk=>k=m) w W):=M.o.trans g4 (λ_ h=> .inl h);have kZ:=qh g2;have kI:=qh g3;clear g1 g2 g3 g4 H hfn hkc L;go_wp2
 go_ret;have O:(Form.mk k ⟨C,A,z,y⟩ kids).size=1+qE kids:=by simp [Form.size]
 refine⟨true,c+1+qE kids,rfl,qd.o,HG2.o, ?_,λ_=>by rw [O];omega⟩
 rw [vP.o,kI.o,decide_eq_true HPZ.o,decide_eq_true qP.o,O];have:=kZ.o
 simp;omega
def Form.fits (f:Form):Bool:=f.okD 20 && decide (f.size<=200)
theorem ze9 (w:World) (d:Nat) (f:Form) (kv:Value) (h:xE w d f kv):
  Calls Tryz.prog 39 #[vI f kv] w λe t=>e= .returned (.bool f.fits)/\Below w.heap.size w t:=by
 obtain⟨ka,kc,rfl,B⟩:=h.slice
 have g:∀W m n,Below w.heap.size w W->w.heap.size<=n->jN W n 0 m->Calls Tryz.prog 71 #[.pointer (some ⟨n,0,none⟩),vI f (.slice ka f.kids.length kc),I4 20] W λe t=>e= .returned (.bool f.fits)/\Since (λk=>k=n) W t:=by
  intro W m n U D T;refine(zvB d W f _ 20 0 n m w.heap.size (h.bound.below U) D T (by omega) (by omega)).mono ?_
  rintro e t ⟨r,z,rfl, -,X,V, -⟩;refine⟨?_,X⟩
  have:r=f.fits:=by
   rw [Bool.eq_iff_iff,V,Form.fits,Bool.and_eq_true,decide_eq_true_iff];simp
  rw [this]
 have i:=qh g;obtain⟨k,⟨y,x,v,u⟩,kids⟩:=f;clear h g;simp only [Form.kids] at B ⊢;obtain⟨R,c⟩:=qxE ((Form.mk k ⟨y,x,v,u⟩ kids).fits);rw [<-c] at i ⊢;clear c;unfold vI at*;simp only [Form.kind,Form.prop,Form.kids] at i ⊢;go_enter Tryz.func39,Tryz.ntmps39
 go_wp2_with fail
 refine(zuf _).mono ?_
 rintro e p ⟨m,rfl,H,C,E⟩;have l:Below w.heap.size w p:=((Below.refl _ _).alloc (Nat.le_refl _) (.cells #[I4 k,I4 y,I4 x,I4 v,I4 u, .slice ka kids.length kc] 38)).trans (E.mono (by simp));have j:p.heap[w.heap.size]? =some (.cells #[I4 k,I4 y,I4 x,I4 v,I4 u, .slice ka kids.length kc] 38 (0,0)):=(E.block _ (by simp)).trans (zQ w _);have A:=l.size;have b:∀o,(p.alloc o).heap[w.heap.size]? =some (.cells #[I4 k,I4 y,I4 x,I4 v,I4 u, .slice ka kids.length kc] 38 (0,0)):=λo=>(Below.heap_alloc _ _ _ (zA j)).trans j;have O:=λo=>ze (b o) 0;have N:=λo=>ze (b o) 1;have M:=λo=>ze (b o) 2
 have L:=λo=>ze (b o) 3;have J:=λo=>ze (b o) 4;have I:=λo=>ze (b o) 5;simp only [List.getElem?_toArray,List.getElem?_cons_zero,List.getElem?_cons_succ] at O N M L J I;have P:=qh H;have q:=qh l;clear H l E j b C;go_wp2_with fail
 have S:=P.o.lt;refine(i.o _ m p.heap.size (q.o.alloc A _) A ⟨zQ p _,P.o.below ((Below.refl _ _).alloc (Nat.le_refl _) _),by omega⟩).mono ?_
 rintro e Y ⟨rfl,G⟩;have F:=qh ((q.o.alloc A (.cells #[I4 0, .map (some m)] 133)).trans (G.below (by simp;omega) (λk Z=>by omega)))
 clear G O N M L J I;go_wp2
 go_ret;exact⟨rfl,F.o⟩
def gN (k:Int):Int:=if k=1\/k=2\/k=3 then 0 else if k=4\/k=8\/k=11\/k=12 then 1 else if k=5\/k=6\/k=7\/k=9\/k=10 then 2 else -1
theorem zwX (k:Int) (w:World):Calls Tryz.prog 30 #[I4 k] w λe c=>e= .returned (I4 (gN k))/\w=c:=by
 by_cases h:1<=k/\k<=12
 ·have:k=1\/k=2\/k=3\/k=4\/k=5\/k=6\/k=7\/k=8\/k=9\/k=10\/k=11\/k=12:=by omega
  clear h;rcases this with rfl|rfl|rfl|rfl|rfl|rfl|rfl|rfl|rfl|rfl|rfl|rfl
  all_goals
   go_enter Tryz.func30,Tryz.ntmps30
   go_wp2
   go_ret;exact⟨rfl,rfl⟩
 have e:∀j:Int,1<=j->j<=12->(k==j)=false:=λj l i=>by rw [beq_eq_false_iff_ne];omega
 have v:=e 1 (by omega) (by omega);have u:=e 2 (by omega) (by omega);have t:=e 3 (by omega) (by omega);have r:=e 4 (by omega) (by omega);have q:=e 5 (by omega) (by omega);have p:=e 6 (by omega) (by omega);have o:=e 7 (by omega) (by omega);have n:=e 8 (by omega) (by omega);have m:=e 9 (by omega) (by omega);have g:=e 10 (by omega) (by omega);have f:=e 11 (by omega) (by omega);have d:=e 12 (by omega) (by omega);have b:gN k= -1:=by unfold gN;rw [if_neg (by omega),if_neg (by omega),if_neg (by omega)]
 rw [b];clear e b h;go_enter Tryz.func30,Tryz.ntmps30
 go_wp2
 go_ret;exact⟨rfl,rfl⟩
def zgT (k:Int) (p:zF) (n deep:Nat):Bool:=decide (1<=deep) && decide (gN k=(n:Int)) && (if k=3 then kU p else decide (p=⟨0,0,0,0⟩))
theorem zfo (k:Int):(k=1\/k=2)/\jM k=some 0/\gN k=0\/(k=4\/k=8\/k=11\/k=12)/\jM k=some 1/\gN k=1\/(k=5\/k=6\/k=7\/k=9\/k=10)/\jM k=some 2/\gN k=2\/k=3/\gN k=0\/(k<1\/12<k)/\jM k=none/\gN k= -1:=by
 by_cases h:1<=k/\k<=12
 ·have:k=1\/k=2\/k=3\/k=4\/k=5\/k=6\/k=7\/k=8\/k=9\/k=10\/k=11\/k=12:=by omega
  rcases this with rfl|rfl|rfl|rfl|rfl|rfl|rfl|rfl|rfl|rfl|rfl|rfl<;>simp [jM,gN]
 refine .inr (.inr (.inr (.inr ⟨by omega, ?_, ?_⟩)))
 ·unfold jM;rw [if_neg (show¬(k=1\/k=2) by omega),if_neg (show¬(k=4\/k=8\/k=11\/k=12) by omega),if_neg (show¬(k=5\/k=6\/k=7\/k=9\/k=10) by omega)]
 unfold gN;rw [if_neg (show¬(k=1\/k=2\/k=3) by omega),if_neg (show¬(k=4\/k=8\/k=11\/k=12) by omega),if_neg (show¬(k=5\/k=6\/k=7\/k=9\/k=10) by omega)]
theorem zfD (a b:Nat):decide ((a:Int)=(b:Int))=decide (b=a):=by rw [decide_eq_decide];omega
theorem zwV (k:Int) (p:zF) (kids:List Form) (d:Nat):(Form.mk k p kids).okD d=(zgT k p kids.length d && bL kids (d - 1)):=by
 by_cases h1:1<=d
 rotate_left
 ·simp only [Form.okD,zgT,decide_eq_false h1,Bool.false_and]
 simp only [Form.okD,zgT,decide_eq_true h1,Bool.true_and];have i:∀a b c:Bool,(a && b && c)=(b && a && c):=by decide
 rcases zfo k with⟨f,h,g⟩|⟨f,h,g⟩|⟨f,h,g⟩|⟨f,g⟩|⟨f,h,g⟩
 ·rw [if_neg (show¬k=3 by omega),if_neg (show¬k=3 by omega),h,g];rw [show decide ((0:Int)=(kids.length:Int))=decide (kids.length=0) from zfD 0 kids.length];exact i ..
 ·rw [if_neg (show¬k=3 by omega),if_neg (show¬k=3 by omega),h,g];rw [show decide ((1:Int)=(kids.length:Int))=decide (kids.length=1) from zfD 1 kids.length];exact i ..
 ·rw [if_neg (show¬k=3 by omega),if_neg (show¬k=3 by omega),h,g];rw [show decide ((2:Int)=(kids.length:Int))=decide (kids.length=2) from zfD 2 kids.length];exact i ..
 ·rw [if_pos f,if_pos f,g];rw [show decide ((0:Int)=(kids.length:Int))=decide (kids.length=0) from zfD 0 kids.length];by_cases f:kids.length=0
  ·have:kids= [] :=List.eq_nil_of_length_eq_zero f
   subst this;simp [bL]
  rw [decide_eq_false f];simp
 rw [if_neg (show¬k=3 by omega),if_neg (show¬k=3 by omega),h,g];have e:decide ((-1:Int)=(kids.length:Int))=false:=by rw [decide_eq_false_iff_not];omega
 rw [e];simp
def yx (w:World) (sv:Value) (l:List Bool):Prop:=
 ∃a cap,sv= .slice a l.length cap/\l.length<=9223372036854775807/\∀j,j<l.length->∃b off,a=some ⟨b,off,none⟩/\b<w.heap.size/\w.cell? ⟨b,off+j,none⟩=some (.bool (l.getD j false))
theorem yx.below {w f:World} {sv:Value} {l:List Bool} (h:yx w sv l) (g:Below w.heap.size w f):yx f sv l:=by
 obtain⟨a,d,r,q,o⟩:=h;refine⟨a,d,r,q,λj k=> ?_⟩
 obtain⟨b,c,n,i,m⟩:=o j k;exact⟨b,c,n,Nat.lt_of_lt_of_le i g.size,(g.cell (p:=⟨b,c+j,none⟩) i).trans m⟩
theorem yx.slice {w:World} {sv:Value} {l:List Bool} (h:yx w sv l):∃a b,sv= .slice a l.length b/\l.length<=9223372036854775807:=by
 obtain⟨a,b,d,c, -⟩:=h;exact⟨a,b,d,c⟩
def jy (w:World) (sv:Value) (ls:List (List Bool)):Prop:=
 ∃a cap,sv= .slice a ls.length cap/\ls.length<=9223372036854775807/\∀j,j<ls.length->∃b off kv,a=some ⟨b,off,none⟩/\b<w.heap.size/\w.cell? ⟨b,off+j,none⟩=some kv/\yx w kv (ls.getD j [])
theorem jy.below {w g:World} {sv:Value} {l:List (List Bool)} (h:jy w sv l) (d:Below w.heap.size w g):jy g sv l:=by
 obtain⟨a,f,t,r,q⟩:=h;refine⟨a,f,t,r,λj k=> ?_⟩
 obtain⟨b,c,kv,o,i,n,m⟩:=q j k;exact⟨b,c,kv,o,Nat.lt_of_lt_of_le i d.size,(d.cell (p:=⟨b,c+j,none⟩) i).trans n,m.below d⟩
theorem jy.slice {w:World} {sv:Value} {l:List (List Bool)} (h:jy w sv l):∃a b,sv= .slice a l.length b/\l.length<=9223372036854775807:=by
 obtain⟨a,b,d,c, -⟩:=h;exact⟨a,b,d,c⟩
def yO (l:List Bool) (w:World) (e:Ending) (w':World):Prop:=∃sv,e= .returned sv/\w'.ownsRow w.heap.size 4 1 sv l.length (l.map Value.bool)/\Below w.heap.size w w'
theorem yx.jB {w:World} {B:Nat} {sv:Value} {l:List Bool} (h:w.ownsRow B 4 1 sv l.length (l.map Value.bool)):yx w sv l:=by
 obtain⟨a,b,rfl,k,i⟩:=xS h;refine⟨a,b,rfl,by unfold maxLen at i;omega, ?_⟩
 intro j d;obtain⟨g,c,f, -, -⟩:=gW h (by omega);cases f
 refine⟨g,0,rfl,(h.lt g rfl).2, ?_⟩
 rw [show 0+j=j from by omega,h.cellAt _ (by omega)];simp [List.getD_eq_getElem?_getD,d]
theorem zgd:(Tryz.prog.info? 4).map (λi=>(i.zero,i.size,i.bytes))=some (some (.bool false),1,1):=by kernel_rfl
def soFar (r:Nat->Bool) (n i:Nat):List Bool:=(List.range n).map (λj=>decide (j<i) && r j)
theorem zss (r:Nat->Bool) (n:Nat):(soFar r n 0).map Value.bool=(madeCells (Value.bool false).cells (n*1)).toList:=by
 apply List.ext_getElem?
 intro i;simp only [madeCells,soFar,Nat.mul_one];by_cases h:i<n<;>simp [h,Value.cells,Nat.mod_one]
theorem zst (r:Nat->Bool) (n i:Nat):((soFar r n i).map Value.bool).set i (.bool (r i))=(soFar r n (i+1)).map Value.bool:=by
 apply List.ext_getElem?
 intro j;rw [List.getElem?_set];simp only [soFar,List.getElem?_map];by_cases h:i=j
 ·subst h;by_cases hn:i<n<;>simp [hn]
 by_cases hn:j<n
 ·have:(j<i+1)↔(j<i):=by omega
  simp [hn,h,this]
 simp [hn,h]
theorem zsu (r:Nat->Bool) (n:Nat):soFar r n n=(List.range n).map r:=by
 unfold soFar;apply List.map_congr_left
 intro j b;rw [List.mem_range] at b;simp [b]
theorem zvL (n:Nat) (X:n<=1000000000) (A:FuncId) (first b:Array Value) (r:Nat->Bool) (w:World) (M:∀m W,(callFunc A m).run Tryz.prog W= .ok (.enter A m) W)
  (j:∀i W,i<n->Below w.heap.size w W->Calls Tryz.prog A (first.push (I4 (i:Nat))++b) W λe O=>e= .returned (.bool (r i))/\Below W.heap.size W O):
  Calls Tryz.prog 134 #[I4 n, .func (.func A) first b] w (yO ((List.range n).map r) w):=by
 obtain⟨H,I,F,E,t⟩:=info_parts zgd;have l:H.bytes*n<=281474976710656:=by rw [t];omega
 have S:=qh j;clear t j;go_enter Tryz.func134,Tryz.ntmps134
 go_wp2_with(at_make;refine wpList_make_full _ rfl _ _ 57 rfl w.heap.size 4 H (.bool false) 1 Tryz.underlying57 I F E .i64 .i64 _ _ n rfl rfl (by omega) (by omega) l (by unfold maxLen;omega) (Nat.le_refl _) ?_;intro T f q);have P:=qh f;have J:=qh q;clear f q;go_loopg [11] n (λg D wr=>∃i:Nat,i<=n/\J2 (g=n - i)/\D=I4 i/\wr.ownsRow w.heap.size 4 1 (.slice (some ⟨w.heap.size,0,none⟩) n n) n ((soFar r n i).map Value.bool)/\Below w.heap.size w wr)
 case atStart=>
  refine⟨0,Nat.zero_le _,rfl,rfl, ?_,((Since.refl (λ_=>False) w).grown J.o (by simp)).below (Nat.le_refl _) (λk h=>h.elim)⟩
  rw [zss];exact P.o
 case round=>
 obtain⟨i,I,R,rfl,d,y⟩:=hrel;by_cases hlt:i<n
 rotate_left
 ·obtain rfl:i=n:=by omega
  have B:=qh y;have p:=qh d;clear y d;go_wp2
  go_ret;refine⟨_,rfl, ?_,B.o⟩
  have:=p.o
  rw [zsu] at this;simpa using this
 have x:=S.o i wr hlt y;have z:=qh x;have B:=qh y;have V:=(d.lt w.heap.size (by simp [Value.ownBlock])).2;have p:=qh d;clear x y d;go_wp2_with fail
 refine z.o.mono ?_
 rintro e C ⟨rfl,l⟩;have c:=xD p.o l
 have u:∃v,C.cell? ⟨w.heap.size,i,none⟩=some v:=by
  rw [c.cellAt i (by omega)];simp [soFar,hlt]
 obtain⟨U,u⟩:=u;have L:C.frozen? ⟨w.heap.size,i,none⟩=false:=c.frozenAt i;have N:=qh c;have G:J2 (Below w.heap.size w C):=B.o.trans (l.mono B.o.size);clear c l z;go_wp2
 go_roundg (n - (i+1))
 case measure=>rw [R.o];omega
 case rel=>
 refine⟨i+1,by omega,rfl,by simp, ?_,G.o.setCell (Nat.le_refl _) _⟩
 have:=(N.o.stored i (.bool (r i))).1
 rw [zst] at this;exact this
def zyP (P:Nat->Prop) (R:Form->Value->Prop) (w:World) (sv:Value) (l:List Form):Prop:=
 ∃a cap,sv= .slice a l.length cap/\l.length<=9223372036854775807/\∀j,j<l.length->∃b off kv,a=some ⟨b,off,none⟩/\(P b/\b<w.heap.size)/\
  (∀i,i<6->w.cell? ⟨b,off+j*6+i,none⟩=(qQ (l.getD j default) kv)[i]?)/\R (l.getD j default) kv
def ji (P:Nat->Prop) (w:World):Nat->Form->Value->Prop
 |0,_,_=>False
 |d+1,f,kv=>zyP P (ji P w d) w kv f.kids
theorem ji.since {P F:Nat->Prop} {w n:World} {d:Nat} {f:Form} {kv:Value} (h:ji P w d f kv) (o:Since F w n) (t:∀k,P k->¬F k):ji P n d f kv:=by
 induction d generalizing f kv with
 |zero=>exact h.elim
 |succ d ih=>
 obtain⟨a,m,A,z,y⟩:=h;refine⟨a,m,A,z,λj q=> ?_⟩
 obtain⟨b,c,l,x,g,v,u⟩:=y j q;exact⟨b,c,l,x,⟨g.1,Nat.lt_of_lt_of_le g.2 o.size⟩,λi r=>(o.cell (p:=⟨b,c+j*6+i,none⟩) g.2 (t b g.1)).trans (v i r),ih u⟩
theorem ji.at_ {P:Nat->Prop} {w:World} {d:Nat} {f:Form} {kv:Value} (h:ji P w d f kv):xE w d f kv:=by
 induction d generalizing f kv with
 |zero=>exact h.elim
 |succ d ih=>
 obtain⟨a,i,r,q,p⟩:=h;refine⟨a,i,r,q,λj k=> ?_⟩
 obtain⟨b,c,g,o,n,m,l⟩:=p j k;exact⟨b,c,g,o,n.2,m,ih l⟩
structure qG (w0 w:World) (sv:Value) (a t:Nat):Prop where
 below:Below w0.heap.size w0 w
 lv:w.heap[w0.heap.size]? =some (.cells #[sv] 22 (0,0))
 times:w.heap[w0.heap.size+1]? =some (.cells #[I4 t] 3 (0,0))
 taken:w.heap[w0.heap.size+3]? =some (.cells #[I4 a] 3 (0,0))
 pick:w.heap[w0.heap.size+4]? =some (.cells #[.func (.func 28) #[] #[.pointer (some ⟨w0.heap.size+3,0,none⟩), .pointer (some ⟨w0.heap.size,0,none⟩)]] 76 (0,0))
 maker:w.heap[w0.heap.size+5]? =some (.cells #[.func (.func 29) #[] #[.pointer (some ⟨w0.heap.size+4,0,none⟩), .pointer (some ⟨w0.heap.size+3,0,none⟩), .pointer (some ⟨w0.heap.size,0,none⟩), .pointer (some ⟨w0.heap.size+1,0,none⟩), .pointer (some ⟨w0.heap.size+5,0,none⟩)]] 77 (0,0))
def Turns (w0:World) (k:Nat):Prop:=k=w0.heap.size+3\/k=w0.heap.size+1
theorem qG.size {b w:World} {sv:Value} {a t:Nat} (h:qG b w sv a t):b.heap.size+6<=w.heap.size:=zA h.maker
theorem qG.since {d w f:World} {sv:Value} {a t:Nat} {F:Nat->Prop} (h:qG d w sv a t) (c:Since F w f) (i:∀k,k<d.heap.size+6->¬F k):qG d f sv a t:=by
 have j:=h.size;have b:∀k,k<d.heap.size+6->f.heap[k]? =w.heap[k]? :=λk g=>c.block k (by omega) (i k g)
 exact⟨⟨c.os.trans h.below.os,c.tape.trans h.below.tape,c.output.trans h.below.output,Nat.le_trans h.below.size c.size,λk g=>(b k (by omega)).trans (h.below.block k g)⟩,
  (b _ (by omega)).trans h.lv,(b _ (by omega)).trans h.times,(b _ (by omega)).trans h.taken,(b _ (by omega)).trans h.pick,(b _ (by omega)).trans h.maker⟩
theorem qG.then {b w c:World} {sv:Value} {a t:Nat} (h:qG b w sv a t) (d:Below w.heap.size w c):qG b c sv a t:=h.since (xW (λ_=>False) d) (λ_ _ h=>h)
theorem qG.take {d w:World} {sv:Value} {a t:Nat} (h:qG d w sv a t) (b:Nat):qG d (w.setCell ⟨d.heap.size+3,0,none⟩ (I4 b)) sv b t:=by
 have c:∀k,k≠d.heap.size+3->(w.setCell ⟨d.heap.size+3,0,none⟩ (I4 (b:Nat))).heap[k]? =w.heap[k]? :=λk c=>Below.heap_setCell _ _ _ _ c;have f:=zu h.taken 0 (I4 (b:Nat));exact⟨h.below.setCell (by simp) _,(c _ (by omega)).trans h.lv,(c _ (by omega)).trans h.times,by simpa using f,(c _ (by omega)).trans h.pick,(c _ (by omega)).trans h.maker⟩
theorem qG.spend {c w:World} {sv:Value} {a t:Nat} (h:qG c w sv a t) (s:Nat):qG c (w.setCell ⟨c.heap.size+1,0,none⟩ (I4 s)) sv a s:=by
 have b:∀k,k≠c.heap.size+1->(w.setCell ⟨c.heap.size+1,0,none⟩ (I4 (s:Nat))).heap[k]? =w.heap[k]? :=λk b=>Below.heap_setCell _ _ _ _ b;have d:=zu h.times 0 (I4 (s:Nat));exact⟨h.below.setCell (by simp) _,(b _ (by omega)).trans h.lv,by simpa using d,(b _ (by omega)).trans h.taken,(b _ (by omega)).trans h.pick,(b _ (by omega)).trans h.maker⟩
def zvC (w0:World) (sv:Value) (a t n:Nat) (w:World) (e:Ending) (w':World):Prop:=∃r:Nat,r<n/\e= .returned (I4 r)/\qG w0 w' sv (a+1) t/\Since (λk=>k=w0.heap.size+3) w w'
theorem ztS (d w:World) (sv:Value) (l:List Int) (a t n:Nat) (h:qG d w sv a t) (J:vL d .u8 sv l) (R:1<=n) (P:n<=100) (S:a<=1000000):
  Calls Tryz.prog 28 #[.int .i64 n, .pointer (some ⟨d.heap.size+3,0,none⟩), .pointer (some ⟨d.heap.size,0,none⟩)] w (zvC d sv a t n w):=by
 obtain⟨G,E,rfl,M,i,c⟩:=J;have j:=h.take (a+1);have m:Since (λk=>k=d.heap.size+3) w (w.setCell ⟨d.heap.size+3,0,none⟩ (.int .i64 ((a+1:Nat):Int))):=Since.setCell (F:=λk=>k=d.heap.size+3) (p:=⟨d.heap.size+3,0,none⟩) (Since.refl _ _) (.inl rfl) _;have v:w.cell? ⟨d.heap.size+3,0,none⟩=some (.int .i64 a):=ze h.taken 0;have B:w.frozen? ⟨d.heap.size+3,0,none⟩=false:=zH h.taken 0;rw [show((a+1:Nat):Int)=(a:Int)+1 by omega] at j m;have r:=qh j;have D:=qh m;clear j m h;go_enter Tryz.func28,Tryz.ntmps28
 go_upto_region 2 with fail
 generalize hV:World.setCell w _ _=V at r D ⊢;clear hV v B
 have v:V.cell? ⟨d.heap.size+3,0,none⟩=some (.int .i64 ((a:Int)+1)):=by
  have:=ze r.o.taken 0
  simpa using this
 have L:V.cell? ⟨d.heap.size,0,none⟩=some (.slice G l.length E):=ze r.o.lv 0;by_cases hc:a<l.length
 rotate_left
 ·have C:(l.length:Int)<(a:Int)+1:=by omega
  clear i c;go_wp2
  go_ret;exact⟨0,by omega,rfl,r.o,D.o⟩
 obtain⟨b,y,rfl,N,hx⟩:=c a hc;have z:=(r.o.below.cell (p:=⟨b,y+a,none⟩) N).trans hx;obtain⟨x,g⟩:=qxE (l.getD a 0);rw [<-g] at z
 have f:(Lit.int .u8 x).wf=true:=by
  rw [g,List.getD_eq_getElem?_getD,List.getElem?_eq_getElem hc];exact i _ (List.getElem_mem hc)
 have I:0<=x:=by simp [Lit.wf,IntKind.min,IntKind.max,IntKind.signed] at f;omega
 have H:x<=255:=by simp [Lit.wf,IntKind.min,IntKind.max,IntKind.signed,IntKind.bits] at f;omega
 have C:¬(l.length:Int)<(a:Int)+1:=by omega
 have O:(a:Int)<l.length:=by omega
 clear hx g f i c;go_wp2
 go_ret;have u:=Int.emod_nonneg x (show(n:Int)≠0 by omega);have A:=Int.emod_lt_of_pos x (show(0:Int)<(n:Int) by omega);refine⟨(x % (n:Int)).toNat, ?_, ?_,r.o,D.o⟩
 ·generalize x % (n:Int)=q at u A ⊢;omega
 show Ending.returned (.int .i64 (x % (n:Int)))=_
 rw [Int.toNat_of_nonneg u]
