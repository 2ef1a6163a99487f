/- Steps. -/
import Derived.Test.YtmijlmglnnbdjaaGreatDoorUtPOp
set_option linter.all false
namespace Go.Proofs.YtmijlmglnnbdjaaGreatDoor
open Go.RowKit
set_option maxRecDepth 100000
set_option maxHeartbeats 16000000
section
variable {P:Program} {ops:Array Oper} {Q:Exit->Act->World->Prop} {md:Region.Mode} {S:World->Prop} {n0:Nat}
def vw (P:Program) (md:Region.Mode) (ops:Array Oper) (Q:Exit->Act->World->Prop) (S:World->Prop) (n0:Nat):Nat->Array Bool->Act->World->Prop
 |0,listed,a,w=>Region.ready md ops listed= [] /\Q .normal a w
 |fuel+1,listed,a,w=>
 (Region.ready md ops listed= [] ->Q .normal a w)/\
 ∀i∈Region.ready md ops listed,wpOp P ops Q i (λa' w'=>(i≠n0->listed.getD n0 true=false->S w')/\vw P md ops Q S n0 fuel (listed.setIfInBounds i true) a' w') a w
theorem zfR:∀(c:Nat) (b:Array Bool) (a:Act) (w:World),vw P md ops Q S n0 c b a w->wpAny P md ops Q c b a w
 |0,_,_,_,h=>h
 |c+1,_,_,_,h=>⟨h.1,λi d=>wpOp_mono (λg w' f=>zfR c _ g w' f.2) (h.2 i d)⟩
def zjb (md:Region.Mode) (ops:Array Oper) (n0 i:Nat):Bool:=match ops[n0]? with|some o=>o.after.any (λe=>Region.binds md e && e.on==i)|none=>false
theorem zkW {b:Array Bool} {i:Nat} (c:zjb md ops n0 i=true) (j:b.getD i true=false):n0 ∉ Region.ready md ops b:=by
 intro l;obtain⟨-,o,n,d⟩:=mem_ready.1 l;unfold zjb at c;rw [n] at c;simp only [] at c;rw [Array.any_eq_true] at c;obtain⟨k,p,g⟩:=c;simp only [Bool.and_eq_true,beq_iff_eq] at g;have f:=d _ (Array.getElem_mem p) g.1;rw [g.2] at f;rcases Nat.lt_or_ge i b.size with h|h
 ·simp [h] at j f;rw [j] at f;cases f
 simp [Array.getElem?_eq_none h] at f
def zgS (md:Region.Mode) (ops:Array Oper) (Wt:List Nat) (i:Nat):Bool:=Wt.all (λx=>zjb md ops x i||Wt.any (λy=>zjb md ops x y))
theorem zwT {d:List Nat} {i:Nat} {b:Array Bool} (c:zgS md ops d i=true) (j:b.getD i true=false) (g:∀x∈d,b.getD x true=false) {x:Nat} (hx:x∈d):x ∉ Region.ready md ops b:=by
 unfold zgS at c;rw [List.all_eq_true] at c;have h:=c x hx;rw [Bool.or_eq_true,List.any_eq_true] at h;rcases h with h|⟨y,f,h⟩
 ·exact zkW h j
 exact zkW h (g y f)
theorem zgv {R:World->Prop} {i:Nat} {y:Oper} {v:Value} (O:List Nat) (K:ops[i]? =some y) (q:∀(j:Nat) (o:Oper) cs b,ops[j]? =some o->o.op≠ .select cs b)
  (hQ:∀c a w,Q (.panic c) (a.put y.dst v) w->Q (.panic c) a w) (Z:i≠n0) (hc:zgS md ops O i=true) (hiW:i ∉ O) (hn:(n0∈O/\∀w,S w->R w)\/∀w,R w):
  ∀(f:Nat) (d:Array Bool) (a:Act) (w:World),(∀x∈O,d.getD x true=false)->
   (∀j u,ops[j]? =some u->j≠i->d.getD j true=false->(∀e∈u.after,Region.binds md e=true->e.on≠i)->y.apart ops u=true)->
   i∈Region.ready md ops d->YieldsIf P ops R y v a->(d.getD n0 true=false->S w)->
   vw P md ops Q S n0 f (d.setIfInBounds i true) (a.put y.dst v) w->vw P md ops Q S n0 (f+1) d a w:=by
 intro f;induction f with
 |zero=>
  intro d a w J _ r T N H;have A:R w:=hn.elim (λh=>h.2 w (N (J n0 h.1))) (λh=>h w);refine⟨λh=>(by rw [h] at r;cases r),λj E=> ?_⟩
  by_cases hji:j=i
  ·subst hji;exact T.wpOp K A ⟨λ_ h=>N h,H⟩
  have:=ready_mono E hji
  rw [H.1] at this;cases this
 |succ f ih=>
 intro d a w J l r T N H;have A:R w:=hn.elim (λh=>h.2 w (N (J n0 h.1))) (λh=>h w);refine⟨λh=>(by rw [h] at r;cases r),λj E=> ?_⟩
 by_cases hji:j=i
 ·subst hji;exact T.wpOp K A ⟨λ_ h=>N h,H⟩
 have C:=H.2 j (ready_mono E hji);obtain⟨t,u,z,L⟩:=mem_ready.1 E
 have I:∀e∈u.after,Region.binds md e=true->e.on≠i:=λe he hb s=>by
  have C:=L e he hb;have h0:=(mem_ready.1 r).1;rw [s] at C;rcases Nat.lt_or_ge i d.size with D|D
  ·simp [D] at h0 C;rw [h0] at C;cases C
  simp [Array.getElem?_eq_none D] at C
 have h2:=wpOp_putIf z (l j u z hji t I) (λcs b=>q i y cs b K) (λcs b=>q j u cs b z) hQ T C
 have n:∀k F,ops[k]? =some F->k≠i->(d.setIfInBounds j true).getD k true=false->
   (∀e∈F.after,Region.binds md e=true->e.on≠i)->y.apart ops F=true:=λk F hk W G U=>by
  refine l k F hk W ?_ U
  by_cases hjk:j=k
  ·subst hjk;exact t
  rw [getD_set_ne true hjk] at G;exact G
 refine wpOp_mono (λa' w' h3=> ?_) h2
 have Y:j ∉ O:=λhm=>zwT hc (mem_ready.1 r).1 J hm E;have p:∀x,j≠x->(d.setIfInBounds j true).getD x true=d.getD x true:=λx X=>getD_set_ne true X;have V:(d.setIfInBounds i true).getD n0 true=d.getD n0 true:=getD_set_ne true Z;have M:j≠n0->d.getD n0 true=false->S w':=λg h=>h3.2.1 g (V.trans h);refine⟨M,ih (d.setIfInBounds j true) a' w' (λx hx=>(p x (λe=>Y (e ▸ hx))).trans (J x hx)) n (ready_mono r (Ne.symm hji)) h3.1 (λh=> ?_) ?_⟩
 ·by_cases g:j=n0
  ·subst g;rcases Nat.lt_or_ge j d.size with D|D
   ·simp [D] at h
   have:=(mem_ready.1 E).1
   simp [Array.getElem?_eq_none D] at this
  exact M g ((p n0 g).symm.trans h)
 rw [Array.setIfInBounds_comm _ _ hji];exact h3.2.2
def ze6 (listed:Array Bool) (Wt:List Nat):Bool:=Wt.all (λx=>listed.getD x true==false)
theorem zmU {b:Array Bool} {c:List Nat} (h:ze6 b c=true):∀x∈c,b.getD x true=false:=λx hx=>by
 unfold ze6 at h;rw [List.all_eq_true] at h;exact eq_of_beq (h x hx)
theorem zo1 (f:List Nat) {i:Nat} {g:Oper} {v:Value} {d:Nat} {b:Array Bool} {a:Act} {w:World} (n:ops[i]? =some g)
  (p:Region.noSelect ops=true) (t:Region.free md ops b i=true) (q:(Region.ready md ops b).contains i=true) (k:i≠n0) (r:ze6 b f=true) (u:zgS md ops f i=true) (l:f.contains i=false) (j:f.contains n0=true)
  (y:∀c a w,Q (.panic c) (a.put g.dst v) w->Q (.panic c) a w) (o:YieldsIf P ops S g v a) (x:S w)
  (h:vw P md ops Q S n0 d (b.setIfInBounds i true) (a.put g.dst v) w):vw P md ops Q S n0 (d+1) b a w:=
 zgv f n (Region.noSelect_spec p) y k u (by simpa using l) (.inl ⟨by simpa using j,λ_ h=>h⟩) d b a w (zmU r) (Region.free_spec n t) (by simpa using q) o (λ_=>x) h
theorem zo2 {i:Nat} {f:Oper} {v:Value} {d:Nat} {b:Array Bool} {a:Act} {w:World} (j:ops[i]? =some f)
  (l:Region.noSelect ops=true) (o:Region.free md ops b i=true) (n:(Region.ready md ops b).contains i=true) (g:i≠n0)
  (q:∀c a w,Q (.panic c) (a.put f.dst v) w->Q (.panic c) a w) (k:YieldsIf P ops (λ_=>True) f v a) (p:b.getD n0 true=false->S w)
  (h:vw P md ops Q S n0 d (b.setIfInBounds i true) (a.put f.dst v) w):vw P md ops Q S n0 (d+1) b a w:=
 zgv [] j (Region.noSelect_spec l) q g rfl (by simp) (.inr λ_=>trivial) d b a w (by simp) (Region.free_spec j o) (by simpa using n) k p h
def zgw (P:Program) (md:Region.Mode) (ops:Array Oper) (Q:Exit->Act->World->Prop) (S:World->Prop) (n0 fuel:Nat) (listed:Array Bool) (a:Act) (w:World) (rs:List Nat):Prop:=
 ∀i∈rs,wpOp P ops Q i (λa' w'=>(i≠n0->listed.getD n0 true=false->S w')/\vw P md ops Q S n0 fuel (listed.setIfInBounds i true) a' w') a w
theorem zgw.nil {c:Nat} {b:Array Bool} {a:Act} {w:World} :zgw P md ops Q S n0 c b a w [] :=λ_ h=>by cases h
theorem zgw.cons {c:Nat} {b:Array Bool} {a:Act} {w:World} {i:Nat} {o:Oper} {rs:List Nat} (k:ops[i]? =some o)
  (h:∀d:Act->World->Prop,Hid (∀a w,(i≠n0->b.getD n0 true=false->S w)->vw P md ops Q S n0 c (b.setIfInBounds i true) a w->d a w)->if Region.wanted o (yielded ops a.tmps)=true then Oper.wp P o a w d Q else d (a.put o.dst undef) w)
  (g:zgw P md ops Q S n0 c b a w rs):zgw P md ops Q S n0 c b a w (i::rs):=λj f=>by
 rcases List.mem_cons.1 f with rfl|f
 ·exact wpOp_step k (λd hK=>h d (λa w n l=>hK a w ⟨n,l⟩))
 exact g j f
theorem zmV {rs:List Nat} {c:Nat} {b:Array Bool} {a:Act} {w:World} (f:Region.ready md ops b=rs) (d:rs≠ [])
  (h:zgw P md ops Q S n0 c b a w rs):vw P md ops Q S n0 (c+1) b a w:=⟨λg=>absurd (f ▸ g) d,f ▸ h⟩
theorem xZ {b:Array Bool} {a:Act} {w:World} (d:Region.ready md ops b= []) (h:Q .normal a w):∀c,vw P md ops Q S n0 c b a w
 |0=>⟨d,h⟩
 |_+1=>⟨λ_=>h,by rw [d];simp⟩
theorem xg {b:Nat} {a:Act} {w:World} (c:P.follows .mixedOrders=true) (d:S w.drew)
  (h:S w.drew->vw P .any ops Q S n0 ops.size (Array.replicate ops.size false) a w.drew):(Code.region b ops true).wp P Q a w:=
 wp_region_any c (zfR _ _ _ _ (h d))
end
theorem qtF {P:Program} {md:Region.Mode} {ops:Array Oper} {Q:Exit->Act->World->Prop} {S:World->Prop} {n0:Nat} (i d:Nat) (v:Value) {g:Oper} {f:Nat} {b:Array Bool} {a:Act} {w:World} (p:ops[i]? =some g) (k:∀w,True->(execOp a.eval g).run P w= .ok (.value v) w) (t:b.getD n0 true=false->S w)
 (h:vw P md ops Q S n0 f (b.setIfInBounds i true) ⟨a.tmps.setIfInBounds d v,a.defers⟩ w) (r:g.dst=some d:=by rfl) (l:Region.wanted g (yielded ops a.tmps)=true:=by rfl) (n:Region.noSelect ops=true:=by kernel_rfl) (q:Region.free md ops b i=true:=by kernel_rfl) (o:(Region.ready md ops b).contains i=true:=by kernel_rfl) (j:i≠n0:=by decide)
 (u:∀c a w,Q (.panic c) (a.put g.dst v) w->Q (.panic c) a w:=by exact λ_ _ _ h=>h):vw P md ops Q S n0 (f+1) b a w:=
 zo2 p n q o j u (Or.inl ⟨l,k⟩) t (by rw [r];exact h)
theorem qtT {P:Program} {md:Region.Mode} {ops:Array Oper} {Q:Exit->Act->World->Prop} {S:World->Prop} {n0:Nat} (j:List Nat) (i d:Nat) (v:Value) {g:Oper} {f:Nat} {b:Array Bool} {a:Act} {w:World} (u:ops[i]? =some g) (o:∀w,S w->(execOp a.eval g).run P w= .ok (.value v) w) (A:S w)
 (h:vw P md ops Q S n0 f (b.setIfInBounds i true) ⟨a.tmps.setIfInBounds d v,a.defers⟩ w) (y:g.dst=some d:=by rfl) (p:Region.wanted g (yielded ops a.tmps)=true:=by rfl) (q:Region.noSelect ops=true:=by kernel_rfl) (x:Region.free md ops b i=true:=by kernel_rfl) (r:(Region.ready md ops b).contains i=true:=by kernel_rfl) (l:i≠n0:=by decide)
 (t:ze6 b j=true:=by kernel_rfl) (z:zgS md ops j i=true:=by kernel_rfl) (n:j.contains i=false:=by rfl) (k:j.contains n0=true:=by rfl) (C:∀c a w,Q (.panic c) (a.put g.dst v) w->Q (.panic c) a w:=by exact λ_ _ _ h=>h):vw P md ops Q S n0 (f+1) b a w:=
 zo1 j u q x r l t z n k C (Or.inl ⟨p,o⟩) A (by rw [y];exact h)
theorem zU {P:Program} {md:Region.Mode} {ops:Array Oper} {Q:Exit->Act->World->Prop} {S:World->Prop} {n0:Nat} (i:Nat) {d:Nat} {v:Value} {g:Oper} {f:Nat} {b:Array Bool} {a k:Act} {w:World} (u:b.getD n0 true=false->S w)
 (h:vw P md ops Q S n0 f (b.setIfInBounds i true) k w) (q:ops[i]? =some g:=by rfl) (l:∀w,True->(execOp a.eval g).run P w= .ok (.value v) w:=by intro _ _;go_simp<;>rfl) (t:g.dst=some d:=by rfl) (hE:(⟨a.tmps.setIfInBounds d v,a.defers⟩:Act)=k:=by simp only [Act.put,jJ,jK,jL];exact rfl) (n:Region.wanted g (yielded ops a.tmps)=true:=by rfl) (o:Region.noSelect ops=true:=by kernel_rfl) (r:Region.free md ops b i=true:=by kernel_rfl) (p:(Region.ready md ops b).contains i=true:=by kernel_rfl) (j:i≠n0:=by decide)
 (x:∀c a w,Q (.panic c) (a.put g.dst v) w->Q (.panic c) a w:=by exact λ_ _ _ h=>h):vw P md ops Q S n0 (f+1) b a w:=
 qtF i d v q l u (by rw [hE];exact h) t n o r p j x
theorem vX {P:Program} {md:Region.Mode} {ops:Array Oper} {Q:Exit->Act->World->Prop} {S X:World->Prop} {n0:Nat} (j:List Nat) (i:Nat) (c:∀w,S w->X w) {d:Nat} {v:Value} {g:Oper} {f:Nat} {b:Array Bool} {a o:Act} {w:World} (C:S w)
 (h:vw P md ops Q S n0 f (b.setIfInBounds i true) o w) (x:ops[i]? =some g:=by rfl) (p:∀w,S w->X w->(execOp a.eval g).run P w= .ok (.value v) w:=by intro _ _ _;go_simp<;>rfl) (z:g.dst=some d:=by rfl) (hE:(⟨a.tmps.setIfInBounds d v,a.defers⟩:Act)=o:=by simp only [Act.put,jJ,jK,jL];exact rfl) (q:Region.wanted g (yielded ops a.tmps)=true:=by rfl) (r:Region.noSelect ops=true:=by kernel_rfl) (y:Region.free md ops b i=true:=by kernel_rfl) (t:(Region.ready md ops b).contains i=true:=by kernel_rfl) (l:i≠n0:=by decide)
 (u:ze6 b j=true:=by kernel_rfl) (A:zgS md ops j i=true:=by kernel_rfl) (n:j.contains i=false:=by rfl) (k:j.contains n0=true:=by rfl) (D:∀c a w,Q (.panic c) (a.put g.dst v) w->Q (.panic c) a w:=by exact λ_ _ _ h=>h):vw P md ops Q S n0 (f+1) b a w:=
 qtT j i d v x (λw s=>p w s (c w s)) C (by rw [hE];exact h) z q r y t l u A n k D
theorem kg {P:Program} {md:Region.Mode} {ops:Array Oper} {Q:Exit->Act->World->Prop} {S:World->Prop} {n0:Nat} (i:Nat) {c:Nat} {b:Array Bool} {a:Act} {w:World} {o:Oper} (g:ops[i]? =some o)
 (h:∀d:Act->World->Prop,Hid (∀a w,(i≠n0->b.getD n0 true=false->S w)->vw P md ops Q S n0 c (b.setIfInBounds i true) a w->d a w)->if Region.wanted o (yielded ops a.tmps)=true then Oper.wp P o a w d Q else d (a.put o.dst undef) w) (f:Region.ready md ops b= [i] :=by kernel_rfl):vw P md ops Q S n0 (c+1) b a w:=
 zmV f (by simp) (zgw.cons g h zgw.nil)
end Go.Proofs.YtmijlmglnnbdjaaGreatDoor
namespace Go.Proofs.YtmijlmglnnbdjaaGreatDoor
open Go.RowKit
set_option maxRecDepth 100000
set_option maxHeartbeats 16000000
variable {v0:Value}
def vk (v0:Value) (w:World) (B gr:Nat) (m:zC) (dom:Int) (mb mc:Nat) (res:Option (zD × List Int × Bool)) (e:Ending) (w':World):Prop:=
 Below B w w'/\((res=none/\e= .returned (.bool false))\/∃(t:zD) (mem:List Int) (bad:Bool) (bv:Value),res=some (t,mem,bad)/\e= .returned (.bool true)/\t.regs.length=4/\xP v0 w' B gr t.pc (t.regs.getD 0 0) (t.regs.getD 1 0) (t.regs.getD 2 0) (t.regs.getD 3 0) t.buf bv m dom mem mb mc bad)
section
variable {w w':World} {B gr mb mc:Nat} {pc r0 r1 r2 r3 dom:Int} {buf:List zq} {bv:Value} {m:zC} {mem:List Int} {bad:Bool}
theorem jV (h:xP v0 w' B gr pc r0 r1 r2 r3 buf bv m dom mem mb mc bad) (b:Below B w w'):vk v0 w B gr m dom mb mc (some (⟨pc, [r0,r1,r2,r3],buf⟩,mem,bad)) (.returned (.bool true)) w':=
 ⟨b, .inr ⟨_,_,_,_,rfl,rfl,rfl,h⟩⟩
theorem ze5 {k:Nat} {x:Int} (h:xP v0 w' B gr pc (([r0,r1,r2,r3].set k x).getD 0 0) (([r0,r1,r2,r3].set k x).getD 1 0) (([r0,r1,r2,r3].set k x).getD 2 0) (([r0,r1,r2,r3].set k x).getD 3 0) buf bv m dom mem mb mc bad) (b:Below B w w'):vk v0 w B gr m dom mb mc (some (⟨pc, [r0,r1,r2,r3].set k x,buf⟩,mem,bad)) (.returned (.bool true)) w':=
 ⟨b, .inr ⟨_,_,_,_,rfl,rfl,by simp,h⟩⟩
theorem gY (b:Below B w w'):vk v0 w B gr m dom mb mc none (.returned (.bool false)) w':=⟨b, .inl ⟨rfl,rfl⟩⟩
end
theorem xP.ze4 {w:World} {B gr mb mc:Nat} {pc r0 r1 r2 r3 dom:Int} {buf:List zq} {bv:Value} {m:zC} {mem:List Int} {bad:Bool} (h:xP v0 w B gr pc r0 r1 r2 r3 buf bv m dom mem mb mc bad) {k:Nat} (b:k<4):w.cell? ⟨gr,1+k,none⟩=some (I4 ([r0,r1,r2,r3].getD k 0))/\w.frozen? ⟨gr,1+k,none⟩=false:=by
 refine⟨?_,zH h.block _⟩
 have e:=ze h.block (1+k);have:k=0\/k=1\/k=2\/k=3:=by omega
 rcases this with rfl|rfl|rfl|rfl<;>exact e
theorem ztP {w:World} {B gr mb mc:Nat} {pc r0 r1 r2 r3 dom:Int} {buf:List zq} {bv:Value} {m:zC} {mem:List Int} {bad:Bool} (h:xP v0 w B gr pc r0 r1 r2 r3 buf bv m dom mem mb mc bad) (D:B<=w.heap.size) (T:1<=dom) (R:dom<=1000) (d:Nat) (x:yg) (ka C:Value) (u:zJ d w x.a ka) (t:zJ d w x.b C)
  (A:0<=x.reg/\x.reg<4) (g:0<=x.var/\x.var<(mem.length:Int)) (q:buf.length<=1000000):Calls Tryz.prog 169 #[.pointer (some ⟨gr,0,none⟩),qO x ka C] w λe w'=>
  vk v0 w B gr m dom mb mc (some (⟨x.dest, [r0,r1,r2,r3],buf⟩,mem,bad)) e w':=by
 obtain⟨H,G,rfl, -⟩:=u.slice;obtain⟨F,E,rfl, -⟩:=t.slice;obtain⟨s,K,rfl, -⟩:=zh.slice h.vR;obtain⟨op,reg,v,a,b,j⟩:=x;simp only [] at A g u t ⊢;obtain⟨reg,rfl⟩:∃k:Nat,reg=(k:Int):=⟨reg.toNat,by omega⟩;obtain⟨v,rfl⟩:∃k:Nat,v=(k:Int):=⟨v.toNat,by omega⟩;have O:reg<4:=by omega
 have uS:v<mem.length:=by omega
 have bW:(v:Int)<(mem.length:Int):=g.2;have N:(reg:Int)<4:=A.2;try simp only [Int.toNat_natCast]
 clear u t;unfold qO;simp only [];generalize a.kind=ak at ⊢;generalize a.n=an at ⊢;generalize a.op=ao at ⊢;generalize a.kids.length=al at ⊢;generalize b.kind=bk at ⊢;generalize b.n=bn at ⊢;generalize b.op=bo at ⊢;generalize b.kids.length=bl at ⊢;obtain⟨L,c⟩:∃r:Option (zD × List Int × Bool),r=(some (⟨j, [r0,r1,r2,r3],buf⟩,mem,bad)):=⟨_,rfl⟩;rw [<-c];have I:=qh c;clear c;obtain⟨Z,i⟩:=qxE buf.length;rw [<-i] at h q;have V:=qh i;have X:=qh h;have J:=qh D
 have z:=qh ((Below.refl w.heap.size w).alloc (Nat.le_refl _) (.cells #[I4 op,I4 (reg:Int),I4 (v:Int),I4 ak,I4 an, .int .u8 ao, .slice H al G,I4 bk,I4 bn, .int .u8 bo, .slice F bl E,I4 j] 107));have y:=qh (zQ w (.cells #[I4 op,I4 (reg:Int),I4 (v:Int),I4 ak,I4 an, .int .u8 ao, .slice H al G,I4 bk,I4 bn, .int .u8 bo, .slice F bl E,I4 j] 107));clear h i D;go_enter Tryz.func169,Tryz.ntmps169
 go_upto_region 1 with fail
 generalize World.alloc w _=W at z y ⊢;obtain⟨U,l⟩:=qxE w.heap.size;rw [<-l] at y ⊢;clear l;have f:=qh (X.o.below z.o);have M:J2 (Below B w W):=z.o.mono J.o;have Y:J2 (∀x,Below W.heap.size W x->K3 x U 11 (I4 j)/\K3 x gr 0 (I4 pc)):=λx hx=>⟨zl hx _ _ (ze y.o 11),zl hx _ _ (ze f.o.block 0)⟩;obtain⟨c0,c1⟩:=Y.o W (Below.refl _ _);have f0:W.frozen? ⟨gr,0,none⟩=false:=zH f.o.block 0;go_wp2_with fail
 go_ret;rw [I.o];exact jV (f.o.zqo j) (M.o.setCell (p:=⟨gr,0,none⟩) f.o.base _)
theorem zoz {w:World} {B gr mb mc:Nat} {pc r0 r1 r2 r3 dom:Int} {buf:List zq} {bv:Value} {m:zC} {mem:List Int} {bad:Bool} (h:xP v0 w B gr pc r0 r1 r2 r3 buf bv m dom mem mb mc bad) (X:B<=w.heap.size) (I:1<=dom) (H:dom<=1000) (d:Nat) (x:yg) (ka U:Value) (E:zJ d w x.a ka) (L:zJ d w x.b U)
  (T:0<=x.reg/\x.reg<4) (j:0<=x.var/\x.var<(mem.length:Int)) (J:buf.length<=1000000):Calls Tryz.prog 168 #[.pointer (some ⟨gr,0,none⟩),qO x ka U] w λe w'=>
  vk v0 w B gr m dom mb mc (some (if yF [r0,r1,r2,r3] dom d x.a=0 then(⟨x.dest, [r0,r1,r2,r3],buf⟩:zD) else⟨pc, [r0,r1,r2,r3],buf⟩,mem,bad)) e w':=by
 have g:=λW V (hV:xP v0 W B gr pc r0 r1 r2 r3 buf V m dom mem mb mc bad) (hW:Below w.heap.size w W)=>zbi hV I H d x.a ka (E.below hW);obtain⟨N,M,rfl, -⟩:=E.slice;obtain⟨Z,Y,rfl, -⟩:=L.slice;obtain⟨ua,uc,rfl, -⟩:=zh.slice h.vR;obtain⟨op,reg,v,a,b,t⟩:=x;simp only [] at T j E L g ⊢;obtain⟨reg,rfl⟩:∃k:Nat,reg=(k:Int):=⟨reg.toNat,by omega⟩;obtain⟨v,rfl⟩:∃k:Nat,v=(k:Int):=⟨v.toNat,by omega⟩;have hr4:reg<4:=by omega
 have uS:v<mem.length:=by omega
 have bW:(v:Int)<(mem.length:Int):=j.2;have hrI:(reg:Int)<4:=T.2;try simp only [Int.toNat_natCast]
 clear E L;unfold qO;simp only [];unfold qD at g;generalize hva:yF [r0,r1,r2,r3] dom d a=G at g ⊢;clear hva;generalize a.kind=ak at g ⊢;generalize a.n=an at g ⊢;generalize a.op=ao at g ⊢;generalize a.kids.length=al at g ⊢;generalize b.kind=bk at ⊢;generalize b.n=bn at ⊢;generalize b.op=bo at ⊢;generalize b.kids.length=bl at ⊢;have O:=qh g;clear g;obtain⟨K,c⟩:∃r:Option (zD × List Int × Bool),r=(some (if G=0 then(⟨t, [r0,r1,r2,r3],buf⟩:zD) else⟨pc, [r0,r1,r2,r3],buf⟩,mem,bad)):=⟨_,rfl⟩;rw [<-c];have F:=qh c;clear c;obtain⟨un,l⟩:=qxE buf.length;rw [<-l] at h J;have HUN:=qh l;have HR:=qh h
 have R:=qh X;have C:=qh ((Below.refl w.heap.size w).alloc (Nat.le_refl _) (.cells #[I4 op,I4 (reg:Int),I4 (v:Int),I4 ak,I4 an, .int .u8 ao, .slice N al M,I4 bk,I4 bn, .int .u8 bo, .slice Z bl Y,I4 t] 107));have q:=qh (zQ w (.cells #[I4 op,I4 (reg:Int),I4 (v:Int),I4 ak,I4 an, .int .u8 ao, .slice N al M,I4 bk,I4 bn, .int .u8 bo, .slice Z bl Y,I4 t] 107));clear h l X;go_enter Tryz.func168,Tryz.ntmps168
 go_upto_region 1 with fail
 generalize World.alloc w _=W at C q ⊢;obtain⟨y,u⟩:=qxE w.heap.size;rw [<-u] at q ⊢;clear u;have z:=qh (HR.o.below C.o);have s:J2 (Below B w W):=C.o.mono R.o;have CC:J2 (∀x,Below W.heap.size W x->K3 x y 3 (I4 ak)/\K3 x y 4 (I4 an)/\K3 x y 5 (.int .u8 ao)/\K3 x y 6 (.slice N al M)):=λx hx=>⟨zl hx _ _ (ze q.o 3),zl hx _ _ (ze q.o 4),zl hx _ _ (ze q.o 5),zl hx _ _ (ze q.o 6)⟩;obtain⟨c0,c1,c2,c3⟩:=CC.o W (Below.refl _ _);go_wp2_with fail
 refine(O.o W _ z.o C.o).mono ?_
 rintro e D ⟨rfl,i⟩;have f:=qh (z.o.below i);have A:J2 (Below B w D):=s.o.trans (i.mono (Nat.le_trans R.o C.o.size));have d0:D.cell? ⟨y,11,none⟩=some (I4 t):=zl i _ _ (ze q.o 11);have d1:D.cell? ⟨gr,0,none⟩=some (I4 pc):=ze f.o.block 0;have f0:D.frozen? ⟨gr,0,none⟩=false:=zH f.o.block 0;clear i c0 c1 c2 c3;by_cases hz:G=0
 ·subst hz;go_wp2_with fail
  go_ret;first|rw [F.o,if_pos rfl] |rw [F.o,if_pos trivial]
  exact jV (f.o.zqo t) (A.o.setCell (p:=⟨gr,0,none⟩) f.o.base _)
 have hz1:((G:Int)==0)=false:=by simp [hz]
 have HZ:=qh hz;clear hz;go_wp2_with fail
 go_ret;rw [F.o,if_neg HZ.o];exact jV f.o A.o
theorem zoy {w:World} {B gr mb mc:Nat} {pc r0 r1 r2 r3 dom:Int} {buf:List zq} {bv:Value} {m:zC} {mem:List Int} {bad:Bool} (h:xP v0 w B gr pc r0 r1 r2 r3 buf bv m dom mem mb mc bad) (Z:B<=w.heap.size) (H:1<=dom) (G:dom<=1000) (d:Nat) (x:yg) (ka X:Value) (C:zJ d w x.a ka) (J:zJ d w x.b X)
  (U:0<=x.reg/\x.reg<4) (j:0<=x.var/\x.var<(mem.length:Int)) (I:buf.length<=1000000):Calls Tryz.prog 167 #[.pointer (some ⟨gr,0,none⟩),qO x ka X] w λe w'=>
  vk v0 w B gr m dom mb mc (some (⟨pc, [r0,r1,r2,r3],buf⟩,mem,bad||decide (yF [r0,r1,r2,r3] dom d x.a=0))) e w':=by
 have i:=λW V (hV:xP v0 W B gr pc r0 r1 r2 r3 buf V m dom mem mb mc bad) (hW:Below w.heap.size w W)=>zbi hV H G d x.a ka (C.below hW);obtain⟨N,M,rfl, -⟩:=C.slice;obtain⟨s,K,rfl, -⟩:=J.slice;obtain⟨ua,uc,rfl, -⟩:=zh.slice h.vR;obtain⟨op,reg,v,a,b,R⟩:=x;simp only [] at U j C J i ⊢;obtain⟨reg,rfl⟩:∃k:Nat,reg=(k:Int):=⟨reg.toNat,by omega⟩;obtain⟨v,rfl⟩:∃k:Nat,v=(k:Int):=⟨v.toNat,by omega⟩;have hr4:reg<4:=by omega
 have uS:v<mem.length:=by omega
 have bW:(v:Int)<(mem.length:Int):=j.2;have hrI:(reg:Int)<4:=U.2;try simp only [Int.toNat_natCast]
 clear C J;unfold qO;simp only [];unfold qD at i;generalize hva:yF [r0,r1,r2,r3] dom d a=A at i ⊢;clear hva;generalize a.kind=ak at i ⊢;generalize a.n=an at i ⊢;generalize a.op=ao at i ⊢;generalize a.kids.length=al at i ⊢;generalize b.kind=bk at ⊢;generalize b.n=bn at ⊢;generalize b.op=bo at ⊢;generalize b.kids.length=bl at ⊢;have O:=qh i;clear i;obtain⟨res,g⟩:∃r:Option (zD × List Int × Bool),r=(some (⟨pc, [r0,r1,r2,r3],buf⟩,mem,bad||decide (A=0))):=⟨_,rfl⟩;rw [<-g];have E:=qh g;clear g;obtain⟨un,l⟩:=qxE buf.length;rw [<-l] at h I;have HUN:=qh l;have HR:=qh h;have T:=qh Z
 have z:=qh ((Below.refl w.heap.size w).alloc (Nat.le_refl _) (.cells #[I4 op,I4 (reg:Int),I4 (v:Int),I4 ak,I4 an, .int .u8 ao, .slice N al M,I4 bk,I4 bn, .int .u8 bo, .slice s bl K,I4 R] 107));have t:=qh (zQ w (.cells #[I4 op,I4 (reg:Int),I4 (v:Int),I4 ak,I4 an, .int .u8 ao, .slice N al M,I4 bk,I4 bn, .int .u8 bo, .slice s bl K,I4 R] 107));clear h l Z;go_enter Tryz.func167,Tryz.ntmps167
 go_upto_region 1 with fail
 generalize World.alloc w _=W at z t ⊢;obtain⟨D,u⟩:=qxE w.heap.size;rw [<-u] at t ⊢;clear u;have c:=qh (HR.o.below z.o);have Y:J2 (Below B w W):=z.o.mono T.o;have CC:J2 (∀x,Below W.heap.size W x->K3 x D 3 (I4 ak)/\K3 x D 4 (I4 an)/\K3 x D 5 (.int .u8 ao)/\K3 x D 6 (.slice N al M)/\K3 x gr 10 (.bool bad)):=λx hx=>⟨zl hx _ _ (ze t.o 3),zl hx _ _ (ze t.o 4),zl hx _ _ (ze t.o 5),zl hx _ _ (ze t.o 6),zl hx _ _ (ze c.o.block 10)⟩;obtain⟨c0,c1,c2,c3,c4⟩:=CC.o W (Below.refl _ _);have L:W.frozen? ⟨gr,10,none⟩=false:=zH c.o.block 10;cases bad with
 |true=>
  go_wp2_with fail
  go_ret;rw [E.o];exact jV (c.o.zmW _) (Y.o.setCell (p:=⟨gr,10,none⟩) c.o.base _)
 |false=>
 go_wp2_with fail
 refine(O.o W _ c.o z.o).mono ?_
 rintro e F ⟨rfl,q⟩;have f:=qh (c.o.below q);have y:J2 (Below B w F):=Y.o.trans (q.mono (Nat.le_trans T.o z.o.size));have d1:F.cell? ⟨gr,10,none⟩=some (.bool false):=ze f.o.block 10;have g0:F.frozen? ⟨gr,10,none⟩=false:=zH f.o.block 10;clear q L c0 c1 c2 c3 c4;by_cases hz:A=0
 ·subst hz;go_wp2_with fail
  go_ret;rw [E.o];exact jV (f.o.zmW _) (y.o.setCell (p:=⟨gr,10,none⟩) f.o.base _)
 have hz1:((A:Int)==0)=false:=by simp [hz]
 have HZ:J2 ((false||decide (A=0))=false):=by simp [J2,hz]
 clear hz;go_wp2_with fail
 go_ret;rw [E.o,HZ.o];exact jV (f.o.zmW _) (y.o.setCell (p:=⟨gr,10,none⟩) f.o.base _)
theorem zqP {w:World} {B gr mb mc:Nat} {pc r0 r1 r2 r3 dom:Int} {buf:List zq} {bv:Value} {m:zC} {mem:List Int} {bad:Bool} (h:xP v0 w B gr pc r0 r1 r2 r3 buf bv m dom mem mb mc bad) (F:B<=w.heap.size) (U:1<=dom) (T:dom<=1000) (d:Nat) (x:yg) (ka D:Value) (t:zJ d w x.a ka) (q:zJ d w x.b D)
  (C:0<=x.reg/\x.reg<4) (f:0<=x.var/\x.var<(mem.length:Int)) (p:buf.length<=1000000):Calls Tryz.prog 162 #[.pointer (some ⟨gr,0,none⟩),qO x ka D] w λe w'=>
  vk v0 w B gr m dom mb mc (if buf.length=0 then some (⟨pc, [r0,r1,r2,r3],buf⟩,mem,bad) else none) e w':=by
 obtain⟨J,I,rfl, -⟩:=t.slice;obtain⟨H,G,rfl, -⟩:=q.slice;obtain⟨s,K,rfl, -⟩:=zh.slice h.vR;obtain⟨op,reg,v,a,b,A⟩:=x;simp only [] at C f t q ⊢;obtain⟨reg,rfl⟩:∃k:Nat,reg=(k:Int):=⟨reg.toNat,by omega⟩;obtain⟨v,rfl⟩:∃k:Nat,v=(k:Int):=⟨v.toNat,by omega⟩;have R:reg<4:=by omega
 have uS:v<mem.length:=by omega
 have bW:(v:Int)<(mem.length:Int):=f.2;have O:(reg:Int)<4:=C.2;try simp only [Int.toNat_natCast]
 clear t q;unfold qO;simp only [];generalize a.kind=ak at ⊢;generalize a.n=an at ⊢;generalize a.op=ao at ⊢;generalize a.kids.length=al at ⊢;generalize b.kind=bk at ⊢;generalize b.n=bn at ⊢;generalize b.op=bo at ⊢;generalize b.kids.length=bl at ⊢;obtain⟨N,c⟩:∃r:Option (zD × List Int × Bool),r=(if buf.length=0 then some (⟨pc, [r0,r1,r2,r3],buf⟩,mem,bad) else none):=⟨_,rfl⟩;rw [<-c];have z:=qh c;clear c;obtain⟨Z,i⟩:=qxE buf.length;rw [<-i] at h p;have V:=qh i;have X:=qh h;have M:=qh F
 have y:=qh ((Below.refl w.heap.size w).alloc (Nat.le_refl _) (.cells #[I4 op,I4 (reg:Int),I4 (v:Int),I4 ak,I4 an, .int .u8 ao, .slice J al I,I4 bk,I4 bn, .int .u8 bo, .slice H bl G,I4 A] 107));have L:=qh (zQ w (.cells #[I4 op,I4 (reg:Int),I4 (v:Int),I4 ak,I4 an, .int .u8 ao, .slice J al I,I4 bk,I4 bn, .int .u8 bo, .slice H bl G,I4 A] 107));clear h i F;go_enter Tryz.func162,Tryz.ntmps162
 go_upto_region 1 with fail
 generalize World.alloc w _=W at y L ⊢;obtain⟨gi,j⟩:=qxE w.heap.size;rw [<-j] at L ⊢;clear j;have l:=qh (X.o.below y.o);have E:J2 (Below B w W):=y.o.mono M.o;go_wp2_with fail
 refine(zav l.o).mono ?_
 rintro e Y ⟨rfl,rfl⟩;by_cases hz:buf.length=0
 ·have u:=qh hz;have g:decide (buf.length=0)=true:=decide_eq_true hz;clear hz;rw [g];go_wp2_with fail
  go_ret;rw [z.o,if_pos u.o];exact jV l.o E.o
 have u:=qh hz;have g:decide (buf.length=0)=false:=decide_eq_false hz;clear hz;rw [g];go_wp2_with fail
 go_ret;rw [z.o,if_neg u.o];exact gY E.o
theorem ztN {w:World} {B gr mb mc:Nat} {pc r0 r1 r2 r3 dom:Int} {buf:List zq} {bv:Value} {m:zC} {mem:List Int} {bad:Bool} (h:xP v0 w B gr pc r0 r1 r2 r3 buf bv m dom mem mb mc bad) (H:B<=w.heap.size) (Y:1<=dom) (X:dom<=1000) (d:Nat) (x:yg) (ka G:Value) (z:zJ d w x.a ka) (y:zJ d w x.b G)
  (F:0<=x.reg/\x.reg<4) (g:0<=x.var/\x.var<(mem.length:Int)) (u:buf.length<=1000000):Calls Tryz.prog 163 #[.pointer (some ⟨gr,0,none⟩),qO x ka G] w λe w'=>
  vk v0 w B gr m dom mb mc (if buf.length=0\/¬m.model=2 then some (⟨pc, [r0,r1,r2,r3],buf⟩,mem,bad) else none) e w':=by
 obtain⟨M,L,rfl, -⟩:=z.slice;obtain⟨J,I,rfl, -⟩:=y.slice;obtain⟨ua,uc,rfl, -⟩:=zh.slice h.vR;obtain⟨op,reg,v,a,b,E⟩:=x;simp only [] at F g z y ⊢;obtain⟨reg,rfl⟩:∃k:Nat,reg=(k:Int):=⟨reg.toNat,by omega⟩;obtain⟨v,rfl⟩:∃k:Nat,v=(k:Int):=⟨v.toNat,by omega⟩;have V:reg<4:=by omega
 have uS:v<mem.length:=by omega
 have bW:(v:Int)<(mem.length:Int):=g.2;have U:(reg:Int)<4:=F.2;try simp only [Int.toNat_natCast]
 clear z y;unfold qO;simp only [];generalize a.kind=ak at ⊢;generalize a.n=an at ⊢;generalize a.op=ao at ⊢;generalize a.kids.length=al at ⊢;generalize b.kind=bk at ⊢;generalize b.n=bn at ⊢;generalize b.op=bo at ⊢;generalize b.kids.length=bl at ⊢;obtain⟨T,c⟩:∃r:Option (zD × List Int × Bool),r=(if buf.length=0\/¬m.model=2 then some (⟨pc, [r0,r1,r2,r3],buf⟩,mem,bad) else none):=⟨_,rfl⟩;rw [<-c];have p:=qh c;clear c;obtain⟨un,j⟩:=qxE buf.length;rw [<-j] at h u;have K:=qh j;have s:=qh h;have O:=qh H
 have D:=qh ((Below.refl w.heap.size w).alloc (Nat.le_refl _) (.cells #[I4 op,I4 (reg:Int),I4 (v:Int),I4 ak,I4 an, .int .u8 ao, .slice M al L,I4 bk,I4 bn, .int .u8 bo, .slice J bl I,I4 E] 107));have N:=qh (zQ w (.cells #[I4 op,I4 (reg:Int),I4 (v:Int),I4 ak,I4 an, .int .u8 ao, .slice M al L,I4 bk,I4 bn, .int .u8 bo, .slice J bl I,I4 E] 107));clear h j H;go_enter Tryz.func163,Tryz.ntmps163
 go_upto_region 1 with fail
 generalize World.alloc w _=W at D N ⊢;obtain⟨gi,l⟩:=qxE w.heap.size;rw [<-l] at N ⊢;clear l;have f:=qh (s.o.below D.o);have q:J2 (Below B w W):=D.o.mono O.o;have CC:J2 (∀x,Below W.heap.size W x->K3 x gr 6 (I4 m.model)):=λx hx=>zl hx _ _ (ze f.o.block 6);go_wp2_with fail
 refine(zav f.o).mono ?_
 rintro e R ⟨rfl,rfl⟩;by_cases hz:buf.length=0
 ·have A:=qh hz;have i:decide (buf.length=0)=true:=decide_eq_true hz;clear hz;rw [i];go_wp2_with fail
  go_ret;rw [p.o,if_pos (.inl A.o)];exact jV f.o q.o
 have A:=qh hz;have i:decide (buf.length=0)=false:=decide_eq_false hz;clear hz;rw [i];have c0:=CC.o R (Below.refl _ _);by_cases hm:m.model=2
 ·have t:((m.model:Int) !=2)=false:=by simp [hm]
  have C:=qh hm;clear hm;go_wp2_with fail
  go_ret;rw [p.o,if_neg (λh=>h.elim A.o (λZ=>Z C.o))];exact gY q.o
 have t:((m.model:Int) !=2)=true:=by simp [hm]
 have C:=qh hm;clear hm;go_wp2_with fail
 go_ret;rw [p.o,if_pos (.inr C.o)];exact jV f.o q.o
theorem zox {w:World} {B gr mb mc:Nat} {pc r0 r1 r2 r3 dom:Int} {buf:List zq} {bv:Value} {m:zC} {mem:List Int} {bad:Bool} (h:xP v0 w B gr pc r0 r1 r2 r3 buf bv m dom mem mb mc bad) (J:B<=w.heap.size) (hd1:1<=dom) (hd2:dom<=1000) (d:Nat) (x:yg) (ka I:Value) (A:zJ d w x.a ka) (z:zJ d w x.b I)
  (H:0<=x.reg/\x.reg<4) (g:0<=x.var/\x.var<(mem.length:Int)) (y:buf.length<=1000000):Calls Tryz.prog 166 #[.pointer (some ⟨gr,0,none⟩),qO x ka I] w λe w'=>
  vk v0 w B gr m dom mb mc (if buf.length=0 then some (⟨pc, [r0,r1,r2,r3],buf⟩,mem.set x.var.toNat 0,bad) else none) e w':=by
 obtain⟨O,N,rfl, -⟩:=A.slice;obtain⟨M,L,rfl, -⟩:=z.slice;obtain⟨ua,uc,rfl, -⟩:=zh.slice h.vR;obtain⟨op,reg,v,a,b,G⟩:=x;simp only [] at H g A z ⊢;obtain⟨reg,rfl⟩:∃k:Nat,reg=(k:Int):=⟨reg.toNat,by omega⟩;obtain⟨v,rfl⟩:∃k:Nat,v=(k:Int):=⟨v.toNat,by omega⟩;have hr4:reg<4:=by omega
 have U:v<mem.length:=by omega
 have bW:(v:Int)<(mem.length:Int):=g.2;have s:(reg:Int)<4:=H.2;try simp only [Int.toNat_natCast]
 clear A z;unfold qO;simp only [];generalize a.kind=ak at ⊢;generalize a.n=an at ⊢;generalize a.op=ao at ⊢;generalize a.kids.length=al at ⊢;generalize b.kind=bk at ⊢;generalize b.n=bn at ⊢;generalize b.op=bo at ⊢;generalize b.kids.length=bl at ⊢;obtain⟨V,c⟩:∃r:Option (zD × List Int × Bool),r=(if buf.length=0 then some (⟨pc, [r0,r1,r2,r3],buf⟩,mem.set v 0,bad) else none):=⟨_,rfl⟩;rw [<-c];have F:=qh c;clear c;obtain⟨un,j⟩:=qxE buf.length;rw [<-j] at h y;have HUN:=qh j;have HR:=qh h;have T:=qh J
 have E:=qh ((Below.refl w.heap.size w).alloc (Nat.le_refl _) (.cells #[I4 op,I4 (reg:Int),I4 (v:Int),I4 ak,I4 an, .int .u8 ao, .slice O al N,I4 bk,I4 bn, .int .u8 bo, .slice M bl L,I4 G] 107));have D:=qh (zQ w (.cells #[I4 op,I4 (reg:Int),I4 (v:Int),I4 ak,I4 an, .int .u8 ao, .slice O al N,I4 bk,I4 bn, .int .u8 bo, .slice M bl L,I4 G] 107));clear h j J;go_enter Tryz.func166,Tryz.ntmps166
 go_upto_region 1 with fail
 generalize World.alloc w _=W at E D ⊢;obtain⟨gi,q⟩:=qxE w.heap.size;rw [<-q] at D ⊢;clear q;have f:=qh (HR.o.below E.o);have Z:J2 (Below B w W):=E.o.mono T.o;have R:J2 (∀x,Below W.heap.size W x->K3 x gi 2 (I4 (v:Int))/\K3 x gr 9 (.slice (some ⟨mb,0,none⟩) mem.length mc)):=λx hx=>⟨zl hx _ _ (ze D.o 2),zl hx _ _ (ze f.o.block 9)⟩;refine wp_region_noPanic ?_
 refine xg (n0:=7) (S:=λx=>Below W.heap.size W x) (by kernel_rfl) ((Below.refl _ _).drew) (λl=> ?_)
 refine zU 0 (λ_=>l) ?_
 refine zU 1 (λ_=>l) ?_
 refine zU 2 (λ_=>l) ?_
 refine vX [6,7] 3 R.o l ?_
 refine zU 4 (λ_=>l) ?_
 refine vX [6,7] 5 R.o l ?_
 refine zU 6 (λ_=>l) ?_
 refine kg 7 rfl (λK hK=> ?_)
 obtain⟨Y,X⟩:=(f.o.below (Below.refl _ _).drew).bN U;go_simp
 refine hK.out _ _ (λh=>absurd rfl h) ?_
 clear hK K;refine xZ (by kernel_rfl) ?_ _
 refine NoPanic.normal ?_
 clear Y X;have t:=qh ((f.o.below (Below.refl _ _).drew).zew v 0);have u:J2 (Below B w (W.drew.setCell ⟨mb,v,none⟩ (I4 0))):=Z.o.drew.setCell (p:=⟨mb,v,none⟩) f.o.uG.1 _;go_wp2_with fail
 refine(zav t.o).mono ?_
 rintro e w3 ⟨rfl,rfl⟩;by_cases hz:buf.length=0
 ·have C:=qh hz;have i:decide (buf.length=0)=true:=decide_eq_true hz;clear hz;rw [i];go_wp2_with fail
  go_ret;rw [F.o,if_pos C.o];exact jV t.o u.o
 have C:=qh hz;have i:decide (buf.length=0)=false:=decide_eq_false hz;clear hz;rw [i];go_wp2_with fail
 go_ret;rw [F.o,if_neg C.o];exact gY u.o
