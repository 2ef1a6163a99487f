/- Steps. -/
import Derived.Test.YtliajkheeniljaaGreatDoorZpDo
import Derived.Test.YtliajkheeniljaaGreatDoorZpExpQ
import Derived.Test.YtliajkheeniljaaGreatDoorZpSame7
import Derived.Test.YtliajkheeniljaaGreatDoorZpStart
set_option linter.all false
namespace Go.Proofs.YtliajkheeniljaaGreatDoor
open Go.RowKit
set_option maxRecDepth 100000
set_option maxHeartbeats 16000000
theorem zbF:(Tryz.prog.info? 71).map (·.size)=some 3:=by kernel_rfl
theorem zcR:(Tryz.prog.info? 52).map (λi=>(i.zero,i.size,i.bytes))=some (some (.slice none 0 0),1,24):=by kernel_rfl
theorem zdL:(Tryz.prog.info? 28).map (λi=>(i.zero,i.size,i.bytes))=some (some (.slice none 0 0),1,24):=by kernel_rfl
def jL (w:World) (s:xV) (sv mv nv:Value):Prop:=zaS w sv s.states/\zh zay 1 w mv s.moves/\zh zbA 1 w nv s.next
theorem jL.below {w w':World} {s:xV} {sv mv nv:Value} (h:jL w s sv mv nv) (hb:Below w.heap.size w w'):jL w' s sv mv nv:=⟨zh.below qp.stays h.1 hb,zh.below zay.stays h.2.1 hb,zh.below zbA.stays h.2.2 hb⟩
theorem zZ.mono {F G:Nat->Prop} {X:World} {P:World->Prop} (h:zZ F X P) (hF:∀k,G k->F k):zZ G X P:=h.step (Since.refl (λ_=>False) X) (λ_ h=>h.elim) (λk hk=> .inl (hF k hk))
def zhn (w:World) (r:xV × Int) (e:Ending) (w':World):Prop:=(∃sv mv nv,e= .returned (.tuple #[.agg #[sv,mv,nv], .int .i64 r.2])/\jL w' r.1 sv mv nv/\zZ (λk=>k<w.heap.size) w' (λy=>jL y r.1 sv mv nv)/\∀a n c,sv= .slice a n c->n<=c)/\Below w.heap.size w w'
theorem zkI {w w':World} {r:xV × Int} {k:Int} (h:r=(⟨[], [], []⟩,k)) (hb:Below w.heap.size w w'):zhn w r (.returned (.tuple #[.agg #[.slice none 0 0, .slice none 0 0, .slice none 0 0], .int .i64 k])) w':=by
 subst h;exact⟨⟨_,_,_,rfl,⟨zh.nil _,zh.nil _,zh.nil _⟩,λ_ _=>⟨zh.nil _,zh.nil _,zh.nil _⟩,λa n c e=>by cases e;exact Nat.le_refl _⟩,hb⟩
def zoj (o:Option xV):xV × Int:=match o with|some s=>(s,0)|none=>(⟨[], [], []⟩,40)
theorem zoo {c:zI} {m:zF} {d:Nat} {room:Int} {s:zl} {ms:List zq} {k:Nat} (hk:k<ms.length) (l:List zl) (nx:List Int):wH c m d room s (ms.drop k) l nx=
  if room<=((putAt l (qC c m s (ms.getD k default) d).1).2:Int) then none else wH c m d room s (ms.drop (k+1)) (putAt l (qC c m s (ms.getD k default) d).1).1 (nx++ [((putAt l (qC c m s (ms.getD k default) d).1).2:Int)]):=by
 have h:ms.drop k=ms.getD k default::ms.drop (k+1):=by
  rw [List.getD_eq_getElem?_getD,List.getElem?_eq_getElem hk];exact(List.drop_eq_getElem_cons hk)
 rw [h];rfl
theorem zhs {c:zI} {m:zF} {d:Nat} {room:Int} {f i:Nat} {l:List zl} {ml:List (List zq)} {nl:List (List Int)} (hi:i<l.length):pG c m d room (f+1) i l ml nl=
  match wH c m d room (l.getD i default) (qE c m (l.getD i default) d) l [] with
  |none=>none
  |some r=>pG c m d room f (i+1) r.1 (ml++ [qE c m (l.getD i default) d]) (nl++ [r.2]):=by
 show(if i<l.length then _ else _)=_
 rw [if_pos hi]
 rfl
theorem zqr {c:zI} {m:zF} {d:Nat} {room:Int} {f i:Nat} {l:List zl} {ml:List (List zq)} {nl:List (List Int)} (hi:¬i<l.length):pG c m d room (f+1) i l ml nl=some ⟨l,ml,nl⟩:=by
 unfold pG
 rw [if_neg hi]
section
variable {W X X1:World} {g r:Nat} {sv mv nv xv:Value} {sl:List zl} {ml:List (List zq)} {nl:List (List Int)} {xl:List Int} {sc mc nc:List (List Value)}
theorem ztK {B e size n g:Nat} {v:Value} {xs:List Value} {c:Array Value} {t:TypeId} {f:Nat × Nat} {o:Obj} (h:X.ownsRow B e size v n xs) (hb:X.heap[g]? =some (.cells c t f)) (hne:e≠t) (h4:Since (λk=>v.ownBlock=some k) (X.alloc o) X1):X1.heap[g]? =some (.cells c t f):=
 ((((Since.refl _ X).alloc o).trans h4 (λ_ hk=> .inl hk):Since (λk=>v.ownBlock=some k) X X1).block _ (zx hb) (λe=>xW h hb hne _ e rfl)).trans hb
end
end Go.Proofs.YtliajkheeniljaaGreatDoor
namespace Go.Proofs.YtliajkheeniljaaGreatDoor
open Go.RowKit
set_option maxRecDepth 100000
set_option maxHeartbeats 16000000
theorem zoY:Tryz.prog.underlying 32=some (.struct (Tryz.prog.fieldsOf 32)):=by kernel_rfl
theorem zoZ:Tryz.prog.stoodInHeld 32=false:=by kernel_rfl
@[go_sem] theorem z1F:Tryz.prog.eqGuardType Tryz.prog.depth 32=false:=by kernel_rfl
theorem zm8:(Tryz.prog.fieldsOf 32).toList.map (λf=>(f.name,f.type,f.offset))= [("Kind",3,0),("Thread",3,1),("Var",3,2)] :=by kernel_rfl
@[go_sem] theorem z1j (w:World) (a b c x y z:Int):(Op.equalIn 10000 32 (.agg #[.int .i64 a, .int .i64 b, .int .i64 c]) (.agg #[.int .i64 x, .int .i64 y, .int .i64 z])).run Tryz.prog w
  = .ok (a==x && b==y && c==z) w:=by
 rw [run_equalIn_agg w 9999 _ _ _ zoY zoZ]
 obtain⟨f0,f1,f2,hf,h0,h1,h2⟩:∃f0 f1 f2,(Tryz.prog.fieldsOf 32).toList= [f0,f1,f2] /\(f0.name,f0.type,f0.offset)=("Kind",3,0)/\(f1.name,f1.type,f1.offset)=("Thread",3,1)/\(f2.name,f2.type,f2.offset)=("Var",3,2):=by
  have h:=zm8
  generalize (Tryz.prog.fieldsOf 32).toList=l at h
  have hl:l.length=3:=by have:=congrArg List.length h;simpa using this
  match l,hl,h with
  | [f0,f1,f2],_,h=>
  simp only [List.map_cons,List.map_nil,List.cons.injEq,and_true] at h
  exact⟨f0,f1,f2,rfl,h.1,h.2.1,h.2.2⟩
 simp only [Prod.mk.injEq] at h0 h1 h2
 rw [hf]
 have p0:=λ(w:World) (a b c:Int)=>jR w #[.int .i64 a, .int .i64 b, .int .i64 c] 0 a rfl
 have p1:=λ(w:World) (a b c:Int)=>jR w #[.int .i64 a, .int .i64 b, .int .i64 c] 1 b rfl
 have p2:=λ(w:World) (a b c:Int)=>jR w #[.int .i64 a, .int .i64 b, .int .i64 c] 2 c rfl
 have ge:=zgn 9998
 cases e0:a==x<;>cases e1:b==y<;>cases e2:c==z<;>simp [Op.eqFields,h0,h1,h2,p0,p1,p2,ge,e0,e1,e2]
theorem zm9 {w:World} {a:Option Addr} {n cap:Nat} {l:List (List zq)} (h:zh zay 1 w (.slice a n cap) l) (j:Nat) (hj:j<l.length):∃b off ka kc,a=some ⟨b,off,none⟩/\b<w.heap.size/\w.cell? ⟨b,off+j,none⟩=some (.slice ka (l.getD j []).length kc)/\qj w (.slice ka (l.getD j []).length kc) (l.getD j []):=by
 obtain⟨b,off,cs,h1,h2,h3,h4,v,h5,h6⟩:=zh.part h j hj
 subst h5
 obtain⟨ka,kc,rfl, -⟩:=zh.slice h6
 have:=h4 0 (by omega)
 rw [Nat.mul_one,Nat.add_zero] at this
 exact⟨b,off,ka,kc,h1,h2,this,h6⟩
theorem zpa {w:World} {a:Option Addr} {n cap:Nat} {l:List (List Int)} (h:zh zbA 1 w (.slice a n cap) l) (j:Nat) (hj:j<l.length):∃b off ka kc,a=some ⟨b,off,none⟩/\b<w.heap.size/\w.cell? ⟨b,off+j,none⟩=some (.slice ka (l.getD j []).length kc)/\xJ w (.slice ka (l.getD j []).length kc) (l.getD j []):=by
 obtain⟨b,off,cs,h1,h2,h3,h4,v,h5,h6⟩:=zh.part h j hj
 subst h5
 obtain⟨ka,kc,rfl, -⟩:=zh.slice h6
 have:=h4 0 (by omega)
 rw [Nat.mul_one,Nat.add_zero] at this
 exact⟨b,off,ka,kc,h1,h2,this,h6⟩
def zbw (sv mv nv:Value):Value:= .agg #[sv,mv,nv]
def zkc (l:List zl) (r:Int):Prop:=(∃i:Nat,i<l.length/\r=i/\(l.getD i default).bad=true/\∀j,j<i->(l.getD j default).bad=false)\/(r= -1/\∀j,j<l.length->(l.getD j default).bad=false)
theorem zkc.one {l:List zl} {r q:Int} (h:zkc l r) (k:zkc l q):r=q:=by
 rcases h with⟨i,h1,rfl,h2,h3⟩|⟨rfl,h1⟩<;>rcases k with⟨j,k1,rfl,k2,k3⟩|⟨rfl,k1⟩
 ·rcases Nat.lt_trichotomy i j with e|e|e
  ·rw [k3 i e] at h2;cases h2
  ·rw [e]
  rw [h3 j e] at k2;cases k2
 ·rw [k1 i h1] at h2;cases h2
 ·rw [h1 j k1] at k2;cases k2
 rfl
def zrI (w:World) (l:List zl) (e:Ending) (w':World):Prop:=∃r,e= .returned (.int .i64 r)/\zkc l r/\Below w.heap.size w w'
theorem zj6 (w:World) (a b:Value) (bd:Bool):Calls Tryz.prog 61 #[.agg #[a,b, .bool bd]] w λe w'=>e= .returned (.bool bd)/\Below w.heap.size w w':=by
 go_enter Tryz.func61,Tryz.ntmps61
 go_wp2
 go_ret
 exact⟨rfl,(Below.refl _ _).alloc (Nat.le_refl _) _⟩
theorem ziC (w:World) (sv:Value) (l:List zl) (hl:zaS w sv l):Calls Tryz.prog 60 #[sv, .func (.func 61) #[] #[]] w (zrI w l):=by
 obtain⟨a,cap,rfl,hn⟩:=zh.slice hl
 have HL:=qh hl
 clear hl
 obtain⟨n,hnd⟩:∃n,n=l.length:=⟨_,rfl⟩
 rw [<-hnd] at hn HL ⊢
 have HN:=qh hnd
 clear hnd
 go_enter Tryz.func60,Tryz.ntmps60
 go_wp2_with fail
 go_loopg [8] n (λg s8 wr=>∃i:Nat,i<=n/\Hid (g=n - i)/\s8= .int .i64 i/\Hid (∀j,j<i->(l.getD j default).bad=false)/\Hid (Below w.heap.size w wr))
 case atStart=>exact⟨0,Nat.zero_le _,rfl,rfl,λj hj=>by omega,Below.refl _ _⟩
 case round=>
 obtain⟨i,hi,HG,rfl,HJ,HB⟩:=hrel
 by_cases hlt:i<n
 rotate_left
 ·obtain rfl:n=i:=by omega
  go_wp2_with fail
  go_ret
  exact⟨-1,rfl, .inr ⟨rfl,λj hj=>HJ.out j (by rw [HN.out];exact hj)⟩,HB.out⟩
 have qN:(i:Int)<(n:Int):=by omega
 obtain⟨eb,eo,tv,yv,yh, -,x0,x1,x2, -⟩:=zaS.part (zh.below qp.stays HL.out HB.out) i (by rw [<-HN.out];exact hlt)
 subst yh
 obtain⟨bd,hbd⟩:∃b,b=(l.getD i default).bad:=⟨_,rfl⟩
 rw [<-hbd] at x2
 have pK:=qh hbd
 clear hbd
 cases bd
 ·go_wp2_with(go_at_call 61;go_must(refine(zj6 _ _ _ _).mono ?_);rintro e w2 ⟨rfl,hb2⟩;(have HB2:=qh (zG HB.out hb2));clear hb2)
  go_roundg (n - (i+1))
  case measure=>rw [HG.out];omega
  case rel=>exact⟨i+1,by omega,rfl,by simp,λj hj=>by
   by_cases he:j=i
   ·subst he;exact pK.out.symm
   exact HJ.out j (by omega),HB2.out⟩
 go_wp2_with(go_at_call 61;go_must(refine(zj6 _ _ _ _).mono ?_);rintro e w2 ⟨rfl,hb2⟩;(have HB2:=qh (zG HB.out hb2));clear hb2)
 go_ret
 exact⟨i,rfl, .inl ⟨i,by rw [<-HN.out];exact hlt,rfl,pK.out.symm,HJ.out⟩,HB2.out⟩
theorem ztJ (w:World) (S:xV) (sv mv nv:Value) (h:jL w S sv mv nv):Calls Tryz.prog 31 #[zbw sv mv nv] w (zrI w S.states):=by
 have hl:=h.1
 obtain⟨a,cap,rfl, -⟩:=zh.slice hl
 generalize S.states.length=n at hl ⊢
 unfold zbw
 have hB:=(Below.refl w.heap.size w).alloc (Nat.le_refl _) (.cells #[.slice a n cap,mv,nv] 71)
 have HI:=qh (ziC _ _ _ (zh.below qp.stays hl hB))
 have HB:=qh hB
 have H1:=qh (yj w (.cells #[.slice a n cap,mv,nv] 71))
 clear hl hB h
 go_enter Tryz.func31,Tryz.ntmps31
 go_upto_region 1 with fail
 generalize World.alloc w _=W at HB H1 HI ⊢
 generalize w.heap.size=gx at H1 ⊢
 have c0:=ze H1.out 0
 go_wp2_with(go_at_call 60;go_must(refine HI.out.mono ?_);rintro e w2 ⟨r,rfl,hr,hb2⟩;(have HR:=qh hr);(have HB2:=qh hb2);clear hr hb2)
 go_ret
 exact⟨r,rfl,HR.out,HB.out.trans (HB2.out.mono HB.out.size)⟩
def zb0 (ms:List zq) (i:Nat) (nx:List Int) (k:Nat):List (Int × zq × Nat):=if (i:Int)<nx.getD k 0/\k<ms.length then [(nx.getD k 0,ms.getD k default,i)] else []
def j5 (ms:List zq) (i:Nat) (nx:List Int) (n:Nat):List (Int × zq × Nat):=(List.range n).flatMap (zb0 ms i nx)
def qG (S:xV) (n:Nat):List (Int × zq × Nat):=(List.range n).flatMap λi=>j5 (S.moves.getD i []) i (S.next.getD i []) (S.next.getD i []).length
def kJ:List (Int × zq × Nat)->Int->Option (zq × Nat)
 | [],_=>none
 |e::l,n=>if e.1=n then some e.2 else kJ l n
def zcZ (S:xV) (n:Int):Option (zq × Nat):=kJ (qG S S.next.length) n
theorem ze5 (a b:List (Int × zq × Nat)) (n:Int):kJ (a++b) n=match kJ a n with|some x=>some x|none=>kJ b n:=by
 induction a with
 |nil=>rfl
 |cons e a ih=>
 simp only [List.cons_append,kJ]
 split
 ·rfl
 exact ih
def zpb (x:zq × Nat):Value:= .agg #[.int .i64 x.1.kind, .int .i64 x.1.thread, .int .i64 x.1.var, .int .i64 (x.2:Int)]
def jH (l:List (Int × Value)) (es:List (Int × zq × Nat)):Prop:=∀n,qX l n=(kJ es n).map zpb
theorem jH.had {l:List (Int × Value)} {es:List (Int × zq × Nat)} (h:jH l es) {e:Int × zq × Nat} (hh:(qX l e.1).isSome=true):jH l (es++ [e]):=λn=>by
 rw [ze5,h n]
 cases hf:kJ es n with
 |some x=>rfl
 |none=>
 have:e.1≠n:=λq=>by rw [q,h n,hf] at hh;simp at hh
 simp [kJ,this]
theorem jH.put {l:List (Int × Value)} {es:List (Int × zq × Nat)} (h:jH l es) {e:Int × zq × Nat} (hh:qX l e.1=none):jH (wC l e.1 (zpb e.2)) (es++ [e]):=λn=>by
 rw [ze5,zoG,h n]
 by_cases q:e.1=n
 ·rw [if_pos q]
  have:=h n
  rw [<-q,hh] at this
  have hf:kJ es n=none:=by rw [<-q];simpa using this.symm
  rw [hf];simp [kJ,q]
 rw [if_neg q]
 cases kJ es n<;>simp [kJ,q]
theorem ze6 (W:World):(zeroValue 153).run Tryz.prog W= .ok (.agg #[.int .i64 0, .int .i64 0, .int .i64 0, .int .i64 0]) W:=by
 obtain⟨i,hi,hz, -⟩:=info_parts (show(Tryz.prog.info? 153).map (λi=>(i.zero,i.size,i.bytes))=some (some (.agg #[.int .i64 0, .int .i64 0, .int .i64 0, .int .i64 0]),4,32) by kernel_rfl)
 simp [zeroValue,typeInfo,hi,hz]
def zn6 (w:World) (S:xV) (e:Ending) (w':World):Prop:=∃(b:Nat) (l:List (Int × Value)),e= .returned (.map (some b))/\xG w' b l/\w.heap.size<=b/\jH l (qG S S.next.length)/\Below w.heap.size w w'
theorem ztF (w:World) (S:xV) (sv mv nv:Value) (h:jL w S sv mv nv) (hm:S.moves.length=S.next.length):Calls Tryz.prog 93 #[zbw sv mv nv] w (zn6 w S):=by
 obtain⟨h1,h2,h3⟩:=h
 obtain⟨a1,c1,rfl, -⟩:=zh.slice h1
 obtain⟨a2,c2,rfl, -⟩:=zh.slice h2
 obtain⟨a3,c3,rfl,hl3⟩:=zh.slice h3
 obtain⟨n,hn⟩:∃n,n=S.next.length:=⟨_,rfl⟩
 rw [hm] at h2
 rw [<-hn] at h2 h3 hl3
 rw [hm, <-hn]
 generalize S.states.length=n1
 unfold zbw
 have hB:=(Below.refl w.heap.size w).alloc (Nat.le_refl _) (.cells #[.slice a1 n1 c1, .slice a2 n c2, .slice a3 n c3] 71)
 have H1:=qh (yj w (.cells #[.slice a1 n1 c1, .slice a2 n c2, .slice a3 n c3] 71))
 have HM:=qh (zh.below zay.stays h2 hB)
 have HN:=qh (zh.below zbA.stays h3 hB)
 have HB:=qh hB
 have HL:=qh hn
 have HML:=qh hm
 clear h1 h2 h3 hB hn hm
 have hmm:= @run_makeMap Tryz.prog
 go_enter Tryz.func93,Tryz.ntmps93
 go_upto_region 1 with fail
 generalize World.alloc w _=W at HB H1 HM HN ⊢
 obtain⟨gx,hgx⟩:∃gx,gx=w.heap.size:=⟨_,rfl⟩
 rw [<-hgx] at H1 ⊢
 have yU:=qh hgx
 clear hgx
 have h0:xG (W.alloc (.map #[] 0)) W.heap.size [] :=⟨#[],0,yj W _,rfl⟩
 have HM0:=qh h0
 have HB0:=qh ((Below.refl W.heap.size W).alloc (Nat.le_refl _) (.map #[] 0))
 clear h0
 go_upto_region 2 with fail
 clear hmm
 generalize World.alloc W _=W0 at HM0 HB0 ⊢
 obtain⟨gm,hgm⟩:∃g,g=W.heap.size:=⟨_,rfl⟩
 rw [<-hgm] at HM0 ⊢
 have HGM:=qh hgm
 clear hgm
 have HC:Hid (∀y,Below W.heap.size W y->y.cell? ⟨gx,1,none⟩=some (.slice a2 n c2)/\y.cell? ⟨gx,2,none⟩=some (.slice a3 n c3)):=λy hy=>⟨zi hy _ _ (ze H1.out 1),zi hy _ _ (ze H1.out 2)⟩
 obtain⟨q1,q2⟩:=HC.out W0 HB0.out
 go_wp2_with fail
 clear q1 q2
 go_loopg [14] n (λgg s14 wr=>∃(i:Nat) (l:List (Int × Value)),i<=n/\Hid (gg=n - i)/\s14= .int .i64 i/\Hid (xG wr gm l)/\Hid (jH l (qG S i))/\Hid (Below W.heap.size W wr))
 case atStart=>exact⟨0, [],Nat.zero_le _,rfl,rfl,HM0.out,λ_=>rfl,HB0.out⟩
 case round=>
 obtain⟨i,l,hi,HG,rfl,HMI,HHO,zT⟩:=hrel
 obtain⟨wo,rfl⟩:∃wo:World,wo=wr:=⟨_,rfl⟩
 clear HM0 HB0
 by_cases hlt:i<n
 rotate_left
 ·obtain rfl:n=i:=by omega
  have hend:zn6 w S (.returned (.map (some gm))) wo:=
   ⟨gm,l,rfl,HMI.out,by have:=HGM.out;have:=HB.out.size;omega,by rw [<-HL.out];exact HHO.out,HB.out.trans (zT.out.mono HB.out.size)⟩
  have zV:=qh hend
  clear hend
  go_wp2_with fail
  go_ret
  exact zV.out
 have qN:(i:Int)<(n:Int):=by omega
 obtain⟨nb,no,na,nc,yh, -,x0,hni⟩:=zpa HN.out i (by rw [<-HL.out];exact hlt)
 subst yh
 obtain⟨mb,mo,ma,mc,hfa, -,y0,hmi⟩:=zm9 HM.out i (by rw [HML.out, <-HL.out];exact hlt)
 subst hfa
 obtain⟨nx,hnx⟩:∃x,x=S.next.getD i [] :=⟨_,rfl⟩
 obtain⟨ms,hms⟩:∃x,x=S.moves.getD i [] :=⟨_,rfl⟩
 rw [<-hnx] at x0 hni
 rw [<-hms] at y0 hmi
 obtain⟨nn,hnn⟩:∃k,k=nx.length:=⟨_,rfl⟩
 obtain⟨mn,hmn⟩:∃k,k=ms.length:=⟨_,rfl⟩
 rw [<-hnn] at x0 hni
 rw [<-hmn] at y0 hmi
 have hnr:=zh.room hni
 have hn63:nn<=9223372036854775807:=by omega
 have HES:Hid (qG S (i+1)=qG S i++j5 ms i nx nn):=by
  rw [Hid,qG,List.range_succ,List.flatMap_append,hms,hnn,hnx];simp [qG]
 have HNI:=qh hni
 have z5b:=qh hmi
 have HNN:=qh hnn
 have vw:=qh hmn
 have HX:Hid (∀y,Below W.heap.size W y->y.cell? ⟨nb,no+i,none⟩=some (.slice na nn nc)/\y.cell? ⟨mb,mo+i,none⟩=some (.slice ma mn mc)):=λy hy=>⟨zi hy _ _ x0,zi hy _ _ y0⟩
 clear x0 y0 hni hmi hnx hms hnn hmn hnr
 obtain⟨x0,y0⟩:=HX.out wo zT.out
 go_wp2_with fail
 clear x0 y0
 go_loopg [21] nn (λgg s21 wr=>∃(k:Nat) (l':List (Int × Value)),k<=nn/\Hid (gg=nn - k)/\s21= .int .i64 k/\Hid (xG wr gm l')/\Hid (jH l' (qG S i++j5 ms i nx k))/\Hid (Below W.heap.size W wr))
 case atStart=>exact⟨0,l,Nat.zero_le _,rfl,rfl,HMI.out,by simpa [j5,Hid] using HHO.out,zT.out⟩
 case round=>
 obtain⟨k,l',hk,HG2,rfl,HMK,HHK,HBK⟩:=hrel
 obtain⟨wk,rfl⟩:∃wo:World,wo=wr:=⟨_,rfl⟩
 clear HMI HHO zT
 by_cases hkl:k<nn
 rotate_left
 ·obtain rfl:nn=k:=by omega
  have HH2:Hid (jH l' (qG S (i+1))):=by rw [Hid,HES.out];exact HHK.out
  go_wp2_with fail
  go_roundg (n - (i+1))
  case measure=>rw [HG.out];omega
  case rel=>exact⟨i+1,l',by omega,rfl,by simp,HMK.out,HH2.out,HBK.out⟩
 have hkI:(k:Int)<(nn:Int):=by omega
 obtain⟨eb,eo,yh, -,z0⟩:=xJ.part HNI.out k (by rw [<-HNN.out];exact hkl)
 subst yh
 obtain⟨t,ht⟩:∃t,t=nx.getD k 0:=⟨_,rfl⟩
 rw [<-ht] at z0
 have HEI:Hid (j5 ms i nx (k+1)=j5 ms i nx k++zb0 ms i nx k):=by rw [Hid,j5,List.range_succ,List.flatMap_append];simp [j5]
 have HT:=qh ht
 have hlk:=jW HMK.out Tryz.underlying149 Tryz.underlying3 (ze6 wk) t true
 simp only [if_true] at hlk
 obtain⟨x0,y0⟩:=HX.out wk HBK.out
 have z1:=zi HBK.out _ _ z0
 clear ht z0
 obtain⟨v0,v1,v2,v3,hv⟩:∃a b c d:Int,(qX l' t).getD (.agg #[.int .i64 0, .int .i64 0, .int .i64 0, .int .i64 0])= .agg #[.int .i64 a, .int .i64 b, .int .i64 c, .int .i64 d] :=by
  rw [HHK.out t]
  cases kJ (qG S i++j5 ms i nx k) t with
  |none=>exact⟨0,0,0,0,rfl⟩
  |some x=>exact⟨_,_,_,_,rfl⟩
 rw [hv] at hlk
 clear hv
 obtain⟨had,zuz⟩:∃b,b=(qX l' t).isSome:=⟨_,rfl⟩
 rw [<-zuz] at hlk
 have HHD:=qh zuz
 clear zuz
 go_upto_region 9 with fail
 have hA:Below wk.heap.size wk (wk.alloc (.cells #[.int .i64 v0, .int .i64 v1, .int .i64 v2, .int .i64 v3] 153)):=(Below.refl _ _).alloc (Nat.le_refl _) _
 have zfl:=qh (HMK.out.below hA)
 have zeg:=qh (zG HBK.out hA)
 clear hA hlk HMK HBK x0 y0 z1
 generalize World.alloc wk _=W3 at zfl zeg ⊢
 obtain⟨q1,q2⟩:=HC.out W3 zeg.out
 obtain⟨x0,y0⟩:=HX.out W3 zeg.out
 cases had with
 |true=>
  have HH2:Hid (jH l' (qG S i++j5 ms i nx (k+1))):=by
   rw [Hid,HEI.out, <-List.append_assoc]
   unfold zb0
   split
   ·exact HHK.out.had (by rw [<-HT.out];exact HHD.out.symm)
   rw [List.append_nil];exact HHK.out
  go_wp2_with fail
  go_roundg (nn - (k+1))
  case measure=>rw [HG2.out];omega
  case rel=>exact⟨k+1,l',by omega,rfl,by simp,zfl.out,HH2.out,zeg.out⟩
 |false=>
 have hno:qX l' t=none:=by
  have:=HHD.out
  cases h:qX l' t with
  |none=>rfl
  |some x=>rw [h] at this;cases this
 have HNO:=qh hno
 clear hno
 by_cases h1:(i:Int)<t
 rotate_left
 ·have h1I:t<=(i:Int):=by omega
  have HH2:Hid (jH l' (qG S i++j5 ms i nx (k+1))):=by
   rw [Hid,HEI.out,zb0,if_neg (by rw [<-HT.out];omega),List.append_nil];exact HHK.out
  go_wp2_with fail
  go_roundg (nn - (k+1))
  case measure=>rw [HG2.out];omega
  case rel=>exact⟨k+1,l',by omega,rfl,by simp,zfl.out,HH2.out,zeg.out⟩
 by_cases h2:k<mn
 rotate_left
 ·have h2I:(mn:Int)<=(k:Int):=by omega
  have HH2:Hid (jH l' (qG S i++j5 ms i nx (k+1))):=by
   rw [Hid,HEI.out,zb0,if_neg (by rw [<-vw.out];omega),List.append_nil];exact HHK.out
  go_wp2_with fail
  go_roundg (nn - (k+1))
  case measure=>rw [HG2.out];omega
  case rel=>exact⟨k+1,l',by omega,rfl,by simp,zfl.out,HH2.out,zeg.out⟩
 have h2I:(k:Int)<(mn:Int):=by omega
 obtain⟨gb,go_,hga, -,m0,m1,m2⟩:=qj.part (zh.below zaY.stays z5b.out zeg.out) k (by rw [<-vw.out];exact h2)
 subst hga
 obtain⟨x,hx⟩:∃x,x=ms.getD k default:=⟨_,rfl⟩
 rw [<-hx] at m0 m1 m2
 have HEW:Hid (zb0 ms i nx k= [(t,x,i)]):=by
  rw [Hid,zb0,if_pos ⟨by rw [<-HT.out];exact h1,by rw [<-vw.out];exact h2⟩, <-HT.out, <-hx]
 obtain⟨xk,xt,xv⟩:=x
 simp only [] at m0 m1 m2
 clear hx
 go_wp2_with(refine zfg _ rfl _ _ _ 149 rfl 3 153 .i64 Tryz.underlying149 Tryz.underlying3 gm l' rfl t rfl (.agg #[.int .i64 xk, .int .i64 xt, .int .i64 xv, .int .i64 (i:Int)]) rfl zfl.out ?_;intro W4 hm4 hs4 hz4;have HM4:=qh hm4;have jy:Hid (Below W.heap.size W W4):=zeg.out.trans (hs4.below zeg.out.size (λk hk=>by have:=HGM.out;omega));clear hm4 hs4 hz4)
 have HH2:Hid (jH (wC l' t (.agg #[.int .i64 xk, .int .i64 xt, .int .i64 xv, .int .i64 (i:Int)])) (qG S i++j5 ms i nx (k+1))):=by
  rw [Hid,HEI.out, <-List.append_assoc,HEW.out]
  exact HHK.out.put (e:=(t,⟨xk,xt,xv⟩,i)) HNO.out
 go_roundg (nn - (k+1))
 case measure=>rw [HG2.out];omega
 case rel=>exact⟨k+1,_,by omega,rfl,by simp,HM4.out,HH2.out,jy.out⟩
def z5c {α:Type} (F:Fence) (n:Nat) (P:Program) (g:Nat) (lb:Array Value) (encs:α->Array Value) (Kp:World->World->Prop) (R:World->Prop) (z:Nat) (xs:List α):Prop:=
 ∀(l:Nat) (J:List α->World->Prop) (W:World),R W->(∀s A C row,J s A->A.grownBy C row->(∀r,row=some r->r=z)->J s C)->
  (∀pre x W1,J pre W1->pre.length<xs.length->YieldAt F (n - 1) P l (encs x) W1 λe W'=>e= .returned (.bool true)/\J (pre++ [x]) W'/\Kp W1 W')->
  J [] W->
  CallsIn F n P g (#[.func (.yield l) #[] #[]] ++lb) W λe W'=>(∃v,e= .returned v)/\J xs W'
theorem zgC {F:Fence} {n:Nat} {P:Program} {w:World} {α:Type} {g:Operand} {ps:Array Tmp} {assign body:Code} {Q:Exit->Act->World->Prop} {a:Act}
  (hro:F.round=none) (h1:1<=n) {gf:Nat} {lb:Array Value} (hg:a.eval g= .func (.func gf) #[] lb) (hFg:F.fn gf) (eg:∀args w,(callFunc gf args).run P w= .ok (.enter gf args) w)
  {encs:α->Array Value} {Kp:World->World->Prop} {R:World->Prop} {z:Nat} {xs:List α} (hseq:z5c F (n - 1) P gf lb encs Kp R z xs) (hz:z<w.heap.size)
  (hKt:∀ {A B C:World},Kp A B->Kp B C->Kp A C) (hKb:∀(W:World) (l:Nat) (r:Loop) (o':Obj),W.heap[l]? =some (.loop r)->Kp W (W.putObj l o')) (hR:∀W,Below w.heap.size w W->R W) (hps:∀x,(encs x).size=ps.size)
  (I:List α->World->Prop) (hI:OwnFrom w.heap.size I) (hIz:∀s A C row,I s A->A.grownBy C row->(∀r,row=some r->r=z)->I s C) (h0:I [] w) (Ax:α->Act->World->Prop) (hAx:∀x a',OwnFrom w.heap.size (λ(_:Unit) W=>Ax x a' W))
  (hassign:∀(l:Nat) (pre:List α) (x:α) (W:World) (K:Act->World->Prop),I pre W->(∀a' W',KeepsFrom w.heap.size W W'->Kp W W'->I pre W'->Ax x a' W'->K a' W')->
   assign.wpIn (F.inRound l) (n - 1 - 1) P (Exit.then K (λ_ _ _=>False)) { tmps:=(ps.zip (encs x)).foldl (λt (p,v)=>t.setIfInBounds p v) a.tmps,defers:= [] } W)
  (hbody:∀(l:Nat) (pre:List α) (x:α) (a':Act) (W:World),I pre W->Ax x a' W->pre.length<xs.length->body.wpIn (F.inRound l) (n - 1 - 1) P (ownPostG w.heap.size Kp I (λ_ _ _=>False) (pre++ [x]) W) a' W)
  (hdone:∀(D:Nat) (W:World),w.heap.size<=D->I xs W->W.heap[D]? =some (.deferred (some []))->Q .normal { a with defers:= { target:= .collected D,args:= #[] } ::a.defers } W):
  (Code.rangeFunc g ps assign body).wpIn F n P Q a w:=by
 refine wpIn_rangeFunc ?_
 intro fn hfn
 rw [hro]
 obtain⟨rec,hrec⟩:∃rec:LoopState->Option Code->Loop,rec=λst pe=> { state:=st,pending:=pe,fn,tmps:=a.tmps,params:=ps,assign,body,defers:=w.heap.size } :=⟨_,rfl⟩
 obtain⟨W1,hW1⟩:∃W1,(w.alloc (.deferred (some []))).alloc (.loop (rec .ready none))=W1:=⟨_,rfl⟩
 have hL1:W1.heap[w.heap.size+1]? =some (.loop (rec .ready none)):=by
  rw [<-hW1];have:=World.alloc_heap_new (w.alloc (.deferred (some []))) (.loop (rec .ready none));rwa [World.size_alloc] at this
 have hK1:W1.heap[w.heap.size]? =some (.deferred (some [])):=by
  rw [<-hW1];exact(Below.heap_alloc _ _ _ (by simp)).trans (World.alloc_heap_new w _)
 have hI1:I [] W1:=by rw [<-hW1];exact hI.alloc _ (hI.alloc _ h0)
 have hb1:Below w.heap.size w W1:=by
  rw [<-hW1];exact((Below.refl _ w).alloc (Nat.le_refl _) _).alloc (by simp) _
 refine⟨w.heap.size+1, [{ target:= .collected w.heap.size,args:= #[] }],W1, { target:= .fn (.func gf) lb,args:= #[.func (.yield (w.heap.size+1)) #[] #[]] },W1,gf,
  #[.func (.yield (w.heap.size+1)) #[] #[]] ++lb,W1, ?_, ?_, ?_, ?_,λ_=>h1, ?_⟩
 ·rw [<-hW1,hrec];exact run_enterLoop_outer _ _ _ _ _
 ·simp only [resolve,hg]
  simp [go_sem]
 ·intro f' hf';simp [Target.leads] at hf';subst hf';exact hFg
 ·simp [invoke,go_sem,eg]
 refine(hseq (w.heap.size+1)
  (λpre W=>I pre W/\W.heap[w.heap.size+1]? =some (.loop (rec .ready none))/\W.heap[w.heap.size]? =some (.deferred (some [])))
  W1 (hR W1 hb1)
  (λs A B row hs hg' hr=>⟨hIz s A B row hs.1 hg' hr,
   (hg'.block _ (Array.getElem?_eq_some_iff.1 hs.2.1).1 (λe=>by have:=hr _ e.symm;omega)).trans hs.2.1,
   (hg'.block _ (Array.getElem?_eq_some_iff.1 hs.2.2).1 (λe=>by have:=hr _ e.symm;omega)).trans hs.2.2⟩)
  ?_ ⟨hI1,hL1,hK1⟩).mono ?_
 ·rintro pre x W ⟨hi,hl,hk⟩ hlen
  have hlt:w.heap.size+1<W.heap.size:=(Array.getElem?_eq_some_iff.1 hl).1
  have hy:=run_yield (P:=P) (args:=encs x) hl (by rw [hrec];exact hps x)
  rw [hrec] at hy
  refine⟨fn,_,assign,body,hy,roundIn_of_wpIn hfn (hassign _ pre x W _ hi ?_)⟩
  clear hy
  intro a' Wa hkfa hkpa hia hax
  replace hl:=hkfa.same _ _ (by omega) hl rfl
  replace hk:=hkfa.same _ _ (Nat.le_refl _) hk rfl
  replace hlt:w.heap.size+1<Wa.heap.size:=(Array.getElem?_eq_some_iff.1 hl).1
  replace hi:=hia
  clear hia
  revert hkpa hkfa
  generalize W=Wb
  intro hkfa hkpa
  obtain⟨W,rfl⟩:∃W,W=Wa:=⟨_,rfl⟩
  refine⟨_,run_beginRound hl (by rw [hrec]), ?_⟩
  have hl2:(W.putObj (w.heap.size+1) (.loop { rec .ready none with state:= .busy })).heap[w.heap.size+1]? =some (.loop { rec .ready none with state:= .busy }):=World.putObj_heap_same hlt
  have hk2:(W.putObj (w.heap.size+1) (.loop { rec .ready none with state:= .busy })).heap[w.heap.size]? =some (.deferred (some [])):=(World.putObj_heap_other (by omega)).trans hk
  have hw2:Kp W (W.putObj (w.heap.size+1) (.loop { rec .ready none with state:= .busy })):=hKb _ _ _ _ hl
  refine wpIn_mono (hbody _ pre x a' _ (hI.putObj _ hi (by omega) hl rfl) ((hAx x a').putObj (s:=()) _ hax (by omega) hl rfl) hlen) ?_
  have fin:∀(jump:Option Code) (W3:World),KeepsFrom w.heap.size (W.putObj (w.heap.size+1) (.loop { rec .ready none with state:= .busy })) W3->
    (Instr.endRound (w.heap.size+1) jump).run P W3= .ok (.bool jump.isNone) (W3.putObj (w.heap.size+1) (.loop (rec (if jump.isNone then .ready else .done) jump)))/\
    W3.heap[w.heap.size+1]? =some (.loop { rec .ready none with state:= .busy })/\
    (W3.putObj (w.heap.size+1) (.loop (rec (if jump.isNone then .ready else .done) jump))).heap[w.heap.size+1]? =some (.loop (rec (if jump.isNone then .ready else .done) jump))/\
    (W3.putObj (w.heap.size+1) (.loop (rec (if jump.isNone then .ready else .done) jump))).heap[w.heap.size]? =some (.deferred (some [])):=λjump W3 hk3=>by
   have hl3:=hk3.same _ _ (by omega) hl2 rfl
   have:=run_endRound (P:=P) jump hl3
   rw [hrec] at this ⊢
   exact⟨this,by rw [hrec] at hl3;exact hl3,World.putObj_heap_same (Array.getElem?_eq_some_iff.1 hl3).1,(World.putObj_heap_other (by omega)).trans (hk3.same _ _ (Nat.le_refl _) hk2 rfl)⟩
  rintro e a3 W3 hp
  cases e with
  |normal=>
   obtain⟨hk3,hkp3,hi3⟩:=hp
   obtain⟨hr,hl3,hl4,hk4⟩:=fin none W3 hk3
   exact⟨_,_,hr,rfl,⟨hI.putObj _ hi3 (by omega) hl3 rfl,hl4,hk4⟩,hKt hkpa (hKt (hKt hw2 hkp3) (hKb _ _ _ _ hl3))⟩
  |ret=>exact hp.2.elim
  |exit id=>exact hp.2.elim
  |goto t=>exact hp.2.elim
  |panic ch=>exact hp.elim
  |outgrown=>exact hp.elim
 rintro e W2 ⟨⟨v,rfl⟩,hi,hl,hk⟩
 exact⟨none,_,by have:=run_endLoop (P:=P) hl (by rw [hrec];simp);rw [hrec] at this;exact this,hdone _ _ (Nat.le_refl _) (hI.putObj _ hi (by omega) hl rfl) ((World.putObj_heap_other (by omega)).trans hk)⟩
end Go.Proofs.YtliajkheeniljaaGreatDoor
namespace Go.Proofs.YtliajkheeniljaaGreatDoor
open Go.RowKit Go.Shelf
set_option maxRecDepth 100000
set_option maxHeartbeats 16000000
attribute [local go_sem] Oper.semAt_some
def vJ (S:xV):Nat->Int->List zq
 |0,_=> []
 |f+1,t=>if 0<t then(match zcZ S t with|some x=>x.1::vJ S f (x.2:Int)|none=> []) else []
theorem zpc:∀(l:List (Int × zq × Nat)) (n:Int) (x:zq × Nat),kJ l n=some x->(n,x)∈l:=by
 intro l n x
 induction l with
 |nil=>intro h;cases h
 |cons e l ih=>
 intro h
 unfold kJ at h
 split at h
 ·rename_i he
  cases h;subst he;simp
 exact List.mem_cons_of_mem _ (ih h)
theorem zmA (S:xV) (n:Nat) (e:Int × zq × Nat) (h:e∈qG S n):(e.2.2:Int)<e.1:=by
 unfold qG j5 zb0 at h
 simp only [List.mem_flatMap,List.mem_range] at h
 obtain⟨i, -,k, -,h⟩:=h
 split at h
 ·rename_i hc
  simp only [List.mem_singleton] at h
  subst h;exact hc.1
 cases h
theorem ziD {S:xV} {t:Int} {x:zq × Nat} (h:zcZ S t=some x):(x.2:Int)<t:=zmA S _ _ (zpc _ _ _ h)
theorem zpd (S:xV):∀f g t,t.toNat<=f->t.toNat<=g->vJ S f t=vJ S g t:=by
 intro f
 induction f with
 |zero=>
  intro g t h1 h2
  cases g with
  |zero=>rfl
  |succ g=>unfold vJ;rw [if_neg (by omega)]
 |succ f ih=>
 intro g t h1 h2
 cases g with
 |zero=>unfold vJ;rw [if_neg (by omega)]
 |succ g=>
 unfold vJ
 split
 ·cases hw:zcZ S t with
  |none=>rfl
  |some x=>
  have:=ziD hw
  simp only []
  rw [ih g x.2 (by omega) (by omega)]
 rfl
theorem zpe {S:xV} {t:Int} (ht:0<t) {x:zq × Nat} (h:zcZ S t=some x):vJ S t.toNat t=x.1::vJ S (x.2:Int).toNat (x.2:Int):=by
 have hl:=ziD h
 obtain⟨f,hf⟩:∃f,t.toNat=f+1:=⟨t.toNat - 1,by omega⟩
 rw [hf]
 show(if 0<t then(match zcZ S t with|some x=>x.1::vJ S f (x.2:Int)|none=> []) else [])=_
 rw [if_pos ht,h]
 simp only []
 rw [zpd S f (x.2:Int).toNat x.2 (by omega) (by omega)]
theorem zie {S:xV} {t:Int} (h:¬0<t\/zcZ S t=none):vJ S t.toNat t= [] :=by
 cases hf:t.toNat with
 |zero=>rfl
 |succ f=>
 unfold vJ
 rcases h with h|h
 ·rw [if_neg h]
 rw [h];split<;>rfl
theorem zjv (S:xV):∀f t,(vJ S f t).length<=f:=by
 intro f
 induction f with
 |zero=>intro t;simp [vJ]
 |succ f ih=>
 intro t
 unfold vJ
 split
 ·cases zcZ S t with
  |none=>simp
  |some x=>have:=ih (x.2:Int);simp only [List.length_cons];omega
 simp
def zhB:Obj->Bool
 | .cells _ t _=>t !=52 && t !=32
 | .map _ _=>true
 |_=>false
def gY (A C:World):Prop:=∀(k:Nat) (o:Obj),A.heap[k]? =some o->zhB o=true->C.heap[k]? =some o
theorem gY.trans {A B C:World} (h:gY A B) (g:gY B C):gY A C:=λk o hk ho=>g k o (h k o hk ho) ho
theorem gY.grown {A C:World} {row:Option Nat} (h:A.grownBy C row) (hr:∀k o,row=some k->A.heap[k]? =some o->zhB o=false):gY A C:=λk o hk ho=>
 (h.block k (zx hk) (λe=>by have:=hr k o e.symm hk;rw [this] at ho;cases ho)).trans hk
theorem gY.record (W:World) (l:Nat) (r:Loop) (o':Obj) (h:W.heap[l]? =some (.loop r)):gY W (W.putObj l o'):=
 .grown (grownBy_putObj' W l o') (λk o e hk=>by cases e;rw [h] at hk;cases hk;rfl)
theorem gY.box {A C:World} (h:gY A C) {k:Nat} {c:Array Value} {t:TypeId} {f:Nat × Nat} (hk:A.heap[k]? =some (.cells c t f)) (h1:t≠52) (h2:t≠32):C.heap[k]? =some (.cells c t f):=
 h k _ hk (by simp [zhB,h1,h2])
theorem xG.keep {A C:World} {b:Nat} {l:List (Int × Value)} (h:xG A b l) (hk:gY A C):xG C b l:=by
 obtain⟨es,clock,h1,h2⟩:=h
 exact⟨es,clock,hk b _ h1 rfl,h2⟩
theorem xG.grown {A C:World} {row:Option Nat} {b:Nat} {l:List (Int × Value)} (h:xG A b l) (hg:A.grownBy C row) (hr:some b≠row):xG C b l:=by
 obtain⟨es,clock,h1,h2⟩:=h
 exact⟨es,clock,(hg.block b (zx h1) hr).trans h1,h2⟩
def zpf (z:Nat) (w:World):Nat:=(intOf ((w.cell? ⟨z,0,none⟩).getD undef)).toNat
theorem zlH {z:Nat} {w:World} {t:Int} (h:w.cell? ⟨z,0,none⟩=some (.int .i64 t)):zpf z w=t.toNat:=by unfold zpf;rw [h];rfl
theorem ztG (n l z y b:Nat) (t:Int) (S:xV) (ml:List (Int × Value)) (xs:List zq) (hxs:xs=vJ S t.toNat t) (hn:1<=n) (J:List zq->World->Prop)
  (hJ:∀s A C row,J s A->A.grownBy C row->(∀r,row=some r->r=z)->J s C)
  (hY:∀pre x W1,J pre W1->pre.length<xs.length->YieldAt Fence.wide (n - 1) Tryz.prog l #[.agg #[.int .i64 x.kind, .int .i64 x.thread, .int .i64 x.var]] W1 λe W'=>e= .returned (.bool true)/\J (pre++ [x]) W'/\gY W1 W')
  (W:World) (hz:Boxed W z 3 (.int .i64 t)) (hy:Boxed W y 149 (.map (some b))) (hm:xG W b ml) (hh:jH ml (qG S S.next.length)) (h0:J [] W):
  CallsIn Fence.wide n Tryz.prog 94 #[.func (.yield l) #[] #[], .pointer (some ⟨z,0,none⟩), .pointer (some ⟨y,0,none⟩)] W λe W'=>(∃v,e= .returned v)/\J xs W':=by
 refine callsIn_of_wp Tryz.func94 rfl trivial ?_ rfl
 simp only [Tryz.ntmps94,List.size_toArray,List.length_cons,List.length_nil,Nat.reduceAdd,Nat.reduceSub,Array.replicate_succ,Array.replicate_zero,List.push_toArray,List.append_toArray,List.nil_append,List.cons_append]
 have HXS:=qh hxs
 have HH:=qh hh
 clear hxs hh
 gi_wp2
 gi_loopw [] (λwr=>∃(t':Int) (pre:List zq),Hid (xs=pre++vJ S t'.toNat t')/\J pre wr/\Hid (Boxed wr z 3 (.int .i64 t'))/\Hid (Boxed wr y 149 (.map (some b)))/\Hid (xG wr b ml)) (zpf z)
 case atStart=>exact⟨t, [],by simpa [Hid] using HXS.out,h0,hz,hy,hm⟩
 case round=>
 obtain⟨t',pre,HP,hJs,HZ,HY2,HM⟩:=hrel
 clear hz hy hm h0
 have c1:=HZ.out.cell
 have c2:=HY2.out.cell
 by_cases ht:0<t'
 rotate_left
 ·have hend:J xs wr:=by
   rw [HP.out,zie (.inl ht),List.append_nil];exact hJs
  have ht2:t'<=0:=by omega
  have zV:=qh hend
  clear hend ht
  gi_wp2
  go_end0
  exact⟨⟨_,rfl⟩,zV.out⟩
 have hlk:=jW HM.out Tryz.underlying149 Tryz.underlying3 (ze6 wr) t' true
 simp only [if_true] at hlk
 cases hw:zcZ S t' with
 |none=>
  have hf:qX ml t'=none:=by rw [HH.out t'];unfold zcZ at hw;rw [hw];rfl
  rw [hf] at hlk
  simp only [Option.getD_none,Option.isSome_none] at hlk
  have hend:J xs (wr.alloc (.cells #[.int .i64 0, .int .i64 0, .int .i64 0, .int .i64 0] 153)):=by
   rw [HP.out,zie (.inr hw),List.append_nil]
   exact hJ _ _ _ none hJs (World.grownBy_alloc _ _ none) (λr e=>by cases e)
  have zV:=qh hend
  clear hend hf hw
  gi_wp2
  refine⟨λ_ h=>(by cases h), ?_⟩
  gi_wp2
  refine bodyPost_ret (results_none rfl _ _ _) rfl ?_
  exact⟨⟨_,rfl⟩,zV.out⟩
 |some x=>
 have hf:qX ml t'=some (zpb x):=by rw [HH.out t'];unfold zcZ at hw;rw [hw];rfl
 rw [hf] at hlk
 simp only [Option.getD_some,Option.isSome_some] at hlk
 obtain⟨⟨xk,xt,xv⟩,i⟩:=x
 unfold zpb at hlk
 dsimp only at hlk
 have hlt:=ziD hw
 dsimp only at hlt
 have zlI:=HP.out
 rw [zpe ht hw] at zlI
 dsimp only at zlI
 clear hf
 obtain⟨W1,hW1⟩:∃W1,W1=wr.alloc (.cells #[.int .i64 xk, .int .i64 xt, .int .i64 xv, .int .i64 (i:Int)] 153):=⟨_,rfl⟩
 have hg1:wr.grownBy W1 none:=by rw [hW1];exact World.grownBy_alloc _ _ none
 have hq:W1.heap[wr.heap.size]? =some (.cells #[.int .i64 xk, .int .i64 xt, .int .i64 xv, .int .i64 (i:Int)] 153 (0,0)):=by rw [hW1];exact yj _ _
 have HJ1:=qh (hJ _ _ _ none hJs hg1 (λr e=>by cases e))
 have HZ1:=qh (HZ.out.kept hg1 (by simp))
 have gM:=qh (HY2.out.kept hg1 (by simp))
 have HM1:=qh (HM.out.grown hg1 (by simp))
 obtain⟨fn,tmps,assign,body,hy,hR⟩:=hY _ ⟨xk,xt,xv⟩ W1 HJ1.out (by rw [zlI];simp)
 have d0:W1.cell? ⟨wr.heap.size,0,none⟩=some (.int .i64 xk):=ze hq 0
 have d1:W1.cell? ⟨wr.heap.size,1,none⟩=some (.int .i64 xt):=ze hq 1
 have d2:W1.cell? ⟨wr.heap.size,2,none⟩=some (.int .i64 xv):=ze hq 2
 have z5d:=qh zlI
 have HQ:=qh hq
 have HLT:=qh hlt
 clear zlI hq hlt hw hg1
 subst hW1
 gi_wp2
 refine hR.mono ?_
 rintro e W3 ⟨rfl,hJ3,hk3⟩
 have hq3:=hk3.box HQ.out (by decide) (by decide)
 have hz3:Boxed W3 z 3 (.int .i64 t'):=hk3.box HZ1.out (by decide) (by decide)
 have hy3:Boxed W3 y 149 (.map (some b)):=hk3.box gM.out (by decide) (by decide)
 have hm3:=HM1.out.keep hk3
 have e3:W3.cell? ⟨wr.heap.size,3,none⟩=some (.int .i64 (i:Int)):=ze hq3 3
 have g1:=hz3.cell
 have f1:=hz3.frozen
 clear hy hR d0 d1 d2 hlk
 gi_wp2
 go_roundw
 case rel=>
  have hzy:z≠y:=λe=>by subst e;unfold Boxed at hz3 hy3;rw [hz3] at hy3;cases hy3
  have hzb:z≠b:=λe=>by subst e;obtain⟨es,ck,h1, -⟩:=hm3;unfold Boxed at hz3;rw [hz3] at h1;cases h1
  refine⟨i,pre++ [⟨xk,xt,xv⟩], ?_,hJ _ _ _ (some z) hJ3 (grownBy_setCell' _ z _) (λr e=>by cases e;rfl),hz3.set _,hy3.other (λe=>hzy e.symm) _,hm3.grown (grownBy_setCell' _ z _) (λe=>hzb (by cases e;rfl))⟩
  rw [Hid,z5d.out];simp
 case measure=>
 rw [zlH (hz3.set (.int .i64 (i:Int))).cell,zlH c1]
 have:=HLT.out
 omega
