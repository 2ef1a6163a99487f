/- Steps. -/
import Derived.Test.YtnhahkiojbanfaaGreatDoorRsExpQ
import Derived.Test.YtnhahkiojbanfaaGreatDoorRsSame7
set_option linter.all false
namespace Go.Proofs.YtnhahkiojbanfaaGreatDoor
open Go.RowKit
set_option maxRecDepth 100000
set_option maxHeartbeats 16000000
def u8 (n:Int):Int:=n % 256
theorem zdn {n:Int} (h0:0<=n) (h1:n<256):u8 n=n:=Int.emod_eq_of_lt h0 h1
theorem zkR (n:Int):0<=u8 n/\u8 n<256:=⟨Int.emod_nonneg n (by decide),Int.emod_lt_of_pos n (by decide)⟩
def gQ (e:zl):List Int:= [u8 e.var,u8 e.n]
def vG (t:zx):List Int:= [u8 (t.pc / 256),u8 t.pc] ++t.regs.map u8++ [u8 t.buf.length] ++t.buf.flatMap gQ
def bM (s:zi):List Int:=(if s.bad then 1 else 0)::(s.mem.map u8++s.threads.flatMap vG)
def keyOf (s:zi):ByteArray:=strOfNums (bM s)
structure zfM (t:zx):Prop where
 pc:0<=t.pc/\t.pc<65536
 regs:t.regs.length=4
 reg:∀x∈t.regs,0<=x/\x<256
 len:t.buf.length<256
 buf:∀e∈t.buf,(0<=e.var/\e.var<256)/\0<=e.n/\e.n<256
structure zaF (s:zi):Prop where
 mem:∀x∈s.mem,0<=x/\x<256
 thr:∀t∈s.threads,zfM t
theorem bytes_inj {l r:List Int} (hl:∀x∈l,0<=x/\x<256) (hr:∀x∈r,0<=x/\x<256) (h:strOfNums l=strOfNums r):l=r:=by
 have h1:l.map (λn=>UInt8.ofNat n.toNat)=r.map (λn=>UInt8.ofNat n.toNat):=by
  have:=congrArg (λb:ByteArray=>b.data.toList) h
  simpa [strOfNums] using this
 clear h
 induction l generalizing r with
 |nil=>cases r with
  |nil=>rfl
  |cons=>simp at h1
 |cons x l ih=>cases r with
  |nil=>simp at h1
  |cons y r=>
  simp only [List.map_cons,List.cons.injEq] at h1
  have hx:=hl x (List.mem_cons_self ..)
  have hy:=hr y (List.mem_cons_self ..)
  have e:x.toNat=y.toNat:=by
   have:=congrArg UInt8.toNat h1.1
   simp only [UInt8.toNat_ofNat'] at this
   omega
  rw [show x=y by omega,ih (λz hz=>hl z (List.mem_cons_of_mem _ hz)) (λz hz=>hr z (List.mem_cons_of_mem _ hz)) h1.2]
theorem ziS:∀ {l r a b:List Int},l.length=r.length->(∀x∈l,0<=x/\x<256)->(∀x∈r,0<=x/\x<256)->l.map u8++a=r.map u8++b->l=r/\a=b:=by
 intro l
 induction l with
 |nil=>intro r a b hl _ _ h;cases r with
  |nil=>exact⟨rfl,h⟩
  |cons=>simp at hl
 |cons x l ih=>intro r a b hl h1 h2 h;cases r with
  |nil=>simp at hl
  |cons y r=>
  simp only [List.map_cons,List.cons_append,List.cons.injEq] at h
  have hx:=h1 x (List.mem_cons_self ..)
  have hy:=h2 y (List.mem_cons_self ..)
  rw [zdn hx.1 hx.2,zdn hy.1 hy.2] at h
  obtain⟨e1,e2⟩:=ih (by simpa using hl) (λz hz=>h1 z (List.mem_cons_of_mem _ hz)) (λz hz=>h2 z (List.mem_cons_of_mem _ hz)) h.2
  exact⟨by rw [h.1,e1],e2⟩
theorem zvw:∀ {l r:List zl} {a b:List Int},l.length=r.length->(∀e∈l,(0<=e.var/\e.var<256)/\0<=e.n/\e.n<256)->(∀e∈r,(0<=e.var/\e.var<256)/\0<=e.n/\e.n<256)->l.flatMap gQ++a=r.flatMap gQ++b->l=r/\a=b:=by
 intro l
 induction l with
 |nil=>intro r a b hl _ _ h;cases r with
  |nil=>exact⟨rfl,h⟩
  |cons=>simp at hl
 |cons x l ih=>intro r a b hl h1 h2 h;cases r with
  |nil=>simp at hl
  |cons y r=>
  simp only [List.flatMap_cons,gQ,List.cons_append,List.nil_append,List.cons.injEq] at h
  have hx:=h1 x (List.mem_cons_self ..)
  have hy:=h2 y (List.mem_cons_self ..)
  rw [zdn hx.1.1 hx.1.2,zdn hy.1.1 hy.1.2,zdn hx.2.1 hx.2.2,zdn hy.2.1 hy.2.2] at h
  obtain⟨e1,e2⟩:=ih (by simpa using hl) (λz hz=>h1 z (List.mem_cons_of_mem _ hz)) (λz hz=>h2 z (List.mem_cons_of_mem _ hz)) h.2.2
  obtain⟨xv,xn⟩:=x
  obtain⟨yv,yn⟩:=y
  simp only [] at h
  exact⟨by rw [h.1,h.2.1,e1],e2⟩
theorem zn2 {t u:zx} {a b:List Int} (ht:zfM t) (hu:zfM u) (h:vG t++a=vG u++b):t=u/\a=b:=by
 obtain⟨tp,tr,tb⟩:=t
 obtain⟨up,ur,ub⟩:=u
 obtain⟨p1,l1,r1,n1,b1⟩:=ht
 obtain⟨p2,l2,r2,n2,b2⟩:=hu
 simp only [vG,List.append_assoc,List.cons_append,List.nil_append,List.cons.injEq] at h p1 l1 r1 n1 b1 p2 l2 r2 n2 b2
 obtain⟨h1,h2,h3⟩:=h
 have hp:tp=up:=by unfold u8 at h1 h2;omega
 obtain⟨e1,e2⟩:=ziS (by omega) r1 r2 h3
 simp only [List.cons.injEq] at e2
 have hn:tb.length=ub.length:=by
  have:=e2.1
  rw [zdn (by omega) (by omega),zdn (by omega) (by omega)] at this
  omega
 obtain⟨e3,e4⟩:=zvw hn b1 b2 e2.2
 exact⟨by rw [hp,e1,e3],e4⟩
theorem zm1:∀ {l r:List zx},l.length=r.length->(∀t∈l,zfM t)->(∀t∈r,zfM t)->l.flatMap vG=r.flatMap vG->l=r:=by
 intro l
 induction l with
 |nil=>intro r hl _ _ _;cases r with
  |nil=>rfl
  |cons=>simp at hl
 |cons x l ih=>intro r hl h1 h2 h;cases r with
  |nil=>simp at hl
  |cons y r=>
  simp only [List.flatMap_cons] at h
  obtain⟨e1,e2⟩:=zn2 (h1 x (List.mem_cons_self ..)) (h2 y (List.mem_cons_self ..)) h
  rw [e1,ih (by simpa using hl) (λz hz=>h1 z (List.mem_cons_of_mem _ hz)) (λz hz=>h2 z (List.mem_cons_of_mem _ hz)) e2]
theorem zoF (s:zi):∀x∈bM s,0<=x/\x<256:=by
 have hm:∀(l:List Int),∀x∈l.map u8,0<=x/\x<256:=λl x hx=>by
  obtain⟨y, -,rfl⟩:=List.mem_map.1 hx;exact zkR y
 intro x hx
 rcases List.mem_cons.1 hx with rfl|hx
 ·split<;>omega
 rcases List.mem_append.1 hx with hx|hx
 ·exact hm _ x hx
 obtain⟨t, -,hx⟩:=List.mem_flatMap.1 hx
 unfold vG at hx
 simp only [List.mem_append,List.mem_cons,List.not_mem_nil,or_false] at hx
 rcases hx with((hx|hx)|hx)|hx
 ·rcases hx with rfl|rfl<;>exact zkR _
 ·exact hm _ x hx
 ·rw [hx];exact zkR _
 obtain⟨e, -,hx⟩:=List.mem_flatMap.1 hx
 unfold gQ at hx
 simp only [List.mem_cons,List.not_mem_nil,or_false] at hx
 rcases hx with rfl|rfl<;>exact zkR _
theorem key_inj {s t:zi} (hs:zaF s) (ht:zaF t) (hm:s.mem.length=t.mem.length) (hn:s.threads.length=t.threads.length) (h:keyOf s=keyOf t):s=t:=by
 have h1:=bytes_inj (zoF s) (zoF t) h
 obtain⟨s1,s2,s3⟩:=s
 obtain⟨t1,t2,t3⟩:=t
 simp only [bM,List.cons.injEq] at h1
 obtain⟨e1,e2⟩:=ziS hm hs.mem ht.mem h1.2
 have e3:=zm1 hn hs.thr ht.thr e2
 have e4:s3=t3:=by
  have:=h1.1
  cases s3<;>cases t3<;>simp at this ⊢
 simp only [] at e1 e3
 rw [e1,e3,e4]
def vX (s:zi):Prop:=∀j,j<s.threads.length->(s.threads.getD j default).regs.length=4
theorem zX.vX {w:World} {s:zi} {tv mv:Value} (h:zX w s tv mv):vX s:=λj hj=>by
 obtain⟨a,cap,he, -,h4⟩:=h.threads
 obtain⟨b,off,cs, -, -, -, -,h5, -⟩:=h4 j hj
 exact h5
theorem zc5 {α:Type} [Inhabited α] {l:List α} {x:α} (h:x∈l):∃j,j<l.length/\l.getD j default=x:=by
 obtain⟨j,hj,e⟩:=List.getElem_of_mem h
 exact⟨j,hj,by rw [List.getD_eq_getElem?_getD,List.getElem?_eq_getElem hj];exact e⟩
theorem zym {c:zD} (h:codeOk c=true) (i:Nat) (hi:i<c.threads.length):(c.threads.getD i []).length<=600:=by
 unfold codeOk at h
 simp only [Bool.and_eq_true] at h
 have h2:=List.all_eq_true.1 h.2 _ (show c.threads.getD i [] ∈c.threads by
  rw [List.getD_eq_getElem?_getD,List.getElem?_eq_getElem hi];exact List.getElem_mem _)
 unfold rowOk at h2
 simp only [Bool.and_eq_true,decide_eq_true_eq] at h2
 exact h2.1
theorem zaL {c:zD} {m:zy} {s:zi} (hf:yB c m s=true) (hr:vX s):zaF s:=by
 have hb:=zde hf
 have h0:=hf
 unfold yB at h0
 simp only [Bool.and_eq_true,decide_eq_true_eq] at h0
 obtain⟨⟨⟨⟨h1,h2⟩,h3⟩,h4⟩,h5⟩:=h0
 unfold qA at h1
 simp only [Bool.and_eq_true,decide_eq_true_eq] at h1
 have hc:=h1.1.1.1.1
 have hcb:=xV hc
 refine⟨λx hx=> ?_,λt ht=> ?_⟩
 ·obtain⟨j,hj,rfl⟩:=zc5 hx
  have:=List.all_eq_true.1 h4 j (List.mem_range.2 hj)
  unfold qj at this
  simp only [Bool.and_eq_true,decide_eq_true_eq] at this
  have e:s.mem.getD j default=s.mem.getD j 0:=rfl
  rw [e];omega
 obtain⟨j,hj,rfl⟩:=zc5 ht
 have h6:=List.all_eq_true.1 h5 j (List.mem_range.2 hj)
 unfold vS at h6
 simp only [Bool.and_eq_true,decide_eq_true_eq] at h6
 obtain⟨⟨⟨p1,p2⟩,p3⟩,p4⟩:=h6
 have hl:=zym hc j (by omega)
 have hbj:=hb j hj
 refine⟨⟨p1,by omega⟩,hr j hj,λx hx=> ?_,by omega,λe he=> ?_⟩
 ·obtain⟨k,hk,rfl⟩:=zc5 hx
  have:=List.all_eq_true.1 p3 k (List.mem_range.2 (by have:=hr j hj;omega))
  unfold qj at this
  simp only [Bool.and_eq_true,decide_eq_true_eq] at this
  have e:(s.threads.getD j default).regs.getD k default=(s.threads.getD j default).regs.getD k 0:=rfl
  rw [e];omega
 obtain⟨k,hk,rfl⟩:=zc5 he
 have:=List.all_eq_true.1 p4 k (List.mem_range.2 hk)
 unfold qV at this
 simp only [Bool.and_eq_true,decide_eq_true_eq] at this
 omega
theorem zaK {c:zD} {m:zy} {s:zi} (hf:yB c m s=true):s.threads.length=c.threads.length/\(s.mem.length:Int)=c.vars:=by
 unfold yB at hf
 simp only [Bool.and_eq_true,decide_eq_true_eq] at hf
 exact⟨hf.1.1.1.2,hf.1.1.2⟩
theorem zuj {c:zD} {m:zy} {s t:zi} (hs:yB c m s=true) (ht:yB c m t=true) (rs:vX s) (rt:vX t) (h:keyOf s=keyOf t):s=t:=by
 have h1:=zaK hs
 have h2:=zaK ht
 exact key_inj (zaL hs rs) (zaL ht rt) (by omega) (by omega) h
def vJ (n:Int):List Value:= [.int .u8 n]
theorem zvx (n:Int):(vJ n).length=1:=rfl
theorem zbH:(Tryz.prog.info? 5).map (λi=>(i.zero,i.size,i.bytes))=some (some (.int .u8 0),1,1):=by kernel_rfl
theorem zs9 (n:Int):IntKind.u8.wrap n=u8 n:=by rw [IntKind.wrap_u8];rfl
theorem zbI {α:Type} {f:α->List Value} {B:Nat} {e:TypeId} {size:Nat} {w X:World} {a a':Option Addr} {n m c c':Nat} {l:List α} (r:List α) {o:Obj} (ho:w.ownsRow B e size (.slice a n c) n (zo f l)) (h1:X.ownsRow B e size (.slice a' m c') m (zo f l++zo f r))
  (h4:Since (λk=>(Value.slice a n c).ownBlock=some k) (w.alloc o) X) {V:World} (hV:Below V.heap.size V w) (hB:V.heap.size<=B):X.ownsRow B e size (.slice a' m c') m (zo f (l++r))/\Below V.heap.size V X:=by
 refine⟨by rw [kW];exact h1,hV.trans ((((Since.refl _ w).alloc o).trans h4 (λk hk=> .inl hk)).below hV.size (λk hk=>Nat.le_trans hB (ho.lt k hk).1))⟩
theorem zbC {X X1:World} {B e size n g:Nat} {v:Value} {xs:List Value} {c:Array Value} {t:TypeId} {f:Nat × Nat} {o:Obj} (h:X.ownsRow B e size v n xs) (hb:X.heap[g]? =some (.cells c t f)) (hne:e≠t) (h4:Since (λk=>v.ownBlock=some k) (X.alloc o) X1):X1.heap[g]? =some (.cells c t f):=
 ((((Since.refl _ X).alloc o).trans h4 (λ_ hk=> .inl hk):Since (λk=>v.ownBlock=some k) X X1).block _ (zw hb) (λe=>yD h hb hne _ e rfl)).trans hb
theorem zdo {α:Type} [Inhabited α] {l:List α} {i:Nat} (hi:i<l.length):l.drop i=l.getD i default::l.drop (i+1):=by
 rw [List.drop_eq_getElem_cons hi,List.getD_eq_getElem?_getD,List.getElem?_eq_getElem hi];rfl
theorem zqb (r0 r1 r2 r3:Int) (k:Nat) (hk:k<4) (w:World):(Instr.index 77 (.agg #[.int .i64 r0, .int .i64 r1, .int .i64 r2, .int .i64 r3]) (.int .i64 (k:Int))).run Tryz.prog w= .ok (.int .i64 ([r0,r1,r2,r3].getD k 0)) w:=by
 have h2: #[Value.int .i64 r0, .int .i64 r1, .int .i64 r2, .int .i64 r3][k]? =some (.int .i64 ([r0,r1,r2,r3].getD k 0)):=by
  have:k=0\/k=1\/k=2\/k=3:=by omega
  rcases this with rfl|rfl|rfl|rfl<;>rfl
 obtain⟨i,hi,hs⟩:=zfI
 have h3:=kg w _ k _ h2
 generalize [r0,r1,r2,r3].getD k 0=q at h3 ⊢
 unfold Instr.index
 simp [run_underlying ziH,asIntOf,sizeOf,typeInfo,hi,hs,h3]
 intro h;omega
theorem zm2 (w:World) (o:Obj) (l:List Value) (t:TypeId):∀j u,l[j]? =some u->((w.alloc o).alloc (.cells l.toArray t)).cell? ((⟨w.heap.size+1,0,none⟩:Addr).add j)=some u:=by
 have:=qY (w.alloc o) l t
 simpa using this
def zm3 (w:World) (K:List Int) (e:Ending) (w':World):Prop:=(∃a c,e= .returned (.slice a K.length c)/\w'.ownsRow w.heap.size 5 1 (.slice a K.length c) K.length (zo vJ K))/\Below w.heap.size w w'
theorem zsA (w:World) (s:zi) (sv mv:Value) (hs:zX w s sv mv) (hl:(bM s).length<=1000000):Calls Tryz.prog 61 #[yA s sv mv] w (zm3 w (bM s)):=by
 obtain⟨ta,tc,rfl,htn⟩:=zh.slice hs.threads
 obtain⟨ma,mc,rfl,hmn⟩:=zh.slice hs.mem
 obtain⟨K,hK⟩:∃K,K=bM s:=⟨_,rfl⟩
 rw [<-hK] at hl ⊢
 obtain⟨ts,mem,bad⟩:=s
 have hK2:K= [if bad then 1 else 0] ++(mem.map u8++ts.flatMap vG):=hK
 have h1:=hs.threads
 have h2:=hs.mem
 unfold yA
 simp only [] at h1 h2 htn hmn ⊢
 obtain⟨b0,hb0⟩:∃b0:Int,b0=if bad then 1 else 0:=⟨_,rfl⟩
 rw [<-hb0] at hK2
 obtain⟨m,hm⟩:∃m,m=mem.length:=⟨_,rfl⟩
 obtain⟨n,hn⟩:∃n,n=ts.length:=⟨_,rfl⟩
 rw [<-hm] at h2 hmn ⊢
 rw [<-hn] at h1 htn ⊢
 have hB:=(Below.refl w.heap.size w).alloc (Nat.le_refl _) (.cells #[.slice ta n tc, .slice ma m mc, .bool bad] 42)
 have H1:=qh (yj w (.cells #[.slice ta n tc, .slice ma m mc, .bool bad] 42))
 have HM:=qh (zh.below zae.stays h2 hB)
 have HT:=qh (zh.below wN.stays h1 hB)
 have HB:=qh hB
 have HMM:=qh hm
 have HN:=qh hn
 have HK:=qh hK2
 have HL:=qh hl
 have HB0:=qh hb0
 clear hs h1 h2 hB hm hn hK hK2 hl hb0
 go_enter Tryz.func61,Tryz.ntmps61
 go_upto_region 1 with fail
 generalize World.alloc w _=W at HB H1 HM HT ⊢
 obtain⟨gx,hgx⟩:∃gx,gx=w.heap.size:=⟨_,rfl⟩
 rw [<-hgx] at H1 ⊢
 have xg:=qh hgx
 clear hgx
 have HC:Hid (∀x,Below W.heap.size W x->x.cell? ⟨gx,0,none⟩=some (.slice ta n tc)/\x.cell? ⟨gx,1,none⟩=some (.slice ma m mc)/\x.cell? ⟨gx,2,none⟩=some (.bool bad)):=λx hx=>
  ⟨zk hx _ _ (ze H1.out 0),zk hx _ _ (ze H1.out 1),zk hx _ _ (ze H1.out 2)⟩
 obtain⟨c0,c1,c2⟩:=HC.out (W.alloc (.cells #[.int .u8 0] 5)) ((Below.refl _ _).alloc (Nat.le_refl _) _)
 go_upto_if 14 with fail
 go_cut [3] (λs3 wr=>∃g:Nat,s3= .slice (some ⟨g,0,none⟩) 1 1/\Hid (wr.ownsRow W.heap.size 5 1 (.slice (some ⟨g,0,none⟩) 1 1) 1 (zo vJ [b0]))/\Hid (Below W.heap.size W wr))
 case first=>
  cases bad with
  |true=>
   have HBB:Hid (b0=1):=HB0.out
   go_wp2_with fail
   go_meet
   case rel=>exact⟨W.heap.size,rfl,by rw [HBB.out];exact gM (yj W (.cells #[.int .u8 1] 5)) (Nat.le_refl _) rfl (by unfold maxLen;omega),(Below.refl _ _).alloc (Nat.le_refl _) _⟩
  |false=>
  have HBB:Hid (b0=0):=HB0.out
  go_wp2_with fail
  go_meet
  case rel=>exact⟨W.heap.size,rfl,by rw [HBB.out];exact gM (yj W (.cells #[.int .u8 0] 5)) (Nat.le_refl _) rfl (by unfold maxLen;omega),(Below.refl _ _).alloc (Nat.le_refl _) _⟩
 case rest=>
 obtain⟨g,rfl,HO,yR⟩:=hcut
 obtain⟨W1,rfl⟩:∃Y:World,Y=wc:=⟨_,rfl⟩
 clear c0 c1 c2
 obtain⟨c0,c1,c2⟩:=HC.out W1 yR.out
 go_wp2_with fail
 clear c0 c1 c2
 go_loopg [3,20] m (λgg s3 s20 wr=>∃(i:Nat) (oa:Option Addr) (on oc:Nat) (ol:List Int),i<=m/\Hid (gg=m - i)/\s3= .slice oa on oc/\s20= .int .i64 i/\Hid (on=ol.length)/\Hid (K=ol++((mem.drop i).map u8++ts.flatMap vG))/\Hid (wr.ownsRow W.heap.size 5 1 (.slice oa on oc) on (zo vJ ol))/\Hid (Below W.heap.size W wr))
 case atStart=>exact⟨0,some ⟨g,0,none⟩,1,1, [b0],Nat.zero_le _,rfl,rfl,rfl,rfl,HK.out,HO.out,yR.out⟩
 case round=>
 obtain⟨i,oa,on,oc,ol,hi,HG,rfl,rfl,kV,HOL,gV,zL⟩:=hrel
 clear HO yR
 have hon:on<=1000000:=by have h:=congrArg List.length HOL.out;rw [List.length_append] at h;have:=HL.out;have:=kV.out;omega
 by_cases hlt:i<m
 ·have qN:(i:Int)<(m:Int):=by omega
  obtain⟨b,off,yh, -,e0⟩:=qm.part HM.out i (by rw [<-HMM.out];exact hlt)
  subst yh
  have hds:mem.drop i=mem.getD i 0::mem.drop (i+1):=zdo (by rw [<-HMM.out];exact hlt)
  have HDS:=qh hds
  clear hds
  generalize mem.getD i 0=q at e0 HDS
  have e1:=zk zL.out _ _ e0
  have hw8:=zs9 q
  clear e0
  go_wp2_with(at_builtin;go_must(refine zI _ rfl _ _ 22 rfl 5 (.int .u8 0) 1 1 Tryz.underlying22 zbH rfl (by decide) W.heap.size (.slice oa on oc) on (zo vJ ol) rfl ((gV.out).alloc _) ⟨wr.heap.size,0,none⟩ 1 1 (zo vJ [u8 q]) rfl rfl (qY _ [.int .u8 (u8 q)] _) (by simp [zo,vJ,Value.oneCell']) (by unfold maxLen;omega) (by omega) (by have:=zL.out.size;simp;omega) ?_);intro ja jc X f1 f2 f3 f4 f5 f6;have HE:=qh (zbI [u8 q] gV.out f1 f4 zL.out (Nat.le_refl _));clear f1 f2 f3 f4 f5 f6)
  go_roundg (m - (i+1))
  case measure=>rw [HG.out];omega
  case rel=>exact⟨i+1,ja,on+1,jc,ol++ [u8 q],by omega,rfl,rfl,by simp,by rw [Hid,List.length_append,kV.out];rfl,by rw [Hid,HOL.out,HDS.out];simp,HE.out.1,HE.out.2⟩
 obtain rfl:m=i:=by omega
 have zj3:Hid (K=ol++ts.flatMap vG):=by rw [Hid,HOL.out,HMM.out];simp
 obtain⟨c0,c1,c2⟩:=HC.out wr zL.out
 obtain⟨wm,rfl⟩:∃wm:World,wm=wr:=⟨_,rfl⟩
 go_wp2_with fail
 clear c0 c1 c2
 go_loopg [3,33] n (λgg s3 s33 wr=>∃(i:Nat) (oa:Option Addr) (on oc:Nat) (ol:List Int),i<=n/\Hid (gg=n - i)/\s3= .slice oa on oc/\s33= .int .i64 i/\Hid (on=ol.length)/\Hid (K=ol++(ts.drop i).flatMap vG)/\Hid (wr.ownsRow W.heap.size 5 1 (.slice oa on oc) on (zo vJ ol))/\Hid (Below W.heap.size W wr))
 case atStart=>exact⟨0,oa,on,oc,ol,Nat.zero_le _,rfl,rfl,rfl,kV.out,zj3.out,gV.out,zL.out⟩
 case round=>
 obtain⟨i,pa,pn,pc_,pl,hi,HG2,rfl,rfl,HPN,jS,HP,HBP⟩:=hrel
 clear kV HOL gV zL zj3 HG hon
 have hpn:pn<=1000000:=by have h:=congrArg List.length jS.out;rw [List.length_append] at h;have:=HL.out;have:=HPN.out;omega
 by_cases hlt:i<n
 rotate_left
 ·obtain rfl:n=i:=by omega
  have hkl:K=pl:=by rw [jS.out,HN.out];simp
  have hpl:pn=K.length:=by rw [hkl];exact HPN.out
  have hend:zm3 w K (.returned (.slice pa pn pc_)) wr:=by
   rw [hpl]
   refine⟨⟨pa,pc_,rfl, ?_⟩,HB.out.trans (HBP.out.mono HB.out.size)⟩
   have:=xq HP.out HB.out.size
   rw [<-hkl,hpl] at this
   exact this
  have zR:=qh hend
  clear hend hkl hpl
  go_wp2_with fail
  go_ret
  exact zR.out
 have qN:(i:Int)<(n:Int):=by omega
 obtain⟨b,off,ba,bc,yh, -,hr4,x0,x1,x2,x3,x4,x5,hbu⟩:=qG.part HT.out i (by rw [<-HN.out];exact hlt)
 subst yh
 have hds:ts.drop i=ts.getD i default::ts.drop (i+1):=zdo (by rw [<-HN.out];exact hlt)
 generalize ts.getD i default=t at hr4 x0 x1 x2 x3 x4 x5 hbu hds
 obtain⟨pc,regs,bf⟩:=t
 simp only [] at hr4 x0 x1 x2 x3 x4 x5 hbu
 obtain⟨r0,r1,r2,r3,rfl⟩:=wO hr4
 simp only [List.getD_cons_zero,List.getD_cons_succ] at x0 x1 x2 x3 x4
 obtain⟨bn,hbn⟩:∃bn,bn=bf.length:=⟨_,rfl⟩
 have zAt:bn<=9223372036854775807:=by have:=zh.room hbu;omega
 rw [<-hbn] at x5 hbu
 have z0Y:Hid (K=pl++([u8 (pc / 256),u8 pc] ++([r0,r1,r2,r3].map u8++([u8 bn] ++(bf.flatMap gQ++(ts.drop (i+1)).flatMap vG))))):=by rw [Hid,jS.out,hds,hbn];simp [vG]
 have HBN:=qh hbn
 have HBU:=qh hbu
 clear hds hr4 hbn hbu jS
 have y0:=zk HBP.out _ _ x0
 have y1:=zk HBP.out _ _ x1
 have y2:=zk HBP.out _ _ x2
 have y3:=zk HBP.out _ _ x3
 have y4:=zk HBP.out _ _ x4
 have y5:=zk HBP.out _ _ x5
 clear x0 x1 x2 x3 x4 x5
 go_upto_region 12 with fail
 go_upto_region 13 with(at_builtin;go_must(refine zI _ rfl _ _ 22 rfl 5 (.int .u8 0) 1 1 Tryz.underlying22 zbH rfl (by decide) W.heap.size (.slice pa pn pc_) pn (zo vJ pl) rfl ((HP.out.alloc _).alloc _) ⟨wr.heap.size+1,0,none⟩ 2 2 (zo vJ [u8 (pc / 256),u8 pc]) rfl rfl (zm2 _ _ (zo vJ [u8 (pc / 256),u8 pc]) _) (by simp [zo,vJ,Value.oneCell']) (by unfold maxLen;omega) (by omega) (by have:=HBP.out.size;simp;omega) ?_);intro ja jc X f1 f2 f3 f4 f5 f6;have HE:=qh (zbI [u8 (pc / 256),u8 pc] (HP.out.alloc _) f1 f4 (HBP.out.alloc HBP.out.size _) (Nat.le_refl _));have HX:=qh (zbC (HP.out.alloc _) (yj wr (.cells #[.int .i64 pc, .int .i64 r0, .int .i64 r1, .int .i64 r2, .int .i64 r3, .slice ba bn bc] 80)) (by decide) f4);clear f1 f2 f3 f4 f5 f6)
 generalize wr.heap.size=gt at HX ⊢
 have zvy:Hid (pn+2=(pl++ [u8 (pc / 256),u8 pc]).length):=by rw [Hid,List.length_append,HPN.out];rfl
 have zlH:Hid (K=(pl++ [u8 (pc / 256),u8 pc])++(([r0,r1,r2,r3].drop 0).map u8++([u8 bn] ++(bf.flatMap gQ++(ts.drop (i+1)).flatMap vG)))):=by rw [Hid,z0Y.out];simp
 generalize pl++ [u8 (pc / 256),u8 pc] =pl2 at zvy zlH HE
 have HP2:=qh HE.out.1
 have z0Z:=qh HE.out.2
 clear HE y0 y1 y2 y3 y4 y5 z0Y
 obtain⟨wt,rfl⟩:∃wt:World,wt=X:=⟨_,rfl⟩
 have d1:=ze HX.out 1
 have d2:=ze HX.out 2
 have d3:=ze HX.out 3
 have d4:=ze HX.out 4
 go_wp2_with fail
 clear d1 d2 d3 d4
 go_loopg [3,49] 4 (λgg s3 s49 wr=>∃(k:Nat) (oa:Option Addr) (on oc:Nat) (ol:List Int),k<=4/\Hid (gg=4 - k)/\s3= .slice oa on oc/\s49= .int .i64 k/\Hid (on=ol.length)/\Hid (K=ol++(([r0,r1,r2,r3].drop k).map u8++([u8 bn] ++(bf.flatMap gQ++(ts.drop (i+1)).flatMap vG))))/\Hid (wr.ownsRow W.heap.size 5 1 (.slice oa on oc) on (zo vJ ol))/\Hid (Below W.heap.size W wr)/\Hid (wr.heap[gt]? =some (.cells #[.int .i64 pc, .int .i64 r0, .int .i64 r1, .int .i64 r2, .int .i64 r3, .slice ba bn bc] 80 (0,0))))
 case atStart=>exact⟨0,ja,pn+2,jc,pl2,by omega,rfl,rfl,rfl,zvy.out,zlH.out,HP2.out,z0Z.out,HX.out⟩
 case round=>
 obtain⟨k,oa,on,oc,ol,hk,jv,rfl,rfl,kV,HOL,gV,zL,xI⟩:=hrel
 clear zvy zlH HP2 z0Z HX
 have hon:on<=1000000:=by have h:=congrArg List.length HOL.out;rw [List.length_append] at h;have:=HL.out;have:=kV.out;omega
 by_cases hk4:k<4
 ·have hkI:(k:Int)<4:=by omega
  have hix:=zqb r0 r1 r2 r3 k hk4
  have hds: [r0,r1,r2,r3].drop k= [r0,r1,r2,r3].getD k 0:: [r0,r1,r2,r3].drop (k+1):=zdo (by simpa using hk4)
  have HDS:=qh hds
  clear hds
  generalize [r0,r1,r2,r3].getD k 0=q at hix HDS
  go_wp2_with(at_builtin;go_must(refine zI _ rfl _ _ 22 rfl 5 (.int .u8 0) 1 1 Tryz.underlying22 zbH rfl (by decide) W.heap.size (.slice oa on oc) on (zo vJ ol) rfl ((gV.out).alloc _) ⟨wr.heap.size,0,none⟩ 1 1 (zo vJ [u8 q]) rfl rfl (qY _ (zo vJ [u8 q]) _) (by simp [zo,vJ,Value.oneCell']) (by unfold maxLen;omega) (by omega) (by have:=zL.out.size;simp;omega) ?_);intro ja jc X f1 f2 f3 f4 f5 f6;have HE:=qh (zbI [u8 q] (gV.out) f1 f4 (zL.out) (Nat.le_refl _));have HX:=qh (zbC gV.out xI.out (by decide) f4);clear f1 f2 f3 f4 f5 f6)
  go_roundg (4 - (k+1))
  case measure=>rw [jv.out];omega
  case rel=>exact⟨k+1,ja,on+1,jc,ol++ [u8 q],by omega,rfl,rfl,by simp,by rw [Hid,List.length_append,kV.out];rfl,by rw [Hid,HOL.out,HDS.out];simp,HE.out.1,HE.out.2,HX.out⟩
 obtain rfl:k=4:=by omega
 have d5:=ze xI.out 5
 obtain⟨wq,rfl⟩:∃wq:World,wq=wr:=⟨_,rfl⟩
 go_upto_region 19 with(at_builtin;go_must(refine zI _ rfl _ _ 22 rfl 5 (.int .u8 0) 1 1 Tryz.underlying22 zbH rfl (by decide) W.heap.size (.slice oa on oc) on (zo vJ ol) rfl ((gV.out).alloc _) ⟨wq.heap.size,0,none⟩ 1 1 (zo vJ [u8 bn]) rfl rfl (qY _ (zo vJ [u8 bn]) _) (by simp [zo,vJ,Value.oneCell']) (by unfold maxLen;omega) (by omega) (by have:=zL.out.size;simp;omega) ?_);intro ja jc X f1 f2 f3 f4 f5 f6;have HE:=qh (zbI [u8 bn] (gV.out) f1 f4 (zL.out) (Nat.le_refl _));have HX:=qh (zbC gV.out xI.out (by decide) f4);clear f1 f2 f3 f4 f5 f6)
 have zvz:Hid (on+1=(ol++ [u8 bn]).length):=by rw [Hid,List.length_append,kV.out];rfl
 have zj3:Hid (K=(ol++ [u8 bn])++((bf.drop 0).flatMap gQ++(ts.drop (i+1)).flatMap vG)):=by rw [Hid,HOL.out];simp
 generalize ol++ [u8 bn] =ol2 at zvz zj3 HE
 have HO3:=qh HE.out.1
 have HB3:=qh HE.out.2
 clear HE kV HOL gV zL xI d5 hon
 have d5:=ze HX.out 5
 obtain⟨we,rfl⟩:∃we:World,we=X:=⟨_,rfl⟩
 go_wp2_with fail
 clear d5
 go_loopg [3,68] bn (λgg s3 s68 wr=>∃(k:Nat) (oa:Option Addr) (on oc:Nat) (ol:List Int),k<=bn/\Hid (gg=bn - k)/\s3= .slice oa on oc/\s68= .int .i64 k/\Hid (on=ol.length)/\Hid (K=ol++((bf.drop k).flatMap gQ++(ts.drop (i+1)).flatMap vG))/\Hid (wr.ownsRow W.heap.size 5 1 (.slice oa on oc) on (zo vJ ol))/\Hid (Below W.heap.size W wr)/\Hid (wr.heap[gt]? =some (.cells #[.int .i64 pc, .int .i64 r0, .int .i64 r1, .int .i64 r2, .int .i64 r3, .slice ba bn bc] 80 (0,0))))
 case atStart=>exact⟨0,ja,on+1,jc,ol2,by omega,rfl,rfl,rfl,zvz.out,zj3.out,HO3.out,HB3.out,HX.out⟩
 case round=>
 obtain⟨k,qa,qn,qc,ql,hk,wZ,rfl,rfl,HQN,HQL,HQ,HBQ,xI⟩:=hrel
 clear zvz zj3 HO3 HB3 HX
 have hqn:qn<=1000000:=by have h:=congrArg List.length HQL.out;rw [List.length_append] at h;have:=HL.out;have:=HQN.out;omega
 by_cases hkb:k<bn
 rotate_left
 ·obtain rfl:bn=k:=by omega
  have z6G:Hid (K=ql++(ts.drop (i+1)).flatMap vG):=by rw [Hid,HQL.out,HBN.out];simp
  go_wp2_with fail
  go_roundg (n - (i+1))
  case measure=>rw [HG2.out];omega
  case rel=>exact⟨i+1,qa,qn,qc,ql,by omega,rfl,rfl,by simp,HQN.out,z6G.out,HQ.out,HBQ.out⟩
 have hkI:(k:Int)<(bn:Int):=by omega
 obtain⟨eb,eo,yh, -,z0,z1⟩:=zZ.part HBU.out k (by rw [<-HBN.out];exact hkb)
 subst yh
 have hds:bf.drop k=bf.getD k default::bf.drop (k+1):=zdo (by rw [<-HBN.out];exact hkb)
 have HDS:=qh hds
 clear hds
 generalize bf.getD k default=en at z0 z1 HDS
 obtain⟨ev,ex⟩:=en
 simp only [] at z0 z1
 have y0:=zk HBQ.out _ _ z0
 have y1:=zk HBQ.out _ _ z1
 clear z0 z1
 go_wp2_with(at_builtin;go_must(refine zI _ rfl _ _ 22 rfl 5 (.int .u8 0) 1 1 Tryz.underlying22 zbH rfl (by decide) W.heap.size (.slice qa qn qc) qn (zo vJ ql) rfl ((HQ.out.alloc _).alloc _) ⟨wr.heap.size+1,0,none⟩ 2 2 (zo vJ [u8 ev,u8 ex]) rfl rfl (zm2 _ _ (zo vJ [u8 ev,u8 ex]) _) (by simp [zo,vJ,Value.oneCell']) (by unfold maxLen;omega) (by omega) (by have:=HBQ.out.size;simp;omega) ?_);intro ja jc X f1 f2 f3 f4 f5 f6;have HE:=qh (zbI [u8 ev,u8 ex] (HQ.out.alloc _) f1 f4 (HBQ.out.alloc HBQ.out.size _) (Nat.le_refl _));have HX:=qh (zbC (HQ.out.alloc _) ((Below.heap_alloc _ _ _ (zw xI.out)).trans xI.out) (by decide) f4);clear f1 f2 f3 f4 f5 f6)
 go_roundg (bn - (k+1))
 case measure=>rw [wZ.out];omega
 case rel=>exact⟨k+1,ja,qn+2,jc,ql++ [u8 ev,u8 ex],by omega,rfl,rfl,by simp,by rw [Hid,List.length_append,HQN.out];rfl,by rw [Hid,HQL.out,HDS.out];simp [gQ],HE.out.1,HE.out.2,HX.out⟩
def zsB (w:World) (k:ByteArray) (e:Ending) (w':World):Prop:=e= .returned (.string k)/\Below w.heap.size w w'
theorem zju (w:World) (s:zi) (sv mv:Value) (hs:zX w s sv mv) (hl:(bM s).length<=1000000):Calls Tryz.prog 38 #[yA s sv mv] w (zsB w (keyOf s)):=by
 obtain⟨ta,tc,rfl, -⟩:=zh.slice hs.threads
 obtain⟨ma,mc,rfl, -⟩:=zh.slice hs.mem
 have hcall:=λW (hW:Below w.heap.size w W)=>zsA W s _ _ (hs.below hW) hl
 have hpos:0<(bM s).length:=by simp [bM]
 unfold keyOf
 generalize bM s=K at hcall hpos ⊢
 unfold yA at hcall ⊢
 generalize s.threads.length=n at hcall ⊢
 generalize s.mem.length=m at hcall ⊢
 generalize s.bad=bad at hcall ⊢
 have hB:=(Below.refl w.heap.size w).alloc (Nat.le_refl _) (.cells #[.slice ta n tc, .slice ma m mc, .bool bad] 42)
 have H1:=qh (yj w (.cells #[.slice ta n tc, .slice ma m mc, .bool bad] 42))
 have zgn:=qh (hcall _ hB)
 have HB:=qh hB
 have z1a:=qh hpos
 clear hcall hB hs hl hpos
 go_enter Tryz.func38,Tryz.ntmps38
 go_upto_region 1 with fail
 generalize World.alloc w _=W at HB H1 zgn ⊢
 obtain⟨gx,hgx⟩:∃gx,gx=w.heap.size:=⟨_,rfl⟩
 rw [<-hgx] at H1 ⊢
 have xg:=qh hgx
 clear hgx
 have c0:=ze H1.out 0
 have c1:=ze H1.out 1
 have c2:=ze H1.out 2
 go_wp2_with fail
 go_must(refine zgn.out.mono ?_)
 rintro e X ⟨⟨a,c,rfl,hr⟩,hb⟩
 have zR:=qh (HB.out.trans (hb.mono HB.out.size))
 obtain⟨g,cap,he, -, -⟩:=uz hr z1a.out
 cases he
 have zxf:∀dst,Tryz.prog.underlying dst=some .string->(convert 22 dst (.slice (some ⟨g,0,none⟩) K.length c)).run Tryz.prog X= .ok (.string (strOfNums K)) X:=run_convert_bytes_arg X 22 5 Tryz.underlying22 Tryz.underlying5 g 0 K.length c K rfl (λi hi=>by
  rw [Nat.zero_add]
  have h:=hr.cellAt i (by omega)
  have h2:=zay (f:=vJ) (size:=1) zvx (l:=K) (j:=i) (i:=0) hi (by omega)
  rw [Nat.mul_one,Nat.add_zero] at h2
  rw [h,h2];simp [vJ])
 have hc2:=zxf 9 Tryz.underlying9
 clear zxf c0 c1 c2 hr hb z1a
 go_wp2_with fail
 go_ret
 exact⟨rfl,zR.out⟩
