/- Steps. -/
import Derived.Test.YteggflahafiieaaGreatDoorZgPFits
import Derived.Test.YteggflahafiieaaGreatDoorZgPOp
set_option linter.all false
namespace Go.Proofs.YteggflahafiieaaGreatDoor
open Go.RowKit
set_option maxRecDepth 100000
set_option maxHeartbeats 16000000
variable {v0:Value}
structure xq (v0:Value) (w:World) (B gr:Nat) (pc r0 r1 r2 r3:Int) (buf:List zi) (bv:Value) (m:zF) (dom:Int) (mem:List Int) (mb mc:Nat) (bad:Bool):Prop where
 block:w.heap[gr]? =some (.cells #[.int .i64 pc, .int .i64 r0, .int .i64 r1, .int .i64 r2, .int .i64 r3,bv, .int .i64 m.model, .int .i64 m.bound, .int .i64 dom, .slice (some ⟨mb,0,none⟩) mem.length mc, .bool bad] 142 (0,0))
 row:w.ownsRow B 3 1 (.slice (some ⟨mb,0,none⟩) mem.length mc) mem.length (zl yO mem)
 qJ:zW w bv buf
 base:B<=gr
 ne:gr≠mb
 apart:buf≠ [] ->∀b o n c,bv= .slice (some ⟨b,o,none⟩) n c->b≠gr/\b≠mb
 kept:bv=v0\/∀b o n c,bv= .slice (some ⟨b,o,none⟩) n c->B<=b
section
variable {w w':World} {B gr mb mc:Nat} {pc r0 r1 r2 r3 dom:Int} {buf:List zi} {bv:Value} {m:zF} {mem:List Int} {bad:Bool}
theorem xq.below (h:xq v0 w B gr pc r0 r1 r2 r3 buf bv m dom mem mb mc bad) (hb:Below w.heap.size w w'):xq v0 w' B gr pc r0 r1 r2 r3 buf bv m dom mem mb mc bad:=
 ⟨(hb.block gr (zq h.block)).trans h.block,xX h.row hb,zW.below h.qJ hb,h.base,h.ne,h.apart,h.kept⟩
theorem xq.kQ (h:xq v0 w B gr pc r0 r1 r2 r3 buf bv m dom mem mb mc bad):B<=mb/\mb<w.heap.size:=h.row.lt mb rfl
theorem xq.wR (h:xq v0 w B gr pc r0 r1 r2 r3 buf bv m dom mem mb mc bad) {v:Nat} (hv:v<mem.length):w.cell? ⟨mb,v,none⟩=some (.int .i64 (mem.getD v 0))/\w.frozen? ⟨mb,v,none⟩=false:=by
 have hx:(zl yO mem)[v]? =some (.int .i64 (mem.getD v 0)):=by
  have:=zaR (f:=yO) uZ hv (show 0<1 by decide)
  simpa [yO] using this
 obtain⟨g,cap,he, -,h1,h2⟩:=qX h.row hx
 cases he
 exact⟨h1,h2⟩
theorem zjE {F:Nat->Prop} {sv:Value} {l:List zi} (h:zW w sv l) (hs:Since F w w') (hF:∀b o n c,sv= .slice (some ⟨b,o,none⟩) n c->¬F b):zW w' sv l:=by
 obtain⟨a,cap,h1,h2,h4⟩:=h
 refine⟨a,cap,h1,h2,λj hj=> ?_⟩
 obtain⟨b,off,cs,h5,h6,h7,h8,h9⟩:=h4 j hj
 subst h5
 exact⟨b,off,cs,rfl,Nat.lt_of_lt_of_le h6 hs.size,h7,λi hi=>(hs.cell (p:=⟨b,off+j*2+i,none⟩) h6 (hF b off _ _ h1)).trans (h8 i hi),h9⟩
theorem bA {F:Nat->Prop} {sv:Value} {l:List zi} (h:zW w sv l) (hs:Since F w w') (hF:l≠ [] ->∀b o n c,sv= .slice (some ⟨b,o,none⟩) n c->¬F b):zW w' sv l:=by
 by_cases e:l= []
 ·subst e
  obtain⟨a,cap,h1,h2, -⟩:=h
  exact⟨a,cap,h1,h2,λj hj=>by simp at hj⟩
 exact zjE h hs (hF e)
theorem xq.zqK (h:xq v0 w B gr pc r0 r1 r2 r3 buf bv m dom mem mb mc bad) (x:Int):xq v0 (w.setCell ⟨gr,0,none⟩ (.int .i64 x)) B gr x r0 r1 r2 r3 buf bv m dom mem mb mc bad:=by
 have hs:=Since.setCell (F:=λk=>k=gr) (p:=⟨gr,0,none⟩) (Since.refl _ w) (.inl rfl) (.int .i64 x)
 exact⟨zu h.block 0 _,hs.row h.row (λk hk e=>h.ne (by cases hk;exact e.symm)),bA h.qJ hs (λe b o n c hb=>(h.apart e b o n c hb).1),h.base,h.ne,h.apart,h.kept⟩
theorem xq.znV (h:xq v0 w B gr pc r0 r1 r2 r3 buf bv m dom mem mb mc bad) (x:Bool):xq v0 (w.setCell ⟨gr,10,none⟩ (.bool x)) B gr pc r0 r1 r2 r3 buf bv m dom mem mb mc x:=by
 have hs:=Since.setCell (F:=λk=>k=gr) (p:=⟨gr,10,none⟩) (Since.refl _ w) (.inl rfl) (.bool x)
 exact⟨zu h.block 10 _,hs.row h.row (λk hk e=>h.ne (by cases hk;exact e.symm)),bA h.qJ hs (λe b o n c hb=>(h.apart e b o n c hb).1),h.base,h.ne,h.apart,h.kept⟩
theorem xq.zd0 (h:xq v0 w B gr pc r0 r1 r2 r3 buf bv m dom mem mb mc bad) (k:Nat) (hk:k<4) (x:Int):xq v0 (w.setCell ⟨gr,1+k,none⟩ (.int .i64 x)) B gr pc (([r0,r1,r2,r3].set k x).getD 0 0) (([r0,r1,r2,r3].set k x).getD 1 0) (([r0,r1,r2,r3].set k x).getD 2 0) (([r0,r1,r2,r3].set k x).getD 3 0) buf bv m dom mem mb mc bad:=by
 have hs:=Since.setCell (F:=λk=>k=gr) (p:=⟨gr,1+k,none⟩) (Since.refl _ w) (.inl rfl) (.int .i64 x)
 refine⟨?_,hs.row h.row (λk hk e=>h.ne (by cases hk;exact e.symm)),bA h.qJ hs (λe b o n c hb=>(h.apart e b o n c hb).1),h.base,h.ne,h.apart,h.kept⟩
 have e:=zu h.block (1+k) (.int .i64 x)
 have:k=0\/k=1\/k=2\/k=3:=by omega
 rcases this with rfl|rfl|rfl|rfl<;>exact e
theorem xq.zsL (h:xq v0 w B gr pc r0 r1 r2 r3 buf bv m dom mem mb mc bad) {V:World} (hV:gr<V.heap.size/\mb<V.heap.size) {wO:Value} {buf':List zi} (hb:w.ownsRow V.heap.size 136 2 wO buf'.length (zl zi.cells buf')):xq v0 (w.setCell ⟨gr,5,none⟩ wO) B gr pc r0 r1 r2 r3 buf' wO m dom mem mb mc bad:=by
 have hs:=Since.setCell (F:=λk=>k=gr) (p:=⟨gr,5,none⟩) (Since.refl _ w) (.inl rfl) wO
 have ha:∀b o n c,wO= .slice (some ⟨b,o,none⟩) n c->b≠gr/\b≠mb:=λb o n c e=>by
  rcases hb.2 with⟨he, -⟩|⟨g,cap,cur,he,hB, -⟩
  ·rw [he] at e;cases e
  rw [he] at e;cases e;exact⟨by omega,by omega⟩
 refine⟨zu h.block 5 _,hs.row h.row (λk hk e=>h.ne (by cases hk;exact e.symm)),zjE (jE hb) hs (λb o n c e=>(ha b o n c e).1),h.base,h.ne,λ_=>ha, .inr λb o n c e=> ?_⟩
 have hbg:=h.base
 rcases hb.2 with⟨he, -⟩|⟨g,cap,cur,he,hB, -⟩
 ·rw [he] at e;cases e
 rw [he] at e;cases e;omega
theorem xq.zcg (h:xq v0 w B gr pc r0 r1 r2 r3 buf bv m dom mem mb mc bad) (v:Nat) (x:Int):xq v0 (w.setCell ⟨mb,v,none⟩ (.int .i64 x)) B gr pc r0 r1 r2 r3 buf bv m dom (mem.set v x) mb mc bad:=by
 have hs:=Since.setCell (F:=λk=>k=mb) (p:=⟨mb,v,none⟩) (Since.refl _ w) (.inl rfl) (.int .i64 x)
 have hr:=uf (j:=v) h.row (.int .i64 x)
 refine⟨?_, ?_,bA h.qJ hs (λe b o n c hb=>(h.apart e b o n c hb).2),h.base,h.ne,h.apart,h.kept⟩
 ·rw [List.length_set];exact(hs.block gr (zq h.block) h.ne).trans h.block
 rw [List.length_set,znW];exact hr
end
theorem bg {w:World} {B gr mb mc:Nat} {pc r0 r1 r2 r3 dom:Int} {buf:List zi} {bv:Value} {m:zF} {mem:List Int} {bad:Bool} (h:xq v0 w B gr pc r0 r1 r2 r3 buf bv m dom mem mb mc bad) (hd1:1<=dom) (hd2:dom<=1000) (d:Nat) (x:zH) (kv:Value) (hx:zx d w x kv):
  Calls Tryz.prog 175 #[.pointer (some ⟨gr,0,none⟩),xQ x kv] w λe w'=>e= .returned (.int .i64 (zZ [r0,r1,r2,r3] dom d x))/\Below w.heap.size w w':=by
 have hev:=λW (hW:Below w.heap.size w W)=>zrn r0 r1 r2 r3 dom hd1 hd2 d W x kv (hx.below hW)
 obtain⟨ka,kc,rfl, -⟩:=hx.slice
 generalize zZ [r0,r1,r2,r3] dom d x=r at hev ⊢
 unfold xQ at hev ⊢
 generalize x.kind=k at hev ⊢
 generalize x.n=n at hev ⊢
 generalize x.op=o at hev ⊢
 generalize x.kids.length=l at hev ⊢
 have HEV:=qh hev
 have HR:=qh h
 clear hev hx h
 have HA:=qh ((Below.refl w.heap.size w).alloc (Nat.le_refl _) (.cells #[.int .i64 k, .int .i64 n, .int .u8 o, .slice ka l kc] 51))
 have HX:=qh (yE w (.cells #[.int .i64 k, .int .i64 n, .int .u8 o, .slice ka l kc] 51))
 go_enter Tryz.func175,Tryz.ntmps175
 go_upto_region 1 with fail
 generalize World.alloc w _=W at HA HX ⊢
 obtain⟨gi,hgi⟩:∃g,g=w.heap.size:=⟨_,rfl⟩
 rw [<-hgi] at HX ⊢
 clear hgi
 have HB:=qh ((HR.out.below HA.out).block)
 have CC:Hid (∀x,Below W.heap.size W x->x.cell? ⟨gi,0,none⟩=some (.int .i64 k)/\x.cell? ⟨gi,1,none⟩=some (.int .i64 n)/\x.cell? ⟨gi,2,none⟩=some (.int .u8 o)/\x.cell? ⟨gi,3,none⟩=some (.slice ka l kc)/\x.cell? ⟨gr,1,none⟩=some (.int .i64 r0)/\x.cell? ⟨gr,2,none⟩=some (.int .i64 r1)/\x.cell? ⟨gr,3,none⟩=some (.int .i64 r2)/\x.cell? ⟨gr,4,none⟩=some (.int .i64 r3)/\x.cell? ⟨gr,8,none⟩=some (.int .i64 dom)):=λx hx=>
  ⟨zh hx _ _ (za HX.out 0),zh hx _ _ (za HX.out 1),zh hx _ _ (za HX.out 2),zh hx _ _ (za HX.out 3),zh hx _ _ (za HB.out 1),zh hx _ _ (za HB.out 2),zh hx _ _ (za HB.out 3),zh hx _ _ (za HB.out 4),zh hx _ _ (za HB.out 8)⟩
 refine vJ (S:=λx=>Below W.heap.size W x) ((Below.refl _ _).drew) (λhH=> ?_)
 refine zk 0 CC.out ?_
 refine zk 1 CC.out ?_
 refine zk 2 CC.out ?_
 refine zk 3 CC.out ?_
 refine zk 4 CC.out ?_
 refine zk 5 CC.out ?_
 refine zk 6 CC.out ?_
 refine zk 7 CC.out ?_
 refine zk 8 CC.out ?_
 refine zk 9 CC.out ?_
 refine yw 10 rfl (λK hK=> ?_)
 go_simp
 refine(HEV.out W.drew (zB HA.out hH)).mono ?_
 rintro e z0n ⟨rfl,hb⟩
 have zwY:Below W.heap.size W z0n:=zB hH hb
 refine hK.out _ _ zwY (λ_=> ?_)
 clear hK K hb hH
 refine zk 11 CC.out ?_
 refine xM ?_
 have HB2:Hid (Below w.heap.size w z0n):=zB HA.out (zwY)
 go_wp2_with fail
 go_ret
 exact⟨by first|rfl|(simp;done)|(simp;omega),HB2.out⟩
theorem gZ {w:World} {B gr mb mc:Nat} {pc r0 r1 r2 r3 dom:Int} {buf:List zi} {bv:Value} {m:zF} {mem:List Int} {bad:Bool} (h:xq v0 w B gr pc r0 r1 r2 r3 buf bv m dom mem mb mc bad):
  Calls Tryz.prog 176 #[.pointer (some ⟨gr,0,none⟩)] w λe w'=>e= .returned (.bool (decide (buf.length=0)))/\w'=w:=by
 obtain⟨ba,bc,hbv, -⟩:=ze.slice h.qJ
 have hb:=h.block
 rw [hbv] at hb
 have c5:w.cell? ⟨gr,5,none⟩=some (.slice ba buf.length bc):=za hb 5
 clear hb h
 go_enter Tryz.func176,Tryz.ntmps176
 go_wp2_with fail
 go_ret
 refine⟨congrArg (λq=>Ending.returned (.bool q)) ?_,rfl⟩
 first|rfl|(rw [Bool.eq_iff_iff];simp)
