/- A thread's move in a state of its own: the program's runner: what it holds, what an expression is, whether nothing waits. -/
import Derived.Deep.RegionWith
import Derived.Test.YtliajkheeniljaaGreatDoorZsPFits
import Derived.Test.YtliajkheeniljaaGreatDoorZsPOp
import Derived.Test.YtliajkheeniljaaGreatDoorZsShort
set_option linter.all false
namespace Go.Proofs.YtliajkheeniljaaGreatDoor
open Go.RowKit
set_option maxRecDepth 100000
set_option maxHeartbeats 16000000
variable {v0:Value}
structure xq (v0:Value) (w:World) (B gr:Nat) (pc r0 r1 r2 r3:Int) (buf:List zm) (bv:Value) (m:zK) (dom:Int) (mem:List Int) (mb mc:Nat) (bad:Bool):Prop where
 block:w.heap[gr]? =some (.cells #[.int .i64 pc, .int .i64 r0, .int .i64 r1, .int .i64 r2, .int .i64 r3,bv, .int .i64 m.model, .int .i64 m.bound, .int .i64 dom, .slice (some ⟨mb,0,none⟩) mem.length mc, .bool bad] 138 (0,0))
 row:w.ownsRow B 3 1 (.slice (some ⟨mb,0,none⟩) mem.length mc) mem.length (zq yK mem)
 qF:zQ w bv buf
 base:B<=gr
 ne:gr≠mb
 apart:buf≠ [] ->∀b o n c,bv= .slice (some ⟨b,o,none⟩) n c->b≠gr/\b≠mb
 kept:bv=v0\/∀b o n c,bv= .slice (some ⟨b,o,none⟩) n c->B<=b
section
variable {w w':World} {B gr mb mc:Nat} {pc r0 r1 r2 r3 dom:Int} {buf:List zm} {bv:Value} {m:zK} {mem:List Int} {bad:Bool}
theorem xq.below (h:xq v0 w B gr pc r0 r1 r2 r3 buf bv m dom mem mb mc bad) (hb:Below w.heap.size w w'):xq v0 w' B gr pc r0 r1 r2 r3 buf bv m dom mem mb mc bad:=
 ⟨(hb.block gr (zw h.block)).trans h.block,xS h.row hb,zQ.below h.qF hb,h.base,h.ne,h.apart,h.kept⟩
theorem xq.kC (h:xq v0 w B gr pc r0 r1 r2 r3 buf bv m dom mem mb mc bad):B<=mb/\mb<w.heap.size:=h.row.lt mb rfl
theorem xq.wD (h:xq v0 w B gr pc r0 r1 r2 r3 buf bv m dom mem mb mc bad) {v:Nat} (hv:v<mem.length):w.cell? ⟨mb,v,none⟩=some (.int .i64 (mem.getD v 0))/\w.frozen? ⟨mb,v,none⟩=false:=by
 have hx:(zq yK mem)[v]? =some (.int .i64 (mem.getD v 0)):=by
  have:=zba (f:=yK) uZ hv (show 0<1 by decide)
  simpa [yK] using this
 obtain⟨g,cap,he, -,h1,h2⟩:=qM h.row hx
 cases he
 exact⟨h1,h2⟩
theorem zhC {F:Nat->Prop} {sv:Value} {l:List zm} (h:zQ w sv l) (hs:Since F w w') (hF:∀b o n c,sv= .slice (some ⟨b,o,none⟩) n c->¬F b):zQ w' sv l:=by
 obtain⟨a,cap,h1,h2,h4⟩:=h
 refine⟨a,cap,h1,h2,fun j hj=> ?_⟩
 obtain⟨b,off,cs,h5,h6,h7,h8,h9⟩:=h4 j hj
 subst h5
 exact⟨b,off,cs,rfl,Nat.lt_of_lt_of_le h6 hs.size,h7,fun i hi=>(hs.cell (p:=⟨b,off+j*2+i,none⟩) h6 (hF b off _ _ h1)).trans (h8 i hi),h9⟩
theorem bD {F:Nat->Prop} {sv:Value} {l:List zm} (h:zQ w sv l) (hs:Since F w w') (hF:l≠ [] ->∀b o n c,sv= .slice (some ⟨b,o,none⟩) n c->¬F b):zQ w' sv l:=by
 by_cases e:l= []
 ·subst e
  obtain⟨a,cap,h1,h2, -⟩:=h
  exact⟨a,cap,h1,h2,fun j hj=>by simp at hj⟩
 ·exact zhC h hs (hF e)
theorem xq.zlv (h:xq v0 w B gr pc r0 r1 r2 r3 buf bv m dom mem mb mc bad) (x:Int):xq v0 (w.setCell ⟨gr,0,none⟩ (.int .i64 x)) B gr x r0 r1 r2 r3 buf bv m dom mem mb mc bad:=by
 have hs:=Since.setCell (F:=fun k=>k=gr) (p:=⟨gr,0,none⟩) (Since.refl _ w) (.inl rfl) (.int .i64 x)
 exact⟨zA h.block 0 _,hs.row h.row (fun k hk e=>h.ne (by cases hk;exact e.symm)),bD h.qF hs (fun e b o n c hb=>(h.apart e b o n c hb).1),h.base,h.ne,h.apart,h.kept⟩
theorem xq.zj8 (h:xq v0 w B gr pc r0 r1 r2 r3 buf bv m dom mem mb mc bad) (x:Bool):xq v0 (w.setCell ⟨gr,10,none⟩ (.bool x)) B gr pc r0 r1 r2 r3 buf bv m dom mem mb mc x:=by
 have hs:=Since.setCell (F:=fun k=>k=gr) (p:=⟨gr,10,none⟩) (Since.refl _ w) (.inl rfl) (.bool x)
 exact⟨zA h.block 10 _,hs.row h.row (fun k hk e=>h.ne (by cases hk;exact e.symm)),bD h.qF hs (fun e b o n c hb=>(h.apart e b o n c hb).1),h.base,h.ne,h.apart,h.kept⟩
theorem xq.zdH (h:xq v0 w B gr pc r0 r1 r2 r3 buf bv m dom mem mb mc bad) (k:Nat) (hk:k<4) (x:Int):xq v0 (w.setCell ⟨gr,1+k,none⟩ (.int .i64 x)) B gr pc (([r0,r1,r2,r3].set k x).getD 0 0) (([r0,r1,r2,r3].set k x).getD 1 0) (([r0,r1,r2,r3].set k x).getD 2 0) (([r0,r1,r2,r3].set k x).getD 3 0) buf bv m dom mem mb mc bad:=by
 have hs:=Since.setCell (F:=fun k=>k=gr) (p:=⟨gr,1+k,none⟩) (Since.refl _ w) (.inl rfl) (.int .i64 x)
 refine⟨?_,hs.row h.row (fun k hk e=>h.ne (by cases hk;exact e.symm)),bD h.qF hs (fun e b o n c hb=>(h.apart e b o n c hb).1),h.base,h.ne,h.apart,h.kept⟩
 have e:=zA h.block (1+k) (.int .i64 x)
 have:k=0\/k=1\/k=2\/k=3:=by omega
 rcases this with rfl|rfl|rfl|rfl<;>exact e
theorem xq.zog (h:xq v0 w B gr pc r0 r1 r2 r3 buf bv m dom mem mb mc bad) {V:World} (hV:gr<V.heap.size/\mb<V.heap.size) {kZ:Value} {buf':List zm} (hb:w.ownsRow V.heap.size 50 2 kZ buf'.length (zq zm.cells buf')):xq v0 (w.setCell ⟨gr,5,none⟩ kZ) B gr pc r0 r1 r2 r3 buf' kZ m dom mem mb mc bad:=by
 have hs:=Since.setCell (F:=fun k=>k=gr) (p:=⟨gr,5,none⟩) (Since.refl _ w) (.inl rfl) kZ
 have ha:∀b o n c,kZ= .slice (some ⟨b,o,none⟩) n c->b≠gr/\b≠mb:=fun b o n c e=>by
  rcases hb.2 with⟨he, -⟩|⟨g,cap,cur,he,hB, -⟩
  ·rw [he] at e;cases e
  ·rw [he] at e;cases e;exact⟨by omega,by omega⟩
 refine⟨zA h.block 5 _,hs.row h.row (fun k hk e=>h.ne (by cases hk;exact e.symm)),zhC (jA hb) hs (fun b o n c e=>(ha b o n c e).1),h.base,h.ne,fun _=>ha, .inr fun b o n c e=> ?_⟩
 have hbg:=h.base
 rcases hb.2 with⟨he, -⟩|⟨g,cap,cur,he,hB, -⟩
 ·rw [he] at e;cases e
 ·rw [he] at e;cases e;omega
theorem xq.zcg (h:xq v0 w B gr pc r0 r1 r2 r3 buf bv m dom mem mb mc bad) (v:Nat) (x:Int):xq v0 (w.setCell ⟨mb,v,none⟩ (.int .i64 x)) B gr pc r0 r1 r2 r3 buf bv m dom (mem.set v x) mb mc bad:=by
 have hs:=Since.setCell (F:=fun k=>k=mb) (p:=⟨mb,v,none⟩) (Since.refl _ w) (.inl rfl) (.int .i64 x)
 have hr:=wG (j:=v) h.row (.int .i64 x)
 refine⟨?_, ?_,bD h.qF hs (fun e b o n c hb=>(h.apart e b o n c hb).2),h.base,h.ne,h.apart,h.kept⟩
 ·rw [List.length_set];exact(hs.block gr (zw h.block) h.ne).trans h.block
 ·rw [List.length_set,zjX];exact hr
end
theorem bq {w:World} {B gr mb mc:Nat} {pc r0 r1 r2 r3 dom:Int} {buf:List zm} {bv:Value} {m:zK} {mem:List Int} {bad:Bool} (h:xq v0 w B gr pc r0 r1 r2 r3 buf bv m dom mem mb mc bad) (hd1:1<=dom) (hd2:dom<=1000) (d:Nat) (x:zJ) (kv:Value) (hx:zC d w x kv):
  Calls Tryz.prog 167 #[.pointer (some ⟨gr,0,none⟩),xP x kv] w fun e w'=>e= .returned (.int .i64 (yw [r0,r1,r2,r3] dom d x))/\Below w.heap.size w w':=by
 have hev:=fun W (hW:Below w.heap.size w W)=>zqi r0 r1 r2 r3 dom hd1 hd2 d W x kv (hx.below hW)
 obtain⟨ka,kc,rfl, -⟩:=hx.slice
 generalize yw [r0,r1,r2,r3] dom d x=r at hev ⊢
 unfold xP at hev ⊢
 generalize x.kind=k at hev ⊢
 generalize x.n=n at hev ⊢
 generalize x.op=o at hev ⊢
 generalize x.kids.length=l at hev ⊢
 have HEV:=qh hev
 have HR:=qh h
 clear hev hx h
 have HA:=qh ((Below.refl w.heap.size w).alloc (Nat.le_refl _) (.cells #[.int .i64 k, .int .i64 n, .int .u8 o, .slice ka l kc] 62))
 have HX:=qh (yD w (.cells #[.int .i64 k, .int .i64 n, .int .u8 o, .slice ka l kc] 62))
 go_enter Tryz.func167,Tryz.ntmps167
 go_upto_region 1 with fail
 generalize World.alloc w _=W at HA HX ⊢
 obtain⟨gi,hgi⟩:∃g,g=w.heap.size:=⟨_,rfl⟩
 rw [<-hgi] at HX ⊢
 clear hgi
 have HB:=qh ((HR.out.below HA.out).block)
 have CC:Hid (∀x,Below W.heap.size W x->x.cell? ⟨gi,0,none⟩=some (.int .i64 k)/\x.cell? ⟨gi,1,none⟩=some (.int .i64 n)/\x.cell? ⟨gi,2,none⟩=some (.int .u8 o)/\x.cell? ⟨gi,3,none⟩=some (.slice ka l kc)/\x.cell? ⟨gr,1,none⟩=some (.int .i64 r0)/\x.cell? ⟨gr,2,none⟩=some (.int .i64 r1)/\x.cell? ⟨gr,3,none⟩=some (.int .i64 r2)/\x.cell? ⟨gr,4,none⟩=some (.int .i64 r3)/\x.cell? ⟨gr,8,none⟩=some (.int .i64 dom)):=fun x hx=>
  ⟨zl hx _ _ (zi HX.out 0),zl hx _ _ (zi HX.out 1),zl hx _ _ (zi HX.out 2),zl hx _ _ (zi HX.out 3),zl hx _ _ (zi HB.out 1),zl hx _ _ (zi HB.out 2),zl hx _ _ (zi HB.out 3),zl hx _ _ (zi HB.out 4),zl hx _ _ (zi HB.out 8)⟩
 refine wp_region_noPanic ?_
 refine wp_region_held_drew (S:=fun x=>Below W.heap.size W x) (by kernel_rfl) ((Below.refl _ _).drew) (fun hH=> ?_)
 refine zo 0 5 ?vh1 rfl ?uH ?_
 case uH=>(intro x h;have e:=CC.out x h;go_simp<;>rfl)
 simp only [Act.put,za,ze,zh]
 refine zo 1 6 ?vh2 rfl ?uI ?_
 case uI=>(intro x h;have e:=CC.out x h;go_simp<;>rfl)
 simp only [Act.put,za,ze,zh]
 refine zo 2 7 ?vh3 rfl ?uJ ?_
 case uJ=>(intro x h;have e:=CC.out x h;go_simp<;>rfl)
 simp only [Act.put,za,ze,zh]
 refine zo 3 8 ?vh4 rfl ?uK ?_
 case uK=>(intro x h;have e:=CC.out x h;go_simp<;>rfl)
 simp only [Act.put,za,ze,zh]
 refine zo 4 9 ?vh5 rfl ?uL ?_
 case uL=>(intro x h;have e:=CC.out x h;go_simp<;>rfl)
 simp only [Act.put,za,ze,zh]
 refine zo 5 10 ?vh6 rfl ?uM ?_
 case uM=>(intro x h;have e:=CC.out x h;go_simp<;>rfl)
 simp only [Act.put,za,ze,zh]
 refine zo 6 11 ?vh7 rfl ?uN ?_
 case uN=>(intro x h;have e:=CC.out x h;go_simp<;>rfl)
 simp only [Act.put,za,ze,zh]
 refine zo 7 12 ?vh8 rfl ?uO ?_
 case uO=>(intro x h;have e:=CC.out x h;go_simp<;>rfl)
 simp only [Act.put,za,ze,zh]
 refine zo 8 13 ?vh9 rfl ?zaa ?_
 case zaa=>(intro x h;have e:=CC.out x h;go_simp<;>rfl)
 simp only [Act.put,za,ze,zh]
 refine zo 9 14 ?zrE rfl ?zcD ?_
 case zcD=>(intro x h;have e:=CC.out x h;go_simp<;>rfl)
 simp only [Act.put,za,ze,zh]
 refine zY 10 rfl (fun K hK=> ?_)
 go_simp
 refine(HEV.out W.drew (zF HA.out hH)).mono ?_
 rintro e z0V ⟨rfl,hb⟩
 have zuR:Below W.heap.size W z0V:=zF hH hb
 refine hK.out _ _ zuR (fun _=> ?_)
 clear hK K hb hH
 refine zo 11 4 ?z0q rfl ?zg5 ?_
 case zg5=>(intro x h;have e:=CC.out x h;go_simp<;>rfl)
 simp only [Act.put,za,ze,zh]
 refine wpAnyH_done (by kernel_rfl) ?_ _
 refine NoPanic.normal ?_
 have HB2:Hid (Below w.heap.size w z0V):=zF HA.out (zuR)
 go_wp2_with fail
 go_ret
 exact⟨by first|rfl|(simp;done)|(simp;omega),HB2.out⟩
theorem gU {w:World} {B gr mb mc:Nat} {pc r0 r1 r2 r3 dom:Int} {buf:List zm} {bv:Value} {m:zK} {mem:List Int} {bad:Bool} (h:xq v0 w B gr pc r0 r1 r2 r3 buf bv m dom mem mb mc bad):
  Calls Tryz.prog 168 #[.pointer (some ⟨gr,0,none⟩)] w fun e w'=>e= .returned (.bool (decide (buf.length=0)))/\w'=w:=by
 obtain⟨ba,bc,hbv, -⟩:=zk.slice h.qF
 have hb:=h.block
 rw [hbv] at hb
 have c5:w.cell? ⟨gr,5,none⟩=some (.slice ba buf.length bc):=zi hb 5
 clear hb h
 go_enter Tryz.func168,Tryz.ntmps168
 go_wp2_with fail
 go_ret
 refine⟨congrArg (fun q=>Ending.returned (.bool q)) ?_,rfl⟩
 first|rfl|(rw [Bool.eq_iff_iff];simp)
end Go.Proofs.YtliajkheeniljaaGreatDoor
