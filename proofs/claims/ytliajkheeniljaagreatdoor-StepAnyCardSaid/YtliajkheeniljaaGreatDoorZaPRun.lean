/- A thread's move in a state of its own: the program's runner: what it holds, what an expression is, whether nothing waits. -/
import Derived.Deep.RegionWith
import Derived.Test.YtliajkheeniljaaGreatDoorZaPFits
import Derived.Test.YtliajkheeniljaaGreatDoorZaPOp
import Derived.Test.YtliajkheeniljaaGreatDoorZaShort
set_option linter.all false
namespace Go.Proofs.YtliajkheeniljaaGreatDoor
open Go.RowKit
set_option maxRecDepth 100000
set_option maxHeartbeats 16000000
variable {v0:Value}
structure yL (v0:Value) (w:World) (B gr:Nat) (pc r0 r1 r2 r3:Int) (buf:List zn) (bv:Value) (m:zM) (dom:Int) (mem:List Int) (mb mc:Nat) (bad:Bool):Prop where
 block:w.heap[gr]? =some (.cells #[.int .i64 pc, .int .i64 r0, .int .i64 r1, .int .i64 r2, .int .i64 r3,bv, .int .i64 m.model, .int .i64 m.bound, .int .i64 dom, .slice (some ⟨mb,0,none⟩) mem.length mc, .bool bad] 138 (0,0))
 row:w.ownsRow B 3 1 (.slice (some ⟨mb,0,none⟩) mem.length mc) mem.length (zq yE mem)
 xW:zH w bv buf
 base:B<=gr
 ne:gr≠mb
 apart:buf≠ [] ->∀b o n c,bv= .slice (some ⟨b,o,none⟩) n c->b≠gr/\b≠mb
 kept:bv=v0\/∀b o n c,bv= .slice (some ⟨b,o,none⟩) n c->B<=b
section
variable {w w':World} {B gr mb mc:Nat} {pc r0 r1 r2 r3 dom:Int} {buf:List zn} {bv:Value} {m:zM} {mem:List Int} {bad:Bool}
theorem yL.below (h:yL v0 w B gr pc r0 r1 r2 r3 buf bv m dom mem mb mc bad) (hb:Below w.heap.size w w'):yL v0 w' B gr pc r0 r1 r2 r3 buf bv m dom mem mb mc bad:=
 ⟨(hb.block gr (zJ h.block)).trans h.block,xJ h.row hb,zH.below h.xW hb,h.base,h.ne,h.apart,h.kept⟩
theorem yL.jg (h:yL v0 w B gr pc r0 r1 r2 r3 buf bv m dom mem mb mc bad):B<=mb/\mb<w.heap.size:=h.row.lt mb rfl
theorem yL.jQ (h:yL v0 w B gr pc r0 r1 r2 r3 buf bv m dom mem mb mc bad) {v:Nat} (hv:v<mem.length):w.cell? ⟨mb,v,none⟩=some (.int .i64 (mem.getD v 0))/\w.frozen? ⟨mb,v,none⟩=false:=by
 have hx:(zq yE mem)[v]? =some (.int .i64 (mem.getD v 0)):=by
  have:=pV (f:=yE) wO hv (show 0<1 by decide)
  simpa [yE] using this
 obtain⟨g,cap,he, -,h1,h2⟩:=qj h.row hx
 cases he
 exact⟨h1,h2⟩
theorem zfl {F:Nat->Prop} {sv:Value} {l:List zn} (h:zH w sv l) (hs:Since F w w') (hF:∀b o n c,sv= .slice (some ⟨b,o,none⟩) n c->¬F b):zH w' sv l:=by
 obtain⟨a,cap,h1,h2,h4⟩:=h
 refine⟨a,cap,h1,h2,fun j hj=> ?_⟩
 obtain⟨b,off,cs,h5,h6,h7,h8,h9⟩:=h4 j hj
 subst h5
 exact⟨b,off,cs,rfl,Nat.lt_of_lt_of_le h6 hs.size,h7,fun i hi=>(hs.cell (p:=⟨b,off+j*2+i,none⟩) h6 (hF b off _ _ h1)).trans (h8 i hi),h9⟩
theorem wV {F:Nat->Prop} {sv:Value} {l:List zn} (h:zH w sv l) (hs:Since F w w') (hF:l≠ [] ->∀b o n c,sv= .slice (some ⟨b,o,none⟩) n c->¬F b):zH w' sv l:=by
 by_cases e:l= []
 ·subst e
  obtain⟨a,cap,h1,h2, -⟩:=h
  exact⟨a,cap,h1,h2,fun j hj=>by simp at hj⟩
 ·exact zfl h hs (hF e)
theorem yL.zim (h:yL v0 w B gr pc r0 r1 r2 r3 buf bv m dom mem mb mc bad) (x:Int):yL v0 (w.setCell ⟨gr,0,none⟩ (.int .i64 x)) B gr x r0 r1 r2 r3 buf bv m dom mem mb mc bad:=by
 have hs:=Since.setCell (F:=fun k=>k=gr) (p:=⟨gr,0,none⟩) (Since.refl _ w) (.inl rfl) (.int .i64 x)
 exact⟨zx h.block 0 _,hs.row h.row (fun k hk e=>h.ne (by cases hk;exact e.symm)),wV h.xW hs (fun e b o n c hb=>(h.apart e b o n c hb).1),h.base,h.ne,h.apart,h.kept⟩
theorem yL.zfB (h:yL v0 w B gr pc r0 r1 r2 r3 buf bv m dom mem mb mc bad) (x:Bool):yL v0 (w.setCell ⟨gr,10,none⟩ (.bool x)) B gr pc r0 r1 r2 r3 buf bv m dom mem mb mc x:=by
 have hs:=Since.setCell (F:=fun k=>k=gr) (p:=⟨gr,10,none⟩) (Since.refl _ w) (.inl rfl) (.bool x)
 exact⟨zx h.block 10 _,hs.row h.row (fun k hk e=>h.ne (by cases hk;exact e.symm)),wV h.xW hs (fun e b o n c hb=>(h.apart e b o n c hb).1),h.base,h.ne,h.apart,h.kept⟩
theorem yL.zck (h:yL v0 w B gr pc r0 r1 r2 r3 buf bv m dom mem mb mc bad) (k:Nat) (hk:k<4) (x:Int):yL v0 (w.setCell ⟨gr,1+k,none⟩ (.int .i64 x)) B gr pc (([r0,r1,r2,r3].set k x).getD 0 0) (([r0,r1,r2,r3].set k x).getD 1 0) (([r0,r1,r2,r3].set k x).getD 2 0) (([r0,r1,r2,r3].set k x).getD 3 0) buf bv m dom mem mb mc bad:=by
 have hs:=Since.setCell (F:=fun k=>k=gr) (p:=⟨gr,1+k,none⟩) (Since.refl _ w) (.inl rfl) (.int .i64 x)
 refine⟨?_,hs.row h.row (fun k hk e=>h.ne (by cases hk;exact e.symm)),wV h.xW hs (fun e b o n c hb=>(h.apart e b o n c hb).1),h.base,h.ne,h.apart,h.kept⟩
 have e:=zx h.block (1+k) (.int .i64 x)
 have:k=0\/k=1\/k=2\/k=3:=by omega
 rcases this with rfl|rfl|rfl|rfl<;>exact e
theorem yL.zlP (h:yL v0 w B gr pc r0 r1 r2 r3 buf bv m dom mem mb mc bad) {V:World} (hV:gr<V.heap.size/\mb<V.heap.size) {jO:Value} {buf':List zn} (hb:w.ownsRow V.heap.size 50 2 jO buf'.length (zq zn.cells buf')):yL v0 (w.setCell ⟨gr,5,none⟩ jO) B gr pc r0 r1 r2 r3 buf' jO m dom mem mb mc bad:=by
 have hs:=Since.setCell (F:=fun k=>k=gr) (p:=⟨gr,5,none⟩) (Since.refl _ w) (.inl rfl) jO
 have ha:∀b o n c,jO= .slice (some ⟨b,o,none⟩) n c->b≠gr/\b≠mb:=fun b o n c e=>by
  rcases hb.2 with⟨he, -⟩|⟨g,cap,cur,he,hB, -⟩
  ·rw [he] at e;cases e
  ·rw [he] at e;cases e;exact⟨by omega,by omega⟩
 refine⟨zx h.block 5 _,hs.row h.row (fun k hk e=>h.ne (by cases hk;exact e.symm)),zfl (vL hb) hs (fun b o n c e=>(ha b o n c e).1),h.base,h.ne,fun _=>ha, .inr fun b o n c e=> ?_⟩
 have hbg:=h.base
 rcases hb.2 with⟨he, -⟩|⟨g,cap,cur,he,hB, -⟩
 ·rw [he] at e;cases e
 ·rw [he] at e;cases e;omega
theorem yL.za8 (h:yL v0 w B gr pc r0 r1 r2 r3 buf bv m dom mem mb mc bad) (v:Nat) (x:Int):yL v0 (w.setCell ⟨mb,v,none⟩ (.int .i64 x)) B gr pc r0 r1 r2 r3 buf bv m dom (mem.set v x) mb mc bad:=by
 have hs:=Since.setCell (F:=fun k=>k=mb) (p:=⟨mb,v,none⟩) (Since.refl _ w) (.inl rfl) (.int .i64 x)
 have hr:=kW (j:=v) h.row (.int .i64 x)
 refine⟨?_, ?_,wV h.xW hs (fun e b o n c hb=>(h.apart e b o n c hb).2),h.base,h.ne,h.apart,h.kept⟩
 ·rw [List.length_set];exact(hs.block gr (zJ h.block) h.ne).trans h.block
 ·rw [List.length_set,zgD];exact hr
end
theorem wP {w:World} {B gr mb mc:Nat} {pc r0 r1 r2 r3 dom:Int} {buf:List zn} {bv:Value} {m:zM} {mem:List Int} {bad:Bool} (h:yL v0 w B gr pc r0 r1 r2 r3 buf bv m dom mem mb mc bad) (hd1:1<=dom) (hd2:dom<=1000) (d:Nat) (x:zR) (kv:Value) (hx:zF d w x kv):
  Calls Tryz.prog 167 #[.pointer (some ⟨gr,0,none⟩),yV x kv] w fun e w'=>e= .returned (.int .i64 (zZ [r0,r1,r2,r3] dom d x))/\Below w.heap.size w w':=by
 have hev:=fun W (hW:Below w.heap.size w W)=>zlw r0 r1 r2 r3 dom hd1 hd2 d W x kv (hx.below hW)
 obtain⟨ka,kc,rfl, -⟩:=hx.slice
 generalize zZ [r0,r1,r2,r3] dom d x=r at hev ⊢
 unfold yV at hev ⊢
 generalize x.kind=k at hev ⊢
 generalize x.n=n at hev ⊢
 generalize x.op=o at hev ⊢
 generalize x.kids.length=l at hev ⊢
 have HEV:=qh hev
 have HR:=qh h
 clear hev hx h
 have HA:=qh ((Below.refl w.heap.size w).alloc (Nat.le_refl _) (.cells #[.int .i64 k, .int .i64 n, .int .u8 o, .slice ka l kc] 62))
 have HX:=qh (yK w (.cells #[.int .i64 k, .int .i64 n, .int .u8 o, .slice ka l kc] 62))
 go_enter Tryz.func167,Tryz.ntmps167
 go_upto_region 1 with fail
 generalize World.alloc w _=W at HA HX ⊢
 obtain⟨gi,hgi⟩:∃g,g=w.heap.size:=⟨_,rfl⟩
 rw [<-hgi] at HX ⊢
 clear hgi
 have HB:=qh ((HR.out.below HA.out).block)
 have CC:Hid (∀x,Below W.heap.size W x->x.cell? ⟨gi,0,none⟩=some (.int .i64 k)/\x.cell? ⟨gi,1,none⟩=some (.int .i64 n)/\x.cell? ⟨gi,2,none⟩=some (.int .u8 o)/\x.cell? ⟨gi,3,none⟩=some (.slice ka l kc)/\x.cell? ⟨gr,1,none⟩=some (.int .i64 r0)/\x.cell? ⟨gr,2,none⟩=some (.int .i64 r1)/\x.cell? ⟨gr,3,none⟩=some (.int .i64 r2)/\x.cell? ⟨gr,4,none⟩=some (.int .i64 r3)/\x.cell? ⟨gr,8,none⟩=some (.int .i64 dom)):=fun x hx=>
  ⟨zm hx _ _ (zh HX.out 0),zm hx _ _ (zh HX.out 1),zm hx _ _ (zh HX.out 2),zm hx _ _ (zh HX.out 3),zm hx _ _ (zh HB.out 1),zm hx _ _ (zh HB.out 2),zm hx _ _ (zh HB.out 3),zm hx _ _ (zh HB.out 4),zm hx _ _ (zh HB.out 8)⟩
 refine wp_region_noPanic ?_
 refine wp_region_held_drew (S:=fun x=>Below W.heap.size W x) (by kernel_rfl) ((Below.refl _ _).drew) (fun hH=> ?_)
 refine zo 0 5 ?vh1 rfl ?kr ?_
 case kr=>(intro x h;have e:=CC.out x h;go_simp<;>rfl)
 simp only [Act.put,za,ze,zf]
 refine zo 1 6 ?vh2 rfl ?ku ?_
 case ku=>(intro x h;have e:=CC.out x h;go_simp<;>rfl)
 simp only [Act.put,za,ze,zf]
 refine zo 2 7 ?vh3 rfl ?kC ?_
 case kC=>(intro x h;have e:=CC.out x h;go_simp<;>rfl)
 simp only [Act.put,za,ze,zf]
 refine zo 3 8 ?vh4 rfl ?kD ?_
 case kD=>(intro x h;have e:=CC.out x h;go_simp<;>rfl)
 simp only [Act.put,za,ze,zf]
 refine zo 4 9 ?vh5 rfl ?kE ?_
 case kE=>(intro x h;have e:=CC.out x h;go_simp<;>rfl)
 simp only [Act.put,za,ze,zf]
 refine zo 5 10 ?vh6 rfl ?kF ?_
 case kF=>(intro x h;have e:=CC.out x h;go_simp<;>rfl)
 simp only [Act.put,za,ze,zf]
 refine zo 6 11 ?vh7 rfl ?kG ?_
 case kG=>(intro x h;have e:=CC.out x h;go_simp<;>rfl)
 simp only [Act.put,za,ze,zf]
 refine zo 7 12 ?vh8 rfl ?kH ?_
 case kH=>(intro x h;have e:=CC.out x h;go_simp<;>rfl)
 simp only [Act.put,za,ze,zf]
 refine zo 8 13 ?vh9 rfl ?wG ?_
 case wG=>(intro x h;have e:=CC.out x h;go_simp<;>rfl)
 simp only [Act.put,za,ze,zf]
 refine zo 9 14 ?zi3 rfl ?bL ?_
 case bL=>(intro x h;have e:=CC.out x h;go_simp<;>rfl)
 simp only [Act.put,za,ze,zf]
 refine zT 10 rfl (fun K hK=> ?_)
 go_simp
 refine(HEV.out W.drew (zB HA.out hH)).mono ?_
 rintro e zhf ⟨rfl,hb⟩
 have zbw:Below W.heap.size W zhf:=zB hH hb
 refine hK.out _ _ zbw (fun _=> ?_)
 clear hK K hb hH
 refine zo 11 4 ?zom rfl ?zbf ?_
 case zbf=>(intro x h;have e:=CC.out x h;go_simp<;>rfl)
 simp only [Act.put,za,ze,zf]
 refine wpAnyH_done (by kernel_rfl) ?_ _
 refine NoPanic.normal ?_
 have HB2:Hid (Below w.heap.size w zhf):=zB HA.out (zbw)
 go_wp2_with fail
 go_ret
 exact⟨by first|rfl|(simp;done)|(simp;omega),HB2.out⟩
theorem kU {w:World} {B gr mb mc:Nat} {pc r0 r1 r2 r3 dom:Int} {buf:List zn} {bv:Value} {m:zM} {mem:List Int} {bad:Bool} (h:yL v0 w B gr pc r0 r1 r2 r3 buf bv m dom mem mb mc bad):
  Calls Tryz.prog 168 #[.pointer (some ⟨gr,0,none⟩)] w fun e w'=>e= .returned (.bool (decide (buf.length=0)))/\w'=w:=by
 obtain⟨ba,bc,hbv, -⟩:=zl.slice h.xW
 have hb:=h.block
 rw [hbv] at hb
 have c5:w.cell? ⟨gr,5,none⟩=some (.slice ba buf.length bc):=zh hb 5
 clear hb h
 go_enter Tryz.func168,Tryz.ntmps168
 go_wp2_with fail
 go_ret
 refine⟨congrArg (fun q=>Ending.returned (.bool q)) ?_,rfl⟩
 first|rfl|(rw [Bool.eq_iff_iff];simp)
end Go.Proofs.YtliajkheeniljaaGreatDoor
