/- Steps. -/
import Derived.Test.YtknmdmimecepfaaGreatDoorVgAxB
set_option linter.all false
namespace Go.Proofs.YtknmdmimecepfaaGreatDoor
open Go.RowKit
set_option maxRecDepth 100000
set_option maxHeartbeats 16000000
theorem ziD {α:Type} [Inhabited α] (R:World->α->List Value->Prop) (hR:vP R) (w:World) (sv:Value) (l:List α) (hl:zh R 6 w sv l) (fn:FuncId) (first captured:Array Value) (P:Nat->Bool) (hfn:∀args W,(callFunc fn args).run Tryz.prog W= .ok (.enter fn args) W)
  (hcall:∀j,j<l.length->∀(W:World) (cs:List Value),cs.length=6->R W (l.getD j default) cs->Below w.heap.size w W->Calls Tryz.prog fn (first.push (.agg cs.toArray)++captured) W λe W'=>e= .returned (.bool (P j))/\Below W.heap.size W W'):
  Calls Tryz.prog 85 #[sv, .func (.func fn) first captured] w λe w'=>(∃i:Nat,i<l.length/\e= .returned (.int .i64 i)/\(P i=true/\∀j,j<i->P j=false)/\Below w.heap.size w w')\/(e= .returned (.int .i64 (-1))/\(∀j,j<l.length->P j=false)/\Below w.heap.size w w'):=by
 obtain⟨a,cap,rfl,hn⟩:=hl.slice
 have HL:=qh hl
 have HC:=qh hcall
 clear hl hcall
 obtain⟨n,hnd⟩:∃n,n=l.length:=⟨_,rfl⟩
 rw [<-hnd] at hn HL ⊢
 have HN:=qh hnd
 clear hnd
 go_enter Tryz.func85,Tryz.ntmps85
 go_wp2_with fail
 go_loopg [8] n (λg s8 wr=>∃i:Nat,i<=n/\Hid (g=n - i)/\s8= .int .i64 i/\Hid (∀j,j<i->P j=false)/\Hid (Below w.heap.size w wr))
 case atStart=>exact⟨0,Nat.zero_le _,rfl,rfl,λj hj=>by omega,Below.refl _ _⟩
 case round=>
 obtain⟨i,hi,HG,rfl,HJ,HB⟩:=hrel
 by_cases hlt:i<n
 rotate_left
 ·obtain rfl:n=i:=by omega
  go_wp2_with fail
  go_ret
  exact .inr ⟨rfl,HJ.out,HB.out⟩
 have qQ:(i:Int)<(n:Int):=by omega
 have hln:n=l.length:=HN.out
 obtain⟨b,off,cs,rfl,hb,hcl,hc,hr⟩:=zh.part (zh.below hR HL.out HB.out) i (by omega)
 have hca:=HC.out i (by omega) wr cs hcl hr HB.out
 clear hln hr
 obtain⟨x0,x1,x2,x3,x4,x5,rfl⟩:∃x0 x1 x2 x3 x4 x5,cs= [x0,x1,x2,x3,x4,x5] :=by
  match cs,hcl with
  | [x0,x1,x2,x3,x4,x5],_=>exact⟨x0,x1,x2,x3,x4,x5,rfl⟩
 have hx0:wr.cell? ⟨b,off+i*6,none⟩=some x0:=by have:=hc 0 (by omega);simpa using this
 have hx1:wr.cell? ⟨b,off+i*6+1,none⟩=some x1:=by have:=hc 1 (by omega);simpa using this
 have hx2:wr.cell? ⟨b,off+i*6+2,none⟩=some x2:=by have:=hc 2 (by omega);simpa using this
 have hx3:wr.cell? ⟨b,off+i*6+3,none⟩=some x3:=by have:=hc 3 (by omega);simpa using this
 have hx4:wr.cell? ⟨b,off+i*6+4,none⟩=some x4:=by have:=hc 4 (by omega);simpa using this
 have hx5:wr.cell? ⟨b,off+i*6+5,none⟩=some x5:=by have:=hc 5 (by omega);simpa using this
 clear hc hcl
 have HCA:=qh hca
 clear hca
 go_wp2_with fail
 refine HCA.out.mono ?_
 rintro e w2 ⟨rfl,hb2⟩
 have HB2:Hid (Below w.heap.size w w2):=HB.out.trans (hb2.mono HB.out.size)
 obtain⟨r,hr⟩:∃r,r=P i:=⟨_,rfl⟩
 rw [<-hr]
 have HR:=qh hr
 clear hb2 hr HCA hx0 hx1 hx2 hx3 hx4 hx5
 cases r
 ·go_wp2_with fail
  go_roundg (n - (i+1))
  case measure=>rw [HG.out];omega
  case rel=>exact⟨i+1,by omega,rfl,by simp,λj hj=>by
   by_cases he:j=i
   ·subst he;exact HR.out.symm
   exact HJ.out j (by omega),HB2.out⟩
 go_wp2_with fail
 go_ret
 exact .inl ⟨i,hlt,rfl,⟨HR.out.symm,HJ.out⟩,HB2.out⟩
theorem zbf {α:Type} [Inhabited α] (R:World->α->List Value->Prop) (hR:vP R) (w:World) (sv:Value) (l:List α) (hl:zh R 6 w sv l) (fn:FuncId) (first captured:Array Value) (P:Nat->Bool) (hfn:∀args W,(callFunc fn args).run Tryz.prog W= .ok (.enter fn args) W)
  (hcall:∀j,j<l.length->∀(W:World) (cs:List Value),cs.length=6->R W (l.getD j default) cs->Below w.heap.size w W->Calls Tryz.prog fn (first.push (.agg cs.toArray)++captured) W λe W'=>e= .returned (.bool (P j))/\Below W.heap.size W W'):
  Calls Tryz.prog 64 #[sv, .func (.func fn) first captured] w λe w'=>e= .returned (.bool ((List.range l.length).any P))/\Below w.heap.size w w':=by
 have hc:=ziD R hR w sv l hl fn first captured P hfn hcall
 have HC:=qh hc
 clear hc hcall hl hfn
 go_enter Tryz.func64,Tryz.ntmps64
 go_wp2_with fail
 refine HC.out.mono ?_
 rintro e w2 (⟨i,hi,rfl,hp,hb⟩|⟨rfl,hp,hb⟩)
 ·have HB:=qh hb
  have HP:=qh hp
  clear hb HC hp
  go_wp2_with fail
  go_ret
  exact⟨(by rw [zao i hi HP.out.1];first|rfl|simp),HB.out⟩
 have HB:=qh hb
 have HP:=qh hp
 clear hb HC hp
 go_wp2_with fail
 go_ret
 exact⟨(by rw [any_none HP.out];first|rfl|simp),HB.out⟩
def EvR (_:World) (e:yg) (cs:List Value):Prop:=cs=e.cells
theorem EvR.stays:vP EvR:=λ_ _ _ _ h _=>h
theorem take_at {α:Type} [Inhabited α] {l:List α} {k j:Nat} (hj:j<k):(l.take k).getD j default=l.getD j default:=by
 rw [List.getD_eq_getElem?_getD,List.getElem?_take_of_lt hj, <-List.getD_eq_getElem?_getD]
theorem zC.zjq {w:World} {g:Nat} {W:ze} (h:zC w g W) {i k:Nat} (hi:i<4) (hk:k<=8):zh EvR 6 w (.slice (some ⟨g,i*54+5,none⟩) k 8) ((W.th i).evs.take k):=by
 have hl:((W.th i).evs.take k).length=k:=by rw [List.length_take,(ze.xB h.ok hi).evs];omega
 refine⟨some ⟨g,i*54+5,none⟩,8,by rw [hl],by rw [hl];omega,λj hj=> ?_⟩
 rw [hl] at hj
 refine⟨g,i*54+5,((W.th i).evs.getD j default).cells,rfl,zB h.blk,rfl,λk' hk'=> ?_,by rw [take_at hj];rfl⟩
 have hlen:k'<((W.th i).evs.getD j default).cells.length:=hk'
 rw [h.ev hi (j:=j) (k:=k') (by omega) hk' (List.getElem?_eq_getElem hlen),List.getElem?_eq_getElem hlen]
def zc4 (model:Int) (t:zR) (k:Nat) (e:yg):Bool:= !((List.range k).any λj=> !(t.evs.getD j default).come && zcW model (t.evs.getD j default) e)
def vV (W:ze) (t:zR) (v:Nat):Nat->Int
 |0=>W.mem.getD v 0
 |j+1=>if (t.evs.getD j default).writes=true/\(t.evs.getD j default).v=(v:Int)/\(t.evs.getD j default).come=false then(t.evs.getD j default).n else vV W t v j
theorem zk2 (w:World) (mb:Nat) (model:Int) (hm:w.cell? ⟨mb,3,none⟩=some (.int .i64 model)) (b4 b7:Nat) (h4:w.cell? ⟨b4,0,none⟩=some (.pointer (some ⟨mb,0,none⟩))) (e:yg) (h7:w.heap[b7]? =some (.cells e.cells.toArray 61 (0,0))) (a:yg):
  Calls Tryz.prog 86 #[.agg a.cells.toArray, .pointer (some ⟨b4,0,none⟩), .pointer (some ⟨b7,0,none⟩)] w λr w'=>r= .returned (.bool (!a.come && zcW model a e))/\Below w.heap.size w w':=by
 have hk:=λ(X:World) (hX:Below w.heap.size w X)=>zmu X mb model (zi hX _ _ hm) a e
 obtain⟨r,hr⟩:∃r,r=zcW model a e:=⟨_,rfl⟩
 rw [<-hr] at hk ⊢
 clear hr
 obtain⟨av,an,ar,aw,af,ac⟩:=a
 obtain⟨ev,en,er,ew,ef,ec⟩:=e
 unfold yg.val at hk
 unfold yg.cells at h7 ⊢
 simp only [] at h7 hk ⊢
 have HK:=qh hk
 have HB:=qh (zK w (.cells #[.int .i64 av, .int .i64 an, .bool ar, .bool aw, .bool af, .bool ac] 61))
 have H1:=qh (zT w (.cells #[.int .i64 av, .int .i64 an, .bool ar, .bool aw, .bool af, .bool ac] 61))
 have h7':=(HB.out.block _ (zB h7)).trans h7
 have p0:=zi HB.out _ _ h4
 clear hk hm h4 h7
 go_enter Tryz.func86,Tryz.ntmps86
 go_upto_region 1 with fail
 generalize World.alloc w _=X at HB H1 h7' p0 ⊢
 generalize w.heap.size=g at H1 ⊢
 have a0:=za H1.out 0
 have a1:=za H1.out 1
 have a2:=za H1.out 2
 have a3:=za H1.out 3
 have a4:=za H1.out 4
 have a5:=za H1.out 5
 have e0:=za h7' 0
 have e1:=za h7' 1
 have e2:=za h7' 2
 have e3:=za h7' 3
 have e4:=za h7' 4
 have e5:=za h7' 5
 clear h7' H1
 cases ac with
 |true=>
  go_wp2_with fail
  go_ret
  exact⟨by first|rfl|simp,HB.out⟩
 |false=>
 go_wp2_with(go_at_call 87;go_must(refine(HK.out X HB.out).mono ?_);rintro e Y ⟨rfl,hb⟩;(have HY:=qh (zm HB.out hb));clear hb)
 go_ret
 exact⟨by first|rfl|simp,HY.out⟩
theorem zgd (w:World) (mb:Nat) (model:Int) (hm:w.cell? ⟨mb,3,none⟩=some (.int .i64 model)) (g:Nat) (W:ze) (hW:zC w g W) (i:Nat) (hi:i<4) (k:Nat) (hk:k<=8) (e:yg):
  Calls Tryz.prog 68 #[.pointer (some ⟨mb,0,none⟩), .pointer (some ⟨g,i*54,none⟩), .int .i64 k,e.val] w λr w'=>r= .returned (.bool (zc4 model (W.th i) k e))/\Below w.heap.size w w':=by
 obtain⟨r,hr⟩:∃r,r=zc4 model (W.th i) k e:=⟨_,rfl⟩
 obtain⟨q,hq⟩:∃q,q=(List.range ((W.th i).evs.take k).length).any λj=> !((W.th i).evs.getD j default).come && zcW model ((W.th i).evs.getD j default) e:=⟨_,rfl⟩
 have hlk:((W.th i).evs.take k).length=k:=by rw [List.length_take,(ze.xB hW.ok hi).evs];omega
 have hrq:r= !q:=by rw [hr,hq,hlk];rfl
 rw [<-hr]
 have HRQ:=qh hrq
 have hcells:e.cells.toArray= #[.int .i64 e.v, .int .i64 e.n, .bool e.reads, .bool e.writes, .bool e.fence, .bool e.come] :=rfl
 have hB:=qJ w (.cells #[.pointer (some ⟨mb,0,none⟩)] 55) (.cells e.cells.toArray 61)
 have h1:=qm w (.cells #[.pointer (some ⟨mb,0,none⟩)] 55) (.cells e.cells.toArray 61)
 have h2:=xA w (.cells #[.pointer (some ⟨mb,0,none⟩)] 55) (.cells e.cells.toArray 61)
 have hcall:Calls Tryz.prog 64 #[.slice (some ⟨g,i*54+5,none⟩) k 8, .func (.func 86) #[] #[.pointer (some ⟨w.heap.size,0,none⟩), .pointer (some ⟨w.heap.size+1,0,none⟩)]] ((w.alloc (.cells #[.pointer (some ⟨mb,0,none⟩)] 55)).alloc (.cells e.cells.toArray 61)) λe' w'=>e'= .returned (.bool q)/\Below ((w.alloc (.cells #[.pointer (some ⟨mb,0,none⟩)] 55)).alloc (.cells e.cells.toArray 61)).heap.size ((w.alloc (.cells #[.pointer (some ⟨mb,0,none⟩)] 55)).alloc (.cells e.cells.toArray 61)) w':=by
  rw [hq]
  refine zbf EvR EvR.stays _ _ _ ((hW.later hB).zjq hi hk) 86 #[] _ _ (λ_ _=>rfl) (λj hj Y cs hcl hcs hY=> ?_)
  rw [hlk] at hj
  rw [take_at hj] at hcs
  have hcs:cs=((W.th i).evs.getD j default).cells:=hcs
  subst hcs
  exact zk2 Y mb model (zi (zm hB hY) _ _ hm) w.heap.size (w.heap.size+1) (zi hY _ _ (za h1 0)) e ((hY.block _ (zB h2)).trans h2) _
 rw [hcells] at hcall hB
 have HB:=qh hB
 have zb7:=qh hcall
 clear hr hq hlk hrq hB h1 h2 hcall hcells hm hW
 have hkI:(k:Int)<=8:=by omega
 have hk0:(0:Int)<=(k:Int):=by omega
 unfold yg.val
 go_enter Tryz.func68,Tryz.ntmps68
 go_upto_region 1 with fail
 generalize World.alloc (World.alloc w _) _=X at HB zb7 ⊢
 generalize w.heap.size=gb at zb7 ⊢
 go_wp2_with(go_at_call 64;go_must(refine zb7.out.mono ?_);rintro e' Y ⟨rfl,hb⟩;(have HY:=qh (HB.out.trans (hb.mono HB.out.size)));clear hb)
 go_ret
 exact⟨by rw [HRQ.out];first|rfl|simp,HY.out⟩
theorem zi9 (w:World) (a:yg):Calls Tryz.prog 65 #[.agg a.cells.toArray] w λr w'=>r= .returned (.bool (!a.come))/\Below w.heap.size w w':=by
 obtain⟨av,an,ar,aw,af,ac⟩:=a
 unfold yg.cells
 simp only []
 have HB:=qh (zK w (.cells #[.int .i64 av, .int .i64 an, .bool ar, .bool aw, .bool af, .bool ac] 61))
 go_enter Tryz.func65,Tryz.ntmps65
 go_wp2_with fail
 go_ret
 exact⟨by first|rfl|simp,HB.out⟩
