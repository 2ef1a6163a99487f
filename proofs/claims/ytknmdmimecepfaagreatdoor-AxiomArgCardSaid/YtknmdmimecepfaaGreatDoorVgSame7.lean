/- Steps. -/
import Derived.Deep.RegionLaw
import Derived.Sort.Grow
import Derived.Test.YtknmdmimecepfaaGreatDoorVgClone
set_option linter.all false
namespace Go.Proofs.YtknmdmimecepfaaGreatDoor
open Go.RowKit
set_option maxRecDepth 100000
set_option maxHeartbeats 16000000
theorem zgj:∃i,Tryz.prog.info? 3=some i/\i.size=1:=by
 have h:(Tryz.prog.info? 3).map (λi=>i.size)=some 1:=by kernel_rfl
 cases hq:Tryz.prog.info? 3 with
 |none=>rw [hq] at h;cases h
 |some i=>rw [hq] at h;exact⟨i,rfl,by simpa using h⟩
theorem zkH:Tryz.prog.cellsOf 3=1:=by kernel_rfl
theorem zfj:Tryz.prog.underlying 3=some (.int .i64):=by kernel_rfl
theorem zkI:Tryz.prog.underlying 59=some (.array 4 3):=by kernel_rfl
theorem ziM (d:Nat) (w:World) (a b:Int):(Op.equalIn (d+1) 3 (.int .i64 a) (.int .i64 b)).run Tryz.prog w= .ok (a==b) w:=by
 simp [Op.equalIn,run_underlying zfj]
theorem gT (w:World) (xs:Array Value) (j:Nat) (a:Int) (h:xs[j]? =some (.int .i64 a)):(part 3 xs j).run Tryz.prog w= .ok (.int .i64 a) w:=by
 obtain⟨i,hi,hs⟩:=zgj
 have hagg:(isAgg 3).run Tryz.prog w= .ok false w:=by
  unfold isAgg
  rw [Sem.run_bind,run_underlying zfj w]
  rfl
 simp [part,Sem.run_bind,hagg,h]
@[go_sem] theorem zto (w:World) (q0 q1 q2 q3 p0 p1 p2 p3:Int):(Op.equalIn 10000 59 (.agg #[.int .i64 q0, .int .i64 q1, .int .i64 q2, .int .i64 q3]) (.agg #[.int .i64 p0, .int .i64 p1, .int .i64 p2, .int .i64 p3])).run Tryz.prog w
  = .ok (decide (([q0,q1,q2,q3] :List Int)= [p0,p1,p2,p3])) w:=by
 obtain⟨i,hi,hs⟩:=zgj
 rw [run_equalIn_array w 9999 _ _ zkI hi,zkH]
 have e:List.range 4= [0,1,2,3] :=rfl
 rw [e]
 have g0:=λ(w:World) (a b c d:Int)=>gT w #[.int .i64 a, .int .i64 b, .int .i64 c, .int .i64 d] 0 a rfl
 have g1:=λ(w:World) (a b c d:Int)=>gT w #[.int .i64 a, .int .i64 b, .int .i64 c, .int .i64 d] 1 b rfl
 have g2:=λ(w:World) (a b c d:Int)=>gT w #[.int .i64 a, .int .i64 b, .int .i64 c, .int .i64 d] 2 c rfl
 have g3:=λ(w:World) (a b c d:Int)=>gT w #[.int .i64 a, .int .i64 b, .int .i64 c, .int .i64 d] 3 d rfl
 have ge:=ziM 9998
 by_cases h0:q0=p0
 ·by_cases h1:q1=p1
  ·by_cases h2:q2=p2
   ·by_cases h3:q3=p3
    ·simp [Op.eqItems,g0,g1,g2,g3,ge,h0,h1,h2,h3]
    simp [Op.eqItems,g0,g1,g2,g3,ge,h0,h1,h2,h3]
   simp [Op.eqItems,g0,g1,g2,g3,ge,h0,h1,h2]
  simp [Op.eqItems,g0,g1,g2,g3,ge,h0,h1]
 simp [Op.eqItems,g0,g1,g2,g3,ge,h0]
theorem zmY {f:yt} {i:Nat} (hi:i<f.regs.length):(f.regs.take (i+1)).flatten=(f.regs.take i).flatten++f.regs.getD i default:=by
 rw [List.take_succ_eq_append_getElem hi,List.flatten_append,List.getD_eq_getElem?_getD,List.getElem?_eq_getElem hi]
 simp
theorem zoF {l r:List Int} {i:Nat} (h1:i<l.length) (h2:i<r.length):yh (l.drop i) (r.drop i)=if l.getD i 0<r.getD i 0 then -1 else if r.getD i 0<l.getD i 0 then 1 else yh (l.drop (i+1)) (r.drop (i+1)):=by
 rw [List.drop_eq_getElem_cons h1,List.drop_eq_getElem_cons h2,List.getD_eq_getElem?_getD,List.getD_eq_getElem?_getD,List.getElem?_eq_getElem h1,List.getElem?_eq_getElem h2]
 rfl
def zcv (f:yt):Prop:=f.mem.length<=1000000/\f.regs.length<=1000000
end Go.Proofs.YtknmdmimecepfaaGreatDoor
namespace Go.Proofs.YtknmdmimecepfaaGreatDoor
open Go.RowKit
set_option maxRecDepth 100000
set_option maxHeartbeats 16000000
def zwq (w:World) (s:zmZ) (sv mv nv:Value):Prop:=zpa w sv s.states/\zh zsL 1 w mv s.moves/\zh ztB 1 w nv s.next
section
variable {W X X1:World} {g r:Nat} {sv mv nv xv:Value} {sl:List pI} {ml:List (List za2)} {nl:List (List Int)} {xl:List Int} {sc mc nc:List (List Value)}
theorem zn5 {B e size n g:Nat} {v:Value} {xs:List Value} {c:Array Value} {t:TypeId} {f:Nat × Nat} {o:Obj} (h:X.ownsRow B e size v n xs) (hb:X.heap[g]? =some (.cells c t f)) (hne:e≠t) (h4:Since (λk=>v.ownBlock=some k) (X.alloc o) X1):X1.heap[g]? =some (.cells c t f):=
 ((((Since.refl _ X).alloc o).trans h4 (λ_ hk=> .inl hk):Since (λk=>v.ownBlock=some k) X X1).block _ (zB hb) (λe=>vX h hb hne _ e rfl)).trans hb
end
end Go.Proofs.YtknmdmimecepfaaGreatDoor
namespace Go.Proofs.YtknmdmimecepfaaGreatDoor
open Go.RowKit
set_option maxRecDepth 100000
set_option maxHeartbeats 16000000
theorem zl8:(Tryz.prog.info? 59).map (λi=>(i.zero,i.size,i.bytes))=some (some (.agg #[.int .i64 0, .int .i64 0, .int .i64 0, .int .i64 0]),4,32):=by kernel_rfl
structure pJ (W X:World) (g:Nat) (mv rv:Value) (mem:List Int) (regs:List (List Int)):Prop where
 below:Below W.heap.size W X
 lo:W.heap.size<=g
 box:X.heap[g]? =some (.cells #[mv,rv] 51 (0,0))
 zhb:X.ownsRow W.heap.size 3 1 mv mem.length (zD yG mem)
 zce:X.ownsRow W.heap.size 59 4 rv regs.length (zD zcL regs)
section
variable {W X X1:World} {g:Nat} {mv rv rv':Value} {mem:List Int} {regs:List (List Int)}
theorem pJ.later (h:pJ W X g mv rv mem regs) (hb:Below X.heap.size X X1):pJ W X1 g mv rv mem regs:=⟨zm h.below hb,h.lo,(hb.block _ (zB h.box)).trans h.box,qP h.zhb hb,qP h.zce hb⟩
theorem pJ.push (h:pJ W X g mv rv mem regs) {o:Obj} {x:List Int} (h1:X1.ownsRow W.heap.size 59 4 rv' (regs.length+1) (zD zcL regs++zcL x)) (h4:Since (λk=>rv.ownBlock=some k) (X.alloc o) X1):
  pJ W (X1.setCell ⟨g,1,none⟩ rv') g mv rv' mem (regs++ [x]):=by
 have s1:Since (λk=>rv.ownBlock=some k) X X1:=((Since.refl _ X).alloc o).trans h4 (λk hk=> .inl hk)
 have b1:X1.heap[g]? =some (.cells #[mv,rv] 51 (0,0)):=(s1.block _ (zB h.box) (λe=>vX h.zce h.box (by decide) _ e rfl)).trans h.box
 have s2:Since (λk=>k=g) X1 (X1.setCell ⟨g,1,none⟩ rv'):=Since.setCell (F:=λk=>k=g) (p:=⟨g,1,none⟩) (Since.refl _ _) (.inl rfl) _
 have m1:=s1.row h.zhb (λk hk e=>zkJ h.zhb h.zce (by decide) k hk e)
 refine⟨h.below.trans ((s1.below h.below.size (λk hk=>(h.zce.lt k hk).1)).trans (s2.below (Nat.le_trans h.below.size s1.size) (λk e=>by rw [e];exact h.lo))),h.lo, ?_,s2.row m1 (λk hk e=>vX m1 b1 (by decide) k hk e), ?_⟩
 ·have:=zw b1 1 rv';simpa using this
 rw [List.length_append,zna]
 exact s2.row h1 (λk hk e=>vX h1 b1 (by decide) k hk e)
end
end Go.Proofs.YtknmdmimecepfaaGreatDoor
namespace Go.Proofs.YtknmdmimecepfaaGreatDoor
open Go.RowKit
set_option maxRecDepth 100000
set_option maxHeartbeats 16000000
theorem zke:(Tryz.prog.info? 51).map (λi=>(i.zero,i.size,i.bytes))=some (some (.agg #[.slice none 0 0, .slice none 0 0]),2,48):=by kernel_rfl
structure gJ {α:Type} [Inhabited α] (W X:World) (R:World->α->List Value->Prop) (size:Nat) (e:TypeId) (v:Value) (l:List α) (css:List (List Value)):Prop where
 below:Below W.heap.size W X
 len:css.length=l.length
 part:∀j,j<l.length->(css.getD j []).length=size/\R W (l.getD j default) (css.getD j [])
 row:X.ownsRow W.heap.size e size v l.length css.flatten
section
variable {α:Type} [Inhabited α] {W X X':World} {R:World->α->List Value->Prop} {size:Nat} {e:TypeId} {v v':Value} {l:List α} {css:List (List Value)}
theorem gJ.nil (W:World) (R:World->α->List Value->Prop) (size:Nat) (e:TypeId) {X:World} (h:Below W.heap.size W X):gJ W X R size e (.slice none 0 0) [] [] :=⟨h,rfl,λj hj=>by simp at hj,World.ownsRow_nil _ _ _ _⟩
theorem gJ.later (h:gJ W X R size e v l css) (hb:Below X.heap.size X X'):gJ W X' R size e v l css:=⟨zm h.below hb,h.len,h.part,qP h.row hb⟩
theorem gJ.push (h:gJ W X R size e v l css) {x:α} {cs:List Value} {o:Obj} (hx:R W x cs) (hc:cs.length=size) (h1:X'.ownsRow W.heap.size e size v' (l.length+1) (css.flatten++cs)) (h4:Since (λk=>v.ownBlock=some k) (X.alloc o) X'):gJ W X' R size e v' (l++ [x]) (css++ [cs]):=by
 have s1:Since (λk=>v.ownBlock=some k) X X':=((Since.refl _ X).alloc o).trans h4 (λk hk=> .inl hk)
 refine⟨h.below.trans (s1.below h.below.size (λk hk=>(h.row.lt k hk).1)),by simp [h.len],λj hj=> ?_, ?_⟩
 ·rw [List.length_append] at hj
  simp only [List.length_cons,List.length_nil] at hj
  by_cases e:j=l.length
  ·subst e
   rw [jW,show l.length=css.length from h.len.symm,jW]
   exact⟨hc,hx⟩
  have hj':j<l.length:=by omega
  rw [jX hj',jX (by rw [h.len];exact hj')]
  exact h.part j hj'
 rw [List.length_append,List.flatten_append]
 simpa using h1
theorem gJ.slice (h:gJ W X R size e v l css) (hR:vP R):zh R size X v l:=
 zh.pK h.row λj hj=>⟨css.getD j [],(h.part j hj).1,λi hi=>bO (λj hj=>(h.part j (by rw [<-h.len];exact hj)).1) (by rw [h.len];exact hj) hi,hR _ _ _ _ (h.part j hj).2 h.below⟩
end
theorem znC {l:List yt} {i:Nat} (hi:i<l.length):l.take (i+1)=l.take i++ [l.getD i default] :=by
 rw [List.take_succ_eq_append_getElem hi,List.getD_eq_getElem?_getD,List.getElem?_eq_getElem hi];rfl
def zlT (w:World) (l:List yt) (e:Ending) (w':World):Prop:=(∃xa xc,e= .returned (.slice xa l.length xc)/\qX w' (.slice xa l.length xc) l)/\Below w.heap.size w w'
theorem zlX {w w':World} {l:List yt} {xa:Option Addr} {xn xc:Nat} (hn:xn=l.length) (h:qX w' (.slice xa xn xc) l) (hb:Below w.heap.size w w'):zlT w l (.returned (.slice xa xn xc)) w':=by subst hn;exact⟨⟨xa,xc,rfl,h⟩,hb⟩
end Go.Proofs.YtknmdmimecepfaaGreatDoor
namespace Go.Proofs.YtknmdmimecepfaaGreatDoor
open Go.RowKit
set_option maxRecDepth 100000
set_option maxHeartbeats 16000000
theorem zhX (w:World) (f:yt) (mv rv:Value) (hf:jl w f mv rv) (zaA:zcv f):
  Calls Tryz.prog 72 #[bC mv rv] w λe w'=>(∃fa fc,e= .returned (.slice fa (zL f).length fc)/\w'.ownsRow w.heap.size 3 1 (.slice fa (zL f).length fc) (zL f).length (zD yG (zL f)))/\Below w.heap.size w w'/\w.drawn<=w'.drawn:=by
 obtain⟨hm,hrl⟩:=zaA
 obtain⟨ma,mc,rfl, -⟩:=zh.slice hf.mem
 obtain⟨ra,rc,rfl, -⟩:=zh.slice hf.regs
 obtain⟨F,hF⟩:∃F,F=zL f:=⟨_,rfl⟩
 have hF2:F=f.mem++f.regs.flatten:=hF
 rw [<-hF]
 clear hF
 obtain⟨fn,hfn⟩:∃n,n=F.length:=⟨_,rfl⟩
 rw [<-hfn]
 have HFN:=qh hfn
 clear hfn
 unfold bC
 obtain⟨mem,regs⟩:=f
 have h1:=hf.mem
 have h2:=hf.regs
 simp only [] at h1 h2 hm hrl hF2 ⊢
 obtain⟨m,hmm⟩:∃m,m=mem.length:=⟨_,rfl⟩
 obtain⟨n,hn⟩:∃n,n=regs.length:=⟨_,rfl⟩
 rw [<-hmm] at h1 hm ⊢
 rw [<-hn] at h2 hrl ⊢
 have hB:=(Below.refl w.heap.size w).alloc (Nat.le_refl _) (.cells #[.slice ma m mc, .slice ra n rc] 111)
 have H1:=qh (zT w (.cells #[.slice ma m mc, .slice ra n rc] 111))
 have HM:=qh (zh.below za5.stays h1 hB)
 have HR:=qh (zh.below zcD.stays h2 hB)
 have HB:=qh hB
 have HD0:Hid (w.drawn<=(w.alloc (.cells #[.slice ma m mc, .slice ra n rc] 111)).drawn):=Nat.le_refl _
 have HMM:=qh hmm
 have HN:=qh hn
 have HF:=qh hF2
 clear hf h1 h2 hB hmm hn hF2
 go_enter Tryz.func72,Tryz.ntmps72
 go_upto_region 1 with fail
 generalize World.alloc w _=W at HB HD0 H1 HM HR ⊢
 obtain⟨gx,hgx⟩:∃gx,gx=w.heap.size:=⟨_,rfl⟩
 rw [<-hgx] at H1 ⊢
 clear hgx
 have zZ:Hid (∀x,Below W.heap.size W x->Below w.heap.size w x):=λx hx=>HB.out.trans (hx.mono HB.out.size)
 have HC:Hid (∀x,Below W.heap.size W x->x.cell? ⟨gx,0,none⟩=some (.slice ma m mc)/\x.cell? ⟨gx,1,none⟩=some (.slice ra n rc)):=λx hx=>⟨zi hx _ _ (za H1.out 0),zi hx _ _ (za H1.out 1)⟩
 obtain⟨c0,c1⟩:=HC.out W (Below.refl _ _)
 go_upto_region 2 with(go_at_call 66;go_must(refine(zcf W (.slice ma m mc) mem HM.out (by rw [<-HMM.out];omega)).mono ?_);rintro e X ⟨⟨ja,jc,rfl,hrow⟩,hb1,hd1⟩;have HX:=qh hrow;have HXB:=qh hb1;have HXD:=qh (Nat.le_trans HD0.out hd1);clear hrow hb1 hd1)
 rw [<-HMM.out] at HX
 rw [<-HMM.out]
 clear c0 c1
 obtain⟨c0,c1⟩:=HC.out X HXB.out
 go_wp2_with fail
 clear c0 c1
 go_loopg [3,12] n (λgg s3 s12 wr=>∃(i:Nat) (oa:Option Addr) (on oc:Nat) (ol:List Int),i<=n/\Hid (gg=n - i)/\s3= .slice oa on oc/\s12= .int .i64 i/\Hid (on=m+4*i)/\Hid (ol=mem++(regs.take i).flatten)/\Hid (wr.ownsRow W.heap.size 3 1 (.slice oa on oc) on (zD yG ol))/\Hid (Below W.heap.size W wr)/\Hid (w.drawn<=wr.drawn))
 case atStart=>exact⟨0,ja,m,jc,mem,Nat.zero_le _,rfl,by first|rfl|simp,rfl,by simp [Hid],by simp [Hid],HX.out,HXB.out,HXD.out⟩
 case round=>
 obtain⟨i,oa,on,oc,ol,hi,HG,rfl,rfl,uf,HOL,HO,yu,HDR⟩:=hrel
 by_cases hlt:i<n
 rotate_left
 ·obtain rfl:n=i:=by omega
  have hol:F=ol:=by rw [HOL.out,HF.out,HN.out,List.take_length]
  have hln:fn=on:=by
   have:=HO.out.1
   rw [zav (f:=yG) zaU, <-hol, <-HFN.out] at this
   omega
  subst hln
  have kN:=qh (znb HO.out HB.out.size)
  rw [<-hol] at kN
  clear hol
  go_wp2_with fail
  go_ret
  exact⟨⟨oa,oc,by first|rfl|simp,kN.out⟩,zZ.out _ yu.out,HDR.out⟩
 have qQ:(i:Int)<(n:Int):=by omega
 obtain⟨b,off,gB, -,hr4,x0,x1,x2,x3⟩:=zfk.part HR.out i (by rw [<-HN.out];exact hlt)
 subst gB
 have hft:=zmY (f:=⟨mem,regs⟩) (i:=i) (by show i<regs.length;rw [<-HN.out];exact hlt)
 simp only [] at hft
 generalize regs.getD i default=rg at x0 x1 x2 x3 hr4 hft
 obtain⟨q0,q1,q2,q3,rfl⟩:=zaT hr4
 simp only [List.getD_cons_zero,List.getD_cons_succ] at x0 x1 x2 x3
 have HFT:=qh hft
 clear hft hr4
 replace x0:=zi yu.out _ _ x0
 replace x1:=zi yu.out _ _ x1
 replace x2:=zi yu.out _ _ x2
 replace x3:=zi yu.out _ _ x3
 have hb1:on+4<=10000000:=by have:=uf.out;omega
 have hnews:=λj u hj=>wC wr [Value.int .i64 q0, .int .i64 q1, .int .i64 q2, .int .i64 q3] 59 j u hj
 have ztC:=qh hnews
 have HDA:Hid (w.drawn<=(wr.alloc (.cells #[.int .i64 q0, .int .i64 q1, .int .i64 q2, .int .i64 q3] 59)).drawn):=HDR.out
 clear hnews
 go_wp2_with(at_builtin;go_must(refine uj _ rfl _ _ 35 rfl 3 (.int .i64 0) 1 8 Tryz.underlying35 zdV rfl (by decide) W.heap.size (.slice oa on oc) on (zD yG ol) rfl ((HO.out).alloc _) (some ⟨wr.heap.size,0,none⟩) 4 4 [.int .i64 q0, .int .i64 q1, .int .i64 q2, .int .i64 q3] rfl rfl (λ_ e=>by cases e;exact ztC.out) (λe=>by cases e) (by simp [Value.oneCell']) (by unfold maxLen;omega) (by omega) (by have:=yu.out.size;simp;omega) ?_);intro ja jc X2 f1 f2 f3 f4 f5 f6;(have HE:Hid (X2.ownsRow W.heap.size 3 1 (.slice ja (on+4) jc) (on+4) (zD yG (ol++ [q0,q1,q2,q3]))):=by(rw [Hid,zio];exact f1));(have HE2:Hid (Below W.heap.size W X2):=yu.out.trans ((((Since.refl _ wr).alloc _).trans f4 (λk hk=> .inl hk)).below yu.out.size (λk hk=>(HO.out.lt k hk).1)));(have HE3:=qh (Nat.le_trans HDA.out f6));clear f1 f2 f3 f4 f5 f6)
 go_roundg (n - (i+1))
 case measure=>rw [HG.out];omega
 case rel=>exact⟨i+1,ja,on+4,jc,ol++ [q0,q1,q2,q3],by omega,rfl,rfl,by simp,by have:=uf.out;rw [Hid];omega,by rw [Hid,HFT.out,HOL.out,List.append_assoc],HE.out,HE2.out,HE3.out⟩
def zf8 (a b:Int):Int:=if a<b then -1 else if b<a then 1 else 0
theorem zcE (w:World) (a:Int):Calls Tryz.prog 124 #[.int .i64 a] w λe w'=>e= .returned (.bool false)/\w=w':=by
 go_enter Tryz.func124,Tryz.ntmps124
 go_wp2_with fail
 go_ret
 exact⟨by first|rfl|simp,rfl⟩
theorem ziG (w:World) (a b:Int):Calls Tryz.prog 98 #[.int .i64 a, .int .i64 b] w λe w'=>e= .returned (.int .i64 (zf8 a b))/\w=w':=by
 unfold zf8
 by_cases h1:a<b
 ·rw [if_pos h1]
  go_enter Tryz.func98,Tryz.ntmps98
  go_wp2_with(go_at_call 124;refine(zcE _ _).mono ?_;rintro e w' ⟨rfl,rfl⟩)
  go_ret
  exact⟨by first|rfl|simp,rfl⟩
 rw [if_neg h1]
 by_cases h2:b<a
 ·rw [if_pos h2]
  go_enter Tryz.func98,Tryz.ntmps98
  go_wp2_with(go_at_call 124;refine(zcE _ _).mono ?_;rintro e w' ⟨rfl,rfl⟩)
  go_ret
  exact⟨by first|rfl|simp,rfl⟩
 rw [if_neg h2]
 go_enter Tryz.func98,Tryz.ntmps98
 go_wp2_with(go_at_call 124;refine(zcE _ _).mono ?_;rintro e w' ⟨rfl,rfl⟩)
 go_ret
 exact⟨by first|rfl|simp,rfl⟩
