/- A thread's step: the document's answer: the walk. -/
import Derived.Deep.CutBlock
import Derived.Test.YtliajkheeniljaaGreatDoorZsOwn
import Derived.Test.YtliajkheeniljaaGreatDoorZsStepQ
import Derived.Test.YtliajkheeniljaaGreatDoorZsShort
set_option linter.all false
namespace Go.Proofs.YtliajkheeniljaaGreatDoor
open Go.RowKit
set_option maxRecDepth 100000
set_option maxHeartbeats 16000000
structure qN (W X:World) (gb gi tb n tc mb mn mc:Nat) (bad:Bool) (ts:List zx) (mem:List Int) (bs:List Value) (jR:List Value):Prop where
 own:xW W X gb (.slice (some ⟨tb,0,none⟩) n tc) (.slice (some ⟨mb,0,none⟩) mn mc) bad ts mem bs
 instr:X.heap[gi]? =some (.cells jR.toArray 64 (0,0))
 g1:gi≠gb
 g2:gi≠tb
 g3:gi≠mb
theorem qN.below {W X X':World} {gb gi tb n tc mb mn mc:Nat} {bad:Bool} {ts:List zx} {mem:List Int} {bs jR:List Value} (h:qN W X gb gi tb n tc mb mn mc bad ts mem bs jR) (hb:Below X.heap.size X X'):qN W X' gb gi tb n tc mb mn mc bad ts mem bs jR:=
 ⟨h.own.later hb,(hb.block _ (zw h.instr)).trans h.instr,h.g1,h.g2,h.g3⟩
theorem qN.thread {W X:World} {gb gi tb n tc mb mn mc:Nat} {bad:Bool} {ts:List zx} {mem:List Int} {bs jR:List Value} (h:qN W X gb gi tb n tc mb mn mc bad ts mem bs jR) {i k:Nat} (hi:i<ts.length) (hk:k<6) {t:zx} {b u:Value}
  (hc:t.cells b=((ts.getD i default).cells (bs.getD i (.slice none 0 0))).set k u) (hr:t.regs.length=4) (hb:X.ownsRow W.heap.size 50 2 b t.buf.length (zq zm.cells t.buf)) (hn:∀k,b.ownBlock=some k->k≠tb/\k≠mb/\k≠gb)
  (hd:∀k,b.ownBlock=some k->∀j,j<ts.length->j≠i->(bs.getD j (.slice none 0 0)).ownBlock≠some k):
  qN W (X.setCell ⟨tb,i*6+k,none⟩ u) gb gi tb n tc mb mn mc bad (ts.set i t) mem (bs.set i b) jR:=
 ⟨h.own.thread hi hk hc hr hb (fun k hk=>⟨(hn k hk).1,fun e=>(hn k hk).2.1 (by simpa [Value.ownBlock] using e.symm),(hn k hk).2.2⟩) hd,(Below.heap_setCell _ _ _ _ h.g2).trans h.instr,h.g1,h.g2,h.g3⟩
theorem qN.mem {W X:World} {gb gi tb n tc mb mn mc:Nat} {bad:Bool} {ts:List zx} {mem:List Int} {bs jR:List Value} (h:qN W X gb gi tb n tc mb mn mc bad ts mem bs jR) (j:Nat) (x:Int):
  qN W (X.setCell ⟨mb,j,none⟩ (.int .i64 x)) gb gi tb n tc mb mn mc bad ts (mem.set j x) bs jR:=
 ⟨h.own.mem j x,(Below.heap_setCell _ _ _ _ h.g3).trans h.instr,h.g1,h.g2,h.g3⟩
theorem qN.isBad {W X:World} {gb gi tb n tc mb mn mc:Nat} {bad:Bool} {ts:List zx} {mem:List Int} {bs jR:List Value} (h:qN W X gb gi tb n tc mb mn mc bad ts mem bs jR) (b:Bool):
  qN W (X.setCell ⟨gb,2,none⟩ (.bool b)) gb gi tb n tc mb mn mc b ts mem bs jR:=
 ⟨h.own.isBad b,(Below.heap_setCell _ _ _ _ h.g1).trans h.instr,h.g1,h.g2,h.g3⟩
theorem qN.zmZ {W X:World} {gb gi tb n tc mb mn mc:Nat} {bad:Bool} {ts:List zx} {mem:List Int} {bs jR:List Value} (h:qN W X gb gi tb n tc mb mn mc bad ts mem bs jR) {i:Nat} (hi:i<ts.length):
  ∀k u,k<6->((ts.getD i default).cells (bs.getD i (.slice none 0 0)))[k]? =some u->X.cell? ⟨tb,i*6+k,none⟩=some u/\X.frozen? ⟨tb,i*6+k,none⟩=false:=by
 obtain⟨tb',tc',e, -,h2⟩:=h.own.threads hi
 cases e
 exact h2
theorem qN.zhW {W X:World} {gb gi tb n tc mb mn mc:Nat} {bad:Bool} {ts:List zx} {mem:List Int} {bs jR:List Value} (h:qN W X gb gi tb n tc mb mn mc bad ts mem bs jR) {j:Nat} (hj:j<mem.length):
  X.cell? ⟨mb,j,none⟩=some (.int .i64 (mem.getD j 0))/\X.frozen? ⟨mb,j,none⟩=false:=by
 obtain⟨mb',mc',e, -,h2⟩:=h.own.vars (by omega)
 cases e
 exact h2 j hj
theorem qN.buf {W X:World} {gb gi tb n tc mb mn mc:Nat} {bad:Bool} {ts:List zx} {mem:List Int} {bs jR:List Value} (h:qN W X gb gi tb n tc mb mn mc bad ts mem bs jR) {i:Nat} (hi:i<ts.length):
  X.ownsRow W.heap.size 50 2 (bs.getD i (.slice none 0 0)) (ts.getD i default).buf.length (zq zm.cells (ts.getD i default).buf)/\∀k,(bs.getD i (.slice none 0 0)).ownBlock=some k->k≠tb/\k≠mb/\k≠gb:=
 ⟨h.own.own.buf i hi,fun k hk=>⟨fun e=>(h.own.own.ne i hi k hk).1 (by rw [e];rfl),fun e=>(h.own.own.ne i hi k hk).2 (by rw [e];rfl),fun e=>h.own.n3 i hi (e ▸ hk)⟩⟩
theorem qN.dist {W X:World} {gb gi tb n tc mb mn mc:Nat} {bad:Bool} {ts:List zx} {mem:List Int} {bs jR:List Value} (h:qN W X gb gi tb n tc mb mn mc bad ts mem bs jR) {i:Nat} (hi:i<ts.length):
  ∀k,(bs.getD i (.slice none 0 0)).ownBlock=some k->∀j,j<ts.length->j≠i->(bs.getD j (.slice none 0 0)).ownBlock≠some k:=fun k hk j hj hji=>h.own.own.one i j hi hj (fun e=>hji e.symm) k hk
theorem qN.set {W X:World} {gb gi tb n tc mb mn mc:Nat} {bad:Bool} {ts:List zx} {mem:List Int} {bs jR:List Value} (h:qN W X gb gi tb n tc mb mn mc bad ts mem bs jR) {i k:Nat} (hi:i<ts.length) (hk:k<6) {t t':zx} {b u:Value}
  (ht:ts.getD i default=t) (hbs:bs.getD i (.slice none 0 0)=b) (hc:t'.cells b=(t.cells b).set k u) (hr:t'.regs.length=4) (hbf:t'.buf=t.buf):
  qN W (X.setCell ⟨tb,i*6+k,none⟩ u) gb gi tb n tc mb mn mc bad (ts.set i t') mem (bs.set i b) jR/\(ts.set i t').getD i default=t'/\(bs.set i b).getD i (.slice none 0 0)=b/\i<(ts.set i t').length:=by
 have hl:=h.own.own.len
 have hB:=h.buf hi
 rw [ht,hbs] at hB
 refine⟨h.thread hi hk (by rw [ht,hbs];exact hc) hr (by rw [hbf];exact hB.1) hB.2 (by have:=h.dist hi;rw [hbs] at this;exact this),by rw [xE hi,if_pos rfl],by rw [xE (by rw [hl];exact hi),if_pos rfl],by rw [List.length_set];exact hi⟩
theorem qN.gy {W X:World} {gb gi tb n tc mb mn mc:Nat} {bad:Bool} {ts:List zx} {mem:List Int} {bs jR:List Value} (h:qN W X gb gi tb n tc mb mn mc bad ts mem bs jR) {i:Nat} (hi:i<ts.length) {t:zx} {b:Value}
  (ht:ts.getD i default=t) (hbs:bs.getD i (.slice none 0 0)=b):∀k u,k<6->(t.cells b)[k]? =some u->X.cell? ⟨tb,i*6+k,none⟩=some u/\X.frozen? ⟨tb,i*6+k,none⟩=false:=by
 have:=h.zmZ hi
 rw [ht,hbs] at this
 exact this
theorem pK {pc r0 r1 r2 r3 v:Int} {bf:List zm} {b:Value} {k:Nat} (hk:k<4):(⟨pc, [r0,r1,r2,r3].set k v,bf⟩:zx).cells b=((⟨pc, [r0,r1,r2,r3],bf⟩:zx).cells b).set (1+k) (.int .i64 v):=by
 have:k=0\/k=1\/k=2\/k=3:=by omega
 rcases this with rfl|rfl|rfl|rfl<;>rfl
theorem zae {pc r0 r1 r2 r3:Int} {bf:List zm} {b:Value} {k:Nat} (hk:k<4):((⟨pc, [r0,r1,r2,r3],bf⟩:zx).cells b)[1+k]? =some (.int .i64 ([r0,r1,r2,r3].getD k 0)):=by
 have:k=0\/k=1\/k=2\/k=3:=by omega
 rcases this with rfl|rfl|rfl|rfl<;>rfl
theorem zpD {pc r0 r1 r2 r3:Int} {bf:List zm} {b:Value} {k:Nat} (hk:k<4):((⟨pc, [r0,r1,r2,r3].set k 0,bf⟩:zx).cells b)[1+k]? =some (.int .i64 ([0,0,0,0].getD k 0)):=by
 have:k=0\/k=1\/k=2\/k=3:=by omega
 rcases this with rfl|rfl|rfl|rfl<;>rfl
theorem zky {pc r0 r1 r2 r3:Int} {bf:List zm} {b:Value} {k:Nat} (hk:k<4):(⟨pc, [r0,r1,r2,r3].set k 1,bf⟩:zx).cells b=((⟨pc, [r0,r1,r2,r3].set k 0,bf⟩:zx).cells b).set (1+k) (.int .i64 1):=by
 have:k=0\/k=1\/k=2\/k=3:=by omega
 rcases this with rfl|rfl|rfl|rfl<;>rfl
theorem kV {R:Option zu} {xa ya:Option Addr} {xn xc yn yc B:Nat} {b:Bool} {X:World} (h:R=none):∃xa' xn' xc' ya' yn' yc' s',Ending.returned (.tuple #[.agg #[.slice xa xn xc, .slice ya yn yc, .bool b], .bool false])= .returned (.tuple #[yH s' (.slice xa' xn' xc') (.slice ya' yn' yc'), .bool R.isSome])/\∀t,R=some t->s'=t/\∃bs,OwnAt B X (.slice xa' xn' xc') (.slice ya' yn' yc') t.threads t.mem bs:=
 ⟨xa,xn,xc,ya,yn,yc,⟨[], [],b⟩,by rw [h];rfl,fun t e=>by rw [h] at e;cases e⟩
theorem qg {R:Option zu} {xa ya:Option Addr} {xn xc yn yc B:Nat} {s:zu} {bs:List Value} {X:World} (h:R=some s) (hs:OwnAt B X (.slice xa xn xc) (.slice ya yn yc) s.threads s.mem bs):∃xa' xn' xc' ya' yn' yc' s',Ending.returned (.tuple #[.agg #[.slice xa xn xc, .slice ya yn yc, .bool s.bad], .bool true])= .returned (.tuple #[yH s' (.slice xa' xn' xc') (.slice ya' yn' yc'), .bool R.isSome])/\∀t,R=some t->s'=t/\∃bs,OwnAt B X (.slice xa' xn' xc') (.slice ya' yn' yc') t.threads t.mem bs:=
 ⟨xa,xn,xc,ya,yn,yc,s,by rw [h];rfl,fun t e=>by rw [h] at e;cases e;exact⟨rfl,bs,hs⟩⟩
theorem jD.zvs {e t:TypeId} {size:Nat} {V X:World} {v:Value} {n:Nat} {xs:List Value} {bs:List (Nat × List Value)} (h:jD e size t V X v n xs bs) {g:Nat} {cs:List Value} (hb:(g,cs)∈bs) (l:List Value) (hl:cs.length=l.length):
  Below V.heap.size V (zU X g 0 l)/\(zU X g 0 l).heap[g]? =some (.cells l.toArray t (0,0))/\V.heap.size<=g:=by
 obtain⟨h1, -,h3⟩:=h.news _ hb
 exact⟨h.below.trans ((yP l X 0).below h.below.size (fun k e=>by omega)),xG l hl h1,h3⟩
theorem zix (w:World) (c:zX) (cv:Value) (d:Nat) (hc:yZ d w cv c.threads) (m:zK) (s:zu) (sv mv:Value) (hs:zZ w s sv mv) (hfit:xX c m s=true) (i:Nat) (hi:i<s.threads.length) (hb:∀j,j<s.threads.length->(s.threads.getD j default).buf.length<=100000):
  Calls Tryz.prog 62 #[yL c cv,yY m,yH s sv mv, .int .i64 i] w fun e w'=>(∃xa xn xc ya yn yc s',e= .returned (.tuple #[yH s' (.slice xa xn xc) (.slice ya yn yc), .bool (vZ c m s i d).isSome])/\∀t,vZ c m s i d=some t->s'=t/\∃bs,OwnAt w.heap.size w' (.slice xa xn xc) (.slice ya yn yc) t.threads t.mem bs)/\Below w.heap.size w w':=by
 obtain⟨hcode,hmay,hlen,hmem,zjB⟩:=bU hfit
 have hbd:=qj hcode
 obtain⟨zdL,zjC⟩:=zjB i hi
 have hins:=fun k (hk:k<(c.threads.getD i []).length)=>zgc hcode (i:=i) (k:=k) (by rw [<-hlen];exact hi) hk
 clear hcode hmay zjB hfit
 obtain⟨ca,cc,rfl, -⟩:=zk.slice hc
 obtain⟨ta,qm,rfl, -⟩:=zk.slice hs.threads
 obtain⟨ma,xV,rfl, -⟩:=zk.slice hs.mem
 have hown:=fun W hW=>zkA W s (.slice ta s.threads.length qm) (.slice ma s.mem.length xV) hW (by omega) (by omega) (fun j hj=>by have:=hb j hj;omega)
 obtain⟨R,hR⟩:∃R,R=vZ c m s i d:=⟨_,rfl⟩
 rw [<-hR]
 obtain⟨l,hl⟩:∃l,l=c.threads.getD i [] :=⟨_,rfl⟩
 obtain⟨t,ht⟩:∃t,t=s.threads.getD i default:=⟨_,rfl⟩
 have hR2:R=if t.pc<(l.length:Int) then(stepT c m s t (l.getD t.pc.toNat default) d).map (fun r=>⟨s.threads.set i r.1,r.2.1,r.2.2⟩) else none:=by rw [hR,hl,ht];rfl
 rw [<-ht] at zdL zjC
 rw [<-hl] at zjC hins
 have HST:Hid (∀x,stepT c m s t x d=stepT c m s t x d):=fun _=>rfl
 obtain⟨C,hC⟩:∃C,C=c:=⟨_,rfl⟩
 obtain⟨M,hM⟩:∃M,M=m:=⟨_,rfl⟩
 obtain⟨S,hS⟩:∃S,S=s:=⟨_,rfl⟩
 rw [<-hC, <-hM, <-hS] at hR2
 clear HST
 have HRR:=qh hR2
 have hT:=hs.threads
 have hME:=hs.mem
 obtain⟨vars,dom,cs⟩:=c
 obtain⟨mod,bnd⟩:=m
 obtain⟨ts,mem,bad⟩:=s
 simp only [] at hc hs hi hb hlen hmem hbd hl ht hT hME hown hins zdL zjC hR2 ⊢
 unfold yL yY yH
 unfold yH at hown
 simp only [] at hown ⊢
 obtain⟨n,hn⟩:∃n,n=ts.length:=⟨_,rfl⟩
 obtain⟨cn,hcn⟩:∃cn,cn=cs.length:=⟨_,rfl⟩
 obtain⟨mn,hmn⟩:∃mn,mn=mem.length:=⟨_,rfl⟩
 rw [<-hn] at hT hown hi hb hlen ⊢
 rw [<-hmn] at hME hown hmem ⊢
 rw [<-hcn] at hc hlen hbd ⊢
 rw [<-hn, <-hmn] at hs
 have jv:=qh hlen
 have HME:=qh hmem
 have HC:=qh hC
 have HM:=qh hM
 have HS:=qh hS
 have HL:=qh hl
 have HT:=qh ht
 have HN:=qh hn
 have HCN:=qh hcn
 have vS:=qh hmn
 have HBU:=qh hb
 have zyG:=qh hins
 have HOWN:=qh hown
 have hB4:=pF w (.cells #[.int .i64 vars, .int .i64 dom, .slice ca cn cc] 24) (.cells #[.int .i64 mod, .int .i64 bnd] 26) (.cells #[.slice ta n qm, .slice ma mn xV, .bool bad] 30) (.cells #[.slice none 0 0, .slice none 0 0, .bool false] 30)
 obtain⟨hB,h1,h2,h3,h4,h5⟩:=hB4
 have HB:=qh hB
 have H1:=qh h1
 have H2:=qh h2
 have H3:=qh h3
 have H4:=qh h4
 have H5:=qh h5
 have pW:=qh (zk.below (xC.stays d) hc hB)
 have HSW:=qh (zZ.below hs hB)
 have zbk:=qh (zk.below wV.stays hME hB)
 have zAT:=qh hME
 have zAU:=qh h5
 clear hlen hmem hC hM hS hl ht hn hcn hmn hb hins hown hB h1 h2 h3 h4 h5 hT hME hc hs hR hR2
 go_enter Tryz.func62,Tryz.ntmps62
 go_upto_region 1 with fail
 generalize World.alloc (World.alloc (World.alloc (World.alloc w _) _) _) _=W at HB H1 H2 H3 H4 H5 pW HSW zbk zAU ⊢
 obtain⟨gx,hgx⟩:∃gx,gx=w.heap.size:=⟨_,rfl⟩
 rw [<-hgx] at H1 H2 H3 H4 H5 ⊢
 have yS:=qh hgx
 clear hgx
 have xD:Hid (∀x,Below W.heap.size W x->x.cell? ⟨gx,0,none⟩=some (.int .i64 vars)/\x.cell? ⟨gx,1,none⟩=some (.int .i64 dom)/\x.cell? ⟨gx,2,none⟩=some (.slice ca cn cc)/\
   x.cell? ⟨gx+1,0,none⟩=some (.int .i64 mod)/\x.cell? ⟨gx+1,1,none⟩=some (.int .i64 bnd)/\x.cell? ⟨gx+2,0,none⟩=some (.slice ta n qm)/\x.cell? ⟨gx+2,1,none⟩=some (.slice ma mn xV)/\x.cell? ⟨gx+2,2,none⟩=some (.bool bad)):=fun x hx=>
  ⟨zl hx _ _ (zi H1.out 0),zl hx _ _ (zi H1.out 1),zl hx _ _ (zi H1.out 2),zl hx _ _ (zi H2.out 0),zl hx _ _ (zi H2.out 1),zl hx _ _ (zi H3.out 0),zl hx _ _ (zi H3.out 1),zl hx _ _ (zi H3.out 2)⟩
 obtain⟨c0,c1,c2,c3,c4,c5,c6,c7⟩:=xD.out W (Below.refl _ _)
 go_upto_region 2 with(go_at_call 64;refine(HOWN.out W HSW.out).mono ?_;rintro e W1 ⟨⟨tv1,mv1,bs,rfl,ho1⟩,hb1⟩;have HO1:=qh ho1;have HB1:=qh hb1;obtain⟨xa,xc,rfl, -, -⟩:=qz ho1.row;obtain⟨ya,yc,rfl, -, -⟩:=qz ho1.mem;clear ho1 hb1)
 rw [<-HN.out, <-vS.out]
 have zJg:1<=vars:=hbd.1
 have zG1:2<=dom:=hbd.2.2.1
 have zG2:dom<=16:=hbd.2.2.2.1
 have wS:n<=4:=by have:=hbd.2.2.2.2.2;have:=jv.out;omega
 have z9g:mn<=4/\1<=mn:=by have:=hbd.2.1;have:=HME.out;omega
 clear c0 c1 c2 c3 c4 c5 c6 c7 hbd
 have hol:=xW.ziS HO1.out HB1.out bad
 rw [<-HN.out, <-vS.out] at hol
 have HOL:=qh hol
 clear hol
 generalize World.alloc W1 _=X0 at HOL ⊢
 obtain⟨gb,hgb⟩:∃gb,gb=W1.heap.size:=⟨_,rfl⟩
 rw [<-hgb] at HOL ⊢
 clear hgb HO1 HB1 HOWN
 obtain⟨tb,tc,hxa, -,htc⟩:=HOL.out.threads (by rw [<-HN.out];exact hi)
 rw [<-HN.out] at hxa
 cases hxa
 obtain⟨mb,mc,hya, -,hmc⟩:=HOL.out.vars (by rw [<-vS.out];omega)
 rw [<-vS.out] at hya
 cases hya
 have hr4:=HOL.out.own.regs i (by rw [<-HN.out];exact hi)
 obtain⟨bv,hbv⟩:∃bv,bv=bs.getD i (.slice none 0 0):=⟨_,rfl⟩
 have hbuf:=(HOL.out.own.buf i (by rw [<-HN.out];exact hi))
 have hbl:=HBU.out i hi
 rw [<-HT.out] at hr4 htc hbuf hbl
 rw [<-hbv] at htc hbuf
 obtain⟨ba,bc,rfl, -, -⟩:=qz hbuf
 obtain⟨pc,rg,bf⟩:=t
 obtain⟨r0,r1,r2,r3,rfl⟩:=j4 hr4
 simp only [] at zdL zjC htc hbuf hbl HRR
 obtain⟨bl,jm⟩:∃bl,bl=bf.length:=⟨_,rfl⟩
 rw [<-jm] at htc hbuf hbl hbv
 obtain⟨qx,rfl⟩:∃qx:Nat,pc=qx:=⟨pc.toNat,by omega⟩
 have qp:=qh jm
 have bB:=qh hbv
 have HTC:Hid (∀k u,k<6-> [Value.int .i64 qx, .int .i64 r0, .int .i64 r1, .int .i64 r2, .int .i64 r3, .slice ba bl bc][k]? =some u->X0.cell? ⟨tb,i*6+k,none⟩=some u/\X0.frozen? ⟨tb,i*6+k,none⟩=false):=by
  have e:(⟨(qx:Int), [r0,r1,r2,r3],bf⟩:zx).cells (.slice ba bl bc)= [Value.int .i64 qx, .int .i64 r0, .int .i64 r1, .int .i64 r2, .int .i64 r3, .slice ba bl bc] :=rfl
  rw [<-e];exact htc
 clear jm hbv hbuf htc hr4 hmc zdL
 obtain⟨ln,hln⟩:∃ln,ln=l.length:=⟨_,rfl⟩
 rw [<-hln] at zjC HRR
 obtain⟨eb,eo,ka,kc,yx, -,hec,hel⟩:=yZ.part pW.out i (by rw [<-HCN.out, <-jv.out];exact hi)
 rw [<-HL.out, <-hln] at hec hel
 subst yx
 have zs7:=qh hln
 clear hln
 have HEL:=qh hel
 have HEC:Hid (∀x,Below W.heap.size W x->x.cell? ⟨eb,eo+i,none⟩=some (.slice ka ln kc)):=fun x hx=>zl hx _ _ hec
 clear hel hec
 have zJh:(i:Int)<(cn:Int):=by have:=jv.out;omega
 obtain⟨c0,c1,c2,c3,c4,c5,c6,c7⟩:=xD.out X0 HOL.out.below
 have e0:=HEC.out X0 HOL.out.below
 have t0:=(HTC.out 0 _ (by omega) rfl).1
 rw [Nat.add_zero] at t0
 have b0:=zi HOL.out.box 0
 by_cases hp:qx<ln
 rotate_left
 ·have hpN:(ln:Int)<=(qx:Int):=by omega
  have hres:R=none:=by rw [HRR.out,if_neg (by omega)]
  have zL:=qh hres
  clear hres
  go_upto_region 3 with fail
  go_quiet (fail)
  go_upto_region 4 with fail
  generalize hX9:World.drewN X0 _=X9
  have hb9:Below X0.heap.size X0 X9:=by rw [<-hX9];exact zV (Below.refl _ _) _
  clear hX9 c0 c1 c2 c3 c4 c5 c6 c7 e0 t0 b0
  have hbw:=zF HOL.out.below hb9
  have vT:=qh hbw
  obtain⟨c0,c1,c2,c3,c4,c5,c6,c7⟩:=xD.out X9 hbw
  have hr:=(hbw.block _ (zw H4.out)).trans H4.out
  have q0:=zi hr 0
  have q1:=zi hr 1
  have q2:=zi hr 2
  have f0:=zB hr 0
  have f1:=zB hr 1
  have f2:=zB hr 2
  have hset:=zA (zA (zA hr 0 (.slice ta n qm)) 1 (.slice ma mn xV)) 2 (.bool bad)
  simp only [List.setIfInBounds_toArray,List.set_cons_zero,List.set_cons_succ] at hset
  have hS:Since (fun k=>k=gx+3) X9 (((X9.setCell ⟨gx+3,0,none⟩ (.slice ta n qm)).setCell ⟨gx+3,1,none⟩ (.slice ma mn xV)).setCell ⟨gx+3,2,none⟩ (.bool bad)):=Since.setCell (F:=fun k=>k=gx+3) (p:=⟨gx+3,2,none⟩) (Since.setCell (F:=fun k=>k=gx+3) (p:=⟨gx+3,1,none⟩) (Since.setCell (F:=fun k=>k=gx+3) (p:=⟨gx+3,0,none⟩) (Since.refl _ X9) (.inl rfl) _) (.inl rfl) _) (.inl rfl) _
  have zI:=qh hset
  have xI:=qh hS
  clear hr hset hS hb9 hbw
  go_wp2_with fail
  (try simp only [Exit.inBlock,Exit.then])
  refine bodyPost_ret (zD rfl _ _ (gx+3) 30 _ (0,0) _ rfl zI.out Tryz.underlying30 rfl zG) rfl ?_
  exact⟨kV zL.out,(HB.out.trans (vT.out.mono HB.out.size)).trans (xI.out.below (by have:=HB.out.size;have:=vT.out.size;omega) (fun k e=>by have:=yS.out;omega))⟩
 have hpI:(qx:Int)<(ln:Int):=by omega
 have hpN:¬(ln:Int)<=(qx:Int):=by omega
 go_upto_region 3 with fail
 go_quiet (fail)
 go_upto_region 5 with fail
 generalize hX9:World.drewN X0 _=X9
 have hb9:Below X0.heap.size X0 X9:=by rw [<-hX9];exact zV (Below.refl _ _) _
 clear hX9 c0 c1 c2 c3 c4 c5 c6 c7 e0 t0 b0
 have zfd:=qh (HOL.out.later hb9)
 have zgX:Hid (∀k u,k<6-> [Value.int .i64 qx, .int .i64 r0, .int .i64 r1, .int .i64 r2, .int .i64 r3, .slice ba bl bc][k]? =some u->∀x,Below X9.heap.size X9 x->x.cell? ⟨tb,i*6+k,none⟩=some u):=fun k u hk hu x hx=>zl (zF hb9 hx) _ _ (HTC.out k u hk hu).1
 clear HTC
 have vT:=qh hb9
 clear hb9
 obtain⟨fb,fo,aa,ac,xba,xbc,hka, -,⟨x0,x1,x2⟩,⟨x3,x4,x5,x6⟩,⟨x7,x8,x9,x10⟩,jW,xa,xb⟩:=jT.part HEL.out qx (by rw [<-zs7.out];exact hp)
 subst hka
 obtain⟨x,hx⟩:∃x,x=l.getD qx default:=⟨_,rfl⟩
 rw [<-hx] at x0 x1 x2 x3 x4 x5 x6 x7 x8 x9 x10 jW xa xb
 have hins:=zyG.out qx (by rw [<-zs7.out];exact hp)
 rw [<-hx, <-zs7.out] at hins
 obtain⟨zJi,hrg0,za9,zAV,zyI⟩:=hins
 rw [<-HME.out] at zyI
 have hr5:=HRR.out
 rw [if_pos hpI,show((qx:Int)).toNat=qx from rfl, <-hx] at hr5
 have HR5:=qh hr5
 clear hr5 HRR zyG hx
 obtain⟨op,hop⟩:∃v,v=x.op:=⟨_,rfl⟩
 obtain⟨jH,zs8⟩:∃v:Nat,(v:Int)=x.reg:=⟨x.reg.toNat,by omega⟩
 obtain⟨qW,zs9⟩:∃v:Nat,(v:Int)=x.var:=⟨x.var.toNat,by omega⟩
 obtain⟨dst,hdst⟩:∃v,v=x.dest:=⟨_,rfl⟩
 obtain⟨ak,hak⟩:∃v,v=x.a.kind:=⟨_,rfl⟩
 obtain⟨an,han⟩:∃v,v=x.a.n:=⟨_,rfl⟩
 obtain⟨ao,hao⟩:∃v,v=x.a.op:=⟨_,rfl⟩
 obtain⟨al,hal⟩:∃v,v=x.a.kids.length:=⟨_,rfl⟩
 obtain⟨bk,hbk⟩:∃v,v=x.b.kind:=⟨_,rfl⟩
 obtain⟨bn,hbn⟩:∃v,v=x.b.n:=⟨_,rfl⟩
 obtain⟨bo,hbo⟩:∃v,v=x.b.op:=⟨_,rfl⟩
 obtain⟨bkl,zsA⟩:∃v,v=x.b.kids.length:=⟨_,rfl⟩
 obtain⟨A,hA⟩:∃v,v=yw [r0,r1,r2,r3] dom d x.a:=⟨_,rfl⟩
 obtain⟨B,hBB⟩:∃v,v=yw [r0,r1,r2,r3] dom d x.b:=⟨_,rfl⟩
 have zyK:Hid (∀X,Below W.heap.size W X->Calls Tryz.prog 90 #[.agg #[.int .i64 ak, .int .i64 an, .int .u8 ao, .slice aa al ac], .agg #[.int .i64 r0, .int .i64 r1, .int .i64 r2, .int .i64 r3], .int .i64 dom] X fun e w'=>e= .returned (.int .i64 A)/\Below X.heap.size X w'):=fun X hX=>by
  rw [hak,han,hao,hal,hA];exact zij r0 r1 r2 r3 dom (by omega) (by omega) d X x.a _ (xa.below hX)
 have zyL:Hid (∀X,Below W.heap.size W X->Calls Tryz.prog 90 #[.agg #[.int .i64 bk, .int .i64 bn, .int .u8 bo, .slice xba bkl xbc], .agg #[.int .i64 r0, .int .i64 r1, .int .i64 r2, .int .i64 r3], .int .i64 dom] X fun e w'=>e= .returned (.int .i64 B)/\Below X.heap.size X w'):=fun X hX=>by
  rw [hbk,hbn,hbo,zsA,hBB];exact zij r0 r1 r2 r3 dom (by omega) (by omega) d X x.b _ (xb.below hX)
 rw [<-hop] at x0
 rw [<-zs8] at x1 za9
 have za9:jH<4:=by omega
 rw [<-zs9] at x2 zyI
 rw [<-hak] at x3
 rw [<-han] at x4
 rw [<-hao] at x5
 rw [<-hal] at x6
 rw [<-hbk] at x7
 rw [<-hbn] at x8
 rw [<-hbo] at x9
 rw [<-zsA] at x10
 rw [<-hdst] at jW
 have xB:=qh hop
 have HRG:=qh zs8
 have HVR:=qh zs9
 have HDS:=qh hdst
 have HA:=qh hA
 have yE:=qh hBB
 clear hop zs8 zs9 hdst hak han hao hal hbk hbn hbo zsA hA hBB xa xb hrg0 zAV
 have C5:Hid (∀y,Below X9.heap.size X9 y->y.cell? ⟨gx,2,none⟩=some (.slice (some ⟨eb,eo,none⟩) cn cc)/\y.cell? ⟨eb,eo+i,none⟩=some (.slice (some ⟨fb,fo,none⟩) ln kc)/\y.cell? ⟨tb,i*6,none⟩=some (.int .i64 qx)/\
   y.cell? ⟨fb,fo+qx*12,none⟩=some (.int .i64 op)/\y.cell? ⟨fb,fo+qx*12+1,none⟩=some (.int .i64 jH)/\y.cell? ⟨fb,fo+qx*12+2,none⟩=some (.int .i64 qW)/\
   y.cell? ⟨fb,fo+qx*12+3,none⟩=some (.int .i64 ak)/\y.cell? ⟨fb,fo+qx*12+4,none⟩=some (.int .i64 an)/\y.cell? ⟨fb,fo+qx*12+5,none⟩=some (.int .u8 ao)/\y.cell? ⟨fb,fo+qx*12+6,none⟩=some (.slice aa al ac)/\
   y.cell? ⟨fb,fo+qx*12+7,none⟩=some (.int .i64 bk)/\y.cell? ⟨fb,fo+qx*12+8,none⟩=some (.int .i64 bn)/\y.cell? ⟨fb,fo+qx*12+9,none⟩=some (.int .u8 bo)/\y.cell? ⟨fb,fo+qx*12+10,none⟩=some (.slice xba bkl xbc)/\y.cell? ⟨fb,fo+qx*12+11,none⟩=some (.int .i64 dst)):=fun y hy=>
  have hw:=zF zfd.out.below hy
  have k2:=fun p v h=>zl hw p v h
  ⟨(xD.out y hw).2.2.1,HEC.out y hw,zgX.out 0 _ (by omega) rfl y hy,k2 _ _ x0,k2 _ _ x1,k2 _ _ x2,k2 _ _ x3,k2 _ _ x4,k2 _ _ x5,k2 _ _ x6,k2 _ _ x7,k2 _ _ x8,k2 _ _ x9,k2 _ _ x10,k2 _ _ jW⟩
 clear x0 x1 x2 x3 x4 x5 x6 x7 x8 x9 x10 jW
 have h0:=jD.start 3 1 64 X9
 have hT0:=qh h0.drew
 clear h0
 refine wp_region_noPanic ?_
 refine wp_region_held_drew (S:=fun x=>Below X9.heap.size X9 x) (by kernel_rfl) (Below.refl _ _).drew (fun _=> ?_)
 obtain⟨wd,hwd⟩:∃wd,wd=X9.drew:=⟨_,rfl⟩
 rw [<-hwd] at hT0 ⊢
 clear hwd
 refine zy 0 38 ?zJj rfl ?z3x (hT0.out.below) ?_
 case z3x=>(intro _ _;go_simp<;>rfl)
 simp only [Act.put,za,ze,zh]
 refine zy 1 39 ?zJk rfl ?z3y (hT0.out.below) ?_
 case z3y=>(intro x h;have e:=C5.out x h;go_simp<;>rfl)
 simp only [Act.put,za,ze,zh]
 refine zy 2 40 ?zJl rfl ?z3z (hT0.out.below) ?_
 case z3z=>(intro _ _;go_simp<;>rfl)
 simp only [Act.put,za,ze,zh]
 refine zy 3 41 ?zJm rfl ?z3A (hT0.out.below) ?_
 case z3A=>(intro _ _;go_simp<;>rfl)
 simp only [Act.put,za,ze,zh]
 refine zy 4 42 ?zJn rfl ?z3B (hT0.out.below) ?_
 case z3B=>(intro x h;have e:=C5.out x h;go_simp<;>rfl)
 simp only [Act.put,za,ze,zh]
 refine zy 5 43 ?zJo rfl ?z3C (hT0.out.below) ?_
 case z3C=>(intro _ _;go_simp<;>rfl)
 simp only [Act.put,za,ze,zh]
 refine zy 6 44 ?zJp rfl ?z3D (hT0.out.below) ?_
 case z3D=>(intro _ _;go_simp<;>rfl)
 simp only [Act.put,za,ze,zh]
 refine zy 7 45 ?zJq rfl ?z3E (hT0.out.below) ?_
 case z3E=>(intro _ _;go_simp<;>rfl)
 simp only [Act.put,za,ze,zh]
 refine zy 8 46 ?zJr rfl ?z3F (hT0.out.below) ?_
 case z3F=>(intro x h;have e:=C5.out x h;go_simp<;>rfl)
 simp only [Act.put,za,ze,zh]
 refine zy 9 47 ?zJs rfl ?z3G (hT0.out.below) ?_
 case z3G=>(intro _ _;go_simp<;>rfl)
 simp only [Act.put,za,ze,zh]
 refine zy 10 48 ?zJt rfl ?z3H (hT0.out.below) ?_
 case z3H=>(intro x h;have e:=C5.out x h;go_simp<;>rfl)
 simp only [Act.put,za,ze,zh]
 refine zY 11 rfl (fun K hK=> ?_)
 go_simp
 have qU:=hT0.out.alloc [.int .i64 0, .int .i64 0, .int .i64 0, .int .i64 0, .int .i64 0, .int .u8 0, .slice none 0 0, .int .i64 0, .int .i64 0, .int .u8 0, .slice none 0 0, .int .i64 0]
 refine hK.out _ _ qU.below (fun _=> ?_)
 obtain⟨gi,hgi⟩:∃n,n=wd.heap.size:=⟨_,rfl⟩
 rw [<-hgi] at qU ⊢
 clear hgi
 generalize World.alloc wd _=Xq2 at qU ⊢
 replace qU:=qh qU
 clear hK K
 refine zY 12 rfl (fun K hK=> ?_)
 have hb1:=qU.out.zvs (g:=gi) (cs:= [.int .i64 0, .int .i64 0, .int .i64 0, .int .i64 0, .int .i64 0, .int .u8 0, .slice none 0 0, .int .i64 0, .int .i64 0, .int .u8 0, .slice none 0 0, .int .i64 0]) (by simp) [.int .i64 op, .int .i64 jH, .int .i64 qW, .int .i64 ak, .int .i64 an, .int .u8 ao, .slice aa al ac, .int .i64 bk, .int .i64 bn, .int .u8 bo, .slice xba bkl xbc, .int .i64 dst] rfl
 obtain⟨hn, -, -⟩:=qU.out.news (gi, [.int .i64 0, .int .i64 0, .int .i64 0, .int .i64 0, .int .i64 0, .int .u8 0, .slice none 0 0, .int .i64 0, .int .i64 0, .int .u8 0, .slice none 0 0, .int .i64 0]) (by simp)
 have d0:=zi hn 0
 have f0:=zB hn 0
 have d1:=zi hn 1
 have f1:=zB hn 1
 have d2:=zi hn 2
 have f2:=zB hn 2
 have d3:=zi hn 3
 have f3:=zB hn 3
 have d4:=zi hn 4
 have f4:=zB hn 4
 have d5:=zi hn 5
 have f5:=zB hn 5
 have d6:=zi hn 6
 have f6:=zB hn 6
 have d7:=zi hn 7
 have f7:=zB hn 7
 have d8:=zi hn 8
 have f8:=zB hn 8
 have d9:=zi hn 9
 have f9:=zB hn 9
 have d10:=zi hn 10
 have f10:=zB hn 10
 have d11:=zi hn 11
 have f11:=zB hn 11
 clear hn
 have vE:=qh hb1
 clear hb1
 go_simp
 clear d0 f0 d1 f1 d2 f2 d3 f3 d4 f4 d5 f5 d6 f6 d7 f7 d8 f8 d9 f9 d10 f10 d11 f11
 refine hK.out _ (zU Xq2 gi 0 [.int .i64 op, .int .i64 jH, .int .i64 qW, .int .i64 ak, .int .i64 an, .int .u8 ao, .slice aa al ac, .int .i64 bk, .int .i64 bn, .int .u8 bo, .slice xba bkl xbc, .int .i64 dst]) vE.out.1 (fun _=> ?_)
 generalize zU Xq2 gi 0 _=X1 at vE ⊢
 clear hK K
 refine wpAnyH_done (by kernel_rfl) ?_ _
 refine NoPanic.normal ?_
 have hgi:=vE.out.2.2
 have yQ:qN W X1 gb gi tb n xc mb mn yc bad ts mem bs [.int .i64 op, .int .i64 jH, .int .i64 qW, .int .i64 ak, .int .i64 an, .int .u8 ao, .slice aa al ac, .int .i64 bk, .int .i64 bn, .int .u8 bo, .slice xba bkl xbc, .int .i64 dst] :=
  ⟨zfd.out.later vE.out.1,vE.out.2.1,fun e=>by have:=zw zfd.out.box;omega,fun e=>by have:=(zfd.out.own.row.lt tb rfl).2;omega,fun e=>by have:=(zfd.out.own.mem.lt mb rfl).2;omega⟩
 have zcK:=qh yQ
 clear hgi yQ C5
 have zsB:Hid (∀y,Below X1.heap.size X1 y->y.cell? ⟨tb,i*6+1,none⟩=some (.int .i64 r0)/\y.cell? ⟨tb,i*6+2,none⟩=some (.int .i64 r1)/\y.cell? ⟨tb,i*6+3,none⟩=some (.int .i64 r2)/\y.cell? ⟨tb,i*6+4,none⟩=some (.int .i64 r3)):=fun y hy=>
  have h:=zF vE.out.1 hy
  ⟨zgX.out 1 _ (by omega) rfl y h,zgX.out 2 _ (by omega) rfl y h,zgX.out 3 _ (by omega) rfl y h,zgX.out 4 _ (by omega) rfl y h⟩
 have HB1:=qh zcK.out.own.below
 have zyM:¬gi=gx+3:=fun e=>by
  have h1:=zw H4.out
  have h2:=vE.out.2.2
  have h3:=zfd.out.below.size
  omega
 have HGI:=qh zyM
 clear zyM
 go_upto_region 6 with fail
 obtain⟨t1,t2,t3,t4⟩:=zsB.out X1 (Below.refl _ _)
 have z3:=zi zcK.out.instr 3
 have z4:=zi zcK.out.instr 4
 have z5:=zi zcK.out.instr 5
 have z6:=zi zcK.out.instr 6
 have c1:=(xD.out X1 HB1.out).2.1
 refine wp_region_still_tail 8 (by kernel_rfl) (by kernel_rfl) ?_
 simp only [List.take_succ_cons,List.take_zero,List.drop_succ_cons,List.drop_zero]
 repeat still_step
 try refine wpStill_nil ?_
 change wpList _ _ _ _ _ X1.drew
 obtain⟨wd,hwd⟩:∃wd,wd=X1.drew:=⟨_,rfl⟩
 rw [<-hwd]
 have uq:Hid (Below X1.heap.size X1 wd):=by rw [Hid,hwd];exact(Below.refl _ _).drew
 clear hwd t1 t2 t3 t4 z3 z4 z5 z6 c1
 go_upto_region 7 with(go_at_call 90;refine(zyK.out wd (zF HB1.out uq.out)).mono ?_;rintro e X2 ⟨rfl,hb⟩;have HB2:=qh (zF uq.out hb);clear hb)
 have zbC:=qh (zcK.out.below HB2.out)
 clear uq
 obtain⟨t1,t2,t3,t4⟩:=zsB.out X2 HB2.out
 have z7:=zi zbC.out.instr 7
 have z8:=zi zbC.out.instr 8
 have z9:=zi zbC.out.instr 9
 have z10:=zi zbC.out.instr 10
 have c1:=(xD.out X2 zbC.out.own.below).2.1
 refine wp_region_still_tail 8 (by kernel_rfl) (by kernel_rfl) ?_
 simp only [List.take_succ_cons,List.take_zero,List.drop_succ_cons,List.drop_zero]
 repeat still_step
 try refine wpStill_nil ?_
 change wpList _ _ _ _ _ X2.drew
 obtain⟨wd',hwd⟩:∃wd,wd=X2.drew:=⟨_,rfl⟩
 rw [<-hwd]
 have uq:Hid (Below X2.heap.size X2 wd'):=by rw [Hid,hwd];exact(Below.refl _ _).drew
 clear hwd t1 t2 t3 t4 z7 z8 z9 z10 c1
 go_upto_region 8 with(go_at_call 90;refine(zyL.out wd' (zF zbC.out.own.below uq.out)).mono ?_;rintro e X3 ⟨rfl,hb⟩;have HB3:=qh (zF uq.out hb);clear hb)
 have wN:=qh (zbC.out.below HB3.out)
 clear uq
 have hin:i<ts.length:=by rw [<-HN.out];exact hi
 have hcl:(ts.getD i default).cells (bs.getD i (.slice none 0 0))= [.int .i64 qx, .int .i64 r0, .int .i64 r1, .int .i64 r2, .int .i64 r3, .slice ba bl bc] :=by rw [<-HT.out, <-bB.out];rfl
 have hpc:=wN.out.zmZ hin 0 (.int .i64 qx) (by omega) (by rw [hcl];rfl)
 rw [Nat.add_zero] at hpc
 obtain⟨t0,f0⟩:=hpc
 have hth:=wN.out.thread hin (k:=0) (by omega) (t:=⟨(qx:Int)+1, [r0,r1,r2,r3],bf⟩) (b:= .slice ba bl bc) (u:= .int .i64 ((qx:Int)+1)) (by rw [hcl];rfl) rfl (by have:=(wN.out.buf hin).1;rw [<-HT.out, <-bB.out] at this;exact this) (by have:=(wN.out.buf hin).2;rw [<-bB.out] at this;exact this) (by have:=wN.out.dist hin;rw [<-bB.out] at this;exact this)
 rw [Nat.add_zero] at hth
 have yI:=qh hth
 have HIN:=qh hin
 clear hin hcl hth
 go_upto_region 9 with fail
 clear t0 f0
 generalize World.setCell X3 _ _=X4 at yI ⊢
 clear zcK zbC wN zsB zgX zfd HB1 HB2 HB3 vE vT HOL zyK zyL HSW pW HEL HEC HBU
 obtain⟨ts1,zgY⟩:∃ts1,ts1=ts.set i ⟨(qx:Int)+1, [r0,r1,r2,r3],bf⟩:=⟨_,rfl⟩
 obtain⟨bs1,zsC⟩:∃bs1,bs1=bs.set i (.slice ba bl bc):=⟨_,rfl⟩
 have hlb:bs.length=ts.length:=by have:=yI.out.own.own.len;rw [List.length_set,List.length_set] at this;exact this
 rw [<-zgY, <-zsC] at yI
 have gB:Hid (ts1.getD i default=⟨(qx:Int)+1, [r0,r1,r2,r3],bf⟩):=by rw [Hid,zgY,xE HIN.out,if_pos rfl]
 have gD:Hid (bs1.getD i (.slice none 0 0)= .slice ba bl bc):=by rw [Hid,zsC,xE (by rw [hlb];exact HIN.out),if_pos rfl]
 have HL1:Hid (i<ts1.length):=by rw [Hid,zgY,List.length_set];exact HIN.out
 have bW:Hid (∀t',ts1.set i t'=ts.set i t'):=fun t'=>by rw [zgY,List.set_set]
 have HT1:Hid (ts1=ts.set i ⟨(qx:Int)+1, [r0,r1,r2,r3],bf⟩):=zgY
 clear zgY zsC hlb HT
 have HTC:Hid (∀k u,k<6-> [Value.int .i64 ((qx:Int)+1), .int .i64 r0, .int .i64 r1, .int .i64 r2, .int .i64 r3, .slice ba bl bc][k]? =some u->X4.cell? ⟨tb,i*6+k,none⟩=some u/\X4.frozen? ⟨tb,i*6+k,none⟩=false):=by
  have h:=yI.out.zmZ HL1.out
  rw [gB.out,gD.out] at h
  exact h
 have vY:Hid (R=Option.map (fun r=>(⟨ts.set i r.1,r.2.1,r.2.2⟩:zu)) (stepT ⟨vars,dom,cs⟩ ⟨mod,bnd⟩ ⟨ts,mem,bad⟩ ⟨qx, [r0,r1,r2,r3],bf⟩ x d)):=by rw [Hid,HR5.out,HC.out,HM.out,HS.out]
 clear HR5 HC HM HS
 have zbO:=qh (yI.out.buf HL1.out)
 have yC:Hid (∀(X:World) (b':Bool),X.heap[gb]? =some (.cells #[.slice (some ⟨tb,0,none⟩) n xc, .slice (some ⟨mb,0,none⟩) mn yc, .bool b'] 30 (0,0))->Below W.heap.size W X->
   (X.cell? ⟨gb,0,none⟩=some (.slice (some ⟨tb,0,none⟩) n xc)/\X.cell? ⟨gb,1,none⟩=some (.slice (some ⟨mb,0,none⟩) mn yc)/\X.cell? ⟨gb,2,none⟩=some (.bool b'))/\
   (X.cell? ⟨gx+3,0,none⟩=some (.slice none 0 0)/\X.cell? ⟨gx+3,1,none⟩=some (.slice none 0 0)/\X.cell? ⟨gx+3,2,none⟩=some (.bool false))/\
   (X.frozen? ⟨gx+3,0,none⟩=false/\X.frozen? ⟨gx+3,1,none⟩=false/\X.frozen? ⟨gx+3,2,none⟩=false)/\
   (((X.setCell ⟨gx+3,0,none⟩ (.slice (some ⟨tb,0,none⟩) n xc)).setCell ⟨gx+3,1,none⟩ (.slice (some ⟨mb,0,none⟩) mn yc)).setCell ⟨gx+3,2,none⟩ (.bool b')).heap[gx+3]? =some (.cells #[.slice (some ⟨tb,0,none⟩) n xc, .slice (some ⟨mb,0,none⟩) mn yc, .bool b'] 30 (0,0))/\
   Since (fun k=>k=gx+3) X (((X.setCell ⟨gx+3,0,none⟩ (.slice (some ⟨tb,0,none⟩) n xc)).setCell ⟨gx+3,1,none⟩ (.slice (some ⟨mb,0,none⟩) mn yc)).setCell ⟨gx+3,2,none⟩ (.bool b'))/\
   Below w.heap.size w (((X.setCell ⟨gx+3,0,none⟩ (.slice (some ⟨tb,0,none⟩) n xc)).setCell ⟨gx+3,1,none⟩ (.slice (some ⟨mb,0,none⟩) mn yc)).setCell ⟨gx+3,2,none⟩ (.bool b'))):=fun X b' hX hW=>by
  have hres:=(hW.block _ (zw H4.out)).trans H4.out
  have hset:=zA (zA (zA hres 0 (.slice (some ⟨tb,0,none⟩) n xc)) 1 (.slice (some ⟨mb,0,none⟩) mn yc)) 2 (.bool b')
  simp only [List.setIfInBounds_toArray,List.set_cons_zero,List.set_cons_succ] at hset
  have hS:Since (fun k=>k=gx+3) X (((X.setCell ⟨gx+3,0,none⟩ (.slice (some ⟨tb,0,none⟩) n xc)).setCell ⟨gx+3,1,none⟩ (.slice (some ⟨mb,0,none⟩) mn yc)).setCell ⟨gx+3,2,none⟩ (.bool b')):=Since.setCell (F:=fun k=>k=gx+3) (p:=⟨gx+3,2,none⟩) (Since.setCell (F:=fun k=>k=gx+3) (p:=⟨gx+3,1,none⟩) (Since.setCell (F:=fun k=>k=gx+3) (p:=⟨gx+3,0,none⟩) (Since.refl _ X) (.inl rfl) _) (.inl rfl) _) (.inl rfl) _
  exact⟨⟨zi hX 0,zi hX 1,zi hX 2⟩,⟨zi hres 0,zi hres 1,zi hres 2⟩,⟨zB hres 0,zB hres 1,zB hres 2⟩,hset,hS,(HB.out.trans (hW.mono HB.out.size)).trans (hS.below (by have:=HB.out.size;have:=hW.size;omega) (fun k e=>by have:=yS.out;omega))⟩
 have kW:Hid (∀(X X':World) (b':Bool) (ts':List zx) (mem':List Int) (bs' jR:List Value),qN W X gb gi tb n xc mb mn yc b' ts' mem' bs' jR->Since (fun k=>k=gx+3) X X'->OwnAt w.heap.size X' (.slice (some ⟨tb,0,none⟩) n xc) (.slice (some ⟨mb,0,none⟩) mn yc) ts' mem' bs'):=fun X X' b' ts' mem' bs' jR h hS=>by
  have hlt:=zw H4.out
  exact OwnAt.lower (B:=W.heap.size) (h.own.own.since hS (fun k hk e=>by have:=(h.own.own.row.lt k hk).1;omega) (fun k hk e=>by have:=(h.own.own.mem.lt k hk).1;omega) (fun j hj k hk e=>by have:=((h.own.own.buf j hj).lt k hk).1;omega)) HB.out.size
 go_cut [15] (fun s15 w'=>∃em:Bool,s15= .bool em/\w'=X4/\Hid (em=decide (bl=0)))
 case first=>
  have t5:=(HTC.out 5 _ (by omega) rfl).1
  by_cases hb0:bl=0
  ·have hb1:((bl:Int)==0)=true:=by simp [hb0]
   go_wp2_with fail
   go_meet
   case rel=>exact⟨true,by first|rfl|simp,rfl,by simp [Hid,hb0]⟩
  ·have hb1:((bl:Int)==0)=false:=by simp [hb0]
   go_wp2_with fail
   go_meet
   case rel=>exact⟨false,by first|rfl|simp,rfl,by simp [Hid,hb0]⟩
 case rest=>
  obtain⟨em,rfl,hww,HEM⟩:=hcut
  obtain rfl:X4=wc:=hww.symm
  have k0:=zi yI.out.instr 0
  go_upto_region 11 with fail
  clear k0
  by_cases o1:op=1
  ·have qZ:Hid ((1:Int)=x.op):=by rw [Hid, <-xB.out,o1]
   clear xB
   have xB:=qZ
   clear qZ
   have p1:((op:Int)==1)=true:=by simp [o1]
   clear o1
   as_aux_lemma=>
    go_upto_region 12 with fail
    obtain⟨lk,hlk⟩:∃lk,lk=kR bf qW:=⟨_,rfl⟩
    have zsD:=fun Y hY=>zrF Y (.slice ba bl bc) bf hY (by rw [<-qp.out];omega) qW
    rw [<-hlk] at zsD
    have zAW:=qh zsD
    have HLK:=qh hlk
    clear zsD hlk
    have hbu:=zbO.out.1
    rw [gB.out,gD.out] at hbu
    have zna:Hid (∀Y,Below X4.heap.size X4 Y->zQ Y (.slice ba bl bc) bf):=fun Y hY=>zQ.below (jA hbu) hY
    clear hbu
    have CZ:Hid (∀y,Below X4.heap.size X4 y->y.cell? ⟨tb,i*6+5,none⟩=some (.slice ba bl bc)/\y.cell? ⟨gi,2,none⟩=some (.int .i64 qW)):=fun y hy=>⟨zl hy _ _ (HTC.out 5 _ (by omega) rfl).1,zl hy _ _ (zi yI.out.instr 2)⟩
    refine wp_region_noPanic ?_
    refine wp_region_held_drew (S:=fun x=>Below X4.heap.size X4 x) (by kernel_rfl) (Below.refl _ _).drew (fun hH=> ?_)
    refine zo 0 85 ?zJu rfl ?z3I ?_
    case z3I=>(intro x h;have e:=CZ.out x h;go_simp<;>rfl)
    simp only [Act.put,za,ze,zh]
    refine zo 1 86 ?zJv rfl ?z3J ?_
    case z3J=>(intro x h;have e:=CZ.out x h;go_simp<;>rfl)
    simp only [Act.put,za,ze,zh]
    refine zo 2 87 ?zJw rfl ?z3K ?_
    case z3K=>(intro x h;have e:=CZ.out x h;go_simp<;>rfl)
    simp only [Act.put,za,ze,zh]
    refine zo 3 88 ?zJx rfl ?z3L ?_
    case z3L=>(intro x h;have e:=CZ.out x h;go_simp<;>rfl)
    simp only [Act.put,za,ze,zh]
    refine zo 4 89 ?zJy rfl ?z3M ?_
    case z3M=>(intro x h;have e:=CZ.out x h;go_simp<;>rfl)
    simp only [Act.put,za,ze,zh]
    refine zo 5 90 ?zJz rfl ?z3N ?_
    case z3N=>(intro x h;have e:=CZ.out x h;go_simp<;>rfl)
    simp only [Act.put,za,ze,zh]
    refine zY 6 rfl (fun K hK=> ?_)
    go_simp
    refine(zAW.out X4.drew (zna.out X4.drew hH)).mono ?_
    rintro e zcL ⟨rfl,hb⟩
    have znb:Below X4.heap.size X4 zcL:=zF hH hb
    refine hK.out _ _ znb (fun _=> ?_)
    clear hK K hb hH
    refine zo 7 84 ?zJ0 rfl ?z3O ?_
    case z3O=>(intro x h;have e:=CZ.out x h;go_simp<;>rfl)
    simp only [Act.put,za,ze,zh]
    refine zo 8 92 ?zJ1 rfl ?z3P ?_
    case z3P=>(intro x h;have e:=CZ.out x h;go_simp<;>rfl)
    simp only [Act.put,za,ze,zh]
    refine zo 9 93 ?zJ2 rfl ?z3Q ?_
    case z3Q=>(intro x h;have e:=CZ.out x h;go_simp<;>rfl)
    simp only [Act.put,za,ze,zh]
    refine zo 10 16 ?zG3 rfl ?zyO ?_
    case zyO=>(intro x h;have e:=CZ.out x h;go_simp<;>rfl)
    simp only [Act.put,za,ze,zh]
    refine zo 11 17 ?zG4 rfl ?zyP ?_
    case zyP=>(intro x h;have e:=CZ.out x h;go_simp<;>rfl)
    simp only [Act.put,za,ze,zh]
    refine wpAnyH_done (by kernel_rfl) ?_ _
    refine NoPanic.normal ?_
    have gX:=qh (yI.out.below znb)
    clear znb
    skip
    cases lk with
    |some lv=>
     simp only [Option.getD_some,Option.isSome_some]
     go_upto_region 15 with fail
     have z1:=zi gX.out.instr 1
     refine wp_region_still_tail 7 (by kernel_rfl) (by kernel_rfl) ?_
     simp only [List.take_succ_cons,List.take_zero,List.drop_succ_cons,List.drop_zero]
     repeat still_step
     try refine wpStill_nil ?_
     change wpList _ _ _ _ _ zcL.drew
     obtain⟨X5,hX5⟩:∃wd,wd=zcL.drew:=⟨_,rfl⟩
     rw [<-hX5]
     have zAX:Hid (Below zcL.heap.size zcL X5):=by rw [Hid,hX5];exact(Below.refl _ _).drew
     clear hX5
     have zun:=qh (gX.out.below zAX.out)
     clear z1
     obtain⟨u0,v0⟩:=zun.out.gy HL1.out gB.out gD.out (1+jH) (.int .i64 ([r0,r1,r2,r3].getD jH 0)) (by omega) (zae za9)
     rw [<-Nat.add_assoc] at u0 v0
     have hw6:=zun.out.set HL1.out (k:=1+jH) (by omega) (t':=⟨(qx:Int)+1,([r0,r1,r2,r3].set jH lv),bf⟩) (u:=(.int .i64 lv)) gB.out gD.out (pK za9) (by simp) rfl
     rw [<-Nat.add_assoc] at hw6
     have HW6:=qh hw6
     clear hw6
     go_upto_region 48 with fail
     clear u0 v0
     generalize World.setCell X5 _ _=X6 at HW6 ⊢
     obtain⟨hr6,ht6,hb6,hl6⟩:=HW6.out
     have z3R:=qh hr6
     have zJ3:=qh ht6
     have zJ4:=qh hb6
     have HL6:=qh hl6
     clear hr6 ht6 hb6 hl6 HW6
     have hres:R=some ⟨ts.set i ⟨(qx:Int)+1, [r0,r1,r2,r3].set jH lv,bf⟩,mem,bad⟩:=by
      rw [vY.out,bI xB.out.symm]
      simp only [Option.map_some]
      rw [<-HVR.out, <-HLK.out, <-HRG.out]
      rfl
     have zL:=qh hres
     clear hres
     have yQ:=z3R.out
     rw [bW.out] at yQ
     have yG:=qh yQ
     clear yQ
     obtain⟨⟨a0,a1,a2⟩,⟨q0,q1,q2⟩,⟨f0,f1,f2⟩,hset,hsn,hbe⟩:=yC.out X6 bad yG.out.own.box yG.out.own.below
     have zI:=qh hset
     have xI:=qh hsn
     have yE:=qh hbe
     clear hset hsn hbe
     go_wp2_with fail
     (try simp only [Exit.inBlock,Exit.then])
     refine bodyPost_ret (zD rfl _ _ (gx+3) 30 _ (0,0) _ rfl zI.out Tryz.underlying30 rfl zG) rfl ?_
     exact⟨qg zL.out (kW.out _ _ _ _ _ _ _ yG.out xI.out),yE.out⟩
    |none=>
     simp only [Option.getD_none,Option.isSome_none]
     go_upto_region 14 with fail
     obtain⟨nv,bS⟩:∃nv,nv=mem.getD qW 0:=⟨_,rfl⟩
     obtain⟨sb,so,hsa, -,hsc⟩:=xJ.part zbk.out qW (by rw [<-vS.out];omega)
     subst hsa
     rw [<-bS] at hsc
     have HNV:=qh bS
     clear bS
     have s1:=zl gX.out.own.below _ _ hsc
     have c6:=(xD.out _ gX.out.own.below).2.2.2.2.2.2.1
     have wL:(qW:Int)<(mn:Int):=by omega
     have z2:=zi gX.out.instr 2
     go_upto_region 15 with fail
     clear z2 s1 c6 hsc
     go_upto_region 15 with fail
     have z1:=zi gX.out.instr 1
     refine wp_region_still_tail 7 (by kernel_rfl) (by kernel_rfl) ?_
     simp only [List.take_succ_cons,List.take_zero,List.drop_succ_cons,List.drop_zero]
     repeat still_step
     try refine wpStill_nil ?_
     change wpList _ _ _ _ _ zcL.drew
     obtain⟨X7,hX7⟩:∃wd,wd=zcL.drew:=⟨_,rfl⟩
     rw [<-hX7]
     have zAY:Hid (Below zcL.heap.size zcL X7):=by rw [Hid,hX7];exact(Below.refl _ _).drew
     clear hX7
     have zuo:=qh (gX.out.below zAY.out)
     clear z1
     obtain⟨u0,v0⟩:=zuo.out.gy HL1.out gB.out gD.out (1+jH) (.int .i64 ([r0,r1,r2,r3].getD jH 0)) (by omega) (zae za9)
     rw [<-Nat.add_assoc] at u0 v0
     have hw8:=zuo.out.set HL1.out (k:=1+jH) (by omega) (t':=⟨(qx:Int)+1,([r0,r1,r2,r3].set jH nv),bf⟩) (u:=(.int .i64 nv)) gB.out gD.out (pK za9) (by simp) rfl
     rw [<-Nat.add_assoc] at hw8
     have HW8:=qh hw8
     clear hw8
     go_upto_region 48 with fail
     clear u0 v0
     generalize World.setCell X7 _ _=X8 at HW8 ⊢
     obtain⟨hr8,ht8,hb8,hl8⟩:=HW8.out
     have z3S:=qh hr8
     have zJ5:=qh ht8
     have zJ6:=qh hb8
     have jQ:=qh hl8
     clear hr8 ht8 hb8 hl8 HW8
     have hres:R=some ⟨ts.set i ⟨(qx:Int)+1, [r0,r1,r2,r3].set jH nv,bf⟩,mem,bad⟩:=by
      rw [vY.out,bI xB.out.symm]
      simp only [Option.map_some]
      rw [<-HVR.out, <-HLK.out, <-HRG.out]
      rw [show((qW:Int)).toNat=qW from rfl, <-HNV.out]
      rfl
     have zL:=qh hres
     clear hres
     have yQ:=z3S.out
     rw [bW.out] at yQ
     have yG:=qh yQ
     clear yQ
     obtain⟨⟨a0,a1,a2⟩,⟨q0,q1,q2⟩,⟨f0,f1,f2⟩,hset,hsn,hbe⟩:=yC.out X8 bad yG.out.own.box yG.out.own.below
     have zI:=qh hset
     have xI:=qh hsn
     have yE:=qh hbe
     clear hset hsn hbe
     go_wp2_with fail
     (try simp only [Exit.inBlock,Exit.then])
     refine bodyPost_ret (zD rfl _ _ (gx+3) 30 _ (0,0) _ rfl zI.out Tryz.underlying30 rfl zG) rfl ?_
     exact⟨qg zL.out (kW.out _ _ _ _ _ _ _ yG.out xI.out),yE.out⟩
  have p1:((op:Int)==1)=false:=by simp [o1]
  by_cases o2:op=2
  ·have qZ:Hid ((2:Int)=x.op):=by rw [Hid, <-xB.out,o2]
   clear xB
   have xB:=qZ
   clear qZ
   have p2:((op:Int)==2)=true:=by simp [o2]
   clear o2
   as_aux_lemma=>
    go_upto_region 17 with fail
    have c3:=(xD.out _ yI.out.own.below).2.2.2.1
    by_cases hm0:mod=0
    ·have hm1:((mod:Int)==0)=true:=by simp [hm0]
     have HM0:=qh hm0
     clear hm0
     go_upto_region 18 with fail
     clear c3 hm1
     go_upto_region 18 with fail
     have z2:=zi yI.out.instr 2
     have hbx:=yI.out.own.box
     have g1:=zi hbx 1
     clear hbx
     have hml:qW<mem.length:=by rw [<-vS.out];omega
     obtain⟨m0,m1⟩:=yI.out.zhW hml
     have wL:(qW:Int)<(mn:Int):=by omega
     have zuq:=qh (yI.out.mem qW A)
     clear hml
     go_upto_region 19 with fail
     clear z2 g1 m0 m1 wL
     generalize World.setCell X4 _ _=X9 at zuq ⊢
     have hres:R=some ⟨ts1,(mem.set qW A),bad⟩:=by
      rw [vY.out,bJ xB.out.symm HM0.out]
      simp only [Option.map_some]
      rw [<-HVR.out, <-HA.out,HT1.out]
      rfl
     have zL:=qh hres
     clear hres
     have yQ:=zuq.out
     have yG:=qh yQ
     clear yQ
     obtain⟨⟨a0,a1,a2⟩,⟨q0,q1,q2⟩,⟨f0,f1,f2⟩,hset,hsn,hbe⟩:=yC.out X9 bad yG.out.own.box yG.out.own.below
     have zI:=qh hset
     have xI:=qh hsn
     have yE:=qh hbe
     clear hset hsn hbe
     go_wp2_with fail
     (try simp only [Exit.inBlock,Exit.then])
     refine bodyPost_ret (zD rfl _ _ (gx+3) 30 _ (0,0) _ rfl zI.out Tryz.underlying30 rfl zG) rfl ?_
     exact⟨qg zL.out (kW.out _ _ _ _ _ _ _ yG.out xI.out),yE.out⟩
    have hm1:((mod:Int)==0)=false:=by simp [hm0]
    have HM0:=qh hm0
    clear hm0
    go_upto_region 20 with fail
    clear c3 hm1
    obtain⟨ok,hok⟩:∃ok,ok=qL bf ⟨mod,bnd⟩ ⟨qW,A⟩:=⟨_,rfl⟩
    have hput:=fun Y hY=>zkY Y (.slice ba bl bc) bf hY (by rw [<-qp.out];omega) ⟨mod,bnd⟩ ⟨qW,A⟩
    rw [<-hok] at hput
    have bG:=qh hput
    have vC:=qh hok
    clear hput hok
    have hbu:=zbO.out.1
    rw [gB.out,gD.out] at hbu
    have zna:Hid (∀Y,Below X4.heap.size X4 Y->zQ Y (.slice ba bl bc) bf):=fun Y hY=>zQ.below (jA hbu) hY
    clear hbu
    have CZ:Hid (∀y,Below X4.heap.size X4 y->y.cell? ⟨tb,i*6+5,none⟩=some (.slice ba bl bc)/\y.cell? ⟨gi,2,none⟩=some (.int .i64 qW)/\y.cell? ⟨gx+1,0,none⟩=some (.int .i64 mod)/\y.cell? ⟨gx+1,1,none⟩=some (.int .i64 bnd)):=fun y hy=>⟨zl hy _ _ (HTC.out 5 _ (by omega) rfl).1,zl hy _ _ (zi yI.out.instr 2),(xD.out y (zF yI.out.own.below hy)).2.2.2.1,(xD.out y (zF yI.out.own.below hy)).2.2.2.2.1⟩
    refine wp_region_noPanic ?_
    refine wp_region_held_drew (S:=fun x=>Below X4.heap.size X4 x) (by kernel_rfl) (Below.refl _ _).drew (fun hH=> ?_)
    refine zo 0 122 ?zJ7 rfl ?z3T ?_
    case z3T=>(intro x h;have e:=CZ.out x h;go_simp<;>rfl)
    simp only [Act.put,za,ze,zh]
    refine zo 1 123 ?zJ8 rfl ?z3U ?_
    case z3U=>(intro x h;have e:=CZ.out x h;go_simp<;>rfl)
    simp only [Act.put,za,ze,zh]
    refine zo 2 124 ?zJ9 rfl ?z3V ?_
    case z3V=>(intro x h;have e:=CZ.out x h;go_simp<;>rfl)
    simp only [Act.put,za,ze,zh]
    refine zo 3 125 ?zJA rfl ?z3W ?_
    case z3W=>(intro x h;have e:=CZ.out x h;go_simp<;>rfl)
    simp only [Act.put,za,ze,zh]
    refine zo 4 126 ?zJB rfl ?z3X ?_
    case z3X=>(intro x h;have e:=CZ.out x h;go_simp<;>rfl)
    simp only [Act.put,za,ze,zh]
    refine zo 5 127 ?zJC rfl ?z3Y ?_
    case z3Y=>(intro x h;have e:=CZ.out x h;go_simp<;>rfl)
    simp only [Act.put,za,ze,zh]
    refine zo 6 128 ?zJD rfl ?z3Z ?_
    case z3Z=>(intro x h;have e:=CZ.out x h;go_simp<;>rfl)
    simp only [Act.put,za,ze,zh]
    refine zo 7 129 ?zJE rfl ?z4a ?_
    case z4a=>(intro x h;have e:=CZ.out x h;go_simp<;>rfl)
    simp only [Act.put,za,ze,zh]
    refine zo 8 130 ?zJF rfl ?z4b ?_
    case z4b=>(intro x h;have e:=CZ.out x h;go_simp<;>rfl)
    simp only [Act.put,za,ze,zh]
    refine zY 9 rfl (fun K hK=> ?_)
    go_simp
    refine(bG.out X4.drew (zna.out X4.drew hH)).mono ?_
    rintro e zjD ⟨⟨bv,rfl,hbv,hrow⟩,hb⟩
    obtain⟨pa,pc2,rfl, -⟩:=zk.slice hbv
    have vO:=qh hrow
    clear hbv hrow
    have znc:Below X4.heap.size X4 zjD:=zF hH hb
    refine hK.out _ _ znc (fun _=> ?_)
    clear hK K hb hH
    refine zo 10 121 ?zG5 rfl ?zyU ?_
    case zyU=>(intro x h;have e:=CZ.out x h;go_simp<;>rfl)
    simp only [Act.put,za,ze,zh]
    refine zo 11 132 ?zG6 rfl ?zyV ?_
    case zyV=>(intro x h;have e:=CZ.out x h;go_simp<;>rfl)
    simp only [Act.put,za,ze,zh]
    refine zo 12 133 ?zG7 rfl ?zyW ?_
    case zyW=>(intro x h;have e:=CZ.out x h;go_simp<;>rfl)
    simp only [Act.put,za,ze,zh]
    refine zo 13 18 ?zG8 rfl ?zyX ?_
    case zyX=>(intro x h;have e:=CZ.out x h;go_simp<;>rfl)
    simp only [Act.put,za,ze,zh]
    refine zo 14 19 ?zG9 rfl ?zyY ?_
    case zyY=>(intro x h;have e:=CZ.out x h;go_simp<;>rfl)
    simp only [Act.put,za,ze,zh]
    refine wpAnyH_done (by kernel_rfl) ?_ _
    refine NoPanic.normal ?_
    have gX:=qh (yI.out.below znc)
    clear znc
    have zAZ:=qh (zw yI.out.own.box)
    have zBa:=qh (yI.out.own.own.row.lt tb rfl).2
    have zBb:=qh (yI.out.own.own.mem.lt mb rfl).2
    have zBc:=qh yI.out.own.below.size
    go_upto_region 21 with fail
    obtain⟨t5,v5⟩:=gX.out.gy HL1.out gB.out gD.out 5 (.slice ba bl bc) (by omega) rfl
    obtain⟨pl,hpl⟩:∃pl,pl=(vU bf ⟨mod,bnd⟩ ⟨qW,A⟩).length:=⟨_,rfl⟩
    rw [<-hpl] at vO ⊢
    have wT:=qh hpl
    clear hpl
    cases ok with
    |true=>
     have hrw:=xw (C:=W.heap.size) (vO.out rfl) zBc.out
     have hpw:=gX.out.thread HL1.out (k:=5) (by omega) (t:=⟨(qx:Int)+1, [r0,r1,r2,r3],vU bf ⟨mod,bnd⟩ ⟨qW,A⟩⟩) (b:= .slice pa pl pc2) (u:= .slice pa pl pc2) (by rw [gB.out,gD.out];rfl) rfl (by rw [<-wT.out];exact hrw) (fun k hk=>by have h1:X4.heap.size<=k:=((vO.out rfl).lt k hk).1;have:=zAZ.out;have:=zBa.out;have:=zBb.out;exact⟨by omega,by omega,by omega⟩) (fun k hk j hj _ e=>by have h1:X4.heap.size<=k:=((vO.out rfl).lt k hk).1;have h2:=((yI.out.own.own.buf j hj).lt k e).2;omega)
     rw [bW.out] at hpw
     have HPW:=qh hpw
     clear hpw hrw
     go_upto_region 22 with fail
     clear t5 v5
     generalize World.setCell zjD _ _=XY at HPW ⊢
     have hres:R=some ⟨(ts.set i ⟨(qx:Int)+1, [r0,r1,r2,r3],vU bf ⟨mod,bnd⟩ ⟨qW,A⟩⟩),mem,bad⟩:=by
      rw [vY.out,bK xB.out.symm HM0.out (by rw [<-HVR.out, <-HA.out, <-vC.out])]
      simp only [Option.map_some]
      rw [<-HVR.out, <-HA.out]
     have zL:=qh hres
     clear hres
     have yQ:=HPW.out
     have yG:=qh yQ
     clear yQ
     obtain⟨⟨a0,a1,a2⟩,⟨q0,q1,q2⟩,⟨f0,f1,f2⟩,hset,hsn,hbe⟩:=yC.out XY bad yG.out.own.box yG.out.own.below
     have zI:=qh hset
     have xI:=qh hsn
     have yE:=qh hbe
     clear hset hsn hbe
     go_wp2_with fail
     (try simp only [Exit.inBlock,Exit.then])
     refine bodyPost_ret (zD rfl _ _ (gx+3) 30 _ (0,0) _ rfl zI.out Tryz.underlying30 rfl zG) rfl ?_
     exact⟨qg zL.out (kW.out _ _ _ _ _ _ _ yG.out xI.out),yE.out⟩
    |false=>
     have hbx:=gX.out.own.box
     have hsY:Since (fun x=>x=tb) zjD (zjD.setCell ⟨tb,i*6+5,none⟩ (.slice pa pl pc2)):=Since.setCell (F:=fun x=>x=tb) (p:=⟨tb,i*6+5,none⟩) (Since.refl _ _) (.inl rfl) _
     have zza:=(hsY.block gb (zw hbx) (fun e=>gX.out.own.n1 (by rw [e];rfl))).trans hbx
     have zzb:=gX.out.own.below.trans (hsY.below gX.out.own.below.size (fun x e=>by have:=(gX.out.own.own.row.lt tb rfl).1;omega))
     have xg:=qh zza
     have zzc:=qh zzb
     clear hbx hsY zza zzb
     have hres:R=none:=by
      rw [vY.out,bL xB.out.symm HM0.out (by rw [<-HVR.out, <-HA.out, <-vC.out])]
      rfl
     have zL:=qh hres
     clear hres
     go_upto_region 22 with fail
     clear t5 v5
     generalize World.setCell zjD _ _=XY at xg zzc ⊢
     obtain⟨⟨a0,a1,a2⟩,⟨q0,q1,q2⟩,⟨f0,f1,f2⟩,hset, -,hbe⟩:=yC.out XY bad xg.out zzc.out
     have zI:=qh hset
     have yE:=qh hbe
     clear hset hbe
     go_wp2_with fail
     (try simp only [Exit.inBlock,Exit.then])
     refine bodyPost_ret (zD rfl _ _ (gx+3) 30 _ (0,0) _ rfl zI.out Tryz.underlying30 rfl zG) rfl ?_
     exact⟨kV zL.out,yE.out⟩
  have p2:((op:Int)==2)=false:=by simp [o2]
  by_cases o3:op=3
  ·have qZ:Hid ((3:Int)=x.op):=by rw [Hid, <-xB.out,o3]
   clear xB
   have xB:=qZ
   clear qZ
   have p3:((op:Int)==3)=true:=by simp [o3]
   clear o3
   as_aux_lemma=>
    go_upto_region 24 with fail
    have z1:=zi yI.out.instr 1
    refine wp_region_still_tail 7 (by kernel_rfl) (by kernel_rfl) ?_
    simp only [List.take_succ_cons,List.take_zero,List.drop_succ_cons,List.drop_zero]
    repeat still_step
    try refine wpStill_nil ?_
    change wpList _ _ _ _ _ X4.drew
    obtain⟨X10,zsE⟩:∃wd,wd=X4.drew:=⟨_,rfl⟩
    rw [<-zsE]
    have z4c:Hid (Below X4.heap.size X4 X10):=by rw [Hid,zsE];exact(Below.refl _ _).drew
    clear zsE
    have zpM:=qh (yI.out.below z4c.out)
    clear z1
    obtain⟨u0,v0⟩:=zpM.out.gy HL1.out gB.out gD.out (1+jH) (.int .i64 ([r0,r1,r2,r3].getD jH 0)) (by omega) (zae za9)
    rw [<-Nat.add_assoc] at u0 v0
    have zbp:=zpM.out.set HL1.out (k:=1+jH) (by omega) (t':=⟨(qx:Int)+1,([r0,r1,r2,r3].set jH A),bf⟩) (u:=(.int .i64 A)) gB.out gD.out (pK za9) (by simp) rfl
    rw [<-Nat.add_assoc] at zbp
    have zsF:=qh zbp
    clear zbp
    go_upto_region 48 with fail
    clear u0 v0
    generalize World.setCell X10 _ _=X11 at zsF ⊢
    obtain⟨zzd,zze,zzf,zzg⟩:=zsF.out
    have zzh:=qh zzd
    have zGA:=qh zze
    have zGB:=qh zzf
    have zJG:=qh zzg
    clear zzd zze zzf zzg zsF
    have hres:R=some ⟨ts.set i ⟨(qx:Int)+1, [r0,r1,r2,r3].set jH A,bf⟩,mem,bad⟩:=by
     rw [vY.out,zbv xB.out.symm]
     simp only [Option.map_some]
     rw [<-HA.out, <-HRG.out]
     rfl
    have zL:=qh hres
    clear hres
    have yQ:=zzh.out
    rw [bW.out] at yQ
    have yG:=qh yQ
    clear yQ
    obtain⟨⟨a0,a1,a2⟩,⟨q0,q1,q2⟩,⟨f0,f1,f2⟩,hset,hsn,hbe⟩:=yC.out X11 bad yG.out.own.box yG.out.own.below
    have zI:=qh hset
    have xI:=qh hsn
    have yE:=qh hbe
    clear hset hsn hbe
    go_wp2_with fail
    (try simp only [Exit.inBlock,Exit.then])
    refine bodyPost_ret (zD rfl _ _ (gx+3) 30 _ (0,0) _ rfl zI.out Tryz.underlying30 rfl zG) rfl ?_
    exact⟨qg zL.out (kW.out _ _ _ _ _ _ _ yG.out xI.out),yE.out⟩
  have p3:((op:Int)==3)=false:=by simp [o3]
  by_cases o4:op=4
  ·have qZ:Hid ((4:Int)=x.op):=by rw [Hid, <-xB.out,o4]
   clear xB
   have xB:=qZ
   clear qZ
   have p4:((op:Int)==4)=true:=by simp [o4]
   clear o4
   as_aux_lemma=>
    go_upto_region 26 with fail
    cases em with
    |true=>
     have hb0:bf.length=0:=by rw [<-qp.out];exact of_decide_eq_true HEM.out.symm
     have HB0:=qh hb0
     clear hb0
     have hres:R=some ⟨ts1,mem,bad⟩:=by
      rw [vY.out,um xB.out.symm]
      rw [if_pos HB0.out,HT1.out]
      rfl
     have zL:=qh hres
     clear hres
     have yQ:=yI.out
     have yG:=qh yQ
     clear yQ
     obtain⟨⟨a0,a1,a2⟩,⟨q0,q1,q2⟩,⟨f0,f1,f2⟩,hset,hsn,hbe⟩:=yC.out X4 bad yG.out.own.box yG.out.own.below
     have zI:=qh hset
     have xI:=qh hsn
     have yE:=qh hbe
     clear hset hsn hbe
     go_wp2_with fail
     (try simp only [Exit.inBlock,Exit.then])
     refine bodyPost_ret (zD rfl _ _ (gx+3) 30 _ (0,0) _ rfl zI.out Tryz.underlying30 rfl zG) rfl ?_
     exact⟨qg zL.out (kW.out _ _ _ _ _ _ _ yG.out xI.out),yE.out⟩
    |false=>
     have hb0:¬bf.length=0:=by rw [<-qp.out];exact of_decide_eq_false HEM.out.symm
     have HB0:=qh hb0
     clear hb0
     have hres:R=none:=by
      rw [vY.out,um xB.out.symm]
      rw [if_neg HB0.out]
      rfl
     have zL:=qh hres
     clear hres
     have yQ:=yI.out
     have yG:=qh yQ
     clear yQ
     obtain⟨⟨a0,a1,a2⟩,⟨q0,q1,q2⟩,⟨f0,f1,f2⟩,hset,hsn,hbe⟩:=yC.out X4 bad yG.out.own.box yG.out.own.below
     have zI:=qh hset
     have xI:=qh hsn
     have yE:=qh hbe
     clear hset hsn hbe
     go_wp2_with fail
     (try simp only [Exit.inBlock,Exit.then])
     refine bodyPost_ret (zD rfl _ _ (gx+3) 30 _ (0,0) _ rfl zI.out Tryz.underlying30 rfl zG) rfl ?_
     exact⟨kV zL.out,yE.out⟩
  have p4:((op:Int)==4)=false:=by simp [o4]
  by_cases o5:op=5
  ·have qZ:Hid ((5:Int)=x.op):=by rw [Hid, <-xB.out,o5]
   clear xB
   have xB:=qZ
   clear qZ
   have p5:((op:Int)==5)=true:=by simp [o5]
   clear o5
   as_aux_lemma=>
    go_upto_region 28 with fail
    have CZ:Hid (∀y,Since (fun k=>k=gx+3) X4 y->y.cell? ⟨gb,0,none⟩=some (.slice (some ⟨tb,0,none⟩) n xc)/\y.cell? ⟨gb,1,none⟩=some (.slice (some ⟨mb,0,none⟩) mn yc)/\y.cell? ⟨gb,2,none⟩=some (.bool bad)/\y.cell? ⟨gx+1,0,none⟩=some (.int .i64 mod)):=fun y hy=>by
     have h1:=yI.out.own.box
     have hlo:=yI.out.own.lo
     have hlt:=zw H4.out
     have h2:=(hy.block _ (zw h1) (by omega)).trans h1
     have h3:=(yI.out.own.below.block _ (zw H2.out)).trans H2.out
     have h4:=(hy.block _ (zw h3) (by omega)).trans h3
     exact⟨zi h2 0,zi h2 1,zi h2 2,zi h4 0⟩
    cases em with
    |true=>
     have hb0:bf.length=0:=by rw [<-qp.out];exact of_decide_eq_true HEM.out.symm
     have HB0:=qh hb0
     clear hb0
     have hres:R=some ⟨ts1,mem,bad⟩:=by
      rw [vY.out,gJ xB.out.symm]
      rw [if_pos (.inl HB0.out),HT1.out]
      rfl
     have zL:=qh hres
     clear hres
     have yQ:=yI.out
     have yG:=qh yQ
     clear yQ
     refine wp_region_noPanic ?_
     refine wp_region_held_drew (S:=fun y=>Since (fun k=>k=gx+3) X4 y) (by kernel_rfl) (Since.refl _ _).drew (fun _=> ?_)
     obtain⟨wd,hwd⟩:∃wd,wd=X4.drew:=⟨_,rfl⟩
     rw [<-hwd]
     have HFX:=yC.out wd bad (by rw [hwd];exact yG.out.own.box) (by rw [hwd];exact yG.out.own.below.drew)
     have xA:Hid (Since (fun k=>k=gx+3) X4 wd):=by rw [Hid,hwd];exact(Since.refl _ _).drew
     clear hwd
     refine zy 0 155 ?zGC rfl ?zzi (xA.out) ?_
     case zzi=>(intro x h;have e:=CZ.out x h;go_simp<;>rfl)
     simp only [Act.put,za,ze,zh]
     refine zy 1 156 ?zGD rfl ?zzj (xA.out) ?_
     case zzj=>(intro _ _;go_simp<;>rfl)
     simp only [Act.put,za,ze,zh]
     refine zy 2 157 ?zGE rfl ?zzk (xA.out) ?_
     case zzk=>(intro _ _;go_simp<;>rfl)
     simp only [Act.put,za,ze,zh]
     refine wpAnyH_take (i:=3) (v:=undef) rfl (by kernel_rfl) (by kernel_rfl) (by kernel_rfl) (fun _ _ _ h=>h) (Or.inr ⟨by rfl,rfl⟩) (xA.out) ?_
     change wpAnyH _ _ _ _ _ _ _ (Act.put _ (some 158) _) _
     simp only [Act.put,za]
     try simp only [ze,zh]
     refine wpAnyH_take (i:=4) (v:=undef) rfl (by kernel_rfl) (by kernel_rfl) (by kernel_rfl) (fun _ _ _ h=>h) (Or.inr ⟨by rfl,rfl⟩) (xA.out) ?_
     change wpAnyH _ _ _ _ _ _ _ (Act.put _ (some 159) _) _
     simp only [Act.put,za]
     try simp only [ze,zh]
     refine wpAnyH_take (i:=5) (v:=undef) rfl (by kernel_rfl) (by kernel_rfl) (by kernel_rfl) (fun _ _ _ h=>h) (Or.inr ⟨by rfl,rfl⟩) (xA.out) ?_
     change wpAnyH _ _ _ _ _ _ _ (Act.put _ (some 160) _) _
     simp only [Act.put,za]
     try simp only [ze,zh]
     refine zy 6 161 ?zGF rfl ?zzl (xA.out) ?_
     case zzl=>(intro _ _;go_simp<;>rfl)
     simp only [Act.put,za,ze,zh]
     refine zY 7 rfl (fun K hK=> ?_)
     obtain⟨-,⟨q0,q1,q2⟩,⟨f0,f1,f2⟩,hset,hsn,hbe⟩:=HFX
     have zI:=qh hset
     have xI:=qh hsn
     have yE:=qh hbe
     clear hset hsn hbe
     go_simp
     refine hK.out _ _ (xA.out.trans xI.out (fun _ h=> .inl h)) (fun _=> ?_)
     clear hK K
     refine zy 8 9 ?zGG rfl ?zzm ((xA.out.trans xI.out (fun _ h=> .inl h))) ?_
     case zzm=>(intro _ _;go_simp<;>rfl)
     simp only [Act.put,za,ze,zh]
     refine wpAnyH_done (by kernel_rfl) ?_ _
     refine NoPanic.normal ?_
     go_wp2_with fail
     (try simp only [Exit.inBlock,Exit.then])
     refine bodyPost_ret (zD rfl _ _ (gx+3) 30 _ (0,0) _ rfl zI.out Tryz.underlying30 rfl zG) rfl ?_
     exact⟨qg zL.out (kW.out _ _ _ _ _ _ _ yG.out (xA.out.trans xI.out (fun _ h=> .inl h))),yE.out⟩
    |false=>
     have hb0:¬bf.length=0:=by rw [<-qp.out];exact of_decide_eq_false HEM.out.symm
     have HB0:=qh hb0
     clear hb0
     by_cases hm2:mod=2
     rotate_left
     ·have hm3:((mod:Int) !=2)=true:=by simp [hm2]
      have bC:=qh hm2
      clear hm2
      have hres:R=some ⟨ts1,mem,bad⟩:=by
       rw [vY.out,gJ xB.out.symm]
       rw [if_pos (.inr bC.out),HT1.out]
       rfl
      have zL:=qh hres
      clear hres
      have yQ:=yI.out
      have yG:=qh yQ
      clear yQ
      refine wp_region_noPanic ?_
      refine wp_region_held_drew (S:=fun y=>Since (fun k=>k=gx+3) X4 y) (by kernel_rfl) (Since.refl _ _).drew (fun _=> ?_)
      obtain⟨wd,hwd⟩:∃wd,wd=X4.drew:=⟨_,rfl⟩
      rw [<-hwd]
      have HFX:=yC.out wd bad (by rw [hwd];exact yG.out.own.box) (by rw [hwd];exact yG.out.own.below.drew)
      have xA:Hid (Since (fun k=>k=gx+3) X4 wd):=by rw [Hid,hwd];exact(Since.refl _ _).drew
      clear hwd
      refine zy 0 155 ?zDI rfl ?zvt (xA.out) ?_
      case zvt=>(intro x h;have e:=CZ.out x h;go_simp<;>rfl)
      simp only [Act.put,za,ze,zh]
      refine zy 1 156 ?zDJ rfl ?zvu (xA.out) ?_
      case zvu=>(intro _ _;go_simp<;>rfl)
      simp only [Act.put,za,ze,zh]
      refine zy 2 157 ?zDK rfl ?zvv (xA.out) ?_
      case zvv=>(intro _ _;go_simp<;>rfl)
      simp only [Act.put,za,ze,zh]
      refine zy 3 158 ?zDL rfl ?zvw (xA.out) ?_
      case zvw=>(intro _ _;go_simp<;>rfl)
      simp only [Act.put,za,ze,zh]
      refine zy 4 159 ?zDM rfl ?zvx (xA.out) ?_
      case zvx=>(intro x h;have e:=CZ.out x h;go_simp<;>rfl)
      simp only [Act.put,za,ze,zh]
      refine zy 5 160 ?zDN rfl ?zvy (xA.out) ?_
      case zvy=>(intro _ _;go_simp<;>rfl)
      simp only [Act.put,za,ze,zh]
      refine zy 6 161 ?zDO rfl ?zvz (xA.out) ?_
      case zvz=>(intro _ _;go_simp<;>rfl)
      simp only [Act.put,za,ze,zh]
      refine zY 7 rfl (fun K hK=> ?_)
      obtain⟨-,⟨q0,q1,q2⟩,⟨f0,f1,f2⟩,hset,hsn,hbe⟩:=HFX
      have zI:=qh hset
      have xI:=qh hsn
      have yE:=qh hbe
      clear hset hsn hbe
      go_simp
      refine hK.out _ _ (xA.out.trans xI.out (fun _ h=> .inl h)) (fun _=> ?_)
      clear hK K
      refine zy 8 9 ?zDP rfl ?zv0 ((xA.out.trans xI.out (fun _ h=> .inl h))) ?_
      case zv0=>(intro _ _;go_simp<;>rfl)
      simp only [Act.put,za,ze,zh]
      refine wpAnyH_done (by kernel_rfl) ?_ _
      refine NoPanic.normal ?_
      go_wp2_with fail
      (try simp only [Exit.inBlock,Exit.then])
      refine bodyPost_ret (zD rfl _ _ (gx+3) 30 _ (0,0) _ rfl zI.out Tryz.underlying30 rfl zG) rfl ?_
      exact⟨qg zL.out (kW.out _ _ _ _ _ _ _ yG.out (xA.out.trans xI.out (fun _ h=> .inl h))),yE.out⟩
     have hm3:((mod:Int) !=2)=false:=by simp [hm2]
     have bC:=qh hm2
     clear hm2
     have hres:R=none:=by
      rw [vY.out,gJ xB.out.symm]
      rw [if_neg (fun h=>h.elim HB0.out (fun h=>h bC.out))]
      rfl
     have zL:=qh hres
     clear hres
     have yQ:=yI.out
     have yG:=qh yQ
     clear yQ
     refine wp_region_noPanic ?_
     refine wp_region_held_drew (S:=fun y=>Since (fun k=>k=gx+3) X4 y) (by kernel_rfl) (Since.refl _ _).drew (fun _=> ?_)
     obtain⟨wd,hwd⟩:∃wd,wd=X4.drew:=⟨_,rfl⟩
     rw [<-hwd]
     have HFX:=yC.out wd bad (by rw [hwd];exact yG.out.own.box) (by rw [hwd];exact yG.out.own.below.drew)
     have xA:Hid (Since (fun k=>k=gx+3) X4 wd):=by rw [Hid,hwd];exact(Since.refl _ _).drew
     clear hwd
     refine zy 0 155 ?zGH rfl ?zzn (xA.out) ?_
     case zzn=>(intro x h;have e:=CZ.out x h;go_simp<;>rfl)
     simp only [Act.put,za,ze,zh]
     refine zy 1 156 ?zDQ rfl ?zv1 (xA.out) ?_
     case zv1=>(intro _ _;go_simp<;>rfl)
     simp only [Act.put,za,ze,zh]
     refine zy 2 157 ?zDR rfl ?zv2 (xA.out) ?_
     case zv2=>(intro _ _;go_simp<;>rfl)
     simp only [Act.put,za,ze,zh]
     refine zy 3 158 ?zDS rfl ?zv3 (xA.out) ?_
     case zv3=>(intro _ _;go_simp<;>rfl)
     simp only [Act.put,za,ze,zh]
     refine zy 4 159 ?zDT rfl ?zv4 (xA.out) ?_
     case zv4=>(intro x h;have e:=CZ.out x h;go_simp<;>rfl)
     simp only [Act.put,za,ze,zh]
     refine zy 5 160 ?zDU rfl ?zv5 (xA.out) ?_
     case zv5=>(intro _ _;go_simp<;>rfl)
     simp only [Act.put,za,ze,zh]
     refine zy 6 161 ?zDV rfl ?zv6 (xA.out) ?_
     case zv6=>(intro _ _;go_simp<;>rfl)
     simp only [Act.put,za,ze,zh]
     refine zY 7 rfl (fun K hK=> ?_)
     obtain⟨-,⟨q0,q1,q2⟩,⟨f0,f1,f2⟩,hset,hsn,hbe⟩:=HFX
     have zI:=qh hset
     have xI:=qh hsn
     have yE:=qh hbe
     clear hset hsn hbe
     go_simp
     refine hK.out _ _ (xA.out.trans xI.out (fun _ h=> .inl h)) (fun _=> ?_)
     clear hK K
     refine zy 8 9 ?zDW rfl ?zv7 ((xA.out.trans xI.out (fun _ h=> .inl h))) ?_
     case zv7=>(intro _ _;go_simp<;>rfl)
     simp only [Act.put,za,ze,zh]
     refine wpAnyH_done (by kernel_rfl) ?_ _
     refine NoPanic.normal ?_
     go_wp2_with fail
     (try simp only [Exit.inBlock,Exit.then])
     refine bodyPost_ret (zD rfl _ _ (gx+3) 30 _ (0,0) _ rfl zI.out Tryz.underlying30 rfl zG) rfl ?_
     exact⟨kV zL.out,yE.out⟩
  have p5:((op:Int)==5)=false:=by simp [o5]
  by_cases o6:op=6
  ·have qZ:Hid ((6:Int)=x.op):=by rw [Hid, <-xB.out,o6]
   clear xB
   have xB:=qZ
   clear qZ
   have p6:((op:Int)==6)=true:=by simp [o6]
   clear o6
   as_aux_lemma=>
    go_upto_region 30 with fail
    have z1:=zi yI.out.instr 1
    refine wp_region_still_tail 6 (by kernel_rfl) (by kernel_rfl) ?_
    simp only [List.take_succ_cons,List.take_zero,List.drop_succ_cons,List.drop_zero]
    repeat still_step
    try refine wpStill_nil ?_
    change wpList _ _ _ _ _ X4.drew
    obtain⟨X15,zsG⟩:∃wd,wd=X4.drew:=⟨_,rfl⟩
    rw [<-zsG]
    have z4d:Hid (Below X4.heap.size X4 X15):=by rw [Hid,zsG];exact(Below.refl _ _).drew
    clear zsG
    have zpN:=qh (yI.out.below z4d.out)
    clear z1
    obtain⟨u0,v0⟩:=zpN.out.gy HL1.out gB.out gD.out (1+jH) (.int .i64 ([r0,r1,r2,r3].getD jH 0)) (by omega) (zae za9)
    rw [<-Nat.add_assoc] at u0 v0
    have hw16:=zpN.out.set HL1.out (k:=1+jH) (by omega) (t':=⟨(qx:Int)+1,([r0,r1,r2,r3].set jH 0),bf⟩) (u:=(.int .i64 0)) gB.out gD.out (pK za9) (by simp) rfl
    rw [<-Nat.add_assoc] at hw16
    have zsH:=qh hw16
    clear hw16
    go_upto_region 31 with fail
    clear u0 v0
    generalize World.setCell X15 _ _=X16 at zsH ⊢
    obtain⟨zzp,zzq,zzr,zzs⟩:=zsH.out
    have pO:=qh zzp
    have zur:=qh zzq
    have zus:=qh zzr
    have zzt:=qh zzs
    clear zzp zzq zzr zzs zsH
    obtain⟨nv,bS⟩:∃nv,nv=mem.getD qW 0:=⟨_,rfl⟩
    obtain⟨sb,so,hsa, -,hsc⟩:=xJ.part zbk.out qW (by rw [<-vS.out];omega)
    subst hsa
    rw [<-bS] at hsc
    have HNV:=qh bS
    clear bS
    have s1:=zl pO.out.own.below _ _ hsc
    have c6:=(xD.out _ pO.out.own.below).2.2.2.2.2.2.1
    have wL:(qW:Int)<(mn:Int):=by omega
    have z2:=zi pO.out.instr 2
    by_cases ha0:nv=A
    rotate_left
    ·have ha1:((nv:Int)==A)=false:=by simp [ha0]
     have pQ:=qh ha0
     clear ha0
     go_upto_region 34 with fail
     clear z2 s1 c6 hsc wL ha1
     cases em with
     |true=>
      have hb0:bf.length=0:=by rw [<-qp.out];exact of_decide_eq_true HEM.out.symm
      have HB0:=qh hb0
      clear hb0
      have hres:R=some ⟨ts.set i ⟨(qx:Int)+1, [r0,r1,r2,r3].set jH 0,bf⟩,mem,bad⟩:=by
       rw [vY.out,bN xB.out.symm (by rw [<-HVR.out, <-HA.out];exact fun e=>pQ.out (HNV.out.trans e)),if_pos HB0.out]
       simp only [Option.map_some]
       rw [<-HRG.out]
       rfl
      have zL:=qh hres
      clear hres
      have yQ:=pO.out
      rw [bW.out] at yQ
      have yG:=qh yQ
      clear yQ
      obtain⟨⟨a0,a1,a2⟩,⟨q0,q1,q2⟩,⟨f0,f1,f2⟩,hset,hsn,hbe⟩:=yC.out X16 bad yG.out.own.box yG.out.own.below
      have zI:=qh hset
      have xI:=qh hsn
      have yE:=qh hbe
      clear hset hsn hbe
      go_wp2_with fail
      (try simp only [Exit.inBlock,Exit.then])
      refine bodyPost_ret (zD rfl _ _ (gx+3) 30 _ (0,0) _ rfl zI.out Tryz.underlying30 rfl zG) rfl ?_
      exact⟨qg zL.out (kW.out _ _ _ _ _ _ _ yG.out xI.out),yE.out⟩
     |false=>
      have hb0:¬bf.length=0:=by rw [<-qp.out];exact of_decide_eq_false HEM.out.symm
      have HB0:=qh hb0
      clear hb0
      have hres:R=none:=by
       rw [vY.out,bN xB.out.symm (by rw [<-HVR.out, <-HA.out];exact fun e=>pQ.out (HNV.out.trans e)),if_neg HB0.out]
       rfl
      have zL:=qh hres
      clear hres
      have yQ:=pO.out
      have yG:=qh yQ
      clear yQ
      obtain⟨⟨a0,a1,a2⟩,⟨q0,q1,q2⟩,⟨f0,f1,f2⟩,hset,hsn,hbe⟩:=yC.out X16 bad yG.out.own.box yG.out.own.below
      have zI:=qh hset
      have xI:=qh hsn
      have yE:=qh hbe
      clear hset hsn hbe
      go_wp2_with fail
      (try simp only [Exit.inBlock,Exit.then])
      refine bodyPost_ret (zD rfl _ _ (gx+3) 30 _ (0,0) _ rfl zI.out Tryz.underlying30 rfl zG) rfl ?_
      exact⟨kV zL.out,yE.out⟩
    have ha1:((nv:Int)==A)=true:=by simp [ha0]
    have pQ:=qh ha0
    clear ha0
    go_upto_region 32 with fail
    clear z2 s1 c6 hsc wL ha1
    go_upto_region 32 with fail
    have z2:=zi pO.out.instr 2
    have hbx:=pO.out.own.box
    have g1:=zi hbx 1
    clear hbx
    have hml:qW<mem.length:=by rw [<-vS.out];omega
    obtain⟨m0,m1⟩:=pO.out.zhW hml
    have wL:(qW:Int)<(mn:Int):=by omega
    have zjE:=qh (pO.out.mem qW B)
    clear hml
    go_upto_region 33 with fail
    clear z2 g1 m0 m1 wL
    generalize World.setCell X16 _ _=X17 at zjE ⊢
    go_upto_region 33 with fail
    have z1:=zi zjE.out.instr 1
    refine wp_region_still_tail 6 (by kernel_rfl) (by kernel_rfl) ?_
    simp only [List.take_succ_cons,List.take_zero,List.drop_succ_cons,List.drop_zero]
    repeat still_step
    try refine wpStill_nil ?_
    change wpList _ _ _ _ _ X17.drew
    obtain⟨X18,zsI⟩:∃wd,wd=X17.drew:=⟨_,rfl⟩
    rw [<-zsI]
    have z4e:Hid (Below X17.heap.size X17 X18):=by rw [Hid,zsI];exact(Below.refl _ _).drew
    clear zsI
    have zpO:=qh (zjE.out.below z4e.out)
    clear z1
    obtain⟨u0,v0⟩:=zpO.out.gy zzt.out zur.out zus.out (1+jH) (.int .i64 ([0,0,0,0].getD jH 0)) (by omega) (zpD za9)
    rw [<-Nat.add_assoc] at u0 v0
    have zsJ:=zpO.out.set zzt.out (k:=1+jH) (by omega) (t':=⟨(qx:Int)+1,([r0,r1,r2,r3].set jH 1),bf⟩) (u:=(.int .i64 1)) zur.out zus.out (zky za9) (by simp) rfl
    rw [<-Nat.add_assoc] at zsJ
    have zsK:=qh zsJ
    clear zsJ
    go_upto_region 34 with fail
    clear u0 v0
    generalize World.setCell X18 _ _=X19 at zsK ⊢
    obtain⟨zzu,zzv,zzw,zzx⟩:=zsK.out
    have zpP:=qh zzu
    have zGI:=qh zzv
    have zGJ:=qh zzw
    have zJH:=qh zzx
    clear zzu zzv zzw zzx zsK
    cases em with
    |true=>
     have hb0:bf.length=0:=by rw [<-qp.out];exact of_decide_eq_true HEM.out.symm
     have HB0:=qh hb0
     clear hb0
     have hres:R=some ⟨ts.set i ⟨(qx:Int)+1, [r0,r1,r2,r3].set jH 1,bf⟩,(mem.set qW B),bad⟩:=by
      rw [vY.out,bM xB.out.symm (by rw [<-HVR.out, <-HA.out, <-pQ.out,HNV.out];rfl),if_pos HB0.out]
      simp only [Option.map_some]
      rw [<-HVR.out, <-yE.out, <-HRG.out]
      rfl
     have zL:=qh hres
     clear hres
     have yQ:=zpP.out
     rw [List.set_set,bW.out] at yQ
     have yG:=qh yQ
     clear yQ
     obtain⟨⟨a0,a1,a2⟩,⟨q0,q1,q2⟩,⟨f0,f1,f2⟩,hset,hsn,hbe⟩:=yC.out X19 bad yG.out.own.box yG.out.own.below
     have zI:=qh hset
     have xI:=qh hsn
     have yE:=qh hbe
     clear hset hsn hbe
     go_wp2_with fail
     (try simp only [Exit.inBlock,Exit.then])
     refine bodyPost_ret (zD rfl _ _ (gx+3) 30 _ (0,0) _ rfl zI.out Tryz.underlying30 rfl zG) rfl ?_
     exact⟨qg zL.out (kW.out _ _ _ _ _ _ _ yG.out xI.out),yE.out⟩
    |false=>
     have hb0:¬bf.length=0:=by rw [<-qp.out];exact of_decide_eq_false HEM.out.symm
     have HB0:=qh hb0
     clear hb0
     have hres:R=none:=by
      rw [vY.out,bM xB.out.symm (by rw [<-HVR.out, <-HA.out, <-pQ.out,HNV.out];rfl),if_neg HB0.out]
      rfl
     have zL:=qh hres
     clear hres
     have yQ:=zpP.out
     have yG:=qh yQ
     clear yQ
     obtain⟨⟨a0,a1,a2⟩,⟨q0,q1,q2⟩,⟨f0,f1,f2⟩,hset,hsn,hbe⟩:=yC.out X19 bad yG.out.own.box yG.out.own.below
     have zI:=qh hset
     have xI:=qh hsn
     have yE:=qh hbe
     clear hset hsn hbe
     go_wp2_with fail
     (try simp only [Exit.inBlock,Exit.then])
     refine bodyPost_ret (zD rfl _ _ (gx+3) 30 _ (0,0) _ rfl zI.out Tryz.underlying30 rfl zG) rfl ?_
     exact⟨kV zL.out,yE.out⟩
  have p6:((op:Int)==6)=false:=by simp [o6]
  by_cases o7:op=7
  ·have qZ:Hid ((7:Int)=x.op):=by rw [Hid, <-xB.out,o7]
   clear xB
   have xB:=qZ
   clear qZ
   have p7:((op:Int)==7)=true:=by simp [o7]
   clear o7
   as_aux_lemma=>
    obtain⟨nv,bS⟩:∃nv,nv=mem.getD qW 0:=⟨_,rfl⟩
    obtain⟨sb,so,hsa,hsb,hsc⟩:=xJ.part zbk.out qW (by rw [<-vS.out];omega)
    subst hsa
    rw [<-bS] at hsc
    have HNV:=qh bS
    have HSC:=qh hsc
    clear bS hsc hsb
    obtain⟨sb2,so2,he2,zBd, -⟩:=xJ.part zAT.out qW (by rw [<-vS.out];omega)
    cases he2
    have HSG:Hid (¬sb=gx+3):=fun e=>by have:=yS.out;omega
    clear zBd
    go_upto_region 36 with fail
    have z2:=zi yI.out.instr 2
    have hbx:=yI.out.own.box
    have g1:=zi hbx 1
    clear hbx
    have hml:qW<mem.length:=by rw [<-vS.out];omega
    obtain⟨m0,m1⟩:=yI.out.zhW hml
    have wL:(qW:Int)<(mn:Int):=by omega
    have pR:=qh (yI.out.mem qW 1)
    clear hml
    go_upto_region 37 with fail
    clear z2 g1 m0 m1 wL
    generalize World.setCell X4 _ _=X20 at pR ⊢
    have wL:(qW:Int)<(mn:Int):=by omega
    have CZ:Hid (∀y,Since (fun k=>k=gx+3) X20 y->y.cell? ⟨gb,0,none⟩=some (.slice (some ⟨tb,0,none⟩) n xc)/\y.cell? ⟨gb,1,none⟩=some (.slice (some ⟨mb,0,none⟩) mn yc)/\y.cell? ⟨gb,2,none⟩=some (.bool bad)/\y.cell? ⟨gx+2,1,none⟩=some (.slice (some ⟨sb,so,none⟩) mn xV)/\y.cell? ⟨gi,2,none⟩=some (.int .i64 qW)/\y.cell? ⟨sb,so+qW,none⟩=some (.int .i64 nv)):=fun y hy=>by
     have h1:=pR.out.own.box
     have hlo:=pR.out.own.lo
     have hlt:=zw H4.out
     have h2:=(hy.block _ (zw h1) (by omega)).trans h1
     have h3:=(pR.out.own.below.block _ (zw H3.out)).trans H3.out
     have h4:=(hy.block _ (zw h3) (by omega)).trans h3
     have h5:=pR.out.instr
     have h6:=(hy.block _ (zw h5) HGI.out).trans h5
     have h7:=zl pR.out.own.below _ _ HSC.out
     have h8:=(hy.cell (p:=⟨sb,so+qW,none⟩) (World.block_lt_of_cell? _ _ h7) HSG.out).trans h7
     exact⟨zi h2 0,zi h2 1,zi h2 2,zi h4 1,zi h6 2,h8⟩
    cases em with
    |true=>
     have hb0:bf.length=0:=by rw [<-qp.out];exact of_decide_eq_true HEM.out.symm
     have HB0:=qh hb0
     clear hb0
     by_cases ha0:nv=0
     rotate_left
     ·have ha1:((nv:Int)==0)=false:=by simp [ha0]
      have pQ:=qh ha0
      clear ha0
      have hres:R=none:=by
       rw [vY.out,gK xB.out.symm]
       rw [if_neg (fun h=>pQ.out (by have:=h.2;rw [<-HVR.out] at this;exact HNV.out.trans this))]
       rfl
      have zL:=qh hres
      clear hres
      have yQ:=pR.out
      have yG:=qh yQ
      clear yQ
      refine wp_region_noPanic ?_
      refine wp_region_held_drew (S:=fun y=>Since (fun k=>k=gx+3) X20 y) (by kernel_rfl) (Since.refl _ _).drew (fun _=> ?_)
      obtain⟨wd,hwd⟩:∃wd,wd=X20.drew:=⟨_,rfl⟩
      rw [<-hwd]
      have HFX:=yC.out wd bad (by rw [hwd];exact yG.out.own.box) (by rw [hwd];exact yG.out.own.below.drew)
      have xA:Hid (Since (fun k=>k=gx+3) X20 wd):=by rw [Hid,hwd];exact(Since.refl _ _).drew
      clear hwd
      refine zy 0 199 ?zDZ rfl ?zv8 (xA.out) ?_
      case zv8=>(intro x h;have e:=CZ.out x h;go_simp<;>rfl)
      simp only [Act.put,za,ze,zh]
      refine zy 1 200 ?zEa rfl ?zv9 (xA.out) ?_
      case zv9=>(intro _ _;go_simp<;>rfl)
      simp only [Act.put,za,ze,zh]
      refine zy 2 201 ?zEb rfl ?zvA (xA.out) ?_
      case zvA=>(intro _ _;go_simp<;>rfl)
      simp only [Act.put,za,ze,zh]
      refine zy 3 202 ?zEc rfl ?zvB (xA.out) ?_
      case zvB=>(intro _ _;go_simp<;>rfl)
      simp only [Act.put,za,ze,zh]
      refine zy 4 203 ?zEd rfl ?zvC (xA.out) ?_
      case zvC=>(intro x h;have e:=CZ.out x h;go_simp<;>rfl)
      simp only [Act.put,za,ze,zh]
      refine zy 5 204 ?zEe rfl ?zvD (xA.out) ?_
      case zvD=>(intro _ _;go_simp<;>rfl)
      simp only [Act.put,za,ze,zh]
      refine zy 6 205 ?zEf rfl ?zvE (xA.out) ?_
      case zvE=>(intro x h;have e:=CZ.out x h;go_simp<;>rfl)
      simp only [Act.put,za,ze,zh]
      refine zy 7 206 ?zEg rfl ?zvF (xA.out) ?_
      case zvF=>(intro _ _;go_simp<;>rfl)
      simp only [Act.put,za,ze,zh]
      refine zy 8 207 ?zEh rfl ?zvG (xA.out) ?_
      case zvG=>(intro x h;have e:=CZ.out x h;go_simp<;>rfl)
      simp only [Act.put,za,ze,zh]
      refine zy 9 208 ?zEi rfl ?zvH (xA.out) ?_
      case zvH=>(intro _ _;go_simp<;>rfl)
      simp only [Act.put,za,ze,zh]
      refine zy 10 209 ?zEj rfl ?zvI (xA.out) ?_
      case zvI=>(intro _ _;go_simp<;>rfl)
      simp only [Act.put,za,ze,zh]
      refine zY 11 rfl (fun K hK=> ?_)
      obtain⟨-,⟨q0,q1,q2⟩,⟨f0,f1,f2⟩,hset,hsn,hbe⟩:=HFX
      have zI:=qh hset
      have xI:=qh hsn
      have yE:=qh hbe
      clear hset hsn hbe
      go_simp
      refine hK.out _ _ (xA.out.trans xI.out (fun _ h=> .inl h)) (fun _=> ?_)
      clear hK K
      refine zy 12 9 ?zEk rfl ?zvJ ((xA.out.trans xI.out (fun _ h=> .inl h))) ?_
      case zvJ=>(intro _ _;go_simp<;>rfl)
      simp only [Act.put,za,ze,zh]
      refine wpAnyH_done (by kernel_rfl) ?_ _
      refine NoPanic.normal ?_
      go_wp2_with fail
      (try simp only [Exit.inBlock,Exit.then])
      refine bodyPost_ret (zD rfl _ _ (gx+3) 30 _ (0,0) _ rfl zI.out Tryz.underlying30 rfl zG) rfl ?_
      exact⟨kV zL.out,yE.out⟩
     have ha1:((nv:Int)==0)=true:=by simp [ha0]
     have pQ:=qh ha0
     clear ha0
     have hres:R=some ⟨ts1,(mem.set qW 1),bad⟩:=by
      rw [vY.out,gK xB.out.symm]
      rw [if_pos ⟨HB0.out,by rw [<-HVR.out];exact HNV.out.symm.trans pQ.out⟩]
      simp only [Option.map_some]
      rw [<-HVR.out,HT1.out]
      rfl
     have zL:=qh hres
     clear hres
     have yQ:=pR.out
     have yG:=qh yQ
     clear yQ
     refine wp_region_noPanic ?_
     refine wp_region_held_drew (S:=fun y=>Since (fun k=>k=gx+3) X20 y) (by kernel_rfl) (Since.refl _ _).drew (fun _=> ?_)
     obtain⟨wd,hwd⟩:∃wd,wd=X20.drew:=⟨_,rfl⟩
     rw [<-hwd]
     have HFX:=yC.out wd bad (by rw [hwd];exact yG.out.own.box) (by rw [hwd];exact yG.out.own.below.drew)
     have xA:Hid (Since (fun k=>k=gx+3) X20 wd):=by rw [Hid,hwd];exact(Since.refl _ _).drew
     clear hwd
     refine zy 0 199 ?zEl rfl ?zvK (xA.out) ?_
     case zvK=>(intro x h;have e:=CZ.out x h;go_simp<;>rfl)
     simp only [Act.put,za,ze,zh]
     refine zy 1 200 ?zEm rfl ?zvL (xA.out) ?_
     case zvL=>(intro _ _;go_simp<;>rfl)
     simp only [Act.put,za,ze,zh]
     refine zy 2 201 ?zEn rfl ?zvM (xA.out) ?_
     case zvM=>(intro _ _;go_simp<;>rfl)
     simp only [Act.put,za,ze,zh]
     refine zy 3 202 ?zEo rfl ?zvN (xA.out) ?_
     case zvN=>(intro _ _;go_simp<;>rfl)
     simp only [Act.put,za,ze,zh]
     refine zy 4 203 ?zEp rfl ?zvO (xA.out) ?_
     case zvO=>(intro x h;have e:=CZ.out x h;go_simp<;>rfl)
     simp only [Act.put,za,ze,zh]
     refine zy 5 204 ?zEq rfl ?zvP (xA.out) ?_
     case zvP=>(intro _ _;go_simp<;>rfl)
     simp only [Act.put,za,ze,zh]
     refine zy 6 205 ?zEr rfl ?zvQ (xA.out) ?_
     case zvQ=>(intro x h;have e:=CZ.out x h;go_simp<;>rfl)
     simp only [Act.put,za,ze,zh]
     refine zy 7 206 ?zEs rfl ?zvR (xA.out) ?_
     case zvR=>(intro _ _;go_simp<;>rfl)
     simp only [Act.put,za,ze,zh]
     refine zy 8 207 ?zEt rfl ?zvS (xA.out) ?_
     case zvS=>(intro x h;have e:=CZ.out x h;go_simp<;>rfl)
     simp only [Act.put,za,ze,zh]
     refine zy 9 208 ?zEu rfl ?zvT (xA.out) ?_
     case zvT=>(intro _ _;go_simp<;>rfl)
     simp only [Act.put,za,ze,zh]
     refine zy 10 209 ?zEv rfl ?zvU (xA.out) ?_
     case zvU=>(intro _ _;go_simp<;>rfl)
     simp only [Act.put,za,ze,zh]
     refine zY 11 rfl (fun K hK=> ?_)
     obtain⟨-,⟨q0,q1,q2⟩,⟨f0,f1,f2⟩,hset,hsn,hbe⟩:=HFX
     have zI:=qh hset
     have xI:=qh hsn
     have yE:=qh hbe
     clear hset hsn hbe
     go_simp
     refine hK.out _ _ (xA.out.trans xI.out (fun _ h=> .inl h)) (fun _=> ?_)
     clear hK K
     refine zy 12 9 ?zEw rfl ?zvV ((xA.out.trans xI.out (fun _ h=> .inl h))) ?_
     case zvV=>(intro _ _;go_simp<;>rfl)
     simp only [Act.put,za,ze,zh]
     refine wpAnyH_done (by kernel_rfl) ?_ _
     refine NoPanic.normal ?_
     go_wp2_with fail
     (try simp only [Exit.inBlock,Exit.then])
     refine bodyPost_ret (zD rfl _ _ (gx+3) 30 _ (0,0) _ rfl zI.out Tryz.underlying30 rfl zG) rfl ?_
     exact⟨qg zL.out (kW.out _ _ _ _ _ _ _ yG.out (xA.out.trans xI.out (fun _ h=> .inl h))),yE.out⟩
    |false=>
     have hb0:¬bf.length=0:=by rw [<-qp.out];exact of_decide_eq_false HEM.out.symm
     have HB0:=qh hb0
     clear hb0
     have hres:R=none:=by
      rw [vY.out,gK xB.out.symm]
      rw [if_neg (fun h=>HB0.out h.1)]
      rfl
     have zL:=qh hres
     clear hres
     have yQ:=pR.out
     have yG:=qh yQ
     clear yQ
     refine wp_region_noPanic ?_
     refine wp_region_held_drew (S:=fun y=>Since (fun k=>k=gx+3) X20 y) (by kernel_rfl) (Since.refl _ _).drew (fun _=> ?_)
     obtain⟨wd,hwd⟩:∃wd,wd=X20.drew:=⟨_,rfl⟩
     rw [<-hwd]
     have HFX:=yC.out wd bad (by rw [hwd];exact yG.out.own.box) (by rw [hwd];exact yG.out.own.below.drew)
     have xA:Hid (Since (fun k=>k=gx+3) X20 wd):=by rw [Hid,hwd];exact(Since.refl _ _).drew
     clear hwd
     refine zy 0 199 ?zEx rfl ?zvW (xA.out) ?_
     case zvW=>(intro x h;have e:=CZ.out x h;go_simp<;>rfl)
     simp only [Act.put,za,ze,zh]
     refine zy 1 200 ?zEy rfl ?zvX (xA.out) ?_
     case zvX=>(intro _ _;go_simp<;>rfl)
     simp only [Act.put,za,ze,zh]
     refine zy 2 201 ?zEz rfl ?zvY (xA.out) ?_
     case zvY=>(intro _ _;go_simp<;>rfl)
     simp only [Act.put,za,ze,zh]
     refine wpAnyH_take (i:=3) (v:=undef) rfl (by kernel_rfl) (by kernel_rfl) (by kernel_rfl) (fun _ _ _ h=>h) (Or.inr ⟨by rfl,rfl⟩) (xA.out) ?_
     change wpAnyH _ _ _ _ _ _ _ (Act.put _ (some 202) _) _
     simp only [Act.put,za]
     try simp only [ze,zh]
     refine wpAnyH_take (i:=4) (v:=undef) rfl (by kernel_rfl) (by kernel_rfl) (by kernel_rfl) (fun _ _ _ h=>h) (Or.inr ⟨by rfl,rfl⟩) (xA.out) ?_
     change wpAnyH _ _ _ _ _ _ _ (Act.put _ (some 203) _) _
     simp only [Act.put,za]
     try simp only [ze,zh]
     refine wpAnyH_take (i:=5) (v:=undef) rfl (by kernel_rfl) (by kernel_rfl) (by kernel_rfl) (fun _ _ _ h=>h) (Or.inr ⟨by rfl,rfl⟩) (xA.out) ?_
     change wpAnyH _ _ _ _ _ _ _ (Act.put _ (some 204) _) _
     simp only [Act.put,za]
     try simp only [ze,zh]
     refine wpAnyH_take (i:=6) (v:=undef) rfl (by kernel_rfl) (by kernel_rfl) (by kernel_rfl) (fun _ _ _ h=>h) (Or.inr ⟨by rfl,rfl⟩) (xA.out) ?_
     change wpAnyH _ _ _ _ _ _ _ (Act.put _ (some 205) _) _
     simp only [Act.put,za]
     try simp only [ze,zh]
     refine wpAnyH_take (i:=7) (v:=undef) rfl (by kernel_rfl) (by kernel_rfl) (by kernel_rfl) (fun _ _ _ h=>h) (Or.inr ⟨by rfl,rfl⟩) (xA.out) ?_
     change wpAnyH _ _ _ _ _ _ _ (Act.put _ (some 206) _) _
     simp only [Act.put,za]
     try simp only [ze,zh]
     refine wpAnyH_take (i:=8) (v:=undef) rfl (by kernel_rfl) (by kernel_rfl) (by kernel_rfl) (fun _ _ _ h=>h) (Or.inr ⟨by rfl,rfl⟩) (xA.out) ?_
     change wpAnyH _ _ _ _ _ _ _ (Act.put _ (some 207) _) _
     simp only [Act.put,za]
     try simp only [ze,zh]
     refine wpAnyH_take (i:=9) (v:=undef) rfl (by kernel_rfl) (by kernel_rfl) (by kernel_rfl) (fun _ _ _ h=>h) (Or.inr ⟨by rfl,rfl⟩) (xA.out) ?_
     change wpAnyH _ _ _ _ _ _ _ (Act.put _ (some 208) _) _
     simp only [Act.put,za]
     try simp only [ze,zh]
     refine zy 10 209 ?zE0 rfl ?zvZ (xA.out) ?_
     case zvZ=>(intro _ _;go_simp<;>rfl)
     simp only [Act.put,za,ze,zh]
     refine zY 11 rfl (fun K hK=> ?_)
     obtain⟨-,⟨q0,q1,q2⟩,⟨f0,f1,f2⟩,hset,hsn,hbe⟩:=HFX
     have zI:=qh hset
     have xI:=qh hsn
     have yE:=qh hbe
     clear hset hsn hbe
     go_simp
     refine hK.out _ _ (xA.out.trans xI.out (fun _ h=> .inl h)) (fun _=> ?_)
     clear hK K
     refine zy 12 9 ?zE1 rfl ?zwa ((xA.out.trans xI.out (fun _ h=> .inl h))) ?_
     case zwa=>(intro _ _;go_simp<;>rfl)
     simp only [Act.put,za,ze,zh]
     refine wpAnyH_done (by kernel_rfl) ?_ _
     refine NoPanic.normal ?_
     go_wp2_with fail
     (try simp only [Exit.inBlock,Exit.then])
     refine bodyPost_ret (zD rfl _ _ (gx+3) 30 _ (0,0) _ rfl zI.out Tryz.underlying30 rfl zG) rfl ?_
     exact⟨kV zL.out,yE.out⟩
  have p7:((op:Int)==7)=false:=by simp [o7]
  by_cases o8:op=8
  ·have qZ:Hid ((8:Int)=x.op):=by rw [Hid, <-xB.out,o8]
   clear xB
   have xB:=qZ
   clear qZ
   have p8:((op:Int)==8)=true:=by simp [o8]
   clear o8
   as_aux_lemma=>
    go_upto_region 39 with fail
    have z2:=zi yI.out.instr 2
    have hbx:=yI.out.own.box
    have g1:=zi hbx 1
    clear hbx
    have hml:qW<mem.length:=by rw [<-vS.out];omega
    obtain⟨m0,m1⟩:=yI.out.zhW hml
    have wL:(qW:Int)<(mn:Int):=by omega
    have zjF:=qh (yI.out.mem qW 0)
    clear hml
    go_upto_region 40 with fail
    clear z2 g1 m0 m1 wL
    generalize World.setCell X4 _ _=X24 at zjF ⊢
    cases em with
    |true=>
     have hb0:bf.length=0:=by rw [<-qp.out];exact of_decide_eq_true HEM.out.symm
     have HB0:=qh hb0
     clear hb0
     have hres:R=some ⟨ts1,(mem.set qW 0),bad⟩:=by
      rw [vY.out,wP xB.out.symm]
      rw [if_pos HB0.out]
      simp only [Option.map_some]
      rw [<-HVR.out,HT1.out]
      rfl
     have zL:=qh hres
     clear hres
     have yQ:=zjF.out
     have yG:=qh yQ
     clear yQ
     obtain⟨⟨a0,a1,a2⟩,⟨q0,q1,q2⟩,⟨f0,f1,f2⟩,hset,hsn,hbe⟩:=yC.out X24 bad yG.out.own.box yG.out.own.below
     have zI:=qh hset
     have xI:=qh hsn
     have yE:=qh hbe
     clear hset hsn hbe
     go_wp2_with fail
     (try simp only [Exit.inBlock,Exit.then])
     refine bodyPost_ret (zD rfl _ _ (gx+3) 30 _ (0,0) _ rfl zI.out Tryz.underlying30 rfl zG) rfl ?_
     exact⟨qg zL.out (kW.out _ _ _ _ _ _ _ yG.out xI.out),yE.out⟩
    |false=>
     have hb0:¬bf.length=0:=by rw [<-qp.out];exact of_decide_eq_false HEM.out.symm
     have HB0:=qh hb0
     clear hb0
     have hres:R=none:=by
      rw [vY.out,wP xB.out.symm]
      rw [if_neg HB0.out]
      rfl
     have zL:=qh hres
     clear hres
     have yQ:=zjF.out
     have yG:=qh yQ
     clear yQ
     obtain⟨⟨a0,a1,a2⟩,⟨q0,q1,q2⟩,⟨f0,f1,f2⟩,hset,hsn,hbe⟩:=yC.out X24 bad yG.out.own.box yG.out.own.below
     have zI:=qh hset
     have xI:=qh hsn
     have yE:=qh hbe
     clear hset hsn hbe
     go_wp2_with fail
     (try simp only [Exit.inBlock,Exit.then])
     refine bodyPost_ret (zD rfl _ _ (gx+3) 30 _ (0,0) _ rfl zI.out Tryz.underlying30 rfl zG) rfl ?_
     exact⟨kV zL.out,yE.out⟩
  have p8:((op:Int)==8)=false:=by simp [o8]
  by_cases o9:op=9
  ·have qZ:Hid ((9:Int)=x.op):=by rw [Hid, <-xB.out,o9]
   clear xB
   have xB:=qZ
   clear qZ
   have p9:((op:Int)==9)=true:=by simp [o9]
   clear o9
   as_aux_lemma=>
    go_upto_region 42 with fail
    have hbx:=yI.out.own.box
    have g2:=zi hbx 2
    have h2:=zB hbx 2
    clear hbx
    cases bad with
    |true=>
     have zpQ:=qh (yI.out.isBad true)
     go_upto_region 48 with fail
     clear g2 h2
     generalize World.setCell X4 _ _=X25 at zpQ ⊢
     have hres:R=some ⟨ts1,mem,true⟩:=by
      rw [vY.out,jZ xB.out.symm]
      rw [HT1.out]
      rfl
     have zL:=qh hres
     clear hres
     have yQ:=zpQ.out
     have yG:=qh yQ
     clear yQ
     obtain⟨⟨a0,a1,a2⟩,⟨q0,q1,q2⟩,⟨f0,f1,f2⟩,hset,hsn,hbe⟩:=yC.out X25 true yG.out.own.box yG.out.own.below
     have zI:=qh hset
     have xI:=qh hsn
     have yE:=qh hbe
     clear hset hsn hbe
     go_wp2_with fail
     (try simp only [Exit.inBlock,Exit.then])
     refine bodyPost_ret (zD rfl _ _ (gx+3) 30 _ (0,0) _ rfl zI.out Tryz.underlying30 rfl zG) rfl ?_
     exact⟨qg zL.out (kW.out _ _ _ _ _ _ _ yG.out xI.out),yE.out⟩
    |false=>
     by_cases ha0:A=0
     rotate_left
     ·have ha1:((A:Int)==0)=false:=by simp [ha0]
      have pQ:=qh ha0
      clear ha0
      have zpR:=qh (yI.out.isBad false)
      go_upto_region 48 with fail
      clear g2 h2
      generalize World.setCell X4 _ _=X27 at zpR ⊢
      have hres:R=some ⟨ts1,mem,false⟩:=by
       rw [vY.out,jZ xB.out.symm]
       rw [HT1.out, <-HA.out,decide_eq_false pQ.out]
       rfl
      have zL:=qh hres
      clear hres
      have yQ:=zpR.out
      have yG:=qh yQ
      clear yQ
      obtain⟨⟨a0,a1,a2⟩,⟨q0,q1,q2⟩,⟨f0,f1,f2⟩,hset,hsn,hbe⟩:=yC.out X27 false yG.out.own.box yG.out.own.below
      have zI:=qh hset
      have xI:=qh hsn
      have yE:=qh hbe
      clear hset hsn hbe
      go_wp2_with fail
      (try simp only [Exit.inBlock,Exit.then])
      refine bodyPost_ret (zD rfl _ _ (gx+3) 30 _ (0,0) _ rfl zI.out Tryz.underlying30 rfl zG) rfl ?_
      exact⟨qg zL.out (kW.out _ _ _ _ _ _ _ yG.out xI.out),yE.out⟩
     have ha1:((A:Int)==0)=true:=by simp [ha0]
     have pQ:=qh ha0
     clear ha0
     have zpS:=qh (yI.out.isBad true)
     go_upto_region 48 with fail
     clear g2 h2
     generalize World.setCell X4 _ _=X26 at zpS ⊢
     have hres:R=some ⟨ts1,mem,true⟩:=by
      rw [vY.out,jZ xB.out.symm]
      rw [HT1.out, <-HA.out,decide_eq_true pQ.out]
      rfl
     have zL:=qh hres
     clear hres
     have yQ:=zpS.out
     have yG:=qh yQ
     clear yQ
     obtain⟨⟨a0,a1,a2⟩,⟨q0,q1,q2⟩,⟨f0,f1,f2⟩,hset,hsn,hbe⟩:=yC.out X26 true yG.out.own.box yG.out.own.below
     have zI:=qh hset
     have xI:=qh hsn
     have yE:=qh hbe
     clear hset hsn hbe
     go_wp2_with fail
     (try simp only [Exit.inBlock,Exit.then])
     refine bodyPost_ret (zD rfl _ _ (gx+3) 30 _ (0,0) _ rfl zI.out Tryz.underlying30 rfl zG) rfl ?_
     exact⟨qg zL.out (kW.out _ _ _ _ _ _ _ yG.out xI.out),yE.out⟩
  have p9:((op:Int)==9)=false:=by simp [o9]
  by_cases o12:op=12
  rotate_left
  ·have p12:((op:Int)==12)=false:=by simp [o12]
   by_cases o13:op=13
   rotate_left
   ·have p13:((op:Int)==13)=false:=by simp [o13]
    as_aux_lemma=>
     go_upto_region 48 with fail
     have hres:R=some ⟨ts1,mem,bad⟩:=by
      rw [vY.out,zbN (by rw [<-xB.out];exact o1) (by rw [<-xB.out];exact o2) (by rw [<-xB.out];exact o3) (by rw [<-xB.out];exact o4) (by rw [<-xB.out];exact o5) (by rw [<-xB.out];exact o6) (by rw [<-xB.out];exact o7) (by rw [<-xB.out];exact o8) (by rw [<-xB.out];exact o9) (by rw [<-xB.out];exact o12) (by rw [<-xB.out];exact o13),HT1.out]
      rfl
     have zL:=qh hres
     clear hres
     have yQ:=yI.out
     have yG:=qh yQ
     clear yQ
     obtain⟨⟨a0,a1,a2⟩,⟨q0,q1,q2⟩,⟨f0,f1,f2⟩,hset,hsn,hbe⟩:=yC.out X4 bad yG.out.own.box yG.out.own.below
     have zI:=qh hset
     have xI:=qh hsn
     have yE:=qh hbe
     clear hset hsn hbe
     go_wp2_with fail
     (try simp only [Exit.inBlock,Exit.then])
     refine bodyPost_ret (zD rfl _ _ (gx+3) 30 _ (0,0) _ rfl zI.out Tryz.underlying30 rfl zG) rfl ?_
     exact⟨qg zL.out (kW.out _ _ _ _ _ _ _ yG.out xI.out),yE.out⟩
   have qZ:Hid ((13:Int)=x.op):=by rw [Hid, <-xB.out,o13]
   clear xB
   have xB:=qZ
   clear qZ
   have p13:((op:Int)==13)=true:=by simp [o13]
   clear o13
   as_aux_lemma=>
    go_upto_region 47 with fail
    have z11:=zi yI.out.instr 11
    obtain⟨u0,v0⟩:=yI.out.gy HL1.out gB.out gD.out 0 (.int .i64 ((qx:Int)+1)) (by omega) rfl
    rw [Nat.add_zero] at u0 v0
    have zsL:=yI.out.set HL1.out (k:=0) (by omega) (t':=⟨dst, [r0,r1,r2,r3],bf⟩) (u:=(.int .i64 dst)) gB.out gD.out rfl (by simp) rfl
    rw [Nat.add_zero] at zsL
    have zsM:=qh zsL
    clear zsL
    go_upto_region 48 with fail
    clear u0 v0 z11
    generalize World.setCell X4 _ _=X29 at zsM ⊢
    obtain⟨zzy,zz0,zz1,zz2⟩:=zsM.out
    have zz3:=qh zzy
    have zGK:=qh zz0
    have zGL:=qh zz1
    have zJI:=qh zz2
    clear zzy zz0 zz1 zz2 zsM
    have hres:R=some ⟨ts.set i ⟨dst, [r0,r1,r2,r3],bf⟩,mem,bad⟩:=by
     rw [vY.out,zaK xB.out.symm]
     simp only [Option.map_some]
     rw [<-HDS.out]
    have zL:=qh hres
    clear hres
    have yQ:=zz3.out
    rw [bW.out] at yQ
    have yG:=qh yQ
    clear yQ
    obtain⟨⟨a0,a1,a2⟩,⟨q0,q1,q2⟩,⟨f0,f1,f2⟩,hset,hsn,hbe⟩:=yC.out X29 bad yG.out.own.box yG.out.own.below
    have zI:=qh hset
    have xI:=qh hsn
    have yE:=qh hbe
    clear hset hsn hbe
    go_wp2_with fail
    (try simp only [Exit.inBlock,Exit.then])
    refine bodyPost_ret (zD rfl _ _ (gx+3) 30 _ (0,0) _ rfl zI.out Tryz.underlying30 rfl zG) rfl ?_
    exact⟨qg zL.out (kW.out _ _ _ _ _ _ _ yG.out xI.out),yE.out⟩
  have qZ:Hid ((12:Int)=x.op):=by rw [Hid, <-xB.out,o12]
  clear xB
  have xB:=qZ
  clear qZ
  have p12:((op:Int)==12)=true:=by simp [o12]
  clear o12
  as_aux_lemma=>
   go_upto_region 44 with fail
   by_cases ha0:A=0
   rotate_left
   ·have ha1:((A:Int)==0)=false:=by simp [ha0]
    have pQ:=qh ha0
    clear ha0
    go_upto_region 48 with fail
    clear ha1
    have hres:R=some ⟨ts1,mem,bad⟩:=by
     rw [vY.out,wQ xB.out.symm]
     rw [<-HA.out,if_neg pQ.out,HT1.out]
     rfl
    have zL:=qh hres
    clear hres
    have yQ:=yI.out
    have yG:=qh yQ
    clear yQ
    obtain⟨⟨a0,a1,a2⟩,⟨q0,q1,q2⟩,⟨f0,f1,f2⟩,hset,hsn,hbe⟩:=yC.out X4 bad yG.out.own.box yG.out.own.below
    have zI:=qh hset
    have xI:=qh hsn
    have yE:=qh hbe
    clear hset hsn hbe
    go_wp2_with fail
    (try simp only [Exit.inBlock,Exit.then])
    refine bodyPost_ret (zD rfl _ _ (gx+3) 30 _ (0,0) _ rfl zI.out Tryz.underlying30 rfl zG) rfl ?_
    exact⟨qg zL.out (kW.out _ _ _ _ _ _ _ yG.out xI.out),yE.out⟩
   have ha1:((A:Int)==0)=true:=by simp [ha0]
   have pQ:=qh ha0
   clear ha0
   go_upto_region 45 with fail
   clear ha1
   have z11:=zi yI.out.instr 11
   obtain⟨u0,v0⟩:=yI.out.gy HL1.out gB.out gD.out 0 (.int .i64 ((qx:Int)+1)) (by omega) rfl
   rw [Nat.add_zero] at u0 v0
   have zsN:=yI.out.set HL1.out (k:=0) (by omega) (t':=⟨dst, [r0,r1,r2,r3],bf⟩) (u:=(.int .i64 dst)) gB.out gD.out rfl (by simp) rfl
   rw [Nat.add_zero] at zsN
   have zsO:=qh zsN
   clear zsN
   go_upto_region 48 with fail
   clear u0 v0 z11
   generalize World.setCell X4 _ _=X28 at zsO ⊢
   obtain⟨zz4,zz5,zz6,zz7⟩:=zsO.out
   have zz8:=qh zz4
   have zGM:=qh zz5
   have zGN:=qh zz6
   have zJJ:=qh zz7
   clear zz4 zz5 zz6 zz7 zsO
   have hres:R=some ⟨ts.set i ⟨dst, [r0,r1,r2,r3],bf⟩,mem,bad⟩:=by
    rw [vY.out,wQ xB.out.symm]
    rw [<-HA.out,if_pos pQ.out, <-HDS.out]
    rfl
   have zL:=qh hres
   clear hres
   have yQ:=zz8.out
   rw [bW.out] at yQ
   have yG:=qh yQ
   clear yQ
   obtain⟨⟨a0,a1,a2⟩,⟨q0,q1,q2⟩,⟨f0,f1,f2⟩,hset,hsn,hbe⟩:=yC.out X28 bad yG.out.own.box yG.out.own.below
   have zI:=qh hset
   have xI:=qh hsn
   have yE:=qh hbe
   clear hset hsn hbe
   go_wp2_with fail
   (try simp only [Exit.inBlock,Exit.then])
   refine bodyPost_ret (zD rfl _ _ (gx+3) 30 _ (0,0) _ rfl zI.out Tryz.underlying30 rfl zG) rfl ?_
   exact⟨qg zL.out (kW.out _ _ _ _ _ _ _ yG.out xI.out),yE.out⟩
end Go.Proofs.YtliajkheeniljaaGreatDoor
