/- A thread's step: the document's answer: the walk. -/
import Derived.Deep.CutBlock
import Derived.Test.YtliajkheeniljaaGreatDoorZaOwn
import Derived.Test.YtliajkheeniljaaGreatDoorZaStepQ
import Derived.Test.YtliajkheeniljaaGreatDoorZaShort
set_option linter.all false
namespace Go.Proofs.YtliajkheeniljaaGreatDoor
open Go.RowKit
set_option maxRecDepth 100000
set_option maxHeartbeats 16000000
structure qm (W X:World) (gb gi tb n tc mb mn mc:Nat) (bad:Bool) (ts:List zw) (mem:List Int) (bs:List Value) (vY:List Value):Prop where
 own:qp W X gb (.slice (some ⟨tb,0,none⟩) n tc) (.slice (some ⟨mb,0,none⟩) mn mc) bad ts mem bs
 instr:X.heap[gi]? =some (.cells vY.toArray 64 (0,0))
 g1:gi≠gb
 g2:gi≠tb
 g3:gi≠mb
theorem qm.below {W X X':World} {gb gi tb n tc mb mn mc:Nat} {bad:Bool} {ts:List zw} {mem:List Int} {bs vY:List Value} (h:qm W X gb gi tb n tc mb mn mc bad ts mem bs vY) (hb:Below X.heap.size X X'):qm W X' gb gi tb n tc mb mn mc bad ts mem bs vY:=
 ⟨h.own.later hb,(hb.block _ (zJ h.instr)).trans h.instr,h.g1,h.g2,h.g3⟩
theorem qm.thread {W X:World} {gb gi tb n tc mb mn mc:Nat} {bad:Bool} {ts:List zw} {mem:List Int} {bs vY:List Value} (h:qm W X gb gi tb n tc mb mn mc bad ts mem bs vY) {i k:Nat} (hi:i<ts.length) (hk:k<6) {t:zw} {b u:Value}
  (hc:t.cells b=((ts.getD i default).cells (bs.getD i (.slice none 0 0))).set k u) (hr:t.regs.length=4) (hb:X.ownsRow W.heap.size 50 2 b t.buf.length (zq zn.cells t.buf)) (hn:∀k,b.ownBlock=some k->k≠tb/\k≠mb/\k≠gb)
  (hd:∀k,b.ownBlock=some k->∀j,j<ts.length->j≠i->(bs.getD j (.slice none 0 0)).ownBlock≠some k):
  qm W (X.setCell ⟨tb,i*6+k,none⟩ u) gb gi tb n tc mb mn mc bad (ts.set i t) mem (bs.set i b) vY:=
 ⟨h.own.thread hi hk hc hr hb (fun k hk=>⟨(hn k hk).1,fun e=>(hn k hk).2.1 (by simpa [Value.ownBlock] using e.symm),(hn k hk).2.2⟩) hd,(Below.heap_setCell _ _ _ _ h.g2).trans h.instr,h.g1,h.g2,h.g3⟩
theorem qm.mem {W X:World} {gb gi tb n tc mb mn mc:Nat} {bad:Bool} {ts:List zw} {mem:List Int} {bs vY:List Value} (h:qm W X gb gi tb n tc mb mn mc bad ts mem bs vY) (j:Nat) (x:Int):
  qm W (X.setCell ⟨mb,j,none⟩ (.int .i64 x)) gb gi tb n tc mb mn mc bad ts (mem.set j x) bs vY:=
 ⟨h.own.mem j x,(Below.heap_setCell _ _ _ _ h.g3).trans h.instr,h.g1,h.g2,h.g3⟩
theorem qm.isBad {W X:World} {gb gi tb n tc mb mn mc:Nat} {bad:Bool} {ts:List zw} {mem:List Int} {bs vY:List Value} (h:qm W X gb gi tb n tc mb mn mc bad ts mem bs vY) (b:Bool):
  qm W (X.setCell ⟨gb,2,none⟩ (.bool b)) gb gi tb n tc mb mn mc b ts mem bs vY:=
 ⟨h.own.isBad b,(Below.heap_setCell _ _ _ _ h.g1).trans h.instr,h.g1,h.g2,h.g3⟩
theorem qm.zj0 {W X:World} {gb gi tb n tc mb mn mc:Nat} {bad:Bool} {ts:List zw} {mem:List Int} {bs vY:List Value} (h:qm W X gb gi tb n tc mb mn mc bad ts mem bs vY) {i:Nat} (hi:i<ts.length):
  ∀k u,k<6->((ts.getD i default).cells (bs.getD i (.slice none 0 0)))[k]? =some u->X.cell? ⟨tb,i*6+k,none⟩=some u/\X.frozen? ⟨tb,i*6+k,none⟩=false:=by
 obtain⟨tb',tc',e, -,h2⟩:=h.own.threads hi
 cases e
 exact h2
theorem qm.zf7 {W X:World} {gb gi tb n tc mb mn mc:Nat} {bad:Bool} {ts:List zw} {mem:List Int} {bs vY:List Value} (h:qm W X gb gi tb n tc mb mn mc bad ts mem bs vY) {j:Nat} (hj:j<mem.length):
  X.cell? ⟨mb,j,none⟩=some (.int .i64 (mem.getD j 0))/\X.frozen? ⟨mb,j,none⟩=false:=by
 obtain⟨mb',mc',e, -,h2⟩:=h.own.vars (by omega)
 cases e
 exact h2 j hj
theorem qm.buf {W X:World} {gb gi tb n tc mb mn mc:Nat} {bad:Bool} {ts:List zw} {mem:List Int} {bs vY:List Value} (h:qm W X gb gi tb n tc mb mn mc bad ts mem bs vY) {i:Nat} (hi:i<ts.length):
  X.ownsRow W.heap.size 50 2 (bs.getD i (.slice none 0 0)) (ts.getD i default).buf.length (zq zn.cells (ts.getD i default).buf)/\∀k,(bs.getD i (.slice none 0 0)).ownBlock=some k->k≠tb/\k≠mb/\k≠gb:=
 ⟨h.own.own.buf i hi,fun k hk=>⟨fun e=>(h.own.own.ne i hi k hk).1 (by rw [e];rfl),fun e=>(h.own.own.ne i hi k hk).2 (by rw [e];rfl),fun e=>h.own.n3 i hi (e ▸ hk)⟩⟩
theorem qm.dist {W X:World} {gb gi tb n tc mb mn mc:Nat} {bad:Bool} {ts:List zw} {mem:List Int} {bs vY:List Value} (h:qm W X gb gi tb n tc mb mn mc bad ts mem bs vY) {i:Nat} (hi:i<ts.length):
  ∀k,(bs.getD i (.slice none 0 0)).ownBlock=some k->∀j,j<ts.length->j≠i->(bs.getD j (.slice none 0 0)).ownBlock≠some k:=fun k hk j hj hji=>h.own.own.one i j hi hj (fun e=>hji e.symm) k hk
theorem qm.set {W X:World} {gb gi tb n tc mb mn mc:Nat} {bad:Bool} {ts:List zw} {mem:List Int} {bs vY:List Value} (h:qm W X gb gi tb n tc mb mn mc bad ts mem bs vY) {i k:Nat} (hi:i<ts.length) (hk:k<6) {t t':zw} {b u:Value}
  (ht:ts.getD i default=t) (hbs:bs.getD i (.slice none 0 0)=b) (hc:t'.cells b=(t.cells b).set k u) (hr:t'.regs.length=4) (hbf:t'.buf=t.buf):
  qm W (X.setCell ⟨tb,i*6+k,none⟩ u) gb gi tb n tc mb mn mc bad (ts.set i t') mem (bs.set i b) vY/\(ts.set i t').getD i default=t'/\(bs.set i b).getD i (.slice none 0 0)=b/\i<(ts.set i t').length:=by
 have hl:=h.own.own.len
 have hB:=h.buf hi
 rw [ht,hbs] at hB
 refine⟨h.thread hi hk (by rw [ht,hbs];exact hc) hr (by rw [hbf];exact hB.1) hB.2 (by have:=h.dist hi;rw [hbs] at this;exact this),by rw [xZ hi,if_pos rfl],by rw [xZ (by rw [hl];exact hi),if_pos rfl],by rw [List.length_set];exact hi⟩
theorem qm.kR {W X:World} {gb gi tb n tc mb mn mc:Nat} {bad:Bool} {ts:List zw} {mem:List Int} {bs vY:List Value} (h:qm W X gb gi tb n tc mb mn mc bad ts mem bs vY) {i:Nat} (hi:i<ts.length) {t:zw} {b:Value}
  (ht:ts.getD i default=t) (hbs:bs.getD i (.slice none 0 0)=b):∀k u,k<6->(t.cells b)[k]? =some u->X.cell? ⟨tb,i*6+k,none⟩=some u/\X.frozen? ⟨tb,i*6+k,none⟩=false:=by
 have:=h.zj0 hi
 rw [ht,hbs] at this
 exact this
theorem bS {pc r0 r1 r2 r3 v:Int} {bf:List zn} {b:Value} {k:Nat} (hk:k<4):(⟨pc, [r0,r1,r2,r3].set k v,bf⟩:zw).cells b=((⟨pc, [r0,r1,r2,r3],bf⟩:zw).cells b).set (1+k) (.int .i64 v):=by
 have:k=0\/k=1\/k=2\/k=3:=by omega
 rcases this with rfl|rfl|rfl|rfl<;>rfl
theorem zbn {pc r0 r1 r2 r3:Int} {bf:List zn} {b:Value} {k:Nat} (hk:k<4):((⟨pc, [r0,r1,r2,r3],bf⟩:zw).cells b)[1+k]? =some (.int .i64 ([r0,r1,r2,r3].getD k 0)):=by
 have:k=0\/k=1\/k=2\/k=3:=by omega
 rcases this with rfl|rfl|rfl|rfl<;>rfl
theorem zmg {pc r0 r1 r2 r3:Int} {bf:List zn} {b:Value} {k:Nat} (hk:k<4):((⟨pc, [r0,r1,r2,r3].set k 0,bf⟩:zw).cells b)[1+k]? =some (.int .i64 ([0,0,0,0].getD k 0)):=by
 have:k=0\/k=1\/k=2\/k=3:=by omega
 rcases this with rfl|rfl|rfl|rfl<;>rfl
theorem zh4 {pc r0 r1 r2 r3:Int} {bf:List zn} {b:Value} {k:Nat} (hk:k<4):(⟨pc, [r0,r1,r2,r3].set k 1,bf⟩:zw).cells b=((⟨pc, [r0,r1,r2,r3].set k 0,bf⟩:zw).cells b).set (1+k) (.int .i64 1):=by
 have:k=0\/k=1\/k=2\/k=3:=by omega
 rcases this with rfl|rfl|rfl|rfl<;>rfl
theorem jH {R:Option zu} {xa ya:Option Addr} {xn xc yn yc B:Nat} {b:Bool} {X:World} (h:R=none):∃xa' xn' xc' ya' yn' yc' s',Ending.returned (.tuple #[.agg #[.slice xa xn xc, .slice ya yn yc, .bool b], .bool false])= .returned (.tuple #[zW s' (.slice xa' xn' xc') (.slice ya' yn' yc'), .bool R.isSome])/\∀t,R=some t->s'=t/\∃bs,OwnAt B X (.slice xa' xn' xc') (.slice ya' yn' yc') t.threads t.mem bs:=
 ⟨xa,xn,xc,ya,yn,yc,⟨[], [],b⟩,by rw [h];rfl,fun t e=>by rw [h] at e;cases e⟩
theorem xM {R:Option zu} {xa ya:Option Addr} {xn xc yn yc B:Nat} {s:zu} {bs:List Value} {X:World} (h:R=some s) (hs:OwnAt B X (.slice xa xn xc) (.slice ya yn yc) s.threads s.mem bs):∃xa' xn' xc' ya' yn' yc' s',Ending.returned (.tuple #[.agg #[.slice xa xn xc, .slice ya yn yc, .bool s.bad], .bool true])= .returned (.tuple #[zW s' (.slice xa' xn' xc') (.slice ya' yn' yc'), .bool R.isSome])/\∀t,R=some t->s'=t/\∃bs,OwnAt B X (.slice xa' xn' xc') (.slice ya' yn' yc') t.threads t.mem bs:=
 ⟨xa,xn,xc,ya,yn,yc,s,by rw [h];rfl,fun t e=>by rw [h] at e;cases e;exact⟨rfl,bs,hs⟩⟩
theorem vK.zrJ {e t:TypeId} {size:Nat} {V X:World} {v:Value} {n:Nat} {xs:List Value} {bs:List (Nat × List Value)} (h:vK e size t V X v n xs bs) {g:Nat} {cs:List Value} (hb:(g,cs)∈bs) (l:List Value) (hl:cs.length=l.length):
  Below V.heap.size V (zU X g 0 l)/\(zU X g 0 l).heap[g]? =some (.cells l.toArray t (0,0))/\V.heap.size<=g:=by
 obtain⟨h1, -,h3⟩:=h.news _ hb
 exact⟨h.below.trans ((xK l X 0).below h.below.size (fun k e=>by omega)),qX l hl h1,h3⟩
theorem zgv (w:World) (c:zS) (cv:Value) (d:Nat) (hc:yF d w cv c.threads) (m:zM) (s:zu) (sv mv:Value) (hs:zN w s sv mv) (hfit:xX c m s=true) (i:Nat) (hi:i<s.threads.length) (hb:∀j,j<s.threads.length->(s.threads.getD j default).buf.length<=100000):
  Calls Tryz.prog 62 #[yD c cv,yR m,zW s sv mv, .int .i64 i] w fun e w'=>(∃xa xn xc ya yn yc s',e= .returned (.tuple #[zW s' (.slice xa xn xc) (.slice ya yn yc), .bool (vW c m s i d).isSome])/\∀t,vW c m s i d=some t->s'=t/\∃bs,OwnAt w.heap.size w' (.slice xa xn xc) (.slice ya yn yc) t.threads t.mem bs)/\Below w.heap.size w w':=by
 obtain⟨hcode,hmay,hlen,hmem,zgE⟩:=gM hfit
 have hbd:=qP hcode
 obtain⟨zcf,zgF⟩:=zgE i hi
 have hins:=fun k (hk:k<(c.threads.getD i []).length)=>zdQ hcode (i:=i) (k:=k) (by rw [<-hlen];exact hi) hk
 clear hcode hmay zgE hfit
 obtain⟨ca,cc,rfl, -⟩:=zl.slice hc
 obtain⟨ta,xB,rfl, -⟩:=zl.slice hs.threads
 obtain⟨ma,yZ,rfl, -⟩:=zl.slice hs.mem
 have hown:=fun W hW=>zhB W s (.slice ta s.threads.length xB) (.slice ma s.mem.length yZ) hW (by omega) (by omega) (fun j hj=>by have:=hb j hj;omega)
 obtain⟨R,hR⟩:∃R,R=vW c m s i d:=⟨_,rfl⟩
 rw [<-hR]
 obtain⟨l,hl⟩:∃l,l=c.threads.getD i [] :=⟨_,rfl⟩
 obtain⟨t,ht⟩:∃t,t=s.threads.getD i default:=⟨_,rfl⟩
 have hR2:R=if t.pc<(l.length:Int) then(stepT c m s t (l.getD t.pc.toNat default) d).map (fun r=>⟨s.threads.set i r.1,r.2.1,r.2.2⟩) else none:=by rw [hR,hl,ht];rfl
 rw [<-ht] at zcf zgF
 rw [<-hl] at zgF hins
 have HST:Hid (∀x,stepT c m s t x d=stepT c m s t x d):=fun _=>rfl
 obtain⟨C,hC⟩:∃C,C=c:=⟨_,rfl⟩
 obtain⟨M,hM⟩:∃M,M=m:=⟨_,rfl⟩
 obtain⟨S,hS⟩:∃S,S=s:=⟨_,rfl⟩
 rw [<-hC, <-hM, <-hS] at hR2
 clear HST
 have HRR:=qh hR2
 have hT:=hs.threads
 have hME:=hs.mem
 obtain⟨vars,dom,cs⟩:=c
 obtain⟨mod,bnd⟩:=m
 obtain⟨ts,mem,bad⟩:=s
 simp only [] at hc hs hi hb hlen hmem hbd hl ht hT hME hown hins zcf zgF hR2 ⊢
 unfold yD yR zW
 unfold zW at hown
 simp only [] at hown ⊢
 obtain⟨n,hn⟩:∃n,n=ts.length:=⟨_,rfl⟩
 obtain⟨cn,hcn⟩:∃cn,cn=cs.length:=⟨_,rfl⟩
 obtain⟨mn,hmn⟩:∃mn,mn=mem.length:=⟨_,rfl⟩
 rw [<-hn] at hT hown hi hb hlen ⊢
 rw [<-hmn] at hME hown hmem ⊢
 rw [<-hcn] at hc hlen hbd ⊢
 rw [<-hn, <-hmn] at hs
 have kZ:=qh hlen
 have HME:=qh hmem
 have HC:=qh hC
 have HM:=qh hM
 have HS:=qh hS
 have HL:=qh hl
 have HT:=qh ht
 have HN:=qh hn
 have pJ:=qh hcn
 have vH:=qh hmn
 have bC:=qh hb
 have zj1:=qh hins
 have HOWN:=qh hown
 have hB4:=kM w (.cells #[.int .i64 vars, .int .i64 dom, .slice ca cn cc] 24) (.cells #[.int .i64 mod, .int .i64 bnd] 26) (.cells #[.slice ta n xB, .slice ma mn yZ, .bool bad] 30) (.cells #[.slice none 0 0, .slice none 0 0, .bool false] 30)
 obtain⟨hB,h1,h2,h3,h4,h5⟩:=hB4
 have HB:=qh hB
 have H1:=qh h1
 have H2:=qh h2
 have H3:=qh h3
 have H4:=qh h4
 have H5:=qh h5
 have ug:=qh (zl.below (xu.stays d) hc hB)
 have HSW:=qh (zN.below hs hB)
 have zbg:=qh (zl.below jY.stays hME hB)
 have z3L:=qh hME
 have z3M:=qh h5
 clear hlen hmem hC hM hS hl ht hn hcn hmn hb hins hown hB h1 h2 h3 h4 h5 hT hME hc hs hR hR2
 go_enter Tryz.func62,Tryz.ntmps62
 go_upto_region 1 with fail
 generalize World.alloc (World.alloc (World.alloc (World.alloc w _) _) _) _=W at HB H1 H2 H3 H4 H5 ug HSW zbg z3M ⊢
 obtain⟨gx,hgx⟩:∃gx,gx=w.heap.size:=⟨_,rfl⟩
 rw [<-hgx] at H1 H2 H3 H4 H5 ⊢
 have xO:=qh hgx
 clear hgx
 have yJ:Hid (∀x,Below W.heap.size W x->x.cell? ⟨gx,0,none⟩=some (.int .i64 vars)/\x.cell? ⟨gx,1,none⟩=some (.int .i64 dom)/\x.cell? ⟨gx,2,none⟩=some (.slice ca cn cc)/\
   x.cell? ⟨gx+1,0,none⟩=some (.int .i64 mod)/\x.cell? ⟨gx+1,1,none⟩=some (.int .i64 bnd)/\x.cell? ⟨gx+2,0,none⟩=some (.slice ta n xB)/\x.cell? ⟨gx+2,1,none⟩=some (.slice ma mn yZ)/\x.cell? ⟨gx+2,2,none⟩=some (.bool bad)):=fun x hx=>
  ⟨zm hx _ _ (zh H1.out 0),zm hx _ _ (zh H1.out 1),zm hx _ _ (zh H1.out 2),zm hx _ _ (zh H2.out 0),zm hx _ _ (zh H2.out 1),zm hx _ _ (zh H3.out 0),zm hx _ _ (zh H3.out 1),zm hx _ _ (zh H3.out 2)⟩
 obtain⟨c0,c1,c2,c3,c4,c5,c6,c7⟩:=yJ.out W (Below.refl _ _)
 go_upto_region 2 with(go_at_call 64;refine(HOWN.out W HSW.out).mono ?_;rintro e W1 ⟨⟨tv1,mv1,bs,rfl,ho1⟩,hb1⟩;have HO1:=qh ho1;have HB1:=qh hb1;obtain⟨xa,xc,rfl, -, -⟩:=qz ho1.row;obtain⟨ya,yc,rfl, -, -⟩:=qz ho1.mem;clear ho1 hb1)
 rw [<-HN.out, <-vH.out]
 have zCp:1<=vars:=hbd.1
 have zA3:2<=dom:=hbd.2.2.1
 have zA4:dom<=16:=hbd.2.2.2.1
 have hn4:n<=4:=by have:=hbd.2.2.2.2.2;have:=kZ.out;omega
 have z2X:mn<=4/\1<=mn:=by have:=hbd.2.1;have:=HME.out;omega
 clear c0 c1 c2 c3 c4 c5 c6 c7 hbd
 have hol:=qp.zl9 HO1.out HB1.out bad
 rw [<-HN.out, <-vH.out] at hol
 have HOL:=qh hol
 clear hol
 generalize World.alloc W1 _=X0 at HOL ⊢
 obtain⟨gb,hgb⟩:∃gb,gb=W1.heap.size:=⟨_,rfl⟩
 rw [<-hgb] at HOL ⊢
 clear hgb HO1 HB1 HOWN
 obtain⟨tb,tc,hxa, -,htc⟩:=HOL.out.threads (by rw [<-HN.out];exact hi)
 rw [<-HN.out] at hxa
 cases hxa
 obtain⟨mb,mc,hya, -,hmc⟩:=HOL.out.vars (by rw [<-vH.out];omega)
 rw [<-vH.out] at hya
 cases hya
 have hr4:=HOL.out.own.regs i (by rw [<-HN.out];exact hi)
 obtain⟨bv,hbv⟩:∃bv,bv=bs.getD i (.slice none 0 0):=⟨_,rfl⟩
 have hbuf:=(HOL.out.own.buf i (by rw [<-HN.out];exact hi))
 have hbl:=bC.out i hi
 rw [<-HT.out] at hr4 htc hbuf hbl
 rw [<-hbv] at htc hbuf
 obtain⟨ba,bc,rfl, -, -⟩:=qz hbuf
 obtain⟨pc,rg,bf⟩:=t
 obtain⟨r0,r1,r2,r3,rfl⟩:=vT hr4
 simp only [] at zcf zgF htc hbuf hbl HRR
 obtain⟨bl,vw⟩:∃bl,bl=bf.length:=⟨_,rfl⟩
 rw [<-vw] at htc hbuf hbl hbv
 obtain⟨xQ,rfl⟩:∃xQ:Nat,pc=xQ:=⟨pc.toNat,by omega⟩
 have vD:=qh vw
 have HBV:=qh hbv
 have HTC:Hid (∀k u,k<6-> [Value.int .i64 xQ, .int .i64 r0, .int .i64 r1, .int .i64 r2, .int .i64 r3, .slice ba bl bc][k]? =some u->X0.cell? ⟨tb,i*6+k,none⟩=some u/\X0.frozen? ⟨tb,i*6+k,none⟩=false):=by
  have e:(⟨(xQ:Int), [r0,r1,r2,r3],bf⟩:zw).cells (.slice ba bl bc)= [Value.int .i64 xQ, .int .i64 r0, .int .i64 r1, .int .i64 r2, .int .i64 r3, .slice ba bl bc] :=rfl
  rw [<-e];exact htc
 clear vw hbv hbuf htc hr4 hmc zcf
 obtain⟨ln,hln⟩:∃ln,ln=l.length:=⟨_,rfl⟩
 rw [<-hln] at zgF HRR
 obtain⟨eb,eo,ka,kc,yw, -,uQ,hel⟩:=yF.part ug.out i (by rw [<-pJ.out, <-kZ.out];exact hi)
 rw [<-HL.out, <-hln] at uQ hel
 subst yw
 have zoE:=qh hln
 clear hln
 have HEL:=qh hel
 have HEC:Hid (∀x,Below W.heap.size W x->x.cell? ⟨eb,eo+i,none⟩=some (.slice ka ln kc)):=fun x hx=>zm hx _ _ uQ
 clear hel uQ
 have zCq:(i:Int)<(cn:Int):=by have:=kZ.out;omega
 obtain⟨c0,c1,c2,c3,c4,c5,c6,c7⟩:=yJ.out X0 HOL.out.below
 have e0:=HEC.out X0 HOL.out.below
 have t0:=(HTC.out 0 _ (by omega) rfl).1
 rw [Nat.add_zero] at t0
 have b0:=zh HOL.out.box 0
 by_cases hp:xQ<ln
 rotate_left
 ·have hpN:(ln:Int)<=(xQ:Int):=by omega
  have hres:R=none:=by rw [HRR.out,if_neg (by omega)]
  have zD:=qh hres
  clear hres
  go_upto_region 3 with fail
  go_quiet (fail)
  go_upto_region 4 with fail
  generalize hX9:World.drewN X0 _=X9
  have hb9:Below X0.heap.size X0 X9:=by rw [<-hX9];exact zQ (Below.refl _ _) _
  clear hX9 c0 c1 c2 c3 c4 c5 c6 c7 e0 t0 b0
  have hbw:=zB HOL.out.below hb9
  have vk:=qh hbw
  obtain⟨c0,c1,c2,c3,c4,c5,c6,c7⟩:=yJ.out X9 hbw
  have hr:=(hbw.block _ (zJ H4.out)).trans H4.out
  have q0:=zh hr 0
  have q1:=zh hr 1
  have q2:=zh hr 2
  have f0:=zK hr 0
  have f1:=zK hr 1
  have f2:=zK hr 2
  have hset:=zx (zx (zx hr 0 (.slice ta n xB)) 1 (.slice ma mn yZ)) 2 (.bool bad)
  simp only [List.setIfInBounds_toArray,List.set_cons_zero,List.set_cons_succ] at hset
  have hS:Since (fun k=>k=gx+3) X9 (((X9.setCell ⟨gx+3,0,none⟩ (.slice ta n xB)).setCell ⟨gx+3,1,none⟩ (.slice ma mn yZ)).setCell ⟨gx+3,2,none⟩ (.bool bad)):=Since.setCell (F:=fun k=>k=gx+3) (p:=⟨gx+3,2,none⟩) (Since.setCell (F:=fun k=>k=gx+3) (p:=⟨gx+3,1,none⟩) (Since.setCell (F:=fun k=>k=gx+3) (p:=⟨gx+3,0,none⟩) (Since.refl _ X9) (.inl rfl) _) (.inl rfl) _) (.inl rfl) _
  have zI:=qh hset
  have yY:=qh hS
  clear hr hset hS hb9 hbw
  go_wp2_with fail
  (try simp only [Exit.inBlock,Exit.then])
  refine bodyPost_ret (zy rfl _ _ (gx+3) 30 _ (0,0) _ rfl zI.out Tryz.underlying30 rfl zC) rfl ?_
  exact⟨jH zD.out,(HB.out.trans (vk.out.mono HB.out.size)).trans (yY.out.below (by have:=HB.out.size;have:=vk.out.size;omega) (fun k e=>by have:=xO.out;omega))⟩
 have hpI:(xQ:Int)<(ln:Int):=by omega
 have hpN:¬(ln:Int)<=(xQ:Int):=by omega
 go_upto_region 3 with fail
 go_quiet (fail)
 go_upto_region 5 with fail
 generalize hX9:World.drewN X0 _=X9
 have hb9:Below X0.heap.size X0 X9:=by rw [<-hX9];exact zQ (Below.refl _ _) _
 clear hX9 c0 c1 c2 c3 c4 c5 c6 c7 e0 t0 b0
 have zdi:=qh (HOL.out.later hb9)
 have ze2:Hid (∀k u,k<6-> [Value.int .i64 xQ, .int .i64 r0, .int .i64 r1, .int .i64 r2, .int .i64 r3, .slice ba bl bc][k]? =some u->∀x,Below X9.heap.size X9 x->x.cell? ⟨tb,i*6+k,none⟩=some u):=fun k u hk hu x hx=>zm (zB hb9 hx) _ _ (HTC.out k u hk hu).1
 clear HTC
 have vk:=qh hb9
 clear hb9
 obtain⟨fb,fo,aa,ac,xba,xbc,hka, -,⟨x0,x1,x2⟩,⟨x3,x4,x5,x6⟩,⟨x7,x8,x9,x10⟩,wh,xa,xb⟩:=vQ.part HEL.out xQ (by rw [<-zoE.out];exact hp)
 subst hka
 obtain⟨x,hx⟩:∃x,x=l.getD xQ default:=⟨_,rfl⟩
 rw [<-hx] at x0 x1 x2 x3 x4 x5 x6 x7 x8 x9 x10 wh xa xb
 have hins:=zj1.out xQ (by rw [<-zoE.out];exact hp)
 rw [<-hx, <-zoE.out] at hins
 obtain⟨zCr,hrg0,bB,z3N,zu5⟩:=hins
 rw [<-HME.out] at zu5
 have hr5:=HRR.out
 rw [if_pos hpI,show((xQ:Int)).toNat=xQ from rfl, <-hx] at hr5
 have HR5:=qh hr5
 clear hr5 HRR zj1 hx
 obtain⟨op,hop⟩:∃v,v=x.op:=⟨_,rfl⟩
 obtain⟨vS,zoF⟩:∃v:Nat,(v:Int)=x.reg:=⟨x.reg.toNat,by omega⟩
 obtain⟨q8,zoG⟩:∃v:Nat,(v:Int)=x.var:=⟨x.var.toNat,by omega⟩
 obtain⟨dst,hdst⟩:∃v,v=x.dest:=⟨_,rfl⟩
 obtain⟨ak,hak⟩:∃v,v=x.a.kind:=⟨_,rfl⟩
 obtain⟨an,han⟩:∃v,v=x.a.n:=⟨_,rfl⟩
 obtain⟨ao,hao⟩:∃v,v=x.a.op:=⟨_,rfl⟩
 obtain⟨al,hal⟩:∃v,v=x.a.kids.length:=⟨_,rfl⟩
 obtain⟨bk,hbk⟩:∃v,v=x.b.kind:=⟨_,rfl⟩
 obtain⟨bn,hbn⟩:∃v,v=x.b.n:=⟨_,rfl⟩
 obtain⟨bo,hbo⟩:∃v,v=x.b.op:=⟨_,rfl⟩
 obtain⟨bkl,zoH⟩:∃v,v=x.b.kids.length:=⟨_,rfl⟩
 obtain⟨A,hA⟩:∃v,v=zZ [r0,r1,r2,r3] dom d x.a:=⟨_,rfl⟩
 obtain⟨B,hBB⟩:∃v,v=zZ [r0,r1,r2,r3] dom d x.b:=⟨_,rfl⟩
 have zu7:Hid (∀X,Below W.heap.size W X->Calls Tryz.prog 90 #[.agg #[.int .i64 ak, .int .i64 an, .int .u8 ao, .slice aa al ac], .agg #[.int .i64 r0, .int .i64 r1, .int .i64 r2, .int .i64 r3], .int .i64 dom] X fun e w'=>e= .returned (.int .i64 A)/\Below X.heap.size X w'):=fun X hX=>by
  rw [hak,han,hao,hal,hA];exact zfN r0 r1 r2 r3 dom (by omega) (by omega) d X x.a _ (xa.below hX)
 have zu8:Hid (∀X,Below W.heap.size W X->Calls Tryz.prog 90 #[.agg #[.int .i64 bk, .int .i64 bn, .int .u8 bo, .slice xba bkl xbc], .agg #[.int .i64 r0, .int .i64 r1, .int .i64 r2, .int .i64 r3], .int .i64 dom] X fun e w'=>e= .returned (.int .i64 B)/\Below X.heap.size X w'):=fun X hX=>by
  rw [hbk,hbn,hbo,zoH,hBB];exact zfN r0 r1 r2 r3 dom (by omega) (by omega) d X x.b _ (xb.below hX)
 rw [<-hop] at x0
 rw [<-zoF] at x1 bB
 have bB:vS<4:=by omega
 rw [<-zoG] at x2 zu5
 rw [<-hak] at x3
 rw [<-han] at x4
 rw [<-hao] at x5
 rw [<-hal] at x6
 rw [<-hbk] at x7
 rw [<-hbn] at x8
 rw [<-hbo] at x9
 rw [<-zoH] at x10
 rw [<-hdst] at wh
 have yQ:=qh hop
 have HRG:=qh zoF
 have pW:=qh zoG
 have HDS:=qh hdst
 have HA:=qh hA
 have yg:=qh hBB
 clear hop zoF zoG hdst hak han hao hal hbk hbn hbo zoH hA hBB xa xb hrg0 z3N
 have C5:Hid (∀y,Below X9.heap.size X9 y->y.cell? ⟨gx,2,none⟩=some (.slice (some ⟨eb,eo,none⟩) cn cc)/\y.cell? ⟨eb,eo+i,none⟩=some (.slice (some ⟨fb,fo,none⟩) ln kc)/\y.cell? ⟨tb,i*6,none⟩=some (.int .i64 xQ)/\
   y.cell? ⟨fb,fo+xQ*12,none⟩=some (.int .i64 op)/\y.cell? ⟨fb,fo+xQ*12+1,none⟩=some (.int .i64 vS)/\y.cell? ⟨fb,fo+xQ*12+2,none⟩=some (.int .i64 q8)/\
   y.cell? ⟨fb,fo+xQ*12+3,none⟩=some (.int .i64 ak)/\y.cell? ⟨fb,fo+xQ*12+4,none⟩=some (.int .i64 an)/\y.cell? ⟨fb,fo+xQ*12+5,none⟩=some (.int .u8 ao)/\y.cell? ⟨fb,fo+xQ*12+6,none⟩=some (.slice aa al ac)/\
   y.cell? ⟨fb,fo+xQ*12+7,none⟩=some (.int .i64 bk)/\y.cell? ⟨fb,fo+xQ*12+8,none⟩=some (.int .i64 bn)/\y.cell? ⟨fb,fo+xQ*12+9,none⟩=some (.int .u8 bo)/\y.cell? ⟨fb,fo+xQ*12+10,none⟩=some (.slice xba bkl xbc)/\y.cell? ⟨fb,fo+xQ*12+11,none⟩=some (.int .i64 dst)):=fun y hy=>
  have hw:=zB zdi.out.below hy
  have k2:=fun p v h=>zm hw p v h
  ⟨(yJ.out y hw).2.2.1,HEC.out y hw,ze2.out 0 _ (by omega) rfl y hy,k2 _ _ x0,k2 _ _ x1,k2 _ _ x2,k2 _ _ x3,k2 _ _ x4,k2 _ _ x5,k2 _ _ x6,k2 _ _ x7,k2 _ _ x8,k2 _ _ x9,k2 _ _ x10,k2 _ _ wh⟩
 clear x0 x1 x2 x3 x4 x5 x6 x7 x8 x9 x10 wh
 have h0:=vK.start 3 1 64 X9
 have hT0:=qh h0.drew
 clear h0
 refine wp_region_noPanic ?_
 refine wp_region_held_drew (S:=fun x=>Below X9.heap.size X9 x) (by kernel_rfl) (Below.refl _ _).drew (fun _=> ?_)
 obtain⟨wd,hwd⟩:∃wd,wd=X9.drew:=⟨_,rfl⟩
 rw [<-hwd] at hT0 ⊢
 clear hwd
 refine zA 0 38 ?zCs rfl ?zxU (hT0.out.below) ?_
 case zxU=>(intro _ _;go_simp<;>rfl)
 simp only [Act.put,za,ze,zf]
 refine zA 1 39 ?zCt rfl ?zxV (hT0.out.below) ?_
 case zxV=>(intro x h;have e:=C5.out x h;go_simp<;>rfl)
 simp only [Act.put,za,ze,zf]
 refine zA 2 40 ?zCu rfl ?zxW (hT0.out.below) ?_
 case zxW=>(intro _ _;go_simp<;>rfl)
 simp only [Act.put,za,ze,zf]
 refine zA 3 41 ?zCv rfl ?zxX (hT0.out.below) ?_
 case zxX=>(intro _ _;go_simp<;>rfl)
 simp only [Act.put,za,ze,zf]
 refine zA 4 42 ?zCw rfl ?zxY (hT0.out.below) ?_
 case zxY=>(intro x h;have e:=C5.out x h;go_simp<;>rfl)
 simp only [Act.put,za,ze,zf]
 refine zA 5 43 ?zCx rfl ?zxZ (hT0.out.below) ?_
 case zxZ=>(intro _ _;go_simp<;>rfl)
 simp only [Act.put,za,ze,zf]
 refine zA 6 44 ?zCy rfl ?zya (hT0.out.below) ?_
 case zya=>(intro _ _;go_simp<;>rfl)
 simp only [Act.put,za,ze,zf]
 refine zA 7 45 ?zCz rfl ?zyb (hT0.out.below) ?_
 case zyb=>(intro _ _;go_simp<;>rfl)
 simp only [Act.put,za,ze,zf]
 refine zA 8 46 ?zC0 rfl ?zyc (hT0.out.below) ?_
 case zyc=>(intro x h;have e:=C5.out x h;go_simp<;>rfl)
 simp only [Act.put,za,ze,zf]
 refine zA 9 47 ?zC1 rfl ?zyd (hT0.out.below) ?_
 case zyd=>(intro _ _;go_simp<;>rfl)
 simp only [Act.put,za,ze,zf]
 refine zA 10 48 ?zC2 rfl ?zye (hT0.out.below) ?_
 case zye=>(intro x h;have e:=C5.out x h;go_simp<;>rfl)
 simp only [Act.put,za,ze,zf]
 refine zT 11 rfl (fun K hK=> ?_)
 go_simp
 have qx:=hT0.out.alloc [.int .i64 0, .int .i64 0, .int .i64 0, .int .i64 0, .int .i64 0, .int .u8 0, .slice none 0 0, .int .i64 0, .int .i64 0, .int .u8 0, .slice none 0 0, .int .i64 0]
 refine hK.out _ _ qx.below (fun _=> ?_)
 obtain⟨gi,hgi⟩:∃n,n=wd.heap.size:=⟨_,rfl⟩
 rw [<-hgi] at qx ⊢
 clear hgi
 generalize World.alloc wd _=Xq2 at qx ⊢
 replace qx:=qh qx
 clear hK K
 refine zT 12 rfl (fun K hK=> ?_)
 have hb1:=qx.out.zrJ (g:=gi) (cs:= [.int .i64 0, .int .i64 0, .int .i64 0, .int .i64 0, .int .i64 0, .int .u8 0, .slice none 0 0, .int .i64 0, .int .i64 0, .int .u8 0, .slice none 0 0, .int .i64 0]) (by simp) [.int .i64 op, .int .i64 vS, .int .i64 q8, .int .i64 ak, .int .i64 an, .int .u8 ao, .slice aa al ac, .int .i64 bk, .int .i64 bn, .int .u8 bo, .slice xba bkl xbc, .int .i64 dst] rfl
 obtain⟨hn, -, -⟩:=qx.out.news (gi, [.int .i64 0, .int .i64 0, .int .i64 0, .int .i64 0, .int .i64 0, .int .u8 0, .slice none 0 0, .int .i64 0, .int .i64 0, .int .u8 0, .slice none 0 0, .int .i64 0]) (by simp)
 have d0:=zh hn 0
 have f0:=zK hn 0
 have d1:=zh hn 1
 have f1:=zK hn 1
 have d2:=zh hn 2
 have f2:=zK hn 2
 have d3:=zh hn 3
 have f3:=zK hn 3
 have d4:=zh hn 4
 have f4:=zK hn 4
 have d5:=zh hn 5
 have f5:=zK hn 5
 have d6:=zh hn 6
 have f6:=zK hn 6
 have d7:=zh hn 7
 have f7:=zK hn 7
 have d8:=zh hn 8
 have f8:=zK hn 8
 have d9:=zh hn 9
 have f9:=zK hn 9
 have d10:=zh hn 10
 have f10:=zK hn 10
 have d11:=zh hn 11
 have f11:=zK hn 11
 clear hn
 have qF:=qh hb1
 clear hb1
 go_simp
 clear d0 f0 d1 f1 d2 f2 d3 f3 d4 f4 d5 f5 d6 f6 d7 f7 d8 f8 d9 f9 d10 f10 d11 f11
 refine hK.out _ (zU Xq2 gi 0 [.int .i64 op, .int .i64 vS, .int .i64 q8, .int .i64 ak, .int .i64 an, .int .u8 ao, .slice aa al ac, .int .i64 bk, .int .i64 bn, .int .u8 bo, .slice xba bkl xbc, .int .i64 dst]) qF.out.1 (fun _=> ?_)
 generalize zU Xq2 gi 0 _=X1 at qF ⊢
 clear hK K
 refine wpAnyH_done (by kernel_rfl) ?_ _
 refine NoPanic.normal ?_
 have hgi:=qF.out.2.2
 have yG:qm W X1 gb gi tb n xc mb mn yc bad ts mem bs [.int .i64 op, .int .i64 vS, .int .i64 q8, .int .i64 ak, .int .i64 an, .int .u8 ao, .slice aa al ac, .int .i64 bk, .int .i64 bn, .int .u8 bo, .slice xba bkl xbc, .int .i64 dst] :=
  ⟨zdi.out.later qF.out.1,qF.out.2.1,fun e=>by have:=zJ zdi.out.box;omega,fun e=>by have:=(zdi.out.own.row.lt tb rfl).2;omega,fun e=>by have:=(zdi.out.own.mem.lt mb rfl).2;omega⟩
 have zbo:=qh yG
 clear hgi yG C5
 have zoI:Hid (∀y,Below X1.heap.size X1 y->y.cell? ⟨tb,i*6+1,none⟩=some (.int .i64 r0)/\y.cell? ⟨tb,i*6+2,none⟩=some (.int .i64 r1)/\y.cell? ⟨tb,i*6+3,none⟩=some (.int .i64 r2)/\y.cell? ⟨tb,i*6+4,none⟩=some (.int .i64 r3)):=fun y hy=>
  have h:=zB qF.out.1 hy
  ⟨ze2.out 1 _ (by omega) rfl y h,ze2.out 2 _ (by omega) rfl y h,ze2.out 3 _ (by omega) rfl y h,ze2.out 4 _ (by omega) rfl y h⟩
 have HB1:=qh zbo.out.own.below
 have zu9:¬gi=gx+3:=fun e=>by
  have h1:=zJ H4.out
  have h2:=qF.out.2.2
  have h3:=zdi.out.below.size
  omega
 have HGI:=qh zu9
 clear zu9
 go_upto_region 6 with fail
 obtain⟨t1,t2,t3,t4⟩:=zoI.out X1 (Below.refl _ _)
 have z3:=zh zbo.out.instr 3
 have z4:=zh zbo.out.instr 4
 have z5:=zh zbo.out.instr 5
 have z6:=zh zbo.out.instr 6
 have c1:=(yJ.out X1 HB1.out).2.1
 refine wp_region_still_tail 8 (by kernel_rfl) (by kernel_rfl) ?_
 simp only [List.take_succ_cons,List.take_zero,List.drop_succ_cons,List.drop_zero]
 repeat still_step
 try refine wpStill_nil ?_
 change wpList _ _ _ _ _ X1.drew
 obtain⟨wd,hwd⟩:∃wd,wd=X1.drew:=⟨_,rfl⟩
 rw [<-hwd]
 have gZ:Hid (Below X1.heap.size X1 wd):=by rw [Hid,hwd];exact(Below.refl _ _).drew
 clear hwd t1 t2 t3 t4 z3 z4 z5 z6 c1
 go_upto_region 7 with(go_at_call 90;refine(zu7.out wd (zB HB1.out gZ.out)).mono ?_;rintro e X2 ⟨rfl,hb⟩;have HB2:=qh (zB gZ.out hb);clear hb)
 have zar:=qh (zbo.out.below HB2.out)
 clear gZ
 obtain⟨t1,t2,t3,t4⟩:=zoI.out X2 HB2.out
 have z7:=zh zar.out.instr 7
 have z8:=zh zar.out.instr 8
 have z9:=zh zar.out.instr 9
 have z10:=zh zar.out.instr 10
 have c1:=(yJ.out X2 zar.out.own.below).2.1
 refine wp_region_still_tail 8 (by kernel_rfl) (by kernel_rfl) ?_
 simp only [List.take_succ_cons,List.take_zero,List.drop_succ_cons,List.drop_zero]
 repeat still_step
 try refine wpStill_nil ?_
 change wpList _ _ _ _ _ X2.drew
 obtain⟨wd',hwd⟩:∃wd,wd=X2.drew:=⟨_,rfl⟩
 rw [<-hwd]
 have gZ:Hid (Below X2.heap.size X2 wd'):=by rw [Hid,hwd];exact(Below.refl _ _).drew
 clear hwd t1 t2 t3 t4 z7 z8 z9 z10 c1
 go_upto_region 8 with(go_at_call 90;refine(zu8.out wd' (zB zar.out.own.below gZ.out)).mono ?_;rintro e X3 ⟨rfl,hb⟩;have HB3:=qh (zB gZ.out hb);clear hb)
 have jW:=qh (zar.out.below HB3.out)
 clear gZ
 have hin:i<ts.length:=by rw [<-HN.out];exact hi
 have hcl:(ts.getD i default).cells (bs.getD i (.slice none 0 0))= [.int .i64 xQ, .int .i64 r0, .int .i64 r1, .int .i64 r2, .int .i64 r3, .slice ba bl bc] :=by rw [<-HT.out, <-HBV.out];rfl
 have hpc:=jW.out.zj0 hin 0 (.int .i64 xQ) (by omega) (by rw [hcl];rfl)
 rw [Nat.add_zero] at hpc
 obtain⟨t0,f0⟩:=hpc
 have hth:=jW.out.thread hin (k:=0) (by omega) (t:=⟨(xQ:Int)+1, [r0,r1,r2,r3],bf⟩) (b:= .slice ba bl bc) (u:= .int .i64 ((xQ:Int)+1)) (by rw [hcl];rfl) rfl (by have:=(jW.out.buf hin).1;rw [<-HT.out, <-HBV.out] at this;exact this) (by have:=(jW.out.buf hin).2;rw [<-HBV.out] at this;exact this) (by have:=jW.out.dist hin;rw [<-HBV.out] at this;exact this)
 rw [Nat.add_zero] at hth
 have yx:=qh hth
 have HIN:=qh hin
 clear hin hcl hth
 go_upto_region 9 with fail
 clear t0 f0
 generalize World.setCell X3 _ _=X4 at yx ⊢
 clear zbo zar jW zoI ze2 zdi HB1 HB2 HB3 qF vk HOL zu7 zu8 HSW ug HEL HEC bC
 obtain⟨uR,ze3⟩:∃uR,uR=ts.set i ⟨(xQ:Int)+1, [r0,r1,r2,r3],bf⟩:=⟨_,rfl⟩
 obtain⟨bs1,zoJ⟩:∃bs1,bs1=bs.set i (.slice ba bl bc):=⟨_,rfl⟩
 have hlb:bs.length=ts.length:=by have:=yx.out.own.own.len;rw [List.length_set,List.length_set] at this;exact this
 rw [<-ze3, <-zoJ] at yx
 have kS:Hid (uR.getD i default=⟨(xQ:Int)+1, [r0,r1,r2,r3],bf⟩):=by rw [Hid,ze3,xZ HIN.out,if_pos rfl]
 have kT:Hid (bs1.getD i (.slice none 0 0)= .slice ba bl bc):=by rw [Hid,zoJ,xZ (by rw [hlb];exact HIN.out),if_pos rfl]
 have bF:Hid (i<uR.length):=by rw [Hid,ze3,List.length_set];exact HIN.out
 have wW:Hid (∀t',uR.set i t'=ts.set i t'):=fun t'=>by rw [ze3,List.set_set]
 have HT1:Hid (uR=ts.set i ⟨(xQ:Int)+1, [r0,r1,r2,r3],bf⟩):=ze3
 clear ze3 zoJ hlb HT
 have HTC:Hid (∀k u,k<6-> [Value.int .i64 ((xQ:Int)+1), .int .i64 r0, .int .i64 r1, .int .i64 r2, .int .i64 r3, .slice ba bl bc][k]? =some u->X4.cell? ⟨tb,i*6+k,none⟩=some u/\X4.frozen? ⟨tb,i*6+k,none⟩=false):=by
  have h:=yx.out.zj0 bF.out
  rw [kS.out,kT.out] at h
  exact h
 have qW:Hid (R=Option.map (fun r=>(⟨ts.set i r.1,r.2.1,r.2.2⟩:zu)) (stepT ⟨vars,dom,cs⟩ ⟨mod,bnd⟩ ⟨ts,mem,bad⟩ ⟨xQ, [r0,r1,r2,r3],bf⟩ x d)):=by rw [Hid,HR5.out,HC.out,HM.out,HS.out]
 clear HR5 HC HM HS
 have uV:=qh (yx.out.buf bF.out)
 have zY:Hid (∀(X:World) (b':Bool),X.heap[gb]? =some (.cells #[.slice (some ⟨tb,0,none⟩) n xc, .slice (some ⟨mb,0,none⟩) mn yc, .bool b'] 30 (0,0))->Below W.heap.size W X->
   (X.cell? ⟨gb,0,none⟩=some (.slice (some ⟨tb,0,none⟩) n xc)/\X.cell? ⟨gb,1,none⟩=some (.slice (some ⟨mb,0,none⟩) mn yc)/\X.cell? ⟨gb,2,none⟩=some (.bool b'))/\
   (X.cell? ⟨gx+3,0,none⟩=some (.slice none 0 0)/\X.cell? ⟨gx+3,1,none⟩=some (.slice none 0 0)/\X.cell? ⟨gx+3,2,none⟩=some (.bool false))/\
   (X.frozen? ⟨gx+3,0,none⟩=false/\X.frozen? ⟨gx+3,1,none⟩=false/\X.frozen? ⟨gx+3,2,none⟩=false)/\
   (((X.setCell ⟨gx+3,0,none⟩ (.slice (some ⟨tb,0,none⟩) n xc)).setCell ⟨gx+3,1,none⟩ (.slice (some ⟨mb,0,none⟩) mn yc)).setCell ⟨gx+3,2,none⟩ (.bool b')).heap[gx+3]? =some (.cells #[.slice (some ⟨tb,0,none⟩) n xc, .slice (some ⟨mb,0,none⟩) mn yc, .bool b'] 30 (0,0))/\
   Since (fun k=>k=gx+3) X (((X.setCell ⟨gx+3,0,none⟩ (.slice (some ⟨tb,0,none⟩) n xc)).setCell ⟨gx+3,1,none⟩ (.slice (some ⟨mb,0,none⟩) mn yc)).setCell ⟨gx+3,2,none⟩ (.bool b'))/\
   Below w.heap.size w (((X.setCell ⟨gx+3,0,none⟩ (.slice (some ⟨tb,0,none⟩) n xc)).setCell ⟨gx+3,1,none⟩ (.slice (some ⟨mb,0,none⟩) mn yc)).setCell ⟨gx+3,2,none⟩ (.bool b'))):=fun X b' hX hW=>by
  have hres:=(hW.block _ (zJ H4.out)).trans H4.out
  have hset:=zx (zx (zx hres 0 (.slice (some ⟨tb,0,none⟩) n xc)) 1 (.slice (some ⟨mb,0,none⟩) mn yc)) 2 (.bool b')
  simp only [List.setIfInBounds_toArray,List.set_cons_zero,List.set_cons_succ] at hset
  have hS:Since (fun k=>k=gx+3) X (((X.setCell ⟨gx+3,0,none⟩ (.slice (some ⟨tb,0,none⟩) n xc)).setCell ⟨gx+3,1,none⟩ (.slice (some ⟨mb,0,none⟩) mn yc)).setCell ⟨gx+3,2,none⟩ (.bool b')):=Since.setCell (F:=fun k=>k=gx+3) (p:=⟨gx+3,2,none⟩) (Since.setCell (F:=fun k=>k=gx+3) (p:=⟨gx+3,1,none⟩) (Since.setCell (F:=fun k=>k=gx+3) (p:=⟨gx+3,0,none⟩) (Since.refl _ X) (.inl rfl) _) (.inl rfl) _) (.inl rfl) _
  exact⟨⟨zh hX 0,zh hX 1,zh hX 2⟩,⟨zh hres 0,zh hres 1,zh hres 2⟩,⟨zK hres 0,zK hres 1,zK hres 2⟩,hset,hS,(HB.out.trans (hW.mono HB.out.size)).trans (hS.below (by have:=HB.out.size;have:=hW.size;omega) (fun k e=>by have:=xO.out;omega))⟩
 have jI:Hid (∀(X X':World) (b':Bool) (ts':List zw) (mem':List Int) (bs' vY:List Value),qm W X gb gi tb n xc mb mn yc b' ts' mem' bs' vY->Since (fun k=>k=gx+3) X X'->OwnAt w.heap.size X' (.slice (some ⟨tb,0,none⟩) n xc) (.slice (some ⟨mb,0,none⟩) mn yc) ts' mem' bs'):=fun X X' b' ts' mem' bs' vY h hS=>by
  have hlt:=zJ H4.out
  exact OwnAt.lower (B:=W.heap.size) (h.own.own.since hS (fun k hk e=>by have:=(h.own.own.row.lt k hk).1;omega) (fun k hk e=>by have:=(h.own.own.mem.lt k hk).1;omega) (fun j hj k hk e=>by have:=((h.own.own.buf j hj).lt k hk).1;omega)) HB.out.size
 go_cut [15] (fun s15 w'=>∃em:Bool,s15= .bool em/\w'=X4/\Hid (em=decide (bl=0)))
 case first=>
  have t5:=(HTC.out 5 _ (by omega) rfl).1
  by_cases hb0:bl=0
  ·have hb1:((bl:Int)==0)=true:=by simp [hb0]
   go_wp2_with fail
   go_meet
   case rel=>exact⟨true,by first|rfl|simp,rfl,by simp [Hid,hb0]⟩
  ·have hb1:((bl:Int)==0)=false:=by simp [hb0]
   go_wp2_with fail
   go_meet
   case rel=>exact⟨false,by first|rfl|simp,rfl,by simp [Hid,hb0]⟩
 case rest=>
  obtain⟨em,rfl,hww,HEM⟩:=hcut
  obtain rfl:X4=wc:=hww.symm
  have k0:=zh yx.out.instr 0
  go_upto_region 11 with fail
  clear k0
  by_cases o1:op=1
  ·have qA:Hid ((1:Int)=x.op):=by rw [Hid, <-yQ.out,o1]
   clear yQ
   have yQ:=qA
   clear qA
   have p1:((op:Int)==1)=true:=by simp [o1]
   clear o1
   as_aux_lemma=>
    go_upto_region 12 with fail
    obtain⟨lk,hlk⟩:∃lk,lk=j6 bf q8:=⟨_,rfl⟩
    have zoK:=fun Y hY=>znq Y (.slice ba bl bc) bf hY (by rw [<-vD.out];omega) q8
    rw [<-hlk] at zoK
    have z3O:=qh zoK
    have HLK:=qh hlk
    clear zoK hlk
    have hbu:=uV.out.1
    rw [kS.out,kT.out] at hbu
    have zj2:Hid (∀Y,Below X4.heap.size X4 Y->zH Y (.slice ba bl bc) bf):=fun Y hY=>zH.below (vL hbu) hY
    clear hbu
    have CZ:Hid (∀y,Below X4.heap.size X4 y->y.cell? ⟨tb,i*6+5,none⟩=some (.slice ba bl bc)/\y.cell? ⟨gi,2,none⟩=some (.int .i64 q8)):=fun y hy=>⟨zm hy _ _ (HTC.out 5 _ (by omega) rfl).1,zm hy _ _ (zh yx.out.instr 2)⟩
    refine wp_region_noPanic ?_
    refine wp_region_held_drew (S:=fun x=>Below X4.heap.size X4 x) (by kernel_rfl) (Below.refl _ _).drew (fun hH=> ?_)
    refine zo 0 85 ?zC3 rfl ?zyf ?_
    case zyf=>(intro x h;have e:=CZ.out x h;go_simp<;>rfl)
    simp only [Act.put,za,ze,zf]
    refine zo 1 86 ?zC4 rfl ?zyg ?_
    case zyg=>(intro x h;have e:=CZ.out x h;go_simp<;>rfl)
    simp only [Act.put,za,ze,zf]
    refine zo 2 87 ?zC5 rfl ?zyh ?_
    case zyh=>(intro x h;have e:=CZ.out x h;go_simp<;>rfl)
    simp only [Act.put,za,ze,zf]
    refine zo 3 88 ?zC6 rfl ?zyi ?_
    case zyi=>(intro x h;have e:=CZ.out x h;go_simp<;>rfl)
    simp only [Act.put,za,ze,zf]
    refine zo 4 89 ?zC7 rfl ?zyj ?_
    case zyj=>(intro x h;have e:=CZ.out x h;go_simp<;>rfl)
    simp only [Act.put,za,ze,zf]
    refine zo 5 90 ?zC8 rfl ?zyk ?_
    case zyk=>(intro x h;have e:=CZ.out x h;go_simp<;>rfl)
    simp only [Act.put,za,ze,zf]
    refine zT 6 rfl (fun K hK=> ?_)
    go_simp
    refine(z3O.out X4.drew (zj2.out X4.drew hH)).mono ?_
    rintro e zbp ⟨rfl,hb⟩
    have zj3:Below X4.heap.size X4 zbp:=zB hH hb
    refine hK.out _ _ zj3 (fun _=> ?_)
    clear hK K hb hH
    refine zo 7 84 ?zC9 rfl ?zyl ?_
    case zyl=>(intro x h;have e:=CZ.out x h;go_simp<;>rfl)
    simp only [Act.put,za,ze,zf]
    refine zo 8 92 ?zCA rfl ?zym ?_
    case zym=>(intro x h;have e:=CZ.out x h;go_simp<;>rfl)
    simp only [Act.put,za,ze,zf]
    refine zo 9 93 ?zCB rfl ?zyn ?_
    case zyn=>(intro x h;have e:=CZ.out x h;go_simp<;>rfl)
    simp only [Act.put,za,ze,zf]
    refine zo 10 16 ?zA5 rfl ?zuC ?_
    case zuC=>(intro x h;have e:=CZ.out x h;go_simp<;>rfl)
    simp only [Act.put,za,ze,zf]
    refine zo 11 17 ?zA6 rfl ?zuD ?_
    case zuD=>(intro x h;have e:=CZ.out x h;go_simp<;>rfl)
    simp only [Act.put,za,ze,zf]
    refine wpAnyH_done (by kernel_rfl) ?_ _
    refine NoPanic.normal ?_
    have kY:=qh (yx.out.below zj3)
    clear zj3
    skip
    cases lk with
    |some lv=>
     simp only [Option.getD_some,Option.isSome_some]
     go_upto_region 15 with fail
     have z1:=zh kY.out.instr 1
     refine wp_region_still_tail 7 (by kernel_rfl) (by kernel_rfl) ?_
     simp only [List.take_succ_cons,List.take_zero,List.drop_succ_cons,List.drop_zero]
     repeat still_step
     try refine wpStill_nil ?_
     change wpList _ _ _ _ _ zbp.drew
     obtain⟨X5,hX5⟩:∃wd,wd=zbp.drew:=⟨_,rfl⟩
     rw [<-hX5]
     have z3P:Hid (Below zbp.heap.size zbp X5):=by rw [Hid,hX5];exact(Below.refl _ _).drew
     clear hX5
     have zpW:=qh (kY.out.below z3P.out)
     clear z1
     obtain⟨u0,v0⟩:=zpW.out.kR bF.out kS.out kT.out (1+vS) (.int .i64 ([r0,r1,r2,r3].getD vS 0)) (by omega) (zbn bB)
     rw [<-Nat.add_assoc] at u0 v0
     have hw6:=zpW.out.set bF.out (k:=1+vS) (by omega) (t':=⟨(xQ:Int)+1,([r0,r1,r2,r3].set vS lv),bf⟩) (u:=(.int .i64 lv)) kS.out kT.out (bS bB) (by simp) rfl
     rw [<-Nat.add_assoc] at hw6
     have HW6:=qh hw6
     clear hw6
     go_upto_region 48 with fail
     clear u0 v0
     generalize World.setCell X5 _ _=X6 at HW6 ⊢
     obtain⟨hr6,ht6,hb6,hl6⟩:=HW6.out
     have zyo:=qh hr6
     have zCC:=qh ht6
     have zCD:=qh hb6
     have HL6:=qh hl6
     clear hr6 ht6 hb6 hl6 HW6
     have hres:R=some ⟨ts.set i ⟨(xQ:Int)+1, [r0,r1,r2,r3].set vS lv,bf⟩,mem,bad⟩:=by
      rw [qW.out,zbk yQ.out.symm]
      simp only [Option.map_some]
      rw [<-pW.out, <-HLK.out, <-HRG.out]
      rfl
     have zD:=qh hres
     clear hres
     have yG:=zyo.out
     rw [wW.out] at yG
     have yj:=qh yG
     clear yG
     obtain⟨⟨a0,a1,a2⟩,⟨q0,q1,q2⟩,⟨f0,f1,f2⟩,hset,hsn,hbe⟩:=zY.out X6 bad yj.out.own.box yj.out.own.below
     have zI:=qh hset
     have yY:=qh hsn
     have yg:=qh hbe
     clear hset hsn hbe
     go_wp2_with fail
     (try simp only [Exit.inBlock,Exit.then])
     refine bodyPost_ret (zy rfl _ _ (gx+3) 30 _ (0,0) _ rfl zI.out Tryz.underlying30 rfl zC) rfl ?_
     exact⟨xM zD.out (jI.out _ _ _ _ _ _ _ yj.out yY.out),yg.out⟩
    |none=>
     simp only [Option.getD_none,Option.isSome_none]
     go_upto_region 14 with fail
     obtain⟨nv,gG⟩:∃nv,nv=mem.getD q8 0:=⟨_,rfl⟩
     obtain⟨sb,so,hsa, -,hsc⟩:=xH.part zbg.out q8 (by rw [<-vH.out];omega)
     subst hsa
     rw [<-gG] at hsc
     have uN:=qh gG
     clear gG
     have s1:=zm kY.out.own.below _ _ hsc
     have c6:=(yJ.out _ kY.out.own.below).2.2.2.2.2.2.1
     have jU:(q8:Int)<(mn:Int):=by omega
     have z2:=zh kY.out.instr 2
     go_upto_region 15 with fail
     clear z2 s1 c6 hsc
     go_upto_region 15 with fail
     have z1:=zh kY.out.instr 1
     refine wp_region_still_tail 7 (by kernel_rfl) (by kernel_rfl) ?_
     simp only [List.take_succ_cons,List.take_zero,List.drop_succ_cons,List.drop_zero]
     repeat still_step
     try refine wpStill_nil ?_
     change wpList _ _ _ _ _ zbp.drew
     obtain⟨X7,hX7⟩:∃wd,wd=zbp.drew:=⟨_,rfl⟩
     rw [<-hX7]
     have z3Q:Hid (Below zbp.heap.size zbp X7):=by rw [Hid,hX7];exact(Below.refl _ _).drew
     clear hX7
     have zpX:=qh (kY.out.below z3Q.out)
     clear z1
     obtain⟨u0,v0⟩:=zpX.out.kR bF.out kS.out kT.out (1+vS) (.int .i64 ([r0,r1,r2,r3].getD vS 0)) (by omega) (zbn bB)
     rw [<-Nat.add_assoc] at u0 v0
     have hw8:=zpX.out.set bF.out (k:=1+vS) (by omega) (t':=⟨(xQ:Int)+1,([r0,r1,r2,r3].set vS nv),bf⟩) (u:=(.int .i64 nv)) kS.out kT.out (bS bB) (by simp) rfl
     rw [<-Nat.add_assoc] at hw8
     have HW8:=qh hw8
     clear hw8
     go_upto_region 48 with fail
     clear u0 v0
     generalize World.setCell X7 _ _=X8 at HW8 ⊢
     obtain⟨hr8,ht8,hb8,hl8⟩:=HW8.out
     have zyp:=qh hr8
     have zCE:=qh ht8
     have zCF:=qh hb8
     have HL8:=qh hl8
     clear hr8 ht8 hb8 hl8 HW8
     have hres:R=some ⟨ts.set i ⟨(xQ:Int)+1, [r0,r1,r2,r3].set vS nv,bf⟩,mem,bad⟩:=by
      rw [qW.out,zbk yQ.out.symm]
      simp only [Option.map_some]
      rw [<-pW.out, <-HLK.out, <-HRG.out]
      rw [show((q8:Int)).toNat=q8 from rfl, <-uN.out]
      rfl
     have zD:=qh hres
     clear hres
     have yG:=zyp.out
     rw [wW.out] at yG
     have yj:=qh yG
     clear yG
     obtain⟨⟨a0,a1,a2⟩,⟨q0,q1,q2⟩,⟨f0,f1,f2⟩,hset,hsn,hbe⟩:=zY.out X8 bad yj.out.own.box yj.out.own.below
     have zI:=qh hset
     have yY:=qh hsn
     have yg:=qh hbe
     clear hset hsn hbe
     go_wp2_with fail
     (try simp only [Exit.inBlock,Exit.then])
     refine bodyPost_ret (zy rfl _ _ (gx+3) 30 _ (0,0) _ rfl zI.out Tryz.underlying30 rfl zC) rfl ?_
     exact⟨xM zD.out (jI.out _ _ _ _ _ _ _ yj.out yY.out),yg.out⟩
  have p1:((op:Int)==1)=false:=by simp [o1]
  by_cases o2:op=2
  ·have qA:Hid ((2:Int)=x.op):=by rw [Hid, <-yQ.out,o2]
   clear yQ
   have yQ:=qA
   clear qA
   have p2:((op:Int)==2)=true:=by simp [o2]
   clear o2
   as_aux_lemma=>
    go_upto_region 17 with fail
    have c3:=(yJ.out _ yx.out.own.below).2.2.2.1
    by_cases hm0:mod=0
    ·have hm1:((mod:Int)==0)=true:=by simp [hm0]
     have HM0:=qh hm0
     clear hm0
     go_upto_region 18 with fail
     clear c3 hm1
     go_upto_region 18 with fail
     have z2:=zh yx.out.instr 2
     have hbx:=yx.out.own.box
     have g1:=zh hbx 1
     clear hbx
     have hml:q8<mem.length:=by rw [<-vH.out];omega
     obtain⟨m0,m1⟩:=yx.out.zf7 hml
     have jU:(q8:Int)<(mn:Int):=by omega
     have zpZ:=qh (yx.out.mem q8 A)
     clear hml
     go_upto_region 19 with fail
     clear z2 g1 m0 m1 jU
     generalize World.setCell X4 _ _=X9 at zpZ ⊢
     have hres:R=some ⟨uR,(mem.set q8 A),bad⟩:=by
      rw [qW.out,zcc yQ.out.symm HM0.out]
      simp only [Option.map_some]
      rw [<-pW.out, <-HA.out,HT1.out]
      rfl
     have zD:=qh hres
     clear hres
     have yG:=zpZ.out
     have yj:=qh yG
     clear yG
     obtain⟨⟨a0,a1,a2⟩,⟨q0,q1,q2⟩,⟨f0,f1,f2⟩,hset,hsn,hbe⟩:=zY.out X9 bad yj.out.own.box yj.out.own.below
     have zI:=qh hset
     have yY:=qh hsn
     have yg:=qh hbe
     clear hset hsn hbe
     go_wp2_with fail
     (try simp only [Exit.inBlock,Exit.then])
     refine bodyPost_ret (zy rfl _ _ (gx+3) 30 _ (0,0) _ rfl zI.out Tryz.underlying30 rfl zC) rfl ?_
     exact⟨xM zD.out (jI.out _ _ _ _ _ _ _ yj.out yY.out),yg.out⟩
    have hm1:((mod:Int)==0)=false:=by simp [hm0]
    have HM0:=qh hm0
    clear hm0
    go_upto_region 20 with fail
    clear c3 hm1
    obtain⟨ok,hok⟩:∃ok,ok=qN bf ⟨mod,bnd⟩ ⟨q8,A⟩:=⟨_,rfl⟩
    have hput:=fun Y hY=>zia Y (.slice ba bl bc) bf hY (by rw [<-vD.out];omega) ⟨mod,bnd⟩ ⟨q8,A⟩
    rw [<-hok] at hput
    have uY:=qh hput
    have uh:=qh hok
    clear hput hok
    have hbu:=uV.out.1
    rw [kS.out,kT.out] at hbu
    have zj2:Hid (∀Y,Below X4.heap.size X4 Y->zH Y (.slice ba bl bc) bf):=fun Y hY=>zH.below (vL hbu) hY
    clear hbu
    have CZ:Hid (∀y,Below X4.heap.size X4 y->y.cell? ⟨tb,i*6+5,none⟩=some (.slice ba bl bc)/\y.cell? ⟨gi,2,none⟩=some (.int .i64 q8)/\y.cell? ⟨gx+1,0,none⟩=some (.int .i64 mod)/\y.cell? ⟨gx+1,1,none⟩=some (.int .i64 bnd)):=fun y hy=>⟨zm hy _ _ (HTC.out 5 _ (by omega) rfl).1,zm hy _ _ (zh yx.out.instr 2),(yJ.out y (zB yx.out.own.below hy)).2.2.2.1,(yJ.out y (zB yx.out.own.below hy)).2.2.2.2.1⟩
    refine wp_region_noPanic ?_
    refine wp_region_held_drew (S:=fun x=>Below X4.heap.size X4 x) (by kernel_rfl) (Below.refl _ _).drew (fun hH=> ?_)
    refine zo 0 122 ?zCG rfl ?zyq ?_
    case zyq=>(intro x h;have e:=CZ.out x h;go_simp<;>rfl)
    simp only [Act.put,za,ze,zf]
    refine zo 1 123 ?zCH rfl ?zyr ?_
    case zyr=>(intro x h;have e:=CZ.out x h;go_simp<;>rfl)
    simp only [Act.put,za,ze,zf]
    refine zo 2 124 ?zCI rfl ?zys ?_
    case zys=>(intro x h;have e:=CZ.out x h;go_simp<;>rfl)
    simp only [Act.put,za,ze,zf]
    refine zo 3 125 ?zCJ rfl ?zyt ?_
    case zyt=>(intro x h;have e:=CZ.out x h;go_simp<;>rfl)
    simp only [Act.put,za,ze,zf]
    refine zo 4 126 ?zCK rfl ?zyu ?_
    case zyu=>(intro x h;have e:=CZ.out x h;go_simp<;>rfl)
    simp only [Act.put,za,ze,zf]
    refine zo 5 127 ?zCL rfl ?zyv ?_
    case zyv=>(intro x h;have e:=CZ.out x h;go_simp<;>rfl)
    simp only [Act.put,za,ze,zf]
    refine zo 6 128 ?zCM rfl ?zyw ?_
    case zyw=>(intro x h;have e:=CZ.out x h;go_simp<;>rfl)
    simp only [Act.put,za,ze,zf]
    refine zo 7 129 ?zCN rfl ?zyx ?_
    case zyx=>(intro x h;have e:=CZ.out x h;go_simp<;>rfl)
    simp only [Act.put,za,ze,zf]
    refine zo 8 130 ?zCO rfl ?zyy ?_
    case zyy=>(intro x h;have e:=CZ.out x h;go_simp<;>rfl)
    simp only [Act.put,za,ze,zf]
    refine zT 9 rfl (fun K hK=> ?_)
    go_simp
    refine(uY.out X4.drew (zj2.out X4.drew hH)).mono ?_
    rintro e zgI ⟨⟨bv,rfl,hbv,hrow⟩,hb⟩
    obtain⟨pa,pc2,rfl, -⟩:=zl.slice hbv
    have j5:=qh hrow
    clear hbv hrow
    have zj4:Below X4.heap.size X4 zgI:=zB hH hb
    refine hK.out _ _ zj4 (fun _=> ?_)
    clear hK K hb hH
    refine zo 10 121 ?zA7 rfl ?zuH ?_
    case zuH=>(intro x h;have e:=CZ.out x h;go_simp<;>rfl)
    simp only [Act.put,za,ze,zf]
    refine zo 11 132 ?zA8 rfl ?zuI ?_
    case zuI=>(intro x h;have e:=CZ.out x h;go_simp<;>rfl)
    simp only [Act.put,za,ze,zf]
    refine zo 12 133 ?zA9 rfl ?zuJ ?_
    case zuJ=>(intro x h;have e:=CZ.out x h;go_simp<;>rfl)
    simp only [Act.put,za,ze,zf]
    refine zo 13 18 ?zAA rfl ?zuK ?_
    case zuK=>(intro x h;have e:=CZ.out x h;go_simp<;>rfl)
    simp only [Act.put,za,ze,zf]
    refine zo 14 19 ?zAB rfl ?zuL ?_
    case zuL=>(intro x h;have e:=CZ.out x h;go_simp<;>rfl)
    simp only [Act.put,za,ze,zf]
    refine wpAnyH_done (by kernel_rfl) ?_ _
    refine NoPanic.normal ?_
    have kY:=qh (yx.out.below zj4)
    clear zj4
    have z3R:=qh (zJ yx.out.own.box)
    have z3S:=qh (yx.out.own.own.row.lt tb rfl).2
    have z3T:=qh (yx.out.own.own.mem.lt mb rfl).2
    have z3U:=qh yx.out.own.below.size
    go_upto_region 21 with fail
    obtain⟨t5,v5⟩:=kY.out.kR bF.out kS.out kT.out 5 (.slice ba bl bc) (by omega) rfl
    obtain⟨pl,hpl⟩:∃pl,pl=(vC bf ⟨mod,bnd⟩ ⟨q8,A⟩).length:=⟨_,rfl⟩
    rw [<-hpl] at j5 ⊢
    have gN:=qh hpl
    clear hpl
    cases ok with
    |true=>
     have hrw:=yN (C:=W.heap.size) (j5.out rfl) z3U.out
     have hpw:=kY.out.thread bF.out (k:=5) (by omega) (t:=⟨(xQ:Int)+1, [r0,r1,r2,r3],vC bf ⟨mod,bnd⟩ ⟨q8,A⟩⟩) (b:= .slice pa pl pc2) (u:= .slice pa pl pc2) (by rw [kS.out,kT.out];rfl) rfl (by rw [<-gN.out];exact hrw) (fun k hk=>by have h1:X4.heap.size<=k:=((j5.out rfl).lt k hk).1;have:=z3R.out;have:=z3S.out;have:=z3T.out;exact⟨by omega,by omega,by omega⟩) (fun k hk j hj _ e=>by have h1:X4.heap.size<=k:=((j5.out rfl).lt k hk).1;have h2:=((yx.out.own.own.buf j hj).lt k e).2;omega)
     rw [wW.out] at hpw
     have HPW:=qh hpw
     clear hpw hrw
     go_upto_region 22 with fail
     clear t5 v5
     generalize World.setCell zgI _ _=XY at HPW ⊢
     have hres:R=some ⟨(ts.set i ⟨(xQ:Int)+1, [r0,r1,r2,r3],vC bf ⟨mod,bnd⟩ ⟨q8,A⟩⟩),mem,bad⟩:=by
      rw [qW.out,zcd yQ.out.symm HM0.out (by rw [<-pW.out, <-HA.out, <-uh.out])]
      simp only [Option.map_some]
      rw [<-pW.out, <-HA.out]
     have zD:=qh hres
     clear hres
     have yG:=HPW.out
     have yj:=qh yG
     clear yG
     obtain⟨⟨a0,a1,a2⟩,⟨q0,q1,q2⟩,⟨f0,f1,f2⟩,hset,hsn,hbe⟩:=zY.out XY bad yj.out.own.box yj.out.own.below
     have zI:=qh hset
     have yY:=qh hsn
     have yg:=qh hbe
     clear hset hsn hbe
     go_wp2_with fail
     (try simp only [Exit.inBlock,Exit.then])
     refine bodyPost_ret (zy rfl _ _ (gx+3) 30 _ (0,0) _ rfl zI.out Tryz.underlying30 rfl zC) rfl ?_
     exact⟨xM zD.out (jI.out _ _ _ _ _ _ _ yj.out yY.out),yg.out⟩
    |false=>
     have hbx:=kY.out.own.box
     have hsY:Since (fun x=>x=tb) zgI (zgI.setCell ⟨tb,i*6+5,none⟩ (.slice pa pl pc2)):=Since.setCell (F:=fun x=>x=tb) (p:=⟨tb,i*6+5,none⟩) (Since.refl _ _) (.inl rfl) _
     have zuN:=(hsY.block gb (zJ hbx) (fun e=>kY.out.own.n1 (by rw [e];rfl))).trans hbx
     have zuO:=kY.out.own.below.trans (hsY.below kY.out.own.below.size (fun x e=>by have:=(kY.out.own.own.row.lt tb rfl).1;omega))
     have xC:=qh zuN
     have zuP:=qh zuO
     clear hbx hsY zuN zuO
     have hres:R=none:=by
      rw [qW.out,zce yQ.out.symm HM0.out (by rw [<-pW.out, <-HA.out, <-uh.out])]
      rfl
     have zD:=qh hres
     clear hres
     go_upto_region 22 with fail
     clear t5 v5
     generalize World.setCell zgI _ _=XY at xC zuP ⊢
     obtain⟨⟨a0,a1,a2⟩,⟨q0,q1,q2⟩,⟨f0,f1,f2⟩,hset, -,hbe⟩:=zY.out XY bad xC.out zuP.out
     have zI:=qh hset
     have yg:=qh hbe
     clear hset hbe
     go_wp2_with fail
     (try simp only [Exit.inBlock,Exit.then])
     refine bodyPost_ret (zy rfl _ _ (gx+3) 30 _ (0,0) _ rfl zI.out Tryz.underlying30 rfl zC) rfl ?_
     exact⟨jH zD.out,yg.out⟩
  have p2:((op:Int)==2)=false:=by simp [o2]
  by_cases o3:op=3
  ·have qA:Hid ((3:Int)=x.op):=by rw [Hid, <-yQ.out,o3]
   clear yQ
   have yQ:=qA
   clear qA
   have p3:((op:Int)==3)=true:=by simp [o3]
   clear o3
   as_aux_lemma=>
    go_upto_region 24 with fail
    have z1:=zh yx.out.instr 1
    refine wp_region_still_tail 7 (by kernel_rfl) (by kernel_rfl) ?_
    simp only [List.take_succ_cons,List.take_zero,List.drop_succ_cons,List.drop_zero]
    repeat still_step
    try refine wpStill_nil ?_
    change wpList _ _ _ _ _ X4.drew
    obtain⟨X10,zoL⟩:∃wd,wd=X4.drew:=⟨_,rfl⟩
    rw [<-zoL]
    have zyz:Hid (Below X4.heap.size X4 X10):=by rw [Hid,zoL];exact(Below.refl _ _).drew
    clear zoL
    have zmp:=qh (yx.out.below zyz.out)
    clear z1
    obtain⟨u0,v0⟩:=zmp.out.kR bF.out kS.out kT.out (1+vS) (.int .i64 ([r0,r1,r2,r3].getD vS 0)) (by omega) (zbn bB)
    rw [<-Nat.add_assoc] at u0 v0
    have pX:=zmp.out.set bF.out (k:=1+vS) (by omega) (t':=⟨(xQ:Int)+1,([r0,r1,r2,r3].set vS A),bf⟩) (u:=(.int .i64 A)) kS.out kT.out (bS bB) (by simp) rfl
    rw [<-Nat.add_assoc] at pX
    have zoM:=qh pX
    clear pX
    go_upto_region 48 with fail
    clear u0 v0
    generalize World.setCell X10 _ _=X11 at zoM ⊢
    obtain⟨zuQ,zuR,zuS,zuT⟩:=zoM.out
    have zuU:=qh zuQ
    have zAC:=qh zuR
    have zAD:=qh zuS
    have zCP:=qh zuT
    clear zuQ zuR zuS zuT zoM
    have hres:R=some ⟨ts.set i ⟨(xQ:Int)+1, [r0,r1,r2,r3].set vS A,bf⟩,mem,bad⟩:=by
     rw [qW.out,zfd yQ.out.symm]
     simp only [Option.map_some]
     rw [<-HA.out, <-HRG.out]
     rfl
    have zD:=qh hres
    clear hres
    have yG:=zuU.out
    rw [wW.out] at yG
    have yj:=qh yG
    clear yG
    obtain⟨⟨a0,a1,a2⟩,⟨q0,q1,q2⟩,⟨f0,f1,f2⟩,hset,hsn,hbe⟩:=zY.out X11 bad yj.out.own.box yj.out.own.below
    have zI:=qh hset
    have yY:=qh hsn
    have yg:=qh hbe
    clear hset hsn hbe
    go_wp2_with fail
    (try simp only [Exit.inBlock,Exit.then])
    refine bodyPost_ret (zy rfl _ _ (gx+3) 30 _ (0,0) _ rfl zI.out Tryz.underlying30 rfl zC) rfl ?_
    exact⟨xM zD.out (jI.out _ _ _ _ _ _ _ yj.out yY.out),yg.out⟩
  have p3:((op:Int)==3)=false:=by simp [o3]
  by_cases o4:op=4
  ·have qA:Hid ((4:Int)=x.op):=by rw [Hid, <-yQ.out,o4]
   clear yQ
   have yQ:=qA
   clear qA
   have p4:((op:Int)==4)=true:=by simp [o4]
   clear o4
   as_aux_lemma=>
    go_upto_region 26 with fail
    cases em with
    |true=>
     have hb0:bf.length=0:=by rw [<-vD.out];exact of_decide_eq_true HEM.out.symm
     have HB0:=qh hb0
     clear hb0
     have hres:R=some ⟨uR,mem,bad⟩:=by
      rw [qW.out,za2 yQ.out.symm]
      rw [if_pos HB0.out,HT1.out]
      rfl
     have zD:=qh hres
     clear hres
     have yG:=yx.out
     have yj:=qh yG
     clear yG
     obtain⟨⟨a0,a1,a2⟩,⟨q0,q1,q2⟩,⟨f0,f1,f2⟩,hset,hsn,hbe⟩:=zY.out X4 bad yj.out.own.box yj.out.own.below
     have zI:=qh hset
     have yY:=qh hsn
     have yg:=qh hbe
     clear hset hsn hbe
     go_wp2_with fail
     (try simp only [Exit.inBlock,Exit.then])
     refine bodyPost_ret (zy rfl _ _ (gx+3) 30 _ (0,0) _ rfl zI.out Tryz.underlying30 rfl zC) rfl ?_
     exact⟨xM zD.out (jI.out _ _ _ _ _ _ _ yj.out yY.out),yg.out⟩
    |false=>
     have hb0:¬bf.length=0:=by rw [<-vD.out];exact of_decide_eq_false HEM.out.symm
     have HB0:=qh hb0
     clear hb0
     have hres:R=none:=by
      rw [qW.out,za2 yQ.out.symm]
      rw [if_neg HB0.out]
      rfl
     have zD:=qh hres
     clear hres
     have yG:=yx.out
     have yj:=qh yG
     clear yG
     obtain⟨⟨a0,a1,a2⟩,⟨q0,q1,q2⟩,⟨f0,f1,f2⟩,hset,hsn,hbe⟩:=zY.out X4 bad yj.out.own.box yj.out.own.below
     have zI:=qh hset
     have yY:=qh hsn
     have yg:=qh hbe
     clear hset hsn hbe
     go_wp2_with fail
     (try simp only [Exit.inBlock,Exit.then])
     refine bodyPost_ret (zy rfl _ _ (gx+3) 30 _ (0,0) _ rfl zI.out Tryz.underlying30 rfl zC) rfl ?_
     exact⟨jH zD.out,yg.out⟩
  have p4:((op:Int)==4)=false:=by simp [o4]
  by_cases o5:op=5
  ·have qA:Hid ((5:Int)=x.op):=by rw [Hid, <-yQ.out,o5]
   clear yQ
   have yQ:=qA
   clear qA
   have p5:((op:Int)==5)=true:=by simp [o5]
   clear o5
   as_aux_lemma=>
    go_upto_region 28 with fail
    have CZ:Hid (∀y,Since (fun k=>k=gx+3) X4 y->y.cell? ⟨gb,0,none⟩=some (.slice (some ⟨tb,0,none⟩) n xc)/\y.cell? ⟨gb,1,none⟩=some (.slice (some ⟨mb,0,none⟩) mn yc)/\y.cell? ⟨gb,2,none⟩=some (.bool bad)/\y.cell? ⟨gx+1,0,none⟩=some (.int .i64 mod)):=fun y hy=>by
     have h1:=yx.out.own.box
     have hlo:=yx.out.own.lo
     have hlt:=zJ H4.out
     have h2:=(hy.block _ (zJ h1) (by omega)).trans h1
     have h3:=(yx.out.own.below.block _ (zJ H2.out)).trans H2.out
     have h4:=(hy.block _ (zJ h3) (by omega)).trans h3
     exact⟨zh h2 0,zh h2 1,zh h2 2,zh h4 0⟩
    cases em with
    |true=>
     have hb0:bf.length=0:=by rw [<-vD.out];exact of_decide_eq_true HEM.out.symm
     have HB0:=qh hb0
     clear hb0
     have hres:R=some ⟨uR,mem,bad⟩:=by
      rw [qW.out,bQ yQ.out.symm]
      rw [if_pos (.inl HB0.out),HT1.out]
      rfl
     have zD:=qh hres
     clear hres
     have yG:=yx.out
     have yj:=qh yG
     clear yG
     refine wp_region_noPanic ?_
     refine wp_region_held_drew (S:=fun y=>Since (fun k=>k=gx+3) X4 y) (by kernel_rfl) (Since.refl _ _).drew (fun _=> ?_)
     obtain⟨wd,hwd⟩:∃wd,wd=X4.drew:=⟨_,rfl⟩
     rw [<-hwd]
     have HFX:=zY.out wd bad (by rw [hwd];exact yj.out.own.box) (by rw [hwd];exact yj.out.own.below.drew)
     have yO:Hid (Since (fun k=>k=gx+3) X4 wd):=by rw [Hid,hwd];exact(Since.refl _ _).drew
     clear hwd
     refine zA 0 155 ?zAE rfl ?zuV (yO.out) ?_
     case zuV=>(intro x h;have e:=CZ.out x h;go_simp<;>rfl)
     simp only [Act.put,za,ze,zf]
     refine zA 1 156 ?zAF rfl ?zuW (yO.out) ?_
     case zuW=>(intro _ _;go_simp<;>rfl)
     simp only [Act.put,za,ze,zf]
     refine zA 2 157 ?zAG rfl ?zuX (yO.out) ?_
     case zuX=>(intro _ _;go_simp<;>rfl)
     simp only [Act.put,za,ze,zf]
     refine wpAnyH_take (i:=3) (v:=undef) rfl (by kernel_rfl) (by kernel_rfl) (by kernel_rfl) (fun _ _ _ h=>h) (Or.inr ⟨by rfl,rfl⟩) (yO.out) ?_
     change wpAnyH _ _ _ _ _ _ _ (Act.put _ (some 158) _) _
     simp only [Act.put,za]
     try simp only [ze,zf]
     refine wpAnyH_take (i:=4) (v:=undef) rfl (by kernel_rfl) (by kernel_rfl) (by kernel_rfl) (fun _ _ _ h=>h) (Or.inr ⟨by rfl,rfl⟩) (yO.out) ?_
     change wpAnyH _ _ _ _ _ _ _ (Act.put _ (some 159) _) _
     simp only [Act.put,za]
     try simp only [ze,zf]
     refine wpAnyH_take (i:=5) (v:=undef) rfl (by kernel_rfl) (by kernel_rfl) (by kernel_rfl) (fun _ _ _ h=>h) (Or.inr ⟨by rfl,rfl⟩) (yO.out) ?_
     change wpAnyH _ _ _ _ _ _ _ (Act.put _ (some 160) _) _
     simp only [Act.put,za]
     try simp only [ze,zf]
     refine zA 6 161 ?zAH rfl ?zuY (yO.out) ?_
     case zuY=>(intro _ _;go_simp<;>rfl)
     simp only [Act.put,za,ze,zf]
     refine zT 7 rfl (fun K hK=> ?_)
     obtain⟨-,⟨q0,q1,q2⟩,⟨f0,f1,f2⟩,hset,hsn,hbe⟩:=HFX
     have zI:=qh hset
     have yY:=qh hsn
     have yg:=qh hbe
     clear hset hsn hbe
     go_simp
     refine hK.out _ _ (yO.out.trans yY.out (fun _ h=> .inl h)) (fun _=> ?_)
     clear hK K
     refine zA 8 9 ?zAI rfl ?zuZ ((yO.out.trans yY.out (fun _ h=> .inl h))) ?_
     case zuZ=>(intro _ _;go_simp<;>rfl)
     simp only [Act.put,za,ze,zf]
     refine wpAnyH_done (by kernel_rfl) ?_ _
     refine NoPanic.normal ?_
     go_wp2_with fail
     (try simp only [Exit.inBlock,Exit.then])
     refine bodyPost_ret (zy rfl _ _ (gx+3) 30 _ (0,0) _ rfl zI.out Tryz.underlying30 rfl zC) rfl ?_
     exact⟨xM zD.out (jI.out _ _ _ _ _ _ _ yj.out (yO.out.trans yY.out (fun _ h=> .inl h))),yg.out⟩
    |false=>
     have hb0:¬bf.length=0:=by rw [<-vD.out];exact of_decide_eq_false HEM.out.symm
     have HB0:=qh hb0
     clear hb0
     by_cases hm2:mod=2
     rotate_left
     ·have hm3:((mod:Int) !=2)=true:=by simp [hm2]
      have HM2:=qh hm2
      clear hm2
      have hres:R=some ⟨uR,mem,bad⟩:=by
       rw [qW.out,bQ yQ.out.symm]
       rw [if_pos (.inr HM2.out),HT1.out]
       rfl
      have zD:=qh hres
      clear hres
      have yG:=yx.out
      have yj:=qh yG
      clear yG
      refine wp_region_noPanic ?_
      refine wp_region_held_drew (S:=fun y=>Since (fun k=>k=gx+3) X4 y) (by kernel_rfl) (Since.refl _ _).drew (fun _=> ?_)
      obtain⟨wd,hwd⟩:∃wd,wd=X4.drew:=⟨_,rfl⟩
      rw [<-hwd]
      have HFX:=zY.out wd bad (by rw [hwd];exact yj.out.own.box) (by rw [hwd];exact yj.out.own.below.drew)
      have yO:Hid (Since (fun k=>k=gx+3) X4 wd):=by rw [Hid,hwd];exact(Since.refl _ _).drew
      clear hwd
      refine zA 0 155 ?z7Z rfl ?zrK (yO.out) ?_
      case zrK=>(intro x h;have e:=CZ.out x h;go_simp<;>rfl)
      simp only [Act.put,za,ze,zf]
      refine zA 1 156 ?z8a rfl ?zrL (yO.out) ?_
      case zrL=>(intro _ _;go_simp<;>rfl)
      simp only [Act.put,za,ze,zf]
      refine zA 2 157 ?z8b rfl ?zrM (yO.out) ?_
      case zrM=>(intro _ _;go_simp<;>rfl)
      simp only [Act.put,za,ze,zf]
      refine zA 3 158 ?z8c rfl ?zrN (yO.out) ?_
      case zrN=>(intro _ _;go_simp<;>rfl)
      simp only [Act.put,za,ze,zf]
      refine zA 4 159 ?z8d rfl ?zrO (yO.out) ?_
      case zrO=>(intro x h;have e:=CZ.out x h;go_simp<;>rfl)
      simp only [Act.put,za,ze,zf]
      refine zA 5 160 ?z8e rfl ?zrP (yO.out) ?_
      case zrP=>(intro _ _;go_simp<;>rfl)
      simp only [Act.put,za,ze,zf]
      refine zA 6 161 ?z8f rfl ?zrQ (yO.out) ?_
      case zrQ=>(intro _ _;go_simp<;>rfl)
      simp only [Act.put,za,ze,zf]
      refine zT 7 rfl (fun K hK=> ?_)
      obtain⟨-,⟨q0,q1,q2⟩,⟨f0,f1,f2⟩,hset,hsn,hbe⟩:=HFX
      have zI:=qh hset
      have yY:=qh hsn
      have yg:=qh hbe
      clear hset hsn hbe
      go_simp
      refine hK.out _ _ (yO.out.trans yY.out (fun _ h=> .inl h)) (fun _=> ?_)
      clear hK K
      refine zA 8 9 ?z8g rfl ?zrR ((yO.out.trans yY.out (fun _ h=> .inl h))) ?_
      case zrR=>(intro _ _;go_simp<;>rfl)
      simp only [Act.put,za,ze,zf]
      refine wpAnyH_done (by kernel_rfl) ?_ _
      refine NoPanic.normal ?_
      go_wp2_with fail
      (try simp only [Exit.inBlock,Exit.then])
      refine bodyPost_ret (zy rfl _ _ (gx+3) 30 _ (0,0) _ rfl zI.out Tryz.underlying30 rfl zC) rfl ?_
      exact⟨xM zD.out (jI.out _ _ _ _ _ _ _ yj.out (yO.out.trans yY.out (fun _ h=> .inl h))),yg.out⟩
     have hm3:((mod:Int) !=2)=false:=by simp [hm2]
     have HM2:=qh hm2
     clear hm2
     have hres:R=none:=by
      rw [qW.out,bQ yQ.out.symm]
      rw [if_neg (fun h=>h.elim HB0.out (fun h=>h HM2.out))]
      rfl
     have zD:=qh hres
     clear hres
     have yG:=yx.out
     have yj:=qh yG
     clear yG
     refine wp_region_noPanic ?_
     refine wp_region_held_drew (S:=fun y=>Since (fun k=>k=gx+3) X4 y) (by kernel_rfl) (Since.refl _ _).drew (fun _=> ?_)
     obtain⟨wd,hwd⟩:∃wd,wd=X4.drew:=⟨_,rfl⟩
     rw [<-hwd]
     have HFX:=zY.out wd bad (by rw [hwd];exact yj.out.own.box) (by rw [hwd];exact yj.out.own.below.drew)
     have yO:Hid (Since (fun k=>k=gx+3) X4 wd):=by rw [Hid,hwd];exact(Since.refl _ _).drew
     clear hwd
     refine zA 0 155 ?zAJ rfl ?zva (yO.out) ?_
     case zva=>(intro x h;have e:=CZ.out x h;go_simp<;>rfl)
     simp only [Act.put,za,ze,zf]
     refine zA 1 156 ?z8h rfl ?zrS (yO.out) ?_
     case zrS=>(intro _ _;go_simp<;>rfl)
     simp only [Act.put,za,ze,zf]
     refine zA 2 157 ?z8i rfl ?zrT (yO.out) ?_
     case zrT=>(intro _ _;go_simp<;>rfl)
     simp only [Act.put,za,ze,zf]
     refine zA 3 158 ?z8j rfl ?zrU (yO.out) ?_
     case zrU=>(intro _ _;go_simp<;>rfl)
     simp only [Act.put,za,ze,zf]
     refine zA 4 159 ?z8k rfl ?zrV (yO.out) ?_
     case zrV=>(intro x h;have e:=CZ.out x h;go_simp<;>rfl)
     simp only [Act.put,za,ze,zf]
     refine zA 5 160 ?z8l rfl ?zrW (yO.out) ?_
     case zrW=>(intro _ _;go_simp<;>rfl)
     simp only [Act.put,za,ze,zf]
     refine zA 6 161 ?z8m rfl ?zrX (yO.out) ?_
     case zrX=>(intro _ _;go_simp<;>rfl)
     simp only [Act.put,za,ze,zf]
     refine zT 7 rfl (fun K hK=> ?_)
     obtain⟨-,⟨q0,q1,q2⟩,⟨f0,f1,f2⟩,hset,hsn,hbe⟩:=HFX
     have zI:=qh hset
     have yY:=qh hsn
     have yg:=qh hbe
     clear hset hsn hbe
     go_simp
     refine hK.out _ _ (yO.out.trans yY.out (fun _ h=> .inl h)) (fun _=> ?_)
     clear hK K
     refine zA 8 9 ?z8n rfl ?zrY ((yO.out.trans yY.out (fun _ h=> .inl h))) ?_
     case zrY=>(intro _ _;go_simp<;>rfl)
     simp only [Act.put,za,ze,zf]
     refine wpAnyH_done (by kernel_rfl) ?_ _
     refine NoPanic.normal ?_
     go_wp2_with fail
     (try simp only [Exit.inBlock,Exit.then])
     refine bodyPost_ret (zy rfl _ _ (gx+3) 30 _ (0,0) _ rfl zI.out Tryz.underlying30 rfl zC) rfl ?_
     exact⟨jH zD.out,yg.out⟩
  have p5:((op:Int)==5)=false:=by simp [o5]
  by_cases o6:op=6
  ·have qA:Hid ((6:Int)=x.op):=by rw [Hid, <-yQ.out,o6]
   clear yQ
   have yQ:=qA
   clear qA
   have p6:((op:Int)==6)=true:=by simp [o6]
   clear o6
   as_aux_lemma=>
    go_upto_region 30 with fail
    have z1:=zh yx.out.instr 1
    refine wp_region_still_tail 6 (by kernel_rfl) (by kernel_rfl) ?_
    simp only [List.take_succ_cons,List.take_zero,List.drop_succ_cons,List.drop_zero]
    repeat still_step
    try refine wpStill_nil ?_
    change wpList _ _ _ _ _ X4.drew
    obtain⟨X15,zoN⟩:∃wd,wd=X4.drew:=⟨_,rfl⟩
    rw [<-zoN]
    have zy0:Hid (Below X4.heap.size X4 X15):=by rw [Hid,zoN];exact(Below.refl _ _).drew
    clear zoN
    have zmq:=qh (yx.out.below zy0.out)
    clear z1
    obtain⟨u0,v0⟩:=zmq.out.kR bF.out kS.out kT.out (1+vS) (.int .i64 ([r0,r1,r2,r3].getD vS 0)) (by omega) (zbn bB)
    rw [<-Nat.add_assoc] at u0 v0
    have hw16:=zmq.out.set bF.out (k:=1+vS) (by omega) (t':=⟨(xQ:Int)+1,([r0,r1,r2,r3].set vS 0),bf⟩) (u:=(.int .i64 0)) kS.out kT.out (bS bB) (by simp) rfl
    rw [<-Nat.add_assoc] at hw16
    have zoO:=qh hw16
    clear hw16
    go_upto_region 31 with fail
    clear u0 v0
    generalize World.setCell X15 _ _=X16 at zoO ⊢
    obtain⟨zvc,zvd,zve,zvf⟩:=zoO.out
    have gV:=qh zvc
    have zqa:=qh zvd
    have zqb:=qh zve
    have zvg:=qh zvf
    clear zvc zvd zve zvf zoO
    obtain⟨nv,gG⟩:∃nv,nv=mem.getD q8 0:=⟨_,rfl⟩
    obtain⟨sb,so,hsa, -,hsc⟩:=xH.part zbg.out q8 (by rw [<-vH.out];omega)
    subst hsa
    rw [<-gG] at hsc
    have uN:=qh gG
    clear gG
    have s1:=zm gV.out.own.below _ _ hsc
    have c6:=(yJ.out _ gV.out.own.below).2.2.2.2.2.2.1
    have jU:(q8:Int)<(mn:Int):=by omega
    have z2:=zh gV.out.instr 2
    by_cases ha0:nv=A
    rotate_left
    ·have ha1:((nv:Int)==A)=false:=by simp [ha0]
     have uS:=qh ha0
     clear ha0
     go_upto_region 34 with fail
     clear z2 s1 c6 hsc jU ha1
     cases em with
     |true=>
      have hb0:bf.length=0:=by rw [<-vD.out];exact of_decide_eq_true HEM.out.symm
      have HB0:=qh hb0
      clear hb0
      have hres:R=some ⟨ts.set i ⟨(xQ:Int)+1, [r0,r1,r2,r3].set vS 0,bf⟩,mem,bad⟩:=by
       rw [qW.out,zbm yQ.out.symm (by rw [<-pW.out, <-HA.out];exact fun e=>uS.out (uN.out.trans e)),if_pos HB0.out]
       simp only [Option.map_some]
       rw [<-HRG.out]
       rfl
      have zD:=qh hres
      clear hres
      have yG:=gV.out
      rw [wW.out] at yG
      have yj:=qh yG
      clear yG
      obtain⟨⟨a0,a1,a2⟩,⟨q0,q1,q2⟩,⟨f0,f1,f2⟩,hset,hsn,hbe⟩:=zY.out X16 bad yj.out.own.box yj.out.own.below
      have zI:=qh hset
      have yY:=qh hsn
      have yg:=qh hbe
      clear hset hsn hbe
      go_wp2_with fail
      (try simp only [Exit.inBlock,Exit.then])
      refine bodyPost_ret (zy rfl _ _ (gx+3) 30 _ (0,0) _ rfl zI.out Tryz.underlying30 rfl zC) rfl ?_
      exact⟨xM zD.out (jI.out _ _ _ _ _ _ _ yj.out yY.out),yg.out⟩
     |false=>
      have hb0:¬bf.length=0:=by rw [<-vD.out];exact of_decide_eq_false HEM.out.symm
      have HB0:=qh hb0
      clear hb0
      have hres:R=none:=by
       rw [qW.out,zbm yQ.out.symm (by rw [<-pW.out, <-HA.out];exact fun e=>uS.out (uN.out.trans e)),if_neg HB0.out]
       rfl
      have zD:=qh hres
      clear hres
      have yG:=gV.out
      have yj:=qh yG
      clear yG
      obtain⟨⟨a0,a1,a2⟩,⟨q0,q1,q2⟩,⟨f0,f1,f2⟩,hset,hsn,hbe⟩:=zY.out X16 bad yj.out.own.box yj.out.own.below
      have zI:=qh hset
      have yY:=qh hsn
      have yg:=qh hbe
      clear hset hsn hbe
      go_wp2_with fail
      (try simp only [Exit.inBlock,Exit.then])
      refine bodyPost_ret (zy rfl _ _ (gx+3) 30 _ (0,0) _ rfl zI.out Tryz.underlying30 rfl zC) rfl ?_
      exact⟨jH zD.out,yg.out⟩
    have ha1:((nv:Int)==A)=true:=by simp [ha0]
    have uS:=qh ha0
    clear ha0
    go_upto_region 32 with fail
    clear z2 s1 c6 hsc jU ha1
    go_upto_region 32 with fail
    have z2:=zh gV.out.instr 2
    have hbx:=gV.out.own.box
    have g1:=zh hbx 1
    clear hbx
    have hml:q8<mem.length:=by rw [<-vH.out];omega
    obtain⟨m0,m1⟩:=gV.out.zf7 hml
    have jU:(q8:Int)<(mn:Int):=by omega
    have zgJ:=qh (gV.out.mem q8 B)
    clear hml
    go_upto_region 33 with fail
    clear z2 g1 m0 m1 jU
    generalize World.setCell X16 _ _=X17 at zgJ ⊢
    go_upto_region 33 with fail
    have z1:=zh zgJ.out.instr 1
    refine wp_region_still_tail 6 (by kernel_rfl) (by kernel_rfl) ?_
    simp only [List.take_succ_cons,List.take_zero,List.drop_succ_cons,List.drop_zero]
    repeat still_step
    try refine wpStill_nil ?_
    change wpList _ _ _ _ _ X17.drew
    obtain⟨X18,zoP⟩:∃wd,wd=X17.drew:=⟨_,rfl⟩
    rw [<-zoP]
    have zy1:Hid (Below X17.heap.size X17 X18):=by rw [Hid,zoP];exact(Below.refl _ _).drew
    clear zoP
    have zmr:=qh (zgJ.out.below zy1.out)
    clear z1
    obtain⟨u0,v0⟩:=zmr.out.kR zvg.out zqa.out zqb.out (1+vS) (.int .i64 ([0,0,0,0].getD vS 0)) (by omega) (zmg bB)
    rw [<-Nat.add_assoc] at u0 v0
    have zoQ:=zmr.out.set zvg.out (k:=1+vS) (by omega) (t':=⟨(xQ:Int)+1,([r0,r1,r2,r3].set vS 1),bf⟩) (u:=(.int .i64 1)) zqa.out zqb.out (zh4 bB) (by simp) rfl
    rw [<-Nat.add_assoc] at zoQ
    have zoR:=qh zoQ
    clear zoQ
    go_upto_region 34 with fail
    clear u0 v0
    generalize World.setCell X18 _ _=X19 at zoR ⊢
    obtain⟨zvh,zvi,zvj,zvk⟩:=zoR.out
    have zms:=qh zvh
    have zAK:=qh zvi
    have zAL:=qh zvj
    have zCQ:=qh zvk
    clear zvh zvi zvj zvk zoR
    cases em with
    |true=>
     have hb0:bf.length=0:=by rw [<-vD.out];exact of_decide_eq_true HEM.out.symm
     have HB0:=qh hb0
     clear hb0
     have hres:R=some ⟨ts.set i ⟨(xQ:Int)+1, [r0,r1,r2,r3].set vS 1,bf⟩,(mem.set q8 B),bad⟩:=by
      rw [qW.out,zbl yQ.out.symm (by rw [<-pW.out, <-HA.out, <-uS.out,uN.out];rfl),if_pos HB0.out]
      simp only [Option.map_some]
      rw [<-pW.out, <-yg.out, <-HRG.out]
      rfl
     have zD:=qh hres
     clear hres
     have yG:=zms.out
     rw [List.set_set,wW.out] at yG
     have yj:=qh yG
     clear yG
     obtain⟨⟨a0,a1,a2⟩,⟨q0,q1,q2⟩,⟨f0,f1,f2⟩,hset,hsn,hbe⟩:=zY.out X19 bad yj.out.own.box yj.out.own.below
     have zI:=qh hset
     have yY:=qh hsn
     have yg:=qh hbe
     clear hset hsn hbe
     go_wp2_with fail
     (try simp only [Exit.inBlock,Exit.then])
     refine bodyPost_ret (zy rfl _ _ (gx+3) 30 _ (0,0) _ rfl zI.out Tryz.underlying30 rfl zC) rfl ?_
     exact⟨xM zD.out (jI.out _ _ _ _ _ _ _ yj.out yY.out),yg.out⟩
    |false=>
     have hb0:¬bf.length=0:=by rw [<-vD.out];exact of_decide_eq_false HEM.out.symm
     have HB0:=qh hb0
     clear hb0
     have hres:R=none:=by
      rw [qW.out,zbl yQ.out.symm (by rw [<-pW.out, <-HA.out, <-uS.out,uN.out];rfl),if_neg HB0.out]
      rfl
     have zD:=qh hres
     clear hres
     have yG:=zms.out
     have yj:=qh yG
     clear yG
     obtain⟨⟨a0,a1,a2⟩,⟨q0,q1,q2⟩,⟨f0,f1,f2⟩,hset,hsn,hbe⟩:=zY.out X19 bad yj.out.own.box yj.out.own.below
     have zI:=qh hset
     have yY:=qh hsn
     have yg:=qh hbe
     clear hset hsn hbe
     go_wp2_with fail
     (try simp only [Exit.inBlock,Exit.then])
     refine bodyPost_ret (zy rfl _ _ (gx+3) 30 _ (0,0) _ rfl zI.out Tryz.underlying30 rfl zC) rfl ?_
     exact⟨jH zD.out,yg.out⟩
  have p6:((op:Int)==6)=false:=by simp [o6]
  by_cases o7:op=7
  ·have qA:Hid ((7:Int)=x.op):=by rw [Hid, <-yQ.out,o7]
   clear yQ
   have yQ:=qA
   clear qA
   have p7:((op:Int)==7)=true:=by simp [o7]
   clear o7
   as_aux_lemma=>
    obtain⟨nv,gG⟩:∃nv,nv=mem.getD q8 0:=⟨_,rfl⟩
    obtain⟨sb,so,hsa,hsb,hsc⟩:=xH.part zbg.out q8 (by rw [<-vH.out];omega)
    subst hsa
    rw [<-gG] at hsc
    have uN:=qh gG
    have HSC:=qh hsc
    clear gG hsc hsb
    obtain⟨sb2,so2,he2,z3V, -⟩:=xH.part z3L.out q8 (by rw [<-vH.out];omega)
    cases he2
    have HSG:Hid (¬sb=gx+3):=fun e=>by have:=xO.out;omega
    clear z3V
    go_upto_region 36 with fail
    have z2:=zh yx.out.instr 2
    have hbx:=yx.out.own.box
    have g1:=zh hbx 1
    clear hbx
    have hml:q8<mem.length:=by rw [<-vH.out];omega
    obtain⟨m0,m1⟩:=yx.out.zf7 hml
    have jU:(q8:Int)<(mn:Int):=by omega
    have gW:=qh (yx.out.mem q8 1)
    clear hml
    go_upto_region 37 with fail
    clear z2 g1 m0 m1 jU
    generalize World.setCell X4 _ _=X20 at gW ⊢
    have jU:(q8:Int)<(mn:Int):=by omega
    have CZ:Hid (∀y,Since (fun k=>k=gx+3) X20 y->y.cell? ⟨gb,0,none⟩=some (.slice (some ⟨tb,0,none⟩) n xc)/\y.cell? ⟨gb,1,none⟩=some (.slice (some ⟨mb,0,none⟩) mn yc)/\y.cell? ⟨gb,2,none⟩=some (.bool bad)/\y.cell? ⟨gx+2,1,none⟩=some (.slice (some ⟨sb,so,none⟩) mn yZ)/\y.cell? ⟨gi,2,none⟩=some (.int .i64 q8)/\y.cell? ⟨sb,so+q8,none⟩=some (.int .i64 nv)):=fun y hy=>by
     have h1:=gW.out.own.box
     have hlo:=gW.out.own.lo
     have hlt:=zJ H4.out
     have h2:=(hy.block _ (zJ h1) (by omega)).trans h1
     have h3:=(gW.out.own.below.block _ (zJ H3.out)).trans H3.out
     have h4:=(hy.block _ (zJ h3) (by omega)).trans h3
     have h5:=gW.out.instr
     have h6:=(hy.block _ (zJ h5) HGI.out).trans h5
     have h7:=zm gW.out.own.below _ _ HSC.out
     have h8:=(hy.cell (p:=⟨sb,so+q8,none⟩) (World.block_lt_of_cell? _ _ h7) HSG.out).trans h7
     exact⟨zh h2 0,zh h2 1,zh h2 2,zh h4 1,zh h6 2,h8⟩
    cases em with
    |true=>
     have hb0:bf.length=0:=by rw [<-vD.out];exact of_decide_eq_true HEM.out.symm
     have HB0:=qh hb0
     clear hb0
     by_cases ha0:nv=0
     rotate_left
     ·have ha1:((nv:Int)==0)=false:=by simp [ha0]
      have uS:=qh ha0
      clear ha0
      have hres:R=none:=by
       rw [qW.out,bR yQ.out.symm]
       rw [if_neg (fun h=>uS.out (by have:=h.2;rw [<-pW.out] at this;exact uN.out.trans this))]
       rfl
      have zD:=qh hres
      clear hres
      have yG:=gW.out
      have yj:=qh yG
      clear yG
      refine wp_region_noPanic ?_
      refine wp_region_held_drew (S:=fun y=>Since (fun k=>k=gx+3) X20 y) (by kernel_rfl) (Since.refl _ _).drew (fun _=> ?_)
      obtain⟨wd,hwd⟩:∃wd,wd=X20.drew:=⟨_,rfl⟩
      rw [<-hwd]
      have HFX:=zY.out wd bad (by rw [hwd];exact yj.out.own.box) (by rw [hwd];exact yj.out.own.below.drew)
      have yO:Hid (Since (fun k=>k=gx+3) X20 wd):=by rw [Hid,hwd];exact(Since.refl _ _).drew
      clear hwd
      refine zA 0 199 ?z8q rfl ?zrZ (yO.out) ?_
      case zrZ=>(intro x h;have e:=CZ.out x h;go_simp<;>rfl)
      simp only [Act.put,za,ze,zf]
      refine zA 1 200 ?z8r rfl ?zsa (yO.out) ?_
      case zsa=>(intro _ _;go_simp<;>rfl)
      simp only [Act.put,za,ze,zf]
      refine zA 2 201 ?z8s rfl ?zsb (yO.out) ?_
      case zsb=>(intro _ _;go_simp<;>rfl)
      simp only [Act.put,za,ze,zf]
      refine zA 3 202 ?z8t rfl ?zsc (yO.out) ?_
      case zsc=>(intro _ _;go_simp<;>rfl)
      simp only [Act.put,za,ze,zf]
      refine zA 4 203 ?z8u rfl ?zsd (yO.out) ?_
      case zsd=>(intro x h;have e:=CZ.out x h;go_simp<;>rfl)
      simp only [Act.put,za,ze,zf]
      refine zA 5 204 ?z8v rfl ?zse (yO.out) ?_
      case zse=>(intro _ _;go_simp<;>rfl)
      simp only [Act.put,za,ze,zf]
      refine zA 6 205 ?z8w rfl ?zsf (yO.out) ?_
      case zsf=>(intro x h;have e:=CZ.out x h;go_simp<;>rfl)
      simp only [Act.put,za,ze,zf]
      refine zA 7 206 ?z8x rfl ?zsg (yO.out) ?_
      case zsg=>(intro _ _;go_simp<;>rfl)
      simp only [Act.put,za,ze,zf]
      refine zA 8 207 ?z8y rfl ?zsh (yO.out) ?_
      case zsh=>(intro x h;have e:=CZ.out x h;go_simp<;>rfl)
      simp only [Act.put,za,ze,zf]
      refine zA 9 208 ?z8z rfl ?zsi (yO.out) ?_
      case zsi=>(intro _ _;go_simp<;>rfl)
      simp only [Act.put,za,ze,zf]
      refine zA 10 209 ?z81 rfl ?zsj (yO.out) ?_
      case zsj=>(intro _ _;go_simp<;>rfl)
      simp only [Act.put,za,ze,zf]
      refine zT 11 rfl (fun K hK=> ?_)
      obtain⟨-,⟨q0,q1,q2⟩,⟨f0,f1,f2⟩,hset,hsn,hbe⟩:=HFX
      have zI:=qh hset
      have yY:=qh hsn
      have yg:=qh hbe
      clear hset hsn hbe
      go_simp
      refine hK.out _ _ (yO.out.trans yY.out (fun _ h=> .inl h)) (fun _=> ?_)
      clear hK K
      refine zA 12 9 ?z88 rfl ?zsk ((yO.out.trans yY.out (fun _ h=> .inl h))) ?_
      case zsk=>(intro _ _;go_simp<;>rfl)
      simp only [Act.put,za,ze,zf]
      refine wpAnyH_done (by kernel_rfl) ?_ _
      refine NoPanic.normal ?_
      go_wp2_with fail
      (try simp only [Exit.inBlock,Exit.then])
      refine bodyPost_ret (zy rfl _ _ (gx+3) 30 _ (0,0) _ rfl zI.out Tryz.underlying30 rfl zC) rfl ?_
      exact⟨jH zD.out,yg.out⟩
     have ha1:((nv:Int)==0)=true:=by simp [ha0]
     have uS:=qh ha0
     clear ha0
     have hres:R=some ⟨uR,(mem.set q8 1),bad⟩:=by
      rw [qW.out,bR yQ.out.symm]
      rw [if_pos ⟨HB0.out,by rw [<-pW.out];exact uN.out.symm.trans uS.out⟩]
      simp only [Option.map_some]
      rw [<-pW.out,HT1.out]
      rfl
     have zD:=qh hres
     clear hres
     have yG:=gW.out
     have yj:=qh yG
     clear yG
     refine wp_region_noPanic ?_
     refine wp_region_held_drew (S:=fun y=>Since (fun k=>k=gx+3) X20 y) (by kernel_rfl) (Since.refl _ _).drew (fun _=> ?_)
     obtain⟨wd,hwd⟩:∃wd,wd=X20.drew:=⟨_,rfl⟩
     rw [<-hwd]
     have HFX:=zY.out wd bad (by rw [hwd];exact yj.out.own.box) (by rw [hwd];exact yj.out.own.below.drew)
     have yO:Hid (Since (fun k=>k=gx+3) X20 wd):=by rw [Hid,hwd];exact(Since.refl _ _).drew
     clear hwd
     refine zA 0 199 ?z8A rfl ?zsl (yO.out) ?_
     case zsl=>(intro x h;have e:=CZ.out x h;go_simp<;>rfl)
     simp only [Act.put,za,ze,zf]
     refine zA 1 200 ?z8B rfl ?zsm (yO.out) ?_
     case zsm=>(intro _ _;go_simp<;>rfl)
     simp only [Act.put,za,ze,zf]
     refine zA 2 201 ?z8C rfl ?zsn (yO.out) ?_
     case zsn=>(intro _ _;go_simp<;>rfl)
     simp only [Act.put,za,ze,zf]
     refine zA 3 202 ?z8D rfl ?zso (yO.out) ?_
     case zso=>(intro _ _;go_simp<;>rfl)
     simp only [Act.put,za,ze,zf]
     refine zA 4 203 ?z8E rfl ?zsp (yO.out) ?_
     case zsp=>(intro x h;have e:=CZ.out x h;go_simp<;>rfl)
     simp only [Act.put,za,ze,zf]
     refine zA 5 204 ?z8F rfl ?zsq (yO.out) ?_
     case zsq=>(intro _ _;go_simp<;>rfl)
     simp only [Act.put,za,ze,zf]
     refine zA 6 205 ?z8G rfl ?zsr (yO.out) ?_
     case zsr=>(intro x h;have e:=CZ.out x h;go_simp<;>rfl)
     simp only [Act.put,za,ze,zf]
     refine zA 7 206 ?z8H rfl ?zss (yO.out) ?_
     case zss=>(intro _ _;go_simp<;>rfl)
     simp only [Act.put,za,ze,zf]
     refine zA 8 207 ?z8I rfl ?zst (yO.out) ?_
     case zst=>(intro x h;have e:=CZ.out x h;go_simp<;>rfl)
     simp only [Act.put,za,ze,zf]
     refine zA 9 208 ?z8J rfl ?zsu (yO.out) ?_
     case zsu=>(intro _ _;go_simp<;>rfl)
     simp only [Act.put,za,ze,zf]
     refine zA 10 209 ?z8K rfl ?zsv (yO.out) ?_
     case zsv=>(intro _ _;go_simp<;>rfl)
     simp only [Act.put,za,ze,zf]
     refine zT 11 rfl (fun K hK=> ?_)
     obtain⟨-,⟨q0,q1,q2⟩,⟨f0,f1,f2⟩,hset,hsn,hbe⟩:=HFX
     have zI:=qh hset
     have yY:=qh hsn
     have yg:=qh hbe
     clear hset hsn hbe
     go_simp
     refine hK.out _ _ (yO.out.trans yY.out (fun _ h=> .inl h)) (fun _=> ?_)
     clear hK K
     refine zA 12 9 ?z8L rfl ?zsw ((yO.out.trans yY.out (fun _ h=> .inl h))) ?_
     case zsw=>(intro _ _;go_simp<;>rfl)
     simp only [Act.put,za,ze,zf]
     refine wpAnyH_done (by kernel_rfl) ?_ _
     refine NoPanic.normal ?_
     go_wp2_with fail
     (try simp only [Exit.inBlock,Exit.then])
     refine bodyPost_ret (zy rfl _ _ (gx+3) 30 _ (0,0) _ rfl zI.out Tryz.underlying30 rfl zC) rfl ?_
     exact⟨xM zD.out (jI.out _ _ _ _ _ _ _ yj.out (yO.out.trans yY.out (fun _ h=> .inl h))),yg.out⟩
    |false=>
     have hb0:¬bf.length=0:=by rw [<-vD.out];exact of_decide_eq_false HEM.out.symm
     have HB0:=qh hb0
     clear hb0
     have hres:R=none:=by
      rw [qW.out,bR yQ.out.symm]
      rw [if_neg (fun h=>HB0.out h.1)]
      rfl
     have zD:=qh hres
     clear hres
     have yG:=gW.out
     have yj:=qh yG
     clear yG
     refine wp_region_noPanic ?_
     refine wp_region_held_drew (S:=fun y=>Since (fun k=>k=gx+3) X20 y) (by kernel_rfl) (Since.refl _ _).drew (fun _=> ?_)
     obtain⟨wd,hwd⟩:∃wd,wd=X20.drew:=⟨_,rfl⟩
     rw [<-hwd]
     have HFX:=zY.out wd bad (by rw [hwd];exact yj.out.own.box) (by rw [hwd];exact yj.out.own.below.drew)
     have yO:Hid (Since (fun k=>k=gx+3) X20 wd):=by rw [Hid,hwd];exact(Since.refl _ _).drew
     clear hwd
     refine zA 0 199 ?z8M rfl ?zsx (yO.out) ?_
     case zsx=>(intro x h;have e:=CZ.out x h;go_simp<;>rfl)
     simp only [Act.put,za,ze,zf]
     refine zA 1 200 ?z8N rfl ?zsy (yO.out) ?_
     case zsy=>(intro _ _;go_simp<;>rfl)
     simp only [Act.put,za,ze,zf]
     refine zA 2 201 ?z8O rfl ?zsz (yO.out) ?_
     case zsz=>(intro _ _;go_simp<;>rfl)
     simp only [Act.put,za,ze,zf]
     refine wpAnyH_take (i:=3) (v:=undef) rfl (by kernel_rfl) (by kernel_rfl) (by kernel_rfl) (fun _ _ _ h=>h) (Or.inr ⟨by rfl,rfl⟩) (yO.out) ?_
     change wpAnyH _ _ _ _ _ _ _ (Act.put _ (some 202) _) _
     simp only [Act.put,za]
     try simp only [ze,zf]
     refine wpAnyH_take (i:=4) (v:=undef) rfl (by kernel_rfl) (by kernel_rfl) (by kernel_rfl) (fun _ _ _ h=>h) (Or.inr ⟨by rfl,rfl⟩) (yO.out) ?_
     change wpAnyH _ _ _ _ _ _ _ (Act.put _ (some 203) _) _
     simp only [Act.put,za]
     try simp only [ze,zf]
     refine wpAnyH_take (i:=5) (v:=undef) rfl (by kernel_rfl) (by kernel_rfl) (by kernel_rfl) (fun _ _ _ h=>h) (Or.inr ⟨by rfl,rfl⟩) (yO.out) ?_
     change wpAnyH _ _ _ _ _ _ _ (Act.put _ (some 204) _) _
     simp only [Act.put,za]
     try simp only [ze,zf]
     refine wpAnyH_take (i:=6) (v:=undef) rfl (by kernel_rfl) (by kernel_rfl) (by kernel_rfl) (fun _ _ _ h=>h) (Or.inr ⟨by rfl,rfl⟩) (yO.out) ?_
     change wpAnyH _ _ _ _ _ _ _ (Act.put _ (some 205) _) _
     simp only [Act.put,za]
     try simp only [ze,zf]
     refine wpAnyH_take (i:=7) (v:=undef) rfl (by kernel_rfl) (by kernel_rfl) (by kernel_rfl) (fun _ _ _ h=>h) (Or.inr ⟨by rfl,rfl⟩) (yO.out) ?_
     change wpAnyH _ _ _ _ _ _ _ (Act.put _ (some 206) _) _
     simp only [Act.put,za]
     try simp only [ze,zf]
     refine wpAnyH_take (i:=8) (v:=undef) rfl (by kernel_rfl) (by kernel_rfl) (by kernel_rfl) (fun _ _ _ h=>h) (Or.inr ⟨by rfl,rfl⟩) (yO.out) ?_
     change wpAnyH _ _ _ _ _ _ _ (Act.put _ (some 207) _) _
     simp only [Act.put,za]
     try simp only [ze,zf]
     refine wpAnyH_take (i:=9) (v:=undef) rfl (by kernel_rfl) (by kernel_rfl) (by kernel_rfl) (fun _ _ _ h=>h) (Or.inr ⟨by rfl,rfl⟩) (yO.out) ?_
     change wpAnyH _ _ _ _ _ _ _ (Act.put _ (some 208) _) _
     simp only [Act.put,za]
     try simp only [ze,zf]
     refine zA 10 209 ?z8P rfl ?zs3 (yO.out) ?_
     case zs3=>(intro _ _;go_simp<;>rfl)
     simp only [Act.put,za,ze,zf]
     refine zT 11 rfl (fun K hK=> ?_)
     obtain⟨-,⟨q0,q1,q2⟩,⟨f0,f1,f2⟩,hset,hsn,hbe⟩:=HFX
     have zI:=qh hset
     have yY:=qh hsn
     have yg:=qh hbe
     clear hset hsn hbe
     go_simp
     refine hK.out _ _ (yO.out.trans yY.out (fun _ h=> .inl h)) (fun _=> ?_)
     clear hK K
     refine zA 12 9 ?z8Q rfl ?zs4 ((yO.out.trans yY.out (fun _ h=> .inl h))) ?_
     case zs4=>(intro _ _;go_simp<;>rfl)
     simp only [Act.put,za,ze,zf]
     refine wpAnyH_done (by kernel_rfl) ?_ _
     refine NoPanic.normal ?_
     go_wp2_with fail
     (try simp only [Exit.inBlock,Exit.then])
     refine bodyPost_ret (zy rfl _ _ (gx+3) 30 _ (0,0) _ rfl zI.out Tryz.underlying30 rfl zC) rfl ?_
     exact⟨jH zD.out,yg.out⟩
  have p7:((op:Int)==7)=false:=by simp [o7]
  by_cases o8:op=8
  ·have qA:Hid ((8:Int)=x.op):=by rw [Hid, <-yQ.out,o8]
   clear yQ
   have yQ:=qA
   clear qA
   have p8:((op:Int)==8)=true:=by simp [o8]
   clear o8
   as_aux_lemma=>
    go_upto_region 39 with fail
    have z2:=zh yx.out.instr 2
    have hbx:=yx.out.own.box
    have g1:=zh hbx 1
    clear hbx
    have hml:q8<mem.length:=by rw [<-vH.out];omega
    obtain⟨m0,m1⟩:=yx.out.zf7 hml
    have jU:(q8:Int)<(mn:Int):=by omega
    have zgK:=qh (yx.out.mem q8 0)
    clear hml
    go_upto_region 40 with fail
    clear z2 g1 m0 m1 jU
    generalize World.setCell X4 _ _=X24 at zgK ⊢
    cases em with
    |true=>
     have hb0:bf.length=0:=by rw [<-vD.out];exact of_decide_eq_true HEM.out.symm
     have HB0:=qh hb0
     clear hb0
     have hres:R=some ⟨uR,(mem.set q8 0),bad⟩:=by
      rw [qW.out,pR yQ.out.symm]
      rw [if_pos HB0.out]
      simp only [Option.map_some]
      rw [<-pW.out,HT1.out]
      rfl
     have zD:=qh hres
     clear hres
     have yG:=zgK.out
     have yj:=qh yG
     clear yG
     obtain⟨⟨a0,a1,a2⟩,⟨q0,q1,q2⟩,⟨f0,f1,f2⟩,hset,hsn,hbe⟩:=zY.out X24 bad yj.out.own.box yj.out.own.below
     have zI:=qh hset
     have yY:=qh hsn
     have yg:=qh hbe
     clear hset hsn hbe
     go_wp2_with fail
     (try simp only [Exit.inBlock,Exit.then])
     refine bodyPost_ret (zy rfl _ _ (gx+3) 30 _ (0,0) _ rfl zI.out Tryz.underlying30 rfl zC) rfl ?_
     exact⟨xM zD.out (jI.out _ _ _ _ _ _ _ yj.out yY.out),yg.out⟩
    |false=>
     have hb0:¬bf.length=0:=by rw [<-vD.out];exact of_decide_eq_false HEM.out.symm
     have HB0:=qh hb0
     clear hb0
     have hres:R=none:=by
      rw [qW.out,pR yQ.out.symm]
      rw [if_neg HB0.out]
      rfl
     have zD:=qh hres
     clear hres
     have yG:=zgK.out
     have yj:=qh yG
     clear yG
     obtain⟨⟨a0,a1,a2⟩,⟨q0,q1,q2⟩,⟨f0,f1,f2⟩,hset,hsn,hbe⟩:=zY.out X24 bad yj.out.own.box yj.out.own.below
     have zI:=qh hset
     have yY:=qh hsn
     have yg:=qh hbe
     clear hset hsn hbe
     go_wp2_with fail
     (try simp only [Exit.inBlock,Exit.then])
     refine bodyPost_ret (zy rfl _ _ (gx+3) 30 _ (0,0) _ rfl zI.out Tryz.underlying30 rfl zC) rfl ?_
     exact⟨jH zD.out,yg.out⟩
  have p8:((op:Int)==8)=false:=by simp [o8]
  by_cases o9:op=9
  ·have qA:Hid ((9:Int)=x.op):=by rw [Hid, <-yQ.out,o9]
   clear yQ
   have yQ:=qA
   clear qA
   have p9:((op:Int)==9)=true:=by simp [o9]
   clear o9
   as_aux_lemma=>
    go_upto_region 42 with fail
    have hbx:=yx.out.own.box
    have g2:=zh hbx 2
    have h2:=zK hbx 2
    clear hbx
    cases bad with
    |true=>
     have zmt:=qh (yx.out.isBad true)
     go_upto_region 48 with fail
     clear g2 h2
     generalize World.setCell X4 _ _=X25 at zmt ⊢
     have hres:R=some ⟨uR,mem,true⟩:=by
      rw [qW.out,gT yQ.out.symm]
      rw [HT1.out]
      rfl
     have zD:=qh hres
     clear hres
     have yG:=zmt.out
     have yj:=qh yG
     clear yG
     obtain⟨⟨a0,a1,a2⟩,⟨q0,q1,q2⟩,⟨f0,f1,f2⟩,hset,hsn,hbe⟩:=zY.out X25 true yj.out.own.box yj.out.own.below
     have zI:=qh hset
     have yY:=qh hsn
     have yg:=qh hbe
     clear hset hsn hbe
     go_wp2_with fail
     (try simp only [Exit.inBlock,Exit.then])
     refine bodyPost_ret (zy rfl _ _ (gx+3) 30 _ (0,0) _ rfl zI.out Tryz.underlying30 rfl zC) rfl ?_
     exact⟨xM zD.out (jI.out _ _ _ _ _ _ _ yj.out yY.out),yg.out⟩
    |false=>
     by_cases ha0:A=0
     rotate_left
     ·have ha1:((A:Int)==0)=false:=by simp [ha0]
      have uS:=qh ha0
      clear ha0
      have zmu:=qh (yx.out.isBad false)
      go_upto_region 48 with fail
      clear g2 h2
      generalize World.setCell X4 _ _=X27 at zmu ⊢
      have hres:R=some ⟨uR,mem,false⟩:=by
       rw [qW.out,gT yQ.out.symm]
       rw [HT1.out, <-HA.out,decide_eq_false uS.out]
       rfl
      have zD:=qh hres
      clear hres
      have yG:=zmu.out
      have yj:=qh yG
      clear yG
      obtain⟨⟨a0,a1,a2⟩,⟨q0,q1,q2⟩,⟨f0,f1,f2⟩,hset,hsn,hbe⟩:=zY.out X27 false yj.out.own.box yj.out.own.below
      have zI:=qh hset
      have yY:=qh hsn
      have yg:=qh hbe
      clear hset hsn hbe
      go_wp2_with fail
      (try simp only [Exit.inBlock,Exit.then])
      refine bodyPost_ret (zy rfl _ _ (gx+3) 30 _ (0,0) _ rfl zI.out Tryz.underlying30 rfl zC) rfl ?_
      exact⟨xM zD.out (jI.out _ _ _ _ _ _ _ yj.out yY.out),yg.out⟩
     have ha1:((A:Int)==0)=true:=by simp [ha0]
     have uS:=qh ha0
     clear ha0
     have zmv:=qh (yx.out.isBad true)
     go_upto_region 48 with fail
     clear g2 h2
     generalize World.setCell X4 _ _=X26 at zmv ⊢
     have hres:R=some ⟨uR,mem,true⟩:=by
      rw [qW.out,gT yQ.out.symm]
      rw [HT1.out, <-HA.out,decide_eq_true uS.out]
      rfl
     have zD:=qh hres
     clear hres
     have yG:=zmv.out
     have yj:=qh yG
     clear yG
     obtain⟨⟨a0,a1,a2⟩,⟨q0,q1,q2⟩,⟨f0,f1,f2⟩,hset,hsn,hbe⟩:=zY.out X26 true yj.out.own.box yj.out.own.below
     have zI:=qh hset
     have yY:=qh hsn
     have yg:=qh hbe
     clear hset hsn hbe
     go_wp2_with fail
     (try simp only [Exit.inBlock,Exit.then])
     refine bodyPost_ret (zy rfl _ _ (gx+3) 30 _ (0,0) _ rfl zI.out Tryz.underlying30 rfl zC) rfl ?_
     exact⟨xM zD.out (jI.out _ _ _ _ _ _ _ yj.out yY.out),yg.out⟩
  have p9:((op:Int)==9)=false:=by simp [o9]
  by_cases o12:op=12
  rotate_left
  ·have p12:((op:Int)==12)=false:=by simp [o12]
   by_cases o13:op=13
   rotate_left
   ·have p13:((op:Int)==13)=false:=by simp [o13]
    as_aux_lemma=>
     go_upto_region 48 with fail
     have hres:R=some ⟨uR,mem,bad⟩:=by
      rw [qW.out,zh2 (by rw [<-yQ.out];exact o1) (by rw [<-yQ.out];exact o2) (by rw [<-yQ.out];exact o3) (by rw [<-yQ.out];exact o4) (by rw [<-yQ.out];exact o5) (by rw [<-yQ.out];exact o6) (by rw [<-yQ.out];exact o7) (by rw [<-yQ.out];exact o8) (by rw [<-yQ.out];exact o9) (by rw [<-yQ.out];exact o12) (by rw [<-yQ.out];exact o13),HT1.out]
      rfl
     have zD:=qh hres
     clear hres
     have yG:=yx.out
     have yj:=qh yG
     clear yG
     obtain⟨⟨a0,a1,a2⟩,⟨q0,q1,q2⟩,⟨f0,f1,f2⟩,hset,hsn,hbe⟩:=zY.out X4 bad yj.out.own.box yj.out.own.below
     have zI:=qh hset
     have yY:=qh hsn
     have yg:=qh hbe
     clear hset hsn hbe
     go_wp2_with fail
     (try simp only [Exit.inBlock,Exit.then])
     refine bodyPost_ret (zy rfl _ _ (gx+3) 30 _ (0,0) _ rfl zI.out Tryz.underlying30 rfl zC) rfl ?_
     exact⟨xM zD.out (jI.out _ _ _ _ _ _ _ yj.out yY.out),yg.out⟩
   have qA:Hid ((13:Int)=x.op):=by rw [Hid, <-yQ.out,o13]
   clear yQ
   have yQ:=qA
   clear qA
   have p13:((op:Int)==13)=true:=by simp [o13]
   clear o13
   as_aux_lemma=>
    go_upto_region 47 with fail
    have z11:=zh yx.out.instr 11
    obtain⟨u0,v0⟩:=yx.out.kR bF.out kS.out kT.out 0 (.int .i64 ((xQ:Int)+1)) (by omega) rfl
    rw [Nat.add_zero] at u0 v0
    have zoS:=yx.out.set bF.out (k:=0) (by omega) (t':=⟨dst, [r0,r1,r2,r3],bf⟩) (u:=(.int .i64 dst)) kS.out kT.out rfl (by simp) rfl
    rw [Nat.add_zero] at zoS
    have zoT:=qh zoS
    clear zoS
    go_upto_region 48 with fail
    clear u0 v0 z11
    generalize World.setCell X4 _ _=X29 at zoT ⊢
    obtain⟨zvl,zvm,zvn,zvo⟩:=zoT.out
    have zvp:=qh zvl
    have zAM:=qh zvm
    have zAN:=qh zvn
    have zCR:=qh zvo
    clear zvl zvm zvn zvo zoT
    have hres:R=some ⟨ts.set i ⟨dst, [r0,r1,r2,r3],bf⟩,mem,bad⟩:=by
     rw [qW.out,zdP yQ.out.symm]
     simp only [Option.map_some]
     rw [<-HDS.out]
    have zD:=qh hres
    clear hres
    have yG:=zvp.out
    rw [wW.out] at yG
    have yj:=qh yG
    clear yG
    obtain⟨⟨a0,a1,a2⟩,⟨q0,q1,q2⟩,⟨f0,f1,f2⟩,hset,hsn,hbe⟩:=zY.out X29 bad yj.out.own.box yj.out.own.below
    have zI:=qh hset
    have yY:=qh hsn
    have yg:=qh hbe
    clear hset hsn hbe
    go_wp2_with fail
    (try simp only [Exit.inBlock,Exit.then])
    refine bodyPost_ret (zy rfl _ _ (gx+3) 30 _ (0,0) _ rfl zI.out Tryz.underlying30 rfl zC) rfl ?_
    exact⟨xM zD.out (jI.out _ _ _ _ _ _ _ yj.out yY.out),yg.out⟩
  have qA:Hid ((12:Int)=x.op):=by rw [Hid, <-yQ.out,o12]
  clear yQ
  have yQ:=qA
  clear qA
  have p12:((op:Int)==12)=true:=by simp [o12]
  clear o12
  as_aux_lemma=>
   go_upto_region 44 with fail
   by_cases ha0:A=0
   rotate_left
   ·have ha1:((A:Int)==0)=false:=by simp [ha0]
    have uS:=qh ha0
    clear ha0
    go_upto_region 48 with fail
    clear ha1
    have hres:R=some ⟨uR,mem,bad⟩:=by
     rw [qW.out,pU yQ.out.symm]
     rw [<-HA.out,if_neg uS.out,HT1.out]
     rfl
    have zD:=qh hres
    clear hres
    have yG:=yx.out
    have yj:=qh yG
    clear yG
    obtain⟨⟨a0,a1,a2⟩,⟨q0,q1,q2⟩,⟨f0,f1,f2⟩,hset,hsn,hbe⟩:=zY.out X4 bad yj.out.own.box yj.out.own.below
    have zI:=qh hset
    have yY:=qh hsn
    have yg:=qh hbe
    clear hset hsn hbe
    go_wp2_with fail
    (try simp only [Exit.inBlock,Exit.then])
    refine bodyPost_ret (zy rfl _ _ (gx+3) 30 _ (0,0) _ rfl zI.out Tryz.underlying30 rfl zC) rfl ?_
    exact⟨xM zD.out (jI.out _ _ _ _ _ _ _ yj.out yY.out),yg.out⟩
   have ha1:((A:Int)==0)=true:=by simp [ha0]
   have uS:=qh ha0
   clear ha0
   go_upto_region 45 with fail
   clear ha1
   have z11:=zh yx.out.instr 11
   obtain⟨u0,v0⟩:=yx.out.kR bF.out kS.out kT.out 0 (.int .i64 ((xQ:Int)+1)) (by omega) rfl
   rw [Nat.add_zero] at u0 v0
   have zoU:=yx.out.set bF.out (k:=0) (by omega) (t':=⟨dst, [r0,r1,r2,r3],bf⟩) (u:=(.int .i64 dst)) kS.out kT.out rfl (by simp) rfl
   rw [Nat.add_zero] at zoU
   have zoV:=qh zoU
   clear zoU
   go_upto_region 48 with fail
   clear u0 v0 z11
   generalize World.setCell X4 _ _=X28 at zoV ⊢
   obtain⟨zvq,zvr,zvs,zvt⟩:=zoV.out
   have zvu:=qh zvq
   have zAO:=qh zvr
   have zAP:=qh zvs
   have zCS:=qh zvt
   clear zvq zvr zvs zvt zoV
   have hres:R=some ⟨ts.set i ⟨dst, [r0,r1,r2,r3],bf⟩,mem,bad⟩:=by
    rw [qW.out,pU yQ.out.symm]
    rw [<-HA.out,if_pos uS.out, <-HDS.out]
    rfl
   have zD:=qh hres
   clear hres
   have yG:=zvu.out
   rw [wW.out] at yG
   have yj:=qh yG
   clear yG
   obtain⟨⟨a0,a1,a2⟩,⟨q0,q1,q2⟩,⟨f0,f1,f2⟩,hset,hsn,hbe⟩:=zY.out X28 bad yj.out.own.box yj.out.own.below
   have zI:=qh hset
   have yY:=qh hsn
   have yg:=qh hbe
   clear hset hsn hbe
   go_wp2_with fail
   (try simp only [Exit.inBlock,Exit.then])
   refine bodyPost_ret (zy rfl _ _ (gx+3) 30 _ (0,0) _ rfl zI.out Tryz.underlying30 rfl zC) rfl ?_
   exact⟨xM zD.out (jI.out _ _ _ _ _ _ _ yj.out yY.out),yg.out⟩
end Go.Proofs.YtliajkheeniljaaGreatDoor
