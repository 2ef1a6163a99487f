/- Steps. -/
import Derived.Test.YtliajkheeniljaaGreatDoorZtOwn
import Derived.Test.YtliajkheeniljaaGreatDoorZtOwnS
set_option linter.all false
namespace Go.Proofs.YtliajkheeniljaaGreatDoor
open Go.RowKit
set_option maxRecDepth 100000
set_option maxHeartbeats 16000000
structure vR (W X:World) (gb gi tb n tc mb mn mc:Nat) (bad:Bool) (ts:List zB) (mem:List Int) (bs:List Value) (wN:List Value):Prop where
 own:vU W X gb (.slice (some ⟨tb,0,none⟩) n tc) (.slice (some ⟨mb,0,none⟩) mn mc) bad ts mem bs
 instr:X.heap[gi]? =some (.cells wN.toArray 64 (0,0))
 g1:gi≠gb
 g2:gi≠tb
 g3:gi≠mb
theorem vR.below {W X X':World} {gb gi tb n tc mb mn mc:Nat} {bad:Bool} {ts:List zB} {mem:List Int} {bs wN:List Value} (h:vR W X gb gi tb n tc mb mn mc bad ts mem bs wN) (hb:Below X.heap.size X X'):vR W X' gb gi tb n tc mb mn mc bad ts mem bs wN:=
 ⟨h.own.later hb,(hb.block _ (zx h.instr)).trans h.instr,h.g1,h.g2,h.g3⟩
theorem vR.thread {W X:World} {gb gi tb n tc mb mn mc:Nat} {bad:Bool} {ts:List zB} {mem:List Int} {bs wN:List Value} (h:vR W X gb gi tb n tc mb mn mc bad ts mem bs wN) {i k:Nat} (hi:i<ts.length) (hk:k<6) {t:zB} {b u:Value}
  (hc:t.cells b=((ts.getD i default).cells (bs.getD i (.slice none 0 0))).set k u) (hr:t.regs.length=4) (hb:X.ownsRow W.heap.size 50 2 b t.buf.length (zo zl.cells t.buf)) (hn:∀k,b.ownBlock=some k->k≠tb/\k≠mb/\k≠gb)
  (hd:∀k,b.ownBlock=some k->∀j,j<ts.length->j≠i->(bs.getD j (.slice none 0 0)).ownBlock≠some k):
  vR W (X.setCell ⟨tb,i*6+k,none⟩ u) gb gi tb n tc mb mn mc bad (ts.set i t) mem (bs.set i b) wN:=
 ⟨h.own.thread hi hk hc hr hb (λk hk=>⟨(hn k hk).1,λe=>(hn k hk).2.1 (by simpa [Value.ownBlock] using e.symm),(hn k hk).2.2⟩) hd,(Below.heap_setCell _ _ _ _ h.g2).trans h.instr,h.g1,h.g2,h.g3⟩
theorem vR.mem {W X:World} {gb gi tb n tc mb mn mc:Nat} {bad:Bool} {ts:List zB} {mem:List Int} {bs wN:List Value} (h:vR W X gb gi tb n tc mb mn mc bad ts mem bs wN) (j:Nat) (x:Int):
  vR W (X.setCell ⟨mb,j,none⟩ (.int .i64 x)) gb gi tb n tc mb mn mc bad ts (mem.set j x) bs wN:=
 ⟨h.own.mem j x,(Below.heap_setCell _ _ _ _ h.g3).trans h.instr,h.g1,h.g2,h.g3⟩
theorem vR.isBad {W X:World} {gb gi tb n tc mb mn mc:Nat} {bad:Bool} {ts:List zB} {mem:List Int} {bs wN:List Value} (h:vR W X gb gi tb n tc mb mn mc bad ts mem bs wN) (b:Bool):
  vR W (X.setCell ⟨gb,2,none⟩ (.bool b)) gb gi tb n tc mb mn mc b ts mem bs wN:=
 ⟨h.own.isBad b,(Below.heap_setCell _ _ _ _ h.g1).trans h.instr,h.g1,h.g2,h.g3⟩
theorem vR.zoI {W X:World} {gb gi tb n tc mb mn mc:Nat} {bad:Bool} {ts:List zB} {mem:List Int} {bs wN:List Value} (h:vR W X gb gi tb n tc mb mn mc bad ts mem bs wN) {i:Nat} (hi:i<ts.length):
  ∀k u,k<6->((ts.getD i default).cells (bs.getD i (.slice none 0 0)))[k]? =some u->X.cell? ⟨tb,i*6+k,none⟩=some u/\X.frozen? ⟨tb,i*6+k,none⟩=false:=by
 obtain⟨tb',tc',e, -,h2⟩:=h.own.threads hi
 cases e
 exact h2
theorem vR.zky {W X:World} {gb gi tb n tc mb mn mc:Nat} {bad:Bool} {ts:List zB} {mem:List Int} {bs wN:List Value} (h:vR W X gb gi tb n tc mb mn mc bad ts mem bs wN) {j:Nat} (hj:j<mem.length):
  X.cell? ⟨mb,j,none⟩=some (.int .i64 (mem.getD j 0))/\X.frozen? ⟨mb,j,none⟩=false:=by
 obtain⟨mb',mc',e, -,h2⟩:=h.own.vars (by omega)
 cases e
 exact h2 j hj
theorem vR.buf {W X:World} {gb gi tb n tc mb mn mc:Nat} {bad:Bool} {ts:List zB} {mem:List Int} {bs wN:List Value} (h:vR W X gb gi tb n tc mb mn mc bad ts mem bs wN) {i:Nat} (hi:i<ts.length):
  X.ownsRow W.heap.size 50 2 (bs.getD i (.slice none 0 0)) (ts.getD i default).buf.length (zo zl.cells (ts.getD i default).buf)/\∀k,(bs.getD i (.slice none 0 0)).ownBlock=some k->k≠tb/\k≠mb/\k≠gb:=
 ⟨h.own.own.buf i hi,λk hk=>⟨λe=>(h.own.own.ne i hi k hk).1 (by rw [e];rfl),λe=>(h.own.own.ne i hi k hk).2 (by rw [e];rfl),λe=>h.own.n3 i hi (e ▸ hk)⟩⟩
theorem vR.dist {W X:World} {gb gi tb n tc mb mn mc:Nat} {bad:Bool} {ts:List zB} {mem:List Int} {bs wN:List Value} (h:vR W X gb gi tb n tc mb mn mc bad ts mem bs wN) {i:Nat} (hi:i<ts.length):
  ∀k,(bs.getD i (.slice none 0 0)).ownBlock=some k->∀j,j<ts.length->j≠i->(bs.getD j (.slice none 0 0)).ownBlock≠some k:=λk hk j hj hji=>h.own.own.one i j hi hj (λe=>hji e.symm) k hk
theorem vR.set {W X:World} {gb gi tb n tc mb mn mc:Nat} {bad:Bool} {ts:List zB} {mem:List Int} {bs wN:List Value} (h:vR W X gb gi tb n tc mb mn mc bad ts mem bs wN) {i k:Nat} (hi:i<ts.length) (hk:k<6) {t t':zB} {b u:Value}
  (ht:ts.getD i default=t) (hbs:bs.getD i (.slice none 0 0)=b) (hc:t'.cells b=(t.cells b).set k u) (hr:t'.regs.length=4) (hbf:t'.buf=t.buf):
  vR W (X.setCell ⟨tb,i*6+k,none⟩ u) gb gi tb n tc mb mn mc bad (ts.set i t') mem (bs.set i b) wN/\(ts.set i t').getD i default=t'/\(bs.set i b).getD i (.slice none 0 0)=b/\i<(ts.set i t').length:=by
 have hl:=h.own.own.len
 have hB:=h.buf hi
 rw [ht,hbs] at hB
 refine⟨h.thread hi hk (by rw [ht,hbs];exact hc) hr (by rw [hbf];exact hB.1) hB.2 (by have:=h.dist hi;rw [hbs] at this;exact this),by rw [qY hi,if_pos rfl],by rw [qY (by rw [hl];exact hi),if_pos rfl],by rw [List.length_set];exact hi⟩
theorem vR.bq {W X:World} {gb gi tb n tc mb mn mc:Nat} {bad:Bool} {ts:List zB} {mem:List Int} {bs wN:List Value} (h:vR W X gb gi tb n tc mb mn mc bad ts mem bs wN) {i:Nat} (hi:i<ts.length) {t:zB} {b:Value}
  (ht:ts.getD i default=t) (hbs:bs.getD i (.slice none 0 0)=b):∀k u,k<6->(t.cells b)[k]? =some u->X.cell? ⟨tb,i*6+k,none⟩=some u/\X.frozen? ⟨tb,i*6+k,none⟩=false:=by
 have:=h.zoI hi
 rw [ht,hbs] at this
 exact this
theorem zbO {pc r0 r1 r2 r3 v:Int} {bf:List zl} {b:Value} {k:Nat} (hk:k<4):(⟨pc, [r0,r1,r2,r3].set k v,bf⟩:zB).cells b=((⟨pc, [r0,r1,r2,r3],bf⟩:zB).cells b).set (1+k) (.int .i64 v):=by
 have:k=0\/k=1\/k=2\/k=3:=by omega
 rcases this with rfl|rfl|rfl|rfl<;>rfl
theorem zei {pc r0 r1 r2 r3:Int} {bf:List zl} {b:Value} {k:Nat} (hk:k<4):((⟨pc, [r0,r1,r2,r3],bf⟩:zB).cells b)[1+k]? =some (.int .i64 ([r0,r1,r2,r3].getD k 0)):=by
 have:k=0\/k=1\/k=2\/k=3:=by omega
 rcases this with rfl|rfl|rfl|rfl<;>rfl
theorem zqX {pc r0 r1 r2 r3:Int} {bf:List zl} {b:Value} {k:Nat} (hk:k<4):((⟨pc, [r0,r1,r2,r3].set k 0,bf⟩:zB).cells b)[1+k]? =some (.int .i64 ([0,0,0,0].getD k 0)):=by
 have:k=0\/k=1\/k=2\/k=3:=by omega
 rcases this with rfl|rfl|rfl|rfl<;>rfl
theorem zmO {pc r0 r1 r2 r3:Int} {bf:List zl} {b:Value} {k:Nat} (hk:k<4):(⟨pc, [r0,r1,r2,r3].set k 1,bf⟩:zB).cells b=((⟨pc, [r0,r1,r2,r3].set k 0,bf⟩:zB).cells b).set (1+k) (.int .i64 1):=by
 have:k=0\/k=1\/k=2\/k=3:=by omega
 rcases this with rfl|rfl|rfl|rfl<;>rfl
theorem ug {R:Option zi} {xa ya:Option Addr} {xn xc yn yc B:Nat} {b:Bool} {X:World} (h:R=none):∃xa' xn' xc' ya' yn' yc' s',Ending.returned (.tuple #[.agg #[.slice xa xn xc, .slice ya yn yc, .bool b], .bool false])= .returned (.tuple #[yC s' (.slice xa' xn' xc') (.slice ya' yn' yc'), .bool R.isSome])/\∀t,R=some t->s'=t/\∃bs,OwnAt B X (.slice xa' xn' xc') (.slice ya' yn' yc') t.threads t.mem bs:=
 ⟨xa,xn,xc,ya,yn,yc,⟨[], [],b⟩,by rw [h];rfl,λt e=>by rw [h] at e;cases e⟩
theorem qU {R:Option zi} {xa ya:Option Addr} {xn xc yn yc B:Nat} {s:zi} {bs:List Value} {X:World} (h:R=some s) (hs:OwnAt B X (.slice xa xn xc) (.slice ya yn yc) s.threads s.mem bs):∃xa' xn' xc' ya' yn' yc' s',Ending.returned (.tuple #[.agg #[.slice xa xn xc, .slice ya yn yc, .bool s.bad], .bool true])= .returned (.tuple #[yC s' (.slice xa' xn' xc') (.slice ya' yn' yc'), .bool R.isSome])/\∀t,R=some t->s'=t/\∃bs,OwnAt B X (.slice xa' xn' xc') (.slice ya' yn' yc') t.threads t.mem bs:=
 ⟨xa,xn,xc,ya,yn,yc,s,by rw [h];rfl,λt e=>by rw [h] at e;cases e;exact⟨rfl,bs,hs⟩⟩
theorem kY.zxA {e t:TypeId} {size:Nat} {V X:World} {v:Value} {n:Nat} {xs:List Value} {bs:List (Nat × List Value)} (h:kY e size t V X v n xs bs) {g:Nat} {cs:List Value} (hb:(g,cs)∈bs) (l:List Value) (hl:cs.length=l.length):
  Below V.heap.size V (yx X g 0 l)/\(yx X g 0 l).heap[g]? =some (.cells l.toArray t (0,0))/\V.heap.size<=g:=by
 obtain⟨h1, -,h3⟩:=h.news _ hb
 exact⟨h.below.trans ((xO l X 0).below h.below.size (λk e=>by omega)),qI l hl h1,h3⟩
theorem zld (w:World) (c:zH) (cv:Value) (d:Nat) (hc:yE d w cv c.threads) (m:zC) (s:zi) (sv mv:Value) (hs:zY w s sv mv) (hfit:yG c m s=true) (i:Nat) (hi:i<s.threads.length) (hb:∀j,j<s.threads.length->(s.threads.getD j default).buf.length<=100000):
  Calls Tryz.prog 62 #[yB c cv,xq m,yC s sv mv, .int .i64 i] w λe w'=>(∃xa xn xc ya yn yc s',e= .returned (.tuple #[yC s' (.slice xa xn xc) (.slice ya yn yc), .bool (kC c m s i d).isSome])/\∀t,kC c m s i d=some t->s'=t/\∃bs,OwnAt w.heap.size w' (.slice xa xn xc) (.slice ya yn yc) t.threads t.mem bs)/\Below w.heap.size w w':=by
 obtain⟨hcode,hmay,hlen,hmem,zkS⟩:=bR hfit
 have hbd:=xV hcode
 obtain⟨zfk,zle⟩:=zkS i hi
 have hins:=λk (hk:k<(c.threads.getD i []).length)=>zht hcode (i:=i) (k:=k) (by rw [<-hlen];exact hi) hk
 clear hcode hmay zkS hfit
 obtain⟨ca,cc,rfl, -⟩:=zh.slice hc
 obtain⟨ta,j6,rfl, -⟩:=zh.slice hs.threads
 obtain⟨ma,vZ,rfl, -⟩:=zh.slice hs.mem
 have hown:=λW hW=>zn9 W s (.slice ta s.threads.length j6) (.slice ma s.mem.length vZ) hW (by omega) (by omega) (λj hj=>by have:=hb j hj;omega)
 obtain⟨R,hR⟩:∃R,R=kC c m s i d:=⟨_,rfl⟩
 rw [<-hR]
 obtain⟨l,hl⟩:∃l,l=c.threads.getD i [] :=⟨_,rfl⟩
 obtain⟨t,ht⟩:∃t,t=s.threads.getD i default:=⟨_,rfl⟩
 have hR2:R=if t.pc<(l.length:Int) then(stepT c m s t (l.getD t.pc.toNat default) d).map (λr=>⟨s.threads.set i r.1,r.2.1,r.2.2⟩) else none:=by rw [hR,hl,ht];rfl
 rw [<-ht] at zfk zle
 rw [<-hl] at zle hins
 have HST:Hid (∀x,stepT c m s t x d=stepT c m s t x d):=λ_=>rfl
 obtain⟨C,hC⟩:∃C,C=c:=⟨_,rfl⟩
 obtain⟨M,hM⟩:∃M,M=m:=⟨_,rfl⟩
 obtain⟨S,hS⟩:∃S,S=s:=⟨_,rfl⟩
 rw [<-hC, <-hM, <-hS] at hR2
 clear HST
 have HRR:=qh hR2
 have hT:=hs.threads
 have hME:=hs.mem
 obtain⟨vars,dom,cs⟩:=c
 obtain⟨mod,bnd⟩:=m
 obtain⟨ts,mem,bad⟩:=s
 simp only [] at hc hs hi hb hlen hmem hbd hl ht hT hME hown hins zfk zle hR2 ⊢
 unfold yB xq yC
 unfold yC at hown
 simp only [] at hown ⊢
 obtain⟨n,hn⟩:∃n,n=ts.length:=⟨_,rfl⟩
 obtain⟨cn,hcn⟩:∃cn,cn=cs.length:=⟨_,rfl⟩
 obtain⟨mn,hmn⟩:∃mn,mn=mem.length:=⟨_,rfl⟩
 rw [<-hn] at hT hown hi hb hlen ⊢
 rw [<-hmn] at hME hown hmem ⊢
 rw [<-hcn] at hc hlen hbd ⊢
 rw [<-hn, <-hmn] at hs
 have jy:=qh hlen
 have HME:=qh hmem
 have HC:=qh hC
 have HM:=qh hM
 have HS:=qh hS
 have HL:=qh hl
 have HT:=qh ht
 have HN:=qh hn
 have HCN:=qh hcn
 have vC:=qh hmn
 have HBU:=qh hb
 have zyW:=qh hins
 have HOWN:=qh hown
 have hB4:=zcg w (.cells #[.int .i64 vars, .int .i64 dom, .slice ca cn cc] 24) (.cells #[.int .i64 mod, .int .i64 bnd] 26) (.cells #[.slice ta n j6, .slice ma mn vZ, .bool bad] 30) (.cells #[.slice none 0 0, .slice none 0 0, .bool false] 30)
 obtain⟨hB,h1,h2,h3,h4,h5⟩:=hB4
 have HB:=qh hB
 have H1:=qh h1
 have H2:=qh h2
 have H3:=qh h3
 have H4:=qh h4
 have H5:=qh h5
 have wE:=qh (zh.below (qm.stays d) hc hB)
 have HSW:=qh (zY.below hs hB)
 have zcp:=qh (zh.below gX.stays hME hB)
 have z5z:=qh hME
 have z5A:=qh h5
 clear hlen hmem hC hM hS hl ht hn hcn hmn hb hins hown hB h1 h2 h3 h4 h5 hT hME hc hs hR hR2
 go_enter Tryz.func62,Tryz.ntmps62
 go_upto_region 1 with fail
 generalize World.alloc (World.alloc (World.alloc (World.alloc w _) _) _) _=W at HB H1 H2 H3 H4 H5 wE HSW zcp z5A ⊢
 obtain⟨gx,hgx⟩:∃gx,gx=w.heap.size:=⟨_,rfl⟩
 rw [<-hgx] at H1 H2 H3 H4 H5 ⊢
 have yT:=qh hgx
 clear hgx
 have qA:Hid (∀x,Below W.heap.size W x->x.cell? ⟨gx,0,none⟩=some (.int .i64 vars)/\x.cell? ⟨gx,1,none⟩=some (.int .i64 dom)/\x.cell? ⟨gx,2,none⟩=some (.slice ca cn cc)/\
   x.cell? ⟨gx+1,0,none⟩=some (.int .i64 mod)/\x.cell? ⟨gx+1,1,none⟩=some (.int .i64 bnd)/\x.cell? ⟨gx+2,0,none⟩=some (.slice ta n j6)/\x.cell? ⟨gx+2,1,none⟩=some (.slice ma mn vZ)/\x.cell? ⟨gx+2,2,none⟩=some (.bool bad)):=λx hx=>
  ⟨zk hx _ _ (ze H1.out 0),zk hx _ _ (ze H1.out 1),zk hx _ _ (ze H1.out 2),zk hx _ _ (ze H2.out 0),zk hx _ _ (ze H2.out 1),zk hx _ _ (ze H3.out 0),zk hx _ _ (ze H3.out 1),zk hx _ _ (ze H3.out 2)⟩
 obtain⟨c0,c1,c2,c3,c4,c5,c6,c7⟩:=qA.out W (Below.refl _ _)
 go_upto_region 2 with(go_at_call 64;refine(HOWN.out W HSW.out).mono ?_;rintro e W1 ⟨⟨tv1,mv1,bs,rfl,ho1⟩,hb1⟩;have HO1:=qh ho1;have HB1:=qh hb1;obtain⟨xa,xc,rfl, -, -⟩:=xC ho1.row;obtain⟨ya,yc,rfl, -, -⟩:=xC ho1.mem;clear ho1 hb1)
 rw [<-HN.out, <-vC.out]
 have zAr:1<=vars:=hbd.1
 have z9M:2<=dom:=hbd.2.2.1
 have z9N:dom<=16:=hbd.2.2.2.1
 have bA:n<=4:=by have:=hbd.2.2.2.2.2;have:=jy.out;omega
 have z5B:mn<=4/\1<=mn:=by have:=hbd.2.1;have:=HME.out;omega
 clear c0 c1 c2 c3 c4 c5 c6 c7 hbd
 have hol:=vU.zqm HO1.out HB1.out bad
 rw [<-HN.out, <-vC.out] at hol
 have HOL:=qh hol
 clear hol
 generalize World.alloc W1 _=X0 at HOL ⊢
 obtain⟨gb,hgb⟩:∃gb,gb=W1.heap.size:=⟨_,rfl⟩
 rw [<-hgb] at HOL ⊢
 clear hgb HO1 HB1 HOWN
 obtain⟨tb,tc,hxa, -,htc⟩:=HOL.out.threads (by rw [<-HN.out];exact hi)
 rw [<-HN.out] at hxa
 cases hxa
 obtain⟨mb,mc,hya, -,hmc⟩:=HOL.out.vars (by rw [<-vC.out];omega)
 rw [<-vC.out] at hya
 cases hya
 have hr4:=HOL.out.own.regs i (by rw [<-HN.out];exact hi)
 obtain⟨bv,hbv⟩:∃bv,bv=bs.getD i (.slice none 0 0):=⟨_,rfl⟩
 have hbuf:=(HOL.out.own.buf i (by rw [<-HN.out];exact hi))
 have hbl:=HBU.out i hi
 rw [<-HT.out] at hr4 htc hbuf hbl
 rw [<-hbv] at htc hbuf
 obtain⟨ba,bc,rfl, -, -⟩:=xC hbuf
 obtain⟨pc,rg,bf⟩:=t
 obtain⟨r0,r1,r2,r3,rfl⟩:=kR hr4
 simp only [] at zfk zle htc hbuf hbl HRR
 obtain⟨bl,kG⟩:∃bl,bl=bf.length:=⟨_,rfl⟩
 rw [<-kG] at htc hbuf hbl hbv
 obtain⟨qW,rfl⟩:∃qW:Nat,pc=qW:=⟨pc.toNat,by omega⟩
 have vD:=qh kG
 have HBV:=qh hbv
 have HTC:Hid (∀k u,k<6-> [Value.int .i64 qW, .int .i64 r0, .int .i64 r1, .int .i64 r2, .int .i64 r3, .slice ba bl bc][k]? =some u->X0.cell? ⟨tb,i*6+k,none⟩=some u/\X0.frozen? ⟨tb,i*6+k,none⟩=false):=by
  have e:(⟨(qW:Int), [r0,r1,r2,r3],bf⟩:zB).cells (.slice ba bl bc)= [Value.int .i64 qW, .int .i64 r0, .int .i64 r1, .int .i64 r2, .int .i64 r3, .slice ba bl bc] :=rfl
  rw [<-e];exact htc
 clear kG hbv hbuf htc hr4 hmc zfk
 obtain⟨ln,hln⟩:∃ln,ln=l.length:=⟨_,rfl⟩
 rw [<-hln] at zle HRR
 obtain⟨eb,eo,ka,kc,yj, -,hec,hel⟩:=yE.part wE.out i (by rw [<-HCN.out, <-jy.out];exact hi)
 rw [<-HL.out, <-hln] at hec hel
 subst yj
 have ztR:=qh hln
 clear hln
 have HEL:=qh hel
 have HEC:Hid (∀x,Below W.heap.size W x->x.cell? ⟨eb,eo+i,none⟩=some (.slice ka ln kc)):=λx hx=>zk hx _ _ hec
 clear hel hec
 have zAs:(i:Int)<(cn:Int):=by have:=jy.out;omega
 obtain⟨c0,c1,c2,c3,c4,c5,c6,c7⟩:=qA.out X0 HOL.out.below
 have e0:=HEC.out X0 HOL.out.below
 have t0:=(HTC.out 0 _ (by omega) rfl).1
 rw [Nat.add_zero] at t0
 have b0:=ze HOL.out.box 0
 by_cases hp:qW<ln
 rotate_left
 ·have hpN:(ln:Int)<=(qW:Int):=by omega
  have hres:R=none:=by rw [HRR.out,if_neg (by omega)]
  have zP:=qh hres
  clear hres
  go_upto_region 3 with fail
  go_quiet (fail)
  go_upto_region 4 with fail
  generalize hX9:World.drewN X0 _=X9
  have pI:Below X0.heap.size X0 X9:=by rw [<-hX9];exact yg (Below.refl _ _) _
  clear hX9 c0 c1 c2 c3 c4 c5 c6 c7 e0 t0 b0
  have hbw:=zF HOL.out.below pI
  have jB:=qh hbw
  obtain⟨c0,c1,c2,c3,c4,c5,c6,c7⟩:=qA.out X9 hbw
  have hr:=(hbw.block _ (zx H4.out)).trans H4.out
  have q0:=ze hr 0
  have q1:=ze hr 1
  have q2:=ze hr 2
  have f0:=zy hr 0
  have f1:=zy hr 1
  have f2:=zy hr 2
  have hset:=zw (zw (zw hr 0 (.slice ta n j6)) 1 (.slice ma mn vZ)) 2 (.bool bad)
  simp only [List.setIfInBounds_toArray,List.set_cons_zero,List.set_cons_succ] at hset
  have hS:Since (λk=>k=gx+3) X9 (((X9.setCell ⟨gx+3,0,none⟩ (.slice ta n j6)).setCell ⟨gx+3,1,none⟩ (.slice ma mn vZ)).setCell ⟨gx+3,2,none⟩ (.bool bad)):=Since.setCell (F:=λk=>k=gx+3) (p:=⟨gx+3,2,none⟩) (Since.setCell (F:=λk=>k=gx+3) (p:=⟨gx+3,1,none⟩) (Since.setCell (F:=λk=>k=gx+3) (p:=⟨gx+3,0,none⟩) (Since.refl _ X9) (.inl rfl) _) (.inl rfl) _) (.inl rfl) _
  have zJ:=qh hset
  have xW:=qh hS
  clear hr hset hS pI hbw
  go_wp2_with fail
  (try simp only [Exit.inBlock,Exit.then])
  refine bodyPost_ret (zA rfl _ _ (gx+3) 30 _ (0,0) _ rfl zJ.out Tryz.underlying30 rfl zI) rfl ?_
  exact⟨ug zP.out,(HB.out.trans (jB.out.mono HB.out.size)).trans (xW.out.below (by have:=HB.out.size;have:=jB.out.size;omega) (λk e=>by have:=yT.out;omega))⟩
 have hpI:(qW:Int)<(ln:Int):=by omega
 have hpN:¬(ln:Int)<=(qW:Int):=by omega
 go_upto_region 3 with fail
 go_quiet (fail)
 go_upto_region 5 with fail
 generalize hX9:World.drewN X0 _=X9
 have pI:Below X0.heap.size X0 X9:=by rw [<-hX9];exact yg (Below.refl _ _) _
 clear hX9 c0 c1 c2 c3 c4 c5 c6 c7 e0 t0 b0
 have zgS:=qh (HOL.out.later pI)
 have ziU:Hid (∀k u,k<6-> [Value.int .i64 qW, .int .i64 r0, .int .i64 r1, .int .i64 r2, .int .i64 r3, .slice ba bl bc][k]? =some u->∀x,Below X9.heap.size X9 x->x.cell? ⟨tb,i*6+k,none⟩=some u):=λk u hk hu x hx=>zk (zF pI hx) _ _ (HTC.out k u hk hu).1
 clear HTC
 have jB:=qh pI
 clear pI
 obtain⟨fb,fo,aa,ac,xba,xbc,hka, -,⟨x0,x1,x2⟩,⟨x3,x4,x5,x6⟩,⟨x7,x8,x9,x10⟩,wV,xa,xb⟩:=wT.part HEL.out qW (by rw [<-ztR.out];exact hp)
 subst hka
 obtain⟨x,hx⟩:∃x,x=l.getD qW default:=⟨_,rfl⟩
 rw [<-hx] at x0 x1 x2 x3 x4 x5 x6 x7 x8 x9 x10 wV xa xb
 have hins:=zyW.out qW (by rw [<-ztR.out];exact hp)
 rw [<-hx, <-ztR.out] at hins
 obtain⟨zAt,hrg0,zbB,z5C,zyY⟩:=hins
 rw [<-HME.out] at zyY
 have hr5:=HRR.out
 rw [if_pos hpI,show((qW:Int)).toNat=qW from rfl, <-hx] at hr5
 have HR5:=qh hr5
 clear hr5 HRR zyW hx
 obtain⟨op,hop⟩:∃v,v=x.op:=⟨_,rfl⟩
 obtain⟨wF,ztS⟩:∃v:Nat,(v:Int)=x.reg:=⟨x.reg.toNat,by omega⟩
 obtain⟨jd,ztT⟩:∃v:Nat,(v:Int)=x.var:=⟨x.var.toNat,by omega⟩
 obtain⟨dst,hdst⟩:∃v,v=x.dest:=⟨_,rfl⟩
 obtain⟨ak,hak⟩:∃v,v=x.a.kind:=⟨_,rfl⟩
 obtain⟨an,han⟩:∃v,v=x.a.n:=⟨_,rfl⟩
 obtain⟨ao,hao⟩:∃v,v=x.a.op:=⟨_,rfl⟩
 obtain⟨al,hal⟩:∃v,v=x.a.kids.length:=⟨_,rfl⟩
 obtain⟨bk,hbk⟩:∃v,v=x.b.kind:=⟨_,rfl⟩
 obtain⟨bn,hbn⟩:∃v,v=x.b.n:=⟨_,rfl⟩
 obtain⟨bo,hbo⟩:∃v,v=x.b.op:=⟨_,rfl⟩
 obtain⟨bkl,ztU⟩:∃v,v=x.b.kids.length:=⟨_,rfl⟩
 obtain⟨A,hA⟩:∃v,v=yw [r0,r1,r2,r3] dom d x.a:=⟨_,rfl⟩
 obtain⟨B,hBB⟩:∃v,v=yw [r0,r1,r2,r3] dom d x.b:=⟨_,rfl⟩
 have zza:Hid (∀X,Below W.heap.size W X->Calls Tryz.prog 90 #[.agg #[.int .i64 ak, .int .i64 an, .int .u8 ao, .slice aa al ac], .agg #[.int .i64 r0, .int .i64 r1, .int .i64 r2, .int .i64 r3], .int .i64 dom] X λe w'=>e= .returned (.int .i64 A)/\Below X.heap.size X w'):=λX hX=>by
  rw [hak,han,hao,hal,hA];exact zlf r0 r1 r2 r3 dom (by omega) (by omega) d X x.a _ (xa.below hX)
 have zzb:Hid (∀X,Below W.heap.size W X->Calls Tryz.prog 90 #[.agg #[.int .i64 bk, .int .i64 bn, .int .u8 bo, .slice xba bkl xbc], .agg #[.int .i64 r0, .int .i64 r1, .int .i64 r2, .int .i64 r3], .int .i64 dom] X λe w'=>e= .returned (.int .i64 B)/\Below X.heap.size X w'):=λX hX=>by
  rw [hbk,hbn,hbo,ztU,hBB];exact zlf r0 r1 r2 r3 dom (by omega) (by omega) d X x.b _ (xb.below hX)
 rw [<-hop] at x0
 rw [<-ztS] at x1 zbB
 have zbB:wF<4:=by omega
 rw [<-ztT] at x2 zyY
 rw [<-hak] at x3
 rw [<-han] at x4
 rw [<-hao] at x5
 rw [<-hal] at x6
 rw [<-hbk] at x7
 rw [<-hbn] at x8
 rw [<-hbo] at x9
 rw [<-ztU] at x10
 rw [<-hdst] at wV
 have xM:=qh hop
 have HRG:=qh ztS
 have HVR:=qh ztT
 have HDS:=qh hdst
 have HA:=qh hA
 have yM:=qh hBB
 clear hop ztS ztT hdst hak han hao hal hbk hbn hbo ztU hA hBB xa xb hrg0 z5C
 have C5:Hid (∀y,Below X9.heap.size X9 y->y.cell? ⟨gx,2,none⟩=some (.slice (some ⟨eb,eo,none⟩) cn cc)/\y.cell? ⟨eb,eo+i,none⟩=some (.slice (some ⟨fb,fo,none⟩) ln kc)/\y.cell? ⟨tb,i*6,none⟩=some (.int .i64 qW)/\
   y.cell? ⟨fb,fo+qW*12,none⟩=some (.int .i64 op)/\y.cell? ⟨fb,fo+qW*12+1,none⟩=some (.int .i64 wF)/\y.cell? ⟨fb,fo+qW*12+2,none⟩=some (.int .i64 jd)/\
   y.cell? ⟨fb,fo+qW*12+3,none⟩=some (.int .i64 ak)/\y.cell? ⟨fb,fo+qW*12+4,none⟩=some (.int .i64 an)/\y.cell? ⟨fb,fo+qW*12+5,none⟩=some (.int .u8 ao)/\y.cell? ⟨fb,fo+qW*12+6,none⟩=some (.slice aa al ac)/\
   y.cell? ⟨fb,fo+qW*12+7,none⟩=some (.int .i64 bk)/\y.cell? ⟨fb,fo+qW*12+8,none⟩=some (.int .i64 bn)/\y.cell? ⟨fb,fo+qW*12+9,none⟩=some (.int .u8 bo)/\y.cell? ⟨fb,fo+qW*12+10,none⟩=some (.slice xba bkl xbc)/\y.cell? ⟨fb,fo+qW*12+11,none⟩=some (.int .i64 dst)):=λy hy=>
  have hw:=zF zgS.out.below hy
  have k2:=λp v h=>zk hw p v h
  ⟨(qA.out y hw).2.2.1,HEC.out y hw,ziU.out 0 _ (by omega) rfl y hy,k2 _ _ x0,k2 _ _ x1,k2 _ _ x2,k2 _ _ x3,k2 _ _ x4,k2 _ _ x5,k2 _ _ x6,k2 _ _ x7,k2 _ _ x8,k2 _ _ x9,k2 _ _ x10,k2 _ _ wV⟩
 clear x0 x1 x2 x3 x4 x5 x6 x7 x8 x9 x10 wV
 have h0:=kY.start 3 1 64 X9
 have hT0:=qh h0.drew
 clear h0
 refine vg (S:=λx=>Below X9.heap.size X9 x) (Below.refl _ _).drew (λ_=> ?_)
 obtain⟨wd,hwd⟩:∃wd,wd=X9.drew:=⟨_,rfl⟩
 rw [<-hwd] at hT0 ⊢
 clear hwd
 refine zD 0 zN (hT0.out.below) ?_
 refine zD 1 C5.out (hT0.out.below) ?_
 refine zD 2 zN (hT0.out.below) ?_
 refine zD 3 zN (hT0.out.below) ?_
 refine zD 4 C5.out (hT0.out.below) ?_
 refine zD 5 zN (hT0.out.below) ?_
 refine zD 6 zN (hT0.out.below) ?_
 refine zD 7 zN (hT0.out.below) ?_
 refine zD 8 C5.out (hT0.out.below) ?_
 refine zD 9 zN (hT0.out.below) ?_
 refine zD 10 C5.out (hT0.out.below) ?_
 refine yu 11 rfl (λK hK=> ?_)
 go_simp
 have vV:=hT0.out.alloc [.int .i64 0, .int .i64 0, .int .i64 0, .int .i64 0, .int .i64 0, .int .u8 0, .slice none 0 0, .int .i64 0, .int .i64 0, .int .u8 0, .slice none 0 0, .int .i64 0]
 refine hK.out _ _ vV.below (λ_=> ?_)
 obtain⟨gi,hgi⟩:∃n,n=wd.heap.size:=⟨_,rfl⟩
 rw [<-hgi] at vV ⊢
 clear hgi
 generalize World.alloc wd _=Xq2 at vV ⊢
 replace vV:=qh vV
 clear hK K
 refine yu 12 rfl (λK hK=> ?_)
 have hb1:=vV.out.zxA (g:=gi) (cs:= [.int .i64 0, .int .i64 0, .int .i64 0, .int .i64 0, .int .i64 0, .int .u8 0, .slice none 0 0, .int .i64 0, .int .i64 0, .int .u8 0, .slice none 0 0, .int .i64 0]) (by simp) [.int .i64 op, .int .i64 wF, .int .i64 jd, .int .i64 ak, .int .i64 an, .int .u8 ao, .slice aa al ac, .int .i64 bk, .int .i64 bn, .int .u8 bo, .slice xba bkl xbc, .int .i64 dst] rfl
 obtain⟨hn, -, -⟩:=vV.out.news (gi, [.int .i64 0, .int .i64 0, .int .i64 0, .int .i64 0, .int .i64 0, .int .u8 0, .slice none 0 0, .int .i64 0, .int .i64 0, .int .u8 0, .slice none 0 0, .int .i64 0]) (by simp)
 have d0:=ze hn 0
 have f0:=zy hn 0
 have d1:=ze hn 1
 have f1:=zy hn 1
 have d2:=ze hn 2
 have f2:=zy hn 2
 have d3:=ze hn 3
 have f3:=zy hn 3
 have d4:=ze hn 4
 have f4:=zy hn 4
 have d5:=ze hn 5
 have f5:=zy hn 5
 have d6:=ze hn 6
 have f6:=zy hn 6
 have d7:=ze hn 7
 have f7:=zy hn 7
 have d8:=ze hn 8
 have f8:=zy hn 8
 have d9:=ze hn 9
 have f9:=zy hn 9
 have d10:=ze hn 10
 have f10:=zy hn 10
 have d11:=ze hn 11
 have f11:=zy hn 11
 clear hn
 have qV:=qh hb1
 clear hb1
 go_simp
 clear d0 f0 d1 f1 d2 f2 d3 f3 d4 f4 d5 f5 d6 f6 d7 f7 d8 f8 d9 f9 d10 f10 d11 f11
 refine hK.out _ (yx Xq2 gi 0 [.int .i64 op, .int .i64 wF, .int .i64 jd, .int .i64 ak, .int .i64 an, .int .u8 ao, .slice aa al ac, .int .i64 bk, .int .i64 bn, .int .u8 bo, .slice xba bkl xbc, .int .i64 dst]) qV.out.1 (λ_=> ?_)
 generalize yx Xq2 gi 0 _=X1 at qV ⊢
 clear hK K
 refine xL ?_
 have hgi:=qV.out.2.2
 have yZ:vR W X1 gb gi tb n xc mb mn yc bad ts mem bs [.int .i64 op, .int .i64 wF, .int .i64 jd, .int .i64 ak, .int .i64 an, .int .u8 ao, .slice aa al ac, .int .i64 bk, .int .i64 bn, .int .u8 bo, .slice xba bkl xbc, .int .i64 dst] :=
  ⟨zgS.out.later qV.out.1,qV.out.2.1,λe=>by have:=zx zgS.out.box;omega,λe=>by have:=(zgS.out.own.row.lt tb rfl).2;omega,λe=>by have:=(zgS.out.own.mem.lt mb rfl).2;omega⟩
 have zej:=qh yZ
 clear hgi yZ C5
 have ztV:Hid (∀y,Below X1.heap.size X1 y->y.cell? ⟨tb,i*6+1,none⟩=some (.int .i64 r0)/\y.cell? ⟨tb,i*6+2,none⟩=some (.int .i64 r1)/\y.cell? ⟨tb,i*6+3,none⟩=some (.int .i64 r2)/\y.cell? ⟨tb,i*6+4,none⟩=some (.int .i64 r3)):=λy hy=>
  have h:=zF qV.out.1 hy
  ⟨ziU.out 1 _ (by omega) rfl y h,ziU.out 2 _ (by omega) rfl y h,ziU.out 3 _ (by omega) rfl y h,ziU.out 4 _ (by omega) rfl y h⟩
 have HB1:=qh zej.out.own.below
 have zzc:¬gi=gx+3:=λe=>by
  have h1:=zx H4.out
  have h2:=qV.out.2.2
  have h3:=zgS.out.below.size
  omega
 have HGI:=qh zzc
 clear zzc
 go_upto_region 6 with fail
 obtain⟨t1,t2,t3,t4⟩:=ztV.out X1 (Below.refl _ _)
 have z3:=ze zej.out.instr 3
 have z4:=ze zej.out.instr 4
 have z5:=ze zej.out.instr 5
 have z6:=ze zej.out.instr 6
 have c1:=(qA.out X1 HB1.out).2.1
 refine wp_region_still_tail 8 (by kernel_rfl) (by kernel_rfl) ?_
 simp only [List.take_succ_cons,List.take_zero,List.drop_succ_cons,List.drop_zero]
 repeat still_step
 try refine wpStill_nil ?_
 change wpList _ _ _ _ _ X1.drew
 obtain⟨wd,hwd⟩:∃wd,wd=X1.drew:=⟨_,rfl⟩
 rw [<-hwd]
 have HBD:Hid (Below X1.heap.size X1 wd):=by rw [Hid,hwd];exact(Below.refl _ _).drew
 clear hwd t1 t2 t3 t4 z3 z4 z5 z6 c1
 go_upto_region 7 with(go_at_call 90;refine(zza.out wd (zF HB1.out HBD.out)).mono ?_;rintro e X2 ⟨rfl,hb⟩;have HB2:=qh (zF HBD.out hb);clear hb)
 have zcS:=qh (zej.out.below HB2.out)
 clear HBD
 obtain⟨t1,t2,t3,t4⟩:=ztV.out X2 HB2.out
 have z7:=ze zcS.out.instr 7
 have z8:=ze zcS.out.instr 8
 have z9:=ze zcS.out.instr 9
 have z10:=ze zcS.out.instr 10
 have c1:=(qA.out X2 zcS.out.own.below).2.1
 refine wp_region_still_tail 8 (by kernel_rfl) (by kernel_rfl) ?_
 simp only [List.take_succ_cons,List.take_zero,List.drop_succ_cons,List.drop_zero]
 repeat still_step
 try refine wpStill_nil ?_
 change wpList _ _ _ _ _ X2.drew
 obtain⟨wd',hwd⟩:∃wd,wd=X2.drew:=⟨_,rfl⟩
 rw [<-hwd]
 have HBD:Hid (Below X2.heap.size X2 wd'):=by rw [Hid,hwd];exact(Below.refl _ _).drew
 clear hwd t1 t2 t3 t4 z7 z8 z9 z10 c1
 go_upto_region 8 with(go_at_call 90;refine(zzb.out wd' (zF zcS.out.own.below HBD.out)).mono ?_;rintro e X3 ⟨rfl,hb⟩;have HB3:=qh (zF HBD.out hb);clear hb)
 have uO:=qh (zcS.out.below HB3.out)
 clear HBD
 have hin:i<ts.length:=by rw [<-HN.out];exact hi
 have hcl:(ts.getD i default).cells (bs.getD i (.slice none 0 0))= [.int .i64 qW, .int .i64 r0, .int .i64 r1, .int .i64 r2, .int .i64 r3, .slice ba bl bc] :=by rw [<-HT.out, <-HBV.out];rfl
 have hpc:=uO.out.zoI hin 0 (.int .i64 qW) (by omega) (by rw [hcl];rfl)
 rw [Nat.add_zero] at hpc
 obtain⟨t0,f0⟩:=hpc
 have hth:=uO.out.thread hin (k:=0) (by omega) (t:=⟨(qW:Int)+1, [r0,r1,r2,r3],bf⟩) (b:= .slice ba bl bc) (u:= .int .i64 ((qW:Int)+1)) (by rw [hcl];rfl) rfl (by have:=(uO.out.buf hin).1;rw [<-HT.out, <-HBV.out] at this;exact this) (by have:=(uO.out.buf hin).2;rw [<-HBV.out] at this;exact this) (by have:=uO.out.dist hin;rw [<-HBV.out] at this;exact this)
 rw [Nat.add_zero] at hth
 have yQ:=qh hth
 have HIN:=qh hin
 clear hin hcl hth
 go_upto_region 9 with fail
 clear t0 f0
 generalize World.setCell X3 _ _=X4 at yQ ⊢
 clear zej zcS uO ztV ziU zgS HB1 HB2 HB3 qV jB HOL zza zzb HSW wE HEL HEC HBU
 obtain⟨ts1,ziV⟩:∃ts1,ts1=ts.set i ⟨(qW:Int)+1, [r0,r1,r2,r3],bf⟩:=⟨_,rfl⟩
 obtain⟨bs1,ztW⟩:∃bs1,bs1=bs.set i (.slice ba bl bc):=⟨_,rfl⟩
 have hlb:bs.length=ts.length:=by have:=yQ.out.own.own.len;rw [List.length_set,List.length_set] at this;exact this
 rw [<-ziV, <-ztW] at yQ
 have bB:Hid (ts1.getD i default=⟨(qW:Int)+1, [r0,r1,r2,r3],bf⟩):=by rw [Hid,ziV,qY HIN.out,if_pos rfl]
 have bC:Hid (bs1.getD i (.slice none 0 0)= .slice ba bl bc):=by rw [Hid,ztW,qY (by rw [hlb];exact HIN.out),if_pos rfl]
 have HL1:Hid (i<ts1.length):=by rw [Hid,ziV,List.length_set];exact HIN.out
 have HSS:Hid (∀t',ts1.set i t'=ts.set i t'):=λt'=>by rw [ziV,List.set_set]
 have HT1:Hid (ts1=ts.set i ⟨(qW:Int)+1, [r0,r1,r2,r3],bf⟩):=ziV
 clear ziV ztW hlb HT
 have HTC:Hid (∀k u,k<6-> [Value.int .i64 ((qW:Int)+1), .int .i64 r0, .int .i64 r1, .int .i64 r2, .int .i64 r3, .slice ba bl bc][k]? =some u->X4.cell? ⟨tb,i*6+k,none⟩=some u/\X4.frozen? ⟨tb,i*6+k,none⟩=false):=by
  have h:=yQ.out.zoI HL1.out
  rw [bB.out,bC.out] at h
  exact h
 have jQ:Hid (R=Option.map (λr=>(⟨ts.set i r.1,r.2.1,r.2.2⟩:zi)) (stepT ⟨vars,dom,cs⟩ ⟨mod,bnd⟩ ⟨ts,mem,bad⟩ ⟨qW, [r0,r1,r2,r3],bf⟩ x d)):=by rw [Hid,HR5.out,HC.out,HM.out,HS.out]
 clear HR5 HC HM HS
 have zdr:=qh (yQ.out.buf HL1.out)
 have yJ:Hid (∀(X:World) (b':Bool),X.heap[gb]? =some (.cells #[.slice (some ⟨tb,0,none⟩) n xc, .slice (some ⟨mb,0,none⟩) mn yc, .bool b'] 30 (0,0))->Below W.heap.size W X->
   (X.cell? ⟨gb,0,none⟩=some (.slice (some ⟨tb,0,none⟩) n xc)/\X.cell? ⟨gb,1,none⟩=some (.slice (some ⟨mb,0,none⟩) mn yc)/\X.cell? ⟨gb,2,none⟩=some (.bool b'))/\
   (X.cell? ⟨gx+3,0,none⟩=some (.slice none 0 0)/\X.cell? ⟨gx+3,1,none⟩=some (.slice none 0 0)/\X.cell? ⟨gx+3,2,none⟩=some (.bool false))/\
   (X.frozen? ⟨gx+3,0,none⟩=false/\X.frozen? ⟨gx+3,1,none⟩=false/\X.frozen? ⟨gx+3,2,none⟩=false)/\
   (((X.setCell ⟨gx+3,0,none⟩ (.slice (some ⟨tb,0,none⟩) n xc)).setCell ⟨gx+3,1,none⟩ (.slice (some ⟨mb,0,none⟩) mn yc)).setCell ⟨gx+3,2,none⟩ (.bool b')).heap[gx+3]? =some (.cells #[.slice (some ⟨tb,0,none⟩) n xc, .slice (some ⟨mb,0,none⟩) mn yc, .bool b'] 30 (0,0))/\
   Since (λk=>k=gx+3) X (((X.setCell ⟨gx+3,0,none⟩ (.slice (some ⟨tb,0,none⟩) n xc)).setCell ⟨gx+3,1,none⟩ (.slice (some ⟨mb,0,none⟩) mn yc)).setCell ⟨gx+3,2,none⟩ (.bool b'))/\
   Below w.heap.size w (((X.setCell ⟨gx+3,0,none⟩ (.slice (some ⟨tb,0,none⟩) n xc)).setCell ⟨gx+3,1,none⟩ (.slice (some ⟨mb,0,none⟩) mn yc)).setCell ⟨gx+3,2,none⟩ (.bool b'))):=λX b' hX hW=>by
  have hres:=(hW.block _ (zx H4.out)).trans H4.out
  have hset:=zw (zw (zw hres 0 (.slice (some ⟨tb,0,none⟩) n xc)) 1 (.slice (some ⟨mb,0,none⟩) mn yc)) 2 (.bool b')
  simp only [List.setIfInBounds_toArray,List.set_cons_zero,List.set_cons_succ] at hset
  have hS:Since (λk=>k=gx+3) X (((X.setCell ⟨gx+3,0,none⟩ (.slice (some ⟨tb,0,none⟩) n xc)).setCell ⟨gx+3,1,none⟩ (.slice (some ⟨mb,0,none⟩) mn yc)).setCell ⟨gx+3,2,none⟩ (.bool b')):=Since.setCell (F:=λk=>k=gx+3) (p:=⟨gx+3,2,none⟩) (Since.setCell (F:=λk=>k=gx+3) (p:=⟨gx+3,1,none⟩) (Since.setCell (F:=λk=>k=gx+3) (p:=⟨gx+3,0,none⟩) (Since.refl _ X) (.inl rfl) _) (.inl rfl) _) (.inl rfl) _
  exact⟨⟨ze hX 0,ze hX 1,ze hX 2⟩,⟨ze hres 0,ze hres 1,ze hres 2⟩,⟨zy hres 0,zy hres 1,zy hres 2⟩,hset,hS,(HB.out.trans (hW.mono HB.out.size)).trans (hS.below (by have:=HB.out.size;have:=hW.size;omega) (λk e=>by have:=yT.out;omega))⟩
 have uh:Hid (∀(X X':World) (b':Bool) (ts':List zB) (mem':List Int) (bs' wN:List Value),vR W X gb gi tb n xc mb mn yc b' ts' mem' bs' wN->Since (λk=>k=gx+3) X X'->OwnAt w.heap.size X' (.slice (some ⟨tb,0,none⟩) n xc) (.slice (some ⟨mb,0,none⟩) mn yc) ts' mem' bs'):=λX X' b' ts' mem' bs' wN h hS=>by
  have hlt:=zx H4.out
  exact OwnAt.lower (B:=W.heap.size) (h.own.own.since hS (λk hk e=>by have:=(h.own.own.row.lt k hk).1;omega) (λk hk e=>by have:=(h.own.own.mem.lt k hk).1;omega) (λj hj k hk e=>by have:=((h.own.own.buf j hj).lt k hk).1;omega)) HB.out.size
 go_cut [15] (λs15 w'=>∃em:Bool,s15= .bool em/\w'=X4/\Hid (em=decide (bl=0)))
 case first=>
  have t5:=(HTC.out 5 _ (by omega) rfl).1
  by_cases hb0:bl=0
  ·have hb1:((bl:Int)==0)=true:=by simp [hb0]
   go_wp2_with fail
   go_meet
   case rel=>exact⟨true,by first|rfl|simp,rfl,by simp [Hid,hb0]⟩
  have hb1:((bl:Int)==0)=false:=by simp [hb0]
  go_wp2_with fail
  go_meet
  case rel=>exact⟨false,by first|rfl|simp,rfl,by simp [Hid,hb0]⟩
 case rest=>
 obtain⟨em,rfl,hww,HEM⟩:=hcut
 obtain rfl:X4=wc:=hww.symm
 have k0:=ze yQ.out.instr 0
 go_upto_region 11 with fail
 clear k0
 by_cases o1:op=1
 ·have jk:Hid ((1:Int)=x.op):=by rw [Hid, <-xM.out,o1]
  clear xM
  have xM:=jk
  clear jk
  have p1:((op:Int)==1)=true:=by simp [o1]
  clear o1
  as_aux_lemma=>
   go_upto_region 12 with fail
   obtain⟨lk,hlk⟩:∃lk,lk=wX bf jd:=⟨_,rfl⟩
   have ztX:=λY hY=>ztY Y (.slice ba bl bc) bf hY (by rw [<-vD.out];omega) jd
   rw [<-hlk] at ztX
   have z5D:=qh ztX
   have HLK:=qh hlk
   clear ztX hlk
   have hbu:=zdr.out.1
   rw [bB.out,bC.out] at hbu
   have zoJ:Hid (∀Y,Below X4.heap.size X4 Y->zV Y (.slice ba bl bc) bf):=λY hY=>zV.below (kX hbu) hY
   clear hbu
   have CZ:Hid (∀y,Below X4.heap.size X4 y->y.cell? ⟨tb,i*6+5,none⟩=some (.slice ba bl bc)/\y.cell? ⟨gi,2,none⟩=some (.int .i64 jd)):=λy hy=>⟨zk hy _ _ (HTC.out 5 _ (by omega) rfl).1,zk hy _ _ (ze yQ.out.instr 2)⟩
   refine vg (S:=λx=>Below X4.heap.size X4 x) (Below.refl _ _).drew (λhH=> ?_)
   refine zq 0 CZ.out ?_
   refine zq 1 CZ.out ?_
   refine zq 2 CZ.out ?_
   refine zq 3 CZ.out ?_
   refine zq 4 CZ.out ?_
   refine zq 5 CZ.out ?_
   refine yu 6 rfl (λK hK=> ?_)
   go_simp
   refine(z5D.out X4.drew (zoJ.out X4.drew hH)).mono ?_
   rintro e zek ⟨rfl,hb⟩
   have zoK:Below X4.heap.size X4 zek:=zF hH hb
   refine hK.out _ _ zoK (λ_=> ?_)
   clear hK K hb hH
   refine zq 7 CZ.out ?_
   refine zq 8 CZ.out ?_
   refine zq 9 CZ.out ?_
   refine zq 10 CZ.out ?_
   refine zq 11 CZ.out ?_
   refine xL ?_
   have pJ:=qh (yQ.out.below zoK)
   clear zoK
   skip
   cases lk with
   |some lv=>
    simp only [Option.getD_some,Option.isSome_some]
    go_upto_region 15 with fail
    have z1:=ze pJ.out.instr 1
    refine wp_region_still_tail 7 (by kernel_rfl) (by kernel_rfl) ?_
    simp only [List.take_succ_cons,List.take_zero,List.drop_succ_cons,List.drop_zero]
    repeat still_step
    try refine wpStill_nil ?_
    change wpList _ _ _ _ _ zek.drew
    obtain⟨X5,hX5⟩:∃wd,wd=zek.drew:=⟨_,rfl⟩
    rw [<-hX5]
    have z5E:Hid (Below zek.heap.size zek X5):=by rw [Hid,hX5];exact(Below.refl _ _).drew
    clear hX5
    have zwt:=qh (pJ.out.below z5E.out)
    clear z1
    obtain⟨u0,v0⟩:=zwt.out.bq HL1.out bB.out bC.out (1+wF) (.int .i64 ([r0,r1,r2,r3].getD wF 0)) (by omega) (zei zbB)
    rw [<-Nat.add_assoc] at u0 v0
    have hw6:=zwt.out.set HL1.out (k:=1+wF) (by omega) (t':=⟨(qW:Int)+1,([r0,r1,r2,r3].set wF lv),bf⟩) (u:=(.int .i64 lv)) bB.out bC.out (zbO zbB) (by simp) rfl
    rw [<-Nat.add_assoc] at hw6
    have HW6:=qh hw6
    clear hw6
    go_upto_region 48 with fail
    clear u0 v0
    generalize World.setCell X5 _ _=X6 at HW6 ⊢
    obtain⟨hr6,ht6,hb6,hl6⟩:=HW6.out
    have z2z:=qh hr6
    have zAu:=qh ht6
    have zAv:=qh hb6
    have HL6:=qh hl6
    clear hr6 ht6 hb6 hl6 HW6
    have hres:R=some ⟨ts.set i ⟨(qW:Int)+1, [r0,r1,r2,r3].set wF lv,bf⟩,mem,bad⟩:=by
     rw [jQ.out,bO xM.out.symm]
     simp only [Option.map_some]
     rw [<-HVR.out, <-HLK.out, <-HRG.out]
     rfl
    have zP:=qh hres
    clear hres
    have yZ:=z2z.out
    rw [HSS.out] at yZ
    have yO:=qh yZ
    clear yZ
    obtain⟨⟨a0,a1,a2⟩,⟨q0,q1,q2⟩,⟨f0,f1,f2⟩,hset,hsn,hbe⟩:=yJ.out X6 bad yO.out.own.box yO.out.own.below
    have zJ:=qh hset
    have xW:=qh hsn
    have yM:=qh hbe
    clear hset hsn hbe
    go_wp2_with fail
    (try simp only [Exit.inBlock,Exit.then])
    refine bodyPost_ret (zA rfl _ _ (gx+3) 30 _ (0,0) _ rfl zJ.out Tryz.underlying30 rfl zI) rfl ?_
    exact⟨qU zP.out (uh.out _ _ _ _ _ _ _ yO.out xW.out),yM.out⟩
   |none=>
   simp only [Option.getD_none,Option.isSome_none]
   go_upto_region 14 with fail
   obtain⟨nv,hnv⟩:∃nv,nv=mem.getD jd 0:=⟨_,rfl⟩
   obtain⟨sb,so,hsa, -,hsc⟩:=xQ.part zcp.out jd (by rw [<-vC.out];omega)
   subst hsa
   rw [<-hnv] at hsc
   have HNV:=qh hnv
   clear hnv
   have s1:=zk pJ.out.own.below _ _ hsc
   have c6:=(qA.out _ pJ.out.own.below).2.2.2.2.2.2.1
   have uP:(jd:Int)<(mn:Int):=by omega
   have z2:=ze pJ.out.instr 2
   go_upto_region 15 with fail
   clear z2 s1 c6 hsc
   go_upto_region 15 with fail
   have z1:=ze pJ.out.instr 1
   refine wp_region_still_tail 7 (by kernel_rfl) (by kernel_rfl) ?_
   simp only [List.take_succ_cons,List.take_zero,List.drop_succ_cons,List.drop_zero]
   repeat still_step
   try refine wpStill_nil ?_
   change wpList _ _ _ _ _ zek.drew
   obtain⟨X7,hX7⟩:∃wd,wd=zek.drew:=⟨_,rfl⟩
   rw [<-hX7]
   have z5F:Hid (Below zek.heap.size zek X7):=by rw [Hid,hX7];exact(Below.refl _ _).drew
   clear hX7
   have zwu:=qh (pJ.out.below z5F.out)
   clear z1
   obtain⟨u0,v0⟩:=zwu.out.bq HL1.out bB.out bC.out (1+wF) (.int .i64 ([r0,r1,r2,r3].getD wF 0)) (by omega) (zei zbB)
   rw [<-Nat.add_assoc] at u0 v0
   have hw8:=zwu.out.set HL1.out (k:=1+wF) (by omega) (t':=⟨(qW:Int)+1,([r0,r1,r2,r3].set wF nv),bf⟩) (u:=(.int .i64 nv)) bB.out bC.out (zbO zbB) (by simp) rfl
   rw [<-Nat.add_assoc] at hw8
   have HW8:=qh hw8
   clear hw8
   go_upto_region 48 with fail
   clear u0 v0
   generalize World.setCell X7 _ _=X8 at HW8 ⊢
   obtain⟨hr8,ht8,hb8,hl8⟩:=HW8.out
   have z2A:=qh hr8
   have zAw:=qh ht8
   have zAx:=qh hb8
   have wL:=qh hl8
   clear hr8 ht8 hb8 hl8 HW8
   have hres:R=some ⟨ts.set i ⟨(qW:Int)+1, [r0,r1,r2,r3].set wF nv,bf⟩,mem,bad⟩:=by
    rw [jQ.out,bO xM.out.symm]
    simp only [Option.map_some]
    rw [<-HVR.out, <-HLK.out, <-HRG.out]
    rw [show((jd:Int)).toNat=jd from rfl, <-HNV.out]
    rfl
   have zP:=qh hres
   clear hres
   have yZ:=z2A.out
   rw [HSS.out] at yZ
   have yO:=qh yZ
   clear yZ
   obtain⟨⟨a0,a1,a2⟩,⟨q0,q1,q2⟩,⟨f0,f1,f2⟩,hset,hsn,hbe⟩:=yJ.out X8 bad yO.out.own.box yO.out.own.below
   have zJ:=qh hset
   have xW:=qh hsn
   have yM:=qh hbe
   clear hset hsn hbe
   go_wp2_with fail
   (try simp only [Exit.inBlock,Exit.then])
   refine bodyPost_ret (zA rfl _ _ (gx+3) 30 _ (0,0) _ rfl zJ.out Tryz.underlying30 rfl zI) rfl ?_
   exact⟨qU zP.out (uh.out _ _ _ _ _ _ _ yO.out xW.out),yM.out⟩
 have p1:((op:Int)==1)=false:=by simp [o1]
 by_cases o2:op=2
 ·have jk:Hid ((2:Int)=x.op):=by rw [Hid, <-xM.out,o2]
  clear xM
  have xM:=jk
  clear jk
  have p2:((op:Int)==2)=true:=by simp [o2]
  clear o2
  as_aux_lemma=>
   go_upto_region 17 with fail
   have c3:=(qA.out _ yQ.out.own.below).2.2.2.1
   by_cases hm0:mod=0
   ·have hm1:((mod:Int)==0)=true:=by simp [hm0]
    have HM0:=qh hm0
    clear hm0
    go_upto_region 18 with fail
    clear c3 hm1
    go_upto_region 18 with fail
    have z2:=ze yQ.out.instr 2
    have hbx:=yQ.out.own.box
    have g1:=ze hbx 1
    clear hbx
    have hml:jd<mem.length:=by rw [<-vC.out];omega
    obtain⟨m0,m1⟩:=yQ.out.zky hml
    have uP:(jd:Int)<(mn:Int):=by omega
    have zwv:=qh (yQ.out.mem jd A)
    clear hml
    go_upto_region 19 with fail
    clear z2 g1 m0 m1 uP
    generalize World.setCell X4 _ _=X9 at zwv ⊢
    have hres:R=some ⟨ts1,(mem.set jd A),bad⟩:=by
     rw [jQ.out,uR xM.out.symm HM0.out]
     simp only [Option.map_some]
     rw [<-HVR.out, <-HA.out,HT1.out]
     rfl
    have zP:=qh hres
    clear hres
    have yZ:=zwv.out
    have yO:=qh yZ
    clear yZ
    obtain⟨⟨a0,a1,a2⟩,⟨q0,q1,q2⟩,⟨f0,f1,f2⟩,hset,hsn,hbe⟩:=yJ.out X9 bad yO.out.own.box yO.out.own.below
    have zJ:=qh hset
    have xW:=qh hsn
    have yM:=qh hbe
    clear hset hsn hbe
    go_wp2_with fail
    (try simp only [Exit.inBlock,Exit.then])
    refine bodyPost_ret (zA rfl _ _ (gx+3) 30 _ (0,0) _ rfl zJ.out Tryz.underlying30 rfl zI) rfl ?_
    exact⟨qU zP.out (uh.out _ _ _ _ _ _ _ yO.out xW.out),yM.out⟩
   have hm1:((mod:Int)==0)=false:=by simp [hm0]
   have HM0:=qh hm0
   clear hm0
   go_upto_region 20 with fail
   clear c3 hm1
   obtain⟨ok,hok⟩:∃ok,ok=qD bf ⟨mod,bnd⟩ ⟨jd,A⟩:=⟨_,rfl⟩
   have hput:=λY hY=>znB Y (.slice ba bl bc) bf hY (by rw [<-vD.out];omega) ⟨mod,bnd⟩ ⟨jd,A⟩
   rw [<-hok] at hput
   have jX:=qh hput
   have vY:=qh hok
   clear hput hok
   have hbu:=zdr.out.1
   rw [bB.out,bC.out] at hbu
   have zoJ:Hid (∀Y,Below X4.heap.size X4 Y->zV Y (.slice ba bl bc) bf):=λY hY=>zV.below (kX hbu) hY
   clear hbu
   have CZ:Hid (∀y,Below X4.heap.size X4 y->y.cell? ⟨tb,i*6+5,none⟩=some (.slice ba bl bc)/\y.cell? ⟨gi,2,none⟩=some (.int .i64 jd)/\y.cell? ⟨gx+1,0,none⟩=some (.int .i64 mod)/\y.cell? ⟨gx+1,1,none⟩=some (.int .i64 bnd)):=λy hy=>⟨zk hy _ _ (HTC.out 5 _ (by omega) rfl).1,zk hy _ _ (ze yQ.out.instr 2),(qA.out y (zF yQ.out.own.below hy)).2.2.2.1,(qA.out y (zF yQ.out.own.below hy)).2.2.2.2.1⟩
   refine vg (S:=λx=>Below X4.heap.size X4 x) (Below.refl _ _).drew (λhH=> ?_)
   refine zq 0 CZ.out ?_
   refine zq 1 CZ.out ?_
   refine zq 2 CZ.out ?_
   refine zq 3 CZ.out ?_
   refine zq 4 CZ.out ?_
   refine zq 5 CZ.out ?_
   refine zq 6 CZ.out ?_
   refine zq 7 CZ.out ?_
   refine zq 8 CZ.out ?_
   refine yu 9 rfl (λK hK=> ?_)
   go_simp
   refine(jX.out X4.drew (zoJ.out X4.drew hH)).mono ?_
   rintro e zlg ⟨⟨bv,rfl,hbv,hrow⟩,hb⟩
   obtain⟨pa,pc2,rfl, -⟩:=zh.slice hbv
   have jo:=qh hrow
   clear hbv hrow
   have zoL:Below X4.heap.size X4 zlg:=zF hH hb
   refine hK.out _ _ zoL (λ_=> ?_)
   clear hK K hb hH
   refine zq 10 CZ.out ?_
   refine zq 11 CZ.out ?_
   refine zq 12 CZ.out ?_
   refine zq 13 CZ.out ?_
   refine zq 14 CZ.out ?_
   refine xL ?_
   have pJ:=qh (yQ.out.below zoL)
   clear zoL
   have z5G:=qh (zx yQ.out.own.box)
   have z5H:=qh (yQ.out.own.own.row.lt tb rfl).2
   have z5I:=qh (yQ.out.own.own.mem.lt mb rfl).2
   have z5J:=qh yQ.out.own.below.size
   go_upto_region 21 with fail
   obtain⟨t5,v5⟩:=pJ.out.bq HL1.out bB.out bC.out 5 (.slice ba bl bc) (by omega) rfl
   obtain⟨pl,hpl⟩:∃pl,pl=(j4 bf ⟨mod,bnd⟩ ⟨jd,A⟩).length:=⟨_,rfl⟩
   rw [<-hpl] at jo ⊢
   have vO:=qh hpl
   clear hpl
   cases ok with
   |true=>
    have hrw:=xw (C:=W.heap.size) (jo.out rfl) z5J.out
    have hpw:=pJ.out.thread HL1.out (k:=5) (by omega) (t:=⟨(qW:Int)+1, [r0,r1,r2,r3],j4 bf ⟨mod,bnd⟩ ⟨jd,A⟩⟩) (b:= .slice pa pl pc2) (u:= .slice pa pl pc2) (by rw [bB.out,bC.out];rfl) rfl (by rw [<-vO.out];exact hrw) (λk hk=>by have h1:X4.heap.size<=k:=((jo.out rfl).lt k hk).1;have:=z5G.out;have:=z5H.out;have:=z5I.out;exact⟨by omega,by omega,by omega⟩) (λk hk j hj _ e=>by have h1:X4.heap.size<=k:=((jo.out rfl).lt k hk).1;have h2:=((yQ.out.own.own.buf j hj).lt k e).2;omega)
    rw [HSS.out] at hpw
    have HPW:=qh hpw
    clear hpw hrw
    go_upto_region 22 with fail
    clear t5 v5
    generalize World.setCell zlg _ _=XY at HPW ⊢
    have hres:R=some ⟨(ts.set i ⟨(qW:Int)+1, [r0,r1,r2,r3],j4 bf ⟨mod,bnd⟩ ⟨jd,A⟩⟩),mem,bad⟩:=by
     rw [jQ.out,uS xM.out.symm HM0.out (by rw [<-HVR.out, <-HA.out, <-vY.out])]
     simp only [Option.map_some]
     rw [<-HVR.out, <-HA.out]
    have zP:=qh hres
    clear hres
    have yZ:=HPW.out
    have yO:=qh yZ
    clear yZ
    obtain⟨⟨a0,a1,a2⟩,⟨q0,q1,q2⟩,⟨f0,f1,f2⟩,hset,hsn,hbe⟩:=yJ.out XY bad yO.out.own.box yO.out.own.below
    have zJ:=qh hset
    have xW:=qh hsn
    have yM:=qh hbe
    clear hset hsn hbe
    go_wp2_with fail
    (try simp only [Exit.inBlock,Exit.then])
    refine bodyPost_ret (zA rfl _ _ (gx+3) 30 _ (0,0) _ rfl zJ.out Tryz.underlying30 rfl zI) rfl ?_
    exact⟨qU zP.out (uh.out _ _ _ _ _ _ _ yO.out xW.out),yM.out⟩
   |false=>
   have hbx:=pJ.out.own.box
   have hsY:Since (λx=>x=tb) zlg (zlg.setCell ⟨tb,i*6+5,none⟩ (.slice pa pl pc2)):=Since.setCell (F:=λx=>x=tb) (p:=⟨tb,i*6+5,none⟩) (Since.refl _ _) (.inl rfl) _
   have zcy:=(hsY.block gb (zx hbx) (λe=>pJ.out.own.n1 (by rw [e];rfl))).trans hbx
   have zzl:=pJ.out.own.below.trans (hsY.below pJ.out.own.below.size (λx e=>by have:=(pJ.out.own.own.row.lt tb rfl).1;omega))
   have yS:=qh zcy
   have zzm:=qh zzl
   clear hbx hsY zcy zzl
   have hres:R=none:=by
    rw [jQ.out,uT xM.out.symm HM0.out (by rw [<-HVR.out, <-HA.out, <-vY.out])]
    rfl
   have zP:=qh hres
   clear hres
   go_upto_region 22 with fail
   clear t5 v5
   generalize World.setCell zlg _ _=XY at yS zzm ⊢
   obtain⟨⟨a0,a1,a2⟩,⟨q0,q1,q2⟩,⟨f0,f1,f2⟩,hset, -,hbe⟩:=yJ.out XY bad yS.out zzm.out
   have zJ:=qh hset
   have yM:=qh hbe
   clear hset hbe
   go_wp2_with fail
   (try simp only [Exit.inBlock,Exit.then])
   refine bodyPost_ret (zA rfl _ _ (gx+3) 30 _ (0,0) _ rfl zJ.out Tryz.underlying30 rfl zI) rfl ?_
   exact⟨ug zP.out,yM.out⟩
 have p2:((op:Int)==2)=false:=by simp [o2]
 by_cases o3:op=3
 ·have jk:Hid ((3:Int)=x.op):=by rw [Hid, <-xM.out,o3]
  clear xM
  have xM:=jk
  clear jk
  have p3:((op:Int)==3)=true:=by simp [o3]
  clear o3
  as_aux_lemma=>
   go_upto_region 24 with fail
   have z1:=ze yQ.out.instr 1
   refine wp_region_still_tail 7 (by kernel_rfl) (by kernel_rfl) ?_
   simp only [List.take_succ_cons,List.take_zero,List.drop_succ_cons,List.drop_zero]
   repeat still_step
   try refine wpStill_nil ?_
   change wpList _ _ _ _ _ X4.drew
   obtain⟨X10,ztZ⟩:∃wd,wd=X4.drew:=⟨_,rfl⟩
   rw [<-ztZ]
   have z2B:Hid (Below X4.heap.size X4 X10):=by rw [Hid,ztZ];exact(Below.refl _ _).drew
   clear ztZ
   have zrj:=qh (yQ.out.below z2B.out)
   clear z1
   obtain⟨u0,v0⟩:=zrj.out.bq HL1.out bB.out bC.out (1+wF) (.int .i64 ([r0,r1,r2,r3].getD wF 0)) (by omega) (zei zbB)
   rw [<-Nat.add_assoc] at u0 v0
   have zct:=zrj.out.set HL1.out (k:=1+wF) (by omega) (t':=⟨(qW:Int)+1,([r0,r1,r2,r3].set wF A),bf⟩) (u:=(.int .i64 A)) bB.out bC.out (zbO zbB) (by simp) rfl
   rw [<-Nat.add_assoc] at zct
   have zua:=qh zct
   clear zct
   go_upto_region 48 with fail
   clear u0 v0
   generalize World.setCell X10 _ _=X11 at zua ⊢
   obtain⟨zzn,zzo,zzp,zzq⟩:=zua.out
   have zzr:=qh zzn
   have z9O:=qh zzo
   have z9P:=qh zzp
   have zAy:=qh zzq
   clear zzn zzo zzp zzq zua
   have hres:R=some ⟨ts.set i ⟨(qW:Int)+1, [r0,r1,r2,r3].set wF A,bf⟩,mem,bad⟩:=by
    rw [jQ.out,zbq xM.out.symm]
    simp only [Option.map_some]
    rw [<-HA.out, <-HRG.out]
    rfl
   have zP:=qh hres
   clear hres
   have yZ:=zzr.out
   rw [HSS.out] at yZ
   have yO:=qh yZ
   clear yZ
   obtain⟨⟨a0,a1,a2⟩,⟨q0,q1,q2⟩,⟨f0,f1,f2⟩,hset,hsn,hbe⟩:=yJ.out X11 bad yO.out.own.box yO.out.own.below
   have zJ:=qh hset
   have xW:=qh hsn
   have yM:=qh hbe
   clear hset hsn hbe
   go_wp2_with fail
   (try simp only [Exit.inBlock,Exit.then])
   refine bodyPost_ret (zA rfl _ _ (gx+3) 30 _ (0,0) _ rfl zJ.out Tryz.underlying30 rfl zI) rfl ?_
   exact⟨qU zP.out (uh.out _ _ _ _ _ _ _ yO.out xW.out),yM.out⟩
 have p3:((op:Int)==3)=false:=by simp [o3]
 by_cases o4:op=4
 ·have jk:Hid ((4:Int)=x.op):=by rw [Hid, <-xM.out,o4]
  clear xM
  have xM:=jk
  clear jk
  have p4:((op:Int)==4)=true:=by simp [o4]
  clear o4
  as_aux_lemma=>
   go_upto_region 26 with fail
   cases em with
   |true=>
    have hb0:bf.length=0:=by rw [<-vD.out];exact of_decide_eq_true HEM.out.symm
    have HB0:=qh hb0
    clear hb0
    have hres:R=some ⟨ts1,mem,bad⟩:=by
     rw [jQ.out,uE xM.out.symm]
     rw [if_pos HB0.out,HT1.out]
     rfl
    have zP:=qh hres
    clear hres
    have yZ:=yQ.out
    have yO:=qh yZ
    clear yZ
    obtain⟨⟨a0,a1,a2⟩,⟨q0,q1,q2⟩,⟨f0,f1,f2⟩,hset,hsn,hbe⟩:=yJ.out X4 bad yO.out.own.box yO.out.own.below
    have zJ:=qh hset
    have xW:=qh hsn
    have yM:=qh hbe
    clear hset hsn hbe
    go_wp2_with fail
    (try simp only [Exit.inBlock,Exit.then])
    refine bodyPost_ret (zA rfl _ _ (gx+3) 30 _ (0,0) _ rfl zJ.out Tryz.underlying30 rfl zI) rfl ?_
    exact⟨qU zP.out (uh.out _ _ _ _ _ _ _ yO.out xW.out),yM.out⟩
   |false=>
   have hb0:¬bf.length=0:=by rw [<-vD.out];exact of_decide_eq_false HEM.out.symm
   have HB0:=qh hb0
   clear hb0
   have hres:R=none:=by
    rw [jQ.out,uE xM.out.symm]
    rw [if_neg HB0.out]
    rfl
   have zP:=qh hres
   clear hres
   have yZ:=yQ.out
   have yO:=qh yZ
   clear yZ
   obtain⟨⟨a0,a1,a2⟩,⟨q0,q1,q2⟩,⟨f0,f1,f2⟩,hset,hsn,hbe⟩:=yJ.out X4 bad yO.out.own.box yO.out.own.below
   have zJ:=qh hset
   have xW:=qh hsn
   have yM:=qh hbe
   clear hset hsn hbe
   go_wp2_with fail
   (try simp only [Exit.inBlock,Exit.then])
   refine bodyPost_ret (zA rfl _ _ (gx+3) 30 _ (0,0) _ rfl zJ.out Tryz.underlying30 rfl zI) rfl ?_
   exact⟨ug zP.out,yM.out⟩
 have p4:((op:Int)==4)=false:=by simp [o4]
 by_cases o5:op=5
 ·have jk:Hid ((5:Int)=x.op):=by rw [Hid, <-xM.out,o5]
  clear xM
  have xM:=jk
  clear jk
  have p5:((op:Int)==5)=true:=by simp [o5]
  clear o5
  as_aux_lemma=>
   go_upto_region 28 with fail
   have CZ:Hid (∀y,Since (λk=>k=gx+3) X4 y->y.cell? ⟨gb,0,none⟩=some (.slice (some ⟨tb,0,none⟩) n xc)/\y.cell? ⟨gb,1,none⟩=some (.slice (some ⟨mb,0,none⟩) mn yc)/\y.cell? ⟨gb,2,none⟩=some (.bool bad)/\y.cell? ⟨gx+1,0,none⟩=some (.int .i64 mod)):=λy hy=>by
    have h1:=yQ.out.own.box
    have hlo:=yQ.out.own.lo
    have hlt:=zx H4.out
    have h2:=(hy.block _ (zx h1) (by omega)).trans h1
    have h3:=(yQ.out.own.below.block _ (zx H2.out)).trans H2.out
    have h4:=(hy.block _ (zx h3) (by omega)).trans h3
    exact⟨ze h2 0,ze h2 1,ze h2 2,ze h4 0⟩
   cases em with
   |true=>
    have hb0:bf.length=0:=by rw [<-vD.out];exact of_decide_eq_true HEM.out.symm
    have HB0:=qh hb0
    clear hb0
    have hres:R=some ⟨ts1,mem,bad⟩:=by
     rw [jQ.out,gV xM.out.symm]
     rw [if_pos (.inl HB0.out),HT1.out]
     rfl
    have zP:=qh hres
    clear hres
    have yZ:=yQ.out
    have yO:=qh yZ
    clear yZ
    refine vg (S:=λy=>Since (λk=>k=gx+3) X4 y) (Since.refl _ _).drew (λ_=> ?_)
    obtain⟨wd,hwd⟩:∃wd,wd=X4.drew:=⟨_,rfl⟩
    rw [<-hwd]
    have HFX:=yJ.out wd bad (by rw [hwd];exact yO.out.own.box) (by rw [hwd];exact yO.out.own.below.drew)
    have xJ:Hid (Since (λk=>k=gx+3) X4 wd):=by rw [Hid,hwd];exact(Since.refl _ _).drew
    clear hwd
    refine zD 0 CZ.out (xJ.out) ?_
    refine zD 1 zN (xJ.out) ?_
    refine zD 2 zN (xJ.out) ?_
    refine wpAnyH_take (i:=3) (v:=undef) rfl (by kernel_rfl) (by kernel_rfl) (by kernel_rfl) (λ_ _ _ h=>h) (Or.inr ⟨by rfl,rfl⟩) (xJ.out) ?_
    change wpAnyH _ _ _ _ _ _ _ (Act.put _ (some 158) _) _
    simp only [Act.put,kJ]
    try simp only [kK,kL]
    refine wpAnyH_take (i:=4) (v:=undef) rfl (by kernel_rfl) (by kernel_rfl) (by kernel_rfl) (λ_ _ _ h=>h) (Or.inr ⟨by rfl,rfl⟩) (xJ.out) ?_
    change wpAnyH _ _ _ _ _ _ _ (Act.put _ (some 159) _) _
    simp only [Act.put,kJ]
    try simp only [kK,kL]
    refine wpAnyH_take (i:=5) (v:=undef) rfl (by kernel_rfl) (by kernel_rfl) (by kernel_rfl) (λ_ _ _ h=>h) (Or.inr ⟨by rfl,rfl⟩) (xJ.out) ?_
    change wpAnyH _ _ _ _ _ _ _ (Act.put _ (some 160) _) _
    simp only [Act.put,kJ]
    try simp only [kK,kL]
    refine zD 6 zN (xJ.out) ?_
    refine yu 7 rfl (λK hK=> ?_)
    obtain⟨-,⟨q0,q1,q2⟩,⟨f0,f1,f2⟩,hset,hsn,hbe⟩:=HFX
    have zJ:=qh hset
    have xW:=qh hsn
    have yM:=qh hbe
    clear hset hsn hbe
    go_simp
    refine hK.out _ _ (xJ.out.trans xW.out (λ_ h=> .inl h)) (λ_=> ?_)
    clear hK K
    refine zD 8 zN ((xJ.out.trans xW.out (λ_ h=> .inl h))) ?_
    refine xL ?_
    go_wp2_with fail
    (try simp only [Exit.inBlock,Exit.then])
    refine bodyPost_ret (zA rfl _ _ (gx+3) 30 _ (0,0) _ rfl zJ.out Tryz.underlying30 rfl zI) rfl ?_
    exact⟨qU zP.out (uh.out _ _ _ _ _ _ _ yO.out (xJ.out.trans xW.out (λ_ h=> .inl h))),yM.out⟩
   |false=>
   have hb0:¬bf.length=0:=by rw [<-vD.out];exact of_decide_eq_false HEM.out.symm
   have HB0:=qh hb0
   clear hb0
   by_cases hm2:mod=2
   rotate_left
   ·have hm3:((mod:Int) !=2)=true:=by simp [hm2]
    have HM2:=qh hm2
    clear hm2
    have hres:R=some ⟨ts1,mem,bad⟩:=by
     rw [jQ.out,gV xM.out.symm]
     rw [if_pos (.inr HM2.out),HT1.out]
     rfl
    have zP:=qh hres
    clear hres
    have yZ:=yQ.out
    have yO:=qh yZ
    clear yZ
    refine vg (S:=λy=>Since (λk=>k=gx+3) X4 y) (Since.refl _ _).drew (λ_=> ?_)
    obtain⟨wd,hwd⟩:∃wd,wd=X4.drew:=⟨_,rfl⟩
    rw [<-hwd]
    have HFX:=yJ.out wd bad (by rw [hwd];exact yO.out.own.box) (by rw [hwd];exact yO.out.own.below.drew)
    have xJ:Hid (Since (λk=>k=gx+3) X4 wd):=by rw [Hid,hwd];exact(Since.refl _ _).drew
    clear hwd
    refine zD 0 CZ.out (xJ.out) ?_
    refine zD 1 zN (xJ.out) ?_
    refine zD 2 zN (xJ.out) ?_
    refine zD 3 zN (xJ.out) ?_
    refine zD 4 CZ.out (xJ.out) ?_
    refine zD 5 zN (xJ.out) ?_
    refine zD 6 zN (xJ.out) ?_
    refine yu 7 rfl (λK hK=> ?_)
    obtain⟨-,⟨q0,q1,q2⟩,⟨f0,f1,f2⟩,hset,hsn,hbe⟩:=HFX
    have zJ:=qh hset
    have xW:=qh hsn
    have yM:=qh hbe
    clear hset hsn hbe
    go_simp
    refine hK.out _ _ (xJ.out.trans xW.out (λ_ h=> .inl h)) (λ_=> ?_)
    clear hK K
    refine zD 8 zN ((xJ.out.trans xW.out (λ_ h=> .inl h))) ?_
    refine xL ?_
    go_wp2_with fail
    (try simp only [Exit.inBlock,Exit.then])
    refine bodyPost_ret (zA rfl _ _ (gx+3) 30 _ (0,0) _ rfl zJ.out Tryz.underlying30 rfl zI) rfl ?_
    exact⟨qU zP.out (uh.out _ _ _ _ _ _ _ yO.out (xJ.out.trans xW.out (λ_ h=> .inl h))),yM.out⟩
   have hm3:((mod:Int) !=2)=false:=by simp [hm2]
   have HM2:=qh hm2
   clear hm2
   have hres:R=none:=by
    rw [jQ.out,gV xM.out.symm]
    rw [if_neg (λh=>h.elim HB0.out (λh=>h HM2.out))]
    rfl
   have zP:=qh hres
   clear hres
   have yZ:=yQ.out
   have yO:=qh yZ
   clear yZ
   refine vg (S:=λy=>Since (λk=>k=gx+3) X4 y) (Since.refl _ _).drew (λ_=> ?_)
   obtain⟨wd,hwd⟩:∃wd,wd=X4.drew:=⟨_,rfl⟩
   rw [<-hwd]
   have HFX:=yJ.out wd bad (by rw [hwd];exact yO.out.own.box) (by rw [hwd];exact yO.out.own.below.drew)
   have xJ:Hid (Since (λk=>k=gx+3) X4 wd):=by rw [Hid,hwd];exact(Since.refl _ _).drew
   clear hwd
   refine zD 0 CZ.out (xJ.out) ?_
   refine zD 1 zN (xJ.out) ?_
   refine zD 2 zN (xJ.out) ?_
   refine zD 3 zN (xJ.out) ?_
   refine zD 4 CZ.out (xJ.out) ?_
   refine zD 5 zN (xJ.out) ?_
   refine zD 6 zN (xJ.out) ?_
   refine yu 7 rfl (λK hK=> ?_)
   obtain⟨-,⟨q0,q1,q2⟩,⟨f0,f1,f2⟩,hset,hsn,hbe⟩:=HFX
   have zJ:=qh hset
   have xW:=qh hsn
   have yM:=qh hbe
   clear hset hsn hbe
   go_simp
   refine hK.out _ _ (xJ.out.trans xW.out (λ_ h=> .inl h)) (λ_=> ?_)
   clear hK K
   refine zD 8 zN ((xJ.out.trans xW.out (λ_ h=> .inl h))) ?_
   refine xL ?_
   go_wp2_with fail
   (try simp only [Exit.inBlock,Exit.then])
   refine bodyPost_ret (zA rfl _ _ (gx+3) 30 _ (0,0) _ rfl zJ.out Tryz.underlying30 rfl zI) rfl ?_
   exact⟨ug zP.out,yM.out⟩
 have p5:((op:Int)==5)=false:=by simp [o5]
 by_cases o6:op=6
 ·have jk:Hid ((6:Int)=x.op):=by rw [Hid, <-xM.out,o6]
  clear xM
  have xM:=jk
  clear jk
  have p6:((op:Int)==6)=true:=by simp [o6]
  clear o6
  as_aux_lemma=>
   go_upto_region 30 with fail
   have z1:=ze yQ.out.instr 1
   refine wp_region_still_tail 6 (by kernel_rfl) (by kernel_rfl) ?_
   simp only [List.take_succ_cons,List.take_zero,List.drop_succ_cons,List.drop_zero]
   repeat still_step
   try refine wpStill_nil ?_
   change wpList _ _ _ _ _ X4.drew
   obtain⟨X15,zue⟩:∃wd,wd=X4.drew:=⟨_,rfl⟩
   rw [<-zue]
   have z2C:Hid (Below X4.heap.size X4 X15):=by rw [Hid,zue];exact(Below.refl _ _).drew
   clear zue
   have zrk:=qh (yQ.out.below z2C.out)
   clear z1
   obtain⟨u0,v0⟩:=zrk.out.bq HL1.out bB.out bC.out (1+wF) (.int .i64 ([r0,r1,r2,r3].getD wF 0)) (by omega) (zei zbB)
   rw [<-Nat.add_assoc] at u0 v0
   have hw16:=zrk.out.set HL1.out (k:=1+wF) (by omega) (t':=⟨(qW:Int)+1,([r0,r1,r2,r3].set wF 0),bf⟩) (u:=(.int .i64 0)) bB.out bC.out (zbO zbB) (by simp) rfl
   rw [<-Nat.add_assoc] at hw16
   have zuf:=qh hw16
   clear hw16
   go_upto_region 31 with fail
   clear u0 v0
   generalize World.setCell X15 _ _=X16 at zuf ⊢
   obtain⟨zzt,zzu,zzv,zzw⟩:=zuf.out
   have zaH:=qh zzt
   have zww:=qh zzu
   have zwx:=qh zzv
   have zzx:=qh zzw
   clear zzt zzu zzv zzw zuf
   obtain⟨nv,hnv⟩:∃nv,nv=mem.getD jd 0:=⟨_,rfl⟩
   obtain⟨sb,so,hsa, -,hsc⟩:=xQ.part zcp.out jd (by rw [<-vC.out];omega)
   subst hsa
   rw [<-hnv] at hsc
   have HNV:=qh hnv
   clear hnv
   have s1:=zk zaH.out.own.below _ _ hsc
   have c6:=(qA.out _ zaH.out.own.below).2.2.2.2.2.2.1
   have uP:(jd:Int)<(mn:Int):=by omega
   have z2:=ze zaH.out.instr 2
   by_cases ha0:nv=A
   rotate_left
   ·have ha1:((nv:Int)==A)=false:=by simp [ha0]
    have HA0:=qh ha0
    clear ha0
    go_upto_region 34 with fail
    clear z2 s1 c6 hsc uP ha1
    cases em with
    |true=>
     have hb0:bf.length=0:=by rw [<-vD.out];exact of_decide_eq_true HEM.out.symm
     have HB0:=qh hb0
     clear hb0
     have hres:R=some ⟨ts.set i ⟨(qW:Int)+1, [r0,r1,r2,r3].set wF 0,bf⟩,mem,bad⟩:=by
      rw [jQ.out,bQ xM.out.symm (by rw [<-HVR.out, <-HA.out];exact λe=>HA0.out (HNV.out.trans e)),if_pos HB0.out]
      simp only [Option.map_some]
      rw [<-HRG.out]
      rfl
     have zP:=qh hres
     clear hres
     have yZ:=zaH.out
     rw [HSS.out] at yZ
     have yO:=qh yZ
     clear yZ
     obtain⟨⟨a0,a1,a2⟩,⟨q0,q1,q2⟩,⟨f0,f1,f2⟩,hset,hsn,hbe⟩:=yJ.out X16 bad yO.out.own.box yO.out.own.below
     have zJ:=qh hset
     have xW:=qh hsn
     have yM:=qh hbe
     clear hset hsn hbe
     go_wp2_with fail
     (try simp only [Exit.inBlock,Exit.then])
     refine bodyPost_ret (zA rfl _ _ (gx+3) 30 _ (0,0) _ rfl zJ.out Tryz.underlying30 rfl zI) rfl ?_
     exact⟨qU zP.out (uh.out _ _ _ _ _ _ _ yO.out xW.out),yM.out⟩
    |false=>
    have hb0:¬bf.length=0:=by rw [<-vD.out];exact of_decide_eq_false HEM.out.symm
    have HB0:=qh hb0
    clear hb0
    have hres:R=none:=by
     rw [jQ.out,bQ xM.out.symm (by rw [<-HVR.out, <-HA.out];exact λe=>HA0.out (HNV.out.trans e)),if_neg HB0.out]
     rfl
    have zP:=qh hres
    clear hres
    have yZ:=zaH.out
    have yO:=qh yZ
    clear yZ
    obtain⟨⟨a0,a1,a2⟩,⟨q0,q1,q2⟩,⟨f0,f1,f2⟩,hset,hsn,hbe⟩:=yJ.out X16 bad yO.out.own.box yO.out.own.below
    have zJ:=qh hset
    have xW:=qh hsn
    have yM:=qh hbe
    clear hset hsn hbe
    go_wp2_with fail
    (try simp only [Exit.inBlock,Exit.then])
    refine bodyPost_ret (zA rfl _ _ (gx+3) 30 _ (0,0) _ rfl zJ.out Tryz.underlying30 rfl zI) rfl ?_
    exact⟨ug zP.out,yM.out⟩
   have ha1:((nv:Int)==A)=true:=by simp [ha0]
   have HA0:=qh ha0
   clear ha0
   go_upto_region 32 with fail
   clear z2 s1 c6 hsc uP ha1
   go_upto_region 32 with fail
   have z2:=ze zaH.out.instr 2
   have hbx:=zaH.out.own.box
   have g1:=ze hbx 1
   clear hbx
   have hml:jd<mem.length:=by rw [<-vC.out];omega
   obtain⟨m0,m1⟩:=zaH.out.zky hml
   have uP:(jd:Int)<(mn:Int):=by omega
   have zlh:=qh (zaH.out.mem jd B)
   clear hml
   go_upto_region 33 with fail
   clear z2 g1 m0 m1 uP
   generalize World.setCell X16 _ _=X17 at zlh ⊢
   go_upto_region 33 with fail
   have z1:=ze zlh.out.instr 1
   refine wp_region_still_tail 6 (by kernel_rfl) (by kernel_rfl) ?_
   simp only [List.take_succ_cons,List.take_zero,List.drop_succ_cons,List.drop_zero]
   repeat still_step
   try refine wpStill_nil ?_
   change wpList _ _ _ _ _ X17.drew
   obtain⟨X18,zug⟩:∃wd,wd=X17.drew:=⟨_,rfl⟩
   rw [<-zug]
   have z2D:Hid (Below X17.heap.size X17 X18):=by rw [Hid,zug];exact(Below.refl _ _).drew
   clear zug
   have zrl:=qh (zlh.out.below z2D.out)
   clear z1
   obtain⟨u0,v0⟩:=zrl.out.bq zzx.out zww.out zwx.out (1+wF) (.int .i64 ([0,0,0,0].getD wF 0)) (by omega) (zqX zbB)
   rw [<-Nat.add_assoc] at u0 v0
   have zuh:=zrl.out.set zzx.out (k:=1+wF) (by omega) (t':=⟨(qW:Int)+1,([r0,r1,r2,r3].set wF 1),bf⟩) (u:=(.int .i64 1)) zww.out zwx.out (zmO zbB) (by simp) rfl
   rw [<-Nat.add_assoc] at zuh
   have zui:=qh zuh
   clear zuh
   go_upto_region 34 with fail
   clear u0 v0
   generalize World.setCell X18 _ _=X19 at zui ⊢
   obtain⟨zzy,zz0,zz1,zz2⟩:=zui.out
   have zrm:=qh zzy
   have z9Q:=qh zz0
   have z9R:=qh zz1
   have zAz:=qh zz2
   clear zzy zz0 zz1 zz2 zui
   cases em with
   |true=>
    have hb0:bf.length=0:=by rw [<-vD.out];exact of_decide_eq_true HEM.out.symm
    have HB0:=qh hb0
    clear hb0
    have hres:R=some ⟨ts.set i ⟨(qW:Int)+1, [r0,r1,r2,r3].set wF 1,bf⟩,(mem.set jd B),bad⟩:=by
     rw [jQ.out,bP xM.out.symm (by rw [<-HVR.out, <-HA.out, <-HA0.out,HNV.out];rfl),if_pos HB0.out]
     simp only [Option.map_some]
     rw [<-HVR.out, <-yM.out, <-HRG.out]
     rfl
    have zP:=qh hres
    clear hres
    have yZ:=zrm.out
    rw [List.set_set,HSS.out] at yZ
    have yO:=qh yZ
    clear yZ
    obtain⟨⟨a0,a1,a2⟩,⟨q0,q1,q2⟩,⟨f0,f1,f2⟩,hset,hsn,hbe⟩:=yJ.out X19 bad yO.out.own.box yO.out.own.below
    have zJ:=qh hset
    have xW:=qh hsn
    have yM:=qh hbe
    clear hset hsn hbe
    go_wp2_with fail
    (try simp only [Exit.inBlock,Exit.then])
    refine bodyPost_ret (zA rfl _ _ (gx+3) 30 _ (0,0) _ rfl zJ.out Tryz.underlying30 rfl zI) rfl ?_
    exact⟨qU zP.out (uh.out _ _ _ _ _ _ _ yO.out xW.out),yM.out⟩
   |false=>
   have hb0:¬bf.length=0:=by rw [<-vD.out];exact of_decide_eq_false HEM.out.symm
   have HB0:=qh hb0
   clear hb0
   have hres:R=none:=by
    rw [jQ.out,bP xM.out.symm (by rw [<-HVR.out, <-HA.out, <-HA0.out,HNV.out];rfl),if_neg HB0.out]
    rfl
   have zP:=qh hres
   clear hres
   have yZ:=zrm.out
   have yO:=qh yZ
   clear yZ
   obtain⟨⟨a0,a1,a2⟩,⟨q0,q1,q2⟩,⟨f0,f1,f2⟩,hset,hsn,hbe⟩:=yJ.out X19 bad yO.out.own.box yO.out.own.below
   have zJ:=qh hset
   have xW:=qh hsn
   have yM:=qh hbe
   clear hset hsn hbe
   go_wp2_with fail
   (try simp only [Exit.inBlock,Exit.then])
   refine bodyPost_ret (zA rfl _ _ (gx+3) 30 _ (0,0) _ rfl zJ.out Tryz.underlying30 rfl zI) rfl ?_
   exact⟨ug zP.out,yM.out⟩
 have p6:((op:Int)==6)=false:=by simp [o6]
 by_cases o7:op=7
 ·have jk:Hid ((7:Int)=x.op):=by rw [Hid, <-xM.out,o7]
  clear xM
  have xM:=jk
  clear jk
  have p7:((op:Int)==7)=true:=by simp [o7]
  clear o7
  as_aux_lemma=>
   obtain⟨nv,hnv⟩:∃nv,nv=mem.getD jd 0:=⟨_,rfl⟩
   obtain⟨sb,so,hsa,hsb,hsc⟩:=xQ.part zcp.out jd (by rw [<-vC.out];omega)
   subst hsa
   rw [<-hnv] at hsc
   have HNV:=qh hnv
   have HSC:=qh hsc
   clear hnv hsc hsb
   obtain⟨sb2,so2,he2,z5K, -⟩:=xQ.part z5z.out jd (by rw [<-vC.out];omega)
   cases he2
   have HSG:Hid (¬sb=gx+3):=λe=>by have:=yT.out;omega
   clear z5K
   go_upto_region 36 with fail
   have z2:=ze yQ.out.instr 2
   have hbx:=yQ.out.own.box
   have g1:=ze hbx 1
   clear hbx
   have hml:jd<mem.length:=by rw [<-vC.out];omega
   obtain⟨m0,m1⟩:=yQ.out.zky hml
   have uP:(jd:Int)<(mn:Int):=by omega
   have zaJ:=qh (yQ.out.mem jd 1)
   clear hml
   go_upto_region 37 with fail
   clear z2 g1 m0 m1 uP
   generalize World.setCell X4 _ _=X20 at zaJ ⊢
   have uP:(jd:Int)<(mn:Int):=by omega
   have CZ:Hid (∀y,Since (λk=>k=gx+3) X20 y->y.cell? ⟨gb,0,none⟩=some (.slice (some ⟨tb,0,none⟩) n xc)/\y.cell? ⟨gb,1,none⟩=some (.slice (some ⟨mb,0,none⟩) mn yc)/\y.cell? ⟨gb,2,none⟩=some (.bool bad)/\y.cell? ⟨gx+2,1,none⟩=some (.slice (some ⟨sb,so,none⟩) mn vZ)/\y.cell? ⟨gi,2,none⟩=some (.int .i64 jd)/\y.cell? ⟨sb,so+jd,none⟩=some (.int .i64 nv)):=λy hy=>by
    have h1:=zaJ.out.own.box
    have hlo:=zaJ.out.own.lo
    have hlt:=zx H4.out
    have h2:=(hy.block _ (zx h1) (by omega)).trans h1
    have h3:=(zaJ.out.own.below.block _ (zx H3.out)).trans H3.out
    have h4:=(hy.block _ (zx h3) (by omega)).trans h3
    have h5:=zaJ.out.instr
    have h6:=(hy.block _ (zx h5) HGI.out).trans h5
    have h7:=zk zaJ.out.own.below _ _ HSC.out
    have h8:=(hy.cell (p:=⟨sb,so+jd,none⟩) (World.block_lt_of_cell? _ _ h7) HSG.out).trans h7
    exact⟨ze h2 0,ze h2 1,ze h2 2,ze h4 1,ze h6 2,h8⟩
   cases em with
   |true=>
    have hb0:bf.length=0:=by rw [<-vD.out];exact of_decide_eq_true HEM.out.symm
    have HB0:=qh hb0
    clear hb0
    by_cases ha0:nv=0
    rotate_left
    ·have ha1:((nv:Int)==0)=false:=by simp [ha0]
     have HA0:=qh ha0
     clear ha0
     have hres:R=none:=by
      rw [jQ.out,gW xM.out.symm]
      rw [if_neg (λh=>HA0.out (by have:=h.2;rw [<-HVR.out] at this;exact HNV.out.trans this))]
      rfl
     have zP:=qh hres
     clear hres
     have yZ:=zaJ.out
     have yO:=qh yZ
     clear yZ
     refine vg (S:=λy=>Since (λk=>k=gx+3) X20 y) (Since.refl _ _).drew (λ_=> ?_)
     obtain⟨wd,hwd⟩:∃wd,wd=X20.drew:=⟨_,rfl⟩
     rw [<-hwd]
     have HFX:=yJ.out wd bad (by rw [hwd];exact yO.out.own.box) (by rw [hwd];exact yO.out.own.below.drew)
     have xJ:Hid (Since (λk=>k=gx+3) X20 wd):=by rw [Hid,hwd];exact(Since.refl _ _).drew
     clear hwd
     refine zD 0 CZ.out (xJ.out) ?_
     refine zD 1 zN (xJ.out) ?_
     refine zD 2 zN (xJ.out) ?_
     refine zD 3 zN (xJ.out) ?_
     refine zD 4 CZ.out (xJ.out) ?_
     refine zD 5 zN (xJ.out) ?_
     refine zD 6 CZ.out (xJ.out) ?_
     refine zD 7 zN (xJ.out) ?_
     refine zD 8 CZ.out (xJ.out) ?_
     refine zD 9 zN (xJ.out) ?_
     refine zD 10 zN (xJ.out) ?_
     refine yu 11 rfl (λK hK=> ?_)
     obtain⟨-,⟨q0,q1,q2⟩,⟨f0,f1,f2⟩,hset,hsn,hbe⟩:=HFX
     have zJ:=qh hset
     have xW:=qh hsn
     have yM:=qh hbe
     clear hset hsn hbe
     go_simp
     refine hK.out _ _ (xJ.out.trans xW.out (λ_ h=> .inl h)) (λ_=> ?_)
     clear hK K
     refine zD 12 zN ((xJ.out.trans xW.out (λ_ h=> .inl h))) ?_
     refine xL ?_
     go_wp2_with fail
     (try simp only [Exit.inBlock,Exit.then])
     refine bodyPost_ret (zA rfl _ _ (gx+3) 30 _ (0,0) _ rfl zJ.out Tryz.underlying30 rfl zI) rfl ?_
     exact⟨ug zP.out,yM.out⟩
    have ha1:((nv:Int)==0)=true:=by simp [ha0]
    have HA0:=qh ha0
    clear ha0
    have hres:R=some ⟨ts1,(mem.set jd 1),bad⟩:=by
     rw [jQ.out,gW xM.out.symm]
     rw [if_pos ⟨HB0.out,by rw [<-HVR.out];exact HNV.out.symm.trans HA0.out⟩]
     simp only [Option.map_some]
     rw [<-HVR.out,HT1.out]
     rfl
    have zP:=qh hres
    clear hres
    have yZ:=zaJ.out
    have yO:=qh yZ
    clear yZ
    refine vg (S:=λy=>Since (λk=>k=gx+3) X20 y) (Since.refl _ _).drew (λ_=> ?_)
    obtain⟨wd,hwd⟩:∃wd,wd=X20.drew:=⟨_,rfl⟩
    rw [<-hwd]
    have HFX:=yJ.out wd bad (by rw [hwd];exact yO.out.own.box) (by rw [hwd];exact yO.out.own.below.drew)
    have xJ:Hid (Since (λk=>k=gx+3) X20 wd):=by rw [Hid,hwd];exact(Since.refl _ _).drew
    clear hwd
    refine zD 0 CZ.out (xJ.out) ?_
    refine zD 1 zN (xJ.out) ?_
    refine zD 2 zN (xJ.out) ?_
    refine zD 3 zN (xJ.out) ?_
    refine zD 4 CZ.out (xJ.out) ?_
    refine zD 5 zN (xJ.out) ?_
    refine zD 6 CZ.out (xJ.out) ?_
    refine zD 7 zN (xJ.out) ?_
    refine zD 8 CZ.out (xJ.out) ?_
    refine zD 9 zN (xJ.out) ?_
    refine zD 10 zN (xJ.out) ?_
    refine yu 11 rfl (λK hK=> ?_)
    obtain⟨-,⟨q0,q1,q2⟩,⟨f0,f1,f2⟩,hset,hsn,hbe⟩:=HFX
    have zJ:=qh hset
    have xW:=qh hsn
    have yM:=qh hbe
    clear hset hsn hbe
    go_simp
    refine hK.out _ _ (xJ.out.trans xW.out (λ_ h=> .inl h)) (λ_=> ?_)
    clear hK K
    refine zD 12 zN ((xJ.out.trans xW.out (λ_ h=> .inl h))) ?_
    refine xL ?_
    go_wp2_with fail
    (try simp only [Exit.inBlock,Exit.then])
    refine bodyPost_ret (zA rfl _ _ (gx+3) 30 _ (0,0) _ rfl zJ.out Tryz.underlying30 rfl zI) rfl ?_
    exact⟨qU zP.out (uh.out _ _ _ _ _ _ _ yO.out (xJ.out.trans xW.out (λ_ h=> .inl h))),yM.out⟩
   |false=>
   have hb0:¬bf.length=0:=by rw [<-vD.out];exact of_decide_eq_false HEM.out.symm
   have HB0:=qh hb0
   clear hb0
   have hres:R=none:=by
    rw [jQ.out,gW xM.out.symm]
    rw [if_neg (λh=>HB0.out h.1)]
    rfl
   have zP:=qh hres
   clear hres
   have yZ:=zaJ.out
   have yO:=qh yZ
   clear yZ
   refine vg (S:=λy=>Since (λk=>k=gx+3) X20 y) (Since.refl _ _).drew (λ_=> ?_)
   obtain⟨wd,hwd⟩:∃wd,wd=X20.drew:=⟨_,rfl⟩
   rw [<-hwd]
   have HFX:=yJ.out wd bad (by rw [hwd];exact yO.out.own.box) (by rw [hwd];exact yO.out.own.below.drew)
   have xJ:Hid (Since (λk=>k=gx+3) X20 wd):=by rw [Hid,hwd];exact(Since.refl _ _).drew
   clear hwd
   refine zD 0 CZ.out (xJ.out) ?_
   refine zD 1 zN (xJ.out) ?_
   refine zD 2 zN (xJ.out) ?_
   refine wpAnyH_take (i:=3) (v:=undef) rfl (by kernel_rfl) (by kernel_rfl) (by kernel_rfl) (λ_ _ _ h=>h) (Or.inr ⟨by rfl,rfl⟩) (xJ.out) ?_
   change wpAnyH _ _ _ _ _ _ _ (Act.put _ (some 202) _) _
   simp only [Act.put,kJ]
   try simp only [kK,kL]
   refine wpAnyH_take (i:=4) (v:=undef) rfl (by kernel_rfl) (by kernel_rfl) (by kernel_rfl) (λ_ _ _ h=>h) (Or.inr ⟨by rfl,rfl⟩) (xJ.out) ?_
   change wpAnyH _ _ _ _ _ _ _ (Act.put _ (some 203) _) _
   simp only [Act.put,kJ]
   try simp only [kK,kL]
   refine wpAnyH_take (i:=5) (v:=undef) rfl (by kernel_rfl) (by kernel_rfl) (by kernel_rfl) (λ_ _ _ h=>h) (Or.inr ⟨by rfl,rfl⟩) (xJ.out) ?_
   change wpAnyH _ _ _ _ _ _ _ (Act.put _ (some 204) _) _
   simp only [Act.put,kJ]
   try simp only [kK,kL]
   refine wpAnyH_take (i:=6) (v:=undef) rfl (by kernel_rfl) (by kernel_rfl) (by kernel_rfl) (λ_ _ _ h=>h) (Or.inr ⟨by rfl,rfl⟩) (xJ.out) ?_
   change wpAnyH _ _ _ _ _ _ _ (Act.put _ (some 205) _) _
   simp only [Act.put,kJ]
   try simp only [kK,kL]
   refine wpAnyH_take (i:=7) (v:=undef) rfl (by kernel_rfl) (by kernel_rfl) (by kernel_rfl) (λ_ _ _ h=>h) (Or.inr ⟨by rfl,rfl⟩) (xJ.out) ?_
   change wpAnyH _ _ _ _ _ _ _ (Act.put _ (some 206) _) _
   simp only [Act.put,kJ]
   try simp only [kK,kL]
   refine wpAnyH_take (i:=8) (v:=undef) rfl (by kernel_rfl) (by kernel_rfl) (by kernel_rfl) (λ_ _ _ h=>h) (Or.inr ⟨by rfl,rfl⟩) (xJ.out) ?_
   change wpAnyH _ _ _ _ _ _ _ (Act.put _ (some 207) _) _
   simp only [Act.put,kJ]
   try simp only [kK,kL]
   refine wpAnyH_take (i:=9) (v:=undef) rfl (by kernel_rfl) (by kernel_rfl) (by kernel_rfl) (λ_ _ _ h=>h) (Or.inr ⟨by rfl,rfl⟩) (xJ.out) ?_
   change wpAnyH _ _ _ _ _ _ _ (Act.put _ (some 208) _) _
   simp only [Act.put,kJ]
   try simp only [kK,kL]
   refine zD 10 zN (xJ.out) ?_
   refine yu 11 rfl (λK hK=> ?_)
   obtain⟨-,⟨q0,q1,q2⟩,⟨f0,f1,f2⟩,hset,hsn,hbe⟩:=HFX
   have zJ:=qh hset
   have xW:=qh hsn
   have yM:=qh hbe
   clear hset hsn hbe
   go_simp
   refine hK.out _ _ (xJ.out.trans xW.out (λ_ h=> .inl h)) (λ_=> ?_)
   clear hK K
   refine zD 12 zN ((xJ.out.trans xW.out (λ_ h=> .inl h))) ?_
   refine xL ?_
   go_wp2_with fail
   (try simp only [Exit.inBlock,Exit.then])
   refine bodyPost_ret (zA rfl _ _ (gx+3) 30 _ (0,0) _ rfl zJ.out Tryz.underlying30 rfl zI) rfl ?_
   exact⟨ug zP.out,yM.out⟩
 have p7:((op:Int)==7)=false:=by simp [o7]
 by_cases o8:op=8
 ·have jk:Hid ((8:Int)=x.op):=by rw [Hid, <-xM.out,o8]
  clear xM
  have xM:=jk
  clear jk
  have p8:((op:Int)==8)=true:=by simp [o8]
  clear o8
  as_aux_lemma=>
   go_upto_region 39 with fail
   have z2:=ze yQ.out.instr 2
   have hbx:=yQ.out.own.box
   have g1:=ze hbx 1
   clear hbx
   have hml:jd<mem.length:=by rw [<-vC.out];omega
   obtain⟨m0,m1⟩:=yQ.out.zky hml
   have uP:(jd:Int)<(mn:Int):=by omega
   have zli:=qh (yQ.out.mem jd 0)
   clear hml
   go_upto_region 40 with fail
   clear z2 g1 m0 m1 uP
   generalize World.setCell X4 _ _=X24 at zli ⊢
   cases em with
   |true=>
    have hb0:bf.length=0:=by rw [<-vD.out];exact of_decide_eq_true HEM.out.symm
    have HB0:=qh hb0
    clear hb0
    have hres:R=some ⟨ts1,(mem.set jd 0),bad⟩:=by
     rw [jQ.out,gu xM.out.symm]
     rw [if_pos HB0.out]
     simp only [Option.map_some]
     rw [<-HVR.out,HT1.out]
     rfl
    have zP:=qh hres
    clear hres
    have yZ:=zli.out
    have yO:=qh yZ
    clear yZ
    obtain⟨⟨a0,a1,a2⟩,⟨q0,q1,q2⟩,⟨f0,f1,f2⟩,hset,hsn,hbe⟩:=yJ.out X24 bad yO.out.own.box yO.out.own.below
    have zJ:=qh hset
    have xW:=qh hsn
    have yM:=qh hbe
    clear hset hsn hbe
    go_wp2_with fail
    (try simp only [Exit.inBlock,Exit.then])
    refine bodyPost_ret (zA rfl _ _ (gx+3) 30 _ (0,0) _ rfl zJ.out Tryz.underlying30 rfl zI) rfl ?_
    exact⟨qU zP.out (uh.out _ _ _ _ _ _ _ yO.out xW.out),yM.out⟩
   |false=>
   have hb0:¬bf.length=0:=by rw [<-vD.out];exact of_decide_eq_false HEM.out.symm
   have HB0:=qh hb0
   clear hb0
   have hres:R=none:=by
    rw [jQ.out,gu xM.out.symm]
    rw [if_neg HB0.out]
    rfl
   have zP:=qh hres
   clear hres
   have yZ:=zli.out
   have yO:=qh yZ
   clear yZ
   obtain⟨⟨a0,a1,a2⟩,⟨q0,q1,q2⟩,⟨f0,f1,f2⟩,hset,hsn,hbe⟩:=yJ.out X24 bad yO.out.own.box yO.out.own.below
   have zJ:=qh hset
   have xW:=qh hsn
   have yM:=qh hbe
   clear hset hsn hbe
   go_wp2_with fail
   (try simp only [Exit.inBlock,Exit.then])
   refine bodyPost_ret (zA rfl _ _ (gx+3) 30 _ (0,0) _ rfl zJ.out Tryz.underlying30 rfl zI) rfl ?_
   exact⟨ug zP.out,yM.out⟩
 have p8:((op:Int)==8)=false:=by simp [o8]
 by_cases o9:op=9
 ·have jk:Hid ((9:Int)=x.op):=by rw [Hid, <-xM.out,o9]
  clear xM
  have xM:=jk
  clear jk
  have p9:((op:Int)==9)=true:=by simp [o9]
  clear o9
  as_aux_lemma=>
   go_upto_region 42 with fail
   have hbx:=yQ.out.own.box
   have g2:=ze hbx 2
   have h2:=zy hbx 2
   clear hbx
   cases bad with
   |true=>
    have zrn:=qh (yQ.out.isBad true)
    go_upto_region 48 with fail
    clear g2 h2
    generalize World.setCell X4 _ _=X25 at zrn ⊢
    have hres:R=some ⟨ts1,mem,true⟩:=by
     rw [jQ.out,kT xM.out.symm]
     rw [HT1.out]
     rfl
    have zP:=qh hres
    clear hres
    have yZ:=zrn.out
    have yO:=qh yZ
    clear yZ
    obtain⟨⟨a0,a1,a2⟩,⟨q0,q1,q2⟩,⟨f0,f1,f2⟩,hset,hsn,hbe⟩:=yJ.out X25 true yO.out.own.box yO.out.own.below
    have zJ:=qh hset
    have xW:=qh hsn
    have yM:=qh hbe
    clear hset hsn hbe
    go_wp2_with fail
    (try simp only [Exit.inBlock,Exit.then])
    refine bodyPost_ret (zA rfl _ _ (gx+3) 30 _ (0,0) _ rfl zJ.out Tryz.underlying30 rfl zI) rfl ?_
    exact⟨qU zP.out (uh.out _ _ _ _ _ _ _ yO.out xW.out),yM.out⟩
   |false=>
   by_cases ha0:A=0
   rotate_left
   ·have ha1:((A:Int)==0)=false:=by simp [ha0]
    have HA0:=qh ha0
    clear ha0
    have zro:=qh (yQ.out.isBad false)
    go_upto_region 48 with fail
    clear g2 h2
    generalize World.setCell X4 _ _=X27 at zro ⊢
    have hres:R=some ⟨ts1,mem,false⟩:=by
     rw [jQ.out,kT xM.out.symm]
     rw [HT1.out, <-HA.out,decide_eq_false HA0.out]
     rfl
    have zP:=qh hres
    clear hres
    have yZ:=zro.out
    have yO:=qh yZ
    clear yZ
    obtain⟨⟨a0,a1,a2⟩,⟨q0,q1,q2⟩,⟨f0,f1,f2⟩,hset,hsn,hbe⟩:=yJ.out X27 false yO.out.own.box yO.out.own.below
    have zJ:=qh hset
    have xW:=qh hsn
    have yM:=qh hbe
    clear hset hsn hbe
    go_wp2_with fail
    (try simp only [Exit.inBlock,Exit.then])
    refine bodyPost_ret (zA rfl _ _ (gx+3) 30 _ (0,0) _ rfl zJ.out Tryz.underlying30 rfl zI) rfl ?_
    exact⟨qU zP.out (uh.out _ _ _ _ _ _ _ yO.out xW.out),yM.out⟩
   have ha1:((A:Int)==0)=true:=by simp [ha0]
   have HA0:=qh ha0
   clear ha0
   have zrp:=qh (yQ.out.isBad true)
   go_upto_region 48 with fail
   clear g2 h2
   generalize World.setCell X4 _ _=X26 at zrp ⊢
   have hres:R=some ⟨ts1,mem,true⟩:=by
    rw [jQ.out,kT xM.out.symm]
    rw [HT1.out, <-HA.out,decide_eq_true HA0.out]
    rfl
   have zP:=qh hres
   clear hres
   have yZ:=zrp.out
   have yO:=qh yZ
   clear yZ
   obtain⟨⟨a0,a1,a2⟩,⟨q0,q1,q2⟩,⟨f0,f1,f2⟩,hset,hsn,hbe⟩:=yJ.out X26 true yO.out.own.box yO.out.own.below
   have zJ:=qh hset
   have xW:=qh hsn
   have yM:=qh hbe
   clear hset hsn hbe
   go_wp2_with fail
   (try simp only [Exit.inBlock,Exit.then])
   refine bodyPost_ret (zA rfl _ _ (gx+3) 30 _ (0,0) _ rfl zJ.out Tryz.underlying30 rfl zI) rfl ?_
   exact⟨qU zP.out (uh.out _ _ _ _ _ _ _ yO.out xW.out),yM.out⟩
 have p9:((op:Int)==9)=false:=by simp [o9]
 by_cases o12:op=12
 rotate_left
 ·have p12:((op:Int)==12)=false:=by simp [o12]
  by_cases o13:op=13
  rotate_left
  ·have p13:((op:Int)==13)=false:=by simp [o13]
   as_aux_lemma=>
    go_upto_region 48 with fail
    have hres:R=some ⟨ts1,mem,bad⟩:=by
     rw [jQ.out,zbj (by rw [<-xM.out];exact o1) (by rw [<-xM.out];exact o2) (by rw [<-xM.out];exact o3) (by rw [<-xM.out];exact o4) (by rw [<-xM.out];exact o5) (by rw [<-xM.out];exact o6) (by rw [<-xM.out];exact o7) (by rw [<-xM.out];exact o8) (by rw [<-xM.out];exact o9) (by rw [<-xM.out];exact o12) (by rw [<-xM.out];exact o13),HT1.out]
     rfl
    have zP:=qh hres
    clear hres
    have yZ:=yQ.out
    have yO:=qh yZ
    clear yZ
    obtain⟨⟨a0,a1,a2⟩,⟨q0,q1,q2⟩,⟨f0,f1,f2⟩,hset,hsn,hbe⟩:=yJ.out X4 bad yO.out.own.box yO.out.own.below
    have zJ:=qh hset
    have xW:=qh hsn
    have yM:=qh hbe
    clear hset hsn hbe
    go_wp2_with fail
    (try simp only [Exit.inBlock,Exit.then])
    refine bodyPost_ret (zA rfl _ _ (gx+3) 30 _ (0,0) _ rfl zJ.out Tryz.underlying30 rfl zI) rfl ?_
    exact⟨qU zP.out (uh.out _ _ _ _ _ _ _ yO.out xW.out),yM.out⟩
  have jk:Hid ((13:Int)=x.op):=by rw [Hid, <-xM.out,o13]
  clear xM
  have xM:=jk
  clear jk
  have p13:((op:Int)==13)=true:=by simp [o13]
  clear o13
  as_aux_lemma=>
   go_upto_region 47 with fail
   have z11:=ze yQ.out.instr 11
   obtain⟨u0,v0⟩:=yQ.out.bq HL1.out bB.out bC.out 0 (.int .i64 ((qW:Int)+1)) (by omega) rfl
   rw [Nat.add_zero] at u0 v0
   have zuj:=yQ.out.set HL1.out (k:=0) (by omega) (t':=⟨dst, [r0,r1,r2,r3],bf⟩) (u:=(.int .i64 dst)) bB.out bC.out rfl (by simp) rfl
   rw [Nat.add_zero] at zuj
   have zuk:=qh zuj
   clear zuj
   go_upto_region 48 with fail
   clear u0 v0 z11
   generalize World.setCell X4 _ _=X29 at zuk ⊢
   obtain⟨zz3,zz4,zz5,zz6⟩:=zuk.out
   have zz7:=qh zz3
   have z9S:=qh zz4
   have z9T:=qh zz5
   have zA0:=qh zz6
   clear zz3 zz4 zz5 zz6 zuk
   have hres:R=some ⟨ts.set i ⟨dst, [r0,r1,r2,r3],bf⟩,mem,bad⟩:=by
    rw [jQ.out,za9 xM.out.symm]
    simp only [Option.map_some]
    rw [<-HDS.out]
   have zP:=qh hres
   clear hres
   have yZ:=zz7.out
   rw [HSS.out] at yZ
   have yO:=qh yZ
   clear yZ
   obtain⟨⟨a0,a1,a2⟩,⟨q0,q1,q2⟩,⟨f0,f1,f2⟩,hset,hsn,hbe⟩:=yJ.out X29 bad yO.out.own.box yO.out.own.below
   have zJ:=qh hset
   have xW:=qh hsn
   have yM:=qh hbe
   clear hset hsn hbe
   go_wp2_with fail
   (try simp only [Exit.inBlock,Exit.then])
   refine bodyPost_ret (zA rfl _ _ (gx+3) 30 _ (0,0) _ rfl zJ.out Tryz.underlying30 rfl zI) rfl ?_
   exact⟨qU zP.out (uh.out _ _ _ _ _ _ _ yO.out xW.out),yM.out⟩
 have jk:Hid ((12:Int)=x.op):=by rw [Hid, <-xM.out,o12]
 clear xM
 have xM:=jk
 clear jk
 have p12:((op:Int)==12)=true:=by simp [o12]
 clear o12
 as_aux_lemma=>
  go_upto_region 44 with fail
  by_cases ha0:A=0
  rotate_left
  ·have ha1:((A:Int)==0)=false:=by simp [ha0]
   have HA0:=qh ha0
   clear ha0
   go_upto_region 48 with fail
   clear ha1
   have hres:R=some ⟨ts1,mem,bad⟩:=by
    rw [jQ.out,gy xM.out.symm]
    rw [<-HA.out,if_neg HA0.out,HT1.out]
    rfl
   have zP:=qh hres
   clear hres
   have yZ:=yQ.out
   have yO:=qh yZ
   clear yZ
   obtain⟨⟨a0,a1,a2⟩,⟨q0,q1,q2⟩,⟨f0,f1,f2⟩,hset,hsn,hbe⟩:=yJ.out X4 bad yO.out.own.box yO.out.own.below
   have zJ:=qh hset
   have xW:=qh hsn
   have yM:=qh hbe
   clear hset hsn hbe
   go_wp2_with fail
   (try simp only [Exit.inBlock,Exit.then])
   refine bodyPost_ret (zA rfl _ _ (gx+3) 30 _ (0,0) _ rfl zJ.out Tryz.underlying30 rfl zI) rfl ?_
   exact⟨qU zP.out (uh.out _ _ _ _ _ _ _ yO.out xW.out),yM.out⟩
  have ha1:((A:Int)==0)=true:=by simp [ha0]
  have HA0:=qh ha0
  clear ha0
  go_upto_region 45 with fail
  clear ha1
  have z11:=ze yQ.out.instr 11
  obtain⟨u0,v0⟩:=yQ.out.bq HL1.out bB.out bC.out 0 (.int .i64 ((qW:Int)+1)) (by omega) rfl
  rw [Nat.add_zero] at u0 v0
  have zul:=yQ.out.set HL1.out (k:=0) (by omega) (t':=⟨dst, [r0,r1,r2,r3],bf⟩) (u:=(.int .i64 dst)) bB.out bC.out rfl (by simp) rfl
  rw [Nat.add_zero] at zul
  have zum:=qh zul
  clear zul
  go_upto_region 48 with fail
  clear u0 v0 z11
  generalize World.setCell X4 _ _=X28 at zum ⊢
  obtain⟨zz8,zz9,zzA,zzB⟩:=zum.out
  have zzC:=qh zz8
  have z9U:=qh zz9
  have z9V:=qh zzA
  have zA1:=qh zzB
  clear zz8 zz9 zzA zzB zum
  have hres:R=some ⟨ts.set i ⟨dst, [r0,r1,r2,r3],bf⟩,mem,bad⟩:=by
   rw [jQ.out,gy xM.out.symm]
   rw [<-HA.out,if_pos HA0.out, <-HDS.out]
   rfl
  have zP:=qh hres
  clear hres
  have yZ:=zzC.out
  rw [HSS.out] at yZ
  have yO:=qh yZ
  clear yZ
  obtain⟨⟨a0,a1,a2⟩,⟨q0,q1,q2⟩,⟨f0,f1,f2⟩,hset,hsn,hbe⟩:=yJ.out X28 bad yO.out.own.box yO.out.own.below
  have zJ:=qh hset
  have xW:=qh hsn
  have yM:=qh hbe
  clear hset hsn hbe
  go_wp2_with fail
  (try simp only [Exit.inBlock,Exit.then])
  refine bodyPost_ret (zA rfl _ _ (gx+3) 30 _ (0,0) _ rfl zJ.out Tryz.underlying30 rfl zI) rfl ?_
  exact⟨qU zP.out (uh.out _ _ _ _ _ _ _ yO.out xW.out),yM.out⟩
