/- Steps. -/
import Derived.Test.YtliajkheeniljaaGreatDoorZrOwn
import Derived.Test.YtliajkheeniljaaGreatDoorZrStepQ
set_option linter.all false
namespace Go.Proofs.YtliajkheeniljaaGreatDoor
open Go.RowKit
set_option maxRecDepth 100000
set_option maxHeartbeats 16000000
structure vL (W X:World) (gb gi tb n tc mb mn mc:Nat) (bad:Bool) (ts:List zB) (mem:List Int) (bs:List Value) (wU:List Value):Prop where
 own:vM W X gb (.slice (some ⟨tb,0,none⟩) n tc) (.slice (some ⟨mb,0,none⟩) mn mc) bad ts mem bs
 instr:X.heap[gi]? =some (.cells wU.toArray 64 (0,0))
 g1:gi≠gb
 g2:gi≠tb
 g3:gi≠mb
theorem vL.below {W X X':World} {gb gi tb n tc mb mn mc:Nat} {bad:Bool} {ts:List zB} {mem:List Int} {bs wU:List Value} (h:vL W X gb gi tb n tc mb mn mc bad ts mem bs wU) (hb:Below X.heap.size X X'):vL W X' gb gi tb n tc mb mn mc bad ts mem bs wU:=
 ⟨h.own.later hb,(hb.block _ (zw h.instr)).trans h.instr,h.g1,h.g2,h.g3⟩
theorem vL.thread {W X:World} {gb gi tb n tc mb mn mc:Nat} {bad:Bool} {ts:List zB} {mem:List Int} {bs wU:List Value} (h:vL W X gb gi tb n tc mb mn mc bad ts mem bs wU) {i k:Nat} (hi:i<ts.length) (hk:k<6) {t:zB} {b u:Value}
  (hc:t.cells b=((ts.getD i default).cells (bs.getD i (.slice none 0 0))).set k u) (hr:t.regs.length=4) (hb:X.ownsRow W.heap.size 50 2 b t.buf.length (zq zk.cells t.buf)) (hn:∀k,b.ownBlock=some k->k≠tb/\k≠mb/\k≠gb)
  (hd:∀k,b.ownBlock=some k->∀j,j<ts.length->j≠i->(bs.getD j (.slice none 0 0)).ownBlock≠some k):
  vL W (X.setCell ⟨tb,i*6+k,none⟩ u) gb gi tb n tc mb mn mc bad (ts.set i t) mem (bs.set i b) wU:=
 ⟨h.own.thread hi hk hc hr hb (λk hk=>⟨(hn k hk).1,λe=>(hn k hk).2.1 (by simpa [Value.ownBlock] using e.symm),(hn k hk).2.2⟩) hd,(Below.heap_setCell _ _ _ _ h.g2).trans h.instr,h.g1,h.g2,h.g3⟩
theorem vL.mem {W X:World} {gb gi tb n tc mb mn mc:Nat} {bad:Bool} {ts:List zB} {mem:List Int} {bs wU:List Value} (h:vL W X gb gi tb n tc mb mn mc bad ts mem bs wU) (j:Nat) (x:Int):
  vL W (X.setCell ⟨mb,j,none⟩ (.int .i64 x)) gb gi tb n tc mb mn mc bad ts (mem.set j x) bs wU:=
 ⟨h.own.mem j x,(Below.heap_setCell _ _ _ _ h.g3).trans h.instr,h.g1,h.g2,h.g3⟩
theorem vL.isBad {W X:World} {gb gi tb n tc mb mn mc:Nat} {bad:Bool} {ts:List zB} {mem:List Int} {bs wU:List Value} (h:vL W X gb gi tb n tc mb mn mc bad ts mem bs wU) (b:Bool):
  vL W (X.setCell ⟨gb,2,none⟩ (.bool b)) gb gi tb n tc mb mn mc b ts mem bs wU:=
 ⟨h.own.isBad b,(Below.heap_setCell _ _ _ _ h.g1).trans h.instr,h.g1,h.g2,h.g3⟩
theorem vL.zpJ {W X:World} {gb gi tb n tc mb mn mc:Nat} {bad:Bool} {ts:List zB} {mem:List Int} {bs wU:List Value} (h:vL W X gb gi tb n tc mb mn mc bad ts mem bs wU) {i:Nat} (hi:i<ts.length):
  ∀k u,k<6->((ts.getD i default).cells (bs.getD i (.slice none 0 0)))[k]? =some u->X.cell? ⟨tb,i*6+k,none⟩=some u/\X.frozen? ⟨tb,i*6+k,none⟩=false:=by
 obtain⟨tb',tc',e, -,h2⟩:=h.own.threads hi
 cases e
 exact h2
theorem vL.zkI {W X:World} {gb gi tb n tc mb mn mc:Nat} {bad:Bool} {ts:List zB} {mem:List Int} {bs wU:List Value} (h:vL W X gb gi tb n tc mb mn mc bad ts mem bs wU) {j:Nat} (hj:j<mem.length):
  X.cell? ⟨mb,j,none⟩=some (.int .i64 (mem.getD j 0))/\X.frozen? ⟨mb,j,none⟩=false:=by
 obtain⟨mb',mc',e, -,h2⟩:=h.own.vars (by omega)
 cases e
 exact h2 j hj
theorem vL.buf {W X:World} {gb gi tb n tc mb mn mc:Nat} {bad:Bool} {ts:List zB} {mem:List Int} {bs wU:List Value} (h:vL W X gb gi tb n tc mb mn mc bad ts mem bs wU) {i:Nat} (hi:i<ts.length):
  X.ownsRow W.heap.size 50 2 (bs.getD i (.slice none 0 0)) (ts.getD i default).buf.length (zq zk.cells (ts.getD i default).buf)/\∀k,(bs.getD i (.slice none 0 0)).ownBlock=some k->k≠tb/\k≠mb/\k≠gb:=
 ⟨h.own.own.buf i hi,λk hk=>⟨λe=>(h.own.own.ne i hi k hk).1 (by rw [e];rfl),λe=>(h.own.own.ne i hi k hk).2 (by rw [e];rfl),λe=>h.own.n3 i hi (e ▸ hk)⟩⟩
theorem vL.dist {W X:World} {gb gi tb n tc mb mn mc:Nat} {bad:Bool} {ts:List zB} {mem:List Int} {bs wU:List Value} (h:vL W X gb gi tb n tc mb mn mc bad ts mem bs wU) {i:Nat} (hi:i<ts.length):
  ∀k,(bs.getD i (.slice none 0 0)).ownBlock=some k->∀j,j<ts.length->j≠i->(bs.getD j (.slice none 0 0)).ownBlock≠some k:=λk hk j hj hji=>h.own.own.one i j hi hj (λe=>hji e.symm) k hk
theorem vL.set {W X:World} {gb gi tb n tc mb mn mc:Nat} {bad:Bool} {ts:List zB} {mem:List Int} {bs wU:List Value} (h:vL W X gb gi tb n tc mb mn mc bad ts mem bs wU) {i k:Nat} (hi:i<ts.length) (hk:k<6) {t t':zB} {b u:Value}
  (ht:ts.getD i default=t) (hbs:bs.getD i (.slice none 0 0)=b) (hc:t'.cells b=(t.cells b).set k u) (hr:t'.regs.length=4) (hbf:t'.buf=t.buf):
  vL W (X.setCell ⟨tb,i*6+k,none⟩ u) gb gi tb n tc mb mn mc bad (ts.set i t') mem (bs.set i b) wU/\(ts.set i t').getD i default=t'/\(bs.set i b).getD i (.slice none 0 0)=b/\i<(ts.set i t').length:=by
 have hl:=h.own.own.len
 have hB:=h.buf hi
 rw [ht,hbs] at hB
 refine⟨h.thread hi hk (by rw [ht,hbs];exact hc) hr (by rw [hbf];exact hB.1) hB.2 (by have:=h.dist hi;rw [hbs] at this;exact this),by rw [qV hi,if_pos rfl],by rw [qV (by rw [hl];exact hi),if_pos rfl],by rw [List.length_set];exact hi⟩
theorem vL.bU {W X:World} {gb gi tb n tc mb mn mc:Nat} {bad:Bool} {ts:List zB} {mem:List Int} {bs wU:List Value} (h:vL W X gb gi tb n tc mb mn mc bad ts mem bs wU) {i:Nat} (hi:i<ts.length) {t:zB} {b:Value}
  (ht:ts.getD i default=t) (hbs:bs.getD i (.slice none 0 0)=b):∀k u,k<6->(t.cells b)[k]? =some u->X.cell? ⟨tb,i*6+k,none⟩=some u/\X.frozen? ⟨tb,i*6+k,none⟩=false:=by
 have:=h.zpJ hi
 rw [ht,hbs] at this
 exact this
theorem zce {pc r0 r1 r2 r3 v:Int} {bf:List zk} {b:Value} {k:Nat} (hk:k<4):(⟨pc, [r0,r1,r2,r3].set k v,bf⟩:zB).cells b=((⟨pc, [r0,r1,r2,r3],bf⟩:zB).cells b).set (1+k) (.int .i64 v):=by
 have:k=0\/k=1\/k=2\/k=3:=by omega
 rcases this with rfl|rfl|rfl|rfl<;>rfl
theorem zeI {pc r0 r1 r2 r3:Int} {bf:List zk} {b:Value} {k:Nat} (hk:k<4):((⟨pc, [r0,r1,r2,r3],bf⟩:zB).cells b)[1+k]? =some (.int .i64 ([r0,r1,r2,r3].getD k 0)):=by
 have:k=0\/k=1\/k=2\/k=3:=by omega
 rcases this with rfl|rfl|rfl|rfl<;>rfl
theorem zrT {pc r0 r1 r2 r3:Int} {bf:List zk} {b:Value} {k:Nat} (hk:k<4):((⟨pc, [r0,r1,r2,r3].set k 0,bf⟩:zB).cells b)[1+k]? =some (.int .i64 ([0,0,0,0].getD k 0)):=by
 have:k=0\/k=1\/k=2\/k=3:=by omega
 rcases this with rfl|rfl|rfl|rfl<;>rfl
theorem znq {pc r0 r1 r2 r3:Int} {bf:List zk} {b:Value} {k:Nat} (hk:k<4):(⟨pc, [r0,r1,r2,r3].set k 1,bf⟩:zB).cells b=((⟨pc, [r0,r1,r2,r3].set k 0,bf⟩:zB).cells b).set (1+k) (.int .i64 1):=by
 have:k=0\/k=1\/k=2\/k=3:=by omega
 rcases this with rfl|rfl|rfl|rfl<;>rfl
theorem uH {R:Option zl} {xa ya:Option Addr} {xn xc yn yc B:Nat} {b:Bool} {X:World} (h:R=none):∃xa' xn' xc' ya' yn' yc' s',Ending.returned (.tuple #[.agg #[.slice xa xn xc, .slice ya yn yc, .bool b], .bool false])= .returned (.tuple #[yB s' (.slice xa' xn' xc') (.slice ya' yn' yc'), .bool R.isSome])/\∀t,R=some t->s'=t/\∃bs,OwnAt B X (.slice xa' xn' xc') (.slice ya' yn' yc') t.threads t.mem bs:=
 ⟨xa,xn,xc,ya,yn,yc,⟨[], [],b⟩,by rw [h];rfl,λt e=>by rw [h] at e;cases e⟩
theorem qJ {R:Option zl} {xa ya:Option Addr} {xn xc yn yc B:Nat} {s:zl} {bs:List Value} {X:World} (h:R=some s) (hs:OwnAt B X (.slice xa xn xc) (.slice ya yn yc) s.threads s.mem bs):∃xa' xn' xc' ya' yn' yc' s',Ending.returned (.tuple #[.agg #[.slice xa xn xc, .slice ya yn yc, .bool s.bad], .bool true])= .returned (.tuple #[yB s' (.slice xa' xn' xc') (.slice ya' yn' yc'), .bool R.isSome])/\∀t,R=some t->s'=t/\∃bs,OwnAt B X (.slice xa' xn' xc') (.slice ya' yn' yc') t.threads t.mem bs:=
 ⟨xa,xn,xc,ya,yn,yc,s,by rw [h];rfl,λt e=>by rw [h] at e;cases e;exact⟨rfl,bs,hs⟩⟩
theorem kV.zxX {e t:TypeId} {size:Nat} {V X:World} {v:Value} {n:Nat} {xs:List Value} {bs:List (Nat × List Value)} (h:kV e size t V X v n xs bs) {g:Nat} {cs:List Value} (hb:(g,cs)∈bs) (l:List Value) (hl:cs.length=l.length):
  Below V.heap.size V (yA X g 0 l)/\(yA X g 0 l).heap[g]? =some (.cells l.toArray t (0,0))/\V.heap.size<=g:=by
 obtain⟨h1, -,h3⟩:=h.news _ hb
 exact⟨h.below.trans ((xR l X 0).below h.below.size (λk e=>by omega)),qW l hl h1,h3⟩
theorem zkZ (w:World) (c:zP) (cv:Value) (d:Nat) (hc:yO d w cv c.threads) (m:zI) (s:zl) (sv mv:Value) (hs:zY w s sv mv) (hfit:yJ c m s=true) (i:Nat) (hi:i<s.threads.length) (hb:∀j,j<s.threads.length->(s.threads.getD j default).buf.length<=100000):
  Calls Tryz.prog 62 #[yH c cv,xu m,yB s sv mv, .int .i64 i] w λe w'=>(∃xa xn xc ya yn yc s',e= .returned (.tuple #[yB s' (.slice xa xn xc) (.slice ya yn yc), .bool (jZ c m s i d).isSome])/\∀t,jZ c m s i d=some t->s'=t/\∃bs,OwnAt w.heap.size w' (.slice xa xn xc) (.slice ya yn yc) t.threads t.mem bs)/\Below w.heap.size w w':=by
 obtain⟨hcode,hmay,hlen,hmem,zlD⟩:=pE hfit
 have hbd:=xV hcode
 obtain⟨zf5,zmx⟩:=zlD i hi
 have hins:=λk (hk:k<(c.threads.getD i []).length)=>zhR hcode (i:=i) (k:=k) (by rw [<-hlen];exact hi) hk
 clear hcode hmay zlD hfit
 obtain⟨ca,cc,rfl, -⟩:=zh.slice hc
 obtain⟨ta,jr,rfl, -⟩:=zh.slice hs.threads
 obtain⟨ma,vQ,rfl, -⟩:=zh.slice hs.mem
 have hown:=λW hW=>zn1 W s (.slice ta s.threads.length jr) (.slice ma s.mem.length vQ) hW (by omega) (by omega) (λj hj=>by have:=hb j hj;omega)
 obtain⟨R,hR⟩:∃R,R=jZ c m s i d:=⟨_,rfl⟩
 rw [<-hR]
 obtain⟨l,hl⟩:∃l,l=c.threads.getD i [] :=⟨_,rfl⟩
 obtain⟨t,ht⟩:∃t,t=s.threads.getD i default:=⟨_,rfl⟩
 have hR2:R=if t.pc<(l.length:Int) then(stepT c m s t (l.getD t.pc.toNat default) d).map (λr=>⟨s.threads.set i r.1,r.2.1,r.2.2⟩) else none:=by rw [hR,hl,ht];rfl
 rw [<-ht] at zf5 zmx
 rw [<-hl] at zmx hins
 have HST:Hid (∀x,stepT c m s t x d=stepT c m s t x d):=λ_=>rfl
 obtain⟨C,hC⟩:∃C,C=c:=⟨_,rfl⟩
 obtain⟨M,hM⟩:∃M,M=m:=⟨_,rfl⟩
 obtain⟨S,hS⟩:∃S,S=s:=⟨_,rfl⟩
 rw [<-hC, <-hM, <-hS] at hR2
 clear HST
 have HRR:=qh hR2
 have hT:=hs.threads
 have hME:=hs.mem
 obtain⟨vars,dom,cs⟩:=c
 obtain⟨mod,bnd⟩:=m
 obtain⟨ts,mem,bad⟩:=s
 simp only [] at hc hs hi hb hlen hmem hbd hl ht hT hME hown hins zf5 zmx hR2 ⊢
 unfold yH xu yB
 unfold yB at hown
 simp only [] at hown ⊢
 obtain⟨n,hn⟩:∃n,n=ts.length:=⟨_,rfl⟩
 obtain⟨cn,hcn⟩:∃cn,cn=cs.length:=⟨_,rfl⟩
 obtain⟨mn,hmn⟩:∃mn,mn=mem.length:=⟨_,rfl⟩
 rw [<-hn] at hT hown hi hb hlen ⊢
 rw [<-hmn] at hME hown hmem ⊢
 rw [<-hcn] at hc hlen hbd ⊢
 rw [<-hn, <-hmn] at hs
 have jk:=qh hlen
 have HME:=qh hmem
 have HC:=qh hC
 have HM:=qh hM
 have HS:=qh hS
 have HL:=qh hl
 have HT:=qh ht
 have HN:=qh hn
 have HCN:=qh hcn
 have vR:=qh hmn
 have HBU:=qh hb
 have z0S:=qh hins
 have HOWN:=qh hown
 have hB4:=zcj w (.cells #[.int .i64 vars, .int .i64 dom, .slice ca cn cc] 24) (.cells #[.int .i64 mod, .int .i64 bnd] 26) (.cells #[.slice ta n jr, .slice ma mn vQ, .bool bad] 30) (.cells #[.slice none 0 0, .slice none 0 0, .bool false] 30)
 obtain⟨hB,h1,h2,h3,h4,h5⟩:=hB4
 have HB:=qh hB
 have H1:=qh h1
 have H2:=qh h2
 have H3:=qh h3
 have H4:=qh h4
 have H5:=qh h5
 have jN:=qh (zh.below (xU.stays d) hc hB)
 have HSW:=qh (zY.below hs hB)
 have ze6:=qh (zh.below uE.stays hME hB)
 have z6q:=qh hME
 have z6r:=qh h5
 clear hlen hmem hC hM hS hl ht hn hcn hmn hb hins hown hB h1 h2 h3 h4 h5 hT hME hc hs hR hR2
 go_enter Tryz.func62,Tryz.ntmps62
 go_upto_region 1 with fail
 generalize World.alloc (World.alloc (World.alloc (World.alloc w _) _) _) _=W at HB H1 H2 H3 H4 H5 jN HSW ze6 z6r ⊢
 obtain⟨gx,hgx⟩:∃gx,gx=w.heap.size:=⟨_,rfl⟩
 rw [<-hgx] at H1 H2 H3 H4 H5 ⊢
 have yS:=qh hgx
 clear hgx
 have qm:Hid (∀x,Below W.heap.size W x->x.cell? ⟨gx,0,none⟩=some (.int .i64 vars)/\x.cell? ⟨gx,1,none⟩=some (.int .i64 dom)/\x.cell? ⟨gx,2,none⟩=some (.slice ca cn cc)/\
   x.cell? ⟨gx+1,0,none⟩=some (.int .i64 mod)/\x.cell? ⟨gx+1,1,none⟩=some (.int .i64 bnd)/\x.cell? ⟨gx+2,0,none⟩=some (.slice ta n jr)/\x.cell? ⟨gx+2,1,none⟩=some (.slice ma mn vQ)/\x.cell? ⟨gx+2,2,none⟩=some (.bool bad)):=λx hx=>
  ⟨zi hx _ _ (ze H1.out 0),zi hx _ _ (ze H1.out 1),zi hx _ _ (ze H1.out 2),zi hx _ _ (ze H2.out 0),zi hx _ _ (ze H2.out 1),zi hx _ _ (ze H3.out 0),zi hx _ _ (ze H3.out 1),zi hx _ _ (ze H3.out 2)⟩
 obtain⟨c0,c1,c2,c3,c4,c5,c6,c7⟩:=qm.out W (Below.refl _ _)
 go_upto_region 2 with(go_at_call 64;refine(HOWN.out W HSW.out).mono ?_;rintro e W1 ⟨⟨tv1,mv1,bs,rfl,ho1⟩,hb1⟩;have HO1:=qh ho1;have HB1:=qh hb1;obtain⟨xa,xc,rfl, -, -⟩:=xC ho1.row;obtain⟨ya,yc,rfl, -, -⟩:=xC ho1.mem;clear ho1 hb1)
 rw [<-HN.out, <-vR.out]
 have zAl:1<=vars:=hbd.1
 have z9C:2<=dom:=hbd.2.2.1
 have z9D:dom<=16:=hbd.2.2.2.1
 have bA:n<=4:=by have:=hbd.2.2.2.2.2;have:=jk.out;omega
 have z5l:mn<=4/\1<=mn:=by have:=hbd.2.1;have:=HME.out;omega
 clear c0 c1 c2 c3 c4 c5 c6 c7 hbd
 have hol:=vM.zqo HO1.out HB1.out bad
 rw [<-HN.out, <-vR.out] at hol
 have HOL:=qh hol
 clear hol
 generalize World.alloc W1 _=X0 at HOL ⊢
 obtain⟨gb,hgb⟩:∃gb,gb=W1.heap.size:=⟨_,rfl⟩
 rw [<-hgb] at HOL ⊢
 clear hgb HO1 HB1 HOWN
 obtain⟨tb,tc,hxa, -,htc⟩:=HOL.out.threads (by rw [<-HN.out];exact hi)
 rw [<-HN.out] at hxa
 cases hxa
 obtain⟨mb,mc,hya, -,hmc⟩:=HOL.out.vars (by rw [<-vR.out];omega)
 rw [<-vR.out] at hya
 cases hya
 have hr4:=HOL.out.own.regs i (by rw [<-HN.out];exact hi)
 obtain⟨bv,hbv⟩:∃bv,bv=bs.getD i (.slice none 0 0):=⟨_,rfl⟩
 have hbuf:=(HOL.out.own.buf i (by rw [<-HN.out];exact hi))
 have hbl:=HBU.out i hi
 rw [<-HT.out] at hr4 htc hbuf hbl
 rw [<-hbv] at htc hbuf
 obtain⟨ba,bc,rfl, -, -⟩:=xC hbuf
 obtain⟨pc,rg,bf⟩:=t
 obtain⟨r0,r1,r2,r3,rfl⟩:=kS hr4
 simp only [] at zf5 zmx htc hbuf hbl HRR
 obtain⟨bl,kE⟩:∃bl,bl=bf.length:=⟨_,rfl⟩
 rw [<-kE] at htc hbuf hbl hbv
 obtain⟨qN,rfl⟩:∃qN:Nat,pc=qN:=⟨pc.toNat,by omega⟩
 have vg:=qh kE
 have HBV:=qh hbv
 have HTC:Hid (∀k u,k<6-> [Value.int .i64 qN, .int .i64 r0, .int .i64 r1, .int .i64 r2, .int .i64 r3, .slice ba bl bc][k]? =some u->X0.cell? ⟨tb,i*6+k,none⟩=some u/\X0.frozen? ⟨tb,i*6+k,none⟩=false):=by
  have e:(⟨(qN:Int), [r0,r1,r2,r3],bf⟩:zB).cells (.slice ba bl bc)= [Value.int .i64 qN, .int .i64 r0, .int .i64 r1, .int .i64 r2, .int .i64 r3, .slice ba bl bc] :=rfl
  rw [<-e];exact htc
 clear kE hbv hbuf htc hr4 hmc zf5
 obtain⟨ln,hln⟩:∃ln,ln=l.length:=⟨_,rfl⟩
 rw [<-hln] at zmx HRR
 obtain⟨eb,eo,ka,kc,yg, -,hec,hel⟩:=yO.part jN.out i (by rw [<-HCN.out, <-jk.out];exact hi)
 rw [<-HL.out, <-hln] at hec hel
 subst yg
 have zuL:=qh hln
 clear hln
 have HEL:=qh hel
 have HEC:Hid (∀x,Below W.heap.size W x->x.cell? ⟨eb,eo+i,none⟩=some (.slice ka ln kc)):=λx hx=>zi hx _ _ hec
 clear hel hec
 have zAm:(i:Int)<(cn:Int):=by have:=jk.out;omega
 obtain⟨c0,c1,c2,c3,c4,c5,c6,c7⟩:=qm.out X0 HOL.out.below
 have e0:=HEC.out X0 HOL.out.below
 have t0:=(HTC.out 0 _ (by omega) rfl).1
 rw [Nat.add_zero] at t0
 have b0:=ze HOL.out.box 0
 by_cases hp:qN<ln
 rotate_left
 ·have hpN:(ln:Int)<=(qN:Int):=by omega
  have hres:R=none:=by rw [HRR.out,if_neg (by omega)]
  have zQ:=qh hres
  clear hres
  go_upto_region 3 with fail
  go_quiet (fail)
  go_upto_region 4 with fail
  generalize hX9:World.drewN X0 _=X9
  have pV:Below X0.heap.size X0 X9:=by rw [<-hX9];exact yh (Below.refl _ _) _
  clear hX9 c0 c1 c2 c3 c4 c5 c6 c7 e0 t0 b0
  have hbw:=zD HOL.out.below pV
  have kg:=qh hbw
  obtain⟨c0,c1,c2,c3,c4,c5,c6,c7⟩:=qm.out X9 hbw
  have hr:=(hbw.block _ (zw H4.out)).trans H4.out
  have q0:=ze hr 0
  have q1:=ze hr 1
  have q2:=ze hr 2
  have f0:=zA hr 0
  have f1:=zA hr 1
  have f2:=zA hr 2
  have hset:=zu (zu (zu hr 0 (.slice ta n jr)) 1 (.slice ma mn vQ)) 2 (.bool bad)
  simp only [List.setIfInBounds_toArray,List.set_cons_zero,List.set_cons_succ] at hset
  have hS:Since (λk=>k=gx+3) X9 (((X9.setCell ⟨gx+3,0,none⟩ (.slice ta n jr)).setCell ⟨gx+3,1,none⟩ (.slice ma mn vQ)).setCell ⟨gx+3,2,none⟩ (.bool bad)):=Since.setCell (F:=λk=>k=gx+3) (p:=⟨gx+3,2,none⟩) (Since.setCell (F:=λk=>k=gx+3) (p:=⟨gx+3,1,none⟩) (Since.setCell (F:=λk=>k=gx+3) (p:=⟨gx+3,0,none⟩) (Since.refl _ X9) (.inl rfl) _) (.inl rfl) _) (.inl rfl) _
  have zG:=qh hset
  have xK:=qh hS
  clear hr hset hS pV hbw
  go_wp2_with fail
  (try simp only [Exit.inBlock,Exit.then])
  refine bodyPost_ret (zy rfl _ _ (gx+3) 30 _ (0,0) _ rfl zG.out Tryz.underlying30 rfl zH) rfl ?_
  exact⟨uH zQ.out,(HB.out.trans (kg.out.mono HB.out.size)).trans (xK.out.below (by have:=HB.out.size;have:=kg.out.size;omega) (λk e=>by have:=yS.out;omega))⟩
 have hpI:(qN:Int)<(ln:Int):=by omega
 have hpN:¬(ln:Int)<=(qN:Int):=by omega
 go_upto_region 3 with fail
 go_quiet (fail)
 go_upto_region 5 with fail
 generalize hX9:World.drewN X0 _=X9
 have pV:Below X0.heap.size X0 X9:=by rw [<-hX9];exact yh (Below.refl _ _) _
 clear hX9 c0 c1 c2 c3 c4 c5 c6 c7 e0 t0 b0
 have zh9:=qh (HOL.out.later pV)
 have zjz:Hid (∀k u,k<6-> [Value.int .i64 qN, .int .i64 r0, .int .i64 r1, .int .i64 r2, .int .i64 r3, .slice ba bl bc][k]? =some u->∀x,Below X9.heap.size X9 x->x.cell? ⟨tb,i*6+k,none⟩=some u):=λk u hk hu x hx=>zi (zD pV hx) _ _ (HTC.out k u hk hu).1
 clear HTC
 have kg:=qh pV
 clear pV
 obtain⟨fb,fo,aa,ac,xba,xbc,hka, -,⟨x0,x1,x2⟩,⟨x3,x4,x5,x6⟩,⟨x7,x8,x9,x10⟩,gu,xa,xb⟩:=wZ.part HEL.out qN (by rw [<-zuL.out];exact hp)
 subst hka
 obtain⟨x,hx⟩:∃x,x=l.getD qN default:=⟨_,rfl⟩
 rw [<-hx] at x0 x1 x2 x3 x4 x5 x6 x7 x8 x9 x10 gu xa xb
 have hins:=z0S.out qN (by rw [<-zuL.out];exact hp)
 rw [<-hx, <-zuL.out] at hins
 obtain⟨zAn,hrg0,zbF,z6s,z0U⟩:=hins
 rw [<-HME.out] at z0U
 have hr5:=HRR.out
 rw [if_pos hpI,show((qN:Int)).toNat=qN from rfl, <-hx] at hr5
 have HR5:=qh hr5
 clear hr5 HRR z0S hx
 obtain⟨op,hop⟩:∃v,v=x.op:=⟨_,rfl⟩
 obtain⟨wJ,zuM⟩:∃v:Nat,(v:Int)=x.reg:=⟨x.reg.toNat,by omega⟩
 obtain⟨vS,zuN⟩:∃v:Nat,(v:Int)=x.var:=⟨x.var.toNat,by omega⟩
 obtain⟨dst,hdst⟩:∃v,v=x.dest:=⟨_,rfl⟩
 obtain⟨ak,hak⟩:∃v,v=x.a.kind:=⟨_,rfl⟩
 obtain⟨an,han⟩:∃v,v=x.a.n:=⟨_,rfl⟩
 obtain⟨ao,hao⟩:∃v,v=x.a.op:=⟨_,rfl⟩
 obtain⟨al,hal⟩:∃v,v=x.a.kids.length:=⟨_,rfl⟩
 obtain⟨bk,hbk⟩:∃v,v=x.b.kind:=⟨_,rfl⟩
 obtain⟨bn,hbn⟩:∃v,v=x.b.n:=⟨_,rfl⟩
 obtain⟨bo,hbo⟩:∃v,v=x.b.op:=⟨_,rfl⟩
 obtain⟨bkl,zuO⟩:∃v,v=x.b.kids.length:=⟨_,rfl⟩
 obtain⟨A,hA⟩:∃v,v=yx [r0,r1,r2,r3] dom d x.a:=⟨_,rfl⟩
 obtain⟨B,hBB⟩:∃v,v=yx [r0,r1,r2,r3] dom d x.b:=⟨_,rfl⟩
 have z0W:Hid (∀X,Below W.heap.size W X->Calls Tryz.prog 90 #[.agg #[.int .i64 ak, .int .i64 an, .int .u8 ao, .slice aa al ac], .agg #[.int .i64 r0, .int .i64 r1, .int .i64 r2, .int .i64 r3], .int .i64 dom] X λe w'=>e= .returned (.int .i64 A)/\Below X.heap.size X w'):=λX hX=>by
  rw [hak,han,hao,hal,hA];exact zkN r0 r1 r2 r3 dom (by omega) (by omega) d X x.a _ (xa.below hX)
 have z0X:Hid (∀X,Below W.heap.size W X->Calls Tryz.prog 90 #[.agg #[.int .i64 bk, .int .i64 bn, .int .u8 bo, .slice xba bkl xbc], .agg #[.int .i64 r0, .int .i64 r1, .int .i64 r2, .int .i64 r3], .int .i64 dom] X λe w'=>e= .returned (.int .i64 B)/\Below X.heap.size X w'):=λX hX=>by
  rw [hbk,hbn,hbo,zuO,hBB];exact zkN r0 r1 r2 r3 dom (by omega) (by omega) d X x.b _ (xb.below hX)
 rw [<-hop] at x0
 rw [<-zuM] at x1 zbF
 have zbF:wJ<4:=by omega
 rw [<-zuN] at x2 z0U
 rw [<-hak] at x3
 rw [<-han] at x4
 rw [<-hao] at x5
 rw [<-hal] at x6
 rw [<-hbk] at x7
 rw [<-hbn] at x8
 rw [<-hbo] at x9
 rw [<-zuO] at x10
 rw [<-hdst] at gu
 have xP:=qh hop
 have HRG:=qh zuM
 have HVR:=qh zuN
 have HDS:=qh hdst
 have HA:=qh hA
 have yD:=qh hBB
 clear hop zuM zuN hdst hak han hao hal hbk hbn hbo zuO hA hBB xa xb hrg0 z6s
 have C5:Hid (∀y,Below X9.heap.size X9 y->y.cell? ⟨gx,2,none⟩=some (.slice (some ⟨eb,eo,none⟩) cn cc)/\y.cell? ⟨eb,eo+i,none⟩=some (.slice (some ⟨fb,fo,none⟩) ln kc)/\y.cell? ⟨tb,i*6,none⟩=some (.int .i64 qN)/\
   y.cell? ⟨fb,fo+qN*12,none⟩=some (.int .i64 op)/\y.cell? ⟨fb,fo+qN*12+1,none⟩=some (.int .i64 wJ)/\y.cell? ⟨fb,fo+qN*12+2,none⟩=some (.int .i64 vS)/\
   y.cell? ⟨fb,fo+qN*12+3,none⟩=some (.int .i64 ak)/\y.cell? ⟨fb,fo+qN*12+4,none⟩=some (.int .i64 an)/\y.cell? ⟨fb,fo+qN*12+5,none⟩=some (.int .u8 ao)/\y.cell? ⟨fb,fo+qN*12+6,none⟩=some (.slice aa al ac)/\
   y.cell? ⟨fb,fo+qN*12+7,none⟩=some (.int .i64 bk)/\y.cell? ⟨fb,fo+qN*12+8,none⟩=some (.int .i64 bn)/\y.cell? ⟨fb,fo+qN*12+9,none⟩=some (.int .u8 bo)/\y.cell? ⟨fb,fo+qN*12+10,none⟩=some (.slice xba bkl xbc)/\y.cell? ⟨fb,fo+qN*12+11,none⟩=some (.int .i64 dst)):=λy hy=>
  have hw:=zD zh9.out.below hy
  have k2:=λp v h=>zi hw p v h
  ⟨(qm.out y hw).2.2.1,HEC.out y hw,zjz.out 0 _ (by omega) rfl y hy,k2 _ _ x0,k2 _ _ x1,k2 _ _ x2,k2 _ _ x3,k2 _ _ x4,k2 _ _ x5,k2 _ _ x6,k2 _ _ x7,k2 _ _ x8,k2 _ _ x9,k2 _ _ x10,k2 _ _ gu⟩
 clear x0 x1 x2 x3 x4 x5 x6 x7 x8 x9 x10 gu
 have h0:=kV.start 3 1 64 X9
 have hT0:=qh h0.drew
 clear h0
 refine qL (S:=λx=>Below X9.heap.size X9 x) (Below.refl _ _).drew (λ_=> ?_)
 obtain⟨wd,hwd⟩:∃wd,wd=X9.drew:=⟨_,rfl⟩
 rw [<-hwd] at hT0 ⊢
 clear hwd
 refine zC 0 zO (hT0.out.below) ?_
 refine zC 1 C5.out (hT0.out.below) ?_
 refine zC 2 zO (hT0.out.below) ?_
 refine zC 3 zO (hT0.out.below) ?_
 refine zC 4 C5.out (hT0.out.below) ?_
 refine zC 5 zO (hT0.out.below) ?_
 refine zC 6 zO (hT0.out.below) ?_
 refine zC 7 zO (hT0.out.below) ?_
 refine zC 8 C5.out (hT0.out.below) ?_
 refine zC 9 zO (hT0.out.below) ?_
 refine zC 10 C5.out (hT0.out.below) ?_
 refine yw 11 rfl (λK hK=> ?_)
 go_simp
 have vO:=hT0.out.alloc [.int .i64 0, .int .i64 0, .int .i64 0, .int .i64 0, .int .i64 0, .int .u8 0, .slice none 0 0, .int .i64 0, .int .i64 0, .int .u8 0, .slice none 0 0, .int .i64 0]
 refine hK.out _ _ vO.below (λ_=> ?_)
 obtain⟨gi,hgi⟩:∃n,n=wd.heap.size:=⟨_,rfl⟩
 rw [<-hgi] at vO ⊢
 clear hgi
 generalize World.alloc wd _=Xq2 at vO ⊢
 replace vO:=qh vO
 clear hK K
 refine yw 12 rfl (λK hK=> ?_)
 have hb1:=vO.out.zxX (g:=gi) (cs:= [.int .i64 0, .int .i64 0, .int .i64 0, .int .i64 0, .int .i64 0, .int .u8 0, .slice none 0 0, .int .i64 0, .int .i64 0, .int .u8 0, .slice none 0 0, .int .i64 0]) (by simp) [.int .i64 op, .int .i64 wJ, .int .i64 vS, .int .i64 ak, .int .i64 an, .int .u8 ao, .slice aa al ac, .int .i64 bk, .int .i64 bn, .int .u8 bo, .slice xba bkl xbc, .int .i64 dst] rfl
 obtain⟨hn, -, -⟩:=vO.out.news (gi, [.int .i64 0, .int .i64 0, .int .i64 0, .int .i64 0, .int .i64 0, .int .u8 0, .slice none 0 0, .int .i64 0, .int .i64 0, .int .u8 0, .slice none 0 0, .int .i64 0]) (by simp)
 have d0:=ze hn 0
 have f0:=zA hn 0
 have d1:=ze hn 1
 have f1:=zA hn 1
 have d2:=ze hn 2
 have f2:=zA hn 2
 have d3:=ze hn 3
 have f3:=zA hn 3
 have d4:=ze hn 4
 have f4:=zA hn 4
 have d5:=ze hn 5
 have f5:=zA hn 5
 have d6:=ze hn 6
 have f6:=zA hn 6
 have d7:=ze hn 7
 have f7:=zA hn 7
 have d8:=ze hn 8
 have f8:=zA hn 8
 have d9:=ze hn 9
 have f9:=zA hn 9
 have d10:=ze hn 10
 have f10:=zA hn 10
 have d11:=ze hn 11
 have f11:=zA hn 11
 clear hn
 have qM:=qh hb1
 clear hb1
 go_simp
 clear d0 f0 d1 f1 d2 f2 d3 f3 d4 f4 d5 f5 d6 f6 d7 f7 d8 f8 d9 f9 d10 f10 d11 f11
 refine hK.out _ (yA Xq2 gi 0 [.int .i64 op, .int .i64 wJ, .int .i64 vS, .int .i64 ak, .int .i64 an, .int .u8 ao, .slice aa al ac, .int .i64 bk, .int .i64 bn, .int .u8 bo, .slice xba bkl xbc, .int .i64 dst]) qM.out.1 (λ_=> ?_)
 generalize yA Xq2 gi 0 _=X1 at qM ⊢
 clear hK K
 refine xE ?_
 have hgi:=qM.out.2.2
 have yY:vL W X1 gb gi tb n xc mb mn yc bad ts mem bs [.int .i64 op, .int .i64 wJ, .int .i64 vS, .int .i64 ak, .int .i64 an, .int .u8 ao, .slice aa al ac, .int .i64 bk, .int .i64 bn, .int .u8 bo, .slice xba bkl xbc, .int .i64 dst] :=
  ⟨zh9.out.later qM.out.1,qM.out.2.1,λe=>by have:=zw zh9.out.box;omega,λe=>by have:=(zh9.out.own.row.lt tb rfl).2;omega,λe=>by have:=(zh9.out.own.mem.lt mb rfl).2;omega⟩
 have zeJ:=qh yY
 clear hgi yY C5
 have zuP:Hid (∀y,Below X1.heap.size X1 y->y.cell? ⟨tb,i*6+1,none⟩=some (.int .i64 r0)/\y.cell? ⟨tb,i*6+2,none⟩=some (.int .i64 r1)/\y.cell? ⟨tb,i*6+3,none⟩=some (.int .i64 r2)/\y.cell? ⟨tb,i*6+4,none⟩=some (.int .i64 r3)):=λy hy=>
  have h:=zD qM.out.1 hy
  ⟨zjz.out 1 _ (by omega) rfl y h,zjz.out 2 _ (by omega) rfl y h,zjz.out 3 _ (by omega) rfl y h,zjz.out 4 _ (by omega) rfl y h⟩
 have HB1:=qh zeJ.out.own.below
 have z0Y:¬gi=gx+3:=λe=>by
  have h1:=zw H4.out
  have h2:=qM.out.2.2
  have h3:=zh9.out.below.size
  omega
 have HGI:=qh z0Y
 clear z0Y
 go_upto_region 6 with fail
 obtain⟨t1,t2,t3,t4⟩:=zuP.out X1 (Below.refl _ _)
 have z3:=ze zeJ.out.instr 3
 have z4:=ze zeJ.out.instr 4
 have z5:=ze zeJ.out.instr 5
 have z6:=ze zeJ.out.instr 6
 have c1:=(qm.out X1 HB1.out).2.1
 refine wp_region_still_tail 8 (by kernel_rfl) (by kernel_rfl) ?_
 simp only [List.take_succ_cons,List.take_zero,List.drop_succ_cons,List.drop_zero]
 repeat still_step
 try refine wpStill_nil ?_
 change wpList _ _ _ _ _ X1.drew
 obtain⟨wd,hwd⟩:∃wd,wd=X1.drew:=⟨_,rfl⟩
 rw [<-hwd]
 have HBD:Hid (Below X1.heap.size X1 wd):=by rw [Hid,hwd];exact(Below.refl _ _).drew
 clear hwd t1 t2 t3 t4 z3 z4 z5 z6 c1
 go_upto_region 7 with(go_at_call 90;refine(z0W.out wd (zD HB1.out HBD.out)).mono ?_;rintro e X2 ⟨rfl,hb⟩;have HB2:=qh (zD HBD.out hb);clear hb)
 have zdl:=qh (zeJ.out.below HB2.out)
 clear HBD
 obtain⟨t1,t2,t3,t4⟩:=zuP.out X2 HB2.out
 have z7:=ze zdl.out.instr 7
 have z8:=ze zdl.out.instr 8
 have z9:=ze zdl.out.instr 9
 have z10:=ze zdl.out.instr 10
 have c1:=(qm.out X2 zdl.out.own.below).2.1
 refine wp_region_still_tail 8 (by kernel_rfl) (by kernel_rfl) ?_
 simp only [List.take_succ_cons,List.take_zero,List.drop_succ_cons,List.drop_zero]
 repeat still_step
 try refine wpStill_nil ?_
 change wpList _ _ _ _ _ X2.drew
 obtain⟨wd',hwd⟩:∃wd,wd=X2.drew:=⟨_,rfl⟩
 rw [<-hwd]
 have HBD:Hid (Below X2.heap.size X2 wd'):=by rw [Hid,hwd];exact(Below.refl _ _).drew
 clear hwd t1 t2 t3 t4 z7 z8 z9 z10 c1
 go_upto_region 8 with(go_at_call 90;refine(z0X.out wd' (zD zdl.out.own.below HBD.out)).mono ?_;rintro e X3 ⟨rfl,hb⟩;have HB3:=qh (zD HBD.out hb);clear hb)
 have bg:=qh (zdl.out.below HB3.out)
 clear HBD
 have hin:i<ts.length:=by rw [<-HN.out];exact hi
 have hcl:(ts.getD i default).cells (bs.getD i (.slice none 0 0))= [.int .i64 qN, .int .i64 r0, .int .i64 r1, .int .i64 r2, .int .i64 r3, .slice ba bl bc] :=by rw [<-HT.out, <-HBV.out];rfl
 have hpc:=bg.out.zpJ hin 0 (.int .i64 qN) (by omega) (by rw [hcl];rfl)
 rw [Nat.add_zero] at hpc
 obtain⟨t0,f0⟩:=hpc
 have hth:=bg.out.thread hin (k:=0) (by omega) (t:=⟨(qN:Int)+1, [r0,r1,r2,r3],bf⟩) (b:= .slice ba bl bc) (u:= .int .i64 ((qN:Int)+1)) (by rw [hcl];rfl) rfl (by have:=(bg.out.buf hin).1;rw [<-HT.out, <-HBV.out] at this;exact this) (by have:=(bg.out.buf hin).2;rw [<-HBV.out] at this;exact this) (by have:=bg.out.dist hin;rw [<-HBV.out] at this;exact this)
 rw [Nat.add_zero] at hth
 have yT:=qh hth
 have HIN:=qh hin
 clear hin hcl hth
 go_upto_region 9 with fail
 clear t0 f0
 generalize World.setCell X3 _ _=X4 at yT ⊢
 clear zeJ zdl bg zuP zjz zh9 HB1 HB2 HB3 qM kg HOL z0W z0X HSW jN HEL HEC HBU
 obtain⟨ts1,zj0⟩:∃ts1,ts1=ts.set i ⟨(qN:Int)+1, [r0,r1,r2,r3],bf⟩:=⟨_,rfl⟩
 obtain⟨bs1,zuQ⟩:∃bs1,bs1=bs.set i (.slice ba bl bc):=⟨_,rfl⟩
 have hlb:bs.length=ts.length:=by have:=yT.out.own.own.len;rw [List.length_set,List.length_set] at this;exact this
 rw [<-zj0, <-zuQ] at yT
 have bV:Hid (ts1.getD i default=⟨(qN:Int)+1, [r0,r1,r2,r3],bf⟩):=by rw [Hid,zj0,qV HIN.out,if_pos rfl]
 have bW:Hid (bs1.getD i (.slice none 0 0)= .slice ba bl bc):=by rw [Hid,zuQ,qV (by rw [hlb];exact HIN.out),if_pos rfl]
 have HL1:Hid (i<ts1.length):=by rw [Hid,zj0,List.length_set];exact HIN.out
 have HSS:Hid (∀t',ts1.set i t'=ts.set i t'):=λt'=>by rw [zj0,List.set_set]
 have HT1:Hid (ts1=ts.set i ⟨(qN:Int)+1, [r0,r1,r2,r3],bf⟩):=zj0
 clear zj0 zuQ hlb HT
 have HTC:Hid (∀k u,k<6-> [Value.int .i64 ((qN:Int)+1), .int .i64 r0, .int .i64 r1, .int .i64 r2, .int .i64 r3, .slice ba bl bc][k]? =some u->X4.cell? ⟨tb,i*6+k,none⟩=some u/\X4.frozen? ⟨tb,i*6+k,none⟩=false):=by
  have h:=yT.out.zpJ HL1.out
  rw [bV.out,bW.out] at h
  exact h
 have jL:Hid (R=Option.map (λr=>(⟨ts.set i r.1,r.2.1,r.2.2⟩:zl)) (stepT ⟨vars,dom,cs⟩ ⟨mod,bnd⟩ ⟨ts,mem,bad⟩ ⟨qN, [r0,r1,r2,r3],bf⟩ x d)):=by rw [Hid,HR5.out,HC.out,HM.out,HS.out]
 clear HR5 HC HM HS
 have zdx:=qh (yT.out.buf HL1.out)
 have yG:Hid (∀(X:World) (b':Bool),X.heap[gb]? =some (.cells #[.slice (some ⟨tb,0,none⟩) n xc, .slice (some ⟨mb,0,none⟩) mn yc, .bool b'] 30 (0,0))->Below W.heap.size W X->
   (X.cell? ⟨gb,0,none⟩=some (.slice (some ⟨tb,0,none⟩) n xc)/\X.cell? ⟨gb,1,none⟩=some (.slice (some ⟨mb,0,none⟩) mn yc)/\X.cell? ⟨gb,2,none⟩=some (.bool b'))/\
   (X.cell? ⟨gx+3,0,none⟩=some (.slice none 0 0)/\X.cell? ⟨gx+3,1,none⟩=some (.slice none 0 0)/\X.cell? ⟨gx+3,2,none⟩=some (.bool false))/\
   (X.frozen? ⟨gx+3,0,none⟩=false/\X.frozen? ⟨gx+3,1,none⟩=false/\X.frozen? ⟨gx+3,2,none⟩=false)/\
   (((X.setCell ⟨gx+3,0,none⟩ (.slice (some ⟨tb,0,none⟩) n xc)).setCell ⟨gx+3,1,none⟩ (.slice (some ⟨mb,0,none⟩) mn yc)).setCell ⟨gx+3,2,none⟩ (.bool b')).heap[gx+3]? =some (.cells #[.slice (some ⟨tb,0,none⟩) n xc, .slice (some ⟨mb,0,none⟩) mn yc, .bool b'] 30 (0,0))/\
   Since (λk=>k=gx+3) X (((X.setCell ⟨gx+3,0,none⟩ (.slice (some ⟨tb,0,none⟩) n xc)).setCell ⟨gx+3,1,none⟩ (.slice (some ⟨mb,0,none⟩) mn yc)).setCell ⟨gx+3,2,none⟩ (.bool b'))/\
   Below w.heap.size w (((X.setCell ⟨gx+3,0,none⟩ (.slice (some ⟨tb,0,none⟩) n xc)).setCell ⟨gx+3,1,none⟩ (.slice (some ⟨mb,0,none⟩) mn yc)).setCell ⟨gx+3,2,none⟩ (.bool b'))):=λX b' hX hW=>by
  have hres:=(hW.block _ (zw H4.out)).trans H4.out
  have hset:=zu (zu (zu hres 0 (.slice (some ⟨tb,0,none⟩) n xc)) 1 (.slice (some ⟨mb,0,none⟩) mn yc)) 2 (.bool b')
  simp only [List.setIfInBounds_toArray,List.set_cons_zero,List.set_cons_succ] at hset
  have hS:Since (λk=>k=gx+3) X (((X.setCell ⟨gx+3,0,none⟩ (.slice (some ⟨tb,0,none⟩) n xc)).setCell ⟨gx+3,1,none⟩ (.slice (some ⟨mb,0,none⟩) mn yc)).setCell ⟨gx+3,2,none⟩ (.bool b')):=Since.setCell (F:=λk=>k=gx+3) (p:=⟨gx+3,2,none⟩) (Since.setCell (F:=λk=>k=gx+3) (p:=⟨gx+3,1,none⟩) (Since.setCell (F:=λk=>k=gx+3) (p:=⟨gx+3,0,none⟩) (Since.refl _ X) (.inl rfl) _) (.inl rfl) _) (.inl rfl) _
  exact⟨⟨ze hX 0,ze hX 1,ze hX 2⟩,⟨ze hres 0,ze hres 1,ze hres 2⟩,⟨zA hres 0,zA hres 1,zA hres 2⟩,hset,hS,(HB.out.trans (hW.mono HB.out.size)).trans (hS.below (by have:=HB.out.size;have:=hW.size;omega) (λk e=>by have:=yS.out;omega))⟩
 have uI:Hid (∀(X X':World) (b':Bool) (ts':List zB) (mem':List Int) (bs' wU:List Value),vL W X gb gi tb n xc mb mn yc b' ts' mem' bs' wU->Since (λk=>k=gx+3) X X'->OwnAt w.heap.size X' (.slice (some ⟨tb,0,none⟩) n xc) (.slice (some ⟨mb,0,none⟩) mn yc) ts' mem' bs'):=λX X' b' ts' mem' bs' wU h hS=>by
  have hlt:=zw H4.out
  exact OwnAt.lower (B:=W.heap.size) (h.own.own.since hS (λk hk e=>by have:=(h.own.own.row.lt k hk).1;omega) (λk hk e=>by have:=(h.own.own.mem.lt k hk).1;omega) (λj hj k hk e=>by have:=((h.own.own.buf j hj).lt k hk).1;omega)) HB.out.size
 go_cut [15] (λs15 w'=>∃em:Bool,s15= .bool em/\w'=X4/\Hid (em=decide (bl=0)))
 case first=>
  have t5:=(HTC.out 5 _ (by omega) rfl).1
  by_cases hb0:bl=0
  ·have hb1:((bl:Int)==0)=true:=by simp [hb0]
   go_wp2_with fail
   go_meet
   case rel=>exact⟨true,by first|rfl|simp,rfl,by simp [Hid,hb0]⟩
  have hb1:((bl:Int)==0)=false:=by simp [hb0]
  go_wp2_with fail
  go_meet
  case rel=>exact⟨false,by first|rfl|simp,rfl,by simp [Hid,hb0]⟩
 case rest=>
 obtain⟨em,rfl,hww,HEM⟩:=hcut
 obtain rfl:X4=wc:=hww.symm
 have k0:=ze yT.out.instr 0
 go_upto_region 11 with fail
 clear k0
 by_cases o1:op=1
 ·have vZ:Hid ((1:Int)=x.op):=by rw [Hid, <-xP.out,o1]
  clear xP
  have xP:=vZ
  clear vZ
  have p1:((op:Int)==1)=true:=by simp [o1]
  clear o1
  as_aux_lemma=>
   go_upto_region 12 with fail
   obtain⟨lk,hlk⟩:∃lk,lk=gD bf vS:=⟨_,rfl⟩
   have zuR:=λY hY=>zuS Y (.slice ba bl bc) bf hY (by rw [<-vg.out];omega) vS
   rw [<-hlk] at zuR
   have z6t:=qh zuR
   have HLK:=qh hlk
   clear zuR hlk
   have hbu:=zdx.out.1
   rw [bV.out,bW.out] at hbu
   have zpK:Hid (∀Y,Below X4.heap.size X4 Y->zV Y (.slice ba bl bc) bf):=λY hY=>zV.below (wz hbu) hY
   clear hbu
   have CZ:Hid (∀y,Below X4.heap.size X4 y->y.cell? ⟨tb,i*6+5,none⟩=some (.slice ba bl bc)/\y.cell? ⟨gi,2,none⟩=some (.int .i64 vS)):=λy hy=>⟨zi hy _ _ (HTC.out 5 _ (by omega) rfl).1,zi hy _ _ (ze yT.out.instr 2)⟩
   refine qL (S:=λx=>Below X4.heap.size X4 x) (Below.refl _ _).drew (λhH=> ?_)
   refine zo 0 CZ.out ?_
   refine zo 1 CZ.out ?_
   refine zo 2 CZ.out ?_
   refine zo 3 CZ.out ?_
   refine zo 4 CZ.out ?_
   refine zo 5 CZ.out ?_
   refine yw 6 rfl (λK hK=> ?_)
   go_simp
   refine(z6t.out X4.drew (zpK.out X4.drew hH)).mono ?_
   rintro e zeK ⟨rfl,hb⟩
   have zpL:Below X4.heap.size X4 zeK:=zD hH hb
   refine hK.out _ _ zpL (λ_=> ?_)
   clear hK K hb hH
   refine zo 7 CZ.out ?_
   refine zo 8 CZ.out ?_
   refine zo 9 CZ.out ?_
   refine zo 10 CZ.out ?_
   refine zo 11 CZ.out ?_
   refine xE ?_
   have pY:=qh (yT.out.below zpL)
   clear zpL
   skip
   cases lk with
   |some lv=>
    simp only [Option.getD_some,Option.isSome_some]
    go_upto_region 15 with fail
    have z1:=ze pY.out.instr 1
    refine wp_region_still_tail 7 (by kernel_rfl) (by kernel_rfl) ?_
    simp only [List.take_succ_cons,List.take_zero,List.drop_succ_cons,List.drop_zero]
    repeat still_step
    try refine wpStill_nil ?_
    change wpList _ _ _ _ _ zeK.drew
    obtain⟨X5,hX5⟩:∃wd,wd=zeK.drew:=⟨_,rfl⟩
    rw [<-hX5]
    have z6u:Hid (Below zeK.heap.size zeK X5):=by rw [Hid,hX5];exact(Below.refl _ _).drew
    clear hX5
    have zwQ:=qh (pY.out.below z6u.out)
    clear z1
    obtain⟨u0,v0⟩:=zwQ.out.bU HL1.out bV.out bW.out (1+wJ) (.int .i64 ([r0,r1,r2,r3].getD wJ 0)) (by omega) (zeI zbF)
    rw [<-Nat.add_assoc] at u0 v0
    have hw6:=zwQ.out.set HL1.out (k:=1+wJ) (by omega) (t':=⟨(qN:Int)+1,([r0,r1,r2,r3].set wJ lv),bf⟩) (u:=(.int .i64 lv)) bV.out bW.out (zce zbF) (by simp) rfl
    rw [<-Nat.add_assoc] at hw6
    have HW6:=qh hw6
    clear hw6
    go_upto_region 48 with fail
    clear u0 v0
    generalize World.setCell X5 _ _=X6 at HW6 ⊢
    obtain⟨hr6,ht6,hb6,hl6⟩:=HW6.out
    have z2L:=qh hr6
    have zAo:=qh ht6
    have zAp:=qh hb6
    have HL6:=qh hl6
    clear hr6 ht6 hb6 hl6 HW6
    have hres:R=some ⟨ts.set i ⟨(qN:Int)+1, [r0,r1,r2,r3].set wJ lv,bf⟩,mem,bad⟩:=by
     rw [jL.out,bZ xP.out.symm]
     simp only [Option.map_some]
     rw [<-HVR.out, <-HLK.out, <-HRG.out]
     rfl
    have zQ:=qh hres
    clear hres
    have yY:=z2L.out
    rw [HSS.out] at yY
    have yQ:=qh yY
    clear yY
    obtain⟨⟨a0,a1,a2⟩,⟨q0,q1,q2⟩,⟨f0,f1,f2⟩,hset,hsn,hbe⟩:=yG.out X6 bad yQ.out.own.box yQ.out.own.below
    have zG:=qh hset
    have xK:=qh hsn
    have yD:=qh hbe
    clear hset hsn hbe
    go_wp2_with fail
    (try simp only [Exit.inBlock,Exit.then])
    refine bodyPost_ret (zy rfl _ _ (gx+3) 30 _ (0,0) _ rfl zG.out Tryz.underlying30 rfl zH) rfl ?_
    exact⟨qJ zQ.out (uI.out _ _ _ _ _ _ _ yQ.out xK.out),yD.out⟩
   |none=>
   simp only [Option.getD_none,Option.isSome_none]
   go_upto_region 14 with fail
   obtain⟨nv,hnv⟩:∃nv,nv=mem.getD vS 0:=⟨_,rfl⟩
   obtain⟨sb,so,hsa, -,hsc⟩:=xI.part ze6.out vS (by rw [<-vR.out];omega)
   subst hsa
   rw [<-hnv] at hsc
   have HNV:=qh hnv
   clear hnv
   have s1:=zi pY.out.own.below _ _ hsc
   have c6:=(qm.out _ pY.out.own.below).2.2.2.2.2.2.1
   have uW:(vS:Int)<(mn:Int):=by omega
   have z2:=ze pY.out.instr 2
   go_upto_region 15 with fail
   clear z2 s1 c6 hsc
   go_upto_region 15 with fail
   have z1:=ze pY.out.instr 1
   refine wp_region_still_tail 7 (by kernel_rfl) (by kernel_rfl) ?_
   simp only [List.take_succ_cons,List.take_zero,List.drop_succ_cons,List.drop_zero]
   repeat still_step
   try refine wpStill_nil ?_
   change wpList _ _ _ _ _ zeK.drew
   obtain⟨X7,hX7⟩:∃wd,wd=zeK.drew:=⟨_,rfl⟩
   rw [<-hX7]
   have z6v:Hid (Below zeK.heap.size zeK X7):=by rw [Hid,hX7];exact(Below.refl _ _).drew
   clear hX7
   have zwR:=qh (pY.out.below z6v.out)
   clear z1
   obtain⟨u0,v0⟩:=zwR.out.bU HL1.out bV.out bW.out (1+wJ) (.int .i64 ([r0,r1,r2,r3].getD wJ 0)) (by omega) (zeI zbF)
   rw [<-Nat.add_assoc] at u0 v0
   have hw8:=zwR.out.set HL1.out (k:=1+wJ) (by omega) (t':=⟨(qN:Int)+1,([r0,r1,r2,r3].set wJ nv),bf⟩) (u:=(.int .i64 nv)) bV.out bW.out (zce zbF) (by simp) rfl
   rw [<-Nat.add_assoc] at hw8
   have HW8:=qh hw8
   clear hw8
   go_upto_region 48 with fail
   clear u0 v0
   generalize World.setCell X7 _ _=X8 at HW8 ⊢
   obtain⟨hr8,ht8,hb8,hl8⟩:=HW8.out
   have z2M:=qh hr8
   have zAq:=qh ht8
   have zAr:=qh hb8
   have wV:=qh hl8
   clear hr8 ht8 hb8 hl8 HW8
   have hres:R=some ⟨ts.set i ⟨(qN:Int)+1, [r0,r1,r2,r3].set wJ nv,bf⟩,mem,bad⟩:=by
    rw [jL.out,bZ xP.out.symm]
    simp only [Option.map_some]
    rw [<-HVR.out, <-HLK.out, <-HRG.out]
    rw [show((vS:Int)).toNat=vS from rfl, <-HNV.out]
    rfl
   have zQ:=qh hres
   clear hres
   have yY:=z2M.out
   rw [HSS.out] at yY
   have yQ:=qh yY
   clear yY
   obtain⟨⟨a0,a1,a2⟩,⟨q0,q1,q2⟩,⟨f0,f1,f2⟩,hset,hsn,hbe⟩:=yG.out X8 bad yQ.out.own.box yQ.out.own.below
   have zG:=qh hset
   have xK:=qh hsn
   have yD:=qh hbe
   clear hset hsn hbe
   go_wp2_with fail
   (try simp only [Exit.inBlock,Exit.then])
   refine bodyPost_ret (zy rfl _ _ (gx+3) 30 _ (0,0) _ rfl zG.out Tryz.underlying30 rfl zH) rfl ?_
   exact⟨qJ zQ.out (uI.out _ _ _ _ _ _ _ yQ.out xK.out),yD.out⟩
 have p1:((op:Int)==1)=false:=by simp [o1]
 by_cases o2:op=2
 ·have vZ:Hid ((2:Int)=x.op):=by rw [Hid, <-xP.out,o2]
  clear xP
  have xP:=vZ
  clear vZ
  have p2:((op:Int)==2)=true:=by simp [o2]
  clear o2
  as_aux_lemma=>
   go_upto_region 17 with fail
   have c3:=(qm.out _ yT.out.own.below).2.2.2.1
   by_cases hm0:mod=0
   ·have hm1:((mod:Int)==0)=true:=by simp [hm0]
    have HM0:=qh hm0
    clear hm0
    go_upto_region 18 with fail
    clear c3 hm1
    go_upto_region 18 with fail
    have z2:=ze yT.out.instr 2
    have hbx:=yT.out.own.box
    have g1:=ze hbx 1
    clear hbx
    have hml:vS<mem.length:=by rw [<-vR.out];omega
    obtain⟨m0,m1⟩:=yT.out.zkI hml
    have uW:(vS:Int)<(mn:Int):=by omega
    have zwS:=qh (yT.out.mem vS A)
    clear hml
    go_upto_region 19 with fail
    clear z2 g1 m0 m1 uW
    generalize World.setCell X4 _ _=X9 at zwS ⊢
    have hres:R=some ⟨ts1,(mem.set vS A),bad⟩:=by
     rw [jL.out,bE xP.out.symm HM0.out]
     simp only [Option.map_some]
     rw [<-HVR.out, <-HA.out,HT1.out]
     rfl
    have zQ:=qh hres
    clear hres
    have yY:=zwS.out
    have yQ:=qh yY
    clear yY
    obtain⟨⟨a0,a1,a2⟩,⟨q0,q1,q2⟩,⟨f0,f1,f2⟩,hset,hsn,hbe⟩:=yG.out X9 bad yQ.out.own.box yQ.out.own.below
    have zG:=qh hset
    have xK:=qh hsn
    have yD:=qh hbe
    clear hset hsn hbe
    go_wp2_with fail
    (try simp only [Exit.inBlock,Exit.then])
    refine bodyPost_ret (zy rfl _ _ (gx+3) 30 _ (0,0) _ rfl zG.out Tryz.underlying30 rfl zH) rfl ?_
    exact⟨qJ zQ.out (uI.out _ _ _ _ _ _ _ yQ.out xK.out),yD.out⟩
   have hm1:((mod:Int)==0)=false:=by simp [hm0]
   have HM0:=qh hm0
   clear hm0
   go_upto_region 20 with fail
   clear c3 hm1
   obtain⟨ok,hok⟩:∃ok,ok=qC bf ⟨mod,bnd⟩ ⟨vS,A⟩:=⟨_,rfl⟩
   have hput:=λY hY=>znF Y (.slice ba bl bc) bf hY (by rw [<-vg.out];omega) ⟨mod,bnd⟩ ⟨vS,A⟩
   rw [<-hok] at hput
   have vG:=qh hput
   have jy:=qh hok
   clear hput hok
   have hbu:=zdx.out.1
   rw [bV.out,bW.out] at hbu
   have zpK:Hid (∀Y,Below X4.heap.size X4 Y->zV Y (.slice ba bl bc) bf):=λY hY=>zV.below (wz hbu) hY
   clear hbu
   have CZ:Hid (∀y,Below X4.heap.size X4 y->y.cell? ⟨tb,i*6+5,none⟩=some (.slice ba bl bc)/\y.cell? ⟨gi,2,none⟩=some (.int .i64 vS)/\y.cell? ⟨gx+1,0,none⟩=some (.int .i64 mod)/\y.cell? ⟨gx+1,1,none⟩=some (.int .i64 bnd)):=λy hy=>⟨zi hy _ _ (HTC.out 5 _ (by omega) rfl).1,zi hy _ _ (ze yT.out.instr 2),(qm.out y (zD yT.out.own.below hy)).2.2.2.1,(qm.out y (zD yT.out.own.below hy)).2.2.2.2.1⟩
   refine qL (S:=λx=>Below X4.heap.size X4 x) (Below.refl _ _).drew (λhH=> ?_)
   refine zo 0 CZ.out ?_
   refine zo 1 CZ.out ?_
   refine zo 2 CZ.out ?_
   refine zo 3 CZ.out ?_
   refine zo 4 CZ.out ?_
   refine zo 5 CZ.out ?_
   refine zo 6 CZ.out ?_
   refine zo 7 CZ.out ?_
   refine zo 8 CZ.out ?_
   refine yw 9 rfl (λK hK=> ?_)
   go_simp
   refine(vG.out X4.drew (zpK.out X4.drew hH)).mono ?_
   rintro e zmy ⟨⟨bv,rfl,hbv,hrow⟩,hb⟩
   obtain⟨pa,pc2,rfl, -⟩:=zh.slice hbv
   have qQ:=qh hrow
   clear hbv hrow
   have zpM:Below X4.heap.size X4 zmy:=zD hH hb
   refine hK.out _ _ zpM (λ_=> ?_)
   clear hK K hb hH
   refine zo 10 CZ.out ?_
   refine zo 11 CZ.out ?_
   refine zo 12 CZ.out ?_
   refine zo 13 CZ.out ?_
   refine zo 14 CZ.out ?_
   refine xE ?_
   have pY:=qh (yT.out.below zpM)
   clear zpM
   have z6w:=qh (zw yT.out.own.box)
   have z6x:=qh (yT.out.own.own.row.lt tb rfl).2
   have z6y:=qh (yT.out.own.own.mem.lt mb rfl).2
   have z6z:=qh yT.out.own.below.size
   go_upto_region 21 with fail
   obtain⟨t5,v5⟩:=pY.out.bU HL1.out bV.out bW.out 5 (.slice ba bl bc) (by omega) rfl
   obtain⟨pl,hpl⟩:∃pl,pl=(jq bf ⟨mod,bnd⟩ ⟨vS,A⟩).length:=⟨_,rfl⟩
   rw [<-hpl] at qQ ⊢
   have jM:=qh hpl
   clear hpl
   cases ok with
   |true=>
    have hrw:=xw (C:=W.heap.size) (qQ.out rfl) z6z.out
    have hpw:=pY.out.thread HL1.out (k:=5) (by omega) (t:=⟨(qN:Int)+1, [r0,r1,r2,r3],jq bf ⟨mod,bnd⟩ ⟨vS,A⟩⟩) (b:= .slice pa pl pc2) (u:= .slice pa pl pc2) (by rw [bV.out,bW.out];rfl) rfl (by rw [<-jM.out];exact hrw) (λk hk=>by have h1:X4.heap.size<=k:=((qQ.out rfl).lt k hk).1;have:=z6w.out;have:=z6x.out;have:=z6y.out;exact⟨by omega,by omega,by omega⟩) (λk hk j hj _ e=>by have h1:X4.heap.size<=k:=((qQ.out rfl).lt k hk).1;have h2:=((yT.out.own.own.buf j hj).lt k e).2;omega)
    rw [HSS.out] at hpw
    have HPW:=qh hpw
    clear hpw hrw
    go_upto_region 22 with fail
    clear t5 v5
    generalize World.setCell zmy _ _=XY at HPW ⊢
    have hres:R=some ⟨(ts.set i ⟨(qN:Int)+1, [r0,r1,r2,r3],jq bf ⟨mod,bnd⟩ ⟨vS,A⟩⟩),mem,bad⟩:=by
     rw [jL.out,bF xP.out.symm HM0.out (by rw [<-HVR.out, <-HA.out, <-jy.out])]
     simp only [Option.map_some]
     rw [<-HVR.out, <-HA.out]
    have zQ:=qh hres
    clear hres
    have yY:=HPW.out
    have yQ:=qh yY
    clear yY
    obtain⟨⟨a0,a1,a2⟩,⟨q0,q1,q2⟩,⟨f0,f1,f2⟩,hset,hsn,hbe⟩:=yG.out XY bad yQ.out.own.box yQ.out.own.below
    have zG:=qh hset
    have xK:=qh hsn
    have yD:=qh hbe
    clear hset hsn hbe
    go_wp2_with fail
    (try simp only [Exit.inBlock,Exit.then])
    refine bodyPost_ret (zy rfl _ _ (gx+3) 30 _ (0,0) _ rfl zG.out Tryz.underlying30 rfl zH) rfl ?_
    exact⟨qJ zQ.out (uI.out _ _ _ _ _ _ _ yQ.out xK.out),yD.out⟩
   |false=>
   have hbx:=pY.out.own.box
   have hsY:Since (λx=>x=tb) zmy (zmy.setCell ⟨tb,i*6+5,none⟩ (.slice pa pl pc2)):=Since.setCell (F:=λx=>x=tb) (p:=⟨tb,i*6+5,none⟩) (Since.refl _ _) (.inl rfl) _
   have zcF:=(hsY.block gb (zw hbx) (λe=>pY.out.own.n1 (by rw [e];rfl))).trans hbx
   have z1g:=pY.out.own.below.trans (hsY.below pY.out.own.below.size (λx e=>by have:=(pY.out.own.own.row.lt tb rfl).1;omega))
   have yZ:=qh zcF
   have z1h:=qh z1g
   clear hbx hsY zcF z1g
   have hres:R=none:=by
    rw [jL.out,bG xP.out.symm HM0.out (by rw [<-HVR.out, <-HA.out, <-jy.out])]
    rfl
   have zQ:=qh hres
   clear hres
   go_upto_region 22 with fail
   clear t5 v5
   generalize World.setCell zmy _ _=XY at yZ z1h ⊢
   obtain⟨⟨a0,a1,a2⟩,⟨q0,q1,q2⟩,⟨f0,f1,f2⟩,hset, -,hbe⟩:=yG.out XY bad yZ.out z1h.out
   have zG:=qh hset
   have yD:=qh hbe
   clear hset hbe
   go_wp2_with fail
   (try simp only [Exit.inBlock,Exit.then])
   refine bodyPost_ret (zy rfl _ _ (gx+3) 30 _ (0,0) _ rfl zG.out Tryz.underlying30 rfl zH) rfl ?_
   exact⟨uH zQ.out,yD.out⟩
 have p2:((op:Int)==2)=false:=by simp [o2]
 by_cases o3:op=3
 ·have vZ:Hid ((3:Int)=x.op):=by rw [Hid, <-xP.out,o3]
  clear xP
  have xP:=vZ
  clear vZ
  have p3:((op:Int)==3)=true:=by simp [o3]
  clear o3
  as_aux_lemma=>
   go_upto_region 24 with fail
   have z1:=ze yT.out.instr 1
   refine wp_region_still_tail 7 (by kernel_rfl) (by kernel_rfl) ?_
   simp only [List.take_succ_cons,List.take_zero,List.drop_succ_cons,List.drop_zero]
   repeat still_step
   try refine wpStill_nil ?_
   change wpList _ _ _ _ _ X4.drew
   obtain⟨X10,zuT⟩:∃wd,wd=X4.drew:=⟨_,rfl⟩
   rw [<-zuT]
   have z2N:Hid (Below X4.heap.size X4 X10):=by rw [Hid,zuT];exact(Below.refl _ _).drew
   clear zuT
   have zsd:=qh (yT.out.below z2N.out)
   clear z1
   obtain⟨u0,v0⟩:=zsd.out.bU HL1.out bV.out bW.out (1+wJ) (.int .i64 ([r0,r1,r2,r3].getD wJ 0)) (by omega) (zeI zbF)
   rw [<-Nat.add_assoc] at u0 v0
   have zcu:=zsd.out.set HL1.out (k:=1+wJ) (by omega) (t':=⟨(qN:Int)+1,([r0,r1,r2,r3].set wJ A),bf⟩) (u:=(.int .i64 A)) bV.out bW.out (zce zbF) (by simp) rfl
   rw [<-Nat.add_assoc] at zcu
   have zuU:=qh zcu
   clear zcu
   go_upto_region 48 with fail
   clear u0 v0
   generalize World.setCell X10 _ _=X11 at zuU ⊢
   obtain⟨z1i,z1j,z1k,z1l⟩:=zuU.out
   have z1m:=qh z1i
   have z9E:=qh z1j
   have z9F:=qh z1k
   have zAs:=qh z1l
   clear z1i z1j z1k z1l zuU
   have hres:R=some ⟨ts.set i ⟨(qN:Int)+1, [r0,r1,r2,r3].set wJ A,bf⟩,mem,bad⟩:=by
    rw [jL.out,zbw xP.out.symm]
    simp only [Option.map_some]
    rw [<-HA.out, <-HRG.out]
    rfl
   have zQ:=qh hres
   clear hres
   have yY:=z1m.out
   rw [HSS.out] at yY
   have yQ:=qh yY
   clear yY
   obtain⟨⟨a0,a1,a2⟩,⟨q0,q1,q2⟩,⟨f0,f1,f2⟩,hset,hsn,hbe⟩:=yG.out X11 bad yQ.out.own.box yQ.out.own.below
   have zG:=qh hset
   have xK:=qh hsn
   have yD:=qh hbe
   clear hset hsn hbe
   go_wp2_with fail
   (try simp only [Exit.inBlock,Exit.then])
   refine bodyPost_ret (zy rfl _ _ (gx+3) 30 _ (0,0) _ rfl zG.out Tryz.underlying30 rfl zH) rfl ?_
   exact⟨qJ zQ.out (uI.out _ _ _ _ _ _ _ yQ.out xK.out),yD.out⟩
 have p3:((op:Int)==3)=false:=by simp [o3]
 by_cases o4:op=4
 ·have vZ:Hid ((4:Int)=x.op):=by rw [Hid, <-xP.out,o4]
  clear xP
  have xP:=vZ
  clear vZ
  have p4:((op:Int)==4)=true:=by simp [o4]
  clear o4
  as_aux_lemma=>
   go_upto_region 26 with fail
   cases em with
   |true=>
    have hb0:bf.length=0:=by rw [<-vg.out];exact of_decide_eq_true HEM.out.symm
    have HB0:=qh hb0
    clear hb0
    have hres:R=some ⟨ts1,mem,bad⟩:=by
     rw [jL.out,uM xP.out.symm]
     rw [if_pos HB0.out,HT1.out]
     rfl
    have zQ:=qh hres
    clear hres
    have yY:=yT.out
    have yQ:=qh yY
    clear yY
    obtain⟨⟨a0,a1,a2⟩,⟨q0,q1,q2⟩,⟨f0,f1,f2⟩,hset,hsn,hbe⟩:=yG.out X4 bad yQ.out.own.box yQ.out.own.below
    have zG:=qh hset
    have xK:=qh hsn
    have yD:=qh hbe
    clear hset hsn hbe
    go_wp2_with fail
    (try simp only [Exit.inBlock,Exit.then])
    refine bodyPost_ret (zy rfl _ _ (gx+3) 30 _ (0,0) _ rfl zG.out Tryz.underlying30 rfl zH) rfl ?_
    exact⟨qJ zQ.out (uI.out _ _ _ _ _ _ _ yQ.out xK.out),yD.out⟩
   |false=>
   have hb0:¬bf.length=0:=by rw [<-vg.out];exact of_decide_eq_false HEM.out.symm
   have HB0:=qh hb0
   clear hb0
   have hres:R=none:=by
    rw [jL.out,uM xP.out.symm]
    rw [if_neg HB0.out]
    rfl
   have zQ:=qh hres
   clear hres
   have yY:=yT.out
   have yQ:=qh yY
   clear yY
   obtain⟨⟨a0,a1,a2⟩,⟨q0,q1,q2⟩,⟨f0,f1,f2⟩,hset,hsn,hbe⟩:=yG.out X4 bad yQ.out.own.box yQ.out.own.below
   have zG:=qh hset
   have xK:=qh hsn
   have yD:=qh hbe
   clear hset hsn hbe
   go_wp2_with fail
   (try simp only [Exit.inBlock,Exit.then])
   refine bodyPost_ret (zy rfl _ _ (gx+3) 30 _ (0,0) _ rfl zG.out Tryz.underlying30 rfl zH) rfl ?_
   exact⟨uH zQ.out,yD.out⟩
 have p4:((op:Int)==4)=false:=by simp [o4]
 by_cases o5:op=5
 ·have vZ:Hid ((5:Int)=x.op):=by rw [Hid, <-xP.out,o5]
  clear xP
  have xP:=vZ
  clear vZ
  have p5:((op:Int)==5)=true:=by simp [o5]
  clear o5
  as_aux_lemma=>
   go_upto_region 28 with fail
   have CZ:Hid (∀y,Since (λk=>k=gx+3) X4 y->y.cell? ⟨gb,0,none⟩=some (.slice (some ⟨tb,0,none⟩) n xc)/\y.cell? ⟨gb,1,none⟩=some (.slice (some ⟨mb,0,none⟩) mn yc)/\y.cell? ⟨gb,2,none⟩=some (.bool bad)/\y.cell? ⟨gx+1,0,none⟩=some (.int .i64 mod)):=λy hy=>by
    have h1:=yT.out.own.box
    have hlo:=yT.out.own.lo
    have hlt:=zw H4.out
    have h2:=(hy.block _ (zw h1) (by omega)).trans h1
    have h3:=(yT.out.own.below.block _ (zw H2.out)).trans H2.out
    have h4:=(hy.block _ (zw h3) (by omega)).trans h3
    exact⟨ze h2 0,ze h2 1,ze h2 2,ze h4 0⟩
   cases em with
   |true=>
    have hb0:bf.length=0:=by rw [<-vg.out];exact of_decide_eq_true HEM.out.symm
    have HB0:=qh hb0
    clear hb0
    have hres:R=some ⟨ts1,mem,bad⟩:=by
     rw [jL.out,uq xP.out.symm]
     rw [if_pos (.inl HB0.out),HT1.out]
     rfl
    have zQ:=qh hres
    clear hres
    have yY:=yT.out
    have yQ:=qh yY
    clear yY
    refine qL (S:=λy=>Since (λk=>k=gx+3) X4 y) (Since.refl _ _).drew (λ_=> ?_)
    obtain⟨wd,hwd⟩:∃wd,wd=X4.drew:=⟨_,rfl⟩
    rw [<-hwd]
    have HFX:=yG.out wd bad (by rw [hwd];exact yQ.out.own.box) (by rw [hwd];exact yQ.out.own.below.drew)
    have xL:Hid (Since (λk=>k=gx+3) X4 wd):=by rw [Hid,hwd];exact(Since.refl _ _).drew
    clear hwd
    refine zC 0 CZ.out (xL.out) ?_
    refine zC 1 zO (xL.out) ?_
    refine zC 2 zO (xL.out) ?_
    refine wpAnyH_take (i:=3) (v:=undef) rfl (by kernel_rfl) (by kernel_rfl) (by kernel_rfl) (λ_ _ _ h=>h) (Or.inr ⟨by rfl,rfl⟩) (xL.out) ?_
    change wpAnyH _ _ _ _ _ _ _ (Act.put _ (some 158) _) _
    simp only [Act.put,kI]
    try simp only [kJ,kK]
    refine wpAnyH_take (i:=4) (v:=undef) rfl (by kernel_rfl) (by kernel_rfl) (by kernel_rfl) (λ_ _ _ h=>h) (Or.inr ⟨by rfl,rfl⟩) (xL.out) ?_
    change wpAnyH _ _ _ _ _ _ _ (Act.put _ (some 159) _) _
    simp only [Act.put,kI]
    try simp only [kJ,kK]
    refine wpAnyH_take (i:=5) (v:=undef) rfl (by kernel_rfl) (by kernel_rfl) (by kernel_rfl) (λ_ _ _ h=>h) (Or.inr ⟨by rfl,rfl⟩) (xL.out) ?_
    change wpAnyH _ _ _ _ _ _ _ (Act.put _ (some 160) _) _
    simp only [Act.put,kI]
    try simp only [kJ,kK]
    refine zC 6 zO (xL.out) ?_
    refine yw 7 rfl (λK hK=> ?_)
    obtain⟨-,⟨q0,q1,q2⟩,⟨f0,f1,f2⟩,hset,hsn,hbe⟩:=HFX
    have zG:=qh hset
    have xK:=qh hsn
    have yD:=qh hbe
    clear hset hsn hbe
    go_simp
    refine hK.out _ _ (xL.out.trans xK.out (λ_ h=> .inl h)) (λ_=> ?_)
    clear hK K
    refine zC 8 zO ((xL.out.trans xK.out (λ_ h=> .inl h))) ?_
    refine xE ?_
    go_wp2_with fail
    (try simp only [Exit.inBlock,Exit.then])
    refine bodyPost_ret (zy rfl _ _ (gx+3) 30 _ (0,0) _ rfl zG.out Tryz.underlying30 rfl zH) rfl ?_
    exact⟨qJ zQ.out (uI.out _ _ _ _ _ _ _ yQ.out (xL.out.trans xK.out (λ_ h=> .inl h))),yD.out⟩
   |false=>
   have hb0:¬bf.length=0:=by rw [<-vg.out];exact of_decide_eq_false HEM.out.symm
   have HB0:=qh hb0
   clear hb0
   by_cases hm2:mod=2
   rotate_left
   ·have hm3:((mod:Int) !=2)=true:=by simp [hm2]
    have HM2:=qh hm2
    clear hm2
    have hres:R=some ⟨ts1,mem,bad⟩:=by
     rw [jL.out,uq xP.out.symm]
     rw [if_pos (.inr HM2.out),HT1.out]
     rfl
    have zQ:=qh hres
    clear hres
    have yY:=yT.out
    have yQ:=qh yY
    clear yY
    refine qL (S:=λy=>Since (λk=>k=gx+3) X4 y) (Since.refl _ _).drew (λ_=> ?_)
    obtain⟨wd,hwd⟩:∃wd,wd=X4.drew:=⟨_,rfl⟩
    rw [<-hwd]
    have HFX:=yG.out wd bad (by rw [hwd];exact yQ.out.own.box) (by rw [hwd];exact yQ.out.own.below.drew)
    have xL:Hid (Since (λk=>k=gx+3) X4 wd):=by rw [Hid,hwd];exact(Since.refl _ _).drew
    clear hwd
    refine zC 0 CZ.out (xL.out) ?_
    refine zC 1 zO (xL.out) ?_
    refine zC 2 zO (xL.out) ?_
    refine zC 3 zO (xL.out) ?_
    refine zC 4 CZ.out (xL.out) ?_
    refine zC 5 zO (xL.out) ?_
    refine zC 6 zO (xL.out) ?_
    refine yw 7 rfl (λK hK=> ?_)
    obtain⟨-,⟨q0,q1,q2⟩,⟨f0,f1,f2⟩,hset,hsn,hbe⟩:=HFX
    have zG:=qh hset
    have xK:=qh hsn
    have yD:=qh hbe
    clear hset hsn hbe
    go_simp
    refine hK.out _ _ (xL.out.trans xK.out (λ_ h=> .inl h)) (λ_=> ?_)
    clear hK K
    refine zC 8 zO ((xL.out.trans xK.out (λ_ h=> .inl h))) ?_
    refine xE ?_
    go_wp2_with fail
    (try simp only [Exit.inBlock,Exit.then])
    refine bodyPost_ret (zy rfl _ _ (gx+3) 30 _ (0,0) _ rfl zG.out Tryz.underlying30 rfl zH) rfl ?_
    exact⟨qJ zQ.out (uI.out _ _ _ _ _ _ _ yQ.out (xL.out.trans xK.out (λ_ h=> .inl h))),yD.out⟩
   have hm3:((mod:Int) !=2)=false:=by simp [hm2]
   have HM2:=qh hm2
   clear hm2
   have hres:R=none:=by
    rw [jL.out,uq xP.out.symm]
    rw [if_neg (λh=>h.elim HB0.out (λh=>h HM2.out))]
    rfl
   have zQ:=qh hres
   clear hres
   have yY:=yT.out
   have yQ:=qh yY
   clear yY
   refine qL (S:=λy=>Since (λk=>k=gx+3) X4 y) (Since.refl _ _).drew (λ_=> ?_)
   obtain⟨wd,hwd⟩:∃wd,wd=X4.drew:=⟨_,rfl⟩
   rw [<-hwd]
   have HFX:=yG.out wd bad (by rw [hwd];exact yQ.out.own.box) (by rw [hwd];exact yQ.out.own.below.drew)
   have xL:Hid (Since (λk=>k=gx+3) X4 wd):=by rw [Hid,hwd];exact(Since.refl _ _).drew
   clear hwd
   refine zC 0 CZ.out (xL.out) ?_
   refine zC 1 zO (xL.out) ?_
   refine zC 2 zO (xL.out) ?_
   refine zC 3 zO (xL.out) ?_
   refine zC 4 CZ.out (xL.out) ?_
   refine zC 5 zO (xL.out) ?_
   refine zC 6 zO (xL.out) ?_
   refine yw 7 rfl (λK hK=> ?_)
   obtain⟨-,⟨q0,q1,q2⟩,⟨f0,f1,f2⟩,hset,hsn,hbe⟩:=HFX
   have zG:=qh hset
   have xK:=qh hsn
   have yD:=qh hbe
   clear hset hsn hbe
   go_simp
   refine hK.out _ _ (xL.out.trans xK.out (λ_ h=> .inl h)) (λ_=> ?_)
   clear hK K
   refine zC 8 zO ((xL.out.trans xK.out (λ_ h=> .inl h))) ?_
   refine xE ?_
   go_wp2_with fail
   (try simp only [Exit.inBlock,Exit.then])
   refine bodyPost_ret (zy rfl _ _ (gx+3) 30 _ (0,0) _ rfl zG.out Tryz.underlying30 rfl zH) rfl ?_
   exact⟨uH zQ.out,yD.out⟩
 have p5:((op:Int)==5)=false:=by simp [o5]
 by_cases o6:op=6
 ·have vZ:Hid ((6:Int)=x.op):=by rw [Hid, <-xP.out,o6]
  clear xP
  have xP:=vZ
  clear vZ
  have p6:((op:Int)==6)=true:=by simp [o6]
  clear o6
  as_aux_lemma=>
   go_upto_region 30 with fail
   have z1:=ze yT.out.instr 1
   refine wp_region_still_tail 6 (by kernel_rfl) (by kernel_rfl) ?_
   simp only [List.take_succ_cons,List.take_zero,List.drop_succ_cons,List.drop_zero]
   repeat still_step
   try refine wpStill_nil ?_
   change wpList _ _ _ _ _ X4.drew
   obtain⟨X15,zuV⟩:∃wd,wd=X4.drew:=⟨_,rfl⟩
   rw [<-zuV]
   have z2O:Hid (Below X4.heap.size X4 X15):=by rw [Hid,zuV];exact(Below.refl _ _).drew
   clear zuV
   have zse:=qh (yT.out.below z2O.out)
   clear z1
   obtain⟨u0,v0⟩:=zse.out.bU HL1.out bV.out bW.out (1+wJ) (.int .i64 ([r0,r1,r2,r3].getD wJ 0)) (by omega) (zeI zbF)
   rw [<-Nat.add_assoc] at u0 v0
   have hw16:=zse.out.set HL1.out (k:=1+wJ) (by omega) (t':=⟨(qN:Int)+1,([r0,r1,r2,r3].set wJ 0),bf⟩) (u:=(.int .i64 0)) bV.out bW.out (zce zbF) (by simp) rfl
   rw [<-Nat.add_assoc] at hw16
   have zuW:=qh hw16
   clear hw16
   go_upto_region 31 with fail
   clear u0 v0
   generalize World.setCell X15 _ _=X16 at zuW ⊢
   obtain⟨z1o,z1p,z1q,z1r⟩:=zuW.out
   have zaR:=qh z1o
   have zwT:=qh z1p
   have zwU:=qh z1q
   have z1s:=qh z1r
   clear z1o z1p z1q z1r zuW
   obtain⟨nv,hnv⟩:∃nv,nv=mem.getD vS 0:=⟨_,rfl⟩
   obtain⟨sb,so,hsa, -,hsc⟩:=xI.part ze6.out vS (by rw [<-vR.out];omega)
   subst hsa
   rw [<-hnv] at hsc
   have HNV:=qh hnv
   clear hnv
   have s1:=zi zaR.out.own.below _ _ hsc
   have c6:=(qm.out _ zaR.out.own.below).2.2.2.2.2.2.1
   have uW:(vS:Int)<(mn:Int):=by omega
   have z2:=ze zaR.out.instr 2
   by_cases ha0:nv=A
   rotate_left
   ·have ha1:((nv:Int)==A)=false:=by simp [ha0]
    have HA0:=qh ha0
    clear ha0
    go_upto_region 34 with fail
    clear z2 s1 c6 hsc uW ha1
    cases em with
    |true=>
     have hb0:bf.length=0:=by rw [<-vg.out];exact of_decide_eq_true HEM.out.symm
     have HB0:=qh hb0
     clear hb0
     have hres:R=some ⟨ts.set i ⟨(qN:Int)+1, [r0,r1,r2,r3].set wJ 0,bf⟩,mem,bad⟩:=by
      rw [jL.out,pz xP.out.symm (by rw [<-HVR.out, <-HA.out];exact λe=>HA0.out (HNV.out.trans e)),if_pos HB0.out]
      simp only [Option.map_some]
      rw [<-HRG.out]
      rfl
     have zQ:=qh hres
     clear hres
     have yY:=zaR.out
     rw [HSS.out] at yY
     have yQ:=qh yY
     clear yY
     obtain⟨⟨a0,a1,a2⟩,⟨q0,q1,q2⟩,⟨f0,f1,f2⟩,hset,hsn,hbe⟩:=yG.out X16 bad yQ.out.own.box yQ.out.own.below
     have zG:=qh hset
     have xK:=qh hsn
     have yD:=qh hbe
     clear hset hsn hbe
     go_wp2_with fail
     (try simp only [Exit.inBlock,Exit.then])
     refine bodyPost_ret (zy rfl _ _ (gx+3) 30 _ (0,0) _ rfl zG.out Tryz.underlying30 rfl zH) rfl ?_
     exact⟨qJ zQ.out (uI.out _ _ _ _ _ _ _ yQ.out xK.out),yD.out⟩
    |false=>
    have hb0:¬bf.length=0:=by rw [<-vg.out];exact of_decide_eq_false HEM.out.symm
    have HB0:=qh hb0
    clear hb0
    have hres:R=none:=by
     rw [jL.out,pz xP.out.symm (by rw [<-HVR.out, <-HA.out];exact λe=>HA0.out (HNV.out.trans e)),if_neg HB0.out]
     rfl
    have zQ:=qh hres
    clear hres
    have yY:=zaR.out
    have yQ:=qh yY
    clear yY
    obtain⟨⟨a0,a1,a2⟩,⟨q0,q1,q2⟩,⟨f0,f1,f2⟩,hset,hsn,hbe⟩:=yG.out X16 bad yQ.out.own.box yQ.out.own.below
    have zG:=qh hset
    have xK:=qh hsn
    have yD:=qh hbe
    clear hset hsn hbe
    go_wp2_with fail
    (try simp only [Exit.inBlock,Exit.then])
    refine bodyPost_ret (zy rfl _ _ (gx+3) 30 _ (0,0) _ rfl zG.out Tryz.underlying30 rfl zH) rfl ?_
    exact⟨uH zQ.out,yD.out⟩
   have ha1:((nv:Int)==A)=true:=by simp [ha0]
   have HA0:=qh ha0
   clear ha0
   go_upto_region 32 with fail
   clear z2 s1 c6 hsc uW ha1
   go_upto_region 32 with fail
   have z2:=ze zaR.out.instr 2
   have hbx:=zaR.out.own.box
   have g1:=ze hbx 1
   clear hbx
   have hml:vS<mem.length:=by rw [<-vR.out];omega
   obtain⟨m0,m1⟩:=zaR.out.zkI hml
   have uW:(vS:Int)<(mn:Int):=by omega
   have zmz:=qh (zaR.out.mem vS B)
   clear hml
   go_upto_region 33 with fail
   clear z2 g1 m0 m1 uW
   generalize World.setCell X16 _ _=X17 at zmz ⊢
   go_upto_region 33 with fail
   have z1:=ze zmz.out.instr 1
   refine wp_region_still_tail 6 (by kernel_rfl) (by kernel_rfl) ?_
   simp only [List.take_succ_cons,List.take_zero,List.drop_succ_cons,List.drop_zero]
   repeat still_step
   try refine wpStill_nil ?_
   change wpList _ _ _ _ _ X17.drew
   obtain⟨X18,zuX⟩:∃wd,wd=X17.drew:=⟨_,rfl⟩
   rw [<-zuX]
   have z2P:Hid (Below X17.heap.size X17 X18):=by rw [Hid,zuX];exact(Below.refl _ _).drew
   clear zuX
   have zsf:=qh (zmz.out.below z2P.out)
   clear z1
   obtain⟨u0,v0⟩:=zsf.out.bU z1s.out zwT.out zwU.out (1+wJ) (.int .i64 ([0,0,0,0].getD wJ 0)) (by omega) (zrT zbF)
   rw [<-Nat.add_assoc] at u0 v0
   have zuY:=zsf.out.set z1s.out (k:=1+wJ) (by omega) (t':=⟨(qN:Int)+1,([r0,r1,r2,r3].set wJ 1),bf⟩) (u:=(.int .i64 1)) zwT.out zwU.out (znq zbF) (by simp) rfl
   rw [<-Nat.add_assoc] at zuY
   have zuZ:=qh zuY
   clear zuY
   go_upto_region 34 with fail
   clear u0 v0
   generalize World.setCell X18 _ _=X19 at zuZ ⊢
   obtain⟨z1t,z1u,z1v,z1w⟩:=zuZ.out
   have zsg:=qh z1t
   have z9G:=qh z1u
   have z9H:=qh z1v
   have zAt:=qh z1w
   clear z1t z1u z1v z1w zuZ
   cases em with
   |true=>
    have hb0:bf.length=0:=by rw [<-vg.out];exact of_decide_eq_true HEM.out.symm
    have HB0:=qh hb0
    clear hb0
    have hres:R=some ⟨ts.set i ⟨(qN:Int)+1, [r0,r1,r2,r3].set wJ 1,bf⟩,(mem.set vS B),bad⟩:=by
     rw [jL.out,pq xP.out.symm (by rw [<-HVR.out, <-HA.out, <-HA0.out,HNV.out];rfl),if_pos HB0.out]
     simp only [Option.map_some]
     rw [<-HVR.out, <-yD.out, <-HRG.out]
     rfl
    have zQ:=qh hres
    clear hres
    have yY:=zsg.out
    rw [List.set_set,HSS.out] at yY
    have yQ:=qh yY
    clear yY
    obtain⟨⟨a0,a1,a2⟩,⟨q0,q1,q2⟩,⟨f0,f1,f2⟩,hset,hsn,hbe⟩:=yG.out X19 bad yQ.out.own.box yQ.out.own.below
    have zG:=qh hset
    have xK:=qh hsn
    have yD:=qh hbe
    clear hset hsn hbe
    go_wp2_with fail
    (try simp only [Exit.inBlock,Exit.then])
    refine bodyPost_ret (zy rfl _ _ (gx+3) 30 _ (0,0) _ rfl zG.out Tryz.underlying30 rfl zH) rfl ?_
    exact⟨qJ zQ.out (uI.out _ _ _ _ _ _ _ yQ.out xK.out),yD.out⟩
   |false=>
   have hb0:¬bf.length=0:=by rw [<-vg.out];exact of_decide_eq_false HEM.out.symm
   have HB0:=qh hb0
   clear hb0
   have hres:R=none:=by
    rw [jL.out,pq xP.out.symm (by rw [<-HVR.out, <-HA.out, <-HA0.out,HNV.out];rfl),if_neg HB0.out]
    rfl
   have zQ:=qh hres
   clear hres
   have yY:=zsg.out
   have yQ:=qh yY
   clear yY
   obtain⟨⟨a0,a1,a2⟩,⟨q0,q1,q2⟩,⟨f0,f1,f2⟩,hset,hsn,hbe⟩:=yG.out X19 bad yQ.out.own.box yQ.out.own.below
   have zG:=qh hset
   have xK:=qh hsn
   have yD:=qh hbe
   clear hset hsn hbe
   go_wp2_with fail
   (try simp only [Exit.inBlock,Exit.then])
   refine bodyPost_ret (zy rfl _ _ (gx+3) 30 _ (0,0) _ rfl zG.out Tryz.underlying30 rfl zH) rfl ?_
   exact⟨uH zQ.out,yD.out⟩
 have p6:((op:Int)==6)=false:=by simp [o6]
 by_cases o7:op=7
 ·have vZ:Hid ((7:Int)=x.op):=by rw [Hid, <-xP.out,o7]
  clear xP
  have xP:=vZ
  clear vZ
  have p7:((op:Int)==7)=true:=by simp [o7]
  clear o7
  as_aux_lemma=>
   obtain⟨nv,hnv⟩:∃nv,nv=mem.getD vS 0:=⟨_,rfl⟩
   obtain⟨sb,so,hsa,hsb,hsc⟩:=xI.part ze6.out vS (by rw [<-vR.out];omega)
   subst hsa
   rw [<-hnv] at hsc
   have HNV:=qh hnv
   have HSC:=qh hsc
   clear hnv hsc hsb
   obtain⟨sb2,so2,he2,z6A, -⟩:=xI.part z6q.out vS (by rw [<-vR.out];omega)
   cases he2
   have HSG:Hid (¬sb=gx+3):=λe=>by have:=yS.out;omega
   clear z6A
   go_upto_region 36 with fail
   have z2:=ze yT.out.instr 2
   have hbx:=yT.out.own.box
   have g1:=ze hbx 1
   clear hbx
   have hml:vS<mem.length:=by rw [<-vR.out];omega
   obtain⟨m0,m1⟩:=yT.out.zkI hml
   have uW:(vS:Int)<(mn:Int):=by omega
   have zaS:=qh (yT.out.mem vS 1)
   clear hml
   go_upto_region 37 with fail
   clear z2 g1 m0 m1 uW
   generalize World.setCell X4 _ _=X20 at zaS ⊢
   have uW:(vS:Int)<(mn:Int):=by omega
   have CZ:Hid (∀y,Since (λk=>k=gx+3) X20 y->y.cell? ⟨gb,0,none⟩=some (.slice (some ⟨tb,0,none⟩) n xc)/\y.cell? ⟨gb,1,none⟩=some (.slice (some ⟨mb,0,none⟩) mn yc)/\y.cell? ⟨gb,2,none⟩=some (.bool bad)/\y.cell? ⟨gx+2,1,none⟩=some (.slice (some ⟨sb,so,none⟩) mn vQ)/\y.cell? ⟨gi,2,none⟩=some (.int .i64 vS)/\y.cell? ⟨sb,so+vS,none⟩=some (.int .i64 nv)):=λy hy=>by
    have h1:=zaS.out.own.box
    have hlo:=zaS.out.own.lo
    have hlt:=zw H4.out
    have h2:=(hy.block _ (zw h1) (by omega)).trans h1
    have h3:=(zaS.out.own.below.block _ (zw H3.out)).trans H3.out
    have h4:=(hy.block _ (zw h3) (by omega)).trans h3
    have h5:=zaS.out.instr
    have h6:=(hy.block _ (zw h5) HGI.out).trans h5
    have h7:=zi zaS.out.own.below _ _ HSC.out
    have h8:=(hy.cell (p:=⟨sb,so+vS,none⟩) (World.block_lt_of_cell? _ _ h7) HSG.out).trans h7
    exact⟨ze h2 0,ze h2 1,ze h2 2,ze h4 1,ze h6 2,h8⟩
   cases em with
   |true=>
    have hb0:bf.length=0:=by rw [<-vg.out];exact of_decide_eq_true HEM.out.symm
    have HB0:=qh hb0
    clear hb0
    by_cases ha0:nv=0
    rotate_left
    ·have ha1:((nv:Int)==0)=false:=by simp [ha0]
     have HA0:=qh ha0
     clear ha0
     have hres:R=none:=by
      rw [jL.out,uw xP.out.symm]
      rw [if_neg (λh=>HA0.out (by have:=h.2;rw [<-HVR.out] at this;exact HNV.out.trans this))]
      rfl
     have zQ:=qh hres
     clear hres
     have yY:=zaS.out
     have yQ:=qh yY
     clear yY
     refine qL (S:=λy=>Since (λk=>k=gx+3) X20 y) (Since.refl _ _).drew (λ_=> ?_)
     obtain⟨wd,hwd⟩:∃wd,wd=X20.drew:=⟨_,rfl⟩
     rw [<-hwd]
     have HFX:=yG.out wd bad (by rw [hwd];exact yQ.out.own.box) (by rw [hwd];exact yQ.out.own.below.drew)
     have xL:Hid (Since (λk=>k=gx+3) X20 wd):=by rw [Hid,hwd];exact(Since.refl _ _).drew
     clear hwd
     refine zC 0 CZ.out (xL.out) ?_
     refine zC 1 zO (xL.out) ?_
     refine zC 2 zO (xL.out) ?_
     refine zC 3 zO (xL.out) ?_
     refine zC 4 CZ.out (xL.out) ?_
     refine zC 5 zO (xL.out) ?_
     refine zC 6 CZ.out (xL.out) ?_
     refine zC 7 zO (xL.out) ?_
     refine zC 8 CZ.out (xL.out) ?_
     refine zC 9 zO (xL.out) ?_
     refine zC 10 zO (xL.out) ?_
     refine yw 11 rfl (λK hK=> ?_)
     obtain⟨-,⟨q0,q1,q2⟩,⟨f0,f1,f2⟩,hset,hsn,hbe⟩:=HFX
     have zG:=qh hset
     have xK:=qh hsn
     have yD:=qh hbe
     clear hset hsn hbe
     go_simp
     refine hK.out _ _ (xL.out.trans xK.out (λ_ h=> .inl h)) (λ_=> ?_)
     clear hK K
     refine zC 12 zO ((xL.out.trans xK.out (λ_ h=> .inl h))) ?_
     refine xE ?_
     go_wp2_with fail
     (try simp only [Exit.inBlock,Exit.then])
     refine bodyPost_ret (zy rfl _ _ (gx+3) 30 _ (0,0) _ rfl zG.out Tryz.underlying30 rfl zH) rfl ?_
     exact⟨uH zQ.out,yD.out⟩
    have ha1:((nv:Int)==0)=true:=by simp [ha0]
    have HA0:=qh ha0
    clear ha0
    have hres:R=some ⟨ts1,(mem.set vS 1),bad⟩:=by
     rw [jL.out,uw xP.out.symm]
     rw [if_pos ⟨HB0.out,by rw [<-HVR.out];exact HNV.out.symm.trans HA0.out⟩]
     simp only [Option.map_some]
     rw [<-HVR.out,HT1.out]
     rfl
    have zQ:=qh hres
    clear hres
    have yY:=zaS.out
    have yQ:=qh yY
    clear yY
    refine qL (S:=λy=>Since (λk=>k=gx+3) X20 y) (Since.refl _ _).drew (λ_=> ?_)
    obtain⟨wd,hwd⟩:∃wd,wd=X20.drew:=⟨_,rfl⟩
    rw [<-hwd]
    have HFX:=yG.out wd bad (by rw [hwd];exact yQ.out.own.box) (by rw [hwd];exact yQ.out.own.below.drew)
    have xL:Hid (Since (λk=>k=gx+3) X20 wd):=by rw [Hid,hwd];exact(Since.refl _ _).drew
    clear hwd
    refine zC 0 CZ.out (xL.out) ?_
    refine zC 1 zO (xL.out) ?_
    refine zC 2 zO (xL.out) ?_
    refine zC 3 zO (xL.out) ?_
    refine zC 4 CZ.out (xL.out) ?_
    refine zC 5 zO (xL.out) ?_
    refine zC 6 CZ.out (xL.out) ?_
    refine zC 7 zO (xL.out) ?_
    refine zC 8 CZ.out (xL.out) ?_
    refine zC 9 zO (xL.out) ?_
    refine zC 10 zO (xL.out) ?_
    refine yw 11 rfl (λK hK=> ?_)
    obtain⟨-,⟨q0,q1,q2⟩,⟨f0,f1,f2⟩,hset,hsn,hbe⟩:=HFX
    have zG:=qh hset
    have xK:=qh hsn
    have yD:=qh hbe
    clear hset hsn hbe
    go_simp
    refine hK.out _ _ (xL.out.trans xK.out (λ_ h=> .inl h)) (λ_=> ?_)
    clear hK K
    refine zC 12 zO ((xL.out.trans xK.out (λ_ h=> .inl h))) ?_
    refine xE ?_
    go_wp2_with fail
    (try simp only [Exit.inBlock,Exit.then])
    refine bodyPost_ret (zy rfl _ _ (gx+3) 30 _ (0,0) _ rfl zG.out Tryz.underlying30 rfl zH) rfl ?_
    exact⟨qJ zQ.out (uI.out _ _ _ _ _ _ _ yQ.out (xL.out.trans xK.out (λ_ h=> .inl h))),yD.out⟩
   |false=>
   have hb0:¬bf.length=0:=by rw [<-vg.out];exact of_decide_eq_false HEM.out.symm
   have HB0:=qh hb0
   clear hb0
   have hres:R=none:=by
    rw [jL.out,uw xP.out.symm]
    rw [if_neg (λh=>HB0.out h.1)]
    rfl
   have zQ:=qh hres
   clear hres
   have yY:=zaS.out
   have yQ:=qh yY
   clear yY
   refine qL (S:=λy=>Since (λk=>k=gx+3) X20 y) (Since.refl _ _).drew (λ_=> ?_)
   obtain⟨wd,hwd⟩:∃wd,wd=X20.drew:=⟨_,rfl⟩
   rw [<-hwd]
   have HFX:=yG.out wd bad (by rw [hwd];exact yQ.out.own.box) (by rw [hwd];exact yQ.out.own.below.drew)
   have xL:Hid (Since (λk=>k=gx+3) X20 wd):=by rw [Hid,hwd];exact(Since.refl _ _).drew
   clear hwd
   refine zC 0 CZ.out (xL.out) ?_
   refine zC 1 zO (xL.out) ?_
   refine zC 2 zO (xL.out) ?_
   refine wpAnyH_take (i:=3) (v:=undef) rfl (by kernel_rfl) (by kernel_rfl) (by kernel_rfl) (λ_ _ _ h=>h) (Or.inr ⟨by rfl,rfl⟩) (xL.out) ?_
   change wpAnyH _ _ _ _ _ _ _ (Act.put _ (some 202) _) _
   simp only [Act.put,kI]
   try simp only [kJ,kK]
   refine wpAnyH_take (i:=4) (v:=undef) rfl (by kernel_rfl) (by kernel_rfl) (by kernel_rfl) (λ_ _ _ h=>h) (Or.inr ⟨by rfl,rfl⟩) (xL.out) ?_
   change wpAnyH _ _ _ _ _ _ _ (Act.put _ (some 203) _) _
   simp only [Act.put,kI]
   try simp only [kJ,kK]
   refine wpAnyH_take (i:=5) (v:=undef) rfl (by kernel_rfl) (by kernel_rfl) (by kernel_rfl) (λ_ _ _ h=>h) (Or.inr ⟨by rfl,rfl⟩) (xL.out) ?_
   change wpAnyH _ _ _ _ _ _ _ (Act.put _ (some 204) _) _
   simp only [Act.put,kI]
   try simp only [kJ,kK]
   refine wpAnyH_take (i:=6) (v:=undef) rfl (by kernel_rfl) (by kernel_rfl) (by kernel_rfl) (λ_ _ _ h=>h) (Or.inr ⟨by rfl,rfl⟩) (xL.out) ?_
   change wpAnyH _ _ _ _ _ _ _ (Act.put _ (some 205) _) _
   simp only [Act.put,kI]
   try simp only [kJ,kK]
   refine wpAnyH_take (i:=7) (v:=undef) rfl (by kernel_rfl) (by kernel_rfl) (by kernel_rfl) (λ_ _ _ h=>h) (Or.inr ⟨by rfl,rfl⟩) (xL.out) ?_
   change wpAnyH _ _ _ _ _ _ _ (Act.put _ (some 206) _) _
   simp only [Act.put,kI]
   try simp only [kJ,kK]
   refine wpAnyH_take (i:=8) (v:=undef) rfl (by kernel_rfl) (by kernel_rfl) (by kernel_rfl) (λ_ _ _ h=>h) (Or.inr ⟨by rfl,rfl⟩) (xL.out) ?_
   change wpAnyH _ _ _ _ _ _ _ (Act.put _ (some 207) _) _
   simp only [Act.put,kI]
   try simp only [kJ,kK]
   refine wpAnyH_take (i:=9) (v:=undef) rfl (by kernel_rfl) (by kernel_rfl) (by kernel_rfl) (λ_ _ _ h=>h) (Or.inr ⟨by rfl,rfl⟩) (xL.out) ?_
   change wpAnyH _ _ _ _ _ _ _ (Act.put _ (some 208) _) _
   simp only [Act.put,kI]
   try simp only [kJ,kK]
   refine zC 10 zO (xL.out) ?_
   refine yw 11 rfl (λK hK=> ?_)
   obtain⟨-,⟨q0,q1,q2⟩,⟨f0,f1,f2⟩,hset,hsn,hbe⟩:=HFX
   have zG:=qh hset
   have xK:=qh hsn
   have yD:=qh hbe
   clear hset hsn hbe
   go_simp
   refine hK.out _ _ (xL.out.trans xK.out (λ_ h=> .inl h)) (λ_=> ?_)
   clear hK K
   refine zC 12 zO ((xL.out.trans xK.out (λ_ h=> .inl h))) ?_
   refine xE ?_
   go_wp2_with fail
   (try simp only [Exit.inBlock,Exit.then])
   refine bodyPost_ret (zy rfl _ _ (gx+3) 30 _ (0,0) _ rfl zG.out Tryz.underlying30 rfl zH) rfl ?_
   exact⟨uH zQ.out,yD.out⟩
 have p7:((op:Int)==7)=false:=by simp [o7]
 by_cases o8:op=8
 ·have vZ:Hid ((8:Int)=x.op):=by rw [Hid, <-xP.out,o8]
  clear xP
  have xP:=vZ
  clear vZ
  have p8:((op:Int)==8)=true:=by simp [o8]
  clear o8
  as_aux_lemma=>
   go_upto_region 39 with fail
   have z2:=ze yT.out.instr 2
   have hbx:=yT.out.own.box
   have g1:=ze hbx 1
   clear hbx
   have hml:vS<mem.length:=by rw [<-vR.out];omega
   obtain⟨m0,m1⟩:=yT.out.zkI hml
   have uW:(vS:Int)<(mn:Int):=by omega
   have zm0:=qh (yT.out.mem vS 0)
   clear hml
   go_upto_region 40 with fail
   clear z2 g1 m0 m1 uW
   generalize World.setCell X4 _ _=X24 at zm0 ⊢
   cases em with
   |true=>
    have hb0:bf.length=0:=by rw [<-vg.out];exact of_decide_eq_true HEM.out.symm
    have HB0:=qh hb0
    clear hb0
    have hres:R=some ⟨ts1,(mem.set vS 0),bad⟩:=by
     rw [jL.out,gH xP.out.symm]
     rw [if_pos HB0.out]
     simp only [Option.map_some]
     rw [<-HVR.out,HT1.out]
     rfl
    have zQ:=qh hres
    clear hres
    have yY:=zm0.out
    have yQ:=qh yY
    clear yY
    obtain⟨⟨a0,a1,a2⟩,⟨q0,q1,q2⟩,⟨f0,f1,f2⟩,hset,hsn,hbe⟩:=yG.out X24 bad yQ.out.own.box yQ.out.own.below
    have zG:=qh hset
    have xK:=qh hsn
    have yD:=qh hbe
    clear hset hsn hbe
    go_wp2_with fail
    (try simp only [Exit.inBlock,Exit.then])
    refine bodyPost_ret (zy rfl _ _ (gx+3) 30 _ (0,0) _ rfl zG.out Tryz.underlying30 rfl zH) rfl ?_
    exact⟨qJ zQ.out (uI.out _ _ _ _ _ _ _ yQ.out xK.out),yD.out⟩
   |false=>
   have hb0:¬bf.length=0:=by rw [<-vg.out];exact of_decide_eq_false HEM.out.symm
   have HB0:=qh hb0
   clear hb0
   have hres:R=none:=by
    rw [jL.out,gH xP.out.symm]
    rw [if_neg HB0.out]
    rfl
   have zQ:=qh hres
   clear hres
   have yY:=zm0.out
   have yQ:=qh yY
   clear yY
   obtain⟨⟨a0,a1,a2⟩,⟨q0,q1,q2⟩,⟨f0,f1,f2⟩,hset,hsn,hbe⟩:=yG.out X24 bad yQ.out.own.box yQ.out.own.below
   have zG:=qh hset
   have xK:=qh hsn
   have yD:=qh hbe
   clear hset hsn hbe
   go_wp2_with fail
   (try simp only [Exit.inBlock,Exit.then])
   refine bodyPost_ret (zy rfl _ _ (gx+3) 30 _ (0,0) _ rfl zG.out Tryz.underlying30 rfl zH) rfl ?_
   exact⟨uH zQ.out,yD.out⟩
 have p8:((op:Int)==8)=false:=by simp [o8]
 by_cases o9:op=9
 ·have vZ:Hid ((9:Int)=x.op):=by rw [Hid, <-xP.out,o9]
  clear xP
  have xP:=vZ
  clear vZ
  have p9:((op:Int)==9)=true:=by simp [o9]
  clear o9
  as_aux_lemma=>
   go_upto_region 42 with fail
   have hbx:=yT.out.own.box
   have g2:=ze hbx 2
   have h2:=zA hbx 2
   clear hbx
   cases bad with
   |true=>
    have zsh:=qh (yT.out.isBad true)
    go_upto_region 48 with fail
    clear g2 h2
    generalize World.setCell X4 _ _=X25 at zsh ⊢
    have hres:R=some ⟨ts1,mem,true⟩:=by
     rw [jL.out,kT xP.out.symm]
     rw [HT1.out]
     rfl
    have zQ:=qh hres
    clear hres
    have yY:=zsh.out
    have yQ:=qh yY
    clear yY
    obtain⟨⟨a0,a1,a2⟩,⟨q0,q1,q2⟩,⟨f0,f1,f2⟩,hset,hsn,hbe⟩:=yG.out X25 true yQ.out.own.box yQ.out.own.below
    have zG:=qh hset
    have xK:=qh hsn
    have yD:=qh hbe
    clear hset hsn hbe
    go_wp2_with fail
    (try simp only [Exit.inBlock,Exit.then])
    refine bodyPost_ret (zy rfl _ _ (gx+3) 30 _ (0,0) _ rfl zG.out Tryz.underlying30 rfl zH) rfl ?_
    exact⟨qJ zQ.out (uI.out _ _ _ _ _ _ _ yQ.out xK.out),yD.out⟩
   |false=>
   by_cases ha0:A=0
   rotate_left
   ·have ha1:((A:Int)==0)=false:=by simp [ha0]
    have HA0:=qh ha0
    clear ha0
    have zsi:=qh (yT.out.isBad false)
    go_upto_region 48 with fail
    clear g2 h2
    generalize World.setCell X4 _ _=X27 at zsi ⊢
    have hres:R=some ⟨ts1,mem,false⟩:=by
     rw [jL.out,kT xP.out.symm]
     rw [HT1.out, <-HA.out,decide_eq_false HA0.out]
     rfl
    have zQ:=qh hres
    clear hres
    have yY:=zsi.out
    have yQ:=qh yY
    clear yY
    obtain⟨⟨a0,a1,a2⟩,⟨q0,q1,q2⟩,⟨f0,f1,f2⟩,hset,hsn,hbe⟩:=yG.out X27 false yQ.out.own.box yQ.out.own.below
    have zG:=qh hset
    have xK:=qh hsn
    have yD:=qh hbe
    clear hset hsn hbe
    go_wp2_with fail
    (try simp only [Exit.inBlock,Exit.then])
    refine bodyPost_ret (zy rfl _ _ (gx+3) 30 _ (0,0) _ rfl zG.out Tryz.underlying30 rfl zH) rfl ?_
    exact⟨qJ zQ.out (uI.out _ _ _ _ _ _ _ yQ.out xK.out),yD.out⟩
   have ha1:((A:Int)==0)=true:=by simp [ha0]
   have HA0:=qh ha0
   clear ha0
   have zsj:=qh (yT.out.isBad true)
   go_upto_region 48 with fail
   clear g2 h2
   generalize World.setCell X4 _ _=X26 at zsj ⊢
   have hres:R=some ⟨ts1,mem,true⟩:=by
    rw [jL.out,kT xP.out.symm]
    rw [HT1.out, <-HA.out,decide_eq_true HA0.out]
    rfl
   have zQ:=qh hres
   clear hres
   have yY:=zsj.out
   have yQ:=qh yY
   clear yY
   obtain⟨⟨a0,a1,a2⟩,⟨q0,q1,q2⟩,⟨f0,f1,f2⟩,hset,hsn,hbe⟩:=yG.out X26 true yQ.out.own.box yQ.out.own.below
   have zG:=qh hset
   have xK:=qh hsn
   have yD:=qh hbe
   clear hset hsn hbe
   go_wp2_with fail
   (try simp only [Exit.inBlock,Exit.then])
   refine bodyPost_ret (zy rfl _ _ (gx+3) 30 _ (0,0) _ rfl zG.out Tryz.underlying30 rfl zH) rfl ?_
   exact⟨qJ zQ.out (uI.out _ _ _ _ _ _ _ yQ.out xK.out),yD.out⟩
 have p9:((op:Int)==9)=false:=by simp [o9]
 by_cases o12:op=12
 rotate_left
 ·have p12:((op:Int)==12)=false:=by simp [o12]
  by_cases o13:op=13
  rotate_left
  ·have p13:((op:Int)==13)=false:=by simp [o13]
   as_aux_lemma=>
    go_upto_region 48 with fail
    have hres:R=some ⟨ts1,mem,bad⟩:=by
     rw [jL.out,zbn (by rw [<-xP.out];exact o1) (by rw [<-xP.out];exact o2) (by rw [<-xP.out];exact o3) (by rw [<-xP.out];exact o4) (by rw [<-xP.out];exact o5) (by rw [<-xP.out];exact o6) (by rw [<-xP.out];exact o7) (by rw [<-xP.out];exact o8) (by rw [<-xP.out];exact o9) (by rw [<-xP.out];exact o12) (by rw [<-xP.out];exact o13),HT1.out]
     rfl
    have zQ:=qh hres
    clear hres
    have yY:=yT.out
    have yQ:=qh yY
    clear yY
    obtain⟨⟨a0,a1,a2⟩,⟨q0,q1,q2⟩,⟨f0,f1,f2⟩,hset,hsn,hbe⟩:=yG.out X4 bad yQ.out.own.box yQ.out.own.below
    have zG:=qh hset
    have xK:=qh hsn
    have yD:=qh hbe
    clear hset hsn hbe
    go_wp2_with fail
    (try simp only [Exit.inBlock,Exit.then])
    refine bodyPost_ret (zy rfl _ _ (gx+3) 30 _ (0,0) _ rfl zG.out Tryz.underlying30 rfl zH) rfl ?_
    exact⟨qJ zQ.out (uI.out _ _ _ _ _ _ _ yQ.out xK.out),yD.out⟩
  have vZ:Hid ((13:Int)=x.op):=by rw [Hid, <-xP.out,o13]
  clear xP
  have xP:=vZ
  clear vZ
  have p13:((op:Int)==13)=true:=by simp [o13]
  clear o13
  as_aux_lemma=>
   go_upto_region 47 with fail
   have z11:=ze yT.out.instr 11
   obtain⟨u0,v0⟩:=yT.out.bU HL1.out bV.out bW.out 0 (.int .i64 ((qN:Int)+1)) (by omega) rfl
   rw [Nat.add_zero] at u0 v0
   have zvb:=yT.out.set HL1.out (k:=0) (by omega) (t':=⟨dst, [r0,r1,r2,r3],bf⟩) (u:=(.int .i64 dst)) bV.out bW.out rfl (by simp) rfl
   rw [Nat.add_zero] at zvb
   have zvd:=qh zvb
   clear zvb
   go_upto_region 48 with fail
   clear u0 v0 z11
   generalize World.setCell X4 _ _=X29 at zvd ⊢
   obtain⟨z1x,z1y,z1z,z13⟩:=zvd.out
   have z14:=qh z1x
   have z9I:=qh z1y
   have z9J:=qh z1z
   have zAu:=qh z13
   clear z1x z1y z1z z13 zvd
   have hres:R=some ⟨ts.set i ⟨dst, [r0,r1,r2,r3],bf⟩,mem,bad⟩:=by
    rw [jL.out,zaC xP.out.symm]
    simp only [Option.map_some]
    rw [<-HDS.out]
   have zQ:=qh hres
   clear hres
   have yY:=z14.out
   rw [HSS.out] at yY
   have yQ:=qh yY
   clear yY
   obtain⟨⟨a0,a1,a2⟩,⟨q0,q1,q2⟩,⟨f0,f1,f2⟩,hset,hsn,hbe⟩:=yG.out X29 bad yQ.out.own.box yQ.out.own.below
   have zG:=qh hset
   have xK:=qh hsn
   have yD:=qh hbe
   clear hset hsn hbe
   go_wp2_with fail
   (try simp only [Exit.inBlock,Exit.then])
   refine bodyPost_ret (zy rfl _ _ (gx+3) 30 _ (0,0) _ rfl zG.out Tryz.underlying30 rfl zH) rfl ?_
   exact⟨qJ zQ.out (uI.out _ _ _ _ _ _ _ yQ.out xK.out),yD.out⟩
 have vZ:Hid ((12:Int)=x.op):=by rw [Hid, <-xP.out,o12]
 clear xP
 have xP:=vZ
 clear vZ
 have p12:((op:Int)==12)=true:=by simp [o12]
 clear o12
 as_aux_lemma=>
  go_upto_region 44 with fail
  by_cases ha0:A=0
  rotate_left
  ·have ha1:((A:Int)==0)=false:=by simp [ha0]
   have HA0:=qh ha0
   clear ha0
   go_upto_region 48 with fail
   clear ha1
   have hres:R=some ⟨ts1,mem,bad⟩:=by
    rw [jL.out,gI xP.out.symm]
    rw [<-HA.out,if_neg HA0.out,HT1.out]
    rfl
   have zQ:=qh hres
   clear hres
   have yY:=yT.out
   have yQ:=qh yY
   clear yY
   obtain⟨⟨a0,a1,a2⟩,⟨q0,q1,q2⟩,⟨f0,f1,f2⟩,hset,hsn,hbe⟩:=yG.out X4 bad yQ.out.own.box yQ.out.own.below
   have zG:=qh hset
   have xK:=qh hsn
   have yD:=qh hbe
   clear hset hsn hbe
   go_wp2_with fail
   (try simp only [Exit.inBlock,Exit.then])
   refine bodyPost_ret (zy rfl _ _ (gx+3) 30 _ (0,0) _ rfl zG.out Tryz.underlying30 rfl zH) rfl ?_
   exact⟨qJ zQ.out (uI.out _ _ _ _ _ _ _ yQ.out xK.out),yD.out⟩
  have ha1:((A:Int)==0)=true:=by simp [ha0]
  have HA0:=qh ha0
  clear ha0
  go_upto_region 45 with fail
  clear ha1
  have z11:=ze yT.out.instr 11
  obtain⟨u0,v0⟩:=yT.out.bU HL1.out bV.out bW.out 0 (.int .i64 ((qN:Int)+1)) (by omega) rfl
  rw [Nat.add_zero] at u0 v0
  have zve:=yT.out.set HL1.out (k:=0) (by omega) (t':=⟨dst, [r0,r1,r2,r3],bf⟩) (u:=(.int .i64 dst)) bV.out bW.out rfl (by simp) rfl
  rw [Nat.add_zero] at zve
  have zvf:=qh zve
  clear zve
  go_upto_region 48 with fail
  clear u0 v0 z11
  generalize World.setCell X4 _ _=X28 at zvf ⊢
  obtain⟨z15,z16,z18,z19⟩:=zvf.out
  have z1A:=qh z15
  have z9K:=qh z16
  have z9L:=qh z18
  have zAv:=qh z19
  clear z15 z16 z18 z19 zvf
  have hres:R=some ⟨ts.set i ⟨dst, [r0,r1,r2,r3],bf⟩,mem,bad⟩:=by
   rw [jL.out,gI xP.out.symm]
   rw [<-HA.out,if_pos HA0.out, <-HDS.out]
   rfl
  have zQ:=qh hres
  clear hres
  have yY:=z1A.out
  rw [HSS.out] at yY
  have yQ:=qh yY
  clear yY
  obtain⟨⟨a0,a1,a2⟩,⟨q0,q1,q2⟩,⟨f0,f1,f2⟩,hset,hsn,hbe⟩:=yG.out X28 bad yQ.out.own.box yQ.out.own.below
  have zG:=qh hset
  have xK:=qh hsn
  have yD:=qh hbe
  clear hset hsn hbe
  go_wp2_with fail
  (try simp only [Exit.inBlock,Exit.then])
  refine bodyPost_ret (zy rfl _ _ (gx+3) 30 _ (0,0) _ rfl zG.out Tryz.underlying30 rfl zH) rfl ?_
  exact⟨qJ zQ.out (uI.out _ _ _ _ _ _ _ yQ.out xK.out),yD.out⟩
