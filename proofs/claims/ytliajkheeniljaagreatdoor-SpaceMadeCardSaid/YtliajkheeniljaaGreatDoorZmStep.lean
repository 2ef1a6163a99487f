/- Steps. -/
import Derived.Test.YtliajkheeniljaaGreatDoorZmOwn
import Derived.Test.YtliajkheeniljaaGreatDoorZmStepQ
set_option linter.all false
namespace Go.Proofs.YtliajkheeniljaaGreatDoor
open Go.RowKit
set_option maxRecDepth 100000
set_option maxHeartbeats 16000000
structure vJ (W X:World) (gb gi tb n tc mb mn mc:Nat) (bad:Bool) (ts:List zA) (mem:List Int) (bs:List Value) (wS:List Value):Prop where
 own:vK W X gb (.slice (some ⟨tb,0,none⟩) n tc) (.slice (some ⟨mb,0,none⟩) mn mc) bad ts mem bs
 instr:X.heap[gi]? =some (.cells wS.toArray 64 (0,0))
 g1:gi≠gb
 g2:gi≠tb
 g3:gi≠mb
theorem vJ.below {W X X':World} {gb gi tb n tc mb mn mc:Nat} {bad:Bool} {ts:List zA} {mem:List Int} {bs wS:List Value} (h:vJ W X gb gi tb n tc mb mn mc bad ts mem bs wS) (hb:Below X.heap.size X X'):vJ W X' gb gi tb n tc mb mn mc bad ts mem bs wS:=
 ⟨h.own.later hb,(hb.block _ (zw h.instr)).trans h.instr,h.g1,h.g2,h.g3⟩
theorem vJ.thread {W X:World} {gb gi tb n tc mb mn mc:Nat} {bad:Bool} {ts:List zA} {mem:List Int} {bs wS:List Value} (h:vJ W X gb gi tb n tc mb mn mc bad ts mem bs wS) {i k:Nat} (hi:i<ts.length) (hk:k<6) {t:zA} {b u:Value}
  (hc:t.cells b=((ts.getD i default).cells (bs.getD i (.slice none 0 0))).set k u) (hr:t.regs.length=4) (hb:X.ownsRow W.heap.size 50 2 b t.buf.length (zq zk.cells t.buf)) (hn:∀k,b.ownBlock=some k->k≠tb/\k≠mb/\k≠gb)
  (hd:∀k,b.ownBlock=some k->∀j,j<ts.length->j≠i->(bs.getD j (.slice none 0 0)).ownBlock≠some k):
  vJ W (X.setCell ⟨tb,i*6+k,none⟩ u) gb gi tb n tc mb mn mc bad (ts.set i t) mem (bs.set i b) wS:=
 ⟨h.own.thread hi hk hc hr hb (λk hk=>⟨(hn k hk).1,λe=>(hn k hk).2.1 (by simpa [Value.ownBlock] using e.symm),(hn k hk).2.2⟩) hd,(Below.heap_setCell _ _ _ _ h.g2).trans h.instr,h.g1,h.g2,h.g3⟩
theorem vJ.mem {W X:World} {gb gi tb n tc mb mn mc:Nat} {bad:Bool} {ts:List zA} {mem:List Int} {bs wS:List Value} (h:vJ W X gb gi tb n tc mb mn mc bad ts mem bs wS) (j:Nat) (x:Int):
  vJ W (X.setCell ⟨mb,j,none⟩ (.int .i64 x)) gb gi tb n tc mb mn mc bad ts (mem.set j x) bs wS:=
 ⟨h.own.mem j x,(Below.heap_setCell _ _ _ _ h.g3).trans h.instr,h.g1,h.g2,h.g3⟩
theorem vJ.isBad {W X:World} {gb gi tb n tc mb mn mc:Nat} {bad:Bool} {ts:List zA} {mem:List Int} {bs wS:List Value} (h:vJ W X gb gi tb n tc mb mn mc bad ts mem bs wS) (b:Bool):
  vJ W (X.setCell ⟨gb,2,none⟩ (.bool b)) gb gi tb n tc mb mn mc b ts mem bs wS:=
 ⟨h.own.isBad b,(Below.heap_setCell _ _ _ _ h.g1).trans h.instr,h.g1,h.g2,h.g3⟩
theorem vJ.zpm {W X:World} {gb gi tb n tc mb mn mc:Nat} {bad:Bool} {ts:List zA} {mem:List Int} {bs wS:List Value} (h:vJ W X gb gi tb n tc mb mn mc bad ts mem bs wS) {i:Nat} (hi:i<ts.length):
  ∀k u,k<6->((ts.getD i default).cells (bs.getD i (.slice none 0 0)))[k]? =some u->X.cell? ⟨tb,i*6+k,none⟩=some u/\X.frozen? ⟨tb,i*6+k,none⟩=false:=by
 obtain⟨tb',tc',e, -,h2⟩:=h.own.threads hi
 cases e
 exact h2
theorem vJ.zkz {W X:World} {gb gi tb n tc mb mn mc:Nat} {bad:Bool} {ts:List zA} {mem:List Int} {bs wS:List Value} (h:vJ W X gb gi tb n tc mb mn mc bad ts mem bs wS) {j:Nat} (hj:j<mem.length):
  X.cell? ⟨mb,j,none⟩=some (.int .i64 (mem.getD j 0))/\X.frozen? ⟨mb,j,none⟩=false:=by
 obtain⟨mb',mc',e, -,h2⟩:=h.own.vars (by omega)
 cases e
 exact h2 j hj
theorem vJ.buf {W X:World} {gb gi tb n tc mb mn mc:Nat} {bad:Bool} {ts:List zA} {mem:List Int} {bs wS:List Value} (h:vJ W X gb gi tb n tc mb mn mc bad ts mem bs wS) {i:Nat} (hi:i<ts.length):
  X.ownsRow W.heap.size 50 2 (bs.getD i (.slice none 0 0)) (ts.getD i default).buf.length (zq zk.cells (ts.getD i default).buf)/\∀k,(bs.getD i (.slice none 0 0)).ownBlock=some k->k≠tb/\k≠mb/\k≠gb:=
 ⟨h.own.own.buf i hi,λk hk=>⟨λe=>(h.own.own.ne i hi k hk).1 (by rw [e];rfl),λe=>(h.own.own.ne i hi k hk).2 (by rw [e];rfl),λe=>h.own.n3 i hi (e ▸ hk)⟩⟩
theorem vJ.dist {W X:World} {gb gi tb n tc mb mn mc:Nat} {bad:Bool} {ts:List zA} {mem:List Int} {bs wS:List Value} (h:vJ W X gb gi tb n tc mb mn mc bad ts mem bs wS) {i:Nat} (hi:i<ts.length):
  ∀k,(bs.getD i (.slice none 0 0)).ownBlock=some k->∀j,j<ts.length->j≠i->(bs.getD j (.slice none 0 0)).ownBlock≠some k:=λk hk j hj hji=>h.own.own.one i j hi hj (λe=>hji e.symm) k hk
theorem vJ.set {W X:World} {gb gi tb n tc mb mn mc:Nat} {bad:Bool} {ts:List zA} {mem:List Int} {bs wS:List Value} (h:vJ W X gb gi tb n tc mb mn mc bad ts mem bs wS) {i k:Nat} (hi:i<ts.length) (hk:k<6) {t t':zA} {b u:Value}
  (ht:ts.getD i default=t) (hbs:bs.getD i (.slice none 0 0)=b) (hc:t'.cells b=(t.cells b).set k u) (hr:t'.regs.length=4) (hbf:t'.buf=t.buf):
  vJ W (X.setCell ⟨tb,i*6+k,none⟩ u) gb gi tb n tc mb mn mc bad (ts.set i t') mem (bs.set i b) wS/\(ts.set i t').getD i default=t'/\(bs.set i b).getD i (.slice none 0 0)=b/\i<(ts.set i t').length:=by
 have hl:=h.own.own.len
 have hB:=h.buf hi
 rw [ht,hbs] at hB
 refine⟨h.thread hi hk (by rw [ht,hbs];exact hc) hr (by rw [hbf];exact hB.1) hB.2 (by have:=h.dist hi;rw [hbs] at this;exact this),by rw [qQ hi,if_pos rfl],by rw [qQ (by rw [hl];exact hi),if_pos rfl],by rw [List.length_set];exact hi⟩
theorem vJ.bQ {W X:World} {gb gi tb n tc mb mn mc:Nat} {bad:Bool} {ts:List zA} {mem:List Int} {bs wS:List Value} (h:vJ W X gb gi tb n tc mb mn mc bad ts mem bs wS) {i:Nat} (hi:i<ts.length) {t:zA} {b:Value}
  (ht:ts.getD i default=t) (hbs:bs.getD i (.slice none 0 0)=b):∀k u,k<6->(t.cells b)[k]? =some u->X.cell? ⟨tb,i*6+k,none⟩=some u/\X.frozen? ⟨tb,i*6+k,none⟩=false:=by
 have:=h.zpm hi
 rw [ht,hbs] at this
 exact this
theorem zbS {pc r0 r1 r2 r3 v:Int} {bf:List zk} {b:Value} {k:Nat} (hk:k<4):(⟨pc, [r0,r1,r2,r3].set k v,bf⟩:zA).cells b=((⟨pc, [r0,r1,r2,r3],bf⟩:zA).cells b).set (1+k) (.int .i64 v):=by
 have:k=0\/k=1\/k=2\/k=3:=by omega
 rcases this with rfl|rfl|rfl|rfl<;>rfl
theorem zes {pc r0 r1 r2 r3:Int} {bf:List zk} {b:Value} {k:Nat} (hk:k<4):((⟨pc, [r0,r1,r2,r3],bf⟩:zA).cells b)[1+k]? =some (.int .i64 ([r0,r1,r2,r3].getD k 0)):=by
 have:k=0\/k=1\/k=2\/k=3:=by omega
 rcases this with rfl|rfl|rfl|rfl<;>rfl
theorem zr4 {pc r0 r1 r2 r3:Int} {bf:List zk} {b:Value} {k:Nat} (hk:k<4):((⟨pc, [r0,r1,r2,r3].set k 0,bf⟩:zA).cells b)[1+k]? =some (.int .i64 ([0,0,0,0].getD k 0)):=by
 have:k=0\/k=1\/k=2\/k=3:=by omega
 rcases this with rfl|rfl|rfl|rfl<;>rfl
theorem zmL {pc r0 r1 r2 r3:Int} {bf:List zk} {b:Value} {k:Nat} (hk:k<4):(⟨pc, [r0,r1,r2,r3].set k 1,bf⟩:zA).cells b=((⟨pc, [r0,r1,r2,r3].set k 0,bf⟩:zA).cells b).set (1+k) (.int .i64 1):=by
 have:k=0\/k=1\/k=2\/k=3:=by omega
 rcases this with rfl|rfl|rfl|rfl<;>rfl
theorem uE {R:Option zl} {xa ya:Option Addr} {xn xc yn yc B:Nat} {b:Bool} {X:World} (h:R=none):∃xa' xn' xc' ya' yn' yc' s',Ending.returned (.tuple #[.agg #[.slice xa xn xc, .slice ya yn yc, .bool b], .bool false])= .returned (.tuple #[yF s' (.slice xa' xn' xc') (.slice ya' yn' yc'), .bool R.isSome])/\∀t,R=some t->s'=t/\∃bs,OwnAt B X (.slice xa' xn' xc') (.slice ya' yn' yc') t.threads t.mem bs:=
 ⟨xa,xn,xc,ya,yn,yc,⟨[], [],b⟩,by rw [h];rfl,λt e=>by rw [h] at e;cases e⟩
theorem qJ {R:Option zl} {xa ya:Option Addr} {xn xc yn yc B:Nat} {s:zl} {bs:List Value} {X:World} (h:R=some s) (hs:OwnAt B X (.slice xa xn xc) (.slice ya yn yc) s.threads s.mem bs):∃xa' xn' xc' ya' yn' yc' s',Ending.returned (.tuple #[.agg #[.slice xa xn xc, .slice ya yn yc, .bool s.bad], .bool true])= .returned (.tuple #[yF s' (.slice xa' xn' xc') (.slice ya' yn' yc'), .bool R.isSome])/\∀t,R=some t->s'=t/\∃bs,OwnAt B X (.slice xa' xn' xc') (.slice ya' yn' yc') t.threads t.mem bs:=
 ⟨xa,xn,xc,ya,yn,yc,s,by rw [h];rfl,λt e=>by rw [h] at e;cases e;exact⟨rfl,bs,hs⟩⟩
theorem kT.zxa {e t:TypeId} {size:Nat} {V X:World} {v:Value} {n:Nat} {xs:List Value} {bs:List (Nat × List Value)} (h:kT e size t V X v n xs bs) {g:Nat} {cs:List Value} (hb:(g,cs)∈bs) (l:List Value) (hl:cs.length=l.length):
  Below V.heap.size V (yG X g 0 l)/\(yG X g 0 l).heap[g]? =some (.cells l.toArray t (0,0))/\V.heap.size<=g:=by
 obtain⟨h1, -,h3⟩:=h.news _ hb
 exact⟨h.below.trans ((qj l X 0).below h.below.size (λk e=>by omega)),vZ l hl h1,h3⟩
theorem zl0 (w:World) (c:zO) (cv:Value) (d:Nat) (hc:yT d w cv c.threads) (m:zH) (s:zl) (sv mv:Value) (hs:yj w s sv mv) (hfit:yJ c m s=true) (i:Nat) (hi:i<s.threads.length) (hb:∀j,j<s.threads.length->(s.threads.getD j default).buf.length<=100000):
  Calls Tryz.prog 62 #[yK c cv,xB m,yF s sv mv, .int .i64 i] w λe w'=>(∃xa xn xc ya yn yc s',e= .returned (.tuple #[yF s' (.slice xa xn xc) (.slice ya yn yc), .bool (jZ c m s i d).isSome])/\∀t,jZ c m s i d=some t->s'=t/\∃bs,OwnAt w.heap.size w' (.slice xa xn xc) (.slice ya yn yc) t.threads t.mem bs)/\Below w.heap.size w w':=by
 obtain⟨hcode,hmay,hlen,hmem,zl2⟩:=pI hfit
 have hbd:=xS hcode
 obtain⟨zfx,zlE⟩:=zl2 i hi
 have hins:=λk (hk:k<(c.threads.getD i []).length)=>zii hcode (i:=i) (k:=k) (by rw [<-hlen];exact hi) hk
 clear hcode hmay zl2 hfit
 obtain⟨ca,cc,rfl, -⟩:=zh.slice hc
 obtain⟨ta,jr,rfl, -⟩:=zh.slice hs.threads
 obtain⟨ma,vP,rfl, -⟩:=zh.slice hs.mem
 have hown:=λW hW=>zns W s (.slice ta s.threads.length jr) (.slice ma s.mem.length vP) hW (by omega) (by omega) (λj hj=>by have:=hb j hj;omega)
 obtain⟨R,hR⟩:∃R,R=jZ c m s i d:=⟨_,rfl⟩
 rw [<-hR]
 obtain⟨l,hl⟩:∃l,l=c.threads.getD i [] :=⟨_,rfl⟩
 obtain⟨t,ht⟩:∃t,t=s.threads.getD i default:=⟨_,rfl⟩
 have hR2:R=if t.pc<(l.length:Int) then(stepT c m s t (l.getD t.pc.toNat default) d).map (λr=>⟨s.threads.set i r.1,r.2.1,r.2.2⟩) else none:=by rw [hR,hl,ht];rfl
 rw [<-ht] at zfx zlE
 rw [<-hl] at zlE hins
 have HST:Hid (∀x,stepT c m s t x d=stepT c m s t x d):=λ_=>rfl
 obtain⟨C,hC⟩:∃C,C=c:=⟨_,rfl⟩
 obtain⟨M,hM⟩:∃M,M=m:=⟨_,rfl⟩
 obtain⟨S,hS⟩:∃S,S=s:=⟨_,rfl⟩
 rw [<-hC, <-hM, <-hS] at hR2
 clear HST
 have HRR:=qh hR2
 have hT:=hs.threads
 have hME:=hs.mem
 obtain⟨vars,dom,cs⟩:=c
 obtain⟨mod,bnd⟩:=m
 obtain⟨ts,mem,bad⟩:=s
 simp only [] at hc hs hi hb hlen hmem hbd hl ht hT hME hown hins zfx zlE hR2 ⊢
 unfold yK xB yF
 unfold yF at hown
 simp only [] at hown ⊢
 obtain⟨n,hn⟩:∃n,n=ts.length:=⟨_,rfl⟩
 obtain⟨cn,hcn⟩:∃cn,cn=cs.length:=⟨_,rfl⟩
 obtain⟨mn,hmn⟩:∃mn,mn=mem.length:=⟨_,rfl⟩
 rw [<-hn] at hT hown hi hb hlen ⊢
 rw [<-hmn] at hME hown hmem ⊢
 rw [<-hcn] at hc hlen hbd ⊢
 rw [<-hn, <-hmn] at hs
 have jE:=qh hlen
 have HME:=qh hmem
 have HC:=qh hC
 have HM:=qh hM
 have HS:=qh hS
 have HL:=qh hl
 have HT:=qh ht
 have HN:=qh hn
 have HCN:=qh hcn
 have vO:=qh hmn
 have HBU:=qh hb
 have zzv:=qh hins
 have HOWN:=qh hown
 have hB4:=zcv w (.cells #[.int .i64 vars, .int .i64 dom, .slice ca cn cc] 24) (.cells #[.int .i64 mod, .int .i64 bnd] 26) (.cells #[.slice ta n jr, .slice ma mn vP, .bool bad] 30) (.cells #[.slice none 0 0, .slice none 0 0, .bool false] 30)
 obtain⟨hB,h1,h2,h3,h4,h5⟩:=hB4
 have HB:=qh hB
 have H1:=qh h1
 have H2:=qh h2
 have H3:=qh h3
 have H4:=qh h4
 have H5:=qh h5
 have kQ:=qh (zh.below (xY.stays d) hc hB)
 have HSW:=qh (yj.below hs hB)
 have zdT:=qh (zh.below uq.stays hME hB)
 have z5d:=qh hME
 have z5e:=qh h5
 clear hlen hmem hC hM hS hl ht hn hcn hmn hb hins hown hB h1 h2 h3 h4 h5 hT hME hc hs hR hR2
 go_enter Tryz.func62,Tryz.ntmps62
 go_upto_region 1 with fail
 generalize World.alloc (World.alloc (World.alloc (World.alloc w _) _) _) _=W at HB H1 H2 H3 H4 H5 kQ HSW zdT z5e ⊢
 obtain⟨gx,hgx⟩:∃gx,gx=w.heap.size:=⟨_,rfl⟩
 rw [<-hgx] at H1 H2 H3 H4 H5 ⊢
 have yS:=qh hgx
 clear hgx
 have qg:Hid (∀x,Below W.heap.size W x->x.cell? ⟨gx,0,none⟩=some (.int .i64 vars)/\x.cell? ⟨gx,1,none⟩=some (.int .i64 dom)/\x.cell? ⟨gx,2,none⟩=some (.slice ca cn cc)/\
   x.cell? ⟨gx+1,0,none⟩=some (.int .i64 mod)/\x.cell? ⟨gx+1,1,none⟩=some (.int .i64 bnd)/\x.cell? ⟨gx+2,0,none⟩=some (.slice ta n jr)/\x.cell? ⟨gx+2,1,none⟩=some (.slice ma mn vP)/\x.cell? ⟨gx+2,2,none⟩=some (.bool bad)):=λx hx=>
  ⟨zi hx _ _ (ze H1.out 0),zi hx _ _ (ze H1.out 1),zi hx _ _ (ze H1.out 2),zi hx _ _ (ze H2.out 0),zi hx _ _ (ze H2.out 1),zi hx _ _ (ze H3.out 0),zi hx _ _ (ze H3.out 1),zi hx _ _ (ze H3.out 2)⟩
 obtain⟨c0,c1,c2,c3,c4,c5,c6,c7⟩:=qg.out W (Below.refl _ _)
 go_upto_region 2 with(go_at_call 64;refine(HOWN.out W HSW.out).mono ?_;rintro e W1 ⟨⟨tv1,mv1,bs,rfl,ho1⟩,hb1⟩;have HO1:=qh ho1;have HB1:=qh hb1;obtain⟨xa,xc,rfl, -, -⟩:=xC ho1.row;obtain⟨ya,yc,rfl, -, -⟩:=xC ho1.mem;clear ho1 hb1)
 rw [<-HN.out, <-vO.out]
 have z9l:1<=vars:=hbd.1
 have z8J:2<=dom:=hbd.2.2.1
 have z8K:dom<=16:=hbd.2.2.2.1
 have bL:n<=4:=by have:=hbd.2.2.2.2.2;have:=jE.out;omega
 have z5f:mn<=4/\1<=mn:=by have:=hbd.2.1;have:=HME.out;omega
 clear c0 c1 c2 c3 c4 c5 c6 c7 hbd
 have hol:=vK.zpZ HO1.out HB1.out bad
 rw [<-HN.out, <-vO.out] at hol
 have HOL:=qh hol
 clear hol
 generalize World.alloc W1 _=X0 at HOL ⊢
 obtain⟨gb,hgb⟩:∃gb,gb=W1.heap.size:=⟨_,rfl⟩
 rw [<-hgb] at HOL ⊢
 clear hgb HO1 HB1 HOWN
 obtain⟨tb,tc,hxa, -,htc⟩:=HOL.out.threads (by rw [<-HN.out];exact hi)
 rw [<-HN.out] at hxa
 cases hxa
 obtain⟨mb,mc,hya, -,hmc⟩:=HOL.out.vars (by rw [<-vO.out];omega)
 rw [<-vO.out] at hya
 cases hya
 have hr4:=HOL.out.own.regs i (by rw [<-HN.out];exact hi)
 obtain⟨bv,hbv⟩:∃bv,bv=bs.getD i (.slice none 0 0):=⟨_,rfl⟩
 have hbuf:=(HOL.out.own.buf i (by rw [<-HN.out];exact hi))
 have hbl:=HBU.out i hi
 rw [<-HT.out] at hr4 htc hbuf hbl
 rw [<-hbv] at htc hbuf
 obtain⟨ba,bc,rfl, -, -⟩:=xC hbuf
 obtain⟨pc,rg,bf⟩:=t
 obtain⟨r0,r1,r2,r3,rfl⟩:=kR hr4
 simp only [] at zfx zlE htc hbuf hbl HRR
 obtain⟨bl,kC⟩:∃bl,bl=bf.length:=⟨_,rfl⟩
 rw [<-kC] at htc hbuf hbl hbv
 obtain⟨qM,rfl⟩:∃qM:Nat,pc=qM:=⟨pc.toNat,by omega⟩
 have qZ:=qh kC
 have HBV:=qh hbv
 have HTC:Hid (∀k u,k<6-> [Value.int .i64 qM, .int .i64 r0, .int .i64 r1, .int .i64 r2, .int .i64 r3, .slice ba bl bc][k]? =some u->X0.cell? ⟨tb,i*6+k,none⟩=some u/\X0.frozen? ⟨tb,i*6+k,none⟩=false):=by
  have e:(⟨(qM:Int), [r0,r1,r2,r3],bf⟩:zA).cells (.slice ba bl bc)= [Value.int .i64 qM, .int .i64 r0, .int .i64 r1, .int .i64 r2, .int .i64 r3, .slice ba bl bc] :=rfl
  rw [<-e];exact htc
 clear kC hbv hbuf htc hr4 hmc zfx
 obtain⟨ln,hln⟩:∃ln,ln=l.length:=⟨_,rfl⟩
 rw [<-hln] at zlE HRR
 obtain⟨eb,eo,ka,kc,zZ, -,hec,hel⟩:=yT.part kQ.out i (by rw [<-HCN.out, <-jE.out];exact hi)
 rw [<-HL.out, <-hln] at hec hel
 subst zZ
 have ztZ:=qh hln
 clear hln
 have HEL:=qh hel
 have HEC:Hid (∀x,Below W.heap.size W x->x.cell? ⟨eb,eo+i,none⟩=some (.slice ka ln kc)):=λx hx=>zi hx _ _ hec
 clear hel hec
 have z9m:(i:Int)<(cn:Int):=by have:=jE.out;omega
 obtain⟨c0,c1,c2,c3,c4,c5,c6,c7⟩:=qg.out X0 HOL.out.below
 have e0:=HEC.out X0 HOL.out.below
 have t0:=(HTC.out 0 _ (by omega) rfl).1
 rw [Nat.add_zero] at t0
 have b0:=ze HOL.out.box 0
 by_cases hp:qM<ln
 rotate_left
 ·have hpN:(ln:Int)<=(qM:Int):=by omega
  have hres:R=none:=by rw [HRR.out,if_neg (by omega)]
  have zP:=qh hres
  clear hres
  go_upto_region 3 with fail
  go_quiet (fail)
  go_upto_region 4 with fail
  generalize hX9:World.drewN X0 _=X9
  have hb9:Below X0.heap.size X0 X9:=by rw [<-hX9];exact yg (Below.refl _ _) _
  clear hX9 c0 c1 c2 c3 c4 c5 c6 c7 e0 t0 b0
  have hbw:=zF HOL.out.below hb9
  have kr:=qh hbw
  obtain⟨c0,c1,c2,c3,c4,c5,c6,c7⟩:=qg.out X9 hbw
  have hr:=(hbw.block _ (zw H4.out)).trans H4.out
  have q0:=ze hr 0
  have q1:=ze hr 1
  have q2:=ze hr 2
  have f0:=zB hr 0
  have f1:=zB hr 1
  have f2:=zB hr 2
  have hset:=zu (zu (zu hr 0 (.slice ta n jr)) 1 (.slice ma mn vP)) 2 (.bool bad)
  simp only [List.setIfInBounds_toArray,List.set_cons_zero,List.set_cons_succ] at hset
  have hS:Since (λk=>k=gx+3) X9 (((X9.setCell ⟨gx+3,0,none⟩ (.slice ta n jr)).setCell ⟨gx+3,1,none⟩ (.slice ma mn vP)).setCell ⟨gx+3,2,none⟩ (.bool bad)):=Since.setCell (F:=λk=>k=gx+3) (p:=⟨gx+3,2,none⟩) (Since.setCell (F:=λk=>k=gx+3) (p:=⟨gx+3,1,none⟩) (Since.setCell (F:=λk=>k=gx+3) (p:=⟨gx+3,0,none⟩) (Since.refl _ X9) (.inl rfl) _) (.inl rfl) _) (.inl rfl) _
  have zG:=qh hset
  have xK:=qh hS
  clear hr hset hS hb9 hbw
  go_wp2_with fail
  (try simp only [Exit.inBlock,Exit.then])
  refine bodyPost_ret (zy rfl _ _ (gx+3) 30 _ (0,0) _ rfl zG.out Tryz.underlying30 rfl zI) rfl ?_
  exact⟨uE zP.out,(HB.out.trans (kr.out.mono HB.out.size)).trans (xK.out.below (by have:=HB.out.size;have:=kr.out.size;omega) (λk e=>by have:=yS.out;omega))⟩
 have hpI:(qM:Int)<(ln:Int):=by omega
 have hpN:¬(ln:Int)<=(qM:Int):=by omega
 go_upto_region 3 with fail
 go_quiet (fail)
 go_upto_region 5 with fail
 generalize hX9:World.drewN X0 _=X9
 have hb9:Below X0.heap.size X0 X9:=by rw [<-hX9];exact yg (Below.refl _ _) _
 clear hX9 c0 c1 c2 c3 c4 c5 c6 c7 e0 t0 b0
 have zha:=qh (HOL.out.later hb9)
 have zja:Hid (∀k u,k<6-> [Value.int .i64 qM, .int .i64 r0, .int .i64 r1, .int .i64 r2, .int .i64 r3, .slice ba bl bc][k]? =some u->∀x,Below X9.heap.size X9 x->x.cell? ⟨tb,i*6+k,none⟩=some u):=λk u hk hu x hx=>zi (zF hb9 hx) _ _ (HTC.out k u hk hu).1
 clear HTC
 have kr:=qh hb9
 clear hb9
 obtain⟨fb,fo,aa,ac,xba,xbc,hka, -,⟨x0,x1,x2⟩,⟨x3,x4,x5,x6⟩,⟨x7,x8,x9,x10⟩,wZ,xa,xb⟩:=wV.part HEL.out qM (by rw [<-ztZ.out];exact hp)
 subst hka
 obtain⟨x,hx⟩:∃x,x=l.getD qM default:=⟨_,rfl⟩
 rw [<-hx] at x0 x1 x2 x3 x4 x5 x6 x7 x8 x9 x10 wZ xa xb
 have hins:=zzv.out qM (by rw [<-ztZ.out];exact hp)
 rw [<-hx, <-ztZ.out] at hins
 obtain⟨z9n,hrg0,zb6,z5g,zzx⟩:=hins
 rw [<-HME.out] at zzx
 have hr5:=HRR.out
 rw [if_pos hpI,show((qM:Int)).toNat=qM from rfl, <-hx] at hr5
 have HR5:=qh hr5
 clear hr5 HRR zzv hx
 obtain⟨op,hop⟩:∃v,v=x.op:=⟨_,rfl⟩
 obtain⟨wH,zua⟩:∃v:Nat,(v:Int)=x.reg:=⟨x.reg.toNat,by omega⟩
 obtain⟨vR,zue⟩:∃v:Nat,(v:Int)=x.var:=⟨x.var.toNat,by omega⟩
 obtain⟨dst,hdst⟩:∃v,v=x.dest:=⟨_,rfl⟩
 obtain⟨ak,hak⟩:∃v,v=x.a.kind:=⟨_,rfl⟩
 obtain⟨an,han⟩:∃v,v=x.a.n:=⟨_,rfl⟩
 obtain⟨ao,hao⟩:∃v,v=x.a.op:=⟨_,rfl⟩
 obtain⟨al,hal⟩:∃v,v=x.a.kids.length:=⟨_,rfl⟩
 obtain⟨bk,hbk⟩:∃v,v=x.b.kind:=⟨_,rfl⟩
 obtain⟨bn,hbn⟩:∃v,v=x.b.n:=⟨_,rfl⟩
 obtain⟨bo,hbo⟩:∃v,v=x.b.op:=⟨_,rfl⟩
 obtain⟨bkl,zuf⟩:∃v,v=x.b.kids.length:=⟨_,rfl⟩
 obtain⟨A,hA⟩:∃v,v=yw [r0,r1,r2,r3] dom d x.a:=⟨_,rfl⟩
 obtain⟨B,hBB⟩:∃v,v=yw [r0,r1,r2,r3] dom d x.b:=⟨_,rfl⟩
 have zz0:Hid (∀X,Below W.heap.size W X->Calls Tryz.prog 90 #[.agg #[.int .i64 ak, .int .i64 an, .int .u8 ao, .slice aa al ac], .agg #[.int .i64 r0, .int .i64 r1, .int .i64 r2, .int .i64 r3], .int .i64 dom] X λe w'=>e= .returned (.int .i64 A)/\Below X.heap.size X w'):=λX hX=>by
  rw [hak,han,hao,hal,hA];exact zlF r0 r1 r2 r3 dom (by omega) (by omega) d X x.a _ (xa.below hX)
 have zz1:Hid (∀X,Below W.heap.size W X->Calls Tryz.prog 90 #[.agg #[.int .i64 bk, .int .i64 bn, .int .u8 bo, .slice xba bkl xbc], .agg #[.int .i64 r0, .int .i64 r1, .int .i64 r2, .int .i64 r3], .int .i64 dom] X λe w'=>e= .returned (.int .i64 B)/\Below X.heap.size X w'):=λX hX=>by
  rw [hbk,hbn,hbo,zuf,hBB];exact zlF r0 r1 r2 r3 dom (by omega) (by omega) d X x.b _ (xb.below hX)
 rw [<-hop] at x0
 rw [<-zua] at x1 zb6
 have zb6:wH<4:=by omega
 rw [<-zue] at x2 zzx
 rw [<-hak] at x3
 rw [<-han] at x4
 rw [<-hao] at x5
 rw [<-hal] at x6
 rw [<-hbk] at x7
 rw [<-hbn] at x8
 rw [<-hbo] at x9
 rw [<-zuf] at x10
 rw [<-hdst] at wZ
 have xO:=qh hop
 have HRG:=qh zua
 have HVR:=qh zue
 have HDS:=qh hdst
 have HA:=qh hA
 have yB:=qh hBB
 clear hop zua zue hdst hak han hao hal hbk hbn hbo zuf hA hBB xa xb hrg0 z5g
 have C5:Hid (∀y,Below X9.heap.size X9 y->y.cell? ⟨gx,2,none⟩=some (.slice (some ⟨eb,eo,none⟩) cn cc)/\y.cell? ⟨eb,eo+i,none⟩=some (.slice (some ⟨fb,fo,none⟩) ln kc)/\y.cell? ⟨tb,i*6,none⟩=some (.int .i64 qM)/\
   y.cell? ⟨fb,fo+qM*12,none⟩=some (.int .i64 op)/\y.cell? ⟨fb,fo+qM*12+1,none⟩=some (.int .i64 wH)/\y.cell? ⟨fb,fo+qM*12+2,none⟩=some (.int .i64 vR)/\
   y.cell? ⟨fb,fo+qM*12+3,none⟩=some (.int .i64 ak)/\y.cell? ⟨fb,fo+qM*12+4,none⟩=some (.int .i64 an)/\y.cell? ⟨fb,fo+qM*12+5,none⟩=some (.int .u8 ao)/\y.cell? ⟨fb,fo+qM*12+6,none⟩=some (.slice aa al ac)/\
   y.cell? ⟨fb,fo+qM*12+7,none⟩=some (.int .i64 bk)/\y.cell? ⟨fb,fo+qM*12+8,none⟩=some (.int .i64 bn)/\y.cell? ⟨fb,fo+qM*12+9,none⟩=some (.int .u8 bo)/\y.cell? ⟨fb,fo+qM*12+10,none⟩=some (.slice xba bkl xbc)/\y.cell? ⟨fb,fo+qM*12+11,none⟩=some (.int .i64 dst)):=λy hy=>
  have hw:=zF zha.out.below hy
  have k2:=λp v h=>zi hw p v h
  ⟨(qg.out y hw).2.2.1,HEC.out y hw,zja.out 0 _ (by omega) rfl y hy,k2 _ _ x0,k2 _ _ x1,k2 _ _ x2,k2 _ _ x3,k2 _ _ x4,k2 _ _ x5,k2 _ _ x6,k2 _ _ x7,k2 _ _ x8,k2 _ _ x9,k2 _ _ x10,k2 _ _ wZ⟩
 clear x0 x1 x2 x3 x4 x5 x6 x7 x8 x9 x10 wZ
 have h0:=kT.start 3 1 64 X9
 have hT0:=qh h0.drew
 clear h0
 refine qL (S:=λx=>Below X9.heap.size X9 x) (Below.refl _ _).drew (λ_=> ?_)
 obtain⟨wd,hwd⟩:∃wd,wd=X9.drew:=⟨_,rfl⟩
 rw [<-hwd] at hT0 ⊢
 clear hwd
 refine zD 0 zQ (hT0.out.below) ?_
 refine zD 1 C5.out (hT0.out.below) ?_
 refine zD 2 zQ (hT0.out.below) ?_
 refine zD 3 zQ (hT0.out.below) ?_
 refine zD 4 C5.out (hT0.out.below) ?_
 refine zD 5 zQ (hT0.out.below) ?_
 refine zD 6 zQ (hT0.out.below) ?_
 refine zD 7 zQ (hT0.out.below) ?_
 refine zD 8 C5.out (hT0.out.below) ?_
 refine zD 9 zQ (hT0.out.below) ?_
 refine zD 10 C5.out (hT0.out.below) ?_
 refine yu 11 rfl (λK hK=> ?_)
 go_simp
 have vM:=hT0.out.alloc [.int .i64 0, .int .i64 0, .int .i64 0, .int .i64 0, .int .i64 0, .int .u8 0, .slice none 0 0, .int .i64 0, .int .i64 0, .int .u8 0, .slice none 0 0, .int .i64 0]
 refine hK.out _ _ vM.below (λ_=> ?_)
 obtain⟨gi,hgi⟩:∃n,n=wd.heap.size:=⟨_,rfl⟩
 rw [<-hgi] at vM ⊢
 clear hgi
 generalize World.alloc wd _=Xq2 at vM ⊢
 replace vM:=qh vM
 clear hK K
 refine yu 12 rfl (λK hK=> ?_)
 have hb1:=vM.out.zxa (g:=gi) (cs:= [.int .i64 0, .int .i64 0, .int .i64 0, .int .i64 0, .int .i64 0, .int .u8 0, .slice none 0 0, .int .i64 0, .int .i64 0, .int .u8 0, .slice none 0 0, .int .i64 0]) (by simp) [.int .i64 op, .int .i64 wH, .int .i64 vR, .int .i64 ak, .int .i64 an, .int .u8 ao, .slice aa al ac, .int .i64 bk, .int .i64 bn, .int .u8 bo, .slice xba bkl xbc, .int .i64 dst] rfl
 obtain⟨hn, -, -⟩:=vM.out.news (gi, [.int .i64 0, .int .i64 0, .int .i64 0, .int .i64 0, .int .i64 0, .int .u8 0, .slice none 0 0, .int .i64 0, .int .i64 0, .int .u8 0, .slice none 0 0, .int .i64 0]) (by simp)
 have d0:=ze hn 0
 have f0:=zB hn 0
 have d1:=ze hn 1
 have f1:=zB hn 1
 have d2:=ze hn 2
 have f2:=zB hn 2
 have d3:=ze hn 3
 have f3:=zB hn 3
 have d4:=ze hn 4
 have f4:=zB hn 4
 have d5:=ze hn 5
 have f5:=zB hn 5
 have d6:=ze hn 6
 have f6:=zB hn 6
 have d7:=ze hn 7
 have f7:=zB hn 7
 have d8:=ze hn 8
 have f8:=zB hn 8
 have d9:=ze hn 9
 have f9:=zB hn 9
 have d10:=ze hn 10
 have f10:=zB hn 10
 have d11:=ze hn 11
 have f11:=zB hn 11
 clear hn
 have qV:=qh hb1
 clear hb1
 go_simp
 clear d0 f0 d1 f1 d2 f2 d3 f3 d4 f4 d5 f5 d6 f6 d7 f7 d8 f8 d9 f9 d10 f10 d11 f11
 refine hK.out _ (yG Xq2 gi 0 [.int .i64 op, .int .i64 wH, .int .i64 vR, .int .i64 ak, .int .i64 an, .int .u8 ao, .slice aa al ac, .int .i64 bk, .int .i64 bn, .int .u8 bo, .slice xba bkl xbc, .int .i64 dst]) qV.out.1 (λ_=> ?_)
 generalize yG Xq2 gi 0 _=X1 at qV ⊢
 clear hK K
 refine xJ ?_
 have hgi:=qV.out.2.2
 have yX:vJ W X1 gb gi tb n xc mb mn yc bad ts mem bs [.int .i64 op, .int .i64 wH, .int .i64 vR, .int .i64 ak, .int .i64 an, .int .u8 ao, .slice aa al ac, .int .i64 bk, .int .i64 bn, .int .u8 bo, .slice xba bkl xbc, .int .i64 dst] :=
  ⟨zha.out.later qV.out.1,qV.out.2.1,λe=>by have:=zw zha.out.box;omega,λe=>by have:=(zha.out.own.row.lt tb rfl).2;omega,λe=>by have:=(zha.out.own.mem.lt mb rfl).2;omega⟩
 have zet:=qh yX
 clear hgi yX C5
 have zug:Hid (∀y,Below X1.heap.size X1 y->y.cell? ⟨tb,i*6+1,none⟩=some (.int .i64 r0)/\y.cell? ⟨tb,i*6+2,none⟩=some (.int .i64 r1)/\y.cell? ⟨tb,i*6+3,none⟩=some (.int .i64 r2)/\y.cell? ⟨tb,i*6+4,none⟩=some (.int .i64 r3)):=λy hy=>
  have h:=zF qV.out.1 hy
  ⟨zja.out 1 _ (by omega) rfl y h,zja.out 2 _ (by omega) rfl y h,zja.out 3 _ (by omega) rfl y h,zja.out 4 _ (by omega) rfl y h⟩
 have HB1:=qh zet.out.own.below
 have zz2:¬gi=gx+3:=λe=>by
  have h1:=zw H4.out
  have h2:=qV.out.2.2
  have h3:=zha.out.below.size
  omega
 have HGI:=qh zz2
 clear zz2
 go_upto_region 6 with fail
 obtain⟨t1,t2,t3,t4⟩:=zug.out X1 (Below.refl _ _)
 have z3:=ze zet.out.instr 3
 have z4:=ze zet.out.instr 4
 have z5:=ze zet.out.instr 5
 have z6:=ze zet.out.instr 6
 have c1:=(qg.out X1 HB1.out).2.1
 refine wp_region_still_tail 8 (by kernel_rfl) (by kernel_rfl) ?_
 simp only [List.take_succ_cons,List.take_zero,List.drop_succ_cons,List.drop_zero]
 repeat still_step
 try refine wpStill_nil ?_
 change wpList _ _ _ _ _ X1.drew
 obtain⟨wd,hwd⟩:∃wd,wd=X1.drew:=⟨_,rfl⟩
 rw [<-hwd]
 have gU:Hid (Below X1.heap.size X1 wd):=by rw [Hid,hwd];exact(Below.refl _ _).drew
 clear hwd t1 t2 t3 t4 z3 z4 z5 z6 c1
 go_upto_region 7 with(go_at_call 90;refine(zz0.out wd (zF HB1.out gU.out)).mono ?_;rintro e X2 ⟨rfl,hb⟩;have HB2:=qh (zF gU.out hb);clear hb)
 have zcW:=qh (zet.out.below HB2.out)
 clear gU
 obtain⟨t1,t2,t3,t4⟩:=zug.out X2 HB2.out
 have z7:=ze zcW.out.instr 7
 have z8:=ze zcW.out.instr 8
 have z9:=ze zcW.out.instr 9
 have z10:=ze zcW.out.instr 10
 have c1:=(qg.out X2 zcW.out.own.below).2.1
 refine wp_region_still_tail 8 (by kernel_rfl) (by kernel_rfl) ?_
 simp only [List.take_succ_cons,List.take_zero,List.drop_succ_cons,List.drop_zero]
 repeat still_step
 try refine wpStill_nil ?_
 change wpList _ _ _ _ _ X2.drew
 obtain⟨wd',hwd⟩:∃wd,wd=X2.drew:=⟨_,rfl⟩
 rw [<-hwd]
 have gU:Hid (Below X2.heap.size X2 wd'):=by rw [Hid,hwd];exact(Below.refl _ _).drew
 clear hwd t1 t2 t3 t4 z7 z8 z9 z10 c1
 go_upto_region 8 with(go_at_call 90;refine(zz1.out wd' (zF zcW.out.own.below gU.out)).mono ?_;rintro e X3 ⟨rfl,hb⟩;have HB3:=qh (zF gU.out hb);clear hb)
 have uX:=qh (zcW.out.below HB3.out)
 clear gU
 have hin:i<ts.length:=by rw [<-HN.out];exact hi
 have hcl:(ts.getD i default).cells (bs.getD i (.slice none 0 0))= [.int .i64 qM, .int .i64 r0, .int .i64 r1, .int .i64 r2, .int .i64 r3, .slice ba bl bc] :=by rw [<-HT.out, <-HBV.out];rfl
 have hpc:=uX.out.zpm hin 0 (.int .i64 qM) (by omega) (by rw [hcl];rfl)
 rw [Nat.add_zero] at hpc
 obtain⟨t0,f0⟩:=hpc
 have hth:=uX.out.thread hin (k:=0) (by omega) (t:=⟨(qM:Int)+1, [r0,r1,r2,r3],bf⟩) (b:= .slice ba bl bc) (u:= .int .i64 ((qM:Int)+1)) (by rw [hcl];rfl) rfl (by have:=(uX.out.buf hin).1;rw [<-HT.out, <-HBV.out] at this;exact this) (by have:=(uX.out.buf hin).2;rw [<-HBV.out] at this;exact this) (by have:=uX.out.dist hin;rw [<-HBV.out] at this;exact this)
 rw [Nat.add_zero] at hth
 have yQ:=qh hth
 have HIN:=qh hin
 clear hin hcl hth
 go_upto_region 9 with fail
 clear t0 f0
 generalize World.setCell X3 _ _=X4 at yQ ⊢
 clear zet zcW uX zug zja zha HB1 HB2 HB3 qV kr HOL zz0 zz1 HSW kQ HEL HEC HBU
 obtain⟨ts1,zjb⟩:∃ts1,ts1=ts.set i ⟨(qM:Int)+1, [r0,r1,r2,r3],bf⟩:=⟨_,rfl⟩
 obtain⟨bs1,zuh⟩:∃bs1,bs1=bs.set i (.slice ba bl bc):=⟨_,rfl⟩
 have hlb:bs.length=ts.length:=by have:=yQ.out.own.own.len;rw [List.length_set,List.length_set] at this;exact this
 rw [<-zjb, <-zuh] at yQ
 have bR:Hid (ts1.getD i default=⟨(qM:Int)+1, [r0,r1,r2,r3],bf⟩):=by rw [Hid,zjb,qQ HIN.out,if_pos rfl]
 have bS:Hid (bs1.getD i (.slice none 0 0)= .slice ba bl bc):=by rw [Hid,zuh,qQ (by rw [hlb];exact HIN.out),if_pos rfl]
 have HL1:Hid (i<ts1.length):=by rw [Hid,zjb,List.length_set];exact HIN.out
 have HSS:Hid (∀t',ts1.set i t'=ts.set i t'):=λt'=>by rw [zjb,List.set_set]
 have HT1:Hid (ts1=ts.set i ⟨(qM:Int)+1, [r0,r1,r2,r3],bf⟩):=zjb
 clear zjb zuh hlb HT
 have HTC:Hid (∀k u,k<6-> [Value.int .i64 ((qM:Int)+1), .int .i64 r0, .int .i64 r1, .int .i64 r2, .int .i64 r3, .slice ba bl bc][k]? =some u->X4.cell? ⟨tb,i*6+k,none⟩=some u/\X4.frozen? ⟨tb,i*6+k,none⟩=false):=by
  have h:=yQ.out.zpm HL1.out
  rw [bR.out,bS.out] at h
  exact h
 have jK:Hid (R=Option.map (λr=>(⟨ts.set i r.1,r.2.1,r.2.2⟩:zl)) (stepT ⟨vars,dom,cs⟩ ⟨mod,bnd⟩ ⟨ts,mem,bad⟩ ⟨qM, [r0,r1,r2,r3],bf⟩ x d)):=by rw [Hid,HR5.out,HC.out,HM.out,HS.out]
 clear HR5 HC HM HS
 have zdb:=qh (yQ.out.buf HL1.out)
 have yE:Hid (∀(X:World) (b':Bool),X.heap[gb]? =some (.cells #[.slice (some ⟨tb,0,none⟩) n xc, .slice (some ⟨mb,0,none⟩) mn yc, .bool b'] 30 (0,0))->Below W.heap.size W X->
   (X.cell? ⟨gb,0,none⟩=some (.slice (some ⟨tb,0,none⟩) n xc)/\X.cell? ⟨gb,1,none⟩=some (.slice (some ⟨mb,0,none⟩) mn yc)/\X.cell? ⟨gb,2,none⟩=some (.bool b'))/\
   (X.cell? ⟨gx+3,0,none⟩=some (.slice none 0 0)/\X.cell? ⟨gx+3,1,none⟩=some (.slice none 0 0)/\X.cell? ⟨gx+3,2,none⟩=some (.bool false))/\
   (X.frozen? ⟨gx+3,0,none⟩=false/\X.frozen? ⟨gx+3,1,none⟩=false/\X.frozen? ⟨gx+3,2,none⟩=false)/\
   (((X.setCell ⟨gx+3,0,none⟩ (.slice (some ⟨tb,0,none⟩) n xc)).setCell ⟨gx+3,1,none⟩ (.slice (some ⟨mb,0,none⟩) mn yc)).setCell ⟨gx+3,2,none⟩ (.bool b')).heap[gx+3]? =some (.cells #[.slice (some ⟨tb,0,none⟩) n xc, .slice (some ⟨mb,0,none⟩) mn yc, .bool b'] 30 (0,0))/\
   Since (λk=>k=gx+3) X (((X.setCell ⟨gx+3,0,none⟩ (.slice (some ⟨tb,0,none⟩) n xc)).setCell ⟨gx+3,1,none⟩ (.slice (some ⟨mb,0,none⟩) mn yc)).setCell ⟨gx+3,2,none⟩ (.bool b'))/\
   Below w.heap.size w (((X.setCell ⟨gx+3,0,none⟩ (.slice (some ⟨tb,0,none⟩) n xc)).setCell ⟨gx+3,1,none⟩ (.slice (some ⟨mb,0,none⟩) mn yc)).setCell ⟨gx+3,2,none⟩ (.bool b'))):=λX b' hX hW=>by
  have hres:=(hW.block _ (zw H4.out)).trans H4.out
  have hset:=zu (zu (zu hres 0 (.slice (some ⟨tb,0,none⟩) n xc)) 1 (.slice (some ⟨mb,0,none⟩) mn yc)) 2 (.bool b')
  simp only [List.setIfInBounds_toArray,List.set_cons_zero,List.set_cons_succ] at hset
  have hS:Since (λk=>k=gx+3) X (((X.setCell ⟨gx+3,0,none⟩ (.slice (some ⟨tb,0,none⟩) n xc)).setCell ⟨gx+3,1,none⟩ (.slice (some ⟨mb,0,none⟩) mn yc)).setCell ⟨gx+3,2,none⟩ (.bool b')):=Since.setCell (F:=λk=>k=gx+3) (p:=⟨gx+3,2,none⟩) (Since.setCell (F:=λk=>k=gx+3) (p:=⟨gx+3,1,none⟩) (Since.setCell (F:=λk=>k=gx+3) (p:=⟨gx+3,0,none⟩) (Since.refl _ X) (.inl rfl) _) (.inl rfl) _) (.inl rfl) _
  exact⟨⟨ze hX 0,ze hX 1,ze hX 2⟩,⟨ze hres 0,ze hres 1,ze hres 2⟩,⟨zB hres 0,zB hres 1,zB hres 2⟩,hset,hS,(HB.out.trans (hW.mono HB.out.size)).trans (hS.below (by have:=HB.out.size;have:=hW.size;omega) (λk e=>by have:=yS.out;omega))⟩
 have uF:Hid (∀(X X':World) (b':Bool) (ts':List zA) (mem':List Int) (bs' wS:List Value),vJ W X gb gi tb n xc mb mn yc b' ts' mem' bs' wS->Since (λk=>k=gx+3) X X'->OwnAt w.heap.size X' (.slice (some ⟨tb,0,none⟩) n xc) (.slice (some ⟨mb,0,none⟩) mn yc) ts' mem' bs'):=λX X' b' ts' mem' bs' wS h hS=>by
  have hlt:=zw H4.out
  exact OwnAt.lower (B:=W.heap.size) (h.own.own.since hS (λk hk e=>by have:=(h.own.own.row.lt k hk).1;omega) (λk hk e=>by have:=(h.own.own.mem.lt k hk).1;omega) (λj hj k hk e=>by have:=((h.own.own.buf j hj).lt k hk).1;omega)) HB.out.size
 go_cut [15] (λs15 w'=>∃em:Bool,s15= .bool em/\w'=X4/\Hid (em=decide (bl=0)))
 case first=>
  have t5:=(HTC.out 5 _ (by omega) rfl).1
  by_cases hb0:bl=0
  ·have hb1:((bl:Int)==0)=true:=by simp [hb0]
   go_wp2_with fail
   go_meet
   case rel=>exact⟨true,by first|rfl|simp,rfl,by simp [Hid,hb0]⟩
  have hb1:((bl:Int)==0)=false:=by simp [hb0]
  go_wp2_with fail
  go_meet
  case rel=>exact⟨false,by first|rfl|simp,rfl,by simp [Hid,hb0]⟩
 case rest=>
 obtain⟨em,rfl,hww,HEM⟩:=hcut
 obtain rfl:X4=wc:=hww.symm
 have k0:=ze yQ.out.instr 0
 go_upto_region 11 with fail
 clear k0
 by_cases o1:op=1
 ·have vY:Hid ((1:Int)=x.op):=by rw [Hid, <-xO.out,o1]
  clear xO
  have xO:=vY
  clear vY
  have p1:((op:Int)==1)=true:=by simp [o1]
  clear o1
  as_aux_lemma=>
   go_upto_region 12 with fail
   obtain⟨lk,hlk⟩:∃lk,lk=gD bf vR:=⟨_,rfl⟩
   have zui:=λY hY=>zuj Y (.slice ba bl bc) bf hY (by rw [<-qZ.out];omega) vR
   rw [<-hlk] at zui
   have z5h:=qh zui
   have HLK:=qh hlk
   clear zui hlk
   have hbu:=zdb.out.1
   rw [bR.out,bS.out] at hbu
   have zpn:Hid (∀Y,Below X4.heap.size X4 Y->zV Y (.slice ba bl bc) bf):=λY hY=>zV.below (kS hbu) hY
   clear hbu
   have CZ:Hid (∀y,Below X4.heap.size X4 y->y.cell? ⟨tb,i*6+5,none⟩=some (.slice ba bl bc)/\y.cell? ⟨gi,2,none⟩=some (.int .i64 vR)):=λy hy=>⟨zi hy _ _ (HTC.out 5 _ (by omega) rfl).1,zi hy _ _ (ze yQ.out.instr 2)⟩
   refine qL (S:=λx=>Below X4.heap.size X4 x) (Below.refl _ _).drew (λhH=> ?_)
   refine zo 0 CZ.out ?_
   refine zo 1 CZ.out ?_
   refine zo 2 CZ.out ?_
   refine zo 3 CZ.out ?_
   refine zo 4 CZ.out ?_
   refine zo 5 CZ.out ?_
   refine yu 6 rfl (λK hK=> ?_)
   go_simp
   refine(z5h.out X4.drew (zpn.out X4.drew hH)).mono ?_
   rintro e zeu ⟨rfl,hb⟩
   have zpo:Below X4.heap.size X4 zeu:=zF hH hb
   refine hK.out _ _ zpo (λ_=> ?_)
   clear hK K hb hH
   refine zo 7 CZ.out ?_
   refine zo 8 CZ.out ?_
   refine zo 9 CZ.out ?_
   refine zo 10 CZ.out ?_
   refine zo 11 CZ.out ?_
   refine xJ ?_
   have pQ:=qh (yQ.out.below zpo)
   clear zpo
   skip
   cases lk with
   |some lv=>
    simp only [Option.getD_some,Option.isSome_some]
    go_upto_region 15 with fail
    have z1:=ze pQ.out.instr 1
    refine wp_region_still_tail 7 (by kernel_rfl) (by kernel_rfl) ?_
    simp only [List.take_succ_cons,List.take_zero,List.drop_succ_cons,List.drop_zero]
    repeat still_step
    try refine wpStill_nil ?_
    change wpList _ _ _ _ _ zeu.drew
    obtain⟨X5,hX5⟩:∃wd,wd=zeu.drew:=⟨_,rfl⟩
    rw [<-hX5]
    have z5i:Hid (Below zeu.heap.size zeu X5):=by rw [Hid,hX5];exact(Below.refl _ _).drew
    clear hX5
    have zwf:=qh (pQ.out.below z5i.out)
    clear z1
    obtain⟨u0,v0⟩:=zwf.out.bQ HL1.out bR.out bS.out (1+wH) (.int .i64 ([r0,r1,r2,r3].getD wH 0)) (by omega) (zes zb6)
    rw [<-Nat.add_assoc] at u0 v0
    have hw6:=zwf.out.set HL1.out (k:=1+wH) (by omega) (t':=⟨(qM:Int)+1,([r0,r1,r2,r3].set wH lv),bf⟩) (u:=(.int .i64 lv)) bR.out bS.out (zbS zb6) (by simp) rfl
    rw [<-Nat.add_assoc] at hw6
    have HW6:=qh hw6
    clear hw6
    go_upto_region 48 with fail
    clear u0 v0
    generalize World.setCell X5 _ _=X6 at HW6 ⊢
    obtain⟨hr6,ht6,hb6,hl6⟩:=HW6.out
    have z1P:=qh hr6
    have z9o:=qh ht6
    have z9p:=qh hb6
    have HL6:=qh hl6
    clear hr6 ht6 hb6 hl6 HW6
    have hres:R=some ⟨ts.set i ⟨(qM:Int)+1, [r0,r1,r2,r3].set wH lv,bf⟩,mem,bad⟩:=by
     rw [jK.out,pz xO.out.symm]
     simp only [Option.map_some]
     rw [<-HVR.out, <-HLK.out, <-HRG.out]
     rfl
    have zP:=qh hres
    clear hres
    have yX:=z1P.out
    rw [HSS.out] at yX
    have yP:=qh yX
    clear yX
    obtain⟨⟨a0,a1,a2⟩,⟨q0,q1,q2⟩,⟨f0,f1,f2⟩,hset,hsn,hbe⟩:=yE.out X6 bad yP.out.own.box yP.out.own.below
    have zG:=qh hset
    have xK:=qh hsn
    have yB:=qh hbe
    clear hset hsn hbe
    go_wp2_with fail
    (try simp only [Exit.inBlock,Exit.then])
    refine bodyPost_ret (zy rfl _ _ (gx+3) 30 _ (0,0) _ rfl zG.out Tryz.underlying30 rfl zI) rfl ?_
    exact⟨qJ zP.out (uF.out _ _ _ _ _ _ _ yP.out xK.out),yB.out⟩
   |none=>
   simp only [Option.getD_none,Option.isSome_none]
   go_upto_region 14 with fail
   obtain⟨nv,hnv⟩:∃nv,nv=mem.getD vR 0:=⟨_,rfl⟩
   obtain⟨sb,so,hsa, -,hsc⟩:=xI.part zdT.out vR (by rw [<-vO.out];omega)
   subst hsa
   rw [<-hnv] at hsc
   have HNV:=qh hnv
   clear hnv
   have s1:=zi pQ.out.own.below _ _ hsc
   have c6:=(qg.out _ pQ.out.own.below).2.2.2.2.2.2.1
   have uU:(vR:Int)<(mn:Int):=by omega
   have z2:=ze pQ.out.instr 2
   go_upto_region 15 with fail
   clear z2 s1 c6 hsc
   go_upto_region 15 with fail
   have z1:=ze pQ.out.instr 1
   refine wp_region_still_tail 7 (by kernel_rfl) (by kernel_rfl) ?_
   simp only [List.take_succ_cons,List.take_zero,List.drop_succ_cons,List.drop_zero]
   repeat still_step
   try refine wpStill_nil ?_
   change wpList _ _ _ _ _ zeu.drew
   obtain⟨X7,hX7⟩:∃wd,wd=zeu.drew:=⟨_,rfl⟩
   rw [<-hX7]
   have z5j:Hid (Below zeu.heap.size zeu X7):=by rw [Hid,hX7];exact(Below.refl _ _).drew
   clear hX7
   have zwg:=qh (pQ.out.below z5j.out)
   clear z1
   obtain⟨u0,v0⟩:=zwg.out.bQ HL1.out bR.out bS.out (1+wH) (.int .i64 ([r0,r1,r2,r3].getD wH 0)) (by omega) (zes zb6)
   rw [<-Nat.add_assoc] at u0 v0
   have hw8:=zwg.out.set HL1.out (k:=1+wH) (by omega) (t':=⟨(qM:Int)+1,([r0,r1,r2,r3].set wH nv),bf⟩) (u:=(.int .i64 nv)) bR.out bS.out (zbS zb6) (by simp) rfl
   rw [<-Nat.add_assoc] at hw8
   have HW8:=qh hw8
   clear hw8
   go_upto_region 48 with fail
   clear u0 v0
   generalize World.setCell X7 _ _=X8 at HW8 ⊢
   obtain⟨hr8,ht8,hb8,hl8⟩:=HW8.out
   have z1Q:=qh hr8
   have z9q:=qh ht8
   have z9r:=qh hb8
   have wT:=qh hl8
   clear hr8 ht8 hb8 hl8 HW8
   have hres:R=some ⟨ts.set i ⟨(qM:Int)+1, [r0,r1,r2,r3].set wH nv,bf⟩,mem,bad⟩:=by
    rw [jK.out,pz xO.out.symm]
    simp only [Option.map_some]
    rw [<-HVR.out, <-HLK.out, <-HRG.out]
    rw [show((vR:Int)).toNat=vR from rfl, <-HNV.out]
    rfl
   have zP:=qh hres
   clear hres
   have yX:=z1Q.out
   rw [HSS.out] at yX
   have yP:=qh yX
   clear yX
   obtain⟨⟨a0,a1,a2⟩,⟨q0,q1,q2⟩,⟨f0,f1,f2⟩,hset,hsn,hbe⟩:=yE.out X8 bad yP.out.own.box yP.out.own.below
   have zG:=qh hset
   have xK:=qh hsn
   have yB:=qh hbe
   clear hset hsn hbe
   go_wp2_with fail
   (try simp only [Exit.inBlock,Exit.then])
   refine bodyPost_ret (zy rfl _ _ (gx+3) 30 _ (0,0) _ rfl zG.out Tryz.underlying30 rfl zI) rfl ?_
   exact⟨qJ zP.out (uF.out _ _ _ _ _ _ _ yP.out xK.out),yB.out⟩
 have p1:((op:Int)==1)=false:=by simp [o1]
 by_cases o2:op=2
 ·have vY:Hid ((2:Int)=x.op):=by rw [Hid, <-xO.out,o2]
  clear xO
  have xO:=vY
  clear vY
  have p2:((op:Int)==2)=true:=by simp [o2]
  clear o2
  as_aux_lemma=>
   go_upto_region 17 with fail
   have c3:=(qg.out _ yQ.out.own.below).2.2.2.1
   by_cases hm0:mod=0
   ·have hm1:((mod:Int)==0)=true:=by simp [hm0]
    have HM0:=qh hm0
    clear hm0
    go_upto_region 18 with fail
    clear c3 hm1
    go_upto_region 18 with fail
    have z2:=ze yQ.out.instr 2
    have hbx:=yQ.out.own.box
    have g1:=ze hbx 1
    clear hbx
    have hml:vR<mem.length:=by rw [<-vO.out];omega
    obtain⟨m0,m1⟩:=yQ.out.zkz hml
    have uU:(vR:Int)<(mn:Int):=by omega
    have zwh:=qh (yQ.out.mem vR A)
    clear hml
    go_upto_region 19 with fail
    clear z2 g1 m0 m1 uU
    generalize World.setCell X4 _ _=X9 at zwh ⊢
    have hres:R=some ⟨ts1,(mem.set vR A),bad⟩:=by
     rw [jK.out,bB xO.out.symm HM0.out]
     simp only [Option.map_some]
     rw [<-HVR.out, <-HA.out,HT1.out]
     rfl
    have zP:=qh hres
    clear hres
    have yX:=zwh.out
    have yP:=qh yX
    clear yX
    obtain⟨⟨a0,a1,a2⟩,⟨q0,q1,q2⟩,⟨f0,f1,f2⟩,hset,hsn,hbe⟩:=yE.out X9 bad yP.out.own.box yP.out.own.below
    have zG:=qh hset
    have xK:=qh hsn
    have yB:=qh hbe
    clear hset hsn hbe
    go_wp2_with fail
    (try simp only [Exit.inBlock,Exit.then])
    refine bodyPost_ret (zy rfl _ _ (gx+3) 30 _ (0,0) _ rfl zG.out Tryz.underlying30 rfl zI) rfl ?_
    exact⟨qJ zP.out (uF.out _ _ _ _ _ _ _ yP.out xK.out),yB.out⟩
   have hm1:((mod:Int)==0)=false:=by simp [hm0]
   have HM0:=qh hm0
   clear hm0
   go_upto_region 20 with fail
   clear c3 hm1
   obtain⟨ok,hok⟩:∃ok,ok=qB bf ⟨mod,bnd⟩ ⟨vR,A⟩:=⟨_,rfl⟩
   have hput:=λY hY=>znr Y (.slice ba bl bc) bf hY (by rw [<-qZ.out];omega) ⟨mod,bnd⟩ ⟨vR,A⟩
   rw [<-hok] at hput
   have vV:=qh hput
   have jv:=qh hok
   clear hput hok
   have hbu:=zdb.out.1
   rw [bR.out,bS.out] at hbu
   have zpn:Hid (∀Y,Below X4.heap.size X4 Y->zV Y (.slice ba bl bc) bf):=λY hY=>zV.below (kS hbu) hY
   clear hbu
   have CZ:Hid (∀y,Below X4.heap.size X4 y->y.cell? ⟨tb,i*6+5,none⟩=some (.slice ba bl bc)/\y.cell? ⟨gi,2,none⟩=some (.int .i64 vR)/\y.cell? ⟨gx+1,0,none⟩=some (.int .i64 mod)/\y.cell? ⟨gx+1,1,none⟩=some (.int .i64 bnd)):=λy hy=>⟨zi hy _ _ (HTC.out 5 _ (by omega) rfl).1,zi hy _ _ (ze yQ.out.instr 2),(qg.out y (zF yQ.out.own.below hy)).2.2.2.1,(qg.out y (zF yQ.out.own.below hy)).2.2.2.2.1⟩
   refine qL (S:=λx=>Below X4.heap.size X4 x) (Below.refl _ _).drew (λhH=> ?_)
   refine zo 0 CZ.out ?_
   refine zo 1 CZ.out ?_
   refine zo 2 CZ.out ?_
   refine zo 3 CZ.out ?_
   refine zo 4 CZ.out ?_
   refine zo 5 CZ.out ?_
   refine zo 6 CZ.out ?_
   refine zo 7 CZ.out ?_
   refine zo 8 CZ.out ?_
   refine yu 9 rfl (λK hK=> ?_)
   go_simp
   refine(vV.out X4.drew (zpn.out X4.drew hH)).mono ?_
   rintro e zlG ⟨⟨bv,rfl,hbv,hrow⟩,hb⟩
   obtain⟨pa,pc2,rfl, -⟩:=zh.slice hbv
   have qP:=qh hrow
   clear hbv hrow
   have zpp:Below X4.heap.size X4 zlG:=zF hH hb
   refine hK.out _ _ zpp (λ_=> ?_)
   clear hK K hb hH
   refine zo 10 CZ.out ?_
   refine zo 11 CZ.out ?_
   refine zo 12 CZ.out ?_
   refine zo 13 CZ.out ?_
   refine zo 14 CZ.out ?_
   refine xJ ?_
   have pQ:=qh (yQ.out.below zpp)
   clear zpp
   have z5k:=qh (zw yQ.out.own.box)
   have z5l:=qh (yQ.out.own.own.row.lt tb rfl).2
   have z5m:=qh (yQ.out.own.own.mem.lt mb rfl).2
   have z5n:=qh yQ.out.own.below.size
   go_upto_region 21 with fail
   obtain⟨t5,v5⟩:=pQ.out.bQ HL1.out bR.out bS.out 5 (.slice ba bl bc) (by omega) rfl
   obtain⟨pl,hpl⟩:∃pl,pl=(jm bf ⟨mod,bnd⟩ ⟨vR,A⟩).length:=⟨_,rfl⟩
   rw [<-hpl] at qP ⊢
   have jM:=qh hpl
   clear hpl
   cases ok with
   |true=>
    have hrw:=xu (C:=W.heap.size) (qP.out rfl) z5n.out
    have hpw:=pQ.out.thread HL1.out (k:=5) (by omega) (t:=⟨(qM:Int)+1, [r0,r1,r2,r3],jm bf ⟨mod,bnd⟩ ⟨vR,A⟩⟩) (b:= .slice pa pl pc2) (u:= .slice pa pl pc2) (by rw [bR.out,bS.out];rfl) rfl (by rw [<-jM.out];exact hrw) (λk hk=>by have h1:X4.heap.size<=k:=((qP.out rfl).lt k hk).1;have:=z5k.out;have:=z5l.out;have:=z5m.out;exact⟨by omega,by omega,by omega⟩) (λk hk j hj _ e=>by have h1:X4.heap.size<=k:=((qP.out rfl).lt k hk).1;have h2:=((yQ.out.own.own.buf j hj).lt k e).2;omega)
    rw [HSS.out] at hpw
    have HPW:=qh hpw
    clear hpw hrw
    go_upto_region 22 with fail
    clear t5 v5
    generalize World.setCell zlG _ _=XY at HPW ⊢
    have hres:R=some ⟨(ts.set i ⟨(qM:Int)+1, [r0,r1,r2,r3],jm bf ⟨mod,bnd⟩ ⟨vR,A⟩⟩),mem,bad⟩:=by
     rw [jK.out,bC xO.out.symm HM0.out (by rw [<-HVR.out, <-HA.out, <-jv.out])]
     simp only [Option.map_some]
     rw [<-HVR.out, <-HA.out]
    have zP:=qh hres
    clear hres
    have yX:=HPW.out
    have yP:=qh yX
    clear yX
    obtain⟨⟨a0,a1,a2⟩,⟨q0,q1,q2⟩,⟨f0,f1,f2⟩,hset,hsn,hbe⟩:=yE.out XY bad yP.out.own.box yP.out.own.below
    have zG:=qh hset
    have xK:=qh hsn
    have yB:=qh hbe
    clear hset hsn hbe
    go_wp2_with fail
    (try simp only [Exit.inBlock,Exit.then])
    refine bodyPost_ret (zy rfl _ _ (gx+3) 30 _ (0,0) _ rfl zG.out Tryz.underlying30 rfl zI) rfl ?_
    exact⟨qJ zP.out (uF.out _ _ _ _ _ _ _ yP.out xK.out),yB.out⟩
   |false=>
   have hbx:=pQ.out.own.box
   have hsY:Since (λx=>x=tb) zlG (zlG.setCell ⟨tb,i*6+5,none⟩ (.slice pa pl pc2)):=Since.setCell (F:=λx=>x=tb) (p:=⟨tb,i*6+5,none⟩) (Since.refl _ _) (.inl rfl) _
   have zcp:=(hsY.block gb (zw hbx) (λe=>pQ.out.own.n1 (by rw [e];rfl))).trans hbx
   have zzA:=pQ.out.own.below.trans (hsY.below pQ.out.own.below.size (λx e=>by have:=(pQ.out.own.own.row.lt tb rfl).1;omega))
   have xq:=qh zcp
   have zzB:=qh zzA
   clear hbx hsY zcp zzA
   have hres:R=none:=by
    rw [jK.out,bD xO.out.symm HM0.out (by rw [<-HVR.out, <-HA.out, <-jv.out])]
    rfl
   have zP:=qh hres
   clear hres
   go_upto_region 22 with fail
   clear t5 v5
   generalize World.setCell zlG _ _=XY at xq zzB ⊢
   obtain⟨⟨a0,a1,a2⟩,⟨q0,q1,q2⟩,⟨f0,f1,f2⟩,hset, -,hbe⟩:=yE.out XY bad xq.out zzB.out
   have zG:=qh hset
   have yB:=qh hbe
   clear hset hbe
   go_wp2_with fail
   (try simp only [Exit.inBlock,Exit.then])
   refine bodyPost_ret (zy rfl _ _ (gx+3) 30 _ (0,0) _ rfl zG.out Tryz.underlying30 rfl zI) rfl ?_
   exact⟨uE zP.out,yB.out⟩
 have p2:((op:Int)==2)=false:=by simp [o2]
 by_cases o3:op=3
 ·have vY:Hid ((3:Int)=x.op):=by rw [Hid, <-xO.out,o3]
  clear xO
  have xO:=vY
  clear vY
  have p3:((op:Int)==3)=true:=by simp [o3]
  clear o3
  as_aux_lemma=>
   go_upto_region 24 with fail
   have z1:=ze yQ.out.instr 1
   refine wp_region_still_tail 7 (by kernel_rfl) (by kernel_rfl) ?_
   simp only [List.take_succ_cons,List.take_zero,List.drop_succ_cons,List.drop_zero]
   repeat still_step
   try refine wpStill_nil ?_
   change wpList _ _ _ _ _ X4.drew
   obtain⟨X10,zuk⟩:∃wd,wd=X4.drew:=⟨_,rfl⟩
   rw [<-zuk]
   have z1R:Hid (Below X4.heap.size X4 X10):=by rw [Hid,zuk];exact(Below.refl _ _).drew
   clear zuk
   have zrF:=qh (yQ.out.below z1R.out)
   clear z1
   obtain⟨u0,v0⟩:=zrF.out.bQ HL1.out bR.out bS.out (1+wH) (.int .i64 ([r0,r1,r2,r3].getD wH 0)) (by omega) (zes zb6)
   rw [<-Nat.add_assoc] at u0 v0
   have zat:=zrF.out.set HL1.out (k:=1+wH) (by omega) (t':=⟨(qM:Int)+1,([r0,r1,r2,r3].set wH A),bf⟩) (u:=(.int .i64 A)) bR.out bS.out (zbS zb6) (by simp) rfl
   rw [<-Nat.add_assoc] at zat
   have zul:=qh zat
   clear zat
   go_upto_region 48 with fail
   clear u0 v0
   generalize World.setCell X10 _ _=X11 at zul ⊢
   obtain⟨zzC,zzD,zzE,zzF⟩:=zul.out
   have zzG:=qh zzC
   have z8L:=qh zzD
   have z8M:=qh zzE
   have z9s:=qh zzF
   clear zzC zzD zzE zzF zul
   have hres:R=some ⟨ts.set i ⟨(qM:Int)+1, [r0,r1,r2,r3].set wH A,bf⟩,mem,bad⟩:=by
    rw [jK.out,zbs xO.out.symm]
    simp only [Option.map_some]
    rw [<-HA.out, <-HRG.out]
    rfl
   have zP:=qh hres
   clear hres
   have yX:=zzG.out
   rw [HSS.out] at yX
   have yP:=qh yX
   clear yX
   obtain⟨⟨a0,a1,a2⟩,⟨q0,q1,q2⟩,⟨f0,f1,f2⟩,hset,hsn,hbe⟩:=yE.out X11 bad yP.out.own.box yP.out.own.below
   have zG:=qh hset
   have xK:=qh hsn
   have yB:=qh hbe
   clear hset hsn hbe
   go_wp2_with fail
   (try simp only [Exit.inBlock,Exit.then])
   refine bodyPost_ret (zy rfl _ _ (gx+3) 30 _ (0,0) _ rfl zG.out Tryz.underlying30 rfl zI) rfl ?_
   exact⟨qJ zP.out (uF.out _ _ _ _ _ _ _ yP.out xK.out),yB.out⟩
 have p3:((op:Int)==3)=false:=by simp [o3]
 by_cases o4:op=4
 ·have vY:Hid ((4:Int)=x.op):=by rw [Hid, <-xO.out,o4]
  clear xO
  have xO:=vY
  clear vY
  have p4:((op:Int)==4)=true:=by simp [o4]
  clear o4
  as_aux_lemma=>
   go_upto_region 26 with fail
   cases em with
   |true=>
    have hb0:bf.length=0:=by rw [<-qZ.out];exact of_decide_eq_true HEM.out.symm
    have HB0:=qh hb0
    clear hb0
    have hres:R=some ⟨ts1,mem,bad⟩:=by
     rw [jK.out,uO xO.out.symm]
     rw [if_pos HB0.out,HT1.out]
     rfl
    have zP:=qh hres
    clear hres
    have yX:=yQ.out
    have yP:=qh yX
    clear yX
    obtain⟨⟨a0,a1,a2⟩,⟨q0,q1,q2⟩,⟨f0,f1,f2⟩,hset,hsn,hbe⟩:=yE.out X4 bad yP.out.own.box yP.out.own.below
    have zG:=qh hset
    have xK:=qh hsn
    have yB:=qh hbe
    clear hset hsn hbe
    go_wp2_with fail
    (try simp only [Exit.inBlock,Exit.then])
    refine bodyPost_ret (zy rfl _ _ (gx+3) 30 _ (0,0) _ rfl zG.out Tryz.underlying30 rfl zI) rfl ?_
    exact⟨qJ zP.out (uF.out _ _ _ _ _ _ _ yP.out xK.out),yB.out⟩
   |false=>
   have hb0:¬bf.length=0:=by rw [<-qZ.out];exact of_decide_eq_false HEM.out.symm
   have HB0:=qh hb0
   clear hb0
   have hres:R=none:=by
    rw [jK.out,uO xO.out.symm]
    rw [if_neg HB0.out]
    rfl
   have zP:=qh hres
   clear hres
   have yX:=yQ.out
   have yP:=qh yX
   clear yX
   obtain⟨⟨a0,a1,a2⟩,⟨q0,q1,q2⟩,⟨f0,f1,f2⟩,hset,hsn,hbe⟩:=yE.out X4 bad yP.out.own.box yP.out.own.below
   have zG:=qh hset
   have xK:=qh hsn
   have yB:=qh hbe
   clear hset hsn hbe
   go_wp2_with fail
   (try simp only [Exit.inBlock,Exit.then])
   refine bodyPost_ret (zy rfl _ _ (gx+3) 30 _ (0,0) _ rfl zG.out Tryz.underlying30 rfl zI) rfl ?_
   exact⟨uE zP.out,yB.out⟩
 have p4:((op:Int)==4)=false:=by simp [o4]
 by_cases o5:op=5
 ·have vY:Hid ((5:Int)=x.op):=by rw [Hid, <-xO.out,o5]
  clear xO
  have xO:=vY
  clear vY
  have p5:((op:Int)==5)=true:=by simp [o5]
  clear o5
  as_aux_lemma=>
   go_upto_region 28 with fail
   have CZ:Hid (∀y,Since (λk=>k=gx+3) X4 y->y.cell? ⟨gb,0,none⟩=some (.slice (some ⟨tb,0,none⟩) n xc)/\y.cell? ⟨gb,1,none⟩=some (.slice (some ⟨mb,0,none⟩) mn yc)/\y.cell? ⟨gb,2,none⟩=some (.bool bad)/\y.cell? ⟨gx+1,0,none⟩=some (.int .i64 mod)):=λy hy=>by
    have h1:=yQ.out.own.box
    have hlo:=yQ.out.own.lo
    have hlt:=zw H4.out
    have h2:=(hy.block _ (zw h1) (by omega)).trans h1
    have h3:=(yQ.out.own.below.block _ (zw H2.out)).trans H2.out
    have h4:=(hy.block _ (zw h3) (by omega)).trans h3
    exact⟨ze h2 0,ze h2 1,ze h2 2,ze h4 0⟩
   cases em with
   |true=>
    have hb0:bf.length=0:=by rw [<-qZ.out];exact of_decide_eq_true HEM.out.symm
    have HB0:=qh hb0
    clear hb0
    have hres:R=some ⟨ts1,mem,bad⟩:=by
     rw [jK.out,uw xO.out.symm]
     rw [if_pos (.inl HB0.out),HT1.out]
     rfl
    have zP:=qh hres
    clear hres
    have yX:=yQ.out
    have yP:=qh yX
    clear yX
    refine qL (S:=λy=>Since (λk=>k=gx+3) X4 y) (Since.refl _ _).drew (λ_=> ?_)
    obtain⟨wd,hwd⟩:∃wd,wd=X4.drew:=⟨_,rfl⟩
    rw [<-hwd]
    have HFX:=yE.out wd bad (by rw [hwd];exact yP.out.own.box) (by rw [hwd];exact yP.out.own.below.drew)
    have xL:Hid (Since (λk=>k=gx+3) X4 wd):=by rw [Hid,hwd];exact(Since.refl _ _).drew
    clear hwd
    refine zD 0 CZ.out (xL.out) ?_
    refine zD 1 zQ (xL.out) ?_
    refine zD 2 zQ (xL.out) ?_
    refine wpAnyH_take (i:=3) (v:=undef) rfl (by kernel_rfl) (by kernel_rfl) (by kernel_rfl) (λ_ _ _ h=>h) (Or.inr ⟨by rfl,rfl⟩) (xL.out) ?_
    change wpAnyH _ _ _ _ _ _ _ (Act.put _ (some 158) _) _
    simp only [Act.put,kG]
    try simp only [kH,kI]
    refine wpAnyH_take (i:=4) (v:=undef) rfl (by kernel_rfl) (by kernel_rfl) (by kernel_rfl) (λ_ _ _ h=>h) (Or.inr ⟨by rfl,rfl⟩) (xL.out) ?_
    change wpAnyH _ _ _ _ _ _ _ (Act.put _ (some 159) _) _
    simp only [Act.put,kG]
    try simp only [kH,kI]
    refine wpAnyH_take (i:=5) (v:=undef) rfl (by kernel_rfl) (by kernel_rfl) (by kernel_rfl) (λ_ _ _ h=>h) (Or.inr ⟨by rfl,rfl⟩) (xL.out) ?_
    change wpAnyH _ _ _ _ _ _ _ (Act.put _ (some 160) _) _
    simp only [Act.put,kG]
    try simp only [kH,kI]
    refine zD 6 zQ (xL.out) ?_
    refine yu 7 rfl (λK hK=> ?_)
    obtain⟨-,⟨q0,q1,q2⟩,⟨f0,f1,f2⟩,hset,hsn,hbe⟩:=HFX
    have zG:=qh hset
    have xK:=qh hsn
    have yB:=qh hbe
    clear hset hsn hbe
    go_simp
    refine hK.out _ _ (xL.out.trans xK.out (λ_ h=> .inl h)) (λ_=> ?_)
    clear hK K
    refine zD 8 zQ ((xL.out.trans xK.out (λ_ h=> .inl h))) ?_
    refine xJ ?_
    go_wp2_with fail
    (try simp only [Exit.inBlock,Exit.then])
    refine bodyPost_ret (zy rfl _ _ (gx+3) 30 _ (0,0) _ rfl zG.out Tryz.underlying30 rfl zI) rfl ?_
    exact⟨qJ zP.out (uF.out _ _ _ _ _ _ _ yP.out (xL.out.trans xK.out (λ_ h=> .inl h))),yB.out⟩
   |false=>
   have hb0:¬bf.length=0:=by rw [<-qZ.out];exact of_decide_eq_false HEM.out.symm
   have HB0:=qh hb0
   clear hb0
   by_cases hm2:mod=2
   rotate_left
   ·have hm3:((mod:Int) !=2)=true:=by simp [hm2]
    have HM2:=qh hm2
    clear hm2
    have hres:R=some ⟨ts1,mem,bad⟩:=by
     rw [jK.out,uw xO.out.symm]
     rw [if_pos (.inr HM2.out),HT1.out]
     rfl
    have zP:=qh hres
    clear hres
    have yX:=yQ.out
    have yP:=qh yX
    clear yX
    refine qL (S:=λy=>Since (λk=>k=gx+3) X4 y) (Since.refl _ _).drew (λ_=> ?_)
    obtain⟨wd,hwd⟩:∃wd,wd=X4.drew:=⟨_,rfl⟩
    rw [<-hwd]
    have HFX:=yE.out wd bad (by rw [hwd];exact yP.out.own.box) (by rw [hwd];exact yP.out.own.below.drew)
    have xL:Hid (Since (λk=>k=gx+3) X4 wd):=by rw [Hid,hwd];exact(Since.refl _ _).drew
    clear hwd
    refine zD 0 CZ.out (xL.out) ?_
    refine zD 1 zQ (xL.out) ?_
    refine zD 2 zQ (xL.out) ?_
    refine zD 3 zQ (xL.out) ?_
    refine zD 4 CZ.out (xL.out) ?_
    refine zD 5 zQ (xL.out) ?_
    refine zD 6 zQ (xL.out) ?_
    refine yu 7 rfl (λK hK=> ?_)
    obtain⟨-,⟨q0,q1,q2⟩,⟨f0,f1,f2⟩,hset,hsn,hbe⟩:=HFX
    have zG:=qh hset
    have xK:=qh hsn
    have yB:=qh hbe
    clear hset hsn hbe
    go_simp
    refine hK.out _ _ (xL.out.trans xK.out (λ_ h=> .inl h)) (λ_=> ?_)
    clear hK K
    refine zD 8 zQ ((xL.out.trans xK.out (λ_ h=> .inl h))) ?_
    refine xJ ?_
    go_wp2_with fail
    (try simp only [Exit.inBlock,Exit.then])
    refine bodyPost_ret (zy rfl _ _ (gx+3) 30 _ (0,0) _ rfl zG.out Tryz.underlying30 rfl zI) rfl ?_
    exact⟨qJ zP.out (uF.out _ _ _ _ _ _ _ yP.out (xL.out.trans xK.out (λ_ h=> .inl h))),yB.out⟩
   have hm3:((mod:Int) !=2)=false:=by simp [hm2]
   have HM2:=qh hm2
   clear hm2
   have hres:R=none:=by
    rw [jK.out,uw xO.out.symm]
    rw [if_neg (λh=>h.elim HB0.out (λh=>h HM2.out))]
    rfl
   have zP:=qh hres
   clear hres
   have yX:=yQ.out
   have yP:=qh yX
   clear yX
   refine qL (S:=λy=>Since (λk=>k=gx+3) X4 y) (Since.refl _ _).drew (λ_=> ?_)
   obtain⟨wd,hwd⟩:∃wd,wd=X4.drew:=⟨_,rfl⟩
   rw [<-hwd]
   have HFX:=yE.out wd bad (by rw [hwd];exact yP.out.own.box) (by rw [hwd];exact yP.out.own.below.drew)
   have xL:Hid (Since (λk=>k=gx+3) X4 wd):=by rw [Hid,hwd];exact(Since.refl _ _).drew
   clear hwd
   refine zD 0 CZ.out (xL.out) ?_
   refine zD 1 zQ (xL.out) ?_
   refine zD 2 zQ (xL.out) ?_
   refine zD 3 zQ (xL.out) ?_
   refine zD 4 CZ.out (xL.out) ?_
   refine zD 5 zQ (xL.out) ?_
   refine zD 6 zQ (xL.out) ?_
   refine yu 7 rfl (λK hK=> ?_)
   obtain⟨-,⟨q0,q1,q2⟩,⟨f0,f1,f2⟩,hset,hsn,hbe⟩:=HFX
   have zG:=qh hset
   have xK:=qh hsn
   have yB:=qh hbe
   clear hset hsn hbe
   go_simp
   refine hK.out _ _ (xL.out.trans xK.out (λ_ h=> .inl h)) (λ_=> ?_)
   clear hK K
   refine zD 8 zQ ((xL.out.trans xK.out (λ_ h=> .inl h))) ?_
   refine xJ ?_
   go_wp2_with fail
   (try simp only [Exit.inBlock,Exit.then])
   refine bodyPost_ret (zy rfl _ _ (gx+3) 30 _ (0,0) _ rfl zG.out Tryz.underlying30 rfl zI) rfl ?_
   exact⟨uE zP.out,yB.out⟩
 have p5:((op:Int)==5)=false:=by simp [o5]
 by_cases o6:op=6
 ·have vY:Hid ((6:Int)=x.op):=by rw [Hid, <-xO.out,o6]
  clear xO
  have xO:=vY
  clear vY
  have p6:((op:Int)==6)=true:=by simp [o6]
  clear o6
  as_aux_lemma=>
   go_upto_region 30 with fail
   have z1:=ze yQ.out.instr 1
   refine wp_region_still_tail 6 (by kernel_rfl) (by kernel_rfl) ?_
   simp only [List.take_succ_cons,List.take_zero,List.drop_succ_cons,List.drop_zero]
   repeat still_step
   try refine wpStill_nil ?_
   change wpList _ _ _ _ _ X4.drew
   obtain⟨X15,zum⟩:∃wd,wd=X4.drew:=⟨_,rfl⟩
   rw [<-zum]
   have z1S:Hid (Below X4.heap.size X4 X15):=by rw [Hid,zum];exact(Below.refl _ _).drew
   clear zum
   have zrG:=qh (yQ.out.below z1S.out)
   clear z1
   obtain⟨u0,v0⟩:=zrG.out.bQ HL1.out bR.out bS.out (1+wH) (.int .i64 ([r0,r1,r2,r3].getD wH 0)) (by omega) (zes zb6)
   rw [<-Nat.add_assoc] at u0 v0
   have hw16:=zrG.out.set HL1.out (k:=1+wH) (by omega) (t':=⟨(qM:Int)+1,([r0,r1,r2,r3].set wH 0),bf⟩) (u:=(.int .i64 0)) bR.out bS.out (zbS zb6) (by simp) rfl
   rw [<-Nat.add_assoc] at hw16
   have zun:=qh hw16
   clear hw16
   go_upto_region 31 with fail
   clear u0 v0
   generalize World.setCell X15 _ _=X16 at zun ⊢
   obtain⟨zzI,zzJ,zzK,zzL⟩:=zun.out
   have zaH:=qh zzI
   have zwi:=qh zzJ
   have zwj:=qh zzK
   have zzM:=qh zzL
   clear zzI zzJ zzK zzL zun
   obtain⟨nv,hnv⟩:∃nv,nv=mem.getD vR 0:=⟨_,rfl⟩
   obtain⟨sb,so,hsa, -,hsc⟩:=xI.part zdT.out vR (by rw [<-vO.out];omega)
   subst hsa
   rw [<-hnv] at hsc
   have HNV:=qh hnv
   clear hnv
   have s1:=zi zaH.out.own.below _ _ hsc
   have c6:=(qg.out _ zaH.out.own.below).2.2.2.2.2.2.1
   have uU:(vR:Int)<(mn:Int):=by omega
   have z2:=ze zaH.out.instr 2
   by_cases ha0:nv=A
   rotate_left
   ·have ha1:((nv:Int)==A)=false:=by simp [ha0]
    have HA0:=qh ha0
    clear ha0
    go_upto_region 34 with fail
    clear z2 s1 c6 hsc uU ha1
    cases em with
    |true=>
     have hb0:bf.length=0:=by rw [<-qZ.out];exact of_decide_eq_true HEM.out.symm
     have HB0:=qh hb0
     clear hb0
     have hres:R=some ⟨ts.set i ⟨(qM:Int)+1, [r0,r1,r2,r3].set wH 0,bf⟩,mem,bad⟩:=by
      rw [jK.out,pF xO.out.symm (by rw [<-HVR.out, <-HA.out];exact λe=>HA0.out (HNV.out.trans e)),if_pos HB0.out]
      simp only [Option.map_some]
      rw [<-HRG.out]
      rfl
     have zP:=qh hres
     clear hres
     have yX:=zaH.out
     rw [HSS.out] at yX
     have yP:=qh yX
     clear yX
     obtain⟨⟨a0,a1,a2⟩,⟨q0,q1,q2⟩,⟨f0,f1,f2⟩,hset,hsn,hbe⟩:=yE.out X16 bad yP.out.own.box yP.out.own.below
     have zG:=qh hset
     have xK:=qh hsn
     have yB:=qh hbe
     clear hset hsn hbe
     go_wp2_with fail
     (try simp only [Exit.inBlock,Exit.then])
     refine bodyPost_ret (zy rfl _ _ (gx+3) 30 _ (0,0) _ rfl zG.out Tryz.underlying30 rfl zI) rfl ?_
     exact⟨qJ zP.out (uF.out _ _ _ _ _ _ _ yP.out xK.out),yB.out⟩
    |false=>
    have hb0:¬bf.length=0:=by rw [<-qZ.out];exact of_decide_eq_false HEM.out.symm
    have HB0:=qh hb0
    clear hb0
    have hres:R=none:=by
     rw [jK.out,pF xO.out.symm (by rw [<-HVR.out, <-HA.out];exact λe=>HA0.out (HNV.out.trans e)),if_neg HB0.out]
     rfl
    have zP:=qh hres
    clear hres
    have yX:=zaH.out
    have yP:=qh yX
    clear yX
    obtain⟨⟨a0,a1,a2⟩,⟨q0,q1,q2⟩,⟨f0,f1,f2⟩,hset,hsn,hbe⟩:=yE.out X16 bad yP.out.own.box yP.out.own.below
    have zG:=qh hset
    have xK:=qh hsn
    have yB:=qh hbe
    clear hset hsn hbe
    go_wp2_with fail
    (try simp only [Exit.inBlock,Exit.then])
    refine bodyPost_ret (zy rfl _ _ (gx+3) 30 _ (0,0) _ rfl zG.out Tryz.underlying30 rfl zI) rfl ?_
    exact⟨uE zP.out,yB.out⟩
   have ha1:((nv:Int)==A)=true:=by simp [ha0]
   have HA0:=qh ha0
   clear ha0
   go_upto_region 32 with fail
   clear z2 s1 c6 hsc uU ha1
   go_upto_region 32 with fail
   have z2:=ze zaH.out.instr 2
   have hbx:=zaH.out.own.box
   have g1:=ze hbx 1
   clear hbx
   have hml:vR<mem.length:=by rw [<-vO.out];omega
   obtain⟨m0,m1⟩:=zaH.out.zkz hml
   have uU:(vR:Int)<(mn:Int):=by omega
   have zlH:=qh (zaH.out.mem vR B)
   clear hml
   go_upto_region 33 with fail
   clear z2 g1 m0 m1 uU
   generalize World.setCell X16 _ _=X17 at zlH ⊢
   go_upto_region 33 with fail
   have z1:=ze zlH.out.instr 1
   refine wp_region_still_tail 6 (by kernel_rfl) (by kernel_rfl) ?_
   simp only [List.take_succ_cons,List.take_zero,List.drop_succ_cons,List.drop_zero]
   repeat still_step
   try refine wpStill_nil ?_
   change wpList _ _ _ _ _ X17.drew
   obtain⟨X18,zuo⟩:∃wd,wd=X17.drew:=⟨_,rfl⟩
   rw [<-zuo]
   have z1T:Hid (Below X17.heap.size X17 X18):=by rw [Hid,zuo];exact(Below.refl _ _).drew
   clear zuo
   have zrH:=qh (zlH.out.below z1T.out)
   clear z1
   obtain⟨u0,v0⟩:=zrH.out.bQ zzM.out zwi.out zwj.out (1+wH) (.int .i64 ([0,0,0,0].getD wH 0)) (by omega) (zr4 zb6)
   rw [<-Nat.add_assoc] at u0 v0
   have zup:=zrH.out.set zzM.out (k:=1+wH) (by omega) (t':=⟨(qM:Int)+1,([r0,r1,r2,r3].set wH 1),bf⟩) (u:=(.int .i64 1)) zwi.out zwj.out (zmL zb6) (by simp) rfl
   rw [<-Nat.add_assoc] at zup
   have zuq:=qh zup
   clear zup
   go_upto_region 34 with fail
   clear u0 v0
   generalize World.setCell X18 _ _=X19 at zuq ⊢
   obtain⟨zzN,zzO,zzP,zzQ⟩:=zuq.out
   have zrI:=qh zzN
   have z8N:=qh zzO
   have z8O:=qh zzP
   have z9t:=qh zzQ
   clear zzN zzO zzP zzQ zuq
   cases em with
   |true=>
    have hb0:bf.length=0:=by rw [<-qZ.out];exact of_decide_eq_true HEM.out.symm
    have HB0:=qh hb0
    clear hb0
    have hres:R=some ⟨ts.set i ⟨(qM:Int)+1, [r0,r1,r2,r3].set wH 1,bf⟩,(mem.set vR B),bad⟩:=by
     rw [jK.out,pE xO.out.symm (by rw [<-HVR.out, <-HA.out, <-HA0.out,HNV.out];rfl),if_pos HB0.out]
     simp only [Option.map_some]
     rw [<-HVR.out, <-yB.out, <-HRG.out]
     rfl
    have zP:=qh hres
    clear hres
    have yX:=zrI.out
    rw [List.set_set,HSS.out] at yX
    have yP:=qh yX
    clear yX
    obtain⟨⟨a0,a1,a2⟩,⟨q0,q1,q2⟩,⟨f0,f1,f2⟩,hset,hsn,hbe⟩:=yE.out X19 bad yP.out.own.box yP.out.own.below
    have zG:=qh hset
    have xK:=qh hsn
    have yB:=qh hbe
    clear hset hsn hbe
    go_wp2_with fail
    (try simp only [Exit.inBlock,Exit.then])
    refine bodyPost_ret (zy rfl _ _ (gx+3) 30 _ (0,0) _ rfl zG.out Tryz.underlying30 rfl zI) rfl ?_
    exact⟨qJ zP.out (uF.out _ _ _ _ _ _ _ yP.out xK.out),yB.out⟩
   |false=>
   have hb0:¬bf.length=0:=by rw [<-qZ.out];exact of_decide_eq_false HEM.out.symm
   have HB0:=qh hb0
   clear hb0
   have hres:R=none:=by
    rw [jK.out,pE xO.out.symm (by rw [<-HVR.out, <-HA.out, <-HA0.out,HNV.out];rfl),if_neg HB0.out]
    rfl
   have zP:=qh hres
   clear hres
   have yX:=zrI.out
   have yP:=qh yX
   clear yX
   obtain⟨⟨a0,a1,a2⟩,⟨q0,q1,q2⟩,⟨f0,f1,f2⟩,hset,hsn,hbe⟩:=yE.out X19 bad yP.out.own.box yP.out.own.below
   have zG:=qh hset
   have xK:=qh hsn
   have yB:=qh hbe
   clear hset hsn hbe
   go_wp2_with fail
   (try simp only [Exit.inBlock,Exit.then])
   refine bodyPost_ret (zy rfl _ _ (gx+3) 30 _ (0,0) _ rfl zG.out Tryz.underlying30 rfl zI) rfl ?_
   exact⟨uE zP.out,yB.out⟩
 have p6:((op:Int)==6)=false:=by simp [o6]
 by_cases o7:op=7
 ·have vY:Hid ((7:Int)=x.op):=by rw [Hid, <-xO.out,o7]
  clear xO
  have xO:=vY
  clear vY
  have p7:((op:Int)==7)=true:=by simp [o7]
  clear o7
  as_aux_lemma=>
   obtain⟨nv,hnv⟩:∃nv,nv=mem.getD vR 0:=⟨_,rfl⟩
   obtain⟨sb,so,hsa,hsb,hsc⟩:=xI.part zdT.out vR (by rw [<-vO.out];omega)
   subst hsa
   rw [<-hnv] at hsc
   have HNV:=qh hnv
   have HSC:=qh hsc
   clear hnv hsc hsb
   obtain⟨sb2,so2,he2,z5o, -⟩:=xI.part z5d.out vR (by rw [<-vO.out];omega)
   cases he2
   have HSG:Hid (¬sb=gx+3):=λe=>by have:=yS.out;omega
   clear z5o
   go_upto_region 36 with fail
   have z2:=ze yQ.out.instr 2
   have hbx:=yQ.out.own.box
   have g1:=ze hbx 1
   clear hbx
   have hml:vR<mem.length:=by rw [<-vO.out];omega
   obtain⟨m0,m1⟩:=yQ.out.zkz hml
   have uU:(vR:Int)<(mn:Int):=by omega
   have zaI:=qh (yQ.out.mem vR 1)
   clear hml
   go_upto_region 37 with fail
   clear z2 g1 m0 m1 uU
   generalize World.setCell X4 _ _=X20 at zaI ⊢
   have uU:(vR:Int)<(mn:Int):=by omega
   have CZ:Hid (∀y,Since (λk=>k=gx+3) X20 y->y.cell? ⟨gb,0,none⟩=some (.slice (some ⟨tb,0,none⟩) n xc)/\y.cell? ⟨gb,1,none⟩=some (.slice (some ⟨mb,0,none⟩) mn yc)/\y.cell? ⟨gb,2,none⟩=some (.bool bad)/\y.cell? ⟨gx+2,1,none⟩=some (.slice (some ⟨sb,so,none⟩) mn vP)/\y.cell? ⟨gi,2,none⟩=some (.int .i64 vR)/\y.cell? ⟨sb,so+vR,none⟩=some (.int .i64 nv)):=λy hy=>by
    have h1:=zaI.out.own.box
    have hlo:=zaI.out.own.lo
    have hlt:=zw H4.out
    have h2:=(hy.block _ (zw h1) (by omega)).trans h1
    have h3:=(zaI.out.own.below.block _ (zw H3.out)).trans H3.out
    have h4:=(hy.block _ (zw h3) (by omega)).trans h3
    have h5:=zaI.out.instr
    have h6:=(hy.block _ (zw h5) HGI.out).trans h5
    have h7:=zi zaI.out.own.below _ _ HSC.out
    have h8:=(hy.cell (p:=⟨sb,so+vR,none⟩) (World.block_lt_of_cell? _ _ h7) HSG.out).trans h7
    exact⟨ze h2 0,ze h2 1,ze h2 2,ze h4 1,ze h6 2,h8⟩
   cases em with
   |true=>
    have hb0:bf.length=0:=by rw [<-qZ.out];exact of_decide_eq_true HEM.out.symm
    have HB0:=qh hb0
    clear hb0
    by_cases ha0:nv=0
    rotate_left
    ·have ha1:((nv:Int)==0)=false:=by simp [ha0]
     have HA0:=qh ha0
     clear ha0
     have hres:R=none:=by
      rw [jK.out,uy xO.out.symm]
      rw [if_neg (λh=>HA0.out (by have:=h.2;rw [<-HVR.out] at this;exact HNV.out.trans this))]
      rfl
     have zP:=qh hres
     clear hres
     have yX:=zaI.out
     have yP:=qh yX
     clear yX
     refine qL (S:=λy=>Since (λk=>k=gx+3) X20 y) (Since.refl _ _).drew (λ_=> ?_)
     obtain⟨wd,hwd⟩:∃wd,wd=X20.drew:=⟨_,rfl⟩
     rw [<-hwd]
     have HFX:=yE.out wd bad (by rw [hwd];exact yP.out.own.box) (by rw [hwd];exact yP.out.own.below.drew)
     have xL:Hid (Since (λk=>k=gx+3) X20 wd):=by rw [Hid,hwd];exact(Since.refl _ _).drew
     clear hwd
     refine zD 0 CZ.out (xL.out) ?_
     refine zD 1 zQ (xL.out) ?_
     refine zD 2 zQ (xL.out) ?_
     refine zD 3 zQ (xL.out) ?_
     refine zD 4 CZ.out (xL.out) ?_
     refine zD 5 zQ (xL.out) ?_
     refine zD 6 CZ.out (xL.out) ?_
     refine zD 7 zQ (xL.out) ?_
     refine zD 8 CZ.out (xL.out) ?_
     refine zD 9 zQ (xL.out) ?_
     refine zD 10 zQ (xL.out) ?_
     refine yu 11 rfl (λK hK=> ?_)
     obtain⟨-,⟨q0,q1,q2⟩,⟨f0,f1,f2⟩,hset,hsn,hbe⟩:=HFX
     have zG:=qh hset
     have xK:=qh hsn
     have yB:=qh hbe
     clear hset hsn hbe
     go_simp
     refine hK.out _ _ (xL.out.trans xK.out (λ_ h=> .inl h)) (λ_=> ?_)
     clear hK K
     refine zD 12 zQ ((xL.out.trans xK.out (λ_ h=> .inl h))) ?_
     refine xJ ?_
     go_wp2_with fail
     (try simp only [Exit.inBlock,Exit.then])
     refine bodyPost_ret (zy rfl _ _ (gx+3) 30 _ (0,0) _ rfl zG.out Tryz.underlying30 rfl zI) rfl ?_
     exact⟨uE zP.out,yB.out⟩
    have ha1:((nv:Int)==0)=true:=by simp [ha0]
    have HA0:=qh ha0
    clear ha0
    have hres:R=some ⟨ts1,(mem.set vR 1),bad⟩:=by
     rw [jK.out,uy xO.out.symm]
     rw [if_pos ⟨HB0.out,by rw [<-HVR.out];exact HNV.out.symm.trans HA0.out⟩]
     simp only [Option.map_some]
     rw [<-HVR.out,HT1.out]
     rfl
    have zP:=qh hres
    clear hres
    have yX:=zaI.out
    have yP:=qh yX
    clear yX
    refine qL (S:=λy=>Since (λk=>k=gx+3) X20 y) (Since.refl _ _).drew (λ_=> ?_)
    obtain⟨wd,hwd⟩:∃wd,wd=X20.drew:=⟨_,rfl⟩
    rw [<-hwd]
    have HFX:=yE.out wd bad (by rw [hwd];exact yP.out.own.box) (by rw [hwd];exact yP.out.own.below.drew)
    have xL:Hid (Since (λk=>k=gx+3) X20 wd):=by rw [Hid,hwd];exact(Since.refl _ _).drew
    clear hwd
    refine zD 0 CZ.out (xL.out) ?_
    refine zD 1 zQ (xL.out) ?_
    refine zD 2 zQ (xL.out) ?_
    refine zD 3 zQ (xL.out) ?_
    refine zD 4 CZ.out (xL.out) ?_
    refine zD 5 zQ (xL.out) ?_
    refine zD 6 CZ.out (xL.out) ?_
    refine zD 7 zQ (xL.out) ?_
    refine zD 8 CZ.out (xL.out) ?_
    refine zD 9 zQ (xL.out) ?_
    refine zD 10 zQ (xL.out) ?_
    refine yu 11 rfl (λK hK=> ?_)
    obtain⟨-,⟨q0,q1,q2⟩,⟨f0,f1,f2⟩,hset,hsn,hbe⟩:=HFX
    have zG:=qh hset
    have xK:=qh hsn
    have yB:=qh hbe
    clear hset hsn hbe
    go_simp
    refine hK.out _ _ (xL.out.trans xK.out (λ_ h=> .inl h)) (λ_=> ?_)
    clear hK K
    refine zD 12 zQ ((xL.out.trans xK.out (λ_ h=> .inl h))) ?_
    refine xJ ?_
    go_wp2_with fail
    (try simp only [Exit.inBlock,Exit.then])
    refine bodyPost_ret (zy rfl _ _ (gx+3) 30 _ (0,0) _ rfl zG.out Tryz.underlying30 rfl zI) rfl ?_
    exact⟨qJ zP.out (uF.out _ _ _ _ _ _ _ yP.out (xL.out.trans xK.out (λ_ h=> .inl h))),yB.out⟩
   |false=>
   have hb0:¬bf.length=0:=by rw [<-qZ.out];exact of_decide_eq_false HEM.out.symm
   have HB0:=qh hb0
   clear hb0
   have hres:R=none:=by
    rw [jK.out,uy xO.out.symm]
    rw [if_neg (λh=>HB0.out h.1)]
    rfl
   have zP:=qh hres
   clear hres
   have yX:=zaI.out
   have yP:=qh yX
   clear yX
   refine qL (S:=λy=>Since (λk=>k=gx+3) X20 y) (Since.refl _ _).drew (λ_=> ?_)
   obtain⟨wd,hwd⟩:∃wd,wd=X20.drew:=⟨_,rfl⟩
   rw [<-hwd]
   have HFX:=yE.out wd bad (by rw [hwd];exact yP.out.own.box) (by rw [hwd];exact yP.out.own.below.drew)
   have xL:Hid (Since (λk=>k=gx+3) X20 wd):=by rw [Hid,hwd];exact(Since.refl _ _).drew
   clear hwd
   refine zD 0 CZ.out (xL.out) ?_
   refine zD 1 zQ (xL.out) ?_
   refine zD 2 zQ (xL.out) ?_
   refine wpAnyH_take (i:=3) (v:=undef) rfl (by kernel_rfl) (by kernel_rfl) (by kernel_rfl) (λ_ _ _ h=>h) (Or.inr ⟨by rfl,rfl⟩) (xL.out) ?_
   change wpAnyH _ _ _ _ _ _ _ (Act.put _ (some 202) _) _
   simp only [Act.put,kG]
   try simp only [kH,kI]
   refine wpAnyH_take (i:=4) (v:=undef) rfl (by kernel_rfl) (by kernel_rfl) (by kernel_rfl) (λ_ _ _ h=>h) (Or.inr ⟨by rfl,rfl⟩) (xL.out) ?_
   change wpAnyH _ _ _ _ _ _ _ (Act.put _ (some 203) _) _
   simp only [Act.put,kG]
   try simp only [kH,kI]
   refine wpAnyH_take (i:=5) (v:=undef) rfl (by kernel_rfl) (by kernel_rfl) (by kernel_rfl) (λ_ _ _ h=>h) (Or.inr ⟨by rfl,rfl⟩) (xL.out) ?_
   change wpAnyH _ _ _ _ _ _ _ (Act.put _ (some 204) _) _
   simp only [Act.put,kG]
   try simp only [kH,kI]
   refine wpAnyH_take (i:=6) (v:=undef) rfl (by kernel_rfl) (by kernel_rfl) (by kernel_rfl) (λ_ _ _ h=>h) (Or.inr ⟨by rfl,rfl⟩) (xL.out) ?_
   change wpAnyH _ _ _ _ _ _ _ (Act.put _ (some 205) _) _
   simp only [Act.put,kG]
   try simp only [kH,kI]
   refine wpAnyH_take (i:=7) (v:=undef) rfl (by kernel_rfl) (by kernel_rfl) (by kernel_rfl) (λ_ _ _ h=>h) (Or.inr ⟨by rfl,rfl⟩) (xL.out) ?_
   change wpAnyH _ _ _ _ _ _ _ (Act.put _ (some 206) _) _
   simp only [Act.put,kG]
   try simp only [kH,kI]
   refine wpAnyH_take (i:=8) (v:=undef) rfl (by kernel_rfl) (by kernel_rfl) (by kernel_rfl) (λ_ _ _ h=>h) (Or.inr ⟨by rfl,rfl⟩) (xL.out) ?_
   change wpAnyH _ _ _ _ _ _ _ (Act.put _ (some 207) _) _
   simp only [Act.put,kG]
   try simp only [kH,kI]
   refine wpAnyH_take (i:=9) (v:=undef) rfl (by kernel_rfl) (by kernel_rfl) (by kernel_rfl) (λ_ _ _ h=>h) (Or.inr ⟨by rfl,rfl⟩) (xL.out) ?_
   change wpAnyH _ _ _ _ _ _ _ (Act.put _ (some 208) _) _
   simp only [Act.put,kG]
   try simp only [kH,kI]
   refine zD 10 zQ (xL.out) ?_
   refine yu 11 rfl (λK hK=> ?_)
   obtain⟨-,⟨q0,q1,q2⟩,⟨f0,f1,f2⟩,hset,hsn,hbe⟩:=HFX
   have zG:=qh hset
   have xK:=qh hsn
   have yB:=qh hbe
   clear hset hsn hbe
   go_simp
   refine hK.out _ _ (xL.out.trans xK.out (λ_ h=> .inl h)) (λ_=> ?_)
   clear hK K
   refine zD 12 zQ ((xL.out.trans xK.out (λ_ h=> .inl h))) ?_
   refine xJ ?_
   go_wp2_with fail
   (try simp only [Exit.inBlock,Exit.then])
   refine bodyPost_ret (zy rfl _ _ (gx+3) 30 _ (0,0) _ rfl zG.out Tryz.underlying30 rfl zI) rfl ?_
   exact⟨uE zP.out,yB.out⟩
 have p7:((op:Int)==7)=false:=by simp [o7]
 by_cases o8:op=8
 ·have vY:Hid ((8:Int)=x.op):=by rw [Hid, <-xO.out,o8]
  clear xO
  have xO:=vY
  clear vY
  have p8:((op:Int)==8)=true:=by simp [o8]
  clear o8
  as_aux_lemma=>
   go_upto_region 39 with fail
   have z2:=ze yQ.out.instr 2
   have hbx:=yQ.out.own.box
   have g1:=ze hbx 1
   clear hbx
   have hml:vR<mem.length:=by rw [<-vO.out];omega
   obtain⟨m0,m1⟩:=yQ.out.zkz hml
   have uU:(vR:Int)<(mn:Int):=by omega
   have zlI:=qh (yQ.out.mem vR 0)
   clear hml
   go_upto_region 40 with fail
   clear z2 g1 m0 m1 uU
   generalize World.setCell X4 _ _=X24 at zlI ⊢
   cases em with
   |true=>
    have hb0:bf.length=0:=by rw [<-qZ.out];exact of_decide_eq_true HEM.out.symm
    have HB0:=qh hb0
    clear hb0
    have hres:R=some ⟨ts1,(mem.set vR 0),bad⟩:=by
     rw [jK.out,gP xO.out.symm]
     rw [if_pos HB0.out]
     simp only [Option.map_some]
     rw [<-HVR.out,HT1.out]
     rfl
    have zP:=qh hres
    clear hres
    have yX:=zlI.out
    have yP:=qh yX
    clear yX
    obtain⟨⟨a0,a1,a2⟩,⟨q0,q1,q2⟩,⟨f0,f1,f2⟩,hset,hsn,hbe⟩:=yE.out X24 bad yP.out.own.box yP.out.own.below
    have zG:=qh hset
    have xK:=qh hsn
    have yB:=qh hbe
    clear hset hsn hbe
    go_wp2_with fail
    (try simp only [Exit.inBlock,Exit.then])
    refine bodyPost_ret (zy rfl _ _ (gx+3) 30 _ (0,0) _ rfl zG.out Tryz.underlying30 rfl zI) rfl ?_
    exact⟨qJ zP.out (uF.out _ _ _ _ _ _ _ yP.out xK.out),yB.out⟩
   |false=>
   have hb0:¬bf.length=0:=by rw [<-qZ.out];exact of_decide_eq_false HEM.out.symm
   have HB0:=qh hb0
   clear hb0
   have hres:R=none:=by
    rw [jK.out,gP xO.out.symm]
    rw [if_neg HB0.out]
    rfl
   have zP:=qh hres
   clear hres
   have yX:=zlI.out
   have yP:=qh yX
   clear yX
   obtain⟨⟨a0,a1,a2⟩,⟨q0,q1,q2⟩,⟨f0,f1,f2⟩,hset,hsn,hbe⟩:=yE.out X24 bad yP.out.own.box yP.out.own.below
   have zG:=qh hset
   have xK:=qh hsn
   have yB:=qh hbe
   clear hset hsn hbe
   go_wp2_with fail
   (try simp only [Exit.inBlock,Exit.then])
   refine bodyPost_ret (zy rfl _ _ (gx+3) 30 _ (0,0) _ rfl zG.out Tryz.underlying30 rfl zI) rfl ?_
   exact⟨uE zP.out,yB.out⟩
 have p8:((op:Int)==8)=false:=by simp [o8]
 by_cases o9:op=9
 ·have vY:Hid ((9:Int)=x.op):=by rw [Hid, <-xO.out,o9]
  clear xO
  have xO:=vY
  clear vY
  have p9:((op:Int)==9)=true:=by simp [o9]
  clear o9
  as_aux_lemma=>
   go_upto_region 42 with fail
   have hbx:=yQ.out.own.box
   have g2:=ze hbx 2
   have h2:=zB hbx 2
   clear hbx
   cases bad with
   |true=>
    have zrJ:=qh (yQ.out.isBad true)
    go_upto_region 48 with fail
    clear g2 h2
    generalize World.setCell X4 _ _=X25 at zrJ ⊢
    have hres:R=some ⟨ts1,mem,true⟩:=by
     rw [jK.out,kY xO.out.symm]
     rw [HT1.out]
     rfl
    have zP:=qh hres
    clear hres
    have yX:=zrJ.out
    have yP:=qh yX
    clear yX
    obtain⟨⟨a0,a1,a2⟩,⟨q0,q1,q2⟩,⟨f0,f1,f2⟩,hset,hsn,hbe⟩:=yE.out X25 true yP.out.own.box yP.out.own.below
    have zG:=qh hset
    have xK:=qh hsn
    have yB:=qh hbe
    clear hset hsn hbe
    go_wp2_with fail
    (try simp only [Exit.inBlock,Exit.then])
    refine bodyPost_ret (zy rfl _ _ (gx+3) 30 _ (0,0) _ rfl zG.out Tryz.underlying30 rfl zI) rfl ?_
    exact⟨qJ zP.out (uF.out _ _ _ _ _ _ _ yP.out xK.out),yB.out⟩
   |false=>
   by_cases ha0:A=0
   rotate_left
   ·have ha1:((A:Int)==0)=false:=by simp [ha0]
    have HA0:=qh ha0
    clear ha0
    have zrK:=qh (yQ.out.isBad false)
    go_upto_region 48 with fail
    clear g2 h2
    generalize World.setCell X4 _ _=X27 at zrK ⊢
    have hres:R=some ⟨ts1,mem,false⟩:=by
     rw [jK.out,kY xO.out.symm]
     rw [HT1.out, <-HA.out,decide_eq_false HA0.out]
     rfl
    have zP:=qh hres
    clear hres
    have yX:=zrK.out
    have yP:=qh yX
    clear yX
    obtain⟨⟨a0,a1,a2⟩,⟨q0,q1,q2⟩,⟨f0,f1,f2⟩,hset,hsn,hbe⟩:=yE.out X27 false yP.out.own.box yP.out.own.below
    have zG:=qh hset
    have xK:=qh hsn
    have yB:=qh hbe
    clear hset hsn hbe
    go_wp2_with fail
    (try simp only [Exit.inBlock,Exit.then])
    refine bodyPost_ret (zy rfl _ _ (gx+3) 30 _ (0,0) _ rfl zG.out Tryz.underlying30 rfl zI) rfl ?_
    exact⟨qJ zP.out (uF.out _ _ _ _ _ _ _ yP.out xK.out),yB.out⟩
   have ha1:((A:Int)==0)=true:=by simp [ha0]
   have HA0:=qh ha0
   clear ha0
   have zrL:=qh (yQ.out.isBad true)
   go_upto_region 48 with fail
   clear g2 h2
   generalize World.setCell X4 _ _=X26 at zrL ⊢
   have hres:R=some ⟨ts1,mem,true⟩:=by
    rw [jK.out,kY xO.out.symm]
    rw [HT1.out, <-HA.out,decide_eq_true HA0.out]
    rfl
   have zP:=qh hres
   clear hres
   have yX:=zrL.out
   have yP:=qh yX
   clear yX
   obtain⟨⟨a0,a1,a2⟩,⟨q0,q1,q2⟩,⟨f0,f1,f2⟩,hset,hsn,hbe⟩:=yE.out X26 true yP.out.own.box yP.out.own.below
   have zG:=qh hset
   have xK:=qh hsn
   have yB:=qh hbe
   clear hset hsn hbe
   go_wp2_with fail
   (try simp only [Exit.inBlock,Exit.then])
   refine bodyPost_ret (zy rfl _ _ (gx+3) 30 _ (0,0) _ rfl zG.out Tryz.underlying30 rfl zI) rfl ?_
   exact⟨qJ zP.out (uF.out _ _ _ _ _ _ _ yP.out xK.out),yB.out⟩
 have p9:((op:Int)==9)=false:=by simp [o9]
 by_cases o12:op=12
 rotate_left
 ·have p12:((op:Int)==12)=false:=by simp [o12]
  by_cases o13:op=13
  rotate_left
  ·have p13:((op:Int)==13)=false:=by simp [o13]
   as_aux_lemma=>
    go_upto_region 48 with fail
    have hres:R=some ⟨ts1,mem,bad⟩:=by
     rw [jK.out,zbi (by rw [<-xO.out];exact o1) (by rw [<-xO.out];exact o2) (by rw [<-xO.out];exact o3) (by rw [<-xO.out];exact o4) (by rw [<-xO.out];exact o5) (by rw [<-xO.out];exact o6) (by rw [<-xO.out];exact o7) (by rw [<-xO.out];exact o8) (by rw [<-xO.out];exact o9) (by rw [<-xO.out];exact o12) (by rw [<-xO.out];exact o13),HT1.out]
     rfl
    have zP:=qh hres
    clear hres
    have yX:=yQ.out
    have yP:=qh yX
    clear yX
    obtain⟨⟨a0,a1,a2⟩,⟨q0,q1,q2⟩,⟨f0,f1,f2⟩,hset,hsn,hbe⟩:=yE.out X4 bad yP.out.own.box yP.out.own.below
    have zG:=qh hset
    have xK:=qh hsn
    have yB:=qh hbe
    clear hset hsn hbe
    go_wp2_with fail
    (try simp only [Exit.inBlock,Exit.then])
    refine bodyPost_ret (zy rfl _ _ (gx+3) 30 _ (0,0) _ rfl zG.out Tryz.underlying30 rfl zI) rfl ?_
    exact⟨qJ zP.out (uF.out _ _ _ _ _ _ _ yP.out xK.out),yB.out⟩
  have vY:Hid ((13:Int)=x.op):=by rw [Hid, <-xO.out,o13]
  clear xO
  have xO:=vY
  clear vY
  have p13:((op:Int)==13)=true:=by simp [o13]
  clear o13
  as_aux_lemma=>
   go_upto_region 47 with fail
   have z11:=ze yQ.out.instr 11
   obtain⟨u0,v0⟩:=yQ.out.bQ HL1.out bR.out bS.out 0 (.int .i64 ((qM:Int)+1)) (by omega) rfl
   rw [Nat.add_zero] at u0 v0
   have zur:=yQ.out.set HL1.out (k:=0) (by omega) (t':=⟨dst, [r0,r1,r2,r3],bf⟩) (u:=(.int .i64 dst)) bR.out bS.out rfl (by simp) rfl
   rw [Nat.add_zero] at zur
   have zus:=qh zur
   clear zur
   go_upto_region 48 with fail
   clear u0 v0 z11
   generalize World.setCell X4 _ _=X29 at zus ⊢
   obtain⟨zzR,zzS,zzT,zzU⟩:=zus.out
   have zzV:=qh zzR
   have z8P:=qh zzS
   have z8Q:=qh zzT
   have z9u:=qh zzU
   clear zzR zzS zzT zzU zus
   have hres:R=some ⟨ts.set i ⟨dst, [r0,r1,r2,r3],bf⟩,mem,bad⟩:=by
    rw [jK.out,za8 xO.out.symm]
    simp only [Option.map_some]
    rw [<-HDS.out]
   have zP:=qh hres
   clear hres
   have yX:=zzV.out
   rw [HSS.out] at yX
   have yP:=qh yX
   clear yX
   obtain⟨⟨a0,a1,a2⟩,⟨q0,q1,q2⟩,⟨f0,f1,f2⟩,hset,hsn,hbe⟩:=yE.out X29 bad yP.out.own.box yP.out.own.below
   have zG:=qh hset
   have xK:=qh hsn
   have yB:=qh hbe
   clear hset hsn hbe
   go_wp2_with fail
   (try simp only [Exit.inBlock,Exit.then])
   refine bodyPost_ret (zy rfl _ _ (gx+3) 30 _ (0,0) _ rfl zG.out Tryz.underlying30 rfl zI) rfl ?_
   exact⟨qJ zP.out (uF.out _ _ _ _ _ _ _ yP.out xK.out),yB.out⟩
 have vY:Hid ((12:Int)=x.op):=by rw [Hid, <-xO.out,o12]
 clear xO
 have xO:=vY
 clear vY
 have p12:((op:Int)==12)=true:=by simp [o12]
 clear o12
 as_aux_lemma=>
  go_upto_region 44 with fail
  by_cases ha0:A=0
  rotate_left
  ·have ha1:((A:Int)==0)=false:=by simp [ha0]
   have HA0:=qh ha0
   clear ha0
   go_upto_region 48 with fail
   clear ha1
   have hres:R=some ⟨ts1,mem,bad⟩:=by
    rw [jK.out,gQ xO.out.symm]
    rw [<-HA.out,if_neg HA0.out,HT1.out]
    rfl
   have zP:=qh hres
   clear hres
   have yX:=yQ.out
   have yP:=qh yX
   clear yX
   obtain⟨⟨a0,a1,a2⟩,⟨q0,q1,q2⟩,⟨f0,f1,f2⟩,hset,hsn,hbe⟩:=yE.out X4 bad yP.out.own.box yP.out.own.below
   have zG:=qh hset
   have xK:=qh hsn
   have yB:=qh hbe
   clear hset hsn hbe
   go_wp2_with fail
   (try simp only [Exit.inBlock,Exit.then])
   refine bodyPost_ret (zy rfl _ _ (gx+3) 30 _ (0,0) _ rfl zG.out Tryz.underlying30 rfl zI) rfl ?_
   exact⟨qJ zP.out (uF.out _ _ _ _ _ _ _ yP.out xK.out),yB.out⟩
  have ha1:((A:Int)==0)=true:=by simp [ha0]
  have HA0:=qh ha0
  clear ha0
  go_upto_region 45 with fail
  clear ha1
  have z11:=ze yQ.out.instr 11
  obtain⟨u0,v0⟩:=yQ.out.bQ HL1.out bR.out bS.out 0 (.int .i64 ((qM:Int)+1)) (by omega) rfl
  rw [Nat.add_zero] at u0 v0
  have zut:=yQ.out.set HL1.out (k:=0) (by omega) (t':=⟨dst, [r0,r1,r2,r3],bf⟩) (u:=(.int .i64 dst)) bR.out bS.out rfl (by simp) rfl
  rw [Nat.add_zero] at zut
  have zuu:=qh zut
  clear zut
  go_upto_region 48 with fail
  clear u0 v0 z11
  generalize World.setCell X4 _ _=X28 at zuu ⊢
  obtain⟨zzW,zzX,zzY,zzZ⟩:=zuu.out
  have z0a:=qh zzW
  have z8R:=qh zzX
  have z8S:=qh zzY
  have z9v:=qh zzZ
  clear zzW zzX zzY zzZ zuu
  have hres:R=some ⟨ts.set i ⟨dst, [r0,r1,r2,r3],bf⟩,mem,bad⟩:=by
   rw [jK.out,gQ xO.out.symm]
   rw [<-HA.out,if_pos HA0.out, <-HDS.out]
   rfl
  have zP:=qh hres
  clear hres
  have yX:=z0a.out
  rw [HSS.out] at yX
  have yP:=qh yX
  clear yX
  obtain⟨⟨a0,a1,a2⟩,⟨q0,q1,q2⟩,⟨f0,f1,f2⟩,hset,hsn,hbe⟩:=yE.out X28 bad yP.out.own.box yP.out.own.below
  have zG:=qh hset
  have xK:=qh hsn
  have yB:=qh hbe
  clear hset hsn hbe
  go_wp2_with fail
  (try simp only [Exit.inBlock,Exit.then])
  refine bodyPost_ret (zy rfl _ _ (gx+3) 30 _ (0,0) _ rfl zG.out Tryz.underlying30 rfl zI) rfl ?_
  exact⟨qJ zP.out (uF.out _ _ _ _ _ _ _ yP.out xK.out),yB.out⟩
