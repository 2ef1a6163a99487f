/- Steps. -/
import Derived.Test.YtnhahkiojbanfaaGreatDoorRsOwn
import Derived.Test.YtnhahkiojbanfaaGreatDoorRsOwnS
set_option linter.all false
namespace Go.Proofs.YtnhahkiojbanfaaGreatDoor
open Go.RowKit
set_option maxRecDepth 100000
set_option maxHeartbeats 16000000
structure vR (W X:World) (gb gi tb n tc mb mn mc:Nat) (bad:Bool) (ts:List zx) (mem:List Int) (bs:List Value) (gy:List Value):Prop where
 own:vU W X gb (.slice (some ⟨tb,0,none⟩) n tc) (.slice (some ⟨mb,0,none⟩) mn mc) bad ts mem bs
 instr:X.heap[gi]? =some (.cells gy.toArray 60 (0,0))
 g1:gi≠gb
 g2:gi≠tb
 g3:gi≠mb
theorem vR.below {W X X':World} {gb gi tb n tc mb mn mc:Nat} {bad:Bool} {ts:List zx} {mem:List Int} {bs gy:List Value} (h:vR W X gb gi tb n tc mb mn mc bad ts mem bs gy) (hb:Below X.heap.size X X'):vR W X' gb gi tb n tc mb mn mc bad ts mem bs gy:=
 ⟨h.own.later hb,(hb.block _ (zw h.instr)).trans h.instr,h.g1,h.g2,h.g3⟩
theorem vR.thread {W X:World} {gb gi tb n tc mb mn mc:Nat} {bad:Bool} {ts:List zx} {mem:List Int} {bs gy:List Value} (h:vR W X gb gi tb n tc mb mn mc bad ts mem bs gy) {i k:Nat} (hi:i<ts.length) (hk:k<6) {t:zx} {b u:Value}
  (hc:t.cells b=((ts.getD i default).cells (bs.getD i (.slice none 0 0))).set k u) (hr:t.regs.length=4) (hb:X.ownsRow W.heap.size 110 2 b t.buf.length (zo zl.cells t.buf)) (hn:∀k,b.ownBlock=some k->k≠tb/\k≠mb/\k≠gb)
  (hd:∀k,b.ownBlock=some k->∀j,j<ts.length->j≠i->(bs.getD j (.slice none 0 0)).ownBlock≠some k):
  vR W (X.setCell ⟨tb,i*6+k,none⟩ u) gb gi tb n tc mb mn mc bad (ts.set i t) mem (bs.set i b) gy:=
 ⟨h.own.thread hi hk hc hr hb (λk hk=>⟨(hn k hk).1,λe=>(hn k hk).2.1 (by simpa [Value.ownBlock] using e.symm),(hn k hk).2.2⟩) hd,(Below.heap_setCell _ _ _ _ h.g2).trans h.instr,h.g1,h.g2,h.g3⟩
theorem vR.mem {W X:World} {gb gi tb n tc mb mn mc:Nat} {bad:Bool} {ts:List zx} {mem:List Int} {bs gy:List Value} (h:vR W X gb gi tb n tc mb mn mc bad ts mem bs gy) (j:Nat) (x:Int):
  vR W (X.setCell ⟨mb,j,none⟩ (.int .i64 x)) gb gi tb n tc mb mn mc bad ts (mem.set j x) bs gy:=
 ⟨h.own.mem j x,(Below.heap_setCell _ _ _ _ h.g3).trans h.instr,h.g1,h.g2,h.g3⟩
theorem vR.isBad {W X:World} {gb gi tb n tc mb mn mc:Nat} {bad:Bool} {ts:List zx} {mem:List Int} {bs gy:List Value} (h:vR W X gb gi tb n tc mb mn mc bad ts mem bs gy) (b:Bool):
  vR W (X.setCell ⟨gb,2,none⟩ (.bool b)) gb gi tb n tc mb mn mc b ts mem bs gy:=
 ⟨h.own.isBad b,(Below.heap_setCell _ _ _ _ h.g1).trans h.instr,h.g1,h.g2,h.g3⟩
theorem vR.zqi {W X:World} {gb gi tb n tc mb mn mc:Nat} {bad:Bool} {ts:List zx} {mem:List Int} {bs gy:List Value} (h:vR W X gb gi tb n tc mb mn mc bad ts mem bs gy) {i:Nat} (hi:i<ts.length):
  ∀k u,k<6->((ts.getD i default).cells (bs.getD i (.slice none 0 0)))[k]? =some u->X.cell? ⟨tb,i*6+k,none⟩=some u/\X.frozen? ⟨tb,i*6+k,none⟩=false:=by
 obtain⟨tb',tc',e, -,h2⟩:=h.own.threads hi
 cases e
 exact h2
theorem vR.zkT {W X:World} {gb gi tb n tc mb mn mc:Nat} {bad:Bool} {ts:List zx} {mem:List Int} {bs gy:List Value} (h:vR W X gb gi tb n tc mb mn mc bad ts mem bs gy) {j:Nat} (hj:j<mem.length):
  X.cell? ⟨mb,j,none⟩=some (.int .i64 (mem.getD j 0))/\X.frozen? ⟨mb,j,none⟩=false:=by
 obtain⟨mb',mc',e, -,h2⟩:=h.own.vars (by omega)
 cases e
 exact h2 j hj
theorem vR.buf {W X:World} {gb gi tb n tc mb mn mc:Nat} {bad:Bool} {ts:List zx} {mem:List Int} {bs gy:List Value} (h:vR W X gb gi tb n tc mb mn mc bad ts mem bs gy) {i:Nat} (hi:i<ts.length):
  X.ownsRow W.heap.size 110 2 (bs.getD i (.slice none 0 0)) (ts.getD i default).buf.length (zo zl.cells (ts.getD i default).buf)/\∀k,(bs.getD i (.slice none 0 0)).ownBlock=some k->k≠tb/\k≠mb/\k≠gb:=
 ⟨h.own.own.buf i hi,λk hk=>⟨λe=>(h.own.own.ne i hi k hk).1 (by rw [e];rfl),λe=>(h.own.own.ne i hi k hk).2 (by rw [e];rfl),λe=>h.own.n3 i hi (e ▸ hk)⟩⟩
theorem vR.dist {W X:World} {gb gi tb n tc mb mn mc:Nat} {bad:Bool} {ts:List zx} {mem:List Int} {bs gy:List Value} (h:vR W X gb gi tb n tc mb mn mc bad ts mem bs gy) {i:Nat} (hi:i<ts.length):
  ∀k,(bs.getD i (.slice none 0 0)).ownBlock=some k->∀j,j<ts.length->j≠i->(bs.getD j (.slice none 0 0)).ownBlock≠some k:=λk hk j hj hji=>h.own.own.one i j hi hj (λe=>hji e.symm) k hk
theorem vR.set {W X:World} {gb gi tb n tc mb mn mc:Nat} {bad:Bool} {ts:List zx} {mem:List Int} {bs gy:List Value} (h:vR W X gb gi tb n tc mb mn mc bad ts mem bs gy) {i k:Nat} (hi:i<ts.length) (hk:k<6) {t t':zx} {b u:Value}
  (ht:ts.getD i default=t) (hbs:bs.getD i (.slice none 0 0)=b) (hc:t'.cells b=(t.cells b).set k u) (hr:t'.regs.length=4) (hbf:t'.buf=t.buf):
  vR W (X.setCell ⟨tb,i*6+k,none⟩ u) gb gi tb n tc mb mn mc bad (ts.set i t') mem (bs.set i b) gy/\(ts.set i t').getD i default=t'/\(bs.set i b).getD i (.slice none 0 0)=b/\i<(ts.set i t').length:=by
 have hl:=h.own.own.len
 have hB:=h.buf hi
 rw [ht,hbs] at hB
 refine⟨h.thread hi hk (by rw [ht,hbs];exact hc) hr (by rw [hbf];exact hB.1) hB.2 (by have:=h.dist hi;rw [hbs] at this;exact this),by rw [vk hi,if_pos rfl],by rw [vk (by rw [hl];exact hi),if_pos rfl],by rw [List.length_set];exact hi⟩
theorem vR.pz {W X:World} {gb gi tb n tc mb mn mc:Nat} {bad:Bool} {ts:List zx} {mem:List Int} {bs gy:List Value} (h:vR W X gb gi tb n tc mb mn mc bad ts mem bs gy) {i:Nat} (hi:i<ts.length) {t:zx} {b:Value}
  (ht:ts.getD i default=t) (hbs:bs.getD i (.slice none 0 0)=b):∀k u,k<6->(t.cells b)[k]? =some u->X.cell? ⟨tb,i*6+k,none⟩=some u/\X.frozen? ⟨tb,i*6+k,none⟩=false:=by
 have:=h.zqi hi
 rw [ht,hbs] at this
 exact this
theorem zcq {pc r0 r1 r2 r3 v:Int} {bf:List zl} {b:Value} {k:Nat} (hk:k<4):(⟨pc, [r0,r1,r2,r3].set k v,bf⟩:zx).cells b=((⟨pc, [r0,r1,r2,r3],bf⟩:zx).cells b).set (1+k) (.int .i64 v):=by
 have:k=0\/k=1\/k=2\/k=3:=by omega
 rcases this with rfl|rfl|rfl|rfl<;>rfl
theorem zeA {pc r0 r1 r2 r3:Int} {bf:List zl} {b:Value} {k:Nat} (hk:k<4):((⟨pc, [r0,r1,r2,r3],bf⟩:zx).cells b)[1+k]? =some (.int .i64 ([r0,r1,r2,r3].getD k 0)):=by
 have:k=0\/k=1\/k=2\/k=3:=by omega
 rcases this with rfl|rfl|rfl|rfl<;>rfl
theorem zsO {pc r0 r1 r2 r3:Int} {bf:List zl} {b:Value} {k:Nat} (hk:k<4):((⟨pc, [r0,r1,r2,r3].set k 0,bf⟩:zx).cells b)[1+k]? =some (.int .i64 ([0,0,0,0].getD k 0)):=by
 have:k=0\/k=1\/k=2\/k=3:=by omega
 rcases this with rfl|rfl|rfl|rfl<;>rfl
theorem zn9 {pc r0 r1 r2 r3:Int} {bf:List zl} {b:Value} {k:Nat} (hk:k<4):(⟨pc, [r0,r1,r2,r3].set k 1,bf⟩:zx).cells b=((⟨pc, [r0,r1,r2,r3].set k 0,bf⟩:zx).cells b).set (1+k) (.int .i64 1):=by
 have:k=0\/k=1\/k=2\/k=3:=by omega
 rcases this with rfl|rfl|rfl|rfl<;>rfl
theorem uL {R:Option zi} {xa ya:Option Addr} {xn xc yn yc B:Nat} {b:Bool} {X:World} (h:R=none):∃xa' xn' xc' ya' yn' yc' s',Ending.returned (.tuple #[.agg #[.slice xa xn xc, .slice ya yn yc, .bool b], .bool false])= .returned (.tuple #[yA s' (.slice xa' xn' xc') (.slice ya' yn' yc'), .bool R.isSome])/\∀t,R=some t->s'=t/\∃bs,OwnAt B X (.slice xa' xn' xc') (.slice ya' yn' yc') t.threads t.mem bs:=
 ⟨xa,xn,xc,ya,yn,yc,⟨[], [],b⟩,by rw [h];rfl,λt e=>by rw [h] at e;cases e⟩
theorem qU {R:Option zi} {xa ya:Option Addr} {xn xc yn yc B:Nat} {s:zi} {bs:List Value} {X:World} (h:R=some s) (hs:OwnAt B X (.slice xa xn xc) (.slice ya yn yc) s.threads s.mem bs):∃xa' xn' xc' ya' yn' yc' s',Ending.returned (.tuple #[.agg #[.slice xa xn xc, .slice ya yn yc, .bool s.bad], .bool true])= .returned (.tuple #[yA s' (.slice xa' xn' xc') (.slice ya' yn' yc'), .bool R.isSome])/\∀t,R=some t->s'=t/\∃bs,OwnAt B X (.slice xa' xn' xc') (.slice ya' yn' yc') t.threads t.mem bs:=
 ⟨xa,xn,xc,ya,yn,yc,s,by rw [h];rfl,λt e=>by rw [h] at e;cases e;exact⟨rfl,bs,hs⟩⟩
theorem wC.zyq {e t:TypeId} {size:Nat} {V X:World} {v:Value} {n:Nat} {xs:List Value} {bs:List (Nat × List Value)} (h:wC e size t V X v n xs bs) {g:Nat} {cs:List Value} (hb:(g,cs)∈bs) (l:List Value) (hl:cs.length=l.length):
  Below V.heap.size V (yx X g 0 l)/\(yx X g 0 l).heap[g]? =some (.cells l.toArray t (0,0))/\V.heap.size<=g:=by
 obtain⟨h1, -,h3⟩:=h.news _ hb
 exact⟨h.below.trans ((xR l X 0).below h.below.size (λk e=>by omega)),vw l hl h1,h3⟩
theorem zl7 (w:World) (c:zD) (cv:Value) (d:Nat) (hc:yS d w cv c.threads) (m:zy) (s:zi) (sv mv:Value) (hs:zX w s sv mv) (hfit:yB c m s=true) (i:Nat) (hi:i<s.threads.length) (hb:∀j,j<s.threads.length->(s.threads.getD j default).buf.length<=100000):
  Calls Tryz.prog 49 #[yQ c cv,qg m,yA s sv mv, .int .i64 i] w λe w'=>(∃xa xn xc ya yn yc s',e= .returned (.tuple #[yA s' (.slice xa xn xc) (.slice ya yn yc), .bool (jl c m s i d).isSome])/\∀t,jl c m s i d=some t->s'=t/\∃bs,OwnAt w.heap.size w' (.slice xa xn xc) (.slice ya yn yc) t.threads t.mem bs)/\Below w.heap.size w w':=by
 obtain⟨hcode,hmay,hlen,hmem,zm8⟩:=pK hfit
 have hbd:=xV hcode
 obtain⟨zfQ,zm9⟩:=zm8 i hi
 have hins:=λk (hk:k<(c.threads.getD i []).length)=>ziW hcode (i:=i) (k:=k) (by rw [<-hlen];exact hi) hk
 clear hcode hmay zm8 hfit
 obtain⟨ca,cc,rfl, -⟩:=zh.slice hc
 obtain⟨ta,jI,rfl, -⟩:=zh.slice hs.threads
 obtain⟨ma,jw,rfl, -⟩:=zh.slice hs.mem
 have hown:=λW hW=>zol W s (.slice ta s.threads.length jI) (.slice ma s.mem.length jw) hW (by omega) (by omega) (λj hj=>by have:=hb j hj;omega)
 obtain⟨R,hR⟩:∃R,R=jl c m s i d:=⟨_,rfl⟩
 rw [<-hR]
 obtain⟨l,hl⟩:∃l,l=c.threads.getD i [] :=⟨_,rfl⟩
 obtain⟨t,ht⟩:∃t,t=s.threads.getD i default:=⟨_,rfl⟩
 have hR2:R=if t.pc<(l.length:Int) then(stepT c m s t (l.getD t.pc.toNat default) d).map (λr=>⟨s.threads.set i r.1,r.2.1,r.2.2⟩) else none:=by rw [hR,hl,ht];rfl
 rw [<-ht] at zfQ zm9
 rw [<-hl] at zm9 hins
 have HST:Hid (∀x,stepT c m s t x d=stepT c m s t x d):=λ_=>rfl
 obtain⟨C,hC⟩:∃C,C=c:=⟨_,rfl⟩
 obtain⟨M,hM⟩:∃M,M=m:=⟨_,rfl⟩
 obtain⟨S,hS⟩:∃S,S=s:=⟨_,rfl⟩
 rw [<-hC, <-hM, <-hS] at hR2
 clear HST
 have HRR:=qh hR2
 have hT:=hs.threads
 have hME:=hs.mem
 obtain⟨vars,dom,cs⟩:=c
 obtain⟨mod,bnd⟩:=m
 obtain⟨ts,mem,bad⟩:=s
 simp only [] at hc hs hi hb hlen hmem hbd hl ht hT hME hown hins zfQ zm9 hR2 ⊢
 unfold yQ qg yA
 unfold yA at hown
 simp only [] at hown ⊢
 obtain⟨n,hn⟩:∃n,n=ts.length:=⟨_,rfl⟩
 obtain⟨cn,hcn⟩:∃cn,cn=cs.length:=⟨_,rfl⟩
 obtain⟨mn,hmn⟩:∃mn,mn=mem.length:=⟨_,rfl⟩
 rw [<-hn] at hT hown hi hb hlen ⊢
 rw [<-hmn] at hME hown hmem ⊢
 rw [<-hcn] at hc hlen hbd ⊢
 rw [<-hn, <-hmn] at hs
 have jJ:=qh hlen
 have HME:=qh hmem
 have HC:=qh hC
 have HM:=qh hM
 have HS:=qh hS
 have HL:=qh hl
 have HT:=qh ht
 have HN:=qh hn
 have HCN:=qh hcn
 have vH:=qh hmn
 have HBU:=qh hb
 have z1e:=qh hins
 have HOWN:=qh hown
 have hB4:=zcA w (.cells #[.int .i64 vars, .int .i64 dom, .slice ca cn cc] 26) (.cells #[.int .i64 mod, .int .i64 bnd] 29) (.cells #[.slice ta n jI, .slice ma mn jw, .bool bad] 42) (.cells #[.slice none 0 0, .slice none 0 0, .bool false] 42)
 obtain⟨hB,h1,h2,h3,h4,h5⟩:=hB4
 have HB:=qh hB
 have H1:=qh h1
 have H2:=qh h2
 have H3:=qh h3
 have H4:=qh h4
 have H5:=qh h5
 have wQ:=qh (zh.below (qD.stays d) hc hB)
 have HSW:=qh (zX.below hs hB)
 have zj0:=qh (zh.below zae.stays hME hB)
 have z6J:=qh hME
 have z6K:=qh h5
 clear hlen hmem hC hM hS hl ht hn hcn hmn hb hins hown hB h1 h2 h3 h4 h5 hT hME hc hs hR hR2
 go_enter Tryz.func49,Tryz.ntmps49
 go_upto_region 1 with fail
 generalize World.alloc (World.alloc (World.alloc (World.alloc w _) _) _) _=W at HB H1 H2 H3 H4 H5 wQ HSW zj0 z6K ⊢
 obtain⟨gx,hgx⟩:∃gx,gx=w.heap.size:=⟨_,rfl⟩
 rw [<-hgx] at H1 H2 H3 H4 H5 ⊢
 have xg:=qh hgx
 clear hgx
 have qx:Hid (∀x,Below W.heap.size W x->x.cell? ⟨gx,0,none⟩=some (.int .i64 vars)/\x.cell? ⟨gx,1,none⟩=some (.int .i64 dom)/\x.cell? ⟨gx,2,none⟩=some (.slice ca cn cc)/\
   x.cell? ⟨gx+1,0,none⟩=some (.int .i64 mod)/\x.cell? ⟨gx+1,1,none⟩=some (.int .i64 bnd)/\x.cell? ⟨gx+2,0,none⟩=some (.slice ta n jI)/\x.cell? ⟨gx+2,1,none⟩=some (.slice ma mn jw)/\x.cell? ⟨gx+2,2,none⟩=some (.bool bad)):=λx hx=>
  ⟨zk hx _ _ (ze H1.out 0),zk hx _ _ (ze H1.out 1),zk hx _ _ (ze H1.out 2),zk hx _ _ (ze H2.out 0),zk hx _ _ (ze H2.out 1),zk hx _ _ (ze H3.out 0),zk hx _ _ (ze H3.out 1),zk hx _ _ (ze H3.out 2)⟩
 obtain⟨c0,c1,c2,c3,c4,c5,c6,c7⟩:=qx.out W (Below.refl _ _)
 go_upto_region 2 with(go_at_call 51;refine(HOWN.out W HSW.out).mono ?_;rintro e W1 ⟨⟨tv1,mv1,bs,rfl,ho1⟩,hb1⟩;have HO1:=qh ho1;have HB1:=qh hb1;obtain⟨xa,xc,rfl, -, -⟩:=xu ho1.row;obtain⟨ya,yc,rfl, -, -⟩:=xu ho1.mem;clear ho1 hb1)
 rw [<-HN.out, <-vH.out]
 have zAu:1<=vars:=hbd.1
 have z9G:2<=dom:=hbd.2.2.1
 have z9H:dom<=16:=hbd.2.2.2.1
 have bH:n<=4:=by have:=hbd.2.2.2.2.2;have:=jJ.out;omega
 have z5I:mn<=4/\1<=mn:=by have:=hbd.2.1;have:=HME.out;omega
 clear c0 c1 c2 c3 c4 c5 c6 c7 hbd
 have hol:=vU.zr1 HO1.out HB1.out bad
 rw [<-HN.out, <-vH.out] at hol
 have HOL:=qh hol
 clear hol
 generalize World.alloc W1 _=X0 at HOL ⊢
 obtain⟨gb,hgb⟩:∃gb,gb=W1.heap.size:=⟨_,rfl⟩
 rw [<-hgb] at HOL ⊢
 clear hgb HO1 HB1 HOWN
 obtain⟨tb,tc,hxa, -,htc⟩:=HOL.out.threads (by rw [<-HN.out];exact hi)
 rw [<-HN.out] at hxa
 cases hxa
 obtain⟨mb,mc,hya, -,hmc⟩:=HOL.out.vars (by rw [<-vH.out];omega)
 rw [<-vH.out] at hya
 cases hya
 have hr4:=HOL.out.own.regs i (by rw [<-HN.out];exact hi)
 obtain⟨bv,hbv⟩:∃bv,bv=bs.getD i (.slice none 0 0):=⟨_,rfl⟩
 have hbuf:=(HOL.out.own.buf i (by rw [<-HN.out];exact hi))
 have hbl:=HBU.out i hi
 rw [<-HT.out] at hr4 htc hbuf hbl
 rw [<-hbv] at htc hbuf
 obtain⟨ba,bc,rfl, -, -⟩:=xu hbuf
 obtain⟨pc,rg,bf⟩:=t
 obtain⟨r0,r1,r2,r3,rfl⟩:=wO hr4
 simp only [] at zfQ zm9 htc hbuf hbl HRR
 obtain⟨bl,kG⟩:∃bl,bl=bf.length:=⟨_,rfl⟩
 rw [<-kG] at htc hbuf hbl hbv
 obtain⟨qW,rfl⟩:∃qW:Nat,pc=qW:=⟨pc.toNat,by omega⟩
 have jd:=qh kG
 have HBV:=qh hbv
 have HTC:Hid (∀k u,k<6-> [Value.int .i64 qW, .int .i64 r0, .int .i64 r1, .int .i64 r2, .int .i64 r3, .slice ba bl bc][k]? =some u->X0.cell? ⟨tb,i*6+k,none⟩=some u/\X0.frozen? ⟨tb,i*6+k,none⟩=false):=by
  have e:(⟨(qW:Int), [r0,r1,r2,r3],bf⟩:zx).cells (.slice ba bl bc)= [Value.int .i64 qW, .int .i64 r0, .int .i64 r1, .int .i64 r2, .int .i64 r3, .slice ba bl bc] :=rfl
  rw [<-e];exact htc
 clear kG hbv hbuf htc hr4 hmc zfQ
 obtain⟨ln,hln⟩:∃ln,ln=l.length:=⟨_,rfl⟩
 rw [<-hln] at zm9 HRR
 obtain⟨eb,eo,ka,kc,yh, -,hec,hel⟩:=yS.part wQ.out i (by rw [<-HCN.out, <-jJ.out];exact hi)
 rw [<-HL.out, <-hln] at hec hel
 subst yh
 have zv8:=qh hln
 clear hln
 have HEL:=qh hel
 have HEC:Hid (∀x,Below W.heap.size W x->x.cell? ⟨eb,eo+i,none⟩=some (.slice ka ln kc)):=λx hx=>zk hx _ _ hec
 clear hel hec
 have zAv:(i:Int)<(cn:Int):=by have:=jJ.out;omega
 obtain⟨c0,c1,c2,c3,c4,c5,c6,c7⟩:=qx.out X0 HOL.out.below
 have e0:=HEC.out X0 HOL.out.below
 have t0:=(HTC.out 0 _ (by omega) rfl).1
 rw [Nat.add_zero] at t0
 have b0:=ze HOL.out.box 0
 by_cases hp:qW<ln
 rotate_left
 ·have hpN:(ln:Int)<=(qW:Int):=by omega
  have hres:R=none:=by rw [HRR.out,if_neg (by omega)]
  have zQ:=qh hres
  clear hres
  go_upto_region 3 with fail
  go_quiet (fail)
  go_upto_region 4 with fail
  generalize hX9:World.drewN X0 _=X9
  have hb9:Below X0.heap.size X0 X9:=by rw [<-hX9];exact yg (Below.refl _ _) _
  clear hX9 c0 c1 c2 c3 c4 c5 c6 c7 e0 t0 b0
  have hbw:=zH HOL.out.below hb9
  have kD:=qh hbw
  obtain⟨c0,c1,c2,c3,c4,c5,c6,c7⟩:=qx.out X9 hbw
  have hr:=(hbw.block _ (zw H4.out)).trans H4.out
  have q0:=ze hr 0
  have q1:=ze hr 1
  have q2:=ze hr 2
  have f0:=zA hr 0
  have f1:=zA hr 1
  have f2:=zA hr 2
  have hset:=zu (zu (zu hr 0 (.slice ta n jI)) 1 (.slice ma mn jw)) 2 (.bool bad)
  simp only [List.setIfInBounds_toArray,List.set_cons_zero,List.set_cons_succ] at hset
  have hS:Since (λk=>k=gx+3) X9 (((X9.setCell ⟨gx+3,0,none⟩ (.slice ta n jI)).setCell ⟨gx+3,1,none⟩ (.slice ma mn jw)).setCell ⟨gx+3,2,none⟩ (.bool bad)):=Since.setCell (F:=λk=>k=gx+3) (p:=⟨gx+3,2,none⟩) (Since.setCell (F:=λk=>k=gx+3) (p:=⟨gx+3,1,none⟩) (Since.setCell (F:=λk=>k=gx+3) (p:=⟨gx+3,0,none⟩) (Since.refl _ X9) (.inl rfl) _) (.inl rfl) _) (.inl rfl) _
  have zJ:=qh hset
  have xJ:=qh hS
  clear hr hset hS hb9 hbw
  go_wp2_with fail
  (try simp only [Exit.inBlock,Exit.then])
  refine bodyPost_ret (zC rfl _ _ (gx+3) 42 _ (0,0) _ rfl zJ.out Tryz.underlying42 rfl zM) rfl ?_
  exact⟨uL zQ.out,(HB.out.trans (kD.out.mono HB.out.size)).trans (xJ.out.below (by have:=HB.out.size;have:=kD.out.size;omega) (λk e=>by have:=xg.out;omega))⟩
 have hpI:(qW:Int)<(ln:Int):=by omega
 have hpN:¬(ln:Int)<=(qW:Int):=by omega
 go_upto_region 3 with fail
 go_quiet (fail)
 go_upto_region 5 with fail
 generalize hX9:World.drewN X0 _=X9
 have hb9:Below X0.heap.size X0 X9:=by rw [<-hX9];exact yg (Below.refl _ _) _
 clear hX9 c0 c1 c2 c3 c4 c5 c6 c7 e0 t0 b0
 have zhA:=qh (HOL.out.later hb9)
 have zj6:Hid (∀k u,k<6-> [Value.int .i64 qW, .int .i64 r0, .int .i64 r1, .int .i64 r2, .int .i64 r3, .slice ba bl bc][k]? =some u->∀x,Below X9.heap.size X9 x->x.cell? ⟨tb,i*6+k,none⟩=some u):=λk u hk hu x hx=>zk (zH hb9 hx) _ _ (HTC.out k u hk hu).1
 clear HTC
 have kD:=qh hb9
 clear hb9
 obtain⟨fb,fo,aa,ac,xba,xbc,hka, -,⟨x0,x1,x2⟩,⟨x3,x4,x5,x6⟩,⟨x7,x8,x9,x10⟩,gI,xa,xb⟩:=gD.part HEL.out qW (by rw [<-zv8.out];exact hp)
 subst hka
 obtain⟨x,hx⟩:∃x,x=l.getD qW default:=⟨_,rfl⟩
 rw [<-hx] at x0 x1 x2 x3 x4 x5 x6 x7 x8 x9 x10 gI xa xb
 have hins:=z1e.out qW (by rw [<-zv8.out];exact hp)
 rw [<-hx, <-zv8.out] at hins
 obtain⟨zAw,hrg0,zbO,z6L,z1g⟩:=hins
 rw [<-HME.out] at z1g
 have hr5:=HRR.out
 rw [if_pos hpI,show((qW:Int)).toNat=qW from rfl, <-hx] at hr5
 have HR5:=qh hr5
 clear hr5 HRR z1e hx
 obtain⟨op,hop⟩:∃v,v=x.op:=⟨_,rfl⟩
 obtain⟨wJ,zv9⟩:∃v:Nat,(v:Int)=x.reg:=⟨x.reg.toNat,by omega⟩
 obtain⟨vY,zvA⟩:∃v:Nat,(v:Int)=x.var:=⟨x.var.toNat,by omega⟩
 obtain⟨dst,hdst⟩:∃v,v=x.dest:=⟨_,rfl⟩
 obtain⟨ak,hak⟩:∃v,v=x.a.kind:=⟨_,rfl⟩
 obtain⟨an,han⟩:∃v,v=x.a.n:=⟨_,rfl⟩
 obtain⟨ao,hao⟩:∃v,v=x.a.op:=⟨_,rfl⟩
 obtain⟨al,hal⟩:∃v,v=x.a.kids.length:=⟨_,rfl⟩
 obtain⟨bk,hbk⟩:∃v,v=x.b.kind:=⟨_,rfl⟩
 obtain⟨bn,hbn⟩:∃v,v=x.b.n:=⟨_,rfl⟩
 obtain⟨bo,hbo⟩:∃v,v=x.b.op:=⟨_,rfl⟩
 obtain⟨bkl,zvB⟩:∃v,v=x.b.kids.length:=⟨_,rfl⟩
 obtain⟨A,hA⟩:∃v,v=yw [r0,r1,r2,r3] dom d x.a:=⟨_,rfl⟩
 obtain⟨B,hBB⟩:∃v,v=yw [r0,r1,r2,r3] dom d x.b:=⟨_,rfl⟩
 have z1i:Hid (∀X,Below W.heap.size W X->Calls Tryz.prog 70 #[.agg #[.int .i64 ak, .int .i64 an, .int .u8 ao, .slice aa al ac], .agg #[.int .i64 r0, .int .i64 r1, .int .i64 r2, .int .i64 r3], .int .i64 dom] X λe w'=>e= .returned (.int .i64 A)/\Below X.heap.size X w'):=λX hX=>by
  rw [hak,han,hao,hal,hA];exact zlJ r0 r1 r2 r3 dom (by omega) (by omega) d X x.a _ (xa.below hX)
 have z1j:Hid (∀X,Below W.heap.size W X->Calls Tryz.prog 70 #[.agg #[.int .i64 bk, .int .i64 bn, .int .u8 bo, .slice xba bkl xbc], .agg #[.int .i64 r0, .int .i64 r1, .int .i64 r2, .int .i64 r3], .int .i64 dom] X λe w'=>e= .returned (.int .i64 B)/\Below X.heap.size X w'):=λX hX=>by
  rw [hbk,hbn,hbo,zvB,hBB];exact zlJ r0 r1 r2 r3 dom (by omega) (by omega) d X x.b _ (xb.below hX)
 rw [<-hop] at x0
 rw [<-zv9] at x1 zbO
 have zbO:wJ<4:=by omega
 rw [<-zvA] at x2 z1g
 rw [<-hak] at x3
 rw [<-han] at x4
 rw [<-hao] at x5
 rw [<-hal] at x6
 rw [<-hbk] at x7
 rw [<-hbn] at x8
 rw [<-hbo] at x9
 rw [<-zvB] at x10
 rw [<-hdst] at gI
 have xM:=qh hop
 have HRG:=qh zv9
 have HVR:=qh zvA
 have HDS:=qh hdst
 have HA:=qh hA
 have yO:=qh hBB
 clear hop zv9 zvA hdst hak han hao hal hbk hbn hbo zvB hA hBB xa xb hrg0 z6L
 have C5:Hid (∀y,Below X9.heap.size X9 y->y.cell? ⟨gx,2,none⟩=some (.slice (some ⟨eb,eo,none⟩) cn cc)/\y.cell? ⟨eb,eo+i,none⟩=some (.slice (some ⟨fb,fo,none⟩) ln kc)/\y.cell? ⟨tb,i*6,none⟩=some (.int .i64 qW)/\
   y.cell? ⟨fb,fo+qW*12,none⟩=some (.int .i64 op)/\y.cell? ⟨fb,fo+qW*12+1,none⟩=some (.int .i64 wJ)/\y.cell? ⟨fb,fo+qW*12+2,none⟩=some (.int .i64 vY)/\
   y.cell? ⟨fb,fo+qW*12+3,none⟩=some (.int .i64 ak)/\y.cell? ⟨fb,fo+qW*12+4,none⟩=some (.int .i64 an)/\y.cell? ⟨fb,fo+qW*12+5,none⟩=some (.int .u8 ao)/\y.cell? ⟨fb,fo+qW*12+6,none⟩=some (.slice aa al ac)/\
   y.cell? ⟨fb,fo+qW*12+7,none⟩=some (.int .i64 bk)/\y.cell? ⟨fb,fo+qW*12+8,none⟩=some (.int .i64 bn)/\y.cell? ⟨fb,fo+qW*12+9,none⟩=some (.int .u8 bo)/\y.cell? ⟨fb,fo+qW*12+10,none⟩=some (.slice xba bkl xbc)/\y.cell? ⟨fb,fo+qW*12+11,none⟩=some (.int .i64 dst)):=λy hy=>
  have hw:=zH zhA.out.below hy
  have k2:=λp v h=>zk hw p v h
  ⟨(qx.out y hw).2.2.1,HEC.out y hw,zj6.out 0 _ (by omega) rfl y hy,k2 _ _ x0,k2 _ _ x1,k2 _ _ x2,k2 _ _ x3,k2 _ _ x4,k2 _ _ x5,k2 _ _ x6,k2 _ _ x7,k2 _ _ x8,k2 _ _ x9,k2 _ _ x10,k2 _ _ gI⟩
 clear x0 x1 x2 x3 x4 x5 x6 x7 x8 x9 x10 gI
 have h0:=wC.start 3 1 60 X9
 have hT0:=qh h0.drew
 clear h0
 refine jf (S:=λx=>Below X9.heap.size X9 x) (Below.refl _ _).drew (λ_=> ?_)
 obtain⟨wd,hwd⟩:∃wd,wd=X9.drew:=⟨_,rfl⟩
 rw [<-hwd] at hT0 ⊢
 clear hwd
 refine zF 0 zP (hT0.out.below) ?_
 refine zF 1 C5.out (hT0.out.below) ?_
 refine zF 2 zP (hT0.out.below) ?_
 refine zF 3 zP (hT0.out.below) ?_
 refine zF 4 C5.out (hT0.out.below) ?_
 refine zF 5 zP (hT0.out.below) ?_
 refine zF 6 zP (hT0.out.below) ?_
 refine zF 7 zP (hT0.out.below) ?_
 refine zF 8 C5.out (hT0.out.below) ?_
 refine zF 9 zP (hT0.out.below) ?_
 refine zF 10 C5.out (hT0.out.below) ?_
 refine yC 11 rfl (λK hK=> ?_)
 go_simp
 have vV:=hT0.out.alloc [.int .i64 0, .int .i64 0, .int .i64 0, .int .i64 0, .int .i64 0, .int .u8 0, .slice none 0 0, .int .i64 0, .int .i64 0, .int .u8 0, .slice none 0 0, .int .i64 0]
 refine hK.out _ _ vV.below (λ_=> ?_)
 obtain⟨gi,hgi⟩:∃n,n=wd.heap.size:=⟨_,rfl⟩
 rw [<-hgi] at vV ⊢
 clear hgi
 generalize World.alloc wd _=Xq2 at vV ⊢
 replace vV:=qh vV
 clear hK K
 refine yC 12 rfl (λK hK=> ?_)
 have hb1:=vV.out.zyq (g:=gi) (cs:= [.int .i64 0, .int .i64 0, .int .i64 0, .int .i64 0, .int .i64 0, .int .u8 0, .slice none 0 0, .int .i64 0, .int .i64 0, .int .u8 0, .slice none 0 0, .int .i64 0]) (by simp) [.int .i64 op, .int .i64 wJ, .int .i64 vY, .int .i64 ak, .int .i64 an, .int .u8 ao, .slice aa al ac, .int .i64 bk, .int .i64 bn, .int .u8 bo, .slice xba bkl xbc, .int .i64 dst] rfl
 obtain⟨hn, -, -⟩:=vV.out.news (gi, [.int .i64 0, .int .i64 0, .int .i64 0, .int .i64 0, .int .i64 0, .int .u8 0, .slice none 0 0, .int .i64 0, .int .i64 0, .int .u8 0, .slice none 0 0, .int .i64 0]) (by simp)
 have d0:=ze hn 0
 have f0:=zA hn 0
 have d1:=ze hn 1
 have f1:=zA hn 1
 have d2:=ze hn 2
 have f2:=zA hn 2
 have d3:=ze hn 3
 have f3:=zA hn 3
 have d4:=ze hn 4
 have f4:=zA hn 4
 have d5:=ze hn 5
 have f5:=zA hn 5
 have d6:=ze hn 6
 have f6:=zA hn 6
 have d7:=ze hn 7
 have f7:=zA hn 7
 have d8:=ze hn 8
 have f8:=zA hn 8
 have d9:=ze hn 9
 have f9:=zA hn 9
 have d10:=ze hn 10
 have f10:=zA hn 10
 have d11:=ze hn 11
 have f11:=zA hn 11
 clear hn
 have vC:=qh hb1
 clear hb1
 go_simp
 clear d0 f0 d1 f1 d2 f2 d3 f3 d4 f4 d5 f5 d6 f6 d7 f7 d8 f8 d9 f9 d10 f10 d11 f11
 refine hK.out _ (yx Xq2 gi 0 [.int .i64 op, .int .i64 wJ, .int .i64 vY, .int .i64 ak, .int .i64 an, .int .u8 ao, .slice aa al ac, .int .i64 bk, .int .i64 bn, .int .u8 bo, .slice xba bkl xbc, .int .i64 dst]) vC.out.1 (λ_=> ?_)
 generalize yx Xq2 gi 0 _=X1 at vC ⊢
 clear hK K
 refine xW ?_
 have hgi:=vC.out.2.2
 have yZ:vR W X1 gb gi tb n xc mb mn yc bad ts mem bs [.int .i64 op, .int .i64 wJ, .int .i64 vY, .int .i64 ak, .int .i64 an, .int .u8 ao, .slice aa al ac, .int .i64 bk, .int .i64 bn, .int .u8 bo, .slice xba bkl xbc, .int .i64 dst] :=
  ⟨zhA.out.later vC.out.1,vC.out.2.1,λe=>by have:=zw zhA.out.box;omega,λe=>by have:=(zhA.out.own.row.lt tb rfl).2;omega,λe=>by have:=(zhA.out.own.mem.lt mb rfl).2;omega⟩
 have zeB:=qh yZ
 clear hgi yZ C5
 have zvC:Hid (∀y,Below X1.heap.size X1 y->y.cell? ⟨tb,i*6+1,none⟩=some (.int .i64 r0)/\y.cell? ⟨tb,i*6+2,none⟩=some (.int .i64 r1)/\y.cell? ⟨tb,i*6+3,none⟩=some (.int .i64 r2)/\y.cell? ⟨tb,i*6+4,none⟩=some (.int .i64 r3)):=λy hy=>
  have h:=zH vC.out.1 hy
  ⟨zj6.out 1 _ (by omega) rfl y h,zj6.out 2 _ (by omega) rfl y h,zj6.out 3 _ (by omega) rfl y h,zj6.out 4 _ (by omega) rfl y h⟩
 have HB1:=qh zeB.out.own.below
 have z1k:¬gi=gx+3:=λe=>by
  have h1:=zw H4.out
  have h2:=vC.out.2.2
  have h3:=zhA.out.below.size
  omega
 have HGI:=qh z1k
 clear z1k
 go_upto_region 6 with fail
 obtain⟨t1,t2,t3,t4⟩:=zvC.out X1 (Below.refl _ _)
 have z3:=ze zeB.out.instr 3
 have z4:=ze zeB.out.instr 4
 have z5:=ze zeB.out.instr 5
 have z6:=ze zeB.out.instr 6
 have c1:=(qx.out X1 HB1.out).2.1
 refine wp_region_still_tail 8 (by kernel_rfl) (by kernel_rfl) ?_
 simp only [List.take_succ_cons,List.take_zero,List.drop_succ_cons,List.drop_zero]
 repeat still_step
 try refine wpStill_nil ?_
 change wpList _ _ _ _ _ X1.drew
 obtain⟨wd,hwd⟩:∃wd,wd=X1.drew:=⟨_,rfl⟩
 rw [<-hwd]
 have HBD:Hid (Below X1.heap.size X1 wd):=by rw [Hid,hwd];exact(Below.refl _ _).drew
 clear hwd t1 t2 t3 t4 z3 z4 z5 z6 c1
 go_upto_region 7 with(go_at_call 70;refine(z1i.out wd (zH HB1.out HBD.out)).mono ?_;rintro e X2 ⟨rfl,hb⟩;have HB2:=qh (zH HBD.out hb);clear hb)
 have zdq:=qh (zeB.out.below HB2.out)
 clear HBD
 obtain⟨t1,t2,t3,t4⟩:=zvC.out X2 HB2.out
 have z7:=ze zdq.out.instr 7
 have z8:=ze zdq.out.instr 8
 have z9:=ze zdq.out.instr 9
 have z10:=ze zdq.out.instr 10
 have c1:=(qx.out X2 zdq.out.own.below).2.1
 refine wp_region_still_tail 8 (by kernel_rfl) (by kernel_rfl) ?_
 simp only [List.take_succ_cons,List.take_zero,List.drop_succ_cons,List.drop_zero]
 repeat still_step
 try refine wpStill_nil ?_
 change wpList _ _ _ _ _ X2.drew
 obtain⟨wd',hwd⟩:∃wd,wd=X2.drew:=⟨_,rfl⟩
 rw [<-hwd]
 have HBD:Hid (Below X2.heap.size X2 wd'):=by rw [Hid,hwd];exact(Below.refl _ _).drew
 clear hwd t1 t2 t3 t4 z7 z8 z9 z10 c1
 go_upto_region 8 with(go_at_call 70;refine(z1j.out wd' (zH zdq.out.own.below HBD.out)).mono ?_;rintro e X3 ⟨rfl,hb⟩;have HB3:=qh (zH HBD.out hb);clear hb)
 have bD:=qh (zdq.out.below HB3.out)
 clear HBD
 have hin:i<ts.length:=by rw [<-HN.out];exact hi
 have hcl:(ts.getD i default).cells (bs.getD i (.slice none 0 0))= [.int .i64 qW, .int .i64 r0, .int .i64 r1, .int .i64 r2, .int .i64 r3, .slice ba bl bc] :=by rw [<-HT.out, <-HBV.out];rfl
 have hpc:=bD.out.zqi hin 0 (.int .i64 qW) (by omega) (by rw [hcl];rfl)
 rw [Nat.add_zero] at hpc
 obtain⟨t0,f0⟩:=hpc
 have hth:=bD.out.thread hin (k:=0) (by omega) (t:=⟨(qW:Int)+1, [r0,r1,r2,r3],bf⟩) (b:= .slice ba bl bc) (u:= .int .i64 ((qW:Int)+1)) (by rw [hcl];rfl) rfl (by have:=(bD.out.buf hin).1;rw [<-HT.out, <-HBV.out] at this;exact this) (by have:=(bD.out.buf hin).2;rw [<-HBV.out] at this;exact this) (by have:=bD.out.dist hin;rw [<-HBV.out] at this;exact this)
 rw [Nat.add_zero] at hth
 have yT:=qh hth
 have HIN:=qh hin
 clear hin hcl hth
 go_upto_region 9 with fail
 clear t0 f0
 generalize World.setCell X3 _ _=X4 at yT ⊢
 clear zeB zdq bD zvC zj6 zhA HB1 HB2 HB3 vC kD HOL z1i z1j HSW wQ HEL HEC HBU
 obtain⟨ts1,zj7⟩:∃ts1,ts1=ts.set i ⟨(qW:Int)+1, [r0,r1,r2,r3],bf⟩:=⟨_,rfl⟩
 obtain⟨bs1,zvD⟩:∃bs1,bs1=bs.set i (.slice ba bl bc):=⟨_,rfl⟩
 have hlb:bs.length=ts.length:=by have:=yT.out.own.own.len;rw [List.length_set,List.length_set] at this;exact this
 rw [<-zj7, <-zvD] at yT
 have pE:Hid (ts1.getD i default=⟨(qW:Int)+1, [r0,r1,r2,r3],bf⟩):=by rw [Hid,zj7,vk HIN.out,if_pos rfl]
 have pF:Hid (bs1.getD i (.slice none 0 0)= .slice ba bl bc):=by rw [Hid,zvD,vk (by rw [hlb];exact HIN.out),if_pos rfl]
 have HL1:Hid (i<ts1.length):=by rw [Hid,zj7,List.length_set];exact HIN.out
 have HSS:Hid (∀t',ts1.set i t'=ts.set i t'):=λt'=>by rw [zj7,List.set_set]
 have HT1:Hid (ts1=ts.set i ⟨(qW:Int)+1, [r0,r1,r2,r3],bf⟩):=zj7
 clear zj7 zvD hlb HT
 have HTC:Hid (∀k u,k<6-> [Value.int .i64 ((qW:Int)+1), .int .i64 r0, .int .i64 r1, .int .i64 r2, .int .i64 r3, .slice ba bl bc][k]? =some u->X4.cell? ⟨tb,i*6+k,none⟩=some u/\X4.frozen? ⟨tb,i*6+k,none⟩=false):=by
  have h:=yT.out.zqi HL1.out
  rw [pE.out,pF.out] at h
  exact h
 have jQ:Hid (R=Option.map (λr=>(⟨ts.set i r.1,r.2.1,r.2.2⟩:zi)) (stepT ⟨vars,dom,cs⟩ ⟨mod,bnd⟩ ⟨ts,mem,bad⟩ ⟨qW, [r0,r1,r2,r3],bf⟩ x d)):=by rw [Hid,HR5.out,HC.out,HM.out,HS.out]
 clear HR5 HC HM HS
 have zhb:=qh (yT.out.buf HL1.out)
 have yG:Hid (∀(X:World) (b':Bool),X.heap[gb]? =some (.cells #[.slice (some ⟨tb,0,none⟩) n xc, .slice (some ⟨mb,0,none⟩) mn yc, .bool b'] 42 (0,0))->Below W.heap.size W X->
   (X.cell? ⟨gb,0,none⟩=some (.slice (some ⟨tb,0,none⟩) n xc)/\X.cell? ⟨gb,1,none⟩=some (.slice (some ⟨mb,0,none⟩) mn yc)/\X.cell? ⟨gb,2,none⟩=some (.bool b'))/\
   (X.cell? ⟨gx+3,0,none⟩=some (.slice none 0 0)/\X.cell? ⟨gx+3,1,none⟩=some (.slice none 0 0)/\X.cell? ⟨gx+3,2,none⟩=some (.bool false))/\
   (X.frozen? ⟨gx+3,0,none⟩=false/\X.frozen? ⟨gx+3,1,none⟩=false/\X.frozen? ⟨gx+3,2,none⟩=false)/\
   (((X.setCell ⟨gx+3,0,none⟩ (.slice (some ⟨tb,0,none⟩) n xc)).setCell ⟨gx+3,1,none⟩ (.slice (some ⟨mb,0,none⟩) mn yc)).setCell ⟨gx+3,2,none⟩ (.bool b')).heap[gx+3]? =some (.cells #[.slice (some ⟨tb,0,none⟩) n xc, .slice (some ⟨mb,0,none⟩) mn yc, .bool b'] 42 (0,0))/\
   Since (λk=>k=gx+3) X (((X.setCell ⟨gx+3,0,none⟩ (.slice (some ⟨tb,0,none⟩) n xc)).setCell ⟨gx+3,1,none⟩ (.slice (some ⟨mb,0,none⟩) mn yc)).setCell ⟨gx+3,2,none⟩ (.bool b'))/\
   Below w.heap.size w (((X.setCell ⟨gx+3,0,none⟩ (.slice (some ⟨tb,0,none⟩) n xc)).setCell ⟨gx+3,1,none⟩ (.slice (some ⟨mb,0,none⟩) mn yc)).setCell ⟨gx+3,2,none⟩ (.bool b'))):=λX b' hX hW=>by
  have hres:=(hW.block _ (zw H4.out)).trans H4.out
  have hset:=zu (zu (zu hres 0 (.slice (some ⟨tb,0,none⟩) n xc)) 1 (.slice (some ⟨mb,0,none⟩) mn yc)) 2 (.bool b')
  simp only [List.setIfInBounds_toArray,List.set_cons_zero,List.set_cons_succ] at hset
  have hS:Since (λk=>k=gx+3) X (((X.setCell ⟨gx+3,0,none⟩ (.slice (some ⟨tb,0,none⟩) n xc)).setCell ⟨gx+3,1,none⟩ (.slice (some ⟨mb,0,none⟩) mn yc)).setCell ⟨gx+3,2,none⟩ (.bool b')):=Since.setCell (F:=λk=>k=gx+3) (p:=⟨gx+3,2,none⟩) (Since.setCell (F:=λk=>k=gx+3) (p:=⟨gx+3,1,none⟩) (Since.setCell (F:=λk=>k=gx+3) (p:=⟨gx+3,0,none⟩) (Since.refl _ X) (.inl rfl) _) (.inl rfl) _) (.inl rfl) _
  exact⟨⟨ze hX 0,ze hX 1,ze hX 2⟩,⟨ze hres 0,ze hres 1,ze hres 2⟩,⟨zA hres 0,zA hres 1,zA hres 2⟩,hset,hS,(HB.out.trans (hW.mono HB.out.size)).trans (hS.below (by have:=HB.out.size;have:=hW.size;omega) (λk e=>by have:=xg.out;omega))⟩
 have uM:Hid (∀(X X':World) (b':Bool) (ts':List zx) (mem':List Int) (bs' gy:List Value),vR W X gb gi tb n xc mb mn yc b' ts' mem' bs' gy->Since (λk=>k=gx+3) X X'->OwnAt w.heap.size X' (.slice (some ⟨tb,0,none⟩) n xc) (.slice (some ⟨mb,0,none⟩) mn yc) ts' mem' bs'):=λX X' b' ts' mem' bs' gy h hS=>by
  have hlt:=zw H4.out
  exact OwnAt.lower (B:=W.heap.size) (h.own.own.since hS (λk hk e=>by have:=(h.own.own.row.lt k hk).1;omega) (λk hk e=>by have:=(h.own.own.mem.lt k hk).1;omega) (λj hj k hk e=>by have:=((h.own.own.buf j hj).lt k hk).1;omega)) HB.out.size
 go_cut [15] (λs15 w'=>∃em:Bool,s15= .bool em/\w'=X4/\Hid (em=decide (bl=0)))
 case first=>
  have t5:=(HTC.out 5 _ (by omega) rfl).1
  by_cases hb0:bl=0
  ·have hb1:((bl:Int)==0)=true:=by simp [hb0]
   go_wp2_with fail
   go_meet
   case rel=>exact⟨true,by first|rfl|simp,rfl,by simp [Hid,hb0]⟩
  have hb1:((bl:Int)==0)=false:=by simp [hb0]
  go_wp2_with fail
  go_meet
  case rel=>exact⟨false,by first|rfl|simp,rfl,by simp [Hid,hb0]⟩
 case rest=>
 obtain⟨em,rfl,hww,HEM⟩:=hcut
 obtain rfl:X4=wc:=hww.symm
 have k0:=ze yT.out.instr 0
 go_upto_region 11 with fail
 clear k0
 by_cases o1:op=1
 ·have jk:Hid ((1:Int)=x.op):=by rw [Hid, <-xM.out,o1]
  clear xM
  have xM:=jk
  clear jk
  have p1:((op:Int)==1)=true:=by simp [o1]
  clear o1
  as_aux_lemma=>
   go_upto_region 12 with fail
   obtain⟨lk,hlk⟩:∃lk,lk=gL bf vY:=⟨_,rfl⟩
   have zvE:=λY hY=>zuP Y (.slice ba bl bc) bf hY (by rw [<-jd.out];omega) vY
   rw [<-hlk] at zvE
   have z6M:=qh zvE
   have HLK:=qh hlk
   clear zvE hlk
   have hbu:=zhb.out.1
   rw [pE.out,pF.out] at hbu
   have zqj:Hid (∀Y,Below X4.heap.size X4 Y->zZ Y (.slice ba bl bc) bf):=λY hY=>zZ.below (kX hbu) hY
   clear hbu
   have CZ:Hid (∀y,Below X4.heap.size X4 y->y.cell? ⟨tb,i*6+5,none⟩=some (.slice ba bl bc)/\y.cell? ⟨gi,2,none⟩=some (.int .i64 vY)):=λy hy=>⟨zk hy _ _ (HTC.out 5 _ (by omega) rfl).1,zk hy _ _ (ze yT.out.instr 2)⟩
   refine jf (S:=λx=>Below X4.heap.size X4 x) (Below.refl _ _).drew (λhH=> ?_)
   refine zB 0 CZ.out ?_
   refine zB 1 CZ.out ?_
   refine zB 2 CZ.out ?_
   refine zB 3 CZ.out ?_
   refine zB 4 CZ.out ?_
   refine zB 5 CZ.out ?_
   refine yC 6 rfl (λK hK=> ?_)
   go_simp
   refine(z6M.out X4.drew (zqj.out X4.drew hH)).mono ?_
   rintro e zeC ⟨rfl,hb⟩
   have zqk:Below X4.heap.size X4 zeC:=zH hH hb
   refine hK.out _ _ zqk (λ_=> ?_)
   clear hK K hb hH
   refine zB 7 CZ.out ?_
   refine zB 8 CZ.out ?_
   refine zB 9 CZ.out ?_
   refine zB 10 CZ.out ?_
   refine zB 11 CZ.out ?_
   refine xW ?_
   have HRY:=qh (yT.out.below zqk)
   clear zqk
   skip
   cases lk with
   |some lv=>
    simp only [Option.getD_some,Option.isSome_some]
    go_upto_region 15 with fail
    have z1:=ze HRY.out.instr 1
    refine wp_region_still_tail 7 (by kernel_rfl) (by kernel_rfl) ?_
    simp only [List.take_succ_cons,List.take_zero,List.drop_succ_cons,List.drop_zero]
    repeat still_step
    try refine wpStill_nil ?_
    change wpList _ _ _ _ _ zeC.drew
    obtain⟨X5,hX5⟩:∃wd,wd=zeC.drew:=⟨_,rfl⟩
    rw [<-hX5]
    have z6N:Hid (Below zeC.heap.size zeC X5):=by rw [Hid,hX5];exact(Below.refl _ _).drew
    clear hX5
    have zxh:=qh (HRY.out.below z6N.out)
    clear z1
    obtain⟨u0,v0⟩:=zxh.out.pz HL1.out pE.out pF.out (1+wJ) (.int .i64 ([r0,r1,r2,r3].getD wJ 0)) (by omega) (zeA zbO)
    rw [<-Nat.add_assoc] at u0 v0
    have hw6:=zxh.out.set HL1.out (k:=1+wJ) (by omega) (t':=⟨(qW:Int)+1,([r0,r1,r2,r3].set wJ lv),bf⟩) (u:=(.int .i64 lv)) pE.out pF.out (zcq zbO) (by simp) rfl
    rw [<-Nat.add_assoc] at hw6
    have HW6:=qh hw6
    clear hw6
    go_upto_region 48 with fail
    clear u0 v0
    generalize World.setCell X5 _ _=X6 at HW6 ⊢
    obtain⟨hr6,ht6,hb6,hl6⟩:=HW6.out
    have z2X:=qh hr6
    have zAx:=qh ht6
    have zAy:=qh hb6
    have HL6:=qh hl6
    clear hr6 ht6 hb6 hl6 HW6
    have hres:R=some ⟨ts.set i ⟨(qW:Int)+1, [r0,r1,r2,r3].set wJ lv,bf⟩,mem,bad⟩:=by
     rw [jQ.out,uE xM.out.symm]
     simp only [Option.map_some]
     rw [<-HVR.out, <-HLK.out, <-HRG.out]
     rfl
    have zQ:=qh hres
    clear hres
    have yZ:=z2X.out
    rw [HSS.out] at yZ
    have yP:=qh yZ
    clear yZ
    obtain⟨⟨a0,a1,a2⟩,⟨q0,q1,q2⟩,⟨f0,f1,f2⟩,hset,hsn,hbe⟩:=yG.out X6 bad yP.out.own.box yP.out.own.below
    have zJ:=qh hset
    have xJ:=qh hsn
    have yO:=qh hbe
    clear hset hsn hbe
    go_wp2_with fail
    (try simp only [Exit.inBlock,Exit.then])
    refine bodyPost_ret (zC rfl _ _ (gx+3) 42 _ (0,0) _ rfl zJ.out Tryz.underlying42 rfl zM) rfl ?_
    exact⟨qU zQ.out (uM.out _ _ _ _ _ _ _ yP.out xJ.out),yO.out⟩
   |none=>
   simp only [Option.getD_none,Option.isSome_none]
   go_upto_region 14 with fail
   obtain⟨nv,hnv⟩:∃nv,nv=mem.getD vY 0:=⟨_,rfl⟩
   obtain⟨sb,so,hsa, -,hsc⟩:=qm.part zj0.out vY (by rw [<-vH.out];omega)
   subst hsa
   rw [<-hnv] at hsc
   have HNV:=qh hnv
   clear hnv
   have s1:=zk HRY.out.own.below _ _ hsc
   have c6:=(qx.out _ HRY.out.own.below).2.2.2.2.2.2.1
   have bA:(vY:Int)<(mn:Int):=by omega
   have z2:=ze HRY.out.instr 2
   go_upto_region 15 with fail
   clear z2 s1 c6 hsc
   go_upto_region 15 with fail
   have z1:=ze HRY.out.instr 1
   refine wp_region_still_tail 7 (by kernel_rfl) (by kernel_rfl) ?_
   simp only [List.take_succ_cons,List.take_zero,List.drop_succ_cons,List.drop_zero]
   repeat still_step
   try refine wpStill_nil ?_
   change wpList _ _ _ _ _ zeC.drew
   obtain⟨X7,hX7⟩:∃wd,wd=zeC.drew:=⟨_,rfl⟩
   rw [<-hX7]
   have z6O:Hid (Below zeC.heap.size zeC X7):=by rw [Hid,hX7];exact(Below.refl _ _).drew
   clear hX7
   have zxi:=qh (HRY.out.below z6O.out)
   clear z1
   obtain⟨u0,v0⟩:=zxi.out.pz HL1.out pE.out pF.out (1+wJ) (.int .i64 ([r0,r1,r2,r3].getD wJ 0)) (by omega) (zeA zbO)
   rw [<-Nat.add_assoc] at u0 v0
   have hw8:=zxi.out.set HL1.out (k:=1+wJ) (by omega) (t':=⟨(qW:Int)+1,([r0,r1,r2,r3].set wJ nv),bf⟩) (u:=(.int .i64 nv)) pE.out pF.out (zcq zbO) (by simp) rfl
   rw [<-Nat.add_assoc] at hw8
   have HW8:=qh hw8
   clear hw8
   go_upto_region 48 with fail
   clear u0 v0
   generalize World.setCell X7 _ _=X8 at HW8 ⊢
   obtain⟨hr8,ht8,hb8,hl8⟩:=HW8.out
   have z2Y:=qh hr8
   have zAz:=qh ht8
   have zA0:=qh hb8
   have gu:=qh hl8
   clear hr8 ht8 hb8 hl8 HW8
   have hres:R=some ⟨ts.set i ⟨(qW:Int)+1, [r0,r1,r2,r3].set wJ nv,bf⟩,mem,bad⟩:=by
    rw [jQ.out,uE xM.out.symm]
    simp only [Option.map_some]
    rw [<-HVR.out, <-HLK.out, <-HRG.out]
    rw [show((vY:Int)).toNat=vY from rfl, <-HNV.out]
    rfl
   have zQ:=qh hres
   clear hres
   have yZ:=z2Y.out
   rw [HSS.out] at yZ
   have yP:=qh yZ
   clear yZ
   obtain⟨⟨a0,a1,a2⟩,⟨q0,q1,q2⟩,⟨f0,f1,f2⟩,hset,hsn,hbe⟩:=yG.out X8 bad yP.out.own.box yP.out.own.below
   have zJ:=qh hset
   have xJ:=qh hsn
   have yO:=qh hbe
   clear hset hsn hbe
   go_wp2_with fail
   (try simp only [Exit.inBlock,Exit.then])
   refine bodyPost_ret (zC rfl _ _ (gx+3) 42 _ (0,0) _ rfl zJ.out Tryz.underlying42 rfl zM) rfl ?_
   exact⟨qU zQ.out (uM.out _ _ _ _ _ _ _ yP.out xJ.out),yO.out⟩
 have p1:((op:Int)==1)=false:=by simp [o1]
 by_cases o2:op=2
 ·have jk:Hid ((2:Int)=x.op):=by rw [Hid, <-xM.out,o2]
  clear xM
  have xM:=jk
  clear jk
  have p2:((op:Int)==2)=true:=by simp [o2]
  clear o2
  as_aux_lemma=>
   go_upto_region 17 with fail
   have c3:=(qx.out _ yT.out.own.below).2.2.2.1
   by_cases hm0:mod=0
   ·have hm1:((mod:Int)==0)=true:=by simp [hm0]
    have HM0:=qh hm0
    clear hm0
    go_upto_region 18 with fail
    clear c3 hm1
    go_upto_region 18 with fail
    have z2:=ze yT.out.instr 2
    have hbx:=yT.out.own.box
    have g1:=ze hbx 1
    clear hbx
    have hml:vY<mem.length:=by rw [<-vH.out];omega
    obtain⟨m0,m1⟩:=yT.out.zkT hml
    have bA:(vY:Int)<(mn:Int):=by omega
    have zxj:=qh (yT.out.mem vY A)
    clear hml
    go_upto_region 19 with fail
    clear z2 g1 m0 m1 bA
    generalize World.setCell X4 _ _=X9 at zxj ⊢
    have hres:R=some ⟨ts1,(mem.set vY A),bad⟩:=by
     rw [jQ.out,jW xM.out.symm HM0.out]
     simp only [Option.map_some]
     rw [<-HVR.out, <-HA.out,HT1.out]
     rfl
    have zQ:=qh hres
    clear hres
    have yZ:=zxj.out
    have yP:=qh yZ
    clear yZ
    obtain⟨⟨a0,a1,a2⟩,⟨q0,q1,q2⟩,⟨f0,f1,f2⟩,hset,hsn,hbe⟩:=yG.out X9 bad yP.out.own.box yP.out.own.below
    have zJ:=qh hset
    have xJ:=qh hsn
    have yO:=qh hbe
    clear hset hsn hbe
    go_wp2_with fail
    (try simp only [Exit.inBlock,Exit.then])
    refine bodyPost_ret (zC rfl _ _ (gx+3) 42 _ (0,0) _ rfl zJ.out Tryz.underlying42 rfl zM) rfl ?_
    exact⟨qU zQ.out (uM.out _ _ _ _ _ _ _ yP.out xJ.out),yO.out⟩
   have hm1:((mod:Int)==0)=false:=by simp [hm0]
   have HM0:=qh hm0
   clear hm0
   go_upto_region 20 with fail
   clear c3 hm1
   obtain⟨ok,hok⟩:∃ok,ok=qX bf ⟨mod,bnd⟩ ⟨vY,A⟩:=⟨_,rfl⟩
   have hput:=λY hY=>znT Y (.slice ba bl bc) bf hY (by rw [<-jd.out];omega) ⟨mod,bnd⟩ ⟨vY,A⟩
   rw [<-hok] at hput
   have jE:=qh hput
   have je:=qh hok
   clear hput hok
   have hbu:=zhb.out.1
   rw [pE.out,pF.out] at hbu
   have zqj:Hid (∀Y,Below X4.heap.size X4 Y->zZ Y (.slice ba bl bc) bf):=λY hY=>zZ.below (kX hbu) hY
   clear hbu
   have CZ:Hid (∀y,Below X4.heap.size X4 y->y.cell? ⟨tb,i*6+5,none⟩=some (.slice ba bl bc)/\y.cell? ⟨gi,2,none⟩=some (.int .i64 vY)/\y.cell? ⟨gx+1,0,none⟩=some (.int .i64 mod)/\y.cell? ⟨gx+1,1,none⟩=some (.int .i64 bnd)):=λy hy=>⟨zk hy _ _ (HTC.out 5 _ (by omega) rfl).1,zk hy _ _ (ze yT.out.instr 2),(qx.out y (zH yT.out.own.below hy)).2.2.2.1,(qx.out y (zH yT.out.own.below hy)).2.2.2.2.1⟩
   refine jf (S:=λx=>Below X4.heap.size X4 x) (Below.refl _ _).drew (λhH=> ?_)
   refine zB 0 CZ.out ?_
   refine zB 1 CZ.out ?_
   refine zB 2 CZ.out ?_
   refine zB 3 CZ.out ?_
   refine zB 4 CZ.out ?_
   refine zB 5 CZ.out ?_
   refine zB 6 CZ.out ?_
   refine zB 7 CZ.out ?_
   refine zB 8 CZ.out ?_
   refine yC 9 rfl (λK hK=> ?_)
   go_simp
   refine(jE.out X4.drew (zqj.out X4.drew hH)).mono ?_
   rintro e zmA ⟨⟨bv,rfl,hbv,hrow⟩,hb⟩
   obtain⟨pa,pc2,rfl, -⟩:=zh.slice hbv
   have qZ:=qh hrow
   clear hbv hrow
   have zql:Below X4.heap.size X4 zmA:=zH hH hb
   refine hK.out _ _ zql (λ_=> ?_)
   clear hK K hb hH
   refine zB 10 CZ.out ?_
   refine zB 11 CZ.out ?_
   refine zB 12 CZ.out ?_
   refine zB 13 CZ.out ?_
   refine zB 14 CZ.out ?_
   refine xW ?_
   have HRY:=qh (yT.out.below zql)
   clear zql
   have z6P:=qh (zw yT.out.own.box)
   have z6Q:=qh (yT.out.own.own.row.lt tb rfl).2
   have z6R:=qh (yT.out.own.own.mem.lt mb rfl).2
   have z6S:=qh yT.out.own.below.size
   go_upto_region 21 with fail
   obtain⟨t5,v5⟩:=HRY.out.pz HL1.out pE.out pF.out 5 (.slice ba bl bc) (by omega) rfl
   obtain⟨pl,hpl⟩:∃pl,pl=(jM bf ⟨mod,bnd⟩ ⟨vY,A⟩).length:=⟨_,rfl⟩
   rw [<-hpl] at qZ ⊢
   have jS:=qh hpl
   clear hpl
   cases ok with
   |true=>
    have hrw:=xq (C:=W.heap.size) (qZ.out rfl) z6S.out
    have hpw:=HRY.out.thread HL1.out (k:=5) (by omega) (t:=⟨(qW:Int)+1, [r0,r1,r2,r3],jM bf ⟨mod,bnd⟩ ⟨vY,A⟩⟩) (b:= .slice pa pl pc2) (u:= .slice pa pl pc2) (by rw [pE.out,pF.out];rfl) rfl (by rw [<-jS.out];exact hrw) (λk hk=>by have h1:X4.heap.size<=k:=((qZ.out rfl).lt k hk).1;have:=z6P.out;have:=z6Q.out;have:=z6R.out;exact⟨by omega,by omega,by omega⟩) (λk hk j hj _ e=>by have h1:X4.heap.size<=k:=((qZ.out rfl).lt k hk).1;have h2:=((yT.out.own.own.buf j hj).lt k e).2;omega)
    rw [HSS.out] at hpw
    have HPW:=qh hpw
    clear hpw hrw
    go_upto_region 22 with fail
    clear t5 v5
    generalize World.setCell zmA _ _=XY at HPW ⊢
    have hres:R=some ⟨(ts.set i ⟨(qW:Int)+1, [r0,r1,r2,r3],jM bf ⟨mod,bnd⟩ ⟨vY,A⟩⟩),mem,bad⟩:=by
     rw [jQ.out,bO xM.out.symm HM0.out (by rw [<-HVR.out, <-HA.out, <-je.out])]
     simp only [Option.map_some]
     rw [<-HVR.out, <-HA.out]
    have zQ:=qh hres
    clear hres
    have yZ:=HPW.out
    have yP:=qh yZ
    clear yZ
    obtain⟨⟨a0,a1,a2⟩,⟨q0,q1,q2⟩,⟨f0,f1,f2⟩,hset,hsn,hbe⟩:=yG.out XY bad yP.out.own.box yP.out.own.below
    have zJ:=qh hset
    have xJ:=qh hsn
    have yO:=qh hbe
    clear hset hsn hbe
    go_wp2_with fail
    (try simp only [Exit.inBlock,Exit.then])
    refine bodyPost_ret (zC rfl _ _ (gx+3) 42 _ (0,0) _ rfl zJ.out Tryz.underlying42 rfl zM) rfl ?_
    exact⟨qU zQ.out (uM.out _ _ _ _ _ _ _ yP.out xJ.out),yO.out⟩
   |false=>
   have hbx:=HRY.out.own.box
   have hsY:Since (λx=>x=tb) zmA (zmA.setCell ⟨tb,i*6+5,none⟩ (.slice pa pl pc2)):=Since.setCell (F:=λx=>x=tb) (p:=⟨tb,i*6+5,none⟩) (Since.refl _ _) (.inl rfl) _
   have zcI:=(hsY.block gb (zw hbx) (λe=>HRY.out.own.n1 (by rw [e];rfl))).trans hbx
   have z1t:=HRY.out.own.below.trans (hsY.below HRY.out.own.below.size (λx e=>by have:=(HRY.out.own.own.row.lt tb rfl).1;omega))
   have xI:=qh zcI
   have z1u:=qh z1t
   clear hbx hsY zcI z1t
   have hres:R=none:=by
    rw [jQ.out,bP xM.out.symm HM0.out (by rw [<-HVR.out, <-HA.out, <-je.out])]
    rfl
   have zQ:=qh hres
   clear hres
   go_upto_region 22 with fail
   clear t5 v5
   generalize World.setCell zmA _ _=XY at xI z1u ⊢
   obtain⟨⟨a0,a1,a2⟩,⟨q0,q1,q2⟩,⟨f0,f1,f2⟩,hset, -,hbe⟩:=yG.out XY bad xI.out z1u.out
   have zJ:=qh hset
   have yO:=qh hbe
   clear hset hbe
   go_wp2_with fail
   (try simp only [Exit.inBlock,Exit.then])
   refine bodyPost_ret (zC rfl _ _ (gx+3) 42 _ (0,0) _ rfl zJ.out Tryz.underlying42 rfl zM) rfl ?_
   exact⟨uL zQ.out,yO.out⟩
 have p2:((op:Int)==2)=false:=by simp [o2]
 by_cases o3:op=3
 ·have jk:Hid ((3:Int)=x.op):=by rw [Hid, <-xM.out,o3]
  clear xM
  have xM:=jk
  clear jk
  have p3:((op:Int)==3)=true:=by simp [o3]
  clear o3
  as_aux_lemma=>
   go_upto_region 24 with fail
   have z1:=ze yT.out.instr 1
   refine wp_region_still_tail 7 (by kernel_rfl) (by kernel_rfl) ?_
   simp only [List.take_succ_cons,List.take_zero,List.drop_succ_cons,List.drop_zero]
   repeat still_step
   try refine wpStill_nil ?_
   change wpList _ _ _ _ _ X4.drew
   obtain⟨X10,zvF⟩:∃wd,wd=X4.drew:=⟨_,rfl⟩
   rw [<-zvF]
   have z2Z:Hid (Below X4.heap.size X4 X10):=by rw [Hid,zvF];exact(Below.refl _ _).drew
   clear zvF
   have zsZ:=qh (yT.out.below z2Z.out)
   clear z1
   obtain⟨u0,v0⟩:=zsZ.out.pz HL1.out pE.out pF.out (1+wJ) (.int .i64 ([r0,r1,r2,r3].getD wJ 0)) (by omega) (zeA zbO)
   rw [<-Nat.add_assoc] at u0 v0
   have zcN:=zsZ.out.set HL1.out (k:=1+wJ) (by omega) (t':=⟨(qW:Int)+1,([r0,r1,r2,r3].set wJ A),bf⟩) (u:=(.int .i64 A)) pE.out pF.out (zcq zbO) (by simp) rfl
   rw [<-Nat.add_assoc] at zcN
   have zvG:=qh zcN
   clear zcN
   go_upto_region 48 with fail
   clear u0 v0
   generalize World.setCell X10 _ _=X11 at zvG ⊢
   obtain⟨z1v,z1w,z1x,z1y⟩:=zvG.out
   have z1z:=qh z1v
   have z9I:=qh z1w
   have z9J:=qh z1x
   have zA1:=qh z1y
   clear z1v z1w z1x z1y zvG
   have hres:R=some ⟨ts.set i ⟨(qW:Int)+1, [r0,r1,r2,r3].set wJ A,bf⟩,mem,bad⟩:=by
    rw [jQ.out,za9 xM.out.symm]
    simp only [Option.map_some]
    rw [<-HA.out, <-HRG.out]
    rfl
   have zQ:=qh hres
   clear hres
   have yZ:=z1z.out
   rw [HSS.out] at yZ
   have yP:=qh yZ
   clear yZ
   obtain⟨⟨a0,a1,a2⟩,⟨q0,q1,q2⟩,⟨f0,f1,f2⟩,hset,hsn,hbe⟩:=yG.out X11 bad yP.out.own.box yP.out.own.below
   have zJ:=qh hset
   have xJ:=qh hsn
   have yO:=qh hbe
   clear hset hsn hbe
   go_wp2_with fail
   (try simp only [Exit.inBlock,Exit.then])
   refine bodyPost_ret (zC rfl _ _ (gx+3) 42 _ (0,0) _ rfl zJ.out Tryz.underlying42 rfl zM) rfl ?_
   exact⟨qU zQ.out (uM.out _ _ _ _ _ _ _ yP.out xJ.out),yO.out⟩
 have p3:((op:Int)==3)=false:=by simp [o3]
 by_cases o4:op=4
 ·have jk:Hid ((4:Int)=x.op):=by rw [Hid, <-xM.out,o4]
  clear xM
  have xM:=jk
  clear jk
  have p4:((op:Int)==4)=true:=by simp [o4]
  clear o4
  as_aux_lemma=>
   go_upto_region 26 with fail
   cases em with
   |true=>
    have hb0:bf.length=0:=by rw [<-jd.out];exact of_decide_eq_true HEM.out.symm
    have HB0:=qh hb0
    clear hb0
    have hres:R=some ⟨ts1,mem,bad⟩:=by
     rw [jQ.out,gF xM.out.symm]
     rw [if_pos HB0.out,HT1.out]
     rfl
    have zQ:=qh hres
    clear hres
    have yZ:=yT.out
    have yP:=qh yZ
    clear yZ
    obtain⟨⟨a0,a1,a2⟩,⟨q0,q1,q2⟩,⟨f0,f1,f2⟩,hset,hsn,hbe⟩:=yG.out X4 bad yP.out.own.box yP.out.own.below
    have zJ:=qh hset
    have xJ:=qh hsn
    have yO:=qh hbe
    clear hset hsn hbe
    go_wp2_with fail
    (try simp only [Exit.inBlock,Exit.then])
    refine bodyPost_ret (zC rfl _ _ (gx+3) 42 _ (0,0) _ rfl zJ.out Tryz.underlying42 rfl zM) rfl ?_
    exact⟨qU zQ.out (uM.out _ _ _ _ _ _ _ yP.out xJ.out),yO.out⟩
   |false=>
   have hb0:¬bf.length=0:=by rw [<-jd.out];exact of_decide_eq_false HEM.out.symm
   have HB0:=qh hb0
   clear hb0
   have hres:R=none:=by
    rw [jQ.out,gF xM.out.symm]
    rw [if_neg HB0.out]
    rfl
   have zQ:=qh hres
   clear hres
   have yZ:=yT.out
   have yP:=qh yZ
   clear yZ
   obtain⟨⟨a0,a1,a2⟩,⟨q0,q1,q2⟩,⟨f0,f1,f2⟩,hset,hsn,hbe⟩:=yG.out X4 bad yP.out.own.box yP.out.own.below
   have zJ:=qh hset
   have xJ:=qh hsn
   have yO:=qh hbe
   clear hset hsn hbe
   go_wp2_with fail
   (try simp only [Exit.inBlock,Exit.then])
   refine bodyPost_ret (zC rfl _ _ (gx+3) 42 _ (0,0) _ rfl zJ.out Tryz.underlying42 rfl zM) rfl ?_
   exact⟨uL zQ.out,yO.out⟩
 have p4:((op:Int)==4)=false:=by simp [o4]
 by_cases o5:op=5
 ·have jk:Hid ((5:Int)=x.op):=by rw [Hid, <-xM.out,o5]
  clear xM
  have xM:=jk
  clear jk
  have p5:((op:Int)==5)=true:=by simp [o5]
  clear o5
  as_aux_lemma=>
   go_upto_region 28 with fail
   have CZ:Hid (∀y,Since (λk=>k=gx+3) X4 y->y.cell? ⟨gb,0,none⟩=some (.slice (some ⟨tb,0,none⟩) n xc)/\y.cell? ⟨gb,1,none⟩=some (.slice (some ⟨mb,0,none⟩) mn yc)/\y.cell? ⟨gb,2,none⟩=some (.bool bad)/\y.cell? ⟨gx+1,0,none⟩=some (.int .i64 mod)):=λy hy=>by
    have h1:=yT.out.own.box
    have hlo:=yT.out.own.lo
    have hlt:=zw H4.out
    have h2:=(hy.block _ (zw h1) (by omega)).trans h1
    have h3:=(yT.out.own.below.block _ (zw H2.out)).trans H2.out
    have h4:=(hy.block _ (zw h3) (by omega)).trans h3
    exact⟨ze h2 0,ze h2 1,ze h2 2,ze h4 0⟩
   cases em with
   |true=>
    have hb0:bf.length=0:=by rw [<-jd.out];exact of_decide_eq_true HEM.out.symm
    have HB0:=qh hb0
    clear hb0
    have hres:R=some ⟨ts1,mem,bad⟩:=by
     rw [jQ.out,wU xM.out.symm]
     rw [if_pos (.inl HB0.out),HT1.out]
     rfl
    have zQ:=qh hres
    clear hres
    have yZ:=yT.out
    have yP:=qh yZ
    clear yZ
    refine jf (S:=λy=>Since (λk=>k=gx+3) X4 y) (Since.refl _ _).drew (λ_=> ?_)
    obtain⟨wd,hwd⟩:∃wd,wd=X4.drew:=⟨_,rfl⟩
    rw [<-hwd]
    have HFX:=yG.out wd bad (by rw [hwd];exact yP.out.own.box) (by rw [hwd];exact yP.out.own.below.drew)
    have xK:Hid (Since (λk=>k=gx+3) X4 wd):=by rw [Hid,hwd];exact(Since.refl _ _).drew
    clear hwd
    refine zF 0 CZ.out (xK.out) ?_
    refine zF 1 zP (xK.out) ?_
    refine zF 2 zP (xK.out) ?_
    refine wpAnyH_take (i:=3) (v:=undef) rfl (by kernel_rfl) (by kernel_rfl) (by kernel_rfl) (λ_ _ _ h=>h) (Or.inr ⟨by rfl,rfl⟩) (xK.out) ?_
    change wpAnyH _ _ _ _ _ _ _ (Act.put _ (some 158) _) _
    simp only [Act.put,kJ]
    try simp only [kK,kL]
    refine wpAnyH_take (i:=4) (v:=undef) rfl (by kernel_rfl) (by kernel_rfl) (by kernel_rfl) (λ_ _ _ h=>h) (Or.inr ⟨by rfl,rfl⟩) (xK.out) ?_
    change wpAnyH _ _ _ _ _ _ _ (Act.put _ (some 159) _) _
    simp only [Act.put,kJ]
    try simp only [kK,kL]
    refine wpAnyH_take (i:=5) (v:=undef) rfl (by kernel_rfl) (by kernel_rfl) (by kernel_rfl) (λ_ _ _ h=>h) (Or.inr ⟨by rfl,rfl⟩) (xK.out) ?_
    change wpAnyH _ _ _ _ _ _ _ (Act.put _ (some 160) _) _
    simp only [Act.put,kJ]
    try simp only [kK,kL]
    refine zF 6 zP (xK.out) ?_
    refine yC 7 rfl (λK hK=> ?_)
    obtain⟨-,⟨q0,q1,q2⟩,⟨f0,f1,f2⟩,hset,hsn,hbe⟩:=HFX
    have zJ:=qh hset
    have xJ:=qh hsn
    have yO:=qh hbe
    clear hset hsn hbe
    go_simp
    refine hK.out _ _ (xK.out.trans xJ.out (λ_ h=> .inl h)) (λ_=> ?_)
    clear hK K
    refine zF 8 zP ((xK.out.trans xJ.out (λ_ h=> .inl h))) ?_
    refine xW ?_
    go_wp2_with fail
    (try simp only [Exit.inBlock,Exit.then])
    refine bodyPost_ret (zC rfl _ _ (gx+3) 42 _ (0,0) _ rfl zJ.out Tryz.underlying42 rfl zM) rfl ?_
    exact⟨qU zQ.out (uM.out _ _ _ _ _ _ _ yP.out (xK.out.trans xJ.out (λ_ h=> .inl h))),yO.out⟩
   |false=>
   have hb0:¬bf.length=0:=by rw [<-jd.out];exact of_decide_eq_false HEM.out.symm
   have HB0:=qh hb0
   clear hb0
   by_cases hm2:mod=2
   rotate_left
   ·have hm3:((mod:Int) !=2)=true:=by simp [hm2]
    have HM2:=qh hm2
    clear hm2
    have hres:R=some ⟨ts1,mem,bad⟩:=by
     rw [jQ.out,wU xM.out.symm]
     rw [if_pos (.inr HM2.out),HT1.out]
     rfl
    have zQ:=qh hres
    clear hres
    have yZ:=yT.out
    have yP:=qh yZ
    clear yZ
    refine jf (S:=λy=>Since (λk=>k=gx+3) X4 y) (Since.refl _ _).drew (λ_=> ?_)
    obtain⟨wd,hwd⟩:∃wd,wd=X4.drew:=⟨_,rfl⟩
    rw [<-hwd]
    have HFX:=yG.out wd bad (by rw [hwd];exact yP.out.own.box) (by rw [hwd];exact yP.out.own.below.drew)
    have xK:Hid (Since (λk=>k=gx+3) X4 wd):=by rw [Hid,hwd];exact(Since.refl _ _).drew
    clear hwd
    refine zF 0 CZ.out (xK.out) ?_
    refine zF 1 zP (xK.out) ?_
    refine zF 2 zP (xK.out) ?_
    refine zF 3 zP (xK.out) ?_
    refine zF 4 CZ.out (xK.out) ?_
    refine zF 5 zP (xK.out) ?_
    refine zF 6 zP (xK.out) ?_
    refine yC 7 rfl (λK hK=> ?_)
    obtain⟨-,⟨q0,q1,q2⟩,⟨f0,f1,f2⟩,hset,hsn,hbe⟩:=HFX
    have zJ:=qh hset
    have xJ:=qh hsn
    have yO:=qh hbe
    clear hset hsn hbe
    go_simp
    refine hK.out _ _ (xK.out.trans xJ.out (λ_ h=> .inl h)) (λ_=> ?_)
    clear hK K
    refine zF 8 zP ((xK.out.trans xJ.out (λ_ h=> .inl h))) ?_
    refine xW ?_
    go_wp2_with fail
    (try simp only [Exit.inBlock,Exit.then])
    refine bodyPost_ret (zC rfl _ _ (gx+3) 42 _ (0,0) _ rfl zJ.out Tryz.underlying42 rfl zM) rfl ?_
    exact⟨qU zQ.out (uM.out _ _ _ _ _ _ _ yP.out (xK.out.trans xJ.out (λ_ h=> .inl h))),yO.out⟩
   have hm3:((mod:Int) !=2)=false:=by simp [hm2]
   have HM2:=qh hm2
   clear hm2
   have hres:R=none:=by
    rw [jQ.out,wU xM.out.symm]
    rw [if_neg (λh=>h.elim HB0.out (λh=>h HM2.out))]
    rfl
   have zQ:=qh hres
   clear hres
   have yZ:=yT.out
   have yP:=qh yZ
   clear yZ
   refine jf (S:=λy=>Since (λk=>k=gx+3) X4 y) (Since.refl _ _).drew (λ_=> ?_)
   obtain⟨wd,hwd⟩:∃wd,wd=X4.drew:=⟨_,rfl⟩
   rw [<-hwd]
   have HFX:=yG.out wd bad (by rw [hwd];exact yP.out.own.box) (by rw [hwd];exact yP.out.own.below.drew)
   have xK:Hid (Since (λk=>k=gx+3) X4 wd):=by rw [Hid,hwd];exact(Since.refl _ _).drew
   clear hwd
   refine zF 0 CZ.out (xK.out) ?_
   refine zF 1 zP (xK.out) ?_
   refine zF 2 zP (xK.out) ?_
   refine zF 3 zP (xK.out) ?_
   refine zF 4 CZ.out (xK.out) ?_
   refine zF 5 zP (xK.out) ?_
   refine zF 6 zP (xK.out) ?_
   refine yC 7 rfl (λK hK=> ?_)
   obtain⟨-,⟨q0,q1,q2⟩,⟨f0,f1,f2⟩,hset,hsn,hbe⟩:=HFX
   have zJ:=qh hset
   have xJ:=qh hsn
   have yO:=qh hbe
   clear hset hsn hbe
   go_simp
   refine hK.out _ _ (xK.out.trans xJ.out (λ_ h=> .inl h)) (λ_=> ?_)
   clear hK K
   refine zF 8 zP ((xK.out.trans xJ.out (λ_ h=> .inl h))) ?_
   refine xW ?_
   go_wp2_with fail
   (try simp only [Exit.inBlock,Exit.then])
   refine bodyPost_ret (zC rfl _ _ (gx+3) 42 _ (0,0) _ rfl zJ.out Tryz.underlying42 rfl zM) rfl ?_
   exact⟨uL zQ.out,yO.out⟩
 have p5:((op:Int)==5)=false:=by simp [o5]
 by_cases o6:op=6
 ·have jk:Hid ((6:Int)=x.op):=by rw [Hid, <-xM.out,o6]
  clear xM
  have xM:=jk
  clear jk
  have p6:((op:Int)==6)=true:=by simp [o6]
  clear o6
  as_aux_lemma=>
   go_upto_region 30 with fail
   have z1:=ze yT.out.instr 1
   refine wp_region_still_tail 6 (by kernel_rfl) (by kernel_rfl) ?_
   simp only [List.take_succ_cons,List.take_zero,List.drop_succ_cons,List.drop_zero]
   repeat still_step
   try refine wpStill_nil ?_
   change wpList _ _ _ _ _ X4.drew
   obtain⟨X15,zvH⟩:∃wd,wd=X4.drew:=⟨_,rfl⟩
   rw [<-zvH]
   have z3a:Hid (Below X4.heap.size X4 X15):=by rw [Hid,zvH];exact(Below.refl _ _).drew
   clear zvH
   have zta:=qh (yT.out.below z3a.out)
   clear z1
   obtain⟨u0,v0⟩:=zta.out.pz HL1.out pE.out pF.out (1+wJ) (.int .i64 ([r0,r1,r2,r3].getD wJ 0)) (by omega) (zeA zbO)
   rw [<-Nat.add_assoc] at u0 v0
   have hw16:=zta.out.set HL1.out (k:=1+wJ) (by omega) (t':=⟨(qW:Int)+1,([r0,r1,r2,r3].set wJ 0),bf⟩) (u:=(.int .i64 0)) pE.out pF.out (zcq zbO) (by simp) rfl
   rw [<-Nat.add_assoc] at hw16
   have zvI:=qh hw16
   clear hw16
   go_upto_region 31 with fail
   clear u0 v0
   generalize World.setCell X15 _ _=X16 at zvI ⊢
   obtain⟨z14,z15,z16,z18⟩:=zvI.out
   have zaY:=qh z14
   have zxk:=qh z15
   have zxl:=qh z16
   have z19:=qh z18
   clear z14 z15 z16 z18 zvI
   obtain⟨nv,hnv⟩:∃nv,nv=mem.getD vY 0:=⟨_,rfl⟩
   obtain⟨sb,so,hsa, -,hsc⟩:=qm.part zj0.out vY (by rw [<-vH.out];omega)
   subst hsa
   rw [<-hnv] at hsc
   have HNV:=qh hnv
   clear hnv
   have s1:=zk zaY.out.own.below _ _ hsc
   have c6:=(qx.out _ zaY.out.own.below).2.2.2.2.2.2.1
   have bA:(vY:Int)<(mn:Int):=by omega
   have z2:=ze zaY.out.instr 2
   by_cases ha0:nv=A
   rotate_left
   ·have ha1:((nv:Int)==A)=false:=by simp [ha0]
    have HA0:=qh ha0
    clear ha0
    go_upto_region 34 with fail
    clear z2 s1 c6 hsc bA ha1
    cases em with
    |true=>
     have hb0:bf.length=0:=by rw [<-jd.out];exact of_decide_eq_true HEM.out.symm
     have HB0:=qh hb0
     clear hb0
     have hres:R=some ⟨ts.set i ⟨(qW:Int)+1, [r0,r1,r2,r3].set wJ 0,bf⟩,mem,bad⟩:=by
      rw [jQ.out,uG xM.out.symm (by rw [<-HVR.out, <-HA.out];exact λe=>HA0.out (HNV.out.trans e)),if_pos HB0.out]
      simp only [Option.map_some]
      rw [<-HRG.out]
      rfl
     have zQ:=qh hres
     clear hres
     have yZ:=zaY.out
     rw [HSS.out] at yZ
     have yP:=qh yZ
     clear yZ
     obtain⟨⟨a0,a1,a2⟩,⟨q0,q1,q2⟩,⟨f0,f1,f2⟩,hset,hsn,hbe⟩:=yG.out X16 bad yP.out.own.box yP.out.own.below
     have zJ:=qh hset
     have xJ:=qh hsn
     have yO:=qh hbe
     clear hset hsn hbe
     go_wp2_with fail
     (try simp only [Exit.inBlock,Exit.then])
     refine bodyPost_ret (zC rfl _ _ (gx+3) 42 _ (0,0) _ rfl zJ.out Tryz.underlying42 rfl zM) rfl ?_
     exact⟨qU zQ.out (uM.out _ _ _ _ _ _ _ yP.out xJ.out),yO.out⟩
    |false=>
    have hb0:¬bf.length=0:=by rw [<-jd.out];exact of_decide_eq_false HEM.out.symm
    have HB0:=qh hb0
    clear hb0
    have hres:R=none:=by
     rw [jQ.out,uG xM.out.symm (by rw [<-HVR.out, <-HA.out];exact λe=>HA0.out (HNV.out.trans e)),if_neg HB0.out]
     rfl
    have zQ:=qh hres
    clear hres
    have yZ:=zaY.out
    have yP:=qh yZ
    clear yZ
    obtain⟨⟨a0,a1,a2⟩,⟨q0,q1,q2⟩,⟨f0,f1,f2⟩,hset,hsn,hbe⟩:=yG.out X16 bad yP.out.own.box yP.out.own.below
    have zJ:=qh hset
    have xJ:=qh hsn
    have yO:=qh hbe
    clear hset hsn hbe
    go_wp2_with fail
    (try simp only [Exit.inBlock,Exit.then])
    refine bodyPost_ret (zC rfl _ _ (gx+3) 42 _ (0,0) _ rfl zJ.out Tryz.underlying42 rfl zM) rfl ?_
    exact⟨uL zQ.out,yO.out⟩
   have ha1:((nv:Int)==A)=true:=by simp [ha0]
   have HA0:=qh ha0
   clear ha0
   go_upto_region 32 with fail
   clear z2 s1 c6 hsc bA ha1
   go_upto_region 32 with fail
   have z2:=ze zaY.out.instr 2
   have hbx:=zaY.out.own.box
   have g1:=ze hbx 1
   clear hbx
   have hml:vY<mem.length:=by rw [<-vH.out];omega
   obtain⟨m0,m1⟩:=zaY.out.zkT hml
   have bA:(vY:Int)<(mn:Int):=by omega
   have zmB:=qh (zaY.out.mem vY B)
   clear hml
   go_upto_region 33 with fail
   clear z2 g1 m0 m1 bA
   generalize World.setCell X16 _ _=X17 at zmB ⊢
   go_upto_region 33 with fail
   have z1:=ze zmB.out.instr 1
   refine wp_region_still_tail 6 (by kernel_rfl) (by kernel_rfl) ?_
   simp only [List.take_succ_cons,List.take_zero,List.drop_succ_cons,List.drop_zero]
   repeat still_step
   try refine wpStill_nil ?_
   change wpList _ _ _ _ _ X17.drew
   obtain⟨X18,zvJ⟩:∃wd,wd=X17.drew:=⟨_,rfl⟩
   rw [<-zvJ]
   have z3b:Hid (Below X17.heap.size X17 X18):=by rw [Hid,zvJ];exact(Below.refl _ _).drew
   clear zvJ
   have ztb:=qh (zmB.out.below z3b.out)
   clear z1
   obtain⟨u0,v0⟩:=ztb.out.pz z19.out zxk.out zxl.out (1+wJ) (.int .i64 ([0,0,0,0].getD wJ 0)) (by omega) (zsO zbO)
   rw [<-Nat.add_assoc] at u0 v0
   have zvK:=ztb.out.set z19.out (k:=1+wJ) (by omega) (t':=⟨(qW:Int)+1,([r0,r1,r2,r3].set wJ 1),bf⟩) (u:=(.int .i64 1)) zxk.out zxl.out (zn9 zbO) (by simp) rfl
   rw [<-Nat.add_assoc] at zvK
   have zvL:=qh zvK
   clear zvK
   go_upto_region 34 with fail
   clear u0 v0
   generalize World.setCell X18 _ _=X19 at zvL ⊢
   obtain⟨z1A,z1B,z1C,z1D⟩:=zvL.out
   have ztc:=qh z1A
   have z9K:=qh z1B
   have z9L:=qh z1C
   have zA2:=qh z1D
   clear z1A z1B z1C z1D zvL
   cases em with
   |true=>
    have hb0:bf.length=0:=by rw [<-jd.out];exact of_decide_eq_true HEM.out.symm
    have HB0:=qh hb0
    clear hb0
    have hres:R=some ⟨ts.set i ⟨(qW:Int)+1, [r0,r1,r2,r3].set wJ 1,bf⟩,(mem.set vY B),bad⟩:=by
     rw [jQ.out,uF xM.out.symm (by rw [<-HVR.out, <-HA.out, <-HA0.out,HNV.out];rfl),if_pos HB0.out]
     simp only [Option.map_some]
     rw [<-HVR.out, <-yO.out, <-HRG.out]
     rfl
    have zQ:=qh hres
    clear hres
    have yZ:=ztc.out
    rw [List.set_set,HSS.out] at yZ
    have yP:=qh yZ
    clear yZ
    obtain⟨⟨a0,a1,a2⟩,⟨q0,q1,q2⟩,⟨f0,f1,f2⟩,hset,hsn,hbe⟩:=yG.out X19 bad yP.out.own.box yP.out.own.below
    have zJ:=qh hset
    have xJ:=qh hsn
    have yO:=qh hbe
    clear hset hsn hbe
    go_wp2_with fail
    (try simp only [Exit.inBlock,Exit.then])
    refine bodyPost_ret (zC rfl _ _ (gx+3) 42 _ (0,0) _ rfl zJ.out Tryz.underlying42 rfl zM) rfl ?_
    exact⟨qU zQ.out (uM.out _ _ _ _ _ _ _ yP.out xJ.out),yO.out⟩
   |false=>
   have hb0:¬bf.length=0:=by rw [<-jd.out];exact of_decide_eq_false HEM.out.symm
   have HB0:=qh hb0
   clear hb0
   have hres:R=none:=by
    rw [jQ.out,uF xM.out.symm (by rw [<-HVR.out, <-HA.out, <-HA0.out,HNV.out];rfl),if_neg HB0.out]
    rfl
   have zQ:=qh hres
   clear hres
   have yZ:=ztc.out
   have yP:=qh yZ
   clear yZ
   obtain⟨⟨a0,a1,a2⟩,⟨q0,q1,q2⟩,⟨f0,f1,f2⟩,hset,hsn,hbe⟩:=yG.out X19 bad yP.out.own.box yP.out.own.below
   have zJ:=qh hset
   have xJ:=qh hsn
   have yO:=qh hbe
   clear hset hsn hbe
   go_wp2_with fail
   (try simp only [Exit.inBlock,Exit.then])
   refine bodyPost_ret (zC rfl _ _ (gx+3) 42 _ (0,0) _ rfl zJ.out Tryz.underlying42 rfl zM) rfl ?_
   exact⟨uL zQ.out,yO.out⟩
 have p6:((op:Int)==6)=false:=by simp [o6]
 by_cases o7:op=7
 ·have jk:Hid ((7:Int)=x.op):=by rw [Hid, <-xM.out,o7]
  clear xM
  have xM:=jk
  clear jk
  have p7:((op:Int)==7)=true:=by simp [o7]
  clear o7
  as_aux_lemma=>
   obtain⟨nv,hnv⟩:∃nv,nv=mem.getD vY 0:=⟨_,rfl⟩
   obtain⟨sb,so,hsa,hsb,hsc⟩:=qm.part zj0.out vY (by rw [<-vH.out];omega)
   subst hsa
   rw [<-hnv] at hsc
   have HNV:=qh hnv
   have HSC:=qh hsc
   clear hnv hsc hsb
   obtain⟨sb2,so2,he2,z6T, -⟩:=qm.part z6J.out vY (by rw [<-vH.out];omega)
   cases he2
   have HSG:Hid (¬sb=gx+3):=λe=>by have:=xg.out;omega
   clear z6T
   go_upto_region 36 with fail
   have z2:=ze yT.out.instr 2
   have hbx:=yT.out.own.box
   have g1:=ze hbx 1
   clear hbx
   have hml:vY<mem.length:=by rw [<-vH.out];omega
   obtain⟨m0,m1⟩:=yT.out.zkT hml
   have bA:(vY:Int)<(mn:Int):=by omega
   have zaZ:=qh (yT.out.mem vY 1)
   clear hml
   go_upto_region 37 with fail
   clear z2 g1 m0 m1 bA
   generalize World.setCell X4 _ _=X20 at zaZ ⊢
   have bA:(vY:Int)<(mn:Int):=by omega
   have CZ:Hid (∀y,Since (λk=>k=gx+3) X20 y->y.cell? ⟨gb,0,none⟩=some (.slice (some ⟨tb,0,none⟩) n xc)/\y.cell? ⟨gb,1,none⟩=some (.slice (some ⟨mb,0,none⟩) mn yc)/\y.cell? ⟨gb,2,none⟩=some (.bool bad)/\y.cell? ⟨gx+2,1,none⟩=some (.slice (some ⟨sb,so,none⟩) mn jw)/\y.cell? ⟨gi,2,none⟩=some (.int .i64 vY)/\y.cell? ⟨sb,so+vY,none⟩=some (.int .i64 nv)):=λy hy=>by
    have h1:=zaZ.out.own.box
    have hlo:=zaZ.out.own.lo
    have hlt:=zw H4.out
    have h2:=(hy.block _ (zw h1) (by omega)).trans h1
    have h3:=(zaZ.out.own.below.block _ (zw H3.out)).trans H3.out
    have h4:=(hy.block _ (zw h3) (by omega)).trans h3
    have h5:=zaZ.out.instr
    have h6:=(hy.block _ (zw h5) HGI.out).trans h5
    have h7:=zk zaZ.out.own.below _ _ HSC.out
    have h8:=(hy.cell (p:=⟨sb,so+vY,none⟩) (World.block_lt_of_cell? _ _ h7) HSG.out).trans h7
    exact⟨ze h2 0,ze h2 1,ze h2 2,ze h4 1,ze h6 2,h8⟩
   cases em with
   |true=>
    have hb0:bf.length=0:=by rw [<-jd.out];exact of_decide_eq_true HEM.out.symm
    have HB0:=qh hb0
    clear hb0
    by_cases ha0:nv=0
    rotate_left
    ·have ha1:((nv:Int)==0)=false:=by simp [ha0]
     have HA0:=qh ha0
     clear ha0
     have hres:R=none:=by
      rw [jQ.out,wV xM.out.symm]
      rw [if_neg (λh=>HA0.out (by have:=h.2;rw [<-HVR.out] at this;exact HNV.out.trans this))]
      rfl
     have zQ:=qh hres
     clear hres
     have yZ:=zaZ.out
     have yP:=qh yZ
     clear yZ
     refine jf (S:=λy=>Since (λk=>k=gx+3) X20 y) (Since.refl _ _).drew (λ_=> ?_)
     obtain⟨wd,hwd⟩:∃wd,wd=X20.drew:=⟨_,rfl⟩
     rw [<-hwd]
     have HFX:=yG.out wd bad (by rw [hwd];exact yP.out.own.box) (by rw [hwd];exact yP.out.own.below.drew)
     have xK:Hid (Since (λk=>k=gx+3) X20 wd):=by rw [Hid,hwd];exact(Since.refl _ _).drew
     clear hwd
     refine zF 0 CZ.out (xK.out) ?_
     refine zF 1 zP (xK.out) ?_
     refine zF 2 zP (xK.out) ?_
     refine zF 3 zP (xK.out) ?_
     refine zF 4 CZ.out (xK.out) ?_
     refine zF 5 zP (xK.out) ?_
     refine zF 6 CZ.out (xK.out) ?_
     refine zF 7 zP (xK.out) ?_
     refine zF 8 CZ.out (xK.out) ?_
     refine zF 9 zP (xK.out) ?_
     refine zF 10 zP (xK.out) ?_
     refine yC 11 rfl (λK hK=> ?_)
     obtain⟨-,⟨q0,q1,q2⟩,⟨f0,f1,f2⟩,hset,hsn,hbe⟩:=HFX
     have zJ:=qh hset
     have xJ:=qh hsn
     have yO:=qh hbe
     clear hset hsn hbe
     go_simp
     refine hK.out _ _ (xK.out.trans xJ.out (λ_ h=> .inl h)) (λ_=> ?_)
     clear hK K
     refine zF 12 zP ((xK.out.trans xJ.out (λ_ h=> .inl h))) ?_
     refine xW ?_
     go_wp2_with fail
     (try simp only [Exit.inBlock,Exit.then])
     refine bodyPost_ret (zC rfl _ _ (gx+3) 42 _ (0,0) _ rfl zJ.out Tryz.underlying42 rfl zM) rfl ?_
     exact⟨uL zQ.out,yO.out⟩
    have ha1:((nv:Int)==0)=true:=by simp [ha0]
    have HA0:=qh ha0
    clear ha0
    have hres:R=some ⟨ts1,(mem.set vY 1),bad⟩:=by
     rw [jQ.out,wV xM.out.symm]
     rw [if_pos ⟨HB0.out,by rw [<-HVR.out];exact HNV.out.symm.trans HA0.out⟩]
     simp only [Option.map_some]
     rw [<-HVR.out,HT1.out]
     rfl
    have zQ:=qh hres
    clear hres
    have yZ:=zaZ.out
    have yP:=qh yZ
    clear yZ
    refine jf (S:=λy=>Since (λk=>k=gx+3) X20 y) (Since.refl _ _).drew (λ_=> ?_)
    obtain⟨wd,hwd⟩:∃wd,wd=X20.drew:=⟨_,rfl⟩
    rw [<-hwd]
    have HFX:=yG.out wd bad (by rw [hwd];exact yP.out.own.box) (by rw [hwd];exact yP.out.own.below.drew)
    have xK:Hid (Since (λk=>k=gx+3) X20 wd):=by rw [Hid,hwd];exact(Since.refl _ _).drew
    clear hwd
    refine zF 0 CZ.out (xK.out) ?_
    refine zF 1 zP (xK.out) ?_
    refine zF 2 zP (xK.out) ?_
    refine zF 3 zP (xK.out) ?_
    refine zF 4 CZ.out (xK.out) ?_
    refine zF 5 zP (xK.out) ?_
    refine zF 6 CZ.out (xK.out) ?_
    refine zF 7 zP (xK.out) ?_
    refine zF 8 CZ.out (xK.out) ?_
    refine zF 9 zP (xK.out) ?_
    refine zF 10 zP (xK.out) ?_
    refine yC 11 rfl (λK hK=> ?_)
    obtain⟨-,⟨q0,q1,q2⟩,⟨f0,f1,f2⟩,hset,hsn,hbe⟩:=HFX
    have zJ:=qh hset
    have xJ:=qh hsn
    have yO:=qh hbe
    clear hset hsn hbe
    go_simp
    refine hK.out _ _ (xK.out.trans xJ.out (λ_ h=> .inl h)) (λ_=> ?_)
    clear hK K
    refine zF 12 zP ((xK.out.trans xJ.out (λ_ h=> .inl h))) ?_
    refine xW ?_
    go_wp2_with fail
    (try simp only [Exit.inBlock,Exit.then])
    refine bodyPost_ret (zC rfl _ _ (gx+3) 42 _ (0,0) _ rfl zJ.out Tryz.underlying42 rfl zM) rfl ?_
    exact⟨qU zQ.out (uM.out _ _ _ _ _ _ _ yP.out (xK.out.trans xJ.out (λ_ h=> .inl h))),yO.out⟩
   |false=>
   have hb0:¬bf.length=0:=by rw [<-jd.out];exact of_decide_eq_false HEM.out.symm
   have HB0:=qh hb0
   clear hb0
   have hres:R=none:=by
    rw [jQ.out,wV xM.out.symm]
    rw [if_neg (λh=>HB0.out h.1)]
    rfl
   have zQ:=qh hres
   clear hres
   have yZ:=zaZ.out
   have yP:=qh yZ
   clear yZ
   refine jf (S:=λy=>Since (λk=>k=gx+3) X20 y) (Since.refl _ _).drew (λ_=> ?_)
   obtain⟨wd,hwd⟩:∃wd,wd=X20.drew:=⟨_,rfl⟩
   rw [<-hwd]
   have HFX:=yG.out wd bad (by rw [hwd];exact yP.out.own.box) (by rw [hwd];exact yP.out.own.below.drew)
   have xK:Hid (Since (λk=>k=gx+3) X20 wd):=by rw [Hid,hwd];exact(Since.refl _ _).drew
   clear hwd
   refine zF 0 CZ.out (xK.out) ?_
   refine zF 1 zP (xK.out) ?_
   refine zF 2 zP (xK.out) ?_
   refine wpAnyH_take (i:=3) (v:=undef) rfl (by kernel_rfl) (by kernel_rfl) (by kernel_rfl) (λ_ _ _ h=>h) (Or.inr ⟨by rfl,rfl⟩) (xK.out) ?_
   change wpAnyH _ _ _ _ _ _ _ (Act.put _ (some 202) _) _
   simp only [Act.put,kJ]
   try simp only [kK,kL]
   refine wpAnyH_take (i:=4) (v:=undef) rfl (by kernel_rfl) (by kernel_rfl) (by kernel_rfl) (λ_ _ _ h=>h) (Or.inr ⟨by rfl,rfl⟩) (xK.out) ?_
   change wpAnyH _ _ _ _ _ _ _ (Act.put _ (some 203) _) _
   simp only [Act.put,kJ]
   try simp only [kK,kL]
   refine wpAnyH_take (i:=5) (v:=undef) rfl (by kernel_rfl) (by kernel_rfl) (by kernel_rfl) (λ_ _ _ h=>h) (Or.inr ⟨by rfl,rfl⟩) (xK.out) ?_
   change wpAnyH _ _ _ _ _ _ _ (Act.put _ (some 204) _) _
   simp only [Act.put,kJ]
   try simp only [kK,kL]
   refine wpAnyH_take (i:=6) (v:=undef) rfl (by kernel_rfl) (by kernel_rfl) (by kernel_rfl) (λ_ _ _ h=>h) (Or.inr ⟨by rfl,rfl⟩) (xK.out) ?_
   change wpAnyH _ _ _ _ _ _ _ (Act.put _ (some 205) _) _
   simp only [Act.put,kJ]
   try simp only [kK,kL]
   refine wpAnyH_take (i:=7) (v:=undef) rfl (by kernel_rfl) (by kernel_rfl) (by kernel_rfl) (λ_ _ _ h=>h) (Or.inr ⟨by rfl,rfl⟩) (xK.out) ?_
   change wpAnyH _ _ _ _ _ _ _ (Act.put _ (some 206) _) _
   simp only [Act.put,kJ]
   try simp only [kK,kL]
   refine wpAnyH_take (i:=8) (v:=undef) rfl (by kernel_rfl) (by kernel_rfl) (by kernel_rfl) (λ_ _ _ h=>h) (Or.inr ⟨by rfl,rfl⟩) (xK.out) ?_
   change wpAnyH _ _ _ _ _ _ _ (Act.put _ (some 207) _) _
   simp only [Act.put,kJ]
   try simp only [kK,kL]
   refine wpAnyH_take (i:=9) (v:=undef) rfl (by kernel_rfl) (by kernel_rfl) (by kernel_rfl) (λ_ _ _ h=>h) (Or.inr ⟨by rfl,rfl⟩) (xK.out) ?_
   change wpAnyH _ _ _ _ _ _ _ (Act.put _ (some 208) _) _
   simp only [Act.put,kJ]
   try simp only [kK,kL]
   refine zF 10 zP (xK.out) ?_
   refine yC 11 rfl (λK hK=> ?_)
   obtain⟨-,⟨q0,q1,q2⟩,⟨f0,f1,f2⟩,hset,hsn,hbe⟩:=HFX
   have zJ:=qh hset
   have xJ:=qh hsn
   have yO:=qh hbe
   clear hset hsn hbe
   go_simp
   refine hK.out _ _ (xK.out.trans xJ.out (λ_ h=> .inl h)) (λ_=> ?_)
   clear hK K
   refine zF 12 zP ((xK.out.trans xJ.out (λ_ h=> .inl h))) ?_
   refine xW ?_
   go_wp2_with fail
   (try simp only [Exit.inBlock,Exit.then])
   refine bodyPost_ret (zC rfl _ _ (gx+3) 42 _ (0,0) _ rfl zJ.out Tryz.underlying42 rfl zM) rfl ?_
   exact⟨uL zQ.out,yO.out⟩
 have p7:((op:Int)==7)=false:=by simp [o7]
 by_cases o8:op=8
 ·have jk:Hid ((8:Int)=x.op):=by rw [Hid, <-xM.out,o8]
  clear xM
  have xM:=jk
  clear jk
  have p8:((op:Int)==8)=true:=by simp [o8]
  clear o8
  as_aux_lemma=>
   go_upto_region 39 with fail
   have z2:=ze yT.out.instr 2
   have hbx:=yT.out.own.box
   have g1:=ze hbx 1
   clear hbx
   have hml:vY<mem.length:=by rw [<-vH.out];omega
   obtain⟨m0,m1⟩:=yT.out.zkT hml
   have bA:(vY:Int)<(mn:Int):=by omega
   have zmC:=qh (yT.out.mem vY 0)
   clear hml
   go_upto_region 40 with fail
   clear z2 g1 m0 m1 bA
   generalize World.setCell X4 _ _=X24 at zmC ⊢
   cases em with
   |true=>
    have hb0:bf.length=0:=by rw [<-jd.out];exact of_decide_eq_true HEM.out.symm
    have HB0:=qh hb0
    clear hb0
    have hres:R=some ⟨ts1,(mem.set vY 0),bad⟩:=by
     rw [jQ.out,kZ xM.out.symm]
     rw [if_pos HB0.out]
     simp only [Option.map_some]
     rw [<-HVR.out,HT1.out]
     rfl
    have zQ:=qh hres
    clear hres
    have yZ:=zmC.out
    have yP:=qh yZ
    clear yZ
    obtain⟨⟨a0,a1,a2⟩,⟨q0,q1,q2⟩,⟨f0,f1,f2⟩,hset,hsn,hbe⟩:=yG.out X24 bad yP.out.own.box yP.out.own.below
    have zJ:=qh hset
    have xJ:=qh hsn
    have yO:=qh hbe
    clear hset hsn hbe
    go_wp2_with fail
    (try simp only [Exit.inBlock,Exit.then])
    refine bodyPost_ret (zC rfl _ _ (gx+3) 42 _ (0,0) _ rfl zJ.out Tryz.underlying42 rfl zM) rfl ?_
    exact⟨qU zQ.out (uM.out _ _ _ _ _ _ _ yP.out xJ.out),yO.out⟩
   |false=>
   have hb0:¬bf.length=0:=by rw [<-jd.out];exact of_decide_eq_false HEM.out.symm
   have HB0:=qh hb0
   clear hb0
   have hres:R=none:=by
    rw [jQ.out,kZ xM.out.symm]
    rw [if_neg HB0.out]
    rfl
   have zQ:=qh hres
   clear hres
   have yZ:=zmC.out
   have yP:=qh yZ
   clear yZ
   obtain⟨⟨a0,a1,a2⟩,⟨q0,q1,q2⟩,⟨f0,f1,f2⟩,hset,hsn,hbe⟩:=yG.out X24 bad yP.out.own.box yP.out.own.below
   have zJ:=qh hset
   have xJ:=qh hsn
   have yO:=qh hbe
   clear hset hsn hbe
   go_wp2_with fail
   (try simp only [Exit.inBlock,Exit.then])
   refine bodyPost_ret (zC rfl _ _ (gx+3) 42 _ (0,0) _ rfl zJ.out Tryz.underlying42 rfl zM) rfl ?_
   exact⟨uL zQ.out,yO.out⟩
 have p8:((op:Int)==8)=false:=by simp [o8]
 by_cases o9:op=9
 ·have jk:Hid ((9:Int)=x.op):=by rw [Hid, <-xM.out,o9]
  clear xM
  have xM:=jk
  clear jk
  have p9:((op:Int)==9)=true:=by simp [o9]
  clear o9
  as_aux_lemma=>
   go_upto_region 42 with fail
   have hbx:=yT.out.own.box
   have g2:=ze hbx 2
   have h2:=zA hbx 2
   clear hbx
   cases bad with
   |true=>
    have ztd:=qh (yT.out.isBad true)
    go_upto_region 48 with fail
    clear g2 h2
    generalize World.setCell X4 _ _=X25 at ztd ⊢
    have hres:R=some ⟨ts1,mem,true⟩:=by
     rw [jQ.out,jX xM.out.symm]
     rw [HT1.out]
     rfl
    have zQ:=qh hres
    clear hres
    have yZ:=ztd.out
    have yP:=qh yZ
    clear yZ
    obtain⟨⟨a0,a1,a2⟩,⟨q0,q1,q2⟩,⟨f0,f1,f2⟩,hset,hsn,hbe⟩:=yG.out X25 true yP.out.own.box yP.out.own.below
    have zJ:=qh hset
    have xJ:=qh hsn
    have yO:=qh hbe
    clear hset hsn hbe
    go_wp2_with fail
    (try simp only [Exit.inBlock,Exit.then])
    refine bodyPost_ret (zC rfl _ _ (gx+3) 42 _ (0,0) _ rfl zJ.out Tryz.underlying42 rfl zM) rfl ?_
    exact⟨qU zQ.out (uM.out _ _ _ _ _ _ _ yP.out xJ.out),yO.out⟩
   |false=>
   by_cases ha0:A=0
   rotate_left
   ·have ha1:((A:Int)==0)=false:=by simp [ha0]
    have HA0:=qh ha0
    clear ha0
    have zte:=qh (yT.out.isBad false)
    go_upto_region 48 with fail
    clear g2 h2
    generalize World.setCell X4 _ _=X27 at zte ⊢
    have hres:R=some ⟨ts1,mem,false⟩:=by
     rw [jQ.out,jX xM.out.symm]
     rw [HT1.out, <-HA.out,decide_eq_false HA0.out]
     rfl
    have zQ:=qh hres
    clear hres
    have yZ:=zte.out
    have yP:=qh yZ
    clear yZ
    obtain⟨⟨a0,a1,a2⟩,⟨q0,q1,q2⟩,⟨f0,f1,f2⟩,hset,hsn,hbe⟩:=yG.out X27 false yP.out.own.box yP.out.own.below
    have zJ:=qh hset
    have xJ:=qh hsn
    have yO:=qh hbe
    clear hset hsn hbe
    go_wp2_with fail
    (try simp only [Exit.inBlock,Exit.then])
    refine bodyPost_ret (zC rfl _ _ (gx+3) 42 _ (0,0) _ rfl zJ.out Tryz.underlying42 rfl zM) rfl ?_
    exact⟨qU zQ.out (uM.out _ _ _ _ _ _ _ yP.out xJ.out),yO.out⟩
   have ha1:((A:Int)==0)=true:=by simp [ha0]
   have HA0:=qh ha0
   clear ha0
   have ztf:=qh (yT.out.isBad true)
   go_upto_region 48 with fail
   clear g2 h2
   generalize World.setCell X4 _ _=X26 at ztf ⊢
   have hres:R=some ⟨ts1,mem,true⟩:=by
    rw [jQ.out,jX xM.out.symm]
    rw [HT1.out, <-HA.out,decide_eq_true HA0.out]
    rfl
   have zQ:=qh hres
   clear hres
   have yZ:=ztf.out
   have yP:=qh yZ
   clear yZ
   obtain⟨⟨a0,a1,a2⟩,⟨q0,q1,q2⟩,⟨f0,f1,f2⟩,hset,hsn,hbe⟩:=yG.out X26 true yP.out.own.box yP.out.own.below
   have zJ:=qh hset
   have xJ:=qh hsn
   have yO:=qh hbe
   clear hset hsn hbe
   go_wp2_with fail
   (try simp only [Exit.inBlock,Exit.then])
   refine bodyPost_ret (zC rfl _ _ (gx+3) 42 _ (0,0) _ rfl zJ.out Tryz.underlying42 rfl zM) rfl ?_
   exact⟨qU zQ.out (uM.out _ _ _ _ _ _ _ yP.out xJ.out),yO.out⟩
 have p9:((op:Int)==9)=false:=by simp [o9]
 by_cases o12:op=12
 rotate_left
 ·have p12:((op:Int)==12)=false:=by simp [o12]
  by_cases o13:op=13
  rotate_left
  ·have p13:((op:Int)==13)=false:=by simp [o13]
   as_aux_lemma=>
    go_upto_region 48 with fail
    have hres:R=some ⟨ts1,mem,bad⟩:=by
     rw [jQ.out,zar (by rw [<-xM.out];exact o1) (by rw [<-xM.out];exact o2) (by rw [<-xM.out];exact o3) (by rw [<-xM.out];exact o4) (by rw [<-xM.out];exact o5) (by rw [<-xM.out];exact o6) (by rw [<-xM.out];exact o7) (by rw [<-xM.out];exact o8) (by rw [<-xM.out];exact o9) (by rw [<-xM.out];exact o12) (by rw [<-xM.out];exact o13),HT1.out]
     rfl
    have zQ:=qh hres
    clear hres
    have yZ:=yT.out
    have yP:=qh yZ
    clear yZ
    obtain⟨⟨a0,a1,a2⟩,⟨q0,q1,q2⟩,⟨f0,f1,f2⟩,hset,hsn,hbe⟩:=yG.out X4 bad yP.out.own.box yP.out.own.below
    have zJ:=qh hset
    have xJ:=qh hsn
    have yO:=qh hbe
    clear hset hsn hbe
    go_wp2_with fail
    (try simp only [Exit.inBlock,Exit.then])
    refine bodyPost_ret (zC rfl _ _ (gx+3) 42 _ (0,0) _ rfl zJ.out Tryz.underlying42 rfl zM) rfl ?_
    exact⟨qU zQ.out (uM.out _ _ _ _ _ _ _ yP.out xJ.out),yO.out⟩
  have jk:Hid ((13:Int)=x.op):=by rw [Hid, <-xM.out,o13]
  clear xM
  have xM:=jk
  clear jk
  have p13:((op:Int)==13)=true:=by simp [o13]
  clear o13
  as_aux_lemma=>
   go_upto_region 47 with fail
   have z11:=ze yT.out.instr 11
   obtain⟨u0,v0⟩:=yT.out.pz HL1.out pE.out pF.out 0 (.int .i64 ((qW:Int)+1)) (by omega) rfl
   rw [Nat.add_zero] at u0 v0
   have zvM:=yT.out.set HL1.out (k:=0) (by omega) (t':=⟨dst, [r0,r1,r2,r3],bf⟩) (u:=(.int .i64 dst)) pE.out pF.out rfl (by simp) rfl
   rw [Nat.add_zero] at zvM
   have zvN:=qh zvM
   clear zvM
   go_upto_region 48 with fail
   clear u0 v0 z11
   generalize World.setCell X4 _ _=X29 at zvN ⊢
   obtain⟨z1E,z1F,z1G,z1H⟩:=zvN.out
   have z1I:=qh z1E
   have z9M:=qh z1F
   have z9N:=qh z1G
   have zA3:=qh z1H
   clear z1E z1F z1G z1H zvN
   have hres:R=some ⟨ts.set i ⟨dst, [r0,r1,r2,r3],bf⟩,mem,bad⟩:=by
    rw [jQ.out,pG xM.out.symm]
    simp only [Option.map_some]
    rw [<-HDS.out]
   have zQ:=qh hres
   clear hres
   have yZ:=z1I.out
   rw [HSS.out] at yZ
   have yP:=qh yZ
   clear yZ
   obtain⟨⟨a0,a1,a2⟩,⟨q0,q1,q2⟩,⟨f0,f1,f2⟩,hset,hsn,hbe⟩:=yG.out X29 bad yP.out.own.box yP.out.own.below
   have zJ:=qh hset
   have xJ:=qh hsn
   have yO:=qh hbe
   clear hset hsn hbe
   go_wp2_with fail
   (try simp only [Exit.inBlock,Exit.then])
   refine bodyPost_ret (zC rfl _ _ (gx+3) 42 _ (0,0) _ rfl zJ.out Tryz.underlying42 rfl zM) rfl ?_
   exact⟨qU zQ.out (uM.out _ _ _ _ _ _ _ yP.out xJ.out),yO.out⟩
 have jk:Hid ((12:Int)=x.op):=by rw [Hid, <-xM.out,o12]
 clear xM
 have xM:=jk
 clear jk
 have p12:((op:Int)==12)=true:=by simp [o12]
 clear o12
 as_aux_lemma=>
  go_upto_region 44 with fail
  by_cases ha0:A=0
  rotate_left
  ·have ha1:((A:Int)==0)=false:=by simp [ha0]
   have HA0:=qh ha0
   clear ha0
   go_upto_region 48 with fail
   clear ha1
   have hres:R=some ⟨ts1,mem,bad⟩:=by
    rw [jQ.out,wh xM.out.symm]
    rw [<-HA.out,if_neg HA0.out,HT1.out]
    rfl
   have zQ:=qh hres
   clear hres
   have yZ:=yT.out
   have yP:=qh yZ
   clear yZ
   obtain⟨⟨a0,a1,a2⟩,⟨q0,q1,q2⟩,⟨f0,f1,f2⟩,hset,hsn,hbe⟩:=yG.out X4 bad yP.out.own.box yP.out.own.below
   have zJ:=qh hset
   have xJ:=qh hsn
   have yO:=qh hbe
   clear hset hsn hbe
   go_wp2_with fail
   (try simp only [Exit.inBlock,Exit.then])
   refine bodyPost_ret (zC rfl _ _ (gx+3) 42 _ (0,0) _ rfl zJ.out Tryz.underlying42 rfl zM) rfl ?_
   exact⟨qU zQ.out (uM.out _ _ _ _ _ _ _ yP.out xJ.out),yO.out⟩
  have ha1:((A:Int)==0)=true:=by simp [ha0]
  have HA0:=qh ha0
  clear ha0
  go_upto_region 45 with fail
  clear ha1
  have z11:=ze yT.out.instr 11
  obtain⟨u0,v0⟩:=yT.out.pz HL1.out pE.out pF.out 0 (.int .i64 ((qW:Int)+1)) (by omega) rfl
  rw [Nat.add_zero] at u0 v0
  have zvO:=yT.out.set HL1.out (k:=0) (by omega) (t':=⟨dst, [r0,r1,r2,r3],bf⟩) (u:=(.int .i64 dst)) pE.out pF.out rfl (by simp) rfl
  rw [Nat.add_zero] at zvO
  have zvP:=qh zvO
  clear zvO
  go_upto_region 48 with fail
  clear u0 v0 z11
  generalize World.setCell X4 _ _=X28 at zvP ⊢
  obtain⟨z1J,z1K,z1L,z1M⟩:=zvP.out
  have z1N:=qh z1J
  have z9O:=qh z1K
  have z9P:=qh z1L
  have zA4:=qh z1M
  clear z1J z1K z1L z1M zvP
  have hres:R=some ⟨ts.set i ⟨dst, [r0,r1,r2,r3],bf⟩,mem,bad⟩:=by
   rw [jQ.out,wh xM.out.symm]
   rw [<-HA.out,if_pos HA0.out, <-HDS.out]
   rfl
  have zQ:=qh hres
  clear hres
  have yZ:=z1N.out
  rw [HSS.out] at yZ
  have yP:=qh yZ
  clear yZ
  obtain⟨⟨a0,a1,a2⟩,⟨q0,q1,q2⟩,⟨f0,f1,f2⟩,hset,hsn,hbe⟩:=yG.out X28 bad yP.out.own.box yP.out.own.below
  have zJ:=qh hset
  have xJ:=qh hsn
  have yO:=qh hbe
  clear hset hsn hbe
  go_wp2_with fail
  (try simp only [Exit.inBlock,Exit.then])
  refine bodyPost_ret (zC rfl _ _ (gx+3) 42 _ (0,0) _ rfl zJ.out Tryz.underlying42 rfl zM) rfl ?_
  exact⟨qU zQ.out (uM.out _ _ _ _ _ _ _ yP.out xJ.out),yO.out⟩
