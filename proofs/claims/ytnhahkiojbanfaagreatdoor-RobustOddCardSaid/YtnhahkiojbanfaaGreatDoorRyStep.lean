/- Steps. -/
import Derived.Test.YtnhahkiojbanfaaGreatDoorRyOwn
import Derived.Test.YtnhahkiojbanfaaGreatDoorRyOwnS
set_option linter.all false
namespace Go.Proofs.YtnhahkiojbanfaaGreatDoor
open Go.RowKit
set_option maxRecDepth 100000
set_option maxHeartbeats 16000000
structure vQ (W X:World) (gb gi tb n tc mb mn mc:Nat) (bad:Bool) (ts:List zy) (mem:List Int) (bs:List Value) (wU:List Value):Prop where
 own:vU W X gb (.slice (some ⟨tb,0,none⟩) n tc) (.slice (some ⟨mb,0,none⟩) mn mc) bad ts mem bs
 instr:X.heap[gi]? =some (.cells wU.toArray 60 (0,0))
 g1:gi≠gb
 g2:gi≠tb
 g3:gi≠mb
theorem vQ.below {W X X':World} {gb gi tb n tc mb mn mc:Nat} {bad:Bool} {ts:List zy} {mem:List Int} {bs wU:List Value} (h:vQ W X gb gi tb n tc mb mn mc bad ts mem bs wU) (hb:Below X.heap.size X X'):vQ W X' gb gi tb n tc mb mn mc bad ts mem bs wU:=
 ⟨h.own.later hb,(hb.block _ (zx h.instr)).trans h.instr,h.g1,h.g2,h.g3⟩
theorem vQ.thread {W X:World} {gb gi tb n tc mb mn mc:Nat} {bad:Bool} {ts:List zy} {mem:List Int} {bs wU:List Value} (h:vQ W X gb gi tb n tc mb mn mc bad ts mem bs wU) {i k:Nat} (hi:i<ts.length) (hk:k<6) {t:zy} {b u:Value}
  (hc:t.cells b=((ts.getD i default).cells (bs.getD i (.slice none 0 0))).set k u) (hr:t.regs.length=4) (hb:X.ownsRow W.heap.size 110 2 b t.buf.length (zo zl.cells t.buf)) (hn:∀k,b.ownBlock=some k->k≠tb/\k≠mb/\k≠gb)
  (hd:∀k,b.ownBlock=some k->∀j,j<ts.length->j≠i->(bs.getD j (.slice none 0 0)).ownBlock≠some k):
  vQ W (X.setCell ⟨tb,i*6+k,none⟩ u) gb gi tb n tc mb mn mc bad (ts.set i t) mem (bs.set i b) wU:=
 ⟨h.own.thread hi hk hc hr hb (λk hk=>⟨(hn k hk).1,λe=>(hn k hk).2.1 (by simpa [Value.ownBlock] using e.symm),(hn k hk).2.2⟩) hd,(Below.heap_setCell _ _ _ _ h.g2).trans h.instr,h.g1,h.g2,h.g3⟩
theorem vQ.mem {W X:World} {gb gi tb n tc mb mn mc:Nat} {bad:Bool} {ts:List zy} {mem:List Int} {bs wU:List Value} (h:vQ W X gb gi tb n tc mb mn mc bad ts mem bs wU) (j:Nat) (x:Int):
  vQ W (X.setCell ⟨mb,j,none⟩ (.int .i64 x)) gb gi tb n tc mb mn mc bad ts (mem.set j x) bs wU:=
 ⟨h.own.mem j x,(Below.heap_setCell _ _ _ _ h.g3).trans h.instr,h.g1,h.g2,h.g3⟩
theorem vQ.isBad {W X:World} {gb gi tb n tc mb mn mc:Nat} {bad:Bool} {ts:List zy} {mem:List Int} {bs wU:List Value} (h:vQ W X gb gi tb n tc mb mn mc bad ts mem bs wU) (b:Bool):
  vQ W (X.setCell ⟨gb,2,none⟩ (.bool b)) gb gi tb n tc mb mn mc b ts mem bs wU:=
 ⟨h.own.isBad b,(Below.heap_setCell _ _ _ _ h.g1).trans h.instr,h.g1,h.g2,h.g3⟩
theorem vQ.zpT {W X:World} {gb gi tb n tc mb mn mc:Nat} {bad:Bool} {ts:List zy} {mem:List Int} {bs wU:List Value} (h:vQ W X gb gi tb n tc mb mn mc bad ts mem bs wU) {i:Nat} (hi:i<ts.length):
  ∀k u,k<6->((ts.getD i default).cells (bs.getD i (.slice none 0 0)))[k]? =some u->X.cell? ⟨tb,i*6+k,none⟩=some u/\X.frozen? ⟨tb,i*6+k,none⟩=false:=by
 obtain⟨tb',tc',e, -,h2⟩:=h.own.threads hi
 cases e
 exact h2
theorem vQ.zkS {W X:World} {gb gi tb n tc mb mn mc:Nat} {bad:Bool} {ts:List zy} {mem:List Int} {bs wU:List Value} (h:vQ W X gb gi tb n tc mb mn mc bad ts mem bs wU) {j:Nat} (hj:j<mem.length):
  X.cell? ⟨mb,j,none⟩=some (.int .i64 (mem.getD j 0))/\X.frozen? ⟨mb,j,none⟩=false:=by
 obtain⟨mb',mc',e, -,h2⟩:=h.own.vars (by omega)
 cases e
 exact h2 j hj
theorem vQ.buf {W X:World} {gb gi tb n tc mb mn mc:Nat} {bad:Bool} {ts:List zy} {mem:List Int} {bs wU:List Value} (h:vQ W X gb gi tb n tc mb mn mc bad ts mem bs wU) {i:Nat} (hi:i<ts.length):
  X.ownsRow W.heap.size 110 2 (bs.getD i (.slice none 0 0)) (ts.getD i default).buf.length (zo zl.cells (ts.getD i default).buf)/\∀k,(bs.getD i (.slice none 0 0)).ownBlock=some k->k≠tb/\k≠mb/\k≠gb:=
 ⟨h.own.own.buf i hi,λk hk=>⟨λe=>(h.own.own.ne i hi k hk).1 (by rw [e];rfl),λe=>(h.own.own.ne i hi k hk).2 (by rw [e];rfl),λe=>h.own.n3 i hi (e ▸ hk)⟩⟩
theorem vQ.dist {W X:World} {gb gi tb n tc mb mn mc:Nat} {bad:Bool} {ts:List zy} {mem:List Int} {bs wU:List Value} (h:vQ W X gb gi tb n tc mb mn mc bad ts mem bs wU) {i:Nat} (hi:i<ts.length):
  ∀k,(bs.getD i (.slice none 0 0)).ownBlock=some k->∀j,j<ts.length->j≠i->(bs.getD j (.slice none 0 0)).ownBlock≠some k:=λk hk j hj hji=>h.own.own.one i j hi hj (λe=>hji e.symm) k hk
theorem vQ.set {W X:World} {gb gi tb n tc mb mn mc:Nat} {bad:Bool} {ts:List zy} {mem:List Int} {bs wU:List Value} (h:vQ W X gb gi tb n tc mb mn mc bad ts mem bs wU) {i k:Nat} (hi:i<ts.length) (hk:k<6) {t t':zy} {b u:Value}
  (ht:ts.getD i default=t) (hbs:bs.getD i (.slice none 0 0)=b) (hc:t'.cells b=(t.cells b).set k u) (hr:t'.regs.length=4) (hbf:t'.buf=t.buf):
  vQ W (X.setCell ⟨tb,i*6+k,none⟩ u) gb gi tb n tc mb mn mc bad (ts.set i t') mem (bs.set i b) wU/\(ts.set i t').getD i default=t'/\(bs.set i b).getD i (.slice none 0 0)=b/\i<(ts.set i t').length:=by
 have hl:=h.own.own.len
 have hB:=h.buf hi
 rw [ht,hbs] at hB
 refine⟨h.thread hi hk (by rw [ht,hbs];exact hc) hr (by rw [hbf];exact hB.1) hB.2 (by have:=h.dist hi;rw [hbs] at this;exact this),by rw [qV hi,if_pos rfl],by rw [qV (by rw [hl];exact hi),if_pos rfl],by rw [List.length_set];exact hi⟩
theorem vQ.bW {W X:World} {gb gi tb n tc mb mn mc:Nat} {bad:Bool} {ts:List zy} {mem:List Int} {bs wU:List Value} (h:vQ W X gb gi tb n tc mb mn mc bad ts mem bs wU) {i:Nat} (hi:i<ts.length) {t:zy} {b:Value}
  (ht:ts.getD i default=t) (hbs:bs.getD i (.slice none 0 0)=b):∀k u,k<6->(t.cells b)[k]? =some u->X.cell? ⟨tb,i*6+k,none⟩=some u/\X.frozen? ⟨tb,i*6+k,none⟩=false:=by
 have:=h.zpT hi
 rw [ht,hbs] at this
 exact this
theorem zcg {pc r0 r1 r2 r3 v:Int} {bf:List zl} {b:Value} {k:Nat} (hk:k<4):(⟨pc, [r0,r1,r2,r3].set k v,bf⟩:zy).cells b=((⟨pc, [r0,r1,r2,r3],bf⟩:zy).cells b).set (1+k) (.int .i64 v):=by
 have:k=0\/k=1\/k=2\/k=3:=by omega
 rcases this with rfl|rfl|rfl|rfl<;>rfl
theorem zet {pc r0 r1 r2 r3:Int} {bf:List zl} {b:Value} {k:Nat} (hk:k<4):((⟨pc, [r0,r1,r2,r3],bf⟩:zy).cells b)[1+k]? =some (.int .i64 ([r0,r1,r2,r3].getD k 0)):=by
 have:k=0\/k=1\/k=2\/k=3:=by omega
 rcases this with rfl|rfl|rfl|rfl<;>rfl
theorem zsm {pc r0 r1 r2 r3:Int} {bf:List zl} {b:Value} {k:Nat} (hk:k<4):((⟨pc, [r0,r1,r2,r3].set k 0,bf⟩:zy).cells b)[1+k]? =some (.int .i64 ([0,0,0,0].getD k 0)):=by
 have:k=0\/k=1\/k=2\/k=3:=by omega
 rcases this with rfl|rfl|rfl|rfl<;>rfl
theorem zn8 {pc r0 r1 r2 r3:Int} {bf:List zl} {b:Value} {k:Nat} (hk:k<4):(⟨pc, [r0,r1,r2,r3].set k 1,bf⟩:zy).cells b=((⟨pc, [r0,r1,r2,r3].set k 0,bf⟩:zy).cells b).set (1+k) (.int .i64 1):=by
 have:k=0\/k=1\/k=2\/k=3:=by omega
 rcases this with rfl|rfl|rfl|rfl<;>rfl
theorem uH {R:Option zk} {xa ya:Option Addr} {xn xc yn yc B:Nat} {b:Bool} {X:World} (h:R=none):∃xa' xn' xc' ya' yn' yc' s',Ending.returned (.tuple #[.agg #[.slice xa xn xc, .slice ya yn yc, .bool b], .bool false])= .returned (.tuple #[yE s' (.slice xa' xn' xc') (.slice ya' yn' yc'), .bool R.isSome])/\∀t,R=some t->s'=t/\∃bs,OwnAt B X (.slice xa' xn' xc') (.slice ya' yn' yc') t.threads t.mem bs:=
 ⟨xa,xn,xc,ya,yn,yc,⟨[], [],b⟩,by rw [h];rfl,λt e=>by rw [h] at e;cases e⟩
theorem qL {R:Option zk} {xa ya:Option Addr} {xn xc yn yc B:Nat} {s:zk} {bs:List Value} {X:World} (h:R=some s) (hs:OwnAt B X (.slice xa xn xc) (.slice ya yn yc) s.threads s.mem bs):∃xa' xn' xc' ya' yn' yc' s',Ending.returned (.tuple #[.agg #[.slice xa xn xc, .slice ya yn yc, .bool s.bad], .bool true])= .returned (.tuple #[yE s' (.slice xa' xn' xc') (.slice ya' yn' yc'), .bool R.isSome])/\∀t,R=some t->s'=t/\∃bs,OwnAt B X (.slice xa' xn' xc') (.slice ya' yn' yc') t.threads t.mem bs:=
 ⟨xa,xn,xc,ya,yn,yc,s,by rw [h];rfl,λt e=>by rw [h] at e;cases e;exact⟨rfl,bs,hs⟩⟩
theorem wz.zyg {e t:TypeId} {size:Nat} {V X:World} {v:Value} {n:Nat} {xs:List Value} {bs:List (Nat × List Value)} (h:wz e size t V X v n xs bs) {g:Nat} {cs:List Value} (hb:(g,cs)∈bs) (l:List Value) (hl:cs.length=l.length):
  Below V.heap.size V (yF X g 0 l)/\(yF X g 0 l).heap[g]? =some (.cells l.toArray t (0,0))/\V.heap.size<=g:=by
 obtain⟨h1, -,h3⟩:=h.news _ hb
 exact⟨h.below.trans ((xW l X 0).below h.below.size (λk e=>by omega)),vO l hl h1,h3⟩
theorem zkY (w:World) (c:zI) (cv:Value) (d:Nat) (hc:yJ d w cv c.threads) (m:zG) (s:zk) (sv mv:Value) (hs:yw w s sv mv) (hfit:yB c m s=true) (i:Nat) (hi:i<s.threads.length) (hb:∀j,j<s.threads.length->(s.threads.getD j default).buf.length<=100000):
  Calls Tryz.prog 49 #[yO c cv,xO m,yE s sv mv, .int .i64 i] w λe w'=>(∃xa xn xc ya yn yc s',e= .returned (.tuple #[yE s' (.slice xa xn xc) (.slice ya yn yc), .bool (kg c m s i d).isSome])/\∀t,kg c m s i d=some t->s'=t/\∃bs,OwnAt w.heap.size w' (.slice xa xn xc) (.slice ya yn yc) t.threads t.mem bs)/\Below w.heap.size w w':=by
 obtain⟨hcode,hmay,hlen,hmem,zmo⟩:=pE hfit
 have hbd:=xR hcode
 obtain⟨zf7,zmp⟩:=zmo i hi
 have hins:=λk (hk:k<(c.threads.getD i []).length)=>ziu hcode (i:=i) (k:=k) (by rw [<-hlen];exact hi) hk
 clear hcode hmay zmo hfit
 obtain⟨ca,cc,rfl, -⟩:=zh.slice hc
 obtain⟨ta,jG,rfl, -⟩:=zh.slice hs.threads
 obtain⟨ma,jo,rfl, -⟩:=zh.slice hs.mem
 have hown:=λW hW=>zof W s (.slice ta s.threads.length jG) (.slice ma s.mem.length jo) hW (by omega) (by omega) (λj hj=>by have:=hb j hj;omega)
 obtain⟨R,hR⟩:∃R,R=kg c m s i d:=⟨_,rfl⟩
 rw [<-hR]
 obtain⟨l,hl⟩:∃l,l=c.threads.getD i [] :=⟨_,rfl⟩
 obtain⟨t,ht⟩:∃t,t=s.threads.getD i default:=⟨_,rfl⟩
 have hR2:R=if t.pc<(l.length:Int) then(stepT c m s t (l.getD t.pc.toNat default) d).map (λr=>⟨s.threads.set i r.1,r.2.1,r.2.2⟩) else none:=by rw [hR,hl,ht];rfl
 rw [<-ht] at zf7 zmp
 rw [<-hl] at zmp hins
 have HST:Hid (∀x,stepT c m s t x d=stepT c m s t x d):=λ_=>rfl
 obtain⟨C,hC⟩:∃C,C=c:=⟨_,rfl⟩
 obtain⟨M,hM⟩:∃M,M=m:=⟨_,rfl⟩
 obtain⟨S,hS⟩:∃S,S=s:=⟨_,rfl⟩
 rw [<-hC, <-hM, <-hS] at hR2
 clear HST
 have HRR:=qh hR2
 have hT:=hs.threads
 have hME:=hs.mem
 obtain⟨vars,dom,cs⟩:=c
 obtain⟨mod,bnd⟩:=m
 obtain⟨ts,mem,bad⟩:=s
 simp only [] at hc hs hi hb hlen hmem hbd hl ht hT hME hown hins zf7 zmp hR2 ⊢
 unfold yO xO yE
 unfold yE at hown
 simp only [] at hown ⊢
 obtain⟨n,hn⟩:∃n,n=ts.length:=⟨_,rfl⟩
 obtain⟨cn,hcn⟩:∃cn,cn=cs.length:=⟨_,rfl⟩
 obtain⟨mn,hmn⟩:∃mn,mn=mem.length:=⟨_,rfl⟩
 rw [<-hn] at hT hown hi hb hlen ⊢
 rw [<-hmn] at hME hown hmem ⊢
 rw [<-hcn] at hc hlen hbd ⊢
 rw [<-hn, <-hmn] at hs
 have jW:=qh hlen
 have HME:=qh hmem
 have HC:=qh hC
 have HM:=qh hM
 have HS:=qh hS
 have HL:=qh hl
 have HT:=qh ht
 have HN:=qh hn
 have HCN:=qh hcn
 have qP:=qh hmn
 have HBU:=qh hb
 have z0d:=qh hins
 have HOWN:=qh hown
 have hB4:=zc2 w (.cells #[.int .i64 vars, .int .i64 dom, .slice ca cn cc] 26) (.cells #[.int .i64 mod, .int .i64 bnd] 29) (.cells #[.slice ta n jG, .slice ma mn jo, .bool bad] 42) (.cells #[.slice none 0 0, .slice none 0 0, .bool false] 42)
 obtain⟨hB,h1,h2,h3,h4,h5⟩:=hB4
 have HB:=qh hB
 have H1:=qh h1
 have H2:=qh h2
 have H3:=qh h3
 have H4:=qh h4
 have H5:=qh h5
 have uL:=qh (zh.below (qo.stays d) hc hB)
 have HSW:=qh (yw.below hs hB)
 have zj1:=qh (zh.below bD.stays hME hB)
 have z5U:=qh hME
 have z5V:=qh h5
 clear hlen hmem hC hM hS hl ht hn hcn hmn hb hins hown hB h1 h2 h3 h4 h5 hT hME hc hs hR hR2
 go_enter Tryz.func49,Tryz.ntmps49
 go_upto_region 1 with fail
 generalize World.alloc (World.alloc (World.alloc (World.alloc w _) _) _) _=W at HB H1 H2 H3 H4 H5 uL HSW zj1 z5V ⊢
 obtain⟨gx,hgx⟩:∃gx,gx=w.heap.size:=⟨_,rfl⟩
 rw [<-hgx] at H1 H2 H3 H4 H5 ⊢
 have xD:=qh hgx
 clear hgx
 have qw:Hid (∀x,Below W.heap.size W x->x.cell? ⟨gx,0,none⟩=some (.int .i64 vars)/\x.cell? ⟨gx,1,none⟩=some (.int .i64 dom)/\x.cell? ⟨gx,2,none⟩=some (.slice ca cn cc)/\
   x.cell? ⟨gx+1,0,none⟩=some (.int .i64 mod)/\x.cell? ⟨gx+1,1,none⟩=some (.int .i64 bnd)/\x.cell? ⟨gx+2,0,none⟩=some (.slice ta n jG)/\x.cell? ⟨gx+2,1,none⟩=some (.slice ma mn jo)/\x.cell? ⟨gx+2,2,none⟩=some (.bool bad)):=λx hx=>
  ⟨zi hx _ _ (ze H1.out 0),zi hx _ _ (ze H1.out 1),zi hx _ _ (ze H1.out 2),zi hx _ _ (ze H2.out 0),zi hx _ _ (ze H2.out 1),zi hx _ _ (ze H3.out 0),zi hx _ _ (ze H3.out 1),zi hx _ _ (ze H3.out 2)⟩
 obtain⟨c0,c1,c2,c3,c4,c5,c6,c7⟩:=qw.out W (Below.refl _ _)
 go_upto_region 2 with(go_at_call 51;refine(HOWN.out W HSW.out).mono ?_;rintro e W1 ⟨⟨tv1,mv1,bs,rfl,ho1⟩,hb1⟩;have HO1:=qh ho1;have HB1:=qh hb1;obtain⟨xa,xc,rfl, -, -⟩:=xu ho1.row;obtain⟨ya,yc,rfl, -, -⟩:=xu ho1.mem;clear ho1 hb1)
 rw [<-HN.out, <-qP.out]
 have z9Z:1<=vars:=hbd.1
 have z92:2<=dom:=hbd.2.2.1
 have z94:dom<=16:=hbd.2.2.2.1
 have bB:n<=4:=by have:=hbd.2.2.2.2.2;have:=jW.out;omega
 have z5H:mn<=4/\1<=mn:=by have:=hbd.2.1;have:=HME.out;omega
 clear c0 c1 c2 c3 c4 c5 c6 c7 hbd
 have hol:=vU.zrE HO1.out HB1.out bad
 rw [<-HN.out, <-qP.out] at hol
 have HOL:=qh hol
 clear hol
 generalize World.alloc W1 _=X0 at HOL ⊢
 obtain⟨gb,hgb⟩:∃gb,gb=W1.heap.size:=⟨_,rfl⟩
 rw [<-hgb] at HOL ⊢
 clear hgb HO1 HB1 HOWN
 obtain⟨tb,tc,hxa, -,htc⟩:=HOL.out.threads (by rw [<-HN.out];exact hi)
 rw [<-HN.out] at hxa
 cases hxa
 obtain⟨mb,mc,hya, -,hmc⟩:=HOL.out.vars (by rw [<-qP.out];omega)
 rw [<-qP.out] at hya
 cases hya
 have hr4:=HOL.out.own.regs i (by rw [<-HN.out];exact hi)
 obtain⟨bv,hbv⟩:∃bv,bv=bs.getD i (.slice none 0 0):=⟨_,rfl⟩
 have hbuf:=(HOL.out.own.buf i (by rw [<-HN.out];exact hi))
 have hbl:=HBU.out i hi
 rw [<-HT.out] at hr4 htc hbuf hbl
 rw [<-hbv] at htc hbuf
 obtain⟨ba,bc,rfl, -, -⟩:=xu hbuf
 obtain⟨pc,rg,bf⟩:=t
 obtain⟨r0,r1,r2,r3,rfl⟩:=wP hr4
 simp only [] at zf7 zmp htc hbuf hbl HRR
 obtain⟨bl,kH⟩:∃bl,bl=bf.length:=⟨_,rfl⟩
 rw [<-kH] at htc hbuf hbl hbv
 obtain⟨qQ,rfl⟩:∃qQ:Nat,pc=qQ:=⟨pc.toNat,by omega⟩
 have vH:=qh kH
 have HBV:=qh hbv
 have HTC:Hid (∀k u,k<6-> [Value.int .i64 qQ, .int .i64 r0, .int .i64 r1, .int .i64 r2, .int .i64 r3, .slice ba bl bc][k]? =some u->X0.cell? ⟨tb,i*6+k,none⟩=some u/\X0.frozen? ⟨tb,i*6+k,none⟩=false):=by
  have e:(⟨(qQ:Int), [r0,r1,r2,r3],bf⟩:zy).cells (.slice ba bl bc)= [Value.int .i64 qQ, .int .i64 r0, .int .i64 r1, .int .i64 r2, .int .i64 r3, .slice ba bl bc] :=rfl
  rw [<-e];exact htc
 clear kH hbv hbuf htc hr4 hmc zf7
 obtain⟨ln,hln⟩:∃ln,ln=l.length:=⟨_,rfl⟩
 rw [<-hln] at zmp HRR
 obtain⟨eb,eo,ka,kc,yg, -,hec,hel⟩:=yJ.part uL.out i (by rw [<-HCN.out, <-jW.out];exact hi)
 rw [<-HL.out, <-hln] at hec hel
 subst yg
 have zuI:=qh hln
 clear hln
 have HEL:=qh hel
 have HEC:Hid (∀x,Below W.heap.size W x->x.cell? ⟨eb,eo+i,none⟩=some (.slice ka ln kc)):=λx hx=>zi hx _ _ hec
 clear hel hec
 have zAa:(i:Int)<(cn:Int):=by have:=jW.out;omega
 obtain⟨c0,c1,c2,c3,c4,c5,c6,c7⟩:=qw.out X0 HOL.out.below
 have e0:=HEC.out X0 HOL.out.below
 have t0:=(HTC.out 0 _ (by omega) rfl).1
 rw [Nat.add_zero] at t0
 have b0:=ze HOL.out.box 0
 by_cases hp:qQ<ln
 rotate_left
 ·have hpN:(ln:Int)<=(qQ:Int):=by omega
  have hres:R=none:=by rw [HRR.out,if_neg (by omega)]
  have zQ:=qh hres
  clear hres
  go_upto_region 3 with fail
  go_quiet (fail)
  go_upto_region 4 with fail
  generalize hX9:World.drewN X0 _=X9
  have hb9:Below X0.heap.size X0 X9:=by rw [<-hX9];exact zZ (Below.refl _ _) _
  clear hX9 c0 c1 c2 c3 c4 c5 c6 c7 e0 t0 b0
  have hbw:=zD HOL.out.below hb9
  have kE:=qh hbw
  obtain⟨c0,c1,c2,c3,c4,c5,c6,c7⟩:=qw.out X9 hbw
  have hr:=(hbw.block _ (zx H4.out)).trans H4.out
  have q0:=ze hr 0
  have q1:=ze hr 1
  have q2:=ze hr 2
  have f0:=zA hr 0
  have f1:=zA hr 1
  have f2:=zA hr 2
  have hset:=zu (zu (zu hr 0 (.slice ta n jG)) 1 (.slice ma mn jo)) 2 (.bool bad)
  simp only [List.setIfInBounds_toArray,List.set_cons_zero,List.set_cons_succ] at hset
  have hS:Since (λk=>k=gx+3) X9 (((X9.setCell ⟨gx+3,0,none⟩ (.slice ta n jG)).setCell ⟨gx+3,1,none⟩ (.slice ma mn jo)).setCell ⟨gx+3,2,none⟩ (.bool bad)):=Since.setCell (F:=λk=>k=gx+3) (p:=⟨gx+3,2,none⟩) (Since.setCell (F:=λk=>k=gx+3) (p:=⟨gx+3,1,none⟩) (Since.setCell (F:=λk=>k=gx+3) (p:=⟨gx+3,0,none⟩) (Since.refl _ X9) (.inl rfl) _) (.inl rfl) _) (.inl rfl) _
  have zL:=qh hset
  have xJ:=qh hS
  clear hr hset hS hb9 hbw
  go_wp2_with fail
  (try simp only [Exit.inBlock,Exit.then])
  refine bodyPost_ret (zB rfl _ _ (gx+3) 42 _ (0,0) _ rfl zL.out Tryz.underlying42 rfl zP) rfl ?_
  exact⟨uH zQ.out,(HB.out.trans (kE.out.mono HB.out.size)).trans (xJ.out.below (by have:=HB.out.size;have:=kE.out.size;omega) (λk e=>by have:=xD.out;omega))⟩
 have hpI:(qQ:Int)<(ln:Int):=by omega
 have hpN:¬(ln:Int)<=(qQ:Int):=by omega
 go_upto_region 3 with fail
 go_quiet (fail)
 go_upto_region 5 with fail
 generalize hX9:World.drewN X0 _=X9
 have hb9:Below X0.heap.size X0 X9:=by rw [<-hX9];exact zZ (Below.refl _ _) _
 clear hX9 c0 c1 c2 c3 c4 c5 c6 c7 e0 t0 b0
 have zho:=qh (HOL.out.later hb9)
 have zj2:Hid (∀k u,k<6-> [Value.int .i64 qQ, .int .i64 r0, .int .i64 r1, .int .i64 r2, .int .i64 r3, .slice ba bl bc][k]? =some u->∀x,Below X9.heap.size X9 x->x.cell? ⟨tb,i*6+k,none⟩=some u):=λk u hk hu x hx=>zi (zD hb9 hx) _ _ (HTC.out k u hk hu).1
 clear HTC
 have kE:=qh hb9
 clear hb9
 obtain⟨fb,fo,aa,ac,xba,xbc,hka, -,⟨x0,x1,x2⟩,⟨x3,x4,x5,x6⟩,⟨x7,x8,x9,x10⟩,gB,xa,xb⟩:=wZ.part HEL.out qQ (by rw [<-zuI.out];exact hp)
 subst hka
 obtain⟨x,hx⟩:∃x,x=l.getD qQ default:=⟨_,rfl⟩
 rw [<-hx] at x0 x1 x2 x3 x4 x5 x6 x7 x8 x9 x10 gB xa xb
 have hins:=z0d.out qQ (by rw [<-zuI.out];exact hp)
 rw [<-hx, <-zuI.out] at hins
 obtain⟨zAb,hrg0,zbL,z5W,z0f⟩:=hins
 rw [<-HME.out] at z0f
 have hr5:=HRR.out
 rw [if_pos hpI,show((qQ:Int)).toNat=qQ from rfl, <-hx] at hr5
 have HR5:=qh hr5
 clear hr5 HRR z0d hx
 obtain⟨op,hop⟩:∃v,v=x.op:=⟨_,rfl⟩
 obtain⟨wL,zuJ⟩:∃v:Nat,(v:Int)=x.reg:=⟨x.reg.toNat,by omega⟩
 obtain⟨vY,zuK⟩:∃v:Nat,(v:Int)=x.var:=⟨x.var.toNat,by omega⟩
 obtain⟨dst,hdst⟩:∃v,v=x.dest:=⟨_,rfl⟩
 obtain⟨ak,hak⟩:∃v,v=x.a.kind:=⟨_,rfl⟩
 obtain⟨an,han⟩:∃v,v=x.a.n:=⟨_,rfl⟩
 obtain⟨ao,hao⟩:∃v,v=x.a.op:=⟨_,rfl⟩
 obtain⟨al,hal⟩:∃v,v=x.a.kids.length:=⟨_,rfl⟩
 obtain⟨bk,hbk⟩:∃v,v=x.b.kind:=⟨_,rfl⟩
 obtain⟨bn,hbn⟩:∃v,v=x.b.n:=⟨_,rfl⟩
 obtain⟨bo,hbo⟩:∃v,v=x.b.op:=⟨_,rfl⟩
 obtain⟨bkl,zuL⟩:∃v,v=x.b.kids.length:=⟨_,rfl⟩
 obtain⟨A,hA⟩:∃v,v=yu [r0,r1,r2,r3] dom d x.a:=⟨_,rfl⟩
 obtain⟨B,hBB⟩:∃v,v=yu [r0,r1,r2,r3] dom d x.b:=⟨_,rfl⟩
 have z0h:Hid (∀X,Below W.heap.size W X->Calls Tryz.prog 70 #[.agg #[.int .i64 ak, .int .i64 an, .int .u8 ao, .slice aa al ac], .agg #[.int .i64 r0, .int .i64 r1, .int .i64 r2, .int .i64 r3], .int .i64 dom] X λe w'=>e= .returned (.int .i64 A)/\Below X.heap.size X w'):=λX hX=>by
  rw [hak,han,hao,hal,hA];exact zmq r0 r1 r2 r3 dom (by omega) (by omega) d X x.a _ (xa.below hX)
 have z0i:Hid (∀X,Below W.heap.size W X->Calls Tryz.prog 70 #[.agg #[.int .i64 bk, .int .i64 bn, .int .u8 bo, .slice xba bkl xbc], .agg #[.int .i64 r0, .int .i64 r1, .int .i64 r2, .int .i64 r3], .int .i64 dom] X λe w'=>e= .returned (.int .i64 B)/\Below X.heap.size X w'):=λX hX=>by
  rw [hbk,hbn,hbo,zuL,hBB];exact zmq r0 r1 r2 r3 dom (by omega) (by omega) d X x.b _ (xb.below hX)
 rw [<-hop] at x0
 rw [<-zuJ] at x1 zbL
 have zbL:wL<4:=by omega
 rw [<-zuK] at x2 z0f
 rw [<-hak] at x3
 rw [<-han] at x4
 rw [<-hao] at x5
 rw [<-hal] at x6
 rw [<-hbk] at x7
 rw [<-hbn] at x8
 rw [<-hbo] at x9
 rw [<-zuL] at x10
 rw [<-hdst] at gB
 have xM:=qh hop
 have HRG:=qh zuJ
 have HVR:=qh zuK
 have HDS:=qh hdst
 have HA:=qh hA
 have yL:=qh hBB
 clear hop zuJ zuK hdst hak han hao hal hbk hbn hbo zuL hA hBB xa xb hrg0 z5W
 have C5:Hid (∀y,Below X9.heap.size X9 y->y.cell? ⟨gx,2,none⟩=some (.slice (some ⟨eb,eo,none⟩) cn cc)/\y.cell? ⟨eb,eo+i,none⟩=some (.slice (some ⟨fb,fo,none⟩) ln kc)/\y.cell? ⟨tb,i*6,none⟩=some (.int .i64 qQ)/\
   y.cell? ⟨fb,fo+qQ*12,none⟩=some (.int .i64 op)/\y.cell? ⟨fb,fo+qQ*12+1,none⟩=some (.int .i64 wL)/\y.cell? ⟨fb,fo+qQ*12+2,none⟩=some (.int .i64 vY)/\
   y.cell? ⟨fb,fo+qQ*12+3,none⟩=some (.int .i64 ak)/\y.cell? ⟨fb,fo+qQ*12+4,none⟩=some (.int .i64 an)/\y.cell? ⟨fb,fo+qQ*12+5,none⟩=some (.int .u8 ao)/\y.cell? ⟨fb,fo+qQ*12+6,none⟩=some (.slice aa al ac)/\
   y.cell? ⟨fb,fo+qQ*12+7,none⟩=some (.int .i64 bk)/\y.cell? ⟨fb,fo+qQ*12+8,none⟩=some (.int .i64 bn)/\y.cell? ⟨fb,fo+qQ*12+9,none⟩=some (.int .u8 bo)/\y.cell? ⟨fb,fo+qQ*12+10,none⟩=some (.slice xba bkl xbc)/\y.cell? ⟨fb,fo+qQ*12+11,none⟩=some (.int .i64 dst)):=λy hy=>
  have hw:=zD zho.out.below hy
  have k2:=λp v h=>zi hw p v h
  ⟨(qw.out y hw).2.2.1,HEC.out y hw,zj2.out 0 _ (by omega) rfl y hy,k2 _ _ x0,k2 _ _ x1,k2 _ _ x2,k2 _ _ x3,k2 _ _ x4,k2 _ _ x5,k2 _ _ x6,k2 _ _ x7,k2 _ _ x8,k2 _ _ x9,k2 _ _ x10,k2 _ _ gB⟩
 clear x0 x1 x2 x3 x4 x5 x6 x7 x8 x9 x10 gB
 have h0:=wz.start 3 1 60 X9
 have hT0:=qh h0.drew
 clear h0
 refine vD (S:=λx=>Below X9.heap.size X9 x) (Below.refl _ _).drew (λ_=> ?_)
 obtain⟨wd,hwd⟩:∃wd,wd=X9.drew:=⟨_,rfl⟩
 rw [<-hwd] at hT0 ⊢
 clear hwd
 refine zC 0 zO (hT0.out.below) ?_
 refine zC 1 C5.out (hT0.out.below) ?_
 refine zC 2 zO (hT0.out.below) ?_
 refine zC 3 zO (hT0.out.below) ?_
 refine zC 4 C5.out (hT0.out.below) ?_
 refine zC 5 zO (hT0.out.below) ?_
 refine zC 6 zO (hT0.out.below) ?_
 refine zC 7 zO (hT0.out.below) ?_
 refine zC 8 C5.out (hT0.out.below) ?_
 refine zC 9 zO (hT0.out.below) ?_
 refine zC 10 C5.out (hT0.out.below) ?_
 refine yj 11 rfl (λK hK=> ?_)
 go_simp
 have vV:=hT0.out.alloc [.int .i64 0, .int .i64 0, .int .i64 0, .int .i64 0, .int .i64 0, .int .u8 0, .slice none 0 0, .int .i64 0, .int .i64 0, .int .u8 0, .slice none 0 0, .int .i64 0]
 refine hK.out _ _ vV.below (λ_=> ?_)
 obtain⟨gi,hgi⟩:∃n,n=wd.heap.size:=⟨_,rfl⟩
 rw [<-hgi] at vV ⊢
 clear hgi
 generalize World.alloc wd _=Xq2 at vV ⊢
 replace vV:=qh vV
 clear hK K
 refine yj 12 rfl (λK hK=> ?_)
 have hb1:=vV.out.zyg (g:=gi) (cs:= [.int .i64 0, .int .i64 0, .int .i64 0, .int .i64 0, .int .i64 0, .int .u8 0, .slice none 0 0, .int .i64 0, .int .i64 0, .int .u8 0, .slice none 0 0, .int .i64 0]) (by simp) [.int .i64 op, .int .i64 wL, .int .i64 vY, .int .i64 ak, .int .i64 an, .int .u8 ao, .slice aa al ac, .int .i64 bk, .int .i64 bn, .int .u8 bo, .slice xba bkl xbc, .int .i64 dst] rfl
 obtain⟨hn, -, -⟩:=vV.out.news (gi, [.int .i64 0, .int .i64 0, .int .i64 0, .int .i64 0, .int .i64 0, .int .u8 0, .slice none 0 0, .int .i64 0, .int .i64 0, .int .u8 0, .slice none 0 0, .int .i64 0]) (by simp)
 have d0:=ze hn 0
 have f0:=zA hn 0
 have d1:=ze hn 1
 have f1:=zA hn 1
 have d2:=ze hn 2
 have f2:=zA hn 2
 have d3:=ze hn 3
 have f3:=zA hn 3
 have d4:=ze hn 4
 have f4:=zA hn 4
 have d5:=ze hn 5
 have f5:=zA hn 5
 have d6:=ze hn 6
 have f6:=zA hn 6
 have d7:=ze hn 7
 have f7:=zA hn 7
 have d8:=ze hn 8
 have f8:=zA hn 8
 have d9:=ze hn 9
 have f9:=zA hn 9
 have d10:=ze hn 10
 have f10:=zA hn 10
 have d11:=ze hn 11
 have f11:=zA hn 11
 clear hn
 have vL:=qh hb1
 clear hb1
 go_simp
 clear d0 f0 d1 f1 d2 f2 d3 f3 d4 f4 d5 f5 d6 f6 d7 f7 d8 f8 d9 f9 d10 f10 d11 f11
 refine hK.out _ (yF Xq2 gi 0 [.int .i64 op, .int .i64 wL, .int .i64 vY, .int .i64 ak, .int .i64 an, .int .u8 ao, .slice aa al ac, .int .i64 bk, .int .i64 bn, .int .u8 bo, .slice xba bkl xbc, .int .i64 dst]) vL.out.1 (λ_=> ?_)
 generalize yF Xq2 gi 0 _=X1 at vL ⊢
 clear hK K
 refine xP ?_
 have hgi:=vL.out.2.2
 have xq:vQ W X1 gb gi tb n xc mb mn yc bad ts mem bs [.int .i64 op, .int .i64 wL, .int .i64 vY, .int .i64 ak, .int .i64 an, .int .u8 ao, .slice aa al ac, .int .i64 bk, .int .i64 bn, .int .u8 bo, .slice xba bkl xbc, .int .i64 dst] :=
  ⟨zho.out.later vL.out.1,vL.out.2.1,λe=>by have:=zx zho.out.box;omega,λe=>by have:=(zho.out.own.row.lt tb rfl).2;omega,λe=>by have:=(zho.out.own.mem.lt mb rfl).2;omega⟩
 have zeu:=qh xq
 clear hgi xq C5
 have zuM:Hid (∀y,Below X1.heap.size X1 y->y.cell? ⟨tb,i*6+1,none⟩=some (.int .i64 r0)/\y.cell? ⟨tb,i*6+2,none⟩=some (.int .i64 r1)/\y.cell? ⟨tb,i*6+3,none⟩=some (.int .i64 r2)/\y.cell? ⟨tb,i*6+4,none⟩=some (.int .i64 r3)):=λy hy=>
  have h:=zD vL.out.1 hy
  ⟨zj2.out 1 _ (by omega) rfl y h,zj2.out 2 _ (by omega) rfl y h,zj2.out 3 _ (by omega) rfl y h,zj2.out 4 _ (by omega) rfl y h⟩
 have HB1:=qh zeu.out.own.below
 have z0j:¬gi=gx+3:=λe=>by
  have h1:=zx H4.out
  have h2:=vL.out.2.2
  have h3:=zho.out.below.size
  omega
 have HGI:=qh z0j
 clear z0j
 go_upto_region 6 with fail
 obtain⟨t1,t2,t3,t4⟩:=zuM.out X1 (Below.refl _ _)
 have z3:=ze zeu.out.instr 3
 have z4:=ze zeu.out.instr 4
 have z5:=ze zeu.out.instr 5
 have z6:=ze zeu.out.instr 6
 have c1:=(qw.out X1 HB1.out).2.1
 refine wp_region_still_tail 8 (by kernel_rfl) (by kernel_rfl) ?_
 simp only [List.take_succ_cons,List.take_zero,List.drop_succ_cons,List.drop_zero]
 repeat still_step
 try refine wpStill_nil ?_
 change wpList _ _ _ _ _ X1.drew
 obtain⟨wd,hwd⟩:∃wd,wd=X1.drew:=⟨_,rfl⟩
 rw [<-hwd]
 have HBD:Hid (Below X1.heap.size X1 wd):=by rw [Hid,hwd];exact(Below.refl _ _).drew
 clear hwd t1 t2 t3 t4 z3 z4 z5 z6 c1
 go_upto_region 7 with(go_at_call 70;refine(z0h.out wd (zD HB1.out HBD.out)).mono ?_;rintro e X2 ⟨rfl,hb⟩;have HB2:=qh (zD HBD.out hb);clear hb)
 have zcY:=qh (zeu.out.below HB2.out)
 clear HBD
 obtain⟨t1,t2,t3,t4⟩:=zuM.out X2 HB2.out
 have z7:=ze zcY.out.instr 7
 have z8:=ze zcY.out.instr 8
 have z9:=ze zcY.out.instr 9
 have z10:=ze zcY.out.instr 10
 have c1:=(qw.out X2 zcY.out.own.below).2.1
 refine wp_region_still_tail 8 (by kernel_rfl) (by kernel_rfl) ?_
 simp only [List.take_succ_cons,List.take_zero,List.drop_succ_cons,List.drop_zero]
 repeat still_step
 try refine wpStill_nil ?_
 change wpList _ _ _ _ _ X2.drew
 obtain⟨wd',hwd⟩:∃wd,wd=X2.drew:=⟨_,rfl⟩
 rw [<-hwd]
 have HBD:Hid (Below X2.heap.size X2 wd'):=by rw [Hid,hwd];exact(Below.refl _ _).drew
 clear hwd t1 t2 t3 t4 z7 z8 z9 z10 c1
 go_upto_region 8 with(go_at_call 70;refine(z0i.out wd' (zD zcY.out.own.below HBD.out)).mono ?_;rintro e X3 ⟨rfl,hb⟩;have HB3:=qh (zD HBD.out hb);clear hb)
 have bg:=qh (zcY.out.below HB3.out)
 clear HBD
 have hin:i<ts.length:=by rw [<-HN.out];exact hi
 have hcl:(ts.getD i default).cells (bs.getD i (.slice none 0 0))= [.int .i64 qQ, .int .i64 r0, .int .i64 r1, .int .i64 r2, .int .i64 r3, .slice ba bl bc] :=by rw [<-HT.out, <-HBV.out];rfl
 have hpc:=bg.out.zpT hin 0 (.int .i64 qQ) (by omega) (by rw [hcl];rfl)
 rw [Nat.add_zero] at hpc
 obtain⟨t0,f0⟩:=hpc
 have hth:=bg.out.thread hin (k:=0) (by omega) (t:=⟨(qQ:Int)+1, [r0,r1,r2,r3],bf⟩) (b:= .slice ba bl bc) (u:= .int .i64 ((qQ:Int)+1)) (by rw [hcl];rfl) rfl (by have:=(bg.out.buf hin).1;rw [<-HT.out, <-HBV.out] at this;exact this) (by have:=(bg.out.buf hin).2;rw [<-HBV.out] at this;exact this) (by have:=bg.out.dist hin;rw [<-HBV.out] at this;exact this)
 rw [Nat.add_zero] at hth
 have yR:=qh hth
 have HIN:=qh hin
 clear hin hcl hth
 go_upto_region 9 with fail
 clear t0 f0
 generalize World.setCell X3 _ _=X4 at yR ⊢
 clear zeu zcY bg zuM zj2 zho HB1 HB2 HB3 vL kE HOL z0h z0i HSW uL HEL HEC HBU
 obtain⟨ts1,zj3⟩:∃ts1,ts1=ts.set i ⟨(qQ:Int)+1, [r0,r1,r2,r3],bf⟩:=⟨_,rfl⟩
 obtain⟨bs1,zuN⟩:∃bs1,bs1=bs.set i (.slice ba bl bc):=⟨_,rfl⟩
 have hlb:bs.length=ts.length:=by have:=yR.out.own.own.len;rw [List.length_set,List.length_set] at this;exact this
 rw [<-zj3, <-zuN] at yR
 have bZ:Hid (ts1.getD i default=⟨(qQ:Int)+1, [r0,r1,r2,r3],bf⟩):=by rw [Hid,zj3,qV HIN.out,if_pos rfl]
 have pq:Hid (bs1.getD i (.slice none 0 0)= .slice ba bl bc):=by rw [Hid,zuN,qV (by rw [hlb];exact HIN.out),if_pos rfl]
 have HL1:Hid (i<ts1.length):=by rw [Hid,zj3,List.length_set];exact HIN.out
 have HSS:Hid (∀t',ts1.set i t'=ts.set i t'):=λt'=>by rw [zj3,List.set_set]
 have HT1:Hid (ts1=ts.set i ⟨(qQ:Int)+1, [r0,r1,r2,r3],bf⟩):=zj3
 clear zj3 zuN hlb HT
 have HTC:Hid (∀k u,k<6-> [Value.int .i64 ((qQ:Int)+1), .int .i64 r0, .int .i64 r1, .int .i64 r2, .int .i64 r3, .slice ba bl bc][k]? =some u->X4.cell? ⟨tb,i*6+k,none⟩=some u/\X4.frozen? ⟨tb,i*6+k,none⟩=false):=by
  have h:=yR.out.zpT HL1.out
  rw [bZ.out,pq.out] at h
  exact h
 have jN:Hid (R=Option.map (λr=>(⟨ts.set i r.1,r.2.1,r.2.2⟩:zk)) (stepT ⟨vars,dom,cs⟩ ⟨mod,bnd⟩ ⟨ts,mem,bad⟩ ⟨qQ, [r0,r1,r2,r3],bf⟩ x d)):=by rw [Hid,HR5.out,HC.out,HM.out,HS.out]
 clear HR5 HC HM HS
 have zhd:=qh (yR.out.buf HL1.out)
 have yA:Hid (∀(X:World) (b':Bool),X.heap[gb]? =some (.cells #[.slice (some ⟨tb,0,none⟩) n xc, .slice (some ⟨mb,0,none⟩) mn yc, .bool b'] 42 (0,0))->Below W.heap.size W X->
   (X.cell? ⟨gb,0,none⟩=some (.slice (some ⟨tb,0,none⟩) n xc)/\X.cell? ⟨gb,1,none⟩=some (.slice (some ⟨mb,0,none⟩) mn yc)/\X.cell? ⟨gb,2,none⟩=some (.bool b'))/\
   (X.cell? ⟨gx+3,0,none⟩=some (.slice none 0 0)/\X.cell? ⟨gx+3,1,none⟩=some (.slice none 0 0)/\X.cell? ⟨gx+3,2,none⟩=some (.bool false))/\
   (X.frozen? ⟨gx+3,0,none⟩=false/\X.frozen? ⟨gx+3,1,none⟩=false/\X.frozen? ⟨gx+3,2,none⟩=false)/\
   (((X.setCell ⟨gx+3,0,none⟩ (.slice (some ⟨tb,0,none⟩) n xc)).setCell ⟨gx+3,1,none⟩ (.slice (some ⟨mb,0,none⟩) mn yc)).setCell ⟨gx+3,2,none⟩ (.bool b')).heap[gx+3]? =some (.cells #[.slice (some ⟨tb,0,none⟩) n xc, .slice (some ⟨mb,0,none⟩) mn yc, .bool b'] 42 (0,0))/\
   Since (λk=>k=gx+3) X (((X.setCell ⟨gx+3,0,none⟩ (.slice (some ⟨tb,0,none⟩) n xc)).setCell ⟨gx+3,1,none⟩ (.slice (some ⟨mb,0,none⟩) mn yc)).setCell ⟨gx+3,2,none⟩ (.bool b'))/\
   Below w.heap.size w (((X.setCell ⟨gx+3,0,none⟩ (.slice (some ⟨tb,0,none⟩) n xc)).setCell ⟨gx+3,1,none⟩ (.slice (some ⟨mb,0,none⟩) mn yc)).setCell ⟨gx+3,2,none⟩ (.bool b'))):=λX b' hX hW=>by
  have hres:=(hW.block _ (zx H4.out)).trans H4.out
  have hset:=zu (zu (zu hres 0 (.slice (some ⟨tb,0,none⟩) n xc)) 1 (.slice (some ⟨mb,0,none⟩) mn yc)) 2 (.bool b')
  simp only [List.setIfInBounds_toArray,List.set_cons_zero,List.set_cons_succ] at hset
  have hS:Since (λk=>k=gx+3) X (((X.setCell ⟨gx+3,0,none⟩ (.slice (some ⟨tb,0,none⟩) n xc)).setCell ⟨gx+3,1,none⟩ (.slice (some ⟨mb,0,none⟩) mn yc)).setCell ⟨gx+3,2,none⟩ (.bool b')):=Since.setCell (F:=λk=>k=gx+3) (p:=⟨gx+3,2,none⟩) (Since.setCell (F:=λk=>k=gx+3) (p:=⟨gx+3,1,none⟩) (Since.setCell (F:=λk=>k=gx+3) (p:=⟨gx+3,0,none⟩) (Since.refl _ X) (.inl rfl) _) (.inl rfl) _) (.inl rfl) _
  exact⟨⟨ze hX 0,ze hX 1,ze hX 2⟩,⟨ze hres 0,ze hres 1,ze hres 2⟩,⟨zA hres 0,zA hres 1,zA hres 2⟩,hset,hS,(HB.out.trans (hW.mono HB.out.size)).trans (hS.below (by have:=HB.out.size;have:=hW.size;omega) (λk e=>by have:=xD.out;omega))⟩
 have uI:Hid (∀(X X':World) (b':Bool) (ts':List zy) (mem':List Int) (bs' wU:List Value),vQ W X gb gi tb n xc mb mn yc b' ts' mem' bs' wU->Since (λk=>k=gx+3) X X'->OwnAt w.heap.size X' (.slice (some ⟨tb,0,none⟩) n xc) (.slice (some ⟨mb,0,none⟩) mn yc) ts' mem' bs'):=λX X' b' ts' mem' bs' wU h hS=>by
  have hlt:=zx H4.out
  exact OwnAt.lower (B:=W.heap.size) (h.own.own.since hS (λk hk e=>by have:=(h.own.own.row.lt k hk).1;omega) (λk hk e=>by have:=(h.own.own.mem.lt k hk).1;omega) (λj hj k hk e=>by have:=((h.own.own.buf j hj).lt k hk).1;omega)) HB.out.size
 go_cut [15] (λs15 w'=>∃em:Bool,s15= .bool em/\w'=X4/\Hid (em=decide (bl=0)))
 case first=>
  have t5:=(HTC.out 5 _ (by omega) rfl).1
  by_cases hb0:bl=0
  ·have hb1:((bl:Int)==0)=true:=by simp [hb0]
   go_wp2_with fail
   go_meet
   case rel=>exact⟨true,by first|rfl|simp,rfl,by simp [Hid,hb0]⟩
  have hb1:((bl:Int)==0)=false:=by simp [hb0]
  go_wp2_with fail
  go_meet
  case rel=>exact⟨false,by first|rfl|simp,rfl,by simp [Hid,hb0]⟩
 case rest=>
 obtain⟨em,rfl,hww,HEM⟩:=hcut
 obtain rfl:X4=wc:=hww.symm
 have k0:=ze yR.out.instr 0
 go_upto_region 11 with fail
 clear k0
 by_cases o1:op=1
 ·have jf:Hid ((1:Int)=x.op):=by rw [Hid, <-xM.out,o1]
  clear xM
  have xM:=jf
  clear jf
  have p1:((op:Int)==1)=true:=by simp [o1]
  clear o1
  as_aux_lemma=>
   go_upto_region 12 with fail
   obtain⟨lk,hlk⟩:∃lk,lk=gG bf vY:=⟨_,rfl⟩
   have zuO:=λY hY=>zuP Y (.slice ba bl bc) bf hY (by rw [<-vH.out];omega) vY
   rw [<-hlk] at zuO
   have z5X:=qh zuO
   have HLK:=qh hlk
   clear zuO hlk
   have hbu:=zhd.out.1
   rw [bZ.out,pq.out] at hbu
   have zpU:Hid (∀Y,Below X4.heap.size X4 Y->zY Y (.slice ba bl bc) bf):=λY hY=>zY.below (wB hbu) hY
   clear hbu
   have CZ:Hid (∀y,Below X4.heap.size X4 y->y.cell? ⟨tb,i*6+5,none⟩=some (.slice ba bl bc)/\y.cell? ⟨gi,2,none⟩=some (.int .i64 vY)):=λy hy=>⟨zi hy _ _ (HTC.out 5 _ (by omega) rfl).1,zi hy _ _ (ze yR.out.instr 2)⟩
   refine vD (S:=λx=>Below X4.heap.size X4 x) (Below.refl _ _).drew (λhH=> ?_)
   refine zw 0 CZ.out ?_
   refine zw 1 CZ.out ?_
   refine zw 2 CZ.out ?_
   refine zw 3 CZ.out ?_
   refine zw 4 CZ.out ?_
   refine zw 5 CZ.out ?_
   refine yj 6 rfl (λK hK=> ?_)
   go_simp
   refine(z5X.out X4.drew (zpU.out X4.drew hH)).mono ?_
   rintro e zev ⟨rfl,hb⟩
   have zpV:Below X4.heap.size X4 zev:=zD hH hb
   refine hK.out _ _ zpV (λ_=> ?_)
   clear hK K hb hH
   refine zw 7 CZ.out ?_
   refine zw 8 CZ.out ?_
   refine zw 9 CZ.out ?_
   refine zw 10 CZ.out ?_
   refine zw 11 CZ.out ?_
   refine xP ?_
   have pX:=qh (yR.out.below zpV)
   clear zpV
   skip
   cases lk with
   |some lv=>
    simp only [Option.getD_some,Option.isSome_some]
    go_upto_region 15 with fail
    have z1:=ze pX.out.instr 1
    refine wp_region_still_tail 7 (by kernel_rfl) (by kernel_rfl) ?_
    simp only [List.take_succ_cons,List.take_zero,List.drop_succ_cons,List.drop_zero]
    repeat still_step
    try refine wpStill_nil ?_
    change wpList _ _ _ _ _ zev.drew
    obtain⟨X5,hX5⟩:∃wd,wd=zev.drew:=⟨_,rfl⟩
    rw [<-hX5]
    have z5Y:Hid (Below zev.heap.size zev X5):=by rw [Hid,hX5];exact(Below.refl _ _).drew
    clear hX5
    have zwZ:=qh (pX.out.below z5Y.out)
    clear z1
    obtain⟨u0,v0⟩:=zwZ.out.bW HL1.out bZ.out pq.out (1+wL) (.int .i64 ([r0,r1,r2,r3].getD wL 0)) (by omega) (zet zbL)
    rw [<-Nat.add_assoc] at u0 v0
    have hw6:=zwZ.out.set HL1.out (k:=1+wL) (by omega) (t':=⟨(qQ:Int)+1,([r0,r1,r2,r3].set wL lv),bf⟩) (u:=(.int .i64 lv)) bZ.out pq.out (zcg zbL) (by simp) rfl
    rw [<-Nat.add_assoc] at hw6
    have HW6:=qh hw6
    clear hw6
    go_upto_region 48 with fail
    clear u0 v0
    generalize World.setCell X5 _ _=X6 at HW6 ⊢
    obtain⟨hr6,ht6,hb6,hl6⟩:=HW6.out
    have z2N:=qh hr6
    have zAc:=qh ht6
    have zAd:=qh hb6
    have HL6:=qh hl6
    clear hr6 ht6 hb6 hl6 HW6
    have hres:R=some ⟨ts.set i ⟨(qQ:Int)+1, [r0,r1,r2,r3].set wL lv,bf⟩,mem,bad⟩:=by
     rw [jN.out,pF xM.out.symm]
     simp only [Option.map_some]
     rw [<-HVR.out, <-HLK.out, <-HRG.out]
     rfl
    have zQ:=qh hres
    clear hres
    have xq:=z2N.out
    rw [HSS.out] at xq
    have yM:=qh xq
    clear xq
    obtain⟨⟨a0,a1,a2⟩,⟨q0,q1,q2⟩,⟨f0,f1,f2⟩,hset,hsn,hbe⟩:=yA.out X6 bad yM.out.own.box yM.out.own.below
    have zL:=qh hset
    have xJ:=qh hsn
    have yL:=qh hbe
    clear hset hsn hbe
    go_wp2_with fail
    (try simp only [Exit.inBlock,Exit.then])
    refine bodyPost_ret (zB rfl _ _ (gx+3) 42 _ (0,0) _ rfl zL.out Tryz.underlying42 rfl zP) rfl ?_
    exact⟨qL zQ.out (uI.out _ _ _ _ _ _ _ yM.out xJ.out),yL.out⟩
   |none=>
   simp only [Option.getD_none,Option.isSome_none]
   go_upto_region 14 with fail
   obtain⟨nv,hnv⟩:∃nv,nv=mem.getD vY 0:=⟨_,rfl⟩
   obtain⟨sb,so,hsa, -,hsc⟩:=xU.part zj1.out vY (by rw [<-qP.out];omega)
   subst hsa
   rw [<-hnv] at hsc
   have HNV:=qh hnv
   clear hnv
   have s1:=zi pX.out.own.below _ _ hsc
   have c6:=(qw.out _ pX.out.own.below).2.2.2.2.2.2.1
   have uX:(vY:Int)<(mn:Int):=by omega
   have z2:=ze pX.out.instr 2
   go_upto_region 15 with fail
   clear z2 s1 c6 hsc
   go_upto_region 15 with fail
   have z1:=ze pX.out.instr 1
   refine wp_region_still_tail 7 (by kernel_rfl) (by kernel_rfl) ?_
   simp only [List.take_succ_cons,List.take_zero,List.drop_succ_cons,List.drop_zero]
   repeat still_step
   try refine wpStill_nil ?_
   change wpList _ _ _ _ _ zev.drew
   obtain⟨X7,hX7⟩:∃wd,wd=zev.drew:=⟨_,rfl⟩
   rw [<-hX7]
   have z5Z:Hid (Below zev.heap.size zev X7):=by rw [Hid,hX7];exact(Below.refl _ _).drew
   clear hX7
   have zxa:=qh (pX.out.below z5Z.out)
   clear z1
   obtain⟨u0,v0⟩:=zxa.out.bW HL1.out bZ.out pq.out (1+wL) (.int .i64 ([r0,r1,r2,r3].getD wL 0)) (by omega) (zet zbL)
   rw [<-Nat.add_assoc] at u0 v0
   have hw8:=zxa.out.set HL1.out (k:=1+wL) (by omega) (t':=⟨(qQ:Int)+1,([r0,r1,r2,r3].set wL nv),bf⟩) (u:=(.int .i64 nv)) bZ.out pq.out (zcg zbL) (by simp) rfl
   rw [<-Nat.add_assoc] at hw8
   have HW8:=qh hw8
   clear hw8
   go_upto_region 48 with fail
   clear u0 v0
   generalize World.setCell X7 _ _=X8 at HW8 ⊢
   obtain⟨hr8,ht8,hb8,hl8⟩:=HW8.out
   have z2O:=qh hr8
   have zAe:=qh ht8
   have zAf:=qh hb8
   have wV:=qh hl8
   clear hr8 ht8 hb8 hl8 HW8
   have hres:R=some ⟨ts.set i ⟨(qQ:Int)+1, [r0,r1,r2,r3].set wL nv,bf⟩,mem,bad⟩:=by
    rw [jN.out,pF xM.out.symm]
    simp only [Option.map_some]
    rw [<-HVR.out, <-HLK.out, <-HRG.out]
    rw [show((vY:Int)).toNat=vY from rfl, <-HNV.out]
    rfl
   have zQ:=qh hres
   clear hres
   have xq:=z2O.out
   rw [HSS.out] at xq
   have yM:=qh xq
   clear xq
   obtain⟨⟨a0,a1,a2⟩,⟨q0,q1,q2⟩,⟨f0,f1,f2⟩,hset,hsn,hbe⟩:=yA.out X8 bad yM.out.own.box yM.out.own.below
   have zL:=qh hset
   have xJ:=qh hsn
   have yL:=qh hbe
   clear hset hsn hbe
   go_wp2_with fail
   (try simp only [Exit.inBlock,Exit.then])
   refine bodyPost_ret (zB rfl _ _ (gx+3) 42 _ (0,0) _ rfl zL.out Tryz.underlying42 rfl zP) rfl ?_
   exact⟨qL zQ.out (uI.out _ _ _ _ _ _ _ yM.out xJ.out),yL.out⟩
 have p1:((op:Int)==1)=false:=by simp [o1]
 by_cases o2:op=2
 ·have jf:Hid ((2:Int)=x.op):=by rw [Hid, <-xM.out,o2]
  clear xM
  have xM:=jf
  clear jf
  have p2:((op:Int)==2)=true:=by simp [o2]
  clear o2
  as_aux_lemma=>
   go_upto_region 17 with fail
   have c3:=(qw.out _ yR.out.own.below).2.2.2.1
   by_cases hm0:mod=0
   ·have hm1:((mod:Int)==0)=true:=by simp [hm0]
    have HM0:=qh hm0
    clear hm0
    go_upto_region 18 with fail
    clear c3 hm1
    go_upto_region 18 with fail
    have z2:=ze yR.out.instr 2
    have hbx:=yR.out.own.box
    have g1:=ze hbx 1
    clear hbx
    have hml:vY<mem.length:=by rw [<-qP.out];omega
    obtain⟨m0,m1⟩:=yR.out.zkS hml
    have uX:(vY:Int)<(mn:Int):=by omega
    have zxb:=qh (yR.out.mem vY A)
    clear hml
    go_upto_region 19 with fail
    clear z2 g1 m0 m1 uX
    generalize World.setCell X4 _ _=X9 at zxb ⊢
    have hres:R=some ⟨ts1,(mem.set vY A),bad⟩:=by
     rw [jN.out,bF xM.out.symm HM0.out]
     simp only [Option.map_some]
     rw [<-HVR.out, <-HA.out,HT1.out]
     rfl
    have zQ:=qh hres
    clear hres
    have xq:=zxb.out
    have yM:=qh xq
    clear xq
    obtain⟨⟨a0,a1,a2⟩,⟨q0,q1,q2⟩,⟨f0,f1,f2⟩,hset,hsn,hbe⟩:=yA.out X9 bad yM.out.own.box yM.out.own.below
    have zL:=qh hset
    have xJ:=qh hsn
    have yL:=qh hbe
    clear hset hsn hbe
    go_wp2_with fail
    (try simp only [Exit.inBlock,Exit.then])
    refine bodyPost_ret (zB rfl _ _ (gx+3) 42 _ (0,0) _ rfl zL.out Tryz.underlying42 rfl zP) rfl ?_
    exact⟨qL zQ.out (uI.out _ _ _ _ _ _ _ yM.out xJ.out),yL.out⟩
   have hm1:((mod:Int)==0)=false:=by simp [hm0]
   have HM0:=qh hm0
   clear hm0
   go_upto_region 20 with fail
   clear c3 hm1
   obtain⟨ok,hok⟩:∃ok,ok=qR bf ⟨mod,bnd⟩ ⟨vY,A⟩:=⟨_,rfl⟩
   have hput:=λY hY=>zow Y (.slice ba bl bc) bf hY (by rw [<-vH.out];omega) ⟨mod,bnd⟩ ⟨vY,A⟩
   rw [<-hok] at hput
   have kI:=qh hput
   have jk:=qh hok
   clear hput hok
   have hbu:=zhd.out.1
   rw [bZ.out,pq.out] at hbu
   have zpU:Hid (∀Y,Below X4.heap.size X4 Y->zY Y (.slice ba bl bc) bf):=λY hY=>zY.below (wB hbu) hY
   clear hbu
   have CZ:Hid (∀y,Below X4.heap.size X4 y->y.cell? ⟨tb,i*6+5,none⟩=some (.slice ba bl bc)/\y.cell? ⟨gi,2,none⟩=some (.int .i64 vY)/\y.cell? ⟨gx+1,0,none⟩=some (.int .i64 mod)/\y.cell? ⟨gx+1,1,none⟩=some (.int .i64 bnd)):=λy hy=>⟨zi hy _ _ (HTC.out 5 _ (by omega) rfl).1,zi hy _ _ (ze yR.out.instr 2),(qw.out y (zD yR.out.own.below hy)).2.2.2.1,(qw.out y (zD yR.out.own.below hy)).2.2.2.2.1⟩
   refine vD (S:=λx=>Below X4.heap.size X4 x) (Below.refl _ _).drew (λhH=> ?_)
   refine zw 0 CZ.out ?_
   refine zw 1 CZ.out ?_
   refine zw 2 CZ.out ?_
   refine zw 3 CZ.out ?_
   refine zw 4 CZ.out ?_
   refine zw 5 CZ.out ?_
   refine zw 6 CZ.out ?_
   refine zw 7 CZ.out ?_
   refine zw 8 CZ.out ?_
   refine yj 9 rfl (λK hK=> ?_)
   go_simp
   refine(kI.out X4.drew (zpU.out X4.drew hH)).mono ?_
   rintro e zmr ⟨⟨bv,rfl,hbv,hrow⟩,hb⟩
   obtain⟨pa,pc2,rfl, -⟩:=zh.slice hbv
   have qW:=qh hrow
   clear hbv hrow
   have zpW:Below X4.heap.size X4 zmr:=zD hH hb
   refine hK.out _ _ zpW (λ_=> ?_)
   clear hK K hb hH
   refine zw 10 CZ.out ?_
   refine zw 11 CZ.out ?_
   refine zw 12 CZ.out ?_
   refine zw 13 CZ.out ?_
   refine zw 14 CZ.out ?_
   refine xP ?_
   have pX:=qh (yR.out.below zpW)
   clear zpW
   have z6a:=qh (zx yR.out.own.box)
   have z6b:=qh (yR.out.own.own.row.lt tb rfl).2
   have z6c:=qh (yR.out.own.own.mem.lt mb rfl).2
   have z6d:=qh yR.out.own.below.size
   go_upto_region 21 with fail
   obtain⟨t5,v5⟩:=pX.out.bW HL1.out bZ.out pq.out 5 (.slice ba bl bc) (by omega) rfl
   obtain⟨pl,hpl⟩:∃pl,pl=(jJ bf ⟨mod,bnd⟩ ⟨vY,A⟩).length:=⟨_,rfl⟩
   rw [<-hpl] at qW ⊢
   have jP:=qh hpl
   clear hpl
   cases ok with
   |true=>
    have hrw:=yU (C:=W.heap.size) (qW.out rfl) z6d.out
    have hpw:=pX.out.thread HL1.out (k:=5) (by omega) (t:=⟨(qQ:Int)+1, [r0,r1,r2,r3],jJ bf ⟨mod,bnd⟩ ⟨vY,A⟩⟩) (b:= .slice pa pl pc2) (u:= .slice pa pl pc2) (by rw [bZ.out,pq.out];rfl) rfl (by rw [<-jP.out];exact hrw) (λk hk=>by have h1:X4.heap.size<=k:=((qW.out rfl).lt k hk).1;have:=z6a.out;have:=z6b.out;have:=z6c.out;exact⟨by omega,by omega,by omega⟩) (λk hk j hj _ e=>by have h1:X4.heap.size<=k:=((qW.out rfl).lt k hk).1;have h2:=((yR.out.own.own.buf j hj).lt k e).2;omega)
    rw [HSS.out] at hpw
    have HPW:=qh hpw
    clear hpw hrw
    go_upto_region 22 with fail
    clear t5 v5
    generalize World.setCell zmr _ _=XY at HPW ⊢
    have hres:R=some ⟨(ts.set i ⟨(qQ:Int)+1, [r0,r1,r2,r3],jJ bf ⟨mod,bnd⟩ ⟨vY,A⟩⟩),mem,bad⟩:=by
     rw [jN.out,bG xM.out.symm HM0.out (by rw [<-HVR.out, <-HA.out, <-jk.out])]
     simp only [Option.map_some]
     rw [<-HVR.out, <-HA.out]
    have zQ:=qh hres
    clear hres
    have xq:=HPW.out
    have yM:=qh xq
    clear xq
    obtain⟨⟨a0,a1,a2⟩,⟨q0,q1,q2⟩,⟨f0,f1,f2⟩,hset,hsn,hbe⟩:=yA.out XY bad yM.out.own.box yM.out.own.below
    have zL:=qh hset
    have xJ:=qh hsn
    have yL:=qh hbe
    clear hset hsn hbe
    go_wp2_with fail
    (try simp only [Exit.inBlock,Exit.then])
    refine bodyPost_ret (zB rfl _ _ (gx+3) 42 _ (0,0) _ rfl zL.out Tryz.underlying42 rfl zP) rfl ?_
    exact⟨qL zQ.out (uI.out _ _ _ _ _ _ _ yM.out xJ.out),yL.out⟩
   |false=>
   have hbx:=pX.out.own.box
   have hsY:Since (λx=>x=tb) zmr (zmr.setCell ⟨tb,i*6+5,none⟩ (.slice pa pl pc2)):=Since.setCell (F:=λx=>x=tb) (p:=⟨tb,i*6+5,none⟩) (Since.refl _ _) (.inl rfl) _
   have zcD:=(hsY.block gb (zx hbx) (λe=>pX.out.own.n1 (by rw [e];rfl))).trans hbx
   have z0q:=pX.out.own.below.trans (hsY.below pX.out.own.below.size (λx e=>by have:=(pX.out.own.own.row.lt tb rfl).1;omega))
   have yZ:=qh zcD
   have z0r:=qh z0q
   clear hbx hsY zcD z0q
   have hres:R=none:=by
    rw [jN.out,bH xM.out.symm HM0.out (by rw [<-HVR.out, <-HA.out, <-jk.out])]
    rfl
   have zQ:=qh hres
   clear hres
   go_upto_region 22 with fail
   clear t5 v5
   generalize World.setCell zmr _ _=XY at yZ z0r ⊢
   obtain⟨⟨a0,a1,a2⟩,⟨q0,q1,q2⟩,⟨f0,f1,f2⟩,hset, -,hbe⟩:=yA.out XY bad yZ.out z0r.out
   have zL:=qh hset
   have yL:=qh hbe
   clear hset hbe
   go_wp2_with fail
   (try simp only [Exit.inBlock,Exit.then])
   refine bodyPost_ret (zB rfl _ _ (gx+3) 42 _ (0,0) _ rfl zL.out Tryz.underlying42 rfl zP) rfl ?_
   exact⟨uH zQ.out,yL.out⟩
 have p2:((op:Int)==2)=false:=by simp [o2]
 by_cases o3:op=3
 ·have jf:Hid ((3:Int)=x.op):=by rw [Hid, <-xM.out,o3]
  clear xM
  have xM:=jf
  clear jf
  have p3:((op:Int)==3)=true:=by simp [o3]
  clear o3
  as_aux_lemma=>
   go_upto_region 24 with fail
   have z1:=ze yR.out.instr 1
   refine wp_region_still_tail 7 (by kernel_rfl) (by kernel_rfl) ?_
   simp only [List.take_succ_cons,List.take_zero,List.drop_succ_cons,List.drop_zero]
   repeat still_step
   try refine wpStill_nil ?_
   change wpList _ _ _ _ _ X4.drew
   obtain⟨X10,zuQ⟩:∃wd,wd=X4.drew:=⟨_,rfl⟩
   rw [<-zuQ]
   have z2P:Hid (Below X4.heap.size X4 X10):=by rw [Hid,zuQ];exact(Below.refl _ _).drew
   clear zuQ
   have zsw:=qh (yR.out.below z2P.out)
   clear z1
   obtain⟨u0,v0⟩:=zsw.out.bW HL1.out bZ.out pq.out (1+wL) (.int .i64 ([r0,r1,r2,r3].getD wL 0)) (by omega) (zet zbL)
   rw [<-Nat.add_assoc] at u0 v0
   have zcE:=zsw.out.set HL1.out (k:=1+wL) (by omega) (t':=⟨(qQ:Int)+1,([r0,r1,r2,r3].set wL A),bf⟩) (u:=(.int .i64 A)) bZ.out pq.out (zcg zbL) (by simp) rfl
   rw [<-Nat.add_assoc] at zcE
   have zuR:=qh zcE
   clear zcE
   go_upto_region 48 with fail
   clear u0 v0
   generalize World.setCell X10 _ _=X11 at zuR ⊢
   obtain⟨z0s,z0t,z0u,z0v⟩:=zuR.out
   have z0w:=qh z0s
   have z95:=qh z0t
   have z96:=qh z0u
   have zAg:=qh z0v
   clear z0s z0t z0u z0v zuR
   have hres:R=some ⟨ts.set i ⟨(qQ:Int)+1, [r0,r1,r2,r3].set wL A,bf⟩,mem,bad⟩:=by
    rw [jN.out,zbz xM.out.symm]
    simp only [Option.map_some]
    rw [<-HA.out, <-HRG.out]
    rfl
   have zQ:=qh hres
   clear hres
   have xq:=z0w.out
   rw [HSS.out] at xq
   have yM:=qh xq
   clear xq
   obtain⟨⟨a0,a1,a2⟩,⟨q0,q1,q2⟩,⟨f0,f1,f2⟩,hset,hsn,hbe⟩:=yA.out X11 bad yM.out.own.box yM.out.own.below
   have zL:=qh hset
   have xJ:=qh hsn
   have yL:=qh hbe
   clear hset hsn hbe
   go_wp2_with fail
   (try simp only [Exit.inBlock,Exit.then])
   refine bodyPost_ret (zB rfl _ _ (gx+3) 42 _ (0,0) _ rfl zL.out Tryz.underlying42 rfl zP) rfl ?_
   exact⟨qL zQ.out (uI.out _ _ _ _ _ _ _ yM.out xJ.out),yL.out⟩
 have p3:((op:Int)==3)=false:=by simp [o3]
 by_cases o4:op=4
 ·have jf:Hid ((4:Int)=x.op):=by rw [Hid, <-xM.out,o4]
  clear xM
  have xM:=jf
  clear jf
  have p4:((op:Int)==4)=true:=by simp [o4]
  clear o4
  as_aux_lemma=>
   go_upto_region 26 with fail
   cases em with
   |true=>
    have hb0:bf.length=0:=by rw [<-vH.out];exact of_decide_eq_true HEM.out.symm
    have HB0:=qh hb0
    clear hb0
    have hres:R=some ⟨ts1,mem,bad⟩:=by
     rw [jN.out,uO xM.out.symm]
     rw [if_pos HB0.out,HT1.out]
     rfl
    have zQ:=qh hres
    clear hres
    have xq:=yR.out
    have yM:=qh xq
    clear xq
    obtain⟨⟨a0,a1,a2⟩,⟨q0,q1,q2⟩,⟨f0,f1,f2⟩,hset,hsn,hbe⟩:=yA.out X4 bad yM.out.own.box yM.out.own.below
    have zL:=qh hset
    have xJ:=qh hsn
    have yL:=qh hbe
    clear hset hsn hbe
    go_wp2_with fail
    (try simp only [Exit.inBlock,Exit.then])
    refine bodyPost_ret (zB rfl _ _ (gx+3) 42 _ (0,0) _ rfl zL.out Tryz.underlying42 rfl zP) rfl ?_
    exact⟨qL zQ.out (uI.out _ _ _ _ _ _ _ yM.out xJ.out),yL.out⟩
   |false=>
   have hb0:¬bf.length=0:=by rw [<-vH.out];exact of_decide_eq_false HEM.out.symm
   have HB0:=qh hb0
   clear hb0
   have hres:R=none:=by
    rw [jN.out,uO xM.out.symm]
    rw [if_neg HB0.out]
    rfl
   have zQ:=qh hres
   clear hres
   have xq:=yR.out
   have yM:=qh xq
   clear xq
   obtain⟨⟨a0,a1,a2⟩,⟨q0,q1,q2⟩,⟨f0,f1,f2⟩,hset,hsn,hbe⟩:=yA.out X4 bad yM.out.own.box yM.out.own.below
   have zL:=qh hset
   have xJ:=qh hsn
   have yL:=qh hbe
   clear hset hsn hbe
   go_wp2_with fail
   (try simp only [Exit.inBlock,Exit.then])
   refine bodyPost_ret (zB rfl _ _ (gx+3) 42 _ (0,0) _ rfl zL.out Tryz.underlying42 rfl zP) rfl ?_
   exact⟨uH zQ.out,yL.out⟩
 have p4:((op:Int)==4)=false:=by simp [o4]
 by_cases o5:op=5
 ·have jf:Hid ((5:Int)=x.op):=by rw [Hid, <-xM.out,o5]
  clear xM
  have xM:=jf
  clear jf
  have p5:((op:Int)==5)=true:=by simp [o5]
  clear o5
  as_aux_lemma=>
   go_upto_region 28 with fail
   have CZ:Hid (∀y,Since (λk=>k=gx+3) X4 y->y.cell? ⟨gb,0,none⟩=some (.slice (some ⟨tb,0,none⟩) n xc)/\y.cell? ⟨gb,1,none⟩=some (.slice (some ⟨mb,0,none⟩) mn yc)/\y.cell? ⟨gb,2,none⟩=some (.bool bad)/\y.cell? ⟨gx+1,0,none⟩=some (.int .i64 mod)):=λy hy=>by
    have h1:=yR.out.own.box
    have hlo:=yR.out.own.lo
    have hlt:=zx H4.out
    have h2:=(hy.block _ (zx h1) (by omega)).trans h1
    have h3:=(yR.out.own.below.block _ (zx H2.out)).trans H2.out
    have h4:=(hy.block _ (zx h3) (by omega)).trans h3
    exact⟨ze h2 0,ze h2 1,ze h2 2,ze h4 0⟩
   cases em with
   |true=>
    have hb0:bf.length=0:=by rw [<-vH.out];exact of_decide_eq_true HEM.out.symm
    have HB0:=qh hb0
    clear hb0
    have hres:R=some ⟨ts1,mem,bad⟩:=by
     rw [jN.out,uq xM.out.symm]
     rw [if_pos (.inl HB0.out),HT1.out]
     rfl
    have zQ:=qh hres
    clear hres
    have xq:=yR.out
    have yM:=qh xq
    clear xq
    refine vD (S:=λy=>Since (λk=>k=gx+3) X4 y) (Since.refl _ _).drew (λ_=> ?_)
    obtain⟨wd,hwd⟩:∃wd,wd=X4.drew:=⟨_,rfl⟩
    rw [<-hwd]
    have HFX:=yA.out wd bad (by rw [hwd];exact yM.out.own.box) (by rw [hwd];exact yM.out.own.below.drew)
    have xK:Hid (Since (λk=>k=gx+3) X4 wd):=by rw [Hid,hwd];exact(Since.refl _ _).drew
    clear hwd
    refine zC 0 CZ.out (xK.out) ?_
    refine zC 1 zO (xK.out) ?_
    refine zC 2 zO (xK.out) ?_
    refine wpAnyH_take (i:=3) (v:=undef) rfl (by kernel_rfl) (by kernel_rfl) (by kernel_rfl) (λ_ _ _ h=>h) (Or.inr ⟨by rfl,rfl⟩) (xK.out) ?_
    change wpAnyH _ _ _ _ _ _ _ (Act.put _ (some 158) _) _
    simp only [Act.put,kL]
    try simp only [kM,kN]
    refine wpAnyH_take (i:=4) (v:=undef) rfl (by kernel_rfl) (by kernel_rfl) (by kernel_rfl) (λ_ _ _ h=>h) (Or.inr ⟨by rfl,rfl⟩) (xK.out) ?_
    change wpAnyH _ _ _ _ _ _ _ (Act.put _ (some 159) _) _
    simp only [Act.put,kL]
    try simp only [kM,kN]
    refine wpAnyH_take (i:=5) (v:=undef) rfl (by kernel_rfl) (by kernel_rfl) (by kernel_rfl) (λ_ _ _ h=>h) (Or.inr ⟨by rfl,rfl⟩) (xK.out) ?_
    change wpAnyH _ _ _ _ _ _ _ (Act.put _ (some 160) _) _
    simp only [Act.put,kL]
    try simp only [kM,kN]
    refine zC 6 zO (xK.out) ?_
    refine yj 7 rfl (λK hK=> ?_)
    obtain⟨-,⟨q0,q1,q2⟩,⟨f0,f1,f2⟩,hset,hsn,hbe⟩:=HFX
    have zL:=qh hset
    have xJ:=qh hsn
    have yL:=qh hbe
    clear hset hsn hbe
    go_simp
    refine hK.out _ _ (xK.out.trans xJ.out (λ_ h=> .inl h)) (λ_=> ?_)
    clear hK K
    refine zC 8 zO ((xK.out.trans xJ.out (λ_ h=> .inl h))) ?_
    refine xP ?_
    go_wp2_with fail
    (try simp only [Exit.inBlock,Exit.then])
    refine bodyPost_ret (zB rfl _ _ (gx+3) 42 _ (0,0) _ rfl zL.out Tryz.underlying42 rfl zP) rfl ?_
    exact⟨qL zQ.out (uI.out _ _ _ _ _ _ _ yM.out (xK.out.trans xJ.out (λ_ h=> .inl h))),yL.out⟩
   |false=>
   have hb0:¬bf.length=0:=by rw [<-vH.out];exact of_decide_eq_false HEM.out.symm
   have HB0:=qh hb0
   clear hb0
   by_cases hm2:mod=2
   rotate_left
   ·have hm3:((mod:Int) !=2)=true:=by simp [hm2]
    have uY:=qh hm2
    clear hm2
    have hres:R=some ⟨ts1,mem,bad⟩:=by
     rw [jN.out,uq xM.out.symm]
     rw [if_pos (.inr uY.out),HT1.out]
     rfl
    have zQ:=qh hres
    clear hres
    have xq:=yR.out
    have yM:=qh xq
    clear xq
    refine vD (S:=λy=>Since (λk=>k=gx+3) X4 y) (Since.refl _ _).drew (λ_=> ?_)
    obtain⟨wd,hwd⟩:∃wd,wd=X4.drew:=⟨_,rfl⟩
    rw [<-hwd]
    have HFX:=yA.out wd bad (by rw [hwd];exact yM.out.own.box) (by rw [hwd];exact yM.out.own.below.drew)
    have xK:Hid (Since (λk=>k=gx+3) X4 wd):=by rw [Hid,hwd];exact(Since.refl _ _).drew
    clear hwd
    refine zC 0 CZ.out (xK.out) ?_
    refine zC 1 zO (xK.out) ?_
    refine zC 2 zO (xK.out) ?_
    refine zC 3 zO (xK.out) ?_
    refine zC 4 CZ.out (xK.out) ?_
    refine zC 5 zO (xK.out) ?_
    refine zC 6 zO (xK.out) ?_
    refine yj 7 rfl (λK hK=> ?_)
    obtain⟨-,⟨q0,q1,q2⟩,⟨f0,f1,f2⟩,hset,hsn,hbe⟩:=HFX
    have zL:=qh hset
    have xJ:=qh hsn
    have yL:=qh hbe
    clear hset hsn hbe
    go_simp
    refine hK.out _ _ (xK.out.trans xJ.out (λ_ h=> .inl h)) (λ_=> ?_)
    clear hK K
    refine zC 8 zO ((xK.out.trans xJ.out (λ_ h=> .inl h))) ?_
    refine xP ?_
    go_wp2_with fail
    (try simp only [Exit.inBlock,Exit.then])
    refine bodyPost_ret (zB rfl _ _ (gx+3) 42 _ (0,0) _ rfl zL.out Tryz.underlying42 rfl zP) rfl ?_
    exact⟨qL zQ.out (uI.out _ _ _ _ _ _ _ yM.out (xK.out.trans xJ.out (λ_ h=> .inl h))),yL.out⟩
   have hm3:((mod:Int) !=2)=false:=by simp [hm2]
   have uY:=qh hm2
   clear hm2
   have hres:R=none:=by
    rw [jN.out,uq xM.out.symm]
    rw [if_neg (λh=>h.elim HB0.out (λh=>h uY.out))]
    rfl
   have zQ:=qh hres
   clear hres
   have xq:=yR.out
   have yM:=qh xq
   clear xq
   refine vD (S:=λy=>Since (λk=>k=gx+3) X4 y) (Since.refl _ _).drew (λ_=> ?_)
   obtain⟨wd,hwd⟩:∃wd,wd=X4.drew:=⟨_,rfl⟩
   rw [<-hwd]
   have HFX:=yA.out wd bad (by rw [hwd];exact yM.out.own.box) (by rw [hwd];exact yM.out.own.below.drew)
   have xK:Hid (Since (λk=>k=gx+3) X4 wd):=by rw [Hid,hwd];exact(Since.refl _ _).drew
   clear hwd
   refine zC 0 CZ.out (xK.out) ?_
   refine zC 1 zO (xK.out) ?_
   refine zC 2 zO (xK.out) ?_
   refine zC 3 zO (xK.out) ?_
   refine zC 4 CZ.out (xK.out) ?_
   refine zC 5 zO (xK.out) ?_
   refine zC 6 zO (xK.out) ?_
   refine yj 7 rfl (λK hK=> ?_)
   obtain⟨-,⟨q0,q1,q2⟩,⟨f0,f1,f2⟩,hset,hsn,hbe⟩:=HFX
   have zL:=qh hset
   have xJ:=qh hsn
   have yL:=qh hbe
   clear hset hsn hbe
   go_simp
   refine hK.out _ _ (xK.out.trans xJ.out (λ_ h=> .inl h)) (λ_=> ?_)
   clear hK K
   refine zC 8 zO ((xK.out.trans xJ.out (λ_ h=> .inl h))) ?_
   refine xP ?_
   go_wp2_with fail
   (try simp only [Exit.inBlock,Exit.then])
   refine bodyPost_ret (zB rfl _ _ (gx+3) 42 _ (0,0) _ rfl zL.out Tryz.underlying42 rfl zP) rfl ?_
   exact⟨uH zQ.out,yL.out⟩
 have p5:((op:Int)==5)=false:=by simp [o5]
 by_cases o6:op=6
 ·have jf:Hid ((6:Int)=x.op):=by rw [Hid, <-xM.out,o6]
  clear xM
  have xM:=jf
  clear jf
  have p6:((op:Int)==6)=true:=by simp [o6]
  clear o6
  as_aux_lemma=>
   go_upto_region 30 with fail
   have z1:=ze yR.out.instr 1
   refine wp_region_still_tail 6 (by kernel_rfl) (by kernel_rfl) ?_
   simp only [List.take_succ_cons,List.take_zero,List.drop_succ_cons,List.drop_zero]
   repeat still_step
   try refine wpStill_nil ?_
   change wpList _ _ _ _ _ X4.drew
   obtain⟨X15,zuS⟩:∃wd,wd=X4.drew:=⟨_,rfl⟩
   rw [<-zuS]
   have z2Q:Hid (Below X4.heap.size X4 X15):=by rw [Hid,zuS];exact(Below.refl _ _).drew
   clear zuS
   have zsx:=qh (yR.out.below z2Q.out)
   clear z1
   obtain⟨u0,v0⟩:=zsx.out.bW HL1.out bZ.out pq.out (1+wL) (.int .i64 ([r0,r1,r2,r3].getD wL 0)) (by omega) (zet zbL)
   rw [<-Nat.add_assoc] at u0 v0
   have hw16:=zsx.out.set HL1.out (k:=1+wL) (by omega) (t':=⟨(qQ:Int)+1,([r0,r1,r2,r3].set wL 0),bf⟩) (u:=(.int .i64 0)) bZ.out pq.out (zcg zbL) (by simp) rfl
   rw [<-Nat.add_assoc] at hw16
   have zuT:=qh hw16
   clear hw16
   go_upto_region 31 with fail
   clear u0 v0
   generalize World.setCell X15 _ _=X16 at zuT ⊢
   obtain⟨z0y,z0z,z00,z01⟩:=zuT.out
   have zaY:=qh z0y
   have zxc:=qh z0z
   have zxd:=qh z00
   have z02:=qh z01
   clear z0y z0z z00 z01 zuT
   obtain⟨nv,hnv⟩:∃nv,nv=mem.getD vY 0:=⟨_,rfl⟩
   obtain⟨sb,so,hsa, -,hsc⟩:=xU.part zj1.out vY (by rw [<-qP.out];omega)
   subst hsa
   rw [<-hnv] at hsc
   have HNV:=qh hnv
   clear hnv
   have s1:=zi zaY.out.own.below _ _ hsc
   have c6:=(qw.out _ zaY.out.own.below).2.2.2.2.2.2.1
   have uX:(vY:Int)<(mn:Int):=by omega
   have z2:=ze zaY.out.instr 2
   by_cases ha0:nv=A
   rotate_left
   ·have ha1:((nv:Int)==A)=false:=by simp [ha0]
    have HA0:=qh ha0
    clear ha0
    go_upto_region 34 with fail
    clear z2 s1 c6 hsc uX ha1
    cases em with
    |true=>
     have hb0:bf.length=0:=by rw [<-vH.out];exact of_decide_eq_true HEM.out.symm
     have HB0:=qh hb0
     clear hb0
     have hres:R=some ⟨ts.set i ⟨(qQ:Int)+1, [r0,r1,r2,r3].set wL 0,bf⟩,mem,bad⟩:=by
      rw [jN.out,pI xM.out.symm (by rw [<-HVR.out, <-HA.out];exact λe=>HA0.out (HNV.out.trans e)),if_pos HB0.out]
      simp only [Option.map_some]
      rw [<-HRG.out]
      rfl
     have zQ:=qh hres
     clear hres
     have xq:=zaY.out
     rw [HSS.out] at xq
     have yM:=qh xq
     clear xq
     obtain⟨⟨a0,a1,a2⟩,⟨q0,q1,q2⟩,⟨f0,f1,f2⟩,hset,hsn,hbe⟩:=yA.out X16 bad yM.out.own.box yM.out.own.below
     have zL:=qh hset
     have xJ:=qh hsn
     have yL:=qh hbe
     clear hset hsn hbe
     go_wp2_with fail
     (try simp only [Exit.inBlock,Exit.then])
     refine bodyPost_ret (zB rfl _ _ (gx+3) 42 _ (0,0) _ rfl zL.out Tryz.underlying42 rfl zP) rfl ?_
     exact⟨qL zQ.out (uI.out _ _ _ _ _ _ _ yM.out xJ.out),yL.out⟩
    |false=>
    have hb0:¬bf.length=0:=by rw [<-vH.out];exact of_decide_eq_false HEM.out.symm
    have HB0:=qh hb0
    clear hb0
    have hres:R=none:=by
     rw [jN.out,pI xM.out.symm (by rw [<-HVR.out, <-HA.out];exact λe=>HA0.out (HNV.out.trans e)),if_neg HB0.out]
     rfl
    have zQ:=qh hres
    clear hres
    have xq:=zaY.out
    have yM:=qh xq
    clear xq
    obtain⟨⟨a0,a1,a2⟩,⟨q0,q1,q2⟩,⟨f0,f1,f2⟩,hset,hsn,hbe⟩:=yA.out X16 bad yM.out.own.box yM.out.own.below
    have zL:=qh hset
    have xJ:=qh hsn
    have yL:=qh hbe
    clear hset hsn hbe
    go_wp2_with fail
    (try simp only [Exit.inBlock,Exit.then])
    refine bodyPost_ret (zB rfl _ _ (gx+3) 42 _ (0,0) _ rfl zL.out Tryz.underlying42 rfl zP) rfl ?_
    exact⟨uH zQ.out,yL.out⟩
   have ha1:((nv:Int)==A)=true:=by simp [ha0]
   have HA0:=qh ha0
   clear ha0
   go_upto_region 32 with fail
   clear z2 s1 c6 hsc uX ha1
   go_upto_region 32 with fail
   have z2:=ze zaY.out.instr 2
   have hbx:=zaY.out.own.box
   have g1:=ze hbx 1
   clear hbx
   have hml:vY<mem.length:=by rw [<-qP.out];omega
   obtain⟨m0,m1⟩:=zaY.out.zkS hml
   have uX:(vY:Int)<(mn:Int):=by omega
   have zms:=qh (zaY.out.mem vY B)
   clear hml
   go_upto_region 33 with fail
   clear z2 g1 m0 m1 uX
   generalize World.setCell X16 _ _=X17 at zms ⊢
   go_upto_region 33 with fail
   have z1:=ze zms.out.instr 1
   refine wp_region_still_tail 6 (by kernel_rfl) (by kernel_rfl) ?_
   simp only [List.take_succ_cons,List.take_zero,List.drop_succ_cons,List.drop_zero]
   repeat still_step
   try refine wpStill_nil ?_
   change wpList _ _ _ _ _ X17.drew
   obtain⟨X18,zuU⟩:∃wd,wd=X17.drew:=⟨_,rfl⟩
   rw [<-zuU]
   have z2R:Hid (Below X17.heap.size X17 X18):=by rw [Hid,zuU];exact(Below.refl _ _).drew
   clear zuU
   have zsy:=qh (zms.out.below z2R.out)
   clear z1
   obtain⟨u0,v0⟩:=zsy.out.bW z02.out zxc.out zxd.out (1+wL) (.int .i64 ([0,0,0,0].getD wL 0)) (by omega) (zsm zbL)
   rw [<-Nat.add_assoc] at u0 v0
   have zuV:=zsy.out.set z02.out (k:=1+wL) (by omega) (t':=⟨(qQ:Int)+1,([r0,r1,r2,r3].set wL 1),bf⟩) (u:=(.int .i64 1)) zxc.out zxd.out (zn8 zbL) (by simp) rfl
   rw [<-Nat.add_assoc] at zuV
   have zuW:=qh zuV
   clear zuV
   go_upto_region 34 with fail
   clear u0 v0
   generalize World.setCell X18 _ _=X19 at zuW ⊢
   obtain⟨z03,z04,z05,z06⟩:=zuW.out
   have zsz:=qh z03
   have z97:=qh z04
   have z98:=qh z05
   have zAh:=qh z06
   clear z03 z04 z05 z06 zuW
   cases em with
   |true=>
    have hb0:bf.length=0:=by rw [<-vH.out];exact of_decide_eq_true HEM.out.symm
    have HB0:=qh hb0
    clear hb0
    have hres:R=some ⟨ts.set i ⟨(qQ:Int)+1, [r0,r1,r2,r3].set wL 1,bf⟩,(mem.set vY B),bad⟩:=by
     rw [jN.out,pG xM.out.symm (by rw [<-HVR.out, <-HA.out, <-HA0.out,HNV.out];rfl),if_pos HB0.out]
     simp only [Option.map_some]
     rw [<-HVR.out, <-yL.out, <-HRG.out]
     rfl
    have zQ:=qh hres
    clear hres
    have xq:=zsz.out
    rw [List.set_set,HSS.out] at xq
    have yM:=qh xq
    clear xq
    obtain⟨⟨a0,a1,a2⟩,⟨q0,q1,q2⟩,⟨f0,f1,f2⟩,hset,hsn,hbe⟩:=yA.out X19 bad yM.out.own.box yM.out.own.below
    have zL:=qh hset
    have xJ:=qh hsn
    have yL:=qh hbe
    clear hset hsn hbe
    go_wp2_with fail
    (try simp only [Exit.inBlock,Exit.then])
    refine bodyPost_ret (zB rfl _ _ (gx+3) 42 _ (0,0) _ rfl zL.out Tryz.underlying42 rfl zP) rfl ?_
    exact⟨qL zQ.out (uI.out _ _ _ _ _ _ _ yM.out xJ.out),yL.out⟩
   |false=>
   have hb0:¬bf.length=0:=by rw [<-vH.out];exact of_decide_eq_false HEM.out.symm
   have HB0:=qh hb0
   clear hb0
   have hres:R=none:=by
    rw [jN.out,pG xM.out.symm (by rw [<-HVR.out, <-HA.out, <-HA0.out,HNV.out];rfl),if_neg HB0.out]
    rfl
   have zQ:=qh hres
   clear hres
   have xq:=zsz.out
   have yM:=qh xq
   clear xq
   obtain⟨⟨a0,a1,a2⟩,⟨q0,q1,q2⟩,⟨f0,f1,f2⟩,hset,hsn,hbe⟩:=yA.out X19 bad yM.out.own.box yM.out.own.below
   have zL:=qh hset
   have xJ:=qh hsn
   have yL:=qh hbe
   clear hset hsn hbe
   go_wp2_with fail
   (try simp only [Exit.inBlock,Exit.then])
   refine bodyPost_ret (zB rfl _ _ (gx+3) 42 _ (0,0) _ rfl zL.out Tryz.underlying42 rfl zP) rfl ?_
   exact⟨uH zQ.out,yL.out⟩
 have p6:((op:Int)==6)=false:=by simp [o6]
 by_cases o7:op=7
 ·have jf:Hid ((7:Int)=x.op):=by rw [Hid, <-xM.out,o7]
  clear xM
  have xM:=jf
  clear jf
  have p7:((op:Int)==7)=true:=by simp [o7]
  clear o7
  as_aux_lemma=>
   obtain⟨nv,hnv⟩:∃nv,nv=mem.getD vY 0:=⟨_,rfl⟩
   obtain⟨sb,so,hsa,hsb,hsc⟩:=xU.part zj1.out vY (by rw [<-qP.out];omega)
   subst hsa
   rw [<-hnv] at hsc
   have HNV:=qh hnv
   have HSC:=qh hsc
   clear hnv hsc hsb
   obtain⟨sb2,so2,he2,z6e, -⟩:=xU.part z5U.out vY (by rw [<-qP.out];omega)
   cases he2
   have HSG:Hid (¬sb=gx+3):=λe=>by have:=xD.out;omega
   clear z6e
   go_upto_region 36 with fail
   have z2:=ze yR.out.instr 2
   have hbx:=yR.out.own.box
   have g1:=ze hbx 1
   clear hbx
   have hml:vY<mem.length:=by rw [<-qP.out];omega
   obtain⟨m0,m1⟩:=yR.out.zkS hml
   have uX:(vY:Int)<(mn:Int):=by omega
   have zba:=qh (yR.out.mem vY 1)
   clear hml
   go_upto_region 37 with fail
   clear z2 g1 m0 m1 uX
   generalize World.setCell X4 _ _=X20 at zba ⊢
   have uX:(vY:Int)<(mn:Int):=by omega
   have CZ:Hid (∀y,Since (λk=>k=gx+3) X20 y->y.cell? ⟨gb,0,none⟩=some (.slice (some ⟨tb,0,none⟩) n xc)/\y.cell? ⟨gb,1,none⟩=some (.slice (some ⟨mb,0,none⟩) mn yc)/\y.cell? ⟨gb,2,none⟩=some (.bool bad)/\y.cell? ⟨gx+2,1,none⟩=some (.slice (some ⟨sb,so,none⟩) mn jo)/\y.cell? ⟨gi,2,none⟩=some (.int .i64 vY)/\y.cell? ⟨sb,so+vY,none⟩=some (.int .i64 nv)):=λy hy=>by
    have h1:=zba.out.own.box
    have hlo:=zba.out.own.lo
    have hlt:=zx H4.out
    have h2:=(hy.block _ (zx h1) (by omega)).trans h1
    have h3:=(zba.out.own.below.block _ (zx H3.out)).trans H3.out
    have h4:=(hy.block _ (zx h3) (by omega)).trans h3
    have h5:=zba.out.instr
    have h6:=(hy.block _ (zx h5) HGI.out).trans h5
    have h7:=zi zba.out.own.below _ _ HSC.out
    have h8:=(hy.cell (p:=⟨sb,so+vY,none⟩) (World.block_lt_of_cell? _ _ h7) HSG.out).trans h7
    exact⟨ze h2 0,ze h2 1,ze h2 2,ze h4 1,ze h6 2,h8⟩
   cases em with
   |true=>
    have hb0:bf.length=0:=by rw [<-vH.out];exact of_decide_eq_true HEM.out.symm
    have HB0:=qh hb0
    clear hb0
    by_cases ha0:nv=0
    rotate_left
    ·have ha1:((nv:Int)==0)=false:=by simp [ha0]
     have HA0:=qh ha0
     clear ha0
     have hres:R=none:=by
      rw [jN.out,uw xM.out.symm]
      rw [if_neg (λh=>HA0.out (by have:=h.2;rw [<-HVR.out] at this;exact HNV.out.trans this))]
      rfl
     have zQ:=qh hres
     clear hres
     have xq:=zba.out
     have yM:=qh xq
     clear xq
     refine vD (S:=λy=>Since (λk=>k=gx+3) X20 y) (Since.refl _ _).drew (λ_=> ?_)
     obtain⟨wd,hwd⟩:∃wd,wd=X20.drew:=⟨_,rfl⟩
     rw [<-hwd]
     have HFX:=yA.out wd bad (by rw [hwd];exact yM.out.own.box) (by rw [hwd];exact yM.out.own.below.drew)
     have xK:Hid (Since (λk=>k=gx+3) X20 wd):=by rw [Hid,hwd];exact(Since.refl _ _).drew
     clear hwd
     refine zC 0 CZ.out (xK.out) ?_
     refine zC 1 zO (xK.out) ?_
     refine zC 2 zO (xK.out) ?_
     refine zC 3 zO (xK.out) ?_
     refine zC 4 CZ.out (xK.out) ?_
     refine zC 5 zO (xK.out) ?_
     refine zC 6 CZ.out (xK.out) ?_
     refine zC 7 zO (xK.out) ?_
     refine zC 8 CZ.out (xK.out) ?_
     refine zC 9 zO (xK.out) ?_
     refine zC 10 zO (xK.out) ?_
     refine yj 11 rfl (λK hK=> ?_)
     obtain⟨-,⟨q0,q1,q2⟩,⟨f0,f1,f2⟩,hset,hsn,hbe⟩:=HFX
     have zL:=qh hset
     have xJ:=qh hsn
     have yL:=qh hbe
     clear hset hsn hbe
     go_simp
     refine hK.out _ _ (xK.out.trans xJ.out (λ_ h=> .inl h)) (λ_=> ?_)
     clear hK K
     refine zC 12 zO ((xK.out.trans xJ.out (λ_ h=> .inl h))) ?_
     refine xP ?_
     go_wp2_with fail
     (try simp only [Exit.inBlock,Exit.then])
     refine bodyPost_ret (zB rfl _ _ (gx+3) 42 _ (0,0) _ rfl zL.out Tryz.underlying42 rfl zP) rfl ?_
     exact⟨uH zQ.out,yL.out⟩
    have ha1:((nv:Int)==0)=true:=by simp [ha0]
    have HA0:=qh ha0
    clear ha0
    have hres:R=some ⟨ts1,(mem.set vY 1),bad⟩:=by
     rw [jN.out,uw xM.out.symm]
     rw [if_pos ⟨HB0.out,by rw [<-HVR.out];exact HNV.out.symm.trans HA0.out⟩]
     simp only [Option.map_some]
     rw [<-HVR.out,HT1.out]
     rfl
    have zQ:=qh hres
    clear hres
    have xq:=zba.out
    have yM:=qh xq
    clear xq
    refine vD (S:=λy=>Since (λk=>k=gx+3) X20 y) (Since.refl _ _).drew (λ_=> ?_)
    obtain⟨wd,hwd⟩:∃wd,wd=X20.drew:=⟨_,rfl⟩
    rw [<-hwd]
    have HFX:=yA.out wd bad (by rw [hwd];exact yM.out.own.box) (by rw [hwd];exact yM.out.own.below.drew)
    have xK:Hid (Since (λk=>k=gx+3) X20 wd):=by rw [Hid,hwd];exact(Since.refl _ _).drew
    clear hwd
    refine zC 0 CZ.out (xK.out) ?_
    refine zC 1 zO (xK.out) ?_
    refine zC 2 zO (xK.out) ?_
    refine zC 3 zO (xK.out) ?_
    refine zC 4 CZ.out (xK.out) ?_
    refine zC 5 zO (xK.out) ?_
    refine zC 6 CZ.out (xK.out) ?_
    refine zC 7 zO (xK.out) ?_
    refine zC 8 CZ.out (xK.out) ?_
    refine zC 9 zO (xK.out) ?_
    refine zC 10 zO (xK.out) ?_
    refine yj 11 rfl (λK hK=> ?_)
    obtain⟨-,⟨q0,q1,q2⟩,⟨f0,f1,f2⟩,hset,hsn,hbe⟩:=HFX
    have zL:=qh hset
    have xJ:=qh hsn
    have yL:=qh hbe
    clear hset hsn hbe
    go_simp
    refine hK.out _ _ (xK.out.trans xJ.out (λ_ h=> .inl h)) (λ_=> ?_)
    clear hK K
    refine zC 12 zO ((xK.out.trans xJ.out (λ_ h=> .inl h))) ?_
    refine xP ?_
    go_wp2_with fail
    (try simp only [Exit.inBlock,Exit.then])
    refine bodyPost_ret (zB rfl _ _ (gx+3) 42 _ (0,0) _ rfl zL.out Tryz.underlying42 rfl zP) rfl ?_
    exact⟨qL zQ.out (uI.out _ _ _ _ _ _ _ yM.out (xK.out.trans xJ.out (λ_ h=> .inl h))),yL.out⟩
   |false=>
   have hb0:¬bf.length=0:=by rw [<-vH.out];exact of_decide_eq_false HEM.out.symm
   have HB0:=qh hb0
   clear hb0
   have hres:R=none:=by
    rw [jN.out,uw xM.out.symm]
    rw [if_neg (λh=>HB0.out h.1)]
    rfl
   have zQ:=qh hres
   clear hres
   have xq:=zba.out
   have yM:=qh xq
   clear xq
   refine vD (S:=λy=>Since (λk=>k=gx+3) X20 y) (Since.refl _ _).drew (λ_=> ?_)
   obtain⟨wd,hwd⟩:∃wd,wd=X20.drew:=⟨_,rfl⟩
   rw [<-hwd]
   have HFX:=yA.out wd bad (by rw [hwd];exact yM.out.own.box) (by rw [hwd];exact yM.out.own.below.drew)
   have xK:Hid (Since (λk=>k=gx+3) X20 wd):=by rw [Hid,hwd];exact(Since.refl _ _).drew
   clear hwd
   refine zC 0 CZ.out (xK.out) ?_
   refine zC 1 zO (xK.out) ?_
   refine zC 2 zO (xK.out) ?_
   refine wpAnyH_take (i:=3) (v:=undef) rfl (by kernel_rfl) (by kernel_rfl) (by kernel_rfl) (λ_ _ _ h=>h) (Or.inr ⟨by rfl,rfl⟩) (xK.out) ?_
   change wpAnyH _ _ _ _ _ _ _ (Act.put _ (some 202) _) _
   simp only [Act.put,kL]
   try simp only [kM,kN]
   refine wpAnyH_take (i:=4) (v:=undef) rfl (by kernel_rfl) (by kernel_rfl) (by kernel_rfl) (λ_ _ _ h=>h) (Or.inr ⟨by rfl,rfl⟩) (xK.out) ?_
   change wpAnyH _ _ _ _ _ _ _ (Act.put _ (some 203) _) _
   simp only [Act.put,kL]
   try simp only [kM,kN]
   refine wpAnyH_take (i:=5) (v:=undef) rfl (by kernel_rfl) (by kernel_rfl) (by kernel_rfl) (λ_ _ _ h=>h) (Or.inr ⟨by rfl,rfl⟩) (xK.out) ?_
   change wpAnyH _ _ _ _ _ _ _ (Act.put _ (some 204) _) _
   simp only [Act.put,kL]
   try simp only [kM,kN]
   refine wpAnyH_take (i:=6) (v:=undef) rfl (by kernel_rfl) (by kernel_rfl) (by kernel_rfl) (λ_ _ _ h=>h) (Or.inr ⟨by rfl,rfl⟩) (xK.out) ?_
   change wpAnyH _ _ _ _ _ _ _ (Act.put _ (some 205) _) _
   simp only [Act.put,kL]
   try simp only [kM,kN]
   refine wpAnyH_take (i:=7) (v:=undef) rfl (by kernel_rfl) (by kernel_rfl) (by kernel_rfl) (λ_ _ _ h=>h) (Or.inr ⟨by rfl,rfl⟩) (xK.out) ?_
   change wpAnyH _ _ _ _ _ _ _ (Act.put _ (some 206) _) _
   simp only [Act.put,kL]
   try simp only [kM,kN]
   refine wpAnyH_take (i:=8) (v:=undef) rfl (by kernel_rfl) (by kernel_rfl) (by kernel_rfl) (λ_ _ _ h=>h) (Or.inr ⟨by rfl,rfl⟩) (xK.out) ?_
   change wpAnyH _ _ _ _ _ _ _ (Act.put _ (some 207) _) _
   simp only [Act.put,kL]
   try simp only [kM,kN]
   refine wpAnyH_take (i:=9) (v:=undef) rfl (by kernel_rfl) (by kernel_rfl) (by kernel_rfl) (λ_ _ _ h=>h) (Or.inr ⟨by rfl,rfl⟩) (xK.out) ?_
   change wpAnyH _ _ _ _ _ _ _ (Act.put _ (some 208) _) _
   simp only [Act.put,kL]
   try simp only [kM,kN]
   refine zC 10 zO (xK.out) ?_
   refine yj 11 rfl (λK hK=> ?_)
   obtain⟨-,⟨q0,q1,q2⟩,⟨f0,f1,f2⟩,hset,hsn,hbe⟩:=HFX
   have zL:=qh hset
   have xJ:=qh hsn
   have yL:=qh hbe
   clear hset hsn hbe
   go_simp
   refine hK.out _ _ (xK.out.trans xJ.out (λ_ h=> .inl h)) (λ_=> ?_)
   clear hK K
   refine zC 12 zO ((xK.out.trans xJ.out (λ_ h=> .inl h))) ?_
   refine xP ?_
   go_wp2_with fail
   (try simp only [Exit.inBlock,Exit.then])
   refine bodyPost_ret (zB rfl _ _ (gx+3) 42 _ (0,0) _ rfl zL.out Tryz.underlying42 rfl zP) rfl ?_
   exact⟨uH zQ.out,yL.out⟩
 have p7:((op:Int)==7)=false:=by simp [o7]
 by_cases o8:op=8
 ·have jf:Hid ((8:Int)=x.op):=by rw [Hid, <-xM.out,o8]
  clear xM
  have xM:=jf
  clear jf
  have p8:((op:Int)==8)=true:=by simp [o8]
  clear o8
  as_aux_lemma=>
   go_upto_region 39 with fail
   have z2:=ze yR.out.instr 2
   have hbx:=yR.out.own.box
   have g1:=ze hbx 1
   clear hbx
   have hml:vY<mem.length:=by rw [<-qP.out];omega
   obtain⟨m0,m1⟩:=yR.out.zkS hml
   have uX:(vY:Int)<(mn:Int):=by omega
   have zmt:=qh (yR.out.mem vY 0)
   clear hml
   go_upto_region 40 with fail
   clear z2 g1 m0 m1 uX
   generalize World.setCell X4 _ _=X24 at zmt ⊢
   cases em with
   |true=>
    have hb0:bf.length=0:=by rw [<-vH.out];exact of_decide_eq_true HEM.out.symm
    have HB0:=qh hb0
    clear hb0
    have hres:R=some ⟨ts1,(mem.set vY 0),bad⟩:=by
     rw [jN.out,gI xM.out.symm]
     rw [if_pos HB0.out]
     simp only [Option.map_some]
     rw [<-HVR.out,HT1.out]
     rfl
    have zQ:=qh hres
    clear hres
    have xq:=zmt.out
    have yM:=qh xq
    clear xq
    obtain⟨⟨a0,a1,a2⟩,⟨q0,q1,q2⟩,⟨f0,f1,f2⟩,hset,hsn,hbe⟩:=yA.out X24 bad yM.out.own.box yM.out.own.below
    have zL:=qh hset
    have xJ:=qh hsn
    have yL:=qh hbe
    clear hset hsn hbe
    go_wp2_with fail
    (try simp only [Exit.inBlock,Exit.then])
    refine bodyPost_ret (zB rfl _ _ (gx+3) 42 _ (0,0) _ rfl zL.out Tryz.underlying42 rfl zP) rfl ?_
    exact⟨qL zQ.out (uI.out _ _ _ _ _ _ _ yM.out xJ.out),yL.out⟩
   |false=>
   have hb0:¬bf.length=0:=by rw [<-vH.out];exact of_decide_eq_false HEM.out.symm
   have HB0:=qh hb0
   clear hb0
   have hres:R=none:=by
    rw [jN.out,gI xM.out.symm]
    rw [if_neg HB0.out]
    rfl
   have zQ:=qh hres
   clear hres
   have xq:=zmt.out
   have yM:=qh xq
   clear xq
   obtain⟨⟨a0,a1,a2⟩,⟨q0,q1,q2⟩,⟨f0,f1,f2⟩,hset,hsn,hbe⟩:=yA.out X24 bad yM.out.own.box yM.out.own.below
   have zL:=qh hset
   have xJ:=qh hsn
   have yL:=qh hbe
   clear hset hsn hbe
   go_wp2_with fail
   (try simp only [Exit.inBlock,Exit.then])
   refine bodyPost_ret (zB rfl _ _ (gx+3) 42 _ (0,0) _ rfl zL.out Tryz.underlying42 rfl zP) rfl ?_
   exact⟨uH zQ.out,yL.out⟩
 have p8:((op:Int)==8)=false:=by simp [o8]
 by_cases o9:op=9
 ·have jf:Hid ((9:Int)=x.op):=by rw [Hid, <-xM.out,o9]
  clear xM
  have xM:=jf
  clear jf
  have p9:((op:Int)==9)=true:=by simp [o9]
  clear o9
  as_aux_lemma=>
   go_upto_region 42 with fail
   have hbx:=yR.out.own.box
   have g2:=ze hbx 2
   have h2:=zA hbx 2
   clear hbx
   cases bad with
   |true=>
    have zs3:=qh (yR.out.isBad true)
    go_upto_region 48 with fail
    clear g2 h2
    generalize World.setCell X4 _ _=X25 at zs3 ⊢
    have hres:R=some ⟨ts1,mem,true⟩:=by
     rw [jN.out,kZ xM.out.symm]
     rw [HT1.out]
     rfl
    have zQ:=qh hres
    clear hres
    have xq:=zs3.out
    have yM:=qh xq
    clear xq
    obtain⟨⟨a0,a1,a2⟩,⟨q0,q1,q2⟩,⟨f0,f1,f2⟩,hset,hsn,hbe⟩:=yA.out X25 true yM.out.own.box yM.out.own.below
    have zL:=qh hset
    have xJ:=qh hsn
    have yL:=qh hbe
    clear hset hsn hbe
    go_wp2_with fail
    (try simp only [Exit.inBlock,Exit.then])
    refine bodyPost_ret (zB rfl _ _ (gx+3) 42 _ (0,0) _ rfl zL.out Tryz.underlying42 rfl zP) rfl ?_
    exact⟨qL zQ.out (uI.out _ _ _ _ _ _ _ yM.out xJ.out),yL.out⟩
   |false=>
   by_cases ha0:A=0
   rotate_left
   ·have ha1:((A:Int)==0)=false:=by simp [ha0]
    have HA0:=qh ha0
    clear ha0
    have zs4:=qh (yR.out.isBad false)
    go_upto_region 48 with fail
    clear g2 h2
    generalize World.setCell X4 _ _=X27 at zs4 ⊢
    have hres:R=some ⟨ts1,mem,false⟩:=by
     rw [jN.out,kZ xM.out.symm]
     rw [HT1.out, <-HA.out,decide_eq_false HA0.out]
     rfl
    have zQ:=qh hres
    clear hres
    have xq:=zs4.out
    have yM:=qh xq
    clear xq
    obtain⟨⟨a0,a1,a2⟩,⟨q0,q1,q2⟩,⟨f0,f1,f2⟩,hset,hsn,hbe⟩:=yA.out X27 false yM.out.own.box yM.out.own.below
    have zL:=qh hset
    have xJ:=qh hsn
    have yL:=qh hbe
    clear hset hsn hbe
    go_wp2_with fail
    (try simp only [Exit.inBlock,Exit.then])
    refine bodyPost_ret (zB rfl _ _ (gx+3) 42 _ (0,0) _ rfl zL.out Tryz.underlying42 rfl zP) rfl ?_
    exact⟨qL zQ.out (uI.out _ _ _ _ _ _ _ yM.out xJ.out),yL.out⟩
   have ha1:((A:Int)==0)=true:=by simp [ha0]
   have HA0:=qh ha0
   clear ha0
   have zs5:=qh (yR.out.isBad true)
   go_upto_region 48 with fail
   clear g2 h2
   generalize World.setCell X4 _ _=X26 at zs5 ⊢
   have hres:R=some ⟨ts1,mem,true⟩:=by
    rw [jN.out,kZ xM.out.symm]
    rw [HT1.out, <-HA.out,decide_eq_true HA0.out]
    rfl
   have zQ:=qh hres
   clear hres
   have xq:=zs5.out
   have yM:=qh xq
   clear xq
   obtain⟨⟨a0,a1,a2⟩,⟨q0,q1,q2⟩,⟨f0,f1,f2⟩,hset,hsn,hbe⟩:=yA.out X26 true yM.out.own.box yM.out.own.below
   have zL:=qh hset
   have xJ:=qh hsn
   have yL:=qh hbe
   clear hset hsn hbe
   go_wp2_with fail
   (try simp only [Exit.inBlock,Exit.then])
   refine bodyPost_ret (zB rfl _ _ (gx+3) 42 _ (0,0) _ rfl zL.out Tryz.underlying42 rfl zP) rfl ?_
   exact⟨qL zQ.out (uI.out _ _ _ _ _ _ _ yM.out xJ.out),yL.out⟩
 have p9:((op:Int)==9)=false:=by simp [o9]
 by_cases o12:op=12
 rotate_left
 ·have p12:((op:Int)==12)=false:=by simp [o12]
  by_cases o13:op=13
  rotate_left
  ·have p13:((op:Int)==13)=false:=by simp [o13]
   as_aux_lemma=>
    go_upto_region 48 with fail
    have hres:R=some ⟨ts1,mem,bad⟩:=by
     rw [jN.out,zbq (by rw [<-xM.out];exact o1) (by rw [<-xM.out];exact o2) (by rw [<-xM.out];exact o3) (by rw [<-xM.out];exact o4) (by rw [<-xM.out];exact o5) (by rw [<-xM.out];exact o6) (by rw [<-xM.out];exact o7) (by rw [<-xM.out];exact o8) (by rw [<-xM.out];exact o9) (by rw [<-xM.out];exact o12) (by rw [<-xM.out];exact o13),HT1.out]
     rfl
    have zQ:=qh hres
    clear hres
    have xq:=yR.out
    have yM:=qh xq
    clear xq
    obtain⟨⟨a0,a1,a2⟩,⟨q0,q1,q2⟩,⟨f0,f1,f2⟩,hset,hsn,hbe⟩:=yA.out X4 bad yM.out.own.box yM.out.own.below
    have zL:=qh hset
    have xJ:=qh hsn
    have yL:=qh hbe
    clear hset hsn hbe
    go_wp2_with fail
    (try simp only [Exit.inBlock,Exit.then])
    refine bodyPost_ret (zB rfl _ _ (gx+3) 42 _ (0,0) _ rfl zL.out Tryz.underlying42 rfl zP) rfl ?_
    exact⟨qL zQ.out (uI.out _ _ _ _ _ _ _ yM.out xJ.out),yL.out⟩
  have jf:Hid ((13:Int)=x.op):=by rw [Hid, <-xM.out,o13]
  clear xM
  have xM:=jf
  clear jf
  have p13:((op:Int)==13)=true:=by simp [o13]
  clear o13
  as_aux_lemma=>
   go_upto_region 47 with fail
   have z11:=ze yR.out.instr 11
   obtain⟨u0,v0⟩:=yR.out.bW HL1.out bZ.out pq.out 0 (.int .i64 ((qQ:Int)+1)) (by omega) rfl
   rw [Nat.add_zero] at u0 v0
   have zuX:=yR.out.set HL1.out (k:=0) (by omega) (t':=⟨dst, [r0,r1,r2,r3],bf⟩) (u:=(.int .i64 dst)) bZ.out pq.out rfl (by simp) rfl
   rw [Nat.add_zero] at zuX
   have zuY:=qh zuX
   clear zuX
   go_upto_region 48 with fail
   clear u0 v0 z11
   generalize World.setCell X4 _ _=X29 at zuY ⊢
   obtain⟨z07,z08,z09,z0A⟩:=zuY.out
   have z0B:=qh z07
   have z99:=qh z08
   have z9A:=qh z09
   have zAi:=qh z0A
   clear z07 z08 z09 z0A zuY
   have hres:R=some ⟨ts.set i ⟨dst, [r0,r1,r2,r3],bf⟩,mem,bad⟩:=by
    rw [jN.out,zaN xM.out.symm]
    simp only [Option.map_some]
    rw [<-HDS.out]
   have zQ:=qh hres
   clear hres
   have xq:=z0B.out
   rw [HSS.out] at xq
   have yM:=qh xq
   clear xq
   obtain⟨⟨a0,a1,a2⟩,⟨q0,q1,q2⟩,⟨f0,f1,f2⟩,hset,hsn,hbe⟩:=yA.out X29 bad yM.out.own.box yM.out.own.below
   have zL:=qh hset
   have xJ:=qh hsn
   have yL:=qh hbe
   clear hset hsn hbe
   go_wp2_with fail
   (try simp only [Exit.inBlock,Exit.then])
   refine bodyPost_ret (zB rfl _ _ (gx+3) 42 _ (0,0) _ rfl zL.out Tryz.underlying42 rfl zP) rfl ?_
   exact⟨qL zQ.out (uI.out _ _ _ _ _ _ _ yM.out xJ.out),yL.out⟩
 have jf:Hid ((12:Int)=x.op):=by rw [Hid, <-xM.out,o12]
 clear xM
 have xM:=jf
 clear jf
 have p12:((op:Int)==12)=true:=by simp [o12]
 clear o12
 as_aux_lemma=>
  go_upto_region 44 with fail
  by_cases ha0:A=0
  rotate_left
  ·have ha1:((A:Int)==0)=false:=by simp [ha0]
   have HA0:=qh ha0
   clear ha0
   go_upto_region 48 with fail
   clear ha1
   have hres:R=some ⟨ts1,mem,bad⟩:=by
    rw [jN.out,gJ xM.out.symm]
    rw [<-HA.out,if_neg HA0.out,HT1.out]
    rfl
   have zQ:=qh hres
   clear hres
   have xq:=yR.out
   have yM:=qh xq
   clear xq
   obtain⟨⟨a0,a1,a2⟩,⟨q0,q1,q2⟩,⟨f0,f1,f2⟩,hset,hsn,hbe⟩:=yA.out X4 bad yM.out.own.box yM.out.own.below
   have zL:=qh hset
   have xJ:=qh hsn
   have yL:=qh hbe
   clear hset hsn hbe
   go_wp2_with fail
   (try simp only [Exit.inBlock,Exit.then])
   refine bodyPost_ret (zB rfl _ _ (gx+3) 42 _ (0,0) _ rfl zL.out Tryz.underlying42 rfl zP) rfl ?_
   exact⟨qL zQ.out (uI.out _ _ _ _ _ _ _ yM.out xJ.out),yL.out⟩
  have ha1:((A:Int)==0)=true:=by simp [ha0]
  have HA0:=qh ha0
  clear ha0
  go_upto_region 45 with fail
  clear ha1
  have z11:=ze yR.out.instr 11
  obtain⟨u0,v0⟩:=yR.out.bW HL1.out bZ.out pq.out 0 (.int .i64 ((qQ:Int)+1)) (by omega) rfl
  rw [Nat.add_zero] at u0 v0
  have zuZ:=yR.out.set HL1.out (k:=0) (by omega) (t':=⟨dst, [r0,r1,r2,r3],bf⟩) (u:=(.int .i64 dst)) bZ.out pq.out rfl (by simp) rfl
  rw [Nat.add_zero] at zuZ
  have zvb:=qh zuZ
  clear zuZ
  go_upto_region 48 with fail
  clear u0 v0 z11
  generalize World.setCell X4 _ _=X28 at zvb ⊢
  obtain⟨z0C,z0D,z0E,z0F⟩:=zvb.out
  have z0G:=qh z0C
  have z9B:=qh z0D
  have z9C:=qh z0E
  have zAj:=qh z0F
  clear z0C z0D z0E z0F zvb
  have hres:R=some ⟨ts.set i ⟨dst, [r0,r1,r2,r3],bf⟩,mem,bad⟩:=by
   rw [jN.out,gJ xM.out.symm]
   rw [<-HA.out,if_pos HA0.out, <-HDS.out]
   rfl
  have zQ:=qh hres
  clear hres
  have xq:=z0G.out
  rw [HSS.out] at xq
  have yM:=qh xq
  clear xq
  obtain⟨⟨a0,a1,a2⟩,⟨q0,q1,q2⟩,⟨f0,f1,f2⟩,hset,hsn,hbe⟩:=yA.out X28 bad yM.out.own.box yM.out.own.below
  have zL:=qh hset
  have xJ:=qh hsn
  have yL:=qh hbe
  clear hset hsn hbe
  go_wp2_with fail
  (try simp only [Exit.inBlock,Exit.then])
  refine bodyPost_ret (zB rfl _ _ (gx+3) 42 _ (0,0) _ rfl zL.out Tryz.underlying42 rfl zP) rfl ?_
  exact⟨qL zQ.out (uI.out _ _ _ _ _ _ _ yM.out xJ.out),yL.out⟩
