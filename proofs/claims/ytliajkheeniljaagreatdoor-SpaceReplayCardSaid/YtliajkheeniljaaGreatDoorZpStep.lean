/- Steps. -/
import Derived.Test.YtliajkheeniljaaGreatDoorZpOwn
import Derived.Test.YtliajkheeniljaaGreatDoorZpOwnS
set_option linter.all false
namespace Go.Proofs.YtliajkheeniljaaGreatDoor
open Go.RowKit
set_option maxRecDepth 100000
set_option maxHeartbeats 16000000
structure vP (W X:World) (gb gi tb n tc mb mn mc:Nat) (bad:Bool) (ts:List zA) (mem:List Int) (bs:List Value) (wM:List Value):Prop where
 own:vU W X gb (.slice (some ⟨tb,0,none⟩) n tc) (.slice (some ⟨mb,0,none⟩) mn mc) bad ts mem bs
 instr:X.heap[gi]? =some (.cells wM.toArray 64 (0,0))
 g1:gi≠gb
 g2:gi≠tb
 g3:gi≠mb
theorem vP.below {W X X':World} {gb gi tb n tc mb mn mc:Nat} {bad:Bool} {ts:List zA} {mem:List Int} {bs wM:List Value} (h:vP W X gb gi tb n tc mb mn mc bad ts mem bs wM) (hb:Below X.heap.size X X'):vP W X' gb gi tb n tc mb mn mc bad ts mem bs wM:=
 ⟨h.own.later hb,(hb.block _ (zx h.instr)).trans h.instr,h.g1,h.g2,h.g3⟩
theorem vP.thread {W X:World} {gb gi tb n tc mb mn mc:Nat} {bad:Bool} {ts:List zA} {mem:List Int} {bs wM:List Value} (h:vP W X gb gi tb n tc mb mn mc bad ts mem bs wM) {i k:Nat} (hi:i<ts.length) (hk:k<6) {t:zA} {b u:Value}
  (hc:t.cells b=((ts.getD i default).cells (bs.getD i (.slice none 0 0))).set k u) (hr:t.regs.length=4) (hb:X.ownsRow W.heap.size 50 2 b t.buf.length (zo zk.cells t.buf)) (hn:∀k,b.ownBlock=some k->k≠tb/\k≠mb/\k≠gb)
  (hd:∀k,b.ownBlock=some k->∀j,j<ts.length->j≠i->(bs.getD j (.slice none 0 0)).ownBlock≠some k):
  vP W (X.setCell ⟨tb,i*6+k,none⟩ u) gb gi tb n tc mb mn mc bad (ts.set i t) mem (bs.set i b) wM:=
 ⟨h.own.thread hi hk hc hr hb (λk hk=>⟨(hn k hk).1,λe=>(hn k hk).2.1 (by simpa [Value.ownBlock] using e.symm),(hn k hk).2.2⟩) hd,(Below.heap_setCell _ _ _ _ h.g2).trans h.instr,h.g1,h.g2,h.g3⟩
theorem vP.mem {W X:World} {gb gi tb n tc mb mn mc:Nat} {bad:Bool} {ts:List zA} {mem:List Int} {bs wM:List Value} (h:vP W X gb gi tb n tc mb mn mc bad ts mem bs wM) (j:Nat) (x:Int):
  vP W (X.setCell ⟨mb,j,none⟩ (.int .i64 x)) gb gi tb n tc mb mn mc bad ts (mem.set j x) bs wM:=
 ⟨h.own.mem j x,(Below.heap_setCell _ _ _ _ h.g3).trans h.instr,h.g1,h.g2,h.g3⟩
theorem vP.isBad {W X:World} {gb gi tb n tc mb mn mc:Nat} {bad:Bool} {ts:List zA} {mem:List Int} {bs wM:List Value} (h:vP W X gb gi tb n tc mb mn mc bad ts mem bs wM) (b:Bool):
  vP W (X.setCell ⟨gb,2,none⟩ (.bool b)) gb gi tb n tc mb mn mc b ts mem bs wM:=
 ⟨h.own.isBad b,(Below.heap_setCell _ _ _ _ h.g1).trans h.instr,h.g1,h.g2,h.g3⟩
theorem vP.zpy {W X:World} {gb gi tb n tc mb mn mc:Nat} {bad:Bool} {ts:List zA} {mem:List Int} {bs wM:List Value} (h:vP W X gb gi tb n tc mb mn mc bad ts mem bs wM) {i:Nat} (hi:i<ts.length):
  ∀k u,k<6->((ts.getD i default).cells (bs.getD i (.slice none 0 0)))[k]? =some u->X.cell? ⟨tb,i*6+k,none⟩=some u/\X.frozen? ⟨tb,i*6+k,none⟩=false:=by
 obtain⟨tb',tc',e, -,h2⟩:=h.own.threads hi
 cases e
 exact h2
theorem vP.zkf {W X:World} {gb gi tb n tc mb mn mc:Nat} {bad:Bool} {ts:List zA} {mem:List Int} {bs wM:List Value} (h:vP W X gb gi tb n tc mb mn mc bad ts mem bs wM) {j:Nat} (hj:j<mem.length):
  X.cell? ⟨mb,j,none⟩=some (.int .i64 (mem.getD j 0))/\X.frozen? ⟨mb,j,none⟩=false:=by
 obtain⟨mb',mc',e, -,h2⟩:=h.own.vars (by omega)
 cases e
 exact h2 j hj
theorem vP.buf {W X:World} {gb gi tb n tc mb mn mc:Nat} {bad:Bool} {ts:List zA} {mem:List Int} {bs wM:List Value} (h:vP W X gb gi tb n tc mb mn mc bad ts mem bs wM) {i:Nat} (hi:i<ts.length):
  X.ownsRow W.heap.size 50 2 (bs.getD i (.slice none 0 0)) (ts.getD i default).buf.length (zo zk.cells (ts.getD i default).buf)/\∀k,(bs.getD i (.slice none 0 0)).ownBlock=some k->k≠tb/\k≠mb/\k≠gb:=
 ⟨h.own.own.buf i hi,λk hk=>⟨λe=>(h.own.own.ne i hi k hk).1 (by rw [e];rfl),λe=>(h.own.own.ne i hi k hk).2 (by rw [e];rfl),λe=>h.own.n3 i hi (e ▸ hk)⟩⟩
theorem vP.dist {W X:World} {gb gi tb n tc mb mn mc:Nat} {bad:Bool} {ts:List zA} {mem:List Int} {bs wM:List Value} (h:vP W X gb gi tb n tc mb mn mc bad ts mem bs wM) {i:Nat} (hi:i<ts.length):
  ∀k,(bs.getD i (.slice none 0 0)).ownBlock=some k->∀j,j<ts.length->j≠i->(bs.getD j (.slice none 0 0)).ownBlock≠some k:=λk hk j hj hji=>h.own.own.one i j hi hj (λe=>hji e.symm) k hk
theorem vP.set {W X:World} {gb gi tb n tc mb mn mc:Nat} {bad:Bool} {ts:List zA} {mem:List Int} {bs wM:List Value} (h:vP W X gb gi tb n tc mb mn mc bad ts mem bs wM) {i k:Nat} (hi:i<ts.length) (hk:k<6) {t t':zA} {b u:Value}
  (ht:ts.getD i default=t) (hbs:bs.getD i (.slice none 0 0)=b) (hc:t'.cells b=(t.cells b).set k u) (hr:t'.regs.length=4) (hbf:t'.buf=t.buf):
  vP W (X.setCell ⟨tb,i*6+k,none⟩ u) gb gi tb n tc mb mn mc bad (ts.set i t') mem (bs.set i b) wM/\(ts.set i t').getD i default=t'/\(bs.set i b).getD i (.slice none 0 0)=b/\i<(ts.set i t').length:=by
 have hl:=h.own.own.len
 have hB:=h.buf hi
 rw [ht,hbs] at hB
 refine⟨h.thread hi hk (by rw [ht,hbs];exact hc) hr (by rw [hbf];exact hB.1) hB.2 (by have:=h.dist hi;rw [hbs] at this;exact this),by rw [qU hi,if_pos rfl],by rw [qU (by rw [hl];exact hi),if_pos rfl],by rw [List.length_set];exact hi⟩
theorem vP.bC {W X:World} {gb gi tb n tc mb mn mc:Nat} {bad:Bool} {ts:List zA} {mem:List Int} {bs wM:List Value} (h:vP W X gb gi tb n tc mb mn mc bad ts mem bs wM) {i:Nat} (hi:i<ts.length) {t:zA} {b:Value}
  (ht:ts.getD i default=t) (hbs:bs.getD i (.slice none 0 0)=b):∀k u,k<6->(t.cells b)[k]? =some u->X.cell? ⟨tb,i*6+k,none⟩=some u/\X.frozen? ⟨tb,i*6+k,none⟩=false:=by
 have:=h.zpy hi
 rw [ht,hbs] at this
 exact this
theorem zbO {pc r0 r1 r2 r3 v:Int} {bf:List zk} {b:Value} {k:Nat} (hk:k<4):(⟨pc, [r0,r1,r2,r3].set k v,bf⟩:zA).cells b=((⟨pc, [r0,r1,r2,r3],bf⟩:zA).cells b).set (1+k) (.int .i64 v):=by
 have:k=0\/k=1\/k=2\/k=3:=by omega
 rcases this with rfl|rfl|rfl|rfl<;>rfl
theorem zen {pc r0 r1 r2 r3:Int} {bf:List zk} {b:Value} {k:Nat} (hk:k<4):((⟨pc, [r0,r1,r2,r3],bf⟩:zA).cells b)[1+k]? =some (.int .i64 ([r0,r1,r2,r3].getD k 0)):=by
 have:k=0\/k=1\/k=2\/k=3:=by omega
 rcases this with rfl|rfl|rfl|rfl<;>rfl
theorem zsd {pc r0 r1 r2 r3:Int} {bf:List zk} {b:Value} {k:Nat} (hk:k<4):((⟨pc, [r0,r1,r2,r3].set k 0,bf⟩:zA).cells b)[1+k]? =some (.int .i64 ([0,0,0,0].getD k 0)):=by
 have:k=0\/k=1\/k=2\/k=3:=by omega
 rcases this with rfl|rfl|rfl|rfl<;>rfl
theorem zmI {pc r0 r1 r2 r3:Int} {bf:List zk} {b:Value} {k:Nat} (hk:k<4):(⟨pc, [r0,r1,r2,r3].set k 1,bf⟩:zA).cells b=((⟨pc, [r0,r1,r2,r3].set k 0,bf⟩:zA).cells b).set (1+k) (.int .i64 1):=by
 have:k=0\/k=1\/k=2\/k=3:=by omega
 rcases this with rfl|rfl|rfl|rfl<;>rfl
theorem ug {R:Option zl} {xa ya:Option Addr} {xn xc yn yc B:Nat} {b:Bool} {X:World} (h:R=none):∃xa' xn' xc' ya' yn' yc' s',Ending.returned (.tuple #[.agg #[.slice xa xn xc, .slice ya yn yc, .bool b], .bool false])= .returned (.tuple #[yB s' (.slice xa' xn' xc') (.slice ya' yn' yc'), .bool R.isSome])/\∀t,R=some t->s'=t/\∃bs,OwnAt B X (.slice xa' xn' xc') (.slice ya' yn' yc') t.threads t.mem bs:=
 ⟨xa,xn,xc,ya,yn,yc,⟨[], [],b⟩,by rw [h];rfl,λt e=>by rw [h] at e;cases e⟩
theorem qM {R:Option zl} {xa ya:Option Addr} {xn xc yn yc B:Nat} {s:zl} {bs:List Value} {X:World} (h:R=some s) (hs:OwnAt B X (.slice xa xn xc) (.slice ya yn yc) s.threads s.mem bs):∃xa' xn' xc' ya' yn' yc' s',Ending.returned (.tuple #[.agg #[.slice xa xn xc, .slice ya yn yc, .bool s.bad], .bool true])= .returned (.tuple #[yB s' (.slice xa' xn' xc') (.slice ya' yn' yc'), .bool R.isSome])/\∀t,R=some t->s'=t/\∃bs,OwnAt B X (.slice xa' xn' xc') (.slice ya' yn' yc') t.threads t.mem bs:=
 ⟨xa,xn,xc,ya,yn,yc,s,by rw [h];rfl,λt e=>by rw [h] at e;cases e;exact⟨rfl,bs,hs⟩⟩
theorem kU.zxu {e t:TypeId} {size:Nat} {V X:World} {v:Value} {n:Nat} {xs:List Value} {bs:List (Nat × List Value)} (h:kU e size t V X v n xs bs) {g:Nat} {cs:List Value} (hb:(g,cs)∈bs) (l:List Value) (hl:cs.length=l.length):
  Below V.heap.size V (yI X g 0 l)/\(yI X g 0 l).heap[g]? =some (.cells l.toArray t (0,0))/\V.heap.size<=g:=by
 obtain⟨h1, -,h3⟩:=h.news _ hb
 exact⟨h.below.trans ((qd l X 0).below h.below.size (λk e=>by omega)),qZ l hl h1,h3⟩
theorem zl9 (w:World) (c:zI) (cv:Value) (d:Nat) (hc:yQ d w cv c.threads) (m:zF) (s:zl) (sv mv:Value) (hs:zY w s sv mv) (hfit:yF c m s=true) (i:Nat) (hi:i<s.threads.length) (hb:∀j,j<s.threads.length->(s.threads.getD j default).buf.length<=100000):
  Calls Tryz.prog 62 #[yD c cv,yY m,yB s sv mv, .int .i64 i] w λe w'=>(∃xa xn xc ya yn yc s',e= .returned (.tuple #[yB s' (.slice xa xn xc) (.slice ya yn yc), .bool (jX c m s i d).isSome])/\∀t,jX c m s i d=some t->s'=t/\∃bs,OwnAt w.heap.size w' (.slice xa xn xc) (.slice ya yn yc) t.threads t.mem bs)/\Below w.heap.size w w':=by
 obtain⟨hcode,hmay,hlen,hmem,zkl⟩:=bF hfit
 have hbd:=xM hcode
 obtain⟨zeA,zma⟩:=zkl i hi
 have hins:=λk (hk:k<(c.threads.getD i []).length)=>zgU hcode (i:=i) (k:=k) (by rw [<-hlen];exact hi) hk
 clear hcode hmay zkl hfit
 obtain⟨ca,cc,rfl, -⟩:=zh.slice hc
 obtain⟨ta,jw,rfl, -⟩:=zh.slice hs.threads
 obtain⟨ma,vW,rfl, -⟩:=zh.slice hs.mem
 have hown:=λW hW=>zmV W s (.slice ta s.threads.length jw) (.slice ma s.mem.length vW) hW (by omega) (by omega) (λj hj=>by have:=hb j hj;omega)
 obtain⟨R,hR⟩:∃R,R=jX c m s i d:=⟨_,rfl⟩
 rw [<-hR]
 obtain⟨l,hl⟩:∃l,l=c.threads.getD i [] :=⟨_,rfl⟩
 obtain⟨t,ht⟩:∃t,t=s.threads.getD i default:=⟨_,rfl⟩
 have hR2:R=if t.pc<(l.length:Int) then(stepT c m s t (l.getD t.pc.toNat default) d).map (λr=>⟨s.threads.set i r.1,r.2.1,r.2.2⟩) else none:=by rw [hR,hl,ht];rfl
 rw [<-ht] at zeA zma
 rw [<-hl] at zma hins
 have HST:Hid (∀x,stepT c m s t x d=stepT c m s t x d):=λ_=>rfl
 obtain⟨C,hC⟩:∃C,C=c:=⟨_,rfl⟩
 obtain⟨M,hM⟩:∃M,M=m:=⟨_,rfl⟩
 obtain⟨S,hS⟩:∃S,S=s:=⟨_,rfl⟩
 rw [<-hC, <-hM, <-hS] at hR2
 clear HST
 have HRR:=qh hR2
 have hT:=hs.threads
 have hME:=hs.mem
 obtain⟨vars,dom,cs⟩:=c
 obtain⟨mod,bnd⟩:=m
 obtain⟨ts,mem,bad⟩:=s
 simp only [] at hc hs hi hb hlen hmem hbd hl ht hT hME hown hins zeA zma hR2 ⊢
 unfold yD yY yB
 unfold yB at hown
 simp only [] at hown ⊢
 obtain⟨n,hn⟩:∃n,n=ts.length:=⟨_,rfl⟩
 obtain⟨cn,hcn⟩:∃cn,cn=cs.length:=⟨_,rfl⟩
 obtain⟨mn,hmn⟩:∃mn,mn=mem.length:=⟨_,rfl⟩
 rw [<-hn] at hT hown hi hb hlen ⊢
 rw [<-hmn] at hME hown hmem ⊢
 rw [<-hcn] at hc hlen hbd ⊢
 rw [<-hn, <-hmn] at hs
 have jm:=qh hlen
 have HME:=qh hmem
 have HC:=qh hC
 have HM:=qh hM
 have HS:=qh hS
 have HL:=qh hl
 have HT:=qh ht
 have HN:=qh hn
 have HCN:=qh hcn
 have vw:=qh hmn
 have HBU:=qh hb
 have z01:=qh hins
 have HOWN:=qh hown
 have hB4:=zcb w (.cells #[.int .i64 vars, .int .i64 dom, .slice ca cn cc] 24) (.cells #[.int .i64 mod, .int .i64 bnd] 26) (.cells #[.slice ta n jw, .slice ma mn vW, .bool bad] 30) (.cells #[.slice none 0 0, .slice none 0 0, .bool false] 30)
 obtain⟨hB,h1,h2,h3,h4,h5⟩:=hB4
 have HB:=qh hB
 have H1:=qh h1
 have H2:=qh h2
 have H3:=qh h3
 have H4:=qh h4
 have H5:=qh h5
 have wz:=qh (zh.below (qo.stays d) hc hB)
 have HSW:=qh (zY.below hs hB)
 have zej:=qh (zh.below gQ.stays hME hB)
 have z5r:=qh hME
 have z5s:=qh h5
 clear hlen hmem hC hM hS hl ht hn hcn hmn hb hins hown hB h1 h2 h3 h4 h5 hT hME hc hs hR hR2
 go_enter Tryz.func62,Tryz.ntmps62
 go_upto_region 1 with fail
 generalize World.alloc (World.alloc (World.alloc (World.alloc w _) _) _) _=W at HB H1 H2 H3 H4 H5 wz HSW zej z5s ⊢
 obtain⟨gx,hgx⟩:∃gx,gx=w.heap.size:=⟨_,rfl⟩
 rw [<-hgx] at H1 H2 H3 H4 H5 ⊢
 have yU:=qh hgx
 clear hgx
 have xS:Hid (∀x,Below W.heap.size W x->x.cell? ⟨gx,0,none⟩=some (.int .i64 vars)/\x.cell? ⟨gx,1,none⟩=some (.int .i64 dom)/\x.cell? ⟨gx,2,none⟩=some (.slice ca cn cc)/\
   x.cell? ⟨gx+1,0,none⟩=some (.int .i64 mod)/\x.cell? ⟨gx+1,1,none⟩=some (.int .i64 bnd)/\x.cell? ⟨gx+2,0,none⟩=some (.slice ta n jw)/\x.cell? ⟨gx+2,1,none⟩=some (.slice ma mn vW)/\x.cell? ⟨gx+2,2,none⟩=some (.bool bad)):=λx hx=>
  ⟨zi hx _ _ (ze H1.out 0),zi hx _ _ (ze H1.out 1),zi hx _ _ (ze H1.out 2),zi hx _ _ (ze H2.out 0),zi hx _ _ (ze H2.out 1),zi hx _ _ (ze H3.out 0),zi hx _ _ (ze H3.out 1),zi hx _ _ (ze H3.out 2)⟩
 obtain⟨c0,c1,c2,c3,c4,c5,c6,c7⟩:=xS.out W (Below.refl _ _)
 go_upto_region 2 with(go_at_call 64;refine(HOWN.out W HSW.out).mono ?_;rintro e W1 ⟨⟨tv1,mv1,bs,rfl,ho1⟩,hb1⟩;have HO1:=qh ho1;have HB1:=qh hb1;obtain⟨xa,xc,rfl, -, -⟩:=xK ho1.row;obtain⟨ya,yc,rfl, -, -⟩:=xK ho1.mem;clear ho1 hb1)
 rw [<-HN.out, <-vw.out]
 have z9j:1<=vars:=hbd.1
 have z8u:2<=dom:=hbd.2.2.1
 have z8v:dom<=16:=hbd.2.2.2.1
 have bg:n<=4:=by have:=hbd.2.2.2.2.2;have:=jm.out;omega
 have z5a:mn<=4/\1<=mn:=by have:=hbd.2.1;have:=HME.out;omega
 clear c0 c1 c2 c3 c4 c5 c6 c7 hbd
 have hol:=vU.zqm HO1.out HB1.out bad
 rw [<-HN.out, <-vw.out] at hol
 have HOL:=qh hol
 clear hol
 generalize World.alloc W1 _=X0 at HOL ⊢
 obtain⟨gb,hgb⟩:∃gb,gb=W1.heap.size:=⟨_,rfl⟩
 rw [<-hgb] at HOL ⊢
 clear hgb HO1 HB1 HOWN
 obtain⟨tb,tc,hxa, -,htc⟩:=HOL.out.threads (by rw [<-HN.out];exact hi)
 rw [<-HN.out] at hxa
 cases hxa
 obtain⟨mb,mc,hya, -,hmc⟩:=HOL.out.vars (by rw [<-vw.out];omega)
 rw [<-vw.out] at hya
 cases hya
 have hr4:=HOL.out.own.regs i (by rw [<-HN.out];exact hi)
 obtain⟨bv,hbv⟩:∃bv,bv=bs.getD i (.slice none 0 0):=⟨_,rfl⟩
 have hbuf:=(HOL.out.own.buf i (by rw [<-HN.out];exact hi))
 have hbl:=HBU.out i hi
 rw [<-HT.out] at hr4 htc hbuf hbl
 rw [<-hbv] at htc hbuf
 obtain⟨ba,bc,rfl, -, -⟩:=xK hbuf
 obtain⟨pc,rg,bf⟩:=t
 obtain⟨r0,r1,r2,r3,rfl⟩:=kN hr4
 simp only [] at zeA zma htc hbuf hbl HRR
 obtain⟨bl,kr⟩:∃bl,bl=bf.length:=⟨_,rfl⟩
 rw [<-kr] at htc hbuf hbl hbv
 obtain⟨qO,rfl⟩:∃qO:Nat,pc=qO:=⟨pc.toNat,by omega⟩
 have qQ:=qh kr
 have HBV:=qh hbv
 have HTC:Hid (∀k u,k<6-> [Value.int .i64 qO, .int .i64 r0, .int .i64 r1, .int .i64 r2, .int .i64 r3, .slice ba bl bc][k]? =some u->X0.cell? ⟨tb,i*6+k,none⟩=some u/\X0.frozen? ⟨tb,i*6+k,none⟩=false):=by
  have e:(⟨(qO:Int), [r0,r1,r2,r3],bf⟩:zA).cells (.slice ba bl bc)= [Value.int .i64 qO, .int .i64 r0, .int .i64 r1, .int .i64 r2, .int .i64 r3, .slice ba bl bc] :=rfl
  rw [<-e];exact htc
 clear kr hbv hbuf htc hr4 hmc zeA
 obtain⟨ln,hln⟩:∃ln,ln=l.length:=⟨_,rfl⟩
 rw [<-hln] at zma HRR
 obtain⟨eb,eo,ka,kc,yh, -,hec,hel⟩:=yQ.part wz.out i (by rw [<-HCN.out, <-jm.out];exact hi)
 rw [<-HL.out, <-hln] at hec hel
 subst yh
 have zuH:=qh hln
 clear hln
 have HEL:=qh hel
 have HEC:Hid (∀x,Below W.heap.size W x->x.cell? ⟨eb,eo+i,none⟩=some (.slice ka ln kc)):=λx hx=>zi hx _ _ hec
 clear hel hec
 have z9k:(i:Int)<(cn:Int):=by have:=jm.out;omega
 obtain⟨c0,c1,c2,c3,c4,c5,c6,c7⟩:=xS.out X0 HOL.out.below
 have e0:=HEC.out X0 HOL.out.below
 have t0:=(HTC.out 0 _ (by omega) rfl).1
 rw [Nat.add_zero] at t0
 have b0:=ze HOL.out.box 0
 by_cases hp:qO<ln
 rotate_left
 ·have hpN:(ln:Int)<=(qO:Int):=by omega
  have hres:R=none:=by rw [HRR.out,if_neg (by omega)]
  have zP:=qh hres
  clear hres
  go_upto_region 3 with fail
  go_quiet (fail)
  go_upto_region 4 with fail
  generalize hX9:World.drewN X0 _=X9
  have bP:Below X0.heap.size X0 X9:=by rw [<-hX9];exact yg (Below.refl _ _) _
  clear hX9 c0 c1 c2 c3 c4 c5 c6 c7 e0 t0 b0
  have hbw:=zG HOL.out.below bP
  have jV:=qh hbw
  obtain⟨c0,c1,c2,c3,c4,c5,c6,c7⟩:=xS.out X9 hbw
  have hr:=(hbw.block _ (zx H4.out)).trans H4.out
  have q0:=ze hr 0
  have q1:=ze hr 1
  have q2:=ze hr 2
  have f0:=zB hr 0
  have f1:=zB hr 1
  have f2:=zB hr 2
  have hset:=zw (zw (zw hr 0 (.slice ta n jw)) 1 (.slice ma mn vW)) 2 (.bool bad)
  simp only [List.setIfInBounds_toArray,List.set_cons_zero,List.set_cons_succ] at hset
  have hS:Since (λk=>k=gx+3) X9 (((X9.setCell ⟨gx+3,0,none⟩ (.slice ta n jw)).setCell ⟨gx+3,1,none⟩ (.slice ma mn vW)).setCell ⟨gx+3,2,none⟩ (.bool bad)):=Since.setCell (F:=λk=>k=gx+3) (p:=⟨gx+3,2,none⟩) (Since.setCell (F:=λk=>k=gx+3) (p:=⟨gx+3,1,none⟩) (Since.setCell (F:=λk=>k=gx+3) (p:=⟨gx+3,0,none⟩) (Since.refl _ X9) (.inl rfl) _) (.inl rfl) _) (.inl rfl) _
  have zJ:=qh hset
  have xP:=qh hS
  clear hr hset hS bP hbw
  go_wp2_with fail
  (try simp only [Exit.inBlock,Exit.then])
  refine bodyPost_ret (zy rfl _ _ (gx+3) 30 _ (0,0) _ rfl zJ.out Tryz.underlying30 rfl zH) rfl ?_
  exact⟨ug zP.out,(HB.out.trans (jV.out.mono HB.out.size)).trans (xP.out.below (by have:=HB.out.size;have:=jV.out.size;omega) (λk e=>by have:=yU.out;omega))⟩
 have hpI:(qO:Int)<(ln:Int):=by omega
 have hpN:¬(ln:Int)<=(qO:Int):=by omega
 go_upto_region 3 with fail
 go_quiet (fail)
 go_upto_region 5 with fail
 generalize hX9:World.drewN X0 _=X9
 have bP:Below X0.heap.size X0 X9:=by rw [<-hX9];exact yg (Below.refl _ _) _
 clear hX9 c0 c1 c2 c3 c4 c5 c6 c7 e0 t0 b0
 have zgR:=qh (HOL.out.later bP)
 have ziJ:Hid (∀k u,k<6-> [Value.int .i64 qO, .int .i64 r0, .int .i64 r1, .int .i64 r2, .int .i64 r3, .slice ba bl bc][k]? =some u->∀x,Below X9.heap.size X9 x->x.cell? ⟨tb,i*6+k,none⟩=some u):=λk u hk hu x hx=>zi (zG bP hx) _ _ (HTC.out k u hk hu).1
 clear HTC
 have jV:=qh bP
 clear bP
 obtain⟨fb,fo,aa,ac,xba,xbc,hka, -,⟨x0,x1,x2⟩,⟨x3,x4,x5,x6⟩,⟨x7,x8,x9,x10⟩,wS,xa,xb⟩:=wO.part HEL.out qO (by rw [<-zuH.out];exact hp)
 subst hka
 obtain⟨x,hx⟩:∃x,x=l.getD qO default:=⟨_,rfl⟩
 rw [<-hx] at x0 x1 x2 x3 x4 x5 x6 x7 x8 x9 x10 wS xa xb
 have hins:=z01.out qO (by rw [<-zuH.out];exact hp)
 rw [<-hx, <-zuH.out] at hins
 obtain⟨z9l,hrg0,zb4,z5t,z03⟩:=hins
 rw [<-HME.out] at z03
 have hr5:=HRR.out
 rw [if_pos hpI,show((qO:Int)).toNat=qO from rfl, <-hx] at hr5
 have HR5:=qh hr5
 clear hr5 HRR z01 hx
 obtain⟨op,hop⟩:∃v,v=x.op:=⟨_,rfl⟩
 obtain⟨wB,zuI⟩:∃v:Nat,(v:Int)=x.reg:=⟨x.reg.toNat,by omega⟩
 obtain⟨vY,zuJ⟩:∃v:Nat,(v:Int)=x.var:=⟨x.var.toNat,by omega⟩
 obtain⟨dst,hdst⟩:∃v,v=x.dest:=⟨_,rfl⟩
 obtain⟨ak,hak⟩:∃v,v=x.a.kind:=⟨_,rfl⟩
 obtain⟨an,han⟩:∃v,v=x.a.n:=⟨_,rfl⟩
 obtain⟨ao,hao⟩:∃v,v=x.a.op:=⟨_,rfl⟩
 obtain⟨al,hal⟩:∃v,v=x.a.kids.length:=⟨_,rfl⟩
 obtain⟨bk,hbk⟩:∃v,v=x.b.kind:=⟨_,rfl⟩
 obtain⟨bn,hbn⟩:∃v,v=x.b.n:=⟨_,rfl⟩
 obtain⟨bo,hbo⟩:∃v,v=x.b.op:=⟨_,rfl⟩
 obtain⟨bkl,zuK⟩:∃v,v=x.b.kids.length:=⟨_,rfl⟩
 obtain⟨A,hA⟩:∃v,v=yw [r0,r1,r2,r3] dom d x.a:=⟨_,rfl⟩
 obtain⟨B,hBB⟩:∃v,v=yw [r0,r1,r2,r3] dom d x.b:=⟨_,rfl⟩
 have z05:Hid (∀X,Below W.heap.size W X->Calls Tryz.prog 90 #[.agg #[.int .i64 ak, .int .i64 an, .int .u8 ao, .slice aa al ac], .agg #[.int .i64 r0, .int .i64 r1, .int .i64 r2, .int .i64 r3], .int .i64 dom] X λe w'=>e= .returned (.int .i64 A)/\Below X.heap.size X w'):=λX hX=>by
  rw [hak,han,hao,hal,hA];exact zls r0 r1 r2 r3 dom (by omega) (by omega) d X x.a _ (xa.below hX)
 have z06:Hid (∀X,Below W.heap.size W X->Calls Tryz.prog 90 #[.agg #[.int .i64 bk, .int .i64 bn, .int .u8 bo, .slice xba bkl xbc], .agg #[.int .i64 r0, .int .i64 r1, .int .i64 r2, .int .i64 r3], .int .i64 dom] X λe w'=>e= .returned (.int .i64 B)/\Below X.heap.size X w'):=λX hX=>by
  rw [hbk,hbn,hbo,zuK,hBB];exact zls r0 r1 r2 r3 dom (by omega) (by omega) d X x.b _ (xb.below hX)
 rw [<-hop] at x0
 rw [<-zuI] at x1 zb4
 have zb4:wB<4:=by omega
 rw [<-zuJ] at x2 z03
 rw [<-hak] at x3
 rw [<-han] at x4
 rw [<-hao] at x5
 rw [<-hal] at x6
 rw [<-hbk] at x7
 rw [<-hbn] at x8
 rw [<-hbo] at x9
 rw [<-zuK] at x10
 rw [<-hdst] at wS
 have xH:=qh hop
 have HRG:=qh zuI
 have HVR:=qh zuJ
 have HDS:=qh hdst
 have HA:=qh hA
 have yO:=qh hBB
 clear hop zuI zuJ hdst hak han hao hal hbk hbn hbo zuK hA hBB xa xb hrg0 z5t
 have C5:Hid (∀y,Below X9.heap.size X9 y->y.cell? ⟨gx,2,none⟩=some (.slice (some ⟨eb,eo,none⟩) cn cc)/\y.cell? ⟨eb,eo+i,none⟩=some (.slice (some ⟨fb,fo,none⟩) ln kc)/\y.cell? ⟨tb,i*6,none⟩=some (.int .i64 qO)/\
   y.cell? ⟨fb,fo+qO*12,none⟩=some (.int .i64 op)/\y.cell? ⟨fb,fo+qO*12+1,none⟩=some (.int .i64 wB)/\y.cell? ⟨fb,fo+qO*12+2,none⟩=some (.int .i64 vY)/\
   y.cell? ⟨fb,fo+qO*12+3,none⟩=some (.int .i64 ak)/\y.cell? ⟨fb,fo+qO*12+4,none⟩=some (.int .i64 an)/\y.cell? ⟨fb,fo+qO*12+5,none⟩=some (.int .u8 ao)/\y.cell? ⟨fb,fo+qO*12+6,none⟩=some (.slice aa al ac)/\
   y.cell? ⟨fb,fo+qO*12+7,none⟩=some (.int .i64 bk)/\y.cell? ⟨fb,fo+qO*12+8,none⟩=some (.int .i64 bn)/\y.cell? ⟨fb,fo+qO*12+9,none⟩=some (.int .u8 bo)/\y.cell? ⟨fb,fo+qO*12+10,none⟩=some (.slice xba bkl xbc)/\y.cell? ⟨fb,fo+qO*12+11,none⟩=some (.int .i64 dst)):=λy hy=>
  have hw:=zG zgR.out.below hy
  have k2:=λp v h=>zi hw p v h
  ⟨(xS.out y hw).2.2.1,HEC.out y hw,ziJ.out 0 _ (by omega) rfl y hy,k2 _ _ x0,k2 _ _ x1,k2 _ _ x2,k2 _ _ x3,k2 _ _ x4,k2 _ _ x5,k2 _ _ x6,k2 _ _ x7,k2 _ _ x8,k2 _ _ x9,k2 _ _ x10,k2 _ _ wS⟩
 clear x0 x1 x2 x3 x4 x5 x6 x7 x8 x9 x10 wS
 have h0:=kU.start 3 1 64 X9
 have hT0:=qh h0.drew
 clear h0
 refine vV (S:=λx=>Below X9.heap.size X9 x) (Below.refl _ _).drew (λ_=> ?_)
 obtain⟨wd,hwd⟩:∃wd,wd=X9.drew:=⟨_,rfl⟩
 rw [<-hwd] at hT0 ⊢
 clear hwd
 refine zD 0 zQ (hT0.out.below) ?_
 refine zD 1 C5.out (hT0.out.below) ?_
 refine zD 2 zQ (hT0.out.below) ?_
 refine zD 3 zQ (hT0.out.below) ?_
 refine zD 4 C5.out (hT0.out.below) ?_
 refine zD 5 zQ (hT0.out.below) ?_
 refine zD 6 zQ (hT0.out.below) ?_
 refine zD 7 zQ (hT0.out.below) ?_
 refine zD 8 C5.out (hT0.out.below) ?_
 refine zD 9 zQ (hT0.out.below) ?_
 refine zD 10 C5.out (hT0.out.below) ?_
 refine yA 11 rfl (λK hK=> ?_)
 go_simp
 have vQ:=hT0.out.alloc [.int .i64 0, .int .i64 0, .int .i64 0, .int .i64 0, .int .i64 0, .int .u8 0, .slice none 0 0, .int .i64 0, .int .i64 0, .int .u8 0, .slice none 0 0, .int .i64 0]
 refine hK.out _ _ vQ.below (λ_=> ?_)
 obtain⟨gi,hgi⟩:∃n,n=wd.heap.size:=⟨_,rfl⟩
 rw [<-hgi] at vQ ⊢
 clear hgi
 generalize World.alloc wd _=Xq2 at vQ ⊢
 replace vQ:=qh vQ
 clear hK K
 refine yA 12 rfl (λK hK=> ?_)
 have hb1:=vQ.out.zxu (g:=gi) (cs:= [.int .i64 0, .int .i64 0, .int .i64 0, .int .i64 0, .int .i64 0, .int .u8 0, .slice none 0 0, .int .i64 0, .int .i64 0, .int .u8 0, .slice none 0 0, .int .i64 0]) (by simp) [.int .i64 op, .int .i64 wB, .int .i64 vY, .int .i64 ak, .int .i64 an, .int .u8 ao, .slice aa al ac, .int .i64 bk, .int .i64 bn, .int .u8 bo, .slice xba bkl xbc, .int .i64 dst] rfl
 obtain⟨hn, -, -⟩:=vQ.out.news (gi, [.int .i64 0, .int .i64 0, .int .i64 0, .int .i64 0, .int .i64 0, .int .u8 0, .slice none 0 0, .int .i64 0, .int .i64 0, .int .u8 0, .slice none 0 0, .int .i64 0]) (by simp)
 have d0:=ze hn 0
 have f0:=zB hn 0
 have d1:=ze hn 1
 have f1:=zB hn 1
 have d2:=ze hn 2
 have f2:=zB hn 2
 have d3:=ze hn 3
 have f3:=zB hn 3
 have d4:=ze hn 4
 have f4:=zB hn 4
 have d5:=ze hn 5
 have f5:=zB hn 5
 have d6:=ze hn 6
 have f6:=zB hn 6
 have d7:=ze hn 7
 have f7:=zB hn 7
 have d8:=ze hn 8
 have f8:=zB hn 8
 have d9:=ze hn 9
 have f9:=zB hn 9
 have d10:=ze hn 10
 have f10:=zB hn 10
 have d11:=ze hn 11
 have f11:=zB hn 11
 clear hn
 have qD:=qh hb1
 clear hb1
 go_simp
 clear d0 f0 d1 f1 d2 f2 d3 f3 d4 f4 d5 f5 d6 f6 d7 f7 d8 f8 d9 f9 d10 f10 d11 f11
 refine hK.out _ (yI Xq2 gi 0 [.int .i64 op, .int .i64 wB, .int .i64 vY, .int .i64 ak, .int .i64 an, .int .u8 ao, .slice aa al ac, .int .i64 bk, .int .i64 bn, .int .u8 bo, .slice xba bkl xbc, .int .i64 dst]) qD.out.1 (λ_=> ?_)
 generalize yI Xq2 gi 0 _=X1 at qD ⊢
 clear hK K
 refine xQ ?_
 have hgi:=qD.out.2.2
 have yV:vP W X1 gb gi tb n xc mb mn yc bad ts mem bs [.int .i64 op, .int .i64 wB, .int .i64 vY, .int .i64 ak, .int .i64 an, .int .u8 ao, .slice aa al ac, .int .i64 bk, .int .i64 bn, .int .u8 bo, .slice xba bkl xbc, .int .i64 dst] :=
  ⟨zgR.out.later qD.out.1,qD.out.2.1,λe=>by have:=zx zgR.out.box;omega,λe=>by have:=(zgR.out.own.row.lt tb rfl).2;omega,λe=>by have:=(zgR.out.own.mem.lt mb rfl).2;omega⟩
 have zeo:=qh yV
 clear hgi yV C5
 have zuL:Hid (∀y,Below X1.heap.size X1 y->y.cell? ⟨tb,i*6+1,none⟩=some (.int .i64 r0)/\y.cell? ⟨tb,i*6+2,none⟩=some (.int .i64 r1)/\y.cell? ⟨tb,i*6+3,none⟩=some (.int .i64 r2)/\y.cell? ⟨tb,i*6+4,none⟩=some (.int .i64 r3)):=λy hy=>
  have h:=zG qD.out.1 hy
  ⟨ziJ.out 1 _ (by omega) rfl y h,ziJ.out 2 _ (by omega) rfl y h,ziJ.out 3 _ (by omega) rfl y h,ziJ.out 4 _ (by omega) rfl y h⟩
 have HB1:=qh zeo.out.own.below
 have z07:¬gi=gx+3:=λe=>by
  have h1:=zx H4.out
  have h2:=qD.out.2.2
  have h3:=zgR.out.below.size
  omega
 have HGI:=qh z07
 clear z07
 go_upto_region 6 with fail
 obtain⟨t1,t2,t3,t4⟩:=zuL.out X1 (Below.refl _ _)
 have z3:=ze zeo.out.instr 3
 have z4:=ze zeo.out.instr 4
 have z5:=ze zeo.out.instr 5
 have z6:=ze zeo.out.instr 6
 have c1:=(xS.out X1 HB1.out).2.1
 refine wp_region_still_tail 8 (by kernel_rfl) (by kernel_rfl) ?_
 simp only [List.take_succ_cons,List.take_zero,List.drop_succ_cons,List.drop_zero]
 repeat still_step
 try refine wpStill_nil ?_
 change wpList _ _ _ _ _ X1.drew
 obtain⟨wd,hwd⟩:∃wd,wd=X1.drew:=⟨_,rfl⟩
 rw [<-hwd]
 have pK:Hid (Below X1.heap.size X1 wd):=by rw [Hid,hwd];exact(Below.refl _ _).drew
 clear hwd t1 t2 t3 t4 z3 z4 z5 z6 c1
 go_upto_region 7 with(go_at_call 90;refine(z05.out wd (zG HB1.out pK.out)).mono ?_;rintro e X2 ⟨rfl,hb⟩;have HB2:=qh (zG pK.out hb);clear hb)
 have zcO:=qh (zeo.out.below HB2.out)
 clear pK
 obtain⟨t1,t2,t3,t4⟩:=zuL.out X2 HB2.out
 have z7:=ze zcO.out.instr 7
 have z8:=ze zcO.out.instr 8
 have z9:=ze zcO.out.instr 9
 have z10:=ze zcO.out.instr 10
 have c1:=(xS.out X2 zcO.out.own.below).2.1
 refine wp_region_still_tail 8 (by kernel_rfl) (by kernel_rfl) ?_
 simp only [List.take_succ_cons,List.take_zero,List.drop_succ_cons,List.drop_zero]
 repeat still_step
 try refine wpStill_nil ?_
 change wpList _ _ _ _ _ X2.drew
 obtain⟨wd',hwd⟩:∃wd,wd=X2.drew:=⟨_,rfl⟩
 rw [<-hwd]
 have pK:Hid (Below X2.heap.size X2 wd'):=by rw [Hid,hwd];exact(Below.refl _ _).drew
 clear hwd t1 t2 t3 t4 z7 z8 z9 z10 c1
 go_upto_region 8 with(go_at_call 90;refine(z06.out wd' (zG zcO.out.own.below pK.out)).mono ?_;rintro e X3 ⟨rfl,hb⟩;have HB3:=qh (zG pK.out hb);clear hb)
 have uF:=qh (zcO.out.below HB3.out)
 clear pK
 have hin:i<ts.length:=by rw [<-HN.out];exact hi
 have hcl:(ts.getD i default).cells (bs.getD i (.slice none 0 0))= [.int .i64 qO, .int .i64 r0, .int .i64 r1, .int .i64 r2, .int .i64 r3, .slice ba bl bc] :=by rw [<-HT.out, <-HBV.out];rfl
 have hpc:=uF.out.zpy hin 0 (.int .i64 qO) (by omega) (by rw [hcl];rfl)
 rw [Nat.add_zero] at hpc
 obtain⟨t0,f0⟩:=hpc
 have hth:=uF.out.thread hin (k:=0) (by omega) (t:=⟨(qO:Int)+1, [r0,r1,r2,r3],bf⟩) (b:= .slice ba bl bc) (u:= .int .i64 ((qO:Int)+1)) (by rw [hcl];rfl) rfl (by have:=(uF.out.buf hin).1;rw [<-HT.out, <-HBV.out] at this;exact this) (by have:=(uF.out.buf hin).2;rw [<-HBV.out] at this;exact this) (by have:=uF.out.dist hin;rw [<-HBV.out] at this;exact this)
 rw [Nat.add_zero] at hth
 have yS:=qh hth
 have HIN:=qh hin
 clear hin hcl hth
 go_upto_region 9 with fail
 clear t0 f0
 generalize World.setCell X3 _ _=X4 at yS ⊢
 clear zeo zcO uF zuL ziJ zgR HB1 HB2 HB3 qD jV HOL z05 z06 HSW wz HEL HEC HBU
 obtain⟨ts1,ziK⟩:∃ts1,ts1=ts.set i ⟨(qO:Int)+1, [r0,r1,r2,r3],bf⟩:=⟨_,rfl⟩
 obtain⟨bs1,zuM⟩:∃bs1,bs1=bs.set i (.slice ba bl bc):=⟨_,rfl⟩
 have hlb:bs.length=ts.length:=by have:=yS.out.own.own.len;rw [List.length_set,List.length_set] at this;exact this
 rw [<-ziK, <-zuM] at yS
 have bD:Hid (ts1.getD i default=⟨(qO:Int)+1, [r0,r1,r2,r3],bf⟩):=by rw [Hid,ziK,qU HIN.out,if_pos rfl]
 have bE:Hid (bs1.getD i (.slice none 0 0)= .slice ba bl bc):=by rw [Hid,zuM,qU (by rw [hlb];exact HIN.out),if_pos rfl]
 have HL1:Hid (i<ts1.length):=by rw [Hid,ziK,List.length_set];exact HIN.out
 have HSS:Hid (∀t',ts1.set i t'=ts.set i t'):=λt'=>by rw [ziK,List.set_set]
 have HT1:Hid (ts1=ts.set i ⟨(qO:Int)+1, [r0,r1,r2,r3],bf⟩):=ziK
 clear ziK zuM hlb HT
 have HTC:Hid (∀k u,k<6-> [Value.int .i64 ((qO:Int)+1), .int .i64 r0, .int .i64 r1, .int .i64 r2, .int .i64 r3, .slice ba bl bc][k]? =some u->X4.cell? ⟨tb,i*6+k,none⟩=some u/\X4.frozen? ⟨tb,i*6+k,none⟩=false):=by
  have h:=yS.out.zpy HL1.out
  rw [bD.out,bE.out] at h
  exact h
 have jN:Hid (R=Option.map (λr=>(⟨ts.set i r.1,r.2.1,r.2.2⟩:zl)) (stepT ⟨vars,dom,cs⟩ ⟨mod,bnd⟩ ⟨ts,mem,bad⟩ ⟨qO, [r0,r1,r2,r3],bf⟩ x d)):=by rw [Hid,HR5.out,HC.out,HM.out,HS.out]
 clear HR5 HC HM HS
 have zcQ:=qh (yS.out.buf HL1.out)
 have yJ:Hid (∀(X:World) (b':Bool),X.heap[gb]? =some (.cells #[.slice (some ⟨tb,0,none⟩) n xc, .slice (some ⟨mb,0,none⟩) mn yc, .bool b'] 30 (0,0))->Below W.heap.size W X->
   (X.cell? ⟨gb,0,none⟩=some (.slice (some ⟨tb,0,none⟩) n xc)/\X.cell? ⟨gb,1,none⟩=some (.slice (some ⟨mb,0,none⟩) mn yc)/\X.cell? ⟨gb,2,none⟩=some (.bool b'))/\
   (X.cell? ⟨gx+3,0,none⟩=some (.slice none 0 0)/\X.cell? ⟨gx+3,1,none⟩=some (.slice none 0 0)/\X.cell? ⟨gx+3,2,none⟩=some (.bool false))/\
   (X.frozen? ⟨gx+3,0,none⟩=false/\X.frozen? ⟨gx+3,1,none⟩=false/\X.frozen? ⟨gx+3,2,none⟩=false)/\
   (((X.setCell ⟨gx+3,0,none⟩ (.slice (some ⟨tb,0,none⟩) n xc)).setCell ⟨gx+3,1,none⟩ (.slice (some ⟨mb,0,none⟩) mn yc)).setCell ⟨gx+3,2,none⟩ (.bool b')).heap[gx+3]? =some (.cells #[.slice (some ⟨tb,0,none⟩) n xc, .slice (some ⟨mb,0,none⟩) mn yc, .bool b'] 30 (0,0))/\
   Since (λk=>k=gx+3) X (((X.setCell ⟨gx+3,0,none⟩ (.slice (some ⟨tb,0,none⟩) n xc)).setCell ⟨gx+3,1,none⟩ (.slice (some ⟨mb,0,none⟩) mn yc)).setCell ⟨gx+3,2,none⟩ (.bool b'))/\
   Below w.heap.size w (((X.setCell ⟨gx+3,0,none⟩ (.slice (some ⟨tb,0,none⟩) n xc)).setCell ⟨gx+3,1,none⟩ (.slice (some ⟨mb,0,none⟩) mn yc)).setCell ⟨gx+3,2,none⟩ (.bool b'))):=λX b' hX hW=>by
  have hres:=(hW.block _ (zx H4.out)).trans H4.out
  have hset:=zw (zw (zw hres 0 (.slice (some ⟨tb,0,none⟩) n xc)) 1 (.slice (some ⟨mb,0,none⟩) mn yc)) 2 (.bool b')
  simp only [List.setIfInBounds_toArray,List.set_cons_zero,List.set_cons_succ] at hset
  have hS:Since (λk=>k=gx+3) X (((X.setCell ⟨gx+3,0,none⟩ (.slice (some ⟨tb,0,none⟩) n xc)).setCell ⟨gx+3,1,none⟩ (.slice (some ⟨mb,0,none⟩) mn yc)).setCell ⟨gx+3,2,none⟩ (.bool b')):=Since.setCell (F:=λk=>k=gx+3) (p:=⟨gx+3,2,none⟩) (Since.setCell (F:=λk=>k=gx+3) (p:=⟨gx+3,1,none⟩) (Since.setCell (F:=λk=>k=gx+3) (p:=⟨gx+3,0,none⟩) (Since.refl _ X) (.inl rfl) _) (.inl rfl) _) (.inl rfl) _
  exact⟨⟨ze hX 0,ze hX 1,ze hX 2⟩,⟨ze hres 0,ze hres 1,ze hres 2⟩,⟨zB hres 0,zB hres 1,zB hres 2⟩,hset,hS,(HB.out.trans (hW.mono HB.out.size)).trans (hS.below (by have:=HB.out.size;have:=hW.size;omega) (λk e=>by have:=yU.out;omega))⟩
 have uh:Hid (∀(X X':World) (b':Bool) (ts':List zA) (mem':List Int) (bs' wM:List Value),vP W X gb gi tb n xc mb mn yc b' ts' mem' bs' wM->Since (λk=>k=gx+3) X X'->OwnAt w.heap.size X' (.slice (some ⟨tb,0,none⟩) n xc) (.slice (some ⟨mb,0,none⟩) mn yc) ts' mem' bs'):=λX X' b' ts' mem' bs' wM h hS=>by
  have hlt:=zx H4.out
  exact OwnAt.lower (B:=W.heap.size) (h.own.own.since hS (λk hk e=>by have:=(h.own.own.row.lt k hk).1;omega) (λk hk e=>by have:=(h.own.own.mem.lt k hk).1;omega) (λj hj k hk e=>by have:=((h.own.own.buf j hj).lt k hk).1;omega)) HB.out.size
 go_cut [15] (λs15 w'=>∃em:Bool,s15= .bool em/\w'=X4/\Hid (em=decide (bl=0)))
 case first=>
  have t5:=(HTC.out 5 _ (by omega) rfl).1
  by_cases hb0:bl=0
  ·have hb1:((bl:Int)==0)=true:=by simp [hb0]
   go_wp2_with fail
   go_meet
   case rel=>exact⟨true,by first|rfl|simp,rfl,by simp [Hid,hb0]⟩
  have hb1:((bl:Int)==0)=false:=by simp [hb0]
  go_wp2_with fail
  go_meet
  case rel=>exact⟨false,by first|rfl|simp,rfl,by simp [Hid,hb0]⟩
 case rest=>
 obtain⟨em,rfl,hww,HEM⟩:=hcut
 obtain rfl:X4=wc:=hww.symm
 have k0:=ze yS.out.instr 0
 go_upto_region 11 with fail
 clear k0
 by_cases o1:op=1
 ·have jg:Hid ((1:Int)=x.op):=by rw [Hid, <-xH.out,o1]
  clear xH
  have xH:=jg
  clear jg
  have p1:((op:Int)==1)=true:=by simp [o1]
  clear o1
  as_aux_lemma=>
   go_upto_region 12 with fail
   obtain⟨lk,hlk⟩:∃lk,lk=wT bf vY:=⟨_,rfl⟩
   have zuN:=λY hY=>zuO Y (.slice ba bl bc) bf hY (by rw [<-qQ.out];omega) vY
   rw [<-hlk] at zuN
   have z5u:=qh zuN
   have HLK:=qh hlk
   clear zuN hlk
   have hbu:=zcQ.out.1
   rw [bD.out,bE.out] at hbu
   have zpz:Hid (∀Y,Below X4.heap.size X4 Y->zU Y (.slice ba bl bc) bf):=λY hY=>zU.below (kP hbu) hY
   clear hbu
   have CZ:Hid (∀y,Below X4.heap.size X4 y->y.cell? ⟨tb,i*6+5,none⟩=some (.slice ba bl bc)/\y.cell? ⟨gi,2,none⟩=some (.int .i64 vY)):=λy hy=>⟨zi hy _ _ (HTC.out 5 _ (by omega) rfl).1,zi hy _ _ (ze yS.out.instr 2)⟩
   refine vV (S:=λx=>Below X4.heap.size X4 x) (Below.refl _ _).drew (λhH=> ?_)
   refine zu 0 CZ.out ?_
   refine zu 1 CZ.out ?_
   refine zu 2 CZ.out ?_
   refine zu 3 CZ.out ?_
   refine zu 4 CZ.out ?_
   refine zu 5 CZ.out ?_
   refine yA 6 rfl (λK hK=> ?_)
   go_simp
   refine(z5u.out X4.drew (zpz.out X4.drew hH)).mono ?_
   rintro e zep ⟨rfl,hb⟩
   have zp0:Below X4.heap.size X4 zep:=zG hH hb
   refine hK.out _ _ zp0 (λ_=> ?_)
   clear hK K hb hH
   refine zu 7 CZ.out ?_
   refine zu 8 CZ.out ?_
   refine zu 9 CZ.out ?_
   refine zu 10 CZ.out ?_
   refine zu 11 CZ.out ?_
   refine xQ ?_
   have bQ:=qh (yS.out.below zp0)
   clear zp0
   skip
   cases lk with
   |some lv=>
    simp only [Option.getD_some,Option.isSome_some]
    go_upto_region 15 with fail
    have z1:=ze bQ.out.instr 1
    refine wp_region_still_tail 7 (by kernel_rfl) (by kernel_rfl) ?_
    simp only [List.take_succ_cons,List.take_zero,List.drop_succ_cons,List.drop_zero]
    repeat still_step
    try refine wpStill_nil ?_
    change wpList _ _ _ _ _ zep.drew
    obtain⟨X5,hX5⟩:∃wd,wd=zep.drew:=⟨_,rfl⟩
    rw [<-hX5]
    have z5v:Hid (Below zep.heap.size zep X5):=by rw [Hid,hX5];exact(Below.refl _ _).drew
    clear hX5
    have zwz:=qh (bQ.out.below z5v.out)
    clear z1
    obtain⟨u0,v0⟩:=zwz.out.bC HL1.out bD.out bE.out (1+wB) (.int .i64 ([r0,r1,r2,r3].getD wB 0)) (by omega) (zen zb4)
    rw [<-Nat.add_assoc] at u0 v0
    have hw6:=zwz.out.set HL1.out (k:=1+wB) (by omega) (t':=⟨(qO:Int)+1,([r0,r1,r2,r3].set wB lv),bf⟩) (u:=(.int .i64 lv)) bD.out bE.out (zbO zb4) (by simp) rfl
    rw [<-Nat.add_assoc] at hw6
    have HW6:=qh hw6
    clear hw6
    go_upto_region 48 with fail
    clear u0 v0
    generalize World.setCell X5 _ _=X6 at HW6 ⊢
    obtain⟨hr6,ht6,hb6,hl6⟩:=HW6.out
    have z1K:=qh hr6
    have z9m:=qh ht6
    have z9n:=qh hb6
    have HL6:=qh hl6
    clear hr6 ht6 hb6 hl6 HW6
    have hres:R=some ⟨ts.set i ⟨(qO:Int)+1, [r0,r1,r2,r3].set wB lv,bf⟩,mem,bad⟩:=by
     rw [jN.out,bH xH.out.symm]
     simp only [Option.map_some]
     rw [<-HVR.out, <-HLK.out, <-HRG.out]
     rfl
    have zP:=qh hres
    clear hres
    have yV:=z1K.out
    rw [HSS.out] at yV
    have yP:=qh yV
    clear yV
    obtain⟨⟨a0,a1,a2⟩,⟨q0,q1,q2⟩,⟨f0,f1,f2⟩,hset,hsn,hbe⟩:=yJ.out X6 bad yP.out.own.box yP.out.own.below
    have zJ:=qh hset
    have xP:=qh hsn
    have yO:=qh hbe
    clear hset hsn hbe
    go_wp2_with fail
    (try simp only [Exit.inBlock,Exit.then])
    refine bodyPost_ret (zy rfl _ _ (gx+3) 30 _ (0,0) _ rfl zJ.out Tryz.underlying30 rfl zH) rfl ?_
    exact⟨qM zP.out (uh.out _ _ _ _ _ _ _ yP.out xP.out),yO.out⟩
   |none=>
   simp only [Option.getD_none,Option.isSome_none]
   go_upto_region 14 with fail
   obtain⟨nv,hnv⟩:∃nv,nv=mem.getD vY 0:=⟨_,rfl⟩
   obtain⟨sb,so,hsa, -,hsc⟩:=xJ.part zej.out vY (by rw [<-vw.out];omega)
   subst hsa
   rw [<-hnv] at hsc
   have HNV:=qh hnv
   clear hnv
   have s1:=zi bQ.out.own.below _ _ hsc
   have c6:=(xS.out _ bQ.out.own.below).2.2.2.2.2.2.1
   have uH:(vY:Int)<(mn:Int):=by omega
   have z2:=ze bQ.out.instr 2
   go_upto_region 15 with fail
   clear z2 s1 c6 hsc
   go_upto_region 15 with fail
   have z1:=ze bQ.out.instr 1
   refine wp_region_still_tail 7 (by kernel_rfl) (by kernel_rfl) ?_
   simp only [List.take_succ_cons,List.take_zero,List.drop_succ_cons,List.drop_zero]
   repeat still_step
   try refine wpStill_nil ?_
   change wpList _ _ _ _ _ zep.drew
   obtain⟨X7,hX7⟩:∃wd,wd=zep.drew:=⟨_,rfl⟩
   rw [<-hX7]
   have z5w:Hid (Below zep.heap.size zep X7):=by rw [Hid,hX7];exact(Below.refl _ _).drew
   clear hX7
   have zw0:=qh (bQ.out.below z5w.out)
   clear z1
   obtain⟨u0,v0⟩:=zw0.out.bC HL1.out bD.out bE.out (1+wB) (.int .i64 ([r0,r1,r2,r3].getD wB 0)) (by omega) (zen zb4)
   rw [<-Nat.add_assoc] at u0 v0
   have hw8:=zw0.out.set HL1.out (k:=1+wB) (by omega) (t':=⟨(qO:Int)+1,([r0,r1,r2,r3].set wB nv),bf⟩) (u:=(.int .i64 nv)) bD.out bE.out (zbO zb4) (by simp) rfl
   rw [<-Nat.add_assoc] at hw8
   have HW8:=qh hw8
   clear hw8
   go_upto_region 48 with fail
   clear u0 v0
   generalize World.setCell X7 _ _=X8 at HW8 ⊢
   obtain⟨hr8,ht8,hb8,hl8⟩:=HW8.out
   have z1L:=qh hr8
   have z9o:=qh ht8
   have z9p:=qh hb8
   have wK:=qh hl8
   clear hr8 ht8 hb8 hl8 HW8
   have hres:R=some ⟨ts.set i ⟨(qO:Int)+1, [r0,r1,r2,r3].set wB nv,bf⟩,mem,bad⟩:=by
    rw [jN.out,bH xH.out.symm]
    simp only [Option.map_some]
    rw [<-HVR.out, <-HLK.out, <-HRG.out]
    rw [show((vY:Int)).toNat=vY from rfl, <-HNV.out]
    rfl
   have zP:=qh hres
   clear hres
   have yV:=z1L.out
   rw [HSS.out] at yV
   have yP:=qh yV
   clear yV
   obtain⟨⟨a0,a1,a2⟩,⟨q0,q1,q2⟩,⟨f0,f1,f2⟩,hset,hsn,hbe⟩:=yJ.out X8 bad yP.out.own.box yP.out.own.below
   have zJ:=qh hset
   have xP:=qh hsn
   have yO:=qh hbe
   clear hset hsn hbe
   go_wp2_with fail
   (try simp only [Exit.inBlock,Exit.then])
   refine bodyPost_ret (zy rfl _ _ (gx+3) 30 _ (0,0) _ rfl zJ.out Tryz.underlying30 rfl zH) rfl ?_
   exact⟨qM zP.out (uh.out _ _ _ _ _ _ _ yP.out xP.out),yO.out⟩
 have p1:((op:Int)==1)=false:=by simp [o1]
 by_cases o2:op=2
 ·have jg:Hid ((2:Int)=x.op):=by rw [Hid, <-xH.out,o2]
  clear xH
  have xH:=jg
  clear jg
  have p2:((op:Int)==2)=true:=by simp [o2]
  clear o2
  as_aux_lemma=>
   go_upto_region 17 with fail
   have c3:=(xS.out _ yS.out.own.below).2.2.2.1
   by_cases hm0:mod=0
   ·have hm1:((mod:Int)==0)=true:=by simp [hm0]
    have HM0:=qh hm0
    clear hm0
    go_upto_region 18 with fail
    clear c3 hm1
    go_upto_region 18 with fail
    have z2:=ze yS.out.instr 2
    have hbx:=yS.out.own.box
    have g1:=ze hbx 1
    clear hbx
    have hml:vY<mem.length:=by rw [<-vw.out];omega
    obtain⟨m0,m1⟩:=yS.out.zkf hml
    have uH:(vY:Int)<(mn:Int):=by omega
    have zw1:=qh (yS.out.mem vY A)
    clear hml
    go_upto_region 19 with fail
    clear z2 g1 m0 m1 uH
    generalize World.setCell X4 _ _=X9 at zw1 ⊢
    have hres:R=some ⟨ts1,(mem.set vY A),bad⟩:=by
     rw [jN.out,uR xH.out.symm HM0.out]
     simp only [Option.map_some]
     rw [<-HVR.out, <-HA.out,HT1.out]
     rfl
    have zP:=qh hres
    clear hres
    have yV:=zw1.out
    have yP:=qh yV
    clear yV
    obtain⟨⟨a0,a1,a2⟩,⟨q0,q1,q2⟩,⟨f0,f1,f2⟩,hset,hsn,hbe⟩:=yJ.out X9 bad yP.out.own.box yP.out.own.below
    have zJ:=qh hset
    have xP:=qh hsn
    have yO:=qh hbe
    clear hset hsn hbe
    go_wp2_with fail
    (try simp only [Exit.inBlock,Exit.then])
    refine bodyPost_ret (zy rfl _ _ (gx+3) 30 _ (0,0) _ rfl zJ.out Tryz.underlying30 rfl zH) rfl ?_
    exact⟨qM zP.out (uh.out _ _ _ _ _ _ _ yP.out xP.out),yO.out⟩
   have hm1:((mod:Int)==0)=false:=by simp [hm0]
   have HM0:=qh hm0
   clear hm0
   go_upto_region 20 with fail
   clear c3 hm1
   obtain⟨ok,hok⟩:∃ok,ok=qz bf ⟨mod,bnd⟩ ⟨vY,A⟩:=⟨_,rfl⟩
   have hput:=λY hY=>zmK Y (.slice ba bl bc) bf hY (by rw [<-qQ.out];omega) ⟨mod,bnd⟩ ⟨vY,A⟩
   rw [<-hok] at hput
   have jF:=qh hput
   have jv:=qh hok
   clear hput hok
   have hbu:=zcQ.out.1
   rw [bD.out,bE.out] at hbu
   have zpz:Hid (∀Y,Below X4.heap.size X4 Y->zU Y (.slice ba bl bc) bf):=λY hY=>zU.below (kP hbu) hY
   clear hbu
   have CZ:Hid (∀y,Below X4.heap.size X4 y->y.cell? ⟨tb,i*6+5,none⟩=some (.slice ba bl bc)/\y.cell? ⟨gi,2,none⟩=some (.int .i64 vY)/\y.cell? ⟨gx+1,0,none⟩=some (.int .i64 mod)/\y.cell? ⟨gx+1,1,none⟩=some (.int .i64 bnd)):=λy hy=>⟨zi hy _ _ (HTC.out 5 _ (by omega) rfl).1,zi hy _ _ (ze yS.out.instr 2),(xS.out y (zG yS.out.own.below hy)).2.2.2.1,(xS.out y (zG yS.out.own.below hy)).2.2.2.2.1⟩
   refine vV (S:=λx=>Below X4.heap.size X4 x) (Below.refl _ _).drew (λhH=> ?_)
   refine zu 0 CZ.out ?_
   refine zu 1 CZ.out ?_
   refine zu 2 CZ.out ?_
   refine zu 3 CZ.out ?_
   refine zu 4 CZ.out ?_
   refine zu 5 CZ.out ?_
   refine zu 6 CZ.out ?_
   refine zu 7 CZ.out ?_
   refine zu 8 CZ.out ?_
   refine yA 9 rfl (λK hK=> ?_)
   go_simp
   refine(jF.out X4.drew (zpz.out X4.drew hH)).mono ?_
   rintro e zmb ⟨⟨bv,rfl,hbv,hrow⟩,hb⟩
   obtain⟨pa,pc2,rfl, -⟩:=zh.slice hbv
   have vT:=qh hrow
   clear hbv hrow
   have zp1:Below X4.heap.size X4 zmb:=zG hH hb
   refine hK.out _ _ zp1 (λ_=> ?_)
   clear hK K hb hH
   refine zu 10 CZ.out ?_
   refine zu 11 CZ.out ?_
   refine zu 12 CZ.out ?_
   refine zu 13 CZ.out ?_
   refine zu 14 CZ.out ?_
   refine xQ ?_
   have bQ:=qh (yS.out.below zp1)
   clear zp1
   have z5x:=qh (zx yS.out.own.box)
   have z5y:=qh (yS.out.own.own.row.lt tb rfl).2
   have z5z:=qh (yS.out.own.own.mem.lt mb rfl).2
   have z5A:=qh yS.out.own.below.size
   go_upto_region 21 with fail
   obtain⟨t5,v5⟩:=bQ.out.bC HL1.out bD.out bE.out 5 (.slice ba bl bc) (by omega) rfl
   obtain⟨pl,hpl⟩:∃pl,pl=(jr bf ⟨mod,bnd⟩ ⟨vY,A⟩).length:=⟨_,rfl⟩
   rw [<-hpl] at vT ⊢
   have qY:=qh hpl
   clear hpl
   cases ok with
   |true=>
    have hrw:=xu (C:=W.heap.size) (vT.out rfl) z5A.out
    have hpw:=bQ.out.thread HL1.out (k:=5) (by omega) (t:=⟨(qO:Int)+1, [r0,r1,r2,r3],jr bf ⟨mod,bnd⟩ ⟨vY,A⟩⟩) (b:= .slice pa pl pc2) (u:= .slice pa pl pc2) (by rw [bD.out,bE.out];rfl) rfl (by rw [<-qY.out];exact hrw) (λk hk=>by have h1:X4.heap.size<=k:=((vT.out rfl).lt k hk).1;have:=z5x.out;have:=z5y.out;have:=z5z.out;exact⟨by omega,by omega,by omega⟩) (λk hk j hj _ e=>by have h1:X4.heap.size<=k:=((vT.out rfl).lt k hk).1;have h2:=((yS.out.own.own.buf j hj).lt k e).2;omega)
    rw [HSS.out] at hpw
    have HPW:=qh hpw
    clear hpw hrw
    go_upto_region 22 with fail
    clear t5 v5
    generalize World.setCell zmb _ _=XY at HPW ⊢
    have hres:R=some ⟨(ts.set i ⟨(qO:Int)+1, [r0,r1,r2,r3],jr bf ⟨mod,bnd⟩ ⟨vY,A⟩⟩),mem,bad⟩:=by
     rw [jN.out,uS xH.out.symm HM0.out (by rw [<-HVR.out, <-HA.out, <-jv.out])]
     simp only [Option.map_some]
     rw [<-HVR.out, <-HA.out]
    have zP:=qh hres
    clear hres
    have yV:=HPW.out
    have yP:=qh yV
    clear yV
    obtain⟨⟨a0,a1,a2⟩,⟨q0,q1,q2⟩,⟨f0,f1,f2⟩,hset,hsn,hbe⟩:=yJ.out XY bad yP.out.own.box yP.out.own.below
    have zJ:=qh hset
    have xP:=qh hsn
    have yO:=qh hbe
    clear hset hsn hbe
    go_wp2_with fail
    (try simp only [Exit.inBlock,Exit.then])
    refine bodyPost_ret (zy rfl _ _ (gx+3) 30 _ (0,0) _ rfl zJ.out Tryz.underlying30 rfl zH) rfl ?_
    exact⟨qM zP.out (uh.out _ _ _ _ _ _ _ yP.out xP.out),yO.out⟩
   |false=>
   have hbx:=bQ.out.own.box
   have hsY:Since (λx=>x=tb) zmb (zmb.setCell ⟨tb,i*6+5,none⟩ (.slice pa pl pc2)):=Since.setCell (F:=λx=>x=tb) (p:=⟨tb,i*6+5,none⟩) (Since.refl _ _) (.inl rfl) _
   have zcg:=(hsY.block gb (zx hbx) (λe=>bQ.out.own.n1 (by rw [e];rfl))).trans hbx
   have z0F:=bQ.out.own.below.trans (hsY.below bQ.out.own.below.size (λx e=>by have:=(bQ.out.own.own.row.lt tb rfl).1;omega))
   have yX:=qh zcg
   have z0G:=qh z0F
   clear hbx hsY zcg z0F
   have hres:R=none:=by
    rw [jN.out,uT xH.out.symm HM0.out (by rw [<-HVR.out, <-HA.out, <-jv.out])]
    rfl
   have zP:=qh hres
   clear hres
   go_upto_region 22 with fail
   clear t5 v5
   generalize World.setCell zmb _ _=XY at yX z0G ⊢
   obtain⟨⟨a0,a1,a2⟩,⟨q0,q1,q2⟩,⟨f0,f1,f2⟩,hset, -,hbe⟩:=yJ.out XY bad yX.out z0G.out
   have zJ:=qh hset
   have yO:=qh hbe
   clear hset hbe
   go_wp2_with fail
   (try simp only [Exit.inBlock,Exit.then])
   refine bodyPost_ret (zy rfl _ _ (gx+3) 30 _ (0,0) _ rfl zJ.out Tryz.underlying30 rfl zH) rfl ?_
   exact⟨ug zP.out,yO.out⟩
 have p2:((op:Int)==2)=false:=by simp [o2]
 by_cases o3:op=3
 ·have jg:Hid ((3:Int)=x.op):=by rw [Hid, <-xH.out,o3]
  clear xH
  have xH:=jg
  clear jg
  have p3:((op:Int)==3)=true:=by simp [o3]
  clear o3
  as_aux_lemma=>
   go_upto_region 24 with fail
   have z1:=ze yS.out.instr 1
   refine wp_region_still_tail 7 (by kernel_rfl) (by kernel_rfl) ?_
   simp only [List.take_succ_cons,List.take_zero,List.drop_succ_cons,List.drop_zero]
   repeat still_step
   try refine wpStill_nil ?_
   change wpList _ _ _ _ _ X4.drew
   obtain⟨X10,zuP⟩:∃wd,wd=X4.drew:=⟨_,rfl⟩
   rw [<-zuP]
   have z1M:Hid (Below X4.heap.size X4 X10):=by rw [Hid,zuP];exact(Below.refl _ _).drew
   clear zuP
   have zso:=qh (yS.out.below z1M.out)
   clear z1
   obtain⟨u0,v0⟩:=zso.out.bC HL1.out bD.out bE.out (1+wB) (.int .i64 ([r0,r1,r2,r3].getD wB 0)) (by omega) (zen zb4)
   rw [<-Nat.add_assoc] at u0 v0
   have zbR:=zso.out.set HL1.out (k:=1+wB) (by omega) (t':=⟨(qO:Int)+1,([r0,r1,r2,r3].set wB A),bf⟩) (u:=(.int .i64 A)) bD.out bE.out (zbO zb4) (by simp) rfl
   rw [<-Nat.add_assoc] at zbR
   have zuQ:=qh zbR
   clear zbR
   go_upto_region 48 with fail
   clear u0 v0
   generalize World.setCell X10 _ _=X11 at zuQ ⊢
   obtain⟨z0H,z0I,z0J,z0K⟩:=zuQ.out
   have z0L:=qh z0H
   have z8w:=qh z0I
   have z8x:=qh z0J
   have z9q:=qh z0K
   clear z0H z0I z0J z0K zuQ
   have hres:R=some ⟨ts.set i ⟨(qO:Int)+1, [r0,r1,r2,r3].set wB A,bf⟩,mem,bad⟩:=by
    rw [jN.out,zbm xH.out.symm]
    simp only [Option.map_some]
    rw [<-HA.out, <-HRG.out]
    rfl
   have zP:=qh hres
   clear hres
   have yV:=z0L.out
   rw [HSS.out] at yV
   have yP:=qh yV
   clear yV
   obtain⟨⟨a0,a1,a2⟩,⟨q0,q1,q2⟩,⟨f0,f1,f2⟩,hset,hsn,hbe⟩:=yJ.out X11 bad yP.out.own.box yP.out.own.below
   have zJ:=qh hset
   have xP:=qh hsn
   have yO:=qh hbe
   clear hset hsn hbe
   go_wp2_with fail
   (try simp only [Exit.inBlock,Exit.then])
   refine bodyPost_ret (zy rfl _ _ (gx+3) 30 _ (0,0) _ rfl zJ.out Tryz.underlying30 rfl zH) rfl ?_
   exact⟨qM zP.out (uh.out _ _ _ _ _ _ _ yP.out xP.out),yO.out⟩
 have p3:((op:Int)==3)=false:=by simp [o3]
 by_cases o4:op=4
 ·have jg:Hid ((4:Int)=x.op):=by rw [Hid, <-xH.out,o4]
  clear xH
  have xH:=jg
  clear jg
  have p4:((op:Int)==4)=true:=by simp [o4]
  clear o4
  as_aux_lemma=>
   go_upto_region 26 with fail
   cases em with
   |true=>
    have hb0:bf.length=0:=by rw [<-qQ.out];exact of_decide_eq_true HEM.out.symm
    have HB0:=qh hb0
    clear hb0
    have hres:R=some ⟨ts1,mem,bad⟩:=by
     rw [jN.out,uq xH.out.symm]
     rw [if_pos HB0.out,HT1.out]
     rfl
    have zP:=qh hres
    clear hres
    have yV:=yS.out
    have yP:=qh yV
    clear yV
    obtain⟨⟨a0,a1,a2⟩,⟨q0,q1,q2⟩,⟨f0,f1,f2⟩,hset,hsn,hbe⟩:=yJ.out X4 bad yP.out.own.box yP.out.own.below
    have zJ:=qh hset
    have xP:=qh hsn
    have yO:=qh hbe
    clear hset hsn hbe
    go_wp2_with fail
    (try simp only [Exit.inBlock,Exit.then])
    refine bodyPost_ret (zy rfl _ _ (gx+3) 30 _ (0,0) _ rfl zJ.out Tryz.underlying30 rfl zH) rfl ?_
    exact⟨qM zP.out (uh.out _ _ _ _ _ _ _ yP.out xP.out),yO.out⟩
   |false=>
   have hb0:¬bf.length=0:=by rw [<-qQ.out];exact of_decide_eq_false HEM.out.symm
   have HB0:=qh hb0
   clear hb0
   have hres:R=none:=by
    rw [jN.out,uq xH.out.symm]
    rw [if_neg HB0.out]
    rfl
   have zP:=qh hres
   clear hres
   have yV:=yS.out
   have yP:=qh yV
   clear yV
   obtain⟨⟨a0,a1,a2⟩,⟨q0,q1,q2⟩,⟨f0,f1,f2⟩,hset,hsn,hbe⟩:=yJ.out X4 bad yP.out.own.box yP.out.own.below
   have zJ:=qh hset
   have xP:=qh hsn
   have yO:=qh hbe
   clear hset hsn hbe
   go_wp2_with fail
   (try simp only [Exit.inBlock,Exit.then])
   refine bodyPost_ret (zy rfl _ _ (gx+3) 30 _ (0,0) _ rfl zJ.out Tryz.underlying30 rfl zH) rfl ?_
   exact⟨ug zP.out,yO.out⟩
 have p4:((op:Int)==4)=false:=by simp [o4]
 by_cases o5:op=5
 ·have jg:Hid ((5:Int)=x.op):=by rw [Hid, <-xH.out,o5]
  clear xH
  have xH:=jg
  clear jg
  have p5:((op:Int)==5)=true:=by simp [o5]
  clear o5
  as_aux_lemma=>
   go_upto_region 28 with fail
   have CZ:Hid (∀y,Since (λk=>k=gx+3) X4 y->y.cell? ⟨gb,0,none⟩=some (.slice (some ⟨tb,0,none⟩) n xc)/\y.cell? ⟨gb,1,none⟩=some (.slice (some ⟨mb,0,none⟩) mn yc)/\y.cell? ⟨gb,2,none⟩=some (.bool bad)/\y.cell? ⟨gx+1,0,none⟩=some (.int .i64 mod)):=λy hy=>by
    have h1:=yS.out.own.box
    have hlo:=yS.out.own.lo
    have hlt:=zx H4.out
    have h2:=(hy.block _ (zx h1) (by omega)).trans h1
    have h3:=(yS.out.own.below.block _ (zx H2.out)).trans H2.out
    have h4:=(hy.block _ (zx h3) (by omega)).trans h3
    exact⟨ze h2 0,ze h2 1,ze h2 2,ze h4 0⟩
   cases em with
   |true=>
    have hb0:bf.length=0:=by rw [<-qQ.out];exact of_decide_eq_true HEM.out.symm
    have HB0:=qh hb0
    clear hb0
    have hres:R=some ⟨ts1,mem,bad⟩:=by
     rw [jN.out,gU xH.out.symm]
     rw [if_pos (.inl HB0.out),HT1.out]
     rfl
    have zP:=qh hres
    clear hres
    have yV:=yS.out
    have yP:=qh yV
    clear yV
    refine vV (S:=λy=>Since (λk=>k=gx+3) X4 y) (Since.refl _ _).drew (λ_=> ?_)
    obtain⟨wd,hwd⟩:∃wd,wd=X4.drew:=⟨_,rfl⟩
    rw [<-hwd]
    have HFX:=yJ.out wd bad (by rw [hwd];exact yP.out.own.box) (by rw [hwd];exact yP.out.own.below.drew)
    have xE:Hid (Since (λk=>k=gx+3) X4 wd):=by rw [Hid,hwd];exact(Since.refl _ _).drew
    clear hwd
    refine zD 0 CZ.out (xE.out) ?_
    refine zD 1 zQ (xE.out) ?_
    refine zD 2 zQ (xE.out) ?_
    refine wpAnyH_take (i:=3) (v:=undef) rfl (by kernel_rfl) (by kernel_rfl) (by kernel_rfl) (λ_ _ _ h=>h) (Or.inr ⟨by rfl,rfl⟩) (xE.out) ?_
    change wpAnyH _ _ _ _ _ _ _ (Act.put _ (some 158) _) _
    simp only [Act.put,kD]
    try simp only [kE,kF]
    refine wpAnyH_take (i:=4) (v:=undef) rfl (by kernel_rfl) (by kernel_rfl) (by kernel_rfl) (λ_ _ _ h=>h) (Or.inr ⟨by rfl,rfl⟩) (xE.out) ?_
    change wpAnyH _ _ _ _ _ _ _ (Act.put _ (some 159) _) _
    simp only [Act.put,kD]
    try simp only [kE,kF]
    refine wpAnyH_take (i:=5) (v:=undef) rfl (by kernel_rfl) (by kernel_rfl) (by kernel_rfl) (λ_ _ _ h=>h) (Or.inr ⟨by rfl,rfl⟩) (xE.out) ?_
    change wpAnyH _ _ _ _ _ _ _ (Act.put _ (some 160) _) _
    simp only [Act.put,kD]
    try simp only [kE,kF]
    refine zD 6 zQ (xE.out) ?_
    refine yA 7 rfl (λK hK=> ?_)
    obtain⟨-,⟨q0,q1,q2⟩,⟨f0,f1,f2⟩,hset,hsn,hbe⟩:=HFX
    have zJ:=qh hset
    have xP:=qh hsn
    have yO:=qh hbe
    clear hset hsn hbe
    go_simp
    refine hK.out _ _ (xE.out.trans xP.out (λ_ h=> .inl h)) (λ_=> ?_)
    clear hK K
    refine zD 8 zQ ((xE.out.trans xP.out (λ_ h=> .inl h))) ?_
    refine xQ ?_
    go_wp2_with fail
    (try simp only [Exit.inBlock,Exit.then])
    refine bodyPost_ret (zy rfl _ _ (gx+3) 30 _ (0,0) _ rfl zJ.out Tryz.underlying30 rfl zH) rfl ?_
    exact⟨qM zP.out (uh.out _ _ _ _ _ _ _ yP.out (xE.out.trans xP.out (λ_ h=> .inl h))),yO.out⟩
   |false=>
   have hb0:¬bf.length=0:=by rw [<-qQ.out];exact of_decide_eq_false HEM.out.symm
   have HB0:=qh hb0
   clear hb0
   by_cases hm2:mod=2
   rotate_left
   ·have hm3:((mod:Int) !=2)=true:=by simp [hm2]
    have HM2:=qh hm2
    clear hm2
    have hres:R=some ⟨ts1,mem,bad⟩:=by
     rw [jN.out,gU xH.out.symm]
     rw [if_pos (.inr HM2.out),HT1.out]
     rfl
    have zP:=qh hres
    clear hres
    have yV:=yS.out
    have yP:=qh yV
    clear yV
    refine vV (S:=λy=>Since (λk=>k=gx+3) X4 y) (Since.refl _ _).drew (λ_=> ?_)
    obtain⟨wd,hwd⟩:∃wd,wd=X4.drew:=⟨_,rfl⟩
    rw [<-hwd]
    have HFX:=yJ.out wd bad (by rw [hwd];exact yP.out.own.box) (by rw [hwd];exact yP.out.own.below.drew)
    have xE:Hid (Since (λk=>k=gx+3) X4 wd):=by rw [Hid,hwd];exact(Since.refl _ _).drew
    clear hwd
    refine zD 0 CZ.out (xE.out) ?_
    refine zD 1 zQ (xE.out) ?_
    refine zD 2 zQ (xE.out) ?_
    refine zD 3 zQ (xE.out) ?_
    refine zD 4 CZ.out (xE.out) ?_
    refine zD 5 zQ (xE.out) ?_
    refine zD 6 zQ (xE.out) ?_
    refine yA 7 rfl (λK hK=> ?_)
    obtain⟨-,⟨q0,q1,q2⟩,⟨f0,f1,f2⟩,hset,hsn,hbe⟩:=HFX
    have zJ:=qh hset
    have xP:=qh hsn
    have yO:=qh hbe
    clear hset hsn hbe
    go_simp
    refine hK.out _ _ (xE.out.trans xP.out (λ_ h=> .inl h)) (λ_=> ?_)
    clear hK K
    refine zD 8 zQ ((xE.out.trans xP.out (λ_ h=> .inl h))) ?_
    refine xQ ?_
    go_wp2_with fail
    (try simp only [Exit.inBlock,Exit.then])
    refine bodyPost_ret (zy rfl _ _ (gx+3) 30 _ (0,0) _ rfl zJ.out Tryz.underlying30 rfl zH) rfl ?_
    exact⟨qM zP.out (uh.out _ _ _ _ _ _ _ yP.out (xE.out.trans xP.out (λ_ h=> .inl h))),yO.out⟩
   have hm3:((mod:Int) !=2)=false:=by simp [hm2]
   have HM2:=qh hm2
   clear hm2
   have hres:R=none:=by
    rw [jN.out,gU xH.out.symm]
    rw [if_neg (λh=>h.elim HB0.out (λh=>h HM2.out))]
    rfl
   have zP:=qh hres
   clear hres
   have yV:=yS.out
   have yP:=qh yV
   clear yV
   refine vV (S:=λy=>Since (λk=>k=gx+3) X4 y) (Since.refl _ _).drew (λ_=> ?_)
   obtain⟨wd,hwd⟩:∃wd,wd=X4.drew:=⟨_,rfl⟩
   rw [<-hwd]
   have HFX:=yJ.out wd bad (by rw [hwd];exact yP.out.own.box) (by rw [hwd];exact yP.out.own.below.drew)
   have xE:Hid (Since (λk=>k=gx+3) X4 wd):=by rw [Hid,hwd];exact(Since.refl _ _).drew
   clear hwd
   refine zD 0 CZ.out (xE.out) ?_
   refine zD 1 zQ (xE.out) ?_
   refine zD 2 zQ (xE.out) ?_
   refine zD 3 zQ (xE.out) ?_
   refine zD 4 CZ.out (xE.out) ?_
   refine zD 5 zQ (xE.out) ?_
   refine zD 6 zQ (xE.out) ?_
   refine yA 7 rfl (λK hK=> ?_)
   obtain⟨-,⟨q0,q1,q2⟩,⟨f0,f1,f2⟩,hset,hsn,hbe⟩:=HFX
   have zJ:=qh hset
   have xP:=qh hsn
   have yO:=qh hbe
   clear hset hsn hbe
   go_simp
   refine hK.out _ _ (xE.out.trans xP.out (λ_ h=> .inl h)) (λ_=> ?_)
   clear hK K
   refine zD 8 zQ ((xE.out.trans xP.out (λ_ h=> .inl h))) ?_
   refine xQ ?_
   go_wp2_with fail
   (try simp only [Exit.inBlock,Exit.then])
   refine bodyPost_ret (zy rfl _ _ (gx+3) 30 _ (0,0) _ rfl zJ.out Tryz.underlying30 rfl zH) rfl ?_
   exact⟨ug zP.out,yO.out⟩
 have p5:((op:Int)==5)=false:=by simp [o5]
 by_cases o6:op=6
 ·have jg:Hid ((6:Int)=x.op):=by rw [Hid, <-xH.out,o6]
  clear xH
  have xH:=jg
  clear jg
  have p6:((op:Int)==6)=true:=by simp [o6]
  clear o6
  as_aux_lemma=>
   go_upto_region 30 with fail
   have z1:=ze yS.out.instr 1
   refine wp_region_still_tail 6 (by kernel_rfl) (by kernel_rfl) ?_
   simp only [List.take_succ_cons,List.take_zero,List.drop_succ_cons,List.drop_zero]
   repeat still_step
   try refine wpStill_nil ?_
   change wpList _ _ _ _ _ X4.drew
   obtain⟨X15,zuR⟩:∃wd,wd=X4.drew:=⟨_,rfl⟩
   rw [<-zuR]
   have z1N:Hid (Below X4.heap.size X4 X15):=by rw [Hid,zuR];exact(Below.refl _ _).drew
   clear zuR
   have zsp:=qh (yS.out.below z1N.out)
   clear z1
   obtain⟨u0,v0⟩:=zsp.out.bC HL1.out bD.out bE.out (1+wB) (.int .i64 ([r0,r1,r2,r3].getD wB 0)) (by omega) (zen zb4)
   rw [<-Nat.add_assoc] at u0 v0
   have hw16:=zsp.out.set HL1.out (k:=1+wB) (by omega) (t':=⟨(qO:Int)+1,([r0,r1,r2,r3].set wB 0),bf⟩) (u:=(.int .i64 0)) bD.out bE.out (zbO zb4) (by simp) rfl
   rw [<-Nat.add_assoc] at hw16
   have zuS:=qh hw16
   clear hw16
   go_upto_region 31 with fail
   clear u0 v0
   generalize World.setCell X15 _ _=X16 at zuS ⊢
   obtain⟨z0M,z0N,z0O,z0P⟩:=zuS.out
   have zaM:=qh z0M
   have zw2:=qh z0N
   have zw3:=qh z0O
   have z0Q:=qh z0P
   clear z0M z0N z0O z0P zuS
   obtain⟨nv,hnv⟩:∃nv,nv=mem.getD vY 0:=⟨_,rfl⟩
   obtain⟨sb,so,hsa, -,hsc⟩:=xJ.part zej.out vY (by rw [<-vw.out];omega)
   subst hsa
   rw [<-hnv] at hsc
   have HNV:=qh hnv
   clear hnv
   have s1:=zi zaM.out.own.below _ _ hsc
   have c6:=(xS.out _ zaM.out.own.below).2.2.2.2.2.2.1
   have uH:(vY:Int)<(mn:Int):=by omega
   have z2:=ze zaM.out.instr 2
   by_cases ha0:nv=A
   rotate_left
   ·have ha1:((nv:Int)==A)=false:=by simp [ha0]
    have HA0:=qh ha0
    clear ha0
    go_upto_region 34 with fail
    clear z2 s1 c6 hsc uH ha1
    cases em with
    |true=>
     have hb0:bf.length=0:=by rw [<-qQ.out];exact of_decide_eq_true HEM.out.symm
     have HB0:=qh hb0
     clear hb0
     have hres:R=some ⟨ts.set i ⟨(qO:Int)+1, [r0,r1,r2,r3].set wB 0,bf⟩,mem,bad⟩:=by
      rw [jN.out,bJ xH.out.symm (by rw [<-HVR.out, <-HA.out];exact λe=>HA0.out (HNV.out.trans e)),if_pos HB0.out]
      simp only [Option.map_some]
      rw [<-HRG.out]
      rfl
     have zP:=qh hres
     clear hres
     have yV:=zaM.out
     rw [HSS.out] at yV
     have yP:=qh yV
     clear yV
     obtain⟨⟨a0,a1,a2⟩,⟨q0,q1,q2⟩,⟨f0,f1,f2⟩,hset,hsn,hbe⟩:=yJ.out X16 bad yP.out.own.box yP.out.own.below
     have zJ:=qh hset
     have xP:=qh hsn
     have yO:=qh hbe
     clear hset hsn hbe
     go_wp2_with fail
     (try simp only [Exit.inBlock,Exit.then])
     refine bodyPost_ret (zy rfl _ _ (gx+3) 30 _ (0,0) _ rfl zJ.out Tryz.underlying30 rfl zH) rfl ?_
     exact⟨qM zP.out (uh.out _ _ _ _ _ _ _ yP.out xP.out),yO.out⟩
    |false=>
    have hb0:¬bf.length=0:=by rw [<-qQ.out];exact of_decide_eq_false HEM.out.symm
    have HB0:=qh hb0
    clear hb0
    have hres:R=none:=by
     rw [jN.out,bJ xH.out.symm (by rw [<-HVR.out, <-HA.out];exact λe=>HA0.out (HNV.out.trans e)),if_neg HB0.out]
     rfl
    have zP:=qh hres
    clear hres
    have yV:=zaM.out
    have yP:=qh yV
    clear yV
    obtain⟨⟨a0,a1,a2⟩,⟨q0,q1,q2⟩,⟨f0,f1,f2⟩,hset,hsn,hbe⟩:=yJ.out X16 bad yP.out.own.box yP.out.own.below
    have zJ:=qh hset
    have xP:=qh hsn
    have yO:=qh hbe
    clear hset hsn hbe
    go_wp2_with fail
    (try simp only [Exit.inBlock,Exit.then])
    refine bodyPost_ret (zy rfl _ _ (gx+3) 30 _ (0,0) _ rfl zJ.out Tryz.underlying30 rfl zH) rfl ?_
    exact⟨ug zP.out,yO.out⟩
   have ha1:((nv:Int)==A)=true:=by simp [ha0]
   have HA0:=qh ha0
   clear ha0
   go_upto_region 32 with fail
   clear z2 s1 c6 hsc uH ha1
   go_upto_region 32 with fail
   have z2:=ze zaM.out.instr 2
   have hbx:=zaM.out.own.box
   have g1:=ze hbx 1
   clear hbx
   have hml:vY<mem.length:=by rw [<-vw.out];omega
   obtain⟨m0,m1⟩:=zaM.out.zkf hml
   have uH:(vY:Int)<(mn:Int):=by omega
   have zmc:=qh (zaM.out.mem vY B)
   clear hml
   go_upto_region 33 with fail
   clear z2 g1 m0 m1 uH
   generalize World.setCell X16 _ _=X17 at zmc ⊢
   go_upto_region 33 with fail
   have z1:=ze zmc.out.instr 1
   refine wp_region_still_tail 6 (by kernel_rfl) (by kernel_rfl) ?_
   simp only [List.take_succ_cons,List.take_zero,List.drop_succ_cons,List.drop_zero]
   repeat still_step
   try refine wpStill_nil ?_
   change wpList _ _ _ _ _ X17.drew
   obtain⟨X18,zuT⟩:∃wd,wd=X17.drew:=⟨_,rfl⟩
   rw [<-zuT]
   have z1O:Hid (Below X17.heap.size X17 X18):=by rw [Hid,zuT];exact(Below.refl _ _).drew
   clear zuT
   have zsq:=qh (zmc.out.below z1O.out)
   clear z1
   obtain⟨u0,v0⟩:=zsq.out.bC z0Q.out zw2.out zw3.out (1+wB) (.int .i64 ([0,0,0,0].getD wB 0)) (by omega) (zsd zb4)
   rw [<-Nat.add_assoc] at u0 v0
   have zuU:=zsq.out.set z0Q.out (k:=1+wB) (by omega) (t':=⟨(qO:Int)+1,([r0,r1,r2,r3].set wB 1),bf⟩) (u:=(.int .i64 1)) zw2.out zw3.out (zmI zb4) (by simp) rfl
   rw [<-Nat.add_assoc] at zuU
   have zuV:=qh zuU
   clear zuU
   go_upto_region 34 with fail
   clear u0 v0
   generalize World.setCell X18 _ _=X19 at zuV ⊢
   obtain⟨z0R,z0S,z0T,z0U⟩:=zuV.out
   have zsr:=qh z0R
   have z8y:=qh z0S
   have z8z:=qh z0T
   have z9r:=qh z0U
   clear z0R z0S z0T z0U zuV
   cases em with
   |true=>
    have hb0:bf.length=0:=by rw [<-qQ.out];exact of_decide_eq_true HEM.out.symm
    have HB0:=qh hb0
    clear hb0
    have hres:R=some ⟨ts.set i ⟨(qO:Int)+1, [r0,r1,r2,r3].set wB 1,bf⟩,(mem.set vY B),bad⟩:=by
     rw [jN.out,bI xH.out.symm (by rw [<-HVR.out, <-HA.out, <-HA0.out,HNV.out];rfl),if_pos HB0.out]
     simp only [Option.map_some]
     rw [<-HVR.out, <-yO.out, <-HRG.out]
     rfl
    have zP:=qh hres
    clear hres
    have yV:=zsr.out
    rw [List.set_set,HSS.out] at yV
    have yP:=qh yV
    clear yV
    obtain⟨⟨a0,a1,a2⟩,⟨q0,q1,q2⟩,⟨f0,f1,f2⟩,hset,hsn,hbe⟩:=yJ.out X19 bad yP.out.own.box yP.out.own.below
    have zJ:=qh hset
    have xP:=qh hsn
    have yO:=qh hbe
    clear hset hsn hbe
    go_wp2_with fail
    (try simp only [Exit.inBlock,Exit.then])
    refine bodyPost_ret (zy rfl _ _ (gx+3) 30 _ (0,0) _ rfl zJ.out Tryz.underlying30 rfl zH) rfl ?_
    exact⟨qM zP.out (uh.out _ _ _ _ _ _ _ yP.out xP.out),yO.out⟩
   |false=>
   have hb0:¬bf.length=0:=by rw [<-qQ.out];exact of_decide_eq_false HEM.out.symm
   have HB0:=qh hb0
   clear hb0
   have hres:R=none:=by
    rw [jN.out,bI xH.out.symm (by rw [<-HVR.out, <-HA.out, <-HA0.out,HNV.out];rfl),if_neg HB0.out]
    rfl
   have zP:=qh hres
   clear hres
   have yV:=zsr.out
   have yP:=qh yV
   clear yV
   obtain⟨⟨a0,a1,a2⟩,⟨q0,q1,q2⟩,⟨f0,f1,f2⟩,hset,hsn,hbe⟩:=yJ.out X19 bad yP.out.own.box yP.out.own.below
   have zJ:=qh hset
   have xP:=qh hsn
   have yO:=qh hbe
   clear hset hsn hbe
   go_wp2_with fail
   (try simp only [Exit.inBlock,Exit.then])
   refine bodyPost_ret (zy rfl _ _ (gx+3) 30 _ (0,0) _ rfl zJ.out Tryz.underlying30 rfl zH) rfl ?_
   exact⟨ug zP.out,yO.out⟩
 have p6:((op:Int)==6)=false:=by simp [o6]
 by_cases o7:op=7
 ·have jg:Hid ((7:Int)=x.op):=by rw [Hid, <-xH.out,o7]
  clear xH
  have xH:=jg
  clear jg
  have p7:((op:Int)==7)=true:=by simp [o7]
  clear o7
  as_aux_lemma=>
   obtain⟨nv,hnv⟩:∃nv,nv=mem.getD vY 0:=⟨_,rfl⟩
   obtain⟨sb,so,hsa,hsb,hsc⟩:=xJ.part zej.out vY (by rw [<-vw.out];omega)
   subst hsa
   rw [<-hnv] at hsc
   have HNV:=qh hnv
   have HSC:=qh hsc
   clear hnv hsc hsb
   obtain⟨sb2,so2,he2,z5B, -⟩:=xJ.part z5r.out vY (by rw [<-vw.out];omega)
   cases he2
   have HSG:Hid (¬sb=gx+3):=λe=>by have:=yU.out;omega
   clear z5B
   go_upto_region 36 with fail
   have z2:=ze yS.out.instr 2
   have hbx:=yS.out.own.box
   have g1:=ze hbx 1
   clear hbx
   have hml:vY<mem.length:=by rw [<-vw.out];omega
   obtain⟨m0,m1⟩:=yS.out.zkf hml
   have uH:(vY:Int)<(mn:Int):=by omega
   have zaN:=qh (yS.out.mem vY 1)
   clear hml
   go_upto_region 37 with fail
   clear z2 g1 m0 m1 uH
   generalize World.setCell X4 _ _=X20 at zaN ⊢
   have uH:(vY:Int)<(mn:Int):=by omega
   have CZ:Hid (∀y,Since (λk=>k=gx+3) X20 y->y.cell? ⟨gb,0,none⟩=some (.slice (some ⟨tb,0,none⟩) n xc)/\y.cell? ⟨gb,1,none⟩=some (.slice (some ⟨mb,0,none⟩) mn yc)/\y.cell? ⟨gb,2,none⟩=some (.bool bad)/\y.cell? ⟨gx+2,1,none⟩=some (.slice (some ⟨sb,so,none⟩) mn vW)/\y.cell? ⟨gi,2,none⟩=some (.int .i64 vY)/\y.cell? ⟨sb,so+vY,none⟩=some (.int .i64 nv)):=λy hy=>by
    have h1:=zaN.out.own.box
    have hlo:=zaN.out.own.lo
    have hlt:=zx H4.out
    have h2:=(hy.block _ (zx h1) (by omega)).trans h1
    have h3:=(zaN.out.own.below.block _ (zx H3.out)).trans H3.out
    have h4:=(hy.block _ (zx h3) (by omega)).trans h3
    have h5:=zaN.out.instr
    have h6:=(hy.block _ (zx h5) HGI.out).trans h5
    have h7:=zi zaN.out.own.below _ _ HSC.out
    have h8:=(hy.cell (p:=⟨sb,so+vY,none⟩) (World.block_lt_of_cell? _ _ h7) HSG.out).trans h7
    exact⟨ze h2 0,ze h2 1,ze h2 2,ze h4 1,ze h6 2,h8⟩
   cases em with
   |true=>
    have hb0:bf.length=0:=by rw [<-qQ.out];exact of_decide_eq_true HEM.out.symm
    have HB0:=qh hb0
    clear hb0
    by_cases ha0:nv=0
    rotate_left
    ·have ha1:((nv:Int)==0)=false:=by simp [ha0]
     have HA0:=qh ha0
     clear ha0
     have hres:R=none:=by
      rw [jN.out,gV xH.out.symm]
      rw [if_neg (λh=>HA0.out (by have:=h.2;rw [<-HVR.out] at this;exact HNV.out.trans this))]
      rfl
     have zP:=qh hres
     clear hres
     have yV:=zaN.out
     have yP:=qh yV
     clear yV
     refine vV (S:=λy=>Since (λk=>k=gx+3) X20 y) (Since.refl _ _).drew (λ_=> ?_)
     obtain⟨wd,hwd⟩:∃wd,wd=X20.drew:=⟨_,rfl⟩
     rw [<-hwd]
     have HFX:=yJ.out wd bad (by rw [hwd];exact yP.out.own.box) (by rw [hwd];exact yP.out.own.below.drew)
     have xE:Hid (Since (λk=>k=gx+3) X20 wd):=by rw [Hid,hwd];exact(Since.refl _ _).drew
     clear hwd
     refine zD 0 CZ.out (xE.out) ?_
     refine zD 1 zQ (xE.out) ?_
     refine zD 2 zQ (xE.out) ?_
     refine zD 3 zQ (xE.out) ?_
     refine zD 4 CZ.out (xE.out) ?_
     refine zD 5 zQ (xE.out) ?_
     refine zD 6 CZ.out (xE.out) ?_
     refine zD 7 zQ (xE.out) ?_
     refine zD 8 CZ.out (xE.out) ?_
     refine zD 9 zQ (xE.out) ?_
     refine zD 10 zQ (xE.out) ?_
     refine yA 11 rfl (λK hK=> ?_)
     obtain⟨-,⟨q0,q1,q2⟩,⟨f0,f1,f2⟩,hset,hsn,hbe⟩:=HFX
     have zJ:=qh hset
     have xP:=qh hsn
     have yO:=qh hbe
     clear hset hsn hbe
     go_simp
     refine hK.out _ _ (xE.out.trans xP.out (λ_ h=> .inl h)) (λ_=> ?_)
     clear hK K
     refine zD 12 zQ ((xE.out.trans xP.out (λ_ h=> .inl h))) ?_
     refine xQ ?_
     go_wp2_with fail
     (try simp only [Exit.inBlock,Exit.then])
     refine bodyPost_ret (zy rfl _ _ (gx+3) 30 _ (0,0) _ rfl zJ.out Tryz.underlying30 rfl zH) rfl ?_
     exact⟨ug zP.out,yO.out⟩
    have ha1:((nv:Int)==0)=true:=by simp [ha0]
    have HA0:=qh ha0
    clear ha0
    have hres:R=some ⟨ts1,(mem.set vY 1),bad⟩:=by
     rw [jN.out,gV xH.out.symm]
     rw [if_pos ⟨HB0.out,by rw [<-HVR.out];exact HNV.out.symm.trans HA0.out⟩]
     simp only [Option.map_some]
     rw [<-HVR.out,HT1.out]
     rfl
    have zP:=qh hres
    clear hres
    have yV:=zaN.out
    have yP:=qh yV
    clear yV
    refine vV (S:=λy=>Since (λk=>k=gx+3) X20 y) (Since.refl _ _).drew (λ_=> ?_)
    obtain⟨wd,hwd⟩:∃wd,wd=X20.drew:=⟨_,rfl⟩
    rw [<-hwd]
    have HFX:=yJ.out wd bad (by rw [hwd];exact yP.out.own.box) (by rw [hwd];exact yP.out.own.below.drew)
    have xE:Hid (Since (λk=>k=gx+3) X20 wd):=by rw [Hid,hwd];exact(Since.refl _ _).drew
    clear hwd
    refine zD 0 CZ.out (xE.out) ?_
    refine zD 1 zQ (xE.out) ?_
    refine zD 2 zQ (xE.out) ?_
    refine zD 3 zQ (xE.out) ?_
    refine zD 4 CZ.out (xE.out) ?_
    refine zD 5 zQ (xE.out) ?_
    refine zD 6 CZ.out (xE.out) ?_
    refine zD 7 zQ (xE.out) ?_
    refine zD 8 CZ.out (xE.out) ?_
    refine zD 9 zQ (xE.out) ?_
    refine zD 10 zQ (xE.out) ?_
    refine yA 11 rfl (λK hK=> ?_)
    obtain⟨-,⟨q0,q1,q2⟩,⟨f0,f1,f2⟩,hset,hsn,hbe⟩:=HFX
    have zJ:=qh hset
    have xP:=qh hsn
    have yO:=qh hbe
    clear hset hsn hbe
    go_simp
    refine hK.out _ _ (xE.out.trans xP.out (λ_ h=> .inl h)) (λ_=> ?_)
    clear hK K
    refine zD 12 zQ ((xE.out.trans xP.out (λ_ h=> .inl h))) ?_
    refine xQ ?_
    go_wp2_with fail
    (try simp only [Exit.inBlock,Exit.then])
    refine bodyPost_ret (zy rfl _ _ (gx+3) 30 _ (0,0) _ rfl zJ.out Tryz.underlying30 rfl zH) rfl ?_
    exact⟨qM zP.out (uh.out _ _ _ _ _ _ _ yP.out (xE.out.trans xP.out (λ_ h=> .inl h))),yO.out⟩
   |false=>
   have hb0:¬bf.length=0:=by rw [<-qQ.out];exact of_decide_eq_false HEM.out.symm
   have HB0:=qh hb0
   clear hb0
   have hres:R=none:=by
    rw [jN.out,gV xH.out.symm]
    rw [if_neg (λh=>HB0.out h.1)]
    rfl
   have zP:=qh hres
   clear hres
   have yV:=zaN.out
   have yP:=qh yV
   clear yV
   refine vV (S:=λy=>Since (λk=>k=gx+3) X20 y) (Since.refl _ _).drew (λ_=> ?_)
   obtain⟨wd,hwd⟩:∃wd,wd=X20.drew:=⟨_,rfl⟩
   rw [<-hwd]
   have HFX:=yJ.out wd bad (by rw [hwd];exact yP.out.own.box) (by rw [hwd];exact yP.out.own.below.drew)
   have xE:Hid (Since (λk=>k=gx+3) X20 wd):=by rw [Hid,hwd];exact(Since.refl _ _).drew
   clear hwd
   refine zD 0 CZ.out (xE.out) ?_
   refine zD 1 zQ (xE.out) ?_
   refine zD 2 zQ (xE.out) ?_
   refine wpAnyH_take (i:=3) (v:=undef) rfl (by kernel_rfl) (by kernel_rfl) (by kernel_rfl) (λ_ _ _ h=>h) (Or.inr ⟨by rfl,rfl⟩) (xE.out) ?_
   change wpAnyH _ _ _ _ _ _ _ (Act.put _ (some 202) _) _
   simp only [Act.put,kD]
   try simp only [kE,kF]
   refine wpAnyH_take (i:=4) (v:=undef) rfl (by kernel_rfl) (by kernel_rfl) (by kernel_rfl) (λ_ _ _ h=>h) (Or.inr ⟨by rfl,rfl⟩) (xE.out) ?_
   change wpAnyH _ _ _ _ _ _ _ (Act.put _ (some 203) _) _
   simp only [Act.put,kD]
   try simp only [kE,kF]
   refine wpAnyH_take (i:=5) (v:=undef) rfl (by kernel_rfl) (by kernel_rfl) (by kernel_rfl) (λ_ _ _ h=>h) (Or.inr ⟨by rfl,rfl⟩) (xE.out) ?_
   change wpAnyH _ _ _ _ _ _ _ (Act.put _ (some 204) _) _
   simp only [Act.put,kD]
   try simp only [kE,kF]
   refine wpAnyH_take (i:=6) (v:=undef) rfl (by kernel_rfl) (by kernel_rfl) (by kernel_rfl) (λ_ _ _ h=>h) (Or.inr ⟨by rfl,rfl⟩) (xE.out) ?_
   change wpAnyH _ _ _ _ _ _ _ (Act.put _ (some 205) _) _
   simp only [Act.put,kD]
   try simp only [kE,kF]
   refine wpAnyH_take (i:=7) (v:=undef) rfl (by kernel_rfl) (by kernel_rfl) (by kernel_rfl) (λ_ _ _ h=>h) (Or.inr ⟨by rfl,rfl⟩) (xE.out) ?_
   change wpAnyH _ _ _ _ _ _ _ (Act.put _ (some 206) _) _
   simp only [Act.put,kD]
   try simp only [kE,kF]
   refine wpAnyH_take (i:=8) (v:=undef) rfl (by kernel_rfl) (by kernel_rfl) (by kernel_rfl) (λ_ _ _ h=>h) (Or.inr ⟨by rfl,rfl⟩) (xE.out) ?_
   change wpAnyH _ _ _ _ _ _ _ (Act.put _ (some 207) _) _
   simp only [Act.put,kD]
   try simp only [kE,kF]
   refine wpAnyH_take (i:=9) (v:=undef) rfl (by kernel_rfl) (by kernel_rfl) (by kernel_rfl) (λ_ _ _ h=>h) (Or.inr ⟨by rfl,rfl⟩) (xE.out) ?_
   change wpAnyH _ _ _ _ _ _ _ (Act.put _ (some 208) _) _
   simp only [Act.put,kD]
   try simp only [kE,kF]
   refine zD 10 zQ (xE.out) ?_
   refine yA 11 rfl (λK hK=> ?_)
   obtain⟨-,⟨q0,q1,q2⟩,⟨f0,f1,f2⟩,hset,hsn,hbe⟩:=HFX
   have zJ:=qh hset
   have xP:=qh hsn
   have yO:=qh hbe
   clear hset hsn hbe
   go_simp
   refine hK.out _ _ (xE.out.trans xP.out (λ_ h=> .inl h)) (λ_=> ?_)
   clear hK K
   refine zD 12 zQ ((xE.out.trans xP.out (λ_ h=> .inl h))) ?_
   refine xQ ?_
   go_wp2_with fail
   (try simp only [Exit.inBlock,Exit.then])
   refine bodyPost_ret (zy rfl _ _ (gx+3) 30 _ (0,0) _ rfl zJ.out Tryz.underlying30 rfl zH) rfl ?_
   exact⟨ug zP.out,yO.out⟩
 have p7:((op:Int)==7)=false:=by simp [o7]
 by_cases o8:op=8
 ·have jg:Hid ((8:Int)=x.op):=by rw [Hid, <-xH.out,o8]
  clear xH
  have xH:=jg
  clear jg
  have p8:((op:Int)==8)=true:=by simp [o8]
  clear o8
  as_aux_lemma=>
   go_upto_region 39 with fail
   have z2:=ze yS.out.instr 2
   have hbx:=yS.out.own.box
   have g1:=ze hbx 1
   clear hbx
   have hml:vY<mem.length:=by rw [<-vw.out];omega
   obtain⟨m0,m1⟩:=yS.out.zkf hml
   have uH:(vY:Int)<(mn:Int):=by omega
   have zmd:=qh (yS.out.mem vY 0)
   clear hml
   go_upto_region 40 with fail
   clear z2 g1 m0 m1 uH
   generalize World.setCell X4 _ _=X24 at zmd ⊢
   cases em with
   |true=>
    have hb0:bf.length=0:=by rw [<-qQ.out];exact of_decide_eq_true HEM.out.symm
    have HB0:=qh hb0
    clear hb0
    have hres:R=some ⟨ts1,(mem.set vY 0),bad⟩:=by
     rw [jN.out,wX xH.out.symm]
     rw [if_pos HB0.out]
     simp only [Option.map_some]
     rw [<-HVR.out,HT1.out]
     rfl
    have zP:=qh hres
    clear hres
    have yV:=zmd.out
    have yP:=qh yV
    clear yV
    obtain⟨⟨a0,a1,a2⟩,⟨q0,q1,q2⟩,⟨f0,f1,f2⟩,hset,hsn,hbe⟩:=yJ.out X24 bad yP.out.own.box yP.out.own.below
    have zJ:=qh hset
    have xP:=qh hsn
    have yO:=qh hbe
    clear hset hsn hbe
    go_wp2_with fail
    (try simp only [Exit.inBlock,Exit.then])
    refine bodyPost_ret (zy rfl _ _ (gx+3) 30 _ (0,0) _ rfl zJ.out Tryz.underlying30 rfl zH) rfl ?_
    exact⟨qM zP.out (uh.out _ _ _ _ _ _ _ yP.out xP.out),yO.out⟩
   |false=>
   have hb0:¬bf.length=0:=by rw [<-qQ.out];exact of_decide_eq_false HEM.out.symm
   have HB0:=qh hb0
   clear hb0
   have hres:R=none:=by
    rw [jN.out,wX xH.out.symm]
    rw [if_neg HB0.out]
    rfl
   have zP:=qh hres
   clear hres
   have yV:=zmd.out
   have yP:=qh yV
   clear yV
   obtain⟨⟨a0,a1,a2⟩,⟨q0,q1,q2⟩,⟨f0,f1,f2⟩,hset,hsn,hbe⟩:=yJ.out X24 bad yP.out.own.box yP.out.own.below
   have zJ:=qh hset
   have xP:=qh hsn
   have yO:=qh hbe
   clear hset hsn hbe
   go_wp2_with fail
   (try simp only [Exit.inBlock,Exit.then])
   refine bodyPost_ret (zy rfl _ _ (gx+3) 30 _ (0,0) _ rfl zJ.out Tryz.underlying30 rfl zH) rfl ?_
   exact⟨ug zP.out,yO.out⟩
 have p8:((op:Int)==8)=false:=by simp [o8]
 by_cases o9:op=9
 ·have jg:Hid ((9:Int)=x.op):=by rw [Hid, <-xH.out,o9]
  clear xH
  have xH:=jg
  clear jg
  have p9:((op:Int)==9)=true:=by simp [o9]
  clear o9
  as_aux_lemma=>
   go_upto_region 42 with fail
   have hbx:=yS.out.own.box
   have g2:=ze hbx 2
   have h2:=zB hbx 2
   clear hbx
   cases bad with
   |true=>
    have zss:=qh (yS.out.isBad true)
    go_upto_region 48 with fail
    clear g2 h2
    generalize World.setCell X4 _ _=X25 at zss ⊢
    have hres:R=some ⟨ts1,mem,true⟩:=by
     rw [jN.out,kS xH.out.symm]
     rw [HT1.out]
     rfl
    have zP:=qh hres
    clear hres
    have yV:=zss.out
    have yP:=qh yV
    clear yV
    obtain⟨⟨a0,a1,a2⟩,⟨q0,q1,q2⟩,⟨f0,f1,f2⟩,hset,hsn,hbe⟩:=yJ.out X25 true yP.out.own.box yP.out.own.below
    have zJ:=qh hset
    have xP:=qh hsn
    have yO:=qh hbe
    clear hset hsn hbe
    go_wp2_with fail
    (try simp only [Exit.inBlock,Exit.then])
    refine bodyPost_ret (zy rfl _ _ (gx+3) 30 _ (0,0) _ rfl zJ.out Tryz.underlying30 rfl zH) rfl ?_
    exact⟨qM zP.out (uh.out _ _ _ _ _ _ _ yP.out xP.out),yO.out⟩
   |false=>
   by_cases ha0:A=0
   rotate_left
   ·have ha1:((A:Int)==0)=false:=by simp [ha0]
    have HA0:=qh ha0
    clear ha0
    have zst:=qh (yS.out.isBad false)
    go_upto_region 48 with fail
    clear g2 h2
    generalize World.setCell X4 _ _=X27 at zst ⊢
    have hres:R=some ⟨ts1,mem,false⟩:=by
     rw [jN.out,kS xH.out.symm]
     rw [HT1.out, <-HA.out,decide_eq_false HA0.out]
     rfl
    have zP:=qh hres
    clear hres
    have yV:=zst.out
    have yP:=qh yV
    clear yV
    obtain⟨⟨a0,a1,a2⟩,⟨q0,q1,q2⟩,⟨f0,f1,f2⟩,hset,hsn,hbe⟩:=yJ.out X27 false yP.out.own.box yP.out.own.below
    have zJ:=qh hset
    have xP:=qh hsn
    have yO:=qh hbe
    clear hset hsn hbe
    go_wp2_with fail
    (try simp only [Exit.inBlock,Exit.then])
    refine bodyPost_ret (zy rfl _ _ (gx+3) 30 _ (0,0) _ rfl zJ.out Tryz.underlying30 rfl zH) rfl ?_
    exact⟨qM zP.out (uh.out _ _ _ _ _ _ _ yP.out xP.out),yO.out⟩
   have ha1:((A:Int)==0)=true:=by simp [ha0]
   have HA0:=qh ha0
   clear ha0
   have zsu:=qh (yS.out.isBad true)
   go_upto_region 48 with fail
   clear g2 h2
   generalize World.setCell X4 _ _=X26 at zsu ⊢
   have hres:R=some ⟨ts1,mem,true⟩:=by
    rw [jN.out,kS xH.out.symm]
    rw [HT1.out, <-HA.out,decide_eq_true HA0.out]
    rfl
   have zP:=qh hres
   clear hres
   have yV:=zsu.out
   have yP:=qh yV
   clear yV
   obtain⟨⟨a0,a1,a2⟩,⟨q0,q1,q2⟩,⟨f0,f1,f2⟩,hset,hsn,hbe⟩:=yJ.out X26 true yP.out.own.box yP.out.own.below
   have zJ:=qh hset
   have xP:=qh hsn
   have yO:=qh hbe
   clear hset hsn hbe
   go_wp2_with fail
   (try simp only [Exit.inBlock,Exit.then])
   refine bodyPost_ret (zy rfl _ _ (gx+3) 30 _ (0,0) _ rfl zJ.out Tryz.underlying30 rfl zH) rfl ?_
   exact⟨qM zP.out (uh.out _ _ _ _ _ _ _ yP.out xP.out),yO.out⟩
 have p9:((op:Int)==9)=false:=by simp [o9]
 by_cases o12:op=12
 rotate_left
 ·have p12:((op:Int)==12)=false:=by simp [o12]
  by_cases o13:op=13
  rotate_left
  ·have p13:((op:Int)==13)=false:=by simp [o13]
   as_aux_lemma=>
    go_upto_region 48 with fail
    have hres:R=some ⟨ts1,mem,bad⟩:=by
     rw [jN.out,zaZ (by rw [<-xH.out];exact o1) (by rw [<-xH.out];exact o2) (by rw [<-xH.out];exact o3) (by rw [<-xH.out];exact o4) (by rw [<-xH.out];exact o5) (by rw [<-xH.out];exact o6) (by rw [<-xH.out];exact o7) (by rw [<-xH.out];exact o8) (by rw [<-xH.out];exact o9) (by rw [<-xH.out];exact o12) (by rw [<-xH.out];exact o13),HT1.out]
     rfl
    have zP:=qh hres
    clear hres
    have yV:=yS.out
    have yP:=qh yV
    clear yV
    obtain⟨⟨a0,a1,a2⟩,⟨q0,q1,q2⟩,⟨f0,f1,f2⟩,hset,hsn,hbe⟩:=yJ.out X4 bad yP.out.own.box yP.out.own.below
    have zJ:=qh hset
    have xP:=qh hsn
    have yO:=qh hbe
    clear hset hsn hbe
    go_wp2_with fail
    (try simp only [Exit.inBlock,Exit.then])
    refine bodyPost_ret (zy rfl _ _ (gx+3) 30 _ (0,0) _ rfl zJ.out Tryz.underlying30 rfl zH) rfl ?_
    exact⟨qM zP.out (uh.out _ _ _ _ _ _ _ yP.out xP.out),yO.out⟩
  have jg:Hid ((13:Int)=x.op):=by rw [Hid, <-xH.out,o13]
  clear xH
  have xH:=jg
  clear jg
  have p13:((op:Int)==13)=true:=by simp [o13]
  clear o13
  as_aux_lemma=>
   go_upto_region 47 with fail
   have z11:=ze yS.out.instr 11
   obtain⟨u0,v0⟩:=yS.out.bC HL1.out bD.out bE.out 0 (.int .i64 ((qO:Int)+1)) (by omega) rfl
   rw [Nat.add_zero] at u0 v0
   have zuW:=yS.out.set HL1.out (k:=0) (by omega) (t':=⟨dst, [r0,r1,r2,r3],bf⟩) (u:=(.int .i64 dst)) bD.out bE.out rfl (by simp) rfl
   rw [Nat.add_zero] at zuW
   have zuX:=qh zuW
   clear zuW
   go_upto_region 48 with fail
   clear u0 v0 z11
   generalize World.setCell X4 _ _=X29 at zuX ⊢
   obtain⟨z0V,z0W,z0X,z0Y⟩:=zuX.out
   have z0Z:=qh z0V
   have z81:=qh z0W
   have z88:=qh z0X
   have z9s:=qh z0Y
   clear z0V z0W z0X z0Y zuX
   have hres:R=some ⟨ts.set i ⟨dst, [r0,r1,r2,r3],bf⟩,mem,bad⟩:=by
    rw [jN.out,zaz xH.out.symm]
    simp only [Option.map_some]
    rw [<-HDS.out]
   have zP:=qh hres
   clear hres
   have yV:=z0Z.out
   rw [HSS.out] at yV
   have yP:=qh yV
   clear yV
   obtain⟨⟨a0,a1,a2⟩,⟨q0,q1,q2⟩,⟨f0,f1,f2⟩,hset,hsn,hbe⟩:=yJ.out X29 bad yP.out.own.box yP.out.own.below
   have zJ:=qh hset
   have xP:=qh hsn
   have yO:=qh hbe
   clear hset hsn hbe
   go_wp2_with fail
   (try simp only [Exit.inBlock,Exit.then])
   refine bodyPost_ret (zy rfl _ _ (gx+3) 30 _ (0,0) _ rfl zJ.out Tryz.underlying30 rfl zH) rfl ?_
   exact⟨qM zP.out (uh.out _ _ _ _ _ _ _ yP.out xP.out),yO.out⟩
 have jg:Hid ((12:Int)=x.op):=by rw [Hid, <-xH.out,o12]
 clear xH
 have xH:=jg
 clear jg
 have p12:((op:Int)==12)=true:=by simp [o12]
 clear o12
 as_aux_lemma=>
  go_upto_region 44 with fail
  by_cases ha0:A=0
  rotate_left
  ·have ha1:((A:Int)==0)=false:=by simp [ha0]
   have HA0:=qh ha0
   clear ha0
   go_upto_region 48 with fail
   clear ha1
   have hres:R=some ⟨ts1,mem,bad⟩:=by
    rw [jN.out,wY xH.out.symm]
    rw [<-HA.out,if_neg HA0.out,HT1.out]
    rfl
   have zP:=qh hres
   clear hres
   have yV:=yS.out
   have yP:=qh yV
   clear yV
   obtain⟨⟨a0,a1,a2⟩,⟨q0,q1,q2⟩,⟨f0,f1,f2⟩,hset,hsn,hbe⟩:=yJ.out X4 bad yP.out.own.box yP.out.own.below
   have zJ:=qh hset
   have xP:=qh hsn
   have yO:=qh hbe
   clear hset hsn hbe
   go_wp2_with fail
   (try simp only [Exit.inBlock,Exit.then])
   refine bodyPost_ret (zy rfl _ _ (gx+3) 30 _ (0,0) _ rfl zJ.out Tryz.underlying30 rfl zH) rfl ?_
   exact⟨qM zP.out (uh.out _ _ _ _ _ _ _ yP.out xP.out),yO.out⟩
  have ha1:((A:Int)==0)=true:=by simp [ha0]
  have HA0:=qh ha0
  clear ha0
  go_upto_region 45 with fail
  clear ha1
  have z11:=ze yS.out.instr 11
  obtain⟨u0,v0⟩:=yS.out.bC HL1.out bD.out bE.out 0 (.int .i64 ((qO:Int)+1)) (by omega) rfl
  rw [Nat.add_zero] at u0 v0
  have zuY:=yS.out.set HL1.out (k:=0) (by omega) (t':=⟨dst, [r0,r1,r2,r3],bf⟩) (u:=(.int .i64 dst)) bD.out bE.out rfl (by simp) rfl
  rw [Nat.add_zero] at zuY
  have zuZ:=qh zuY
  clear zuY
  go_upto_region 48 with fail
  clear u0 v0 z11
  generalize World.setCell X4 _ _=X28 at zuZ ⊢
  obtain⟨z1a,z1b,z1c,z1d⟩:=zuZ.out
  have z1e:=qh z1a
  have z8A:=qh z1b
  have z8B:=qh z1c
  have z9t:=qh z1d
  clear z1a z1b z1c z1d zuZ
  have hres:R=some ⟨ts.set i ⟨dst, [r0,r1,r2,r3],bf⟩,mem,bad⟩:=by
   rw [jN.out,wY xH.out.symm]
   rw [<-HA.out,if_pos HA0.out, <-HDS.out]
   rfl
  have zP:=qh hres
  clear hres
  have yV:=z1e.out
  rw [HSS.out] at yV
  have yP:=qh yV
  clear yV
  obtain⟨⟨a0,a1,a2⟩,⟨q0,q1,q2⟩,⟨f0,f1,f2⟩,hset,hsn,hbe⟩:=yJ.out X28 bad yP.out.own.box yP.out.own.below
  have zJ:=qh hset
  have xP:=qh hsn
  have yO:=qh hbe
  clear hset hsn hbe
  go_wp2_with fail
  (try simp only [Exit.inBlock,Exit.then])
  refine bodyPost_ret (zy rfl _ _ (gx+3) 30 _ (0,0) _ rfl zJ.out Tryz.underlying30 rfl zH) rfl ?_
  exact⟨qM zP.out (uh.out _ _ _ _ _ _ _ yP.out xP.out),yO.out⟩
