/- Steps. -/
import Derived.Test.YtliajkheeniljaaGreatDoorZxOwn
import Derived.Test.YtliajkheeniljaaGreatDoorZxOwnS
set_option linter.all false
namespace Go.Proofs.YtliajkheeniljaaGreatDoor
open Go.RowKit
set_option maxRecDepth 100000
set_option maxHeartbeats 16000000
structure vT (W X:World) (gb gi tb n tc mb mn mc:Nat) (bad:Bool) (ts:List zy) (mem:List Int) (bs:List Value) (wQ:List Value):Prop where
 own:vV W X gb (.slice (some ⟨tb,0,none⟩) n tc) (.slice (some ⟨mb,0,none⟩) mn mc) bad ts mem bs
 instr:X.heap[gi]? =some (.cells wQ.toArray 64 (0,0))
 g1:gi≠gb
 g2:gi≠tb
 g3:gi≠mb
theorem vT.below {W X X':World} {gb gi tb n tc mb mn mc:Nat} {bad:Bool} {ts:List zy} {mem:List Int} {bs wQ:List Value} (h:vT W X gb gi tb n tc mb mn mc bad ts mem bs wQ) (hb:Below X.heap.size X X'):vT W X' gb gi tb n tc mb mn mc bad ts mem bs wQ:=
 ⟨h.own.later hb,(hb.block _ (zx h.instr)).trans h.instr,h.g1,h.g2,h.g3⟩
theorem vT.thread {W X:World} {gb gi tb n tc mb mn mc:Nat} {bad:Bool} {ts:List zy} {mem:List Int} {bs wQ:List Value} (h:vT W X gb gi tb n tc mb mn mc bad ts mem bs wQ) {i k:Nat} (hi:i<ts.length) (hk:k<6) {t:zy} {b u:Value}
  (hc:t.cells b=((ts.getD i default).cells (bs.getD i (.slice none 0 0))).set k u) (hr:t.regs.length=4) (hb:X.ownsRow W.heap.size 50 2 b t.buf.length (zq zo.cells t.buf)) (hn:∀k,b.ownBlock=some k->k≠tb/\k≠mb/\k≠gb)
  (hd:∀k,b.ownBlock=some k->∀j,j<ts.length->j≠i->(bs.getD j (.slice none 0 0)).ownBlock≠some k):
  vT W (X.setCell ⟨tb,i*6+k,none⟩ u) gb gi tb n tc mb mn mc bad (ts.set i t) mem (bs.set i b) wQ:=
 ⟨h.own.thread hi hk hc hr hb (λk hk=>⟨(hn k hk).1,λe=>(hn k hk).2.1 (by simpa [Value.ownBlock] using e.symm),(hn k hk).2.2⟩) hd,(Below.heap_setCell _ _ _ _ h.g2).trans h.instr,h.g1,h.g2,h.g3⟩
theorem vT.mem {W X:World} {gb gi tb n tc mb mn mc:Nat} {bad:Bool} {ts:List zy} {mem:List Int} {bs wQ:List Value} (h:vT W X gb gi tb n tc mb mn mc bad ts mem bs wQ) (j:Nat) (x:Int):
  vT W (X.setCell ⟨mb,j,none⟩ (.int .i64 x)) gb gi tb n tc mb mn mc bad ts (mem.set j x) bs wQ:=
 ⟨h.own.mem j x,(Below.heap_setCell _ _ _ _ h.g3).trans h.instr,h.g1,h.g2,h.g3⟩
theorem vT.isBad {W X:World} {gb gi tb n tc mb mn mc:Nat} {bad:Bool} {ts:List zy} {mem:List Int} {bs wQ:List Value} (h:vT W X gb gi tb n tc mb mn mc bad ts mem bs wQ) (b:Bool):
  vT W (X.setCell ⟨gb,2,none⟩ (.bool b)) gb gi tb n tc mb mn mc b ts mem bs wQ:=
 ⟨h.own.isBad b,(Below.heap_setCell _ _ _ _ h.g1).trans h.instr,h.g1,h.g2,h.g3⟩
theorem vT.zpU {W X:World} {gb gi tb n tc mb mn mc:Nat} {bad:Bool} {ts:List zy} {mem:List Int} {bs wQ:List Value} (h:vT W X gb gi tb n tc mb mn mc bad ts mem bs wQ) {i:Nat} (hi:i<ts.length):
  ∀k u,k<6->((ts.getD i default).cells (bs.getD i (.slice none 0 0)))[k]? =some u->X.cell? ⟨tb,i*6+k,none⟩=some u/\X.frozen? ⟨tb,i*6+k,none⟩=false:=by
 obtain⟨tb',tc',e, -,h2⟩:=h.own.threads hi
 cases e
 exact h2
theorem vT.zkD {W X:World} {gb gi tb n tc mb mn mc:Nat} {bad:Bool} {ts:List zy} {mem:List Int} {bs wQ:List Value} (h:vT W X gb gi tb n tc mb mn mc bad ts mem bs wQ) {j:Nat} (hj:j<mem.length):
  X.cell? ⟨mb,j,none⟩=some (.int .i64 (mem.getD j 0))/\X.frozen? ⟨mb,j,none⟩=false:=by
 obtain⟨mb',mc',e, -,h2⟩:=h.own.vars (by omega)
 cases e
 exact h2 j hj
theorem vT.buf {W X:World} {gb gi tb n tc mb mn mc:Nat} {bad:Bool} {ts:List zy} {mem:List Int} {bs wQ:List Value} (h:vT W X gb gi tb n tc mb mn mc bad ts mem bs wQ) {i:Nat} (hi:i<ts.length):
  X.ownsRow W.heap.size 50 2 (bs.getD i (.slice none 0 0)) (ts.getD i default).buf.length (zq zo.cells (ts.getD i default).buf)/\∀k,(bs.getD i (.slice none 0 0)).ownBlock=some k->k≠tb/\k≠mb/\k≠gb:=
 ⟨h.own.own.buf i hi,λk hk=>⟨λe=>(h.own.own.ne i hi k hk).1 (by rw [e];rfl),λe=>(h.own.own.ne i hi k hk).2 (by rw [e];rfl),λe=>h.own.n3 i hi (e ▸ hk)⟩⟩
theorem vT.dist {W X:World} {gb gi tb n tc mb mn mc:Nat} {bad:Bool} {ts:List zy} {mem:List Int} {bs wQ:List Value} (h:vT W X gb gi tb n tc mb mn mc bad ts mem bs wQ) {i:Nat} (hi:i<ts.length):
  ∀k,(bs.getD i (.slice none 0 0)).ownBlock=some k->∀j,j<ts.length->j≠i->(bs.getD j (.slice none 0 0)).ownBlock≠some k:=λk hk j hj hji=>h.own.own.one i j hi hj (λe=>hji e.symm) k hk
theorem vT.set {W X:World} {gb gi tb n tc mb mn mc:Nat} {bad:Bool} {ts:List zy} {mem:List Int} {bs wQ:List Value} (h:vT W X gb gi tb n tc mb mn mc bad ts mem bs wQ) {i k:Nat} (hi:i<ts.length) (hk:k<6) {t t':zy} {b u:Value}
  (ht:ts.getD i default=t) (hbs:bs.getD i (.slice none 0 0)=b) (hc:t'.cells b=(t.cells b).set k u) (hr:t'.regs.length=4) (hbf:t'.buf=t.buf):
  vT W (X.setCell ⟨tb,i*6+k,none⟩ u) gb gi tb n tc mb mn mc bad (ts.set i t') mem (bs.set i b) wQ/\(ts.set i t').getD i default=t'/\(bs.set i b).getD i (.slice none 0 0)=b/\i<(ts.set i t').length:=by
 have hl:=h.own.own.len
 have hB:=h.buf hi
 rw [ht,hbs] at hB
 refine⟨h.thread hi hk (by rw [ht,hbs];exact hc) hr (by rw [hbf];exact hB.1) hB.2 (by have:=h.dist hi;rw [hbs] at this;exact this),by rw [qX hi,if_pos rfl],by rw [qX (by rw [hl];exact hi),if_pos rfl],by rw [List.length_set];exact hi⟩
theorem vT.bR {W X:World} {gb gi tb n tc mb mn mc:Nat} {bad:Bool} {ts:List zy} {mem:List Int} {bs wQ:List Value} (h:vT W X gb gi tb n tc mb mn mc bad ts mem bs wQ) {i:Nat} (hi:i<ts.length) {t:zy} {b:Value}
  (ht:ts.getD i default=t) (hbs:bs.getD i (.slice none 0 0)=b):∀k u,k<6->(t.cells b)[k]? =some u->X.cell? ⟨tb,i*6+k,none⟩=some u/\X.frozen? ⟨tb,i*6+k,none⟩=false:=by
 have:=h.zpU hi
 rw [ht,hbs] at this
 exact this
theorem zbX {pc r0 r1 r2 r3 v:Int} {bf:List zo} {b:Value} {k:Nat} (hk:k<4):(⟨pc, [r0,r1,r2,r3].set k v,bf⟩:zy).cells b=((⟨pc, [r0,r1,r2,r3],bf⟩:zy).cells b).set (1+k) (.int .i64 v):=by
 have:k=0\/k=1\/k=2\/k=3:=by omega
 rcases this with rfl|rfl|rfl|rfl<;>rfl
theorem ze5 {pc r0 r1 r2 r3:Int} {bf:List zo} {b:Value} {k:Nat} (hk:k<4):((⟨pc, [r0,r1,r2,r3],bf⟩:zy).cells b)[1+k]? =some (.int .i64 ([r0,r1,r2,r3].getD k 0)):=by
 have:k=0\/k=1\/k=2\/k=3:=by omega
 rcases this with rfl|rfl|rfl|rfl<;>rfl
theorem zs8 {pc r0 r1 r2 r3:Int} {bf:List zo} {b:Value} {k:Nat} (hk:k<4):((⟨pc, [r0,r1,r2,r3].set k 0,bf⟩:zy).cells b)[1+k]? =some (.int .i64 ([0,0,0,0].getD k 0)):=by
 have:k=0\/k=1\/k=2\/k=3:=by omega
 rcases this with rfl|rfl|rfl|rfl<;>rfl
theorem zns {pc r0 r1 r2 r3:Int} {bf:List zo} {b:Value} {k:Nat} (hk:k<4):(⟨pc, [r0,r1,r2,r3].set k 1,bf⟩:zy).cells b=((⟨pc, [r0,r1,r2,r3].set k 0,bf⟩:zy).cells b).set (1+k) (.int .i64 1):=by
 have:k=0\/k=1\/k=2\/k=3:=by omega
 rcases this with rfl|rfl|rfl|rfl<;>rfl
theorem uz {R:Option zk} {xa ya:Option Addr} {xn xc yn yc B:Nat} {b:Bool} {X:World} (h:R=none):∃xa' xn' xc' ya' yn' yc' s',Ending.returned (.tuple #[.agg #[.slice xa xn xc, .slice ya yn yc, .bool b], .bool false])= .returned (.tuple #[yF s' (.slice xa' xn' xc') (.slice ya' yn' yc'), .bool R.isSome])/\∀t,R=some t->s'=t/\∃bs,OwnAt B X (.slice xa' xn' xc') (.slice ya' yn' yc') t.threads t.mem bs:=
 ⟨xa,xn,xc,ya,yn,yc,⟨[], [],b⟩,by rw [h];rfl,λt e=>by rw [h] at e;cases e⟩
theorem qR {R:Option zk} {xa ya:Option Addr} {xn xc yn yc B:Nat} {s:zk} {bs:List Value} {X:World} (h:R=some s) (hs:OwnAt B X (.slice xa xn xc) (.slice ya yn yc) s.threads s.mem bs):∃xa' xn' xc' ya' yn' yc' s',Ending.returned (.tuple #[.agg #[.slice xa xn xc, .slice ya yn yc, .bool s.bad], .bool true])= .returned (.tuple #[yF s' (.slice xa' xn' xc') (.slice ya' yn' yc'), .bool R.isSome])/\∀t,R=some t->s'=t/\∃bs,OwnAt B X (.slice xa' xn' xc') (.slice ya' yn' yc') t.threads t.mem bs:=
 ⟨xa,xn,xc,ya,yn,yc,s,by rw [h];rfl,λt e=>by rw [h] at e;cases e;exact⟨rfl,bs,hs⟩⟩
theorem wz.zyp {e t:TypeId} {size:Nat} {V X:World} {v:Value} {n:Nat} {xs:List Value} {bs:List (Nat × List Value)} (h:wz e size t V X v n xs bs) {g:Nat} {cs:List Value} (hb:(g,cs)∈bs) (l:List Value) (hl:cs.length=l.length):
  Below V.heap.size V (yG X g 0 l)/\(yG X g 0 l).heap[g]? =some (.cells l.toArray t (0,0))/\V.heap.size<=g:=by
 obtain⟨h1, -,h3⟩:=h.news _ hb
 exact⟨h.below.trans ((qg l X 0).below h.below.size (λk e=>by omega)),vo l hl h1,h3⟩
theorem zmb (w:World) (c:zF) (cv:Value) (d:Nat) (hc:yE d w cv c.threads) (m:zA) (s:zk) (sv mv:Value) (hs:zY w s sv mv) (hfit:yA c m s=true) (i:Nat) (hi:i<s.threads.length) (hb:∀j,j<s.threads.length->(s.threads.getD j default).buf.length<=100000):
  Calls Tryz.prog 62 #[yC c cv,xu m,yF s sv mv, .int .i64 i] w λe w'=>(∃xa xn xc ya yn yc s',e= .returned (.tuple #[yF s' (.slice xa xn xc) (.slice ya yn yc), .bool (vH c m s i d).isSome])/\∀t,vH c m s i d=some t->s'=t/\∃bs,OwnAt w.heap.size w' (.slice xa xn xc) (.slice ya yn yc) t.threads t.mem bs)/\Below w.heap.size w w':=by
 obtain⟨hcode,hmay,hlen,hmem,zlK⟩:=pJ hfit
 have hbd:=xR hcode
 obtain⟨zfy,zmx⟩:=zlK i hi
 have hins:=λk (hk:k<(c.threads.getD i []).length)=>zio hcode (i:=i) (k:=k) (by rw [<-hlen];exact hi) hk
 clear hcode hmay zlK hfit
 obtain⟨ca,cc,rfl, -⟩:=zh.slice hc
 obtain⟨ta,j3,rfl, -⟩:=zh.slice hs.threads
 obtain⟨ma,vY,rfl, -⟩:=zh.slice hs.mem
 have hown:=λW hW=>zoq W s (.slice ta s.threads.length j3) (.slice ma s.mem.length vY) hW (by omega) (by omega) (λj hj=>by have:=hb j hj;omega)
 obtain⟨R,hR⟩:∃R,R=vH c m s i d:=⟨_,rfl⟩
 rw [<-hR]
 obtain⟨l,hl⟩:∃l,l=c.threads.getD i [] :=⟨_,rfl⟩
 obtain⟨t,ht⟩:∃t,t=s.threads.getD i default:=⟨_,rfl⟩
 have hR2:R=if t.pc<(l.length:Int) then(stepT c m s t (l.getD t.pc.toNat default) d).map (λr=>⟨s.threads.set i r.1,r.2.1,r.2.2⟩) else none:=by rw [hR,hl,ht];rfl
 rw [<-ht] at zfy zmx
 rw [<-hl] at zmx hins
 have HST:Hid (∀x,stepT c m s t x d=stepT c m s t x d):=λ_=>rfl
 obtain⟨C,hC⟩:∃C,C=c:=⟨_,rfl⟩
 obtain⟨M,hM⟩:∃M,M=m:=⟨_,rfl⟩
 obtain⟨S,hS⟩:∃S,S=s:=⟨_,rfl⟩
 rw [<-hC, <-hM, <-hS] at hR2
 clear HST
 have HRR:=qh hR2
 have hT:=hs.threads
 have hME:=hs.mem
 obtain⟨vars,dom,cs⟩:=c
 obtain⟨mod,bnd⟩:=m
 obtain⟨ts,mem,bad⟩:=s
 simp only [] at hc hs hi hb hlen hmem hbd hl ht hT hME hown hins zfy zmx hR2 ⊢
 unfold yC xu yF
 unfold yF at hown
 simp only [] at hown ⊢
 obtain⟨n,hn⟩:∃n,n=ts.length:=⟨_,rfl⟩
 obtain⟨cn,hcn⟩:∃cn,cn=cs.length:=⟨_,rfl⟩
 obtain⟨mn,hmn⟩:∃mn,mn=mem.length:=⟨_,rfl⟩
 rw [<-hn] at hT hown hi hb hlen ⊢
 rw [<-hmn] at hME hown hmem ⊢
 rw [<-hcn] at hc hlen hbd ⊢
 rw [<-hn, <-hmn] at hs
 have jI:=qh hlen
 have HME:=qh hmem
 have HC:=qh hC
 have HM:=qh hM
 have HS:=qh hS
 have HL:=qh hl
 have HT:=qh ht
 have HN:=qh hn
 have HCN:=qh hcn
 have vL:=qh hmn
 have HBU:=qh hb
 have z0S:=qh hins
 have HOWN:=qh hown
 have hB4:=zcq w (.cells #[.int .i64 vars, .int .i64 dom, .slice ca cn cc] 24) (.cells #[.int .i64 mod, .int .i64 bnd] 26) (.cells #[.slice ta n j3, .slice ma mn vY, .bool bad] 30) (.cells #[.slice none 0 0, .slice none 0 0, .bool false] 30)
 obtain⟨hB,h1,h2,h3,h4,h5⟩:=hB4
 have HB:=qh hB
 have H1:=qh h1
 have H2:=qh h2
 have H3:=qh h3
 have H4:=qh h4
 have H5:=qh h5
 have gQ:=qh (zh.below (qx.stays d) hc hB)
 have HSW:=qh (zY.below hs hB)
 have zeo:=qh (zh.below gF.stays hME hB)
 have z6y:=qh hME
 have z6z:=qh h5
 clear hlen hmem hC hM hS hl ht hn hcn hmn hb hins hown hB h1 h2 h3 h4 h5 hT hME hc hs hR hR2
 go_enter Tryz.func62,Tryz.ntmps62
 go_upto_region 1 with fail
 generalize World.alloc (World.alloc (World.alloc (World.alloc w _) _) _) _=W at HB H1 H2 H3 H4 H5 gQ HSW zeo z6z ⊢
 obtain⟨gx,hgx⟩:∃gx,gx=w.heap.size:=⟨_,rfl⟩
 rw [<-hgx] at H1 H2 H3 H4 H5 ⊢
 have yX:=qh hgx
 clear hgx
 have qC:Hid (∀x,Below W.heap.size W x->x.cell? ⟨gx,0,none⟩=some (.int .i64 vars)/\x.cell? ⟨gx,1,none⟩=some (.int .i64 dom)/\x.cell? ⟨gx,2,none⟩=some (.slice ca cn cc)/\
   x.cell? ⟨gx+1,0,none⟩=some (.int .i64 mod)/\x.cell? ⟨gx+1,1,none⟩=some (.int .i64 bnd)/\x.cell? ⟨gx+2,0,none⟩=some (.slice ta n j3)/\x.cell? ⟨gx+2,1,none⟩=some (.slice ma mn vY)/\x.cell? ⟨gx+2,2,none⟩=some (.bool bad)):=λx hx=>
  ⟨zi hx _ _ (ze H1.out 0),zi hx _ _ (ze H1.out 1),zi hx _ _ (ze H1.out 2),zi hx _ _ (ze H2.out 0),zi hx _ _ (ze H2.out 1),zi hx _ _ (ze H3.out 0),zi hx _ _ (ze H3.out 1),zi hx _ _ (ze H3.out 2)⟩
 obtain⟨c0,c1,c2,c3,c4,c5,c6,c7⟩:=qC.out W (Below.refl _ _)
 go_upto_region 2 with(go_at_call 64;refine(HOWN.out W HSW.out).mono ?_;rintro e W1 ⟨⟨tv1,mv1,bs,rfl,ho1⟩,hb1⟩;have HO1:=qh ho1;have HB1:=qh hb1;obtain⟨xa,xc,rfl, -, -⟩:=xJ ho1.row;obtain⟨ya,yc,rfl, -, -⟩:=xJ ho1.mem;clear ho1 hb1)
 rw [<-HN.out, <-vL.out]
 have zAJ:1<=vars:=hbd.1
 have z9Z:2<=dom:=hbd.2.2.1
 have zAa:dom<=16:=hbd.2.2.2.1
 have bA:n<=4:=by have:=hbd.2.2.2.2.2;have:=jI.out;omega
 have z6u:mn<=4/\1<=mn:=by have:=hbd.2.1;have:=HME.out;omega
 clear c0 c1 c2 c3 c4 c5 c6 c7 hbd
 have hol:=vV.zsw HO1.out HB1.out bad
 rw [<-HN.out, <-vL.out] at hol
 have HOL:=qh hol
 clear hol
 generalize World.alloc W1 _=X0 at HOL ⊢
 obtain⟨gb,hgb⟩:∃gb,gb=W1.heap.size:=⟨_,rfl⟩
 rw [<-hgb] at HOL ⊢
 clear hgb HO1 HB1 HOWN
 obtain⟨tb,tc,hxa, -,htc⟩:=HOL.out.threads (by rw [<-HN.out];exact hi)
 rw [<-HN.out] at hxa
 cases hxa
 obtain⟨mb,mc,hya, -,hmc⟩:=HOL.out.vars (by rw [<-vL.out];omega)
 rw [<-vL.out] at hya
 cases hya
 have hr4:=HOL.out.own.regs i (by rw [<-HN.out];exact hi)
 obtain⟨bv,hbv⟩:∃bv,bv=bs.getD i (.slice none 0 0):=⟨_,rfl⟩
 have hbuf:=(HOL.out.own.buf i (by rw [<-HN.out];exact hi))
 have hbl:=HBU.out i hi
 rw [<-HT.out] at hr4 htc hbuf hbl
 rw [<-hbv] at htc hbuf
 obtain⟨ba,bc,rfl, -, -⟩:=xJ hbuf
 obtain⟨pc,rg,bf⟩:=t
 obtain⟨r0,r1,r2,r3,rfl⟩:=kM hr4
 simp only [] at zfy zmx htc hbuf hbl HRR
 obtain⟨bl,kg⟩:∃bl,bl=bf.length:=⟨_,rfl⟩
 rw [<-kg] at htc hbuf hbl hbv
 obtain⟨qU,rfl⟩:∃qU:Nat,pc=qU:=⟨pc.toNat,by omega⟩
 have vE:=qh kg
 have HBV:=qh hbv
 have HTC:Hid (∀k u,k<6-> [Value.int .i64 qU, .int .i64 r0, .int .i64 r1, .int .i64 r2, .int .i64 r3, .slice ba bl bc][k]? =some u->X0.cell? ⟨tb,i*6+k,none⟩=some u/\X0.frozen? ⟨tb,i*6+k,none⟩=false):=by
  have e:(⟨(qU:Int), [r0,r1,r2,r3],bf⟩:zy).cells (.slice ba bl bc)= [Value.int .i64 qU, .int .i64 r0, .int .i64 r1, .int .i64 r2, .int .i64 r3, .slice ba bl bc] :=rfl
  rw [<-e];exact htc
 clear kg hbv hbuf htc hr4 hmc zfy
 obtain⟨ln,hln⟩:∃ln,ln=l.length:=⟨_,rfl⟩
 rw [<-hln] at zmx HRR
 obtain⟨eb,eo,ka,kc,zZ, -,hec,hel⟩:=yE.part gQ.out i (by rw [<-HCN.out, <-jI.out];exact hi)
 rw [<-HL.out, <-hln] at hec hel
 subst zZ
 have zvg:=qh hln
 clear hln
 have HEL:=qh hel
 have HEC:Hid (∀x,Below W.heap.size W x->x.cell? ⟨eb,eo+i,none⟩=some (.slice ka ln kc)):=λx hx=>zi hx _ _ hec
 clear hel hec
 have zAK:(i:Int)<(cn:Int):=by have:=jI.out;omega
 obtain⟨c0,c1,c2,c3,c4,c5,c6,c7⟩:=qC.out X0 HOL.out.below
 have e0:=HEC.out X0 HOL.out.below
 have t0:=(HTC.out 0 _ (by omega) rfl).1
 rw [Nat.add_zero] at t0
 have b0:=ze HOL.out.box 0
 by_cases hp:qU<ln
 rotate_left
 ·have hpN:(ln:Int)<=(qU:Int):=by omega
  have hres:R=none:=by rw [HRR.out,if_neg (by omega)]
  have zQ:=qh hres
  clear hres
  go_upto_region 3 with fail
  go_quiet (fail)
  go_upto_region 4 with fail
  generalize hX9:World.drewN X0 _=X9
  have hb9:Below X0.heap.size X0 X9:=by rw [<-hX9];exact yg (Below.refl _ _) _
  clear hX9 c0 c1 c2 c3 c4 c5 c6 c7 e0 t0 b0
  have hbw:=zB HOL.out.below hb9
  have jZ:=qh hbw
  obtain⟨c0,c1,c2,c3,c4,c5,c6,c7⟩:=qC.out X9 hbw
  have hr:=(hbw.block _ (zx H4.out)).trans H4.out
  have q0:=ze hr 0
  have q1:=ze hr 1
  have q2:=ze hr 2
  have f0:=zD hr 0
  have f1:=zD hr 1
  have f2:=zD hr 2
  have hset:=zw (zw (zw hr 0 (.slice ta n j3)) 1 (.slice ma mn vY)) 2 (.bool bad)
  simp only [List.setIfInBounds_toArray,List.set_cons_zero,List.set_cons_succ] at hset
  have hS:Since (λk=>k=gx+3) X9 (((X9.setCell ⟨gx+3,0,none⟩ (.slice ta n j3)).setCell ⟨gx+3,1,none⟩ (.slice ma mn vY)).setCell ⟨gx+3,2,none⟩ (.bool bad)):=Since.setCell (F:=λk=>k=gx+3) (p:=⟨gx+3,2,none⟩) (Since.setCell (F:=λk=>k=gx+3) (p:=⟨gx+3,1,none⟩) (Since.setCell (F:=λk=>k=gx+3) (p:=⟨gx+3,0,none⟩) (Since.refl _ X9) (.inl rfl) _) (.inl rfl) _) (.inl rfl) _
  have zJ:=qh hset
  have xS:=qh hS
  clear hr hset hS hb9 hbw
  go_wp2_with fail
  (try simp only [Exit.inBlock,Exit.then])
  refine bodyPost_ret (zC rfl _ _ (gx+3) 30 _ (0,0) _ rfl zJ.out Tryz.underlying30 rfl zI) rfl ?_
  exact⟨uz zQ.out,(HB.out.trans (jZ.out.mono HB.out.size)).trans (xS.out.below (by have:=HB.out.size;have:=jZ.out.size;omega) (λk e=>by have:=yX.out;omega))⟩
 have hpI:(qU:Int)<(ln:Int):=by omega
 have hpN:¬(ln:Int)<=(qU:Int):=by omega
 go_upto_region 3 with fail
 go_quiet (fail)
 go_upto_region 5 with fail
 generalize hX9:World.drewN X0 _=X9
 have hb9:Below X0.heap.size X0 X9:=by rw [<-hX9];exact yg (Below.refl _ _) _
 clear hX9 c0 c1 c2 c3 c4 c5 c6 c7 e0 t0 b0
 have zhr:=qh (HOL.out.later hb9)
 have zjm:Hid (∀k u,k<6-> [Value.int .i64 qU, .int .i64 r0, .int .i64 r1, .int .i64 r2, .int .i64 r3, .slice ba bl bc][k]? =some u->∀x,Below X9.heap.size X9 x->x.cell? ⟨tb,i*6+k,none⟩=some u):=λk u hk hu x hx=>zi (zB hb9 hx) _ _ (HTC.out k u hk hu).1
 clear HTC
 have jZ:=qh hb9
 clear hb9
 obtain⟨fb,fo,aa,ac,xba,xbc,hka, -,⟨x0,x1,x2⟩,⟨x3,x4,x5,x6⟩,⟨x7,x8,x9,x10⟩,wW,xa,xb⟩:=wT.part HEL.out qU (by rw [<-zvg.out];exact hp)
 subst hka
 obtain⟨x,hx⟩:∃x,x=l.getD qU default:=⟨_,rfl⟩
 rw [<-hx] at x0 x1 x2 x3 x4 x5 x6 x7 x8 x9 x10 wW xa xb
 have hins:=z0S.out qU (by rw [<-zvg.out];exact hp)
 rw [<-hx, <-zvg.out] at hins
 obtain⟨zAL,hrg0,zbE,z6A,z0U⟩:=hins
 rw [<-HME.out] at z0U
 have hr5:=HRR.out
 rw [if_pos hpI,show((qU:Int)).toNat=qU from rfl, <-hx] at hr5
 have HR5:=qh hr5
 clear hr5 HRR z0S hx
 obtain⟨op,hop⟩:∃v,v=x.op:=⟨_,rfl⟩
 obtain⟨wC,zvh⟩:∃v:Nat,(v:Int)=x.reg:=⟨x.reg.toNat,by omega⟩
 obtain⟨vZ,zvi⟩:∃v:Nat,(v:Int)=x.var:=⟨x.var.toNat,by omega⟩
 obtain⟨dst,hdst⟩:∃v,v=x.dest:=⟨_,rfl⟩
 obtain⟨ak,hak⟩:∃v,v=x.a.kind:=⟨_,rfl⟩
 obtain⟨an,han⟩:∃v,v=x.a.n:=⟨_,rfl⟩
 obtain⟨ao,hao⟩:∃v,v=x.a.op:=⟨_,rfl⟩
 obtain⟨al,hal⟩:∃v,v=x.a.kids.length:=⟨_,rfl⟩
 obtain⟨bk,hbk⟩:∃v,v=x.b.kind:=⟨_,rfl⟩
 obtain⟨bn,hbn⟩:∃v,v=x.b.n:=⟨_,rfl⟩
 obtain⟨bo,hbo⟩:∃v,v=x.b.op:=⟨_,rfl⟩
 obtain⟨bkl,zvj⟩:∃v,v=x.b.kids.length:=⟨_,rfl⟩
 obtain⟨A,hA⟩:∃v,v=yh [r0,r1,r2,r3] dom d x.a:=⟨_,rfl⟩
 obtain⟨B,hBB⟩:∃v,v=yh [r0,r1,r2,r3] dom d x.b:=⟨_,rfl⟩
 have z0W:Hid (∀X,Below W.heap.size W X->Calls Tryz.prog 90 #[.agg #[.int .i64 ak, .int .i64 an, .int .u8 ao, .slice aa al ac], .agg #[.int .i64 r0, .int .i64 r1, .int .i64 r2, .int .i64 r3], .int .i64 dom] X λe w'=>e= .returned (.int .i64 A)/\Below X.heap.size X w'):=λX hX=>by
  rw [hak,han,hao,hal,hA];exact zlW r0 r1 r2 r3 dom (by omega) (by omega) d X x.a _ (xa.below hX)
 have z0X:Hid (∀X,Below W.heap.size W X->Calls Tryz.prog 90 #[.agg #[.int .i64 bk, .int .i64 bn, .int .u8 bo, .slice xba bkl xbc], .agg #[.int .i64 r0, .int .i64 r1, .int .i64 r2, .int .i64 r3], .int .i64 dom] X λe w'=>e= .returned (.int .i64 B)/\Below X.heap.size X w'):=λX hX=>by
  rw [hbk,hbn,hbo,zvj,hBB];exact zlW r0 r1 r2 r3 dom (by omega) (by omega) d X x.b _ (xb.below hX)
 rw [<-hop] at x0
 rw [<-zvh] at x1 zbE
 have zbE:wC<4:=by omega
 rw [<-zvi] at x2 z0U
 rw [<-hak] at x3
 rw [<-han] at x4
 rw [<-hao] at x5
 rw [<-hal] at x6
 rw [<-hbk] at x7
 rw [<-hbn] at x8
 rw [<-hbo] at x9
 rw [<-zvj] at x10
 rw [<-hdst] at wW
 have xO:=qh hop
 have HRG:=qh zvh
 have HVR:=qh zvi
 have HDS:=qh hdst
 have HA:=qh hA
 have yI:=qh hBB
 clear hop zvh zvi hdst hak han hao hal hbk hbn hbo zvj hA hBB xa xb hrg0 z6A
 have C5:Hid (∀y,Below X9.heap.size X9 y->y.cell? ⟨gx,2,none⟩=some (.slice (some ⟨eb,eo,none⟩) cn cc)/\y.cell? ⟨eb,eo+i,none⟩=some (.slice (some ⟨fb,fo,none⟩) ln kc)/\y.cell? ⟨tb,i*6,none⟩=some (.int .i64 qU)/\
   y.cell? ⟨fb,fo+qU*12,none⟩=some (.int .i64 op)/\y.cell? ⟨fb,fo+qU*12+1,none⟩=some (.int .i64 wC)/\y.cell? ⟨fb,fo+qU*12+2,none⟩=some (.int .i64 vZ)/\
   y.cell? ⟨fb,fo+qU*12+3,none⟩=some (.int .i64 ak)/\y.cell? ⟨fb,fo+qU*12+4,none⟩=some (.int .i64 an)/\y.cell? ⟨fb,fo+qU*12+5,none⟩=some (.int .u8 ao)/\y.cell? ⟨fb,fo+qU*12+6,none⟩=some (.slice aa al ac)/\
   y.cell? ⟨fb,fo+qU*12+7,none⟩=some (.int .i64 bk)/\y.cell? ⟨fb,fo+qU*12+8,none⟩=some (.int .i64 bn)/\y.cell? ⟨fb,fo+qU*12+9,none⟩=some (.int .u8 bo)/\y.cell? ⟨fb,fo+qU*12+10,none⟩=some (.slice xba bkl xbc)/\y.cell? ⟨fb,fo+qU*12+11,none⟩=some (.int .i64 dst)):=λy hy=>
  have hw:=zB zhr.out.below hy
  have k2:=λp v h=>zi hw p v h
  ⟨(qC.out y hw).2.2.1,HEC.out y hw,zjm.out 0 _ (by omega) rfl y hy,k2 _ _ x0,k2 _ _ x1,k2 _ _ x2,k2 _ _ x3,k2 _ _ x4,k2 _ _ x5,k2 _ _ x6,k2 _ _ x7,k2 _ _ x8,k2 _ _ x9,k2 _ _ x10,k2 _ _ wW⟩
 clear x0 x1 x2 x3 x4 x5 x6 x7 x8 x9 x10 wW
 have h0:=wz.start 3 1 64 X9
 have hT0:=qh h0.drew
 clear h0
 refine qM (S:=λx=>Below X9.heap.size X9 x) (Below.refl _ _).drew (λ_=> ?_)
 obtain⟨wd,hwd⟩:∃wd,wd=X9.drew:=⟨_,rfl⟩
 rw [<-hwd] at hT0 ⊢
 clear hwd
 refine zH 0 zP (hT0.out.below) ?_
 refine zH 1 C5.out (hT0.out.below) ?_
 refine zH 2 zP (hT0.out.below) ?_
 refine zH 3 zP (hT0.out.below) ?_
 refine zH 4 C5.out (hT0.out.below) ?_
 refine zH 5 zP (hT0.out.below) ?_
 refine zH 6 zP (hT0.out.below) ?_
 refine zH 7 zP (hT0.out.below) ?_
 refine zH 8 C5.out (hT0.out.below) ?_
 refine zH 9 zP (hT0.out.below) ?_
 refine zH 10 C5.out (hT0.out.below) ?_
 refine yx 11 rfl (λK hK=> ?_)
 go_simp
 have vW:=hT0.out.alloc [.int .i64 0, .int .i64 0, .int .i64 0, .int .i64 0, .int .i64 0, .int .u8 0, .slice none 0 0, .int .i64 0, .int .i64 0, .int .u8 0, .slice none 0 0, .int .i64 0]
 refine hK.out _ _ vW.below (λ_=> ?_)
 obtain⟨gi,hgi⟩:∃n,n=wd.heap.size:=⟨_,rfl⟩
 rw [<-hgi] at vW ⊢
 clear hgi
 generalize World.alloc wd _=Xq2 at vW ⊢
 replace vW:=qh vW
 clear hK K
 refine yx 12 rfl (λK hK=> ?_)
 have hb1:=vW.out.zyp (g:=gi) (cs:= [.int .i64 0, .int .i64 0, .int .i64 0, .int .i64 0, .int .i64 0, .int .u8 0, .slice none 0 0, .int .i64 0, .int .i64 0, .int .u8 0, .slice none 0 0, .int .i64 0]) (by simp) [.int .i64 op, .int .i64 wC, .int .i64 vZ, .int .i64 ak, .int .i64 an, .int .u8 ao, .slice aa al ac, .int .i64 bk, .int .i64 bn, .int .u8 bo, .slice xba bkl xbc, .int .i64 dst] rfl
 obtain⟨hn, -, -⟩:=vW.out.news (gi, [.int .i64 0, .int .i64 0, .int .i64 0, .int .i64 0, .int .i64 0, .int .u8 0, .slice none 0 0, .int .i64 0, .int .i64 0, .int .u8 0, .slice none 0 0, .int .i64 0]) (by simp)
 have d0:=ze hn 0
 have f0:=zD hn 0
 have d1:=ze hn 1
 have f1:=zD hn 1
 have d2:=ze hn 2
 have f2:=zD hn 2
 have d3:=ze hn 3
 have f3:=zD hn 3
 have d4:=ze hn 4
 have f4:=zD hn 4
 have d5:=ze hn 5
 have f5:=zD hn 5
 have d6:=ze hn 6
 have f6:=zD hn 6
 have d7:=ze hn 7
 have f7:=zD hn 7
 have d8:=ze hn 8
 have f8:=zD hn 8
 have d9:=ze hn 9
 have f9:=zD hn 9
 have d10:=ze hn 10
 have f10:=zD hn 10
 have d11:=ze hn 11
 have f11:=zD hn 11
 clear hn
 have vg:=qh hb1
 clear hb1
 go_simp
 clear d0 f0 d1 f1 d2 f2 d3 f3 d4 f4 d5 f5 d6 f6 d7 f7 d8 f8 d9 f9 d10 f10 d11 f11
 refine hK.out _ (yG Xq2 gi 0 [.int .i64 op, .int .i64 wC, .int .i64 vZ, .int .i64 ak, .int .i64 an, .int .u8 ao, .slice aa al ac, .int .i64 bk, .int .i64 bn, .int .u8 bo, .slice xba bkl xbc, .int .i64 dst]) vg.out.1 (λ_=> ?_)
 generalize yG Xq2 gi 0 _=X1 at vg ⊢
 clear hK K
 refine xE ?_
 have hgi:=vg.out.2.2
 have yV:vT W X1 gb gi tb n xc mb mn yc bad ts mem bs [.int .i64 op, .int .i64 wC, .int .i64 vZ, .int .i64 ak, .int .i64 an, .int .u8 ao, .slice aa al ac, .int .i64 bk, .int .i64 bn, .int .u8 bo, .slice xba bkl xbc, .int .i64 dst] :=
  ⟨zhr.out.later vg.out.1,vg.out.2.1,λe=>by have:=zx zhr.out.box;omega,λe=>by have:=(zhr.out.own.row.lt tb rfl).2;omega,λe=>by have:=(zhr.out.own.mem.lt mb rfl).2;omega⟩
 have ze6:=qh yV
 clear hgi yV C5
 have zvk:Hid (∀y,Below X1.heap.size X1 y->y.cell? ⟨tb,i*6+1,none⟩=some (.int .i64 r0)/\y.cell? ⟨tb,i*6+2,none⟩=some (.int .i64 r1)/\y.cell? ⟨tb,i*6+3,none⟩=some (.int .i64 r2)/\y.cell? ⟨tb,i*6+4,none⟩=some (.int .i64 r3)):=λy hy=>
  have h:=zB vg.out.1 hy
  ⟨zjm.out 1 _ (by omega) rfl y h,zjm.out 2 _ (by omega) rfl y h,zjm.out 3 _ (by omega) rfl y h,zjm.out 4 _ (by omega) rfl y h⟩
 have HB1:=qh ze6.out.own.below
 have z0Y:¬gi=gx+3:=λe=>by
  have h1:=zx H4.out
  have h2:=vg.out.2.2
  have h3:=zhr.out.below.size
  omega
 have HGI:=qh z0Y
 clear z0Y
 go_upto_region 6 with fail
 obtain⟨t1,t2,t3,t4⟩:=zvk.out X1 (Below.refl _ _)
 have z3:=ze ze6.out.instr 3
 have z4:=ze ze6.out.instr 4
 have z5:=ze ze6.out.instr 5
 have z6:=ze ze6.out.instr 6
 have c1:=(qC.out X1 HB1.out).2.1
 refine wp_region_still_tail 8 (by kernel_rfl) (by kernel_rfl) ?_
 simp only [List.take_succ_cons,List.take_zero,List.drop_succ_cons,List.drop_zero]
 repeat still_step
 try refine wpStill_nil ?_
 change wpList _ _ _ _ _ X1.drew
 obtain⟨wd,hwd⟩:∃wd,wd=X1.drew:=⟨_,rfl⟩
 rw [<-hwd]
 have uS:Hid (Below X1.heap.size X1 wd):=by rw [Hid,hwd];exact(Below.refl _ _).drew
 clear hwd t1 t2 t3 t4 z3 z4 z5 z6 c1
 go_upto_region 7 with(go_at_call 90;refine(z0W.out wd (zB HB1.out uS.out)).mono ?_;rintro e X2 ⟨rfl,hb⟩;have HB2:=qh (zB uS.out hb);clear hb)
 have zda:=qh (ze6.out.below HB2.out)
 clear uS
 obtain⟨t1,t2,t3,t4⟩:=zvk.out X2 HB2.out
 have z7:=ze zda.out.instr 7
 have z8:=ze zda.out.instr 8
 have z9:=ze zda.out.instr 9
 have z10:=ze zda.out.instr 10
 have c1:=(qC.out X2 zda.out.own.below).2.1
 refine wp_region_still_tail 8 (by kernel_rfl) (by kernel_rfl) ?_
 simp only [List.take_succ_cons,List.take_zero,List.drop_succ_cons,List.drop_zero]
 repeat still_step
 try refine wpStill_nil ?_
 change wpList _ _ _ _ _ X2.drew
 obtain⟨wd',hwd⟩:∃wd,wd=X2.drew:=⟨_,rfl⟩
 rw [<-hwd]
 have uS:Hid (Below X2.heap.size X2 wd'):=by rw [Hid,hwd];exact(Below.refl _ _).drew
 clear hwd t1 t2 t3 t4 z7 z8 z9 z10 c1
 go_upto_region 8 with(go_at_call 90;refine(z0X.out wd' (zB zda.out.own.below uS.out)).mono ?_;rintro e X3 ⟨rfl,hb⟩;have HB3:=qh (zB uS.out hb);clear hb)
 have uW:=qh (zda.out.below HB3.out)
 clear uS
 have hin:i<ts.length:=by rw [<-HN.out];exact hi
 have hcl:(ts.getD i default).cells (bs.getD i (.slice none 0 0))= [.int .i64 qU, .int .i64 r0, .int .i64 r1, .int .i64 r2, .int .i64 r3, .slice ba bl bc] :=by rw [<-HT.out, <-HBV.out];rfl
 have hpc:=uW.out.zpU hin 0 (.int .i64 qU) (by omega) (by rw [hcl];rfl)
 rw [Nat.add_zero] at hpc
 obtain⟨t0,f0⟩:=hpc
 have hth:=uW.out.thread hin (k:=0) (by omega) (t:=⟨(qU:Int)+1, [r0,r1,r2,r3],bf⟩) (b:= .slice ba bl bc) (u:= .int .i64 ((qU:Int)+1)) (by rw [hcl];rfl) rfl (by have:=(uW.out.buf hin).1;rw [<-HT.out, <-HBV.out] at this;exact this) (by have:=(uW.out.buf hin).2;rw [<-HBV.out] at this;exact this) (by have:=uW.out.dist hin;rw [<-HBV.out] at this;exact this)
 rw [Nat.add_zero] at hth
 have yS:=qh hth
 have HIN:=qh hin
 clear hin hcl hth
 go_upto_region 9 with fail
 clear t0 f0
 generalize World.setCell X3 _ _=X4 at yS ⊢
 clear ze6 zda uW zvk zjm zhr HB1 HB2 HB3 vg jZ HOL z0W z0X HSW gQ HEL HEC HBU
 obtain⟨ts1,zjn⟩:∃ts1,ts1=ts.set i ⟨(qU:Int)+1, [r0,r1,r2,r3],bf⟩:=⟨_,rfl⟩
 obtain⟨bs1,zvl⟩:∃bs1,bs1=bs.set i (.slice ba bl bc):=⟨_,rfl⟩
 have hlb:bs.length=ts.length:=by have:=yS.out.own.own.len;rw [List.length_set,List.length_set] at this;exact this
 rw [<-zjn, <-zvl] at yS
 have bS:Hid (ts1.getD i default=⟨(qU:Int)+1, [r0,r1,r2,r3],bf⟩):=by rw [Hid,zjn,qX HIN.out,if_pos rfl]
 have bT:Hid (bs1.getD i (.slice none 0 0)= .slice ba bl bc):=by rw [Hid,zvl,qX (by rw [hlb];exact HIN.out),if_pos rfl]
 have HL1:Hid (i<ts1.length):=by rw [Hid,zjn,List.length_set];exact HIN.out
 have HSS:Hid (∀t',ts1.set i t'=ts.set i t'):=λt'=>by rw [zjn,List.set_set]
 have HT1:Hid (ts1=ts.set i ⟨(qU:Int)+1, [r0,r1,r2,r3],bf⟩):=zjn
 clear zjn zvl hlb HT
 have HTC:Hid (∀k u,k<6-> [Value.int .i64 ((qU:Int)+1), .int .i64 r0, .int .i64 r1, .int .i64 r2, .int .i64 r3, .slice ba bl bc][k]? =some u->X4.cell? ⟨tb,i*6+k,none⟩=some u/\X4.frozen? ⟨tb,i*6+k,none⟩=false):=by
  have h:=yS.out.zpU HL1.out
  rw [bS.out,bT.out] at h
  exact h
 have jN:Hid (R=Option.map (λr=>(⟨ts.set i r.1,r.2.1,r.2.2⟩:zk)) (stepT ⟨vars,dom,cs⟩ ⟨mod,bnd⟩ ⟨ts,mem,bad⟩ ⟨qU, [r0,r1,r2,r3],bf⟩ x d)):=by rw [Hid,HR5.out,HC.out,HM.out,HS.out]
 clear HR5 HC HM HS
 have zdj:=qh (yS.out.buf HL1.out)
 have yK:Hid (∀(X:World) (b':Bool),X.heap[gb]? =some (.cells #[.slice (some ⟨tb,0,none⟩) n xc, .slice (some ⟨mb,0,none⟩) mn yc, .bool b'] 30 (0,0))->Below W.heap.size W X->
   (X.cell? ⟨gb,0,none⟩=some (.slice (some ⟨tb,0,none⟩) n xc)/\X.cell? ⟨gb,1,none⟩=some (.slice (some ⟨mb,0,none⟩) mn yc)/\X.cell? ⟨gb,2,none⟩=some (.bool b'))/\
   (X.cell? ⟨gx+3,0,none⟩=some (.slice none 0 0)/\X.cell? ⟨gx+3,1,none⟩=some (.slice none 0 0)/\X.cell? ⟨gx+3,2,none⟩=some (.bool false))/\
   (X.frozen? ⟨gx+3,0,none⟩=false/\X.frozen? ⟨gx+3,1,none⟩=false/\X.frozen? ⟨gx+3,2,none⟩=false)/\
   (((X.setCell ⟨gx+3,0,none⟩ (.slice (some ⟨tb,0,none⟩) n xc)).setCell ⟨gx+3,1,none⟩ (.slice (some ⟨mb,0,none⟩) mn yc)).setCell ⟨gx+3,2,none⟩ (.bool b')).heap[gx+3]? =some (.cells #[.slice (some ⟨tb,0,none⟩) n xc, .slice (some ⟨mb,0,none⟩) mn yc, .bool b'] 30 (0,0))/\
   Since (λk=>k=gx+3) X (((X.setCell ⟨gx+3,0,none⟩ (.slice (some ⟨tb,0,none⟩) n xc)).setCell ⟨gx+3,1,none⟩ (.slice (some ⟨mb,0,none⟩) mn yc)).setCell ⟨gx+3,2,none⟩ (.bool b'))/\
   Below w.heap.size w (((X.setCell ⟨gx+3,0,none⟩ (.slice (some ⟨tb,0,none⟩) n xc)).setCell ⟨gx+3,1,none⟩ (.slice (some ⟨mb,0,none⟩) mn yc)).setCell ⟨gx+3,2,none⟩ (.bool b'))):=λX b' hX hW=>by
  have hres:=(hW.block _ (zx H4.out)).trans H4.out
  have hset:=zw (zw (zw hres 0 (.slice (some ⟨tb,0,none⟩) n xc)) 1 (.slice (some ⟨mb,0,none⟩) mn yc)) 2 (.bool b')
  simp only [List.setIfInBounds_toArray,List.set_cons_zero,List.set_cons_succ] at hset
  have hS:Since (λk=>k=gx+3) X (((X.setCell ⟨gx+3,0,none⟩ (.slice (some ⟨tb,0,none⟩) n xc)).setCell ⟨gx+3,1,none⟩ (.slice (some ⟨mb,0,none⟩) mn yc)).setCell ⟨gx+3,2,none⟩ (.bool b')):=Since.setCell (F:=λk=>k=gx+3) (p:=⟨gx+3,2,none⟩) (Since.setCell (F:=λk=>k=gx+3) (p:=⟨gx+3,1,none⟩) (Since.setCell (F:=λk=>k=gx+3) (p:=⟨gx+3,0,none⟩) (Since.refl _ X) (.inl rfl) _) (.inl rfl) _) (.inl rfl) _
  exact⟨⟨ze hX 0,ze hX 1,ze hX 2⟩,⟨ze hres 0,ze hres 1,ze hres 2⟩,⟨zD hres 0,zD hres 1,zD hres 2⟩,hset,hS,(HB.out.trans (hW.mono HB.out.size)).trans (hS.below (by have:=HB.out.size;have:=hW.size;omega) (λk e=>by have:=yX.out;omega))⟩
 have uD:Hid (∀(X X':World) (b':Bool) (ts':List zy) (mem':List Int) (bs' wQ:List Value),vT W X gb gi tb n xc mb mn yc b' ts' mem' bs' wQ->Since (λk=>k=gx+3) X X'->OwnAt w.heap.size X' (.slice (some ⟨tb,0,none⟩) n xc) (.slice (some ⟨mb,0,none⟩) mn yc) ts' mem' bs'):=λX X' b' ts' mem' bs' wQ h hS=>by
  have hlt:=zx H4.out
  exact OwnAt.lower (B:=W.heap.size) (h.own.own.since hS (λk hk e=>by have:=(h.own.own.row.lt k hk).1;omega) (λk hk e=>by have:=(h.own.own.mem.lt k hk).1;omega) (λj hj k hk e=>by have:=((h.own.own.buf j hj).lt k hk).1;omega)) HB.out.size
 go_cut [15] (λs15 w'=>∃em:Bool,s15= .bool em/\w'=X4/\Hid (em=decide (bl=0)))
 case first=>
  have t5:=(HTC.out 5 _ (by omega) rfl).1
  by_cases hb0:bl=0
  ·have hb1:((bl:Int)==0)=true:=by simp [hb0]
   go_wp2_with fail
   go_meet
   case rel=>exact⟨true,by first|rfl|simp,rfl,by simp [Hid,hb0]⟩
  have hb1:((bl:Int)==0)=false:=by simp [hb0]
  go_wp2_with fail
  go_meet
  case rel=>exact⟨false,by first|rfl|simp,rfl,by simp [Hid,hb0]⟩
 case rest=>
 obtain⟨em,rfl,hww,HEM⟩:=hcut
 obtain rfl:X4=wc:=hww.symm
 have k0:=ze yS.out.instr 0
 go_upto_region 11 with fail
 clear k0
 by_cases o1:op=1
 ·have ji:Hid ((1:Int)=x.op):=by rw [Hid, <-xO.out,o1]
  clear xO
  have xO:=ji
  clear ji
  have p1:((op:Int)==1)=true:=by simp [o1]
  clear o1
  as_aux_lemma=>
   go_upto_region 12 with fail
   obtain⟨lk,hlk⟩:∃lk,lk=wY bf vZ:=⟨_,rfl⟩
   have zvm:=λY hY=>zuL Y (.slice ba bl bc) bf hY (by rw [<-vE.out];omega) vZ
   rw [<-hlk] at zvm
   have z6B:=qh zvm
   have HLK:=qh hlk
   clear zvm hlk
   have hbu:=zdj.out.1
   rw [bS.out,bT.out] at hbu
   have zpV:Hid (∀Y,Below X4.heap.size X4 Y->zV Y (.slice ba bl bc) bf):=λY hY=>zV.below (kU hbu) hY
   clear hbu
   have CZ:Hid (∀y,Below X4.heap.size X4 y->y.cell? ⟨tb,i*6+5,none⟩=some (.slice ba bl bc)/\y.cell? ⟨gi,2,none⟩=some (.int .i64 vZ)):=λy hy=>⟨zi hy _ _ (HTC.out 5 _ (by omega) rfl).1,zi hy _ _ (ze yS.out.instr 2)⟩
   refine qM (S:=λx=>Below X4.heap.size X4 x) (Below.refl _ _).drew (λhH=> ?_)
   refine zl 0 CZ.out ?_
   refine zl 1 CZ.out ?_
   refine zl 2 CZ.out ?_
   refine zl 3 CZ.out ?_
   refine zl 4 CZ.out ?_
   refine zl 5 CZ.out ?_
   refine yx 6 rfl (λK hK=> ?_)
   go_simp
   refine(z6B.out X4.drew (zpV.out X4.drew hH)).mono ?_
   rintro e ze7 ⟨rfl,hb⟩
   have zpW:Below X4.heap.size X4 ze7:=zB hH hb
   refine hK.out _ _ zpW (λ_=> ?_)
   clear hK K hb hH
   refine zl 7 CZ.out ?_
   refine zl 8 CZ.out ?_
   refine zl 9 CZ.out ?_
   refine zl 10 CZ.out ?_
   refine zl 11 CZ.out ?_
   refine xE ?_
   have pR:=qh (yS.out.below zpW)
   clear zpW
   skip
   cases lk with
   |some lv=>
    simp only [Option.getD_some,Option.isSome_some]
    go_upto_region 15 with fail
    have z1:=ze pR.out.instr 1
    refine wp_region_still_tail 7 (by kernel_rfl) (by kernel_rfl) ?_
    simp only [List.take_succ_cons,List.take_zero,List.drop_succ_cons,List.drop_zero]
    repeat still_step
    try refine wpStill_nil ?_
    change wpList _ _ _ _ _ ze7.drew
    obtain⟨X5,hX5⟩:∃wd,wd=ze7.drew:=⟨_,rfl⟩
    rw [<-hX5]
    have z6C:Hid (Below ze7.heap.size ze7 X5):=by rw [Hid,hX5];exact(Below.refl _ _).drew
    clear hX5
    have zxt:=qh (pR.out.below z6C.out)
    clear z1
    obtain⟨u0,v0⟩:=zxt.out.bR HL1.out bS.out bT.out (1+wC) (.int .i64 ([r0,r1,r2,r3].getD wC 0)) (by omega) (ze5 zbE)
    rw [<-Nat.add_assoc] at u0 v0
    have hw6:=zxt.out.set HL1.out (k:=1+wC) (by omega) (t':=⟨(qU:Int)+1,([r0,r1,r2,r3].set wC lv),bf⟩) (u:=(.int .i64 lv)) bS.out bT.out (zbX zbE) (by simp) rfl
    rw [<-Nat.add_assoc] at hw6
    have HW6:=qh hw6
    clear hw6
    go_upto_region 48 with fail
    clear u0 v0
    generalize World.setCell X5 _ _=X6 at HW6 ⊢
    obtain⟨hr6,ht6,hb6,hl6⟩:=HW6.out
    have z2R:=qh hr6
    have zAM:=qh ht6
    have zAN:=qh hb6
    have HL6:=qh hl6
    clear hr6 ht6 hb6 hl6 HW6
    have hres:R=some ⟨ts.set i ⟨(qU:Int)+1, [r0,r1,r2,r3].set wC lv,bf⟩,mem,bad⟩:=by
     rw [jN.out,uo xO.out.symm]
     simp only [Option.map_some]
     rw [<-HVR.out, <-HLK.out, <-HRG.out]
     rfl
    have zQ:=qh hres
    clear hres
    have yV:=z2R.out
    rw [HSS.out] at yV
    have yO:=qh yV
    clear yV
    obtain⟨⟨a0,a1,a2⟩,⟨q0,q1,q2⟩,⟨f0,f1,f2⟩,hset,hsn,hbe⟩:=yK.out X6 bad yO.out.own.box yO.out.own.below
    have zJ:=qh hset
    have xS:=qh hsn
    have yI:=qh hbe
    clear hset hsn hbe
    go_wp2_with fail
    (try simp only [Exit.inBlock,Exit.then])
    refine bodyPost_ret (zC rfl _ _ (gx+3) 30 _ (0,0) _ rfl zJ.out Tryz.underlying30 rfl zI) rfl ?_
    exact⟨qR zQ.out (uD.out _ _ _ _ _ _ _ yO.out xS.out),yI.out⟩
   |none=>
   simp only [Option.getD_none,Option.isSome_none]
   go_upto_region 14 with fail
   obtain⟨nv,hnv⟩:∃nv,nv=mem.getD vZ 0:=⟨_,rfl⟩
   obtain⟨sb,so,hsa, -,hsc⟩:=xC.part zeo.out vZ (by rw [<-vL.out];omega)
   subst hsa
   rw [<-hnv] at hsc
   have HNV:=qh hnv
   clear hnv
   have s1:=zi pR.out.own.below _ _ hsc
   have c6:=(qC.out _ pR.out.own.below).2.2.2.2.2.2.1
   have uO:(vZ:Int)<(mn:Int):=by omega
   have z2:=ze pR.out.instr 2
   go_upto_region 15 with fail
   clear z2 s1 c6 hsc
   go_upto_region 15 with fail
   have z1:=ze pR.out.instr 1
   refine wp_region_still_tail 7 (by kernel_rfl) (by kernel_rfl) ?_
   simp only [List.take_succ_cons,List.take_zero,List.drop_succ_cons,List.drop_zero]
   repeat still_step
   try refine wpStill_nil ?_
   change wpList _ _ _ _ _ ze7.drew
   obtain⟨X7,hX7⟩:∃wd,wd=ze7.drew:=⟨_,rfl⟩
   rw [<-hX7]
   have z6D:Hid (Below ze7.heap.size ze7 X7):=by rw [Hid,hX7];exact(Below.refl _ _).drew
   clear hX7
   have zxu:=qh (pR.out.below z6D.out)
   clear z1
   obtain⟨u0,v0⟩:=zxu.out.bR HL1.out bS.out bT.out (1+wC) (.int .i64 ([r0,r1,r2,r3].getD wC 0)) (by omega) (ze5 zbE)
   rw [<-Nat.add_assoc] at u0 v0
   have hw8:=zxu.out.set HL1.out (k:=1+wC) (by omega) (t':=⟨(qU:Int)+1,([r0,r1,r2,r3].set wC nv),bf⟩) (u:=(.int .i64 nv)) bS.out bT.out (zbX zbE) (by simp) rfl
   rw [<-Nat.add_assoc] at hw8
   have HW8:=qh hw8
   clear hw8
   go_upto_region 48 with fail
   clear u0 v0
   generalize World.setCell X7 _ _=X8 at HW8 ⊢
   obtain⟨hr8,ht8,hb8,hl8⟩:=HW8.out
   have z2S:=qh hr8
   have zAO:=qh ht8
   have zAP:=qh hb8
   have wP:=qh hl8
   clear hr8 ht8 hb8 hl8 HW8
   have hres:R=some ⟨ts.set i ⟨(qU:Int)+1, [r0,r1,r2,r3].set wC nv,bf⟩,mem,bad⟩:=by
    rw [jN.out,uo xO.out.symm]
    simp only [Option.map_some]
    rw [<-HVR.out, <-HLK.out, <-HRG.out]
    rw [show((vZ:Int)).toNat=vZ from rfl, <-HNV.out]
    rfl
   have zQ:=qh hres
   clear hres
   have yV:=z2S.out
   rw [HSS.out] at yV
   have yO:=qh yV
   clear yV
   obtain⟨⟨a0,a1,a2⟩,⟨q0,q1,q2⟩,⟨f0,f1,f2⟩,hset,hsn,hbe⟩:=yK.out X8 bad yO.out.own.box yO.out.own.below
   have zJ:=qh hset
   have xS:=qh hsn
   have yI:=qh hbe
   clear hset hsn hbe
   go_wp2_with fail
   (try simp only [Exit.inBlock,Exit.then])
   refine bodyPost_ret (zC rfl _ _ (gx+3) 30 _ (0,0) _ rfl zJ.out Tryz.underlying30 rfl zI) rfl ?_
   exact⟨qR zQ.out (uD.out _ _ _ _ _ _ _ yO.out xS.out),yI.out⟩
 have p1:((op:Int)==1)=false:=by simp [o1]
 by_cases o2:op=2
 ·have ji:Hid ((2:Int)=x.op):=by rw [Hid, <-xO.out,o2]
  clear xO
  have xO:=ji
  clear ji
  have p2:((op:Int)==2)=true:=by simp [o2]
  clear o2
  as_aux_lemma=>
   go_upto_region 17 with fail
   have c3:=(qC.out _ yS.out.own.below).2.2.2.1
   by_cases hm0:mod=0
   ·have hm1:((mod:Int)==0)=true:=by simp [hm0]
    have HM0:=qh hm0
    clear hm0
    go_upto_region 18 with fail
    clear c3 hm1
    go_upto_region 18 with fail
    have z2:=ze yS.out.instr 2
    have hbx:=yS.out.own.box
    have g1:=ze hbx 1
    clear hbx
    have hml:vZ<mem.length:=by rw [<-vL.out];omega
    obtain⟨m0,m1⟩:=yS.out.zkD hml
    have uO:(vZ:Int)<(mn:Int):=by omega
    have zxv:=qh (yS.out.mem vZ A)
    clear hml
    go_upto_region 19 with fail
    clear z2 g1 m0 m1 uO
    generalize World.setCell X4 _ _=X9 at zxv ⊢
    have hres:R=some ⟨ts1,(mem.set vZ A),bad⟩:=by
     rw [jN.out,jC xO.out.symm HM0.out]
     simp only [Option.map_some]
     rw [<-HVR.out, <-HA.out,HT1.out]
     rfl
    have zQ:=qh hres
    clear hres
    have yV:=zxv.out
    have yO:=qh yV
    clear yV
    obtain⟨⟨a0,a1,a2⟩,⟨q0,q1,q2⟩,⟨f0,f1,f2⟩,hset,hsn,hbe⟩:=yK.out X9 bad yO.out.own.box yO.out.own.below
    have zJ:=qh hset
    have xS:=qh hsn
    have yI:=qh hbe
    clear hset hsn hbe
    go_wp2_with fail
    (try simp only [Exit.inBlock,Exit.then])
    refine bodyPost_ret (zC rfl _ _ (gx+3) 30 _ (0,0) _ rfl zJ.out Tryz.underlying30 rfl zI) rfl ?_
    exact⟨qR zQ.out (uD.out _ _ _ _ _ _ _ yO.out xS.out),yI.out⟩
   have hm1:((mod:Int)==0)=false:=by simp [hm0]
   have HM0:=qh hm0
   clear hm0
   go_upto_region 20 with fail
   clear c3 hm1
   obtain⟨ok,hok⟩:∃ok,ok=qo bf ⟨mod,bnd⟩ ⟨vZ,A⟩:=⟨_,rfl⟩
   have hput:=λY hY=>znP Y (.slice ba bl bc) bf hY (by rw [<-vE.out];omega) ⟨mod,bnd⟩ ⟨vZ,A⟩
   rw [<-hok] at hput
   have kR:=qh hput
   have vD:=qh hok
   clear hput hok
   have hbu:=zdj.out.1
   rw [bS.out,bT.out] at hbu
   have zpV:Hid (∀Y,Below X4.heap.size X4 Y->zV Y (.slice ba bl bc) bf):=λY hY=>zV.below (kU hbu) hY
   clear hbu
   have CZ:Hid (∀y,Below X4.heap.size X4 y->y.cell? ⟨tb,i*6+5,none⟩=some (.slice ba bl bc)/\y.cell? ⟨gi,2,none⟩=some (.int .i64 vZ)/\y.cell? ⟨gx+1,0,none⟩=some (.int .i64 mod)/\y.cell? ⟨gx+1,1,none⟩=some (.int .i64 bnd)):=λy hy=>⟨zi hy _ _ (HTC.out 5 _ (by omega) rfl).1,zi hy _ _ (ze yS.out.instr 2),(qC.out y (zB yS.out.own.below hy)).2.2.2.1,(qC.out y (zB yS.out.own.below hy)).2.2.2.2.1⟩
   refine qM (S:=λx=>Below X4.heap.size X4 x) (Below.refl _ _).drew (λhH=> ?_)
   refine zl 0 CZ.out ?_
   refine zl 1 CZ.out ?_
   refine zl 2 CZ.out ?_
   refine zl 3 CZ.out ?_
   refine zl 4 CZ.out ?_
   refine zl 5 CZ.out ?_
   refine zl 6 CZ.out ?_
   refine zl 7 CZ.out ?_
   refine zl 8 CZ.out ?_
   refine yx 9 rfl (λK hK=> ?_)
   go_simp
   refine(kR.out X4.drew (zpV.out X4.drew hH)).mono ?_
   rintro e zmy ⟨⟨bv,rfl,hbv,hrow⟩,hb⟩
   obtain⟨pa,pc2,rfl, -⟩:=zh.slice hbv
   have jA:=qh hrow
   clear hbv hrow
   have zpX:Below X4.heap.size X4 zmy:=zB hH hb
   refine hK.out _ _ zpX (λ_=> ?_)
   clear hK K hb hH
   refine zl 10 CZ.out ?_
   refine zl 11 CZ.out ?_
   refine zl 12 CZ.out ?_
   refine zl 13 CZ.out ?_
   refine zl 14 CZ.out ?_
   refine xE ?_
   have pR:=qh (yS.out.below zpX)
   clear zpX
   have z6E:=qh (zx yS.out.own.box)
   have z6F:=qh (yS.out.own.own.row.lt tb rfl).2
   have z6G:=qh (yS.out.own.own.mem.lt mb rfl).2
   have z6H:=qh yS.out.own.below.size
   go_upto_region 21 with fail
   obtain⟨t5,v5⟩:=pR.out.bR HL1.out bS.out bT.out 5 (.slice ba bl bc) (by omega) rfl
   obtain⟨pl,hpl⟩:∃pl,pl=(jl bf ⟨mod,bnd⟩ ⟨vZ,A⟩).length:=⟨_,rfl⟩
   rw [<-hpl] at jA ⊢
   have kS:=qh hpl
   clear hpl
   cases ok with
   |true=>
    have hrw:=xA (C:=W.heap.size) (jA.out rfl) z6H.out
    have hpw:=pR.out.thread HL1.out (k:=5) (by omega) (t:=⟨(qU:Int)+1, [r0,r1,r2,r3],jl bf ⟨mod,bnd⟩ ⟨vZ,A⟩⟩) (b:= .slice pa pl pc2) (u:= .slice pa pl pc2) (by rw [bS.out,bT.out];rfl) rfl (by rw [<-kS.out];exact hrw) (λk hk=>by have h1:X4.heap.size<=k:=((jA.out rfl).lt k hk).1;have:=z6E.out;have:=z6F.out;have:=z6G.out;exact⟨by omega,by omega,by omega⟩) (λk hk j hj _ e=>by have h1:X4.heap.size<=k:=((jA.out rfl).lt k hk).1;have h2:=((yS.out.own.own.buf j hj).lt k e).2;omega)
    rw [HSS.out] at hpw
    have HPW:=qh hpw
    clear hpw hrw
    go_upto_region 22 with fail
    clear t5 v5
    generalize World.setCell zmy _ _=XY at HPW ⊢
    have hres:R=some ⟨(ts.set i ⟨(qU:Int)+1, [r0,r1,r2,r3],jl bf ⟨mod,bnd⟩ ⟨vZ,A⟩⟩),mem,bad⟩:=by
     rw [jN.out,gJ xO.out.symm HM0.out (by rw [<-HVR.out, <-HA.out, <-vD.out])]
     simp only [Option.map_some]
     rw [<-HVR.out, <-HA.out]
    have zQ:=qh hres
    clear hres
    have yV:=HPW.out
    have yO:=qh yV
    clear yV
    obtain⟨⟨a0,a1,a2⟩,⟨q0,q1,q2⟩,⟨f0,f1,f2⟩,hset,hsn,hbe⟩:=yK.out XY bad yO.out.own.box yO.out.own.below
    have zJ:=qh hset
    have xS:=qh hsn
    have yI:=qh hbe
    clear hset hsn hbe
    go_wp2_with fail
    (try simp only [Exit.inBlock,Exit.then])
    refine bodyPost_ret (zC rfl _ _ (gx+3) 30 _ (0,0) _ rfl zJ.out Tryz.underlying30 rfl zI) rfl ?_
    exact⟨qR zQ.out (uD.out _ _ _ _ _ _ _ yO.out xS.out),yI.out⟩
   |false=>
   have hbx:=pR.out.own.box
   have hsY:Since (λx=>x=tb) zmy (zmy.setCell ⟨tb,i*6+5,none⟩ (.slice pa pl pc2)):=Since.setCell (F:=λx=>x=tb) (p:=⟨tb,i*6+5,none⟩) (Since.refl _ _) (.inl rfl) _
   have zcl:=(hsY.block gb (zx hbx) (λe=>pR.out.own.n1 (by rw [e];rfl))).trans hbx
   have z1h:=pR.out.own.below.trans (hsY.below pR.out.own.below.size (λx e=>by have:=(pR.out.own.own.row.lt tb rfl).1;omega))
   have xw:=qh zcl
   have z1i:=qh z1h
   clear hbx hsY zcl z1h
   have hres:R=none:=by
    rw [jN.out,bK xO.out.symm HM0.out (by rw [<-HVR.out, <-HA.out, <-vD.out])]
    rfl
   have zQ:=qh hres
   clear hres
   go_upto_region 22 with fail
   clear t5 v5
   generalize World.setCell zmy _ _=XY at xw z1i ⊢
   obtain⟨⟨a0,a1,a2⟩,⟨q0,q1,q2⟩,⟨f0,f1,f2⟩,hset, -,hbe⟩:=yK.out XY bad xw.out z1i.out
   have zJ:=qh hset
   have yI:=qh hbe
   clear hset hbe
   go_wp2_with fail
   (try simp only [Exit.inBlock,Exit.then])
   refine bodyPost_ret (zC rfl _ _ (gx+3) 30 _ (0,0) _ rfl zJ.out Tryz.underlying30 rfl zI) rfl ?_
   exact⟨uz zQ.out,yI.out⟩
 have p2:((op:Int)==2)=false:=by simp [o2]
 by_cases o3:op=3
 ·have ji:Hid ((3:Int)=x.op):=by rw [Hid, <-xO.out,o3]
  clear xO
  have xO:=ji
  clear ji
  have p3:((op:Int)==3)=true:=by simp [o3]
  clear o3
  as_aux_lemma=>
   go_upto_region 24 with fail
   have z1:=ze yS.out.instr 1
   refine wp_region_still_tail 7 (by kernel_rfl) (by kernel_rfl) ?_
   simp only [List.take_succ_cons,List.take_zero,List.drop_succ_cons,List.drop_zero]
   repeat still_step
   try refine wpStill_nil ?_
   change wpList _ _ _ _ _ X4.drew
   obtain⟨X10,zvn⟩:∃wd,wd=X4.drew:=⟨_,rfl⟩
   rw [<-zvn]
   have z2T:Hid (Below X4.heap.size X4 X10):=by rw [Hid,zvn];exact(Below.refl _ _).drew
   clear zvn
   have zsJ:=qh (yS.out.below z2T.out)
   clear z1
   obtain⟨u0,v0⟩:=zsJ.out.bR HL1.out bS.out bT.out (1+wC) (.int .i64 ([r0,r1,r2,r3].getD wC 0)) (by omega) (ze5 zbE)
   rw [<-Nat.add_assoc] at u0 v0
   have zcw:=zsJ.out.set HL1.out (k:=1+wC) (by omega) (t':=⟨(qU:Int)+1,([r0,r1,r2,r3].set wC A),bf⟩) (u:=(.int .i64 A)) bS.out bT.out (zbX zbE) (by simp) rfl
   rw [<-Nat.add_assoc] at zcw
   have zvo:=qh zcw
   clear zcw
   go_upto_region 48 with fail
   clear u0 v0
   generalize World.setCell X10 _ _=X11 at zvo ⊢
   obtain⟨z1j,z1k,z1l,z1m⟩:=zvo.out
   have z1n:=qh z1j
   have zAb:=qh z1k
   have zAc:=qh z1l
   have zAQ:=qh z1m
   clear z1j z1k z1l z1m zvo
   have hres:R=some ⟨ts.set i ⟨(qU:Int)+1, [r0,r1,r2,r3].set wC A,bf⟩,mem,bad⟩:=by
    rw [jN.out,za8 xO.out.symm]
    simp only [Option.map_some]
    rw [<-HA.out, <-HRG.out]
    rfl
   have zQ:=qh hres
   clear hres
   have yV:=z1n.out
   rw [HSS.out] at yV
   have yO:=qh yV
   clear yV
   obtain⟨⟨a0,a1,a2⟩,⟨q0,q1,q2⟩,⟨f0,f1,f2⟩,hset,hsn,hbe⟩:=yK.out X11 bad yO.out.own.box yO.out.own.below
   have zJ:=qh hset
   have xS:=qh hsn
   have yI:=qh hbe
   clear hset hsn hbe
   go_wp2_with fail
   (try simp only [Exit.inBlock,Exit.then])
   refine bodyPost_ret (zC rfl _ _ (gx+3) 30 _ (0,0) _ rfl zJ.out Tryz.underlying30 rfl zI) rfl ?_
   exact⟨qR zQ.out (uD.out _ _ _ _ _ _ _ yO.out xS.out),yI.out⟩
 have p3:((op:Int)==3)=false:=by simp [o3]
 by_cases o4:op=4
 ·have ji:Hid ((4:Int)=x.op):=by rw [Hid, <-xO.out,o4]
  clear xO
  have xO:=ji
  clear ji
  have p4:((op:Int)==4)=true:=by simp [o4]
  clear o4
  as_aux_lemma=>
   go_upto_region 26 with fail
   cases em with
   |true=>
    have hb0:bf.length=0:=by rw [<-vE.out];exact of_decide_eq_true HEM.out.symm
    have HB0:=qh hb0
    clear hb0
    have hres:R=some ⟨ts1,mem,bad⟩:=by
     rw [jN.out,wV xO.out.symm]
     rw [if_pos HB0.out,HT1.out]
     rfl
    have zQ:=qh hres
    clear hres
    have yV:=yS.out
    have yO:=qh yV
    clear yV
    obtain⟨⟨a0,a1,a2⟩,⟨q0,q1,q2⟩,⟨f0,f1,f2⟩,hset,hsn,hbe⟩:=yK.out X4 bad yO.out.own.box yO.out.own.below
    have zJ:=qh hset
    have xS:=qh hsn
    have yI:=qh hbe
    clear hset hsn hbe
    go_wp2_with fail
    (try simp only [Exit.inBlock,Exit.then])
    refine bodyPost_ret (zC rfl _ _ (gx+3) 30 _ (0,0) _ rfl zJ.out Tryz.underlying30 rfl zI) rfl ?_
    exact⟨qR zQ.out (uD.out _ _ _ _ _ _ _ yO.out xS.out),yI.out⟩
   |false=>
   have hb0:¬bf.length=0:=by rw [<-vE.out];exact of_decide_eq_false HEM.out.symm
   have HB0:=qh hb0
   clear hb0
   have hres:R=none:=by
    rw [jN.out,wV xO.out.symm]
    rw [if_neg HB0.out]
    rfl
   have zQ:=qh hres
   clear hres
   have yV:=yS.out
   have yO:=qh yV
   clear yV
   obtain⟨⟨a0,a1,a2⟩,⟨q0,q1,q2⟩,⟨f0,f1,f2⟩,hset,hsn,hbe⟩:=yK.out X4 bad yO.out.own.box yO.out.own.below
   have zJ:=qh hset
   have xS:=qh hsn
   have yI:=qh hbe
   clear hset hsn hbe
   go_wp2_with fail
   (try simp only [Exit.inBlock,Exit.then])
   refine bodyPost_ret (zC rfl _ _ (gx+3) 30 _ (0,0) _ rfl zJ.out Tryz.underlying30 rfl zI) rfl ?_
   exact⟨uz zQ.out,yI.out⟩
 have p4:((op:Int)==4)=false:=by simp [o4]
 by_cases o5:op=5
 ·have ji:Hid ((5:Int)=x.op):=by rw [Hid, <-xO.out,o5]
  clear xO
  have xO:=ji
  clear ji
  have p5:((op:Int)==5)=true:=by simp [o5]
  clear o5
  as_aux_lemma=>
   go_upto_region 28 with fail
   have CZ:Hid (∀y,Since (λk=>k=gx+3) X4 y->y.cell? ⟨gb,0,none⟩=some (.slice (some ⟨tb,0,none⟩) n xc)/\y.cell? ⟨gb,1,none⟩=some (.slice (some ⟨mb,0,none⟩) mn yc)/\y.cell? ⟨gb,2,none⟩=some (.bool bad)/\y.cell? ⟨gx+1,0,none⟩=some (.int .i64 mod)):=λy hy=>by
    have h1:=yS.out.own.box
    have hlo:=yS.out.own.lo
    have hlt:=zx H4.out
    have h2:=(hy.block _ (zx h1) (by omega)).trans h1
    have h3:=(yS.out.own.below.block _ (zx H2.out)).trans H2.out
    have h4:=(hy.block _ (zx h3) (by omega)).trans h3
    exact⟨ze h2 0,ze h2 1,ze h2 2,ze h4 0⟩
   cases em with
   |true=>
    have hb0:bf.length=0:=by rw [<-vE.out];exact of_decide_eq_true HEM.out.symm
    have HB0:=qh hb0
    clear hb0
    have hres:R=some ⟨ts1,mem,bad⟩:=by
     rw [jN.out,wL xO.out.symm]
     rw [if_pos (.inl HB0.out),HT1.out]
     rfl
    have zQ:=qh hres
    clear hres
    have yV:=yS.out
    have yO:=qh yV
    clear yV
    refine qM (S:=λy=>Since (λk=>k=gx+3) X4 y) (Since.refl _ _).drew (λ_=> ?_)
    obtain⟨wd,hwd⟩:∃wd,wd=X4.drew:=⟨_,rfl⟩
    rw [<-hwd]
    have HFX:=yK.out wd bad (by rw [hwd];exact yO.out.own.box) (by rw [hwd];exact yO.out.own.below.drew)
    have xK:Hid (Since (λk=>k=gx+3) X4 wd):=by rw [Hid,hwd];exact(Since.refl _ _).drew
    clear hwd
    refine zH 0 CZ.out (xK.out) ?_
    refine zH 1 zP (xK.out) ?_
    refine zH 2 zP (xK.out) ?_
    refine wpAnyH_take (i:=3) (v:=undef) rfl (by kernel_rfl) (by kernel_rfl) (by kernel_rfl) (λ_ _ _ h=>h) (Or.inr ⟨by rfl,rfl⟩) (xK.out) ?_
    change wpAnyH _ _ _ _ _ _ _ (Act.put _ (some 158) _) _
    simp only [Act.put,kC]
    try simp only [kD,kE]
    refine wpAnyH_take (i:=4) (v:=undef) rfl (by kernel_rfl) (by kernel_rfl) (by kernel_rfl) (λ_ _ _ h=>h) (Or.inr ⟨by rfl,rfl⟩) (xK.out) ?_
    change wpAnyH _ _ _ _ _ _ _ (Act.put _ (some 159) _) _
    simp only [Act.put,kC]
    try simp only [kD,kE]
    refine wpAnyH_take (i:=5) (v:=undef) rfl (by kernel_rfl) (by kernel_rfl) (by kernel_rfl) (λ_ _ _ h=>h) (Or.inr ⟨by rfl,rfl⟩) (xK.out) ?_
    change wpAnyH _ _ _ _ _ _ _ (Act.put _ (some 160) _) _
    simp only [Act.put,kC]
    try simp only [kD,kE]
    refine zH 6 zP (xK.out) ?_
    refine yx 7 rfl (λK hK=> ?_)
    obtain⟨-,⟨q0,q1,q2⟩,⟨f0,f1,f2⟩,hset,hsn,hbe⟩:=HFX
    have zJ:=qh hset
    have xS:=qh hsn
    have yI:=qh hbe
    clear hset hsn hbe
    go_simp
    refine hK.out _ _ (xK.out.trans xS.out (λ_ h=> .inl h)) (λ_=> ?_)
    clear hK K
    refine zH 8 zP ((xK.out.trans xS.out (λ_ h=> .inl h))) ?_
    refine xE ?_
    go_wp2_with fail
    (try simp only [Exit.inBlock,Exit.then])
    refine bodyPost_ret (zC rfl _ _ (gx+3) 30 _ (0,0) _ rfl zJ.out Tryz.underlying30 rfl zI) rfl ?_
    exact⟨qR zQ.out (uD.out _ _ _ _ _ _ _ yO.out (xK.out.trans xS.out (λ_ h=> .inl h))),yI.out⟩
   |false=>
   have hb0:¬bf.length=0:=by rw [<-vE.out];exact of_decide_eq_false HEM.out.symm
   have HB0:=qh hb0
   clear hb0
   by_cases hm2:mod=2
   rotate_left
   ·have hm3:((mod:Int) !=2)=true:=by simp [hm2]
    have HM2:=qh hm2
    clear hm2
    have hres:R=some ⟨ts1,mem,bad⟩:=by
     rw [jN.out,wL xO.out.symm]
     rw [if_pos (.inr HM2.out),HT1.out]
     rfl
    have zQ:=qh hres
    clear hres
    have yV:=yS.out
    have yO:=qh yV
    clear yV
    refine qM (S:=λy=>Since (λk=>k=gx+3) X4 y) (Since.refl _ _).drew (λ_=> ?_)
    obtain⟨wd,hwd⟩:∃wd,wd=X4.drew:=⟨_,rfl⟩
    rw [<-hwd]
    have HFX:=yK.out wd bad (by rw [hwd];exact yO.out.own.box) (by rw [hwd];exact yO.out.own.below.drew)
    have xK:Hid (Since (λk=>k=gx+3) X4 wd):=by rw [Hid,hwd];exact(Since.refl _ _).drew
    clear hwd
    refine zH 0 CZ.out (xK.out) ?_
    refine zH 1 zP (xK.out) ?_
    refine zH 2 zP (xK.out) ?_
    refine zH 3 zP (xK.out) ?_
    refine zH 4 CZ.out (xK.out) ?_
    refine zH 5 zP (xK.out) ?_
    refine zH 6 zP (xK.out) ?_
    refine yx 7 rfl (λK hK=> ?_)
    obtain⟨-,⟨q0,q1,q2⟩,⟨f0,f1,f2⟩,hset,hsn,hbe⟩:=HFX
    have zJ:=qh hset
    have xS:=qh hsn
    have yI:=qh hbe
    clear hset hsn hbe
    go_simp
    refine hK.out _ _ (xK.out.trans xS.out (λ_ h=> .inl h)) (λ_=> ?_)
    clear hK K
    refine zH 8 zP ((xK.out.trans xS.out (λ_ h=> .inl h))) ?_
    refine xE ?_
    go_wp2_with fail
    (try simp only [Exit.inBlock,Exit.then])
    refine bodyPost_ret (zC rfl _ _ (gx+3) 30 _ (0,0) _ rfl zJ.out Tryz.underlying30 rfl zI) rfl ?_
    exact⟨qR zQ.out (uD.out _ _ _ _ _ _ _ yO.out (xK.out.trans xS.out (λ_ h=> .inl h))),yI.out⟩
   have hm3:((mod:Int) !=2)=false:=by simp [hm2]
   have HM2:=qh hm2
   clear hm2
   have hres:R=none:=by
    rw [jN.out,wL xO.out.symm]
    rw [if_neg (λh=>h.elim HB0.out (λh=>h HM2.out))]
    rfl
   have zQ:=qh hres
   clear hres
   have yV:=yS.out
   have yO:=qh yV
   clear yV
   refine qM (S:=λy=>Since (λk=>k=gx+3) X4 y) (Since.refl _ _).drew (λ_=> ?_)
   obtain⟨wd,hwd⟩:∃wd,wd=X4.drew:=⟨_,rfl⟩
   rw [<-hwd]
   have HFX:=yK.out wd bad (by rw [hwd];exact yO.out.own.box) (by rw [hwd];exact yO.out.own.below.drew)
   have xK:Hid (Since (λk=>k=gx+3) X4 wd):=by rw [Hid,hwd];exact(Since.refl _ _).drew
   clear hwd
   refine zH 0 CZ.out (xK.out) ?_
   refine zH 1 zP (xK.out) ?_
   refine zH 2 zP (xK.out) ?_
   refine zH 3 zP (xK.out) ?_
   refine zH 4 CZ.out (xK.out) ?_
   refine zH 5 zP (xK.out) ?_
   refine zH 6 zP (xK.out) ?_
   refine yx 7 rfl (λK hK=> ?_)
   obtain⟨-,⟨q0,q1,q2⟩,⟨f0,f1,f2⟩,hset,hsn,hbe⟩:=HFX
   have zJ:=qh hset
   have xS:=qh hsn
   have yI:=qh hbe
   clear hset hsn hbe
   go_simp
   refine hK.out _ _ (xK.out.trans xS.out (λ_ h=> .inl h)) (λ_=> ?_)
   clear hK K
   refine zH 8 zP ((xK.out.trans xS.out (λ_ h=> .inl h))) ?_
   refine xE ?_
   go_wp2_with fail
   (try simp only [Exit.inBlock,Exit.then])
   refine bodyPost_ret (zC rfl _ _ (gx+3) 30 _ (0,0) _ rfl zJ.out Tryz.underlying30 rfl zI) rfl ?_
   exact⟨uz zQ.out,yI.out⟩
 have p5:((op:Int)==5)=false:=by simp [o5]
 by_cases o6:op=6
 ·have ji:Hid ((6:Int)=x.op):=by rw [Hid, <-xO.out,o6]
  clear xO
  have xO:=ji
  clear ji
  have p6:((op:Int)==6)=true:=by simp [o6]
  clear o6
  as_aux_lemma=>
   go_upto_region 30 with fail
   have z1:=ze yS.out.instr 1
   refine wp_region_still_tail 6 (by kernel_rfl) (by kernel_rfl) ?_
   simp only [List.take_succ_cons,List.take_zero,List.drop_succ_cons,List.drop_zero]
   repeat still_step
   try refine wpStill_nil ?_
   change wpList _ _ _ _ _ X4.drew
   obtain⟨X15,zvp⟩:∃wd,wd=X4.drew:=⟨_,rfl⟩
   rw [<-zvp]
   have z2U:Hid (Below X4.heap.size X4 X15):=by rw [Hid,zvp];exact(Below.refl _ _).drew
   clear zvp
   have zsK:=qh (yS.out.below z2U.out)
   clear z1
   obtain⟨u0,v0⟩:=zsK.out.bR HL1.out bS.out bT.out (1+wC) (.int .i64 ([r0,r1,r2,r3].getD wC 0)) (by omega) (ze5 zbE)
   rw [<-Nat.add_assoc] at u0 v0
   have hw16:=zsK.out.set HL1.out (k:=1+wC) (by omega) (t':=⟨(qU:Int)+1,([r0,r1,r2,r3].set wC 0),bf⟩) (u:=(.int .i64 0)) bS.out bT.out (zbX zbE) (by simp) rfl
   rw [<-Nat.add_assoc] at hw16
   have zvq:=qh hw16
   clear hw16
   go_upto_region 31 with fail
   clear u0 v0
   generalize World.setCell X15 _ _=X16 at zvq ⊢
   obtain⟨z1p,z1q,z1r,z1s⟩:=zvq.out
   have zaV:=qh z1p
   have zxw:=qh z1q
   have zxx:=qh z1r
   have z1t:=qh z1s
   clear z1p z1q z1r z1s zvq
   obtain⟨nv,hnv⟩:∃nv,nv=mem.getD vZ 0:=⟨_,rfl⟩
   obtain⟨sb,so,hsa, -,hsc⟩:=xC.part zeo.out vZ (by rw [<-vL.out];omega)
   subst hsa
   rw [<-hnv] at hsc
   have HNV:=qh hnv
   clear hnv
   have s1:=zi zaV.out.own.below _ _ hsc
   have c6:=(qC.out _ zaV.out.own.below).2.2.2.2.2.2.1
   have uO:(vZ:Int)<(mn:Int):=by omega
   have z2:=ze zaV.out.instr 2
   by_cases ha0:nv=A
   rotate_left
   ·have ha1:((nv:Int)==A)=false:=by simp [ha0]
    have HA0:=qh ha0
    clear ha0
    go_upto_region 34 with fail
    clear z2 s1 c6 hsc uO ha1
    cases em with
    |true=>
     have hb0:bf.length=0:=by rw [<-vE.out];exact of_decide_eq_true HEM.out.symm
     have HB0:=qh hb0
     clear hb0
     have hres:R=some ⟨ts.set i ⟨(qU:Int)+1, [r0,r1,r2,r3].set wC 0,bf⟩,mem,bad⟩:=by
      rw [jN.out,uw xO.out.symm (by rw [<-HVR.out, <-HA.out];exact λe=>HA0.out (HNV.out.trans e)),if_pos HB0.out]
      simp only [Option.map_some]
      rw [<-HRG.out]
      rfl
     have zQ:=qh hres
     clear hres
     have yV:=zaV.out
     rw [HSS.out] at yV
     have yO:=qh yV
     clear yV
     obtain⟨⟨a0,a1,a2⟩,⟨q0,q1,q2⟩,⟨f0,f1,f2⟩,hset,hsn,hbe⟩:=yK.out X16 bad yO.out.own.box yO.out.own.below
     have zJ:=qh hset
     have xS:=qh hsn
     have yI:=qh hbe
     clear hset hsn hbe
     go_wp2_with fail
     (try simp only [Exit.inBlock,Exit.then])
     refine bodyPost_ret (zC rfl _ _ (gx+3) 30 _ (0,0) _ rfl zJ.out Tryz.underlying30 rfl zI) rfl ?_
     exact⟨qR zQ.out (uD.out _ _ _ _ _ _ _ yO.out xS.out),yI.out⟩
    |false=>
    have hb0:¬bf.length=0:=by rw [<-vE.out];exact of_decide_eq_false HEM.out.symm
    have HB0:=qh hb0
    clear hb0
    have hres:R=none:=by
     rw [jN.out,uw xO.out.symm (by rw [<-HVR.out, <-HA.out];exact λe=>HA0.out (HNV.out.trans e)),if_neg HB0.out]
     rfl
    have zQ:=qh hres
    clear hres
    have yV:=zaV.out
    have yO:=qh yV
    clear yV
    obtain⟨⟨a0,a1,a2⟩,⟨q0,q1,q2⟩,⟨f0,f1,f2⟩,hset,hsn,hbe⟩:=yK.out X16 bad yO.out.own.box yO.out.own.below
    have zJ:=qh hset
    have xS:=qh hsn
    have yI:=qh hbe
    clear hset hsn hbe
    go_wp2_with fail
    (try simp only [Exit.inBlock,Exit.then])
    refine bodyPost_ret (zC rfl _ _ (gx+3) 30 _ (0,0) _ rfl zJ.out Tryz.underlying30 rfl zI) rfl ?_
    exact⟨uz zQ.out,yI.out⟩
   have ha1:((nv:Int)==A)=true:=by simp [ha0]
   have HA0:=qh ha0
   clear ha0
   go_upto_region 32 with fail
   clear z2 s1 c6 hsc uO ha1
   go_upto_region 32 with fail
   have z2:=ze zaV.out.instr 2
   have hbx:=zaV.out.own.box
   have g1:=ze hbx 1
   clear hbx
   have hml:vZ<mem.length:=by rw [<-vL.out];omega
   obtain⟨m0,m1⟩:=zaV.out.zkD hml
   have uO:(vZ:Int)<(mn:Int):=by omega
   have zmz:=qh (zaV.out.mem vZ B)
   clear hml
   go_upto_region 33 with fail
   clear z2 g1 m0 m1 uO
   generalize World.setCell X16 _ _=X17 at zmz ⊢
   go_upto_region 33 with fail
   have z1:=ze zmz.out.instr 1
   refine wp_region_still_tail 6 (by kernel_rfl) (by kernel_rfl) ?_
   simp only [List.take_succ_cons,List.take_zero,List.drop_succ_cons,List.drop_zero]
   repeat still_step
   try refine wpStill_nil ?_
   change wpList _ _ _ _ _ X17.drew
   obtain⟨X18,zvr⟩:∃wd,wd=X17.drew:=⟨_,rfl⟩
   rw [<-zvr]
   have z2V:Hid (Below X17.heap.size X17 X18):=by rw [Hid,zvr];exact(Below.refl _ _).drew
   clear zvr
   have zsL:=qh (zmz.out.below z2V.out)
   clear z1
   obtain⟨u0,v0⟩:=zsL.out.bR z1t.out zxw.out zxx.out (1+wC) (.int .i64 ([0,0,0,0].getD wC 0)) (by omega) (zs8 zbE)
   rw [<-Nat.add_assoc] at u0 v0
   have zvs:=zsL.out.set z1t.out (k:=1+wC) (by omega) (t':=⟨(qU:Int)+1,([r0,r1,r2,r3].set wC 1),bf⟩) (u:=(.int .i64 1)) zxw.out zxx.out (zns zbE) (by simp) rfl
   rw [<-Nat.add_assoc] at zvs
   have zvt:=qh zvs
   clear zvs
   go_upto_region 34 with fail
   clear u0 v0
   generalize World.setCell X18 _ _=X19 at zvt ⊢
   obtain⟨z1v,z1w,z1x,z1y⟩:=zvt.out
   have zsM:=qh z1v
   have zAd:=qh z1w
   have zAe:=qh z1x
   have zAR:=qh z1y
   clear z1v z1w z1x z1y zvt
   cases em with
   |true=>
    have hb0:bf.length=0:=by rw [<-vE.out];exact of_decide_eq_true HEM.out.symm
    have HB0:=qh hb0
    clear hb0
    have hres:R=some ⟨ts.set i ⟨(qU:Int)+1, [r0,r1,r2,r3].set wC 1,bf⟩,(mem.set vZ B),bad⟩:=by
     rw [jN.out,uq xO.out.symm (by rw [<-HVR.out, <-HA.out, <-HA0.out,HNV.out];rfl),if_pos HB0.out]
     simp only [Option.map_some]
     rw [<-HVR.out, <-yI.out, <-HRG.out]
     rfl
    have zQ:=qh hres
    clear hres
    have yV:=zsM.out
    rw [List.set_set,HSS.out] at yV
    have yO:=qh yV
    clear yV
    obtain⟨⟨a0,a1,a2⟩,⟨q0,q1,q2⟩,⟨f0,f1,f2⟩,hset,hsn,hbe⟩:=yK.out X19 bad yO.out.own.box yO.out.own.below
    have zJ:=qh hset
    have xS:=qh hsn
    have yI:=qh hbe
    clear hset hsn hbe
    go_wp2_with fail
    (try simp only [Exit.inBlock,Exit.then])
    refine bodyPost_ret (zC rfl _ _ (gx+3) 30 _ (0,0) _ rfl zJ.out Tryz.underlying30 rfl zI) rfl ?_
    exact⟨qR zQ.out (uD.out _ _ _ _ _ _ _ yO.out xS.out),yI.out⟩
   |false=>
   have hb0:¬bf.length=0:=by rw [<-vE.out];exact of_decide_eq_false HEM.out.symm
   have HB0:=qh hb0
   clear hb0
   have hres:R=none:=by
    rw [jN.out,uq xO.out.symm (by rw [<-HVR.out, <-HA.out, <-HA0.out,HNV.out];rfl),if_neg HB0.out]
    rfl
   have zQ:=qh hres
   clear hres
   have yV:=zsM.out
   have yO:=qh yV
   clear yV
   obtain⟨⟨a0,a1,a2⟩,⟨q0,q1,q2⟩,⟨f0,f1,f2⟩,hset,hsn,hbe⟩:=yK.out X19 bad yO.out.own.box yO.out.own.below
   have zJ:=qh hset
   have xS:=qh hsn
   have yI:=qh hbe
   clear hset hsn hbe
   go_wp2_with fail
   (try simp only [Exit.inBlock,Exit.then])
   refine bodyPost_ret (zC rfl _ _ (gx+3) 30 _ (0,0) _ rfl zJ.out Tryz.underlying30 rfl zI) rfl ?_
   exact⟨uz zQ.out,yI.out⟩
 have p6:((op:Int)==6)=false:=by simp [o6]
 by_cases o7:op=7
 ·have ji:Hid ((7:Int)=x.op):=by rw [Hid, <-xO.out,o7]
  clear xO
  have xO:=ji
  clear ji
  have p7:((op:Int)==7)=true:=by simp [o7]
  clear o7
  as_aux_lemma=>
   obtain⟨nv,hnv⟩:∃nv,nv=mem.getD vZ 0:=⟨_,rfl⟩
   obtain⟨sb,so,hsa,hsb,hsc⟩:=xC.part zeo.out vZ (by rw [<-vL.out];omega)
   subst hsa
   rw [<-hnv] at hsc
   have HNV:=qh hnv
   have HSC:=qh hsc
   clear hnv hsc hsb
   obtain⟨sb2,so2,he2,z6I, -⟩:=xC.part z6y.out vZ (by rw [<-vL.out];omega)
   cases he2
   have HSG:Hid (¬sb=gx+3):=λe=>by have:=yX.out;omega
   clear z6I
   go_upto_region 36 with fail
   have z2:=ze yS.out.instr 2
   have hbx:=yS.out.own.box
   have g1:=ze hbx 1
   clear hbx
   have hml:vZ<mem.length:=by rw [<-vL.out];omega
   obtain⟨m0,m1⟩:=yS.out.zkD hml
   have uO:(vZ:Int)<(mn:Int):=by omega
   have zaW:=qh (yS.out.mem vZ 1)
   clear hml
   go_upto_region 37 with fail
   clear z2 g1 m0 m1 uO
   generalize World.setCell X4 _ _=X20 at zaW ⊢
   have uO:(vZ:Int)<(mn:Int):=by omega
   have CZ:Hid (∀y,Since (λk=>k=gx+3) X20 y->y.cell? ⟨gb,0,none⟩=some (.slice (some ⟨tb,0,none⟩) n xc)/\y.cell? ⟨gb,1,none⟩=some (.slice (some ⟨mb,0,none⟩) mn yc)/\y.cell? ⟨gb,2,none⟩=some (.bool bad)/\y.cell? ⟨gx+2,1,none⟩=some (.slice (some ⟨sb,so,none⟩) mn vY)/\y.cell? ⟨gi,2,none⟩=some (.int .i64 vZ)/\y.cell? ⟨sb,so+vZ,none⟩=some (.int .i64 nv)):=λy hy=>by
    have h1:=zaW.out.own.box
    have hlo:=zaW.out.own.lo
    have hlt:=zx H4.out
    have h2:=(hy.block _ (zx h1) (by omega)).trans h1
    have h3:=(zaW.out.own.below.block _ (zx H3.out)).trans H3.out
    have h4:=(hy.block _ (zx h3) (by omega)).trans h3
    have h5:=zaW.out.instr
    have h6:=(hy.block _ (zx h5) HGI.out).trans h5
    have h7:=zi zaW.out.own.below _ _ HSC.out
    have h8:=(hy.cell (p:=⟨sb,so+vZ,none⟩) (World.block_lt_of_cell? _ _ h7) HSG.out).trans h7
    exact⟨ze h2 0,ze h2 1,ze h2 2,ze h4 1,ze h6 2,h8⟩
   cases em with
   |true=>
    have hb0:bf.length=0:=by rw [<-vE.out];exact of_decide_eq_true HEM.out.symm
    have HB0:=qh hb0
    clear hb0
    by_cases ha0:nv=0
    rotate_left
    ·have ha1:((nv:Int)==0)=false:=by simp [ha0]
     have HA0:=qh ha0
     clear ha0
     have hres:R=none:=by
      rw [jN.out,wM xO.out.symm]
      rw [if_neg (λh=>HA0.out (by have:=h.2;rw [<-HVR.out] at this;exact HNV.out.trans this))]
      rfl
     have zQ:=qh hres
     clear hres
     have yV:=zaW.out
     have yO:=qh yV
     clear yV
     refine qM (S:=λy=>Since (λk=>k=gx+3) X20 y) (Since.refl _ _).drew (λ_=> ?_)
     obtain⟨wd,hwd⟩:∃wd,wd=X20.drew:=⟨_,rfl⟩
     rw [<-hwd]
     have HFX:=yK.out wd bad (by rw [hwd];exact yO.out.own.box) (by rw [hwd];exact yO.out.own.below.drew)
     have xK:Hid (Since (λk=>k=gx+3) X20 wd):=by rw [Hid,hwd];exact(Since.refl _ _).drew
     clear hwd
     refine zH 0 CZ.out (xK.out) ?_
     refine zH 1 zP (xK.out) ?_
     refine zH 2 zP (xK.out) ?_
     refine zH 3 zP (xK.out) ?_
     refine zH 4 CZ.out (xK.out) ?_
     refine zH 5 zP (xK.out) ?_
     refine zH 6 CZ.out (xK.out) ?_
     refine zH 7 zP (xK.out) ?_
     refine zH 8 CZ.out (xK.out) ?_
     refine zH 9 zP (xK.out) ?_
     refine zH 10 zP (xK.out) ?_
     refine yx 11 rfl (λK hK=> ?_)
     obtain⟨-,⟨q0,q1,q2⟩,⟨f0,f1,f2⟩,hset,hsn,hbe⟩:=HFX
     have zJ:=qh hset
     have xS:=qh hsn
     have yI:=qh hbe
     clear hset hsn hbe
     go_simp
     refine hK.out _ _ (xK.out.trans xS.out (λ_ h=> .inl h)) (λ_=> ?_)
     clear hK K
     refine zH 12 zP ((xK.out.trans xS.out (λ_ h=> .inl h))) ?_
     refine xE ?_
     go_wp2_with fail
     (try simp only [Exit.inBlock,Exit.then])
     refine bodyPost_ret (zC rfl _ _ (gx+3) 30 _ (0,0) _ rfl zJ.out Tryz.underlying30 rfl zI) rfl ?_
     exact⟨uz zQ.out,yI.out⟩
    have ha1:((nv:Int)==0)=true:=by simp [ha0]
    have HA0:=qh ha0
    clear ha0
    have hres:R=some ⟨ts1,(mem.set vZ 1),bad⟩:=by
     rw [jN.out,wM xO.out.symm]
     rw [if_pos ⟨HB0.out,by rw [<-HVR.out];exact HNV.out.symm.trans HA0.out⟩]
     simp only [Option.map_some]
     rw [<-HVR.out,HT1.out]
     rfl
    have zQ:=qh hres
    clear hres
    have yV:=zaW.out
    have yO:=qh yV
    clear yV
    refine qM (S:=λy=>Since (λk=>k=gx+3) X20 y) (Since.refl _ _).drew (λ_=> ?_)
    obtain⟨wd,hwd⟩:∃wd,wd=X20.drew:=⟨_,rfl⟩
    rw [<-hwd]
    have HFX:=yK.out wd bad (by rw [hwd];exact yO.out.own.box) (by rw [hwd];exact yO.out.own.below.drew)
    have xK:Hid (Since (λk=>k=gx+3) X20 wd):=by rw [Hid,hwd];exact(Since.refl _ _).drew
    clear hwd
    refine zH 0 CZ.out (xK.out) ?_
    refine zH 1 zP (xK.out) ?_
    refine zH 2 zP (xK.out) ?_
    refine zH 3 zP (xK.out) ?_
    refine zH 4 CZ.out (xK.out) ?_
    refine zH 5 zP (xK.out) ?_
    refine zH 6 CZ.out (xK.out) ?_
    refine zH 7 zP (xK.out) ?_
    refine zH 8 CZ.out (xK.out) ?_
    refine zH 9 zP (xK.out) ?_
    refine zH 10 zP (xK.out) ?_
    refine yx 11 rfl (λK hK=> ?_)
    obtain⟨-,⟨q0,q1,q2⟩,⟨f0,f1,f2⟩,hset,hsn,hbe⟩:=HFX
    have zJ:=qh hset
    have xS:=qh hsn
    have yI:=qh hbe
    clear hset hsn hbe
    go_simp
    refine hK.out _ _ (xK.out.trans xS.out (λ_ h=> .inl h)) (λ_=> ?_)
    clear hK K
    refine zH 12 zP ((xK.out.trans xS.out (λ_ h=> .inl h))) ?_
    refine xE ?_
    go_wp2_with fail
    (try simp only [Exit.inBlock,Exit.then])
    refine bodyPost_ret (zC rfl _ _ (gx+3) 30 _ (0,0) _ rfl zJ.out Tryz.underlying30 rfl zI) rfl ?_
    exact⟨qR zQ.out (uD.out _ _ _ _ _ _ _ yO.out (xK.out.trans xS.out (λ_ h=> .inl h))),yI.out⟩
   |false=>
   have hb0:¬bf.length=0:=by rw [<-vE.out];exact of_decide_eq_false HEM.out.symm
   have HB0:=qh hb0
   clear hb0
   have hres:R=none:=by
    rw [jN.out,wM xO.out.symm]
    rw [if_neg (λh=>HB0.out h.1)]
    rfl
   have zQ:=qh hres
   clear hres
   have yV:=zaW.out
   have yO:=qh yV
   clear yV
   refine qM (S:=λy=>Since (λk=>k=gx+3) X20 y) (Since.refl _ _).drew (λ_=> ?_)
   obtain⟨wd,hwd⟩:∃wd,wd=X20.drew:=⟨_,rfl⟩
   rw [<-hwd]
   have HFX:=yK.out wd bad (by rw [hwd];exact yO.out.own.box) (by rw [hwd];exact yO.out.own.below.drew)
   have xK:Hid (Since (λk=>k=gx+3) X20 wd):=by rw [Hid,hwd];exact(Since.refl _ _).drew
   clear hwd
   refine zH 0 CZ.out (xK.out) ?_
   refine zH 1 zP (xK.out) ?_
   refine zH 2 zP (xK.out) ?_
   refine wpAnyH_take (i:=3) (v:=undef) rfl (by kernel_rfl) (by kernel_rfl) (by kernel_rfl) (λ_ _ _ h=>h) (Or.inr ⟨by rfl,rfl⟩) (xK.out) ?_
   change wpAnyH _ _ _ _ _ _ _ (Act.put _ (some 202) _) _
   simp only [Act.put,kC]
   try simp only [kD,kE]
   refine wpAnyH_take (i:=4) (v:=undef) rfl (by kernel_rfl) (by kernel_rfl) (by kernel_rfl) (λ_ _ _ h=>h) (Or.inr ⟨by rfl,rfl⟩) (xK.out) ?_
   change wpAnyH _ _ _ _ _ _ _ (Act.put _ (some 203) _) _
   simp only [Act.put,kC]
   try simp only [kD,kE]
   refine wpAnyH_take (i:=5) (v:=undef) rfl (by kernel_rfl) (by kernel_rfl) (by kernel_rfl) (λ_ _ _ h=>h) (Or.inr ⟨by rfl,rfl⟩) (xK.out) ?_
   change wpAnyH _ _ _ _ _ _ _ (Act.put _ (some 204) _) _
   simp only [Act.put,kC]
   try simp only [kD,kE]
   refine wpAnyH_take (i:=6) (v:=undef) rfl (by kernel_rfl) (by kernel_rfl) (by kernel_rfl) (λ_ _ _ h=>h) (Or.inr ⟨by rfl,rfl⟩) (xK.out) ?_
   change wpAnyH _ _ _ _ _ _ _ (Act.put _ (some 205) _) _
   simp only [Act.put,kC]
   try simp only [kD,kE]
   refine wpAnyH_take (i:=7) (v:=undef) rfl (by kernel_rfl) (by kernel_rfl) (by kernel_rfl) (λ_ _ _ h=>h) (Or.inr ⟨by rfl,rfl⟩) (xK.out) ?_
   change wpAnyH _ _ _ _ _ _ _ (Act.put _ (some 206) _) _
   simp only [Act.put,kC]
   try simp only [kD,kE]
   refine wpAnyH_take (i:=8) (v:=undef) rfl (by kernel_rfl) (by kernel_rfl) (by kernel_rfl) (λ_ _ _ h=>h) (Or.inr ⟨by rfl,rfl⟩) (xK.out) ?_
   change wpAnyH _ _ _ _ _ _ _ (Act.put _ (some 207) _) _
   simp only [Act.put,kC]
   try simp only [kD,kE]
   refine wpAnyH_take (i:=9) (v:=undef) rfl (by kernel_rfl) (by kernel_rfl) (by kernel_rfl) (λ_ _ _ h=>h) (Or.inr ⟨by rfl,rfl⟩) (xK.out) ?_
   change wpAnyH _ _ _ _ _ _ _ (Act.put _ (some 208) _) _
   simp only [Act.put,kC]
   try simp only [kD,kE]
   refine zH 10 zP (xK.out) ?_
   refine yx 11 rfl (λK hK=> ?_)
   obtain⟨-,⟨q0,q1,q2⟩,⟨f0,f1,f2⟩,hset,hsn,hbe⟩:=HFX
   have zJ:=qh hset
   have xS:=qh hsn
   have yI:=qh hbe
   clear hset hsn hbe
   go_simp
   refine hK.out _ _ (xK.out.trans xS.out (λ_ h=> .inl h)) (λ_=> ?_)
   clear hK K
   refine zH 12 zP ((xK.out.trans xS.out (λ_ h=> .inl h))) ?_
   refine xE ?_
   go_wp2_with fail
   (try simp only [Exit.inBlock,Exit.then])
   refine bodyPost_ret (zC rfl _ _ (gx+3) 30 _ (0,0) _ rfl zJ.out Tryz.underlying30 rfl zI) rfl ?_
   exact⟨uz zQ.out,yI.out⟩
 have p7:((op:Int)==7)=false:=by simp [o7]
 by_cases o8:op=8
 ·have ji:Hid ((8:Int)=x.op):=by rw [Hid, <-xO.out,o8]
  clear xO
  have xO:=ji
  clear ji
  have p8:((op:Int)==8)=true:=by simp [o8]
  clear o8
  as_aux_lemma=>
   go_upto_region 39 with fail
   have z2:=ze yS.out.instr 2
   have hbx:=yS.out.own.box
   have g1:=ze hbx 1
   clear hbx
   have hml:vZ<mem.length:=by rw [<-vL.out];omega
   obtain⟨m0,m1⟩:=yS.out.zkD hml
   have uO:(vZ:Int)<(mn:Int):=by omega
   have zm0:=qh (yS.out.mem vZ 0)
   clear hml
   go_upto_region 40 with fail
   clear z2 g1 m0 m1 uO
   generalize World.setCell X4 _ _=X24 at zm0 ⊢
   cases em with
   |true=>
    have hb0:bf.length=0:=by rw [<-vE.out];exact of_decide_eq_true HEM.out.symm
    have HB0:=qh hb0
    clear hb0
    have hres:R=some ⟨ts1,(mem.set vZ 0),bad⟩:=by
     rw [jN.out,wh xO.out.symm]
     rw [if_pos HB0.out]
     simp only [Option.map_some]
     rw [<-HVR.out,HT1.out]
     rfl
    have zQ:=qh hres
    clear hres
    have yV:=zm0.out
    have yO:=qh yV
    clear yV
    obtain⟨⟨a0,a1,a2⟩,⟨q0,q1,q2⟩,⟨f0,f1,f2⟩,hset,hsn,hbe⟩:=yK.out X24 bad yO.out.own.box yO.out.own.below
    have zJ:=qh hset
    have xS:=qh hsn
    have yI:=qh hbe
    clear hset hsn hbe
    go_wp2_with fail
    (try simp only [Exit.inBlock,Exit.then])
    refine bodyPost_ret (zC rfl _ _ (gx+3) 30 _ (0,0) _ rfl zJ.out Tryz.underlying30 rfl zI) rfl ?_
    exact⟨qR zQ.out (uD.out _ _ _ _ _ _ _ yO.out xS.out),yI.out⟩
   |false=>
   have hb0:¬bf.length=0:=by rw [<-vE.out];exact of_decide_eq_false HEM.out.symm
   have HB0:=qh hb0
   clear hb0
   have hres:R=none:=by
    rw [jN.out,wh xO.out.symm]
    rw [if_neg HB0.out]
    rfl
   have zQ:=qh hres
   clear hres
   have yV:=zm0.out
   have yO:=qh yV
   clear yV
   obtain⟨⟨a0,a1,a2⟩,⟨q0,q1,q2⟩,⟨f0,f1,f2⟩,hset,hsn,hbe⟩:=yK.out X24 bad yO.out.own.box yO.out.own.below
   have zJ:=qh hset
   have xS:=qh hsn
   have yI:=qh hbe
   clear hset hsn hbe
   go_wp2_with fail
   (try simp only [Exit.inBlock,Exit.then])
   refine bodyPost_ret (zC rfl _ _ (gx+3) 30 _ (0,0) _ rfl zJ.out Tryz.underlying30 rfl zI) rfl ?_
   exact⟨uz zQ.out,yI.out⟩
 have p8:((op:Int)==8)=false:=by simp [o8]
 by_cases o9:op=9
 ·have ji:Hid ((9:Int)=x.op):=by rw [Hid, <-xO.out,o9]
  clear xO
  have xO:=ji
  clear ji
  have p9:((op:Int)==9)=true:=by simp [o9]
  clear o9
  as_aux_lemma=>
   go_upto_region 42 with fail
   have hbx:=yS.out.own.box
   have g2:=ze hbx 2
   have h2:=zD hbx 2
   clear hbx
   cases bad with
   |true=>
    have zsN:=qh (yS.out.isBad true)
    go_upto_region 48 with fail
    clear g2 h2
    generalize World.setCell X4 _ _=X25 at zsN ⊢
    have hres:R=some ⟨ts1,mem,true⟩:=by
     rw [jN.out,jR xO.out.symm]
     rw [HT1.out]
     rfl
    have zQ:=qh hres
    clear hres
    have yV:=zsN.out
    have yO:=qh yV
    clear yV
    obtain⟨⟨a0,a1,a2⟩,⟨q0,q1,q2⟩,⟨f0,f1,f2⟩,hset,hsn,hbe⟩:=yK.out X25 true yO.out.own.box yO.out.own.below
    have zJ:=qh hset
    have xS:=qh hsn
    have yI:=qh hbe
    clear hset hsn hbe
    go_wp2_with fail
    (try simp only [Exit.inBlock,Exit.then])
    refine bodyPost_ret (zC rfl _ _ (gx+3) 30 _ (0,0) _ rfl zJ.out Tryz.underlying30 rfl zI) rfl ?_
    exact⟨qR zQ.out (uD.out _ _ _ _ _ _ _ yO.out xS.out),yI.out⟩
   |false=>
   by_cases ha0:A=0
   rotate_left
   ·have ha1:((A:Int)==0)=false:=by simp [ha0]
    have HA0:=qh ha0
    clear ha0
    have zsO:=qh (yS.out.isBad false)
    go_upto_region 48 with fail
    clear g2 h2
    generalize World.setCell X4 _ _=X27 at zsO ⊢
    have hres:R=some ⟨ts1,mem,false⟩:=by
     rw [jN.out,jR xO.out.symm]
     rw [HT1.out, <-HA.out,decide_eq_false HA0.out]
     rfl
    have zQ:=qh hres
    clear hres
    have yV:=zsO.out
    have yO:=qh yV
    clear yV
    obtain⟨⟨a0,a1,a2⟩,⟨q0,q1,q2⟩,⟨f0,f1,f2⟩,hset,hsn,hbe⟩:=yK.out X27 false yO.out.own.box yO.out.own.below
    have zJ:=qh hset
    have xS:=qh hsn
    have yI:=qh hbe
    clear hset hsn hbe
    go_wp2_with fail
    (try simp only [Exit.inBlock,Exit.then])
    refine bodyPost_ret (zC rfl _ _ (gx+3) 30 _ (0,0) _ rfl zJ.out Tryz.underlying30 rfl zI) rfl ?_
    exact⟨qR zQ.out (uD.out _ _ _ _ _ _ _ yO.out xS.out),yI.out⟩
   have ha1:((A:Int)==0)=true:=by simp [ha0]
   have HA0:=qh ha0
   clear ha0
   have zsP:=qh (yS.out.isBad true)
   go_upto_region 48 with fail
   clear g2 h2
   generalize World.setCell X4 _ _=X26 at zsP ⊢
   have hres:R=some ⟨ts1,mem,true⟩:=by
    rw [jN.out,jR xO.out.symm]
    rw [HT1.out, <-HA.out,decide_eq_true HA0.out]
    rfl
   have zQ:=qh hres
   clear hres
   have yV:=zsP.out
   have yO:=qh yV
   clear yV
   obtain⟨⟨a0,a1,a2⟩,⟨q0,q1,q2⟩,⟨f0,f1,f2⟩,hset,hsn,hbe⟩:=yK.out X26 true yO.out.own.box yO.out.own.below
   have zJ:=qh hset
   have xS:=qh hsn
   have yI:=qh hbe
   clear hset hsn hbe
   go_wp2_with fail
   (try simp only [Exit.inBlock,Exit.then])
   refine bodyPost_ret (zC rfl _ _ (gx+3) 30 _ (0,0) _ rfl zJ.out Tryz.underlying30 rfl zI) rfl ?_
   exact⟨qR zQ.out (uD.out _ _ _ _ _ _ _ yO.out xS.out),yI.out⟩
 have p9:((op:Int)==9)=false:=by simp [o9]
 by_cases o12:op=12
 rotate_left
 ·have p12:((op:Int)==12)=false:=by simp [o12]
  by_cases o13:op=13
  rotate_left
  ·have p13:((op:Int)==13)=false:=by simp [o13]
   as_aux_lemma=>
    go_upto_region 48 with fail
    have hres:R=some ⟨ts1,mem,bad⟩:=by
     rw [jN.out,zam (by rw [<-xO.out];exact o1) (by rw [<-xO.out];exact o2) (by rw [<-xO.out];exact o3) (by rw [<-xO.out];exact o4) (by rw [<-xO.out];exact o5) (by rw [<-xO.out];exact o6) (by rw [<-xO.out];exact o7) (by rw [<-xO.out];exact o8) (by rw [<-xO.out];exact o9) (by rw [<-xO.out];exact o12) (by rw [<-xO.out];exact o13),HT1.out]
     rfl
    have zQ:=qh hres
    clear hres
    have yV:=yS.out
    have yO:=qh yV
    clear yV
    obtain⟨⟨a0,a1,a2⟩,⟨q0,q1,q2⟩,⟨f0,f1,f2⟩,hset,hsn,hbe⟩:=yK.out X4 bad yO.out.own.box yO.out.own.below
    have zJ:=qh hset
    have xS:=qh hsn
    have yI:=qh hbe
    clear hset hsn hbe
    go_wp2_with fail
    (try simp only [Exit.inBlock,Exit.then])
    refine bodyPost_ret (zC rfl _ _ (gx+3) 30 _ (0,0) _ rfl zJ.out Tryz.underlying30 rfl zI) rfl ?_
    exact⟨qR zQ.out (uD.out _ _ _ _ _ _ _ yO.out xS.out),yI.out⟩
  have ji:Hid ((13:Int)=x.op):=by rw [Hid, <-xO.out,o13]
  clear xO
  have xO:=ji
  clear ji
  have p13:((op:Int)==13)=true:=by simp [o13]
  clear o13
  as_aux_lemma=>
   go_upto_region 47 with fail
   have z11:=ze yS.out.instr 11
   obtain⟨u0,v0⟩:=yS.out.bR HL1.out bS.out bT.out 0 (.int .i64 ((qU:Int)+1)) (by omega) rfl
   rw [Nat.add_zero] at u0 v0
   have zm1:=yS.out.set HL1.out (k:=0) (by omega) (t':=⟨dst, [r0,r1,r2,r3],bf⟩) (u:=(.int .i64 dst)) bS.out bT.out rfl (by simp) rfl
   rw [Nat.add_zero] at zm1
   have zvu:=qh zm1
   clear zm1
   go_upto_region 48 with fail
   clear u0 v0 z11
   generalize World.setCell X4 _ _=X29 at zvu ⊢
   obtain⟨z13,z14,z15,z16⟩:=zvu.out
   have z18:=qh z13
   have zAf:=qh z14
   have zAg:=qh z15
   have zAS:=qh z16
   clear z13 z14 z15 z16 zvu
   have hres:R=some ⟨ts.set i ⟨dst, [r0,r1,r2,r3],bf⟩,mem,bad⟩:=by
    rw [jN.out,pG xO.out.symm]
    simp only [Option.map_some]
    rw [<-HDS.out]
   have zQ:=qh hres
   clear hres
   have yV:=z18.out
   rw [HSS.out] at yV
   have yO:=qh yV
   clear yV
   obtain⟨⟨a0,a1,a2⟩,⟨q0,q1,q2⟩,⟨f0,f1,f2⟩,hset,hsn,hbe⟩:=yK.out X29 bad yO.out.own.box yO.out.own.below
   have zJ:=qh hset
   have xS:=qh hsn
   have yI:=qh hbe
   clear hset hsn hbe
   go_wp2_with fail
   (try simp only [Exit.inBlock,Exit.then])
   refine bodyPost_ret (zC rfl _ _ (gx+3) 30 _ (0,0) _ rfl zJ.out Tryz.underlying30 rfl zI) rfl ?_
   exact⟨qR zQ.out (uD.out _ _ _ _ _ _ _ yO.out xS.out),yI.out⟩
 have ji:Hid ((12:Int)=x.op):=by rw [Hid, <-xO.out,o12]
 clear xO
 have xO:=ji
 clear ji
 have p12:((op:Int)==12)=true:=by simp [o12]
 clear o12
 as_aux_lemma=>
  go_upto_region 44 with fail
  by_cases ha0:A=0
  rotate_left
  ·have ha1:((A:Int)==0)=false:=by simp [ha0]
   have HA0:=qh ha0
   clear ha0
   go_upto_region 48 with fail
   clear ha1
   have hres:R=some ⟨ts1,mem,bad⟩:=by
    rw [jN.out,wu xO.out.symm]
    rw [<-HA.out,if_neg HA0.out,HT1.out]
    rfl
   have zQ:=qh hres
   clear hres
   have yV:=yS.out
   have yO:=qh yV
   clear yV
   obtain⟨⟨a0,a1,a2⟩,⟨q0,q1,q2⟩,⟨f0,f1,f2⟩,hset,hsn,hbe⟩:=yK.out X4 bad yO.out.own.box yO.out.own.below
   have zJ:=qh hset
   have xS:=qh hsn
   have yI:=qh hbe
   clear hset hsn hbe
   go_wp2_with fail
   (try simp only [Exit.inBlock,Exit.then])
   refine bodyPost_ret (zC rfl _ _ (gx+3) 30 _ (0,0) _ rfl zJ.out Tryz.underlying30 rfl zI) rfl ?_
   exact⟨qR zQ.out (uD.out _ _ _ _ _ _ _ yO.out xS.out),yI.out⟩
  have ha1:((A:Int)==0)=true:=by simp [ha0]
  have HA0:=qh ha0
  clear ha0
  go_upto_region 45 with fail
  clear ha1
  have z11:=ze yS.out.instr 11
  obtain⟨u0,v0⟩:=yS.out.bR HL1.out bS.out bT.out 0 (.int .i64 ((qU:Int)+1)) (by omega) rfl
  rw [Nat.add_zero] at u0 v0
  have zjo:=yS.out.set HL1.out (k:=0) (by omega) (t':=⟨dst, [r0,r1,r2,r3],bf⟩) (u:=(.int .i64 dst)) bS.out bT.out rfl (by simp) rfl
  rw [Nat.add_zero] at zjo
  have zvv:=qh zjo
  clear zjo
  go_upto_region 48 with fail
  clear u0 v0 z11
  generalize World.setCell X4 _ _=X28 at zvv ⊢
  obtain⟨z19,z1A,z1B,z1C⟩:=zvv.out
  have z1D:=qh z19
  have zAh:=qh z1A
  have zAi:=qh z1B
  have zAT:=qh z1C
  clear z19 z1A z1B z1C zvv
  have hres:R=some ⟨ts.set i ⟨dst, [r0,r1,r2,r3],bf⟩,mem,bad⟩:=by
   rw [jN.out,wu xO.out.symm]
   rw [<-HA.out,if_pos HA0.out, <-HDS.out]
   rfl
  have zQ:=qh hres
  clear hres
  have yV:=z1D.out
  rw [HSS.out] at yV
  have yO:=qh yV
  clear yV
  obtain⟨⟨a0,a1,a2⟩,⟨q0,q1,q2⟩,⟨f0,f1,f2⟩,hset,hsn,hbe⟩:=yK.out X28 bad yO.out.own.box yO.out.own.below
  have zJ:=qh hset
  have xS:=qh hsn
  have yI:=qh hbe
  clear hset hsn hbe
  go_wp2_with fail
  (try simp only [Exit.inBlock,Exit.then])
  refine bodyPost_ret (zC rfl _ _ (gx+3) 30 _ (0,0) _ rfl zJ.out Tryz.underlying30 rfl zI) rfl ?_
  exact⟨qR zQ.out (uD.out _ _ _ _ _ _ _ yO.out xS.out),yI.out⟩
