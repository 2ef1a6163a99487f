/- Steps. -/
import Derived.Test.YteggflahafiieaaGreatDoorZgOwn
import Derived.Test.YteggflahafiieaaGreatDoorZgOwnS
set_option linter.all false
namespace Go.Proofs.YteggflahafiieaaGreatDoor
open Go.RowKit
set_option maxRecDepth 100000
set_option maxHeartbeats 16000000
structure qY (W X:World) (gb gi tb n tc mb mn mc:Nat) (bad:Bool) (ts:List zo) (mem:List Int) (bs:List Value) (kr:List Value):Prop where
 own:qZ W X gb (.slice (some ⟨tb,0,none⟩) n tc) (.slice (some ⟨mb,0,none⟩) mn mc) bad ts mem bs
 instr:X.heap[gi]? =some (.cells kr.toArray 53 (0,0))
 g1:gi≠gb
 g2:gi≠tb
 g3:gi≠mb
theorem qY.below {W X X':World} {gb gi tb n tc mb mn mc:Nat} {bad:Bool} {ts:List zo} {mem:List Int} {bs kr:List Value} (h:qY W X gb gi tb n tc mb mn mc bad ts mem bs kr) (hb:Below X.heap.size X X'):qY W X' gb gi tb n tc mb mn mc bad ts mem bs kr:=
 ⟨h.own.later hb,(hb.block _ (zq h.instr)).trans h.instr,h.g1,h.g2,h.g3⟩
theorem qY.thread {W X:World} {gb gi tb n tc mb mn mc:Nat} {bad:Bool} {ts:List zo} {mem:List Int} {bs kr:List Value} (h:qY W X gb gi tb n tc mb mn mc bad ts mem bs kr) {i k:Nat} (hi:i<ts.length) (hk:k<6) {t:zo} {b u:Value}
  (hc:t.cells b=((ts.getD i default).cells (bs.getD i (.slice none 0 0))).set k u) (hr:t.regs.length=4) (hb:X.ownsRow W.heap.size 136 2 b t.buf.length (zl zi.cells t.buf)) (hn:∀k,b.ownBlock=some k->k≠tb/\k≠mb/\k≠gb)
  (hd:∀k,b.ownBlock=some k->∀j,j<ts.length->j≠i->(bs.getD j (.slice none 0 0)).ownBlock≠some k):
  qY W (X.setCell ⟨tb,i*6+k,none⟩ u) gb gi tb n tc mb mn mc bad (ts.set i t) mem (bs.set i b) kr:=
 ⟨h.own.thread hi hk hc hr hb (λk hk=>⟨(hn k hk).1,λe=>(hn k hk).2.1 (by simpa [Value.ownBlock] using e.symm),(hn k hk).2.2⟩) hd,(Below.heap_setCell _ _ _ _ h.g2).trans h.instr,h.g1,h.g2,h.g3⟩
theorem qY.mem {W X:World} {gb gi tb n tc mb mn mc:Nat} {bad:Bool} {ts:List zo} {mem:List Int} {bs kr:List Value} (h:qY W X gb gi tb n tc mb mn mc bad ts mem bs kr) (j:Nat) (x:Int):
  qY W (X.setCell ⟨mb,j,none⟩ (.int .i64 x)) gb gi tb n tc mb mn mc bad ts (mem.set j x) bs kr:=
 ⟨h.own.mem j x,(Below.heap_setCell _ _ _ _ h.g3).trans h.instr,h.g1,h.g2,h.g3⟩
theorem qY.isBad {W X:World} {gb gi tb n tc mb mn mc:Nat} {bad:Bool} {ts:List zo} {mem:List Int} {bs kr:List Value} (h:qY W X gb gi tb n tc mb mn mc bad ts mem bs kr) (b:Bool):
  qY W (X.setCell ⟨gb,2,none⟩ (.bool b)) gb gi tb n tc mb mn mc b ts mem bs kr:=
 ⟨h.own.isBad b,(Below.heap_setCell _ _ _ _ h.g1).trans h.instr,h.g1,h.g2,h.g3⟩
theorem qY.zri {W X:World} {gb gi tb n tc mb mn mc:Nat} {bad:Bool} {ts:List zo} {mem:List Int} {bs kr:List Value} (h:qY W X gb gi tb n tc mb mn mc bad ts mem bs kr) {i:Nat} (hi:i<ts.length):
  ∀k u,k<6->((ts.getD i default).cells (bs.getD i (.slice none 0 0)))[k]? =some u->X.cell? ⟨tb,i*6+k,none⟩=some u/\X.frozen? ⟨tb,i*6+k,none⟩=false:=by
 obtain⟨tb',tc',e, -,h2⟩:=h.own.threads hi
 cases e
 exact h2
theorem qY.zkX {W X:World} {gb gi tb n tc mb mn mc:Nat} {bad:Bool} {ts:List zo} {mem:List Int} {bs kr:List Value} (h:qY W X gb gi tb n tc mb mn mc bad ts mem bs kr) {j:Nat} (hj:j<mem.length):
  X.cell? ⟨mb,j,none⟩=some (.int .i64 (mem.getD j 0))/\X.frozen? ⟨mb,j,none⟩=false:=by
 obtain⟨mb',mc',e, -,h2⟩:=h.own.vars (by omega)
 cases e
 exact h2 j hj
theorem qY.buf {W X:World} {gb gi tb n tc mb mn mc:Nat} {bad:Bool} {ts:List zo} {mem:List Int} {bs kr:List Value} (h:qY W X gb gi tb n tc mb mn mc bad ts mem bs kr) {i:Nat} (hi:i<ts.length):
  X.ownsRow W.heap.size 136 2 (bs.getD i (.slice none 0 0)) (ts.getD i default).buf.length (zl zi.cells (ts.getD i default).buf)/\∀k,(bs.getD i (.slice none 0 0)).ownBlock=some k->k≠tb/\k≠mb/\k≠gb:=
 ⟨h.own.own.buf i hi,λk hk=>⟨λe=>(h.own.own.ne i hi k hk).1 (by rw [e];rfl),λe=>(h.own.own.ne i hi k hk).2 (by rw [e];rfl),λe=>h.own.n3 i hi (e ▸ hk)⟩⟩
theorem qY.dist {W X:World} {gb gi tb n tc mb mn mc:Nat} {bad:Bool} {ts:List zo} {mem:List Int} {bs kr:List Value} (h:qY W X gb gi tb n tc mb mn mc bad ts mem bs kr) {i:Nat} (hi:i<ts.length):
  ∀k,(bs.getD i (.slice none 0 0)).ownBlock=some k->∀j,j<ts.length->j≠i->(bs.getD j (.slice none 0 0)).ownBlock≠some k:=λk hk j hj hji=>h.own.own.one i j hi hj (λe=>hji e.symm) k hk
theorem qY.set {W X:World} {gb gi tb n tc mb mn mc:Nat} {bad:Bool} {ts:List zo} {mem:List Int} {bs kr:List Value} (h:qY W X gb gi tb n tc mb mn mc bad ts mem bs kr) {i k:Nat} (hi:i<ts.length) (hk:k<6) {t t':zo} {b u:Value}
  (ht:ts.getD i default=t) (hbs:bs.getD i (.slice none 0 0)=b) (hc:t'.cells b=(t.cells b).set k u) (hr:t'.regs.length=4) (hbf:t'.buf=t.buf):
  qY W (X.setCell ⟨tb,i*6+k,none⟩ u) gb gi tb n tc mb mn mc bad (ts.set i t') mem (bs.set i b) kr/\(ts.set i t').getD i default=t'/\(bs.set i b).getD i (.slice none 0 0)=b/\i<(ts.set i t').length:=by
 have hl:=h.own.own.len
 have hB:=h.buf hi
 rw [ht,hbs] at hB
 refine⟨h.thread hi hk (by rw [ht,hbs];exact hc) hr (by rw [hbf];exact hB.1) hB.2 (by have:=h.dist hi;rw [hbs] at this;exact this),by rw [qg hi,if_pos rfl],by rw [qg (by rw [hl];exact hi),if_pos rfl],by rw [List.length_set];exact hi⟩
theorem qY.gM {W X:World} {gb gi tb n tc mb mn mc:Nat} {bad:Bool} {ts:List zo} {mem:List Int} {bs kr:List Value} (h:qY W X gb gi tb n tc mb mn mc bad ts mem bs kr) {i:Nat} (hi:i<ts.length) {t:zo} {b:Value}
  (ht:ts.getD i default=t) (hbs:bs.getD i (.slice none 0 0)=b):∀k u,k<6->(t.cells b)[k]? =some u->X.cell? ⟨tb,i*6+k,none⟩=some u/\X.frozen? ⟨tb,i*6+k,none⟩=false:=by
 have:=h.zri hi
 rw [ht,hbs] at this
 exact this
theorem zaK {pc r0 r1 r2 r3 v:Int} {bf:List zi} {b:Value} {k:Nat} (hk:k<4):(⟨pc, [r0,r1,r2,r3].set k v,bf⟩:zo).cells b=((⟨pc, [r0,r1,r2,r3],bf⟩:zo).cells b).set (1+k) (.int .i64 v):=by
 have:k=0\/k=1\/k=2\/k=3:=by omega
 rcases this with rfl|rfl|rfl|rfl<;>rfl
theorem zcJ {pc r0 r1 r2 r3:Int} {bf:List zi} {b:Value} {k:Nat} (hk:k<4):((⟨pc, [r0,r1,r2,r3],bf⟩:zo).cells b)[1+k]? =some (.int .i64 ([r0,r1,r2,r3].getD k 0)):=by
 have:k=0\/k=1\/k=2\/k=3:=by omega
 rcases this with rfl|rfl|rfl|rfl<;>rfl
theorem ztx {pc r0 r1 r2 r3:Int} {bf:List zi} {b:Value} {k:Nat} (hk:k<4):((⟨pc, [r0,r1,r2,r3].set k 0,bf⟩:zo).cells b)[1+k]? =some (.int .i64 ([0,0,0,0].getD k 0)):=by
 have:k=0\/k=1\/k=2\/k=3:=by omega
 rcases this with rfl|rfl|rfl|rfl<;>rfl
theorem zoR {pc r0 r1 r2 r3:Int} {bf:List zi} {b:Value} {k:Nat} (hk:k<4):(⟨pc, [r0,r1,r2,r3].set k 1,bf⟩:zo).cells b=((⟨pc, [r0,r1,r2,r3].set k 0,bf⟩:zo).cells b).set (1+k) (.int .i64 1):=by
 have:k=0\/k=1\/k=2\/k=3:=by omega
 rcases this with rfl|rfl|rfl|rfl<;>rfl
theorem wI {R:Option zm} {xa ya:Option Addr} {xn xc yn yc B:Nat} {b:Bool} {X:World} (h:R=none):∃xa' xn' xc' ya' yn' yc' s',Ending.returned (.tuple #[.agg #[.slice xa xn xc, .slice ya yn yc, .bool b], .bool false])= .returned (.tuple #[yR s' (.slice xa' xn' xc') (.slice ya' yn' yc'), .bool R.isSome])/\∀t,R=some t->s'=t/\∃bs,OwnAt B X (.slice xa' xn' xc') (.slice ya' yn' yc') t.threads t.mem bs:=
 ⟨xa,xn,xc,ya,yn,yc,⟨[], [],b⟩,by rw [h];rfl,λt e=>by rw [h] at e;cases e⟩
theorem qy {R:Option zm} {xa ya:Option Addr} {xn xc yn yc B:Nat} {s:zm} {bs:List Value} {X:World} (h:R=some s) (hs:OwnAt B X (.slice xa xn xc) (.slice ya yn yc) s.threads s.mem bs):∃xa' xn' xc' ya' yn' yc' s',Ending.returned (.tuple #[.agg #[.slice xa xn xc, .slice ya yn yc, .bool s.bad], .bool true])= .returned (.tuple #[yR s' (.slice xa' xn' xc') (.slice ya' yn' yc'), .bool R.isSome])/\∀t,R=some t->s'=t/\∃bs,OwnAt B X (.slice xa' xn' xc') (.slice ya' yn' yc') t.threads t.mem bs:=
 ⟨xa,xn,xc,ya,yn,yc,s,by rw [h];rfl,λt e=>by rw [h] at e;cases e;exact⟨rfl,bs,hs⟩⟩
theorem jK.zxJ {e t:TypeId} {size:Nat} {V X:World} {v:Value} {n:Nat} {xs:List Value} {bs:List (Nat × List Value)} (h:jK e size t V X v n xs bs) {g:Nat} {cs:List Value} (hb:(g,cs)∈bs) (l:List Value) (hl:cs.length=l.length):
  Below V.heap.size V (zY X g 0 l)/\(zY X g 0 l).heap[g]? =some (.cells l.toArray t (0,0))/\V.heap.size<=g:=by
 obtain⟨h1, -,h3⟩:=h.news _ hb
 exact⟨h.below.trans ((yX l X 0).below h.below.size (λk e=>by omega)),xS l hl h1,h3⟩
theorem zlA (w:World) (c:zK) (cv:Value) (d:Nat) (hc:yZ d w cv c.threads) (m:zF) (s:zm) (sv mv:Value) (hs:yh w s sv mv) (hfit:xR c m s=true) (i:Nat) (hi:i<s.threads.length) (hb:∀j,j<s.threads.length->(s.threads.getD j default).buf.length<=100000):
  Calls Tryz.prog 59 #[yT c cv,xD m,yR s sv mv, .int .i64 i] w λe w'=>(∃xa xn xc ya yn yc s',e= .returned (.tuple #[yR s' (.slice xa xn xc) (.slice ya yn yc), .bool (vT c m s i d).isSome])/\∀t,vT c m s i d=some t->s'=t/\∃bs,OwnAt w.heap.size w' (.slice xa xn xc) (.slice ya yn yc) t.threads t.mem bs)/\Below w.heap.size w w':=by
 obtain⟨hcode,hmay,hlen,hmem,zlE⟩:=bD hfit
 have hbd:=qA hcode
 obtain⟨zdw,zov⟩:=zlE i hi
 have hins:=λk (hk:k<(c.threads.getD i []).length)=>zgu hcode (i:=i) (k:=k) (by rw [<-hlen];exact hi) hk
 clear hcode hmay zlE hfit
 obtain⟨ca,cc,rfl, -⟩:=ze.slice hc
 obtain⟨ta,vE,rfl, -⟩:=ze.slice hs.threads
 obtain⟨ma,qN,rfl, -⟩:=ze.slice hs.mem
 have hown:=λW hW=>zpf W s (.slice ta s.threads.length vE) (.slice ma s.mem.length qN) hW (by omega) (by omega) (λj hj=>by have:=hb j hj;omega)
 obtain⟨R,hR⟩:∃R,R=vT c m s i d:=⟨_,rfl⟩
 rw [<-hR]
 obtain⟨l,hl⟩:∃l,l=c.threads.getD i [] :=⟨_,rfl⟩
 obtain⟨t,ht⟩:∃t,t=s.threads.getD i default:=⟨_,rfl⟩
 have hR2:R=if t.pc<(l.length:Int) then(stepT c m s t (l.getD t.pc.toNat default) d).map (λr=>⟨s.threads.set i r.1,r.2.1,r.2.2⟩) else none:=by rw [hR,hl,ht];rfl
 rw [<-ht] at zdw zov
 rw [<-hl] at zov hins
 have HST:Hid (∀x,stepT c m s t x d=stepT c m s t x d):=λ_=>rfl
 obtain⟨C,hC⟩:∃C,C=c:=⟨_,rfl⟩
 obtain⟨M,hM⟩:∃M,M=m:=⟨_,rfl⟩
 obtain⟨S,hS⟩:∃S,S=s:=⟨_,rfl⟩
 rw [<-hC, <-hM, <-hS] at hR2
 clear HST
 have HRR:=qh hR2
 have hT:=hs.threads
 have hME:=hs.mem
 obtain⟨vars,dom,cs⟩:=c
 obtain⟨mod,bnd⟩:=m
 obtain⟨ts,mem,bad⟩:=s
 simp only [] at hc hs hi hb hlen hmem hbd hl ht hT hME hown hins zdw zov hR2 ⊢
 unfold yT xD yR
 unfold yR at hown
 simp only [] at hown ⊢
 obtain⟨n,hn⟩:∃n,n=ts.length:=⟨_,rfl⟩
 obtain⟨cn,hcn⟩:∃cn,cn=cs.length:=⟨_,rfl⟩
 obtain⟨mn,hmn⟩:∃mn,mn=mem.length:=⟨_,rfl⟩
 rw [<-hn] at hT hown hi hb hlen ⊢
 rw [<-hmn] at hME hown hmem ⊢
 rw [<-hcn] at hc hlen hbd ⊢
 rw [<-hn, <-hmn] at hs
 have j3:=qh hlen
 have HME:=qh hmem
 have HC:=qh hC
 have HM:=qh hM
 have HS:=qh hS
 have HL:=qh hl
 have HT:=qh ht
 have HN:=qh hn
 have HCN:=qh hcn
 have vW:=qh hmn
 have bE:=qh hb
 have z0L:=qh hins
 have HOWN:=qh hown
 have hB4:=zaW w (.cells #[.int .i64 vars, .int .i64 dom, .slice ca cn cc] 26) (.cells #[.int .i64 mod, .int .i64 bnd] 31) (.cells #[.slice ta n vE, .slice ma mn qN, .bool bad] 35) (.cells #[.slice none 0 0, .slice none 0 0, .bool false] 35)
 obtain⟨hB,h1,h2,h3,h4,h5⟩:=hB4
 have HB:=qh hB
 have H1:=qh h1
 have H2:=qh h2
 have H3:=qh h3
 have H4:=qh h4
 have H5:=qh h5
 have uL:=qh (ze.below (xK.stays d) hc hB)
 have HSW:=qh (yh.below hs hB)
 have zc2:=qh (ze.below uQ.stays hME hB)
 have z7N:=qh hME
 have z7O:=qh h5
 clear hlen hmem hC hM hS hl ht hn hcn hmn hb hins hown hB h1 h2 h3 h4 h5 hT hME hc hs hR hR2
 go_enter Tryz.func59,Tryz.ntmps59
 go_upto_region 1 with fail
 generalize World.alloc (World.alloc (World.alloc (World.alloc w _) _) _) _=W at HB H1 H2 H3 H4 H5 uL HSW zc2 z7O ⊢
 obtain⟨gx,hgx⟩:∃gx,gx=w.heap.size:=⟨_,rfl⟩
 rw [<-hgx] at H1 H2 H3 H4 H5 ⊢
 have yV:=qh hgx
 clear hgx
 have xJ:Hid (∀x,Below W.heap.size W x->x.cell? ⟨gx,0,none⟩=some (.int .i64 vars)/\x.cell? ⟨gx,1,none⟩=some (.int .i64 dom)/\x.cell? ⟨gx,2,none⟩=some (.slice ca cn cc)/\
   x.cell? ⟨gx+1,0,none⟩=some (.int .i64 mod)/\x.cell? ⟨gx+1,1,none⟩=some (.int .i64 bnd)/\x.cell? ⟨gx+2,0,none⟩=some (.slice ta n vE)/\x.cell? ⟨gx+2,1,none⟩=some (.slice ma mn qN)/\x.cell? ⟨gx+2,2,none⟩=some (.bool bad)):=λx hx=>
  ⟨zh hx _ _ (za H1.out 0),zh hx _ _ (za H1.out 1),zh hx _ _ (za H1.out 2),zh hx _ _ (za H2.out 0),zh hx _ _ (za H2.out 1),zh hx _ _ (za H3.out 0),zh hx _ _ (za H3.out 1),zh hx _ _ (za H3.out 2)⟩
 obtain⟨c0,c1,c2,c3,c4,c5,c6,c7⟩:=xJ.out W (Below.refl _ _)
 go_upto_region 2 with(go_at_call 61;refine(HOWN.out W HSW.out).mono ?_;rintro e W1 ⟨⟨tv1,mv1,bs,rfl,ho1⟩,hb1⟩;have HO1:=qh ho1;have HB1:=qh hb1;obtain⟨xa,xc,rfl, -, -⟩:=qO ho1.row;obtain⟨ya,yc,rfl, -, -⟩:=qO ho1.mem;clear ho1 hb1)
 rw [<-HN.out, <-vW.out]
 have zCb:1<=vars:=hbd.1
 have zAi:2<=dom:=hbd.2.2.1
 have zAj:dom<=16:=hbd.2.2.2.1
 have gD:n<=4:=by have:=hbd.2.2.2.2.2;have:=j3.out;omega
 have z5U:mn<=4/\1<=mn:=by have:=hbd.2.1;have:=HME.out;omega
 clear c0 c1 c2 c3 c4 c5 c6 c7 hbd
 have hol:=qZ.zrK HO1.out HB1.out bad
 rw [<-HN.out, <-vW.out] at hol
 have HOL:=qh hol
 clear hol
 generalize World.alloc W1 _=X0 at HOL ⊢
 obtain⟨gb,hgb⟩:∃gb,gb=W1.heap.size:=⟨_,rfl⟩
 rw [<-hgb] at HOL ⊢
 clear hgb HO1 HB1 HOWN
 obtain⟨tb,tc,hxa, -,htc⟩:=HOL.out.threads (by rw [<-HN.out];exact hi)
 rw [<-HN.out] at hxa
 cases hxa
 obtain⟨mb,mc,hya, -,hmc⟩:=HOL.out.vars (by rw [<-vW.out];omega)
 rw [<-vW.out] at hya
 cases hya
 have hr4:=HOL.out.own.regs i (by rw [<-HN.out];exact hi)
 obtain⟨bv,hbv⟩:∃bv,bv=bs.getD i (.slice none 0 0):=⟨_,rfl⟩
 have hbuf:=(HOL.out.own.buf i (by rw [<-HN.out];exact hi))
 have hbl:=bE.out i hi
 rw [<-HT.out] at hr4 htc hbuf hbl
 rw [<-hbv] at htc hbuf
 obtain⟨ba,bc,rfl, -, -⟩:=qO hbuf
 obtain⟨pc,rg,bf⟩:=t
 obtain⟨r0,r1,r2,r3,rfl⟩:=jS hr4
 simp only [] at zdw zov htc hbuf hbl HRR
 obtain⟨bl,jw⟩:∃bl,bl=bf.length:=⟨_,rfl⟩
 rw [<-jw] at htc hbuf hbl hbv
 obtain⟨qB,rfl⟩:∃qB:Nat,pc=qB:=⟨pc.toNat,by omega⟩
 have vG:=qh jw
 have pz:=qh hbv
 have HTC:Hid (∀k u,k<6-> [Value.int .i64 qB, .int .i64 r0, .int .i64 r1, .int .i64 r2, .int .i64 r3, .slice ba bl bc][k]? =some u->X0.cell? ⟨tb,i*6+k,none⟩=some u/\X0.frozen? ⟨tb,i*6+k,none⟩=false):=by
  have e:(⟨(qB:Int), [r0,r1,r2,r3],bf⟩:zo).cells (.slice ba bl bc)= [Value.int .i64 qB, .int .i64 r0, .int .i64 r1, .int .i64 r2, .int .i64 r3, .slice ba bl bc] :=rfl
  rw [<-e];exact htc
 clear jw hbv hbuf htc hr4 hmc zdw
 obtain⟨ln,hln⟩:∃ln,ln=l.length:=⟨_,rfl⟩
 rw [<-hln] at zov HRR
 obtain⟨eb,eo,ka,kc,yG, -,hec,hel⟩:=yZ.part uL.out i (by rw [<-HCN.out, <-j3.out];exact hi)
 rw [<-HL.out, <-hln] at hec hel
 subst yG
 have zvD:=qh hln
 clear hln
 have HEL:=qh hel
 have HEC:Hid (∀x,Below W.heap.size W x->x.cell? ⟨eb,eo+i,none⟩=some (.slice ka ln kc)):=λx hx=>zh hx _ _ hec
 clear hel hec
 have zCc:(i:Int)<(cn:Int):=by have:=j3.out;omega
 obtain⟨c0,c1,c2,c3,c4,c5,c6,c7⟩:=xJ.out X0 HOL.out.below
 have e0:=HEC.out X0 HOL.out.below
 have t0:=(HTC.out 0 _ (by omega) rfl).1
 rw [Nat.add_zero] at t0
 have b0:=za HOL.out.box 0
 by_cases hp:qB<ln
 rotate_left
 ·have hpN:(ln:Int)<=(qB:Int):=by omega
  have hres:R=none:=by rw [HRR.out,if_neg (by omega)]
  have zJ:=qh hres
  clear hres
  go_upto_region 3 with fail
  go_quiet (fail)
  go_upto_region 4 with fail
  generalize hX9:World.drewN X0 _=X9
  have hb9:Below X0.heap.size X0 X9:=by rw [<-hX9];exact yj (Below.refl _ _) _
  clear hX9 c0 c1 c2 c3 c4 c5 c6 c7 e0 t0 b0
  have hbw:=zB HOL.out.below hb9
  have jq:=qh hbw
  obtain⟨c0,c1,c2,c3,c4,c5,c6,c7⟩:=xJ.out X9 hbw
  have hr:=(hbw.block _ (zq H4.out)).trans H4.out
  have q0:=za hr 0
  have q1:=za hr 1
  have q2:=za hr 2
  have f0:=zw hr 0
  have f1:=zw hr 1
  have f2:=zw hr 2
  have hset:=zu (zu (zu hr 0 (.slice ta n vE)) 1 (.slice ma mn qN)) 2 (.bool bad)
  simp only [List.setIfInBounds_toArray,List.set_cons_zero,List.set_cons_succ] at hset
  have hS:Since (λk=>k=gx+3) X9 (((X9.setCell ⟨gx+3,0,none⟩ (.slice ta n vE)).setCell ⟨gx+3,1,none⟩ (.slice ma mn qN)).setCell ⟨gx+3,2,none⟩ (.bool bad)):=Since.setCell (F:=λk=>k=gx+3) (p:=⟨gx+3,2,none⟩) (Since.setCell (F:=λk=>k=gx+3) (p:=⟨gx+3,1,none⟩) (Since.setCell (F:=λk=>k=gx+3) (p:=⟨gx+3,0,none⟩) (Since.refl _ X9) (.inl rfl) _) (.inl rfl) _) (.inl rfl) _
  have zI:=qh hset
  have xH:=qh hS
  clear hr hset hS hb9 hbw
  go_wp2_with fail
  (try simp only [Exit.inBlock,Exit.then])
  refine bodyPost_ret (zy rfl _ _ (gx+3) 35 _ (0,0) _ rfl zI.out Tryz.underlying35 rfl zC) rfl ?_
  exact⟨wI zJ.out,(HB.out.trans (jq.out.mono HB.out.size)).trans (xH.out.below (by have:=HB.out.size;have:=jq.out.size;omega) (λk e=>by have:=yV.out;omega))⟩
 have hpI:(qB:Int)<(ln:Int):=by omega
 have hpN:¬(ln:Int)<=(qB:Int):=by omega
 go_upto_region 3 with fail
 go_quiet (fail)
 go_upto_region 5 with fail
 generalize hX9:World.drewN X0 _=X9
 have hb9:Below X0.heap.size X0 X9:=by rw [<-hX9];exact yj (Below.refl _ _) _
 clear hX9 c0 c1 c2 c3 c4 c5 c6 c7 e0 t0 b0
 have zfF:=qh (HOL.out.later hb9)
 have zji:Hid (∀k u,k<6-> [Value.int .i64 qB, .int .i64 r0, .int .i64 r1, .int .i64 r2, .int .i64 r3, .slice ba bl bc][k]? =some u->∀x,Below X9.heap.size X9 x->x.cell? ⟨tb,i*6+k,none⟩=some u):=λk u hk hu x hx=>zh (zB hb9 hx) _ _ (HTC.out k u hk hu).1
 clear HTC
 have jq:=qh hb9
 clear hb9
 obtain⟨fb,fo,aa,ac,xba,xbc,hka, -,⟨x0,x1,x2⟩,⟨x3,x4,x5,x6⟩,⟨x7,x8,x9,x10⟩,kE,xa,xb⟩:=jJ.part HEL.out qB (by rw [<-zvD.out];exact hp)
 subst hka
 obtain⟨x,hx⟩:∃x,x=l.getD qB default:=⟨_,rfl⟩
 rw [<-hx] at x0 x1 x2 x3 x4 x5 x6 x7 x8 x9 x10 kE xa xb
 have hins:=z0L.out qB (by rw [<-zvD.out];exact hp)
 rw [<-hx, <-zvD.out] at hins
 obtain⟨zCd,hrg0,zax,z7P,z0N⟩:=hins
 rw [<-HME.out] at z0N
 have hr5:=HRR.out
 rw [if_pos hpI,show((qB:Int)).toNat=qB from rfl, <-hx] at hr5
 have HR5:=qh hr5
 clear hr5 HRR z0L hx
 obtain⟨op,hop⟩:∃v,v=x.op:=⟨_,rfl⟩
 obtain⟨jR,zvE⟩:∃v:Nat,(v:Int)=x.reg:=⟨x.reg.toNat,by omega⟩
 obtain⟨vB,zvF⟩:∃v:Nat,(v:Int)=x.var:=⟨x.var.toNat,by omega⟩
 obtain⟨dst,hdst⟩:∃v,v=x.dest:=⟨_,rfl⟩
 obtain⟨ak,hak⟩:∃v,v=x.a.kind:=⟨_,rfl⟩
 obtain⟨an,han⟩:∃v,v=x.a.n:=⟨_,rfl⟩
 obtain⟨ao,hao⟩:∃v,v=x.a.op:=⟨_,rfl⟩
 obtain⟨al,hal⟩:∃v,v=x.a.kids.length:=⟨_,rfl⟩
 obtain⟨bk,hbk⟩:∃v,v=x.b.kind:=⟨_,rfl⟩
 obtain⟨bn,hbn⟩:∃v,v=x.b.n:=⟨_,rfl⟩
 obtain⟨bo,hbo⟩:∃v,v=x.b.op:=⟨_,rfl⟩
 obtain⟨bkl,zvG⟩:∃v,v=x.b.kids.length:=⟨_,rfl⟩
 obtain⟨A,hA⟩:∃v,v=zZ [r0,r1,r2,r3] dom d x.a:=⟨_,rfl⟩
 obtain⟨B,hBB⟩:∃v,v=zZ [r0,r1,r2,r3] dom d x.b:=⟨_,rfl⟩
 have z0P:Hid (∀X,Below W.heap.size W X->Calls Tryz.prog 82 #[.agg #[.int .i64 ak, .int .i64 an, .int .u8 ao, .slice aa al ac], .agg #[.int .i64 r0, .int .i64 r1, .int .i64 r2, .int .i64 r3], .int .i64 dom] X λe w'=>e= .returned (.int .i64 A)/\Below X.heap.size X w'):=λX hX=>by
  rw [hak,han,hao,hal,hA];exact znN r0 r1 r2 r3 dom (by omega) (by omega) d X x.a _ (xa.below hX)
 have z0Q:Hid (∀X,Below W.heap.size W X->Calls Tryz.prog 82 #[.agg #[.int .i64 bk, .int .i64 bn, .int .u8 bo, .slice xba bkl xbc], .agg #[.int .i64 r0, .int .i64 r1, .int .i64 r2, .int .i64 r3], .int .i64 dom] X λe w'=>e= .returned (.int .i64 B)/\Below X.heap.size X w'):=λX hX=>by
  rw [hbk,hbn,hbo,zvG,hBB];exact znN r0 r1 r2 r3 dom (by omega) (by omega) d X x.b _ (xb.below hX)
 rw [<-hop] at x0
 rw [<-zvE] at x1 zax
 have zax:jR<4:=by omega
 rw [<-zvF] at x2 z0N
 rw [<-hak] at x3
 rw [<-han] at x4
 rw [<-hao] at x5
 rw [<-hal] at x6
 rw [<-hbk] at x7
 rw [<-hbn] at x8
 rw [<-hbo] at x9
 rw [<-zvG] at x10
 rw [<-hdst] at kE
 have xB:=qh hop
 have HRG:=qh zvE
 have HVR:=qh zvF
 have HDS:=qh hdst
 have HA:=qh hA
 have yH:=qh hBB
 clear hop zvE zvF hdst hak han hao hal hbk hbn hbo zvG hA hBB xa xb hrg0 z7P
 have C5:Hid (∀y,Below X9.heap.size X9 y->y.cell? ⟨gx,2,none⟩=some (.slice (some ⟨eb,eo,none⟩) cn cc)/\y.cell? ⟨eb,eo+i,none⟩=some (.slice (some ⟨fb,fo,none⟩) ln kc)/\y.cell? ⟨tb,i*6,none⟩=some (.int .i64 qB)/\
   y.cell? ⟨fb,fo+qB*12,none⟩=some (.int .i64 op)/\y.cell? ⟨fb,fo+qB*12+1,none⟩=some (.int .i64 jR)/\y.cell? ⟨fb,fo+qB*12+2,none⟩=some (.int .i64 vB)/\
   y.cell? ⟨fb,fo+qB*12+3,none⟩=some (.int .i64 ak)/\y.cell? ⟨fb,fo+qB*12+4,none⟩=some (.int .i64 an)/\y.cell? ⟨fb,fo+qB*12+5,none⟩=some (.int .u8 ao)/\y.cell? ⟨fb,fo+qB*12+6,none⟩=some (.slice aa al ac)/\
   y.cell? ⟨fb,fo+qB*12+7,none⟩=some (.int .i64 bk)/\y.cell? ⟨fb,fo+qB*12+8,none⟩=some (.int .i64 bn)/\y.cell? ⟨fb,fo+qB*12+9,none⟩=some (.int .u8 bo)/\y.cell? ⟨fb,fo+qB*12+10,none⟩=some (.slice xba bkl xbc)/\y.cell? ⟨fb,fo+qB*12+11,none⟩=some (.int .i64 dst)):=λy hy=>
  have hw:=zB zfF.out.below hy
  have k2:=λp v h=>zh hw p v h
  ⟨(xJ.out y hw).2.2.1,HEC.out y hw,zji.out 0 _ (by omega) rfl y hy,k2 _ _ x0,k2 _ _ x1,k2 _ _ x2,k2 _ _ x3,k2 _ _ x4,k2 _ _ x5,k2 _ _ x6,k2 _ _ x7,k2 _ _ x8,k2 _ _ x9,k2 _ _ x10,k2 _ _ kE⟩
 clear x0 x1 x2 x3 x4 x5 x6 x7 x8 x9 x10 kE
 have h0:=jK.start 3 1 53 X9
 have hT0:=qh h0.drew
 clear h0
 refine vJ (S:=λx=>Below X9.heap.size X9 x) (Below.refl _ _).drew (λ_=> ?_)
 obtain⟨wd,hwd⟩:∃wd,wd=X9.drew:=⟨_,rfl⟩
 rw [<-hwd] at hT0 ⊢
 clear hwd
 refine zA 0 zM (hT0.out.below) ?_
 refine zA 1 C5.out (hT0.out.below) ?_
 refine zA 2 zM (hT0.out.below) ?_
 refine zA 3 zM (hT0.out.below) ?_
 refine zA 4 C5.out (hT0.out.below) ?_
 refine zA 5 zM (hT0.out.below) ?_
 refine zA 6 zM (hT0.out.below) ?_
 refine zA 7 zM (hT0.out.below) ?_
 refine zA 8 C5.out (hT0.out.below) ?_
 refine zA 9 zM (hT0.out.below) ?_
 refine zA 10 C5.out (hT0.out.below) ?_
 refine yw 11 rfl (λK hK=> ?_)
 go_simp
 have vg:=hT0.out.alloc [.int .i64 0, .int .i64 0, .int .i64 0, .int .i64 0, .int .i64 0, .int .u8 0, .slice none 0 0, .int .i64 0, .int .i64 0, .int .u8 0, .slice none 0 0, .int .i64 0]
 refine hK.out _ _ vg.below (λ_=> ?_)
 obtain⟨gi,hgi⟩:∃n,n=wd.heap.size:=⟨_,rfl⟩
 rw [<-hgi] at vg ⊢
 clear hgi
 generalize World.alloc wd _=Xq2 at vg ⊢
 replace vg:=qh vg
 clear hK K
 refine yw 12 rfl (λK hK=> ?_)
 have hb1:=vg.out.zxJ (g:=gi) (cs:= [.int .i64 0, .int .i64 0, .int .i64 0, .int .i64 0, .int .i64 0, .int .u8 0, .slice none 0 0, .int .i64 0, .int .i64 0, .int .u8 0, .slice none 0 0, .int .i64 0]) (by simp) [.int .i64 op, .int .i64 jR, .int .i64 vB, .int .i64 ak, .int .i64 an, .int .u8 ao, .slice aa al ac, .int .i64 bk, .int .i64 bn, .int .u8 bo, .slice xba bkl xbc, .int .i64 dst] rfl
 obtain⟨hn, -, -⟩:=vg.out.news (gi, [.int .i64 0, .int .i64 0, .int .i64 0, .int .i64 0, .int .i64 0, .int .u8 0, .slice none 0 0, .int .i64 0, .int .i64 0, .int .u8 0, .slice none 0 0, .int .i64 0]) (by simp)
 have d0:=za hn 0
 have f0:=zw hn 0
 have d1:=za hn 1
 have f1:=zw hn 1
 have d2:=za hn 2
 have f2:=zw hn 2
 have d3:=za hn 3
 have f3:=zw hn 3
 have d4:=za hn 4
 have f4:=zw hn 4
 have d5:=za hn 5
 have f5:=zw hn 5
 have d6:=za hn 6
 have f6:=zw hn 6
 have d7:=za hn 7
 have f7:=zw hn 7
 have d8:=za hn 8
 have f8:=zw hn 8
 have d9:=za hn 9
 have f9:=zw hn 9
 have d10:=za hn 10
 have f10:=zw hn 10
 have d11:=za hn 11
 have f11:=zw hn 11
 clear hn
 have vU:=qh hb1
 clear hb1
 go_simp
 clear d0 f0 d1 f1 d2 f2 d3 f3 d4 f4 d5 f5 d6 f6 d7 f7 d8 f8 d9 f9 d10 f10 d11 f11
 refine hK.out _ (zY Xq2 gi 0 [.int .i64 op, .int .i64 jR, .int .i64 vB, .int .i64 ak, .int .i64 an, .int .u8 ao, .slice aa al ac, .int .i64 bk, .int .i64 bn, .int .u8 bo, .slice xba bkl xbc, .int .i64 dst]) vU.out.1 (λ_=> ?_)
 generalize zY Xq2 gi 0 _=X1 at vU ⊢
 clear hK K
 refine xM ?_
 have hgi:=vU.out.2.2
 have yQ:qY W X1 gb gi tb n xc mb mn yc bad ts mem bs [.int .i64 op, .int .i64 jR, .int .i64 vB, .int .i64 ak, .int .i64 an, .int .u8 ao, .slice aa al ac, .int .i64 bk, .int .i64 bn, .int .u8 bo, .slice xba bkl xbc, .int .i64 dst] :=
  ⟨zfF.out.later vU.out.1,vU.out.2.1,λe=>by have:=zq zfF.out.box;omega,λe=>by have:=(zfF.out.own.row.lt tb rfl).2;omega,λe=>by have:=(zfF.out.own.mem.lt mb rfl).2;omega⟩
 have zcK:=qh yQ
 clear hgi yQ C5
 have zvH:Hid (∀y,Below X1.heap.size X1 y->y.cell? ⟨tb,i*6+1,none⟩=some (.int .i64 r0)/\y.cell? ⟨tb,i*6+2,none⟩=some (.int .i64 r1)/\y.cell? ⟨tb,i*6+3,none⟩=some (.int .i64 r2)/\y.cell? ⟨tb,i*6+4,none⟩=some (.int .i64 r3)):=λy hy=>
  have h:=zB vU.out.1 hy
  ⟨zji.out 1 _ (by omega) rfl y h,zji.out 2 _ (by omega) rfl y h,zji.out 3 _ (by omega) rfl y h,zji.out 4 _ (by omega) rfl y h⟩
 have HB1:=qh zcK.out.own.below
 have z0R:¬gi=gx+3:=λe=>by
  have h1:=zq H4.out
  have h2:=vU.out.2.2
  have h3:=zfF.out.below.size
  omega
 have HGI:=qh z0R
 clear z0R
 go_upto_region 6 with fail
 obtain⟨t1,t2,t3,t4⟩:=zvH.out X1 (Below.refl _ _)
 have z3:=za zcK.out.instr 3
 have z4:=za zcK.out.instr 4
 have z5:=za zcK.out.instr 5
 have z6:=za zcK.out.instr 6
 have c1:=(xJ.out X1 HB1.out).2.1
 refine wp_region_still_tail 8 (by kernel_rfl) (by kernel_rfl) ?_
 simp only [List.take_succ_cons,List.take_zero,List.drop_succ_cons,List.drop_zero]
 repeat still_step
 try refine wpStill_nil ?_
 change wpList _ _ _ _ _ X1.drew
 obtain⟨wd,hwd⟩:∃wd,wd=X1.drew:=⟨_,rfl⟩
 rw [<-hwd]
 have wN:Hid (Below X1.heap.size X1 wd):=by rw [Hid,hwd];exact(Below.refl _ _).drew
 clear hwd t1 t2 t3 t4 z3 z4 z5 z6 c1
 go_upto_region 7 with(go_at_call 82;refine(z0P.out wd (zB HB1.out wN.out)).mono ?_;rintro e X2 ⟨rfl,hb⟩;have HB2:=qh (zB wN.out hb);clear hb)
 have zbC:=qh (zcK.out.below HB2.out)
 clear wN
 obtain⟨t1,t2,t3,t4⟩:=zvH.out X2 HB2.out
 have z7:=za zbC.out.instr 7
 have z8:=za zbC.out.instr 8
 have z9:=za zbC.out.instr 9
 have z10:=za zbC.out.instr 10
 have c1:=(xJ.out X2 zbC.out.own.below).2.1
 refine wp_region_still_tail 8 (by kernel_rfl) (by kernel_rfl) ?_
 simp only [List.take_succ_cons,List.take_zero,List.drop_succ_cons,List.drop_zero]
 repeat still_step
 try refine wpStill_nil ?_
 change wpList _ _ _ _ _ X2.drew
 obtain⟨wd',hwd⟩:∃wd,wd=X2.drew:=⟨_,rfl⟩
 rw [<-hwd]
 have wN:Hid (Below X2.heap.size X2 wd'):=by rw [Hid,hwd];exact(Below.refl _ _).drew
 clear hwd t1 t2 t3 t4 z7 z8 z9 z10 c1
 go_upto_region 8 with(go_at_call 82;refine(z0Q.out wd' (zB zbC.out.own.below wN.out)).mono ?_;rintro e X3 ⟨rfl,hb⟩;have HB3:=qh (zB wN.out hb);clear hb)
 have wZ:=qh (zbC.out.below HB3.out)
 clear wN
 have hin:i<ts.length:=by rw [<-HN.out];exact hi
 have hcl:(ts.getD i default).cells (bs.getD i (.slice none 0 0))= [.int .i64 qB, .int .i64 r0, .int .i64 r1, .int .i64 r2, .int .i64 r3, .slice ba bl bc] :=by rw [<-HT.out, <-pz.out];rfl
 have hpc:=wZ.out.zri hin 0 (.int .i64 qB) (by omega) (by rw [hcl];rfl)
 rw [Nat.add_zero] at hpc
 obtain⟨t0,f0⟩:=hpc
 have hth:=wZ.out.thread hin (k:=0) (by omega) (t:=⟨(qB:Int)+1, [r0,r1,r2,r3],bf⟩) (b:= .slice ba bl bc) (u:= .int .i64 ((qB:Int)+1)) (by rw [hcl];rfl) rfl (by have:=(wZ.out.buf hin).1;rw [<-HT.out, <-pz.out] at this;exact this) (by have:=(wZ.out.buf hin).2;rw [<-pz.out] at this;exact this) (by have:=wZ.out.dist hin;rw [<-pz.out] at this;exact this)
 rw [Nat.add_zero] at hth
 have yI:=qh hth
 have HIN:=qh hin
 clear hin hcl hth
 go_upto_region 9 with fail
 clear t0 f0
 generalize World.setCell X3 _ _=X4 at yI ⊢
 clear zcK zbC wZ zvH zji zfF HB1 HB2 HB3 vU jq HOL z0P z0Q HSW uL HEL HEC bE
 obtain⟨ts1,zjj⟩:∃ts1,ts1=ts.set i ⟨(qB:Int)+1, [r0,r1,r2,r3],bf⟩:=⟨_,rfl⟩
 obtain⟨bs1,zvI⟩:∃bs1,bs1=bs.set i (.slice ba bl bc):=⟨_,rfl⟩
 have hlb:bs.length=ts.length:=by have:=yI.out.own.own.len;rw [List.length_set,List.length_set] at this;exact this
 rw [<-zjj, <-zvI] at yI
 have gN:Hid (ts1.getD i default=⟨(qB:Int)+1, [r0,r1,r2,r3],bf⟩):=by rw [Hid,zjj,qg HIN.out,if_pos rfl]
 have gP:Hid (bs1.getD i (.slice none 0 0)= .slice ba bl bc):=by rw [Hid,zvI,qg (by rw [hlb];exact HIN.out),if_pos rfl]
 have HL1:Hid (i<ts1.length):=by rw [Hid,zjj,List.length_set];exact HIN.out
 have bC:Hid (∀t',ts1.set i t'=ts.set i t'):=λt'=>by rw [zjj,List.set_set]
 have HT1:Hid (ts1=ts.set i ⟨(qB:Int)+1, [r0,r1,r2,r3],bf⟩):=zjj
 clear zjj zvI hlb HT
 have HTC:Hid (∀k u,k<6-> [Value.int .i64 ((qB:Int)+1), .int .i64 r0, .int .i64 r1, .int .i64 r2, .int .i64 r3, .slice ba bl bc][k]? =some u->X4.cell? ⟨tb,i*6+k,none⟩=some u/\X4.frozen? ⟨tb,i*6+k,none⟩=false):=by
  have h:=yI.out.zri HL1.out
  rw [gN.out,gP.out] at h
  exact h
 have jf:Hid (R=Option.map (λr=>(⟨ts.set i r.1,r.2.1,r.2.2⟩:zm)) (stepT ⟨vars,dom,cs⟩ ⟨mod,bnd⟩ ⟨ts,mem,bad⟩ ⟨qB, [r0,r1,r2,r3],bf⟩ x d)):=by rw [Hid,HR5.out,HC.out,HM.out,HS.out]
 clear HR5 HC HM HS
 have zau:=qh (yI.out.buf HL1.out)
 have yL:Hid (∀(X:World) (b':Bool),X.heap[gb]? =some (.cells #[.slice (some ⟨tb,0,none⟩) n xc, .slice (some ⟨mb,0,none⟩) mn yc, .bool b'] 35 (0,0))->Below W.heap.size W X->
   (X.cell? ⟨gb,0,none⟩=some (.slice (some ⟨tb,0,none⟩) n xc)/\X.cell? ⟨gb,1,none⟩=some (.slice (some ⟨mb,0,none⟩) mn yc)/\X.cell? ⟨gb,2,none⟩=some (.bool b'))/\
   (X.cell? ⟨gx+3,0,none⟩=some (.slice none 0 0)/\X.cell? ⟨gx+3,1,none⟩=some (.slice none 0 0)/\X.cell? ⟨gx+3,2,none⟩=some (.bool false))/\
   (X.frozen? ⟨gx+3,0,none⟩=false/\X.frozen? ⟨gx+3,1,none⟩=false/\X.frozen? ⟨gx+3,2,none⟩=false)/\
   (((X.setCell ⟨gx+3,0,none⟩ (.slice (some ⟨tb,0,none⟩) n xc)).setCell ⟨gx+3,1,none⟩ (.slice (some ⟨mb,0,none⟩) mn yc)).setCell ⟨gx+3,2,none⟩ (.bool b')).heap[gx+3]? =some (.cells #[.slice (some ⟨tb,0,none⟩) n xc, .slice (some ⟨mb,0,none⟩) mn yc, .bool b'] 35 (0,0))/\
   Since (λk=>k=gx+3) X (((X.setCell ⟨gx+3,0,none⟩ (.slice (some ⟨tb,0,none⟩) n xc)).setCell ⟨gx+3,1,none⟩ (.slice (some ⟨mb,0,none⟩) mn yc)).setCell ⟨gx+3,2,none⟩ (.bool b'))/\
   Below w.heap.size w (((X.setCell ⟨gx+3,0,none⟩ (.slice (some ⟨tb,0,none⟩) n xc)).setCell ⟨gx+3,1,none⟩ (.slice (some ⟨mb,0,none⟩) mn yc)).setCell ⟨gx+3,2,none⟩ (.bool b'))):=λX b' hX hW=>by
  have hres:=(hW.block _ (zq H4.out)).trans H4.out
  have hset:=zu (zu (zu hres 0 (.slice (some ⟨tb,0,none⟩) n xc)) 1 (.slice (some ⟨mb,0,none⟩) mn yc)) 2 (.bool b')
  simp only [List.setIfInBounds_toArray,List.set_cons_zero,List.set_cons_succ] at hset
  have hS:Since (λk=>k=gx+3) X (((X.setCell ⟨gx+3,0,none⟩ (.slice (some ⟨tb,0,none⟩) n xc)).setCell ⟨gx+3,1,none⟩ (.slice (some ⟨mb,0,none⟩) mn yc)).setCell ⟨gx+3,2,none⟩ (.bool b')):=Since.setCell (F:=λk=>k=gx+3) (p:=⟨gx+3,2,none⟩) (Since.setCell (F:=λk=>k=gx+3) (p:=⟨gx+3,1,none⟩) (Since.setCell (F:=λk=>k=gx+3) (p:=⟨gx+3,0,none⟩) (Since.refl _ X) (.inl rfl) _) (.inl rfl) _) (.inl rfl) _
  exact⟨⟨za hX 0,za hX 1,za hX 2⟩,⟨za hres 0,za hres 1,za hres 2⟩,⟨zw hres 0,zw hres 1,zw hres 2⟩,hset,hS,(HB.out.trans (hW.mono HB.out.size)).trans (hS.below (by have:=HB.out.size;have:=hW.size;omega) (λk e=>by have:=yV.out;omega))⟩
 have wJ:Hid (∀(X X':World) (b':Bool) (ts':List zo) (mem':List Int) (bs' kr:List Value),qY W X gb gi tb n xc mb mn yc b' ts' mem' bs' kr->Since (λk=>k=gx+3) X X'->OwnAt w.heap.size X' (.slice (some ⟨tb,0,none⟩) n xc) (.slice (some ⟨mb,0,none⟩) mn yc) ts' mem' bs'):=λX X' b' ts' mem' bs' kr h hS=>by
  have hlt:=zq H4.out
  exact OwnAt.lower (B:=W.heap.size) (h.own.own.since hS (λk hk e=>by have:=(h.own.own.row.lt k hk).1;omega) (λk hk e=>by have:=(h.own.own.mem.lt k hk).1;omega) (λj hj k hk e=>by have:=((h.own.own.buf j hj).lt k hk).1;omega)) HB.out.size
 go_cut [15] (λs15 w'=>∃em:Bool,s15= .bool em/\w'=X4/\Hid (em=decide (bl=0)))
 case first=>
  have t5:=(HTC.out 5 _ (by omega) rfl).1
  by_cases hb0:bl=0
  ·have hb1:((bl:Int)==0)=true:=by simp [hb0]
   go_wp2_with fail
   go_meet
   case rel=>exact⟨true,by first|rfl|simp,rfl,by simp [Hid,hb0]⟩
  have hb1:((bl:Int)==0)=false:=by simp [hb0]
  go_wp2_with fail
  go_meet
  case rel=>exact⟨false,by first|rfl|simp,rfl,by simp [Hid,hb0]⟩
 case rest=>
 obtain⟨em,rfl,hww,HEM⟩:=hcut
 obtain rfl:X4=wc:=hww.symm
 have k0:=za yI.out.instr 0
 go_upto_region 11 with fail
 clear k0
 by_cases o1:op=1
 ·have vH:Hid ((1:Int)=x.op):=by rw [Hid, <-xB.out,o1]
  clear xB
  have xB:=vH
  clear vH
  have p1:((op:Int)==1)=true:=by simp [o1]
  clear o1
  as_aux_lemma=>
   go_upto_region 12 with fail
   obtain⟨lk,hlk⟩:∃lk,lk=kF bf vB:=⟨_,rfl⟩
   have zvJ:=λY hY=>zua Y (.slice ba bl bc) bf hY (by rw [<-vG.out];omega) vB
   rw [<-hlk] at zvJ
   have z7Q:=qh zvJ
   have HLK:=qh hlk
   clear zvJ hlk
   have hbu:=zau.out.1
   rw [gN.out,gP.out] at hbu
   have zrj:Hid (∀Y,Below X4.heap.size X4 Y->zW Y (.slice ba bl bc) bf):=λY hY=>zW.below (jE hbu) hY
   clear hbu
   have CZ:Hid (∀y,Below X4.heap.size X4 y->y.cell? ⟨tb,i*6+5,none⟩=some (.slice ba bl bc)/\y.cell? ⟨gi,2,none⟩=some (.int .i64 vB)):=λy hy=>⟨zh hy _ _ (HTC.out 5 _ (by omega) rfl).1,zh hy _ _ (za yI.out.instr 2)⟩
   refine vJ (S:=λx=>Below X4.heap.size X4 x) (Below.refl _ _).drew (λhH=> ?_)
   refine zk 0 CZ.out ?_
   refine zk 1 CZ.out ?_
   refine zk 2 CZ.out ?_
   refine zk 3 CZ.out ?_
   refine zk 4 CZ.out ?_
   refine zk 5 CZ.out ?_
   refine yw 6 rfl (λK hK=> ?_)
   go_simp
   refine(z7Q.out X4.drew (zrj.out X4.drew hH)).mono ?_
   rintro e zcL ⟨rfl,hb⟩
   have zrk:Below X4.heap.size X4 zcL:=zB hH hb
   refine hK.out _ _ zrk (λ_=> ?_)
   clear hK K hb hH
   refine zk 7 CZ.out ?_
   refine zk 8 CZ.out ?_
   refine zk 9 CZ.out ?_
   refine zk 10 CZ.out ?_
   refine zk 11 CZ.out ?_
   refine xM ?_
   have um:=qh (yI.out.below zrk)
   clear zrk
   skip
   cases lk with
   |some lv=>
    simp only [Option.getD_some,Option.isSome_some]
    go_upto_region 15 with fail
    have z1:=za um.out.instr 1
    refine wp_region_still_tail 7 (by kernel_rfl) (by kernel_rfl) ?_
    simp only [List.take_succ_cons,List.take_zero,List.drop_succ_cons,List.drop_zero]
    repeat still_step
    try refine wpStill_nil ?_
    change wpList _ _ _ _ _ zcL.drew
    obtain⟨X5,hX5⟩:∃wd,wd=zcL.drew:=⟨_,rfl⟩
    rw [<-hX5]
    have z7R:Hid (Below zcL.heap.size zcL X5):=by rw [Hid,hX5];exact(Below.refl _ _).drew
    clear hX5
    have zxd:=qh (um.out.below z7R.out)
    clear z1
    obtain⟨u0,v0⟩:=zxd.out.gM HL1.out gN.out gP.out (1+jR) (.int .i64 ([r0,r1,r2,r3].getD jR 0)) (by omega) (zcJ zax)
    rw [<-Nat.add_assoc] at u0 v0
    have hw6:=zxd.out.set HL1.out (k:=1+jR) (by omega) (t':=⟨(qB:Int)+1,([r0,r1,r2,r3].set jR lv),bf⟩) (u:=(.int .i64 lv)) gN.out gP.out (zaK zax) (by simp) rfl
    rw [<-Nat.add_assoc] at hw6
    have HW6:=qh hw6
    clear hw6
    go_upto_region 48 with fail
    clear u0 v0
    generalize World.setCell X5 _ _=X6 at HW6 ⊢
    obtain⟨hr6,ht6,hb6,hl6⟩:=HW6.out
    have z3o:=qh hr6
    have zCe:=qh ht6
    have zCf:=qh hb6
    have HL6:=qh hl6
    clear hr6 ht6 hb6 hl6 HW6
    have hres:R=some ⟨ts.set i ⟨(qB:Int)+1, [r0,r1,r2,r3].set jR lv,bf⟩,mem,bad⟩:=by
     rw [jf.out,kY xB.out.symm]
     simp only [Option.map_some]
     rw [<-HVR.out, <-HLK.out, <-HRG.out]
     rfl
    have zJ:=qh hres
    clear hres
    have yQ:=z3o.out
    rw [bC.out] at yQ
    have yF:=qh yQ
    clear yQ
    obtain⟨⟨a0,a1,a2⟩,⟨q0,q1,q2⟩,⟨f0,f1,f2⟩,hset,hsn,hbe⟩:=yL.out X6 bad yF.out.own.box yF.out.own.below
    have zI:=qh hset
    have xH:=qh hsn
    have yH:=qh hbe
    clear hset hsn hbe
    go_wp2_with fail
    (try simp only [Exit.inBlock,Exit.then])
    refine bodyPost_ret (zy rfl _ _ (gx+3) 35 _ (0,0) _ rfl zI.out Tryz.underlying35 rfl zC) rfl ?_
    exact⟨qy zJ.out (wJ.out _ _ _ _ _ _ _ yF.out xH.out),yH.out⟩
   |none=>
   simp only [Option.getD_none,Option.isSome_none]
   go_upto_region 14 with fail
   obtain⟨nv,bL⟩:∃nv,nv=mem.getD vB 0:=⟨_,rfl⟩
   obtain⟨sb,so,hsa, -,hsc⟩:=xI.part zc2.out vB (by rw [<-vW.out];omega)
   subst hsa
   rw [<-bL] at hsc
   have HNV:=qh bL
   clear bL
   have s1:=zh um.out.own.below _ _ hsc
   have c6:=(xJ.out _ um.out.own.below).2.2.2.2.2.2.1
   have wX:(vB:Int)<(mn:Int):=by omega
   have z2:=za um.out.instr 2
   go_upto_region 15 with fail
   clear z2 s1 c6 hsc
   go_upto_region 15 with fail
   have z1:=za um.out.instr 1
   refine wp_region_still_tail 7 (by kernel_rfl) (by kernel_rfl) ?_
   simp only [List.take_succ_cons,List.take_zero,List.drop_succ_cons,List.drop_zero]
   repeat still_step
   try refine wpStill_nil ?_
   change wpList _ _ _ _ _ zcL.drew
   obtain⟨X7,hX7⟩:∃wd,wd=zcL.drew:=⟨_,rfl⟩
   rw [<-hX7]
   have z7S:Hid (Below zcL.heap.size zcL X7):=by rw [Hid,hX7];exact(Below.refl _ _).drew
   clear hX7
   have zxe:=qh (um.out.below z7S.out)
   clear z1
   obtain⟨u0,v0⟩:=zxe.out.gM HL1.out gN.out gP.out (1+jR) (.int .i64 ([r0,r1,r2,r3].getD jR 0)) (by omega) (zcJ zax)
   rw [<-Nat.add_assoc] at u0 v0
   have hw8:=zxe.out.set HL1.out (k:=1+jR) (by omega) (t':=⟨(qB:Int)+1,([r0,r1,r2,r3].set jR nv),bf⟩) (u:=(.int .i64 nv)) gN.out gP.out (zaK zax) (by simp) rfl
   rw [<-Nat.add_assoc] at hw8
   have HW8:=qh hw8
   clear hw8
   go_upto_region 48 with fail
   clear u0 v0
   generalize World.setCell X7 _ _=X8 at HW8 ⊢
   obtain⟨hr8,ht8,hb8,hl8⟩:=HW8.out
   have z3p:=qh hr8
   have zCg:=qh ht8
   have zCh:=qh hb8
   have jZ:=qh hl8
   clear hr8 ht8 hb8 hl8 HW8
   have hres:R=some ⟨ts.set i ⟨(qB:Int)+1, [r0,r1,r2,r3].set jR nv,bf⟩,mem,bad⟩:=by
    rw [jf.out,kY xB.out.symm]
    simp only [Option.map_some]
    rw [<-HVR.out, <-HLK.out, <-HRG.out]
    rw [show((vB:Int)).toNat=vB from rfl, <-HNV.out]
    rfl
   have zJ:=qh hres
   clear hres
   have yQ:=z3p.out
   rw [bC.out] at yQ
   have yF:=qh yQ
   clear yQ
   obtain⟨⟨a0,a1,a2⟩,⟨q0,q1,q2⟩,⟨f0,f1,f2⟩,hset,hsn,hbe⟩:=yL.out X8 bad yF.out.own.box yF.out.own.below
   have zI:=qh hset
   have xH:=qh hsn
   have yH:=qh hbe
   clear hset hsn hbe
   go_wp2_with fail
   (try simp only [Exit.inBlock,Exit.then])
   refine bodyPost_ret (zy rfl _ _ (gx+3) 35 _ (0,0) _ rfl zI.out Tryz.underlying35 rfl zC) rfl ?_
   exact⟨qy zJ.out (wJ.out _ _ _ _ _ _ _ yF.out xH.out),yH.out⟩
 have p1:((op:Int)==1)=false:=by simp [o1]
 by_cases o2:op=2
 ·have vH:Hid ((2:Int)=x.op):=by rw [Hid, <-xB.out,o2]
  clear xB
  have xB:=vH
  clear vH
  have p2:((op:Int)==2)=true:=by simp [o2]
  clear o2
  as_aux_lemma=>
   go_upto_region 17 with fail
   have c3:=(xJ.out _ yI.out.own.below).2.2.2.1
   by_cases hm0:mod=0
   ·have hm1:((mod:Int)==0)=true:=by simp [hm0]
    have HM0:=qh hm0
    clear hm0
    go_upto_region 18 with fail
    clear c3 hm1
    go_upto_region 18 with fail
    have z2:=za yI.out.instr 2
    have hbx:=yI.out.own.box
    have g1:=za hbx 1
    clear hbx
    have hml:vB<mem.length:=by rw [<-vW.out];omega
    obtain⟨m0,m1⟩:=yI.out.zkX hml
    have wX:(vB:Int)<(mn:Int):=by omega
    have zxg:=qh (yI.out.mem vB A)
    clear hml
    go_upto_region 19 with fail
    clear z2 g1 m0 m1 wX
    generalize World.setCell X4 _ _=X9 at zxg ⊢
    have hres:R=some ⟨ts1,(mem.set vB A),bad⟩:=by
     rw [jf.out,kJ xB.out.symm HM0.out]
     simp only [Option.map_some]
     rw [<-HVR.out, <-HA.out,HT1.out]
     rfl
    have zJ:=qh hres
    clear hres
    have yQ:=zxg.out
    have yF:=qh yQ
    clear yQ
    obtain⟨⟨a0,a1,a2⟩,⟨q0,q1,q2⟩,⟨f0,f1,f2⟩,hset,hsn,hbe⟩:=yL.out X9 bad yF.out.own.box yF.out.own.below
    have zI:=qh hset
    have xH:=qh hsn
    have yH:=qh hbe
    clear hset hsn hbe
    go_wp2_with fail
    (try simp only [Exit.inBlock,Exit.then])
    refine bodyPost_ret (zy rfl _ _ (gx+3) 35 _ (0,0) _ rfl zI.out Tryz.underlying35 rfl zC) rfl ?_
    exact⟨qy zJ.out (wJ.out _ _ _ _ _ _ _ yF.out xH.out),yH.out⟩
   have hm1:((mod:Int)==0)=false:=by simp [hm0]
   have HM0:=qh hm0
   clear hm0
   go_upto_region 20 with fail
   clear c3 hm1
   obtain⟨ok,hok⟩:∃ok,ok=xY bf ⟨mod,bnd⟩ ⟨vB,A⟩:=⟨_,rfl⟩
   have hput:=λY hY=>zpi Y (.slice ba bl bc) bf hY (by rw [<-vG.out];omega) ⟨mod,bnd⟩ ⟨vB,A⟩
   rw [<-hok] at hput
   have bM:=qh hput
   have vS:=qh hok
   clear hput hok
   have hbu:=zau.out.1
   rw [gN.out,gP.out] at hbu
   have zrj:Hid (∀Y,Below X4.heap.size X4 Y->zW Y (.slice ba bl bc) bf):=λY hY=>zW.below (jE hbu) hY
   clear hbu
   have CZ:Hid (∀y,Below X4.heap.size X4 y->y.cell? ⟨tb,i*6+5,none⟩=some (.slice ba bl bc)/\y.cell? ⟨gi,2,none⟩=some (.int .i64 vB)/\y.cell? ⟨gx+1,0,none⟩=some (.int .i64 mod)/\y.cell? ⟨gx+1,1,none⟩=some (.int .i64 bnd)):=λy hy=>⟨zh hy _ _ (HTC.out 5 _ (by omega) rfl).1,zh hy _ _ (za yI.out.instr 2),(xJ.out y (zB yI.out.own.below hy)).2.2.2.1,(xJ.out y (zB yI.out.own.below hy)).2.2.2.2.1⟩
   refine vJ (S:=λx=>Below X4.heap.size X4 x) (Below.refl _ _).drew (λhH=> ?_)
   refine zk 0 CZ.out ?_
   refine zk 1 CZ.out ?_
   refine zk 2 CZ.out ?_
   refine zk 3 CZ.out ?_
   refine zk 4 CZ.out ?_
   refine zk 5 CZ.out ?_
   refine zk 6 CZ.out ?_
   refine zk 7 CZ.out ?_
   refine zk 8 CZ.out ?_
   refine yw 9 rfl (λK hK=> ?_)
   go_simp
   refine(bM.out X4.drew (zrj.out X4.drew hH)).mono ?_
   rintro e zow ⟨⟨bv,rfl,hbv,hrow⟩,hb⟩
   obtain⟨pa,pc2,rfl, -⟩:=ze.slice hbv
   have jh:=qh hrow
   clear hbv hrow
   have zrl:Below X4.heap.size X4 zow:=zB hH hb
   refine hK.out _ _ zrl (λ_=> ?_)
   clear hK K hb hH
   refine zk 10 CZ.out ?_
   refine zk 11 CZ.out ?_
   refine zk 12 CZ.out ?_
   refine zk 13 CZ.out ?_
   refine zk 14 CZ.out ?_
   refine xM ?_
   have um:=qh (yI.out.below zrl)
   clear zrl
   have z7T:=qh (zq yI.out.own.box)
   have z7U:=qh (yI.out.own.own.row.lt tb rfl).2
   have z7V:=qh (yI.out.own.own.mem.lt mb rfl).2
   have z7W:=qh yI.out.own.below.size
   go_upto_region 21 with fail
   obtain⟨t5,v5⟩:=um.out.gM HL1.out gN.out gP.out 5 (.slice ba bl bc) (by omega) rfl
   obtain⟨pl,hpl⟩:∃pl,pl=(vF bf ⟨mod,bnd⟩ ⟨vB,A⟩).length:=⟨_,rfl⟩
   rw [<-hpl] at jh ⊢
   have gF:=qh hpl
   clear hpl
   cases ok with
   |true=>
    have hrw:=xw (C:=W.heap.size) (jh.out rfl) z7W.out
    have hpw:=um.out.thread HL1.out (k:=5) (by omega) (t:=⟨(qB:Int)+1, [r0,r1,r2,r3],vF bf ⟨mod,bnd⟩ ⟨vB,A⟩⟩) (b:= .slice pa pl pc2) (u:= .slice pa pl pc2) (by rw [gN.out,gP.out];rfl) rfl (by rw [<-gF.out];exact hrw) (λk hk=>by have h1:X4.heap.size<=k:=((jh.out rfl).lt k hk).1;have:=z7T.out;have:=z7U.out;have:=z7V.out;exact⟨by omega,by omega,by omega⟩) (λk hk j hj _ e=>by have h1:X4.heap.size<=k:=((jh.out rfl).lt k hk).1;have h2:=((yI.out.own.own.buf j hj).lt k e).2;omega)
    rw [bC.out] at hpw
    have HPW:=qh hpw
    clear hpw hrw
    go_upto_region 22 with fail
    clear t5 v5
    generalize World.setCell zow _ _=XY at HPW ⊢
    have hres:R=some ⟨(ts.set i ⟨(qB:Int)+1, [r0,r1,r2,r3],vF bf ⟨mod,bnd⟩ ⟨vB,A⟩⟩),mem,bad⟩:=by
     rw [jf.out,kK xB.out.symm HM0.out (by rw [<-HVR.out, <-HA.out, <-vS.out])]
     simp only [Option.map_some]
     rw [<-HVR.out, <-HA.out]
    have zJ:=qh hres
    clear hres
    have yQ:=HPW.out
    have yF:=qh yQ
    clear yQ
    obtain⟨⟨a0,a1,a2⟩,⟨q0,q1,q2⟩,⟨f0,f1,f2⟩,hset,hsn,hbe⟩:=yL.out XY bad yF.out.own.box yF.out.own.below
    have zI:=qh hset
    have xH:=qh hsn
    have yH:=qh hbe
    clear hset hsn hbe
    go_wp2_with fail
    (try simp only [Exit.inBlock,Exit.then])
    refine bodyPost_ret (zy rfl _ _ (gx+3) 35 _ (0,0) _ rfl zI.out Tryz.underlying35 rfl zC) rfl ?_
    exact⟨qy zJ.out (wJ.out _ _ _ _ _ _ _ yF.out xH.out),yH.out⟩
   |false=>
   have hbx:=um.out.own.box
   have hsY:Since (λx=>x=tb) zow (zow.setCell ⟨tb,i*6+5,none⟩ (.slice pa pl pc2)):=Since.setCell (F:=λx=>x=tb) (p:=⟨tb,i*6+5,none⟩) (Since.refl _ _) (.inl rfl) _
   have z0Z:=(hsY.block gb (zq hbx) (λe=>um.out.own.n1 (by rw [e];rfl))).trans hbx
   have z1a:=um.out.own.below.trans (hsY.below um.out.own.below.size (λx e=>by have:=(um.out.own.own.row.lt tb rfl).1;omega))
   have xC:=qh z0Z
   have z1b:=qh z1a
   clear hbx hsY z0Z z1a
   have hres:R=none:=by
    rw [jf.out,kL xB.out.symm HM0.out (by rw [<-HVR.out, <-HA.out, <-vS.out])]
    rfl
   have zJ:=qh hres
   clear hres
   go_upto_region 22 with fail
   clear t5 v5
   generalize World.setCell zow _ _=XY at xC z1b ⊢
   obtain⟨⟨a0,a1,a2⟩,⟨q0,q1,q2⟩,⟨f0,f1,f2⟩,hset, -,hbe⟩:=yL.out XY bad xC.out z1b.out
   have zI:=qh hset
   have yH:=qh hbe
   clear hset hbe
   go_wp2_with fail
   (try simp only [Exit.inBlock,Exit.then])
   refine bodyPost_ret (zy rfl _ _ (gx+3) 35 _ (0,0) _ rfl zI.out Tryz.underlying35 rfl zC) rfl ?_
   exact⟨wI zJ.out,yH.out⟩
 have p2:((op:Int)==2)=false:=by simp [o2]
 by_cases o3:op=3
 ·have vH:Hid ((3:Int)=x.op):=by rw [Hid, <-xB.out,o3]
  clear xB
  have xB:=vH
  clear vH
  have p3:((op:Int)==3)=true:=by simp [o3]
  clear o3
  as_aux_lemma=>
   go_upto_region 24 with fail
   have z1:=za yI.out.instr 1
   refine wp_region_still_tail 7 (by kernel_rfl) (by kernel_rfl) ?_
   simp only [List.take_succ_cons,List.take_zero,List.drop_succ_cons,List.drop_zero]
   repeat still_step
   try refine wpStill_nil ?_
   change wpList _ _ _ _ _ X4.drew
   obtain⟨X10,zvK⟩:∃wd,wd=X4.drew:=⟨_,rfl⟩
   rw [<-zvK]
   have z3q:Hid (Below X4.heap.size X4 X10):=by rw [Hid,zvK];exact(Below.refl _ _).drew
   clear zvK
   have zt6:=qh (yI.out.below z3q.out)
   clear z1
   obtain⟨u0,v0⟩:=zt6.out.gM HL1.out gN.out gP.out (1+jR) (.int .i64 ([r0,r1,r2,r3].getD jR 0)) (by omega) (zcJ zax)
   rw [<-Nat.add_assoc] at u0 v0
   have zaY:=zt6.out.set HL1.out (k:=1+jR) (by omega) (t':=⟨(qB:Int)+1,([r0,r1,r2,r3].set jR A),bf⟩) (u:=(.int .i64 A)) gN.out gP.out (zaK zax) (by simp) rfl
   rw [<-Nat.add_assoc] at zaY
   have zvL:=qh zaY
   clear zaY
   go_upto_region 48 with fail
   clear u0 v0
   generalize World.setCell X10 _ _=X11 at zvL ⊢
   obtain⟨z1c,z1d,z1e,z1f⟩:=zvL.out
   have z1g:=qh z1c
   have zAk:=qh z1d
   have zAl:=qh z1e
   have zCi:=qh z1f
   clear z1c z1d z1e z1f zvL
   have hres:R=some ⟨ts.set i ⟨(qB:Int)+1, [r0,r1,r2,r3].set jR A,bf⟩,mem,bad⟩:=by
    rw [jf.out,uW xB.out.symm]
    simp only [Option.map_some]
    rw [<-HA.out, <-HRG.out]
    rfl
   have zJ:=qh hres
   clear hres
   have yQ:=z1g.out
   rw [bC.out] at yQ
   have yF:=qh yQ
   clear yQ
   obtain⟨⟨a0,a1,a2⟩,⟨q0,q1,q2⟩,⟨f0,f1,f2⟩,hset,hsn,hbe⟩:=yL.out X11 bad yF.out.own.box yF.out.own.below
   have zI:=qh hset
   have xH:=qh hsn
   have yH:=qh hbe
   clear hset hsn hbe
   go_wp2_with fail
   (try simp only [Exit.inBlock,Exit.then])
   refine bodyPost_ret (zy rfl _ _ (gx+3) 35 _ (0,0) _ rfl zI.out Tryz.underlying35 rfl zC) rfl ?_
   exact⟨qy zJ.out (wJ.out _ _ _ _ _ _ _ yF.out xH.out),yH.out⟩
 have p3:((op:Int)==3)=false:=by simp [o3]
 by_cases o4:op=4
 ·have vH:Hid ((4:Int)=x.op):=by rw [Hid, <-xB.out,o4]
  clear xB
  have xB:=vH
  clear vH
  have p4:((op:Int)==4)=true:=by simp [o4]
  clear o4
  as_aux_lemma=>
   go_upto_region 26 with fail
   cases em with
   |true=>
    have hb0:bf.length=0:=by rw [<-vG.out];exact of_decide_eq_true HEM.out.symm
    have HB0:=qh hb0
    clear hb0
    have hres:R=some ⟨ts1,mem,bad⟩:=by
     rw [jf.out,ku xB.out.symm]
     rw [if_pos HB0.out,HT1.out]
     rfl
    have zJ:=qh hres
    clear hres
    have yQ:=yI.out
    have yF:=qh yQ
    clear yQ
    obtain⟨⟨a0,a1,a2⟩,⟨q0,q1,q2⟩,⟨f0,f1,f2⟩,hset,hsn,hbe⟩:=yL.out X4 bad yF.out.own.box yF.out.own.below
    have zI:=qh hset
    have xH:=qh hsn
    have yH:=qh hbe
    clear hset hsn hbe
    go_wp2_with fail
    (try simp only [Exit.inBlock,Exit.then])
    refine bodyPost_ret (zy rfl _ _ (gx+3) 35 _ (0,0) _ rfl zI.out Tryz.underlying35 rfl zC) rfl ?_
    exact⟨qy zJ.out (wJ.out _ _ _ _ _ _ _ yF.out xH.out),yH.out⟩
   |false=>
   have hb0:¬bf.length=0:=by rw [<-vG.out];exact of_decide_eq_false HEM.out.symm
   have HB0:=qh hb0
   clear hb0
   have hres:R=none:=by
    rw [jf.out,ku xB.out.symm]
    rw [if_neg HB0.out]
    rfl
   have zJ:=qh hres
   clear hres
   have yQ:=yI.out
   have yF:=qh yQ
   clear yQ
   obtain⟨⟨a0,a1,a2⟩,⟨q0,q1,q2⟩,⟨f0,f1,f2⟩,hset,hsn,hbe⟩:=yL.out X4 bad yF.out.own.box yF.out.own.below
   have zI:=qh hset
   have xH:=qh hsn
   have yH:=qh hbe
   clear hset hsn hbe
   go_wp2_with fail
   (try simp only [Exit.inBlock,Exit.then])
   refine bodyPost_ret (zy rfl _ _ (gx+3) 35 _ (0,0) _ rfl zI.out Tryz.underlying35 rfl zC) rfl ?_
   exact⟨wI zJ.out,yH.out⟩
 have p4:((op:Int)==4)=false:=by simp [o4]
 by_cases o5:op=5
 ·have vH:Hid ((5:Int)=x.op):=by rw [Hid, <-xB.out,o5]
  clear xB
  have xB:=vH
  clear vH
  have p5:((op:Int)==5)=true:=by simp [o5]
  clear o5
  as_aux_lemma=>
   go_upto_region 28 with fail
   have CZ:Hid (∀y,Since (λk=>k=gx+3) X4 y->y.cell? ⟨gb,0,none⟩=some (.slice (some ⟨tb,0,none⟩) n xc)/\y.cell? ⟨gb,1,none⟩=some (.slice (some ⟨mb,0,none⟩) mn yc)/\y.cell? ⟨gb,2,none⟩=some (.bool bad)/\y.cell? ⟨gx+1,0,none⟩=some (.int .i64 mod)):=λy hy=>by
    have h1:=yI.out.own.box
    have hlo:=yI.out.own.lo
    have hlt:=zq H4.out
    have h2:=(hy.block _ (zq h1) (by omega)).trans h1
    have h3:=(yI.out.own.below.block _ (zq H2.out)).trans H2.out
    have h4:=(hy.block _ (zq h3) (by omega)).trans h3
    exact⟨za h2 0,za h2 1,za h2 2,za h4 0⟩
   cases em with
   |true=>
    have hb0:bf.length=0:=by rw [<-vG.out];exact of_decide_eq_true HEM.out.symm
    have HB0:=qh hb0
    clear hb0
    have hres:R=some ⟨ts1,mem,bad⟩:=by
     rw [jf.out,jV xB.out.symm]
     rw [if_pos (.inl HB0.out),HT1.out]
     rfl
    have zJ:=qh hres
    clear hres
    have yQ:=yI.out
    have yF:=qh yQ
    clear yQ
    refine vJ (S:=λy=>Since (λk=>k=gx+3) X4 y) (Since.refl _ _).drew (λ_=> ?_)
    obtain⟨wd,hwd⟩:∃wd,wd=X4.drew:=⟨_,rfl⟩
    rw [<-hwd]
    have HFX:=yL.out wd bad (by rw [hwd];exact yF.out.own.box) (by rw [hwd];exact yF.out.own.below.drew)
    have xA:Hid (Since (λk=>k=gx+3) X4 wd):=by rw [Hid,hwd];exact(Since.refl _ _).drew
    clear hwd
    refine zA 0 CZ.out (xA.out) ?_
    refine zA 1 zM (xA.out) ?_
    refine zA 2 zM (xA.out) ?_
    refine wpAnyH_take (i:=3) (v:=undef) rfl (by kernel_rfl) (by kernel_rfl) (by kernel_rfl) (λ_ _ _ h=>h) (Or.inr ⟨by rfl,rfl⟩) (xA.out) ?_
    change wpAnyH _ _ _ _ _ _ _ (Act.put _ (some 158) _) _
    simp only [Act.put,zQ]
    try simp only [zR,zS]
    refine wpAnyH_take (i:=4) (v:=undef) rfl (by kernel_rfl) (by kernel_rfl) (by kernel_rfl) (λ_ _ _ h=>h) (Or.inr ⟨by rfl,rfl⟩) (xA.out) ?_
    change wpAnyH _ _ _ _ _ _ _ (Act.put _ (some 159) _) _
    simp only [Act.put,zQ]
    try simp only [zR,zS]
    refine wpAnyH_take (i:=5) (v:=undef) rfl (by kernel_rfl) (by kernel_rfl) (by kernel_rfl) (λ_ _ _ h=>h) (Or.inr ⟨by rfl,rfl⟩) (xA.out) ?_
    change wpAnyH _ _ _ _ _ _ _ (Act.put _ (some 160) _) _
    simp only [Act.put,zQ]
    try simp only [zR,zS]
    refine zA 6 zM (xA.out) ?_
    refine yw 7 rfl (λK hK=> ?_)
    obtain⟨-,⟨q0,q1,q2⟩,⟨f0,f1,f2⟩,hset,hsn,hbe⟩:=HFX
    have zI:=qh hset
    have xH:=qh hsn
    have yH:=qh hbe
    clear hset hsn hbe
    go_simp
    refine hK.out _ _ (xA.out.trans xH.out (λ_ h=> .inl h)) (λ_=> ?_)
    clear hK K
    refine zA 8 zM ((xA.out.trans xH.out (λ_ h=> .inl h))) ?_
    refine xM ?_
    go_wp2_with fail
    (try simp only [Exit.inBlock,Exit.then])
    refine bodyPost_ret (zy rfl _ _ (gx+3) 35 _ (0,0) _ rfl zI.out Tryz.underlying35 rfl zC) rfl ?_
    exact⟨qy zJ.out (wJ.out _ _ _ _ _ _ _ yF.out (xA.out.trans xH.out (λ_ h=> .inl h))),yH.out⟩
   |false=>
   have hb0:¬bf.length=0:=by rw [<-vG.out];exact of_decide_eq_false HEM.out.symm
   have HB0:=qh hb0
   clear hb0
   by_cases hm2:mod=2
   rotate_left
   ·have hm3:((mod:Int) !=2)=true:=by simp [hm2]
    have HM2:=qh hm2
    clear hm2
    have hres:R=some ⟨ts1,mem,bad⟩:=by
     rw [jf.out,jV xB.out.symm]
     rw [if_pos (.inr HM2.out),HT1.out]
     rfl
    have zJ:=qh hres
    clear hres
    have yQ:=yI.out
    have yF:=qh yQ
    clear yQ
    refine vJ (S:=λy=>Since (λk=>k=gx+3) X4 y) (Since.refl _ _).drew (λ_=> ?_)
    obtain⟨wd,hwd⟩:∃wd,wd=X4.drew:=⟨_,rfl⟩
    rw [<-hwd]
    have HFX:=yL.out wd bad (by rw [hwd];exact yF.out.own.box) (by rw [hwd];exact yF.out.own.below.drew)
    have xA:Hid (Since (λk=>k=gx+3) X4 wd):=by rw [Hid,hwd];exact(Since.refl _ _).drew
    clear hwd
    refine zA 0 CZ.out (xA.out) ?_
    refine zA 1 zM (xA.out) ?_
    refine zA 2 zM (xA.out) ?_
    refine zA 3 zM (xA.out) ?_
    refine zA 4 CZ.out (xA.out) ?_
    refine zA 5 zM (xA.out) ?_
    refine zA 6 zM (xA.out) ?_
    refine yw 7 rfl (λK hK=> ?_)
    obtain⟨-,⟨q0,q1,q2⟩,⟨f0,f1,f2⟩,hset,hsn,hbe⟩:=HFX
    have zI:=qh hset
    have xH:=qh hsn
    have yH:=qh hbe
    clear hset hsn hbe
    go_simp
    refine hK.out _ _ (xA.out.trans xH.out (λ_ h=> .inl h)) (λ_=> ?_)
    clear hK K
    refine zA 8 zM ((xA.out.trans xH.out (λ_ h=> .inl h))) ?_
    refine xM ?_
    go_wp2_with fail
    (try simp only [Exit.inBlock,Exit.then])
    refine bodyPost_ret (zy rfl _ _ (gx+3) 35 _ (0,0) _ rfl zI.out Tryz.underlying35 rfl zC) rfl ?_
    exact⟨qy zJ.out (wJ.out _ _ _ _ _ _ _ yF.out (xA.out.trans xH.out (λ_ h=> .inl h))),yH.out⟩
   have hm3:((mod:Int) !=2)=false:=by simp [hm2]
   have HM2:=qh hm2
   clear hm2
   have hres:R=none:=by
    rw [jf.out,jV xB.out.symm]
    rw [if_neg (λh=>h.elim HB0.out (λh=>h HM2.out))]
    rfl
   have zJ:=qh hres
   clear hres
   have yQ:=yI.out
   have yF:=qh yQ
   clear yQ
   refine vJ (S:=λy=>Since (λk=>k=gx+3) X4 y) (Since.refl _ _).drew (λ_=> ?_)
   obtain⟨wd,hwd⟩:∃wd,wd=X4.drew:=⟨_,rfl⟩
   rw [<-hwd]
   have HFX:=yL.out wd bad (by rw [hwd];exact yF.out.own.box) (by rw [hwd];exact yF.out.own.below.drew)
   have xA:Hid (Since (λk=>k=gx+3) X4 wd):=by rw [Hid,hwd];exact(Since.refl _ _).drew
   clear hwd
   refine zA 0 CZ.out (xA.out) ?_
   refine zA 1 zM (xA.out) ?_
   refine zA 2 zM (xA.out) ?_
   refine zA 3 zM (xA.out) ?_
   refine zA 4 CZ.out (xA.out) ?_
   refine zA 5 zM (xA.out) ?_
   refine zA 6 zM (xA.out) ?_
   refine yw 7 rfl (λK hK=> ?_)
   obtain⟨-,⟨q0,q1,q2⟩,⟨f0,f1,f2⟩,hset,hsn,hbe⟩:=HFX
   have zI:=qh hset
   have xH:=qh hsn
   have yH:=qh hbe
   clear hset hsn hbe
   go_simp
   refine hK.out _ _ (xA.out.trans xH.out (λ_ h=> .inl h)) (λ_=> ?_)
   clear hK K
   refine zA 8 zM ((xA.out.trans xH.out (λ_ h=> .inl h))) ?_
   refine xM ?_
   go_wp2_with fail
   (try simp only [Exit.inBlock,Exit.then])
   refine bodyPost_ret (zy rfl _ _ (gx+3) 35 _ (0,0) _ rfl zI.out Tryz.underlying35 rfl zC) rfl ?_
   exact⟨wI zJ.out,yH.out⟩
 have p5:((op:Int)==5)=false:=by simp [o5]
 by_cases o6:op=6
 ·have vH:Hid ((6:Int)=x.op):=by rw [Hid, <-xB.out,o6]
  clear xB
  have xB:=vH
  clear vH
  have p6:((op:Int)==6)=true:=by simp [o6]
  clear o6
  as_aux_lemma=>
   go_upto_region 30 with fail
   have z1:=za yI.out.instr 1
   refine wp_region_still_tail 6 (by kernel_rfl) (by kernel_rfl) ?_
   simp only [List.take_succ_cons,List.take_zero,List.drop_succ_cons,List.drop_zero]
   repeat still_step
   try refine wpStill_nil ?_
   change wpList _ _ _ _ _ X4.drew
   obtain⟨X15,zvM⟩:∃wd,wd=X4.drew:=⟨_,rfl⟩
   rw [<-zvM]
   have z3r:Hid (Below X4.heap.size X4 X15):=by rw [Hid,zvM];exact(Below.refl _ _).drew
   clear zvM
   have zt7:=qh (yI.out.below z3r.out)
   clear z1
   obtain⟨u0,v0⟩:=zt7.out.gM HL1.out gN.out gP.out (1+jR) (.int .i64 ([r0,r1,r2,r3].getD jR 0)) (by omega) (zcJ zax)
   rw [<-Nat.add_assoc] at u0 v0
   have hw16:=zt7.out.set HL1.out (k:=1+jR) (by omega) (t':=⟨(qB:Int)+1,([r0,r1,r2,r3].set jR 0),bf⟩) (u:=(.int .i64 0)) gN.out gP.out (zaK zax) (by simp) rfl
   rw [<-Nat.add_assoc] at hw16
   have zvN:=qh hw16
   clear hw16
   go_upto_region 31 with fail
   clear u0 v0
   generalize World.setCell X15 _ _=X16 at zvN ⊢
   obtain⟨z1i,z1j,z1k,z1l⟩:=zvN.out
   have bW:=qh z1i
   have zxh:=qh z1j
   have zxi:=qh z1k
   have z1m:=qh z1l
   clear z1i z1j z1k z1l zvN
   obtain⟨nv,bL⟩:∃nv,nv=mem.getD vB 0:=⟨_,rfl⟩
   obtain⟨sb,so,hsa, -,hsc⟩:=xI.part zc2.out vB (by rw [<-vW.out];omega)
   subst hsa
   rw [<-bL] at hsc
   have HNV:=qh bL
   clear bL
   have s1:=zh bW.out.own.below _ _ hsc
   have c6:=(xJ.out _ bW.out.own.below).2.2.2.2.2.2.1
   have wX:(vB:Int)<(mn:Int):=by omega
   have z2:=za bW.out.instr 2
   by_cases ha0:nv=A
   rotate_left
   ·have ha1:((nv:Int)==A)=false:=by simp [ha0]
    have bV:=qh ha0
    clear ha0
    go_upto_region 34 with fail
    clear z2 s1 c6 hsc wX ha1
    cases em with
    |true=>
     have hb0:bf.length=0:=by rw [<-vG.out];exact of_decide_eq_true HEM.out.symm
     have HB0:=qh hb0
     clear hb0
     have hres:R=some ⟨ts.set i ⟨(qB:Int)+1, [r0,r1,r2,r3].set jR 0,bf⟩,mem,bad⟩:=by
      rw [jf.out,wh xB.out.symm (by rw [<-HVR.out, <-HA.out];exact λe=>bV.out (HNV.out.trans e)),if_pos HB0.out]
      simp only [Option.map_some]
      rw [<-HRG.out]
      rfl
     have zJ:=qh hres
     clear hres
     have yQ:=bW.out
     rw [bC.out] at yQ
     have yF:=qh yQ
     clear yQ
     obtain⟨⟨a0,a1,a2⟩,⟨q0,q1,q2⟩,⟨f0,f1,f2⟩,hset,hsn,hbe⟩:=yL.out X16 bad yF.out.own.box yF.out.own.below
     have zI:=qh hset
     have xH:=qh hsn
     have yH:=qh hbe
     clear hset hsn hbe
     go_wp2_with fail
     (try simp only [Exit.inBlock,Exit.then])
     refine bodyPost_ret (zy rfl _ _ (gx+3) 35 _ (0,0) _ rfl zI.out Tryz.underlying35 rfl zC) rfl ?_
     exact⟨qy zJ.out (wJ.out _ _ _ _ _ _ _ yF.out xH.out),yH.out⟩
    |false=>
    have hb0:¬bf.length=0:=by rw [<-vG.out];exact of_decide_eq_false HEM.out.symm
    have HB0:=qh hb0
    clear hb0
    have hres:R=none:=by
     rw [jf.out,wh xB.out.symm (by rw [<-HVR.out, <-HA.out];exact λe=>bV.out (HNV.out.trans e)),if_neg HB0.out]
     rfl
    have zJ:=qh hres
    clear hres
    have yQ:=bW.out
    have yF:=qh yQ
    clear yQ
    obtain⟨⟨a0,a1,a2⟩,⟨q0,q1,q2⟩,⟨f0,f1,f2⟩,hset,hsn,hbe⟩:=yL.out X16 bad yF.out.own.box yF.out.own.below
    have zI:=qh hset
    have xH:=qh hsn
    have yH:=qh hbe
    clear hset hsn hbe
    go_wp2_with fail
    (try simp only [Exit.inBlock,Exit.then])
    refine bodyPost_ret (zy rfl _ _ (gx+3) 35 _ (0,0) _ rfl zI.out Tryz.underlying35 rfl zC) rfl ?_
    exact⟨wI zJ.out,yH.out⟩
   have ha1:((nv:Int)==A)=true:=by simp [ha0]
   have bV:=qh ha0
   clear ha0
   go_upto_region 32 with fail
   clear z2 s1 c6 hsc wX ha1
   go_upto_region 32 with fail
   have z2:=za bW.out.instr 2
   have hbx:=bW.out.own.box
   have g1:=za hbx 1
   clear hbx
   have hml:vB<mem.length:=by rw [<-vW.out];omega
   obtain⟨m0,m1⟩:=bW.out.zkX hml
   have wX:(vB:Int)<(mn:Int):=by omega
   have zox:=qh (bW.out.mem vB B)
   clear hml
   go_upto_region 33 with fail
   clear z2 g1 m0 m1 wX
   generalize World.setCell X16 _ _=X17 at zox ⊢
   go_upto_region 33 with fail
   have z1:=za zox.out.instr 1
   refine wp_region_still_tail 6 (by kernel_rfl) (by kernel_rfl) ?_
   simp only [List.take_succ_cons,List.take_zero,List.drop_succ_cons,List.drop_zero]
   repeat still_step
   try refine wpStill_nil ?_
   change wpList _ _ _ _ _ X17.drew
   obtain⟨X18,zvO⟩:∃wd,wd=X17.drew:=⟨_,rfl⟩
   rw [<-zvO]
   have z3s:Hid (Below X17.heap.size X17 X18):=by rw [Hid,zvO];exact(Below.refl _ _).drew
   clear zvO
   have zt8:=qh (zox.out.below z3s.out)
   clear z1
   obtain⟨u0,v0⟩:=zt8.out.gM z1m.out zxh.out zxi.out (1+jR) (.int .i64 ([0,0,0,0].getD jR 0)) (by omega) (ztx zax)
   rw [<-Nat.add_assoc] at u0 v0
   have zvP:=zt8.out.set z1m.out (k:=1+jR) (by omega) (t':=⟨(qB:Int)+1,([r0,r1,r2,r3].set jR 1),bf⟩) (u:=(.int .i64 1)) zxh.out zxi.out (zoR zax) (by simp) rfl
   rw [<-Nat.add_assoc] at zvP
   have zvQ:=qh zvP
   clear zvP
   go_upto_region 34 with fail
   clear u0 v0
   generalize World.setCell X18 _ _=X19 at zvQ ⊢
   obtain⟨z1n,z1o,z1p,z1q⟩:=zvQ.out
   have zt9:=qh z1n
   have zAm:=qh z1o
   have zAn:=qh z1p
   have zCj:=qh z1q
   clear z1n z1o z1p z1q zvQ
   cases em with
   |true=>
    have hb0:bf.length=0:=by rw [<-vG.out];exact of_decide_eq_true HEM.out.symm
    have HB0:=qh hb0
    clear hb0
    have hres:R=some ⟨ts.set i ⟨(qB:Int)+1, [r0,r1,r2,r3].set jR 1,bf⟩,(mem.set vB B),bad⟩:=by
     rw [jf.out,kZ xB.out.symm (by rw [<-HVR.out, <-HA.out, <-bV.out,HNV.out];rfl),if_pos HB0.out]
     simp only [Option.map_some]
     rw [<-HVR.out, <-yH.out, <-HRG.out]
     rfl
    have zJ:=qh hres
    clear hres
    have yQ:=zt9.out
    rw [List.set_set,bC.out] at yQ
    have yF:=qh yQ
    clear yQ
    obtain⟨⟨a0,a1,a2⟩,⟨q0,q1,q2⟩,⟨f0,f1,f2⟩,hset,hsn,hbe⟩:=yL.out X19 bad yF.out.own.box yF.out.own.below
    have zI:=qh hset
    have xH:=qh hsn
    have yH:=qh hbe
    clear hset hsn hbe
    go_wp2_with fail
    (try simp only [Exit.inBlock,Exit.then])
    refine bodyPost_ret (zy rfl _ _ (gx+3) 35 _ (0,0) _ rfl zI.out Tryz.underlying35 rfl zC) rfl ?_
    exact⟨qy zJ.out (wJ.out _ _ _ _ _ _ _ yF.out xH.out),yH.out⟩
   |false=>
   have hb0:¬bf.length=0:=by rw [<-vG.out];exact of_decide_eq_false HEM.out.symm
   have HB0:=qh hb0
   clear hb0
   have hres:R=none:=by
    rw [jf.out,kZ xB.out.symm (by rw [<-HVR.out, <-HA.out, <-bV.out,HNV.out];rfl),if_neg HB0.out]
    rfl
   have zJ:=qh hres
   clear hres
   have yQ:=zt9.out
   have yF:=qh yQ
   clear yQ
   obtain⟨⟨a0,a1,a2⟩,⟨q0,q1,q2⟩,⟨f0,f1,f2⟩,hset,hsn,hbe⟩:=yL.out X19 bad yF.out.own.box yF.out.own.below
   have zI:=qh hset
   have xH:=qh hsn
   have yH:=qh hbe
   clear hset hsn hbe
   go_wp2_with fail
   (try simp only [Exit.inBlock,Exit.then])
   refine bodyPost_ret (zy rfl _ _ (gx+3) 35 _ (0,0) _ rfl zI.out Tryz.underlying35 rfl zC) rfl ?_
   exact⟨wI zJ.out,yH.out⟩
 have p6:((op:Int)==6)=false:=by simp [o6]
 by_cases o7:op=7
 ·have vH:Hid ((7:Int)=x.op):=by rw [Hid, <-xB.out,o7]
  clear xB
  have xB:=vH
  clear vH
  have p7:((op:Int)==7)=true:=by simp [o7]
  clear o7
  as_aux_lemma=>
   obtain⟨nv,bL⟩:∃nv,nv=mem.getD vB 0:=⟨_,rfl⟩
   obtain⟨sb,so,hsa,hsb,hsc⟩:=xI.part zc2.out vB (by rw [<-vW.out];omega)
   subst hsa
   rw [<-bL] at hsc
   have HNV:=qh bL
   have HSC:=qh hsc
   clear bL hsc hsb
   obtain⟨sb2,so2,he2,z7X, -⟩:=xI.part z7N.out vB (by rw [<-vW.out];omega)
   cases he2
   have HSG:Hid (¬sb=gx+3):=λe=>by have:=yV.out;omega
   clear z7X
   go_upto_region 36 with fail
   have z2:=za yI.out.instr 2
   have hbx:=yI.out.own.box
   have g1:=za hbx 1
   clear hbx
   have hml:vB<mem.length:=by rw [<-vW.out];omega
   obtain⟨m0,m1⟩:=yI.out.zkX hml
   have wX:(vB:Int)<(mn:Int):=by omega
   have bZ:=qh (yI.out.mem vB 1)
   clear hml
   go_upto_region 37 with fail
   clear z2 g1 m0 m1 wX
   generalize World.setCell X4 _ _=X20 at bZ ⊢
   have wX:(vB:Int)<(mn:Int):=by omega
   have CZ:Hid (∀y,Since (λk=>k=gx+3) X20 y->y.cell? ⟨gb,0,none⟩=some (.slice (some ⟨tb,0,none⟩) n xc)/\y.cell? ⟨gb,1,none⟩=some (.slice (some ⟨mb,0,none⟩) mn yc)/\y.cell? ⟨gb,2,none⟩=some (.bool bad)/\y.cell? ⟨gx+2,1,none⟩=some (.slice (some ⟨sb,so,none⟩) mn qN)/\y.cell? ⟨gi,2,none⟩=some (.int .i64 vB)/\y.cell? ⟨sb,so+vB,none⟩=some (.int .i64 nv)):=λy hy=>by
    have h1:=bZ.out.own.box
    have hlo:=bZ.out.own.lo
    have hlt:=zq H4.out
    have h2:=(hy.block _ (zq h1) (by omega)).trans h1
    have h3:=(bZ.out.own.below.block _ (zq H3.out)).trans H3.out
    have h4:=(hy.block _ (zq h3) (by omega)).trans h3
    have h5:=bZ.out.instr
    have h6:=(hy.block _ (zq h5) HGI.out).trans h5
    have h7:=zh bZ.out.own.below _ _ HSC.out
    have h8:=(hy.cell (p:=⟨sb,so+vB,none⟩) (World.block_lt_of_cell? _ _ h7) HSG.out).trans h7
    exact⟨za h2 0,za h2 1,za h2 2,za h4 1,za h6 2,h8⟩
   cases em with
   |true=>
    have hb0:bf.length=0:=by rw [<-vG.out];exact of_decide_eq_true HEM.out.symm
    have HB0:=qh hb0
    clear hb0
    by_cases ha0:nv=0
    rotate_left
    ·have ha1:((nv:Int)==0)=false:=by simp [ha0]
     have bV:=qh ha0
     clear ha0
     have hres:R=none:=by
      rw [jf.out,jW xB.out.symm]
      rw [if_neg (λh=>bV.out (by have:=h.2;rw [<-HVR.out] at this;exact HNV.out.trans this))]
      rfl
     have zJ:=qh hres
     clear hres
     have yQ:=bZ.out
     have yF:=qh yQ
     clear yQ
     refine vJ (S:=λy=>Since (λk=>k=gx+3) X20 y) (Since.refl _ _).drew (λ_=> ?_)
     obtain⟨wd,hwd⟩:∃wd,wd=X20.drew:=⟨_,rfl⟩
     rw [<-hwd]
     have HFX:=yL.out wd bad (by rw [hwd];exact yF.out.own.box) (by rw [hwd];exact yF.out.own.below.drew)
     have xA:Hid (Since (λk=>k=gx+3) X20 wd):=by rw [Hid,hwd];exact(Since.refl _ _).drew
     clear hwd
     refine zA 0 CZ.out (xA.out) ?_
     refine zA 1 zM (xA.out) ?_
     refine zA 2 zM (xA.out) ?_
     refine zA 3 zM (xA.out) ?_
     refine zA 4 CZ.out (xA.out) ?_
     refine zA 5 zM (xA.out) ?_
     refine zA 6 CZ.out (xA.out) ?_
     refine zA 7 zM (xA.out) ?_
     refine zA 8 CZ.out (xA.out) ?_
     refine zA 9 zM (xA.out) ?_
     refine zA 10 zM (xA.out) ?_
     refine yw 11 rfl (λK hK=> ?_)
     obtain⟨-,⟨q0,q1,q2⟩,⟨f0,f1,f2⟩,hset,hsn,hbe⟩:=HFX
     have zI:=qh hset
     have xH:=qh hsn
     have yH:=qh hbe
     clear hset hsn hbe
     go_simp
     refine hK.out _ _ (xA.out.trans xH.out (λ_ h=> .inl h)) (λ_=> ?_)
     clear hK K
     refine zA 12 zM ((xA.out.trans xH.out (λ_ h=> .inl h))) ?_
     refine xM ?_
     go_wp2_with fail
     (try simp only [Exit.inBlock,Exit.then])
     refine bodyPost_ret (zy rfl _ _ (gx+3) 35 _ (0,0) _ rfl zI.out Tryz.underlying35 rfl zC) rfl ?_
     exact⟨wI zJ.out,yH.out⟩
    have ha1:((nv:Int)==0)=true:=by simp [ha0]
    have bV:=qh ha0
    clear ha0
    have hres:R=some ⟨ts1,(mem.set vB 1),bad⟩:=by
     rw [jf.out,jW xB.out.symm]
     rw [if_pos ⟨HB0.out,by rw [<-HVR.out];exact HNV.out.symm.trans bV.out⟩]
     simp only [Option.map_some]
     rw [<-HVR.out,HT1.out]
     rfl
    have zJ:=qh hres
    clear hres
    have yQ:=bZ.out
    have yF:=qh yQ
    clear yQ
    refine vJ (S:=λy=>Since (λk=>k=gx+3) X20 y) (Since.refl _ _).drew (λ_=> ?_)
    obtain⟨wd,hwd⟩:∃wd,wd=X20.drew:=⟨_,rfl⟩
    rw [<-hwd]
    have HFX:=yL.out wd bad (by rw [hwd];exact yF.out.own.box) (by rw [hwd];exact yF.out.own.below.drew)
    have xA:Hid (Since (λk=>k=gx+3) X20 wd):=by rw [Hid,hwd];exact(Since.refl _ _).drew
    clear hwd
    refine zA 0 CZ.out (xA.out) ?_
    refine zA 1 zM (xA.out) ?_
    refine zA 2 zM (xA.out) ?_
    refine zA 3 zM (xA.out) ?_
    refine zA 4 CZ.out (xA.out) ?_
    refine zA 5 zM (xA.out) ?_
    refine zA 6 CZ.out (xA.out) ?_
    refine zA 7 zM (xA.out) ?_
    refine zA 8 CZ.out (xA.out) ?_
    refine zA 9 zM (xA.out) ?_
    refine zA 10 zM (xA.out) ?_
    refine yw 11 rfl (λK hK=> ?_)
    obtain⟨-,⟨q0,q1,q2⟩,⟨f0,f1,f2⟩,hset,hsn,hbe⟩:=HFX
    have zI:=qh hset
    have xH:=qh hsn
    have yH:=qh hbe
    clear hset hsn hbe
    go_simp
    refine hK.out _ _ (xA.out.trans xH.out (λ_ h=> .inl h)) (λ_=> ?_)
    clear hK K
    refine zA 12 zM ((xA.out.trans xH.out (λ_ h=> .inl h))) ?_
    refine xM ?_
    go_wp2_with fail
    (try simp only [Exit.inBlock,Exit.then])
    refine bodyPost_ret (zy rfl _ _ (gx+3) 35 _ (0,0) _ rfl zI.out Tryz.underlying35 rfl zC) rfl ?_
    exact⟨qy zJ.out (wJ.out _ _ _ _ _ _ _ yF.out (xA.out.trans xH.out (λ_ h=> .inl h))),yH.out⟩
   |false=>
   have hb0:¬bf.length=0:=by rw [<-vG.out];exact of_decide_eq_false HEM.out.symm
   have HB0:=qh hb0
   clear hb0
   have hres:R=none:=by
    rw [jf.out,jW xB.out.symm]
    rw [if_neg (λh=>HB0.out h.1)]
    rfl
   have zJ:=qh hres
   clear hres
   have yQ:=bZ.out
   have yF:=qh yQ
   clear yQ
   refine vJ (S:=λy=>Since (λk=>k=gx+3) X20 y) (Since.refl _ _).drew (λ_=> ?_)
   obtain⟨wd,hwd⟩:∃wd,wd=X20.drew:=⟨_,rfl⟩
   rw [<-hwd]
   have HFX:=yL.out wd bad (by rw [hwd];exact yF.out.own.box) (by rw [hwd];exact yF.out.own.below.drew)
   have xA:Hid (Since (λk=>k=gx+3) X20 wd):=by rw [Hid,hwd];exact(Since.refl _ _).drew
   clear hwd
   refine zA 0 CZ.out (xA.out) ?_
   refine zA 1 zM (xA.out) ?_
   refine zA 2 zM (xA.out) ?_
   refine wpAnyH_take (i:=3) (v:=undef) rfl (by kernel_rfl) (by kernel_rfl) (by kernel_rfl) (λ_ _ _ h=>h) (Or.inr ⟨by rfl,rfl⟩) (xA.out) ?_
   change wpAnyH _ _ _ _ _ _ _ (Act.put _ (some 202) _) _
   simp only [Act.put,zQ]
   try simp only [zR,zS]
   refine wpAnyH_take (i:=4) (v:=undef) rfl (by kernel_rfl) (by kernel_rfl) (by kernel_rfl) (λ_ _ _ h=>h) (Or.inr ⟨by rfl,rfl⟩) (xA.out) ?_
   change wpAnyH _ _ _ _ _ _ _ (Act.put _ (some 203) _) _
   simp only [Act.put,zQ]
   try simp only [zR,zS]
   refine wpAnyH_take (i:=5) (v:=undef) rfl (by kernel_rfl) (by kernel_rfl) (by kernel_rfl) (λ_ _ _ h=>h) (Or.inr ⟨by rfl,rfl⟩) (xA.out) ?_
   change wpAnyH _ _ _ _ _ _ _ (Act.put _ (some 204) _) _
   simp only [Act.put,zQ]
   try simp only [zR,zS]
   refine wpAnyH_take (i:=6) (v:=undef) rfl (by kernel_rfl) (by kernel_rfl) (by kernel_rfl) (λ_ _ _ h=>h) (Or.inr ⟨by rfl,rfl⟩) (xA.out) ?_
   change wpAnyH _ _ _ _ _ _ _ (Act.put _ (some 205) _) _
   simp only [Act.put,zQ]
   try simp only [zR,zS]
   refine wpAnyH_take (i:=7) (v:=undef) rfl (by kernel_rfl) (by kernel_rfl) (by kernel_rfl) (λ_ _ _ h=>h) (Or.inr ⟨by rfl,rfl⟩) (xA.out) ?_
   change wpAnyH _ _ _ _ _ _ _ (Act.put _ (some 206) _) _
   simp only [Act.put,zQ]
   try simp only [zR,zS]
   refine wpAnyH_take (i:=8) (v:=undef) rfl (by kernel_rfl) (by kernel_rfl) (by kernel_rfl) (λ_ _ _ h=>h) (Or.inr ⟨by rfl,rfl⟩) (xA.out) ?_
   change wpAnyH _ _ _ _ _ _ _ (Act.put _ (some 207) _) _
   simp only [Act.put,zQ]
   try simp only [zR,zS]
   refine wpAnyH_take (i:=9) (v:=undef) rfl (by kernel_rfl) (by kernel_rfl) (by kernel_rfl) (λ_ _ _ h=>h) (Or.inr ⟨by rfl,rfl⟩) (xA.out) ?_
   change wpAnyH _ _ _ _ _ _ _ (Act.put _ (some 208) _) _
   simp only [Act.put,zQ]
   try simp only [zR,zS]
   refine zA 10 zM (xA.out) ?_
   refine yw 11 rfl (λK hK=> ?_)
   obtain⟨-,⟨q0,q1,q2⟩,⟨f0,f1,f2⟩,hset,hsn,hbe⟩:=HFX
   have zI:=qh hset
   have xH:=qh hsn
   have yH:=qh hbe
   clear hset hsn hbe
   go_simp
   refine hK.out _ _ (xA.out.trans xH.out (λ_ h=> .inl h)) (λ_=> ?_)
   clear hK K
   refine zA 12 zM ((xA.out.trans xH.out (λ_ h=> .inl h))) ?_
   refine xM ?_
   go_wp2_with fail
   (try simp only [Exit.inBlock,Exit.then])
   refine bodyPost_ret (zy rfl _ _ (gx+3) 35 _ (0,0) _ rfl zI.out Tryz.underlying35 rfl zC) rfl ?_
   exact⟨wI zJ.out,yH.out⟩
 have p7:((op:Int)==7)=false:=by simp [o7]
 by_cases o8:op=8
 ·have vH:Hid ((8:Int)=x.op):=by rw [Hid, <-xB.out,o8]
  clear xB
  have xB:=vH
  clear vH
  have p8:((op:Int)==8)=true:=by simp [o8]
  clear o8
  as_aux_lemma=>
   go_upto_region 39 with fail
   have z2:=za yI.out.instr 2
   have hbx:=yI.out.own.box
   have g1:=za hbx 1
   clear hbx
   have hml:vB<mem.length:=by rw [<-vW.out];omega
   obtain⟨m0,m1⟩:=yI.out.zkX hml
   have wX:(vB:Int)<(mn:Int):=by omega
   have zoy:=qh (yI.out.mem vB 0)
   clear hml
   go_upto_region 40 with fail
   clear z2 g1 m0 m1 wX
   generalize World.setCell X4 _ _=X24 at zoy ⊢
   cases em with
   |true=>
    have hb0:bf.length=0:=by rw [<-vG.out];exact of_decide_eq_true HEM.out.symm
    have HB0:=qh hb0
    clear hb0
    have hres:R=some ⟨ts1,(mem.set vB 0),bad⟩:=by
     rw [jf.out,jG xB.out.symm]
     rw [if_pos HB0.out]
     simp only [Option.map_some]
     rw [<-HVR.out,HT1.out]
     rfl
    have zJ:=qh hres
    clear hres
    have yQ:=zoy.out
    have yF:=qh yQ
    clear yQ
    obtain⟨⟨a0,a1,a2⟩,⟨q0,q1,q2⟩,⟨f0,f1,f2⟩,hset,hsn,hbe⟩:=yL.out X24 bad yF.out.own.box yF.out.own.below
    have zI:=qh hset
    have xH:=qh hsn
    have yH:=qh hbe
    clear hset hsn hbe
    go_wp2_with fail
    (try simp only [Exit.inBlock,Exit.then])
    refine bodyPost_ret (zy rfl _ _ (gx+3) 35 _ (0,0) _ rfl zI.out Tryz.underlying35 rfl zC) rfl ?_
    exact⟨qy zJ.out (wJ.out _ _ _ _ _ _ _ yF.out xH.out),yH.out⟩
   |false=>
   have hb0:¬bf.length=0:=by rw [<-vG.out];exact of_decide_eq_false HEM.out.symm
   have HB0:=qh hb0
   clear hb0
   have hres:R=none:=by
    rw [jf.out,jG xB.out.symm]
    rw [if_neg HB0.out]
    rfl
   have zJ:=qh hres
   clear hres
   have yQ:=zoy.out
   have yF:=qh yQ
   clear yQ
   obtain⟨⟨a0,a1,a2⟩,⟨q0,q1,q2⟩,⟨f0,f1,f2⟩,hset,hsn,hbe⟩:=yL.out X24 bad yF.out.own.box yF.out.own.below
   have zI:=qh hset
   have xH:=qh hsn
   have yH:=qh hbe
   clear hset hsn hbe
   go_wp2_with fail
   (try simp only [Exit.inBlock,Exit.then])
   refine bodyPost_ret (zy rfl _ _ (gx+3) 35 _ (0,0) _ rfl zI.out Tryz.underlying35 rfl zC) rfl ?_
   exact⟨wI zJ.out,yH.out⟩
 have p8:((op:Int)==8)=false:=by simp [o8]
 by_cases o9:op=9
 ·have vH:Hid ((9:Int)=x.op):=by rw [Hid, <-xB.out,o9]
  clear xB
  have xB:=vH
  clear vH
  have p9:((op:Int)==9)=true:=by simp [o9]
  clear o9
  as_aux_lemma=>
   go_upto_region 42 with fail
   have hbx:=yI.out.own.box
   have g2:=za hbx 2
   have h2:=zw hbx 2
   clear hbx
   cases bad with
   |true=>
    have ztA:=qh (yI.out.isBad true)
    go_upto_region 48 with fail
    clear g2 h2
    generalize World.setCell X4 _ _=X25 at ztA ⊢
    have hres:R=some ⟨ts1,mem,true⟩:=by
     rw [jf.out,jk xB.out.symm]
     rw [HT1.out]
     rfl
    have zJ:=qh hres
    clear hres
    have yQ:=ztA.out
    have yF:=qh yQ
    clear yQ
    obtain⟨⟨a0,a1,a2⟩,⟨q0,q1,q2⟩,⟨f0,f1,f2⟩,hset,hsn,hbe⟩:=yL.out X25 true yF.out.own.box yF.out.own.below
    have zI:=qh hset
    have xH:=qh hsn
    have yH:=qh hbe
    clear hset hsn hbe
    go_wp2_with fail
    (try simp only [Exit.inBlock,Exit.then])
    refine bodyPost_ret (zy rfl _ _ (gx+3) 35 _ (0,0) _ rfl zI.out Tryz.underlying35 rfl zC) rfl ?_
    exact⟨qy zJ.out (wJ.out _ _ _ _ _ _ _ yF.out xH.out),yH.out⟩
   |false=>
   by_cases ha0:A=0
   rotate_left
   ·have ha1:((A:Int)==0)=false:=by simp [ha0]
    have bV:=qh ha0
    clear ha0
    have ztB:=qh (yI.out.isBad false)
    go_upto_region 48 with fail
    clear g2 h2
    generalize World.setCell X4 _ _=X27 at ztB ⊢
    have hres:R=some ⟨ts1,mem,false⟩:=by
     rw [jf.out,jk xB.out.symm]
     rw [HT1.out, <-HA.out,decide_eq_false bV.out]
     rfl
    have zJ:=qh hres
    clear hres
    have yQ:=ztB.out
    have yF:=qh yQ
    clear yQ
    obtain⟨⟨a0,a1,a2⟩,⟨q0,q1,q2⟩,⟨f0,f1,f2⟩,hset,hsn,hbe⟩:=yL.out X27 false yF.out.own.box yF.out.own.below
    have zI:=qh hset
    have xH:=qh hsn
    have yH:=qh hbe
    clear hset hsn hbe
    go_wp2_with fail
    (try simp only [Exit.inBlock,Exit.then])
    refine bodyPost_ret (zy rfl _ _ (gx+3) 35 _ (0,0) _ rfl zI.out Tryz.underlying35 rfl zC) rfl ?_
    exact⟨qy zJ.out (wJ.out _ _ _ _ _ _ _ yF.out xH.out),yH.out⟩
   have ha1:((A:Int)==0)=true:=by simp [ha0]
   have bV:=qh ha0
   clear ha0
   have ztC:=qh (yI.out.isBad true)
   go_upto_region 48 with fail
   clear g2 h2
   generalize World.setCell X4 _ _=X26 at ztC ⊢
   have hres:R=some ⟨ts1,mem,true⟩:=by
    rw [jf.out,jk xB.out.symm]
    rw [HT1.out, <-HA.out,decide_eq_true bV.out]
    rfl
   have zJ:=qh hres
   clear hres
   have yQ:=ztC.out
   have yF:=qh yQ
   clear yQ
   obtain⟨⟨a0,a1,a2⟩,⟨q0,q1,q2⟩,⟨f0,f1,f2⟩,hset,hsn,hbe⟩:=yL.out X26 true yF.out.own.box yF.out.own.below
   have zI:=qh hset
   have xH:=qh hsn
   have yH:=qh hbe
   clear hset hsn hbe
   go_wp2_with fail
   (try simp only [Exit.inBlock,Exit.then])
   refine bodyPost_ret (zy rfl _ _ (gx+3) 35 _ (0,0) _ rfl zI.out Tryz.underlying35 rfl zC) rfl ?_
   exact⟨qy zJ.out (wJ.out _ _ _ _ _ _ _ yF.out xH.out),yH.out⟩
 have p9:((op:Int)==9)=false:=by simp [o9]
 by_cases o12:op=12
 rotate_left
 ·have p12:((op:Int)==12)=false:=by simp [o12]
  by_cases o13:op=13
  rotate_left
  ·have p13:((op:Int)==13)=false:=by simp [o13]
   as_aux_lemma=>
    go_upto_region 48 with fail
    have hres:R=some ⟨ts1,mem,bad⟩:=by
     rw [jf.out,uF (by rw [<-xB.out];exact o1) (by rw [<-xB.out];exact o2) (by rw [<-xB.out];exact o3) (by rw [<-xB.out];exact o4) (by rw [<-xB.out];exact o5) (by rw [<-xB.out];exact o6) (by rw [<-xB.out];exact o7) (by rw [<-xB.out];exact o8) (by rw [<-xB.out];exact o9) (by rw [<-xB.out];exact o12) (by rw [<-xB.out];exact o13),HT1.out]
     rfl
    have zJ:=qh hres
    clear hres
    have yQ:=yI.out
    have yF:=qh yQ
    clear yQ
    obtain⟨⟨a0,a1,a2⟩,⟨q0,q1,q2⟩,⟨f0,f1,f2⟩,hset,hsn,hbe⟩:=yL.out X4 bad yF.out.own.box yF.out.own.below
    have zI:=qh hset
    have xH:=qh hsn
    have yH:=qh hbe
    clear hset hsn hbe
    go_wp2_with fail
    (try simp only [Exit.inBlock,Exit.then])
    refine bodyPost_ret (zy rfl _ _ (gx+3) 35 _ (0,0) _ rfl zI.out Tryz.underlying35 rfl zC) rfl ?_
    exact⟨qy zJ.out (wJ.out _ _ _ _ _ _ _ yF.out xH.out),yH.out⟩
  have vH:Hid ((13:Int)=x.op):=by rw [Hid, <-xB.out,o13]
  clear xB
  have xB:=vH
  clear vH
  have p13:((op:Int)==13)=true:=by simp [o13]
  clear o13
  as_aux_lemma=>
   go_upto_region 47 with fail
   have z11:=za yI.out.instr 11
   obtain⟨u0,v0⟩:=yI.out.gM HL1.out gN.out gP.out 0 (.int .i64 ((qB:Int)+1)) (by omega) rfl
   rw [Nat.add_zero] at u0 v0
   have zvR:=yI.out.set HL1.out (k:=0) (by omega) (t':=⟨dst, [r0,r1,r2,r3],bf⟩) (u:=(.int .i64 dst)) gN.out gP.out rfl (by simp) rfl
   rw [Nat.add_zero] at zvR
   have zvS:=qh zvR
   clear zvR
   go_upto_region 48 with fail
   clear u0 v0 z11
   generalize World.setCell X4 _ _=X29 at zvS ⊢
   obtain⟨z1r,z1s,z1t,z1u⟩:=zvS.out
   have z1v:=qh z1r
   have zAo:=qh z1s
   have zAp:=qh z1t
   have zCk:=qh z1u
   clear z1r z1s z1t z1u zvS
   have hres:R=some ⟨ts.set i ⟨dst, [r0,r1,r2,r3],bf⟩,mem,bad⟩:=by
    rw [jf.out,gV xB.out.symm]
    simp only [Option.map_some]
    rw [<-HDS.out]
   have zJ:=qh hres
   clear hres
   have yQ:=z1v.out
   rw [bC.out] at yQ
   have yF:=qh yQ
   clear yQ
   obtain⟨⟨a0,a1,a2⟩,⟨q0,q1,q2⟩,⟨f0,f1,f2⟩,hset,hsn,hbe⟩:=yL.out X29 bad yF.out.own.box yF.out.own.below
   have zI:=qh hset
   have xH:=qh hsn
   have yH:=qh hbe
   clear hset hsn hbe
   go_wp2_with fail
   (try simp only [Exit.inBlock,Exit.then])
   refine bodyPost_ret (zy rfl _ _ (gx+3) 35 _ (0,0) _ rfl zI.out Tryz.underlying35 rfl zC) rfl ?_
   exact⟨qy zJ.out (wJ.out _ _ _ _ _ _ _ yF.out xH.out),yH.out⟩
 have vH:Hid ((12:Int)=x.op):=by rw [Hid, <-xB.out,o12]
 clear xB
 have xB:=vH
 clear vH
 have p12:((op:Int)==12)=true:=by simp [o12]
 clear o12
 as_aux_lemma=>
  go_upto_region 44 with fail
  by_cases ha0:A=0
  rotate_left
  ·have ha1:((A:Int)==0)=false:=by simp [ha0]
   have bV:=qh ha0
   clear ha0
   go_upto_region 48 with fail
   clear ha1
   have hres:R=some ⟨ts1,mem,bad⟩:=by
    rw [jf.out,jH xB.out.symm]
    rw [<-HA.out,if_neg bV.out,HT1.out]
    rfl
   have zJ:=qh hres
   clear hres
   have yQ:=yI.out
   have yF:=qh yQ
   clear yQ
   obtain⟨⟨a0,a1,a2⟩,⟨q0,q1,q2⟩,⟨f0,f1,f2⟩,hset,hsn,hbe⟩:=yL.out X4 bad yF.out.own.box yF.out.own.below
   have zI:=qh hset
   have xH:=qh hsn
   have yH:=qh hbe
   clear hset hsn hbe
   go_wp2_with fail
   (try simp only [Exit.inBlock,Exit.then])
   refine bodyPost_ret (zy rfl _ _ (gx+3) 35 _ (0,0) _ rfl zI.out Tryz.underlying35 rfl zC) rfl ?_
   exact⟨qy zJ.out (wJ.out _ _ _ _ _ _ _ yF.out xH.out),yH.out⟩
  have ha1:((A:Int)==0)=true:=by simp [ha0]
  have bV:=qh ha0
  clear ha0
  go_upto_region 45 with fail
  clear ha1
  have z11:=za yI.out.instr 11
  obtain⟨u0,v0⟩:=yI.out.gM HL1.out gN.out gP.out 0 (.int .i64 ((qB:Int)+1)) (by omega) rfl
  rw [Nat.add_zero] at u0 v0
  have zvT:=yI.out.set HL1.out (k:=0) (by omega) (t':=⟨dst, [r0,r1,r2,r3],bf⟩) (u:=(.int .i64 dst)) gN.out gP.out rfl (by simp) rfl
  rw [Nat.add_zero] at zvT
  have zvU:=qh zvT
  clear zvT
  go_upto_region 48 with fail
  clear u0 v0 z11
  generalize World.setCell X4 _ _=X28 at zvU ⊢
  obtain⟨z1w,z1x,z1y,z1z⟩:=zvU.out
  have z13:=qh z1w
  have zAq:=qh z1x
  have zAr:=qh z1y
  have zCl:=qh z1z
  clear z1w z1x z1y z1z zvU
  have hres:R=some ⟨ts.set i ⟨dst, [r0,r1,r2,r3],bf⟩,mem,bad⟩:=by
   rw [jf.out,jH xB.out.symm]
   rw [<-HA.out,if_pos bV.out, <-HDS.out]
   rfl
  have zJ:=qh hres
  clear hres
  have yQ:=z13.out
  rw [bC.out] at yQ
  have yF:=qh yQ
  clear yQ
  obtain⟨⟨a0,a1,a2⟩,⟨q0,q1,q2⟩,⟨f0,f1,f2⟩,hset,hsn,hbe⟩:=yL.out X28 bad yF.out.own.box yF.out.own.below
  have zI:=qh hset
  have xH:=qh hsn
  have yH:=qh hbe
  clear hset hsn hbe
  go_wp2_with fail
  (try simp only [Exit.inBlock,Exit.then])
  refine bodyPost_ret (zy rfl _ _ (gx+3) 35 _ (0,0) _ rfl zI.out Tryz.underlying35 rfl zC) rfl ?_
  exact⟨qy zJ.out (wJ.out _ _ _ _ _ _ _ yF.out xH.out),yH.out⟩
