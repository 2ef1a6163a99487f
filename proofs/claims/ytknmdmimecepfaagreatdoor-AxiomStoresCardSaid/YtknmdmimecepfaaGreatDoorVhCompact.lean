/- Steps. -/
import Derived.Test.YtknmdmimecepfaaGreatDoorVhCompP
set_option linter.all false
namespace Go.Proofs.YtknmdmimecepfaaGreatDoor
open Go.RowKit
set_option maxRecDepth 100000
set_option maxHeartbeats 16000000
theorem zf9 (k:Nat) (h:k<=9223372036854775807):IntKind.i64.wrap (k:Int)=(k:Int):=IntWalk.i64_in _ (by omega)
theorem zkA:(Tryz.prog.info? 111).map (λi=>(i.zero,i.size,i.bytes))=some (some (.agg #[.slice none 0 0, .slice none 0 0]),2,48):=by kernel_rfl
theorem zkR (w:World):(zeroValue 111).run Tryz.prog w= .ok (.agg #[.slice none 0 0, .slice none 0 0]) w:=by kernel_rfl
theorem zdZ (w:World) (a b:zy) (ma ra mb rb:Value) (ha:xM w a ma ra) (hb:xM w b mb rb) (hfa:j4 a) (gI:j4 b) (ca cb:List Value):
  Calls Tryz.prog 50 #[qg ma ra,qg mb rb] w λe w'=>e= .returned (.bool (uK (a,ca) (b,cb)))/\Below w.heap.size w w':=by
 obtain⟨jC,jD,rfl, -⟩:=zf.slice ha.mem
 obtain⟨jE,jF,rfl, -⟩:=zf.slice ha.regs
 obtain⟨jG,jH,rfl, -⟩:=zf.slice hb.mem
 obtain⟨jI,jJ,rfl, -⟩:=zf.slice hb.regs
 obtain⟨r,hr⟩:∃r,r=uK (a,ca) (b,cb):=⟨_,rfl⟩
 obtain⟨c,hc⟩:∃c,c=zG (zu a) (zu b):=⟨_,rfl⟩
 have hr2:r=(decide (c=0) && decide (a.mem.length=b.mem.length)):=by rw [hr,hc];rfl
 have h1:=λW (h:Below w.heap.size w W)=>zdL W a b _ _ _ _ (ha.below h) (hb.below h) hfa gI
 rw [<-hc] at h1
 rw [<-hr]
 unfold qg at h1 ⊢
 clear ha hb hr hc
 generalize a.mem.length=n1 at h1 hr2 ⊢
 generalize a.regs.length=n2 at h1 ⊢
 generalize b.mem.length=n3 at h1 hr2 ⊢
 generalize b.regs.length=n4 at h1 ⊢
 have hB:=xH w (.cells #[.slice jC n1 jD, .slice jE n2 jF] 111) (.cells #[.slice jG n3 jH, .slice jI n4 jJ] 111)
 have H1:=qh (xI w (.cells #[.slice jC n1 jD, .slice jE n2 jF] 111) (.cells #[.slice jG n3 jH, .slice jI n4 jJ] 111))
 have H2:=qh (xu w (.cells #[.slice jC n1 jD, .slice jE n2 jF] 111) (.cells #[.slice jG n3 jH, .slice jI n4 jJ] 111))
 have HB:=qh hB
 have HR:=qh hr2
 have HA:=qh h1
 clear h1 hr2 hB hfa gI
 go_enter Tryz.func50,Tryz.ntmps50
 go_upto_region 1 with fail
 generalize World.alloc (World.alloc w _) _=W at HB H1 H2 ⊢
 obtain⟨gx,hgx⟩:∃gx,gx=w.heap.size:=⟨_,rfl⟩
 rw [<-hgx] at H1 H2 ⊢
 clear hgx
 have zU:Hid (∀x,Below W.heap.size W x->Below w.heap.size w x):=λx hx=>HB.out.trans (hx.mono HB.out.size)
 have HC:Hid (∀x,Below W.heap.size W x->x.cell? ⟨gx,0,none⟩=some (.slice jC n1 jD)/\x.cell? ⟨gx,1,none⟩=some (.slice jE n2 jF)/\x.cell? ⟨gx+1,0,none⟩=some (.slice jG n3 jH)/\x.cell? ⟨gx+1,1,none⟩=some (.slice jI n4 jJ)):=λx hx=>
  ⟨zk hx _ _ (ze H1.out 0),zk hx _ _ (ze H1.out 1),zk hx _ _ (ze H2.out 0),zk hx _ _ (ze H2.out 1)⟩
 obtain⟨c0,c1,c2,c3⟩:=HC.out W (Below.refl _ _)
 by_cases h0:c=0
 rotate_left
 ·obtain rfl:r=false:=by rw [HR.out,decide_eq_false h0];rfl
  have h2:((c:Int)==0)=false:=by simpa using h0
  go_wp2_with(go_at_call 48;go_must(refine(HA.out W HB.out).mono ?_);rintro e w1 ⟨rfl,hb, -⟩;have HB1:=qh hb;clear hb c0 c1 c2 c3)
  go_ret
  exact⟨by first|rfl|simp,zU.out _ HB1.out⟩
 subst h0
 have HR2:Hid (r=decide (n1=n3)):=by rw [Hid,HR.out];simp
 clear HR
 by_cases hn:n1=n3
 ·subst hn
  obtain rfl:r=true:=by rw [HR2.out];simp
  go_wp2_with(go_at_call 48;go_must(refine(HA.out W HB.out).mono ?_);rintro e w1 ⟨rfl,hb, -⟩;have HB1:=qh hb;obtain⟨d0,d1,d2,d3⟩:=HC.out w1 hb;clear hb c0 c1 c2 c3)
  go_ret
  exact⟨by first|rfl|simp,zU.out _ HB1.out⟩
 obtain rfl:r=false:=by rw [HR2.out,decide_eq_false hn]
 have hn2:((n1:Int)==(n3:Int))=false:=by simp;omega
 go_wp2_with(go_at_call 48;go_must(refine(HA.out W HB.out).mono ?_);rintro e w1 ⟨rfl,hb, -⟩;have HB1:=qh hb;obtain⟨d0,d1,d2,d3⟩:=HC.out w1 hb;clear hb c0 c1 c2 c3)
 go_ret
 exact⟨by first|rfl|simp,zU.out _ HB1.out⟩
theorem zgC {w:World} {B n cap:Nat} {e:TypeId} {size:Nat} {a:Option Addr} {xs:List Value} (h:w.ownsRow B e size (.slice a n cap) n xs):n<=cap/\cap<=9223372036854775807:=by
 obtain⟨a',cap',h1,h2,h3⟩:=xP h
 cases h1
 unfold maxLen at h3
 exact⟨h2,by omega⟩
def okP (F:Nat->Prop) (w:World) (p:qj):Prop:=p.2.length=2/\uq F w (λy=>yL y p.1 p.2)/\j4 p.1
theorem zj4 {w X:World} {g n cap:Nat} {cur:Array Value} {t:TypeId} {D:List qj} (hX:X.heap[g]? =some (.cells cur t (0,0))) (hD:∀p∈D,okP (λk=>k=g) w p) (hs:Since (λk=>k=g) w X) (hn:n=D.length) (hl:D.length<=cap/\cap<=9223372036854775807) (hc:∀j i,j<D.length->i<2->cur[j*2+i]? =(D.getD j default).2[i]?):
  zf yL 2 X (.slice (some ⟨g,0,none⟩) n cap) (D.map (·.1)):=by
 subst hn
 refine⟨some ⟨g,0,none⟩,cap,by simp,by simpa using hl,λj hj=> ?_⟩
 have hj':j<D.length:=by simpa using hj
 obtain⟨h1,h2, -⟩:=hD _ (zV (x:=default) hj')
 refine⟨g,0,(D.getD j default).2,rfl,zI hX,h1,λi hi=> ?_, ?_⟩
 ·rw [Nat.zero_add,ze hX,hc j i hj' hi]
 have:(D.map (·.1)).getD j default=(D.getD j default).1:=by
  rw [List.getD_eq_getElem?_getD,List.getD_eq_getElem?_getD,List.getElem?_map,List.getElem?_eq_getElem hj'];rfl
 rw [this]
 exact h2 X hs
def zd7 (w:World) (v:Value) (D:List qj) (e:Ending) (w':World):Prop:=(∃xa xc,e= .returned (.slice xa D.length xc)/\zf yL 2 w' (.slice xa D.length xc) (D.map (·.1)))/\Since (λk=>v.ownBlock=some k) w w'
theorem zbD {w:World} {B g n cap:Nat} {e:TypeId} {size:Nat} {xs:List Value} (h:w.ownsRow B e size (.slice (some ⟨g,0,none⟩) n cap) n xs):∃cur,w.heap[g]? =some (.cells cur e (0,0))/\cur.size=cap*size/\∀j,j<n*size->cur[j]? =xs[j]? :=by
 rcases h.2 with⟨h1, -⟩|⟨g',cap',cur,h1, -,h3, -, -,h6,h7⟩
 ·cases h1
 cases h1
 refine⟨cur,h3,h6,λj hj=> ?_⟩
 rw [<-h7,List.getElem?_take_of_lt hj]
 simp
theorem zge (w:World) (B:Nat) (v:Value) (P:List qj) (hrow:w.ownsRow B 111 2 v P.length (xW P)) (hok:∀p∈P,okP (λk=>v.ownBlock=some k) w p) (hn:P.length<=1000000):
  Calls Tryz.prog 49 #[v, .func (.func 50) #[] #[]] w (zd7 w v (zK P P.length)):=by
 obtain⟨n,hnn⟩:∃n,n=P.length:=⟨_,rfl⟩
 obtain⟨R,hR⟩:∃R,R=zK P P.length:=⟨_,rfl⟩
 rw [<-hR]
 rw [<-hnn] at hrow hn hR
 have h2P:∀p∈P,p.2.length=2:=λp hp=>(hok p hp).1
 by_cases hn2:n<2
 ·have hRP:R=P:=by rw [hR,bM (by omega) (λj h1 h2=>by omega),hnn,List.take_length]
  have hsl:zf yL 2 w v (P.map (·.1)):=by
   have hlen:(P.map (·.1)).length=P.length:=by simp
   refine zf.uj (xs:=xW P) (B:=B) (e:=111) (by rw [hlen, <-hnn];exact hrow) λj hj=> ?_
   have hj':j<P.length:=by simpa using hj
   have h:=hok _ (zV (x:=default) hj')
   refine⟨(P.getD j default).2,h.1,λi hi=>vV h2P hj' hi, ?_⟩
   have:(P.map (·.1)).getD j default=(P.getD j default).1:=by
    rw [List.getD_eq_getElem?_getD,List.getD_eq_getElem?_getD,List.getElem?_map,List.getElem?_eq_getElem hj'];rfl
   rw [this]
   exact h.2.1.now
  obtain⟨xa,xc,rfl, -, -⟩:=xP hrow
  have HSL:=qh hsl
  have HRP:=qh hRP
  have HN:=qh hnn
  have zqY:(n:Int)<2:=by omega
  clear hrow hok h2P hsl hRP hR hnn
  go_enter Tryz.func49,Tryz.ntmps49
  go_wp2_with fail
  go_ret
  exact⟨⟨xa,xc,by rw [HRP.out, <-HN.out];first|rfl|simp,by rw [HRP.out, <-HN.out];exact HSL.out⟩,Since.refl _ _⟩
 obtain⟨g,cap,rfl,hcap,zlT⟩:=zcw hrow (by omega)
 have hok2:∀p∈P,okP (λk=>k=g) w p:=λp hp=>by
  obtain⟨a,b,c⟩:=hok p hp
  exact⟨a,λy hy=>b y (hy.mono (λk _ hk=>by rw [hk];rfl)),c⟩
 have hend:∀e w',(∃xa xc,e= .returned (.slice xa R.length xc)/\zf yL 2 w' (.slice xa R.length xc) (R.map (·.1)))->Since (λk=>k=g) w w'->zd7 w (.slice (some ⟨g,0,none⟩) n cap) R e w':=λe w' h1 h2=>⟨h1,h2.mono (λk _ hk=>by rw [hk];rfl)⟩
 unfold maxLen at zlT
 have hcap2:cap<=9223372036854775807:=by omega
 have qp:=qh hok2
 have vJ:=qh hend
 have qw:=qh hrow
 have HN:=qh hnn
 have HR:=qh hR
 have H2:=qh h2P
 have zqY:¬(n:Int)<2:=by omega
 have zdn:Hid (∀(X:World) (Q:List qj) (j:Nat),X.ownsRow B 111 2 (.slice (some ⟨g,0,none⟩) n cap) n (xW Q)->Q.length=n->(∀p∈Q,p∈P)->j<n->Since (λk=>k=g) w X->
   ∃ma ml mc ra rl rc,(Q.getD j default).2= [.slice ma ml mc, .slice ra rl rc] /\X.cell? ⟨g,j*2,none⟩=some (.slice ma ml mc)/\X.cell? ⟨g,j*2+1,none⟩=some (.slice ra rl rc)/\xM X (Q.getD j default).1 (.slice ma ml mc) (.slice ra rl rc)/\j4 (Q.getD j default).1):=λX Q j h1 h2 h3 h4 h5=>by
  have hq:=h3 _ (zV (x:=default) (by rw [h2];exact h4))
  obtain⟨o1,o2,o3⟩:=hok2 _ hq
  obtain⟨mv,rv,e,hf⟩:=o2 X h5
  obtain⟨ma,mc,rfl, -⟩:=zf.slice hf.mem
  obtain⟨ra,rc,rfl, -⟩:=zf.slice hf.regs
  have h2Q:∀p∈Q,p.2.length=2:=λp hp=>(hok2 p (h3 p hp)).1
  have k0:=vV h2Q (j:=j) (i:=0) (by rw [h2];exact h4) (by omega)
  have k1:=vV h2Q (j:=j) (i:=1) (by rw [h2];exact h4) (by omega)
  rw [e] at k0 k1
  rw [Nat.add_zero] at k0
  obtain⟨g1,c1,e1, -,d1, -⟩:=zgD h1 k0
  obtain⟨g2,c2,e2, -,d2, -⟩:=zgD h1 k1
  cases e1
  cases e2
  exact⟨ma,_,mc,ra,_,rc,e,d1,d2,hf,o3⟩
 clear hrow hok hok2 hend hnn hR h2P zlT
 go_enter Tryz.func49,Tryz.ntmps49
 go_wp2_with fail
 go_loopg [5] (n - 1) (λgg s5 wr=>∃k:Nat,1<=k/\k<=n/\Hid (gg=n - k)/\s5= .int .i64 k/\Hid (Below w.heap.size w wr)/\Hid (∀j,1<=j->j<k->uK (P.getD j default) (P.getD (j - 1) default)=false))
 case atStart=>exact⟨1,Nat.le_refl _,by omega,rfl,rfl,Below.refl _ _,λj h1 h2=>by omega⟩
 case round=>
 obtain⟨k,hk1,hkn,HG,rfl,ql,HJ⟩:=hrel
 by_cases hlt:k<n
 rotate_left
 ·obtain rfl:k=n:=by omega
  have hRP:R=P:=by rw [HR.out,bM (by rw [<-HN.out];exact Nat.le_refl _) HJ.out,HN.out,List.take_length]
  have HRP:=qh hRP
  clear hRP
  go_wp2_with fail
  go_ret
  obtain⟨cur,hb,hcs,hcur⟩:=zbD (yV qw.out ql.out)
  have hlp:R.length=k:=by rw [HRP.out];exact HN.out.symm
  refine vJ.out _ _ ⟨some ⟨g,0,none⟩,cap,by rw [hlp];first|rfl|simp, ?_⟩ (zA _ ql.out)
  rw [hlp,HRP.out]
  exact zj4 (w:=w) hb qp.out (zA _ ql.out) HN.out (by have h9:=zgC qw.out;have:=HN.out;omega) (λj i hj hi=>by rw [hcur _ (by have:=HN.out;omega),vV H2.out hj hi])
 have qK:(k:Int)<(n:Int):=by omega
 have hs:=zA (λk=>k=g) ql.out
 have hrw:=yV qw.out ql.out
 obtain⟨ma,ml,mc,ra,rl,rc,e1,x0,x1,hf1,hw1⟩:=zdn.out wr P k hrw HN.out.symm (λp hp=>hp) hlt hs
 obtain⟨mb,ml2,mc2,rb,rl2,rc2,e2,y0,y1,hf2,hw2⟩:=zdn.out wr P (k - 1) hrw HN.out.symm (λp hp=>hp) (by omega) hs
 have hsame:=λy (hy:Below wr.heap.size wr y)=>zdZ y _ _ _ _ _ _ (hf1.below hy) (hf2.below hy) hw1 hw2 (P.getD k default).2 (P.getD (k - 1) default).2
 obtain⟨eq,heq⟩:∃q,q=uK (P.getD k default) (P.getD (k - 1) default):=⟨_,rfl⟩
 have zbw:∀y,Below wr.heap.size wr y->Calls Tryz.prog 50 #[.agg #[.slice ma ml mc, .slice ra rl rc], .agg #[.slice mb ml2 mc2, .slice rb rl2 rc2]] y λe w'=>e= .returned (.bool eq)/\Below y.heap.size y w':=λy hy=>by
  rw [heq];exact hsame y hy
 have zlU:=qh zbw
 have bI:=qh heq
 have zqZ:IntKind.i64.wrap ((k:Int) - 1)=((k - 1:Nat):Int):=by rw [IntWalk.i64_in _ (by omega)];omega
 have hkk:((k:Int) - 1)=((k - 1:Nat):Int):=by omega
 obtain⟨k',hk'⟩:∃k',k'=k - 1:=⟨_,rfl⟩
 rw [<-hk'] at y0 y1
 obtain rfl:k=k'+1:=by omega
 have C6:Hid (∀y,Below wr.heap.size wr y->y.cell? ⟨g,(k'+1)*2,none⟩=some (.slice ma ml mc)/\y.cell? ⟨g,(k'+1)*2+1,none⟩=some (.slice ra rl rc)/\y.cell? ⟨g,k'*2,none⟩=some (.slice mb ml2 mc2)/\y.cell? ⟨g,k'*2+1,none⟩=some (.slice rb rl2 rc2)):=λy hy=>⟨zk hy _ _ x0,zk hy _ _ x1,zk hy _ _ y0,zk hy _ _ y1⟩
 clear hsame zbw heq hs hrw hf1 hf2 hw1 hw2 e1 e2 x0 x1 y0 y1 hk' zqZ hkk
 have hk0:(0:Int)<=(k':Int)+1:=by omega
 have hwr:=zf9 k' (by omega)
 have ztf:((k':Int)+1)<(n:Int):=by omega
 have zto:(k':Int)<(n:Int):=by omega
 go_upto_region 6 with fail
 refine vP (S:=λx=>Below wr.heap.size wr x) (Below.refl _ _).drew (λhH=> ?_)
 refine zh 0 C6.out ?_
 refine zh 1 C6.out ?_
 refine zh 2 C6.out ?_
 refine zh 3 C6.out ?_
 refine zh 4 C6.out ?_
 refine zh 5 C6.out ?_
 refine zh 6 C6.out ?_
 refine zh 7 C6.out ?_
 refine zh 8 C6.out ?_
 refine zh 9 C6.out ?_
 refine qG 10 rfl (λK hK=> ?_)
 go_simp
 refine(zlU.out wr.drew hH).mono ?_
 rintro e zra ⟨rfl,hb⟩
 have zhT:Below wr.heap.size wr zra:=zn hH hb
 refine hK.out _ _ zhT (λ_=> ?_)
 clear hK K hb hH
 refine vK ?_
 have HE6:=qh zhT
 clear zhT C6
 cases eq with
 |false=>
  have hj2:∀j,1<=j->j<k'+1+1->uK (P.getD j default) (P.getD (j - 1) default)=false:=λj h1 h2=>by
   by_cases e:j=k'+1
   ·subst e;exact bI.out.symm
   exact HJ.out j h1 (by omega)
  have HJ2:=qh hj2
  clear hj2
  go_wp2_with fail
  go_roundg (n - (k'+1+1))
  case measure=>rw [HG.out];omega
  case rel=>exact⟨k'+1+1,by omega,by omega,rfl,by simp,zn ql.out HE6.out,HJ2.out⟩
 |true=>
 have hb2:=qh (zn ql.out HE6.out)
 go_upto_region 8 with fail
 obtain⟨m,hm⟩:∃m,m=n - (k'+1):=⟨_,rfl⟩
 rw [<-hm]
 have hmn:n=k'+1+m:=by omega
 have hm1:1<=m:=by omega
 have hct:zK P (k'+1+1)=P.take (k'+1):=by
  rw [zaV (by omega) bI.out.symm,bM (by rw [<-HN.out];omega) HJ.out]
 have zon:(zK P (k'+1+1)).length=k'+1:=by rw [hct,List.length_take, <-HN.out];omega
 have zoo:∀j,j<k'+1->P.getD j default=(zK P (k'+1+1)).getD j default:=λj hj=>by
  rw [hct,List.getD_eq_getElem?_getD,List.getD_eq_getElem?_getD,List.getElem?_take_of_lt hj]
 have kQ:=qh zon
 have HCG:=qh zoo
 have HMN:=qh hmn
 have ztg:k'+1<=cap:=by omega
 clear hm hct zon zoo hmn bI zlU
 go_wp2_with fail
 go_loopg [5,7] (m - 1) (λgg s5 s7 wr=>∃(q k3:Nat) (Q:List qj),k3+1<=m/\Hid (gg=m - (k3+1))/\s5= .int .i64 q/\s7= .int .i64 (k3+1:Nat)/\q<=k'+1+k3/\Hid (wr.ownsRow B 111 2 (.slice (some ⟨g,0,none⟩) n cap) n (xW Q))/\Hid (Q.length=n)/\Hid (∀p∈Q,p∈P)/\Hid (Since (λk=>k=g) w wr)/\Hid ((zK P (k'+1+(k3+1))).length=q)/\Hid (∀j,j<q->Q.getD j default=(zK P (k'+1+(k3+1))).getD j default)/\Hid (∀j,k'+1+k3<=j->j<n->Q.getD j default=P.getD j default))
 case atStart=>exact⟨k'+1,0,P,by omega,rfl,by simp,rfl,by omega,yV qw.out hb2.out,HN.out.symm,λp hp=>hp,zA _ hb2.out,kQ.out,HCG.out,λj _ _=>rfl⟩
 case round=>
 obtain⟨q,k3,Q,hk3,HG2,rfl,rfl,hq,HRQ,HQL,HQP,HSW,HDL,HDG,HDR⟩:=hrel
 by_cases hlt2:k3+1<m
 rotate_left
 ·obtain rfl:m=k3+1:=by omega
  have hqn:q<n:=by have:=HMN.out;omega
  have hqI:(q:Int)<=(n:Int):=by omega
  have hRq:R=zK P (k'+1+(k3+1)):=by rw [HR.out];rw [<-HMN.out]
  obtain⟨cur,hcb,hcs,hcur⟩:=zbD HRQ.out
  have HCB:=qh hcb
  have wX:=qh hcs
  have zrb:=qh hcur
  have zkS:=qh hRq
  have hqc:q<=cap:=by omega
  clear hcb hcs hcur hRq
  go_upto_region 15 with(refine zeN _ rfl (.tmp 61) 110 rfl 111 (.agg #[.slice none 0 0, .slice none 0 0]) Tryz.underlying110 zkR (by simp [Value.cells,Value.oneCell']) g (q*2) (n - q) (cap - q) (by first|rfl|simp) (by omega) cur 111 HCB.out (by have:=wX.out;simp only [Value.cells];simp;omega) ?_;intro w5 ztp f1 f2 f3 f4;have HC5:=qh f1;have HK5:=qh f3;have HS5:=qh (HSW.out.trans f4 (λ_ h=> .inl h));clear f1 f2 f3 f4)
  go_wp2_with fail
  go_ret
  have hlr:R.length=q:=by rw [zkS.out];exact HDL.out
  refine vJ.out _ _ ⟨some ⟨g,0,none⟩,cap,by rw [hlr];first|rfl|simp, ?_⟩ HS5.out
  rw [hlr]
  refine zj4 (w:=w) HC5.out (λp hp=>qp.out p ?_) HS5.out hlr.symm (by have h9:=zgC HRQ.out;omega) (λj i hj hi=> ?_)
  ·rw [zkS.out] at hp;exact zcG (by have:=HMN.out;have:=HN.out;omega) hp
  rw [hlr] at hj
  rw [HK5.out _ (by omega),zrb.out _ (by omega),vV (λp hp=>H2.out p (HQP.out p hp)) (by rw [HQL.out];omega) hi,HDG.out j hj,zkS.out]
 have ha:k'+1+(k3+1)<n:=by have:=HMN.out;omega
 obtain⟨ma',ml',mc',ra',rl',rc',e1,x0,x1,hf1,hw1⟩:=zdn.out wr Q (k'+1+(k3+1)) HRQ.out HQL.out HQP.out ha HSW.out
 obtain⟨mb',zoq,zor,rb',zos,zot,e2,y0,y1,hf2,hw2⟩:=zdn.out wr Q (k'+1+k3) HRQ.out HQL.out HQP.out (by omega) HSW.out
 obtain⟨hz0,hz1⟩:(wr.cell? ⟨g,q*2,none⟩).isSome=true/\(wr.cell? ⟨g,q*2+1,none⟩).isSome=true:=by
  obtain⟨_,_,_,_,_,_, -,z0,z1, -⟩:=zdn.out wr Q q HRQ.out HQL.out HQP.out (by omega) HSW.out
  rw [z0,z1];exact⟨rfl,rfl⟩
 obtain⟨ztq,zhU, -, -⟩:=zbD HRQ.out
 have hpa:=HDR.out (k'+1+(k3+1)) (by omega) ha
 have hpb:=HDR.out (k'+1+k3) (by omega) (by omega)
 have hsame:=λy (hy:Below wr.heap.size wr y)=>zdZ y _ _ _ _ _ _ (hf1.below hy) (hf2.below hy) hw1 hw2 (Q.getD (k'+1+(k3+1)) default).2 (Q.getD (k'+1+k3) default).2
 obtain⟨eq,heq⟩:∃q,q=uK (P.getD (k'+1+(k3+1)) default) (P.getD (k'+1+k3) default):=⟨_,rfl⟩
 have zbw:∀y,Below wr.heap.size wr y->Calls Tryz.prog 50 #[.agg #[.slice ma' ml' mc', .slice ra' rl' rc'], .agg #[.slice mb' zoq zor, .slice rb' zos zot]] y λe w'=>e= .returned (.bool eq)/\Below y.heap.size y w':=λy hy=>by
  rw [heq, <-hpa, <-hpb];exact hsame y hy
 have zou:=qh zbw
 have zov:=qh heq
 have HPA:=qh hpa
 have HE1:=qh e1
 have hidx1:(k'+1)*2+(k3+1)*2=(k'+1+(k3+1))*2:=by omega
 have hidx2:(k'+1)*2+k3*2=(k'+1+k3)*2:=by omega
 have gy:Hid (∀y,Below wr.heap.size wr y->y.cell? ⟨g,(k'+1)*2+(k3+1)*2,none⟩=some (.slice ma' ml' mc')/\y.cell? ⟨g,(k'+1)*2+(k3+1)*2+1,none⟩=some (.slice ra' rl' rc')/\y.cell? ⟨g,(k'+1)*2+k3*2,none⟩=some (.slice mb' zoq zor)/\y.cell? ⟨g,(k'+1)*2+k3*2+1,none⟩=some (.slice rb' zos zot)):=λy hy=>by
  rw [hidx1,hidx2]
  exact⟨zk hy _ _ x0,zk hy _ _ x1,zk hy _ _ y0,zk hy _ _ y1⟩
 have HZ:Hid (∀y,Below wr.heap.size wr y->(∃u,y.cell? ⟨g,q*2,none⟩=some u)/\(∃u,y.cell? ⟨g,q*2+1,none⟩=some u)/\y.frozen? ⟨g,q*2,none⟩=false/\y.frozen? ⟨g,q*2+1,none⟩=false):=λy hy=>by
  obtain⟨u0,hu0⟩:=Option.isSome_iff_exists.1 hz0
  obtain⟨u1,hu1⟩:=Option.isSome_iff_exists.1 hz1
  have hb:=(hy.block _ (zI zhU)).trans zhU
  exact⟨⟨u0,zk hy _ _ hu0⟩,⟨u1,zk hy _ _ hu1⟩,yD hb _,yD hb _⟩
 have zrc:=gy
 clear hsame zbw heq hf1 hf2 hw1 hw2 e1 e2 x0 x1 y0 y1 hidx1 hidx2 hpa hpb hz0 hz1 zhU
 have i0:(0:Int)<=(k3:Int)+1:=by omega
 have i1:((k3:Int)+1)<(m:Int):=by omega
 have i2:(k3:Int)<(m:Int):=by omega
 have i3:=zf9 k3 (by omega)
 have i4:(q:Int)<(n:Int):=by omega
 go_upto_region 11 with fail
 refine vP (S:=λx=>Below wr.heap.size wr x) (Below.refl _ _).drew (λhH=> ?_)
 refine zh 0 gy.out ?_
 refine zh 1 gy.out ?_
 refine zh 2 gy.out ?_
 refine zh 3 gy.out ?_
 refine zh 4 gy.out ?_
 refine zh 5 gy.out ?_
 refine zh 6 gy.out ?_
 refine zh 7 gy.out ?_
 refine zh 8 gy.out ?_
 refine zh 9 gy.out ?_
 refine qG 10 rfl (λK hK=> ?_)
 go_simp
 refine(zou.out wr.drew hH).mono ?_
 rintro e zhV ⟨rfl,hb⟩
 have zhW:Below wr.heap.size wr zhV:=zn hH hb
 refine hK.out _ _ zhW (λ_=> ?_)
 clear hK K hb hH
 refine zh 11 gy.out ?_
 refine vK ?_
 have zhX:=qh zhW
 clear zhW gy
 have zow:=qh (HSW.out.trans (zA (λk=>k=g) zhX.out) (λ_ h=> .inl h))
 have zox:=qh (yV HRQ.out zhX.out)
 cases eq with
 |true=>
  have hcn:zK P (k'+1+(k3+1+1))=zK P (k'+1+(k3+1)):=by
   rw [show k'+1+(k3+1+1)=(k'+1+(k3+1))+1 by omega]
   exact zaV (by omega) (by rw [show k'+1+(k3+1) - 1=k'+1+k3 by omega];exact zov.out.symm)
  have jq:=qh hcn
  clear hcn
  go_wp2_with fail
  go_roundg (m - (k3+1+1))
  case measure=>rw [HG2.out];omega
  case rel=>exact⟨q,k3+1,Q,by omega,rfl,rfl,by simp,by omega,zox.out,HQL.out,HQP.out,zow.out,by rw [Hid,jq.out];exact HDL.out,by rw [Hid,jq.out];exact HDG.out,λj h1 h2=>HDR.out j (by omega) h2⟩
 |false=>
 have hcn:zK P (k'+1+(k3+1+1))=zK P (k'+1+(k3+1))++ [P.getD (k'+1+(k3+1)) default] :=by
  rw [show k'+1+(k3+1+1)=(k'+1+(k3+1))+1 by omega]
  exact zcF (by rw [show k'+1+(k3+1) - 1=k'+1+k3 by omega];exact zov.out.symm)
 have jq:=qh hcn
 clear hcn
 obtain⟨x0,x1, -, -⟩:=zrc.out zhV zhX.out
 obtain⟨⟨u0,z0⟩,⟨u1,z1⟩,z2,z3⟩:=HZ.out zhV zhX.out
 go_wp2_with fail
 clear x0 x1 z0 z1 z2 z3
 have hset:=zgG (j:=q*2+1) (zgG (j:=q*2) zox.out (.slice ma' ml' mc')) (.slice ra' rl' rc')
 have hpe:Q.getD (k'+1+(k3+1)) default=((Q.getD (k'+1+(k3+1)) default).1, [.slice ma' ml' mc', .slice ra' rl' rc']):=by rw [<-HE1.out]
 have zlX:(Q.set q (Q.getD (k'+1+(k3+1)) default))=Q.set q ((Q.getD (k'+1+(k3+1)) default).1, [.slice ma' ml' mc', .slice ra' rl' rc']):=by rw [<-hpe]
 rw [<-zhw (f:=(Q.getD (k'+1+(k3+1)) default).1) (λp hp=>H2.out p (HQP.out p hp)) (by rw [HQL.out];omega), <-zlX] at hset
 have hS2:Since (λk=>k=g) w ((zhV.setCell ⟨g,q*2,none⟩ (.slice ma' ml' mc')).setCell ⟨g,q*2+1,none⟩ (.slice ra' rl' rc')):=(zow.out.setCell (p:=⟨g,q*2,none⟩) (.inl rfl) _).setCell (p:=⟨g,q*2+1,none⟩) (.inl rfl) _
 have zcz:=qh hset
 have HS2:=qh hS2
 have hgl:∀j,j<n->(Q.set q (Q.getD (k'+1+(k3+1)) default)).getD j default=if j=q then Q.getD (k'+1+(k3+1)) default else Q.getD j default:=λj hj=>zkT (by rw [HQL.out];exact hj)
 have bW:=qh hgl
 clear hset hS2 hgl hpe zlX
 go_roundg (m - (k3+1+1))
 case measure=>rw [HG2.out];omega
 case rel=>exact⟨q+1,k3+1,Q.set q (Q.getD (k'+1+(k3+1)) default),by omega,rfl,by simp,by simp,by omega,zcz.out,by rw [Hid,List.length_set];exact HQL.out,λp hp=>by
   rcases List.mem_or_eq_of_mem_set hp with h|h
   ·exact HQP.out p h
   ·rw [h];exact HQP.out _ (zV (by rw [HQL.out];omega)),HS2.out,by rw [Hid,jq.out,List.length_append,HDL.out];rfl,λj hj=>by
   rw [jq.out,bW.out j (by omega)]
   by_cases e:j=q
   ·subst e
    rw [if_pos rfl,HPA.out]
    have:=vT (l:=zK P (k'+1+(k3+1))) (x:=P.getD (k'+1+(k3+1)) default) (d:=default)
    rw [HDL.out] at this
    exact this.symm
   rw [if_neg e,vU (by rw [HDL.out];omega)]
   exact HDG.out j (by omega),λj h1 h2=>by rw [bW.out j h2,if_neg (by omega)];exact HDR.out j (by omega) h2⟩
