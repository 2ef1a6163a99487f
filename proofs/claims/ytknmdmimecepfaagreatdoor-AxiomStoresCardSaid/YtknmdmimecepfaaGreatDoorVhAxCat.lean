/- Steps. -/
import Derived.Lib.AppendZerosOnto
import Derived.Test.YtknmdmimecepfaaGreatDoorVhAxEvs
set_option linter.all false
namespace Go.Proofs.YtknmdmimecepfaaGreatDoor
open Go.RowKit
set_option maxRecDepth 100000
set_option maxHeartbeats 16000000
theorem znn (w:World) (n:Nat) (hn:n<=1000000):Calls Tryz.prog 62 #[.slice none 0 0, .int .i64 n] w λe w'=>(∃a c,e= .returned (.slice a 0 c)/\w'.ownsRow w.heap.size 45 12 (.slice a 0 c) 0 [])/\Below w.heap.size w w':=by
 have h1:¬(n:Int)<0:=by omega
 by_cases h0:n=0
 ·subst h0
  go_enter Tryz.func62,Tryz.ntmps62
  go_wp2_with fail
  go_ret
  exact⟨⟨none,0,rfl,World.ownsRow_nil _ _ _ _⟩,Below.refl _ _⟩
 obtain⟨i,hi,hz,hsize,hby⟩:=info_parts zae
 have hpos:(0:Int)<(n:Int):=by omega
 have hold:(Builtin.firstCells i.size 0 (.slice none 0 0)).run Tryz.prog w.drew= .ok (#[] :Array Value) w.drew:=run_firstCells_none w.drew i.size 0 0 0
 have hrun:∀ty,(Builtin.append_ #[40,3] ty #[.slice none 0 0, .int .i64 n]).run Tryz.prog w=_:=λty=>Lib.run_append_grow_zeros w 40 3 ty 45 i _ .i64 .i64 Tryz.underlying40 Tryz.underlying3 hi hz none 0 0 [] hold n (by omega) (by rw [hsize];omega) (by omega) (by omega) (by rw [hby];omega) (growslice_fits (by omega) (by rw [hby];omega))
 have hgn:=grownCap_ge w (0+n) 0 45
 have hgm:=grownCap_le_maxLen w (0+n) 0 45 (by unfold maxLen;omega)
 obtain⟨G,hG⟩:∃G,G=grownCap w (0+n) 0 45:=⟨_,rfl⟩
 rw [<-hG] at hgn hgm
 simp only [<-hG] at hrun
 obtain⟨cs,hcs⟩:∃cs,cs=(#[] :Array Value)++Builtin.zeroCells (.agg #[.int .i64 0, .int .i64 0, .int .i64 0, .int .i64 0, .int .i64 0, .int .u8 0, .slice none 0 0, .int .i64 0, .int .i64 0, .int .u8 0, .slice none 0 0, .int .i64 0] :Value).cells n++Builtin.zeroCells (.agg #[.int .i64 0, .int .i64 0, .int .i64 0, .int .i64 0, .int .i64 0, .int .u8 0, .slice none 0 0, .int .i64 0, .int .i64 0, .int .u8 0, .slice none 0 0, .int .i64 0] :Value).cells (G - (0+n)):=⟨_,rfl⟩
 have hsz:cs.size=G*12:=by
  rw [hcs,Array.size_append,Array.size_append,size_zeroCells,size_zeroCells]
  have e:(.agg #[.int .i64 0, .int .i64 0, .int .i64 0, .int .i64 0, .int .i64 0, .int .u8 0, .slice none 0 0, .int .i64 0, .int .i64 0, .int .u8 0, .slice none 0 0, .int .i64 0] :Value).cells.size=12:=rfl
  rw [e]
  simp only [List.size_toArray,List.length_nil]
  omega
 have zl1:∀ty,(Builtin.append_ #[40,3] ty #[.slice none 0 0, .int .i64 n]).run Tryz.prog w= .ok (.slice (some ⟨w.heap.size,0,none⟩) (0+n) G) (w.drew.alloc (.cells cs 45)):=λty=>by rw [hrun,hcs]
 have hrow:(w.drew.alloc (.cells cs 45)).ownsRow w.heap.size 45 12 (.slice (some ⟨w.heap.size,0,none⟩) 0 G) 0 [] :=
  ⟨rfl, .inr ⟨w.heap.size,G,cs,rfl,Nat.le_refl _,yG w.drew _,Nat.zero_le _,hgm,hsz,by simp⟩⟩
 have hbel:Below w.heap.size w (w.drew.alloc (.cells cs 45)):=(Below.refl _ _).drew.alloc (Nat.le_refl _) _
 have qw:=qh hrow
 have zno:=qh hbel
 have znp:=qh zl1
 have hG0:(G:Int)<=9223372036854775807:=by unfold maxLen at hgm;omega
 have hgn2:n<=G:=by omega
 clear hrow hbel hrun zl1 hold hcs hsz hG hgn hgm hi hz hsize hby
 generalize World.alloc w.drew _=X at qw zno znp
 go_enter Tryz.func62,Tryz.ntmps62
 go_wp2_with(at_builtin;go_must(refine Lib.wpList_append_run _ rfl _ _ _ _ rfl _ _ rfl rfl _ _ (znp.out _) ?_))
 go_ret
 exact⟨⟨_,_,rfl,qw.out⟩,zno.out⟩
theorem zhs {n:Nat} {P:Nat->List Value->Prop} (h:∀j,j<n->∃v,P j v):∃l:List (List Value),l.length=n/\∀j,j<n->P j (l.getD j []):=by
 induction n with
 |zero=>exact⟨[],rfl,λj hj=>by omega⟩
 |succ n ih=>
 obtain⟨l,h1,h2⟩:=ih λj hj=>h j (by omega)
 obtain⟨v,hv⟩:=h n (by omega)
 refine⟨l++ [v],by simp [h1],λj hj=> ?_⟩
 by_cases e:j=n
 ·subst e;rw [jk (by omega),h1,Nat.sub_self];exact hv
 rw [ji (by omega)];exact h2 j (by omega)
theorem addr_add (b off j:Nat):(⟨b,off,none⟩:Addr).add j=⟨b,off+j,none⟩:=by
 simp only [Addr.add]
 split
 ·rename_i h;rw [show off+j=off by omega]
 rfl
theorem zfX {α:Type} [Inhabited α] {R:World->α->List Value->Prop} {size:Nat} (hs:0<size) {w:World} {sv:Value} {l:List α} (h:zf R size w sv l):
  ∃(a:Option Addr) (cap:Nat) (css:List (List Value)),sv= .slice a l.length cap/\css.length=l.length/\(∀j,j<l.length->(css.getD j []).length=size/\R w (l.getD j default) (css.getD j []))/\(a=none->l.length=0)/\(∀A,a=some A->∀j u,css.flatten[j]? =some u->w.cell? (A.add j)=some u)/\css.flatten.length=l.length*size:=by
 obtain⟨a,cap,rfl, -⟩:=zf.slice h
 obtain⟨css,hc,hP⟩:=zhs (n:=l.length) (P:=λj cs=>cs.length=size/\R w (l.getD j default) cs/\∃b off,a=some ⟨b,off,none⟩/\∀i,i<size->w.cell? ⟨b,off+j*size+i,none⟩=cs[i]?) λj hj=>by
  obtain⟨b,off,cs,h1, -,h3,h4,h5⟩:=zf.part h j hj
  exact⟨cs,h3,h5,b,off,h1,h4⟩
 have hlen:∀j,j<css.length->(css.getD j []).length=size:=λj hj=>(hP j (by omega)).1
 have hfl:css.flatten.length=l.length*size:=by
  rw [<-hc]
  clear hP hc
  induction css with
  |nil=>simp
  |cons c css ih=>
  have h0:=hlen 0 (by simp)
  have:=ih λj hj=>hlen (j+1) (by simpa using hj)
  simp only [List.flatten_cons,List.length_append,List.length_cons,List.getD_cons_zero] at h0 this ⊢
  rw [h0,this,Nat.add_mul];omega
 refine⟨a,cap,css,rfl,hc,λj hj=>⟨(hP j hj).1,(hP j hj).2.1⟩,λe=> ?_,λA hA j u hj=> ?_,hfl⟩
 ·subst e
  rcases Nat.eq_zero_or_pos l.length with e0|e0
  ·exact e0
  obtain⟨-, -,b,off,h5, -⟩:=hP 0 e0;cases h5
 have hlt:j<l.length*size:=by
  rcases Nat.lt_or_ge j (l.length*size) with e|e
  ·exact e
  rw [List.getElem?_eq_none (by rw [hfl];exact e)] at hj;cases hj
 have hq:j / size<l.length:=Nat.div_lt_of_lt_mul (by rw [Nat.mul_comm];exact hlt)
 have hr:j % size<size:=Nat.mod_lt _ hs
 have hj2:j=j / size*size+j % size:=by have:=Nat.div_add_mod j size;rw [Nat.mul_comm] at this;exact this.symm
 obtain⟨-, -,b,off,h5,h6⟩:=hP _ hq
 rw [hA] at h5
 cases h5
 have e1:=gM hlen (by rw [hc];exact hq) hr
 rw [<-hj2,hj] at e1
 rw [addr_add,hj2, <-Nat.add_assoc,h6 _ hr]
 exact e1.symm
theorem zaU {ts:List (List zi)} {i:Nat} (hi:i<ts.length):(ts.take (i+1)).flatten=(ts.take i).flatten++ts.getD i [] :=by
 rw [List.take_succ_eq_append_getElem hi,List.flatten_append,List.getD_eq_getElem?_getD,List.getElem?_eq_getElem hi];simp
theorem zbT {ts:List (List zi)} (hrow:∀i,i<ts.length->(ts.getD i []).length<=600):∀i,i<=ts.length->(ts.take i).flatten.length<=600*i:=by
 intro i
 induction i with
 |zero=>intro _;simp
 |succ i ih=>
 intro hi
 have:=ih (by omega)
 have h2:=hrow i (by omega)
 rw [zaU (by omega),List.length_append];omega
theorem zfY (w:World) (d:Nat) (tv:Value) (ts:List (List zi)) (h:yB d w tv ts) (h4:ts.length<=4) (hrow:∀i,i<ts.length->(ts.getD i []).length<=600):
  Calls Tryz.prog 39 #[tv] w λe w'=>(∃a c,e= .returned (.slice a ts.flatten.length c)/\qz d w' (.slice a ts.flatten.length c) ts.flatten)/\Below w.heap.size w w':=by
 obtain⟨ta,tc,rfl, -⟩:=zf.slice h
 have hfl:=zbT hrow
 obtain⟨BT,hBT⟩:∃BT:Nat->List zi,BT=λi=>(ts.take i).flatten:=⟨_,rfl⟩
 have znq:BT 0= [] :=by rw [hBT];rfl
 have zkp:∀i,i<ts.length->BT (i+1)=BT i++ts.getD i [] :=λi hi=>by rw [hBT];exact zaU hi
 have zkq:∀i,i<=ts.length->(BT i).length<=600*i:=λi hi=>by rw [hBT];exact hfl i hi
 have znr:ts.flatten=BT ts.length:=by rw [hBT];show _=(ts.take ts.length).flatten;rw [List.take_length]
 rw [znr]
 obtain⟨n,hn⟩:∃n,n=ts.length:=⟨_,rfl⟩
 rw [<-hn] at h h4 zkq zkp ⊢
 have HT:=qh h
 have HN:=qh hn
 have qw:=qh hrow
 have H0:=qh znq
 have HS:=qh zkp
 have HL:=qh zkq
 clear h hn hrow znq zkp zkq znr hfl hBT
 go_enter Tryz.func39,Tryz.ntmps39
 go_wp2_with fail
 go_loopg [3,11] n (λgg s3 s11 wr=>∃(i:Nat) (m:Nat),i<=n/\Hid (gg=n - i)/\s11= .int .i64 i/\s3= .int .i64 m/\Hid (m=(BT i).length)/\m<=600*i/\Hid (Below w.heap.size w wr))
 case atStart=>exact⟨0,0,Nat.zero_le _,rfl,rfl,rfl,(by rw [Hid,H0.out];rfl),Nat.zero_le _,Below.refl _ _⟩
 case round=>
 obtain⟨i,m,hi,HG,rfl,rfl,HM,hmb,vR⟩:=hrel
 obtain⟨wo,rfl⟩:∃wo:World,wo=wr:=⟨_,rfl⟩
 by_cases hlt:i<n
 ·have qK:(i:Int)<(n:Int):=by omega
  obtain⟨eb,eo,ka,kc,rfl,pE,qL,hel⟩:=yB.part HT.out i (by rw [<-HN.out];exact hlt)
  have hs:=HS.out i hlt
  have hr6:=qw.out i (by rw [<-HN.out];exact hlt)
  obtain⟨l,hl⟩:∃l,l=ts.getD i [] :=⟨_,rfl⟩
  rw [<-hl] at qL hel hs hr6
  obtain⟨ln,hln⟩:∃ln,ln=l.length:=⟨_,rfl⟩
  rw [<-hln] at qL hel hr6
  have e0:=zk vR.out _ _ qL
  have hm2:m+ln=(BT (i+1)).length:=by rw [hs,List.length_append,HM.out,hln]
  have HM2:=qh hm2
  have hneg:¬((m:Int)+(ln:Int))<0:=by omega
  clear hs hl hln qL hel pE hm2
  go_wp2_with fail
  go_roundg (n - (i+1))
  case measure=>rw [HG.out];omega
  case rel=>exact⟨i+1,m+ln,by omega,rfl,by simp,by simp,HM2.out,by omega,vR.out⟩
 obtain rfl:n=i:=by omega
 have hgr:=znn wo m (by omega)
 have HGR:=qh hgr
 clear hgr
 go_upto_region 10 with(go_at_call 62;go_must(refine HGR.out.mono ?_);rintro e W2 ⟨⟨ga,gc,rfl,hrw⟩,hb⟩;(have HRW:=qh hrw);(have HB2:=qh (zn vR.out hb));clear hrw hb)
 have HR2:Hid (vI w w.heap.size W2 (xU d) 12 45 (.slice ga 0 gc) (BT 0) []):=by
  rw [Hid,H0.out]
  exact⟨rfl,λj hj=>by simp at hj,zcm HRW.out vR.out.size⟩
 clear HRW
 go_wp2_with fail
 go_loopg [6,27] n (λgg s6 s27 wr=>∃(i:Nat) (oa:Option Addr) (on oc:Nat) (css:List (List Value)),i<=n/\Hid (gg=n - i)/\s27= .int .i64 i/\s6= .slice oa on oc/\Hid (vI w w.heap.size wr (xU d) 12 45 (.slice oa on oc) (BT i) css)/\Hid (on=(BT i).length)/\Hid (Below w.heap.size w wr))
 case atStart=>exact⟨0,ga,0,gc, [],Nat.zero_le _,rfl,rfl,rfl,HR2.out,(by rw [Hid,H0.out];rfl),HB2.out⟩
 case round=>
 obtain⟨i,oa,on,oc,css,hi,HG3,rfl,rfl,HO,uw,ql⟩:=hrel
 obtain⟨xE,rfl⟩:∃xE:World,xE=wr:=⟨_,rfl⟩
 by_cases hlt:i<n
 rotate_left
 ·obtain rfl:n=i:=by omega
  go_wp2_with fail
  go_ret
  have hn2:=uw.out
  subst hn2
  exact⟨⟨oa,oc,rfl,vI.slice HO.out (xU.stays d) ql.out⟩,ql.out⟩
 have qK:(i:Int)<(n:Int):=by omega
 obtain⟨eb,eo,ka,kc,rfl,pE,qL,hel⟩:=yB.part HT.out i (by rw [<-HN.out];exact hlt)
 have hs:=HS.out i hlt
 have hbl:=HL.out (i+1) (by omega)
 obtain⟨l,hl⟩:∃l,l=ts.getD i [] :=⟨_,rfl⟩
 rw [<-hl] at qL hel hs
 obtain⟨ja,jc,cs2,hsl,hc1,hc2,hc3,hc4,hc5⟩:=zfX (by omega) hel
 rw [hs,List.length_append, <-uw.out] at hbl
 have hjn:ka=ja/\kc=jc:=by simpa using hsl
 obtain⟨rfl,rfl⟩:=hjn
 clear hsl
 obtain⟨ln,hln⟩:∃ln,ln=l.length:=⟨_,rfl⟩
 rw [<-hln] at qL hel hbl hc3
 have e0:=zk ql.out _ _ qL
 have zak:Hid (xE.ownsRow w.heap.size 45 12 (.slice oa on oc) on css.flatten):=by rw [Hid,uw.out];have:=HO.out.row;rw [<-uw.out] at this ⊢;exact this
 have ku:=qh (cells_one (e:=d) rfl hc2 hc1)
 have HC1:=qh hc1
 have uI:=qh hc2
 have HC3:=qh hc3
 have HC4:Hid (∀A,ka=some A->∀j u,cs2.flatten[j]? =some u->xE.cell? (A.add j)=some u):=λA hA j u hj=>zk ql.out _ _ (hc4 A hA j u hj)
 have HC5:Hid (cs2.flatten.length=ln*12):=by rw [hln];exact hc5
 have HS2:=qh hs
 have qm:=qh hln
 clear hs hl hln qL hel pE hc1 hc2 hc3 hc4 hc5
 go_wp2_with(at_builtin;go_must(refine gH xE rfl _ _ 40 rfl 45 (.agg #[.int .i64 0, .int .i64 0, .int .i64 0, .int .i64 0, .int .i64 0, .int .u8 0, .slice none 0 0, .int .i64 0, .int .i64 0, .int .u8 0, .slice none 0 0, .int .i64 0]) 12 128 Tryz.underlying40 zae rfl (by decide) w.heap.size (.slice oa on oc) on (css.flatten) rfl zak.out ka ln kc (cs2.flatten) rfl HC5.out HC4.out HC3.out ku.out (by unfold maxLen;omega) (by omega) ql.out.size ?_);intro pa pc X2 f1 f2 f3 f4 f5;have HP:=qh (HO.out.app HC1.out uI.out (by rw [<-uw.out, <-qm.out];exact f1));have gG:=qh (ql.out.trans (f4.below ql.out.size (λk hk=>(zak.out.lt k hk).1)));clear f1 f2 f3 f4 f5)
 go_roundg (n - (i+1))
 case measure=>rw [HG3.out];omega
 case rel=>exact⟨i+1,pa,on+ln,pc,_,by omega,rfl,by simp,rfl,by rw [Hid,HS2.out];exact HP.out,by rw [Hid,HS2.out,List.length_append, <-uw.out, <-qm.out],gG.out⟩
theorem zht (dom:Int) (l r:List zi) (n:Int):∀k,k<=l.length->xg dom (l++r) k n=xg dom l k n:=by
 intro k
 induction k with
 |zero=>intro _;rfl
 |succ k ih=>
 intro hk
 show jv dom (xg dom (l++r) k n) _=jv dom (xg dom l k n) _
 rw [ih (by omega),show(l++r).getD k default=l.getD k default from ji (by omega)]
theorem zfZ (dom:Int) (l r:List zi) (n:Int):∀k,xg dom (l++r) (l.length+k) n=xg dom r k (xg dom l l.length n):=by
 intro k
 induction k with
 |zero=>exact zht dom l r n _ (Nat.le_refl _)
 |succ k ih=>
 show jv dom (xg dom (l++r) (l.length+k) n) ((l++r).getD (l.length+k) default).op=jv dom (xg dom r k _) _
 rw [ih,show(l++r).getD (l.length+k) default=r.getD k default by rw [jk (by omega),show l.length+k - l.length=k by omega]]
theorem ziG (c:zl):∀i,i<=c.threads.length->zcB c i=xg c.domain (c.threads.take i).flatten (c.threads.take i).flatten.length 1:=by
 intro i
 induction i with
 |zero=>intro _;rfl
 |succ i ih=>
 intro hi
 rw [zaU (by omega),List.length_append,zfZ, <-ih (by omega)];rfl
theorem ziH (w:World) (c:zl) (tv:Value) (d:Nat) (h:yB d w tv c.threads) (h4:c.threads.length<=4) (hrow:∀i,i<c.threads.length->(c.threads.getD i []).length<=600) (hd1:0<=c.domain) (hd2:c.domain<=16):Calls Tryz.prog 23 #[qP c tv] w λe w'=>e= .returned (.bool (qQ c))/\Below w.heap.size w w':=by
 obtain⟨ta,tc,rfl,htl⟩:=zf.slice h
 have zeJ:=λX (hX:Below w.heap.size w X)=>zfY X d _ c.threads (zf.below (j5.stays d) h hX) h4 hrow
 have hfl:=zbT hrow c.threads.length (Nat.le_refl _)
 rw [List.take_length] at hfl
 have hwf:qQ c=decide (5000<xg c.domain c.threads.flatten c.threads.flatten.length 1):=by
  have:=ziG c c.threads.length (Nat.le_refl _)
  rw [List.take_length] at this
  unfold qQ;rw [this]
 obtain⟨L,hL⟩:∃L,L=c.threads.flatten:=⟨_,rfl⟩
 rw [<-hL] at zeJ hfl hwf
 rw [hwf]
 obtain⟨ln,hln⟩:∃n,n=L.length:=⟨_,rfl⟩
 rw [<-hln] at zeJ hfl ⊢
 clear hwf hL
 obtain⟨n,hn⟩:∃n,n=c.threads.length:=⟨_,rfl⟩
 clear hrow
 rw [<-hn] at h htl h4 zeJ hfl ⊢
 have znt:=qh zeJ
 have qm:=qh hln
 clear zeJ hln
 unfold qP
 have hA:=(Below.refl w.heap.size w).alloc (Nat.le_refl _) (.cells #[.int .i64 c.vars, .int .i64 c.domain, .slice ta n tc] 25)
 have HB:=qh hA
 have H1:=qh (yG w (.cells #[.int .i64 c.vars, .int .i64 c.domain, .slice ta n tc] 25))
 have HT:=qh (zf.below (j5.stays d) h hA)
 have HN:=qh hn
 clear h hA hn HN HT
 go_enter Tryz.func23,Tryz.ntmps23
 go_upto_region 1 with fail
 generalize World.alloc w _=W at HB H1 ⊢
 obtain⟨gx,hgx⟩:∃gx,gx=w.heap.size:=⟨_,rfl⟩
 rw [<-hgx] at H1 ⊢
 clear hgx
 have HC:Hid (∀x,Below W.heap.size W x->x.cell? ⟨gx,0,none⟩=some (.int .i64 c.vars)/\x.cell? ⟨gx,1,none⟩=some (.int .i64 c.domain)/\x.cell? ⟨gx,2,none⟩=some (.slice ta n tc)):=λx hx=>⟨zk hx _ _ (ze H1.out 0),zk hx _ _ (ze H1.out 1),zk hx _ _ (ze H1.out 2)⟩
 obtain⟨dom,hdom⟩:∃x,x=c.domain:=⟨_,rfl⟩
 rw [<-hdom] at HC H1 hd1 hd2 ⊢
 have zqH:=qh hdom
 clear hdom
 have bC:=qh (znt.out W HB.out)
 clear znt
 obtain⟨c0,c1,c2⟩:=HC.out W (Below.refl _ _)
 go_wp2_with(go_at_call 39;go_must(refine bC.out.mono ?_);rintro e Y ⟨⟨la,lc,rfl,hel⟩,hb⟩;(have HEL:=qh hel);(have HBY:=qh hb);clear hel hb c0 c1 c2)
 go_loopg [3,10] ln (λgg s3 s10 wr=>∃(q:Nat) (k:Int),q<=ln/\Hid (gg=ln - q)/\s10= .int .i64 q/\Hid (Below Y.heap.size Y wr)/\s3= .int .i64 k/\Hid (k=xg dom L q 1))
 case atStart=>exact⟨0,1,Nat.zero_le _,rfl,rfl,Below.refl _ _,rfl,rfl⟩
 case round=>
 obtain⟨q,k,hq,HG2,rfl,HB2,rfl,HKI⟩:=hrel
 obtain⟨xE,rfl⟩:∃xE:World,xE=wr:=⟨_,rfl⟩
 by_cases hlq:q<ln
 rotate_left
 ·obtain rfl:ln=q:=by omega
  have hfin:decide (5000<xg dom L ln 1)=decide (5000<k):=by rw [HKI.out]
  have zU:=qh hfin
  clear hfin
  go_wp2_with fail
  go_ret
  rw [<-zqH.out,zU.out]
  exact⟨by first|rfl|simp,zn (zn HB.out HBY.out) HB2.out⟩
 have znj:(q:Int)<(ln:Int):=by omega
 obtain⟨fb,fo,aa,ac,ba,bc,rfl, -,⟨x0,x1,x2⟩,⟨x3,x4,x5,x6⟩,⟨x7,x8,x9,x10⟩,uZ,xa,xb⟩:=qz.part (zf.below (xU.stays d) (by have:=HEL.out;rw [qm.out] at this;exact this) HB2.out) q (by rw [<-qm.out];exact hlq)
 obtain⟨x,hx⟩:∃x,x=L.getD q default:=⟨_,rfl⟩
 rw [<-hx] at x0 x1 x2 x3 x4 x5 x6 x7 x8 x9 x10 uZ xa xb
 have hnx:xg dom L (q+1) 1=jv dom k x.op:=by rw [hx,HKI.out];rfl
 have hrk:0<=k/\k<=80000:=by rw [HKI.out];exact zfU hd1 hd2 ⟨by omega,by omega⟩ q
 obtain⟨hk0,hk8⟩:=hrk
 have HA:=qh (zw xE (.cells #[.int .i64 x.op, .int .i64 x.reg, .int .i64 x.var, .int .i64 x.a.kind, .int .i64 x.a.n, .int .u8 x.a.op, .slice aa x.a.kids.length ac, .int .i64 x.b.kind, .int .i64 x.b.n, .int .u8 x.b.op, .slice ba x.b.kids.length bc, .int .i64 x.dest] 45))
 have zL:=qh (yG xE (.cells #[.int .i64 x.op, .int .i64 x.reg, .int .i64 x.var, .int .i64 x.a.kind, .int .i64 x.a.n, .int .u8 x.a.op, .slice aa x.a.kids.length ac, .int .i64 x.b.kind, .int .i64 x.b.n, .int .u8 x.b.op, .slice ba x.b.kids.length bc, .int .i64 x.dest] 45))
 clear hx xa xb
 go_upto_region 5 with fail
 generalize World.alloc xE _=U at HA zL ⊢
 obtain⟨gu,hgu⟩:∃g,g=xE.heap.size:=⟨_,rfl⟩
 rw [<-hgu] at zL ⊢
 clear hgu x0 x1 x2 x3 x4 x5 x6 x7 x8 x9 x10 uZ
 obtain⟨op,hop⟩:∃v,v=x.op:=⟨_,rfl⟩
 have y0:U.cell? ⟨gu,0,none⟩=some (.int .i64 op):=by rw [hop];exact ze zL.out 0
 rw [<-hop] at hnx
 unfold jv at hnx
 have bB:=qh hnx
 clear hop hnx
 have wO:=qh (zn HB2.out HA.out)
 have hc1:U.cell? ⟨gx,1,none⟩=some (.int .i64 dom):=(HC.out U (zn HBY.out wO.out)).2.1
 by_cases hk5:k<=5000
 rotate_left
 ·have wP:Hid (k=xg dom L (q+1) 1):=by show _=_;rw [bB.out,if_neg (λh=>hk5 h.2)]
  go_wp2_with fail
  go_roundg (ln - (q+1))
  case measure=>rw [HG2.out];omega
  case rel=>exact⟨q+1,k,by omega,rfl,by simp,wO.out,rfl,wP.out⟩
 have hmul:0<=k*dom/\k*dom<=80000:=by
  refine⟨Int.mul_nonneg hk0 hd1, ?_⟩
  have h1:k*dom<=5000*dom:=Int.mul_le_mul_of_nonneg_right hk5 hd1
  omega
 have hwr:IntKind.i64.wrap (k*dom)=k*dom:=IntWalk.i64_in _ (by omega)
 by_cases o1:op=1
 ·subst o1
  have wP:Hid (k*dom=xg dom L (q+1) 1):=by show _=_;rw [bB.out,if_pos ⟨Or.inl rfl,hk5⟩]
  go_wp2_with fail
  go_roundg (ln - (q+1))
  case measure=>rw [HG2.out];omega
  case rel=>exact⟨q+1,k*dom,by omega,rfl,by simp,wO.out,rfl,wP.out⟩
 have n1:((op:Int)==1)=false:=by simpa using o1
 by_cases o6:op=6
 ·subst o6
  have wP:Hid (k*dom=xg dom L (q+1) 1):=by show _=_;rw [bB.out,if_pos ⟨Or.inr rfl,hk5⟩]
  go_wp2_with fail
  go_roundg (ln - (q+1))
  case measure=>rw [HG2.out];omega
  case rel=>exact⟨q+1,k*dom,by omega,rfl,by simp,wO.out,rfl,wP.out⟩
 have n6:((op:Int)==6)=false:=by simpa using o6
 have wP:Hid (k=xg dom L (q+1) 1):=by show _=_;rw [bB.out,if_neg (by omega)]
 go_wp2_with fail
 go_roundg (ln - (q+1))
 case measure=>rw [HG2.out];omega
 case rel=>exact⟨q+1,k,by omega,rfl,by simp,wO.out,rfl,wP.out⟩
