/- Steps. -/
import Derived.Sort.Grow
import Derived.Test.YtknmdmimecepfaaGreatDoorVhRFlat
set_option linter.all false
namespace Go.Proofs.YtknmdmimecepfaaGreatDoor
open Go.RowKit
set_option maxRecDepth 100000
set_option maxHeartbeats 16000000
theorem zjt {α:Type} (k:Ask α):∀w:World,w.drawn<=(w.ask k).2.drawn:=by
 induction k with
 |done a=>intro w;exact Nat.le_refl _
 |ask what range k ih=>
 intro w
 unfold World.ask
 simp only []
 split
 ·exact ih _ _
 exact Nat.le_trans (Nat.le_succ _) (ih _ { w with drawn:=w.drawn+1 })
theorem zju (w:World) (c:Sys):w.drawn<=(w.sys c).2.drawn:=by
 unfold World.sys
 have h:=zjt (Kernel.perform c w.os) w
 cases hq:w.ask (Kernel.perform c w.os) with
 |mk p w'=>
 rw [hq] at h
 obtain⟨r,os⟩:=p
 cases r<;>first|exact h|exact Nat.le_refl _
theorem zhK {p:Program} {w:World} {at_:Addr} {u:TypeId} {k:Addr} {v:Value} {a:Bool} {r:World × List Addr} (h:w.viewStore p at_ u k v a= .ok r):r.1.drawn=w.drawn:=by
 unfold World.viewStore at h
 simp only [bind,Except.bind,pure,Except.pure] at h
 repeat' split at h
 all_goals first
  |(cases h;done)
  |(cases h;rfl)
theorem zjv {p:Program} {w:World} {k:Addr} {v:Value} {a:Bool} {r:World × List Addr} (h:w.farStore p k v a= .ok r):r.1.drawn=w.drawn:=by
 unfold World.farStore at h
 split at h
 ·split at h
  ·rename_i h2;cases h;exact zhK h2
  cases h
 cases h
theorem zjw {α:Type} (P:Program) (s:Sem α):∀(w:World) (a:α) (w':World),s.run P w= .ok a w'->w.drawn<=w'.drawn:=by
 induction s with
 |pure a=>intro w b w' h;simp only [Sem.run,Result.ok.injEq] at h;rw [h.2];exact Nat.le_refl _
 |load m a k ih=>
  intro w b w' h
  unfold Sem.run at h
  split at h
  ·exact ih _ _ _ _ h
  split at h
  ·exact ih _ _ _ _ h
  cases h
 |store m a v k ih=>
  intro w b w' h
  cases v<;>unfold Sem.run at h<;>first
   |cases h
   |(split at h
     ·split at h
      ·cases h
      have h3:=ih _ _ _ h
      exact h3
     split at h
     ·rename_i h2
      have:=zjv h2
      simp only [] at this
      have h3:=ih _ _ _ h
      omega
     cases h)
 |new o k ih=>intro w b w' h;unfold Sem.run at h;have h3:=ih _ _ _ _ h;exact h3
 |shape r k ih=>intro w b w' h;exact ih _ _ _ _ h
 |freeze a n k ih=>
  intro w b w' h
  have:=ih _ _ _ h
  have h2:(w.freeze a n).drawn=w.drawn:=by unfold World.freeze;split<;>rfl
  omega
 |frozen a k ih=>intro w b w' h;exact ih _ _ _ _ h
 |getObj r k ih=>
  intro w b w' h
  unfold Sem.run at h
  split at h
  ·cases h
  ·exact ih _ _ _ _ h
  cases h
 |setObj r o k ih=>
  intro w b w' h
  unfold Sem.run at h
  split at h
  ·cases h
  ·have h3:=ih _ _ _ h
   exact h3
  cases h
 |choose q k ih=>
  intro w b w' h
  unfold Sem.run at h
  split at h
  ·exact ih _ _ _ _ h
  have:=ih _ _ _ _ h
  simp only [] at this
  omega
 |sys c k ih=>
  intro w b w' h
  have:=ih _ _ _ _ h
  have h2:=zju w c
  omega
 |program k ih=>intro w b w' h;exact ih _ _ _ _ h
 |mark m k ih=>intro w b w' h;exact ih _ _ _ h
 |halt x=>intro w b w' h;cases h
theorem kR {P:Program} (w:World) {ops:Array Oper} {rest:List Oper} {o:Oper} {a:Act} {Q:Exit->Act->World->Prop} (hgd:o.guard=none) (s x:Operand) (t:TypeId)
  (ho:o.op= .call { callee:= .builtin .append,args:= #[s,x],argTypes:= #[t,t] })
  (e:TypeId) (z:Value) (size bytes:Nat) (ht:P.underlying t=some (.slice e)) (hinfo:(P.info? e).map (λi=>(i.zero,i.size,i.bytes))=some (some z,size,bytes)) (hzs:z.cells.size=size) (hsz:0<size)
  (base:Nat) (v:Value) (n:Nat) (xs:List Value) (hs:a.eval s=v) (hown:w.ownsRow base e size v n xs)
  (ad:Option Addr) (m c:Nat) (news:List Value) (hx:a.eval x= .slice ad m c) (hl:news.length=m*size) (hnews:∀A,ad=some A->∀j u,news[j]? =some u->w.cell? (A.add j)=some u) (hnone:ad=none->m=0) (h1:∀u∈news,u.oneCell'=true)
  (h63:n+m<=maxLen) (hbytes:(n+m)*bytes<=140737488355328) (hbase:base<=w.heap.size)
  (h:∀a' cap' w',w'.ownsRow base e size (.slice a' (n+m) cap') (n+m) (xs++news)->cap'<=9223372036854775807->n+m<=cap'->Since (λk=>v.ownBlock=some k) w w'->
   (∀k,(Value.slice a' (n+m) cap').ownBlock=some k->v.ownBlock=some k\/k=w.heap.size)->w.drawn<=w'.drawn->
   wpList P ops Q rest (a.put o.dst (.slice a' (n+m) cap')) w'):wpList P ops Q (o::rest) a w:=by
 cases ad with
 |some A=>
  obtain⟨i,hi,hz,hsize,hby⟩:=info_parts hinfo
  obtain⟨v',w',hr,h2,h3,h4⟩:=run_append_own (P:=P) w base t o.type e i z size bytes ht hi hz hsize hby hzs hsz v n xs hown A m c news hl (hnews A rfl) h1 h63 hbytes hbase
  have hw:=uL ht hi hz hsize hby hown hl (hnews A rfl) h1 h63 hbytes hr
  obtain⟨a',cap',rfl,hc1,hc2⟩:=xP h2
  refine wpList_plain hgd λ_ hK=> ?_
  unfold Oper.wp execOp
  simp only [ho,resolve,invoke,builtin,Sem.run_bind,Sem.run_pure,Result.andThen_ok,List.map_toArray,List.map_cons,List.map_nil,hs,hx,hr]
  refine hK _ _ (h a' cap' w' h2 (by unfold maxLen at hc2;omega) hc1 ((Since.refl _ _).grown h3 (λk hk=> .inl hk)) (λk hk=> ?_) (zjw P _ _ _ _ hr))
  rw [hk] at hw
  rcases hw with hw|hw
  ·exact .inl hw.symm
  exact .inr (by simpa using hw)
 |none=>
 have hm:=hnone rfl
 subst hm
 have hn:news= [] :=List.eq_nil_of_length_eq_zero (by simpa using hl)
 subst hn
 obtain⟨i,hi,hz,hsize,hby⟩:=info_parts hinfo
 obtain⟨va,cap,rfl,hc1,hc2⟩:=xP hown
 have hr:(Builtin.append_ #[t,t] o.type #[.slice va n cap, .slice none 0 c]).run P w= .ok (.slice va n cap) w:=by
  cases va<;>simp [Builtin.append_,run_underlying ht,sizeOf,typeInfo,hi,Builtin.lenOf,Builtin.firstCells,hc1,storeCells]
 refine wpList_plain hgd λ_ hK=> ?_
 unfold Oper.wp execOp
 simp only [ho,resolve,invoke,builtin,Sem.run_bind,Sem.run_pure,Result.andThen_ok,List.map_toArray,List.map_cons,List.map_nil,hs,hx,hr]
 exact hK _ _ (h va cap w (by rw [List.append_nil];exact hown) (by unfold maxLen at hc2;omega) hc1 (Since.refl _ _) (λk hk=> .inl hk) (Nat.le_refl _))
theorem zaF (w:World) (sv:Value) (l:List Int) (h:xJ w sv l) (hl:l.length<=100000000):Calls Tryz.prog 66 #[sv] w λe w'=>(∃ca cc,e= .returned (.slice ca l.length cc)/\w'.ownsRow w.heap.size 3 1 (.slice ca l.length cc) l.length (zm zR l))/\Below w.heap.size w w'/\w.drawn<=w'.drawn:=by
 obtain⟨sa,sc,rfl, -⟩:=zf.slice h
 have HS:=qh h
 have zkc:=qh (ze6 h)
 obtain⟨n,hn⟩:∃n,n=l.length:=⟨_,rfl⟩
 rw [<-hn] at HS hl ⊢
 have HN:=qh hn
 clear hn h
 cases sa with
 |none=>
  have hn0:n=0:=zdF HS.out
  subst hn0
  have hl0:l= [] :=List.eq_nil_of_length_eq_zero HN.out.symm
  subst hl0
  have heq:∀w,(binOp .eql 35 (.slice none 0 sc) (.slice none 0 0)).run Tryz.prog w= .ok (.bool true) w:=λw=>by
   have:=Lib.run_eql_slice_nil (P:=Tryz.prog) w 35 3 none 0 sc 0 0 Tryz.underlying35
   simpa using this
  go_enter Tryz.func66,Tryz.ntmps66
  go_wp2_with fail
  go_ret
  exact⟨⟨none,0,by first|rfl|simp,World.ownsRow_nil _ _ _ _⟩,Below.refl _ _,Nat.le_refl _⟩
 |some A=>
 have heq:∀w,(binOp .eql 35 (.slice (some A) n sc) (.slice none 0 0)).run Tryz.prog w= .ok (.bool false) w:=λw=>by
  have:=Lib.run_eql_slice_nil (P:=Tryz.prog) w 35 3 (some A) n sc 0 0 Tryz.underlying35
  simpa using this
 have hrow:(w.alloc (.cells #[] 3)).ownsRow w.heap.size 3 1 (.slice (some ⟨w.heap.size,0,none⟩) 0 0) 0 [] :=zbo (cs:= []) (yG w _) (Nat.le_refl _) rfl (by unfold maxLen;omega)
 have qw:=qh hrow
 have HW:Hid (∀j u,(zm zR l)[j]? =some u->(w.alloc (.cells #[] 3)).cell? (A.add j)=some u):=λj u hj=>zk ((Below.refl w.heap.size w).alloc (Nat.le_refl _) _) _ _ (zkc.out A rfl j u hj)
 clear hrow
 go_enter Tryz.func66,Tryz.ntmps66
 go_wp2_with(at_builtin;go_must(refine kR _ rfl _ _ 35 rfl 3 (.int .i64 0) 1 8 Tryz.underlying35 uD rfl (by decide) w.heap.size (.slice (some ⟨w.heap.size,0,none⟩) 0 0) 0 [] rfl qw.out (some A) n sc (zm zR l) rfl ((jB (f:=zR) kZ l).trans (by rw [<-HN.out])) (λ_ e=>by cases e;exact HW.out) (λe=>by cases e) ze7 (by unfold maxLen;omega) (by omega) (by simp) ?_);intro ja jc X f1 f2 f3 f4 f5 f6;have HX:=qh (ze8 f1);have HXB:Hid (Below w.heap.size w X):=(((Since.refl (λk=>w.heap.size<=k) w).alloc (.cells #[] 3)).trans f4 (λk hk=> .inl (by simp [Value.ownBlock] at hk;omega))).below (Nat.le_refl _) (λk hk=>hk);have HD:Hid (w.drawn<=X.drawn):=f6;clear f1 f2 f3 f4 f5 f6)
 go_ret
 exact⟨⟨ja,jc,by first|rfl|simp,HX.out⟩,HXB.out,HD.out⟩
theorem zeM (w:World) (f:zy) (mv rv:Value) (hf:xM w f mv rv) (bQ:j4 f):
  Calls Tryz.prog 72 #[qg mv rv] w λe w'=>(∃fa fc,e= .returned (.slice fa (zu f).length fc)/\w'.ownsRow w.heap.size 3 1 (.slice fa (zu f).length fc) (zu f).length (zm zR (zu f)))/\Below w.heap.size w w'/\w.drawn<=w'.drawn:=by
 obtain⟨hm,hrl⟩:=bQ
 obtain⟨ma,mc,rfl, -⟩:=zf.slice hf.mem
 obtain⟨ra,rc,rfl, -⟩:=zf.slice hf.regs
 obtain⟨F,hF⟩:∃F,F=zu f:=⟨_,rfl⟩
 have hF2:F=f.mem++f.regs.flatten:=hF
 rw [<-hF]
 clear hF
 obtain⟨fn,hfn⟩:∃n,n=F.length:=⟨_,rfl⟩
 rw [<-hfn]
 have HFN:=qh hfn
 clear hfn
 unfold qg
 obtain⟨mem,regs⟩:=f
 have h1:=hf.mem
 have h2:=hf.regs
 simp only [] at h1 h2 hm hrl hF2 ⊢
 obtain⟨m,hmm⟩:∃m,m=mem.length:=⟨_,rfl⟩
 obtain⟨n,hn⟩:∃n,n=regs.length:=⟨_,rfl⟩
 rw [<-hmm] at h1 hm ⊢
 rw [<-hn] at h2 hrl ⊢
 have hB:=(Below.refl w.heap.size w).alloc (Nat.le_refl _) (.cells #[.slice ma m mc, .slice ra n rc] 111)
 have H1:=qh (yG w (.cells #[.slice ma m mc, .slice ra n rc] 111))
 have HM:=qh (zf.below uy.stays h1 hB)
 have HR:=qh (zf.below p9.stays h2 hB)
 have HB:=qh hB
 have HD0:Hid (w.drawn<=(w.alloc (.cells #[.slice ma m mc, .slice ra n rc] 111)).drawn):=Nat.le_refl _
 have HMM:=qh hmm
 have HN:=qh hn
 have HF:=qh hF2
 clear hf h1 h2 hB hmm hn hF2
 go_enter Tryz.func72,Tryz.ntmps72
 go_upto_region 1 with fail
 generalize World.alloc w _=W at HB HD0 H1 HM HR ⊢
 obtain⟨gx,hgx⟩:∃gx,gx=w.heap.size:=⟨_,rfl⟩
 rw [<-hgx] at H1 ⊢
 clear hgx
 have zU:Hid (∀x,Below W.heap.size W x->Below w.heap.size w x):=λx hx=>HB.out.trans (hx.mono HB.out.size)
 have HC:Hid (∀x,Below W.heap.size W x->x.cell? ⟨gx,0,none⟩=some (.slice ma m mc)/\x.cell? ⟨gx,1,none⟩=some (.slice ra n rc)):=λx hx=>⟨zk hx _ _ (ze H1.out 0),zk hx _ _ (ze H1.out 1)⟩
 obtain⟨c0,c1⟩:=HC.out W (Below.refl _ _)
 go_upto_region 2 with(go_at_call 66;go_must(refine(zaF W (.slice ma m mc) mem HM.out (by rw [<-HMM.out];omega)).mono ?_);rintro e X ⟨⟨ja,jc,rfl,hrow⟩,hb1,hd1⟩;have HX:=qh hrow;have HXB:=qh hb1;have HXD:=qh (Nat.le_trans HD0.out hd1);clear hrow hb1 hd1)
 rw [<-HMM.out] at HX
 rw [<-HMM.out]
 clear c0 c1
 obtain⟨c0,c1⟩:=HC.out X HXB.out
 go_wp2_with fail
 clear c0 c1
 go_loopg [3,12] n (λgg s3 s12 wr=>∃(i:Nat) (oa:Option Addr) (on oc:Nat) (ol:List Int),i<=n/\Hid (gg=n - i)/\s3= .slice oa on oc/\s12= .int .i64 i/\Hid (on=m+4*i)/\Hid (ol=mem++(regs.take i).flatten)/\Hid (wr.ownsRow W.heap.size 3 1 (.slice oa on oc) on (zm zR ol))/\Hid (Below W.heap.size W wr)/\Hid (w.drawn<=wr.drawn))
 case atStart=>exact⟨0,ja,m,jc,mem,Nat.zero_le _,rfl,by first|rfl|simp,rfl,by simp [Hid],by simp [Hid],HX.out,HXB.out,HXD.out⟩
 case round=>
 obtain⟨i,oa,on,oc,ol,hi,HG,rfl,rfl,uw,HOL,HO,ql,HDR⟩:=hrel
 by_cases hlt:i<n
 rotate_left
 ·obtain rfl:n=i:=by omega
  have hol:F=ol:=by rw [HOL.out,HF.out,HN.out,List.take_length]
  have hln:fn=on:=by
   have:=HO.out.1
   rw [jB (f:=zR) kZ, <-hol, <-HFN.out] at this
   omega
  subst hln
  have HO2:=qh (zdG HO.out HB.out.size)
  rw [<-hol] at HO2
  clear hol
  go_wp2_with fail
  go_ret
  exact⟨⟨oa,oc,by first|rfl|simp,HO2.out⟩,zU.out _ ql.out,HDR.out⟩
 have qK:(i:Int)<(n:Int):=by omega
 obtain⟨b,off,hea, -,hr4,x0,x1,x2,x3⟩:=zaM.part HR.out i (by rw [<-HN.out];exact hlt)
 subst hea
 have hft:=zdE (f:=⟨mem,regs⟩) (i:=i) (by show i<regs.length;rw [<-HN.out];exact hlt)
 simp only [] at hft
 generalize regs.getD i default=rg at x0 x1 x2 x3 hr4 hft
 obtain⟨q0,q1,q2,q3,rfl⟩:=bY hr4
 simp only [List.getD_cons_zero,List.getD_cons_succ] at x0 x1 x2 x3
 have HFT:=qh hft
 clear hft hr4
 replace x0:=zk ql.out _ _ x0
 replace x1:=zk ql.out _ _ x1
 replace x2:=zk ql.out _ _ x2
 replace x3:=zk ql.out _ _ x3
 have hb1:on+4<=10000000:=by have:=uw.out;omega
 have hnews:=λj u hj=>kW wr [Value.int .i64 q0, .int .i64 q1, .int .i64 q2, .int .i64 q3] 59 j u hj
 have zpi:=qh hnews
 have HDA:Hid (w.drawn<=(wr.alloc (.cells #[.int .i64 q0, .int .i64 q1, .int .i64 q2, .int .i64 q3] 59)).drawn):=HDR.out
 clear hnews
 go_wp2_with(at_builtin;go_must(refine kR _ rfl _ _ 35 rfl 3 (.int .i64 0) 1 8 Tryz.underlying35 uD rfl (by decide) W.heap.size (.slice oa on oc) on (zm zR ol) rfl ((HO.out).alloc _) (some ⟨wr.heap.size,0,none⟩) 4 4 [.int .i64 q0, .int .i64 q1, .int .i64 q2, .int .i64 q3] rfl rfl (λ_ e=>by cases e;exact zpi.out) (λe=>by cases e) (by simp [Value.oneCell']) (by unfold maxLen;omega) (by omega) (by have:=ql.out.size;simp;omega) ?_);intro ja jc X2 f1 f2 f3 f4 f5 f6;(have HE:Hid (X2.ownsRow W.heap.size 3 1 (.slice ja (on+4) jc) (on+4) (zm zR (ol++ [q0,q1,q2,q3]))):=by(rw [Hid,zf5];exact f1));(have HE2:Hid (Below W.heap.size W X2):=ql.out.trans ((((Since.refl _ wr).alloc _).trans f4 (λk hk=> .inl hk)).below ql.out.size (λk hk=>(HO.out.lt k hk).1)));(have HE3:=qh (Nat.le_trans HDA.out f6));clear f1 f2 f3 f4 f5 f6)
 go_roundg (n - (i+1))
 case measure=>rw [HG.out];omega
 case rel=>exact⟨i+1,ja,on+4,jc,ol++ [q0,q1,q2,q3],by omega,rfl,rfl,by simp,by have:=uw.out;rw [Hid];omega,by rw [Hid,HFT.out,HOL.out,List.append_assoc],HE.out,HE2.out,HE3.out⟩
def zd1 (a b:Int):Int:=if a<b then -1 else if b<a then 1 else 0
theorem zbs (w:World) (a:Int):Calls Tryz.prog 124 #[.int .i64 a] w λe w'=>e= .returned (.bool false)/\w=w':=by
 go_enter Tryz.func124,Tryz.ntmps124
 go_wp2_with fail
 go_ret
 exact⟨by first|rfl|simp,rfl⟩
theorem zga (w:World) (a b:Int):Calls Tryz.prog 98 #[.int .i64 a, .int .i64 b] w λe w'=>e= .returned (.int .i64 (zd1 a b))/\w=w':=by
 unfold zd1
 by_cases h1:a<b
 ·rw [if_pos h1]
  go_enter Tryz.func98,Tryz.ntmps98
  go_wp2_with(go_at_call 124;refine(zbs _ _).mono ?_;rintro e w' ⟨rfl,rfl⟩)
  go_ret
  exact⟨by first|rfl|simp,rfl⟩
 rw [if_neg h1]
 by_cases h2:b<a
 ·rw [if_pos h2]
  go_enter Tryz.func98,Tryz.ntmps98
  go_wp2_with(go_at_call 124;refine(zbs _ _).mono ?_;rintro e w' ⟨rfl,rfl⟩)
  go_ret
  exact⟨by first|rfl|simp,rfl⟩
 rw [if_neg h2]
 go_enter Tryz.func98,Tryz.ntmps98
 go_wp2_with(go_at_call 124;refine(zbs _ _).mono ?_;rintro e w' ⟨rfl,rfl⟩)
 go_ret
 exact⟨by first|rfl|simp,rfl⟩
