/- Steps. -/
import Derived.Deep.RegionLaw
import Derived.LoopIn
import Derived.LoopNIn
import Derived.OwnWalkIn
import Derived.RangeFuncBound
import Derived.RangeFuncNested
import Derived.Shelf.RegionOpen
import Derived.Test.YtliajkheeniljaaGreatDoorZpOwnS
set_option linter.all false
namespace Go.Proofs.YtliajkheeniljaaGreatDoor
open Go.RowKit
set_option maxRecDepth 100000
set_option maxHeartbeats 16000000
def SrcOf (w:World) (sv:Value) (n size:Nat) (xs:List Value):Prop:=∃a cap,sv= .slice a n cap/\xs.length=n*size/\(a=none->n=0)/\∀A,a=some A->∀j u,xs[j]? =some u->w.cell? (A.add j)=some u
theorem SrcOf.below {w w':World} {sv:Value} {n size:Nat} {xs:List Value} (h:SrcOf w sv n size xs) (hb:Below w.heap.size w w'):SrcOf w' sv n size xs:=by
 obtain⟨a,cap,h1,h2,h3,h4⟩:=h
 exact⟨a,cap,h1,h2,h3,λA hA j u hj=>zi hb _ _ (h4 A hA j u hj)⟩
theorem SrcOf.of_slice {α:Type} [Inhabited α] {R:World->α->List Value->Prop} {size:Nat} {f:α->List Value} (hs:0<size) (hf:∀x,(f x).length=size) (hR:∀w x cs,R w x cs->cs=f x) {w:World} {sv:Value} {l:List α} (h:zh R size w sv l):SrcOf w sv l.length size (zo f l):=by
 obtain⟨a,cap,rfl, -⟩:=zh.slice h
 refine⟨a,cap,rfl,jB hf l,λe=> ?_,λA hA j u hj=> ?_⟩
 ·subst e
  rcases Nat.eq_zero_or_pos l.length with e0|e0
  ·exact e0
  obtain⟨b,off,cs,h5, -⟩:=zh.part h 0 e0;cases h5
 subst hA
 have hl:0<l.length:=by
  rcases Nat.eq_zero_or_pos l.length with e0|e0
  ·rw [List.getElem?_eq_none (by rw [jB hf,e0];omega)] at hj;cases hj
  exact e0
 obtain⟨b,off,cs,h5, -⟩:=zh.part h 0 hl
 cases h5
 exact zh.news hs hf hR h j u hj
theorem zsU {n:Nat} {P:Nat->Value->Prop} (h:∀j,j<n->∃v,P j v):∃l:List Value,l.length=n/\∀j,j<n->P j (l.getD j (.slice none 0 0)):=by
 induction n with
 |zero=>exact⟨[],rfl,λj hj=>by omega⟩
 |succ n ih=>
 obtain⟨l,h1,h2⟩:=ih λj hj=>h j (by omega)
 obtain⟨v,hv⟩:=h n (by omega)
 refine⟨l++ [v],by simp [h1],λj hj=> ?_⟩
 rw [gL (by omega)]
 by_cases e:j=n
 ·subst e;rw [if_pos h1.symm];exact hv
 rw [if_neg (by omega)];exact h2 j (by omega)
theorem SrcOf.threads {w:World} {sv:Value} {l:List zA} (h:qP w sv l):∃bs:List Value,bs.length=l.length/\SrcOf w sv l.length 6 (zX l bs)/\(∀j,j<l.length->(l.getD j default).regs.length=4/\zU w (bs.getD j (.slice none 0 0)) (l.getD j default).buf)/\∀u∈zX l bs,u.oneCell'=true:=by
 obtain⟨a,cap,rfl, -⟩:=zh.slice h
 obtain⟨bs,hb,hP⟩:=zsU (n:=l.length) (P:=λj v=>(l.getD j default).regs.length=4/\zU w v (l.getD j default).buf/\∃b off,a=some ⟨b,off,none⟩/\∀i,i<6->w.cell? ⟨b,off+j*6+i,none⟩=((l.getD j default).cells v)[i]?) λj hj=>by
  obtain⟨b,off,cs,h1, -,h3,h4,h5,bv,h6,h7⟩:=zh.part h j hj
  subst h6
  exact⟨bv,h5,h7,b,off,h1,h4⟩
 refine⟨bs,hb,⟨a,cap,rfl,gG l bs,λe=> ?_,λA hA j u hj=> ?_⟩,λj hj=>⟨(hP j hj).1,(hP j hj).2.1⟩,λu hu=> ?_⟩
 ·subst e
  rcases Nat.eq_zero_or_pos l.length with e0|e0
  ·exact e0
  obtain⟨-, -,b,off,h5, -⟩:=hP 0 e0;cases h5
 ·subst hA
  have hlt:j<l.length*6:=by
   rcases Nat.lt_or_ge j (l.length*6) with e|e
   ·exact e
   rw [List.getElem?_eq_none (by rw [gG];exact e)] at hj;cases hj
  obtain⟨q,r,hq,hr,rfl⟩:∃q r,q<l.length/\r<6/\j=q*6+r:=⟨j / 6,j % 6,by omega,by omega,by omega⟩
  rw [vK hq hr] at hj
  obtain⟨-, -,b,off,h5,h6⟩:=hP q hq
  cases h5
  rw [show(⟨b,off,none⟩:Addr).add (q*6+r)=⟨b,off+q*6+r,none⟩ by
   simp only [Addr.add]
   split
   ·rename_i h;rw [show off+q*6+r=off by omega]
   rw [Nat.add_assoc],h6 r hr]
  exact hj
 obtain⟨j,hj,rfl⟩:=List.getElem_of_mem hu
 rw [gG] at hj
 obtain⟨q,r,hq,hr,rfl⟩:∃q r,q<l.length/\r<6/\j=q*6+r:=⟨j / 6,j % 6,by omega,by omega,by omega⟩
 have e:=vK (bs:=bs) hq hr
 rw [List.getElem?_eq_getElem (by rw [gG];omega)] at e
 have hm:=List.mem_of_getElem? e.symm
 refine zof ?_ _ hm
 obtain⟨a',cap',e', -⟩:=zh.slice (hP q hq).2.1
 rw [e'];rfl
theorem ziv {w:World} {B:Nat} {sv:Value} {l:List zA} {bs:List Value} (h:w.ownsRow B 48 6 sv l.length (zX l bs)) (hb:∀j,j<l.length->(l.getD j default).regs.length=4/\zU w (bs.getD j (.slice none 0 0)) (l.getD j default).buf):qP w sv l:=
 zh.zbX h λj hj=>⟨(l.getD j default).cells (bs.getD j (.slice none 0 0)),kL _ _,λ_ hi=>vK hj hi,(hb j hj).1,_,rfl,(hb j hj).2⟩
theorem uX {P:Program} (w:World) {ops:Array Oper} {rest:List Oper} {o:Oper} {a:Act} {Q:Exit->Act->World->Prop} (hgd:o.guard=none) (s x:Operand) (t:TypeId)
  (ho:o.op= .call { callee:= .builtin .append,args:= #[s,x],argTypes:= #[t,t] })
  (e:TypeId) (z:Value) (size bytes:Nat) (ht:P.underlying t=some (.slice e)) (hinfo:(P.info? e).map (λi=>(i.zero,i.size,i.bytes))=some (some z,size,bytes)) (hzs:z.cells.size=size) (hsz:0<size)
  (base:Nat) (v:Value) (n:Nat) (xs:List Value) (hs:a.eval s=v) (hown:w.ownsRow base e size v n xs)
  (sv:Value) (m:Nat) (news:List Value) (hx:a.eval x=sv) (hsrc:SrcOf w sv m size news) (h1:∀u∈news,u.oneCell'=true)
  (h63:n+m<=maxLen) (hbytes:(n+m)*bytes<=140737488355328) (hbase:base<=w.heap.size)
  (h:∀a' cap' w',w'.ownsRow base e size (.slice a' (n+m) cap') (n+m) (xs++news)->cap'<=9223372036854775807->n+m<=cap'->Since (λk=>v.ownBlock=some k) w w'->
   (∀k,(Value.slice a' (n+m) cap').ownBlock=some k->v.ownBlock=some k\/k=w.heap.size)->wpList P ops Q rest (a.put o.dst (.slice a' (n+m) cap')) w'):wpList P ops Q (o::rest) a w:=by
 obtain⟨ad,c,rfl,hl,hnone,hnews⟩:=hsrc
 cases ad with
 |some A=>
  obtain⟨i,hi,hz,hsize,hby⟩:=info_parts hinfo
  obtain⟨v',w',hr,h2,h3,h4⟩:=run_append_own (P:=P) w base t o.type e i z size bytes ht hi hz hsize hby hzs hsz v n xs hown A m c news hl (hnews A rfl) h1 h63 hbytes hbase
  have hw:=zca ht hi hz hsize hby hown hl (hnews A rfl) h1 h63 hbytes hr
  obtain⟨a',cap',rfl,hc1,hc2⟩:=xK h2
  refine wpList_plain hgd λ_ hK=> ?_
  unfold Oper.wp execOp
  simp only [ho,resolve,invoke,builtin,Sem.run_bind,Sem.run_pure,Result.andThen_ok,List.map_toArray,List.map_cons,List.map_nil,hs,hx,hr]
  refine hK _ _ (h a' cap' w' h2 (by unfold maxLen at hc2;omega) hc1 ((Since.refl _ _).grown h3 (λk hk=> .inl hk)) (λk hk=> ?_))
  rw [hk] at hw
  rcases hw with hw|hw
  ·exact .inl hw.symm
  exact .inr (by simpa using hw)
 |none=>
 have hm:=hnone rfl
 subst hm
 have hn:news= [] :=List.eq_nil_of_length_eq_zero (by simpa using hl)
 subst hn
 obtain⟨i,hi,hz,hsize,hby⟩:=info_parts hinfo
 obtain⟨va,cap,rfl,hc1,hc2⟩:=xK hown
 have hr:(Builtin.append_ #[t,t] o.type #[.slice va n cap, .slice none 0 c]).run P w= .ok (.slice va n cap) w:=by
  cases va<;>simp [Builtin.append_,run_underlying ht,sizeOf,typeInfo,hi,Builtin.lenOf,Builtin.firstCells,hc1,storeCells]
 refine wpList_plain hgd λ_ hK=> ?_
 unfold Oper.wp execOp
 simp only [ho,resolve,invoke,builtin,Sem.run_bind,Sem.run_pure,Result.andThen_ok,List.map_toArray,List.map_cons,List.map_nil,hs,hx,hr]
 exact hK _ _ (h va cap w (by rw [List.append_nil];exact hown) (by unfold maxLen at hc2;omega) hc1 (Since.refl _ _) (λk hk=> .inl hk))
theorem zhj {P:Program} (w:World) (t ty:TypeId) (e:TypeId) (z:Value) (size bytes:Nat) (ht:P.underlying t=some (.slice e)) (hinfo:(P.info? e).map (λi=>(i.zero,i.size,i.bytes))=some (some z,size,bytes)) (hzs:z.cells.size=size) (hsz:0<size)
  (ao:Option Addr) (n:Nat) (olds:List Value) (hsrc:SrcOf w (.slice ao n n) n size olds)
  (ad:Addr) (m c:Nat) (news:List Value) (hl:news.length=m*size) (hnews:∀j u,news[j]? =some u->w.cell? (ad.add j)=some u) (h1:∀u∈news,u.oneCell'=true) (hm:0<m)
  (h63:n+m<=maxLen) (hbytes:(n+m)*bytes<=140737488355328):
  ∃a' cap' w',(Builtin.append_ #[t,t] ty #[.slice ao n n, .slice (some ad) m c]).run P w= .ok (.slice a' (n+m) cap') w'/\w'.ownsRow w.heap.size e size (.slice a' (n+m) cap') (n+m) (olds++news)/\cap'<=9223372036854775807/\n+m<=cap'/\Since (λ_=>False) w w':=by
 obtain⟨i,hi,hz,hsize,hby⟩:=info_parts hinfo
 obtain⟨ao',cap0,he,hol,hnone,holds⟩:=hsrc
 cases he
 have key:∃v' w',(Builtin.append_ #[t,t] ty #[.slice ao n n, .slice (some ad) m c]).run P w= .ok v' w'/\w'.ownsRow w.heap.size e size v' (n+m) (olds++news)/\w.grownBy w' none:=by
  cases ao with
  |some b=>exact run_append_arg_grows (P:=P) w t ty e i z size bytes ht hi hz hsize hby hzs hsz b n n olds hol (holds b rfl) ad m c news hl hnews (by omega) h63 hbytes
  |none=>
  obtain rfl:=hnone rfl
  obtain rfl:olds= [] :=List.eq_nil_of_length_eq_zero (by simpa using hol)
  obtain⟨v',w',hrun,r1,r2, -⟩:=run_append_own (P:=P) w w.heap.size t ty e i z size bytes ht hi hz hsize hby hzs hsz (.slice none 0 0) 0 [] (World.ownsRow_nil w _ e size) ad m c news hl hnews h1 h63 hbytes (Nat.le_refl _)
  exact⟨v',w',hrun,r1,r2⟩
 obtain⟨v',w',hr,h2,h3⟩:=key
 obtain⟨a',cap',rfl,hc1,hc2⟩:=xK h2
 exact⟨a',cap',w',hr,h2,by unfold maxLen at hc2;omega,hc1,(Since.refl _ _).grown h3 (λk hk=>by cases hk)⟩
theorem zb7 {P:Program} (w:World) {ops:Array Oper} {o:Oper} {a:Act} {K:Act->World->Prop} {Q:Exit->Act->World->Prop} {E:Prop} (hw:Region.wanted o (yielded ops a.tmps)=true) (s x:Operand) (t:TypeId)
  (ho:o.op= .call { callee:= .builtin .append,args:= #[s,x],argTypes:= #[t,t] })
  (e:TypeId) (z:Value) (size bytes:Nat) (ht:P.underlying t=some (.slice e)) (hinfo:(P.info? e).map (λi=>(i.zero,i.size,i.bytes))=some (some z,size,bytes)) (hzs:z.cells.size=size) (hsz:0<size)
  (ao:Option Addr) (n:Nat) (olds:List Value) (hs:a.eval s= .slice ao n n) (hsrc:SrcOf w (.slice ao n n) n size olds)
  (ad:Addr) (m c:Nat) (news:List Value) (hx:a.eval x= .slice (some ad) m c) (hl:news.length=m*size) (hnews:∀j u,news[j]? =some u->w.cell? (ad.add j)=some u) (h1:∀u∈news,u.oneCell'=true) (hm:0<m)
  (h63:n+m<=maxLen) (hbytes:(n+m)*bytes<=140737488355328)
  (h:∀a' cap' w',w'.ownsRow w.heap.size e size (.slice a' (n+m) cap') (n+m) (olds++news)->cap'<=9223372036854775807->n+m<=cap'->Since (λ_=>False) w w'->K (a.put o.dst (.slice a' (n+m) cap')) w'):
  if Region.wanted o (yielded ops a.tmps)=true then Oper.wp P o a w K Q else E:=by
 rw [if_pos hw]
 obtain⟨a',cap',w',hr,h2,h3,h4,h5⟩:=zhj (P:=P) w t o.type e z size bytes ht hinfo hzs hsz ao n olds hsrc ad m c news hl hnews h1 hm h63 hbytes
 unfold Oper.wp execOp
 simp only [ho,resolve,invoke,builtin,Sem.run_bind,Sem.run_pure,Result.andThen_ok,List.map_toArray,List.map_cons,List.map_nil,hs,hx,hr]
 exact h a' cap' w' h2 h3 h4 h5
theorem row_zero {X:World} {B m c:Nat} {e:TypeId} {size:Nat} {a:Option Addr} {xs:List Value} (h:X.ownsRow B e size (.slice a (0+m) c) (0+m) ([] ++xs)):X.ownsRow B e size (.slice a m c) m xs:=by simpa using h
theorem wD {X:World} {B g size n:Nat} {e:TypeId} {cs:List Value} (h:X.heap[g]? =some (.cells cs.toArray e (0,0))) (hB:B<=g) (hl:cs.length=n*size) (hn:n<=maxLen):X.ownsRow B e size (.slice (some ⟨g,0,none⟩) n n) n cs:=
 ⟨hl, .inr ⟨g,n,cs.toArray,rfl,hB,h,Nat.le_refl _,hn,by simp [hl],by rw [List.take_of_length_le (by simp [hl])]⟩⟩
theorem zkB (w:World) (a:Option Addr) (n c:Nat) (hn:n<=c):Calls Tryz.prog 110 #[.slice a n c] w λe w'=>e= .returned (.slice a n n)/\w'=w:=by
 have h1:¬((n:Int)<0):=by omega
 cases a with
 |none=>
  go_enter Tryz.func110,Tryz.ntmps110
  go_wp2_with fail
  go_ret
  exact⟨by first|rfl|simp,rfl⟩
 |some a=>
 obtain⟨ab,ao,asp⟩:=a
 go_enter Tryz.func110,Tryz.ntmps110
 go_wp2_with fail
 go_ret
 exact⟨by first|rfl|simp,rfl⟩
theorem zhk {a b c:World} (h:Below a.heap.size a b) (k:Since (λ_=>False) b c):Below a.heap.size a c:=h.trans (k.below h.size (λ_ hk=>hk.elim))
theorem kV (w:World) (o:Obj):Below w.heap.size w (w.drew.alloc o):=(Below.refl _ _).drew.alloc (Nat.le_refl _) o
theorem zk7 (w:World) (bv:Value) (l:List zk) (h:zU w bv l) (hl:l.length<=1000000) (m:zF) (x:zk):
  Calls Tryz.prog 85 #[bv,yY m,x.val] w λe w'=>(∃uj,e= .returned (.tuple #[uj, .bool (qz l m x)])/\zU w' uj (jr l m x)/\(qz l m x=true->w'.ownsRow w.heap.size 50 2 uj (jr l m x).length (zo zk.cells (jr l m x))))/\Below w.heap.size w w':=by
 obtain⟨ba,bc,rfl, -⟩:=zh.slice h
 obtain⟨n,hn⟩:∃n,n=l.length:=⟨_,rfl⟩
 obtain⟨mm,mb⟩:=m
 obtain⟨xv,xn⟩:=x
 obtain⟨p,hp⟩:∃p:zk->Bool,p=(λy=>decide (mm=1)||decide (y.var=xv)):=⟨_,rfl⟩
 obtain⟨ok,hok⟩:∃ok,ok=qz l ⟨mm,mb⟩ ⟨xv,xn⟩:=⟨_,rfl⟩
 have hok2:ok=((decide (mm=1)||decide (mm=2)) && decide ((l.countP p:Int)<mb)):=by rw [hok,hp];rfl
 have hpb:jr l ⟨mm,mb⟩ ⟨xv,xn⟩=if ok then l++ [⟨xv,xn⟩] else l:=by rw [hok];rfl
 rw [<-hok,hpb]
 rw [<-hn] at h hl ⊢
 have hroom:=h.room
 rw [<-hn] at hroom
 have z1o:=qh hroom
 have jv:=qh hok2
 have HP:=qh hp
 have HN:=qh hn
 clear hok hok2 hpb hp hn hroom
 have hb0:=xC w (.cells #[.int .i64 mm, .int .i64 mb] 26) (.cells #[.int .i64 xv, .int .i64 xn] 50)
 have HB:=qh hb0
 have HM:=qh (xI w (.cells #[.int .i64 mm, .int .i64 mb] 26) (.cells #[.int .i64 xv, .int .i64 xn] 50))
 have HX:=qh (xw w (.cells #[.int .i64 mm, .int .i64 mb] 26) (.cells #[.int .i64 xv, .int .i64 xn] 50))
 have HL:=qh (zU.below h hb0)
 clear h hb0
 unfold yY zk.val
 simp only []
 go_enter Tryz.func85,Tryz.ntmps85
 go_upto_region 1 with fail
 generalize World.alloc (World.alloc w _) _=W at HB HM HX HL ⊢
 obtain⟨gx,hgx⟩:∃gx,gx=w.heap.size:=⟨_,rfl⟩
 rw [<-hgx] at HM HX ⊢
 clear hgx
 have HC:Hid (∀x,Below W.heap.size W x->x.cell? ⟨gx,0,none⟩=some (.int .i64 mm)/\x.cell? ⟨gx,1,none⟩=some (.int .i64 mb)/\x.cell? ⟨gx+1,0,none⟩=some (.int .i64 xv)/\x.cell? ⟨gx+1,1,none⟩=some (.int .i64 xn)):=λx hx=>
  ⟨zi hx _ _ (ze HM.out 0),zi hx _ _ (ze HM.out 1),zi hx _ _ (ze HX.out 0),zi hx _ _ (ze HX.out 1)⟩
 clear HM HX
 go_wp2_with fail
 go_loopg [8,10,13] n (λgg s8 s10 s13 wr=>∃i c:Nat,i<=n/\Hid (gg=n - i)/\s8= .int .i64 c/\s13= .int .i64 i/\Hid (c=(l.take i).countP p)/\c<=i/\Hid (Below W.heap.size W wr))
 case atStart=>exact⟨0,0,Nat.zero_le _,rfl,rfl,rfl,by simp [Hid],Nat.le_refl _,Below.refl _ _⟩
 case round=>
 obtain⟨i,c,hi,HG,rfl,rfl,HCN,hci,zT⟩:=hrel
 by_cases hlt:i<n
 ·have qN:(i:Int)<(n:Int):=by omega
  obtain⟨eb,eo,yh, -,he1,he2⟩:=HL.out.part i (by rw [<-HN.out];exact hlt)
  subst yh
  obtain⟨ev,hev⟩:∃ev,ev=(l.getD i default).var:=⟨_,rfl⟩
  obtain⟨en,hen⟩:∃en,en=(l.getD i default).n:=⟨_,rfl⟩
  rw [<-hev] at he1
  rw [<-hen] at he2
  have e1:=zi zT.out _ _ he1
  have e2:=zi zT.out _ _ he2
  have hst:=zgS (l:=l) (i:=i) (by rw [<-HN.out];exact hlt) p
  rw [<-HCN.out] at hst
  have HST:=qh hst
  have HPI:Hid (p (l.getD i default)=(decide (mm=1)||decide (ev=xv))):=by rw [Hid,HP.out,hev]
  have HA:=qh ((Below.refl wr.heap.size wr).alloc (Nat.le_refl _) (.cells #[.int .i64 ev, .int .i64 en] 50))
  have HY:=qh (yj wr (.cells #[.int .i64 ev, .int .i64 en] 50))
  clear he1 he2 hev hen hst
  go_upto_region 5 with fail
  generalize World.alloc wr _=X at HA HY ⊢
  obtain⟨gl,hgl⟩:∃g,g=wr.heap.size:=⟨_,rfl⟩
  rw [<-hgl] at HY ⊢
  clear hgl e1 e2
  have yX:Hid (Below W.heap.size W X):=zT.out.trans (HA.out.mono zT.out.size)
  have d0:X.cell? ⟨gl,0,none⟩=some (.int .i64 ev):=ze HY.out 0
  obtain⟨c0,c1,c2,c3⟩:=HC.out X yX.out
  clear HY HA
  by_cases a1:mm=1
  ·have a1b:((mm:Int)==1)=true:=by simp [a1]
   have qB:Hid (c+1=(l.take (i+1)).countP p):=by rw [Hid,HST.out,HPI.out,a1];simp
   have A1:=qh a1
   clear a1
   go_wp2_with fail
   go_roundg (n - (i+1))
   case measure=>rw [HG.out];omega
   case rel=>exact⟨i+1,c+1,by omega,rfl,by simp,by simp,qB.out,by omega,yX.out⟩
  have a1b:((mm:Int)==1)=false:=by simp [a1]
  have A1:=qh a1
  clear a1
  by_cases a2:ev=xv
  ·have a2b:((ev:Int)==xv)=true:=by simp [a2]
   have qB:Hid (c+1=(l.take (i+1)).countP p):=by rw [Hid,HST.out,HPI.out,a2];simp
   clear a2
   go_wp2_with fail
   go_roundg (n - (i+1))
   case measure=>rw [HG.out];omega
   case rel=>exact⟨i+1,c+1,by omega,rfl,by simp,by simp,qB.out,by omega,yX.out⟩
  have a2b:((ev:Int)==xv)=false:=by simp [a2]
  have A2:=qh a2
  have qB:Hid (c=(l.take (i+1)).countP p):=by rw [Hid,HST.out,HPI.out];simp [A1.out,A2.out]
  clear a2
  go_wp2_with fail
  go_roundg (n - (i+1))
  case measure=>rw [HG.out];omega
  case rel=>exact⟨i+1,c,by omega,rfl,rfl,by simp,qB.out,by omega,yX.out⟩
 obtain rfl:n=i:=by omega
 obtain⟨c0,c1,c2,c3⟩:=HC.out wr zT.out
 have hcn:c=l.countP p:=by rw [HCN.out,HN.out,List.take_length]
 have xS:=qh hcn
 have jl:=qh (zU.below HL.out zT.out)
 have HWR:=qh (HB.out.trans (zT.out.mono HB.out.size))
 clear hcn HP HCN
 by_cases a2:(c:Int)<mb
 rotate_left
 ·obtain rfl:ok=false:=by
   rw [jv.out, <-xS.out];simp [a2]
  clear jv xS
  go_wp2_with fail
  go_ret2
  exact⟨⟨_,by first|rfl|simp,by simpa using jl.out⟩,HWR.out⟩
 have a2n:¬mb<=(c:Int):=by omega
 by_cases a1:mm=1\/mm=2
 rotate_left
 ·obtain rfl:ok=false:=by
   rw [jv.out]
   have b1:decide (mm=1)=false:=decide_eq_false (λe=>a1 (.inl e))
   have b2:decide (mm=2)=false:=decide_eq_false (λe=>a1 (.inr e))
   rw [b1,b2];rfl
  have b1:((mm:Int)==1)=false:=by rw [beq_eq_false_iff_ne];exact λe=>a1 (.inl e)
  have b2:((mm:Int)==2)=false:=by rw [beq_eq_false_iff_ne];exact λe=>a1 (.inr e)
  have b3:((mm:Int) !=1)=true:=by rw [bne_iff_ne];exact λe=>a1 (.inl e)
  have b4:((mm:Int) !=2)=true:=by rw [bne_iff_ne];exact λe=>a1 (.inr e)
  clear jv xS a1
  go_wp2_with fail
  go_ret2
  exact⟨⟨_,by first|rfl|simp,by simpa using jl.out⟩,HWR.out⟩
 obtain rfl:ok=true:=by rw [jv.out, <-xS.out];rcases a1 with a1|a1<;>simp [a1,a2]
 have zog:Hid (∀X,Below wr.heap.size wr X->SrcOf X (.slice ba n n) n 2 (zo zk.cells l)):=λX hX=>by
  have:=SrcOf.of_slice (R:=pE) (by decide) wF (λ_ _ _ h=>h) (zU.below jl.out hX)
  rw [<-HN.out] at this
  obtain⟨a',c',h1,h2,h3,h4⟩:=this
  cases h1
  exact⟨ba,n,rfl,h2,h3,h4⟩
 have zV:Hid (∀a' cap' X,X.ownsRow (wr.drew.alloc (.cells #[.int .i64 xv, .int .i64 xn] 50)).heap.size 50 2 (.slice a' (n+1) cap') (n+1) (zo zk.cells l++ [.int .i64 xv, .int .i64 xn])->zU X (.slice a' (n+1) cap') (l++ [⟨xv,xn⟩])/\X.ownsRow w.heap.size 50 2 (.slice a' (n+1) cap') (l++ [(⟨xv,xn⟩:zk)]).length (zo zk.cells (l++ [⟨xv,xn⟩]))):=λa' cap' X hX=>by
  have e1:(l++ [(⟨xv,xn⟩:zk)]).length=n+1:=by rw [List.length_append, <-HN.out];rfl
  have e2:zo zk.cells (l++ [⟨xv,xn⟩])=zo zk.cells l++ [.int .i64 xv, .int .i64 xn] :=by rw [kQ];rfl
  have h3:X.ownsRow (wr.drew.alloc (.cells #[.int .i64 xv, .int .i64 xn] 50)).heap.size 50 2 (.slice a' (n+1) cap') (l++ [(⟨xv,xn⟩:zk)]).length (zo zk.cells (l++ [⟨xv,xn⟩])):=by rw [e1,e2];exact hX
  exact⟨kP h3,xu h3 (HWR.out.trans ((kV wr _).mono HWR.out.size)).size⟩
 have k1:=z1o.out.1
 clear jv xS jl HC HL zT HB
 rcases a1 with rfl|rfl
 ·go_upto_region 10 with fail
  go_region_law (first|(refine zb7 _ (by rfl) (.tmp 46) (.tmp 48) 46 rfl 50 (.agg #[.int .i64 0, .int .i64 0]) 2 16 Tryz.underlying46 xD rfl (by decide) ba n (zo zk.cells l) rfl (zog.out _ (kV _ _)) ⟨wr.heap.size,0,none⟩ 1 1 [.int .i64 xv, .int .i64 xn] rfl rfl (zfv wr.drew _ _ _) (by simp [Value.oneCell']) (by decide) (by unfold maxLen;omega) (by omega) ?_;intro ra rc X f1 f2 f3 f4;have HF1:=qh f1;have HF4:=qh f4;clear f1 f2 f3 f4)|(go_simp;go_at_call 110;refine(zkB _ ba n bc k1).mono ?_;rintro e w2 ⟨rfl,rfl⟩))
  all_goals
   have HBF:Hid (Below w.heap.size w X):=HWR.out.trans ((zhk (kV wr _) HF4.out).mono HWR.out.size)
   go_wp2_with fail
   go_ret2
   have HE:=zV.out _ _ _ HF1.out
   exact⟨⟨_,by first|rfl|simp,by simpa using HE.1,by simpa using HE.2⟩,HBF.out⟩
 go_upto_region 10 with fail
 go_region_law (first|(refine zb7 _ (by rfl) (.tmp 46) (.tmp 48) 46 rfl 50 (.agg #[.int .i64 0, .int .i64 0]) 2 16 Tryz.underlying46 xD rfl (by decide) ba n (zo zk.cells l) rfl (zog.out _ (kV _ _)) ⟨wr.heap.size,0,none⟩ 1 1 [.int .i64 xv, .int .i64 xn] rfl rfl (zfv wr.drew _ _ _) (by simp [Value.oneCell']) (by decide) (by unfold maxLen;omega) (by omega) ?_;intro ra rc X f1 f2 f3 f4;have HF1:=qh f1;have HF4:=qh f4;clear f1 f2 f3 f4)|(go_simp;go_at_call 110;refine(zkB _ ba n bc k1).mono ?_;rintro e w2 ⟨rfl,rfl⟩))
 all_goals
  have HBF:Hid (Below w.heap.size w X):=HWR.out.trans ((zhk (kV wr _) HF4.out).mono HWR.out.size)
  go_wp2_with fail
  go_ret2
  have HE:=zV.out _ _ _ HF1.out
  exact⟨⟨_,by first|rfl|simp,by simpa using HE.1,by simpa using HE.2⟩,HBF.out⟩
end Go.Proofs.YtliajkheeniljaaGreatDoor
namespace Go.Proofs.YtliajkheeniljaaGreatDoor
open Go.RowKit Go.Shelf
set_option maxRecDepth 100000
set_option maxHeartbeats 16000000
attribute [local go_sem] Oper.semAt_some
def upTo {α:Type} (f:Nat->α) (k:Nat):List α:=(List.range k).map f
theorem zc5 {α:Type} (f:Nat->α) (k:Nat):upTo f (k+1)=upTo f k++ [f k] :=by simp [upTo,List.range_succ]
theorem zmq {α:Type} (f:Nat->α) (k:Nat):(upTo f k).length=k:=by simp [upTo]
def wI (l:List zk) (k:Nat):Int × zk:=((l.length:Int) - 1 - (k:Int),l.getD (l.length - 1 - k) default)
theorem zsV (n l Bs n0 len cap:Nat) (a:Option Addr) (L:List zk) (hlen:len=L.length) (zqf:len<=1000000) (hn:1<=n) (J Jx:List (Int × zk)->World->Prop)
  (hY:∀pre x W,J pre W->pre.length<len->YieldAt Fence.wide (n - 1) Tryz.prog l #[.int .i64 x.1, .agg #[.int .i64 x.2.var, .int .i64 x.2.n]] W λe W'=>
   (e= .returned (.bool true)/\J (pre++ [x]) W'/\Below n0 W W')\/(e= .returned (.bool false)/\Jx (pre++ [x]) W'))
  (W:World) (hBs:W.cell? ⟨Bs,0,none⟩=some (.slice a len cap)) (hBl:Bs<n0) (hc:∀j,j<len->∃b off,a=some ⟨b,off,none⟩/\b<n0/\W.cell? ⟨b,off+j*2,none⟩=some (.int .i64 (L.getD j default).var)/\W.cell? ⟨b,off+j*2+1,none⟩=some (.int .i64 (L.getD j default).n)) (h0:J [] W):
  CallsIn Fence.wide n Tryz.prog 188 #[.func (.yield l) #[] #[], .pointer (some ⟨Bs,0,none⟩)] W λe W'=>(∃v,e= .returned v)/\
   ((∃ys,ys=upTo (wI L) len/\J ys W')\/(∃pre,(∃k,k<=len/\pre=upTo (wI L) k)/\Jx pre W')):=by
 refine callsIn_of_wp Tryz.func188 rfl trivial ?_ rfl
 simp only [Tryz.ntmps188,List.size_toArray,List.length_cons,List.length_nil,Nat.reduceAdd,Nat.reduceSub,Array.replicate_succ,Array.replicate_zero,List.push_toArray,List.append_toArray,List.nil_append,List.cons_append]
 have HLE:=qh hlen
 clear hlen
 gi_wp2
 gi_loopw [3] (λi wr=>∃k:Nat,k<=len/\i= .int .i64 ((len:Int) - 1 - k)/\J (upTo (wI L) k) wr/\Below n0 W wr)
  (λi _=>(intOf i+1).toNat)
 case atStart=>exact⟨0,Nat.zero_le _,by simp,h0,Below.refl _ _⟩
 case round=>
 obtain⟨k,hk,rfl,hJs,hnx⟩:=hrel
 by_cases hlt:k<len
 rotate_left
 ·obtain rfl:len=k:=by omega
  have hz:(len:Int) - 1 - (len:Int)= -1:=by omega
  rw [hz]
  clear hz
  gi_wp2
  go_end0
  exact⟨⟨_,rfl⟩, .inl ⟨_,rfl,hJs⟩⟩
 obtain⟨q,hq⟩:∃q:Nat,q=len - 1 - k:=⟨_,rfl⟩
 have hqi:(len:Int) - 1 - (k:Int)=(q:Int):=by omega
 have hql:q<len:=by omega
 obtain⟨b,off,rfl,hb,f0,f1⟩:=hc q hql
 have e0:=(hnx.cell (p:=⟨b,off+q*2,none⟩) hb).trans f0
 have e1:=(hnx.cell (p:=⟨b,off+q*2+1,none⟩) hb).trans f1
 clear f0 f1
 have eb:=(hnx.cell (p:=⟨Bs,0,none⟩) hBl).trans hBs
 obtain⟨fn,tmps,assign,body,hy,hR⟩:=hY _ (wI L k) wr hJs (by rw [zmq];exact hlt)
 have hbk:wI L k=((q:Int),L.getD q default):=by unfold wI;rw [<-HLE.out,hqi, <-hq]
 rw [hbk] at hy
 dsimp only at hy
 obtain⟨ev,hev⟩:∃ev,ev=(L.getD q default).var:=⟨_,rfl⟩
 obtain⟨en,hen⟩:∃en,en=(L.getD q default).n:=⟨_,rfl⟩
 rw [<-hev] at e0 hy
 rw [<-hen] at e1 hy
 clear hev hen
 rw [hqi]
 have hlI:(q:Int)<(len:Int):=by omega
 have HW1:=qh (show wrap64 ((q:Int) - 1)=(q:Int) - 1 by unfold wrap64;omega)
 have HQI:=qh hqi
 clear hq hqi hbk
 gi_wp2
 refine hR.mono ?_
 rintro e W3 (⟨rfl,hJ3,hk3⟩|⟨rfl,hJx3⟩)
 ·gi_wp2
  go_roundw
  case rel=>exact⟨k+1,by omega,by have:=HQI.out;have:=HW1.out;simp<;>omega,by rw [zc5];exact hJ3,hnx.trans hk3⟩
  case measure=>have:=HQI.out;have:=HW1.out;simp [intOf] <;>omega
 gi_wp2
 refine bodyPost_ret (results_none rfl _ _ _) rfl ?_
 exact⟨⟨_,rfl⟩, .inr ⟨_,⟨k+1,by omega,(zc5 _ _).symm⟩,hJx3⟩⟩
theorem zoh (n Bs n0:Nat) (a:Option Addr) (cap:Nat) (L:List zk) (zqf:L.length<=1000000) (hn:1<=n) (w:World) (hBs:Bs<w.heap.size) (hBl:Bs<n0) (hn0:n0<=w.heap.size) (hc:w.cell? ⟨Bs,0,none⟩=some (.slice a L.length cap))
  (hI:∀j,j<L.length->∃b off,a=some ⟨b,off,none⟩/\b<n0/\w.cell? ⟨b,off+j*2,none⟩=some (.int .i64 (L.getD j default).var)/\w.cell? ⟨b,off+j*2+1,none⟩=some (.int .i64 (L.getD j default).n)):
  SeqStopsK Fence.wide n Tryz.prog 188 #[.pointer (some ⟨Bs,0,none⟩)] (λx:Int × zk=> #[Value.int .i64 x.1,Value.agg #[Value.int .i64 x.2.var,Value.int .i64 x.2.n]]) (Below n0) (λys=>ys=upTo (wI L) L.length)
   (λpre=>∃k,k<=L.length/\pre=upTo (wI L) k) L.length w:=λl J Jx W hW _ _ hY h0=>
 zsV n l Bs n0 L.length cap a L rfl zqf hn J Jx hY W ((hW.cell (p:=⟨Bs,0,none⟩) hBs).trans hc) hBl (λj hj=>by
  obtain⟨b,off,e,hb,f0,f1⟩:=hI j hj
  exact⟨b,off,e,hb,(hW.cell (p:=⟨b,off+j*2,none⟩) (Nat.lt_of_lt_of_le hb hn0)).trans f0,(hW.cell (p:=⟨b,off+j*2+1,none⟩) (Nat.lt_of_lt_of_le hb hn0)).trans f1⟩) h0
theorem zwG (n:Nat) (a:Option Addr) (len cap:Nat) (w:World):
  CallsIn Fence.wide n Tryz.prog 182 #[.slice a len cap] w λe w'=>e= .returned (.func (.func 188) #[] #[.pointer (some ⟨w.heap.size,0,none⟩)])/\w'=w.alloc (.cells #[.slice a len cap] 46):=by
 refine callsIn_of_wp Tryz.func182 rfl trivial ?_ rfl
 simp only [Tryz.ntmps182,List.size_toArray,List.length_cons,List.length_nil,Nat.reduceAdd,Nat.reduceSub,Array.replicate_succ,Array.replicate_zero,List.push_toArray,List.append_toArray,List.nil_append,List.cons_append]
 gi_wp2
 go_ret
 exact⟨rfl,rfl⟩
theorem zkC (l:List zk) (v:Int):∀k,k<=l.length->(∀p∈upTo (wI l) k,p.2.var≠v)->wT l v=bL l v (l.length - k):=by
 intro k
 induction k with
 |zero=>intro _ _;rfl
 |succ k ih=>
 intro hk h
 rw [zc5] at h
 rw [ih (by omega) (λp hp=>h p (List.mem_append.2 (.inl hp)))]
 have hne:=h (wI l k) (List.mem_append.2 (.inr (by simp)))
 obtain⟨q,hq⟩:∃q,l.length - k=q+1:=⟨l.length - k - 1,by omega⟩
 have hq2:l.length - (k+1)=q:=by omega
 have hq3:l.length - 1 - k=q:=by omega
 rw [hq,hq2]
 unfold wI at hne
 rw [hq3] at hne
 rw [show bL l v (q+1)=if (l.getD q default).var=v then some (l.getD q default).n else bL l v q from rfl,if_neg hne]
theorem zsW (l:List zk) (v:Int) (k:Nat) (hk:k<l.length) (h:∀p∈upTo (wI l) k,p.2.var≠v) (hv:(wI l k).2.var=v):wT l v=some (wI l k).2.n:=by
 rw [zkC l v k (by omega) h]
 obtain⟨q,hq⟩:∃q,l.length - k=q+1:=⟨l.length - k - 1,by omega⟩
 have hq3:l.length - 1 - k=q:=by omega
 rw [hq]
 unfold wI at hv ⊢
 rw [hq3] at hv ⊢
 rw [show bL l v (q+1)=if (l.getD q default).var=v then some (l.getD q default).n else bL l v q from rfl,if_pos hv]
theorem zqg (w:World) (bv:Value) (l:List zk) (h:zU w bv l) (hl:l.length<=1000000) (v:Int):
  Calls Tryz.prog 166 #[bv, .int .i64 v] w λe w'=>e= .returned (.tuple #[.int .i64 ((wT l v).getD 0), .bool (wT l v).isSome])/\Below w.heap.size w w':=by
 obtain⟨ba,bc,rfl, -⟩:=zh.slice h
 have hI:∀j,j<l.length->∃b off,ba=some ⟨b,off,none⟩/\b<w.heap.size/\w.cell? ⟨b,off+j*2,none⟩=some (.int .i64 (l.getD j default).var)/\w.cell? ⟨b,off+j*2+1,none⟩=some (.int .i64 (l.getD j default).n):=λj hj=>h.part j hj
 refine(callsIn_wide (n:=8)).1 ?_
 refine callsIn_of_wp_marks Tryz.func166 rfl trivial ?_ rfl
 simp only [Tryz.ntmps166,List.size_toArray,List.length_cons,List.length_nil,Nat.reduceAdd,Nat.reduceSub,Array.replicate_succ,Array.replicate_zero,List.push_toArray,List.append_toArray,List.nil_append,List.cons_append]
 have hB:=zcb w (.cells #[.int .i64 v] 3) (.cells #[.int .i64 0] 3) (.cells #[.bool false] 4) (.cells #[.slice ba l.length bc] 46)
 obtain⟨hB0,b0,b1,b2,b3,hsz⟩:=hB
 gi_wp2_with (refine⟨trivial, ?_⟩;gi_at_call 182;refine(zwG (8 - 1) _ _ _ _).mono ?_;rintro e w' ⟨rfl,rfl⟩)
 obtain⟨W0,hW0⟩:∃W0,(((w.alloc (.cells #[.int .i64 v] 3)).alloc (.cells #[.int .i64 0] 3)).alloc (.cells #[.bool false] 4)).alloc (.cells #[.slice ba l.length bc] 46)=W0:=⟨_,rfl⟩
 rw [hW0] at hB0 b0 b1 b2 b3 hsz ⊢
 clear hW0
 refine wpIn_rangeFunc_ownH rfl (by decide) (gf:=188) (lb:= #[.pointer (some ⟨w.heap.size+1+1+1,0,none⟩)]) rfl trivial (enters_of Tryz.func188 (by kernel_rfl) rfl)
  (zoh (8 - 1) (w.heap.size+3) (w.heap.size+4) ba bc l hl (by decide) W0 (by omega) (by omega) (by omega) (ze b3 0) (λj hj=>by
   obtain⟨b,off,e,hb,f0,f1⟩:=hI j hj
   exact⟨b,off,e,by omega,zi hB0 _ _ f0,zi hB0 _ _ f1⟩)) belowK_t (belowK_b (by omega)) (Below.refl _ _) (λ_=>rfl)
  (λpre W=>((∀p∈pre,p.2.var≠v)/\Boxed W w.heap.size 3 (.int .i64 v)/\Boxed W (w.heap.size+1) 3 (.int .i64 0)/\Boxed W (w.heap.size+2) 4 (.bool false))/\Below (w.heap.size+4) W0 W)
  (λc pre W=>(c= .ret/\∃ini last,pre=ini++ [last] /\(∀p∈ini,p.2.var≠v)/\last.2.var=v/\Boxed W (w.heap.size+1) 3 (.int .i64 last.2.n)/\Boxed W (w.heap.size+2) 4 (.bool true))/\Below w.heap.size w W)
  (OwnFrom.and (λs X Y row hs hg hr=>⟨hs.1,boxed_own _ _ (λ(_:Unit)=>Value.int .i64 v) () X Y row hs.2.1 hg (λr e=>(hr r e).2),boxed_own _ _ (λ(_:Unit)=>Value.int .i64 0) () X Y row hs.2.2.1 hg (λr e=>(hr r e).2),boxed_own _ _ (λ(_:Unit)=>Value.bool false) () X Y row hs.2.2.2 hg (λr e=>(hr r e).2)⟩) (ownFrom_below (by omega) (by omega)))
  (λc=>OwnFrom.and (λs X Y row hs hg hr=>by
   obtain⟨hc,ini,last,e1,e2,e3,e4,e5⟩:=hs
   exact⟨hc,ini,last,e1,e2,e3,boxed_own _ _ (λ(_:Unit)=>Value.int .i64 last.2.n) () X Y row e4 hg (λr e=>(hr r e).2),boxed_own _ _ (λ(_:Unit)=>Value.bool true) () X Y row e5 hg (λr e=>(hr r e).2)⟩) (ownFrom_below (Nat.le_refl _) (by omega)))
  ⟨⟨by simp,b0,b1,b2⟩,(Below.refl _ _)⟩
  (λx a' W=>∃Bx,w.heap.size+3<Bx/\W.heap[Bx]? =some (.cells #[.int .i64 x.2.var, .int .i64 x.2.n] 50 (0,0))/\a'= { tmps:= #[.slice ba l.length bc, .int .i64 v,undef, .pointer (some ⟨w.heap.size,0,none⟩), .pointer (some ⟨w.heap.size+1,0,none⟩), .pointer (some ⟨w.heap.size+1+1,0,none⟩),undef, .pointer (some ⟨Bx,0,none⟩), .slice ba l.length bc, .func (.func 188) #[] #[.pointer (some ⟨w.heap.size+1+1+1,0,none⟩)], .int .i64 x.1, .agg #[.int .i64 x.2.var, .int .i64 x.2.n],undef,undef,undef,undef,undef,undef],defers:= [] })
  (λx a' _ X Y row hs hg hr=>by
   obtain⟨Bx,h1,h2,h3⟩:=hs
   refine⟨Bx,h1, ?_,h3⟩
   refine(hg.block Bx (zx h2) (λe=> ?_)).trans h2
   obtain⟨o,ho,hc⟩:=(hr Bx e.symm).2
   rw [h2] at ho;cases ho;cases hc)
  ?assign ?body ?done ?stop
 case assign=>
  rintro l2 pre x W K ⟨⟨hp,x1,x2,x3⟩,hB1⟩ hK
  gi_wp2
  exact hK _ _ ((KeepsOthers.alloc _ _).from _) ((Below.refl _ W).alloc (by have:=hB1.size;omega) _) ⟨⟨hp,x1.alloc _,x2.alloc _,x3.alloc _⟩,hB1.alloc (by have:=hB1.size;omega) _⟩ ⟨W.heap.size,by have:=x3.lt;have:=hB1.size;omega,yj W _,rfl⟩
 case body=>
  rintro l2 pre x a' W hl2 - ⟨⟨hp,x1,x2,x3⟩,hB1⟩ ⟨Bx,hBx,bX,rfl⟩ hlt
  have d0:W.cell? ⟨Bx,0,none⟩=some (.int .i64 x.2.var):=ze bX 0
  have d1:W.cell? ⟨Bx,1,none⟩=some (.int .i64 x.2.n):=ze bX 1
  have c1:=x1.cell
  have c2:=x2.cell
  have c3:=x3.cell
  have f2:=x2.frozen
  have f3:=x3.frozen
  gi_wp2
  ·have hx:(x.2.var==v)=true:=by assumption
   have hx2:x.2.var=v:=by simpa using hx
   refine⟨((KeepsOthers.setCell _ _ _).trans (KeepsOthers.setCell _ _ _)).from _,⟨rfl,pre,x,rfl,hp,hx2,(x2.set _).other (by omega) _,(x3.other (by omega) _).set _⟩, ?_⟩
   exact((hB0.trans (hB1.mono (by omega))).setCell (p:=⟨w.heap.size+1,0,none⟩) (by simp) _).setCell (p:=⟨w.heap.size+2,0,none⟩) (by simp) _
  have hx:(x.2.var==v)=false:=by assumption
  have hx2:x.2.var≠v:=by simpa using hx
  exact⟨KeepsFrom.refl _ _,Below.refl _ _,⟨λp hp'=>(List.mem_append.1 hp').elim (hp p) (λe=>by simp at e;subst e;exact hx2),x1,x2,x3⟩,hB1⟩
 case done=>
  rintro D ys W hD rfl ⟨⟨hp,x1,x2,x3⟩,hB1⟩ hK
  have c2:=x2.cell
  have c3:=x3.cell
  have f2:=x2.frozen
  have f3:=x3.frozen
  have hn:wT l v=none:=by rw [zkC l v l.length (Nat.le_refl _) hp,Nat.sub_self];rfl
  have HN:=qh hn
  clear hn
  gi_wp2
  have y2:=(x2.set (.int .i64 0)).other (B':=w.heap.size+2) (by omega) (.bool false)
  have y3:=(x3.other (B':=w.heap.size+1) (by omega) (.int .i64 0)).set (.bool false)
  have hK':=((KeepsOthers.setCell W ⟨w.heap.size+1,0,none⟩ (.int .i64 0)).trans (KeepsOthers.setCell _ ⟨w.heap.size+2,0,none⟩ (.bool false))).same D _ hK rfl
  refine⟨by simp, .inl ⟨_,_,rfl,run_takeDeferred hK', ?_⟩⟩
  have hc4:=cell_kept y2.cell (grownBy_putObj' _ D (.deferred none)) (λr e=>by cases e;exact⟨_,hK',rfl⟩)
  have hc5:=cell_kept y3.cell (grownBy_putObj' _ D (.deferred none)) (λr e=>by cases e;exact⟨_,hK',rfl⟩)
  refine⟨.tuple #[.int .i64 0, .bool false], ?_,by rw [HN.out];rfl,(((hB0.trans (hB1.mono (by omega))).setCell (p:=⟨w.heap.size+1,0,none⟩) (by simp) _).setCell (p:=⟨w.heap.size+2,0,none⟩) (by simp) _).trans (belowK_b (w:=w) (Nat.le_refl _) _ D _ _ (by omega) hK' rfl rfl)⟩
  simp [results,Tryz.f166,go_sem,hc4,hc5]
 case stop=>
 rintro D c pre W hD ⟨k,hk,rfl⟩ ⟨⟨rfl,ini,last,e1,e2,e3,x2,x3⟩,hB1⟩ hK
 gi_wp2
 refine⟨by simp, .inl ⟨_,_,rfl,run_takeDeferred hK, ?_⟩⟩
 have hc4:=cell_kept x2.cell (grownBy_putObj' _ D (.deferred none)) (λr e=>by cases e;exact⟨_,hK,rfl⟩)
 have hc5:=cell_kept x3.cell (grownBy_putObj' _ D (.deferred none)) (λr e=>by cases e;exact⟨_,hK,rfl⟩)
 obtain⟨k',rfl⟩:∃k',k=k'+1:=by
  cases k with
  |zero=>simp [upTo] at e1
  |succ k'=>exact⟨k',rfl⟩
 rw [zc5] at e1
 obtain⟨rfl,e5⟩:=List.append_inj' e1 rfl
 obtain rfl:wI l k'=last:=by simpa using e5
 have hn:=zsW l v k' (by omega) e2 e3
 refine⟨.tuple #[.int .i64 (wI l k').2.n, .bool true], ?_,by rw [hn];rfl,hB1.trans (belowK_b (w:=w) (Nat.le_refl _) W D _ _ (by omega) hK rfl rfl)⟩
 simp [results,Tryz.f166,go_sem,hc4,hc5]
