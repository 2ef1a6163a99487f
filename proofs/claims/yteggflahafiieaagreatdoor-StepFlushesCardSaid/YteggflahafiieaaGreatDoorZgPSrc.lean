/- Steps. -/
import Derived.Deep.RegionLaw
import Derived.Test.YteggflahafiieaaGreatDoorZgPart
set_option linter.all false
namespace Go.Proofs.YteggflahafiieaaGreatDoor
open Go.RowKit
set_option maxRecDepth 100000
set_option maxHeartbeats 16000000
def SrcOf (w:World) (sv:Value) (n size:Nat) (xs:List Value):Prop:=∃a cap,sv= .slice a n cap/\xs.length=n*size/\(a=none->n=0)/\∀A,a=some A->∀j u,xs[j]? =some u->w.cell? (A.add j)=some u
theorem SrcOf.below {w w':World} {sv:Value} {n size:Nat} {xs:List Value} (h:SrcOf w sv n size xs) (hb:Below w.heap.size w w'):SrcOf w' sv n size xs:=by
 obtain⟨a,cap,h1,h2,h3,h4⟩:=h
 exact⟨a,cap,h1,h2,h3,λA hA j u hj=>zh hb _ _ (h4 A hA j u hj)⟩
theorem SrcOf.of_slice {α:Type} [Inhabited α] {R:World->α->List Value->Prop} {size:Nat} {f:α->List Value} (hs:0<size) (hf:∀x,(f x).length=size) (hR:∀w x cs,R w x cs->cs=f x) {w:World} {sv:Value} {l:List α} (h:ze R size w sv l):SrcOf w sv l.length size (zl f l):=by
 obtain⟨a,cap,rfl, -⟩:=ze.slice h
 refine⟨a,cap,rfl,jA hf l,λe=> ?_,λA hA j u hj=> ?_⟩
 ·subst e
  rcases Nat.eq_zero_or_pos l.length with e0|e0
  ·exact e0
  obtain⟨b,off,cs,h5, -⟩:=ze.part h 0 e0;cases h5
 subst hA
 have hl:0<l.length:=by
  rcases Nat.eq_zero_or_pos l.length with e0|e0
  ·rw [List.getElem?_eq_none (by rw [jA hf,e0];omega)] at hj;cases hj
  exact e0
 obtain⟨b,off,cs,h5, -⟩:=ze.part h 0 hl
 cases h5
 exact ze.news hs hf hR h j u hj
theorem zv8 {n:Nat} {P:Nat->Value->Prop} (h:∀j,j<n->∃v,P j v):∃l:List Value,l.length=n/\∀j,j<n->P j (l.getD j (.slice none 0 0)):=by
 induction n with
 |zero=>exact⟨[],rfl,λj hj=>by omega⟩
 |succ n ih=>
 obtain⟨l,h1,h2⟩:=ih λj hj=>h j (by omega)
 obtain⟨v,hv⟩:=h n (by omega)
 refine⟨l++ [v],by simp [h1],λj hj=> ?_⟩
 rw [kX (by omega)]
 by_cases e:j=n
 ·subst e;rw [if_pos h1.symm];exact hv
 rw [if_neg (by omega)];exact h2 j (by omega)
theorem SrcOf.threads {w:World} {sv:Value} {l:List zo} (h:qj w sv l):∃bs:List Value,bs.length=l.length/\SrcOf w sv l.length 6 (zU l bs)/\(∀j,j<l.length->(l.getD j default).regs.length=4/\zW w (bs.getD j (.slice none 0 0)) (l.getD j default).buf)/\∀u∈zU l bs,u.oneCell'=true:=by
 obtain⟨a,cap,rfl, -⟩:=ze.slice h
 obtain⟨bs,hb,hP⟩:=zv8 (n:=l.length) (P:=λj v=>(l.getD j default).regs.length=4/\zW w v (l.getD j default).buf/\∃b off,a=some ⟨b,off,none⟩/\∀i,i<6->w.cell? ⟨b,off+j*6+i,none⟩=((l.getD j default).cells v)[i]?) λj hj=>by
  obtain⟨b,off,cs,h1, -,h3,h4,h5,bv,h6,h7⟩:=ze.part h j hj
  subst h6
  exact⟨bv,h5,h7,b,off,h1,h4⟩
 refine⟨bs,hb,⟨a,cap,rfl,kR l bs,λe=> ?_,λA hA j u hj=> ?_⟩,λj hj=>⟨(hP j hj).1,(hP j hj).2.1⟩,λu hu=> ?_⟩
 ·subst e
  rcases Nat.eq_zero_or_pos l.length with e0|e0
  ·exact e0
  obtain⟨-, -,b,off,h5, -⟩:=hP 0 e0;cases h5
 ·subst hA
  have hlt:j<l.length*6:=by
   rcases Nat.lt_or_ge j (l.length*6) with e|e
   ·exact e
   rw [List.getElem?_eq_none (by rw [kR];exact e)] at hj;cases hj
  obtain⟨q,r,hq,hr,rfl⟩:∃q r,q<l.length/\r<6/\j=q*6+r:=⟨j / 6,j % 6,by omega,by omega,by omega⟩
  rw [qV hq hr] at hj
  obtain⟨-, -,b,off,h5,h6⟩:=hP q hq
  cases h5
  rw [show(⟨b,off,none⟩:Addr).add (q*6+r)=⟨b,off+q*6+r,none⟩ by
   simp only [Addr.add]
   split
   ·rename_i h;rw [show off+q*6+r=off by omega]
   rw [Nat.add_assoc],h6 r hr]
  exact hj
 obtain⟨j,hj,rfl⟩:=List.getElem_of_mem hu
 rw [kR] at hj
 obtain⟨q,r,hq,hr,rfl⟩:∃q r,q<l.length/\r<6/\j=q*6+r:=⟨j / 6,j % 6,by omega,by omega,by omega⟩
 have e:=qV (bs:=bs) hq hr
 rw [List.getElem?_eq_getElem (by rw [kR];omega)] at e
 have hm:=List.mem_of_getElem? e.symm
 refine zqX ?_ _ hm
 obtain⟨a',cap',e', -⟩:=ze.slice (hP q hq).2.1
 rw [e'];rfl
theorem zjg {w:World} {B:Nat} {sv:Value} {l:List zo} {bs:List Value} (h:w.ownsRow B 47 6 sv l.length (zU l bs)) (hb:∀j,j<l.length->(l.getD j default).regs.length=4/\zW w (bs.getD j (.slice none 0 0)) (l.getD j default).buf):qj w sv l:=
 ze.zaQ h λj hj=>⟨(l.getD j default).cells (bs.getD j (.slice none 0 0)),j6 _ _,λ_ hi=>qV hj hi,(hb j hj).1,_,rfl,(hb j hj).2⟩
theorem gJ {P:Program} (w:World) {ops:Array Oper} {rest:List Oper} {o:Oper} {a:Act} {Q:Exit->Act->World->Prop} (hgd:o.guard=none) (s x:Operand) (t:TypeId)
  (ho:o.op= .call { callee:= .builtin .append,args:= #[s,x],argTypes:= #[t,t] })
  (e:TypeId) (z:Value) (size bytes:Nat) (ht:P.underlying t=some (.slice e)) (hinfo:(P.info? e).map (λi=>(i.zero,i.size,i.bytes))=some (some z,size,bytes)) (hzs:z.cells.size=size) (hsz:0<size)
  (base:Nat) (v:Value) (n:Nat) (xs:List Value) (hs:a.eval s=v) (hown:w.ownsRow base e size v n xs)
  (sv:Value) (m:Nat) (news:List Value) (hx:a.eval x=sv) (hsrc:SrcOf w sv m size news) (h1:∀u∈news,u.oneCell'=true)
  (h63:n+m<=maxLen) (hbytes:(n+m)*bytes<=140737488355328) (hbase:base<=w.heap.size)
  (h:∀a' cap' w',w'.ownsRow base e size (.slice a' (n+m) cap') (n+m) (xs++news)->cap'<=9223372036854775807->n+m<=cap'->Since (λk=>v.ownBlock=some k) w w'->
   (∀k,(Value.slice a' (n+m) cap').ownBlock=some k->v.ownBlock=some k\/k=w.heap.size)->wpList P ops Q rest (a.put o.dst (.slice a' (n+m) cap')) w'):wpList P ops Q (o::rest) a w:=by
 obtain⟨ad,c,rfl,hl,hnone,hnews⟩:=hsrc
 cases ad with
 |some A=>
  obtain⟨i,hi,hz,hsize,hby⟩:=info_parts hinfo
  obtain⟨v',w',hr,h2,h3,h4⟩:=run_append_own (P:=P) w base t o.type e i z size bytes ht hi hz hsize hby hzs hsz v n xs hown A m c news hl (hnews A rfl) h1 h63 hbytes hbase
  have hw:=zaS ht hi hz hsize hby hown hl (hnews A rfl) h1 h63 hbytes hr
  obtain⟨a',cap',rfl,hc1,hc2⟩:=qO h2
  refine wpList_plain hgd λ_ hK=> ?_
  unfold Oper.wp execOp
  simp only [ho,resolve,invoke,builtin,Sem.run_bind,Sem.run_pure,Result.andThen_ok,List.map_toArray,List.map_cons,List.map_nil,hs,hx,hr]
  refine hK _ _ (h a' cap' w' h2 (by unfold maxLen at hc2;omega) hc1 ((Since.refl _ _).grown h3 (λk hk=> .inl hk)) (λk hk=> ?_))
  rw [hk] at hw
  rcases hw with hw|hw
  ·exact .inl hw.symm
  exact .inr (by simpa using hw)
 |none=>
 have hm:=hnone rfl
 subst hm
 have hn:news= [] :=List.eq_nil_of_length_eq_zero (by simpa using hl)
 subst hn
 obtain⟨i,hi,hz,hsize,hby⟩:=info_parts hinfo
 obtain⟨va,cap,rfl,hc1,hc2⟩:=qO hown
 have hr:(Builtin.append_ #[t,t] o.type #[.slice va n cap, .slice none 0 c]).run P w= .ok (.slice va n cap) w:=by
  cases va<;>simp [Builtin.append_,run_underlying ht,sizeOf,typeInfo,hi,Builtin.lenOf,Builtin.firstCells,hc1,storeCells]
 refine wpList_plain hgd λ_ hK=> ?_
 unfold Oper.wp execOp
 simp only [ho,resolve,invoke,builtin,Sem.run_bind,Sem.run_pure,Result.andThen_ok,List.map_toArray,List.map_cons,List.map_nil,hs,hx,hr]
 exact hK _ _ (h va cap w (by rw [List.append_nil];exact hown) (by unfold maxLen at hc2;omega) hc1 (Since.refl _ _) (λk hk=> .inl hk))
theorem zgM {P:Program} (w:World) (t ty:TypeId) (e:TypeId) (z:Value) (size bytes:Nat) (ht:P.underlying t=some (.slice e)) (hinfo:(P.info? e).map (λi=>(i.zero,i.size,i.bytes))=some (some z,size,bytes)) (hzs:z.cells.size=size) (hsz:0<size)
  (ao:Option Addr) (n:Nat) (olds:List Value) (hsrc:SrcOf w (.slice ao n n) n size olds)
  (ad:Addr) (m c:Nat) (news:List Value) (hl:news.length=m*size) (hnews:∀j u,news[j]? =some u->w.cell? (ad.add j)=some u) (h1:∀u∈news,u.oneCell'=true) (hm:0<m)
  (h63:n+m<=maxLen) (hbytes:(n+m)*bytes<=140737488355328):
  ∃a' cap' w',(Builtin.append_ #[t,t] ty #[.slice ao n n, .slice (some ad) m c]).run P w= .ok (.slice a' (n+m) cap') w'/\w'.ownsRow w.heap.size e size (.slice a' (n+m) cap') (n+m) (olds++news)/\cap'<=9223372036854775807/\n+m<=cap'/\Since (λ_=>False) w w':=by
 obtain⟨i,hi,hz,hsize,hby⟩:=info_parts hinfo
 obtain⟨ao',cap0,he,hol,hnone,holds⟩:=hsrc
 cases he
 have key:∃v' w',(Builtin.append_ #[t,t] ty #[.slice ao n n, .slice (some ad) m c]).run P w= .ok v' w'/\w'.ownsRow w.heap.size e size v' (n+m) (olds++news)/\w.grownBy w' none:=by
  cases ao with
  |some b=>exact run_append_arg_grows (P:=P) w t ty e i z size bytes ht hi hz hsize hby hzs hsz b n n olds hol (holds b rfl) ad m c news hl hnews (by omega) h63 hbytes
  |none=>
  obtain rfl:=hnone rfl
  obtain rfl:olds= [] :=List.eq_nil_of_length_eq_zero (by simpa using hol)
  obtain⟨v',w',hrun,r1,r2, -⟩:=run_append_own (P:=P) w w.heap.size t ty e i z size bytes ht hi hz hsize hby hzs hsz (.slice none 0 0) 0 [] (World.ownsRow_nil w _ e size) ad m c news hl hnews h1 h63 hbytes (Nat.le_refl _)
  exact⟨v',w',hrun,r1,r2⟩
 obtain⟨v',w',hr,h2,h3⟩:=key
 obtain⟨a',cap',rfl,hc1,hc2⟩:=qO h2
 exact⟨a',cap',w',hr,h2,by unfold maxLen at hc2;omega,hc1,(Since.refl _ _).grown h3 (λk hk=>by cases hk)⟩
theorem za3 {P:Program} (w:World) {ops:Array Oper} {o:Oper} {a:Act} {K:Act->World->Prop} {Q:Exit->Act->World->Prop} {E:Prop} (hw:Region.wanted o (yielded ops a.tmps)=true) (s x:Operand) (t:TypeId)
  (ho:o.op= .call { callee:= .builtin .append,args:= #[s,x],argTypes:= #[t,t] })
  (e:TypeId) (z:Value) (size bytes:Nat) (ht:P.underlying t=some (.slice e)) (hinfo:(P.info? e).map (λi=>(i.zero,i.size,i.bytes))=some (some z,size,bytes)) (hzs:z.cells.size=size) (hsz:0<size)
  (ao:Option Addr) (n:Nat) (olds:List Value) (hs:a.eval s= .slice ao n n) (hsrc:SrcOf w (.slice ao n n) n size olds)
  (ad:Addr) (m c:Nat) (news:List Value) (hx:a.eval x= .slice (some ad) m c) (hl:news.length=m*size) (hnews:∀j u,news[j]? =some u->w.cell? (ad.add j)=some u) (h1:∀u∈news,u.oneCell'=true) (hm:0<m)
  (h63:n+m<=maxLen) (hbytes:(n+m)*bytes<=140737488355328)
  (h:∀a' cap' w',w'.ownsRow w.heap.size e size (.slice a' (n+m) cap') (n+m) (olds++news)->cap'<=9223372036854775807->n+m<=cap'->Since (λ_=>False) w w'->K (a.put o.dst (.slice a' (n+m) cap')) w'):
  if Region.wanted o (yielded ops a.tmps)=true then Oper.wp P o a w K Q else E:=by
 rw [if_pos hw]
 obtain⟨a',cap',w',hr,h2,h3,h4,h5⟩:=zgM (P:=P) w t o.type e z size bytes ht hinfo hzs hsz ao n olds hsrc ad m c news hl hnews h1 hm h63 hbytes
 unfold Oper.wp execOp
 simp only [ho,resolve,invoke,builtin,Sem.run_bind,Sem.run_pure,Result.andThen_ok,List.map_toArray,List.map_cons,List.map_nil,hs,hx,hr]
 exact h a' cap' w' h2 h3 h4 h5
theorem row_zero {X:World} {B m c:Nat} {e:TypeId} {size:Nat} {a:Option Addr} {xs:List Value} (h:X.ownsRow B e size (.slice a (0+m) c) (0+m) ([] ++xs)):X.ownsRow B e size (.slice a m c) m xs:=by simpa using h
theorem jT {X:World} {B g size n:Nat} {e:TypeId} {cs:List Value} (h:X.heap[g]? =some (.cells cs.toArray e (0,0))) (hB:B<=g) (hl:cs.length=n*size) (hn:n<=maxLen):X.ownsRow B e size (.slice (some ⟨g,0,none⟩) n n) n cs:=
 ⟨hl, .inr ⟨g,n,cs.toArray,rfl,hB,h,Nat.le_refl _,hn,by simp [hl],by rw [List.take_of_length_le (by simp [hl])]⟩⟩
theorem zop (w:World) (a:Option Addr) (n c:Nat) (hn:n<=c):Calls Tryz.prog 120 #[.slice a n c] w λe w'=>e= .returned (.slice a n n)/\w'=w:=by
 have h1:¬((n:Int)<0):=by omega
 cases a with
 |none=>
  go_enter Tryz.func120,Tryz.ntmps120
  go_wp2_with fail
  go_ret
  exact⟨by first|rfl|simp,rfl⟩
 |some a=>
 obtain⟨ab,ao,asp⟩:=a
 go_enter Tryz.func120,Tryz.ntmps120
 go_wp2_with fail
 go_ret
 exact⟨by first|rfl|simp,rfl⟩
theorem zgN {a b c:World} (h:Below a.heap.size a b) (k:Since (λ_=>False) b c):Below a.heap.size a c:=h.trans (k.below h.size (λ_ hk=>hk.elim))
theorem jM (w:World) (o:Obj):Below w.heap.size w (w.drew.alloc o):=(Below.refl _ _).drew.alloc (Nat.le_refl _) o
theorem zoo (w:World) (bv:Value) (l:List zi) (h:zW w bv l) (hl:l.length<=1000000) (m:zF) (x:zi):
  Calls Tryz.prog 90 #[bv,xD m,x.val] w λe w'=>(∃wO,e= .returned (.tuple #[wO, .bool (xY l m x)])/\zW w' wO (vF l m x)/\(xY l m x=true->w'.ownsRow w.heap.size 136 2 wO (vF l m x).length (zl zi.cells (vF l m x))))/\Below w.heap.size w w':=by
 obtain⟨ba,bc,rfl, -⟩:=ze.slice h
 obtain⟨n,hn⟩:∃n,n=l.length:=⟨_,rfl⟩
 obtain⟨mm,mb⟩:=m
 obtain⟨xv,xn⟩:=x
 obtain⟨p,hp⟩:∃p:zi->Bool,p=(λy=>decide (mm=1)||decide (y.var=xv)):=⟨_,rfl⟩
 obtain⟨ok,hok⟩:∃ok,ok=xY l ⟨mm,mb⟩ ⟨xv,xn⟩:=⟨_,rfl⟩
 have hok2:ok=((decide (mm=1)||decide (mm=2)) && decide ((l.countP p:Int)<mb)):=by rw [hok,hp];rfl
 have hpb:vF l ⟨mm,mb⟩ ⟨xv,xn⟩=if ok then l++ [⟨xv,xn⟩] else l:=by rw [hok];rfl
 rw [<-hok,hpb]
 rw [<-hn] at h hl ⊢
 have hroom:=h.room
 rw [<-hn] at hroom
 have z3n:=qh hroom
 have vS:=qh hok2
 have HP:=qh hp
 have HN:=qh hn
 clear hok hok2 hpb hp hn hroom
 have hb0:=xZ w (.cells #[.int .i64 mm, .int .i64 mb] 31) (.cells #[.int .i64 xv, .int .i64 xn] 136)
 have HB:=qh hb0
 have HM:=qh (xL w (.cells #[.int .i64 mm, .int .i64 mb] 31) (.cells #[.int .i64 xv, .int .i64 xn] 136))
 have HX:=qh (xE w (.cells #[.int .i64 mm, .int .i64 mb] 31) (.cells #[.int .i64 xv, .int .i64 xn] 136))
 have HL:=qh (zW.below h hb0)
 clear h hb0
 unfold xD zi.val
 simp only []
 go_enter Tryz.func90,Tryz.ntmps90
 go_upto_region 1 with fail
 generalize World.alloc (World.alloc w _) _=W at HB HM HX HL ⊢
 obtain⟨gx,hgx⟩:∃gx,gx=w.heap.size:=⟨_,rfl⟩
 rw [<-hgx] at HM HX ⊢
 clear hgx
 have HC:Hid (∀x,Below W.heap.size W x->x.cell? ⟨gx,0,none⟩=some (.int .i64 mm)/\x.cell? ⟨gx,1,none⟩=some (.int .i64 mb)/\x.cell? ⟨gx+1,0,none⟩=some (.int .i64 xv)/\x.cell? ⟨gx+1,1,none⟩=some (.int .i64 xn)):=λx hx=>
  ⟨zh hx _ _ (za HM.out 0),zh hx _ _ (za HM.out 1),zh hx _ _ (za HX.out 0),zh hx _ _ (za HX.out 1)⟩
 clear HM HX
 go_wp2_with fail
 go_loopg [8,10,13] n (λgg s8 s10 s13 wr=>∃i c:Nat,i<=n/\Hid (gg=n - i)/\s8= .int .i64 c/\s13= .int .i64 i/\Hid (c=(l.take i).countP p)/\c<=i/\Hid (Below W.heap.size W wr))
 case atStart=>exact⟨0,0,Nat.zero_le _,rfl,rfl,rfl,by simp [Hid],Nat.le_refl _,Below.refl _ _⟩
 case round=>
 obtain⟨i,c,hi,HG,rfl,rfl,HCN,hci,zX⟩:=hrel
 by_cases hlt:i<n
 ·have qK:(i:Int)<(n:Int):=by omega
  obtain⟨eb,eo,yG, -,he1,he2⟩:=HL.out.part i (by rw [<-HN.out];exact hlt)
  subst yG
  obtain⟨ev,hev⟩:∃ev,ev=(l.getD i default).var:=⟨_,rfl⟩
  obtain⟨en,hen⟩:∃en,en=(l.getD i default).n:=⟨_,rfl⟩
  rw [<-hev] at he1
  rw [<-hen] at he2
  have e1:=zh zX.out _ _ he1
  have e2:=zh zX.out _ _ he2
  have hst:=zgz (l:=l) (i:=i) (by rw [<-HN.out];exact hlt) p
  rw [<-HCN.out] at hst
  have HST:=qh hst
  have HPI:Hid (p (l.getD i default)=(decide (mm=1)||decide (ev=xv))):=by rw [Hid,HP.out,hev]
  have HA:=qh ((Below.refl wr.heap.size wr).alloc (Nat.le_refl _) (.cells #[.int .i64 ev, .int .i64 en] 136))
  have HY:=qh (yE wr (.cells #[.int .i64 ev, .int .i64 en] 136))
  clear he1 he2 hev hen hst
  go_upto_region 5 with fail
  generalize World.alloc wr _=X at HA HY ⊢
  obtain⟨gl,hgl⟩:∃g,g=wr.heap.size:=⟨_,rfl⟩
  rw [<-hgl] at HY ⊢
  clear hgl e1 e2
  have xC:Hid (Below W.heap.size W X):=zX.out.trans (HA.out.mono zX.out.size)
  have d0:X.cell? ⟨gl,0,none⟩=some (.int .i64 ev):=za HY.out 0
  obtain⟨c0,c1,c2,c3⟩:=HC.out X xC.out
  clear HY HA
  by_cases a1:mm=1
  ·have a1b:((mm:Int)==1)=true:=by simp [a1]
   have qz:Hid (c+1=(l.take (i+1)).countP p):=by rw [Hid,HST.out,HPI.out,a1];simp
   have A1:=qh a1
   clear a1
   go_wp2_with fail
   go_roundg (n - (i+1))
   case measure=>rw [HG.out];omega
   case rel=>exact⟨i+1,c+1,by omega,rfl,by simp,by simp,qz.out,by omega,xC.out⟩
  have a1b:((mm:Int)==1)=false:=by simp [a1]
  have A1:=qh a1
  clear a1
  by_cases a2:ev=xv
  ·have a2b:((ev:Int)==xv)=true:=by simp [a2]
   have qz:Hid (c+1=(l.take (i+1)).countP p):=by rw [Hid,HST.out,HPI.out,a2];simp
   clear a2
   go_wp2_with fail
   go_roundg (n - (i+1))
   case measure=>rw [HG.out];omega
   case rel=>exact⟨i+1,c+1,by omega,rfl,by simp,by simp,qz.out,by omega,xC.out⟩
  have a2b:((ev:Int)==xv)=false:=by simp [a2]
  have A2:=qh a2
  have qz:Hid (c=(l.take (i+1)).countP p):=by rw [Hid,HST.out,HPI.out];simp [A1.out,A2.out]
  clear a2
  go_wp2_with fail
  go_roundg (n - (i+1))
  case measure=>rw [HG.out];omega
  case rel=>exact⟨i+1,c,by omega,rfl,rfl,by simp,qz.out,by omega,xC.out⟩
 obtain rfl:n=i:=by omega
 obtain⟨c0,c1,c2,c3⟩:=HC.out wr zX.out
 have hcn:c=l.countP p:=by rw [HCN.out,HN.out,List.take_length]
 have xJ:=qh hcn
 have HLR:=qh (zW.below HL.out zX.out)
 have HWR:=qh (HB.out.trans (zX.out.mono HB.out.size))
 clear hcn HP HCN
 by_cases a2:(c:Int)<mb
 rotate_left
 ·obtain rfl:ok=false:=by
   rw [vS.out, <-xJ.out];simp [a2]
  clear vS xJ
  go_wp2_with fail
  go_ret2
  exact⟨⟨_,by first|rfl|simp,by simpa using HLR.out⟩,HWR.out⟩
 have a2n:¬mb<=(c:Int):=by omega
 by_cases a1:mm=1\/mm=2
 rotate_left
 ·obtain rfl:ok=false:=by
   rw [vS.out]
   have b1:decide (mm=1)=false:=decide_eq_false (λe=>a1 (.inl e))
   have b2:decide (mm=2)=false:=decide_eq_false (λe=>a1 (.inr e))
   rw [b1,b2];rfl
  have b1:((mm:Int)==1)=false:=by rw [beq_eq_false_iff_ne];exact λe=>a1 (.inl e)
  have b2:((mm:Int)==2)=false:=by rw [beq_eq_false_iff_ne];exact λe=>a1 (.inr e)
  have b3:((mm:Int) !=1)=true:=by rw [bne_iff_ne];exact λe=>a1 (.inl e)
  have b4:((mm:Int) !=2)=true:=by rw [bne_iff_ne];exact λe=>a1 (.inr e)
  clear vS xJ a1
  go_wp2_with fail
  go_ret2
  exact⟨⟨_,by first|rfl|simp,by simpa using HLR.out⟩,HWR.out⟩
 obtain rfl:ok=true:=by rw [vS.out, <-xJ.out];rcases a1 with a1|a1<;>simp [a1,a2]
 have zq6:Hid (∀X,Below wr.heap.size wr X->SrcOf X (.slice ba n n) n 2 (zl zi.cells l)):=λX hX=>by
  have:=SrcOf.of_slice (R:=uH) (by decide) jY (λ_ _ _ h=>h) (zW.below HLR.out hX)
  rw [<-HN.out] at this
  obtain⟨a',c',h1,h2,h3,h4⟩:=this
  cases h1
  exact⟨ba,n,rfl,h2,h3,h4⟩
 have yt:Hid (∀a' cap' X,X.ownsRow (wr.drew.alloc (.cells #[.int .i64 xv, .int .i64 xn] 136)).heap.size 136 2 (.slice a' (n+1) cap') (n+1) (zl zi.cells l++ [.int .i64 xv, .int .i64 xn])->zW X (.slice a' (n+1) cap') (l++ [⟨xv,xn⟩])/\X.ownsRow w.heap.size 136 2 (.slice a' (n+1) cap') (l++ [(⟨xv,xn⟩:zi)]).length (zl zi.cells (l++ [⟨xv,xn⟩]))):=λa' cap' X hX=>by
  have e1:(l++ [(⟨xv,xn⟩:zi)]).length=n+1:=by rw [List.length_append, <-HN.out];rfl
  have e2:zl zi.cells (l++ [⟨xv,xn⟩])=zl zi.cells l++ [.int .i64 xv, .int .i64 xn] :=by rw [kH];rfl
  have h3:X.ownsRow (wr.drew.alloc (.cells #[.int .i64 xv, .int .i64 xn] 136)).heap.size 136 2 (.slice a' (n+1) cap') (l++ [(⟨xv,xn⟩:zi)]).length (zl zi.cells (l++ [⟨xv,xn⟩])):=by rw [e1,e2];exact hX
  exact⟨jE h3,xw h3 (HWR.out.trans ((jM wr _).mono HWR.out.size)).size⟩
 have k1:=z3n.out.1
 clear vS xJ HLR HC HL zX HB
 rcases a1 with rfl|rfl
 ·go_upto_region 10 with fail
  go_region_law (first|(refine za3 _ (by rfl) (.tmp 46) (.tmp 48) 45 rfl 136 (.agg #[.int .i64 0, .int .i64 0]) 2 16 Tryz.underlying45 xu rfl (by decide) ba n (zl zi.cells l) rfl (zq6.out _ (jM _ _)) ⟨wr.heap.size,0,none⟩ 1 1 [.int .i64 xv, .int .i64 xn] rfl rfl (zeh wr.drew _ _ _) (by simp [Value.oneCell']) (by decide) (by unfold maxLen;omega) (by omega) ?_;intro ra rc X f1 f2 f3 f4;have HF1:=qh f1;have HF4:=qh f4;clear f1 f2 f3 f4)|(go_simp;go_at_call 120;refine(zop _ ba n bc k1).mono ?_;rintro e w2 ⟨rfl,rfl⟩))
  all_goals
   have HBF:Hid (Below w.heap.size w X):=HWR.out.trans ((zgN (jM wr _) HF4.out).mono HWR.out.size)
   go_wp2_with fail
   go_ret2
   have HE:=yt.out _ _ _ HF1.out
   exact⟨⟨_,by first|rfl|simp,by simpa using HE.1,by simpa using HE.2⟩,HBF.out⟩
 go_upto_region 10 with fail
 go_region_law (first|(refine za3 _ (by rfl) (.tmp 46) (.tmp 48) 45 rfl 136 (.agg #[.int .i64 0, .int .i64 0]) 2 16 Tryz.underlying45 xu rfl (by decide) ba n (zl zi.cells l) rfl (zq6.out _ (jM _ _)) ⟨wr.heap.size,0,none⟩ 1 1 [.int .i64 xv, .int .i64 xn] rfl rfl (zeh wr.drew _ _ _) (by simp [Value.oneCell']) (by decide) (by unfold maxLen;omega) (by omega) ?_;intro ra rc X f1 f2 f3 f4;have HF1:=qh f1;have HF4:=qh f4;clear f1 f2 f3 f4)|(go_simp;go_at_call 120;refine(zop _ ba n bc k1).mono ?_;rintro e w2 ⟨rfl,rfl⟩))
 all_goals
  have HBF:Hid (Below w.heap.size w X):=HWR.out.trans ((zgN (jM wr _) HF4.out).mono HWR.out.size)
  go_wp2_with fail
  go_ret2
  have HE:=yt.out _ _ _ HF1.out
  exact⟨⟨_,by first|rfl|simp,by simpa using HE.1,by simpa using HE.2⟩,HBF.out⟩
