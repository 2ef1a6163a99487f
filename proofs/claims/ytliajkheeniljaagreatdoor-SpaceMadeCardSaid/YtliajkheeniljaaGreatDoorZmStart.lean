/- Steps. -/
import Derived.Test.YtliajkheeniljaaGreatDoorZmFits
set_option linter.all false
namespace Go.Proofs.YtliajkheeniljaaGreatDoor
open Go.RowKit
set_option maxRecDepth 100000
set_option maxHeartbeats 16000000
def zk1:List Value:= [.int .i64 0, .int .i64 0, .int .i64 0, .int .i64 0, .int .i64 0, .slice none 0 0]
theorem zko (i:Nat):zY (List.replicate (i+1) default) (List.replicate (i+1) (.slice none 0 0))=zY (List.replicate i default) (List.replicate i (.slice none 0 0))++zk1:=by
 rw [List.replicate_succ',List.replicate_succ',zc8 _ _ _ _ (by simp)];rfl
theorem zjJ (i:Nat):zq yO (List.replicate (i+1) 0)=zq yO (List.replicate i 0)++ [.int .i64 0] :=by
 rw [List.replicate_succ',kV];rfl
structure gV (W X:World) (gb:Nat) (ta:Option Addr) (i tc:Nat) (ma:Option Addr) (k mc:Nat):Prop where
 row:X.ownsRow W.heap.size 48 6 (.slice ta i tc) i (zY (List.replicate i default) (List.replicate i (.slice none 0 0)))
 mem:X.ownsRow W.heap.size 3 1 (.slice ma k mc) k (zq yO (List.replicate k 0))
 box:X.heap[gb]? =some (.cells #[.slice ta i tc, .slice ma k mc, .bool false] 30 (0,0))
 since:Since (λx=>x=gb) W X
 lo:gb<W.heap.size
 dis:∀x,(Value.slice ta i tc).ownBlock=some x->(Value.slice ma k mc).ownBlock≠some x
theorem gV.begin {W:World} {gb:Nat} (hb:W.heap[gb]? =some (.cells #[.slice none 0 0, .slice none 0 0, .bool false] 30 (0,0))):gV W W gb none 0 0 none 0 0:=
 ⟨World.ownsRow_nil _ _ _ _,World.ownsRow_nil _ _ _ _,hb,Since.refl _ _,zw hb,λx hx=>by simp [Value.ownBlock] at hx⟩
theorem gV.thread {W X X':World} {gb i tc k mc tc':Nat} {ta ma ta':Option Addr} (h:gV W X gb ta i tc ma k mc) {o:Obj} (hr:X'.ownsRow W.heap.size 48 6 (.slice ta' (i+1) tc') (i+1) (zY (List.replicate i default) (List.replicate i (.slice none 0 0))++zk1))
  (hs:Since (λx=>(Value.slice ta i tc).ownBlock=some x) (X.alloc o) X') (hl:∀x,(Value.slice ta' (i+1) tc').ownBlock=some x->(Value.slice ta i tc).ownBlock=some x\/x=(X.alloc o).heap.size):
  X'.heap[gb]? =some (.cells #[.slice ta i tc, .slice ma k mc, .bool false] 30 (0,0))/\gV W (X'.setCell ⟨gb,0,none⟩ (.slice ta' (i+1) tc')) gb ta' (i+1) tc' ma k mc:=by
 have hlo:=h.lo
 have hsz:=h.since.size
 have hne:∀x,(Value.slice ta i tc).ownBlock=some x->x≠gb:=λx hx e=>by have:=(h.row.lt x hx).1;omega
 have hne2:∀x,(Value.slice ma k mc).ownBlock=some x->x≠gb:=λx hx e=>by have:=(h.mem.lt x hx).1;omega
 have hsA:Since (λx=>(Value.slice ta i tc).ownBlock=some x) X X':=((Since.refl _ X).alloc o).trans hs (λx hx=> .inl hx)
 have bg:=(hsA.block gb (zw h.box) (λe=>hne _ e rfl)).trans h.box
 have hsS:Since (λx=>x=gb) X' (X'.setCell ⟨gb,0,none⟩ (.slice ta' (i+1) tc')):=Since.setCell (F:=λk=>k=gb) (p:=⟨gb,0,none⟩) (Since.refl _ _) (.inl rfl) _
 have hnew:∀x,(Value.slice ta' (i+1) tc').ownBlock=some x->x≠gb:=λx hx e=>by have:=(hr.lt x hx).1;omega
 refine⟨bg,⟨?_, ?_, ?_, ?_,hlo, ?_⟩⟩
 ·rw [zko];exact hsS.row hr hnew
 ·exact hsS.row (hsA.row h.mem (λx hx e=>h.dis x e hx)) hne2
 ·have:=zu bg 0 (.slice ta' (i+1) tc');simpa using this
 ·exact(h.since.trans hsA (λx hx=> .inr (h.row.lt x hx).1)).trans hsS (λx hx=> .inl hx)
 intro x hx e
 rcases hl x hx with e'|e'
 ·exact h.dis x e' e
 have:=(h.mem.lt x e).2;simp at e';omega
theorem gV.more {W X X':World} {gb i tc k mc mc':Nat} {ta ma ma':Option Addr} (h:gV W X gb ta i tc ma k mc) {o:Obj} (hr:X'.ownsRow W.heap.size 3 1 (.slice ma' (k+1) mc') (k+1) (zq yO (List.replicate k 0)++ [.int .i64 0]))
  (hs:Since (λx=>(Value.slice ma k mc).ownBlock=some x) (X.alloc o) X') (hl:∀x,(Value.slice ma' (k+1) mc').ownBlock=some x->(Value.slice ma k mc).ownBlock=some x\/x=(X.alloc o).heap.size):
  X'.heap[gb]? =some (.cells #[.slice ta i tc, .slice ma k mc, .bool false] 30 (0,0))/\gV W (X'.setCell ⟨gb,1,none⟩ (.slice ma' (k+1) mc')) gb ta i tc ma' (k+1) mc':=by
 have hlo:=h.lo
 have hsz:=h.since.size
 have hne:∀x,(Value.slice ma k mc).ownBlock=some x->x≠gb:=λx hx e=>by have:=(h.mem.lt x hx).1;omega
 have hne2:∀x,(Value.slice ta i tc).ownBlock=some x->x≠gb:=λx hx e=>by have:=(h.row.lt x hx).1;omega
 have hsA:Since (λx=>(Value.slice ma k mc).ownBlock=some x) X X':=((Since.refl _ X).alloc o).trans hs (λx hx=> .inl hx)
 have bg:=(hsA.block gb (zw h.box) (λe=>hne _ e rfl)).trans h.box
 have hsS:Since (λx=>x=gb) X' (X'.setCell ⟨gb,1,none⟩ (.slice ma' (k+1) mc')):=Since.setCell (F:=λk=>k=gb) (p:=⟨gb,1,none⟩) (Since.refl _ _) (.inl rfl) _
 have hnew:∀x,(Value.slice ma' (k+1) mc').ownBlock=some x->x≠gb:=λx hx e=>by have:=(hr.lt x hx).1;omega
 refine⟨bg,⟨?_, ?_, ?_, ?_,hlo, ?_⟩⟩
 ·exact hsS.row (hsA.row h.row (λx hx e=>h.dis x hx e)) hne2
 ·rw [zjJ];exact hsS.row hr hnew
 ·have:=zu bg 1 (.slice ma' (k+1) mc');simpa using this
 ·exact(h.since.trans hsA (λx hx=> .inr (h.mem.lt x hx).1)).trans hsS (λx hx=> .inl hx)
 intro x hx e
 rcases hl x e with e'|e'
 ·exact h.dis x hx e'
 have:=(h.row.lt x hx).2;simp at e';omega
theorem zmS {X:World} {B i tc k mc:Nat} {ta ma:Option Addr} (hrow:X.ownsRow B 48 6 (.slice ta i tc) i (zY (List.replicate i default) (List.replicate i (.slice none 0 0)))) (hmem:X.ownsRow B 3 1 (.slice ma k mc) k (zq yO (List.replicate k 0))):yj X ⟨List.replicate i default,List.replicate k 0,false⟩ (.slice ta i tc) (.slice ma k mc):=by
 refine⟨zh.zcb (B:=B) (e:=48) (xs:=zY (List.replicate i default) (List.replicate i (.slice none 0 0))) (by simpa using hrow) λj hj=> ?_,gH (B:=B) (by simpa using hmem)⟩
 have hd:(List.replicate i (default:zA)).getD j default=default:=by simp [List.getD_eq_getElem?_getD,List.getElem?_replicate];split<;>rfl
 have hv:(List.replicate i (Value.slice none 0 0)).getD j (.slice none 0 0)= .slice none 0 0:=by simp [List.getD_eq_getElem?_getD,List.getElem?_replicate];split<;>rfl
 refine⟨(default:zA).cells (.slice none 0 0),rfl,λm hm=> ?_, ?_⟩
 ·rw [vF hj hm,hd,hv]
 rw [hd];exact⟨rfl,_,rfl,zh.nil _⟩
theorem zpM {X:World} {B i tc k mc:Nat} {ta ma:Option Addr} (hrow:X.ownsRow B 48 6 (.slice ta i tc) i (zY (List.replicate i default) (List.replicate i (.slice none 0 0)))) (hmem:X.ownsRow B 3 1 (.slice ma k mc) k (zq yO (List.replicate k 0)))
  (z5T:∀x,(Value.slice ta i tc).ownBlock=some x->(Value.slice ma k mc).ownBlock≠some x):OwnAt B X (.slice ta i tc) (.slice ma k mc) (List.replicate i default) (List.replicate k 0) (List.replicate i (.slice none 0 0)):=by
 have hd:∀j,(List.replicate i (default:zA)).getD j default=default:=λj=>by simp [List.getD_eq_getElem?_getD,List.getElem?_replicate];split<;>rfl
 have hv:∀j,(List.replicate i (Value.slice none 0 0)).getD j (.slice none 0 0)= .slice none 0 0:=λj=>by simp [List.getD_eq_getElem?_getD,List.getElem?_replicate];split<;>rfl
 refine⟨by simpa using hrow,by simpa using hmem,λj _=>by rw [hd];rfl,by simp,λj _=> ?_,λj _ k hk=> ?_,z5T,λa b _ _ _ k hk=> ?_⟩
 ·rw [hv,hd];exact World.ownsRow_nil _ _ _ _
 ·rw [hv] at hk;simp [Value.ownBlock] at hk
 rw [hv] at hk;simp [Value.ownBlock] at hk
def zvm (w:World) (s:zl) (e:Ending) (w':World):Prop:=(∃sv mv bs,e= .returned (yF s sv mv)/\OwnAt w.heap.size w' sv mv s.threads s.mem bs)/\Below w.heap.size w w'
theorem zsG (w:World) (c:zO) (tv:Value) (d:Nat) (h:yT d w tv c.threads):Calls Tryz.prog 19 #[yK c tv] w (zvm w (jS c)):=by
 obtain⟨ca,cc,rfl,hcl⟩:=zh.slice h
 obtain⟨co,hco⟩:∃co,co=codeOk c:=⟨_,rfl⟩
 have hcode:=λW (hW:yT d W (.slice ca c.threads.length cc) c.threads)=>zhB W c (.slice ca c.threads.length cc) d hW
 rw [<-hco] at hcode
 have hst:jS c=if co then⟨List.replicate c.threads.length default,List.replicate c.vars.toNat 0,false⟩ else⟨[], [],false⟩:=by rw [hco];rfl
 obtain⟨S,hS⟩:∃S,S=jS c:=⟨_,rfl⟩
 rw [<-hS]
 rw [hst] at hS
 have hbd:co=true->1<=c.vars/\c.vars<=4/\c.threads.length<=4:=λe=>by
  have:=xS (hco.symm.trans e);exact⟨this.1,this.2.1,this.2.2.2.2.2⟩
 obtain⟨vars,dom,cs⟩:=c
 simp only [] at h hcl hcode hbd hS ⊢
 unfold yK
 unfold yK at hcode
 simp only [] at hcode ⊢
 obtain⟨n,hn⟩:∃n,n=cs.length:=⟨_,rfl⟩
 rw [<-hn] at h hcl hcode hbd hS ⊢
 have hB:=za5 w (.cells #[.int .i64 vars, .int .i64 dom, .slice ca n cc] 24) (.cells #[.slice none 0 0, .slice none 0 0, .bool false] 30) (.cells #[.slice none 0 0, .slice none 0 0, .bool false] 30)
 have HB:=qh hB
 have H1:=qh (za6 w (.cells #[.int .i64 vars, .int .i64 dom, .slice ca n cc] 24) (.cells #[.slice none 0 0, .slice none 0 0, .bool false] 30) (.cells #[.slice none 0 0, .slice none 0 0, .bool false] 30))
 have H2:=qh (zai w (.cells #[.int .i64 vars, .int .i64 dom, .slice ca n cc] 24) (.cells #[.slice none 0 0, .slice none 0 0, .bool false] 30) (.cells #[.slice none 0 0, .slice none 0 0, .bool false] 30))
 have H3:=qh (za7 w (.cells #[.int .i64 vars, .int .i64 dom, .slice ca n cc] 24) (.cells #[.slice none 0 0, .slice none 0 0, .bool false] 30) (.cells #[.slice none 0 0, .slice none 0 0, .bool false] 30))
 have HT:=qh (zh.below (xY.stays d) h hB)
 have zaZ:=qh hcode
 have gU:=qh hbd
 obtain⟨nv,hnv⟩:∃nv:Nat,nv=vars.toNat:=⟨_,rfl⟩
 rw [<-hnv] at hS
 have HS:=qh hS
 have HNV:=qh hnv
 clear hnv
 clear h hB hcode hst hco hn hbd hS
 go_enter Tryz.func19,Tryz.ntmps19
 go_upto_region 2 with fail
 generalize World.alloc (World.alloc (World.alloc w _) _) _=W at HB H1 H2 H3 HT ⊢
 obtain⟨gx,hgx⟩:∃gx,gx=w.heap.size:=⟨_,rfl⟩
 rw [<-hgx] at H1 H2 H3 ⊢
 have yS:=qh hgx
 clear hgx
 have c0:=ze H1.out 0
 have c1:=ze H1.out 1
 have c2:=ze H1.out 2
 go_wp2_with fail
 refine(zaZ.out W HT.out).mono ?_
 rintro e W1 ⟨rfl,hb⟩
 have HB1:=qh hb
 have HK1:=qh ((hb.block _ (zw H1.out)).trans H1.out)
 have HK2:=qh ((hb.block _ (zw H2.out)).trans H2.out)
 have HK3:=qh ((hb.block _ (zw H3.out)).trans H3.out)
 have yx:=qh (HB.out.trans (hb.mono HB.out.size))
 have hL0:=gV.begin HK3.out
 have HL0:=qh hL0
 clear hb c0 c1 c2 hL0 H1 H2 H3 zaZ HT HB HB1
 have zT:Hid (∀(X:World) (ta:Option Addr) (i tc:Nat) (ma:Option Addr) (k mc:Nat),gV W1 X (gx+2) ta i tc ma k mc->
   X.heap[gx+1]? =some (.cells #[.slice none 0 0, .slice none 0 0, .bool false] 30 (0,0))/\
   (((X.setCell ⟨gx+1,0,none⟩ (.slice ta i tc)).setCell ⟨gx+1,1,none⟩ (.slice ma k mc)).setCell ⟨gx+1,2,none⟩ (.bool false)).heap[gx+1]? =some (.cells #[.slice ta i tc, .slice ma k mc, .bool false] 30 (0,0))/\
   OwnAt gx (((X.setCell ⟨gx+1,0,none⟩ (.slice ta i tc)).setCell ⟨gx+1,1,none⟩ (.slice ma k mc)).setCell ⟨gx+1,2,none⟩ (.bool false)) (.slice ta i tc) (.slice ma k mc) (List.replicate i default) (List.replicate k 0) (List.replicate i (.slice none 0 0))/\
   Below gx w (((X.setCell ⟨gx+1,0,none⟩ (.slice ta i tc)).setCell ⟨gx+1,1,none⟩ (.slice ma k mc)).setCell ⟨gx+1,2,none⟩ (.bool false))):=λX ta i tc ma k mc hL=>by
  have hlt:=zw HK2.out
  have hres:=(hL.since.block _ hlt (by omega)).trans HK2.out
  have hset:=zu (zu (zu hres 0 (.slice ta i tc)) 1 (.slice ma k mc)) 2 (.bool false)
  simp only [List.setIfInBounds_toArray,List.set_cons_zero,List.set_cons_succ] at hset
  have hS:Since (λk=>k=gx+1) X (((X.setCell ⟨gx+1,0,none⟩ (.slice ta i tc)).setCell ⟨gx+1,1,none⟩ (.slice ma k mc)).setCell ⟨gx+1,2,none⟩ (.bool false)):=Since.setCell (F:=λk=>k=gx+1) (p:=⟨gx+1,2,none⟩) (Since.setCell (F:=λk=>k=gx+1) (p:=⟨gx+1,1,none⟩) (Since.setCell (F:=λk=>k=gx+1) (p:=⟨gx+1,0,none⟩) (Since.refl _ X) (.inl rfl) _) (.inl rfl) _) (.inl rfl) _
  refine⟨hres,hset, ?_, ?_⟩
  ·have hgw:=yx.out.size
   rw [<-yS.out] at hgw
   exact(zpM (B:=W1.heap.size) (hS.row hL.row (λx hx e=>by have:=(hL.row.lt x hx).1;omega)) (hS.row hL.mem (λx hx e=>by have:=(hL.mem.lt x hx).1;omega)) hL.dis).lower hgw
  have hb:=yx.out
  rw [<-yS.out] at hb
  have:=hb.size
  exact(hb.trans (hL.since.below (by omega) (λx e=>by omega))).trans (hS.below (by have:=hL.since.size;omega) (λx e=>by omega))
 have z1n:Hid (∀(X:World) (ta:Option Addr) (i tc:Nat) (ma:Option Addr) (k mc:Nat),gV W1 X (gx+2) ta i tc ma k mc->
   (X.cell? ⟨gx+2,0,none⟩=some (.slice ta i tc)/\X.cell? ⟨gx+2,1,none⟩=some (.slice ma k mc)/\X.cell? ⟨gx+2,2,none⟩=some (.bool false))/\
   (X.cell? ⟨gx+1,0,none⟩=some (.slice none 0 0)/\X.cell? ⟨gx+1,1,none⟩=some (.slice none 0 0)/\X.cell? ⟨gx+1,2,none⟩=some (.bool false))/\
   (X.frozen? ⟨gx+1,0,none⟩=false/\X.frozen? ⟨gx+1,1,none⟩=false/\X.frozen? ⟨gx+1,2,none⟩=false)):=λX ta i tc ma k mc hL=>by
  have hb:=hL.box
  have hr:=(zT.out X ta i tc ma k mc hL).1
  exact⟨⟨ze hb 0,ze hb 1,ze hb 2⟩,⟨ze hr 0,ze hr 1,ze hr 2⟩,⟨zB hr 0,zB hr 1,zB hr 2⟩⟩
 cases co with
 |false=>
  obtain⟨⟨a0,a1,a2⟩,⟨b0,b1,b2⟩,⟨f0,f1,f2⟩⟩:=z1n.out W1 _ _ _ _ _ _ HL0.out
  go_wp2_with fail
  (try simp only [Exit.inBlock,Exit.then])
  obtain⟨-,hset,hst,hbe⟩:=zT.out W1 _ _ _ _ _ _ HL0.out
  refine bodyPost_ret (xQ rfl _ _ (gx+1) 30 _ (0,0) _ rfl hset Tryz.underlying30 rfl zI) rfl ?_
  obtain rfl:S=⟨[], [],false⟩:=HS.out
  exact⟨⟨_,_,_,rfl,by rw [<-yS.out];exact hst⟩,by rw [<-yS.out];exact hbe⟩
 |true=>
 obtain⟨hv1,hv4,bL⟩:=gU.out rfl
 have gW:vars=(nv:Int):=by rw [HNV.out];omega
 have hk:=HK1.out
 rw [gW] at hk hv4
 have z1o:=qh hk
 clear hk gW hv1
 have HCK:Hid (∀X,Since (λx=>x=gx+2) W1 X->X.cell? ⟨gx,0,none⟩=some (.int .i64 nv)/\X.cell? ⟨gx,2,none⟩=some (.slice ca n cc)):=λX hX=>by
  have h:=(hX.block _ (zw z1o.out) (by omega)).trans z1o.out
  exact⟨ze h 0,ze h 2⟩
 go_wp2_with fail
 go_loopg [4] n (λgg s4 wr=>∃(i tc:Nat) (ta:Option Addr),i<=n/\Hid (gg=n - i)/\s4= .int .i64 i/\Hid (gV W1 wr (gx+2) ta i tc none 0 0))
 case atStart=>exact⟨0,0,none,Nat.zero_le _,rfl,rfl,HL0.out⟩
 case round=>
 obtain⟨i,tc,ta,hi,HG,rfl,HL⟩:=hrel
 obtain⟨c0,c2⟩:=HCK.out wr HL.out.since
 by_cases hlt:i<n
 ·have qx:(i:Int)<(n:Int):=by omega
  have z0:=ze HL.out.box 0
  have HST:Hid (∀(X:World) (ja:Option Addr) (jc:Nat) (o:Obj),X.ownsRow W1.heap.size 48 6 (.slice ja (i+1) jc) (i+1) (zY (List.replicate i default) (List.replicate i (.slice none 0 0))++zk1)->Since (λx=>(Value.slice ta i tc).ownBlock=some x) (wr.alloc o) X->
   (∀x,(Value.slice ja (i+1) jc).ownBlock=some x->(Value.slice ta i tc).ownBlock=some x\/x=(wr.alloc o).heap.size)->_):=λX ja jc o h1 h2 h3=>HL.out.thread h1 h2 h3
  go_wp2_with(at_builtin;go_must(refine zJ _ rfl _ _ 27 rfl 48 (.agg #[.int .i64 0, .int .i64 0, .int .i64 0, .int .i64 0, .int .i64 0, .slice none 0 0]) 6 64 Tryz.underlying27 zad rfl (by decide) W1.heap.size (.slice ta i tc) i (zY (List.replicate i default) (List.replicate i (.slice none 0 0))) rfl (HL.out.row.alloc _) ⟨wr.heap.size,0,none⟩ 1 1 zk1 rfl rfl (qN _ _ _) (by decide) (by unfold maxLen;omega) (by omega) (by have:=HL.out.since.size;simp;omega) ?_);intro ja jc X e1 e2 e3 e4 e5 e6;have HE:=qh (HST.out X ja jc _ e1 e4 e5);have g0:=ze HE.out.1 0;have g1:=zB HE.out.1 0;clear e1 e2 e3 e4 e5 e6)
  go_roundg (n - (i+1))
  case measure=>rw [HG.out];omega
  case rel=>exact⟨i+1,jc,ja,by omega,rfl,by simp,HE.out.2⟩
 obtain rfl:n=i:=by omega
 go_wp2_with fail
 clear c0 c2
 go_loopg [5] nv (λgg s5 wr=>∃(k mc:Nat) (ma:Option Addr),k<=nv/\Hid (gg=nv - k)/\s5= .int .i64 k/\Hid (gV W1 wr (gx+2) ta n tc ma k mc))
 case atStart=>exact⟨0,0,none,Nat.zero_le _,rfl,rfl,HL.out⟩
 case round=>
 obtain⟨k,mc,ma,hk,HG2,rfl,HL2⟩:=hrel
 obtain⟨c0,c2⟩:=HCK.out wr HL2.out.since
 by_cases hlk:k<nv
 rotate_left
 ·obtain rfl:nv=k:=by omega
  obtain⟨⟨a0,a1,a2⟩,⟨b0,b1,b2⟩,⟨f0,f1,f2⟩⟩:=z1n.out wr _ _ _ _ _ _ HL2.out
  go_wp2_with fail
  (try simp only [Exit.inBlock,Exit.then])
  obtain⟨-,hset,hst,hbe⟩:=zT.out wr _ _ _ _ _ _ HL2.out
  refine bodyPost_ret (xQ rfl _ _ (gx+1) 30 _ (0,0) _ rfl hset Tryz.underlying30 rfl zI) rfl ?_
  obtain rfl:S=⟨List.replicate n default,List.replicate nv 0,false⟩:=HS.out
  exact⟨⟨_,_,_,rfl,by rw [<-yS.out];exact hst⟩,by rw [<-yS.out];exact hbe⟩
 have z9H:(k:Int)<(nv:Int):=by omega
 have z1:=ze HL2.out.box 1
 have HST:Hid (∀(X:World) (ja:Option Addr) (jc:Nat) (o:Obj),X.ownsRow W1.heap.size 3 1 (.slice ja (k+1) jc) (k+1) (zq yO (List.replicate k 0)++ [.int .i64 0])->Since (λx=>(Value.slice ma k mc).ownBlock=some x) (wr.alloc o) X->
  (∀x,(Value.slice ja (k+1) jc).ownBlock=some x->(Value.slice ma k mc).ownBlock=some x\/x=(wr.alloc o).heap.size)->_):=λX ja jc o h1 h2 h3=>HL2.out.more h1 h2 h3
 go_wp2_with(at_builtin;go_must(refine zJ _ rfl _ _ 28 rfl 3 (.int .i64 0) 1 8 Tryz.underlying28 qU rfl (by decide) W1.heap.size (.slice ma k mc) k (zq yO (List.replicate k 0)) rfl (HL2.out.mem.alloc _) ⟨wr.heap.size,0,none⟩ 1 1 [.int .i64 0] rfl rfl (qN _ _ _) (by decide) (by unfold maxLen;omega) (by omega) (by have:=HL2.out.since.size;simp;omega) ?_);intro ja jc X e1 e2 e3 e4 e5 e6;have HE:=qh (HST.out X ja jc _ e1 e4 e5);have g0:=ze HE.out.1 1;have g1:=zB HE.out.1 1;clear e1 e2 e3 e4 e5 e6)
 go_roundg (nv - (k+1))
 case measure=>rw [HG2.out];omega
 case rel=>exact⟨k+1,jc,ja,by omega,rfl,by simp,HE.out.2⟩
theorem zqQ (w:World) (c:zO) (tv:Value) (d:Nat) (h:yT d w tv c.threads):Calls Tryz.prog 19 #[yK c tv] w λe w'=>(∃sv mv,e= .returned (yF (jS c) sv mv)/\zX (λk=>k<w.heap.size) w' (λy=>yj y (jS c) sv mv))/\Below w.heap.size w w':=
 (zsG w c tv d h).mono λ_ _ ⟨⟨sv,mv,_,he,ho⟩,hb⟩=>⟨⟨sv,mv,he,λ_ hy=>(ho.since hy (λk hk e=>by have:=(ho.row.lt k hk).1;omega) (λk hk e=>by have:=(ho.mem.lt k hk).1;omega) (λj hj k hk e=>by have:=((ho.buf j hj).lt k hk).1;omega)).state (jS c).bad⟩,hb⟩
