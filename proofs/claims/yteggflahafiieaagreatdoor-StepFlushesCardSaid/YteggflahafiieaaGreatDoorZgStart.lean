/- Steps. -/
import Derived.Test.YteggflahafiieaaGreatDoorZgFits
set_option linter.all false
namespace Go.Proofs.YteggflahafiieaaGreatDoor
open Go.RowKit
set_option maxRecDepth 100000
set_option maxHeartbeats 16000000
def zkR:List Value:= [.int .i64 0, .int .i64 0, .int .i64 0, .int .i64 0, .int .i64 0, .slice none 0 0]
theorem zkG (i:Nat):zU (List.replicate (i+1) default) (List.replicate (i+1) (.slice none 0 0))=zU (List.replicate i default) (List.replicate i (.slice none 0 0))++zkR:=by
 rw [List.replicate_succ',List.replicate_succ',zbw _ _ _ _ (by simp)];rfl
theorem zjx (i:Nat):zl yO (List.replicate (i+1) 0)=zl yO (List.replicate i 0)++ [.int .i64 0] :=by
 rw [List.replicate_succ',kH];rfl
structure kP (W X:World) (gb:Nat) (ta:Option Addr) (i tc:Nat) (ma:Option Addr) (k mc:Nat):Prop where
 row:X.ownsRow W.heap.size 47 6 (.slice ta i tc) i (zU (List.replicate i default) (List.replicate i (.slice none 0 0)))
 mem:X.ownsRow W.heap.size 3 1 (.slice ma k mc) k (zl yO (List.replicate k 0))
 box:X.heap[gb]? =some (.cells #[.slice ta i tc, .slice ma k mc, .bool false] 35 (0,0))
 since:Since (λx=>x=gb) W X
 lo:gb<W.heap.size
 dis:∀x,(Value.slice ta i tc).ownBlock=some x->(Value.slice ma k mc).ownBlock≠some x
theorem kP.begin {W:World} {gb:Nat} (hb:W.heap[gb]? =some (.cells #[.slice none 0 0, .slice none 0 0, .bool false] 35 (0,0))):kP W W gb none 0 0 none 0 0:=
 ⟨World.ownsRow_nil _ _ _ _,World.ownsRow_nil _ _ _ _,hb,Since.refl _ _,zq hb,λx hx=>by simp [Value.ownBlock] at hx⟩
theorem kP.thread {W X X':World} {gb i tc k mc tc':Nat} {ta ma ta':Option Addr} (h:kP W X gb ta i tc ma k mc) {o:Obj} (hr:X'.ownsRow W.heap.size 47 6 (.slice ta' (i+1) tc') (i+1) (zU (List.replicate i default) (List.replicate i (.slice none 0 0))++zkR))
  (hs:Since (λx=>(Value.slice ta i tc).ownBlock=some x) (X.alloc o) X') (hl:∀x,(Value.slice ta' (i+1) tc').ownBlock=some x->(Value.slice ta i tc).ownBlock=some x\/x=(X.alloc o).heap.size):
  X'.heap[gb]? =some (.cells #[.slice ta i tc, .slice ma k mc, .bool false] 35 (0,0))/\kP W (X'.setCell ⟨gb,0,none⟩ (.slice ta' (i+1) tc')) gb ta' (i+1) tc' ma k mc:=by
 have hlo:=h.lo
 have hsz:=h.since.size
 have hne:∀x,(Value.slice ta i tc).ownBlock=some x->x≠gb:=λx hx e=>by have:=(h.row.lt x hx).1;omega
 have hne2:∀x,(Value.slice ma k mc).ownBlock=some x->x≠gb:=λx hx e=>by have:=(h.mem.lt x hx).1;omega
 have hsA:Since (λx=>(Value.slice ta i tc).ownBlock=some x) X X':=((Since.refl _ X).alloc o).trans hs (λx hx=> .inl hx)
 have gB:=(hsA.block gb (zq h.box) (λe=>hne _ e rfl)).trans h.box
 have hsS:Since (λx=>x=gb) X' (X'.setCell ⟨gb,0,none⟩ (.slice ta' (i+1) tc')):=Since.setCell (F:=λk=>k=gb) (p:=⟨gb,0,none⟩) (Since.refl _ _) (.inl rfl) _
 have hnew:∀x,(Value.slice ta' (i+1) tc').ownBlock=some x->x≠gb:=λx hx e=>by have:=(hr.lt x hx).1;omega
 refine⟨gB,⟨?_, ?_, ?_, ?_,hlo, ?_⟩⟩
 ·rw [zkG];exact hsS.row hr hnew
 ·exact hsS.row (hsA.row h.mem (λx hx e=>h.dis x e hx)) hne2
 ·have:=zu gB 0 (.slice ta' (i+1) tc');simpa using this
 ·exact(h.since.trans hsA (λx hx=> .inr (h.row.lt x hx).1)).trans hsS (λx hx=> .inl hx)
 intro x hx e
 rcases hl x hx with e'|e'
 ·exact h.dis x e' e
 have:=(h.mem.lt x e).2;simp at e';omega
theorem kP.more {W X X':World} {gb i tc k mc mc':Nat} {ta ma ma':Option Addr} (h:kP W X gb ta i tc ma k mc) {o:Obj} (hr:X'.ownsRow W.heap.size 3 1 (.slice ma' (k+1) mc') (k+1) (zl yO (List.replicate k 0)++ [.int .i64 0]))
  (hs:Since (λx=>(Value.slice ma k mc).ownBlock=some x) (X.alloc o) X') (hl:∀x,(Value.slice ma' (k+1) mc').ownBlock=some x->(Value.slice ma k mc).ownBlock=some x\/x=(X.alloc o).heap.size):
  X'.heap[gb]? =some (.cells #[.slice ta i tc, .slice ma k mc, .bool false] 35 (0,0))/\kP W (X'.setCell ⟨gb,1,none⟩ (.slice ma' (k+1) mc')) gb ta i tc ma' (k+1) mc':=by
 have hlo:=h.lo
 have hsz:=h.since.size
 have hne:∀x,(Value.slice ma k mc).ownBlock=some x->x≠gb:=λx hx e=>by have:=(h.mem.lt x hx).1;omega
 have hne2:∀x,(Value.slice ta i tc).ownBlock=some x->x≠gb:=λx hx e=>by have:=(h.row.lt x hx).1;omega
 have hsA:Since (λx=>(Value.slice ma k mc).ownBlock=some x) X X':=((Since.refl _ X).alloc o).trans hs (λx hx=> .inl hx)
 have gB:=(hsA.block gb (zq h.box) (λe=>hne _ e rfl)).trans h.box
 have hsS:Since (λx=>x=gb) X' (X'.setCell ⟨gb,1,none⟩ (.slice ma' (k+1) mc')):=Since.setCell (F:=λk=>k=gb) (p:=⟨gb,1,none⟩) (Since.refl _ _) (.inl rfl) _
 have hnew:∀x,(Value.slice ma' (k+1) mc').ownBlock=some x->x≠gb:=λx hx e=>by have:=(hr.lt x hx).1;omega
 refine⟨gB,⟨?_, ?_, ?_, ?_,hlo, ?_⟩⟩
 ·exact hsS.row (hsA.row h.row (λx hx e=>h.dis x hx e)) hne2
 ·rw [zjx];exact hsS.row hr hnew
 ·have:=zu gB 1 (.slice ma' (k+1) mc');simpa using this
 ·exact(h.since.trans hsA (λx hx=> .inr (h.mem.lt x hx).1)).trans hsS (λx hx=> .inl hx)
 intro x hx e
 rcases hl x e with e'|e'
 ·exact h.dis x hx e'
 have:=(h.row.lt x hx).2;simp at e';omega
theorem zo8 {X:World} {B i tc k mc:Nat} {ta ma:Option Addr} (hrow:X.ownsRow B 47 6 (.slice ta i tc) i (zU (List.replicate i default) (List.replicate i (.slice none 0 0)))) (hmem:X.ownsRow B 3 1 (.slice ma k mc) k (zl yO (List.replicate k 0))):yh X ⟨List.replicate i default,List.replicate k 0,false⟩ (.slice ta i tc) (.slice ma k mc):=by
 refine⟨ze.zaQ (B:=B) (e:=47) (xs:=zU (List.replicate i default) (List.replicate i (.slice none 0 0))) (by simpa using hrow) λj hj=> ?_,gQ (B:=B) (by simpa using hmem)⟩
 have hd:(List.replicate i (default:zo)).getD j default=default:=by simp [List.getD_eq_getElem?_getD,List.getElem?_replicate];split<;>rfl
 have hv:(List.replicate i (Value.slice none 0 0)).getD j (.slice none 0 0)= .slice none 0 0:=by simp [List.getD_eq_getElem?_getD,List.getElem?_replicate];split<;>rfl
 refine⟨(default:zo).cells (.slice none 0 0),rfl,λm hm=> ?_, ?_⟩
 ·rw [qV hj hm,hd,hv]
 rw [hd];exact⟨rfl,_,rfl,ze.nil _⟩
theorem zpW {X:World} {B i tc k mc:Nat} {ta ma:Option Addr} (hrow:X.ownsRow B 47 6 (.slice ta i tc) i (zU (List.replicate i default) (List.replicate i (.slice none 0 0)))) (hmem:X.ownsRow B 3 1 (.slice ma k mc) k (zl yO (List.replicate k 0)))
  (z5Q:∀x,(Value.slice ta i tc).ownBlock=some x->(Value.slice ma k mc).ownBlock≠some x):OwnAt B X (.slice ta i tc) (.slice ma k mc) (List.replicate i default) (List.replicate k 0) (List.replicate i (.slice none 0 0)):=by
 have hd:∀j,(List.replicate i (default:zo)).getD j default=default:=λj=>by simp [List.getD_eq_getElem?_getD,List.getElem?_replicate];split<;>rfl
 have hv:∀j,(List.replicate i (Value.slice none 0 0)).getD j (.slice none 0 0)= .slice none 0 0:=λj=>by simp [List.getD_eq_getElem?_getD,List.getElem?_replicate];split<;>rfl
 refine⟨by simpa using hrow,by simpa using hmem,λj _=>by rw [hd];rfl,by simp,λj _=> ?_,λj _ k hk=> ?_,z5Q,λa b _ _ _ k hk=> ?_⟩
 ·rw [hv,hd];exact World.ownsRow_nil _ _ _ _
 ·rw [hv] at hk;simp [Value.ownBlock] at hk
 rw [hv] at hk;simp [Value.ownBlock] at hk
def zu3 (w:World) (s:zm) (e:Ending) (w':World):Prop:=(∃sv mv bs,e= .returned (yR s sv mv)/\OwnAt w.heap.size w' sv mv s.threads s.mem bs)/\Below w.heap.size w w'
theorem zrD (w:World) (c:zK) (tv:Value) (d:Nat) (h:yZ d w tv c.threads):Calls Tryz.prog 29 #[yT c tv] w (zu3 w (uJ c)):=by
 obtain⟨ca,cc,rfl,hcl⟩:=ze.slice h
 obtain⟨co,hco⟩:∃co,co=codeOk c:=⟨_,rfl⟩
 have hcode:=λW (hW:yZ d W (.slice ca c.threads.length cc) c.threads)=>zgm W c (.slice ca c.threads.length cc) d hW
 rw [<-hco] at hcode
 have hst:uJ c=if co then⟨List.replicate c.threads.length default,List.replicate c.vars.toNat 0,false⟩ else⟨[], [],false⟩:=by rw [hco];rfl
 obtain⟨S,hS⟩:∃S,S=uJ c:=⟨_,rfl⟩
 rw [<-hS]
 rw [hst] at hS
 have hbd:co=true->1<=c.vars/\c.vars<=4/\c.threads.length<=4:=λe=>by
  have:=qA (hco.symm.trans e);exact⟨this.1,this.2.1,this.2.2.2.2.2⟩
 obtain⟨vars,dom,cs⟩:=c
 simp only [] at h hcl hcode hbd hS ⊢
 unfold yT
 unfold yT at hcode
 simp only [] at hcode ⊢
 obtain⟨n,hn⟩:∃n,n=cs.length:=⟨_,rfl⟩
 rw [<-hn] at h hcl hcode hbd hS ⊢
 have hB:=bI w (.cells #[.int .i64 vars, .int .i64 dom, .slice ca n cc] 26) (.cells #[.slice none 0 0, .slice none 0 0, .bool false] 35) (.cells #[.slice none 0 0, .slice none 0 0, .bool false] 35)
 have HB:=qh hB
 have H1:=qh (bJ w (.cells #[.int .i64 vars, .int .i64 dom, .slice ca n cc] 26) (.cells #[.slice none 0 0, .slice none 0 0, .bool false] 35) (.cells #[.slice none 0 0, .slice none 0 0, .bool false] 35))
 have H2:=qh (uO w (.cells #[.int .i64 vars, .int .i64 dom, .slice ca n cc] 26) (.cells #[.slice none 0 0, .slice none 0 0, .bool false] 35) (.cells #[.slice none 0 0, .slice none 0 0, .bool false] 35))
 have H3:=qh (bK w (.cells #[.int .i64 vars, .int .i64 dom, .slice ca n cc] 26) (.cells #[.slice none 0 0, .slice none 0 0, .bool false] 35) (.cells #[.slice none 0 0, .slice none 0 0, .bool false] 35))
 have HT:=qh (ze.below (xK.stays d) h hB)
 have zab:=qh hcode
 have wN:=qh hbd
 obtain⟨nv,bL⟩:∃nv:Nat,nv=vars.toNat:=⟨_,rfl⟩
 rw [<-bL] at hS
 have HS:=qh hS
 have HNV:=qh bL
 clear bL
 clear h hB hcode hst hco hn hbd hS
 go_enter Tryz.func29,Tryz.ntmps29
 go_upto_region 2 with fail
 generalize World.alloc (World.alloc (World.alloc w _) _) _=W at HB H1 H2 H3 HT ⊢
 obtain⟨gx,hgx⟩:∃gx,gx=w.heap.size:=⟨_,rfl⟩
 rw [<-hgx] at H1 H2 H3 ⊢
 have yV:=qh hgx
 clear hgx
 have c0:=za H1.out 0
 have c1:=za H1.out 1
 have c2:=za H1.out 2
 go_wp2_with fail
 refine(zab.out W HT.out).mono ?_
 rintro e W1 ⟨rfl,hb⟩
 have HB1:=qh hb
 have HK1:=qh ((hb.block _ (zq H1.out)).trans H1.out)
 have HK2:=qh ((hb.block _ (zq H2.out)).trans H2.out)
 have HK3:=qh ((hb.block _ (zq H3.out)).trans H3.out)
 have yM:=qh (HB.out.trans (hb.mono HB.out.size))
 have hL0:=kP.begin HK3.out
 have HL0:=qh hL0
 clear hb c0 c1 c2 hL0 H1 H2 H3 zab HT HB HB1
 have yt:Hid (∀(X:World) (ta:Option Addr) (i tc:Nat) (ma:Option Addr) (k mc:Nat),kP W1 X (gx+2) ta i tc ma k mc->
   X.heap[gx+1]? =some (.cells #[.slice none 0 0, .slice none 0 0, .bool false] 35 (0,0))/\
   (((X.setCell ⟨gx+1,0,none⟩ (.slice ta i tc)).setCell ⟨gx+1,1,none⟩ (.slice ma k mc)).setCell ⟨gx+1,2,none⟩ (.bool false)).heap[gx+1]? =some (.cells #[.slice ta i tc, .slice ma k mc, .bool false] 35 (0,0))/\
   OwnAt gx (((X.setCell ⟨gx+1,0,none⟩ (.slice ta i tc)).setCell ⟨gx+1,1,none⟩ (.slice ma k mc)).setCell ⟨gx+1,2,none⟩ (.bool false)) (.slice ta i tc) (.slice ma k mc) (List.replicate i default) (List.replicate k 0) (List.replicate i (.slice none 0 0))/\
   Below gx w (((X.setCell ⟨gx+1,0,none⟩ (.slice ta i tc)).setCell ⟨gx+1,1,none⟩ (.slice ma k mc)).setCell ⟨gx+1,2,none⟩ (.bool false))):=λX ta i tc ma k mc hL=>by
  have hlt:=zq HK2.out
  have hres:=(hL.since.block _ hlt (by omega)).trans HK2.out
  have hset:=zu (zu (zu hres 0 (.slice ta i tc)) 1 (.slice ma k mc)) 2 (.bool false)
  simp only [List.setIfInBounds_toArray,List.set_cons_zero,List.set_cons_succ] at hset
  have hS:Since (λk=>k=gx+1) X (((X.setCell ⟨gx+1,0,none⟩ (.slice ta i tc)).setCell ⟨gx+1,1,none⟩ (.slice ma k mc)).setCell ⟨gx+1,2,none⟩ (.bool false)):=Since.setCell (F:=λk=>k=gx+1) (p:=⟨gx+1,2,none⟩) (Since.setCell (F:=λk=>k=gx+1) (p:=⟨gx+1,1,none⟩) (Since.setCell (F:=λk=>k=gx+1) (p:=⟨gx+1,0,none⟩) (Since.refl _ X) (.inl rfl) _) (.inl rfl) _) (.inl rfl) _
  refine⟨hres,hset, ?_, ?_⟩
  ·have hgw:=yM.out.size
   rw [<-yV.out] at hgw
   exact(zpW (B:=W1.heap.size) (hS.row hL.row (λx hx e=>by have:=(hL.row.lt x hx).1;omega)) (hS.row hL.mem (λx hx e=>by have:=(hL.mem.lt x hx).1;omega)) hL.dis).lower hgw
  have hb:=yM.out
  rw [<-yV.out] at hb
  have:=hb.size
  exact(hb.trans (hL.since.below (by omega) (λx e=>by omega))).trans (hS.below (by have:=hL.since.size;omega) (λx e=>by omega))
 have zyI:Hid (∀(X:World) (ta:Option Addr) (i tc:Nat) (ma:Option Addr) (k mc:Nat),kP W1 X (gx+2) ta i tc ma k mc->
   (X.cell? ⟨gx+2,0,none⟩=some (.slice ta i tc)/\X.cell? ⟨gx+2,1,none⟩=some (.slice ma k mc)/\X.cell? ⟨gx+2,2,none⟩=some (.bool false))/\
   (X.cell? ⟨gx+1,0,none⟩=some (.slice none 0 0)/\X.cell? ⟨gx+1,1,none⟩=some (.slice none 0 0)/\X.cell? ⟨gx+1,2,none⟩=some (.bool false))/\
   (X.frozen? ⟨gx+1,0,none⟩=false/\X.frozen? ⟨gx+1,1,none⟩=false/\X.frozen? ⟨gx+1,2,none⟩=false)):=λX ta i tc ma k mc hL=>by
  have hb:=hL.box
  have hr:=(yt.out X ta i tc ma k mc hL).1
  exact⟨⟨za hb 0,za hb 1,za hb 2⟩,⟨za hr 0,za hr 1,za hr 2⟩,⟨zw hr 0,zw hr 1,zw hr 2⟩⟩
 cases co with
 |false=>
  obtain⟨⟨a0,a1,a2⟩,⟨b0,b1,b2⟩,⟨f0,f1,f2⟩⟩:=zyI.out W1 _ _ _ _ _ _ HL0.out
  go_wp2_with fail
  (try simp only [Exit.inBlock,Exit.then])
  obtain⟨-,hset,hst,hbe⟩:=yt.out W1 _ _ _ _ _ _ HL0.out
  refine bodyPost_ret (yY rfl _ _ (gx+1) 35 _ (0,0) _ rfl hset Tryz.underlying35 rfl zC) rfl ?_
  obtain rfl:S=⟨[], [],false⟩:=HS.out
  exact⟨⟨_,_,_,rfl,by rw [<-yV.out];exact hst⟩,by rw [<-yV.out];exact hbe⟩
 |true=>
 obtain⟨hv1,hv4,gD⟩:=wN.out rfl
 have kW:vars=(nv:Int):=by rw [HNV.out];omega
 have hk:=HK1.out
 rw [kW] at hk hv4
 have zyJ:=qh hk
 clear hk kW hv1
 have HCK:Hid (∀X,Since (λx=>x=gx+2) W1 X->X.cell? ⟨gx,0,none⟩=some (.int .i64 nv)/\X.cell? ⟨gx,2,none⟩=some (.slice ca n cc)):=λX hX=>by
  have h:=(hX.block _ (zq zyJ.out) (by omega)).trans zyJ.out
  exact⟨za h 0,za h 2⟩
 go_wp2_with fail
 go_loopg [4] n (λgg s4 wr=>∃(i tc:Nat) (ta:Option Addr),i<=n/\Hid (gg=n - i)/\s4= .int .i64 i/\Hid (kP W1 wr (gx+2) ta i tc none 0 0))
 case atStart=>exact⟨0,0,none,Nat.zero_le _,rfl,rfl,HL0.out⟩
 case round=>
 obtain⟨i,tc,ta,hi,HG,rfl,HL⟩:=hrel
 obtain⟨c0,c2⟩:=HCK.out wr HL.out.since
 by_cases hlt:i<n
 ·have qK:(i:Int)<(n:Int):=by omega
  have z0:=za HL.out.box 0
  have HST:Hid (∀(X:World) (ja:Option Addr) (jc:Nat) (o:Obj),X.ownsRow W1.heap.size 47 6 (.slice ja (i+1) jc) (i+1) (zU (List.replicate i default) (List.replicate i (.slice none 0 0))++zkR)->Since (λx=>(Value.slice ta i tc).ownBlock=some x) (wr.alloc o) X->
   (∀x,(Value.slice ja (i+1) jc).ownBlock=some x->(Value.slice ta i tc).ownBlock=some x\/x=(wr.alloc o).heap.size)->_):=λX ja jc o h1 h2 h3=>HL.out.thread h1 h2 h3
  go_wp2_with(at_builtin;go_must(refine yx _ rfl _ _ 33 rfl 47 (.agg #[.int .i64 0, .int .i64 0, .int .i64 0, .int .i64 0, .int .i64 0, .slice none 0 0]) 6 64 Tryz.underlying33 uK rfl (by decide) W1.heap.size (.slice ta i tc) i (zU (List.replicate i default) (List.replicate i (.slice none 0 0))) rfl (HL.out.row.alloc _) ⟨wr.heap.size,0,none⟩ 1 1 zkR rfl rfl (gT _ _ _) (by decide) (by unfold maxLen;omega) (by omega) (by have:=HL.out.since.size;simp;omega) ?_);intro ja jc X e1 e2 e3 e4 e5 e6;have HE:=qh (HST.out X ja jc _ e1 e4 e5);have g0:=za HE.out.1 0;have g1:=zw HE.out.1 0;clear e1 e2 e3 e4 e5 e6)
  go_roundg (n - (i+1))
  case measure=>rw [HG.out];omega
  case rel=>exact⟨i+1,jc,ja,by omega,rfl,by simp,HE.out.2⟩
 obtain rfl:n=i:=by omega
 go_wp2_with fail
 clear c0 c2
 go_loopg [5] nv (λgg s5 wr=>∃(k mc:Nat) (ma:Option Addr),k<=nv/\Hid (gg=nv - k)/\s5= .int .i64 k/\Hid (kP W1 wr (gx+2) ta n tc ma k mc))
 case atStart=>exact⟨0,0,none,Nat.zero_le _,rfl,rfl,HL.out⟩
 case round=>
 obtain⟨k,mc,ma,hk,HG2,rfl,HL2⟩:=hrel
 obtain⟨c0,c2⟩:=HCK.out wr HL2.out.since
 by_cases hlk:k<nv
 rotate_left
 ·obtain rfl:nv=k:=by omega
  obtain⟨⟨a0,a1,a2⟩,⟨b0,b1,b2⟩,⟨f0,f1,f2⟩⟩:=zyI.out wr _ _ _ _ _ _ HL2.out
  go_wp2_with fail
  (try simp only [Exit.inBlock,Exit.then])
  obtain⟨-,hset,hst,hbe⟩:=yt.out wr _ _ _ _ _ _ HL2.out
  refine bodyPost_ret (yY rfl _ _ (gx+1) 35 _ (0,0) _ rfl hset Tryz.underlying35 rfl zC) rfl ?_
  obtain rfl:S=⟨List.replicate n default,List.replicate nv 0,false⟩:=HS.out
  exact⟨⟨_,_,_,rfl,by rw [<-yV.out];exact hst⟩,by rw [<-yV.out];exact hbe⟩
 have zAv:(k:Int)<(nv:Int):=by omega
 have z1:=za HL2.out.box 1
 have HST:Hid (∀(X:World) (ja:Option Addr) (jc:Nat) (o:Obj),X.ownsRow W1.heap.size 3 1 (.slice ja (k+1) jc) (k+1) (zl yO (List.replicate k 0)++ [.int .i64 0])->Since (λx=>(Value.slice ma k mc).ownBlock=some x) (wr.alloc o) X->
  (∀x,(Value.slice ja (k+1) jc).ownBlock=some x->(Value.slice ma k mc).ownBlock=some x\/x=(wr.alloc o).heap.size)->_):=λX ja jc o h1 h2 h3=>HL2.out.more h1 h2 h3
 go_wp2_with(at_builtin;go_must(refine yx _ rfl _ _ 28 rfl 3 (.int .i64 0) 1 8 Tryz.underlying28 vO rfl (by decide) W1.heap.size (.slice ma k mc) k (zl yO (List.replicate k 0)) rfl (HL2.out.mem.alloc _) ⟨wr.heap.size,0,none⟩ 1 1 [.int .i64 0] rfl rfl (gT _ _ _) (by decide) (by unfold maxLen;omega) (by omega) (by have:=HL2.out.since.size;simp;omega) ?_);intro ja jc X e1 e2 e3 e4 e5 e6;have HE:=qh (HST.out X ja jc _ e1 e4 e5);have g0:=za HE.out.1 1;have g1:=zw HE.out.1 1;clear e1 e2 e3 e4 e5 e6)
 go_roundg (nv - (k+1))
 case measure=>rw [HG2.out];omega
 case rel=>exact⟨k+1,jc,ja,by omega,rfl,by simp,HE.out.2⟩
