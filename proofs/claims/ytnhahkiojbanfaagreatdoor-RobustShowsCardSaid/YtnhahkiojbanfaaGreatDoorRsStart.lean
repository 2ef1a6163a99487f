/- Steps. -/
import Derived.Test.YtnhahkiojbanfaaGreatDoorRsFits
import Derived.Test.YtnhahkiojbanfaaGreatDoorRsPCode
set_option linter.all false
namespace Go.Proofs.YtnhahkiojbanfaaGreatDoor
open Go.RowKit
set_option maxRecDepth 100000
set_option maxHeartbeats 16000000
def zkN:List Value:= [.int .i64 0, .int .i64 0, .int .i64 0, .int .i64 0, .int .i64 0, .slice none 0 0]
theorem zk6 (i:Nat):zY (List.replicate (i+1) default) (List.replicate (i+1) (.slice none 0 0))=zY (List.replicate i default) (List.replicate i (.slice none 0 0))++zkN:=by
 rw [List.replicate_succ',List.replicate_succ',zdi _ _ _ _ (by simp)];rfl
theorem zkb (i:Nat):zo yM (List.replicate (i+1) 0)=zo yM (List.replicate i 0)++ [.int .i64 0] :=by
 rw [List.replicate_succ',kW];rfl
structure gX (W X:World) (gb:Nat) (ta:Option Addr) (i tc:Nat) (ma:Option Addr) (k mc:Nat):Prop where
 row:X.ownsRow W.heap.size 80 6 (.slice ta i tc) i (zY (List.replicate i default) (List.replicate i (.slice none 0 0)))
 mem:X.ownsRow W.heap.size 3 1 (.slice ma k mc) k (zo yM (List.replicate k 0))
 box:X.heap[gb]? =some (.cells #[.slice ta i tc, .slice ma k mc, .bool false] 42 (0,0))
 since:Since (λx=>x=gb) W X
 lo:gb<W.heap.size
 dis:∀x,(Value.slice ta i tc).ownBlock=some x->(Value.slice ma k mc).ownBlock≠some x
theorem gX.begin {W:World} {gb:Nat} (hb:W.heap[gb]? =some (.cells #[.slice none 0 0, .slice none 0 0, .bool false] 42 (0,0))):gX W W gb none 0 0 none 0 0:=
 ⟨World.ownsRow_nil _ _ _ _,World.ownsRow_nil _ _ _ _,hb,Since.refl _ _,zw hb,λx hx=>by simp [Value.ownBlock] at hx⟩
theorem gX.thread {W X X':World} {gb i tc k mc tc':Nat} {ta ma ta':Option Addr} (h:gX W X gb ta i tc ma k mc) {o:Obj} (hr:X'.ownsRow W.heap.size 80 6 (.slice ta' (i+1) tc') (i+1) (zY (List.replicate i default) (List.replicate i (.slice none 0 0))++zkN))
  (hs:Since (λx=>(Value.slice ta i tc).ownBlock=some x) (X.alloc o) X') (hl:∀x,(Value.slice ta' (i+1) tc').ownBlock=some x->(Value.slice ta i tc).ownBlock=some x\/x=(X.alloc o).heap.size):
  X'.heap[gb]? =some (.cells #[.slice ta i tc, .slice ma k mc, .bool false] 42 (0,0))/\gX W (X'.setCell ⟨gb,0,none⟩ (.slice ta' (i+1) tc')) gb ta' (i+1) tc' ma k mc:=by
 have hlo:=h.lo
 have hsz:=h.since.size
 have hne:∀x,(Value.slice ta i tc).ownBlock=some x->x≠gb:=λx hx e=>by have:=(h.row.lt x hx).1;omega
 have hne2:∀x,(Value.slice ma k mc).ownBlock=some x->x≠gb:=λx hx e=>by have:=(h.mem.lt x hx).1;omega
 have hsA:Since (λx=>(Value.slice ta i tc).ownBlock=some x) X X':=((Since.refl _ X).alloc o).trans hs (λx hx=> .inl hx)
 have bG:=(hsA.block gb (zw h.box) (λe=>hne _ e rfl)).trans h.box
 have hsS:Since (λx=>x=gb) X' (X'.setCell ⟨gb,0,none⟩ (.slice ta' (i+1) tc')):=Since.setCell (F:=λk=>k=gb) (p:=⟨gb,0,none⟩) (Since.refl _ _) (.inl rfl) _
 have hnew:∀x,(Value.slice ta' (i+1) tc').ownBlock=some x->x≠gb:=λx hx e=>by have:=(hr.lt x hx).1;omega
 refine⟨bG,⟨?_, ?_, ?_, ?_,hlo, ?_⟩⟩
 ·rw [zk6];exact hsS.row hr hnew
 ·exact hsS.row (hsA.row h.mem (λx hx e=>h.dis x e hx)) hne2
 ·have:=zu bG 0 (.slice ta' (i+1) tc');simpa using this
 ·exact(h.since.trans hsA (λx hx=> .inr (h.row.lt x hx).1)).trans hsS (λx hx=> .inl hx)
 intro x hx e
 rcases hl x hx with e'|e'
 ·exact h.dis x e' e
 have:=(h.mem.lt x e).2;simp at e';omega
theorem gX.more {W X X':World} {gb i tc k mc mc':Nat} {ta ma ma':Option Addr} (h:gX W X gb ta i tc ma k mc) {o:Obj} (hr:X'.ownsRow W.heap.size 3 1 (.slice ma' (k+1) mc') (k+1) (zo yM (List.replicate k 0)++ [.int .i64 0]))
  (hs:Since (λx=>(Value.slice ma k mc).ownBlock=some x) (X.alloc o) X') (hl:∀x,(Value.slice ma' (k+1) mc').ownBlock=some x->(Value.slice ma k mc).ownBlock=some x\/x=(X.alloc o).heap.size):
  X'.heap[gb]? =some (.cells #[.slice ta i tc, .slice ma k mc, .bool false] 42 (0,0))/\gX W (X'.setCell ⟨gb,1,none⟩ (.slice ma' (k+1) mc')) gb ta i tc ma' (k+1) mc':=by
 have hlo:=h.lo
 have hsz:=h.since.size
 have hne:∀x,(Value.slice ma k mc).ownBlock=some x->x≠gb:=λx hx e=>by have:=(h.mem.lt x hx).1;omega
 have hne2:∀x,(Value.slice ta i tc).ownBlock=some x->x≠gb:=λx hx e=>by have:=(h.row.lt x hx).1;omega
 have hsA:Since (λx=>(Value.slice ma k mc).ownBlock=some x) X X':=((Since.refl _ X).alloc o).trans hs (λx hx=> .inl hx)
 have bG:=(hsA.block gb (zw h.box) (λe=>hne _ e rfl)).trans h.box
 have hsS:Since (λx=>x=gb) X' (X'.setCell ⟨gb,1,none⟩ (.slice ma' (k+1) mc')):=Since.setCell (F:=λk=>k=gb) (p:=⟨gb,1,none⟩) (Since.refl _ _) (.inl rfl) _
 have hnew:∀x,(Value.slice ma' (k+1) mc').ownBlock=some x->x≠gb:=λx hx e=>by have:=(hr.lt x hx).1;omega
 refine⟨bG,⟨?_, ?_, ?_, ?_,hlo, ?_⟩⟩
 ·exact hsS.row (hsA.row h.row (λx hx e=>h.dis x hx e)) hne2
 ·rw [zkb];exact hsS.row hr hnew
 ·have:=zu bG 1 (.slice ma' (k+1) mc');simpa using this
 ·exact(h.since.trans hsA (λx hx=> .inr (h.mem.lt x hx).1)).trans hsS (λx hx=> .inl hx)
 intro x hx e
 rcases hl x e with e'|e'
 ·exact h.dis x hx e'
 have:=(h.row.lt x hx).2;simp at e';omega
theorem znr {X:World} {B i tc k mc:Nat} {ta ma:Option Addr} (hrow:X.ownsRow B 80 6 (.slice ta i tc) i (zY (List.replicate i default) (List.replicate i (.slice none 0 0)))) (hmem:X.ownsRow B 3 1 (.slice ma k mc) k (zo yM (List.replicate k 0))):zX X ⟨List.replicate i default,List.replicate k 0,false⟩ (.slice ta i tc) (.slice ma k mc):=by
 refine⟨zh.zct (B:=B) (e:=80) (xs:=zY (List.replicate i default) (List.replicate i (.slice none 0 0))) (by simpa using hrow) λj hj=> ?_,gN (B:=B) (by simpa using hmem)⟩
 have hd:(List.replicate i (default:zx)).getD j default=default:=by simp [List.getD_eq_getElem?_getD,List.getElem?_replicate];split<;>rfl
 have hv:(List.replicate i (Value.slice none 0 0)).getD j (.slice none 0 0)= .slice none 0 0:=by simp [List.getD_eq_getElem?_getD,List.getElem?_replicate];split<;>rfl
 refine⟨(default:zx).cells (.slice none 0 0),rfl,λm hm=> ?_, ?_⟩
 ·rw [vN hj hm,hd,hv]
 rw [hd];exact⟨rfl,_,rfl,zh.nil _⟩
theorem zp7 {X:World} {B i tc k mc:Nat} {ta ma:Option Addr} (hrow:X.ownsRow B 80 6 (.slice ta i tc) i (zY (List.replicate i default) (List.replicate i (.slice none 0 0)))) (hmem:X.ownsRow B 3 1 (.slice ma k mc) k (zo yM (List.replicate k 0)))
  (z5S:∀x,(Value.slice ta i tc).ownBlock=some x->(Value.slice ma k mc).ownBlock≠some x):OwnAt B X (.slice ta i tc) (.slice ma k mc) (List.replicate i default) (List.replicate k 0) (List.replicate i (.slice none 0 0)):=by
 have hd:∀j,(List.replicate i (default:zx)).getD j default=default:=λj=>by simp [List.getD_eq_getElem?_getD,List.getElem?_replicate];split<;>rfl
 have hv:∀j,(List.replicate i (Value.slice none 0 0)).getD j (.slice none 0 0)= .slice none 0 0:=λj=>by simp [List.getD_eq_getElem?_getD,List.getElem?_replicate];split<;>rfl
 refine⟨by simpa using hrow,by simpa using hmem,λj _=>by rw [hd];rfl,by simp,λj _=> ?_,λj _ k hk=> ?_,z5S,λa b _ _ _ k hk=> ?_⟩
 ·rw [hv,hd];exact World.ownsRow_nil _ _ _ _
 ·rw [hv] at hk;simp [Value.ownBlock] at hk
 rw [hv] at hk;simp [Value.ownBlock] at hk
def zu4 (w:World) (s:zi) (e:Ending) (w':World):Prop:=(∃sv mv bs,e= .returned (yA s sv mv)/\OwnAt w.heap.size w' sv mv s.threads s.mem bs)/\Below w.heap.size w w'
theorem zrI (w:World) (c:zD) (tv:Value) (d:Nat) (h:yS d w tv c.threads):Calls Tryz.prog 27 #[yQ c tv] w (zu4 w (xY c)):=by
 obtain⟨ca,cc,rfl,hcl⟩:=zh.slice h
 obtain⟨co,hco⟩:∃co,co=codeOk c:=⟨_,rfl⟩
 have hcode:=λW (hW:yS d W (.slice ca c.threads.length cc) c.threads)=>zhG W c (.slice ca c.threads.length cc) d hW
 rw [<-hco] at hcode
 have hst:xY c=if co then⟨List.replicate c.threads.length default,List.replicate c.vars.toNat 0,false⟩ else⟨[], [],false⟩:=by rw [hco];rfl
 obtain⟨S,hS⟩:∃S,S=xY c:=⟨_,rfl⟩
 rw [<-hS]
 rw [hst] at hS
 have hbd:co=true->1<=c.vars/\c.vars<=4/\c.threads.length<=4:=λe=>by
  have:=xV (hco.symm.trans e);exact⟨this.1,this.2.1,this.2.2.2.2.2⟩
 obtain⟨vars,dom,cs⟩:=c
 simp only [] at h hcl hcode hbd hS ⊢
 unfold yQ
 unfold yQ at hcode
 simp only [] at hcode ⊢
 obtain⟨n,hn⟩:∃n,n=cs.length:=⟨_,rfl⟩
 rw [<-hn] at h hcl hcode hbd hS ⊢
 have hB:=zaG w (.cells #[.int .i64 vars, .int .i64 dom, .slice ca n cc] 26) (.cells #[.slice none 0 0, .slice none 0 0, .bool false] 42) (.cells #[.slice none 0 0, .slice none 0 0, .bool false] 42)
 have HB:=qh hB
 have H1:=qh (zaH w (.cells #[.int .i64 vars, .int .i64 dom, .slice ca n cc] 26) (.cells #[.slice none 0 0, .slice none 0 0, .bool false] 42) (.cells #[.slice none 0 0, .slice none 0 0, .bool false] 42))
 have H2:=qh (zau w (.cells #[.int .i64 vars, .int .i64 dom, .slice ca n cc] 26) (.cells #[.slice none 0 0, .slice none 0 0, .bool false] 42) (.cells #[.slice none 0 0, .slice none 0 0, .bool false] 42))
 have H3:=qh (zaI w (.cells #[.int .i64 vars, .int .i64 dom, .slice ca n cc] 26) (.cells #[.slice none 0 0, .slice none 0 0, .bool false] 42) (.cells #[.slice none 0 0, .slice none 0 0, .bool false] 42))
 have HT:=qh (zh.below (qD.stays d) h hB)
 have zbr:=qh hcode
 have HBD:=qh hbd
 obtain⟨nv,hnv⟩:∃nv:Nat,nv=vars.toNat:=⟨_,rfl⟩
 rw [<-hnv] at hS
 have HS:=qh hS
 have HNV:=qh hnv
 clear hnv
 clear h hB hcode hst hco hn hbd hS
 go_enter Tryz.func27,Tryz.ntmps27
 go_upto_region 2 with fail
 generalize World.alloc (World.alloc (World.alloc w _) _) _=W at HB H1 H2 H3 HT ⊢
 obtain⟨gx,hgx⟩:∃gx,gx=w.heap.size:=⟨_,rfl⟩
 rw [<-hgx] at H1 H2 H3 ⊢
 have xg:=qh hgx
 clear hgx
 have c0:=ze H1.out 0
 have c1:=ze H1.out 1
 have c2:=ze H1.out 2
 go_wp2_with fail
 refine(zbr.out W HT.out).mono ?_
 rintro e W1 ⟨rfl,hb⟩
 have HB1:=qh hb
 have HK1:=qh ((hb.block _ (zw H1.out)).trans H1.out)
 have HK2:=qh ((hb.block _ (zw H2.out)).trans H2.out)
 have HK3:=qh ((hb.block _ (zw H3.out)).trans H3.out)
 have yR:=qh (HB.out.trans (hb.mono HB.out.size))
 have hL0:=gX.begin HK3.out
 have HL0:=qh hL0
 clear hb c0 c1 c2 hL0 H1 H2 H3 zbr HT HB HB1
 have zR:Hid (∀(X:World) (ta:Option Addr) (i tc:Nat) (ma:Option Addr) (k mc:Nat),gX W1 X (gx+2) ta i tc ma k mc->
   X.heap[gx+1]? =some (.cells #[.slice none 0 0, .slice none 0 0, .bool false] 42 (0,0))/\
   (((X.setCell ⟨gx+1,0,none⟩ (.slice ta i tc)).setCell ⟨gx+1,1,none⟩ (.slice ma k mc)).setCell ⟨gx+1,2,none⟩ (.bool false)).heap[gx+1]? =some (.cells #[.slice ta i tc, .slice ma k mc, .bool false] 42 (0,0))/\
   OwnAt gx (((X.setCell ⟨gx+1,0,none⟩ (.slice ta i tc)).setCell ⟨gx+1,1,none⟩ (.slice ma k mc)).setCell ⟨gx+1,2,none⟩ (.bool false)) (.slice ta i tc) (.slice ma k mc) (List.replicate i default) (List.replicate k 0) (List.replicate i (.slice none 0 0))/\
   Below gx w (((X.setCell ⟨gx+1,0,none⟩ (.slice ta i tc)).setCell ⟨gx+1,1,none⟩ (.slice ma k mc)).setCell ⟨gx+1,2,none⟩ (.bool false))):=λX ta i tc ma k mc hL=>by
  have hlt:=zw HK2.out
  have hres:=(hL.since.block _ hlt (by omega)).trans HK2.out
  have hset:=zu (zu (zu hres 0 (.slice ta i tc)) 1 (.slice ma k mc)) 2 (.bool false)
  simp only [List.setIfInBounds_toArray,List.set_cons_zero,List.set_cons_succ] at hset
  have hS:Since (λk=>k=gx+1) X (((X.setCell ⟨gx+1,0,none⟩ (.slice ta i tc)).setCell ⟨gx+1,1,none⟩ (.slice ma k mc)).setCell ⟨gx+1,2,none⟩ (.bool false)):=Since.setCell (F:=λk=>k=gx+1) (p:=⟨gx+1,2,none⟩) (Since.setCell (F:=λk=>k=gx+1) (p:=⟨gx+1,1,none⟩) (Since.setCell (F:=λk=>k=gx+1) (p:=⟨gx+1,0,none⟩) (Since.refl _ X) (.inl rfl) _) (.inl rfl) _) (.inl rfl) _
  refine⟨hres,hset, ?_, ?_⟩
  ·have hgw:=yR.out.size
   rw [<-xg.out] at hgw
   exact(zp7 (B:=W1.heap.size) (hS.row hL.row (λx hx e=>by have:=(hL.row.lt x hx).1;omega)) (hS.row hL.mem (λx hx e=>by have:=(hL.mem.lt x hx).1;omega)) hL.dis).lower hgw
  have hb:=yR.out
  rw [<-xg.out] at hb
  have:=hb.size
  exact(hb.trans (hL.since.below (by omega) (λx e=>by omega))).trans (hS.below (by have:=hL.since.size;omega) (λx e=>by omega))
 have zzC:Hid (∀(X:World) (ta:Option Addr) (i tc:Nat) (ma:Option Addr) (k mc:Nat),gX W1 X (gx+2) ta i tc ma k mc->
   (X.cell? ⟨gx+2,0,none⟩=some (.slice ta i tc)/\X.cell? ⟨gx+2,1,none⟩=some (.slice ma k mc)/\X.cell? ⟨gx+2,2,none⟩=some (.bool false))/\
   (X.cell? ⟨gx+1,0,none⟩=some (.slice none 0 0)/\X.cell? ⟨gx+1,1,none⟩=some (.slice none 0 0)/\X.cell? ⟨gx+1,2,none⟩=some (.bool false))/\
   (X.frozen? ⟨gx+1,0,none⟩=false/\X.frozen? ⟨gx+1,1,none⟩=false/\X.frozen? ⟨gx+1,2,none⟩=false)):=λX ta i tc ma k mc hL=>by
  have hb:=hL.box
  have hr:=(zR.out X ta i tc ma k mc hL).1
  exact⟨⟨ze hb 0,ze hb 1,ze hb 2⟩,⟨ze hr 0,ze hr 1,ze hr 2⟩,⟨zA hr 0,zA hr 1,zA hr 2⟩⟩
 cases co with
 |false=>
  obtain⟨⟨a0,a1,a2⟩,⟨b0,b1,b2⟩,⟨f0,f1,f2⟩⟩:=zzC.out W1 _ _ _ _ _ _ HL0.out
  go_wp2_with fail
  (try simp only [Exit.inBlock,Exit.then])
  obtain⟨-,hset,hst,hbe⟩:=zR.out W1 _ _ _ _ _ _ HL0.out
  refine bodyPost_ret (xQ rfl _ _ (gx+1) 42 _ (0,0) _ rfl hset Tryz.underlying42 rfl zM) rfl ?_
  obtain rfl:S=⟨[], [],false⟩:=HS.out
  exact⟨⟨_,_,_,rfl,by rw [<-xg.out];exact hst⟩,by rw [<-xg.out];exact hbe⟩
 |true=>
 obtain⟨hv1,hv4,bH⟩:=HBD.out rfl
 have uy:vars=(nv:Int):=by rw [HNV.out];omega
 have hk:=HK1.out
 rw [uy] at hk hv4
 have zzD:=qh hk
 clear hk uy hv1
 have HCK:Hid (∀X,Since (λx=>x=gx+2) W1 X->X.cell? ⟨gx,0,none⟩=some (.int .i64 nv)/\X.cell? ⟨gx,2,none⟩=some (.slice ca n cc)):=λX hX=>by
  have h:=(hX.block _ (zw zzD.out) (by omega)).trans zzD.out
  exact⟨ze h 0,ze h 2⟩
 go_wp2_with fail
 go_loopg [4] n (λgg s4 wr=>∃(i tc:Nat) (ta:Option Addr),i<=n/\Hid (gg=n - i)/\s4= .int .i64 i/\Hid (gX W1 wr (gx+2) ta i tc none 0 0))
 case atStart=>exact⟨0,0,none,Nat.zero_le _,rfl,rfl,HL0.out⟩
 case round=>
 obtain⟨i,tc,ta,hi,HG,rfl,HL⟩:=hrel
 obtain⟨c0,c2⟩:=HCK.out wr HL.out.since
 by_cases hlt:i<n
 ·have qN:(i:Int)<(n:Int):=by omega
  have z0:=ze HL.out.box 0
  have HST:Hid (∀(X:World) (ja:Option Addr) (jc:Nat) (o:Obj),X.ownsRow W1.heap.size 80 6 (.slice ja (i+1) jc) (i+1) (zY (List.replicate i default) (List.replicate i (.slice none 0 0))++zkN)->Since (λx=>(Value.slice ta i tc).ownBlock=some x) (wr.alloc o) X->
   (∀x,(Value.slice ja (i+1) jc).ownBlock=some x->(Value.slice ta i tc).ownBlock=some x\/x=(wr.alloc o).heap.size)->_):=λX ja jc o h1 h2 h3=>HL.out.thread h1 h2 h3
  go_wp2_with(at_builtin;go_must(refine zI _ rfl _ _ 40 rfl 80 (.agg #[.int .i64 0, .int .i64 0, .int .i64 0, .int .i64 0, .int .i64 0, .slice none 0 0]) 6 64 Tryz.underlying40 zao rfl (by decide) W1.heap.size (.slice ta i tc) i (zY (List.replicate i default) (List.replicate i (.slice none 0 0))) rfl (HL.out.row.alloc _) ⟨wr.heap.size,0,none⟩ 1 1 zkN rfl rfl (qY _ _ _) (by decide) (by unfold maxLen;omega) (by omega) (by have:=HL.out.since.size;simp;omega) ?_);intro ja jc X e1 e2 e3 e4 e5 e6;have HE:=qh (HST.out X ja jc _ e1 e4 e5);have g0:=ze HE.out.1 0;have g1:=zA HE.out.1 0;clear e1 e2 e3 e4 e5 e6)
  go_roundg (n - (i+1))
  case measure=>rw [HG.out];omega
  case rel=>exact⟨i+1,jc,ja,by omega,rfl,by simp,HE.out.2⟩
 obtain rfl:n=i:=by omega
 go_wp2_with fail
 clear c0 c2
 go_loopg [5] nv (λgg s5 wr=>∃(k mc:Nat) (ma:Option Addr),k<=nv/\Hid (gg=nv - k)/\s5= .int .i64 k/\Hid (gX W1 wr (gx+2) ta n tc ma k mc))
 case atStart=>exact⟨0,0,none,Nat.zero_le _,rfl,rfl,HL.out⟩
 case round=>
 obtain⟨k,mc,ma,hk,HG2,rfl,HL2⟩:=hrel
 obtain⟨c0,c2⟩:=HCK.out wr HL2.out.since
 by_cases hlk:k<nv
 rotate_left
 ·obtain rfl:nv=k:=by omega
  obtain⟨⟨a0,a1,a2⟩,⟨b0,b1,b2⟩,⟨f0,f1,f2⟩⟩:=zzC.out wr _ _ _ _ _ _ HL2.out
  go_wp2_with fail
  (try simp only [Exit.inBlock,Exit.then])
  obtain⟨-,hset,hst,hbe⟩:=zR.out wr _ _ _ _ _ _ HL2.out
  refine bodyPost_ret (xQ rfl _ _ (gx+1) 42 _ (0,0) _ rfl hset Tryz.underlying42 rfl zM) rfl ?_
  obtain rfl:S=⟨List.replicate n default,List.replicate nv 0,false⟩:=HS.out
  exact⟨⟨_,_,_,rfl,by rw [<-xg.out];exact hst⟩,by rw [<-xg.out];exact hbe⟩
 have zAa:(k:Int)<(nv:Int):=by omega
 have z1:=ze HL2.out.box 1
 have HST:Hid (∀(X:World) (ja:Option Addr) (jc:Nat) (o:Obj),X.ownsRow W1.heap.size 3 1 (.slice ja (k+1) jc) (k+1) (zo yM (List.replicate k 0)++ [.int .i64 0])->Since (λx=>(Value.slice ma k mc).ownBlock=some x) (wr.alloc o) X->
  (∀x,(Value.slice ja (k+1) jc).ownBlock=some x->(Value.slice ma k mc).ownBlock=some x\/x=(wr.alloc o).heap.size)->_):=λX ja jc o h1 h2 h3=>HL2.out.more h1 h2 h3
 go_wp2_with(at_builtin;go_must(refine zI _ rfl _ _ 31 rfl 3 (.int .i64 0) 1 8 Tryz.underlying31 vg rfl (by decide) W1.heap.size (.slice ma k mc) k (zo yM (List.replicate k 0)) rfl (HL2.out.mem.alloc _) ⟨wr.heap.size,0,none⟩ 1 1 [.int .i64 0] rfl rfl (qY _ _ _) (by decide) (by unfold maxLen;omega) (by omega) (by have:=HL2.out.since.size;simp;omega) ?_);intro ja jc X e1 e2 e3 e4 e5 e6;have HE:=qh (HST.out X ja jc _ e1 e4 e5);have g0:=ze HE.out.1 1;have g1:=zA HE.out.1 1;clear e1 e2 e3 e4 e5 e6)
 go_roundg (nv - (k+1))
 case measure=>rw [HG2.out];omega
 case rel=>exact⟨k+1,jc,ja,by omega,rfl,by simp,HE.out.2⟩
theorem zjR (w:World) (c:zD) (tv:Value) (d:Nat) (h:yS d w tv c.threads):Calls Tryz.prog 27 #[yQ c tv] w λe w'=>(∃sv mv,e= .returned (yA (xY c) sv mv)/\zW (λk=>k<w.heap.size) w' (λy=>zX y (xY c) sv mv))/\Below w.heap.size w w':=
 (zrI w c tv d h).mono λ_ _ ⟨⟨sv,mv,_,he,ho⟩,hb⟩=>⟨⟨sv,mv,he,λ_ hy=>(ho.since hy (λk hk e=>by have:=(ho.row.lt k hk).1;omega) (λk hk e=>by have:=(ho.mem.lt k hk).1;omega) (λj hj k hk e=>by have:=((ho.buf j hj).lt k hk).1;omega)).state (xY c).bad⟩,hb⟩
theorem zrJ (w:World) (c:zD) (tv:Value) (d:Nat) (h:yS d w tv c.threads):Calls Tryz.prog 27 #[yQ c tv] w λe w'=>(∃sv mv,e= .returned (yA (xY c) sv mv)/\zX w' (xY c) sv mv)/\Below w.heap.size w w':=
 (zjR w c tv d h).mono λ_ _ ⟨⟨sv,mv,he,ha⟩,hb⟩=>⟨⟨sv,mv,he,ha.now⟩,hb⟩
theorem zcl {P:Program} (w:World) {ops:Array Oper} {o:Oper} {a:Act} {K:Act->World->Prop} {Q:Exit->Act->World->Prop} {E:Prop} (hw:Region.wanted o (yielded ops a.tmps)=true) (l c:Operand) (t:TypeId) (ho:o.op=Op.makeSlice t l c)
  (e:TypeId) (z:Value) (size bytes:Nat) (ht:P.underlying t=some (.slice e)) (hinfo:(P.info? e).map (λi=>(i.zero,i.size,i.bytes))=some (some z,size,bytes)) (n:Nat) (hl:a.eval l= .int .i64 (n:Int)) (hc:a.eval c= .int .i64 (n:Int))
  (h63:n<=maxLen) (hbytes:n*bytes<=281474976710656) (h:K (a.put o.dst (.slice (some ⟨w.heap.size,0,none⟩) n n)) (w.alloc (.cells (madeCells z.cells (n*size)).toList.toArray e))):if Region.wanted o (yielded ops a.tmps)=true then Oper.wp P o a w K Q else E:=by
 rw [if_pos hw]
 obtain⟨i,hi,hz,hsize,hby⟩:=info_parts hinfo
 have h63':(n:Int)<=9223372036854775807:=by have:=h63;unfold maxLen at this;omega
 have hb':(i.bytes:Int)*(n:Int)<=281474976710656:=by
  have h:((i.bytes*n:Nat):Int)<=281474976710656:=by rw [hby,Nat.mul_comm];omega
  rwa [Int.natCast_mul] at h
 have hr:=run_make (P:=P) w t e i z ht hi hz .i64 .i64 (n:Int) (n:Int) (by omega) (Int.le_refl _) hb' h63'
 unfold Oper.wp execOp
 simp only [ho,resolve,Sem.run_bind,Sem.run_pure,Result.andThen_ok,hl,hc,hr,Int.toNat_natCast,hsize]
 rw [Array.toArray_toList] at h
 exact h
theorem zp8 {z:Array Value} {n j:Nat} (h:j<n):(madeCells z n).toList[j]? =some z[j % z.size]! :=by
 rw [Array.getElem?_toList,madeCells,Array.getElem?_map,Array.getElem?_range,if_pos h];rfl
theorem zlP (n:Nat):(madeCells (Value.agg #[.int .i64 0, .int .i64 0, .int .i64 0, .int .i64 0, .int .i64 0, .slice none 0 0]).cells (n*6)).toList=zY (List.replicate n default) (List.replicate n (.slice none 0 0)):=by
 have hl:=gP (List.replicate n default) (List.replicate n (.slice none 0 0))
 rw [List.length_replicate] at hl
 apply List.ext_getElem?
 intro j
 by_cases hj:j<n*6
 rotate_left
 ·rw [List.getElem?_eq_none (by simp [size_madeCells];omega),List.getElem?_eq_none (by omega)]
 rw [zp8 hj]
 have e:j=j / 6*6+j % 6:=by omega
 have hd:(List.replicate n (default:zx)).getD (j / 6) default=default:=by simp [List.getD_eq_getElem?_getD,List.getElem?_replicate];split<;>rfl
 have hv:(List.replicate n (Value.slice none 0 0)).getD (j / 6) (.slice none 0 0)= .slice none 0 0:=by simp [List.getD_eq_getElem?_getD,List.getElem?_replicate];split<;>rfl
 have hc:=vN (l:=List.replicate n default) (bs:=List.replicate n (.slice none 0 0)) (j:=j / 6) (i:=j % 6) (by rw [List.length_replicate];omega) (by omega)
 rw [<-e,hd,hv] at hc
 rw [hc]
 have h6:j % 6=0\/j % 6=1\/j % 6=2\/j % 6=3\/j % 6=4\/j % 6=5:=by omega
 show some (#[Value.int .i64 0, .int .i64 0, .int .i64 0, .int .i64 0, .int .i64 0, .slice none 0 0][j % 6]!)=_
 rcases h6 with h|h|h|h|h|h<;>rw [h] <;>rfl
theorem zu5 (n:Nat):(madeCells (Value.int .i64 0).cells (n*1)).toList=zo yM (List.replicate n 0):=by
 rw [Nat.mul_one]
 refine(toList_madeCells_one (.int .i64 0) n).trans ?_
 induction n with
 |zero=>rfl
 |succ n ih=>rw [zkb, <-ih,List.replicate_succ']
def zkc (w:World) (s:zi) (e:Ending) (w':World):Prop:=(∃sv mv,e= .returned (yA s sv mv)/\zW (λk=>k<w.heap.size) w' (λy=>zX y s sv mv))/\Below w.heap.size w w'
theorem zkd {w X:World} {g1 g2 gr n k:Nat} (hb:Below w.heap.size w X) (h1:X.heap[g1]? =some (.cells (madeCells (Value.agg #[.int .i64 0, .int .i64 0, .int .i64 0, .int .i64 0, .int .i64 0, .slice none 0 0]).cells (n*6)).toList.toArray 80 (0,0))) (h2:X.heap[g2]? =some (.cells (madeCells (Value.int .i64 0).cells (k*1)).toList.toArray 3 (0,0)))
  (l1:w.heap.size<=g1) (l2:w.heap.size<=g2) (hn:n<=4) (hk:k<=4) (_hr:X.heap[gr]? =some (.cells #[.slice (some ⟨g1,0,none⟩) n n, .slice (some ⟨g2,0,none⟩) k k, .bool false] 42 (0,0))):
  zkc w ⟨List.replicate n default,List.replicate k 0,false⟩ (.returned (.agg #[.slice (some ⟨g1,0,none⟩) n n, .slice (some ⟨g2,0,none⟩) k k, .bool false])) X:=by
 rw [zlP] at h1
 rw [zu5] at h2
 have r1:=wP (n:=n) h1 l1 (by rw [gP,List.length_replicate]) (by unfold maxLen;omega)
 have r2:=wP (n:=k) h2 l2 (by rw [jB (f:=yM) zaC,List.length_replicate]) (by unfold maxLen;omega)
 exact⟨⟨_,_,rfl,λy hy=>znr (hy.row r1 (λx hx e=>by cases hx;exact absurd l1 (Nat.not_le.2 e))) (hy.row r2 (λx hx e=>by cases hx;exact absurd l2 (Nat.not_le.2 e)))⟩,hb⟩
theorem zp9 (w:World) (c:zD) (tv:Value) (d:Nat) (h:yS d w tv c.threads):Calls Tryz.prog 36 #[yQ c tv] w (zkc w (xY c)):=by
 obtain⟨ca,cc,rfl,hcl⟩:=zh.slice h
 obtain⟨co,hco⟩:∃co,co=codeOk c:=⟨_,rfl⟩
 have hcode:=λW (hW:yS d W (.slice ca c.threads.length cc) c.threads)=>zgE W c (.slice ca c.threads.length cc) d hW
 rw [<-hco] at hcode
 have hst:xY c=if co then⟨List.replicate c.threads.length default,List.replicate c.vars.toNat 0,false⟩ else⟨[], [],false⟩:=by rw [hco];rfl
 rw [hst]
 have hbd:co=true->1<=c.vars/\c.vars<=4/\c.threads.length<=4:=λe=>by
  have:=xV (hco.symm.trans e);exact⟨this.1,this.2.1,this.2.2.2.2.2⟩
 obtain⟨vars,dom,cs⟩:=c
 simp only [] at h hcl hcode hbd ⊢
 unfold yQ
 unfold yQ at hcode
 simp only [] at hcode ⊢
 obtain⟨n,hn⟩:∃n,n=cs.length:=⟨_,rfl⟩
 rw [<-hn] at h hcl hcode hbd ⊢
 have hl0:=(((Loc.start w).alloc 26 [.int .i64 vars, .int .i64 dom, .slice ca n cc]).alloc 42 [.slice none 0 0, .slice none 0 0, .bool false])
 have hsz:(w.alloc (.cells [.int .i64 vars, .int .i64 dom, .slice ca n cc].toArray 26)).heap.size=w.heap.size+1:=by simp
 rw [hsz] at hl0
 have HL0:=qh hl0
 clear hl0 hsz
 have HT:=qh h
 have zbr:=qh hcode
 have HBD:=qh hbd
 obtain⟨nv,hnv⟩:∃nv:Nat,nv=vars.toNat:=⟨_,rfl⟩
 rw [<-hnv]
 have HNV:=qh hnv
 obtain⟨R,hR⟩:∃R:zi,R=if co then⟨List.replicate n default,List.replicate nv 0,false⟩ else⟨[], [],false⟩:=⟨_,rfl⟩
 rw [<-hR]
 have HRR:=qh hR
 clear hR
 clear h hcode hst hco hn hbd hnv
 go_enter Tryz.func36,Tryz.ntmps36
 go_upto_region 1 with fail
 obtain⟨gx,hgx⟩:∃gx,gx=w.heap.size:=⟨_,rfl⟩
 have kU:Hid (gx+1≠gx):=by rw [Hid];omega
 rw [<-hgx] at HL0 ⊢
 generalize World.alloc (World.alloc w _) _=W at HL0 ⊢
 clear hgx
 obtain⟨n1, -⟩:=HL0.out.news (gx,26, [.int .i64 vars, .int .i64 dom, .slice ca n cc]) (List.mem_cons_of_mem _ (List.mem_cons_self ..))
 have c0:=ze n1 0
 have c1:=ze n1 1
 have c2:=ze n1 2
 clear n1
 go_wp2_with fail
 refine(zbr.out W (zh.below (qD.stays d) HT.out HL0.out.below)).mono ?_
 rintro e W1 ⟨rfl,hb⟩
 have HL:=qh (HL0.out.later hb)
 clear hb c0 c1 c2 zbr HT HL0
 cases co with
 |false=>
  obtain⟨n2, -⟩:=HL.out.news (gx+1,42, [.slice none 0 0, .slice none 0 0, .bool false]) (List.mem_cons_self ..)
  have a0:=ze n2 0
  have a1:=ze n2 1
  have a2:=ze n2 2
  have f0:=zA n2 0
  have f1:=zA n2 1
  have f2:=zA n2 2
  have HS:=qh (HL.out.store (List.mem_cons_self ..) [.slice none 0 0, .slice none 0 0, .bool false] rfl)
  clear n2
  go_wp2_with fail
  (try simp only [Exit.inBlock,Exit.then])
  obtain⟨hset, -⟩:=HS.out.news (gx+1,42, [.slice none 0 0, .slice none 0 0, .bool false]) (uS (List.mem_cons_self ..))
  have z2Q:(((W1.setCell ⟨gx+1,0,none⟩ (.slice none 0 0)).setCell ⟨gx+1,1,none⟩ (.slice none 0 0)).setCell ⟨gx+1,2,none⟩ (.bool false)).heap[gx+1]? =some (.cells #[.slice none 0 0, .slice none 0 0, .bool false] 42 (0,0)):=hset
  refine bodyPost_ret (xQ rfl _ _ (gx+1) 42 _ (0,0) _ rfl z2Q Tryz.underlying42 rfl zM) rfl ?_
  have hr:R=⟨[], [],false⟩:=HRR.out
  rw [hr]
  exact⟨⟨_,_,rfl,λy _=>⟨zh.nil _,zh.nil _⟩⟩,HS.out.below⟩
 |true=>
 obtain⟨hv1,hv4,bH⟩:=HBD.out rfl
 have uy:vars=(nv:Int):=by rw [HNV.out];omega
 subst uy
 have zzE:nv<=4:=by omega
 clear HBD HNV hv1 hv4
 have CC:Hid (∀y,Since (λk=>k=gx+1) W1 y->y.cell? ⟨gx,0,none⟩=some (.int .i64 nv)/\y.cell? ⟨gx,2,none⟩=some (.slice ca n cc)):=λy hy=>by
  obtain⟨n1, -⟩:=HL.out.news (gx,26, [.int .i64 nv, .int .i64 dom, .slice ca n cc]) (List.mem_cons_of_mem _ (List.mem_cons_self ..))
  have n3:=(hy.block gx (zw n1) (by omega)).trans n1
  exact⟨ze n3 0,ze n3 2⟩
 go_wp2_with fail
 refine jf (S:=λx=>Since (λk=>k=gx+1) W1 x) (Since.refl _ _).drew (λ_=> ?_)
 obtain⟨V1,hV1⟩:∃V1,V1=W1.drew:=⟨_,rfl⟩
 have zhx:Hid (Since (λk=>k=gx+1) W1 V1):=by rw [hV1];exact(Since.refl _ _).drew
 have hT0:=qh (HL.out.drew)
 rw [<-hV1] at hT0 ⊢
 clear hV1
 refine zF 0 zP (zhx.out) ?_
 refine zF 1 CC.out (zhx.out) ?_
 refine zF 2 zP (zhx.out) ?_
 refine zF 4 zP (zhx.out) ?_
 refine zF 5 CC.out (zhx.out) ?_
 refine wpAnyH_ready (rs:= [3,6]) (by kernel_rfl) (by simp) ?_
 refine AllReadyH.cons rfl (λK hK=> ?_) (AllReadyH.cons rfl (λK hK=> ?_) AllReadyH.nil)
 ·skip
  refine zcl V1 (by rfl) (.tmp 9) (.tmp 9) 40 rfl 80 (.agg #[.int .i64 0, .int .i64 0, .int .i64 0, .int .i64 0, .int .i64 0, .slice none 0 0]) 6 64 Tryz.underlying40 zao n (by rfl) (by rfl) (by unfold maxLen;omega) (by omega) ?_
  have uI:(gx+1)≠V1.heap.size:=hT0.out.zbB (List.mem_cons_self ..)
  have za3:=hT0.out.alloc 80 (madeCells (Value.agg #[.int .i64 0, .int .i64 0, .int .i64 0, .int .i64 0, .int .i64 0, .slice none 0 0]).cells (n*6)).toList
  have zix:=(zhx.out).alloc (.cells (madeCells (Value.agg #[.int .i64 0, .int .i64 0, .int .i64 0, .int .i64 0, .int .i64 0, .slice none 0 0]).cells (n*6)).toList.toArray 80)
  refine hK.out _ _ zix (λ_=> ?_)
  change wpAnyH _ _ _ _ _ _ _ (Act.put _ (some 10) _) _
  simp only [Act.put,kJ]
  try simp only [kK,kL]
  obtain⟨ga,hga⟩:∃n,n=V1.heap.size:=⟨_,rfl⟩
  rw [<-hga] at za3 uI ⊢
  clear hga
  replace uI:=qh uI
  generalize World.alloc V1 _=Xs2 at za3 zix ⊢
  replace za3:=qh za3
  replace zix:=qh zix
  clear hK K
  refine yC 6 rfl (λK hK=> ?_)
  refine zcl Xs2 (by rfl) (.tmp 12) (.tmp 12) 31 rfl 3 (.int .i64 0) 1 8 Tryz.underlying31 vg nv (by rfl) (by rfl) (by unfold maxLen;omega) (by omega) ?_
  have uJ:(gx+1)≠Xs2.heap.size:=za3.out.zbB (List.mem_cons_of_mem _ (List.mem_cons_self ..))
  have zhy:ga≠Xs2.heap.size:=za3.out.zbB (List.mem_cons_self ..)
  have zaT:=za3.out.alloc 3 (madeCells (Value.int .i64 0).cells (nv*1)).toList
  have zgh:=(zix.out).alloc (.cells (madeCells (Value.int .i64 0).cells (nv*1)).toList.toArray 3)
  refine hK.out _ _ zgh (λ_=> ?_)
  change wpAnyH _ _ _ _ _ _ _ (Act.put _ (some 13) _) _
  simp only [Act.put,kJ]
  try simp only [kK,kL]
  obtain⟨gm,hgm⟩:∃n,n=Xs2.heap.size:=⟨_,rfl⟩
  rw [<-hgm] at zaT uJ zhy ⊢
  clear hgm
  replace uJ:=qh uJ
  replace zhy:=qh zhy
  generalize World.alloc Xs2 _=Xs4 at zaT zgh ⊢
  replace zaT:=qh zaT
  replace zgh:=qh zgh
  clear hK K
  refine zF 7 zP (zgh.out) ?_
  refine yC 8 rfl (λK hK=> ?_)
  obtain⟨hn, -⟩:=zaT.out.news (gx+1,42, [.slice none 0 0, .slice none 0 0, .bool false]) (List.mem_cons_of_mem _ (List.mem_cons_of_mem _ (List.mem_cons_self ..)))
  have d0:=ze hn 0
  have f0:=zA hn 0
  have d1:=ze hn 1
  have f1:=zA hn 1
  have d2:=ze hn 2
  have f2:=zA hn 2
  clear hn
  have HS:=qh (zaT.out.store (g:=gx+1) (t:=42) (cs:= [.slice none 0 0, .slice none 0 0, .bool false]) (List.mem_cons_of_mem _ (List.mem_cons_of_mem _ (List.mem_cons_self ..))) [.slice (some ⟨ga,0,none⟩) n n, .slice (some ⟨gm,0,none⟩) nv nv, .bool false] rfl)
  go_simp
  clear d0 d1 d2 f0 f1 f2
  refine hK.out _ (yx Xs4 (gx+1) 0 [.slice (some ⟨ga,0,none⟩) n n, .slice (some ⟨gm,0,none⟩) nv nv, .bool false]) ((zgh.out).trans (xR _ _ _) (λ_ h=> .inl h)) (λ_=> ?_)
  obtain⟨hset, -⟩:=HS.out.news (gx+1,42, [.slice (some ⟨ga,0,none⟩) n n, .slice (some ⟨gm,0,none⟩) nv nv, .bool false]) (uS (List.mem_cons_of_mem _ (List.mem_cons_of_mem _ (List.mem_cons_self ..))))
  obtain⟨hga,hla⟩:=HS.out.news (ga,80,(madeCells (Value.agg #[.int .i64 0, .int .i64 0, .int .i64 0, .int .i64 0, .int .i64 0, .slice none 0 0]).cells (n*6)).toList) (jL (p:=(ga,80,(madeCells (Value.agg #[.int .i64 0, .int .i64 0, .int .i64 0, .int .i64 0, .int .i64 0, .slice none 0 0]).cells (n*6)).toList)) (List.mem_cons_of_mem _ (List.mem_cons_self ..)) (by simpa using (Ne.symm uI.out)))
  obtain⟨hgm,hlm⟩:=HS.out.news (gm,3,(madeCells (Value.int .i64 0).cells (nv*1)).toList) (jL (p:=(gm,3,(madeCells (Value.int .i64 0).cells (nv*1)).toList)) (List.mem_cons_self ..) (by simpa using (Ne.symm uJ.out)))
  have zR:=qh (zkd (w:=w) HS.out.below hga hgm hla hlm bH zzE hset)
  have zJ:=qh hset
  clear hga hgm hla hlm hset HS
  generalize yx Xs4 (gx+1) 0 _=Xs5 at zR zJ ⊢
  clear hK K
  refine xW ?_
  go_wp2_with fail
  (try simp only [Exit.inBlock,Exit.then])
  refine bodyPost_ret (xQ rfl _ _ (gx+1) 42 _ (0,0) _ rfl zJ.out Tryz.underlying42 rfl zM) rfl ?_
  have hr:R=⟨List.replicate n default,List.replicate nv 0,false⟩:=HRR.out
  rw [hr]
  exact zR.out
 skip
 refine zcl V1 (by rfl) (.tmp 12) (.tmp 12) 31 rfl 3 (.int .i64 0) 1 8 Tryz.underlying31 vg nv (by rfl) (by rfl) (by unfold maxLen;omega) (by omega) ?_
 have uJ:(gx+1)≠V1.heap.size:=hT0.out.zbB (List.mem_cons_self ..)
 have zhz:=hT0.out.alloc 3 (madeCells (Value.int .i64 0).cells (nv*1)).toList
 have ziz:=(zhx.out).alloc (.cells (madeCells (Value.int .i64 0).cells (nv*1)).toList.toArray 3)
 refine hK.out _ _ ziz (λ_=> ?_)
 change wpAnyH _ _ _ _ _ _ _ (Act.put _ (some 13) _) _
 simp only [Act.put,kJ]
 try simp only [kK,kL]
 obtain⟨gm,hgm⟩:∃n,n=V1.heap.size:=⟨_,rfl⟩
 rw [<-hgm] at zhz uJ ⊢
 clear hgm
 replace uJ:=qh uJ
 generalize World.alloc V1 _=Xs7 at zhz ziz ⊢
 replace zhz:=qh zhz
 replace ziz:=qh ziz
 clear hK K
 refine yC 3 rfl (λK hK=> ?_)
 refine zcl Xs7 (by rfl) (.tmp 9) (.tmp 9) 40 rfl 80 (.agg #[.int .i64 0, .int .i64 0, .int .i64 0, .int .i64 0, .int .i64 0, .slice none 0 0]) 6 64 Tryz.underlying40 zao n (by rfl) (by rfl) (by unfold maxLen;omega) (by omega) ?_
 have uI:(gx+1)≠Xs7.heap.size:=zhz.out.zbB (List.mem_cons_of_mem _ (List.mem_cons_self ..))
 have zh0:gm≠Xs7.heap.size:=zhz.out.zbB (List.mem_cons_self ..)
 have zjt:=zhz.out.alloc 80 (madeCells (Value.agg #[.int .i64 0, .int .i64 0, .int .i64 0, .int .i64 0, .int .i64 0, .slice none 0 0]).cells (n*6)).toList
 have zgi:=(ziz.out).alloc (.cells (madeCells (Value.agg #[.int .i64 0, .int .i64 0, .int .i64 0, .int .i64 0, .int .i64 0, .slice none 0 0]).cells (n*6)).toList.toArray 80)
 refine hK.out _ _ zgi (λ_=> ?_)
 change wpAnyH _ _ _ _ _ _ _ (Act.put _ (some 10) _) _
 simp only [Act.put,kJ]
 try simp only [kK,kL]
 obtain⟨ga,hga⟩:∃n,n=Xs7.heap.size:=⟨_,rfl⟩
 rw [<-hga] at zjt uI zh0 ⊢
 clear hga
 replace uI:=qh uI
 replace zh0:=qh zh0
 generalize World.alloc Xs7 _=Xs9 at zjt zgi ⊢
 replace zjt:=qh zjt
 replace zgi:=qh zgi
 clear hK K
 refine zF 7 zP (zgi.out) ?_
 refine yC 8 rfl (λK hK=> ?_)
 obtain⟨hn, -⟩:=zjt.out.news (gx+1,42, [.slice none 0 0, .slice none 0 0, .bool false]) (List.mem_cons_of_mem _ (List.mem_cons_of_mem _ (List.mem_cons_self ..)))
 have d0:=ze hn 0
 have f0:=zA hn 0
 have d1:=ze hn 1
 have f1:=zA hn 1
 have d2:=ze hn 2
 have f2:=zA hn 2
 clear hn
 have HS:=qh (zjt.out.store (g:=gx+1) (t:=42) (cs:= [.slice none 0 0, .slice none 0 0, .bool false]) (List.mem_cons_of_mem _ (List.mem_cons_of_mem _ (List.mem_cons_self ..))) [.slice (some ⟨ga,0,none⟩) n n, .slice (some ⟨gm,0,none⟩) nv nv, .bool false] rfl)
 go_simp
 clear d0 d1 d2 f0 f1 f2
 refine hK.out _ (yx Xs9 (gx+1) 0 [.slice (some ⟨ga,0,none⟩) n n, .slice (some ⟨gm,0,none⟩) nv nv, .bool false]) ((zgi.out).trans (xR _ _ _) (λ_ h=> .inl h)) (λ_=> ?_)
 obtain⟨hset, -⟩:=HS.out.news (gx+1,42, [.slice (some ⟨ga,0,none⟩) n n, .slice (some ⟨gm,0,none⟩) nv nv, .bool false]) (uS (List.mem_cons_of_mem _ (List.mem_cons_of_mem _ (List.mem_cons_self ..))))
 obtain⟨hga,hla⟩:=HS.out.news (ga,80,(madeCells (Value.agg #[.int .i64 0, .int .i64 0, .int .i64 0, .int .i64 0, .int .i64 0, .slice none 0 0]).cells (n*6)).toList) (jL (p:=(ga,80,(madeCells (Value.agg #[.int .i64 0, .int .i64 0, .int .i64 0, .int .i64 0, .int .i64 0, .slice none 0 0]).cells (n*6)).toList)) (List.mem_cons_self ..) (by simpa using (Ne.symm uI.out)))
 obtain⟨hgm,hlm⟩:=HS.out.news (gm,3,(madeCells (Value.int .i64 0).cells (nv*1)).toList) (jL (p:=(gm,3,(madeCells (Value.int .i64 0).cells (nv*1)).toList)) (List.mem_cons_of_mem _ (List.mem_cons_self ..)) (by simpa using (Ne.symm uJ.out)))
 have zR:=qh (zkd (w:=w) HS.out.below hga hgm hla hlm bH zzE hset)
 have zJ:=qh hset
 clear hga hgm hla hlm hset HS
 generalize yx Xs9 (gx+1) 0 _=zpA at zR zJ ⊢
 clear hK K
 refine xW ?_
 go_wp2_with fail
 (try simp only [Exit.inBlock,Exit.then])
 refine bodyPost_ret (xQ rfl _ _ (gx+1) 42 _ (0,0) _ rfl zJ.out Tryz.underlying42 rfl zM) rfl ?_
 have hr:R=⟨List.replicate n default,List.replicate nv 0,false⟩:=HRR.out
 rw [hr]
 exact zR.out
