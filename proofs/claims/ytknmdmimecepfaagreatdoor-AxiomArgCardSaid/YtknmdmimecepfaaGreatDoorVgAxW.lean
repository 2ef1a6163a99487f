/- Steps. -/
import Derived.Test.YtknmdmimecepfaaGreatDoorVgAxK
set_option linter.all false
namespace Go.Proofs.YtknmdmimecepfaaGreatDoor
open Go.RowKit
set_option maxRecDepth 100000
set_option maxHeartbeats 16000000
abbrev ze.th (W:ze) (i:Nat):zR:=W.zO.getD i default
def ze.setAt (W:ze) (i a:Nat):ze:=W.put i ⟨a,(W.th i).regs,(W.th i).evs,(W.th i).many⟩
def ze.zW (W:ze) (i k:Nat) (x:Int):ze:=W.put i ⟨(W.th i).at_,(W.th i).regs.set k x,(W.th i).evs,(W.th i).many⟩
def ze.yV (W:ze) (i j:Nat) (e:yg):ze:=W.put i ⟨(W.th i).at_,(W.th i).regs,(W.th i).evs.set j e,(W.th i).many⟩
def ze.setMany (W:ze) (i n:Nat):ze:=W.put i ⟨(W.th i).at_,(W.th i).regs,(W.th i).evs,n⟩
def ze.ql (W:ze) (v:Nat) (x:Int):ze:=⟨W.zO,W.mem.set v x,W.fails⟩
def ze.vD (W:ze) (b:Bool):ze:=⟨W.zO,W.mem,b⟩
section
variable {W:ze} (h:W.ok) {i:Nat} (hi:i<4)
include h
theorem ze.zam (v:Nat) (x:Int):(W.ql v x).ok:=⟨h.zO,by simp [ze.ql,h.mem],h.each⟩
theorem ze.za6 (b:Bool):(W.vD b).ok:=⟨h.zO,h.mem,h.each⟩
include hi
theorem ze.jH (a:Nat):(W.setAt i a).ok:=ze.zcd h i ⟨(ze.xB h hi).regs,(ze.xB h hi).evs,(ze.xB h hi).many⟩
theorem ze.jV (k:Nat) (x:Int):(W.zW i k x).ok:=ze.zcd h i ⟨by rw [List.length_set];exact(ze.xB h hi).regs,(ze.xB h hi).evs,(ze.xB h hi).many⟩
theorem ze.zdK (j:Nat) (e:yg):(W.yV i j e).ok:=ze.zcd h i ⟨(ze.xB h hi).regs,by rw [List.length_set];exact(ze.xB h hi).evs,(ze.xB h hi).many⟩
theorem ze.ze6 {n:Nat} (hn:n<=8):(W.setMany i n).ok:=ze.zcd h i ⟨(ze.xB h hi).regs,(ze.xB h hi).evs,hn⟩
end
section
variable {w:World} {g:Nat} {W:ze} (h:zC w g W) {i:Nat} (hi:i<4)
include h
theorem zC.ql {v:Nat} (hv:v<4) (x:Int):zC (w.setCell ⟨g,216+v,none⟩ (.int .i64 x)) g (W.ql v x):=h.store (ze.zqC h.ok hv x) (ze.zam h.ok v x)
theorem zC.vD (b:Bool):zC (w.setCell ⟨g,220,none⟩ (.bool b)) g (W.vD b):=h.store (ze.zne h.ok b) (ze.za6 h.ok b)
include hi
theorem zC.setAt (a:Nat):zC (w.setCell ⟨g,i*54,none⟩ (.int .i64 a)) g (W.setAt i a):=
 h.store (k:=i*54+0) (ze.zfo h.ok hi (by omega) (zR.zsW _ a)) (ze.jH h.ok hi a)
theorem zC.zW {k:Nat} (hk:k<4) (x:Int):zC (w.setCell ⟨g,i*54+1+k,none⟩ (.int .i64 x)) g (W.zW i k x):=by
 rw [Nat.add_assoc]
 exact h.store (ze.zfo h.ok hi (by omega) (zR.zqB (ze.xB h.ok hi) hk x)) (ze.jV h.ok hi k x)
theorem zC.yV {j k:Nat} (hj:j<8) (hk:k<6) {e:yg} {u:Value} (he:e.cells=((W.th i).evs.getD j default).cells.set k u):zC (w.setCell ⟨g,i*54+5+j*6+k,none⟩ u) g (W.yV i j e):=by
 rw [show i*54+5+j*6+k=i*54+(5+j*6+k) by omega]
 exact h.store (ze.zfo h.ok hi (by omega) (zR.zsX (ze.xB h.ok hi) hj hk he)) (ze.zdK h.ok hi j e)
theorem zC.setMany {n:Nat} (hn:n<=8):zC (w.setCell ⟨g,i*54+53,none⟩ (.int .i64 n)) g (W.setMany i n):=
 h.store (ze.zfo h.ok hi (by omega) (zR.zpd (ze.xB h.ok hi) n)) (ze.ze6 h.ok hi hn)
end
theorem ze.zab {W:ze} (h:W.ok) {i j:Nat} (hi:i<4) (hj:j<8) (e:yg):((W.yV i j e).th i).evs.getD j default=e:=by
 unfold ze.yV ze.th
 rw [ze.zaa h hi]
 simp only []
 rw [List.getD_eq_getElem?_getD,List.getElem?_set_self (by rw [(ze.xB h hi).evs];exact hj)];rfl
theorem ze.kS {W:ze} (h:W.ok) {i:Nat} (hi:i<4) (j:Nat) (e f:yg):(W.yV i j e).yV i j f=W.yV i j f:=by
 show ze.put (ze.put _ _ _) _ _=ze.put _ _ _
 have e1:(W.yV i j e).th i=_:=ze.zaa h hi _
 rw [e1]
 unfold ze.put
 simp only [List.set_set]
theorem zC.ztF {w:World} {g:Nat} {W:ze} (h:zC w g W) {i j:Nat} (hi:i<4) (hj:j<8) (e:yg):zC (w.setCells g (i*54+5+j*6) e.cells) g (W.yV i j e):=by
 obtain⟨v,n,r,s,f,c⟩:=e
 show zC ((((((w.setCell ⟨g,i*54+5+j*6+0,none⟩ (.int .i64 v)).setCell ⟨g,i*54+5+j*6+1,none⟩ (.int .i64 n)).setCell ⟨g,i*54+5+j*6+2,none⟩ (.bool r)).setCell ⟨g,i*54+5+j*6+3,none⟩ (.bool s)).setCell ⟨g,i*54+5+j*6+4,none⟩ (.bool f)).setCell ⟨g,i*54+5+j*6+5,none⟩ (.bool c)) g _
 obtain⟨e0,he⟩:∃e0,(W.th i).evs.getD j default=e0:=⟨_,rfl⟩
 obtain⟨v0,n0,r0,s0,f0,c0⟩:=e0
 have g0:=h.yV hi hj (k:=0) (by omega) (e:=⟨v,n0,r0,s0,f0,c0⟩) (u:= .int .i64 v) (by rw [he];rfl)
 have g1:=g0.yV hi hj (k:=1) (by omega) (e:=⟨v,n,r0,s0,f0,c0⟩) (u:= .int .i64 n) (by rw [ze.zab h.ok hi hj];rfl)
 rw [ze.kS h.ok hi] at g1
 have g2:=g1.yV hi hj (k:=2) (by omega) (e:=⟨v,n,r,s0,f0,c0⟩) (u:= .bool r) (by rw [ze.zab h.ok hi hj];rfl)
 rw [ze.kS h.ok hi] at g2
 have g3:=g2.yV hi hj (k:=3) (by omega) (e:=⟨v,n,r,s,f0,c0⟩) (u:= .bool s) (by rw [ze.zab h.ok hi hj];rfl)
 rw [ze.kS h.ok hi] at g3
 have g4:=g3.yV hi hj (k:=4) (by omega) (e:=⟨v,n,r,s,f,c0⟩) (u:= .bool f) (by rw [ze.zab h.ok hi hj];rfl)
 rw [ze.kS h.ok hi] at g4
 have g5:=g4.yV hi hj (k:=5) (by omega) (e:=⟨v,n,r,s,f,c⟩) (u:= .bool c) (by rw [ze.zab h.ok hi hj];rfl)
 rw [ze.kS h.ok hi] at g5
 exact g5
theorem pU {g:Nat} (l:List Value):∀(X:World) (j:Nat),Since (λk=>k=g) X (X.setCells g j l):=by
 induction l with
 |nil=>intro X j;exact Since.refl _ _
 |cons u l ih=>
 intro X j
 exact(Since.setCell (F:=λk=>k=g) (p:=⟨g,j,none⟩) (Since.refl _ X) (.inl rfl) u).trans (ih _ _) (λ_ h=> .inl h)
end Go.Proofs.YtknmdmimecepfaaGreatDoor
namespace Go.Proofs.YtknmdmimecepfaaGreatDoor
open Go.RowKit
set_option maxRecDepth 100000
set_option maxHeartbeats 16000000
theorem zkL {c:Prop} [Decidable c] {A B:Prop} (h:c) (a:A):if c then A else B:=by rw [if_pos h];exact a
def ze.yP (W:ze) (i:Nat) (e:yg):ze:=(W.yV i (W.th i).many e).setMany i ((W.th i).many+1)
theorem zC.there {w:World} {g:Nat} {W:ze} (h:zC w g W) {o n:Nat} (ho:o+n<=221):w.there g o n:=λj hj=>by
 refine⟨?_,h.free _⟩
 have hl:=ze.qc h.ok
 have:o+j<W.cells.length:=by omega
 rw [h.cell (List.getElem?_eq_getElem this)];rfl
def yR (g:Nat) (w w':World):Prop:=Since (λk=>k=g) w w'
theorem zbR (w:World) (g:Nat) (W:ze) (hW:zC w g W) (i:Nat) (hi:i<4) (hm:(W.th i).many<8) (e:yg):
  Calls Tryz.prog 42 #[.pointer (some ⟨g,i*54,none⟩),e.val] w λr w'=>r= .returned (.tuple #[])/\zC w' g (W.yP i e)/\yR g w w':=by
 obtain⟨W',hW'⟩:∃V,V=W.yP i e:=⟨_,rfl⟩
 rw [<-hW']
 unfold ze.yP at hW'
 have hme:((W.yV i (W.th i).many e).th i).many=(W.th i).many:=by
  unfold ze.yV
  show((W.put i _).zO.getD i default).many=_
  rw [ze.zaa hW.ok hi]
 have hcells:e.cells= [.int .i64 e.v, .int .i64 e.n, .bool e.reads, .bool e.writes, .bool e.fence, .bool e.come] :=rfl
 have hput:=λX (hX:zC X g W)=>hX.ztF hi hm e
 obtain⟨ev,en,er,ew,ef,ec⟩:=e
 rw [hcells] at hput
 unfold yg.val
 simp only [] at hput ⊢
 obtain⟨m,hmm⟩:∃m,m=(W.th i).many:=⟨_,rfl⟩
 rw [<-hmm] at hm hW' hme hput
 have HB:=qh (zK w (.cells #[.int .i64 ev, .int .i64 en, .bool er, .bool ew, .bool ef, .bool ec] 61))
 have H1:=qh (zT w (.cells #[.int .i64 ev, .int .i64 en, .bool er, .bool ew, .bool ef, .bool ec] 61))
 have HW:=qh (hW.later HB.out)
 have HLT:=qh (zB hW.blk)
 have zdF:=qh hput
 have HME:=qh hme
 have HMM:=qh hmm
 have HW':=qh hW'
 clear hW hput hme hmm hW' hcells
 go_enter Tryz.func42,Tryz.ntmps42
 go_upto_region 1 with fail
 generalize World.alloc w _=X at HB H1 HW ⊢
 obtain⟨gs,hgs⟩:∃gs,gs=w.heap.size:=⟨_,rfl⟩
 rw [<-hgs] at H1 HLT ⊢
 have HGS:=qh hgs
 clear hgs
 have hmI:(m:Int)<8:=by omega
 have hm0:(0:Int)<=(m:Int):=by omega
 have CC:Hid (∀x,Below X.heap.size X x->x.cell? ⟨gs,0,none⟩=some (.int .i64 ev)/\x.cell? ⟨gs,1,none⟩=some (.int .i64 en)/\x.cell? ⟨gs,2,none⟩=some (.bool er)/\x.cell? ⟨gs,3,none⟩=some (.bool ew)/\x.cell? ⟨gs,4,none⟩=some (.bool ef)/\x.cell? ⟨gs,5,none⟩=some (.bool ec)/\x.cell? ⟨g,i*54+53,none⟩=some (.int .i64 (m:Int))):=λx hx=>
  ⟨zi hx _ _ (za H1.out 0),zi hx _ _ (za H1.out 1),zi hx _ _ (za H1.out 2),zi hx _ _ (za H1.out 3),zi hx _ _ (za H1.out 4),zi hx _ _ (za H1.out 5),by have:=zi hx _ _ (HW.out.many hi);rwa [<-HMM.out] at this⟩
 refine wp_region_noPanic ?_
 refine xD (n0:=9) (S:=λx=>Below X.heap.size X x) (by kernel_rfl) ((Below.refl _ _).drew) (λhT=> ?_)
 refine yC 0 (λ_=>hT) ?_
 refine yC 1 (λ_=>hT) ?_
 refine yC 2 (λ_=>hT) ?_
 refine yC 3 (λ_=>hT) ?_
 refine wZ [8,9] 4 CC.out hT ?_
 refine wZ [8,9] 5 CC.out hT ?_
 refine yC 6 (λ_=>hT) ?_
 refine yC 7 (λ_=>hT) ?_
 refine yC 8 (λ_=>hT) ?_
 refine gy 9 rfl (λK hK=> ?_)
 refine zkL (by rfl) ?_
 refine wp_store_mid _ _ _ rfl (g) (i*54+5+m*6) #[.int .i64 ev, .int .i64 en, .bool er, .bool ew, .bool ef, .bool ec] (by rfl) (by rfl) ((HW.out.later hT).there (by simp;omega)) (by kernel_rfl) (by simp [Value.oneCell']) ?_
 refine hK.out _ _ (λh=>absurd rfl h) ?_
 clear hK K
 change yU _ _ _ _ _ _ _ _ (Act.put _ none _) _
 simp only [Act.put]
 refine qI (by kernel_rfl) ?_ _
 refine NoPanic.normal ?_
 have hw2:=zdF.out X.drew (HW.out.later (Below.refl _ _).drew)
 have hs2:=pU (g:=g) [.int .i64 ev, .int .i64 en, .bool er, .bool ew, .bool ef, .bool ec] X.drew (i*54+5+m*6)
 have HS2:Hid (yR g w (X.drew.setCells g (i*54+5+m*6) [.int .i64 ev, .int .i64 en, .bool er, .bool ew, .bool ef, .bool ec])):=(zH _ HB.out.drew).trans hs2 (λ_ h=> .inl h)
 have HW2:=qh hw2
 have q0:(X.drew.setCells g (i*54+5+m*6) [.int .i64 ev, .int .i64 en, .bool er, .bool ew, .bool ef, .bool ec]).cell? ⟨g,i*54+53,none⟩=some (.int .i64 (m:Int)):=by
  have:=hw2.many hi
  rwa [show((W.yV i m _).zO.getD i default).many=m from HME.out] at this
 have q1:=hw2.free (i*54+53)
 clear hw2 hs2
 have hsm:(.int .i64 ((m:Int)+1):Value)= .int .i64 ((m+1:Nat):Int):=by simp
 have HSM:=qh hsm
 clear hsm
 generalize X.drew.setCells g _ _=Y at HW2 HS2 q0 q1 ⊢
 go_wp2_with fail
 (try simp only [Exit.inBlock,Exit.then]);(try rw [Exit.noGoto_normal]);first|refine bodyPost_end (results_none rfl _ _ _) rfl ?_|refine bodyPost_ret (results_none rfl _ _ _) rfl ?_
 rw [HW'.out]
 have hfin:=HW2.out.setMany hi (n:=m+1) (by omega)
 rw [<-HSM.out] at hfin
 exact⟨rfl,hfin,HS2.out.setCell (p:=⟨g,i*54+53,none⟩) (.inl rfl) _⟩
structure j6 (V w:World) (mb:Nat) (c:zo) (cv:Value) (d:Nat) (model:Int):Prop where
 base:Below V.heap.size V w
 code:yw d V cv c.threads
 dom:w.cell? ⟨mb,1,none⟩=some (.int .i64 c.domain)
 rows:w.cell? ⟨mb,2,none⟩=some cv
 mod:w.cell? ⟨mb,3,none⟩=some (.int .i64 model)
 lt:mb<w.heap.size
theorem j6.since {F:Nat->Prop} {V w w':World} {mb:Nat} {c:zo} {cv:Value} {d:Nat} {model:Int} (h:j6 V w mb c cv d model) (hs:Since F w w') (hF:∀k,F k->V.heap.size<=k) (hm:¬F mb):j6 V w' mb c cv d model:=
 ⟨h.base.trans (hs.below h.base.size hF),h.code,(hs.cell (p:=⟨mb,1,none⟩) h.lt hm).trans h.dom,(hs.cell (p:=⟨mb,2,none⟩) h.lt hm).trans h.rows,(hs.cell (p:=⟨mb,3,none⟩) h.lt hm).trans h.mod,Nat.lt_of_lt_of_le h.lt hs.size⟩
theorem j6.later {V w w':World} {mb:Nat} {c:zo} {cv:Value} {d:Nat} {model:Int} (h:j6 V w mb c cv d model) (hb:Below w.heap.size w w'):j6 V w' mb c cv d model:=
 h.since (zH (λ_=>False) hb) (λ_ h=>h.elim) (λh=>h)
def yF (c:zo):Bool:=(List.range c.threads.length).all λi=>(List.range (c.threads.getD i []).length).all λk=> !xg ((c.threads.getD i []).getD k default).op||decide ((k:Int)<((c.threads.getD i []).getD k default).dest)
def xZ (dom:Int) (d:Nat) (x:zl) (i:Nat) (W:ze):ze:=
 if x.op=3 then(W.setAt i ((W.th i).at_+1)).zW i x.reg.toNat (yO (W.th i).regs dom d x.a)
 else if x.op=9 then(W.setAt i ((W.th i).at_+1)).vD (W.fails||decide (yO (W.th i).regs dom d x.a=0))
 else if x.op=13\/(x.op=12/\yO (W.th i).regs dom d x.a=0) then W.setAt i x.dest.toNat
 else W.setAt i ((W.th i).at_+1)
def zN (model dom:Int) (d:Nat) (l:List zl) (i:Nat):Nat->ze->ze
 |0,W=>W
 |n+1,W=>if (W.th i).at_<l.length then(if qK model (l.getD (W.th i).at_ default).op then W else zN model dom d l i n (xZ dom d (l.getD (W.th i).at_ default) i W)) else W
theorem ze.qA {W:ze} (h:W.ok) {i:Nat} (hi:i<4) (a:Nat):(W.setAt i a).th i=⟨a,(W.th i).regs,(W.th i).evs,(W.th i).many⟩:=ze.zaa h hi _
theorem ze.zi2 {W:ze} (h:W.ok) {i:Nat} (hi:i<4) (a b:Nat):(W.setAt i a).setAt i b=W.setAt i b:=by
 have e:=ze.qA h hi a
 show ze.put _ _ _=_
 rw [e]
 unfold ze.setAt ze.put
 simp only [List.set_set]
theorem ze.wh {W:ze} (h:W.ok) {i:Nat} (hi:i<4) (k:Nat) (x:Int):(W.zW i k x).th i=⟨(W.th i).at_,(W.th i).regs.set k x,(W.th i).evs,(W.th i).many⟩:=ze.zaa h hi _
theorem ze.zdL {W:ze} (h:W.ok) {i:Nat} (hi:i<4) (j:Nat) (e:yg):(W.yV i j e).th i=⟨(W.th i).at_,(W.th i).regs,(W.th i).evs.set j e,(W.th i).many⟩:=ze.zaa h hi _
theorem ze.zkM {W:ze} (h:W.ok) {i:Nat} (hi:i<4) (n:Nat):(W.setMany i n).th i=⟨(W.th i).at_,(W.th i).regs,(W.th i).evs,n⟩:=ze.zaa h hi _
theorem ze.bQ {W:ze} (h:W.ok) {i:Nat} (hi:i<4) (e:yg):(W.yP i e).th i=⟨(W.th i).at_,(W.th i).regs,(W.th i).evs.set (W.th i).many e,(W.th i).many+1⟩:=by
 unfold ze.yP
 rw [ze.zkM (ze.zdK h hi _ _) hi,ze.zdL h hi]
theorem zpf {W:ze} (h:W.ok) {i:Nat} (hi:i<4) (dom:Int) (d:Nat) (x:zl):((xZ dom d x i W).th i).at_=if x.op=13\/(x.op=12/\yO (W.th i).regs dom d x.a=0) then x.dest.toNat else(W.th i).at_+1:=by
 unfold xZ
 by_cases h3:x.op=3
 ·rw [if_pos h3,if_neg (by omega),ze.wh (ze.jH h hi _) hi,ze.qA h hi]
 rw [if_neg h3]
 by_cases h9:x.op=9
 ·rw [if_pos h9,if_neg (by omega)]
  show((W.setAt i _).th i).at_=_
  rw [ze.qA h hi]
 rw [if_neg h9]
 split
 ·rw [ze.qA h hi]
 rw [ze.qA h hi]
theorem zg4 {W:ze} (h:W.ok) {i:Nat} (hi:i<4) (dom:Int) (d:Nat) (x:zl):(xZ dom d x i W).ok:=by
 unfold xZ
 split
 ·exact ze.jV (ze.jH h hi _) hi _ _
 split
 ·exact ze.za6 (ze.jH h hi _) _
 split
 ·exact ze.jH h hi _
 exact ze.jH h hi _
def uo (l:List zl):Prop:=∀k,k<l.length->(0<=(l.getD k default).reg/\(l.getD k default).reg<4)/\(0<=(l.getD k default).var/\(l.getD k default).var<4)/\(xg (l.getD k default).op=true->(k:Int)<(l.getD k default).dest/\(l.getD k default).dest<=l.length)
theorem zpg {op:Int} (h:op=13\/op=12):xg op=true:=by
 rcases h with rfl|rfl<;>rfl
theorem zee {W:ze} (h:W.ok) {i:Nat} (hi:i<4) {l:List zl} (hl:uo l) (ha:(W.th i).at_<l.length) (dom:Int) (d:Nat):
  (W.th i).at_<((xZ dom d (l.getD (W.th i).at_ default) i W).th i).at_/\((xZ dom d (l.getD (W.th i).at_ default) i W).th i).at_<=l.length:=by
 rw [zpf h hi]
 split
 ·rename_i hc
  have:=(hl _ ha).2.2 (zpg (hc.imp id (·.1)))
  omega
 omega
