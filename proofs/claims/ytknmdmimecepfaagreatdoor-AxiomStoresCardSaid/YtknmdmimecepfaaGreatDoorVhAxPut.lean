/- Steps. -/
import Derived.Test.YtknmdmimecepfaaGreatDoorVhAxK
import Derived.Test.YtknmdmimecepfaaGreatDoorVhAxW
set_option linter.all false
namespace Go.Proofs.YtknmdmimecepfaaGreatDoor
open Go.RowKit
set_option maxRecDepth 100000
set_option maxHeartbeats 16000000
theorem zhP {c:Prop} [Decidable c] {A B:Prop} (h:c) (a:A):if c then A else B:=by rw [if_pos h];exact a
def za.yh (W:za) (i:Nat) (e:zP):za:=(W.yF i (W.th i).many e).setMany i ((W.th i).many+1)
theorem zo.there {w:World} {g:Nat} {W:za} (h:zo w g W) {o n:Nat} (ho:o+n<=221):w.there g o n:=λj hj=>by
 refine⟨?_,h.free _⟩
 have hl:=za.xk h.ok
 have:o+j<W.cells.length:=by omega
 rw [h.cell (List.getElem?_eq_getElem this)];rfl
def yC (g:Nat) (w w':World):Prop:=Since (λk=>k=g) w w'
theorem zbk (w:World) (g:Nat) (W:za) (hW:zo w g W) (i:Nat) (hi:i<4) (hm:(W.th i).many<8) (e:zP):
  Calls Tryz.prog 42 #[.pointer (some ⟨g,i*54,none⟩),e.val] w λr w'=>r= .returned (.tuple #[])/\zo w' g (W.yh i e)/\yC g w w':=by
 obtain⟨W',hW'⟩:∃V,V=W.yh i e:=⟨_,rfl⟩
 rw [<-hW']
 unfold za.yh at hW'
 have hme:((W.yF i (W.th i).many e).th i).many=(W.th i).many:=by
  unfold za.yF
  show((W.put i _).zD.getD i default).many=_
  rw [za.ug hW.ok hi]
 have hcells:e.cells= [.int .i64 e.v, .int .i64 e.n, .bool e.reads, .bool e.writes, .bool e.fence, .bool e.come] :=rfl
 have hput:=λX (hX:zo X g W)=>hX.zoS hi hm e
 obtain⟨ev,en,er,ew,ef,ec⟩:=e
 rw [hcells] at hput
 unfold zP.val
 simp only [] at hput ⊢
 obtain⟨m,hmm⟩:∃m,m=(W.th i).many:=⟨_,rfl⟩
 rw [<-hmm] at hm hW' hme hput
 have HB:=qh (zw w (.cells #[.int .i64 ev, .int .i64 en, .bool er, .bool ew, .bool ef, .bool ec] 61))
 have H1:=qh (yG w (.cells #[.int .i64 ev, .int .i64 en, .bool er, .bool ew, .bool ef, .bool ec] 61))
 have HW:=qh (hW.later HB.out)
 have HLT:=qh (zI hW.blk)
 have zct:=qh hput
 have HME:=qh hme
 have HMM:=qh hmm
 have HW':=qh hW'
 clear hW hput hme hmm hW' hcells
 go_enter Tryz.func42,Tryz.ntmps42
 go_upto_region 1 with fail
 generalize World.alloc w _=X at HB H1 HW ⊢
 obtain⟨gs,hgs⟩:∃gs,gs=w.heap.size:=⟨_,rfl⟩
 rw [<-hgs] at H1 HLT ⊢
 have HGS:=qh hgs
 clear hgs
 have hmI:(m:Int)<8:=by omega
 have hm0:(0:Int)<=(m:Int):=by omega
 have CC:Hid (∀x,Below X.heap.size X x->x.cell? ⟨gs,0,none⟩=some (.int .i64 ev)/\x.cell? ⟨gs,1,none⟩=some (.int .i64 en)/\x.cell? ⟨gs,2,none⟩=some (.bool er)/\x.cell? ⟨gs,3,none⟩=some (.bool ew)/\x.cell? ⟨gs,4,none⟩=some (.bool ef)/\x.cell? ⟨gs,5,none⟩=some (.bool ec)/\x.cell? ⟨g,i*54+53,none⟩=some (.int .i64 (m:Int))):=λx hx=>
  ⟨zk hx _ _ (ze H1.out 0),zk hx _ _ (ze H1.out 1),zk hx _ _ (ze H1.out 2),zk hx _ _ (ze H1.out 3),zk hx _ _ (ze H1.out 4),zk hx _ _ (ze H1.out 5),by have:=zk hx _ _ (HW.out.many hi);rwa [<-HMM.out] at this⟩
 refine wp_region_noPanic ?_
 refine yM (n0:=9) (S:=λx=>Below X.heap.size X x) (by kernel_rfl) ((Below.refl _ _).drew) (λhT=> ?_)
 refine zT 0 (λ_=>hT) ?_
 refine zT 1 (λ_=>hT) ?_
 refine zT 2 (λ_=>hT) ?_
 refine zT 3 (λ_=>hT) ?_
 refine jR [8,9] 4 CC.out hT ?_
 refine jR [8,9] 5 CC.out hT ?_
 refine zT 6 (λ_=>hT) ?_
 refine zT 7 (λ_=>hT) ?_
 refine zT 8 (λ_=>hT) ?_
 refine wM 9 rfl (λK hK=> ?_)
 refine zhP (by rfl) ?_
 refine wp_store_mid _ _ _ rfl (g) (i*54+5+m*6) #[.int .i64 ev, .int .i64 en, .bool er, .bool ew, .bool ef, .bool ec] (by rfl) (by rfl) ((HW.out.later hT).there (by simp;omega)) (by kernel_rfl) (by simp [Value.oneCell']) ?_
 refine hK.out _ _ (λh=>absurd rfl h) ?_
 clear hK K
 change yE _ _ _ _ _ _ _ _ (Act.put _ none _) _
 simp only [Act.put]
 refine xG (by kernel_rfl) ?_ _
 refine NoPanic.normal ?_
 have hw2:=zct.out X.drew (HW.out.later (Below.refl _ _).drew)
 have hs2:=uh (g:=g) [.int .i64 ev, .int .i64 en, .bool er, .bool ew, .bool ef, .bool ec] X.drew (i*54+5+m*6)
 have HS2:Hid (yC g w (X.drew.setCells g (i*54+5+m*6) [.int .i64 ev, .int .i64 en, .bool er, .bool ew, .bool ef, .bool ec])):=(zA _ HB.out.drew).trans hs2 (λ_ h=> .inl h)
 have HW2:=qh hw2
 have q0:(X.drew.setCells g (i*54+5+m*6) [.int .i64 ev, .int .i64 en, .bool er, .bool ew, .bool ef, .bool ec]).cell? ⟨g,i*54+53,none⟩=some (.int .i64 (m:Int)):=by
  have:=hw2.many hi
  rwa [show((W.yF i m _).zD.getD i default).many=m from HME.out] at this
 have q1:=hw2.free (i*54+53)
 clear hw2 hs2
 have hsm:(.int .i64 ((m:Int)+1):Value)= .int .i64 ((m+1:Nat):Int):=by simp
 have HSM:=qh hsm
 clear hsm
 generalize X.drew.setCells g _ _=Y at HW2 HS2 q0 q1 ⊢
 go_wp2_with fail
 (try simp only [Exit.inBlock,Exit.then]);(try rw [Exit.noGoto_normal]);first|refine bodyPost_end (results_none rfl _ _ _) rfl ?_|refine bodyPost_ret (results_none rfl _ _ _) rfl ?_
 rw [HW'.out]
 have hfin:=HW2.out.setMany hi (n:=m+1) (by omega)
 rw [<-HSM.out] at hfin
 exact⟨rfl,hfin,HS2.out.setCell (p:=⟨g,i*54+53,none⟩) (.inl rfl) _⟩
structure vE (V w:World) (mb:Nat) (c:zl) (cv:Value) (d:Nat) (model:Int):Prop where
 base:Below V.heap.size V w
 code:yB d V cv c.threads
 dom:w.cell? ⟨mb,1,none⟩=some (.int .i64 c.domain)
 rows:w.cell? ⟨mb,2,none⟩=some cv
 mod:w.cell? ⟨mb,3,none⟩=some (.int .i64 model)
 lt:mb<w.heap.size
theorem vE.since {F:Nat->Prop} {V w w':World} {mb:Nat} {c:zl} {cv:Value} {d:Nat} {model:Int} (h:vE V w mb c cv d model) (hs:Since F w w') (hF:∀k,F k->V.heap.size<=k) (hm:¬F mb):vE V w' mb c cv d model:=
 ⟨h.base.trans (hs.below h.base.size hF),h.code,(hs.cell (p:=⟨mb,1,none⟩) h.lt hm).trans h.dom,(hs.cell (p:=⟨mb,2,none⟩) h.lt hm).trans h.rows,(hs.cell (p:=⟨mb,3,none⟩) h.lt hm).trans h.mod,Nat.lt_of_lt_of_le h.lt hs.size⟩
theorem vE.later {V w w':World} {mb:Nat} {c:zl} {cv:Value} {d:Nat} {model:Int} (h:vE V w mb c cv d model) (hb:Below w.heap.size w w'):vE V w' mb c cv d model:=
 h.since (zA (λ_=>False) hb) (λ_ h=>h.elim) (λh=>h)
def yw (c:zl):Bool:=(List.range c.threads.length).all λi=>(List.range (c.threads.getD i []).length).all λk=> !xL ((c.threads.getD i []).getD k default).op||decide ((k:Int)<((c.threads.getD i []).getD k default).dest)
def yY (dom:Int) (d:Nat) (x:zi) (i:Nat) (W:za):za:=
 if x.op=3 then(W.setAt i ((W.th i).at_+1)).zN i x.reg.toNat (yt (W.th i).regs dom d x.a)
 else if x.op=9 then(W.setAt i ((W.th i).at_+1)).qo (W.fails||decide (yt (W.th i).regs dom d x.a=0))
 else if x.op=13\/(x.op=12/\yt (W.th i).regs dom d x.a=0) then W.setAt i x.dest.toNat
 else W.setAt i ((W.th i).at_+1)
def zB (model dom:Int) (d:Nat) (l:List zi) (i:Nat):Nat->za->za
 |0,W=>W
 |n+1,W=>if (W.th i).at_<l.length then(if xK model (l.getD (W.th i).at_ default).op then W else zB model dom d l i n (yY dom d (l.getD (W.th i).at_ default) i W)) else W
theorem za.yT {W:za} (h:W.ok) {i:Nat} (hi:i<4) (a:Nat):(W.setAt i a).th i=⟨a,(W.th i).regs,(W.th i).evs,(W.th i).many⟩:=za.ug h hi _
theorem za.zgh {W:za} (h:W.ok) {i:Nat} (hi:i<4) (a b:Nat):(W.setAt i a).setAt i b=W.setAt i b:=by
 have e:=za.yT h hi a
 show za.put _ _ _=_
 rw [e]
 unfold za.setAt za.put
 simp only [List.set_set]
theorem za.jN {W:za} (h:W.ok) {i:Nat} (hi:i<4) (k:Nat) (x:Int):(W.zN i k x).th i=⟨(W.th i).at_,(W.th i).regs.set k x,(W.th i).evs,(W.th i).many⟩:=za.ug h hi _
theorem za.zco {W:za} (h:W.ok) {i:Nat} (hi:i<4) (j:Nat) (e:zP):(W.yF i j e).th i=⟨(W.th i).at_,(W.th i).regs,(W.th i).evs.set j e,(W.th i).many⟩:=za.ug h hi _
theorem za.zhQ {W:za} (h:W.ok) {i:Nat} (hi:i<4) (n:Nat):(W.setMany i n).th i=⟨(W.th i).at_,(W.th i).regs,(W.th i).evs,n⟩:=za.ug h hi _
theorem za.wm {W:za} (h:W.ok) {i:Nat} (hi:i<4) (e:zP):(W.yh i e).th i=⟨(W.th i).at_,(W.th i).regs,(W.th i).evs.set (W.th i).many e,(W.th i).many+1⟩:=by
 unfold za.yh
 rw [za.zhQ (za.kU h hi _ _) hi,za.zco h hi]
theorem zkN {W:za} (h:W.ok) {i:Nat} (hi:i<4) (dom:Int) (d:Nat) (x:zi):((yY dom d x i W).th i).at_=if x.op=13\/(x.op=12/\yt (W.th i).regs dom d x.a=0) then x.dest.toNat else(W.th i).at_+1:=by
 unfold yY
 by_cases h3:x.op=3
 ·rw [if_pos h3,if_neg (by omega),za.jN (za.qZ h hi _) hi,za.yT h hi]
 rw [if_neg h3]
 by_cases h9:x.op=9
 ·rw [if_pos h9,if_neg (by omega)]
  show((W.setAt i _).th i).at_=_
  rw [za.yT h hi]
 rw [if_neg h9]
 split
 ·rw [za.yT h hi]
 rw [za.yT h hi]
theorem zf6 {W:za} (h:W.ok) {i:Nat} (hi:i<4) (dom:Int) (d:Nat) (x:zi):(yY dom d x i W).ok:=by
 unfold yY
 split
 ·exact za.vM (za.qZ h hi _) hi _ _
 split
 ·exact za.bK (za.qZ h hi _) _
 split
 ·exact za.qZ h hi _
 exact za.qZ h hi _
def wh (l:List zi):Prop:=∀k,k<l.length->(0<=(l.getD k default).reg/\(l.getD k default).reg<4)/\(0<=(l.getD k default).var/\(l.getD k default).var<4)/\(xL (l.getD k default).op=true->(k:Int)<(l.getD k default).dest/\(l.getD k default).dest<=l.length)
theorem zkO {op:Int} (h:op=13\/op=12):xL op=true:=by
 rcases h with rfl|rfl<;>rfl
theorem zdg {W:za} (h:W.ok) {i:Nat} (hi:i<4) {l:List zi} (hl:wh l) (ha:(W.th i).at_<l.length) (dom:Int) (d:Nat):
  (W.th i).at_<((yY dom d (l.getD (W.th i).at_ default) i W).th i).at_/\((yY dom d (l.getD (W.th i).at_ default) i W).th i).at_<=l.length:=by
 rw [zkN h hi]
 split
 ·rename_i hc
  have:=(hl _ ha).2.2 (zkO (hc.imp id (·.1)))
  omega
 omega
