/- Steps. -/
import Derived.Test.YtnhahkiojbanfaaGreatDoorRsExplore
set_option linter.all false
namespace Go.Proofs.YtnhahkiojbanfaaGreatDoor
open Go.RowKit
set_option maxRecDepth 100000
set_option maxHeartbeats 16000000
theorem zqq:Tryz.prog.underlying 70=some (.struct (Tryz.prog.fieldsOf 70)):=by kernel_rfl
theorem zqr:Tryz.prog.stoodInHeld 70=false:=by kernel_rfl
@[go_sem] theorem z3d:Tryz.prog.eqGuardType Tryz.prog.depth 70=false:=by kernel_rfl
theorem znA:(Tryz.prog.fieldsOf 70).toList.map (λf=>(f.name,f.type,f.offset))= [("Kind",3,0),("Thread",3,1),("Var",3,2)] :=by kernel_rfl
@[go_sem] theorem z2H (w:World) (a b c x y z:Int):(Op.equalIn 10000 70 (.agg #[.int .i64 a, .int .i64 b, .int .i64 c]) (.agg #[.int .i64 x, .int .i64 y, .int .i64 z])).run Tryz.prog w
  = .ok (a==x && b==y && c==z) w:=by
 rw [run_equalIn_agg w 9999 _ _ _ zqq zqr]
 obtain⟨f0,f1,f2,hf,h0,h1,h2⟩:∃f0 f1 f2,(Tryz.prog.fieldsOf 70).toList= [f0,f1,f2] /\(f0.name,f0.type,f0.offset)=("Kind",3,0)/\(f1.name,f1.type,f1.offset)=("Thread",3,1)/\(f2.name,f2.type,f2.offset)=("Var",3,2):=by
  have h:=znA
  generalize (Tryz.prog.fieldsOf 70).toList=l at h
  have hl:l.length=3:=by have:=congrArg List.length h;simpa using this
  match l,hl,h with
  | [f0,f1,f2],_,h=>
  simp only [List.map_cons,List.map_nil,List.cons.injEq,and_true] at h
  exact⟨f0,f1,f2,rfl,h.1,h.2.1,h.2.2⟩
 simp only [Prod.mk.injEq] at h0 h1 h2
 rw [hf]
 have p0:=λ(w:World) (a b c:Int)=>kg w #[.int .i64 a, .int .i64 b, .int .i64 c] 0 a rfl
 have p1:=λ(w:World) (a b c:Int)=>kg w #[.int .i64 a, .int .i64 b, .int .i64 c] 1 b rfl
 have p2:=λ(w:World) (a b c:Int)=>kg w #[.int .i64 a, .int .i64 b, .int .i64 c] 2 c rfl
 have ge:=zgO 9998
 cases e0:a==x<;>cases e1:b==y<;>cases e2:c==z<;>simp [Op.eqFields,h0,h1,h2,p0,p1,p2,ge,e0,e1,e2]
theorem znB {w:World} {a:Option Addr} {n cap:Nat} {l:List (List zq)} (h:zh bL 1 w (.slice a n cap) l) (j:Nat) (hj:j<l.length):∃b off ka kc,a=some ⟨b,off,none⟩/\b<w.heap.size/\w.cell? ⟨b,off+j,none⟩=some (.slice ka (l.getD j []).length kc)/\j6 w (.slice ka (l.getD j []).length kc) (l.getD j []):=by
 obtain⟨b,off,cs,h1,h2,h3,h4,v,h5,h6⟩:=zh.part h j hj
 subst h5
 obtain⟨ka,kc,rfl, -⟩:=zh.slice h6
 have:=h4 0 (by omega)
 rw [Nat.mul_one,Nat.add_zero] at this
 exact⟨b,off,ka,kc,h1,h2,this,h6⟩
theorem zqs {w:World} {a:Option Addr} {n cap:Nat} {l:List (List Int)} (h:zh zbw 1 w (.slice a n cap) l) (j:Nat) (hj:j<l.length):∃b off ka kc,a=some ⟨b,off,none⟩/\b<w.heap.size/\w.cell? ⟨b,off+j,none⟩=some (.slice ka (l.getD j []).length kc)/\qm w (.slice ka (l.getD j []).length kc) (l.getD j []):=by
 obtain⟨b,off,cs,h1,h2,h3,h4,v,h5,h6⟩:=zh.part h j hj
 subst h5
 obtain⟨ka,kc,rfl, -⟩:=zh.slice h6
 have:=h4 0 (by omega)
 rw [Nat.mul_one,Nat.add_zero] at this
 exact⟨b,off,ka,kc,h1,h2,this,h6⟩
def zdU (sv mv nv:Value):Value:= .agg #[sv,mv,nv]
def z9Q (l:List zi) (r:Int):Prop:=(∃i:Nat,i<l.length/\r=i/\(l.getD i default).bad=true/\∀j,j<i->(l.getD j default).bad=false)\/(r= -1/\∀j,j<l.length->(l.getD j default).bad=false)
def uQ (ms:List zq) (i:Nat) (nx:List Int) (k:Nat):List (Int × zq × Nat):=if (i:Int)<nx.getD k 0/\k<ms.length then [(nx.getD k 0,ms.getD k default,i)] else []
def qR (ms:List zq) (i:Nat) (nx:List Int) (n:Nat):List (Int × zq × Nat):=(List.range n).flatMap (uQ ms i nx)
def yY (S:yH) (n:Nat):List (Int × zq × Nat):=(List.range n).flatMap λi=>qR (S.moves.getD i []) i (S.next.getD i []) (S.next.getD i []).length
def ji:List (Int × zq × Nat)->Int->Option (zq × Nat)
 | [],_=>none
 |e::l,n=>if e.1=n then some e.2 else ji l n
def zbp (S:yH) (n:Int):Option (zq × Nat):=ji (yY S S.next.length) n
theorem zbN (a b:List (Int × zq × Nat)) (n:Int):ji (a++b) n=match ji a n with|some x=>some x|none=>ji b n:=by
 induction a with
 |nil=>rfl
 |cons e a ih=>
 simp only [List.cons_append,ji]
 split
 ·rfl
 exact ih
def zqa (x:zq × Nat):Value:= .agg #[.int .i64 x.1.kind, .int .i64 x.1.thread, .int .i64 x.1.var, .int .i64 (x.2:Int)]
def jK (l:List (Int × Value)) (es:List (Int × zq × Nat)):Prop:=∀n,vE l n=(ji es n).map zqa
theorem jK.had {l:List (Int × Value)} {es:List (Int × zq × Nat)} (h:jK l es) {e:Int × zq × Nat} (hh:(vE l e.1).isSome=true):jK l (es++ [e]):=λn=>by
 rw [zbN,h n]
 cases hf:ji es n with
 |some x=>rfl
 |none=>
 have:e.1≠n:=λq=>by rw [q,h n,hf] at hh;simp at hh
 simp [ji,this]
theorem jK.put {l:List (Int × Value)} {es:List (Int × zq × Nat)} (h:jK l es) {e:Int × zq × Nat} (hh:vE l e.1=none):jK (wL l e.1 (zqa e.2)) (es++ [e]):=λn=>by
 rw [zbN,zqt,h n]
 by_cases q:e.1=n
 ·rw [if_pos q]
  have:=h n
  rw [<-q,hh] at this
  have hf:ji es n=none:=by rw [<-q];simpa using this.symm
  rw [hf];simp [ji,q]
 rw [if_neg q]
 cases ji es n<;>simp [ji,q]
theorem zfa (W:World):(zeroValue 132).run Tryz.prog W= .ok (.agg #[.int .i64 0, .int .i64 0, .int .i64 0, .int .i64 0]) W:=by
 obtain⟨i,hi,hz, -⟩:=info_parts (show(Tryz.prog.info? 132).map (λi=>(i.zero,i.size,i.bytes))=some (some (.agg #[.int .i64 0, .int .i64 0, .int .i64 0, .int .i64 0]),4,32) by kernel_rfl)
 simp [zeroValue,typeInfo,hi,hz]
def zoI (w:World) (S:yH) (e:Ending) (w':World):Prop:=∃(b:Nat) (l:List (Int × Value)),e= .returned (.map (some b))/\xL w' b l/\w.heap.size<=b/\jK l (yY S S.next.length)/\Below w.heap.size w w'
theorem zvu (w:World) (S:yH) (sv mv nv:Value) (h:wM w S sv mv nv) (hm:S.moves.length=S.next.length):Calls Tryz.prog 66 #[zdU sv mv nv] w (zoI w S):=by
 obtain⟨h1,h2,h3⟩:=h
 obtain⟨a1,c1,rfl, -⟩:=zh.slice h1
 obtain⟨a2,c2,rfl, -⟩:=zh.slice h2
 obtain⟨a3,c3,rfl,hl3⟩:=zh.slice h3
 obtain⟨n,hn⟩:∃n,n=S.next.length:=⟨_,rfl⟩
 rw [hm] at h2
 rw [<-hn] at h2 h3 hl3
 rw [hm, <-hn]
 generalize S.states.length=n1
 unfold zdU
 have hB:=(Below.refl w.heap.size w).alloc (Nat.le_refl _) (.cells #[.slice a1 n1 c1, .slice a2 n c2, .slice a3 n c3] 49)
 have H1:=qh (yj w (.cells #[.slice a1 n1 c1, .slice a2 n c2, .slice a3 n c3] 49))
 have HM:=qh (zh.below bL.stays h2 hB)
 have HN:=qh (zh.below zbw.stays h3 hB)
 have HB:=qh hB
 have HL:=qh hn
 have bq:=qh hm
 clear h1 h2 h3 hB hn hm
 have hmm:= @run_makeMap Tryz.prog
 go_enter Tryz.func66,Tryz.ntmps66
 go_upto_region 1 with fail
 generalize World.alloc w _=W at HB H1 HM HN ⊢
 obtain⟨gx,hgx⟩:∃gx,gx=w.heap.size:=⟨_,rfl⟩
 rw [<-hgx] at H1 ⊢
 have xg:=qh hgx
 clear hgx
 have h0:xL (W.alloc (.map #[] 0)) W.heap.size [] :=⟨#[],0,yj W _,rfl⟩
 have HM0:=qh h0
 have HB0:=qh ((Below.refl W.heap.size W).alloc (Nat.le_refl _) (.map #[] 0))
 clear h0
 go_upto_region 2 with fail
 clear hmm
 generalize World.alloc W _=W0 at HM0 HB0 ⊢
 obtain⟨gm,hgm⟩:∃g,g=W.heap.size:=⟨_,rfl⟩
 rw [<-hgm] at HM0 ⊢
 have HGM:=qh hgm
 clear hgm
 have HC:Hid (∀y,Below W.heap.size W y->y.cell? ⟨gx,1,none⟩=some (.slice a2 n c2)/\y.cell? ⟨gx,2,none⟩=some (.slice a3 n c3)):=λy hy=>⟨zk hy _ _ (ze H1.out 1),zk hy _ _ (ze H1.out 2)⟩
 obtain⟨q1,q2⟩:=HC.out W0 HB0.out
 go_wp2_with fail
 clear q1 q2
 go_loopg [14] n (λgg s14 wr=>∃(i:Nat) (l:List (Int × Value)),i<=n/\Hid (gg=n - i)/\s14= .int .i64 i/\Hid (xL wr gm l)/\Hid (jK l (yY S i))/\Hid (Below W.heap.size W wr))
 case atStart=>exact⟨0, [],Nat.zero_le _,rfl,rfl,HM0.out,λ_=>rfl,HB0.out⟩
 case round=>
 obtain⟨i,l,hi,HG,rfl,HMI,HHO,zL⟩:=hrel
 obtain⟨wo,rfl⟩:∃wo:World,wo=wr:=⟨_,rfl⟩
 clear HM0 HB0
 by_cases hlt:i<n
 rotate_left
 ·obtain rfl:n=i:=by omega
  have hend:zoI w S (.returned (.map (some gm))) wo:=
   ⟨gm,l,rfl,HMI.out,by have:=HGM.out;have:=HB.out.size;omega,by rw [<-HL.out];exact HHO.out,HB.out.trans (zL.out.mono HB.out.size)⟩
  have zR:=qh hend
  clear hend
  go_wp2_with fail
  go_ret
  exact zR.out
 have qN:(i:Int)<(n:Int):=by omega
 obtain⟨nb,no,na,nc,yh, -,x0,hni⟩:=zqs HN.out i (by rw [<-HL.out];exact hlt)
 subst yh
 obtain⟨mb,mo,ma,mc,hfa, -,y0,hmi⟩:=znB HM.out i (by rw [bq.out, <-HL.out];exact hlt)
 subst hfa
 obtain⟨nx,hnx⟩:∃x,x=S.next.getD i [] :=⟨_,rfl⟩
 obtain⟨ms,hms⟩:∃x,x=S.moves.getD i [] :=⟨_,rfl⟩
 rw [<-hnx] at x0 hni
 rw [<-hms] at y0 hmi
 obtain⟨nn,hnn⟩:∃k,k=nx.length:=⟨_,rfl⟩
 obtain⟨mn,hmn⟩:∃k,k=ms.length:=⟨_,rfl⟩
 rw [<-hnn] at x0 hni
 rw [<-hmn] at y0 hmi
 have hnr:=zh.room hni
 have hn63:nn<=9223372036854775807:=by omega
 have HES:Hid (yY S (i+1)=yY S i++qR ms i nx nn):=by
  rw [Hid,yY,List.range_succ,List.flatMap_append,hms,hnn,hnx];simp [yY]
 have HNI:=qh hni
 have z6U:=qh hmi
 have HNN:=qh hnn
 have vH:=qh hmn
 have HX:Hid (∀y,Below W.heap.size W y->y.cell? ⟨nb,no+i,none⟩=some (.slice na nn nc)/\y.cell? ⟨mb,mo+i,none⟩=some (.slice ma mn mc)):=λy hy=>⟨zk hy _ _ x0,zk hy _ _ y0⟩
 clear x0 y0 hni hmi hnx hms hnn hmn hnr
 obtain⟨x0,y0⟩:=HX.out wo zL.out
 go_wp2_with fail
 clear x0 y0
 go_loopg [21] nn (λgg s21 wr=>∃(k:Nat) (l':List (Int × Value)),k<=nn/\Hid (gg=nn - k)/\s21= .int .i64 k/\Hid (xL wr gm l')/\Hid (jK l' (yY S i++qR ms i nx k))/\Hid (Below W.heap.size W wr))
 case atStart=>exact⟨0,l,Nat.zero_le _,rfl,rfl,HMI.out,by simpa [qR,Hid] using HHO.out,zL.out⟩
 case round=>
 obtain⟨k,l',hk,HG2,rfl,HMK,HHK,HBK⟩:=hrel
 obtain⟨wk,rfl⟩:∃wo:World,wo=wr:=⟨_,rfl⟩
 clear HMI HHO zL
 by_cases hkl:k<nn
 rotate_left
 ·obtain rfl:nn=k:=by omega
  have HH2:Hid (jK l' (yY S (i+1))):=by rw [Hid,HES.out];exact HHK.out
  go_wp2_with fail
  go_roundg (n - (i+1))
  case measure=>rw [HG.out];omega
  case rel=>exact⟨i+1,l',by omega,rfl,by simp,HMK.out,HH2.out,HBK.out⟩
 have hkI:(k:Int)<(nn:Int):=by omega
 obtain⟨eb,eo,yh, -,z0⟩:=qm.part HNI.out k (by rw [<-HNN.out];exact hkl)
 subst yh
 obtain⟨t,ht⟩:∃t,t=nx.getD k 0:=⟨_,rfl⟩
 rw [<-ht] at z0
 have HEI:Hid (qR ms i nx (k+1)=qR ms i nx k++uQ ms i nx k):=by rw [Hid,qR,List.range_succ,List.flatMap_append];simp [qR]
 have HT:=qh ht
 have hlk:=kF HMK.out Tryz.underlying128 Tryz.underlying3 (zfa wk) t true
 simp only [if_true] at hlk
 obtain⟨x0,y0⟩:=HX.out wk HBK.out
 have z1:=zk HBK.out _ _ z0
 clear ht z0
 obtain⟨v0,v1,v2,v3,hv⟩:∃a b c d:Int,(vE l' t).getD (.agg #[.int .i64 0, .int .i64 0, .int .i64 0, .int .i64 0])= .agg #[.int .i64 a, .int .i64 b, .int .i64 c, .int .i64 d] :=by
  rw [HHK.out t]
  cases ji (yY S i++qR ms i nx k) t with
  |none=>exact⟨0,0,0,0,rfl⟩
  |some x=>exact⟨_,_,_,_,rfl⟩
 rw [hv] at hlk
 clear hv
 obtain⟨had,zvU⟩:∃b,b=(vE l' t).isSome:=⟨_,rfl⟩
 rw [<-zvU] at hlk
 have HHD:=qh zvU
 clear zvU
 go_upto_region 9 with fail
 have hA:Below wk.heap.size wk (wk.alloc (.cells #[.int .i64 v0, .int .i64 v1, .int .i64 v2, .int .i64 v3] 132)):=(Below.refl _ _).alloc (Nat.le_refl _) _
 have zfm:=qh (HMK.out.below hA)
 have zeD:=qh (zH HBK.out hA)
 clear hA hlk HMK HBK x0 y0 z1
 generalize World.alloc wk _=W3 at zfm zeD ⊢
 obtain⟨q1,q2⟩:=HC.out W3 zeD.out
 obtain⟨x0,y0⟩:=HX.out W3 zeD.out
 cases had with
 |true=>
  have HH2:Hid (jK l' (yY S i++qR ms i nx (k+1))):=by
   rw [Hid,HEI.out, <-List.append_assoc]
   unfold uQ
   split
   ·exact HHK.out.had (by rw [<-HT.out];exact HHD.out.symm)
   rw [List.append_nil];exact HHK.out
  go_wp2_with fail
  go_roundg (nn - (k+1))
  case measure=>rw [HG2.out];omega
  case rel=>exact⟨k+1,l',by omega,rfl,by simp,zfm.out,HH2.out,zeD.out⟩
 |false=>
 have hno:vE l' t=none:=by
  have:=HHD.out
  cases h:vE l' t with
  |none=>rfl
  |some x=>rw [h] at this;cases this
 have uW:=qh hno
 clear hno
 by_cases h1:(i:Int)<t
 rotate_left
 ·have h1I:t<=(i:Int):=by omega
  have HH2:Hid (jK l' (yY S i++qR ms i nx (k+1))):=by
   rw [Hid,HEI.out,uQ,if_neg (by rw [<-HT.out];omega),List.append_nil];exact HHK.out
  go_wp2_with fail
  go_roundg (nn - (k+1))
  case measure=>rw [HG2.out];omega
  case rel=>exact⟨k+1,l',by omega,rfl,by simp,zfm.out,HH2.out,zeD.out⟩
 by_cases h2:k<mn
 rotate_left
 ·have h2I:(mn:Int)<=(k:Int):=by omega
  have HH2:Hid (jK l' (yY S i++qR ms i nx (k+1))):=by
   rw [Hid,HEI.out,uQ,if_neg (by rw [<-vH.out];omega),List.append_nil];exact HHK.out
  go_wp2_with fail
  go_roundg (nn - (k+1))
  case measure=>rw [HG2.out];omega
  case rel=>exact⟨k+1,l',by omega,rfl,by simp,zfm.out,HH2.out,zeD.out⟩
 have h2I:(k:Int)<(mn:Int):=by omega
 obtain⟨gb,go_,hga, -,m0,m1,m2⟩:=j6.part (zh.below zcZ.stays z6U.out zeD.out) k (by rw [<-vH.out];exact h2)
 subst hga
 obtain⟨x,hx⟩:∃x,x=ms.getD k default:=⟨_,rfl⟩
 rw [<-hx] at m0 m1 m2
 have HEW:Hid (uQ ms i nx k= [(t,x,i)]):=by
  rw [Hid,uQ,if_pos ⟨by rw [<-HT.out];exact h1,by rw [<-vH.out];exact h2⟩, <-HT.out, <-hx]
 obtain⟨xk,xt,xv⟩:=x
 simp only [] at m0 m1 m2
 clear hx
 go_wp2_with(refine zfT _ rfl _ _ _ 128 rfl 3 132 .i64 Tryz.underlying128 Tryz.underlying3 gm l' rfl t rfl (.agg #[.int .i64 xk, .int .i64 xt, .int .i64 xv, .int .i64 (i:Int)]) rfl zfm.out ?_;intro W4 hm4 hs4 hz4;have HM4:=qh hm4;have vF:Hid (Below W.heap.size W W4):=zeD.out.trans (hs4.below zeD.out.size (λk hk=>by have:=HGM.out;omega));clear hm4 hs4 hz4)
 have HH2:Hid (jK (wL l' t (.agg #[.int .i64 xk, .int .i64 xt, .int .i64 xv, .int .i64 (i:Int)])) (yY S i++qR ms i nx (k+1))):=by
  rw [Hid,HEI.out, <-List.append_assoc,HEW.out]
  exact HHK.out.put (e:=(t,⟨xk,xt,xv⟩,i)) uW.out
 go_roundg (nn - (k+1))
 case measure=>rw [HG2.out];omega
 case rel=>exact⟨k+1,_,by omega,rfl,by simp,HM4.out,HH2.out,vF.out⟩
