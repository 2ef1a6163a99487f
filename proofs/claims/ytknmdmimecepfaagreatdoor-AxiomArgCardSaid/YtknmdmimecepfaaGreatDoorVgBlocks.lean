/- Steps. -/
import Derived.Test.YtknmdmimecepfaaGreatDoorVgFits
set_option linter.all false
namespace Go.Proofs.YtknmdmimecepfaaGreatDoor
open Go.RowKit
set_option maxRecDepth 100000
set_option maxHeartbeats 16000000
inductive zq where
 |mk (kind reg var:Int) (a b:zx) (yes no:List zq)
def zq.kind:zq->Int| .mk k _ _ _ _ _ _=>k
def zq.reg:zq->Int| .mk _ r _ _ _ _ _=>r
def zq.var:zq->Int| .mk _ _ v _ _ _ _=>v
def zq.a:zq->zx| .mk _ _ _ a _ _ _=>a
def zq.b:zq->zx| .mk _ _ _ _ b _ _=>b
def zq.yes:zq->List zq| .mk _ _ _ _ _ l _=>l
def zq.no:zq->List zq| .mk _ _ _ _ _ _ l=>l
instance:Inhabited zq:=⟨.mk 0 0 0 default default [] []⟩
def zq.cells (x:zq) (ka kb yv nv:Value):List Value:= [.int .i64 x.kind, .int .i64 x.reg, .int .i64 x.var, .int .i64 x.a.kind, .int .i64 x.a.n, .int .u8 x.a.op,ka, .int .i64 x.b.kind, .int .i64 x.b.n, .int .u8 x.b.op,kb,yv,nv]
def zJ (e:Nat):Nat->World->List zq->Value->Prop
 |0,_,_,_=>False
 |d+1,w,l,v=>zh (λw y cs=>∃ka kb yv nv,cs=y.cells ka kb yv nv/\zu e w y.a ka/\zu e w y.b kb/\zJ e d w y.yes yv/\zJ e d w y.no nv) 13 w v l
def zt7 (e d:Nat) (w:World) (y:zq) (cs:List Value):Prop:=∃ka kb yv nv,cs=y.cells ka kb yv nv/\zu e w y.a ka/\zu e w y.b kb/\zJ e d w y.yes yv/\zJ e d w y.no nv
theorem zJ.below {e d:Nat} {w w':World} {l:List zq} {v:Value} (h:zJ e d w l v) (hb:Below w.heap.size w w'):zJ e d w' l v:=by
 induction d generalizing w w' l v with
 |zero=>exact h.elim
 |succ d ih=>exact zh.below (λ_ _ _ _ ⟨ka,kb,yv,nv,e,h1,h2,h3,h4⟩ hb'=>⟨ka,kb,yv,nv,e,h1.below hb',h2.below hb',ih h3 hb',ih h4 hb'⟩) h hb
theorem zJ.slice {e d:Nat} {w:World} {l:List zq} {v:Value} (h:zJ e d w l v):∃a cap,v= .slice a l.length cap/\l.length<=9223372036854775807:=by
 cases d with
 |zero=>exact h.elim
 |succ d=>exact zh.slice h
theorem zJ.part {e d:Nat} {w:World} {l:List zq} {a:Option Addr} {n cap:Nat} (h:zJ e (d+1) w l (.slice a n cap)) (j:Nat) (hj:j<l.length):∃b off aa ac ba bc ya yc na nc,a=some ⟨b,off,none⟩/\b<w.heap.size/\
  (∀i,i<13->w.cell? ⟨b,off+j*13+i,none⟩=((l.getD j default).cells (.slice aa (l.getD j default).a.kids.length ac) (.slice ba (l.getD j default).b.kids.length bc) (.slice ya (l.getD j default).yes.length yc) (.slice na (l.getD j default).no.length nc))[i]?)/\
  zu e w (l.getD j default).a (.slice aa (l.getD j default).a.kids.length ac)/\zu e w (l.getD j default).b (.slice ba (l.getD j default).b.kids.length bc)/\
  zJ e d w (l.getD j default).yes (.slice ya (l.getD j default).yes.length yc)/\zJ e d w (l.getD j default).no (.slice na (l.getD j default).no.length nc):=by
 obtain⟨b,off,cs,h1,h2, -,h4,ka,kb,yv,nv,rfl,h5,h6,h7,h8⟩:=zh.part h j hj
 obtain⟨aa,ac,rfl, -⟩:=h5.slice
 obtain⟨ba,bc,rfl, -⟩:=h6.slice
 obtain⟨ya,yc,rfl, -⟩:=h7.slice
 obtain⟨na,nc,rfl, -⟩:=h8.slice
 exact⟨b,off,aa,ac,ba,bc,ya,yc,na,nc,h1,h2,h4,h5,h6,h7,h8⟩
def jG (x:zq) (ka kb yv nv:Value):Value:= .agg (x.cells ka kb yv nv).toArray
def zhE (x:zq):zl:=⟨x.kind,x.reg,x.var,x.a,x.b,0⟩
def qg (a:zx) (xU:Int):zl:=⟨12,0,0,a,default,xU⟩
def ku (xU:Int):zl:=⟨13,0,0,default,default,xU⟩
mutual
def qw:zq->Int->List zl
 | .mk k r v a b y n,at_=>
 if k=10 then
  if n.length=0 then qg a (at_+1+(zA y (at_+1)).length)::zA y (at_+1)
  else qg a (at_+2+(zA y (at_+1)).length)::(zA y (at_+1)++ku (at_+2+(zA y (at_+1)).length+(zA n (at_+2+(zA y (at_+1)).length)).length)::zA n (at_+2+(zA y (at_+1)).length))
 else if k=11 then qg a (at_+2+(zA y (at_+1)).length)::(zA y (at_+1)++ [ku at_])
 else [⟨k,r,v,a,b,0⟩]
def zA:List zq->Int->List zl
 | [],_=> []
 |x::l,at_=>qw x at_++zA l (at_+(qw x at_).length)
end
structure bK where
 vars:List (List UInt8)
 domain:Int
 threads:List (List zq)
end Go.Proofs.YtknmdmimecepfaaGreatDoor
namespace Go.Proofs.YtknmdmimecepfaaGreatDoor
open Go.RowKit
set_option maxRecDepth 100000
set_option maxHeartbeats 16000000
section
variable {α:Type} [Inhabited α] {X X':World} {R:World->α->List Value->Prop} {size:Nat} {e:TypeId} {v v':Value} {l:List α} {css:List (List Value)}
theorem uO {β:Type} {l r:List β} {d:β} {j:Nat} (hj:j<l.length):(l++r).getD j d=l.getD j d:=by
 simp only [List.getD_eq_getElem?_getD,List.getElem?_append_left hj]
theorem uP {β:Type} {l r:List β} {d:β} {j:Nat} (hj:l.length<=j):(l++r).getD j d=r.getD (j - l.length) d:=by
 simp only [List.getD_eq_getElem?_getD,List.getElem?_append_right hj]
structure vH (V:World) (B:Nat) (X:World) (R:World->α->List Value->Prop) (size:Nat) (e:TypeId) (v:Value) (l:List α) (css:List (List Value)):Prop where
 len:css.length=l.length
 part:∀j,j<l.length->(css.getD j []).length=size/\R V (l.getD j default) (css.getD j [])
 row:X.ownsRow B e size v l.length css.flatten
theorem vH.nil (V:World) (B:Nat) (X:World) (R:World->α->List Value->Prop) (size:Nat) (e:TypeId):vH V B X R size e (.slice none 0 0) [] [] :=⟨rfl,λj hj=>by simp at hj,World.ownsRow_nil _ _ _ _⟩
theorem vH.later {V:World} {B:Nat} (h:vH V B X R size e v l css) (hb:Below X.heap.size X X'):vH V B X' R size e v l css:=⟨h.len,h.part,qP h.row hb⟩
theorem vH.app {V:World} {B:Nat} (h:vH V B X R size e v l css) {r:List α} {cs2:List (List Value)} (hl:cs2.length=r.length) (hx:∀j,j<r.length->(cs2.getD j []).length=size/\R V (r.getD j default) (cs2.getD j [])) (h1:X'.ownsRow B e size v' (l.length+r.length) (css.flatten++cs2.flatten)):vH V B X' R size e v' (l++r) (css++cs2):=by
 refine⟨by simp [h.len,hl],λj hj=> ?_, ?_⟩
 ·rw [List.length_append] at hj
  by_cases e:j<l.length
  ·rw [show(css++cs2).getD j [] =css.getD j [] from uO (by rw [h.len];exact e),show(l++r).getD j default=l.getD j default from uO e];exact h.part j e
  rw [show(css++cs2).getD j [] =cs2.getD (j - l.length) [] by rw [uP (by rw [h.len];omega),h.len],show(l++r).getD j default=r.getD (j - l.length) default from uP (by omega)];exact hx _ (by omega)
 rw [List.length_append,List.flatten_append];exact h1
theorem vH.slice {V:World} {B:Nat} (h:vH V B X R size e v l css) (hR:vP R) (hb:Below V.heap.size V X):zh R size X v l:=
 zh.pK h.row λj hj=>⟨css.getD j [],(h.part j hj).1,λi hi=>bO (λj hj=>(h.part j (by rw [<-h.len];exact hj)).1) (by rw [h.len];exact hj) hi,hR _ _ _ _ (h.part j hj).2 hb⟩
end
theorem zeR:∀(l r:List zq) (a:Int),zA (l++r) a=zA l a++zA r (a+(zA l a).length):=by
 intro l
 induction l with
 |nil=>intro r a;simp [zA]
 |cons x l ih=>
 intro r a
 rw [List.cons_append,zA,zA,ih,List.append_assoc,List.length_append]
 congr 3
 omega
theorem zks (x:zq) (a:Int):zA [x] a=qw x a:=by simp [zA]
theorem ziA {l:List zq} {i:Nat} (hi:i<l.length) (a:Int):zA (l.take (i+1)) a=zA (l.take i) a++qw (l.getD i default) (a+(zA (l.take i) a).length):=by
 rw [List.take_succ_eq_append_getElem hi,zeR,zks,List.getD_eq_getElem?_getD,List.getElem?_eq_getElem hi];rfl
theorem zmm (l:List zq) (i:Nat) (a:Int):(zA (l.take i) a).length<=(zA l a).length:=by
 have:=zeR (l.take i) (l.drop i) a
 rw [List.take_append_drop] at this
 rw [this,List.length_append];omega
theorem vI:(Tryz.prog.info? 45).map (λi=>(i.zero,i.size,i.bytes))=some (some (.agg #[.int .i64 0, .int .i64 0, .int .i64 0, .int .i64 0, .int .i64 0, .int .u8 0, .slice none 0 0, .int .i64 0, .int .i64 0, .int .u8 0, .slice none 0 0, .int .i64 0]),12,128):=by kernel_rfl
theorem cells_one {e d:Nat} {w:World} {l:List zl} {css:List (List Value)} (_h:e=d) (hp:∀j,j<l.length->(css.getD j []).length=12/\yH d w (l.getD j default) (css.getD j [])) (hl:css.length=l.length):∀u∈css.flatten,u.oneCell'=true:=by
 intro u hu
 obtain⟨cs,hcs,hu⟩:=List.mem_flatten.1 hu
 obtain⟨j,hj,rfl⟩:=List.getElem_of_mem hcs
 have h2:=(hp j (by omega)).2
 rw [show css.getD j [] =css[j] by rw [List.getD_eq_getElem?_getD,List.getElem?_eq_getElem hj];rfl] at h2
 obtain⟨ka,kb,e,ha,hb⟩:=h2
 obtain⟨_,_,rfl, -⟩:=ha.slice
 obtain⟨_,_,rfl, -⟩:=hb.slice
 rw [e] at hu
 simp only [zl.cells,List.mem_cons,List.not_mem_nil,or_false] at hu
 rcases hu with rfl|rfl|rfl|rfl|rfl|rfl|rfl|rfl|rfl|rfl|rfl|rfl<;>rfl
def jP (e:Nat) (V w:World) (l:List zl) (en:Ending) (w':World):Prop:=(∃a cap css,en= .returned (.slice a l.length cap)/\vH V w.heap.size w' (yH e) 12 45 (.slice a l.length cap) l css)/\Below w.heap.size w w'
def zhF (e d:Nat):Prop:=∀(V w:World),Below V.heap.size V w->∀(x:zq) (ka kb yv nv:Value),zu e V x.a ka->zu e V x.b kb->zJ e d V x.yes yv->zJ e d V x.no nv->∀at_:Int,0<=at_->at_+(qw x at_).length<=1000000->
 Calls Tryz.prog 77 #[jG x ka kb yv nv, .int .i64 at_] w (jP e V w (qw x at_))
def wH (e d:Nat):Prop:=∀(V w:World),Below V.heap.size V w->∀(l:List zq) (v:Value),zJ e d V l v->∀at_:Int,0<=at_->at_+(zA l at_).length<=1000000->
 Calls Tryz.prog 55 #[v, .int .i64 at_] w (jP e V w (zA l at_))
theorem vC {w:World} {B size n:Nat} {e:TypeId} {a:Option Addr} {m cap:Nat} {xs:List Value} (h:w.ownsRow B e size (.slice a m cap) n xs):(∀A,a=some A->∀j u,xs[j]? =some u->w.cell? (A.add j)=some u)/\(a=none->m=0):=by
 rcases h.2 with⟨hv,hx⟩|⟨g,c,cur,hv,hB,hg,hc,hm,hs,hcu⟩
 ·cases hv
  exact⟨λA hA=>(by cases hA),λ_=>rfl⟩
 cases hv
 refine⟨λA hA j u hu=> ?_,λh=>(by cases h)⟩
 cases hA
 have hlt:j<xs.length:=by
  rcases Nat.lt_or_ge j xs.length with h|h
  ·exact h
  rw [List.getElem?_eq_none h] at hu;cases hu
 have:=h.cellAt j (by rw [<-h.1];exact hlt)
 rw [show(⟨g,0,none⟩:Addr).add j=⟨g,j,none⟩ by simp only [Addr.add];split<;>simp_all]
 rw [this];exact hu
theorem zoi (e d:Nat) (hs:zhF e d):wH e (d+1):=by
 intro V w hV l v hl at_ h0 hmax
 obtain⟨la,lc,rfl,hll⟩:=hl.slice
 have hlen:=λi=>zmm l i at_
 have htk:=λi (hi:i<l.length)=>ziA (l:=l) (i:=i) hi at_
 have hz:zA (l.take 0) at_= [] :=by simp [zA]
 obtain⟨R,hR⟩:∃R,R=zA l at_:=⟨_,rfl⟩
 have hR2:R=zA (l.take l.length) at_:=by rw [List.take_length];exact hR
 rw [<-hR] at hmax hlen ⊢
 obtain⟨BT,hBT⟩:∃BT:Nat->List zl,BT=λi=>zA (l.take i) at_:=⟨_,rfl⟩
 have zrV:∀i,zA (l.take i) at_=BT i:=λi=>by rw [hBT]
 simp only [zrV] at hlen htk hz hR2
 obtain⟨n,hnn⟩:∃n,n=l.length:=⟨_,rfl⟩
 rw [<-hnn] at hl hll htk hR2 ⊢
 have HL:=qh hl
 have HV:=qh hV
 have HN:=qh hnn
 have HS:=qh hs
 have HLEN:=qh hlen
 have HTK:=qh htk
 have HZ:=qh hz
 have HR:=qh hR2
 have zvF:=qh hmax
 have HA0:=qh h0
 clear hl hV hnn hs hlen htk hz hR hR2 hmax hBT zrV h0
 go_enter Tryz.func55,Tryz.ntmps55
 go_wp2_with fail
 go_loopg [5,6] n (λgg s5 s6 wr=>∃(i:Nat) (oa:Option Addr) (on oc:Nat) (css:List (List Value)),i<=n/\Hid (gg=n - i)/\s5= .slice oa on oc/\s6= .int .i64 i/\Hid (vH V w.heap.size wr (yH e) 12 45 (.slice oa on oc) (BT i) css)/\Hid (on=(BT i).length)/\Hid (Below w.heap.size w wr))
 case atStart=>exact⟨0,none,0,0, [],Nat.zero_le _,rfl,rfl,rfl,by rw [Hid,HZ.out];exact vH.nil _ _ _ _ _ _,by rw [Hid,HZ.out];rfl,Below.refl _ _⟩
 case round=>
 obtain⟨i,oa,on,oc,css,hi,HG,rfl,rfl,HO,uf,yu⟩:=hrel
 by_cases hlt:i<n
 rotate_left
 ·obtain rfl:n=i:=by omega
  go_wp2_with fail
  go_ret
  have hn2:on=R.length:=by rw [HR.out];exact uf.out
  subst hn2
  have:=HO.out
  rw [<-HR.out] at this
  exact⟨⟨oa,oc,css,rfl,this⟩,yu.out⟩
 have qQ:(i:Int)<(n:Int):=by omega
 obtain⟨b,off,aa,ac,ba,bc,ya,yc,na,nc,gB, -,hcell,hA,hB,hY,hNo⟩:=zJ.part HL.out i (by rw [<-HN.out];exact hlt)
 subst gB
 have hx:=HTK.out i hlt
 have hn1:(BT (i+1)).length<=R.length:=HLEN.out (i+1)
 generalize l.getD i default=x at hcell hA hB hY hNo hx
 rw [<-uf.out] at hx
 obtain⟨T,hT⟩:∃T,T=qw x (at_+on):=⟨_,rfl⟩
 rw [<-hT] at hx
 have hlx:(BT (i+1)).length=on+T.length:=by rw [hx,List.length_append, <-uf.out]
 have hat:0<=at_:=HA0.out
 have hsum:at_+(on:Int)+(T.length:Int)<=1000000:=by have:=zvF.out;omega
 have hst:=λy (hy:Below w.heap.size w y)=>HS.out V y (zm HV.out hy) x _ _ _ _ hA hB hY hNo (at_+on) (by omega) (by rw [<-hT];omega)
 rw [<-hT] at hst
 simp only [jG,zq.cells] at hst
 have x0:wr.cell? ⟨b,off+i*13,none⟩=some (.int .i64 x.kind):=zi (zm HV.out yu.out) _ _ (hcell 0 (by omega))
 have x1:wr.cell? ⟨b,off+i*13+1,none⟩=some (.int .i64 x.reg):=zi (zm HV.out yu.out) _ _ (hcell 1 (by omega))
 have x2:wr.cell? ⟨b,off+i*13+2,none⟩=some (.int .i64 x.var):=zi (zm HV.out yu.out) _ _ (hcell 2 (by omega))
 have x3:wr.cell? ⟨b,off+i*13+3,none⟩=some (.int .i64 x.a.kind):=zi (zm HV.out yu.out) _ _ (hcell 3 (by omega))
 have x4:wr.cell? ⟨b,off+i*13+4,none⟩=some (.int .i64 x.a.n):=zi (zm HV.out yu.out) _ _ (hcell 4 (by omega))
 have x5:wr.cell? ⟨b,off+i*13+5,none⟩=some (.int .u8 x.a.op):=zi (zm HV.out yu.out) _ _ (hcell 5 (by omega))
 have x6:wr.cell? ⟨b,off+i*13+6,none⟩=some (.slice aa x.a.kids.length ac):=zi (zm HV.out yu.out) _ _ (hcell 6 (by omega))
 have x7:wr.cell? ⟨b,off+i*13+7,none⟩=some (.int .i64 x.b.kind):=zi (zm HV.out yu.out) _ _ (hcell 7 (by omega))
 have x8:wr.cell? ⟨b,off+i*13+8,none⟩=some (.int .i64 x.b.n):=zi (zm HV.out yu.out) _ _ (hcell 8 (by omega))
 have x9:wr.cell? ⟨b,off+i*13+9,none⟩=some (.int .u8 x.b.op):=zi (zm HV.out yu.out) _ _ (hcell 9 (by omega))
 have x10:wr.cell? ⟨b,off+i*13+10,none⟩=some (.slice ba x.b.kids.length bc):=zi (zm HV.out yu.out) _ _ (hcell 10 (by omega))
 have qZ:wr.cell? ⟨b,off+i*13+11,none⟩=some (.slice ya x.yes.length yc):=zi (zm HV.out yu.out) _ _ (hcell 11 (by omega))
 have x12:wr.cell? ⟨b,off+i*13+12,none⟩=some (.slice na x.no.length nc):=zi (zm HV.out yu.out) _ _ (hcell 12 (by omega))
 generalize x.kind=q0 at x0 hst
 generalize x.reg=q1 at x1 hst
 generalize x.var=q2 at x2 hst
 generalize x.a.kind=q3 at x3 hst
 generalize x.a.n=q4 at x4 hst
 generalize x.a.op=q5 at x5 hst
 generalize x.a.kids.length=q6 at x6 hst
 generalize x.b.kind=q7 at x7 hst
 generalize x.b.n=q8 at x8 hst
 generalize x.b.op=q9 at x9 hst
 generalize x.b.kids.length=q10 at x10 hst
 generalize x.yes.length=q11 at qZ hst
 generalize x.no.length=q12 at x12 hst
 have HST:=qh hst
 have HX:=qh hx
 have HLX:=qh hlx
 clear hcell hA hB hY hNo hst hx hlx hn1 hT
 go_wp2_with(first|(at_builtin;go_must(refine xH Y rfl _ _ 40 rfl 45 (.agg #[.int .i64 0, .int .i64 0, .int .i64 0, .int .i64 0, .int .i64 0, .int .u8 0, .slice none 0 0, .int .i64 0, .int .i64 0, .int .u8 0, .slice none 0 0, .int .i64 0]) 12 128 Tryz.underlying40 vI rfl (by decide) w.heap.size (.slice oa on oc) on (css.flatten) rfl yS.out ta T.length zvG (cs2.flatten) rfl HR2.out.row.1 (vC HR2.out.row).1 (vC HR2.out.row).2 vR.out (by unfold maxLen;omega) (by omega) kF.out.size ?_);intro ja jc X2 f1 f2 f3 f4 f5;have HP:=qh (kN.out.app HR2.out.len HR2.out.part (by rw [<-uf.out];exact f1));have qz:=qh (kF.out.trans (f4.below kF.out.size (λk hk=>(yS.out.lt k hk).1)));clear f1 f2 f3 f4 f5)|(go_at_call 77;go_must(refine(HST.out wr yu.out).mono ?_);rintro e' Y ⟨⟨ta,zvG,cs2,rfl,hr⟩,hb⟩;have HR2:=qh hr;have kF:=qh (zm yu.out hb);have kN:=qh (HO.out.later hb);(have hrow:=kN.out.row);rw [<-uf.out] at hrow;(have yS:=qh hrow);(have vR:=qh (cells_one rfl hr.part hr.len));clear hr hb hrow x0 x1 x2 x3 x4 x5 x6 x7 x8 x9 x10 qZ x12))
 go_roundg (n - (i+1))
 case measure=>rw [HG.out];omega
 case rel=>exact⟨i+1,ja,on+T.length,jc,_,by omega,rfl,rfl,by simp,by rw [Hid,HX.out];exact HP.out,HLX.out.symm,qz.out⟩
end Go.Proofs.YtknmdmimecepfaaGreatDoor
namespace Go.Proofs.YtknmdmimecepfaaGreatDoor
open Go.RowKit
set_option maxRecDepth 100000
set_option maxHeartbeats 16000000
def zhH:zx:= .mk 0 0 0 []
theorem jR {e:Nat} (he:0<e) (w:World):zu e w zhH (.slice none 0 0):=by
 obtain⟨e,rfl⟩:∃f,e=f+1:=⟨e - 1,by omega⟩
 exact⟨none,0,rfl,by simp [zhH,zx.kids],λj hj=>by simp [zhH,zx.kids] at hj⟩
theorem kZ {e:Nat} {w:World} {x:zx} {v:Value} (h:zu e w x v):0<e:=by
 cases e with
 |zero=>exact h.elim
 |succ e=>omega
theorem uE {e B g:Nat} {V X:World} {t:TypeId} {x:zl} {cs:List Value} (hb:X.heap[g]? =some (.cells cs.toArray t (0,0))) (hB:B<=g) (hl:cs.length=12) (hx:yH e V x cs):vH V B X (yH e) 12 t (.slice (some ⟨g,0,none⟩) 1 1) [x] [cs] :=
 ⟨rfl,λj hj=>by
  obtain rfl:j=0:=by simpa using hj
  exact⟨hl,hx⟩,by
  have:=gL (B:=B) (n:=1) (size:=12) hb hB (by rw [hl]) (by decide)
  simpa using this⟩
theorem zkt (e d:Nat) (V w:World) (_hV:Below V.heap.size V w) (x:zq) (ka kb yv nv:Value) (ha:zu e V x.a ka) (hb:zu e V x.b kb) (hy:zJ e d V x.yes yv) (hn:zJ e d V x.no nv) (at_:Int) (h1:x.kind≠10) (h2:x.kind≠11):
  Calls Tryz.prog 77 #[jG x ka kb yv nv, .int .i64 at_] w (jP e V w (qw x at_)):=by
 obtain⟨aa,ac,rfl, -⟩:=ha.slice
 obtain⟨ba,bc,rfl, -⟩:=hb.slice
 obtain⟨ya,yc,rfl, -⟩:=hy.slice
 obtain⟨na,nc,rfl, -⟩:=hn.slice
 have hT:qw x at_= [zhE x] :=by
  obtain⟨k,r,v,a,b,y,n⟩:=x
  simp only [zq.kind] at h1 h2
  unfold qw
  rw [if_neg h1,if_neg h2];rfl
 have hR:yH e V (zhE x) [.int .i64 x.kind, .int .i64 x.reg, .int .i64 x.var, .int .i64 x.a.kind, .int .i64 x.a.n, .int .u8 x.a.op, .slice aa x.a.kids.length ac, .int .i64 x.b.kind, .int .i64 x.b.n, .int .u8 x.b.op, .slice ba x.b.kids.length bc, .int .i64 0] :=⟨_,_,rfl,ha,hb⟩
 have HR:=qh hR
 rw [hT]
 simp only [jG,zq.cells]
 clear hR hT ha hb hy hn
 generalize zhE x=P at HR ⊢
 generalize x.kind=q0 at HR h1 h2 ⊢
 generalize x.reg=q1 at HR ⊢
 generalize x.var=q2 at HR ⊢
 generalize x.a.kind=q3 at HR ⊢
 generalize x.a.n=q4 at HR ⊢
 generalize x.a.op=q5 at HR ⊢
 generalize x.a.kids.length=q6 at HR ⊢
 generalize x.b.kind=q7 at HR ⊢
 generalize x.b.n=q8 at HR ⊢
 generalize x.b.op=q9 at HR ⊢
 generalize x.b.kids.length=q10 at HR ⊢
 generalize x.yes.length=q11
 generalize x.no.length=q12
 go_enter Tryz.func77,Tryz.ntmps77
 go_wp2
 go_ret
 exact⟨⟨_,_,_,rfl,uE (xA w _ _) (by omega) rfl HR.out⟩,qJ w _ _⟩
theorem zaD {e:Nat} {V w w':World} {l:List zl} {a:Option Addr} {n c:Nat} {css:List (List Value)} (hn:n=l.length) (h:vH V w.heap.size w' (yH e) 12 45 (.slice a n c) l css) (hb:Below w.heap.size w w'):jP e V w l (.returned (.slice a n c)) w':=by subst hn;exact⟨⟨a,c,css,rfl,h⟩,hb⟩
theorem zku (e d:Nat) (hs:wH e d) (V w:World) (hV:Below V.heap.size V w) (x:zq) (ka kb yv nv:Value) (ha:zu e V x.a ka) (hb:zu e V x.b kb) (hy:zJ e d V x.yes yv) (hn:zJ e d V x.no nv) (at_:Int) (h0:0<=at_) (hmax:at_+(qw x at_).length<=1000000) (h1:x.kind=11):
  Calls Tryz.prog 77 #[jG x ka kb yv nv, .int .i64 at_] w (jP e V w (qw x at_)):=by
 obtain⟨aa,ac,rfl, -⟩:=ha.slice
 obtain⟨ba,bc,rfl, -⟩:=hb.slice
 obtain⟨ya,yc,rfl, -⟩:=hy.slice
 obtain⟨na,nc,rfl, -⟩:=hn.slice
 have hT:qw x at_=qg x.a (at_+2+(zA x.yes (at_+1)).length)::(zA x.yes (at_+1)++ [ku at_]):=by
  obtain⟨k,r,v,a,b,y,n⟩:=x
  simp only [zq.kind] at h1
  subst h1
  unfold qw
  rw [if_neg (by decide),if_pos rfl];rfl
 rw [hT] at hmax ⊢
 have hl:(qg x.a (at_+2+(zA x.yes (at_+1)).length)::(zA x.yes (at_+1)++ [ku at_])).length=1+(zA x.yes (at_+1)).length+1:=by simp;omega
 rw [hl] at hmax
 have hbl:=λy (hyy:Below V.heap.size V y)=>hs V y hyy x.yes _ hy (at_+1) (by omega) (by omega)
 generalize zA x.yes (at_+1)=Y at hmax hbl hl ⊢
 have hR:yH e V (qg x.a (at_+2+Y.length)) [.int .i64 12, .int .i64 0, .int .i64 0, .int .i64 x.a.kind, .int .i64 x.a.n, .int .u8 x.a.op, .slice aa x.a.kids.length ac, .int .i64 0, .int .i64 0, .int .u8 0, .slice none 0 0, .int .i64 (at_+2+(Y.length:Int))] :=⟨_,_,rfl,ha,jR (kZ ha) V⟩
 have hJ:yH e V (ku at_) [.int .i64 13, .int .i64 0, .int .i64 0, .int .i64 0, .int .i64 0, .int .u8 0, .slice none 0 0, .int .i64 0, .int .i64 0, .int .u8 0, .slice none 0 0, .int .i64 at_] :=⟨_,_,rfl,jR (kZ ha) V,jR (kZ ha) V⟩
 have HR:=qh hR
 have HJ:=qh hJ
 have HBL:=qh hbl
 have HV:=qh hV
 have yM:=qh hl
 simp only [jG,zq.cells]
 clear hR hJ hbl hl hT ha hb hy hn hs hV
 generalize qg x.a _=P at HR yM ⊢
 generalize ku at_=J at HJ yM ⊢
 rw [h1]
 generalize x.reg=q1
 generalize x.var=q2
 generalize x.a.kind=q3 at HR ⊢
 generalize x.a.n=q4 at HR ⊢
 generalize x.a.op=q5 at HR ⊢
 generalize x.a.kids.length=q6 at HR ⊢
 generalize x.b.kind=q7
 generalize x.b.n=q8
 generalize x.b.op=q9
 generalize x.b.kids.length=q10
 generalize x.yes.length=q11 at HBL ⊢
 generalize x.no.length=q12
 have hw1:=(Below.refl w.heap.size w).alloc (Nat.le_refl _) (.cells #[.int .i64 11, .int .i64 q1, .int .i64 q2, .int .i64 q3, .int .i64 q4, .int .u8 q5, .slice aa q6 ac, .int .i64 q7, .int .i64 q8, .int .u8 q9, .slice ba q10 bc, .slice ya q11 yc, .slice na q12 nc] 151)
 have hg1:=zT w (.cells #[.int .i64 11, .int .i64 q1, .int .i64 q2, .int .i64 q3, .int .i64 q4, .int .u8 q5, .slice aa q6 ac, .int .i64 q7, .int .i64 q8, .int .u8 q9, .slice ba q10 bc, .slice ya q11 yc, .slice na q12 nc] 151)
 have HW1:=qh hw1
 have xE:=qh hg1
 clear hw1 hg1 h1
 go_enter Tryz.func77,Tryz.ntmps77
 go_upto_region 1 with fail
 generalize World.alloc w _=W1 at HW1 xE ⊢
 generalize hgx:w.heap.size=gx at xE ⊢
 have k0:=za xE.out 0
 have k11:=za xE.out 11
 go_upto_region 12 with(go_at_call 55;go_must(refine(HBL.out W1 (zm HV.out HW1.out)).mono ?_);rintro en X1 ⟨⟨a1,c1,css,rfl,hr⟩,hb⟩;(have HY:=qh hr);(have HB1:=qh hb);clear hr hb k0 k11)
 have hWX:=HW1.out.trans (HB1.out.mono HW1.out.size)
 have k3:=zi HB1.out _ _ (za xE.out 3)
 have k4:=zi HB1.out _ _ (za xE.out 4)
 have k5:=zi HB1.out _ _ (za xE.out 5)
 have k6:=zi HB1.out _ _ (za xE.out 6)
 have hq:w.heap.size<=X1.heap.size:=hWX.size
 have ha1:=(Below.refl X1.heap.size X1).alloc (Nat.le_refl _) (.cells #[.int .i64 12, .int .i64 0, .int .i64 0, .int .i64 q3, .int .i64 q4, .int .u8 q5, .slice aa q6 ac, .int .i64 0, .int .i64 0, .int .u8 0, .slice none 0 0, .int .i64 (at_+2+(Y.length:Int))] 45)
 have ho1:=uE (e:=e) (B:=w.heap.size) (V:=V) (x:=P) (cs:= [.int .i64 12, .int .i64 0, .int .i64 0, .int .i64 q3, .int .i64 q4, .int .u8 q5, .slice aa q6 ac, .int .i64 0, .int .i64 0, .int .u8 0, .slice none 0 0, .int .i64 (at_+2+(Y.length:Int))]) (zT X1 (.cells #[.int .i64 12, .int .i64 0, .int .i64 0, .int .i64 q3, .int .i64 q4, .int .u8 q5, .slice aa q6 ac, .int .i64 0, .int .i64 0, .int .u8 0, .slice none 0 0, .int .i64 (at_+2+(Y.length:Int))] 45)) hq rfl HR.out
 have hy1:=HY.out.later ha1
 have vT:=qh (hWX.trans (ha1.mono hq))
 have wD:=qh ho1
 have wG:=qh hy1
 have vR:=qh (cells_one rfl HY.out.part HY.out.len)
 clear hWX ha1 ho1 hy1
 go_upto_region 13 with(at_builtin;go_must(refine xH (X1.alloc (.cells #[.int .i64 12, .int .i64 0, .int .i64 0, .int .i64 q3, .int .i64 q4, .int .u8 q5, .slice aa q6 ac, .int .i64 0, .int .i64 0, .int .u8 0, .slice none 0 0, .int .i64 (at_+2+(Y.length:Int))] 45)) rfl _ _ 40 rfl 45 (.agg #[.int .i64 0, .int .i64 0, .int .i64 0, .int .i64 0, .int .i64 0, .int .u8 0, .slice none 0 0, .int .i64 0, .int .i64 0, .int .u8 0, .slice none 0 0, .int .i64 0]) 12 128 Tryz.underlying40 vI rfl (by decide) w.heap.size (.slice (some ⟨X1.heap.size,0,none⟩) 1 1) 1 _ rfl wD.out.row a1 Y.length c1 (css.flatten) rfl wG.out.row.1 (vC wG.out.row).1 (vC wG.out.row).2 vR.out (by unfold maxLen;omega) (by omega) vT.out.size ?_);intro ja jc X2 f1 f2 f3 f4 f5;(have HP:=qh (wD.out.app wG.out.len wG.out.part f1));(have HB2:=qh (vT.out.trans (f4.below vT.out.size (λk hk=>(wD.out.row.lt k hk).1))));clear f1 f2 f3 f4 f5 k3 k4 k5 k6)
 have ha2:=(Below.refl X2.heap.size X2).alloc (Nat.le_refl _) (.cells #[.int .i64 13, .int .i64 0, .int .i64 0, .int .i64 0, .int .i64 0, .int .u8 0, .slice none 0 0, .int .i64 0, .int .i64 0, .int .u8 0, .slice none 0 0, .int .i64 at_] 45)
 have ho2:=uE (e:=e) (B:=w.heap.size) (V:=V) (x:=J) (cs:= [.int .i64 13, .int .i64 0, .int .i64 0, .int .i64 0, .int .i64 0, .int .u8 0, .slice none 0 0, .int .i64 0, .int .i64 0, .int .u8 0, .slice none 0 0, .int .i64 at_]) (zT X2 (.cells #[.int .i64 13, .int .i64 0, .int .i64 0, .int .i64 0, .int .i64 0, .int .u8 0, .slice none 0 0, .int .i64 0, .int .i64 0, .int .u8 0, .slice none 0 0, .int .i64 at_] 45)) HB2.out.size rfl HJ.out
 have hp2:=HP.out.later ha2
 have zdW:=qh (HB2.out.trans (ha2.mono HB2.out.size))
 have kN:=qh ho2
 have HP2:=qh hp2
 have zkv:=qh (cells_one rfl ho2.part ho2.len)
 have hpl:([P] ++Y).length=1+Y.length:=by rw [List.length_append];rfl
 have hrow2:=hp2.row
 rw [hpl] at hrow2
 have HPL:=qh hpl
 have uQ:=qh hrow2
 clear ha2 ho2 hp2 hpl hrow2
 go_wp2_with(at_builtin;go_must(refine xH (X2.alloc (.cells #[.int .i64 13, .int .i64 0, .int .i64 0, .int .i64 0, .int .i64 0, .int .u8 0, .slice none 0 0, .int .i64 0, .int .i64 0, .int .u8 0, .slice none 0 0, .int .i64 at_] 45)) rfl _ _ 40 rfl 45 (.agg #[.int .i64 0, .int .i64 0, .int .i64 0, .int .i64 0, .int .i64 0, .int .u8 0, .slice none 0 0, .int .i64 0, .int .i64 0, .int .u8 0, .slice none 0 0, .int .i64 0]) 12 128 Tryz.underlying40 vI rfl (by decide) w.heap.size (.slice ja (1+Y.length) jc) (1+Y.length) _ rfl uQ.out (some ⟨X2.heap.size,0,none⟩) 1 1 _ rfl kN.out.row.1 (vC kN.out.row).1 (vC kN.out.row).2 zkv.out (by unfold maxLen;omega) (by omega) zdW.out.size ?_);intro ya2 yc2 X3 f1 f2 f3 f4 f5;(have HQ:=qh (HP2.out.app kN.out.len kN.out.part (by rw [HPL.out];exact f1)));(have HB3:=qh (zdW.out.trans (f4.below zdW.out.size (λk hk=>(uQ.out.lt k hk).1))));clear f1 f2 f3 f4 f5)
 go_ret
 exact zaD (by rw [yM.out]) HQ.out HB3.out
theorem vH.since {α:Type} [Inhabited α] {V X X':World} {B size:Nat} {R:World->α->List Value->Prop} {t:TypeId} {v:Value} {l:List α} {css:List (List Value)} {F:Nat->Prop} (h:vH V B X R size t v l css) (hs:Since F X X') (hv:∀k,v.ownBlock=some k->¬F k):vH V B X' R size t v l css:=⟨h.len,h.part,hs.row h.row hv⟩
theorem zoj (e d:Nat) (hs:wH e d) (V w:World) (hV:Below V.heap.size V w) (x:zq) (ka kb yv nv:Value) (ha:zu e V x.a ka) (hb:zu e V x.b kb) (hy:zJ e d V x.yes yv) (hn:zJ e d V x.no nv) (at_:Int) (h0:0<=at_) (hmax:at_+(qw x at_).length<=1000000) (h1:x.kind=10) (h2:x.no.length=0):
  Calls Tryz.prog 77 #[jG x ka kb yv nv, .int .i64 at_] w (jP e V w (qw x at_)):=by
 obtain⟨aa,ac,rfl, -⟩:=ha.slice
 obtain⟨ba,bc,rfl, -⟩:=hb.slice
 obtain⟨ya,yc,rfl, -⟩:=hy.slice
 obtain⟨na,nc,rfl, -⟩:=hn.slice
 have hT:qw x at_=qg x.a (at_+1+(zA x.yes (at_+1)).length)::zA x.yes (at_+1):=by
  obtain⟨k,r,v,a,b,y,n⟩:=x
  simp only [zq.kind,zq.no] at h1 h2
  subst h1
  unfold qw
  rw [if_pos rfl,if_pos h2];rfl
 rw [hT] at hmax ⊢
 have hl:(qg x.a (at_+1+(zA x.yes (at_+1)).length)::zA x.yes (at_+1)).length=1+(zA x.yes (at_+1)).length:=by simp;omega
 rw [hl] at hmax
 have hbl:=λy (hyy:Below V.heap.size V y)=>hs V y hyy x.yes _ hy (at_+1) (by omega) (by omega)
 generalize zA x.yes (at_+1)=Y at hmax hbl hl ⊢
 have hR:yH e V (qg x.a (at_+1+Y.length)) [.int .i64 12, .int .i64 0, .int .i64 0, .int .i64 x.a.kind, .int .i64 x.a.n, .int .u8 x.a.op, .slice aa x.a.kids.length ac, .int .i64 0, .int .i64 0, .int .u8 0, .slice none 0 0, .int .i64 (at_+1+(Y.length:Int))] :=⟨_,_,rfl,ha,jR (kZ ha) V⟩
 have HR:=qh hR
 have HBL:=qh hbl
 have HV:=qh hV
 have yM:=qh hl
 simp only [jG,zq.cells]
 clear hR hbl hl hT ha hb hy hn hs hV
 generalize qg x.a _=P at HR yM ⊢
 rw [h1]
 generalize x.reg=q1
 generalize x.var=q2
 generalize x.a.kind=q3 at HR ⊢
 generalize x.a.n=q4 at HR ⊢
 generalize x.a.op=q5 at HR ⊢
 generalize x.a.kids.length=q6 at HR ⊢
 generalize x.b.kind=q7
 generalize x.b.n=q8
 generalize x.b.op=q9
 generalize x.b.kids.length=q10
 generalize x.yes.length=q11 at HBL ⊢
 rw [h2]
 have hw1:=(Below.refl w.heap.size w).alloc (Nat.le_refl _) (.cells #[.int .i64 10, .int .i64 q1, .int .i64 q2, .int .i64 q3, .int .i64 q4, .int .u8 q5, .slice aa q6 ac, .int .i64 q7, .int .i64 q8, .int .u8 q9, .slice ba q10 bc, .slice ya q11 yc, .slice na 0 nc] 151)
 have hg1:=zT w (.cells #[.int .i64 10, .int .i64 q1, .int .i64 q2, .int .i64 q3, .int .i64 q4, .int .u8 q5, .slice aa q6 ac, .int .i64 q7, .int .i64 q8, .int .u8 q9, .slice ba q10 bc, .slice ya q11 yc, .slice na 0 nc] 151)
 have HW1:=qh hw1
 have xE:=qh hg1
 clear hw1 hg1 h1 h2
 go_enter Tryz.func77,Tryz.ntmps77
 go_upto_region 1 with fail
 generalize World.alloc w _=W1 at HW1 xE ⊢
 generalize hgx:w.heap.size=gx at xE ⊢
 have k0:=za xE.out 0
 have k11:=za xE.out 11
 go_upto_region 4 with(go_at_call 55;go_must(refine(HBL.out W1 (zm HV.out HW1.out)).mono ?_);rintro en X1 ⟨⟨a1,c1,css,rfl,hr⟩,hb⟩;(have HY:=qh hr);(have HB1:=qh hb);clear hr hb k0 k11)
 have hWX:=HW1.out.trans (HB1.out.mono HW1.out.size)
 have k12:=zi HB1.out _ _ (za xE.out 12)
 have k3:=zi HB1.out _ _ (za xE.out 3)
 have k4:=zi HB1.out _ _ (za xE.out 4)
 have k5:=zi HB1.out _ _ (za xE.out 5)
 have k6:=zi HB1.out _ _ (za xE.out 6)
 have hq:w.heap.size<=X1.heap.size:=hWX.size
 have ha1:=(Below.refl X1.heap.size X1).alloc (Nat.le_refl _) (.cells #[.int .i64 12, .int .i64 0, .int .i64 0, .int .i64 q3, .int .i64 q4, .int .u8 q5, .slice aa q6 ac, .int .i64 0, .int .i64 0, .int .u8 0, .slice none 0 0, .int .i64 (at_+1+(Y.length:Int))] 45)
 have ho1:=uE (e:=e) (B:=w.heap.size) (V:=V) (x:=P) (cs:= [.int .i64 12, .int .i64 0, .int .i64 0, .int .i64 q3, .int .i64 q4, .int .u8 q5, .slice aa q6 ac, .int .i64 0, .int .i64 0, .int .u8 0, .slice none 0 0, .int .i64 (at_+1+(Y.length:Int))]) (zT X1 (.cells #[.int .i64 12, .int .i64 0, .int .i64 0, .int .i64 q3, .int .i64 q4, .int .u8 q5, .slice aa q6 ac, .int .i64 0, .int .i64 0, .int .u8 0, .slice none 0 0, .int .i64 (at_+1+(Y.length:Int))] 45)) hq rfl HR.out
 have hy1:=HY.out.later ha1
 have vT:=qh (hWX.trans (ha1.mono hq))
 have wD:=qh ho1
 have wG:=qh hy1
 have vR:=qh (cells_one rfl HY.out.part HY.out.len)
 clear hWX ha1 ho1 hy1
 go_wp2_with(at_builtin;go_must(refine xH (X1.alloc (.cells #[.int .i64 12, .int .i64 0, .int .i64 0, .int .i64 q3, .int .i64 q4, .int .u8 q5, .slice aa q6 ac, .int .i64 0, .int .i64 0, .int .u8 0, .slice none 0 0, .int .i64 (at_+1+(Y.length:Int))] 45)) rfl _ _ 40 rfl 45 (.agg #[.int .i64 0, .int .i64 0, .int .i64 0, .int .i64 0, .int .i64 0, .int .u8 0, .slice none 0 0, .int .i64 0, .int .i64 0, .int .u8 0, .slice none 0 0, .int .i64 0]) 12 128 Tryz.underlying40 vI rfl (by decide) w.heap.size (.slice (some ⟨X1.heap.size,0,none⟩) 1 1) (1) _ rfl wD.out.row a1 Y.length c1 _ rfl wG.out.row.1 (vC wG.out.row).1 (vC wG.out.row).2 vR.out (by unfold maxLen;omega) (by omega) vT.out.size ?_);intro ja jc X2 f1 f2 f3 f4 f5;(have HP:=qh (wD.out.app wG.out.len wG.out.part f1));(have HB2:=qh (vT.out.trans (f4.below vT.out.size (λk hk=>(wD.out.row.lt k hk).1))));clear f1 f2 f3 f4 f5)
 go_ret
 exact zaD (by rw [yM.out]) HP.out HB2.out
theorem zok (e d:Nat) (hs:wH e d) (V w:World) (hV:Below V.heap.size V w) (x:zq) (ka kb yv nv:Value) (ha:zu e V x.a ka) (hb:zu e V x.b kb) (hy:zJ e d V x.yes yv) (hn:zJ e d V x.no nv) (at_:Int) (h0:0<=at_) (hmax:at_+(qw x at_).length<=1000000) (h1:x.kind=10) (h2:¬x.no.length=0):
  Calls Tryz.prog 77 #[jG x ka kb yv nv, .int .i64 at_] w (jP e V w (qw x at_)):=by
 obtain⟨aa,ac,rfl, -⟩:=ha.slice
 obtain⟨ba,bc,rfl, -⟩:=hb.slice
 obtain⟨ya,yc,rfl, -⟩:=hy.slice
 obtain⟨na,nc,rfl, -⟩:=hn.slice
 have hT:qw x at_=qg x.a (at_+2+(zA x.yes (at_+1)).length)::(zA x.yes (at_+1)++ku (at_+2+(zA x.yes (at_+1)).length+(zA x.no (at_+2+(zA x.yes (at_+1)).length)).length)::zA x.no (at_+2+(zA x.yes (at_+1)).length)):=by
  obtain⟨k,r,v,a,b,y,n⟩:=x
  simp only [zq.kind,zq.no] at h1 h2
  subst h1
  unfold qw
  rw [if_pos rfl,if_neg h2];rfl
 rw [hT] at hmax ⊢
 have hl:(qg x.a (at_+2+(zA x.yes (at_+1)).length)::(zA x.yes (at_+1)++ku (at_+2+(zA x.yes (at_+1)).length+(zA x.no (at_+2+(zA x.yes (at_+1)).length)).length)::zA x.no (at_+2+(zA x.yes (at_+1)).length))).length=1+(zA x.yes (at_+1)).length+1+(zA x.no (at_+2+(zA x.yes (at_+1)).length)).length:=by simp;omega
 rw [hl] at hmax
 have hbl:=λy (hyy:Below V.heap.size V y)=>hs V y hyy x.yes _ hy (at_+1) (by omega) (by omega)
 generalize zA x.yes (at_+1)=Y at hmax hbl hl ⊢
 have hbn:=λy (hyy:Below V.heap.size V y)=>hs V y hyy x.no _ hn (at_+2+Y.length) (by omega) (by omega)
 generalize zA x.no (at_+2+Y.length)=N at hmax hbn hl ⊢
 have hR:yH e V (qg x.a (at_+2+Y.length)) [.int .i64 12, .int .i64 0, .int .i64 0, .int .i64 x.a.kind, .int .i64 x.a.n, .int .u8 x.a.op, .slice aa x.a.kids.length ac, .int .i64 0, .int .i64 0, .int .u8 0, .slice none 0 0, .int .i64 (at_+2+(Y.length:Int))] :=⟨_,_,rfl,ha,jR (kZ ha) V⟩
 have hJ:yH e V (ku (at_+2+(Y.length:Int)+(N.length:Int))) [.int .i64 13, .int .i64 0, .int .i64 0, .int .i64 0, .int .i64 0, .int .u8 0, .slice none 0 0, .int .i64 0, .int .i64 0, .int .u8 0, .slice none 0 0, .int .i64 (at_+2+(Y.length:Int)+(N.length:Int))] :=⟨_,_,rfl,jR (kZ ha) V,jR (kZ ha) V⟩
 have HR:=qh hR
 have HJ:=qh hJ
 have HBL:=qh hbl
 have HBN:=qh hbn
 have HV:=qh hV
 have yM:=qh hl
 simp only [jG,zq.cells]
 clear hR hJ hbn hbl hl hT ha hb hy hn hs hV
 generalize qg x.a _=P at HR yM ⊢
 generalize ku _=J at HJ yM ⊢
 rw [h1]
 generalize x.reg=q1
 generalize x.var=q2
 generalize x.a.kind=q3 at HR ⊢
 generalize x.a.n=q4 at HR ⊢
 generalize x.a.op=q5 at HR ⊢
 generalize x.a.kids.length=q6 at HR ⊢
 generalize x.b.kind=q7
 generalize x.b.n=q8
 generalize x.b.op=q9
 generalize x.b.kids.length=q10
 generalize x.yes.length=q11 at HBL ⊢
 generalize x.no.length=q12 at HBN h2 ⊢
 have hw1:=(Below.refl w.heap.size w).alloc (Nat.le_refl _) (.cells #[.int .i64 10, .int .i64 q1, .int .i64 q2, .int .i64 q3, .int .i64 q4, .int .u8 q5, .slice aa q6 ac, .int .i64 q7, .int .i64 q8, .int .u8 q9, .slice ba q10 bc, .slice ya q11 yc, .slice na q12 nc] 151)
 have hg1:=zT w (.cells #[.int .i64 10, .int .i64 q1, .int .i64 q2, .int .i64 q3, .int .i64 q4, .int .u8 q5, .slice aa q6 ac, .int .i64 q7, .int .i64 q8, .int .u8 q9, .slice ba q10 bc, .slice ya q11 yc, .slice na q12 nc] 151)
 have HW1:=qh hw1
 have xE:=qh hg1
 clear hw1 hg1 h1
 go_enter Tryz.func77,Tryz.ntmps77
 go_upto_region 1 with fail
 generalize World.alloc w _=W1 at HW1 xE ⊢
 generalize hgx:w.heap.size=gx at xE ⊢
 have k0:=za xE.out 0
 have k11:=za xE.out 11
 go_upto_region 4 with(go_at_call 55;go_must(refine(HBL.out W1 (zm HV.out HW1.out)).mono ?_);rintro en X1 ⟨⟨a1,c1,css,rfl,hr⟩,hb⟩;(have HY:=qh hr);(have HB1:=qh hb);clear hr hb k0 k11)
 have hnz:((q12:Int)==0)=false:=by simp;omega
 have k12:=zi HB1.out _ _ (za xE.out 12)
 go_upto_region 7 with(go_at_call 55;go_must(refine(HBN.out X1 (zm HV.out (HW1.out.trans (HB1.out.mono HW1.out.size)))).mono ?_);rintro en X0 ⟨⟨a2,c2,csn,rfl,hr⟩,hb⟩;(have HN:=qh hr);(have HB0:=qh hb);clear hr hb k12)
 have zf5:=HB1.out.trans (HB0.out.mono HB1.out.size)
 have HYL:=qh (HY.out.later HB0.out)
 have hWX:=HW1.out.trans (zf5.mono HW1.out.size)
 have k3:=zi zf5 _ _ (za xE.out 3)
 have k4:=zi zf5 _ _ (za xE.out 4)
 have k5:=zi zf5 _ _ (za xE.out 5)
 have k6:=zi zf5 _ _ (za xE.out 6)
 have hq:w.heap.size<=X0.heap.size:=hWX.size
 have ha1:=(Below.refl X0.heap.size X0).alloc (Nat.le_refl _) (.cells #[.int .i64 12, .int .i64 0, .int .i64 0, .int .i64 q3, .int .i64 q4, .int .u8 q5, .slice aa q6 ac, .int .i64 0, .int .i64 0, .int .u8 0, .slice none 0 0, .int .i64 (at_+2+(Y.length:Int))] 45)
 have ho1:=uE (e:=e) (B:=w.heap.size) (V:=V) (x:=P) (cs:= [.int .i64 12, .int .i64 0, .int .i64 0, .int .i64 q3, .int .i64 q4, .int .u8 q5, .slice aa q6 ac, .int .i64 0, .int .i64 0, .int .u8 0, .slice none 0 0, .int .i64 (at_+2+(Y.length:Int))]) (zT X0 (.cells #[.int .i64 12, .int .i64 0, .int .i64 0, .int .i64 q3, .int .i64 q4, .int .u8 q5, .slice aa q6 ac, .int .i64 0, .int .i64 0, .int .u8 0, .slice none 0 0, .int .i64 (at_+2+(Y.length:Int))] 45)) hq rfl HR.out
 have hy1:=HYL.out.later ha1
 have hn1:=HN.out.later ha1
 have hnl:∀k,(Value.slice a2 N.length c2).ownBlock=some k->k<X0.heap.size:=λk hk=>(HN.out.row.lt k hk).2
 have vT:=qh (hWX.trans (ha1.mono hq))
 have wD:=qh ho1
 have wG:=qh hy1
 have HN1:=qh hn1
 have HNL:=qh hnl
 have vR:=qh (cells_one rfl HYL.out.part HYL.out.len)
 have zvH:=qh (cells_one rfl HN.out.part HN.out.len)
 clear hWX ha1 ho1 hy1 hn1 hnl zf5
 go_upto_region 8 with(at_builtin;go_must(refine xH (X0.alloc (.cells #[.int .i64 12, .int .i64 0, .int .i64 0, .int .i64 q3, .int .i64 q4, .int .u8 q5, .slice aa q6 ac, .int .i64 0, .int .i64 0, .int .u8 0, .slice none 0 0, .int .i64 (at_+2+(Y.length:Int))] 45)) rfl _ _ 40 rfl 45 (.agg #[.int .i64 0, .int .i64 0, .int .i64 0, .int .i64 0, .int .i64 0, .int .u8 0, .slice none 0 0, .int .i64 0, .int .i64 0, .int .u8 0, .slice none 0 0, .int .i64 0]) 12 128 Tryz.underlying40 vI rfl (by decide) w.heap.size (.slice (some ⟨X0.heap.size,0,none⟩) 1 1) (1) _ rfl wD.out.row a1 Y.length c1 _ rfl wG.out.row.1 (vC wG.out.row).1 (vC wG.out.row).2 vR.out (by unfold maxLen;omega) (by omega) vT.out.size ?_);intro ja jc X2 f1 f2 f3 f4 f5;(have HP:=qh (wD.out.app wG.out.len wG.out.part f1));(have HB2:=qh (vT.out.trans (f4.below vT.out.size (λk hk=>(wD.out.row.lt k hk).1))));(have HN2:=qh (HN1.out.since f4 (λk hk hg=>by have:=HNL.out k hk;simp [Value.ownBlock] at hg;omega)));(have HJ2:Hid (∀k,(Value.slice ja (1+Y.length) jc).ownBlock=some k->X0.heap.size<=k):=λk hk=>by rcases f5 k hk with h|h;(· simp [Value.ownBlock] at h;omega);(· rw [h];simp));clear f1 f2 f3 f4 f5 k3 k4 k5 k6)
 have ha2:=(Below.refl X2.heap.size X2).alloc (Nat.le_refl _) (.cells #[.int .i64 13, .int .i64 0, .int .i64 0, .int .i64 0, .int .i64 0, .int .u8 0, .slice none 0 0, .int .i64 0, .int .i64 0, .int .u8 0, .slice none 0 0, .int .i64 (at_+2+(Y.length:Int)+(N.length:Int))] 45)
 have ho2:=uE (e:=e) (B:=w.heap.size) (V:=V) (x:=J) (cs:= [.int .i64 13, .int .i64 0, .int .i64 0, .int .i64 0, .int .i64 0, .int .u8 0, .slice none 0 0, .int .i64 0, .int .i64 0, .int .u8 0, .slice none 0 0, .int .i64 (at_+2+(Y.length:Int)+(N.length:Int))]) (zT X2 (.cells #[.int .i64 13, .int .i64 0, .int .i64 0, .int .i64 0, .int .i64 0, .int .u8 0, .slice none 0 0, .int .i64 0, .int .i64 0, .int .u8 0, .slice none 0 0, .int .i64 (at_+2+(Y.length:Int)+(N.length:Int))] 45)) HB2.out.size rfl HJ.out
 have hp2:=HP.out.later ha2
 have hn2:=HN2.out.later ha2
 have zdW:=qh (HB2.out.trans (ha2.mono HB2.out.size))
 have kN:=qh ho2
 have HP2:=qh hp2
 have HN3:=qh hn2
 have zkv:=qh (cells_one rfl ho2.part ho2.len)
 have hpl:([P] ++Y).length=1+Y.length:=by rw [List.length_append];rfl
 have hrow2:=hp2.row
 rw [hpl] at hrow2
 have HPL:=qh hpl
 have uQ:=qh hrow2
 clear ha2 ho2 hp2 hn2 hpl hrow2
 go_upto_region 9 with(at_builtin;go_must(refine xH (X2.alloc (.cells #[.int .i64 13, .int .i64 0, .int .i64 0, .int .i64 0, .int .i64 0, .int .u8 0, .slice none 0 0, .int .i64 0, .int .i64 0, .int .u8 0, .slice none 0 0, .int .i64 (at_+2+(Y.length:Int)+(N.length:Int))] 45)) rfl _ _ 40 rfl 45 (.agg #[.int .i64 0, .int .i64 0, .int .i64 0, .int .i64 0, .int .i64 0, .int .u8 0, .slice none 0 0, .int .i64 0, .int .i64 0, .int .u8 0, .slice none 0 0, .int .i64 0]) 12 128 Tryz.underlying40 vI rfl (by decide) w.heap.size (.slice ja (1+Y.length) jc) (1+Y.length) _ rfl uQ.out (some ⟨X2.heap.size,0,none⟩) 1 1 _ rfl kN.out.row.1 (vC kN.out.row).1 (vC kN.out.row).2 zkv.out (by unfold maxLen;omega) (by omega) zdW.out.size ?_);intro la lc X3 f1 f2 f3 f4 f5;(have HQ:=qh (HP2.out.app kN.out.len kN.out.part (by rw [HPL.out];exact f1)));(have HB3:=qh (zdW.out.trans (f4.below zdW.out.size (λk hk=>(uQ.out.lt k hk).1))));(have HN4:=qh (HN3.out.since f4 (λk hk hg=>by have h1:=HNL.out k hk;have h2:=HJ2.out k hg;omega)));clear f1 f2 f3 f4 f5)
 have hpl:([P] ++Y++ [J]).length=1+Y.length+1:=by rw [List.length_append,List.length_append];rfl
 have hrow3:=HQ.out.row
 rw [hpl] at hrow3
 have zvI:=qh hpl
 have zeN:=qh hrow3
 clear hpl hrow3
 go_wp2_with(at_builtin;go_must(refine xH (X3) rfl _ _ 40 rfl 45 (.agg #[.int .i64 0, .int .i64 0, .int .i64 0, .int .i64 0, .int .i64 0, .int .u8 0, .slice none 0 0, .int .i64 0, .int .i64 0, .int .u8 0, .slice none 0 0, .int .i64 0]) 12 128 Tryz.underlying40 vI rfl (by decide) w.heap.size (.slice la (1+Y.length+1) lc) (1+Y.length+1) _ rfl zeN.out a2 N.length c2 _ rfl HN4.out.row.1 (vC HN4.out.row).1 (vC HN4.out.row).2 zvH.out (by unfold maxLen;omega) (by omega) HB3.out.size ?_);intro ma mc X4 f1 f2 f3 f4 f5;(have HQ4:=qh (HQ.out.app HN4.out.len HN4.out.part (by rw [zvI.out];exact f1)));(have wN:=qh (HB3.out.trans (f4.below HB3.out.size (λk hk=>(zeN.out.lt k hk).1))));clear f1 f2 f3 f4 f5)
 go_ret
 have hq4:=HQ4.out
 rw [show [P] ++Y++ [J] ++N=P::(Y++J::N) by simp] at hq4
 exact zaD (by rw [yM.out]) hq4 wN.out
theorem zqx (e d:Nat) (h:wH e d):zhF e d:=by
 intro V w hV x ka kb yv nv ha hb hy hn at_ h0 hmax
 by_cases h1:x.kind=10
 ·by_cases h2:x.no.length=0
  ·exact zoj e d h V w hV x ka kb yv nv ha hb hy hn at_ h0 hmax h1 h2
  exact zok e d h V w hV x ka kb yv nv ha hb hy hn at_ h0 hmax h1 h2
 by_cases h2:x.kind=11
 ·exact zku e d h V w hV x ka kb yv nv ha hb hy hn at_ h0 hmax h2
 exact zkt e d V w hV x ka kb yv nv ha hb hy hn at_ h1 h2
theorem zlB (e d:Nat):wH e d:=by
 induction d with
 |zero=>intro V w _ l v hl;exact hl.elim
 |succ d ih=>exact zoi e d (zqx e d ih)
