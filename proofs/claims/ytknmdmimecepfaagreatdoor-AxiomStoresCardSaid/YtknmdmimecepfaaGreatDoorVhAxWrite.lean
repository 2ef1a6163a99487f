/- Steps. -/
import Derived.Test.YtknmdmimecepfaaGreatDoorVhAxMay
set_option linter.all false
namespace Go.Proofs.YtknmdmimecepfaaGreatDoor
open Go.RowKit
set_option maxRecDepth 100000
set_option maxHeartbeats 16000000
def yJ (model:Int) (W:za) (i k:Nat):Bool:= !((W.th i).evs.getD k default).come && wz model (W.th i) k ((W.th i).evs.getD k default)
def zP.did (e:zP):zP:=⟨e.v,e.n,e.reads,e.writes,e.fence,true⟩
def zF (W:za) (i k:Nat):za:=
 if ((W.th i).evs.getD k default).writes then(W.yF i k ((W.th i).evs.getD k default).did).xq ((W.th i).evs.getD k default).v.toNat ((W.th i).evs.getD k default).n
 else W.yF i k ((W.th i).evs.getD k default).did
def xZ (g:Nat) (model:Int) (W:za) (i k:Nat) (w:World) (e:Ending) (w':World):Prop:=e= .returned (.bool (yJ model W i k))/\zo w' g (if yJ model W i k then zF W i k else W)/\yC g w w'
theorem xZ.no {g:Nat} {model:Int} {W:za} {i k:Nat} {w w':World} (h:yJ model W i k=false) (h1:zo w' g W) (h2:yC g w w'):xZ g model W i k w (.returned (.bool false)) w':=⟨by rw [h],by rw [h];exact h1,h2⟩
theorem xZ.yes {g:Nat} {model:Int} {W V:za} {i k:Nat} {w w':World} (h:yJ model W i k=true) (hv:zF W i k=V) (h1:zo w' g V) (h2:yC g w w'):xZ g model W i k w (.returned (.bool true)) w':=⟨by rw [h],by rw [h,if_pos rfl,hv];exact h1,h2⟩
theorem zci (w:World) (mb:Nat) (model:Int) (hm:w.cell? ⟨mb,3,none⟩=some (.int .i64 model)) (g:Nat) (W:za) (hW:zo w g W) (i:Nat) (hi:i<4) (k:Nat) (hk:k<8)
  (hev:0<=((W.th i).evs.getD k default).v/\((W.th i).evs.getD k default).v<4):
  Calls Tryz.prog 46 #[.pointer (some ⟨mb,0,none⟩), .pointer (some ⟨g,0,none⟩), .int .i64 i, .int .i64 k] w (xZ g model W i k w):=by
 have he:=λj (hj:j<6) u (hu:((W.zD.getD i default).evs.getD k default).cells[j]? =some u)=>hW.ev hi hk hj hu
 have hmay:=λ(X:World) (hX:Below w.heap.size w X)=>zdP X mb model (zk hX _ _ hm) g W (hW.later hX) i hi k (by omega) ((W.th i).evs.getD k default)
 have hset:=λ(X:World) (hX:zo X g W)=>hX.yF hi hk (k:=5) (by omega) (e:=((W.th i).evs.getD k default).did) (u:= .bool true) rfl
 have hmw:yJ model W i k=(!((W.th i).evs.getD k default).come && wz model (W.th i) k ((W.th i).evs.getD k default)):=rfl
 have hww:zF W i k=if ((W.th i).evs.getD k default).writes then(W.yF i k ((W.th i).evs.getD k default).did).xq ((W.th i).evs.getD k default).v.toNat ((W.th i).evs.getD k default).n else W.yF i k ((W.th i).evs.getD k default).did:=rfl
 obtain⟨e,hee⟩:∃e,e=(W.th i).evs.getD k default:=⟨_,rfl⟩
 rw [show(W.zD.getD i default).evs.getD k default=e from hee.symm] at he
 rw [<-hee] at hev hmay hset hmw hww
 obtain⟨mq,hmq⟩:∃b,b=wz model (W.th i) k e:=⟨_,rfl⟩
 rw [<-hmq] at hmay hmw
 obtain⟨W1,hW1⟩:∃v,v=W.yF i k e.did:=⟨_,rfl⟩
 rw [<-hW1] at hset hww
 clear hee hmq hW1
 obtain⟨ev,en,er,ew,ef,ec⟩:=e
 unfold zP.val at hmay
 simp only [] at hev hmay hmw hww
 obtain⟨v,rfl⟩:∃v:Nat,ev=(v:Int):=⟨ev.toNat,by omega⟩
 simp only [Int.toNat_natCast] at hww
 have hv4:v<4:=by omega
 have hvI:(v:Int)<4:=by omega
 have hv0:(0:Int)<=(v:Int):=by omega
 have z0:=he 0 (by omega) _ rfl
 have z1:=he 1 (by omega) _ rfl
 have z2:=he 2 (by omega) _ rfl
 have z3:=he 3 (by omega) _ rfl
 have z4:=he 4 (by omega) _ rfl
 have z5:=he 5 (by omega) _ rfl
 simp only [Nat.add_zero] at z0
 have HZ5:=qh z5
 have zbh:=qh hmay
 have zcz:=qh hset
 have pW:=qh hmw
 have HWW:=qh hww
 have HW:=qh hW
 have HA:=qh (zw w (.cells #[.int .i64 (v:Int), .int .i64 en, .bool er, .bool ew, .bool ef, .bool ec] 61))
 have zL:=qh (yG w (.cells #[.int .i64 (v:Int), .int .i64 en, .bool er, .bool ew, .bool ef, .bool ec] 61))
 have hiI:(i:Int)<4:=by omega
 have hkI:(k:Int)<8:=by omega
 have hk0:(0:Int)<=(k:Int):=by omega
 clear he hmay hset hmw hww hW hm hev
 go_enter Tryz.func46,Tryz.ntmps46
 go_upto_region 3 with fail
 generalize World.alloc w _=X at HA zL ⊢
 have HGE:Hid (w.heap.size≠g):=by have:=zI HW.out.blk;show w.heap.size≠g;omega
 generalize w.heap.size=ge at zL HGE ⊢
 have e0:=ze zL.out 0
 have e1:=ze zL.out 1
 have e2:=ze zL.out 2
 have e3:=ze zL.out 3
 have e4:=ze zL.out 4
 have e5:=ze zL.out 5
 clear z0 z1 z2 z3 z4 z5
 cases ec with
 |true=>
  have gJ:=qh (pW.out.trans (by rfl:_=false))
  have vJ:=qh (HW.out.later HA.out)
  have uM:Hid (yC g w X):=zA _ HA.out
  go_wp2_with fail
  go_ret
  exact xZ.no gJ.out vJ.out uM.out
 |false=>
 cases mq with
 |false=>
  have gJ:=qh (pW.out.trans (by rfl:_=false))
  go_wp2_with(go_at_call 68;go_must(refine(zbh.out X HA.out).mono ?_);rintro e' Y ⟨rfl,hb⟩;(have HY:=qh (zn HA.out hb));clear hb e0 e1 e2 e3 e4 e5)
  go_ret
  exact xZ.no gJ.out (HW.out.later HY.out) (zA _ HY.out)
 |true=>
 have zeY:=qh (pW.out.trans (by rfl:_=true))
 go_upto_region 5 with(go_at_call 68;go_must(refine(zbh.out X HA.out).mono ?_);rintro e' Y ⟨rfl,hb⟩;(have HXY:=qh hb);clear hb e0 e1 e2 e3 e4 e5)
 have HY:=qh (zn HA.out HXY.out)
 have hwy:=HW.out.later HY.out
 have HWY:=qh hwy
 have q0:=zk HY.out _ _ HZ5.out
 have q1:=hwy.free (i*54+5+k*6+5)
 have HNY:=qh ((HXY.out.block _ (zI zL.out)).trans zL.out)
 clear hwy
 go_upto_region 6 with fail
 have hw2:=zcz.out Y HWY.out
 have hs2:Since (λk=>k=g) Y (Y.setCell ⟨g,i*54+5+k*6+5,none⟩ (.bool true)):=Since.setCell (F:=λk=>k=g) (p:=⟨g,i*54+5+k*6+5,none⟩) (Since.refl _ Y) (.inl rfl) _
 generalize World.setCell Y _ _=Z at hw2 hs2 ⊢
 have HW2:=qh hw2
 have HNZ:=qh ((hs2.block _ (zI HNY.out) HGE.out).trans HNY.out)
 have HS2:Hid (yC g w Z):=Since.trans (zA _ HY.out) hs2 (λ_ h=> .inl h)
 clear hw2 hs2 q0 q1
 have e0:=ze HNZ.out 0
 have e1:=ze HNZ.out 1
 have e3:=ze HNZ.out 3
 cases ew with
 |false=>
  have HV:=qh (HWW.out.trans (by rfl:_=W1))
  go_wp2_with fail
  go_ret
  exact xZ.yes zeY.out HV.out HW2.out HS2.out
 |true=>
 have HV:=qh (HWW.out.trans (by rfl:_=W1.xq v en))
 have CC:Hid (∀x,Below Z.heap.size Z x->x.cell? ⟨ge,0,none⟩=some (.int .i64 (v:Int))/\x.cell? ⟨ge,1,none⟩=some (.int .i64 en)):=λx hx=>⟨zk hx _ _ (ze HNZ.out 0),zk hx _ _ (ze HNZ.out 1)⟩
 go_upto_region 7 with fail
 clear e0 e1 e3
 refine wp_region_noPanic ?_
 refine yM (n0:=8) (S:=λx=>Below Z.heap.size Z x) (by kernel_rfl) ((Below.refl _ _).drew) (λhA7=> ?_)
 refine zT 0 (λ_=>hA7) ?_
 refine zT 1 (λ_=>hA7) ?_
 refine jR [7,8] 2 CC.out hA7 ?_
 refine zT 3 (λ_=>hA7) ?_
 refine jR [7,8] 4 CC.out hA7 ?_
 refine zT 5 (λ_=>hA7) ?_
 refine zT 6 (λ_=>hA7) ?_
 refine zT 7 (λ_=>hA7) ?_
 refine wM 8 rfl (λK hK=> ?_)
 have kE:=HW2.out.later hA7
 have p0:=kE.mem hv4
 have p1:=kE.free (216+v)
 clear kE
 go_simp
 refine hK.out _ _ (λh=>absurd rfl h) ?_
 clear hK K
 refine xG (by kernel_rfl) ?_ _
 refine NoPanic.normal ?_
 clear p0 p1
 have hw3:=(HW2.out.later (Below.refl _ _).drew).xq hv4 en
 have HW3:=qh hw3
 have HS3:Hid (yC g w (Z.drew.setCell ⟨g,216+v,none⟩ (.int .i64 en))):=Since.setCell (p:=⟨g,216+v,none⟩) (Since.drew _ HS2.out) (.inl rfl) _
 clear hw3
 go_wp2_with fail
 go_ret
 exact xZ.yes zeY.out HV.out HW3.out HS3.out
def wK (l:List zi) (t:zH):Bool:=decide (l.length<=t.at_) && !((List.range t.many).any λj=> !(t.evs.getD j default).come)
def jQ (c:zl) (W:za) (n:Nat):Bool:=(List.range n).all λi=>wK (c.threads.getD i []) (W.th i)
def yS (c:zl) (W:za):Bool:=jQ c W c.threads.length
theorem zjL {c:zl} {W:za} {i:Nat} (hi:i<c.threads.length) (h:wK (c.threads.getD i []) (W.th i)=false):yS c W=false:=by
 unfold yS jQ
 rw [List.all_eq_false]
 exact⟨i,by simpa using hi,by rw [h];simp⟩
theorem zgo {c:zl} {W:za} {i:Nat} :jQ c W (i+1)=(jQ c W i && wK (c.threads.getD i []) (W.th i)):=by
 unfold jQ
 rw [List.range_succ,List.all_append];simp
theorem zhF (V w:World) (mb:Nat) (c:zl) (cv:Value) (d:Nat) (model:Int) (hC:vE V w mb c cv d model) (h4:c.threads.length<=4) (g:Nat) (W:za) (hW:zo w g W):
  Calls Tryz.prog 43 #[.pointer (some ⟨mb,0,none⟩), .pointer (some ⟨g,0,none⟩)] w λe w'=>e= .returned (.bool (yS c W))/\Below w.heap.size w w':=by
 obtain⟨ta,tc,rfl, -⟩:=zf.slice hC.code
 have c2:=hC.rows
 obtain⟨cn,hcn⟩:∃n,n=c.threads.length:=⟨_,rfl⟩
 rw [<-hcn] at h4 c2
 have jq:=qh hcn
 obtain⟨r,hr⟩:∃r,r=yS c W:=⟨_,rfl⟩
 rw [<-hr]
 have HR:=qh hr
 have HC:=qh hC
 have HW:=qh hW
 clear hcn hr hC hW
 go_enter Tryz.func43,Tryz.ntmps43
 go_wp2_with fail
 go_loopg [14] cn (λgg s14 wr=>∃i:Nat,i<=cn/\Hid (gg=cn - i)/\s14= .int .i64 i/\Hid (jQ c W i=true)/\Hid (Below w.heap.size w wr))
 case atStart=>exact⟨0,Nat.zero_le _,rfl,rfl,rfl,Below.refl _ _⟩
 case round=>
 obtain⟨i,hi,HG,rfl,HD,HB⟩:=hrel
 obtain⟨wo,rfl⟩:∃wo:World,wo=wr:=⟨_,rfl⟩
 by_cases hlt:i<cn
 rotate_left
 ·obtain rfl:cn=i:=by omega
  have HRT:Hid (r=true):=by show r=true;rw [HR.out];unfold yS;rw [<-jq.out];exact HD.out
  go_wp2_with fail
  go_ret
  exact⟨by rw [HRT.out];first|rfl|simp,HB.out⟩
 have qK:(i:Int)<(cn:Int):=by omega
 have hi4:i<4:=by omega
 have hiI:(i:Int)<4:=by omega
 obtain⟨eb,eo,ka,kc,rfl, -,hrow, -⟩:=yB.part HC.out.code i (by rw [<-jq.out];exact hlt)
 obtain⟨l,hl⟩:∃l,l=c.threads.getD i [] :=⟨_,rfl⟩
 obtain⟨b,hb⟩:∃b,b=wK (c.threads.getD i []) (W.th i):=⟨_,rfl⟩
 have hsucc:jQ c W (i+1)=b:=by rw [zgo,HD.out,hb];rfl
 have hno:b=false->r=false:=λh=>by rw [HR.out];exact zjL (by rw [<-jq.out];exact hlt) (by rw [<-hb];exact h)
 rw [<-hl] at hrow hb
 obtain⟨ln,hln⟩:∃n,n=l.length:=⟨_,rfl⟩
 rw [<-hln] at hrow
 have ztv:ln<=9223372036854775807:=by
  obtain⟨eb',eo',ka',kc',he', -, -,hins⟩:=yB.part HC.out.code i (by rw [<-jq.out];exact hlt)
  obtain⟨a',cap', -,h9⟩:=zf.slice hins
  rw [hln,hl];exact h9
 obtain⟨p,hp⟩:∃p,p=(W.th i).at_:=⟨_,rfl⟩
 obtain⟨q,hq⟩:∃q,q=(List.range (W.th i).many).any λj=> !((W.th i).evs.getD j default).come:=⟨_,rfl⟩
 have hb2:b=(decide (ln<=p) && !q):=by rw [hb,hln,hp,hq];rfl
 have hwo:=HW.out.later HB.out
 have a0:=hwo.at0 hi4
 rw [show(W.zD.getD i default).at_=p from hp.symm] at a0
 have m0:=hwo.many hi4
 have wN:(W.th i).many<=8:=(za.yu hwo.ok hi4).many
 have hcall:=λ(X:World) (hX:Below wo.heap.size wo X)=>pX EvR EvR.stays X _ _ ((hwo.later hX).zgA hi4 wN) 65 #[] #[] (λj=> !((W.th i).evs.getD j default).come) (λ_ _=>rfl) (λj hj Y cs hcl hcs hY=>by
  have hlk:((W.th i).evs.take (W.th i).many).length=(W.th i).many:=by rw [List.length_take,(za.yu hwo.ok hi4).evs];omega
  rw [hlk] at hj
  rw [take_at hj] at hcs
  have hcs:cs=((W.th i).evs.getD j default).cells:=hcs
  subst hcs
  exact zgi Y _)
 have hlk:((W.th i).evs.take (W.th i).many).length=(W.th i).many:=by rw [List.length_take,(za.yu hwo.ok hi4).evs];omega
 rw [hlk, <-hq] at hcall
 obtain⟨m,hm⟩:∃m,m=(W.th i).many:=⟨_,rfl⟩
 rw [show(W.zD.getD i default).many=m from hm.symm] at m0
 rw [<-hm] at hcall wN
 have hmI:(m:Int)<=8:=by omega
 have hm0:(0:Int)<=(m:Int):=by omega
 have HB2:=qh hb2
 have HSU:=qh hsucc
 have gJ:=qh hno
 have zdl:=qh hcall
 have row:=zk (HC.out.base.trans (HB.out.mono HC.out.base.size)) _ _ hrow
 have CC:Hid (∀x,Below wo.heap.size wo x->x.cell? ⟨g,i*54,none⟩=some (.int .i64 (p:Int))/\x.cell? ⟨g,i*54+53,none⟩=some (.int .i64 (m:Int))):=λx hx=>⟨zk hx _ _ a0,zk hx _ _ m0⟩
 clear hb hb2 hsucc hno hl hln hp hq hm hwo hcall hlk hrow
 go_upto_region 5 with fail
 clear row a0 m0
 by_cases hat:p<ln
 ·have zrm:(p:Int)<(ln:Int):=by omega
  have hb0:b=false:=by rw [HB2.out,decide_eq_false (by omega)];rfl
  have HRF:=qh (gJ.out hb0)
  clear hb0
  refine vP (S:=λx=>Below wo.heap.size wo x) ((Below.refl _ _).drew) (λhA5=> ?_)
  refine zh 0 CC.out ?_
  refine zh 1 CC.out ?_
  refine zh 2 CC.out ?_
  refine zh 3 CC.out ?_
  refine zh 4 CC.out ?_
  refine zh 5 CC.out ?_
  refine zh 6 CC.out ?_
  refine zh 7 CC.out ?_
  refine qV 8 (by assumption) ?_
  refine qV 9 (by assumption) ?_
  refine qV 10 (by assumption) ?_
  refine qV 11 (by assumption) ?_
  refine qV 12 (by assumption) ?_
  refine qV 13 (by assumption) ?_
  refine qV 14 (by assumption) ?_
  refine qV 15 (by assumption) ?_
  refine qV 16 (by assumption) ?_
  refine zh 17 CC.out ?_
  refine vK ?_
  have vJ:=qh (zn HB.out hA5)
  go_wp2_with fail
  go_ret
  exact⟨by rw [HRF.out];first|rfl|simp,vJ.out⟩
 have zrm:(ln:Int)<=(p:Int):=by omega
 have ztw:¬(p:Int)<(ln:Int):=by omega
 have hbq:b= !q:=by rw [HB2.out,decide_eq_true (by omega)];rfl
 refine vP (S:=λx=>Below wo.heap.size wo x) ((Below.refl _ _).drew) (λhB5=> ?_)
 refine zh 0 CC.out ?_
 refine zh 1 CC.out ?_
 refine zh 2 CC.out ?_
 refine zh 3 CC.out ?_
 refine zh 4 CC.out ?_
 refine zh 5 CC.out ?_
 refine zh 6 CC.out ?_
 refine zh 7 CC.out ?_
 refine zh 8 CC.out ?_
 refine zh 9 CC.out ?_
 refine zh 10 CC.out ?_
 refine zh 11 CC.out ?_
 refine zh 12 CC.out ?_
 refine zh 13 CC.out ?_
 refine zh 14 CC.out ?_
 refine zh 15 CC.out ?_
 refine qG 16 rfl (λK hK=> ?_)
 go_simp
 refine(zdl.out wo.drew hB5).mono ?_
 rintro e zrn ⟨rfl,hb⟩
 have zjM:Below wo.heap.size wo zrn:=zn hB5 hb
 refine hK.out _ _ zjM (λ_=> ?_)
 clear hK K hb hB5
 refine zh 17 CC.out ?_
 refine vK ?_
 have vJ:=qh (zn HB.out zjM)
 cases q with
 |true=>
  have HRF:=qh (gJ.out hbq)
  clear hbq
  go_wp2_with fail
  go_ret
  exact⟨by rw [HRF.out];first|rfl|simp,vJ.out⟩
 |false=>
 have bE:=qh (HSU.out.trans hbq)
 clear hbq
 go_wp2_with fail
 go_roundg (cn - (i+1))
 case measure=>rw [HG.out];omega
 case rel=>exact⟨i+1,by omega,rfl,by simp,bE.out,vJ.out⟩
