/- Steps. -/
import Derived.Test.YtknmdmimecepfaaGreatDoorVgAxTold
set_option linter.all false
namespace Go.Proofs.YtknmdmimecepfaaGreatDoor
open Go.RowKit
set_option maxRecDepth 100000
set_option maxHeartbeats 16000000
def p8 (l:List zl) (t:zR):Bool:=decide (l.length<=t.at_) && !((List.range t.many).any λj=> !(t.evs.getD j default).come)
def uZ (c:zo) (W:ze) (n:Nat):Bool:=(List.range n).all λi=>p8 (c.threads.getD i []) (W.th i)
def qL (c:zo) (W:ze):Bool:=uZ c W c.threads.length
theorem zmk {c:zo} {W:ze} {i:Nat} (hi:i<c.threads.length) (h:p8 (c.threads.getD i []) (W.th i)=false):qL c W=false:=by
 unfold qL uZ
 rw [List.all_eq_false]
 exact⟨i,by simpa using hi,by rw [h];simp⟩
theorem zi8 {c:zo} {W:ze} {i:Nat} :uZ c W (i+1)=(uZ c W i && p8 (c.threads.getD i []) (W.th i)):=by
 unfold uZ
 rw [List.range_succ,List.all_append];simp
theorem zjE (V w:World) (mb:Nat) (c:zo) (cv:Value) (d:Nat) (model:Int) (hC:j6 V w mb c cv d model) (h4:c.threads.length<=4) (g:Nat) (W:ze) (hW:zC w g W):
  Calls Tryz.prog 43 #[.pointer (some ⟨mb,0,none⟩), .pointer (some ⟨g,0,none⟩)] w λe w'=>e= .returned (.bool (qL c W))/\Below w.heap.size w w':=by
 obtain⟨ta,tc,rfl, -⟩:=zh.slice hC.code
 have c2:=hC.rows
 obtain⟨cn,hcn⟩:∃n,n=c.threads.length:=⟨_,rfl⟩
 rw [<-hcn] at h4 c2
 have jI:=qh hcn
 obtain⟨r,hr⟩:∃r,r=qL c W:=⟨_,rfl⟩
 rw [<-hr]
 have HR:=qh hr
 have HC:=qh hC
 have HW:=qh hW
 clear hcn hr hC hW
 go_enter Tryz.func43,Tryz.ntmps43
 go_wp2_with fail
 go_loopg [14] cn (λgg s14 wr=>∃i:Nat,i<=cn/\Hid (gg=cn - i)/\s14= .int .i64 i/\Hid (uZ c W i=true)/\Hid (Below w.heap.size w wr))
 case atStart=>exact⟨0,Nat.zero_le _,rfl,rfl,rfl,Below.refl _ _⟩
 case round=>
 obtain⟨i,hi,HG,rfl,HD,HB⟩:=hrel
 obtain⟨wo,rfl⟩:∃wo:World,wo=wr:=⟨_,rfl⟩
 by_cases hlt:i<cn
 rotate_left
 ·obtain rfl:cn=i:=by omega
  have HRT:Hid (r=true):=by show r=true;rw [HR.out];unfold qL;rw [<-jI.out];exact HD.out
  go_wp2_with fail
  go_ret
  exact⟨by rw [HRT.out];first|rfl|simp,HB.out⟩
 have qQ:(i:Int)<(cn:Int):=by omega
 have hi4:i<4:=by omega
 have hiI:(i:Int)<4:=by omega
 obtain⟨eb,eo,ka,kc,rfl, -,hrow, -⟩:=yw.part HC.out.code i (by rw [<-jI.out];exact hlt)
 obtain⟨l,hl⟩:∃l,l=c.threads.getD i [] :=⟨_,rfl⟩
 obtain⟨b,hb⟩:∃b,b=p8 (c.threads.getD i []) (W.th i):=⟨_,rfl⟩
 have hsucc:uZ c W (i+1)=b:=by rw [zi8,HD.out,hb];rfl
 have hno:b=false->r=false:=λh=>by rw [HR.out];exact zmk (by rw [<-jI.out];exact hlt) (by rw [<-hb];exact h)
 rw [<-hl] at hrow hb
 obtain⟨ln,hln⟩:∃n,n=l.length:=⟨_,rfl⟩
 rw [<-hln] at hrow
 have zyo:ln<=9223372036854775807:=by
  obtain⟨eb',eo',ka',kc',he', -, -,hins⟩:=yw.part HC.out.code i (by rw [<-jI.out];exact hlt)
  obtain⟨a',cap', -,h9⟩:=zh.slice hins
  rw [hln,hl];exact h9
 obtain⟨p,hp⟩:∃p,p=(W.th i).at_:=⟨_,rfl⟩
 obtain⟨q,hq⟩:∃q,q=(List.range (W.th i).many).any λj=> !((W.th i).evs.getD j default).come:=⟨_,rfl⟩
 have hb2:b=(decide (ln<=p) && !q):=by rw [hb,hln,hp,hq];rfl
 have hwo:=HW.out.later HB.out
 have a0:=hwo.at0 hi4
 rw [show(W.zO.getD i default).at_=p from hp.symm] at a0
 have m0:=hwo.many hi4
 have bW:(W.th i).many<=8:=(ze.xB hwo.ok hi4).many
 have hcall:=λ(X:World) (hX:Below wo.heap.size wo X)=>zbf EvR EvR.stays X _ _ ((hwo.later hX).zjq hi4 bW) 65 #[] #[] (λj=> !((W.th i).evs.getD j default).come) (λ_ _=>rfl) (λj hj Y cs hcl hcs hY=>by
  have hlk:((W.th i).evs.take (W.th i).many).length=(W.th i).many:=by rw [List.length_take,(ze.xB hwo.ok hi4).evs];omega
  rw [hlk] at hj
  rw [take_at hj] at hcs
  have hcs:cs=((W.th i).evs.getD j default).cells:=hcs
  subst hcs
  exact zi9 Y _)
 have hlk:((W.th i).evs.take (W.th i).many).length=(W.th i).many:=by rw [List.length_take,(ze.xB hwo.ok hi4).evs];omega
 rw [hlk, <-hq] at hcall
 obtain⟨m,hm⟩:∃m,m=(W.th i).many:=⟨_,rfl⟩
 rw [show(W.zO.getD i default).many=m from hm.symm] at m0
 rw [<-hm] at hcall bW
 have hmI:(m:Int)<=8:=by omega
 have hm0:(0:Int)<=(m:Int):=by omega
 have HB2:=qh hb2
 have HSU:=qh hsucc
 have wF:=qh hno
 have zb7:=qh hcall
 have row:=zi (HC.out.base.trans (HB.out.mono HC.out.base.size)) _ _ hrow
 have CC:Hid (∀x,Below wo.heap.size wo x->x.cell? ⟨g,i*54,none⟩=some (.int .i64 (p:Int))/\x.cell? ⟨g,i*54+53,none⟩=some (.int .i64 (m:Int))):=λx hx=>⟨zi hx _ _ a0,zi hx _ _ m0⟩
 clear hb hb2 hsucc hno hl hln hp hq hm hwo hcall hlk hrow
 go_upto_region 5 with fail
 clear row a0 m0
 by_cases hat:p<ln
 ·have zvD:(p:Int)<(ln:Int):=by omega
  have hb0:b=false:=by rw [HB2.out,decide_eq_false (by omega)];rfl
  have HRF:=qh (wF.out hb0)
  clear hb0
  refine kP (S:=λx=>Below wo.heap.size wo x) ((Below.refl _ _).drew) (λhA5=> ?_)
  refine zk 0 CC.out ?_
  refine zk 1 CC.out ?_
  refine zk 2 CC.out ?_
  refine zk 3 CC.out ?_
  refine zk 4 CC.out ?_
  refine zk 5 CC.out ?_
  refine zk 6 CC.out ?_
  refine zk 7 CC.out ?_
  refine uh 8 (by assumption) ?_
  refine uh 9 (by assumption) ?_
  refine uh 10 (by assumption) ?_
  refine uh 11 (by assumption) ?_
  refine uh 12 (by assumption) ?_
  refine uh 13 (by assumption) ?_
  refine uh 14 (by assumption) ?_
  refine uh 15 (by assumption) ?_
  refine uh 16 (by assumption) ?_
  refine zk 17 CC.out ?_
  refine vE ?_
  have zS:=qh (zm HB.out hA5)
  go_wp2_with fail
  go_ret
  exact⟨by rw [HRF.out];first|rfl|simp,zS.out⟩
 have zvD:(ln:Int)<=(p:Int):=by omega
 have zyp:¬(p:Int)<(ln:Int):=by omega
 have hbq:b= !q:=by rw [HB2.out,decide_eq_true (by omega)];rfl
 refine kP (S:=λx=>Below wo.heap.size wo x) ((Below.refl _ _).drew) (λhB5=> ?_)
 refine zk 0 CC.out ?_
 refine zk 1 CC.out ?_
 refine zk 2 CC.out ?_
 refine zk 3 CC.out ?_
 refine zk 4 CC.out ?_
 refine zk 5 CC.out ?_
 refine zk 6 CC.out ?_
 refine zk 7 CC.out ?_
 refine zk 8 CC.out ?_
 refine zk 9 CC.out ?_
 refine zk 10 CC.out ?_
 refine zk 11 CC.out ?_
 refine zk 12 CC.out ?_
 refine zk 13 CC.out ?_
 refine zk 14 CC.out ?_
 refine zk 15 CC.out ?_
 refine yZ 16 rfl (λK hK=> ?_)
 go_simp
 refine(zb7.out wo.drew hB5).mono ?_
 rintro e zvE ⟨rfl,hb⟩
 have zml:Below wo.heap.size wo zvE:=zm hB5 hb
 refine hK.out _ _ zml (λ_=> ?_)
 clear hK K hb hB5
 refine zk 17 CC.out ?_
 refine vE ?_
 have zS:=qh (zm HB.out zml)
 cases q with
 |true=>
  have HRF:=qh (wF.out hbq)
  clear hbq
  go_wp2_with fail
  go_ret
  exact⟨by rw [HRF.out];first|rfl|simp,zS.out⟩
 |false=>
 have HSF:=qh (HSU.out.trans hbq)
 clear hbq
 go_wp2_with fail
 go_roundg (cn - (i+1))
 case measure=>rw [HG.out];omega
 case rel=>exact⟨i+1,by omega,rfl,by simp,HSF.out,zS.out⟩
