/- Steps. -/
import Derived.Deep.AppendLies
import Derived.Test.YtknmdmimecepfaaGreatDoorVgData
set_option linter.all false
namespace Go.Proofs.YtknmdmimecepfaaGreatDoor
open Go.RowKit
set_option maxRecDepth 100000
set_option maxHeartbeats 16000000
theorem vY {P:Program} (w:World) {ops:Array Oper} {o:Oper} {a:Act} {K:Act->World->Prop} {Q:Exit->Act->World->Prop} {E:Prop} (hw:Region.wanted o (yielded ops a.tmps)=true) (s x:Operand) (t:TypeId)
  (ho:o.op= .call { callee:= .builtin .append,args:= #[s,x],argTypes:= #[t,t] })
  (e:TypeId) (z:Value) (size bytes:Nat) (ht:P.underlying t=some (.slice e)) (hinfo:(P.info? e).map (λi=>(i.zero,i.size,i.bytes))=some (some z,size,bytes)) (hzs:z.cells.size=size) (hsz:0<size)
  (base:Nat) (v:Value) (n:Nat) (xs:List Value) (hs:a.eval s=v) (hown:w.ownsRow base e size v n xs)
  (ad:Addr) (m c:Nat) (news:List Value) (hx:a.eval x= .slice (some ad) m c) (hl:news.length=m*size) (hnews:∀j u,news[j]? =some u->w.cell? (ad.add j)=some u) (h1:∀u∈news,u.oneCell'=true)
  (h63:n+m<=maxLen) (hbytes:(n+m)*bytes<=140737488355328) (hbase:base<=w.heap.size)
  (h:∀a' cap' w',w'.ownsRow base e size (.slice a' (n+m) cap') (n+m) (xs++news)->cap'<=9223372036854775807->n+m<=cap'->Since (λk=>v.ownBlock=some k) w w'->
   (∀k,(Value.slice a' (n+m) cap').ownBlock=some k->v.ownBlock=some k\/k=w.heap.size)->
   K (a.put o.dst (.slice a' (n+m) cap')) w'):if Region.wanted o (yielded ops a.tmps)=true then Oper.wp P o a w K Q else E:=by
 rw [if_pos hw]
 obtain⟨i,hi,hz,hsize,hby⟩:=info_parts hinfo
 obtain⟨v',w',hr,h2,h3,h4⟩:=run_append_own (P:=P) w base t o.type e i z size bytes ht hi hz hsize hby hzs hsz v n xs hown ad m c news hl hnews h1 h63 hbytes hbase
 have hwh:=pR ht hi hz hsize hby hown hl hnews h1 h63 hbytes hr
 obtain⟨a',cap',rfl,hc1,hc2⟩:=vJ h2
 unfold Oper.wp execOp
 simp only [ho,resolve,invoke,builtin,Sem.run_bind,Sem.run_pure,Result.andThen_ok,List.map_toArray,List.map_cons,List.map_nil,hs,hx,hr]
 refine h a' cap' w' h2 (by unfold maxLen at hc2;omega) hc1 ((Since.refl _ _).grown h3 (λk hk=> .inl hk)) (λk hk=> ?_)
 rw [hk] at hwh
 rcases hwh with hwh|hwh
 ·exact .inl hwh.symm
 exact .inr (by simpa using hwh)
theorem zh.of_flat {α:Type} [Inhabited α] {R:World->α->List Value->Prop} {size:Nat} {f:α->List Value} (hf:∀x,(f x).length=size) (hR:∀w x,R w x (f x)) {w:World} {B:Nat} {e:TypeId} {sv:Value} {l:List α} (h:w.ownsRow B e size sv l.length (zD f l)):zh R size w sv l:=
 zh.pK h λj hj=>⟨f (l.getD j default),hf _,λ_ hi=>zbu hf hj hi,hR _ _⟩
theorem znb {X:World} {B C:Nat} {e:TypeId} {size:Nat} {v:Value} {n:Nat} {xs:List Value} (h:X.ownsRow B e size v n xs) (hC:C<=B):X.ownsRow C e size v n xs:=by
 refine⟨h.1, ?_⟩
 rcases h.2 with hn|⟨g,cap,cur,rfl,hb,rest⟩
 ·exact .inl hn
 exact .inr ⟨g,cap,cur,rfl,Nat.le_trans hC hb,rest⟩
structure App (e:TypeId) (size:Nat) (V X:World) (v:Value) (n:Nat) (xs:List Value) (bs:List (Nat × List Value)):Prop where
 below:Below V.heap.size V X
 row:X.ownsRow V.heap.size e size v n xs
 news:∀p∈bs,X.heap[p.1]? =some (.cells p.2.toArray e (0,0))/\v.ownBlock≠some p.1/\V.heap.size<=p.1
section
variable {e:TypeId} {size:Nat} {V X:World} {v:Value} {n:Nat} {xs:List Value} {bs:List (Nat × List Value)}
end
end Go.Proofs.YtknmdmimecepfaaGreatDoor
namespace Go.Proofs.YtknmdmimecepfaaGreatDoor
open Go.RowKit
set_option maxRecDepth 100000
set_option maxHeartbeats 16000000
theorem qJ (w:World) (o1 o2:Obj):Below w.heap.size w ((w.alloc o1).alloc o2):=((Below.refl _ _).alloc (Nat.le_refl _) _).alloc (by simp) _
theorem qm (w:World) (o1 o2:Obj):((w.alloc o1).alloc o2).heap[w.heap.size]? =some o1:=(Below.heap_alloc _ _ _ (by simp)).trans (zT w _)
theorem xA (w:World) (o1 o2:Obj):((w.alloc o1).alloc o2).heap[w.heap.size+1]? =some o2:=by
 have:=zT (w.alloc o1) o2
 simp only [World.size_alloc] at this;exact this
theorem zdV:(Tryz.prog.info? 3).map (λi=>(i.zero,i.size,i.bytes))=some (some (.int .i64 0),1,8):=by kernel_rfl
theorem zaU (x:Int):([Value.int .i64 x]).length=1:=rfl
def yG (x:Int):List Value:= [.int .i64 x]
theorem zcK {w:World} {B:Nat} {sv:Value} {l:List Int} (h:w.ownsRow B 3 1 sv l.length (zD yG l)):xX w sv l:=zh.of_flat (R:=za5) (f:=yG) zaU (λ_ _=>rfl) h
theorem yB {P:Program} {fn:Func} {p:Tmp} {ty:TypeId} (h:fn.results= #[.cell p ty]) (tmps:Array Value) (w:World) (g:Nat) (t:TypeId) (cs:Array Value) (fr:Nat × Nat) (d:TypeDesc)
  (hp:tmps.getD p undef= .pointer (some ⟨g,0,none⟩)) (hg:w.heap[g]? =some (.cells cs t fr))
  (hu:P.underlying ty=some d) (hd:(match d with| .struct _| .array _ _=>true|_=>false)=true) (hi:(P.info? ty).map (·.size)=some cs.size):
  (results fn tmps).run P w= .ok (.agg cs) w:=by
 have hp':tmps[p]?.getD undef= .pointer (some ⟨g,0,none⟩):=by simpa using hp
 simp [results,h,hp',asAddr,run_loadVar_row w g t ty cs fr d hg hu hd hi]
theorem bD {P:Program} {fn:Func} {p u:Tmp} {ty:TypeId} (h:fn.results= #[.cell p ty, .tmp u]) (tmps:Array Value) (w:World) (g:Nat) (t:TypeId) (cs:Array Value) (fr:Nat × Nat) (d:TypeDesc)
  (hp:tmps.getD p undef= .pointer (some ⟨g,0,none⟩)) (hg:w.heap[g]? =some (.cells cs t fr))
  (hu:P.underlying ty=some d) (hd:(match d with| .struct _| .array _ _=>true|_=>false)=true) (hi:(P.info? ty).map (·.size)=some cs.size):
  (results fn tmps).run P w= .ok (.tuple #[.agg cs,tmps.getD u undef]) w:=by
 have hp':tmps[p]?.getD undef= .pointer (some ⟨g,0,none⟩):=by simpa using hp
 simp [results,h,hp',asAddr,run_loadVar_row w g t ty cs fr d hg hu hd hi]
def evalOp (op a b:Int):Int:=
 if op=43 then wrap64 (a+b) else if op=45 then wrap64 (a - b) else if op=42 then wrap64 (a*b) else if op=38 then bits .and .i64 a b else if op=124 then bits .or .i64 a b
 else if op=60 then(if a<b then 1 else 0) else if op=61 then(if a=b then 1 else 0) else if op=33 then(if a=b then 0 else 1) else 0
def yO (regs:List Int) (dom:Int):Nat->zx->Int
 |0,_=>0
 |d+1,x=>
 if x.kind=1 then x.n
 else if x.kind=2 then(if 0<=x.n/\x.n<4 then regs.getD x.n.toNat 0 else 0)
 else if x.kind=3/\x.kids.length=2 then evalOp x.op (yO regs dom d (x.kids.getD 0 default)) (yO regs dom d (x.kids.getD 1 default)) % dom
 else 0
theorem zoe (n dom:Int) (h:1<=dom):(n.tmod dom+dom).tmod dom=n % dom:=by
 have h1:=Int.tmod_lt_of_pos n (show 0<dom by omega)
 have h2:=Int.lt_tmod_of_pos n (show 0<dom by omega)
 rw [Int.tmod_eq_emod_of_nonneg (by omega),Int.add_emod_right]
 rw [Int.tmod_def]
 rw [Int.sub_emod,Int.mul_emod_right]
 simp
theorem wrap_add {q dom:Int} (h2:q<dom) (h3: -dom<q) (h1:1<=dom) (h:dom<=1000):wrap64 (q+dom)=q+dom:=by unfold wrap64;omega
theorem zof (w:World) (o1:Obj) (r0 r1 r2 r3:Int):∀m:Nat,m<4->((w.alloc o1).alloc (.cells #[.int .i64 r0, .int .i64 r1, .int .i64 r2, .int .i64 r3] 59)).cell? ⟨w.heap.size+1,m,none⟩=some (.int .i64 ([r0,r1,r2,r3].getD m 0)):=λm hm=>by
 rw [za (xA w _ _) m]
 have:m=0\/m=1\/m=2\/m=3:=by omega
 rcases this with rfl|rfl|rfl|rfl<;>rfl
def qo (op:Int):Bool:=decide (op=43\/op=45\/op=42\/op=60\/op=38\/op=124\/op=61\/op=33)
theorem uD (op:Int):(strOfNums [op]).toList.isEmpty=false:=by
 rw [ByteArray.toList_eq,strOfNums_data];rfl
theorem zhl (w:World) (op:Int):(convert 22 9 (.slice (some ⟨w.heap.size,0,none⟩) 1 1)).run Tryz.prog (w.alloc (.cells #[.int .u8 op] 5))= .ok (.string (strOfNums [op])) (w.alloc (.cells #[.int .u8 op] 5)):=
 run_convert_bytes_arg _ 22 5 Tryz.underlying22 Tryz.underlying5 w.heap.size 0 1 1 [op] rfl (λi hi=>by
  obtain rfl:i=0:=by omega
  exact za (zT w _) 0) 9 Tryz.underlying9
theorem zor (w:World) (op:Int):Calls Tryz.prog 126 #[.int .u8 op] w λe w'=>(∃s:ByteArray,e= .returned (.string s)/\s.toList.isEmpty= !qo op)/\Below w.heap.size w w':=by
 have hcv:=zhl w op
 have HA:=qh ((Below.refl w.heap.size w).alloc (Nat.le_refl _) (.cells #[.int .u8 op] 5))
 go_enter Tryz.func126,Tryz.ntmps126
 go_wp2_with fail
 go_loopg [3] 6 (λgg s3 wr=>∃i:Nat,i<=6/\Hid (gg=6 - i)/\s3= .int .i64 i/\Hid ((0<i->op≠43)/\(1<i->op≠45)/\(2<i->op≠42)/\(3<i->op≠60)/\(4<i->op≠38)/\(5<i->op≠124))/\wr=w)
 case atStart=>exact⟨0,by omega,rfl,rfl,by constructor<;>simp,rfl⟩
 case round=>
 obtain⟨i,hi,HG,rfl,HO,hwr⟩:=hrel
 obtain rfl:w=wr:=hwr.symm
 have g0:(({ data:= #[43,45,42,60,38,124] } :ByteArray)[0]).toNat=43:=by rfl
 have g1:(({ data:= #[43,45,42,60,38,124] } :ByteArray)[1]).toNat=45:=by rfl
 have g2:(({ data:= #[43,45,42,60,38,124] } :ByteArray)[2]).toNat=42:=by rfl
 have g3:(({ data:= #[43,45,42,60,38,124] } :ByteArray)[3]).toNat=60:=by rfl
 have g4:(({ data:= #[43,45,42,60,38,124] } :ByteArray)[4]).toNat=38:=by rfl
 have g5:(({ data:= #[43,45,42,60,38,124] } :ByteArray)[5]).toNat=124:=by rfl
 have hc:i=0\/i=1\/i=2\/i=3\/i=4\/i=5\/i=6:=by omega
 rcases hc with rfl|rfl|rfl|rfl|rfl|rfl|rfl
 ·by_cases a:op=43
  ·subst a
   go_wp2_with fail
   go_ret
   exact⟨⟨_,by first|rfl|simp,by rw [uD];rfl⟩,HA.out⟩
  have a2:((43:Int)==op)=false:=by rw [beq_eq_false_iff_ne];omega
  have a3:((op:Int)==43)=false:=by rw [beq_eq_false_iff_ne];omega
  have a4:¬(43:Int)=op:=by omega
  clear hcv
  go_wp2_with fail
  go_roundg 5
  case measure=>rw [HG.out];omega
  case rel=>exact⟨1,by omega,rfl,by simp,by rw [Hid];have:=HO.out;omega,rfl⟩
 ·by_cases a:op=45
  ·subst a
   go_wp2_with fail
   go_ret
   exact⟨⟨_,by first|rfl|simp,by rw [uD];rfl⟩,HA.out⟩
  have a2:((45:Int)==op)=false:=by rw [beq_eq_false_iff_ne];omega
  have a3:((op:Int)==45)=false:=by rw [beq_eq_false_iff_ne];omega
  have a4:¬(45:Int)=op:=by omega
  clear hcv
  go_wp2_with fail
  go_roundg 4
  case measure=>rw [HG.out];omega
  case rel=>exact⟨2,by omega,rfl,by simp,by rw [Hid];have:=HO.out;omega,rfl⟩
 ·by_cases a:op=42
  ·subst a
   go_wp2_with fail
   go_ret
   exact⟨⟨_,by first|rfl|simp,by rw [uD];rfl⟩,HA.out⟩
  have a2:((42:Int)==op)=false:=by rw [beq_eq_false_iff_ne];omega
  have a3:((op:Int)==42)=false:=by rw [beq_eq_false_iff_ne];omega
  have a4:¬(42:Int)=op:=by omega
  clear hcv
  go_wp2_with fail
  go_roundg 3
  case measure=>rw [HG.out];omega
  case rel=>exact⟨3,by omega,rfl,by simp,by rw [Hid];have:=HO.out;omega,rfl⟩
 ·by_cases a:op=60
  ·subst a
   go_wp2_with fail
   go_ret
   exact⟨⟨_,by first|rfl|simp,by rw [uD];rfl⟩,HA.out⟩
  have a2:((60:Int)==op)=false:=by rw [beq_eq_false_iff_ne];omega
  have a3:((op:Int)==60)=false:=by rw [beq_eq_false_iff_ne];omega
  have a4:¬(60:Int)=op:=by omega
  clear hcv
  go_wp2_with fail
  go_roundg 2
  case measure=>rw [HG.out];omega
  case rel=>exact⟨4,by omega,rfl,by simp,by rw [Hid];have:=HO.out;omega,rfl⟩
 ·by_cases a:op=38
  ·subst a
   go_wp2_with fail
   go_ret
   exact⟨⟨_,by first|rfl|simp,by rw [uD];rfl⟩,HA.out⟩
  have a2:((38:Int)==op)=false:=by rw [beq_eq_false_iff_ne];omega
  have a3:((op:Int)==38)=false:=by rw [beq_eq_false_iff_ne];omega
  have a4:¬(38:Int)=op:=by omega
  clear hcv
  go_wp2_with fail
  go_roundg 1
  case measure=>rw [HG.out];omega
  case rel=>exact⟨5,by omega,rfl,by simp,by rw [Hid];have:=HO.out;omega,rfl⟩
 ·by_cases a:op=124
  ·subst a
   go_wp2_with fail
   go_ret
   exact⟨⟨_,by first|rfl|simp,by rw [uD];rfl⟩,HA.out⟩
  have a2:((124:Int)==op)=false:=by rw [beq_eq_false_iff_ne];omega
  have a3:((op:Int)==124)=false:=by rw [beq_eq_false_iff_ne];omega
  have a4:¬(124:Int)=op:=by omega
  clear hcv
  go_wp2_with fail
  go_roundg 0
  case measure=>rw [HG.out];omega
  case rel=>exact⟨6,by omega,rfl,by simp,by rw [Hid];have:=HO.out;omega,rfl⟩
 clear hcv
 by_cases a:op=61
 ·subst a
  go_wp2_with fail
  go_ret
  exact⟨⟨_,by first|rfl|simp,by decide+kernel⟩,Below.refl _ _⟩
 have a2:((op:Int)==61)=false:=by rw [beq_eq_false_iff_ne];omega
 by_cases b:op=33
 ·subst b
  go_wp2_with fail
  go_ret
  exact⟨⟨_,by first|rfl|simp,by decide+kernel⟩,Below.refl _ _⟩
 have b2:((op:Int)==33)=false:=by rw [beq_eq_false_iff_ne];omega
 have hs:qo op=false:=by unfold qo;rw [decide_eq_false_iff_not];have:=HO.out;omega
 have HS:=qh hs
 clear hs
 go_wp2_with fail
 go_ret
 exact⟨⟨ByteArray.empty,by first|rfl|simp,by rw [HS.out];decide+kernel⟩,Below.refl _ _⟩
def xI (x:zx):Bool:=decide (x.kind=0) && decide (x.n=0) && decide (x.op=0) && decide (x.kids.length=0)
theorem ziq (w:World) (x:zx) (ka:Option Addr) (kc:Nat):Calls Tryz.prog 81 #[yX x (.slice ka x.kids.length kc)] w λe w'=>e= .returned (.bool (xI x))/\Below w.heap.size w w':=by
 obtain⟨k,n,o,l⟩:=x
 obtain⟨m,hm⟩:∃m,m=l.length:=⟨_,rfl⟩
 obtain⟨r,hr⟩:∃r,r=xI (.mk k n o l):=⟨_,rfl⟩
 rw [<-hr]
 have hr2:r=(decide (k=0) && decide (n=0) && decide (o=0) && decide (m=0)):=by rw [hr,hm];rfl
 have HR:=qh hr2
 unfold yX
 simp only [zx.kind,zx.n,zx.op,zx.kids]
 rw [<-hm]
 clear hr hr2 hm
 have HA:=qh ((Below.refl w.heap.size w).alloc (Nat.le_refl _) (.cells #[.int .i64 k, .int .i64 n, .int .u8 o, .slice ka m kc] 43))
 have yx:=qh (zT w (.cells #[.int .i64 k, .int .i64 n, .int .u8 o, .slice ka m kc] 43))
 go_enter Tryz.func81,Tryz.ntmps81
 go_upto_region 1 with fail
 generalize World.alloc w _=W at HA yx ⊢
 obtain⟨gx,hgx⟩:∃gx,gx=w.heap.size:=⟨_,rfl⟩
 rw [<-hgx] at yx ⊢
 clear hgx
 have c0:W.cell? ⟨gx,0,none⟩=some (.int .i64 k):=za yx.out 0
 have c1:W.cell? ⟨gx,1,none⟩=some (.int .i64 n):=za yx.out 1
 have c2:W.cell? ⟨gx,2,none⟩=some (.int .u8 o):=za yx.out 2
 have c3:W.cell? ⟨gx,3,none⟩=some (.slice ka m kc):=za yx.out 3
 by_cases a1:k=0
 rotate_left
 ·have b1:((k:Int)==0)=false:=by simp [a1]
  obtain rfl:r=false:=by rw [HR.out];simp [a1]
  clear HR a1
  go_wp2_with fail
  go_ret
  exact⟨by first|rfl|simp,HA.out⟩
 have b1:((k:Int)==0)=true:=by simp [a1]
 by_cases a2:n=0
 rotate_left
 ·have b2:((n:Int)==0)=false:=by simp [a2]
  obtain rfl:r=false:=by rw [HR.out];simp [a2]
  clear HR a1 a2
  go_wp2_with fail
  go_ret
  exact⟨by first|rfl|simp,HA.out⟩
 have b2:((n:Int)==0)=true:=by simp [a2]
 by_cases a3:o=0
 ·have b3:((o:Int)==0)=true:=by simp [a3]
  obtain rfl:r=decide (m=0):=by rw [HR.out];simp [a1,a2,a3]
  clear HR a1 a2 a3
  by_cases a4:m=0
  ·have b4:((m:Int)==0)=true:=by simp [a4]
   subst a4
   go_wp2_with fail
   go_ret
   exact⟨by first|rfl|simp,HA.out⟩
  have b4:((m:Int)==0)=false:=by simp [a4]
  go_wp2_with fail
  go_ret
  exact⟨by first|rfl|simp [a4],HA.out⟩
 have b3:((o:Int)==0)=false:=by simp [a3]
 obtain rfl:r=false:=by rw [HR.out];simp [a3]
 clear HR a1 a2 a3
 go_wp2_with fail
 go_ret
 exact⟨by first|rfl|simp,HA.out⟩
