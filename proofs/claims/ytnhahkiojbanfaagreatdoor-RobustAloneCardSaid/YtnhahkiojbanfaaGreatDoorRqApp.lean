/- Steps. -/
import Derived.Deep.AppendLies
import Derived.Test.YtnhahkiojbanfaaGreatDoorRqData
set_option linter.all false
namespace Go.Proofs.YtnhahkiojbanfaaGreatDoor
open Go.RowKit
set_option maxRecDepth 100000
set_option maxHeartbeats 16000000
theorem zY {P:Program} (w:World) {ops:Array Oper} {o:Oper} {a:Act} {K:Act->World->Prop} {Q:Exit->Act->World->Prop} {E:Prop} (hw:Region.wanted o (yielded ops a.tmps)=true) (s x:Operand) (t:TypeId)
  (ho:o.op= .call { callee:= .builtin .append,args:= #[s,x],argTypes:= #[t,t] })
  (e:TypeId) (z:Value) (size bytes:Nat) (ht:P.underlying t=some (.slice e)) (hinfo:(P.info? e).map (λi=>(i.zero,i.size,i.bytes))=some (some z,size,bytes)) (hzs:z.cells.size=size) (hsz:0<size)
  (base:Nat) (v:Value) (n:Nat) (xs:List Value) (hs:a.eval s=v) (hown:w.ownsRow base e size v n xs)
  (ad:Addr) (m c:Nat) (news:List Value) (hx:a.eval x= .slice (some ad) m c) (hl:news.length=m*size) (hnews:∀j u,news[j]? =some u->w.cell? (ad.add j)=some u) (h1:∀u∈news,u.oneCell'=true)
  (h63:n+m<=maxLen) (hbytes:(n+m)*bytes<=140737488355328) (hbase:base<=w.heap.size)
  (h:∀a' cap' w',w'.ownsRow base e size (.slice a' (n+m) cap') (n+m) (xs++news)->cap'<=9223372036854775807->n+m<=cap'->Since (λk=>v.ownBlock=some k) w w'->
   (∀k,(Value.slice a' (n+m) cap').ownBlock=some k->v.ownBlock=some k\/k=w.heap.size)->
   K (a.put o.dst (.slice a' (n+m) cap')) w'):if Region.wanted o (yielded ops a.tmps)=true then Oper.wp P o a w K Q else E:=by
 rw [if_pos hw]
 obtain⟨i,hi,hz,hsize,hby⟩:=info_parts hinfo
 obtain⟨v',w',hr,h2,h3,h4⟩:=run_append_own (P:=P) w base t o.type e i z size bytes ht hi hz hsize hby hzs hsz v n xs hown ad m c news hl hnews h1 h63 hbytes hbase
 have hwh:=zay ht hi hz hsize hby hown hl hnews h1 h63 hbytes hr
 obtain⟨a',cap',rfl,hc1,hc2⟩:=xB h2
 unfold Oper.wp execOp
 simp only [ho,resolve,invoke,builtin,Sem.run_bind,Sem.run_pure,Result.andThen_ok,List.map_toArray,List.map_cons,List.map_nil,hs,hx,hr]
 refine h a' cap' w' h2 (by unfold maxLen at hc2;omega) hc1 ((Since.refl _ _).grown h3 (λk hk=> .inl hk)) (λk hk=> ?_)
 rw [hk] at hwh
 rcases hwh with hwh|hwh
 ·exact .inl hwh.symm
 exact .inr (by simpa using hwh)
theorem zh.news {α:Type} [Inhabited α] {R:World->α->List Value->Prop} {size:Nat} {f:α->List Value} (hs:0<size) (hf:∀x,(f x).length=size) (hR:∀w x cs,R w x cs->cs=f x) {w:World} {b o n c:Nat} {l:List α} (h:zh R size w (.slice (some ⟨b,o,none⟩) n c) l):
  ∀j u,(zq f l)[j]? =some u->w.cell? ((⟨b,o,none⟩:Addr).add j)=some u:=by
 intro j u hu
 have hj:j<l.length*size:=by
  rcases Nat.lt_or_ge j (l.length*size) with e|e
  ·exact e
  rw [List.getElem?_eq_none (by rw [jO hf];exact e)] at hu;cases hu
 obtain⟨q,r,hq,hr,rfl⟩:∃q r,q<l.length/\r<size/\j=q*size+r:=
  ⟨j / size,j % size,Nat.div_lt_of_lt_mul (by rw [Nat.mul_comm];exact hj),Nat.mod_lt _ hs,by rw [Nat.mul_comm];exact(Nat.div_add_mod j size).symm⟩
 rw [gI hf hq hr] at hu
 obtain⟨b',o',cs,he, -, -,h4,h5⟩:=h.part q hq
 cases he
 have h6:=h4 r hr
 rw [hR _ _ _ h5,hu] at h6
 rw [show(⟨b,o,none⟩:Addr).add (q*size+r)=⟨b,o+q*size+r,none⟩ by
  simp only [Addr.add]
  split
  ·rename_i h;rw [show o+q*size+r=o by omega]
  rw [Nat.add_assoc]]
 exact h6
theorem zh.of_flat {α:Type} [Inhabited α] {R:World->α->List Value->Prop} {size:Nat} {f:α->List Value} (hf:∀x,(f x).length=size) (hR:∀w x,R w x (f x)) {w:World} {B:Nat} {e:TypeId} {sv:Value} {l:List α} (h:w.ownsRow B e size sv l.length (zq f l)):zh R size w sv l:=
 zh.zaX h λj hj=>⟨f (l.getD j default),hf _,λ_ hi=>gI hf hj hi,hR _ _⟩
theorem zh.nil {α:Type} [Inhabited α] {R:World->α->List Value->Prop} {size:Nat} (w:World):zh R size w (.slice none 0 0) ([] :List α):=⟨none,0,rfl,by simp,λj hj=>by simp at hj⟩
theorem kK {X:World} {B C:Nat} {e:TypeId} {size:Nat} {v:Value} {n:Nat} {xs:List Value} (h:X.ownsRow B e size v n xs) (hC:C<=B):X.ownsRow C e size v n xs:=by
 refine⟨h.1, ?_⟩
 rcases h.2 with hn|⟨g,cap,cur,rfl,hb,rest⟩
 ·exact .inl hn
 exact .inr ⟨g,cap,cur,rfl,Nat.le_trans hC hb,rest⟩
structure App (e:TypeId) (size:Nat) (V X:World) (v:Value) (n:Nat) (xs:List Value) (bs:List (Nat × List Value)):Prop where
 below:Below V.heap.size V X
 row:X.ownsRow V.heap.size e size v n xs
 news:∀p∈bs,X.heap[p.1]? =some (.cells p.2.toArray e (0,0))/\v.ownBlock≠some p.1/\V.heap.size<=p.1
section
variable {e:TypeId} {size:Nat} {V X:World} {v:Value} {n:Nat} {xs:List Value} {bs:List (Nat × List Value)}
end
end Go.Proofs.YtnhahkiojbanfaaGreatDoor
namespace Go.Proofs.YtnhahkiojbanfaaGreatDoor
open Go.RowKit
set_option maxRecDepth 100000
set_option maxHeartbeats 16000000
theorem xQ (w:World) (o1 o2:Obj):Below w.heap.size w ((w.alloc o1).alloc o2):=((Below.refl _ _).alloc (Nat.le_refl _) _).alloc (by simp) _
theorem xR (w:World) (o1 o2:Obj):((w.alloc o1).alloc o2).heap[w.heap.size]? =some o1:=(Below.heap_alloc _ _ _ (by simp)).trans (zS w _)
theorem yT (w:World) (o1 o2:Obj):((w.alloc o1).alloc o2).heap[w.heap.size+1]? =some o2:=by
 have:=zS (w.alloc o1) o2
 simp only [World.size_alloc] at this;exact this
theorem uJ:(Tryz.prog.info? 110).map (λi=>(i.zero,i.size,i.bytes))=some (some (.agg #[.int .i64 0, .int .i64 0]),2,16):=by kernel_rfl
theorem gL:(Tryz.prog.info? 3).map (λi=>(i.zero,i.size,i.bytes))=some (some (.int .i64 0),1,8):=by kernel_rfl
theorem bM (x:zl):x.cells.length=2:=rfl
theorem zaY (x:Int):([Value.int .i64 x]).length=1:=rfl
def yU (x:Int):List Value:= [.int .i64 x]
theorem zgO {l:List zl} :∀u∈zq zl.cells l,u.oneCell'=true:=λu hu=>by
 obtain⟨x, -,hx⟩:=List.mem_flatMap.1 hu
 simp [zl.cells] at hx
 rcases hx with rfl|rfl<;>rfl
theorem zhw {w:World} {B:Nat} {sv:Value} {l:List zl} (h:w.ownsRow B 110 2 sv l.length (zq zl.cells l)):yu w sv l:=zh.of_flat (R:=ug) bM (λ_ _=>rfl) h
theorem zad {w:World} {B:Nat} {sv:Value} {l:List Int} (h:w.ownsRow B 3 1 sv l.length (zq yU l)):qI w sv l:=zh.of_flat (R:=zbz) (f:=yU) zaY (λ_ _=>rfl) h
def zb7 (l:List zl) (m:zu) (v:Int):Nat:=l.countP (λy=>decide (m.model=1)||decide (y.var=v))
def qQ (l:List zl) (m:zu) (x:zl):Bool:=(decide (m.model=1)||decide (m.model=2)) && decide ((zb7 l m x.var:Int)<m.bound)
def wP (l:List zl) (m:zu) (x:zl):List zl:=if qQ l m x then l++ [x] else l
theorem zl2 {l:List zl} {i:Nat} (hi:i<l.length) (p:zl->Bool):(l.take (i+1)).countP p=(l.take i).countP p+(if p (l.getD i default) then 1 else 0):=by
 rw [List.take_add_one,List.countP_append,List.getElem?_eq_getElem hi,List.getD_eq_getElem?_getD,List.getElem?_eq_getElem hi]
 simp [List.countP_cons]
def gB (l:List zl) (v:Int):Nat->Option Int
 |0=>none
 |k+1=>if (l.getD k default).var=v then some (l.getD k default).n else gB l v k
def wI (l:List zl) (v:Int):Option Int:=gB l v l.length
theorem zn5 {a b:zl} (h1:a.var=b.var) (h2:a.n=b.n):a=b:=by cases a;cases b;simp_all
theorem zhe {α:Type} [Inhabited α] {a b:List α} (hl:a.length=b.length) (h:∀i,i<a.length->a.getD i default=b.getD i default):a=b:=by
 apply List.ext_getElem hl
 intro i h1 h2
 have:=h i h1
 simpa [List.getD_eq_getElem?_getD,h1,h2] using this
def yL (l:List zl) (v:Int):Nat->Option zl × List zl
 |0=>(none, [])
 |i+1=>if (yL l v i).1.isNone && decide ((l.getD i default).var=v) then(some (l.getD i default),(yL l v i).2) else((yL l v i).1,(yL l v i).2++ [l.getD i default])
def takeB (l:List zl) (v:Int):Option zl × List zl:=yL l v l.length
theorem zcq {P:Program} {fn:Func} {p u v:Tmp} {ty:TypeId} (h:fn.results= #[.cell p ty, .tmp u, .tmp v]) (tmps:Array Value) (w:World) (g:Nat) (t:TypeId) (cs:Array Value) (fr:Nat × Nat) (d:TypeDesc)
  (hp:tmps.getD p undef= .pointer (some ⟨g,0,none⟩)) (hg:w.heap[g]? =some (.cells cs t fr))
  (hu:P.underlying ty=some d) (hd:(match d with| .struct _| .array _ _=>true|_=>false)=true) (hi:(P.info? ty).map (·.size)=some cs.size):
  (results fn tmps).run P w= .ok (.tuple #[.agg cs,tmps.getD u undef,tmps.getD v undef]) w:=by
 have hp':tmps[p]?.getD undef= .pointer (some ⟨g,0,none⟩):=by simpa using hp
 simp [results,h,hp',asAddr,run_loadVar_row w g t ty cs fr d hg hu hd hi]
theorem yV {P:Program} {fn:Func} {p:Tmp} {ty:TypeId} (h:fn.results= #[.cell p ty]) (tmps:Array Value) (w:World) (g:Nat) (t:TypeId) (cs:Array Value) (fr:Nat × Nat) (d:TypeDesc)
  (hp:tmps.getD p undef= .pointer (some ⟨g,0,none⟩)) (hg:w.heap[g]? =some (.cells cs t fr))
  (hu:P.underlying ty=some d) (hd:(match d with| .struct _| .array _ _=>true|_=>false)=true) (hi:(P.info? ty).map (·.size)=some cs.size):
  (results fn tmps).run P w= .ok (.agg cs) w:=by
 have hp':tmps[p]?.getD undef= .pointer (some ⟨g,0,none⟩):=by simpa using hp
 simp [results,h,hp',asAddr,run_loadVar_row w g t ty cs fr d hg hu hd hi]
theorem xP {P:Program} {fn:Func} {p u:Tmp} {ty:TypeId} (h:fn.results= #[.cell p ty, .tmp u]) (tmps:Array Value) (w:World) (g:Nat) (t:TypeId) (cs:Array Value) (fr:Nat × Nat) (d:TypeDesc)
  (hp:tmps.getD p undef= .pointer (some ⟨g,0,none⟩)) (hg:w.heap[g]? =some (.cells cs t fr))
  (hu:P.underlying ty=some d) (hd:(match d with| .struct _| .array _ _=>true|_=>false)=true) (hi:(P.info? ty).map (·.size)=some cs.size):
  (results fn tmps).run P w= .ok (.tuple #[.agg cs,tmps.getD u undef]) w:=by
 have hp':tmps[p]?.getD undef= .pointer (some ⟨g,0,none⟩):=by simpa using hp
 simp [results,h,hp',asAddr,run_loadVar_row w g t ty cs fr d hg hu hd hi]
theorem zfA:(Tryz.prog.info? 110).map (·.size)=some 2:=by kernel_rfl
theorem zko (w:World) (a b:Value) (t:TypeId):∀j u, [a,b][j]? =some u->(w.alloc (.cells #[a,b] t)).cell? ((⟨w.heap.size,0,none⟩:Addr).add j)=some u:=by
 intro j u hj
 have h:=λi=>ze (zS w (.cells #[a,b] t)) i
 match j with
 |0=>simp only [List.getElem?_cons_zero,Option.some.injEq] at hj;subst hj;simp [Addr.add,h 0]
 |1=>simp only [List.getElem?_cons_succ,List.getElem?_cons_zero,Option.some.injEq] at hj;subst hj;simp [Addr.add,h 1]
 |j+2=>simp at hj
def uV (x:Int):List Int->List Int
 | [] => [x]
 |y::l=>if x<y then x::y::l else y::uV x l
theorem zqE (x:Int) (l:List Int):(uV x l).length=l.length+1:=by
 induction l with
 |nil=>rfl
 |cons y l ih=>unfold uV;split<;>simp [ih]
def qG (l:List zl):Nat->List Int
 |0=> []
 |i+1=>if (List.range i).all (λk=>decide (¬(l.getD k default).var=(l.getD i default).var)) then uV (l.getD i default).var (qG l i) else qG l i
def yE (l:List zl) (model:Int):List Int:=
 if model=2 then qG l l.length else if model=1 then(match l with| [] => [] |x::_=> [x.var]) else []
theorem zj1 (l:List zl) (i:Nat):(qG l i).length<=i:=by
 induction i with
 |zero=>simp [qG]
 |succ i ih=>
 unfold qG
 split
 ·rw [zqE];omega
 omega
theorem cell_one_new (w:World) (v:Value) (e:TypeId):∀j u, [v][j]? =some u->(w.alloc (.cells #[v] e)).cell? ((⟨w.heap.size,0,none⟩:Addr).add j)=some u:=by
 intro j u hj
 cases j with
 |zero=>
  simp only [List.getElem?_cons_zero,Option.some.injEq] at hj
  subst hj
  have:=ze (zS w (.cells #[v] e)) 0
  simp [Addr.add]
 |succ j=>simp at hj
theorem zqF (l:List Int) (x:Int):zq yU (l++ [x])=zq yU l++ [.int .i64 x] :=by rw [kL];rfl
theorem _root_.Go.World.ownsRow.z02 {w:World} {B:Nat} {e:TypeId} {size:Nat} {v:Value} {n:Nat} {xs:List Value} (h:w.ownsRow B e size v n xs) (k:Nat):(w.drewN k).ownsRow B e size v n xs:=(Since.drewN (λ_=>False) k (Since.refl _ w)).row h (λ_ _ h=>h)
theorem zql {B:Nat} {w X:World} {a a':Option Addr} {n c c':Nat} {l:List Int} {x:Int} {o:Obj} (ho:w.ownsRow B 3 1 (.slice a n c) n (zq yU l)) (h1:X.ownsRow B 3 1 (.slice a' (n+1) c') (n+1) (zq yU l++ [.int .i64 x]))
  (h4:Since (λk=>(Value.slice a n c).ownBlock=some k) (w.alloc o) X) {V:World} (hV:Below V.heap.size V w) (hB:V.heap.size<=B):X.ownsRow B 3 1 (.slice a' (n+1) c') (n+1) (zq yU (l++ [x]))/\Below V.heap.size V X:=by
 refine⟨by rw [zqF];exact h1,hV.trans ((((Since.refl _ w).alloc o).trans h4 (λk hk=> .inl hk)).below hV.size (λk hk=>Nat.le_trans hB (ho.lt k hk).1))⟩
def qL (op:Int):Bool:=decide (op=43\/op=45\/op=42\/op=60\/op=38\/op=124\/op=61\/op=33)
theorem uT (op:Int):(strOfNums [op]).toList.isEmpty=false:=by
 rw [ByteArray.toList_eq,strOfNums_data];rfl
theorem zif (w:World) (op:Int):(convert 22 9 (.slice (some ⟨w.heap.size,0,none⟩) 1 1)).run Tryz.prog (w.alloc (.cells #[.int .u8 op] 5))= .ok (.string (strOfNums [op])) (w.alloc (.cells #[.int .u8 op] 5)):=
 run_convert_bytes_arg _ 22 5 Tryz.underlying22 Tryz.underlying5 w.heap.size 0 1 1 [op] rfl (λi hi=>by
  obtain rfl:i=0:=by omega
  exact ze (zS w _) 0) 9 Tryz.underlying9
theorem zpM (w:World) (op:Int):Calls Tryz.prog 136 #[.int .u8 op] w λe w'=>(∃s:ByteArray,e= .returned (.string s)/\s.toList.isEmpty= !qL op)/\Below w.heap.size w w':=by
 have hcv:=zif w op
 have HA:=qh ((Below.refl w.heap.size w).alloc (Nat.le_refl _) (.cells #[.int .u8 op] 5))
 go_enter Tryz.func136,Tryz.ntmps136
 go_wp2_with fail
 go_loopg [3] 6 (λgg s3 wr=>∃i:Nat,i<=6/\Hid (gg=6 - i)/\s3= .int .i64 i/\Hid ((0<i->op≠43)/\(1<i->op≠45)/\(2<i->op≠42)/\(3<i->op≠60)/\(4<i->op≠38)/\(5<i->op≠124))/\wr=w)
 case atStart=>exact⟨0,by omega,rfl,rfl,by constructor<;>simp,rfl⟩
 case round=>
 obtain⟨i,hi,HG,rfl,HO,hwr⟩:=hrel
 obtain rfl:w=wr:=hwr.symm
 have g0:(({ data:= #[43,45,42,60,38,124] } :ByteArray)[0]).toNat=43:=by rfl
 have g1:(({ data:= #[43,45,42,60,38,124] } :ByteArray)[1]).toNat=45:=by rfl
 have g2:(({ data:= #[43,45,42,60,38,124] } :ByteArray)[2]).toNat=42:=by rfl
 have g3:(({ data:= #[43,45,42,60,38,124] } :ByteArray)[3]).toNat=60:=by rfl
 have g4:(({ data:= #[43,45,42,60,38,124] } :ByteArray)[4]).toNat=38:=by rfl
 have g5:(({ data:= #[43,45,42,60,38,124] } :ByteArray)[5]).toNat=124:=by rfl
 have hc:i=0\/i=1\/i=2\/i=3\/i=4\/i=5\/i=6:=by omega
 rcases hc with rfl|rfl|rfl|rfl|rfl|rfl|rfl
 ·by_cases a:op=43
  ·subst a
   go_wp2_with fail
   go_ret
   exact⟨⟨_,by first|rfl|simp,by rw [uT];rfl⟩,HA.out⟩
  have a2:((43:Int)==op)=false:=by rw [beq_eq_false_iff_ne];omega
  have a3:((op:Int)==43)=false:=by rw [beq_eq_false_iff_ne];omega
  have a4:¬(43:Int)=op:=by omega
  clear hcv
  go_wp2_with fail
  go_roundg 5
  case measure=>rw [HG.out];omega
  case rel=>exact⟨1,by omega,rfl,by simp,by rw [Hid];have:=HO.out;omega,rfl⟩
 ·by_cases a:op=45
  ·subst a
   go_wp2_with fail
   go_ret
   exact⟨⟨_,by first|rfl|simp,by rw [uT];rfl⟩,HA.out⟩
  have a2:((45:Int)==op)=false:=by rw [beq_eq_false_iff_ne];omega
  have a3:((op:Int)==45)=false:=by rw [beq_eq_false_iff_ne];omega
  have a4:¬(45:Int)=op:=by omega
  clear hcv
  go_wp2_with fail
  go_roundg 4
  case measure=>rw [HG.out];omega
  case rel=>exact⟨2,by omega,rfl,by simp,by rw [Hid];have:=HO.out;omega,rfl⟩
 ·by_cases a:op=42
  ·subst a
   go_wp2_with fail
   go_ret
   exact⟨⟨_,by first|rfl|simp,by rw [uT];rfl⟩,HA.out⟩
  have a2:((42:Int)==op)=false:=by rw [beq_eq_false_iff_ne];omega
  have a3:((op:Int)==42)=false:=by rw [beq_eq_false_iff_ne];omega
  have a4:¬(42:Int)=op:=by omega
  clear hcv
  go_wp2_with fail
  go_roundg 3
  case measure=>rw [HG.out];omega
  case rel=>exact⟨3,by omega,rfl,by simp,by rw [Hid];have:=HO.out;omega,rfl⟩
 ·by_cases a:op=60
  ·subst a
   go_wp2_with fail
   go_ret
   exact⟨⟨_,by first|rfl|simp,by rw [uT];rfl⟩,HA.out⟩
  have a2:((60:Int)==op)=false:=by rw [beq_eq_false_iff_ne];omega
  have a3:((op:Int)==60)=false:=by rw [beq_eq_false_iff_ne];omega
  have a4:¬(60:Int)=op:=by omega
  clear hcv
  go_wp2_with fail
  go_roundg 2
  case measure=>rw [HG.out];omega
  case rel=>exact⟨4,by omega,rfl,by simp,by rw [Hid];have:=HO.out;omega,rfl⟩
 ·by_cases a:op=38
  ·subst a
   go_wp2_with fail
   go_ret
   exact⟨⟨_,by first|rfl|simp,by rw [uT];rfl⟩,HA.out⟩
  have a2:((38:Int)==op)=false:=by rw [beq_eq_false_iff_ne];omega
  have a3:((op:Int)==38)=false:=by rw [beq_eq_false_iff_ne];omega
  have a4:¬(38:Int)=op:=by omega
  clear hcv
  go_wp2_with fail
  go_roundg 1
  case measure=>rw [HG.out];omega
  case rel=>exact⟨5,by omega,rfl,by simp,by rw [Hid];have:=HO.out;omega,rfl⟩
 ·by_cases a:op=124
  ·subst a
   go_wp2_with fail
   go_ret
   exact⟨⟨_,by first|rfl|simp,by rw [uT];rfl⟩,HA.out⟩
  have a2:((124:Int)==op)=false:=by rw [beq_eq_false_iff_ne];omega
  have a3:((op:Int)==124)=false:=by rw [beq_eq_false_iff_ne];omega
  have a4:¬(124:Int)=op:=by omega
  clear hcv
  go_wp2_with fail
  go_roundg 0
  case measure=>rw [HG.out];omega
  case rel=>exact⟨6,by omega,rfl,by simp,by rw [Hid];have:=HO.out;omega,rfl⟩
 clear hcv
 by_cases a:op=61
 ·subst a
  go_wp2_with fail
  go_ret
  exact⟨⟨_,by first|rfl|simp,by decide+kernel⟩,Below.refl _ _⟩
 have a2:((op:Int)==61)=false:=by rw [beq_eq_false_iff_ne];omega
 by_cases b:op=33
 ·subst b
  go_wp2_with fail
  go_ret
  exact⟨⟨_,by first|rfl|simp,by decide+kernel⟩,Below.refl _ _⟩
 have b2:((op:Int)==33)=false:=by rw [beq_eq_false_iff_ne];omega
 have hs:qL op=false:=by unfold qL;rw [decide_eq_false_iff_not];have:=HO.out;omega
 have HS:=qh hs
 clear hs
 go_wp2_with fail
 go_ret
 exact⟨⟨ByteArray.empty,by first|rfl|simp,by rw [HS.out];decide+kernel⟩,Below.refl _ _⟩
def xU (x:zG):Bool:=decide (x.kind=0) && decide (x.n=0) && decide (x.op=0) && decide (x.kids.length=0)
theorem zhZ (w:World) (x:zG) (ka:Option Addr) (kc:Nat):Calls Tryz.prog 88 #[yP x (.slice ka x.kids.length kc)] w λe w'=>e= .returned (.bool (xU x))/\Below w.heap.size w w':=by
 obtain⟨k,n,o,l⟩:=x
 obtain⟨m,hm⟩:∃m,m=l.length:=⟨_,rfl⟩
 obtain⟨r,hr⟩:∃r,r=xU (.mk k n o l):=⟨_,rfl⟩
 rw [<-hr]
 have hr2:r=(decide (k=0) && decide (n=0) && decide (o=0) && decide (m=0)):=by rw [hr,hm];rfl
 have HR:=qh hr2
 unfold yP
 simp only [zG.kind,zG.n,zG.op,zG.kids]
 rw [<-hm]
 clear hr hr2 hm
 have HA:=qh ((Below.refl w.heap.size w).alloc (Nat.le_refl _) (.cells #[.int .i64 k, .int .i64 n, .int .u8 o, .slice ka m kc] 58))
 have yJ:=qh (zS w (.cells #[.int .i64 k, .int .i64 n, .int .u8 o, .slice ka m kc] 58))
 go_enter Tryz.func88,Tryz.ntmps88
 go_upto_region 1 with fail
 generalize World.alloc w _=W at HA yJ ⊢
 obtain⟨gx,hgx⟩:∃gx,gx=w.heap.size:=⟨_,rfl⟩
 rw [<-hgx] at yJ ⊢
 clear hgx
 have c0:W.cell? ⟨gx,0,none⟩=some (.int .i64 k):=ze yJ.out 0
 have c1:W.cell? ⟨gx,1,none⟩=some (.int .i64 n):=ze yJ.out 1
 have c2:W.cell? ⟨gx,2,none⟩=some (.int .u8 o):=ze yJ.out 2
 have c3:W.cell? ⟨gx,3,none⟩=some (.slice ka m kc):=ze yJ.out 3
 by_cases a1:k=0
 rotate_left
 ·have b1:((k:Int)==0)=false:=by simp [a1]
  obtain rfl:r=false:=by rw [HR.out];simp [a1]
  clear HR a1
  go_wp2_with fail
  go_ret
  exact⟨by first|rfl|simp,HA.out⟩
 have b1:((k:Int)==0)=true:=by simp [a1]
 by_cases a2:n=0
 rotate_left
 ·have b2:((n:Int)==0)=false:=by simp [a2]
  obtain rfl:r=false:=by rw [HR.out];simp [a2]
  clear HR a1 a2
  go_wp2_with fail
  go_ret
  exact⟨by first|rfl|simp,HA.out⟩
 have b2:((n:Int)==0)=true:=by simp [a2]
 by_cases a3:o=0
 ·have b3:((o:Int)==0)=true:=by simp [a3]
  obtain rfl:r=decide (m=0):=by rw [HR.out];simp [a1,a2,a3]
  clear HR a1 a2 a3
  by_cases a4:m=0
  ·have b4:((m:Int)==0)=true:=by simp [a4]
   subst a4
   go_wp2_with fail
   go_ret
   exact⟨by first|rfl|simp,HA.out⟩
  have b4:((m:Int)==0)=false:=by simp [a4]
  go_wp2_with fail
  go_ret
  exact⟨by first|rfl|simp [a4],HA.out⟩
 have b3:((o:Int)==0)=false:=by simp [a3]
 obtain rfl:r=false:=by rw [HR.out];simp [a3]
 clear HR a1 a2 a3
 go_wp2_with fail
 go_ret
 exact⟨by first|rfl|simp,HA.out⟩
