/- Steps. -/
import Derived.Test.YtliajkheeniljaaGreatDoorZrBuf
set_option linter.all false
namespace Go.Proofs.YtliajkheeniljaaGreatDoor
open Go.RowKit
set_option maxRecDepth 100000
set_option maxHeartbeats 16000000
def pF (l:List zk) (v:Int):Nat->Option Int
 |0=>none
 |k+1=>if (l.getD k default).var=v then some (l.getD k default).n else pF l v k
def gD (l:List zk) (v:Int):Option Int:=pF l v l.length
theorem zuS (w:World) (bv:Value) (l:List zk) (h:zV w bv l) (hl:l.length<=1000000) (v:Int):
  Calls Tryz.prog 91 #[bv, .int .i64 v] w λe w'=>e= .returned (.tuple #[.int .i64 ((gD l v).getD 0), .bool (gD l v).isSome])/\Below w.heap.size w w':=by
 obtain⟨ba,bc,rfl, -⟩:=zh.slice h
 obtain⟨n,hn⟩:∃n,n=l.length:=⟨_,rfl⟩
 obtain⟨r,hr⟩:∃r,r=gD l v:=⟨_,rfl⟩
 rw [<-hr]
 unfold gD at hr
 rw [<-hn] at h hl hr ⊢
 have HL:=qh h
 have HN:=qh hn
 have HR:=qh hr
 clear h hn hr
 go_enter Tryz.func91,Tryz.ntmps91
 go_wp2_with fail
 go_loopg [6] n (λgg s6 wr=>∃(j:Nat) (z:Int),j<=n/\Hid (gg=j)/\s6= .int .i64 z/\z=(j:Int) - 1/\wr=w/\Hid (r=pF l v j))
 case atStart=>exact⟨n,_,Nat.le_refl _,rfl,by first|rfl|simp,by first|rfl|(unfold wrap64;omega),rfl,HR.out⟩
 case round=>
 obtain⟨j,z,hj,HG,rfl,hz,hwr,HS⟩:=hrel
 obtain rfl:w=wr:=hwr.symm
 by_cases h0:j=0
 ·obtain rfl:z= -1:=by omega
  subst h0
  have hrn:r=none:=HS.out
  subst hrn
  clear hz HR
  go_wp2_with fail
  go_ret2
  exact⟨by first|rfl|simp,Below.refl _ _⟩
 obtain⟨k,rfl⟩:∃k,j=k+1:=⟨j - 1,by omega⟩
 obtain rfl:z=(k:Int):=by omega
 have hk:k<n:=by omega
 have hkI:(k:Int)<(n:Int):=by omega
 have hk0:¬(k:Int)<0:=by omega
 obtain⟨eb,eo,yg, -,he1,he2⟩:=HL.out.part k (by rw [<-HN.out];exact hk)
 subst yg
 obtain⟨ev,hev⟩:∃ev,ev=(l.getD k default).var:=⟨_,rfl⟩
 obtain⟨en,hen⟩:∃en,en=(l.getD k default).n:=⟨_,rfl⟩
 rw [<-hev] at he1
 rw [<-hen] at he2
 have HS2:Hid (r=if ev=v then some en else pF l v k):=by rw [Hid,hev,hen];exact HS.out
 clear hev hen h0 hz
 by_cases a1:ev=v
 ·have a1b:((ev:Int)==v)=true:=by simp [a1]
  obtain rfl:r=some en:=by rw [HS2.out,if_pos a1]
  clear a1 HR HS HS2
  go_wp2_with fail
  go_ret2
  exact⟨by first|rfl|simp,Below.refl _ _⟩
 have a1b:((ev:Int)==v)=false:=by simp [a1]
 have HS3:Hid (r=pF l v k):=by rw [Hid,HS2.out,if_neg a1]
 clear a1
 go_wp2_with fail
 go_roundg k
 case measure=>rw [HG.out];omega
 case rel=>exact⟨k,_,by omega,rfl,rfl,by first|rfl|(unfold wrap64;omega),rfl,HS3.out⟩
theorem zs9 {a b:zk} (h1:a.var=b.var) (h2:a.n=b.n):a=b:=by cases a;cases b;simp_all
theorem zk4 {α:Type} [Inhabited α] {a b:List α} (hl:a.length=b.length) (h:∀i,i<a.length->a.getD i default=b.getD i default):a=b:=by
 apply List.ext_getElem hl
 intro i h1 h2
 have:=h i h1
 simpa [List.getD_eq_getElem?_getD,h1,h2] using this
def yM (l:List zk) (v:Int):Nat->Option zk × List zk
 |0=>(none, [])
 |i+1=>if (yM l v i).1.isNone && decide ((l.getD i default).var=v) then(some (l.getD i default),(yM l v i).2) else((yM l v i).1,(yM l v i).2++ [l.getD i default])
def takeB (l:List zk) (v:Int):Option zk × List zk:=yM l v l.length
theorem ziC (l:List zk) (v:Int) (i:Nat):(yM l v i).2.length<=i:=by
 induction i with
 |zero=>simp [yM]
 |succ i ih=>
 unfold yM
 split
 ·simp only [];omega
 simp only [List.length_append,List.length_cons,List.length_nil];omega
theorem zbE {P:Program} {fn:Func} {p u v:Tmp} {ty:TypeId} (h:fn.results= #[.cell p ty, .tmp u, .tmp v]) (tmps:Array Value) (w:World) (g:Nat) (t:TypeId) (cs:Array Value) (fr:Nat × Nat) (d:TypeDesc)
  (hp:tmps.getD p undef= .pointer (some ⟨g,0,none⟩)) (hg:w.heap[g]? =some (.cells cs t fr))
  (hu:P.underlying ty=some d) (hd:(match d with| .struct _| .array _ _=>true|_=>false)=true) (hi:(P.info? ty).map (·.size)=some cs.size):
  (results fn tmps).run P w= .ok (.tuple #[.agg cs,tmps.getD u undef,tmps.getD v undef]) w:=by
 have hp':tmps[p]?.getD undef= .pointer (some ⟨g,0,none⟩):=by simpa using hp
 simp [results,h,hp',asAddr,run_loadVar_row w g t ty cs fr d hg hu hd hi]
theorem xS {P:Program} {fn:Func} {p:Tmp} {ty:TypeId} (h:fn.results= #[.cell p ty]) (tmps:Array Value) (w:World) (g:Nat) (t:TypeId) (cs:Array Value) (fr:Nat × Nat) (d:TypeDesc)
  (hp:tmps.getD p undef= .pointer (some ⟨g,0,none⟩)) (hg:w.heap[g]? =some (.cells cs t fr))
  (hu:P.underlying ty=some d) (hd:(match d with| .struct _| .array _ _=>true|_=>false)=true) (hi:(P.info? ty).map (·.size)=some cs.size):
  (results fn tmps).run P w= .ok (.agg cs) w:=by
 have hp':tmps[p]?.getD undef= .pointer (some ⟨g,0,none⟩):=by simpa using hp
 simp [results,h,hp',asAddr,run_loadVar_row w g t ty cs fr d hg hu hd hi]
theorem zy {P:Program} {fn:Func} {p u:Tmp} {ty:TypeId} (h:fn.results= #[.cell p ty, .tmp u]) (tmps:Array Value) (w:World) (g:Nat) (t:TypeId) (cs:Array Value) (fr:Nat × Nat) (d:TypeDesc)
  (hp:tmps.getD p undef= .pointer (some ⟨g,0,none⟩)) (hg:w.heap[g]? =some (.cells cs t fr))
  (hu:P.underlying ty=some d) (hd:(match d with| .struct _| .array _ _=>true|_=>false)=true) (hi:(P.info? ty).map (·.size)=some cs.size):
  (results fn tmps).run P w= .ok (.tuple #[.agg cs,tmps.getD u undef]) w:=by
 have hp':tmps[p]?.getD undef= .pointer (some ⟨g,0,none⟩):=by simpa using hp
 simp [results,h,hp',asAddr,run_loadVar_row w g t ty cs fr d hg hu hd hi]
theorem zey:(Tryz.prog.info? 50).map (·.size)=some 2:=by kernel_rfl
theorem zgi (w:World) (a b:Value) (t:TypeId):∀j u, [a,b][j]? =some u->(w.alloc (.cells #[a,b] t)).cell? ((⟨w.heap.size,0,none⟩:Addr).add j)=some u:=by
 intro j u hj
 have h:=λi=>ze (yj w (.cells #[a,b] t)) i
 match j with
 |0=>simp only [List.getElem?_cons_zero,Option.some.injEq] at hj;subst hj;simp [Addr.add,h 0]
 |1=>simp only [List.getElem?_cons_succ,List.getElem?_cons_zero,Option.some.injEq] at hj;subst hj;simp [Addr.add,h 1]
 |j+2=>simp at hj
theorem zt2 (w:World) (bv:Value) (l:List zk) (h:zV w bv l) (hl:l.length<=1000000) (v:Int):
  Calls Tryz.prog 65 #[bv, .int .i64 v] w λe w'=>(∃sv,e= .returned (.tuple #[((takeB l v).1.getD default).val,sv, .bool (takeB l v).1.isSome])/\zV w' sv (takeB l v).2/\w'.ownsRow w.heap.size 50 2 sv (takeB l v).2.length (zq zk.cells (takeB l v).2))/\Below w.heap.size w w':=by
 obtain⟨ba,bc,rfl, -⟩:=zh.slice h
 obtain⟨n,hn⟩:∃n,n=l.length:=⟨_,rfl⟩
 unfold takeB
 rw [<-hn] at h hl ⊢
 have hb0:=xq w (.cells #[.int .i64 0, .int .i64 0] 50) (.cells #[.int .i64 0, .int .i64 0] 50)
 have HB:=qh hb0
 have H1:=qh (xQ w (.cells #[.int .i64 0, .int .i64 0] 50) (.cells #[.int .i64 0, .int .i64 0] 50))
 have H2:=qh (xA w (.cells #[.int .i64 0, .int .i64 0] 50) (.cells #[.int .i64 0, .int .i64 0] 50))
 have HL:=qh h
 have HN:=qh hn
 have hsz:((w.alloc (.cells #[.int .i64 0, .int .i64 0] 50)).alloc (.cells #[.int .i64 0, .int .i64 0] 50)).heap.size=w.heap.size+2:=by simp
 have HSZ:=qh hsz
 clear h hb0 hn hsz
 go_enter Tryz.func65,Tryz.ntmps65
 go_upto_region 3 with fail
 generalize World.alloc (World.alloc w _) _=W at HB H1 H2 HSZ ⊢
 obtain⟨gx,hgx⟩:∃gx,gx=w.heap.size:=⟨_,rfl⟩
 rw [<-hgx] at H1 H2 HSZ ⊢
 have yS:=qh hgx
 clear hgx
 go_wp2_with fail
 go_loopg [7,9,10] n (λgg s7 s9 s10 wr=>∃(i:Nat) (ra:Option Addr) (rl rc:Nat) (x:zk) (is_:Bool),i<=n/\Hid (gg=n - i)/\s7= .slice ra rl rc/\s9= .bool is_/\s10= .int .i64 i/\
  Hid (wr.ownsRow (gx+2) 50 2 (.slice ra rl rc) rl (zq zk.cells (yM l v i).2))/\Hid (is_=(yM l v i).1.isSome)/\Hid (x=(yM l v i).1.getD default)/\Hid (rl=(yM l v i).2.length)/\
  Hid (wr.heap[gx]? =some (.cells #[.int .i64 0, .int .i64 0] 50 (0,0)))/\Hid (wr.heap[gx+1]? =some (.cells #[.int .i64 x.var, .int .i64 x.n] 50 (0,0)))/\Hid (Below gx w wr)/\Hid (gx+2<=wr.heap.size))
 case atStart=>exact⟨0,none,0,0,default,false,Nat.zero_le _,rfl,rfl,rfl,rfl,World.ownsRow_nil _ _ _ _,rfl,rfl,rfl,H1.out,H2.out,by rw [Hid,yS.out];exact HB.out,by rw [Hid,HSZ.out];omega⟩
 case round=>
 obtain⟨i,ra,rl,rc,x,is_,hi,HG,rfl,rfl,rfl,HR,HIS,HXX,HRL,qy,HG2,zM,HGS⟩:=hrel
 by_cases hlt:i<n
 rotate_left
 ·obtain rfl:n=i:=by omega
  have d0:wr.cell? ⟨gx+1,0,none⟩=some (.int .i64 x.var):=ze HG2.out 0
  have d1:wr.cell? ⟨gx+1,1,none⟩=some (.int .i64 x.n):=ze HG2.out 1
  have d2:wr.cell? ⟨gx,0,none⟩=some (.int .i64 0):=ze qy.out 0
  have d3:wr.cell? ⟨gx,1,none⟩=some (.int .i64 0):=ze qy.out 1
  have f0:wr.frozen? ⟨gx,0,none⟩=false:=zA qy.out 0
  have f1:wr.frozen? ⟨gx,1,none⟩=false:=zA qy.out 1
  have hset:=zu (zu qy.out 0 (.int .i64 x.var)) 1 (.int .i64 x.n)
  simp only [List.setIfInBounds_toArray,List.set_cons_zero,List.set_cons_succ] at hset
  have hS:Since (λk=>k=gx) wr ((wr.setCell ⟨gx,0,none⟩ (.int .i64 x.var)).setCell ⟨gx,1,none⟩ (.int .i64 x.n)):=Since.setCell (p:=⟨gx,1,none⟩) (Since.setCell (F:=λk=>k=gx) (p:=⟨gx,0,none⟩) (Since.refl _ wr) (.inl rfl) _) (.inl rfl) _
  have zG:=qh hset
  have HSS:=qh hS
  clear hset hS
  go_wp2_with fail
  (try simp only [Exit.inBlock,Exit.then])
  refine bodyPost_ret (zbE rfl _ _ gx 50 _ (0,0) _ rfl zG.out Tryz.underlying50 rfl zey) rfl ?_
  have hrow:(((wr.setCell ⟨gx,0,none⟩ (.int .i64 x.var)).setCell ⟨gx,1,none⟩ (.int .i64 x.n))).ownsRow (gx+2) 50 2 (.slice ra rl rc) (yM l v n).2.length (zq zk.cells (yM l v n).2):=by rw [<-HRL.out];exact HSS.out.row HR.out (λy hy e=>by have:=(HR.out.lt y hy).1;omega)
  refine⟨⟨.slice ra rl rc, ?_,wz hrow,xw hrow (by have:=yS.out;omega)⟩,by rw [<-yS.out];exact zM.out.trans (HSS.out.below (by have:=HGS.out;omega) (λy hy=>by omega))⟩
  rw [<-HXX.out, <-HIS.out];rfl
 have qx:(i:Int)<(n:Int):=by omega
 obtain⟨eb,eo,yg,heb,he1,he2⟩:=HL.out.part i (by rw [<-HN.out];exact hlt)
 subst yg
 obtain⟨y,hy⟩:∃y,y=l.getD i default:=⟨_,rfl⟩
 rw [<-hy] at he1 he2
 have hk:∀a u,w.cell? a=some u->wr.cell? a=some u:=λa u h=>by have:=zM.out;rw [yS.out] at this;exact zi this a u h
 replace he1:=hk _ _ he1
 replace he2:=hk _ _ he2
 have hst:yM l v (i+1)=if (yM l v i).1.isNone && decide (y.var=v) then(some y,(yM l v i).2) else((yM l v i).1,(yM l v i).2++ [y]):=by rw [hy];rfl
 have HST:=qh hst
 have hrl:rl<=1000000:=by have:=ziC l v i;rw [HRL.out];omega
 obtain⟨yv,yn⟩:=y
 simp only [] at he1 he2 hst
 clear hy hk hst
 have hnone:(yM l v i).1.isNone= !is_:=by rw [HIS.out];cases (yM l v i).1<;>rfl
 have HNO:=qh hnone
 clear hnone
 by_cases a1:is_=false/\yv=v
 ·obtain⟨rfl,rfl⟩:=a1
  have wK:yM l yv (i+1)=(some ⟨yv,yn⟩,(yM l yv i).2):=by rw [HST.out,HNO.out];simp
  have qB:=qh wK
  have d0:wr.cell? ⟨gx+1,0,none⟩=some (.int .i64 x.var):=ze HG2.out 0
  have d1:wr.cell? ⟨gx+1,1,none⟩=some (.int .i64 x.n):=ze HG2.out 1
  have f0:wr.frozen? ⟨gx+1,0,none⟩=false:=zA HG2.out 0
  have f1:wr.frozen? ⟨gx+1,1,none⟩=false:=zA HG2.out 1
  have hset:=zu (zu HG2.out 0 (.int .i64 yv)) 1 (.int .i64 yn)
  simp only [List.setIfInBounds_toArray,List.set_cons_zero,List.set_cons_succ] at hset
  have hS:Since (λk=>k=gx+1) wr ((wr.setCell ⟨gx+1,0,none⟩ (.int .i64 yv)).setCell ⟨gx+1,1,none⟩ (.int .i64 yn)):=Since.setCell (p:=⟨gx+1,1,none⟩) (Since.setCell (F:=λk=>k=gx+1) (p:=⟨gx+1,0,none⟩) (Since.refl _ wr) (.inl rfl) _) (.inl rfl) _
  have zG:=qh hset
  have HSS:=qh hS
  clear hset hS wK
  go_wp2_with fail
  go_roundg (n - (i+1))
  case measure=>rw [HG.out];omega
  case rel=>exact⟨i+1,ra,rl,rc,⟨yv,yn⟩,true,by omega,rfl,rfl,by first|rfl|simp,by simp,by rw [Hid,qB.out];exact HSS.out.row HR.out (λy hy e=>by have:=(HR.out.lt y hy).1;omega),by rw [Hid,qB.out];rfl,by rw [Hid,qB.out];rfl,by rw [Hid,qB.out];exact HRL.out,(HSS.out.block _ (zw qy.out) (by omega)).trans qy.out,zG.out,zM.out.trans (HSS.out.below (by have:=HGS.out;omega) (λy hy=>by omega)),Nat.le_trans HGS.out HSS.out.size⟩
 have wK:yM l v (i+1)=((yM l v i).1,(yM l v i).2++ [⟨yv,yn⟩]):=by
  rw [HST.out,HNO.out,if_neg]
  simp only [Bool.and_eq_true,Bool.not_eq_true',decide_eq_true_eq]
  exact a1
 have qB:=qh wK
 have hcond:∀b:Bool,b=is_->(b=false->((yv:Int)==v)=false):=λb hb h=>by
  rw [beq_eq_false_iff_ne];exact λe=>a1 ⟨hb ▸ h,e⟩
 have HCD:=qh (hcond is_ rfl)
 clear wK a1 hcond
 have hap:∀(X:World) (ja:Option Addr) (jc:Nat) (o:Obj),X.ownsRow (gx+2) 50 2 (.slice ja (rl+1) jc) (rl+1) (zq zk.cells (yM l v i).2++ [.int .i64 yv, .int .i64 yn])->Since (λk=>(Value.slice ra rl rc).ownBlock=some k) (wr.alloc o) X->
   X.ownsRow (gx+2) 50 2 (.slice ja (rl+1) jc) (rl+1) (zq zk.cells (yM l v (i+1)).2)/\X.heap[gx]? =some (.cells #[.int .i64 0, .int .i64 0] 50 (0,0))/\X.heap[gx+1]? =some (.cells #[.int .i64 x.var, .int .i64 x.n] 50 (0,0))/\Below gx w X/\gx+2<=X.heap.size:=λX ja jc o h1 h2=>by
  have hS:Since (λk=>(Value.slice ra rl rc).ownBlock=some k) wr X:=((Since.refl _ wr).alloc o).trans h2 (λk hk=> .inl hk)
  have hlo:∀k,(Value.slice ra rl rc).ownBlock=some k->gx+2<=k:=λk hk=>(HR.out.lt k hk).1
  refine⟨by rw [qB.out];simp only [];rw [wu];exact h1,(hS.block _ (zw qy.out) (λe=>by have:=hlo _ e;omega)).trans qy.out,(hS.block _ (zw HG2.out) (λe=>by have:=hlo _ e;omega)).trans HG2.out,zM.out.trans (hS.below (by have:=HGS.out;omega) (λk hk=>by have:=hlo _ hk;omega)),Nat.le_trans HGS.out hS.size⟩
 have HAP:=qh hap
 clear hap
 cases is_ with
 |true=>
  go_wp2_with(at_builtin;go_must(refine zJ _ rfl _ _ 46 rfl 50 (.agg #[.int .i64 0, .int .i64 0]) 2 16 Tryz.underlying46 xH rfl (by decide) (gx+2) (.slice ra rl rc) rl (zq zk.cells (yM l v i).2) rfl (HR.out.alloc _) ⟨wr.heap.size,0,none⟩ 1 1 [.int .i64 yv, .int .i64 yn] rfl rfl (zgi _ _ _ _) (by simp [Value.oneCell']) (by unfold maxLen;omega) (by omega) (by have:=HGS.out;simp;omega) ?_);intro ja jc X e1 e2 e3 e4 e5 e6;have HE:=qh (HAP.out X ja jc _ e1 e4);clear e1 e2 e3 e4 e5 e6)
  go_roundg (n - (i+1))
  case measure=>rw [HG.out];omega
  case rel=>exact⟨i+1,ja,rl+1,jc,x,true,by omega,rfl,rfl,by first|rfl|simp,by simp,HE.out.1,by rw [Hid,qB.out];exact HIS.out,by rw [Hid,qB.out];exact HXX.out,by rw [Hid,qB.out,List.length_append, <-HRL.out];rfl,HE.out.2.1,HE.out.2.2.1,HE.out.2.2.2.1,HE.out.2.2.2.2⟩
 |false=>
 have a2:=HCD.out rfl
 clear HCD
 go_wp2_with(at_builtin;go_must(refine zJ _ rfl _ _ 46 rfl 50 (.agg #[.int .i64 0, .int .i64 0]) 2 16 Tryz.underlying46 xH rfl (by decide) (gx+2) (.slice ra rl rc) rl (zq zk.cells (yM l v i).2) rfl (HR.out.alloc _) ⟨wr.heap.size,0,none⟩ 1 1 [.int .i64 yv, .int .i64 yn] rfl rfl (zgi _ _ _ _) (by simp [Value.oneCell']) (by unfold maxLen;omega) (by omega) (by have:=HGS.out;simp;omega) ?_);intro ja jc X e1 e2 e3 e4 e5 e6;have HE:=qh (HAP.out X ja jc _ e1 e4);clear e1 e2 e3 e4 e5 e6)
 go_roundg (n - (i+1))
 case measure=>rw [HG.out];omega
 case rel=>exact⟨i+1,ja,rl+1,jc,x,false,by omega,rfl,rfl,by first|rfl|simp,by simp,HE.out.1,by rw [Hid,qB.out];exact HIS.out,by rw [Hid,qB.out];exact HXX.out,by rw [Hid,qB.out,List.length_append, <-HRL.out];rfl,HE.out.2.1,HE.out.2.2.1,HE.out.2.2.2.1,HE.out.2.2.2.2⟩
def vX (op:Int):Bool:=decide (op=43\/op=45\/op=42\/op=60\/op=38\/op=124\/op=61\/op=33)
theorem zbe (op:Int):(strOfNums [op]).toList.isEmpty=false:=by
 rw [ByteArray.toList_eq,strOfNums_data];rfl
theorem zlv (w:World) (op:Int):(convert 38 9 (.slice (some ⟨w.heap.size,0,none⟩) 1 1)).run Tryz.prog (w.alloc (.cells #[.int .u8 op] 5))= .ok (.string (strOfNums [op])) (w.alloc (.cells #[.int .u8 op] 5)):=
 run_convert_bytes_arg _ 38 5 Tryz.underlying38 Tryz.underlying5 w.heap.size 0 1 1 [op] rfl (λi hi=>by
  obtain rfl:i=0:=by omega
  exact ze (yj w _) 0) 9 Tryz.underlying9
theorem zuD (w:World) (op:Int):Calls Tryz.prog 153 #[.int .u8 op] w λe w'=>(∃s:ByteArray,e= .returned (.string s)/\s.toList.isEmpty= !vX op)/\Below w.heap.size w w':=by
 have hcv:=zlv w op
 have HA:=qh ((Below.refl w.heap.size w).alloc (Nat.le_refl _) (.cells #[.int .u8 op] 5))
 go_enter Tryz.func153,Tryz.ntmps153
 go_wp2_with fail
 go_loopg [3] 6 (λgg s3 wr=>∃i:Nat,i<=6/\Hid (gg=6 - i)/\s3= .int .i64 i/\Hid ((0<i->op≠43)/\(1<i->op≠45)/\(2<i->op≠42)/\(3<i->op≠60)/\(4<i->op≠38)/\(5<i->op≠124))/\wr=w)
 case atStart=>exact⟨0,by omega,rfl,rfl,by constructor<;>simp,rfl⟩
 case round=>
 obtain⟨i,hi,HG,rfl,HO,hwr⟩:=hrel
 obtain rfl:w=wr:=hwr.symm
 have g0:(({ data:= #[43,45,42,60,38,124] } :ByteArray)[0]).toNat=43:=by rfl
 have g1:(({ data:= #[43,45,42,60,38,124] } :ByteArray)[1]).toNat=45:=by rfl
 have g2:(({ data:= #[43,45,42,60,38,124] } :ByteArray)[2]).toNat=42:=by rfl
 have g3:(({ data:= #[43,45,42,60,38,124] } :ByteArray)[3]).toNat=60:=by rfl
 have g4:(({ data:= #[43,45,42,60,38,124] } :ByteArray)[4]).toNat=38:=by rfl
 have g5:(({ data:= #[43,45,42,60,38,124] } :ByteArray)[5]).toNat=124:=by rfl
 have hc:i=0\/i=1\/i=2\/i=3\/i=4\/i=5\/i=6:=by omega
 rcases hc with rfl|rfl|rfl|rfl|rfl|rfl|rfl
 ·by_cases a:op=43
  ·subst a
   go_wp2_with fail
   go_ret
   exact⟨⟨_,by first|rfl|simp,by rw [zbe];rfl⟩,HA.out⟩
  have a2:((43:Int)==op)=false:=by rw [beq_eq_false_iff_ne];omega
  have a3:((op:Int)==43)=false:=by rw [beq_eq_false_iff_ne];omega
  have a4:¬(43:Int)=op:=by omega
  clear hcv
  go_wp2_with fail
  go_roundg 5
  case measure=>rw [HG.out];omega
  case rel=>exact⟨1,by omega,rfl,by simp,by rw [Hid];have:=HO.out;omega,rfl⟩
 ·by_cases a:op=45
  ·subst a
   go_wp2_with fail
   go_ret
   exact⟨⟨_,by first|rfl|simp,by rw [zbe];rfl⟩,HA.out⟩
  have a2:((45:Int)==op)=false:=by rw [beq_eq_false_iff_ne];omega
  have a3:((op:Int)==45)=false:=by rw [beq_eq_false_iff_ne];omega
  have a4:¬(45:Int)=op:=by omega
  clear hcv
  go_wp2_with fail
  go_roundg 4
  case measure=>rw [HG.out];omega
  case rel=>exact⟨2,by omega,rfl,by simp,by rw [Hid];have:=HO.out;omega,rfl⟩
 ·by_cases a:op=42
  ·subst a
   go_wp2_with fail
   go_ret
   exact⟨⟨_,by first|rfl|simp,by rw [zbe];rfl⟩,HA.out⟩
  have a2:((42:Int)==op)=false:=by rw [beq_eq_false_iff_ne];omega
  have a3:((op:Int)==42)=false:=by rw [beq_eq_false_iff_ne];omega
  have a4:¬(42:Int)=op:=by omega
  clear hcv
  go_wp2_with fail
  go_roundg 3
  case measure=>rw [HG.out];omega
  case rel=>exact⟨3,by omega,rfl,by simp,by rw [Hid];have:=HO.out;omega,rfl⟩
 ·by_cases a:op=60
  ·subst a
   go_wp2_with fail
   go_ret
   exact⟨⟨_,by first|rfl|simp,by rw [zbe];rfl⟩,HA.out⟩
  have a2:((60:Int)==op)=false:=by rw [beq_eq_false_iff_ne];omega
  have a3:((op:Int)==60)=false:=by rw [beq_eq_false_iff_ne];omega
  have a4:¬(60:Int)=op:=by omega
  clear hcv
  go_wp2_with fail
  go_roundg 2
  case measure=>rw [HG.out];omega
  case rel=>exact⟨4,by omega,rfl,by simp,by rw [Hid];have:=HO.out;omega,rfl⟩
 ·by_cases a:op=38
  ·subst a
   go_wp2_with fail
   go_ret
   exact⟨⟨_,by first|rfl|simp,by rw [zbe];rfl⟩,HA.out⟩
  have a2:((38:Int)==op)=false:=by rw [beq_eq_false_iff_ne];omega
  have a3:((op:Int)==38)=false:=by rw [beq_eq_false_iff_ne];omega
  have a4:¬(38:Int)=op:=by omega
  clear hcv
  go_wp2_with fail
  go_roundg 1
  case measure=>rw [HG.out];omega
  case rel=>exact⟨5,by omega,rfl,by simp,by rw [Hid];have:=HO.out;omega,rfl⟩
 ·by_cases a:op=124
  ·subst a
   go_wp2_with fail
   go_ret
   exact⟨⟨_,by first|rfl|simp,by rw [zbe];rfl⟩,HA.out⟩
  have a2:((124:Int)==op)=false:=by rw [beq_eq_false_iff_ne];omega
  have a3:((op:Int)==124)=false:=by rw [beq_eq_false_iff_ne];omega
  have a4:¬(124:Int)=op:=by omega
  clear hcv
  go_wp2_with fail
  go_roundg 0
  case measure=>rw [HG.out];omega
  case rel=>exact⟨6,by omega,rfl,by simp,by rw [Hid];have:=HO.out;omega,rfl⟩
 clear hcv
 by_cases a:op=61
 ·subst a
  go_wp2_with fail
  go_ret
  exact⟨⟨_,by first|rfl|simp,by decide+kernel⟩,Below.refl _ _⟩
 have a2:((op:Int)==61)=false:=by rw [beq_eq_false_iff_ne];omega
 by_cases b:op=33
 ·subst b
  go_wp2_with fail
  go_ret
  exact⟨⟨_,by first|rfl|simp,by decide+kernel⟩,Below.refl _ _⟩
 have b2:((op:Int)==33)=false:=by rw [beq_eq_false_iff_ne];omega
 have hs:vX op=false:=by unfold vX;rw [decide_eq_false_iff_not];have:=HO.out;omega
 have HS:=qh hs
 clear hs
 go_wp2_with fail
 go_ret
 exact⟨⟨ByteArray.empty,by first|rfl|simp,by rw [HS.out];decide+kernel⟩,Below.refl _ _⟩
def qU (x:zN):Bool:=decide (x.kind=0) && decide (x.n=0) && decide (x.op=0) && decide (x.kids.length=0)
theorem zl0 (w:World) (x:zN) (ka:Option Addr) (kc:Nat):Calls Tryz.prog 100 #[qj x (.slice ka x.kids.length kc)] w λe w'=>e= .returned (.bool (qU x))/\Below w.heap.size w w':=by
 obtain⟨k,n,o,l⟩:=x
 obtain⟨m,hm⟩:∃m,m=l.length:=⟨_,rfl⟩
 obtain⟨r,hr⟩:∃r,r=qU (.mk k n o l):=⟨_,rfl⟩
 rw [<-hr]
 have hr2:r=(decide (k=0) && decide (n=0) && decide (o=0) && decide (m=0)):=by rw [hr,hm];rfl
 have HR:=qh hr2
 unfold qj
 simp only [zN.kind,zN.n,zN.op,zN.kids]
 rw [<-hm]
 clear hr hr2 hm
 have HA:=qh ((Below.refl w.heap.size w).alloc (Nat.le_refl _) (.cells #[.int .i64 k, .int .i64 n, .int .u8 o, .slice ka m kc] 62))
 have xX:=qh (yj w (.cells #[.int .i64 k, .int .i64 n, .int .u8 o, .slice ka m kc] 62))
 go_enter Tryz.func100,Tryz.ntmps100
 go_upto_region 1 with fail
 generalize World.alloc w _=W at HA xX ⊢
 obtain⟨gx,hgx⟩:∃gx,gx=w.heap.size:=⟨_,rfl⟩
 rw [<-hgx] at xX ⊢
 clear hgx
 have c0:W.cell? ⟨gx,0,none⟩=some (.int .i64 k):=ze xX.out 0
 have c1:W.cell? ⟨gx,1,none⟩=some (.int .i64 n):=ze xX.out 1
 have c2:W.cell? ⟨gx,2,none⟩=some (.int .u8 o):=ze xX.out 2
 have c3:W.cell? ⟨gx,3,none⟩=some (.slice ka m kc):=ze xX.out 3
 by_cases a1:k=0
 rotate_left
 ·have b1:((k:Int)==0)=false:=by simp [a1]
  obtain rfl:r=false:=by rw [HR.out];simp [a1]
  clear HR a1
  go_wp2_with fail
  go_ret
  exact⟨by first|rfl|simp,HA.out⟩
 have b1:((k:Int)==0)=true:=by simp [a1]
 by_cases a2:n=0
 rotate_left
 ·have b2:((n:Int)==0)=false:=by simp [a2]
  obtain rfl:r=false:=by rw [HR.out];simp [a2]
  clear HR a1 a2
  go_wp2_with fail
  go_ret
  exact⟨by first|rfl|simp,HA.out⟩
 have b2:((n:Int)==0)=true:=by simp [a2]
 by_cases a3:o=0
 ·have b3:((o:Int)==0)=true:=by simp [a3]
  obtain rfl:r=decide (m=0):=by rw [HR.out];simp [a1,a2,a3]
  clear HR a1 a2 a3
  by_cases a4:m=0
  ·have b4:((m:Int)==0)=true:=by simp [a4]
   subst a4
   go_wp2_with fail
   go_ret
   exact⟨by first|rfl|simp,HA.out⟩
  have b4:((m:Int)==0)=false:=by simp [a4]
  go_wp2_with fail
  go_ret
  exact⟨by first|rfl|simp [a4],HA.out⟩
 have b3:((o:Int)==0)=false:=by simp [a3]
 obtain rfl:r=false:=by rw [HR.out];simp [a3]
 clear HR a1 a2 a3
 go_wp2_with fail
 go_ret
 exact⟨by first|rfl|simp,HA.out⟩
def kU (x:Int):List Int->List Int
 | [] => [x]
 |y::l=>if x<y then x::y::l else y::kU x l
theorem zm8 (x:Int) (l:List Int):(kU x l).length=l.length+1:=by
 induction l with
 |nil=>rfl
 |cons y l ih=>unfold kU;split<;>simp [ih]
def yU (l:List zk):Nat->List Int
 |0=> []
 |i+1=>if (List.range i).all (λk=>decide (¬(l.getD k default).var=(l.getD i default).var)) then kU (l.getD i default).var (yU l i) else yU l i
def yL (l:List zk) (model:Int):List Int:=
 if model=2 then yU l l.length else if model=1 then(match l with| [] => [] |x::_=> [x.var]) else []
theorem zgV (l:List zk) (i:Nat):(yU l i).length<=i:=by
 induction i with
 |zero=>simp [yU]
 |succ i ih=>
 unfold yU
 split
 ·rw [zm8];omega
 omega
def zcf (x:Int) (done:Bool) (l:List Int):List Int:=if done then l else kU x l
theorem drop_at {l:List Int} {k:Nat} (hk:k<l.length):l.drop k=l.getD k 0::l.drop (k+1):=by
 rw [List.drop_eq_getElem_cons hk,List.getD_eq_getElem?_getD,List.getElem?_eq_getElem hk];rfl
theorem cell_one_new (w:World) (v:Value) (e:TypeId):∀j u, [v][j]? =some u->(w.alloc (.cells #[v] e)).cell? ((⟨w.heap.size,0,none⟩:Addr).add j)=some u:=by
 intro j u hj
 cases j with
 |zero=>
  simp only [List.getElem?_cons_zero,Option.some.injEq] at hj
  subst hj
  have:=ze (yj w (.cells #[v] e)) 0
  simp [Addr.add]
 |succ j=>simp at hj
theorem zv3 (l:List Int) (x:Int):zq yP (l++ [x])=zq yP l++ [.int .i64 x] :=by rw [wu];rfl
theorem _root_.Go.World.ownsRow.zeb {w:World} {B:Nat} {e:TypeId} {size:Nat} {v:Value} {n:Nat} {xs:List Value} (h:w.ownsRow B e size v n xs) (k:Nat):(w.drewN k).ownsRow B e size v n xs:=(Since.drewN (λ_=>False) k (Since.refl _ w)).row h (λ_ _ h=>h)
theorem za0 {B:Nat} {w X:World} {a a':Option Addr} {n c c':Nat} {l:List Int} {x:Int} {o:Obj} (ho:w.ownsRow B 3 1 (.slice a n c) n (zq yP l)) (h1:X.ownsRow B 3 1 (.slice a' (n+1) c') (n+1) (zq yP l++ [.int .i64 x]))
  (h4:Since (λk=>(Value.slice a n c).ownBlock=some k) (w.alloc o) X) {V:World} (hV:Below V.heap.size V w) (hB:V.heap.size<=B):X.ownsRow B 3 1 (.slice a' (n+1) c') (n+1) (zq yP (l++ [x]))/\Below V.heap.size V X:=by
 refine⟨by rw [zv3];exact h1,hV.trans ((((Since.refl _ w).alloc o).trans h4 (λk hk=> .inl hk)).below hV.size (λk hk=>Nat.le_trans hB (ho.lt k hk).1))⟩
theorem zkh (w:World) (bv:Value) (l:List zk) (h:zV w bv l) (hl:l.length<=1000000) (model:Int):
  Calls Tryz.prog 63 #[bv, .int .i64 model] w λe w'=>(∃sv sn,e= .returned sv/\sn=(yL l model).length/\w'.ownsRow w.heap.size 3 1 sv sn (zq yP (yL l model)))/\Below w.heap.size w w':=by
 obtain⟨ba,bc,rfl, -⟩:=zh.slice h
 obtain⟨n,hn⟩:∃n,n=l.length:=⟨_,rfl⟩
 rw [<-hn] at h hl ⊢
 have HL:=qh h
 have HN:=qh hn
 clear h hn
 go_enter Tryz.func63,Tryz.ntmps63
 by_cases hm:model=2
 rotate_left
 ·have hmI:((model:Int) !=2)=true:=by simp [hm]
  by_cases hm1:model=1
  rotate_left
  ·have zA6:((model:Int)==1)=false:=by simp [hm1]
   have HH:Hid (yL l model= []):=by rw [Hid];unfold yL;rw [if_neg hm,if_neg hm1]
   rw [HH.out]
   clear HH hm hm1
   go_wp2_with fail
   go_ret
   exact⟨⟨_,0,by first|rfl|simp,rfl,World.ownsRow_nil _ _ _ _⟩,Below.refl _ _⟩
  subst hm1
  clear hm
  by_cases hn0:n=0
  ·have HH:Hid (yL l 1= []):=by rw [Hid,show l= [] from List.eq_nil_of_length_eq_zero (by rw [<-HN.out];exact hn0)];rfl
   rw [HH.out]
   clear HH
   subst hn0
   go_wp2_with fail
   go_ret
   exact⟨⟨_,0,by first|rfl|simp,rfl,World.ownsRow_nil _ _ _ _⟩,Below.refl _ _⟩
  have hnI:(0:Int)<(n:Int):=by omega
  obtain⟨eb,eo,yg, -,he1, -⟩:=HL.out.part 0 (by rw [<-HN.out];omega)
  subst yg
  obtain⟨x,hx⟩:∃x,x=(l.getD 0 default).var:=⟨_,rfl⟩
  rw [<-hx,Nat.zero_mul,Nat.add_zero] at he1
  have HH:Hid (yL l 1= [x]):=by
   rw [Hid,hx]
   have h1:=HN.out
   cases l with
   |nil=>simp at h1;omega
   |cons a r=>rfl
  rw [HH.out]
  clear HH hx
  go_wp2_with(at_builtin;go_must(refine zJ _ rfl _ _ 28 rfl 3 (.int .i64 0) 1 8 Tryz.underlying28 qR rfl (by decide) w.heap.size (.slice none 0 0) 0 (zq yP []) rfl (World.ownsRow_nil _ _ _ _) ⟨w.heap.size,0,none⟩ 1 1 [.int .i64 x] rfl rfl (cell_one_new _ _ _) (by simp [Value.oneCell']) (by unfold maxLen;omega) (by omega) (by simp) ?_);intro ja jc X f1 f2 f3 f4 f5 f6;have HE:=qh (za0 (World.ownsRow_nil w w.heap.size _ _) f1 f4 (Below.refl _ _) (Nat.le_refl _));clear f1 f2 f3 f4 f5 f6)
  go_ret
  exact⟨⟨.slice ja 1 jc,1,by first|rfl|simp,rfl,HE.out.1⟩,HE.out.2⟩
 subst hm
 have HH:Hid (yL l 2=yU l n):=by rw [Hid,HN.out];rfl
 rw [HH.out]
 clear HH
 go_wp2_with fail
 go_loopg [5,6] n (λgg s5 s6 wr=>∃(i:Nat) (oa:Option Addr) (on oc:Nat),i<=n/\Hid (gg=n - i)/\s5= .slice oa on oc/\s6= .int .i64 i/\Hid (wr.ownsRow w.heap.size 3 1 (.slice oa on oc) on (zq yP (yU l i)))/\on=(yU l i).length/\Hid (Below w.heap.size w wr))
 case atStart=>exact⟨0,none,0,0,Nat.zero_le _,rfl,rfl,rfl,World.ownsRow_nil _ _ _ _,rfl,Below.refl _ _⟩
 case round=>
 obtain⟨i,oa,on,oc,hi,HG,rfl,rfl,HO,hon,zM⟩:=hrel
 obtain⟨wo,rfl⟩:∃wo:World,wo=wr:=⟨_,rfl⟩
 have kR:=qh hon
 have zA7:on<=n:=by have:=zgV l i;omega
 clear hon
 by_cases hlt:i<n
 rotate_left
 ·obtain rfl:n=i:=by omega
  go_wp2_with fail
  go_ret
  exact⟨⟨.slice oa on oc,on,by first|rfl|simp,kR.out,HO.out⟩,zM.out⟩
 have qx:(i:Int)<(n:Int):=by omega
 obtain⟨eb,eo,yg, -,he1, -⟩:=HL.out.part i (by rw [<-HN.out];exact hlt)
 subst yg
 obtain⟨x,hx⟩:∃x,x=(l.getD i default).var:=⟨_,rfl⟩
 rw [<-hx] at he1
 have HX:=qh hx
 have HE1:Hid (∀X,Below w.heap.size w X->X.cell? ⟨eb,eo+i*2,none⟩=some (.int .i64 x)):=λX hX=>zi hX _ _ he1
 clear hx he1
 have hst:yU l (i+1)=if (List.range i).all (λk=>decide (¬(l.getD k default).var=x)) then kU x (yU l i) else yU l i:=by rw [HX.out];rfl
 have HST:=qh hst
 clear hst
 go_wp2_with fail
 go_loopg [7,8] i (λgg s7 s8 wr=>∃(k:Nat) (first:Bool),k<=i/\Hid (gg=i - k)/\s7= .bool first/\s8= .int .i64 k/\Hid (first=(List.range k).all (λk=>decide (¬(l.getD k default).var=x)))/\Hid (Below wo.heap.size wo wr))
 case atStart=>exact⟨0,true,Nat.zero_le _,rfl,rfl,rfl,rfl,Below.refl _ _⟩
 case round=>
 obtain⟨k,first,hk,HG2,rfl,rfl,HFI,HB2⟩:=hrel
 have yt:=qh (zD zM.out HB2.out)
 have e1:=HE1.out wr yt.out
 by_cases hki:k<i
 ·have hkI:(k:Int)<(i:Int):=by omega
  have hkn:(k:Int)<(n:Int):=by omega
  obtain⟨eb',eo',z6T, -,he2, -⟩:=HL.out.part k (by rw [<-HN.out];omega)
  cases z6T
  obtain⟨y,hy⟩:∃y,y=(l.getD k default).var:=⟨_,rfl⟩
  rw [<-hy] at he2
  have e2:=zi yt.out _ _ he2
  have hnx:(List.range (k+1)).all (λk=>decide (¬(l.getD k default).var=x))=(first && decide (¬y=x)):=by rw [List.range_succ,List.all_append, <-HFI.out,hy];simp
  have HNX:=qh hnx
  clear hy he2 hnx
  cases first with
  |false=>
   go_wp2_with fail
   go_quiet (fail)
   go_wp2_with fail
   go_roundg (i - (k+1))
   case measure=>rw [HG2.out];omega
   case rel=>exact⟨k+1,false,by omega,rfl,rfl,by simp,by rw [Hid,HNX.out];rfl,yh HB2.out _⟩
  |true=>
  by_cases a1:y=x
  ·have a1b:((y:Int) !=x)=false:=by simp [a1]
   have zv4:Hid ((List.range (k+1)).all (λk=>decide (¬(l.getD k default).var=x))=false):=by rw [Hid,HNX.out];simp [a1]
   clear a1
   go_wp2_with fail
   go_quiet (fail)
   go_wp2_with fail
   go_roundg (i - (k+1))
   case measure=>rw [HG2.out];omega
   case rel=>exact⟨k+1,false,by omega,rfl,by first|rfl|simp,by simp,zv4.out.symm,yh HB2.out _⟩
  have a1b:((y:Int) !=x)=true:=by simp [a1]
  have zv4:Hid ((List.range (k+1)).all (λk=>decide (¬(l.getD k default).var=x))=true):=by rw [Hid,HNX.out];simp [a1]
  clear a1
  go_wp2_with fail
  go_quiet (fail)
  go_wp2_with fail
  go_roundg (i - (k+1))
  case measure=>rw [HG2.out];omega
  case rel=>exact⟨k+1,true,by omega,rfl,by first|rfl|simp,by simp,zv4.out.symm,yh HB2.out _⟩
 obtain rfl:i=k:=by omega
 rw [<-HFI.out] at HST
 obtain⟨w1,rfl⟩:∃w1:World,w1=wr:=⟨_,rfl⟩
 cases first with
 |false=>
  go_wp2_with fail
  go_roundg (n - (i+1))
  case measure=>rw [HG.out];omega
  case rel=>exact⟨i+1,oa,on,oc,by omega,rfl,rfl,by simp,by rw [Hid,HST.out];exact xZ HO.out HB2.out,by rw [HST.out];exact kR.out,yt.out⟩
 |true=>
 have qB:Hid (yU l (i+1)=kU x (yU l i)):=HST.out
 clear e1
 go_wp2_with fail
 go_loopg [9,10,11] on (λgg s9 s10 s11 wr=>∃(k:Nat) (na:Option Addr) (nn nc:Nat) (done:Bool) (nx:List Int),k<=on/\Hid (gg=on - k)/\s9= .slice na nn nc/\s10= .bool done/\s11= .int .i64 k/\Hid (wr.ownsRow w1.heap.size 3 1 (.slice na nn nc) nn (zq yP nx))/\Hid (nn=nx.length)/\Hid (kU x (yU l i)=nx++zcf x done ((yU l i).drop k))/\Hid (Below w1.heap.size w1 wr))
 case atStart=>exact⟨0,none,0,0,false, [],Nat.zero_le _,rfl,rfl,rfl,rfl,World.ownsRow_nil _ _ _ _,rfl,rfl,Below.refl _ _⟩
 case round=>
 obtain⟨k,na,nn,nc,done,nx,hk2,vW,rfl,rfl,rfl,HR,HNN,HIN,HB3⟩:=hrel
 have z1P:=qh (zD yt.out HB3.out)
 have e1:=HE1.out wr z1P.out
 have hnn:nn<=2000000:=by
  have h1:=congrArg List.length HIN.out
  rw [zm8,List.length_append, <-HNN.out, <-kR.out] at h1
  omega
 by_cases hko:k<on
 rotate_left
 ·obtain rfl:on=k:=by omega
  have hi4:=HIN.out
  rw [kR.out,List.drop_length] at hi4
  have HI4:=qh hi4
  clear hi4
  cases done with
  |true=>
   have HI5:Hid (yU l (i+1)=nx):=by rw [Hid,qB.out,HI4.out];simp [zcf]
   go_wp2_with fail
   go_roundg (n - (i+1))
   case measure=>rw [HG.out];omega
   case rel=>exact⟨i+1,na,nn,nc,by omega,rfl,rfl,by simp,by rw [Hid,HI5.out];exact xw HR.out yt.out.size,by rw [HI5.out];exact HNN.out,z1P.out⟩
  |false=>
  have HI5:Hid (yU l (i+1)=nx++ [x]):=by rw [Hid,qB.out,HI4.out];simp [zcf,kU]
  go_wp2_with(at_builtin;go_must(refine zJ _ rfl _ _ 28 rfl 3 (.int .i64 0) 1 8 Tryz.underlying28 qR rfl (by decide) w1.heap.size (.slice na nn nc) nn (zq yP nx) rfl ((HR.out).alloc _) ⟨wr.heap.size,0,none⟩ 1 1 [.int .i64 x] rfl rfl (cell_one_new _ _ _) (by simp [Value.oneCell']) (by unfold maxLen;omega) (by omega) (by have:=HB3.out.size;simp;omega) ?_);intro ja2 jc2 X2 f1 f2 f3 f4 f5 f6;have HE3:=qh (za0 (HR.out) f1 f4 (HB3.out) (Nat.le_refl _));clear f1 f2 f3 f4 f5 f6)
  go_roundg (n - (i+1))
  case measure=>rw [HG.out];omega
  case rel=>exact⟨i+1,ja2,nn+1,jc2,by omega,rfl,rfl,by simp,by rw [Hid,HI5.out];exact xw HE3.out.1 yt.out.size,by rw [HI5.out,List.length_append, <-HNN.out];rfl,zD yt.out HE3.out.2⟩
 have hkI:(k:Int)<(on:Int):=by omega
 obtain⟨ob,oo,hoa, -,ho1⟩:=(gF (by rw [<-kR.out];exact HO.out)).part k (by rw [<-kR.out];exact hko)
 subst hoa
 obtain⟨y,hy⟩:∃y,y=(yU l i).getD k 0:=⟨_,rfl⟩
 rw [<-hy] at ho1
 have HE2:Hid (∀X,Below wo.heap.size wo X->X.cell? ⟨ob,oo+k,none⟩=some (.int .i64 y)):=λX hX=>zi hX _ _ ho1
 have e2:=HE2.out wr (zD HB2.out HB3.out)
 have hdr:(yU l i).drop k=y::(yU l i).drop (k+1):=by rw [hy];exact drop_at (by rw [<-kR.out];exact hko)
 have hi2:=HIN.out
 rw [hdr] at hi2
 have HI2:=qh hi2
 clear hy ho1 hdr hi2
 cases done with
 |true=>
  have HI3:Hid (kU x (yU l i)=(nx++ [y])++zcf x true ((yU l i).drop (k+1))):=by rw [Hid,HI2.out];simp [zcf]
  go_wp2_with fail
  go_quiet (fail)
  go_wp2_with(at_builtin;go_must(refine zJ _ rfl _ _ 28 rfl 3 (.int .i64 0) 1 8 Tryz.underlying28 qR rfl (by decide) w1.heap.size (.slice na nn nc) nn (zq yP nx) rfl ((World.ownsRow.zeb HR.out _).alloc _) ⟨wr.heap.size,0,none⟩ 1 1 [.int .i64 y] rfl rfl (cell_one_new _ _ _) (by simp [Value.oneCell']) (by unfold maxLen;omega) (by omega) (by have:=HB3.out.size;simp;omega) ?_);intro ja jc X f1 f2 f3 f4 f5 f6;have HE:=qh (za0 (World.ownsRow.zeb HR.out _) f1 f4 (yh HB3.out _) (Nat.le_refl _));clear f1 f2 f3 f4 f5 f6)
  go_roundg (on - (k+1))
  case measure=>rw [vW.out];omega
  case rel=>exact⟨k+1,ja,nn+1,jc,true,nx++ [y],by omega,rfl,rfl,rfl,by simp,HE.out.1,by rw [Hid,List.length_append, <-HNN.out];rfl,HI3.out,HE.out.2⟩
 |false=>
 by_cases a1:x<y
 rotate_left
 ·have HI3:Hid (kU x (yU l i)=(nx++ [y])++zcf x false ((yU l i).drop (k+1))):=by rw [Hid,HI2.out];simp [zcf,kU,a1]
  go_wp2_with fail
  go_quiet (fail)
  go_wp2_with(at_builtin;go_must(refine zJ _ rfl _ _ 28 rfl 3 (.int .i64 0) 1 8 Tryz.underlying28 qR rfl (by decide) w1.heap.size (.slice na nn nc) nn (zq yP nx) rfl ((World.ownsRow.zeb HR.out _).alloc _) ⟨wr.heap.size,0,none⟩ 1 1 [.int .i64 y] rfl rfl (cell_one_new _ _ _) (by simp [Value.oneCell']) (by unfold maxLen;omega) (by omega) (by have:=HB3.out.size;simp;omega) ?_);intro ja2 jc2 X2 f1 f2 f3 f4 f5 f6;have HE3:=qh (za0 (World.ownsRow.zeb HR.out _) f1 f4 (yh HB3.out _) (Nat.le_refl _));clear f1 f2 f3 f4 f5 f6)
  go_roundg (on - (k+1))
  case measure=>rw [vW.out];omega
  case rel=>exact⟨k+1,ja2,nn+1,jc2,false,nx++ [y],by omega,rfl,rfl,rfl,by simp,HE3.out.1,by rw [Hid,List.length_append, <-HNN.out];rfl,HI3.out,HE3.out.2⟩
 have HI3:Hid (kU x (yU l i)=(nx++ [x] ++ [y])++zcf x true ((yU l i).drop (k+1))):=by rw [Hid,HI2.out];simp [zcf,kU,a1]
 go_wp2_with fail
 go_quiet (fail)
 go_upto_region 23 with(at_builtin;go_must(refine zJ _ rfl _ _ 28 rfl 3 (.int .i64 0) 1 8 Tryz.underlying28 qR rfl (by decide) w1.heap.size (.slice na nn nc) nn (zq yP nx) rfl ((World.ownsRow.zeb HR.out _).alloc _) ⟨wr.heap.size,0,none⟩ 1 1 [.int .i64 x] rfl rfl (cell_one_new _ _ _) (by simp [Value.oneCell']) (by unfold maxLen;omega) (by omega) (by have:=HB3.out.size;simp;omega) ?_);intro ja jc X f1 f2 f3 f4 f5 f6;have HE:=qh (za0 (World.ownsRow.zeb HR.out _) f1 f4 (yh HB3.out _) (Nat.le_refl _));clear f1 f2 f3 f4 f5 f6)
 have e3:=HE2.out X (zD HB2.out HE.out.2)
 go_wp2_with(at_builtin;go_must(refine zJ _ rfl _ _ 28 rfl 3 (.int .i64 0) 1 8 Tryz.underlying28 qR rfl (by decide) w1.heap.size (.slice ja (nn+1) jc) (nn+1) (zq yP (nx++ [x])) rfl ((HE.out.1).alloc _) ⟨X.heap.size,0,none⟩ 1 1 [.int .i64 y] rfl rfl (cell_one_new _ _ _) (by simp [Value.oneCell']) (by unfold maxLen;omega) (by omega) (by have:=HE.out.2.size;simp;omega) ?_);intro ja2 jc2 X2 f1 f2 f3 f4 f5 f6;have HE3:=qh (za0 (HE.out.1) f1 f4 (HE.out.2) (Nat.le_refl _));clear f1 f2 f3 f4 f5 f6)
 go_roundg (on - (k+1))
 case measure=>rw [vW.out];omega
 case rel=>exact⟨k+1,ja2,nn+1+1,jc2,true,nx++ [x] ++ [y],by omega,rfl,rfl,by first|rfl|simp,by simp,HE3.out.1,by rw [Hid,List.length_append,List.length_append, <-HNN.out];rfl,HI3.out,HE3.out.2⟩
theorem zqn (w:World) (bv:Value) (l:List zk) (h:zV w bv l) (hl:l.length<=1000000) (model:Int):
  Calls Tryz.prog 63 #[bv, .int .i64 model] w λe w'=>(∃sv,e= .returned sv/\xI w' sv (yL l model))/\Below w.heap.size w w':=
 (zkh w bv l h hl model).mono λ_ _ ⟨⟨sv,sn,he,hn,ho⟩,hb⟩=>⟨⟨sv,he,gF (by rw [<-hn];exact ho)⟩,hb⟩
