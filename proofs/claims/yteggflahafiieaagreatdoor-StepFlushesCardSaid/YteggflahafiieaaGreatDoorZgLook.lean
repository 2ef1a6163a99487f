/- Steps. -/
import Derived.Test.YteggflahafiieaaGreatDoorZgBuf
set_option linter.all false
namespace Go.Proofs.YteggflahafiieaaGreatDoor
open Go.RowKit
set_option maxRecDepth 100000
set_option maxHeartbeats 16000000
def gU (l:List zi) (v:Int):Nat->Option Int
 |0=>none
 |k+1=>if (l.getD k default).var=v then some (l.getD k default).n else gU l v k
def kF (l:List zi) (v:Int):Option Int:=gU l v l.length
theorem zua (w:World) (bv:Value) (l:List zi) (h:zW w bv l) (hl:l.length<=1000000) (v:Int):
  Calls Tryz.prog 97 #[bv, .int .i64 v] w λe w'=>e= .returned (.tuple #[.int .i64 ((kF l v).getD 0), .bool (kF l v).isSome])/\Below w.heap.size w w':=by
 obtain⟨ba,bc,rfl, -⟩:=ze.slice h
 obtain⟨n,hn⟩:∃n,n=l.length:=⟨_,rfl⟩
 obtain⟨r,hr⟩:∃r,r=kF l v:=⟨_,rfl⟩
 rw [<-hr]
 unfold kF at hr
 rw [<-hn] at h hl hr ⊢
 have HL:=qh h
 have HN:=qh hn
 have HR:=qh hr
 clear h hn hr
 go_enter Tryz.func97,Tryz.ntmps97
 go_wp2_with fail
 go_loopg [6] n (λgg s6 wr=>∃(j:Nat) (z:Int),j<=n/\Hid (gg=j)/\s6= .int .i64 z/\z=(j:Int) - 1/\wr=w/\Hid (r=gU l v j))
 case atStart=>exact⟨n,_,Nat.le_refl _,rfl,by first|rfl|simp,by first|rfl|(unfold wrap64;omega),rfl,HR.out⟩
 case round=>
 obtain⟨j,z,hj,HG,rfl,hz,hwr,HS⟩:=hrel
 obtain rfl:w=wr:=hwr.symm
 by_cases h0:j=0
 ·obtain rfl:z= -1:=by omega
  subst h0
  have hrn:r=none:=HS.out
  subst hrn
  clear hz HR
  go_wp2_with fail
  go_ret2
  exact⟨by first|rfl|simp,Below.refl _ _⟩
 obtain⟨k,rfl⟩:∃k,j=k+1:=⟨j - 1,by omega⟩
 obtain rfl:z=(k:Int):=by omega
 have hk:k<n:=by omega
 have hkI:(k:Int)<(n:Int):=by omega
 have hk0:¬(k:Int)<0:=by omega
 obtain⟨eb,eo,yG, -,he1,he2⟩:=HL.out.part k (by rw [<-HN.out];exact hk)
 subst yG
 obtain⟨ev,hev⟩:∃ev,ev=(l.getD k default).var:=⟨_,rfl⟩
 obtain⟨en,hen⟩:∃en,en=(l.getD k default).n:=⟨_,rfl⟩
 rw [<-hev] at he1
 rw [<-hen] at he2
 have HS2:Hid (r=if ev=v then some en else gU l v k):=by rw [Hid,hev,hen];exact HS.out
 clear hev hen h0 hz
 by_cases a1:ev=v
 ·have a1b:((ev:Int)==v)=true:=by simp [a1]
  obtain rfl:r=some en:=by rw [HS2.out,if_pos a1]
  clear a1 HR HS HS2
  go_wp2_with fail
  go_ret2
  exact⟨by first|rfl|simp,Below.refl _ _⟩
 have a1b:((ev:Int)==v)=false:=by simp [a1]
 have uE:Hid (r=gU l v k):=by rw [Hid,HS2.out,if_neg a1]
 clear a1
 go_wp2_with fail
 go_roundg k
 case measure=>rw [HG.out];omega
 case rel=>exact⟨k,_,by omega,rfl,rfl,by first|rfl|(unfold wrap64;omega),rfl,uE.out⟩
theorem zru {a b:zi} (h1:a.var=b.var) (h2:a.n=b.n):a=b:=by cases a;cases b;simp_all
theorem zkE {α:Type} [Inhabited α] {a b:List α} (hl:a.length=b.length) (h:∀i,i<a.length->a.getD i default=b.getD i default):a=b:=by
 apply List.ext_getElem hl
 intro i h1 h2
 have:=h i h1
 simpa [List.getD_eq_getElem?_getD,h1,h2] using this
def yC (l:List zi) (v:Int):Nat->Option zi × List zi
 |0=>(none, [])
 |i+1=>if (yC l v i).1.isNone && decide ((l.getD i default).var=v) then(some (l.getD i default),(yC l v i).2) else((yC l v i).1,(yC l v i).2++ [l.getD i default])
def takeB (l:List zi) (v:Int):Option zi × List zi:=yC l v l.length
theorem zfW (l:List zi) (v:Int) (i:Nat):(yC l v i).2.length<=i:=by
 induction i with
 |zero=>simp [yC]
 |succ i ih=>
 unfold yC
 split
 ·simp only [];omega
 simp only [List.length_append,List.length_cons,List.length_nil];omega
theorem zas {P:Program} {fn:Func} {p u v:Tmp} {ty:TypeId} (h:fn.results= #[.cell p ty, .tmp u, .tmp v]) (tmps:Array Value) (w:World) (g:Nat) (t:TypeId) (cs:Array Value) (fr:Nat × Nat) (d:TypeDesc)
  (hp:tmps.getD p undef= .pointer (some ⟨g,0,none⟩)) (hg:w.heap[g]? =some (.cells cs t fr))
  (hu:P.underlying ty=some d) (hd:(match d with| .struct _| .array _ _=>true|_=>false)=true) (hi:(P.info? ty).map (·.size)=some cs.size):
  (results fn tmps).run P w= .ok (.tuple #[.agg cs,tmps.getD u undef,tmps.getD v undef]) w:=by
 have hp':tmps[p]?.getD undef= .pointer (some ⟨g,0,none⟩):=by simpa using hp
 simp [results,h,hp',asAddr,run_loadVar_row w g t ty cs fr d hg hu hd hi]
theorem yY {P:Program} {fn:Func} {p:Tmp} {ty:TypeId} (h:fn.results= #[.cell p ty]) (tmps:Array Value) (w:World) (g:Nat) (t:TypeId) (cs:Array Value) (fr:Nat × Nat) (d:TypeDesc)
  (hp:tmps.getD p undef= .pointer (some ⟨g,0,none⟩)) (hg:w.heap[g]? =some (.cells cs t fr))
  (hu:P.underlying ty=some d) (hd:(match d with| .struct _| .array _ _=>true|_=>false)=true) (hi:(P.info? ty).map (·.size)=some cs.size):
  (results fn tmps).run P w= .ok (.agg cs) w:=by
 have hp':tmps[p]?.getD undef= .pointer (some ⟨g,0,none⟩):=by simpa using hp
 simp [results,h,hp',asAddr,run_loadVar_row w g t ty cs fr d hg hu hd hi]
theorem zy {P:Program} {fn:Func} {p u:Tmp} {ty:TypeId} (h:fn.results= #[.cell p ty, .tmp u]) (tmps:Array Value) (w:World) (g:Nat) (t:TypeId) (cs:Array Value) (fr:Nat × Nat) (d:TypeDesc)
  (hp:tmps.getD p undef= .pointer (some ⟨g,0,none⟩)) (hg:w.heap[g]? =some (.cells cs t fr))
  (hu:P.underlying ty=some d) (hd:(match d with| .struct _| .array _ _=>true|_=>false)=true) (hi:(P.info? ty).map (·.size)=some cs.size):
  (results fn tmps).run P w= .ok (.tuple #[.agg cs,tmps.getD u undef]) w:=by
 have hp':tmps[p]?.getD undef= .pointer (some ⟨g,0,none⟩):=by simpa using hp
 simp [results,h,hp',asAddr,run_loadVar_row w g t ty cs fr d hg hu hd hi]
theorem zcq:(Tryz.prog.info? 136).map (·.size)=some 2:=by kernel_rfl
theorem zeh (w:World) (a b:Value) (t:TypeId):∀j u, [a,b][j]? =some u->(w.alloc (.cells #[a,b] t)).cell? ((⟨w.heap.size,0,none⟩:Addr).add j)=some u:=by
 intro j u hj
 have h:=λi=>za (yE w (.cells #[a,b] t)) i
 match j with
 |0=>simp only [List.getElem?_cons_zero,Option.some.injEq] at hj;subst hj;simp [Addr.add,h 0]
 |1=>simp only [List.getElem?_cons_succ,List.getElem?_cons_zero,Option.some.injEq] at hj;subst hj;simp [Addr.add,h 1]
 |j+2=>simp at hj
theorem zue (w:World) (bv:Value) (l:List zi) (h:zW w bv l) (hl:l.length<=1000000) (v:Int):
  Calls Tryz.prog 62 #[bv, .int .i64 v] w λe w'=>(∃sv,e= .returned (.tuple #[((takeB l v).1.getD default).val,sv, .bool (takeB l v).1.isSome])/\zW w' sv (takeB l v).2/\w'.ownsRow w.heap.size 136 2 sv (takeB l v).2.length (zl zi.cells (takeB l v).2))/\Below w.heap.size w w':=by
 obtain⟨ba,bc,rfl, -⟩:=ze.slice h
 obtain⟨n,hn⟩:∃n,n=l.length:=⟨_,rfl⟩
 unfold takeB
 rw [<-hn] at h hl ⊢
 have hb0:=xZ w (.cells #[.int .i64 0, .int .i64 0] 136) (.cells #[.int .i64 0, .int .i64 0] 136)
 have HB:=qh hb0
 have H1:=qh (xL w (.cells #[.int .i64 0, .int .i64 0] 136) (.cells #[.int .i64 0, .int .i64 0] 136))
 have H2:=qh (xE w (.cells #[.int .i64 0, .int .i64 0] 136) (.cells #[.int .i64 0, .int .i64 0] 136))
 have HL:=qh h
 have HN:=qh hn
 have hsz:((w.alloc (.cells #[.int .i64 0, .int .i64 0] 136)).alloc (.cells #[.int .i64 0, .int .i64 0] 136)).heap.size=w.heap.size+2:=by simp
 have HSZ:=qh hsz
 clear h hb0 hn hsz
 go_enter Tryz.func62,Tryz.ntmps62
 go_upto_region 3 with fail
 generalize World.alloc (World.alloc w _) _=W at HB H1 H2 HSZ ⊢
 obtain⟨gx,hgx⟩:∃gx,gx=w.heap.size:=⟨_,rfl⟩
 rw [<-hgx] at H1 H2 HSZ ⊢
 have yV:=qh hgx
 clear hgx
 go_wp2_with fail
 go_loopg [7,9,10] n (λgg s7 s9 s10 wr=>∃(i:Nat) (ra:Option Addr) (rl rc:Nat) (x:zi) (is_:Bool),i<=n/\Hid (gg=n - i)/\s7= .slice ra rl rc/\s9= .bool is_/\s10= .int .i64 i/\
  Hid (wr.ownsRow (gx+2) 136 2 (.slice ra rl rc) rl (zl zi.cells (yC l v i).2))/\Hid (is_=(yC l v i).1.isSome)/\Hid (x=(yC l v i).1.getD default)/\Hid (rl=(yC l v i).2.length)/\
  Hid (wr.heap[gx]? =some (.cells #[.int .i64 0, .int .i64 0] 136 (0,0)))/\Hid (wr.heap[gx+1]? =some (.cells #[.int .i64 x.var, .int .i64 x.n] 136 (0,0)))/\Hid (Below gx w wr)/\Hid (gx+2<=wr.heap.size))
 case atStart=>exact⟨0,none,0,0,default,false,Nat.zero_le _,rfl,rfl,rfl,rfl,World.ownsRow_nil _ _ _ _,rfl,rfl,rfl,H1.out,H2.out,by rw [Hid,yV.out];exact HB.out,by rw [Hid,HSZ.out];omega⟩
 case round=>
 obtain⟨i,ra,rl,rc,x,is_,hi,HG,rfl,rfl,rfl,HR,HIS,HXX,HRL,xV,HG2,zX,HGS⟩:=hrel
 by_cases hlt:i<n
 rotate_left
 ·obtain rfl:n=i:=by omega
  have d0:wr.cell? ⟨gx+1,0,none⟩=some (.int .i64 x.var):=za HG2.out 0
  have d1:wr.cell? ⟨gx+1,1,none⟩=some (.int .i64 x.n):=za HG2.out 1
  have d2:wr.cell? ⟨gx,0,none⟩=some (.int .i64 0):=za xV.out 0
  have d3:wr.cell? ⟨gx,1,none⟩=some (.int .i64 0):=za xV.out 1
  have f0:wr.frozen? ⟨gx,0,none⟩=false:=zw xV.out 0
  have f1:wr.frozen? ⟨gx,1,none⟩=false:=zw xV.out 1
  have hset:=zu (zu xV.out 0 (.int .i64 x.var)) 1 (.int .i64 x.n)
  simp only [List.setIfInBounds_toArray,List.set_cons_zero,List.set_cons_succ] at hset
  have hS:Since (λk=>k=gx) wr ((wr.setCell ⟨gx,0,none⟩ (.int .i64 x.var)).setCell ⟨gx,1,none⟩ (.int .i64 x.n)):=Since.setCell (p:=⟨gx,1,none⟩) (Since.setCell (F:=λk=>k=gx) (p:=⟨gx,0,none⟩) (Since.refl _ wr) (.inl rfl) _) (.inl rfl) _
  have zI:=qh hset
  have bC:=qh hS
  clear hset hS
  go_wp2_with fail
  (try simp only [Exit.inBlock,Exit.then])
  refine bodyPost_ret (zas rfl _ _ gx 136 _ (0,0) _ rfl zI.out Tryz.underlying136 rfl zcq) rfl ?_
  have hrow:(((wr.setCell ⟨gx,0,none⟩ (.int .i64 x.var)).setCell ⟨gx,1,none⟩ (.int .i64 x.n))).ownsRow (gx+2) 136 2 (.slice ra rl rc) (yC l v n).2.length (zl zi.cells (yC l v n).2):=by rw [<-HRL.out];exact bC.out.row HR.out (λy hy e=>by have:=(HR.out.lt y hy).1;omega)
  refine⟨⟨.slice ra rl rc, ?_,jE hrow,xw hrow (by have:=yV.out;omega)⟩,by rw [<-yV.out];exact zX.out.trans (bC.out.below (by have:=HGS.out;omega) (λy hy=>by omega))⟩
  rw [<-HXX.out, <-HIS.out];rfl
 have qK:(i:Int)<(n:Int):=by omega
 obtain⟨eb,eo,yG,heb,he1,he2⟩:=HL.out.part i (by rw [<-HN.out];exact hlt)
 subst yG
 obtain⟨y,hy⟩:∃y,y=l.getD i default:=⟨_,rfl⟩
 rw [<-hy] at he1 he2
 have hk:∀a u,w.cell? a=some u->wr.cell? a=some u:=λa u h=>by have:=zX.out;rw [yV.out] at this;exact zh this a u h
 replace he1:=hk _ _ he1
 replace he2:=hk _ _ he2
 have hst:yC l v (i+1)=if (yC l v i).1.isNone && decide (y.var=v) then(some y,(yC l v i).2) else((yC l v i).1,(yC l v i).2++ [y]):=by rw [hy];rfl
 have HST:=qh hst
 have hrl:rl<=1000000:=by have:=zfW l v i;rw [HRL.out];omega
 obtain⟨yv,yn⟩:=y
 simp only [] at he1 he2 hst
 clear hy hk hst
 have hnone:(yC l v i).1.isNone= !is_:=by rw [HIS.out];cases (yC l v i).1<;>rfl
 have HNO:=qh hnone
 clear hnone
 by_cases a1:is_=false/\yv=v
 ·obtain⟨rfl,rfl⟩:=a1
  have zfe:yC l yv (i+1)=(some ⟨yv,yn⟩,(yC l yv i).2):=by rw [HST.out,HNO.out];simp
  have qz:=qh zfe
  have d0:wr.cell? ⟨gx+1,0,none⟩=some (.int .i64 x.var):=za HG2.out 0
  have d1:wr.cell? ⟨gx+1,1,none⟩=some (.int .i64 x.n):=za HG2.out 1
  have f0:wr.frozen? ⟨gx+1,0,none⟩=false:=zw HG2.out 0
  have f1:wr.frozen? ⟨gx+1,1,none⟩=false:=zw HG2.out 1
  have hset:=zu (zu HG2.out 0 (.int .i64 yv)) 1 (.int .i64 yn)
  simp only [List.setIfInBounds_toArray,List.set_cons_zero,List.set_cons_succ] at hset
  have hS:Since (λk=>k=gx+1) wr ((wr.setCell ⟨gx+1,0,none⟩ (.int .i64 yv)).setCell ⟨gx+1,1,none⟩ (.int .i64 yn)):=Since.setCell (p:=⟨gx+1,1,none⟩) (Since.setCell (F:=λk=>k=gx+1) (p:=⟨gx+1,0,none⟩) (Since.refl _ wr) (.inl rfl) _) (.inl rfl) _
  have zI:=qh hset
  have bC:=qh hS
  clear hset hS zfe
  go_wp2_with fail
  go_roundg (n - (i+1))
  case measure=>rw [HG.out];omega
  case rel=>exact⟨i+1,ra,rl,rc,⟨yv,yn⟩,true,by omega,rfl,rfl,by first|rfl|simp,by simp,by rw [Hid,qz.out];exact bC.out.row HR.out (λy hy e=>by have:=(HR.out.lt y hy).1;omega),by rw [Hid,qz.out];rfl,by rw [Hid,qz.out];rfl,by rw [Hid,qz.out];exact HRL.out,(bC.out.block _ (zq xV.out) (by omega)).trans xV.out,zI.out,zX.out.trans (bC.out.below (by have:=HGS.out;omega) (λy hy=>by omega)),Nat.le_trans HGS.out bC.out.size⟩
 have zfe:yC l v (i+1)=((yC l v i).1,(yC l v i).2++ [⟨yv,yn⟩]):=by
  rw [HST.out,HNO.out,if_neg]
  simp only [Bool.and_eq_true,Bool.not_eq_true',decide_eq_true_eq]
  exact a1
 have qz:=qh zfe
 have hcond:∀b:Bool,b=is_->(b=false->((yv:Int)==v)=false):=λb hb h=>by
  rw [beq_eq_false_iff_ne];exact λe=>a1 ⟨hb ▸ h,e⟩
 have HCD:=qh (hcond is_ rfl)
 clear zfe a1 hcond
 have hap:∀(X:World) (ja:Option Addr) (jc:Nat) (o:Obj),X.ownsRow (gx+2) 136 2 (.slice ja (rl+1) jc) (rl+1) (zl zi.cells (yC l v i).2++ [.int .i64 yv, .int .i64 yn])->Since (λk=>(Value.slice ra rl rc).ownBlock=some k) (wr.alloc o) X->
   X.ownsRow (gx+2) 136 2 (.slice ja (rl+1) jc) (rl+1) (zl zi.cells (yC l v (i+1)).2)/\X.heap[gx]? =some (.cells #[.int .i64 0, .int .i64 0] 136 (0,0))/\X.heap[gx+1]? =some (.cells #[.int .i64 x.var, .int .i64 x.n] 136 (0,0))/\Below gx w X/\gx+2<=X.heap.size:=λX ja jc o h1 h2=>by
  have hS:Since (λk=>(Value.slice ra rl rc).ownBlock=some k) wr X:=((Since.refl _ wr).alloc o).trans h2 (λk hk=> .inl hk)
  have hlo:∀k,(Value.slice ra rl rc).ownBlock=some k->gx+2<=k:=λk hk=>(HR.out.lt k hk).1
  refine⟨by rw [qz.out];simp only [];rw [kH];exact h1,(hS.block _ (zq xV.out) (λe=>by have:=hlo _ e;omega)).trans xV.out,(hS.block _ (zq HG2.out) (λe=>by have:=hlo _ e;omega)).trans HG2.out,zX.out.trans (hS.below (by have:=HGS.out;omega) (λk hk=>by have:=hlo _ hk;omega)),Nat.le_trans HGS.out hS.size⟩
 have HAP:=qh hap
 clear hap
 cases is_ with
 |true=>
  go_wp2_with(at_builtin;go_must(refine yx _ rfl _ _ 45 rfl 136 (.agg #[.int .i64 0, .int .i64 0]) 2 16 Tryz.underlying45 xu rfl (by decide) (gx+2) (.slice ra rl rc) rl (zl zi.cells (yC l v i).2) rfl (HR.out.alloc _) ⟨wr.heap.size,0,none⟩ 1 1 [.int .i64 yv, .int .i64 yn] rfl rfl (zeh _ _ _ _) (by simp [Value.oneCell']) (by unfold maxLen;omega) (by omega) (by have:=HGS.out;simp;omega) ?_);intro ja jc X e1 e2 e3 e4 e5 e6;have HE:=qh (HAP.out X ja jc _ e1 e4);clear e1 e2 e3 e4 e5 e6)
  go_roundg (n - (i+1))
  case measure=>rw [HG.out];omega
  case rel=>exact⟨i+1,ja,rl+1,jc,x,true,by omega,rfl,rfl,by first|rfl|simp,by simp,HE.out.1,by rw [Hid,qz.out];exact HIS.out,by rw [Hid,qz.out];exact HXX.out,by rw [Hid,qz.out,List.length_append, <-HRL.out];rfl,HE.out.2.1,HE.out.2.2.1,HE.out.2.2.2.1,HE.out.2.2.2.2⟩
 |false=>
 have a2:=HCD.out rfl
 clear HCD
 go_wp2_with(at_builtin;go_must(refine yx _ rfl _ _ 45 rfl 136 (.agg #[.int .i64 0, .int .i64 0]) 2 16 Tryz.underlying45 xu rfl (by decide) (gx+2) (.slice ra rl rc) rl (zl zi.cells (yC l v i).2) rfl (HR.out.alloc _) ⟨wr.heap.size,0,none⟩ 1 1 [.int .i64 yv, .int .i64 yn] rfl rfl (zeh _ _ _ _) (by simp [Value.oneCell']) (by unfold maxLen;omega) (by omega) (by have:=HGS.out;simp;omega) ?_);intro ja jc X e1 e2 e3 e4 e5 e6;have HE:=qh (HAP.out X ja jc _ e1 e4);clear e1 e2 e3 e4 e5 e6)
 go_roundg (n - (i+1))
 case measure=>rw [HG.out];omega
 case rel=>exact⟨i+1,ja,rl+1,jc,x,false,by omega,rfl,rfl,by first|rfl|simp,by simp,HE.out.1,by rw [Hid,qz.out];exact HIS.out,by rw [Hid,qz.out];exact HXX.out,by rw [Hid,qz.out,List.length_append, <-HRL.out];rfl,HE.out.2.1,HE.out.2.2.1,HE.out.2.2.2.1,HE.out.2.2.2.2⟩
def vD (op:Int):Bool:=decide (op=43\/op=45\/op=42\/op=60\/op=38\/op=124\/op=61\/op=33)
theorem pI (op:Int):(strOfNums [op]).toList.isEmpty=false:=by
 rw [ByteArray.toList_eq,strOfNums_data];rfl
theorem zlk (w:World) (op:Int):(convert 22 9 (.slice (some ⟨w.heap.size,0,none⟩) 1 1)).run Tryz.prog (w.alloc (.cells #[.int .u8 op] 5))= .ok (.string (strOfNums [op])) (w.alloc (.cells #[.int .u8 op] 5)):=
 run_convert_bytes_arg _ 22 5 Tryz.underlying22 Tryz.underlying5 w.heap.size 0 1 1 [op] rfl (λi hi=>by
  obtain rfl:i=0:=by omega
  exact za (yE w _) 0) 9 Tryz.underlying9
theorem zuf (w:World) (op:Int):Calls Tryz.prog 192 #[.int .u8 op] w λe w'=>(∃s:ByteArray,e= .returned (.string s)/\s.toList.isEmpty= !vD op)/\Below w.heap.size w w':=by
 have hcv:=zlk w op
 have HA:=qh ((Below.refl w.heap.size w).alloc (Nat.le_refl _) (.cells #[.int .u8 op] 5))
 go_enter Tryz.func192,Tryz.ntmps192
 go_wp2_with fail
 go_loopg [3] 6 (λgg s3 wr=>∃i:Nat,i<=6/\Hid (gg=6 - i)/\s3= .int .i64 i/\Hid ((0<i->op≠43)/\(1<i->op≠45)/\(2<i->op≠42)/\(3<i->op≠60)/\(4<i->op≠38)/\(5<i->op≠124))/\wr=w)
 case atStart=>exact⟨0,by omega,rfl,rfl,by constructor<;>simp,rfl⟩
 case round=>
 obtain⟨i,hi,HG,rfl,HO,hwr⟩:=hrel
 obtain rfl:w=wr:=hwr.symm
 have g0:(({ data:= #[43,45,42,60,38,124] } :ByteArray)[0]).toNat=43:=by rfl
 have g1:(({ data:= #[43,45,42,60,38,124] } :ByteArray)[1]).toNat=45:=by rfl
 have g2:(({ data:= #[43,45,42,60,38,124] } :ByteArray)[2]).toNat=42:=by rfl
 have g3:(({ data:= #[43,45,42,60,38,124] } :ByteArray)[3]).toNat=60:=by rfl
 have g4:(({ data:= #[43,45,42,60,38,124] } :ByteArray)[4]).toNat=38:=by rfl
 have g5:(({ data:= #[43,45,42,60,38,124] } :ByteArray)[5]).toNat=124:=by rfl
 have hc:i=0\/i=1\/i=2\/i=3\/i=4\/i=5\/i=6:=by omega
 rcases hc with rfl|rfl|rfl|rfl|rfl|rfl|rfl
 ·by_cases a:op=43
  ·subst a
   go_wp2_with fail
   go_ret
   exact⟨⟨_,by first|rfl|simp,by rw [pI];rfl⟩,HA.out⟩
  have a2:((43:Int)==op)=false:=by rw [beq_eq_false_iff_ne];omega
  have a3:((op:Int)==43)=false:=by rw [beq_eq_false_iff_ne];omega
  have a4:¬(43:Int)=op:=by omega
  clear hcv
  go_wp2_with fail
  go_roundg 5
  case measure=>rw [HG.out];omega
  case rel=>exact⟨1,by omega,rfl,by simp,by rw [Hid];have:=HO.out;omega,rfl⟩
 ·by_cases a:op=45
  ·subst a
   go_wp2_with fail
   go_ret
   exact⟨⟨_,by first|rfl|simp,by rw [pI];rfl⟩,HA.out⟩
  have a2:((45:Int)==op)=false:=by rw [beq_eq_false_iff_ne];omega
  have a3:((op:Int)==45)=false:=by rw [beq_eq_false_iff_ne];omega
  have a4:¬(45:Int)=op:=by omega
  clear hcv
  go_wp2_with fail
  go_roundg 4
  case measure=>rw [HG.out];omega
  case rel=>exact⟨2,by omega,rfl,by simp,by rw [Hid];have:=HO.out;omega,rfl⟩
 ·by_cases a:op=42
  ·subst a
   go_wp2_with fail
   go_ret
   exact⟨⟨_,by first|rfl|simp,by rw [pI];rfl⟩,HA.out⟩
  have a2:((42:Int)==op)=false:=by rw [beq_eq_false_iff_ne];omega
  have a3:((op:Int)==42)=false:=by rw [beq_eq_false_iff_ne];omega
  have a4:¬(42:Int)=op:=by omega
  clear hcv
  go_wp2_with fail
  go_roundg 3
  case measure=>rw [HG.out];omega
  case rel=>exact⟨3,by omega,rfl,by simp,by rw [Hid];have:=HO.out;omega,rfl⟩
 ·by_cases a:op=60
  ·subst a
   go_wp2_with fail
   go_ret
   exact⟨⟨_,by first|rfl|simp,by rw [pI];rfl⟩,HA.out⟩
  have a2:((60:Int)==op)=false:=by rw [beq_eq_false_iff_ne];omega
  have a3:((op:Int)==60)=false:=by rw [beq_eq_false_iff_ne];omega
  have a4:¬(60:Int)=op:=by omega
  clear hcv
  go_wp2_with fail
  go_roundg 2
  case measure=>rw [HG.out];omega
  case rel=>exact⟨4,by omega,rfl,by simp,by rw [Hid];have:=HO.out;omega,rfl⟩
 ·by_cases a:op=38
  ·subst a
   go_wp2_with fail
   go_ret
   exact⟨⟨_,by first|rfl|simp,by rw [pI];rfl⟩,HA.out⟩
  have a2:((38:Int)==op)=false:=by rw [beq_eq_false_iff_ne];omega
  have a3:((op:Int)==38)=false:=by rw [beq_eq_false_iff_ne];omega
  have a4:¬(38:Int)=op:=by omega
  clear hcv
  go_wp2_with fail
  go_roundg 1
  case measure=>rw [HG.out];omega
  case rel=>exact⟨5,by omega,rfl,by simp,by rw [Hid];have:=HO.out;omega,rfl⟩
 ·by_cases a:op=124
  ·subst a
   go_wp2_with fail
   go_ret
   exact⟨⟨_,by first|rfl|simp,by rw [pI];rfl⟩,HA.out⟩
  have a2:((124:Int)==op)=false:=by rw [beq_eq_false_iff_ne];omega
  have a3:((op:Int)==124)=false:=by rw [beq_eq_false_iff_ne];omega
  have a4:¬(124:Int)=op:=by omega
  clear hcv
  go_wp2_with fail
  go_roundg 0
  case measure=>rw [HG.out];omega
  case rel=>exact⟨6,by omega,rfl,by simp,by rw [Hid];have:=HO.out;omega,rfl⟩
 clear hcv
 by_cases a:op=61
 ·subst a
  go_wp2_with fail
  go_ret
  exact⟨⟨_,by first|rfl|simp,by decide+kernel⟩,Below.refl _ _⟩
 have a2:((op:Int)==61)=false:=by rw [beq_eq_false_iff_ne];omega
 by_cases b:op=33
 ·subst b
  go_wp2_with fail
  go_ret
  exact⟨⟨_,by first|rfl|simp,by decide+kernel⟩,Below.refl _ _⟩
 have b2:((op:Int)==33)=false:=by rw [beq_eq_false_iff_ne];omega
 have hs:vD op=false:=by unfold vD;rw [decide_eq_false_iff_not];have:=HO.out;omega
 have HS:=qh hs
 clear hs
 go_wp2_with fail
 go_ret
 exact⟨⟨ByteArray.empty,by first|rfl|simp,by rw [HS.out];decide+kernel⟩,Below.refl _ _⟩
def qC (x:zH):Bool:=decide (x.kind=0) && decide (x.n=0) && decide (x.op=0) && decide (x.kids.length=0)
theorem zll (w:World) (x:zH) (ka:Option Addr) (kc:Nat):Calls Tryz.prog 117 #[xQ x (.slice ka x.kids.length kc)] w λe w'=>e= .returned (.bool (qC x))/\Below w.heap.size w w':=by
 obtain⟨k,n,o,l⟩:=x
 obtain⟨m,hm⟩:∃m,m=l.length:=⟨_,rfl⟩
 obtain⟨r,hr⟩:∃r,r=qC (.mk k n o l):=⟨_,rfl⟩
 rw [<-hr]
 have hr2:r=(decide (k=0) && decide (n=0) && decide (o=0) && decide (m=0)):=by rw [hr,hm];rfl
 have HR:=qh hr2
 unfold xQ
 simp only [zH.kind,zH.n,zH.op,zH.kids]
 rw [<-hm]
 clear hr hr2 hm
 have HA:=qh ((Below.refl w.heap.size w).alloc (Nat.le_refl _) (.cells #[.int .i64 k, .int .i64 n, .int .u8 o, .slice ka m kc] 51))
 have xG:=qh (yE w (.cells #[.int .i64 k, .int .i64 n, .int .u8 o, .slice ka m kc] 51))
 go_enter Tryz.func117,Tryz.ntmps117
 go_upto_region 1 with fail
 generalize World.alloc w _=W at HA xG ⊢
 obtain⟨gx,hgx⟩:∃gx,gx=w.heap.size:=⟨_,rfl⟩
 rw [<-hgx] at xG ⊢
 clear hgx
 have c0:W.cell? ⟨gx,0,none⟩=some (.int .i64 k):=za xG.out 0
 have c1:W.cell? ⟨gx,1,none⟩=some (.int .i64 n):=za xG.out 1
 have c2:W.cell? ⟨gx,2,none⟩=some (.int .u8 o):=za xG.out 2
 have c3:W.cell? ⟨gx,3,none⟩=some (.slice ka m kc):=za xG.out 3
 by_cases a1:k=0
 rotate_left
 ·have b1:((k:Int)==0)=false:=by simp [a1]
  obtain rfl:r=false:=by rw [HR.out];simp [a1]
  clear HR a1
  go_wp2_with fail
  go_ret
  exact⟨by first|rfl|simp,HA.out⟩
 have b1:((k:Int)==0)=true:=by simp [a1]
 by_cases a2:n=0
 rotate_left
 ·have b2:((n:Int)==0)=false:=by simp [a2]
  obtain rfl:r=false:=by rw [HR.out];simp [a2]
  clear HR a1 a2
  go_wp2_with fail
  go_ret
  exact⟨by first|rfl|simp,HA.out⟩
 have b2:((n:Int)==0)=true:=by simp [a2]
 by_cases a3:o=0
 ·have b3:((o:Int)==0)=true:=by simp [a3]
  obtain rfl:r=decide (m=0):=by rw [HR.out];simp [a1,a2,a3]
  clear HR a1 a2 a3
  by_cases a4:m=0
  ·have b4:((m:Int)==0)=true:=by simp [a4]
   subst a4
   go_wp2_with fail
   go_ret
   exact⟨by first|rfl|simp,HA.out⟩
  have b4:((m:Int)==0)=false:=by simp [a4]
  go_wp2_with fail
  go_ret
  exact⟨by first|rfl|simp [a4],HA.out⟩
 have b3:((o:Int)==0)=false:=by simp [a3]
 obtain rfl:r=false:=by rw [HR.out];simp [a3]
 clear HR a1 a2 a3
 go_wp2_with fail
 go_ret
 exact⟨by first|rfl|simp,HA.out⟩
