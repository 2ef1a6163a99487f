/- Steps. -/
import Derived.Laws.EntriesVeiled
import Derived.Test.YtmijlmglnnbdjaaGreatDoorUtForm
set_option linter.all false
namespace Go.Proofs.YtmijlmglnnbdjaaGreatDoor
open Go.RowKit
set_option maxRecDepth 100000
set_option maxHeartbeats 16000000
theorem zeT:Tryz.prog.eqGuardType Tryz.prog.depth 35=false:=by kernel_rfl
theorem zth:Tryz.prog.stoodInHeld 35=false:=by kernel_rfl
theorem zoq:Tryz.prog.underlying 35=some (.struct (Tryz.prog.fieldsOf 35)):=by kernel_rfl
theorem zti (j i h g f d c b:Int) (w:World):(Op.equalIn 10000 35 (.agg #[I4 j,I4 i,I4 h,I4 g]) (.agg #[I4 f,I4 d,I4 c,I4 b])).run Tryz.prog w=
  .ok (decide ((⟨j,i,h,g⟩:zF)=⟨f,d,c,b⟩)) w:=by
 rw [run_equalIn_struct w 9999 35 _ _ zoq zth];simp [Op.eqFields,Program.fieldsOf,Tryz.underlying35,Tryz.underlying3,go_sem];by_cases h1:j=f<;>by_cases h2:i=d<;>by_cases h3:h=c<;>by_cases h4:g=b<;>simp [h1,h2,h3,h4]
theorem zex {l k j i g f d c:Int} (b:Bool) (h:decide ((⟨l,k,j,i⟩:zF)=⟨g,f,d,c⟩)=b) (w:World):(Op.equalIn 10000 35 (.agg #[I4 l,I4 k,I4 j,I4 i]) (.agg #[I4 g,I4 f,I4 d,I4 c])).run Tryz.prog w=
  .ok b w:=by rw [<-h];exact zti ..
theorem zkL (w:World) (sv:Value) (l:List zF) (s:j5 w sv l) (p:zF) (r:Int) (F:zcW l p r):
  Calls Tryz.prog 107 #[sv,p.val] w λe S=>e= .returned (I4 r)/\Below w.heap.size w S:=by
 obtain⟨a,cap,rfl,hn,O⟩:=s;obtain⟨x,v,u,t⟩:=p;unfold zF.val;go_enter Tryz.func107,Tryz.ntmps107
 go_wp2
 go_loopg [8] l.length (λg T wr=>Below w.heap.size w wr/\wr.heap[w.heap.size]? =some (.cells #[I4 x,I4 v,I4 u,I4 t] 35 (0,0))/\∃i:Nat,i<=l.length/\J2 (g=l.length - i)/\T=I4 i/\J2 (∀j,j<i->l.getD j ⟨0,0,0,0⟩≠⟨x,v,u,t⟩))
 case atStart=>exact⟨(Below.refl _ _).alloc (Nat.le_refl _) _,zQ _ _,0,Nat.zero_le _,rfl,rfl,λj N=>by omega⟩
 case round=>
 obtain⟨m,f,i,hi,P,rfl,M⟩:=hrel;have Q:wr.cell? ⟨w.heap.size,0,none⟩=some (I4 x):=ze f 0;have K:wr.cell? ⟨w.heap.size,1,none⟩=some (I4 v):=ze f 1;have Z:wr.cell? ⟨w.heap.size,2,none⟩=some (I4 u):=ze f 2;have Y:wr.cell? ⟨w.heap.size,3,none⟩=some (I4 t):=ze f 3;by_cases hlt:i<l.length
 rotate_left
 ·have E:r= -1:=by
   rcases F with⟨k,J,I,rfl,n⟩|⟨rfl,n⟩
   ·exact absurd I (M.o k (by omega))
   rfl
  subst E;clear f F;go_wp2
  go_ret;exact⟨rfl,m⟩
 obtain⟨b,d,rfl,y,c⟩:=O i hlt;obtain⟨q,G⟩:=qxE (l.getD i ⟨0,0,0,0⟩);rw [<-G] at c;have L:=qh G;clear G O;obtain⟨X,W,V,U⟩:=q;have D:=(m.cell (p:=⟨b,d+i*4+0,none⟩) y).trans (c 0 (by omega));have C:=(m.cell (p:=⟨b,d+i*4+1,none⟩) y).trans (c 1 (by omega));have B:=(m.cell (p:=⟨b,d+i*4+2,none⟩) y).trans (c 2 (by omega));have A:=(m.cell (p:=⟨b,d+i*4+3,none⟩) y).trans (c 3 (by omega));simp only [zF.cells,List.getElem?_cons_zero,List.getElem?_cons_succ,Nat.add_zero] at D C B A;have R:=qh f;clear c f;have hgd:=zeT;by_cases he:(⟨x,v,u,t⟩:zF)=⟨X,W,V,U⟩
 ·have H:=zex true (decide_eq_true he);have z:=qh he;clear he;go_wp2
  go_quiet (fail)
  go_wp2
  go_ret;refine⟨?_,m.trans ⟨rfl,rfl,rfl,Nat.le_refl _,λ_ _=>rfl⟩⟩
  rcases F with⟨k,J,I,rfl,n⟩|⟨rfl,n⟩
  ·have:k=i:=by
    rcases Nat.lt_trichotomy k i with h|h|h
    ·exact absurd I (M.o k h)
    ·exact h
    exact absurd (by rw [z.o,L.o]) (n i h)
   subst this;rfl
  exact absurd (by rw [z.o,L.o]) (n i hlt)
 have H:=zex false (decide_eq_false he);have z:=qh he;clear he;go_wp2
 go_quiet (fail)
 go_wp2
 go_roundg (gk - 1)
 case measure=>rw [P.o];omega
 case rel=>
 refine⟨m.trans ⟨rfl,rfl,rfl,Nat.le_refl _,λ_ _=>rfl⟩,R.o,i+1,by omega,by rw [P.o];simp [J2];omega,by go_num, ?_⟩
 intro j N;rcases Nat.lt_or_eq_of_le (Nat.le_of_lt_succ N) with J|rfl
 ·exact M.o j J
 rw [<-L.o];exact λe=>z.o e.symm
def sh (s:List UInt8) (f:FuncId):Value:= .agg #[.string ⟨s.toArray⟩, .func (.func f) #[] #[]]
def zgN:List (Int × Value):= [(1,sh [109,101,109] 176),(2,sh [114,101,103] 177),(3,sh [97,116] 178),(4,sh [101,109,112,116,121] 175),(6,sh [101,110,100,101,100] 175),(5,sh [98,97,100] 179)]
def zor (w:World) (e:Ending) (w':World):Prop:=∃b,e= .returned (.map (some b))/\qN w' b zgN/\w.heap.size<=b/\Below w.heap.size w w'
theorem zcA (w:World):Calls Tryz.prog 132 #[] w (zor w):=by
 have g:= @run_makeMap Tryz.prog;have d:qN (w.alloc (.map #[] 0)) w.heap.size [] :=⟨#[],0,zQ w _,rfl⟩;have b:Below w.heap.size w (w.alloc (.map #[] 0)):=(Below.refl _ _).alloc (Nat.le_refl _) _;go_enter Tryz.func132,Tryz.ntmps132
 go_wp2_with(refine qJ _ rfl _ _ _ 202 rfl 3 200 .i64 Tryz.underlying202 Tryz.underlying3 w.heap.size _ rfl _ rfl _ rfl d ?_;clear d;intro h d c f;replace b:=b.trans (c.below b.size (λk i=>by omega));clear c f);go_ret;exact⟨w.heap.size,rfl,d,Nat.le_refl _,b⟩
def bO (a:Nat) (L:List Nat) (w:World) (e:Ending) (w':World):Prop:=
 ∃sa c,e= .returned (.slice sa L.length L.length)/\(0<L.length->sa=some ⟨c,0,none⟩/\w.heap.size<=c/\w'.heap[c]? =some (.cells (L.map λj=>Value.pointer (some ⟨a,j,none⟩)).toArray 206 (0,0)))/\Below w.heap.size w w'
theorem zph (a:Nat) (w:World):Calls Tryz.prog 175 #[.pointer (some ⟨a,0,none⟩)] w (bO a [1] w):=by
 go_enter Tryz.func175,Tryz.ntmps175
 go_wp2
 go_ret;exact⟨_,w.heap.size,rfl,λ_=>⟨rfl,Nat.le_refl _,zQ w _⟩,(Below.refl _ _).alloc (Nat.le_refl _) _⟩
theorem z09 (a:Nat) (w:World):Calls Tryz.prog 176 #[.pointer (some ⟨a,0,none⟩)] w (bO a [2,3] w):=by
 go_enter Tryz.func176,Tryz.ntmps176
 go_wp2
 go_region
 all_goals
  go_wp2
  go_ret;exact⟨_,w.heap.size,rfl,λ_=>⟨rfl,Nat.le_refl _,zQ w _⟩,((Below.refl _ _).alloc (Nat.le_refl _) _).drew⟩
theorem z0A (a:Nat) (w:World):Calls Tryz.prog 177 #[.pointer (some ⟨a,0,none⟩)] w (bO a [1,2,3] w):=by
 go_enter Tryz.func177,Tryz.ntmps177
 go_wp2
 go_region
 all_goals
  go_wp2
  go_ret;exact⟨_,w.heap.size,rfl,λ_=>⟨rfl,Nat.le_refl _,zQ w _⟩,((Below.refl _ _).alloc (Nat.le_refl _) _).drew⟩
theorem z0B (a:Nat) (w:World):Calls Tryz.prog 178 #[.pointer (some ⟨a,0,none⟩)] w (bO a [1,3] w):=by
 go_enter Tryz.func178,Tryz.ntmps178
 go_wp2
 go_region
 all_goals
  go_wp2
  go_ret;exact⟨_,w.heap.size,rfl,λ_=>⟨rfl,Nat.le_refl _,zQ w _⟩,((Below.refl _ _).alloc (Nat.le_refl _) _).drew⟩
theorem z0C (a:Nat) (w:World):Calls Tryz.prog 179 #[.pointer (some ⟨a,0,none⟩)] w (bO a [] w):=by
 go_enter Tryz.func179,Tryz.ntmps179
 go_wp2
 go_ret;exact⟨_,0,rfl,λh=>absurd h (by simp),Below.refl _ _⟩
theorem gI (w:World):(zeroValue 200).run Tryz.prog w= .ok (.agg #[.string ByteArray.empty, .nilFunc]) w:=by kernel_rfl
theorem ztj (w:World) (p:zF) (s:ByteArray) (I:s=ByteArray.empty) (H:kF zgN p.kind=none):Calls Tryz.prog 100 #[p.val] w λe J=>e= .returned (.bool false)/\Below w.heap.size w J:=by
 obtain⟨f,q,n,m⟩:=p;simp only at H;unfold zF.val;have D:=qh H;clear H;go_enter Tryz.func100,Tryz.ntmps100
 go_wp2
 have A:∀j v,(#[Value.int .i64 f,I4 q,I4 n,I4 m])[j]? =some v->(w.alloc (.cells #[I4 f,I4 q,I4 n,I4 m] 35)).cell? ⟨w.heap.size,j,none⟩=some v:=λj v h=>(ze (zQ w _) j).trans h;have u:=qh A;clear A;have C:=qh I;clear I;go_wp2_with fail
 go_cut [3,4] (λM L x=>∃g:Nat,M= .pointer (some ⟨g,0,none⟩)/\L= .bool false/\x.cell? ⟨g,1,none⟩=some (.nilFunc)/\Below w.heap.size w x/\w.heap.size<x.heap.size/\g<x.heap.size/\
  (∀j v,(#[Value.int .i64 f,I4 q,I4 n,I4 m])[j]? =some v->x.cell? ⟨w.heap.size,j,none⟩=some v))
 case first=>
  go_region_with (first|(go_at_call 132;refine(zcA _).mono ?_;rintro e d ⟨b,rfl,z,N,c⟩;have i:K3 d w.heap.size 0 (I4 f):=(c.cell (p:=⟨w.heap.size,0,none⟩) (by simp [World.drew];try omega)).trans (by first|exact u.o 0 _ rfl|exact(Below.cell (((Below.refl _ _).alloc (Nat.le_refl _) _)) (p:=⟨w.heap.size,0,none⟩) (by simp)).trans (u.o 0 _ rfl));have y:∀o,(d.alloc o).cell? ⟨w.heap.size,0,none⟩=some (I4 f):=λo=>(Below.cell ((Below.refl d.heap.size d).alloc (Nat.le_refl _) o) (p:=⟨w.heap.size,0,none⟩) (World.block_lt_of_cell? _ _ i)).trans i;have l:w.heap.size<d.heap.size:=World.block_lt_of_cell? _ _ i;have G:(Instr.lookup 202 (.map (some b)) (I4 f) true).run Tryz.prog d= .ok (.tuple #[.agg #[.string s, .nilFunc], .bool false]) d:=(qm z Tryz.underlying202 Tryz.underlying3 (gI _) f true).trans (by rw [D.o,C.o];rfl);have E:∀o,(Instr.lookup 202 (.map (some b)) (I4 f) true).run Tryz.prog (d.alloc o)= .ok (.tuple #[.agg #[.string s, .nilFunc], .bool false]) (d.alloc o):=λo=>(qm (z.below ((Below.refl _ _).alloc (Nat.le_refl _) o)) Tryz.underlying202 Tryz.underlying3 (gI _) f true).trans (by rw [D.o,C.o];rfl);have S:K3 d (w.heap.size+1) 0 (.string ByteArray.empty):=(c.cell (p:=⟨w.heap.size+1,0,none⟩) (by simp [World.drew])).trans (ze (heap_alloc2_new w (.cells #[I4 f,I4 q,I4 n,I4 m] 35) (.cells #[.string ByteArray.empty, .nilFunc] 200)) 0);have R:d.cell? ⟨w.heap.size+1,1,none⟩=some .nilFunc:=(c.cell (p:=⟨w.heap.size+1,1,none⟩) (by simp [World.drew])).trans (ze (heap_alloc2_new w (.cells #[I4 f,I4 q,I4 n,I4 m] 35) (.cells #[.string ByteArray.empty, .nilFunc] 200)) 1);have P:∀j,d.frozen? ⟨w.heap.size+1,j,none⟩=false:=λj=>(c.frozen (p:=⟨w.heap.size+1,j,none⟩) (by simp [World.drew])).trans (zH (heap_alloc2_new w (.cells #[I4 f,I4 q,I4 n,I4 m] 35) (.cells #[.string ByteArray.empty, .nilFunc] 200)) j);have r:=qh (((((Below.refl w.heap.size w).alloc (Nat.le_refl _) (.cells #[I4 f,I4 q,I4 n,I4 m] 35)).alloc (by simp) (.cells #[.string ByteArray.empty, .nilFunc] 200)).drew).trans (c.mono (by simp [World.drew];omega)));have t:J2 (∀j v,(#[Value.int .i64 f,I4 q,I4 n,I4 m])[j]? =some v->K3 d w.heap.size j v):=λj v h=>(c.cell (p:=⟨w.heap.size,j,none⟩) (by simp [World.drew];omega)).trans ((Below.cell ((Below.refl _ _).alloc (Nat.le_refl _) _) (p:=⟨w.heap.size,j,none⟩) (by simp)).trans (u.o j v h));have B:J2 (d.heap[w.heap.size+1]? =some (.cells #[.string ByteArray.empty, .nilFunc] 200 (0,0))):=(c.block (w.heap.size+1) (by simp [World.drew])).trans (heap_alloc2_new w _ _))|(go_at_call 132;refine(zcA _).mono ?_;rintro e d ⟨b,rfl,z,N,c⟩;have i:K3 d w.heap.size 0 (I4 f):=(c.cell (p:=⟨w.heap.size,0,none⟩) (by simp [World.drew];try omega)).trans (by first|exact u.o 0 _ rfl|exact(Below.cell (((Below.refl _ _).alloc (Nat.le_refl _) _)) (p:=⟨w.heap.size,0,none⟩) (by simp)).trans (u.o 0 _ rfl));have y:∀o,(d.alloc o).cell? ⟨w.heap.size,0,none⟩=some (I4 f):=λo=>(Below.cell ((Below.refl d.heap.size d).alloc (Nat.le_refl _) o) (p:=⟨w.heap.size,0,none⟩) (World.block_lt_of_cell? _ _ i)).trans i;have l:w.heap.size<d.heap.size:=World.block_lt_of_cell? _ _ i;have G:(Instr.lookup 202 (.map (some b)) (I4 f) true).run Tryz.prog d= .ok (.tuple #[.agg #[.string s, .nilFunc], .bool false]) d:=(qm z Tryz.underlying202 Tryz.underlying3 (gI _) f true).trans (by rw [D.o,C.o];rfl);have E:∀o,(Instr.lookup 202 (.map (some b)) (I4 f) true).run Tryz.prog (d.alloc o)= .ok (.tuple #[.agg #[.string s, .nilFunc], .bool false]) (d.alloc o):=λo=>(qm (z.below ((Below.refl _ _).alloc (Nat.le_refl _) o)) Tryz.underlying202 Tryz.underlying3 (gI _) f true).trans (by rw [D.o,C.o];rfl);have r:=qh ((((Below.refl w.heap.size w).alloc (Nat.le_refl _) (.cells #[I4 f,I4 q,I4 n,I4 m] 35)).drew).trans (c.mono (by simp [World.drew])));have t:J2 (∀j v,(#[Value.int .i64 f,I4 q,I4 n,I4 m])[j]? =some v->K3 d w.heap.size j v):=λj v h=>(c.cell (p:=⟨w.heap.size,j,none⟩) (by simp [World.drew])).trans (u.o j v h)))
  all_goals
   go_wp2_with fail
   go_meet
   case rel=>
   first
    |exact⟨d.heap.size,rfl,rfl,ze (zQ d _) 1,r.o.alloc r.o.size _,by simp;omega,by simp,λj v h=>(Below.cell ((Below.refl _ _).alloc (Nat.le_refl _) _) (p:=⟨w.heap.size,j,none⟩) (by simpa using l)).trans (t.o j v h)⟩
    |exact⟨w.heap.size+1,rfl,rfl,ze (zu (zu B.o 0 _) 1 _) 1,(r.o.setCell (by simp) _).setCell (by simp) _,by simp [World.setCell];omega,by have:=zA B.o;simpa [World.setCell] using this,
      λj v h=>((Since.setCell (F:=λk=>k=w.heap.size+1) (Since.setCell (F:=λk=>k=w.heap.size+1) (Since.refl _ d) (p:=⟨w.heap.size+1,0,none⟩) (.inl rfl) _) (p:=⟨w.heap.size+1,1,none⟩) (.inl rfl) _).cell (p:=⟨w.heap.size,j,none⟩) l (by simp)).trans (t.o j v h)⟩
 case rest=>
 obtain⟨g,rfl,rfl,T,O, -⟩:=hcut;go_wp2
 go_ret;exact⟨rfl,O⟩
def zF.field (p:zF):Nat->Int
 |1=>p.thread
 |2=>p.place
 |3=>p.num
 |_=>p.kind
def zF.only (p:zF) (L:List Nat):zF:=⟨p.kind,if 1∈L then p.thread else 0,if 2∈L then p.place else 0,if 3∈L then p.num else 0⟩
def wS (L:List Nat) (p:zF):Bool:=L.all (λj=>decide (0<=p.field j/\p.field j<=999999)) && decide (p=p.only L)
theorem zqv (p:zF) (L:List Nat) (j:Nat) (b:j=1\/j=2\/j=3):((p.only L).cells).set j (I4 (p.field j))=(p.only (L++ [j])).cells:=by
 rcases b with rfl|rfl|rfl<;>simp [zF.only,zF.cells,zF.field]
theorem zos (p:zF) (j:Nat) (b:j=1\/j=2\/j=3):(p.cells)[j]? =some (I4 (p.field j)):=by
 rcases b with rfl|rfl|rfl<;>rfl
theorem zar (w:World) (p:zF) (s:ByteArray) (L:List Nat) (I:FuncId) (hL:∀j∈L,j=1\/j=2\/j=3) (hLl:L.length<=3) (N:kF zgN p.kind=some (.agg #[.string s, .func (.func I) #[] #[]]))
  (hfn:∀S W,(callFunc I S).run Tryz.prog W= .ok (.enter I S) W) (hpl:∀a W,Calls Tryz.prog I #[.pointer (some ⟨a,0,none⟩)] W (bO a L W)):
  Calls Tryz.prog 100 #[p.val] w λe w'=>e= .returned (.bool (wS L p))/\Below w.heap.size w w':=by
 have kP:=qh hpl;clear hpl;obtain⟨M,c⟩:=qxE (wS L p);rw [<-c];have zT:=qh c;have HLL:=qh hL;clear c hL;obtain⟨t,V⟩:=qxE p;rw [<-V] at zT;have Q:=qh V;clear V;obtain⟨l,A,z,y⟩:=p;simp only at N;unfold zF.val;have HK:=qh N;clear N;go_enter Tryz.func100,Tryz.ntmps100
 go_wp2
 have hbx:∀j v,(#[Value.int .i64 l,I4 A,I4 z,I4 y])[j]? =some v->(w.alloc (.cells #[I4 l,I4 A,I4 z,I4 y] 35)).cell? ⟨w.heap.size,j,none⟩=some v:=λj v h=>(ze (zQ w _) j).trans h;have yh:=qh hbx;clear hbx;go_wp2_with fail
 go_cut [3,4] (λs3 s4 wx=>∃g:Nat,s3= .pointer (some ⟨g,0,none⟩)/\s4= .bool true/\wx.cell? ⟨g,1,none⟩=some (.func (.func I) #[] #[])/\Below w.heap.size w wx/\w.heap.size<wx.heap.size/\g<wx.heap.size/\
  (∀j v,(#[Value.int .i64 l,I4 A,I4 z,I4 y])[j]? =some v->wx.cell? ⟨w.heap.size,j,none⟩=some v))
 case first=>
  go_region_with (first|(go_at_call 132;refine(zcA _).mono ?_;rintro e f ⟨b,rfl,hm,hb,d⟩;have m:K3 f w.heap.size 0 (I4 l):=(d.cell (p:=⟨w.heap.size,0,none⟩) (by simp [World.drew];try omega)).trans (by first|exact yh.o 0 _ rfl|exact(Below.cell (((Below.refl _ _).alloc (Nat.le_refl _) _)) (p:=⟨w.heap.size,0,none⟩) (by simp)).trans (yh.o 0 _ rfl));have hx0':∀o,(f.alloc o).cell? ⟨w.heap.size,0,none⟩=some (I4 l):=λo=>(Below.cell ((Below.refl f.heap.size f).alloc (Nat.le_refl _) o) (p:=⟨w.heap.size,0,none⟩) (World.block_lt_of_cell? _ _ m)).trans m;have G:w.heap.size<f.heap.size:=World.block_lt_of_cell? _ _ m;have hl1:(Instr.lookup 202 (.map (some b)) (I4 l) true).run Tryz.prog f= .ok (.tuple #[.agg #[.string s, .func (.func I) #[] #[]], .bool true]) f:=(qm hm Tryz.underlying202 Tryz.underlying3 (gI _) l true).trans (by rw [HK.o];rfl);have hl2:∀o,(Instr.lookup 202 (.map (some b)) (I4 l) true).run Tryz.prog (f.alloc o)= .ok (.tuple #[.agg #[.string s, .func (.func I) #[] #[]], .bool true]) (f.alloc o):=λo=>(qm (hm.below ((Below.refl _ _).alloc (Nat.le_refl _) o)) Tryz.underlying202 Tryz.underlying3 (gI _) l true).trans (by rw [HK.o];rfl);have h30:K3 f (w.heap.size+1) 0 (.string ByteArray.empty):=(d.cell (p:=⟨w.heap.size+1,0,none⟩) (by simp [World.drew])).trans (ze (heap_alloc2_new w (.cells #[I4 l,I4 A,I4 z,I4 y] 35) (.cells #[.string ByteArray.empty, .nilFunc] 200)) 0);have h31:f.cell? ⟨w.heap.size+1,1,none⟩=some .nilFunc:=(d.cell (p:=⟨w.heap.size+1,1,none⟩) (by simp [World.drew])).trans (ze (heap_alloc2_new w (.cells #[I4 l,I4 A,I4 z,I4 y] 35) (.cells #[.string ByteArray.empty, .nilFunc] 200)) 1);have h3f:∀j,f.frozen? ⟨w.heap.size+1,j,none⟩=false:=λj=>(d.frozen (p:=⟨w.heap.size+1,j,none⟩) (by simp [World.drew])).trans (zH (heap_alloc2_new w (.cells #[I4 l,I4 A,I4 z,I4 y] 35) (.cells #[.string ByteArray.empty, .nilFunc] 200)) j);have O:=qh (((((Below.refl w.heap.size w).alloc (Nat.le_refl _) (.cells #[I4 l,I4 A,I4 z,I4 y] 35)).alloc (by simp) (.cells #[.string ByteArray.empty, .nilFunc] 200)).drew).trans (d.mono (by simp [World.drew];omega)));have HP2:J2 (∀j v,(#[Value.int .i64 l,I4 A,I4 z,I4 y])[j]? =some v->K3 f w.heap.size j v):=λj v h=>(d.cell (p:=⟨w.heap.size,j,none⟩) (by simp [World.drew];omega)).trans ((Below.cell ((Below.refl _ _).alloc (Nat.le_refl _) _) (p:=⟨w.heap.size,j,none⟩) (by simp)).trans (yh.o j v h));have HT2:J2 (f.heap[w.heap.size+1]? =some (.cells #[.string ByteArray.empty, .nilFunc] 200 (0,0))):=(d.block (w.heap.size+1) (by simp [World.drew])).trans (heap_alloc2_new w _ _))|(go_at_call 132;refine(zcA _).mono ?_;rintro e f ⟨b,rfl,hm,hb,d⟩;have m:K3 f w.heap.size 0 (I4 l):=(d.cell (p:=⟨w.heap.size,0,none⟩) (by simp [World.drew];try omega)).trans (by first|exact yh.o 0 _ rfl|exact(Below.cell (((Below.refl _ _).alloc (Nat.le_refl _) _)) (p:=⟨w.heap.size,0,none⟩) (by simp)).trans (yh.o 0 _ rfl));have hx0':∀o,(f.alloc o).cell? ⟨w.heap.size,0,none⟩=some (I4 l):=λo=>(Below.cell ((Below.refl f.heap.size f).alloc (Nat.le_refl _) o) (p:=⟨w.heap.size,0,none⟩) (World.block_lt_of_cell? _ _ m)).trans m;have G:w.heap.size<f.heap.size:=World.block_lt_of_cell? _ _ m;have hl1:(Instr.lookup 202 (.map (some b)) (I4 l) true).run Tryz.prog f= .ok (.tuple #[.agg #[.string s, .func (.func I) #[] #[]], .bool true]) f:=(qm hm Tryz.underlying202 Tryz.underlying3 (gI _) l true).trans (by rw [HK.o];rfl);have hl2:∀o,(Instr.lookup 202 (.map (some b)) (I4 l) true).run Tryz.prog (f.alloc o)= .ok (.tuple #[.agg #[.string s, .func (.func I) #[] #[]], .bool true]) (f.alloc o):=λo=>(qm (hm.below ((Below.refl _ _).alloc (Nat.le_refl _) o)) Tryz.underlying202 Tryz.underlying3 (gI _) l true).trans (by rw [HK.o];rfl);have O:=qh ((((Below.refl w.heap.size w).alloc (Nat.le_refl _) (.cells #[I4 l,I4 A,I4 z,I4 y] 35)).drew).trans (d.mono (by simp [World.drew])));have HP2:J2 (∀j v,(#[Value.int .i64 l,I4 A,I4 z,I4 y])[j]? =some v->K3 f w.heap.size j v):=λj v h=>(d.cell (p:=⟨w.heap.size,j,none⟩) (by simp [World.drew])).trans (yh.o j v h)))
  all_goals
   go_wp2_with fail
   go_meet
   case rel=>
   first
    |exact⟨f.heap.size,rfl,rfl,ze (zQ f _) 1,O.o.alloc O.o.size _,by simp;omega,by simp,λj v h=>(Below.cell ((Below.refl _ _).alloc (Nat.le_refl _) _) (p:=⟨w.heap.size,j,none⟩) (by simpa using G)).trans (HP2.o j v h)⟩
    |exact⟨w.heap.size+1,rfl,rfl,ze (zu (zu HT2.o 0 _) 1 _) 1,(O.o.setCell (by simp) _).setCell (by simp) _,by simp [World.setCell];omega,by have:=zA HT2.o;simpa [World.setCell] using this,
      λj v h=>((Since.setCell (F:=λk=>k=w.heap.size+1) (Since.setCell (F:=λk=>k=w.heap.size+1) (Since.refl _ f) (p:=⟨w.heap.size+1,0,none⟩) (.inl rfl) _) (p:=⟨w.heap.size+1,1,none⟩) (.inl rfl) _).cell (p:=⟨w.heap.size,j,none⟩) G (by simp)).trans (HP2.o j v h)⟩
 case rest=>
 obtain⟨g,rfl,rfl,hg,hB,hwl,hgl,X⟩:=hcut;have hp0:=X 0 _ rfl;have HPB:=qh X;have zqw:∀o,(wc.alloc o).cell? ⟨g,1,none⟩=some (.func (.func I) #[] #[]):=λo=>(Below.cell ((Below.refl _ _).alloc (Nat.le_refl _) _) (p:=⟨g,1,none⟩) hgl).trans hg;clear X;have hz:=hB.size;have K:=qh hz;go_wp2_with fail
 refine(kP.o wc.heap.size _).mono ?_
 rintro e w3 ⟨sa1,c1,rfl,C,u⟩;have hg3:w3.cell? ⟨g,1,none⟩=some (.func (.func I) #[] #[]):=(u.cell (p:=⟨g,1,none⟩) (by simp;omega)).trans (zqw _)
 have kZ:=qh hg3;clear hg zqw hp0;go_wp2_with fail
 refine(kP.o w.heap.size _).mono ?_
 rintro e U ⟨sa2,c2,rfl,J,B⟩;have hB4:Below w.heap.size w U:=((hB.alloc hz _).trans (u.mono (by simp;omega))).trans (B.mono (by have:=u.size;simp at this;omega))
 have hz3:wc.heap.size+1<=w3.heap.size:=by have:=u.size;simpa using this
 have r:U.heap[wc.heap.size]? =some (.cells #[I4 l,I4 0,I4 0,I4 0] 35 (0,0)):=(B.block _ (by omega)).trans ((u.block _ (by simp)).trans (zQ wc _));have zzj:0<L.length->sa1=some ⟨c1,0,none⟩/\wc.heap.size+1<=c1/\U.heap[c1]? =some (.cells (L.map λj=>Value.pointer (some ⟨wc.heap.size,j,none⟩)).toArray 206 (0,0)):=λh=>⟨(C h).1,by simpa using (C h).2.1,(B.block _ (zA (C h).2.2)).trans (C h).2.2⟩
 have zzk:0<L.length->sa2=some ⟨c2,0,none⟩/\wc.heap.size+1<=c2/\U.heap[c2]? =some (.cells (L.map λj=>Value.pointer (some ⟨w.heap.size,j,none⟩)).toArray 206 (0,0)):=λh=>⟨(J h).1,by have:=(J h).2.1;omega,(J h).2.2⟩
 have z2N:∀j v,(#[Value.int .i64 l,I4 A,I4 z,I4 y])[j]? =some v->U.cell? ⟨w.heap.size,j,none⟩=some v:=λj v h=>
  (B.cell (p:=⟨w.heap.size,j,none⟩) (by simp;omega)).trans ((u.cell (p:=⟨w.heap.size,j,none⟩) (by simp;omega)).trans ((Below.cell ((Below.refl _ _).alloc (Nat.le_refl _) _) (p:=⟨w.heap.size,j,none⟩) (by simpa using hwl)).trans (HPB.o j v h)))
 have qZ:=qh hB4;have HQB:=qh r;have HC1:=qh zzj;have HC2:=qh zzk;have HP4:=qh z2N;have hw4:w3.heap.size<=U.heap.size:=B.size;clear hB4 r C zzj J zzk z2N u B hB;go_wp2
 go_loopg [28] L.length (λgg s28 wr=>∃i:Nat,i<=L.length/\J2 (gg=L.length - i)/\s28=I4 i/\J2 (Since (λk=>k=wc.heap.size) U wr)/\
  J2 (wr.heap[wc.heap.size]? =some (.cells (t.only (L.take i)).cells.toArray 35 (0,0)))/\J2 (∀j∈L.take i,0<=t.field j/\t.field j<=999999))
 case atStart=>exact⟨0,Nat.zero_le _,rfl,rfl,Since.refl _ _,by rw [Q.o];exact HQB.o,by intro j P;simp at P⟩
 case round=>
 obtain⟨i,hi,HG,rfl,T,HQ,HF⟩:=hrel;by_cases hlt:i<L.length
 rotate_left
 ·have hie:i=L.length:=by omega
  subst hie;rw [List.take_length] at HQ HF
  have R:L.all (λj=>decide (0<=t.field j/\t.field j<=999999))=true:=by
   rw [List.all_eq_true];intro j P;exact decide_eq_true (HF.o j P)
  have c:M=decide (t=t.only L):=by rw [zT.o,wS,R,Bool.true_and]
  have hx:∀j v,(#[Value.int .i64 l,I4 A,I4 z,I4 y])[j]? =some v->wr.cell? ⟨w.heap.size,j,none⟩=some v:=λj v h=>
   (T.o.cell (p:=⟨w.heap.size,j,none⟩) (by simp;omega) (by simp;omega)).trans (HP4.o j v h)
  have m:=hx 0 _ rfl;have hx1:=hx 1 _ rfl;have hx2:=hx 2 _ rfl;have hx3:=hx 3 _ rfl;obtain⟨q,hq⟩:=qxE (t.only L);rw [<-hq] at c;have r:=HQ.o;rw [<-hq] at r;rw [Q.o] at c;obtain⟨q1,q2,q3,q4⟩:=q;have hy0:wr.cell? ⟨wc.heap.size,0,none⟩=some (I4 q1):=ze r 0;have hy1:wr.cell? ⟨wc.heap.size,1,none⟩=some (I4 q2):=ze r 1;have hy2:wr.cell? ⟨wc.heap.size,2,none⟩=some (I4 q3):=ze r 2;have hy3:wr.cell? ⟨wc.heap.size,3,none⟩=some (I4 q4):=ze r 3;have hgd:=zeT;have heq:=zex M c.symm;have H:J2 (Below w.heap.size w wr):=qZ.o.trans (T.o.below qZ.o.size (λk N=>by subst N;exact K.o));clear hx r hq c R;go_wp2
  go_ret;exact⟨rfl,H.o⟩
 obtain⟨n,hn⟩:=qxE (L[i] );obtain⟨rfl,hc1,Z⟩:=HC1.o (by omega);obtain⟨rfl,hc2,Y⟩:=HC2.o (by omega);have E:=HLL.o L[i] (List.getElem_mem hlt);rw [<-hn] at E
 have hk1:wr.cell? ⟨c1,i,none⟩=some (.pointer (some ⟨wc.heap.size,n,none⟩)):=by
  rw [T.o.cell (p:=⟨c1,i,none⟩) (zA Z) (by simp;omega),ze Z i]
  simp [hlt,hn]
 have hk2:wr.cell? ⟨c2,i,none⟩=some (.pointer (some ⟨w.heap.size,n,none⟩)):=by
  rw [T.o.cell (p:=⟨c2,i,none⟩) (zA Y) (by simp;omega),ze Y i]
  simp [hlt,hn]
 have hk3:wr.cell? ⟨w.heap.size,n,none⟩=some (I4 (t.field n)):=by
  rw [T.o.cell (p:=⟨w.heap.size,n,none⟩) (by simp;omega) (by simp;omega)]
  refine HP4.o n _ ?_
  rw [Q.o];have h:=zos ⟨l,A,z,y⟩ n E;simpa [zF.cells] using h
 have hk4:∃v,wr.cell? ⟨wc.heap.size,n,none⟩=some v:=by
  rw [ze HQ.o n];rcases E with rfl|rfl|rfl<;>exact⟨_,rfl⟩
 obtain⟨v0,hk4⟩:=hk4;have hk5:wr.frozen? ⟨wc.heap.size,n,none⟩=false:=zH HQ.o n;obtain⟨x,hx⟩:=qxE (t.field n);rw [<-hx] at hk3;have HX:=qh hx;have HN:=qh hn;have HN3:=qh E;have hiL:(i:Int)<L.length:=by omega
 clear hx hn E hgl hwl hz hz3 hw4 hc1 hc2 Z Y;by_cases m:x<0
 ·have c:M=false:=by
   rw [zT.o,wS]
   have:L.all (λj=>decide (0<=t.field j/\t.field j<=999999))=false:=by
    rw [Bool.eq_false_iff];intro h;rw [List.all_eq_true] at h;have:=of_decide_eq_true (h L[i] (List.getElem_mem hlt))
    rw [<-HN.o, <-HX.o] at this;omega
   rw [this,Bool.false_and]
  have H:J2 (Below w.heap.size w wr):=qZ.o.trans (T.o.below qZ.o.size (λk N=>by subst N;exact K.o));subst c;go_wp2
  go_ret;exact⟨rfl,H.o⟩
 by_cases hx1:999999<x
 ·have c:M=false:=by
   rw [zT.o,wS]
   have:L.all (λj=>decide (0<=t.field j/\t.field j<=999999))=false:=by
    rw [Bool.eq_false_iff];intro h;rw [List.all_eq_true] at h;have:=of_decide_eq_true (h L[i] (List.getElem_mem hlt))
    rw [<-HN.o, <-HX.o] at this;omega
   rw [this,Bool.false_and]
  have H:J2 (Below w.heap.size w wr):=qZ.o.trans (T.o.below qZ.o.size (λk N=>by subst N;exact K.o));subst c;go_wp2
  go_ret;exact⟨rfl,H.o⟩
 have zFq:x<=999999:=by omega
 go_wp2_with fail
 refine wp_region_still_tail 8 (by kernel_rfl) (by kernel_rfl) ?_
 simp only [List.take_succ_cons,List.take_zero,List.drop_succ_cons,List.drop_zero];repeat still_step
 refine wpStill_nil ?_
 change wpList _ _ _ _ _ wr.drew;go_wp2
 go_roundg (L.length - (i+1))
 case measure=>rw [HG.o];omega
 case rel=>
 refine⟨i+1,by omega,rfl,by go_num,Since.drew _ (T.o.setCell (.inl rfl) _), ?_, ?_⟩
 ·have D:=zu HQ.o n (I4 x);rw [HX.o] at D
  have e:((t.only (L.take i)).cells.toArray.setIfInBounds n (I4 (t.field n)))=(t.only (L.take (i+1))).cells.toArray:=by
   rw [List.take_succ_eq_append_getElem hlt, <-HN.o, <-zqv t (L.take i) n HN3.o];simp
  rw [e] at D;rw [HX.o];exact D
 intro j P;rw [List.take_succ_eq_append_getElem hlt,List.mem_append,List.mem_singleton] at P;rcases P with P|rfl
 ·exact HF.o j P
 rw [<-HN.o, <-HX.o];omega
def placesOf (k:Int):Option (List Nat):=if k=1 then some [2,3] else if k=2 then some [1,2,3] else if k=3 then some [1,3] else if k=4 then some [1] else if k=5 then some [] else if k=6 then some [1] else none
def kU (p:zF):Bool:=match placesOf p.kind with|some L=>wS L p|none=>false
theorem zwr (w:World) (p:zF):Calls Tryz.prog 100 #[p.val] w λe f=>e= .returned (.bool (kU p))/\Below w.heap.size w f:=by
 have d:∀c,c=175\/c=176\/c=177\/c=178\/c=179->∀b W,(callFunc c b).run Tryz.prog W= .ok (.enter c b) W:=by
  rintro c (rfl|rfl|rfl|rfl|rfl) b W<;>go_simp
 unfold kU placesOf;by_cases h1:p.kind=1
 ·rw [if_pos h1];exact zar w p _ [2,3] _ (by simp) (by simp) (by rw [h1];rfl) (d _ (by simp)) z09
 rw [if_neg h1];by_cases h2:p.kind=2
 ·rw [if_pos h2];exact zar w p _ [1,2,3] _ (by simp) (by simp) (by rw [h2];rfl) (d _ (by simp)) z0A
 rw [if_neg h2];by_cases h3:p.kind=3
 ·rw [if_pos h3];exact zar w p _ [1,3] _ (by simp) (by simp) (by rw [h3];rfl) (d _ (by simp)) z0B
 rw [if_neg h3];by_cases h4:p.kind=4
 ·rw [if_pos h4];exact zar w p _ [1] _ (by simp) (by simp) (by rw [h4];rfl) (d _ (by simp)) zph
 rw [if_neg h4];by_cases h5:p.kind=5
 ·rw [if_pos h5];exact zar w p _ [] _ (by simp) (by simp) (by rw [h5];rfl) (d _ (by simp)) z0C
 rw [if_neg h5];by_cases h6:p.kind=6
 ·rw [if_pos h6];exact zar w p _ [1] _ (by simp) (by simp) (by rw [h6];rfl) (d _ (by simp)) zph
 rw [if_neg h6];refine ztj w p _ rfl ?_
 have m:¬1=p.kind:=λh=>h1 h.symm;have l:¬2=p.kind:=λh=>h2 h.symm;have k:¬3=p.kind:=λh=>h3 h.symm;have j:¬4=p.kind:=λh=>h4 h.symm;have i:¬5=p.kind:=λh=>h5 h.symm;have g:¬6=p.kind:=λh=>h6 h.symm;simp [zgN,kF,m,l,k,j,i,g]
theorem zgj (w:World) (sv:Value) (l:List zF) (d:j5 w sv l) (p:zF):
  Calls Tryz.prog 103 #[sv,p.val] w λe b=>e= .returned (.bool (decide (p∈l)))/\Below w.heap.size w b:=by
 obtain⟨r,c⟩:=zkj l p;rw [<-c.mem];have hx:∀W,Below w.heap.size w W->Calls Tryz.prog 107 #[sv,p.val] W λe b=>e= .returned (I4 r)/\Below W.heap.size W b:=λW g=>zkL W sv l (d.below g) p r c;have h:=qh hx;clear hx c;obtain⟨m,k,j,i⟩:=p;unfold zF.val at*;go_enter Tryz.func103,Tryz.ntmps103
 go_wp2_with(go_at_call 107;go_must(refine(h.o _ ((Below.refl _ _).alloc (Nat.le_refl _) _)).mono ?_);rintro e b ⟨rfl,f⟩);go_ret;exact⟨rfl,((Below.refl _ _).alloc (Nat.le_refl _) _).trans (f.mono (by simp))⟩
theorem zgk:(Tryz.prog.info? 35).map (λi=>(i.zero,i.size,i.bytes))=some (some (.agg #[I4 0,I4 0,I4 0,I4 0]),4,32):=by kernel_rfl
def zbI (w0 w:World) (sv:Value) (l:List zF):Prop:=w.ownsRow w0.heap.size 35 4 sv l.length (l.flatMap zF.cells)
def zqy (l:List zF) (w:World) (e:Ending) (w':World):Prop:=∃sv,e= .returned sv/\zbI w w' sv l/\Below w.heap.size w w'
theorem zkM {w:World} {B:Nat} {g:Nat} {n c:Nat} {l:List zF} (h:w.ownsRow B 35 4 (.slice (some ⟨g,0,none⟩) n c) n (l.flatMap zF.cells)) (k:n=l.length) (j:Nat) (d:j<l.length) (i:Nat) (f:i<4):
  w.cell? ⟨g,j*4+i,none⟩=((l.getD j default).cells)[i]? :=by
 have b:j*4+i<n*4:=by omega
 rw [h.cellAt _ b,zea zF.cells 4 (λ_=>rfl) l j i d f];simp [List.getD,List.getElem?_eq_getElem d]
theorem zcB (out ps:List zF) (j:Nat) (h:j<ps.length):(ps.take (j+1)).foldl wT out=wT ((ps.take j).foldl wT out) (ps.getD j default):=by
 rw [List.take_succ_eq_append_getElem h,List.foldl_append];simp [List.getD,List.getElem?_eq_getElem h]
theorem zkN (d:Nat):∀(w:World) (f:Form) (kv:Value),xE w d f kv->f.size<=1000000->
  Calls Tryz.prog 72 #[vI f kv] w (zqy f.props w):=by
 induction d with
 |zero=>exact λw f kv h=>h.elim
 |succ d ih=>
 intro w f kv h hsz;obtain⟨k,p,kids⟩:=f;obtain⟨a,cap,rfl,hn,m⟩:=h;obtain⟨p1,p2,p3,p4⟩:=p;simp only [Form.kids] at hn m ⊢;unfold vI;simp only [Form.kind,Form.prop];have hstart:∃out:List zF,J2 (out=if k=3 then [⟨p1,p2,p3,p4⟩] else []):=⟨_,rfl⟩;obtain⟨Y,HO⟩:=hstart;have hs0:Y.length<=1:=by rw [HO.o];split<;>simp
 have hsk:qE kids<=999999:=by simp only [Form.size] at hsz;omega
 clear hsz;by_cases h3:k=3
 rotate_left
 ·have hk3:(k==3)=false:=by simpa using h3
  go_enter Tryz.func72,Tryz.ntmps72
  go_wp2
  go_loopg [2,18] kids.length (λg s2 s18 wr=>∃(i:Nat) (out:List zF) (oa:Option Addr) (oc:Nat),i<=kids.length/\J2 (g=kids.length - i)/\s18=I4 i/\s2= .slice oa out.length oc/\
   wr.ownsRow w.heap.size 35 4 (.slice oa out.length oc) out.length (out.flatMap zF.cells)/\Below w.heap.size w wr/\J2 (out=jW (kids.take i) Y))
  case atStart=>exact⟨0, [],none,0,Nat.zero_le _,rfl,rfl,rfl,World.ownsRow_nil _ _ _ _,(Below.refl _ _).alloc (Nat.le_refl _) _,by simp [J2,HO.o,h3,jW]⟩
  case round=>
  obtain⟨i,out,oa,oc,hi,HG,rfl,rfl,n,J,HP⟩:=hrel;obtain⟨wo,rfl⟩:=qxE (wr:World);have hz:=J.size;by_cases hlt:i<kids.length
  rotate_left
  ·have hie:i=kids.length:=by omega
   subst hie;clear m ih;go_wp2
   go_ret;refine⟨_,rfl, ?_,J⟩
   have:out=Form.props (.mk k ⟨p1,p2,p3,p4⟩ kids):=by
    rw [HP.o,List.take_length,HO.o];simp [Form.props]
   rw [zbI, <-this];exact n
  obtain⟨b,t,kv,rfl,hb,c,hf⟩:=m i hlt;obtain⟨g,hg⟩:=qxE (kids.getD i default);rw [<-hg] at c hf;obtain⟨ga,gc,rfl,hgl⟩:=hf.slice;have hgs:g.size<=999999:=by rw [hg];have:=zm0 kids i hlt;omega
  have hol:out.length+g.size<=1000000:=by rw [HP.o,hg];have:=zcC (kids.take i) Y;have:=gJ kids i hlt;have:=zcD kids (i+1);omega
  have HQ:=qh hg;have B:=λW (hW:Below w.heap.size w W)=>ih W g _ (hf.below hW) (by omega);clear hg m ih hf;obtain⟨R,⟨q1,q2,q3,q4⟩,gl⟩:=g;simp only [Form.kids] at hgl;simp only [vI,Form.kind,Form.prop,Form.kids] at B;have zhS:=qh B;clear B;have A:=(J.cell (p:=⟨b,t+i*6+0,none⟩) hb).trans (c 0 (by omega));have z:=(J.cell (p:=⟨b,t+i*6+1,none⟩) hb).trans (c 1 (by omega));have y:=(J.cell (p:=⟨b,t+i*6+2,none⟩) hb).trans (c 2 (by omega));have x:=(J.cell (p:=⟨b,t+i*6+3,none⟩) hb).trans (c 3 (by omega));have hy4:=(J.cell (p:=⟨b,t+i*6+4,none⟩) hb).trans (c 4 (by omega))
  have hy5:=(J.cell (p:=⟨b,t+i*6+5,none⟩) hb).trans (c 5 (by omega));simp only [qQ,Form.kind,Form.prop,Form.kids,List.getElem?_cons_zero,List.getElem?_cons_succ,Nat.add_zero] at A z y x hy4 hy5;clear c;go_wp2_with fail
  refine(zhS.o _ (J.alloc hz _)).mono ?_
  obtain⟨ps,O⟩:=qxE (Form.props (.mk R ⟨q1,q2,q3,q4⟩ gl));have hpl:out.length+ps.length<=1000000:=by rw [O];have:=zd8 (.mk R ⟨q1,q2,q3,q4⟩ gl);omega
  rw [<-O];have HPS:=qh O;clear O zhS;rintro e w2 ⟨lv,rfl,D,Q⟩;obtain⟨la,lc,rfl,hl1,hl2⟩:=xS D;unfold maxLen at hl2;unfold zbI at D;have C:=xD (n.alloc (.cells #[I4 R,I4 q1,I4 q2,I4 q3,I4 q4, .slice ga gl.length gc] 38)) Q;have hB2:=(J.alloc hz (.cells #[I4 R,I4 q1,I4 q2,I4 q3,I4 q4, .slice ga gl.length gc] 38)).trans (Q.mono (by simp;omega))
  have X:∀k,(Value.slice oa out.length oc).ownBlock=some k->(Value.slice la ps.length lc).ownBlock≠some k:=by
   intro k m P;have h1:=(n.lt k m).2;have h2:=(D.lt k P).1;simp at h2;omega
  have HOWN:=qh C;have HB2:=qh hB2;clear A z y x hy4 hy5 Q n J C hB2;have HLV:=qh D;have zws:=qh X;clear D X;go_wp2
  go_loopg [2,25] ps.length (λg s2 s25 wx=>∃(j:Nat) (l:List zF) (V:Option Addr) (U:Nat),j<=ps.length/\J2 (g=ps.length - j)/\s25=I4 j/\s2= .slice V l.length U/\
   wx.ownsRow w.heap.size 35 4 (.slice V l.length U) l.length (l.flatMap zF.cells)/\wx.ownsRow w.heap.size 35 4 (.slice la ps.length lc) ps.length (ps.flatMap zF.cells)/\
   J2 (∀k,(Value.slice V l.length U).ownBlock=some k->(Value.slice la ps.length lc).ownBlock≠some k)/\Below w.heap.size w wx/\J2 (l=(ps.take j).foldl wT out))
  case atStart=>exact⟨0,out,oa,oc,Nat.zero_le _,rfl,rfl,rfl,HOWN.o,qX HLV.o (by simp;omega),zws.o,HB2.o,by simp [J2]⟩
  case round=>
  obtain⟨j,l,V,U,hj,HG2,rfl,rfl,N,E,Z,H,S⟩:=hrel;have hzx:=H.size;have hoj:l.length<=out.length+j:=by rw [S.o];have:=zgl (ps.take j) out;simp at this;omega
  by_cases hjl:j<ps.length
  rotate_left
  ·have hje:j=ps.length:=by omega
   subst hje;have v:=qh N;have yh:=qh H;clear N E H;go_wp2
   go_roundg (kids.length - (i+1))
   case measure=>rw [HG.o];omega
   case rel=>
   refine⟨i+1,l,V,U,by omega,rfl,by go_num,rfl,v.o,yh.o, ?_⟩
   rw [J2,zhp kids Y i hlt, <-HP.o, <-HQ.o, <-HPS.o,S.o,List.take_length]
  obtain⟨g,lc',he, -, -⟩:=gW E (by omega);have hla:la=some ⟨g,0,none⟩:=(Value.slice.inj he).1;subst hla;clear he;obtain⟨q,hq⟩:=qxE (ps.getD j default);have c:=zkM E rfl j hjl;rw [<-hq] at c;have HQ2:=qh hq;clear hq;obtain⟨r1,r2,r3,M⟩:=q;have A:=c 0 (by omega);have z:=c 1 (by omega);have y:=c 2 (by omega);have x:=c 3 (by omega);simp only [zF.cells,List.getElem?_cons_zero,List.getElem?_cons_succ,Nat.add_zero] at A z y x;clear c;have v:=qh N;have HLO:=qh E;have yh:=qh H;clear N E H;have hxm:=v.o.lt;obtain⟨xa2,xc2,hxe,zwt,zm3⟩:=xS v.o
  have hxc:l.length<=9223372036854775807:=by
   unfold maxLen at zm3;have:=(Value.slice.inj hxe).2.2;omega
  clear hxe zwt zm3 hxm;go_wp2_with fail
  refine(zgj _ _ l (j5.jB (v.o.alloc _)) ⟨r1,r2,r3,M⟩).mono ?_
  rintro e K ⟨rfl,G⟩;have F:∀i,K.cell? ⟨wr.heap.size,i,none⟩=(wr.alloc (.cells #[I4 r1,I4 r2,I4 r3,I4 M] 35)).cell? ⟨wr.heap.size,i,none⟩:=λi=>G.cell (p:=⟨wr.heap.size,i,none⟩) (by simp);have hx0:K.cell? ⟨wr.heap.size,0,none⟩=some (I4 r1):=(F 0).trans (ze (zQ _ _) 0);have hx1:K.cell? ⟨wr.heap.size,1,none⟩=some (I4 r2):=(F 1).trans (ze (zQ _ _) 1);have hx2:K.cell? ⟨wr.heap.size,2,none⟩=some (I4 r3):=(F 2).trans (ze (zQ _ _) 2);have hx3:K.cell? ⟨wr.heap.size,3,none⟩=some (I4 M):=(F 3).trans (ze (zQ _ _) 3);clear F A z y x;have L:=xD (v.o.alloc (.cells #[I4 r1,I4 r2,I4 r3,I4 M] 35)) G
  have r:=xD (HLO.o.alloc (.cells #[I4 r1,I4 r2,I4 r3,I4 M] 35)) G;have I:=(yh.o.alloc hzx (.cells #[I4 r1,I4 r2,I4 r3,I4 M] 35)).trans (G.mono (by simp;omega))
  have hz3:=I.size;clear G;by_cases hm:(⟨r1,r2,r3,M⟩:zF)∈l
  ·rw [decide_eq_true hm];have HO3:=qh L;have T:=qh r;have s:=qh I;clear L r I;have HM:=qh hm;clear hm;go_wp2
   go_roundg (ps.length - (j+1))
   case measure=>rw [HG2.o];omega
   case rel=>exact⟨j+1,l,V,U,by omega,rfl,by go_num,rfl,HO3.o,T.o,Z.o,s.o,by rw [J2,zcB out ps j hjl, <-S.o, <-HQ2.o,wT,if_pos HM.o]⟩
  rw [decide_eq_false hm];have T:=qh r;have s:=qh I;clear r I;have HM:=qh hm;clear hm;go_wp2_with(at_builtin;go_must(refine zO _ rfl _ _ 55 rfl 35 (.agg #[I4 0,I4 0,I4 0,I4 0]) 4 32 Tryz.underlying55 zgk rfl (by decide) w.heap.size (.slice V l.length U) l.length (l.flatMap zF.cells) rfl (L.alloc _) ⟨K.heap.size,0,none⟩ 1 1 [I4 r1,I4 r2,I4 r3,I4 M] rfl rfl (zck _ _ _) (by simp [Value.oneCell']) (by unfold maxLen;omega) (by omega) (by simp;omega) ?_);intro xa' xc' w4 zqz zwu zwv hS4 zq0 _);go_roundg (ps.length - (j+1))
  case measure=>rw [HG2.o];omega
  case rel=>
  have hS5:Since (λk=>(Value.slice V l.length U).ownBlock=some k) K w4:=((Since.refl _ _).alloc _).trans hS4 (λk m=> .inl m);refine⟨j+1,l++ [⟨r1,r2,r3,M⟩],xa',xc',by omega,rfl,by go_num,by simp,by simpa [zF.cells] using zqz,hS5.row T.o (λk m hx=>Z.o k hx m), ?_, ?_, ?_⟩
  ·intro k m P;have hk':=zq0 k (by simpa using m);rcases hk' with h1|h1
   ·exact Z.o k h1 P
   have:=(T.o.lt k P).2;simp at h1;omega
  ·exact s.o.trans (hS5.below hz3 (λk m=>(L.lt k m).1))
  rw [J2,zcB out ps j hjl, <-S.o, <-HQ2.o,wT,if_neg HM.o]
 subst h3;go_enter Tryz.func72,Tryz.ntmps72
 go_wp2_with(at_builtin;go_must(refine zO _ rfl _ _ 55 rfl 35 (.agg #[I4 0,I4 0,I4 0,I4 0]) 4 32 Tryz.underlying55 zgk rfl (by decide) w.heap.size (N7) 0 [] rfl (World.ownsRow_nil _ _ _ _) ⟨w.heap.size+1,0,none⟩ 1 1 [I4 p1,I4 p2,I4 p3,I4 p4] rfl rfl (λj u h=>by simpa using zck (w.alloc (.cells #[I4 3,I4 p1,I4 p2,I4 p3,I4 p4, .slice a kids.length cap] 38)) [I4 p1,I4 p2,I4 p3,I4 p4] 35 j u h) (by simp [Value.oneCell']) (by unfold maxLen;omega) (by omega) (by simp;omega) ?_);intro ya yc w1 hown1 zFr zFs hS1 zEN _;have hB1:Below w.heap.size w w1:=(((Below.refl _ _).alloc (Nat.le_refl _) _).alloc (by simp) _).trans (hS1.below (by simp;omega) (λk m=>by simp [Value.ownBlock] at m));have hxb:w1.heap[w.heap.size]? =some (.cells #[I4 3,I4 p1,I4 p2,I4 p3,I4 p4, .slice a kids.length cap] 38 (0,0)):=((hS1.block w.heap.size (by simp;omega) (λm=>by simp [Value.ownBlock] at m)).trans (Below.heap_alloc _ _ _ (by simp))).trans (zQ w _);have hx5:w1.cell? ⟨w.heap.size,5,none⟩=some (.slice a kids.length cap):=ze hxb 5;clear hxb)
 go_loopg [2,18] kids.length (λg s2 s18 wr=>∃(i:Nat) (out:List zF) (oa:Option Addr) (oc:Nat),i<=kids.length/\J2 (g=kids.length - i)/\s18=I4 i/\s2= .slice oa out.length oc/\
  wr.ownsRow w.heap.size 35 4 (.slice oa out.length oc) out.length (out.flatMap zF.cells)/\Below w.heap.size w wr/\J2 (out=jW (kids.take i) Y))
 case atStart=>exact⟨0, [⟨p1,p2,p3,p4⟩],ya,yc,Nat.zero_le _,rfl,rfl,rfl,by simpa [zF.cells] using hown1,hB1,by simp [J2,HO.o,jW]⟩
 case round=>
 obtain⟨i,out,oa,oc,hi,HG,rfl,rfl,n,J,HP⟩:=hrel;obtain⟨wo,rfl⟩:=qxE (wr:World);have hz:=J.size;by_cases hlt:i<kids.length
 rotate_left
 ·have hie:i=kids.length:=by omega
  subst hie;clear m ih;go_wp2
  go_ret;refine⟨_,rfl, ?_,J⟩
  have:out=Form.props (.mk 3 ⟨p1,p2,p3,p4⟩ kids):=by
   rw [HP.o,List.take_length,HO.o];simp [Form.props]
  rw [zbI, <-this];exact n
 obtain⟨b,t,kv,rfl,hb,c,hf⟩:=m i hlt;obtain⟨g,hg⟩:=qxE (kids.getD i default);rw [<-hg] at c hf;obtain⟨ga,gc,rfl,hgl⟩:=hf.slice;have hgs:g.size<=999999:=by rw [hg];have:=zm0 kids i hlt;omega
 have hol:out.length+g.size<=1000000:=by rw [HP.o,hg];have:=zcC (kids.take i) Y;have:=gJ kids i hlt;have:=zcD kids (i+1);omega
 have HQ:=qh hg;have B:=λW (hW:Below w.heap.size w W)=>ih W g _ (hf.below hW) (by omega);clear hg m ih hf;obtain⟨R,⟨q1,q2,q3,q4⟩,gl⟩:=g;simp only [Form.kids] at hgl;simp only [vI,Form.kind,Form.prop,Form.kids] at B;have zhS:=qh B;clear B;have A:=(J.cell (p:=⟨b,t+i*6+0,none⟩) hb).trans (c 0 (by omega));have z:=(J.cell (p:=⟨b,t+i*6+1,none⟩) hb).trans (c 1 (by omega));have y:=(J.cell (p:=⟨b,t+i*6+2,none⟩) hb).trans (c 2 (by omega));have x:=(J.cell (p:=⟨b,t+i*6+3,none⟩) hb).trans (c 3 (by omega));have hy4:=(J.cell (p:=⟨b,t+i*6+4,none⟩) hb).trans (c 4 (by omega))
 have hy5:=(J.cell (p:=⟨b,t+i*6+5,none⟩) hb).trans (c 5 (by omega));simp only [qQ,Form.kind,Form.prop,Form.kids,List.getElem?_cons_zero,List.getElem?_cons_succ,Nat.add_zero] at A z y x hy4 hy5;clear c;go_wp2_with fail
 refine(zhS.o _ (J.alloc hz _)).mono ?_
 obtain⟨ps,O⟩:=qxE (Form.props (.mk R ⟨q1,q2,q3,q4⟩ gl));have hpl:out.length+ps.length<=1000000:=by rw [O];have:=zd8 (.mk R ⟨q1,q2,q3,q4⟩ gl);omega
 rw [<-O];have HPS:=qh O;clear O zhS;rintro e w2 ⟨lv,rfl,D,Q⟩;obtain⟨la,lc,rfl,hl1,hl2⟩:=xS D;unfold maxLen at hl2;unfold zbI at D;have C:=xD (n.alloc (.cells #[I4 R,I4 q1,I4 q2,I4 q3,I4 q4, .slice ga gl.length gc] 38)) Q;have hB2:=(J.alloc hz (.cells #[I4 R,I4 q1,I4 q2,I4 q3,I4 q4, .slice ga gl.length gc] 38)).trans (Q.mono (by simp;omega))
 have X:∀k,(Value.slice oa out.length oc).ownBlock=some k->(Value.slice la ps.length lc).ownBlock≠some k:=by
  intro k m P;have h1:=(n.lt k m).2;have h2:=(D.lt k P).1;simp at h2;omega
 have HOWN:=qh C;have HB2:=qh hB2;clear A z y x hy4 hy5 Q n J C hB2;have HLV:=qh D;have zws:=qh X;clear D X;go_wp2
 go_loopg [2,25] ps.length (λg s2 s25 wx=>∃(j:Nat) (l:List zF) (V:Option Addr) (U:Nat),j<=ps.length/\J2 (g=ps.length - j)/\s25=I4 j/\s2= .slice V l.length U/\
  wx.ownsRow w.heap.size 35 4 (.slice V l.length U) l.length (l.flatMap zF.cells)/\wx.ownsRow w.heap.size 35 4 (.slice la ps.length lc) ps.length (ps.flatMap zF.cells)/\
  J2 (∀k,(Value.slice V l.length U).ownBlock=some k->(Value.slice la ps.length lc).ownBlock≠some k)/\Below w.heap.size w wx/\J2 (l=(ps.take j).foldl wT out))
 case atStart=>exact⟨0,out,oa,oc,Nat.zero_le _,rfl,rfl,rfl,HOWN.o,qX HLV.o (by simp;omega),zws.o,HB2.o,by simp [J2]⟩
 case round=>
 obtain⟨j,l,V,U,hj,HG2,rfl,rfl,N,E,Z,H,S⟩:=hrel;have hzx:=H.size;have hoj:l.length<=out.length+j:=by rw [S.o];have:=zgl (ps.take j) out;simp at this;omega
 by_cases hjl:j<ps.length
 rotate_left
 ·have hje:j=ps.length:=by omega
  subst hje;have v:=qh N;have yh:=qh H;clear N E H;go_wp2
  go_roundg (kids.length - (i+1))
  case measure=>rw [HG.o];omega
  case rel=>
  refine⟨i+1,l,V,U,by omega,rfl,by go_num,rfl,v.o,yh.o, ?_⟩
  rw [J2,zhp kids Y i hlt, <-HP.o, <-HQ.o, <-HPS.o,S.o,List.take_length]
 obtain⟨g,lc',he, -, -⟩:=gW E (by omega);have hla:la=some ⟨g,0,none⟩:=(Value.slice.inj he).1;subst hla;clear he;obtain⟨q,hq⟩:=qxE (ps.getD j default);have c:=zkM E rfl j hjl;rw [<-hq] at c;have HQ2:=qh hq;clear hq;obtain⟨r1,r2,r3,M⟩:=q;have A:=c 0 (by omega);have z:=c 1 (by omega);have y:=c 2 (by omega);have x:=c 3 (by omega);simp only [zF.cells,List.getElem?_cons_zero,List.getElem?_cons_succ,Nat.add_zero] at A z y x;clear c;have v:=qh N;have HLO:=qh E;have yh:=qh H;clear N E H;have hxm:=v.o.lt;obtain⟨xa2,xc2,hxe,zwt,zm3⟩:=xS v.o
 have hxc:l.length<=9223372036854775807:=by
  unfold maxLen at zm3;have:=(Value.slice.inj hxe).2.2;omega
 clear hxe zwt zm3 hxm;go_wp2_with fail
 refine(zgj _ _ l (j5.jB (v.o.alloc _)) ⟨r1,r2,r3,M⟩).mono ?_
 rintro e K ⟨rfl,G⟩;have F:∀i,K.cell? ⟨wr.heap.size,i,none⟩=(wr.alloc (.cells #[I4 r1,I4 r2,I4 r3,I4 M] 35)).cell? ⟨wr.heap.size,i,none⟩:=λi=>G.cell (p:=⟨wr.heap.size,i,none⟩) (by simp);have hx0:K.cell? ⟨wr.heap.size,0,none⟩=some (I4 r1):=(F 0).trans (ze (zQ _ _) 0);have hx1:K.cell? ⟨wr.heap.size,1,none⟩=some (I4 r2):=(F 1).trans (ze (zQ _ _) 1);have hx2:K.cell? ⟨wr.heap.size,2,none⟩=some (I4 r3):=(F 2).trans (ze (zQ _ _) 2);have hx3:K.cell? ⟨wr.heap.size,3,none⟩=some (I4 M):=(F 3).trans (ze (zQ _ _) 3);clear F A z y x;have L:=xD (v.o.alloc (.cells #[I4 r1,I4 r2,I4 r3,I4 M] 35)) G
 have r:=xD (HLO.o.alloc (.cells #[I4 r1,I4 r2,I4 r3,I4 M] 35)) G;have I:=(yh.o.alloc hzx (.cells #[I4 r1,I4 r2,I4 r3,I4 M] 35)).trans (G.mono (by simp;omega))
 have hz3:=I.size;clear G;by_cases hm:(⟨r1,r2,r3,M⟩:zF)∈l
 ·rw [decide_eq_true hm];have HO3:=qh L;have T:=qh r;have s:=qh I;clear L r I;have HM:=qh hm;clear hm;go_wp2
  go_roundg (ps.length - (j+1))
  case measure=>rw [HG2.o];omega
  case rel=>exact⟨j+1,l,V,U,by omega,rfl,by go_num,rfl,HO3.o,T.o,Z.o,s.o,by rw [J2,zcB out ps j hjl, <-S.o, <-HQ2.o,wT,if_pos HM.o]⟩
 rw [decide_eq_false hm];have T:=qh r;have s:=qh I;clear r I;have HM:=qh hm;clear hm;go_wp2_with(at_builtin;go_must(refine zO _ rfl _ _ 55 rfl 35 (.agg #[I4 0,I4 0,I4 0,I4 0]) 4 32 Tryz.underlying55 zgk rfl (by decide) w.heap.size (.slice V l.length U) l.length (l.flatMap zF.cells) rfl (L.alloc _) ⟨K.heap.size,0,none⟩ 1 1 [I4 r1,I4 r2,I4 r3,I4 M] rfl rfl (zck _ _ _) (by simp [Value.oneCell']) (by unfold maxLen;omega) (by omega) (by simp;omega) ?_);intro xa' xc' w4 zqz zwu zwv hS4 zq0 _);go_roundg (ps.length - (j+1))
 case measure=>rw [HG2.o];omega
 case rel=>
 have hS5:Since (λk=>(Value.slice V l.length U).ownBlock=some k) K w4:=((Since.refl _ _).alloc _).trans hS4 (λk m=> .inl m);refine⟨j+1,l++ [⟨r1,r2,r3,M⟩],xa',xc',by omega,rfl,by go_num,by simp,by simpa [zF.cells] using zqz,hS5.row T.o (λk m hx=>Z.o k hx m), ?_, ?_, ?_⟩
 ·intro k m P;have hk':=zq0 k (by simpa using m);rcases hk' with h1|h1
  ·exact Z.o k h1 P
  have:=(T.o.lt k P).2;simp at h1;omega
 ·exact s.o.trans (hS5.below hz3 (λk m=>(L.lt k m).1))
 rw [J2,zcB out ps j hjl, <-S.o, <-HQ2.o,wT,if_neg HM.o]
