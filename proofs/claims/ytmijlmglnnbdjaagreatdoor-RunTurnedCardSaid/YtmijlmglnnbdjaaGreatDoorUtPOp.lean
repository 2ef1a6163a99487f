/- Steps. -/
import Derived.Test.YtmijlmglnnbdjaaGreatDoorUtPFits
set_option linter.all false
namespace Go.Proofs.YtmijlmglnnbdjaaGreatDoor
open Go.RowKit
set_option maxRecDepth 100000
set_option maxHeartbeats 16000000
theorem z1a (w:World) (a b:Int):Calls Tryz.prog 234 #[I4 a,I4 b] w λe w'=>e= .returned (I4 (evalOp 43 a b))/\Below w.heap.size w w':=by
 have c:evalOp 43 a b=wrap64 (a+b):=by simp [evalOp]
 rw [c];go_enter Tryz.func234,Tryz.ntmps234
 go_wp2_with fail
 go_ret;exact⟨by first|rfl|simp,Below.refl _ _⟩
theorem z1b (w:World) (a b:Int):Calls Tryz.prog 235 #[I4 a,I4 b] w λe w'=>e= .returned (I4 (evalOp 45 a b))/\Below w.heap.size w w':=by
 have c:evalOp 45 a b=wrap64 (a - b):=by simp [evalOp]
 rw [c];go_enter Tryz.func235,Tryz.ntmps235
 go_wp2_with fail
 go_ret;exact⟨by first|rfl|simp,Below.refl _ _⟩
theorem z1c (w:World) (a b:Int):Calls Tryz.prog 236 #[I4 a,I4 b] w λe w'=>e= .returned (I4 (evalOp 42 a b))/\Below w.heap.size w w':=by
 have c:evalOp 42 a b=wrap64 (a*b):=by simp [evalOp]
 rw [c];go_enter Tryz.func236,Tryz.ntmps236
 go_wp2_with fail
 go_ret;exact⟨by first|rfl|simp,Below.refl _ _⟩
theorem z1e (w:World) (a b:Int):Calls Tryz.prog 237 #[I4 a,I4 b] w λe w'=>e= .returned (I4 (evalOp 38 a b))/\Below w.heap.size w w':=by
 have c:evalOp 38 a b=bits .and .i64 a b:=by simp [evalOp]
 rw [c];go_enter Tryz.func237,Tryz.ntmps237
 go_wp2_with fail
 go_ret;exact⟨by first|rfl|simp,Below.refl _ _⟩
theorem z1f (w:World) (a b:Int):Calls Tryz.prog 238 #[I4 a,I4 b] w λe w'=>e= .returned (I4 (evalOp 124 a b))/\Below w.heap.size w w':=by
 have c:evalOp 124 a b=bits .or .i64 a b:=by simp [evalOp]
 rw [c];go_enter Tryz.func238,Tryz.ntmps238
 go_wp2_with fail
 go_ret;exact⟨by first|rfl|simp,Below.refl _ _⟩
theorem z1g (w:World) (a b:Int):Calls Tryz.prog 240 #[I4 a,I4 b] w λe w'=>e= .returned (.bool (decide (a<b)))/\w'=w:=by
 go_enter Tryz.func240,Tryz.ntmps240
 go_wp2_with fail
 go_ret;exact⟨congrArg (λq=>Ending.returned (.bool q)) (by first|rfl|(rw [Bool.eq_iff_iff];simp)),rfl⟩
theorem z1h (w:World) (a b:Int):Calls Tryz.prog 241 #[I4 a,I4 b] w λe w'=>e= .returned (.bool (decide (a=b)))/\w'=w:=by
 go_enter Tryz.func241,Tryz.ntmps241
 go_wp2_with fail
 go_ret;exact⟨congrArg (λq=>Ending.returned (.bool q)) (by first|rfl|(rw [Bool.eq_iff_iff];simp)),rfl⟩
theorem z1i (w:World) (a b:Int):Calls Tryz.prog 242 #[I4 a,I4 b] w λe w'=>e= .returned (.bool (!decide (a=b)))/\w'=w:=by
 go_enter Tryz.func242,Tryz.ntmps242
 go_wp2_with fail
 go_ret;exact⟨congrArg (λq=>Ending.returned (.bool q)) (by first|rfl|(rw [Bool.eq_iff_iff];simp)),rfl⟩
def z7o (w:World) (op:Int) (v:Value):Prop:=∃f cap,v= .func (.func f) #[] cap/\(∀args W,(callFunc f args).run Tryz.prog W= .ok (.enter f args) W)/\
 ∀W,Below w.heap.size w W->∀a b:Int,Calls Tryz.prog f (#[I4 a,I4 b] ++cap) W λe W'=>e= .returned (I4 (evalOp op a b))/\Below W.heap.size W W'
theorem zf4 (w:World) (f:FuncId) (g:Nat) (l:w.cell? ⟨g,0,none⟩=some (.func (.func f) #[] #[])) (n:∀c W,(callFunc f c).run Tryz.prog W= .ok (.enter f c) W) (op a b:Int) (r:Bool) (h:evalOp op a b=if r then 1 else 0)
  (i:Calls Tryz.prog f #[I4 a,I4 b] w λe w'=>e= .returned (.bool r)/\w'=w):
  Calls Tryz.prog 245 #[I4 a,I4 b, .pointer (some ⟨g,0,none⟩)] w λe w'=>e= .returned (I4 (evalOp op a b))/\Below w.heap.size w w':=by
 have j:=qh i;have d:=qh h;clear i h;cases r with
 |true=>
  rw [d.o];clear d;go_enter Tryz.func245,Tryz.ntmps245
  go_wp2_with fail
  refine j.o.mono ?_
  rintro e k ⟨rfl,rfl⟩;go_wp2_with fail
  go_ret;exact⟨by first|rfl|simp,Below.refl _ _⟩
 |false=>
 rw [d.o];clear d;go_enter Tryz.func245,Tryz.ntmps245
 go_wp2_with fail
 refine j.o.mono ?_
 rintro e k ⟨rfl,rfl⟩;go_wp2_with fail
 go_ret;exact⟨by first|rfl|simp,Below.refl _ _⟩
theorem zg7 (w:World) (f:FuncId):Calls Tryz.prog 239 #[.func (.func f) #[] #[]] w λe w'=>e= .returned (.func (.func 245) #[] #[.pointer (some ⟨w.heap.size,0,none⟩)])/\w'.cell? ⟨w.heap.size,0,none⟩=some (.func (.func f) #[] #[])/\w.heap.size<w'.heap.size/\Below w.heap.size w w':=by
 have c:=qh ((Below.refl w.heap.size w).alloc (Nat.le_refl _) (.cells #[.func (.func f) #[] #[]] 238));have b:=qh (zQ w (.cells #[.func (.func f) #[] #[]] 238));go_enter Tryz.func239,Tryz.ntmps239
 go_wp2_with fail
 go_ret;exact⟨rfl,ze b.o 0,by simp,c.o⟩
theorem znC (w:World) (op:Int):Calls Tryz.prog 231 #[.int .u8 op] w λe w'=>(∃v,e= .returned v/\(z7o w' op v\/(v= .nilFunc/\∀a b,evalOp op a b=0)))/\Below w.heap.size w w':=by
 by_cases o0:op=43
 ·subst o0;go_enter Tryz.func231,Tryz.ntmps231
  go_wp2_with fail
  go_ret;exact⟨⟨_,rfl, .inl ⟨234, #[],rfl,λ_ _=>rfl,λW _ a b=>z1a W a b⟩⟩,Below.refl _ _⟩
 skip
 by_cases o1:op=45
 ·subst o1;clear o0;go_enter Tryz.func231,Tryz.ntmps231
  go_wp2_with fail
  go_ret;exact⟨⟨_,rfl, .inl ⟨235, #[],rfl,λ_ _=>rfl,λW _ a b=>z1b W a b⟩⟩,Below.refl _ _⟩
 skip
 by_cases o2:op=42
 ·subst o2;clear o0 o1;go_enter Tryz.func231,Tryz.ntmps231
  go_wp2_with fail
  go_ret;exact⟨⟨_,rfl, .inl ⟨236, #[],rfl,λ_ _=>rfl,λW _ a b=>z1c W a b⟩⟩,Below.refl _ _⟩
 skip
 by_cases o3:op=38
 ·subst o3;clear o0 o1 o2;go_enter Tryz.func231,Tryz.ntmps231
  go_wp2_with fail
  go_ret;exact⟨⟨_,rfl, .inl ⟨237, #[],rfl,λ_ _=>rfl,λW _ a b=>z1e W a b⟩⟩,Below.refl _ _⟩
 skip
 by_cases o4:op=124
 ·subst o4;clear o0 o1 o2 o3;go_enter Tryz.func231,Tryz.ntmps231
  go_wp2_with fail
  go_ret;exact⟨⟨_,rfl, .inl ⟨238, #[],rfl,λ_ _=>rfl,λW _ a b=>z1f W a b⟩⟩,Below.refl _ _⟩
 skip
 by_cases o5:op=60
 ·subst o5;clear o0 o1 o2 o3 o4;go_enter Tryz.func231,Tryz.ntmps231
  go_wp2_with fail
  refine(zg7 w 240).mono ?_
  rintro e k ⟨rfl,d,c,f⟩;have i:=qh d;have j:=qh f;have h:=qh c;clear d f c;go_wp2_with fail
  go_ret;exact⟨⟨_,rfl, .inl ⟨245, #[.pointer (some ⟨w.heap.size,0,none⟩)],rfl,λ_ _=>rfl,λW g a b=>zf4 W 240 w.heap.size (zl g _ _ i.o) (λ_ _=>rfl) 60 a b (decide (a<b)) (by simp [evalOp]) (z1g W a b)⟩⟩,j.o⟩
 skip
 by_cases o6:op=61
 ·subst o6;clear o0 o1 o2 o3 o4 o5;go_enter Tryz.func231,Tryz.ntmps231
  go_wp2_with fail
  refine(zg7 w 241).mono ?_
  rintro e k ⟨rfl,d,c,f⟩;have i:=qh d;have j:=qh f;have h:=qh c;clear d f c;go_wp2_with fail
  go_ret;exact⟨⟨_,rfl, .inl ⟨245, #[.pointer (some ⟨w.heap.size,0,none⟩)],rfl,λ_ _=>rfl,λW g a b=>zf4 W 241 w.heap.size (zl g _ _ i.o) (λ_ _=>rfl) 61 a b (decide (a=b)) (by simp [evalOp]) (z1h W a b)⟩⟩,j.o⟩
 skip
 by_cases o7:op=33
 ·subst o7;clear o0 o1 o2 o3 o4 o5 o6;go_enter Tryz.func231,Tryz.ntmps231
  go_wp2_with fail
  refine(zg7 w 242).mono ?_
  rintro e k ⟨rfl,d,c,f⟩;have i:=qh d;have j:=qh f;have h:=qh c;clear d f c;go_wp2_with fail
  go_ret;exact⟨⟨_,rfl, .inl ⟨245, #[.pointer (some ⟨w.heap.size,0,none⟩)],rfl,λ_ _=>rfl,λW g a b=>zf4 W 242 w.heap.size (zl g _ _ i.o) (λ_ _=>rfl) 33 a b (!decide (a=b)) (by simp [evalOp]) (z1i W a b)⟩⟩,j.o⟩
 have l:∀a b,evalOp op a b=0:=λa b=>by simp [evalOp,o0,o1,o2,o3,o4,o5,o6,o7]
 have n0:((op:Int)==43)=false:=by simp [o0]
 have y:((op:Int)==45)=false:=by simp [o1]
 have x:((op:Int)==42)=false:=by simp [o2]
 have u:((op:Int)==38)=false:=by simp [o3]
 have t:((op:Int)==124)=false:=by simp [o4]
 have r:((op:Int)==60)=false:=by simp [o5]
 have q:((op:Int)==61)=false:=by simp [o6]
 have p:((op:Int)==33)=false:=by simp [o7]
 have n:=qh l;clear l o0 o1 o2 o3 o4 o5 o6 o7;go_enter Tryz.func231,Tryz.ntmps231
 go_wp2_with fail
 go_ret;exact⟨⟨_,rfl, .inr ⟨rfl,n.o⟩⟩,Below.refl _ _⟩
theorem zll:Tryz.prog.underlying 279=some (.func #[3,3] #[3] false):=by kernel_rfl
theorem znD (w:World) (d:Nat) (f:Fn) (a c:Array Value):(Op.equalIn (d+1) 279 (.func f a c) .nilFunc).run Tryz.prog w= .ok false w:=by simp [Op.equalIn,run_underlying zll]
theorem zjJ (w:World) (d:Nat):(Op.equalIn (d+1) 279 .nilFunc .nilFunc).run Tryz.prog w= .ok true w:=by simp [Op.equalIn,run_underlying zll]
theorem zxY (w:World) (f:Fn) (a c:Array Value):(binOp .eql 279 (.func f a c) .nilFunc).run Tryz.prog w= .ok (.bool false) w:=by
 have h:(Op.equal 279 (.func f a c) .nilFunc).run Tryz.prog w= .ok false w:=znD w 9999 f a c;simp only [binOp];simp [h]
theorem znE (w:World):(binOp .eql 279 .nilFunc .nilFunc).run Tryz.prog w= .ok (.bool true) w:=by
 have h:(Op.equal 279 .nilFunc .nilFunc).run Tryz.prog w= .ok true w:=zjJ w 9999;simp only [binOp];simp [h]
theorem zuL (n dom:Int) (h:1<=dom):(if n.tmod dom<0 then n.tmod dom+dom else n.tmod dom)=n % dom:=by
 rw [<-kL n dom h];have c:=Int.tmod_lt_of_pos n (show 0<dom by omega);have b:=Int.lt_tmod_of_pos n (show 0<dom by omega);generalize n.tmod dom=q at c b ⊢;rw [Int.tmod_eq_emod_of_nonneg (by omega)];split
 ·rw [Int.emod_eq_of_lt (by omega) (by omega)]
 rw [Int.add_emod_right,Int.emod_eq_of_lt (by omega) (by omega)]
theorem zuM (r0 r1 r2 r3 dom:Int) (hd1:1<=dom) (hd2:dom<=1000) (d:Nat):∀(w:World) (x:zR) (kv:Value),zJ d w x kv->
  Calls Tryz.prog 223 #[qD x kv, .agg #[I4 r0,I4 r1,I4 r2,I4 r3],I4 dom] w λe w'=>e= .returned (I4 (yF [r0,r1,r2,r3] dom d x))/\Below w.heap.size w w':=by
 induction d with
 |zero=>intro w x kv h;exact h.elim
 |succ d ih=>
 intro w x kv h;obtain⟨ka,kc,rfl,hkl⟩:=h.slice;obtain⟨k,z⟩:=qxE x.kind;obtain⟨n,hn⟩:=qxE x.n;obtain⟨o,ho⟩:=qxE x.op;obtain⟨m,hm⟩:=qxE x.kids.length;obtain⟨r,hr⟩:=qxE (yF [r0,r1,r2,r3] dom (d+1) x)
 have hr2:r=(if k=1 then n else if k=2 then(if 0<=n/\n<4 then [r0,r1,r2,r3].getD n.toNat 0 else 0)
  else if k=3/\m=2 then evalOp o (yF [r0,r1,r2,r3] dom d (x.kids.getD 0 default)) (yF [r0,r1,r2,r3] dom d (x.kids.getD 1 default)) % dom else 0):=by rw [hr,z,hn,ho,hm];rfl
 rw [<-hr];have D:=qh hr2;have HM:=qh hm;rw [<-hm] at h hkl;have HE:=qh h;have Q:=qh ih;unfold qD;rw [<-z, <-hn, <-ho, <-hm];clear z hn ho hm hr hr2 h ih;have p:=qh (xK w (.cells #[I4 k,I4 n, .int .u8 o, .slice ka m kc] 104) (.cells #[I4 r0,I4 r1,I4 r2,I4 r3] 72));have H1:=qh (xA w (.cells #[I4 k,I4 n, .int .u8 o, .slice ka m kc] 104) (.cells #[I4 r0,I4 r1,I4 r2,I4 r3] 72));have a:=qh (znw w (.cells #[I4 k,I4 n, .int .u8 o, .slice ka m kc] 104) r0 r1 r2 r3);go_enter Tryz.func223,Tryz.ntmps223
 go_upto_region 1 with fail
 generalize World.alloc (World.alloc w _) _=W at p H1 a ⊢;obtain⟨y,hgx⟩:=qxE w.heap.size;rw [<-hgx] at H1 a ⊢;clear hgx;have c0:W.cell? ⟨y,0,none⟩=some (I4 k):=ze H1.o 0;have c1:W.cell? ⟨y,1,none⟩=some (I4 n):=ze H1.o 1;have c2:W.cell? ⟨y,2,none⟩=some (.int .u8 o):=ze H1.o 2;have c3:W.cell? ⟨y,3,none⟩=some (.slice ka m kc):=ze H1.o 3;by_cases k1:k=1
 ·obtain rfl:r=n:=by rw [D.o,if_pos k1]
  clear D;subst k1;go_wp2_with fail
  go_ret;exact⟨by first|rfl|simp,p.o⟩
 have kb:((k:Int)==1)=false:=by simp [k1]
 by_cases k2:k=2
 ·by_cases a1:0<=n
  rotate_left
  ·obtain rfl:r=0:=by rw [D.o,if_neg k1,if_pos k2,if_neg (λh=>a1 h.1)]
   subst k2;clear D k1;go_wp2_with fail
   go_ret;exact⟨by first|rfl|simp,p.o⟩
  by_cases a2:n<4
  ·obtain⟨q,rfl⟩:∃q:Nat,n=(q:Int):=⟨n.toNat,by omega⟩;have hq4:q<4:=by omega
   have qC:=a.o q hq4;have hr3:r= [r0,r1,r2,r3].getD q 0:=by rw [D.o,if_neg k1,if_pos k2,if_pos ⟨a1,a2⟩];simp
   rw [<-hr3] at qC;subst k2;clear D k1 hr3;go_wp2_with fail
   go_ret;exact⟨by first|rfl|simp,p.o⟩
  obtain rfl:r=0:=by rw [D.o,if_neg k1,if_pos k2,if_neg (λh=>a2 h.2)]
  subst k2;clear D k1;go_wp2_with fail
  go_ret;exact⟨by first|rfl|simp,p.o⟩
 have kb2:((k:Int)==2)=false:=by simp [k2]
 have A:J2 (r=if k=3/\m=2 then evalOp o (yF [r0,r1,r2,r3] dom d (x.kids.getD 0 default)) (yF [r0,r1,r2,r3] dom d (x.kids.getD 1 default)) % dom else 0):=by rw [J2,D.o,if_neg k1,if_neg k2]
 clear D k1 k2;by_cases k3:k=3
 rotate_left
 ·have kb3:((k:Int) !=3)=true:=by simp [k3]
  have kb4:((k:Int)==3)=false:=by simp [k3]
  obtain rfl:r=0:=by rw [A.o,if_neg (λh=>k3 h.1)]
  clear A k3;go_wp2_with fail
  go_ret;exact⟨by first|rfl|simp,p.o⟩
 by_cases m2:m=2
 rotate_left
 ·obtain rfl:r=0:=by rw [A.o,if_neg (λh=>m2 h.2)]
  have b2:((m:Int) !=2)=true:=by rw [bne_iff_ne];omega
  have b3:(m==2)=false:=by simp [m2]
  clear A;subst k3;go_wp2_with fail
  go_ret;exact⟨by first|rfl|simp,p.o⟩
 have u:J2 (r=evalOp o (yF [r0,r1,r2,r3] dom d (x.kids.getD 0 default)) (yF [r0,r1,r2,r3] dom d (x.kids.getD 1 default)) % dom):=by rw [J2,A.o,if_pos ⟨k3,m2⟩]
 clear A kb kb2;subst k3;subst m2;have hdn:¬dom<1:=by omega
 obtain⟨i,l,J,H,U, -,p0,p1,p2,p3,T⟩:=HE.o.part 0 (by rw [<-HM.o];omega)
 subst U;obtain⟨z5g,ko2,I,G,U, -,q0,q1,q2,q3,R⟩:=HE.o.part 1 (by rw [<-HM.o];omega)
 cases U
 obtain⟨g,P⟩:=qxE (x.kids.getD 0 default);obtain⟨c,O⟩:=qxE (x.kids.getD 1 default);rw [<-P] at p0 p1 p2 p3 T;rw [<-O] at q0 q1 q2 q3 R;rw [<-P, <-O] at u;rw [Nat.zero_mul,Nat.add_zero] at p0 p1 p2 p3;rw [Nat.one_mul] at q0 q1 q2 q3;have z:=λX (b:Below W.heap.size W X)=>zl (p.o.trans (b.mono p.o.size))
 have CC:J2 (∀X,Below W.heap.size W X->K3 X y 3 (.slice (some ⟨i,l,none⟩) 2 kc)/\K3 X (y+1) 0 (I4 r0)/\K3 X (y+1) 1 (I4 r1)/\K3 X (y+1) 2 (I4 r2)/\K3 X (y+1) 3 (I4 r3)/\
   X.cell? ⟨i,l,none⟩=some (I4 g.kind)/\X.cell? ⟨i,l+1,none⟩=some (I4 g.n)/\X.cell? ⟨i,l+2,none⟩=some (.int .u8 g.op)/\X.cell? ⟨i,l+3,none⟩=some (.slice J g.kids.length H)/\
   X.cell? ⟨i,l+4,none⟩=some (I4 c.kind)/\X.cell? ⟨i,l+4+1,none⟩=some (I4 c.n)/\X.cell? ⟨i,l+4+2,none⟩=some (.int .u8 c.op)/\X.cell? ⟨i,l+4+3,none⟩=some (.slice I c.kids.length G)):=λX b=>
  ⟨zl b _ _ c3,zl b _ _ (a.o 0 (by omega)),zl b _ _ (a.o 1 (by omega)),zl b _ _ (a.o 2 (by omega)),zl b _ _ (a.o 3 (by omega)),z X b _ _ p0,z X b _ _ p1,z X b _ _ p2,z X b _ _ p3,z X b _ _ q0,z X b _ _ q1,z X b _ _ q2,z X b _ _ q3⟩
 have Z:J2 (∀X,Below W.heap.size W X->Calls Tryz.prog 223 #[.agg #[I4 g.kind,I4 g.n, .int .u8 g.op, .slice J g.kids.length H], .agg #[I4 r0,I4 r1,I4 r2,I4 r3],I4 dom] X λe w'=>e= .returned (I4 (yF [r0,r1,r2,r3] dom d g))/\Below X.heap.size X w'):=λX b=>Q.o X g _ (T.below (p.o.trans (b.mono p.o.size)))
 have wL:J2 (∀X,Below W.heap.size W X->Calls Tryz.prog 223 #[.agg #[I4 c.kind,I4 c.n, .int .u8 c.op, .slice I c.kids.length G], .agg #[I4 r0,I4 r1,I4 r2,I4 r3],I4 dom] X λe w'=>e= .returned (I4 (yF [r0,r1,r2,r3] dom d c))/\Below X.heap.size X w'):=λX b=>Q.o X c _ (R.below (p.o.trans (b.mono p.o.size)));obtain⟨va,hva⟩:=qxE (yF [r0,r1,r2,r3] dom d g);obtain⟨vb,hvb⟩:=qxE (yF [r0,r1,r2,r3] dom d c);rw [<-hva] at Z u;rw [<-hvb] at wL u;clear p0 p1 p2 p3 q0 q1 q2 q3 T R z P O hva hvb;go_wp2_with fail
 refine(znC W o).mono ?_
 rintro e j ⟨⟨v,rfl,hv⟩,hb2⟩;have C:=qh hb2;clear c0 c1 c2 c3 hb2;rcases hv with hv|⟨rfl,hz⟩
 ·obtain⟨f,cap,rfl,hfn,hop⟩:=hv;have xX:=qh (hop);clear hop
  have t:J2 (∀X,Below j.heap.size j X->K3 X y 3 (.slice (some ⟨i,l,none⟩) 2 kc)/\K3 X (y+1) 0 (I4 r0)/\K3 X (y+1) 1 (I4 r1)/\K3 X (y+1) 2 (I4 r2)/\K3 X (y+1) 3 (I4 r3)/\
   X.cell? ⟨i,l,none⟩=some (I4 g.kind)/\X.cell? ⟨i,l+1,none⟩=some (I4 g.n)/\X.cell? ⟨i,l+2,none⟩=some (.int .u8 g.op)/\X.cell? ⟨i,l+3,none⟩=some (.slice J g.kids.length H)/\
   X.cell? ⟨i,l+4,none⟩=some (I4 c.kind)/\X.cell? ⟨i,l+4+1,none⟩=some (I4 c.n)/\X.cell? ⟨i,l+4+2,none⟩=some (.int .u8 c.op)/\X.cell? ⟨i,l+4+3,none⟩=some (.slice I c.kids.length G)):=λX b=>CC.o X (zy C.o b)
  have HY0:J2 (∀X,Below j.heap.size j X->Calls Tryz.prog 223 #[.agg #[I4 g.kind,I4 g.n, .int .u8 g.op, .slice J g.kids.length H], .agg #[I4 r0,I4 r1,I4 r2,I4 r3],I4 dom] X λe w'=>e= .returned (I4 va)/\Below X.heap.size X w'):=λX b=>Z.o X (zy C.o b);have HY1:J2 (∀X,Below j.heap.size j X->Calls Tryz.prog 223 #[.agg #[I4 c.kind,I4 c.n, .int .u8 c.op, .slice I c.kids.length G], .agg #[I4 r0,I4 r1,I4 r2,I4 r3],I4 dom] X λe w'=>e= .returned (I4 vb)/\Below X.heap.size X w'):=λX b=>wL.o X (zy C.o b);have yK:J2 (Below w.heap.size w j):=p.o.trans (C.o.mono p.o.size);have hdz:dom≠0:=by omega
  have zBe:((dom:Int)==0)=false:=by simp [hdz]
  clear Z wL CC Q;have heq:=zxY j (.func f) #[] cap;go_upto_region 10 with fail
  clear heq;refine qz (S:=λx=>Below j.heap.size j x) (Below.refl _ _).drew (λhH=> ?_)
  refine zi 0 t.o ?_
  refine zi 1 t.o ?_
  refine zi 2 t.o ?_
  refine zi 3 t.o ?_
  refine zi 4 t.o ?_
  refine zi 5 t.o ?_
  refine zi 6 t.o ?_
  refine zi 8 t.o ?_
  refine zi 9 t.o ?_
  refine zi 10 t.o ?_
  refine zi 11 t.o ?_
  refine zi 12 t.o ?_
  refine zi 13 t.o ?_
  refine zi 16 t.o ?_
  refine yA 7 rfl (λK hK=> ?_)
  go_simp
  refine(HY0.o j.drew hH).mono ?_
  rintro e hw7 ⟨rfl,N⟩;have F:Below j.heap.size j hw7:=zy hH N;refine hK.out _ _ F (λ_=> ?_)
  clear hK K N hH;refine yA 14 rfl (λK hK=> ?_)
  go_simp
  refine(HY1.o hw7 F).mono ?_
  rintro e z5s ⟨rfl,N⟩;have E:Below j.heap.size j z5s:=zy F N;refine hK.out _ _ E (λ_=> ?_)
  clear hK K N F;refine yA 15 rfl (λK hK=> ?_)
  go_simp
  refine(xX.o z5s E va vb).mono ?_
  rintro e zxZ ⟨rfl,N⟩;have zzN:Below j.heap.size j zxZ:=zy E N;refine hK.out _ _ zzN (λ_=> ?_)
  clear hK K N E;refine zi 17 t.o ?_
  refine zi 18 t.o ?_
  refine xC ?_
  have yh:J2 (Below w.heap.size w zxZ):=yK.o.trans (zzN.mono yK.o.size);clear HY0 HY1 xX hfn t hdz zBe;obtain⟨s,L⟩:=qxE ((evalOp o va vb).tmod dom);rw [<-L];have hrr:r=if s<0 then s+dom else s:=by rw [u.o, <-zuL _ _ hd1, <-L]
  have Y:=Int.tmod_lt_of_pos (evalOp o va vb) (show 0<dom by omega);have V:=Int.lt_tmod_of_pos (evalOp o va vb) (show 0<dom by omega);rw [<-L] at Y V;have t4:=wrap_add Y V hd1 hd2;have M:=qh hrr;clear L hrr Y V u;by_cases hneg:s<0
  ·obtain rfl:r=s+dom:=by rw [M.o,if_pos hneg]
   clear M;go_wp2_with fail
   go_ret;exact⟨by simp [t4],yh.o⟩
  obtain rfl:r=s:=by rw [M.o,if_neg hneg]
  clear M;go_wp2_with fail
  go_ret;exact⟨by first|rfl|simp,yh.o⟩
 obtain rfl:r=0:=by rw [u.o,hz];simp
 clear u hz;have heq:=znE j;go_wp2_with fail
 go_ret;exact⟨by first|rfl|simp,p.o.trans (C.o.mono p.o.size)⟩
end Go.Proofs.YtmijlmglnnbdjaaGreatDoor
namespace Go.Proofs.YtmijlmglnnbdjaaGreatDoor
open Go.RowKit
set_option maxRecDepth 100000
set_option maxHeartbeats 16000000
variable {v0:Value}
structure xP (v0:Value) (w:World) (B gr:Nat) (pc r0 r1 r2 r3:Int) (buf:List zq) (bv:Value) (m:zC) (dom:Int) (mem:List Int) (mb mc:Nat) (bad:Bool):Prop where
 block:w.heap[gr]? =some (.cells #[I4 pc,I4 r0,I4 r1,I4 r2,I4 r3,bv,I4 m.model,I4 m.bound,I4 dom, .slice (some ⟨mb,0,none⟩) mem.length mc, .bool bad] 167 (0,0))
 row:w.ownsRow B 3 1 (.slice (some ⟨mb,0,none⟩) mem.length mc) mem.length (zx xI mem)
 vR:zX w bv buf
 base:B<=gr
 ne:gr≠mb
 apart:buf≠ [] ->∀b o n c,bv= .slice (some ⟨b,o,none⟩) n c->b≠gr/\b≠mb
 kept:bv=v0\/∀b o n c,bv= .slice (some ⟨b,o,none⟩) n c->B<=b
section
variable {w w':World} {B gr mb mc:Nat} {pc r0 r1 r2 r3 dom:Int} {buf:List zq} {bv:Value} {m:zC} {mem:List Int} {bad:Bool}
theorem xP.below (h:xP v0 w B gr pc r0 r1 r2 r3 buf bv m dom mem mb mc bad) (b:Below w.heap.size w w'):xP v0 w' B gr pc r0 r1 r2 r3 buf bv m dom mem mb mc bad:=
 ⟨(b.block gr (zA h.block)).trans h.block,xD h.row b,zX.below h.vR b,h.base,h.ne,h.apart,h.kept⟩
theorem xP.uG (h:xP v0 w B gr pc r0 r1 r2 r3 buf bv m dom mem mb mc bad):B<=mb/\mb<w.heap.size:=h.row.lt mb rfl
theorem xP.bN (h:xP v0 w B gr pc r0 r1 r2 r3 buf bv m dom mem mb mc bad) {v:Nat} (b:v<mem.length):w.cell? ⟨mb,v,none⟩=some (I4 (mem.getD v 0))/\w.frozen? ⟨mb,v,none⟩=false:=by
 have hx:(zx xI mem)[v]? =some (I4 (mem.getD v 0)):=by
  have:=zaU (f:=xI) zbe b (show 0<1 by decide)
  simpa [xI] using this
 obtain⟨g,j,c, -,i,d⟩:=jh h.row hx;cases c
 exact⟨i,d⟩
theorem zlm {F:Nat->Prop} {sv:Value} {l:List zq} (h:zX w sv l) (g:Since F w w') (u:∀b o n c,sv= .slice (some ⟨b,o,none⟩) n c->¬F b):zX w' sv l:=by
 obtain⟨a,f,q,C,A⟩:=h;refine⟨a,f,q,C,λj r=> ?_⟩
 obtain⟨b,d,cs,z,k,y,x,v⟩:=A j r;subst z;exact⟨b,d,cs,rfl,Nat.lt_of_lt_of_le k g.size,y,λi t=>(g.cell (p:=⟨b,d+j*2+i,none⟩) k (u b d _ _ q)).trans (x i t),v⟩
theorem zbg {F:Nat->Prop} {sv:Value} {l:List zq} (h:zX w sv l) (f:Since F w w') (i:l≠ [] ->∀b o n c,sv= .slice (some ⟨b,o,none⟩) n c->¬F b):zX w' sv l:=by
 by_cases e:l= []
 ·subst e;obtain⟨a,d,p,k, -⟩:=h;exact⟨a,d,p,k,λj g=>by simp at g⟩
 exact zlm h f (i e)
theorem xP.zqo (h:xP v0 w B gr pc r0 r1 r2 r3 buf bv m dom mem mb mc bad) (x:Int):xP v0 (w.setCell ⟨gr,0,none⟩ (I4 x)) B gr x r0 r1 r2 r3 buf bv m dom mem mb mc bad:=by
 have d:=Since.setCell (F:=λk=>k=gr) (p:=⟨gr,0,none⟩) (Since.refl _ w) (.inl rfl) (I4 x);exact⟨zu h.block 0 _,d.row h.row (λk f e=>h.ne (by cases f;exact e.symm)),zbg h.vR d (λe b o n c g=>(h.apart e b o n c g).1),h.base,h.ne,h.apart,h.kept⟩
theorem xP.zmW (h:xP v0 w B gr pc r0 r1 r2 r3 buf bv m dom mem mb mc bad) (x:Bool):xP v0 (w.setCell ⟨gr,10,none⟩ (.bool x)) B gr pc r0 r1 r2 r3 buf bv m dom mem mb mc x:=by
 have d:=Since.setCell (F:=λk=>k=gr) (p:=⟨gr,10,none⟩) (Since.refl _ w) (.inl rfl) (.bool x);exact⟨zu h.block 10 _,d.row h.row (λk f e=>h.ne (by cases f;exact e.symm)),zbg h.vR d (λe b o n c g=>(h.apart e b o n c g).1),h.base,h.ne,h.apart,h.kept⟩
theorem xP.zgt (h:xP v0 w B gr pc r0 r1 r2 r3 buf bv m dom mem mb mc bad) (k:Nat) (f:k<4) (x:Int):xP v0 (w.setCell ⟨gr,1+k,none⟩ (I4 x)) B gr pc (([r0,r1,r2,r3].set k x).getD 0 0) (([r0,r1,r2,r3].set k x).getD 1 0) (([r0,r1,r2,r3].set k x).getD 2 0) (([r0,r1,r2,r3].set k x).getD 3 0) buf bv m dom mem mb mc bad:=by
 have d:=Since.setCell (F:=λk=>k=gr) (p:=⟨gr,1+k,none⟩) (Since.refl _ w) (.inl rfl) (I4 x);refine⟨?_,d.row h.row (λk f e=>h.ne (by cases f;exact e.symm)),zbg h.vR d (λe b o n c g=>(h.apart e b o n c g).1),h.base,h.ne,h.apart,h.kept⟩;have e:=zu h.block (1+k) (I4 x);have:k=0\/k=1\/k=2\/k=3:=by omega
 rcases this with rfl|rfl|rfl|rfl<;>exact e
theorem xP.ztg (h:xP v0 w B gr pc r0 r1 r2 r3 buf bv m dom mem mb mc bad) {V:World} (v:gr<V.heap.size/\mb<V.heap.size) {bJ:Value} {buf':List zq} (f:w.ownsRow V.heap.size 116 2 bJ buf'.length (zx zq.cells buf')):xP v0 (w.setCell ⟨gr,5,none⟩ bJ) B gr pc r0 r1 r2 r3 buf' bJ m dom mem mb mc bad:=by
 have l:=Since.setCell (F:=λk=>k=gr) (p:=⟨gr,5,none⟩) (Since.refl _ w) (.inl rfl) bJ
 have q:∀b o n c,bJ= .slice (some ⟨b,o,none⟩) n c->b≠gr/\b≠mb:=λb o n c e=>by
  rcases f.2 with⟨d, -⟩|⟨g,j,i,d,u, -⟩
  ·rw [d] at e;cases e
  rw [d] at e;cases e;exact⟨by omega,by omega⟩
 refine⟨zu h.block 5 _,l.row h.row (λk r e=>h.ne (by cases r;exact e.symm)),zlm (wQ f) l (λb o n c e=>(q b o n c e).1),h.base,h.ne,λ_=>q, .inr λb o n c e=> ?_⟩;have t:=h.base;rcases f.2 with⟨d, -⟩|⟨g,j,i,d,u, -⟩
 ·rw [d] at e;cases e
 rw [d] at e;cases e;omega
theorem xP.zew (h:xP v0 w B gr pc r0 r1 r2 r3 buf bv m dom mem mb mc bad) (v:Nat) (x:Int):xP v0 (w.setCell ⟨mb,v,none⟩ (I4 x)) B gr pc r0 r1 r2 r3 buf bv m dom (mem.set v x) mb mc bad:=by
 have d:=Since.setCell (F:=λk=>k=mb) (p:=⟨mb,v,none⟩) (Since.refl _ w) (.inl rfl) (I4 x);have f:=zas (j:=v) h.row (I4 x);refine⟨?_, ?_,zbg h.vR d (λe b o n c g=>(h.apart e b o n c g).2),h.base,h.ne,h.apart,h.kept⟩
 ·rw [List.length_set];exact(d.block gr (zA h.block) h.ne).trans h.block
 rw [List.length_set,znA];exact f
end
theorem zbi {w:World} {B gr mb mc:Nat} {pc r0 r1 r2 r3 dom:Int} {buf:List zq} {bv:Value} {m:zC} {mem:List Int} {bad:Bool} (h:xP v0 w B gr pc r0 r1 r2 r3 buf bv m dom mem mb mc bad) (v:1<=dom) (u:dom<=1000) (d:Nat) (x:zR) (kv:Value) (hx:zJ d w x kv):
  Calls Tryz.prog 206 #[.pointer (some ⟨gr,0,none⟩),qD x kv] w λe w'=>e= .returned (I4 (yF [r0,r1,r2,r3] dom d x))/\Below w.heap.size w w':=by
 have b:=λW (D:Below w.heap.size w W)=>zuM r0 r1 r2 r3 dom v u d W x kv (hx.below D);obtain⟨ka,kc,rfl, -⟩:=hx.slice;generalize yF [r0,r1,r2,r3] dom d x=r at b ⊢;unfold qD at b ⊢;generalize x.kind=k at b ⊢;generalize x.n=n at b ⊢;generalize x.op=o at b ⊢;generalize x.kids.length=l at b ⊢;have z:=qh b;have E:=qh h;clear b hx h;have t:=qh ((Below.refl w.heap.size w).alloc (Nat.le_refl _) (.cells #[I4 k,I4 n, .int .u8 o, .slice ka l kc] 104));have f:=qh (zQ w (.cells #[I4 k,I4 n, .int .u8 o, .slice ka l kc] 104));go_enter Tryz.func206,Tryz.ntmps206
 go_upto_region 1 with fail
 generalize World.alloc w _=W at t f ⊢;obtain⟨q,j⟩:=qxE w.heap.size;rw [<-j] at f ⊢;clear j;have p:=qh ((E.o.below t.o).block)
 have c:J2 (∀x,Below W.heap.size W x->K3 x q 0 (I4 k)/\K3 x q 1 (I4 n)/\K3 x q 2 (.int .u8 o)/\K3 x q 3 (.slice ka l kc)/\K3 x gr 1 (I4 r0)/\K3 x gr 2 (I4 r1)/\K3 x gr 3 (I4 r2)/\K3 x gr 4 (I4 r3)/\K3 x gr 8 (I4 dom)):=λx hx=>
  ⟨zl hx _ _ (ze f.o 0),zl hx _ _ (ze f.o 1),zl hx _ _ (ze f.o 2),zl hx _ _ (ze f.o 3),zl hx _ _ (ze p.o 1),zl hx _ _ (ze p.o 2),zl hx _ _ (ze p.o 3),zl hx _ _ (ze p.o 4),zl hx _ _ (ze p.o 8)⟩
 refine qz (S:=λx=>Below W.heap.size W x) ((Below.refl _ _).drew) (λy=> ?_)
 refine zi 0 c.o ?_
 refine zi 1 c.o ?_
 refine zi 2 c.o ?_
 refine zi 3 c.o ?_
 refine zi 4 c.o ?_
 refine zi 5 c.o ?_
 refine zi 6 c.o ?_
 refine zi 7 c.o ?_
 refine zi 8 c.o ?_
 refine zi 9 c.o ?_
 refine yA 10 rfl (λK hK=> ?_)
 go_simp
 refine(z.o W.drew (zy t.o y)).mono ?_
 rintro e i ⟨rfl,C⟩;have g:Below W.heap.size W i:=zy y C;refine hK.out _ _ g (λ_=> ?_)
 clear hK K C y;refine zi 11 c.o ?_
 refine xC ?_
 have A:J2 (Below w.heap.size w i):=zy t.o (g);go_wp2_with fail
 go_ret;exact⟨by first|rfl|(simp;done)|(simp;omega),A.o⟩
theorem zav {w:World} {B gr mb mc:Nat} {pc r0 r1 r2 r3 dom:Int} {buf:List zq} {bv:Value} {m:zC} {mem:List Int} {bad:Bool} (h:xP v0 w B gr pc r0 r1 r2 r3 buf bv m dom mem mb mc bad):
  Calls Tryz.prog 207 #[.pointer (some ⟨gr,0,none⟩)] w λe w'=>e= .returned (.bool (decide (buf.length=0)))/\w'=w:=by
 obtain⟨f,d,b, -⟩:=zh.slice h.vR;have c:=h.block;rw [b] at c;have g:w.cell? ⟨gr,5,none⟩=some (.slice f buf.length d):=ze c 5;clear c h;go_enter Tryz.func207,Tryz.ntmps207
 go_wp2_with fail
 go_ret;refine⟨congrArg (λq=>Ending.returned (.bool q)) ?_,rfl⟩
 first|rfl|(rw [Bool.eq_iff_iff];simp)
