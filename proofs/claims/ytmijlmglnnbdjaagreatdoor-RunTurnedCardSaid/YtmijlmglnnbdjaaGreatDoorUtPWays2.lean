/- Steps. -/
import Derived.Test.YtmijlmglnnbdjaaGreatDoorUtTail
set_option linter.all false
namespace Go.Proofs.YtmijlmglnnbdjaaGreatDoor
open Go.RowKit
set_option maxRecDepth 100000
set_option maxHeartbeats 16000000
variable {v0:Value}
theorem zwS {w:World} {B y mb mc:Nat} {pc r0 r1 r2 r3 dom:Int} {buf:List zq} {bv:Value} {m:zC} {mem:List Int} {bad:Bool} (h:xP v0 w B y pc r0 r1 r2 r3 buf bv m dom mem mb mc bad) (X:B<=w.heap.size) (H:1<=dom) (G:dom<=1000) (d:Nat) (x:yg) (ka U:Value) (F:zJ d w x.a ka) (u:zJ d w x.b U)
  (T:0<=x.reg/\x.reg<4) (l:0<=x.var/\x.var<(mem.length:Int)) (I:buf.length<=1000000):Calls Tryz.prog 161 #[.pointer (some ⟨y,0,none⟩),qO x ka U] w λe w'=>
  vk v0 w B y m dom mb mc (some (⟨pc, [r0,r1,r2,r3].set x.reg.toNat (yF [r0,r1,r2,r3] dom d x.a),buf⟩,mem,bad)) e w':=by
 have i:=λW V (hV:xP v0 W B y pc r0 r1 r2 r3 buf V m dom mem mb mc bad) (hW:Below w.heap.size w W)=>zbi hV H G d x.a ka (F.below hW);obtain⟨L,J,rfl, -⟩:=F.slice;obtain⟨Z,Y,rfl, -⟩:=u.slice;obtain⟨ua,uc,rfl, -⟩:=zh.slice h.vR;obtain⟨op,reg,v,a,b,P⟩:=x;simp only [] at T l F u i ⊢;obtain⟨reg,rfl⟩:∃k:Nat,reg=(k:Int):=⟨reg.toNat,by omega⟩;obtain⟨v,rfl⟩:∃k:Nat,v=(k:Int):=⟨v.toNat,by omega⟩;have A:reg<4:=by omega
 have uS:v<mem.length:=by omega
 have bW:(v:Int)<(mem.length:Int):=l.2;have hrI:(reg:Int)<4:=T.2;try simp only [Int.toNat_natCast]
 clear F u;unfold qO;simp only [];unfold qD at i;generalize hva:yF [r0,r1,r2,r3] dom d a=va at i ⊢;clear hva;generalize a.kind=ak at i ⊢;generalize a.n=an at i ⊢;generalize a.op=ao at i ⊢;generalize a.kids.length=al at i ⊢;generalize b.kind=bk at ⊢;generalize b.n=bn at ⊢;generalize b.op=bo at ⊢;generalize b.kids.length=bl at ⊢;have N:=qh i;clear i;obtain⟨res,f⟩:∃r:Option (zD × List Int × Bool),r=(some (⟨pc, [r0,r1,r2,r3].set reg (va),buf⟩,mem,bad)):=⟨_,rfl⟩;rw [<-f];have s:=qh f;clear f;obtain⟨un,q⟩:=qxE buf.length;rw [<-q] at h I;have HUN:=qh q;have HR:=qh h;have R:=qh X
 have E:=qh ((Below.refl w.heap.size w).alloc (Nat.le_refl _) (.cells #[I4 op,I4 (reg:Int),I4 (v:Int),I4 ak,I4 an, .int .u8 ao, .slice L al J,I4 bk,I4 bn, .int .u8 bo, .slice Z bl Y,I4 P] 107));have t:=qh (zQ w (.cells #[I4 op,I4 (reg:Int),I4 (v:Int),I4 ak,I4 an, .int .u8 ao, .slice L al J,I4 bk,I4 bn, .int .u8 bo, .slice Z bl Y,I4 P] 107));clear h q X;go_enter Tryz.func161,Tryz.ntmps161
 go_upto_region 1 with fail
 generalize World.alloc w _=W at E t ⊢;obtain⟨D,C⟩:=qxE w.heap.size;rw [<-C] at t ⊢;clear C;have j:=qh (HR.o.below E.o);have kD:J2 (Below B w W):=E.o.mono R.o;have Q:J2 (∀x,Below W.heap.size W x->K3 x D 1 (I4 (reg:Int))/\K3 x D 3 (I4 ak)/\K3 x D 4 (I4 an)/\K3 x D 5 (.int .u8 ao)/\K3 x D 6 (.slice L al J)):=λx hx=>⟨zl hx _ _ (ze t.o 1),zl hx _ _ (ze t.o 3),zl hx _ _ (ze t.o 4),zl hx _ _ (ze t.o 5),zl hx _ _ (ze t.o 6)⟩;refine wp_region_noPanic ?_
 refine xg (n0:=11) (S:=λx=>Below W.heap.size W x) (by kernel_rfl) ((Below.refl _ _).drew) (λc=> ?_)
 refine zU 0 (λ_=>c) ?_
 refine zU 1 (λ_=>c) ?_
 refine vX [10,11] 2 Q.o c ?_
 refine zU 3 (λ_=>c) ?_
 refine zU 4 (λ_=>c) ?_
 refine vX [6,10,11] 5 Q.o c ?_
 refine zU 7 (λ_=>c) ?_
 refine zU 8 (λ_=>c) ?_
 refine zU 9 (λ_=>c) ?_
 refine kg 6 rfl (λK hK=> ?_)
 go_simp
 refine(N.o W.drew _ (j.o.below c) (zy E.o c)).mono ?_
 rintro e z ⟨rfl,u⟩;have g:Below W.heap.size W z:=zy c u;refine hK.out _ _ (λ_ _=>g) ?_
 clear hK K u c;refine zU 10 (λ_=>g) ?_
 refine kg 11 rfl (λK hK=> ?_)
 obtain⟨q0,q1⟩:=(j.o.below g).ze4 A;go_simp
 refine hK.out _ _ (λh=>absurd rfl h) ?_
 clear hK K;refine xZ (by kernel_rfl) ?_ _
 refine NoPanic.normal ?_
 clear q0 q1;have M:=qh ((j.o.below g).zgt reg A va);have O:J2 (Below B w (z.setCell ⟨y,1+reg,none⟩ (I4 va))):=(kD.o.trans (g.mono (Nat.le_trans R.o E.o.size))).setCell (p:=⟨y,1+reg,none⟩) j.o.base _;go_wp2_with fail
 go_ret;rw [s.o];exact ze5 M.o O.o
theorem ztO {w:World} {B E mb mc:Nat} {pc r0 r1 r2 r3 dom:Int} {buf:List zq} {bv:Value} {m:zC} {mem:List Int} {bad:Bool} (h:xP v0 w B E pc r0 r1 r2 r3 buf bv m dom mem mb mc bad) (V:B<=w.heap.size) (hd1:1<=dom) (hd2:dom<=1000) (d:Nat) (x:yg) (ka T:Value) (L:zJ d w x.a ka) (J:zJ d w x.b T)
  (R:0<=x.reg/\x.reg<4) (t:0<=x.var/\x.var<(mem.length:Int)) (I:buf.length<=1000000):Calls Tryz.prog 165 #[.pointer (some ⟨E,0,none⟩),qO x ka T] w λe w'=>
  vk v0 w B E m dom mb mc (if buf.length=0/\mem.getD x.var.toNat 0=0 then some (⟨pc, [r0,r1,r2,r3],buf⟩,mem.set x.var.toNat 1,bad) else none) e w':=by
 obtain⟨Q,Z,rfl, -⟩:=L.slice;obtain⟨Y,X,rfl, -⟩:=J.slice;obtain⟨ua,uc,rfl, -⟩:=zh.slice h.vR;obtain⟨op,reg,v,a,b,P⟩:=x;simp only [] at R t L J ⊢;obtain⟨reg,rfl⟩:∃k:Nat,reg=(k:Int):=⟨reg.toNat,by omega⟩;obtain⟨v,rfl⟩:∃k:Nat,v=(k:Int):=⟨v.toNat,by omega⟩;have hr4:reg<4:=by omega
 have F:v<mem.length:=by omega
 have bW:(v:Int)<(mem.length:Int):=t.2;have hrI:(reg:Int)<4:=R.2;try simp only [Int.toNat_natCast]
 clear L J;unfold qO;simp only [];generalize a.kind=ak at ⊢;generalize a.n=an at ⊢;generalize a.op=ao at ⊢;generalize a.kids.length=al at ⊢;generalize b.kind=bk at ⊢;generalize b.n=bn at ⊢;generalize b.op=bo at ⊢;generalize b.kids.length=bl at ⊢;obtain⟨res,j⟩:∃r:Option (zD × List Int × Bool),r=(if buf.length=0/\mem.getD v 0=0 then some (⟨pc, [r0,r1,r2,r3],buf⟩,mem.set v 1,bad) else none):=⟨_,rfl⟩;rw [<-j];have D:=qh j;clear j;obtain⟨un,u⟩:=qxE buf.length;rw [<-u] at h I;have HUN:=qh u;have HR:=qh h;have s:=qh V
 have O:=qh ((Below.refl w.heap.size w).alloc (Nat.le_refl _) (.cells #[I4 op,I4 (reg:Int),I4 (v:Int),I4 ak,I4 an, .int .u8 ao, .slice Q al Z,I4 bk,I4 bn, .int .u8 bo, .slice Y bl X,I4 P] 107));have N:=qh (zQ w (.cells #[I4 op,I4 (reg:Int),I4 (v:Int),I4 ak,I4 an, .int .u8 ao, .slice Q al Z,I4 bk,I4 bn, .int .u8 bo, .slice Y bl X,I4 P] 107));clear h u V;go_enter Tryz.func165,Tryz.ntmps165
 go_upto_region 1 with fail
 generalize World.alloc w _=W at O N ⊢;obtain⟨gi,C⟩:=qxE w.heap.size;rw [<-C] at N ⊢;clear C;have f:=qh (HR.o.below O.o);have U:J2 (Below B w W):=O.o.mono s.o;have c:J2 (∀x,Below W.heap.size W x->K3 x gi 2 (I4 (v:Int))/\K3 x E 9 (.slice (some ⟨mb,0,none⟩) mem.length mc)/\K3 x mb v (I4 (mem.getD v 0))):=λx hx=>⟨zl hx _ _ (ze N.o 2),zl hx _ _ (ze f.o.block 9),zl hx _ _ (f.o.bN F).1⟩;obtain⟨z,l⟩:=qxE (mem.getD v 0);rw [<-l] at c D;clear l;by_cases hz0:z=0
 rotate_left
 ·have i:((z:Int)==0)=false:=by simp [hz0]
  have y:=qh hz0;clear hz0;refine qz (S:=λx=>Below W.heap.size W x) ((Below.refl _ _).drew) (λhH=> ?_)
  refine zi 0 c.o ?_
  refine zi 1 c.o ?_
  refine zi 2 c.o ?_
  refine zi 3 c.o ?_
  refine zi 4 c.o ?_
  refine zi 5 c.o ?_
  refine zi 6 c.o ?_
  refine zi 7 c.o ?_
  refine zi 8 c.o ?_
  refine zi 9 c.o ?_
  refine xC ?_
  go_upto_region 2 with fail
  refine wp_region_noPanic ?_
  refine xg (n0:=7) (S:=λx=>Below W.heap.size W x) (by kernel_rfl) ((Below.refl _ _).drew.drew) (λg=> ?_)
  refine zU 0 (λ_=>g) ?_
  refine zU 1 (λ_=>g) ?_
  refine zU 2 (λ_=>g) ?_
  refine vX [6,7] 3 c.o g ?_
  refine zU 4 (λ_=>g) ?_
  refine vX [6,7] 5 c.o g ?_
  refine zU 6 (λ_=>g) ?_
  refine kg 7 rfl (λK hK=> ?_)
  obtain⟨H,G⟩:=(f.o.below (Below.refl _ _).drew.drew).bN F;go_simp
  refine hK.out _ _ (λh=>absurd rfl h) ?_
  clear hK K;refine xZ (by kernel_rfl) ?_ _
  refine NoPanic.normal ?_
  clear H G;have A:=qh ((f.o.below (Below.refl _ _).drew.drew).zew v 1);have q:J2 (Below B w (W.drew.drew.setCell ⟨mb,v,none⟩ (I4 1))):=U.o.drew.drew.setCell (p:=⟨mb,v,none⟩) f.o.uG.1 _;go_wp2_with fail
  go_ret;rw [D.o,if_neg (λh=>y.o h.2)];exact gY q.o
 have i:((z:Int)==0)=true:=by simp [hz0]
 have y:=qh hz0;clear hz0;refine qz (S:=λx=>Below W.heap.size W x) ((Below.refl _ _).drew) (λhH=> ?_)
 refine zi 0 c.o ?_
 refine zi 1 c.o ?_
 refine zi 2 c.o ?_
 refine zi 3 c.o ?_
 refine zi 4 c.o ?_
 refine zi 5 c.o ?_
 refine zi 6 c.o ?_
 refine zi 7 c.o ?_
 refine zi 8 c.o ?_
 refine zi 9 c.o ?_
 refine xC ?_
 go_upto_region 2 with fail
 refine wp_region_noPanic ?_
 refine xg (n0:=7) (S:=λx=>Below W.heap.size W x) (by kernel_rfl) ((Below.refl _ _).drew.drew) (λg=> ?_)
 refine zU 0 (λ_=>g) ?_
 refine zU 1 (λ_=>g) ?_
 refine zU 2 (λ_=>g) ?_
 refine vX [6,7] 3 c.o g ?_
 refine zU 4 (λ_=>g) ?_
 refine vX [6,7] 5 c.o g ?_
 refine zU 6 (λ_=>g) ?_
 refine kg 7 rfl (λK hK=> ?_)
 obtain⟨H,G⟩:=(f.o.below (Below.refl _ _).drew.drew).bN F;go_simp
 refine hK.out _ _ (λh=>absurd rfl h) ?_
 clear hK K;refine xZ (by kernel_rfl) ?_ _
 refine NoPanic.normal ?_
 clear H G;have A:=qh ((f.o.below (Below.refl _ _).drew.drew).zew v 1);have q:J2 (Below B w (W.drew.drew.setCell ⟨mb,v,none⟩ (I4 1))):=U.o.drew.drew.setCell (p:=⟨mb,v,none⟩) f.o.uG.1 _;go_wp2_with fail
 refine(zav A.o).mono ?_
 rintro e w3 ⟨rfl,rfl⟩;by_cases l:buf.length=0
 ·have M:=qh l;have i:decide (buf.length=0)=true:=decide_eq_true l;clear l;rw [i];go_wp2_with fail
  go_ret;rw [D.o,if_pos ⟨M.o,y.o⟩];exact jV A.o q.o
 have M:=qh l;have i:decide (buf.length=0)=false:=decide_eq_false l;clear l;rw [i];go_wp2_with fail
 go_ret;rw [D.o,if_neg (λh=>M.o h.1)];exact gY q.o
theorem ztM {w:World} {B q mb mc:Nat} {pc r0 r1 r2 r3 dom:Int} {buf:List zq} {bv:Value} {m:zC} {mem:List Int} {bad:Bool} (h:xP v0 w B q pc r0 r1 r2 r3 buf bv m dom mem mb mc bad) (hB:B<=w.heap.size) (hd1:1<=dom) (hd2:dom<=1000) (d:Nat) (x:yg) (ka kb:Value) (Y:zJ d w x.a ka) (l:zJ d w x.b kb)
  (qC:0<=x.reg/\x.reg<4) (t:0<=x.var/\x.var<(mem.length:Int)) (M:buf.length<=1000000):Calls Tryz.prog 159 #[.pointer (some ⟨q,0,none⟩),qO x ka kb] w λe T=>
  vk v0 w B q m dom mb mc (some (⟨pc, [r0,r1,r2,r3].set x.reg.toNat ((uo buf x.var).getD (mem.getD x.var.toNat 0)),buf⟩,mem,bad)) e T:=by
 obtain⟨aa,ac,rfl, -⟩:=Y.slice;obtain⟨ba,bc,rfl, -⟩:=l.slice;obtain⟨ua,uc,rfl, -⟩:=zh.slice h.vR;obtain⟨op,reg,v,a,b,Q⟩:=x;simp only [] at qC t Y l ⊢;obtain⟨reg,rfl⟩:∃k:Nat,reg=(k:Int):=⟨reg.toNat,by omega⟩;obtain⟨v,rfl⟩:∃k:Nat,v=(k:Int):=⟨v.toNat,by omega⟩;have j:reg<4:=by omega
 have uS:v<mem.length:=by omega
 have bW:(v:Int)<(mem.length:Int):=t.2;have hrI:(reg:Int)<4:=qC.2;try simp only [Int.toNat_natCast]
 clear Y l;unfold qO;simp only [];generalize a.kind=ak at ⊢;generalize a.n=an at ⊢;generalize a.op=ao at ⊢;generalize a.kids.length=al at ⊢;generalize b.kind=bk at ⊢;generalize b.n=bn at ⊢;generalize b.op=bo at ⊢;generalize b.kids.length=bl at ⊢;obtain⟨res,i⟩:∃r:Option (zD × List Int × Bool),r=(some (⟨pc, [r0,r1,r2,r3].set reg ((uo buf (v:Int)).getD (mem.getD v 0)),buf⟩,mem,bad)):=⟨_,rfl⟩;rw [<-i];have O:=qh i;clear i;obtain⟨s,A⟩:=qxE buf.length;rw [<-A] at h M;have Z:=qh A;have HR:=qh h;have R:=qh hB
 have N:=qh ((Below.refl w.heap.size w).alloc (Nat.le_refl _) (.cells #[I4 op,I4 (reg:Int),I4 (v:Int),I4 ak,I4 an, .int .u8 ao, .slice aa al ac,I4 bk,I4 bn, .int .u8 bo, .slice ba bl bc,I4 Q] 107));have P:=qh (zQ w (.cells #[I4 op,I4 (reg:Int),I4 (v:Int),I4 ak,I4 an, .int .u8 ao, .slice aa al ac,I4 bk,I4 bn, .int .u8 bo, .slice ba bl bc,I4 Q] 107));clear h A hB;go_enter Tryz.func159,Tryz.ntmps159
 go_upto_region 1 with fail
 generalize World.alloc w _=W at N P ⊢;obtain⟨gi,L⟩:=qxE w.heap.size;rw [<-L] at P ⊢;clear L;have g:=qh (HR.o.below N.o);have kD:J2 (Below B w W):=N.o.mono R.o;have c:J2 (∀x,Below W.heap.size W x->K3 x gi 1 (I4 (reg:Int))/\K3 x gi 2 (I4 (v:Int))/\K3 x q 5 (.slice ua s uc)/\K3 x q 9 (.slice (some ⟨mb,0,none⟩) mem.length mc)/\K3 x mb v (I4 (mem.getD v 0))):=λx hx=>⟨zl hx _ _ (ze P.o 1),zl hx _ _ (ze P.o 2),zl hx _ _ (ze g.o.block 5),zl hx _ _ (ze g.o.block 9),zl hx _ _ (g.o.bN uS).1⟩;obtain⟨X,C⟩:=qxE (uo buf (v:Int))
 have J:J2 (∀x,Below W.heap.size W x->Calls Tryz.prog 205 #[.slice ua s uc,I4 (v:Int)] x λe T=>e= .returned (.tuple #[I4 (X.getD 0), .bool X.isSome])/\Below x.heap.size x T):=λx hx=>by rw [C];exact zve x _ buf (g.o.below hx).vR (by rw [<-Z.o];exact M) v
 obtain⟨z,hz⟩:=qxE (mem.getD v 0);rw [<-hz] at c O;rw [<-C] at O;clear hz C;cases X with
 |some y=>
  refine qz (S:=λx=>Below W.heap.size W x) ((Below.refl _ _).drew) (λD=> ?_)
  refine zi 0 c.o ?_
  refine zi 1 c.o ?_
  refine zi 2 c.o ?_
  refine zi 3 c.o ?_
  refine zi 4 c.o ?_
  refine zi 5 c.o ?_
  refine zi 6 c.o ?_
  refine yA 7 rfl (λK hK=> ?_)
  go_simp
  refine(J.o W.drew D).mono ?_
  rintro e H ⟨rfl,l⟩;have I:Below W.heap.size W H:=zy D l;refine hK.out _ _ I (λ_=> ?_)
  clear hK K l D;refine zi 8 c.o ?_
  refine zi 9 c.o ?_
  refine zi 10 c.o ?_
  refine zi 11 c.o ?_
  refine zi 12 c.o ?_
  refine xC ?_
  go_upto_region 4 with fail
  refine wp_region_noPanic ?_
  refine xg (n0:=8) (S:=λx=>Below W.heap.size W x) (by kernel_rfl) ((zy I (Below.refl _ _).drew)) (λf=> ?_)
  refine zU 0 (λ_=>f) ?_
  refine zU 1 (λ_=>f) ?_
  refine vX [7,8] 2 c.o f ?_
  refine zU 3 (λ_=>f) ?_
  refine zU 4 (λ_=>f) ?_
  refine zU 5 (λ_=>f) ?_
  refine zU 6 (λ_=>f) ?_
  refine zU 7 (λ_=>f) ?_
  refine kg 8 rfl (λK hK=> ?_)
  obtain⟨V,U⟩:=(g.o.below f).ze4 j;go_simp
  refine hK.out _ _ (λh=>absurd rfl h) ?_
  clear hK K;refine xZ (by kernel_rfl) ?_ _
  refine NoPanic.normal ?_
  clear V U;have E:=qh ((g.o.below f).zgt reg j y);have F:J2 (Below B w (H.drew.setCell ⟨q,1+reg,none⟩ (I4 y))):=(kD.o.trans (f.mono (Nat.le_trans R.o N.o.size))).setCell (p:=⟨q,1+reg,none⟩) g.o.base _;go_wp2_with fail
  go_ret;rw [O.o];exact ze5 E.o F.o
 |none=>
 refine qz (S:=λx=>Below W.heap.size W x) ((Below.refl _ _).drew) (λD=> ?_)
 refine zi 0 c.o ?_
 refine zi 1 c.o ?_
 refine zi 2 c.o ?_
 refine zi 3 c.o ?_
 refine zi 4 c.o ?_
 refine zi 5 c.o ?_
 refine zi 6 c.o ?_
 refine yA 7 rfl (λK hK=> ?_)
 go_simp
 refine(J.o W.drew D).mono ?_
 rintro e G ⟨rfl,l⟩;have u:Below W.heap.size W G:=zy D l;refine hK.out _ _ u (λ_=> ?_)
 clear hK K l D;refine zi 8 c.o ?_
 refine zi 9 c.o ?_
 refine zi 10 c.o ?_
 refine zi 11 c.o ?_
 refine zi 12 c.o ?_
 refine xC ?_
 go_upto_region 3 with fail
 refine qz (S:=λx=>Below W.heap.size W x) ((zy u (Below.refl _ _).drew)) (λhK3=> ?_)
 refine zi 0 c.o ?_
 refine zi 1 c.o ?_
 refine zi 2 c.o ?_
 refine zi 3 c.o ?_
 refine zi 4 c.o ?_
 refine zi 5 c.o ?_
 refine zi 6 c.o ?_
 refine zi 7 c.o ?_
 refine zi 8 c.o ?_
 refine xC ?_
 go_upto_region 4 with fail
 refine wp_region_noPanic ?_
 refine xg (n0:=8) (S:=λx=>Below W.heap.size W x) (by kernel_rfl) ((zy u (Below.refl _ _).drew.drew)) (λf=> ?_)
 refine zU 0 (λ_=>f) ?_
 refine zU 1 (λ_=>f) ?_
 refine vX [7,8] 2 c.o f ?_
 refine zU 3 (λ_=>f) ?_
 refine zU 4 (λ_=>f) ?_
 refine zU 5 (λ_=>f) ?_
 refine zU 6 (λ_=>f) ?_
 refine zU 7 (λ_=>f) ?_
 refine kg 8 rfl (λK hK=> ?_)
 obtain⟨V,U⟩:=(g.o.below f).ze4 j;go_simp
 refine hK.out _ _ (λh=>absurd rfl h) ?_
 clear hK K;refine xZ (by kernel_rfl) ?_ _
 refine NoPanic.normal ?_
 clear V U;have E:=qh ((g.o.below f).zgt reg j z);have F:J2 (Below B w (G.drew.drew.setCell ⟨q,1+reg,none⟩ (I4 z))):=(kD.o.trans (f.mono (Nat.le_trans R.o N.o.size))).setCell (p:=⟨q,1+reg,none⟩) g.o.base _;go_wp2_with fail
 go_ret;rw [O.o];exact ze5 E.o F.o
