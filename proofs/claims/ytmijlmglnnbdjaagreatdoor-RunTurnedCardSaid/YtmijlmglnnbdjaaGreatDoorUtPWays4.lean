/- Steps. -/
import Derived.Test.YtmijlmglnnbdjaaGreatDoorUtPWays2
set_option linter.all false
namespace Go.Proofs.YtmijlmglnnbdjaaGreatDoor
open Go.RowKit
set_option maxRecDepth 100000
set_option maxHeartbeats 16000000
variable {v0:Value}
theorem zwR {w:World} {B N mb mc:Nat} {pc r0 r1 r2 r3 dom:Int} {buf:List zq} {bv:Value} {m:zC} {mem:List Int} {bad:Bool} (h:xP v0 w B N pc r0 r1 r2 r3 buf bv m dom mem mb mc bad) (hB:B<=w.heap.size) (hd1:1<=dom) (hd2:dom<=1000) (d:Nat) (x:yg) (ka kb:Value) (ha:zJ d w x.a ka) (M:zJ d w x.b kb)
  (qC:0<=x.reg/\x.reg<4) (R:0<=x.var/\x.var<(mem.length:Int)) (hbl:buf.length<=1000000):Calls Tryz.prog 164 #[.pointer (some ⟨N,0,none⟩),qO x ka kb] w λe w'=>
  vk v0 w B N m dom mb mc (if mem.getD x.var.toNat 0=yF [r0,r1,r2,r3] dom d x.a then(if buf.length=0 then some (⟨pc, [r0,r1,r2,r3].set x.reg.toNat 1,buf⟩,mem.set x.var.toNat (yF [r0,r1,r2,r3] dom d x.b),bad) else none) else(if buf.length=0 then some (⟨pc, [r0,r1,r2,r3].set x.reg.toNat 0,buf⟩,mem,bad) else none)) e w':=by
 have O:=λW V (hV:xP v0 W B N pc r0 r1 r2 r3 buf V m dom mem mb mc bad) (hW:Below w.heap.size w W)=>zbi hV hd1 hd2 d x.a ka (ha.below hW);have l:=λW V (hV:xP v0 W B N pc r0 r1 r2 r3 buf V m dom mem mb mc bad) (hW:Below w.heap.size w W)=>zbi hV hd1 hd2 d x.b kb (M.below hW);obtain⟨aa,ac,rfl, -⟩:=ha.slice;obtain⟨ba,bc,rfl, -⟩:=M.slice;obtain⟨ua,uc,rfl, -⟩:=zh.slice h.vR;obtain⟨op,reg,v,a,b,yT⟩:=x;simp only [] at qC R ha M O l ⊢;obtain⟨reg,rfl⟩:∃k:Nat,reg=(k:Int):=⟨reg.toNat,by omega⟩;obtain⟨v,rfl⟩:∃k:Nat,v=(k:Int):=⟨v.toNat,by omega⟩;have P:reg<4:=by omega
 have uS:v<mem.length:=by omega
 have bW:(v:Int)<(mem.length:Int):=R.2;have hrI:(reg:Int)<4:=qC.2;try simp only [Int.toNat_natCast]
 clear ha M;unfold qO;simp only [];unfold qD at O l;generalize hva:yF [r0,r1,r2,r3] dom d a=va at O ⊢;clear hva;generalize hvb:yF [r0,r1,r2,r3] dom d b=vb at l ⊢;clear hvb;generalize a.kind=ak at O ⊢;generalize a.n=an at O ⊢;generalize a.op=ao at O ⊢;generalize a.kids.length=al at O ⊢;generalize b.kind=bk at l ⊢;generalize b.n=bn at l ⊢;generalize b.op=bo at l ⊢;generalize b.kids.length=bl at l ⊢;have HEA:=qh O;clear O;have HEB:=qh l;clear l
 obtain⟨res,H⟩:∃r:Option (zD × List Int × Bool),r=(if mem.getD v 0=va then(if buf.length=0 then some (⟨pc, [r0,r1,r2,r3].set reg 1,buf⟩,mem.set v (vb),bad) else none) else(if buf.length=0 then some (⟨pc, [r0,r1,r2,r3].set reg 0,buf⟩,mem,bad) else none)):=⟨_,rfl⟩;rw [<-H];have Z:=qh H;clear H;obtain⟨un,T⟩:=qxE buf.length;rw [<-T] at h hbl;have HUN:=qh T;have HR:=qh h;have yK:=qh hB;have Y:=qh ((Below.refl w.heap.size w).alloc (Nat.le_refl _) (.cells #[I4 op,I4 (reg:Int),I4 (v:Int),I4 ak,I4 an, .int .u8 ao, .slice aa al ac,I4 bk,I4 bn, .int .u8 bo, .slice ba bl bc,I4 yT] 107))
 have y:=qh (zQ w (.cells #[I4 op,I4 (reg:Int),I4 (v:Int),I4 ak,I4 an, .int .u8 ao, .slice aa al ac,I4 bk,I4 bn, .int .u8 bo, .slice ba bl bc,I4 yT] 107));clear h T hB;go_enter Tryz.func164,Tryz.ntmps164
 go_upto_region 1 with fail
 generalize World.alloc w _=W at Y y ⊢;obtain⟨C,U⟩:=qxE w.heap.size;rw [<-U] at y ⊢;have HGI:=qh U;clear U;have i:=qh (HR.o.below Y.o);have kD:J2 (Below B w W):=Y.o.mono yK.o
 have c:J2 (∀x,Below W.heap.size W x->K3 x C 1 (I4 (reg:Int))/\K3 x C 2 (I4 (v:Int))/\K3 x C 3 (I4 ak)/\K3 x C 4 (I4 an)/\K3 x C 5 (.int .u8 ao)/\K3 x C 6 (.slice aa al ac)/\K3 x C 7 (I4 bk)/\K3 x C 8 (I4 bn)/\K3 x C 9 (.int .u8 bo)/\K3 x C 10 (.slice ba bl bc)/\K3 x N 9 (.slice (some ⟨mb,0,none⟩) mem.length mc)/\K3 x mb v (I4 (mem.getD v 0))):=λx hx=>⟨zl hx _ _ (ze y.o 1),zl hx _ _ (ze y.o 2),zl hx _ _ (ze y.o 3),zl hx _ _ (ze y.o 4),zl hx _ _ (ze y.o 5),zl hx _ _ (ze y.o 6),zl hx _ _ (ze y.o 7),zl hx _ _ (ze y.o 8),zl hx _ _ (ze y.o 9),zl hx _ _ (ze y.o 10),zl hx _ _ (ze i.o.block 9),zl hx _ _ (i.o.bN uS).1⟩
 have HGM:=qh (show C≠mb by have:=HR.o.uG.2;have:=HGI.o;omega)
 obtain⟨z,u⟩:=qxE (mem.getD v 0);rw [<-u] at c Z;clear u;refine qz (S:=λx=>Below W.heap.size W x) ((Below.refl _ _).drew) (λhH=> ?_)
 refine zi 0 c.o ?_
 refine zi 1 c.o ?_
 refine zi 2 c.o ?_
 refine zi 4 c.o ?_
 refine zi 5 c.o ?_
 refine zi 6 c.o ?_
 refine yA 3 rfl (λK hK=> ?_)
 go_simp
 refine(HEA.o W.drew _ (i.o.below hH) (zy Y.o hH)).mono ?_
 rintro e hw3 ⟨rfl,M⟩;have G:Below W.heap.size W hw3:=zy hH M;refine hK.out _ _ G (λ_=> ?_)
 clear hK K M hH;refine yA 7 rfl (λK hK=> ?_)
 go_simp
 refine(HEB.o hw3 _ (i.o.below G) (zy Y.o G)).mono ?_
 rintro e q ⟨rfl,M⟩;have A:Below W.heap.size W q:=zy G M;refine hK.out _ _ A (λ_=> ?_)
 clear hK K M G;refine zi 8 c.o ?_
 refine zi 9 c.o ?_
 refine zi 10 c.o ?_
 refine xC ?_
 go_upto_region 2 with fail
 by_cases hz0:z=va
 rotate_left
 ·have j:((z:Int)==va)=false:=by simp [hz0]
  have I:=qh hz0;clear hz0;refine qz (S:=λx=>Below W.heap.size W x) ((zy A (Below.refl _ _).drew)) (λhK2=> ?_)
  refine zi 0 c.o ?_
  refine zi 1 c.o ?_
  refine zi 2 c.o ?_
  refine zi 3 c.o ?_
  refine zi 4 c.o ?_
  refine zi 5 c.o ?_
  refine zi 6 c.o ?_
  refine zi 7 c.o ?_
  refine zi 8 c.o ?_
  refine zi 9 c.o ?_
  refine xC ?_
  have t:=qh (i.o.below (zy A (Below.refl _ _).drew));have E:J2 (Below B w q.drew):=kD.o.trans ((zy A (Below.refl _ _).drew).mono (Nat.le_trans yK.o Y.o.size));have D:J2 (Since (λk=>k=mb) W q.drew):=xW _ (zy A (Below.refl _ _).drew);go_upto_region 4 with fail
  generalize World.drew _=W4 at t E D ⊢;have C4:J2 (∀x,Below W4.heap.size W4 x->K3 x C 1 (I4 (reg:Int))):=λx hx=>zl hx _ _ ((D.o.cell (p:=⟨C,1,none⟩) (zA y.o) (λe=>HGM.o e)).trans (ze y.o 1));refine wp_region_noPanic ?_
  refine xg (n0:=8) (S:=λx=>Below W4.heap.size W4 x) (by kernel_rfl) ((Below.refl _ _).drew) (λg=> ?_)
  refine zU 0 (λ_=>g) ?_
  refine zU 1 (λ_=>g) ?_
  refine vX [7,8] 2 C4.o g ?_
  refine zU 3 (λ_=>g) ?_
  refine zU 4 (λ_=>g) ?_
  refine zU 5 (λ_=>g) ?_
  refine zU 6 (λ_=>g) ?_
  refine zU 7 (λ_=>g) ?_
  refine kg 8 rfl (λK hK=> ?_)
  obtain⟨s,Q⟩:=(t.o.below g).ze4 P;go_simp
  refine hK.out _ _ (λh=>absurd rfl h) ?_
  clear hK K;refine xZ (by kernel_rfl) ?_ _
  refine NoPanic.normal ?_
  clear s Q;have J:=qh ((t.o.below g).zgt reg P 0);have L:J2 (Below B w (W4.drew.setCell ⟨N,1+reg,none⟩ (I4 0))):=E.o.drew.setCell (p:=⟨N,1+reg,none⟩) i.o.base _;go_wp2_with fail
  refine(zav J.o).mono ?_
  rintro e w9 ⟨rfl,rfl⟩;by_cases u:buf.length=0
  ·have X:=qh u;have j:decide (buf.length=0)=true:=decide_eq_true u;clear u;rw [j];go_wp2_with fail
   go_ret;rw [Z.o,if_neg I.o,if_pos X.o];exact ze5 J.o L.o
  have X:=qh u;have j:decide (buf.length=0)=false:=decide_eq_false u;clear u;rw [j];go_wp2_with fail
  go_ret;rw [Z.o,if_neg I.o,if_neg X.o];exact gY L.o
 have j:((z:Int)==va)=true:=by simp [hz0]
 have I:=qh hz0;clear hz0;refine qz (S:=λx=>Below W.heap.size W x) ((zy A (Below.refl _ _).drew)) (λhK2=> ?_)
 refine zi 0 c.o ?_
 refine zi 1 c.o ?_
 refine zi 2 c.o ?_
 refine zi 3 c.o ?_
 refine zi 4 c.o ?_
 refine zi 5 c.o ?_
 refine zi 6 c.o ?_
 refine zi 7 c.o ?_
 refine zi 8 c.o ?_
 refine zi 9 c.o ?_
 refine xC ?_
 go_upto_region 3 with fail
 refine wp_region_noPanic ?_
 refine xg (n0:=8) (S:=λx=>Below W.heap.size W x) (by kernel_rfl) ((zy A (Below.refl _ _).drew.drew)) (λf=> ?_)
 refine zU 0 (λ_=>f) ?_
 refine zU 1 (λ_=>f) ?_
 refine zU 2 (λ_=>f) ?_
 refine vX [7,8,9] 3 c.o f ?_
 refine zU 4 (λ_=>f) ?_
 refine vX [7,8,9] 5 c.o f ?_
 refine zU 6 (λ_=>f) ?_
 refine zU 7 (λ_=>f) ?_
 refine kg 8 rfl (λK hK=> ?_)
 obtain⟨s,Q⟩:=(i.o.below f).bN uS;go_simp
 refine hK.out _ _ (λh=>absurd rfl h) ?_
 clear hK K;refine zU 9 (λh=>absurd h (by decide+kernel)) ?_
 refine xZ (by kernel_rfl) ?_ _
 refine NoPanic.normal ?_
 clear s Q;have t:=qh ((i.o.below f).zew v vb);have E:J2 (Below B w (q.drew.drew.setCell ⟨mb,v,none⟩ (I4 vb))):=(kD.o.trans (f.mono (Nat.le_trans yK.o Y.o.size))).setCell (p:=⟨mb,v,none⟩) i.o.uG.1 _;have D:J2 (Since (λk=>k=mb) W (q.drew.drew.setCell ⟨mb,v,none⟩ (I4 vb))):=(xW _ f).trans (Since.setCell (F:=λk=>k=mb) (p:=⟨mb,v,none⟩) (Since.refl _ _) (.inl rfl) _) (λ_ h=> .inl h);go_upto_region 4 with fail
 have eW:q.drew.drew.setCell ⟨mb,v,none⟩ (I4 vb)=(q.setCell ⟨mb,v,none⟩ (I4 vb)).drew.drew:=rfl;rw [eW] at t E D;clear eW;generalize (World.setCell q ⟨mb,v,none⟩ (I4 vb)).drew.drew=W4 at t E D ⊢;have C4:J2 (∀x,Below W4.heap.size W4 x->K3 x C 1 (I4 (reg:Int))):=λx hx=>zl hx _ _ ((D.o.cell (p:=⟨C,1,none⟩) (zA y.o) (λe=>HGM.o e)).trans (ze y.o 1));refine wp_region_noPanic ?_
 refine xg (n0:=8) (S:=λx=>Below W4.heap.size W4 x) (by kernel_rfl) ((Below.refl _ _).drew) (λg=> ?_)
 refine zU 0 (λ_=>g) ?_
 refine zU 1 (λ_=>g) ?_
 refine vX [7,8] 2 C4.o g ?_
 refine zU 3 (λ_=>g) ?_
 refine zU 4 (λ_=>g) ?_
 refine zU 5 (λ_=>g) ?_
 refine zU 6 (λ_=>g) ?_
 refine zU 7 (λ_=>g) ?_
 refine kg 8 rfl (λK hK=> ?_)
 obtain⟨s,Q⟩:=(t.o.below g).ze4 P;go_simp
 refine hK.out _ _ (λh=>absurd rfl h) ?_
 clear hK K;refine xZ (by kernel_rfl) ?_ _
 refine NoPanic.normal ?_
 clear s Q;have J:=qh ((t.o.below g).zgt reg P 1);have L:J2 (Below B w (W4.drew.setCell ⟨N,1+reg,none⟩ (I4 1))):=E.o.drew.setCell (p:=⟨N,1+reg,none⟩) i.o.base _;go_wp2_with fail
 refine(zav J.o).mono ?_
 rintro e w9 ⟨rfl,rfl⟩;by_cases u:buf.length=0
 ·have X:=qh u;have j:decide (buf.length=0)=true:=decide_eq_true u;clear u;rw [j];go_wp2_with fail
  go_ret;rw [Z.o,if_pos I.o,if_pos X.o];exact ze5 J.o L.o
 have X:=qh u;have j:decide (buf.length=0)=false:=decide_eq_false u;clear u;rw [j];go_wp2_with fail
 go_ret;rw [Z.o,if_pos I.o,if_neg X.o];exact gY L.o
end Go.Proofs.YtmijlmglnnbdjaaGreatDoor
namespace Go.Proofs.YtmijlmglnnbdjaaGreatDoor
open Go.RowKit
set_option maxRecDepth 100000
set_option maxHeartbeats 16000000
variable {v0:Value}
theorem zqO {w:World} {B j mb mc:Nat} {pc r0 r1 r2 r3 dom:Int} {buf:List zq} {bv:Value} {m:zC} {mem:List Int} {bad:Bool} (h:xP v0 w B j pc r0 r1 r2 r3 buf bv m dom mem mb mc bad) (hB:B<=w.heap.size) (hd1:1<=dom) (hd2:dom<=1000) (d:Nat) (x:yg) (ka kb:Value) (ha:zJ d w x.a ka) (F:zJ d w x.b kb)
  (qC:0<=x.reg/\x.reg<4) (H:0<=x.var/\x.var<(mem.length:Int)) (hbl:buf.length<=1000000):Calls Tryz.prog 160 #[.pointer (some ⟨j,0,none⟩),qO x ka kb] w λe U=>
  vk v0 w B j m dom mb mc (if m.model=0 then some (⟨pc, [r0,r1,r2,r3],buf⟩,mem.set x.var.toNat (yF [r0,r1,r2,r3] dom d x.a),bad) else if qM buf m ⟨x.var,yF [r0,r1,r2,r3] dom d x.a⟩=true then some (⟨pc, [r0,r1,r2,r3],jQ buf m ⟨x.var,yF [r0,r1,r2,r3] dom d x.a⟩⟩,mem,bad) else none) e U:=by
 have D:=λW V (hV:xP v0 W B j pc r0 r1 r2 r3 buf V m dom mem mb mc bad) (hW:Below w.heap.size w W)=>zbi hV hd1 hd2 d x.a ka (ha.below hW);obtain⟨aa,ac,rfl, -⟩:=ha.slice;obtain⟨ba,bc,rfl, -⟩:=F.slice;obtain⟨Z,Y,rfl, -⟩:=zh.slice h.vR;obtain⟨op,reg,v,a,b,yT⟩:=x;simp only [] at qC H ha F D ⊢;obtain⟨reg,rfl⟩:∃k:Nat,reg=(k:Int):=⟨reg.toNat,by omega⟩;obtain⟨v,rfl⟩:∃k:Nat,v=(k:Int):=⟨v.toNat,by omega⟩;have hr4:reg<4:=by omega
 have uS:v<mem.length:=by omega
 have bW:(v:Int)<(mem.length:Int):=H.2;have hrI:(reg:Int)<4:=qC.2;try simp only [Int.toNat_natCast]
 clear ha F;unfold qO;simp only [];unfold qD at D;generalize hva:yF [r0,r1,r2,r3] dom d a=va at D ⊢;clear hva;generalize a.kind=ak at D ⊢;generalize a.n=an at D ⊢;generalize a.op=ao at D ⊢;generalize a.kids.length=al at D ⊢;generalize b.kind=bk at ⊢;generalize b.n=bn at ⊢;generalize b.op=bo at ⊢;generalize b.kids.length=bl at ⊢;have HEA:=qh D;clear D;obtain⟨res,t⟩:∃r:Option (zD × List Int × Bool),r=(if m.model=0 then some (⟨pc, [r0,r1,r2,r3],buf⟩,mem.set v (va),bad) else if qM buf m ⟨(v:Int),va⟩=true then some (⟨pc, [r0,r1,r2,r3],jQ buf m ⟨(v:Int),va⟩⟩,mem,bad) else none):=⟨_,rfl⟩;rw [<-t]
 have J:=qh t;clear t;obtain⟨X,L⟩:=qxE buf.length;rw [<-L] at h hbl;have HUN:=qh L;have HR:=qh h;have yK:=qh hB;have R:=qh ((Below.refl w.heap.size w).alloc (Nat.le_refl _) (.cells #[I4 op,I4 (reg:Int),I4 (v:Int),I4 ak,I4 an, .int .u8 ao, .slice aa al ac,I4 bk,I4 bn, .int .u8 bo, .slice ba bl bc,I4 yT] 107));have I:=qh (zQ w (.cells #[I4 op,I4 (reg:Int),I4 (v:Int),I4 ak,I4 an, .int .u8 ao, .slice aa al ac,I4 bk,I4 bn, .int .u8 bo, .slice ba bl bc,I4 yT] 107));clear h L hB;go_enter Tryz.func160,Tryz.ntmps160
 go_upto_region 1 with fail
 generalize World.alloc w _=W at R I ⊢;obtain⟨T,hgi⟩:=qxE w.heap.size;rw [<-hgi] at I ⊢;clear hgi;have q:=qh (HR.o.below R.o);have kD:J2 (Below B w W):=R.o.mono yK.o
 have CC:J2 (∀x,Below W.heap.size W x->K3 x T 2 (I4 (v:Int))/\K3 x T 3 (I4 ak)/\K3 x T 4 (I4 an)/\K3 x T 5 (.int .u8 ao)/\K3 x T 6 (.slice aa al ac)/\K3 x j 5 (.slice Z X Y)/\K3 x j 6 (I4 m.model)/\K3 x j 7 (I4 m.bound)/\K3 x j 9 (.slice (some ⟨mb,0,none⟩) mem.length mc)):=λx hx=>⟨zl hx _ _ (ze I.o 2),zl hx _ _ (ze I.o 3),zl hx _ _ (ze I.o 4),zl hx _ _ (ze I.o 5),zl hx _ _ (ze I.o 6),zl hx _ _ (ze q.o.block 5),zl hx _ _ (ze q.o.block 6),zl hx _ _ (ze q.o.block 7),zl hx _ _ (ze q.o.block 9)⟩;obtain⟨c0,c1,c2,c3,c4,c5,c6,c7,c8⟩:=CC.o W (Below.refl _ _);go_wp2_with fail
 refine(HEA.o W _ q.o R.o).mono ?_
 rintro e g ⟨rfl,E⟩;have P:=qh E;have f:=qh (q.o.below E);have O:J2 (Below B w g):=kD.o.trans (E.mono (Nat.le_trans yK.o R.o.size));clear E c0 c1 c2 c3 c4 c5 c6 c7 c8;have G:J2 (∀x,Below g.heap.size g x->K3 x T 2 (I4 (v:Int))/\K3 x j 5 (.slice Z X Y)/\K3 x j 6 (I4 m.model)/\K3 x j 7 (I4 m.bound)/\K3 x j 9 (.slice (some ⟨mb,0,none⟩) mem.length mc)):=λx hx=>⟨zl (zy P.o hx) _ _ (ze I.o 2),zl hx _ _ (ze f.o.block 5),zl hx _ _ (ze f.o.block 6),zl hx _ _ (ze f.o.block 7),zl hx _ _ (ze f.o.block 9)⟩;obtain⟨-, -,e6, -, -⟩:=G.o g (Below.refl _ _);by_cases hm:m.model=0
 ·have M:((m.model:Int)==0)=true:=by simp [hm]
  have HM:=qh hm;clear hm;go_upto_region 3 with fail
  clear e6 M;refine wp_region_noPanic ?_
  refine xg (n0:=8) (S:=λx=>Below g.heap.size g x) (by kernel_rfl) ((Below.refl _ _).drew) (λc=> ?_)
  refine zU 0 (λ_=>c) ?_
  refine zU 1 (λ_=>c) ?_
  refine zU 2 (λ_=>c) ?_
  refine vX [7,8] 3 G.o c ?_
  refine zU 4 (λ_=>c) ?_
  refine vX [7,8] 5 G.o c ?_
  refine zU 6 (λ_=>c) ?_
  refine zU 7 (λ_=>c) ?_
  refine kg 8 rfl (λK hK=> ?_)
  obtain⟨s,Q⟩:=(f.o.below c).bN uS;go_simp
  refine hK.out _ _ (λh=>absurd rfl h) ?_
  clear hK K;refine xZ (by kernel_rfl) ?_ _
  refine NoPanic.normal ?_
  clear s Q;have N:=qh ((f.o.below c).zew v va);have z:J2 (Below B w (g.drew.setCell ⟨mb,v,none⟩ (I4 va))):=O.o.drew.setCell (p:=⟨mb,v,none⟩) f.o.uG.1 _;go_wp2_with fail
  go_ret;rw [J.o,if_pos HM.o];exact jV N.o z.o
 have M:((m.model:Int)==0)=false:=by simp [hm]
 have HM:=qh hm;clear hm;have kT:J2 (∀x,Below g.heap.size g x->Calls Tryz.prog 126 #[.slice Z X Y, .agg #[I4 m.model,I4 m.bound], .agg #[I4 (v:Int),I4 va]] x λe U=>(∃bJ,e= .returned (.tuple #[bJ, .bool (qM buf m ⟨(v:Int),va⟩)])/\zX U bJ (jQ buf m ⟨(v:Int),va⟩)/\(qM buf m ⟨(v:Int),va⟩=true->U.ownsRow x.heap.size 116 2 bJ (jQ buf m ⟨(v:Int),va⟩).length (zx zq.cells (jQ buf m ⟨(v:Int),va⟩))))/\Below x.heap.size x U):=λx hx=>zmR x _ buf (f.o.below hx).vR (by rw [<-HUN.o];exact hbl) m ⟨(v:Int),va⟩;obtain⟨pb,hpb⟩:=qxE (jQ buf m ⟨(v:Int),va⟩);rw [<-hpb] at kT J;clear hpb;go_upto_region 5 with fail
 clear e6 M;cases hok:qM buf m ⟨(v:Int),va⟩ with
 |true=>
  rw [hok] at kT J;clear hok;refine wp_region_noPanic ?_
  refine xg (n0:=21) (S:=λx=>Below g.heap.size g x) (by kernel_rfl) ((Below.refl _ _).drew) (λc=> ?_)
  refine zU 0 (λ_=>c) ?_
  refine zU 1 (λ_=>c) ?_
  refine zU 2 (λ_=>c) ?_
  refine zU 3 (λ_=>c) ?_
  refine zU 4 (λ_=>c) ?_
  refine vX [14,15,16,17,18,19,20,21,22] 5 G.o c ?_
  refine zU 6 (λ_=>c) ?_
  refine zU 7 (λ_=>c) ?_
  refine zU 8 (λ_=>c) ?_
  refine vX [14,15,16,17,18,19,20,21,22] 9 G.o c ?_
  refine zU 10 (λ_=>c) ?_
  refine vX [13,14,15,16,17,18,19,20,21,22] 11 G.o c ?_
  refine zU 12 (λ_=>c) ?_
  refine zU 13 (λ_=>c) ?_
  refine kg 14 rfl (λK hK=> ?_)
  go_simp
  refine(kT.o g.drew c).mono ?_
  rintro e A ⟨⟨bJ,rfl,u,l⟩,F⟩;obtain⟨xa,xc,rfl, -⟩:=zh.slice u;have vW:=qh l;clear u l;have i:Below g.heap.size g A:=zy c F;refine hK.out _ _ (λ_ _=>i) ?_
  clear hK K F c;refine zU 15 (λ_=>i) ?_
  refine zU 16 (λ_=>i) ?_
  refine zU 17 (λ_=>i) ?_
  refine zU 18 (λ_=>i) ?_
  refine zU 19 (λ_=>i) ?_
  refine zU 20 (λ_=>i) ?_
  refine kg 21 rfl (λK hK=> ?_)
  have y:=qh ((f.o.below i).block);have s:A.cell? ⟨j,5,none⟩=some (.slice Z X Y):=ze y.o 5;have Q:A.frozen? ⟨j,5,none⟩=false:=zH y.o 5;go_simp
  refine hK.out _ _ (λh=>absurd rfl h) ?_
  clear hK K;refine zU 22 (λh=>absurd h (by decide+kernel)) ?_
  refine xZ (by kernel_rfl) ?_ _
  refine NoPanic.normal ?_
  clear s Q;have z:J2 (Below B w (A.setCell ⟨j,5,none⟩ (.slice xa pb.length xc))):=(O.o.trans (i.mono (Nat.le_trans yK.o (Nat.le_trans R.o.size P.o.size)))).setCell (p:=⟨j,5,none⟩) q.o.base _;have N:=qh ((f.o.below i).ztg (V:=g.drew) ⟨zA f.o.block,f.o.uG.2⟩ (vW.o rfl));go_wp2_with fail
  go_ret;first|rw [J.o,if_neg HM.o,if_pos rfl] |rw [J.o,if_neg HM.o,if_pos trivial]
  exact jV N.o z.o
 |false=>
 rw [hok] at kT J;clear hok;refine wp_region_noPanic ?_
 refine xg (n0:=21) (S:=λx=>Below g.heap.size g x) (by kernel_rfl) ((Below.refl _ _).drew) (λc=> ?_)
 refine zU 0 (λ_=>c) ?_
 refine zU 1 (λ_=>c) ?_
 refine zU 2 (λ_=>c) ?_
 refine zU 3 (λ_=>c) ?_
 refine zU 4 (λ_=>c) ?_
 refine vX [14,15,16,17,18,19,20,21,22] 5 G.o c ?_
 refine zU 6 (λ_=>c) ?_
 refine zU 7 (λ_=>c) ?_
 refine zU 8 (λ_=>c) ?_
 refine vX [14,15,16,17,18,19,20,21,22] 9 G.o c ?_
 refine zU 10 (λ_=>c) ?_
 refine vX [13,14,15,16,17,18,19,20,21,22] 11 G.o c ?_
 refine zU 12 (λ_=>c) ?_
 refine zU 13 (λ_=>c) ?_
 refine kg 14 rfl (λK hK=> ?_)
 go_simp
 refine(kT.o g.drew c).mono ?_
 rintro e C ⟨⟨bJ,rfl,u,l⟩,F⟩;obtain⟨xa,xc,rfl, -⟩:=zh.slice u;have vW:=qh l;clear u l;have i:Below g.heap.size g C:=zy c F;refine hK.out _ _ (λ_ _=>i) ?_
 clear hK K F c;refine zU 15 (λ_=>i) ?_
 refine zU 16 (λ_=>i) ?_
 refine zU 17 (λ_=>i) ?_
 refine zU 18 (λ_=>i) ?_
 refine zU 19 (λ_=>i) ?_
 refine zU 20 (λ_=>i) ?_
 refine kg 21 rfl (λK hK=> ?_)
 have y:=qh ((f.o.below i).block);have s:C.cell? ⟨j,5,none⟩=some (.slice Z X Y):=ze y.o 5;have Q:C.frozen? ⟨j,5,none⟩=false:=zH y.o 5;go_simp
 refine hK.out _ _ (λh=>absurd rfl h) ?_
 clear hK K;refine zU 22 (λh=>absurd h (by decide+kernel)) ?_
 refine xZ (by kernel_rfl) ?_ _
 refine NoPanic.normal ?_
 clear s Q;have z:J2 (Below B w (C.setCell ⟨j,5,none⟩ (.slice xa pb.length xc))):=(O.o.trans (i.mono (Nat.le_trans yK.o (Nat.le_trans R.o.size P.o.size)))).setCell (p:=⟨j,5,none⟩) q.o.base _;go_wp2_with fail
 go_ret;rw [J.o,if_neg HM.o,if_neg (λh=>by cases h)];exact gY z.o
end Go.Proofs.YtmijlmglnnbdjaaGreatDoor
namespace Go.Proofs.YtmijlmglnnbdjaaGreatDoor
open Go.RowKit
set_option maxRecDepth 100000
set_option maxHeartbeats 16000000
variable {v0:Value}
def wyL:List (Int × Value):= [(1, .func (.func 159) #[] #[]),(2, .func (.func 160) #[] #[]),(3, .func (.func 161) #[] #[]),(4, .func (.func 162) #[] #[]),(5, .func (.func 163) #[] #[]),(6, .func (.func 164) #[] #[]),(7, .func (.func 165) #[] #[]),(8, .func (.func 166) #[] #[]),(9, .func (.func 167) #[] #[]),(12, .func (.func 168) #[] #[]),(13, .func (.func 169) #[] #[])]
theorem zte (w:World):Calls Tryz.prog 129 #[] w (zmS wyL w):=by
 have g:= @run_makeMap Tryz.prog;have d:qN (w.alloc (.map #[] 0)) w.heap.size [] :=⟨#[],0,zQ w _,rfl⟩;have b:Below w.heap.size w (w.alloc (.map #[] 0)):=(Below.refl _ _).alloc (Nat.le_refl _) _;go_enter Tryz.func129,Tryz.ntmps129
 go_wp2_with(refine qJ _ rfl _ _ _ 195 rfl 3 194 .i64 Tryz.underlying195 Tryz.underlying3 w.heap.size _ rfl _ rfl _ rfl d ?_;clear d;intro h d c f;replace b:=b.trans (c.below b.size (λk i=>by omega));clear c f);go_ret;exact⟨w.heap.size,rfl,d,Nat.le_refl _,b⟩
def zqn (k:Int):Prop:=k=1\/k=2\/k=3\/k=4\/k=5\/k=6\/k=7\/k=8\/k=9\/k=12\/k=13
theorem zwp {w:World} {B y mb mc:Nat} {pc r0 r1 r2 r3:Int} {buf:List zq} {A:Value} {m:zC} {c:zG} {s:zo} (h:xP v0 w B y (pc+1) r0 r1 r2 r3 buf A m c.domain s.mem mb mc s.bad) (t:B<=w.heap.size) (j:1<=c.domain) (i:c.domain<=1000) (d:Nat) (x:yg) (ka o:Value) (r:zJ d w x.a ka) (q:zJ d w x.b o)
  (p:0<=x.reg/\x.reg<4) (g:0<=x.var/\x.var<(s.mem.length:Int)) (l:buf.length<=1000000) (v:zqn x.op):
  ∃f,kF wyL x.op=some (.func (.func f) #[] #[])/\(∀u W,(callFunc f u).run Tryz.prog W= .ok (.enter f u) W)/\
   Calls Tryz.prog f #[.pointer (some ⟨y,0,none⟩),qO x ka o] w λe z=>vk v0 w B y m c.domain mb mc (stepT c m s ⟨pc, [r0,r1,r2,r3],buf⟩ x d) e z:=by
 rcases v with k|k|k|k|k|k|k|k|k|k|k
 ·exact⟨_,by rw [k];rfl,λ_ _=>rfl,by rw [zan k];exact ztM h t j i d x ka o r q p g l⟩
 ·refine⟨_,by rw [k];rfl,λ_ _=>rfl, ?_⟩
  have n:=zqO h t j i d x ka o r q p g l;by_cases hm:m.model=0
  ·rw [pJ k hm];simp only [if_pos hm] at n;exact n
  simp only [if_neg hm] at n;cases hp:qM buf m ⟨x.var,yF [r0,r1,r2,r3] c.domain d x.a⟩ with
  |true=>rw [pK k hm hp];simp only [hp,if_true] at n;exact n
  |false=>rw [pO k hm hp];simp only [hp,Bool.false_eq_true,if_false] at n;exact n
 ·exact⟨_,by rw [k];rfl,λ_ _=>rfl,by rw [zci k];exact zwS h t j i d x ka o r q p g l⟩
 ·exact⟨_,by rw [k];rfl,λ_ _=>rfl,by rw [bM k];exact zqP h t j i d x ka o r q p g l⟩
 ·exact⟨_,by rw [k];rfl,λ_ _=>rfl,by rw [uX k];exact ztN h t j i d x ka o r q p g l⟩
 ·refine⟨_,by rw [k];rfl,λ_ _=>rfl, ?_⟩
  have n:=zwR h t j i d x ka o r q p g l;by_cases hv:s.mem.getD x.var.toNat 0=yF [r0,r1,r2,r3] c.domain d x.a
  ·rw [zaq k hv];simp only [if_pos hv] at n;exact n
  rw [zao k hv];simp only [if_neg hv] at n;exact n
 ·exact⟨_,by rw [k];rfl,λ_ _=>rfl,by rw [uY k];exact ztO h t j i d x ka o r q p g l⟩
 ·exact⟨_,by rw [k];rfl,λ_ _=>rfl,by rw [uD k];exact zox h t j i d x ka o r q p g l⟩
 ·exact⟨_,by rw [k];rfl,λ_ _=>rfl,by rw [wR k];exact zoy h t j i d x ka o r q p g l⟩
 ·refine⟨_,by rw [k];rfl,λ_ _=>rfl, ?_⟩
  have n:=zoz h t j i d x ka o r q p g l;rw [uE k];by_cases hv:yF [r0,r1,r2,r3] c.domain d x.a=0
  ·simp only [if_pos hv] at n ⊢;exact n
  simp only [if_neg hv] at n ⊢;exact n
 exact⟨_,by rw [k];rfl,λ_ _=>rfl,by rw [zbu k];exact ztP h t j i d x ka o r q p g l⟩
