/- Steps. -/
import Derived.Test.YtmijlmglnnbdjaaGreatDoorUtPClone
import Derived.Test.YtmijlmglnnbdjaaGreatDoorUtPWays4
set_option linter.all false
namespace Go.Proofs.YtmijlmglnnbdjaaGreatDoor
open Go.RowKit
set_option maxRecDepth 100000
set_option maxHeartbeats 16000000
variable {v0:Value}
theorem zwo:(Tryz.prog.info? 194).map (λi=>(i.zero,i.size,i.bytes))=some (some .nilFunc,1,8):=by kernel_rfl
theorem zmv (P:World):(zeroValue 194).run Tryz.prog P= .ok .nilFunc P:=by
 obtain⟨g,f,b,d,c⟩:=info_parts zwo;simp [zeroValue,typeInfo,f,b]
def zmw (n:Nat) (x:yg):Prop:=(0<=x.reg/\x.reg<4)/\(0<=x.var/\x.var<(n:Int))/\zqn x.op
theorem vk.told {w f:World} {B g:Nat} {m:zC} {dom:Int} {mb mc:Nat} {c:Option (zD × List Int × Bool)} {e:Ending} (h:vk v0 w B g m dom mb mc c e f):∃b:Bool,e= .returned (.bool b)/\vk v0 w B g m dom mb mc c (.returned (.bool b)) f:=by
 rcases h.2 with⟨-,d⟩|⟨t,mem,bad,i, -,d, -⟩
 ·exact⟨false,d,d ▸ h⟩
 exact⟨true,d,d ▸ h⟩
theorem vk.base {w W c:World} {B d:Nat} {m:zC} {dom:Int} {mb mc:Nat} {b:Option (zD × List Int × Bool)} {e:Ending} (h:vk v0 W B d m dom mb mc b e c) (f:Below B w W):vk v0 w B d m dom mb mc b e c:=⟨f.trans h.1,h.2⟩
theorem ztb {L w:World} {B q mb mc:Nat} {pc:Nat} {r0 r1 r2 r3:Int} {buf:List zq} {bv:Value} {m:zC} {c:zG} {s:zo} (h:xP v0 w B q (pc:Int) r0 r1 r2 r3 buf bv m c.domain s.mem mb mc s.bad) (hB:B<=w.heap.size) (hd1:1<=c.domain) (hd2:c.domain<=1000) (d:Nat) (l:List yg) (lv:Value) (hl:gX d L lv l) (h0:Below L.heap.size L w) (hB0:L.heap.size<=B)
  (hx:∀j,j<l.length->zmw s.mem.length (l.getD j default)) (hbl:buf.length<=1000000):Calls Tryz.prog 97 #[.pointer (some ⟨q,0,none⟩),lv] w λe w'=>
  vk v0 w B q m c.domain mb mc (if (pc:Int)<(l.length:Int) then stepT c m s ⟨(pc:Int), [r0,r1,r2,r3],buf⟩ (l.getD pc default) d else none) e w':=by
 obtain⟨la,lc,rfl, -⟩:=zh.slice hl;have z:=zh.room hl;obtain⟨n,hn⟩:=qxE l.length;rw [<-hn] at hl z hx ⊢;have HL:=qh hl;have HN:=qh hn;have HR:=qh h;have yK:=qh hB;have t:=qh h0;have HB0:=qh hB0;clear h0 hB0;have c0:w.cell? ⟨q,0,none⟩=some (I4 (pc:Int)):=ze h.block 0;clear hl hn;rcases Nat.lt_or_ge pc n with P|P
 rotate_left
 ·have hge:(n:Int)<=(pc:Int):=by omega
  rw [if_neg (by omega)];clear HL HR h hx hB;go_enter Tryz.func97,Tryz.ntmps97
  go_wp2_with fail
  go_ret;exact gY (Below.refl _ _)
 have vC:(pc:Int)<(n:Int):=by omega
 have hwr:IntKind.i64.wrap ((pc:Int)+1)=(pc:Int)+1:=IntWalk.i64_in _ (by omega);clear z;rw [if_pos vC];obtain⟨eb,eo,aa,Q,Z,U,yI, -,⟨x0,x1,x2⟩,⟨x3,x4,x5,x6⟩,⟨x7,x8,x9,y⟩,uf,xa,xb⟩:=gX.part HL.o pc (by rw [<-HN.o];exact P);subst yI;have A:=hx pc P;replace x0:=zl t.o _ _ x0;replace x1:=zl t.o _ _ x1;replace x2:=zl t.o _ _ x2;replace x3:=zl t.o _ _ x3;replace x4:=zl t.o _ _ x4;replace x5:=zl t.o _ _ x5;replace x6:=zl t.o _ _ x6;replace x7:=zl t.o _ _ x7;replace x8:=zl t.o _ _ x8;replace x9:=zl t.o _ _ x9;replace y:=zl t.o _ _ y;replace uf:=zl t.o _ _ uf;obtain⟨x,hxx⟩:=qxE (l.getD pc default)
 rw [<-hxx] at x0 x1 x2 x3 x4 x5 x6 x7 x8 x9 y uf xa xb A ⊢;have g:=λW V (hV:xP v0 W B q ((pc:Int)+1) r0 r1 r2 r3 buf V m c.domain s.mem mb mc s.bad) (D:B<=W.heap.size) (ha:zJ d W x.a (.slice aa x.a.kids.length Q)) (hb:zJ d W x.b (.slice Z x.b.kids.length U))=>zwp hV D hd1 hd2 d x _ _ ha hb A.1 A.2.1 hbl A.2.2;unfold qO at g;have H:=λW (D:Below L.heap.size L W)=>xa.below D;have G:=λW (D:Below L.heap.size L W)=>xb.below D;clear xa xb A hxx;obtain⟨res,M⟩:=qxE (stepT c m s ⟨(pc:Int), [r0,r1,r2,r3],buf⟩ x d);rw [<-M] at g ⊢;clear M;obtain⟨op,reg,v,a,b,yT⟩:=x
 simp only [] at x0 x1 x2 x3 x4 x5 x6 x7 x8 x9 y uf g H G ⊢;obtain⟨al,hal⟩:=qxE a.kids.length;obtain⟨bl,wz⟩:=qxE b.kids.length;obtain⟨ak,hak⟩:=qxE a.kind;obtain⟨an,han⟩:=qxE a.n;obtain⟨ao,hao⟩:=qxE a.op;obtain⟨bk,hbk⟩:=qxE b.kind;obtain⟨bn,hbn⟩:=qxE b.n;obtain⟨bo,wD⟩:=qxE b.op;rw [<-hak] at x3 g;rw [<-han] at x4 g;rw [<-hao] at x5 g;rw [<-hal] at x6 g H;rw [<-hbk] at x7 g;rw [<-hbn] at x8 g;rw [<-wD] at x9 g;rw [<-wz] at y g G;clear hak han hao hal hbk hbn wD wz;have N:=qh g;have HXA:=qh H;have HXB:=qh G
 have HA:=qh ((Below.refl w.heap.size w).alloc (Nat.le_refl _) (.cells #[I4 op,I4 reg,I4 v,I4 ak,I4 an, .int .u8 ao, .slice aa al Q,I4 bk,I4 bn, .int .u8 bo, .slice Z bl U,I4 yT] 107));have HX:=qh (zQ w (.cells #[I4 op,I4 reg,I4 v,I4 ak,I4 an, .int .u8 ao, .slice aa al Q,I4 bk,I4 bn, .int .u8 bo, .slice Z bl U,I4 yT] 107));clear g H G h hB hx HL;go_enter Tryz.func97,Tryz.ntmps97
 go_upto_region 4 with fail
 generalize World.alloc w _=X at HA HX ⊢;obtain⟨r,hgi⟩:=qxE w.heap.size;rw [<-hgi] at HX ⊢;have HNG:=qh (show r≠q by have:=zA HR.o.block;omega)
 clear hgi c0 x0 x1 x2 x3 x4 x5 x6 x7 x8 x9 y uf;have HRX:=qh (HR.o.below HA.o);have d0:X.cell? ⟨q,0,none⟩=some (I4 (pc:Int)):=ze HRX.o.block 0;have f0:X.frozen? ⟨q,0,none⟩=false:=zH HRX.o.block 0;go_upto_region 5 with fail
 clear d0 f0;have HRY:=qh (HRX.o.zqo ((pc:Int)+1));have vT:J2 (Below B w (X.setCell ⟨q,0,none⟩ (I4 ((pc:Int)+1)))):=(HA.o.mono yK.o).setCell (p:=⟨q,0,none⟩) HR.o.base _;have HSY:J2 (Since (λk=>k=q) X (X.setCell ⟨q,0,none⟩ (I4 ((pc:Int)+1)))):=Since.setCell (F:=λk=>k=q) (p:=⟨q,0,none⟩) (Since.refl _ _) (.inl rfl) _;have C:J2 (zJ d (X.setCell ⟨q,0,none⟩ (I4 ((pc:Int)+1))) a (.slice aa al Q)/\zJ d (X.setCell ⟨q,0,none⟩ (I4 ((pc:Int)+1))) b (.slice Z bl U)):=⟨(HXA.o _ (t.o.trans (vT.o.mono HB0.o))),(HXB.o _ (t.o.trans (vT.o.mono HB0.o)))⟩
 generalize World.setCell X ⟨q,0,none⟩ _=Y at HRY vT HSY C ⊢;have T:B<=Y.heap.size:=Nat.le_trans yK.o vT.o.size;obtain⟨f,O,hfn, -⟩:=N.o Y _ HRY.o T C.o.1 C.o.2
 have hrun:J2 (∀W,Below Y.heap.size Y W->Calls Tryz.prog f #[.pointer (some ⟨q,0,none⟩), .agg #[I4 op,I4 reg,I4 v,I4 ak,I4 an, .int .u8 ao, .slice aa al Q,I4 bk,I4 bn, .int .u8 bo, .slice Z bl U,I4 yT]] W λe w'=>vk v0 W B q m c.domain mb mc res e w'):=λW D=>by
  obtain⟨f',z2K, -,hc⟩:=N.o W _ (HRY.o.below D) (Nat.le_trans T D.size) (C.o.1.below D) (C.o.2.below D);rw [O] at z2K;cases z2K
  exact hc
 have CC:J2 (∀x,Below Y.heap.size Y x->K3 x r 0 (I4 op)/\K3 x r 1 (I4 reg)/\K3 x r 2 (I4 v)/\K3 x r 3 (I4 ak)/\K3 x r 4 (I4 an)/\K3 x r 5 (.int .u8 ao)/\K3 x r 6 (.slice aa al Q)/\K3 x r 7 (I4 bk)/\K3 x r 8 (I4 bn)/\K3 x r 9 (.int .u8 bo)/\K3 x r 10 (.slice Z bl U)/\K3 x r 11 (I4 yT)):=λx hx=>by
  have k:=λ(i:Nat) (u:Value) (hv:(#[I4 op,I4 reg,I4 v,I4 ak,I4 an, .int .u8 ao, .slice aa al Q,I4 bk,I4 bn, .int .u8 bo, .slice Z bl U,I4 yT] :Array Value)[i]? =some u)=>zl hx _ _ ((HSY.o.cell (p:=⟨r,i,none⟩) (zA HX.o) HNG.o).trans ((ze HX.o i).trans hv));exact⟨k 0 _ rfl,k 1 _ rfl,k 2 _ rfl,k 3 _ rfl,k 4 _ rfl,k 5 _ rfl,k 6 _ rfl,k 7 _ rfl,k 8 _ rfl,k 9 _ rfl,k 10 _ rfl,k 11 _ rfl⟩
 have HMF:=qh O;clear O N HXA HXB;refine wp_region_noPanic ?_
 refine xg (n0:=6) (S:=λx=>Below Y.heap.size Y x) (by kernel_rfl) ((Below.refl _ _).drew) (λhT=> ?_)
 refine zU 1 (λ_=>hT) ?_
 refine vX [3,6,7] 2 CC.o hT ?_
 refine zU 4 (λ_=>hT) ?_
 refine vX [6,7] 5 CC.o hT ?_
 refine kg 0 rfl (λK hK=> ?_)
 go_simp
 refine(zte Y.drew).mono ?_
 rintro e E ⟨mp,rfl,hmi, -,hb⟩;have R:=qm hmi Tryz.underlying195 Tryz.underlying3 (zmv E) op false;rw [HMF.o] at R;simp only [Option.getD_some,Bool.false_eq_true,if_false] at R;clear hmi;have J:Below Y.heap.size Y E:=zy hT hb;refine hK.out _ _ (λ_ _=>J) ?_
 clear hK K hb hT;refine kg 3 rfl (λK hK=> ?_)
 go_simp
 refine hK.out _ _ (λ_ _=>J) ?_
 clear hK K;refine kg 6 rfl (λK hK=> ?_)
 go_simp
 clear R;refine(hrun.o E J).mono ?_
 rintro e tw6 I;have hbx:Below B Y E:=J.mono T;obtain⟨bb,rfl,I⟩:=I.told;have HWE:=qh (I.base (vT.o.trans hbx));clear I hbx;refine hK.out _ _ (λh=>absurd rfl h) ?_
 clear hK K;refine zU 7 (λh=>absurd h (by decide+kernel)) ?_
 refine xZ (by kernel_rfl) ?_ _
 refine NoPanic.normal ?_
 clear hfn;go_wp2_with fail
 go_ret;exact HWE.o
theorem zqp {w:World} {B b mb mc:Nat} {pc r0 r1 r2 r3 dom:Int} {buf:List zq} {bv:Value} {m:zC} {mem:List Int} {bad:Bool} (h:xP v0 w B b pc r0 r1 r2 r3 buf bv m dom mem mb mc bad) (hB:B<=w.heap.size) (T:buf.length<=1000000) (v:Int)
  (hh:v∈yX buf m.model->0<=v/\v<(mem.length:Int)/\∃n,takeB buf v=(some ⟨v,n⟩,(takeB buf v).2)):Calls Tryz.prog 98 #[.pointer (some ⟨b,0,none⟩),I4 v] w λe L=>
  vk v0 w B b m dom mb mc (if v∈yX buf m.model then some (⟨pc, [r0,r1,r2,r3],(takeB buf v).2⟩,mem.set v.toNat ((takeB buf v).1.getD default).n,bad) else none) e L:=by
 have P:=λW V (hV:xP v0 W B b pc r0 r1 r2 r3 buf V m dom mem mb mc bad)=>zqq W V buf hV.vR T m.model;have A:=λW V (hV:xP v0 W B b pc r0 r1 r2 r3 buf V m dom mem mb mc bad)=>ztf W V buf hV.vR T v;obtain⟨ua,uc,rfl, -⟩:=zh.slice h.vR;obtain⟨a,hhs⟩:=qxE (yX buf m.model);rw [<-hhs] at hh P ⊢;obtain⟨un,R⟩:=qxE buf.length;rw [<-R] at h;have HUN:=qh R;have u:=qh h;have yK:=qh hB;have zaG:J2 (∀x,Below w.heap.size w x->Calls Tryz.prog 95 #[.slice ua un uc,I4 m.model] x λe L=>(∃sv,e= .returned sv/\qx L sv a)/\Below x.heap.size x L):=λx hx=>P x _ (u.o.below hx)
 have c:J2 (∀x,Below w.heap.size w x->K3 x b 5 (.slice ua un uc)/\K3 x b 6 (I4 m.model)):=λx hx=>⟨zl hx _ _ (ze u.o.block 5),zl hx _ _ (ze u.o.block 6)⟩;have HH:=qh hh;have gF:=qh A;clear P A hhs R h hB hh T;by_cases hv:v∈a
 rotate_left
 ·have I:a.contains v=false:=by simpa using hv
  rw [if_neg hv];clear hv;clear gF HH;obtain⟨res,d⟩:∃r:Option (zD × List Int × Bool),r=none:=⟨_,rfl⟩;rw [<-d];have zT:=qh d;clear d;go_enter Tryz.func98,Tryz.ntmps98
  go_upto_region 1 with fail
  refine qz (S:=λx=>Below w.heap.size w x) ((Below.refl _ _).drew) (λU=> ?_)
  refine zi 0 c.o ?_
  refine zi 1 c.o ?_
  refine zi 2 c.o ?_
  refine zi 3 c.o ?_
  refine zi 4 c.o ?_
  refine zi 5 c.o ?_
  refine zi 6 c.o ?_
  refine zi 7 c.o ?_
  refine zi 8 c.o ?_
  refine zi 9 c.o ?_
  refine zi 11 c.o ?_
  refine yA 10 rfl (λK hK=> ?_)
  go_simp
  refine(zaG.o w.drew U).mono ?_
  rintro e E ⟨⟨sv,rfl,i⟩,l⟩;obtain⟨ha,hc,rfl, -⟩:=zh.slice i;have O:Below w.heap.size w E:=zy U l;refine hK.out _ _ O (λ_=> ?_)
  clear hK K l U;refine yA 12 rfl (λK hK=> ?_)
  go_simp
  refine(zfJ E _ a i v).mono ?_
  rintro e z2L ⟨M,z⟩;rw [I] at M;subst M;have l:Below E.heap.size E z2L:=by rw [z];exact Below.refl _ _
  clear z i;have zzg:Below w.heap.size w z2L:=zy O l;refine hK.out _ _ zzg (λ_=> ?_)
  clear hK K l O;refine zi 13 c.o ?_
  refine xC ?_
  go_wp2_with fail
  go_ret;rw [zT.o];exact gY (zzg.mono yK.o)
 have I:a.contains v=true:=by simpa using hv
 obtain⟨hv0,hv1,G,H⟩:=HH.o hv;rw [if_pos hv,H];simp only [Option.getD_some];obtain⟨rest,C⟩:=qxE ((takeB buf v).2);rw [<-C] at H ⊢;clear C;obtain⟨f,rfl⟩:∃k:Nat,v=(k:Int):=⟨v.toNat,by omega⟩;have uS:f<mem.length:=by omega
 simp only [Int.toNat_natCast]
 have zgM:J2 (∀x,Below w.heap.size w x->Calls Tryz.prog 131 #[.slice ua un uc,I4 (f:Int)] x λe L=>(∃t q,e= .returned (.tuple #[.agg #[I4 (f:Int),I4 G], .slice t rest.length q, .bool true])/\L.ownsRow x.heap.size 116 2 (.slice t rest.length q) rest.length (zx zq.cells rest))/\Below x.heap.size x L):=λx hx=>(gF.o x _ (u.o.below hx)).mono (by
  rintro e L ⟨⟨sv,M,hbf,g⟩,l⟩;rw [H] at M hbf g;obtain⟨t,q,rfl, -⟩:=zh.slice hbf;exact⟨⟨t,q,M,g rfl⟩,l⟩)
 clear H hv hv0;clear gF HH;obtain⟨res,d⟩:∃r:Option (zD × List Int × Bool),r=some (⟨pc, [r0,r1,r2,r3],rest⟩,mem.set f G,bad):=⟨_,rfl⟩;rw [<-d];have zT:=qh d;clear d;go_enter Tryz.func98,Tryz.ntmps98
 go_upto_region 1 with fail
 refine qz (S:=λx=>Below w.heap.size w x) ((Below.refl _ _).drew) (λU=> ?_)
 refine zi 0 c.o ?_
 refine zi 1 c.o ?_
 refine zi 2 c.o ?_
 refine zi 3 c.o ?_
 refine zi 4 c.o ?_
 refine zi 5 c.o ?_
 refine zi 6 c.o ?_
 refine zi 7 c.o ?_
 refine zi 8 c.o ?_
 refine zi 9 c.o ?_
 refine zi 11 c.o ?_
 refine yA 10 rfl (λK hK=> ?_)
 go_simp
 refine(zaG.o w.drew U).mono ?_
 rintro e D ⟨⟨sv,rfl,i⟩,l⟩;obtain⟨ha,hc,rfl, -⟩:=zh.slice i;have N:Below w.heap.size w D:=zy U l;refine hK.out _ _ N (λ_=> ?_)
 clear hK K l U;refine yA 12 rfl (λK hK=> ?_)
 go_simp
 refine(zfJ D _ a i (f:Int)).mono ?_
 rintro e y ⟨M,z⟩;rw [I] at M;subst M;have l:Below D.heap.size D y:=by rw [z];exact Below.refl _ _
 clear z i;have F:Below w.heap.size w y:=zy N l;refine hK.out _ _ F (λ_=> ?_)
 clear hK K l N;refine zi 13 c.o ?_
 refine xC ?_
 have c5:y.cell? ⟨b,5,none⟩=some (.slice ua un uc):=(c.o _ F).1;have HY:=qh F;clear F I;go_wp2_with fail
 refine(zgM.o y HY.o).mono ?_
 rintro e Q ⟨⟨t,q,rfl,g⟩,hb3⟩;clear c5;have vW:=qh g;have H3:J2 (Below w.heap.size w Q):=zy HY.o hb3;clear g hb3;have HA:=qh ((Below.refl Q.heap.size Q).alloc (Nat.le_refl _) (.cells #[I4 (f:Int),I4 G] 116));have HX:=qh (zQ Q (.cells #[I4 (f:Int),I4 G] 116));go_upto_region 4 with fail
 generalize World.alloc Q _=X at HA HX ⊢;obtain⟨s,hgx⟩:=qxE Q.heap.size;rw [<-hgx] at HX ⊢
 have HG:J2 (s≠b/\s≠mb):=by
  have h1:=zA u.o.block;have h2:=u.o.uG.2;have h3:=H3.o.size;exact⟨by omega,by omega⟩
 clear hgx;have Y:J2 (Below w.heap.size w X):=zy H3.o HA.o;have J:=qh (u.o.below (Y.o.drew));have Z:=qh (J.o.ztg (V:=y) (bJ:= .slice t rest.length q) (buf':=rest) ⟨Nat.lt_of_lt_of_le (zA u.o.block) HY.o.size,Nat.lt_of_lt_of_le u.o.uG.2 HY.o.size⟩ (xD vW.o HA.o.drew));have HRC:=qh (Z.o.zew f G);have HBC:J2 (Below B w ((X.drew.setCell ⟨b,5,none⟩ (.slice t rest.length q)).setCell ⟨mb,f,none⟩ (I4 G))):=((Y.o.drew.mono yK.o).setCell (p:=⟨b,5,none⟩) u.o.base _).setCell (p:=⟨mb,f,none⟩) u.o.uG.1 _
 have wN:J2 (Since (λk=>k=b\/k=mb) X X.drew/\X.drew.cell? ⟨b,9,none⟩=some (.slice (some ⟨mb,0,none⟩) mem.length mc)):=⟨(Since.refl _ X).drew,ze J.o.block 9⟩;have qV:J2 (Since (λk=>k=b\/k=mb) X (X.drew.setCell ⟨b,5,none⟩ (.slice t rest.length q))/\(X.drew.setCell ⟨b,5,none⟩ (.slice t rest.length q)).cell? ⟨b,9,none⟩=some (.slice (some ⟨mb,0,none⟩) mem.length mc)):=⟨Since.setCell (p:=⟨b,5,none⟩) wN.o.1 (.inl (.inl rfl)) _,ze Z.o.block 9⟩
 have HS2:J2 (Since (λk=>k=b\/k=mb) X ((X.drew.setCell ⟨b,5,none⟩ (.slice t rest.length q)).setCell ⟨mb,f,none⟩ (I4 G))/\((X.drew.setCell ⟨b,5,none⟩ (.slice t rest.length q)).setCell ⟨mb,f,none⟩ (I4 G)).cell? ⟨b,9,none⟩=some (.slice (some ⟨mb,0,none⟩) mem.length mc)):=⟨Since.setCell (p:=⟨mb,f,none⟩) qV.o.1 (.inl (.inr rfl)) _,by
  have:=ze HRC.o.block 9
  rw [List.length_set] at this;exact this⟩
 have j:J2 (∀x,(Since (λk=>k=b\/k=mb) X x/\K3 x b 9 (.slice (some ⟨mb,0,none⟩) mem.length mc))->K3 x b 9 (.slice (some ⟨mb,0,none⟩) mem.length mc)/\K3 x s 0 (I4 (f:Int))/\K3 x s 1 (I4 G)):=λx hx=>⟨hx.2,(hx.1.cell (p:=⟨s,0,none⟩) (zA HX.o) (λe=>e.elim HG.o.1 HG.o.2)).trans (ze HX.o 0),(hx.1.cell (p:=⟨s,1,none⟩) (zA HX.o) (λe=>e.elim HG.o.1 HG.o.2)).trans (ze HX.o 1)⟩;have q0:X.drew.cell? ⟨b,5,none⟩=some (.slice ua un uc):=ze J.o.block 5;have q1:X.drew.frozen? ⟨b,5,none⟩=false:=zH J.o.block 5
 refine qz (S:=λx=>Since (λk=>k=b\/k=mb) X x/\x.cell? ⟨b,9,none⟩=some (.slice (some ⟨mb,0,none⟩) mem.length mc)) (wN.o) (λhS=> ?_)
 refine zi 0 j.o ?_
 refine zi 1 j.o ?_
 refine zi 2 j.o ?_
 refine zi 3 j.o ?_
 refine zi 4 j.o ?_
 refine zi 5 j.o ?_
 refine zi 6 j.o ?_
 refine zi 7 j.o ?_
 refine zi 8 j.o ?_
 refine zi 9 j.o ?_
 refine zi 10 j.o ?_
 refine zi 11 j.o ?_
 refine zi 12 j.o ?_
 refine yA 13 rfl (λK hK=> ?_)
 go_simp
 have zzi:=qV.o;clear q0 q1;have q2:(X.setCell ⟨b,5,none⟩ (.slice t rest.length q)).cell? ⟨mb,f,none⟩=some (I4 (mem.getD f 0)):=(Z.o.bN uS).1;have q3:X.frozen? ⟨mb,f,none⟩=false:=((u.o.below Y.o).bN uS).2;refine hK.out _ _ zzi (λ_=> ?_)
 clear hK K hS;refine zi 14 j.o ?_
 refine yA 15 rfl (λK hK=> ?_)
 go_simp
 have z7f:=HS2.o;clear q2 q3;refine hK.out _ _ z7f (λ_=> ?_)
 clear hK K zzi;refine xC ?_
 go_wp2_with fail
 go_ret;rw [zT.o];exact jV HRC.o HBC.o
