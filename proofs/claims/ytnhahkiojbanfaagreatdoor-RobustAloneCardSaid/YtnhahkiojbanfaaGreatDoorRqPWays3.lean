/- Steps. -/
import Derived.Test.YtnhahkiojbanfaaGreatDoorRqPWays
set_option linter.all false
namespace Go.Proofs.YtnhahkiojbanfaaGreatDoor
open Go.RowKit
set_option maxRecDepth 100000
set_option maxHeartbeats 16000000
variable {v0:Value}
theorem zl8 {w:World} {B gr mb mc:Nat} {pc r0 r1 r2 r3 dom:Int} {buf:List zl} {bv:Value} {m:zu} {mem:List Int} {bad:Bool} (h:yx v0 w B gr pc r0 r1 r2 r3 buf bv m dom mem mb mc bad) (hB:B<=w.heap.size) (hd1:1<=dom) (hd2:dom<=1000) (d:Nat) (x:zC) (ka kb:Value) (ha:zw d w x.a ka) (hb:zw d w x.b kb)
  (yO:0<=x.reg/\x.reg<4) (hvar:0<=x.var/\x.var<(mem.length:Int)) (hbl:buf.length<=1000000):Calls Tryz.prog 121 #[.pointer (some ⟨gr,0,none⟩),xw x ka kb] w λe w'=>
  xG v0 w B gr m dom mb mc (if m.model=0 then some (⟨pc, [r0,r1,r2,r3],buf⟩,mem.set x.var.toNat (zW [r0,r1,r2,r3] dom d x.a),bad) else if qQ buf m ⟨x.var,zW [r0,r1,r2,r3] dom d x.a⟩=true then some (⟨pc, [r0,r1,r2,r3],wP buf m ⟨x.var,zW [r0,r1,r2,r3] dom d x.a⟩⟩,mem,bad) else none) e w':=by
 have zZ:=λW V (hV:yx v0 W B gr pc r0 r1 r2 r3 buf V m dom mem mb mc bad) (hW:Below w.heap.size w W)=>gW hV hd1 hd2 d x.a ka (ha.below hW)
 obtain⟨aa,ac,rfl, -⟩:=ha.slice
 obtain⟨ba,bc,rfl, -⟩:=hb.slice
 obtain⟨ua,uc,rfl, -⟩:=zh.slice h.qm
 obtain⟨op,reg,v,a,b,yt⟩:=x
 simp only [] at yO hvar ha hb zZ ⊢
 obtain⟨reg,rfl⟩:∃k:Nat,reg=(k:Int):=⟨reg.toNat,by omega⟩
 obtain⟨v,rfl⟩:∃k:Nat,v=(k:Int):=⟨v.toNat,by omega⟩
 have hr4:reg<4:=by omega
 have kW:v<mem.length:=by omega
 have hvI:(v:Int)<(mem.length:Int):=hvar.2
 have hrI:(reg:Int)<4:=yO.2
 try simp only [Int.toNat_natCast]
 clear ha hb
 unfold xw
 simp only []
 unfold yP at zZ
 generalize hva:zW [r0,r1,r2,r3] dom d a=va at zZ ⊢
 clear hva
 generalize a.kind=ak at zZ ⊢
 generalize a.n=an at zZ ⊢
 generalize a.op=ao at zZ ⊢
 generalize a.kids.length=al at zZ ⊢
 generalize b.kind=bk at ⊢
 generalize b.n=bn at ⊢
 generalize b.op=bo at ⊢
 generalize b.kids.length=bl at ⊢
 have HEA:=qh zZ
 clear zZ
 obtain⟨res,hres⟩:∃r:Option (zA × List Int × Bool),r=(if m.model=0 then some (⟨pc, [r0,r1,r2,r3],buf⟩,mem.set v (va),bad) else if qQ buf m ⟨(v:Int),va⟩=true then some (⟨pc, [r0,r1,r2,r3],wP buf m ⟨(v:Int),va⟩⟩,mem,bad) else none):=⟨_,rfl⟩
 rw [<-hres]
 have yK:=qh hres
 clear hres
 obtain⟨un,hun⟩:∃n,n=buf.length:=⟨_,rfl⟩
 rw [<-hun] at h hbl
 have HUN:=qh hun
 have HR:=qh h
 have yH:=qh hB
 have HA:=qh ((Below.refl w.heap.size w).alloc (Nat.le_refl _) (.cells #[.int .i64 op, .int .i64 (reg:Int), .int .i64 (v:Int), .int .i64 ak, .int .i64 an, .int .u8 ao, .slice aa al ac, .int .i64 bk, .int .i64 bn, .int .u8 bo, .slice ba bl bc, .int .i64 yt] 60))
 have HX:=qh (zS w (.cells #[.int .i64 op, .int .i64 (reg:Int), .int .i64 (v:Int), .int .i64 ak, .int .i64 an, .int .u8 ao, .slice aa al ac, .int .i64 bk, .int .i64 bn, .int .u8 bo, .slice ba bl bc, .int .i64 yt] 60))
 clear h hun hB
 go_enter Tryz.func121,Tryz.ntmps121
 go_upto_region 1 with fail
 generalize World.alloc w _=W at HA HX ⊢
 obtain⟨gi,hgi⟩:∃g,g=w.heap.size:=⟨_,rfl⟩
 rw [<-hgi] at HX ⊢
 clear hgi
 have HRW:=qh (HR.out.below HA.out)
 have qN:Hid (Below B w W):=HA.out.mono yH.out
 have CC:Hid (∀x,Below W.heap.size W x->x.cell? ⟨gi,2,none⟩=some (.int .i64 (v:Int))/\x.cell? ⟨gi,3,none⟩=some (.int .i64 ak)/\x.cell? ⟨gi,4,none⟩=some (.int .i64 an)/\x.cell? ⟨gi,5,none⟩=some (.int .u8 ao)/\x.cell? ⟨gi,6,none⟩=some (.slice aa al ac)/\x.cell? ⟨gr,5,none⟩=some (.slice ua un uc)/\x.cell? ⟨gr,6,none⟩=some (.int .i64 m.model)/\x.cell? ⟨gr,7,none⟩=some (.int .i64 m.bound)/\x.cell? ⟨gr,9,none⟩=some (.slice (some ⟨mb,0,none⟩) mem.length mc)):=λx hx=>⟨zk hx _ _ (ze HX.out 2),zk hx _ _ (ze HX.out 3),zk hx _ _ (ze HX.out 4),zk hx _ _ (ze HX.out 5),zk hx _ _ (ze HX.out 6),zk hx _ _ (ze HRW.out.block 5),zk hx _ _ (ze HRW.out.block 6),zk hx _ _ (ze HRW.out.block 7),zk hx _ _ (ze HRW.out.block 9)⟩
 obtain⟨c0,c1,c2,c3,c4,c5,c6,c7,c8⟩:=CC.out W (Below.refl _ _)
 go_wp2_with fail
 refine(HEA.out W _ HRW.out HA.out).mono ?_
 rintro e w2 ⟨rfl,hb2⟩
 have HB2:=qh hb2
 have HR2:=qh (HRW.out.below hb2)
 have HBB:Hid (Below B w w2):=qN.out.trans (hb2.mono (Nat.le_trans yH.out HA.out.size))
 clear hb2 c0 c1 c2 c3 c4 c5 c6 c7 c8
 have C2:Hid (∀x,Below w2.heap.size w2 x->x.cell? ⟨gi,2,none⟩=some (.int .i64 (v:Int))/\x.cell? ⟨gr,5,none⟩=some (.slice ua un uc)/\x.cell? ⟨gr,6,none⟩=some (.int .i64 m.model)/\x.cell? ⟨gr,7,none⟩=some (.int .i64 m.bound)/\x.cell? ⟨gr,9,none⟩=some (.slice (some ⟨mb,0,none⟩) mem.length mc)):=λx hx=>⟨zk (zM HB2.out hx) _ _ (ze HX.out 2),zk hx _ _ (ze HR2.out.block 5),zk hx _ _ (ze HR2.out.block 6),zk hx _ _ (ze HR2.out.block 7),zk hx _ _ (ze HR2.out.block 9)⟩
 obtain⟨-, -,e6, -, -⟩:=C2.out w2 (Below.refl _ _)
 by_cases hm:m.model=0
 ·have hm1:((m.model:Int)==0)=true:=by simp [hm]
  have HM:=qh hm
  clear hm
  go_upto_region 3 with fail
  clear e6 hm1
  refine wp_region_noPanic ?_
  refine yh (n0:=8) (S:=λx=>Below w2.heap.size w2 x) (by kernel_rfl) ((Below.refl _ _).drew) (λhT=> ?_)
  refine zJ 0 (λ_=>hT) ?_
  refine zJ 1 (λ_=>hT) ?_
  refine zJ 2 (λ_=>hT) ?_
  refine qP [7,8] 3 C2.out hT ?_
  refine zJ 4 (λ_=>hT) ?_
  refine qP [7,8] 5 C2.out hT ?_
  refine zJ 6 (λ_=>hT) ?_
  refine zJ 7 (λ_=>hT) ?_
  refine qx 8 rfl (λK hK=> ?_)
  obtain⟨q0,q1⟩:=(HR2.out.below hT).kD kW
  go_simp
  refine hK.out _ _ (λh=>absurd rfl h) ?_
  clear hK K
  refine yA (by kernel_rfl) ?_ _
  refine NoPanic.normal ?_
  clear q0 q1
  have HR3:=qh ((HR2.out.below hT).zaZ v va)
  have HB3:Hid (Below B w (w2.drew.setCell ⟨mb,v,none⟩ (.int .i64 va))):=HBB.out.drew.setCell (p:=⟨mb,v,none⟩) HR2.out.jD.1 _
  go_wp2_with fail
  go_ret
  rw [yK.out,if_pos HM.out]
  exact qV HR3.out HB3.out
 have hm1:((m.model:Int)==0)=false:=by simp [hm]
 have HM:=qh hm
 clear hm
 have zak:Hid (∀x,Below w2.heap.size w2 x->Calls Tryz.prog 157 #[.slice ua un uc, .agg #[.int .i64 m.model, .int .i64 m.bound], .agg #[.int .i64 (v:Int), .int .i64 va]] x λe w'=>(∃bW,e= .returned (.tuple #[bW, .bool (qQ buf m ⟨(v:Int),va⟩)])/\yu w' bW (wP buf m ⟨(v:Int),va⟩)/\(qQ buf m ⟨(v:Int),va⟩=true->w'.ownsRow x.heap.size 110 2 bW (wP buf m ⟨(v:Int),va⟩).length (zq zl.cells (wP buf m ⟨(v:Int),va⟩))))/\Below x.heap.size x w'):=λx hx=>zp4 x _ buf (HR2.out.below hx).qm (by rw [<-HUN.out];exact hbl) m ⟨(v:Int),va⟩
 obtain⟨pb,hpb⟩:∃l,l=wP buf m ⟨(v:Int),va⟩:=⟨_,rfl⟩
 rw [<-hpb] at zak yK
 clear hpb
 go_upto_region 5 with fail
 clear e6 hm1
 cases hok:qQ buf m ⟨(v:Int),va⟩ with
 |true=>
  rw [hok] at zak yK
  clear hok
  refine wp_region_noPanic ?_
  refine yh (n0:=21) (S:=λx=>Below w2.heap.size w2 x) (by kernel_rfl) ((Below.refl _ _).drew) (λhT=> ?_)
  refine zJ 0 (λ_=>hT) ?_
  refine zJ 1 (λ_=>hT) ?_
  refine zJ 2 (λ_=>hT) ?_
  refine zJ 3 (λ_=>hT) ?_
  refine zJ 4 (λ_=>hT) ?_
  refine qP [14,15,16,17,18,19,20,21,22] 5 C2.out hT ?_
  refine zJ 6 (λ_=>hT) ?_
  refine zJ 7 (λ_=>hT) ?_
  refine zJ 8 (λ_=>hT) ?_
  refine qP [14,15,16,17,18,19,20,21,22] 9 C2.out hT ?_
  refine zJ 10 (λ_=>hT) ?_
  refine qP [13,14,15,16,17,18,19,20,21,22] 11 C2.out hT ?_
  refine zJ 12 (λ_=>hT) ?_
  refine zJ 13 (λ_=>hT) ?_
  refine qx 14 rfl (λK hK=> ?_)
  go_simp
  refine(zak.out w2.drew hT).mono ?_
  rintro e zbO ⟨⟨bW,rfl,hbf,hrow⟩,hb⟩
  obtain⟨xa,xc,rfl, -⟩:=zh.slice hbf
  have je:=qh hrow
  clear hbf hrow
  have jK:Below w2.heap.size w2 zbO:=zM hT hb
  refine hK.out _ _ (λ_ _=>jK) ?_
  clear hK K hb hT
  refine zJ 15 (λ_=>jK) ?_
  refine zJ 16 (λ_=>jK) ?_
  refine zJ 17 (λ_=>jK) ?_
  refine zJ 18 (λ_=>jK) ?_
  refine zJ 19 (λ_=>jK) ?_
  refine zJ 20 (λ_=>jK) ?_
  refine qx 21 rfl (λK hK=> ?_)
  have HBK:=qh ((HR2.out.below jK).block)
  have q0:zbO.cell? ⟨gr,5,none⟩=some (.slice ua un uc):=ze HBK.out 5
  have q1:zbO.frozen? ⟨gr,5,none⟩=false:=zK HBK.out 5
  go_simp
  refine hK.out _ _ (λh=>absurd rfl h) ?_
  clear hK K
  refine zJ 22 (λh=>absurd h (by decide+kernel)) ?_
  refine yA (by kernel_rfl) ?_ _
  refine NoPanic.normal ?_
  clear q0 q1
  have HB3:Hid (Below B w (zbO.setCell ⟨gr,5,none⟩ (.slice xa pb.length xc))):=(HBB.out.trans (jK.mono (Nat.le_trans yH.out (Nat.le_trans HA.out.size HB2.out.size)))).setCell (p:=⟨gr,5,none⟩) HRW.out.base _
  have HR3:=qh ((HR2.out.below jK).zm0 (V:=w2.drew) ⟨zy HR2.out.block,HR2.out.jD.2⟩ (je.out rfl))
  go_wp2_with fail
  go_ret
  first|rw [yK.out,if_neg HM.out,if_pos rfl] |rw [yK.out,if_neg HM.out,if_pos trivial]
  exact qV HR3.out HB3.out
 |false=>
 rw [hok] at zak yK
 clear hok
 refine wp_region_noPanic ?_
 refine yh (n0:=21) (S:=λx=>Below w2.heap.size w2 x) (by kernel_rfl) ((Below.refl _ _).drew) (λhT=> ?_)
 refine zJ 0 (λ_=>hT) ?_
 refine zJ 1 (λ_=>hT) ?_
 refine zJ 2 (λ_=>hT) ?_
 refine zJ 3 (λ_=>hT) ?_
 refine zJ 4 (λ_=>hT) ?_
 refine qP [14,15,16,17,18,19,20,21,22] 5 C2.out hT ?_
 refine zJ 6 (λ_=>hT) ?_
 refine zJ 7 (λ_=>hT) ?_
 refine zJ 8 (λ_=>hT) ?_
 refine qP [14,15,16,17,18,19,20,21,22] 9 C2.out hT ?_
 refine zJ 10 (λ_=>hT) ?_
 refine qP [13,14,15,16,17,18,19,20,21,22] 11 C2.out hT ?_
 refine zJ 12 (λ_=>hT) ?_
 refine zJ 13 (λ_=>hT) ?_
 refine qx 14 rfl (λK hK=> ?_)
 go_simp
 refine(zak.out w2.drew hT).mono ?_
 rintro e zaG ⟨⟨bW,rfl,hbf,hrow⟩,hb⟩
 obtain⟨xa,xc,rfl, -⟩:=zh.slice hbf
 have je:=qh hrow
 clear hbf hrow
 have jK:Below w2.heap.size w2 zaG:=zM hT hb
 refine hK.out _ _ (λ_ _=>jK) ?_
 clear hK K hb hT
 refine zJ 15 (λ_=>jK) ?_
 refine zJ 16 (λ_=>jK) ?_
 refine zJ 17 (λ_=>jK) ?_
 refine zJ 18 (λ_=>jK) ?_
 refine zJ 19 (λ_=>jK) ?_
 refine zJ 20 (λ_=>jK) ?_
 refine qx 21 rfl (λK hK=> ?_)
 have HBK:=qh ((HR2.out.below jK).block)
 have q0:zaG.cell? ⟨gr,5,none⟩=some (.slice ua un uc):=ze HBK.out 5
 have q1:zaG.frozen? ⟨gr,5,none⟩=false:=zK HBK.out 5
 go_simp
 refine hK.out _ _ (λh=>absurd rfl h) ?_
 clear hK K
 refine zJ 22 (λh=>absurd h (by decide+kernel)) ?_
 refine yA (by kernel_rfl) ?_ _
 refine NoPanic.normal ?_
 clear q0 q1
 have HB3:Hid (Below B w (zaG.setCell ⟨gr,5,none⟩ (.slice xa pb.length xc))):=(HBB.out.trans (jK.mono (Nat.le_trans yH.out (Nat.le_trans HA.out.size HB2.out.size)))).setCell (p:=⟨gr,5,none⟩) HRW.out.base _
 go_wp2_with fail
 go_ret
 rw [yK.out,if_neg HM.out,if_neg (λh=>by cases h)]
 exact jA HB3.out
