/- Steps. -/
import Derived.Test.YtknmdmimecepfaaGreatDoorVhAxB
set_option linter.all false
namespace Go.Proofs.YtknmdmimecepfaaGreatDoor
open Go.RowKit
set_option maxRecDepth 100000
set_option maxHeartbeats 16000000
def EvR (_:World) (e:zP) (cs:List Value):Prop:=cs=e.cells
theorem EvR.stays:qN EvR:=λ_ _ _ _ h _=>h
theorem take_at {α:Type} [Inhabited α] {l:List α} {k j:Nat} (hj:j<k):(l.take k).getD j default=l.getD j default:=by
 rw [List.getD_eq_getElem?_getD,List.getElem?_take_of_lt hj, <-List.getD_eq_getElem?_getD]
theorem zo.zgA {w:World} {g:Nat} {W:za} (h:zo w g W) {i k:Nat} (hi:i<4) (hk:k<=8):zf EvR 6 w (.slice (some ⟨g,i*54+5,none⟩) k 8) ((W.th i).evs.take k):=by
 have hl:((W.th i).evs.take k).length=k:=by rw [List.length_take,(za.yu h.ok hi).evs];omega
 refine⟨some ⟨g,i*54+5,none⟩,8,by rw [hl],by rw [hl];omega,λj hj=> ?_⟩
 rw [hl] at hj
 refine⟨g,i*54+5,((W.th i).evs.getD j default).cells,rfl,zI h.blk,rfl,λk' hk'=> ?_,by rw [take_at hj];rfl⟩
 have hlen:k'<((W.th i).evs.getD j default).cells.length:=hk'
 rw [h.ev hi (j:=j) (k:=k') (by omega) hk' (List.getElem?_eq_getElem hlen),List.getElem?_eq_getElem hlen]
def wz (model:Int) (t:zH) (k:Nat) (e:zP):Bool:= !((List.range k).any λj=> !(t.evs.getD j default).come && jS model (t.evs.getD j default) e)
def qJ (W:za) (t:zH) (v:Nat):Nat->Int
 |0=>W.mem.getD v 0
 |j+1=>if (t.evs.getD j default).writes=true/\(t.evs.getD j default).v=(v:Int)/\(t.evs.getD j default).come=false then(t.evs.getD j default).n else qJ W t v j
theorem zhR (w:World) (mb:Nat) (model:Int) (hm:w.cell? ⟨mb,3,none⟩=some (.int .i64 model)) (b4 b7:Nat) (h4:w.cell? ⟨b4,0,none⟩=some (.pointer (some ⟨mb,0,none⟩))) (e:zP) (h7:w.heap[b7]? =some (.cells e.cells.toArray 61 (0,0))) (a:zP):
  Calls Tryz.prog 86 #[.agg a.cells.toArray, .pointer (some ⟨b4,0,none⟩), .pointer (some ⟨b7,0,none⟩)] w λr w'=>r= .returned (.bool (!a.come && jS model a e))/\Below w.heap.size w w':=by
 have hk:=λ(X:World) (hX:Below w.heap.size w X)=>zis X mb model (zk hX _ _ hm) a e
 obtain⟨r,hr⟩:∃r,r=jS model a e:=⟨_,rfl⟩
 rw [<-hr] at hk ⊢
 clear hr
 obtain⟨av,an,ar,aw,af,ac⟩:=a
 obtain⟨ev,en,er,ew,ef,ec⟩:=e
 unfold zP.val at hk
 unfold zP.cells at h7 ⊢
 simp only [] at h7 hk ⊢
 have HK:=qh hk
 have HB:=qh (zw w (.cells #[.int .i64 av, .int .i64 an, .bool ar, .bool aw, .bool af, .bool ac] 61))
 have H1:=qh (yG w (.cells #[.int .i64 av, .int .i64 an, .bool ar, .bool aw, .bool af, .bool ac] 61))
 have h7':=(HB.out.block _ (zI h7)).trans h7
 have p0:=zk HB.out _ _ h4
 clear hk hm h4 h7
 go_enter Tryz.func86,Tryz.ntmps86
 go_upto_region 1 with fail
 generalize World.alloc w _=X at HB H1 h7' p0 ⊢
 generalize w.heap.size=g at H1 ⊢
 have a0:=ze H1.out 0
 have a1:=ze H1.out 1
 have a2:=ze H1.out 2
 have a3:=ze H1.out 3
 have a4:=ze H1.out 4
 have a5:=ze H1.out 5
 have e0:=ze h7' 0
 have e1:=ze h7' 1
 have e2:=ze h7' 2
 have e3:=ze h7' 3
 have e4:=ze h7' 4
 have e5:=ze h7' 5
 clear h7' H1
 cases ac with
 |true=>
  go_wp2_with fail
  go_ret
  exact⟨by first|rfl|simp,HB.out⟩
 |false=>
 go_wp2_with(go_at_call 87;go_must(refine(HK.out X HB.out).mono ?_);rintro e Y ⟨rfl,hb⟩;(have HY:=qh (zn HB.out hb));clear hb)
 go_ret
 exact⟨by first|rfl|simp,HY.out⟩
theorem zdP (w:World) (mb:Nat) (model:Int) (hm:w.cell? ⟨mb,3,none⟩=some (.int .i64 model)) (g:Nat) (W:za) (hW:zo w g W) (i:Nat) (hi:i<4) (k:Nat) (hk:k<=8) (e:zP):
  Calls Tryz.prog 68 #[.pointer (some ⟨mb,0,none⟩), .pointer (some ⟨g,i*54,none⟩), .int .i64 k,e.val] w λr w'=>r= .returned (.bool (wz model (W.th i) k e))/\Below w.heap.size w w':=by
 obtain⟨r,hr⟩:∃r,r=wz model (W.th i) k e:=⟨_,rfl⟩
 obtain⟨q,hq⟩:∃q,q=(List.range ((W.th i).evs.take k).length).any λj=> !((W.th i).evs.getD j default).come && jS model ((W.th i).evs.getD j default) e:=⟨_,rfl⟩
 have hlk:((W.th i).evs.take k).length=k:=by rw [List.length_take,(za.yu hW.ok hi).evs];omega
 have hrq:r= !q:=by rw [hr,hq,hlk];rfl
 rw [<-hr]
 have HRQ:=qh hrq
 have hcells:e.cells.toArray= #[.int .i64 e.v, .int .i64 e.n, .bool e.reads, .bool e.writes, .bool e.fence, .bool e.come] :=rfl
 have hB:=xH w (.cells #[.pointer (some ⟨mb,0,none⟩)] 55) (.cells e.cells.toArray 61)
 have h1:=xI w (.cells #[.pointer (some ⟨mb,0,none⟩)] 55) (.cells e.cells.toArray 61)
 have h2:=xu w (.cells #[.pointer (some ⟨mb,0,none⟩)] 55) (.cells e.cells.toArray 61)
 have hcall:Calls Tryz.prog 64 #[.slice (some ⟨g,i*54+5,none⟩) k 8, .func (.func 86) #[] #[.pointer (some ⟨w.heap.size,0,none⟩), .pointer (some ⟨w.heap.size+1,0,none⟩)]] ((w.alloc (.cells #[.pointer (some ⟨mb,0,none⟩)] 55)).alloc (.cells e.cells.toArray 61)) λe' w'=>e'= .returned (.bool q)/\Below ((w.alloc (.cells #[.pointer (some ⟨mb,0,none⟩)] 55)).alloc (.cells e.cells.toArray 61)).heap.size ((w.alloc (.cells #[.pointer (some ⟨mb,0,none⟩)] 55)).alloc (.cells e.cells.toArray 61)) w':=by
  rw [hq]
  refine pX EvR EvR.stays _ _ _ ((hW.later hB).zgA hi hk) 86 #[] _ _ (λ_ _=>rfl) (λj hj Y cs hcl hcs hY=> ?_)
  rw [hlk] at hj
  rw [take_at hj] at hcs
  have hcs:cs=((W.th i).evs.getD j default).cells:=hcs
  subst hcs
  exact zhR Y mb model (zk (zn hB hY) _ _ hm) w.heap.size (w.heap.size+1) (zk hY _ _ (ze h1 0)) e ((hY.block _ (zI h2)).trans h2) _
 rw [hcells] at hcall hB
 have HB:=qh hB
 have zdl:=qh hcall
 clear hr hq hlk hrq hB h1 h2 hcall hcells hm hW
 have hkI:(k:Int)<=8:=by omega
 have hk0:(0:Int)<=(k:Int):=by omega
 unfold zP.val
 go_enter Tryz.func68,Tryz.ntmps68
 go_upto_region 1 with fail
 generalize World.alloc (World.alloc w _) _=X at HB zdl ⊢
 generalize w.heap.size=gb at zdl ⊢
 go_wp2_with(go_at_call 64;go_must(refine zdl.out.mono ?_);rintro e' Y ⟨rfl,hb⟩;(have HY:=qh (HB.out.trans (hb.mono HB.out.size)));clear hb)
 go_ret
 exact⟨by rw [HRQ.out];first|rfl|simp,HY.out⟩
theorem zgi (w:World) (a:zP):Calls Tryz.prog 65 #[.agg a.cells.toArray] w λr w'=>r= .returned (.bool (!a.come))/\Below w.heap.size w w':=by
 obtain⟨av,an,ar,aw,af,ac⟩:=a
 unfold zP.cells
 simp only []
 have HB:=qh (zw w (.cells #[.int .i64 av, .int .i64 an, .bool ar, .bool aw, .bool af, .bool ac] 61))
 go_enter Tryz.func65,Tryz.ntmps65
 go_wp2_with fail
 go_ret
 exact⟨by first|rfl|simp,HB.out⟩
theorem zm5 (w:World) (g:Nat) (W:za) (hW:zo w g W) (i:Nat) (hi:i<4) (v:Nat) (hv:v<4):
  Calls Tryz.prog 67 #[.pointer (some ⟨g,0,none⟩), .pointer (some ⟨g,i*54,none⟩), .int .i64 v] w λr w'=>r= .returned (.int .i64 (qJ W (W.th i) v (W.th i).many))/\Below w.heap.size w w':=by
 have wN:(W.th i).many<=8:=(za.yu hW.ok hi).many
 have m0:=hW.many hi
 have v0:=hW.mem hv
 obtain⟨t,ht⟩:∃t,t=W.th i:=⟨_,rfl⟩
 rw [show W.zD.getD i default=t from ht.symm] at m0
 rw [<-ht] at wN ⊢
 obtain⟨m,hm⟩:∃m,m=t.many:=⟨_,rfl⟩
 rw [<-hm] at wN m0 ⊢
 obtain⟨tf,htf⟩:∃f,f=qJ W t v:=⟨_,rfl⟩
 have ht0:tf 0=W.mem.getD v 0:=by rw [htf];rfl
 have hts:∀j,tf (j+1)=if (t.evs.getD j default).writes=true/\(t.evs.getD j default).v=(v:Int)/\(t.evs.getD j default).come=false then(t.evs.getD j default).n else tf j:=λj=>by rw [htf];rfl
 rw [<-htf]
 rw [<-ht0] at v0
 have HT:=qh ht
 have HTS:=qh hts
 have HW:=qh hW
 clear ht hm htf ht0 hts hW
 have hiI:(i:Int)<4:=by omega
 have hvI:(v:Int)<4:=by omega
 have hv0:(0:Int)<=(v:Int):=by omega
 have hmI:(m:Int)<=8:=by omega
 have hm0:(0:Int)<=(m:Int):=by omega
 go_enter Tryz.func67,Tryz.ntmps67
 go_upto_region 2 with fail
 have CC:Hid (∀x,Below w.heap.size w x->x.cell? ⟨g,i*54+53,none⟩=some (.int .i64 (m:Int))):=λx hx=>zk hx _ _ m0
 refine vP (S:=λx=>Below w.heap.size w x) ((Below.refl _ _).drew) (λhA2=> ?_)
 refine zh 0 CC.out ?_
 refine zh 1 CC.out ?_
 refine zh 2 CC.out ?_
 refine zh 3 CC.out ?_
 refine zh 4 CC.out ?_
 refine zh 5 CC.out ?_
 refine zh 6 CC.out ?_
 refine zh 7 CC.out ?_
 refine zh 8 CC.out ?_
 refine zh 9 CC.out ?_
 refine vK ?_
 obtain⟨X,hX⟩:∃X,X=w.drew:=⟨_,rfl⟩
 rw [<-hX] at hA2 ⊢
 have HX:=qh hA2
 clear hX hA2 CC m0 v0
 go_wp2_with fail
 go_loopg [7,25] m (λgg s7 s25 wr=>∃j:Nat,j<=m/\Hid (gg=m - j)/\s7= .int .i64 (tf j)/\s25= .int .i64 j/\Hid (Below w.heap.size w wr))
 case atStart=>exact⟨0,Nat.zero_le _,rfl,rfl,rfl,HX.out⟩
 case round=>
 obtain⟨j,hj,HG,rfl,rfl,HB⟩:=hrel
 obtain⟨wo,rfl⟩:∃wo:World,wo=wr:=⟨_,rfl⟩
 by_cases hlt:j<m
 rotate_left
 ·obtain rfl:m=j:=by omega
  go_wp2_with fail
  go_ret
  exact⟨rfl,HB.out⟩
 have qK:(j:Int)<(m:Int):=by omega
 have hw:=HW.out.later HB.out
 have he:=λk (hk:k<6) u (hu:((W.zD.getD i default).evs.getD j default).cells[k]? =some u)=>hw.ev hi (j:=j) (k:=k) (by omega) hk hu
 rw [show W.zD.getD i default=t from HT.out.symm] at he
 have hts:=HTS.out j
 obtain⟨e,hee⟩:∃e,e=t.evs.getD j default:=⟨_,rfl⟩
 rw [<-hee] at he hts
 obtain⟨ev,en,er,ew,ef,ec⟩:=e
 have z0:=he 0 (by omega) _ rfl
 have z1:=he 1 (by omega) _ rfl
 have z2:=he 2 (by omega) _ rfl
 have z3:=he 3 (by omega) _ rfl
 have z4:=he 4 (by omega) _ rfl
 have z5:=he 5 (by omega) _ rfl
 simp only [Nat.add_zero] at z0
 simp only [] at hts
 have HN:=qh hts
 obtain⟨tj,htj⟩:∃x,x=tf j:=⟨_,rfl⟩
 obtain⟨tn,htn⟩:∃x,x=tf (j+1):=⟨_,rfl⟩
 rw [<-htj]
 have zkP:=HN.out
 rw [<-htj, <-htn] at zkP
 have HTN:=qh htn
 have HS:=qh zkP
 have HA:=qh (zn HB.out (zw wo (.cells #[.int .i64 ev, .int .i64 en, .bool er, .bool ew, .bool ef, .bool ec] 61)))
 have zL:=qh (yG wo (.cells #[.int .i64 ev, .int .i64 en, .bool er, .bool ew, .bool ef, .bool ec] 61))
 clear hw he hee hts zkP htj htn HN
 go_upto_region 5 with fail
 generalize World.alloc wo _=Y at HA zL ⊢
 generalize wo.heap.size=ge at zL ⊢
 have e0:=ze zL.out 0
 have e1:=ze zL.out 1
 have e3:=ze zL.out 3
 have e5:=ze zL.out 5
 clear z0 z1 z2 z3 z4 z5 zL
 cases ew with
 |false=>
  obtain rfl:tn=tj:=by rw [HS.out,if_neg (by simp)]
  go_wp2_with fail
  go_roundg (m - (j+1))
  case measure=>rw [HG.out];omega
  case rel=>exact⟨j+1,by omega,rfl,by rw [HTN.out],by simp,HA.out⟩
 |true=>
 by_cases hv':ev=(v:Int)
 ·subst hv'
  cases ec with
  |true=>
   obtain rfl:tn=tj:=by rw [HS.out,if_neg (by simp)]
   go_wp2_with fail
   go_roundg (m - (j+1))
   case measure=>rw [HG.out];omega
   case rel=>exact⟨j+1,by omega,rfl,by rw [HTN.out],by simp,HA.out⟩
  |false=>
  obtain rfl:tn=en:=by rw [HS.out,if_pos ⟨rfl,rfl,rfl⟩]
  go_wp2_with fail
  go_roundg (m - (j+1))
  case measure=>rw [HG.out];omega
  case rel=>exact⟨j+1,by omega,rfl,by rw [HTN.out],by simp,HA.out⟩
 have hvb:((ev:Int)==(v:Int))=false:=by simpa using hv'
 obtain rfl:tn=tj:=by rw [HS.out,if_neg (λh=>hv' h.2.1)]
 clear hv'
 go_wp2_with fail
 go_roundg (m - (j+1))
 case measure=>rw [HG.out];omega
 case rel=>exact⟨j+1,by omega,rfl,by rw [HTN.out],by simp,HA.out⟩
