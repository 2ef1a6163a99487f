/- Steps. -/
import Derived.Lib.OwnBridge
import Derived.Shelf.Slices.Cells
import Derived.Shelf.Slices.In.SortNone
import Derived.Shelf.Slices.Turned
import Derived.Shelf.Sort.Plain
import Derived.Sort.OwnSortedInts
import Derived.Test.YtmijlmglnnbdjaaGreatDoorUtPSrc
import Derived.Test.YtmijlmglnnbdjaaGreatDoorUtTreeG2
set_option linter.all false
namespace Go.Proofs.YtmijlmglnnbdjaaGreatDoor
open Go.Shelf
def zoM:Go.Shelf.Ren:=⟨λ|189=>127|125=>158|257=>157|128=>203|129=>204|294=>194|295=>195|296=>196|297=>197|298=>198|299=>199|216=>200|300=>201|301=>202|328=>216|329=>217|330=>218|331=>219|332=>220|215=>221|343=>229|n=>n,λ|28=>27|3=>3|46=>170|0=>0|51=>242|53=>244|4=>4|183=>235|182=>234|131=>144|5=>5|9=>9|218=>258|222=>206|228=>275|229=>276|n=>n,λ|n=>n⟩
theorem zpN:Go.Proofs.Lays.n189 Tryz.prog zoM:= {
 mixed:=by kernel_rfl
 f125:=Tryz.func158.trans (congrArg some (by kernel_rfl))
 f128:=Tryz.func203.trans (congrArg some (by kernel_rfl))
 f129:=Tryz.func204.trans (congrArg some (by kernel_rfl))
 f189:=Tryz.func127.trans (congrArg some (by kernel_rfl))
 f215:=Tryz.func221.trans (congrArg some (by kernel_rfl))
 f216:=Tryz.func200.trans (congrArg some (by kernel_rfl))
 f257:=Tryz.func157.trans (congrArg some (by kernel_rfl))
 f294:=Tryz.func194.trans (congrArg some (by kernel_rfl))
 f295:=Tryz.func195.trans (congrArg some (by kernel_rfl))
 f296:=Tryz.func196.trans (congrArg some (by kernel_rfl))
 f297:=Tryz.func197.trans (congrArg some (by kernel_rfl))
 f298:=Tryz.func198.trans (congrArg some (by kernel_rfl))
 f299:=Tryz.func199.trans (congrArg some (by kernel_rfl))
 f300:=Tryz.func201.trans (congrArg some (by kernel_rfl))
 f301:=Tryz.func202.trans (congrArg some (by kernel_rfl))
 f328:=Tryz.func216.trans (congrArg some (by kernel_rfl))
 f329:=Tryz.func217.trans (congrArg some (by kernel_rfl))
 f330:=Tryz.func218.trans (congrArg some (by kernel_rfl))
 f331:=Tryz.func219.trans (congrArg some (by kernel_rfl))
 f332:=Tryz.func220.trans (congrArg some (by kernel_rfl))
 f343:=Tryz.func229.trans (congrArg some (by kernel_rfl))
 t0:=Tryz.underlying0
 a0:=Tryz.isAgg0
 z0:=Tryz.sizeOf0
 v0:=Tryz.zeroValue0
 t3:=Tryz.underlying3
 a3:=Tryz.isAgg3
 z3:=Tryz.sizeOf3
 v3:=Tryz.zeroValue3
 t4:=Tryz.underlying4
 a4:=Tryz.isAgg4
 z4:=Tryz.sizeOf4
 v4:=Tryz.zeroValue4
 t5:=Tryz.underlying5
 a5:=Tryz.isAgg5
 z5:=Tryz.sizeOf5
 v5:=Tryz.zeroValue5
 t9:=Tryz.underlying9
 a9:=Tryz.isAgg9
 z9:=Tryz.sizeOf9
 v9:=Tryz.zeroValue9
 t28:=Tryz.underlying27
 a28:=Tryz.isAgg27
 z28:=Tryz.sizeOf27
 v28:=Tryz.zeroValue27
 t46:=Tryz.underlying170
 a46:=Tryz.isAgg170
 z46:=Tryz.sizeOf170
 v46:=Tryz.zeroValue170
 t51:=Tryz.underlying242
 a51:=Tryz.isAgg242
 z51:=Tryz.sizeOf242
 v51:=Tryz.zeroValue242
 t53:=Tryz.underlying244
 a53:=Tryz.isAgg244
 z53:=Tryz.sizeOf244
 v53:=Tryz.zeroValue244
 t131:=Tryz.underlying144
 a131:=Tryz.isAgg144
 z131:=Tryz.sizeOf144
 v131:=Tryz.zeroValue144
 t182:=Tryz.underlying234
 a182:=Tryz.isAgg234
 z182:=Tryz.sizeOf234
 v182:=Tryz.zeroValue234
 t183:=Tryz.underlying235
 a183:=Tryz.isAgg235
 z183:=Tryz.sizeOf235
 v183:=Tryz.zeroValue235
 t218:=Tryz.underlying258
 a218:=Tryz.isAgg258
 z218:=Tryz.sizeOf258
 v218:=Tryz.zeroValue258
 t222:=Tryz.underlying206
 a222:=Tryz.isAgg206
 z222:=Tryz.sizeOf206
 v222:=Tryz.zeroValue206
 t228:=Tryz.underlying275
 a228:=Tryz.isAgg275
 z228:=Tryz.sizeOf275
 v228:=Tryz.zeroValue275
 t229:=Tryz.underlying276
 a229:=Tryz.isAgg276
 z229:=Tryz.sizeOf276
 v229:=Tryz.zeroValue276 }
open Go.Sort Go.RowKit in
theorem slices_Sort_int (b c g:Nat) (d:List Int) (w:World) (j:Holds (Value.int .i64) w b c d.toArray) (f:b<w.heap.size) (h:d.length<4611686018427387904):
  Calls Tryz.prog 127 #[.slice (some ⟨b,c,none⟩) d.length g] w λe i=>
   e= .returned (.tuple #[])/\∃n os,i=grow (putRow (Value.int .i64) (Sort.ahead w n) b c (d.mergeSort λx y=>decide (x<=y)).toArray) os:=Any.slices_Sort_int zpN b c g d w j f h
def zoN:Go.Shelf.Ren:=⟨λ|107=>130|108=>170|n=>n,λ|28=>27|3=>3|4=>4|0=>0|n=>n,λ|n=>n⟩
theorem zpO:Go.Proofs.Lays.n107 Tryz.prog zoN:= {
 mixed:=by kernel_rfl
 f107:=Tryz.func130.trans (congrArg some (by kernel_rfl))
 f108:=Tryz.func170.trans (congrArg some (by kernel_rfl))
 t0:=Tryz.underlying0
 a0:=Tryz.isAgg0
 z0:=Tryz.sizeOf0
 v0:=Tryz.zeroValue0
 t3:=Tryz.underlying3
 a3:=Tryz.isAgg3
 z3:=Tryz.sizeOf3
 v3:=Tryz.zeroValue3
 t4:=Tryz.underlying4
 a4:=Tryz.isAgg4
 z4:=Tryz.sizeOf4
 v4:=Tryz.zeroValue4
 t28:=Tryz.underlying27
 a28:=Tryz.isAgg27
 z28:=Tryz.sizeOf27
 v28:=Tryz.zeroValue27 }
open Go.Lib in
theorem slices_Contains_int (b d n c:Nat) (f:List Int) (x:Int) (w:World) (i:n<=f.length) (g:n<=9223372036854775807) (k:∀j,j<f.length->w.cell? ⟨b,d+j,none⟩=some (I4 (f.getD j 0))):
  Calls Tryz.prog 130 #[.slice (some ⟨b,d,none⟩) n c,I4 x] w λe h=>e= .returned (.bool ((f.take n).contains x))/\h=w:=Any.slices_Contains_int zpO b d n c f x w i g k
open Go.Lib in
theorem slices_Contains_int_empty (a:Option Addr) (c:Nat) (x:Int) (w:World):
  Calls Tryz.prog 130 #[.slice a 0 c,I4 x] w λe b=>e= .returned (.bool false)/\b=w:=Any.slices_Contains_int_empty zpO a c x w
def zl9:Go.Shelf.Ren:=⟨λ|20=>128|n=>n,λ|22=>27|3=>3|4=>4|0=>0|n=>n,λ|n=>n⟩
theorem zlw:Go.Proofs.Lays2.n20 Tryz.prog zl9:= {
 mixed:=by kernel_rfl
 f20:=Tryz.func128.trans (congrArg some (by kernel_rfl))
 t0:=Tryz.underlying0
 a0:=Tryz.isAgg0
 z0:=Tryz.sizeOf0
 v0:=Tryz.zeroValue0
 t3:=Tryz.underlying3
 a3:=Tryz.isAgg3
 z3:=Tryz.sizeOf3
 v3:=Tryz.zeroValue3
 t4:=Tryz.underlying4
 a4:=Tryz.isAgg4
 z4:=Tryz.sizeOf4
 v4:=Tryz.zeroValue4
 t22:=Tryz.underlying27
 a22:=Tryz.isAgg27
 z22:=Tryz.sizeOf27
 v22:=Tryz.zeroValue27
 i3:=by kernel_rfl }
open Go.RowKit Go.Lib Go.Sort in
theorem slices_Compact_int (c b f:Nat) (d:List Int) (w:World) (j:Holds (Value.int .i64) w c b d.toArray) (h:d.length<=9223372036854775807) (g:d.length<=f):
  Calls Tryz.prog 128 #[.slice (some ⟨c,b,none⟩) d.length f] w λe i=>e= .returned (.slice (some ⟨c,b,none⟩) (Lib.compact d).length f)/\∃q,i=putRow (Value.int .i64) (Sort.ahead w q) c b (Lib.compact d++List.replicate (d.length - (Lib.compact d).length) 0).toArray:=Any.slices_Compact_int zlw c b f d w j h g
open Go.RowKit Go.Lib Go.Sort in
theorem slices_Compact_int_empty (a:Option Addr) (b:Nat) (w:World):
  Calls Tryz.prog 128 #[.slice a 0 b] w λe c=>e= .returned (.slice a 0 b)/\c=w:=Any.slices_Compact_int_empty zlw a b w
open Go.RowKit Go.Sort in
theorem slices_Sort_int_none (p:Option Addr) (b:Nat) (w:World):
  Calls Tryz.prog 127 #[.slice p 0 b] w λe c=>e= .returned (.tuple #[])/\c=w:=Any.slices_Sort_int_none zpN p b w
end Go.Proofs.YtmijlmglnnbdjaaGreatDoor
namespace Go.Proofs.YtmijlmglnnbdjaaGreatDoor
open Go.RowKit
set_option maxRecDepth 100000
set_option maxHeartbeats 16000000
theorem zmL (w:World) (c:zG) (tv:Value) (d:Nat) (h:yP d w tv c.threads) (m:zC):Calls Tryz.prog 33 #[yj c tv,yE m] w λe H=>e= .returned (.bool (jU c m))/\Below w.heap.size w H:=by
 obtain⟨p,tc,rfl,u⟩:=zh.slice h;obtain⟨r,A⟩:=qxE (jU c m);obtain⟨G,l⟩:=qxE (codeOk c);have b:=λW (I:yP d W (.slice p c.threads.length tc) c.threads)=>zhr W c (.slice p c.threads.length tc) d I;rw [<-l] at b;have k:r=(G && decide (0<=m.model) && decide (m.model<=2) && decide (1<=m.bound) && decide (m.bound<=8)):=by rw [A,l];rfl
 rw [<-A];obtain⟨vars,dom,cs⟩:=c;obtain⟨f,g⟩:=m;simp only [] at h u b k ⊢;unfold yj yE;unfold yj at b;simp only [] at b ⊢;obtain⟨n,F⟩:=qxE cs.length;rw [<-F] at h u b ⊢;have B:=xK w (.cells #[I4 vars,I4 dom, .slice p n tc] 25) (.cells #[I4 f,I4 g] 30);have E:=qh B;have q:=qh (xA w (.cells #[I4 vars,I4 dom, .slice p n tc] 25) (.cells #[I4 f,I4 g] 30));have y:=qh (xq w (.cells #[I4 vars,I4 dom, .slice p n tc] 25) (.cells #[I4 f,I4 g] 30));have D:=qh (zh.below (xV.stays d) h B);have t:=qh b;have j:=qh k;clear h B b A k l F;go_enter Tryz.func33,Tryz.ntmps33
 go_upto_region 1 with fail
 generalize World.alloc (World.alloc w _) _=W at E q y D ⊢;obtain⟨x,v⟩:=qxE w.heap.size;rw [<-v] at q y ⊢;clear v;have M:W.cell? ⟨x,0,none⟩=some (I4 vars):=ze q.o 0;have L:W.cell? ⟨x,1,none⟩=some (I4 dom):=ze q.o 1;have J:W.cell? ⟨x,2,none⟩=some (.slice p n tc):=ze q.o 2;go_wp2_with fail
 refine(t.o W D.o).mono ?_
 rintro e C ⟨rfl,z⟩;have i:J2 (Below w.heap.size w C):=E.o.trans (z.mono E.o.size);have O:C.cell? ⟨x+1,0,none⟩=some (I4 f):=zl z _ _ (ze y.o 0);have N:C.cell? ⟨x+1,1,none⟩=some (I4 g):=zl z _ _ (ze y.o 1);clear z M L J q y D t;cases G with
 |false=>
  obtain rfl:r=false:=by rw [j.o];simp
  clear j;go_wp2_with fail
  go_ret;exact⟨by first|rfl|(simp;done)|(simp;omega),i.o⟩
 |true=>
 by_cases a0:0<=f
 rotate_left
 ·obtain rfl:r=false:=by rw [j.o];simp [a0]
  clear j;go_wp2_with fail
  go_ret;exact⟨by first|rfl|(simp;done)|(simp;omega),i.o⟩
 skip
 by_cases a1:f<=2
 rotate_left
 ·obtain rfl:r=false:=by rw [j.o];simp [a1]
  clear j;go_wp2_with fail
  go_ret;exact⟨by first|rfl|(simp;done)|(simp;omega),i.o⟩
 skip
 by_cases a2:1<=g
 ·skip
  by_cases a3:g<=8
  ·skip
   obtain rfl:r=true:=by rw [j.o];simp [a0,a1,a2,a3]
   clear j;go_wp2_with fail
   go_ret;exact⟨by first|rfl|(simp;done)|(simp;omega),i.o⟩
  obtain rfl:r=false:=by rw [j.o];simp [a3]
  clear j;go_wp2_with fail
  go_ret;exact⟨by first|rfl|(simp;done)|(simp;omega),i.o⟩
 obtain rfl:r=false:=by rw [j.o];simp [a2]
 clear j;go_wp2_with fail
 go_ret;exact⟨by first|rfl|(simp;done)|(simp;omega),i.o⟩
theorem zy7 (w:World) (n dom:Int) (g:Nat) (f:w.cell? ⟨g,1,none⟩=some (I4 dom)):Calls Tryz.prog 92 #[I4 n, .pointer (some ⟨g,0,none⟩)] w λe d=>e= .returned (.bool (!xJ dom n))/\Below w.heap.size w d:=by
 obtain⟨r,c⟩:=qxE (xJ dom n);rw [<-c];unfold xJ at c;have b:=qh c;clear c;by_cases a0:0<=n
 ·by_cases a1:n<dom
  ·obtain rfl:r=true:=by rw [b.o];simp [a0,a1]
   clear b;go_enter Tryz.func92,Tryz.ntmps92
   go_wp2_with fail
   go_ret;exact⟨by first|rfl|(simp;done)|(simp;omega),Below.refl _ _⟩
  obtain rfl:r=false:=by rw [b.o];simp [a1]
  clear b;go_enter Tryz.func92,Tryz.ntmps92
  go_wp2_with fail
  go_ret;exact⟨by first|rfl|(simp;done)|(simp;omega),Below.refl _ _⟩
 obtain rfl:r=false:=by rw [b.o];simp [a0]
 clear b;go_enter Tryz.func92,Tryz.ntmps92
 go_wp2_with fail
 go_ret;exact⟨by first|rfl|(simp;done)|(simp;omega),Below.refl _ _⟩
theorem zfJ (w:World) (sv:Value) (l:List Int) (h:qx w sv l) (v:Int):Calls Tryz.prog 130 #[sv,I4 v] w λe i=>e= .returned (.bool (l.contains v))/\i=w:=by
 obtain⟨a,c,rfl,k⟩:=zh.slice h;rcases Nat.eq_zero_or_pos l.length with f|f
 ·have e:l= [] :=List.eq_nil_of_length_eq_zero f;subst e;exact slices_Contains_int_empty a c v w
 obtain⟨b,d,rfl, -⟩:=qx.part h 0 f;have:=slices_Contains_int b d l.length c l v w (Nat.le_refl _) k (λj m=>by obtain⟨p,g,n, -,o⟩:=qx.part h j m;cases n;exact o);rw [List.take_length] at this;exact this
theorem zvn {l:List zq} {i:Nat} (m:zC) (c:i<l.length) (b:qM (l.take i) m (l.getD i default)=true):jQ (l.take i) m (l.getD i default)=l.take (i+1):=by
 unfold jQ;rw [if_pos b,uR c rfl]
theorem zrW (w:World) (c:zG) (U:Option Addr) (T tc:Nat) (m:zC) (bv:Value) (l:List zq) (h:zX w bv l) (hl:l.length<=1000000):
  Calls Tryz.prog 94 #[.agg #[I4 c.vars,I4 c.domain, .slice U T tc],yE m,bv] w λe w'=>e= .returned (.bool ((List.range l.length).all (qF c m l)))/\Below w.heap.size w w':=by
 obtain⟨ba,bc,rfl, -⟩:=zh.slice h;obtain⟨r,I⟩:=qxE ((List.range l.length).all (qF c m l));rw [<-I];obtain⟨n,hn⟩:=qxE l.length;rw [<-hn] at h hl I ⊢;have f:=λW bJ a (hb:zX W bJ a) (hl':a.length<=1000000) x=>zmR W bJ a hb hl' m x;have u:∀i,qF c m l i=(qM (l.take i) m (l.getD i default) && decide (0<=(l.getD i default).var) && decide ((l.getD i default).var<c.vars) && decide (0<=(l.getD i default).n) && decide ((l.getD i default).n<c.domain)):=λ_=>rfl;obtain⟨H,E⟩:=qxE (qF c m l);rw [<-E] at I u
 have G:∀i,jQ (l.take i) m (l.getD i default)=if qM (l.take i) m (l.getD i default) then l.take i++ [l.getD i default] else l.take i:=λ_=>rfl;obtain⟨vars,dom,ts⟩:=c;obtain⟨B,mb⟩:=m;simp only [] at u ⊢;unfold yE zq.val at f;unfold yE;simp only [] at f ⊢;have hB:=xK w (.cells #[I4 vars,I4 dom, .slice U T tc] 25) (.cells #[I4 B,I4 mb] 30);have k:=qh hB;have R:=qh (xA w (.cells #[I4 vars,I4 dom, .slice U T tc] 25) (.cells #[I4 B,I4 mb] 30));have P:=qh (xq w (.cells #[I4 vars,I4 dom, .slice U T tc] 25) (.cells #[I4 B,I4 mb] 30));have HL:=qh (zX.below h hB);have kT:=qh f;have HWK:=qh u;have A:=qh I
 have HN:=qh hn;have zGa:=qh G;clear h hB f u E I hn G;go_enter Tryz.func94,Tryz.ntmps94
 go_upto_region 1 with fail
 generalize World.alloc (World.alloc w _) _=W at k R P HL ⊢;obtain⟨V,L⟩:=qxE w.heap.size;rw [<-L] at R P ⊢;clear L
 have HC:J2 (∀x,Below W.heap.size W x->(K3 x V 0 (I4 vars)/\K3 x V 1 (I4 dom))/\K3 x (V+1) 0 (I4 B)/\K3 x (V+1) 1 (I4 mb)):=λx hx=>
  ⟨⟨zl hx _ _ (ze R.o 0),zl hx _ _ (ze R.o 1)⟩,zl hx _ _ (ze P.o 0),zl hx _ _ (ze P.o 1)⟩
 clear R P;go_wp2_with fail
 go_loopg [7,9,10,13,17] n (λgg s7 s9 s10 Q s17 wr=>∃i:Nat,i<=n/\J2 (gg=n - i)/\Q=I4 i/\J2 (zX wr s7 (l.take i))/\J2 (Below W.heap.size W wr)/\J2 (∀j,j<i->H j=true))
 case atStart=>exact⟨0,Nat.zero_le _,rfl,rfl,by rw [List.take_zero];exact zh.nil _,Below.refl _ _,λj hj=>by omega⟩
 case round=>
 obtain⟨i,hi,HG,rfl,O,D,HJ⟩:=hrel;by_cases hlt:i<n
 rotate_left
 ·obtain rfl:n=i:=by omega
  obtain rfl:r=true:=by rw [A.o,List.all_eq_true];exact λj hj=>HJ.o j (List.mem_range.1 hj)
  clear A;go_wp2_with fail
  go_ret;exact⟨by first|rfl|(simp;done)|(simp;omega),k.o.trans (D.o.mono k.o.size)⟩
 have vC:(i:Int)<(n:Int):=by omega
 obtain⟨eb,eo,yI, -,y,v⟩:=HL.o.part i (by rw [<-HN.o];exact hlt);subst yI;have g:=qh (HWK.o i);have bq:=qh (λJ=>zvn (l:=l) (i:=i) ⟨B,mb⟩ (by rw [<-HN.o];exact hlt) J);obtain⟨x,hx⟩:=qxE (l.getD i default);rw [<-hx] at y v g bq;obtain⟨q,t⟩:=x;simp only [] at y v g;have e1:=zl D.o _ _ y;have e2:=zl D.o _ _ v;have Z:=qh ((Below.refl wr.heap.size wr).alloc (Nat.le_refl _) (.cells #[I4 q,I4 t] 116));have C:=qh (zQ wr (.cells #[I4 q,I4 t] 116));clear y v hx;go_upto_region 6 with fail
 generalize World.alloc wr _=X at Z C ⊢;obtain⟨Y,M⟩:=qxE wr.heap.size;rw [<-M] at C ⊢;clear M e1 e2;have K:J2 (Below W.heap.size W X):=D.o.trans (Z.o.mono D.o.size);have d0:X.cell? ⟨Y,0,none⟩=some (I4 q):=ze C.o 0;have d1:X.cell? ⟨Y,1,none⟩=some (I4 t):=ze C.o 1;obtain⟨-,m0,m1⟩:=HC.o X K.o;have J:=kT.o X _ (l.take i) (zX.below O.o Z.o) (by rw [List.length_take];omega) ⟨q,t⟩
 simp only [] at J;have HP:=qh J
 have HJ2:J2 (H i=true->∀j,j<i+1->H j=true):=λs j hj=>by
  by_cases e:j=i
  ·subst e;exact s
  exact HJ.o j (by omega)
 have p:J2 (H i=false->r=false):=λs=>by
  rw [A.o,List.all_eq_false];exact⟨i,List.mem_range.2 hlt,by rw [s];simp⟩
 have HHY:=qh C.o;clear J Z O;go_wp2_with fail
 refine HP.o.mono ?_
 rintro e S ⟨⟨bJ,rfl,N, -⟩,z⟩;have d:J2 (Below W.heap.size W S):=K.o.trans (z.mono K.o.size);have f0:S.cell? ⟨Y,0,none⟩=some (I4 q):=zl z _ _ d0;have f1:S.cell? ⟨Y,1,none⟩=some (I4 t):=zl z _ _ d1;have F:=qh N;obtain⟨⟨c0,c1⟩, -, -⟩:=HC.o S d.o;clear z N d0 d1 m0 m1 HP C HHY;cases hok:qM (l.take i) ⟨B,mb⟩ ⟨q,t⟩ with
 |false=>
  obtain rfl:r=false:=p.o (by rw [g.o,hok];simp)
  clear hok p g A;go_wp2_with fail
  go_ret;exact⟨by first|rfl|(simp;done)|(simp;omega),k.o.trans (d.o.mono k.o.size)⟩
 |true=>
 rw [bq.o hok] at F;have b:J2 (H i=(decide (0<=q) && decide (q<vars) && decide (0<=t) && decide (t<dom))):=by rw [J2,g.o,hok];simp
 clear hok g bq;by_cases a0:0<=q
 rotate_left
 ·obtain rfl:r=false:=p.o (by rw [b.o];simp [a0]);clear p b A;go_wp2_with fail
  go_ret;exact⟨by first|rfl|(simp;done)|(simp;omega),k.o.trans (d.o.mono k.o.size)⟩
 skip
 by_cases a1:q<vars
 rotate_left
 ·obtain rfl:r=false:=p.o (by rw [b.o];simp [a1]);clear p b A;go_wp2_with fail
  go_ret;exact⟨by first|rfl|(simp;done)|(simp;omega),k.o.trans (d.o.mono k.o.size)⟩
 skip
 by_cases a2:0<=t
 rotate_left
 ·obtain rfl:r=false:=p.o (by rw [b.o];simp [a2]);clear p b A;go_wp2_with fail
  go_ret;exact⟨by first|rfl|(simp;done)|(simp;omega),k.o.trans (d.o.mono k.o.size)⟩
 skip
 by_cases a3:t<dom
 ·skip
  have pU:=qh (HJ2.o (by rw [b.o];simp [a0,a1,a2,a3]));clear b p A;go_wp2_with fail
  go_roundg (n - (i+1))
  case measure=>rw [HG.o];omega
  case rel=>exact⟨i+1,by omega,rfl,by simp,F.o,d.o,pU.o⟩
 obtain rfl:r=false:=p.o (by rw [b.o];simp [a3]);clear p b A;go_wp2_with fail
 go_ret;exact⟨by first|rfl|(simp;done)|(simp;omega),k.o.trans (d.o.mono k.o.size)⟩
end Go.Proofs.YtmijlmglnnbdjaaGreatDoor
namespace Go.Proofs.YtmijlmglnnbdjaaGreatDoor
open Go.RowKit Go.Sort
set_option maxRecDepth 100000
set_option maxHeartbeats 16000000
theorem getD_in {α:Type} {l:List α} {k:Nat} {x:α} (b:k<l.length):l.getD k x∈l:=by
 rw [List.getD_eq_getElem?_getD,List.getElem?_eq_getElem b];exact List.getElem_mem b
theorem z1x:∀(a b:List Int),a.Pairwise (· < ·)->b.Pairwise (· < ·)->(∀x,x∈a↔x∈b)->a=b:=by
 intro a;induction a with
 |nil=>
  intro b _ _ h;cases b with
  |nil=>rfl
  |cons y b=>have:=(h y).2 (by simp);simp at this
 |cons x a ih=>
 intro b f d h;cases b with
 |nil=>have:=(h x).1 (by simp);simp at this
 |cons y b=>
 rw [List.pairwise_cons] at f d
 have g:x=y:=by
  have k:=(h x).1 (by simp);have j:=(h y).2 (by simp);rcases List.mem_cons.1 k with e|e
  ·exact e
  rcases List.mem_cons.1 j with i|i
  ·exact i.symm
  have:=d.1 x e;have:=f.1 y i;omega
 subst g;rw [ih b f.2 d.2 λz=>⟨λc=> ?_,λc=> ?_⟩]
 ·rcases List.mem_cons.1 ((h z).1 (by simp [c])) with e|e
  ·have:=f.1 z c;omega
  exact e
 rcases List.mem_cons.1 ((h z).2 (by simp [c])) with e|e
 ·have:=d.1 z c;omega
 exact e
theorem zoa {x v:Int} {l:List Int} :v∈wO x l↔v=x\/v∈l:=by
 induction l with
 |nil=>simp [wO]
 |cons y l ih=>unfold wO;split<;>simp only [List.mem_cons,ih] <;>(constructor<;>rintro(h|h|h)<;>simp [h])
theorem zrX {x:Int} {l:List Int} (h:l.Pairwise (· < ·)) (hx:x ∉ l):(wO x l).Pairwise (· < ·):=by
 induction l with
 |nil=>simp [wO]
 |cons y l ih=>
 rw [List.pairwise_cons] at h;simp only [List.mem_cons,not_or] at hx;unfold wO;split
 ·rename_i hlt
  rw [List.pairwise_cons];refine⟨λz b=> ?_,List.pairwise_cons.2 h⟩
  rcases List.mem_cons.1 b with e|e
  ·omega
  have:=h.1 z e;omega
 rw [List.pairwise_cons];refine⟨λz b=> ?_,ih h.2 hx.2⟩
 rcases zoa.1 b with e|e
 ·omega
 exact h.1 z e
theorem zhN {l:List zq} {v:Int} :∀ {i:Nat},v∈xB l i↔∃j,j<i/\(l.getD j default).var=v:=by
 intro i;induction i with
 |zero=>simp [xB]
 |succ i ih=>
 unfold xB;split
 ·rw [zoa,ih];constructor
  ·rintro(h|⟨j,b,h⟩)
   ·exact⟨i,by omega,h.symm⟩
   exact⟨j,by omega,h⟩
  rintro⟨j,b,h⟩
  by_cases e:j=i
  ·subst e;exact .inl h.symm
  exact .inr ⟨j,by omega,h⟩
 rename_i hn
 rw [ih];rw [List.all_eq_true] at hn;constructor
 ·rintro⟨j,b,h⟩;exact⟨j,by omega,h⟩
 rintro⟨j,b,h⟩
 by_cases e:j=i
 ·subst e;apply Classical.byContradiction
  intro d;apply hn
  intro k c;rw [List.mem_range] at c;exact decide_eq_true λf=>d ⟨k,c,f.trans h⟩
 exact⟨j,by omega,h⟩
theorem zlA (l:List zq):∀i,(xB l i).Pairwise (· < ·):=by
 intro i;induction i with
 |zero=>simp [xB]
 |succ i ih=>
 unfold xB;split
 ·rename_i h
  rw [List.all_eq_true] at h;refine zrX ih λb=> ?_
  obtain⟨j,c,e⟩:=zhN.1 b;exact of_decide_eq_true (h j (List.mem_range.2 c)) e
 exact ih
theorem zoO {z:List Int} {x:Int} :x∈Lib.compact z↔x∈z:=by
 unfold Lib.compact Lib.compactUpTo;simp only [List.mem_map,List.mem_filter,List.mem_range];constructor
 ·rintro⟨j,⟨b, -⟩,rfl⟩
  have:z.toArray[j]! =z[j] :=by simp [b]
  rw [this];exact List.getElem_mem b
 intro hx;obtain⟨j,b,rfl⟩:=List.getElem_of_mem hx
 have c:∀j,(b:j<z.length)->∃k,(k<z.length/\Lib.keeps z.toArray k=true)/\z.toArray[k]! =z[j] :=by
  intro j;induction j with
  |zero=>intro b;exact⟨0,⟨b,Lib.keeps_lt_one _ 0 (by omega)⟩,by simp [b]⟩
  |succ j ih=>
  intro b;by_cases he:z.toArray[j+1]! =z.toArray[j+1 - 1]!
  ·obtain⟨k,d,e⟩:=ih (by omega);refine⟨k,d,e.trans ?_⟩
   have g:z.toArray[j+1]! =z[j+1] :=by simp [b]
   have f:z.toArray[j+1 - 1]! =z[j] :=by simp [show j<z.length by omega]
   rw [<-g,he,f]
  exact⟨j+1,⟨b,Lib.keeps_pos he⟩,by simp [b]⟩
 obtain⟨k,d,e⟩:=c j b;exact⟨k,d,e⟩
theorem zlB {z:List Int} (h:z.Pairwise (· <= ·)):(Lib.compact z).Pairwise (· < ·):=by
 unfold Lib.compact Lib.compactUpTo;rw [List.pairwise_map];refine List.Pairwise.imp_of_mem ?_ ((List.pairwise_lt_range (n:=z.length)).filter _)
 intro i j d c k;rw [List.mem_filter,List.mem_range] at d c;have m:z.toArray[i]! =z[i] :=by simp [d.1]
 have f:z.toArray[j]! =z[j] :=by simp [c.1]
 have l:z.toArray[j - 1]! =z[j - 1] :=by simp [show j - 1<z.length by omega]
 have g:z[j] ≠z[j - 1] :=by
  intro e;have:Lib.keeps z.toArray j=false:=Lib.keeps_neg (by omega) (by rw [f,l,e])
  rw [this] at c;cases c.2
 have b:=List.pairwise_iff_getElem.1 h
 have p:z[i] <=z[j - 1] :=by
  by_cases e:i=j - 1
  ·subst e;exact Int.le_refl _
  exact b i (j - 1) d.1 (by omega) (by omega)
 have o:=b (j - 1) j (by omega) c.1 (by omega);show z.toArray[i]! <z.toArray[j]!
 rw [m,f];omega
theorem zoP (l:List zq):Lib.compact ((l.map zq.var).mergeSort λx y=>decide (x<=y))=xB l l.length:=by
 refine z1x _ _ (zlB ?_) (zlA l _) λx=> ?_
 ·have:=List.pairwise_mergeSort (le:=λx y:Int=>decide (x<=y)) (λa b c i g=>by simp at*;omega) (λa b=>by simp;omega) (l.map zq.var)
  exact this.imp (λh=>by simpa using h)
 rw [zoO,List.mem_mergeSort,zhN,List.mem_map];constructor
 ·rintro⟨e,f,rfl⟩
  obtain⟨j,d,rfl⟩:=List.getElem_of_mem f;exact⟨j,d,by rw [List.getD_eq_getElem?_getD,List.getElem?_eq_getElem d];rfl⟩
 rintro⟨j,d,rfl⟩
 exact⟨l.getD j default,getD_in d,rfl⟩
theorem zlx (l:List Int):zx xI l=l.map (Value.int .i64):=by
 induction l with
 |nil=>rfl
 |cons x l ih=>simp only [zx,List.flatMap_cons,List.map_cons] at ih ⊢;rw [ih];rfl
theorem z1y {w:World} {B:Nat} {e:TypeId} {size n b k:Nat} {a:Option Addr} {xs:List Value} (h:w.ownsRow B e size (.slice a n b) n xs) (q:k<=n) (u:a=none->n=0):w.ownsRow B e size (.slice a k b) k (xs.take (k*size)):=by
 have p:=h.1;have o:=Nat.mul_le_mul_right size q;refine⟨by rw [List.length_take,p];omega, ?_⟩
 rcases h.2 with⟨c,l⟩|⟨g,f,d,c,t,r,l,m,j,i⟩
 ·obtain rfl:k=0:=by omega
  cases c
  exact .inl ⟨rfl,rfl⟩
 cases c
 exact .inr ⟨g,_,d,rfl,t,r,by omega,m,j,by rw [<-i,List.take_take];congr 1;omega⟩
theorem zvo {l:List zq} {i:Nat} (b:i<l.length):(l.take (i+1)).map zq.var=(l.take i).map zq.var++ [(l.getD i default).var] :=by rw [uR b rfl];simp
def zeH (B:Nat) (X:World) (sv:Value) (l:List Int):Prop:=X.ownsRow B 3 1 sv l.length (zx xI l)
theorem zjU (w:World) (bv:Value) (l:List zq) (h:zX w bv l) (hl:l.length<=1000000) (b:Int):
  Calls Tryz.prog 95 #[bv,I4 b] w λe w'=>(∃sv,e= .returned sv/\zeH w.heap.size w' sv (yX l b))/\Below w.heap.size w w':=by
 obtain⟨ba,bc,rfl, -⟩:=zh.slice h;obtain⟨n,hn⟩:=qxE l.length;rw [<-hn] at h hl ⊢;have HL:=qh h;have t:=qh hn;clear h hn;go_enter Tryz.func95,Tryz.ntmps95
 go_wp2_with fail
 go_loopg [4,6,9] n (λgg s4 s6 s9 wr=>∃(i:Nat) (D:Option Addr) (c:Nat),i<=n/\J2 (gg=n - i)/\s4= .slice D i c/\s9=I4 i/\J2 (wr.ownsRow w.heap.size 3 1 (.slice D i c) i (zx xI ((l.take i).map zq.var)))/\J2 (Below w.heap.size w wr))
 case atStart=>exact⟨0,none,0,Nat.zero_le _,rfl,rfl,rfl,World.ownsRow_nil _ _ _ _,Below.refl _ _⟩
 case round=>
 obtain⟨i,D,c,hi,HG,rfl,rfl,f,r⟩:=hrel;by_cases hlt:i<n
 ·have vC:(i:Int)<(n:Int):=by omega
  obtain⟨eb,eo,yI, -,M,L⟩:=HL.o.part i (by rw [<-t.o];exact hlt);subst yI;have F:=zvo (l:=l) (i:=i) (by rw [<-t.o];exact hlt);obtain⟨ev,W⟩:=qxE ((l.getD i default).var);obtain⟨en,Y⟩:=qxE ((l.getD i default).n);rw [<-W] at M F;rw [<-Y] at L;have e1:=zl r.o _ _ M;have e2:=zl r.o _ _ L;have HVS:=qh F;have HA:=qh ((Below.refl wr.heap.size wr).alloc (Nat.le_refl _) (.cells #[I4 ev,I4 en] 116));have HY:=qh (zQ wr (.cells #[I4 ev,I4 en] 116));clear M L W Y F;go_upto_region 4 with fail
  generalize World.alloc wr _=X at HA HY ⊢;obtain⟨gl,z⟩:=qxE wr.heap.size;rw [<-z] at HY ⊢;clear z e1 e2;have yh:J2 (Below w.heap.size w X):=r.o.trans (HA.o.mono r.o.size);have HOX:=qh (xD f.o HA.o);have d0:X.cell? ⟨gl,0,none⟩=some (I4 ev):=ze HY.o 0;clear HY HA f
  go_wp2_with(at_builtin;go_must(refine zO _ rfl _ _ 27 rfl 3 (I4 0) 1 8 Tryz.underlying27 jG rfl (by decide) w.heap.size (.slice D i c) i (zx xI ((l.take i).map zq.var)) rfl (HOX.o.alloc _) ⟨X.heap.size,0,none⟩ 1 1 [I4 ev] rfl rfl (cell_one_new _ _ _) (by simp [Value.oneCell']) (by unfold maxLen;omega) (by omega) (by have:=yh.o.size;simp;omega) ?_);intro ja jc Z f1 f2 f3 f4 f5 f6;have HE:=qh (zaQ HOX.o f1 f4 yh.o (Nat.le_refl _));clear f1 f2 f3 f4 f5 f6);go_roundg (n - (i+1))
  case measure=>rw [HG.o];omega
  case rel=>exact⟨i+1,ja,jc,by omega,rfl,rfl,by simp,by rw [J2,HVS.o];exact HE.o.1,HE.o.2⟩
 obtain rfl:n=i:=by omega
 have p:(l.take n).map zq.var=l.map zq.var:=by rw [t.o,List.take_length]
 rw [p] at f;clear p;by_cases m1:b=1
 ·subst m1;by_cases h0:n=0
  ·subst h0;have O:J2 (yX l 1= []):=by rw [J2,List.eq_nil_of_length_eq_zero t.o.symm];rfl
   have C:J2 (zeH w.heap.size wr (.slice D 0 c) []):=by
    have:=f.o
    rw [List.eq_nil_of_length_eq_zero t.o.symm] at this;exact this
   clear f;go_wp2_with fail
   go_ret;exact⟨⟨_,rfl,by rw [O.o];exact C.o⟩,r.o⟩
  obtain⟨g,cap,J,hg, -⟩:=gW f.o (by omega);cases J
  have hn1:(1:Int)<=(n:Int):=by omega
  have hn2:1<=n:=by omega
  have O:J2 (yX l 1= [(l.getD 0 default).var]):=by
   rw [J2];cases l with
   |nil=>exact absurd t.o h0
   |cons x l=>rfl
  have C:J2 (zeH w.heap.size wr (.slice (some ⟨g,0,none⟩) 1 c) [(l.getD 0 default).var]):=by
   have A:=z1y f.o hn2 (λe=>by cases e)
   have e:(zx xI (l.map zq.var)).take (1*1)=zx xI [(l.getD 0 default).var] :=by
    cases l with
    |nil=>exact absurd t.o h0
    |cons x l=>rfl
   rw [e] at A;exact A
  have U:n<=c:=by
   rcases f.o.2 with⟨N, -⟩|⟨g',E,cur,N,hB,V,A,h2,h3,h4⟩
   ·cases N
   cases N;exact A
  clear h0;have hmin:(min (1:Int) (n:Int)).toNat=1:=by omega
  go_wp2_with fail
  go_ret;exact⟨⟨.slice (some ⟨g,0,none⟩) 1 c,rfl,by rw [O.o];exact C.o⟩,r.o⟩
 by_cases m2:b=2
 rotate_left
 ·have b1:((b:Int)==1)=false:=by simp [m1]
  have b2:((b:Int)==2)=false:=by simp [m2]
  have O:J2 (yX l b= []):=by unfold yX;rw [J2,if_neg m2,if_neg m1]
  clear m1 m2;go_wp2_with fail
  go_ret;exact⟨⟨_,rfl,by rw [O.o];exact World.ownsRow_nil _ _ _ _⟩,r.o⟩
 subst m2;have O:J2 (yX l 2=xB l l.length):=rfl;by_cases h0:n=0
 ·subst h0
  have C:J2 (∀X,Below wr.heap.size wr X->zeH w.heap.size X (.slice D 0 c) (yX l 2)):=λX hX=>by
   have:=xD f.o hX
   have e:yX l 2= [] :=by rw [List.eq_nil_of_length_eq_zero t.o.symm];rfl
   rw [List.eq_nil_of_length_eq_zero t.o.symm] at this;rw [e];exact this
  clear f;go_wp2_with fail
  refine(slices_Sort_int_none D c wr).mono ?_
  rintro e R ⟨rfl,rfl⟩;go_wp2_with fail
  refine(slices_Compact_int_empty D c R).mono ?_
  rintro e w3 ⟨rfl,rfl⟩;go_wp2_with fail
  go_ret;exact⟨⟨_,rfl,C.o _ (Below.refl _ _)⟩,r.o⟩
 obtain⟨zs,u⟩:=qxE (l.map zq.var);have d:=f.o;rw [<-u,zlx] at d;have m:zs.length=n:=by rw [u,List.length_map,t.o]
 obtain⟨ts,v⟩:=qxE (zs.mergeSort (λx y=>decide (x<=y)));have G:ts.length=zs.length:=by rw [v,List.length_mergeSort]
 have K:Lib.compact ts=yX l 2:=by rw [v,u,O.o];exact zoP l
 obtain⟨g,cap,J,hg,z,U,hcm, -,hH⟩:=Lib.holds_of_ownsRow d (by intro e;cases e;exact h0 rfl);cases J
 have hs:=slices_Sort_int g 0 c zs wr hH z (by omega);rw [m, <-v] at hs;have HS:=qh hs
 have C:J2 (∀k os,∀X,X=Sort.grow (putRow (Value.int .i64) (Sort.ahead wr k) g 0 ts.toArray) os->X.ownsRow w.heap.size 3 1 (.slice (some ⟨g,0,none⟩) n c) n (ts.map (Value.int .i64))/\Below w.heap.size w X):=by
  rintro k os X rfl;rcases d.2 with⟨N, -⟩|⟨g',E,cur,N,hB,V,A,h2,h3,h4⟩
  ·cases N
  cases N
  have:=ownsRow_sortedI (n:=k) (os:=os) G hB V (by rw [m];exact A) h2 h3;rw [m] at this;exact⟨this,r.o.grown (grownBy_sortedI _) r.o.size (λj hj=>by cases hj;exact hB)⟩
 have B:J2 (ts.length=n):=G.trans m;have HCP:=qh K;clear hs d u v G m K hH f;go_wp2_with fail
 refine HS.o.mono ?_
 rintro e R ⟨rfl,k,os,T⟩;obtain⟨I,Q⟩:=C.o k os R T;obtain⟨g',E,he', -,zqw, -, -, -,a⟩:=Lib.holds_of_ownsRow I (by intro e;cases e)
 cases he'
 have H:=slices_Compact_int g 0 c ts R a (by rw [B.o];omega) (by rw [B.o];exact U);rw [B.o] at H
 have hlc:(Lib.compact ts).length<=n:=by
  rw [<-B.o];unfold Lib.compact Lib.compactUpTo;rw [List.length_map];exact Nat.le_trans (List.length_filter_le _ _) (by simp)
 have s:=qh H
 have P:J2 (∀q X,X=putRow (Value.int .i64) (Sort.ahead R q) g 0 (Lib.compact ts++List.replicate (n - (Lib.compact ts).length) 0).toArray->zeH w.heap.size X (.slice (some ⟨g,0,none⟩) (Lib.compact ts).length c) (yX l 2)/\Below w.heap.size w X):=by
  rintro q X rfl;have A:=Lib.ownsRow_putRow (q:=q) (ys:=Lib.compact ts++List.replicate (n - (Lib.compact ts).length) 0) I (by rw [List.length_append,List.length_replicate];omega) hlc
  rw [List.take_left', <-zlx] at A
  ·refine⟨?_,Lib.below_putRow Q hg⟩
   rw [<-HCP.o];exact A
  rfl
 clear I Q a H T HS C;go_wp2_with fail
 refine s.o.mono ?_
 rintro e w3 ⟨rfl,q,S⟩;have HF:=qh (P.o q w3 S);clear S s P;go_wp2_with fail
 go_ret;exact⟨⟨_,rfl,HF.o.1⟩,HF.o.2⟩
theorem zqq (w:World) (c:Value) (l:List zq) (h:zX w c l) (f:l.length<=1000000) (b:Int):
  Calls Tryz.prog 95 #[c,I4 b] w λe d=>(∃sv,e= .returned sv/\qx d sv (yX l b))/\Below w.heap.size w d:=
 (zjU w c l h f b).mono λ_ _ ⟨⟨sv,he,ho⟩,hb⟩=>⟨⟨sv,he,zal ho⟩,hb⟩
