/- Steps. -/
import Derived.Test.YtknmdmimecepfaaGreatDoorVgBlocks
set_option linter.all false
namespace Go.Proofs.YtknmdmimecepfaaGreatDoor
open Go.RowKit
set_option maxRecDepth 100000
set_option maxHeartbeats 16000000
def zcX (c:Int):Bool:=decide (97<=c) && decide (c<=122)
theorem zkA (w:World) (c:Int):Calls Tryz.prog 99 #[.int .u8 c] w λe w'=>e= .returned (.bool (zcX c))/\Below w.heap.size w w':=by
 unfold zcX
 by_cases h1:97<=c
 ·go_enter Tryz.func99,Tryz.ntmps99
  go_wp2
  go_ret
  exact⟨by simp [h1],Below.refl _ _⟩
 go_enter Tryz.func99,Tryz.ntmps99
 go_wp2
 go_ret
 exact⟨by simp;omega,Below.refl _ _⟩
def zf9 (b:UInt8):Value:= .string ⟨#[b]⟩
theorem zia (w:World) (b:UInt8):Calls Tryz.prog 101 #[zf9 b] w λe w'=>e= .returned (.int .i64 (-1))/\Below w.heap.size w w':=by
 unfold zf9
 have hsz:((⟨#[b]⟩:ByteArray)).size=1:=rfl
 generalize (⟨#[b]⟩:ByteArray)=s at hsz ⊢
 have hszI:((s.size:Int)==2)=false:=by rw [hsz];rfl
 go_enter Tryz.func101,Tryz.ntmps101
 go_wp2
 go_ret
 exact⟨rfl,Below.refl _ _⟩
def zwa:List ByteArray:= [⟨#[118,97,114,115]⟩,⟨#[100,111,109,97,105,110]⟩,⟨#[116,104,114,101,97,100]⟩,⟨#[102,101,110,99,101]⟩,⟨#[115,102,101,110,99,101]⟩,⟨#[99,97,115]⟩,⟨#[108,111,99,107]⟩,⟨#[117,110,108,111,99,107]⟩,⟨#[97,115,115,101,114,116]⟩,⟨#[105,102]⟩,⟨#[101,108,115,101]⟩,⟨#[119,104,105,108,101]⟩]
theorem zso (i:Nat) (hi:i<12) (s:ByteArray) (hs:s.size=1):∃k:ByteArray,(zwa.map Value.string)[i]? =some (.string k)/\k≠s:=by
 have hne:∀k:ByteArray,k.size≠1->k≠s:=λk hk e=>by rw [e] at hk;exact hk hs
 match i,hi with
 |0,_=>exact⟨_,rfl,hne _ (by decide)⟩
 |1,_=>exact⟨_,rfl,hne _ (by decide)⟩
 |2,_=>exact⟨_,rfl,hne _ (by decide)⟩
 |3,_=>exact⟨_,rfl,hne _ (by decide)⟩
 |4,_=>exact⟨_,rfl,hne _ (by decide)⟩
 |5,_=>exact⟨_,rfl,hne _ (by decide)⟩
 |6,_=>exact⟨_,rfl,hne _ (by decide)⟩
 |7,_=>exact⟨_,rfl,hne _ (by decide)⟩
 |8,_=>exact⟨_,rfl,hne _ (by decide)⟩
 |9,_=>exact⟨_,rfl,hne _ (by decide)⟩
 |10,_=>exact⟨_,rfl,hne _ (by decide)⟩
 |11,_=>exact⟨_,rfl,hne _ (by decide)⟩
theorem zq6 (w:World) (b:UInt8):Calls Tryz.prog 100 #[zf9 b] w λe w'=>e= .returned (.bool false)/\Below w.heap.size w w':=by
 unfold zf9
 have hsz:((⟨#[b]⟩:ByteArray)).size=1:=rfl
 generalize (⟨#[b]⟩:ByteArray)=s at hsz ⊢
 have HB:=qh ((Below.refl w.heap.size w).alloc (Nat.le_refl _) (.cells #[.string ⟨#[118,97,114,115]⟩, .string ⟨#[100,111,109,97,105,110]⟩, .string ⟨#[116,104,114,101,97,100]⟩, .string ⟨#[102,101,110,99,101]⟩, .string ⟨#[115,102,101,110,99,101]⟩, .string ⟨#[99,97,115]⟩, .string ⟨#[108,111,99,107]⟩, .string ⟨#[117,110,108,111,99,107]⟩, .string ⟨#[97,115,115,101,114,116]⟩, .string ⟨#[105,102]⟩, .string ⟨#[101,108,115,101]⟩, .string ⟨#[119,104,105,108,101]⟩] 9))
 have HG:=qh (zT w (.cells #[.string ⟨#[118,97,114,115]⟩, .string ⟨#[100,111,109,97,105,110]⟩, .string ⟨#[116,104,114,101,97,100]⟩, .string ⟨#[102,101,110,99,101]⟩, .string ⟨#[115,102,101,110,99,101]⟩, .string ⟨#[99,97,115]⟩, .string ⟨#[108,111,99,107]⟩, .string ⟨#[117,110,108,111,99,107]⟩, .string ⟨#[97,115,115,101,114,116]⟩, .string ⟨#[105,102]⟩, .string ⟨#[101,108,115,101]⟩, .string ⟨#[119,104,105,108,101]⟩] 9))
 go_enter Tryz.func100,Tryz.ntmps100
 go_upto_region 2 with fail
 generalize World.alloc w _=W at HB HG ⊢
 generalize w.heap.size=g at HG ⊢
 go_wp2_with fail
 go_loopg [4] 12 (λgg s4 wr=>∃i:Nat,i<=12/\Hid (gg=12 - i)/\s4= .int .i64 i/\wr=W)
 case atStart=>exact⟨0,by omega,rfl,rfl,rfl⟩
 case round=>
 obtain⟨i,hi,uV,rfl,rfl⟩:=hrel
 by_cases hlt:i<12
 rotate_left
 ·obtain rfl:i=12:=by omega
  go_wp2_with fail
  go_ret
  exact⟨rfl,HB.out⟩
 have qQ:(i:Int)<12:=by omega
 obtain⟨k,hk,hne⟩:=zso i hlt s hsz
 have x0:wr.cell? ⟨g,i,none⟩=some (.string k):=by rw [za HG.out,List.getElem?_toArray];exact hk
 have hnl:(k.toList==s.toList)=false:=by
  rw [ByteArray.toList_eq,ByteArray.toList_eq,beq_eq_false_iff_ne]
  intro e
  apply hne
  obtain⟨kd⟩:=k
  obtain⟨sd⟩:=s
  have:kd=sd:=Array.toList_inj.1 e
  rw [this]
 go_wp2_with fail
 go_roundg (12 - (i+1))
 case measure=>rw [uV.out];omega
 case rel=>exact⟨i+1,by omega,rfl,by simp,rfl⟩
theorem zoJ (w:World) (b:UInt8) (hb:zcX b.toNat=true):Calls Tryz.prog 75 #[zf9 b] w λe w'=>e= .returned (.bool true)/\Below w.heap.size w w':=by
 have hk:=λy=>zq6 y b
 have hr:=λy=>zia y b
 unfold zf9 at hk hr ⊢
 have hsz:((⟨#[b]⟩:ByteArray)).size=1:=rfl
 have hget:∀h:0<((⟨#[b]⟩:ByteArray)).size,((⟨#[b]⟩:ByteArray))[0]'h=b:=λ_=>rfl
 have hne:((⟨#[b]⟩:ByteArray)).toList.isEmpty=false:=by rw [ByteArray.toList_eq];rfl
 generalize (⟨#[b]⟩:ByteArray)=s at hsz hget hk hr hne ⊢
 have hlet:∀(y:World) (h:0<s.size),Calls Tryz.prog 99 #[.int .u8 ((s[0]'h).toNat:Int)] y λe w'=>e= .returned (.bool true)/\Below y.heap.size y w':=λy h=>by
  have:=zkA y (b.toNat:Int)
  rw [hb] at this
  rw [hget h];exact this
 have HK:=qh hk
 have HR:=qh hr
 have zsp:=qh hlet
 clear hk hr hlet hget
 have hnl:(s.toList==([] :List UInt8))=false:=by rw [beq_eq_false_iff_ne];intro e;rw [e] at hne;cases hne
 go_enter Tryz.func75,Tryz.ntmps75
 go_wp2_with(first|(go_at_call 101;go_must(refine(HR.out W2).mono ?_);rintro e W3 ⟨rfl,hb3⟩)|(go_at_call 100;go_must(refine(HK.out W1).mono ?_);rintro e W2 ⟨rfl,hb2⟩)|(go_at_call 99;go_must(refine(zsp.out w _).mono ?_);rintro e W1 ⟨rfl,hb1⟩))
 have HB3:=qh (zm (zm hb1 hb2) hb3)
 clear hb1 hb2 hb3
 go_loopg [3] 1 (λgg s3 wr=>∃i:Nat,i<=1/\Hid (gg=1 - i)/\s3= .int .i64 i/\Hid (Below w.heap.size w wr))
 case atStart=>exact⟨0,by omega,rfl,rfl,HB3.out⟩
 case round=>
 obtain⟨i,hi,uV,rfl,yu⟩:=hrel
 by_cases hlt:i<1
 ·obtain rfl:i=0:=by omega
  go_wp2_with(go_at_call 99;go_must(refine(zsp.out wr _).mono ?_);rintro e W4 ⟨rfl,hb4⟩;(have wN:=qh (zm yu.out hb4));clear hb4)
  go_roundg 0
  case measure=>rw [uV.out];omega
  case rel=>exact⟨1,by omega,rfl,by simp,wN.out⟩
 obtain rfl:i=1:=by omega
 go_wp2_with fail
 go_ret
 exact⟨rfl,yu.out⟩
mutual
def kW:zq->Nat
 | .mk _ _ _ _ _ y n=>1+zM y+zM n
def zM:List zq->Nat
 | [] =>0
 |x::l=>kW x+zM l
end
def zc5 (vars dom k r v:Int) (a b:zx) (y n:List zq):Bool:=decide (1<=k) && decide (k<=11) && xu k r v a b vars dom && (decide (k=10)||decide (n.length=0) && (decide (k=11)||decide (y.length=0)))
mutual
def jD (vars dom:Int):zq->Nat->Bool
 | .mk k r v a b y n,d=>decide (1<=d) && zc5 vars dom k r v a b y n && zX vars dom y (d - 1) && zX vars dom n (d - 1)
def zX (vars dom:Int):List zq->Nat->Bool
 | [],_=>true
 |x::l,d=>jD vars dom x d && zX vars dom l d
end
theorem pY {vars dom:Int} {x:zq} {d:Nat} (h:jD vars dom x d=true):1<=d/\zc5 vars dom x.kind x.reg x.var x.a x.b x.yes x.no=true/\zX vars dom x.yes (d - 1)=true/\zX vars dom x.no (d - 1)=true:=by
 obtain⟨k,r,v,a,b,y,n⟩:=x
 unfold jD at h
 simp only [Bool.and_eq_true,decide_eq_true_eq] at h
 exact⟨h.1.1.1,h.1.1.2,h.1.2,h.2⟩
theorem ziH (x:zq):kW x=1+zM x.yes+zM x.no:=by
 obtain⟨k,r,v,a,b,y,n⟩:=x
 rw [kW];rfl
theorem zfb {vars dom k r v:Int} {a b:zx} {y n:List zq} (h:zc5 vars dom k r v a b y n=true):1<=k/\k<=11/\xu k r v a b vars dom=true/\(k=10\/n.length=0/\(k=11\/y.length=0)):=by
 unfold zc5 at h
 simp only [Bool.and_eq_true,Bool.or_eq_true,decide_eq_true_eq] at h
 exact⟨h.1.1.1,h.1.1.2,h.1.2,h.2⟩
theorem uR {vars dom:Int} {l:List zq} {d:Nat} :zX vars dom l d=true↔∀x∈l,jD vars dom x d=true:=by
 induction l with
 |nil=>simp [zX]
 |cons x l ih=>rw [zX,Bool.and_eq_true,ih];simp
theorem zbE (l r:List zq):zM (l++r)=zM l+zM r:=by
 induction l with
 |nil=>simp [zM]
 |cons x l ih=>rw [List.cons_append,zM,zM,ih];omega
theorem ziI {l:List zq} {i:Nat} (hi:i<l.length):zM (l.take (i+1))=zM (l.take i)+kW (l.getD i default):=by
 rw [List.take_succ_eq_append_getElem hi,zbE,List.getD_eq_getElem?_getD,List.getElem?_eq_getElem hi]
 simp [zM]
theorem zmL (l:List zq) (i:Nat):zM (l.take i)<=zM l:=by
 have:=zbE (l.take i) (l.drop i)
 rw [List.take_append_drop] at this
 omega
theorem zib {vars dom:Int} :∀(d:Nat) (l:List zq),zX vars dom l d=true->zX vars dom l (d+1)=true:=by
 intro d
 induction d with
 |zero=>
  intro l h
  cases l with
  |nil=>rw [zX]
  |cons x l=>
  rw [uR] at h
  have:=(pY (h x (by simp))).1
  omega
 |succ d ih=>
 intro l h
 rw [uR] at h ⊢
 intro x hx
 have h2:=h x hx
 obtain⟨k,r,v,a,b,y,n⟩:=x
 unfold jD at h2 ⊢
 simp only [Bool.and_eq_true,decide_eq_true_eq] at h2 ⊢
 exact⟨⟨⟨by omega,h2.1.1.2⟩,ih y h2.1.2⟩,ih n h2.2⟩
theorem zkj {vars dom:Int} {d e:Nat} {l:List zq} (h:zX vars dom l d=true) (hl:d<=e):zX vars dom l e=true:=by
 induction hl with
 |refl=>exact h
 |step _ ih=>exact zib _ _ ih
def kD (vars dom:Int) (xU:Int) (x:zl):Bool:=
 if x.op=12 then qN vars dom 9 xU x else if x.op=13 then qN vars dom 4 xU x else if x.op=10\/x.op=11 then false else qN vars dom x.op 0 x
theorem zfc {vars dom k a b:Int} {x:zl} (h:qN vars dom k a x=true) (hab:a<=b):qN vars dom k b x=true:=by
 unfold qN at h ⊢
 simp only [Bool.and_eq_true,decide_eq_true_eq] at h ⊢
 exact⟨⟨h.1.1,by omega⟩,h.2⟩
theorem zic {vars dom a b:Int} {x:zl} (h:kD vars dom a x=true) (hab:a<=b):kD vars dom b x=true:=by
 unfold kD at h ⊢
 split
 ·rename_i h1;rw [if_pos h1] at h;exact zfc h hab
 rename_i h1;rw [if_neg h1] at h
 split
 ·rename_i h2;rw [if_pos h2] at h;exact zfc h hab
 rename_i h2;rw [if_neg h2] at h;exact h
theorem zc6 {vars dom:Int} {k r v:Int} {a b:zx} (hk:k=10\/k=11) (h:xu k r v a b vars dom=true) {xU b_:Int} (h0:0<=xU) (h1:xU<=b_):kD vars dom b_ (qg a xU)=true:=by
 have hp:xu 9 0 0 a default vars dom=true:=by
  have e1:wW 9 0=true:=by decide
  have e2:jZ 9 0 vars=true:=by simp [jZ,j3]
  have e3:kg 9 a dom=true:=by
   unfold xu at h
   simp only [Bool.and_eq_true] at h
   have:=h.1.2
   rcases hk with rfl|rfl
   ·simpa [kg,j4] using this
   simpa [kg,j4] using this
  have e4:wX 9 default dom=true:=by rfl
  simp [xu,e1,e2,e3,e4]
 show qN vars dom 9 b_ (qg a xU)=true
 unfold qN qg
 simp only [Bool.and_eq_true,decide_eq_true_eq]
 exact⟨⟨⟨by omega,h0⟩,h1⟩,hp⟩
theorem zj3 {vars dom:Int} {xU b_:Int} (h0:0<=xU) (h1:xU<=b_):kD vars dom b_ (ku xU)=true:=by
 have hp:xu 4 0 0 default default vars dom=true:=by
  have e2:jZ 4 0 vars=true:=by simp [jZ,j3]
  have e1:wW 4 0=true:=by decide
  have e3:kg 4 default dom=true:=by rfl
  have e4:wX 4 default dom=true:=by rfl
  simp [xu,e1,e2,e3,e4]
 show qN vars dom 4 b_ (ku xU)=true
 unfold qN ku
 simp only [Bool.and_eq_true,decide_eq_true_eq]
 exact⟨⟨⟨by omega,h0⟩,h1⟩,hp⟩
theorem zoK {vars dom:Int} {k r v:Int} {a b:zx} (h1:1<=k) (h2:k<=11) (hk:¬k=10) (hk2:¬k=11) (h:xu k r v a b vars dom=true) {b_:Int} (_hb:0<=b_):kD vars dom b_ ⟨k,r,v,a,b,0⟩=true:=by
 unfold kD
 rw [if_neg (by show¬k=12;omega),if_neg (by show¬k=13;omega),if_neg (by show¬(k=10\/k=11);omega)]
 unfold qN
 simp only [Bool.and_eq_true,decide_eq_true_eq]
 exact⟨⟨⟨⟨h1,by omega⟩,by omega⟩,by omega⟩,h⟩
def zg3 (vars dom:Int) (at_:Int) (n:Nat) (l:List zl):Prop:=l.length<=3*n/\∀x∈l,kD vars dom (at_+l.length) x=true
theorem zg3.weak {vars dom at_:Int} {n:Nat} {l:List zl} (h:zg3 vars dom at_ n l) {b:Int} (hb:at_+l.length<=b):∀x∈l,kD vars dom b x=true:=λx hx=>zic (h.2 x hx) hb
mutual
theorem zkB (vars dom:Int):∀(x:zq) (d:Nat) (at_:Int),0<=at_->jD vars dom x d=true->zg3 vars dom at_ (kW x) (qw x at_)
 | .mk k r v a b y n,d,at_,h0,h=>by
  have hp:=pY h
  simp only [zq.kind,zq.reg,zq.var,zq.a,zq.b,zq.yes,zq.no] at hp
  obtain⟨h1,h2,h3,h4⟩:=hp
  obtain⟨k1,k2,hpart,hkind⟩:=zfb h2
  have hY:=kR vars dom y (d - 1) (at_+1) (by omega) h3
  have hN:=kR vars dom n (d - 1) (at_+2+(zA y (at_+1)).length) (by omega) h4
  rw [kW]
  unfold qw
  split
  ·rename_i hk
   split
   ·refine⟨by have:=hY.1;simp only [List.length_cons];omega,λx hx=> ?_⟩
    rcases List.mem_cons.1 hx with rfl|hx
    ·exact zc6 (.inl hk) hpart (by omega) (by simp only [List.length_cons];omega)
    exact hY.weak (by simp only [List.length_cons];omega) x hx
   refine⟨by have:=hY.1;have:=hN.1;simp only [List.length_cons,List.length_append];omega,λx hx=> ?_⟩
   rcases List.mem_cons.1 hx with rfl|hx
   ·exact zc6 (.inl hk) hpart (by omega) (by simp only [List.length_cons,List.length_append];omega)
   rcases List.mem_append.1 hx with hx|hx
   ·exact hY.weak (by simp only [List.length_cons,List.length_append];omega) x hx
   rcases List.mem_cons.1 hx with rfl|hx
   ·exact zj3 (by omega) (by simp only [List.length_cons,List.length_append];omega)
   exact hN.weak (by simp only [List.length_cons,List.length_append];omega) x hx
  rename_i hk
  split
  ·rename_i hk2
   refine⟨by have:=hY.1;simp only [List.length_cons,List.length_append,List.length_nil];omega,λx hx=> ?_⟩
   rcases List.mem_cons.1 hx with rfl|hx
   ·exact zc6 (.inr hk2) hpart (by omega) (by simp only [List.length_cons,List.length_append,List.length_nil];omega)
   rcases List.mem_append.1 hx with hx|hx
   ·exact hY.weak (by simp only [List.length_cons,List.length_append,List.length_nil];omega) x hx
   rw [List.mem_singleton] at hx
   subst hx
   exact zj3 h0 (by simp only [List.length_cons,List.length_append,List.length_nil];omega)
  rename_i hk2
  refine⟨by simp only [List.length_cons,List.length_nil];omega,λx hx=> ?_⟩
  rw [List.mem_singleton] at hx
  subst hx
  exact zoK k1 k2 hk hk2 hpart (by simp only [List.length_cons,List.length_nil];omega)
theorem kR (vars dom:Int):∀(l:List zq) (d:Nat) (at_:Int),0<=at_->zX vars dom l d=true->zg3 vars dom at_ (zM l) (zA l at_)
 | [],d,at_,h0,h=>by rw [zA];exact⟨Nat.zero_le _,λx hx=>by simp at hx⟩
 |x::l,d,at_,h0,h=>by
  rw [zX,Bool.and_eq_true] at h
  have hX:=zkB vars dom x d at_ h0 h.1
  have hL:=kR vars dom l d (at_+(qw x at_).length) (by omega) h.2
  rw [zA,zM]
  refine⟨by have:=hX.1;have:=hL.1;rw [List.length_append];omega,λy hy=> ?_⟩
  rcases List.mem_append.1 hy with hy|hy
  ·exact hX.weak (by rw [List.length_append];omega) y hy
  exact hL.weak (by rw [List.length_append];omega) y hy
end
def xyz:List (List UInt8):= [[120], [121], [122]]
structure zcP (p:bK):Prop where
 vars:∃n,1<=n/\n<=3/\p.vars=xyz.take n
 dom:2<=p.domain/\p.domain<=16
 many:1<=p.threads.length/\p.threads.length<=3
 ok:∀l∈p.threads,zX p.vars.length p.domain l 20=true
 all:(p.threads.map zM).sum<=200
def pG (p:bK):zo:=⟨p.vars.length,p.domain,p.threads.map (λl=>zA l 0)⟩
theorem zq7 {l:List Nat} {x:Nat} (h:x∈l):x<=l.sum:=by
 induction l with
 |nil=>simp at h
 |cons y l ih=>
 rcases List.mem_cons.1 h with rfl|h
 ·simp
 have:=ih h;simp;omega
theorem zcP.one {p:bK} (h:zcP p) {l:List zq} (hl:l∈p.threads):zM l<=200:=by
 have:=zq7 (List.mem_map.2 ⟨l,hl,rfl⟩:zM l∈p.threads.map zM)
 have:=h.all
 omega
theorem zjS {p:bK} (h:zcP p):codeOk (pG p)=true:=by
 obtain⟨n,n1,n2,hn⟩:=h.vars
 have hv:p.vars.length=n:=by rw [hn,List.length_take];simp [xyz];omega
 have hd:=h.dom
 have hm:=h.many
 unfold codeOk pG
 simp only [Bool.and_eq_true,decide_eq_true_eq,List.length_map]
 refine⟨⟨⟨⟨⟨⟨by omega,by omega⟩,by omega⟩,by omega⟩,by omega⟩,by omega⟩, ?_⟩
 rw [List.all_eq_true]
 intro r hr
 obtain⟨l,hl,rfl⟩:=List.mem_map.1 hr
 have hg:=kR p.vars.length p.domain l 20 0 (by omega) (h.ok l hl)
 have h2:=h.one hl
 unfold rowOk
 simp only [Bool.and_eq_true,decide_eq_true_eq]
 refine⟨by have:=hg.1;omega, ?_⟩
 rw [List.all_eq_true]
 intro x hx
 have:=hg.2 x hx
 rw [Int.zero_add] at this
 exact this
theorem zcY {a b:Int} (h:a=b):Value.int .i64 a=Value.int .i64 b:=by rw [h]
def zc7 (e d:Nat):Prop:=∀(w:World) (l:List zq) (v:Value),zJ e d w l v->∀(deep:Nat) (vars dom:Int),deep<=1000->zX vars dom l deep=true->zM l<=200->
 Calls Tryz.prog 76 #[v, .int .i64 deep, .int .i64 vars, .int .i64 dom] w λen w'=>en= .returned (.tuple #[.int .i64 (zM l), .bool true])/\Below w.heap.size w w'
theorem zoL (e d:Nat) (ih:zc7 e d):zc7 e (d+1):=by
 intro w l v hl deep vars dom zxZ hok hN
 obtain⟨la,lc,rfl,hll⟩:=hl.slice
 have htk:=λi (hi:i<l.length)=>ziI (l:=l) (i:=i) hi
 have hle:=λi=>zmL l i
 have hz:zM (l.take 0)=0:=by simp [zM]
 have hR:zM l=zM (l.take l.length):=by rw [List.take_length]
 rw [hR] at hN hle ⊢
 obtain⟨NT,hNT⟩:∃NT:Nat->Nat,NT=λi=>zM (l.take i):=⟨_,rfl⟩
 have zsq:∀i,zM (l.take i)=NT i:=λi=>by rw [hNT]
 simp only [zsq] at htk hle hz hN ⊢
 have hall:=uR.1 hok
 obtain⟨n,hnn⟩:∃n,n=l.length:=⟨_,rfl⟩
 rw [<-hnn] at hl hll htk hN hle ⊢
 have HL:=qh hl
 have HN:=qh hnn
 have HTK:=qh htk
 have HLE:=qh hle
 have HZ:=qh hz
 have zwb:=qh hall
 have IH:=qh ih
 clear hl hnn htk hle hz hR hNT zsq hall hok ih
 go_enter Tryz.func76,Tryz.ntmps76
 go_wp2_with fail
 go_loopg [10,11] n (λgg s10 s11 wr=>∃i:Nat,i<=n/\Hid (gg=n - i)/\s10= .int .i64 (NT i)/\s11= .int .i64 i/\Hid (Below w.heap.size w wr))
 case atStart=>exact⟨0,Nat.zero_le _,rfl,zcY (by rw [HZ.out];rfl),rfl,Below.refl _ _⟩
 case round=>
 obtain⟨i,hi,HG,rfl,rfl,yu⟩:=hrel
 by_cases hlt:i<n
 rotate_left
 ·obtain rfl:n=i:=by omega
  have hNI:((NT n:Nat):Int)<=200:=by omega
  go_wp2_with fail
  go_ret2
  exact⟨by first|rfl|simp,yu.out⟩
 have qQ:(i:Int)<(n:Int):=by omega
 obtain⟨b,off,aa,ac,ba,bc,ya,yc,na,nc,gB, -,hcell,hA,hB,hY,hNo⟩:=zJ.part HL.out i (by rw [<-HN.out];exact hlt)
 subst gB
 have hx:=HTK.out i hlt
 have hn1:=HLE.out (i+1)
 have hxo:=zwb.out (l.getD i default) (yL (by rw [<-HN.out];exact hlt))
 generalize l.getD i default=x at hcell hA hB hY hNo hx hxo
 obtain⟨hd1,hhead,hyo,hno⟩:=pY hxo
 obtain⟨hk1,hk2,hpart,hkind⟩:=zfb hhead
 rw [ziH] at hx
 have hcy:=λy (hy:Below w.heap.size w y)=>IH.out y x.yes _ (hY.below hy) (deep - 1) vars dom (by omega) hyo (by omega)
 have hcn:=λy (hy:Below w.heap.size w y)=>IH.out y x.no _ (hNo.below hy) (deep - 1) vars dom (by omega) hno (by omega)
 have hcp:=λy (hy:Below w.heap.size w y)=>zid y x.kind x.reg x.var x.a x.b _ _ e (hA.below hy) (hB.below hy) vars dom
 rw [hpart] at hcp
 rw [show((deep - 1:Nat):Int)=(deep:Int) - 1 by omega] at hcy hcn
 unfold yX at hcp
 have x0:wr.cell? ⟨b,off+i*13,none⟩=some (.int .i64 x.kind):=zi yu.out _ _ (hcell 0 (by omega))
 have x1:wr.cell? ⟨b,off+i*13+1,none⟩=some (.int .i64 x.reg):=zi yu.out _ _ (hcell 1 (by omega))
 have x2:wr.cell? ⟨b,off+i*13+2,none⟩=some (.int .i64 x.var):=zi yu.out _ _ (hcell 2 (by omega))
 have x3:wr.cell? ⟨b,off+i*13+3,none⟩=some (.int .i64 x.a.kind):=zi yu.out _ _ (hcell 3 (by omega))
 have x4:wr.cell? ⟨b,off+i*13+4,none⟩=some (.int .i64 x.a.n):=zi yu.out _ _ (hcell 4 (by omega))
 have x5:wr.cell? ⟨b,off+i*13+5,none⟩=some (.int .u8 x.a.op):=zi yu.out _ _ (hcell 5 (by omega))
 have x6:wr.cell? ⟨b,off+i*13+6,none⟩=some (.slice aa x.a.kids.length ac):=zi yu.out _ _ (hcell 6 (by omega))
 have x7:wr.cell? ⟨b,off+i*13+7,none⟩=some (.int .i64 x.b.kind):=zi yu.out _ _ (hcell 7 (by omega))
 have x8:wr.cell? ⟨b,off+i*13+8,none⟩=some (.int .i64 x.b.n):=zi yu.out _ _ (hcell 8 (by omega))
 have x9:wr.cell? ⟨b,off+i*13+9,none⟩=some (.int .u8 x.b.op):=zi yu.out _ _ (hcell 9 (by omega))
 have x10:wr.cell? ⟨b,off+i*13+10,none⟩=some (.slice ba x.b.kids.length bc):=zi yu.out _ _ (hcell 10 (by omega))
 have qZ:wr.cell? ⟨b,off+i*13+11,none⟩=some (.slice ya x.yes.length yc):=zi yu.out _ _ (hcell 11 (by omega))
 have x12:wr.cell? ⟨b,off+i*13+12,none⟩=some (.slice na x.no.length nc):=zi yu.out _ _ (hcell 12 (by omega))
 generalize hyN:zM x.yes=yN at hx hcy
 generalize hnN:zM x.no=nN at hx hcn
 generalize x.kind=q0 at x0 hcp hk1 hk2 hkind
 generalize x.reg=q1 at x1 hcp
 generalize x.var=q2 at x2 hcp
 generalize x.a.kind=q3 at x3 hcp
 generalize x.a.n=q4 at x4 hcp
 generalize x.a.op=q5 at x5 hcp
 generalize x.a.kids.length=q6 at x6 hcp
 generalize x.b.kind=q7 at x7 hcp
 generalize x.b.n=q8 at x8 hcp
 generalize x.b.op=q9 at x9 hcp
 generalize x.b.kids.length=q10 at x10 hcp
 generalize x.yes.length=q11 at qZ hcy hkind
 generalize x.no.length=q12 at x12 hcn hkind
 have HX:Hid (NT (i+1)=NT i+(1+yN+nN)):=hx
 have hs1:NT i+(1+yN+nN)<=200:=by omega
 generalize NT i=ni at HX hs1 ⊢
 have HCY:=qh hcy
 have jI:=qh hcn
 have HCP:=qh hcp
 clear hcell hA hB hY hNo hx hn1 hxo hhead hyo hno hpart hcy hcn hcp hyN hnN
 have zvP:(1:Int)<=(deep:Int):=by omega
 have zya:(ni:Int)+1<=200:=by omega
 have b1:decide ((deep:Int)<1)=false:=by rw [decide_eq_false_iff_not];omega
 have b2:decide ((200:Int)<(ni:Int)+1)=false:=by rw [decide_eq_false_iff_not];omega
 have b3:decide (q0<1)=false:=by rw [decide_eq_false_iff_not];omega
 have b4:decide (11<q0)=false:=by rw [decide_eq_false_iff_not];omega
 have HK:=qh hkind
 clear hkind hd1
 go_upto_region 7 with fail
 clear x0 x1 x2 x3 x4 x5 x6 x7 x8 x9 x10 qZ x12
 have hbx:=zm yu.out ((Below.refl wr.heap.size wr).alloc (Nat.le_refl _) (.cells #[.int .i64 q0, .int .i64 q1, .int .i64 q2, .int .i64 q3, .int .i64 q4, .int .u8 q5, .slice aa q6 ac, .int .i64 q7, .int .i64 q8, .int .u8 q9, .slice ba q10 bc, .slice ya q11 yc, .slice na q12 nc] 151))
 have hg:=zT wr (.cells #[.int .i64 q0, .int .i64 q1, .int .i64 q2, .int .i64 q3, .int .i64 q4, .int .u8 q5, .slice aa q6 ac, .int .i64 q7, .int .i64 q8, .int .u8 q9, .slice ba q10 bc, .slice ya q11 yc, .slice na q12 nc] 151)
 have qz:=qh hbx
 have vk:=qh hg
 clear hbx hg
 generalize World.alloc wr _=X at qz vk ⊢
 generalize wr.heap.size=gx at vk ⊢
 have y0:=za vk.out 0
 have y1:=za vk.out 1
 have y2:=za vk.out 2
 have y3:=za vk.out 3
 have y4:=za vk.out 4
 have y5:=za vk.out 5
 have y6:=za vk.out 6
 have y7:=za vk.out 7
 have y8:=za vk.out 8
 have y9:=za vk.out 9
 have pF:=za vk.out 10
 go_upto_region 9 with(go_at_call 58;go_must(refine(HCP.out X qz.out).mono ?_);rintro en X1 ⟨rfl,hb⟩;(have HB1:=qh hb);clear hb y0 y1 y2 y3 y4 y5 y6 y7 y8 y9 pF)
 have zsr:=qh (zm qz.out HB1.out)
 have xE:=qh ((HB1.out.block _ (zB vk.out)).trans vk.out)
 have z0:X1.cell? ⟨gx,0,none⟩=some (.int .i64 q0):=za xE.out 0
 have z5:X1.cell? ⟨gx,11,none⟩=some (.slice ya q11 yc):=za xE.out 11
 have z6:X1.cell? ⟨gx,12,none⟩=some (.slice na q12 nc):=za xE.out 12
 clear qz HB1 vk b1 b2 b3 b4
 go_cut [80] (λs80 w'=>s80= .bool false/\w'=X1)
 case first=>
  by_cases h10:q0=10
  ·subst h10
   go_wp2_with fail
   go_meet
   case rel=>exact⟨(by first|rfl|simp),rfl⟩
  have hk:=HK.out.resolve_left h10
  have zoM:(q0==10)=false:=by rw [beq_eq_false_iff_ne];exact h10
  have zwc:(q0 !=10)=true:=by rw [bne,zoM];rfl
  obtain⟨hno,hk⟩:=hk
  subst hno
  clear h10
  by_cases h11:q0=11
  ·subst h11
   clear zoM zwc
   go_wp2_with fail
   go_meet
   case rel=>exact⟨(by first|rfl|simp),rfl⟩
  have zss:(q0==11)=false:=by rw [beq_eq_false_iff_ne];exact h11
  have zy7:(q0 !=11)=true:=by rw [bne,zss];rfl
  have hy0:=hk.resolve_left h11
  subst hy0
  clear h11 hk zoM zss
  go_wp2_with fail
  go_meet
  case rel=>exact⟨(by first|rfl|simp),rfl⟩
 case rest=>
 obtain⟨rfl,hwv⟩:=hcut
 obtain rfl:X1=wc:=hwv.symm
 clear z0
 go_upto_region 12 with(go_at_call 76;go_must(refine(HCY.out X1 zsr.out).mono ?_);rintro en X2 ⟨rfl,hb⟩;(have HB2:=qh hb);(have zst:=qh (zm zsr.out hb));clear hb;(have z6':=zi HB2.out _ _ z6);clear z5 z6)
 go_upto_region 13 with(go_at_call 76;go_must(refine(jI.out X2 zst.out).mono ?_);rintro en X3 ⟨rfl,hb⟩;(have zwd:=qh (zm zst.out hb));clear hb z6')
 go_wp2_with fail
 go_roundg (n - (i+1))
 case measure=>rw [HG.out];omega
 case rel=>exact⟨i+1,by omega,rfl,zcY (by rw [HX.out];omega),by simp,zwd.out⟩
theorem zmM (e d:Nat):zc7 e d:=by
 induction d with
 |zero=>intro w l v hl;exact hl.elim
 |succ d ih=>exact zoL e d ih
def zie (_:World) (x:List UInt8) (cs:List Value):Prop:=cs= [.string ⟨x.toArray⟩]
theorem zie.stays:vP zie:=λ_ _ _ _ h _=>h
abbrev zbe:=zh zie 1
theorem zbe.part {w:World} {a:Option Addr} {n cap:Nat} {l:List (List UInt8)} (h:zbe w (.slice a n cap) l) (j:Nat) (hj:j<l.length):∃b off,a=some ⟨b,off,none⟩/\b<w.heap.size/\w.cell? ⟨b,off+j,none⟩=some (.string ⟨(l.getD j []).toArray⟩):=by
 obtain⟨b,off,cs,h1,h2,h3,h4,h5⟩:=zh.part h j hj
 have h5:cs= [.string ⟨(l.getD j default).toArray⟩] :=h5
 subst h5
 have:=h4 0 (by omega)
 rw [Nat.mul_one,Nat.add_zero] at this
 exact⟨b,off,h1,h2,this⟩
def zf3 (e d:Nat) (w:World) (l:List zq) (cs:List Value):Prop:=∃v,cs= [v] /\zJ e d w l v
theorem zf3.stays (e d:Nat):vP (zf3 e d):=λ_ _ _ _ ⟨v,h,h1⟩ hb=>⟨v,h,h1.below hb⟩
abbrev zcj (e d:Nat):=zh (zf3 e d) 1
theorem zcj.part {e d:Nat} {w:World} {a:Option Addr} {n cap:Nat} {l:List (List zq)} (h:zcj e d w (.slice a n cap) l) (j:Nat) (hj:j<l.length):∃b off ka kc,a=some ⟨b,off,none⟩/\b<w.heap.size/\w.cell? ⟨b,off+j,none⟩=some (.slice ka (l.getD j []).length kc)/\zJ e d w (l.getD j []) (.slice ka (l.getD j []).length kc):=by
 obtain⟨b,off,cs,h1,h2,h3,h4,v,h5,h6⟩:=zh.part h j hj
 subst h5
 obtain⟨ka,kc,rfl, -⟩:=h6.slice
 have:=h4 0 (by omega)
 rw [Nat.mul_one,Nat.add_zero] at this
 exact⟨b,off,ka,kc,h1,h2,this,h6⟩
def zcJ (p:bK) (vv tv:Value):Value:= .agg #[vv, .int .i64 p.domain,tv]
structure zbb (e d:Nat) (w:World) (p:bK) (vv tv:Value):Prop where
 vars:zbe w vv p.vars
 threads:zcj e d w tv p.threads
theorem zbb.below {e d:Nat} {w w':World} {p:bK} {vv tv:Value} (h:zbb e d w p vv tv) (hb:Below w.heap.size w w'):zbb e d w' p vv tv:=⟨zh.below zie.stays h.vars hb,zh.below (zf3.stays e d) h.threads hb⟩
theorem zsu {n i:Nat} (hn:n<=3) (hi:i<n):∃b:UInt8,(xyz.take n).getD i [] = [b] /\zcX b.toNat=true/\b.toNat=120+i:=by
 have hi3:i=0\/i=1\/i=2:=by omega
 have e:(xyz.take n).getD i [] =xyz.getD i [] :=by simp only [List.getD_eq_getElem?_getD,List.getElem?_take_of_lt hi]
 rw [e]
 rcases hi3 with rfl|rfl|rfl
 ·exact⟨120,rfl,rfl,rfl⟩
 ·exact⟨121,rfl,rfl,rfl⟩
 exact⟨122,rfl,rfl,rfl⟩
theorem zsv {a b:UInt8} (h:a≠b):((⟨#[a]⟩:ByteArray).toList==(⟨#[b]⟩:ByteArray).toList)=false:=by
 rw [beq_eq_false_iff_ne,ByteArray.toList_eq,ByteArray.toList_eq]
 intro e
 exact h (by simpa using e)
theorem zoN {l:List Nat} {i:Nat} (hi:i<l.length):(l.take (i+1)).sum=(l.take i).sum+l.getD i 0:=by
 rw [List.take_succ_eq_append_getElem hi,List.sum_append,List.getD_eq_getElem?_getD,List.getElem?_eq_getElem hi];simp
theorem zsw (l:List Nat) (i:Nat):(l.take i).sum<=l.sum:=by
 have:(l.take i).sum+(l.drop i).sum=l.sum:=by rw [<-List.sum_append,List.take_append_drop]
 omega
theorem zgp (e d:Nat) (w:World) (p:bK) (hp:zcP p) (vv tv:Value) (h:zbb e d w p vv tv):Calls Tryz.prog 54 #[zcJ p vv tv] w λe w'=>e= .returned (.bool true)/\Below w.heap.size w w':=by
 obtain⟨va,vc,rfl, -⟩:=zh.slice h.vars
 obtain⟨ta,tc,rfl, -⟩:=zh.slice h.threads
 obtain⟨vn,v1,v2,hv⟩:=hp.vars
 have hvl:p.vars.length=vn:=by rw [hv,List.length_take];simp [xyz];omega
 obtain⟨d1,d2⟩:=hp.dom
 obtain⟨m1,m2⟩:=hp.many
 obtain⟨tn,htn⟩:∃n,n=p.threads.length:=⟨_,rfl⟩
 have hxy:=λi (hi:i<vn)=>zsu v2 hi
 rw [<-hv] at hxy
 have hok:∀i,i<tn->zX vn p.domain (p.threads.getD i []) 20=true/\zM (p.threads.getD i [])<=200:=λi hi=>by
  have hm:p.threads.getD i [] ∈p.threads:=yL (by rw [<-htn];exact hi)
  have:=hp.ok _ hm
  rw [hvl] at this
  exact⟨this,hp.one hm⟩
 obtain⟨ST,hST⟩:∃ST:Nat->Nat,ST=λi=>((p.threads.map zM).take i).sum:=⟨_,rfl⟩
 have hst:∀i,i<tn->ST (i+1)=ST i+zM (p.threads.getD i []):=λi hi=>by
  simp only [hST]
  have:=zoN (l:=p.threads.map zM) (i:=i) (by simp [<-htn];exact hi)
  rw [this]
  simp [List.getD_eq_getElem?_getD,List.getElem?_eq_getElem (htn ▸ hi:i<p.threads.length)]
 have zsx:∀i,ST i<=200:=λi=>by rw [hST];exact Nat.le_trans (zsw _ _) hp.all
 have hs0:ST 0=0:=by rw [hST];rfl
 have hvars:=h.vars
 have zbx:=h.threads
 rw [<-hvl] at hxy
 unfold zcJ
 generalize p.domain=dom at d1 d2 hok ⊢
 rw [<-htn] at m1 m2
 generalize p.vars=L at hvl hvars hxy ⊢
 generalize p.threads=T at htn zbx hok hst ⊢
 rw [hvl] at hvars hxy ⊢
 rw [<-htn] at zbx ⊢
 have hB:=(Below.refl w.heap.size w).alloc (Nat.le_refl _) (.cells #[.slice va vn vc, .int .i64 dom, .slice ta tn tc] 93)
 have H1:=qh (zT w (.cells #[.slice va vn vc, .int .i64 dom, .slice ta tn tc] 93))
 have zcQ:=qh (zh.below zie.stays hvars hB)
 have zjX:=qh (zh.below (zf3.stays e d) zbx hB)
 have HB:=qh hB
 have HVL:=qh hvl
 have HTN:=qh htn
 have HXY:=qh hxy
 have qx:=qh hok
 have HST:=qh hst
 have zwe:=qh zsx
 have HS0:=qh hs0
 clear hvars zbx hB hvl htn hxy hok hst zsx hs0 h hp hv hST
 have b1:decide ((vn:Int)<1)=false:=by rw [decide_eq_false_iff_not];omega
 have b2:decide ((4:Int)<(vn:Int))=false:=by rw [decide_eq_false_iff_not];omega
 have b3:decide (dom<2)=false:=by rw [decide_eq_false_iff_not];omega
 have b4:decide (16<dom)=false:=by rw [decide_eq_false_iff_not];omega
 have b5:decide ((tn:Int)<1)=false:=by rw [decide_eq_false_iff_not];omega
 have b6:decide ((4:Int)<(tn:Int))=false:=by rw [decide_eq_false_iff_not];omega
 go_enter Tryz.func54,Tryz.ntmps54
 go_upto_region 1 with fail
 generalize World.alloc w _=W at HB H1 zcQ zjX ⊢
 generalize w.heap.size=gx at H1 ⊢
 have zwf:Hid (∀x,Below W.heap.size W x->Below w.heap.size w x):=λx hx=>HB.out.trans (hx.mono HB.out.size)
 have HC:Hid (∀x,Below W.heap.size W x->x.cell? ⟨gx,0,none⟩=some (.slice va vn vc)/\x.cell? ⟨gx,1,none⟩=some (.int .i64 dom)/\x.cell? ⟨gx,2,none⟩=some (.slice ta tn tc)):=λx hx=>⟨zi hx _ _ (za H1.out 0),zi hx _ _ (za H1.out 1),zi hx _ _ (za H1.out 2)⟩
 obtain⟨c0,c1,c2⟩:=HC.out W (Below.refl _ _)
 go_wp2_with fail
 clear c0 c1 c2 b1 b2 b3 b4 b5 b6
 go_loopg [3] vn (λgg s3 wr=>∃i:Nat,i<=vn/\Hid (gg=vn - i)/\s3= .int .i64 i/\Hid (Below W.heap.size W wr))
 case atStart=>exact⟨0,Nat.zero_le _,rfl,rfl,Below.refl _ _⟩
 case round=>
 obtain⟨i,hi,HG,rfl,yu⟩:=hrel
 obtain⟨c0,c1,c2⟩:=HC.out wr yu.out
 by_cases hlt:i<vn
 ·have qQ:(i:Int)<(vn:Int):=by omega
  obtain⟨b,off,gB, -,x0⟩:=zbe.part zcQ.out i (by rw [HVL.out];exact hlt)
  subst gB
  obtain⟨u,hu1,hu2,hu3⟩:=HXY.out i hlt
  rw [hu1] at x0
  have hname:Calls Tryz.prog 75 #[.string ⟨#[u]⟩] wr λe w'=>e= .returned (.bool true)/\Below wr.heap.size wr w':=zoJ wr u hu2
  have zoO:∀v:UInt8,v≠u->((⟨#[v]⟩:ByteArray).toList==(⟨#[u]⟩:ByteArray).toList)=false:=λv hv=>zsv hv
  have x0':W.cell? ⟨b,off+i,none⟩=some (.string ⟨#[u]⟩):=x0
  generalize (⟨#[u]⟩:ByteArray)=su at x0' hname zoO
  have HX0:=qh x0'
  have HU3:=qh hu3
  have zwg:=qh zoO
  have y0:wr.cell? ⟨b,off+i,none⟩=some (.string su):=zi yu.out _ _ x0'
  have zpQ:=qh hname
  clear hu1 hu2 hu3 x0 x0' hname zoO
  go_upto_region 8 with(go_at_call 75;go_must(refine zpQ.out.mono ?_);rintro en X1 ⟨rfl,hb⟩;(have HB1:=qh (zm yu.out hb));clear hb y0 c0 c1 c2 zpQ)
  go_wp2_with fail
  clear yu
  go_loopg [4] i (λgg s4 wr=>∃k:Nat,k<=i/\Hid (gg=i - k)/\s4= .int .i64 k/\Hid (Below W.heap.size W wr))
  case atStart=>exact⟨0,Nat.zero_le _,rfl,rfl,HB1.out⟩
  case round=>
  obtain⟨k,hk,HG2,rfl,zif⟩:=hrel
  by_cases hlk:k<i
  rotate_left
  ·obtain rfl:i=k:=by omega
   go_wp2_with fail
   go_roundg (vn - (i+1))
   case measure=>rw [HG.out];omega
   case rel=>exact⟨i+1,by omega,rfl,by simp,zif.out⟩
  have zy8:(k:Int)<(i:Int):=by omega
  obtain⟨b',off',gB, -,x1⟩:=zbe.part zcQ.out k (by rw [HVL.out];omega)
  obtain⟨rfl,rfl⟩:b=b'/\off=off':=by simpa using gB
  obtain⟨v,hv1,hv2,hv3⟩:=HXY.out k (by omega)
  rw [hv1] at x1
  have hne:v≠u:=λe=>by have:=HU3.out;rw [e] at hv3;omega
  have hnl:=zwg.out v hne
  obtain⟨c0,c1,c2⟩:=HC.out wr zif.out
  have y0:wr.cell? ⟨b,off+i,none⟩=some (.string su):=zi zif.out _ _ HX0.out
  have y1:wr.cell? ⟨b,off+k,none⟩=some (.string ⟨#[v]⟩):=zi zif.out _ _ x1
  clear hv1 hv2 hv3 x1 hne
  generalize (⟨#[v]⟩:ByteArray)=sv at y1 hnl
  go_upto_region 11 with fail
  go_quiet (fail)
  go_wp2_with fail
  go_roundg (i - (k+1))
  case measure=>rw [HG2.out];omega
  case rel=>exact⟨k+1,by omega,rfl,by simp,vK zif.out _⟩
 obtain rfl:vn=i:=by omega
 go_wp2_with fail
 clear c0 c1 c2
 go_loopg [5,6] tn (λgg s5 s6 wr=>∃i:Nat,i<=tn/\Hid (gg=tn - i)/\s5= .int .i64 (ST i)/\s6= .int .i64 i/\Hid (Below W.heap.size W wr))
 case atStart=>exact⟨0,Nat.zero_le _,rfl,zcY (by rw [HS0.out];rfl),rfl,yu.out⟩
 case round=>
 obtain⟨i,hi,HG,rfl,rfl,yu⟩:=hrel
 obtain⟨c0,c1,c2⟩:=HC.out wr yu.out
 by_cases hlt:i<tn
 rotate_left
 ·obtain rfl:tn=i:=by omega
  go_wp2_with fail
  go_ret
  exact⟨rfl,zwf.out _ yu.out⟩
 have qQ:(i:Int)<(tn:Int):=by omega
 obtain⟨b,off,ka,kc,gB, -,x0,hst⟩:=zcj.part zjX.out i (by rw [<-HTN.out];exact hlt)
 subst gB
 obtain⟨hok,zoP⟩:=qx.out i hlt
 have hs1:=HST.out i hlt
 have hs2:=zwe.out (i+1)
 generalize T.getD i [] =l at x0 hst hok zoP hs1
 have hcl:=λy (hy:Below W.heap.size W y)=>zmM e d y l _ (hst.below hy) 20 vn dom (by omega) hok zoP
 have y0:=zi yu.out _ _ x0
 generalize l.length=ln at y0 hcl
 have HS1:Hid (ST (i+1)=ST i+zM l):=hs1
 have hsum:ST i+zM l<=200:=by omega
 generalize zM l=sn at hcl HS1 hsum
 generalize ST i=si at HS1 hsum ⊢
 have je:=qh hcl
 clear hst hok zoP hs1 hs2 hcl x0
 go_upto_region 17 with fail
 have CC:Hid (∀x,Below wr.heap.size wr x->x.cell? ⟨gx,0,none⟩=some (.slice va vn vc)/\x.cell? ⟨gx,1,none⟩=some (.int .i64 dom)/\x.cell? ⟨gx,2,none⟩=some (.slice (some ⟨b,off,none⟩) tn tc)/\x.cell? ⟨b,off+i,none⟩=some (.slice ka ln kc)):=λx hx=>⟨zi hx _ _ c0,zi hx _ _ c1,zi hx _ _ c2,zi hx _ _ y0⟩
 clear y0 c0 c1 c2
 refine kP (S:=λx=>Below wr.heap.size wr x) (Below.refl _ _).drew (λhH=> ?_)
 refine zk 0 CC.out ?_
 refine zk 1 CC.out ?_
 refine zk 2 CC.out ?_
 refine zk 3 CC.out ?_
 refine zk 4 CC.out ?_
 refine zk 5 CC.out ?_
 refine zk 6 CC.out ?_
 refine zk 7 CC.out ?_
 refine zk 8 CC.out ?_
 refine zk 9 CC.out ?_
 refine yZ 10 rfl (λK hK=> ?_)
 go_simp
 refine(je.out wr.drew (zm yu.out hH)).mono ?_
 rintro en zwh ⟨rfl,hb⟩
 have zkC:Below wr.heap.size wr zwh:=zm hH hb
 refine hK.out _ _ zkC (λ_=> ?_)
 clear hK K hb hH
 refine zk 11 CC.out ?_
 refine zk 12 CC.out ?_
 refine zk 13 CC.out ?_
 refine zk 14 CC.out ?_
 refine zk 15 CC.out ?_
 refine vE ?_
 have kF:=qh (zm yu.out zkC)
 clear zkC CC
 have zyb:(si:Int)+(sn:Int)<=200:=by omega
 have b1:decide ((200:Int)<(si:Int)+(sn:Int))=false:=by rw [decide_eq_false_iff_not];omega
 go_wp2_with fail
 go_roundg (tn - (i+1))
 case measure=>rw [HG.out];omega
 case rel=>exact⟨i+1,by omega,rfl,zcY (by rw [HS1.out];omega),by simp,kF.out⟩
