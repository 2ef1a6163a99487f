/- Names: what a byte is: the document's answer. A word of one byte is none of the language's own. A letter is a name: the document's answer: the walk. Programs: which may be, and that their instructions may be: plain Lean. May statements be: the document's answer: the walk over statements that may be. A program that may be is told so: the document's answer: the walk. -/
import Derived.Test.YtliajkheeniljaaGreatDoorZsBlocks
import Derived.Test.YtliajkheeniljaaGreatDoorZsData
import Derived.Test.YtliajkheeniljaaGreatDoorZsStepQ
import Derived.Test.YtliajkheeniljaaGreatDoorZsShort
set_option linter.all false
namespace Go.Proofs.YtliajkheeniljaaGreatDoor
open Go.RowKit
set_option maxRecDepth 100000
set_option maxHeartbeats 16000000
def zee (c:Int):Bool:=decide (97<=c) && decide (c<=122)
theorem zlY (w:World) (c:Int):Calls Tryz.prog 118 #[.int .u8 c] w fun e w'=>e= .returned (.bool (zee c))/\Below w.heap.size w w':=by
 unfold zee
 by_cases h1:97<=c
 ·go_enter Tryz.func118,Tryz.ntmps118
  go_wp2
  go_ret
  exact⟨by simp [h1],Below.refl _ _⟩
 ·go_enter Tryz.func118,Tryz.ntmps118
  go_wp2
  go_ret
  exact⟨by simp;omega,Below.refl _ _⟩
def zgN (b:UInt8):Value:= .string ⟨#[b]⟩
theorem ziW (w:World) (b:UInt8):Calls Tryz.prog 120 #[zgN b] w fun e w'=>e= .returned (.int .i64 (-1))/\Below w.heap.size w w':=by
 unfold zgN
 have hsz:((⟨#[b]⟩:ByteArray)).size=1:=rfl
 generalize (⟨#[b]⟩:ByteArray)=s at hsz ⊢
 have hszI:((s.size:Int)==2)=false:=by rw [hsz];rfl
 go_enter Tryz.func120,Tryz.ntmps120
 go_wp2
 go_ret
 exact⟨rfl,Below.refl _ _⟩
def z9N:List ByteArray:= [⟨#[118,97,114,115]⟩,⟨#[100,111,109,97,105,110]⟩,⟨#[116,104,114,101,97,100]⟩,⟨#[102,101,110,99,101]⟩,⟨#[115,102,101,110,99,101]⟩,⟨#[99,97,115]⟩,⟨#[108,111,99,107]⟩,⟨#[117,110,108,111,99,107]⟩,⟨#[97,115,115,101,114,116]⟩,⟨#[105,102]⟩,⟨#[101,108,115,101]⟩,⟨#[119,104,105,108,101]⟩]
theorem zxJ (i:Nat) (hi:i<12) (s:ByteArray) (hs:s.size=1):∃k:ByteArray,(z9N.map Value.string)[i]? =some (.string k)/\k≠s:=by
 have hne:∀k:ByteArray,k.size≠1->k≠s:=fun k hk e=>by rw [e] at hk;exact hk hs
 match i,hi with
 |0,_=>exact⟨_,rfl,hne _ (by decide)⟩
 |1,_=>exact⟨_,rfl,hne _ (by decide)⟩
 |2,_=>exact⟨_,rfl,hne _ (by decide)⟩
 |3,_=>exact⟨_,rfl,hne _ (by decide)⟩
 |4,_=>exact⟨_,rfl,hne _ (by decide)⟩
 |5,_=>exact⟨_,rfl,hne _ (by decide)⟩
 |6,_=>exact⟨_,rfl,hne _ (by decide)⟩
 |7,_=>exact⟨_,rfl,hne _ (by decide)⟩
 |8,_=>exact⟨_,rfl,hne _ (by decide)⟩
 |9,_=>exact⟨_,rfl,hne _ (by decide)⟩
 |10,_=>exact⟨_,rfl,hne _ (by decide)⟩
 |11,_=>exact⟨_,rfl,hne _ (by decide)⟩
theorem zvg (w:World) (b:UInt8):Calls Tryz.prog 119 #[zgN b] w fun e w'=>e= .returned (.bool false)/\Below w.heap.size w w':=by
 unfold zgN
 have hsz:((⟨#[b]⟩:ByteArray)).size=1:=rfl
 generalize (⟨#[b]⟩:ByteArray)=s at hsz ⊢
 have HB:=qh ((Below.refl w.heap.size w).alloc (Nat.le_refl _) (.cells #[.string ⟨#[118,97,114,115]⟩, .string ⟨#[100,111,109,97,105,110]⟩, .string ⟨#[116,104,114,101,97,100]⟩, .string ⟨#[102,101,110,99,101]⟩, .string ⟨#[115,102,101,110,99,101]⟩, .string ⟨#[99,97,115]⟩, .string ⟨#[108,111,99,107]⟩, .string ⟨#[117,110,108,111,99,107]⟩, .string ⟨#[97,115,115,101,114,116]⟩, .string ⟨#[105,102]⟩, .string ⟨#[101,108,115,101]⟩, .string ⟨#[119,104,105,108,101]⟩] 9))
 have HG:=qh (yD w (.cells #[.string ⟨#[118,97,114,115]⟩, .string ⟨#[100,111,109,97,105,110]⟩, .string ⟨#[116,104,114,101,97,100]⟩, .string ⟨#[102,101,110,99,101]⟩, .string ⟨#[115,102,101,110,99,101]⟩, .string ⟨#[99,97,115]⟩, .string ⟨#[108,111,99,107]⟩, .string ⟨#[117,110,108,111,99,107]⟩, .string ⟨#[97,115,115,101,114,116]⟩, .string ⟨#[105,102]⟩, .string ⟨#[101,108,115,101]⟩, .string ⟨#[119,104,105,108,101]⟩] 9))
 go_enter Tryz.func119,Tryz.ntmps119
 go_upto_region 2 with fail
 generalize World.alloc w _=W at HB HG ⊢
 generalize w.heap.size=g at HG ⊢
 go_wp2_with fail
 go_loopg [4] 12 (fun gg s4 wr=>∃i:Nat,i<=12/\Hid (gg=12 - i)/\s4= .int .i64 i/\wr=W)
 case atStart=>exact⟨0,by omega,rfl,rfl,rfl⟩
 case round=>
  obtain⟨i,hi,HGG,rfl,rfl⟩:=hrel
  by_cases hlt:i<12
  rotate_left
  ·obtain rfl:i=12:=by omega
   go_wp2_with fail
   go_ret
   exact⟨rfl,HB.out⟩
  have qQ:(i:Int)<12:=by omega
  obtain⟨k,hk,hne⟩:=zxJ i hlt s hsz
  have x0:wr.cell? ⟨g,i,none⟩=some (.string k):=by rw [zi HG.out,List.getElem?_toArray];exact hk
  have hnl:(k.toList==s.toList)=false:=by
   rw [ByteArray.toList_eq,ByteArray.toList_eq,beq_eq_false_iff_ne]
   intro e
   apply hne
   obtain⟨kd⟩:=k
   obtain⟨sd⟩:=s
   have:kd=sd:=Array.toList_inj.1 e
   rw [this]
  go_wp2_with fail
  go_roundg (12 - (i+1))
  case measure=>rw [HGG.out];omega
  case rel=>exact⟨i+1,by omega,rfl,by simp,rfl⟩
theorem zrx (w:World) (b:UInt8) (hb:zee b.toNat=true):Calls Tryz.prog 101 #[zgN b] w fun e w'=>e= .returned (.bool true)/\Below w.heap.size w w':=by
 have hk:=fun y=>zvg y b
 have hr:=fun y=>ziW y b
 unfold zgN at hk hr ⊢
 have hsz:((⟨#[b]⟩:ByteArray)).size=1:=rfl
 have hget:∀h:0<((⟨#[b]⟩:ByteArray)).size,((⟨#[b]⟩:ByteArray))[0]'h=b:=fun _=>rfl
 have hne:((⟨#[b]⟩:ByteArray)).toList.isEmpty=false:=by rw [ByteArray.toList_eq];rfl
 generalize (⟨#[b]⟩:ByteArray)=s at hsz hget hk hr hne ⊢
 have hlet:∀(y:World) (h:0<s.size),Calls Tryz.prog 118 #[.int .u8 ((s[0]'h).toNat:Int)] y fun e w'=>e= .returned (.bool true)/\Below y.heap.size y w':=fun y h=>by
  have:=zlY y (b.toNat:Int)
  rw [hb] at this
  rw [hget h];exact this
 have HK:=qh hk
 have HR:=qh hr
 have zxK:=qh hlet
 clear hk hr hlet hget
 have hnl:(s.toList==([] :List UInt8))=false:=by rw [beq_eq_false_iff_ne];intro e;rw [e] at hne;cases hne
 go_enter Tryz.func101,Tryz.ntmps101
 go_wp2_with(first|(go_at_call 120;go_must(refine(HR.out W2).mono ?_);rintro e W3 ⟨rfl,hb3⟩)|(go_at_call 119;go_must(refine(HK.out W1).mono ?_);rintro e W2 ⟨rfl,hb2⟩)|(go_at_call 118;go_must(refine(zxK.out w _).mono ?_);rintro e W1 ⟨rfl,hb1⟩))
 have HB3:=qh (zF (zF hb1 hb2) hb3)
 clear hb1 hb2 hb3
 go_loopg [3] 1 (fun gg s3 wr=>∃i:Nat,i<=1/\Hid (gg=1 - i)/\s3= .int .i64 i/\Hid (Below w.heap.size w wr))
 case atStart=>exact⟨0,by omega,rfl,rfl,HB3.out⟩
 case round=>
  obtain⟨i,hi,HGG,rfl,zP⟩:=hrel
  by_cases hlt:i<1
  ·obtain rfl:i=0:=by omega
   go_wp2_with(go_at_call 118;go_must(refine(zxK.out wr _).mono ?_);rintro e W4 ⟨rfl,hb4⟩;(have vB:=qh (zF zP.out hb4));clear hb4)
   go_roundg 0
   case measure=>rw [HGG.out];omega
   case rel=>exact⟨1,by omega,rfl,by simp,vB.out⟩
  ·obtain rfl:i=1:=by omega
   go_wp2_with fail
   go_ret
   exact⟨rfl,zP.out⟩
mutual
def uE:zH->Nat
 | .mk _ _ _ _ _ y n=>1+yA y+yA n
def yA:List zH->Nat
 | [] =>0
 |x::l=>uE x+yA l
end
def zdC (vars dom k r v:Int) (a b:zJ) (y n:List zH):Bool:=decide (1<=k) && decide (k<=11) && qP k r v a b vars dom && (decide (k=10)||decide (n.length=0) && (decide (k=11)||decide (y.length=0)))
mutual
def wB (vars dom:Int):zH->Nat->Bool
 | .mk k r v a b y n,d=>decide (1<=d) && zdC vars dom k r v a b y n && yX vars dom y (d - 1) && yX vars dom n (d - 1)
def yX (vars dom:Int):List zH->Nat->Bool
 | [],_=>true
 |x::l,d=>wB vars dom x d && yX vars dom l d
end
theorem zbj {vars dom:Int} {x:zH} {d:Nat} (h:wB vars dom x d=true):1<=d/\zdC vars dom x.kind x.reg x.var x.a x.b x.yes x.no=true/\yX vars dom x.yes (d - 1)=true/\yX vars dom x.no (d - 1)=true:=by
 obtain⟨k,r,v,a,b,y,n⟩:=x
 unfold wB at h
 simp only [Bool.and_eq_true,decide_eq_true_eq] at h
 exact⟨h.1.1.1,h.1.1.2,h.1.2,h.2⟩
theorem zko (x:zH):uE x=1+yA x.yes+yA x.no:=by
 obtain⟨k,r,v,a,b,y,n⟩:=x
 rw [uE];rfl
theorem zfK {vars dom k r v:Int} {a b:zJ} {y n:List zH} (h:zdC vars dom k r v a b y n=true):1<=k/\k<=11/\qP k r v a b vars dom=true/\(k=10\/n.length=0/\(k=11\/y.length=0)):=by
 unfold zdC at h
 simp only [Bool.and_eq_true,Bool.or_eq_true,decide_eq_true_eq] at h
 exact⟨h.1.1.1,h.1.1.2,h.1.2,h.2⟩
theorem zao {vars dom:Int} {l:List zH} {d:Nat} :yX vars dom l d=true↔∀x∈l,wB vars dom x d=true:=by
 induction l with
 |nil=>simp [yX]
 |cons x l ih=>rw [yX,Bool.and_eq_true,ih];simp
theorem zcA (l r:List zH):yA (l++r)=yA l+yA r:=by
 induction l with
 |nil=>simp [yA]
 |cons x l ih=>rw [List.cons_append,yA,yA,ih];omega
theorem zkp {l:List zH} {i:Nat} (hi:i<l.length):yA (l.take (i+1))=yA (l.take i)+uE (l.getD i default):=by
 rw [List.take_succ_eq_append_getElem hi,zcA,List.getD_eq_getElem?_getD,List.getElem?_eq_getElem hi]
 simp [yA]
theorem zoS (l:List zH) (i:Nat):yA (l.take i)<=yA l:=by
 have:=zcA (l.take i) (l.drop i)
 rw [List.take_append_drop] at this
 omega
theorem ziX {vars dom:Int} :∀(d:Nat) (l:List zH),yX vars dom l d=true->yX vars dom l (d+1)=true:=by
 intro d
 induction d with
 |zero=>
  intro l h
  cases l with
  |nil=>rw [yX]
  |cons x l=>
   rw [zao] at h
   have:=(zbj (h x (by simp))).1
   omega
 |succ d ih=>
  intro l h
  rw [zao] at h ⊢
  intro x hx
  have h2:=h x hx
  obtain⟨k,r,v,a,b,y,n⟩:=x
  unfold wB at h2 ⊢
  simp only [Bool.and_eq_true,decide_eq_true_eq] at h2 ⊢
  exact⟨⟨⟨by omega,h2.1.1.2⟩,ih y h2.1.2⟩,ih n h2.2⟩
theorem zlZ {vars dom:Int} {d e:Nat} {l:List zH} (h:yX vars dom l d=true) (hl:d<=e):yX vars dom l e=true:=by
 induction hl with
 |refl=>exact h
 |step _ ih=>exact ziX _ _ ih
def gN (vars dom:Int) (yB:Int) (x:zW):Bool:=
 if x.op=12 then vL vars dom 9 yB x else if x.op=13 then vL vars dom 4 yB x else if x.op=10\/x.op=11 then false else vL vars dom x.op 0 x
theorem zfL {vars dom k a b:Int} {x:zW} (h:vL vars dom k a x=true) (hab:a<=b):vL vars dom k b x=true:=by
 unfold vL at h ⊢
 simp only [Bool.and_eq_true,decide_eq_true_eq] at h ⊢
 exact⟨⟨h.1.1,by omega⟩,h.2⟩
theorem ziY {vars dom a b:Int} {x:zW} (h:gN vars dom a x=true) (hab:a<=b):gN vars dom b x=true:=by
 unfold gN at h ⊢
 split
 ·rename_i h1;rw [if_pos h1] at h;exact zfL h hab
 ·rename_i h1;rw [if_neg h1] at h
  split
  ·rename_i h2;rw [if_pos h2] at h;exact zfL h hab
  ·rename_i h2;rw [if_neg h2] at h;exact h
theorem zdD {vars dom:Int} {k r v:Int} {a b:zJ} (hk:k=10\/k=11) (h:qP k r v a b vars dom=true) {yB b_:Int} (h0:0<=yB) (h1:yB<=b_):gN vars dom b_ (qX a yB)=true:=by
 have hp:qP 9 0 0 a default vars dom=true:=by
  have e1:pG 9 0=true:=by decide
  have e2:gP 9 0 vars=true:=by simp [gP,kN]
  have e3:uF 9 a dom=true:=by
   unfold qP at h
   simp only [Bool.and_eq_true] at h
   have:=h.1.2
   rcases hk with rfl|rfl
   ·simpa [uF,kP] using this
   ·simpa [uF,kP] using this
  have e4:zaq 9 default dom=true:=by rfl
  simp [qP,e1,e2,e3,e4]
 show vL vars dom 9 b_ (qX a yB)=true
 unfold vL qX
 simp only [Bool.and_eq_true,decide_eq_true_eq]
 exact⟨⟨⟨by omega,h0⟩,h1⟩,hp⟩
theorem zkL {vars dom:Int} {yB b_:Int} (h0:0<=yB) (h1:yB<=b_):gN vars dom b_ (gQ yB)=true:=by
 have hp:qP 4 0 0 default default vars dom=true:=by
  have e2:gP 4 0 vars=true:=by simp [gP,kN]
  have e1:pG 4 0=true:=by decide
  have e3:uF 4 default dom=true:=by rfl
  have e4:zaq 4 default dom=true:=by rfl
  simp [qP,e1,e2,e3,e4]
 show vL vars dom 4 b_ (gQ yB)=true
 unfold vL gQ
 simp only [Bool.and_eq_true,decide_eq_true_eq]
 exact⟨⟨⟨by omega,h0⟩,h1⟩,hp⟩
theorem zry {vars dom:Int} {k r v:Int} {a b:zJ} (h1:1<=k) (h2:k<=11) (hk:¬k=10) (hk2:¬k=11) (h:qP k r v a b vars dom=true) {b_:Int} (_hb:0<=b_):gN vars dom b_ ⟨k,r,v,a,b,0⟩=true:=by
 unfold gN
 rw [if_neg (by show¬k=12;omega),if_neg (by show¬k=13;omega),if_neg (by show¬(k=10\/k=11);omega)]
 unfold vL
 simp only [Bool.and_eq_true,decide_eq_true_eq]
 exact⟨⟨⟨⟨h1,by omega⟩,by omega⟩,by omega⟩,h⟩
def zhU (vars dom:Int) (at_:Int) (n:Nat) (l:List zW):Prop:=l.length<=3*n/\∀x∈l,gN vars dom (at_+l.length) x=true
theorem zhU.weak {vars dom at_:Int} {n:Nat} {l:List zW} (h:zhU vars dom at_ n l) {b:Int} (hb:at_+l.length<=b):∀x∈l,gN vars dom b x=true:=fun x hx=>ziY (h.2 x hx) hb
mutual
theorem zma (vars dom:Int):∀(x:zH) (d:Nat) (at_:Int),0<=at_->wB vars dom x d=true->zhU vars dom at_ (uE x) (vk x at_)
 | .mk k r v a b y n,d,at_,h0,h=>by
  have hp:=zbj h
  simp only [zH.kind,zH.reg,zH.var,zH.a,zH.b,zH.yes,zH.no] at hp
  obtain⟨h1,h2,h3,h4⟩:=hp
  obtain⟨k1,k2,hpart,hkind⟩:=zfK h2
  have hY:=uz vars dom y (d - 1) (at_+1) (by omega) h3
  have hN:=uz vars dom n (d - 1) (at_+2+(zN y (at_+1)).length) (by omega) h4
  rw [uE]
  unfold vk
  split
  ·rename_i hk
   split
   ·refine⟨by have:=hY.1;simp only [List.length_cons];omega,fun x hx=> ?_⟩
    rcases List.mem_cons.1 hx with rfl|hx
    ·exact zdD (.inl hk) hpart (by omega) (by simp only [List.length_cons];omega)
    ·exact hY.weak (by simp only [List.length_cons];omega) x hx
   ·refine⟨by have:=hY.1;have:=hN.1;simp only [List.length_cons,List.length_append];omega,fun x hx=> ?_⟩
    rcases List.mem_cons.1 hx with rfl|hx
    ·exact zdD (.inl hk) hpart (by omega) (by simp only [List.length_cons,List.length_append];omega)
    ·rcases List.mem_append.1 hx with hx|hx
     ·exact hY.weak (by simp only [List.length_cons,List.length_append];omega) x hx
     ·rcases List.mem_cons.1 hx with rfl|hx
      ·exact zkL (by omega) (by simp only [List.length_cons,List.length_append];omega)
      ·exact hN.weak (by simp only [List.length_cons,List.length_append];omega) x hx
  ·rename_i hk
   split
   ·rename_i hk2
    refine⟨by have:=hY.1;simp only [List.length_cons,List.length_append,List.length_nil];omega,fun x hx=> ?_⟩
    rcases List.mem_cons.1 hx with rfl|hx
    ·exact zdD (.inr hk2) hpart (by omega) (by simp only [List.length_cons,List.length_append,List.length_nil];omega)
    ·rcases List.mem_append.1 hx with hx|hx
     ·exact hY.weak (by simp only [List.length_cons,List.length_append,List.length_nil];omega) x hx
     ·rw [List.mem_singleton] at hx
      subst hx
      exact zkL h0 (by simp only [List.length_cons,List.length_append,List.length_nil];omega)
   ·rename_i hk2
    refine⟨by simp only [List.length_cons,List.length_nil];omega,fun x hx=> ?_⟩
    rw [List.mem_singleton] at hx
    subst hx
    exact zry k1 k2 hk hk2 hpart (by simp only [List.length_cons,List.length_nil];omega)
theorem uz (vars dom:Int):∀(l:List zH) (d:Nat) (at_:Int),0<=at_->yX vars dom l d=true->zhU vars dom at_ (yA l) (zN l at_)
 | [],d,at_,h0,h=>by rw [zN];exact⟨Nat.zero_le _,fun x hx=>by simp at hx⟩
 |x::l,d,at_,h0,h=>by
  rw [yX,Bool.and_eq_true] at h
  have hX:=zma vars dom x d at_ h0 h.1
  have hL:=uz vars dom l d (at_+(vk x at_).length) (by omega) h.2
  rw [zN,yA]
  refine⟨by have:=hX.1;have:=hL.1;rw [List.length_append];omega,fun y hy=> ?_⟩
  rcases List.mem_append.1 hy with hy|hy
  ·exact hX.weak (by rw [List.length_append];omega) y hy
  ·exact hL.weak (by rw [List.length_append];omega) y hy
end
def xyz:List (List UInt8):= [[120], [121], [122]]
structure zef (p:zaS):Prop where
 vars:∃n,1<=n/\n<=3/\p.vars=xyz.take n
 dom:2<=p.domain/\p.domain<=16
 many:1<=p.threads.length/\p.threads.length<=3
 ok:∀l∈p.threads,yX p.vars.length p.domain l 20=true
 all:(p.threads.map yA).sum<=200
def zbg (p:zaS):zX:=⟨p.vars.length,p.domain,p.threads.map (fun l=>zN l 0)⟩
theorem zvh {l:List Nat} {x:Nat} (h:x∈l):x<=l.sum:=by
 induction l with
 |nil=>simp at h
 |cons y l ih=>
  rcases List.mem_cons.1 h with rfl|h
  ·simp
  ·have:=ih h;simp;omega
theorem zef.one {p:zaS} (h:zef p) {l:List zH} (hl:l∈p.threads):yA l<=200:=by
 have:=zvh (List.mem_map.2 ⟨l,hl,rfl⟩:yA l∈p.threads.map yA)
 have:=h.all
 omega
theorem zlI {p:zaS} (h:zef p):codeOk (zbg p)=true:=by
 obtain⟨n,n1,n2,hn⟩:=h.vars
 have hv:p.vars.length=n:=by rw [hn,List.length_take];simp [xyz];omega
 have hd:=h.dom
 have hm:=h.many
 unfold codeOk zbg
 simp only [Bool.and_eq_true,decide_eq_true_eq,List.length_map]
 refine⟨⟨⟨⟨⟨⟨by omega,by omega⟩,by omega⟩,by omega⟩,by omega⟩,by omega⟩, ?_⟩
 rw [List.all_eq_true]
 intro r hr
 obtain⟨l,hl,rfl⟩:=List.mem_map.1 hr
 have hg:=uz p.vars.length p.domain l 20 0 (by omega) (h.ok l hl)
 have h2:=h.one hl
 unfold rowOk
 simp only [Bool.and_eq_true,decide_eq_true_eq]
 refine⟨by have:=hg.1;omega, ?_⟩
 rw [List.all_eq_true]
 intro x hx
 have:=hg.2 x hx
 rw [Int.zero_add] at this
 exact this
theorem zeg {a b:Int} (h:a=b):Value.int .i64 a=Value.int .i64 b:=by rw [h]
def zdE (e d:Nat):Prop:=∀(w:World) (l:List zH) (v:Value),yt e d w l v->∀(deep:Nat) (vars dom:Int),deep<=1000->yX vars dom l deep=true->yA l<=200->
 Calls Tryz.prog 102 #[v, .int .i64 deep, .int .i64 vars, .int .i64 dom] w fun en w'=>en= .returned (.tuple #[.int .i64 (yA l), .bool true])/\Below w.heap.size w w'
theorem zrz (e d:Nat) (ih:zdE e d):zdE e (d+1):=by
 intro w l v hl deep vars dom zGq hok hN
 obtain⟨la,lc,rfl,hll⟩:=hl.slice
 have htk:=fun i (hi:i<l.length)=>zkp (l:=l) (i:=i) hi
 have hle:=fun i=>zoS l i
 have hz:yA (l.take 0)=0:=by simp [yA]
 have hR:yA l=yA (l.take l.length):=by rw [List.take_length]
 rw [hR] at hN hle ⊢
 obtain⟨NT,hNT⟩:∃NT:Nat->Nat,NT=fun i=>yA (l.take i):=⟨_,rfl⟩
 have zxL:∀i,yA (l.take i)=NT i:=fun i=>by rw [hNT]
 simp only [zxL] at htk hle hz hN ⊢
 have hall:=zao.1 hok
 obtain⟨n,hnn⟩:∃n,n=l.length:=⟨_,rfl⟩
 rw [<-hnn] at hl hll htk hN hle ⊢
 have HL:=qh hl
 have HN:=qh hnn
 have jM:=qh htk
 have HLE:=qh hle
 have HZ:=qh hz
 have zr0:=qh hall
 have IH:=qh ih
 clear hl hnn htk hle hz hR hNT zxL hall hok ih
 go_enter Tryz.func102,Tryz.ntmps102
 go_wp2_with fail
 go_loopg [10,11] n (fun gg s10 s11 wr=>∃i:Nat,i<=n/\Hid (gg=n - i)/\s10= .int .i64 (NT i)/\s11= .int .i64 i/\Hid (Below w.heap.size w wr))
 case atStart=>exact⟨0,Nat.zero_le _,rfl,zeg (by rw [HZ.out];rfl),rfl,Below.refl _ _⟩
 case round=>
  obtain⟨i,hi,HG,rfl,rfl,zP⟩:=hrel
  by_cases hlt:i<n
  rotate_left
  ·obtain rfl:n=i:=by omega
   have hNI:((NT n:Nat):Int)<=200:=by omega
   go_wp2_with fail
   go_ret2
   exact⟨by first|rfl|simp,zP.out⟩
  have qQ:(i:Int)<(n:Int):=by omega
  obtain⟨b,off,aa,ac,ba,bc,ya,yc,na,nc,yx, -,hcell,hA,hB,hY,hNo⟩:=yt.part HL.out i (by rw [<-HN.out];exact hlt)
  subst yx
  have hx:=jM.out i hlt
  have hn1:=HLE.out (i+1)
  have hxo:=zr0.out (l.getD i default) (vG (by rw [<-HN.out];exact hlt))
  generalize l.getD i default=x at hcell hA hB hY hNo hx hxo
  obtain⟨hd1,hhead,hyo,hno⟩:=zbj hxo
  obtain⟨hk1,hk2,hpart,hkind⟩:=zfK hhead
  rw [zko] at hx
  have hcy:=fun y (hy:Below w.heap.size w y)=>IH.out y x.yes _ (hY.below hy) (deep - 1) vars dom (by omega) hyo (by omega)
  have hcn:=fun y (hy:Below w.heap.size w y)=>IH.out y x.no _ (hNo.below hy) (deep - 1) vars dom (by omega) hno (by omega)
  have hcp:=fun y (hy:Below w.heap.size w y)=>zja y x.kind x.reg x.var x.a x.b _ _ e (hA.below hy) (hB.below hy) vars dom
  rw [hpart] at hcp
  rw [show((deep - 1:Nat):Int)=(deep:Int) - 1 by omega] at hcy hcn
  unfold xP at hcp
  have x0:wr.cell? ⟨b,off+i*13,none⟩=some (.int .i64 x.kind):=zl zP.out _ _ (hcell 0 (by omega))
  have x1:wr.cell? ⟨b,off+i*13+1,none⟩=some (.int .i64 x.reg):=zl zP.out _ _ (hcell 1 (by omega))
  have x2:wr.cell? ⟨b,off+i*13+2,none⟩=some (.int .i64 x.var):=zl zP.out _ _ (hcell 2 (by omega))
  have x3:wr.cell? ⟨b,off+i*13+3,none⟩=some (.int .i64 x.a.kind):=zl zP.out _ _ (hcell 3 (by omega))
  have x4:wr.cell? ⟨b,off+i*13+4,none⟩=some (.int .i64 x.a.n):=zl zP.out _ _ (hcell 4 (by omega))
  have x5:wr.cell? ⟨b,off+i*13+5,none⟩=some (.int .u8 x.a.op):=zl zP.out _ _ (hcell 5 (by omega))
  have x6:wr.cell? ⟨b,off+i*13+6,none⟩=some (.slice aa x.a.kids.length ac):=zl zP.out _ _ (hcell 6 (by omega))
  have x7:wr.cell? ⟨b,off+i*13+7,none⟩=some (.int .i64 x.b.kind):=zl zP.out _ _ (hcell 7 (by omega))
  have x8:wr.cell? ⟨b,off+i*13+8,none⟩=some (.int .i64 x.b.n):=zl zP.out _ _ (hcell 8 (by omega))
  have x9:wr.cell? ⟨b,off+i*13+9,none⟩=some (.int .u8 x.b.op):=zl zP.out _ _ (hcell 9 (by omega))
  have x10:wr.cell? ⟨b,off+i*13+10,none⟩=some (.slice ba x.b.kids.length bc):=zl zP.out _ _ (hcell 10 (by omega))
  have jW:wr.cell? ⟨b,off+i*13+11,none⟩=some (.slice ya x.yes.length yc):=zl zP.out _ _ (hcell 11 (by omega))
  have x12:wr.cell? ⟨b,off+i*13+12,none⟩=some (.slice na x.no.length nc):=zl zP.out _ _ (hcell 12 (by omega))
  generalize hyN:yA x.yes=yN at hx hcy
  generalize hnN:yA x.no=nN at hx hcn
  generalize x.kind=q0 at x0 hcp hk1 hk2 hkind
  generalize x.reg=q1 at x1 hcp
  generalize x.var=q2 at x2 hcp
  generalize x.a.kind=q3 at x3 hcp
  generalize x.a.n=q4 at x4 hcp
  generalize x.a.op=q5 at x5 hcp
  generalize x.a.kids.length=q6 at x6 hcp
  generalize x.b.kind=q7 at x7 hcp
  generalize x.b.n=q8 at x8 hcp
  generalize x.b.op=q9 at x9 hcp
  generalize x.b.kids.length=q10 at x10 hcp
  generalize x.yes.length=q11 at jW hcy hkind
  generalize x.no.length=q12 at x12 hcn hkind
  have HX:Hid (NT (i+1)=NT i+(1+yN+nN)):=hx
  have hs1:NT i+(1+yN+nN)<=200:=by omega
  generalize NT i=ni at HX hs1 ⊢
  have HCY:=qh hcy
  have HCN:=qh hcn
  have HCP:=qh hcp
  clear hcell hA hB hY hNo hx hn1 hxo hhead hyo hno hpart hcy hcn hcp hyN hnN
  have z9O:(1:Int)<=(deep:Int):=by omega
  have zGr:(ni:Int)+1<=200:=by omega
  have b1:decide ((deep:Int)<1)=false:=by rw [decide_eq_false_iff_not];omega
  have b2:decide ((200:Int)<(ni:Int)+1)=false:=by rw [decide_eq_false_iff_not];omega
  have b3:decide (q0<1)=false:=by rw [decide_eq_false_iff_not];omega
  have b4:decide (11<q0)=false:=by rw [decide_eq_false_iff_not];omega
  have HK:=qh hkind
  clear hkind hd1
  go_upto_region 7 with fail
  clear x0 x1 x2 x3 x4 x5 x6 x7 x8 x9 x10 jW x12
  have hbx:=zF zP.out ((Below.refl wr.heap.size wr).alloc (Nat.le_refl _) (.cells #[.int .i64 q0, .int .i64 q1, .int .i64 q2, .int .i64 q3, .int .i64 q4, .int .u8 q5, .slice aa q6 ac, .int .i64 q7, .int .i64 q8, .int .u8 q9, .slice ba q10 bc, .slice ya q11 yc, .slice na q12 nc] 165))
  have hg:=yD wr (.cells #[.int .i64 q0, .int .i64 q1, .int .i64 q2, .int .i64 q3, .int .i64 q4, .int .u8 q5, .slice aa q6 ac, .int .i64 q7, .int .i64 q8, .int .u8 q9, .slice ba q10 bc, .slice ya q11 yc, .slice na q12 nc] 165)
  have xg:=qh hbx
  have yS:=qh hg
  clear hbx hg
  generalize World.alloc wr _=X at xg yS ⊢
  generalize wr.heap.size=gx at yS ⊢
  have y0:=zi yS.out 0
  have y1:=zi yS.out 1
  have y2:=zi yS.out 2
  have y3:=zi yS.out 3
  have y4:=zi yS.out 4
  have y5:=zi yS.out 5
  have y6:=zi yS.out 6
  have y7:=zi yS.out 7
  have y8:=zi yS.out 8
  have y9:=zi yS.out 9
  have y10:=zi yS.out 10
  go_upto_region 9 with(go_at_call 74;go_must(refine(HCP.out X xg.out).mono ?_);rintro en X1 ⟨rfl,hb⟩;(have HB1:=qh hb);clear hb y0 y1 y2 y3 y4 y5 y6 y7 y8 y9 y10)
  have zxN:=qh (zF xg.out HB1.out)
  have xL:=qh ((HB1.out.block _ (zw yS.out)).trans yS.out)
  have z0:X1.cell? ⟨gx,0,none⟩=some (.int .i64 q0):=zi xL.out 0
  have z5:X1.cell? ⟨gx,11,none⟩=some (.slice ya q11 yc):=zi xL.out 11
  have z6:X1.cell? ⟨gx,12,none⟩=some (.slice na q12 nc):=zi xL.out 12
  clear xg HB1 yS b1 b2 b3 b4
  go_cut [80] (fun s80 w'=>s80= .bool false/\w'=X1)
  case first=>
   by_cases h10:q0=10
   ·subst h10
    go_wp2_with fail
    go_meet
    case rel=>exact⟨(by first|rfl|simp),rfl⟩
   have hk:=HK.out.resolve_left h10
   have zr1:(q0==10)=false:=by rw [beq_eq_false_iff_ne];exact h10
   have z9P:(q0 !=10)=true:=by rw [bne,zr1];rfl
   obtain⟨hno,hk⟩:=hk
   subst hno
   clear h10
   by_cases h11:q0=11
   ·subst h11
    clear zr1 z9P
    go_wp2_with fail
    go_meet
    case rel=>exact⟨(by first|rfl|simp),rfl⟩
   ·have zxO:(q0==11)=false:=by rw [beq_eq_false_iff_ne];exact h11
    have zIr:(q0 !=11)=true:=by rw [bne,zxO];rfl
    have hy0:=hk.resolve_left h11
    subst hy0
    clear h11 hk zr1 zxO
    go_wp2_with fail
    go_meet
    case rel=>exact⟨(by first|rfl|simp),rfl⟩
  case rest=>
   obtain⟨rfl,hwv⟩:=hcut
   obtain rfl:X1=wc:=hwv.symm
   clear z0
   go_upto_region 12 with(go_at_call 102;go_must(refine(HCY.out X1 zxN.out).mono ?_);rintro en X2 ⟨rfl,hb⟩;(have HB2:=qh hb);(have zmb:=qh (zF zxN.out hb));clear hb;(have z6':=zl HB2.out _ _ z6);clear z5 z6)
   go_upto_region 13 with(go_at_call 102;go_must(refine(HCN.out X2 zmb.out).mono ?_);rintro en X3 ⟨rfl,hb⟩;(have z9Q:=qh (zF zmb.out hb));clear hb z6')
   go_wp2_with fail
   go_roundg (n - (i+1))
   case measure=>rw [HG.out];omega
   case rel=>exact⟨i+1,by omega,rfl,zeg (by rw [HX.out];omega),by simp,z9Q.out⟩
theorem zoU (e d:Nat):zdE e d:=by
 induction d with
 |zero=>intro w l v hl;exact hl.elim
 |succ d ih=>exact zrz e d ih
def zjb (_:World) (x:List UInt8) (cs:List Value):Prop:=cs= [.string ⟨x.toArray⟩]
theorem zjb.stays:jF zjb:=fun _ _ _ _ h _=>h
abbrev zcm:=zk zjb 1
theorem zcm.part {w:World} {a:Option Addr} {n cap:Nat} {l:List (List UInt8)} (h:zcm w (.slice a n cap) l) (j:Nat) (hj:j<l.length):∃b off,a=some ⟨b,off,none⟩/\b<w.heap.size/\w.cell? ⟨b,off+j,none⟩=some (.string ⟨(l.getD j []).toArray⟩):=by
 obtain⟨b,off,cs,h1,h2,h3,h4,h5⟩:=zk.part h j hj
 have h5:cs= [.string ⟨(l.getD j default).toArray⟩] :=h5
 subst h5
 have:=h4 0 (by omega)
 rw [Nat.mul_one,Nat.add_zero] at this
 exact⟨b,off,h1,h2,this⟩
def zgO (e d:Nat) (w:World) (l:List zH) (cs:List Value):Prop:=∃v,cs= [v] /\yt e d w l v
theorem zgO.stays (e d:Nat):jF (zgO e d):=fun _ _ _ _ ⟨v,h,h1⟩ hb=>⟨v,h,h1.below hb⟩
abbrev zdF (e d:Nat):=zk (zgO e d) 1
theorem zdF.part {e d:Nat} {w:World} {a:Option Addr} {n cap:Nat} {l:List (List zH)} (h:zdF e d w (.slice a n cap) l) (j:Nat) (hj:j<l.length):∃b off ka kc,a=some ⟨b,off,none⟩/\b<w.heap.size/\w.cell? ⟨b,off+j,none⟩=some (.slice ka (l.getD j []).length kc)/\yt e d w (l.getD j []) (.slice ka (l.getD j []).length kc):=by
 obtain⟨b,off,cs,h1,h2,h3,h4,v,h5,h6⟩:=zk.part h j hj
 subst h5
 obtain⟨ka,kc,rfl, -⟩:=h6.slice
 have:=h4 0 (by omega)
 rw [Nat.mul_one,Nat.add_zero] at this
 exact⟨b,off,ka,kc,h1,h2,this,h6⟩
def zed (p:zaS) (vv tv:Value):Value:= .agg #[vv, .int .i64 p.domain,tv]
structure zcn (e d:Nat) (w:World) (p:zaS) (vv tv:Value):Prop where
 vars:zcm w vv p.vars
 threads:zdF e d w tv p.threads
theorem zcn.below {e d:Nat} {w w':World} {p:zaS} {vv tv:Value} (h:zcn e d w p vv tv) (hb:Below w.heap.size w w'):zcn e d w' p vv tv:=⟨zk.below zjb.stays h.vars hb,zk.below (zgO.stays e d) h.threads hb⟩
theorem zxP {n i:Nat} (hn:n<=3) (hi:i<n):∃b:UInt8,(xyz.take n).getD i [] = [b] /\zee b.toNat=true/\b.toNat=120+i:=by
 have hi3:i=0\/i=1\/i=2:=by omega
 have e:(xyz.take n).getD i [] =xyz.getD i [] :=by simp only [List.getD_eq_getElem?_getD,List.getElem?_take_of_lt hi]
 rw [e]
 rcases hi3 with rfl|rfl|rfl
 ·exact⟨120,rfl,rfl,rfl⟩
 ·exact⟨121,rfl,rfl,rfl⟩
 ·exact⟨122,rfl,rfl,rfl⟩
theorem zxQ {a b:UInt8} (h:a≠b):((⟨#[a]⟩:ByteArray).toList==(⟨#[b]⟩:ByteArray).toList)=false:=by
 rw [beq_eq_false_iff_ne,ByteArray.toList_eq,ByteArray.toList_eq]
 intro e
 exact h (by simpa using e)
theorem zr2 {l:List Nat} {i:Nat} (hi:i<l.length):(l.take (i+1)).sum=(l.take i).sum+l.getD i 0:=by
 rw [List.take_succ_eq_append_getElem hi,List.sum_append,List.getD_eq_getElem?_getD,List.getElem?_eq_getElem hi];simp
theorem zxR (l:List Nat) (i:Nat):(l.take i).sum<=l.sum:=by
 have:(l.take i).sum+(l.drop i).sum=l.sum:=by rw [<-List.sum_append,List.take_append_drop]
 omega
theorem zhL (e d:Nat) (w:World) (p:zaS) (hp:zef p) (vv tv:Value) (h:zcn e d w p vv tv):Calls Tryz.prog 75 #[zed p vv tv] w fun e w'=>e= .returned (.bool true)/\Below w.heap.size w w':=by
 obtain⟨va,vc,rfl, -⟩:=zk.slice h.vars
 obtain⟨ta,tc,rfl, -⟩:=zk.slice h.threads
 obtain⟨vn,v1,v2,hv⟩:=hp.vars
 have hvl:p.vars.length=vn:=by rw [hv,List.length_take];simp [xyz];omega
 obtain⟨d1,d2⟩:=hp.dom
 obtain⟨m1,m2⟩:=hp.many
 obtain⟨tn,htn⟩:∃n,n=p.threads.length:=⟨_,rfl⟩
 have hxy:=fun i (hi:i<vn)=>zxP v2 hi
 rw [<-hv] at hxy
 have hok:∀i,i<tn->yX vn p.domain (p.threads.getD i []) 20=true/\yA (p.threads.getD i [])<=200:=fun i hi=>by
  have hm:p.threads.getD i [] ∈p.threads:=vG (by rw [<-htn];exact hi)
  have:=hp.ok _ hm
  rw [hvl] at this
  exact⟨this,hp.one hm⟩
 obtain⟨ST,hST⟩:∃ST:Nat->Nat,ST=fun i=>((p.threads.map yA).take i).sum:=⟨_,rfl⟩
 have hst:∀i,i<tn->ST (i+1)=ST i+yA (p.threads.getD i []):=fun i hi=>by
  simp only [hST]
  have:=zr2 (l:=p.threads.map yA) (i:=i) (by simp [<-htn];exact hi)
  rw [this]
  simp [List.getD_eq_getElem?_getD,List.getElem?_eq_getElem (htn ▸ hi:i<p.threads.length)]
 have zxS:∀i,ST i<=200:=fun i=>by rw [hST];exact Nat.le_trans (zxR _ _) hp.all
 have hs0:ST 0=0:=by rw [hST];rfl
 have hvars:=h.vars
 have zcB:=h.threads
 rw [<-hvl] at hxy
 unfold zed
 generalize p.domain=dom at d1 d2 hok ⊢
 rw [<-htn] at m1 m2
 generalize p.vars=L at hvl hvars hxy ⊢
 generalize p.threads=T at htn zcB hok hst ⊢
 rw [hvl] at hvars hxy ⊢
 rw [<-htn] at zcB ⊢
 have hB:=(Below.refl w.heap.size w).alloc (Nat.le_refl _) (.cells #[.slice va vn vc, .int .i64 dom, .slice ta tn tc] 92)
 have H1:=qh (yD w (.cells #[.slice va vn vc, .int .i64 dom, .slice ta tn tc] 92))
 have zeh:=qh (zk.below zjb.stays hvars hB)
 have zgP:=qh (zk.below (zgO.stays e d) zcB hB)
 have HB:=qh hB
 have HVL:=qh hvl
 have HTN:=qh htn
 have HXY:=qh hxy
 have vC:=qh hok
 have HST:=qh hst
 have z9R:=qh zxS
 have bO:=qh hs0
 clear hvars zcB hB hvl htn hxy hok hst zxS hs0 h hp hv hST
 have b1:decide ((vn:Int)<1)=false:=by rw [decide_eq_false_iff_not];omega
 have b2:decide ((4:Int)<(vn:Int))=false:=by rw [decide_eq_false_iff_not];omega
 have b3:decide (dom<2)=false:=by rw [decide_eq_false_iff_not];omega
 have b4:decide (16<dom)=false:=by rw [decide_eq_false_iff_not];omega
 have b5:decide ((tn:Int)<1)=false:=by rw [decide_eq_false_iff_not];omega
 have b6:decide ((4:Int)<(tn:Int))=false:=by rw [decide_eq_false_iff_not];omega
 go_enter Tryz.func75,Tryz.ntmps75
 go_upto_region 1 with fail
 generalize World.alloc w _=W at HB H1 zeh zgP ⊢
 generalize w.heap.size=gx at H1 ⊢
 have z9S:Hid (∀x,Below W.heap.size W x->Below w.heap.size w x):=fun x hx=>HB.out.trans (hx.mono HB.out.size)
 have HC:Hid (∀x,Below W.heap.size W x->x.cell? ⟨gx,0,none⟩=some (.slice va vn vc)/\x.cell? ⟨gx,1,none⟩=some (.int .i64 dom)/\x.cell? ⟨gx,2,none⟩=some (.slice ta tn tc)):=fun x hx=>⟨zl hx _ _ (zi H1.out 0),zl hx _ _ (zi H1.out 1),zl hx _ _ (zi H1.out 2)⟩
 obtain⟨c0,c1,c2⟩:=HC.out W (Below.refl _ _)
 go_wp2_with fail
 clear c0 c1 c2 b1 b2 b3 b4 b5 b6
 go_loopg [3] vn (fun gg s3 wr=>∃i:Nat,i<=vn/\Hid (gg=vn - i)/\s3= .int .i64 i/\Hid (Below W.heap.size W wr))
 case atStart=>exact⟨0,Nat.zero_le _,rfl,rfl,Below.refl _ _⟩
 case round=>
  obtain⟨i,hi,HG,rfl,zP⟩:=hrel
  obtain⟨c0,c1,c2⟩:=HC.out wr zP.out
  by_cases hlt:i<vn
  ·have qQ:(i:Int)<(vn:Int):=by omega
   obtain⟨b,off,yx, -,x0⟩:=zcm.part zeh.out i (by rw [HVL.out];exact hlt)
   subst yx
   obtain⟨u,hu1,hu2,hu3⟩:=HXY.out i hlt
   rw [hu1] at x0
   have hname:Calls Tryz.prog 101 #[.string ⟨#[u]⟩] wr fun e w'=>e= .returned (.bool true)/\Below wr.heap.size wr w':=zrx wr u hu2
   have zr3:∀v:UInt8,v≠u->((⟨#[v]⟩:ByteArray).toList==(⟨#[u]⟩:ByteArray).toList)=false:=fun v hv=>zxQ hv
   have x0':W.cell? ⟨b,off+i,none⟩=some (.string ⟨#[u]⟩):=x0
   generalize (⟨#[u]⟩:ByteArray)=su at x0' hname zr3
   have HX0:=qh x0'
   have HU3:=qh hu3
   have z9T:=qh zr3
   have y0:wr.cell? ⟨b,off+i,none⟩=some (.string su):=zl zP.out _ _ x0'
   have ztR:=qh hname
   clear hu1 hu2 hu3 x0 x0' hname zr3
   go_upto_region 8 with(go_at_call 101;go_must(refine ztR.out.mono ?_);rintro en X1 ⟨rfl,hb⟩;(have HB1:=qh (zF zP.out hb));clear hb y0 c0 c1 c2 ztR)
   go_wp2_with fail
   clear zP
   go_loopg [4] i (fun gg s4 wr=>∃k:Nat,k<=i/\Hid (gg=i - k)/\s4= .int .i64 k/\Hid (Below W.heap.size W wr))
   case atStart=>exact⟨0,Nat.zero_le _,rfl,rfl,HB1.out⟩
   case round=>
    obtain⟨k,hk,HG2,rfl,zjd⟩:=hrel
    by_cases hlk:k<i
    rotate_left
    ·obtain rfl:i=k:=by omega
     go_wp2_with fail
     go_roundg (vn - (i+1))
     case measure=>rw [HG.out];omega
     case rel=>exact⟨i+1,by omega,rfl,by simp,zjd.out⟩
    have z9U:(k:Int)<(i:Int):=by omega
    obtain⟨b',off',yx, -,x1⟩:=zcm.part zeh.out k (by rw [HVL.out];omega)
    obtain⟨rfl,rfl⟩:b=b'/\off=off':=by simpa using yx
    obtain⟨v,hv1,hv2,hv3⟩:=HXY.out k (by omega)
    rw [hv1] at x1
    have hne:v≠u:=fun e=>by have:=HU3.out;rw [e] at hv3;omega
    have hnl:=z9T.out v hne
    obtain⟨c0,c1,c2⟩:=HC.out wr zjd.out
    have y0:wr.cell? ⟨b,off+i,none⟩=some (.string su):=zl zjd.out _ _ HX0.out
    have y1:wr.cell? ⟨b,off+k,none⟩=some (.string ⟨#[v]⟩):=zl zjd.out _ _ x1
    clear hv1 hv2 hv3 x1 hne
    generalize (⟨#[v]⟩:ByteArray)=sv at y1 hnl
    go_upto_region 11 with fail
    go_quiet (fail)
    go_wp2_with fail
    go_roundg (i - (k+1))
    case measure=>rw [HG2.out];omega
    case rel=>exact⟨k+1,by omega,rfl,by simp,zV zjd.out _⟩
  obtain rfl:vn=i:=by omega
  go_wp2_with fail
  clear c0 c1 c2
  go_loopg [5,6] tn (fun gg s5 s6 wr=>∃i:Nat,i<=tn/\Hid (gg=tn - i)/\s5= .int .i64 (ST i)/\s6= .int .i64 i/\Hid (Below W.heap.size W wr))
  case atStart=>exact⟨0,Nat.zero_le _,rfl,zeg (by rw [bO.out];rfl),rfl,zP.out⟩
  case round=>
   obtain⟨i,hi,HG,rfl,rfl,zP⟩:=hrel
   obtain⟨c0,c1,c2⟩:=HC.out wr zP.out
   by_cases hlt:i<tn
   rotate_left
   ·obtain rfl:tn=i:=by omega
    go_wp2_with fail
    go_ret
    exact⟨rfl,z9S.out _ zP.out⟩
   have qQ:(i:Int)<(tn:Int):=by omega
   obtain⟨b,off,ka,kc,yx, -,x0,hst⟩:=zdF.part zgP.out i (by rw [<-HTN.out];exact hlt)
   subst yx
   obtain⟨hok,zr4⟩:=vC.out i hlt
   have hs1:=HST.out i hlt
   have hs2:=z9R.out (i+1)
   generalize T.getD i [] =l at x0 hst hok zr4 hs1
   have hcl:=fun y (hy:Below W.heap.size W y)=>zoU e d y l _ (hst.below hy) 20 vn dom (by omega) hok zr4
   have y0:=zl zP.out _ _ x0
   generalize l.length=ln at y0 hcl
   have vE:Hid (ST (i+1)=ST i+yA l):=hs1
   have hsum:ST i+yA l<=200:=by omega
   generalize yA l=sn at hcl vE hsum
   generalize ST i=si at vE hsum ⊢
   have HCL:=qh hcl
   clear hst hok zr4 hs1 hs2 hcl x0
   go_upto_region 17 with fail
   have CC:Hid (∀x,Below wr.heap.size wr x->x.cell? ⟨gx,0,none⟩=some (.slice va vn vc)/\x.cell? ⟨gx,1,none⟩=some (.int .i64 dom)/\x.cell? ⟨gx,2,none⟩=some (.slice (some ⟨b,off,none⟩) tn tc)/\x.cell? ⟨b,off+i,none⟩=some (.slice ka ln kc)):=fun x hx=>⟨zl hx _ _ c0,zl hx _ _ c1,zl hx _ _ c2,zl hx _ _ y0⟩
   clear y0 c0 c1 c2
   refine wp_region_noPanic ?_
   refine wp_region_held_drew (S:=fun x=>Below wr.heap.size wr x) (by kernel_rfl) (Below.refl _ _).drew (fun hH=> ?_)
   refine zo 0 79 ?vq1 rfl ?zik ?_
   case zik=>(intro x h;have e:=CC.out x h;go_simp<;>rfl)
   simp only [Act.put,za,ze,zh]
   refine zo 1 80 ?vq2 rfl ?zil ?_
   case zil=>(intro x h;have e:=CC.out x h;go_simp<;>rfl)
   simp only [Act.put,za,ze,zh]
   refine zo 2 81 ?vq3 rfl ?zim ?_
   case zim=>(intro x h;have e:=CC.out x h;go_simp<;>rfl)
   simp only [Act.put,za,ze,zh]
   refine zo 3 82 ?vq4 rfl ?zin ?_
   case zin=>(intro x h;have e:=CC.out x h;go_simp<;>rfl)
   simp only [Act.put,za,ze,zh]
   refine zo 4 83 ?vq5 rfl ?zio ?_
   case zio=>(intro x h;have e:=CC.out x h;go_simp<;>rfl)
   simp only [Act.put,za,ze,zh]
   refine zo 5 84 ?vq6 rfl ?ziq ?_
   case ziq=>(intro x h;have e:=CC.out x h;go_simp<;>rfl)
   simp only [Act.put,za,ze,zh]
   refine zo 6 85 ?vq7 rfl ?zir ?_
   case zir=>(intro x h;have e:=CC.out x h;go_simp<;>rfl)
   simp only [Act.put,za,ze,zh]
   refine zo 7 86 ?vq8 rfl ?zis ?_
   case zis=>(intro x h;have e:=CC.out x h;go_simp<;>rfl)
   simp only [Act.put,za,ze,zh]
   refine zo 8 87 ?vq9 rfl ?zit ?_
   case zit=>(intro x h;have e:=CC.out x h;go_simp<;>rfl)
   simp only [Act.put,za,ze,zh]
   refine zo 9 88 ?zxa rfl ?zfx ?_
   case zfx=>(intro x h;have e:=CC.out x h;go_simp<;>rfl)
   simp only [Act.put,za,ze,zh]
   refine zY 10 rfl (fun K hK=> ?_)
   go_simp
   refine(HCL.out wr.drew (zF zP.out hH)).mono ?_
   rintro en z9V ⟨rfl,hb⟩
   have zmc:Below wr.heap.size wr z9V:=zF hH hb
   refine hK.out _ _ zmc (fun _=> ?_)
   clear hK K hb hH
   refine zo 11 78 ?zxb rfl ?zfy ?_
   case zfy=>(intro x h;have e:=CC.out x h;go_simp<;>rfl)
   simp only [Act.put,za,ze,zh]
   refine zo 12 90 ?zxc rfl ?zfz ?_
   case zfz=>(intro x h;have e:=CC.out x h;go_simp<;>rfl)
   simp only [Act.put,za,ze,zh]
   refine zo 13 91 ?zxd rfl ?zf0 ?_
   case zf0=>(intro x h;have e:=CC.out x h;go_simp<;>rfl)
   simp only [Act.put,za,ze,zh]
   refine zo 14 7 ?zxe rfl ?zf1 ?_
   case zf1=>(intro x h;have e:=CC.out x h;go_simp<;>rfl)
   simp only [Act.put,za,ze,zh]
   refine zo 15 8 ?z9W rfl ?zmd ?_
   case zmd=>(intro x h;have e:=CC.out x h;go_simp<;>rfl)
   simp only [Act.put,za,ze,zh]
   refine wpAnyH_done (by kernel_rfl) ?_ _
   refine NoPanic.normal ?_
   have vw:=qh (zF zP.out zmc)
   clear zmc CC
   have zGs:(si:Int)+(sn:Int)<=200:=by omega
   have b1:decide ((200:Int)<(si:Int)+(sn:Int))=false:=by rw [decide_eq_false_iff_not];omega
   go_wp2_with fail
   go_roundg (tn - (i+1))
   case measure=>rw [HG.out];omega
   case rel=>exact⟨i+1,by omega,rfl,zeg (by rw [vE.out];omega),by simp,vw.out⟩
end Go.Proofs.YtliajkheeniljaaGreatDoor
