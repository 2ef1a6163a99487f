/- Steps. -/
import Derived.Test.YtliajkheeniljaaGreatDoorZrBlocks
set_option linter.all false
namespace Go.Proofs.YtliajkheeniljaaGreatDoor
open Go.RowKit
set_option maxRecDepth 100000
set_option maxHeartbeats 16000000
def zgl (c:Int):Bool:=decide (97<=c) && decide (c<=122)
theorem zpx (w:World) (c:Int):Calls Tryz.prog 118 #[.int .u8 c] w λe w'=>e= .returned (.bool (zgl c))/\Below w.heap.size w w':=by
 unfold zgl
 by_cases h1:97<=c
 ·go_enter Tryz.func118,Tryz.ntmps118
  go_wp2
  go_ret
  exact⟨by simp [h1],Below.refl _ _⟩
 go_enter Tryz.func118,Tryz.ntmps118
 go_wp2
 go_ret
 exact⟨by simp;omega,Below.refl _ _⟩
def zjt (b:UInt8):Value:= .string ⟨#[b]⟩
theorem zlY (w:World) (b:UInt8):Calls Tryz.prog 120 #[zjt b] w λe w'=>e= .returned (.int .i64 (-1))/\Below w.heap.size w w':=by
 unfold zjt
 have hsz:((⟨#[b]⟩:ByteArray)).size=1:=rfl
 generalize (⟨#[b]⟩:ByteArray)=s at hsz ⊢
 have hszI:((s.size:Int)==2)=false:=by rw [hsz];rfl
 go_enter Tryz.func120,Tryz.ntmps120
 go_wp2
 go_ret
 exact⟨rfl,Below.refl _ _⟩
def z5I:List ByteArray:= [⟨#[118,97,114,115]⟩,⟨#[100,111,109,97,105,110]⟩,⟨#[116,104,114,101,97,100]⟩,⟨#[102,101,110,99,101]⟩,⟨#[115,102,101,110,99,101]⟩,⟨#[99,97,115]⟩,⟨#[108,111,99,107]⟩,⟨#[117,110,108,111,99,107]⟩,⟨#[97,115,115,101,114,116]⟩,⟨#[105,102]⟩,⟨#[101,108,115,101]⟩,⟨#[119,104,105,108,101]⟩]
theorem zzL (i:Nat) (hi:i<12) (s:ByteArray) (hs:s.size=1):∃k:ByteArray,(z5I.map Value.string)[i]? =some (.string k)/\k≠s:=by
 have hne:∀k:ByteArray,k.size≠1->k≠s:=λk hk e=>by rw [e] at hk;exact hk hs
 match i,hi with
 |0,_=>exact⟨_,rfl,hne _ (by decide)⟩
 |1,_=>exact⟨_,rfl,hne _ (by decide)⟩
 |2,_=>exact⟨_,rfl,hne _ (by decide)⟩
 |3,_=>exact⟨_,rfl,hne _ (by decide)⟩
 |4,_=>exact⟨_,rfl,hne _ (by decide)⟩
 |5,_=>exact⟨_,rfl,hne _ (by decide)⟩
 |6,_=>exact⟨_,rfl,hne _ (by decide)⟩
 |7,_=>exact⟨_,rfl,hne _ (by decide)⟩
 |8,_=>exact⟨_,rfl,hne _ (by decide)⟩
 |9,_=>exact⟨_,rfl,hne _ (by decide)⟩
 |10,_=>exact⟨_,rfl,hne _ (by decide)⟩
 |11,_=>exact⟨_,rfl,hne _ (by decide)⟩
theorem zxF (w:World) (b:UInt8):Calls Tryz.prog 119 #[zjt b] w λe w'=>e= .returned (.bool false)/\Below w.heap.size w w':=by
 unfold zjt
 have hsz:((⟨#[b]⟩:ByteArray)).size=1:=rfl
 generalize (⟨#[b]⟩:ByteArray)=s at hsz ⊢
 have HB:=qh ((Below.refl w.heap.size w).alloc (Nat.le_refl _) (.cells #[.string ⟨#[118,97,114,115]⟩, .string ⟨#[100,111,109,97,105,110]⟩, .string ⟨#[116,104,114,101,97,100]⟩, .string ⟨#[102,101,110,99,101]⟩, .string ⟨#[115,102,101,110,99,101]⟩, .string ⟨#[99,97,115]⟩, .string ⟨#[108,111,99,107]⟩, .string ⟨#[117,110,108,111,99,107]⟩, .string ⟨#[97,115,115,101,114,116]⟩, .string ⟨#[105,102]⟩, .string ⟨#[101,108,115,101]⟩, .string ⟨#[119,104,105,108,101]⟩] 9))
 have HG:=qh (yj w (.cells #[.string ⟨#[118,97,114,115]⟩, .string ⟨#[100,111,109,97,105,110]⟩, .string ⟨#[116,104,114,101,97,100]⟩, .string ⟨#[102,101,110,99,101]⟩, .string ⟨#[115,102,101,110,99,101]⟩, .string ⟨#[99,97,115]⟩, .string ⟨#[108,111,99,107]⟩, .string ⟨#[117,110,108,111,99,107]⟩, .string ⟨#[97,115,115,101,114,116]⟩, .string ⟨#[105,102]⟩, .string ⟨#[101,108,115,101]⟩, .string ⟨#[119,104,105,108,101]⟩] 9))
 go_enter Tryz.func119,Tryz.ntmps119
 go_upto_region 2 with fail
 generalize World.alloc w _=W at HB HG ⊢
 generalize w.heap.size=g at HG ⊢
 go_wp2_with fail
 go_loopg [4] 12 (λgg s4 wr=>∃i:Nat,i<=12/\Hid (gg=12 - i)/\s4= .int .i64 i/\wr=W)
 case atStart=>exact⟨0,by omega,rfl,rfl,rfl⟩
 case round=>
 obtain⟨i,hi,HGG,rfl,rfl⟩:=hrel
 by_cases hlt:i<12
 rotate_left
 ·obtain rfl:i=12:=by omega
  go_wp2_with fail
  go_ret
  exact⟨rfl,HB.out⟩
 have qx:(i:Int)<12:=by omega
 obtain⟨k,hk,hne⟩:=zzL i hlt s hsz
 have x0:wr.cell? ⟨g,i,none⟩=some (.string k):=by rw [ze HG.out,List.getElem?_toArray];exact hk
 have hnl:(k.toList==s.toList)=false:=by
  rw [ByteArray.toList_eq,ByteArray.toList_eq,beq_eq_false_iff_ne]
  intro e
  apply hne
  obtain⟨kd⟩:=k
  obtain⟨sd⟩:=s
  have:kd=sd:=Array.toList_inj.1 e
  rw [this]
 go_wp2_with fail
 go_roundg (12 - (i+1))
 case measure=>rw [HGG.out];omega
 case rel=>exact⟨i+1,by omega,rfl,by simp,rfl⟩
theorem zuo (w:World) (b:UInt8) (hb:zgl b.toNat=true):Calls Tryz.prog 101 #[zjt b] w λe w'=>e= .returned (.bool true)/\Below w.heap.size w w':=by
 have hk:=λy=>zxF y b
 have hr:=λy=>zlY y b
 unfold zjt at hk hr ⊢
 have hsz:((⟨#[b]⟩:ByteArray)).size=1:=rfl
 have hget:∀h:0<((⟨#[b]⟩:ByteArray)).size,((⟨#[b]⟩:ByteArray))[0]'h=b:=λ_=>rfl
 have hne:((⟨#[b]⟩:ByteArray)).toList.isEmpty=false:=by rw [ByteArray.toList_eq];rfl
 generalize (⟨#[b]⟩:ByteArray)=s at hsz hget hk hr hne ⊢
 have hlet:∀(y:World) (h:0<s.size),Calls Tryz.prog 118 #[.int .u8 ((s[0]'h).toNat:Int)] y λe w'=>e= .returned (.bool true)/\Below y.heap.size y w':=λy h=>by
  have:=zpx y (b.toNat:Int)
  rw [hb] at this
  rw [hget h];exact this
 have HK:=qh hk
 have HR:=qh hr
 have zzM:=qh hlet
 clear hk hr hlet hget
 have hnl:(s.toList==([] :List UInt8))=false:=by rw [beq_eq_false_iff_ne];intro e;rw [e] at hne;cases hne
 go_enter Tryz.func101,Tryz.ntmps101
 go_wp2_with(first|(go_at_call 120;go_must(refine(HR.out W2).mono ?_);rintro e W3 ⟨rfl,hb3⟩)|(go_at_call 119;go_must(refine(HK.out W1).mono ?_);rintro e W2 ⟨rfl,hb2⟩)|(go_at_call 118;go_must(refine(zzM.out w _).mono ?_);rintro e W1 ⟨rfl,hb1⟩))
 have HB3:=qh (zD (zD hb1 hb2) hb3)
 clear hb1 hb2 hb3
 go_loopg [3] 1 (λgg s3 wr=>∃i:Nat,i<=1/\Hid (gg=1 - i)/\s3= .int .i64 i/\Hid (Below w.heap.size w wr))
 case atStart=>exact⟨0,by omega,rfl,rfl,HB3.out⟩
 case round=>
 obtain⟨i,hi,HGG,rfl,zM⟩:=hrel
 by_cases hlt:i<1
 ·obtain rfl:i=0:=by omega
  go_wp2_with(go_at_call 118;go_must(refine(zzM.out wr _).mono ?_);rintro e W4 ⟨rfl,hb4⟩;(have jw:=qh (zD zM.out hb4));clear hb4)
  go_roundg 0
  case measure=>rw [HGG.out];omega
  case rel=>exact⟨1,by omega,rfl,by simp,jw.out⟩
 obtain rfl:i=1:=by omega
 go_wp2_with fail
 go_ret
 exact⟨rfl,zM.out⟩
mutual
def zat:zL->Nat
 | .mk _ _ _ _ _ y n=>1+yI y+yI n
def yI:List zL->Nat
 | [] =>0
 |x::l=>zat x+yI l
end
def zfI (vars dom k r v:Int) (a b:zN) (y n:List zL):Bool:=decide (1<=k) && decide (k<=11) && qA k r v a b vars dom && (decide (k=10)||decide (n.length=0) && (decide (k=11)||decide (y.length=0)))
mutual
def uL (vars dom:Int):zL->Nat->Bool
 | .mk k r v a b y n,d=>decide (1<=d) && zfI vars dom k r v a b y n && xB vars dom y (d - 1) && xB vars dom n (d - 1)
def xB (vars dom:Int):List zL->Nat->Bool
 | [],_=>true
 |x::l,d=>uL vars dom x d && xB vars dom l d
end
theorem zc9 {vars dom:Int} {x:zL} {d:Nat} (h:uL vars dom x d=true):1<=d/\zfI vars dom x.kind x.reg x.var x.a x.b x.yes x.no=true/\xB vars dom x.yes (d - 1)=true/\xB vars dom x.no (d - 1)=true:=by
 obtain⟨k,r,v,a,b,y,n⟩:=x
 unfold uL at h
 simp only [Bool.and_eq_true,decide_eq_true_eq] at h
 exact⟨h.1.1.1,h.1.1.2,h.1.2,h.2⟩
theorem znh (x:zL):zat x=1+yI x.yes+yI x.no:=by
 obtain⟨k,r,v,a,b,y,n⟩:=x
 rw [zat];rfl
theorem zi3 {vars dom k r v:Int} {a b:zN} {y n:List zL} (h:zfI vars dom k r v a b y n=true):1<=k/\k<=11/\qA k r v a b vars dom=true/\(k=10\/n.length=0/\(k=11\/y.length=0)):=by
 unfold zfI at h
 simp only [Bool.and_eq_true,Bool.or_eq_true,decide_eq_true_eq] at h
 exact⟨h.1.1.1,h.1.1.2,h.1.2,h.2⟩
theorem zbq {vars dom:Int} {l:List zL} {d:Nat} :xB vars dom l d=true↔∀x∈l,uL vars dom x d=true:=by
 induction l with
 |nil=>simp [xB]
 |cons x l ih=>rw [xB,Bool.and_eq_true,ih];simp
theorem ze4 (l r:List zL):yI (l++r)=yI l+yI r:=by
 induction l with
 |nil=>simp [yI]
 |cons x l ih=>rw [List.cons_append,yI,yI,ih];omega
theorem zni {l:List zL} {i:Nat} (hi:i<l.length):yI (l.take (i+1))=yI (l.take i)+zat (l.getD i default):=by
 rw [List.take_succ_eq_append_getElem hi,ze4,List.getD_eq_getElem?_getD,List.getElem?_eq_getElem hi]
 simp [yI]
theorem zrq (l:List zL) (i:Nat):yI (l.take i)<=yI l:=by
 have:=ze4 (l.take i) (l.drop i)
 rw [List.take_append_drop] at this
 omega
theorem zlZ {vars dom:Int} :∀(d:Nat) (l:List zL),xB vars dom l d=true->xB vars dom l (d+1)=true:=by
 intro d
 induction d with
 |zero=>
  intro l h
  cases l with
  |nil=>rw [xB]
  |cons x l=>
  rw [zbq] at h
  have:=(zc9 (h x (by simp))).1
  omega
 |succ d ih=>
 intro l h
 rw [zbq] at h ⊢
 intro x hx
 have h2:=h x hx
 obtain⟨k,r,v,a,b,y,n⟩:=x
 unfold uL at h2 ⊢
 simp only [Bool.and_eq_true,decide_eq_true_eq] at h2 ⊢
 exact⟨⟨⟨by omega,h2.1.1.2⟩,ih y h2.1.2⟩,ih n h2.2⟩
theorem zov {vars dom:Int} {d e:Nat} {l:List zL} (h:xB vars dom l d=true) (hl:d<=e):xB vars dom l e=true:=by
 induction hl with
 |refl=>exact h
 |step _ ih=>exact zlZ _ _ ih
def pK (vars dom:Int) (yK:Int) (x:zW):Bool:=
 if x.op=12 then qE vars dom 9 yK x else if x.op=13 then qE vars dom 4 yK x else if x.op=10\/x.op=11 then false else qE vars dom x.op 0 x
theorem zi4 {vars dom k a b:Int} {x:zW} (h:qE vars dom k a x=true) (hab:a<=b):qE vars dom k b x=true:=by
 unfold qE at h ⊢
 simp only [Bool.and_eq_true,decide_eq_true_eq] at h ⊢
 exact⟨⟨h.1.1,by omega⟩,h.2⟩
theorem zma {vars dom a b:Int} {x:zW} (h:pK vars dom a x=true) (hab:a<=b):pK vars dom b x=true:=by
 unfold pK at h ⊢
 split
 ·rename_i h1;rw [if_pos h1] at h;exact zi4 h hab
 rename_i h1;rw [if_neg h1] at h
 split
 ·rename_i h2;rw [if_pos h2] at h;exact zi4 h hab
 rename_i h2;rw [if_neg h2] at h;exact h
theorem zfJ {vars dom:Int} {k r v:Int} {a b:zN} (hk:k=10\/k=11) (h:qA k r v a b vars dom=true) {yK b_:Int} (h0:0<=yK) (h1:yK<=b_):pK vars dom b_ (vU a yK)=true:=by
 have hp:qA 9 0 0 a default vars dom=true:=by
  have e1:uV 9 0=true:=by decide
  have e2:jY 9 0 vars=true:=by simp [jY,kW]
  have e3:wP 9 a dom=true:=by
   unfold qA at h
   simp only [Bool.and_eq_true] at h
   have:=h.1.2
   rcases hk with rfl|rfl
   ·simpa [wP,gM] using this
   simpa [wP,gM] using this
  have e4:uY 9 default dom=true:=by rfl
  simp [qA,e1,e2,e3,e4]
 show qE vars dom 9 b_ (vU a yK)=true
 unfold qE vU
 simp only [Bool.and_eq_true,decide_eq_true_eq]
 exact⟨⟨⟨by omega,h0⟩,h1⟩,hp⟩
theorem znT {vars dom:Int} {yK b_:Int} (h0:0<=yK) (h1:yK<=b_):pK vars dom b_ (pG yK)=true:=by
 have hp:qA 4 0 0 default default vars dom=true:=by
  have e2:jY 4 0 vars=true:=by simp [jY,kW]
  have e1:uV 4 0=true:=by decide
  have e3:wP 4 default dom=true:=by rfl
  have e4:uY 4 default dom=true:=by rfl
  simp [qA,e1,e2,e3,e4]
 show qE vars dom 4 b_ (pG yK)=true
 unfold qE pG
 simp only [Bool.and_eq_true,decide_eq_true_eq]
 exact⟨⟨⟨by omega,h0⟩,h1⟩,hp⟩
theorem zup {vars dom:Int} {k r v:Int} {a b:zN} (h1:1<=k) (h2:k<=11) (hk:¬k=10) (hk2:¬k=11) (h:qA k r v a b vars dom=true) {b_:Int} (_hb:0<=b_):pK vars dom b_ ⟨k,r,v,a,b,0⟩=true:=by
 unfold pK
 rw [if_neg (by show¬k=12;omega),if_neg (by show¬k=13;omega),if_neg (by show¬(k=10\/k=11);omega)]
 unfold qE
 simp only [Bool.and_eq_true,decide_eq_true_eq]
 exact⟨⟨⟨⟨h1,by omega⟩,by omega⟩,by omega⟩,h⟩
def zkG (vars dom:Int) (at_:Int) (n:Nat) (l:List zW):Prop:=l.length<=3*n/\∀x∈l,pK vars dom (at_+l.length) x=true
theorem zkG.weak {vars dom at_:Int} {n:Nat} {l:List zW} (h:zkG vars dom at_ n l) {b:Int} (hb:at_+l.length<=b):∀x∈l,pK vars dom b x=true:=λx hx=>zma (h.2 x hx) hb
mutual
theorem zpy (vars dom:Int):∀(x:zL) (d:Nat) (at_:Int),0<=at_->uL vars dom x d=true->zkG vars dom at_ (zat x) (je x at_)
 | .mk k r v a b y n,d,at_,h0,h=>by
  have hp:=zc9 h
  simp only [zL.kind,zL.reg,zL.var,zL.a,zL.b,zL.yes,zL.no] at hp
  obtain⟨h1,h2,h3,h4⟩:=hp
  obtain⟨k1,k2,hpart,hkind⟩:=zi3 h2
  have hY:=zah vars dom y (d - 1) (at_+1) (by omega) h3
  have hN:=zah vars dom n (d - 1) (at_+2+(zT y (at_+1)).length) (by omega) h4
  rw [zat]
  unfold je
  split
  ·rename_i hk
   split
   ·refine⟨by have:=hY.1;simp only [List.length_cons];omega,λx hx=> ?_⟩
    rcases List.mem_cons.1 hx with rfl|hx
    ·exact zfJ (.inl hk) hpart (by omega) (by simp only [List.length_cons];omega)
    exact hY.weak (by simp only [List.length_cons];omega) x hx
   refine⟨by have:=hY.1;have:=hN.1;simp only [List.length_cons,List.length_append];omega,λx hx=> ?_⟩
   rcases List.mem_cons.1 hx with rfl|hx
   ·exact zfJ (.inl hk) hpart (by omega) (by simp only [List.length_cons,List.length_append];omega)
   rcases List.mem_append.1 hx with hx|hx
   ·exact hY.weak (by simp only [List.length_cons,List.length_append];omega) x hx
   rcases List.mem_cons.1 hx with rfl|hx
   ·exact znT (by omega) (by simp only [List.length_cons,List.length_append];omega)
   exact hN.weak (by simp only [List.length_cons,List.length_append];omega) x hx
  rename_i hk
  split
  ·rename_i hk2
   refine⟨by have:=hY.1;simp only [List.length_cons,List.length_append,List.length_nil];omega,λx hx=> ?_⟩
   rcases List.mem_cons.1 hx with rfl|hx
   ·exact zfJ (.inr hk2) hpart (by omega) (by simp only [List.length_cons,List.length_append,List.length_nil];omega)
   rcases List.mem_append.1 hx with hx|hx
   ·exact hY.weak (by simp only [List.length_cons,List.length_append,List.length_nil];omega) x hx
   rw [List.mem_singleton] at hx
   subst hx
   exact znT h0 (by simp only [List.length_cons,List.length_append,List.length_nil];omega)
  rename_i hk2
  refine⟨by simp only [List.length_cons,List.length_nil];omega,λx hx=> ?_⟩
  rw [List.mem_singleton] at hx
  subst hx
  exact zup k1 k2 hk hk2 hpart (by simp only [List.length_cons,List.length_nil];omega)
theorem zah (vars dom:Int):∀(l:List zL) (d:Nat) (at_:Int),0<=at_->xB vars dom l d=true->zkG vars dom at_ (yI l) (zT l at_)
 | [],d,at_,h0,h=>by rw [zT];exact⟨Nat.zero_le _,λx hx=>by simp at hx⟩
 |x::l,d,at_,h0,h=>by
  rw [xB,Bool.and_eq_true] at h
  have hX:=zpy vars dom x d at_ h0 h.1
  have hL:=zah vars dom l d (at_+(je x at_).length) (by omega) h.2
  rw [zT,yI]
  refine⟨by have:=hX.1;have:=hL.1;rw [List.length_append];omega,λy hy=> ?_⟩
  rcases List.mem_append.1 hy with hy|hy
  ·exact hX.weak (by rw [List.length_append];omega) y hy
  exact hL.weak (by rw [List.length_append];omega) y hy
end
def xyz:List (List UInt8):= [[120], [121], [122]]
structure zga (p:zbP):Prop where
 vars:∃n,1<=n/\n<=3/\p.vars=xyz.take n
 dom:2<=p.domain/\p.domain<=16
 many:1<=p.threads.length/\p.threads.length<=3
 ok:∀l∈p.threads,xB p.vars.length p.domain l 20=true
 all:(p.threads.map yI).sum<=200
def zcp (p:zbP):zP:=⟨p.vars.length,p.domain,p.threads.map (λl=>zT l 0)⟩
theorem zxG {l:List Nat} {x:Nat} (h:x∈l):x<=l.sum:=by
 induction l with
 |nil=>simp at h
 |cons y l ih=>
 rcases List.mem_cons.1 h with rfl|h
 ·simp
 have:=ih h;simp;omega
theorem zga.one {p:zbP} (h:zga p) {l:List zL} (hl:l∈p.threads):yI l<=200:=by
 have:=zxG (List.mem_map.2 ⟨l,hl,rfl⟩:yI l∈p.threads.map yI)
 have:=h.all
 omega
theorem zoG {p:zbP} (h:zga p):codeOk (zcp p)=true:=by
 obtain⟨n,n1,n2,hn⟩:=h.vars
 have hv:p.vars.length=n:=by rw [hn,List.length_take];simp [xyz];omega
 have hd:=h.dom
 have hm:=h.many
 unfold codeOk zcp
 simp only [Bool.and_eq_true,decide_eq_true_eq,List.length_map]
 refine⟨⟨⟨⟨⟨⟨by omega,by omega⟩,by omega⟩,by omega⟩,by omega⟩,by omega⟩, ?_⟩
 rw [List.all_eq_true]
 intro r hr
 obtain⟨l,hl,rfl⟩:=List.mem_map.1 hr
 have hg:=zah p.vars.length p.domain l 20 0 (by omega) (h.ok l hl)
 have h2:=h.one hl
 unfold rowOk
 simp only [Bool.and_eq_true,decide_eq_true_eq]
 refine⟨by have:=hg.1;omega, ?_⟩
 rw [List.all_eq_true]
 intro x hx
 have:=hg.2 x hx
 rw [Int.zero_add] at this
 exact this
theorem zgm {a b:Int} (h:a=b):Value.int .i64 a=Value.int .i64 b:=by rw [h]
def zfK (e d:Nat):Prop:=∀(w:World) (l:List zL) (v:Value),yF e d w l v->∀(deep:Nat) (vars dom:Int),deep<=1000->xB vars dom l deep=true->yI l<=200->
 Calls Tryz.prog 102 #[v, .int .i64 deep, .int .i64 vars, .int .i64 dom] w λen w'=>en= .returned (.tuple #[.int .i64 (yI l), .bool true])/\Below w.heap.size w w'
theorem zuq (e d:Nat) (ih:zfK e d):zfK e (d+1):=by
 intro w l v hl deep vars dom z98 hok hN
 obtain⟨la,lc,rfl,hll⟩:=hl.slice
 have htk:=λi (hi:i<l.length)=>zni (l:=l) (i:=i) hi
 have hle:=λi=>zrq l i
 have hz:yI (l.take 0)=0:=by simp [yI]
 have hR:yI l=yI (l.take l.length):=by rw [List.take_length]
 rw [hR] at hN hle ⊢
 obtain⟨NT,hNT⟩:∃NT:Nat->Nat,NT=λi=>yI (l.take i):=⟨_,rfl⟩
 have zzN:∀i,yI (l.take i)=NT i:=λi=>by rw [hNT]
 simp only [zzN] at htk hle hz hN ⊢
 have hall:=zbq.1 hok
 obtain⟨n,hnn⟩:∃n,n=l.length:=⟨_,rfl⟩
 rw [<-hnn] at hl hll htk hN hle ⊢
 have HL:=qh hl
 have HN:=qh hnn
 have jv:=qh htk
 have HLE:=qh hle
 have HZ:=qh hz
 have zur:=qh hall
 have IH:=qh ih
 clear hl hnn htk hle hz hR hNT zzN hall hok ih
 go_enter Tryz.func102,Tryz.ntmps102
 go_wp2_with fail
 go_loopg [10,11] n (λgg s10 s11 wr=>∃i:Nat,i<=n/\Hid (gg=n - i)/\s10= .int .i64 (NT i)/\s11= .int .i64 i/\Hid (Below w.heap.size w wr))
 case atStart=>exact⟨0,Nat.zero_le _,rfl,zgm (by rw [HZ.out];rfl),rfl,Below.refl _ _⟩
 case round=>
 obtain⟨i,hi,HG,rfl,rfl,zM⟩:=hrel
 by_cases hlt:i<n
 rotate_left
 ·obtain rfl:n=i:=by omega
  have hNI:((NT n:Nat):Int)<=200:=by omega
  go_wp2_with fail
  go_ret2
  exact⟨by first|rfl|simp,zM.out⟩
 have qx:(i:Int)<(n:Int):=by omega
 obtain⟨b,off,aa,ac,ba,bc,ya,yc,na,nc,yg, -,hcell,hA,hB,hY,hNo⟩:=yF.part HL.out i (by rw [<-HN.out];exact hlt)
 subst yg
 have hx:=jv.out i hlt
 have hn1:=HLE.out (i+1)
 have hxo:=zur.out (l.getD i default) (vD (by rw [<-HN.out];exact hlt))
 generalize l.getD i default=x at hcell hA hB hY hNo hx hxo
 obtain⟨hd1,hhead,hyo,hno⟩:=zc9 hxo
 obtain⟨hk1,hk2,hpart,hkind⟩:=zi3 hhead
 rw [znh] at hx
 have hcy:=λy (hy:Below w.heap.size w y)=>IH.out y x.yes _ (hY.below hy) (deep - 1) vars dom (by omega) hyo (by omega)
 have hcn:=λy (hy:Below w.heap.size w y)=>IH.out y x.no _ (hNo.below hy) (deep - 1) vars dom (by omega) hno (by omega)
 have hcp:=λy (hy:Below w.heap.size w y)=>zlz y x.kind x.reg x.var x.a x.b _ _ e (hA.below hy) (hB.below hy) vars dom
 rw [hpart] at hcp
 rw [show((deep - 1:Nat):Int)=(deep:Int) - 1 by omega] at hcy hcn
 unfold qj at hcp
 have x0:wr.cell? ⟨b,off+i*13,none⟩=some (.int .i64 x.kind):=zi zM.out _ _ (hcell 0 (by omega))
 have x1:wr.cell? ⟨b,off+i*13+1,none⟩=some (.int .i64 x.reg):=zi zM.out _ _ (hcell 1 (by omega))
 have x2:wr.cell? ⟨b,off+i*13+2,none⟩=some (.int .i64 x.var):=zi zM.out _ _ (hcell 2 (by omega))
 have x3:wr.cell? ⟨b,off+i*13+3,none⟩=some (.int .i64 x.a.kind):=zi zM.out _ _ (hcell 3 (by omega))
 have x4:wr.cell? ⟨b,off+i*13+4,none⟩=some (.int .i64 x.a.n):=zi zM.out _ _ (hcell 4 (by omega))
 have x5:wr.cell? ⟨b,off+i*13+5,none⟩=some (.int .u8 x.a.op):=zi zM.out _ _ (hcell 5 (by omega))
 have x6:wr.cell? ⟨b,off+i*13+6,none⟩=some (.slice aa x.a.kids.length ac):=zi zM.out _ _ (hcell 6 (by omega))
 have x7:wr.cell? ⟨b,off+i*13+7,none⟩=some (.int .i64 x.b.kind):=zi zM.out _ _ (hcell 7 (by omega))
 have x8:wr.cell? ⟨b,off+i*13+8,none⟩=some (.int .i64 x.b.n):=zi zM.out _ _ (hcell 8 (by omega))
 have x9:wr.cell? ⟨b,off+i*13+9,none⟩=some (.int .u8 x.b.op):=zi zM.out _ _ (hcell 9 (by omega))
 have x10:wr.cell? ⟨b,off+i*13+10,none⟩=some (.slice ba x.b.kids.length bc):=zi zM.out _ _ (hcell 10 (by omega))
 have gu:wr.cell? ⟨b,off+i*13+11,none⟩=some (.slice ya x.yes.length yc):=zi zM.out _ _ (hcell 11 (by omega))
 have x12:wr.cell? ⟨b,off+i*13+12,none⟩=some (.slice na x.no.length nc):=zi zM.out _ _ (hcell 12 (by omega))
 generalize hyN:yI x.yes=yN at hx hcy
 generalize hnN:yI x.no=nN at hx hcn
 generalize x.kind=q0 at x0 hcp hk1 hk2 hkind
 generalize x.reg=q1 at x1 hcp
 generalize x.var=q2 at x2 hcp
 generalize x.a.kind=q3 at x3 hcp
 generalize x.a.n=q4 at x4 hcp
 generalize x.a.op=q5 at x5 hcp
 generalize x.a.kids.length=q6 at x6 hcp
 generalize x.b.kind=q7 at x7 hcp
 generalize x.b.n=q8 at x8 hcp
 generalize x.b.op=q9 at x9 hcp
 generalize x.b.kids.length=q10 at x10 hcp
 generalize x.yes.length=q11 at gu hcy hkind
 generalize x.no.length=q12 at x12 hcn hkind
 have HX:Hid (NT (i+1)=NT i+(1+yN+nN)):=hx
 have hs1:NT i+(1+yN+nN)<=200:=by omega
 generalize NT i=ni at HX hs1 ⊢
 have HCY:=qh hcy
 have HCN:=qh hcn
 have HCP:=qh hcp
 clear hcell hA hB hY hNo hx hn1 hxo hhead hyo hno hpart hcy hcn hcp hyN hnN
 have z5J:(1:Int)<=(deep:Int):=by omega
 have z99:(ni:Int)+1<=200:=by omega
 have b1:decide ((deep:Int)<1)=false:=by rw [decide_eq_false_iff_not];omega
 have b2:decide ((200:Int)<(ni:Int)+1)=false:=by rw [decide_eq_false_iff_not];omega
 have b3:decide (q0<1)=false:=by rw [decide_eq_false_iff_not];omega
 have b4:decide (11<q0)=false:=by rw [decide_eq_false_iff_not];omega
 have HK:=qh hkind
 clear hkind hd1
 go_upto_region 7 with fail
 clear x0 x1 x2 x3 x4 x5 x6 x7 x8 x9 x10 gu x12
 have hbx:=zD zM.out ((Below.refl wr.heap.size wr).alloc (Nat.le_refl _) (.cells #[.int .i64 q0, .int .i64 q1, .int .i64 q2, .int .i64 q3, .int .i64 q4, .int .u8 q5, .slice aa q6 ac, .int .i64 q7, .int .i64 q8, .int .u8 q9, .slice ba q10 bc, .slice ya q11 yc, .slice na q12 nc] 165))
 have hg:=yj wr (.cells #[.int .i64 q0, .int .i64 q1, .int .i64 q2, .int .i64 q3, .int .i64 q4, .int .u8 q5, .slice aa q6 ac, .int .i64 q7, .int .i64 q8, .int .u8 q9, .slice ba q10 bc, .slice ya q11 yc, .slice na q12 nc] 165)
 have yZ:=qh hbx
 have yS:=qh hg
 clear hbx hg
 generalize World.alloc wr _=X at yZ yS ⊢
 generalize wr.heap.size=gx at yS ⊢
 have y0:=ze yS.out 0
 have y1:=ze yS.out 1
 have y2:=ze yS.out 2
 have y3:=ze yS.out 3
 have y4:=ze yS.out 4
 have y5:=ze yS.out 5
 have y6:=ze yS.out 6
 have y7:=ze yS.out 7
 have y8:=ze yS.out 8
 have y9:=ze yS.out 9
 have y10:=ze yS.out 10
 go_upto_region 9 with(go_at_call 74;go_must(refine(HCP.out X yZ.out).mono ?_);rintro en X1 ⟨rfl,hb⟩;(have HB1:=qh hb);clear hb y0 y1 y2 y3 y4 y5 y6 y7 y8 y9 y10)
 have zzO:=qh (zD yZ.out HB1.out)
 have qy:=qh ((HB1.out.block _ (zw yS.out)).trans yS.out)
 have z0:X1.cell? ⟨gx,0,none⟩=some (.int .i64 q0):=ze qy.out 0
 have z5:X1.cell? ⟨gx,11,none⟩=some (.slice ya q11 yc):=ze qy.out 11
 have z6:X1.cell? ⟨gx,12,none⟩=some (.slice na q12 nc):=ze qy.out 12
 clear yZ HB1 yS b1 b2 b3 b4
 go_cut [80] (λs80 w'=>s80= .bool false/\w'=X1)
 case first=>
  by_cases h10:q0=10
  ·subst h10
   go_wp2_with fail
   go_meet
   case rel=>exact⟨(by first|rfl|simp),rfl⟩
  have hk:=HK.out.resolve_left h10
  have zus:(q0==10)=false:=by rw [beq_eq_false_iff_ne];exact h10
  have z5K:(q0 !=10)=true:=by rw [bne,zus];rfl
  obtain⟨hno,hk⟩:=hk
  subst hno
  clear h10
  by_cases h11:q0=11
  ·subst h11
   clear zus z5K
   go_wp2_with fail
   go_meet
   case rel=>exact⟨(by first|rfl|simp),rfl⟩
  have zzP:(q0==11)=false:=by rw [beq_eq_false_iff_ne];exact h11
  have zAd:(q0 !=11)=true:=by rw [bne,zzP];rfl
  have hy0:=hk.resolve_left h11
  subst hy0
  clear h11 hk zus zzP
  go_wp2_with fail
  go_meet
  case rel=>exact⟨(by first|rfl|simp),rfl⟩
 case rest=>
 obtain⟨rfl,hwv⟩:=hcut
 obtain rfl:X1=wc:=hwv.symm
 clear z0
 go_upto_region 12 with(go_at_call 102;go_must(refine(HCY.out X1 zzO.out).mono ?_);rintro en X2 ⟨rfl,hb⟩;(have HB2:=qh hb);(have zab:=qh (zD zzO.out hb));clear hb;(have z6':=zi HB2.out _ _ z6);clear z5 z6)
 go_upto_region 13 with(go_at_call 102;go_must(refine(HCN.out X2 zab.out).mono ?_);rintro en X3 ⟨rfl,hb⟩;(have z5L:=qh (zD zab.out hb));clear hb z6')
 go_wp2_with fail
 go_roundg (n - (i+1))
 case measure=>rw [HG.out];omega
 case rel=>exact⟨i+1,by omega,rfl,zgm (by rw [HX.out];omega),by simp,z5L.out⟩
theorem zrr (e d:Nat):zfK e d:=by
 induction d with
 |zero=>intro w l v hl;exact hl.elim
 |succ d ih=>exact zuq e d ih
def zmb (_:World) (x:List UInt8) (cs:List Value):Prop:=cs= [.string ⟨x.toArray⟩]
theorem zmb.stays:jQ zmb:=λ_ _ _ _ h _=>h
abbrev zd5:=zh zmb 1
theorem zd5.part {w:World} {a:Option Addr} {n cap:Nat} {l:List (List UInt8)} (h:zd5 w (.slice a n cap) l) (j:Nat) (hj:j<l.length):∃b off,a=some ⟨b,off,none⟩/\b<w.heap.size/\w.cell? ⟨b,off+j,none⟩=some (.string ⟨(l.getD j []).toArray⟩):=by
 obtain⟨b,off,cs,h1,h2,h3,h4,h5⟩:=zh.part h j hj
 have h5:cs= [.string ⟨(l.getD j default).toArray⟩] :=h5
 subst h5
 have:=h4 0 (by omega)
 rw [Nat.mul_one,Nat.add_zero] at this
 exact⟨b,off,h1,h2,this⟩
def ziY (e d:Nat) (w:World) (l:List zL) (cs:List Value):Prop:=∃v,cs= [v] /\yF e d w l v
theorem ziY.stays (e d:Nat):jQ (ziY e d):=λ_ _ _ _ ⟨v,h,h1⟩ hb=>⟨v,h,h1.below hb⟩
abbrev zfu (e d:Nat):=zh (ziY e d) 1
theorem zfu.part {e d:Nat} {w:World} {a:Option Addr} {n cap:Nat} {l:List (List zL)} (h:zfu e d w (.slice a n cap) l) (j:Nat) (hj:j<l.length):∃b off ka kc,a=some ⟨b,off,none⟩/\b<w.heap.size/\w.cell? ⟨b,off+j,none⟩=some (.slice ka (l.getD j []).length kc)/\yF e d w (l.getD j []) (.slice ka (l.getD j []).length kc):=by
 obtain⟨b,off,cs,h1,h2,h3,h4,v,h5,h6⟩:=zh.part h j hj
 subst h5
 obtain⟨ka,kc,rfl, -⟩:=h6.slice
 have:=h4 0 (by omega)
 rw [Nat.mul_one,Nat.add_zero] at this
 exact⟨b,off,ka,kc,h1,h2,this,h6⟩
def zfZ (p:zbP) (vv tv:Value):Value:= .agg #[vv, .int .i64 p.domain,tv]
structure zd6 (e d:Nat) (w:World) (p:zbP) (vv tv:Value):Prop where
 vars:zd5 w vv p.vars
 threads:zfu e d w tv p.threads
theorem zd6.below {e d:Nat} {w w':World} {p:zbP} {vv tv:Value} (h:zd6 e d w p vv tv) (hb:Below w.heap.size w w'):zd6 e d w' p vv tv:=⟨zh.below zmb.stays h.vars hb,zh.below (ziY.stays e d) h.threads hb⟩
theorem zzQ {n i:Nat} (hn:n<=3) (hi:i<n):∃b:UInt8,(xyz.take n).getD i [] = [b] /\zgl b.toNat=true/\b.toNat=120+i:=by
 have hi3:i=0\/i=1\/i=2:=by omega
 have e:(xyz.take n).getD i [] =xyz.getD i [] :=by simp only [List.getD_eq_getElem?_getD,List.getElem?_take_of_lt hi]
 rw [e]
 rcases hi3 with rfl|rfl|rfl
 ·exact⟨120,rfl,rfl,rfl⟩
 ·exact⟨121,rfl,rfl,rfl⟩
 exact⟨122,rfl,rfl,rfl⟩
theorem zzR {a b:UInt8} (h:a≠b):((⟨#[a]⟩:ByteArray).toList==(⟨#[b]⟩:ByteArray).toList)=false:=by
 rw [beq_eq_false_iff_ne,ByteArray.toList_eq,ByteArray.toList_eq]
 intro e
 exact h (by simpa using e)
theorem zut {l:List Nat} {i:Nat} (hi:i<l.length):(l.take (i+1)).sum=(l.take i).sum+l.getD i 0:=by
 rw [List.take_succ_eq_append_getElem hi,List.sum_append,List.getD_eq_getElem?_getD,List.getElem?_eq_getElem hi];simp
theorem zzS (l:List Nat) (i:Nat):(l.take i).sum<=l.sum:=by
 have:(l.take i).sum+(l.drop i).sum=l.sum:=by rw [<-List.sum_append,List.take_append_drop]
 omega
theorem zkx (e d:Nat) (w:World) (p:zbP) (hp:zga p) (vv tv:Value) (h:zd6 e d w p vv tv):Calls Tryz.prog 75 #[zfZ p vv tv] w λe w'=>e= .returned (.bool true)/\Below w.heap.size w w':=by
 obtain⟨va,vc,rfl, -⟩:=zh.slice h.vars
 obtain⟨ta,tc,rfl, -⟩:=zh.slice h.threads
 obtain⟨vn,v1,v2,hv⟩:=hp.vars
 have hvl:p.vars.length=vn:=by rw [hv,List.length_take];simp [xyz];omega
 obtain⟨d1,d2⟩:=hp.dom
 obtain⟨m1,m2⟩:=hp.many
 obtain⟨tn,htn⟩:∃n,n=p.threads.length:=⟨_,rfl⟩
 have hxy:=λi (hi:i<vn)=>zzQ v2 hi
 rw [<-hv] at hxy
 have hok:∀i,i<tn->xB vn p.domain (p.threads.getD i []) 20=true/\yI (p.threads.getD i [])<=200:=λi hi=>by
  have hm:p.threads.getD i [] ∈p.threads:=vD (by rw [<-htn];exact hi)
  have:=hp.ok _ hm
  rw [hvl] at this
  exact⟨this,hp.one hm⟩
 obtain⟨ST,hST⟩:∃ST:Nat->Nat,ST=λi=>((p.threads.map yI).take i).sum:=⟨_,rfl⟩
 have hst:∀i,i<tn->ST (i+1)=ST i+yI (p.threads.getD i []):=λi hi=>by
  simp only [hST]
  have:=zut (l:=p.threads.map yI) (i:=i) (by simp [<-htn];exact hi)
  rw [this]
  simp [List.getD_eq_getElem?_getD,List.getElem?_eq_getElem (htn ▸ hi:i<p.threads.length)]
 have zzT:∀i,ST i<=200:=λi=>by rw [hST];exact Nat.le_trans (zzS _ _) hp.all
 have hs0:ST 0=0:=by rw [hST];rfl
 have hvars:=h.vars
 have zen:=h.threads
 rw [<-hvl] at hxy
 unfold zfZ
 generalize p.domain=dom at d1 d2 hok ⊢
 rw [<-htn] at m1 m2
 generalize p.vars=L at hvl hvars hxy ⊢
 generalize p.threads=T at htn zen hok hst ⊢
 rw [hvl] at hvars hxy ⊢
 rw [<-htn] at zen ⊢
 have hB:=(Below.refl w.heap.size w).alloc (Nat.le_refl _) (.cells #[.slice va vn vc, .int .i64 dom, .slice ta tn tc] 92)
 have H1:=qh (yj w (.cells #[.slice va vn vc, .int .i64 dom, .slice ta tn tc] 92))
 have zge:=qh (zh.below zmb.stays hvars hB)
 have zjd:=qh (zh.below (ziY.stays e d) zen hB)
 have HB:=qh hB
 have HVL:=qh hvl
 have HTN:=qh htn
 have HXY:=qh hxy
 have jy:=qh hok
 have HST:=qh hst
 have z5M:=qh zzT
 have HS0:=qh hs0
 clear hvars zen hB hvl htn hxy hok hst zzT hs0 h hp hv hST
 have b1:decide ((vn:Int)<1)=false:=by rw [decide_eq_false_iff_not];omega
 have b2:decide ((4:Int)<(vn:Int))=false:=by rw [decide_eq_false_iff_not];omega
 have b3:decide (dom<2)=false:=by rw [decide_eq_false_iff_not];omega
 have b4:decide (16<dom)=false:=by rw [decide_eq_false_iff_not];omega
 have b5:decide ((tn:Int)<1)=false:=by rw [decide_eq_false_iff_not];omega
 have b6:decide ((4:Int)<(tn:Int))=false:=by rw [decide_eq_false_iff_not];omega
 go_enter Tryz.func75,Tryz.ntmps75
 go_upto_region 1 with fail
 generalize World.alloc w _=W at HB H1 zge zjd ⊢
 generalize w.heap.size=gx at H1 ⊢
 have z5N:Hid (∀x,Below W.heap.size W x->Below w.heap.size w x):=λx hx=>HB.out.trans (hx.mono HB.out.size)
 have HC:Hid (∀x,Below W.heap.size W x->x.cell? ⟨gx,0,none⟩=some (.slice va vn vc)/\x.cell? ⟨gx,1,none⟩=some (.int .i64 dom)/\x.cell? ⟨gx,2,none⟩=some (.slice ta tn tc)):=λx hx=>⟨zi hx _ _ (ze H1.out 0),zi hx _ _ (ze H1.out 1),zi hx _ _ (ze H1.out 2)⟩
 obtain⟨c0,c1,c2⟩:=HC.out W (Below.refl _ _)
 go_wp2_with fail
 clear c0 c1 c2 b1 b2 b3 b4 b5 b6
 go_loopg [3] vn (λgg s3 wr=>∃i:Nat,i<=vn/\Hid (gg=vn - i)/\s3= .int .i64 i/\Hid (Below W.heap.size W wr))
 case atStart=>exact⟨0,Nat.zero_le _,rfl,rfl,Below.refl _ _⟩
 case round=>
 obtain⟨i,hi,HG,rfl,zM⟩:=hrel
 obtain⟨c0,c1,c2⟩:=HC.out wr zM.out
 by_cases hlt:i<vn
 ·have qx:(i:Int)<(vn:Int):=by omega
  obtain⟨b,off,yg, -,x0⟩:=zd5.part zge.out i (by rw [HVL.out];exact hlt)
  subst yg
  obtain⟨u,hu1,hu2,hu3⟩:=HXY.out i hlt
  rw [hu1] at x0
  have hname:Calls Tryz.prog 101 #[.string ⟨#[u]⟩] wr λe w'=>e= .returned (.bool true)/\Below wr.heap.size wr w':=zuo wr u hu2
  have zuu:∀v:UInt8,v≠u->((⟨#[v]⟩:ByteArray).toList==(⟨#[u]⟩:ByteArray).toList)=false:=λv hv=>zzR hv
  have x0':W.cell? ⟨b,off+i,none⟩=some (.string ⟨#[u]⟩):=x0
  generalize (⟨#[u]⟩:ByteArray)=su at x0' hname zuu
  have HX0:=qh x0'
  have HU3:=qh hu3
  have z5O:=qh zuu
  have y0:wr.cell? ⟨b,off+i,none⟩=some (.string su):=zi zM.out _ _ x0'
  have zw6:=qh hname
  clear hu1 hu2 hu3 x0 x0' hname zuu
  go_upto_region 8 with(go_at_call 101;go_must(refine zw6.out.mono ?_);rintro en X1 ⟨rfl,hb⟩;(have HB1:=qh (zD zM.out hb));clear hb y0 c0 c1 c2 zw6)
  go_wp2_with fail
  clear zM
  go_loopg [4] i (λgg s4 wr=>∃k:Nat,k<=i/\Hid (gg=i - k)/\s4= .int .i64 k/\Hid (Below W.heap.size W wr))
  case atStart=>exact⟨0,Nat.zero_le _,rfl,rfl,HB1.out⟩
  case round=>
  obtain⟨k,hk,HG2,rfl,zmc⟩:=hrel
  by_cases hlk:k<i
  rotate_left
  ·obtain rfl:i=k:=by omega
   go_wp2_with fail
   go_roundg (vn - (i+1))
   case measure=>rw [HG.out];omega
   case rel=>exact⟨i+1,by omega,rfl,by simp,zmc.out⟩
  have z5v:(k:Int)<(i:Int):=by omega
  obtain⟨b',off',yg, -,x1⟩:=zd5.part zge.out k (by rw [HVL.out];omega)
  obtain⟨rfl,rfl⟩:b=b'/\off=off':=by simpa using yg
  obtain⟨v,hv1,hv2,hv3⟩:=HXY.out k (by omega)
  rw [hv1] at x1
  have hne:v≠u:=λe=>by have:=HU3.out;rw [e] at hv3;omega
  have hnl:=z5O.out v hne
  obtain⟨c0,c1,c2⟩:=HC.out wr zmc.out
  have y0:wr.cell? ⟨b,off+i,none⟩=some (.string su):=zi zmc.out _ _ HX0.out
  have y1:wr.cell? ⟨b,off+k,none⟩=some (.string ⟨#[v]⟩):=zi zmc.out _ _ x1
  clear hv1 hv2 hv3 x1 hne
  generalize (⟨#[v]⟩:ByteArray)=sv at y1 hnl
  go_upto_region 11 with fail
  go_quiet (fail)
  go_wp2_with fail
  go_roundg (i - (k+1))
  case measure=>rw [HG2.out];omega
  case rel=>exact⟨k+1,by omega,rfl,by simp,yh zmc.out _⟩
 obtain rfl:vn=i:=by omega
 go_wp2_with fail
 clear c0 c1 c2
 go_loopg [5,6] tn (λgg s5 s6 wr=>∃i:Nat,i<=tn/\Hid (gg=tn - i)/\s5= .int .i64 (ST i)/\s6= .int .i64 i/\Hid (Below W.heap.size W wr))
 case atStart=>exact⟨0,Nat.zero_le _,rfl,zgm (by rw [HS0.out];rfl),rfl,zM.out⟩
 case round=>
 obtain⟨i,hi,HG,rfl,rfl,zM⟩:=hrel
 obtain⟨c0,c1,c2⟩:=HC.out wr zM.out
 by_cases hlt:i<tn
 rotate_left
 ·obtain rfl:tn=i:=by omega
  go_wp2_with fail
  go_ret
  exact⟨rfl,z5N.out _ zM.out⟩
 have qx:(i:Int)<(tn:Int):=by omega
 obtain⟨b,off,ka,kc,yg, -,x0,hst⟩:=zfu.part zjd.out i (by rw [<-HTN.out];exact hlt)
 subst yg
 obtain⟨hok,zuv⟩:=jy.out i hlt
 have hs1:=HST.out i hlt
 have hs2:=z5M.out (i+1)
 generalize T.getD i [] =l at x0 hst hok zuv hs1
 have hcl:=λy (hy:Below W.heap.size W y)=>zrr e d y l _ (hst.below hy) 20 vn dom (by omega) hok zuv
 have y0:=zi zM.out _ _ x0
 generalize l.length=ln at y0 hcl
 have qM:Hid (ST (i+1)=ST i+yI l):=hs1
 have hsum:ST i+yI l<=200:=by omega
 generalize yI l=sn at hcl qM hsum
 generalize ST i=si at qM hsum ⊢
 have HCL:=qh hcl
 clear hst hok zuv hs1 hs2 hcl x0
 go_upto_region 17 with fail
 have CC:Hid (∀x,Below wr.heap.size wr x->x.cell? ⟨gx,0,none⟩=some (.slice va vn vc)/\x.cell? ⟨gx,1,none⟩=some (.int .i64 dom)/\x.cell? ⟨gx,2,none⟩=some (.slice (some ⟨b,off,none⟩) tn tc)/\x.cell? ⟨b,off+i,none⟩=some (.slice ka ln kc)):=λx hx=>⟨zi hx _ _ c0,zi hx _ _ c1,zi hx _ _ c2,zi hx _ _ y0⟩
 clear y0 c0 c1 c2
 refine qL (S:=λx=>Below wr.heap.size wr x) (Below.refl _ _).drew (λhH=> ?_)
 refine zo 0 CC.out ?_
 refine zo 1 CC.out ?_
 refine zo 2 CC.out ?_
 refine zo 3 CC.out ?_
 refine zo 4 CC.out ?_
 refine zo 5 CC.out ?_
 refine zo 6 CC.out ?_
 refine zo 7 CC.out ?_
 refine zo 8 CC.out ?_
 refine zo 9 CC.out ?_
 refine yw 10 rfl (λK hK=> ?_)
 go_simp
 refine(HCL.out wr.drew (zD zM.out hH)).mono ?_
 rintro en z5P ⟨rfl,hb⟩
 have zpz:Below wr.heap.size wr z5P:=zD hH hb
 refine hK.out _ _ zpz (λ_=> ?_)
 clear hK K hb hH
 refine zo 11 CC.out ?_
 refine zo 12 CC.out ?_
 refine zo 13 CC.out ?_
 refine zo 14 CC.out ?_
 refine zo 15 CC.out ?_
 refine xE ?_
 have jh:=qh (zD zM.out zpz)
 clear zpz CC
 have z9A:(si:Int)+(sn:Int)<=200:=by omega
 have b1:decide ((200:Int)<(si:Int)+(sn:Int))=false:=by rw [decide_eq_false_iff_not];omega
 go_wp2_with fail
 go_roundg (tn - (i+1))
 case measure=>rw [HG.out];omega
 case rel=>exact⟨i+1,by omega,rfl,zgm (by rw [qM.out];omega),by simp,jh.out⟩
