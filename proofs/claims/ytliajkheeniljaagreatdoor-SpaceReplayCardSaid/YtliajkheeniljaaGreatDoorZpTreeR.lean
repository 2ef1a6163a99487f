/- Steps. -/
import Derived.Test.YtliajkheeniljaaGreatDoorZpBlocks
set_option linter.all false
namespace Go.Proofs.YtliajkheeniljaaGreatDoor
open Go.RowKit
set_option maxRecDepth 100000
set_option maxHeartbeats 16000000
def zf7 (c:Int):Bool:=decide (97<=c) && decide (c<=122)
theorem zpo (w:World) (c:Int):Calls Tryz.prog 118 #[.int .u8 c] w λe w'=>e= .returned (.bool (zf7 c))/\Below w.heap.size w w':=by
 unfold zf7
 by_cases h1:97<=c
 ·go_enter Tryz.func118,Tryz.ntmps118
  go_wp2
  go_ret
  exact⟨by simp [h1],Below.refl _ _⟩
 go_enter Tryz.func118,Tryz.ntmps118
 go_wp2
 go_ret
 exact⟨by simp;omega,Below.refl _ _⟩
def ziF (b:UInt8):Value:= .string ⟨#[b]⟩
theorem zlO (w:World) (b:UInt8):Calls Tryz.prog 120 #[ziF b] w λe w'=>e= .returned (.int .i64 (-1))/\Below w.heap.size w w':=by
 unfold ziF
 have hsz:((⟨#[b]⟩:ByteArray)).size=1:=rfl
 generalize (⟨#[b]⟩:ByteArray)=s at hsz ⊢
 have hszI:((s.size:Int)==2)=false:=by rw [hsz];rfl
 go_enter Tryz.func120,Tryz.ntmps120
 go_wp2
 go_ret
 exact⟨rfl,Below.refl _ _⟩
def z5h:List ByteArray:= [⟨#[118,97,114,115]⟩,⟨#[100,111,109,97,105,110]⟩,⟨#[116,104,114,101,97,100]⟩,⟨#[102,101,110,99,101]⟩,⟨#[115,102,101,110,99,101]⟩,⟨#[99,97,115]⟩,⟨#[108,111,99,107]⟩,⟨#[117,110,108,111,99,107]⟩,⟨#[97,115,115,101,114,116]⟩,⟨#[105,102]⟩,⟨#[101,108,115,101]⟩,⟨#[119,104,105,108,101]⟩]
theorem z0l (i:Nat) (hi:i<12) (s:ByteArray) (hs:s.size=1):∃k:ByteArray,(z5h.map Value.string)[i]? =some (.string k)/\k≠s:=by
 have hne:∀k:ByteArray,k.size≠1->k≠s:=λk hk e=>by rw [e] at hk;exact hk hs
 match i,hi with
 |0,_=>exact⟨_,rfl,hne _ (by decide)⟩
 |1,_=>exact⟨_,rfl,hne _ (by decide)⟩
 |2,_=>exact⟨_,rfl,hne _ (by decide)⟩
 |3,_=>exact⟨_,rfl,hne _ (by decide)⟩
 |4,_=>exact⟨_,rfl,hne _ (by decide)⟩
 |5,_=>exact⟨_,rfl,hne _ (by decide)⟩
 |6,_=>exact⟨_,rfl,hne _ (by decide)⟩
 |7,_=>exact⟨_,rfl,hne _ (by decide)⟩
 |8,_=>exact⟨_,rfl,hne _ (by decide)⟩
 |9,_=>exact⟨_,rfl,hne _ (by decide)⟩
 |10,_=>exact⟨_,rfl,hne _ (by decide)⟩
 |11,_=>exact⟨_,rfl,hne _ (by decide)⟩
theorem zxq (w:World) (b:UInt8):Calls Tryz.prog 119 #[ziF b] w λe w'=>e= .returned (.bool false)/\Below w.heap.size w w':=by
 unfold ziF
 have hsz:((⟨#[b]⟩:ByteArray)).size=1:=rfl
 generalize (⟨#[b]⟩:ByteArray)=s at hsz ⊢
 have HB:=qh ((Below.refl w.heap.size w).alloc (Nat.le_refl _) (.cells #[.string ⟨#[118,97,114,115]⟩, .string ⟨#[100,111,109,97,105,110]⟩, .string ⟨#[116,104,114,101,97,100]⟩, .string ⟨#[102,101,110,99,101]⟩, .string ⟨#[115,102,101,110,99,101]⟩, .string ⟨#[99,97,115]⟩, .string ⟨#[108,111,99,107]⟩, .string ⟨#[117,110,108,111,99,107]⟩, .string ⟨#[97,115,115,101,114,116]⟩, .string ⟨#[105,102]⟩, .string ⟨#[101,108,115,101]⟩, .string ⟨#[119,104,105,108,101]⟩] 9))
 have HG:=qh (yj w (.cells #[.string ⟨#[118,97,114,115]⟩, .string ⟨#[100,111,109,97,105,110]⟩, .string ⟨#[116,104,114,101,97,100]⟩, .string ⟨#[102,101,110,99,101]⟩, .string ⟨#[115,102,101,110,99,101]⟩, .string ⟨#[99,97,115]⟩, .string ⟨#[108,111,99,107]⟩, .string ⟨#[117,110,108,111,99,107]⟩, .string ⟨#[97,115,115,101,114,116]⟩, .string ⟨#[105,102]⟩, .string ⟨#[101,108,115,101]⟩, .string ⟨#[119,104,105,108,101]⟩] 9))
 go_enter Tryz.func119,Tryz.ntmps119
 go_upto_region 2 with fail
 generalize World.alloc w _=W at HB HG ⊢
 generalize w.heap.size=g at HG ⊢
 go_wp2_with fail
 go_loopg [4] 12 (λgg s4 wr=>∃i:Nat,i<=12/\Hid (gg=12 - i)/\s4= .int .i64 i/\wr=W)
 case atStart=>exact⟨0,by omega,rfl,rfl,rfl⟩
 case round=>
 obtain⟨i,hi,HGG,rfl,rfl⟩:=hrel
 by_cases hlt:i<12
 rotate_left
 ·obtain rfl:i=12:=by omega
  go_wp2_with fail
  go_ret
  exact⟨rfl,HB.out⟩
 have qN:(i:Int)<12:=by omega
 obtain⟨k,hk,hne⟩:=z0l i hlt s hsz
 have x0:wr.cell? ⟨g,i,none⟩=some (.string k):=by rw [ze HG.out,List.getElem?_toArray];exact hk
 have hnl:(k.toList==s.toList)=false:=by
  rw [ByteArray.toList_eq,ByteArray.toList_eq,beq_eq_false_iff_ne]
  intro e
  apply hne
  obtain⟨kd⟩:=k
  obtain⟨sd⟩:=s
  have:kd=sd:=Array.toList_inj.1 e
  rw [this]
 go_wp2_with fail
 go_roundg (12 - (i+1))
 case measure=>rw [HGG.out];omega
 case rel=>exact⟨i+1,by omega,rfl,by simp,rfl⟩
theorem zu5 (w:World) (b:UInt8) (hb:zf7 b.toNat=true):Calls Tryz.prog 101 #[ziF b] w λe w'=>e= .returned (.bool true)/\Below w.heap.size w w':=by
 have hk:=λy=>zxq y b
 have hr:=λy=>zlO y b
 unfold ziF at hk hr ⊢
 have hsz:((⟨#[b]⟩:ByteArray)).size=1:=rfl
 have hget:∀h:0<((⟨#[b]⟩:ByteArray)).size,((⟨#[b]⟩:ByteArray))[0]'h=b:=λ_=>rfl
 have hne:((⟨#[b]⟩:ByteArray)).toList.isEmpty=false:=by rw [ByteArray.toList_eq];rfl
 generalize (⟨#[b]⟩:ByteArray)=s at hsz hget hk hr hne ⊢
 have hlet:∀(y:World) (h:0<s.size),Calls Tryz.prog 118 #[.int .u8 ((s[0]'h).toNat:Int)] y λe w'=>e= .returned (.bool true)/\Below y.heap.size y w':=λy h=>by
  have:=zpo y (b.toNat:Int)
  rw [hb] at this
  rw [hget h];exact this
 have HK:=qh hk
 have HR:=qh hr
 have z0m:=qh hlet
 clear hk hr hlet hget
 have hnl:(s.toList==([] :List UInt8))=false:=by rw [beq_eq_false_iff_ne];intro e;rw [e] at hne;cases hne
 go_enter Tryz.func101,Tryz.ntmps101
 go_wp2_with(first|(go_at_call 120;go_must(refine(HR.out W2).mono ?_);rintro e W3 ⟨rfl,hb3⟩)|(go_at_call 119;go_must(refine(HK.out W1).mono ?_);rintro e W2 ⟨rfl,hb2⟩)|(go_at_call 118;go_must(refine(z0m.out w _).mono ?_);rintro e W1 ⟨rfl,hb1⟩))
 have HB3:=qh (zG (zG hb1 hb2) hb3)
 clear hb1 hb2 hb3
 go_loopg [3] 1 (λgg s3 wr=>∃i:Nat,i<=1/\Hid (gg=1 - i)/\s3= .int .i64 i/\Hid (Below w.heap.size w wr))
 case atStart=>exact⟨0,by omega,rfl,rfl,HB3.out⟩
 case round=>
 obtain⟨i,hi,HGG,rfl,zT⟩:=hrel
 by_cases hlt:i<1
 ·obtain rfl:i=0:=by omega
  go_wp2_with(go_at_call 118;go_must(refine(z0m.out wr _).mono ?_);rintro e W4 ⟨rfl,hb4⟩;(have jy:=qh (zG zT.out hb4));clear hb4)
  go_roundg 0
  case measure=>rw [HGG.out];omega
  case rel=>exact⟨1,by omega,rfl,by simp,jy.out⟩
 obtain rfl:i=1:=by omega
 go_wp2_with fail
 go_ret
 exact⟨rfl,zT.out⟩
mutual
def pY:zL->Nat
 | .mk _ _ _ _ _ y n=>1+yE y+yE n
def yE:List zL->Nat
 | [] =>0
 |x::l=>pY x+yE l
end
def zeZ (vars dom k r v:Int) (a b:zN) (y n:List zL):Bool:=decide (1<=k) && decide (k<=11) && qI k r v a b vars dom && (decide (k=10)||decide (n.length=0) && (decide (k=11)||decide (y.length=0)))
mutual
def um (vars dom:Int):zL->Nat->Bool
 | .mk k r v a b y n,d=>decide (1<=d) && zeZ vars dom k r v a b y n && xA vars dom y (d - 1) && xA vars dom n (d - 1)
def xA (vars dom:Int):List zL->Nat->Bool
 | [],_=>true
 |x::l,d=>um vars dom x d && xA vars dom l d
end
theorem zcp {vars dom:Int} {x:zL} {d:Nat} (h:um vars dom x d=true):1<=d/\zeZ vars dom x.kind x.reg x.var x.a x.b x.yes x.no=true/\xA vars dom x.yes (d - 1)=true/\xA vars dom x.no (d - 1)=true:=by
 obtain⟨k,r,v,a,b,y,n⟩:=x
 unfold um at h
 simp only [Bool.and_eq_true,decide_eq_true_eq] at h
 exact⟨h.1.1.1,h.1.1.2,h.1.2,h.2⟩
theorem zmF (x:zL):pY x=1+yE x.yes+yE x.no:=by
 obtain⟨k,r,v,a,b,y,n⟩:=x
 rw [pY];rfl
theorem zik {vars dom k r v:Int} {a b:zN} {y n:List zL} (h:zeZ vars dom k r v a b y n=true):1<=k/\k<=11/\qI k r v a b vars dom=true/\(k=10\/n.length=0/\(k=11\/y.length=0)):=by
 unfold zeZ at h
 simp only [Bool.and_eq_true,Bool.or_eq_true,decide_eq_true_eq] at h
 exact⟨h.1.1.1,h.1.1.2,h.1.2,h.2⟩
theorem zbb {vars dom:Int} {l:List zL} {d:Nat} :xA vars dom l d=true↔∀x∈l,um vars dom x d=true:=by
 induction l with
 |nil=>simp [xA]
 |cons x l ih=>rw [xA,Bool.and_eq_true,ih];simp
theorem zdT (l r:List zL):yE (l++r)=yE l+yE r:=by
 induction l with
 |nil=>simp [yE]
 |cons x l ih=>rw [List.cons_append,yE,yE,ih];omega
theorem zmG {l:List zL} {i:Nat} (hi:i<l.length):yE (l.take (i+1))=yE (l.take i)+pY (l.getD i default):=by
 rw [List.take_succ_eq_append_getElem hi,zdT,List.getD_eq_getElem?_getD,List.getElem?_eq_getElem hi]
 simp [yE]
theorem zrV (l:List zL) (i:Nat):yE (l.take i)<=yE l:=by
 have:=zdT (l.take i) (l.drop i)
 rw [List.take_append_drop] at this
 omega
theorem zlP {vars dom:Int} :∀(d:Nat) (l:List zL),xA vars dom l d=true->xA vars dom l (d+1)=true:=by
 intro d
 induction d with
 |zero=>
  intro l h
  cases l with
  |nil=>rw [xA]
  |cons x l=>
  rw [zbb] at h
  have:=(zcp (h x (by simp))).1
  omega
 |succ d ih=>
 intro l h
 rw [zbb] at h ⊢
 intro x hx
 have h2:=h x hx
 obtain⟨k,r,v,a,b,y,n⟩:=x
 unfold um at h2 ⊢
 simp only [Bool.and_eq_true,decide_eq_true_eq] at h2 ⊢
 exact⟨⟨⟨by omega,h2.1.1.2⟩,ih y h2.1.2⟩,ih n h2.2⟩
theorem zoQ {vars dom:Int} {d e:Nat} {l:List zL} (h:xA vars dom l d=true) (hl:d<=e):xA vars dom l e=true:=by
 induction hl with
 |refl=>exact h
 |step _ ih=>exact zlP _ _ ih
def bM (vars dom:Int) (yG:Int) (x:zW):Bool:=
 if x.op=12 then vN vars dom 9 yG x else if x.op=13 then vN vars dom 4 yG x else if x.op=10\/x.op=11 then false else vN vars dom x.op 0 x
theorem zil {vars dom k a b:Int} {x:zW} (h:vN vars dom k a x=true) (hab:a<=b):vN vars dom k b x=true:=by
 unfold vN at h ⊢
 simp only [Bool.and_eq_true,decide_eq_true_eq] at h ⊢
 exact⟨⟨h.1.1,by omega⟩,h.2⟩
theorem zlQ {vars dom a b:Int} {x:zW} (h:bM vars dom a x=true) (hab:a<=b):bM vars dom b x=true:=by
 unfold bM at h ⊢
 split
 ·rename_i h1;rw [if_pos h1] at h;exact zil h hab
 rename_i h1;rw [if_neg h1] at h
 split
 ·rename_i h2;rw [if_pos h2] at h;exact zil h hab
 rename_i h2;rw [if_neg h2] at h;exact h
theorem zfo {vars dom:Int} {k r v:Int} {a b:zN} (hk:k=10\/k=11) (h:qI k r v a b vars dom=true) {yG b_:Int} (h0:0<=yG) (h1:yG<=b_):bM vars dom b_ (jd a yG)=true:=by
 have hp:qI 9 0 0 a default vars dom=true:=by
  have e1:za4 9 0=true:=by decide
  have e2:uI 9 0 vars=true:=by simp [uI,gD]
  have e3:uJ 9 a dom=true:=by
   unfold qI at h
   simp only [Bool.and_eq_true] at h
   have:=h.1.2
   rcases hk with rfl|rfl
   ·simpa [uJ,gF] using this
   simpa [uJ,gF] using this
  have e4:zaG 9 default dom=true:=by rfl
  simp [qI,e1,e2,e3,e4]
 show vN vars dom 9 b_ (jd a yG)=true
 unfold vN jd
 simp only [Bool.and_eq_true,decide_eq_true_eq]
 exact⟨⟨⟨by omega,h0⟩,h1⟩,hp⟩
theorem znB {vars dom:Int} {yG b_:Int} (h0:0<=yG) (h1:yG<=b_):bM vars dom b_ (bN yG)=true:=by
 have hp:qI 4 0 0 default default vars dom=true:=by
  have e2:uI 4 0 vars=true:=by simp [uI,gD]
  have e1:za4 4 0=true:=by decide
  have e3:uJ 4 default dom=true:=by rfl
  have e4:zaG 4 default dom=true:=by rfl
  simp [qI,e1,e2,e3,e4]
 show vN vars dom 4 b_ (bN yG)=true
 unfold vN bN
 simp only [Bool.and_eq_true,decide_eq_true_eq]
 exact⟨⟨⟨by omega,h0⟩,h1⟩,hp⟩
theorem zu6 {vars dom:Int} {k r v:Int} {a b:zN} (h1:1<=k) (h2:k<=11) (hk:¬k=10) (hk2:¬k=11) (h:qI k r v a b vars dom=true) {b_:Int} (_hb:0<=b_):bM vars dom b_ ⟨k,r,v,a,b,0⟩=true:=by
 unfold bM
 rw [if_neg (by show¬k=12;omega),if_neg (by show¬k=13;omega),if_neg (by show¬(k=10\/k=11);omega)]
 unfold vN
 simp only [Bool.and_eq_true,decide_eq_true_eq]
 exact⟨⟨⟨⟨h1,by omega⟩,by omega⟩,by omega⟩,h⟩
def zke (vars dom:Int) (at_:Int) (n:Nat) (l:List zW):Prop:=l.length<=3*n/\∀x∈l,bM vars dom (at_+l.length) x=true
theorem zke.weak {vars dom at_:Int} {n:Nat} {l:List zW} (h:zke vars dom at_ n l) {b:Int} (hb:at_+l.length<=b):∀x∈l,bM vars dom b x=true:=λx hx=>zlQ (h.2 x hx) hb
mutual
theorem zpp (vars dom:Int):∀(x:zL) (d:Nat) (at_:Int),0<=at_->um vars dom x d=true->zke vars dom at_ (pY x) (jh x at_)
 | .mk k r v a b y n,d,at_,h0,h=>by
  have hp:=zcp h
  simp only [zL.kind,zL.reg,zL.var,zL.a,zL.b,zL.yes,zL.no] at hp
  obtain⟨h1,h2,h3,h4⟩:=hp
  obtain⟨k1,k2,hpart,hkind⟩:=zik h2
  have hY:=pR vars dom y (d - 1) (at_+1) (by omega) h3
  have hN:=pR vars dom n (d - 1) (at_+2+(zS y (at_+1)).length) (by omega) h4
  rw [pY]
  unfold jh
  split
  ·rename_i hk
   split
   ·refine⟨by have:=hY.1;simp only [List.length_cons];omega,λx hx=> ?_⟩
    rcases List.mem_cons.1 hx with rfl|hx
    ·exact zfo (.inl hk) hpart (by omega) (by simp only [List.length_cons];omega)
    exact hY.weak (by simp only [List.length_cons];omega) x hx
   refine⟨by have:=hY.1;have:=hN.1;simp only [List.length_cons,List.length_append];omega,λx hx=> ?_⟩
   rcases List.mem_cons.1 hx with rfl|hx
   ·exact zfo (.inl hk) hpart (by omega) (by simp only [List.length_cons,List.length_append];omega)
   rcases List.mem_append.1 hx with hx|hx
   ·exact hY.weak (by simp only [List.length_cons,List.length_append];omega) x hx
   rcases List.mem_cons.1 hx with rfl|hx
   ·exact znB (by omega) (by simp only [List.length_cons,List.length_append];omega)
   exact hN.weak (by simp only [List.length_cons,List.length_append];omega) x hx
  rename_i hk
  split
  ·rename_i hk2
   refine⟨by have:=hY.1;simp only [List.length_cons,List.length_append,List.length_nil];omega,λx hx=> ?_⟩
   rcases List.mem_cons.1 hx with rfl|hx
   ·exact zfo (.inr hk2) hpart (by omega) (by simp only [List.length_cons,List.length_append,List.length_nil];omega)
   rcases List.mem_append.1 hx with hx|hx
   ·exact hY.weak (by simp only [List.length_cons,List.length_append,List.length_nil];omega) x hx
   rw [List.mem_singleton] at hx
   subst hx
   exact znB h0 (by simp only [List.length_cons,List.length_append,List.length_nil];omega)
  rename_i hk2
  refine⟨by simp only [List.length_cons,List.length_nil];omega,λx hx=> ?_⟩
  rw [List.mem_singleton] at hx
  subst hx
  exact zu6 k1 k2 hk hk2 hpart (by simp only [List.length_cons,List.length_nil];omega)
theorem pR (vars dom:Int):∀(l:List zL) (d:Nat) (at_:Int),0<=at_->xA vars dom l d=true->zke vars dom at_ (yE l) (zS l at_)
 | [],d,at_,h0,h=>by rw [zS];exact⟨Nat.zero_le _,λx hx=>by simp at hx⟩
 |x::l,d,at_,h0,h=>by
  rw [xA,Bool.and_eq_true] at h
  have hX:=zpp vars dom x d at_ h0 h.1
  have hL:=pR vars dom l d (at_+(jh x at_).length) (by omega) h.2
  rw [zS,yE]
  refine⟨by have:=hX.1;have:=hL.1;rw [List.length_append];omega,λy hy=> ?_⟩
  rcases List.mem_append.1 hy with hy|hy
  ·exact hX.weak (by rw [List.length_append];omega) y hy
  exact hL.weak (by rw [List.length_append];omega) y hy
end
def xyz:List (List UInt8):= [[120], [121], [122]]
structure zf2 (p:zbN):Prop where
 vars:∃n,1<=n/\n<=3/\p.vars=xyz.take n
 dom:2<=p.domain/\p.domain<=16
 many:1<=p.threads.length/\p.threads.length<=3
 ok:∀l∈p.threads,xA p.vars.length p.domain l 20=true
 all:(p.threads.map yE).sum<=200
def zcn (p:zbN):zI:=⟨p.vars.length,p.domain,p.threads.map (λl=>zS l 0)⟩
theorem zxr {l:List Nat} {x:Nat} (h:x∈l):x<=l.sum:=by
 induction l with
 |nil=>simp at h
 |cons y l ih=>
 rcases List.mem_cons.1 h with rfl|h
 ·simp
 have:=ih h;simp;omega
theorem zf2.one {p:zbN} (h:zf2 p) {l:List zL} (hl:l∈p.threads):yE l<=200:=by
 have:=zxr (List.mem_map.2 ⟨l,hl,rfl⟩:yE l∈p.threads.map yE)
 have:=h.all
 omega
theorem zoJ {p:zbN} (h:zf2 p):codeOk (zcn p)=true:=by
 obtain⟨n,n1,n2,hn⟩:=h.vars
 have hv:p.vars.length=n:=by rw [hn,List.length_take];simp [xyz];omega
 have hd:=h.dom
 have hm:=h.many
 unfold codeOk zcn
 simp only [Bool.and_eq_true,decide_eq_true_eq,List.length_map]
 refine⟨⟨⟨⟨⟨⟨by omega,by omega⟩,by omega⟩,by omega⟩,by omega⟩,by omega⟩, ?_⟩
 rw [List.all_eq_true]
 intro r hr
 obtain⟨l,hl,rfl⟩:=List.mem_map.1 hr
 have hg:=pR p.vars.length p.domain l 20 0 (by omega) (h.ok l hl)
 have h2:=h.one hl
 unfold rowOk
 simp only [Bool.and_eq_true,decide_eq_true_eq]
 refine⟨by have:=hg.1;omega, ?_⟩
 rw [List.all_eq_true]
 intro x hx
 have:=hg.2 x hx
 rw [Int.zero_add] at this
 exact this
theorem zf8 {a b:Int} (h:a=b):Value.int .i64 a=Value.int .i64 b:=by rw [h]
def zfp (e d:Nat):Prop:=∀(w:World) (l:List zL) (v:Value),yC e d w l v->∀(deep:Nat) (vars dom:Int),deep<=1000->xA vars dom l deep=true->yE l<=200->
 Calls Tryz.prog 102 #[v, .int .i64 deep, .int .i64 vars, .int .i64 dom] w λen w'=>en= .returned (.tuple #[.int .i64 (yE l), .bool true])/\Below w.heap.size w w'
theorem zu7 (e d:Nat) (ih:zfp e d):zfp e (d+1):=by
 intro w l v hl deep vars dom z8r hok hN
 obtain⟨la,lc,rfl,hll⟩:=hl.slice
 have htk:=λi (hi:i<l.length)=>zmG (l:=l) (i:=i) hi
 have hle:=λi=>zrV l i
 have hz:yE (l.take 0)=0:=by simp [yE]
 have hR:yE l=yE (l.take l.length):=by rw [List.take_length]
 rw [hR] at hN hle ⊢
 obtain⟨NT,hNT⟩:∃NT:Nat->Nat,NT=λi=>yE (l.take i):=⟨_,rfl⟩
 have z0n:∀i,yE (l.take i)=NT i:=λi=>by rw [hNT]
 simp only [z0n] at htk hle hz hN ⊢
 have hall:=zbb.1 hok
 obtain⟨n,hnn⟩:∃n,n=l.length:=⟨_,rfl⟩
 rw [<-hnn] at hl hll htk hN hle ⊢
 have HL:=qh hl
 have HN:=qh hnn
 have j3:=qh htk
 have HLE:=qh hle
 have HZ:=qh hz
 have ztk:=qh hall
 have IH:=qh ih
 clear hl hnn htk hle hz hR hNT z0n hall hok ih
 go_enter Tryz.func102,Tryz.ntmps102
 go_wp2_with fail
 go_loopg [10,11] n (λgg s10 s11 wr=>∃i:Nat,i<=n/\Hid (gg=n - i)/\s10= .int .i64 (NT i)/\s11= .int .i64 i/\Hid (Below w.heap.size w wr))
 case atStart=>exact⟨0,Nat.zero_le _,rfl,zf8 (by rw [HZ.out];rfl),rfl,Below.refl _ _⟩
 case round=>
 obtain⟨i,hi,HG,rfl,rfl,zT⟩:=hrel
 by_cases hlt:i<n
 rotate_left
 ·obtain rfl:n=i:=by omega
  have hNI:((NT n:Nat):Int)<=200:=by omega
  go_wp2_with fail
  go_ret2
  exact⟨by first|rfl|simp,zT.out⟩
 have qN:(i:Int)<(n:Int):=by omega
 obtain⟨b,off,aa,ac,ba,bc,ya,yc,na,nc,yh, -,hcell,hA,hB,hY,hNo⟩:=yC.part HL.out i (by rw [<-HN.out];exact hlt)
 subst yh
 have hx:=j3.out i hlt
 have hn1:=HLE.out (i+1)
 have hxo:=ztk.out (l.getD i default) (qR (by rw [<-HN.out];exact hlt))
 generalize l.getD i default=x at hcell hA hB hY hNo hx hxo
 obtain⟨hd1,hhead,hyo,hno⟩:=zcp hxo
 obtain⟨hk1,hk2,hpart,hkind⟩:=zik hhead
 rw [zmF] at hx
 have hcy:=λy (hy:Below w.heap.size w y)=>IH.out y x.yes _ (hY.below hy) (deep - 1) vars dom (by omega) hyo (by omega)
 have hcn:=λy (hy:Below w.heap.size w y)=>IH.out y x.no _ (hNo.below hy) (deep - 1) vars dom (by omega) hno (by omega)
 have hcp:=λy (hy:Below w.heap.size w y)=>zkX y x.kind x.reg x.var x.a x.b _ _ e (hA.below hy) (hB.below hy) vars dom
 rw [hpart] at hcp
 rw [show((deep - 1:Nat):Int)=(deep:Int) - 1 by omega] at hcy hcn
 unfold xY at hcp
 have x0:wr.cell? ⟨b,off+i*13,none⟩=some (.int .i64 x.kind):=zi zT.out _ _ (hcell 0 (by omega))
 have x1:wr.cell? ⟨b,off+i*13+1,none⟩=some (.int .i64 x.reg):=zi zT.out _ _ (hcell 1 (by omega))
 have x2:wr.cell? ⟨b,off+i*13+2,none⟩=some (.int .i64 x.var):=zi zT.out _ _ (hcell 2 (by omega))
 have x3:wr.cell? ⟨b,off+i*13+3,none⟩=some (.int .i64 x.a.kind):=zi zT.out _ _ (hcell 3 (by omega))
 have x4:wr.cell? ⟨b,off+i*13+4,none⟩=some (.int .i64 x.a.n):=zi zT.out _ _ (hcell 4 (by omega))
 have x5:wr.cell? ⟨b,off+i*13+5,none⟩=some (.int .u8 x.a.op):=zi zT.out _ _ (hcell 5 (by omega))
 have x6:wr.cell? ⟨b,off+i*13+6,none⟩=some (.slice aa x.a.kids.length ac):=zi zT.out _ _ (hcell 6 (by omega))
 have x7:wr.cell? ⟨b,off+i*13+7,none⟩=some (.int .i64 x.b.kind):=zi zT.out _ _ (hcell 7 (by omega))
 have x8:wr.cell? ⟨b,off+i*13+8,none⟩=some (.int .i64 x.b.n):=zi zT.out _ _ (hcell 8 (by omega))
 have x9:wr.cell? ⟨b,off+i*13+9,none⟩=some (.int .u8 x.b.op):=zi zT.out _ _ (hcell 9 (by omega))
 have x10:wr.cell? ⟨b,off+i*13+10,none⟩=some (.slice ba x.b.kids.length bc):=zi zT.out _ _ (hcell 10 (by omega))
 have wS:wr.cell? ⟨b,off+i*13+11,none⟩=some (.slice ya x.yes.length yc):=zi zT.out _ _ (hcell 11 (by omega))
 have x12:wr.cell? ⟨b,off+i*13+12,none⟩=some (.slice na x.no.length nc):=zi zT.out _ _ (hcell 12 (by omega))
 generalize hyN:yE x.yes=yN at hx hcy
 generalize hnN:yE x.no=nN at hx hcn
 generalize x.kind=q0 at x0 hcp hk1 hk2 hkind
 generalize x.reg=q1 at x1 hcp
 generalize x.var=q2 at x2 hcp
 generalize x.a.kind=q3 at x3 hcp
 generalize x.a.n=q4 at x4 hcp
 generalize x.a.op=q5 at x5 hcp
 generalize x.a.kids.length=q6 at x6 hcp
 generalize x.b.kind=q7 at x7 hcp
 generalize x.b.n=q8 at x8 hcp
 generalize x.b.op=q9 at x9 hcp
 generalize x.b.kids.length=q10 at x10 hcp
 generalize x.yes.length=q11 at wS hcy hkind
 generalize x.no.length=q12 at x12 hcn hkind
 have HX:Hid (NT (i+1)=NT i+(1+yN+nN)):=hx
 have hs1:NT i+(1+yN+nN)<=200:=by omega
 generalize NT i=ni at HX hs1 ⊢
 have HCY:=qh hcy
 have HCN:=qh hcn
 have HCP:=qh hcp
 clear hcell hA hB hY hNo hx hn1 hxo hhead hyo hno hpart hcy hcn hcp hyN hnN
 have z4o:(1:Int)<=(deep:Int):=by omega
 have z8s:(ni:Int)+1<=200:=by omega
 have b1:decide ((deep:Int)<1)=false:=by rw [decide_eq_false_iff_not];omega
 have b2:decide ((200:Int)<(ni:Int)+1)=false:=by rw [decide_eq_false_iff_not];omega
 have b3:decide (q0<1)=false:=by rw [decide_eq_false_iff_not];omega
 have b4:decide (11<q0)=false:=by rw [decide_eq_false_iff_not];omega
 have HK:=qh hkind
 clear hkind hd1
 go_upto_region 7 with fail
 clear x0 x1 x2 x3 x4 x5 x6 x7 x8 x9 x10 wS x12
 have hbx:=zG zT.out ((Below.refl wr.heap.size wr).alloc (Nat.le_refl _) (.cells #[.int .i64 q0, .int .i64 q1, .int .i64 q2, .int .i64 q3, .int .i64 q4, .int .u8 q5, .slice aa q6 ac, .int .i64 q7, .int .i64 q8, .int .u8 q9, .slice ba q10 bc, .slice ya q11 yc, .slice na q12 nc] 165))
 have hg:=yj wr (.cells #[.int .i64 q0, .int .i64 q1, .int .i64 q2, .int .i64 q3, .int .i64 q4, .int .u8 q5, .slice aa q6 ac, .int .i64 q7, .int .i64 q8, .int .u8 q9, .slice ba q10 bc, .slice ya q11 yc, .slice na q12 nc] 165)
 have yX:=qh hbx
 have yU:=qh hg
 clear hbx hg
 generalize World.alloc wr _=X at yX yU ⊢
 generalize wr.heap.size=gx at yU ⊢
 have y0:=ze yU.out 0
 have y1:=ze yU.out 1
 have y2:=ze yU.out 2
 have y3:=ze yU.out 3
 have y4:=ze yU.out 4
 have y5:=ze yU.out 5
 have y6:=ze yU.out 6
 have y7:=ze yU.out 7
 have y8:=ze yU.out 8
 have y9:=ze yU.out 9
 have y10:=ze yU.out 10
 go_upto_region 9 with(go_at_call 74;go_must(refine(HCP.out X yX.out).mono ?_);rintro en X1 ⟨rfl,hb⟩;(have HB1:=qh hb);clear hb y0 y1 y2 y3 y4 y5 y6 y7 y8 y9 y10)
 have z0o:=qh (zG yX.out HB1.out)
 have qm:=qh ((HB1.out.block _ (zx yU.out)).trans yU.out)
 have z0:X1.cell? ⟨gx,0,none⟩=some (.int .i64 q0):=ze qm.out 0
 have z5:X1.cell? ⟨gx,11,none⟩=some (.slice ya q11 yc):=ze qm.out 11
 have z6:X1.cell? ⟨gx,12,none⟩=some (.slice na q12 nc):=ze qm.out 12
 clear yX HB1 yU b1 b2 b3 b4
 go_cut [80] (λs80 w'=>s80= .bool false/\w'=X1)
 case first=>
  by_cases h10:q0=10
  ·subst h10
   go_wp2_with fail
   go_meet
   case rel=>exact⟨(by first|rfl|simp),rfl⟩
  have hk:=HK.out.resolve_left h10
  have zu8:(q0==10)=false:=by rw [beq_eq_false_iff_ne];exact h10
  have z5i:(q0 !=10)=true:=by rw [bne,zu8];rfl
  obtain⟨hno,hk⟩:=hk
  subst hno
  clear h10
  by_cases h11:q0=11
  ·subst h11
   clear zu8 z5i
   go_wp2_with fail
   go_meet
   case rel=>exact⟨(by first|rfl|simp),rfl⟩
  have z0p:(q0==11)=false:=by rw [beq_eq_false_iff_ne];exact h11
  have z9i:(q0 !=11)=true:=by rw [bne,z0p];rfl
  have hy0:=hk.resolve_left h11
  subst hy0
  clear h11 hk zu8 z0p
  go_wp2_with fail
  go_meet
  case rel=>exact⟨(by first|rfl|simp),rfl⟩
 case rest=>
 obtain⟨rfl,hwv⟩:=hcut
 obtain rfl:X1=wc:=hwv.symm
 clear z0
 go_upto_region 12 with(go_at_call 102;go_must(refine(HCY.out X1 z0o.out).mono ?_);rintro en X2 ⟨rfl,hb⟩;(have HB2:=qh hb);(have bZ:=qh (zG z0o.out hb));clear hb;(have z6':=zi HB2.out _ _ z6);clear z5 z6)
 go_upto_region 13 with(go_at_call 102;go_must(refine(HCN.out X2 bZ.out).mono ?_);rintro en X3 ⟨rfl,hb⟩;(have z5j:=qh (zG bZ.out hb));clear hb z6')
 go_wp2_with fail
 go_roundg (n - (i+1))
 case measure=>rw [HG.out];omega
 case rel=>exact⟨i+1,by omega,rfl,zf8 (by rw [HX.out];omega),by simp,z5j.out⟩
theorem zrX (e d:Nat):zfp e d:=by
 induction d with
 |zero=>intro w l v hl;exact hl.elim
 |succ d ih=>exact zu7 e d ih
def zlS (_:World) (x:List UInt8) (cs:List Value):Prop:=cs= [.string ⟨x.toArray⟩]
theorem zlS.stays:jO zlS:=λ_ _ _ _ h _=>h
abbrev zd0:=zh zlS 1
theorem zd0.part {w:World} {a:Option Addr} {n cap:Nat} {l:List (List UInt8)} (h:zd0 w (.slice a n cap) l) (j:Nat) (hj:j<l.length):∃b off,a=some ⟨b,off,none⟩/\b<w.heap.size/\w.cell? ⟨b,off+j,none⟩=some (.string ⟨(l.getD j []).toArray⟩):=by
 obtain⟨b,off,cs,h1,h2,h3,h4,h5⟩:=zh.part h j hj
 have h5:cs= [.string ⟨(l.getD j default).toArray⟩] :=h5
 subst h5
 have:=h4 0 (by omega)
 rw [Nat.mul_one,Nat.add_zero] at this
 exact⟨b,off,h1,h2,this⟩
def zi9 (e d:Nat) (w:World) (l:List zL) (cs:List Value):Prop:=∃v,cs= [v] /\yC e d w l v
theorem zi9.stays (e d:Nat):jO (zi9 e d):=λ_ _ _ _ ⟨v,h,h1⟩ hb=>⟨v,h,h1.below hb⟩
abbrev zfm (e d:Nat):=zh (zi9 e d) 1
theorem zfm.part {e d:Nat} {w:World} {a:Option Addr} {n cap:Nat} {l:List (List zL)} (h:zfm e d w (.slice a n cap) l) (j:Nat) (hj:j<l.length):∃b off ka kc,a=some ⟨b,off,none⟩/\b<w.heap.size/\w.cell? ⟨b,off+j,none⟩=some (.slice ka (l.getD j []).length kc)/\yC e d w (l.getD j []) (.slice ka (l.getD j []).length kc):=by
 obtain⟨b,off,cs,h1,h2,h3,h4,v,h5,h6⟩:=zh.part h j hj
 subst h5
 obtain⟨ka,kc,rfl, -⟩:=h6.slice
 have:=h4 0 (by omega)
 rw [Nat.mul_one,Nat.add_zero] at this
 exact⟨b,off,ka,kc,h1,h2,this,h6⟩
def zfz (p:zbN) (vv tv:Value):Value:= .agg #[vv, .int .i64 p.domain,tv]
structure zd1 (e d:Nat) (w:World) (p:zbN) (vv tv:Value):Prop where
 vars:zd0 w vv p.vars
 threads:zfm e d w tv p.threads
theorem zd1.below {e d:Nat} {w w':World} {p:zbN} {vv tv:Value} (h:zd1 e d w p vv tv) (hb:Below w.heap.size w w'):zd1 e d w' p vv tv:=⟨zh.below zlS.stays h.vars hb,zh.below (zi9.stays e d) h.threads hb⟩
theorem z0q {n i:Nat} (hn:n<=3) (hi:i<n):∃b:UInt8,(xyz.take n).getD i [] = [b] /\zf7 b.toNat=true/\b.toNat=120+i:=by
 have hi3:i=0\/i=1\/i=2:=by omega
 have e:(xyz.take n).getD i [] =xyz.getD i [] :=by simp only [List.getD_eq_getElem?_getD,List.getElem?_take_of_lt hi]
 rw [e]
 rcases hi3 with rfl|rfl|rfl
 ·exact⟨120,rfl,rfl,rfl⟩
 ·exact⟨121,rfl,rfl,rfl⟩
 exact⟨122,rfl,rfl,rfl⟩
theorem z0r {a b:UInt8} (h:a≠b):((⟨#[a]⟩:ByteArray).toList==(⟨#[b]⟩:ByteArray).toList)=false:=by
 rw [beq_eq_false_iff_ne,ByteArray.toList_eq,ByteArray.toList_eq]
 intro e
 exact h (by simpa using e)
theorem zu9 {l:List Nat} {i:Nat} (hi:i<l.length):(l.take (i+1)).sum=(l.take i).sum+l.getD i 0:=by
 rw [List.take_succ_eq_append_getElem hi,List.sum_append,List.getD_eq_getElem?_getD,List.getElem?_eq_getElem hi];simp
theorem z0s (l:List Nat) (i:Nat):(l.take i).sum<=l.sum:=by
 have:(l.take i).sum+(l.drop i).sum=l.sum:=by rw [<-List.sum_append,List.take_append_drop]
 omega
theorem zjO (e d:Nat) (w:World) (p:zbN) (hp:zf2 p) (vv tv:Value) (h:zd1 e d w p vv tv):Calls Tryz.prog 75 #[zfz p vv tv] w λe w'=>e= .returned (.bool true)/\Below w.heap.size w w':=by
 obtain⟨va,vc,rfl, -⟩:=zh.slice h.vars
 obtain⟨ta,tc,rfl, -⟩:=zh.slice h.threads
 obtain⟨vn,v1,v2,hv⟩:=hp.vars
 have hvl:p.vars.length=vn:=by rw [hv,List.length_take];simp [xyz];omega
 obtain⟨d1,d2⟩:=hp.dom
 obtain⟨m1,m2⟩:=hp.many
 obtain⟨tn,htn⟩:∃n,n=p.threads.length:=⟨_,rfl⟩
 have hxy:=λi (hi:i<vn)=>z0q v2 hi
 rw [<-hv] at hxy
 have hok:∀i,i<tn->xA vn p.domain (p.threads.getD i []) 20=true/\yE (p.threads.getD i [])<=200:=λi hi=>by
  have hm:p.threads.getD i [] ∈p.threads:=qR (by rw [<-htn];exact hi)
  have:=hp.ok _ hm
  rw [hvl] at this
  exact⟨this,hp.one hm⟩
 obtain⟨ST,hST⟩:∃ST:Nat->Nat,ST=λi=>((p.threads.map yE).take i).sum:=⟨_,rfl⟩
 have hst:∀i,i<tn->ST (i+1)=ST i+yE (p.threads.getD i []):=λi hi=>by
  simp only [hST]
  have:=zu9 (l:=p.threads.map yE) (i:=i) (by simp [<-htn];exact hi)
  rw [this]
  simp [List.getD_eq_getElem?_getD,List.getElem?_eq_getElem (htn ▸ hi:i<p.threads.length)]
 have z0t:∀i,ST i<=200:=λi=>by rw [hST];exact Nat.le_trans (z0s _ _) hp.all
 have hs0:ST 0=0:=by rw [hST];rfl
 have hvars:=h.vars
 have zee:=h.threads
 rw [<-hvl] at hxy
 unfold zfz
 generalize p.domain=dom at d1 d2 hok ⊢
 rw [<-htn] at m1 m2
 generalize p.vars=L at hvl hvars hxy ⊢
 generalize p.threads=T at htn zee hok hst ⊢
 rw [hvl] at hvars hxy ⊢
 rw [<-htn] at zee ⊢
 have hB:=(Below.refl w.heap.size w).alloc (Nat.le_refl _) (.cells #[.slice va vn vc, .int .i64 dom, .slice ta tn tc] 92)
 have H1:=qh (yj w (.cells #[.slice va vn vc, .int .i64 dom, .slice ta tn tc] 92))
 have zf5:=qh (zh.below zlS.stays hvars hB)
 have ziz:=qh (zh.below (zi9.stays e d) zee hB)
 have HB:=qh hB
 have HVL:=qh hvl
 have HTN:=qh htn
 have HXY:=qh hxy
 have jv:=qh hok
 have HST:=qh hst
 have z5k:=qh z0t
 have HS0:=qh hs0
 clear hvars zee hB hvl htn hxy hok hst z0t hs0 h hp hv hST
 have b1:decide ((vn:Int)<1)=false:=by rw [decide_eq_false_iff_not];omega
 have b2:decide ((4:Int)<(vn:Int))=false:=by rw [decide_eq_false_iff_not];omega
 have b3:decide (dom<2)=false:=by rw [decide_eq_false_iff_not];omega
 have b4:decide (16<dom)=false:=by rw [decide_eq_false_iff_not];omega
 have b5:decide ((tn:Int)<1)=false:=by rw [decide_eq_false_iff_not];omega
 have b6:decide ((4:Int)<(tn:Int))=false:=by rw [decide_eq_false_iff_not];omega
 go_enter Tryz.func75,Tryz.ntmps75
 go_upto_region 1 with fail
 generalize World.alloc w _=W at HB H1 zf5 ziz ⊢
 generalize w.heap.size=gx at H1 ⊢
 have z5l:Hid (∀x,Below W.heap.size W x->Below w.heap.size w x):=λx hx=>HB.out.trans (hx.mono HB.out.size)
 have HC:Hid (∀x,Below W.heap.size W x->x.cell? ⟨gx,0,none⟩=some (.slice va vn vc)/\x.cell? ⟨gx,1,none⟩=some (.int .i64 dom)/\x.cell? ⟨gx,2,none⟩=some (.slice ta tn tc)):=λx hx=>⟨zi hx _ _ (ze H1.out 0),zi hx _ _ (ze H1.out 1),zi hx _ _ (ze H1.out 2)⟩
 obtain⟨c0,c1,c2⟩:=HC.out W (Below.refl _ _)
 go_wp2_with fail
 clear c0 c1 c2 b1 b2 b3 b4 b5 b6
 go_loopg [3] vn (λgg s3 wr=>∃i:Nat,i<=vn/\Hid (gg=vn - i)/\s3= .int .i64 i/\Hid (Below W.heap.size W wr))
 case atStart=>exact⟨0,Nat.zero_le _,rfl,rfl,Below.refl _ _⟩
 case round=>
 obtain⟨i,hi,HG,rfl,zT⟩:=hrel
 obtain⟨c0,c1,c2⟩:=HC.out wr zT.out
 by_cases hlt:i<vn
 ·have qN:(i:Int)<(vn:Int):=by omega
  obtain⟨b,off,yh, -,x0⟩:=zd0.part zf5.out i (by rw [HVL.out];exact hlt)
  subst yh
  obtain⟨u,hu1,hu2,hu3⟩:=HXY.out i hlt
  rw [hu1] at x0
  have hname:Calls Tryz.prog 101 #[.string ⟨#[u]⟩] wr λe w'=>e= .returned (.bool true)/\Below wr.heap.size wr w':=zu5 wr u hu2
  have zuA:∀v:UInt8,v≠u->((⟨#[v]⟩:ByteArray).toList==(⟨#[u]⟩:ByteArray).toList)=false:=λv hv=>z0r hv
  have x0':W.cell? ⟨b,off+i,none⟩=some (.string ⟨#[u]⟩):=x0
  generalize (⟨#[u]⟩:ByteArray)=su at x0' hname zuA
  have HX0:=qh x0'
  have HU3:=qh hu3
  have z5m:=qh zuA
  have y0:wr.cell? ⟨b,off+i,none⟩=some (.string su):=zi zT.out _ _ x0'
  have zws:=qh hname
  clear hu1 hu2 hu3 x0 x0' hname zuA
  go_upto_region 8 with(go_at_call 101;go_must(refine zws.out.mono ?_);rintro en X1 ⟨rfl,hb⟩;(have HB1:=qh (zG zT.out hb));clear hb y0 c0 c1 c2 zws)
  go_wp2_with fail
  clear zT
  go_loopg [4] i (λgg s4 wr=>∃k:Nat,k<=i/\Hid (gg=i - k)/\s4= .int .i64 k/\Hid (Below W.heap.size W wr))
  case atStart=>exact⟨0,Nat.zero_le _,rfl,rfl,HB1.out⟩
  case round=>
  obtain⟨k,hk,HG2,rfl,zlT⟩:=hrel
  by_cases hlk:k<i
  rotate_left
  ·obtain rfl:i=k:=by omega
   go_wp2_with fail
   go_roundg (vn - (i+1))
   case measure=>rw [HG.out];omega
   case rel=>exact⟨i+1,by omega,rfl,by simp,zlT.out⟩
  have z4D:(k:Int)<(i:Int):=by omega
  obtain⟨b',off',yh, -,x1⟩:=zd0.part zf5.out k (by rw [HVL.out];omega)
  obtain⟨rfl,rfl⟩:b=b'/\off=off':=by simpa using yh
  obtain⟨v,hv1,hv2,hv3⟩:=HXY.out k (by omega)
  rw [hv1] at x1
  have hne:v≠u:=λe=>by have:=HU3.out;rw [e] at hv3;omega
  have hnl:=z5m.out v hne
  obtain⟨c0,c1,c2⟩:=HC.out wr zlT.out
  have y0:wr.cell? ⟨b,off+i,none⟩=some (.string su):=zi zlT.out _ _ HX0.out
  have y1:wr.cell? ⟨b,off+k,none⟩=some (.string ⟨#[v]⟩):=zi zlT.out _ _ x1
  clear hv1 hv2 hv3 x1 hne
  generalize (⟨#[v]⟩:ByteArray)=sv at y1 hnl
  go_upto_region 11 with fail
  go_quiet (fail)
  go_wp2_with fail
  go_roundg (i - (k+1))
  case measure=>rw [HG2.out];omega
  case rel=>exact⟨k+1,by omega,rfl,by simp,yg zlT.out _⟩
 obtain rfl:vn=i:=by omega
 go_wp2_with fail
 clear c0 c1 c2
 go_loopg [5,6] tn (λgg s5 s6 wr=>∃i:Nat,i<=tn/\Hid (gg=tn - i)/\s5= .int .i64 (ST i)/\s6= .int .i64 i/\Hid (Below W.heap.size W wr))
 case atStart=>exact⟨0,Nat.zero_le _,rfl,zf8 (by rw [HS0.out];rfl),rfl,zT.out⟩
 case round=>
 obtain⟨i,hi,HG,rfl,rfl,zT⟩:=hrel
 obtain⟨c0,c1,c2⟩:=HC.out wr zT.out
 by_cases hlt:i<tn
 rotate_left
 ·obtain rfl:tn=i:=by omega
  go_wp2_with fail
  go_ret
  exact⟨rfl,z5l.out _ zT.out⟩
 have qN:(i:Int)<(tn:Int):=by omega
 obtain⟨b,off,ka,kc,yh, -,x0,hst⟩:=zfm.part ziz.out i (by rw [<-HTN.out];exact hlt)
 subst yh
 obtain⟨hok,zuB⟩:=jv.out i hlt
 have hs1:=HST.out i hlt
 have hs2:=z5k.out (i+1)
 generalize T.getD i [] =l at x0 hst hok zuB hs1
 have hcl:=λy (hy:Below W.heap.size W y)=>zrX e d y l _ (hst.below hy) 20 vn dom (by omega) hok zuB
 have y0:=zi zT.out _ _ x0
 generalize l.length=ln at y0 hcl
 have qD:Hid (ST (i+1)=ST i+yE l):=hs1
 have hsum:ST i+yE l<=200:=by omega
 generalize yE l=sn at hcl qD hsum
 generalize ST i=si at qD hsum ⊢
 have HCL:=qh hcl
 clear hst hok zuB hs1 hs2 hcl x0
 go_upto_region 17 with fail
 have CC:Hid (∀x,Below wr.heap.size wr x->x.cell? ⟨gx,0,none⟩=some (.slice va vn vc)/\x.cell? ⟨gx,1,none⟩=some (.int .i64 dom)/\x.cell? ⟨gx,2,none⟩=some (.slice (some ⟨b,off,none⟩) tn tc)/\x.cell? ⟨b,off+i,none⟩=some (.slice ka ln kc)):=λx hx=>⟨zi hx _ _ c0,zi hx _ _ c1,zi hx _ _ c2,zi hx _ _ y0⟩
 clear y0 c0 c1 c2
 refine vV (S:=λx=>Below wr.heap.size wr x) (Below.refl _ _).drew (λhH=> ?_)
 refine zu 0 CC.out ?_
 refine zu 1 CC.out ?_
 refine zu 2 CC.out ?_
 refine zu 3 CC.out ?_
 refine zu 4 CC.out ?_
 refine zu 5 CC.out ?_
 refine zu 6 CC.out ?_
 refine zu 7 CC.out ?_
 refine zu 8 CC.out ?_
 refine zu 9 CC.out ?_
 refine yA 10 rfl (λK hK=> ?_)
 go_simp
 refine(HCL.out wr.drew (zG zT.out hH)).mono ?_
 rintro en z5n ⟨rfl,hb⟩
 have zpq:Below wr.heap.size wr z5n:=zG hH hb
 refine hK.out _ _ zpq (λ_=> ?_)
 clear hK K hb hH
 refine zu 11 CC.out ?_
 refine zu 12 CC.out ?_
 refine zu 13 CC.out ?_
 refine zu 14 CC.out ?_
 refine zu 15 CC.out ?_
 refine xQ ?_
 have jo:=qh (zG zT.out zpq)
 clear zpq CC
 have z8t:(si:Int)+(sn:Int)<=200:=by omega
 have b1:decide ((200:Int)<(si:Int)+(sn:Int))=false:=by rw [decide_eq_false_iff_not];omega
 go_wp2_with fail
 go_roundg (tn - (i+1))
 case measure=>rw [HG.out];omega
 case rel=>exact⟨i+1,by omega,rfl,zf8 (by rw [qD.out];omega),by simp,jo.out⟩
