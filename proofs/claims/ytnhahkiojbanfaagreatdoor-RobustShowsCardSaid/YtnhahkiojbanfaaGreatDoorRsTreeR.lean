/- Steps. -/
import Derived.Test.YtnhahkiojbanfaaGreatDoorRsBlocks
set_option linter.all false
namespace Go.Proofs.YtnhahkiojbanfaaGreatDoor
open Go.RowKit
set_option maxRecDepth 100000
set_option maxHeartbeats 16000000
def zgj (c:Int):Bool:=decide (97<=c) && decide (c<=122)
theorem zpG (w:World) (c:Int):Calls Tryz.prog 89 #[.int .u8 c] w λe w'=>e= .returned (.bool (zgj c))/\Below w.heap.size w w':=by
 unfold zgj
 by_cases h1:97<=c
 ·go_enter Tryz.func89,Tryz.ntmps89
  go_wp2
  go_ret
  exact⟨by simp [h1],Below.refl _ _⟩
 go_enter Tryz.func89,Tryz.ntmps89
 go_wp2
 go_ret
 exact⟨by simp;omega,Below.refl _ _⟩
def zjx (b:UInt8):Value:= .string ⟨#[b]⟩
theorem zmc (w:World) (b:UInt8):Calls Tryz.prog 91 #[zjx b] w λe w'=>e= .returned (.int .i64 (-1))/\Below w.heap.size w w':=by
 unfold zjx
 have hsz:((⟨#[b]⟩:ByteArray)).size=1:=rfl
 generalize (⟨#[b]⟩:ByteArray)=s at hsz ⊢
 have hszI:((s.size:Int)==2)=false:=by rw [hsz];rfl
 go_enter Tryz.func91,Tryz.ntmps91
 go_wp2
 go_ret
 exact⟨rfl,Below.refl _ _⟩
def z6d:List ByteArray:= [⟨#[118,97,114,115]⟩,⟨#[100,111,109,97,105,110]⟩,⟨#[116,104,114,101,97,100]⟩,⟨#[102,101,110,99,101]⟩,⟨#[115,102,101,110,99,101]⟩,⟨#[99,97,115]⟩,⟨#[108,111,99,107]⟩,⟨#[117,110,108,111,99,107]⟩,⟨#[97,115,115,101,114,116]⟩,⟨#[105,102]⟩,⟨#[101,108,115,101]⟩,⟨#[119,104,105,108,101]⟩]
theorem z0i (i:Nat) (hi:i<12) (s:ByteArray) (hs:s.size=1):∃k:ByteArray,(z6d.map Value.string)[i]? =some (.string k)/\k≠s:=by
 have hne:∀k:ByteArray,k.size≠1->k≠s:=λk hk e=>by rw [e] at hk;exact hk hs
 match i,hi with
 |0,_=>exact⟨_,rfl,hne _ (by decide)⟩
 |1,_=>exact⟨_,rfl,hne _ (by decide)⟩
 |2,_=>exact⟨_,rfl,hne _ (by decide)⟩
 |3,_=>exact⟨_,rfl,hne _ (by decide)⟩
 |4,_=>exact⟨_,rfl,hne _ (by decide)⟩
 |5,_=>exact⟨_,rfl,hne _ (by decide)⟩
 |6,_=>exact⟨_,rfl,hne _ (by decide)⟩
 |7,_=>exact⟨_,rfl,hne _ (by decide)⟩
 |8,_=>exact⟨_,rfl,hne _ (by decide)⟩
 |9,_=>exact⟨_,rfl,hne _ (by decide)⟩
 |10,_=>exact⟨_,rfl,hne _ (by decide)⟩
 |11,_=>exact⟨_,rfl,hne _ (by decide)⟩
theorem zye (w:World) (b:UInt8):Calls Tryz.prog 90 #[zjx b] w λe w'=>e= .returned (.bool false)/\Below w.heap.size w w':=by
 unfold zjx
 have hsz:((⟨#[b]⟩:ByteArray)).size=1:=rfl
 generalize (⟨#[b]⟩:ByteArray)=s at hsz ⊢
 have HB:=qh ((Below.refl w.heap.size w).alloc (Nat.le_refl _) (.cells #[.string ⟨#[118,97,114,115]⟩, .string ⟨#[100,111,109,97,105,110]⟩, .string ⟨#[116,104,114,101,97,100]⟩, .string ⟨#[102,101,110,99,101]⟩, .string ⟨#[115,102,101,110,99,101]⟩, .string ⟨#[99,97,115]⟩, .string ⟨#[108,111,99,107]⟩, .string ⟨#[117,110,108,111,99,107]⟩, .string ⟨#[97,115,115,101,114,116]⟩, .string ⟨#[105,102]⟩, .string ⟨#[101,108,115,101]⟩, .string ⟨#[119,104,105,108,101]⟩] 9))
 have HG:=qh (yj w (.cells #[.string ⟨#[118,97,114,115]⟩, .string ⟨#[100,111,109,97,105,110]⟩, .string ⟨#[116,104,114,101,97,100]⟩, .string ⟨#[102,101,110,99,101]⟩, .string ⟨#[115,102,101,110,99,101]⟩, .string ⟨#[99,97,115]⟩, .string ⟨#[108,111,99,107]⟩, .string ⟨#[117,110,108,111,99,107]⟩, .string ⟨#[97,115,115,101,114,116]⟩, .string ⟨#[105,102]⟩, .string ⟨#[101,108,115,101]⟩, .string ⟨#[119,104,105,108,101]⟩] 9))
 go_enter Tryz.func90,Tryz.ntmps90
 go_upto_region 2 with fail
 generalize World.alloc w _=W at HB HG ⊢
 generalize w.heap.size=g at HG ⊢
 go_wp2_with fail
 go_loopg [4] 12 (λgg s4 wr=>∃i:Nat,i<=12/\Hid (gg=12 - i)/\s4= .int .i64 i/\wr=W)
 case atStart=>exact⟨0,by omega,rfl,rfl,rfl⟩
 case round=>
 obtain⟨i,hi,HGG,rfl,rfl⟩:=hrel
 by_cases hlt:i<12
 rotate_left
 ·obtain rfl:i=12:=by omega
  go_wp2_with fail
  go_ret
  exact⟨rfl,HB.out⟩
 have qN:(i:Int)<12:=by omega
 obtain⟨k,hk,hne⟩:=z0i i hlt s hsz
 have x0:wr.cell? ⟨g,i,none⟩=some (.string k):=by rw [ze HG.out,List.getElem?_toArray];exact hk
 have hnl:(k.toList==s.toList)=false:=by
  rw [ByteArray.toList_eq,ByteArray.toList_eq,beq_eq_false_iff_ne]
  intro e
  apply hne
  obtain⟨kd⟩:=k
  obtain⟨sd⟩:=s
  have:kd=sd:=Array.toList_inj.1 e
  rw [this]
 go_wp2_with fail
 go_roundg (12 - (i+1))
 case measure=>rw [HGG.out];omega
 case rel=>exact⟨i+1,by omega,rfl,by simp,rfl⟩
theorem zuD (w:World) (b:UInt8) (hb:zgj b.toNat=true):Calls Tryz.prog 72 #[zjx b] w λe w'=>e= .returned (.bool true)/\Below w.heap.size w w':=by
 have hk:=λy=>zye y b
 have hr:=λy=>zmc y b
 unfold zjx at hk hr ⊢
 have hsz:((⟨#[b]⟩:ByteArray)).size=1:=rfl
 have hget:∀h:0<((⟨#[b]⟩:ByteArray)).size,((⟨#[b]⟩:ByteArray))[0]'h=b:=λ_=>rfl
 have hne:((⟨#[b]⟩:ByteArray)).toList.isEmpty=false:=by rw [ByteArray.toList_eq];rfl
 generalize (⟨#[b]⟩:ByteArray)=s at hsz hget hk hr hne ⊢
 have hlet:∀(y:World) (h:0<s.size),Calls Tryz.prog 89 #[.int .u8 ((s[0]'h).toNat:Int)] y λe w'=>e= .returned (.bool true)/\Below y.heap.size y w':=λy h=>by
  have:=zpG y (b.toNat:Int)
  rw [hb] at this
  rw [hget h];exact this
 have HK:=qh hk
 have HR:=qh hr
 have z0j:=qh hlet
 clear hk hr hlet hget
 have hnl:(s.toList==([] :List UInt8))=false:=by rw [beq_eq_false_iff_ne];intro e;rw [e] at hne;cases hne
 go_enter Tryz.func72,Tryz.ntmps72
 go_wp2_with(first|(go_at_call 91;go_must(refine(HR.out W2).mono ?_);rintro e W3 ⟨rfl,hb3⟩)|(go_at_call 90;go_must(refine(HK.out W1).mono ?_);rintro e W2 ⟨rfl,hb2⟩)|(go_at_call 89;go_must(refine(z0j.out w _).mono ?_);rintro e W1 ⟨rfl,hb1⟩))
 have HB3:=qh (zH (zH hb1 hb2) hb3)
 clear hb1 hb2 hb3
 go_loopg [3] 1 (λgg s3 wr=>∃i:Nat,i<=1/\Hid (gg=1 - i)/\s3= .int .i64 i/\Hid (Below w.heap.size w wr))
 case atStart=>exact⟨0,by omega,rfl,rfl,HB3.out⟩
 case round=>
 obtain⟨i,hi,HGG,rfl,zL⟩:=hrel
 by_cases hlt:i<1
 ·obtain rfl:i=0:=by omega
  go_wp2_with(go_at_call 89;go_must(refine(z0j.out wr _).mono ?_);rintro e W4 ⟨rfl,hb4⟩;(have vF:=qh (zH zL.out hb4));clear hb4)
  go_roundg 0
  case measure=>rw [HGG.out];omega
  case rel=>exact⟨1,by omega,rfl,by simp,vF.out⟩
 obtain rfl:i=1:=by omega
 go_wp2_with fail
 go_ret
 exact⟨rfl,zL.out⟩
mutual
def zax:zN->Nat
 | .mk _ _ _ _ _ y n=>1+yI y+yI n
def yI:List zN->Nat
 | [] =>0
 |x::l=>zax x+yI l
end
def zfB (vars dom k r v:Int) (a b:zO) (y n:List zN):Bool:=decide (1<=k) && decide (k<=11) && qH k r v a b vars dom && (decide (k=10)||decide (n.length=0) && (decide (k=11)||decide (y.length=0)))
mutual
def uP (vars dom:Int):zN->Nat->Bool
 | .mk k r v a b y n,d=>decide (1<=d) && zfB vars dom k r v a b y n && xB vars dom y (d - 1) && xB vars dom n (d - 1)
def xB (vars dom:Int):List zN->Nat->Bool
 | [],_=>true
 |x::l,d=>uP vars dom x d && xB vars dom l d
end
theorem zcJ {vars dom:Int} {x:zN} {d:Nat} (h:uP vars dom x d=true):1<=d/\zfB vars dom x.kind x.reg x.var x.a x.b x.yes x.no=true/\xB vars dom x.yes (d - 1)=true/\xB vars dom x.no (d - 1)=true:=by
 obtain⟨k,r,v,a,b,y,n⟩:=x
 unfold uP at h
 simp only [Bool.and_eq_true,decide_eq_true_eq] at h
 exact⟨h.1.1.1,h.1.1.2,h.1.2,h.2⟩
theorem zns (x:zN):zax x=1+yI x.yes+yI x.no:=by
 obtain⟨k,r,v,a,b,y,n⟩:=x
 rw [zax];rfl
theorem zi4 {vars dom k r v:Int} {a b:zO} {y n:List zN} (h:zfB vars dom k r v a b y n=true):1<=k/\k<=11/\qH k r v a b vars dom=true/\(k=10\/n.length=0/\(k=11\/y.length=0)):=by
 unfold zfB at h
 simp only [Bool.and_eq_true,Bool.or_eq_true,decide_eq_true_eq] at h
 exact⟨h.1.1.1,h.1.1.2,h.1.2,h.2⟩
theorem zby {vars dom:Int} {l:List zN} {d:Nat} :xB vars dom l d=true↔∀x∈l,uP vars dom x d=true:=by
 induction l with
 |nil=>simp [xB]
 |cons x l ih=>rw [xB,Bool.and_eq_true,ih];simp
theorem zez (l r:List zN):yI (l++r)=yI l+yI r:=by
 induction l with
 |nil=>simp [yI]
 |cons x l ih=>rw [List.cons_append,yI,yI,ih];omega
theorem znt {l:List zN} {i:Nat} (hi:i<l.length):yI (l.take (i+1))=yI (l.take i)+zax (l.getD i default):=by
 rw [List.take_succ_eq_append_getElem hi,zez,List.getD_eq_getElem?_getD,List.getElem?_eq_getElem hi]
 simp [yI]
theorem zrZ (l:List zN) (i:Nat):yI (l.take i)<=yI l:=by
 have:=zez (l.take i) (l.drop i)
 rw [List.take_append_drop] at this
 omega
theorem zmd {vars dom:Int} :∀(d:Nat) (l:List zN),xB vars dom l d=true->xB vars dom l (d+1)=true:=by
 intro d
 induction d with
 |zero=>
  intro l h
  cases l with
  |nil=>rw [xB]
  |cons x l=>
  rw [zby] at h
  have:=(zcJ (h x (by simp))).1
  omega
 |succ d ih=>
 intro l h
 rw [zby] at h ⊢
 intro x hx
 have h2:=h x hx
 obtain⟨k,r,v,a,b,y,n⟩:=x
 unfold uP at h2 ⊢
 simp only [Bool.and_eq_true,decide_eq_true_eq] at h2 ⊢
 exact⟨⟨⟨by omega,h2.1.1.2⟩,ih y h2.1.2⟩,ih n h2.2⟩
theorem zpa {vars dom:Int} {d e:Nat} {l:List zN} (h:xB vars dom l d=true) (hl:d<=e):xB vars dom l e=true:=by
 induction hl with
 |refl=>exact h
 |step _ ih=>exact zmd _ _ ih
def pU (vars dom:Int) (yJ:Int) (x:zS):Bool:=
 if x.op=12 then qM vars dom 9 yJ x else if x.op=13 then qM vars dom 4 yJ x else if x.op=10\/x.op=11 then false else qM vars dom x.op 0 x
theorem zi5 {vars dom k a b:Int} {x:zS} (h:qM vars dom k a x=true) (hab:a<=b):qM vars dom k b x=true:=by
 unfold qM at h ⊢
 simp only [Bool.and_eq_true,decide_eq_true_eq] at h ⊢
 exact⟨⟨h.1.1,by omega⟩,h.2⟩
theorem zme {vars dom a b:Int} {x:zS} (h:pU vars dom a x=true) (hab:a<=b):pU vars dom b x=true:=by
 unfold pU at h ⊢
 split
 ·rename_i h1;rw [if_pos h1] at h;exact zi5 h hab
 rename_i h1;rw [if_neg h1] at h
 split
 ·rename_i h2;rw [if_pos h2] at h;exact zi5 h hab
 rename_i h2;rw [if_neg h2] at h;exact h
theorem zfC {vars dom:Int} {k r v:Int} {a b:zO} (hk:k=10\/k=11) (h:qH k r v a b vars dom=true) {yJ b_:Int} (h0:0<=yJ) (h1:yJ<=b_):pU vars dom b_ (vZ a yJ)=true:=by
 have hp:qH 9 0 0 a default vars dom=true:=by
  have e1:bC 9 0=true:=by decide
  have e2:kC 9 0 vars=true:=by simp [kC,wu]
  have e3:wW 9 a dom=true:=by
   unfold qH at h
   simp only [Bool.and_eq_true] at h
   have:=h.1.2
   rcases hk with rfl|rfl
   ·simpa [wW,gT] using this
   simpa [wW,gT] using this
  have e4:bg 9 default dom=true:=by rfl
  simp [qH,e1,e2,e3,e4]
 show qM vars dom 9 b_ (vZ a yJ)=true
 unfold qM vZ
 simp only [Bool.and_eq_true,decide_eq_true_eq]
 exact⟨⟨⟨by omega,h0⟩,h1⟩,hp⟩
theorem zo3 {vars dom:Int} {yJ b_:Int} (h0:0<=yJ) (h1:yJ<=b_):pU vars dom b_ (pO yJ)=true:=by
 have hp:qH 4 0 0 default default vars dom=true:=by
  have e2:kC 4 0 vars=true:=by simp [kC,wu]
  have e1:bC 4 0=true:=by decide
  have e3:wW 4 default dom=true:=by rfl
  have e4:bg 4 default dom=true:=by rfl
  simp [qH,e1,e2,e3,e4]
 show qM vars dom 4 b_ (pO yJ)=true
 unfold qM pO
 simp only [Bool.and_eq_true,decide_eq_true_eq]
 exact⟨⟨⟨by omega,h0⟩,h1⟩,hp⟩
theorem zuE {vars dom:Int} {k r v:Int} {a b:zO} (h1:1<=k) (h2:k<=11) (hk:¬k=10) (hk2:¬k=11) (h:qH k r v a b vars dom=true) {b_:Int} (_hb:0<=b_):pU vars dom b_ ⟨k,r,v,a,b,0⟩=true:=by
 unfold pU
 rw [if_neg (by show¬k=12;omega),if_neg (by show¬k=13;omega),if_neg (by show¬(k=10\/k=11);omega)]
 unfold qM
 simp only [Bool.and_eq_true,decide_eq_true_eq]
 exact⟨⟨⟨⟨h1,by omega⟩,by omega⟩,by omega⟩,h⟩
def zkO (vars dom:Int) (at_:Int) (n:Nat) (l:List zS):Prop:=l.length<=3*n/\∀x∈l,pU vars dom (at_+l.length) x=true
theorem zkO.weak {vars dom at_:Int} {n:Nat} {l:List zS} (h:zkO vars dom at_ n l) {b:Int} (hb:at_+l.length<=b):∀x∈l,pU vars dom b x=true:=λx hx=>zme (h.2 x hx) hb
mutual
theorem zpH (vars dom:Int):∀(x:zN) (d:Nat) (at_:Int),0<=at_->uP vars dom x d=true->zkO vars dom at_ (zax x) (jm x at_)
 | .mk k r v a b y n,d,at_,h0,h=>by
  have hp:=zcJ h
  simp only [zN.kind,zN.reg,zN.var,zN.a,zN.b,zN.yes,zN.no] at hp
  obtain⟨h1,h2,h3,h4⟩:=hp
  obtain⟨k1,k2,hpart,hkind⟩:=zi4 h2
  have hY:=zat vars dom y (d - 1) (at_+1) (by omega) h3
  have hN:=zat vars dom n (d - 1) (at_+2+(zU y (at_+1)).length) (by omega) h4
  rw [zax]
  unfold jm
  split
  ·rename_i hk
   split
   ·refine⟨by have:=hY.1;simp only [List.length_cons];omega,λx hx=> ?_⟩
    rcases List.mem_cons.1 hx with rfl|hx
    ·exact zfC (.inl hk) hpart (by omega) (by simp only [List.length_cons];omega)
    exact hY.weak (by simp only [List.length_cons];omega) x hx
   refine⟨by have:=hY.1;have:=hN.1;simp only [List.length_cons,List.length_append];omega,λx hx=> ?_⟩
   rcases List.mem_cons.1 hx with rfl|hx
   ·exact zfC (.inl hk) hpart (by omega) (by simp only [List.length_cons,List.length_append];omega)
   rcases List.mem_append.1 hx with hx|hx
   ·exact hY.weak (by simp only [List.length_cons,List.length_append];omega) x hx
   rcases List.mem_cons.1 hx with rfl|hx
   ·exact zo3 (by omega) (by simp only [List.length_cons,List.length_append];omega)
   exact hN.weak (by simp only [List.length_cons,List.length_append];omega) x hx
  rename_i hk
  split
  ·rename_i hk2
   refine⟨by have:=hY.1;simp only [List.length_cons,List.length_append,List.length_nil];omega,λx hx=> ?_⟩
   rcases List.mem_cons.1 hx with rfl|hx
   ·exact zfC (.inr hk2) hpart (by omega) (by simp only [List.length_cons,List.length_append,List.length_nil];omega)
   rcases List.mem_append.1 hx with hx|hx
   ·exact hY.weak (by simp only [List.length_cons,List.length_append,List.length_nil];omega) x hx
   rw [List.mem_singleton] at hx
   subst hx
   exact zo3 h0 (by simp only [List.length_cons,List.length_append,List.length_nil];omega)
  rename_i hk2
  refine⟨by simp only [List.length_cons,List.length_nil];omega,λx hx=> ?_⟩
  rw [List.mem_singleton] at hx
  subst hx
  exact zuE k1 k2 hk hk2 hpart (by simp only [List.length_cons,List.length_nil];omega)
theorem zat (vars dom:Int):∀(l:List zN) (d:Nat) (at_:Int),0<=at_->xB vars dom l d=true->zkO vars dom at_ (yI l) (zU l at_)
 | [],d,at_,h0,h=>by rw [zU];exact⟨Nat.zero_le _,λx hx=>by simp at hx⟩
 |x::l,d,at_,h0,h=>by
  rw [xB,Bool.and_eq_true] at h
  have hX:=zpH vars dom x d at_ h0 h.1
  have hL:=zat vars dom l d (at_+(jm x at_).length) (by omega) h.2
  rw [zU,yI]
  refine⟨by have:=hX.1;have:=hL.1;rw [List.length_append];omega,λy hy=> ?_⟩
  rcases List.mem_append.1 hy with hy|hy
  ·exact hX.weak (by rw [List.length_append];omega) y hy
  exact hL.weak (by rw [List.length_append];omega) y hy
end
def xyz:List (List UInt8):= [[120], [121], [122]]
structure zgb (p:zch):Prop where
 vars:∃n,1<=n/\n<=3/\p.vars=xyz.take n
 dom:2<=p.domain/\p.domain<=16
 many:1<=p.threads.length/\p.threads.length<=3
 ok:∀l∈p.threads,xB p.vars.length p.domain l 20=true
 all:(p.threads.map yI).sum<=200
def zcE (p:zch):zD:=⟨p.vars.length,p.domain,p.threads.map (λl=>zU l 0)⟩
theorem zyf {l:List Nat} {x:Nat} (h:x∈l):x<=l.sum:=by
 induction l with
 |nil=>simp at h
 |cons y l ih=>
 rcases List.mem_cons.1 h with rfl|h
 ·simp
 have:=ih h;simp;omega
theorem zgb.one {p:zch} (h:zgb p) {l:List zN} (hl:l∈p.threads):yI l<=200:=by
 have:=zyf (List.mem_map.2 ⟨l,hl,rfl⟩:yI l∈p.threads.map yI)
 have:=h.all
 omega
theorem zp5 {p:zch} (h:zgb p):codeOk (zcE p)=true:=by
 obtain⟨n,n1,n2,hn⟩:=h.vars
 have hv:p.vars.length=n:=by rw [hn,List.length_take];simp [xyz];omega
 have hd:=h.dom
 have hm:=h.many
 unfold codeOk zcE
 simp only [Bool.and_eq_true,decide_eq_true_eq,List.length_map]
 refine⟨⟨⟨⟨⟨⟨by omega,by omega⟩,by omega⟩,by omega⟩,by omega⟩,by omega⟩, ?_⟩
 rw [List.all_eq_true]
 intro r hr
 obtain⟨l,hl,rfl⟩:=List.mem_map.1 hr
 have hg:=zat p.vars.length p.domain l 20 0 (by omega) (h.ok l hl)
 have h2:=h.one hl
 unfold rowOk
 simp only [Bool.and_eq_true,decide_eq_true_eq]
 refine⟨by have:=hg.1;omega, ?_⟩
 rw [List.all_eq_true]
 intro x hx
 have:=hg.2 x hx
 rw [Int.zero_add] at this
 exact this
theorem zgk {a b:Int} (h:a=b):Value.int .i64 a=Value.int .i64 b:=by rw [h]
def zfD (e d:Nat):Prop:=∀(w:World) (l:List zN) (v:Value),yF e d w l v->∀(deep:Nat) (vars dom:Int),deep<=1000->xB vars dom l deep=true->yI l<=200->
 Calls Tryz.prog 73 #[v, .int .i64 deep, .int .i64 vars, .int .i64 dom] w λen w'=>en= .returned (.tuple #[.int .i64 (yI l), .bool true])/\Below w.heap.size w w'
theorem zuF (e d:Nat) (ih:zfD e d):zfD e (d+1):=by
 intro w l v hl deep vars dom z9A hok hN
 obtain⟨la,lc,rfl,hll⟩:=hl.slice
 have htk:=λi (hi:i<l.length)=>znt (l:=l) (i:=i) hi
 have hle:=λi=>zrZ l i
 have hz:yI (l.take 0)=0:=by simp [yI]
 have hR:yI l=yI (l.take l.length):=by rw [List.take_length]
 rw [hR] at hN hle ⊢
 obtain⟨NT,hNT⟩:∃NT:Nat->Nat,NT=λi=>yI (l.take i):=⟨_,rfl⟩
 have z0k:∀i,yI (l.take i)=NT i:=λi=>by rw [hNT]
 simp only [z0k] at htk hle hz hN ⊢
 have hall:=zby.1 hok
 obtain⟨n,hnn⟩:∃n,n=l.length:=⟨_,rfl⟩
 rw [<-hnn] at hl hll htk hN hle ⊢
 have HL:=qh hl
 have HN:=qh hnn
 have j3:=qh htk
 have HLE:=qh hle
 have HZ:=qh hz
 have zuG:=qh hall
 have IH:=qh ih
 clear hl hnn htk hle hz hR hNT z0k hall hok ih
 go_enter Tryz.func73,Tryz.ntmps73
 go_wp2_with fail
 go_loopg [10,11] n (λgg s10 s11 wr=>∃i:Nat,i<=n/\Hid (gg=n - i)/\s10= .int .i64 (NT i)/\s11= .int .i64 i/\Hid (Below w.heap.size w wr))
 case atStart=>exact⟨0,Nat.zero_le _,rfl,zgk (by rw [HZ.out];rfl),rfl,Below.refl _ _⟩
 case round=>
 obtain⟨i,hi,HG,rfl,rfl,zL⟩:=hrel
 by_cases hlt:i<n
 rotate_left
 ·obtain rfl:n=i:=by omega
  have hNI:((NT n:Nat):Int)<=200:=by omega
  go_wp2_with fail
  go_ret2
  exact⟨by first|rfl|simp,zL.out⟩
 have qN:(i:Int)<(n:Int):=by omega
 obtain⟨b,off,aa,ac,ba,bc,ya,yc,na,nc,yh, -,hcell,hA,hB,hY,hNo⟩:=yF.part HL.out i (by rw [<-HN.out];exact hlt)
 subst yh
 have hx:=j3.out i hlt
 have hn1:=HLE.out (i+1)
 have hxo:=zuG.out (l.getD i default) (xS (by rw [<-HN.out];exact hlt))
 generalize l.getD i default=x at hcell hA hB hY hNo hx hxo
 obtain⟨hd1,hhead,hyo,hno⟩:=zcJ hxo
 obtain⟨hk1,hk2,hpart,hkind⟩:=zi4 hhead
 rw [zns] at hx
 have hcy:=λy (hy:Below w.heap.size w y)=>IH.out y x.yes _ (hY.below hy) (deep - 1) vars dom (by omega) hyo (by omega)
 have hcn:=λy (hy:Below w.heap.size w y)=>IH.out y x.no _ (hNo.below hy) (deep - 1) vars dom (by omega) hno (by omega)
 have hcp:=λy (hy:Below w.heap.size w y)=>zlV y x.kind x.reg x.var x.a x.b _ _ e (hA.below hy) (hB.below hy) vars dom
 rw [hpart] at hcp
 rw [show((deep - 1:Nat):Int)=(deep:Int) - 1 by omega] at hcy hcn
 unfold qy at hcp
 have x0:wr.cell? ⟨b,off+i*13,none⟩=some (.int .i64 x.kind):=zk zL.out _ _ (hcell 0 (by omega))
 have x1:wr.cell? ⟨b,off+i*13+1,none⟩=some (.int .i64 x.reg):=zk zL.out _ _ (hcell 1 (by omega))
 have x2:wr.cell? ⟨b,off+i*13+2,none⟩=some (.int .i64 x.var):=zk zL.out _ _ (hcell 2 (by omega))
 have x3:wr.cell? ⟨b,off+i*13+3,none⟩=some (.int .i64 x.a.kind):=zk zL.out _ _ (hcell 3 (by omega))
 have x4:wr.cell? ⟨b,off+i*13+4,none⟩=some (.int .i64 x.a.n):=zk zL.out _ _ (hcell 4 (by omega))
 have x5:wr.cell? ⟨b,off+i*13+5,none⟩=some (.int .u8 x.a.op):=zk zL.out _ _ (hcell 5 (by omega))
 have x6:wr.cell? ⟨b,off+i*13+6,none⟩=some (.slice aa x.a.kids.length ac):=zk zL.out _ _ (hcell 6 (by omega))
 have x7:wr.cell? ⟨b,off+i*13+7,none⟩=some (.int .i64 x.b.kind):=zk zL.out _ _ (hcell 7 (by omega))
 have x8:wr.cell? ⟨b,off+i*13+8,none⟩=some (.int .i64 x.b.n):=zk zL.out _ _ (hcell 8 (by omega))
 have x9:wr.cell? ⟨b,off+i*13+9,none⟩=some (.int .u8 x.b.op):=zk zL.out _ _ (hcell 9 (by omega))
 have x10:wr.cell? ⟨b,off+i*13+10,none⟩=some (.slice ba x.b.kids.length bc):=zk zL.out _ _ (hcell 10 (by omega))
 have gI:wr.cell? ⟨b,off+i*13+11,none⟩=some (.slice ya x.yes.length yc):=zk zL.out _ _ (hcell 11 (by omega))
 have x12:wr.cell? ⟨b,off+i*13+12,none⟩=some (.slice na x.no.length nc):=zk zL.out _ _ (hcell 12 (by omega))
 generalize hyN:yI x.yes=yN at hx hcy
 generalize hnN:yI x.no=nN at hx hcn
 generalize x.kind=q0 at x0 hcp hk1 hk2 hkind
 generalize x.reg=q1 at x1 hcp
 generalize x.var=q2 at x2 hcp
 generalize x.a.kind=q3 at x3 hcp
 generalize x.a.n=q4 at x4 hcp
 generalize x.a.op=q5 at x5 hcp
 generalize x.a.kids.length=q6 at x6 hcp
 generalize x.b.kind=q7 at x7 hcp
 generalize x.b.n=q8 at x8 hcp
 generalize x.b.op=q9 at x9 hcp
 generalize x.b.kids.length=q10 at x10 hcp
 generalize x.yes.length=q11 at gI hcy hkind
 generalize x.no.length=q12 at x12 hcn hkind
 have HX:Hid (NT (i+1)=NT i+(1+yN+nN)):=hx
 have hs1:NT i+(1+yN+nN)<=200:=by omega
 generalize NT i=ni at HX hs1 ⊢
 have HCY:=qh hcy
 have HCN:=qh hcn
 have HCP:=qh hcp
 clear hcell hA hB hY hNo hx hn1 hxo hhead hyo hno hpart hcy hcn hcp hyN hnN
 have z6e:(1:Int)<=(deep:Int):=by omega
 have z9B:(ni:Int)+1<=200:=by omega
 have b1:decide ((deep:Int)<1)=false:=by rw [decide_eq_false_iff_not];omega
 have b2:decide ((200:Int)<(ni:Int)+1)=false:=by rw [decide_eq_false_iff_not];omega
 have b3:decide (q0<1)=false:=by rw [decide_eq_false_iff_not];omega
 have b4:decide (11<q0)=false:=by rw [decide_eq_false_iff_not];omega
 have HK:=qh hkind
 clear hkind hd1
 go_upto_region 7 with fail
 clear x0 x1 x2 x3 x4 x5 x6 x7 x8 x9 x10 gI x12
 have hbx:=zH zL.out ((Below.refl wr.heap.size wr).alloc (Nat.le_refl _) (.cells #[.int .i64 q0, .int .i64 q1, .int .i64 q2, .int .i64 q3, .int .i64 q4, .int .u8 q5, .slice aa q6 ac, .int .i64 q7, .int .i64 q8, .int .u8 q9, .slice ba q10 bc, .slice ya q11 yc, .slice na q12 nc] 144))
 have hg:=yj wr (.cells #[.int .i64 q0, .int .i64 q1, .int .i64 q2, .int .i64 q3, .int .i64 q4, .int .u8 q5, .slice aa q6 ac, .int .i64 q7, .int .i64 q8, .int .u8 q9, .slice ba q10 bc, .slice ya q11 yc, .slice na q12 nc] 144)
 have xI:=qh hbx
 have xg:=qh hg
 clear hbx hg
 generalize World.alloc wr _=X at xI xg ⊢
 generalize wr.heap.size=gx at xg ⊢
 have y0:=ze xg.out 0
 have y1:=ze xg.out 1
 have y2:=ze xg.out 2
 have y3:=ze xg.out 3
 have y4:=ze xg.out 4
 have y5:=ze xg.out 5
 have y6:=ze xg.out 6
 have y7:=ze xg.out 7
 have y8:=ze xg.out 8
 have y9:=ze xg.out 9
 have y10:=ze xg.out 10
 go_upto_region 9 with(go_at_call 68;go_must(refine(HCP.out X xI.out).mono ?_);rintro en X1 ⟨rfl,hb⟩;(have HB1:=qh hb);clear hb y0 y1 y2 y3 y4 y5 y6 y7 y8 y9 y10)
 have z0n:=qh (zH xI.out HB1.out)
 have qE:=qh ((HB1.out.block _ (zw xg.out)).trans xg.out)
 have z0:X1.cell? ⟨gx,0,none⟩=some (.int .i64 q0):=ze qE.out 0
 have z5:X1.cell? ⟨gx,11,none⟩=some (.slice ya q11 yc):=ze qE.out 11
 have z6:X1.cell? ⟨gx,12,none⟩=some (.slice na q12 nc):=ze qE.out 12
 clear xI HB1 xg b1 b2 b3 b4
 go_cut [80] (λs80 w'=>s80= .bool false/\w'=X1)
 case first=>
  by_cases h10:q0=10
  ·subst h10
   go_wp2_with fail
   go_meet
   case rel=>exact⟨(by first|rfl|simp),rfl⟩
  have hk:=HK.out.resolve_left h10
  have zuH:(q0==10)=false:=by rw [beq_eq_false_iff_ne];exact h10
  have z6f:(q0 !=10)=true:=by rw [bne,zuH];rfl
  obtain⟨hno,hk⟩:=hk
  subst hno
  clear h10
  by_cases h11:q0=11
  ·subst h11
   clear zuH z6f
   go_wp2_with fail
   go_meet
   case rel=>exact⟨(by first|rfl|simp),rfl⟩
  have z0o:(q0==11)=false:=by rw [beq_eq_false_iff_ne];exact h11
  have zAc:(q0 !=11)=true:=by rw [bne,z0o];rfl
  have hy0:=hk.resolve_left h11
  subst hy0
  clear h11 hk zuH z0o
  go_wp2_with fail
  go_meet
  case rel=>exact⟨(by first|rfl|simp),rfl⟩
 case rest=>
 obtain⟨rfl,hwv⟩:=hcut
 obtain rfl:X1=wc:=hwv.symm
 clear z0
 go_upto_region 12 with(go_at_call 73;go_must(refine(HCY.out X1 z0n.out).mono ?_);rintro en X2 ⟨rfl,hb⟩;(have HB2:=qh hb);(have zaf:=qh (zH z0n.out hb));clear hb;(have z6':=zk HB2.out _ _ z6);clear z5 z6)
 go_upto_region 13 with(go_at_call 73;go_must(refine(HCN.out X2 zaf.out).mono ?_);rintro en X3 ⟨rfl,hb⟩;(have z6g:=qh (zH zaf.out hb));clear hb z6')
 go_wp2_with fail
 go_roundg (n - (i+1))
 case measure=>rw [HG.out];omega
 case rel=>exact⟨i+1,by omega,rfl,zgk (by rw [HX.out];omega),by simp,z6g.out⟩
theorem zsa (e d:Nat):zfD e d:=by
 induction d with
 |zero=>intro w l v hl;exact hl.elim
 |succ d ih=>exact zuF e d ih
def zmf (_:World) (x:List UInt8) (cs:List Value):Prop:=cs= [.string ⟨x.toArray⟩]
theorem zmf.stays:kP zmf:=λ_ _ _ _ h _=>h
abbrev zd5:=zh zmf 1
theorem zd5.part {w:World} {a:Option Addr} {n cap:Nat} {l:List (List UInt8)} (h:zd5 w (.slice a n cap) l) (j:Nat) (hj:j<l.length):∃b off,a=some ⟨b,off,none⟩/\b<w.heap.size/\w.cell? ⟨b,off+j,none⟩=some (.string ⟨(l.getD j []).toArray⟩):=by
 obtain⟨b,off,cs,h1,h2,h3,h4,h5⟩:=zh.part h j hj
 have h5:cs= [.string ⟨(l.getD j default).toArray⟩] :=h5
 subst h5
 have:=h4 0 (by omega)
 rw [Nat.mul_one,Nat.add_zero] at this
 exact⟨b,off,h1,h2,this⟩
def zjl (e d:Nat) (w:World) (l:List zN) (cs:List Value):Prop:=∃v,cs= [v] /\yF e d w l v
theorem zjl.stays (e d:Nat):kP (zjl e d):=λ_ _ _ _ ⟨v,h,h1⟩ hb=>⟨v,h,h1.below hb⟩
abbrev zfE (e d:Nat):=zh (zjl e d) 1
theorem zfE.part {e d:Nat} {w:World} {a:Option Addr} {n cap:Nat} {l:List (List zN)} (h:zfE e d w (.slice a n cap) l) (j:Nat) (hj:j<l.length):∃b off ka kc,a=some ⟨b,off,none⟩/\b<w.heap.size/\w.cell? ⟨b,off+j,none⟩=some (.slice ka (l.getD j []).length kc)/\yF e d w (l.getD j []) (.slice ka (l.getD j []).length kc):=by
 obtain⟨b,off,cs,h1,h2,h3,h4,v,h5,h6⟩:=zh.part h j hj
 subst h5
 obtain⟨ka,kc,rfl, -⟩:=h6.slice
 have:=h4 0 (by omega)
 rw [Nat.mul_one,Nat.add_zero] at this
 exact⟨b,off,ka,kc,h1,h2,this,h6⟩
def zga (p:zch) (vv tv:Value):Value:= .agg #[vv, .int .i64 p.domain,tv]
structure zd6 (e d:Nat) (w:World) (p:zch) (vv tv:Value):Prop where
 vars:zd5 w vv p.vars
 threads:zfE e d w tv p.threads
theorem zd6.below {e d:Nat} {w w':World} {p:zch} {vv tv:Value} (h:zd6 e d w p vv tv) (hb:Below w.heap.size w w'):zd6 e d w' p vv tv:=⟨zh.below zmf.stays h.vars hb,zh.below (zjl.stays e d) h.threads hb⟩
theorem z0p {n i:Nat} (hn:n<=3) (hi:i<n):∃b:UInt8,(xyz.take n).getD i [] = [b] /\zgj b.toNat=true/\b.toNat=120+i:=by
 have hi3:i=0\/i=1\/i=2:=by omega
 have e:(xyz.take n).getD i [] =xyz.getD i [] :=by simp only [List.getD_eq_getElem?_getD,List.getElem?_take_of_lt hi]
 rw [e]
 rcases hi3 with rfl|rfl|rfl
 ·exact⟨120,rfl,rfl,rfl⟩
 ·exact⟨121,rfl,rfl,rfl⟩
 exact⟨122,rfl,rfl,rfl⟩
theorem z0q {a b:UInt8} (h:a≠b):((⟨#[a]⟩:ByteArray).toList==(⟨#[b]⟩:ByteArray).toList)=false:=by
 rw [beq_eq_false_iff_ne,ByteArray.toList_eq,ByteArray.toList_eq]
 intro e
 exact h (by simpa using e)
theorem zuI {l:List Nat} {i:Nat} (hi:i<l.length):(l.take (i+1)).sum=(l.take i).sum+l.getD i 0:=by
 rw [List.take_succ_eq_append_getElem hi,List.sum_append,List.getD_eq_getElem?_getD,List.getElem?_eq_getElem hi];simp
theorem z0r (l:List Nat) (i:Nat):(l.take i).sum<=l.sum:=by
 have:(l.take i).sum+(l.drop i).sum=l.sum:=by rw [<-List.sum_append,List.take_append_drop]
 omega
theorem zk7 (e d:Nat) (w:World) (p:zch) (hp:zgb p) (vv tv:Value) (h:zd6 e d w p vv tv):Calls Tryz.prog 53 #[zga p vv tv] w λe w'=>e= .returned (.bool true)/\Below w.heap.size w w':=by
 obtain⟨va,vc,rfl, -⟩:=zh.slice h.vars
 obtain⟨ta,tc,rfl, -⟩:=zh.slice h.threads
 obtain⟨vn,v1,v2,hv⟩:=hp.vars
 have hvl:p.vars.length=vn:=by rw [hv,List.length_take];simp [xyz];omega
 obtain⟨d1,d2⟩:=hp.dom
 obtain⟨m1,m2⟩:=hp.many
 obtain⟨tn,htn⟩:∃n,n=p.threads.length:=⟨_,rfl⟩
 have hxy:=λi (hi:i<vn)=>z0p v2 hi
 rw [<-hv] at hxy
 have hok:∀i,i<tn->xB vn p.domain (p.threads.getD i []) 20=true/\yI (p.threads.getD i [])<=200:=λi hi=>by
  have hm:p.threads.getD i [] ∈p.threads:=xS (by rw [<-htn];exact hi)
  have:=hp.ok _ hm
  rw [hvl] at this
  exact⟨this,hp.one hm⟩
 obtain⟨ST,hST⟩:∃ST:Nat->Nat,ST=λi=>((p.threads.map yI).take i).sum:=⟨_,rfl⟩
 have hst:∀i,i<tn->ST (i+1)=ST i+yI (p.threads.getD i []):=λi hi=>by
  simp only [hST]
  have:=zuI (l:=p.threads.map yI) (i:=i) (by simp [<-htn];exact hi)
  rw [this]
  simp [List.getD_eq_getElem?_getD,List.getElem?_eq_getElem (htn ▸ hi:i<p.threads.length)]
 have z0s:∀i,ST i<=200:=λi=>by rw [hST];exact Nat.le_trans (z0r _ _) hp.all
 have hs0:ST 0=0:=by rw [hST];rfl
 have hvars:=h.vars
 have ze0:=h.threads
 rw [<-hvl] at hxy
 unfold zga
 generalize p.domain=dom at d1 d2 hok ⊢
 rw [<-htn] at m1 m2
 generalize p.vars=L at hvl hvars hxy ⊢
 generalize p.threads=T at htn ze0 hok hst ⊢
 rw [hvl] at hvars hxy ⊢
 rw [<-htn] at ze0 ⊢
 have hB:=(Below.refl w.heap.size w).alloc (Nat.le_refl _) (.cells #[.slice va vn vc, .int .i64 dom, .slice ta tn tc] 87)
 have H1:=qh (yj w (.cells #[.slice va vn vc, .int .i64 dom, .slice ta tn tc] 87))
 have zgl:=qh (zh.below zmf.stays hvars hB)
 have zjy:=qh (zh.below (zjl.stays e d) ze0 hB)
 have HB:=qh hB
 have HVL:=qh hvl
 have HTN:=qh htn
 have HXY:=qh hxy
 have je:=qh hok
 have HST:=qh hst
 have z6h:=qh z0s
 have HS0:=qh hs0
 clear hvars ze0 hB hvl htn hxy hok hst z0s hs0 h hp hv hST
 have b1:decide ((vn:Int)<1)=false:=by rw [decide_eq_false_iff_not];omega
 have b2:decide ((4:Int)<(vn:Int))=false:=by rw [decide_eq_false_iff_not];omega
 have b3:decide (dom<2)=false:=by rw [decide_eq_false_iff_not];omega
 have b4:decide (16<dom)=false:=by rw [decide_eq_false_iff_not];omega
 have b5:decide ((tn:Int)<1)=false:=by rw [decide_eq_false_iff_not];omega
 have b6:decide ((4:Int)<(tn:Int))=false:=by rw [decide_eq_false_iff_not];omega
 go_enter Tryz.func53,Tryz.ntmps53
 go_upto_region 1 with fail
 generalize World.alloc w _=W at HB H1 zgl zjy ⊢
 generalize w.heap.size=gx at H1 ⊢
 have z6i:Hid (∀x,Below W.heap.size W x->Below w.heap.size w x):=λx hx=>HB.out.trans (hx.mono HB.out.size)
 have HC:Hid (∀x,Below W.heap.size W x->x.cell? ⟨gx,0,none⟩=some (.slice va vn vc)/\x.cell? ⟨gx,1,none⟩=some (.int .i64 dom)/\x.cell? ⟨gx,2,none⟩=some (.slice ta tn tc)):=λx hx=>⟨zk hx _ _ (ze H1.out 0),zk hx _ _ (ze H1.out 1),zk hx _ _ (ze H1.out 2)⟩
 obtain⟨c0,c1,c2⟩:=HC.out W (Below.refl _ _)
 go_wp2_with fail
 clear c0 c1 c2 b1 b2 b3 b4 b5 b6
 go_loopg [3] vn (λgg s3 wr=>∃i:Nat,i<=vn/\Hid (gg=vn - i)/\s3= .int .i64 i/\Hid (Below W.heap.size W wr))
 case atStart=>exact⟨0,Nat.zero_le _,rfl,rfl,Below.refl _ _⟩
 case round=>
 obtain⟨i,hi,HG,rfl,zL⟩:=hrel
 obtain⟨c0,c1,c2⟩:=HC.out wr zL.out
 by_cases hlt:i<vn
 ·have qN:(i:Int)<(vn:Int):=by omega
  obtain⟨b,off,yh, -,x0⟩:=zd5.part zgl.out i (by rw [HVL.out];exact hlt)
  subst yh
  obtain⟨u,hu1,hu2,hu3⟩:=HXY.out i hlt
  rw [hu1] at x0
  have hname:Calls Tryz.prog 72 #[.string ⟨#[u]⟩] wr λe w'=>e= .returned (.bool true)/\Below wr.heap.size wr w':=zuD wr u hu2
  have zuJ:∀v:UInt8,v≠u->((⟨#[v]⟩:ByteArray).toList==(⟨#[u]⟩:ByteArray).toList)=false:=λv hv=>z0q hv
  have x0':W.cell? ⟨b,off+i,none⟩=some (.string ⟨#[u]⟩):=x0
  generalize (⟨#[u]⟩:ByteArray)=su at x0' hname zuJ
  have HX0:=qh x0'
  have HU3:=qh hu3
  have z6j:=qh zuJ
  have y0:wr.cell? ⟨b,off+i,none⟩=some (.string su):=zk zL.out _ _ x0'
  have zwQ:=qh hname
  clear hu1 hu2 hu3 x0 x0' hname zuJ
  go_upto_region 8 with(go_at_call 72;go_must(refine zwQ.out.mono ?_);rintro en X1 ⟨rfl,hb⟩;(have HB1:=qh (zH zL.out hb));clear hb y0 c0 c1 c2 zwQ)
  go_wp2_with fail
  clear zL
  go_loopg [4] i (λgg s4 wr=>∃k:Nat,k<=i/\Hid (gg=i - k)/\s4= .int .i64 k/\Hid (Below W.heap.size W wr))
  case atStart=>exact⟨0,Nat.zero_le _,rfl,rfl,HB1.out⟩
  case round=>
  obtain⟨k,hk,HG2,rfl,zmg⟩:=hrel
  by_cases hlk:k<i
  rotate_left
  ·obtain rfl:i=k:=by omega
   go_wp2_with fail
   go_roundg (vn - (i+1))
   case measure=>rw [HG.out];omega
   case rel=>exact⟨i+1,by omega,rfl,by simp,zmg.out⟩
  have z5g:(k:Int)<(i:Int):=by omega
  obtain⟨b',off',yh, -,x1⟩:=zd5.part zgl.out k (by rw [HVL.out];omega)
  obtain⟨rfl,rfl⟩:b=b'/\off=off':=by simpa using yh
  obtain⟨v,hv1,hv2,hv3⟩:=HXY.out k (by omega)
  rw [hv1] at x1
  have hne:v≠u:=λe=>by have:=HU3.out;rw [e] at hv3;omega
  have hnl:=z6j.out v hne
  obtain⟨c0,c1,c2⟩:=HC.out wr zmg.out
  have y0:wr.cell? ⟨b,off+i,none⟩=some (.string su):=zk zmg.out _ _ HX0.out
  have y1:wr.cell? ⟨b,off+k,none⟩=some (.string ⟨#[v]⟩):=zk zmg.out _ _ x1
  clear hv1 hv2 hv3 x1 hne
  generalize (⟨#[v]⟩:ByteArray)=sv at y1 hnl
  go_upto_region 11 with fail
  go_quiet (fail)
  go_wp2_with fail
  go_roundg (i - (k+1))
  case measure=>rw [HG2.out];omega
  case rel=>exact⟨k+1,by omega,rfl,by simp,yg zmg.out _⟩
 obtain rfl:vn=i:=by omega
 go_wp2_with fail
 clear c0 c1 c2
 go_loopg [5,6] tn (λgg s5 s6 wr=>∃i:Nat,i<=tn/\Hid (gg=tn - i)/\s5= .int .i64 (ST i)/\s6= .int .i64 i/\Hid (Below W.heap.size W wr))
 case atStart=>exact⟨0,Nat.zero_le _,rfl,zgk (by rw [HS0.out];rfl),rfl,zL.out⟩
 case round=>
 obtain⟨i,hi,HG,rfl,rfl,zL⟩:=hrel
 obtain⟨c0,c1,c2⟩:=HC.out wr zL.out
 by_cases hlt:i<tn
 rotate_left
 ·obtain rfl:tn=i:=by omega
  go_wp2_with fail
  go_ret
  exact⟨rfl,z6i.out _ zL.out⟩
 have qN:(i:Int)<(tn:Int):=by omega
 obtain⟨b,off,ka,kc,yh, -,x0,hst⟩:=zfE.part zjy.out i (by rw [<-HTN.out];exact hlt)
 subst yh
 obtain⟨hok,zuK⟩:=je.out i hlt
 have hs1:=HST.out i hlt
 have hs2:=z6h.out (i+1)
 generalize T.getD i [] =l at x0 hst hok zuK hs1
 have hcl:=λy (hy:Below W.heap.size W y)=>zsa e d y l _ (hst.below hy) 20 vn dom (by omega) hok zuK
 have y0:=zk zL.out _ _ x0
 generalize l.length=ln at y0 hcl
 have vC:Hid (ST (i+1)=ST i+yI l):=hs1
 have hsum:ST i+yI l<=200:=by omega
 generalize yI l=sn at hcl vC hsum
 generalize ST i=si at vC hsum ⊢
 have HCL:=qh hcl
 clear hst hok zuK hs1 hs2 hcl x0
 go_upto_region 17 with fail
 have CC:Hid (∀x,Below wr.heap.size wr x->x.cell? ⟨gx,0,none⟩=some (.slice va vn vc)/\x.cell? ⟨gx,1,none⟩=some (.int .i64 dom)/\x.cell? ⟨gx,2,none⟩=some (.slice (some ⟨b,off,none⟩) tn tc)/\x.cell? ⟨b,off+i,none⟩=some (.slice ka ln kc)):=λx hx=>⟨zk hx _ _ c0,zk hx _ _ c1,zk hx _ _ c2,zk hx _ _ y0⟩
 clear y0 c0 c1 c2
 refine jf (S:=λx=>Below wr.heap.size wr x) (Below.refl _ _).drew (λhH=> ?_)
 refine zB 0 CC.out ?_
 refine zB 1 CC.out ?_
 refine zB 2 CC.out ?_
 refine zB 3 CC.out ?_
 refine zB 4 CC.out ?_
 refine zB 5 CC.out ?_
 refine zB 6 CC.out ?_
 refine zB 7 CC.out ?_
 refine zB 8 CC.out ?_
 refine zB 9 CC.out ?_
 refine yC 10 rfl (λK hK=> ?_)
 go_simp
 refine(HCL.out wr.drew (zH zL.out hH)).mono ?_
 rintro en z6k ⟨rfl,hb⟩
 have zpI:Below wr.heap.size wr z6k:=zH hH hb
 refine hK.out _ _ zpI (λ_=> ?_)
 clear hK K hb hH
 refine zB 11 CC.out ?_
 refine zB 12 CC.out ?_
 refine zB 13 CC.out ?_
 refine zB 14 CC.out ?_
 refine zB 15 CC.out ?_
 refine xW ?_
 have jC:=qh (zH zL.out zpI)
 clear zpI CC
 have z9C:(si:Int)+(sn:Int)<=200:=by omega
 have b1:decide ((200:Int)<(si:Int)+(sn:Int))=false:=by rw [decide_eq_false_iff_not];omega
 go_wp2_with fail
 go_roundg (tn - (i+1))
 case measure=>rw [HG.out];omega
 case rel=>exact⟨i+1,by omega,rfl,zgk (by rw [vC.out];omega),by simp,jC.out⟩
