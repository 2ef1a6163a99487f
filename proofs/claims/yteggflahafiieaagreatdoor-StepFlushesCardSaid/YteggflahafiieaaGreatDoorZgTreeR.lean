/- Steps. -/
import Derived.Test.YteggflahafiieaaGreatDoorZgBlocks
set_option linter.all false
namespace Go.Proofs.YteggflahafiieaaGreatDoor
open Go.RowKit
set_option maxRecDepth 100000
set_option maxHeartbeats 16000000
def zej (c:Int):Bool:=decide (97<=c) && decide (c<=122)
theorem zpS (w:World) (c:Int):Calls Tryz.prog 121 #[.int .u8 c] w λe w'=>e= .returned (.bool (zej c))/\Below w.heap.size w w':=by
 unfold zej
 by_cases h1:97<=c
 ·go_enter Tryz.func121,Tryz.ntmps121
  go_wp2
  go_ret
  exact⟨by simp [h1],Below.refl _ _⟩
 go_enter Tryz.func121,Tryz.ntmps121
 go_wp2
 go_ret
 exact⟨by simp;omega,Below.refl _ _⟩
def zgU (b:UInt8):Value:= .string ⟨#[b]⟩
theorem zlw (w:World) (b:UInt8):Calls Tryz.prog 123 #[zgU b] w λe w'=>e= .returned (.int .i64 (-1))/\Below w.heap.size w w':=by
 unfold zgU
 have hsz:((⟨#[b]⟩:ByteArray)).size=1:=rfl
 generalize (⟨#[b]⟩:ByteArray)=s at hsz ⊢
 have hszI:((s.size:Int)==2)=false:=by rw [hsz];rfl
 go_enter Tryz.func123,Tryz.ntmps123
 go_wp2
 go_ret
 exact⟨rfl,Below.refl _ _⟩
def z5G:List ByteArray:= [⟨#[118,97,114,115]⟩,⟨#[100,111,109,97,105,110]⟩,⟨#[116,104,114,101,97,100]⟩,⟨#[102,101,110,99,101]⟩,⟨#[115,102,101,110,99,101]⟩,⟨#[99,97,115]⟩,⟨#[108,111,99,107]⟩,⟨#[117,110,108,111,99,107]⟩,⟨#[97,115,115,101,114,116]⟩,⟨#[105,102]⟩,⟨#[101,108,115,101]⟩,⟨#[119,104,105,108,101]⟩]
theorem zy1 (i:Nat) (hi:i<12) (s:ByteArray) (hs:s.size=1):∃k:ByteArray,(z5G.map Value.string)[i]? =some (.string k)/\k≠s:=by
 have hne:∀k:ByteArray,k.size≠1->k≠s:=λk hk e=>by rw [e] at hk;exact hk hs
 match i,hi with
 |0,_=>exact⟨_,rfl,hne _ (by decide)⟩
 |1,_=>exact⟨_,rfl,hne _ (by decide)⟩
 |2,_=>exact⟨_,rfl,hne _ (by decide)⟩
 |3,_=>exact⟨_,rfl,hne _ (by decide)⟩
 |4,_=>exact⟨_,rfl,hne _ (by decide)⟩
 |5,_=>exact⟨_,rfl,hne _ (by decide)⟩
 |6,_=>exact⟨_,rfl,hne _ (by decide)⟩
 |7,_=>exact⟨_,rfl,hne _ (by decide)⟩
 |8,_=>exact⟨_,rfl,hne _ (by decide)⟩
 |9,_=>exact⟨_,rfl,hne _ (by decide)⟩
 |10,_=>exact⟨_,rfl,hne _ (by decide)⟩
 |11,_=>exact⟨_,rfl,hne _ (by decide)⟩
theorem zxv (w:World) (b:UInt8):Calls Tryz.prog 122 #[zgU b] w λe w'=>e= .returned (.bool false)/\Below w.heap.size w w':=by
 unfold zgU
 have hsz:((⟨#[b]⟩:ByteArray)).size=1:=rfl
 generalize (⟨#[b]⟩:ByteArray)=s at hsz ⊢
 have HB:=qh ((Below.refl w.heap.size w).alloc (Nat.le_refl _) (.cells #[.string ⟨#[118,97,114,115]⟩, .string ⟨#[100,111,109,97,105,110]⟩, .string ⟨#[116,104,114,101,97,100]⟩, .string ⟨#[102,101,110,99,101]⟩, .string ⟨#[115,102,101,110,99,101]⟩, .string ⟨#[99,97,115]⟩, .string ⟨#[108,111,99,107]⟩, .string ⟨#[117,110,108,111,99,107]⟩, .string ⟨#[97,115,115,101,114,116]⟩, .string ⟨#[105,102]⟩, .string ⟨#[101,108,115,101]⟩, .string ⟨#[119,104,105,108,101]⟩] 9))
 have HG:=qh (yE w (.cells #[.string ⟨#[118,97,114,115]⟩, .string ⟨#[100,111,109,97,105,110]⟩, .string ⟨#[116,104,114,101,97,100]⟩, .string ⟨#[102,101,110,99,101]⟩, .string ⟨#[115,102,101,110,99,101]⟩, .string ⟨#[99,97,115]⟩, .string ⟨#[108,111,99,107]⟩, .string ⟨#[117,110,108,111,99,107]⟩, .string ⟨#[97,115,115,101,114,116]⟩, .string ⟨#[105,102]⟩, .string ⟨#[101,108,115,101]⟩, .string ⟨#[119,104,105,108,101]⟩] 9))
 go_enter Tryz.func122,Tryz.ntmps122
 go_upto_region 2 with fail
 generalize World.alloc w _=W at HB HG ⊢
 generalize w.heap.size=g at HG ⊢
 go_wp2_with fail
 go_loopg [4] 12 (λgg s4 wr=>∃i:Nat,i<=12/\Hid (gg=12 - i)/\s4= .int .i64 i/\wr=W)
 case atStart=>exact⟨0,by omega,rfl,rfl,rfl⟩
 case round=>
 obtain⟨i,hi,HGG,rfl,rfl⟩:=hrel
 by_cases hlt:i<12
 rotate_left
 ·obtain rfl:i=12:=by omega
  go_wp2_with fail
  go_ret
  exact⟨rfl,HB.out⟩
 have qK:(i:Int)<12:=by omega
 obtain⟨k,hk,hne⟩:=zy1 i hlt s hsz
 have x0:wr.cell? ⟨g,i,none⟩=some (.string k):=by rw [za HG.out,List.getElem?_toArray];exact hk
 have hnl:(k.toList==s.toList)=false:=by
  rw [ByteArray.toList_eq,ByteArray.toList_eq,beq_eq_false_iff_ne]
  intro e
  apply hne
  obtain⟨kd⟩:=k
  obtain⟨sd⟩:=s
  have:kd=sd:=Array.toList_inj.1 e
  rw [this]
 go_wp2_with fail
 go_roundg (12 - (i+1))
 case measure=>rw [HGG.out];omega
 case rel=>exact⟨i+1,by omega,rfl,by simp,rfl⟩
theorem zuu (w:World) (b:UInt8) (hb:zej b.toNat=true):Calls Tryz.prog 91 #[zgU b] w λe w'=>e= .returned (.bool true)/\Below w.heap.size w w':=by
 have hk:=λy=>zxv y b
 have hr:=λy=>zlw y b
 unfold zgU at hk hr ⊢
 have hsz:((⟨#[b]⟩:ByteArray)).size=1:=rfl
 have hget:∀h:0<((⟨#[b]⟩:ByteArray)).size,((⟨#[b]⟩:ByteArray))[0]'h=b:=λ_=>rfl
 have hne:((⟨#[b]⟩:ByteArray)).toList.isEmpty=false:=by rw [ByteArray.toList_eq];rfl
 generalize (⟨#[b]⟩:ByteArray)=s at hsz hget hk hr hne ⊢
 have hlet:∀(y:World) (h:0<s.size),Calls Tryz.prog 121 #[.int .u8 ((s[0]'h).toNat:Int)] y λe w'=>e= .returned (.bool true)/\Below y.heap.size y w':=λy h=>by
  have:=zpS y (b.toNat:Int)
  rw [hb] at this
  rw [hget h];exact this
 have HK:=qh hk
 have HR:=qh hr
 have zy2:=qh hlet
 clear hk hr hlet hget
 have hnl:(s.toList==([] :List UInt8))=false:=by rw [beq_eq_false_iff_ne];intro e;rw [e] at hne;cases hne
 go_enter Tryz.func91,Tryz.ntmps91
 go_wp2_with(first|(go_at_call 123;go_must(refine(HR.out W2).mono ?_);rintro e W3 ⟨rfl,hb3⟩)|(go_at_call 122;go_must(refine(HK.out W1).mono ?_);rintro e W2 ⟨rfl,hb2⟩)|(go_at_call 121;go_must(refine(zy2.out w _).mono ?_);rintro e W1 ⟨rfl,hb1⟩))
 have HB3:=qh (zB (zB hb1 hb2) hb3)
 clear hb1 hb2 hb3
 go_loopg [3] 1 (λgg s3 wr=>∃i:Nat,i<=1/\Hid (gg=1 - i)/\s3= .int .i64 i/\Hid (Below w.heap.size w wr))
 case atStart=>exact⟨0,by omega,rfl,rfl,HB3.out⟩
 case round=>
 obtain⟨i,hi,HGG,rfl,zX⟩:=hrel
 by_cases hlt:i<1
 ·obtain rfl:i=0:=by omega
  go_wp2_with(go_at_call 121;go_must(refine(zy2.out wr _).mono ?_);rintro e W4 ⟨rfl,hb4⟩;(have vL:=qh (zB zX.out hb4));clear hb4)
  go_roundg 0
  case measure=>rw [HGG.out];omega
  case rel=>exact⟨1,by omega,rfl,by simp,vL.out⟩
 obtain rfl:i=1:=by omega
 go_wp2_with fail
 go_ret
 exact⟨rfl,zX.out⟩
mutual
def uN:zG->Nat
 | .mk _ _ _ _ _ y n=>1+yB y+yB n
def yB:List zG->Nat
 | [] =>0
 |x::l=>uN x+yB l
end
def zdh (vars dom k r v:Int) (a b:zH) (y n:List zG):Bool:=decide (1<=k) && decide (k<=11) && qm k r v a b vars dom && (decide (k=10)||decide (n.length=0) && (decide (k=11)||decide (y.length=0)))
mutual
def wM (vars dom:Int):zG->Nat->Bool
 | .mk k r v a b y n,d=>decide (1<=d) && zdh vars dom k r v a b y n && xg vars dom y (d - 1) && xg vars dom n (d - 1)
def xg (vars dom:Int):List zG->Nat->Bool
 | [],_=>true
 |x::l,d=>wM vars dom x d && xg vars dom l d
end
theorem zaT {vars dom:Int} {x:zG} {d:Nat} (h:wM vars dom x d=true):1<=d/\zdh vars dom x.kind x.reg x.var x.a x.b x.yes x.no=true/\xg vars dom x.yes (d - 1)=true/\xg vars dom x.no (d - 1)=true:=by
 obtain⟨k,r,v,a,b,y,n⟩:=x
 unfold wM at h
 simp only [Bool.and_eq_true,decide_eq_true_eq] at h
 exact⟨h.1.1.1,h.1.1.2,h.1.2,h.2⟩
theorem zo4 (x:zG):uN x=1+yB x.yes+yB x.no:=by
 obtain⟨k,r,v,a,b,y,n⟩:=x
 rw [uN];rfl
theorem zgj {vars dom k r v:Int} {a b:zH} {y n:List zG} (h:zdh vars dom k r v a b y n=true):1<=k/\k<=11/\qm k r v a b vars dom=true/\(k=10\/n.length=0/\(k=11\/y.length=0)):=by
 unfold zdh at h
 simp only [Bool.and_eq_true,Bool.or_eq_true,decide_eq_true_eq] at h
 exact⟨h.1.1.1,h.1.1.2,h.1.2,h.2⟩
theorem zaa {vars dom:Int} {l:List zG} {d:Nat} :xg vars dom l d=true↔∀x∈l,wM vars dom x d=true:=by
 induction l with
 |nil=>simp [xg]
 |cons x l ih=>rw [xg,Bool.and_eq_true,ih];simp
theorem zc0 (l r:List zG):yB (l++r)=yB l+yB r:=by
 induction l with
 |nil=>simp [yB]
 |cons x l ih=>rw [List.cons_append,yB,yB,ih];omega
theorem zo5 {l:List zG} {i:Nat} (hi:i<l.length):yB (l.take (i+1))=yB (l.take i)+uN (l.getD i default):=by
 rw [List.take_succ_eq_append_getElem hi,zc0,List.getD_eq_getElem?_getD,List.getElem?_eq_getElem hi]
 simp [yB]
theorem zr8 (l:List zG) (i:Nat):yB (l.take i)<=yB l:=by
 have:=zc0 (l.take i) (l.drop i)
 rw [List.take_append_drop] at this
 omega
theorem zlx {vars dom:Int} :∀(d:Nat) (l:List zG),xg vars dom l d=true->xg vars dom l (d+1)=true:=by
 intro d
 induction d with
 |zero=>
  intro l h
  cases l with
  |nil=>rw [xg]
  |cons x l=>
  rw [zaa] at h
  have:=(zaT (h x (by simp))).1
  omega
 |succ d ih=>
 intro l h
 rw [zaa] at h ⊢
 intro x hx
 have h2:=h x hx
 obtain⟨k,r,v,a,b,y,n⟩:=x
 unfold wM at h2 ⊢
 simp only [Bool.and_eq_true,decide_eq_true_eq] at h2 ⊢
 exact⟨⟨⟨by omega,h2.1.1.2⟩,ih y h2.1.2⟩,ih n h2.2⟩
theorem zpG {vars dom:Int} {d e:Nat} {l:List zG} (h:xg vars dom l d=true) (hl:d<=e):xg vars dom l e=true:=by
 induction hl with
 |refl=>exact h
 |step _ ih=>exact zlx _ _ ih
def gW (vars dom:Int) (yA:Int) (x:zT):Bool:=
 if x.op=12 then qW vars dom 9 yA x else if x.op=13 then qW vars dom 4 yA x else if x.op=10\/x.op=11 then false else qW vars dom x.op 0 x
theorem zgk {vars dom k a b:Int} {x:zT} (h:qW vars dom k a x=true) (hab:a<=b):qW vars dom k b x=true:=by
 unfold qW at h ⊢
 simp only [Bool.and_eq_true,decide_eq_true_eq] at h ⊢
 exact⟨⟨h.1.1,by omega⟩,h.2⟩
theorem zly {vars dom a b:Int} {x:zT} (h:gW vars dom a x=true) (hab:a<=b):gW vars dom b x=true:=by
 unfold gW at h ⊢
 split
 ·rename_i h1;rw [if_pos h1] at h;exact zgk h hab
 rename_i h1;rw [if_neg h1] at h
 split
 ·rename_i h2;rw [if_pos h2] at h;exact zgk h hab
 rename_i h2;rw [if_neg h2] at h;exact h
theorem zdi {vars dom:Int} {k r v:Int} {a b:zH} (hk:k=10\/k=11) (h:qm k r v a b vars dom=true) {yA b_:Int} (h0:0<=yA) (h1:yA<=b_):gW vars dom b_ (vC a yA)=true:=by
 have hp:qm 9 0 0 a default vars dom=true:=by
  have e1:bF 9 0=true:=by decide
  have e2:wU 9 0 vars=true:=by simp [wU,kM]
  have e3:wV 9 a dom=true:=by
   unfold qm at h
   simp only [Bool.and_eq_true] at h
   have:=h.1.2
   rcases hk with rfl|rfl
   ·simpa [wV,kN] using this
   simpa [wV,kN] using this
  have e4:bG 9 default dom=true:=by rfl
  simp [qm,e1,e2,e3,e4]
 show qW vars dom 9 b_ (vC a yA)=true
 unfold qW vC
 simp only [Bool.and_eq_true,decide_eq_true_eq]
 exact⟨⟨⟨by omega,h0⟩,h1⟩,hp⟩
theorem zpb {vars dom:Int} {yA b_:Int} (h0:0<=yA) (h1:yA<=b_):gW vars dom b_ (gX yA)=true:=by
 have hp:qm 4 0 0 default default vars dom=true:=by
  have e2:wU 4 0 vars=true:=by simp [wU,kM]
  have e1:bF 4 0=true:=by decide
  have e3:wV 4 default dom=true:=by rfl
  have e4:bG 4 default dom=true:=by rfl
  simp [qm,e1,e2,e3,e4]
 show qW vars dom 4 b_ (gX yA)=true
 unfold qW gX
 simp only [Bool.and_eq_true,decide_eq_true_eq]
 exact⟨⟨⟨by omega,h0⟩,h1⟩,hp⟩
theorem zuv {vars dom:Int} {k r v:Int} {a b:zH} (h1:1<=k) (h2:k<=11) (hk:¬k=10) (hk2:¬k=11) (h:qm k r v a b vars dom=true) {b_:Int} (_hb:0<=b_):gW vars dom b_ ⟨k,r,v,a,b,0⟩=true:=by
 unfold gW
 rw [if_neg (by show¬k=12;omega),if_neg (by show¬k=13;omega),if_neg (by show¬(k=10\/k=11);omega)]
 unfold qW
 simp only [Bool.and_eq_true,decide_eq_true_eq]
 exact⟨⟨⟨⟨h1,by omega⟩,by omega⟩,by omega⟩,h⟩
def zkQ (vars dom:Int) (at_:Int) (n:Nat) (l:List zT):Prop:=l.length<=3*n/\∀x∈l,gW vars dom (at_+l.length) x=true
theorem zkQ.weak {vars dom at_:Int} {n:Nat} {l:List zT} (h:zkQ vars dom at_ n l) {b:Int} (hb:at_+l.length<=b):∀x∈l,gW vars dom b x=true:=λx hx=>zly (h.2 x hx) hb
mutual
theorem zpT (vars dom:Int):∀(x:zG) (d:Nat) (at_:Int),0<=at_->wM vars dom x d=true->zkQ vars dom at_ (uN x) (vI x at_)
 | .mk k r v a b y n,d,at_,h0,h=>by
  have hp:=zaT h
  simp only [zG.kind,zG.reg,zG.var,zG.a,zG.b,zG.yes,zG.no] at hp
  obtain⟨h1,h2,h3,h4⟩:=hp
  obtain⟨k1,k2,hpart,hkind⟩:=zgj h2
  have hY:=uI vars dom y (d - 1) (at_+1) (by omega) h3
  have hN:=uI vars dom n (d - 1) (at_+2+(zO y (at_+1)).length) (by omega) h4
  rw [uN]
  unfold vI
  split
  ·rename_i hk
   split
   ·refine⟨by have:=hY.1;simp only [List.length_cons];omega,λx hx=> ?_⟩
    rcases List.mem_cons.1 hx with rfl|hx
    ·exact zdi (.inl hk) hpart (by omega) (by simp only [List.length_cons];omega)
    exact hY.weak (by simp only [List.length_cons];omega) x hx
   refine⟨by have:=hY.1;have:=hN.1;simp only [List.length_cons,List.length_append];omega,λx hx=> ?_⟩
   rcases List.mem_cons.1 hx with rfl|hx
   ·exact zdi (.inl hk) hpart (by omega) (by simp only [List.length_cons,List.length_append];omega)
   rcases List.mem_append.1 hx with hx|hx
   ·exact hY.weak (by simp only [List.length_cons,List.length_append];omega) x hx
   rcases List.mem_cons.1 hx with rfl|hx
   ·exact zpb (by omega) (by simp only [List.length_cons,List.length_append];omega)
   exact hN.weak (by simp only [List.length_cons,List.length_append];omega) x hx
  rename_i hk
  split
  ·rename_i hk2
   refine⟨by have:=hY.1;simp only [List.length_cons,List.length_append,List.length_nil];omega,λx hx=> ?_⟩
   rcases List.mem_cons.1 hx with rfl|hx
   ·exact zdi (.inr hk2) hpart (by omega) (by simp only [List.length_cons,List.length_append,List.length_nil];omega)
   rcases List.mem_append.1 hx with hx|hx
   ·exact hY.weak (by simp only [List.length_cons,List.length_append,List.length_nil];omega) x hx
   rw [List.mem_singleton] at hx
   subst hx
   exact zpb h0 (by simp only [List.length_cons,List.length_append,List.length_nil];omega)
  rename_i hk2
  refine⟨by simp only [List.length_cons,List.length_nil];omega,λx hx=> ?_⟩
  rw [List.mem_singleton] at hx
  subst hx
  exact zuv k1 k2 hk hk2 hpart (by simp only [List.length_cons,List.length_nil];omega)
theorem uI (vars dom:Int):∀(l:List zG) (d:Nat) (at_:Int),0<=at_->xg vars dom l d=true->zkQ vars dom at_ (yB l) (zO l at_)
 | [],d,at_,h0,h=>by rw [zO];exact⟨Nat.zero_le _,λx hx=>by simp at hx⟩
 |x::l,d,at_,h0,h=>by
  rw [xg,Bool.and_eq_true] at h
  have hX:=zpT vars dom x d at_ h0 h.1
  have hL:=uI vars dom l d (at_+(vI x at_).length) (by omega) h.2
  rw [zO,yB]
  refine⟨by have:=hX.1;have:=hL.1;rw [List.length_append];omega,λy hy=> ?_⟩
  rcases List.mem_append.1 hy with hy|hy
  ·exact hX.weak (by rw [List.length_append];omega) y hy
  exact hL.weak (by rw [List.length_append];omega) y hy
end
def xyz:List (List UInt8):= [[120], [121], [122]]
structure zee (p:zaB):Prop where
 vars:∃n,1<=n/\n<=3/\p.vars=xyz.take n
 dom:2<=p.domain/\p.domain<=16
 many:1<=p.threads.length/\p.threads.length<=3
 ok:∀l∈p.threads,xg p.vars.length p.domain l 20=true
 all:(p.threads.map yB).sum<=200
def zaN (p:zaB):zK:=⟨p.vars.length,p.domain,p.threads.map (λl=>zO l 0)⟩
theorem zxw {l:List Nat} {x:Nat} (h:x∈l):x<=l.sum:=by
 induction l with
 |nil=>simp at h
 |cons y l ih=>
 rcases List.mem_cons.1 h with rfl|h
 ·simp
 have:=ih h;simp;omega
theorem zee.one {p:zaB} (h:zee p) {l:List zG} (hl:l∈p.threads):yB l<=200:=by
 have:=zxw (List.mem_map.2 ⟨l,hl,rfl⟩:yB l∈p.threads.map yB)
 have:=h.all
 omega
theorem zpN {p:zaB} (h:zee p):codeOk (zaN p)=true:=by
 obtain⟨n,n1,n2,hn⟩:=h.vars
 have hv:p.vars.length=n:=by rw [hn,List.length_take];simp [xyz];omega
 have hd:=h.dom
 have hm:=h.many
 unfold codeOk zaN
 simp only [Bool.and_eq_true,decide_eq_true_eq,List.length_map]
 refine⟨⟨⟨⟨⟨⟨by omega,by omega⟩,by omega⟩,by omega⟩,by omega⟩,by omega⟩, ?_⟩
 rw [List.all_eq_true]
 intro r hr
 obtain⟨l,hl,rfl⟩:=List.mem_map.1 hr
 have hg:=uI p.vars.length p.domain l 20 0 (by omega) (h.ok l hl)
 have h2:=h.one hl
 unfold rowOk
 simp only [Bool.and_eq_true,decide_eq_true_eq]
 refine⟨by have:=hg.1;omega, ?_⟩
 rw [List.all_eq_true]
 intro x hx
 have:=hg.2 x hx
 rw [Int.zero_add] at this
 exact this
theorem zek {a b:Int} (h:a=b):Value.int .i64 a=Value.int .i64 b:=by rw [h]
def zdj (e d:Nat):Prop:=∀(w:World) (l:List zG) (v:Value),yu e d w l v->∀(deep:Nat) (vars dom:Int),deep<=1000->xg vars dom l deep=true->yB l<=200->
 Calls Tryz.prog 92 #[v, .int .i64 deep, .int .i64 vars, .int .i64 dom] w λen w'=>en= .returned (.tuple #[.int .i64 (yB l), .bool true])/\Below w.heap.size w w'
theorem zuw (e d:Nat) (ih:zdj e d):zdj e (d+1):=by
 intro w l v hl deep vars dom zAb hok hN
 obtain⟨la,lc,rfl,hll⟩:=hl.slice
 have htk:=λi (hi:i<l.length)=>zo5 (l:=l) (i:=i) hi
 have hle:=λi=>zr8 l i
 have hz:yB (l.take 0)=0:=by simp [yB]
 have hR:yB l=yB (l.take l.length):=by rw [List.take_length]
 rw [hR] at hN hle ⊢
 obtain⟨NT,hNT⟩:∃NT:Nat->Nat,NT=λi=>yB (l.take i):=⟨_,rfl⟩
 have zy3:∀i,yB (l.take i)=NT i:=λi=>by rw [hNT]
 simp only [zy3] at htk hle hz hN ⊢
 have hall:=zaa.1 hok
 obtain⟨n,hnn⟩:∃n,n=l.length:=⟨_,rfl⟩
 rw [<-hnn] at hl hll htk hN hle ⊢
 have HL:=qh hl
 have HN:=qh hnn
 have jX:=qh htk
 have HLE:=qh hle
 have HZ:=qh hz
 have zun:=qh hall
 have IH:=qh ih
 clear hl hnn htk hle hz hR hNT zy3 hall hok ih
 go_enter Tryz.func92,Tryz.ntmps92
 go_wp2_with fail
 go_loopg [10,11] n (λgg s10 s11 wr=>∃i:Nat,i<=n/\Hid (gg=n - i)/\s10= .int .i64 (NT i)/\s11= .int .i64 i/\Hid (Below w.heap.size w wr))
 case atStart=>exact⟨0,Nat.zero_le _,rfl,zek (by rw [HZ.out];rfl),rfl,Below.refl _ _⟩
 case round=>
 obtain⟨i,hi,HG,rfl,rfl,zX⟩:=hrel
 by_cases hlt:i<n
 rotate_left
 ·obtain rfl:n=i:=by omega
  have hNI:((NT n:Nat):Int)<=200:=by omega
  go_wp2_with fail
  go_ret2
  exact⟨by first|rfl|simp,zX.out⟩
 have qK:(i:Int)<(n:Int):=by omega
 obtain⟨b,off,aa,ac,ba,bc,ya,yc,na,nc,yG, -,hcell,hA,hB,hY,hNo⟩:=yu.part HL.out i (by rw [<-HN.out];exact hlt)
 subst yG
 have hx:=jX.out i hlt
 have hn1:=HLE.out (i+1)
 have hxo:=zun.out (l.getD i default) (qP (by rw [<-HN.out];exact hlt))
 generalize l.getD i default=x at hcell hA hB hY hNo hx hxo
 obtain⟨hd1,hhead,hyo,hno⟩:=zaT hxo
 obtain⟨hk1,hk2,hpart,hkind⟩:=zgj hhead
 rw [zo4] at hx
 have hcy:=λy (hy:Below w.heap.size w y)=>IH.out y x.yes _ (hY.below hy) (deep - 1) vars dom (by omega) hyo (by omega)
 have hcn:=λy (hy:Below w.heap.size w y)=>IH.out y x.no _ (hNo.below hy) (deep - 1) vars dom (by omega) hno (by omega)
 have hcp:=λy (hy:Below w.heap.size w y)=>zl0 y x.kind x.reg x.var x.a x.b _ _ e (hA.below hy) (hB.below hy) vars dom
 rw [hpart] at hcp
 rw [show((deep - 1:Nat):Int)=(deep:Int) - 1 by omega] at hcy hcn
 unfold xQ at hcp
 have x0:wr.cell? ⟨b,off+i*13,none⟩=some (.int .i64 x.kind):=zh zX.out _ _ (hcell 0 (by omega))
 have x1:wr.cell? ⟨b,off+i*13+1,none⟩=some (.int .i64 x.reg):=zh zX.out _ _ (hcell 1 (by omega))
 have x2:wr.cell? ⟨b,off+i*13+2,none⟩=some (.int .i64 x.var):=zh zX.out _ _ (hcell 2 (by omega))
 have x3:wr.cell? ⟨b,off+i*13+3,none⟩=some (.int .i64 x.a.kind):=zh zX.out _ _ (hcell 3 (by omega))
 have x4:wr.cell? ⟨b,off+i*13+4,none⟩=some (.int .i64 x.a.n):=zh zX.out _ _ (hcell 4 (by omega))
 have x5:wr.cell? ⟨b,off+i*13+5,none⟩=some (.int .u8 x.a.op):=zh zX.out _ _ (hcell 5 (by omega))
 have x6:wr.cell? ⟨b,off+i*13+6,none⟩=some (.slice aa x.a.kids.length ac):=zh zX.out _ _ (hcell 6 (by omega))
 have x7:wr.cell? ⟨b,off+i*13+7,none⟩=some (.int .i64 x.b.kind):=zh zX.out _ _ (hcell 7 (by omega))
 have x8:wr.cell? ⟨b,off+i*13+8,none⟩=some (.int .i64 x.b.n):=zh zX.out _ _ (hcell 8 (by omega))
 have x9:wr.cell? ⟨b,off+i*13+9,none⟩=some (.int .u8 x.b.op):=zh zX.out _ _ (hcell 9 (by omega))
 have x10:wr.cell? ⟨b,off+i*13+10,none⟩=some (.slice ba x.b.kids.length bc):=zh zX.out _ _ (hcell 10 (by omega))
 have kE:wr.cell? ⟨b,off+i*13+11,none⟩=some (.slice ya x.yes.length yc):=zh zX.out _ _ (hcell 11 (by omega))
 have x12:wr.cell? ⟨b,off+i*13+12,none⟩=some (.slice na x.no.length nc):=zh zX.out _ _ (hcell 12 (by omega))
 generalize hyN:yB x.yes=yN at hx hcy
 generalize hnN:yB x.no=nN at hx hcn
 generalize x.kind=q0 at x0 hcp hk1 hk2 hkind
 generalize x.reg=q1 at x1 hcp
 generalize x.var=q2 at x2 hcp
 generalize x.a.kind=q3 at x3 hcp
 generalize x.a.n=q4 at x4 hcp
 generalize x.a.op=q5 at x5 hcp
 generalize x.a.kids.length=q6 at x6 hcp
 generalize x.b.kind=q7 at x7 hcp
 generalize x.b.n=q8 at x8 hcp
 generalize x.b.op=q9 at x9 hcp
 generalize x.b.kids.length=q10 at x10 hcp
 generalize x.yes.length=q11 at kE hcy hkind
 generalize x.no.length=q12 at x12 hcn hkind
 have HX:Hid (NT (i+1)=NT i+(1+yN+nN)):=hx
 have hs1:NT i+(1+yN+nN)<=200:=by omega
 generalize NT i=ni at HX hs1 ⊢
 have HCY:=qh hcy
 have HCN:=qh hcn
 have HCP:=qh hcp
 clear hcell hA hB hY hNo hx hn1 hxo hhead hyo hno hpart hcy hcn hcp hyN hnN
 have z5H:(1:Int)<=(deep:Int):=by omega
 have zAc:(ni:Int)+1<=200:=by omega
 have b1:decide ((deep:Int)<1)=false:=by rw [decide_eq_false_iff_not];omega
 have b2:decide ((200:Int)<(ni:Int)+1)=false:=by rw [decide_eq_false_iff_not];omega
 have b3:decide (q0<1)=false:=by rw [decide_eq_false_iff_not];omega
 have b4:decide (11<q0)=false:=by rw [decide_eq_false_iff_not];omega
 have HK:=qh hkind
 clear hkind hd1
 go_upto_region 7 with fail
 clear x0 x1 x2 x3 x4 x5 x6 x7 x8 x9 x10 kE x12
 have hbx:=zB zX.out ((Below.refl wr.heap.size wr).alloc (Nat.le_refl _) (.cells #[.int .i64 q0, .int .i64 q1, .int .i64 q2, .int .i64 q3, .int .i64 q4, .int .u8 q5, .slice aa q6 ac, .int .i64 q7, .int .i64 q8, .int .u8 q9, .slice ba q10 bc, .slice ya q11 yc, .slice na q12 nc] 181))
 have hg:=yE wr (.cells #[.int .i64 q0, .int .i64 q1, .int .i64 q2, .int .i64 q3, .int .i64 q4, .int .u8 q5, .slice aa q6 ac, .int .i64 q7, .int .i64 q8, .int .u8 q9, .slice ba q10 bc, .slice ya q11 yc, .slice na q12 nc] 181)
 have xC:=qh hbx
 have yV:=qh hg
 clear hbx hg
 generalize World.alloc wr _=X at xC yV ⊢
 generalize wr.heap.size=gx at yV ⊢
 have y0:=za yV.out 0
 have y1:=za yV.out 1
 have y2:=za yV.out 2
 have y3:=za yV.out 3
 have y4:=za yV.out 4
 have y5:=za yV.out 5
 have y6:=za yV.out 6
 have y7:=za yV.out 7
 have y8:=za yV.out 8
 have y9:=za yV.out 9
 have y10:=za yV.out 10
 go_upto_region 9 with(go_at_call 85;go_must(refine(HCP.out X xC.out).mono ?_);rintro en X1 ⟨rfl,hb⟩;(have HB1:=qh hb);clear hb y0 y1 y2 y3 y4 y5 y6 y7 y8 y9 y10)
 have zy5:=qh (zB xC.out HB1.out)
 have xV:=qh ((HB1.out.block _ (zq yV.out)).trans yV.out)
 have z0:X1.cell? ⟨gx,0,none⟩=some (.int .i64 q0):=za xV.out 0
 have z5:X1.cell? ⟨gx,11,none⟩=some (.slice ya q11 yc):=za xV.out 11
 have z6:X1.cell? ⟨gx,12,none⟩=some (.slice na q12 nc):=za xV.out 12
 clear xC HB1 yV b1 b2 b3 b4
 go_cut [80] (λs80 w'=>s80= .bool false/\w'=X1)
 case first=>
  by_cases h10:q0=10
  ·subst h10
   go_wp2_with fail
   go_meet
   case rel=>exact⟨(by first|rfl|simp),rfl⟩
  have hk:=HK.out.resolve_left h10
  have zux:(q0==10)=false:=by rw [beq_eq_false_iff_ne];exact h10
  have z5I:(q0 !=10)=true:=by rw [bne,zux];rfl
  obtain⟨hno,hk⟩:=hk
  subst hno
  clear h10
  by_cases h11:q0=11
  ·subst h11
   clear zux z5I
   go_wp2_with fail
   go_meet
   case rel=>exact⟨(by first|rfl|simp),rfl⟩
  have zy6:(q0==11)=false:=by rw [beq_eq_false_iff_ne];exact h11
  have zAu:(q0 !=11)=true:=by rw [bne,zy6];rfl
  have hy0:=hk.resolve_left h11
  subst hy0
  clear h11 hk zux zy6
  go_wp2_with fail
  go_meet
  case rel=>exact⟨(by first|rfl|simp),rfl⟩
 case rest=>
 obtain⟨rfl,hwv⟩:=hcut
 obtain rfl:X1=wc:=hwv.symm
 clear z0
 go_upto_region 12 with(go_at_call 92;go_must(refine(HCY.out X1 zy5.out).mono ?_);rintro en X2 ⟨rfl,hb⟩;(have HB2:=qh hb);(have zpU:=qh (zB zy5.out hb));clear hb;(have z6':=zh HB2.out _ _ z6);clear z5 z6)
 go_upto_region 13 with(go_at_call 92;go_must(refine(HCN.out X2 zpU.out).mono ?_);rintro en X3 ⟨rfl,hb⟩;(have z5J:=qh (zB zpU.out hb));clear hb z6')
 go_wp2_with fail
 go_roundg (n - (i+1))
 case measure=>rw [HG.out];omega
 case rel=>exact⟨i+1,by omega,rfl,zek (by rw [HX.out];omega),by simp,z5J.out⟩
theorem zrA (e d:Nat):zdj e d:=by
 induction d with
 |zero=>intro w l v hl;exact hl.elim
 |succ d ih=>exact zuw e d ih
def zl1 (_:World) (x:List UInt8) (cs:List Value):Prop:=cs= [.string ⟨x.toArray⟩]
theorem zl1.stays:jO zl1:=λ_ _ _ _ h _=>h
abbrev zbM:=ze zl1 1
theorem zbM.part {w:World} {a:Option Addr} {n cap:Nat} {l:List (List UInt8)} (h:zbM w (.slice a n cap) l) (j:Nat) (hj:j<l.length):∃b off,a=some ⟨b,off,none⟩/\b<w.heap.size/\w.cell? ⟨b,off+j,none⟩=some (.string ⟨(l.getD j []).toArray⟩):=by
 obtain⟨b,off,cs,h1,h2,h3,h4,h5⟩:=ze.part h j hj
 have h5:cs= [.string ⟨(l.getD j default).toArray⟩] :=h5
 subst h5
 have:=h4 0 (by omega)
 rw [Nat.mul_one,Nat.add_zero] at this
 exact⟨b,off,h1,h2,this⟩
def zgQ (e d:Nat) (w:World) (l:List zG) (cs:List Value):Prop:=∃v,cs= [v] /\yu e d w l v
theorem zgQ.stays (e d:Nat):jO (zgQ e d):=λ_ _ _ _ ⟨v,h,h1⟩ hb=>⟨v,h,h1.below hb⟩
abbrev zdk (e d:Nat):=ze (zgQ e d) 1
theorem zdk.part {e d:Nat} {w:World} {a:Option Addr} {n cap:Nat} {l:List (List zG)} (h:zdk e d w (.slice a n cap) l) (j:Nat) (hj:j<l.length):∃b off ka kc,a=some ⟨b,off,none⟩/\b<w.heap.size/\w.cell? ⟨b,off+j,none⟩=some (.slice ka (l.getD j []).length kc)/\yu e d w (l.getD j []) (.slice ka (l.getD j []).length kc):=by
 obtain⟨b,off,cs,h1,h2,h3,h4,v,h5,h6⟩:=ze.part h j hj
 subst h5
 obtain⟨ka,kc,rfl, -⟩:=h6.slice
 have:=h4 0 (by omega)
 rw [Nat.mul_one,Nat.add_zero] at this
 exact⟨b,off,ka,kc,h1,h2,this,h6⟩
def zed (p:zaB) (vv tv:Value):Value:= .agg #[vv, .int .i64 p.domain,tv]
structure zbN (e d:Nat) (w:World) (p:zaB) (vv tv:Value):Prop where
 vars:zbM w vv p.vars
 threads:zdk e d w tv p.threads
theorem zbN.below {e d:Nat} {w w':World} {p:zaB} {vv tv:Value} (h:zbN e d w p vv tv) (hb:Below w.heap.size w w'):zbN e d w' p vv tv:=⟨ze.below zl1.stays h.vars hb,ze.below (zgQ.stays e d) h.threads hb⟩
theorem zy7 {n i:Nat} (hn:n<=3) (hi:i<n):∃b:UInt8,(xyz.take n).getD i [] = [b] /\zej b.toNat=true/\b.toNat=120+i:=by
 have hi3:i=0\/i=1\/i=2:=by omega
 have e:(xyz.take n).getD i [] =xyz.getD i [] :=by simp only [List.getD_eq_getElem?_getD,List.getElem?_take_of_lt hi]
 rw [e]
 rcases hi3 with rfl|rfl|rfl
 ·exact⟨120,rfl,rfl,rfl⟩
 ·exact⟨121,rfl,rfl,rfl⟩
 exact⟨122,rfl,rfl,rfl⟩
theorem zy8 {a b:UInt8} (h:a≠b):((⟨#[a]⟩:ByteArray).toList==(⟨#[b]⟩:ByteArray).toList)=false:=by
 rw [beq_eq_false_iff_ne,ByteArray.toList_eq,ByteArray.toList_eq]
 intro e
 exact h (by simpa using e)
theorem zuy {l:List Nat} {i:Nat} (hi:i<l.length):(l.take (i+1)).sum=(l.take i).sum+l.getD i 0:=by
 rw [List.take_succ_eq_append_getElem hi,List.sum_append,List.getD_eq_getElem?_getD,List.getElem?_eq_getElem hi];simp
theorem zy9 (l:List Nat) (i:Nat):(l.take i).sum<=l.sum:=by
 have:(l.take i).sum+(l.drop i).sum=l.sum:=by rw [<-List.sum_append,List.take_append_drop]
 omega
theorem zkF (e d:Nat) (w:World) (p:zaB) (hp:zee p) (vv tv:Value) (h:zbN e d w p vv tv):Calls Tryz.prog 54 #[zed p vv tv] w λe w'=>e= .returned (.bool true)/\Below w.heap.size w w':=by
 obtain⟨va,vc,rfl, -⟩:=ze.slice h.vars
 obtain⟨ta,tc,rfl, -⟩:=ze.slice h.threads
 obtain⟨vn,v1,v2,hv⟩:=hp.vars
 have hvl:p.vars.length=vn:=by rw [hv,List.length_take];simp [xyz];omega
 obtain⟨d1,d2⟩:=hp.dom
 obtain⟨m1,m2⟩:=hp.many
 obtain⟨tn,htn⟩:∃n,n=p.threads.length:=⟨_,rfl⟩
 have hxy:=λi (hi:i<vn)=>zy7 v2 hi
 rw [<-hv] at hxy
 have hok:∀i,i<tn->xg vn p.domain (p.threads.getD i []) 20=true/\yB (p.threads.getD i [])<=200:=λi hi=>by
  have hm:p.threads.getD i [] ∈p.threads:=qP (by rw [<-htn];exact hi)
  have:=hp.ok _ hm
  rw [hvl] at this
  exact⟨this,hp.one hm⟩
 obtain⟨ST,hST⟩:∃ST:Nat->Nat,ST=λi=>((p.threads.map yB).take i).sum:=⟨_,rfl⟩
 have hst:∀i,i<tn->ST (i+1)=ST i+yB (p.threads.getD i []):=λi hi=>by
  simp only [hST]
  have:=zuy (l:=p.threads.map yB) (i:=i) (by simp [<-htn];exact hi)
  rw [this]
  simp [List.getD_eq_getElem?_getD,List.getElem?_eq_getElem (htn ▸ hi:i<p.threads.length)]
 have zyA:∀i,ST i<=200:=λi=>by rw [hST];exact Nat.le_trans (zy9 _ _) hp.all
 have hs0:ST 0=0:=by rw [hST];rfl
 have hvars:=h.vars
 have zat:=h.threads
 rw [<-hvl] at hxy
 unfold zed
 generalize p.domain=dom at d1 d2 hok ⊢
 rw [<-htn] at m1 m2
 generalize p.vars=L at hvl hvars hxy ⊢
 generalize p.threads=T at htn zat hok hst ⊢
 rw [hvl] at hvars hxy ⊢
 rw [<-htn] at zat ⊢
 have hB:=(Below.refl w.heap.size w).alloc (Nat.le_refl _) (.cells #[.slice va vn vc, .int .i64 dom, .slice ta tn tc] 78)
 have H1:=qh (yE w (.cells #[.slice va vn vc, .int .i64 dom, .slice ta tn tc] 78))
 have zel:=qh (ze.below zl1.stays hvars hB)
 have zgS:=qh (ze.below (zgQ.stays e d) zat hB)
 have HB:=qh hB
 have HVL:=qh hvl
 have HTN:=qh htn
 have HXY:=qh hxy
 have vS:=qh hok
 have HST:=qh hst
 have z5K:=qh zyA
 have bH:=qh hs0
 clear hvars zat hB hvl htn hxy hok hst zyA hs0 h hp hv hST
 have b1:decide ((vn:Int)<1)=false:=by rw [decide_eq_false_iff_not];omega
 have b2:decide ((4:Int)<(vn:Int))=false:=by rw [decide_eq_false_iff_not];omega
 have b3:decide (dom<2)=false:=by rw [decide_eq_false_iff_not];omega
 have b4:decide (16<dom)=false:=by rw [decide_eq_false_iff_not];omega
 have b5:decide ((tn:Int)<1)=false:=by rw [decide_eq_false_iff_not];omega
 have b6:decide ((4:Int)<(tn:Int))=false:=by rw [decide_eq_false_iff_not];omega
 go_enter Tryz.func54,Tryz.ntmps54
 go_upto_region 1 with fail
 generalize World.alloc w _=W at HB H1 zel zgS ⊢
 generalize w.heap.size=gx at H1 ⊢
 have z5L:Hid (∀x,Below W.heap.size W x->Below w.heap.size w x):=λx hx=>HB.out.trans (hx.mono HB.out.size)
 have HC:Hid (∀x,Below W.heap.size W x->x.cell? ⟨gx,0,none⟩=some (.slice va vn vc)/\x.cell? ⟨gx,1,none⟩=some (.int .i64 dom)/\x.cell? ⟨gx,2,none⟩=some (.slice ta tn tc)):=λx hx=>⟨zh hx _ _ (za H1.out 0),zh hx _ _ (za H1.out 1),zh hx _ _ (za H1.out 2)⟩
 obtain⟨c0,c1,c2⟩:=HC.out W (Below.refl _ _)
 go_wp2_with fail
 clear c0 c1 c2 b1 b2 b3 b4 b5 b6
 go_loopg [3] vn (λgg s3 wr=>∃i:Nat,i<=vn/\Hid (gg=vn - i)/\s3= .int .i64 i/\Hid (Below W.heap.size W wr))
 case atStart=>exact⟨0,Nat.zero_le _,rfl,rfl,Below.refl _ _⟩
 case round=>
 obtain⟨i,hi,HG,rfl,zX⟩:=hrel
 obtain⟨c0,c1,c2⟩:=HC.out wr zX.out
 by_cases hlt:i<vn
 ·have qK:(i:Int)<(vn:Int):=by omega
  obtain⟨b,off,yG, -,x0⟩:=zbM.part zel.out i (by rw [HVL.out];exact hlt)
  subst yG
  obtain⟨u,hu1,hu2,hu3⟩:=HXY.out i hlt
  rw [hu1] at x0
  have hname:Calls Tryz.prog 91 #[.string ⟨#[u]⟩] wr λe w'=>e= .returned (.bool true)/\Below wr.heap.size wr w':=zuu wr u hu2
  have zuz:∀v:UInt8,v≠u->((⟨#[v]⟩:ByteArray).toList==(⟨#[u]⟩:ByteArray).toList)=false:=λv hv=>zy8 hv
  have x0':W.cell? ⟨b,off+i,none⟩=some (.string ⟨#[u]⟩):=x0
  generalize (⟨#[u]⟩:ByteArray)=su at x0' hname zuz
  have HX0:=qh x0'
  have HU3:=qh hu3
  have z5M:=qh zuz
  have y0:wr.cell? ⟨b,off+i,none⟩=some (.string su):=zh zX.out _ _ x0'
  have zwr:=qh hname
  clear hu1 hu2 hu3 x0 x0' hname zuz
  go_upto_region 8 with(go_at_call 91;go_must(refine zwr.out.mono ?_);rintro en X1 ⟨rfl,hb⟩;(have HB1:=qh (zB zX.out hb));clear hb y0 c0 c1 c2 zwr)
  go_wp2_with fail
  clear zX
  go_loopg [4] i (λgg s4 wr=>∃k:Nat,k<=i/\Hid (gg=i - k)/\s4= .int .i64 k/\Hid (Below W.heap.size W wr))
  case atStart=>exact⟨0,Nat.zero_le _,rfl,rfl,HB1.out⟩
  case round=>
  obtain⟨k,hk,HG2,rfl,zl2⟩:=hrel
  by_cases hlk:k<i
  rotate_left
  ·obtain rfl:i=k:=by omega
   go_wp2_with fail
   go_roundg (vn - (i+1))
   case measure=>rw [HG.out];omega
   case rel=>exact⟨i+1,by omega,rfl,by simp,zl2.out⟩
  have z5N:(k:Int)<(i:Int):=by omega
  obtain⟨b',off',yG, -,x1⟩:=zbM.part zel.out k (by rw [HVL.out];omega)
  obtain⟨rfl,rfl⟩:b=b'/\off=off':=by simpa using yG
  obtain⟨v,hv1,hv2,hv3⟩:=HXY.out k (by omega)
  rw [hv1] at x1
  have hne:v≠u:=λe=>by have:=HU3.out;rw [e] at hv3;omega
  have hnl:=z5M.out v hne
  obtain⟨c0,c1,c2⟩:=HC.out wr zl2.out
  have y0:wr.cell? ⟨b,off+i,none⟩=some (.string su):=zh zl2.out _ _ HX0.out
  have y1:wr.cell? ⟨b,off+k,none⟩=some (.string ⟨#[v]⟩):=zh zl2.out _ _ x1
  clear hv1 hv2 hv3 x1 hne
  generalize (⟨#[v]⟩:ByteArray)=sv at y1 hnl
  go_upto_region 11 with fail
  go_quiet (fail)
  go_wp2_with fail
  go_roundg (i - (k+1))
  case measure=>rw [HG2.out];omega
  case rel=>exact⟨k+1,by omega,rfl,by simp,yj zl2.out _⟩
 obtain rfl:vn=i:=by omega
 go_wp2_with fail
 clear c0 c1 c2
 go_loopg [5,6] tn (λgg s5 s6 wr=>∃i:Nat,i<=tn/\Hid (gg=tn - i)/\s5= .int .i64 (ST i)/\s6= .int .i64 i/\Hid (Below W.heap.size W wr))
 case atStart=>exact⟨0,Nat.zero_le _,rfl,zek (by rw [bH.out];rfl),rfl,zX.out⟩
 case round=>
 obtain⟨i,hi,HG,rfl,rfl,zX⟩:=hrel
 obtain⟨c0,c1,c2⟩:=HC.out wr zX.out
 by_cases hlt:i<tn
 rotate_left
 ·obtain rfl:tn=i:=by omega
  go_wp2_with fail
  go_ret
  exact⟨rfl,z5L.out _ zX.out⟩
 have qK:(i:Int)<(tn:Int):=by omega
 obtain⟨b,off,ka,kc,yG, -,x0,hst⟩:=zdk.part zgS.out i (by rw [<-HTN.out];exact hlt)
 subst yG
 obtain⟨hok,zu0⟩:=vS.out i hlt
 have hs1:=HST.out i hlt
 have hs2:=z5K.out (i+1)
 generalize T.getD i [] =l at x0 hst hok zu0 hs1
 have hcl:=λy (hy:Below W.heap.size W y)=>zrA e d y l _ (hst.below hy) 20 vn dom (by omega) hok zu0
 have y0:=zh zX.out _ _ x0
 generalize l.length=ln at y0 hcl
 have vU:Hid (ST (i+1)=ST i+yB l):=hs1
 have hsum:ST i+yB l<=200:=by omega
 generalize yB l=sn at hcl vU hsum
 generalize ST i=si at vU hsum ⊢
 have HCL:=qh hcl
 clear hst hok zu0 hs1 hs2 hcl x0
 go_upto_region 17 with fail
 have CC:Hid (∀x,Below wr.heap.size wr x->x.cell? ⟨gx,0,none⟩=some (.slice va vn vc)/\x.cell? ⟨gx,1,none⟩=some (.int .i64 dom)/\x.cell? ⟨gx,2,none⟩=some (.slice (some ⟨b,off,none⟩) tn tc)/\x.cell? ⟨b,off+i,none⟩=some (.slice ka ln kc)):=λx hx=>⟨zh hx _ _ c0,zh hx _ _ c1,zh hx _ _ c2,zh hx _ _ y0⟩
 clear y0 c0 c1 c2
 refine vJ (S:=λx=>Below wr.heap.size wr x) (Below.refl _ _).drew (λhH=> ?_)
 refine zk 0 CC.out ?_
 refine zk 1 CC.out ?_
 refine zk 2 CC.out ?_
 refine zk 3 CC.out ?_
 refine zk 4 CC.out ?_
 refine zk 5 CC.out ?_
 refine zk 6 CC.out ?_
 refine zk 7 CC.out ?_
 refine zk 8 CC.out ?_
 refine zk 9 CC.out ?_
 refine yw 10 rfl (λK hK=> ?_)
 go_simp
 refine(HCL.out wr.drew (zB zX.out hH)).mono ?_
 rintro en z5O ⟨rfl,hb⟩
 have zpV:Below wr.heap.size wr z5O:=zB hH hb
 refine hK.out _ _ zpV (λ_=> ?_)
 clear hK K hb hH
 refine zk 11 CC.out ?_
 refine zk 12 CC.out ?_
 refine zk 13 CC.out ?_
 refine zk 14 CC.out ?_
 refine zk 15 CC.out ?_
 refine xM ?_
 have vM:=qh (zB zX.out zpV)
 clear zpV CC
 have zAd:(si:Int)+(sn:Int)<=200:=by omega
 have b1:decide ((200:Int)<(si:Int)+(sn:Int))=false:=by rw [decide_eq_false_iff_not];omega
 go_wp2_with fail
 go_roundg (tn - (i+1))
 case measure=>rw [HG.out];omega
 case rel=>exact⟨i+1,by omega,rfl,zek (by rw [vU.out];omega),by simp,vM.out⟩
