/- Steps. -/
import Derived.Test.YtmijlmglnnbdjaaGreatDoorUtBlocks
set_option linter.all false
namespace Go.Proofs.YtmijlmglnnbdjaaGreatDoor
open Go.RowKit
set_option maxRecDepth 100000
set_option maxHeartbeats 16000000
def zgH (c:Int):Bool:=decide (97<=c) && decide (c<=122)
theorem zpW (w:World) (c:Int):Calls Tryz.prog 114 #[.int .u8 c] w λe b=>e= .returned (.bool (zgH c))/\Below w.heap.size w b:=by
 unfold zgH;by_cases h1:97<=c
 ·go_enter Tryz.func114,Tryz.ntmps114
  go_wp2
  go_ret;exact⟨by simp [h1],Below.refl _ _⟩
 go_enter Tryz.func114,Tryz.ntmps114
 go_wp2
 go_ret;exact⟨by simp;omega,Below.refl _ _⟩
def zkd (b:UInt8):Value:= .string ⟨#[b]⟩
theorem zlV (w:World) (b:UInt8):Calls Tryz.prog 116 #[zkd b] w λe f=>e= .returned (I4 (-1))/\Below w.heap.size w f:=by
 unfold zkd;have c:((⟨#[b]⟩:ByteArray)).size=1:=rfl;generalize (⟨#[b]⟩:ByteArray)=s at c ⊢;have d:((s.size:Int)==2)=false:=by rw [c];rfl
 go_enter Tryz.func116,Tryz.ntmps116
 go_wp2
 go_ret;exact⟨rfl,Below.refl _ _⟩
def z9I:List ByteArray:= [⟨#[118,97,114,115]⟩,⟨#[100,111,109,97,105,110]⟩,⟨#[116,104,114,101,97,100]⟩,⟨#[102,101,110,99,101]⟩,⟨#[115,102,101,110,99,101]⟩,⟨#[99,97,115]⟩,⟨#[108,111,99,107]⟩,⟨#[117,110,108,111,99,107]⟩,⟨#[97,115,115,101,114,116]⟩,⟨#[105,102]⟩,⟨#[101,108,115,101]⟩,⟨#[119,104,105,108,101]⟩]
theorem z18 (i:Nat) (f:i<12) (s:ByteArray) (d:s.size=1):∃k:ByteArray,(z9I.map Value.string)[i]? =some (.string k)/\k≠s:=by
 have b:∀k:ByteArray,k.size≠1->k≠s:=λk c e=>by rw [e] at c;exact c d
 match i,f with
 |0,_=>exact⟨_,rfl,b _ (by decide)⟩
 |1,_=>exact⟨_,rfl,b _ (by decide)⟩
 |2,_=>exact⟨_,rfl,b _ (by decide)⟩
 |3,_=>exact⟨_,rfl,b _ (by decide)⟩
 |4,_=>exact⟨_,rfl,b _ (by decide)⟩
 |5,_=>exact⟨_,rfl,b _ (by decide)⟩
 |6,_=>exact⟨_,rfl,b _ (by decide)⟩
 |7,_=>exact⟨_,rfl,b _ (by decide)⟩
 |8,_=>exact⟨_,rfl,b _ (by decide)⟩
 |9,_=>exact⟨_,rfl,b _ (by decide)⟩
 |10,_=>exact⟨_,rfl,b _ (by decide)⟩
 |11,_=>exact⟨_,rfl,b _ (by decide)⟩
theorem z04 (w:World) (b:UInt8):Calls Tryz.prog 115 #[zkd b] w λe l=>e= .returned (.bool false)/\Below w.heap.size w l:=by
 unfold zkd;have c:((⟨#[b]⟩:ByteArray)).size=1:=rfl;generalize (⟨#[b]⟩:ByteArray)=s at c ⊢;have j:=qh ((Below.refl w.heap.size w).alloc (Nat.le_refl _) (.cells #[.string ⟨#[118,97,114,115]⟩, .string ⟨#[100,111,109,97,105,110]⟩, .string ⟨#[116,104,114,101,97,100]⟩, .string ⟨#[102,101,110,99,101]⟩, .string ⟨#[115,102,101,110,99,101]⟩, .string ⟨#[99,97,115]⟩, .string ⟨#[108,111,99,107]⟩, .string ⟨#[117,110,108,111,99,107]⟩, .string ⟨#[97,115,115,101,114,116]⟩, .string ⟨#[105,102]⟩, .string ⟨#[101,108,115,101]⟩, .string ⟨#[119,104,105,108,101]⟩] 9))
 have h:=qh (zQ w (.cells #[.string ⟨#[118,97,114,115]⟩, .string ⟨#[100,111,109,97,105,110]⟩, .string ⟨#[116,104,114,101,97,100]⟩, .string ⟨#[102,101,110,99,101]⟩, .string ⟨#[115,102,101,110,99,101]⟩, .string ⟨#[99,97,115]⟩, .string ⟨#[108,111,99,107]⟩, .string ⟨#[117,110,108,111,99,107]⟩, .string ⟨#[97,115,115,101,114,116]⟩, .string ⟨#[105,102]⟩, .string ⟨#[101,108,115,101]⟩, .string ⟨#[119,104,105,108,101]⟩] 9));go_enter Tryz.func115,Tryz.ntmps115
 go_upto_region 2 with fail
 generalize World.alloc w _=W at j h ⊢;generalize w.heap.size=g at h ⊢;go_wp2_with fail
 go_loopg [4] 12 (λt n wr=>∃i:Nat,i<=12/\J2 (t=12 - i)/\n=I4 i/\wr=W)
 case atStart=>exact⟨0,by omega,rfl,rfl,rfl⟩
 case round=>
 obtain⟨i,x,f,rfl,rfl⟩:=hrel;by_cases hlt:i<12
 rotate_left
 ·obtain rfl:i=12:=by omega
  go_wp2_with fail
  go_ret;exact⟨rfl,j.o⟩
 have v:(i:Int)<12:=by omega
 obtain⟨k,r,d⟩:=z18 i hlt s c;have u:wr.cell? ⟨g,i,none⟩=some (.string k):=by rw [ze h.o,List.getElem?_toArray];exact r
 have q:(k.toList==s.toList)=false:=by
  rw [ByteArray.toList_eq,ByteArray.toList_eq,beq_eq_false_iff_ne];intro e;apply d
  obtain⟨p⟩:=k;obtain⟨m⟩:=s;have:p=m:=Array.toList_inj.1 e
  rw [this]
 go_wp2_with fail
 go_roundg (12 - (i+1))
 case measure=>rw [f.o];omega
 case rel=>exact⟨i+1,by omega,rfl,by simp,rfl⟩
theorem zvD (w:World) (b:UInt8) (B:zgH b.toNat=true):Calls Tryz.prog 79 #[zkd b] w λe q=>e= .returned (.bool true)/\Below w.heap.size w q:=by
 have p:=λy=>z04 y b;have n:=λy=>zlV y b;unfold zkd at p n ⊢;have r:((⟨#[b]⟩:ByteArray)).size=1:=rfl;have c:∀h:0<((⟨#[b]⟩:ByteArray)).size,((⟨#[b]⟩:ByteArray))[0]'h=b:=λ_=>rfl;have f:((⟨#[b]⟩:ByteArray)).toList.isEmpty=false:=by rw [ByteArray.toList_eq];rfl
 generalize (⟨#[b]⟩:ByteArray)=s at r c p n f ⊢
 have d:∀(y:World) (h:0<s.size),Calls Tryz.prog 114 #[.int .u8 ((s[0]'h).toNat:Int)] y λe q=>e= .returned (.bool true)/\Below y.heap.size y q:=λy h=>by
  have:=zpW y (b.toNat:Int)
  rw [B] at this;rw [c h];exact this
 have G:=qh p;have F:=qh n;have g:=qh d;clear p n d c;have A:(s.toList==([] :List UInt8))=false:=by rw [beq_eq_false_iff_ne];intro e;rw [e] at f;cases f
 go_enter Tryz.func79,Tryz.ntmps79
 go_wp2_with(first|(go_at_call 116;go_must(refine(F.o D).mono ?_);rintro e J ⟨rfl,k⟩)|(go_at_call 115;go_must(refine(G.o E).mono ?_);rintro e D ⟨rfl,l⟩)|(go_at_call 114;go_must(refine(g.o w _).mono ?_);rintro e E ⟨rfl,m⟩));have u:=qh (zy (zy m l) k);clear m l k;go_loopg [3] 1 (λC x wr=>∃i:Nat,i<=1/\J2 (C=1 - i)/\x=I4 i/\J2 (Below w.heap.size w wr))
 case atStart=>exact⟨0,by omega,rfl,rfl,u.o⟩
 case round=>
 obtain⟨i,H,t,rfl,v⟩:=hrel;by_cases hlt:i<1
 ·obtain rfl:i=0:=by omega
  go_wp2_with(go_at_call 114;go_must(refine(g.o wr _).mono ?_);rintro e I ⟨rfl,j⟩;(have z:=qh (zy v.o j));clear j);go_roundg 0
  case measure=>rw [t.o];omega
  case rel=>exact⟨1,by omega,rfl,by simp,z.o⟩
 obtain rfl:i=1:=by omega
 go_wp2_with fail
 go_ret;exact⟨rfl,v.o⟩
mutual
def zaM:zP->Nat
 | .mk _ _ _ _ _ y n=>1+yS y+yS n
def yS:List zP->Nat
 | [] =>0
 |x::l=>zaM x+yS l
end
def zfX (vars dom k r v:Int) (a b:zR) (y n:List zP):Bool:=decide (1<=k) && decide (k<=11) && vg k r v a b vars dom && (decide (k=10)||decide (n.length=0) && (decide (k=11)||decide (y.length=0)))
mutual
def bH (vars dom:Int):zP->Nat->Bool
 | .mk k r v a b y n,d=>decide (1<=d) && zfX vars dom k r v a b y n && xM vars dom y (d - 1) && xM vars dom n (d - 1)
def xM (vars dom:Int):List zP->Nat->Bool
 | [],_=>true
 |x::l,d=>bH vars dom x d && xM vars dom l d
end
theorem zcZ {vars dom:Int} {x:zP} {d:Nat} (h:bH vars dom x d=true):1<=d/\zfX vars dom x.kind x.reg x.var x.a x.b x.yes x.no=true/\xM vars dom x.yes (d - 1)=true/\xM vars dom x.no (d - 1)=true:=by
 obtain⟨k,r,v,a,b,y,n⟩:=x;unfold bH at h;simp only [Bool.and_eq_true,decide_eq_true_eq] at h;exact⟨h.1.1.1,h.1.1.2,h.1.2,h.2⟩
theorem zoj (x:zP):zaM x=1+yS x.yes+yS x.no:=by
 obtain⟨k,r,v,a,b,y,n⟩:=x;rw [zaM];rfl
theorem zi3 {vars dom k r v:Int} {a b:zR} {y n:List zP} (h:zfX vars dom k r v a b y n=true):1<=k/\k<=11/\vg k r v a b vars dom=true/\(k=10\/n.length=0/\(k=11\/y.length=0)):=by
 unfold zfX at h;simp only [Bool.and_eq_true,Bool.or_eq_true,decide_eq_true_eq] at h;exact⟨h.1.1.1,h.1.1.2,h.1.2,h.2⟩
theorem zbT {vars dom:Int} {l:List zP} {d:Nat} :xM vars dom l d=true↔∀x∈l,bH vars dom x d=true:=by
 induction l with
 |nil=>simp [xM]
 |cons x l ih=>rw [xM,Bool.and_eq_true,ih];simp
theorem zeK (l r:List zP):yS (l++r)=yS l+yS r:=by
 induction l with
 |nil=>simp [yS]
 |cons x l ih=>rw [List.cons_append,yS,yS,ih];omega
theorem zok {l:List zP} {i:Nat} (b:i<l.length):yS (l.take (i+1))=yS (l.take i)+zaM (l.getD i default):=by
 rw [List.take_succ_eq_append_getElem b,zeK,List.getD_eq_getElem?_getD,List.getElem?_eq_getElem b];simp [yS]
theorem zsv (l:List zP) (i:Nat):yS (l.take i)<=yS l:=by
 have:=zeK (l.take i) (l.drop i)
 rw [List.take_append_drop] at this;omega
theorem zlW {vars dom:Int} :∀(d:Nat) (l:List zP),xM vars dom l d=true->xM vars dom l (d+1)=true:=by
 intro d;induction d with
 |zero=>
  intro l h;cases l with
  |nil=>rw [xM]
  |cons x l=>
  rw [zbT] at h;have:=(zcZ (h x (by simp))).1
  omega
 |succ d ih=>
 intro l h;rw [zbT] at h ⊢;intro x hx;have c:=h x hx;obtain⟨k,r,v,a,b,y,n⟩:=x;unfold bH at c ⊢;simp only [Bool.and_eq_true,decide_eq_true_eq] at c ⊢;exact⟨⟨⟨by omega,c.1.1.2⟩,ih y c.1.2⟩,ih n c.2⟩
theorem zpX {vars dom:Int} {d e:Nat} {l:List zP} (h:xM vars dom l d=true) (b:d<=e):xM vars dom l e=true:=by
 induction b with
 |refl=>exact h
 |step _ ih=>exact zlW _ _ ih
def zaj (vars dom:Int) (yT:Int) (x:yg):Bool:=
 if x.op=12 then jf vars dom 9 yT x else if x.op=13 then jf vars dom 4 yT x else if x.op=10\/x.op=11 then false else jf vars dom x.op 0 x
theorem zi4 {vars dom k a b:Int} {x:yg} (h:jf vars dom k a x=true) (c:a<=b):jf vars dom k b x=true:=by
 unfold jf at h ⊢;simp only [Bool.and_eq_true,decide_eq_true_eq] at h ⊢;exact⟨⟨h.1.1,by omega⟩,h.2⟩
theorem zlX {vars dom a b:Int} {x:yg} (h:zaj vars dom a x=true) (c:a<=b):zaj vars dom b x=true:=by
 unfold zaj at h ⊢;split
 ·rename_i h1;rw [if_pos h1] at h;exact zi4 h c
 rename_i h1;rw [if_neg h1] at h;split
 ·rename_i h2;rw [if_pos h2] at h;exact zi4 h c
 rename_i h2;rw [if_neg h2] at h;exact h
theorem zfY {vars dom:Int} {k r v:Int} {a b:zR} (g:k=10\/k=11) (h:vg k r v a b vars dom=true) {c d:Int} (j:0<=c) (i:c<=d):zaj vars dom d (j3 a c)=true:=by
 have f:vg 9 0 0 a default vars dom=true:=by
  have o:zbo 9 0=true:=by decide
  have n:bT 9 0 vars=true:=by simp [bT,uy]
  have m:bU 9 a dom=true:=by
   unfold vg at h;simp only [Bool.and_eq_true] at h;have:=h.1.2
   rcases g with rfl|rfl
   ·simpa [bU,uz] using this
   simpa [bU,uz] using this
  have l:zbp 9 default dom=true:=by rfl
  simp [vg,o,n,m,l]
 show jf vars dom 9 d (j3 a c)=true
 unfold jf j3;simp only [Bool.and_eq_true,decide_eq_true_eq];exact⟨⟨⟨by omega,j⟩,i⟩,f⟩
theorem zoW {vars dom:Int} {b c:Int} (g:0<=b) (f:b<=c):zaj vars dom c (zak b)=true:=by
 have d:vg 4 0 0 default default vars dom=true:=by
  have j:bT 4 0 vars=true:=by simp [bT,uy]
  have k:zbo 4 0=true:=by decide
  have i:bU 4 default dom=true:=by rfl
  have h:zbp 4 default dom=true:=by rfl
  simp [vg,k,j,i,h]
 show jf vars dom 4 c (zak b)=true
 unfold jf zak;simp only [Bool.and_eq_true,decide_eq_true_eq];exact⟨⟨⟨by omega,g⟩,f⟩,d⟩
theorem zvE {vars dom:Int} {k r v:Int} {a b:zR} (f:1<=k) (j:k<=11) (i:¬k=10) (d:¬k=11) (h:vg k r v a b vars dom=true) {c:Int} (g:0<=c):zaj vars dom c ⟨k,r,v,a,b,0⟩=true:=by
 unfold zaj;rw [if_neg (by show¬k=12;omega),if_neg (by show¬k=13;omega),if_neg (by show¬(k=10\/k=11);omega)]
 unfold jf;simp only [Bool.and_eq_true,decide_eq_true_eq];exact⟨⟨⟨⟨f,by omega⟩,by omega⟩,by omega⟩,h⟩
def zlD (vars dom:Int) (at_:Int) (n:Nat) (l:List yg):Prop:=l.length<=3*n/\∀x∈l,zaj vars dom (at_+l.length) x=true
theorem zlD.weak {vars dom at_:Int} {n:Nat} {l:List yg} (h:zlD vars dom at_ n l) {b:Int} (c:at_+l.length<=b):∀x∈l,zaj vars dom b x=true:=λx hx=>zlX (h.2 x hx) c
mutual
theorem zpY (vars dom:Int):∀(x:zP) (d:Nat) (at_:Int),0<=at_->bH vars dom x d=true->zlD vars dom at_ (zaM x) (jD x at_)
 | .mk k r v a b y n,d,at_,h0,h=>by
  have i:=zcZ h;simp only [zP.kind,zP.reg,zP.var,zP.a,zP.b,zP.yes,zP.no] at i;obtain⟨t,q,p,o⟩:=i;obtain⟨m,l,c,g⟩:=zi3 q;have f:=zaD vars dom y (d - 1) (at_+1) (by omega) p;have j:=zaD vars dom n (d - 1) (at_+2+(zW y (at_+1)).length) (by omega) o;rw [zaM];unfold jD;split
  ·rename_i hk
   split
   ·refine⟨by have:=f.1;simp only [List.length_cons];omega,λx hx=> ?_⟩
    rcases List.mem_cons.1 hx with rfl|hx
    ·exact zfY (.inl hk) c (by omega) (by simp only [List.length_cons];omega)
    exact f.weak (by simp only [List.length_cons];omega) x hx
   refine⟨by have:=f.1;have:=j.1;simp only [List.length_cons,List.length_append];omega,λx hx=> ?_⟩
   rcases List.mem_cons.1 hx with rfl|hx
   ·exact zfY (.inl hk) c (by omega) (by simp only [List.length_cons,List.length_append];omega)
   rcases List.mem_append.1 hx with hx|hx
   ·exact f.weak (by simp only [List.length_cons,List.length_append];omega) x hx
   rcases List.mem_cons.1 hx with rfl|hx
   ·exact zoW (by omega) (by simp only [List.length_cons,List.length_append];omega)
   exact j.weak (by simp only [List.length_cons,List.length_append];omega) x hx
  rename_i hk
  split
  ·rename_i hk2
   refine⟨by have:=f.1;simp only [List.length_cons,List.length_append,List.length_nil];omega,λx hx=> ?_⟩
   rcases List.mem_cons.1 hx with rfl|hx
   ·exact zfY (.inr hk2) c (by omega) (by simp only [List.length_cons,List.length_append,List.length_nil];omega)
   rcases List.mem_append.1 hx with hx|hx
   ·exact f.weak (by simp only [List.length_cons,List.length_append,List.length_nil];omega) x hx
   rw [List.mem_singleton] at hx;subst hx;exact zoW h0 (by simp only [List.length_cons,List.length_append,List.length_nil];omega)
  rename_i hk2
  refine⟨by simp only [List.length_cons,List.length_nil];omega,λx hx=> ?_⟩
  rw [List.mem_singleton] at hx;subst hx;exact zvE m l hk hk2 c (by simp only [List.length_cons,List.length_nil];omega)
theorem zaD (vars dom:Int):∀(l:List zP) (d:Nat) (at_:Int),0<=at_->xM vars dom l d=true->zlD vars dom at_ (yS l) (zW l at_)
 | [],d,at_,h0,h=>by rw [zW];exact⟨Nat.zero_le _,λx hx=>by simp at hx⟩
 |x::l,d,at_,h0,h=>by
  rw [xM,Bool.and_eq_true] at h;have c:=zpY vars dom x d at_ h0 h.1;have f:=zaD vars dom l d (at_+(jD x at_).length) (by omega) h.2;rw [zW,yS];refine⟨by have:=c.1;have:=f.1;rw [List.length_append];omega,λy b=> ?_⟩
  rcases List.mem_append.1 b with b|b
  ·exact c.weak (by rw [List.length_append];omega) y b
  exact f.weak (by rw [List.length_append];omega) y b
end
def xyz:List (List UInt8):= [[120], [121], [122]]
structure zgI (p:zc6):Prop where
 vars:∃n,1<=n/\n<=3/\p.vars=xyz.take n
 dom:2<=p.domain/\p.domain<=16
 many:1<=p.threads.length/\p.threads.length<=3
 ok:∀l∈p.threads,xM p.vars.length p.domain l 20=true
 all:(p.threads.map yS).sum<=200
def zda (p:zc6):zG:=⟨p.vars.length,p.domain,p.threads.map (λl=>zW l 0)⟩
theorem z05 {l:List Nat} {x:Nat} (h:x∈l):x<=l.sum:=by
 induction l with
 |nil=>simp at h
 |cons y l ih=>
 rcases List.mem_cons.1 h with rfl|h
 ·simp
 have:=ih h;simp;omega
theorem zgI.one {p:zc6} (h:zgI p) {l:List zP} (b:l∈p.threads):yS l<=200:=by
 have:=z05 (List.mem_map.2 ⟨l,b,rfl⟩:yS l∈p.threads.map yS)
 have:=h.all
 omega
theorem zpZ {p:zc6} (h:zgI p):codeOk (zda p)=true:=by
 obtain⟨n,i,g,f⟩:=h.vars;have j:p.vars.length=n:=by rw [f,List.length_take];simp [xyz];omega
 have m:=h.dom;have k:=h.many;unfold codeOk zda;simp only [Bool.and_eq_true,decide_eq_true_eq,List.length_map];refine⟨⟨⟨⟨⟨⟨by omega,by omega⟩,by omega⟩,by omega⟩,by omega⟩,by omega⟩, ?_⟩
 rw [List.all_eq_true];intro r d;obtain⟨l,b,rfl⟩:=List.mem_map.1 d;have c:=zaD p.vars.length p.domain l 20 0 (by omega) (h.ok l b);have o:=h.one b;unfold rowOk;simp only [Bool.and_eq_true,decide_eq_true_eq];refine⟨by have:=c.1;omega, ?_⟩
 rw [List.all_eq_true];intro x hx;have:=c.2 x hx
 rw [Int.zero_add] at this;exact this
theorem zgJ {a b:Int} (h:a=b):Value.int .i64 a=Value.int .i64 b:=by rw [h]
def zfZ (e d:Nat):Prop:=∀(w:World) (l:List zP) (v:Value),yQ e d w l v->∀(deep:Nat) (vars dom:Int),deep<=1000->xM vars dom l deep=true->yS l<=200->
 Calls Tryz.prog 80 #[v,I4 deep,I4 vars,I4 dom] w λen w'=>en= .returned (.tuple #[I4 (yS l), .bool true])/\Below w.heap.size w w'
theorem zvF (e d:Nat) (ih:zfZ e d):zfZ e (d+1):=by
 intro w l v hl j vars dom zEA U hN;obtain⟨la,lc,rfl,hll⟩:=hl.slice;have z:=λi (hi:i<l.length)=>zok (l:=l) (i:=i) hi;have q:=λi=>zsv l i;have hz:yS (l.take 0)=0:=by simp [yS]
 have hR:yS l=yS (l.take l.length):=by rw [List.take_length]
 rw [hR] at hN q ⊢;obtain⟨C,W⟩:∃C:Nat->Nat,C=λi=>yS (l.take i):=⟨_,rfl⟩;have P:∀i,yS (l.take i)=C i:=λi=>by rw [W]
 simp only [P] at z q hz hN ⊢;have D:=zbT.1 U;obtain⟨n,G⟩:=qxE l.length;rw [<-G] at hl hll z hN q ⊢;have HL:=qh hl;have HN:=qh G;have gF:=qh z;have HLE:=qh q;have HZ:=qh hz;have zhO:=qh D;have IH:=qh ih;clear hl G z q hz hR W P D U ih;go_enter Tryz.func80,Tryz.ntmps80
 go_wp2_with fail
 go_loopg [10,11] n (λgg s10 s11 wr=>∃i:Nat,i<=n/\J2 (gg=n - i)/\s10=I4 (C i)/\s11=I4 i/\J2 (Below w.heap.size w wr))
 case atStart=>exact⟨0,Nat.zero_le _,rfl,zgJ (by rw [HZ.o];rfl),rfl,Below.refl _ _⟩
 case round=>
 obtain⟨i,hi,HG,rfl,rfl,m⟩:=hrel;by_cases hlt:i<n
 rotate_left
 ·obtain rfl:n=i:=by omega
  have hNI:((C n:Nat):Int)<=200:=by omega
  go_wp2_with fail
  go_ret2
  exact⟨by first|rfl|simp,m.o⟩
 have vC:(i:Int)<(n:Int):=by omega
 obtain⟨b,g,aa,ac,ba,bc,K,Z,s,Q,yI, -,c,hA,hB,hY,H⟩:=yQ.part HL.o i (by rw [<-HN.o];exact hlt);subst yI;have hx:=gF.o i hlt;have hn1:=HLE.o (i+1);have F:=zhO.o (l.getD i default) (jF (by rw [<-HN.o];exact hlt));generalize l.getD i default=x at c hA hB hY H hx F;obtain⟨hd1,r,T,A⟩:=zcZ F;obtain⟨hk1,hk2,p,h⟩:=zi3 r;rw [zoj] at hx;have t:=λy (J:Below w.heap.size w y)=>IH.o y x.yes _ (hY.below J) (j - 1) vars dom (by omega) T (by omega);have u:=λy (J:Below w.heap.size w y)=>IH.o y x.no _ (H.below J) (j - 1) vars dom (by omega) A (by omega)
 have f:=λy (J:Below w.heap.size w y)=>zlZ y x.kind x.reg x.var x.a x.b _ _ e (hA.below J) (hB.below J) vars dom;rw [p] at f;rw [show((j - 1:Nat):Int)=(j:Int) - 1 by omega] at t u;unfold qD at f;have x0:wr.cell? ⟨b,g+i*13,none⟩=some (I4 x.kind):=zl m.o _ _ (c 0 (by omega));have x1:wr.cell? ⟨b,g+i*13+1,none⟩=some (I4 x.reg):=zl m.o _ _ (c 1 (by omega));have x2:wr.cell? ⟨b,g+i*13+2,none⟩=some (I4 x.var):=zl m.o _ _ (c 2 (by omega));have x3:wr.cell? ⟨b,g+i*13+3,none⟩=some (I4 x.a.kind):=zl m.o _ _ (c 3 (by omega));have x4:wr.cell? ⟨b,g+i*13+4,none⟩=some (I4 x.a.n):=zl m.o _ _ (c 4 (by omega))
 have x5:wr.cell? ⟨b,g+i*13+5,none⟩=some (.int .u8 x.a.op):=zl m.o _ _ (c 5 (by omega));have x6:wr.cell? ⟨b,g+i*13+6,none⟩=some (.slice aa x.a.kids.length ac):=zl m.o _ _ (c 6 (by omega));have x7:wr.cell? ⟨b,g+i*13+7,none⟩=some (I4 x.b.kind):=zl m.o _ _ (c 7 (by omega));have x8:wr.cell? ⟨b,g+i*13+8,none⟩=some (I4 x.b.n):=zl m.o _ _ (c 8 (by omega));have x9:wr.cell? ⟨b,g+i*13+9,none⟩=some (.int .u8 x.b.op):=zl m.o _ _ (c 9 (by omega));have S:wr.cell? ⟨b,g+i*13+10,none⟩=some (.slice ba x.b.kids.length bc):=zl m.o _ _ (c 10 (by omega))
 have uf:wr.cell? ⟨b,g+i*13+11,none⟩=some (.slice K x.yes.length Z):=zl m.o _ _ (c 11 (by omega));have R:wr.cell? ⟨b,g+i*13+12,none⟩=some (.slice s x.no.length Q):=zl m.o _ _ (c 12 (by omega));generalize hyN:yS x.yes=yN at hx t;generalize hnN:yS x.no=nN at hx u;generalize x.kind=q0 at x0 f hk1 hk2 h;generalize x.reg=q1 at x1 f;generalize x.var=q2 at x2 f;generalize x.a.kind=q3 at x3 f;generalize x.a.n=q4 at x4 f;generalize x.a.op=q5 at x5 f;generalize x.a.kids.length=q6 at x6 f;generalize x.b.kind=q7 at x7 f;generalize x.b.n=q8 at x8 f;generalize x.b.op=q9 at x9 f
 generalize x.b.kids.length=q10 at S f;generalize x.yes.length=q11 at uf t h;generalize x.no.length=q12 at R u h;have HX:J2 (C (i+1)=C i+(1+yN+nN)):=hx;have hs1:C i+(1+yN+nN)<=200:=by omega
 generalize C i=ni at HX hs1 ⊢;have HCY:=qh t;have HCN:=qh u;have HCP:=qh f;clear c hA hB hY H hx hn1 F r T A p t u f hyN hnN;have z9J:(1:Int)<=(j:Int):=by omega
 have zEB:(ni:Int)+1<=200:=by omega
 have b1:decide ((j:Int)<1)=false:=by rw [decide_eq_false_iff_not];omega
 have b2:decide ((200:Int)<(ni:Int)+1)=false:=by rw [decide_eq_false_iff_not];omega
 have b3:decide (q0<1)=false:=by rw [decide_eq_false_iff_not];omega
 have b4:decide (11<q0)=false:=by rw [decide_eq_false_iff_not];omega
 have HK:=qh h;clear h hd1;go_upto_region 7 with fail
 clear x0 x1 x2 x3 x4 x5 x6 x7 x8 x9 S uf R;have V:=zy m.o ((Below.refl wr.heap.size wr).alloc (Nat.le_refl _) (.cells #[I4 q0,I4 q1,I4 q2,I4 q3,I4 q4, .int .u8 q5, .slice aa q6 ac,I4 q7,I4 q8, .int .u8 q9, .slice ba q10 bc, .slice K q11 Z, .slice s q12 Q] 148));have hg:=zQ wr (.cells #[I4 q0,I4 q1,I4 q2,I4 q3,I4 q4, .int .u8 q5, .slice aa q6 ac,I4 q7,I4 q8, .int .u8 q9, .slice ba q10 bc, .slice K q11 Z, .slice s q12 Q] 148);have Y:=qh V;have k:=qh hg;clear V hg;generalize World.alloc wr _=X at Y k ⊢;generalize wr.heap.size=gx at k ⊢;have y0:=ze k.o 0;have y1:=ze k.o 1;have y2:=ze k.o 2
 have y3:=ze k.o 3;have y4:=ze k.o 4;have y5:=ze k.o 5;have y6:=ze k.o 6;have y7:=ze k.o 7;have y8:=ze k.o 8;have y9:=ze k.o 9;have y10:=ze k.o 10;go_upto_region 9 with(go_at_call 78;go_must(refine(HCP.o X Y.o).mono ?_);rintro en L ⟨rfl,B⟩;(have I:=qh B);clear B y0 y1 y2 y3 y4 y5 y6 y7 y8 y9 y10)
 have O:=qh (zy Y.o I.o);have qd:=qh ((I.o.block _ (zA k.o)).trans k.o);have z0:L.cell? ⟨gx,0,none⟩=some (I4 q0):=ze qd.o 0;have z5:L.cell? ⟨gx,11,none⟩=some (.slice K q11 Z):=ze qd.o 11;have z6:L.cell? ⟨gx,12,none⟩=some (.slice s q12 Q):=ze qd.o 12;clear Y I k b1 b2 b3 b4;go_cut [80] (λs80 w'=>s80= .bool false/\w'=L)
 case first=>
  by_cases h10:q0=10
  ·subst h10;go_wp2_with fail
   go_meet
   case rel=>exact⟨(by first|rfl|simp),rfl⟩
  have hk:=HK.o.resolve_left h10;have E:(q0==10)=false:=by rw [beq_eq_false_iff_ne];exact h10
  have z9K:(q0 !=10)=true:=by rw [bne,E];rfl
  obtain⟨A,hk⟩:=hk;subst A;clear h10;by_cases h11:q0=11
  ·subst h11;clear E z9K;go_wp2_with fail
   go_meet
   case rel=>exact⟨(by first|rfl|simp),rfl⟩
  have N:(q0==11)=false:=by rw [beq_eq_false_iff_ne];exact h11
  have zFb:(q0 !=11)=true:=by rw [bne,N];rfl
  have hy0:=hk.resolve_left h11;subst hy0;clear h11 hk E N;go_wp2_with fail
  go_meet
  case rel=>exact⟨(by first|rfl|simp),rfl⟩
 case rest=>
 obtain⟨rfl,hwv⟩:=hcut;obtain rfl:L=wc:=hwv.symm;clear z0;go_upto_region 12 with(go_at_call 80;go_must(refine(HCY.o L O.o).mono ?_);rintro en X2 ⟨rfl,B⟩;(have HB2:=qh B);(have M:=qh (zy O.o B));clear B;(have z6':=zl HB2.o _ _ z6);clear z5 z6)
 go_upto_region 13 with(go_at_call 80;go_must(refine(HCN.o X2 M.o).mono ?_);rintro en X3 ⟨rfl,B⟩;(have z9L:=qh (zy M.o B));clear B z6')
 go_wp2_with fail
 go_roundg (n - (i+1))
 case measure=>rw [HG.o];omega
 case rel=>exact⟨i+1,by omega,rfl,zgJ (by rw [HX.o];omega),by simp,z9L.o⟩
theorem zsy (e d:Nat):zfZ e d:=by
 induction d with
 |zero=>intro w l v b;exact b.elim
 |succ d ih=>exact zvF e d ih
def zma (_:World) (x:List UInt8) (cs:List Value):Prop:=cs= [.string ⟨x.toArray⟩]
theorem zma.stays:wH zma:=λ_ _ _ _ h _=>h
abbrev zem:=zh zma 1
theorem zem.part {w:World} {a:Option Addr} {n f:Nat} {l:List (List UInt8)} (h:zem w (.slice a n f) l) (j:Nat) (g:j<l.length):∃b c,a=some ⟨b,c,none⟩/\b<w.heap.size/\w.cell? ⟨b,c+j,none⟩=some (.string ⟨(l.getD j []).toArray⟩):=by
 obtain⟨b,c,cs,m,k,o,i,d⟩:=zh.part h j g;have d:cs= [.string ⟨(l.getD j default).toArray⟩] :=d;subst d;have:=i 0 (by omega)
 rw [Nat.mul_one,Nat.add_zero] at this;exact⟨b,c,m,k,this⟩
def zke (e d:Nat) (w:World) (l:List zP) (cs:List Value):Prop:=∃v,cs= [v] /\yQ e d w l v
theorem zke.stays (e d:Nat):wH (zke e d):=λ_ _ _ _ ⟨v,h,h1⟩ hb=>⟨v,h,h1.below hb⟩
abbrev zgb (e d:Nat):=zh (zke e d) 1
theorem zgb.part {e d:Nat} {w:World} {a:Option Addr} {n f:Nat} {l:List (List zP)} (h:zgb e d w (.slice a n f) l) (j:Nat) (i:j<l.length):∃b c ka kc,a=some ⟨b,c,none⟩/\b<w.heap.size/\w.cell? ⟨b,c+j,none⟩=some (.slice ka (l.getD j []).length kc)/\yQ e d w (l.getD j []) (.slice ka (l.getD j []).length kc):=by
 obtain⟨b,c,cs,p,o,q,m,v,k,g⟩:=zh.part h j i;subst k;obtain⟨ka,kc,rfl, -⟩:=g.slice;have:=m 0 (by omega)
 rw [Nat.mul_one,Nat.add_zero] at this;exact⟨b,c,ka,kc,p,o,this,g⟩
def zgK (p:zc6) (vv tv:Value):Value:= .agg #[vv,I4 p.domain,tv]
structure zen (e d:Nat) (w:World) (p:zc6) (vv tv:Value):Prop where
 vars:zem w vv p.vars
 threads:zgb e d w tv p.threads
theorem zen.below {e d:Nat} {w b:World} {p:zc6} {c tv:Value} (h:zen e d w p c tv) (f:Below w.heap.size w b):zen e d b p c tv:=⟨zh.below zma.stays h.vars f,zh.below (zke.stays e d) h.threads f⟩
theorem z1F {n i:Nat} (f:n<=3) (d:i<n):∃b:UInt8,(xyz.take n).getD i [] = [b] /\zgH b.toNat=true/\b.toNat=120+i:=by
 have c:i=0\/i=1\/i=2:=by omega
 have e:(xyz.take n).getD i [] =xyz.getD i [] :=by simp only [List.getD_eq_getElem?_getD,List.getElem?_take_of_lt d]
 rw [e];rcases c with rfl|rfl|rfl
 ·exact⟨120,rfl,rfl,rfl⟩
 ·exact⟨121,rfl,rfl,rfl⟩
 exact⟨122,rfl,rfl,rfl⟩
theorem z1G {a b:UInt8} (h:a≠b):((⟨#[a]⟩:ByteArray).toList==(⟨#[b]⟩:ByteArray).toList)=false:=by
 rw [beq_eq_false_iff_ne,ByteArray.toList_eq,ByteArray.toList_eq];intro e;exact h (by simpa using e)
theorem zvH {l:List Nat} {i:Nat} (b:i<l.length):(l.take (i+1)).sum=(l.take i).sum+l.getD i 0:=by
 rw [List.take_succ_eq_append_getElem b,List.sum_append,List.getD_eq_getElem?_getD,List.getElem?_eq_getElem b];simp
theorem z1H (l:List Nat) (i:Nat):(l.take i).sum<=l.sum:=by
 have:(l.take i).sum+(l.drop i).sum=l.sum:=by rw [<-List.sum_append,List.take_append_drop]
 omega
theorem zl1 (e d:Nat) (w:World) (p:zc6) (Z:zgI p) (vv tv:Value) (h:zen e d w p vv tv):Calls Tryz.prog 46 #[zgK p vv tv] w λe w'=>e= .returned (.bool true)/\Below w.heap.size w w':=by
 obtain⟨va,vc,rfl, -⟩:=zh.slice h.vars;obtain⟨ta,tc,rfl, -⟩:=zh.slice h.threads;obtain⟨f,v1,v2,hv⟩:=Z.vars;have A:p.vars.length=f:=by rw [hv,List.length_take];simp [xyz];omega
 obtain⟨d1,d2⟩:=Z.dom;obtain⟨m1,m2⟩:=Z.many;obtain⟨q,j⟩:=qxE p.threads.length;have z:=λi (J:i<f)=>z1F v2 J;rw [<-hv] at z
 have m:∀i,i<q->xM f p.domain (p.threads.getD i []) 20=true/\yS (p.threads.getD i [])<=200:=λi J=>by
  have hm:p.threads.getD i [] ∈p.threads:=jF (by rw [<-j];exact J);have:=Z.ok _ hm
  rw [A] at this;exact⟨this,Z.one hm⟩
 obtain⟨D,H⟩:∃D:Nat->Nat,D=λi=>((p.threads.map yS).take i).sum:=⟨_,rfl⟩
 have r:∀i,i<q->D (i+1)=D i+yS (p.threads.getD i []):=λi J=>by
  simp only [H];have:=zvH (l:=p.threads.map yS) (i:=i) (by simp [<-j];exact J);rw [this];simp [List.getD_eq_getElem?_getD,List.getElem?_eq_getElem (j ▸ J:i<p.threads.length)]
 have z1I:∀i,D i<=200:=λi=>by rw [H];exact Nat.le_trans (z1H _ _) Z.all
 have hs0:D 0=0:=by rw [H];rfl
 have c:=h.vars;have E:=h.threads;rw [<-A] at z;unfold zgK;generalize p.domain=dom at d1 d2 m ⊢;rw [<-j] at m1 m2;generalize p.vars=L at A c z ⊢;generalize p.threads=T at j E m r ⊢;rw [A] at c z ⊢;rw [<-j] at E ⊢;have hB:=(Below.refl w.heap.size w).alloc (Nat.le_refl _) (.cells #[.slice va f vc,I4 dom, .slice ta q tc] 69);have H1:=qh (zQ w (.cells #[.slice va f vc,I4 dom, .slice ta q tc] 69));have V:=qh (zh.below zma.stays c hB);have s:=qh (zh.below (zke.stays e d) E hB);have HB:=qh hB;have HVL:=qh A;have HTN:=qh j;have HXY:=qh z;have vP:=qh m;have HST:=qh r;have z9M:=qh z1I;have wN:=qh hs0
 clear c E hB A j z m r z1I hs0 h Z hv H;have b1:decide ((f:Int)<1)=false:=by rw [decide_eq_false_iff_not];omega
 have b2:decide ((4:Int)<(f:Int))=false:=by rw [decide_eq_false_iff_not];omega
 have b3:decide (dom<2)=false:=by rw [decide_eq_false_iff_not];omega
 have b4:decide (16<dom)=false:=by rw [decide_eq_false_iff_not];omega
 have b5:decide ((q:Int)<1)=false:=by rw [decide_eq_false_iff_not];omega
 have b6:decide ((4:Int)<(q:Int))=false:=by rw [decide_eq_false_iff_not];omega
 go_enter Tryz.func46,Tryz.ntmps46
 go_upto_region 1 with fail
 generalize World.alloc w _=W at HB H1 V s ⊢;generalize w.heap.size=gx at H1 ⊢;have zmb:J2 (∀x,Below W.heap.size W x->Below w.heap.size w x):=λx hx=>HB.o.trans (hx.mono HB.o.size);have HC:J2 (∀x,Below W.heap.size W x->K3 x gx 0 (.slice va f vc)/\K3 x gx 1 (I4 dom)/\K3 x gx 2 (.slice ta q tc)):=λx hx=>⟨zl hx _ _ (ze H1.o 0),zl hx _ _ (ze H1.o 1),zl hx _ _ (ze H1.o 2)⟩;obtain⟨O,N,M⟩:=HC.o W (Below.refl _ _);go_wp2_with fail
 clear O N M b1 b2 b3 b4 b5 b6;go_loopg [3] f (λgg s3 wr=>∃i:Nat,i<=f/\J2 (gg=f - i)/\s3=I4 i/\J2 (Below W.heap.size W wr))
 case atStart=>exact⟨0,Nat.zero_le _,rfl,rfl,Below.refl _ _⟩
 case round=>
 obtain⟨i,J,HG,rfl,C⟩:=hrel;obtain⟨O,N,M⟩:=HC.o wr C.o;by_cases hlt:i<f
 ·have vC:(i:Int)<(f:Int):=by omega
  obtain⟨b,g,yI, -,X⟩:=zem.part V.o i (by rw [HVL.o];exact hlt);subst yI;obtain⟨u,hu1,hu2,hu3⟩:=HXY.o i hlt;rw [hu1] at X;have t:Calls Tryz.prog 79 #[.string ⟨#[u]⟩] wr λe w'=>e= .returned (.bool true)/\Below wr.heap.size wr w':=zvD wr u hu2;have P:∀v:UInt8,v≠u->((⟨#[v]⟩:ByteArray).toList==(⟨#[u]⟩:ByteArray).toList)=false:=λv hv=>z1G hv;have F:W.cell? ⟨b,g+i,none⟩=some (.string ⟨#[u]⟩):=X;generalize (⟨#[u]⟩:ByteArray)=su at F t P;have HX0:=qh F;have HU3:=qh hu3;have z9N:=qh P;have Q:wr.cell? ⟨b,g+i,none⟩=some (.string su):=zl C.o _ _ F;have a:=qh t;clear hu1 hu2 hu3 X F t P
  go_upto_region 8 with(go_at_call 79;go_must(refine a.o.mono ?_);rintro en X1 ⟨rfl,hb⟩;(have HB1:=qh (zy C.o hb));clear hb Q O N M a)
  go_wp2_with fail
  clear C;go_loopg [4] i (λgg s4 wr=>∃k:Nat,k<=i/\J2 (gg=i - k)/\s4=I4 k/\J2 (Below W.heap.size W wr))
  case atStart=>exact⟨0,Nat.zero_le _,rfl,rfl,HB1.o⟩
  case round=>
  obtain⟨k,hk,HG2,rfl,B⟩:=hrel;by_cases hlk:k<i
  rotate_left
  ·obtain rfl:i=k:=by omega
   go_wp2_with fail
   go_roundg (f - (i+1))
   case measure=>rw [HG.o];omega
   case rel=>exact⟨i+1,by omega,rfl,by simp,B.o⟩
  have z9O:(k:Int)<(i:Int):=by omega
  obtain⟨b',off',yI, -,x1⟩:=zem.part V.o k (by rw [HVL.o];omega)
  obtain⟨rfl,rfl⟩:b=b'/\g=off':=by simpa using yI
  obtain⟨v,hv1,hv2,hv3⟩:=HXY.o k (by omega);rw [hv1] at x1;have hne:v≠u:=λe=>by have:=HU3.o;rw [e] at hv3;omega
  have hnl:=z9N.o v hne;obtain⟨O,N,M⟩:=HC.o wr B.o;have Q:wr.cell? ⟨b,g+i,none⟩=some (.string su):=zl B.o _ _ HX0.o;have y1:wr.cell? ⟨b,g+k,none⟩=some (.string ⟨#[v]⟩):=zl B.o _ _ x1;clear hv1 hv2 hv3 x1 hne;generalize (⟨#[v]⟩:ByteArray)=sv at y1 hnl;go_upto_region 11 with fail
  go_quiet (fail)
  go_wp2_with fail
  go_roundg (i - (k+1))
  case measure=>rw [HG2.o];omega
  case rel=>exact⟨k+1,by omega,rfl,by simp,yw B.o _⟩
 obtain rfl:f=i:=by omega
 go_wp2_with fail
 clear O N M;go_loopg [5,6] q (λgg s5 s6 wr=>∃i:Nat,i<=q/\J2 (gg=q - i)/\s5=I4 (D i)/\s6=I4 i/\J2 (Below W.heap.size W wr))
 case atStart=>exact⟨0,Nat.zero_le _,rfl,zgJ (by rw [wN.o];rfl),rfl,C.o⟩
 case round=>
 obtain⟨i,J,HG,rfl,rfl,C⟩:=hrel;obtain⟨O,N,M⟩:=HC.o wr C.o;by_cases hlt:i<q
 rotate_left
 ·obtain rfl:q=i:=by omega
  go_wp2_with fail
  go_ret;exact⟨rfl,zmb.o _ C.o⟩
 have vC:(i:Int)<(q:Int):=by omega
 obtain⟨b,g,ka,kc,yI, -,X,r⟩:=zgb.part s.o i (by rw [<-HTN.o];exact hlt);subst yI;obtain⟨m,U⟩:=vP.o i hlt;have Y:=HST.o i hlt;have hs2:=z9M.o (i+1);generalize T.getD i [] =l at X r m U Y;have G:=λy (hy:Below W.heap.size W y)=>zsy e d y l _ (r.below hy) 20 f dom (by omega) m U;have Q:=zl C.o _ _ X;generalize l.length=ln at Q G;have qV:J2 (D (i+1)=D i+yS l):=Y;have I:D i+yS l<=200:=by omega
 generalize yS l=sn at G qV I;generalize D i=si at qV I ⊢;have HCL:=qh G;clear r m U Y hs2 G X;go_upto_region 17 with fail
 have n:J2 (∀x,Below wr.heap.size wr x->K3 x gx 0 (.slice va f vc)/\K3 x gx 1 (I4 dom)/\K3 x gx 2 (.slice (some ⟨b,g,none⟩) q tc)/\K3 x b (g+i) (.slice ka ln kc)):=λx hx=>⟨zl hx _ _ O,zl hx _ _ N,zl hx _ _ M,zl hx _ _ Q⟩;clear Q O N M;refine qz (S:=λx=>Below wr.heap.size wr x) (Below.refl _ _).drew (λhH=> ?_)
 refine zi 0 n.o ?_
 refine zi 1 n.o ?_
 refine zi 2 n.o ?_
 refine zi 3 n.o ?_
 refine zi 4 n.o ?_
 refine zi 5 n.o ?_
 refine zi 6 n.o ?_
 refine zi 7 n.o ?_
 refine zi 8 n.o ?_
 refine zi 9 n.o ?_
 refine yA 10 rfl (λK hK=> ?_)
 go_simp
 refine(HCL.o wr.drew (zy C.o hH)).mono ?_
 rintro en z9P ⟨rfl,hb⟩;have R:Below wr.heap.size wr z9P:=zy hH hb;refine hK.out _ _ R (λ_=> ?_)
 clear hK K hb hH;refine zi 11 n.o ?_
 refine zi 12 n.o ?_
 refine zi 13 n.o ?_
 refine zi 14 n.o ?_
 refine zi 15 n.o ?_
 refine xC ?_
 have vT:=qh (zy C.o R);clear R n;have zEC:(si:Int)+(sn:Int)<=200:=by omega
 have b1:decide ((200:Int)<(si:Int)+(sn:Int))=false:=by rw [decide_eq_false_iff_not];omega
 go_wp2_with fail
 go_roundg (q - (i+1))
 case measure=>rw [HG.o];omega
 case rel=>exact⟨i+1,by omega,rfl,zgJ (by rw [qV.o];omega),by simp,vT.o⟩
