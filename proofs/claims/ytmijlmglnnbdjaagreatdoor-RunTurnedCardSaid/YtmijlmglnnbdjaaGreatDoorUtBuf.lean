/- Steps. -/
import Derived.Test.YtmijlmglnnbdjaaGreatDoorUtBase
set_option linter.all false
namespace Go.Proofs.YtmijlmglnnbdjaaGreatDoor
open Go.RowKit
set_option maxRecDepth 100000
set_option maxHeartbeats 16000000
theorem xK (w:World) (c b:Obj):Below w.heap.size w ((w.alloc c).alloc b):=((Below.refl _ _).alloc (Nat.le_refl _) _).alloc (by simp) _
theorem xA (w:World) (b c:Obj):((w.alloc b).alloc c).heap[w.heap.size]? =some b:=(Below.heap_alloc _ _ _ (by simp)).trans (zQ w _)
theorem xq (w:World) (c b:Obj):((w.alloc c).alloc b).heap[w.heap.size+1]? =some b:=by
 have:=zQ (w.alloc c) b
 simp only [World.size_alloc] at this;exact this
theorem xQ:(Tryz.prog.info? 116).map (λi=>(i.zero,i.size,i.bytes))=some (some (.agg #[I4 0,I4 0]),2,16):=by kernel_rfl
theorem jG:(Tryz.prog.info? 3).map (λi=>(i.zero,i.size,i.bytes))=some (some (I4 0),1,8):=by kernel_rfl
theorem gT (x:zq):x.cells.length=2:=rfl
theorem zbe (x:Int):([Value.int .i64 x]).length=1:=rfl
def xI (x:Int):List Value:= [I4 x]
theorem zac {l:List zq} :∀u∈zx zq.cells l,u.oneCell'=true:=λu b=>by
 obtain⟨x, -,hx⟩:=List.mem_flatMap.1 b;simp [zq.cells] at hx;rcases hx with rfl|rfl<;>rfl
theorem zpA {l:List Int} :∀u∈zx xI l,u.oneCell'=true:=λu b=>by
 obtain⟨x, -,hx⟩:=List.mem_flatMap.1 b;simp [xI] at hx;subst hx;rfl
theorem wQ {w:World} {B:Nat} {sv:Value} {l:List zq} (h:w.ownsRow B 116 2 sv l.length (zx zq.cells l)):zX w sv l:=zh.of_flat (R:=zaK) gT (λ_ _=>rfl) h
theorem zal {w:World} {B:Nat} {sv:Value} {l:List Int} (h:w.ownsRow B 3 1 sv l.length (zx xI l)):qx w sv l:=zh.of_flat (R:=uV) (f:=xI) zbe (λ_ _=>rfl) h
def zeZ (l:List zq) (m:zC) (v:Int):Nat:=l.countP (λy=>decide (m.model=1)||decide (y.var=v))
def qM (l:List zq) (m:zC) (x:zq):Bool:=(decide (m.model=1)||decide (m.model=2)) && decide ((zeZ l m x.var:Int)<m.bound)
def jQ (l:List zq) (m:zC) (x:zq):List zq:=if qM l m x then l++ [x] else l
theorem zjI {l:List zq} {i:Nat} (b:i<l.length) (p:zq->Bool):(l.take (i+1)).countP p=(l.take i).countP p+(if p (l.getD i default) then 1 else 0):=by
 rw [List.take_add_one,List.countP_append,List.getElem?_eq_getElem b,List.getD_eq_getElem?_getD,List.getElem?_eq_getElem b];simp [List.countP_cons]
theorem zpf (w:World) (bv:Value) (l:List zq) (h:zX w bv l) (hl:l.length<=1000000) (m:zC) (x:zq):
  Calls Tryz.prog 86 #[bv,yE m,x.val] w λe w'=>(∃bJ,e= .returned (.tuple #[bJ, .bool (qM l m x)])/\zX w' bJ (jQ l m x)/\(qM l m x=true->w'.ownsRow w.heap.size 116 2 bJ (jQ l m x).length (zx zq.cells (jQ l m x))))/\Below w.heap.size w w':=by
 obtain⟨ba,bc,rfl, -⟩:=zh.slice h;obtain⟨n,hn⟩:=qxE l.length;obtain⟨E,mb⟩:=m;obtain⟨f,r⟩:=x;obtain⟨p,hp⟩:∃p:zq->Bool,p=(λy=>decide (E=1)||decide (y.var=f)):=⟨_,rfl⟩;obtain⟨ok,P⟩:=qxE (qM l ⟨E,mb⟩ ⟨f,r⟩);have hok2:ok=((decide (E=1)||decide (E=2)) && decide ((l.countP p:Int)<mb)):=by rw [P,hp];rfl
 have hpb:jQ l ⟨E,mb⟩ ⟨f,r⟩=if ok then l++ [⟨f,r⟩] else l:=by rw [P];rfl
 rw [<-P,hpb];rw [<-hn] at h hl ⊢;have vP:=qh hok2;have HP:=qh hp;have HN:=qh hn;clear P hok2 hpb hp hn;have hb0:=xK w (.cells #[I4 E,I4 mb] 30) (.cells #[I4 f,I4 r] 116);have HB:=qh hb0;have HM:=qh (xA w (.cells #[I4 E,I4 mb] 30) (.cells #[I4 f,I4 r] 116));have HX:=qh (xq w (.cells #[I4 E,I4 mb] 30) (.cells #[I4 f,I4 r] 116));have HL:=qh (zX.below h hb0);clear h hb0;unfold yE zq.val;simp only [];go_enter Tryz.func86,Tryz.ntmps86
 go_upto_region 1 with fail
 generalize World.alloc (World.alloc w _) _=W at HB HM HX HL ⊢;obtain⟨gx,hgx⟩:=qxE w.heap.size;rw [<-hgx] at HM HX ⊢;clear hgx
 have HC:J2 (∀x,Below W.heap.size W x->K3 x gx 0 (I4 E)/\K3 x gx 1 (I4 mb)/\K3 x (gx+1) 0 (I4 f)/\K3 x (gx+1) 1 (I4 r)):=λx hx=>
  ⟨zl hx _ _ (ze HM.o 0),zl hx _ _ (ze HM.o 1),zl hx _ _ (ze HX.o 0),zl hx _ _ (ze HX.o 1)⟩
 clear HM HX;go_wp2_with fail
 go_loopg [8,9] n (λgg s8 s9 wr=>∃i c:Nat,i<=n/\J2 (gg=n - i)/\s8=I4 c/\s9=I4 i/\J2 (c=(l.take i).countP p)/\c<=i/\J2 (Below W.heap.size W wr))
 case atStart=>exact⟨0,0,Nat.zero_le _,rfl,rfl,rfl,by simp [J2],Nat.le_refl _,Below.refl _ _⟩
 case round=>
 obtain⟨i,c,hi,HG,rfl,rfl,HCN,hci,a⟩:=hrel;by_cases hlt:i<n
 ·have vC:(i:Int)<(n:Int):=by omega
  obtain⟨c0,c1,c2,c3⟩:=HC.o wr a.o;obtain⟨eb,eo,yI, -,he1, -⟩:=HL.o.part i (by rw [<-HN.o];exact hlt);subst yI;obtain⟨ev,hev⟩:=qxE ((l.getD i default).var);rw [<-hev] at he1;have g:=zl a.o _ _ he1;have hst:=zjI (l:=l) (i:=i) (by rw [<-HN.o];exact hlt) p;rw [<-HCN.o] at hst;have HST:=qh hst;have HPI:J2 (p (l.getD i default)=(decide (E=1)||decide (ev=f))):=by rw [J2,HP.o,hev]
  clear he1 hev hst;by_cases O:E=1
  ·have a1b:((E:Int)==1)=true:=by simp [O]
   have qL:J2 (c+1=(l.take (i+1)).countP p):=by rw [J2,HST.o,HPI.o,O];simp
   have A1:=qh O;clear O;go_wp2_with fail
   go_quiet (fail)
   go_wp2_with fail
   go_roundg (n - (i+1))
   case measure=>rw [HG.o];omega
   case rel=>exact⟨i+1,c+1,by omega,rfl,by simp,by simp,qL.o,by omega,yw a.o _⟩
  have a1b:((E:Int)==1)=false:=by simp [O]
  have A1:=qh O;clear O;by_cases a2:ev=f
  ·have a2b:((ev:Int)==f)=true:=by simp [a2]
   have qL:J2 (c+1=(l.take (i+1)).countP p):=by rw [J2,HST.o,HPI.o,a2];simp
   clear a2;go_wp2_with fail
   go_quiet (fail)
   go_wp2_with fail
   go_roundg (n - (i+1))
   case measure=>rw [HG.o];omega
   case rel=>exact⟨i+1,c+1,by omega,rfl,by simp,by simp,qL.o,by omega,yw a.o _⟩
  have a2b:((ev:Int)==f)=false:=by simp [a2]
  have A2:=qh a2;have qL:J2 (c=(l.take (i+1)).countP p):=by rw [J2,HST.o,HPI.o];simp [A1.o,A2.o]
  clear a2;go_wp2_with fail
  go_quiet (fail)
  go_wp2_with fail
  go_roundg (n - (i+1))
  case measure=>rw [HG.o];omega
  case rel=>exact⟨i+1,c,by omega,rfl,rfl,by simp,qL.o,by omega,yw a.o _⟩
 obtain rfl:n=i:=by omega
 obtain⟨c0,c1,c2,c3⟩:=HC.o wr a.o;have hcn:c=l.countP p:=by rw [HCN.o,HN.o,List.take_length]
 have qy:=qh hcn;have bK:=qh (zX.below HL.o a.o);clear hcn;by_cases O:E=1\/E=2
 rotate_left
 ·have P:ok=false:=by rw [vP.o];simp;omega
  have a3:¬E=1:=λe=>O (.inl e);have a4:¬E=2:=λe=>O (.inr e);have a3b:((E:Int) !=1)=true:=by simp [a3]
  have a4b:((E:Int) !=2)=true:=by simp [a4]
  clear O a3 a4;subst P;go_wp2_with fail
  go_ret2
  exact⟨⟨_,by first|rfl|simp,by simpa using bK.o⟩,HB.o.trans (a.o.mono HB.o.size)⟩
 by_cases a2:(c:Int)<mb
 rotate_left
 ·have P:ok=false:=by rw [vP.o, <-qy.o];simp;omega
  subst P;have a2n:mb<=(c:Int):=by omega
  rcases O with rfl|rfl<;>(go_wp2_with fail;go_ret2;exact⟨⟨_,by first|rfl|simp,by simpa using bK.o⟩,HB.o.trans (a.o.mono HB.o.size)⟩)
 as_aux_lemma=>
  have P:ok=true:=by rw [vP.o, <-qy.o];rcases O with O|O<;>simp [O,a2]
  have a2n:¬mb<=(c:Int):=by omega
  subst P;have CC:J2 (∀x,Below wr.heap.size wr x->K3 x (gx+1) 0 (I4 f)/\K3 x (gx+1) 1 (I4 r)):=λx hx=>⟨(HC.o x (zy a.o hx)).2.2.1,(HC.o x (zy a.o hx)).2.2.2⟩;have U:J2 (zx zq.cells (l++ [⟨f,r⟩])=zx zq.cells l++ [I4 f,I4 r]):=by rw [J2,kS];rfl
  have d:J2 ((l++ [(⟨f,r⟩:zq)]).length=n+1):=by rw [J2,List.length_append, <-HN.o];rfl
  have G:J2 (Below w.heap.size w wr):=HB.o.trans (a.o.mono HB.o.size);have h0:=App.start 116 2 wr;have b:=qh h0.drew;clear h0;have Q:∀E:Int,(E=1\/E=2)->((E !=1)=true/\(E !=2)=false)\/(E !=1)=false:=λE h=>by rcases h with rfl|rfl<;>simp
  obtain⟨i0,hi0, -, -, -⟩:=info_parts xQ;by_cases hn0:n=0
  ·have HE:J2 (zx zq.cells l= []):=by rw [J2,show l= [] from List.eq_nil_of_length_eq_zero (by rw [<-HN.o];exact hn0)];rfl
   subst hn0;rcases Q E O with⟨m1,m2⟩|m1
   ·clear O Q;go_upto_region 9 with fail
    refine qz (S:=λx=>Below wr.heap.size wr x) (Below.refl _ _).drew (λ_=> ?_)
    obtain⟨R,J⟩:=qxE wr.drew;rw [<-J] at b ⊢;clear J;refine zB 0 zM (b.o.below) ?_
    refine zB 2 CC.o (b.o.below) ?_
    refine wpAnyH_ready (rs:= [1,3]) (by kernel_rfl) (by simp) ?_
    refine AllReadyH.cons rfl (λK hK=> ?_) (AllReadyH.cons rfl (λK hK=> ?_) AllReadyH.nil)
    ·skip
     refine kM R (by rfl) (.const (N7)) (.tmp 46) 73 rfl 116 i0 Tryz.underlying73 hi0 (by rfl) ba bc (by rfl) ?_
     refine hK.out _ _ (b.o.below) (λ_=> ?_)
     clear hK K;refine yA 3 rfl (λK hK=> ?_)
     go_simp
     have F:=b.o.alloc [I4 f,I4 r];refine hK.out _ _ F.below (λ_=> ?_)
     obtain⟨V,k⟩:=qxE R.heap.size;rw [<-k] at F ⊢;clear k;generalize World.alloc R _=T at F ⊢;replace F:=qh F;clear hK K;refine yA 4 rfl (λK hK=> ?_)
     refine zY T (by rfl) (.tmp 47) (.tmp 49) 73 rfl 116 (.agg #[I4 0,I4 0]) 2 16 Tryz.underlying73 xQ rfl (by decide) wr.heap.size (N7) 0 [] (by rfl) F.o.row ⟨V,0,none⟩ 1 1 [I4 f,I4 r] (by rfl) (rfl) (F.o.cell (by simp)) (by simp [Value.oneCell']) (by unfold maxLen;omega) (by omega) F.o.below.size ?_
     intro Y X Xq4 g N M t q;try simp only [Nat.zero_add,List.nil_append] at g q ⊢
     have A:=qh (F.o.app g t q);clear g N M t q;refine hK.out _ _ A.o.below (λ_=> ?_)
     clear hK K;refine zB 5 zM (A.o.below) ?_
     refine zB 6 zM (A.o.below) ?_
     refine xC ?_
     have L:=A.o.row;go_wp2_with fail
     go_ret2
     refine⟨⟨.slice Y 1 X,by first|rfl|simp, ?_, ?_⟩,G.o.trans (A.o.below.mono G.o.size)⟩
     ·try rw [if_pos rfl]
      exact wQ (B:=wr.heap.size) (by rw [d.o,U.o,HE.o];exact L)
     have D:_:=xO (C:=w.heap.size) (B:=wr.heap.size) (n:=(l++ [(⟨f,r⟩:zq)]).length) (xs:=zx zq.cells (l++ [⟨f,r⟩])) (by rw [d.o,U.o,HE.o];exact L) G.o.size;first|exact D|(intro _;exact D)|simpa using D
    skip
    go_simp
    have v:=b.o.alloc [I4 f,I4 r];refine hK.out _ _ v.below (λ_=> ?_)
    obtain⟨V,k⟩:=qxE R.heap.size;rw [<-k] at v ⊢;clear k;generalize World.alloc R _=Z at v ⊢;replace v:=qh v;clear hK K;refine yA 1 rfl (λK hK=> ?_)
    refine kM Z (by rfl) (.const (N7)) (.tmp 46) 73 rfl 116 i0 Tryz.underlying73 hi0 (by rfl) ba bc (by rfl) ?_
    refine hK.out _ _ (v.o.below) (λ_=> ?_)
    clear hK K;refine yA 4 rfl (λK hK=> ?_)
    refine zY Z (by rfl) (.tmp 47) (.tmp 49) 73 rfl 116 (.agg #[I4 0,I4 0]) 2 16 Tryz.underlying73 xQ rfl (by decide) wr.heap.size (N7) 0 [] (by rfl) v.o.row ⟨V,0,none⟩ 1 1 [I4 f,I4 r] (by rfl) (rfl) (v.o.cell (by simp)) (by simp [Value.oneCell']) (by unfold maxLen;omega) (by omega) v.o.below.size ?_
    intro Y X s g N M t q;try simp only [Nat.zero_add,List.nil_append] at g q ⊢
    have z:=qh (v.o.app g t q);clear g N M t q;refine hK.out _ _ z.o.below (λ_=> ?_)
    clear hK K;refine zB 5 zM (z.o.below) ?_
    refine zB 6 zM (z.o.below) ?_
    refine xC ?_
    have L:=z.o.row;go_wp2_with fail
    go_ret2
    refine⟨⟨.slice Y 1 X,by first|rfl|simp, ?_, ?_⟩,G.o.trans (z.o.below.mono G.o.size)⟩
    ·try rw [if_pos rfl]
     exact wQ (B:=wr.heap.size) (by rw [d.o,U.o,HE.o];exact L)
    have D:_:=xO (C:=w.heap.size) (B:=wr.heap.size) (n:=(l++ [(⟨f,r⟩:zq)]).length) (xs:=zx zq.cells (l++ [⟨f,r⟩])) (by rw [d.o,U.o,HE.o];exact L) G.o.size;first|exact D|(intro _;exact D)|simpa using D
   clear O Q;go_upto_region 9 with fail
   refine qz (S:=λx=>Below wr.heap.size wr x) (Below.refl _ _).drew (λ_=> ?_)
   obtain⟨R,J⟩:=qxE wr.drew;rw [<-J] at b ⊢;clear J;refine zB 0 zM (b.o.below) ?_
   refine zB 2 CC.o (b.o.below) ?_
   refine wpAnyH_ready (rs:= [1,3]) (by kernel_rfl) (by simp) ?_
   refine AllReadyH.cons rfl (λK hK=> ?_) (AllReadyH.cons rfl (λK hK=> ?_) AllReadyH.nil)
   ·skip
    refine kM R (by rfl) (.const (N7)) (.tmp 46) 73 rfl 116 i0 Tryz.underlying73 hi0 (by rfl) ba bc (by rfl) ?_
    refine hK.out _ _ (b.o.below) (λ_=> ?_)
    clear hK K;refine yA 3 rfl (λK hK=> ?_)
    go_simp
    have F:=b.o.alloc [I4 f,I4 r];refine hK.out _ _ F.below (λ_=> ?_)
    obtain⟨V,k⟩:=qxE R.heap.size;rw [<-k] at F ⊢;clear k;generalize World.alloc R _=T at F ⊢;replace F:=qh F;clear hK K;refine yA 4 rfl (λK hK=> ?_)
    refine zY T (by rfl) (.tmp 47) (.tmp 49) 73 rfl 116 (.agg #[I4 0,I4 0]) 2 16 Tryz.underlying73 xQ rfl (by decide) wr.heap.size (N7) 0 [] (by rfl) F.o.row ⟨V,0,none⟩ 1 1 [I4 f,I4 r] (by rfl) (rfl) (F.o.cell (by simp)) (by simp [Value.oneCell']) (by unfold maxLen;omega) (by omega) F.o.below.size ?_
    intro Y X Xq4 g N M t q;try simp only [Nat.zero_add,List.nil_append] at g q ⊢
    have A:=qh (F.o.app g t q);clear g N M t q;refine hK.out _ _ A.o.below (λ_=> ?_)
    clear hK K;refine zB 5 zM (A.o.below) ?_
    refine zB 6 zM (A.o.below) ?_
    refine xC ?_
    have L:=A.o.row;go_wp2_with fail
    go_ret2
    refine⟨⟨.slice Y 1 X,by first|rfl|simp, ?_, ?_⟩,G.o.trans (A.o.below.mono G.o.size)⟩
    ·try rw [if_pos rfl]
     exact wQ (B:=wr.heap.size) (by rw [d.o,U.o,HE.o];exact L)
    have D:_:=xO (C:=w.heap.size) (B:=wr.heap.size) (n:=(l++ [(⟨f,r⟩:zq)]).length) (xs:=zx zq.cells (l++ [⟨f,r⟩])) (by rw [d.o,U.o,HE.o];exact L) G.o.size;first|exact D|(intro _;exact D)|simpa using D
   skip
   go_simp
   have v:=b.o.alloc [I4 f,I4 r];refine hK.out _ _ v.below (λ_=> ?_)
   obtain⟨V,k⟩:=qxE R.heap.size;rw [<-k] at v ⊢;clear k;generalize World.alloc R _=Z at v ⊢;replace v:=qh v;clear hK K;refine yA 1 rfl (λK hK=> ?_)
   refine kM Z (by rfl) (.const (N7)) (.tmp 46) 73 rfl 116 i0 Tryz.underlying73 hi0 (by rfl) ba bc (by rfl) ?_
   refine hK.out _ _ (v.o.below) (λ_=> ?_)
   clear hK K;refine yA 4 rfl (λK hK=> ?_)
   refine zY Z (by rfl) (.tmp 47) (.tmp 49) 73 rfl 116 (.agg #[I4 0,I4 0]) 2 16 Tryz.underlying73 xQ rfl (by decide) wr.heap.size (N7) 0 [] (by rfl) v.o.row ⟨V,0,none⟩ 1 1 [I4 f,I4 r] (by rfl) (rfl) (v.o.cell (by simp)) (by simp [Value.oneCell']) (by unfold maxLen;omega) (by omega) v.o.below.size ?_
   intro Y X s g N M t q;try simp only [Nat.zero_add,List.nil_append] at g q ⊢
   have z:=qh (v.o.app g t q);clear g N M t q;refine hK.out _ _ z.o.below (λ_=> ?_)
   clear hK K;refine zB 5 zM (z.o.below) ?_
   refine zB 6 zM (z.o.below) ?_
   refine xC ?_
   have L:=z.o.row;go_wp2_with fail
   go_ret2
   refine⟨⟨.slice Y 1 X,by first|rfl|simp, ?_, ?_⟩,G.o.trans (z.o.below.mono G.o.size)⟩
   ·try rw [if_pos rfl]
    exact wQ (B:=wr.heap.size) (by rw [d.o,U.o,HE.o];exact L)
   have D:_:=xO (C:=w.heap.size) (B:=wr.heap.size) (n:=(l++ [(⟨f,r⟩:zq)]).length) (xs:=zx zq.cells (l++ [⟨f,r⟩])) (by rw [d.o,U.o,HE.o];exact L) G.o.size;first|exact D|(intro _;exact D)|simpa using D
  obtain⟨bb,bo,hba, -⟩:=bK.o.part 0 (by rw [<-HN.o];omega)
  subst hba;have zcQ:J2 (∀x,Below wr.heap.size wr x->∀j u,(zx zq.cells l)[j]? =some u->x.cell? ((⟨bb,bo,none⟩:Addr).add j)=some u):=λx hx=>zh.news (by omega) gT (λ_ _ _ h=>h) (zX.below bK.o hx);have qP:J2 ((zx zq.cells l).length=n*2):=by rw [J2,wK gT, <-HN.o]
  rcases Q E O with⟨m1,m2⟩|m1
  ·clear O Q;go_upto_region 9 with fail
   refine qz (S:=λx=>Below wr.heap.size wr x) (Below.refl _ _).drew (λ_=> ?_)
   obtain⟨R,J⟩:=qxE wr.drew;rw [<-J] at b ⊢;clear J;refine zB 0 zM (b.o.below) ?_
   refine zB 2 CC.o (b.o.below) ?_
   refine wpAnyH_ready (rs:= [1,3]) (by kernel_rfl) (by simp) ?_
   refine AllReadyH.cons rfl (λK hK=> ?_) (AllReadyH.cons rfl (λK hK=> ?_) AllReadyH.nil)
   ·skip
    refine zY R (by rfl) (.const (N7)) (.tmp 46) 73 rfl 116 (.agg #[I4 0,I4 0]) 2 16 Tryz.underlying73 xQ rfl (by decide) wr.heap.size (N7) 0 [] (by rfl) b.o.row ⟨bb,bo,none⟩ n bc (zx zq.cells l) (by rfl) (qP.o) (zcQ.o _ (b.o.below)) (zac) (by unfold maxLen;omega) (by omega) b.o.below.size ?_
    intro ra rc T g N M t q;try simp only [Nat.zero_add,List.nil_append] at g q ⊢
    have F:=qh (b.o.app g t q);clear g N M t q;refine hK.out _ _ F.o.below (λ_=> ?_)
    clear hK K;refine yA 3 rfl (λK hK=> ?_)
    go_simp
    have A:=F.o.alloc [I4 f,I4 r];refine hK.out _ _ A.below (λ_=> ?_)
    obtain⟨V,k⟩:=qxE T.heap.size;rw [<-k] at A ⊢;clear k;generalize World.alloc T _=Xq4 at A ⊢;replace A:=qh A;clear hK K;refine yA 4 rfl (λK hK=> ?_)
    refine zY Xq4 (by rfl) (.tmp 47) (.tmp 49) 73 rfl 116 (.agg #[I4 0,I4 0]) 2 16 Tryz.underlying73 xQ rfl (by decide) wr.heap.size (.slice ra n rc) n (zx zq.cells l) (by rfl) A.o.row ⟨V,0,none⟩ 1 1 [I4 f,I4 r] (by rfl) (rfl) (A.o.cell (by simp)) (by simp [Value.oneCell']) (by unfold maxLen;omega) (by omega) A.o.below.size ?_
    intro Y X Z g N M t q;try simp only [Nat.zero_add,List.nil_append] at g q ⊢
    have v:=qh (A.o.app g t q);clear g N M t q;refine hK.out _ _ v.o.below (λ_=> ?_)
    clear hK K;refine zB 5 zM (v.o.below) ?_
    refine zB 6 zM (v.o.below) ?_
    refine xC ?_
    have L:=v.o.row;go_wp2_with fail
    go_ret2
    refine⟨⟨.slice Y (n+1) X,by first|rfl|simp, ?_, ?_⟩,G.o.trans (v.o.below.mono G.o.size)⟩
    ·try rw [if_pos rfl]
     exact wQ (B:=wr.heap.size) (by rw [d.o,U.o];exact L)
    have D:_:=xO (C:=w.heap.size) (B:=wr.heap.size) (n:=(l++ [(⟨f,r⟩:zq)]).length) (xs:=zx zq.cells (l++ [⟨f,r⟩])) (by rw [d.o,U.o];exact L) G.o.size;first|exact D|(intro _;exact D)|simpa using D
   skip
   go_simp
   have z:=b.o.alloc [I4 f,I4 r];refine hK.out _ _ z.below (λ_=> ?_)
   obtain⟨V,k⟩:=qxE R.heap.size;rw [<-k] at z ⊢;clear k;generalize World.alloc R _=s at z ⊢;replace z:=qh z;clear hK K;refine yA 1 rfl (λK hK=> ?_)
   refine zY s (by rfl) (.const (N7)) (.tmp 46) 73 rfl 116 (.agg #[I4 0,I4 0]) 2 16 Tryz.underlying73 xQ rfl (by decide) wr.heap.size (N7) 0 [] (by rfl) z.o.row ⟨bb,bo,none⟩ n bc (zx zq.cells l) (by rfl) (qP.o) (zcQ.o _ (z.o.below)) (zac) (by unfold maxLen;omega) (by omega) z.o.below.size ?_
   intro ra rc zxV g N M t q;try simp only [Nat.zero_add,List.nil_append] at g q ⊢
   have H:=qh (z.o.app g t q);clear g N M t q;refine hK.out _ _ H.o.below (λ_=> ?_)
   clear hK K;refine yA 4 rfl (λK hK=> ?_)
   refine zY zxV (by rfl) (.tmp 47) (.tmp 49) 73 rfl 116 (.agg #[I4 0,I4 0]) 2 16 Tryz.underlying73 xQ rfl (by decide) wr.heap.size (.slice ra n rc) n (zx zq.cells l) (by rfl) H.o.row ⟨V,0,none⟩ 1 1 [I4 f,I4 r] (by rfl) (rfl) (H.o.cell (by simp)) (by simp [Value.oneCell']) (by unfold maxLen;omega) (by omega) H.o.below.size ?_
   intro Y X zBd g N M t q;try simp only [Nat.zero_add,List.nil_append] at g q ⊢
   have I:=qh (H.o.app g t q);clear g N M t q;refine hK.out _ _ I.o.below (λ_=> ?_)
   clear hK K;refine zB 5 zM (I.o.below) ?_
   refine zB 6 zM (I.o.below) ?_
   refine xC ?_
   have L:=I.o.row;go_wp2_with fail
   go_ret2
   refine⟨⟨.slice Y (n+1) X,by first|rfl|simp, ?_, ?_⟩,G.o.trans (I.o.below.mono G.o.size)⟩
   ·try rw [if_pos rfl]
    exact wQ (B:=wr.heap.size) (by rw [d.o,U.o];exact L)
   have D:_:=xO (C:=w.heap.size) (B:=wr.heap.size) (n:=(l++ [(⟨f,r⟩:zq)]).length) (xs:=zx zq.cells (l++ [⟨f,r⟩])) (by rw [d.o,U.o];exact L) G.o.size;first|exact D|(intro _;exact D)|simpa using D
  clear O Q;go_upto_region 9 with fail
  refine qz (S:=λx=>Below wr.heap.size wr x) (Below.refl _ _).drew (λ_=> ?_)
  obtain⟨R,J⟩:=qxE wr.drew;rw [<-J] at b ⊢;clear J;refine zB 0 zM (b.o.below) ?_
  refine zB 2 CC.o (b.o.below) ?_
  refine wpAnyH_ready (rs:= [1,3]) (by kernel_rfl) (by simp) ?_
  refine AllReadyH.cons rfl (λK hK=> ?_) (AllReadyH.cons rfl (λK hK=> ?_) AllReadyH.nil)
  ·skip
   refine zY R (by rfl) (.const (N7)) (.tmp 46) 73 rfl 116 (.agg #[I4 0,I4 0]) 2 16 Tryz.underlying73 xQ rfl (by decide) wr.heap.size (N7) 0 [] (by rfl) b.o.row ⟨bb,bo,none⟩ n bc (zx zq.cells l) (by rfl) (qP.o) (zcQ.o _ (b.o.below)) (zac) (by unfold maxLen;omega) (by omega) b.o.below.size ?_
   intro ra rc T g N M t q;try simp only [Nat.zero_add,List.nil_append] at g q ⊢
   have F:=qh (b.o.app g t q);clear g N M t q;refine hK.out _ _ F.o.below (λ_=> ?_)
   clear hK K;refine yA 3 rfl (λK hK=> ?_)
   go_simp
   have A:=F.o.alloc [I4 f,I4 r];refine hK.out _ _ A.below (λ_=> ?_)
   obtain⟨V,k⟩:=qxE T.heap.size;rw [<-k] at A ⊢;clear k;generalize World.alloc T _=Xq4 at A ⊢;replace A:=qh A;clear hK K;refine yA 4 rfl (λK hK=> ?_)
   refine zY Xq4 (by rfl) (.tmp 47) (.tmp 49) 73 rfl 116 (.agg #[I4 0,I4 0]) 2 16 Tryz.underlying73 xQ rfl (by decide) wr.heap.size (.slice ra n rc) n (zx zq.cells l) (by rfl) A.o.row ⟨V,0,none⟩ 1 1 [I4 f,I4 r] (by rfl) (rfl) (A.o.cell (by simp)) (by simp [Value.oneCell']) (by unfold maxLen;omega) (by omega) A.o.below.size ?_
   intro Y X Z g N M t q;try simp only [Nat.zero_add,List.nil_append] at g q ⊢
   have v:=qh (A.o.app g t q);clear g N M t q;refine hK.out _ _ v.o.below (λ_=> ?_)
   clear hK K;refine zB 5 zM (v.o.below) ?_
   refine zB 6 zM (v.o.below) ?_
   refine xC ?_
   have L:=v.o.row;go_wp2_with fail
   go_ret2
   refine⟨⟨.slice Y (n+1) X,by first|rfl|simp, ?_, ?_⟩,G.o.trans (v.o.below.mono G.o.size)⟩
   ·try rw [if_pos rfl]
    exact wQ (B:=wr.heap.size) (by rw [d.o,U.o];exact L)
   have D:_:=xO (C:=w.heap.size) (B:=wr.heap.size) (n:=(l++ [(⟨f,r⟩:zq)]).length) (xs:=zx zq.cells (l++ [⟨f,r⟩])) (by rw [d.o,U.o];exact L) G.o.size;first|exact D|(intro _;exact D)|simpa using D
  skip
  go_simp
  have z:=b.o.alloc [I4 f,I4 r];refine hK.out _ _ z.below (λ_=> ?_)
  obtain⟨V,k⟩:=qxE R.heap.size;rw [<-k] at z ⊢;clear k;generalize World.alloc R _=s at z ⊢;replace z:=qh z;clear hK K;refine yA 1 rfl (λK hK=> ?_)
  refine zY s (by rfl) (.const (N7)) (.tmp 46) 73 rfl 116 (.agg #[I4 0,I4 0]) 2 16 Tryz.underlying73 xQ rfl (by decide) wr.heap.size (N7) 0 [] (by rfl) z.o.row ⟨bb,bo,none⟩ n bc (zx zq.cells l) (by rfl) (qP.o) (zcQ.o _ (z.o.below)) (zac) (by unfold maxLen;omega) (by omega) z.o.below.size ?_
  intro ra rc zxV g N M t q;try simp only [Nat.zero_add,List.nil_append] at g q ⊢
  have H:=qh (z.o.app g t q);clear g N M t q;refine hK.out _ _ H.o.below (λ_=> ?_)
  clear hK K;refine yA 4 rfl (λK hK=> ?_)
  refine zY zxV (by rfl) (.tmp 47) (.tmp 49) 73 rfl 116 (.agg #[I4 0,I4 0]) 2 16 Tryz.underlying73 xQ rfl (by decide) wr.heap.size (.slice ra n rc) n (zx zq.cells l) (by rfl) H.o.row ⟨V,0,none⟩ 1 1 [I4 f,I4 r] (by rfl) (rfl) (H.o.cell (by simp)) (by simp [Value.oneCell']) (by unfold maxLen;omega) (by omega) H.o.below.size ?_
  intro Y X zBd g N M t q;try simp only [Nat.zero_add,List.nil_append] at g q ⊢
  have I:=qh (H.o.app g t q);clear g N M t q;refine hK.out _ _ I.o.below (λ_=> ?_)
  clear hK K;refine zB 5 zM (I.o.below) ?_
  refine zB 6 zM (I.o.below) ?_
  refine xC ?_
  have L:=I.o.row;go_wp2_with fail
  go_ret2
  refine⟨⟨.slice Y (n+1) X,by first|rfl|simp, ?_, ?_⟩,G.o.trans (I.o.below.mono G.o.size)⟩
  ·try rw [if_pos rfl]
   exact wQ (B:=wr.heap.size) (by rw [d.o,U.o];exact L)
  have D:_:=xO (C:=w.heap.size) (B:=wr.heap.size) (n:=(l++ [(⟨f,r⟩:zq)]).length) (xs:=zx zq.cells (l++ [⟨f,r⟩])) (by rw [d.o,U.o];exact L) G.o.size;first|exact D|(intro _;exact D)|simpa using D
def zax (l:List zq) (v:Int):Nat->Option Int
 |0=>none
 |k+1=>if (l.getD k default).var=v then some (l.getD k default).n else zax l v k
def uo (l:List zq) (v:Int):Option Int:=zax l v l.length
theorem zwc (w:World) (D:Value) (l:List zq) (h:zX w D l) (H:l.length<=1000000) (v:Int):
  Calls Tryz.prog 88 #[D,I4 v] w λe F=>e= .returned (.tuple #[I4 ((uo l v).getD 0), .bool (uo l v).isSome])/\Below w.heap.size w F:=by
 obtain⟨V,U,rfl, -⟩:=zh.slice h;obtain⟨n,p⟩:=qxE l.length;obtain⟨r,f⟩:=qxE (uo l v);rw [<-f];unfold uo at f;rw [<-p] at h H f ⊢;have O:=qh h;have N:=qh p;have A:=qh f;clear h p f;go_enter Tryz.func88,Tryz.ntmps88
 go_wp2_with fail
 go_loopg [6] n (λM G wr=>∃(j:Nat) (z:Int),j<=n/\J2 (M=j)/\G=I4 z/\z=(j:Int) - 1/\wr=w/\J2 (r=zax l v j))
 case atStart=>exact⟨n,_,Nat.le_refl _,rfl,by first|rfl|simp,by first|rfl|(unfold wrap64;omega),rfl,A.o⟩
 case round=>
 obtain⟨j,z,R,P,rfl,B,i,y⟩:=hrel;obtain rfl:w=wr:=i.symm;by_cases h0:j=0
 ·obtain rfl:z= -1:=by omega
  subst h0;have m:r=none:=y.o;subst m;clear B A;go_wp2_with fail
  go_ret2
  exact⟨by first|rfl|simp,Below.refl _ _⟩
 obtain⟨k,rfl⟩:∃k,j=k+1:=⟨j - 1,by omega⟩;obtain rfl:z=(k:Int):=by omega
 have L:k<n:=by omega
 have I:(k:Int)<(n:Int):=by omega
 have J:¬(k:Int)<0:=by omega
 obtain⟨T,S,E, -,t,q⟩:=O.o.part k (by rw [<-N.o];exact L);subst E;obtain⟨g,b⟩:=qxE ((l.getD k default).var);obtain⟨C,c⟩:=qxE ((l.getD k default).n);rw [<-b] at t;rw [<-c] at q;have d:J2 (r=if g=v then some C else zax l v k):=by rw [J2,b,c];exact y.o
 clear b c h0 B;by_cases a1:g=v
 ·have u:((g:Int)==v)=true:=by simp [a1]
  obtain rfl:r=some C:=by rw [d.o,if_pos a1]
  clear a1 A y d;go_wp2_with fail
  go_ret2
  exact⟨by first|rfl|simp,Below.refl _ _⟩
 have u:((g:Int)==v)=false:=by simp [a1]
 have x:J2 (r=zax l v k):=by rw [J2,d.o,if_neg a1]
 clear a1;go_wp2_with fail
 go_roundg k
 case measure=>rw [P.o];omega
 case rel=>exact⟨k,_,by omega,rfl,rfl,by first|rfl|(unfold wrap64;omega),rfl,x.o⟩
theorem zt2 {a b:zq} (d:a.var=b.var) (c:a.n=b.n):a=b:=by cases a;cases b;simp_all
theorem zl5 {α:Type} [Inhabited α] {a b:List α} (d:a.length=b.length) (h:∀i,i<a.length->a.getD i default=b.getD i default):a=b:=by
 apply List.ext_getElem d
 intro i c f;have:=h i c
 simpa [List.getD_eq_getElem?_getD,c,f] using this
def yY (l:List zq) (v:Int):Nat->Option zq × List zq
 |0=>(none, [])
 |i+1=>if (yY l v i).1.isNone && decide ((l.getD i default).var=v) then(some (l.getD i default),(yY l v i).2) else((yY l v i).1,(yY l v i).2++ [l.getD i default])
def takeB (l:List zq) (v:Int):Option zq × List zq:=yY l v l.length
theorem ziQ (l:List zq) (v:Int) (i:Nat):(yY l v i).2.length<=i:=by
 induction i with
 |zero=>simp [yY]
 |succ i ih=>
 unfold yY;split
 ·simp only [];omega
 simp only [List.length_append,List.length_cons,List.length_nil];omega
theorem zcz {P:Program} {j:Func} {p u v:Tmp} {c:TypeId} (h:j.results= #[.cell p c, .tmp u, .tmp v]) (b:Array Value) (w:World) (g:Nat) (t:TypeId) (cs:Array Value) (i:Nat × Nat) (d:TypeDesc)
  (l:b.getD p undef= .pointer (some ⟨g,0,none⟩)) (n:w.heap[g]? =some (.cells cs t i))
  (k:P.underlying c=some d) (o:(match d with| .struct _| .array _ _=>true|_=>false)=true) (m:(P.info? c).map (·.size)=some cs.size):
  (results j b).run P w= .ok (.tuple #[.agg cs,b.getD u undef,b.getD v undef]) w:=by
 have f:b[p]?.getD undef= .pointer (some ⟨g,0,none⟩):=by simpa using l
 simp [results,h,f,asAddr,run_loadVar_row w g t c cs i d n k o m]
theorem xu {P:Program} {j:Func} {p:Tmp} {c:TypeId} (h:j.results= #[.cell p c]) (b:Array Value) (w:World) (g:Nat) (t:TypeId) (cs:Array Value) (i:Nat × Nat) (d:TypeDesc)
  (l:b.getD p undef= .pointer (some ⟨g,0,none⟩)) (n:w.heap[g]? =some (.cells cs t i))
  (k:P.underlying c=some d) (o:(match d with| .struct _| .array _ _=>true|_=>false)=true) (m:(P.info? c).map (·.size)=some cs.size):
  (results j b).run P w= .ok (.agg cs) w:=by
 have f:b[p]?.getD undef= .pointer (some ⟨g,0,none⟩):=by simpa using l
 simp [results,h,f,asAddr,run_loadVar_row w g t c cs i d n k o m]
theorem zK {P:Program} {j:Func} {p u:Tmp} {c:TypeId} (h:j.results= #[.cell p c, .tmp u]) (b:Array Value) (w:World) (g:Nat) (t:TypeId) (cs:Array Value) (i:Nat × Nat) (d:TypeDesc)
  (l:b.getD p undef= .pointer (some ⟨g,0,none⟩)) (n:w.heap[g]? =some (.cells cs t i))
  (k:P.underlying c=some d) (o:(match d with| .struct _| .array _ _=>true|_=>false)=true) (m:(P.info? c).map (·.size)=some cs.size):
  (results j b).run P w= .ok (.tuple #[.agg cs,b.getD u undef]) w:=by
 have f:b[p]?.getD undef= .pointer (some ⟨g,0,none⟩):=by simpa using l
 simp [results,h,f,asAddr,run_loadVar_row w g t c cs i d n k o m]
theorem zf3:(Tryz.prog.info? 116).map (·.size)=some 2:=by kernel_rfl
theorem zgY (w:World) (a b:Value) (t:TypeId):∀j u, [a,b][j]? =some u->(w.alloc (.cells #[a,b] t)).cell? ((⟨w.heap.size,0,none⟩:Addr).add j)=some u:=by
 intro j u c;have h:=λi=>ze (zQ w (.cells #[a,b] t)) i;match j with
 |0=>simp only [List.getElem?_cons_zero,Option.some.injEq] at c;subst c;simp [Addr.add,h 0]
 |1=>simp only [List.getElem?_cons_succ,List.getElem?_cons_zero,Option.some.injEq] at c;subst c;simp [Addr.add,h 1]
 |j+2=>simp at c
theorem zxN (w:World) (bv:Value) (l:List zq) (h:zX w bv l) (hl:l.length<=1000000) (v:Int):
  Calls Tryz.prog 60 #[bv,I4 v] w λe w'=>(∃sv,e= .returned (.tuple #[((takeB l v).1.getD default).val,sv, .bool (takeB l v).1.isSome])/\zX w' sv (takeB l v).2/\w'.ownsRow w.heap.size 116 2 sv (takeB l v).2.length (zx zq.cells (takeB l v).2))/\Below w.heap.size w w':=by
 obtain⟨ba,bc,rfl, -⟩:=zh.slice h;obtain⟨n,hn⟩:=qxE l.length;unfold takeB;rw [<-hn] at h hl ⊢;have s:=xK w (.cells #[I4 0,I4 0] 116) (.cells #[I4 0,I4 0] 116);have HB:=qh s;have H1:=qh (xA w (.cells #[I4 0,I4 0] 116) (.cells #[I4 0,I4 0] 116));have H2:=qh (xq w (.cells #[I4 0,I4 0] 116) (.cells #[I4 0,I4 0] 116));have HL:=qh h;have HN:=qh hn;have Q:((w.alloc (.cells #[I4 0,I4 0] 116)).alloc (.cells #[I4 0,I4 0] 116)).heap.size=w.heap.size+2:=by simp
 have uh:=qh Q;clear h s hn Q;go_enter Tryz.func60,Tryz.ntmps60
 go_upto_region 3 with fail
 generalize World.alloc (World.alloc w _) _=W at HB H1 H2 uh ⊢;obtain⟨c,U⟩:=qxE w.heap.size;rw [<-U] at H1 H2 uh ⊢;have xG:=qh U;clear U;go_wp2_with fail
 go_loopg [7,9,10] n (λgg s7 s9 s10 wr=>∃(i:Nat) (z:Option Addr) (f t:Nat) (x:zq) (j:Bool),i<=n/\J2 (gg=n - i)/\s7= .slice z f t/\s9= .bool j/\s10=I4 i/\
  J2 (wr.ownsRow (c+2) 116 2 (.slice z f t) f (zx zq.cells (yY l v i).2))/\J2 (j=(yY l v i).1.isSome)/\J2 (x=(yY l v i).1.getD default)/\J2 (f=(yY l v i).2.length)/\
  J2 (wr.heap[c]? =some (.cells #[I4 0,I4 0] 116 (0,0)))/\J2 (wr.heap[c+1]? =some (.cells #[I4 x.var,I4 x.n] 116 (0,0)))/\J2 (Below c w wr)/\J2 (c+2<=wr.heap.size))
 case atStart=>exact⟨0,none,0,0,default,false,Nat.zero_le _,rfl,rfl,rfl,rfl,World.ownsRow_nil _ _ _ _,rfl,rfl,rfl,H1.o,H2.o,by rw [J2,xG.o];exact HB.o,by rw [J2,uh.o];omega⟩
 case round=>
 obtain⟨i,z,f,t,x,j,hi,HG,rfl,rfl,rfl,Z,O,Y,C,G,g,zZ,m⟩:=hrel;by_cases hlt:i<n
 rotate_left
 ·obtain rfl:n=i:=by omega
  have d0:wr.cell? ⟨c+1,0,none⟩=some (I4 x.var):=ze g.o 0;have d1:wr.cell? ⟨c+1,1,none⟩=some (I4 x.n):=ze g.o 1;have d2:wr.cell? ⟨c,0,none⟩=some (I4 0):=ze G.o 0;have d3:wr.cell? ⟨c,1,none⟩=some (I4 0):=ze G.o 1;have f0:wr.frozen? ⟨c,0,none⟩=false:=zH G.o 0;have f1:wr.frozen? ⟨c,1,none⟩=false:=zH G.o 1;have d:=zu (zu G.o 0 (I4 x.var)) 1 (I4 x.n);simp only [List.setIfInBounds_toArray,List.set_cons_zero,List.set_cons_succ] at d
  have E:Since (λk=>k=c) wr ((wr.setCell ⟨c,0,none⟩ (I4 x.var)).setCell ⟨c,1,none⟩ (I4 x.n)):=Since.setCell (p:=⟨c,1,none⟩) (Since.setCell (F:=λk=>k=c) (p:=⟨c,0,none⟩) (Since.refl _ wr) (.inl rfl) _) (.inl rfl) _;have zL:=qh d;have V:=qh E;clear d E;go_wp2_with fail
  (try simp only [Exit.inBlock,Exit.then])
  refine bodyPost_ret (zcz rfl _ _ c 116 _ (0,0) _ rfl zL.o Tryz.underlying116 rfl zf3) rfl ?_
  have R:(((wr.setCell ⟨c,0,none⟩ (I4 x.var)).setCell ⟨c,1,none⟩ (I4 x.n))).ownsRow (c+2) 116 2 (.slice z f t) (yY l v n).2.length (zx zq.cells (yY l v n).2):=by rw [<-C.o];exact V.o.row Z.o (λy J e=>by have:=(Z.o.lt y J).1;omega)
  refine⟨⟨.slice z f t, ?_,wQ R,xO R (by have:=xG.o;omega)⟩,by rw [<-xG.o];exact zZ.o.trans (V.o.below (by have:=m.o;omega) (λy J=>by omega))⟩
  rw [<-Y.o, <-O.o];rfl
 have vC:(i:Int)<(n:Int):=by omega
 obtain⟨eb,eo,yI,heb,N,M⟩:=HL.o.part i (by rw [<-HN.o];exact hlt);subst yI;obtain⟨y,J⟩:=qxE (l.getD i default);rw [<-J] at N M;have L:∀a u,w.cell? a=some u->wr.cell? a=some u:=λa u h=>by have:=zZ.o;rw [xG.o] at this;exact zl this a u h
 replace N:=L _ _ N;replace M:=L _ _ M;have S:yY l v (i+1)=if (yY l v i).1.isNone && decide (y.var=v) then(some y,(yY l v i).2) else((yY l v i).1,(yY l v i).2++ [y]):=by rw [J];rfl
 have HST:=qh S;have hrl:f<=1000000:=by have:=ziQ l v i;rw [C.o];omega
 obtain⟨q,P⟩:=y;simp only [] at N M S;clear J L S;have A:(yY l v i).1.isNone= !j:=by rw [O.o];cases (yY l v i).1<;>rfl
 have HNO:=qh A;clear A;by_cases a1:j=false/\q=v
 ·obtain⟨rfl,rfl⟩:=a1;have K:yY l q (i+1)=(some ⟨q,P⟩,(yY l q i).2):=by rw [HST.o,HNO.o];simp
  have r:=qh K;have d0:wr.cell? ⟨c+1,0,none⟩=some (I4 x.var):=ze g.o 0;have d1:wr.cell? ⟨c+1,1,none⟩=some (I4 x.n):=ze g.o 1;have f0:wr.frozen? ⟨c+1,0,none⟩=false:=zH g.o 0;have f1:wr.frozen? ⟨c+1,1,none⟩=false:=zH g.o 1;have d:=zu (zu g.o 0 (I4 q)) 1 (I4 P);simp only [List.setIfInBounds_toArray,List.set_cons_zero,List.set_cons_succ] at d;have E:Since (λk=>k=c+1) wr ((wr.setCell ⟨c+1,0,none⟩ (I4 q)).setCell ⟨c+1,1,none⟩ (I4 P)):=Since.setCell (p:=⟨c+1,1,none⟩) (Since.setCell (F:=λk=>k=c+1) (p:=⟨c+1,0,none⟩) (Since.refl _ wr) (.inl rfl) _) (.inl rfl) _;have zL:=qh d;have V:=qh E;clear d E K
  go_wp2_with fail
  go_roundg (n - (i+1))
  case measure=>rw [HG.o];omega
  case rel=>exact⟨i+1,z,f,t,⟨q,P⟩,true,by omega,rfl,rfl,by first|rfl|simp,by simp,by rw [J2,r.o];exact V.o.row Z.o (λy J e=>by have:=(Z.o.lt y J).1;omega),by rw [J2,r.o];rfl,by rw [J2,r.o];rfl,by rw [J2,r.o];exact C.o,(V.o.block _ (zA G.o) (by omega)).trans G.o,zL.o,zZ.o.trans (V.o.below (by have:=m.o;omega) (λy J=>by omega)),Nat.le_trans m.o V.o.size⟩
 have K:yY l v (i+1)=((yY l v i).1,(yY l v i).2++ [⟨q,P⟩]):=by
  rw [HST.o,HNO.o,if_neg];simp only [Bool.and_eq_true,Bool.not_eq_true',decide_eq_true_eq];exact a1
 have r:=qh K
 have B:∀b:Bool,b=j->(b=false->((q:Int)==v)=false):=λb hb h=>by
  rw [beq_eq_false_iff_ne];exact λe=>a1 ⟨hb ▸ h,e⟩
 have HCD:=qh (B j rfl);clear K a1 B
 have hap:∀(X:World) (I:Option Addr) (H:Nat) (o:Obj),X.ownsRow (c+2) 116 2 (.slice I (f+1) H) (f+1) (zx zq.cells (yY l v i).2++ [I4 q,I4 P])->Since (λk=>(Value.slice z f t).ownBlock=some k) (wr.alloc o) X->
   X.ownsRow (c+2) 116 2 (.slice I (f+1) H) (f+1) (zx zq.cells (yY l v (i+1)).2)/\X.heap[c]? =some (.cells #[I4 0,I4 0] 116 (0,0))/\X.heap[c+1]? =some (.cells #[I4 x.var,I4 x.n] 116 (0,0))/\Below c w X/\c+2<=X.heap.size:=λX I H o h1 h2=>by
  have E:Since (λk=>(Value.slice z f t).ownBlock=some k) wr X:=((Since.refl _ wr).alloc o).trans h2 (λk L=> .inl L);have T:∀k,(Value.slice z f t).ownBlock=some k->c+2<=k:=λk L=>(Z.o.lt k L).1;refine⟨by rw [r.o];simp only [];rw [kS];exact h1,(E.block _ (zA G.o) (λe=>by have:=T _ e;omega)).trans G.o,(E.block _ (zA g.o) (λe=>by have:=T _ e;omega)).trans g.o,zZ.o.trans (E.below (by have:=m.o;omega) (λk L=>by have:=T _ L;omega)),Nat.le_trans m.o E.size⟩
 have HAP:=qh hap;clear hap;cases j with
 |true=>
  go_wp2_with(at_builtin;go_must(refine zO _ rfl _ _ 73 rfl 116 (.agg #[I4 0,I4 0]) 2 16 Tryz.underlying73 xQ rfl (by decide) (c+2) (.slice z f t) f (zx zq.cells (yY l v i).2) rfl (Z.o.alloc _) ⟨wr.heap.size,0,none⟩ 1 1 [I4 q,I4 P] rfl rfl (zgY _ _ _ _) (by simp [Value.oneCell']) (by unfold maxLen;omega) (by omega) (by have:=m.o;simp;omega) ?_);intro I H X e1 e2 e3 e4 e5 e6;have D:=qh (HAP.o X I H _ e1 e4);clear e1 e2 e3 e4 e5 e6);go_roundg (n - (i+1))
  case measure=>rw [HG.o];omega
  case rel=>exact⟨i+1,I,f+1,H,x,true,by omega,rfl,rfl,by first|rfl|simp,by simp,D.o.1,by rw [J2,r.o];exact O.o,by rw [J2,r.o];exact Y.o,by rw [J2,r.o,List.length_append, <-C.o];rfl,D.o.2.1,D.o.2.2.1,D.o.2.2.2.1,D.o.2.2.2.2⟩
 |false=>
 have a2:=HCD.o rfl;clear HCD;go_wp2_with(at_builtin;go_must(refine zO _ rfl _ _ 73 rfl 116 (.agg #[I4 0,I4 0]) 2 16 Tryz.underlying73 xQ rfl (by decide) (c+2) (.slice z f t) f (zx zq.cells (yY l v i).2) rfl (Z.o.alloc _) ⟨wr.heap.size,0,none⟩ 1 1 [I4 q,I4 P] rfl rfl (zgY _ _ _ _) (by simp [Value.oneCell']) (by unfold maxLen;omega) (by omega) (by have:=m.o;simp;omega) ?_);intro I H X e1 e2 e3 e4 e5 e6;have D:=qh (HAP.o X I H _ e1 e4);clear e1 e2 e3 e4 e5 e6);go_roundg (n - (i+1))
 case measure=>rw [HG.o];omega
 case rel=>exact⟨i+1,I,f+1,H,x,false,by omega,rfl,rfl,by first|rfl|simp,by simp,D.o.1,by rw [J2,r.o];exact O.o,by rw [J2,r.o];exact Y.o,by rw [J2,r.o,List.length_append, <-C.o];rfl,D.o.2.1,D.o.2.2.1,D.o.2.2.2.1,D.o.2.2.2.2⟩
def jC (op:Int):Bool:=decide (op=43\/op=45\/op=42\/op=60\/op=38\/op=124\/op=61\/op=33)
theorem zbM (op:Int):(strOfNums [op]).toList.isEmpty=false:=by
 rw [ByteArray.toList_eq,strOfNums_data];rfl
theorem zng (w:World) (op:Int):(convert 22 9 (.slice (some ⟨w.heap.size,0,none⟩) 1 1)).run Tryz.prog (w.alloc (.cells #[.int .u8 op] 5))= .ok (.string (strOfNums [op])) (w.alloc (.cells #[.int .u8 op] 5)):=
 run_convert_bytes_arg _ 22 5 Tryz.underlying22 Tryz.underlying5 w.heap.size 0 1 1 [op] rfl (λi b=>by
  obtain rfl:i=0:=by omega
  exact ze (zQ w _) 0) 9 Tryz.underlying9
theorem zxW (w:World) (op:Int):Calls Tryz.prog 181 #[.int .u8 op] w λe n=>(∃s:ByteArray,e= .returned (.string s)/\s.toList.isEmpty= !jC op)/\Below w.heap.size w n:=by
 have c:=zng w op;have h:=qh ((Below.refl w.heap.size w).alloc (Nat.le_refl _) (.cells #[.int .u8 op] 5));go_enter Tryz.func181,Tryz.ntmps181
 go_wp2_with fail
 go_loopg [3] 6 (λr p wr=>∃i:Nat,i<=6/\J2 (r=6 - i)/\p=I4 i/\J2 ((0<i->op≠43)/\(1<i->op≠45)/\(2<i->op≠42)/\(3<i->op≠60)/\(4<i->op≠38)/\(5<i->op≠124))/\wr=w)
 case atStart=>exact⟨0,by omega,rfl,rfl,by constructor<;>simp,rfl⟩
 case round=>
 obtain⟨i,u,g,rfl,d,l⟩:=hrel;obtain rfl:w=wr:=l.symm;have B:(({ data:= #[43,45,42,60,38,124] } :ByteArray)[0]).toNat=43:=by rfl
 have A:(({ data:= #[43,45,42,60,38,124] } :ByteArray)[1]).toNat=45:=by rfl
 have z:(({ data:= #[43,45,42,60,38,124] } :ByteArray)[2]).toNat=42:=by rfl
 have y:(({ data:= #[43,45,42,60,38,124] } :ByteArray)[3]).toNat=60:=by rfl
 have x:(({ data:= #[43,45,42,60,38,124] } :ByteArray)[4]).toNat=38:=by rfl
 have v:(({ data:= #[43,45,42,60,38,124] } :ByteArray)[5]).toNat=124:=by rfl
 have q:i=0\/i=1\/i=2\/i=3\/i=4\/i=5\/i=6:=by omega
 rcases q with rfl|rfl|rfl|rfl|rfl|rfl|rfl
 ·by_cases a:op=43
  ·subst a;go_wp2_with fail
   go_ret;exact⟨⟨_,by first|rfl|simp,by rw [zbM];rfl⟩,h.o⟩
  have f:((43:Int)==op)=false:=by rw [beq_eq_false_iff_ne];omega
  have k:((op:Int)==43)=false:=by rw [beq_eq_false_iff_ne];omega
  have j:¬(43:Int)=op:=by omega
  clear c;go_wp2_with fail
  go_roundg 5
  case measure=>rw [g.o];omega
  case rel=>exact⟨1,by omega,rfl,by simp,by rw [J2];have:=d.o;omega,rfl⟩
 ·by_cases a:op=45
  ·subst a;go_wp2_with fail
   go_ret;exact⟨⟨_,by first|rfl|simp,by rw [zbM];rfl⟩,h.o⟩
  have f:((45:Int)==op)=false:=by rw [beq_eq_false_iff_ne];omega
  have k:((op:Int)==45)=false:=by rw [beq_eq_false_iff_ne];omega
  have j:¬(45:Int)=op:=by omega
  clear c;go_wp2_with fail
  go_roundg 4
  case measure=>rw [g.o];omega
  case rel=>exact⟨2,by omega,rfl,by simp,by rw [J2];have:=d.o;omega,rfl⟩
 ·by_cases a:op=42
  ·subst a;go_wp2_with fail
   go_ret;exact⟨⟨_,by first|rfl|simp,by rw [zbM];rfl⟩,h.o⟩
  have f:((42:Int)==op)=false:=by rw [beq_eq_false_iff_ne];omega
  have k:((op:Int)==42)=false:=by rw [beq_eq_false_iff_ne];omega
  have j:¬(42:Int)=op:=by omega
  clear c;go_wp2_with fail
  go_roundg 3
  case measure=>rw [g.o];omega
  case rel=>exact⟨3,by omega,rfl,by simp,by rw [J2];have:=d.o;omega,rfl⟩
 ·by_cases a:op=60
  ·subst a;go_wp2_with fail
   go_ret;exact⟨⟨_,by first|rfl|simp,by rw [zbM];rfl⟩,h.o⟩
  have f:((60:Int)==op)=false:=by rw [beq_eq_false_iff_ne];omega
  have k:((op:Int)==60)=false:=by rw [beq_eq_false_iff_ne];omega
  have j:¬(60:Int)=op:=by omega
  clear c;go_wp2_with fail
  go_roundg 2
  case measure=>rw [g.o];omega
  case rel=>exact⟨4,by omega,rfl,by simp,by rw [J2];have:=d.o;omega,rfl⟩
 ·by_cases a:op=38
  ·subst a;go_wp2_with fail
   go_ret;exact⟨⟨_,by first|rfl|simp,by rw [zbM];rfl⟩,h.o⟩
  have f:((38:Int)==op)=false:=by rw [beq_eq_false_iff_ne];omega
  have k:((op:Int)==38)=false:=by rw [beq_eq_false_iff_ne];omega
  have j:¬(38:Int)=op:=by omega
  clear c;go_wp2_with fail
  go_roundg 1
  case measure=>rw [g.o];omega
  case rel=>exact⟨5,by omega,rfl,by simp,by rw [J2];have:=d.o;omega,rfl⟩
 ·by_cases a:op=124
  ·subst a;go_wp2_with fail
   go_ret;exact⟨⟨_,by first|rfl|simp,by rw [zbM];rfl⟩,h.o⟩
  have f:((124:Int)==op)=false:=by rw [beq_eq_false_iff_ne];omega
  have k:((op:Int)==124)=false:=by rw [beq_eq_false_iff_ne];omega
  have j:¬(124:Int)=op:=by omega
  clear c;go_wp2_with fail
  go_roundg 0
  case measure=>rw [g.o];omega
  case rel=>exact⟨6,by omega,rfl,by simp,by rw [J2];have:=d.o;omega,rfl⟩
 clear c;by_cases a:op=61
 ·subst a;go_wp2_with fail
  go_ret;exact⟨⟨_,by first|rfl|simp,by decide+kernel⟩,Below.refl _ _⟩
 have f:((op:Int)==61)=false:=by rw [beq_eq_false_iff_ne];omega
 by_cases b:op=33
 ·subst b;go_wp2_with fail
  go_ret;exact⟨⟨_,by first|rfl|simp,by decide+kernel⟩,Below.refl _ _⟩
 have C:((op:Int)==33)=false:=by rw [beq_eq_false_iff_ne];omega
 have m:jC op=false:=by unfold jC;rw [decide_eq_false_iff_not];have:=d.o;omega
 have t:=qh m;clear m;go_wp2_with fail
 go_ret;exact⟨⟨ByteArray.empty,by first|rfl|simp,by rw [t.o];decide+kernel⟩,Below.refl _ _⟩
def vK (x:zR):Bool:=decide (x.kind=0) && decide (x.n=0) && decide (x.op=0) && decide (x.kids.length=0)
theorem zmu (w:World) (x:zR) (ka:Option Addr) (kc:Nat):Calls Tryz.prog 113 #[qD x (.slice ka x.kids.length kc)] w λe p=>e= .returned (.bool (vK x))/\Below w.heap.size w p:=by
 obtain⟨k,n,o,l⟩:=x;obtain⟨m,j⟩:=qxE l.length;obtain⟨r,i⟩:=qxE (vK (.mk k n o l));rw [<-i];have f:r=(decide (k=0) && decide (n=0) && decide (o=0) && decide (m=0)):=by rw [i,j];rfl
 have b:=qh f;unfold qD;simp only [zR.kind,zR.n,zR.op,zR.kids];rw [<-j];clear i f j;have d:=qh ((Below.refl w.heap.size w).alloc (Nat.le_refl _) (.cells #[I4 k,I4 n, .int .u8 o, .slice ka m kc] 104));have c:=qh (zQ w (.cells #[I4 k,I4 n, .int .u8 o, .slice ka m kc] 104));go_enter Tryz.func113,Tryz.ntmps113
 go_upto_region 1 with fail
 generalize World.alloc w _=W at d c ⊢;obtain⟨h,g⟩:=qxE w.heap.size;rw [<-g] at c ⊢;clear g;have B:W.cell? ⟨h,0,none⟩=some (I4 k):=ze c.o 0;have A:W.cell? ⟨h,1,none⟩=some (I4 n):=ze c.o 1;have z:W.cell? ⟨h,2,none⟩=some (.int .u8 o):=ze c.o 2;have y:W.cell? ⟨h,3,none⟩=some (.slice ka m kc):=ze c.o 3;by_cases a1:k=0
 rotate_left
 ·have v:((k:Int)==0)=false:=by simp [a1]
  obtain rfl:r=false:=by rw [b.o];simp [a1]
  clear b a1;go_wp2_with fail
  go_ret;exact⟨by first|rfl|simp,d.o⟩
 have v:((k:Int)==0)=true:=by simp [a1]
 by_cases a2:n=0
 rotate_left
 ·have u:((n:Int)==0)=false:=by simp [a2]
  obtain rfl:r=false:=by rw [b.o];simp [a2]
  clear b a1 a2;go_wp2_with fail
  go_ret;exact⟨by first|rfl|simp,d.o⟩
 have u:((n:Int)==0)=true:=by simp [a2]
 by_cases a3:o=0
 ·have t:((o:Int)==0)=true:=by simp [a3]
  obtain rfl:r=decide (m=0):=by rw [b.o];simp [a1,a2,a3]
  clear b a1 a2 a3;by_cases a4:m=0
  ·have q:((m:Int)==0)=true:=by simp [a4]
   subst a4;go_wp2_with fail
   go_ret;exact⟨by first|rfl|simp,d.o⟩
  have q:((m:Int)==0)=false:=by simp [a4]
  go_wp2_with fail
  go_ret;exact⟨by first|rfl|simp [a4],d.o⟩
 have t:((o:Int)==0)=false:=by simp [a3]
 obtain rfl:r=false:=by rw [b.o];simp [a3]
 clear b a1 a2 a3;go_wp2_with fail
 go_ret;exact⟨by first|rfl|simp,d.o⟩
