/- Steps. -/
import Derived.Test.YtnhahkiojbanfaaGreatDoorRqOwnP
set_option linter.all false
namespace Go.Proofs.YtnhahkiojbanfaaGreatDoor
open Go.RowKit
set_option maxRecDepth 100000
set_option maxHeartbeats 16000000
structure Loc (V X:World) (bs:List (Nat × TypeId × List Value)):Prop where
 below:Below V.heap.size V X
 news:∀p∈bs,X.heap[p.1]? =some (.cells p.2.2.toArray p.2.1 (0,0))/\V.heap.size<=p.1
 apart:(bs.map (·.1)).Nodup
def upd (g:Nat) (l:List Value) (bs:List (Nat × TypeId × List Value)):List (Nat × TypeId × List Value):=bs.map λp=>if p.1=g then(p.1,p.2.1,l) else p
section
variable {V X:World} {bs:List (Nat × TypeId × List Value)}
theorem Loc.start (V:World):Loc V V [] :=⟨Below.refl _ _,by simp,by simp⟩
theorem Loc.drew (h:Loc V X bs):Loc V X.drew bs:=⟨h.below.drew,h.news,h.apart⟩
theorem Loc.later (h:Loc V X bs) {X':World} (hb:Below X.heap.size X X'):Loc V X' bs:=⟨zM h.below hb,λp hp=>⟨(hb.block _ (zy (h.news p hp).1)).trans (h.news p hp).1,(h.news p hp).2⟩,h.apart⟩
theorem Loc.alloc (h:Loc V X bs) (t:TypeId) (cs:List Value):Loc V (X.alloc (.cells cs.toArray t)) ((X.heap.size,t,cs)::bs):=by
 refine⟨h.below.alloc h.below.size _, ?_, ?_⟩
 ·intro p hp
  rcases List.mem_cons.1 hp with rfl|hp
  ·exact⟨zS X _,h.below.size⟩
  exact⟨(Below.heap_alloc _ _ _ (zy (h.news p hp).1)).trans (h.news p hp).1,(h.news p hp).2⟩
 simp only [List.map_cons,List.nodup_cons]
 refine⟨?_,h.apart⟩
 intro hm
 obtain⟨p,hp,e⟩:=List.mem_map.1 hm
 have:=zy (h.news p hp).1
 omega
theorem Loc.store (h:Loc V X bs) {g:Nat} {t:TypeId} {cs:List Value} (hg:(g,t,cs)∈bs) (l:List Value) (hl:cs.length=l.length):Loc V (xI X g 0 l) (upd g l bs):=by
 have hS:=qJ (g:=g) l X 0
 refine⟨h.below.trans (hS.below h.below.size (λk e=>by rw [e];exact(h.news _ hg).2)), ?_, ?_⟩
 ·intro p hp
  obtain⟨q,hq,rfl⟩:=List.mem_map.1 hp
  by_cases e:q.1=g
  ·simp only [if_pos e]
   have hqe:q=(g,t,cs):=by
    have h1:=h.news q hq
    have h2:=h.news _ hg
    rw [e] at h1
    obtain⟨a,b,c⟩:=q
    simp only [] at e h1 h2
    subst e
    have h3:=h1.1.symm.trans h2.1
    simp only [Option.some.injEq,Obj.cells.injEq] at h3
    obtain⟨h4,h5, -⟩:=h3
    have h6:c=cs:=by simpa using h4
    rw [h5,h6]
   subst hqe
   exact⟨vG l hl (h.news _ hg).1,(h.news _ hg).2⟩
  rw [if_neg e]
  exact⟨(hS.block _ (zy (h.news q hq).1) e).trans (h.news q hq).1,(h.news q hq).2⟩
 have:(upd g l bs).map (·.1)=bs.map (·.1):=by
  unfold upd
  rw [List.map_map]
  refine List.map_congr_left (λp _=> ?_)
  simp only [Function.comp]
  split<;>rfl
 rw [this];exact h.apart
theorem zdv {g:Nat} {t:TypeId} {cs l:List Value} (h:(g,t,cs)∈bs):(g,t,l)∈upd g l bs:=List.mem_map.2 ⟨_,h,by simp⟩
theorem uU {g:Nat} {l:List Value} {p:Nat × TypeId × List Value} (h:p∈bs) (hne:p.1≠g):p∈upd g l bs:=List.mem_map.2 ⟨p,h,by simp [hne]⟩
theorem Loc.zbp (h:Loc V X bs) {p:Nat × TypeId × List Value} (hp:p∈bs):p.1≠X.heap.size:=Nat.ne_of_lt (zy (h.news p hp).1)
end
end Go.Proofs.YtnhahkiojbanfaaGreatDoor
namespace Go.Proofs.YtnhahkiojbanfaaGreatDoor
open Go.RowKit
set_option maxRecDepth 100000
set_option maxHeartbeats 16000000
theorem zp7 {x v:Int} {l:List Int} (h:v∈uV x l):v=x\/v∈l:=by
 induction l with
 |nil=>simp only [uV,List.mem_singleton] at h;exact .inl h
 |cons y l ih=>
 unfold uV at h
 split at h
 ·rcases List.mem_cons.1 h with rfl|h
  ·exact .inl rfl
  exact .inr h
 rcases List.mem_cons.1 h with rfl|h
 ·exact .inr (List.mem_cons_self ..)
 exact(ih h).imp id (λh=>List.mem_cons_of_mem _ h)
theorem zj0 {l:List zl} {v:Int} {i:Nat} (h:v∈qG l i):∃j,j<i/\(l.getD j default).var=v:=by
 induction i with
 |zero=>simp [qG] at h
 |succ i ih=>
 unfold qG at h
 split at h
 ·rcases zp7 h with rfl|h
  ·exact⟨i,by omega,rfl⟩
  obtain⟨j,hj,e⟩:=ih h;exact⟨j,by omega,e⟩
 obtain⟨j,hj,e⟩:=ih h;exact⟨j,by omega,e⟩
theorem zny {l:List zl} {v model:Int} (h:v∈yE l model):∃j,j<l.length/\(l.getD j default).var=v:=by
 unfold yE at h
 split at h
 ·exact zj0 h
 split at h
 ·cases l with
  |nil=>cases h
  |cons x r=>
  simp only [List.mem_singleton] at h
  exact⟨0,by simp,by rw [h];rfl⟩
 cases h
theorem zl5 {l:List zl} {v:Int} {i:Nat} (h:∃j,j<i/\(l.getD j default).var=v):∃n,(yL l v i).1=some ⟨v,n⟩:=by
 induction i with
 |zero=>obtain⟨j,hj, -⟩:=h;omega
 |succ i ih=>
 unfold yL
 by_cases hs:(yL l v i).1.isNone
 ·by_cases hv:(l.getD i default).var=v
  ·rw [if_pos (by simp only [hs,Bool.true_and];exact decide_eq_true hv)]
   exact⟨(l.getD i default).n,by rw [<-hv]⟩
  obtain⟨j,hj,e⟩:=h
  have hj2:j<i:=by
   rcases Nat.lt_or_ge j i with h1|h1
   ·exact h1
   obtain rfl:j=i:=by omega
   exact absurd e hv
  obtain⟨n,hn⟩:=ih ⟨j,hj2,e⟩
  rw [hn] at hs;cases hs
 rw [if_neg (by simp only [Bool.and_eq_true];exact λh=>hs h.1)]
 have:∃y,(yL l v i).1=some y:=by
  cases h3:(yL l v i).1 with
  |none=>rw [h3] at hs;exact absurd rfl hs
  |some y=>exact⟨y,rfl⟩
 obtain⟨y,hy⟩:=this
 have hyv:∀k y,(yL l v k).1=some y->y.var=v:=by
  intro k
  induction k with
  |zero=>intro y h;cases h
  |succ k ihk=>
  intro y h
  unfold yL at h
  split at h
  ·rename_i h4
   simp only [Bool.and_eq_true,decide_eq_true_eq] at h4
   cases h
   exact h4.2
  exact ihk y h
 have hv:=hyv i y hy
 exact⟨y.n,by rw [hy, <-hv]⟩
theorem zb1 {c:zx} {m:zu} {s:zi} (h:zP c m s=true) {i:Nat} (hi:i<s.threads.length) {v:Int} (hv:v∈yE (s.threads.getD i default).buf m.model):
  0<=v/\v<c.vars/\∃n,takeB (s.threads.getD i default).buf v=(some ⟨v,n⟩,(takeB (s.threads.getD i default).buf v).2):=by
 obtain⟨j,hj,e⟩:=zny hv
 unfold zP at h
 simp only [Bool.and_eq_true] at h
 have h5:=h.2
 rw [List.all_eq_true] at h5
 have h6:=h5 i (List.mem_range.2 hi)
 unfold uR at h6
 simp only [Bool.and_eq_true] at h6
 have h7:=h6.2
 rw [List.all_eq_true] at h7
 have h8:=h7 j (List.mem_range.2 hj)
 unfold vJ at h8
 simp only [Bool.and_eq_true,decide_eq_true_eq] at h8
 rw [e] at h8
 obtain⟨n,hn⟩:=zl5 (l:=(s.threads.getD i default).buf) ⟨j,hj,e⟩
 exact⟨h8.1.1.1.2,h8.1.1.2,n,Prod.ext hn rfl⟩
structure zid where
 mem:List Int
 regs:List (List Int)
 deriving DecidableEq
instance:Inhabited zid:=⟨⟨[], []⟩⟩
def wZ (s:zi):Bool:=s.threads.all λt=>decide (t.buf.length=0)
structure z06 (W X:World) (gb gi tb n tc mb mn mc:Nat) (bad:Bool) (ts:List zA) (mem:List Int) (bs:List Value) (ics:List Value):Prop where
 own:zxJ W X gb (.slice (some ⟨tb,0,none⟩) n tc) (.slice (some ⟨mb,0,none⟩) mn mc) bad ts mem bs
 instr:X.heap[gi]? =some (.cells ics.toArray 60 (0,0))
 g1:gi≠gb
 g2:gi≠tb
 g3:gi≠mb
theorem zl6 (w:World) (o1 o2 o3:Obj):Below w.heap.size w (((w.alloc o1).alloc o2).alloc o3)/\(((w.alloc o1).alloc o2).alloc o3).heap[w.heap.size]? =some o1/\(((w.alloc o1).alloc o2).alloc o3).heap[w.heap.size+1]? =some o2/\(((w.alloc o1).alloc o2).alloc o3).heap[w.heap.size+2]? =some o3:=
 ⟨zcM w _ _ _,zcN w _ _ _,zcl w _ _ _,zcO w _ _ _⟩
theorem wh (x:zo):(zo.cells x).length=3:=rfl
theorem bG:(Tryz.prog.info? 70).map (λi=>(i.zero,i.size,i.bytes))=some (some (.agg #[.int .i64 0, .int .i64 0, .int .i64 0]),3,24):=by kernel_rfl
theorem zfh (l:List zl) (model:Int):(yE l model).length<=l.length:=by
 unfold yE
 split
 ·exact zj1 _ _
 split
 ·cases l<;>simp
 simp
theorem zcP {α:Type} (f:α->List Value) (l:List α) (x:α):zq f (l++ [x])=zq f l++f x:=by simp [zq]
theorem zbL {α:Type} (f:Nat->List α) (i:Nat):(List.range (i+1)).flatMap f=(List.range i).flatMap f++f i:=by rw [List.range_succ];simp
theorem zj2 {B:Nat} {e:TypeId} {size n:Nat} {w X:World} {v v' hv:Value} {xs:List Value} {o:Obj} (h:w.ownsRow B e size hv n xs) (hne:∀k,v.ownBlock=some k->hv.ownBlock≠some k) (h4:Since (λk=>v.ownBlock=some k) (w.alloc o) X)
  (h5:∀k,v'.ownBlock=some k->v.ownBlock=some k\/k=(w.alloc o).heap.size):X.ownsRow B e size hv n xs/\∀k,v'.ownBlock=some k->hv.ownBlock≠some k:=by
 refine⟨h4.row (h.alloc o) (λk h1 h2=>hne k h2 h1),λk h1 h2=> ?_⟩
 rcases h5 k h1 with h3|h3
 ·exact hne k h3 h2
 have:=(h.lt k h2).2;simp at h3;omega
theorem zft (w:World) (pc r0 r1 r2 r3:Int) (ba:Option Addr) (bl bc:Nat):Calls Tryz.prog 41 #[.agg #[.int .i64 pc, .int .i64 r0, .int .i64 r1, .int .i64 r2, .int .i64 r3, .slice ba bl bc]] w λe w'=>e= .returned (.bool (decide (0<bl)))/\Below w.heap.size w w':=by
 have hd:decide ((0:Int)<(bl:Int))=decide (0<bl):=by simp
 have HD:=qh hd
 clear hd
 go_enter Tryz.func41,Tryz.ntmps41
 go_wp2_with fail
 go_ret
 exact⟨by first|rfl|(simp;done)|(rw [<-HD.out];rfl),(Below.refl _ _).alloc (Nat.le_refl _) _⟩
def zvS (r:Int) (all:Bool):Prop:=(0<=r/\all=false)\/(r<0/\all=true)
theorem zp8 {l:List zA} {i:Nat} (hi:i<l.length) (_h:∀j,j<i->(l.getD j default).buf.length=0) (he:0<(l.getD i default).buf.length):(l.all λt=>decide (t.buf.length=0))=false:=by
 rw [List.all_eq_false]
 refine⟨l.getD i default, ?_,by rw [decide_eq_false (by omega)];simp⟩
 rw [List.getD_eq_getElem?_getD,List.getElem?_eq_getElem hi];exact List.getElem_mem hi
theorem zsr {l:List zA} (h:∀j,j<l.length->(l.getD j default).buf.length=0):(l.all λt=>decide (t.buf.length=0))=true:=by
 rw [List.all_eq_true]
 intro t ht
 obtain⟨j,hj,e⟩:=List.getElem_of_mem ht
 have:=h j hj
 rw [List.getD_eq_getElem?_getD,List.getElem?_eq_getElem hj] at this
 simp only [Option.getD_some,e] at this
 simp [this]
theorem zhc (w:World) (sv:Value) (l:List zA) (h:qY w sv l):Calls Tryz.prog 64 #[sv, .func (.func 41) #[] #[]] w λe w'=>(∃r:Int,e= .returned (.int .i64 r)/\zvS r (l.all λt=>decide (t.buf.length=0)))/\Below w.heap.size w w':=by
 obtain⟨ta,tc,rfl,htl⟩:=zh.slice h
 have zp9:Hid (∀i,i<l.length->(∀j,j<i->(l.getD j default).buf.length=0)->0<(l.getD i default).buf.length->(l.all λt=>decide (t.buf.length=0))=false):=λi hi h1 h2=>zp8 hi h1 h2
 have HNO:Hid ((∀j,j<l.length->(l.getD j default).buf.length=0)->(l.all λt=>decide (t.buf.length=0))=true):=λh=>zsr h
 generalize (l.all λt=>decide (t.buf.length=0))=all at zp9 HNO ⊢
 obtain⟨n,hn⟩:∃n,n=l.length:=⟨_,rfl⟩
 rw [<-hn] at h htl zp9 HNO ⊢
 have HT:=qh h
 have HN:=qh hn
 clear h hn
 go_enter Tryz.func64,Tryz.ntmps64
 go_wp2_with fail
 go_loopg [8] n (λgg s8 wr=>∃i:Nat,i<=n/\Hid (gg=n - i)/\s8= .int .i64 i/\Hid (Below w.heap.size w wr)/\Hid (∀j,j<i->(l.getD j default).buf.length=0))
 case atStart=>exact⟨0,Nat.zero_le _,rfl,rfl,Below.refl _ _,λj hj=>by omega⟩
 case round=>
 obtain⟨i,hi,HG,rfl,zT,HJ⟩:=hrel
 by_cases hlt:i<n
 rotate_left
 ·obtain rfl:n=i:=by omega
  obtain rfl:=HNO.out HJ.out
  go_wp2_with fail
  go_ret
  exact⟨⟨-1,by first|rfl|simp, .inr ⟨by omega,rfl⟩⟩,zT.out⟩
 have vY:(i:Int)<(n:Int):=by omega
 obtain⟨b,off,ba,bc,zZ, -,hr4,x0,x1,x2,x3,x4,x5, -⟩:=qY.part HT.out i (by rw [<-HN.out];exact hlt)
 subst zZ
 have HY:Hid (0<(l.getD i default).buf.length->all=false):=λh=>zp9.out i hlt HJ.out h
 have HZ:Hid ((l.getD i default).buf.length=0->∀j,j<i+1->(l.getD j default).buf.length=0):=λe j hj=>by
  by_cases he:j=i
  ·subst he;exact e
  exact HJ.out j (by omega)
 generalize l.getD i default=t at x0 x1 x2 x3 x4 x5 hr4 HY HZ
 obtain⟨pc,rg,bf⟩:=t
 simp only [] at x0 x1 x2 x3 x4 x5 hr4 HY HZ
 generalize bf.length=bl at x5 HY HZ
 replace x0:=zk zT.out _ _ x0
 replace x1:=zk zT.out _ _ x1
 replace x2:=zk zT.out _ _ x2
 replace x3:=zk zT.out _ _ x3
 replace x4:=zk zT.out _ _ x4
 replace x5:=zk zT.out _ _ x5
 by_cases hbl:0<bl
 ·obtain rfl:=HY.out hbl
  have hd:decide (0<bl)=true:=decide_eq_true hbl
  go_wp2_with(go_at_call 41;go_must(refine(zft _ _ _ _ _ _ _ _ _).mono ?_);rintro e w1 ⟨rfl,hb⟩;have HB1:=qh hb;clear hb)
  go_ret
  exact⟨⟨i,by first|rfl|simp, .inl ⟨by omega,rfl⟩⟩,zM zT.out HB1.out⟩
 have hd:decide (0<bl)=false:=decide_eq_false hbl
 have HZ2:=qh (HZ.out (by omega))
 go_wp2_with(go_at_call 41;go_must(refine(zft _ _ _ _ _ _ _ _ _).mono ?_);rintro e w1 ⟨rfl,hb⟩;have HB1:=qh hb;clear hb)
 go_roundg (n - (i+1))
 case measure=>rw [HG.out];omega
 case rel=>exact⟨i+1,by omega,rfl,by simp,zM zT.out HB1.out,HZ2.out⟩
theorem ze5 (w:World) (sv:Value) (l:List zA) (h:qY w sv l):Calls Tryz.prog 40 #[sv, .func (.func 41) #[] #[]] w λe w'=>e= .returned (.bool (!(l.all λt=>decide (t.buf.length=0))))/\Below w.heap.size w w':=by
 have hi:=zhc w sv l h
 obtain⟨ta,tc,rfl,htl⟩:=zh.slice h
 generalize (l.all λt=>decide (t.buf.length=0))=all at hi ⊢
 generalize l.length=n at hi htl ⊢
 have HI:=qh hi
 clear h hi
 go_enter Tryz.func40,Tryz.ntmps40
 go_wp2_with(go_at_call 64;go_must(refine HI.out.mono ?_);rintro e w1 ⟨⟨r,rfl,hr⟩,hb⟩;have HB1:=qh hb;have HR:=qh hr;clear hb hr)
 go_ret
 refine⟨?_,HB1.out⟩
 rcases HR.out with⟨h1,rfl⟩|⟨h1,rfl⟩
 ·first|rfl|simp [h1]
 first|rfl|(simp;omega)
theorem znz (w:World) (s:zi) (sv mv:Value) (h:yG w s sv mv):Calls Tryz.prog 21 #[vI s sv mv] w λe w'=>e= .returned (.bool (wZ s))/\Below w.heap.size w w':=by
 obtain⟨ta,tc,rfl, -⟩:=zh.slice h.threads
 obtain⟨ma,mc,rfl, -⟩:=zh.slice h.mem
 have hc:=λW h=>ze5 W (.slice ta s.threads.length tc) s.threads h
 obtain⟨cl,hcl⟩:∃c,c=wZ s:=⟨_,rfl⟩
 have hall:(s.threads.all λt=>decide (t.buf.length=0))=cl:=by rw [hcl];rfl
 rw [hall] at hc
 rw [<-hcl]
 unfold vI
 have hT:=h.threads
 have HT:=qh (zh.below pY.stays hT ((Below.refl w.heap.size w).alloc (Nat.le_refl _) (.cells #[.slice ta s.threads.length tc, .slice ma s.mem.length mc, .bool s.bad] 42)))
 generalize s.threads.length=n at hc HT ⊢
 generalize s.mem.length=m at HT ⊢
 have HC:=qh hc
 clear hc hall hcl h hT
 go_enter Tryz.func21,Tryz.ntmps21
 go_wp2_with(go_at_call 40;go_must(refine(HC.out _ HT.out).mono ?_);rintro e w1 ⟨rfl,hb⟩;have HB1:=qh hb;clear hb)
 go_ret
 exact⟨by first|rfl|simp,zM ((Below.refl _ _).alloc (Nat.le_refl _) _) HB1.out⟩
