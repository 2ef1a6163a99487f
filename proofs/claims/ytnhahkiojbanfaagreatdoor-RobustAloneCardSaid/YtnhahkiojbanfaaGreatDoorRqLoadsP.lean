/- Steps. -/
import Derived.Test.YtnhahkiojbanfaaGreatDoorRqReplayR
set_option linter.all false
namespace Go.Proofs.YtnhahkiojbanfaaGreatDoor
open Go.RowKit
set_option maxRecDepth 100000
set_option maxHeartbeats 16000000
def zar (n v:Nat) (s:zi):Prop:=s.threads.length=n/\s.mem=List.replicate v 0/\s.bad=false/\∀i,i<s.threads.length->(s.threads.getD i default).regs= [0,0,0,0] /\(s.threads.getD i default).buf= [] /\0<=(s.threads.getD i default).pc/\(s.threads.getD i default).pc<=5
def zt4 (p:Nat):zA:=⟨(p:Int), [0,0,0,0], []⟩
def zlh:List zA:=(List.range 6).map zt4
def zli (v:Nat):List zi:=⟨[],List.replicate v 0,false⟩::(zlh.map (λa=>⟨[a],List.replicate v 0,false⟩)++zlh.flatMap (λa=>zlh.map λb=>⟨[a,b],List.replicate v 0,false⟩))
theorem zmT (v:Nat):(zli v).length=43:=rfl
theorem zfT {t:zA} (h1:t.regs= [0,0,0,0]) (h2:t.buf= []) (h3:0<=t.pc) (h4:t.pc<=5):t∈zlh:=by
 obtain⟨pc,regs,buf⟩:=t
 simp only [] at h1 h2 h3 h4
 subst h1 h2
 refine List.mem_map.2 ⟨pc.toNat,List.mem_range.2 (by omega), ?_⟩
 unfold zt4
 rw [Int.toNat_of_nonneg h3]
theorem zhQ {n v:Nat} {s:zi} (h:zar n v s) (hn:n<=2):s∈zli v:=by
 obtain⟨ts,mem,bad⟩:=s
 obtain⟨h1,h2,h3,h4⟩:=h
 simp only [] at h1 h2 h3 h4
 subst h2 h3
 match ts,h1,h4 with
 | [],_,_=>exact List.mem_cons_self ..
 | [a],_,h4=>
  obtain⟨g1,g2,g3,g4⟩:=h4 0 (by simp)
  exact List.mem_cons_of_mem _ (List.mem_append.2 (.inl (List.mem_map.2 ⟨a,zfT g1 g2 g3 g4,rfl⟩)))
 | [a,b],_,h4=>
  obtain⟨g1,g2,g3,g4⟩:=h4 0 (by simp)
  obtain⟨k1,k2,k3,k4⟩:=h4 1 (by simp)
  exact List.mem_cons_of_mem _ (List.mem_append.2 (.inr (List.mem_flatMap.2 ⟨a,zfT g1 g2 g3 g4,List.mem_map.2 ⟨b,zfT k1 k2 k3 k4,rfl⟩⟩)))
 |a::b::c::ts,h1,_=>simp only [List.length_cons] at h1;omega
structure zhn (c:zx):Prop where
 op:∀i,i<c.threads.length->∀k,k<(c.threads.getD i []).length->((c.threads.getD i []).getD k default).op=1
 len:∀i,i<c.threads.length->(c.threads.getD i []).length<=5
theorem zmU (n:Nat):([0,0,0,0] :List Int).set n 0= [0,0,0,0] :=by
 match n with
 |0=>rfl
 |1=>rfl
 |2=>rfl
 |3=>rfl
 |n+4=>rfl
theorem zgy {c:zx} {m:zu} {d:Nat} (hl:zhn c) {s:zi} (h:zar c.threads.length c.vars.toNat s) {x:zo} (hx:x∈yF c m s d):zar c.threads.length c.vars.toNat (qD c m s x d).1/\∃i t,i<s.threads.length/\vF c m s i d=some t/\(∀m',vF c m' s i d=some t)/\(qD c m s x d).1=t:=by
 obtain⟨h1,h2,h3,h4⟩:=h
 obtain⟨i,hi,hx2⟩:=zb6 hx
 obtain⟨g1,g2,g3,g4⟩:=h4 i hi
 rcases hx2 with⟨rfl,t,ht,he⟩|⟨v,rfl,hv, -⟩
 ·have hst:=ht
  unfold vF at ht
  split at ht
  ·rename_i hpc
   obtain⟨r,hr,rfl⟩:=Option.map_eq_some_iff.1 ht
   have hk:(s.threads.getD i default).pc.toNat<(c.threads.getD i []).length:=by omega
   have hop:=hl.op i (by omega) _ hk
   have hlen:=hl.len i (by omega)
   rw [he]
   refine⟨?_,i,_,hi,hst,λm'=> ?_,rfl⟩
   ·rw [uh hop] at hr
    cases hr
    refine⟨by simpa using h1,h2,h3,λj hj=> ?_⟩
    simp only [List.length_set] at hj
    by_cases e:j=i
    ·subst e
     have hg:∀T:zA,(s.threads.set j T).getD j default=T:=λT=>by
      rw [List.getD_eq_getElem?_getD,List.getElem?_set,if_pos rfl,if_pos hi];rfl
     simp only [hg]
     refine⟨?_,g2,by omega,by omega⟩
     rw [g1,g2]
     have h0:∀(v:Int) (k:Nat),(wI [] v).getD (s.mem.getD k 0)=0:=λv k=>by
      show s.mem.getD k 0=0
      rw [h2,List.getD_eq_getElem?_getD,List.getElem?_replicate]
      split<;>rfl
     rw [h0]
     exact zmU _
    have hg:∀T:zA,(s.threads.set i T).getD j default=s.threads.getD j default:=λT=>by
     rw [List.getD_eq_getElem?_getD,List.getElem?_set,if_neg (λq=>e q.symm), <-List.getD_eq_getElem?_getD]
    simp only [hg]
    exact h4 j hj
   unfold vF at hst ⊢
   rw [if_pos hpc] at hst ⊢
   rw [zdD (m':=m) (by rw [hop];decide) g2]
   exact hst
  cases ht
 rw [g2] at hv
 exfalso
 unfold yE at hv
 split at hv
 ·simp [qG] at hv
 split at hv<;>simp at hv
theorem zfd {c:zx} (hc:codeOk c=true):zar c.threads.length c.vars.toNat (xq c):=by
 unfold xq
 rw [if_pos hc]
 refine⟨by simp,rfl,rfl,λi hi=> ?_⟩
 simp only [List.length_replicate] at hi
 have:(List.replicate c.threads.length (default:zA)).getD i default=default:=by simp [List.getD_eq_getElem?_getD,hi]
 rw [this]
 exact⟨rfl,rfl,Int.le_refl _,by decide⟩
section
variable {c:zx} {m:zu} {d R:Nat} {K:List zi}
theorem zhR {s:zi} (hR:K.length<=R):∀(ms:List zo) (l:List zi) (nx:List Int),(∀x∈ms,(qD c m s x d).1∈K)->l.Nodup->(∀t∈l,t∈K)->
  ∃r,xX c m d R s ms l nx=some r/\r.1.Nodup/\(∀t∈r.1,t∈K)/\l.length<=r.1.length:=by
 intro ms
 induction ms with
 |nil=>intro l nx _ hn hl;exact⟨(l,nx),rfl,hn,hl,Nat.le_refl _⟩
 |cons x ms ih=>
 intro l nx hx hn hl
 have hp:=zdC (qD c m s x d).1 hn
 have hq:∀y∈(putAt l (qD c m s x d).1).1,y∈K:=λy hy=>by
  unfold putAt at hy
  split at hy
  ·exact hl y hy
  rcases List.mem_append.1 hy with h|h
  ·exact hl y h
  rw [List.mem_singleton] at h;subst h;exact hx x (List.mem_cons_self ..)
 have ha:=(zhC l (qD c m s x d).1).1
 have hlen:=zgq hp hq
 have hg:=(zeY l (qD c m s x d).1).len
 rw [xX,if_neg (by omega)]
 obtain⟨r,h1,h2,h3,h4⟩:=ih _ (nx++ [((putAt l (qD c m s x d).1).2:Int)]) (λy hy=>hx y (List.mem_cons_of_mem _ hy)) hp hq
 exact⟨r,h1,h2,h3,by omega⟩
theorem zhS (hR:K.length<=R) (hstep:∀s∈K,∀x∈yF c m s d,(qD c m s x d).1∈K):∀(f i:Nat) (l:List zi) (ml:List (List zo)) (nl:List (List Int)),l.Nodup->(∀t∈l,t∈K)->i<=l.length->K.length<i+f->
  ∃r,qz c m d R f i l ml nl=some r:=by
 intro f
 induction f with
 |zero=>intro i l ml nl hn hl hi hf;have:=zgq hn hl;omega
 |succ f ih=>
 intro i l ml nl hn hl hi hf
 unfold qz
 split
 ·rename_i hil
  obtain⟨q,h1,h2,h3,h4⟩:=zhR hR (s:=l.getD i default) (yF c m (l.getD i default) d) l [] (λx hx=>hstep _ (hl _ (yC hil)) x hx) hn hl
  rw [h1]
  exact ih (i+1) q.1 _ _ h2 h3 (by omega) (by omega)
 exact⟨_,rfl⟩
theorem zmV (hm:xC c m=true) (h1:1<=R) (h2:R<=100000) (hR:K.length<=R) (h0:xq c∈K) (hstep:∀s∈K,∀x∈yF c m s d,(qD c m s x d).1∈K):(zV c m R d).2=0:=by
 obtain⟨u,hu⟩:=zhS hR hstep (R+1) 0 [xq c] [] [] (List.pairwise_singleton _ _) (λt ht=>by rw [List.mem_singleton] at ht;subst ht;exact h0) (Nat.zero_le _) (by omega)
 rw [zhF hm h1 h2,hu]
end
theorem zkd {c:zx} {m:zu} {d:Nat} (hm:xC c m=true) (hl:zhn c) (h2:c.threads.length<=2):(zV c m ((300:Nat):Int) d).2=0:=by
 have hcode:=(kP hm).1
 refine zmV (K:=(zli c.vars.toNat).filter λs=>decide (s.threads.length=c.threads.length) && decide (s.mem=List.replicate c.vars.toNat 0) && !s.bad && (List.range s.threads.length).all λi=>decide ((s.threads.getD i default).regs= [0,0,0,0]) && decide ((s.threads.getD i default).buf= []) && decide (0<=(s.threads.getD i default).pc) && decide ((s.threads.getD i default).pc<=5)) hm (by omega) (by omega) (Nat.le_trans (List.length_filter_le _ _) (by rw [zmT];omega)) ?_ (λs hs x hx=> ?_)
 all_goals
  have hall:∀s:zi,zar c.threads.length c.vars.toNat s↔(decide (s.threads.length=c.threads.length) && decide (s.mem=List.replicate c.vars.toNat 0) && !s.bad && (List.range s.threads.length).all λi=>decide ((s.threads.getD i default).regs= [0,0,0,0]) && decide ((s.threads.getD i default).buf= []) && decide (0<=(s.threads.getD i default).pc) && decide ((s.threads.getD i default).pc<=5))=true:=λs=>by
   unfold zar
   simp only [Bool.and_eq_true,decide_eq_true_eq,Bool.not_eq_true',List.all_eq_true,List.mem_range]
   exact⟨λ⟨a,b,e,f⟩=>⟨⟨⟨a,b⟩,e⟩,λi hi=>⟨⟨⟨(f i hi).1,(f i hi).2.1⟩,(f i hi).2.2.1⟩,(f i hi).2.2.2⟩⟩,λ⟨⟨⟨a,b⟩,e⟩,f⟩=>⟨a,b,e,λi hi=>⟨(f i hi).1.1.1,(f i hi).1.1.2,(f i hi).1.2,(f i hi).2⟩⟩⟩
 ·have h:=zfd hcode
  exact List.mem_filter.2 ⟨zhQ h h2,(hall _).1 h⟩
 have h:=(zgy hl ((hall s).2 (List.mem_filter.1 hs).2) hx).1
 exact List.mem_filter.2 ⟨zhQ h h2,(hall _).1 h⟩
theorem zhT {c:zx} {m:zu} {d:Nat} (hm:xC c m=true) (hl:zhn c) (h2:c.threads.length<=2):yD c m ((300:Nat):Int) d=(true, [],0):=by
 have hs:=zmW hm
 have e1:=zkd (d:=d) hm hl h2
 have e2:=zkd (d:=d) hs hl h2
 unfold yD
 rw [if_pos e1,if_pos e2]
 rcases jH (d:=d) hs (R:=((300:Nat):Int)) (by omega) (by omega) with⟨-,hc⟩|h40
 ·have hS:=(kM (c:=c) (m:=m) (d:=d) (R:=300) (P:=λs=>s∈(zV c jf ((300:Nat):Int) d).1.states/\zar c.threads.length c.vars.toNat s/\zP c jf s=true) (λs hs2 x hx=>by
   obtain⟨g1,i,t,hi, -,g3,g4⟩:=zgy hl hs2.2.1 hx
   obtain⟨k1,k2⟩:=zbE (d:=d) hs2.2.2 hi (g3 jf)
   have k3:=hc.step hs2.1 k1
   have k4:=zbb k1
   rw [k2] at k3 k4
   rw [g4] at g1 ⊢
   exact⟨k3,g1,k4⟩) ⟨by rw [<-hc.first];exact yC hc.pos,zfd (kP hm).1,uy hs⟩).1
  unfold uS
  rw [zfU λs hs3 _=>List.mem_map.2 ⟨s,(hS s hs3).1,rfl⟩]
 rw [h40] at e2;cases e2
def xA (l:List zC):List zC:=l.filter λx=>decide (x.op=1)
def wX (c:zx):zx:=⟨c.vars,c.domain,c.threads.map xA⟩
theorem zhV (l:List (List zC)) (i:Nat):(l.map xA).getD i [] =xA (l.getD i []):=by
 rw [List.getD_eq_getElem?_getD,List.getElem?_map,List.getD_eq_getElem?_getD]
 cases l[i]? <;>rfl
theorem zpl {c:zx} (h:codeOk c=true):codeOk (wX c)=true:=by
 unfold codeOk at h ⊢
 simp only [Bool.and_eq_true,decide_eq_true_eq,List.all_eq_true] at h
 show(decide (1<=c.vars) && decide (c.vars<=4) && decide (2<=c.domain) && decide (c.domain<=16) && decide (1<=(c.threads.map xA).length) && decide ((c.threads.map xA).length<=4) && (c.threads.map xA).all (rowOk c.vars c.domain))=true
 rw [List.length_map]
 simp only [Bool.and_eq_true,decide_eq_true_eq,List.all_eq_true]
 refine⟨h.1,λt ht=> ?_⟩
 obtain⟨r,hr,rfl⟩:=List.mem_map.1 ht
 have hk:=h.2 r hr
 unfold rowOk at hk ⊢
 simp only [Bool.and_eq_true,decide_eq_true_eq,List.all_eq_true] at hk ⊢
 refine⟨Nat.le_trans (List.length_filter_le _ _) hk.1,λx hx=> ?_⟩
 obtain⟨hx1,hx2⟩:=List.mem_filter.1 hx
 have hop:=of_decide_eq_true hx2
 have:=hk.2 x hx1
 unfold qF at this ⊢
 rw [if_neg (by omega),if_neg (by omega),if_neg (by omega)] at this ⊢
 exact this
theorem zsa {c:zx} (h:∀i,i<c.threads.length->(c.threads.getD i []).length<=5):zhn (wX c):=by
 refine⟨λi hi k hk=> ?_,λi hi=> ?_⟩
 ·have e:(wX c).threads.getD i [] =xA (c.threads.getD i []):=zhV _ _
  rw [e] at hk ⊢
  have hm:(xA (c.threads.getD i [])).getD k default∈xA (c.threads.getD i []):=yC hk
  exact of_decide_eq_true (List.mem_filter.1 hm).2
 have e:(wX c).threads.getD i [] =xA (c.threads.getD i []):=zhV _ _
 rw [e]
 simp only [wX,List.length_map] at hi
 exact Nat.le_trans (List.length_filter_le _ _) (h i hi)
theorem zsb {c:zx} (h:codeOk c=true):codeOk ⟨c.vars,c.domain,c.threads.take 1⟩=true/\(c.threads.take 1).length=1:=by
 have hb:=yQ h
 have hl:(c.threads.take 1).length=1:=by rw [List.length_take];omega
 refine⟨?_,hl⟩
 unfold codeOk at h ⊢
 simp only [Bool.and_eq_true,decide_eq_true_eq,List.all_eq_true] at h ⊢
 rw [hl]
 exact⟨⟨⟨h.1.1.1,by omega⟩,by omega⟩,λt ht=>h.2 t (List.mem_of_mem_take ht)⟩
end Go.Proofs.YtnhahkiojbanfaaGreatDoor
namespace Go.Proofs.YtnhahkiojbanfaaGreatDoor
open Go.RowKit
set_option maxRecDepth 100000
set_option maxHeartbeats 16000000
def zcA (w:World) (en:Ending) (w':World):Prop:=(∃c tv,en= .returned (xW c tv)/\yS 3 w' tv c.threads/\codeOk c=true/\c.threads.length<=2/\∀i,i<c.threads.length->(c.threads.getD i []).length<=5)/\Below w.heap.size w w'
theorem zhW {w X:World} {gc gr g n cap:Nat} {vars dom:Int} {cl:List (List zC)} (h:kg w X gc gr g vars dom n cap cl) (hb:1<=vars/\vars<=4/\2<=dom/\dom<=16) (hn1:1<=n) (hn2:n<=2) (h5:∀j,j<n->(cl.getD j []).length<=5):
  zcA w (.returned (.agg #[.int .i64 vars, .int .i64 dom, .slice (some ⟨g,0,none⟩) n cap])) (xI X gr 0 [.int .i64 vars, .int .i64 dom, .slice (some ⟨g,0,none⟩) n cap])/\
  (xI X gr 0 [.int .i64 vars, .int .i64 dom, .slice (some ⟨g,0,none⟩) n cap]).heap[gr]? =some (.cells #[.int .i64 vars, .int .i64 dom, .slice (some ⟨g,0,none⟩) n cap] 26 (0,0)):=by
 have hlo:=h.lo
 have hl:=h.len
 have s:=qJ (g:=gr) [.int .i64 vars, .int .i64 dom, .slice (some ⟨g,0,none⟩) n cap] X 0
 obtain⟨cur,c1,c2,c3⟩:=h.row
 have hg:=(s.block _ (zy c1) (by omega)).trans c1
 refine⟨⟨⟨⟨vars,dom,cl⟩, .slice (some ⟨g,0,none⟩) n cap,rfl,⟨_,cap,by rw [hl],by rw [hl];exact h.room,λj hj=> ?_⟩, ?_,by rw [hl];exact hn2,λj hj=>h5 j (by rw [<-hl];exact hj)⟩,h.below.trans (s.below h.below.size (λk hk=>by omega))⟩,vG (cs:= [.int .i64 0, .int .i64 0, .slice none 0 0]) _ rfl h.res⟩
 ·obtain⟨a,c,h4,h5⟩:=c3 j (by rw [<-hl];exact hj)
  refine⟨g,0, [.slice a (cl.getD j []).length c],rfl,zy hg,rfl,λi hi=> ?_,zhX s (zke h.res) h5.now⟩
  obtain rfl:i=0:=by omega
  rw [ze hg]
  simpa using h4
 unfold codeOk
 simp only [Bool.and_eq_true,decide_eq_true_eq,hl]
 exact⟨⟨⟨⟨⟨⟨hb.1,hb.2.1⟩,hb.2.2.1⟩,hb.2.2.2⟩,hn1⟩,by omega⟩,zfe _ [] _ (λj hj=>h.ok j (by rw [<-hl];exact hj))⟩
theorem zlj (w:World) (sv:Value) (l:List Int) (hn:vo w .u8 sv l) (hcap:∀a n c,sv= .slice a n c->n<=c):Calls Tryz.prog 7 #[sv] w (zcA w):=by
 have hb1:=(Below.refl w.heap.size w).alloc (Nat.le_refl _) (.cells #[.int .i64 0, .int .i64 0, .slice none 0 0] 26)
 have hg1:=zS w (.cells #[.int .i64 0, .int .i64 0, .slice none 0 0] 26)
 obtain⟨sa,sc,rfl, -⟩:∃a c,sv= .slice a l.length c/\True:=by obtain⟨a,c,h, -⟩:=hn;exact⟨a,c,h,trivial⟩
 replace hcap:=hcap _ _ _ rfl
 obtain⟨ln,hln⟩:∃n,n=l.length:=⟨_,rfl⟩
 rw [<-hln] at hn hcap ⊢
 have hn1:=hn.below hb1
 have HN:=qh hn1
 have HB:=qh hb1
 have HG:=qh hg1
 clear hb1 hg1 hn1 hn hln
 go_enter Tryz.func7,Tryz.ntmps7
 go_upto_region 1 with fail
 generalize World.alloc w _=W at HB HG HN ⊢
 obtain⟨gr,hgr⟩:∃gr,gr=w.heap.size:=⟨_,rfl⟩
 rw [<-hgr] at HG ⊢
 have jP:=qh hgr
 clear hgr
 go_upto_if 7 with fail
 go_cut [0] (λs0 w'=>∃(n:Nat) (l':List Int),s0= .slice sa n sc/\w'=W/\Hid (vo W .u8 (.slice sa n sc) l'))
 case first=>
  by_cases h30:30<ln
  ·have z0F:(30:Int)<(ln:Int):=by omega
   have z0G:(30:Int)<=(sc:Int):=by omega
   have hn2:=zmX HN.out (m:=30) (by omega)
   have HN2:=qh hn2
   clear hn2
   go_wp2_with fail
   go_meet
   case rel=>exact⟨30,_,rfl,rfl,HN2.out⟩
  go_wp2_with fail
  go_meet
  case rel=>exact⟨ln,l,rfl,rfl,HN.out⟩
 case rest=>
 obtain⟨n,l',rfl,hwv,HN2⟩:=hcut
 obtain rfl:W=wc:=hwv.symm
 clear HN hcap
 go_upto_region 4 with(first|(go_at_call 17;go_must(refine(HM4.out).mono ?_);rintro en W3 ⟨⟨c,ta,tc,css,rfl,hok,hrow⟩,hb⟩;(have je:=qh hrow);(have vK:=qh hok);(have HB3:=qh (zM HB2.out hb));(have HW2:=qh HB2.out.size);(have vk:=qh ((hb.block _ (zy HG2.out)).trans HG2.out));clear hrow hok hb HM4;unfold xW)|(go_at_call 18;go_must(refine(zmA W).mono ?_);rintro en W2 ⟨⟨kv,rfl,hks⟩,hb⟩;(have HM4:=qh (zmY W2 _ l' (HN2.out.below hb) kv zc1 hks (by decide) (by decide) zpm));(have HB2:=qh (zM HB.out hb));(have HG2:=qh ((hb.block _ (zy HG.out)).trans HG.out));clear hks hb HN2))
 have hbd:=yQ vK.out
 have pK:=je.out
 have zx6:c.threads.length<=tc:=by
  obtain⟨a,cap,he,h1, -⟩:=xB pK.row
  cases he;exact h1
 have zt5:∀j,j<c.threads.length->rowOk c.vars c.domain (c.threads.getD j [])=true:=λj hj=>by
  have h:=vK.out
  unfold codeOk at h
  simp only [Bool.and_eq_true,List.all_eq_true] at h
  exact h.2 _ (yC hj)
 obtain⟨g,rfl,hL⟩:=kg.first HB3.out ⟨pK.len,pK.part,zhY pK.row HW2.out⟩ hbd.2.2.2.2.1 rfl zt5 vk.out (by have:=jP.out;omega)
 generalize c.vars=vars at hL hbd ⊢
 generalize c.domain=dom at hL hbd ⊢
 generalize c.threads.length=tn at hL hbd zx6 ⊢
 obtain⟨v1,v4,d2,d16,t1,t4⟩:=hbd
 generalize World.alloc W3 _=X at hL ⊢
 generalize W3.heap.size=gc at hL ⊢
 have HL:=qh hL
 clear hL pK zt5 je vK vk HB3 HW2 HB2 HG2 HB HG
 have c2:X.cell? ⟨gc,2,none⟩=some (.slice (some ⟨g,0,none⟩) tn tc):=ze HL.out.box 2
 have f2:=zK HL.out.box 2
 go_upto_if 16 with fail
 go_cut [16] (λz0H w'=>∃(m:Nat) (cl:List (List zC)),1<=m/\m<=2/\Hid (kg w w' gc gr g vars dom m tc cl))
 case first=>
  by_cases h2:2<tn
  ·have h2I:(2:Int)<(tn:Int):=by omega
   have h2J:(2:Int)<=(tc:Int):=by omega
   have hre:=HL.out.reslice (m:=2) (by omega)
   have HRE:=qh hre
   clear hre
   go_wp2_with fail
   go_meet
   case rel=>exact⟨2,_,by omega,by omega,HRE.out⟩
  have h2I:decide ((2:Int)<(tn:Int))=false:=by rw [decide_eq_false_iff_not];omega
  go_wp2_with fail
  go_meet
  case rel=>exact⟨tn,_,by omega,by omega,HL.out⟩
 case rest=>
 obtain⟨m,cl0,hm1,hm2,HL2⟩:=hcut
 clear c2 f2 HL
 go_wp2_with fail
 go_loopg [4] m (λgg s4 wr=>∃(i:Nat) (cl:List (List zC)),i<=m/\Hid (gg=m - i)/\s4= .int .i64 i/\Hid (kg w wr gc gr g vars dom m tc cl)/\Hid (∀j,j<i->(cl.getD j []).length<=5))
 case atStart=>exact⟨0,cl0,Nat.zero_le _,rfl,rfl,HL2.out,λj hj=>absurd hj (Nat.not_lt_zero _)⟩
 case round=>
 obtain⟨i,cl,hi,HGG,rfl,HL,HFV⟩:=hrel
 clear HL2
 have c0:wr.cell? ⟨gc,0,none⟩=some (.int .i64 vars):=ze HL.out.box 0
 have c1:wr.cell? ⟨gc,1,none⟩=some (.int .i64 dom):=ze HL.out.box 1
 have c2:wr.cell? ⟨gc,2,none⟩=some (.slice (some ⟨g,0,none⟩) m tc):=ze HL.out.box 2
 by_cases hlt:i<m
 rotate_left
 ·obtain rfl:m=i:=by omega
  obtain⟨hend,hset⟩:=zhW HL.out ⟨v1,v4,d2,d16⟩ hm1 hm2 HFV.out
  have z0:=ze HL.out.res 0
  have z1:=ze HL.out.res 1
  have z2:=ze HL.out.res 2
  have f0:=zK HL.out.res 0
  have f1:=zK HL.out.res 1
  have f2:=zK HL.out.res 2
  have zL:=qh hend
  have xg:=qh hset
  clear hend hset
  go_wp2_with fail
  refine bodyPost_ret (yV rfl _ _ gr 26 _ (0,0) _ rfl xg.out Tryz.underlying26 rfl zbJ) rfl ?_
  exact zL.out
 have vY:(i:Int)<(m:Int):=by omega
 obtain⟨cur,r1,r2,r3⟩:=HL.out.row
 obtain⟨a,ac,r4, -⟩:=r3 i hlt
 have x0:wr.cell? ⟨g,i,none⟩=some (.slice a (cl.getD i []).length ac):=by rw [ze r1];exact r4
 have fx:=λo=>zK ((Below.heap_alloc wr o _ (zy r1)).trans r1) i
 have x1:=λo=>(Below.cell ((Below.refl wr.heap.size wr).alloc (Nat.le_refl _) o) (World.block_lt_of_cell? wr _ x0)).trans x0
 have hfs:∀j,j<i+1->((cl.set i (bC vars)).getD j []).length<=5:=λj hj=>by
  by_cases e:j=i
  ·subst e
   rw [List.getD_eq_getElem?_getD,List.getElem?_set_self (by rw [HL.out.len];exact hlt)]
   exact(by decide:3<=5)
  rw [List.getD_eq_getElem?_getD,List.getElem?_set_ne (Ne.symm e), <-List.getD_eq_getElem?_getD]
  exact HFV.out j (by omega)
 have HFS:=qh hfs
 clear hfs
 obtain⟨ln,hln⟩:∃n,n=(cl.getD i []).length:=⟨_,rfl⟩
 rw [<-hln] at x0
 rw [<-hln] at x1
 have uF:=qh hln
 clear hln
 have hset:=HL.out.set hlt v1 d2
 have xg:=qh hset
 clear r1 r2 r3 r4 hset
 by_cases h5:5<ln
 ·have h5I:(5:Int)<(ln:Int):=by omega
  go_wp2_with fail
  go_roundg (m - (i+1))
  case measure=>rw [HGG.out];omega
  case rel=>exact⟨i+1,_,by omega,rfl,by simp,xg.out,HFS.out⟩
 have h5I:decide ((5:Int)<(ln:Int))=false:=by rw [decide_eq_false_iff_not];omega
 have HF5:Hid (∀j,j<i+1->(cl.getD j []).length<=5):=λj hj=>by
  by_cases e:j=i
  ·subst e;rw [<-uF.out];omega
  exact HFV.out j (by omega)
 go_wp2_with fail
 go_roundg (m - (i+1))
 case measure=>rw [HGG.out];omega
 case rel=>exact⟨i+1,_,by omega,rfl,by simp,HL.out,HF5.out⟩
end Go.Proofs.YtnhahkiojbanfaaGreatDoor
namespace Go.Proofs.YtnhahkiojbanfaaGreatDoor
open Go.RowKit
set_option maxRecDepth 100000
set_option maxHeartbeats 16000000
def zx7 (W:World) (ib o:Nat) (x:zC):Prop:=∃(aa ba:Option Addr) (an ac bn bc:Nat),(∀y,Below W.heap.size W y->(y.cell? ⟨ib,o,none⟩=some (.int .i64 x.op)/\y.cell? ⟨ib,o+1,none⟩=some (.int .i64 x.reg)/\y.cell? ⟨ib,o+2,none⟩=some (.int .i64 x.var)/\y.cell? ⟨ib,o+3,none⟩=some (.int .i64 x.a.kind))/\
  (y.cell? ⟨ib,o+4,none⟩=some (.int .i64 x.a.n)/\y.cell? ⟨ib,o+5,none⟩=some (.int .u8 x.a.op)/\y.cell? ⟨ib,o+6,none⟩=some (.slice aa an ac)/\y.cell? ⟨ib,o+7,none⟩=some (.int .i64 x.b.kind))/\
  (y.cell? ⟨ib,o+8,none⟩=some (.int .i64 x.b.n)/\y.cell? ⟨ib,o+9,none⟩=some (.int .u8 x.b.op)/\y.cell? ⟨ib,o+10,none⟩=some (.slice ba bn bc)/\y.cell? ⟨ib,o+11,none⟩=some (.int .i64 x.dest)))/\
  xE 3 W x [.int .i64 x.op, .int .i64 x.reg, .int .i64 x.var, .int .i64 x.a.kind, .int .i64 x.a.n, .int .u8 x.a.op, .slice aa an ac, .int .i64 x.b.kind, .int .i64 x.b.n, .int .u8 x.b.op, .slice ba bn bc, .int .i64 x.dest]
theorem zvK {W:World} {a:Option Addr} {n cap:Nat} {l:List zC} (h:j6 3 W (.slice a n cap) l) (k:Nat) (hk:k<l.length):∃ib io,a=some ⟨ib,io,none⟩/\zx7 W ib (io+k*12) (l.getD k default):=by
 obtain⟨ib,io,aa,ac,ba,bc,rfl, -,⟨i0,i1,i2⟩,⟨i3,i4,i5,i6⟩,⟨i7,i8,i9,i10⟩,i11,ha,hb⟩:=j6.part h k hk
 exact⟨ib,io,rfl,aa,ba,_,ac,_,bc,λy hy=>⟨⟨zk hy _ _ i0,zk hy _ _ i1,zk hy _ _ i2,zk hy _ _ i3⟩,⟨zk hy _ _ i4,zk hy _ _ i5,zk hy _ _ i6,zk hy _ _ i7⟩,zk hy _ _ i8,zk hy _ _ i9,zk hy _ _ i10,zk hy _ _ i11⟩,_,_,rfl,ha,hb⟩
theorem zlk {l:List zC} {k:Nat} (hk:k<l.length):xA (l.take (k+1))=if (l.getD k default).op=1 then xA (l.take k)++ [l.getD k default] else xA (l.take k):=by
 have h:l.take (k+1)=l.take k++ [l.getD k default] :=by
  rw [List.take_succ_eq_append_getElem hk,List.getD_eq_getElem?_getD,List.getElem?_eq_getElem hk];rfl
 rw [h]
 unfold xA
 rw [List.filter_append]
 generalize l.getD k default=x
 by_cases e:x.op=1
 ·rw [if_pos e,List.filter_cons_of_pos (by simpa using e),List.filter_nil]
 rw [if_neg e,List.filter_cons_of_neg (by simpa using e),List.filter_nil,List.append_nil]
theorem zmZ {l:List (List zC)} {i:Nat} (hi:i<l.length):(l.take (i+1)).map xA=(l.take i).map xA++ [xA (l.getD i [])] :=by
 have h:l.take (i+1)=l.take i++ [l.getD i []] :=by
  rw [List.take_succ_eq_append_getElem hi,List.getD_eq_getElem?_getD,List.getElem?_eq_getElem hi];rfl
 rw [h,List.map_append];rfl
structure GIn (G:Nat) (W X:World) (v:Value) (l:List zC) (css:List (List Value)):Prop where
 below:Below W.heap.size W X
 lo:G<=W.heap.size
 st:yg (λk=>G<=k) X (xE 3) 12 W.heap.size 60 v l css
structure gM (gl:Nat) (W X:World) (v:Value) (l:List (List zC)) (css:List (List Value)):Prop where
 below:Below W.heap.size W X
 st:yg (λk=>v.ownBlock=some k\/k=gl) X (qU 3) 1 W.heap.size 55 v l css
section
variable {G gl:Nat} {D W X X1 Y:World} {v v':Value} {l:List zC} {css:List (List Value)} {ll:List (List zC)}
theorem GIn.start (hG:G<=W.heap.size) (hb:Below W.heap.size W X):GIn G W X (.slice none 0 0) [] [] :=⟨hb,hG,yg.nil _ _ _ _ _ _⟩
theorem GIn.push (h:GIn G W X v l css) {o:Obj} {x:zC} {cs:List Value} (hx:xE 3 D x cs) (hD:D.heap.size=G) (hDX:Below D.heap.size D X) (hc:cs.length=12) (h1:X1.ownsRow W.heap.size 60 12 v' (l.length+1) (css.flatten++cs))
  (h4:Since (λk=>v.ownBlock=some k) (X.alloc o) X1):GIn G W X1 v' (l++ [x]) (css++ [cs]):=by
 have s1:Since (λk=>v.ownBlock=some k) X X1:=((Since.refl _ X).alloc o).trans h4 (λk hk=> .inl hk)
 refine⟨h.below.trans (s1.below h.below.size (λk e=>(h.st.row.lt k e).1)),h.lo,h.st.push s1 (λk hk=> .inl (Nat.le_trans h.lo (h.st.row.lt k hk).1)) (λk hk=> .inl hk) (λy hy=> ?_) hc h1⟩
 exact xE.stays 3 _ _ _ _ hx (hDX.trans (hy.below hDX.size (λk hk=>by rw [hD];exact hk)))
theorem gM.start (hb:Below W.heap.size W X):gM gl W X (.slice none 0 0) [] [] :=⟨hb,yg.nil _ _ _ _ _ _⟩
theorem gM.call (h:gM gl W X v ll css) (hb:Below X.heap.size X Y):gM gl W Y v ll css:=⟨zM h.below hb,h.st.step (G:=λ_=>False) (qA _ hb) (λ_ _ h=>h) (λ_ h=>h.elim) (λ_ hk=> .inl hk)⟩
theorem gM.push (h:gM gl W X v ll css) {o:Obj} {kv:Value} {cs2:List (List Value)} {Z:World} (hi:GIn G Z X kv l cs2) (hZ:∀k,v.ownBlock=some k->k<Z.heap.size) (hgl:gl<Z.heap.size) (hG:G<=W.heap.size) (hGl:G<=gl)
  (h1:X1.ownsRow W.heap.size 55 1 v' (ll.length+1) (css.flatten++ [kv])) (h4:Since (λk=>v.ownBlock=some k) (X.alloc o) X1) (h5:∀k,v'.ownBlock=some k->v.ownBlock=some k\/k=(X.alloc o).heap.size):gM gl W X1 v' (ll++ [l]) (css++ [[kv]]):=by
 have s1:Since (λk=>v.ownBlock=some k) X X1:=((Since.refl _ X).alloc o).trans h4 (λk hk=> .inl hk)
 refine⟨h.below.trans (s1.below h.below.size (λk e=>(h.st.row.lt k e).1)),h.st.push s1 (λk hk=> .inl (.inl hk)) (λk hk=> ?_) (λy hy=>⟨kv,rfl, ?_⟩) rfl h1⟩
 ·rcases hk with hk|hk
  ·rcases h5 k hk with h6|h6
   ·exact .inl (.inl h6)
   refine .inr ?_;simp at h6;omega
  exact .inl (.inr hk)
 refine(hi.st.step (F':=λk=>G<=k) hy (λk hk e=> ?_) (λk hk=> .inl ?_) (λk hk=> .inl hk)).slice
 ·have:=(hi.st.row.lt k hk).1
  rcases e with e|e
  ·have:=hZ k e;omega
  omega
 rcases hk with hk|hk
 ·exact Nat.le_trans hG (h.st.row.lt k hk).1
 rw [hk];exact hGl
theorem gM.lt (h:gM gl W X v ll css):∀k,v.ownBlock=some k->k<X.heap.size:=λk e=>(h.st.row.lt k e).2
theorem gM.put (h:gM gl W X v ll css) (hb:gl<W.heap.size) (hs:Since (λk=>k=gl) X Y):yS 3 Y v ll:=(h.st.step (F':=λ_=>False) hs (λk hk e=>by have:=(h.st.row.lt k hk).1;omega) (λk hk=> .inl (.inr hk)) (λ_ h=>h.elim)).slice
end
theorem zna {w:World} {a:Option Addr} {n cap:Nat} {l:List (List zC)} (h:yS 3 w (.slice a n cap) l) (hp:1<=l.length):yS 3 w (.slice a 1 cap) (l.take 1):=by
 obtain⟨a',cap',e,h1,h2⟩:=h
 cases e
 have hl:(l.take 1).length=1:=by rw [List.length_take];omega
 refine⟨a,cap,by rw [hl],by rw [hl];omega,λj hj=> ?_⟩
 rw [hl] at hj
 obtain rfl:j=0:=by omega
 have hg:(l.take 1).getD 0 default=l.getD 0 default:=by
  match l,hp with
  |x::l,_=>rfl
 rw [hg]
 exact h2 0 (by omega)
