/- Steps. -/
import Derived.Test.YtnhahkiojbanfaaGreatDoorRqTabPlain
set_option linter.all false
namespace Go.Proofs.YtnhahkiojbanfaaGreatDoor
open Go.RowKit
set_option maxRecDepth 100000
set_option maxHeartbeats 16000000
def wY (keys:List ByteArray) (key:ByteArray) (r:Int):Prop:=
 (∃i,i<keys.length/\keys.getD i ByteArray.empty=key/\r=(i:Int)/\∀j,j<i->keys.getD j ByteArray.empty≠key)\/(r= -1/\∀i,i<keys.length->keys.getD i ByteArray.empty≠key)
theorem wY.notMem {keys:List ByteArray} {key:ByteArray} {r:Int} (h:wY keys key r) (hr:r<0):key ∉ keys:=by
 rcases h with⟨i,_,_,rfl,_⟩|⟨_,h⟩
 ·omega
 intro hm
 obtain⟨i,hi,he⟩:=List.getElem_of_mem hm
 exact h i hi (by simp [List.getD,List.getElem?_eq_getElem hi,he])
def Tab (w:World) (B:Nat) (F:Nat->Prop) (b:Nat) (keys:List ByteArray) (room:Nat):Prop:=
 ∃kv sb sc slots m,vT w B F b kv sb sc keys slots room/\slots.length=2 ^ m/\4<=m/\slots.length<1073741824/\Placed qX keys keys.length slots/\
  keys.length<=room/\room<=100000/\(∀k∈keys,k.size<=maxLen)/\2*keys.length<=slots.length
theorem Tab.since {w w':World} {B:Nat} {F G:Nat->Prop} {b keys room} (h:Tab w B F b keys room) (hs:Since G w w') (hG:∀k,F k->¬G k):Tab w' B F b keys room:=
 let ⟨kv,sb,sc,sl,m,h1,h2⟩:=h;⟨kv,sb,sc,sl,m,h1.since hs hG,h2⟩
theorem Tab.lt {w B F b keys room} (h:Tab w B F b keys room):∀k,F k->k<w.heap.size:=let ⟨_,_,_,_,_,h1,_⟩:=h;h1.lt
theorem Tab.drewN {w:World} {B F b keys room} (h:Tab w B F b keys room) (n:Nat):Tab (w.drewN n) B F b keys room:=
 h.since (Since.drewN (λ_=>False) n (Since.refl _ _)) (λ_ _ h=>h)
theorem zex {w B F b keys room} (h:Tab w B F b keys room) (key:ByteArray) (hk:key.size<=maxLen) (r:Int) (hr:wY keys key r):
  Calls Tryz.prog 58 #[.pointer (some ⟨b,0,none⟩), .string key] w λe w'=>e= .returned (.int .i64 r)/\∃n,w'=w.drewN n:=by
 obtain⟨kv,sb,sc,slots,m,hT,hn,h4,hm,hP,hkr,hro,hks,h2k⟩:=h
 obtain⟨d,hd⟩:=hP.ends key (qX key slots.length)
 have hc:=zpu ⟨_,_,_,hT⟩ key hk d m _ _ hn (by omega) hd hP.small rfl rfl
 have he:((slots.getD ((qX key slots.length+d) % slots.length) 0:Nat):Int) - 1=r:=by
  rcases hr with⟨i,h1,h2,rfl,_⟩|⟨rfl,h2⟩
  ·rw [hP.some h1 (by simpa [List.getD,List.getElem?_eq_getElem h1] using h2) hd];omega
  rw [hP.none hd h2];omega
 rw [he] at hc
 exact hc
theorem zjn (room:Int) (hr:room<1\/100000<room) (w:World):Calls Tryz.prog 34 #[.int .i64 room] w λe w'=>e= .returned (.pointer none)/\w=w':=by
 by_cases h1:room<1
 ·clear hr
  go_enter Tryz.func34,Tryz.ntmps34
  go_wp2
  go_ret
  exact⟨rfl,rfl⟩
 have h2:100000<room:=by omega
 clear hr
 go_enter Tryz.func34,Tryz.ntmps34
 go_wp2
 go_ret
 exact⟨rfl,rfl⟩
theorem zrX (room:Nat) (h1:1<=room) (h2:room<=100000) (w:World) (B:Nat) (hB:B<=w.heap.size):Calls Tryz.prog 34 #[.int .i64 (room:Int)] w λe w'=>
  ∃b,e= .returned (.pointer (some ⟨b,0,none⟩))/\Tab w' B (λk=>w.heap.size<=k/\k<w'.heap.size) b [] room/\Since (λ_=>False) w w':=by
 obtain⟨i0,hi,hz0,hz1,hz2⟩:=info_parts zg1
 have hb2:i0.bytes*16<=281474976710656:=by rw [hz2];decide
 clear hz2
 go_enter Tryz.func34,Tryz.ntmps34
 go_wp2_with(at_make;refine wpList_make_full _ rfl _ _ 31 rfl B 3 i0 (.int .i64 0) 1 Tryz.underlying31 hi hz0 hz1 .i64 .i64 _ _ 16 rfl rfl (by decide) (by decide) hb2 (by unfold maxLen;omega) hB ?_;intro w1 hown1 zey)
 go_ret
 have hS1:Since (λ_=>False) w w1:=(Since.refl _ _).grown zey (by simp)
 have hz:w.heap.size<w1.heap.size:=by
  have:=hown1.lt w.heap.size (by simp [Value.ownBlock])
  omega
 have hr2:w1.ownsRow B 3 1 (.slice (some ⟨w.heap.size,0,none⟩) 16 16) 16 (gF (List.replicate 16 0)):=by
  rw [<-zg2];exact hown1
 refine⟨w1.heap.size,rfl,⟨_,w.heap.size,16,List.replicate 16 0,4,⟨zS w1 _,World.ownsRow_nil _ _ _ _,hr2.alloc _, ?_, ?_, ?_, ?_, ?_, ?_⟩,by simp,by simp,by simp,zdQ _ _ List.nodup_nil _ (by simp),by simp,h2,by simp,by simp⟩,hS1.alloc _⟩
 ·simp;omega
 ·simp;omega
 ·simp [Value.ownBlock]
 ·omega
 ·omega
 intro k hk;exact hk.2
theorem zsn {w B F b keys room} (h:Tab w B F b keys room) (key:ByteArray) (hk:key.size<=maxLen) (r:Int) (hr:wY keys key r) (h0:0<=r):
  Calls Tryz.prog 37 #[.pointer (some ⟨b,0,none⟩), .string key] w λe w'=>e= .returned (.tuple #[.int .i64 r, .bool false])/\∃n,w'=w.drewN n:=by
 go_enter Tryz.func37,Tryz.ntmps37
 go_wp2_with(go_at_call 58;refine(zex h key hk r hr).mono ?_;rintro e w' ⟨rfl,n1,rfl⟩)
 go_ret2
 exact⟨rfl,_,rfl⟩
theorem zpv {w B F b keys room} (h:Tab w B F b keys room) (key:ByteArray) (hk:key.size<=maxLen) (hr:wY keys key (-1)) (h0:room<=keys.length):
  Calls Tryz.prog 37 #[.pointer (some ⟨b,0,none⟩), .string key] w λe w'=>e= .returned (.tuple #[.int .i64 (-1), .bool false])/\∃n,w'=w.drewN n:=by
 have hf:=zex h key hk (-1) hr
 obtain⟨kv,sb,sc,slots,m,hT, -⟩:=h
 obtain⟨ka,gN,rfl,zlu,zez⟩:=xB hT.zat
 have hc0:w.cell? ⟨b,0,none⟩=some (.slice ka keys.length gN):=ze hT.block 0
 have hc2:w.cell? ⟨b,2,none⟩=some (.int .i64 room):=ze hT.block 2
 clear hT hr
 have h0':(room:Int)<=keys.length:=by omega
 go_enter Tryz.func37,Tryz.ntmps37
 go_wp2_with(go_at_call 58;refine hf.mono ?_;rintro e w' ⟨rfl,n1,rfl⟩)
 go_quiet (fail)
 go_wp2
 go_ret2
 exact⟨rfl,n1+nq,by simp⟩
theorem vT.push {w w1:World} {B:Nat} {F:Nat->Prop} {b kv sb sc keys slots room} (h:vT w B F b kv sb sc keys slots room) {key:ByteArray} {ka':Option Addr} {cap':Nat}
  (ho:w1.ownsRow B 9 1 (.slice ka' (keys.length+1) cap') (keys.length+1) (zaE keys++ [.string key])) (hs:Since (λk=>kv.ownBlock=some k) (w.alloc (.cells #[.string key] 9)) w1)
  (hw:∀k,(Value.slice ka' (keys.length+1) cap').ownBlock=some k->kv.ownBlock=some k\/k=(w.alloc (.cells #[.string key] 9)).heap.size):
  vT (w1.setCell ⟨b,0,none⟩ (.slice ka' (keys.length+1) cap')) B (λk=>F k\/w.heap.size<=k/\k<w1.heap.size) b (.slice ka' (keys.length+1) cap') sb sc (keys++ [key]) slots room/\
   Since F w (w1.setCell ⟨b,0,none⟩ (.slice ka' (keys.length+1) cap')):=by
 have hS:Since (λk=>kv.ownBlock=some k) w w1:=((Since.refl _ _).alloc _).trans hs (λk hk=> .inl hk)
 have hbl:=(hS.block b (h.lt b h.fb) (λe=>(h.fk b e).2.1 rfl)).trans h.block
 have hlt:∀k,(Value.slice ka' (keys.length+1) cap').ownBlock=some k->k<w1.heap.size:=λk hk=>(ho.lt k hk).2
 have hloc:∀k,(Value.slice ka' (keys.length+1) cap').ownBlock=some k->(kv.ownBlock=some k\/w.heap.size<=k):=λk hk=>(hw k hk).imp id (λe=>by simp at e;omega)
 refine⟨⟨?_, ?_, ?_, .inl h.fb, .inl h.fsb, ?_,h.ne,h.base, ?_⟩, ?_⟩
 ·rw [zD hbl];simp
 ·have:=(Since.setCell (F:=λk=>k=b) (Since.refl _ w1) (p:=⟨b,0,none⟩) (.inl rfl) (.slice ka' (keys.length+1) cap')).row ho (λk hk e=>by
   rcases hloc k hk with h1|h1
   ·exact(h.fk k h1).2.1 e
   have:=h.lt b h.fb;omega)
  simpa [zaE] using this
 ·have:=(Since.setCell (F:=λk=>k=b) (Since.refl _ w1) (p:=⟨b,0,none⟩) (.inl rfl) (.slice ka' (keys.length+1) cap')).row (hS.row h.zaR (λk hk e=>by simp [Value.ownBlock] at hk;exact(h.fk k e).2.2 hk.symm)) (λk hk e=>by simp [Value.ownBlock] at hk;exact h.ne (hk.trans e))
  exact this
 ·intro k hk
  rcases hloc k hk with h1|h1
  ·exact⟨.inl (h.fk k h1).1,(h.fk k h1).2⟩
  exact⟨.inr ⟨h1,hlt k hk⟩,by have:=h.lt b h.fb;omega,by have:=h.lt sb h.fsb;omega⟩
 ·rintro k (hk|hk)
  ·have:=h.lt k hk;have:=hS.size;simp [World.setCell];omega
  simpa [World.setCell] using hk.2
 exact(hS.mono (λk _ hk=>(h.fk k hk).1)).setCell (.inl h.fb) _
theorem zso {w B F b keys room} (h:Tab w B F b keys room) (key:ByteArray) (hk:key.size<=maxLen) (hr:wY keys key (-1)) (h0:keys.length<room) (hB:B<=w.heap.size):
  Calls Tryz.prog 37 #[.pointer (some ⟨b,0,none⟩), .string key] w λe w'=>e= .returned (.tuple #[.int .i64 keys.length, .bool true])/\
   Tab w' B (λk=>F k\/w.heap.size<=k/\k<w'.heap.size) b (keys++ [key]) room/\Since F w w':=by
 have hf:=zex h key hk (-1) hr
 have hnot:=hr.notMem (by omega)
 obtain⟨kv,sb,sc,slots,m,hT,hn,hm4,hsl,hP, -,hroom,hks,h2k⟩:=h
 obtain⟨ka,gN,rfl,zlu,zez⟩:=xB hT.zat
 have hc0:w.cell? ⟨b,0,none⟩=some (.slice ka keys.length gN):=ze hT.block 0
 have hc1:w.cell? ⟨b,1,none⟩=some (.slice (some ⟨sb,0,none⟩) slots.length sc):=ze hT.block 1
 have hc2:w.cell? ⟨b,2,none⟩=some (.int .i64 room):=ze hT.block 2
 have h0':(keys.length:Int)<room:=by omega
 have HN:=qh hn
 clear hn
 unfold maxLen at zez
 by_cases hg:slots.length<=2*keys.length
 rotate_left
 ·have hg':(2:Int)*keys.length<slots.length:=by omega
  go_enter Tryz.func37,Tryz.ntmps37
  go_wp2_with(go_at_call 58;refine hf.mono ?_;rintro e w' ⟨rfl,n1,rfl⟩)
  go_quiet (fail)
  go_wp2
  go_quiet (fail)
  go_wp2_with fail
  generalize hWn:World.drewN w _=W
  have wz:vT W B F b (.slice ka keys.length gN) sb sc keys slots room:=hWn ▸ hT.drewN _
  have hSW:Since F w W:=hWn ▸ Since.drewN _ _ (Since.refl _ _)
  have hPW:=hP
  have kI:=HN
  have zlv:=hsl
  have zlw:2*(keys.length+1)<=slots.length:=by
   have e:slots.length=2*2 ^ (m - 1):=by rw [HN.out, <-Nat.pow_succ'];congr 1;omega
   omega
  have zii:=hm4
  have hFW:∀k,F k->F k\/w.heap.size<=k:=λk hk=> .inl hk
  obtain⟨mm,hmm⟩:∃mm,mm=m:=⟨_,rfl⟩
  rw [<-hmm] at kI zii
  obtain⟨sl,zri⟩:∃sl,sl=slots:=⟨_,rfl⟩
  rw [<-zri] at kI hPW wz zlv zlw
  clear hWn hT hf hc0 hc1 hc2 hmm zri hg hg' hP HN h2k hm4 hsl
  obtain⟨d,hd⟩:=hPW.ends key (qX key sl.length)
  have hlW:0<sl.length:=by rw [kI.out];exact Nat.two_pow_pos _
  obtain⟨r,hr2⟩:∃r,r=(qX key sl.length+d) % sl.length:=⟨_,rfl⟩
  have hrl:r<sl.length:=by rw [hr2];exact Nat.mod_lt _ hlW
  have hcall:=zbM W B _ b keys sl room ⟨_,_,_,wz⟩ key hk d mm r kI.out (by omega) hd hPW.small hr2
  have HR2:=qh hr2
  have HD:=qh hd
  clear hr2 hd
  refine hcall.mono ?_
  rintro e w' ⟨rfl,rfl⟩
  clear hcall
  have hc0:W.cell? ⟨b,0,none⟩=some (.slice ka keys.length gN):=ze wz.block 0
  have hBW:B<=W.heap.size:=Nat.le_trans hB hSW.size
  go_wp2_with(at_builtin;go_must(refine zX _ rfl _ _ 84 rfl 9 (.string ByteArray.empty) 1 16 Tryz.underlying84 zg5 rfl (by decide) B (.slice ka keys.length gN) keys.length (zaE keys) rfl (wz.zat.alloc _) ⟨W.heap.size,0,none⟩ 1 1 [.string key] rfl rfl (cell_one_new _ _ _) (by simp [Value.oneCell']) (by unfold maxLen;omega) (by omega) (by simp;omega) ?_);intro ka' zfj w1 hown' hcap1 hcap2 hS1 hloc _;clear hc0;go_must(have hPU:=wz.push hown' hS1 hloc);go_must(have hblk:w1.heap[b]? =_:=(hS1.block b (by simp;exact Nat.lt_succ_of_lt (zy wz.block)) (λe=>(wz.fk b e).2.1 rfl)).trans ((Below.heap_alloc _ _ _ (zy wz.block)).trans wz.block));have hc0':=ze hblk 0;have zpw:=zK hblk 0;simp only [List.getElem?_toArray,List.getElem?_cons_zero] at hc0')
  have zpx:=hFW _ wz.fsb
  obtain⟨wB,hSP⟩:=hPU
  generalize hW2:World.setCell w1 _ _=W2 at wB hSP ⊢
  have zik:w1.heap.size=W2.heap.size:=by rw [<-hW2];simp [World.setCell]
  rw [zik] at wB
  have hSz:=hSP.size
  clear hW2 zik hblk hc0' zpw hown' hS1 hloc wz
  have hc0:W2.cell? ⟨b,0,none⟩=some (.slice ka' (keys.length+1) zfj):=ze wB.block 0
  have hc1:=ze wB.block 1
  simp only [List.getElem?_toArray,List.getElem?_cons_zero,List.getElem?_cons_succ] at hc1
  have hce:∃v,W2.cell? ⟨sb,r,none⟩=some v:=by
   rw [wB.zaR.cellAt r (by omega)]
   simp [gF,List.getElem?_eq_getElem hrl]
  obtain⟨v0,hce⟩:=hce
  have hfz:W2.frozen? ⟨sb,r,none⟩=false:=wB.zaR.frozenAt r
  have zx9:∀u,(W2.setCell ⟨sb,r,none⟩ u).cell? ⟨b,0,none⟩=some (.slice ka' (keys.length+1) zfj):=λu=>
   ((Since.setCell (F:=λk=>k=sb) (Since.refl _ W2) (p:=⟨sb,r,none⟩) (.inl rfl) u).cell (p:=⟨b,0,none⟩) (zy wB.block) (λe=>wB.ne e.symm)).trans hc0
  refine wp_region_still_tail 11 (by kernel_rfl) (by kernel_rfl) ?_
  simp only [List.take_succ_cons,List.take_zero,List.drop_succ_cons,List.drop_zero]
  repeat still_step
  refine wpStill_nil ?_
  change wpList _ _ _ _ _ W2.drew
  go_wp2
  go_ret2
  have hTS:=wB.store r (keys.length+1)
  have hTf:=(hTS.drewN 1).wide (G:=λk=>F k\/w.heap.size<=k/\k<((W2.setCell ⟨sb,r,none⟩ (.int .i64 ((keys.length:Int)+1))).drew).heap.size) (λk hk=>by
   rcases hk with hk|hk
   ·exact(hFW k hk).imp id (λh1=>⟨h1,by have:=wB.lt k (.inl hk);simpa [World.setCell] using this⟩)
   ·exact .inr ⟨Nat.le_trans hSW.size hk.1,by simpa [World.setCell] using hk.2⟩) (λk hk=>by
   rcases hk with hk|hk
   ·have:=wB.lt k (.inl hk);simpa [World.setCell] using this
   simpa [World.setCell] using hk.2)
  refine⟨rfl,⟨_,_,_,_,mm,hTf,by simpa using kI.out,zii,by simpa using zlv, ?_,by simp;omega,hroom, ?_,by simpa using zlw⟩, ?_⟩
  ·have hp:=hPW.more key hnot
   have:=hp.add (by simp) (by omega) (d:=d) (by simpa using Ends.more hPW rfl [key] HD.out)
   simpa [<-HR2.out] using this
  ·intro k hk1
   simp at hk1
   rcases hk1 with hk1|rfl
   ·exact hks k hk1
   exact hk
  have h3:=(hSW.trans hSP hFW)
  exact Since.drew _ (h3.setCell zpx _)
 have hg':(slots.length:Int)<=2*keys.length:=by omega
 go_enter Tryz.func37,Tryz.ntmps37
 go_wp2_with(go_at_call 58;refine hf.mono ?_;rintro e w' ⟨rfl,n1,rfl⟩)
 go_quiet (fail)
 go_wp2
 go_quiet (fail)
 go_wp2_with fail
 generalize hWn:World.drewN w _=W0
 have ztL:vT W0 B F b (.slice ka keys.length gN) sb sc keys slots room:=hWn ▸ hT.drewN _
 have zpy:Since F w W0:=hWn ▸ Since.drewN _ _ (Since.refl _ _)
 have hz0:W0.heap.size=w.heap.size:=by rw [<-hWn];rfl
 have HZ0:=qh hz0
 refine(zpz ztL m HN.out hsl (Nat.le_trans hB zpy.size) hP.nodup (by have:=hP.room;omega) hks).mono ?_
 rintro e W ⟨rfl,sb',sc',sl,wz,hsl2,hPW,hSW1⟩
 have hSW:=zpy.trans hSW1 (λ_ h=> .inl h)
 have HSL:=qh hsl2
 have kI:Hid (sl.length=2 ^ (m+1)):=by simp only [Hid];rw [hsl2,HN.out,Nat.pow_succ];omega
 have zlv:sl.length<1073741824:=by rw [hsl2];omega
 have zlw:2*(keys.length+1)<=sl.length:=by have:=hP.room;rw [hsl2];omega
 have zii:4<=m+1:=by omega
 have hFW:∀k,(F k\/k=W0.heap.size)->F k\/w.heap.size<=k:=λk hk=>hk.imp id (λe=>by omega)
 have hzW:W0.heap.size<W.heap.size:=by have:=wz.lt _ (.inr rfl);omega
 obtain⟨mm,hmm⟩:∃mm,mm=m+1:=⟨_,rfl⟩
 rw [<-hmm] at kI zii
 clear hWn hT hf hc0 hc1 hc2 hmm hg hg' hP HN h2k hm4 hsl hsl2 hz0 ztL zpy hSW1
 go_wp2_with fail
 obtain⟨d,hd⟩:=hPW.ends key (qX key sl.length)
 have hlW:0<sl.length:=by rw [kI.out];exact Nat.two_pow_pos _
 obtain⟨r,hr2⟩:∃r,r=(qX key sl.length+d) % sl.length:=⟨_,rfl⟩
 have hrl:r<sl.length:=by rw [hr2];exact Nat.mod_lt _ hlW
 have hcall:=zbM W B _ b keys sl room ⟨_,_,_,wz⟩ key hk d mm r kI.out (by omega) hd hPW.small hr2
 have HR2:=qh hr2
 have HD:=qh hd
 clear hr2 hd
 refine hcall.mono ?_
 rintro e w' ⟨rfl,rfl⟩
 clear hcall
 have hc0:W.cell? ⟨b,0,none⟩=some (.slice ka keys.length gN):=ze wz.block 0
 have hBW:B<=W.heap.size:=Nat.le_trans hB hSW.size
 go_wp2_with(at_builtin;go_must(refine zX _ rfl _ _ 84 rfl 9 (.string ByteArray.empty) 1 16 Tryz.underlying84 zg5 rfl (by decide) B (.slice ka keys.length gN) keys.length (zaE keys) rfl (wz.zat.alloc _) ⟨W.heap.size,0,none⟩ 1 1 [.string key] rfl rfl (cell_one_new _ _ _) (by simp [Value.oneCell']) (by unfold maxLen;omega) (by omega) (by simp;omega) ?_);intro ka' zfj w1 hown' hcap1 hcap2 hS1 hloc _;clear hc0;go_must(have hPU:=wz.push hown' hS1 hloc);go_must(have hblk:w1.heap[b]? =_:=(hS1.block b (by simp;exact Nat.lt_succ_of_lt (zy wz.block)) (λe=>(wz.fk b e).2.1 rfl)).trans ((Below.heap_alloc _ _ _ (zy wz.block)).trans wz.block));have hc0':=ze hblk 0;have zpw:=zK hblk 0;simp only [List.getElem?_toArray,List.getElem?_cons_zero] at hc0')
 have zpx:=hFW _ wz.fsb
 obtain⟨wB,hSP⟩:=hPU
 generalize hW2:World.setCell w1 _ _=W2 at wB hSP ⊢
 have zik:w1.heap.size=W2.heap.size:=by rw [<-hW2];simp [World.setCell]
 rw [zik] at wB
 have hSz:=hSP.size
 clear hW2 zik hblk hc0' zpw hown' hS1 hloc wz
 have hc0:W2.cell? ⟨b,0,none⟩=some (.slice ka' (keys.length+1) zfj):=ze wB.block 0
 have hc1:=ze wB.block 1
 simp only [List.getElem?_toArray,List.getElem?_cons_zero,List.getElem?_cons_succ] at hc1
 have hce:∃v,W2.cell? ⟨sb',r,none⟩=some v:=by
  rw [wB.zaR.cellAt r (by omega)]
  simp [gF,List.getElem?_eq_getElem hrl]
 obtain⟨v0,hce⟩:=hce
 have hfz:W2.frozen? ⟨sb',r,none⟩=false:=wB.zaR.frozenAt r
 have zx9:∀u,(W2.setCell ⟨sb',r,none⟩ u).cell? ⟨b,0,none⟩=some (.slice ka' (keys.length+1) zfj):=λu=>
  ((Since.setCell (F:=λk=>k=sb') (Since.refl _ W2) (p:=⟨sb',r,none⟩) (.inl rfl) u).cell (p:=⟨b,0,none⟩) (zy wB.block) (λe=>wB.ne e.symm)).trans hc0
 refine wp_region_still_tail 11 (by kernel_rfl) (by kernel_rfl) ?_
 simp only [List.take_succ_cons,List.take_zero,List.drop_succ_cons,List.drop_zero]
 repeat still_step
 refine wpStill_nil ?_
 change wpList _ _ _ _ _ W2.drew
 go_wp2
 go_ret2
 have hTS:=wB.store r (keys.length+1)
 have hTf:=(hTS.drewN 1).wide (G:=λk=>F k\/w.heap.size<=k/\k<((W2.setCell ⟨sb',r,none⟩ (.int .i64 ((keys.length:Int)+1))).drew).heap.size) (λk hk=>by
  rcases hk with hk|hk
  ·exact(hFW k hk).imp id (λh1=>⟨h1,by have:=wB.lt k (.inl hk);simpa [World.setCell] using this⟩)
  ·exact .inr ⟨Nat.le_trans hSW.size hk.1,by simpa [World.setCell] using hk.2⟩) (λk hk=>by
  rcases hk with hk|hk
  ·have:=wB.lt k (.inl (.inl hk));simpa [World.setCell] using this
  simpa [World.setCell] using hk.2)
 refine⟨rfl,⟨_,_,_,_,mm,hTf,by simpa using kI.out,zii,by simpa using zlv, ?_,by simp;omega,hroom, ?_,by simpa using zlw⟩, ?_⟩
 ·have hp:=hPW.more key hnot
  have:=hp.add (by simp) (by omega) (d:=d) (by simpa using Ends.more hPW rfl [key] HD.out)
  simpa [<-HR2.out] using this
 ·intro k hk1
  simp at hk1
  rcases hk1 with hk1|rfl
  ·exact hks k hk1
  exact hk
 have h3:=(hSW.trans hSP hFW)
 exact Since.drew _ (h3.setCell zpx _)
def zds (keys:List ByteArray) (room:Nat) (key:ByteArray) (a:Int) (is:Bool) (keys':List ByteArray):Prop:=
 (wY keys key a/\0<=a/\is=false/\keys'=keys)\/(wY keys key (-1)/\room<=keys.length/\a= -1/\is=false/\keys'=keys)\/
  (wY keys key (-1)/\keys.length<room/\a=keys.length/\is=true/\keys'=keys++ [key])
theorem zjW {w B F b keys room} (h:Tab w B F b keys room) (key:ByteArray) (hk:key.size<=maxLen) {a:Int} {is:Bool} {keys':List ByteArray} (ha:zds keys room key a is keys') (hB:B<=w.heap.size):
  Calls Tryz.prog 37 #[.pointer (some ⟨b,0,none⟩), .string key] w λe w'=>e= .returned (.tuple #[.int .i64 a, .bool is])/\
   ∃F',Tab w' B F' b keys' room/\(∀k,F' k->F k\/w.heap.size<=k)/\Since F w w':=by
 rcases ha with⟨h1,h2,rfl,rfl⟩|⟨h1,h2,rfl,rfl,rfl⟩|⟨h1,h2,rfl,rfl,rfl⟩
 ·refine(zsn h key hk a h1 h2).mono ?_
  rintro e w' ⟨rfl,n,rfl⟩
  exact⟨rfl,F,h.drewN n,λk hk=> .inl hk,Since.drewN _ _ (Since.refl _ _)⟩
 ·refine(zpv h key hk h1 h2).mono ?_
  rintro e w' ⟨rfl,n,rfl⟩
  exact⟨rfl,F,h.drewN n,λk hk=> .inl hk,Since.drewN _ _ (Since.refl _ _)⟩
 refine(zso h key hk h1 h2 hB).mono ?_
 rintro e w' ⟨rfl,h3,h4⟩
 exact⟨rfl,_,h3,λk hk=>hk.imp id (·.1),h4⟩
