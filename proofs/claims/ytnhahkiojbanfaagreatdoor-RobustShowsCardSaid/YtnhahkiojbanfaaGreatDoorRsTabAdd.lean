/- Steps. -/
import Derived.Test.YtnhahkiojbanfaaGreatDoorRsExplore
import Derived.Test.YtnhahkiojbanfaaGreatDoorRsKeyP
import Derived.Test.YtnhahkiojbanfaaGreatDoorRsTabPlain
set_option linter.all false
namespace Go.Proofs.YtnhahkiojbanfaaGreatDoor
open Go.RowKit
set_option maxRecDepth 100000
set_option maxHeartbeats 16000000
def zaq (keys:List ByteArray) (key:ByteArray) (r:Int):Prop:=
 (∃i,i<keys.length/\keys.getD i ByteArray.empty=key/\r=(i:Int)/\∀j,j<i->keys.getD j ByteArray.empty≠key)\/(r= -1/\∀i,i<keys.length->keys.getD i ByteArray.empty≠key)
theorem zaq.notMem {keys:List ByteArray} {key:ByteArray} {r:Int} (h:zaq keys key r) (hr:r<0):key ∉ keys:=by
 rcases h with⟨i,_,_,rfl,_⟩|⟨_,h⟩
 ·omega
 intro hm
 obtain⟨i,hi,he⟩:=List.getElem_of_mem hm
 exact h i hi (by simp [List.getD,List.getElem?_eq_getElem hi,he])
def Tab (w:World) (B:Nat) (F:Nat->Prop) (b:Nat) (keys:List ByteArray) (room:Nat):Prop:=
 ∃kv sb sc slots m,kI w B F b kv sb sc keys slots room/\slots.length=2 ^ m/\4<=m/\slots.length<1073741824/\Placed jA keys keys.length slots/\
  keys.length<=room/\room<=100000/\(∀k∈keys,k.size<=maxLen)/\2*keys.length<=slots.length
theorem Tab.since {w w':World} {B:Nat} {F G:Nat->Prop} {b keys room} (h:Tab w B F b keys room) (hs:Since G w w') (hG:∀k,F k->¬G k):Tab w' B F b keys room:=
 let ⟨kv,sb,sc,sl,m,h1,h2⟩:=h;⟨kv,sb,sc,sl,m,h1.since hs hG,h2⟩
theorem Tab.lt {w B F b keys room} (h:Tab w B F b keys room):∀k,F k->k<w.heap.size:=let ⟨_,_,_,_,_,h1,_⟩:=h;h1.lt
theorem Tab.drewN {w:World} {B F b keys room} (h:Tab w B F b keys room) (n:Nat):Tab (w.drewN n) B F b keys room:=
 h.since (Since.drewN (λ_=>False) n (Since.refl _ _)) (λ_ _ h=>h)
theorem zhj {w B F b keys room} (h:Tab w B F b keys room) (key:ByteArray) (hk:key.size<=maxLen) (r:Int) (hr:zaq keys key r):
  Calls Tryz.prog 58 #[.pointer (some ⟨b,0,none⟩), .string key] w λe w'=>e= .returned (.int .i64 r)/\∃n,w'=w.drewN n:=by
 obtain⟨kv,sb,sc,slots,m,hT,hn,h4,hm,hP,hkr,hro,hks,h2k⟩:=h
 obtain⟨d,hd⟩:=hP.ends key (jA key slots.length)
 have hc:=ztZ ⟨_,_,_,hT⟩ key hk d m _ _ hn (by omega) hd hP.small rfl rfl
 have he:((slots.getD ((jA key slots.length+d) % slots.length) 0:Nat):Int) - 1=r:=by
  rcases hr with⟨i,h1,h2,rfl,_⟩|⟨rfl,h2⟩
  ·rw [hP.some h1 (by simpa [List.getD,List.getElem?_eq_getElem h1] using h2) hd];omega
  rw [hP.none hd h2];omega
 rw [he] at hc
 exact hc
theorem znj (room:Int) (hr:room<1\/100000<room) (w:World):Calls Tryz.prog 34 #[.int .i64 room] w λe w'=>e= .returned (.pointer none)/\w=w':=by
 by_cases h1:room<1
 ·clear hr
  go_enter Tryz.func34,Tryz.ntmps34
  go_wp2
  go_ret
  exact⟨rfl,rfl⟩
 have h2:100000<room:=by omega
 clear hr
 go_enter Tryz.func34,Tryz.ntmps34
 go_wp2
 go_ret
 exact⟨rfl,rfl⟩
theorem zxQ (room:Nat) (h1:1<=room) (h2:room<=100000) (w:World) (B:Nat) (hB:B<=w.heap.size):Calls Tryz.prog 34 #[.int .i64 (room:Int)] w λe w'=>
  ∃b,e= .returned (.pointer (some ⟨b,0,none⟩))/\Tab w' B (λk=>w.heap.size<=k/\k<w'.heap.size) b [] room/\Since (λ_=>False) w w':=by
 obtain⟨i0,hi,hz0,hz1,hz2⟩:=info_parts zjJ
 have hb2:i0.bytes*16<=281474976710656:=by rw [hz2];decide
 clear hz2
 go_enter Tryz.func34,Tryz.ntmps34
 go_wp2_with(at_make;refine wpList_make_full _ rfl _ _ 31 rfl B 3 i0 (.int .i64 0) 1 Tryz.underlying31 hi hz0 hz1 .i64 .i64 _ _ 16 rfl rfl (by decide) (by decide) hb2 (by unfold maxLen;omega) hB ?_;intro w1 hown1 zhk)
 go_ret
 have hS1:Since (λ_=>False) w w1:=(Since.refl _ _).grown zhk (by simp)
 have hz:w.heap.size<w1.heap.size:=by
  have:=hown1.lt w.heap.size (by simp [Value.ownBlock])
  omega
 have hr2:w1.ownsRow B 3 1 (.slice (some ⟨w.heap.size,0,none⟩) 16 16) 16 (zaw (List.replicate 16 0)):=by
  rw [<-zjK];exact hown1
 refine⟨w1.heap.size,rfl,⟨_,w.heap.size,16,List.replicate 16 0,4,⟨yj w1 _,World.ownsRow_nil _ _ _ _,hr2.alloc _, ?_, ?_, ?_, ?_, ?_, ?_⟩,by simp,by simp,by simp,zgz _ _ List.nodup_nil _ (by simp),by simp,h2,by simp,by simp⟩,hS1.alloc _⟩
 ·simp;omega
 ·simp;omega
 ·simp [Value.ownBlock]
 ·omega
 ·omega
 intro k hk;exact hk.2
theorem zxR {w B F b keys room} (h:Tab w B F b keys room) (key:ByteArray) (hk:key.size<=maxLen) (r:Int) (hr:zaq keys key r) (h0:0<=r):
  Calls Tryz.prog 37 #[.pointer (some ⟨b,0,none⟩), .string key] w λe w'=>e= .returned (.tuple #[.int .i64 r, .bool false])/\∃n,w'=w.drewN n:=by
 go_enter Tryz.func37,Tryz.ntmps37
 go_wp2_with(go_at_call 58;refine(zhj h key hk r hr).mono ?_;rintro e w' ⟨rfl,n1,rfl⟩)
 go_ret2
 exact⟨rfl,_,rfl⟩
theorem zua {w B F b keys room} (h:Tab w B F b keys room) (key:ByteArray) (hk:key.size<=maxLen) (hr:zaq keys key (-1)) (h0:room<=keys.length):
  Calls Tryz.prog 37 #[.pointer (some ⟨b,0,none⟩), .string key] w λe w'=>e= .returned (.tuple #[.int .i64 (-1), .bool false])/\∃n,w'=w.drewN n:=by
 have hf:=zhj h key hk (-1) hr
 obtain⟨kv,sb,sc,slots,m,hT, -⟩:=h
 obtain⟨ka,za0,rfl,zpj,zhl⟩:=xu hT.zc1
 have hc0:w.cell? ⟨b,0,none⟩=some (.slice ka keys.length za0):=ze hT.block 0
 have hc2:w.cell? ⟨b,2,none⟩=some (.int .i64 room):=ze hT.block 2
 clear hT hr
 have h0':(room:Int)<=keys.length:=by omega
 go_enter Tryz.func37,Tryz.ntmps37
 go_wp2_with(go_at_call 58;refine hf.mono ?_;rintro e w' ⟨rfl,n1,rfl⟩)
 go_quiet (fail)
 go_wp2
 go_ret2
 exact⟨rfl,n1+nq,by simp⟩
theorem kI.push {w w1:World} {B:Nat} {F:Nat->Prop} {b kv sb sc keys slots room} (h:kI w B F b kv sb sc keys slots room) {key:ByteArray} {ka':Option Addr} {cap':Nat}
  (ho:w1.ownsRow B 9 1 (.slice ka' (keys.length+1) cap') (keys.length+1) (zda keys++ [.string key])) (hs:Since (λk=>kv.ownBlock=some k) (w.alloc (.cells #[.string key] 9)) w1)
  (hw:∀k,(Value.slice ka' (keys.length+1) cap').ownBlock=some k->kv.ownBlock=some k\/k=(w.alloc (.cells #[.string key] 9)).heap.size):
  kI (w1.setCell ⟨b,0,none⟩ (.slice ka' (keys.length+1) cap')) B (λk=>F k\/w.heap.size<=k/\k<w1.heap.size) b (.slice ka' (keys.length+1) cap') sb sc (keys++ [key]) slots room/\
   Since F w (w1.setCell ⟨b,0,none⟩ (.slice ka' (keys.length+1) cap')):=by
 have hS:Since (λk=>kv.ownBlock=some k) w w1:=((Since.refl _ _).alloc _).trans hs (λk hk=> .inl hk)
 have hbl:=(hS.block b (h.lt b h.fb) (λe=>(h.fk b e).2.1 rfl)).trans h.block
 have hlt:∀k,(Value.slice ka' (keys.length+1) cap').ownBlock=some k->k<w1.heap.size:=λk hk=>(ho.lt k hk).2
 have hloc:∀k,(Value.slice ka' (keys.length+1) cap').ownBlock=some k->(kv.ownBlock=some k\/w.heap.size<=k):=λk hk=>(hw k hk).imp id (λe=>by simp at e;omega)
 refine⟨⟨?_, ?_, ?_, .inl h.fb, .inl h.fsb, ?_,h.ne,h.base, ?_⟩, ?_⟩
 ·rw [zu hbl];simp
 ·have:=(Since.setCell (F:=λk=>k=b) (Since.refl _ w1) (p:=⟨b,0,none⟩) (.inl rfl) (.slice ka' (keys.length+1) cap')).row ho (λk hk e=>by
   rcases hloc k hk with h1|h1
   ·exact(h.fk k h1).2.1 e
   have:=h.lt b h.fb;omega)
  simpa [zda] using this
 ·have:=(Since.setCell (F:=λk=>k=b) (Since.refl _ w1) (p:=⟨b,0,none⟩) (.inl rfl) (.slice ka' (keys.length+1) cap')).row (hS.row h.zd0 (λk hk e=>by simp [Value.ownBlock] at hk;exact(h.fk k e).2.2 hk.symm)) (λk hk e=>by simp [Value.ownBlock] at hk;exact h.ne (hk.trans e))
  exact this
 ·intro k hk
  rcases hloc k hk with h1|h1
  ·exact⟨.inl (h.fk k h1).1,(h.fk k h1).2⟩
  exact⟨.inr ⟨h1,hlt k hk⟩,by have:=h.lt b h.fb;omega,by have:=h.lt sb h.fsb;omega⟩
 ·rintro k (hk|hk)
  ·have:=h.lt k hk;have:=hS.size;simp [World.setCell];omega
  simpa [World.setCell] using hk.2
 exact(hS.mono (λk _ hk=>(h.fk k hk).1)).setCell (.inl h.fb) _
theorem zxS {w B F b keys room} (h:Tab w B F b keys room) (key:ByteArray) (hk:key.size<=maxLen) (hr:zaq keys key (-1)) (h0:keys.length<room) (hB:B<=w.heap.size):
  Calls Tryz.prog 37 #[.pointer (some ⟨b,0,none⟩), .string key] w λe w'=>e= .returned (.tuple #[.int .i64 keys.length, .bool true])/\
   Tab w' B (λk=>F k\/w.heap.size<=k/\k<w'.heap.size) b (keys++ [key]) room/\Since F w w':=by
 have hf:=zhj h key hk (-1) hr
 have hnot:=hr.notMem (by omega)
 obtain⟨kv,sb,sc,slots,m,hT,hn,hm4,hsl,hP, -,hroom,hks,h2k⟩:=h
 obtain⟨ka,za0,rfl,zpj,zhl⟩:=xu hT.zc1
 have hc0:w.cell? ⟨b,0,none⟩=some (.slice ka keys.length za0):=ze hT.block 0
 have hc1:w.cell? ⟨b,1,none⟩=some (.slice (some ⟨sb,0,none⟩) slots.length sc):=ze hT.block 1
 have hc2:w.cell? ⟨b,2,none⟩=some (.int .i64 room):=ze hT.block 2
 have h0':(keys.length:Int)<room:=by omega
 have HN:=qh hn
 clear hn
 unfold maxLen at zhl
 by_cases hg:slots.length<=2*keys.length
 rotate_left
 ·have hg':(2:Int)*keys.length<slots.length:=by omega
  go_enter Tryz.func37,Tryz.ntmps37
  go_wp2_with(go_at_call 58;refine hf.mono ?_;rintro e w' ⟨rfl,n1,rfl⟩)
  go_quiet (fail)
  go_wp2
  go_quiet (fail)
  go_wp2_with fail
  generalize hWn:World.drewN w _=W
  have bJ:kI W B F b (.slice ka keys.length za0) sb sc keys slots room:=hWn ▸ hT.drewN _
  have hSW:Since F w W:=hWn ▸ Since.drewN _ _ (Since.refl _ _)
  have hPW:=hP
  have uZ:=HN
  have zpk:=hsl
  have zpl:2*(keys.length+1)<=slots.length:=by
   have e:slots.length=2*2 ^ (m - 1):=by rw [HN.out, <-Nat.pow_succ'];congr 1;omega
   omega
  have zln:=hm4
  have hFW:∀k,F k->F k\/w.heap.size<=k:=λk hk=> .inl hk
  obtain⟨mm,hmm⟩:∃mm,mm=m:=⟨_,rfl⟩
  rw [<-hmm] at uZ zln
  obtain⟨sl,zw1⟩:∃sl,sl=slots:=⟨_,rfl⟩
  rw [<-zw1] at uZ hPW bJ zpk zpl
  clear hWn hT hf hc0 hc1 hc2 hmm zw1 hg hg' hP HN h2k hm4 hsl
  obtain⟨d,hd⟩:=hPW.ends key (jA key sl.length)
  have hlW:0<sl.length:=by rw [uZ.out];exact Nat.two_pow_pos _
  obtain⟨r,hr2⟩:∃r,r=(jA key sl.length+d) % sl.length:=⟨_,rfl⟩
  have hrl:r<sl.length:=by rw [hr2];exact Nat.mod_lt _ hlW
  have hcall:=zel W B _ b keys sl room ⟨_,_,_,bJ⟩ key hk d mm r uZ.out (by omega) hd hPW.small hr2
  have HR2:=qh hr2
  have HD:=qh hd
  clear hr2 hd
  refine hcall.mono ?_
  rintro e w' ⟨rfl,rfl⟩
  clear hcall
  have hc0:W.cell? ⟨b,0,none⟩=some (.slice ka keys.length za0):=ze bJ.block 0
  have hBW:B<=W.heap.size:=Nat.le_trans hB hSW.size
  go_wp2_with(at_builtin;go_must(refine zI _ rfl _ _ 84 rfl 9 (.string ByteArray.empty) 1 16 Tryz.underlying84 zjN rfl (by decide) B (.slice ka keys.length za0) keys.length (zda keys) rfl (bJ.zc1.alloc _) ⟨W.heap.size,0,none⟩ 1 1 [.string key] rfl rfl (cell_one_new _ _ _) (by simp [Value.oneCell']) (by unfold maxLen;omega) (by omega) (by simp;omega) ?_);intro ka' zie w1 hown' hcap1 hcap2 hS1 hloc _;clear hc0;go_must(have hPU:=bJ.push hown' hS1 hloc);go_must(have hblk:w1.heap[b]? =_:=(hS1.block b (by simp;exact Nat.lt_succ_of_lt (zw bJ.block)) (λe=>(bJ.fk b e).2.1 rfl)).trans ((Below.heap_alloc _ _ _ (zw bJ.block)).trans bJ.block));have hc0':=ze hblk 0;have zue:=zA hblk 0;simp only [List.getElem?_toArray,List.getElem?_cons_zero] at hc0')
  have zuf:=hFW _ bJ.fsb
  obtain⟨bK,hSP⟩:=hPU
  generalize hW2:World.setCell w1 _ _=W2 at bK hSP ⊢
  have zlp:w1.heap.size=W2.heap.size:=by rw [<-hW2];simp [World.setCell]
  rw [zlp] at bK
  have hSz:=hSP.size
  clear hW2 zlp hblk hc0' zue hown' hS1 hloc bJ
  have hc0:W2.cell? ⟨b,0,none⟩=some (.slice ka' (keys.length+1) zie):=ze bK.block 0
  have hc1:=ze bK.block 1
  simp only [List.getElem?_toArray,List.getElem?_cons_zero,List.getElem?_cons_succ] at hc1
  have hce:∃v,W2.cell? ⟨sb,r,none⟩=some v:=by
   rw [bK.zd0.cellAt r (by omega)]
   simp [zaw,List.getElem?_eq_getElem hrl]
  obtain⟨v0,hce⟩:=hce
  have hfz:W2.frozen? ⟨sb,r,none⟩=false:=bK.zd0.frozenAt r
  have z5x:∀u,(W2.setCell ⟨sb,r,none⟩ u).cell? ⟨b,0,none⟩=some (.slice ka' (keys.length+1) zie):=λu=>
   ((Since.setCell (F:=λk=>k=sb) (Since.refl _ W2) (p:=⟨sb,r,none⟩) (.inl rfl) u).cell (p:=⟨b,0,none⟩) (zw bK.block) (λe=>bK.ne e.symm)).trans hc0
  refine wp_region_still_tail 11 (by kernel_rfl) (by kernel_rfl) ?_
  simp only [List.take_succ_cons,List.take_zero,List.drop_succ_cons,List.drop_zero]
  repeat still_step
  refine wpStill_nil ?_
  change wpList _ _ _ _ _ W2.drew
  go_wp2
  go_ret2
  have hTS:=bK.store r (keys.length+1)
  have hTf:=(hTS.drewN 1).wide (G:=λk=>F k\/w.heap.size<=k/\k<((W2.setCell ⟨sb,r,none⟩ (.int .i64 ((keys.length:Int)+1))).drew).heap.size) (λk hk=>by
   rcases hk with hk|hk
   ·exact(hFW k hk).imp id (λh1=>⟨h1,by have:=bK.lt k (.inl hk);simpa [World.setCell] using this⟩)
   ·exact .inr ⟨Nat.le_trans hSW.size hk.1,by simpa [World.setCell] using hk.2⟩) (λk hk=>by
   rcases hk with hk|hk
   ·have:=bK.lt k (.inl hk);simpa [World.setCell] using this
   simpa [World.setCell] using hk.2)
  refine⟨rfl,⟨_,_,_,_,mm,hTf,by simpa using uZ.out,zln,by simpa using zpk, ?_,by simp;omega,hroom, ?_,by simpa using zpl⟩, ?_⟩
  ·have hp:=hPW.more key hnot
   have:=hp.add (by simp) (by omega) (d:=d) (by simpa using Ends.more hPW rfl [key] HD.out)
   simpa [<-HR2.out] using this
  ·intro k hk1
   simp at hk1
   rcases hk1 with hk1|rfl
   ·exact hks k hk1
   exact hk
  have h3:=(hSW.trans hSP hFW)
  exact Since.drew _ (h3.setCell zuf _)
 have hg':(slots.length:Int)<=2*keys.length:=by omega
 go_enter Tryz.func37,Tryz.ntmps37
 go_wp2_with(go_at_call 58;refine hf.mono ?_;rintro e w' ⟨rfl,n1,rfl⟩)
 go_quiet (fail)
 go_wp2
 go_quiet (fail)
 go_wp2_with fail
 generalize hWn:World.drewN w _=W0
 have zyY:kI W0 B F b (.slice ka keys.length za0) sb sc keys slots room:=hWn ▸ hT.drewN _
 have zug:Since F w W0:=hWn ▸ Since.drewN _ _ (Since.refl _ _)
 have hz0:W0.heap.size=w.heap.size:=by rw [<-hWn];rfl
 have HZ0:=qh hz0
 refine(zuh zyY m HN.out hsl (Nat.le_trans hB zug.size) hP.nodup (by have:=hP.room;omega) hks).mono ?_
 rintro e W ⟨rfl,sb',sc',sl,bJ,hsl2,hPW,hSW1⟩
 have hSW:=zug.trans hSW1 (λ_ h=> .inl h)
 have HSL:=qh hsl2
 have uZ:Hid (sl.length=2 ^ (m+1)):=by simp only [Hid];rw [hsl2,HN.out,Nat.pow_succ];omega
 have zpk:sl.length<1073741824:=by rw [hsl2];omega
 have zpl:2*(keys.length+1)<=sl.length:=by have:=hP.room;rw [hsl2];omega
 have zln:4<=m+1:=by omega
 have hFW:∀k,(F k\/k=W0.heap.size)->F k\/w.heap.size<=k:=λk hk=>hk.imp id (λe=>by omega)
 have hzW:W0.heap.size<W.heap.size:=by have:=bJ.lt _ (.inr rfl);omega
 obtain⟨mm,hmm⟩:∃mm,mm=m+1:=⟨_,rfl⟩
 rw [<-hmm] at uZ zln
 clear hWn hT hf hc0 hc1 hc2 hmm hg hg' hP HN h2k hm4 hsl hsl2 hz0 zyY zug hSW1
 go_wp2_with fail
 obtain⟨d,hd⟩:=hPW.ends key (jA key sl.length)
 have hlW:0<sl.length:=by rw [uZ.out];exact Nat.two_pow_pos _
 obtain⟨r,hr2⟩:∃r,r=(jA key sl.length+d) % sl.length:=⟨_,rfl⟩
 have hrl:r<sl.length:=by rw [hr2];exact Nat.mod_lt _ hlW
 have hcall:=zel W B _ b keys sl room ⟨_,_,_,bJ⟩ key hk d mm r uZ.out (by omega) hd hPW.small hr2
 have HR2:=qh hr2
 have HD:=qh hd
 clear hr2 hd
 refine hcall.mono ?_
 rintro e w' ⟨rfl,rfl⟩
 clear hcall
 have hc0:W.cell? ⟨b,0,none⟩=some (.slice ka keys.length za0):=ze bJ.block 0
 have hBW:B<=W.heap.size:=Nat.le_trans hB hSW.size
 go_wp2_with(at_builtin;go_must(refine zI _ rfl _ _ 84 rfl 9 (.string ByteArray.empty) 1 16 Tryz.underlying84 zjN rfl (by decide) B (.slice ka keys.length za0) keys.length (zda keys) rfl (bJ.zc1.alloc _) ⟨W.heap.size,0,none⟩ 1 1 [.string key] rfl rfl (cell_one_new _ _ _) (by simp [Value.oneCell']) (by unfold maxLen;omega) (by omega) (by simp;omega) ?_);intro ka' zie w1 hown' hcap1 hcap2 hS1 hloc _;clear hc0;go_must(have hPU:=bJ.push hown' hS1 hloc);go_must(have hblk:w1.heap[b]? =_:=(hS1.block b (by simp;exact Nat.lt_succ_of_lt (zw bJ.block)) (λe=>(bJ.fk b e).2.1 rfl)).trans ((Below.heap_alloc _ _ _ (zw bJ.block)).trans bJ.block));have hc0':=ze hblk 0;have zue:=zA hblk 0;simp only [List.getElem?_toArray,List.getElem?_cons_zero] at hc0')
 have zuf:=hFW _ bJ.fsb
 obtain⟨bK,hSP⟩:=hPU
 generalize hW2:World.setCell w1 _ _=W2 at bK hSP ⊢
 have zlp:w1.heap.size=W2.heap.size:=by rw [<-hW2];simp [World.setCell]
 rw [zlp] at bK
 have hSz:=hSP.size
 clear hW2 zlp hblk hc0' zue hown' hS1 hloc bJ
 have hc0:W2.cell? ⟨b,0,none⟩=some (.slice ka' (keys.length+1) zie):=ze bK.block 0
 have hc1:=ze bK.block 1
 simp only [List.getElem?_toArray,List.getElem?_cons_zero,List.getElem?_cons_succ] at hc1
 have hce:∃v,W2.cell? ⟨sb',r,none⟩=some v:=by
  rw [bK.zd0.cellAt r (by omega)]
  simp [zaw,List.getElem?_eq_getElem hrl]
 obtain⟨v0,hce⟩:=hce
 have hfz:W2.frozen? ⟨sb',r,none⟩=false:=bK.zd0.frozenAt r
 have z5x:∀u,(W2.setCell ⟨sb',r,none⟩ u).cell? ⟨b,0,none⟩=some (.slice ka' (keys.length+1) zie):=λu=>
  ((Since.setCell (F:=λk=>k=sb') (Since.refl _ W2) (p:=⟨sb',r,none⟩) (.inl rfl) u).cell (p:=⟨b,0,none⟩) (zw bK.block) (λe=>bK.ne e.symm)).trans hc0
 refine wp_region_still_tail 11 (by kernel_rfl) (by kernel_rfl) ?_
 simp only [List.take_succ_cons,List.take_zero,List.drop_succ_cons,List.drop_zero]
 repeat still_step
 refine wpStill_nil ?_
 change wpList _ _ _ _ _ W2.drew
 go_wp2
 go_ret2
 have hTS:=bK.store r (keys.length+1)
 have hTf:=(hTS.drewN 1).wide (G:=λk=>F k\/w.heap.size<=k/\k<((W2.setCell ⟨sb',r,none⟩ (.int .i64 ((keys.length:Int)+1))).drew).heap.size) (λk hk=>by
  rcases hk with hk|hk
  ·exact(hFW k hk).imp id (λh1=>⟨h1,by have:=bK.lt k (.inl hk);simpa [World.setCell] using this⟩)
  ·exact .inr ⟨Nat.le_trans hSW.size hk.1,by simpa [World.setCell] using hk.2⟩) (λk hk=>by
  rcases hk with hk|hk
  ·have:=bK.lt k (.inl (.inl hk));simpa [World.setCell] using this
  simpa [World.setCell] using hk.2)
 refine⟨rfl,⟨_,_,_,_,mm,hTf,by simpa using uZ.out,zln,by simpa using zpk, ?_,by simp;omega,hroom, ?_,by simpa using zpl⟩, ?_⟩
 ·have hp:=hPW.more key hnot
  have:=hp.add (by simp) (by omega) (d:=d) (by simpa using Ends.more hPW rfl [key] HD.out)
  simpa [<-HR2.out] using this
 ·intro k hk1
  simp at hk1
  rcases hk1 with hk1|rfl
  ·exact hks k hk1
  exact hk
 have h3:=(hSW.trans hSP hFW)
 exact Since.drew _ (h3.setCell zuf _)
def zge (keys:List ByteArray) (room:Nat) (key:ByteArray) (a:Int) (is:Bool) (keys':List ByteArray):Prop:=
 (zaq keys key a/\0<=a/\is=false/\keys'=keys)\/(zaq keys key (-1)/\room<=keys.length/\a= -1/\is=false/\keys'=keys)\/
  (zaq keys key (-1)/\keys.length<room/\a=keys.length/\is=true/\keys'=keys++ [key])
theorem zod {w B F b keys room} (h:Tab w B F b keys room) (key:ByteArray) (hk:key.size<=maxLen) {a:Int} {is:Bool} {keys':List ByteArray} (ha:zge keys room key a is keys') (hB:B<=w.heap.size):
  Calls Tryz.prog 37 #[.pointer (some ⟨b,0,none⟩), .string key] w λe w'=>e= .returned (.tuple #[.int .i64 a, .bool is])/\
   ∃F',Tab w' B F' b keys' room/\(∀k,F' k->F k\/w.heap.size<=k)/\Since F w w':=by
 rcases ha with⟨h1,h2,rfl,rfl⟩|⟨h1,h2,rfl,rfl,rfl⟩|⟨h1,h2,rfl,rfl,rfl⟩
 ·refine(zxR h key hk a h1 h2).mono ?_
  rintro e w' ⟨rfl,n,rfl⟩
  exact⟨rfl,F,h.drewN n,λk hk=> .inl hk,Since.drewN _ _ (Since.refl _ _)⟩
 ·refine(zua h key hk h1 h2).mono ?_
  rintro e w' ⟨rfl,n,rfl⟩
  exact⟨rfl,F,h.drewN n,λk hk=> .inl hk,Since.drewN _ _ (Since.refl _ _)⟩
 refine(zxS h key hk h1 h2 hB).mono ?_
 rintro e w' ⟨rfl,h3,h4⟩
 exact⟨rfl,_,h3,λk hk=>hk.imp id (·.1),h4⟩
end Go.Proofs.YtnhahkiojbanfaaGreatDoor
namespace Go.Proofs.YtnhahkiojbanfaaGreatDoor
open Go.RowKit
set_option maxRecDepth 100000
set_option maxHeartbeats 16000000
def XQ (Q:Nat->Prop) (g:Nat) (sv mv nv xv:Value) (k:Nat):Prop:=(k=g\/Q k)\/sv.ownBlock=some k\/mv.ownBlock=some k\/nv.ownBlock=some k\/xv.ownBlock=some k
structure jH (W X:World) (Q:Nat->Prop) (g:Nat) (sv mv nv xv:Value) (sl:List zi) (ml:List (List zq)) (nl:List (List Int)) (xl:List Int) (sc mc nc:List (List Value)):Prop where
 below:Below W.heap.size W X
 lo:W.heap.size<=g
 kr:∀k,Q k->k<X.heap.size/\k≠g/\sv.ownBlock≠some k/\mv.ownBlock≠some k/\nv.ownBlock≠some k/\xv.ownBlock≠some k
 box:X.heap[g]? =some (.cells #[sv,mv,nv] 49 (0,0))
 st:yV (XQ Q g sv mv nv xv) X qo 3 W.heap.size 42 sv sl sc
 mo:yV (XQ Q g sv mv nv xv) X bL 1 W.heap.size 32 mv ml mc
 ne:yV (XQ Q g sv mv nv xv) X zbw 1 W.heap.size 31 nv nl nc
 xr:X.ownsRow W.heap.size 3 1 xv xl.length (zo yM xl)
section
variable {W X X1:World} {Q:Nat->Prop} {g:Nat} {sv mv nv xv uo:Value} {sl:List zi} {ml:List (List zq)} {nl:List (List Int)} {xl:List Int} {sc mc nc:List (List Value)}
theorem zre {X:World} {v v':Value} {o:Obj} {k:Nat} (hk:k<X.heap.size) (hv:v.ownBlock≠some k) (h5:∀k,v'.ownBlock=some k->v.ownBlock=some k\/k=(X.alloc o).heap.size):v'.ownBlock≠some k:=λe=>by
 rcases h5 k e with e2|e2
 ·exact hv e2
 simp at e2;omega
theorem jH.call (h:jH W X Q g sv mv nv xv sl ml nl xl sc mc nc) (hb:Below X.heap.size X X1):jH W X1 Q g sv mv nv xv sl ml nl xl sc mc nc:=by
 have hs:Since (λ_=>False) X X1:=xU _ hb
 exact⟨zH h.below hb,h.lo,λk hk=>⟨Nat.lt_of_lt_of_le (h.kr k hk).1 hb.size,(h.kr k hk).2⟩,(hb.block _ (zw h.box)).trans h.box,h.st.step hs (λ_ _ h=>h) (λ_ h=>h.elim) (λ_ h=> .inl h),h.mo.step hs (λ_ _ h=>h) (λ_ h=>h.elim) (λ_ h=> .inl h),h.ne.step hs (λ_ _ h=>h) (λ_ h=>h.elim) (λ_ h=> .inl h),qp h.xr hb⟩
theorem jH.zkK (h:jH W X Q g sv mv nv xv sl ml nl xl sc mc nc) {o:Obj} {x:zi} {cs:List Value} (hx:zW (XQ Q g sv mv nv xv) X (λy=>qo y x cs)) (hc:cs.length=3) (h1:X1.ownsRow W.heap.size 42 3 uo (sl.length+1) (sc.flatten++cs))
  (h4:Since (λk=>sv.ownBlock=some k) (X.alloc o) X1) (h5:∀k,uo.ownBlock=some k->sv.ownBlock=some k\/k=(X.alloc o).heap.size):jH W (X1.setCell ⟨g,0,none⟩ uo) Q g uo mv nv xv (sl++ [x]) ml nl xl (sc++ [cs]) mc nc:=by
 have hg:=zw h.box
 have s1:Since (λk=>sv.ownBlock=some k) X X1:=((Since.refl _ X).alloc o).trans h4 (λk hk=> .inl hk)
 have b1:X1.heap[g]? =some (.cells #[sv,mv,nv] 49 (0,0)):=(s1.block _ hg (λe=>yD h.st.row h.box (by decide) _ e rfl)).trans h.box
 have s2:Since (λk=>k=g\/sv.ownBlock=some k) X (X1.setCell ⟨g,0,none⟩ uo):=(s1.mono (G:=λk=>k=g\/sv.ownBlock=some k) (λ_ _ h=> .inr h)).setCell (p:=⟨g,0,none⟩) (.inl (.inl rfl)) _
 have hG:∀k,(k=g\/sv.ownBlock=some k)->XQ Q g sv mv nv xv k\/X.heap.size<=k:=λk hk=> .inl (hk.elim (λh=> .inl (.inl h)) (λh=> .inr (.inl h)))
 have hF:∀k,XQ Q g uo mv nv xv k->XQ Q g sv mv nv xv k\/X.heap.size<=k:=λk hk=>by
  rcases hk with hk|hk|hk
  ·exact .inl (.inl hk)
  ·rcases h5 k hk with h6|h6
   ·exact .inl (.inr (.inl h6))
   refine .inr ?_;simp at h6;omega
  exact .inl (.inr (.inr hk))
 have zc3:(X1.setCell ⟨g,0,none⟩ uo).ownsRow W.heap.size 42 3 uo (sl.length+1) (sc.flatten++cs):=(Since.setCell (F:=λk=>k=g) (p:=⟨g,0,none⟩) (Since.refl _ X1) (.inl rfl) _).row h1 (λk hk e=>yD h1 b1 (by decide) k hk e)
 refine⟨h.below.trans (s2.below h.below.size (λk hk=>hk.elim (λe=>by rw [e];exact h.lo) (λe=>(h.st.row.lt k e).1))),h.lo,λk hk=>⟨Nat.lt_of_lt_of_le (h.kr k hk).1 s2.size,(h.kr k hk).2.1,zre (h.kr k hk).1 (h.kr k hk).2.2.1 h5,(h.kr k hk).2.2.2⟩, ?_,h.st.push s2 hG hF hx hc zc3,h.mo.step s2 ?_ hG hF,h.ne.step s2 ?_ hG hF,s2.row h.xr ?_⟩
 ·have:=zu b1 0 uo;simpa using this
 ·exact λk hk e=>e.elim (λe=>yD h.mo.row h.box (by decide) k hk e) (λe=>yE h.mo.row h.st.row (by decide) k hk e)
 ·exact λk hk e=>e.elim (λe=>yD h.ne.row h.box (by decide) k hk e) (λe=>yE h.ne.row h.st.row (by decide) k hk e)
 exact λk hk e=>e.elim (λe=>yD h.xr h.box (by decide) k hk e) (λe=>yE h.xr h.st.row (by decide) k hk e)
theorem jH.zkL (h:jH W X Q g sv mv nv xv sl ml nl xl sc mc nc) {o:Obj} {x:Int} {xv':Value} (h1:X1.ownsRow W.heap.size 3 1 xv' (xl.length+1) (zo yM xl++ [.int .i64 x]))
  (h4:Since (λk=>xv.ownBlock=some k) (X.alloc o) X1) (h5:∀k,xv'.ownBlock=some k->xv.ownBlock=some k\/k=(X.alloc o).heap.size):jH W X1 Q g sv mv nv xv' sl ml nl (xl++ [x]) sc mc nc:=by
 have hg:=zw h.box
 have s1:Since (λk=>xv.ownBlock=some k) X X1:=((Since.refl _ X).alloc o).trans h4 (λk hk=> .inl hk)
 have hG:∀k,xv.ownBlock=some k->XQ Q g sv mv nv xv k\/X.heap.size<=k:=λk hk=> .inl (.inr (.inr (.inr (.inr hk))))
 have hF:∀k,XQ Q g sv mv nv xv' k->XQ Q g sv mv nv xv k\/X.heap.size<=k:=λk hk=>by
  rcases hk with hk|hk|hk|hk|hk
  ·exact .inl (.inl hk)
  ·exact .inl (.inr (.inl hk))
  ·exact .inl (.inr (.inr (.inl hk)))
  ·exact .inl (.inr (.inr (.inr (.inl hk))))
  rcases h5 k hk with h6|h6
  ·exact .inl (.inr (.inr (.inr (.inr h6))))
  refine .inr ?_;simp at h6;omega
 refine⟨h.below.trans (s1.below h.below.size (λk hk=>(h.xr.lt k hk).1)),h.lo,λk hk=>⟨Nat.lt_of_lt_of_le (h.kr k hk).1 s1.size,(h.kr k hk).2.1,(h.kr k hk).2.2.1,(h.kr k hk).2.2.2.1,(h.kr k hk).2.2.2.2.1,zre (h.kr k hk).1 (h.kr k hk).2.2.2.2.2 h5⟩,(s1.block _ hg (λe=>yD h.xr h.box (by decide) _ e rfl)).trans h.box,h.st.step s1 ?_ hG hF,h.mo.step s1 ?_ hG hF,h.ne.step s1 ?_ hG hF, ?_⟩
 ·exact λk hk e=>yE h.st.row h.xr (by decide) k hk e
 ·exact λk hk e=>yE h.mo.row h.xr (by decide) k hk e
 ·exact λk hk e=>yE h.ne.row h.xr (by decide) k hk e
 rw [List.length_append,zb5];exact h1
theorem jH.both (h:jH W X Q g sv mv nv xv sl ml nl xl sc mc nc) {x:List zq} {cs:List Value} {mv' uq:Value} (hx:zW (XQ Q g sv mv nv xv) X (λy=>bL y x cs)) (hc:cs.length=1) (s1:Since (λk=>mv.ownBlock=some k\/nv.ownBlock=some k) X X1)
  (r1:X1.ownsRow W.heap.size 32 1 mv' (ml.length+1) (mc.flatten++cs)) (r2:X1.ownsRow W.heap.size 31 1 uq (nl.length+1) (nc.flatten++ [xv])) (h5:∀k,mv'.ownBlock=some k->mv.ownBlock=some k\/X.heap.size<=k)
  (h6:∀k,uq.ownBlock=some k->nv.ownBlock=some k\/X.heap.size<=k):jH W ((X1.setCell ⟨g,1,none⟩ mv').setCell ⟨g,2,none⟩ uq) Q g sv mv' uq (.slice none 0 0) sl (ml++ [x]) (nl++ [xl]) [] sc (mc++ [cs]) (nc++ [[xv]]):=by
 have hg:=zw h.box
 have b1:X1.heap[g]? =some (.cells #[sv,mv,nv] 49 (0,0)):=(s1.block _ hg (λe=>e.elim (λe=>yD h.mo.row h.box (by decide) _ e rfl) (λe=>yD h.ne.row h.box (by decide) _ e rfl))).trans h.box
 have sg:Since (λk=>k=g) X1 ((X1.setCell ⟨g,1,none⟩ mv').setCell ⟨g,2,none⟩ uq):=Since.setCell (F:=λk=>k=g) (p:=⟨g,2,none⟩) (Since.setCell (F:=λk=>k=g) (p:=⟨g,1,none⟩) (Since.refl _ X1) (.inl rfl) _) (.inl rfl) _
 have s2:Since (λk=>k=g\/mv.ownBlock=some k\/nv.ownBlock=some k) X ((X1.setCell ⟨g,1,none⟩ mv').setCell ⟨g,2,none⟩ uq):=(s1.mono (G:=λk=>k=g\/mv.ownBlock=some k\/nv.ownBlock=some k) (λ_ _ h=> .inr h)).trans sg (λk hk=> .inl (.inl hk))
 have hG:∀k,(k=g\/mv.ownBlock=some k\/nv.ownBlock=some k)->XQ Q g sv mv nv xv k\/X.heap.size<=k:=λk hk=> .inl (hk.elim (λh=> .inl (.inl h)) (λh=>h.elim (λh=> .inr (.inr (.inl h))) (λh=> .inr (.inr (.inr (.inl h))))))
 have hF:∀k,XQ Q g sv mv' uq (.slice none 0 0) k->XQ Q g sv mv nv xv k\/X.heap.size<=k:=λk hk=>by
  rcases hk with hk|hk|hk|hk|hk
  ·exact .inl (.inl hk)
  ·exact .inl (.inr (.inl hk))
  ·exact(h5 k hk).imp (λe=> .inr (.inr (.inl e))) id
  ·exact(h6 k hk).imp (λe=> .inr (.inr (.inr (.inl e)))) id
  simp [Value.ownBlock] at hk
 have zc3:=sg.row r1 (λk hk e=>yD r1 b1 (by decide) k hk e)
 have zyZ:=sg.row r2 (λk hk e=>yD r2 b1 (by decide) k hk e)
 have hxx:∀k,xv.ownBlock=some k->¬(k=g\/mv.ownBlock=some k\/nv.ownBlock=some k):=λk hk e=>e.elim (λe=>yD h.xr h.box (by decide) k hk e) (λe=>e.elim (λe=>yE h.xr h.mo.row (by decide) k hk e) (λe=>yE h.xr h.ne.row (by decide) k hk e))
 have rx:=s2.row h.xr hxx
 have hxF:∀k,xv.ownBlock=some k->¬XQ Q g sv mv' uq (.slice none 0 0) k:=λk hk e=>by
  rcases e with(e|e)|e|e|e|e
  ·exact yD h.xr h.box (by decide) k hk e
  ·exact(h.kr k e).2.2.2.2.2 hk
  ·exact yE h.xr h.st.row (by decide) k hk e
  ·exact yE rx zc3 (by decide) k hk e
  ·exact yE rx zyZ (by decide) k hk e
  simp [Value.ownBlock] at e
 have hnew:zW (XQ Q g sv mv' uq (.slice none 0 0)) ((X1.setCell ⟨g,1,none⟩ mv').setCell ⟨g,2,none⟩ uq) (λy=>zbw y xl [xv]):=λy hy=>⟨xv,rfl,gN (hy.row rx hxF)⟩
 refine⟨h.below.trans (s2.below h.below.size (λk hk=>hk.elim (λe=>by rw [e];exact h.lo) (λe=>e.elim (λe=>(h.mo.row.lt k e).1) (λe=>(h.ne.row.lt k e).1)))),h.lo,λk hk=> ?_, ?_,h.st.step s2 ?_ hG hF,h.mo.push s2 hG hF hx hc zc3, ?_,World.ownsRow_nil _ _ _ _⟩
 ·obtain⟨q1,q2,q3,q4,q5,q6⟩:=h.kr k hk
  refine⟨Nat.lt_of_lt_of_le q1 s2.size,q2,q3,λe=> ?_,λe=> ?_,by simp [Value.ownBlock]⟩
  ·exact(h5 k e).elim q4 (λe=>by omega)
  exact(h6 k e).elim q5 (λe=>by omega)
 ·have:=zu (zu b1 1 mv') 2 uq;simpa using this
 ·exact λk hk e=>e.elim (λe=>yD h.st.row h.box (by decide) k hk e) (λe=>e.elim (λe=>yE h.st.row h.mo.row (by decide) k hk e) (λe=>yE h.st.row h.ne.row (by decide) k hk e))
 have h0:=h.ne.step (F':=XQ Q g sv mv' uq (.slice none 0 0)) (Since.refl (λ_=>False) X) (λ_ _ h=>h) (λ_ h=>h.elim) hF
 refine⟨by simp [h.ne.len],λj hj=> ?_, ?_⟩
 ·rw [List.length_append] at hj
  simp only [List.length_cons,List.length_nil] at hj
  by_cases e:j=nl.length
  ·subst e
   rw [jV,show nl.length=nc.length from h.ne.len.symm,jV]
   exact⟨rfl,hnew⟩
  have hj':j<nl.length:=by omega
  rw [j4 hj',j4 (by rw [h.ne.len];exact hj')]
  exact⟨(h.ne.part j hj').1,(h.ne.part j hj').2.step s2 hG hF⟩
 rw [List.length_append,List.flatten_append]
 simpa using zyZ
theorem jH.table (h:jH W X Q g sv mv nv xv sl ml nl xl sc mc nc) {F Q':Nat->Prop} (hs:Since F X X1) (hF:∀k,F k->Q k/\W.heap.size<=k) (hQ:∀k,Q' k->(Q k\/X.heap.size<=k)/\k<X1.heap.size):jH W X1 Q' g sv mv nv xv sl ml nl xl sc mc nc:=by
 have hG:∀k,F k->XQ Q g sv mv nv xv k\/X.heap.size<=k:=λk hk=> .inl (.inl (.inr (hF k hk).1))
 have hF2:∀k,XQ Q' g sv mv nv xv k->XQ Q g sv mv nv xv k\/X.heap.size<=k:=λk hk=>by
  rcases hk with(hk|hk)|hk
  ·exact .inl (.inl (.inl hk))
  ·exact(hQ k hk).1.imp (λe=> .inl (.inr e)) id
  exact .inl (.inr hk)
 have q:=λk (hk:F k)=>h.kr k (hF k hk).1
 refine⟨h.below.trans (hs.below h.below.size (λk hk=>(hF k hk).2)),h.lo,λk hk=>⟨(hQ k hk).2, ?_⟩,(hs.block _ (zw h.box) (λe=>(q _ e).2.1 rfl)).trans h.box,h.st.step hs (λk hk e=>(q k e).2.2.1 hk) hG hF2,h.mo.step hs (λk hk e=>(q k e).2.2.2.1 hk) hG hF2,h.ne.step hs (λk hk e=>(q k e).2.2.2.2.1 hk) hG hF2,hs.row h.xr (λk hk e=>(q k e).2.2.2.2.2 hk)⟩
 rcases(hQ k hk).1 with e|e
 ·exact(h.kr k e).2
 have:=zw h.box
 exact⟨by omega,λe2=>by have:=(h.st.row.lt k e2).2;omega,λe2=>by have:=(h.mo.row.lt k e2).2;omega,λe2=>by have:=(h.ne.row.lt k e2).2;omega,λe2=>by have:=(h.xr.lt k e2).2;omega⟩
theorem jH.blocks (h:jH W X Q g sv mv nv xv sl ml nl xl sc mc nc):∀k,XQ Q g sv mv nv xv k->k<X.heap.size:=λk hk=>by
 rcases hk with(hk|hk)|hk|hk|hk|hk
 ·rw [hk];exact zw h.box
 ·exact(h.kr k hk).1
 ·exact(h.st.row.lt k hk).2
 ·exact(h.mo.row.lt k hk).2
 ·exact(h.ne.row.lt k hk).2
 exact(h.xr.lt k hk).2
theorem jH.zpm {P:World->Prop} (h:zW (XQ Q g sv mv nv xv) X P) (hb:Below X.heap.size X X1):zW (XQ Q g sv mv nv xv) X1 P:=h.step (xU (λ_=>False) hb) (λ_ h=>h.elim) (λ_ h=> .inl h)
theorem jH.z2M {P:World->Prop} (h:zW (XQ Q g sv mv nv xv) X P) {o:Obj} (h4:Since (λk=>sv.ownBlock=some k) (X.alloc o) X1) (h5:∀k,uo.ownBlock=some k->sv.ownBlock=some k\/k=(X.alloc o).heap.size):zW (XQ Q g uo mv nv xv) (X1.setCell ⟨g,0,none⟩ uo) P:=by
 have s1:Since (λk=>sv.ownBlock=some k) X X1:=((Since.refl _ X).alloc o).trans h4 (λk hk=> .inl hk)
 have s2:Since (λk=>k=g\/sv.ownBlock=some k) X (X1.setCell ⟨g,0,none⟩ uo):=(s1.mono (G:=λk=>k=g\/sv.ownBlock=some k) (λ_ _ h=> .inr h)).setCell (p:=⟨g,0,none⟩) (.inl (.inl rfl)) _
 refine h.step s2 (λk hk=> .inl (hk.elim (λh=> .inl (.inl h)) (λh=> .inr (.inl h)))) (λk hk=> ?_)
 rcases hk with hk|hk|hk
 ·exact .inl (.inl hk)
 ·rcases h5 k hk with h6|h6
  ·exact .inl (.inr (.inl h6))
  refine .inr ?_;simp at h6;omega
 exact .inl (.inr (.inr hk))
theorem jH.zw2 {P:World->Prop} (h:zW (XQ Q g sv mv nv xv) X P) {o:Obj} {xv':Value} (h4:Since (λk=>xv.ownBlock=some k) (X.alloc o) X1) (h5:∀k,xv'.ownBlock=some k->xv.ownBlock=some k\/k=(X.alloc o).heap.size):zW (XQ Q g sv mv nv xv') X1 P:=by
 have s1:Since (λk=>xv.ownBlock=some k) X X1:=((Since.refl _ X).alloc o).trans h4 (λk hk=> .inl hk)
 refine h.step s1 (λk hk=> .inl (.inr (.inr (.inr (.inr hk))))) (λk hk=> ?_)
 rcases hk with hk|hk|hk|hk|hk
 ·exact .inl (.inl hk)
 ·exact .inl (.inr (.inl hk))
 ·exact .inl (.inr (.inr (.inl hk)))
 ·exact .inl (.inr (.inr (.inr (.inl hk))))
 rcases h5 k hk with h6|h6
 ·exact .inl (.inr (.inr (.inr (.inr h6))))
 refine .inr ?_;simp at h6;omega
theorem jH.zw3 {P:World->Prop} (h:zW (XQ Q g sv mv nv xv) X P) {F Q':Nat->Prop} (hs:Since F X X1) (hF:∀k,F k->Q k) (hQ:∀k,Q' k->Q k\/X.heap.size<=k):zW (XQ Q' g sv mv nv xv) X1 P:=
 h.step hs (λk hk=> .inl (.inl (.inr (hF k hk)))) (λk hk=>by
  rcases hk with(hk|hk)|hk
  ·exact .inl (.inl (.inl hk))
  ·exact(hQ k hk).imp (λe=> .inl (.inr e)) id
  exact .inl (.inr hk))
theorem zfo {F:Nat->Prop} {B n cap:Nat} {e:TypeId} {a:Option Addr} {l:List zi} {css:List (List Value)} (h:yV F X qo 3 B e (.slice a n cap) l css) {i:Nat} (hi:i<l.length):∃b tv mv,a=some ⟨b,0,none⟩/\b<X.heap.size/\css.getD i [] = [tv,mv, .bool (l.getD i default).bad] /\
  X.cell? ⟨b,i*3,none⟩=some tv/\X.cell? ⟨b,i*3+1,none⟩=some mv/\X.cell? ⟨b,i*3+2,none⟩=some (.bool (l.getD i default).bad)/\zW F X (λy=>zX y (l.getD i default) tv mv):=by
 obtain⟨hlen,haw⟩:=h.part i hi
 obtain⟨tv,mv,hcs, -⟩:=haw.now
 have hrow:=h.row
 obtain⟨b,cap',he, -, -⟩:=uz hrow (by omega)
 cases he
 have hc:∀j,j<3->X.cell? ⟨b,i*3+j,none⟩=(css.getD i [])[j]? :=λj hj=>by
  rw [hrow.cellAt _ (by omega)]
  exact zca (λj hj=>(h.part j (by rw [<-h.len];exact hj)).1) (by rw [h.len];exact hi) hj
 rw [hcs] at hc
 refine⟨b,tv,mv,rfl,(hrow.lt b rfl).2,hcs,hc 0 (by omega),hc 1 (by omega),hc 2 (by omega),λy hy=> ?_⟩
 obtain⟨tv',mv',hcs',hst⟩:=haw y hy
 rw [hcs] at hcs'
 simp only [List.cons.injEq,and_true] at hcs'
 rw [hcs'.1,hcs'.2]
 exact hst
def NxP (B:Nat) (va zv:Value) (ms:List zq) (ns:List zi) (css:List (List Value)) (y:World):Prop:=
 y.ownsRow B 70 3 va ms.length (zo zq.cells ms)/\y.ownsRow B 42 3 zv ns.length css.flatten/\css.length=ns.length/\∀j,j<ns.length->(css.getD j []).length=3/\qo y (ns.getD j default) (css.getD j [])
theorem zrg {w':World} {B:Nat} {va zv:Value} {ms:List zq} {ns:List zi} {css:List (List Value)} {F0:Nat->Prop} (hF:∀k,F0 k->k<B) (h1:w'.ownsRow B 70 3 va ms.length (zo zq.cells ms)) (h2:yV F0 w' qo 3 B 42 zv ns css):zW F0 w' (NxP B va zv ms ns css):=λy hy=>
 ⟨hy.row h1 (λk hk e=>by have:=(h1.lt k hk).1;have:=hF k e;omega),hy.row h2.row (λk hk e=>by have:=(h2.row.lt k hk).1;have:=hF k e;omega),h2.len,λj hj=>⟨(h2.part j hj).1,(h2.part j hj).2 y hy⟩⟩
theorem zrh {F:Nat->Prop} {B n cap:Nat} {va:Value} {a:Option Addr} {ms:List zq} {ns:List zi} {css:List (List Value)} (h:zW F X (NxP B va (.slice a n cap) ms ns css)) {i:Nat} (hi:i<ns.length):∃b tv mv,a=some ⟨b,0,none⟩/\css.getD i [] = [tv,mv, .bool (ns.getD i default).bad] /\
  X.cell? ⟨b,i*3,none⟩=some tv/\X.cell? ⟨b,i*3+1,none⟩=some mv/\X.cell? ⟨b,i*3+2,none⟩=some (.bool (ns.getD i default).bad)/\zW F X (λy=>zX y (ns.getD i default) tv mv):=by
 obtain⟨b,tv,mv,h1, -,h2⟩:=zfo (F:=F) (B:=B) (e:=42) (a:=a) (n:=n) (cap:=cap) (l:=ns) (css:=css) (X:=X) ⟨h.now.2.2.1,λj hj=>⟨(h.now.2.2.2 j hj).1,λy hy=>((h y hy).2.2.2 j hj).2⟩,h.now.2.1⟩ hi
 exact⟨b,tv,mv,h1,h2⟩
theorem jH.fin (h:jH W X Q g sv mv nv xv sl ml nl xl sc mc nc) {B:Nat} (hB:B<=W.heap.size) (hs:Since (λk=>k=g) X X1) (hQ:∀k,k<B->Q k):zW (λk=>k<B) X1 (λy=>wM y ⟨sl,ml,nl⟩ sv mv nv):=λy hy=>by
 have hG:∀k,k=g->XQ Q g sv mv nv xv k\/X.heap.size<=k:=λk hk=> .inl (.inl (.inl hk))
 have hG2:∀k,k<B->XQ Q g sv mv nv xv k\/X1.heap.size<=k:=λk hk=> .inl (.inl (.inr (hQ k hk)))
 have hF2:∀k,False->XQ Q g sv mv nv xv k\/X1.heap.size<=k:=λ_ h=>h.elim
 have hF:∀k,XQ Q g sv mv nv xv k->XQ Q g sv mv nv xv k\/X.heap.size<=k:=λk hk=> .inl hk
 exact⟨((h.st.step hs (λk hk e=>yD h.st.row h.box (by decide) k hk e) hG hF).step hy (λk hk e=>by have:=(h.st.row.lt k hk).1;omega) hG2 hF2).slice,((h.mo.step hs (λk hk e=>yD h.mo.row h.box (by decide) k hk e) hG hF).step hy (λk hk e=>by have:=(h.mo.row.lt k hk).1;omega) hG2 hF2).slice,((h.ne.step hs (λk hk e=>yD h.ne.row h.box (by decide) k hk e) hG hF).step hy (λk hk e=>by have:=(h.ne.row.lt k hk).1;omega) hG2 hF2).slice⟩
end
theorem zri (W:World):jH W (W.alloc (.cells #[.slice none 0 0, .slice none 0 0, .slice none 0 0] 49)) (λk=>k<W.heap.size) W.heap.size (.slice none 0 0) (.slice none 0 0) (.slice none 0 0) (.slice none 0 0) [] [] [] [] [] [] [] :=
 ⟨(Below.refl _ _).alloc (Nat.le_refl _) _,Nat.le_refl _,λk hk=>⟨by simp;omega,by omega,by simp [Value.ownBlock],by simp [Value.ownBlock],by simp [Value.ownBlock],by simp [Value.ownBlock]⟩,yj W _,yV.nil _ _ _ _ _ _,yV.nil _ _ _ _ _ _,yV.nil _ _ _ _ _ _,World.ownsRow_nil _ _ _ _⟩
theorem zjO {y:World} {g:Nat} {a b c:Value} (hy:y.heap[g]? =some (.cells #[a,b,c] 49 (0,0))) (p q r:Value):(((y.setCell ⟨g,0,none⟩ p).setCell ⟨g,1,none⟩ q).setCell ⟨g,2,none⟩ r).heap[g]? =some (.cells #[p,q,r] 49 (0,0))/\Since (λk=>k=g) y (((y.setCell ⟨g,0,none⟩ p).setCell ⟨g,1,none⟩ q).setCell ⟨g,2,none⟩ r):=by
 have h:=zu (zu (zu hy 0 p) 1 q) 2 r
 refine⟨by simpa using h,Since.setCell (F:=λk=>k=g) (p:=⟨g,2,none⟩) (Since.setCell (F:=λk=>k=g) (p:=⟨g,1,none⟩) (Since.setCell (F:=λk=>k=g) (p:=⟨g,0,none⟩) (Since.refl _ y) (.inl rfl) _) (.inl rfl) _) (.inl rfl) _⟩
theorem zoe {α:Type} {f:α->List Int} {b:Nat} :∀ {l:List α},(∀x∈l,(f x).length<=b)->(l.flatMap f).length<=l.length*b:=by
 intro l
 induction l with
 |nil=>intro _;simp
 |cons x l ih=>
 intro h
 have h1:=h x (List.mem_cons_self ..)
 have h2:=ih (λy hy=>h y (List.mem_cons_of_mem _ hy))
 simp only [List.flatMap_cons,List.length_append,List.length_cons,Nat.add_mul]
 omega
theorem zdb {c:zD} {m:zy} {s:zi} (hf:yB c m s=true) (hr:vX s):(bM s).length<=1000000:=by
 have h1:=zaK hf
 have hs:=zaL hf hr
 have h2:1<=c.vars/\c.vars<=4/\c.threads.length<=4:=by
  have h0:=hf
  unfold yB qA at h0
  simp only [Bool.and_eq_true,decide_eq_true_eq] at h0
  have:=xV h0.1.1.1.1.1.1.1.1
  exact⟨this.1,this.2.1,this.2.2.2.2.2⟩
 have h3:=zoe (f:=vG) (b:=519) (l:=s.threads) (λt ht=>by
  have h:=hs.thr t ht
  have h4:=zoe (f:=gQ) (b:=2) (l:=t.buf) (λe _=>by simp [gQ])
  have:=h.len
  unfold vG
  simp only [List.length_append,List.length_map,h.regs,List.length_cons,List.length_nil]
  omega)
 have h5:s.threads.length*519<=4*519:=Nat.mul_le_mul_right _ (by omega)
 unfold bM
 simp only [List.length_cons,List.length_append,List.length_map]
 omega
theorem zjP {c:zD} {m:zy} {s:zi} (hf:yB c m s=true) (hr:vX s):(keyOf s).size<=maxLen:=by
 have:=zdb hf hr
 unfold keyOf maxLen
 rw [strOfNums_size];omega
theorem zui {c:zD} {m:zy} {l:List zi} {t:zi} (hl:∀s∈l,yB c m s=true/\vX s) (ht:yB c m t=true/\vX t):zaq (l.map keyOf) (keyOf t) (if t∈l then(l.idxOf t:Int) else -1):=by
 have hk:∀i,(h:i<l.length)->(l.map keyOf).getD i ByteArray.empty=keyOf l[i] :=λi h=>by
  rw [List.getD_eq_getElem?_getD,List.getElem?_eq_getElem (by simpa using h)];simp
 have inj:∀i,(h:i<l.length)->keyOf l[i] =keyOf t->l[i] =t:=λi h e=>by
  have:=hl _ (List.getElem_mem h)
  exact zuj this.1 ht.1 this.2 ht.2 e
 split
 ·rename_i hm
  have hi:=List.idxOf_lt_length_of_mem hm
  refine .inl ⟨l.idxOf t,by simpa using hi, ?_,rfl,λj hj=> ?_⟩
  ·rw [hk _ hi,List.getElem_idxOf]
  have hjl:j<l.length:=by omega
  rw [hk j hjl]
  intro e
  have e2:=inj j hjl e
  have:=List.not_of_lt_findIdx (p:=(· ==t)) (xs:=l) (i:=j) hj
  simp [e2] at this
 rename_i hm
 refine .inr ⟨rfl,λi hi=> ?_⟩
 have hil:i<l.length:=by simpa using hi
 rw [hk i hil]
 intro e
 exact hm (inj i hil e ▸ List.getElem_mem hil)
theorem zof {c:zD} {m:zy} {l:List zi} {t:zi} {room:Nat} (hl:∀s∈l,yB c m s=true/\vX s) (ht:yB c m t=true/\vX t) (hr:l.length<=room):
  (t∈l/\zge (l.map keyOf) room (keyOf t) (l.idxOf t:Int) false (l.map keyOf)/\putAt l t=(l,l.idxOf t)/\l.idxOf t<room)\/
  (t ∉ l/\room<=l.length/\zge (l.map keyOf) room (keyOf t) (-1) false (l.map keyOf)/\putAt l t=(l++ [t],l.length))\/
  (t ∉ l/\l.length<room/\zge (l.map keyOf) room (keyOf t) (l.length:Int) true ((l++ [t]).map keyOf)/\putAt l t=(l++ [t],l.length)):=by
 have hf:=zui hl ht
 by_cases hm:t∈l
 ·rw [if_pos hm] at hf
  have hi:=List.idxOf_lt_length_of_mem hm
  exact .inl ⟨hm, .inl ⟨hf,by omega,rfl,rfl⟩,by unfold putAt;rw [if_pos hm],by omega⟩
 rw [if_neg hm] at hf
 have hp:putAt l t=(l++ [t],l.length):=by unfold putAt;rw [if_neg hm]
 by_cases h2:room<=l.length
 ·exact .inr (.inl ⟨hm,h2, .inr (.inl ⟨hf,by simpa using h2,rfl,rfl,rfl⟩),hp⟩)
 exact .inr (.inr ⟨hm,by omega, .inr (.inr ⟨hf,by simpa using Nat.lt_of_not_le h2,by simp,rfl,by simp⟩),hp⟩)
def zzc (l:List zi) (t:zi) (room:Nat) (a:Int) (is:Bool) (l2:List zi):Prop:=
 (0<=a/\is=false/\l2=l/\putAt l t=(l,a.toNat)/\a<room)\/(a= -1/\is=false/\putAt l t=(l++ [t],l.length)/\room<=l.length)\/(a=l.length/\is=true/\l2=l++ [t] /\putAt l t=(l++ [t],l.length)/\l.length<room)
theorem zuk {c:zD} {m:zy} {l:List zi} {t:zi} {room:Nat} (hl:∀s∈l,yB c m s=true/\vX s) (ht:yB c m t=true/\vX t) (hr:l.length<=room):∃a is l2,zge (l.map keyOf) room (keyOf t) a is (l2.map keyOf)/\zzc l t room a is l2:=by
 rcases zof hl ht hr with⟨-,h2,h3,h4⟩|⟨-,h2,h3,h4⟩|⟨-,h2,h3,h4⟩
 ·exact⟨_,_,l,h2, .inl ⟨by omega,rfl,rfl,by rw [h3];simp,by omega⟩⟩
 ·exact⟨_,_,l,h3, .inr (.inl ⟨rfl,rfl,h4,h2⟩)⟩
 exact⟨_,_,_,h3, .inr (.inr ⟨rfl,rfl,rfl,h4,h2⟩)⟩
theorem znk {F:Nat->Prop} {X:World} {B:Nat} {e:TypeId} {v:Value} {l:List zi} {css:List (List Value)} (h:yV F X qo 3 B e v l css) {s:zi} (hs:s∈l):vX s:=by
 obtain⟨j,hj,rfl⟩:=zc5 hs
 obtain⟨tv,mv, -,hst⟩:=(h.part j hj).2.now
 exact hst.vX
