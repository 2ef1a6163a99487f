/- Steps. -/
import Derived.BigQuiet
import Derived.StillTailTactics
import Derived.Test.YtnhahkiojbanfaaGreatDoorRqBase
set_option linter.all false
namespace Go.Proofs.YtnhahkiojbanfaaGreatDoor
def Hit (keys:List ByteArray) (slots:List Nat) (key:ByteArray) (j:Nat):Prop:=
 slots.getD j 0=0\/keys.getD (slots.getD j 0 - 1) ByteArray.empty=key
def Ends (keys:List ByteArray) (slots:List Nat) (key:ByteArray) (s d:Nat):Prop:=
 Hit keys slots key ((s+d) % slots.length)/\∀e,e<d->¬Hit keys slots key ((s+e) % slots.length)
structure Placed (st:ByteArray->Nat->Nat) (keys:List ByteArray) (k:Nat) (slots:List Nat):Prop where
 le:k<=keys.length
 nodup:keys.Nodup
 small:∀j,slots.getD j 0<=k
 few:slots.countP (· !=0)<=k
 room:k<slots.length
 at_:∀i,(h:i<k)->∃d,slots.getD ((st (keys[i]'(Nat.lt_of_lt_of_le h le)) slots.length+d) % slots.length) 0=i+1/\
  ∀e,e<d->slots.getD ((st (keys[i]'(Nat.lt_of_lt_of_le h le)) slots.length+e) % slots.length) 0≠0
theorem zhj {p:Nat->Prop} {n:Nat} (h:p n):∃d,p d/\(∀e,e<d->¬p e)/\d<=n:=by
 induction n using Nat.strongRecOn with
 |_ n ih=>
 by_cases hm:∃m,m<n/\p m
 ·obtain⟨m,hlt,hp⟩:=hm
  obtain⟨d,h1,h2,h3⟩:=ih m hlt hp
  exact⟨d,h1,h2,by omega⟩
 exact⟨n,h,λe he hp=>hm ⟨e,he,hp⟩,Nat.le_refl _⟩
theorem circle (s n z:Nat) (hn:0<n) (hz:z<n):∃d,(s+d) % n=z:=by
 refine⟨n*(s+1)+z - s, ?_⟩
 have h1:s<=n*(s+1):=Nat.le_trans (Nat.le_succ s) (Nat.le_mul_of_pos_left _ hn)
 have:s+(n*(s+1)+z - s)=z+n*(s+1):=by omega
 rw [this,Nat.add_mul_mod_self_left,Nat.mod_eq_of_lt hz]
theorem zmw (slots:List Nat) (h:slots.countP (· !=0)<slots.length):∃z,z<slots.length/\slots.getD z 0=0:=by
 induction slots with
 |nil=>simp at h
 |cons a l ih=>
 by_cases ha:a=0
 ·exact⟨0,by simp,by simp [ha]⟩
 have hc:(a::l).countP (· !=0)=l.countP (· !=0)+1:=by simp [ha]
 rw [hc] at h
 obtain⟨z,h1,h2⟩:=ih (by simp at h;omega)
 exact⟨z+1,by simp;omega,by simpa using h2⟩
theorem Placed.ends {st keys k slots} (h:Placed st keys k slots) (key:ByteArray) (s:Nat):∃d,Ends keys slots key s d:=by
 obtain⟨z,hz,h0⟩:=zmw slots (Nat.lt_of_le_of_lt h.few h.room)
 obtain⟨d0,hd0⟩:=circle s slots.length z (by omega) hz
 have hit:Hit keys slots key ((s+d0) % slots.length):=by rw [hd0];exact Or.inl h0
 obtain⟨d,h1,h2,_⟩:=zhj (p:=λd=>Hit keys slots key ((s+d) % slots.length)) hit
 exact⟨d,h1,h2⟩
theorem Placed.none {st keys k slots} (h:Placed st keys k slots) {key:ByteArray} {s d:Nat} (hd:Ends keys slots key s d)
  (hk:∀i,i<k->keys.getD i ByteArray.empty≠key):slots.getD ((s+d) % slots.length) 0=0:=by
 rcases hd.1 with h0|h1
 ·exact h0
 by_cases hz:slots.getD ((s+d) % slots.length) 0=0
 ·exact hz
 have:=h.small ((s+d) % slots.length)
 exact absurd h1 (hk _ (by omega))
theorem Placed.some {st keys k slots} (h:Placed st keys k slots) {i d:Nat} (hi:i<k) {key:ByteArray} (hkey:keys[i]? =some key)
  (hd:Ends keys slots key (st key slots.length) d):slots.getD ((st key slots.length+d) % slots.length) 0=i+1:=by
 have hil:i<keys.length:=Nat.lt_of_lt_of_le hi h.le
 have hki:keys[i] =key:=by rw [List.getElem?_eq_getElem hil] at hkey;simpa using hkey
 obtain⟨d0,h0,h1⟩:=h.at_ i hi
 rw [hki] at h0 h1
 have zy3:Hit keys slots key ((st key slots.length+d0) % slots.length):=by
  right;rw [h0];simp [hkey]
 have hle:d<=d0:=by
  rcases Nat.lt_or_ge d0 d with hlt|hge
  ·exact absurd zy3 (hd.2 d0 hlt)
  exact hge
 have hne:slots.getD ((st key slots.length+d) % slots.length) 0≠0:=by
  rcases Nat.lt_or_eq_of_le hle with hlt|heq
  ·exact h1 d hlt
  rw [heq,h0];omega
 rcases hd.1 with hz|hk
 ·exact absurd hz hne
 have hs:=h.small ((st key slots.length+d) % slots.length)
 generalize slots.getD ((st key slots.length+d) % slots.length) 0=v at*
 have hvl:v - 1<keys.length:=by have:=h.le;omega
 have hkv:keys[v - 1] =keys[i] :=by rw [hki];simpa [List.getD,List.getElem?_eq_getElem hvl] using hk
 have:v - 1=i:=(List.getElem_inj h.nodup).1 hkv
 omega
theorem bR (l:List Nat) (i j a:Nat) (hi:i<l.length):(l.set i a).getD j 0=if i=j then a else l.getD j 0:=by
 by_cases h:i=j<;>simp [List.getD,List.getElem?_set,h]
 subst h;simp [hi]
theorem Placed.add {st keys k slots} (h:Placed st keys k slots) (hk:k<keys.length) {d:Nat} (hr:k+1<slots.length)
  (hd:Ends keys slots keys[k] (st keys[k] slots.length) d):Placed st keys (k+1) (slots.set ((st keys[k] slots.length+d) % slots.length) (k+1)):=by
 have hn:0<slots.length:=by omega
 have hj:=Nat.mod_lt (st keys[k] slots.length+d) hn
 have hz:=h.none hd (λi hi he=>by
  have hil:i<keys.length:=by omega
  rw [List.getD,List.getElem?_eq_getElem hil] at he
  have:=(List.getElem_inj h.nodup).1 (show keys[i] =keys[k] from he)
  omega)
 generalize hjd:(st keys[k] slots.length+d) % slots.length=j at*
 refine⟨hk,h.nodup, ?_, ?_,by simpa using hr, ?_⟩
 ·intro i
  rw [bR _ _ _ _ hj]
  have:=h.small i
  split<;>omega
 ·rw [List.countP_set hj]
  have:slots[j] =0:=by simpa [List.getD,List.getElem?_eq_getElem hj] using hz
  have:=h.few
  simp_all
 intro i hi
 simp only [List.length_set]
 rcases Nat.lt_or_eq_of_le (Nat.le_of_lt_succ hi) with hlt|heq
 ·obtain⟨d0,h0,h1⟩:=h.at_ i hlt
  refine⟨d0, ?_, ?_⟩
  ·rw [bR _ _ _ _ hj,if_neg]
   ·exact h0
   intro e;rw [<-e,hz] at h0;omega
  intro e he
  rw [bR _ _ _ _ hj]
  split
  ·omega
  exact h1 e he
 subst heq
 refine⟨d, ?_, ?_⟩
 ·rw [hjd,bR _ _ _ _ hj];simp
 intro e he
 rw [bR _ _ _ _ hj]
 split
 ·omega
 intro hc
 exact hd.2 e he (Or.inl hc)
theorem Placed.more {st keys k slots} (h:Placed st keys k slots) (key:ByteArray) (hnew:key ∉ keys):Placed st (keys++ [key]) k slots:=by
 refine⟨by have:=h.le;simp;omega, ?_,h.small,h.few,h.room, ?_⟩
 ·rw [List.nodup_append]
  exact⟨h.nodup,by simp,by intro a ha b hb e;simp at hb;subst hb;subst e;exact hnew ha⟩
 intro i hi
 have:i<keys.length:=Nat.lt_of_lt_of_le hi h.le
 rw [List.getElem_append_left this]
 exact h.at_ i hi
theorem Ends.more {st keys k slots} (h:Placed st keys k slots) (hk:k=keys.length) (more:List ByteArray) {key:ByteArray} {s d:Nat} (hd:Ends keys slots key s d):Ends (keys++more) slots key s d:=by
 have he:∀j,Hit (keys++more) slots key j↔Hit keys slots key j:=by
  intro j
  unfold Hit
  by_cases hz:slots.getD j 0=0
  ·simp only [hz,true_or]
  have:=h.small j
  have hl:slots.getD j 0 - 1<keys.length:=by omega
  have:(keys++more).getD (slots.getD j 0 - 1) ByteArray.empty=keys.getD (slots.getD j 0 - 1) ByteArray.empty:=by
   simp only [List.getD_eq_getElem?_getD] at hl ⊢
   rw [List.getElem?_append_left hl]
  rw [this]
 exact⟨(he _).2 hd.1,λe h1 h2=>hd.2 e h1 ((he _).1 h2)⟩
theorem zdQ (st:ByteArray->Nat->Nat) (keys:List ByteArray) (hk:keys.Nodup) (n:Nat) (hn:0<n):Placed st keys 0 (List.replicate n 0):=by
 refine⟨Nat.zero_le _,hk, ?_, ?_,by simpa using hn,by intro i h;omega⟩
 ·intro j
  simp only [List.getD,List.getElem?_replicate];split<;>simp
 simp [List.countP_replicate]
end Go.Proofs.YtnhahkiojbanfaaGreatDoor
namespace Go.Proofs.YtnhahkiojbanfaaGreatDoor
open Go.RowKit
set_option maxRecDepth 100000
set_option maxHeartbeats 16000000
def za0 (n:Int) (c:UInt8):Int:=IntKind.u64.wrap (bits .xor .u64 n (c.toNat:Int)*1099511628211)
def jk (l:List UInt8):Int:=l.foldl za0 14695981039346656037
theorem zhk (l:List UInt8) (c:UInt8):jk (l++ [c])=za0 (jk l) c:=by simp [jk]
theorem zoz (s:ByteArray) (k:Nat) (h:k<s.size):s.data.toList.take (k+1)=s.data.toList.take k++ [s[k]] :=by
 rw [List.take_succ_eq_append_getElem (by simpa using h)];rfl
theorem zgh (n:Int) (c:UInt8):0<=za0 n c/\za0 n c<18446744073709551616:=by
 unfold za0 IntKind.wrap;simp [IntKind.signed,IntKind.bits];omega
theorem zby (l:List UInt8):0<=jk l/\jk l<18446744073709551616:=by
 unfold jk
 generalize hn:(14695981039346656037:Int)=n
 have h:0<=n/\n<18446744073709551616:=by omega
 clear hn
 induction l generalizing n with
 |nil=>exact h
 |cons c l ih=>exact ih _ (zgh _ _)
def za1 (s:ByteArray):Int:=bits .xor .u64 (jk s.data.toList) (jk s.data.toList / 536870912)
theorem zjd (s:ByteArray):0<=za1 s/\za1 s<18446744073709551616:=by
 have h:=zby s.data.toList
 unfold za1
 rw [u64_xor _ _ h.1 h.2 (by omega) (by omega)]
 have:=Nat.xor_lt_two_pow (n:=64) (x:=(jk s.data.toList).toNat) (y:=(jk s.data.toList / 536870912).toNat) (by omega) (by omega)
 omega
theorem zqA (s:ByteArray) (w:World) (hs:s.size<=maxLen):
  Calls Tryz.prog 79 #[.string s] w λe w'=>e= .returned (.int .u64 (za1 s))/\w=w':=by
 unfold maxLen at hs
 go_enter Tryz.func79,Tryz.ntmps79
 go_wp2
 go_loop [3,7] (λn i=>∃k:Nat,k<=s.size/\i= .int .i64 k/\n= .int .u64 (jk (s.data.toList.take k))) (λ_ i=>s.size - (intOf i).toNat)
 case atStart=>exact⟨0,Nat.zero_le _,rfl,rfl⟩
 case round=>
 obtain⟨k,hk,rfl,rfl⟩:=hrel
 have hr:=zby (s.data.toList.take k)
 by_cases hlt:k<s.size
 ·have hu:IntKind.u64.wrap (s[k].toNat:Int)=(s[k].toNat:Int):=by have:=s[k].toNat_lt;unfold IntKind.wrap;simp [IntKind.signed,IntKind.bits];omega
  go_wp2
  go_round
  case rel=>exact⟨k+1,by omega,by go_num,by rw [zoz s k hlt,zhk];rfl⟩
  case measure=>simp [intOf];omega
 go_wp2
 go_ret
 have e:s.data.toList.take k=s.data.toList:=List.take_of_length_le (by simp;omega)
 exact⟨by simp only [e];rfl,rfl⟩
def zaE (l:List ByteArray):List Value:=l.map Value.string
def gF (l:List Nat):List Value:=l.map λn:Nat=>Value.int .i64 (n:Int)
structure vT (w:World) (B:Nat) (F:Nat->Prop) (b:Nat) (kv:Value) (sb sc:Nat) (keys:List ByteArray) (slots:List Nat) (room:Nat):Prop where
 block:w.heap[b]? =some (.cells #[kv, .slice (some ⟨sb,0,none⟩) slots.length sc, .int .i64 room] 122 (0,0))
 zat:w.ownsRow B 9 1 kv keys.length (zaE keys)
 zaR:w.ownsRow B 3 1 (.slice (some ⟨sb,0,none⟩) slots.length sc) slots.length (gF slots)
 fb:F b
 fsb:F sb
 fk:∀k,kv.ownBlock=some k->F k/\k≠b/\k≠sb
 ne:sb≠b
 base:B<=b
 lt:∀k,F k->k<w.heap.size
def TabAt (w:World) (B:Nat) (F:Nat->Prop) (b:Nat) (keys:List ByteArray) (slots:List Nat) (room:Nat):Prop:=
 ∃kv sb sc,vT w B F b kv sb sc keys slots room
def qX (key:ByteArray) (n:Nat):Nat:=(za1 key).toNat % n
theorem zkA (x:Int) (h0:0<=x) (h1:x<18446744073709551616) (m n:Nat) (hn:n=2 ^ m) (hm:n<9223372036854775808):
  bits .and .u64 x ((n:Int) - 1)=((x.toNat % n:Nat):Int):=by
 have hp:0<n:=by rw [hn];exact Nat.two_pow_pos m
 rw [u64_and x ((n:Int) - 1) h0 h1 (by omega) (by omega)]
 have:((n:Int) - 1).toNat=n - 1:=by omega
 rw [this]
 subst hn
 rw [Nat.and_two_pow_sub_one_eq_mod]
theorem zbM (w:World) (B:Nat) (F:Nat->Prop) (b:Nat) (keys:List ByteArray) (slots:List Nat) (room:Nat) (h:TabAt w B F b keys slots room)
  (key:ByteArray) (hk:key.size<=maxLen) (d m r:Nat) (hn:slots.length=2 ^ m) (hm:slots.length<4294967296)
  (hd:Ends keys slots key (qX key slots.length) d) (hv:∀j,slots.getD j 0<=keys.length) (hr:r=(qX key slots.length+d) % slots.length):
  Calls Tryz.prog 60 #[.pointer (some ⟨b,0,none⟩), .string key] w λe w'=>e= .returned (.int .i64 (r:Int))/\w=w':=by
 obtain⟨kv,sb,sc,hb,hko,hso, -, -,hkb,hsb, -, -⟩:=h
 have hc1:w.cell? ⟨b,1,none⟩=some (.slice (some ⟨sb,0,none⟩) slots.length sc):=ze hb 1
 have hc0:w.cell? ⟨b,0,none⟩=some kv:=ze hb 0
 have hs0:∀j,j<slots.length->w.cell? ⟨sb,j,none⟩=some (.int .i64 (slots.getD j 0:Nat)):=by
  intro j hj
  rw [hso.cellAt j (by omega)]
  simp [gF,List.getElem?_map,List.getD,List.getElem?_eq_getElem hj]
 have hle:=hv
 have hkc:∀j,j<keys.length->∃g gN,kv= .slice (some ⟨g,0,none⟩) keys.length gN/\keys.length<=9223372036854775807/\w.cell? ⟨g,j,none⟩=some (.string (keys.getD j ByteArray.empty)):=by
  intro j hj
  obtain⟨g,cap,rfl,h1,h2⟩:=jU hko (by omega)
  refine⟨g,cap,rfl,by unfold maxLen at h2;omega, ?_⟩
  rw [hko.cellAt j (by omega)]
  simp [zaE,List.getElem?_map,List.getD,List.getElem?_eq_getElem hj]
 have hp:0<slots.length:=by rw [hn];exact Nat.two_pow_pos m
 have hh:=zjd key
 obtain⟨s0,hs⟩:∃s0,s0=qX key slots.length:=⟨_,rfl⟩
 have zwb:bits .and .u64 (za1 key) ((slots.length:Int) - 1)=(s0:Int):=by
  rw [hs];exact zkA (za1 key) hh.1 hh.2 m slots.length hn (by omega)
 have zo0:∀j:Nat,j<slots.length->bits .and .u64 ((j:Int)+1) ((slots.length:Int) - 1)=(((j+1) % slots.length:Nat):Int):=by
  intro j hj
  rw [zkA ((j:Int)+1) (by omega) (by omega) m slots.length hn (by omega)]
  congr 2
 have hs1:s0<slots.length:=by rw [hs];exact Nat.mod_lt _ hp
 rw [<-hs] at hd hr
 obtain⟨hd1,hd2⟩:=hd
 have HR:Hid (r=(s0+d) % slots.length):=hr
 have hk':=hk
 unfold maxLen at hk'
 clear hn hko hkb hsb hb hso hs hr hv hh
 go_enter Tryz.func60,Tryz.ntmps60
 go_wp2
 go_step3
 go_wp2_with(go_at_call 79;refine(zqA _ _ hk).mono ?_;rintro e w' ⟨rfl,rfl⟩)
 go_step3
 go_wp2
 clear zwb
 go_loopg [6] d (λg s6 wr=>wr=w/\∃e j:Nat,e<=d/\Hid (g=d - e)/\s6= .int .u64 j/\Hid (j=(s0+e) % slots.length)/\j<slots.length)
 case atStart=>exact⟨rfl,0,s0,Nat.zero_le _,rfl,rfl,by simp [Hid,Nat.mod_eq_of_lt hs1],hs1⟩
 case round=>
 obtain⟨rfl,e,j,he,HG,rfl,HJ,hj⟩:=hrel
 have hcell:=hs0 j hj
 have hlj:=hle j
 have hm2:=zo0 j hj
 obtain⟨v,hv⟩:∃v,v=slots.getD j 0:=⟨_,rfl⟩
 rw [<-hv] at hcell hlj
 have hlt:=Nat.mod_lt (j+1) hp
 obtain⟨j',hj'⟩:∃j',j'=(j+1) % slots.length:=⟨_,rfl⟩
 rw [<-hj'] at hm2 hlt
 have HV:=qh hv
 have HJ':=qh hj'
 clear hv hj' hs0 hle zo0
 rcases v with _|u
 ·clear hkc
  go_wp2
  (try rw [Exit.noGoto_ret]);go_ret
  have:e=d:=by
   by_cases hed:e=d
   ·exact hed
   exact absurd (Or.inl (by rw [<-HJ.out];exact HV.out.symm)) (hd2 e (by omega))
  subst this
  refine⟨?_,rfl⟩
  rw [HR.out, <-HJ.out];rfl
 obtain⟨g,gN,rfl,hkl,zlu⟩:=hkc u (by omega)
 clear hkc
 have HH:Hid (Hit keys slots key j↔keys.getD u ByteArray.empty=key):=by
  unfold Hid Hit;rw [<-HV.out];simp
 obtain⟨ku,hku⟩:∃ku,ku=keys.getD u ByteArray.empty:=⟨_,rfl⟩
 rw [<-hku] at zlu HH
 clear hku
 by_cases hkey:ku=key
 ·subst hkey
  go_wp2
  (try rw [Exit.noGoto_ret]);go_ret
  have:e=d:=by
   by_cases hed:e=d
   ·exact hed
   exact absurd (by rw [<-HJ.out];exact HH.out.2 trivial) (hd2 e (by omega))
  subst this
  refine⟨?_,rfl⟩
  rw [HR.out, <-HJ.out];rfl
 have hkb:(ku.toList==key.toList)=false:=zq8 hkey
 go_wp2
 have:e<d:=by
  by_cases hed:e=d
  ·subst hed;rw [<-HJ.out] at hd1;exact absurd (HH.out.1 hd1) hkey
  omega
 go_roundg (gk - 1)
 case measure=>rw [HG.out];omega
 case rel=>exact⟨rfl,e+1,j',by omega,by rw [HG.out];simp [Hid];omega,rfl,by rw [HJ'.out,HJ.out];simp [Hid,Nat.add_assoc],hlt⟩
theorem vT.since {w w':World} {B:Nat} {F G:Nat->Prop} {b kv sb sc keys slots room} (h:vT w B F b kv sb sc keys slots room) (hs:Since G w w') (hG:∀k,F k->¬G k):vT w' B F b kv sb sc keys slots room:=
 ⟨(hs.block b (h.lt b h.fb) (hG b h.fb)).trans h.block,hs.row h.zat (λk hk=>hG k (h.fk k hk).1),hs.row h.zaR (λk hk=>by simp [Value.ownBlock] at hk;exact hG k (hk ▸ h.fsb)),h.fb,h.fsb,h.fk,h.ne,h.base,λk hk=>Nat.lt_of_lt_of_le (h.lt k hk) hs.size⟩
theorem vT.drewN {w:World} {B:Nat} {F:Nat->Prop} {b kv sb sc keys slots room} (h:vT w B F b kv sb sc keys slots room) (n:Nat):vT (w.drewN n) B F b kv sb sc keys slots room:=
 h.since (Since.drewN (λ_=>False) n (Since.refl _ _)) (λ_ _ h=>h)
theorem TabAt.drewN {w:World} {B:Nat} {F:Nat->Prop} {b keys slots room} (h:TabAt w B F b keys slots room) (n:Nat):TabAt (w.drewN n) B F b keys slots room:=
 let ⟨kv,sb,sc,h⟩:=h;⟨kv,sb,sc,h.drewN n⟩
theorem TabAt.zwc {w B F b keys slots room} (h:TabAt w B F b keys slots room):
  ∃a cap,w.cell? ⟨b,0,none⟩=some (.slice a keys.length cap)/\keys.length<=9223372036854775807/\
   ∀j,j<keys.length->∃g,a=some ⟨g,0,none⟩/\w.cell? ⟨g,j,none⟩=some (.string (keys.getD j ByteArray.empty)):=by
 obtain⟨kv,sb,sc,hb,hko,hso, -, -,hkb,hsb, -, -⟩:=h
 obtain⟨a,cap,rfl,h1,h2⟩:=xB hko
 refine⟨a,cap,ze hb 0,by unfold maxLen at h2;omega, ?_⟩
 intro j hj
 obtain⟨g,cap',he, -, -⟩:=jU hko (by omega)
 cases he
 refine⟨g,rfl, ?_⟩
 rw [hko.cellAt j (by omega)]
 simp [zaE,List.getElem?_map,List.getD,List.getElem?_eq_getElem hj]
theorem TabAt.zv6 {w B F b keys slots room} (h:TabAt w B F b keys slots room):
  ∃sb sc,w.cell? ⟨b,1,none⟩=some (.slice (some ⟨sb,0,none⟩) slots.length sc)/\slots.length<=9223372036854775807/\
   ∀j,j<slots.length->w.cell? ⟨sb,j,none⟩=some (.int .i64 (slots.getD j 0:Nat)):=by
 obtain⟨kv,sb,sc,hb,hko,hso, -, -,hkb,hsb, -, -⟩:=h
 obtain⟨a,cap,he,h1,h2⟩:=xB hso
 cases he
 refine⟨sb,sc,ze hb 1,by unfold maxLen at h2;omega, ?_⟩
 intro j hj
 rw [hso.cellAt j (by omega)]
 simp [gF,List.getElem?_map,List.getD,List.getElem?_eq_getElem hj]
theorem zpu {w B F b keys slots room} (h:TabAt w B F b keys slots room) (key:ByteArray) (hk:key.size<=maxLen) (d m r v:Nat) (hn:slots.length=2 ^ m) (hm:slots.length<4294967296)
  (hd:Ends keys slots key (qX key slots.length) d) (hv:∀j,slots.getD j 0<=keys.length) (hr:r=(qX key slots.length+d) % slots.length) (hvr:v=slots.getD r 0):
  Calls Tryz.prog 58 #[.pointer (some ⟨b,0,none⟩), .string key] w λe w'=>e= .returned (.int .i64 ((v:Int) - 1))/\∃n,w'=w.drewN n:=by
 have hs:=λn=>zbM (w.drewN n) B F b keys slots room (h.drewN n) key hk d m r hn hm hd hv hr
 obtain⟨sb,sc,hc,hl,hcell⟩:=h.zv6
 have hrn:r<slots.length:=by rw [hr];exact Nat.mod_lt _ (by rw [hn];exact Nat.two_pow_pos m)
 have hcell':=hcell r hrn
 rw [<-hvr] at hcell'
 have hv2:v<=keys.length:=by rw [hvr];exact hv r
 obtain⟨_,_, -,hkl, -⟩:=h.zwc
 clear hcell hvr hr hv hd hn h
 go_enter Tryz.func58,Tryz.ntmps58
 go_wp2
 go_quiet ((go_at_call 60;exact Calls.quiet_of_same ((hs _).mono λ_ _ ⟨a,b⟩=>⟨a,b.symm⟩)))
 go_wp2
 go_ret
 exact⟨rfl,_,rfl⟩
theorem zg1:(Tryz.prog.info? 3).map (λi=>(i.zero,i.size,i.bytes))=some (some (.int .i64 0),1,8):=by kernel_rfl
theorem zg5:(Tryz.prog.info? 9).map (λi=>(i.zero,i.size,i.bytes))=some (some (.string ByteArray.empty),1,16):=by kernel_rfl
theorem zg2 (n:Nat):(madeCells (Value.int .i64 0).cells (n*1)).toList=gF (List.replicate n 0):=by
 apply List.ext_getElem?
 intro i
 simp only [madeCells,gF,Nat.mul_one]
 by_cases h:i<n<;>simp [h,Value.cells,Nat.mod_one]
theorem vT.store {w:World} {B:Nat} {F:Nat->Prop} {b kv sb sc keys slots room} (h:vT w B F b kv sb sc keys slots room) (r x:Nat):
  vT (w.setCell ⟨sb,r,none⟩ (.int .i64 (x:Int))) B F b kv sb sc keys (slots.set r x) room:=by
 refine⟨?_, ?_, ?_,h.fb,h.fsb,h.fk,h.ne,h.base, ?_⟩
 ·rw [Below.heap_setCell _ _ _ _ (λe=>h.ne e.symm)];simpa using h.block
 ·exact(Since.setCell (F:=λk=>k=sb) (Since.refl _ _) (.inl rfl) _).row h.zat (λk hk=>(h.fk k hk).2.2)
 ·have:=(h.zaR.stored r (.int .i64 (x:Int))).1
  simpa [gF,List.map_set] using this
 intro k hk;simpa [World.setCell] using h.lt k hk
theorem vT.slots {w:World} {B:Nat} {F:Nat->Prop} {b kv sb sc keys slots room} (h:vT w B F b kv sb sc keys slots room) {sl:List Nat} {sb' sc':Nat}
  (hs:w.ownsRow B 3 1 (.slice (some ⟨sb',0,none⟩) sl.length sc') sl.length (gF sl)) (hne:sb'≠b) (hk:∀k,kv.ownBlock=some k->k≠sb') (hF:F sb'):
  vT (w.setCell ⟨b,1,none⟩ (.slice (some ⟨sb',0,none⟩) sl.length sc')) B F b kv sb' sc' keys sl room:=by
 refine⟨?_, ?_, ?_,h.fb,hF,λk hkk=>⟨(h.fk k hkk).1,(h.fk k hkk).2.1,hk k hkk⟩,hne,h.base, ?_⟩
 ·rw [zD h.block];simp
 ·exact(Since.setCell (F:=λk=>k=b) (Since.refl _ _) (.inl rfl) _).row h.zat (λk hk=>(h.fk k hk).2.1)
 ·exact(Since.setCell (F:=λk=>k=b) (Since.refl _ _) (.inl rfl) _).row hs (λk hk=>by simp [Value.ownBlock] at hk;omega)
 intro k hk;simpa [World.setCell] using h.lt k hk
theorem vT.wide {w:World} {B:Nat} {F G:Nat->Prop} {b kv sb sc keys slots room} (h:vT w B F b kv sb sc keys slots room) (hG:∀k,F k->G k) (hl:∀k,G k->k<w.heap.size):vT w B G b kv sb sc keys slots room:=
 ⟨h.block,h.zat,h.zaR,hG _ h.fb,hG _ h.fsb,λk hk=>⟨hG _ (h.fk k hk).1,(h.fk k hk).2⟩,h.ne,h.base,hl⟩
theorem zpz {w:World} {B:Nat} {F:Nat->Prop} {b kv sb sc keys slots room} (h:vT w B F b kv sb sc keys slots room) (m:Nat) (hn:slots.length=2 ^ m) (hm:slots.length<1073741824) (hB:B<=w.heap.size)
  (hnd:keys.Nodup) (hkl:keys.length<=slots.length) (hks:∀k∈keys,k.size<=maxLen):
  Calls Tryz.prog 59 #[.pointer (some ⟨b,0,none⟩)] w λe w'=>e= .returned (.tuple #[])/\
   ∃sb' sc' zje,vT w' B (λk=>F k\/k=w.heap.size) b kv sb' sc' keys zje room/\zje.length=2*slots.length/\Placed qX keys keys.length zje/\Since F w w':=by
 obtain⟨ka,gN,rfl,zlu,zez⟩:=xB h.zat
 obtain⟨i0,hi,hz0,hz1,hz2⟩:=info_parts zg1
 have hc1:w.cell? ⟨b,1,none⟩=some (.slice (some ⟨sb,0,none⟩) slots.length sc):=ze h.block 1
 have hb:=zy h.block
 have HN:=qh hn
 have h2n:0<slots.length:=by rw [hn];exact Nat.two_pow_pos m
 clear hn
 have hb2:i0.bytes*(2*slots.length)<=281474976710656:=by rw [hz2];omega
 clear hz2
 unfold maxLen at zez
 go_enter Tryz.func59,Tryz.ntmps59
 go_wp2_with(at_make;refine wpList_make_full _ rfl _ _ 31 rfl B 3 i0 (.int .i64 0) 1 Tryz.underlying31 hi hz0 hz1 .i64 .i64 _ _ (2*slots.length) rfl rfl (by omega) (by omega) hb2 (by unfold maxLen;omega) hB ?_;intro w1 hown1 zey;have hc2:w1.cell? ⟨b,1,none⟩=some (.slice (some ⟨sb,0,none⟩) slots.length sc):=zey.cell hc1 (by simp);have hf2:w1.frozen? ⟨b,1,none⟩=false:=(World.frozen?_of_block (zey.block b hb (by simp))).trans (zK h.block 1);have hc0:w1.cell? ⟨b,0,none⟩=some (.slice ka keys.length gN):=zey.cell (ze h.block 0) (by simp))
 go_loopg [19] keys.length (λg s19 wr=>∃(i:Nat) (sl:List Nat),i<=keys.length/\Hid (g=keys.length - i)/\s19= .int .i64 i/\
  vT wr B (λk=>F k\/k=w.heap.size) b (.slice ka keys.length gN) w.heap.size (2*slots.length) keys sl room/\Hid (sl.length=2*slots.length)/\Placed qX keys i sl/\Since (λk=>F k) w wr)
 case atStart=>
  have hS1:Since (λ_=>False) w w1:=(Since.refl _ _).grown zey (by simp)
  have hz:w.heap.size<w1.heap.size:=by
   have:=hown1.lt w.heap.size (by simp [Value.ownBlock])
   omega
  have hr2:w1.ownsRow B 3 1 (.slice (some ⟨w.heap.size,0,none⟩) (List.replicate (2*slots.length) 0).length (2*slots.length)) (List.replicate (2*slots.length) 0).length (gF (List.replicate (2*slots.length) 0)):=by
   rw [<-zg2,List.length_replicate];exact hown1
  have hT1:=((h.since hS1 (λ_ _ h=>h)).wide (G:=λk=>F k\/k=w.heap.size) (λ_ h=> .inl h) (by rintro k (hk|rfl);exact Nat.lt_of_lt_of_le (h.lt k hk) hS1.size;exact hz)).slots hr2 (by omega) (λk hk=>by have:=h.lt k (h.fk k hk).1;omega) (.inr rfl)
  rw [List.length_replicate] at hT1
  refine⟨0,List.replicate (2*slots.length) 0,Nat.zero_le _,by simp [Hid],by simp,hT1,by simp [Hid],zdQ _ _ hnd _ (by omega), ?_⟩
  exact(hS1.mono (λ_ _ h=>h.elim)).setCell (.inl h.fb) _
 case round=>
 obtain⟨i,sl,hi1,HG,rfl,hT,HL,hP,hS⟩:=hrel
 by_cases hlt:i<keys.length
 rotate_left
 ·go_wp2
  go_end0
  have:i=keys.length:=by omega
  subst this
  exact⟨rfl,_,_,sl,hT,HL.out,hP,hS⟩
 obtain⟨kb,cap',he, -, -⟩:=jU hT.zat (by omega)
 obtain⟨d,hd⟩:=hP.ends keys[i] (qX keys[i] sl.length)
 have hsl:0<sl.length:=by rw [HL.out];omega
 obtain⟨r,hr⟩:∃r,r=(qX keys[i] sl.length+d) % sl.length:=⟨_,rfl⟩
 have hrl:r<sl.length:=by rw [hr];exact Nat.mod_lt _ hsl
 have hcall:=λn=>(zbM (wr.drewN n) B _ b keys sl room ⟨_,_,_,hT.drewN n⟩ keys[i] (hks _ (List.getElem_mem hlt)) d (m+1) r (by rw [HL.out,HN.out,Nat.pow_succ];omega) (by rw [HL.out];omega) hd (λj=>Nat.le_trans (hP.small j) hi1) hr).mono (R':=λe w'=>e= .returned (.int .i64 (r:Int))/\w'=wr.drewN n) (λ_ _ ⟨a,b⟩=>⟨a,b.symm⟩)
 have HR:=qh hr
 have HD:=qh hd
 have hkey:wr.cell? ⟨kb,i,none⟩=some (.string keys[i]):=by
  rw [he] at hT
  rw [hT.zat.cellAt i (by omega)]
  simp [zaE,List.getElem?_eq_getElem hlt]
 have hce:∃v,wr.cell? ⟨w.heap.size,r,none⟩=some v:=by
  rw [hT.zaR.cellAt r (by omega)]
  simp [gF,List.getElem?_eq_getElem hrl]
 obtain⟨v0,hce⟩:=hce
 have hfz:wr.frozen? ⟨w.heap.size,r,none⟩=false:=hT.zaR.frozenAt r
 have z1g:wr.cell? ⟨b,1,none⟩=some (.slice (some ⟨w.heap.size,0,none⟩) sl.length (2*slots.length)):=ze hT.block 1
 have HE:Hid (ka=some ⟨kb,0,none⟩/\True):=by simpa [Hid] using (show ka=some ⟨kb,0,none⟩ from by cases he;rfl)
 obtain rfl:=HE.out.1
 have hkb:keys.length<=9223372036854775807:=by omega
 have hw64:IntKind.i64.wrap ((i:Int)+1)=(i:Int)+1:=IntWalk.i64_in _ (by omega)
 clear hr hd hc1 hc2 hf2 hc0 zey hown1 he
 obtain⟨key,zrQ⟩:∃key,key=keys[i] :=⟨_,rfl⟩
 rw [<-zrQ] at hkey hcall
 clear zrQ
 go_wp2
 refine wp_region_still_tail 10 (by kernel_rfl) (by kernel_rfl) ?_
 simp only [List.take_succ_cons,List.take_zero,List.drop_succ_cons,List.drop_zero]
 repeat still_step
 still_call (hcall 1)
 repeat still_step
 refine wpStill_nil ?_
 change wpList _ _ _ _ _ wr.drew
 go_wp2
 go_roundg (gk - 1)
 case measure=>rw [HG.out];omega
 case rel=>
 refine⟨i+1,sl.set r (i+1),by omega,by rw [HG.out];simp [Hid];omega,by simp, ?_,by simpa [Hid] using HL.out, ?_, ?_⟩
 ·exact(hT.store r (i+1)).drewN 1
 ·have:=hP.add hlt (by rw [HL.out];omega) HD.out
  rw [<-HR.out] at this;exact this
 exact Since.drew _ (hS.setCell (.inr (Nat.le_refl _)) _)
