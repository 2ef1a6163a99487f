/- Steps. -/
import Derived.Test.YteggflahafiieaaGreatDoorZgWalk7
set_option linter.all false
namespace Go.Proofs.YteggflahafiieaaGreatDoor
open Go.RowKit
set_option maxRecDepth 100000
set_option maxHeartbeats 16000000
def uT:Code->Code| .seq _ b=>b|c=>c
def zv4:Code->Code| .seq a _=>a|c=>c
def cIn:Code->Code| .block _ c=>c| .loop c=>c|c=>c
noncomputable def sfB:Code:=cIn (zv4 (uT (cIn (cIn (uT (zv4 (uT (uT (uT (uT (uT (uT ((Tryz.f3.body).getD .skip)))))))))))))
noncomputable def zq1:Code:=zv4 (uT (uT sfB))
noncomputable def zg8:Code:=uT (uT (uT (uT (uT sfB))))
theorem zx7 {P:Program} {K:Act->World->Prop} {c c':Code} {Q:Exit->Act->World->Prop} {a:Act} {w:World} (h:∀a w,Code.wp P c Q a w->K a w) (e:c=c') (hw:Code.wp P c' Q a w):K a w:=h a w (by rw [e];exact hw)
theorem z2E {P:Program} {c c':Code} {Q:Exit->Act->World->Prop} {a:Act} {w:World} (e:c=c') (hw:Code.wp P c' Q a w):Code.wp P c Q a w:=by rw [e];exact hw
theorem z6r {s0 s1 s2 s3 s4 s5 s6 s7 s8 s9 s14 s15 s16 s17 s18 s19 s20 s21 s22 s23 s24 s25 s26 s27 s28 s29 s30 s31 s32 s33 s34 s35 s36 s37 s38 s39 s40 s41 s42 s43 s44 s45 s46 s47 s48 s49 s50 s51 s52 s53 s54 s55 s56 s57 s58 s59 s60 s61 s62 s63 s64 s65 s66 s67 s68 s69 s70 s71 s72 s73 s74 s75 s76 s77 s78 s79 s80 s81 s82 s83 s84 s85 s86 s87 s88 s89 s90 s91 s92 s93 s94 s95 s96 s97 s98 s99 zfz zf0 zf1 zf2 zf3 zf4 zf5 zf6 zf7 zf8 zf9 zdG zdH zdI zdJ zdK zdL zdM zdN zdO zdP zdQ zdR zdS zdT zdU zdV zdW zdX zdY zdZ zhj zhk zhl zhm zhn zho zhp zhq zhr zhs zht zhu zhv zhw zhx zhy zhz zh0 zh1 zh2 zh3 zh4 zh5 zh6 zh7 zh8 zh9 zhA zhB zhC zhD zhE zhF zhG zhH zhI zhJ zhK zhL zhM zhN zhO zhP zhQ zhR zhS zhT zhU zhV zhW zhX zhY zhZ zia zib zic zid zie zif zih zii zij zik zil zim zin zio ziq zir zis zit ziu ziv ziw zix ziy ziz zi0 zi1 zi2 zi3 zi4 zi5 zi6 zi7 zi8 zi9 ziA ziB ziC ziD ziE ziF ziG ziH ziI ziJ ziK ziL ziM ziN ziO ziP ziQ ziR ziS ziT ziU ziV ziW ziX ziY ziZ zja zjb zjc zjd zje zea:Value} {U1:World} {gs gt mb wW mq vc i ix rn rc xc ab ao bb bo_ al abc bl bbc:Nat} {aba bba:Option Addr} {apc x0 x1 x2 x3 bpc y0 y1 y2 y3:Int}
  (CJ:Hid (∀y,Below U1.heap.size U1 y->y.cell? ⟨gs,0,none⟩=some (.slice (some ⟨ab,ao,none⟩) rn rc)/\y.cell? ⟨gt,0,none⟩=some (.slice (some ⟨bb,bo_,none⟩) rn xc)/\y.cell? ⟨ab,ao+ix*6,none⟩=some (.int .i64 apc)/\y.cell? ⟨ab,ao+ix*6+1,none⟩=some (.int .i64 x0)/\y.cell? ⟨ab,ao+ix*6+2,none⟩=some (.int .i64 x1)/\y.cell? ⟨ab,ao+ix*6+3,none⟩=some (.int .i64 x2)/\y.cell? ⟨ab,ao+ix*6+4,none⟩=some (.int .i64 x3)/\y.cell? ⟨ab,ao+ix*6+5,none⟩=some (.slice aba al abc)/\y.cell? ⟨bb,bo_+ix*6,none⟩=some (.int .i64 bpc)/\y.cell? ⟨bb,bo_+ix*6+1,none⟩=some (.int .i64 y0)/\y.cell? ⟨bb,bo_+ix*6+2,none⟩=some (.int .i64 y1)/\y.cell? ⟨bb,bo_+ix*6+3,none⟩=some (.int .i64 y2)/\y.cell? ⟨bb,bo_+ix*6+4,none⟩=some (.int .i64 y3)/\y.cell? ⟨bb,bo_+ix*6+5,none⟩=some (.slice bba bl bbc)/\y.cell? ⟨mb,wW+i*3+1,none⟩=some (.int .i64 (ix:Int))))
  (hlt:i<mq) (qK:(i:Int)<(mq:Int)) (hix:ix<rn) (zz0:(ix:Int)<(rn:Int)) {SF K:Act->World->Prop} {Q:Exit->Act->World->Prop} (hK:∀a w,SF a w->K a w)
  (HSF:Hid (∀(g h:Nat) (u93 u94 u95 u96 u97 u98 u99 zz4 zz5 zz6 zz7 zz8 u105 zz9 zzA zzB zzC zzD:Value) (w':World),w'.heap[g]? =some (.cells #[.int .i64 apc, .int .i64 x0, .int .i64 x1, .int .i64 x2, .int .i64 x3, .slice aba al abc] 47 (0,0))->w'.heap[h]? =some (.cells #[.int .i64 bpc, .int .i64 y0, .int .i64 y1, .int .i64 y2, .int .i64 y3, .slice bba bl bbc] 47 (0,0))->Below U1.heap.size U1 w'->SF ⟨#[s0,s1,s2,s3,s4,s5,s6,s7,s8,s9, .pointer (some ⟨gs,0,none⟩), .slice (some ⟨mb,wW,none⟩) mq vc, .int .i64 i, .pointer (some ⟨gt,0,none⟩),s14, .pointer (some ⟨g,0,none⟩), .pointer (some ⟨h,0,none⟩),s17,s18,s19,s20,s21,s22,s23,s24,s25,s26,s27,s28,s29,s30,s31,s32,s33,s34,s35,s36,s37,s38,s39,s40,s41,s42,s43,s44,s45,s46,s47,s48,s49,s50,s51,s52,s53,s54,s55,s56,s57,s58,s59,s60,s61,s62,s63,s64,s65,s66,s67,s68,s69,s70,s71,s72,s73,s74,s75,s76,s77,s78,s79,s80,s81,s82,s83,s84,s85,s86,s87,s88,s89,s90,s91,s92,u93,u94,u95,u96,u97,u98,u99,zz4,zz5,zz6,zz7,zz8,u105,zz9,zzA,zzB,zzC,zzD,zdG,zdH,zdI,zdJ,zdK,zdL,zdM,zdN,zdO,zdP,zdQ,zdR,zdS,zdT,zdU,zdV,zdW,zdX,zdY,zdZ,zhj,zhk,zhl,zhm,zhn,zho,zhp,zhq,zhr,zhs,zht,zhu,zhv,zhw,zhx,zhy,zhz,zh0,zh1,zh2,zh3,zh4,zh5,zh6,zh7,zh8,zh9,zhA,zhB,zhC,zhD,zhE,zhF,zhG,zhH,zhI,zhJ,zhK,zhL,zhM,zhN,zhO,zhP,zhQ,zhR,zhS,zhT,zhU,zhV,zhW,zhX,zhY,zhZ,zia,zib,zic,zid,zie,zif,zih,zii,zij,zik,zil,zim,zin,zio,ziq,zir,zis,zit,ziu,ziv,ziw,zix,ziy,ziz,zi0,zi1,zi2,zi3,zi4,zi5,zi6,zi7,zi8,zi9,ziA,ziB,ziC,ziD,ziE,ziF,ziG,ziH,ziI,ziJ,ziK,ziL,ziM,ziN,ziO,ziP,ziQ,ziR,ziS,ziT,ziU,ziV,ziW,ziX,ziY,ziZ,zja,zjb,zjc,zjd,zje,zea], []⟩ w')):
  Code.wp Tryz.prog zq1 (Exit.then K Q) ⟨#[s0,s1,s2,s3,s4,s5,s6,s7,s8,s9, .pointer (some ⟨gs,0,none⟩), .slice (some ⟨mb,wW,none⟩) mq vc, .int .i64 i, .pointer (some ⟨gt,0,none⟩),s14,s15,s16,s17,s18,s19,s20,s21,s22,s23,s24,s25,s26,s27,s28,s29,s30,s31,s32,s33,s34,s35,s36,s37,s38,s39,s40,s41,s42,s43,s44,s45,s46,s47,s48,s49,s50,s51,s52,s53,s54,s55,s56,s57,s58,s59,s60,s61,s62,s63,s64,s65,s66,s67,s68,s69,s70,s71,s72,s73,s74,s75,s76,s77,s78,s79,s80,s81,s82,s83,s84,s85,s86,s87,s88,s89,s90,s91,s92,s93,s94,s95,s96,s97,s98,s99,zfz,zf0,zf1,zf2,zf3,zf4,zf5,zf6,zf7,zf8,zf9,zdG,zdH,zdI,zdJ,zdK,zdL,zdM,zdN,zdO,zdP,zdQ,zdR,zdS,zdT,zdU,zdV,zdW,zdX,zdY,zdZ,zhj,zhk,zhl,zhm,zhn,zho,zhp,zhq,zhr,zhs,zht,zhu,zhv,zhw,zhx,zhy,zhz,zh0,zh1,zh2,zh3,zh4,zh5,zh6,zh7,zh8,zh9,zhA,zhB,zhC,zhD,zhE,zhF,zhG,zhH,zhI,zhJ,zhK,zhL,zhM,zhN,zhO,zhP,zhQ,zhR,zhS,zhT,zhU,zhV,zhW,zhX,zhY,zhZ,zia,zib,zic,zid,zie,zif,zih,zii,zij,zik,zil,zim,zin,zio,ziq,zir,zis,zit,ziu,ziv,ziw,zix,ziy,ziz,zi0,zi1,zi2,zi3,zi4,zi5,zi6,zi7,zi8,zi9,ziA,ziB,ziC,ziD,ziE,ziF,ziG,ziH,ziI,ziJ,ziK,ziL,ziM,ziN,ziO,ziP,ziQ,ziR,ziS,ziT,ziU,ziV,ziW,ziX,ziY,ziZ,zja,zjb,zjc,zjd,zje,zea], []⟩ U1:=by
 unfold zq1 sfB
 conv=>arg 2;whnf
 refine wp_region_noPanic ?_
 refine wp_region_held_drew (S:=λx=>Below U1.heap.size U1 x) (by as_aux_lemma=>kernel_rfl) (Below.refl _ _).drew (λ_=> ?_)
 obtain⟨V1t,hV1⟩:∃V1,V1=U1.drew:=⟨_,rfl⟩
 have kS:Hid (Loc U1 V1t []):=by rw [hV1];exact(Loc.start _).drew
 rw [<-hV1]
 clear hV1
 refine wpAnyH_take (i:=0) (v:= ?vt1) rfl (by as_aux_lemma=>kernel_rfl) (by as_aux_lemma=>kernel_rfl) (by as_aux_lemma=>kernel_rfl) (λ_ _ _ h=>h) (Or.inl ⟨by rfl, ?z7e⟩) (kS.out.below) ?_
 case z7e=>(intro _ _;go_simp<;>rfl)
 change wpAnyH _ _ _ _ _ _ _ (Act.put _ (some 93) _) _
 simp only [Act.put,zQ]
 try simp only [zR,zS]
 refine wpAnyH_take (i:=1) (v:= ?vt2) rfl (by as_aux_lemma=>kernel_rfl) (by as_aux_lemma=>kernel_rfl) (by as_aux_lemma=>kernel_rfl) (λ_ _ _ h=>h) (Or.inl ⟨by rfl, ?z7f⟩) (kS.out.below) ?_
 case z7f=>(intro x h;have e:=CJ.out x h;go_simp<;>rfl)
 change wpAnyH _ _ _ _ _ _ _ (Act.put _ (some 94) _) _
 simp only [Act.put,zQ]
 try simp only [zR,zS]
 refine wpAnyH_take (i:=2) (v:= ?vt3) rfl (by as_aux_lemma=>kernel_rfl) (by as_aux_lemma=>kernel_rfl) (by as_aux_lemma=>kernel_rfl) (λ_ _ _ h=>h) (Or.inl ⟨by rfl, ?z7g⟩) (kS.out.below) ?_
 case z7g=>(intro _ _;go_simp<;>rfl)
 change wpAnyH _ _ _ _ _ _ _ (Act.put _ (some 95) _) _
 simp only [Act.put,zQ]
 try simp only [zR,zS]
 refine wpAnyH_take (i:=3) (v:= ?vt4) rfl (by as_aux_lemma=>kernel_rfl) (by as_aux_lemma=>kernel_rfl) (by as_aux_lemma=>kernel_rfl) (λ_ _ _ h=>h) (Or.inl ⟨by rfl, ?z7h⟩) (kS.out.below) ?_
 case z7h=>(intro _ _;go_simp<;>rfl)
 change wpAnyH _ _ _ _ _ _ _ (Act.put _ (some 96) _) _
 simp only [Act.put,zQ]
 try simp only [zR,zS]
 refine wpAnyH_take (i:=4) (v:= ?vt5) rfl (by as_aux_lemma=>kernel_rfl) (by as_aux_lemma=>kernel_rfl) (by as_aux_lemma=>kernel_rfl) (λ_ _ _ h=>h) (Or.inl ⟨by rfl, ?z7i⟩) (kS.out.below) ?_
 case z7i=>(intro _ _;go_simp<;>rfl)
 change wpAnyH _ _ _ _ _ _ _ (Act.put _ (some 97) _) _
 simp only [Act.put,zQ]
 try simp only [zR,zS]
 refine wpAnyH_take (i:=5) (v:= ?vt6) rfl (by as_aux_lemma=>kernel_rfl) (by as_aux_lemma=>kernel_rfl) (by as_aux_lemma=>kernel_rfl) (λ_ _ _ h=>h) (Or.inl ⟨by rfl, ?z7j⟩) (kS.out.below) ?_
 case z7j=>(intro _ _;go_simp<;>rfl)
 change wpAnyH _ _ _ _ _ _ _ (Act.put _ (some 98) _) _
 simp only [Act.put,zQ]
 try simp only [zR,zS]
 refine wpAnyH_take (i:=6) (v:= ?vt7) rfl (by as_aux_lemma=>kernel_rfl) (by as_aux_lemma=>kernel_rfl) (by as_aux_lemma=>kernel_rfl) (λ_ _ _ h=>h) (Or.inl ⟨by rfl, ?z7k⟩) (kS.out.below) ?_
 case z7k=>(intro x h;have e:=CJ.out x h;go_simp<;>rfl)
 change wpAnyH _ _ _ _ _ _ _ (Act.put _ (some 99) _) _
 simp only [Act.put,zQ]
 try simp only [zR,zS]
 refine wpAnyH_take (i:=7) (v:= ?vt8) rfl (by as_aux_lemma=>kernel_rfl) (by as_aux_lemma=>kernel_rfl) (by as_aux_lemma=>kernel_rfl) (λ_ _ _ h=>h) (Or.inl ⟨by rfl, ?z7l⟩) (kS.out.below) ?_
 case z7l=>(intro _ _;go_simp<;>rfl)
 change wpAnyH _ _ _ _ _ _ _ (Act.put _ (some 100) _) _
 simp only [Act.put,zQ]
 try simp only [zR,zS]
 refine wpAnyH_take (i:=8) (v:= ?vt9) rfl (by as_aux_lemma=>kernel_rfl) (by as_aux_lemma=>kernel_rfl) (by as_aux_lemma=>kernel_rfl) (λ_ _ _ h=>h) (Or.inl ⟨by rfl, ?z7m⟩) (kS.out.below) ?_
 case z7m=>(intro x h;have e:=CJ.out x h;go_simp<;>rfl)
 change wpAnyH _ _ _ _ _ _ _ (Act.put _ (some 101) _) _
 simp only [Act.put,zQ]
 try simp only [zR,zS]
 refine wpAnyH_take (i:=9) (v:= ?zBB) rfl (by as_aux_lemma=>kernel_rfl) (by as_aux_lemma=>kernel_rfl) (by as_aux_lemma=>kernel_rfl) (λ_ _ _ h=>h) (Or.inl ⟨by rfl, ?z2U⟩) (kS.out.below) ?_
 case z2U=>(intro _ _;go_simp<;>rfl)
 change wpAnyH _ _ _ _ _ _ _ (Act.put _ (some 102) _) _
 simp only [Act.put,zQ]
 try simp only [zR,zS]
 refine wpAnyH_take (i:=10) (v:= ?zBC) rfl (by as_aux_lemma=>kernel_rfl) (by as_aux_lemma=>kernel_rfl) (by as_aux_lemma=>kernel_rfl) (λ_ _ _ h=>h) (Or.inl ⟨by rfl, ?z2V⟩) (kS.out.below) ?_
 case z2V=>(intro x h;have e:=CJ.out x h;go_simp<;>rfl)
 change wpAnyH _ _ _ _ _ _ _ (Act.put _ (some 103) _) _
 simp only [Act.put,zQ]
 try simp only [zR,zS]
 refine wpAnyH_take (i:=11) (v:= ?zBD) rfl (by as_aux_lemma=>kernel_rfl) (by as_aux_lemma=>kernel_rfl) (by as_aux_lemma=>kernel_rfl) (λ_ _ _ h=>h) (Or.inl ⟨by rfl, ?z2W⟩) (kS.out.below) ?_
 case z2W=>(intro _ _;go_simp<;>rfl)
 change wpAnyH _ _ _ _ _ _ _ (Act.put _ (some 104) _) _
 simp only [Act.put,zQ]
 try simp only [zR,zS]
 refine wpAnyH_take (i:=12) (v:= ?zBE) rfl (by as_aux_lemma=>kernel_rfl) (by as_aux_lemma=>kernel_rfl) (by as_aux_lemma=>kernel_rfl) (λ_ _ _ h=>h) (Or.inl ⟨by rfl, ?z2X⟩) (kS.out.below) ?_
 case z2X=>(intro _ _;go_simp<;>rfl)
 change wpAnyH _ _ _ _ _ _ _ (Act.put _ (some 105) _) _
 simp only [Act.put,zQ]
 try simp only [zR,zS]
 refine wpAnyH_take (i:=13) (v:= ?zBF) rfl (by as_aux_lemma=>kernel_rfl) (by as_aux_lemma=>kernel_rfl) (by as_aux_lemma=>kernel_rfl) (λ_ _ _ h=>h) (Or.inl ⟨by rfl, ?z2Y⟩) (kS.out.below) ?_
 case z2Y=>(intro _ _;go_simp<;>rfl)
 change wpAnyH _ _ _ _ _ _ _ (Act.put _ (some 106) _) _
 simp only [Act.put,zQ]
 try simp only [zR,zS]
 refine wpAnyH_take (i:=14) (v:= ?zBG) rfl (by as_aux_lemma=>kernel_rfl) (by as_aux_lemma=>kernel_rfl) (by as_aux_lemma=>kernel_rfl) (λ_ _ _ h=>h) (Or.inl ⟨by rfl, ?z2Z⟩) (kS.out.below) ?_
 case z2Z=>(intro _ _;go_simp<;>rfl)
 change wpAnyH _ _ _ _ _ _ _ (Act.put _ (some 107) _) _
 simp only [Act.put,zQ]
 try simp only [zR,zS]
 refine wpAnyH_take (i:=15) (v:= ?zBH) rfl (by as_aux_lemma=>kernel_rfl) (by as_aux_lemma=>kernel_rfl) (by as_aux_lemma=>kernel_rfl) (λ_ _ _ h=>h) (Or.inl ⟨by rfl, ?z3a⟩) (kS.out.below) ?_
 case z3a=>(intro x h;have e:=CJ.out x h;go_simp<;>rfl)
 change wpAnyH _ _ _ _ _ _ _ (Act.put _ (some 108) _) _
 simp only [Act.put,zQ]
 try simp only [zR,zS]
 refine wpAnyH_take (i:=16) (v:= ?zBI) rfl (by as_aux_lemma=>kernel_rfl) (by as_aux_lemma=>kernel_rfl) (by as_aux_lemma=>kernel_rfl) (λ_ _ _ h=>h) (Or.inl ⟨by rfl, ?z3b⟩) (kS.out.below) ?_
 case z3b=>(intro _ _;go_simp<;>rfl)
 change wpAnyH _ _ _ _ _ _ _ (Act.put _ (some 109) _) _
 simp only [Act.put,zQ]
 try simp only [zR,zS]
 refine wpAnyH_take (i:=17) (v:= ?zBJ) rfl (by as_aux_lemma=>kernel_rfl) (by as_aux_lemma=>kernel_rfl) (by as_aux_lemma=>kernel_rfl) (λ_ _ _ h=>h) (Or.inl ⟨by rfl, ?z3c⟩) (kS.out.below) ?_
 case z3c=>(intro x h;have e:=CJ.out x h;go_simp<;>rfl)
 change wpAnyH _ _ _ _ _ _ _ (Act.put _ (some 110) _) _
 simp only [Act.put,zQ]
 try simp only [zR,zS]
 refine wpAnyH_ready (rs:= [18,19]) (by as_aux_lemma=>kernel_rfl) (by simp) ?_
 refine AllReadyH.cons rfl (λK hK=> ?_) (AllReadyH.cons rfl (λK hK=> ?_) AllReadyH.nil)
 ·skip
  go_simp
  have zfA:=kS.out.alloc 47 [.int .i64 0, .int .i64 0, .int .i64 0, .int .i64 0, .int .i64 0, .slice none 0 0]
  refine hK.out _ _ zfA.below (λ_=> ?_)
  obtain⟨gat,zok⟩:∃n,n=V1t.heap.size:=⟨_,rfl⟩
  rw [<-zok] at zfA ⊢
  clear zok
  generalize World.alloc V1t _=Xt2 at zfA ⊢
  replace zfA:=qh zfA
  clear hK K
  refine wpAnyH_ready (rs:= [19]) (by as_aux_lemma=>kernel_rfl) (by simp) ?_
  refine AllReadyH.cons rfl (λK hK=> ?_) AllReadyH.nil
  go_simp
  have wE:gat≠Xt2.heap.size:=zfA.out.zam (List.mem_cons_self ..)
  have zfB:=zfA.out.alloc 47 [.int .i64 0, .int .i64 0, .int .i64 0, .int .i64 0, .int .i64 0, .slice none 0 0]
  refine hK.out _ _ zfB.below (λ_=> ?_)
  obtain⟨gbt,zol⟩:∃n,n=Xt2.heap.size:=⟨_,rfl⟩
  rw [<-zol] at zfB wE ⊢
  clear zol
  replace wE:=qh wE
  generalize World.alloc Xt2 _=Xt4 at zfB ⊢
  replace zfB:=qh zfB
  clear hK K
  refine wpAnyH_ready (rs:= [20]) (by as_aux_lemma=>kernel_rfl) (by simp) ?_
  refine AllReadyH.cons rfl (λK hK=> ?_) AllReadyH.nil
  obtain⟨hn, -⟩:=zfB.out.news (gat,47, [.int .i64 0, .int .i64 0, .int .i64 0, .int .i64 0, .int .i64 0, .slice none 0 0]) (List.mem_cons_of_mem _ (List.mem_cons_self ..))
  have d0:=za hn 0
  have f0:=zw hn 0
  have d1:=za hn 1
  have f1:=zw hn 1
  have d2:=za hn 2
  have f2:=zw hn 2
  have d3:=za hn 3
  have f3:=zw hn 3
  have d4:=za hn 4
  have f4:=zw hn 4
  have d5:=za hn 5
  have f5:=zw hn 5
  clear hn
  have zjf:=zfB.out.store (g:=gat) (t:=47) (cs:= [.int .i64 0, .int .i64 0, .int .i64 0, .int .i64 0, .int .i64 0, .slice none 0 0]) (List.mem_cons_of_mem _ (List.mem_cons_self ..)) [.int .i64 apc, .int .i64 x0, .int .i64 x1, .int .i64 x2, .int .i64 x3, .slice aba al abc] rfl
  replace zjf:=qh zjf
  go_simp
  clear d0 f0 d1 f1 d2 f2 d3 f3 d4 f4 d5 f5
  refine hK.out _ (zY Xt4 gat 0 [.int .i64 apc, .int .i64 x0, .int .i64 x1, .int .i64 x2, .int .i64 x3, .slice aba al abc]) zjf.out.below (λ_=> ?_)
  generalize zY Xt4 gat 0 _=Xt6 at zjf ⊢
  clear hK K
  refine wpAnyH_ready (rs:= [21]) (by as_aux_lemma=>kernel_rfl) (by simp) ?_
  refine AllReadyH.cons rfl (λK hK=> ?_) AllReadyH.nil
  obtain⟨hn, -⟩:=zjf.out.news (gbt,47, [.int .i64 0, .int .i64 0, .int .i64 0, .int .i64 0, .int .i64 0, .slice none 0 0]) (je (List.mem_cons_self ..) (Ne.symm wE.out))
  have d0:=za hn 0
  have f0:=zw hn 0
  have d1:=za hn 1
  have f1:=zw hn 1
  have d2:=za hn 2
  have f2:=zw hn 2
  have d3:=za hn 3
  have f3:=zw hn 3
  have d4:=za hn 4
  have f4:=zw hn 4
  have d5:=za hn 5
  have f5:=zw hn 5
  clear hn
  have zfC:=zjf.out.store (g:=gbt) (t:=47) (cs:= [.int .i64 0, .int .i64 0, .int .i64 0, .int .i64 0, .int .i64 0, .slice none 0 0]) (je (List.mem_cons_self ..) (Ne.symm wE.out)) [.int .i64 bpc, .int .i64 y0, .int .i64 y1, .int .i64 y2, .int .i64 y3, .slice bba bl bbc] rfl
  replace zfC:=qh zfC
  go_simp
  clear d0 f0 d1 f1 d2 f2 d3 f3 d4 f4 d5 f5
  refine hK.out _ (zY Xt6 gbt 0 [.int .i64 bpc, .int .i64 y0, .int .i64 y1, .int .i64 y2, .int .i64 y3, .slice bba bl bbc]) zfC.out.below (λ_=> ?_)
  generalize zY Xt6 gbt 0 _=Xt8 at zfC ⊢
  clear hK K
  refine wpAnyH_done (by as_aux_lemma=>kernel_rfl) ?_ _
  refine NoPanic.normal ?_
  obtain⟨hga, -⟩:=zfC.out.news (gat,47, [.int .i64 apc, .int .i64 x0, .int .i64 x1, .int .i64 x2, .int .i64 x3, .slice aba al abc]) (je (bq (List.mem_cons_of_mem _ (List.mem_cons_self ..))) wE.out)
  obtain⟨hgb, -⟩:=zfC.out.news (gbt,47, [.int .i64 bpc, .int .i64 y0, .int .i64 y1, .int .i64 y2, .int .i64 y3, .slice bba bl bbc]) (bq (je (List.mem_cons_self ..) (Ne.symm wE.out)))
  have HQA:=qh hga
  have HQB:=qh hgb
  clear hga hgb
  go_wp2_with fail
  exact HSF.out gat gbt _ _ _ _ _ _ _ _ _ _ _ _ _ _ _ _ _ _ _ HQA.out HQB.out zfC.out.below
 skip
 go_simp
 have zfD:=kS.out.alloc 47 [.int .i64 0, .int .i64 0, .int .i64 0, .int .i64 0, .int .i64 0, .slice none 0 0]
 refine hK.out _ _ zfD.below (λ_=> ?_)
 obtain⟨gbt,zol⟩:∃n,n=V1t.heap.size:=⟨_,rfl⟩
 rw [<-zol] at zfD ⊢
 clear zol
 generalize World.alloc V1t _=zv5 at zfD ⊢
 replace zfD:=qh zfD
 clear hK K
 refine wpAnyH_ready (rs:= [18]) (by as_aux_lemma=>kernel_rfl) (by simp) ?_
 refine AllReadyH.cons rfl (λK hK=> ?_) AllReadyH.nil
 go_simp
 have wF:gbt≠zv5.heap.size:=zfD.out.zam (List.mem_cons_self ..)
 have zcF:=zfD.out.alloc 47 [.int .i64 0, .int .i64 0, .int .i64 0, .int .i64 0, .int .i64 0, .slice none 0 0]
 refine hK.out _ _ zcF.below (λ_=> ?_)
 obtain⟨gat,zok⟩:∃n,n=zv5.heap.size:=⟨_,rfl⟩
 rw [<-zok] at zcF wF ⊢
 clear zok
 replace wF:=qh wF
 generalize World.alloc zv5 _=z02 at zcF ⊢
 replace zcF:=qh zcF
 clear hK K
 refine wpAnyH_ready (rs:= [20]) (by as_aux_lemma=>kernel_rfl) (by simp) ?_
 refine AllReadyH.cons rfl (λK hK=> ?_) AllReadyH.nil
 obtain⟨hn, -⟩:=zcF.out.news (gat,47, [.int .i64 0, .int .i64 0, .int .i64 0, .int .i64 0, .int .i64 0, .slice none 0 0]) (List.mem_cons_self ..)
 have d0:=za hn 0
 have f0:=zw hn 0
 have d1:=za hn 1
 have f1:=zw hn 1
 have d2:=za hn 2
 have f2:=zw hn 2
 have d3:=za hn 3
 have f3:=zw hn 3
 have d4:=za hn 4
 have f4:=zw hn 4
 have d5:=za hn 5
 have f5:=zw hn 5
 clear hn
 have zez:=zcF.out.store (g:=gat) (t:=47) (cs:= [.int .i64 0, .int .i64 0, .int .i64 0, .int .i64 0, .int .i64 0, .slice none 0 0]) (List.mem_cons_self ..) [.int .i64 apc, .int .i64 x0, .int .i64 x1, .int .i64 x2, .int .i64 x3, .slice aba al abc] rfl
 replace zez:=qh zez
 go_simp
 clear d0 f0 d1 f1 d2 f2 d3 f3 d4 f4 d5 f5
 refine hK.out _ (zY z02 gat 0 [.int .i64 apc, .int .i64 x0, .int .i64 x1, .int .i64 x2, .int .i64 x3, .slice aba al abc]) zez.out.below (λ_=> ?_)
 generalize zY z02 gat 0 _=z03 at zez ⊢
 clear hK K
 refine wpAnyH_ready (rs:= [21]) (by as_aux_lemma=>kernel_rfl) (by simp) ?_
 refine AllReadyH.cons rfl (λK hK=> ?_) AllReadyH.nil
 obtain⟨hn, -⟩:=zez.out.news (gbt,47, [.int .i64 0, .int .i64 0, .int .i64 0, .int .i64 0, .int .i64 0, .slice none 0 0]) (je (List.mem_cons_of_mem _ (List.mem_cons_self ..)) wF.out)
 have d0:=za hn 0
 have f0:=zw hn 0
 have d1:=za hn 1
 have f1:=zw hn 1
 have d2:=za hn 2
 have f2:=zw hn 2
 have d3:=za hn 3
 have f3:=zw hn 3
 have d4:=za hn 4
 have f4:=zw hn 4
 have d5:=za hn 5
 have f5:=zw hn 5
 clear hn
 have zcG:=zez.out.store (g:=gbt) (t:=47) (cs:= [.int .i64 0, .int .i64 0, .int .i64 0, .int .i64 0, .int .i64 0, .slice none 0 0]) (je (List.mem_cons_of_mem _ (List.mem_cons_self ..)) wF.out) [.int .i64 bpc, .int .i64 y0, .int .i64 y1, .int .i64 y2, .int .i64 y3, .slice bba bl bbc] rfl
 replace zcG:=qh zcG
 go_simp
 clear d0 f0 d1 f1 d2 f2 d3 f3 d4 f4 d5 f5
 refine hK.out _ (zY z03 gbt 0 [.int .i64 bpc, .int .i64 y0, .int .i64 y1, .int .i64 y2, .int .i64 y3, .slice bba bl bbc]) zcG.out.below (λ_=> ?_)
 generalize zY z03 gbt 0 _=zBK at zcG ⊢
 clear hK K
 refine wpAnyH_done (by as_aux_lemma=>kernel_rfl) ?_ _
 refine NoPanic.normal ?_
 obtain⟨hga, -⟩:=zcG.out.news (gat,47, [.int .i64 apc, .int .i64 x0, .int .i64 x1, .int .i64 x2, .int .i64 x3, .slice aba al abc]) (je (bq (List.mem_cons_self ..)) (Ne.symm wF.out))
 obtain⟨hgb, -⟩:=zcG.out.news (gbt,47, [.int .i64 bpc, .int .i64 y0, .int .i64 y1, .int .i64 y2, .int .i64 y3, .slice bba bl bbc]) (bq (je (List.mem_cons_of_mem _ (List.mem_cons_self ..)) wF.out))
 have HQA:=qh hga
 have HQB:=qh hgb
 clear hga hgb
 go_wp2_with fail
 exact HSF.out gat gbt _ _ _ _ _ _ _ _ _ _ _ _ _ _ _ _ _ _ _ HQA.out HQB.out zcG.out.below
theorem z2J {s0 s1 s2 s3 s4 s5 s6 s7 s14 s18 s19 s20 s21 s22 s23 s24 s25 s26 s27 s28 s29 s30 s31 s32 s33 s34 s35 s36 s37 s38 s39 s40 s41 s42 s43 s44 s45 s46 s47 s48 s49 s50 s51 s52 s53 s54 s55 s56 s57 s58 s59 s60 s61 s62 s63 s64 s65 s66 s67 s68 s69 s70 s71 s72 s73 s74 s75 s76 s77 s78 s79 s80 s81 s82 s83 s84 s85 s86 s87 s88 s89 s90 s91 s92 s93 s94 s95 s96 s97 s98 s99 zfz zf0 zf1 zf2 zf3 zf4 zf5 zf6 zf7 zf8 zf9 zdG zdH zdI zdJ zdK zdL zdM zdN zdO zdP zdQ zdR zdS zdT zdU zdV zdW zdX zdY zdZ zhj zhk zhl zhm zhn zho zhp zhq zhr zhs zht zhu zhv zhw zhx zhy zhz zh0 zh1 zh2 zh3 zh4 zh5 zh6 zh7 zh8 zh9 zhA zhB zhC zhD zhE zhF zhG zhH zhI zhJ zhK zhL zhM zhN zhO zhP zhQ zhR zhS zhT zhU zhV zhW zhX zhY zhZ zia zib zic zid zie zif zih zii zij zik zil zim zin zio ziq zir zis zit ziu ziv ziw zix ziy ziz zi0 zi1 zi2 zi3 zi4 zi5 zi6 zi7 zi8 zi9 ziA ziB ziC ziD ziE ziF ziG ziH ziI ziJ ziK ziL ziM ziN ziO ziP ziQ ziR ziS ziT ziU ziV ziW ziX ziY ziZ zja zjb zjc zjd zje zea:Value} {wq:World} {gx gs gt g h mb wW mq vc i ix cn tc eb eo ib io p kn kc al abc bl bbc D:Nat} {aba bba:Option Addr} {op mo:Int}
  (CK:Hid (∀y,Below wq.heap.size wq y->y.cell? ⟨g,0,none⟩=some (.int .i64 (p:Int))/\y.cell? ⟨gx,2,none⟩=some (.slice (some ⟨eb,eo,none⟩) cn tc)/\y.cell? ⟨mb,wW+i*3+1,none⟩=some (.int .i64 (ix:Int))/\y.cell? ⟨eb,eo+ix,none⟩=some (.slice (some ⟨ib,io,none⟩) kn kc)/\y.cell? ⟨ib,io+p*12,none⟩=some (.int .i64 op)/\
    y.cell? ⟨gx+1,0,none⟩=some (.int .i64 mo)/\y.cell? ⟨g,5,none⟩=some (.slice aba al abc)/\y.cell? ⟨h,5,none⟩=some (.slice bba bl bbc)/\y.cell? ⟨mb,wW+i*3,none⟩=some (.int .i64 1)))
  (hlt:i<mq) (qK:(i:Int)<(mq:Int)) (zzH:(ix:Int)<(cn:Int)) (hs2:p<kn) (S3:Hid (0<D->op=6\/op=7\/op=8\/(op=2/\mo=0))) (S5:Hid (al<bl->op=2)) (hs4:bl<=al+1) (hal:al<=1000000) (zer:D<=1)
  {SF K:Act->World->Prop} {Q:Exit->Act->World->Prop} (hK:∀a w,SF a w->K a w)
  (HSF:Hid (∀(u19 u20 u131 zmd zme zmf zmg zmh zmi u138 u139 zmj zmk zml zmm zmn zmo zmp zmq zmr zms zmt zmu u152 zmv u154 zmw zmx zmy zmz zm0 zm1 zm2 u162 zm3 u164 zm4 zm5 zm6 zm7 zm8 zm9 zmA zmB zmC zmD zmE zmF zmG zmH zmI zmJ zmK zmL zmM zmN zmO zmP zmQ zmR zmS zmT zmU zmV u193 u194 zmW u196 zmX u198 zmY zmZ u201 zna znb znc znd u206 zne u208 znf u210 zng znh zni znj znk znl znm znn zno znp znq znr zns znt znu znv znw znx zny znz zn0 zn1 zn2 u234 zn3 u236 zn4 zn5 zn6 zn7 zn8 zn9 znA znB znC znD znE znF:Value) (w':World),Below wq.heap.size wq w'->SF ⟨#[s0,s1,s2,s3,s4,s5,s6,s7, .pointer (some ⟨gx,0,none⟩), .pointer (some ⟨gx+1,0,none⟩), .pointer (some ⟨gs,0,none⟩), .slice (some ⟨mb,wW,none⟩) mq vc, .int .i64 i, .pointer (some ⟨gt,0,none⟩),s14, .pointer (some ⟨g,0,none⟩), .pointer (some ⟨h,0,none⟩), .int .i64 (D:Nat),s18,u19,u20,s21,s22,s23,s24,s25,s26,s27,s28,s29,s30,s31,s32,s33,s34,s35,s36,s37,s38,s39,s40,s41,s42,s43,s44,s45,s46,s47,s48,s49,s50,s51,s52,s53,s54,s55,s56,s57,s58,s59,s60,s61,s62,s63,s64,s65,s66,s67,s68,s69,s70,s71,s72,s73,s74,s75,s76,s77,s78,s79,s80,s81,s82,s83,s84,s85,s86,s87,s88,s89,s90,s91,s92,s93,s94,s95,s96,s97,s98,s99,zfz,zf0,zf1,zf2,zf3,zf4,zf5,zf6,zf7,zf8,zf9,zdG,zdH,zdI,zdJ,zdK,zdL,zdM,zdN,zdO,zdP,zdQ,zdR,zdS,zdT,zdU,zdV,zdW,zdX,zdY,zdZ,u131,zmd,zme,zmf,zmg,zmh,zmi,u138,u139,zmj,zmk,zml,zmm,zmn,zmo,zmp,zmq,zmr,zms,zmt,zmu,u152,zmv,u154,zmw,zmx,zmy,zmz,zm0,zm1,zm2,u162,zm3,u164,zm4,zm5,zm6,zm7,zm8,zm9,zmA,zmB,zmC,zmD,zmE,zmF,zmG,zmH,zmI,zmJ,zmK,zmL,zmM,zmN,zmO,zmP,zmQ,zmR,zmS,zmT,zmU,zmV,u193,u194,zmW,u196,zmX,u198,zmY,zmZ,u201,zna,znb,znc,znd,u206,zne,u208,znf,u210,zng,znh,zni,znj,znk,znl,znm,znn,zno,znp,znq,znr,zns,znt,znu,znv,znw,znx,zny,znz,zn0,zn1,zn2,u234,zn3,u236,zn4,zn5,zn6,zn7,zn8,zn9,znA,znB,znC,znD,znE,znF,zea], []⟩ w')):
  Code.wp Tryz.prog zg8 (Exit.inBlock 1 (Exit.then K Q)) ⟨#[s0,s1,s2,s3,s4,s5,s6,s7, .pointer (some ⟨gx,0,none⟩), .pointer (some ⟨gx+1,0,none⟩), .pointer (some ⟨gs,0,none⟩), .slice (some ⟨mb,wW,none⟩) mq vc, .int .i64 i, .pointer (some ⟨gt,0,none⟩),s14, .pointer (some ⟨g,0,none⟩), .pointer (some ⟨h,0,none⟩), .int .i64 (D:Nat),s18,s19,s20,s21,s22,s23,s24,s25,s26,s27,s28,s29,s30,s31,s32,s33,s34,s35,s36,s37,s38,s39,s40,s41,s42,s43,s44,s45,s46,s47,s48,s49,s50,s51,s52,s53,s54,s55,s56,s57,s58,s59,s60,s61,s62,s63,s64,s65,s66,s67,s68,s69,s70,s71,s72,s73,s74,s75,s76,s77,s78,s79,s80,s81,s82,s83,s84,s85,s86,s87,s88,s89,s90,s91,s92,s93,s94,s95,s96,s97,s98,s99,zfz,zf0,zf1,zf2,zf3,zf4,zf5,zf6,zf7,zf8,zf9,zdG,zdH,zdI,zdJ,zdK,zdL,zdM,zdN,zdO,zdP,zdQ,zdR,zdS,zdT,zdU,zdV,zdW,zdX,zdY,zdZ,zhj,zhk,zhl,zhm,zhn,zho,zhp,zhq,zhr,zhs,zht,zhu,zhv,zhw,zhx,zhy,zhz,zh0,zh1,zh2,zh3,zh4,zh5,zh6,zh7,zh8,zh9,zhA,zhB,zhC,zhD,zhE,zhF,zhG,zhH,zhI,zhJ,zhK,zhL,zhM,zhN,zhO,zhP,zhQ,zhR,zhS,zhT,zhU,zhV,zhW,zhX,zhY,zhZ,zia,zib,zic,zid,zie,zif,zih,zii,zij,zik,zil,zim,zin,zio,ziq,zir,zis,zit,ziu,ziv,ziw,zix,ziy,ziz,zi0,zi1,zi2,zi3,zi4,zi5,zi6,zi7,zi8,zi9,ziA,ziB,ziC,ziD,ziE,ziF,ziG,ziH,ziI,ziJ,ziK,ziL,ziM,ziN,ziO,ziP,ziQ,ziR,ziS,ziT,ziU,ziV,ziW,ziX,ziY,ziZ,zja,zjb,zjc,zjd,zje,zea], []⟩ wq:=by
 unfold zg8 sfB
 conv=>arg 2;whnf
 have hpI:(p:Int)<(kn:Int):=by omega
 have hp0:(0:Int)<=(p:Int):=by omega
 have zBL:ix<cn:=by omega
 have zD:decide ((1:Int)<(D:Int))=false:=decide_eq_false (by omega)
 have zDn:decide (1<D)=false:=decide_eq_false (by omega)
 have zp:decide ((kn:Int)<=(p:Int))=false:=decide_eq_false (by omega)
 have zpn:decide (kn<=p)=false:=decide_eq_false (by omega)
 obtain⟨k0,c2,m1,r0,i0,e0,k5,l5,m0⟩:=CK.out wq (Below.refl _ _)
 go_upto_region 23 with fail
 clear k0 c2 m1 r0 i0 e0 k5 l5 m0
 refine wp_region_noPanic ?_
 refine wp_region_held_drew (S:=λx=>Below wq.heap.size wq x) (by as_aux_lemma=>kernel_rfl) ((Below.refl _ _).drew) (λhrH=> ?_)
 refine wpAnyH_take (i:=0) (v:= ?vr1) rfl (by as_aux_lemma=>kernel_rfl) (by as_aux_lemma=>kernel_rfl) (by as_aux_lemma=>kernel_rfl) (λ_ _ _ h=>h) (Or.inl ⟨by rfl, ?z7n⟩) (by assumption) ?_
 case z7n=>(intro x h;have e:=CK.out x h;go_simp<;>rfl)
 change wpAnyH _ _ _ _ _ _ _ (Act.put _ (some 170) _) _
 simp only [Act.put,zQ,zR,zS]
 refine wpAnyH_take (i:=1) (v:= ?vr2) rfl (by as_aux_lemma=>kernel_rfl) (by as_aux_lemma=>kernel_rfl) (by as_aux_lemma=>kernel_rfl) (λ_ _ _ h=>h) (Or.inl ⟨by rfl, ?z7o⟩) (by assumption) ?_
 case z7o=>(intro x h;have e:=CK.out x h;go_simp<;>rfl)
 change wpAnyH _ _ _ _ _ _ _ (Act.put _ (some 171) _) _
 simp only [Act.put,zQ,zR,zS]
 refine wpAnyH_take (i:=2) (v:= ?vr3) rfl (by as_aux_lemma=>kernel_rfl) (by as_aux_lemma=>kernel_rfl) (by as_aux_lemma=>kernel_rfl) (λ_ _ _ h=>h) (Or.inl ⟨by rfl, ?z7p⟩) (by assumption) ?_
 case z7p=>(intro x h;have e:=CK.out x h;go_simp<;>rfl)
 change wpAnyH _ _ _ _ _ _ _ (Act.put _ (some 172) _) _
 simp only [Act.put,zQ,zR,zS]
 refine wpAnyH_take (i:=3) (v:= ?vr4) rfl (by as_aux_lemma=>kernel_rfl) (by as_aux_lemma=>kernel_rfl) (by as_aux_lemma=>kernel_rfl) (λ_ _ _ h=>h) (Or.inl ⟨by rfl, ?z7q⟩) (by assumption) ?_
 case z7q=>(intro x h;have e:=CK.out x h;go_simp<;>rfl)
 change wpAnyH _ _ _ _ _ _ _ (Act.put _ (some 173) _) _
 simp only [Act.put,zQ,zR,zS]
 refine wpAnyH_take (i:=4) (v:= ?vr5) rfl (by as_aux_lemma=>kernel_rfl) (by as_aux_lemma=>kernel_rfl) (by as_aux_lemma=>kernel_rfl) (λ_ _ _ h=>h) (Or.inl ⟨by rfl, ?z7r⟩) (by assumption) ?_
 case z7r=>(intro x h;have e:=CK.out x h;go_simp<;>rfl)
 change wpAnyH _ _ _ _ _ _ _ (Act.put _ (some 174) _) _
 simp only [Act.put,zQ,zR,zS]
 refine wpAnyH_take (i:=5) (v:= ?vr6) rfl (by as_aux_lemma=>kernel_rfl) (by as_aux_lemma=>kernel_rfl) (by as_aux_lemma=>kernel_rfl) (λ_ _ _ h=>h) (Or.inl ⟨by rfl, ?z7s⟩) (by assumption) ?_
 case z7s=>(intro x h;have e:=CK.out x h;go_simp<;>rfl)
 change wpAnyH _ _ _ _ _ _ _ (Act.put _ (some 175) _) _
 simp only [Act.put,zQ,zR,zS]
 refine wpAnyH_take (i:=6) (v:= ?vr7) rfl (by as_aux_lemma=>kernel_rfl) (by as_aux_lemma=>kernel_rfl) (by as_aux_lemma=>kernel_rfl) (λ_ _ _ h=>h) (Or.inl ⟨by rfl, ?z7t⟩) (by assumption) ?_
 case z7t=>(intro x h;have e:=CK.out x h;go_simp<;>rfl)
 change wpAnyH _ _ _ _ _ _ _ (Act.put _ (some 176) _) _
 simp only [Act.put,zQ,zR,zS]
 refine wpAnyH_take (i:=7) (v:= ?vr8) rfl (by as_aux_lemma=>kernel_rfl) (by as_aux_lemma=>kernel_rfl) (by as_aux_lemma=>kernel_rfl) (λ_ _ _ h=>h) (Or.inl ⟨by rfl, ?z7u⟩) (by assumption) ?_
 case z7u=>(intro x h;have e:=CK.out x h;go_simp<;>rfl)
 change wpAnyH _ _ _ _ _ _ _ (Act.put _ (some 177) _) _
 simp only [Act.put,zQ,zR,zS]
 refine wpAnyH_take (i:=8) (v:= ?vr9) rfl (by as_aux_lemma=>kernel_rfl) (by as_aux_lemma=>kernel_rfl) (by as_aux_lemma=>kernel_rfl) (λ_ _ _ h=>h) (Or.inl ⟨by rfl, ?z7v⟩) (by assumption) ?_
 case z7v=>(intro x h;have e:=CK.out x h;go_simp<;>rfl)
 change wpAnyH _ _ _ _ _ _ _ (Act.put _ (some 178) _) _
 simp only [Act.put,zQ,zR,zS]
 refine wpAnyH_take (i:=9) (v:= ?zBM) rfl (by as_aux_lemma=>kernel_rfl) (by as_aux_lemma=>kernel_rfl) (by as_aux_lemma=>kernel_rfl) (λ_ _ _ h=>h) (Or.inl ⟨by rfl, ?z3d⟩) (by assumption) ?_
 case z3d=>(intro x h;have e:=CK.out x h;go_simp<;>rfl)
 change wpAnyH _ _ _ _ _ _ _ (Act.put _ (some 179) _) _
 simp only [Act.put,zQ,zR,zS]
 refine wpAnyH_take (i:=10) (v:= ?zBN) rfl (by as_aux_lemma=>kernel_rfl) (by as_aux_lemma=>kernel_rfl) (by as_aux_lemma=>kernel_rfl) (λ_ _ _ h=>h) (Or.inl ⟨by rfl, ?z3e⟩) (by assumption) ?_
 case z3e=>(intro x h;have e:=CK.out x h;go_simp<;>rfl)
 change wpAnyH _ _ _ _ _ _ _ (Act.put _ (some 180) _) _
 simp only [Act.put,zQ,zR,zS]
 refine wpAnyH_take (i:=11) (v:= ?zBO) rfl (by as_aux_lemma=>kernel_rfl) (by as_aux_lemma=>kernel_rfl) (by as_aux_lemma=>kernel_rfl) (λ_ _ _ h=>h) (Or.inl ⟨by rfl, ?z3f⟩) (by assumption) ?_
 case z3f=>(intro x h;have e:=CK.out x h;go_simp<;>rfl)
 change wpAnyH _ _ _ _ _ _ _ (Act.put _ (some 181) _) _
 simp only [Act.put,zQ,zR,zS]
 refine wpAnyH_take (i:=12) (v:= ?zBP) rfl (by as_aux_lemma=>kernel_rfl) (by as_aux_lemma=>kernel_rfl) (by as_aux_lemma=>kernel_rfl) (λ_ _ _ h=>h) (Or.inl ⟨by rfl, ?z3g⟩) (by assumption) ?_
 case z3g=>(intro x h;have e:=CK.out x h;go_simp<;>rfl)
 change wpAnyH _ _ _ _ _ _ _ (Act.put _ (some 182) _) _
 simp only [Act.put,zQ,zR,zS]
 refine wpAnyH_done (by as_aux_lemma=>kernel_rfl) ?_ _
 refine NoPanic.normal ?_
 obtain⟨w3,hdr⟩:∃Y,Y=wq.drew:=⟨_,rfl⟩
 rw [<-hdr] at hrH ⊢
 have z05:=qh hrH
 clear hdr hrH
 go_upto_region 25 with fail
 have CK3:Hid (∀y,Below w3.heap.size w3 y->y.cell? ⟨g,0,none⟩=some (.int .i64 (p:Int))/\y.cell? ⟨gx,2,none⟩=some (.slice (some ⟨eb,eo,none⟩) cn tc)/\y.cell? ⟨mb,wW+i*3+1,none⟩=some (.int .i64 (ix:Int))/\y.cell? ⟨eb,eo+ix,none⟩=some (.slice (some ⟨ib,io,none⟩) kn kc)/\y.cell? ⟨ib,io+p*12,none⟩=some (.int .i64 op)):=λy hy=>by
  obtain⟨p0,p1,p2,p3,p4, -, -, -, -⟩:=CK.out y (zB z05.out hy)
  exact⟨p0,p1,p2,p3,p4⟩
 refine wp_region_noPanic ?_
 refine wp_region_held_drew (S:=λx=>Below w3.heap.size w3 x) (by as_aux_lemma=>kernel_rfl) ((Below.refl _ _).drew) (λhsH=> ?_)
 refine wpAnyH_take (i:=0) (v:= ?vs1) rfl (by as_aux_lemma=>kernel_rfl) (by as_aux_lemma=>kernel_rfl) (by as_aux_lemma=>kernel_rfl) (λ_ _ _ h=>h) (Or.inl ⟨by rfl, ?z7w⟩) (by assumption) ?_
 case z7w=>(intro x h;have e:=CK3.out x h;go_simp<;>rfl)
 change wpAnyH _ _ _ _ _ _ _ (Act.put _ (some 183) _) _
 simp only [Act.put,zQ,zR,zS]
 refine wpAnyH_take (i:=1) (v:= ?vs2) rfl (by as_aux_lemma=>kernel_rfl) (by as_aux_lemma=>kernel_rfl) (by as_aux_lemma=>kernel_rfl) (λ_ _ _ h=>h) (Or.inl ⟨by rfl, ?z7x⟩) (by assumption) ?_
 case z7x=>(intro x h;have e:=CK3.out x h;go_simp<;>rfl)
 change wpAnyH _ _ _ _ _ _ _ (Act.put _ (some 184) _) _
 simp only [Act.put,zQ,zR,zS]
 refine wpAnyH_take (i:=2) (v:= ?vs3) rfl (by as_aux_lemma=>kernel_rfl) (by as_aux_lemma=>kernel_rfl) (by as_aux_lemma=>kernel_rfl) (λ_ _ _ h=>h) (Or.inl ⟨by rfl, ?z7y⟩) (by assumption) ?_
 case z7y=>(intro x h;have e:=CK3.out x h;go_simp<;>rfl)
 change wpAnyH _ _ _ _ _ _ _ (Act.put _ (some 185) _) _
 simp only [Act.put,zQ,zR,zS]
 refine wpAnyH_take (i:=3) (v:= ?vs4) rfl (by as_aux_lemma=>kernel_rfl) (by as_aux_lemma=>kernel_rfl) (by as_aux_lemma=>kernel_rfl) (λ_ _ _ h=>h) (Or.inl ⟨by rfl, ?z7z⟩) (by assumption) ?_
 case z7z=>(intro x h;have e:=CK3.out x h;go_simp<;>rfl)
 change wpAnyH _ _ _ _ _ _ _ (Act.put _ (some 186) _) _
 simp only [Act.put,zQ,zR,zS]
 refine wpAnyH_take (i:=4) (v:= ?vs5) rfl (by as_aux_lemma=>kernel_rfl) (by as_aux_lemma=>kernel_rfl) (by as_aux_lemma=>kernel_rfl) (λ_ _ _ h=>h) (Or.inl ⟨by rfl, ?z7A⟩) (by assumption) ?_
 case z7A=>(intro x h;have e:=CK3.out x h;go_simp<;>rfl)
 change wpAnyH _ _ _ _ _ _ _ (Act.put _ (some 187) _) _
 simp only [Act.put,zQ,zR,zS]
 refine wpAnyH_take (i:=5) (v:= ?vs6) rfl (by as_aux_lemma=>kernel_rfl) (by as_aux_lemma=>kernel_rfl) (by as_aux_lemma=>kernel_rfl) (λ_ _ _ h=>h) (Or.inl ⟨by rfl, ?z7B⟩) (by assumption) ?_
 case z7B=>(intro x h;have e:=CK3.out x h;go_simp<;>rfl)
 change wpAnyH _ _ _ _ _ _ _ (Act.put _ (some 188) _) _
 simp only [Act.put,zQ,zR,zS]
 refine wpAnyH_take (i:=6) (v:= ?vs7) rfl (by as_aux_lemma=>kernel_rfl) (by as_aux_lemma=>kernel_rfl) (by as_aux_lemma=>kernel_rfl) (λ_ _ _ h=>h) (Or.inl ⟨by rfl, ?z7C⟩) (by assumption) ?_
 case z7C=>(intro x h;have e:=CK3.out x h;go_simp<;>rfl)
 change wpAnyH _ _ _ _ _ _ _ (Act.put _ (some 189) _) _
 simp only [Act.put,zQ,zR,zS]
 refine wpAnyH_take (i:=7) (v:= ?vs8) rfl (by as_aux_lemma=>kernel_rfl) (by as_aux_lemma=>kernel_rfl) (by as_aux_lemma=>kernel_rfl) (λ_ _ _ h=>h) (Or.inl ⟨by rfl, ?z7D⟩) (by assumption) ?_
 case z7D=>(intro x h;have e:=CK3.out x h;go_simp<;>rfl)
 change wpAnyH _ _ _ _ _ _ _ (Act.put _ (some 190) _) _
 simp only [Act.put,zQ,zR,zS]
 refine wpAnyH_take (i:=8) (v:= ?vs9) rfl (by as_aux_lemma=>kernel_rfl) (by as_aux_lemma=>kernel_rfl) (by as_aux_lemma=>kernel_rfl) (λ_ _ _ h=>h) (Or.inl ⟨by rfl, ?z7E⟩) (by assumption) ?_
 case z7E=>(intro x h;have e:=CK3.out x h;go_simp<;>rfl)
 change wpAnyH _ _ _ _ _ _ _ (Act.put _ (some 191) _) _
 simp only [Act.put,zQ,zR,zS]
 refine wpAnyH_take (i:=9) (v:= ?zBQ) rfl (by as_aux_lemma=>kernel_rfl) (by as_aux_lemma=>kernel_rfl) (by as_aux_lemma=>kernel_rfl) (λ_ _ _ h=>h) (Or.inl ⟨by rfl, ?z3h⟩) (by assumption) ?_
 case z3h=>(intro x h;have e:=CK3.out x h;go_simp<;>rfl)
 change wpAnyH _ _ _ _ _ _ _ (Act.put _ (some 192) _) _
 simp only [Act.put,zQ,zR,zS]
 refine wpAnyH_take (i:=10) (v:= ?zBR) rfl (by as_aux_lemma=>kernel_rfl) (by as_aux_lemma=>kernel_rfl) (by as_aux_lemma=>kernel_rfl) (λ_ _ _ h=>h) (Or.inl ⟨by rfl, ?z3i⟩) (by assumption) ?_
 case z3i=>(intro x h;have e:=CK3.out x h;go_simp<;>rfl)
 change wpAnyH _ _ _ _ _ _ _ (Act.put _ (some 193) _) _
 simp only [Act.put,zQ,zR,zS]
 refine wpAnyH_take (i:=11) (v:= ?zBS) rfl (by as_aux_lemma=>kernel_rfl) (by as_aux_lemma=>kernel_rfl) (by as_aux_lemma=>kernel_rfl) (λ_ _ _ h=>h) (Or.inl ⟨by rfl, ?z3j⟩) (by assumption) ?_
 case z3j=>(intro x h;have e:=CK3.out x h;go_simp<;>rfl)
 change wpAnyH _ _ _ _ _ _ _ (Act.put _ (some 194) _) _
 simp only [Act.put,zQ,zR,zS]
 refine wpAnyH_take (i:=12) (v:= ?zBT) rfl (by as_aux_lemma=>kernel_rfl) (by as_aux_lemma=>kernel_rfl) (by as_aux_lemma=>kernel_rfl) (λ_ _ _ h=>h) (Or.inl ⟨by rfl, ?z3k⟩) (by assumption) ?_
 case z3k=>(intro x h;have e:=CK3.out x h;go_simp<;>rfl)
 change wpAnyH _ _ _ _ _ _ _ (Act.put _ (some 195) _) _
 simp only [Act.put,zQ,zR,zS]
 refine wpAnyH_take (i:=13) (v:= ?zBU) rfl (by as_aux_lemma=>kernel_rfl) (by as_aux_lemma=>kernel_rfl) (by as_aux_lemma=>kernel_rfl) (λ_ _ _ h=>h) (Or.inl ⟨by rfl, ?z3l⟩) (by assumption) ?_
 case z3l=>(intro x h;have e:=CK3.out x h;go_simp<;>rfl)
 change wpAnyH _ _ _ _ _ _ _ (Act.put _ (some 196) _) _
 simp only [Act.put,zQ,zR,zS]
 refine wpAnyH_take (i:=14) (v:= ?zBV) rfl (by as_aux_lemma=>kernel_rfl) (by as_aux_lemma=>kernel_rfl) (by as_aux_lemma=>kernel_rfl) (λ_ _ _ h=>h) (Or.inl ⟨by rfl, ?z3m⟩) (by assumption) ?_
 case z3m=>(intro x h;have e:=CK3.out x h;go_simp<;>rfl)
 change wpAnyH _ _ _ _ _ _ _ (Act.put _ (some 19) _) _
 simp only [Act.put,zQ,zR,zS]
 refine wpAnyH_done (by as_aux_lemma=>kernel_rfl) ?_ _
 refine NoPanic.normal ?_
 obtain⟨w5,hdr⟩:∃Y,Y=w3.drew:=⟨_,rfl⟩
 rw [<-hdr] at hsH ⊢
 have z7F:=qh hsH
 clear hdr hsH
 have z07:=qh (zB z05.out z7F.out)
 obtain⟨-, -, -, -, -,e0,k5,l5, -⟩:=CK.out w5 z07.out
 clear CK zp zpn
 go_upto_region 26 with fail
 go_cut [20] from 197 to 215 (λs20 w'=>∃wr:Bool,s20= .bool wr/\Hid (0<D->wr=true)/\Hid (w'=w5))
 case first=>
  clear k5 l5
  by_cases o6:op=6
  ·subst o6
   clear S3 S5
   go_wp2_with fail
   go_meet
   case rel=>exact⟨_,rfl,λ_=>rfl,rfl⟩
  have n6:((op:Int)==6)=false:=by rw [beq_eq_false_iff_ne];exact o6
  by_cases o7:op=7
  ·subst o7
   clear S3 S5
   go_wp2_with fail
   go_meet
   case rel=>exact⟨_,rfl,λ_=>rfl,rfl⟩
  have n7:((op:Int)==7)=false:=by rw [beq_eq_false_iff_ne];exact o7
  by_cases o8:op=8
  ·subst o8
   clear S3 S5
   go_wp2_with fail
   go_meet
   case rel=>exact⟨_,rfl,λ_=>rfl,rfl⟩
  have n8:((op:Int)==8)=false:=by rw [beq_eq_false_iff_ne];exact o8
  by_cases o2:op=2
  ·subst o2
   by_cases om:mo=0
   ·subst om
    clear S3 S5
    go_wp2_with fail
    go_meet
    case rel=>exact⟨_,rfl,λ_=>rfl,rfl⟩
   have nm:((mo:Int)==0)=false:=by rw [beq_eq_false_iff_ne];exact om
   have SD:Hid (¬0<D):=λhd=>by rcases S3.out hd with h|h|h|h<;>omega
   clear S3 S5
   go_wp2_with fail
   go_meet
   case rel=>exact⟨_,rfl,λhd=>absurd hd SD.out,rfl⟩
  have n2:((op:Int)==2)=false:=by rw [beq_eq_false_iff_ne];exact o2
  have SD:Hid (¬0<D):=λhd=>by rcases S3.out hd with h|h|h|h<;>omega
  clear S3 S5
  go_wp2_with fail
  go_meet
  case rel=>exact⟨_,rfl,λhd=>absurd hd SD.out,rfl⟩
 case rest=>
 obtain⟨wr,rfl,HWR,HWE⟩:=hcut
 obtain⟨w6,rfl⟩:∃Y:World,Y=wc:=⟨_,rfl⟩
 have hwe:=HWE.out
 subst hwe
 have zb:decide ((al:Int)+1<(bl:Int))=false:=decide_eq_false (by omega)
 have zbn:decide (al+1<bl)=false:=decide_eq_false (by omega)
 have hab:(decide ((al:Int)<(bl:Int))=false/\decide (al<bl)=false)\/(decide ((al:Int)<(bl:Int))=true/\decide (al<bl)=true/\op=2):=by
  by_cases hh:al<bl
  ·exact .inr ⟨decide_eq_true (by omega),decide_eq_true hh,S5.out hh⟩
  exact .inl ⟨decide_eq_false (by omega),decide_eq_false hh⟩
 have hdd:(D=0\/D=1/\wr=true):=by
  by_cases hh:D=0
  ·exact .inl hh
  exact .inr ⟨by omega,HWR.out (by omega)⟩
 clear HWR HWE S3 S5
 rcases hdd with rfl|⟨rfl,rfl⟩
 all_goals
  clear zD zDn
  rcases hab with⟨zc,zcn⟩|⟨zc,zcn,rfl⟩
  all_goals
   go_wp2_with fail
   exact HSF.out _ _ _ _ _ _ _ _ _ _ _ _ _ _ _ _ _ _ _ _ _ _ _ _ _ _ _ _ _ _ _ _ _ _ _ _ _ _ _ _ _ _ _ _ _ _ _ _ _ _ _ _ _ _ _ _ _ _ _ _ _ _ _ _ _ _ _ _ _ _ _ _ _ _ _ _ _ _ _ _ _ _ _ _ _ _ _ _ _ _ _ _ _ _ _ _ _ _ _ _ _ _ _ _ _ _ _ _ _ _ _ _ _ _ _ _ _ _ _ _ _ z07.out
theorem z2K {s0 s1 s2 s3 s4 s5 s6 s7 s14 s18 s19 s20 s21 s22 s23 s24 s25 s26 s27 s28 s29 s30 s31 s32 s33 s34 s35 s36 s37 s38 s39 s40 s41 s42 s43 s44 s45 s46 s47 s48 s49 s50 s51 s52 s53 s54 s55 s56 s57 s58 s59 s60 s61 s62 s63 s64 s65 s66 s67 s68 s69 s70 s71 s72 s73 s74 s75 s76 s77 s78 s79 s80 s81 s82 s83 s84 s85 s86 s87 s88 s89 s90 s91 s92 s93 s94 s95 s96 s97 s98 s99 zfz zf0 zf1 zf2 zf3 zf4 zf5 zf6 zf7 zf8 zf9 zdG zdH zdI zdJ zdK zdL zdM zdN zdO zdP zdQ zdR zdS zdT zdU zdV zdW zdX zdY zdZ zhj zhk zhl zhm zhn zho zhp zhq zhr zhs zht zhu zhv zhw zhx zhy zhz zh0 zh1 zh2 zh3 zh4 zh5 zh6 zh7 zh8 zh9 zhA zhB zhC zhD zhE zhF zhG zhH zhI zhJ zhK zhL zhM zhN zhO zhP zhQ zhR zhS zhT zhU zhV zhW zhX zhY zhZ zia zib zic zid zie zif zih zii zij zik zil zim zin zio ziq zir zis zit ziu ziv ziw zix ziy ziz zi0 zi1 zi2 zi3 zi4 zi5 zi6 zi7 zi8 zi9 ziA ziB ziC ziD ziE ziF ziG ziH ziI ziJ ziK ziL ziM ziN ziO ziP ziQ ziR ziS ziT ziU ziV ziW ziX ziY ziZ zja zjb zjc zjd zje zea:Value} {wq:World} {gx gs gt g h mb wW mq vc i al abc bl bbc D:Nat} {aba bba:Option Addr} {apc x0 x1 x2 x3:Int} {bd:Bool}
  (m0:wq.cell? ⟨mb,wW+i*3,none⟩=some (.int .i64 2)) (b2:wq.cell? ⟨gs,2,none⟩=some (.bool bd)) (t2:wq.cell? ⟨gt,2,none⟩=some (.bool bd))
  (HKA:Hid (wq.heap[g]? =some (.cells #[.int .i64 apc, .int .i64 x0, .int .i64 x1, .int .i64 x2, .int .i64 x3, .slice aba al abc] 47 (0,0)))) (HKB:Hid (wq.heap[h]? =some (.cells #[.int .i64 apc, .int .i64 x0, .int .i64 x1, .int .i64 x2, .int .i64 x3, .slice bba bl bbc] 47 (0,0))))
  (hlt:i<mq) (qK:(i:Int)<(mq:Int)) (f1:bl+1=al) (zBW:al<=1000000) (zer:D<=1)
  {SF K:Act->World->Prop} {Q:Exit->Act->World->Prop} (hK:∀a w,SF a w->K a w)
  (HSF:Hid (∀(u19 u20 u131 zmd zme zmf zmg zmh zmi u138 u139 zmj zmk zml zmm zmn zmo zmp zmq zmr zms zmt zmu u152 zmv u154 zmw zmx zmy zmz zm0 zm1 zm2 u162 zm3 u164 zm4 zm5 zm6 zm7 zm8 zm9 zmA zmB zmC zmD zmE zmF zmG zmH zmI zmJ zmK zmL zmM zmN zmO zmP zmQ zmR zmS zmT zmU zmV u193 u194 zmW u196 zmX u198 zmY zmZ u201 zna znb znc znd u206 zne u208 znf u210 zng znh zni znj znk znl znm znn zno znp znq znr zns znt znu znv znw znx zny znz zn0 zn1 zn2 u234 zn3 u236 zn4 zn5 zn6 zn7 zn8 zn9 znA znB znC znD znE znF:Value) (w':World),Below wq.heap.size wq w'->SF ⟨#[s0,s1,s2,s3,s4,s5,s6,s7, .pointer (some ⟨gx,0,none⟩), .pointer (some ⟨gx+1,0,none⟩), .pointer (some ⟨gs,0,none⟩), .slice (some ⟨mb,wW,none⟩) mq vc, .int .i64 i, .pointer (some ⟨gt,0,none⟩),s14, .pointer (some ⟨g,0,none⟩), .pointer (some ⟨h,0,none⟩), .int .i64 (D:Nat),s18,u19,u20,s21,s22,s23,s24,s25,s26,s27,s28,s29,s30,s31,s32,s33,s34,s35,s36,s37,s38,s39,s40,s41,s42,s43,s44,s45,s46,s47,s48,s49,s50,s51,s52,s53,s54,s55,s56,s57,s58,s59,s60,s61,s62,s63,s64,s65,s66,s67,s68,s69,s70,s71,s72,s73,s74,s75,s76,s77,s78,s79,s80,s81,s82,s83,s84,s85,s86,s87,s88,s89,s90,s91,s92,s93,s94,s95,s96,s97,s98,s99,zfz,zf0,zf1,zf2,zf3,zf4,zf5,zf6,zf7,zf8,zf9,zdG,zdH,zdI,zdJ,zdK,zdL,zdM,zdN,zdO,zdP,zdQ,zdR,zdS,zdT,zdU,zdV,zdW,zdX,zdY,zdZ,u131,zmd,zme,zmf,zmg,zmh,zmi,u138,u139,zmj,zmk,zml,zmm,zmn,zmo,zmp,zmq,zmr,zms,zmt,zmu,u152,zmv,u154,zmw,zmx,zmy,zmz,zm0,zm1,zm2,u162,zm3,u164,zm4,zm5,zm6,zm7,zm8,zm9,zmA,zmB,zmC,zmD,zmE,zmF,zmG,zmH,zmI,zmJ,zmK,zmL,zmM,zmN,zmO,zmP,zmQ,zmR,zmS,zmT,zmU,zmV,u193,u194,zmW,u196,zmX,u198,zmY,zmZ,u201,zna,znb,znc,znd,u206,zne,u208,znf,u210,zng,znh,zni,znj,znk,znl,znm,znn,zno,znp,znq,znr,zns,znt,znu,znv,znw,znx,zny,znz,zn0,zn1,zn2,u234,zn3,u236,zn4,zn5,zn6,zn7,zn8,zn9,znA,znB,znC,znD,znE,znF,zea], []⟩ w')):
  Code.wp Tryz.prog zg8 (Exit.inBlock 1 (Exit.then K Q)) ⟨#[s0,s1,s2,s3,s4,s5,s6,s7, .pointer (some ⟨gx,0,none⟩), .pointer (some ⟨gx+1,0,none⟩), .pointer (some ⟨gs,0,none⟩), .slice (some ⟨mb,wW,none⟩) mq vc, .int .i64 i, .pointer (some ⟨gt,0,none⟩),s14, .pointer (some ⟨g,0,none⟩), .pointer (some ⟨h,0,none⟩), .int .i64 (D:Nat),s18,s19,s20,s21,s22,s23,s24,s25,s26,s27,s28,s29,s30,s31,s32,s33,s34,s35,s36,s37,s38,s39,s40,s41,s42,s43,s44,s45,s46,s47,s48,s49,s50,s51,s52,s53,s54,s55,s56,s57,s58,s59,s60,s61,s62,s63,s64,s65,s66,s67,s68,s69,s70,s71,s72,s73,s74,s75,s76,s77,s78,s79,s80,s81,s82,s83,s84,s85,s86,s87,s88,s89,s90,s91,s92,s93,s94,s95,s96,s97,s98,s99,zfz,zf0,zf1,zf2,zf3,zf4,zf5,zf6,zf7,zf8,zf9,zdG,zdH,zdI,zdJ,zdK,zdL,zdM,zdN,zdO,zdP,zdQ,zdR,zdS,zdT,zdU,zdV,zdW,zdX,zdY,zdZ,zhj,zhk,zhl,zhm,zhn,zho,zhp,zhq,zhr,zhs,zht,zhu,zhv,zhw,zhx,zhy,zhz,zh0,zh1,zh2,zh3,zh4,zh5,zh6,zh7,zh8,zh9,zhA,zhB,zhC,zhD,zhE,zhF,zhG,zhH,zhI,zhJ,zhK,zhL,zhM,zhN,zhO,zhP,zhQ,zhR,zhS,zhT,zhU,zhV,zhW,zhX,zhY,zhZ,zia,zib,zic,zid,zie,zif,zih,zii,zij,zik,zil,zim,zin,zio,ziq,zir,zis,zit,ziu,ziv,ziw,zix,ziy,ziz,zi0,zi1,zi2,zi3,zi4,zi5,zi6,zi7,zi8,zi9,ziA,ziB,ziC,ziD,ziE,ziF,ziG,ziH,ziI,ziJ,ziK,ziL,ziM,ziN,ziO,ziP,ziQ,ziR,ziS,ziT,ziU,ziV,ziW,ziX,ziY,ziZ,zja,zjb,zjc,zjd,zje,zea], []⟩ wq:=by
 unfold zg8 sfB
 conv=>arg 2;whnf
 have k0:=za HKA.out 0
 have k1:=za HKA.out 1
 have k2:=za HKA.out 2
 have k3:=za HKA.out 3
 have k4:=za HKA.out 4
 have k5:=za HKA.out 5
 have l0:=za HKB.out 0
 have l1:=za HKB.out 1
 have l2:=za HKB.out 2
 have l3:=za HKB.out 3
 have l4:=za HKB.out 4
 have l5:=za HKB.out 5
 have zf:((bl:Int) !=(al:Int) - 1)=false:=by simp;omega
 have zt:(bd !=bd)=false:=by cases bd<;>rfl
 have al1:1<=al:=by omega
 have zD:decide ((1:Int)<(D:Int))=false:=decide_eq_false (by omega)
 have zDn:decide (1<D)=false:=decide_eq_false (by omega)
 have HB0:=qh (Below.refl wq.heap.size wq)
 go_wp2_with fail
 exact HSF.out _ _ _ _ _ _ _ _ _ _ _ _ _ _ _ _ _ _ _ _ _ _ _ _ _ _ _ _ _ _ _ _ _ _ _ _ _ _ _ _ _ _ _ _ _ _ _ _ _ _ _ _ _ _ _ _ _ _ _ _ _ _ _ _ _ _ _ _ _ _ _ _ _ _ _ _ _ _ _ _ _ _ _ _ _ _ _ _ _ _ _ _ _ _ _ _ _ _ _ _ _ _ _ _ _ _ _ _ _ _ _ _ _ _ _ _ _ _ _ _ _ HB0.out
