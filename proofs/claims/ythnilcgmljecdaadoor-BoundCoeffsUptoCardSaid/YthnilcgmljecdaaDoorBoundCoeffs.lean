
/-
  The walk of similelaw22.BoundCoeffs.
-/
import Derived.Test.YthnilcgmljecdaaDoorB7
import Derived.Test.YthnilcgmljecdaaDoorLT
set_option linter.unusedVariables false
set_option linter.unusedSimpArgs false
set_option maxRecDepth 100000
set_option maxHeartbeats 16000000
namespace Go.Proofs.YthnilcgmljecdaaDoor
open Go.RowKit
theorem boundCoeffs_bad {pt:Option Addr} {nt ct:Nat} {T:List (List Int)} {w:World} (ht:Tb w) (hTB:TB w pt nt T 1048576) (hf:fitc T ≠ 0) :
  Calls Tryd.prog 8 #[.slice pt nt ct] w (Ret (Is (.bool true)) w):=by
 have hS:=Sep.init w
 refine went Tryd.func8 rfl (n:=92) rfl rfl ?_
 refine wseq (wreg (wl rfl (oassign (v:=.bool false) rfl rfl evc ?_)))
 refine wnil (thenN (wseq (wreg (wl rfl (omove (v:=.slice pt nt ct) rfl rfl (ev rfl rfl) ?_)))))
 refine wl rfl (ocall rfl rfl Tryd.call24 rfl (wbsumsE ((hTB.mono (by omega)).at hS) rfl hf) (args1 (ev rfl rfl)) ?_)
 rintro _ w1 ⟨_,_,rfl,⟨rfl,rfl⟩,hN⟩
 refine ⟨_,rfl,?_⟩
 replace hS:=hS.news hN; clear hN
 refine wl rfl (omove (v:=.tuple #[.slice none 0 0,.int .i64 ((fitc T))]) rfl rfl (ev rfl rfl) ?_)
 refine wl rfl (oextract (vs:=[.slice none 0 0,.int .i64 ((fitc T))]) (v:=.slice none 0 0) rfl rfl (ev rfl rfl) rfl ?_)
 refine wl rfl (oextract (vs:=[.slice none 0 0,.int .i64 ((fitc T))]) (v:=.int .i64 ((fitc T))) rfl rfl (ev rfl rfl) rfl ?_)
 refine wl rfl (oassign (v:=.slice none 0 0) rfl rfl (ev rfl rfl) ?_)
 refine wl rfl (oassign (v:=.int .i64 ((fitc T))) rfl rfl (ev rfl rfl) ?_)
 refine wnil (thenN (wseq (wreg (wl rfl (omove (v:=.slice pt nt ct) rfl rfl (ev rfl rfl) ?_)))))
 refine wl rfl (ocall rfl rfl Tryd.call25 rfl (wbcoeffsE ((hTB.mono (by omega)).at hS) rfl hf) (args1 (ev rfl rfl)) ?_)
 rintro _ w2 ⟨_,_,rfl,⟨rfl,rfl⟩,hN⟩
 refine ⟨_,rfl,?_⟩
 replace hS:=hS.news hN; clear hN
 refine wl rfl (omove (v:=.tuple #[.slice none 0 0,.int .i64 ((fitc T))]) rfl rfl (ev rfl rfl) ?_)
 refine wl rfl (oextract (vs:=[.slice none 0 0,.int .i64 ((fitc T))]) (v:=.slice none 0 0) rfl rfl (ev rfl rfl) rfl ?_)
 refine wl rfl (oextract (vs:=[.slice none 0 0,.int .i64 ((fitc T))]) (v:=.int .i64 ((fitc T))) rfl rfl (ev rfl rfl) rfl ?_)
 refine wl rfl (oassign (v:=.slice none 0 0) rfl rfl (ev rfl rfl) ?_)
 refine wl rfl (oassign (v:=.int .i64 ((fitc T))) rfl rfl (ev rfl rfl) ?_)
 refine wnil (thenN (wseq (wreg (wl rfl (omove (v:=.slice pt nt ct) rfl rfl (ev rfl rfl) ?_)))))
 refine wl rfl (ocall rfl rfl Tryd.call18 rfl (wbboundE ((hTB.mono (by omega)).at hS) rfl hf) (args1 (ev rfl rfl)) ?_)
 rintro _ w3 ⟨_,_,rfl,⟨rfl,rfl⟩,hN⟩
 refine ⟨_,rfl,?_⟩
 replace hS:=hS.news hN; clear hN
 refine wl rfl (omove (v:=.tuple #[.agg #[.bool false,.slice none 0 0],.int .i64 ((fitc T))]) rfl rfl (ev rfl rfl) ?_)
 refine wl rfl (oextract (vs:=[.agg #[.bool false,.slice none 0 0],.int .i64 ((fitc T))]) (v:=.agg #[.bool false,.slice none 0 0]) rfl rfl (ev rfl rfl) rfl ?_)
 refine wl rfl (oextract (vs:=[.agg #[.bool false,.slice none 0 0],.int .i64 ((fitc T))]) (v:=.int .i64 ((fitc T))) rfl rfl (ev rfl rfl) rfl ?_)
 refine wl rfl (oalloc [.bool false,.slice none 0 0] hS rfl rfl Tryd.zeroValue28 rfl ?_)
 clear hS; intro g4 w5 hS
 refine wl rfl (ostore [.bool false,.slice none 0 0] [.bool false,.slice none 0 0] Tryd.sizeOf28 hS 0 rfl rfl (ev rfl rfl) (ev (v:=.agg #[.bool false,.slice none 0 0]) rfl rfl) rfl rfl rfl rfl rfl rfl ?_)
 clear hS; intro w6 hS
 refine wl rfl (oassign (v:=.int .i64 ((fitc T))) rfl rfl (ev rfl rfl) ?_)
 refine wnil (thenN (wseq (wreg (wl rfl (omove (v:=.slice pt nt ct) rfl rfl (ev rfl rfl) ?_)))))
 refine wl rfl (ocall rfl rfl Tryd.call26 rfl (wbhadE ((hTB.mono (by omega)).at hS) rfl hf) (args1 (ev rfl rfl)) ?_)
 rintro _ w7 ⟨_,_,rfl,⟨rfl,rfl⟩,hN⟩
 refine ⟨_,rfl,?_⟩
 replace hS:=hS.news hN; clear hN
 refine wl rfl (omove (v:=.tuple #[.agg #[.bool false,.slice none 0 0],.int .i64 ((fitc T))]) rfl rfl (ev rfl rfl) ?_)
 refine wl rfl (oextract (vs:=[.agg #[.bool false,.slice none 0 0],.int .i64 ((fitc T))]) (v:=.agg #[.bool false,.slice none 0 0]) rfl rfl (ev rfl rfl) rfl ?_)
 refine wl rfl (oextract (vs:=[.agg #[.bool false,.slice none 0 0],.int .i64 ((fitc T))]) (v:=.int .i64 ((fitc T))) rfl rfl (ev rfl rfl) rfl ?_)
 refine wl rfl (oalloc [.bool false,.slice none 0 0] hS rfl rfl Tryd.zeroValue28 rfl ?_)
 clear hS; intro g8 w9 hS
 refine wl rfl (ostore [.bool false,.slice none 0 0] [.bool false,.slice none 0 0] Tryd.sizeOf28 hS 0 rfl rfl (ev rfl rfl) (ev (v:=.agg #[.bool false,.slice none 0 0]) rfl rfl) rfl rfl rfl rfl rfl rfl ?_)
 clear hS; intro w10 hS
 refine wl rfl (oassign (v:=.int .i64 ((fitc T))) rfl rfl (ev rfl rfl) ?_)
 refine wnil (thenN (wseq (wreg (wl rfl (omove (v:=.slice pt nt ct) rfl rfl (ev rfl rfl) ?_)))))
 refine wl rfl (ocall rfl rfl Tryd.call14 rfl (wqfitG ((hTB.mono (by omega)).at hS)) (args1 (ev rfl rfl)) ?_)
 rintro _ w11 ⟨_,_,rfl,⟨rfl,rfl⟩,hN⟩
 refine ⟨_,rfl,?_⟩
 replace hS:=hS.news hN; clear hN
 refine wl rfl (oassign (v:=.int .i64 ((fitc T))) rfl rfl (ev rfl rfl) ?_)
 refine wnil (thenN (wseq (wseq (wreg (wl rfl (omove (v:=.int .i64 ((fitc T))) rfl rfl (ev rfl rfl) ?_))))))
 refine wl rfl (obin (u:=.int .i64 ((fitc T))) (v:=.int .i64 0) (z:=.bool true) rfl rfl (ev rfl rfl) evc (bin_neq (neT hf)) ?_)
 refine wnil (thenN ?_)
 refine wT (ev rfl rfl) ?_
 refine wseq (wreg (wl rfl (omove (v:=.slice none 0 0) rfl rfl (ev rfl rfl) ?_)))
 refine wl rfl (omove (v:=.int .i64 ((fitc T))) rfl rfl (ev rfl rfl) ?_)
 refine wl rfl (omove (v:=.int .i64 ((fitc T))) rfl rfl (ev rfl rfl) ?_)
 refine wl rfl (ocall rfl rfl Tryd.call27 rfl (wblistE hf) (args4 (ev rfl rfl) (ev rfl rfl) evc (ev rfl rfl)) ?_)
 rintro _ w12 ⟨_,_,rfl,⟨rfl,rfl⟩,hN⟩
 refine ⟨_,rfl,?_⟩
 replace hS:=hS.news hN; clear hN
 refine wl rfl (omove (v:=.bool true) rfl rfl (ev rfl rfl) ?_)
 refine wlOn (e:=40) rfl rfl rfl rfl (omove (v:=.slice none 0 0) rfl rfl (ev rfl rfl) ?_)
 refine wlOn (e:=40) rfl rfl rfl rfl (omove (v:=.int .i64 ((fitc T))) rfl rfl (ev rfl rfl) ?_)
 refine wlOn (e:=40) rfl rfl rfl rfl (omove (v:=.int .i64 ((fitc T))) rfl rfl (ev rfl rfl) ?_)
 refine wlOn (e:=40) rfl rfl rfl rfl (ocall rfl rfl Tryd.call27 rfl (wblistE hf) (args4 (ev rfl rfl) (ev rfl rfl) evc (ev rfl rfl)) ?_)
 rintro _ w13 ⟨_,_,rfl,⟨rfl,rfl⟩,hN⟩
 refine ⟨_,rfl,?_⟩
 replace hS:=hS.news hN; clear hN
 refine wl rfl (opick (b:=true) (v:=.bool true) rfl rfl (ev rfl rfl) (ev rfl rfl) ?_)
 refine wl rfl (omove (v:=.bool true) rfl rfl (ev rfl rfl) ?_)
 refine wlOn (e:=46) rfl rfl rfl rfl (oload (vs:=[.bool false,.slice none 0 0]) aggZ hS 1 rfl rfl (ev rfl rfl) rfl rfl rfl ?_)
 refine wlOn (e:=46) rfl rfl rfl rfl (omove (v:=.int .i64 ((fitc T))) rfl rfl (ev rfl rfl) ?_)
 refine wlOn (e:=46) rfl rfl rfl rfl (obuild (ps:=#[]) (v:=.agg #[.bool false,.slice none 0 0]) rfl rfl (parts0) (fun w => by simp [go_sem,Instr.build,Instr.fill]) ?_)
 refine wlOn (e:=46) rfl rfl rfl rfl (omove (v:=.int .i64 ((fitc T))) rfl rfl (ev rfl rfl) ?_)
 refine wlOn (e:=46) rfl rfl rfl rfl (ocall rfl rfl Tryd.call28 rfl (wbnumE hf) (args4 (ev rfl rfl) (ev rfl rfl) (ev rfl rfl) (ev rfl rfl)) ?_)
 rintro _ w14 ⟨_,_,rfl,⟨rfl,rfl⟩,hN⟩
 refine ⟨_,rfl,?_⟩
 replace hS:=hS.news hN; clear hN
 refine wl rfl (opick (b:=true) (v:=.bool true) rfl rfl (ev rfl rfl) (ev rfl rfl) ?_)
 refine wl rfl (omove (v:=.bool true) rfl rfl (ev rfl rfl) ?_)
 refine wlOn (e:=53) rfl rfl rfl rfl (oload (vs:=[.bool false,.slice none 0 0]) aggZ hS 0 rfl rfl (ev rfl rfl) rfl rfl rfl ?_)
 refine wlOn (e:=53) rfl rfl rfl rfl (omove (v:=.int .i64 ((fitc T))) rfl rfl (ev rfl rfl) ?_)
 refine wlOn (e:=53) rfl rfl rfl rfl (obuild (ps:=#[]) (v:=.agg #[.bool false,.slice none 0 0]) rfl rfl (parts0) (fun w => by simp [go_sem,Instr.build,Instr.fill]) ?_)
 refine wlOn (e:=53) rfl rfl rfl rfl (omove (v:=.int .i64 ((fitc T))) rfl rfl (ev rfl rfl) ?_)
 refine wlOn (e:=53) rfl rfl rfl rfl (ocall rfl rfl Tryd.call28 rfl (wbnumE hf) (args4 (ev rfl rfl) (ev rfl rfl) (ev rfl rfl) (ev rfl rfl)) ?_)
 rintro _ w15 ⟨_,_,rfl,⟨rfl,rfl⟩,hN⟩
 refine ⟨_,rfl,?_⟩
 replace hS:=hS.news hN; clear hN
 refine wl rfl (opick (b:=true) (v:=.bool true) rfl rfl (ev rfl rfl) (ev rfl rfl) ?_)
 refine wl rfl (omove (v:=.bool true) rfl rfl (ev rfl rfl) ?_)
 refine wlOn (e:=60) rfl rfl rfl rfl (ocall rfl rfl Tryd.call10 rfl (wbawake (ht.at hS)) (args0 ) ?_)
 rintro _ w16 ⟨_,_,rfl,⟨rfl,rfl⟩,hN⟩
 refine ⟨_,rfl,?_⟩
 replace hS:=hS.news hN; clear hN
 refine wl rfl (opick (b:=true) (v:=.bool true) rfl rfl (ev rfl rfl) (ev rfl rfl) ?_)
 refine wl rfl (oassign (v:=.bool true) rfl rfl (ev rfl rfl) ?_)
 refine wnil (thenN ?_)
 refine wleave ?_
 refine thenR ?_
 refine wret1 Tryd.results8 (tellT (v:=.bool true) rfl rfl) ?_
 exact ⟨_,_,rfl,isI,hS.new0⟩
theorem boundCoeffs_good {pt:Option Addr} {nt ct:Nat} {T:List (List Int)} {w:World} (ht:Tb w) (hTB:TB w pt nt T 1048576) (hf:fitc T = 0) :
  Calls Tryd.prog 8 #[.slice pt nt ct] w (Ret (Is (.bool true)) w):=by
 obtain ⟨hr0,h0,h24⟩:=fitc_ok hf
 have hTl:=hTB.1
 rw [hTl] at h0 h24
 have hr:∀ L ∈ T,L.length = nt:=fun L hL => (hr0 L hL).trans hTl
 have hT6:TB w pt nt T 67108864:=hTB.mono (by omega)
 have hTb:=hTB.2.1
 have hWS:∀ z ∈ rsums T,Wd z 67108864:=fun z hz => by
  obtain ⟨j,hj⟩:=List.mem_iff_getElem?.1 hz
  have h9:=rsums_wdK hTB hr h24 j
  rw [List.getD,hj] at h9
  exact h9.mono (by omega)
 have hWC:∀ z ∈ coefs T,Wd z 67108864:=fun z hz => by
  obtain ⟨j,hj⟩:=List.mem_iff_getElem?.1 hz
  have h9:=coefs_wdS hTB hr h24 j
  rw [List.getD,hj] at h9
  exact h9.mono (by omega)
 have hS:=Sep.init w
 refine went Tryd.func8 rfl (n:=92) rfl rfl ?_
 refine wseq (wreg (wl rfl (oassign (v:=.bool false) rfl rfl evc ?_)))
 refine wnil (thenN (wseq (wreg (wl rfl (omove (v:=.slice pt nt ct) rfl rfl (ev rfl rfl) ?_)))))
 refine wl rfl (ocall rfl rfl Tryd.call24 rfl (wbsums (hT6.at hS) hr h0 h24) (args1 (ev rfl rfl)) ?_)
 rintro _ w1 ⟨_,_,rfl,⟨pS1,cS1,QS1,hQS1,rfl,rfl⟩,hN⟩
 refine ⟨_,rfl,?_⟩
 replace hS:=hS.news hN; clear hN
 refine wl rfl (omove (v:=.tuple #[.slice pS1 nt cS1,.int .i64 0]) rfl rfl (ev rfl rfl) ?_)
 refine wl rfl (oextract (vs:=[.slice pS1 nt cS1,.int .i64 0]) (v:=.slice pS1 nt cS1) rfl rfl (ev rfl rfl) rfl ?_)
 refine wl rfl (oextract (vs:=[.slice pS1 nt cS1,.int .i64 0]) (v:=.int .i64 0) rfl rfl (ev rfl rfl) rfl ?_)
 refine wl rfl (oassign (v:=.slice pS1 nt cS1) rfl rfl (ev rfl rfl) ?_)
 refine wl rfl (oassign (v:=.int .i64 0) rfl rfl (ev rfl rfl) ?_)
 refine wnil (thenN (wseq (wreg (wl rfl (omove (v:=.slice pt nt ct) rfl rfl (ev rfl rfl) ?_)))))
 refine wl rfl (ocall rfl rfl Tryd.call25 rfl (wbcoeffs (hT6.at hS) hr h0 h24) (args1 (ev rfl rfl)) ?_)
 rintro _ w2 ⟨_,_,rfl,⟨pC1,cC1,QC1,hQC1,rfl,rfl⟩,hN⟩
 refine ⟨_,rfl,?_⟩
 replace hS:=hS.news hN; clear hN
 refine wl rfl (omove (v:=.tuple #[.slice pC1 (nt + 1) cC1,.int .i64 0]) rfl rfl (ev rfl rfl) ?_)
 refine wl rfl (oextract (vs:=[.slice pC1 (nt + 1) cC1,.int .i64 0]) (v:=.slice pC1 (nt + 1) cC1) rfl rfl (ev rfl rfl) rfl ?_)
 refine wl rfl (oextract (vs:=[.slice pC1 (nt + 1) cC1,.int .i64 0]) (v:=.int .i64 0) rfl rfl (ev rfl rfl) rfl ?_)
 refine wl rfl (oassign (v:=.slice pC1 (nt + 1) cC1) rfl rfl (ev rfl rfl) ?_)
 refine wl rfl (oassign (v:=.int .i64 0) rfl rfl (ev rfl rfl) ?_)
 refine wnil (thenN (wseq (wreg (wl rfl (omove (v:=.slice pt nt ct) rfl rfl (ev rfl rfl) ?_)))))
 refine wl rfl (ocall rfl rfl Tryd.call18 rfl (wbbound (hT6.at hS) hr h0 h24) (args1 (ev rfl rfl)) ?_)
 rintro _ w3 ⟨_,_,rfl,⟨pB1,nB1,cB1,rfl,rfl⟩,hN⟩
 refine ⟨_,rfl,?_⟩
 replace hS:=hS.news hN; clear hN
 refine wl rfl (omove (v:=.tuple #[.agg #[.bool (ng ((mxA (coefs T) (nt + 1)))),.slice pB1 nB1 cB1],.int .i64 0]) rfl rfl (ev rfl rfl) ?_)
 refine wl rfl (oextract (vs:=[.agg #[.bool (ng ((mxA (coefs T) (nt + 1)))),.slice pB1 nB1 cB1],.int .i64 0]) (v:=.agg #[.bool (ng ((mxA (coefs T) (nt + 1)))),.slice pB1 nB1 cB1]) rfl rfl (ev rfl rfl) rfl ?_)
 refine wl rfl (oextract (vs:=[.agg #[.bool (ng ((mxA (coefs T) (nt + 1)))),.slice pB1 nB1 cB1],.int .i64 0]) (v:=.int .i64 0) rfl rfl (ev rfl rfl) rfl ?_)
 refine wl rfl (oalloc [.bool false,.slice none 0 0] hS rfl rfl Tryd.zeroValue28 rfl ?_)
 clear hS; intro g4 w5 hS
 refine wl rfl (ostore [.bool (ng ((mxA (coefs T) (nt + 1)))),.slice pB1 nB1 cB1] [.bool (ng ((mxA (coefs T) (nt + 1)))),.slice pB1 nB1 cB1] Tryd.sizeOf28 hS 0 rfl rfl (ev rfl rfl) (ev (v:=.agg #[.bool (ng ((mxA (coefs T) (nt + 1)))),.slice pB1 nB1 cB1]) rfl rfl) rfl rfl rfl rfl rfl rfl ?_)
 clear hS; intro w6 hS
 refine wl rfl (oassign (v:=.int .i64 0) rfl rfl (ev rfl rfl) ?_)
 refine wnil (thenN (wseq (wreg (wl rfl (omove (v:=.slice pt nt ct) rfl rfl (ev rfl rfl) ?_)))))
 refine wl rfl (ocall rfl rfl Tryd.call26 rfl (wbhad (hTB.at hS) hr h0 h24) (args1 (ev rfl rfl)) ?_)
 rintro _ w7 ⟨_,_,rfl,⟨pH1,nH1,cH1,rfl,rfl⟩,hN⟩
 refine ⟨_,rfl,?_⟩
 replace hS:=hS.news hN; clear hN
 refine wl rfl (omove (v:=.tuple #[.agg #[.bool (ng (((hadN (hadP T nt):Nat):Int))),.slice pH1 nH1 cH1],.int .i64 0]) rfl rfl (ev rfl rfl) ?_)
 refine wl rfl (oextract (vs:=[.agg #[.bool (ng (((hadN (hadP T nt):Nat):Int))),.slice pH1 nH1 cH1],.int .i64 0]) (v:=.agg #[.bool (ng (((hadN (hadP T nt):Nat):Int))),.slice pH1 nH1 cH1]) rfl rfl (ev rfl rfl) rfl ?_)
 refine wl rfl (oextract (vs:=[.agg #[.bool (ng (((hadN (hadP T nt):Nat):Int))),.slice pH1 nH1 cH1],.int .i64 0]) (v:=.int .i64 0) rfl rfl (ev rfl rfl) rfl ?_)
 refine wl rfl (oalloc [.bool false,.slice none 0 0] hS rfl rfl Tryd.zeroValue28 rfl ?_)
 clear hS; intro g8 w9 hS
 refine wl rfl (ostore [.bool (ng (((hadN (hadP T nt):Nat):Int))),.slice pH1 nH1 cH1] [.bool (ng (((hadN (hadP T nt):Nat):Int))),.slice pH1 nH1 cH1] Tryd.sizeOf28 hS 0 rfl rfl (ev rfl rfl) (ev (v:=.agg #[.bool (ng (((hadN (hadP T nt):Nat):Int))),.slice pH1 nH1 cH1]) rfl rfl) rfl rfl rfl rfl rfl rfl ?_)
 clear hS; intro w10 hS
 refine wl rfl (oassign (v:=.int .i64 0) rfl rfl (ev rfl rfl) ?_)
 refine wnil (thenN (wseq (wreg (wl rfl (omove (v:=.slice pt nt ct) rfl rfl (ev rfl rfl) ?_)))))
 refine wl rfl (ocall rfl rfl Tryd.call14 rfl ((show Calls _ _ _ _ (Ret (Is (.int .i64 0)) _) from by rw [← hf]; exact wqfitG (hT6.at hS))) (args1 (ev rfl rfl)) ?_)
 rintro _ w11 ⟨_,_,rfl,⟨rfl,rfl⟩,hN⟩
 refine ⟨_,rfl,?_⟩
 replace hS:=hS.news hN; clear hN
 refine wl rfl (oassign (v:=.int .i64 0) rfl rfl (ev rfl rfl) ?_)
 refine wnil (thenN (wseq (wseq (wreg (wl rfl (omove (v:=.int .i64 0) rfl rfl (ev rfl rfl) ?_))))))
 refine wl rfl (obin (u:=.int .i64 0) (v:=.int .i64 0) (z:=.bool false) rfl rfl (ev rfl rfl) evc (bin_neq (by decide)) ?_)
 refine wnil (thenN ?_)
 refine wF (ev rfl rfl) ?_
 refine wskip (thenN (wseq ?_))
 refine wstage 30 [63,64,65,66,67,68,69,70,71,72,73,74,75,76,77,78,79,80,81,82,83,84,85,86,87,88,89,90,91,2] [[],[],[],[2],[0,1,3,2],[4,0,1,2,3],[5,0,1,2,3,4],[5,0,1,2,3,4],[5,0,1,2,3,4],[5,8,0,1,2,3,4],[5,6,7,9,0,1,2,3,4,8],[5,10,0,1,2,3,4,6,7,8,9],[11,0,1,2,3,4,5,6,7,8,9,10],[12,0,1,2,3,4,5,6,7,8,9,10,11],[12,0,1,2,3,4,5,6,7,8,9,10,11],[12,0,1,2,3,4,5,6,7,8,9,10,11],[12,15,0,1,2,3,4,5,6,7,8,9,10,11],[12,13,14,16,0,1,2,3,4,5,6,7,8,9,10,11,15],[12,17,0,1,2,3,4,5,6,7,8,9,10,11,13,14,15,16],[18,0,1,2,3,4,5,6,7,8,9,10,11,12,13,14,15,16,17],[19,0,1,2,3,4,5,6,7,8,9,10,11,12,13,14,15,16,17,18],[19,0,1,2,3,4,5,6,7,8,9,10,11,12,13,14,15,16,17,18],[19,0,1,2,3,4,5,6,7,8,9,10,11,12,13,14,15,16,17,18],[19,22,0,1,2,3,4,5,6,7,8,9,10,11,12,13,14,15,16,17,18],[19,20,21,23,0,1,2,3,4,5,6,7,8,9,10,11,12,13,14,15,16,17,18,22],[19,24,0,1,2,3,4,5,6,7,8,9,10,11,12,13,14,15,16,17,18,20,21,22,23],[25,0,1,2,3,4,5,6,7,8,9,10,11,12,13,14,15,16,17,18,19,20,21,22,23,24],[26,0,1,2,3,4,5,6,7,8,9,10,11,12,13,14,15,16,17,18,19,20,21,22,23,24,25],[26,27,0,1,2,3,4,5,6,7,8,9,10,11,12,13,14,15,16,17,18,19,20,21,22,23,24,25],[28,0,1,2,3,4,5,6,7,8,9,10,11,12,13,14,15,16,17,18,19,20,21,22,23,24,25,26,27]] [[],[],[],[],[],[],[],[],[],[],[],[],[],[],[],[],[],[],[],[],[],[],[],[],[],[],[],[],[],[]] [] [] (fun i9 => ([fun _ => Is (.slice pS1 nt cS1),fun _ => Is (.int .i64 0),fun _ => Is (.slice pt nt ct),fun _ => LIt nt (rsums T),fun _ => Is (.bool true),fun _ => Is (.bool true),fun _ => Is (.slice pC1 (nt + 1) cC1),fun _ => Is (.int .i64 0),fun _ => Is (.slice pt nt ct),fun _ => LIt (nt + 1) (coefs T),fun _ => Is (.bool true),fun _ => Is (.bool true),fun _ => Is (.bool true),fun _ => Is (.agg #[.bool (ng ((mxA (coefs T) (nt + 1)))),.slice pB1 nB1 cB1]),fun _ => Is (.int .i64 0),fun _ => Is (.slice pt nt ct),fun _ => Zt ((mxA (coefs T) (nt + 1))),fun _ => Is (.bool true),fun _ => Is (.bool true),fun _ => Is (.bool true),fun _ => Is (.agg #[.bool (ng (((hadN (hadP T nt):Nat):Int))),.slice pH1 nH1 cH1]),fun _ => Is (.int .i64 0),fun _ => Is (.slice pt nt ct),fun _ => Zt (((hadN (hadP T nt):Nat):Int)),fun _ => Is (.bool true),fun _ => Is (.bool true),fun _ => Is (.bool true),fun _ => Is (.bool true),fun _ => Is (.bool true),fun _ => Is (.bool true)]:List (List Value → Tell)).getD i9 (fun _ _ _ => False)) (heldNil) (fun d _ _ _ _ h => (by cases d <;> exact h)) (by kernel_rfl) (by kernel_rfl) (by kernel_rfl) hS ?_ ?_
 ·
  refine stepsCons rfl (fun Q f' w' ρ S ho hT hS hB => ?_) ?_
  ·exact .inl ⟨want_none rfl,omove (v:=.slice pS1 nt cS1) rfl rfl (ev rfl (ho 3 rfl)) ⟨_,_,rfl,isI,New.same _⟩⟩
  refine stepsCons rfl (fun Q f' w' ρ S ho hT hS hB => ?_) ?_
  ·exact .inl ⟨want_none rfl,omove (v:=.int .i64 0) rfl rfl (ev rfl (ho 4 rfl)) ⟨_,_,rfl,isI,New.same _⟩⟩
  refine stepsCons rfl (fun Q f' w' ρ S ho hT hS hB => ?_) ?_
  ·exact .inl ⟨want_none rfl,omove (v:=.slice pt nt ct) rfl rfl (ev rfl (ho 0 rfl)) ⟨_,_,rfl,isI,New.same _⟩⟩
  refine stepsCons rfl (fun Q f' w' ρ S ho hT hS hB => ?_) ?_
  ·obtain ⟨hv2,hr2⟩:=(hT 2 65 rfl rfl:(Is (.slice pt nt ct)) _ _)
   obtain hS:=hS.flat1 hr2
   exact .inl ⟨want_none rfl,ocall rfl rfl Tryd.call29 rfl (wqsums (hTB.at hS) hr h0 h24) (args1 (ev rfl hv2)) callN⟩
  refine stepsCons rfl (fun Q f' w' ρ S ho hT hS hB => ?_) ?_
  ·obtain ⟨hv0,hr0⟩:=(hT 0 63 rfl rfl:(Is (.slice pS1 nt cS1)) _ _)
   obtain ⟨hv1,hr1⟩:=(hT 1 64 rfl rfl:(Is (.int .i64 0)) _ _)
   obtain ⟨pS2,cS2,QS2,hQS2,hv3,hr3⟩:=(hT 3 66 rfl rfl:(LIt nt (rsums T)) _ _)
   obtain hS:=hS.flat3 hr0 hr1 hr3
   exact .inl ⟨want_none rfl,ocall rfl rfl Tryd.call27 rfl (wblist0 (L:=((rsums T).map fun z => (ng z,lim z.natAbs))) (show ZL _ _ _ ((rsums T).map fun z => (ng z,lim z.natAbs)) 67108864 from hQS1 ▸ hS.zll 5 rfl (by omega) (hQS1 ▸ hWS)) (show ZL _ _ _ ((rsums T).map fun z => (ng z,lim z.natAbs)) 67108864 from hQS2 ▸ hS.zll 6 rfl (by omega) (hQS2 ▸ hWS))) (args4 (ev rfl hv0) (ev rfl hv1) (ev rfl hv3) evc) callN⟩
  refine stepsCons rfl (fun Q f' w' ρ S ho hT hS hB => ?_) ?_
  ·obtain ⟨hv4,hr4⟩:=(hT 4 67 rfl rfl:(Is (.bool true)) _ _)
   obtain hS:=hS.flat1 hr4
   exact .inl ⟨want_none rfl,omove (v:=.bool true) rfl rfl (ev rfl hv4) ⟨_,_,rfl,isI,New.same _⟩⟩
  refine stepsCons rfl (fun Q f' w' ρ S ho hT hS hB => ?_) ?_
  ·obtain ⟨hv5,hr5⟩:=(hT 5 68 rfl rfl:(Is (.bool true)) _ _)
   obtain hS:=hS.flat1 hr5
   exact .inl ⟨want_on (e:=68) rfl rfl rfl hv5,omove (v:=.slice pC1 (nt + 1) cC1) rfl rfl (ev rfl (ho 5 rfl)) ⟨_,_,rfl,isI,New.same _⟩⟩
  refine stepsCons rfl (fun Q f' w' ρ S ho hT hS hB => ?_) ?_
  ·obtain ⟨hv5,hr5⟩:=(hT 5 68 rfl rfl:(Is (.bool true)) _ _)
   obtain hS:=hS.flat1 hr5
   exact .inl ⟨want_on (e:=68) rfl rfl rfl hv5,omove (v:=.int .i64 0) rfl rfl (ev rfl (ho 6 rfl)) ⟨_,_,rfl,isI,New.same _⟩⟩
  refine stepsCons rfl (fun Q f' w' ρ S ho hT hS hB => ?_) ?_
  ·obtain ⟨hv5,hr5⟩:=(hT 5 68 rfl rfl:(Is (.bool true)) _ _)
   obtain hS:=hS.flat1 hr5
   exact .inl ⟨want_on (e:=68) rfl rfl rfl hv5,omove (v:=.slice pt nt ct) rfl rfl (ev rfl (ho 0 rfl)) ⟨_,_,rfl,isI,New.same _⟩⟩
  refine stepsCons rfl (fun Q f' w' ρ S ho hT hS hB => ?_) ?_
  ·obtain ⟨hv5,hr5⟩:=(hT 5 68 rfl rfl:(Is (.bool true)) _ _)
   obtain ⟨hv8,hr8⟩:=(hT 8 71 rfl rfl:(Is (.slice pt nt ct)) _ _)
   obtain hS:=hS.flat2 hr5 hr8
   exact .inl ⟨want_on (e:=68) rfl rfl rfl hv5,ocall rfl rfl Tryd.call30 rfl (wqcoeffs (hTB.at hS) hr h0 h24) (args1 (ev rfl hv8)) callN⟩
  refine stepsCons rfl (fun Q f' w' ρ S ho hT hS hB => ?_) ?_
  ·obtain ⟨hv5,hr5⟩:=(hT 5 68 rfl rfl:(Is (.bool true)) _ _)
   obtain ⟨hv6,hr6⟩:=(hT 6 69 rfl rfl:(Is (.slice pC1 (nt + 1) cC1)) _ _)
   obtain ⟨hv7,hr7⟩:=(hT 7 70 rfl rfl:(Is (.int .i64 0)) _ _)
   obtain ⟨pC2,cC2,QC2,hQC2,hv9,hr9⟩:=(hT 9 72 rfl rfl:(LIt (nt + 1) (coefs T)) _ _)
   obtain hS:=hS.flat4 hr5 hr6 hr7 hr9
   exact .inl ⟨want_on (e:=68) rfl rfl rfl hv5,ocall rfl rfl Tryd.call27 rfl (wblist0 (L:=((coefs T).map fun z => (ng z,lim z.natAbs))) (show ZL _ _ _ ((coefs T).map fun z => (ng z,lim z.natAbs)) 67108864 from hQC1 ▸ hS.zll 4 rfl (by omega) (hQC1 ▸ hWC)) (show ZL _ _ _ ((coefs T).map fun z => (ng z,lim z.natAbs)) 67108864 from hQC2 ▸ hS.zll 6 rfl (by omega) (hQC2 ▸ hWC))) (args4 (ev rfl hv6) (ev rfl hv7) (ev rfl hv9) evc) callN⟩
  refine stepsCons rfl (fun Q f' w' ρ S ho hT hS hB => ?_) ?_
  ·obtain ⟨hv5,hr5⟩:=(hT 5 68 rfl rfl:(Is (.bool true)) _ _)
   obtain ⟨hv10,hr10⟩:=(hT 10 73 rfl rfl:(Is (.bool true)) _ _)
   obtain hS:=hS.flat2 hr5 hr10
   exact .inl ⟨want_none rfl,opick (b:=true) (v:=.bool true) rfl rfl (ev rfl hv5) (ev rfl hv10) ⟨_,_,rfl,isI,New.same _⟩⟩
  refine stepsCons rfl (fun Q f' w' ρ S ho hT hS hB => ?_) ?_
  ·obtain ⟨hv11,hr11⟩:=(hT 11 74 rfl rfl:(Is (.bool true)) _ _)
   obtain hS:=hS.flat1 hr11
   exact .inl ⟨want_none rfl,omove (v:=.bool true) rfl rfl (ev rfl hv11) ⟨_,_,rfl,isI,New.same _⟩⟩
  refine stepsCons rfl (fun Q f' w' ρ S ho hT hS hB => ?_) ?_
  ·obtain ⟨hv12,hr12⟩:=(hT 12 75 rfl rfl:(Is (.bool true)) _ _)
   obtain hS:=hS.flat1 hr12
   exact .inl ⟨want_on (e:=75) rfl rfl rfl hv12,oload (vs:=[.bool (ng ((mxA (coefs T) (nt + 1)))),.slice pB1 nB1 cB1]) aggZ hS 2 rfl rfl (ev rfl (ho 7 rfl)) rfl rfl rfl ⟨_,_,rfl,isI,New.same _⟩⟩
  refine stepsCons rfl (fun Q f' w' ρ S ho hT hS hB => ?_) ?_
  ·obtain ⟨hv12,hr12⟩:=(hT 12 75 rfl rfl:(Is (.bool true)) _ _)
   obtain hS:=hS.flat1 hr12
   exact .inl ⟨want_on (e:=75) rfl rfl rfl hv12,omove (v:=.int .i64 0) rfl rfl (ev rfl (ho 8 rfl)) ⟨_,_,rfl,isI,New.same _⟩⟩
  refine stepsCons rfl (fun Q f' w' ρ S ho hT hS hB => ?_) ?_
  ·obtain ⟨hv12,hr12⟩:=(hT 12 75 rfl rfl:(Is (.bool true)) _ _)
   obtain hS:=hS.flat1 hr12
   exact .inl ⟨want_on (e:=75) rfl rfl rfl hv12,omove (v:=.slice pt nt ct) rfl rfl (ev rfl (ho 0 rfl)) ⟨_,_,rfl,isI,New.same _⟩⟩
  refine stepsCons rfl (fun Q f' w' ρ S ho hT hS hB => ?_) ?_
  ·obtain ⟨hv12,hr12⟩:=(hT 12 75 rfl rfl:(Is (.bool true)) _ _)
   obtain ⟨hv15,hr15⟩:=(hT 15 78 rfl rfl:(Is (.slice pt nt ct)) _ _)
   obtain hS:=hS.flat2 hr12 hr15
   exact .inl ⟨want_on (e:=75) rfl rfl rfl hv12,ocall rfl rfl Tryd.call31 rfl (wqbound (hTB.at hS) hr h0 h24) (args1 (ev rfl hv15)) callN⟩
  refine stepsCons rfl (fun Q f' w' ρ S ho hT hS hB => ?_) ?_
  ·obtain ⟨hv12,hr12⟩:=(hT 12 75 rfl rfl:(Is (.bool true)) _ _)
   obtain ⟨hv13,hr13⟩:=(hT 13 76 rfl rfl:(Is (.agg #[.bool (ng ((mxA (coefs T) (nt + 1)))),.slice pB1 nB1 cB1])) _ _)
   obtain ⟨hv14,hr14⟩:=(hT 14 77 rfl rfl:(Is (.int .i64 0)) _ _)
   obtain ⟨pB2,nB2,cB2,hv16,hr16⟩:=(hT 16 79 rfl rfl:(Zt ((mxA (coefs T) (nt + 1)))) _ _)
   obtain hS:=hS.flat4 hr12 hr13 hr14 hr16
   exact .inl ⟨want_on (e:=75) rfl rfl rfl hv12,ocall rfl rfl Tryd.call28 rfl (wbnum0 (x:=(mxA (coefs T) (nt + 1))) (hS.sl 3 rfl) (hS.sl 6 rfl)) (args4 (ev rfl hv13) (ev rfl hv14) (ev rfl hv16) evc) callN⟩
  refine stepsCons rfl (fun Q f' w' ρ S ho hT hS hB => ?_) ?_
  ·obtain ⟨hv12,hr12⟩:=(hT 12 75 rfl rfl:(Is (.bool true)) _ _)
   obtain ⟨hv17,hr17⟩:=(hT 17 80 rfl rfl:(Is (.bool true)) _ _)
   obtain hS:=hS.flat2 hr12 hr17
   exact .inl ⟨want_none rfl,opick (b:=true) (v:=.bool true) rfl rfl (ev rfl hv12) (ev rfl hv17) ⟨_,_,rfl,isI,New.same _⟩⟩
  refine stepsCons rfl (fun Q f' w' ρ S ho hT hS hB => ?_) ?_
  ·obtain ⟨hv18,hr18⟩:=(hT 18 81 rfl rfl:(Is (.bool true)) _ _)
   obtain hS:=hS.flat1 hr18
   exact .inl ⟨want_none rfl,omove (v:=.bool true) rfl rfl (ev rfl hv18) ⟨_,_,rfl,isI,New.same _⟩⟩
  refine stepsCons rfl (fun Q f' w' ρ S ho hT hS hB => ?_) ?_
  ·obtain ⟨hv19,hr19⟩:=(hT 19 82 rfl rfl:(Is (.bool true)) _ _)
   obtain hS:=hS.flat1 hr19
   exact .inl ⟨want_on (e:=82) rfl rfl rfl hv19,oload (vs:=[.bool (ng (((hadN (hadP T nt):Nat):Int))),.slice pH1 nH1 cH1]) aggZ hS 0 rfl rfl (ev rfl (ho 9 rfl)) rfl rfl rfl ⟨_,_,rfl,isI,New.same _⟩⟩
  refine stepsCons rfl (fun Q f' w' ρ S ho hT hS hB => ?_) ?_
  ·obtain ⟨hv19,hr19⟩:=(hT 19 82 rfl rfl:(Is (.bool true)) _ _)
   obtain hS:=hS.flat1 hr19
   exact .inl ⟨want_on (e:=82) rfl rfl rfl hv19,omove (v:=.int .i64 0) rfl rfl (ev rfl (ho 10 rfl)) ⟨_,_,rfl,isI,New.same _⟩⟩
  refine stepsCons rfl (fun Q f' w' ρ S ho hT hS hB => ?_) ?_
  ·obtain ⟨hv19,hr19⟩:=(hT 19 82 rfl rfl:(Is (.bool true)) _ _)
   obtain hS:=hS.flat1 hr19
   exact .inl ⟨want_on (e:=82) rfl rfl rfl hv19,omove (v:=.slice pt nt ct) rfl rfl (ev rfl (ho 0 rfl)) ⟨_,_,rfl,isI,New.same _⟩⟩
  refine stepsCons rfl (fun Q f' w' ρ S ho hT hS hB => ?_) ?_
  ·obtain ⟨hv19,hr19⟩:=(hT 19 82 rfl rfl:(Is (.bool true)) _ _)
   obtain ⟨hv22,hr22⟩:=(hT 22 85 rfl rfl:(Is (.slice pt nt ct)) _ _)
   obtain hS:=hS.flat2 hr19 hr22
   exact .inl ⟨want_on (e:=82) rfl rfl rfl hv19,ocall rfl rfl Tryd.call32 rfl (wqhad (hTB.at hS) hr h0 h24) (args1 (ev rfl hv22)) callN⟩
  refine stepsCons rfl (fun Q f' w' ρ S ho hT hS hB => ?_) ?_
  ·obtain ⟨hv19,hr19⟩:=(hT 19 82 rfl rfl:(Is (.bool true)) _ _)
   obtain ⟨hv20,hr20⟩:=(hT 20 83 rfl rfl:(Is (.agg #[.bool (ng (((hadN (hadP T nt):Nat):Int))),.slice pH1 nH1 cH1])) _ _)
   obtain ⟨hv21,hr21⟩:=(hT 21 84 rfl rfl:(Is (.int .i64 0)) _ _)
   obtain ⟨pH2,nH2,cH2,hv23,hr23⟩:=(hT 23 86 rfl rfl:(Zt (((hadN (hadP T nt):Nat):Int))) _ _)
   obtain hS:=hS.flat4 hr19 hr20 hr21 hr23
   exact .inl ⟨want_on (e:=82) rfl rfl rfl hv19,ocall rfl rfl Tryd.call28 rfl (wbnum0 (x:=((hadN (hadP T nt):Nat):Int)) (hS.sl 1 rfl) (hS.sl 6 rfl)) (args4 (ev rfl hv20) (ev rfl hv21) (ev rfl hv23) evc) callN⟩
  refine stepsCons rfl (fun Q f' w' ρ S ho hT hS hB => ?_) ?_
  ·obtain ⟨hv19,hr19⟩:=(hT 19 82 rfl rfl:(Is (.bool true)) _ _)
   obtain ⟨hv24,hr24⟩:=(hT 24 87 rfl rfl:(Is (.bool true)) _ _)
   obtain hS:=hS.flat2 hr19 hr24
   exact .inl ⟨want_none rfl,opick (b:=true) (v:=.bool true) rfl rfl (ev rfl hv19) (ev rfl hv24) ⟨_,_,rfl,isI,New.same _⟩⟩
  refine stepsCons rfl (fun Q f' w' ρ S ho hT hS hB => ?_) ?_
  ·obtain ⟨hv25,hr25⟩:=(hT 25 88 rfl rfl:(Is (.bool true)) _ _)
   obtain hS:=hS.flat1 hr25
   exact .inl ⟨want_none rfl,omove (v:=.bool true) rfl rfl (ev rfl hv25) ⟨_,_,rfl,isI,New.same _⟩⟩
  refine stepsCons rfl (fun Q f' w' ρ S ho hT hS hB => ?_) ?_
  ·obtain ⟨hv26,hr26⟩:=(hT 26 89 rfl rfl:(Is (.bool true)) _ _)
   obtain hS:=hS.flat1 hr26
   exact .inl ⟨want_on (e:=89) rfl rfl rfl hv26,ocall rfl rfl Tryd.call10 rfl (wbawake (ht.at hS)) (args0 ) callN⟩
  refine stepsCons rfl (fun Q f' w' ρ S ho hT hS hB => ?_) ?_
  ·obtain ⟨hv26,hr26⟩:=(hT 26 89 rfl rfl:(Is (.bool true)) _ _)
   obtain ⟨hv27,hr27⟩:=(hT 27 90 rfl rfl:(Is (.bool true)) _ _)
   obtain hS:=hS.flat2 hr26 hr27
   exact .inl ⟨want_none rfl,opick (b:=true) (v:=.bool true) rfl rfl (ev rfl hv26) (ev rfl hv27) ⟨_,_,rfl,isI,New.same _⟩⟩
  refine stepsCons rfl (fun Q f' w' ρ S ho hT hS hB => ?_) ?_
  ·obtain ⟨hv28,hr28⟩:=(hT 28 91 rfl rfl:(Is (.bool true)) _ _)
   obtain hS:=hS.flat1 hr28
   exact .inl ⟨want_none rfl,oassign (v:=.bool true) rfl rfl (ev rfl hv28) ⟨_,_,rfl,isI,New.same _⟩⟩
  exact stepsNil
 ·
  intro vs ρ w12 f' hf hT hS
  obtain ⟨hv0,hr0⟩:=(hT 0 (by decide):(Is (.slice pS1 nt cS1)) _ _)
  obtain ⟨hv1,hr1⟩:=(hT 1 (by decide):(Is (.int .i64 0)) _ _)
  obtain ⟨hv2,hr2⟩:=(hT 2 (by decide):(Is (.slice pt nt ct)) _ _)
  obtain ⟨pS2,cS2,QS2,hQS2,hv3,hr3⟩:=(hT 3 (by decide):(LIt nt (rsums T)) _ _)
  obtain ⟨hv4,hr4⟩:=(hT 4 (by decide):(Is (.bool true)) _ _)
  obtain ⟨hv5,hr5⟩:=(hT 5 (by decide):(Is (.bool true)) _ _)
  obtain ⟨hv6,hr6⟩:=(hT 6 (by decide):(Is (.slice pC1 (nt + 1) cC1)) _ _)
  obtain ⟨hv7,hr7⟩:=(hT 7 (by decide):(Is (.int .i64 0)) _ _)
  obtain ⟨hv8,hr8⟩:=(hT 8 (by decide):(Is (.slice pt nt ct)) _ _)
  obtain ⟨pC2,cC2,QC2,hQC2,hv9,hr9⟩:=(hT 9 (by decide):(LIt (nt + 1) (coefs T)) _ _)
  obtain ⟨hv10,hr10⟩:=(hT 10 (by decide):(Is (.bool true)) _ _)
  obtain ⟨hv11,hr11⟩:=(hT 11 (by decide):(Is (.bool true)) _ _)
  obtain ⟨hv12,hr12⟩:=(hT 12 (by decide):(Is (.bool true)) _ _)
  obtain ⟨hv13,hr13⟩:=(hT 13 (by decide):(Is (.agg #[.bool (ng ((mxA (coefs T) (nt + 1)))),.slice pB1 nB1 cB1])) _ _)
  obtain ⟨hv14,hr14⟩:=(hT 14 (by decide):(Is (.int .i64 0)) _ _)
  obtain ⟨hv15,hr15⟩:=(hT 15 (by decide):(Is (.slice pt nt ct)) _ _)
  obtain ⟨pB2,nB2,cB2,hv16,hr16⟩:=(hT 16 (by decide):(Zt ((mxA (coefs T) (nt + 1)))) _ _)
  obtain ⟨hv17,hr17⟩:=(hT 17 (by decide):(Is (.bool true)) _ _)
  obtain ⟨hv18,hr18⟩:=(hT 18 (by decide):(Is (.bool true)) _ _)
  obtain ⟨hv19,hr19⟩:=(hT 19 (by decide):(Is (.bool true)) _ _)
  obtain ⟨hv20,hr20⟩:=(hT 20 (by decide):(Is (.agg #[.bool (ng (((hadN (hadP T nt):Nat):Int))),.slice pH1 nH1 cH1])) _ _)
  obtain ⟨hv21,hr21⟩:=(hT 21 (by decide):(Is (.int .i64 0)) _ _)
  obtain ⟨hv22,hr22⟩:=(hT 22 (by decide):(Is (.slice pt nt ct)) _ _)
  obtain ⟨pH2,nH2,cH2,hv23,hr23⟩:=(hT 23 (by decide):(Zt (((hadN (hadP T nt):Nat):Int))) _ _)
  obtain ⟨hv24,hr24⟩:=(hT 24 (by decide):(Is (.bool true)) _ _)
  obtain ⟨hv25,hr25⟩:=(hT 25 (by decide):(Is (.bool true)) _ _)
  obtain ⟨hv26,hr26⟩:=(hT 26 (by decide):(Is (.bool true)) _ _)
  obtain ⟨hv27,hr27⟩:=(hT 27 (by decide):(Is (.bool true)) _ _)
  obtain ⟨hv28,hr28⟩:=(hT 28 (by decide):(Is (.bool true)) _ _)
  obtain ⟨hv29,hr29⟩:=(hT 29 (by decide):(Is (.bool true)) _ _)
  simp only [pool,if_true,hr0,hr1,hr2,hr3,hr4,hr5,hr6,hr7,hr8,hr9,hr10,hr11,hr12,hr13,hr14,hr15,hr16,hr17,hr18,hr19,hr20,hr21,hr22,hr23,hr24,hr25,hr26,hr27,hr28,hr29,List.nil_append,List.cons_append,List.append_nil] at hS
  simp only [layf,hv0,hv1,hv2,hv3,hv4,hv5,hv6,hv7,hv8,hv9,hv10,hv11,hv12,hv13,hv14,hv15,hv16,hv17,hv18,hv19,hv20,hv21,hv22,hv23,hv24,hv25,hv26,hv27,hv28,hv29] at hf
  subst hf; clear hT hv0 hv1 hv2 hv3 hv4 hv5 hv6 hv7 hv8 hv9 hv10 hv11 hv12 hv13 hv14 hv15 hv16 hv17 hv18 hv19 hv20 hv21 hv22 hv23 hv24 hv25 hv26 hv27 hv28 hv29 hr0 hr1 hr2 hr3 hr4 hr5 hr6 hr7 hr8 hr9 hr10 hr11 hr12 hr13 hr14 hr15 hr16 hr17 hr18 hr19 hr20 hr21 hr22 hr23 hr24 hr25 hr26 hr27 hr28 hr29
  refine wdone rfl ?_
  refine thenN ?_
  refine wleave ?_
  refine wret1 Tryd.results8 (tellT (v:=.bool true) rfl rfl) ?_
  exact ⟨_,_,rfl,isI,hS.new0⟩
theorem boundCoeffs_walk {pt:Option Addr} {nt ct:Nat} {RT:List (List (Bool × List Nat))} {w:World} (hR:TRw w pt nt RT 1048576) (h1:Tab w) (h2:Bases w):Calls Tryd.prog 8 #[.slice pt nt ct] w (RetB w true):=by
  have hT:=hR.tb (K2:=1048576) (Nat.le_refl _)
  by_cases hf:fitc (tvr RT) = 0
  · exact Ret.bool (boundCoeffs_good ⟨h1,h2⟩ hT hf)
  · exact Ret.bool (boundCoeffs_bad ⟨h1,h2⟩ hT hf)
end Go.Proofs.YthnilcgmljecdaaDoor
