
/-
  The walk of similelaw21.HessReduces.
-/
import Derived.Test.YtcfcdbeemhjhgaaDoorH8
import Derived.Test.YtcfcdbeemhjhgaaDoorMmOpen
import Derived.Test.YtcfcdbeemhjhgaaDoorLT
set_option linter.unusedVariables false
set_option linter.unusedSimpArgs false
set_option maxRecDepth 100000
set_option maxHeartbeats 16000000
namespace Go.Proofs.YtcfcdbeemhjhgaaDoor
open Go.RowKit
theorem hessReduces_e {pm:Option Addr} {nm cm p:Nat} {M:List (List Nat)} {w:World} (ht:Tb w) (hm:MS w pm nm M) (hp2:p < 4294967296) (hs:SmallM M) {e:Nat} (hc:HFa p M e) (he:e ≠ 0) :
  Calls Tryd.prog 4 #[.slice pm nm cm,.int .u32 ((p:Nat):Int)] w (Ret (Is (.bool true)) w):=by
 have hml:=hm.1
 have hb1:nm ≤ 2097152:=by have:=hs.1; omega
 have hS:=Sep.init w
 refine went Tryd.func4 rfl (n:=179) rfl rfl ?_
 refine wseq (wreg (wl rfl (oassign (v:=.bool false) rfl rfl evc ?_)))
 refine wnil (thenN (wseq (wreg (wl rfl (omove (v:=.slice pm nm cm) rfl rfl (ev rfl rfl) ?_)))))
 refine wl rfl (ocall rfl rfl Tryd.call7 rfl (wlcopied (hm.at hS) hs) (args1 (ev rfl rfl)) ?_)
 rintro _ w1 ⟨_,_,rfl,⟨pG,cG,QG,hQG,rfl,rfl⟩,hN⟩
 refine ⟨_,rfl,?_⟩
 replace hS:=hS.news hN; clear hN
 refine wl rfl (oassign (v:=.slice pG nm cG) rfl rfl (ev rfl rfl) ?_)
 refine wnil (thenN (wseq (wreg (wl rfl (omove (v:=.slice pG nm cG) rfl rfl (ev rfl rfl) ?_)))))
 refine wl rfl (omove (v:=.int .u32 (p:Int)) rfl rfl (ev rfl rfl) ?_)
 refine wl rfl (ocall rfl rfl Tryd.call16 rfl (whReduceE (ht.at hS) (show MS _ _ _ M from (hQG) ▸ (hS.ms 0 rfl (by simp only [maxLen]; omega))) hp2 hb1 hs.2 hc he) (args2 (ev rfl rfl) (ev rfl rfl)) ?_)
 rintro _ w2 ⟨_,_,rfl,⟨rfl,rfl⟩,hN⟩
 refine ⟨_,rfl,?_⟩
 replace hS:=hS.news hN; clear hN
 refine wl rfl (omove (v:=.tuple #[.slice none 0 0,.slice none 0 0,.slice none 0 0,.int .i64 (e:Int)]) rfl rfl (ev rfl rfl) ?_)
 refine wl rfl (oextract (vs:=[.slice none 0 0,.slice none 0 0,.slice none 0 0,.int .i64 (e:Int)]) (v:=.slice none 0 0) rfl rfl (ev rfl rfl) rfl ?_)
 refine wl rfl (oextract (vs:=[.slice none 0 0,.slice none 0 0,.slice none 0 0,.int .i64 (e:Int)]) (v:=.slice none 0 0) rfl rfl (ev rfl rfl) rfl ?_)
 refine wl rfl (oextract (vs:=[.slice none 0 0,.slice none 0 0,.slice none 0 0,.int .i64 (e:Int)]) (v:=.slice none 0 0) rfl rfl (ev rfl rfl) rfl ?_)
 refine wl rfl (oextract (vs:=[.slice none 0 0,.slice none 0 0,.slice none 0 0,.int .i64 (e:Int)]) (v:=.int .i64 (e:Int)) rfl rfl (ev rfl rfl) rfl ?_)
 refine wl rfl (oassign (v:=.slice none 0 0) rfl rfl (ev rfl rfl) ?_)
 refine wl rfl (oassign (v:=.slice none 0 0) rfl rfl (ev rfl rfl) ?_)
 refine wl rfl (oassign (v:=.slice none 0 0) rfl rfl (ev rfl rfl) ?_)
 refine wl rfl (oassign (v:=.int .i64 (e:Int)) rfl rfl (ev rfl rfl) ?_)
 refine wnil (thenN (wseq (wseq (wreg (wl rfl (omove (v:=.slice pG nm cG) rfl rfl (ev rfl rfl) ?_))))))
 refine wl rfl (omove (v:=.slice pm nm cm) rfl rfl (ev rfl rfl) ?_)
 refine wl rfl (ocall rfl rfl Tryd.call11 rfl (wqsame (show MS _ _ _ M from (hQG) ▸ (hS.ms 0 rfl (by simp only [maxLen]; omega))) (hm.at hS) (⟨by omega,hs.2⟩)) (args2 (ev rfl rfl) (ev rfl rfl)) ?_)
 rintro _ w3 ⟨_,_,rfl,⟨rfl,rfl⟩,hN⟩
 refine ⟨_,rfl,?_⟩
 replace hS:=hS.news hN; clear hN
 refine wl rfl (onot (b:=true) rfl rfl (ev rfl rfl) ?_)
 refine wnil (thenN ?_)
 refine wF (ev rfl rfl) ?_
 refine wskip (thenN (wseq (wseq (wreg (wl rfl (omove (v:=.slice pm nm cm) rfl rfl (ev rfl rfl) ?_))))))
 refine wl rfl (omove (v:=.int .u32 (p:Int)) rfl rfl (ev rfl rfl) ?_)
 refine wl rfl (ocall rfl rfl Tryd.call10 rfl (wqfits (hm.at hS) hp2 (by omega) (hc)) (args2 (ev rfl rfl) (ev rfl rfl)) ?_)
 rintro _ w4 ⟨_,_,rfl,⟨rfl,rfl⟩,hN⟩
 refine ⟨_,rfl,?_⟩
 replace hS:=hS.news hN; clear hN
 refine wl rfl (oassign (v:=.int .i64 (e:Int)) rfl rfl (ev rfl rfl) ?_)
 refine wnil (thenN (wseq (wreg (wl rfl (omove (v:=.int .i64 (e:Int)) rfl rfl (ev rfl rfl) ?_)))))
 refine wl rfl (obin (u:=.int .i64 (e:Int)) (v:=.int .i64 0) (z:=.bool true) rfl rfl (ev rfl rfl) evc (bin_neq (neT (by omega))) ?_)
 refine wnil (thenN ?_)
 refine wT (ev rfl rfl) ?_
 refine wseq (wreg (wl rfl (omove (v:=.int .i64 (e:Int)) rfl rfl (ev rfl rfl) ?_)))
 refine wl rfl (omove (v:=.int .i64 (e:Int)) rfl rfl (ev rfl rfl) ?_)
 refine wl rfl (obin (u:=.int .i64 (e:Int)) (v:=.int .i64 (e:Int)) (z:=.bool true) rfl rfl (ev rfl rfl) (ev rfl rfl) (bin_eql (eqT rfl)) ?_)
 refine wl rfl (omove (v:=.bool true) rfl rfl (ev rfl rfl) ?_)
 refine wlOn (e:=45) rfl rfl rfl rfl (omove (v:=.slice none 0 0) rfl rfl (ev rfl rfl) ?_)
 refine wlOn (e:=45) rfl rfl rfl rfl (olen rfl rfl rfl Tryd.runUnderlying23 (p:=none) (k:=0) (m:=0) (ev rfl rfl) ?_)
 refine wlOn (e:=45) rfl rfl rfl rfl (obin (u:=.int .i64 (((0:Nat):Int))) (v:=.int .i64 0) (z:=.bool true) rfl rfl (ev rfl rfl) evc (bin_eql (eqT rfl)) ?_)
 refine wl rfl (opick (b:=true) (v:=.bool true) rfl rfl (ev rfl rfl) (ev rfl rfl) ?_)
 refine wl rfl (omove (v:=.bool true) rfl rfl (ev rfl rfl) ?_)
 refine wlOn (e:=50) rfl rfl rfl rfl (omove (v:=.slice none 0 0) rfl rfl (ev rfl rfl) ?_)
 refine wlOn (e:=50) rfl rfl rfl rfl (olen rfl rfl rfl Tryd.runUnderlying23 (p:=none) (k:=0) (m:=0) (ev rfl rfl) ?_)
 refine wlOn (e:=50) rfl rfl rfl rfl (obin (u:=.int .i64 (((0:Nat):Int))) (v:=.int .i64 0) (z:=.bool true) rfl rfl (ev rfl rfl) evc (bin_eql (eqT rfl)) ?_)
 refine wl rfl (opick (b:=true) (v:=.bool true) rfl rfl (ev rfl rfl) (ev rfl rfl) ?_)
 refine wl rfl (omove (v:=.bool true) rfl rfl (ev rfl rfl) ?_)
 refine wlOn (e:=55) rfl rfl rfl rfl (omove (v:=.slice none 0 0) rfl rfl (ev rfl rfl) ?_)
 refine wlOn (e:=55) rfl rfl rfl rfl (olen rfl rfl rfl Tryd.runUnderlying23 (p:=none) (k:=0) (m:=0) (ev rfl rfl) ?_)
 refine wlOn (e:=55) rfl rfl rfl rfl (obin (u:=.int .i64 (((0:Nat):Int))) (v:=.int .i64 0) (z:=.bool true) rfl rfl (ev rfl rfl) evc (bin_eql (eqT rfl)) ?_)
 refine wl rfl (opick (b:=true) (v:=.bool true) rfl rfl (ev rfl rfl) (ev rfl rfl) ?_)
 refine wl rfl (omove (v:=.bool true) rfl rfl (ev rfl rfl) ?_)
 refine wlOn (e:=60) rfl rfl rfl rfl (ocall rfl rfl Tryd.call12 rfl (wllives (ht.at hS)) (args0 ) ?_)
 rintro _ w5 ⟨_,_,rfl,⟨rfl,rfl⟩,hN⟩
 refine ⟨_,rfl,?_⟩
 replace hS:=hS.news hN; clear hN
 refine wl rfl (opick (b:=true) (v:=.bool true) rfl rfl (ev rfl rfl) (ev rfl rfl) ?_)
 refine wl rfl (oassign (v:=.bool true) rfl rfl (ev rfl rfl) ?_)
 refine wnil (thenN ?_)
 refine wleave ?_
 refine thenR ?_
 refine wret1 Tryd.results4 (tellT (v:=.bool true) rfl rfl) ?_
 exact ⟨_,_,rfl,isI,hS.new0⟩
theorem hessReduces_ok {pm:Option Addr} {nm cm p:Nat} {M:List (List Nat)} {w:World} (ht:Tb w) (hm:MS w pm nm M) (hp2:p < 4294967296) (hs:SmallM M) (hp:MR.Pr p) (hr:RectM M) (h0:nm ≠ 0) (hq:M.length = colsM M) (hbig:nm ≤ 24) :
  Calls Tryd.prog 4 #[.slice pm nm cm,.int .u32 ((p:Nat):Int)] w (Ret (Is (.bool true)) w):=by
 have hml:=hm.1
 have hb1:nm ≤ 2097152:=by have:=hs.1; omega
 have hp1:=hp.1
 have hp0:0 < p:=by omega
 obtain ⟨s9,hs9⟩:∃ s,HS.red p nm M (nm - 2) = s:=⟨_,rfl⟩
 have hok:HOk p nm s9:=by rw [← hs9]; exact HOk.redk hp1 hr (by omega) hq (Nat.le_refl _)
 have hin:HInv p nm (en M) s9:=by rw [← hs9]; exact HInv.redk hp1 hr (by omega) hq h0
 have hzz:Hz nm (nm - 2) s9.H:=by rw [← hs9]; exact Hz.redk hp hr (by omega) hq h0
 have hMr:∀ r ∈ M,nm ≤ r.length:=fun r h => by rw [hr r h]; omega
 have h1p:1 % p = 1:=Nat.mod_eq_of_lt (by omega)
 have hS:=Sep.init w
 refine went Tryd.func4 rfl (n:=179) rfl rfl ?_
 refine wseq (wreg (wl rfl (oassign (v:=.bool false) rfl rfl evc ?_)))
 refine wnil (thenN (wseq (wreg (wl rfl (omove (v:=.slice pm nm cm) rfl rfl (ev rfl rfl) ?_)))))
 refine wl rfl (ocall rfl rfl Tryd.call7 rfl (wlcopied (hm.at hS) hs) (args1 (ev rfl rfl)) ?_)
 rintro _ w1 ⟨_,_,rfl,⟨pG,cG,QG,hQG,rfl,rfl⟩,hN⟩
 refine ⟨_,rfl,?_⟩
 replace hS:=hS.news hN; clear hN
 refine wl rfl (oassign (v:=.slice pG nm cG) rfl rfl (ev rfl rfl) ?_)
 refine wnil (thenN (wseq (wreg (wl rfl (omove (v:=.slice pG nm cG) rfl rfl (ev rfl rfl) ?_)))))
 refine wl rfl (omove (v:=.int .u32 (p:Int)) rfl rfl (ev rfl rfl) ?_)
 refine wl rfl (ocall rfl rfl Tryd.call16 rfl ((show Calls _ _ _ _ (Ret (rdH nm s9) _) from by rw [← hs9]; exact whReduce (ht.at hS) (show MS _ _ _ M from (hQG) ▸ (hS.ms 0 rfl (by simp only [maxLen]; omega))) hp2 hb1 hs.2 hp hr h0 hq hbig)) (args2 (ev rfl rfl) (ev rfl rfl)) ?_)
 rintro _ w2 ⟨_,_,rfl,⟨pH,cH,pS,cS,pR,cR,QH,QS,QR,hQH,hQS,hQR,rfl,rfl⟩,hN⟩
 refine ⟨_,rfl,?_⟩
 replace hS:=hS.news hN; clear hN
 refine wl rfl (omove (v:=.tuple #[.slice pH nm cH,.slice pS nm cS,.slice pR nm cR,.int .i64 0]) rfl rfl (ev rfl rfl) ?_)
 refine wl rfl (oextract (vs:=[.slice pH nm cH,.slice pS nm cS,.slice pR nm cR,.int .i64 0]) (v:=.slice pH nm cH) rfl rfl (ev rfl rfl) rfl ?_)
 refine wl rfl (oextract (vs:=[.slice pH nm cH,.slice pS nm cS,.slice pR nm cR,.int .i64 0]) (v:=.slice pS nm cS) rfl rfl (ev rfl rfl) rfl ?_)
 refine wl rfl (oextract (vs:=[.slice pH nm cH,.slice pS nm cS,.slice pR nm cR,.int .i64 0]) (v:=.slice pR nm cR) rfl rfl (ev rfl rfl) rfl ?_)
 refine wl rfl (oextract (vs:=[.slice pH nm cH,.slice pS nm cS,.slice pR nm cR,.int .i64 0]) (v:=.int .i64 0) rfl rfl (ev rfl rfl) rfl ?_)
 refine wl rfl (oassign (v:=.slice pH nm cH) rfl rfl (ev rfl rfl) ?_)
 refine wl rfl (oassign (v:=.slice pS nm cS) rfl rfl (ev rfl rfl) ?_)
 refine wl rfl (oassign (v:=.slice pR nm cR) rfl rfl (ev rfl rfl) ?_)
 refine wl rfl (oassign (v:=.int .i64 0) rfl rfl (ev rfl rfl) ?_)
 refine wnil (thenN (wseq (wseq (wreg (wl rfl (omove (v:=.slice pG nm cG) rfl rfl (ev rfl rfl) ?_))))))
 refine wl rfl (omove (v:=.slice pm nm cm) rfl rfl (ev rfl rfl) ?_)
 refine wl rfl (ocall rfl rfl Tryd.call11 rfl (wqsame (show MS _ _ _ M from (hQG) ▸ (hS.ms 3 rfl (by simp only [maxLen]; omega))) (hm.at hS) (⟨by omega,hs.2⟩)) (args2 (ev rfl rfl) (ev rfl rfl)) ?_)
 rintro _ w3 ⟨_,_,rfl,⟨rfl,rfl⟩,hN⟩
 refine ⟨_,rfl,?_⟩
 replace hS:=hS.news hN; clear hN
 refine wl rfl (onot (b:=true) rfl rfl (ev rfl rfl) ?_)
 refine wnil (thenN ?_)
 refine wF (ev rfl rfl) ?_
 refine wskip (thenN (wseq (wseq (wreg (wl rfl (omove (v:=.slice pm nm cm) rfl rfl (ev rfl rfl) ?_))))))
 refine wl rfl (omove (v:=.int .u32 (p:Int)) rfl rfl (ev rfl rfl) ?_)
 refine wl rfl (ocall rfl rfl Tryd.call10 rfl (wqfits (hm.at hS) hp2 (by omega) (HFa.ok hp hr (by omega) hq (by omega))) (args2 (ev rfl rfl) (ev rfl rfl)) ?_)
 rintro _ w4 ⟨_,_,rfl,⟨rfl,rfl⟩,hN⟩
 refine ⟨_,rfl,?_⟩
 replace hS:=hS.news hN; clear hN
 refine wl rfl (oassign (v:=.int .i64 (((0:Nat):Int))) rfl rfl (ev rfl rfl) ?_)
 refine wnil (thenN (wseq (wreg (wl rfl (omove (v:=.int .i64 (((0:Nat):Int))) rfl rfl (ev rfl rfl) ?_)))))
 refine wl rfl (obin (u:=.int .i64 (((0:Nat):Int))) (v:=.int .i64 0) (z:=.bool false) rfl rfl (ev rfl rfl) evc (bin_neq (neF rfl)) ?_)
 refine wnil (thenN ?_)
 refine wF (ev rfl rfl) ?_
 refine wskip (thenN (wseq (wreg (wl rfl (omove (v:=.slice pm nm cm) rfl rfl (ev rfl rfl) ?_)))))
 refine wl rfl (olen rfl rfl rfl Tryd.runUnderlying23 (p:=pm) (k:=nm) (m:=cm) (ev rfl rfl) ?_)
 refine wl rfl (oassign (v:=.int .i64 (nm:Int)) rfl rfl (ev rfl rfl) ?_)
 refine wnil (thenN (wseq (wseq (wreg (wl rfl (omove (v:=.slice pH nm cH) rfl rfl (ev rfl rfl) ?_))))))
 refine wl rfl (omove (v:=.slice pS nm cS) rfl rfl (ev rfl rfl) ?_)
 refine wl rfl (omove (v:=.slice pR nm cR) rfl rfl (ev rfl rfl) ?_)
 refine wl rfl (obuild (ps:=#[(0,.slice pH nm cH),(1,.slice pS nm cS),(2,.slice pR nm cR)]) (v:=.agg #[.slice pH nm cH,.slice pS nm cS,.slice pR nm cR]) rfl rfl (parts3 (ev (v:=.slice pH nm cH) rfl rfl) (ev (v:=.slice pS nm cS) rfl rfl) (ev (v:=.slice pR nm cR) rfl rfl)) (fun w => by simp [go_sem,Instr.build,Instr.fill]) ?_)
 refine wl rfl (omove (v:=.int .i64 0) rfl rfl evc ?_)
 refine wnil (thenN (wblock ?_))
 refine wloop (σ := Nat) (fun i a9 w' => ∃ (fb:Nat → Value),a9 = act 179 (sets fb [(0,.slice pm nm cm),(1,.int .u32 (p:Int)),(5,.slice pG nm cG),(6,.slice pH nm cH),(7,.slice pS nm cS),(8,.slice pR nm cR),(9,.int .i64 0),(11,.int .i64 (nm:Int)),(68,.agg #[.slice pH nm cH,.slice pS nm cS,.slice pR nm cR]),(69,.int .i64 (i:Int))]) ∧ Sep w [.lst 29 1 pH nm cH (mmE QH),.lst 29 1 pS nm cS (mmE QS),.lst 29 1 pR nm cR (mmE QR),.lst 29 1 pG nm cG (mmE QG)] w' ∧ (i ≤ 3)) (fun i => 3 - i) (0) ⟨_,act_sets (l:=[(0,.slice pm nm cm),(1,.int .u32 (p:Int)),(5,.slice pG nm cG),(6,.slice pH nm cH),(7,.slice pS nm cS),(8,.slice pR nm cR),(9,.int .i64 0),(11,.int .i64 (nm:Int)),(68,.agg #[.slice pH nm cH,.slice pS nm cS,.slice pR nm cR]),(69,.int .i64 0)]) ⟨rfl,rfl,rfl,rfl,rfl,rfl,rfl,rfl,rfl,rfl,trivial⟩,hS,Nat.zero_le _⟩ ?_
 clear hS; rintro i _ w5 ⟨fb,rfl,hS,hi⟩
 refine wseq (wreg ?_)
 by_cases hli:i < 3
 ·
  refine wl rfl (obin (u:=.int .i64 (i:Int)) (v:=.int .i64 3) (z:=.bool true) rfl rfl (ev rfl rfl) evc (bin_lss (decide_eq_true (by omega))) ?_)
  refine wnil (thenN (wseq ?_))
  refine wT (ev rfl rfl) ?_
  refine wskip (thenN (wseq (wblock (wseq (wreg ?_)))))
  by_cases e0:i = 0
  ·
   refine wl rfl (oidx (cs:=[.slice pH nm cH,.slice pS nm cS,.slice pR nm cR]) (k:=i) (v:=.slice pH nm cH) rfl rfl Tryd.runUnderlying41 Tryd.sizeOf23 Tryd.isAgg23 (ev rfl rfl) (ev rfl rfl) (by rw [e0]; rfl) (by omega) ?_)
   refine wl rfl (oassign (v:=.slice pH nm cH) rfl rfl (ev rfl rfl) ?_)
   refine wnil (thenN (wseq (wreg (wl rfl (omove (v:=.slice pH nm cH) rfl rfl (ev rfl rfl) ?_)))))
   refine wl rfl (omove (v:=.int .u32 (p:Int)) rfl rfl (ev rfl rfl) ?_)
   refine wl rfl (ocall rfl rfl Tryd.call10 rfl (wqfits (show MS _ _ _ s9.H from (hQH) ▸ (hS.ms 0 rfl (by simp only [maxLen]; omega))) hp2 (by omega) (shp_ok hp hok.hs hok.hl h0 hbig)) (args2 (ev rfl rfl) (ev rfl rfl)) ?_)
   rintro _ w6 ⟨_,_,rfl,⟨rfl,rfl⟩,hN⟩
   refine ⟨_,rfl,?_⟩
   replace hS:=hS.news hN; clear hN
   refine wl rfl (obin (u:=.int .i64 (((0:Nat):Int))) (v:=.int .i64 0) (z:=.bool false) rfl rfl (ev rfl rfl) evc (bin_neq (neF rfl)) ?_)
   refine wl rfl (omove (v:=.bool false) rfl rfl (ev rfl rfl) ?_)
   refine wlOn (e:=76) rfl rfl rfl rfl (omove (v:=.slice pH nm cH) rfl rfl (ev rfl rfl) ?_)
   refine wlOn (e:=76) rfl rfl rfl rfl (olen rfl rfl rfl Tryd.runUnderlying23 (p:=pH) (k:=nm) (m:=cH) (ev rfl rfl) ?_)
   refine wlOn (e:=76) rfl rfl rfl rfl (omove (v:=.int .i64 (nm:Int)) rfl rfl (ev rfl rfl) ?_)
   refine wlOn (e:=76) rfl rfl rfl rfl (obin (u:=.int .i64 (nm:Int)) (v:=.int .i64 (nm:Int)) (z:=.bool false) rfl rfl (ev rfl rfl) (ev rfl rfl) (bin_neq (neF rfl)) ?_)
   refine wl rfl (opick (b:=false) (v:=.bool false) rfl rfl (ev rfl rfl) (ev rfl rfl) ?_)
   refine wl rfl (omove (v:=.bool false) rfl rfl (ev rfl rfl) ?_)
   refine wlOn (e:=82) rfl rfl rfl rfl (omove (v:=.slice pH nm cH) rfl rfl (ev rfl rfl) ?_)
   refine wlOn (e:=82) rfl rfl rfl rfl (omove (v:=.slice pH nm cH) rfl rfl (ev rfl rfl) ?_)
   refine wlOn (e:=82) rfl rfl rfl rfl (omove (v:=.int .u32 (p:Int)) rfl rfl (ev rfl rfl) ?_)
   refine wlOn (e:=82) rfl rfl rfl rfl (ocall rfl rfl Tryd.call17 rfl (wdnorm (show MS _ _ _ s9.H from (hQH) ▸ (hS.ms 0 rfl (by simp only [maxLen]; omega))) hp0 hp2 (by omega) (fun r h => by rw [(hok.hs r h).1]; omega)) (args2 (ev rfl rfl) (ev rfl rfl)) ?_)
   rintro _ w7 ⟨_,_,rfl,⟨pN,cN,QN,hQN,rfl,rfl⟩,hN⟩
   refine ⟨_,rfl,?_⟩
   replace hS:=hS.news hN; clear hN
   refine wlOn (e:=82) rfl rfl rfl rfl (ocall rfl rfl Tryd.call11 rfl (wqsame (show MS _ _ _ s9.H from (hQH) ▸ (hS.ms 1 rfl (by simp only [maxLen]; omega))) (show MS _ _ _ s9.H from ((hQN.trans (modM_self hok.hs))) ▸ (hS.ms 0 rfl (by simp only [maxLen]; omega))) (shp_small hok.hs hbig)) (args2 (ev rfl rfl) (ev rfl rfl)) ?_)
   rintro _ w8 ⟨_,_,rfl,⟨rfl,rfl⟩,hN⟩
   refine ⟨_,rfl,?_⟩
   replace hS:=hS.news hN; clear hN
   refine wlOn (e:=82) rfl rfl rfl rfl (onot (b:=true) rfl rfl (ev rfl rfl) ?_)
   refine wl rfl (opick (b:=false) (v:=.bool false) rfl rfl (ev rfl rfl) (ev rfl rfl) ?_)
   refine wnil (thenN ?_)
   refine wF (ev rfl rfl) ?_
   refine wskip (blkN (thenN (wreg (wl rfl (obin (u:=.int .i64 (i:Int)) (v:=.int .i64 1) (z:=.int .i64 (((i + 1:Nat):Int))) rfl rfl (ev rfl rfl) evc (bin_add (wrap_i64 (by omega) (by omega))) ?_)))))
   refine wl rfl (omove (v:=.int .i64 (((i + 1:Nat):Int))) rfl rfl (ev rfl rfl) ?_)
   refine wnil (thenN ?_)
   exact ⟨(i + 1),⟨_,act_sets (l:=[(0,.slice pm nm cm),(1,.int .u32 (p:Int)),(5,.slice pG nm cG),(6,.slice pH nm cH),(7,.slice pS nm cS),(8,.slice pR nm cR),(9,.int .i64 0),(11,.int .i64 (nm:Int)),(68,.agg #[.slice pH nm cH,.slice pS nm cS,.slice pR nm cR]),(69,.int .i64 (((i + 1:Nat):Int)))]) ⟨rfl,rfl,rfl,rfl,rfl,rfl,rfl,rfl,rfl,rfl,trivial⟩,hS.pick [1,2,3,4] (by decide) rfl,by omega⟩,by omega⟩
  ·
   by_cases e1:i = 1
   ·
    refine wl rfl (oidx (cs:=[.slice pH nm cH,.slice pS nm cS,.slice pR nm cR]) (k:=i) (v:=.slice pS nm cS) rfl rfl Tryd.runUnderlying41 Tryd.sizeOf23 Tryd.isAgg23 (ev rfl rfl) (ev rfl rfl) (by rw [e1]; rfl) (by omega) ?_)
    refine wl rfl (oassign (v:=.slice pS nm cS) rfl rfl (ev rfl rfl) ?_)
    refine wnil (thenN (wseq (wreg (wl rfl (omove (v:=.slice pS nm cS) rfl rfl (ev rfl rfl) ?_)))))
    refine wl rfl (omove (v:=.int .u32 (p:Int)) rfl rfl (ev rfl rfl) ?_)
    refine wl rfl (ocall rfl rfl Tryd.call10 rfl (wqfits (show MS _ _ _ s9.S from (hQS) ▸ (hS.ms 1 rfl (by simp only [maxLen]; omega))) hp2 (by omega) (shp_ok hp hok.ss hok.sl h0 hbig)) (args2 (ev rfl rfl) (ev rfl rfl)) ?_)
    rintro _ w6 ⟨_,_,rfl,⟨rfl,rfl⟩,hN⟩
    refine ⟨_,rfl,?_⟩
    replace hS:=hS.news hN; clear hN
    refine wl rfl (obin (u:=.int .i64 (((0:Nat):Int))) (v:=.int .i64 0) (z:=.bool false) rfl rfl (ev rfl rfl) evc (bin_neq (neF rfl)) ?_)
    refine wl rfl (omove (v:=.bool false) rfl rfl (ev rfl rfl) ?_)
    refine wlOn (e:=76) rfl rfl rfl rfl (omove (v:=.slice pS nm cS) rfl rfl (ev rfl rfl) ?_)
    refine wlOn (e:=76) rfl rfl rfl rfl (olen rfl rfl rfl Tryd.runUnderlying23 (p:=pS) (k:=nm) (m:=cS) (ev rfl rfl) ?_)
    refine wlOn (e:=76) rfl rfl rfl rfl (omove (v:=.int .i64 (nm:Int)) rfl rfl (ev rfl rfl) ?_)
    refine wlOn (e:=76) rfl rfl rfl rfl (obin (u:=.int .i64 (nm:Int)) (v:=.int .i64 (nm:Int)) (z:=.bool false) rfl rfl (ev rfl rfl) (ev rfl rfl) (bin_neq (neF rfl)) ?_)
    refine wl rfl (opick (b:=false) (v:=.bool false) rfl rfl (ev rfl rfl) (ev rfl rfl) ?_)
    refine wl rfl (omove (v:=.bool false) rfl rfl (ev rfl rfl) ?_)
    refine wlOn (e:=82) rfl rfl rfl rfl (omove (v:=.slice pS nm cS) rfl rfl (ev rfl rfl) ?_)
    refine wlOn (e:=82) rfl rfl rfl rfl (omove (v:=.slice pS nm cS) rfl rfl (ev rfl rfl) ?_)
    refine wlOn (e:=82) rfl rfl rfl rfl (omove (v:=.int .u32 (p:Int)) rfl rfl (ev rfl rfl) ?_)
    refine wlOn (e:=82) rfl rfl rfl rfl (ocall rfl rfl Tryd.call17 rfl (wdnorm (show MS _ _ _ s9.S from (hQS) ▸ (hS.ms 1 rfl (by simp only [maxLen]; omega))) hp0 hp2 (by omega) (fun r h => by rw [(hok.ss r h).1]; omega)) (args2 (ev rfl rfl) (ev rfl rfl)) ?_)
    rintro _ w7 ⟨_,_,rfl,⟨pN,cN,QN,hQN,rfl,rfl⟩,hN⟩
    refine ⟨_,rfl,?_⟩
    replace hS:=hS.news hN; clear hN
    refine wlOn (e:=82) rfl rfl rfl rfl (ocall rfl rfl Tryd.call11 rfl (wqsame (show MS _ _ _ s9.S from (hQS) ▸ (hS.ms 2 rfl (by simp only [maxLen]; omega))) (show MS _ _ _ s9.S from ((hQN.trans (modM_self hok.ss))) ▸ (hS.ms 0 rfl (by simp only [maxLen]; omega))) (shp_small hok.ss hbig)) (args2 (ev rfl rfl) (ev rfl rfl)) ?_)
    rintro _ w8 ⟨_,_,rfl,⟨rfl,rfl⟩,hN⟩
    refine ⟨_,rfl,?_⟩
    replace hS:=hS.news hN; clear hN
    refine wlOn (e:=82) rfl rfl rfl rfl (onot (b:=true) rfl rfl (ev rfl rfl) ?_)
    refine wl rfl (opick (b:=false) (v:=.bool false) rfl rfl (ev rfl rfl) (ev rfl rfl) ?_)
    refine wnil (thenN ?_)
    refine wF (ev rfl rfl) ?_
    refine wskip (blkN (thenN (wreg (wl rfl (obin (u:=.int .i64 (i:Int)) (v:=.int .i64 1) (z:=.int .i64 (((i + 1:Nat):Int))) rfl rfl (ev rfl rfl) evc (bin_add (wrap_i64 (by omega) (by omega))) ?_)))))
    refine wl rfl (omove (v:=.int .i64 (((i + 1:Nat):Int))) rfl rfl (ev rfl rfl) ?_)
    refine wnil (thenN ?_)
    exact ⟨(i + 1),⟨_,act_sets (l:=[(0,.slice pm nm cm),(1,.int .u32 (p:Int)),(5,.slice pG nm cG),(6,.slice pH nm cH),(7,.slice pS nm cS),(8,.slice pR nm cR),(9,.int .i64 0),(11,.int .i64 (nm:Int)),(68,.agg #[.slice pH nm cH,.slice pS nm cS,.slice pR nm cR]),(69,.int .i64 (((i + 1:Nat):Int)))]) ⟨rfl,rfl,rfl,rfl,rfl,rfl,rfl,rfl,rfl,rfl,trivial⟩,hS.pick [1,2,3,4] (by decide) rfl,by omega⟩,by omega⟩
   ·
    have e2:i = 2:=by omega
    refine wl rfl (oidx (cs:=[.slice pH nm cH,.slice pS nm cS,.slice pR nm cR]) (k:=i) (v:=.slice pR nm cR) rfl rfl Tryd.runUnderlying41 Tryd.sizeOf23 Tryd.isAgg23 (ev rfl rfl) (ev rfl rfl) (by rw [e2]; rfl) (by omega) ?_)
    refine wl rfl (oassign (v:=.slice pR nm cR) rfl rfl (ev rfl rfl) ?_)
    refine wnil (thenN (wseq (wreg (wl rfl (omove (v:=.slice pR nm cR) rfl rfl (ev rfl rfl) ?_)))))
    refine wl rfl (omove (v:=.int .u32 (p:Int)) rfl rfl (ev rfl rfl) ?_)
    refine wl rfl (ocall rfl rfl Tryd.call10 rfl (wqfits (show MS _ _ _ s9.R from (hQR) ▸ (hS.ms 2 rfl (by simp only [maxLen]; omega))) hp2 (by omega) (shp_ok hp hok.rs hok.rl h0 hbig)) (args2 (ev rfl rfl) (ev rfl rfl)) ?_)
    rintro _ w6 ⟨_,_,rfl,⟨rfl,rfl⟩,hN⟩
    refine ⟨_,rfl,?_⟩
    replace hS:=hS.news hN; clear hN
    refine wl rfl (obin (u:=.int .i64 (((0:Nat):Int))) (v:=.int .i64 0) (z:=.bool false) rfl rfl (ev rfl rfl) evc (bin_neq (neF rfl)) ?_)
    refine wl rfl (omove (v:=.bool false) rfl rfl (ev rfl rfl) ?_)
    refine wlOn (e:=76) rfl rfl rfl rfl (omove (v:=.slice pR nm cR) rfl rfl (ev rfl rfl) ?_)
    refine wlOn (e:=76) rfl rfl rfl rfl (olen rfl rfl rfl Tryd.runUnderlying23 (p:=pR) (k:=nm) (m:=cR) (ev rfl rfl) ?_)
    refine wlOn (e:=76) rfl rfl rfl rfl (omove (v:=.int .i64 (nm:Int)) rfl rfl (ev rfl rfl) ?_)
    refine wlOn (e:=76) rfl rfl rfl rfl (obin (u:=.int .i64 (nm:Int)) (v:=.int .i64 (nm:Int)) (z:=.bool false) rfl rfl (ev rfl rfl) (ev rfl rfl) (bin_neq (neF rfl)) ?_)
    refine wl rfl (opick (b:=false) (v:=.bool false) rfl rfl (ev rfl rfl) (ev rfl rfl) ?_)
    refine wl rfl (omove (v:=.bool false) rfl rfl (ev rfl rfl) ?_)
    refine wlOn (e:=82) rfl rfl rfl rfl (omove (v:=.slice pR nm cR) rfl rfl (ev rfl rfl) ?_)
    refine wlOn (e:=82) rfl rfl rfl rfl (omove (v:=.slice pR nm cR) rfl rfl (ev rfl rfl) ?_)
    refine wlOn (e:=82) rfl rfl rfl rfl (omove (v:=.int .u32 (p:Int)) rfl rfl (ev rfl rfl) ?_)
    refine wlOn (e:=82) rfl rfl rfl rfl (ocall rfl rfl Tryd.call17 rfl (wdnorm (show MS _ _ _ s9.R from (hQR) ▸ (hS.ms 2 rfl (by simp only [maxLen]; omega))) hp0 hp2 (by omega) (fun r h => by rw [(hok.rs r h).1]; omega)) (args2 (ev rfl rfl) (ev rfl rfl)) ?_)
    rintro _ w7 ⟨_,_,rfl,⟨pN,cN,QN,hQN,rfl,rfl⟩,hN⟩
    refine ⟨_,rfl,?_⟩
    replace hS:=hS.news hN; clear hN
    refine wlOn (e:=82) rfl rfl rfl rfl (ocall rfl rfl Tryd.call11 rfl (wqsame (show MS _ _ _ s9.R from (hQR) ▸ (hS.ms 3 rfl (by simp only [maxLen]; omega))) (show MS _ _ _ s9.R from ((hQN.trans (modM_self hok.rs))) ▸ (hS.ms 0 rfl (by simp only [maxLen]; omega))) (shp_small hok.rs hbig)) (args2 (ev rfl rfl) (ev rfl rfl)) ?_)
    rintro _ w8 ⟨_,_,rfl,⟨rfl,rfl⟩,hN⟩
    refine ⟨_,rfl,?_⟩
    replace hS:=hS.news hN; clear hN
    refine wlOn (e:=82) rfl rfl rfl rfl (onot (b:=true) rfl rfl (ev rfl rfl) ?_)
    refine wl rfl (opick (b:=false) (v:=.bool false) rfl rfl (ev rfl rfl) (ev rfl rfl) ?_)
    refine wnil (thenN ?_)
    refine wF (ev rfl rfl) ?_
    refine wskip (blkN (thenN (wreg (wl rfl (obin (u:=.int .i64 (i:Int)) (v:=.int .i64 1) (z:=.int .i64 (((i + 1:Nat):Int))) rfl rfl (ev rfl rfl) evc (bin_add (wrap_i64 (by omega) (by omega))) ?_)))))
    refine wl rfl (omove (v:=.int .i64 (((i + 1:Nat):Int))) rfl rfl (ev rfl rfl) ?_)
    refine wnil (thenN ?_)
    exact ⟨(i + 1),⟨_,act_sets (l:=[(0,.slice pm nm cm),(1,.int .u32 (p:Int)),(5,.slice pG nm cG),(6,.slice pH nm cH),(7,.slice pS nm cS),(8,.slice pR nm cR),(9,.int .i64 0),(11,.int .i64 (nm:Int)),(68,.agg #[.slice pH nm cH,.slice pS nm cS,.slice pR nm cR]),(69,.int .i64 (((i + 1:Nat):Int)))]) ⟨rfl,rfl,rfl,rfl,rfl,rfl,rfl,rfl,rfl,rfl,trivial⟩,hS.pick [1,2,3,4] (by decide) rfl,by omega⟩,by omega⟩
 ·
  refine wl rfl (obin (u:=.int .i64 (i:Int)) (v:=.int .i64 3) (z:=.bool false) rfl rfl (ev rfl rfl) evc (bin_lss (decide_eq_false (by omega))) ?_)
  refine wnil (thenN (wseq ?_))
  refine wF (ev rfl rfl) ?_
  refine wexit ?_
  refine thenE ?_
  refine thenE ?_
  refine blkE ?_
  refine thenN (wseq (wreg (wl rfl (omove (v:=.slice pS nm cS) rfl rfl (ev rfl rfl) ?_))))
  refine wl rfl (omove (v:=.slice pR nm cR) rfl rfl (ev rfl rfl) ?_)
  refine wl rfl (omove (v:=.int .u32 (p:Int)) rfl rfl (ev rfl rfl) ?_)
  refine wl rfl (ocall rfl rfl Tryd.call18 rfl (wdmul (show MS _ _ _ s9.S from (hQS) ▸ (hS.ms 1 rfl (by simp only [maxLen]; omega))) (show MS _ _ _ s9.R from (hQR) ▸ (hS.ms 2 rfl (by simp only [maxLen]; omega))) hp0 hp2 (by omega) (by omega) (fun r h => by rw [(hok.ss r h).1]; omega) (fun r h => by rw [(hok.rs r h).1]; omega)) (args3 (ev rfl rfl) (ev rfl rfl) (ev rfl rfl)) ?_)
  rintro _ w6 ⟨_,_,rfl,⟨pO,cO,QO,hQO,rfl,rfl⟩,hN⟩
  refine ⟨_,rfl,?_⟩
  replace hS:=hS.news hN; clear hN
  refine wl rfl (oassign (v:=.slice pO nm cO) rfl rfl (ev rfl rfl) ?_)
  refine wnil (thenN (wseq (wseq (wreg (wl rfl (omove (v:=.slice pO nm cO) rfl rfl (ev rfl rfl) ?_))))))
  refine wl rfl (olen rfl rfl rfl Tryd.runUnderlying23 (p:=pO) (k:=nm) (m:=cO) (ev rfl rfl) ?_)
  refine wl rfl (omove (v:=.int .i64 0) rfl rfl evc ?_)
  refine wnil (thenN (wblock ?_))
  refine wloop (σ := Nat) (fun i a9 w' => ∃ (fb:Nat → Value),a9 = act 179 (sets fb [(0,.slice pm nm cm),(1,.int .u32 (p:Int)),(5,.slice pG nm cG),(6,.slice pH nm cH),(7,.slice pS nm cS),(8,.slice pR nm cR),(9,.int .i64 0),(14,.slice pO nm cO),(96,.int .i64 (nm:Int)),(97,.int .i64 (i:Int))]) ∧ Sep w [.lst 29 1 pO nm cO (mmE QO),.lst 29 1 pH nm cH (mmE QH),.lst 29 1 pS nm cS (mmE QS),.lst 29 1 pR nm cR (mmE QR),.lst 29 1 pG nm cG (mmE QG)] w' ∧ (i ≤ nm)) (fun i => nm - i) (0) ⟨_,act_sets (l:=[(0,.slice pm nm cm),(1,.int .u32 (p:Int)),(5,.slice pG nm cG),(6,.slice pH nm cH),(7,.slice pS nm cS),(8,.slice pR nm cR),(9,.int .i64 0),(14,.slice pO nm cO),(96,.int .i64 (nm:Int)),(97,.int .i64 0)]) ⟨rfl,rfl,rfl,rfl,rfl,rfl,rfl,rfl,rfl,rfl,trivial⟩,hS,Nat.zero_le _⟩ ?_
  clear hS; rintro i _ w7 ⟨fb,rfl,hS,hi⟩
  refine wseq (wreg ?_)
  by_cases hli2:i < nm
  ·
   have hQOl:QO.length = nm:=by rw [nums_lenQ hQO,mulH_len]; exact hok.sl
   have sO:Shp p nm (nums QO):=by rw [hQO]; exact mulH_shp hp0
   refine wl rfl (obin (u:=.int .i64 (i:Int)) (v:=.int .i64 (nm:Int)) (z:=.bool true) rfl rfl (ev rfl rfl) (ev rfl rfl) (bin_lss (decide_eq_true (by omega))) ?_)
   refine wnil (thenN (wseq ?_))
   refine wT (ev rfl rfl) ?_
   refine wskip (thenN (wseq (wblock (wseq (wreg (wl rfl (omove (v:=.int .i64 (i:Int)) rfl rfl (ev rfl rfl) ?_)))))))
   refine wl rfl (oassign (v:=.int .i64 (i:Int)) rfl rfl (ev rfl rfl) ?_)
   refine wnil (thenN (wseq (wreg (wl rfl (omove (v:=.slice pO nm cO) rfl rfl (ev rfl rfl) ?_)))))
   refine wl rfl (omove (v:=.int .i64 (i:Int)) rfl rfl (ev rfl rfl) ?_)
   obtain ⟨gO,hgO⟩:=hS.lstPtr 0 rfl (by omega)
   obtain ⟨⟨po,co,xo⟩,hqo⟩:∃ q,(QO)[i]? = some q:=⟨_,List.getElem?_eq_getElem (by omega)⟩
   have hdo:(nums (QO)).getD i [] = xo:=getD_get (nums_get hqo)
   obtain ⟨hno,hlto⟩:=sO.get (nums_get hqo)
   simp only at hno hlto
   obtain ⟨go,hgo⟩:=hS.mPtr 0 rfl hqo (by show 0 < xo.length; omega)
   refine wl rfl (oindex (p:=pO) (g:=gO) (off:=0) (m:=nm) (k:=i) (j:=(0 + i * 1)) rfl rfl Tryd.runUnderlying23 Tryd.sizeOf29 (ev rfl rfl) (hgO) (ev rfl rfl) (by omega) rfl ?_)
   refine wl rfl (oloadc (v:=.slice po nm co) (show One Tryd.prog 29 from ⟨Tryd.isAgg29,Tryd.sizeOf29⟩) rfl rfl (ev (v:=.pointer (some ⟨gO,(0 + i * 1),none⟩)) rfl rfl) (hS.mRow 0 rfl hqo hno hgO) ?_)
   refine wl rfl (olen rfl rfl rfl Tryd.runUnderlying29 (p:=po) (k:=nm) (m:=co) (ev rfl rfl) ?_)
   refine wl rfl (omove (v:=.int .i64 0) rfl rfl evc ?_)
   refine wnil (thenN (wblock ?_))
   refine wloop (σ := Nat) (fun k a9 w' => ∃ (fb:Nat → Value),a9 = act 179 (sets fb [(0,.slice pm nm cm),(1,.int .u32 (p:Int)),(5,.slice pG nm cG),(6,.slice pH nm cH),(7,.slice pS nm cS),(8,.slice pR nm cR),(9,.int .i64 0),(14,.slice pO nm cO),(15,.int .i64 (i:Int)),(96,.int .i64 (nm:Int)),(97,.int .i64 (i:Int)),(103,.slice po nm co),(104,.int .i64 (nm:Int)),(105,.int .i64 (k:Int))]) ∧ Sep w [.lst 29 1 pO nm cO (mmE QO),.lst 29 1 pH nm cH (mmE QH),.lst 29 1 pS nm cS (mmE QS),.lst 29 1 pR nm cR (mmE QR),.lst 29 1 pG nm cG (mmE QG)] w' ∧ (k ≤ nm)) (fun k => nm - k) (0) ⟨_,act_sets (l:=[(0,.slice pm nm cm),(1,.int .u32 (p:Int)),(5,.slice pG nm cG),(6,.slice pH nm cH),(7,.slice pS nm cS),(8,.slice pR nm cR),(9,.int .i64 0),(14,.slice pO nm cO),(15,.int .i64 (i:Int)),(96,.int .i64 (nm:Int)),(97,.int .i64 (i:Int)),(103,.slice po nm co),(104,.int .i64 (nm:Int)),(105,.int .i64 0)]) ⟨rfl,rfl,rfl,rfl,rfl,rfl,rfl,rfl,rfl,rfl,rfl,rfl,rfl,rfl,trivial⟩,hS,Nat.zero_le _⟩ ?_
   clear hS; rintro k _ w8 ⟨fb,rfl,hS,hk⟩
   refine wseq (wreg ?_)
   by_cases hlk:k < nm
   ·
    refine wl rfl (obin (u:=.int .i64 (k:Int)) (v:=.int .i64 (nm:Int)) (z:=.bool true) rfl rfl (ev rfl rfl) (ev rfl rfl) (bin_lss (decide_eq_true (by omega))) ?_)
    refine wnil (thenN (wseq ?_))
    refine wT (ev rfl rfl) ?_
    refine wskip (thenN (wseq (wblock (wseq (wreg (wl rfl (omove (v:=.int .i64 (k:Int)) rfl rfl (ev rfl rfl) ?_)))))))
    have hxk:nd xo k = if i = k then 1 else 0:=by rw [← hdo]; rw [hQO]; exact one_get hin hok hp1 (by omega) (by omega)
    have hx32:nd xo k < 4294967296:=by rw [hxk]; split <;> omega
    refine wl rfl (oindex (p:=po) (g:=go) (off:=0) (m:=nm) (k:=k) (j:=k) rfl rfl Tryd.runUnderlying29 Tryd.sizeOf24 (ev rfl rfl) (hgo) (ev rfl rfl) (by omega) (by simp) ?_)
    refine wl rfl (oloadc (v:=.int .u32 (((nd xo k:Nat):Int))) one32 rfl rfl (ev (v:=.pointer (some ⟨go,k,none⟩)) rfl rfl) (hS.mCell 0 rfl hqo hgo (by omega)) ?_)
    refine wl rfl (oassign (v:=.int .i64 (k:Int)) rfl rfl (ev rfl rfl) ?_)
    refine wl rfl (oassign (v:=.int .u32 (((nd xo k:Nat):Int))) rfl rfl (ev rfl rfl) ?_)
    refine wnil (thenN (wseq (wreg (wl rfl (omove (v:=.int .i64 (i:Int)) rfl rfl (ev rfl rfl) ?_)))))
    refine wl rfl (omove (v:=.int .i64 (k:Int)) rfl rfl (ev rfl rfl) ?_)
    by_cases eik:i = k
    ·
     refine wl rfl (obin (u:=.int .i64 (i:Int)) (v:=.int .i64 (k:Int)) (z:=.bool true) rfl rfl (ev rfl rfl) (ev rfl rfl) (bin_eql (eqT (by omega))) ?_)
     refine wl rfl (omove (v:=.bool true) rfl rfl (ev rfl rfl) ?_)
     refine wlOn (e:=113) rfl rfl rfl rfl (omove (v:=.int .u32 (((nd xo k:Nat):Int))) rfl rfl (ev rfl rfl) ?_)
     refine wlOn (e:=113) rfl rfl rfl rfl (omove (v:=.int .u32 (p:Int)) rfl rfl (ev rfl rfl) ?_)
     refine wlOn (e:=113) rfl rfl rfl rfl (obin (u:=.int .u32 1) (v:=.int .u32 (p:Int)) (z:=.int .u32 (((1 % p:Nat):Int))) rfl rfl evc (ev rfl rfl) (bin_rem (by omega) rfl) ?_)
     refine wlOn (e:=113) rfl rfl rfl rfl (obin (u:=.int .u32 (((nd xo k:Nat):Int))) (v:=.int .u32 (((1 % p:Nat):Int))) (z:=.bool false) rfl rfl (ev rfl rfl) (ev rfl rfl) (bin_neq (neF (by rw [hxk,if_pos eik,h1p]))) ?_)
     refine wl rfl (opick (b:=true) (v:=.bool false) rfl rfl (ev rfl rfl) (ev rfl rfl) ?_)
     refine wl rfl (omove (v:=.bool false) rfl rfl (ev rfl rfl) ?_)
     refine wlOn (e:=119) rfl rfl rfl rfl (omove (v:=.int .i64 (i:Int)) rfl rfl (ev rfl rfl) ?_)
     refine wlOn (e:=119) rfl rfl rfl rfl (omove (v:=.int .i64 (k:Int)) rfl rfl (ev rfl rfl) ?_)
     refine wlOn (e:=119) rfl rfl rfl rfl (obin (u:=.int .i64 (i:Int)) (v:=.int .i64 (k:Int)) (z:=.bool false) rfl rfl (ev rfl rfl) (ev rfl rfl) (bin_neq (neF (by omega))) ?_)
     refine wlOn (e:=119) rfl rfl rfl rfl (omove (v:=.bool false) rfl rfl (ev rfl rfl) ?_)
     refine wlOff (e:=123) (d:=124) (b':=false) rfl rfl rfl rfl rfl rfl ?_
     refine wlOff (e:=123) (d:=125) (b':=false) rfl rfl rfl rfl rfl rfl ?_
     refine wlOn (e:=119) rfl rfl rfl rfl (opick (b:=false) (v:=.bool false) rfl rfl (ev rfl rfl) evc ?_)
     refine wl rfl (opick (b:=false) (v:=.bool false) rfl rfl (ev rfl rfl) (ev rfl rfl) ?_)
     refine wnil (thenN ?_)
     refine wF (ev rfl rfl) ?_
     refine wskip (blkN (thenN (wreg (wl rfl (obin (u:=.int .i64 (k:Int)) (v:=.int .i64 1) (z:=.int .i64 (((k + 1:Nat):Int))) rfl rfl (ev rfl rfl) evc (bin_add (wrap_i64 (by omega) (by omega))) ?_)))))
     refine wl rfl (omove (v:=.int .i64 (((k + 1:Nat):Int))) rfl rfl (ev rfl rfl) ?_)
     refine wnil (thenN ?_)
     exact ⟨(k + 1),⟨_,act_sets (l:=[(0,.slice pm nm cm),(1,.int .u32 (p:Int)),(5,.slice pG nm cG),(6,.slice pH nm cH),(7,.slice pS nm cS),(8,.slice pR nm cR),(9,.int .i64 0),(14,.slice pO nm cO),(15,.int .i64 (i:Int)),(96,.int .i64 (nm:Int)),(97,.int .i64 (i:Int)),(103,.slice po nm co),(104,.int .i64 (nm:Int)),(105,.int .i64 (((k + 1:Nat):Int)))]) ⟨rfl,rfl,rfl,rfl,rfl,rfl,rfl,rfl,rfl,rfl,rfl,rfl,rfl,rfl,trivial⟩,hS.pick [0,1,2,3,4] (by decide) rfl,by omega⟩,by omega⟩
    ·
     refine wl rfl (obin (u:=.int .i64 (i:Int)) (v:=.int .i64 (k:Int)) (z:=.bool false) rfl rfl (ev rfl rfl) (ev rfl rfl) (bin_eql (eqF (by omega))) ?_)
     refine wl rfl (omove (v:=.bool false) rfl rfl (ev rfl rfl) ?_)
     refine wlOff (e:=113) (d:=114) (b':=false) rfl rfl rfl rfl rfl rfl ?_
     refine wlOff (e:=113) (d:=115) (b':=false) rfl rfl rfl rfl rfl rfl ?_
     refine wlOff (e:=113) (d:=116) (b':=false) rfl rfl rfl rfl rfl rfl ?_
     refine wlOff (e:=113) (d:=117) (b':=false) rfl rfl rfl rfl rfl rfl ?_
     refine wl rfl (opick (b:=false) (v:=.bool false) rfl rfl (ev rfl rfl) evc ?_)
     refine wl rfl (omove (v:=.bool false) rfl rfl (ev rfl rfl) ?_)
     refine wlOn (e:=119) rfl rfl rfl rfl (omove (v:=.int .i64 (i:Int)) rfl rfl (ev rfl rfl) ?_)
     refine wlOn (e:=119) rfl rfl rfl rfl (omove (v:=.int .i64 (k:Int)) rfl rfl (ev rfl rfl) ?_)
     refine wlOn (e:=119) rfl rfl rfl rfl (obin (u:=.int .i64 (i:Int)) (v:=.int .i64 (k:Int)) (z:=.bool true) rfl rfl (ev rfl rfl) (ev rfl rfl) (bin_neq (neT (by omega))) ?_)
     refine wlOn (e:=119) rfl rfl rfl rfl (omove (v:=.bool true) rfl rfl (ev rfl rfl) ?_)
     refine wlOn (e:=123) rfl rfl rfl rfl (omove (v:=.int .u32 (((nd xo k:Nat):Int))) rfl rfl (ev rfl rfl) ?_)
     refine wlOn (e:=123) rfl rfl rfl rfl (obin (u:=.int .u32 (((nd xo k:Nat):Int))) (v:=.int .u32 0) (z:=.bool false) rfl rfl (ev rfl rfl) evc (bin_neq (neF (by rw [hxk,if_neg eik]; rfl))) ?_)
     refine wlOn (e:=119) rfl rfl rfl rfl (opick (b:=true) (v:=.bool false) rfl rfl (ev rfl rfl) (ev rfl rfl) ?_)
     refine wl rfl (opick (b:=false) (v:=.bool false) rfl rfl (ev rfl rfl) (ev rfl rfl) ?_)
     refine wnil (thenN ?_)
     refine wF (ev rfl rfl) ?_
     refine wskip (blkN (thenN (wreg (wl rfl (obin (u:=.int .i64 (k:Int)) (v:=.int .i64 1) (z:=.int .i64 (((k + 1:Nat):Int))) rfl rfl (ev rfl rfl) evc (bin_add (wrap_i64 (by omega) (by omega))) ?_)))))
     refine wl rfl (omove (v:=.int .i64 (((k + 1:Nat):Int))) rfl rfl (ev rfl rfl) ?_)
     refine wnil (thenN ?_)
     exact ⟨(k + 1),⟨_,act_sets (l:=[(0,.slice pm nm cm),(1,.int .u32 (p:Int)),(5,.slice pG nm cG),(6,.slice pH nm cH),(7,.slice pS nm cS),(8,.slice pR nm cR),(9,.int .i64 0),(14,.slice pO nm cO),(15,.int .i64 (i:Int)),(96,.int .i64 (nm:Int)),(97,.int .i64 (i:Int)),(103,.slice po nm co),(104,.int .i64 (nm:Int)),(105,.int .i64 (((k + 1:Nat):Int)))]) ⟨rfl,rfl,rfl,rfl,rfl,rfl,rfl,rfl,rfl,rfl,rfl,rfl,rfl,rfl,trivial⟩,hS.pick [0,1,2,3,4] (by decide) rfl,by omega⟩,by omega⟩
   ·
    refine wl rfl (obin (u:=.int .i64 (k:Int)) (v:=.int .i64 (nm:Int)) (z:=.bool false) rfl rfl (ev rfl rfl) (ev rfl rfl) (bin_lss (decide_eq_false (by omega))) ?_)
    refine wnil (thenN (wseq ?_))
    refine wF (ev rfl rfl) ?_
    refine wexit ?_
    refine thenE ?_
    refine thenE ?_
    refine blkE ?_
    refine blkN (thenN (wreg (wl rfl (obin (u:=.int .i64 (i:Int)) (v:=.int .i64 1) (z:=.int .i64 (((i + 1:Nat):Int))) rfl rfl (ev rfl rfl) evc (bin_add (wrap_i64 (by omega) (by omega))) ?_))))
    refine wl rfl (omove (v:=.int .i64 (((i + 1:Nat):Int))) rfl rfl (ev rfl rfl) ?_)
    refine wnil (thenN ?_)
    exact ⟨(i + 1),⟨_,act_sets (l:=[(0,.slice pm nm cm),(1,.int .u32 (p:Int)),(5,.slice pG nm cG),(6,.slice pH nm cH),(7,.slice pS nm cS),(8,.slice pR nm cR),(9,.int .i64 0),(14,.slice pO nm cO),(96,.int .i64 (nm:Int)),(97,.int .i64 (((i + 1:Nat):Int)))]) ⟨rfl,rfl,rfl,rfl,rfl,rfl,rfl,rfl,rfl,rfl,trivial⟩,hS.pick [0,1,2,3,4] (by decide) rfl,by omega⟩,by omega⟩
  ·
   refine wl rfl (obin (u:=.int .i64 (i:Int)) (v:=.int .i64 (nm:Int)) (z:=.bool false) rfl rfl (ev rfl rfl) (ev rfl rfl) (bin_lss (decide_eq_false (by omega))) ?_)
   refine wnil (thenN (wseq ?_))
   refine wF (ev rfl rfl) ?_
   refine wexit ?_
   refine thenE ?_
   refine thenE ?_
   refine blkE ?_
   refine thenN (wseq (wreg (wl rfl (omove (v:=.slice pG nm cG) rfl rfl (ev rfl rfl) ?_))))
   refine wl rfl (omove (v:=.int .u32 (p:Int)) rfl rfl (ev rfl rfl) ?_)
   refine wl rfl (ocall rfl rfl Tryd.call16 rfl ((show Calls _ _ _ _ (Ret (rdH nm s9) _) from by rw [← hs9]; exact whReduce (ht.at hS) (show MS _ _ _ M from (hQG) ▸ (hS.ms 4 rfl (by simp only [maxLen]; omega))) hp2 hb1 hs.2 hp hr h0 hq hbig)) (args2 (ev rfl rfl) (ev rfl rfl)) ?_)
   rintro _ w8 ⟨_,_,rfl,⟨pH2,cH2,pS2,cS2,pR2,cR2,QH2,QS2,QR2,hQH2,hQS2,hQR2,rfl,rfl⟩,hN⟩
   refine ⟨_,rfl,?_⟩
   replace hS:=hS.news hN; clear hN
   refine wl rfl (omove (v:=.tuple #[.slice pH2 nm cH2,.slice pS2 nm cS2,.slice pR2 nm cR2,.int .i64 0]) rfl rfl (ev rfl rfl) ?_)
   refine wl rfl (oextract (vs:=[.slice pH2 nm cH2,.slice pS2 nm cS2,.slice pR2 nm cR2,.int .i64 0]) (v:=.slice pH2 nm cH2) rfl rfl (ev rfl rfl) rfl ?_)
   refine wl rfl (oextract (vs:=[.slice pH2 nm cH2,.slice pS2 nm cS2,.slice pR2 nm cR2,.int .i64 0]) (v:=.slice pS2 nm cS2) rfl rfl (ev rfl rfl) rfl ?_)
   refine wl rfl (oextract (vs:=[.slice pH2 nm cH2,.slice pS2 nm cS2,.slice pR2 nm cR2,.int .i64 0]) (v:=.slice pR2 nm cR2) rfl rfl (ev rfl rfl) rfl ?_)
   refine wl rfl (oextract (vs:=[.slice pH2 nm cH2,.slice pS2 nm cS2,.slice pR2 nm cR2,.int .i64 0]) (v:=.int .i64 0) rfl rfl (ev rfl rfl) rfl ?_)
   refine wl rfl (oassign (v:=.slice pH2 nm cH2) rfl rfl (ev rfl rfl) ?_)
   refine wl rfl (oassign (v:=.slice pS2 nm cS2) rfl rfl (ev rfl rfl) ?_)
   refine wl rfl (oassign (v:=.slice pR2 nm cR2) rfl rfl (ev rfl rfl) ?_)
   refine wl rfl (oassign (v:=.int .i64 0) rfl rfl (ev rfl rfl) ?_)
   refine wnil (thenN (wseq (wreg (wl rfl (omove (v:=.int .i64 0) rfl rfl (ev rfl rfl) ?_)))))
   refine wl rfl (obin (u:=.int .i64 0) (v:=.int .i64 0) (z:=.bool true) rfl rfl (ev rfl rfl) evc (bin_eql (by decide)) ?_)
   refine wl rfl (omove (v:=.bool true) rfl rfl (ev rfl rfl) ?_)
   refine wlOn (e:=140) rfl rfl rfl rfl (omove (v:=.slice pH2 nm cH2) rfl rfl (ev rfl rfl) ?_)
   refine wlOn (e:=140) rfl rfl rfl rfl (omove (v:=.slice pH nm cH) rfl rfl (ev rfl rfl) ?_)
   refine wlOn (e:=140) rfl rfl rfl rfl (ocall rfl rfl Tryd.call11 rfl (wqsame (show MS _ _ _ s9.H from (hQH2) ▸ (hS.ms 0 rfl (by simp only [maxLen]; omega))) (show MS _ _ _ s9.H from (hQH) ▸ (hS.ms 4 rfl (by simp only [maxLen]; omega))) (shp_small hok.hs hbig)) (args2 (ev rfl rfl) (ev rfl rfl)) ?_)
   rintro _ w9 ⟨_,_,rfl,⟨rfl,rfl⟩,hN⟩
   refine ⟨_,rfl,?_⟩
   replace hS:=hS.news hN; clear hN
   refine wl rfl (opick (b:=true) (v:=.bool true) rfl rfl (ev rfl rfl) (ev rfl rfl) ?_)
   refine wl rfl (omove (v:=.bool true) rfl rfl (ev rfl rfl) ?_)
   refine wlOn (e:=145) rfl rfl rfl rfl (omove (v:=.slice pS2 nm cS2) rfl rfl (ev rfl rfl) ?_)
   refine wlOn (e:=145) rfl rfl rfl rfl (omove (v:=.slice pS nm cS) rfl rfl (ev rfl rfl) ?_)
   refine wlOn (e:=145) rfl rfl rfl rfl (ocall rfl rfl Tryd.call11 rfl (wqsame (show MS _ _ _ s9.S from (hQS2) ▸ (hS.ms 1 rfl (by simp only [maxLen]; omega))) (show MS _ _ _ s9.S from (hQS) ▸ (hS.ms 5 rfl (by simp only [maxLen]; omega))) (shp_small hok.ss hbig)) (args2 (ev rfl rfl) (ev rfl rfl)) ?_)
   rintro _ w10 ⟨_,_,rfl,⟨rfl,rfl⟩,hN⟩
   refine ⟨_,rfl,?_⟩
   replace hS:=hS.news hN; clear hN
   refine wl rfl (opick (b:=true) (v:=.bool true) rfl rfl (ev rfl rfl) (ev rfl rfl) ?_)
   refine wl rfl (omove (v:=.bool true) rfl rfl (ev rfl rfl) ?_)
   refine wlOn (e:=150) rfl rfl rfl rfl (omove (v:=.slice pR2 nm cR2) rfl rfl (ev rfl rfl) ?_)
   refine wlOn (e:=150) rfl rfl rfl rfl (omove (v:=.slice pR nm cR) rfl rfl (ev rfl rfl) ?_)
   refine wlOn (e:=150) rfl rfl rfl rfl (ocall rfl rfl Tryd.call11 rfl (wqsame (show MS _ _ _ s9.R from (hQR2) ▸ (hS.ms 2 rfl (by simp only [maxLen]; omega))) (show MS _ _ _ s9.R from (hQR) ▸ (hS.ms 6 rfl (by simp only [maxLen]; omega))) (shp_small hok.rs hbig)) (args2 (ev rfl rfl) (ev rfl rfl)) ?_)
   rintro _ w11 ⟨_,_,rfl,⟨rfl,rfl⟩,hN⟩
   refine ⟨_,rfl,?_⟩
   replace hS:=hS.news hN; clear hN
   refine wl rfl (opick (b:=true) (v:=.bool true) rfl rfl (ev rfl rfl) (ev rfl rfl) ?_)
   refine wl rfl (oassign (v:=.bool true) rfl rfl (ev rfl rfl) ?_)
   refine wnil (thenN (wseq (wreg (wl rfl (omove (v:=.int .i64 0) rfl rfl (ev rfl rfl) ?_)))))
   refine wl rfl (obin (u:=.int .i64 0) (v:=.int .i64 0) (z:=.bool true) rfl rfl (ev rfl rfl) evc (bin_eql (by decide)) ?_)
   refine wl rfl (omove (v:=.bool true) rfl rfl (ev rfl rfl) ?_)
   refine wlOn (e:=157) rfl rfl rfl rfl (omove (v:=.bool true) rfl rfl (ev rfl rfl) ?_)
   refine wl rfl (opick (b:=true) (v:=.bool true) rfl rfl (ev rfl rfl) (ev rfl rfl) ?_)
   refine wl rfl (omove (v:=.bool true) rfl rfl (ev rfl rfl) ?_)
   refine wlOn (e:=160) rfl rfl rfl rfl (omove (v:=.slice pH nm cH) rfl rfl (ev rfl rfl) ?_)
   refine wlOn (e:=160) rfl rfl rfl rfl (omove (v:=.int .u32 (p:Int)) rfl rfl (ev rfl rfl) ?_)
   refine wlOn (e:=160) rfl rfl rfl rfl (ocall rfl rfl Tryd.call13 rfl (wqis1 (show MS _ _ _ s9.H from (hQH) ▸ (hS.ms 4 rfl (by simp only [maxLen]; omega))) hp0 hp2 (by omega) (fun r h => (hok.hs r h).1) (hz_below hok hzz)) (args2 (ev rfl rfl) (ev rfl rfl)) ?_)
   rintro _ w12 ⟨_,_,rfl,⟨rfl,rfl⟩,hN⟩
   refine ⟨_,rfl,?_⟩
   replace hS:=hS.news hN; clear hN
   refine wl rfl (opick (b:=true) (v:=.bool true) rfl rfl (ev rfl rfl) (ev rfl rfl) ?_)
   refine wl rfl (omove (v:=.bool true) rfl rfl (ev rfl rfl) ?_)
   refine wlOn (e:=165) rfl rfl rfl rfl (omove (v:=.slice pR nm cR) rfl rfl (ev rfl rfl) ?_)
   refine wlOn (e:=165) rfl rfl rfl rfl (omove (v:=.slice pm nm cm) rfl rfl (ev rfl rfl) ?_)
   refine wlOn (e:=165) rfl rfl rfl rfl (omove (v:=.int .u32 (p:Int)) rfl rfl (ev rfl rfl) ?_)
   refine wlOn (e:=165) rfl rfl rfl rfl (ocall rfl rfl Tryd.call18 rfl (wdmul (show MS _ _ _ s9.R from (hQR) ▸ (hS.ms 6 rfl (by simp only [maxLen]; omega))) (show MS _ _ _ M from (hm.at hS)) hp0 hp2 (by omega) (by omega) (fun r h => by rw [(hok.rs r h).1]; omega) (hMr)) (args3 (ev rfl rfl) (ev rfl rfl) (ev rfl rfl)) ?_)
   rintro _ w13 ⟨_,_,rfl,⟨pU,cU,QU,hQU,rfl,rfl⟩,hN⟩
   refine ⟨_,rfl,?_⟩
   replace hS:=hS.news hN; clear hN
   refine wlOn (e:=165) rfl rfl rfl rfl (omove (v:=.slice pS nm cS) rfl rfl (ev rfl rfl) ?_)
   refine wlOn (e:=165) rfl rfl rfl rfl (omove (v:=.int .u32 (p:Int)) rfl rfl (ev rfl rfl) ?_)
   refine wlOn (e:=165) rfl rfl rfl rfl (ocall rfl rfl Tryd.call18 rfl (wdmul (show MS _ _ _ (mulH p s9.R M nm) from (hQU) ▸ (hS.ms 0 rfl (by simp only [maxLen]; omega))) (show MS _ _ _ s9.S from (hQS) ▸ (hS.ms 6 rfl (by simp only [maxLen]; omega))) hp0 hp2 (by omega) (by omega) (fun r h => by rw [((mulH_shp hp0) r h).1]; omega) (fun r h => by rw [(hok.ss r h).1]; omega)) (args3 (ev rfl rfl) (ev rfl rfl) (ev rfl rfl)) ?_)
   rintro _ w14 ⟨_,_,rfl,⟨pV,cV,QV,hQV,rfl,rfl⟩,hN⟩
   refine ⟨_,rfl,?_⟩
   replace hS:=hS.news hN; clear hN
   refine wlOn (e:=165) rfl rfl rfl rfl (omove (v:=.slice pH nm cH) rfl rfl (ev rfl rfl) ?_)
   refine wlOn (e:=165) rfl rfl rfl rfl (ocall rfl rfl Tryd.call11 rfl (wqsame (show MS _ _ _ s9.H from ((hQV.trans (sim_eq hin hok hp0))) ▸ (hS.ms 0 rfl (by simp only [maxLen]; omega))) (show MS _ _ _ s9.H from (hQH) ▸ (hS.ms 6 rfl (by simp only [maxLen]; omega))) (shp_small hok.hs hbig)) (args2 (ev rfl rfl) (ev rfl rfl)) ?_)
   rintro _ w15 ⟨_,_,rfl,⟨rfl,rfl⟩,hN⟩
   refine ⟨_,rfl,?_⟩
   replace hS:=hS.news hN; clear hN
   refine wl rfl (opick (b:=true) (v:=.bool true) rfl rfl (ev rfl rfl) (ev rfl rfl) ?_)
   refine wl rfl (omove (v:=.bool true) rfl rfl (ev rfl rfl) ?_)
   refine wlOn (e:=176) rfl rfl rfl rfl (ocall rfl rfl Tryd.call12 rfl (wllives (ht.at hS)) (args0 ) ?_)
   rintro _ w16 ⟨_,_,rfl,⟨rfl,rfl⟩,hN⟩
   refine ⟨_,rfl,?_⟩
   replace hS:=hS.news hN; clear hN
   refine wl rfl (opick (b:=true) (v:=.bool true) rfl rfl (ev rfl rfl) (ev rfl rfl) ?_)
   refine wl rfl (oassign (v:=.bool true) rfl rfl (ev rfl rfl) ?_)
   refine wnil (thenN ?_)
   refine wleave ?_
   refine wret1 Tryd.results4 (tellT (v:=.bool true) rfl rfl) ?_
   exact ⟨_,_,rfl,isI,hS.new0⟩
theorem hessReduces_walk {pm:Option Addr} {nm cm:Nat} {s:Int} {M:List (List Nat)} {w:World} (hm:MS w pm nm M) (hs:SmallM M) (h1:Tab w) (h2:Bases w) (b1:0 ≤ s ∧ s ≤ 4294967295):Calls Tryd.prog 4 #[.slice pm nm cm,.int .u32 s] w (RetB w true):=by
 obtain ⟨p,rfl⟩:=Int.eq_ofNat_of_zero_le b1.1
 have hp2:p < 4294967296:=by omega
 have ht:Tb w:=⟨h1,h2⟩
 have hml:=hm.1
 obtain ⟨e,hc⟩:=HFa.ex p M
 by_cases he:e = 0
 ·subst he
  obtain ⟨hp,hr,h0,hq,hb⟩:=hc.zero
  exact Ret.bool (hessReduces_ok ht hm hp2 hs hp hr (by omega) hq (by omega))
 ·exact Ret.bool (hessReduces_e ht hm hp2 hs hc he)
end Go.Proofs.YtcfcdbeemhjhgaaDoor
