
/-
  The walk of similelaw22.BoundChooses.
-/
import Derived.Test.YthnilcgmljecdaaDoorB8
import Derived.Test.YthnilcgmljecdaaDoorLT
set_option linter.unusedVariables false
set_option linter.unusedSimpArgs false
set_option maxRecDepth 100000
set_option maxHeartbeats 16000000
namespace Go.Proofs.YthnilcgmljecdaaDoor
open Go.RowKit
theorem boundChooses_walk0 {bd b2:Bool} {pd pb:Option Addr} {nd_ cd nb cb:Nat} {xs ys:List Nat} {w:World} (ht:Tb w) (hds:Sl w pd nd_ cd xs) (hbs:Sl w pb nb cb ys) (hnd:nd_ ≤ 1048576) (hnb:nb ≤ 1048576) :
  Calls Tryd.prog 4 #[.agg #[.bool bd,.slice pd nd_ cd],.agg #[.bool b2,.slice pb nb cb]] w (Ret (Is (.bool true)) w):=by
 have hlx:=hds.len
 have hly:=hbs.len
 obtain ⟨zd,hzd⟩:∃ z:Int,zv bd (val xs) = z:=⟨_,rfl⟩
 obtain ⟨zb,hzb⟩:∃ z:Int,zv b2 (val ys) = z:=⟨_,rfl⟩
 have hd:Zr w bd pd nd_ cd zd 1048580:=⟨xs,hds,hzd,by omega⟩
 have hb:Zr w b2 pb nb cb zb 1048580:=⟨ys,hbs,hzb,by omega⟩
 have hS:=Sep.init w
 refine went Tryd.func4 rfl (n:=54) rfl rfl ?_
 refine wseq (wreg (wl rfl (obox [.bool bd,.slice pd nd_ cd] hS rfl rfl (ev (v:=.agg #[.bool bd,.slice pd nd_ cd]) rfl rfl) rfl ?_)))
 clear hS; intro g1 w2 hS
 refine wl rfl (obox [.bool b2,.slice pb nb cb] hS rfl rfl (ev (v:=.agg #[.bool b2,.slice pb nb cb]) rfl rfl) rfl ?_)
 clear hS; intro g3 w4 hS
 refine wl rfl (oassign (v:=.bool false) rfl rfl evc ?_)
 refine wnil (thenN (wseq (wseq (wreg (wl rfl (ofieldAddr (g:=g3) (off:=0) 1 rfl rfl (ev rfl rfl) Tryd.runUnderlying28 rfl Tryd.sizeOf26 rfl ?_))))))
 refine wl rfl (oload1 (v:=.slice pb nb cb) oneN hS 0 rfl rfl (ev rfl rfl) rfl rfl ?_)
 refine wl rfl (ocall rfl rfl Tryd.call11 rfl ((rlen_any (hbs.below hS.below (Nat.le_refl _)) (by omega)).mono RetInt.u) (args1 (ev rfl rfl)) ?_)
 rintro _ w5 ⟨_,_,rfl,⟨rfl,rfl⟩,hN⟩
 refine ⟨_,rfl,?_⟩
 replace hS:=hS.news hN; clear hN
 by_cases hbig:4096 < blen (val ys)
 ·
  refine wl rfl (obin (u:=.int .i64 (((blen (val ys):Nat):Int))) (v:=.int .i64 4096) (z:=.bool true) rfl rfl (ev rfl rfl) evc (bin_gtr (decide_eq_true (by omega))) ?_)
  refine wnil (thenN ?_)
  refine wT (ev rfl rfl) ?_
  refine wseq (wreg (wl rfl (ocall rfl rfl Tryd.call10 rfl (wbawake (ht.at hS)) (args0 ) ?_)))
  rintro _ w6 ⟨_,_,rfl,⟨rfl,rfl⟩,hN⟩
  refine ⟨_,rfl,?_⟩
  replace hS:=hS.news hN; clear hN
  refine wl rfl (oassign (v:=.bool true) rfl rfl (ev rfl rfl) ?_)
  refine wnil (thenN ?_)
  refine wleave ?_
  refine thenR ?_
  refine wret1 Tryd.results4 (tellT (v:=.bool true) rfl rfl) ?_
  exact ⟨_,_,rfl,isI,hS.new0⟩
 ·
  refine wl rfl (obin (u:=.int .i64 (((blen (val ys):Nat):Int))) (v:=.int .i64 4096) (z:=.bool false) rfl rfl (ev rfl rfl) evc (bin_gtr (decide_eq_false (by omega))) ?_)
  refine wnil (thenN ?_)
  refine wF (ev rfl rfl) ?_
  refine wskip (thenN (wseq (wreg (wl rfl (oload (vs:=[.bool bd,.slice pd nd_ cd]) aggZ hS 1 rfl rfl (ev rfl rfl) rfl rfl rfl ?_)))))
  refine wl rfl (oload (vs:=[.bool b2,.slice pb nb cb]) aggZ hS 0 rfl rfl (ev rfl rfl) rfl rfl rfl ?_)
  by_cases h0:zd = 0
  ·
   refine wl rfl (ocall rfl rfl Tryd.call12 rfl (wbchoose5 (hd.at hS) (hb.at hS) h0) (args2 (ev rfl rfl) (ev rfl rfl)) ?_)
   rintro _ w6 ⟨_,_,rfl,⟨rfl,rfl⟩,hN⟩
   refine ⟨_,rfl,?_⟩
   replace hS:=hS.news hN; clear hN
   refine wl rfl (omove (v:=.tuple #[.slice none 0 0,.int .i64 5]) rfl rfl (ev rfl rfl) ?_)
   refine wl rfl (oextract (vs:=[.slice none 0 0,.int .i64 5]) (v:=.slice none 0 0) rfl rfl (ev rfl rfl) rfl ?_)
   refine wl rfl (oextract (vs:=[.slice none 0 0,.int .i64 5]) (v:=.int .i64 5) rfl rfl (ev rfl rfl) rfl ?_)
   refine wl rfl (oassign (v:=.slice none 0 0) rfl rfl (ev rfl rfl) ?_)
   refine wl rfl (oassign (v:=.int .i64 5) rfl rfl (ev rfl rfl) ?_)
   refine wnil (thenN (wseq (wreg (wl rfl (oload (vs:=[.bool bd,.slice pd nd_ cd]) aggZ hS 1 rfl rfl (ev rfl rfl) rfl rfl rfl ?_)))))
   refine wl rfl (oload (vs:=[.bool b2,.slice pb nb cb]) aggZ hS 0 rfl rfl (ev rfl rfl) rfl rfl rfl ?_)
   refine wl rfl (ocall rfl rfl Tryd.call13 rfl (wqchoose5 (hd.at hS) (hb.at hS) h0) (args2 (ev rfl rfl) (ev rfl rfl)) ?_)
   rintro _ w7 ⟨_,_,rfl,⟨rfl,rfl⟩,hN⟩
   refine ⟨_,rfl,?_⟩
   replace hS:=hS.news hN; clear hN
   refine wl rfl (omove (v:=.tuple #[.slice none 0 0,.int .i64 5]) rfl rfl (ev rfl rfl) ?_)
   refine wl rfl (oextract (vs:=[.slice none 0 0,.int .i64 5]) (v:=.slice none 0 0) rfl rfl (ev rfl rfl) rfl ?_)
   refine wl rfl (oextract (vs:=[.slice none 0 0,.int .i64 5]) (v:=.int .i64 5) rfl rfl (ev rfl rfl) rfl ?_)
   refine wl rfl (oassign (v:=.slice none 0 0) rfl rfl (ev rfl rfl) ?_)
   refine wl rfl (oassign (v:=.int .i64 5) rfl rfl (ev rfl rfl) ?_)
   refine wnil (thenN (wseq (wseq (wreg (wl rfl (omove (v:=.int .i64 5) rfl rfl (ev rfl rfl) ?_))))))
   refine wl rfl (ocall rfl rfl Tryd.call9 rfl (wbnum) (args1 (ev rfl rfl)) ?_)
   rintro _ w8 ⟨_,_,rfl,⟨rfl,rfl⟩,hN⟩
   refine ⟨_,rfl,?_⟩
   replace hS:=hS.news hN; clear hN
   refine wl rfl (omove (v:=.int .i64 5) rfl rfl (ev rfl rfl) ?_)
   refine wl rfl (obin (u:=.int .i64 5) (v:=.int .i64 5) (z:=.bool false) rfl rfl (ev rfl rfl) (ev rfl rfl) (bin_neq (by decide)) ?_)
   refine wl rfl (omove (v:=.bool false) rfl rfl (ev rfl rfl) ?_)
   refine wlOn (e:=31) rfl rfl rfl rfl (omove (v:=.slice none 0 0) rfl rfl (ev rfl rfl) ?_)
   refine wlOn (e:=31) rfl rfl rfl rfl (olen rfl rfl rfl Tryd.runUnderlying25 (p:=none) (k:=0) (m:=0) (ev rfl rfl) ?_)
   refine wlOn (e:=31) rfl rfl rfl rfl (omove (v:=.slice none 0 0) rfl rfl (ev rfl rfl) ?_)
   refine wlOn (e:=31) rfl rfl rfl rfl (olen rfl rfl rfl Tryd.runUnderlying25 (p:=none) (k:=0) (m:=0) (ev rfl rfl) ?_)
   refine wlOn (e:=31) rfl rfl rfl rfl (obin (u:=.int .i64 (((0:Nat):Int))) (v:=.int .i64 (((0:Nat):Int))) (z:=.bool false) rfl rfl (ev rfl rfl) (ev rfl rfl) (bin_neq (neF rfl)) ?_)
   refine wl rfl (opick (b:=false) (v:=.bool false) rfl rfl (ev rfl rfl) (ev rfl rfl) ?_)
   refine wnil (thenN ?_)
   refine wF (ev rfl rfl) ?_
   refine wskip (thenN (wseq (wseq (wreg (wl rfl (omove (v:=.slice none 0 0) rfl rfl (ev rfl rfl) ?_))))))
   refine wl rfl (olen rfl rfl rfl Tryd.runUnderlying25 (p:=none) (k:=0) (m:=0) (ev rfl rfl) ?_)
   refine wl rfl (omove (v:=.int .i64 0) rfl rfl evc ?_)
   refine wnil (thenN (wblock ?_))
   refine wloop (σ := Nat) (fun i a9 w' => ∃ (fb:Nat → Value),a9 = act 54 (sets fb [(5,.slice none 0 0),(7,.slice none 0 0),(39,.int .i64 (((0:Nat):Int))),(40,.int .i64 (i:Int))]) ∧ Sep w [.blk g3 [.bool b2,.slice pb nb cb] 28,.blk g1 [.bool bd,.slice pd nd_ cd] 28] w' ∧ (i ≤ 0)) (fun i => 0 - i) (0) ⟨_,act_sets (l:=[(5,.slice none 0 0),(7,.slice none 0 0),(39,.int .i64 (((0:Nat):Int))),(40,.int .i64 0)]) ⟨rfl,rfl,rfl,rfl,trivial⟩,hS,Nat.le_refl _⟩ ?_
   clear hS; rintro i _ w9 ⟨fb,rfl,hS,hi⟩
   refine wseq (wreg (wl rfl (obin (u:=.int .i64 (i:Int)) (v:=.int .i64 (((0:Nat):Int))) (z:=.bool false) rfl rfl (ev rfl rfl) (ev rfl rfl) (bin_lss (decide_eq_false (by omega))) ?_)))
   refine wnil (thenN (wseq ?_))
   refine wF (ev rfl rfl) ?_
   refine wexit ?_
   refine thenE ?_
   refine thenE ?_
   refine blkE ?_
   refine thenN (wseq (wreg (wl rfl (ocall rfl rfl Tryd.call10 rfl (wbawake (ht.at hS)) (args0 ) ?_))))
   rintro _ w10 ⟨_,_,rfl,⟨rfl,rfl⟩,hN⟩
   refine ⟨_,rfl,?_⟩
   replace hS:=hS.news hN; clear hN
   refine wl rfl (oassign (v:=.bool true) rfl rfl (ev rfl rfl) ?_)
   refine wnil (thenN ?_)
   refine wleave ?_
   refine wret1 Tryd.results4 (tellT (v:=.bool true) rfl rfl) ?_
   exact ⟨_,_,rfl,isI,hS.new0⟩
  ·
   by_cases hneg:zb < 0
   ·
    refine wl rfl (ocall rfl rfl Tryd.call12 rfl (wbchoose1 (hd.at hS) (hb.at hS) h0 hneg) (args2 (ev rfl rfl) (ev rfl rfl)) ?_)
    rintro _ w6 ⟨_,_,rfl,⟨rfl,rfl⟩,hN⟩
    refine ⟨_,rfl,?_⟩
    replace hS:=hS.news hN; clear hN
    refine wl rfl (omove (v:=.tuple #[.slice none 0 0,.int .i64 1]) rfl rfl (ev rfl rfl) ?_)
    refine wl rfl (oextract (vs:=[.slice none 0 0,.int .i64 1]) (v:=.slice none 0 0) rfl rfl (ev rfl rfl) rfl ?_)
    refine wl rfl (oextract (vs:=[.slice none 0 0,.int .i64 1]) (v:=.int .i64 1) rfl rfl (ev rfl rfl) rfl ?_)
    refine wl rfl (oassign (v:=.slice none 0 0) rfl rfl (ev rfl rfl) ?_)
    refine wl rfl (oassign (v:=.int .i64 1) rfl rfl (ev rfl rfl) ?_)
    refine wnil (thenN (wseq (wreg (wl rfl (oload (vs:=[.bool bd,.slice pd nd_ cd]) aggZ hS 1 rfl rfl (ev rfl rfl) rfl rfl rfl ?_)))))
    refine wl rfl (oload (vs:=[.bool b2,.slice pb nb cb]) aggZ hS 0 rfl rfl (ev rfl rfl) rfl rfl rfl ?_)
    refine wl rfl (ocall rfl rfl Tryd.call13 rfl (wqchoose1 (hd.at hS) (hb.at hS) h0 hneg) (args2 (ev rfl rfl) (ev rfl rfl)) ?_)
    rintro _ w7 ⟨_,_,rfl,⟨rfl,rfl⟩,hN⟩
    refine ⟨_,rfl,?_⟩
    replace hS:=hS.news hN; clear hN
    refine wl rfl (omove (v:=.tuple #[.slice none 0 0,.int .i64 1]) rfl rfl (ev rfl rfl) ?_)
    refine wl rfl (oextract (vs:=[.slice none 0 0,.int .i64 1]) (v:=.slice none 0 0) rfl rfl (ev rfl rfl) rfl ?_)
    refine wl rfl (oextract (vs:=[.slice none 0 0,.int .i64 1]) (v:=.int .i64 1) rfl rfl (ev rfl rfl) rfl ?_)
    refine wl rfl (oassign (v:=.slice none 0 0) rfl rfl (ev rfl rfl) ?_)
    refine wl rfl (oassign (v:=.int .i64 1) rfl rfl (ev rfl rfl) ?_)
    refine wnil (thenN (wseq (wseq (wreg (wl rfl (omove (v:=.int .i64 1) rfl rfl (ev rfl rfl) ?_))))))
    refine wl rfl (ocall rfl rfl Tryd.call9 rfl (wbnum) (args1 (ev rfl rfl)) ?_)
    rintro _ w8 ⟨_,_,rfl,⟨rfl,rfl⟩,hN⟩
    refine ⟨_,rfl,?_⟩
    replace hS:=hS.news hN; clear hN
    refine wl rfl (omove (v:=.int .i64 1) rfl rfl (ev rfl rfl) ?_)
    refine wl rfl (obin (u:=.int .i64 1) (v:=.int .i64 1) (z:=.bool false) rfl rfl (ev rfl rfl) (ev rfl rfl) (bin_neq (by decide)) ?_)
    refine wl rfl (omove (v:=.bool false) rfl rfl (ev rfl rfl) ?_)
    refine wlOn (e:=31) rfl rfl rfl rfl (omove (v:=.slice none 0 0) rfl rfl (ev rfl rfl) ?_)
    refine wlOn (e:=31) rfl rfl rfl rfl (olen rfl rfl rfl Tryd.runUnderlying25 (p:=none) (k:=0) (m:=0) (ev rfl rfl) ?_)
    refine wlOn (e:=31) rfl rfl rfl rfl (omove (v:=.slice none 0 0) rfl rfl (ev rfl rfl) ?_)
    refine wlOn (e:=31) rfl rfl rfl rfl (olen rfl rfl rfl Tryd.runUnderlying25 (p:=none) (k:=0) (m:=0) (ev rfl rfl) ?_)
    refine wlOn (e:=31) rfl rfl rfl rfl (obin (u:=.int .i64 (((0:Nat):Int))) (v:=.int .i64 (((0:Nat):Int))) (z:=.bool false) rfl rfl (ev rfl rfl) (ev rfl rfl) (bin_neq (neF rfl)) ?_)
    refine wl rfl (opick (b:=false) (v:=.bool false) rfl rfl (ev rfl rfl) (ev rfl rfl) ?_)
    refine wnil (thenN ?_)
    refine wF (ev rfl rfl) ?_
    refine wskip (thenN (wseq (wseq (wreg (wl rfl (omove (v:=.slice none 0 0) rfl rfl (ev rfl rfl) ?_))))))
    refine wl rfl (olen rfl rfl rfl Tryd.runUnderlying25 (p:=none) (k:=0) (m:=0) (ev rfl rfl) ?_)
    refine wl rfl (omove (v:=.int .i64 0) rfl rfl evc ?_)
    refine wnil (thenN (wblock ?_))
    refine wloop (σ := Nat) (fun i a9 w' => ∃ (fb:Nat → Value),a9 = act 54 (sets fb [(5,.slice none 0 0),(7,.slice none 0 0),(39,.int .i64 (((0:Nat):Int))),(40,.int .i64 (i:Int))]) ∧ Sep w [.blk g3 [.bool b2,.slice pb nb cb] 28,.blk g1 [.bool bd,.slice pd nd_ cd] 28] w' ∧ (i ≤ 0)) (fun i => 0 - i) (0) ⟨_,act_sets (l:=[(5,.slice none 0 0),(7,.slice none 0 0),(39,.int .i64 (((0:Nat):Int))),(40,.int .i64 0)]) ⟨rfl,rfl,rfl,rfl,trivial⟩,hS,Nat.le_refl _⟩ ?_
    clear hS; rintro i _ w9 ⟨fb,rfl,hS,hi⟩
    refine wseq (wreg (wl rfl (obin (u:=.int .i64 (i:Int)) (v:=.int .i64 (((0:Nat):Int))) (z:=.bool false) rfl rfl (ev rfl rfl) (ev rfl rfl) (bin_lss (decide_eq_false (by omega))) ?_)))
    refine wnil (thenN (wseq ?_))
    refine wF (ev rfl rfl) ?_
    refine wexit ?_
    refine thenE ?_
    refine thenE ?_
    refine blkE ?_
    refine thenN (wseq (wreg (wl rfl (ocall rfl rfl Tryd.call10 rfl (wbawake (ht.at hS)) (args0 ) ?_))))
    rintro _ w10 ⟨_,_,rfl,⟨rfl,rfl⟩,hN⟩
    refine ⟨_,rfl,?_⟩
    replace hS:=hS.news hN; clear hN
    refine wl rfl (oassign (v:=.bool true) rfl rfl (ev rfl rfl) ?_)
    refine wnil (thenN ?_)
    refine wleave ?_
    refine wret1 Tryd.results4 (tellT (v:=.bool true) rfl rfl) ?_
    exact ⟨_,_,rfl,isI,hS.new0⟩
   ·
    have hbl2:∃ t:Nat,zb + zb = (t:Int) ∧ t < 2 ^ E41:=by rw [← hzb]; exact few_bits hbig (by rw [hzb]; exact hneg)
    obtain ⟨t,hbt,htt⟩:=hbl2
    obtain ⟨k,hk⟩:=ch_ex (z:=zd) (t:=t) (N:=E33) rfl h0 (by rw [← hzd]; exact all_bits rfl hds.lims (by omega)) htt
    have hRl:=ch_len hk htt
    obtain ⟨RL,hRL⟩:∃ R,sel zd (PP.take k) = R:=⟨_,rfl⟩
    rw [hRL] at hRl
    refine wl rfl (ocall rfl rfl Tryd.call12 rfl ((show Calls _ _ _ _ (Ret (RwE RL 0) _) from by rw [← hRL]; exact wbchoose (hd.at hS) (hb.at hS) (ht.at hS) h0 (by omega) hbt htt hk)) (args2 (ev rfl rfl) (ev rfl rfl)) ?_)
    rintro _ w6 ⟨_,_,rfl,⟨pP1,cP1,rfl,rfl⟩,hN⟩
    refine ⟨_,rfl,?_⟩
    replace hS:=hS.news hN; clear hN
    refine wl rfl (omove (v:=.tuple #[.slice pP1 RL.length cP1,.int .i64 0]) rfl rfl (ev rfl rfl) ?_)
    refine wl rfl (oextract (vs:=[.slice pP1 RL.length cP1,.int .i64 0]) (v:=.slice pP1 RL.length cP1) rfl rfl (ev rfl rfl) rfl ?_)
    refine wl rfl (oextract (vs:=[.slice pP1 RL.length cP1,.int .i64 0]) (v:=.int .i64 0) rfl rfl (ev rfl rfl) rfl ?_)
    refine wl rfl (oassign (v:=.slice pP1 RL.length cP1) rfl rfl (ev rfl rfl) ?_)
    refine wl rfl (oassign (v:=.int .i64 0) rfl rfl (ev rfl rfl) ?_)
    refine wnil (thenN (wseq (wreg (wl rfl (oload (vs:=[.bool bd,.slice pd nd_ cd]) aggZ hS 2 rfl rfl (ev rfl rfl) rfl rfl rfl ?_)))))
    refine wl rfl (oload (vs:=[.bool b2,.slice pb nb cb]) aggZ hS 1 rfl rfl (ev rfl rfl) rfl rfl rfl ?_)
    refine wl rfl (ocall rfl rfl Tryd.call13 rfl ((show Calls _ _ _ _ (Ret (RwE RL 0) _) from by rw [← hRL]; exact wqchoose (hd.at hS) (hb.at hS) h0 (by omega) hbt htt hk)) (args2 (ev rfl rfl) (ev rfl rfl)) ?_)
    rintro _ w7 ⟨_,_,rfl,⟨pP2,cP2,rfl,rfl⟩,hN⟩
    refine ⟨_,rfl,?_⟩
    replace hS:=hS.news hN; clear hN
    refine wl rfl (omove (v:=.tuple #[.slice pP2 RL.length cP2,.int .i64 0]) rfl rfl (ev rfl rfl) ?_)
    refine wl rfl (oextract (vs:=[.slice pP2 RL.length cP2,.int .i64 0]) (v:=.slice pP2 RL.length cP2) rfl rfl (ev rfl rfl) rfl ?_)
    refine wl rfl (oextract (vs:=[.slice pP2 RL.length cP2,.int .i64 0]) (v:=.int .i64 0) rfl rfl (ev rfl rfl) rfl ?_)
    refine wl rfl (oassign (v:=.slice pP2 RL.length cP2) rfl rfl (ev rfl rfl) ?_)
    refine wl rfl (oassign (v:=.int .i64 0) rfl rfl (ev rfl rfl) ?_)
    refine wnil (thenN (wseq (wseq (wreg (wl rfl (omove (v:=.int .i64 0) rfl rfl (ev rfl rfl) ?_))))))
    refine wl rfl (ocall rfl rfl Tryd.call9 rfl (wbnum) (args1 (ev rfl rfl)) ?_)
    rintro _ w8 ⟨_,_,rfl,⟨rfl,rfl⟩,hN⟩
    refine ⟨_,rfl,?_⟩
    replace hS:=hS.news hN; clear hN
    refine wl rfl (omove (v:=.int .i64 0) rfl rfl (ev rfl rfl) ?_)
    refine wl rfl (obin (u:=.int .i64 0) (v:=.int .i64 0) (z:=.bool false) rfl rfl (ev rfl rfl) (ev rfl rfl) (bin_neq (by decide)) ?_)
    refine wl rfl (omove (v:=.bool false) rfl rfl (ev rfl rfl) ?_)
    refine wlOn (e:=31) rfl rfl rfl rfl (omove (v:=.slice pP1 RL.length cP1) rfl rfl (ev rfl rfl) ?_)
    refine wlOn (e:=31) rfl rfl rfl rfl (olen rfl rfl rfl Tryd.runUnderlying25 (p:=pP1) (k:=RL.length) (m:=cP1) (ev rfl rfl) ?_)
    refine wlOn (e:=31) rfl rfl rfl rfl (omove (v:=.slice pP2 RL.length cP2) rfl rfl (ev rfl rfl) ?_)
    refine wlOn (e:=31) rfl rfl rfl rfl (olen rfl rfl rfl Tryd.runUnderlying25 (p:=pP2) (k:=RL.length) (m:=cP2) (ev rfl rfl) ?_)
    refine wlOn (e:=31) rfl rfl rfl rfl (obin (u:=.int .i64 (RL.length:Int)) (v:=.int .i64 (RL.length:Int)) (z:=.bool false) rfl rfl (ev rfl rfl) (ev rfl rfl) (bin_neq (neF rfl)) ?_)
    refine wl rfl (opick (b:=false) (v:=.bool false) rfl rfl (ev rfl rfl) (ev rfl rfl) ?_)
    refine wnil (thenN ?_)
    refine wF (ev rfl rfl) ?_
    refine wskip (thenN (wseq (wseq (wreg (wl rfl (omove (v:=.slice pP1 RL.length cP1) rfl rfl (ev rfl rfl) ?_))))))
    refine wl rfl (olen rfl rfl rfl Tryd.runUnderlying25 (p:=pP1) (k:=RL.length) (m:=cP1) (ev rfl rfl) ?_)
    refine wl rfl (omove (v:=.int .i64 0) rfl rfl evc ?_)
    refine wnil (thenN (wblock ?_))
    refine wloop (σ := Nat) (fun i a9 w' => ∃ (fb:Nat → Value),a9 = act 54 (sets fb [(5,.slice pP1 RL.length cP1),(7,.slice pP2 RL.length cP2),(39,.int .i64 (RL.length:Int)),(40,.int .i64 (i:Int))]) ∧ Sep w [.rowm pP2 RL.length cP2 RL,.rowm pP1 RL.length cP1 RL,.blk g3 [.bool b2,.slice pb nb cb] 28,.blk g1 [.bool bd,.slice pd nd_ cd] 28] w' ∧ (i ≤ RL.length)) (fun i => RL.length - i) (0) ⟨_,act_sets (l:=[(5,.slice pP1 RL.length cP1),(7,.slice pP2 RL.length cP2),(39,.int .i64 (RL.length:Int)),(40,.int .i64 0)]) ⟨rfl,rfl,rfl,rfl,trivial⟩,hS,Nat.zero_le _⟩ ?_
    clear hS; rintro i _ w9 ⟨fb,rfl,hS,hi⟩
    refine wseq (wreg ?_)
    by_cases hlt:i < RL.length
    ·
     obtain ⟨gx,ox,hpx,_⟩:=(hS.slm 1 rfl).cell i hlt
     obtain ⟨gy,oy,hpy,_⟩:=(hS.slm 0 rfl).cell i hlt
     refine wl rfl (obin (u:=.int .i64 (i:Int)) (v:=.int .i64 (RL.length:Int)) (z:=.bool true) rfl rfl (ev rfl rfl) (ev rfl rfl) (bin_lss (decide_eq_true (by omega))) ?_)
     refine wnil (thenN (wseq ?_))
     refine wT (ev rfl rfl) ?_
     refine wskip (thenN (wseq (wblock (wseq (wreg (wl rfl (omove (v:=.int .i64 (i:Int)) rfl rfl (ev rfl rfl) ?_)))))))
     refine wl rfl (oassign (v:=.int .i64 (i:Int)) rfl rfl (ev rfl rfl) ?_)
     refine wnil (thenN (wseq ?_))
     refine wstage 9 [43,44,45,46,47,48,49,50,51] [[],[],[0,1],[2,0,1],[],[],[4,5],[6,4,5],[3,7,0,1,2,4,5,6]] [[],[],[],[],[],[],[],[],[]] [] [] (fun i9 => ([fun _ => Is (.slice pP1 RL.length cP1),fun _ => Is (.int .i64 (i:Int)),fun _ => Is (.pointer (some ⟨gx,(ox + i),none⟩)),fun _ => Is (.int .u32 (((nd RL i:Nat):Int))),fun _ => Is (.slice pP2 RL.length cP2),fun _ => Is (.int .i64 (i:Int)),fun _ => Is (.pointer (some ⟨gy,(oy + i),none⟩)),fun _ => Is (.int .u32 (((nd RL i:Nat):Int))),fun _ => Is (.bool false)]:List (List Value → Tell)).getD i9 (fun _ _ _ => False)) (heldNil) (fun d _ _ _ _ h => (by cases d <;> exact h)) (by kernel_rfl) (by kernel_rfl) (by kernel_rfl) hS ?_ ?_
     ·
      refine stepsCons rfl (fun Q f' w' ρ S ho hT hS hB => ?_) ?_
      ·exact .inl ⟨want_none rfl,omove (v:=.slice pP1 RL.length cP1) rfl rfl (ev rfl (ho 5 rfl)) ⟨_,_,rfl,isI,New.same _⟩⟩
      refine stepsCons rfl (fun Q f' w' ρ S ho hT hS hB => ?_) ?_
      ·exact .inl ⟨want_none rfl,omove (v:=.int .i64 (i:Int)) rfl rfl (ev rfl (ho 9 rfl)) ⟨_,_,rfl,isI,New.same _⟩⟩
      refine stepsCons rfl (fun Q f' w' ρ S ho hT hS hB => ?_) ?_
      ·obtain ⟨hv0,hr0⟩:=(hT 0 43 rfl rfl:(Is (.slice pP1 RL.length cP1)) _ _)
       obtain ⟨hv1,hr1⟩:=(hT 1 44 rfl rfl:(Is (.int .i64 (((i:Nat):Int)))) _ _)
       obtain hS:=hS.flat2 hr0 hr1
       exact .inl ⟨want_none rfl,oindex (p:=pP1) (g:=gx) (off:=ox) (m:=RL.length) (k:=i) (j:=(ox + i)) rfl rfl Tryd.runUnderlying25 Tryd.sizeOf34 (ev rfl hv0) (hpx) (ev rfl hv1) (hlt) (by rw [Nat.mul_one]) ⟨_,_,rfl,isI,New.same _⟩⟩
      refine stepsCons rfl (fun Q f' w' ρ S ho hT hS hB => ?_) ?_
      ·obtain ⟨hv2,hr2⟩:=(hT 2 45 rfl rfl:(Is (.pointer (some ⟨gx,(ox + i),none⟩))) _ _)
       obtain hS:=hS.flat1 hr2
       exact .inl ⟨want_none rfl,oloadc (v:=.int .u32 (((nd RL i:Nat):Int))) one32 rfl rfl (ev (v:=.pointer (some ⟨gx,(ox + i),none⟩)) rfl hv2) (hS.rowCell 1 rfl hpx hlt) ⟨_,_,rfl,isI,New.same _⟩⟩
      refine stepsCons rfl (fun Q f' w' ρ S ho hT hS hB => ?_) ?_
      ·exact .inl ⟨want_none rfl,omove (v:=.slice pP2 RL.length cP2) rfl rfl (ev rfl (ho 7 rfl)) ⟨_,_,rfl,isI,New.same _⟩⟩
      refine stepsCons rfl (fun Q f' w' ρ S ho hT hS hB => ?_) ?_
      ·exact .inl ⟨want_none rfl,omove (v:=.int .i64 (i:Int)) rfl rfl (ev rfl (ho 9 rfl)) ⟨_,_,rfl,isI,New.same _⟩⟩
      refine stepsCons rfl (fun Q f' w' ρ S ho hT hS hB => ?_) ?_
      ·obtain ⟨hv4,hr4⟩:=(hT 4 47 rfl rfl:(Is (.slice pP2 RL.length cP2)) _ _)
       obtain ⟨hv5,hr5⟩:=(hT 5 48 rfl rfl:(Is (.int .i64 (((i:Nat):Int)))) _ _)
       obtain hS:=hS.flat2 hr4 hr5
       exact .inl ⟨want_none rfl,oindex (p:=pP2) (g:=gy) (off:=oy) (m:=RL.length) (k:=i) (j:=(oy + i)) rfl rfl Tryd.runUnderlying25 Tryd.sizeOf34 (ev rfl hv4) (hpy) (ev rfl hv5) (hlt) (by rw [Nat.mul_one]) ⟨_,_,rfl,isI,New.same _⟩⟩
      refine stepsCons rfl (fun Q f' w' ρ S ho hT hS hB => ?_) ?_
      ·obtain ⟨hv6,hr6⟩:=(hT 6 49 rfl rfl:(Is (.pointer (some ⟨gy,(oy + i),none⟩))) _ _)
       obtain hS:=hS.flat1 hr6
       exact .inl ⟨want_none rfl,oloadc (v:=.int .u32 (((nd RL i:Nat):Int))) one32 rfl rfl (ev (v:=.pointer (some ⟨gy,(oy + i),none⟩)) rfl hv6) (hS.rowCell 0 rfl hpy hlt) ⟨_,_,rfl,isI,New.same _⟩⟩
      refine stepsCons rfl (fun Q f' w' ρ S ho hT hS hB => ?_) ?_
      ·obtain ⟨hv3,hr3⟩:=(hT 3 46 rfl rfl:(Is (.int .u32 (((nd RL i:Nat):Int)))) _ _)
       obtain ⟨hv7,hr7⟩:=(hT 7 50 rfl rfl:(Is (.int .u32 (((nd RL i:Nat):Int)))) _ _)
       obtain hS:=hS.flat2 hr3 hr7
       exact .inl ⟨want_none rfl,obin (u:=.int .u32 (((nd RL i:Nat):Int))) (v:=.int .u32 (((nd RL i:Nat):Int))) (z:=.bool false) rfl rfl (ev rfl hv3) (ev rfl hv7) (bin_neq (neF rfl)) ⟨_,_,rfl,isI,New.same _⟩⟩
      exact stepsNil
     ·
      intro vs ρ w10 f' hf hT hS
      obtain ⟨hv0,hr0⟩:=(hT 0 (by decide):(Is (.slice pP1 RL.length cP1)) _ _)
      obtain ⟨hv1,hr1⟩:=(hT 1 (by decide):(Is (.int .i64 (((i:Nat):Int)))) _ _)
      obtain ⟨hv2,hr2⟩:=(hT 2 (by decide):(Is (.pointer (some ⟨gx,(ox + i),none⟩))) _ _)
      obtain ⟨hv3,hr3⟩:=(hT 3 (by decide):(Is (.int .u32 (((nd RL i:Nat):Int)))) _ _)
      obtain ⟨hv4,hr4⟩:=(hT 4 (by decide):(Is (.slice pP2 RL.length cP2)) _ _)
      obtain ⟨hv5,hr5⟩:=(hT 5 (by decide):(Is (.int .i64 (((i:Nat):Int)))) _ _)
      obtain ⟨hv6,hr6⟩:=(hT 6 (by decide):(Is (.pointer (some ⟨gy,(oy + i),none⟩))) _ _)
      obtain ⟨hv7,hr7⟩:=(hT 7 (by decide):(Is (.int .u32 (((nd RL i:Nat):Int)))) _ _)
      obtain ⟨hv8,hr8⟩:=(hT 8 (by decide):(Is (.bool false)) _ _)
      simp only [pool,if_true,hr0,hr1,hr2,hr3,hr4,hr5,hr6,hr7,hr8,List.nil_append,List.cons_append,List.append_nil] at hS
      simp only [layf,hv0,hv1,hv2,hv3,hv4,hv5,hv6,hv7,hv8] at hf
      subst hf; clear hT hv0 hv1 hv2 hv3 hv4 hv5 hv6 hv7 hv8 hr0 hr1 hr2 hr3 hr4 hr5 hr6 hr7 hr8
      refine wdone rfl ?_
      refine thenN ?_
      refine wF (ev rfl rfl) ?_
      refine wskip (blkN (thenN (wreg (wl rfl (obin (u:=.int .i64 (i:Int)) (v:=.int .i64 1) (z:=.int .i64 (((i + 1:Nat):Int))) rfl rfl (ev rfl rfl) evc (bin_add (wrap_i64 (by omega) (by omega))) ?_)))))
      refine wl rfl (omove (v:=.int .i64 (((i + 1:Nat):Int))) rfl rfl (ev rfl rfl) ?_)
      refine wnil (thenN ?_)
      exact ⟨(i + 1),⟨_,act_sets (l:=[(5,.slice pP1 RL.length cP1),(7,.slice pP2 RL.length cP2),(39,.int .i64 (RL.length:Int)),(40,.int .i64 (((i + 1:Nat):Int)))]) ⟨rfl,rfl,rfl,rfl,trivial⟩,hS.pick [0,1,2,3] (by decide) rfl,by omega⟩,by omega⟩
    ·
     refine wl rfl (obin (u:=.int .i64 (i:Int)) (v:=.int .i64 (RL.length:Int)) (z:=.bool false) rfl rfl (ev rfl rfl) (ev rfl rfl) (bin_lss (decide_eq_false (by omega))) ?_)
     refine wnil (thenN (wseq ?_))
     refine wF (ev rfl rfl) ?_
     refine wexit ?_
     refine thenE ?_
     refine thenE ?_
     refine blkE ?_
     refine thenN (wseq (wreg (wl rfl (ocall rfl rfl Tryd.call10 rfl (wbawake (ht.at hS)) (args0 ) ?_))))
     rintro _ w10 ⟨_,_,rfl,⟨rfl,rfl⟩,hN⟩
     refine ⟨_,rfl,?_⟩
     replace hS:=hS.news hN; clear hN
     refine wl rfl (oassign (v:=.bool true) rfl rfl (ev rfl rfl) ?_)
     refine wnil (thenN ?_)
     refine wleave ?_
     refine wret1 Tryd.results4 (tellT (v:=.bool true) rfl rfl) ?_
     exact ⟨_,_,rfl,isI,hS.new0⟩
theorem boundChooses_walk {bd b2:Bool} {pd pb:Option Addr} {nd_ cd nb cb:Nat} {xs ys:List Nat} {w:World} (hds:Sl w pd nd_ cd xs) (hbs:Sl w pb nb cb ys) (h1:Tab w) (h2:Bases w) (hnd:nd_ ≤ 1048576) (hnb:nb ≤ 1048576):Calls Tryd.prog 4 #[.agg #[.bool bd,.slice pd nd_ cd],.agg #[.bool b2,.slice pb nb cb]] w (RetB w true):=Ret.bool (boundChooses_walk0 ⟨h1,h2⟩ hds hbs hnd hnb)
end Go.Proofs.YthnilcgmljecdaaDoor
