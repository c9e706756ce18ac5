
/-
  The walk of similelaw22.BoundChosen.
-/
import Derived.Test.YthnilcgmljecdaaDoorB8
import Derived.Test.YthnilcgmljecdaaDoorLT
set_option linter.unusedVariables false
set_option linter.unusedSimpArgs false
set_option maxRecDepth 100000
set_option maxHeartbeats 16000000
namespace Go.Proofs.YthnilcgmljecdaaDoor
open Go.RowKit
theorem boundChosen_walk0 {bd b2:Bool} {pd pb:Option Addr} {nd_ cd nb cb:Nat} {xs ys:List Nat} {w:World} (ht:Tb w) (hds:Sl w pd nd_ cd xs) (hbs:Sl w pb nb cb ys) (hnd:nd_ ≤ 1048576) (hnb:nb ≤ 1048576) :
  Calls Tryd.prog 7 #[.agg #[.bool bd,.slice pd nd_ cd],.agg #[.bool b2,.slice pb nb cb]] w (Ret (Is (.bool true)) w):=by
 have hlx:=hds.len
 have hly:=hbs.len
 obtain ⟨zd,hzd⟩:∃ z:Int,zv bd (val xs) = z:=⟨_,rfl⟩
 obtain ⟨zb,hzb⟩:∃ z:Int,zv b2 (val ys) = z:=⟨_,rfl⟩
 have hd:Zr w bd pd nd_ cd zd 1048580:=⟨xs,hds,hzd,by omega⟩
 have hb:Zr w b2 pb nb cb zb 1048580:=⟨ys,hbs,hzb,by omega⟩
 have hS:=Sep.init w
 refine went Tryd.func7 rfl (n:=81) rfl rfl ?_
 refine wseq (wreg (wl rfl (obox [.bool bd,.slice pd nd_ cd] hS rfl rfl (ev (v:=.agg #[.bool bd,.slice pd nd_ cd]) rfl rfl) rfl ?_)))
 clear hS; intro g1 w2 hS
 refine wl rfl (obox [.bool b2,.slice pb nb cb] hS rfl rfl (ev (v:=.agg #[.bool b2,.slice pb nb cb]) rfl rfl) rfl ?_)
 clear hS; intro g3 w4 hS
 refine wl rfl (oassign (v:=.bool false) rfl rfl evc ?_)
 refine wnil (thenN (wseq (wseq (wreg (wl rfl (ofieldAddr (g:=g3) (off:=0) 1 rfl rfl (ev rfl rfl) Tryd.runUnderlying28 rfl Tryd.sizeOf26 rfl ?_))))))
 refine wl rfl (oload1 (v:=.slice pb nb cb) oneN hS 0 rfl rfl (ev rfl rfl) rfl rfl ?_)
 refine wl rfl (ocall rfl rfl Tryd.call11 rfl ((rlen_any (hbs.below hS.below (Nat.le_refl _)) (by omega)).mono RetInt.u) (args1 (ev rfl rfl)) ?_)
 rintro _ w5 ⟨_,_,rfl,⟨rfl,rfl⟩,hN⟩
 refine ⟨_,rfl,?_⟩
 replace hS:=hS.news hN; clear hN
 by_cases hbig:4096 < blen (val ys)
 ·
  refine wl rfl (obin (u:=.int .i64 (((blen (val ys):Nat):Int))) (v:=.int .i64 4096) (z:=.bool true) rfl rfl (ev rfl rfl) evc (bin_gtr (decide_eq_true (by omega))) ?_)
  refine wnil (thenN ?_)
  refine wT (ev rfl rfl) ?_
  refine wseq (wreg (wl rfl (ocall rfl rfl Tryd.call10 rfl (wbawake (ht.at hS)) (args0 ) ?_)))
  rintro _ w6 ⟨_,_,rfl,⟨rfl,rfl⟩,hN⟩
  refine ⟨_,rfl,?_⟩
  replace hS:=hS.news hN; clear hN
  refine wl rfl (oassign (v:=.bool true) rfl rfl (ev rfl rfl) ?_)
  refine wnil (thenN ?_)
  refine wleave ?_
  refine thenR ?_
  refine wret1 Tryd.results7 (tellT (v:=.bool true) rfl rfl) ?_
  exact ⟨_,_,rfl,isI,hS.new0⟩
 ·
  refine wl rfl (obin (u:=.int .i64 (((blen (val ys):Nat):Int))) (v:=.int .i64 4096) (z:=.bool false) rfl rfl (ev rfl rfl) evc (bin_gtr (decide_eq_false (by omega))) ?_)
  refine wnil (thenN ?_)
  refine wF (ev rfl rfl) ?_
  refine wskip (thenN (wseq (wreg (wl rfl (oload (vs:=[.bool bd,.slice pd nd_ cd]) aggZ hS 1 rfl rfl (ev rfl rfl) rfl rfl rfl ?_)))))
  refine wl rfl (oload (vs:=[.bool b2,.slice pb nb cb]) aggZ hS 0 rfl rfl (ev rfl rfl) rfl rfl rfl ?_)
  by_cases h0:zd = 0
  ·
   refine wl rfl (ocall rfl rfl Tryd.call12 rfl (wbchoose5 (hd.at hS) (hb.at hS) h0) (args2 (ev rfl rfl) (ev rfl rfl)) ?_)
   rintro _ w6 ⟨_,_,rfl,⟨rfl,rfl⟩,hN⟩
   refine ⟨_,rfl,?_⟩
   replace hS:=hS.news hN; clear hN
   refine wl rfl (omove (v:=.tuple #[.slice none 0 0,.int .i64 5]) rfl rfl (ev rfl rfl) ?_)
   refine wl rfl (oextract (vs:=[.slice none 0 0,.int .i64 5]) (v:=.slice none 0 0) rfl rfl (ev rfl rfl) rfl ?_)
   refine wl rfl (oextract (vs:=[.slice none 0 0,.int .i64 5]) (v:=.int .i64 5) rfl rfl (ev rfl rfl) rfl ?_)
   refine wl rfl (oassign (v:=.slice none 0 0) rfl rfl (ev rfl rfl) ?_)
   refine wl rfl (oassign (v:=.int .i64 5) rfl rfl (ev rfl rfl) ?_)
   refine wnil (thenN (wseq (wseq (wreg (wl rfl (omove (v:=.int .i64 5) rfl rfl (ev rfl rfl) ?_))))))
   refine wl rfl (ocall rfl rfl Tryd.call9 rfl (wbnum) (args1 (ev rfl rfl)) ?_)
   rintro _ w7 ⟨_,_,rfl,⟨rfl,rfl⟩,hN⟩
   refine ⟨_,rfl,?_⟩
   replace hS:=hS.news hN; clear hN
   refine wl rfl (obin (u:=.int .i64 5) (v:=.int .i64 0) (z:=.bool true) rfl rfl (ev rfl rfl) evc (bin_neq (by decide)) ?_)
   refine wnil (thenN ?_)
   refine wT (ev rfl rfl) ?_
   refine wseq (wreg (wl rfl (omove (v:=.slice none 0 0) rfl rfl (ev rfl rfl) ?_)))
   refine wl rfl (olen rfl rfl rfl Tryd.runUnderlying25 (p:=none) (k:=0) (m:=0) (ev rfl rfl) ?_)
   refine wl rfl (obin (u:=.int .i64 (((0:Nat):Int))) (v:=.int .i64 0) (z:=.bool true) rfl rfl (ev rfl rfl) evc (bin_eql (eqT rfl)) ?_)
   refine wl rfl (omove (v:=.bool true) rfl rfl (ev rfl rfl) ?_)
   refine wlOn (e:=29) rfl rfl rfl rfl (ocall rfl rfl Tryd.call10 rfl (wbawake (ht.at hS)) (args0 ) ?_)
   rintro _ w8 ⟨_,_,rfl,⟨rfl,rfl⟩,hN⟩
   refine ⟨_,rfl,?_⟩
   replace hS:=hS.news hN; clear hN
   refine wl rfl (opick (b:=true) (v:=.bool true) rfl rfl (ev rfl rfl) (ev rfl rfl) ?_)
   refine wl rfl (oassign (v:=.bool true) rfl rfl (ev rfl rfl) ?_)
   refine wnil (thenN ?_)
   refine wleave ?_
   refine thenR ?_
   refine wret1 Tryd.results7 (tellT (v:=.bool true) rfl rfl) ?_
   exact ⟨_,_,rfl,isI,hS.new0⟩
  ·
   by_cases hneg:zb < 0
   ·
    refine wl rfl (ocall rfl rfl Tryd.call12 rfl (wbchoose1 (hd.at hS) (hb.at hS) h0 hneg) (args2 (ev rfl rfl) (ev rfl rfl)) ?_)
    rintro _ w6 ⟨_,_,rfl,⟨rfl,rfl⟩,hN⟩
    refine ⟨_,rfl,?_⟩
    replace hS:=hS.news hN; clear hN
    refine wl rfl (omove (v:=.tuple #[.slice none 0 0,.int .i64 1]) rfl rfl (ev rfl rfl) ?_)
    refine wl rfl (oextract (vs:=[.slice none 0 0,.int .i64 1]) (v:=.slice none 0 0) rfl rfl (ev rfl rfl) rfl ?_)
    refine wl rfl (oextract (vs:=[.slice none 0 0,.int .i64 1]) (v:=.int .i64 1) rfl rfl (ev rfl rfl) rfl ?_)
    refine wl rfl (oassign (v:=.slice none 0 0) rfl rfl (ev rfl rfl) ?_)
    refine wl rfl (oassign (v:=.int .i64 1) rfl rfl (ev rfl rfl) ?_)
    refine wnil (thenN (wseq (wseq (wreg (wl rfl (omove (v:=.int .i64 1) rfl rfl (ev rfl rfl) ?_))))))
    refine wl rfl (ocall rfl rfl Tryd.call9 rfl (wbnum) (args1 (ev rfl rfl)) ?_)
    rintro _ w7 ⟨_,_,rfl,⟨rfl,rfl⟩,hN⟩
    refine ⟨_,rfl,?_⟩
    replace hS:=hS.news hN; clear hN
    refine wl rfl (obin (u:=.int .i64 1) (v:=.int .i64 0) (z:=.bool true) rfl rfl (ev rfl rfl) evc (bin_neq (by decide)) ?_)
    refine wnil (thenN ?_)
    refine wT (ev rfl rfl) ?_
    refine wseq (wreg (wl rfl (omove (v:=.slice none 0 0) rfl rfl (ev rfl rfl) ?_)))
    refine wl rfl (olen rfl rfl rfl Tryd.runUnderlying25 (p:=none) (k:=0) (m:=0) (ev rfl rfl) ?_)
    refine wl rfl (obin (u:=.int .i64 (((0:Nat):Int))) (v:=.int .i64 0) (z:=.bool true) rfl rfl (ev rfl rfl) evc (bin_eql (eqT rfl)) ?_)
    refine wl rfl (omove (v:=.bool true) rfl rfl (ev rfl rfl) ?_)
    refine wlOn (e:=29) rfl rfl rfl rfl (ocall rfl rfl Tryd.call10 rfl (wbawake (ht.at hS)) (args0 ) ?_)
    rintro _ w8 ⟨_,_,rfl,⟨rfl,rfl⟩,hN⟩
    refine ⟨_,rfl,?_⟩
    replace hS:=hS.news hN; clear hN
    refine wl rfl (opick (b:=true) (v:=.bool true) rfl rfl (ev rfl rfl) (ev rfl rfl) ?_)
    refine wl rfl (oassign (v:=.bool true) rfl rfl (ev rfl rfl) ?_)
    refine wnil (thenN ?_)
    refine wleave ?_
    refine thenR ?_
    refine wret1 Tryd.results7 (tellT (v:=.bool true) rfl rfl) ?_
    exact ⟨_,_,rfl,isI,hS.new0⟩
   ·
    have hbl2:∃ t:Nat,zb + zb = (t:Int) ∧ t < 2 ^ E41:=by rw [← hzb]; exact few_bits hbig (by rw [hzb]; exact hneg)
    obtain ⟨t,hbt,htt⟩:=hbl2
    obtain ⟨k,hk⟩:=ch_ex (z:=zd) (t:=t) (N:=E33) rfl h0 (by rw [← hzd]; exact all_bits rfl hds.lims (by omega)) htt
    have hRl:=ch_len hk htt
    obtain ⟨RL,hRL⟩:∃ R,sel zd (PP.take k) = R:=⟨_,rfl⟩
    rw [hRL] at hRl
    have hef:enV zb RL = Value.tuple #[.bool true,.bool true,.int .i64 0]:=by rw [← hRL]; exact chosen_enV hk (by omega) hbt
    have hfal:∀ i,i < RL.length → i ≠ 0 → nd RL i < nd RL (i - 1):=by rw [← hRL]; exact fun i => sel_falls
    have hspr:∀ i,i < RL.length → MR.Pr (nd RL i) ∧ nd RL i < 4294967295 ∧ zd % ((nd RL i:Nat):Int) ≠ 0:=by rw [← hRL]; exact fun i => sel_pr
    refine wl rfl (ocall rfl rfl Tryd.call12 rfl ((show Calls _ _ _ _ (Ret (RwE RL 0) _) from by rw [← hRL]; exact wbchoose (hd.at hS) (hb.at hS) (ht.at hS) h0 (by omega) hbt htt hk)) (args2 (ev rfl rfl) (ev rfl rfl)) ?_)
    rintro _ w6 ⟨_,_,rfl,⟨pP1,cP1,rfl,rfl⟩,hN⟩
    refine ⟨_,rfl,?_⟩
    replace hS:=hS.news hN; clear hN
    refine wl rfl (omove (v:=.tuple #[.slice pP1 RL.length cP1,.int .i64 0]) rfl rfl (ev rfl rfl) ?_)
    refine wl rfl (oextract (vs:=[.slice pP1 RL.length cP1,.int .i64 0]) (v:=.slice pP1 RL.length cP1) rfl rfl (ev rfl rfl) rfl ?_)
    refine wl rfl (oextract (vs:=[.slice pP1 RL.length cP1,.int .i64 0]) (v:=.int .i64 0) rfl rfl (ev rfl rfl) rfl ?_)
    refine wl rfl (oassign (v:=.slice pP1 RL.length cP1) rfl rfl (ev rfl rfl) ?_)
    refine wl rfl (oassign (v:=.int .i64 0) rfl rfl (ev rfl rfl) ?_)
    refine wnil (thenN (wseq (wseq (wreg (wl rfl (omove (v:=.int .i64 0) rfl rfl (ev rfl rfl) ?_))))))
    refine wl rfl (ocall rfl rfl Tryd.call9 rfl (wbnum) (args1 (ev rfl rfl)) ?_)
    rintro _ w7 ⟨_,_,rfl,⟨rfl,rfl⟩,hN⟩
    refine ⟨_,rfl,?_⟩
    replace hS:=hS.news hN; clear hN
    refine wl rfl (obin (u:=.int .i64 0) (v:=.int .i64 0) (z:=.bool false) rfl rfl (ev rfl rfl) evc (bin_neq (by decide)) ?_)
    refine wnil (thenN ?_)
    refine wF (ev rfl rfl) ?_
    refine wskip (thenN (wseq (wreg (wl rfl (oload (vs:=[.bool b2,.slice pb nb cb]) aggZ hS 1 rfl rfl (ev rfl rfl) rfl rfl rfl ?_)))))
    refine wl rfl (omove (v:=.slice pP1 RL.length cP1) rfl rfl (ev rfl rfl) ?_)
    refine wl rfl (ocall rfl rfl Tryd.call20 rfl ((show Calls _ _ _ _ (Ret (Is (.tuple #[.bool true,.bool true,.int .i64 0])) _) from by rw [← hef]; exact wbenough (ht.at hS) (hb.at hS) (hS.slm 0 rfl) (by unfold E41 at *; omega))) (args2 (ev rfl rfl) (ev rfl rfl)) ?_)
    rintro _ w8 ⟨_,_,rfl,⟨rfl,rfl⟩,hN⟩
    refine ⟨_,rfl,?_⟩
    replace hS:=hS.news hN; clear hN
    refine wl rfl (omove (v:=.tuple #[.bool true,.bool true,.int .i64 0]) rfl rfl (ev rfl rfl) ?_)
    refine wl rfl (oextract (vs:=[.bool true,.bool true,.int .i64 0]) (v:=.bool true) rfl rfl (ev rfl rfl) rfl ?_)
    refine wl rfl (oextract (vs:=[.bool true,.bool true,.int .i64 0]) (v:=.bool true) rfl rfl (ev rfl rfl) rfl ?_)
    refine wl rfl (oextract (vs:=[.bool true,.bool true,.int .i64 0]) (v:=.int .i64 0) rfl rfl (ev rfl rfl) rfl ?_)
    refine wl rfl (oassign (v:=.bool true) rfl rfl (ev rfl rfl) ?_)
    refine wl rfl (oassign (v:=.bool true) rfl rfl (ev rfl rfl) ?_)
    refine wl rfl (oassign (v:=.int .i64 0) rfl rfl (ev rfl rfl) ?_)
    refine wnil (thenN (wseq (wseq (wreg (wl rfl (omove (v:=.int .i64 0) rfl rfl (ev rfl rfl) ?_))))))
    refine wl rfl (ocall rfl rfl Tryd.call9 rfl (wbnum) (args1 (ev rfl rfl)) ?_)
    rintro _ w9 ⟨_,_,rfl,⟨rfl,rfl⟩,hN⟩
    refine ⟨_,rfl,?_⟩
    replace hS:=hS.news hN; clear hN
    refine wl rfl (obin (u:=.int .i64 0) (v:=.int .i64 0) (z:=.bool false) rfl rfl (ev rfl rfl) evc (bin_neq (by decide)) ?_)
    refine wl rfl (omove (v:=.bool false) rfl rfl (ev rfl rfl) ?_)
    refine wlOn (e:=42) rfl rfl rfl rfl (omove (v:=.bool true) rfl rfl (ev rfl rfl) ?_)
    refine wlOn (e:=42) rfl rfl rfl rfl (onot (b:=true) rfl rfl (ev rfl rfl) ?_)
    refine wl rfl (opick (b:=false) (v:=.bool false) rfl rfl (ev rfl rfl) (ev rfl rfl) ?_)
    refine wl rfl (omove (v:=.bool false) rfl rfl (ev rfl rfl) ?_)
    refine wlOn (e:=46) rfl rfl rfl rfl (omove (v:=.bool true) rfl rfl (ev rfl rfl) ?_)
    refine wlOn (e:=46) rfl rfl rfl rfl (onot (b:=true) rfl rfl (ev rfl rfl) ?_)
    refine wl rfl (opick (b:=false) (v:=.bool false) rfl rfl (ev rfl rfl) (ev rfl rfl) ?_)
    refine wnil (thenN ?_)
    refine wF (ev rfl rfl) ?_
    refine wskip (thenN (wseq (wseq (wreg (wl rfl (omove (v:=.slice pP1 RL.length cP1) rfl rfl (ev rfl rfl) ?_))))))
    refine wl rfl (olen rfl rfl rfl Tryd.runUnderlying25 (p:=pP1) (k:=RL.length) (m:=cP1) (ev rfl rfl) ?_)
    refine wl rfl (omove (v:=.int .i64 0) rfl rfl evc ?_)
    refine wnil (thenN (wblock ?_))
    refine wloop (σ := Nat) (fun i a9 w' => ∃ (fb:Nat → Value),a9 = act 81 (sets fb [(2,.pointer (some ⟨g1,0,none⟩)),(5,.slice pP1 RL.length cP1),(50,.slice pP1 RL.length cP1),(51,.int .i64 (RL.length:Int)),(52,.int .i64 (i:Int))]) ∧ Sep w [.rowm pP1 RL.length cP1 RL,.blk g3 [.bool b2,.slice pb nb cb] 28,.blk g1 [.bool bd,.slice pd nd_ cd] 28] w' ∧ (i ≤ RL.length)) (fun i => RL.length - i) (0) ⟨_,act_sets (l:=[(2,.pointer (some ⟨g1,0,none⟩)),(5,.slice pP1 RL.length cP1),(50,.slice pP1 RL.length cP1),(51,.int .i64 (RL.length:Int)),(52,.int .i64 0)]) ⟨rfl,rfl,rfl,rfl,rfl,trivial⟩,hS,Nat.zero_le _⟩ ?_
    clear hS; rintro i _ w10 ⟨fb,rfl,hS,hi⟩
    refine wseq (wreg ?_)
    by_cases hlt:i < RL.length
    ·
     obtain ⟨gx,ox,hpx,_⟩:=(hS.slm 0 rfl).cell i hlt
     obtain ⟨hpr,hp32,hmz⟩:=hspr i hlt
     have hp0:=hpr.1
     refine wl rfl (obin (u:=.int .i64 (i:Int)) (v:=.int .i64 (RL.length:Int)) (z:=.bool true) rfl rfl (ev rfl rfl) (ev rfl rfl) (bin_lss (decide_eq_true (by omega))) ?_)
     refine wnil (thenN (wseq ?_))
     refine wT (ev rfl rfl) ?_
     refine wskip (thenN (wseq (wblock (wseq (wreg (wl rfl (omove (v:=.int .i64 (i:Int)) rfl rfl (ev rfl rfl) ?_)))))))
     refine wl rfl (oindex (p:=pP1) (g:=gx) (off:=ox) (m:=RL.length) (k:=i) (j:=(ox + i)) rfl rfl Tryd.runUnderlying25 Tryd.sizeOf34 (ev rfl rfl) (hpx) (ev rfl rfl) (hlt) (by rw [Nat.mul_one]) ?_)
     refine wl rfl (oloadc (v:=.int .u32 (((nd RL i:Nat):Int))) one32 rfl rfl (ev (v:=.pointer (some ⟨gx,(ox + i),none⟩)) rfl rfl) (hS.rowCell 0 rfl hpx hlt) ?_)
     refine wl rfl (oassign (v:=.int .i64 (i:Int)) rfl rfl (ev rfl rfl) ?_)
     refine wl rfl (oassign (v:=.int .u32 (((nd RL i:Nat):Int))) rfl rfl (ev rfl rfl) ?_)
     refine wnil (thenN (wseq (wreg (wl rfl (omove (v:=.int .u32 (((nd RL i:Nat):Int))) rfl rfl (ev rfl rfl) ?_)))))
     refine wl rfl (ocall rfl rfl Tryd.call22 rfl (wsis (b:=true) (by omega) ⟨fun _ => hpr,fun _ => rfl⟩) (args1 (ev rfl rfl)) ?_)
     rintro _ w11 ⟨_,_,rfl,⟨rfl,rfl⟩,hN⟩
     refine ⟨_,rfl,?_⟩
     replace hS:=hS.news hN; clear hN
     refine wl rfl (onot (b:=true) rfl rfl (ev rfl rfl) ?_)
     refine wl rfl (omove (v:=.bool false) rfl rfl (ev rfl rfl) ?_)
     refine wlOn (e:=60) rfl rfl rfl rfl (omove (v:=.int .i64 (i:Int)) rfl rfl (ev rfl rfl) ?_)
     by_cases hi0:i = 0
     ·
      refine wlOn (e:=60) rfl rfl rfl rfl (obin (u:=.int .i64 (i:Int)) (v:=.int .i64 0) (z:=.bool false) rfl rfl (ev rfl rfl) evc (bin_gtr (decide_eq_false (by omega))) ?_)
      refine wlOn (e:=60) rfl rfl rfl rfl (omove (v:=.bool false) rfl rfl (ev rfl rfl) ?_)
      refine wlOff (e:=63) (d:=64) (b':=false) rfl rfl rfl rfl rfl rfl ?_
      refine wlOff (e:=63) (d:=65) (b':=false) rfl rfl rfl rfl rfl rfl ?_
      refine wlOff (e:=63) (d:=66) (b':=false) rfl rfl rfl rfl rfl rfl ?_
      refine wlOff (e:=63) (d:=67) (b':=false) rfl rfl rfl rfl rfl rfl ?_
      refine wlOff (e:=63) (d:=68) (b':=false) rfl rfl rfl rfl rfl rfl ?_
      refine wlOff (e:=63) (d:=69) (b':=false) rfl rfl rfl rfl rfl rfl ?_
      refine wlOff (e:=63) (d:=70) (b':=false) rfl rfl rfl rfl rfl rfl ?_
      refine wlOn (e:=60) rfl rfl rfl rfl (opick (b:=false) (v:=.bool false) rfl rfl (ev rfl rfl) evc ?_)
      refine wl rfl (opick (b:=false) (v:=.bool false) rfl rfl (ev rfl rfl) (ev rfl rfl) ?_)
      refine wl rfl (omove (v:=.bool false) rfl rfl (ev rfl rfl) ?_)
      refine wlOn (e:=73) rfl rfl rfl rfl (oload (vs:=[.bool bd,.slice pd nd_ cd]) aggZ hS 2 rfl rfl (ev rfl rfl) rfl rfl rfl ?_)
      refine wlOn (e:=73) rfl rfl rfl rfl (omove (v:=.int .u32 (((nd RL i:Nat):Int))) rfl rfl (ev rfl rfl) ?_)
      refine wlOn (e:=73) rfl rfl rfl rfl (ocall rfl rfl Tryd.call23 rfl (wqmod ((hd.at hS).mono (by omega)) (by omega) (by omega)) (args2 (ev rfl rfl) (ev rfl rfl)) ?_)
      rintro _ w12 ⟨_,_,rfl,⟨rfl,rfl⟩,hN⟩
      refine ⟨_,rfl,?_⟩
      replace hS:=hS.news hN; clear hN
      refine wlOn (e:=73) rfl rfl rfl rfl (obin (u:=.int .u32 (((zd % (((nd RL i:Nat):Int))).toNat:Int))) (v:=.int .u32 0) (z:=.bool false) rfl rfl (ev rfl rfl) evc (bin_eql (eqF (by have h9:=Int.emod_nonneg zd (b:=((nd RL i:Nat):Int)) (by omega); omega))) ?_)
      refine wl rfl (opick (b:=false) (v:=.bool false) rfl rfl (ev rfl rfl) (ev rfl rfl) ?_)
      refine wnil (thenN ?_)
      refine wF (ev rfl rfl) ?_
      refine wskip (blkN (thenN (wreg (wl rfl (obin (u:=.int .i64 (i:Int)) (v:=.int .i64 1) (z:=.int .i64 (((i + 1:Nat):Int))) rfl rfl (ev rfl rfl) evc (bin_add (wrap_i64 (by omega) (by omega))) ?_)))))
      refine wl rfl (omove (v:=.int .i64 (((i + 1:Nat):Int))) rfl rfl (ev rfl rfl) ?_)
      refine wnil (thenN ?_)
      exact ⟨(i + 1),⟨_,act_sets (l:=[(2,.pointer (some ⟨g1,0,none⟩)),(5,.slice pP1 RL.length cP1),(50,.slice pP1 RL.length cP1),(51,.int .i64 (RL.length:Int)),(52,.int .i64 (((i + 1:Nat):Int)))]) ⟨rfl,rfl,rfl,rfl,rfl,trivial⟩,hS.pick [0,1,2] (by decide) rfl,by omega⟩,by omega⟩
     ·
      refine wlOn (e:=60) rfl rfl rfl rfl (obin (u:=.int .i64 (i:Int)) (v:=.int .i64 0) (z:=.bool true) rfl rfl (ev rfl rfl) evc (bin_gtr (decide_eq_true (by omega))) ?_)
      refine wlOn (e:=60) rfl rfl rfl rfl (omove (v:=.bool true) rfl rfl (ev rfl rfl) ?_)
      refine wlOn (e:=63) rfl rfl rfl rfl (omove (v:=.slice pP1 RL.length cP1) rfl rfl (ev rfl rfl) ?_)
      refine wlOn (e:=63) rfl rfl rfl rfl (omove (v:=.int .i64 (i:Int)) rfl rfl (ev rfl rfl) ?_)
      refine wlOn (e:=63) rfl rfl rfl rfl (obin (u:=.int .i64 (i:Int)) (v:=.int .i64 1) (z:=.int .i64 (((i - 1:Nat):Int))) rfl rfl (ev rfl rfl) evc (bin_sub (by rw [show (i:Int) - 1 = ((i - 1:Nat):Int) by omega]; exact wrap_i64 (by omega) (by omega))) ?_)
      refine wlOn (e:=63) rfl rfl rfl rfl (oindex (p:=pP1) (g:=gx) (off:=ox) (m:=RL.length) (k:=(i - 1)) (j:=(ox + (i - 1))) rfl rfl Tryd.runUnderlying25 Tryd.sizeOf34 (ev rfl rfl) (hpx) (ev rfl rfl) ((by omega)) (by rw [Nat.mul_one]) ?_)
      refine wlOn (e:=63) rfl rfl rfl rfl (oloadc (v:=.int .u32 (((nd RL ((i - 1)):Nat):Int))) one32 rfl rfl (ev (v:=.pointer (some ⟨gx,(ox + (i - 1)),none⟩)) rfl rfl) (hS.rowCell 0 rfl hpx (by omega)) ?_)
      refine wlOn (e:=63) rfl rfl rfl rfl (omove (v:=.int .u32 (((nd RL i:Nat):Int))) rfl rfl (ev rfl rfl) ?_)
      refine wlOn (e:=63) rfl rfl rfl rfl (obin (u:=.int .u32 (((nd RL ((i - 1)):Nat):Int))) (v:=.int .u32 (((nd RL i:Nat):Int))) (z:=.bool false) rfl rfl (ev rfl rfl) (ev rfl rfl) (bin_leq (decide_eq_false (by have h9:=hfal i hlt hi0; omega))) ?_)
      refine wlOn (e:=60) rfl rfl rfl rfl (opick (b:=true) (v:=.bool false) rfl rfl (ev rfl rfl) (ev rfl rfl) ?_)
      refine wl rfl (opick (b:=false) (v:=.bool false) rfl rfl (ev rfl rfl) (ev rfl rfl) ?_)
      refine wl rfl (omove (v:=.bool false) rfl rfl (ev rfl rfl) ?_)
      refine wlOn (e:=73) rfl rfl rfl rfl (oload (vs:=[.bool bd,.slice pd nd_ cd]) aggZ hS 2 rfl rfl (ev rfl rfl) rfl rfl rfl ?_)
      refine wlOn (e:=73) rfl rfl rfl rfl (omove (v:=.int .u32 (((nd RL i:Nat):Int))) rfl rfl (ev rfl rfl) ?_)
      refine wlOn (e:=73) rfl rfl rfl rfl (ocall rfl rfl Tryd.call23 rfl (wqmod ((hd.at hS).mono (by omega)) (by omega) (by omega)) (args2 (ev rfl rfl) (ev rfl rfl)) ?_)
      rintro _ w12 ⟨_,_,rfl,⟨rfl,rfl⟩,hN⟩
      refine ⟨_,rfl,?_⟩
      replace hS:=hS.news hN; clear hN
      refine wlOn (e:=73) rfl rfl rfl rfl (obin (u:=.int .u32 (((zd % (((nd RL i:Nat):Int))).toNat:Int))) (v:=.int .u32 0) (z:=.bool false) rfl rfl (ev rfl rfl) evc (bin_eql (eqF (by have h9:=Int.emod_nonneg zd (b:=((nd RL i:Nat):Int)) (by omega); omega))) ?_)
      refine wl rfl (opick (b:=false) (v:=.bool false) rfl rfl (ev rfl rfl) (ev rfl rfl) ?_)
      refine wnil (thenN ?_)
      refine wF (ev rfl rfl) ?_
      refine wskip (blkN (thenN (wreg (wl rfl (obin (u:=.int .i64 (i:Int)) (v:=.int .i64 1) (z:=.int .i64 (((i + 1:Nat):Int))) rfl rfl (ev rfl rfl) evc (bin_add (wrap_i64 (by omega) (by omega))) ?_)))))
      refine wl rfl (omove (v:=.int .i64 (((i + 1:Nat):Int))) rfl rfl (ev rfl rfl) ?_)
      refine wnil (thenN ?_)
      exact ⟨(i + 1),⟨_,act_sets (l:=[(2,.pointer (some ⟨g1,0,none⟩)),(5,.slice pP1 RL.length cP1),(50,.slice pP1 RL.length cP1),(51,.int .i64 (RL.length:Int)),(52,.int .i64 (((i + 1:Nat):Int)))]) ⟨rfl,rfl,rfl,rfl,rfl,trivial⟩,hS.pick [0,1,2] (by decide) rfl,by omega⟩,by omega⟩
    ·
     refine wl rfl (obin (u:=.int .i64 (i:Int)) (v:=.int .i64 (RL.length:Int)) (z:=.bool false) rfl rfl (ev rfl rfl) (ev rfl rfl) (bin_lss (decide_eq_false (by omega))) ?_)
     refine wnil (thenN (wseq ?_))
     refine wF (ev rfl rfl) ?_
     refine wexit ?_
     refine thenE ?_
     refine thenE ?_
     refine blkE ?_
     refine thenN (wseq (wreg (wl rfl (ocall rfl rfl Tryd.call10 rfl (wbawake (ht.at hS)) (args0 ) ?_))))
     rintro _ w11 ⟨_,_,rfl,⟨rfl,rfl⟩,hN⟩
     refine ⟨_,rfl,?_⟩
     replace hS:=hS.news hN; clear hN
     refine wl rfl (oassign (v:=.bool true) rfl rfl (ev rfl rfl) ?_)
     refine wnil (thenN ?_)
     refine wleave ?_
     refine wret1 Tryd.results7 (tellT (v:=.bool true) rfl rfl) ?_
     exact ⟨_,_,rfl,isI,hS.new0⟩
theorem boundChosen_walk {bd b2:Bool} {pd pb:Option Addr} {nd_ cd nb cb:Nat} {xs ys:List Nat} {w:World} (hds:Sl w pd nd_ cd xs) (hbs:Sl w pb nb cb ys) (h1:Tab w) (h2:Bases w) (hnd:nd_ ≤ 1048576) (hnb:nb ≤ 1048576):Calls Tryd.prog 7 #[.agg #[.bool bd,.slice pd nd_ cd],.agg #[.bool b2,.slice pb nb cb]] w (RetB w true):=Ret.bool (boundChosen_walk0 ⟨h1,h2⟩ hds hbs hnd hnb)
end Go.Proofs.YthnilcgmljecdaaDoor
