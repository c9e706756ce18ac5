
/-
  rat's functions and the document's, as contracts.
-/
import Derived.Test.YtjbcjlbbipohjaaGreatDoorRatOps
import Derived.Test.YtjbcjlbbipohjaaGreatDoorZDiv
set_option linter.unusedVariables false
set_option linter.unusedSimpArgs false
set_option maxRecDepth 100000
set_option maxHeartbeats 16000000
namespace Go.Proofs.YtjbcjlbbipohjaaGreatDoor
open Go.RowKit
def cmpQ (x y u v:Int):Int:=((x * v - u * y) * (y * v)).sign
theorem cmpZ_sign (a b:Int):cmpZ a b = (a - b).sign:=by
  unfold cmpZ
  rcases Int.lt_trichotomy a b with h | h | h
  · rw [if_pos h,Int.sign_eq_neg_one_of_neg (by omega)]
  · rw [if_neg (by omega),if_pos h,h,Int.sub_self]; rfl
  · rw [if_neg (by omega),if_neg (by omega),Int.sign_eq_one_of_pos (by omega)]
theorem wsmay {y:Int} {bB bA:Bool} {qA qB:Option Addr} {nA kA nB kB:Nat} {w:World} (hzB:Zr w bB qB nB kB y 67108864) (hy:y ≠ 0) :
  Calls Tryz.prog 22 #[.agg #[.bool bA,.slice qA nA kA,.bool bB,.slice qB nB kB]] w (Ret (Is (.bool true)) w):=by
 have hS:=Sep.init w
 refine went Tryz.func22 rfl (n:=7) rfl rfl ?_
 refine wseq (wreg (wl rfl (obox [.bool bA,.slice qA nA kA,.bool bB,.slice qB nB kB] hS rfl rfl (ev (v:=.agg #[.bool bA,.slice qA nA kA,.bool bB,.slice qB nB kB]) rfl rfl) rfl ?_)))
 clear hS; intro g1 w2 hS
 refine wl rfl (oassign (v:=.bool false) rfl rfl evc ?_)
 refine wnil (thenN (wseq (wreg (wl rfl (ofieldAddr (g:=g1) (off:=0) 2 rfl rfl (ev rfl rfl) Tryz.runUnderlying30 rfl Tryz.sizeOf28 rfl ?_)))))
 refine wl rfl (oload (vs:=[.bool bB,.slice qB nB kB]) aggZ hS 0 rfl rfl (ev rfl rfl) rfl rfl rfl ?_)
 obtain ⟨s1,hs1⟩:∃ z:Int,Hid ((y:Int).sign = z):=⟨_,rfl⟩
 refine wl rfl (ocall rfl rfl Tryz.call32 rfl (wqsign ((hzB.at hS).mono (by omega)) hs1) (args1 (ev rfl rfl)) ?_)
 rintro _ w3 ⟨_,_,rfl,⟨rfl,rfl⟩,hN⟩
 refine ⟨_,rfl,?_⟩
 replace hS:=hS.news hN; clear hN
 refine wl rfl (obin (u:=.int .i64 s1) (v:=.int .i64 0) (z:=.bool true) rfl rfl (ev rfl rfl) evc (bin_neq (bne_iff_ne.2 (fun e => by have:=sign_ne hs1 hy; rw [e] at this; exact absurd this (by decide)))) ?_)
 refine wl rfl (oassign (v:=.bool true) rfl rfl (ev rfl rfl) ?_)
 refine wnil (thenN ?_)
 refine wleave ?_
 refine wret1 Tryz.results22 (tellT (v:=.bool true) rfl rfl) ?_
 exact ⟨_,_,rfl,isI,hS.new0⟩
theorem wsmay0 {y:Int} {bB bA:Bool} {qA qB:Option Addr} {nA kA nB kB:Nat} {w:World} (hzB:Zr w bB qB nB kB y 67108864) (hy:y = 0) :
  Calls Tryz.prog 22 #[.agg #[.bool bA,.slice qA nA kA,.bool bB,.slice qB nB kB]] w (Ret (Is (.bool false)) w):=by
 have hS:=Sep.init w
 refine went Tryz.func22 rfl (n:=7) rfl rfl ?_
 refine wseq (wreg (wl rfl (obox [.bool bA,.slice qA nA kA,.bool bB,.slice qB nB kB] hS rfl rfl (ev (v:=.agg #[.bool bA,.slice qA nA kA,.bool bB,.slice qB nB kB]) rfl rfl) rfl ?_)))
 clear hS; intro g1 w2 hS
 refine wl rfl (oassign (v:=.bool false) rfl rfl evc ?_)
 refine wnil (thenN (wseq (wreg (wl rfl (ofieldAddr (g:=g1) (off:=0) 2 rfl rfl (ev rfl rfl) Tryz.runUnderlying30 rfl Tryz.sizeOf28 rfl ?_)))))
 refine wl rfl (oload (vs:=[.bool bB,.slice qB nB kB]) aggZ hS 0 rfl rfl (ev rfl rfl) rfl rfl rfl ?_)
 obtain ⟨s1,hs1⟩:∃ z:Int,Hid ((y:Int).sign = z):=⟨_,rfl⟩
 refine wl rfl (ocall rfl rfl Tryz.call32 rfl (wqsign ((hzB.at hS).mono (by omega)) hs1) (args1 (ev rfl rfl)) ?_)
 rintro _ w3 ⟨_,_,rfl,⟨rfl,rfl⟩,hN⟩
 refine ⟨_,rfl,?_⟩
 replace hS:=hS.news hN; clear hN
 refine wl rfl (obin (u:=.int .i64 s1) (v:=.int .i64 0) (z:=.bool false) rfl rfl (ev rfl rfl) evc (bin_neq (neF (by have:=sign_eq hs1 hy; simpa using this))) ?_)
 refine wl rfl (oassign (v:=.bool false) rfl rfl (ev rfl rfl) ?_)
 refine wnil (thenN ?_)
 refine wleave ?_
 refine wret1 Tryz.results22 (tellT (v:=.bool false) rfl rfl) ?_
 exact ⟨_,_,rfl,isI,hS.new0⟩
end Go.Proofs.YtjbcjlbbipohjaaGreatDoor
