/-
  Contracts and lemmas, joined in one text.
-/
import Derived.Test.YtcfcdbeemhjhgaaDoorHs3
import Derived.Test.YtcfcdbeemhjhgaaDoorCB
import Derived.Test.YtcfcdbeemhjhgaaDoorPrime
import Derived.Test.YtcfcdbeemhjhgaaDoorH6
set_option linter.unusedVariables false
set_option linter.unusedSimpArgs false
/-
  The document's own functions of layer 21.
-/
set_option maxRecDepth 100000
set_option maxHeartbeats 16000000
namespace Go.Proofs.YtcfcdbeemhjhgaaDoor
open Go.RowKit
theorem sq_lt65 {q:Nat} (h:q * q < 4294967296):q < 65536:=by
  rcases Nat.lt_or_ge q 65536 with h1 | h1
  · exact h1
  have:=Nat.mul_le_mul h1 h1; omega
theorem pr_of_sq {p:Nat} (h2:2 ≤ p) (h:∀ d,2 ≤ d → d * d ≤ p → ¬ d ∣ p):MR.Pr p:=⟨h2,fun d hd => by
  by_cases h1:d = 1
  · exact .inl h1
  by_cases hp:d = p
  · exact .inr hp
  exfalso
  obtain ⟨e,he⟩:=hd
  have hd0:d ≠ 0:=fun e0 => by rw [e0,Nat.zero_mul] at he; omega
  have he0:e ≠ 0:=fun e0 => by rw [e0,Nat.mul_zero] at he; omega
  have he1:e ≠ 1:=fun e0 => by rw [e0,Nat.mul_one] at he; exact hp he.symm
  rcases Nat.le_total d e with hl | hl
  · exact h d (by omega) (by rw [he]; exact Nat.mul_le_mul_left d hl) ⟨e,he⟩
  exact h e (by omega) (by rw [he]; exact Nat.mul_le_mul_right e hl) ⟨d,by rw [he,Nat.mul_comm]⟩⟩
theorem pr_no {p d:Nat} (hp:MR.Pr p) (h2:2 ≤ d) (hs:d * d ≤ p):¬ p % d = 0:=fun h => by
  rcases hp.2 d (Nat.dvd_of_mod_eq_zero h) with h1 | h1
  · omega
  have:=Nat.mul_le_mul_right d h2; rw [h1] at this hs; have:=hp.1; omega
def dotH (p:Nat) (F:Nat → Nat):Nat → Nat
  | 0 => 0
  | j + 1 => (dotH p F j + F j) % p
def mulH (p:Nat) (A B:List (List Nat)) (n:Nat):List (List Nat):=mkM A.length n fun i k => dotH p (fun j => (nd (A.getD i []) j % p) * (nd (B.getD j []) k % p)) n
theorem MS.nil0 (w:World):MS w none 0 []:=⟨rfl,Nat.zero_le _,fun i row h => by simp at h⟩
theorem wqprimeT {p:Nat} {w:World} (hp2:p < 4294967296) (hp:MR.Pr p) :
  Calls Tryd.prog 20 #[.int .u32 ((p:Nat):Int)] w (Ret (Is (.bool true)) w):=by
 have hp1:=hp.1
 have hS:=Sep.init w
 refine went Tryd.func20 rfl (n:=19) rfl rfl ?_
 refine wsr (wavc ?_)
 refine wn1 (wSq (wsr (wmv (v:=.int .u32 (p:Int)) rfl rfl ?_)))
 refine wbc (u:=.int .u32 (p:Int)) (v:=.int .u32 2) rfl rfl (bLs (decide_eq_false (by omega))) ?_
 refine wn1 ?_
 refine wF (ev rfl rfl) ?_
 refine wSk (tNo (wSq (wsr (wavc ?_))))
 refine wn1 (wBk ?_)
 refine wLp (σ := Nat) (fun q a9 w' => ∃ (fb:Nat → Value),a9 = act 19 (sets fb [(0,.int .u32 (p:Int)),(3,.int .u64 (q:Int))]) ∧ Sep w [] w' ∧ (2 ≤ q ∧ q ≤ 65536)) (fun q => 65536 - q) (2) ⟨_,aSs ⟨rfl,rfl,trivial⟩,hS,by omega⟩ ?_
 clear hS; rintro q _ w1 ⟨fb,rfl,hS,hq⟩
 refine wSq (wsr (wmv (v:=.int .u64 (q:Int)) rfl rfl ?_))
 refine wmv (v:=.int .u64 (q:Int)) rfl rfl ?_
 refine wbt (u:=.int .u64 (q:Int)) (v:=.int .u64 (q:Int)) (z:=.int .u64 ((q * q:Nat):Int)) rfl rfl rfl rfl (bin_mul (mul_u64 (by omega) (by omega))) ?_
 refine wmv (v:=.int .u32 (p:Int)) rfl rfl ?_
 refine wl rfl (oCv (u:=.int .u32 (p:Int)) (v:=.int .u64 (p:Int)) rfl rfl (ev rfl rfl) (cvI Tryd.runUnderlying24 Tryd.runUnderlying44 (wU6 (by omega) (by omega))) ?_)
 by_cases hqq:q * q ≤ p
 ·
  refine wbt (u:=.int .u64 ((q * q:Nat):Int)) (v:=.int .u64 (p:Int)) rfl rfl rfl rfl (bin_leq (decide_eq_true (by omega))) ?_
  refine wn1 ?_
  refine wT (ev rfl rfl) ?_
  refine wk2 (wmv (v:=.int .u32 (p:Int)) rfl rfl ?_)
  have hql:q < 65536:=sq_lt65 (by omega)
  have hz:=pr_no hp hq.1 hqq
  refine wl rfl (oCv (u:=.int .u32 (p:Int)) (v:=.int .u64 (p:Int)) rfl rfl (ev rfl rfl) (cvI Tryd.runUnderlying24 Tryd.runUnderlying44 (wU6 (by omega) (by omega))) ?_)
  refine wmv (v:=.int .u64 (q:Int)) rfl rfl ?_
  refine wbt (u:=.int .u64 (p:Int)) (v:=.int .u64 (q:Int)) (z:=.int .u64 ((p % q:Nat):Int)) rfl rfl rfl rfl (bin_rem (by omega) rfl) ?_
  refine wbc (u:=.int .u64 ((p % q:Nat):Int)) (v:=.int .u64 0) (z:=.bool false) rfl rfl (bEq (eqF (by omega))) ?_
  refine wn1 ?_
  refine wF (ev rfl rfl) ?_
  refine wSk (blkN (tNo (wreg (wmv (v:=.int .u64 (q:Int)) rfl rfl ?_))))
  refine wbc (u:=.int .u64 (q:Int)) (v:=.int .u64 1) (z:=.int .u64 ((q + 1:Nat):Int)) rfl rfl (bAd (wU6 (by omega) (by omega))) ?_
  refine wav (v:=.int .u64 ((q + 1:Nat):Int)) rfl rfl ?_
  refine wn1 ?_
  exact ⟨(q + 1),⟨_,aSs ⟨rfl,rfl,trivial⟩,hS.pick [] (by decide) rfl,by omega⟩,by omega⟩
 refine wbt (u:=.int .u64 ((q * q:Nat):Int)) (v:=.int .u64 (p:Int)) rfl rfl rfl rfl (bin_leq (decide_eq_false (by omega))) ?_
 refine wn1 ?_
 refine wF (ev rfl rfl) ?_
 refine wEx ?_
 refine tEx ?_
 refine tEx ?_
 refine blkE ?_
 refine tNo (wsr (wavc ?_))
 refine wn1 ?_
 refine wLv ?_
 refine wr1 Tryd.results20 (tlT (v:=.bool true) rfl rfl) ?_
 exact ⟨_,_,rfl,isI,hS.new0⟩
theorem wqprimeF {p : Nat} {w : World} (hp2 : p < 4294967296) (hp : ¬ MR.Pr p) :
    Calls Tryd.prog 20 #[.int .u32 ((p:Nat):Int)] w (Ret (Is (.bool false)) w):=by
  have hS:=Sep.init w
  refine went Tryd.func20 rfl (n:=19) rfl rfl ?_
  refine wsr (wavc ?_)
  refine wn1 (wSq (wsr (wmv (v:=.int .u32 (p:Int)) rfl rfl ?_)))
  by_cases hlt:p < 2
  ·
    refine wbc (u:=.int .u32 (p:Int)) (v:=.int .u32 2) rfl rfl (bLs (decide_eq_true (by omega))) ?_
    refine wn1 ?_
    refine wT (ev rfl rfl) ?_
    refine wsr (wavc ?_)
    refine wn1 ?_
    refine wLv ?_
    refine thenR ?_
    refine wr1 Tryd.results20 (tlT (v:=.bool false) rfl rfl) ?_
    exact ⟨_,_,rfl,isI,hS.new0⟩
  refine wbc (u:=.int .u32 (p:Int)) (v:=.int .u32 2) rfl rfl (bLs (decide_eq_false (by omega))) ?_
  refine wn1 ?_
  refine wF (ev rfl rfl) ?_
  refine wSk (tNo (wSq (wsr (wavc ?_))))
  refine wn1 (wBk ?_)
  refine wLp (σ := Nat) (fun q a9 w' => ∃ (fb:Nat → Value),a9 = act 19 (sets fb [(0,.int .u32 (p:Int)),(3,.int .u64 (q:Int))]) ∧ Sep w [] w' ∧ (2 ≤ q ∧ q ≤ 65536) ∧ (∀ d,2 ≤ d → d < q → ¬ d ∣ p)) (fun q => 65536 - q) (2) ⟨_,aSs ⟨rfl,rfl,trivial⟩,hS,by omega,fun d h1 h2 => by omega⟩ ?_
  clear hS; rintro q _ w1 ⟨fb,rfl,hS,hq,hno⟩
  refine wSq (wsr (wmv (v:=.int .u64 (q:Int)) rfl rfl ?_))
  refine wmv (v:=.int .u64 (q:Int)) rfl rfl ?_
  refine wbt (u:=.int .u64 (q:Int)) (v:=.int .u64 (q:Int)) (z:=.int .u64 ((q * q:Nat):Int)) rfl rfl rfl rfl (bin_mul (mul_u64 (by omega) (by omega))) ?_
  refine wmv (v:=.int .u32 (p:Int)) rfl rfl ?_
  refine wl rfl (oCv (u:=.int .u32 (p:Int)) (v:=.int .u64 (p:Int)) rfl rfl (ev rfl rfl) (cvI Tryd.runUnderlying24 Tryd.runUnderlying44 (wU6 (by omega) (by omega))) ?_)
  by_cases hqq:q * q ≤ p
  ·
    refine wbt (u:=.int .u64 ((q * q:Nat):Int)) (v:=.int .u64 (p:Int)) rfl rfl rfl rfl (bin_leq (decide_eq_true (by omega))) ?_
    refine wn1 ?_
    refine wT (ev rfl rfl) ?_
    refine wk2 (wmv (v:=.int .u32 (p:Int)) rfl rfl ?_)
    have hql:q < 65536:=sq_lt65 (by omega)
    refine wl rfl (oCv (u:=.int .u32 (p:Int)) (v:=.int .u64 (p:Int)) rfl rfl (ev rfl rfl) (cvI Tryd.runUnderlying24 Tryd.runUnderlying44 (wU6 (by omega) (by omega))) ?_)
    refine wmv (v:=.int .u64 (q:Int)) rfl rfl ?_
    refine wbt (u:=.int .u64 (p:Int)) (v:=.int .u64 (q:Int)) (z:=.int .u64 ((p % q:Nat):Int)) rfl rfl rfl rfl (bin_rem (by omega) rfl) ?_
    by_cases hz:p % q = 0
    ·
      refine wbc (u:=.int .u64 ((p % q:Nat):Int)) (v:=.int .u64 0) (z:=.bool true) rfl rfl (bEq (eqT (by omega))) ?_
      refine wn1 ?_
      refine wT (ev rfl rfl) ?_
      refine wsr (wavc ?_)
      refine wn1 ?_
      refine wLv ?_
      refine blkR ?_
      refine thenR ?_
      refine thenR ?_
      refine blkR ?_
      refine thenR ?_
      refine wr1 Tryd.results20 (tlT (v:=.bool false) rfl rfl) ?_
      exact ⟨_,_,rfl,isI,hS.new0⟩
    refine wbc (u:=.int .u64 ((p % q:Nat):Int)) (v:=.int .u64 0) (z:=.bool false) rfl rfl (bEq (eqF (by omega))) ?_
    refine wn1 ?_
    refine wF (ev rfl rfl) ?_
    refine wSk (blkN (tNo (wreg (wmv (v:=.int .u64 (q:Int)) rfl rfl ?_))))
    refine wbc (u:=.int .u64 (q:Int)) (v:=.int .u64 1) (z:=.int .u64 ((q + 1:Nat):Int)) rfl rfl (bAd (wU6 (by omega) (by omega))) ?_
    refine wav (v:=.int .u64 ((q + 1:Nat):Int)) rfl rfl ?_
    refine wn1 ?_
    exact ⟨(q + 1), ⟨_, aSs (l := [(0, .int .u32 (p : Int)), (3, .int .u64 (((q + 1 : Nat) : Int)))]) ⟨rfl, rfl, trivial⟩, hS.pick [] (by decide) rfl, by omega, fun d h1 h2 hd => by
                  by_cases e:d = q
                  · rw [e] at hd; exact hz (Nat.mod_eq_zero_of_dvd hd)
                  exact hno d h1 (by omega) hd⟩,by omega⟩
  refine wbt (u:=.int .u64 ((q * q:Nat):Int)) (v:=.int .u64 (p:Int)) rfl rfl rfl rfl (bin_leq (decide_eq_false (by omega))) ?_
  refine wn1 ?_
  refine wF (ev rfl rfl) ?_
  refine wEx ?_
  refine tEx ?_
  refine tEx ?_
  refine blkE ?_
  refine tNo (wsr (wavc ?_))
  refine wn1 ?_
  refine wLv ?_
  exact absurd (pr_of_sq (by omega) fun d h1 h2 => hno d h1 (Nat.lt_of_not_le fun h => by have:=Nat.mul_le_mul h h; omega)) hp
theorem wqwords {pa pb:Option Addr} {na ca cb:Nat} {xs:List Nat} {w:World} (ha:Sl w pa na ca xs) (hb:Sl w pb na cb xs) (hn:na ≤ 1048576) :
  Calls Tryd.prog 14 #[.slice pa na ca,.slice pb na cb] w (Ret (Is (.bool true)) w):=by
 have hS:=Sep.init w
 refine went Tryd.func14 rfl (n:=26) rfl rfl ?_
 refine wsr (wavc ?_)
 refine wn1 (wSq (wsr (wmv (v:=.slice pa na ca) rfl rfl ?_)))
 refine wl rfl (olen rfl rfl rfl Tryd.runUnderlying29 (p:=pa) (k:=na) (m:=ca) (ev rfl rfl) ?_)
 refine wmv (v:=.slice pb na cb) rfl rfl ?_
 refine wl rfl (olen rfl rfl rfl Tryd.runUnderlying29 (p:=pb) (k:=na) (m:=cb) (ev rfl rfl) ?_)
 refine wbt (u:=.int .i64 (na:Int)) (v:=.int .i64 (na:Int)) (z:=.bool false) rfl rfl rfl rfl (bNe (neF rfl)) ?_
 refine wn1 ?_
 refine wF (ev rfl rfl) ?_
 refine wSk (tNo (wSq (wsr (wmv (v:=.slice pa na ca) rfl rfl ?_))))
 refine wl rfl (olen rfl rfl rfl Tryd.runUnderlying29 (p:=pa) (k:=na) (m:=ca) (ev rfl rfl) ?_)
 refine wmvc ?_
 refine wn1 (wBk ?_)
 refine wLp (σ := Nat) (fun k a9 w' => ∃ (fb:Nat → Value),a9 = act 26 (sets fb [(0,.slice pa na ca),(1,.slice pb na cb),(12,.int .i64 (na:Int)),(13,.int .i64 (k:Int))]) ∧ Sep w [] w' ∧ (k ≤ na)) (fun k => na - k) (0) ⟨_,aSs ⟨rfl,rfl,rfl,rfl,trivial⟩,hS,Nat.zero_le _⟩ ?_
 clear hS; rintro k _ w1 ⟨fb,rfl,hS,hk⟩
 refine wsr ?_
 by_cases hlk:k < na
 ·
  obtain ⟨bce,oce,hpce,hcce⟩:=ha.el (show k < na by omega)
  obtain ⟨bcf,ocf,hpcf,hccf⟩:=hb.el (show k < na by omega)
  refine wbt (u:=.int .i64 (k:Int)) (v:=.int .i64 (na:Int)) rfl rfl rfl rfl (bLs (decide_eq_true (by omega))) ?_
  refine wn1 (wSq ?_)
  refine wT (ev rfl rfl) ?_
  refine wk2 (wmv (v:=.int .i64 (k:Int)) rfl rfl ?_)
  refine wav (v:=.int .i64 (k:Int)) rfl rfl ?_
  refine wn1 (wSq ?_)
  refine wSg 9 [16,17,18,19,20,21,22,23,24] [[],[],[0,1],[2,0,1],[],[],[4,5],[6,4,5],[3,7,0,1,2,4,5,6]] [] [] [] (fun i9 => ([iSv (.slice pa na ca),iSv (.int .i64 (k:Int)),iSv (.pointer (some ⟨bce,(oce + k * 1),none⟩)),iSv (.int .u32 ((nd xs k:Nat):Int)),iSv (.slice pb na cb),iSv (.int .i64 (k:Int)),iSv (.pointer (some ⟨bcf,(ocf + k * 1),none⟩)),iSv (.int .u32 ((nd xs k:Nat):Int)),iSv (.bool false)]:List (List Value → Tell)).getD i9 (fun _ _ _ => False)) hNi (fun d _ _ _ _ h => (by cases d <;> exact h)) (by kernel_rfl) (by kernel_rfl) (by kernel_rfl) hS ?_ ?_
  ·
   refine stM rfl rfl rfl rfl rfl (fun _=>isI) ?_
   refine stM rfl rfl rfl rfl rfl (fun _=>isI) ?_
   refine stT rfl (fun hT hS=>?_) ?_
   ·obtain ⟨hv0,hr0⟩:=hT 0 16 rfl rfl
    obtain ⟨hv1,hr1⟩:=hT 1 17 rfl rfl
    obtain hS:=hS.flat2 hr0 hr1
    exact inNo rfl (oIx (p:=pa) (g:=bce) (off:=oce) (m:=na) (k:=k) (j:=(oce + k * 1)) rfl rfl Tryd.runUnderlying29 Tryd.sizeOf24 (ev rfl hv0) hpce (ev rfl hv1) (by omega) rfl (nSm rfl isI))
   refine stT rfl (fun hT hS=>?_) ?_
   ·obtain ⟨hv2,hr2⟩:=hT 2 18 rfl rfl
    obtain hS:=hS.flat1 hr2
    exact inNo rfl (oLc (v:=.int .u32 ((nd xs k:Nat):Int)) one32 rfl rfl (ev (v:=.pointer (some ⟨bce,(oce + k * 1),none⟩)) rfl hv2) (hS.cellAt (hcce 0 _ rfl)) (nSm rfl isI))
   refine stM rfl rfl rfl rfl rfl (fun _=>isI) ?_
   refine stM rfl rfl rfl rfl rfl (fun _=>isI) ?_
   refine stT rfl (fun hT hS=>?_) ?_
   ·obtain ⟨hv4,hr4⟩:=hT 4 20 rfl rfl
    obtain ⟨hv5,hr5⟩:=hT 5 21 rfl rfl
    obtain hS:=hS.flat2 hr4 hr5
    exact inNo rfl (oIx (p:=pb) (g:=bcf) (off:=ocf) (m:=na) (k:=k) (j:=(ocf + k * 1)) rfl rfl Tryd.runUnderlying29 Tryd.sizeOf24 (ev rfl hv4) hpcf (ev rfl hv5) (by omega) rfl (nSm rfl isI))
   refine stT rfl (fun hT hS=>?_) ?_
   ·obtain ⟨hv6,hr6⟩:=hT 6 22 rfl rfl
    obtain hS:=hS.flat1 hr6
    exact inNo rfl (oLc (v:=.int .u32 ((nd xs k:Nat):Int)) one32 rfl rfl (ev (v:=.pointer (some ⟨bcf,(ocf + k * 1),none⟩)) rfl hv6) (hS.cellAt (hccf 0 _ rfl)) (nSm rfl isI))
   refine stT rfl (fun hT hS=>?_) ?_
   ·obtain ⟨hv3,hr3⟩:=hT 3 19 rfl rfl
    obtain ⟨hv7,hr7⟩:=hT 7 23 rfl rfl
    obtain hS:=hS.flat2 hr3 hr7
    exact inNo rfl (obin (u:=.int .u32 ((nd xs k:Nat):Int)) (v:=.int .u32 ((nd xs k:Nat):Int)) (z:=.bool false) rfl rfl (ev rfl hv3) (ev rfl hv7) (bNe (neF rfl)) (nSm rfl isI))
   exact sNi
  intro vs ρ w2 f' hf hT hS
  obtain ⟨hv0,hr0⟩:=hT 0 (by decide)
  obtain ⟨hv1,hr1⟩:=hT 1 (by decide)
  obtain ⟨hv2,hr2⟩:=hT 2 (by decide)
  obtain ⟨hv3,hr3⟩:=hT 3 (by decide)
  obtain ⟨hv4,hr4⟩:=hT 4 (by decide)
  obtain ⟨hv5,hr5⟩:=hT 5 (by decide)
  obtain ⟨hv6,hr6⟩:=hT 6 (by decide)
  obtain ⟨hv7,hr7⟩:=hT 7 (by decide)
  obtain ⟨hv8,hr8⟩:=hT 8 (by decide)
  simp only [pool,if_true,hr0,hr1,hr2,hr3,hr4,hr5,hr6,hr7,hr8,List.nil_append,List.cons_append,List.append_nil] at hS
  simp only [layf,hv0,hv1,hv2,hv3,hv4,hv5,hv6,hv7,hv8] at hf
  subst hf; clear hT hv0 hv1 hv2 hv3 hv4 hv5 hv6 hv7 hv8 hr0 hr1 hr2 hr3 hr4 hr5 hr6 hr7 hr8
  refine wdone rfl ?_
  refine tNo ?_
  refine wF (ev rfl rfl) ?_
  refine wSk (blkN (tNo (wreg (wbc (u:=.int .i64 (k:Int)) (v:=.int .i64 1) (z:=.int .i64 ((k + 1:Nat):Int)) rfl rfl (bAd (wI6 (by omega) (by omega))) ?_))))
  refine wmv (v:=.int .i64 ((k + 1:Nat):Int)) rfl rfl ?_
  refine wn1 ?_
  exact ⟨(k + 1),⟨_,aSs ⟨rfl,rfl,rfl,rfl,trivial⟩,hS.pick [] (by decide) rfl,by omega⟩,by omega⟩
 refine wbt (u:=.int .i64 (k:Int)) (v:=.int .i64 (na:Int)) rfl rfl rfl rfl (bLs (decide_eq_false (by omega))) ?_
 refine wn1 (wSq ?_)
 refine wF (ev rfl rfl) ?_
 refine wEx ?_
 refine tEx ?_
 refine tEx ?_
 refine blkE ?_
 refine tNo (wsr (wavc ?_))
 refine wn1 ?_
 refine wLv ?_
 refine wr1 Tryd.results14 (tlT (v:=.bool true) rfl rfl) ?_
 exact ⟨_,_,rfl,isI,hS.new0⟩
theorem wqsame {pa pb:Option Addr} {na ca cb:Nat} {M:List (List Nat)} {w:World} (hA:MS w pa na M) (hB:MS w pb na M) (hs:na ≤ 2097152 ∧ ∀ r ∈ M,r.length ≤ 1048576) :
  Calls Tryd.prog 11 #[.slice pa na ca,.slice pb na cb] w (Ret (Is (.bool true)) w):=by
 have hml:=hA.1
 have hS:=Sep.init w
 refine went Tryd.func11 rfl (n:=27) rfl rfl ?_
 refine wsr (wavc ?_)
 refine wn1 (wSq (wsr (wmv (v:=.slice pa na ca) rfl rfl ?_)))
 refine wl rfl (olen rfl rfl rfl Tryd.runUnderlying23 (p:=pa) (k:=na) (m:=ca) (ev rfl rfl) ?_)
 refine wmv (v:=.slice pb na cb) rfl rfl ?_
 refine wl rfl (olen rfl rfl rfl Tryd.runUnderlying23 (p:=pb) (k:=na) (m:=cb) (ev rfl rfl) ?_)
 refine wbt (u:=.int .i64 (na:Int)) (v:=.int .i64 (na:Int)) (z:=.bool false) rfl rfl rfl rfl (bNe (neF rfl)) ?_
 refine wn1 ?_
 refine wF (ev rfl rfl) ?_
 refine wSk (tNo (wSq (wsr (wmv (v:=.slice pa na ca) rfl rfl ?_))))
 refine wl rfl (olen rfl rfl rfl Tryd.runUnderlying23 (p:=pa) (k:=na) (m:=ca) (ev rfl rfl) ?_)
 refine wmvc ?_
 refine wn1 (wBk ?_)
 refine wLp (σ := Nat) (fun i a9 w' => ∃ (fb:Nat → Value),a9 = act 27 (sets fb [(0,.slice pa na ca),(1,.slice pb na cb),(12,.int .i64 (na:Int)),(13,.int .i64 (i:Int))]) ∧ Sep w [] w' ∧ (i ≤ na)) (fun i => na - i) (0) ⟨_,aSs ⟨rfl,rfl,rfl,rfl,trivial⟩,hS,Nat.zero_le _⟩ ?_
 clear hS; rintro i _ w1 ⟨fb,rfl,hS,hi⟩
 refine wsr ?_
 by_cases hli:i < na
 ·
  obtain ⟨xr,hxr⟩:∃ r,(M)[i]? = some r:=⟨_,List.getElem?_eq_getElem (by have:=hA.1; omega)⟩
  obtain ⟨br,ofr,pr,cr,hpr,hcr,hsr⟩:=hA.2.2 i _ hxr
  obtain ⟨xt,hxt⟩:∃ r,(M)[i]? = some r:=⟨_,List.getElem?_eq_getElem (by have:=hB.1; omega)⟩
  obtain ⟨bt,oft,pt,ct,hpt,hct,hst⟩:=hB.2.2 i _ hxt
  obtain rfl:xr = xt:=Option.some.inj (hxr.symm.trans hxt)
  have hb9:=hs.2 xr (List.mem_of_getElem? hxr)
  refine wbt (u:=.int .i64 (i:Int)) (v:=.int .i64 (na:Int)) rfl rfl rfl rfl (bLs (decide_eq_true (by omega))) ?_
  refine wn1 (wSq ?_)
  refine wT (ev rfl rfl) ?_
  refine wk2 (wmv (v:=.int .i64 (i:Int)) rfl rfl ?_)
  refine wav (v:=.int .i64 (i:Int)) rfl rfl ?_
  refine wn1 (wSq ?_)
  refine wSg 10 [16,17,18,19,20,21,22,23,24,25] [[],[],[0,1],[2,0,1],[],[],[4,5],[6,4,5],[3,7,0,1,2,4,5,6],[8,0,1,2,3,4,5,6,7]] [] [] [] (fun i9 => ([iSv (.slice pa na ca),iSv (.int .i64 (i:Int)),iSv (.pointer (some ⟨br,(ofr + i * 1),none⟩)),iSv (.slice pr xr.length cr),iSv (.slice pb na cb),iSv (.int .i64 (i:Int)),iSv (.pointer (some ⟨bt,(oft + i * 1),none⟩)),iSv (.slice pt xr.length ct),iSv (.bool true),iSv (.bool false)]:List (List Value → Tell)).getD i9 (fun _ _ _ => False)) hNi (fun d _ _ _ _ h => (by cases d <;> exact h)) (by kernel_rfl) (by kernel_rfl) (by kernel_rfl) hS ?_ ?_
  ·
   refine stM rfl rfl rfl rfl rfl (fun _=>isI) ?_
   refine stM rfl rfl rfl rfl rfl (fun _=>isI) ?_
   refine stT rfl (fun hT hS=>?_) ?_
   ·obtain ⟨hv0,hr0⟩:=hT 0 16 rfl rfl
    obtain ⟨hv1,hr1⟩:=hT 1 17 rfl rfl
    obtain hS:=hS.flat2 hr0 hr1
    exact inNo rfl (oIx (p:=pa) (g:=br) (off:=ofr) (m:=na) (k:=i) (j:=(ofr + i * 1)) rfl rfl Tryd.runUnderlying23 Tryd.sizeOf29 (ev rfl hv0) hpr (ev rfl hv1) (by omega) rfl (nSm rfl isI))
   refine stT rfl (fun hT hS=>?_) ?_
   ·obtain ⟨hv2,hr2⟩:=hT 2 18 rfl rfl
    obtain hS:=hS.flat1 hr2
    exact inNo rfl (oLc (v:=.slice pr xr.length cr) ⟨Tryd.isAgg29,Tryd.sizeOf29⟩ rfl rfl (ev (v:=.pointer (some ⟨br,(ofr + i * 1),none⟩)) rfl hv2) (hS.cellAt (hcr 0 _ rfl)) (nSm rfl isI))
   refine stM rfl rfl rfl rfl rfl (fun _=>isI) ?_
   refine stM rfl rfl rfl rfl rfl (fun _=>isI) ?_
   refine stT rfl (fun hT hS=>?_) ?_
   ·obtain ⟨hv4,hr4⟩:=hT 4 20 rfl rfl
    obtain ⟨hv5,hr5⟩:=hT 5 21 rfl rfl
    obtain hS:=hS.flat2 hr4 hr5
    exact inNo rfl (oIx (p:=pb) (g:=bt) (off:=oft) (m:=na) (k:=i) (j:=(oft + i * 1)) rfl rfl Tryd.runUnderlying23 Tryd.sizeOf29 (ev rfl hv4) hpt (ev rfl hv5) (by omega) rfl (nSm rfl isI))
   refine stT rfl (fun hT hS=>?_) ?_
   ·obtain ⟨hv6,hr6⟩:=hT 6 22 rfl rfl
    obtain hS:=hS.flat1 hr6
    exact inNo rfl (oLc (v:=.slice pt xr.length ct) ⟨Tryd.isAgg29,Tryd.sizeOf29⟩ rfl rfl (ev (v:=.pointer (some ⟨bt,(oft + i * 1),none⟩)) rfl hv6) (hS.cellAt (hct 0 _ rfl)) (nSm rfl isI))
   refine stT rfl (fun hT hS=>?_) ?_
   ·obtain ⟨hv3,hr3⟩:=hT 3 19 rfl rfl
    obtain ⟨hv7,hr7⟩:=hT 7 23 rfl rfl
    obtain hS:=hS.flat2 hr3 hr7
    exact .inl ⟨wNo rfl,oCl rfl rfl Tryd.call14 rfl (wqwords (hsr.below hS.below (Nat.le_refl _)) (hst.below hS.below (Nat.le_refl _)) (by omega)) (ar2 (ev rfl hv3) (ev rfl hv7)) cNw⟩
   refine stT rfl (fun hT hS=>?_) ?_
   ·obtain ⟨hv8,hr8⟩:=hT 8 24 rfl rfl
    obtain hS:=hS.flat1 hr8
    exact inNo rfl (onot (b:=true) rfl rfl (ev rfl hv8) (nSm rfl isI))
   exact sNi
  intro vs ρ w2 f' hf hT hS
  obtain ⟨hv0,hr0⟩:=hT 0 (by decide)
  obtain ⟨hv1,hr1⟩:=hT 1 (by decide)
  obtain ⟨hv2,hr2⟩:=hT 2 (by decide)
  obtain ⟨hv3,hr3⟩:=hT 3 (by decide)
  obtain ⟨hv4,hr4⟩:=hT 4 (by decide)
  obtain ⟨hv5,hr5⟩:=hT 5 (by decide)
  obtain ⟨hv6,hr6⟩:=hT 6 (by decide)
  obtain ⟨hv7,hr7⟩:=hT 7 (by decide)
  obtain ⟨hv8,hr8⟩:=hT 8 (by decide)
  obtain ⟨hv9,hr9⟩:=hT 9 (by decide)
  simp only [pool,if_true,hr0,hr1,hr2,hr3,hr4,hr5,hr6,hr7,hr8,hr9,List.nil_append,List.cons_append,List.append_nil] at hS
  simp only [layf,hv0,hv1,hv2,hv3,hv4,hv5,hv6,hv7,hv8,hv9] at hf
  subst hf; clear hT hv0 hv1 hv2 hv3 hv4 hv5 hv6 hv7 hv8 hv9 hr0 hr1 hr2 hr3 hr4 hr5 hr6 hr7 hr8 hr9
  refine wdone rfl ?_
  refine tNo ?_
  refine wF (ev rfl rfl) ?_
  refine wSk (blkN (tNo (wreg (wbc (u:=.int .i64 (i:Int)) (v:=.int .i64 1) (z:=.int .i64 ((i + 1:Nat):Int)) rfl rfl (bAd (wI6 (by omega) (by omega))) ?_))))
  refine wmv (v:=.int .i64 ((i + 1:Nat):Int)) rfl rfl ?_
  refine wn1 ?_
  exact ⟨(i + 1),⟨_,aSs ⟨rfl,rfl,rfl,rfl,trivial⟩,hS.pick [] (by decide) rfl,by omega⟩,by omega⟩
 refine wbt (u:=.int .i64 (i:Int)) (v:=.int .i64 (na:Int)) rfl rfl rfl rfl (bLs (decide_eq_false (by omega))) ?_
 refine wn1 (wSq ?_)
 refine wF (ev rfl rfl) ?_
 refine wEx ?_
 refine tEx ?_
 refine tEx ?_
 refine blkE ?_
 refine tNo (wsr (wavc ?_))
 refine wn1 ?_
 refine wLv ?_
 refine wr1 Tryd.results11 (tlT (v:=.bool true) rfl rfl) ?_
 exact ⟨_,_,rfl,isI,hS.new0⟩
theorem wdnorm {pm:Option Addr} {nm cm p:Nat} {M:List (List Nat)} {w:World} (hm:MS w pm nm M) (hp0:0 < p) (hp2:p < 4294967296) (hb1:nm ≤ 2097152) (hb2:∀ r ∈ M,r.length ≤ 1048576) :
  Calls Tryd.prog 17 #[.slice pm nm cm,.int .u32 ((p:Nat):Int)] w (Ret (MMh nm (modM p M)) w):=by
 have hml:=hm.1
 have hS:=Sep.init w
 refine went Tryd.func17 rfl (n:=40) rfl rfl ?_
 refine wsr (wavc ?_)
 refine wn2 (wavc ?_)
 refine wn1 (wSq (wsr (wmv (v:=.slice pm nm cm) rfl rfl ?_)))
 refine wl rfl (olen rfl rfl rfl Tryd.runUnderlying23 (p:=pm) (k:=nm) (m:=cm) (ev rfl rfl) ?_)
 refine wmvc ?_
 refine wn1 (wBk ?_)
 replace hS:=hS.nilLst 29 1
 refine wLp (σ := Nat) (fun i a9 w' => ∃ (fb:Nat → Value) (Q:List Rw) (pX:Option Addr) (cX:Nat),a9 = act 40 (sets fb [(1,.int .u32 (p:Int)),(4,.slice none 0 0),(5,.slice pX i cX),(11,.slice pm nm cm),(12,.int .i64 (nm:Int)),(13,.int .i64 (i:Int))]) ∧ Sep w [.lst 29 1 pX i cX (mmE Q)] w' ∧ (i ≤ nm) ∧ (nums Q = modM p (M.take i))) (fun i => nm - i) (0) ⟨_,[],none,0,aSs ⟨rfl,rfl,rfl,rfl,rfl,rfl,trivial⟩,hS,Nat.zero_le _,rfl⟩ ?_
 clear hS; rintro i _ w1 ⟨fb,Q,pX,cX,rfl,hS,hi,hQ⟩
 refine wsr ?_
 by_cases hli:i < nm
 ·
  obtain ⟨xr,hxr⟩:∃ r,(M)[i]? = some r:=⟨_,List.getElem?_eq_getElem (by have:=hm.1; omega)⟩
  obtain ⟨br,ofr,pr,cr,hpr,hcr,hsr⟩:=hm.2.2 i _ hxr
  have hrb:=hb2 xr (List.mem_of_getElem? hxr)
  refine wbt (u:=.int .i64 (i:Int)) (v:=.int .i64 (nm:Int)) rfl rfl rfl rfl (bLs (decide_eq_true (by omega))) ?_
  refine wn1 (wSq ?_)
  refine wT (ev rfl rfl) ?_
  refine wk2 (wl rfl (oIx (p:=pm) (g:=br) (off:=ofr) (m:=nm) (k:=i) (j:=(ofr + i * 1)) rfl rfl Tryd.runUnderlying23 Tryd.sizeOf29 (ev rfl rfl) hpr (ev rfl rfl) (by omega) rfl ?_))
  refine wl rfl (oLc (v:=.slice pr xr.length cr) ⟨Tryd.isAgg29,Tryd.sizeOf29⟩ rfl rfl (ev (v:=.pointer (some ⟨br,(ofr + i * 1),none⟩)) rfl rfl) (hS.cellAt (hcr 0 _ rfl)) ?_)
  refine wav (v:=.slice pr xr.length cr) rfl rfl ?_
  refine wn2 (wmv (v:=.slice pr xr.length cr) rfl rfl ?_)
  refine wl rfl (olen rfl rfl rfl Tryd.runUnderlying29 (p:=pr) (k:=xr.length) (m:=cr) (ev rfl rfl) ?_)
  refine wl rfl (omakeL (zs:=[.int .u32 0]) (k:=xr.length) (m:=xr.length) hS rfl rfl Tryd.underlying29 infouint32 rfl rfl (by decide) rfl (ev (v:=.int .i64 (xr.length:Int)) rfl rfl) (ev (v:=.int .i64 (xr.length:Int)) rfl rfl) (by omega) (by omega) (by omega) ?_)
  clear hS; intro g2 w3 hS
  refine wav (v:=.slice (some ⟨g2,0,none⟩) xr.length xr.length) rfl rfl ?_
  refine wn1 (wSq (wsr (wmv (v:=.slice pr xr.length cr) rfl rfl ?_)))
  refine wl rfl (olen rfl rfl rfl Tryd.runUnderlying29 (p:=pr) (k:=xr.length) (m:=cr) (ev rfl rfl) ?_)
  refine wmvc ?_
  refine wn1 (wBk ?_)
  obtain hS:=(show Sep w [.lst 24 1 (some ⟨g2,0,none⟩) xr.length xr.length (u32E (List.replicate xr.length 0)),.lst 29 1 pX i cX (mmE Q)] w3 from by rw [u32E_rep]; exact hS).lstRow (lims_zeros _)
  rw [← mixR_zero (xr.map (· % p)) (List.replicate xr.length 0)] at hS
  refine wLp (σ := Nat) (fun k a9 w' => ∃ (fb:Nat → Value),a9 = act 40 (sets fb [(1,.int .u32 (p:Int)),(4,.slice none 0 0),(5,.slice pX i cX),(8,.slice (some ⟨g2,0,none⟩) xr.length xr.length),(11,.slice pm nm cm),(12,.int .i64 (nm:Int)),(13,.int .i64 (i:Int)),(20,.slice pr xr.length cr),(21,.int .i64 (xr.length:Int)),(22,.int .i64 (k:Int))]) ∧ Sep w [.rowm (some ⟨g2,0,none⟩) xr.length xr.length (mixR (xr.map (· % p)) (List.replicate xr.length 0) k),.lst 29 1 pX i cX (mmE Q)] w' ∧ (k ≤ xr.length)) (fun k => xr.length - k) (0) ⟨_,aSs ⟨rfl,rfl,rfl,rfl,rfl,rfl,rfl,rfl,rfl,rfl,trivial⟩,hS,Nat.zero_le _⟩ ?_
  clear hS; rintro k _ w4 ⟨fb,rfl,hS,hk⟩
  refine wsr ?_
  by_cases hlk:k < xr.length
  ·
   obtain ⟨bce,oce,hpce,hcce⟩:=hsr.el (show k < xr.length by omega)
   have hl9:=hsr.lim1 k
   have hm9:=Nat.mod_lt (nd xr k) hp0
   refine wbt (u:=.int .i64 (k:Int)) (v:=.int .i64 (xr.length:Int)) rfl rfl rfl rfl (bLs (decide_eq_true (by omega))) ?_
   refine wn1 (wSq ?_)
   refine wT (ev rfl rfl) ?_
   refine wk2 (wmv (v:=.int .i64 (k:Int)) rfl rfl ?_)
   refine wl rfl (oIx (p:=pr) (g:=bce) (off:=oce) (m:=xr.length) (k:=k) (j:=(oce + k * 1)) rfl rfl Tryd.runUnderlying29 Tryd.sizeOf24 (ev rfl rfl) hpce (ev rfl rfl) (by omega) rfl ?_)
   refine wl rfl (oLc (v:=.int .u32 ((nd xr k:Nat):Int)) one32 rfl rfl (ev (v:=.pointer (some ⟨bce,(oce + k * 1),none⟩)) rfl rfl) (hS.cellAt (hcce 0 _ rfl)) ?_)
   refine wav (v:=.int .i64 (k:Int)) rfl rfl ?_
   refine wav (v:=.int .u32 ((nd xr k:Nat):Int)) rfl rfl ?_
   refine wn1 (wreg (wmv (v:=.slice (some ⟨g2,0,none⟩) xr.length xr.length) rfl rfl ?_))
   refine wmv (v:=.int .i64 (k:Int)) rfl rfl ?_
   refine wmv (v:=.int .u32 ((nd xr k:Nat):Int)) rfl rfl ?_
   refine wmv (v:=.int .u32 (p:Int)) rfl rfl ?_
   refine wbt (u:=.int .u32 ((nd xr k:Nat):Int)) (v:=.int .u32 (p:Int)) (z:=.int .u32 ((nd xr k % p:Nat):Int)) rfl rfl rfl rfl (bin_rem (by omega) rfl) ?_
   refine wl rfl (oIx (p:=(some ⟨g2,0,none⟩)) (g:=g2) (off:=0) (m:=xr.length) (k:=k) (j:=k) rfl rfl Tryd.runUnderlying29 Tryd.sizeOf24 (ev rfl rfl) (rfl) (ev rfl rfl) (by omega) (by simp) ?_)
   refine wl rfl (ostoreRow (i:=k) (u:=(nd xr k % p)) Tryd.sizeOf24 hS 0 rfl rfl (ev (v:=.pointer (some ⟨g2,k,none⟩)) rfl rfl) ((ev (v:=.int .u32 ((nd xr k % p:Nat):Int)) rfl rfl)) rfl (rfl) ((by omega)) (by omega) ?_)
   clear hS; intro w5 hS
   refine wnil (blkN (tNo (wreg (wbc (u:=.int .i64 (k:Int)) (v:=.int .i64 1) (z:=.int .i64 ((k + 1:Nat):Int)) rfl rfl (bAd (wI6 (by omega) (by omega))) ?_))))
   refine wmv (v:=.int .i64 ((k + 1:Nat):Int)) rfl rfl ?_
   refine wn1 ?_
   rw [mixR_set (new:=xr.map (· % p)) (old:=(List.replicate xr.length 0)) (by rw [List.length_map,List.length_replicate]) (by rw [List.length_replicate]; omega) (nd_mod k).symm] at hS
   exact ⟨(k + 1),⟨_,aSs ⟨rfl,rfl,rfl,rfl,rfl,rfl,rfl,rfl,rfl,rfl,trivial⟩,hS.pick [0,1] (by decide) rfl,by omega⟩,by omega⟩
  refine wbt (u:=.int .i64 (k:Int)) (v:=.int .i64 (xr.length:Int)) rfl rfl rfl rfl (bLs (decide_eq_false (by omega))) ?_
  refine wn1 (wSq ?_)
  refine wF (ev rfl rfl) ?_
  refine wEx ?_
  refine tEx ?_
  refine tEx ?_
  refine blkE ?_
  refine tNo (wreg (wmv (v:=.slice pX i cX) rfl rfl ?_))
  refine wmv (v:=.slice (some ⟨g2,0,none⟩) xr.length xr.length) rfl rfl ?_
  refine wl rfl (obslice (ps:=#[(0,.slice (some ⟨g2,0,none⟩) xr.length xr.length)]) (z:=.slice none 0 0) [.slice (some ⟨g2,0,none⟩) xr.length xr.length] hS rfl rfl Tryd.runUnderlying23 Tryd.sizeOf29 Tryd.zeroValue29 (parts1 (ev (v:=.slice (some ⟨g2,0,none⟩) xr.length xr.length) rfl rfl)) rfl (by decide) (fill1_1s rfl rfl) ?_)
  clear hS; intro g5 w6 hS
  rw [mixR_full (new:=xr.map (· % p)) (old:=(List.replicate xr.length 0)) (by rw [List.length_map,List.length_replicate]) (by rw [List.length_replicate]; omega)] at hS
  obtain hS:=(show Sep w [.rowm (some ⟨g2,0,none⟩) xr.length xr.length (xr.map (· % p)),.lst 29 1 pX i cX (mmE Q),.blk g5 [.slice (some ⟨g2,0,none⟩) xr.length xr.length] 29] w6 from hS.pick [1,2,0] (by decide) rfl)
  refine wl rfl (oappendL (p:=pX) (m:=i) (c:=cX) (g2:=g5) (c2:=1) (off:=0) [.slice (some ⟨g2,0,none⟩) xr.length xr.length] [.rowm (some ⟨g2,0,none⟩) xr.length xr.length (xr.map (· % p))] hS rfl rfl Tryd.underlying23 infoRow rfl (by decide) (ev (v:=.slice pX i cX) rfl rfl) (ev (v:=.slice (some ⟨g5,0,none⟩) 1 1) rfl rfl) (fun j v hj => by rw [Nat.zero_add]; exact (blk_cell (hS.blkAt 2 rfl) j).trans hj) rfl rfl rfl (by omega) (by omega) ?_)
  clear hS; intro p8 c9 w7 hS
  refine wav (v:=.slice p8 ((i + 1)) c9) rfl rfl ?_
  refine wnil (blkN (tNo (wreg (wbc (u:=.int .i64 (i:Int)) (v:=.int .i64 1) (z:=.int .i64 ((i + 1:Nat):Int)) rfl rfl (bAd (wI6 (by omega) (by omega))) ?_))))
  refine wmv (v:=.int .i64 ((i + 1:Nat):Int)) rfl rfl ?_
  refine wn1 ?_
  rw [mmE_snoc (xs:=xr.map (· % p)) (n:=xr.length) (List.length_map _)] at hS
  exact ⟨(i + 1),⟨_,_,_,_,aSs ⟨rfl,rfl,rfl,rfl,rfl,rfl,trivial⟩,hS.pick [0] (by decide) rfl,by omega,by rw [nums_app,hQ,modM_take hxr]⟩,by omega⟩
 refine wbt (u:=.int .i64 (i:Int)) (v:=.int .i64 (nm:Int)) rfl rfl rfl rfl (bLs (decide_eq_false (by omega))) ?_
 refine wn1 (wSq ?_)
 refine wF (ev rfl rfl) ?_
 refine wEx ?_
 refine tEx ?_
 refine tEx ?_
 refine blkE ?_
 refine tNo (wsr (wmv (v:=.slice pX i cX) rfl rfl ?_))
 refine wav (v:=.slice pX i cX) rfl rfl ?_
 refine wn1 ?_
 refine wLv ?_
 have hin:i = nm:=by omega
 refine wr1 Tryd.results17 (tlT (v:=.slice pX i cX) rfl rfl) ?_
 exact ⟨_,_,rfl,⟨pX,cX,Q,by rw [hQ,hin,List.take_of_length_le (by omega)],by rw [hin],by rw [hin]⟩,hS.newR 0 rfl rfl⟩
theorem wqfits {pm:Option Addr} {nm cm p:Nat} {M:List (List Nat)} {w:World} (hm:MS w pm nm M) (hp2:p < 4294967296) (hb1:nm ≤ 2097152) {e:Nat} (hc:HFa p M e) :
  Calls Tryd.prog 10 #[.slice pm nm cm,.int .u32 ((p:Nat):Int)] w (Ret (Is (.int .i64 ((e:Nat):Int))) w):=by
 have hml:=hm.1
 have hS:=Sep.init w
 refine went Tryd.func10 rfl (n:=39) rfl rfl ?_
 refine wsr (wavc ?_)
 refine wn1 (wSq (wsr (wmv (v:=.int .u32 (p:Int)) rfl rfl ?_)))
 by_cases hp:MR.Pr p
 ·
  refine wcl Tryd.call20 (wqprimeT hp2 hp) (ar1 (ev rfl rfl)) hS ?_
  clear hS; rintro _ _ w1 ⟨rfl,rfl⟩ hS
  refine wl rfl (onot (b:=true) rfl rfl (ev rfl rfl) ?_)
  refine wn1 ?_
  refine wF (ev rfl rfl) ?_
  refine wSk (tNo (wSq (wsr (wmv (v:=.slice pm nm cm) rfl rfl ?_))))
  refine wl rfl (olen rfl rfl rfl Tryd.runUnderlying23 (p:=pm) (k:=nm) (m:=cm) (ev rfl rfl) ?_)
  refine wmvc ?_
  refine wn1 (wBk ?_)
  refine wLp (σ := Nat) (fun i a9 w' => ∃ (fb:Nat → Value),a9 = act 39 (sets fb [(0,.slice pm nm cm),(10,.slice pm nm cm),(11,.int .i64 (nm:Int)),(12,.int .i64 (i:Int))]) ∧ Sep w [] w' ∧ (i ≤ nm) ∧ (∀ r ∈ M.take i,r.length = colsM M)) (fun i => nm - i) (0) ⟨_,aSs ⟨rfl,rfl,rfl,rfl,trivial⟩,hS,Nat.zero_le _,by simp⟩ ?_
  clear hS; rintro i _ w2 ⟨fb,rfl,hS,hi,hrc⟩
  refine wsr ?_
  by_cases hli:i < nm
  ·
   obtain ⟨xr,hxr⟩:∃ r,(M)[i]? = some r:=⟨_,List.getElem?_eq_getElem (by have:=hm.1; omega)⟩
   obtain ⟨br,ofr,pr,cr,hpr,hcr,hsr⟩:=hm.2.2 i _ hxr
   obtain ⟨xz,hxz⟩:∃ r,(M)[0]? = some r:=⟨_,List.getElem?_eq_getElem (by have:=hm.1; omega)⟩
   obtain ⟨bz,ofz,pz,cz,hpz,hcz,hsz⟩:=hm.2.2 0 _ hxz
   have hcol:=colsM_zero hxz
   refine wbt (u:=.int .i64 (i:Int)) (v:=.int .i64 (nm:Int)) rfl rfl rfl rfl (bLs (decide_eq_true (by omega))) ?_
   refine wn1 (wSq ?_)
   refine wT (ev rfl rfl) ?_
   refine wk2 (wl rfl (oIx (p:=pm) (g:=br) (off:=ofr) (m:=nm) (k:=i) (j:=(ofr + i * 1)) rfl rfl Tryd.runUnderlying23 Tryd.sizeOf29 (ev rfl rfl) hpr (ev rfl rfl) (by omega) rfl ?_))
   refine wl rfl (oLc (v:=.slice pr xr.length cr) ⟨Tryd.isAgg29,Tryd.sizeOf29⟩ rfl rfl (ev (v:=.pointer (some ⟨br,(ofr + i * 1),none⟩)) rfl rfl) (hS.cellAt (hcr 0 _ rfl)) ?_)
   refine wav (v:=.slice pr xr.length cr) rfl rfl ?_
   refine wn2 (wmv (v:=.slice pr xr.length cr) rfl rfl ?_)
   refine wl rfl (olen rfl rfl rfl Tryd.runUnderlying29 (p:=pr) (k:=xr.length) (m:=cr) (ev rfl rfl) ?_)
   refine wmv (v:=.slice pm nm cm) rfl rfl ?_
   refine wl rfl (oIx (p:=pm) (g:=bz) (off:=ofz) (m:=nm) (k:=0) (j:=(ofz + 0 * 1)) rfl rfl Tryd.runUnderlying23 Tryd.sizeOf29 (ev rfl rfl) hpz evc (by omega) rfl ?_)
   refine wl rfl (oLc (v:=.slice pz xz.length cz) ⟨Tryd.isAgg29,Tryd.sizeOf29⟩ rfl rfl (ev (v:=.pointer (some ⟨bz,(ofz + 0 * 1),none⟩)) rfl rfl) (hS.cellAt (hcz 0 _ rfl)) ?_)
   refine wl rfl (olen rfl rfl rfl Tryd.runUnderlying29 (p:=pz) (k:=xz.length) (m:=cz) (ev rfl rfl) ?_)
   by_cases hrl:xr.length = colsM M
   ·
    refine wbt (u:=.int .i64 (xr.length:Int)) (v:=.int .i64 (xz.length:Int)) (z:=.bool false) rfl rfl rfl rfl (bNe (neF (by rw [← hcol]; omega))) ?_
    refine wn1 ?_
    refine wF (ev rfl rfl) ?_
    refine wSk (blkN (tNo (wreg (wbc (u:=.int .i64 (i:Int)) (v:=.int .i64 1) (z:=.int .i64 ((i + 1:Nat):Int)) rfl rfl (bAd (wI6 (by omega) (by omega))) ?_))))
    refine wmv (v:=.int .i64 ((i + 1:Nat):Int)) rfl rfl ?_
    refine wn1 ?_
    exact ⟨(i + 1),⟨_,aSs ⟨rfl,rfl,rfl,rfl,trivial⟩,hS.pick [] (by decide) rfl,by omega,by rw [take_next hxr]; intro u hu; exact (List.mem_append.1 hu).elim (hrc u) (fun h => by rw [List.mem_singleton.1 h]; exact hrl)⟩,by omega⟩
   refine wbt (u:=.int .i64 (xr.length:Int)) (v:=.int .i64 (xz.length:Int)) (z:=.bool true) rfl rfl rfl rfl (bNe (neT (by rw [← hcol]; omega))) ?_
   refine wn1 ?_
   refine wT (ev rfl rfl) ?_
   refine wsr (wavc ?_)
   refine wn1 ?_
   refine wLv ?_
   refine blkR ?_
   refine thenR ?_
   refine thenR ?_
   refine blkR ?_
   refine thenR ?_
   refine wr1 Tryd.results10 (tlT (v:=.int .i64 2) rfl rfl) ?_
   obtain rfl:=hc.un (.shape hp fun h9 => hrl (h9 xr (List.mem_of_getElem? hxr)))
   exact ⟨_,_,rfl,isI,hS.new0⟩
  refine wbt (u:=.int .i64 (i:Int)) (v:=.int .i64 (nm:Int)) rfl rfl rfl rfl (bLs (decide_eq_false (by omega))) ?_
  refine wn1 (wSq ?_)
  refine wF (ev rfl rfl) ?_
  refine wEx ?_
  refine tEx ?_
  refine tEx ?_
  refine blkE ?_
  refine tNo (wSq (wsr (wmv (v:=.slice pm nm cm) rfl rfl ?_)))
  refine wl rfl (olen rfl rfl rfl Tryd.runUnderlying23 (p:=pm) (k:=nm) (m:=cm) (ev rfl rfl) ?_)
  have hr:RectM M:=fun r h => hrc r (by rw [List.take_of_length_le (by omega)]; exact h)
  by_cases h0:M.length = 0
  ·
   refine wbc (u:=.int .i64 (nm:Int)) (v:=.int .i64 0) (z:=.bool true) rfl rfl (bEq (eqT (by omega))) ?_
   refine wmv (v:=.bool true) rfl rfl ?_
   refine wlOff (e:=27) (d:=28) (b':=true) rfl rfl rfl rfl rfl rfl ?_
   refine wlOff (e:=27) (d:=29) (b':=true) rfl rfl rfl rfl rfl rfl ?_
   refine wlOff (e:=27) (d:=30) (b':=true) rfl rfl rfl rfl rfl rfl ?_
   refine wlOff (e:=27) (d:=31) (b':=true) rfl rfl rfl rfl rfl rfl ?_
   refine wlOff (e:=27) (d:=32) (b':=true) rfl rfl rfl rfl rfl rfl ?_
   refine wlOff (e:=27) (d:=33) (b':=true) rfl rfl rfl rfl rfl rfl ?_
   refine wlOff (e:=27) (d:=34) (b':=true) rfl rfl rfl rfl rfl rfl ?_
   refine wl rfl (opick (b:=true) (v:=.bool true) rfl rfl (ev rfl rfl) evc ?_)
   refine wn1 ?_
   refine wT (ev rfl rfl) ?_
   refine wsr (wavc ?_)
   refine wn1 ?_
   refine wLv ?_
   refine thenR ?_
   refine wr1 Tryd.results10 (tlT (v:=.int .i64 3) rfl rfl) ?_
   obtain rfl:=hc.un (.square hp hr (by omega))
   exact ⟨_,_,rfl,isI,hS.new0⟩
  refine wbc (u:=.int .i64 (nm:Int)) (v:=.int .i64 0) (z:=.bool false) rfl rfl (bEq (eqF (by omega))) ?_
  refine wmv (v:=.bool false) rfl rfl ?_
  refine wlOn (e:=27) rfl rfl rfl rfl (omove (v:=.slice pm nm cm) rfl rfl (ev rfl rfl) ?_)
  refine wlOn (e:=27) rfl rfl rfl rfl (olen rfl rfl rfl Tryd.runUnderlying23 (p:=pm) (k:=nm) (m:=cm) (ev rfl rfl) ?_)
  refine wlOn (e:=27) rfl rfl rfl rfl (omove (v:=.slice pm nm cm) rfl rfl (ev rfl rfl) ?_)
  obtain ⟨xz,hxz⟩:∃ r,(M)[0]? = some r:=⟨_,List.getElem?_eq_getElem (by have:=hm.1; omega)⟩
  obtain ⟨bz,ofz,pz,cz,hpz,hcz,hsz⟩:=hm.2.2 0 _ hxz
  have hcol:=colsM_zero hxz
  refine wlOn (e:=27) rfl rfl rfl rfl (oIx (p:=pm) (g:=bz) (off:=ofz) (m:=nm) (k:=0) (j:=(ofz + 0 * 1)) rfl rfl Tryd.runUnderlying23 Tryd.sizeOf29 (ev rfl rfl) hpz evc (by omega) rfl ?_)
  refine wlOn (e:=27) rfl rfl rfl rfl (oLc (v:=.slice pz xz.length cz) ⟨Tryd.isAgg29,Tryd.sizeOf29⟩ rfl rfl (ev (v:=.pointer (some ⟨bz,(ofz + 0 * 1),none⟩)) rfl rfl) (hS.cellAt (hcz 0 _ rfl)) ?_)
  refine wlOn (e:=27) rfl rfl rfl rfl (olen rfl rfl rfl Tryd.runUnderlying29 (p:=pz) (k:=xz.length) (m:=cz) (ev rfl rfl) ?_)
  by_cases hq:M.length = colsM M
  ·
   refine wlOn (e:=27) rfl rfl rfl rfl (obin (u:=.int .i64 (nm:Int)) (v:=.int .i64 (xz.length:Int)) (z:=.bool false) rfl rfl (ev rfl rfl) (ev rfl rfl) (bNe (neF (by rw [← hcol]; omega))) ?_)
   refine wl rfl (opick (b:=false) (v:=.bool false) rfl rfl (ev rfl rfl) (ev rfl rfl) ?_)
   refine wn1 ?_
   refine wF (ev rfl rfl) ?_
   refine wSk (tNo (wSq (wsr (wmv (v:=.slice pm nm cm) rfl rfl ?_))))
   refine wl rfl (olen rfl rfl rfl Tryd.runUnderlying23 (p:=pm) (k:=nm) (m:=cm) (ev rfl rfl) ?_)
   by_cases hb:24 < M.length
   ·
    refine wbc (u:=.int .i64 (nm:Int)) (v:=.int .i64 24) rfl rfl (bin_gtr (decide_eq_true (by omega))) ?_
    refine wn1 ?_
    refine wT (ev rfl rfl) ?_
    refine wsr (wavc ?_)
    refine wn1 ?_
    refine wLv ?_
    refine thenR ?_
    refine wr1 Tryd.results10 (tlT (v:=.int .i64 4) rfl rfl) ?_
    obtain rfl:=hc.un (.big hp hr h0 hq hb)
    exact ⟨_,_,rfl,isI,hS.new0⟩
   refine wbc (u:=.int .i64 (nm:Int)) (v:=.int .i64 24) rfl rfl (bin_gtr (decide_eq_false (by omega))) ?_
   refine wn1 ?_
   refine wF (ev rfl rfl) ?_
   refine wSk (tNo (wsr (wavc ?_)))
   refine wn1 ?_
   refine wLv ?_
   refine wr1 Tryd.results10 (tlT (v:=.int .i64 0) rfl rfl) ?_
   obtain rfl:=hc.un (.ok hp hr h0 hq (by omega))
   exact ⟨_,_,rfl,isI,hS.new0⟩
  refine wlOn (e:=27) rfl rfl rfl rfl (obin (u:=.int .i64 (nm:Int)) (v:=.int .i64 (xz.length:Int)) (z:=.bool true) rfl rfl (ev rfl rfl) (ev rfl rfl) (bNe (neT (by rw [← hcol]; omega))) ?_)
  refine wl rfl (opick (b:=false) (v:=.bool true) rfl rfl (ev rfl rfl) (ev rfl rfl) ?_)
  refine wn1 ?_
  refine wT (ev rfl rfl) ?_
  refine wsr (wavc ?_)
  refine wn1 ?_
  refine wLv ?_
  refine thenR ?_
  refine wr1 Tryd.results10 (tlT (v:=.int .i64 3) rfl rfl) ?_
  obtain rfl:=hc.un (.square hp hr (by omega))
  exact ⟨_,_,rfl,isI,hS.new0⟩
 refine wcl Tryd.call20 (wqprimeF hp2 hp) (ar1 (ev rfl rfl)) hS ?_
 clear hS; rintro _ _ w1 ⟨rfl,rfl⟩ hS
 refine wl rfl (onot (b:=false) rfl rfl (ev rfl rfl) ?_)
 refine wn1 ?_
 refine wT (ev rfl rfl) ?_
 refine wsr (wavc ?_)
 refine wn1 ?_
 refine wLv ?_
 refine thenR ?_
 refine wr1 Tryd.results10 (tlT (v:=.int .i64 40) rfl rfl) ?_
 obtain rfl:=hc.un (.prime hp)
 exact ⟨_,_,rfl,isI,hS.new0⟩
theorem wqis1 {pm:Option Addr} {nm cm p:Nat} {M:List (List Nat)} {w:World} (hm:MS w pm nm M) (hp0:0 < p) (hp2:p < 4294967296) (hb1:nm ≤ 2097152) (hb2:∀ r ∈ M,r.length = nm) (hz:∀ i k,k + 1 < i → i < nm → nd (M.getD i []) k % p = 0) :
  Calls Tryd.prog 13 #[.slice pm nm cm,.int .u32 ((p:Nat):Int)] w (Ret (Is (.bool true)) w):=by
 have hml:=hm.1
 have hS:=Sep.init w
 refine went Tryd.func13 rfl (n:=29) rfl rfl ?_
 refine wsr (wavc ?_)
 refine wn1 (wSq (wsr (wmv (v:=.slice pm nm cm) rfl rfl ?_)))
 refine wl rfl (olen rfl rfl rfl Tryd.runUnderlying23 (p:=pm) (k:=nm) (m:=cm) (ev rfl rfl) ?_)
 refine wmvc ?_
 refine wn1 (wBk ?_)
 refine wLp (σ := Nat) (fun i a9 w' => ∃ (fb:Nat → Value),a9 = act 29 (sets fb [(0,.slice pm nm cm),(1,.int .u32 (p:Int)),(8,.int .i64 (nm:Int)),(9,.int .i64 (i:Int))]) ∧ Sep w [] w' ∧ (i ≤ nm)) (fun i => nm - i) (0) ⟨_,aSs ⟨rfl,rfl,rfl,rfl,trivial⟩,hS,Nat.zero_le _⟩ ?_
 clear hS; rintro i _ w1 ⟨fb,rfl,hS,hi⟩
 refine wsr ?_
 by_cases hli:i < nm
 ·
  refine wbt (u:=.int .i64 (i:Int)) (v:=.int .i64 (nm:Int)) rfl rfl rfl rfl (bLs (decide_eq_true (by omega))) ?_
  refine wn1 (wSq ?_)
  refine wT (ev rfl rfl) ?_
  refine wk2 (wmv (v:=.int .i64 (i:Int)) rfl rfl ?_)
  refine wav (v:=.int .i64 (i:Int)) rfl rfl ?_
  refine wn2 (wavc ?_)
  refine wn1 (wBk ?_)
  obtain ⟨xr,hxr⟩:∃ r,(M)[i]? = some r:=⟨_,List.getElem?_eq_getElem (by have:=hm.1; omega)⟩
  obtain ⟨br,ofr,pr,cr,hpr,hcr,hsr⟩:=hm.2.2 i _ hxr
  have hrl:=hb2 xr (List.mem_of_getElem? hxr)
  refine wLp (σ := Nat) (fun k a9 w' => ∃ (fb:Nat → Value),a9 = act 29 (sets fb [(0,.slice pm nm cm),(1,.int .u32 (p:Int)),(5,.int .i64 (i:Int)),(6,.int .i64 (k:Int)),(8,.int .i64 (nm:Int)),(9,.int .i64 (i:Int))]) ∧ Sep w [] w' ∧ (k ≤ i)) (fun k => i - k) (0) ⟨_,aSs ⟨rfl,rfl,rfl,rfl,rfl,rfl,trivial⟩,hS,Nat.zero_le _⟩ ?_
  clear hS; rintro k _ w2 ⟨fb,rfl,hS,hk⟩
  refine wSq (wsr (wmv (v:=.int .i64 (k:Int)) rfl rfl ?_))
  refine wbc (u:=.int .i64 (k:Int)) (v:=.int .i64 1) (z:=.int .i64 ((k + 1:Nat):Int)) rfl rfl (bAd (wI6 (by omega) (by omega))) ?_
  refine wmv (v:=.int .i64 (i:Int)) rfl rfl ?_
  by_cases hlk:k + 1 < i
  ·
   refine wbt (u:=.int .i64 ((k + 1:Nat):Int)) (v:=.int .i64 (i:Int)) rfl rfl rfl rfl (bLs (decide_eq_true (by omega))) ?_
   refine wn1 ?_
   refine wT (ev rfl rfl) ?_
   refine wk2 (wmv (v:=.slice pm nm cm) rfl rfl ?_)
   refine wmv (v:=.int .i64 (i:Int)) rfl rfl ?_
   obtain ⟨bce,oce,hpce,hcce⟩:=hsr.el (show k < xr.length by omega)
   have hzz:nd xr k % p = 0:=by have:=hz i k hlk hli; rwa [getD_get hxr] at this
   have hl9:=hsr.lim1 k
   refine wl rfl (oIx (p:=pm) (g:=br) (off:=ofr) (m:=nm) (k:=i) (j:=(ofr + i * 1)) rfl rfl Tryd.runUnderlying23 Tryd.sizeOf29 (ev rfl rfl) hpr (ev rfl rfl) (by omega) rfl ?_)
   refine wl rfl (oLc (v:=.slice pr xr.length cr) ⟨Tryd.isAgg29,Tryd.sizeOf29⟩ rfl rfl (ev (v:=.pointer (some ⟨br,(ofr + i * 1),none⟩)) rfl rfl) (hS.cellAt (hcr 0 _ rfl)) ?_)
   refine wmv (v:=.int .i64 (k:Int)) rfl rfl ?_
   refine wl rfl (oIx (p:=pr) (g:=bce) (off:=oce) (m:=xr.length) (k:=k) (j:=(oce + k * 1)) rfl rfl Tryd.runUnderlying29 Tryd.sizeOf24 (ev rfl rfl) hpce (ev rfl rfl) (by omega) rfl ?_)
   refine wl rfl (oLc (v:=.int .u32 ((nd xr k:Nat):Int)) one32 rfl rfl (ev (v:=.pointer (some ⟨bce,(oce + k * 1),none⟩)) rfl rfl) (hS.cellAt (hcce 0 _ rfl)) ?_)
   refine wmv (v:=.int .u32 (p:Int)) rfl rfl ?_
   refine wbt (u:=.int .u32 ((nd xr k:Nat):Int)) (v:=.int .u32 (p:Int)) (z:=.int .u32 ((nd xr k % p:Nat):Int)) rfl rfl rfl rfl (bin_rem (by omega) rfl) ?_
   refine wbc (u:=.int .u32 ((nd xr k % p:Nat):Int)) (v:=.int .u32 0) (z:=.bool false) rfl rfl (bNe (neF (by omega))) ?_
   refine wn1 ?_
   refine wF (ev rfl rfl) ?_
   refine wSk (blkN (tNo (wreg (wmv (v:=.int .i64 (k:Int)) rfl rfl ?_))))
   refine wbc (u:=.int .i64 (k:Int)) (v:=.int .i64 1) (z:=.int .i64 ((k + 1:Nat):Int)) rfl rfl (bAd (wI6 (by omega) (by omega))) ?_
   refine wav (v:=.int .i64 ((k + 1:Nat):Int)) rfl rfl ?_
   refine wn1 ?_
   exact ⟨(k + 1),⟨_,aSs ⟨rfl,rfl,rfl,rfl,rfl,rfl,trivial⟩,hS.pick [] (by decide) rfl,by omega⟩,by omega⟩
  refine wbt (u:=.int .i64 ((k + 1:Nat):Int)) (v:=.int .i64 (i:Int)) rfl rfl rfl rfl (bLs (decide_eq_false (by omega))) ?_
  refine wn1 ?_
  refine wF (ev rfl rfl) ?_
  refine wEx ?_
  refine tEx ?_
  refine tEx ?_
  refine blkE ?_
  refine blkN (tNo (wreg (wbc (u:=.int .i64 (i:Int)) (v:=.int .i64 1) (z:=.int .i64 ((i + 1:Nat):Int)) rfl rfl (bAd (wI6 (by omega) (by omega))) ?_)))
  refine wmv (v:=.int .i64 ((i + 1:Nat):Int)) rfl rfl ?_
  refine wn1 ?_
  exact ⟨(i + 1),⟨_,aSs ⟨rfl,rfl,rfl,rfl,trivial⟩,hS.pick [] (by decide) rfl,by omega⟩,by omega⟩
 refine wbt (u:=.int .i64 (i:Int)) (v:=.int .i64 (nm:Int)) rfl rfl rfl rfl (bLs (decide_eq_false (by omega))) ?_
 refine wn1 (wSq ?_)
 refine wF (ev rfl rfl) ?_
 refine wEx ?_
 refine tEx ?_
 refine tEx ?_
 refine blkE ?_
 refine tNo (wsr (wavc ?_))
 refine wn1 ?_
 refine wLv ?_
 refine wr1 Tryd.results13 (tlT (v:=.bool true) rfl rfl) ?_
 exact ⟨_,_,rfl,isI,hS.new0⟩
open Go.RowKit
section
variable {p n:Nat} {M:List (List Nat)} {s:HS}
theorem Hz.redk {p n:Nat} {M:List (List Nat)} (hp:MR.Pr p) (hr:RectM M) (hl:M.length = n) (hq:M.length = colsM M) (h0:n ≠ 0):Hz n (n - 2) (HS.red p n M (n - 2)).H:=Hz.red hp hr hl hq (n - 1) (by omega)
theorem HInv.redk {p n:Nat} {M:List (List Nat)} (hp:1 < p) (hr:RectM M) (hl:M.length = n) (hq:M.length = colsM M) (h0:n ≠ 0):HInv p n (en M) (HS.red p n M (n - 2)):=HInv.red hp hr hl hq (n - 1) (by omega)
end
open Go.RowKit
def SmallM (M:List (List Nat)):Prop:=M.length ≤ 2097152 ∧ ∀ r ∈ M,r.length ≤ 1048576
open Go.RowKit
section
variable {P:Program} {o:Oper} {n:Nat} {f:Nat → Value} {w w0:World} {R:List Res} {K:Act → World → Prop} {Q':Exit → Act → World → Prop} {d:Nat}
theorem run_append_zero {t ty e:TypeId} {i:TypeInfo} (ht:P.underlying t = some (.slice e)) (hi:P.info? e = some i) {p q:Option Addr} {m c c2:Nat} (hle:m ≤ c) :
  (Builtin.append_ #[t,t] ty #[.slice p m c,.slice q 0 c2]).run P w = .ok (.slice p m c) w:=by
 have hf:(Builtin.firstCells i.size 0 (.slice q 0 c2)).run P w = .ok #[] w:=by
  cases q with
  | none => rfl
  | some a => exact run_firstCells_some (P:=P) w i.size 0 a 0 c2 [] (by simp) (by simp)
 cases p <;> simp [Builtin.append_,run_underlying ht,sizeOf,typeInfo,hi,Builtin.lenOf,hle,hf,storeCells]
theorem oappendOwn {t:TypeId} {x y:Operand} {g m c2:Nat} {q:Option Addr} {xs:List Nat} (hS:Sep w0 (.blk g [] 24 :: R) w) (hop:o.op = .call { callee:=.builtin .append,args:=#[x,y],argTypes:=#[t,t] }) (ho:o.dst = some d) (ht:P.underlying t = some (.slice 24)) (hi:(P.info? 24).map (fun i => (i.zero,i.size,i.bytes)) = some (some (.int .u32 0),1,4))
  (hx:(act n f).eval x = .slice (some ⟨g,0,none⟩) 0 0) (hy:(act n f).eval y = .slice q m c2) (hs:Sl w q m c2 xs) (hm:m ≤ 1073741824)
  (hK:∀ p' c' w',Sep w0 (.rowm p' m c' xs :: R) w' → K (act n (upd f d (.slice p' m c'))) w'):OW P o (act n f) w K Q':=by
 rcases Nat.eq_zero_or_pos m with h0 | h0
 ·subst h0
  obtain rfl:xs = []:=List.eq_nil_of_length_eq_zero hs.len
  rcases hi':P.info? 24 with _ | i
  ·rw [hi'] at hi; cases hi
  have hS':=hS.ofBlk (sz:=1) (m:=0) (cap:=0) (Nat.le_refl _) (Nat.zero_le _) (by simp)
  have h1:Sep w0 (.rowm (some ⟨g,0,none⟩) 0 0 [] :: R) w:=Sep.ownRow (xs:=[]) (by simpa using hS') rfl (fun i hi => by simp at hi)
  refine ⟨?_⟩
  have:=hK _ _ _ h1
  unfold Oper.wp execOp
  simp only [hop,resolve,invoke,builtin,Sem.run_bind,Sem.run_pure,Result.andThen_ok,List.map_toArray,List.map_cons,List.map_nil,hx,hy,run_append_zero ht hi' (Nat.le_refl _)]
  show K ((act n f).put o.dst _) w
  rw [ho,act_put]
  exact this
 obtain ⟨b,off,rfl,_⟩:=hs.cell 0 h0
 refine oappend0 (z:=.int .u32 0) (sz:=1) (by':=4) (xs.map fun x:Nat => Value.int .u32 (x:Int)) hS hop ho ht hi rfl (by decide) hx hy (by rw [List.length_map,hs.len,Nat.mul_one]) (fun j u hu => ?_) (fun u hu => by obtain ⟨x,_,rfl⟩:=List.mem_map.1 hu; rfl) (by omega) (by omega) fun p' c' w' h => hK p' c' w' (h.ownRow hs.len hs.lims)
 have hj:j < m:=by have:=(List.getElem?_eq_some_iff.1 hu).1; rw [List.length_map,hs.len] at this; exact this
 obtain ⟨b',off',hp,hc⟩:=hs.cell j hj
 simp only [Option.some.injEq,Addr.mk.injEq,and_true] at hp
 obtain ⟨rfl,rfl⟩:=hp
 rw [Addr.add_mid,hc]
 rw [List.getElem?_map,List.getElem?_eq_getElem (by rw [hs.len]; exact hj)] at hu
 rw [nd_get (by rw [hs.len]; exact hj)]
 exact hu
theorem Sep.tl {r:Res} (h:Sep w0 (r :: R) w):Sep w0 R w:=⟨h.below,fun s hs => h.holds s (List.mem_cons_of_mem _ hs),fun s hs => h.low s (List.mem_cons_of_mem _ hs),(List.pairwise_cons.1 h.apart).2⟩
theorem flatC_app (a b:List El):flatC (a ++ b) = flatC a ++ flatC b:=by simp [flatC]
theorem flatR_app (a b:List El):flatR (a ++ b) = flatR a ++ flatR b:=by simp [flatR]
end
open Go.RowKit
theorem fill1_3g {u a b c:Value} (hu:u.cells = #[u]) (ha:a.cells = #[a]) (hb:b.cells = #[b]) (hc:c.cells = #[c]):Instr.fill (fun i => some (i * 1,1)) ((Array.range (3 * 1)).map (u.cells[· % u.cells.size]!)) #[(0,a),(1,b),(2,c)].toList = some [a,b,c].toArray:=by
 rw [hu]
 simp [Instr.fill,ha,hb,hc,Array.range]
 apply Array.ext
 ·simp
 intro i h1 h2
 have h3:i = 0 ∨ i = 1 ∨ i = 2:=by simp at h2; omega
 rcases h3 with rfl | rfl | rfl <;> simp
theorem fill1_2g {u a b:Value} (hu:u.cells = #[u]) (ha:a.cells = #[a]) (hb:b.cells = #[b]):Instr.fill (fun i => some (i * 1,1)) ((Array.range (2 * 1)).map (u.cells[· % u.cells.size]!)) #[(0,a),(1,b)].toList = some [a,b].toArray:=by
 rw [hu]
 simp [Instr.fill,ha,hb,Array.range]
 apply Array.ext
 ·simp
 intro i h1 h2
 have h3:i = 0 ∨ i = 1:=by simp at h2; omega
 rcases h3 with rfl | rfl <;> simp
theorem Sl.blk3H {w:World} {g:Nat} {t:TypeId} {a b c:Nat} (h:w.heap[g]? = some (.cells [.int .u32 ((a:Nat):Int),.int .u32 ((b:Nat):Int),.int .u32 ((c:Nat):Int)].toArray t)) (ha:a < 4294967296:=by decide) (hb:b < 4294967296:=by decide) (hc:c < 4294967296:=by decide):Sl w (some ⟨g,0,none⟩) 3 3 [a,b,c]:=by
 refine ⟨rfl,Nat.le_refl _,by simp [maxLen],fun i hi => ?_,(fun h => by cases h),fun i hi => ⟨g,0,rfl,?_⟩⟩
 ·match i,hi with
  | 0,_ => exact ha
  | 1,_ => exact hb
  | 2,_ => exact hc
 rw [Nat.zero_add]
 match i,hi with
 | 0,_ => exact (blk_cell h 0).trans rfl
 | 1,_ => exact (blk_cell h 1).trans rfl
 | 2,_ => exact (blk_cell h 2).trans rfl
theorem Sl.blk2H {w:World} {g a b:Nat} {t:TypeId} (h:w.heap[g]? = some (.cells [.int .u32 ((a:Nat):Int),.int .u32 ((b:Nat):Int)].toArray t)) (ha:a < 4294967296) (hb:b < 4294967296):Sl w (some ⟨g,0,none⟩) 2 2 [a,b]:=by
 refine ⟨rfl,Nat.le_refl _,by simp [maxLen],fun i hi => ?_,(fun h => by cases h),fun i hi => ⟨g,0,rfl,?_⟩⟩
 ·match i,hi with
  | 0,_ => exact ha
  | 1,_ => exact hb
 rw [Nat.zero_add]
 match i,hi with
 | 0,_ => exact (blk_cell h 0).trans rfl
 | 1,_ => exact (blk_cell h 1).trans rfl
theorem MS.lit2H {w:World} {g g1 g2 a b c d:Nat} {t t1 t2:TypeId} (h:w.heap[g]? = some (.cells [.slice (some ⟨g1,0,none⟩) 2 2,.slice (some ⟨g2,0,none⟩) 2 2].toArray t)) (h1:w.heap[g1]? = some (.cells [.int .u32 ((a:Nat):Int),.int .u32 ((b:Nat):Int)].toArray t1)) (h2:w.heap[g2]? = some (.cells [.int .u32 ((c:Nat):Int),.int .u32 ((d:Nat):Int)].toArray t2))
  (ha:a < 4294967296) (hb:b < 4294967296) (hc:c < 4294967296) (hd:d < 4294967296):MS w (some ⟨g,0,none⟩) 2 [[a,b],[c,d]]:=MS.of2 h (Sl.blk2H h1 ha hb) (Sl.blk2H h2 hc hd)
theorem pr7H:MR.Pr 7:=⟨by decide,fun d hd => by
  have h1:=Nat.le_of_dvd (by decide) hd
  have:d ≠ 0:=fun e => by subst e; exact absurd hd (by decide)
  have:d ≠ 2:=fun e => by subst e; exact absurd hd (by decide)
  have:d ≠ 3:=fun e => by subst e; exact absurd hd (by decide)
  have:d ≠ 4:=fun e => by subst e; exact absurd hd (by decide)
  have:d ≠ 5:=fun e => by subst e; exact absurd hd (by decide)
  have:d ≠ 6:=fun e => by subst e; exact absurd hd (by decide)
  omega⟩
theorem npr4H:¬ MR.Pr 4:=fun h => by rcases h.2 2 (by decide) with h | h <;> cases h
theorem whChar_lives {p:Option Addr} {c:Nat} {w:World} (ht:Tb w) (hm:MS w p 2 [[1,2],[3,4]]):Calls Tryd.prog 9 #[.slice p 2 c,.int .u32 7] w (Ret (PEt [5,2,1] 0) w):=by
  have h:=whChar (cm:=c) (p:=7) ht hm (by decide) (by decide) (fun r hr => by simp at hr; rcases hr with rfl | rfl <;> simp) pr7H (fun r hr => by simp at hr; rcases hr with rfl | rfl <;> rfl) (by decide) (by decide) (by decide)
  rwa [show charL 7 [[1,2],[3,4]] = [5,2,1] by decide] at h
theorem whIsE {pm:Option Addr} {nm cm p:Nat} {M:List (List Nat)} {w:World} (ht:Tb w) (hm:MS w pm nm M) (hp2:p < 4294967296) (hb1:nm ≤ 2097152) (hb2:∀ r ∈ M,r.length ≤ 1048576) {e:Nat} (hc:HFa p M e) (he:e ≠ 0) :
  Calls Tryd.prog 8 #[.slice pm nm cm,.int .u32 ((p:Nat):Int)] w (Ret (Is (.tuple #[.bool false,.int .i64 ((e:Nat):Int)])) w):=by
 have hS:=Sep.init w
 refine went Tryd.func8 rfl (n:=38) rfl rfl ?_
 refine wsr (wavc ?_)
 refine wavc ?_
 refine wn1 (wSq (wsr (wmv (v:=.slice pm nm cm) rfl rfl ?_)))
 refine wmv (v:=.int .u32 (p:Int)) rfl rfl ?_
 refine wcl Tryd.call22 (whfaults (ht.at hS) (hm.at hS) hp2 hb1 hb2 hc) (ar2 (ev rfl rfl) (ev rfl rfl)) hS ?_
 clear hS; rintro _ _ w1 ⟨rfl,rfl⟩ hS
 refine wav (v:=.int .i64 (e:Int)) rfl rfl ?_
 refine wn2 (wmv (v:=.int .i64 (e:Int)) rfl rfl ?_)
 refine wbc (u:=.int .i64 (e:Int)) (v:=.int .i64 0) (z:=.bool true) rfl rfl (bNe (neT (by omega))) ?_
 refine wn1 ?_
 refine wT (ev rfl rfl) ?_
 refine wsr (wmv (v:=.int .i64 (e:Int)) rfl rfl ?_)
 refine wavc ?_
 refine wav (v:=.int .i64 (e:Int)) rfl rfl ?_
 refine wn1 ?_
 refine wLv ?_
 refine thenR ?_
 refine wret2 Tryd.results8 (tlT (v:=.bool false) rfl rfl) (tlT (v:=.int .i64 (e:Int)) rfl rfl) ?_
 exact ⟨_,_,rfl,isI,hS.new0⟩
theorem whIs_lives {w:World} (ht:Tb w):Calls Tryd.prog 8 #[.slice none 0 0,.int .u32 4] w (Ret (Is (.tuple #[.bool false,.int .i64 40])) w) :=
  whIsE (p:=4) (e:=40) ht (MS.nil0 w) (by decide) (by decide) (fun r hr => by cases hr) (.prime npr4H) (by decide)
theorem wllives {w:World} (ht:Tb w) :
  Calls Tryd.prog 12 #[] w (Ret (Is (.bool true)) w):=by
 have hS:=Sep.init w
 refine went Tryd.func12 rfl (n:=31) rfl rfl ?_
 refine wsr (wavc ?_)
 refine wn2 (wl rfl (obslice (ps:=#[(0,.int .u32 1),(1,.int .u32 2)]) (z:=.int .u32 0) [.int .u32 1,.int .u32 2] hS rfl rfl Tryd.runUnderlying29 Tryd.sizeOf24 Tryd.zeroValue24 (parts2 (evc (v:=.int .u32 1)) (evc (v:=.int .u32 2))) rfl (by decide) (fill1_2g rfl rfl rfl) ?_))
 clear hS; intro g1 w2 hS
 refine wl rfl (obslice (ps:=#[(0,.int .u32 3),(1,.int .u32 4)]) (z:=.int .u32 0) [.int .u32 3,.int .u32 4] hS rfl rfl Tryd.runUnderlying29 Tryd.sizeOf24 Tryd.zeroValue24 (parts2 (evc (v:=.int .u32 3)) (evc (v:=.int .u32 4))) rfl (by decide) (fill1_2g rfl rfl rfl) ?_)
 clear hS; intro g3 w4 hS
 refine wl rfl (obslice (ps:=#[(0,.slice (some ⟨g1,0,none⟩) 2 2),(1,.slice (some ⟨g3,0,none⟩) 2 2)]) (z:=.slice none 0 0) [.slice (some ⟨g1,0,none⟩) 2 2,.slice (some ⟨g3,0,none⟩) 2 2] hS rfl rfl Tryd.runUnderlying23 Tryd.sizeOf29 Tryd.zeroValue29 (parts2 (ev (v:=.slice (some ⟨g1,0,none⟩) 2 2) rfl rfl) (ev (v:=.slice (some ⟨g3,0,none⟩) 2 2) rfl rfl)) rfl (by decide) (fill1_2g rfl rfl rfl) ?_)
 clear hS; intro g5 w6 hS
 refine wcl Tryd.call9 (whChar_lives (ht.at hS) (MS.lit2H (hS.blkAt 0 rfl) (hS.blkAt 2 rfl) (hS.blkAt 1 rfl) (by decide) (by decide) (by decide) (by decide))) (ar2 (ev rfl rfl) evc) hS ?_
 clear hS; rintro _ _ w7 ⟨pc,cc,rfl,rfl⟩ hS
 refine wmv (v:=.tuple #[.slice pc (([5,2,1]).length) cc,.int .i64 0]) rfl rfl ?_
 refine wl rfl (oEx (vs:=[.slice pc (([5,2,1]).length) cc,.int .i64 0]) (v:=.slice pc (([5,2,1]).length) cc) rfl rfl (ev rfl rfl) rfl ?_)
 refine wl rfl (oEx (vs:=[.slice pc (([5,2,1]).length) cc,.int .i64 0]) (v:=.int .i64 0) rfl rfl (ev rfl rfl) rfl ?_)
 refine wav (v:=.slice pc (([5,2,1]).length) cc) rfl rfl ?_
 refine wav (v:=.int .i64 0) rfl rfl ?_
 refine wn2 (wcl Tryd.call8 (whIs_lives (ht.at hS)) (ar2 evc evc) hS ?_)
 clear hS; rintro _ _ w8 ⟨rfl,rfl⟩ hS
 refine wmv (v:=.tuple #[.bool false,.int .i64 40]) rfl rfl ?_
 refine wl rfl (oEx (vs:=[.bool false,.int .i64 40]) (v:=.bool false) rfl rfl (ev rfl rfl) rfl ?_)
 refine wl rfl (oEx (vs:=[.bool false,.int .i64 40]) (v:=.int .i64 40) rfl rfl (ev rfl rfl) rfl ?_)
 refine wav (v:=.bool false) rfl rfl ?_
 refine wav (v:=.int .i64 40) rfl rfl ?_
 refine wn2 (wmv (v:=.int .i64 0) rfl rfl ?_)
 refine wbc (u:=.int .i64 0) (v:=.int .i64 0) (z:=.bool true) rfl rfl (bEq (by decide)) ?_
 refine wmv (v:=.bool true) rfl rfl ?_
 refine wlOn (e:=18) rfl rfl rfl rfl (omove (v:=.slice pc (([5,2,1]).length) cc) rfl rfl (ev rfl rfl) ?_)
 refine wlOn (e:=18) rfl rfl rfl rfl (obslice (ps:=#[(0,.int .u32 5),(1,.int .u32 2),(2,.int .u32 1)]) (z:=.int .u32 0) [.int .u32 5,.int .u32 2,.int .u32 1] hS rfl rfl Tryd.runUnderlying30 Tryd.sizeOf24 Tryd.zeroValue24 (parts3 (evc (v:=.int .u32 5)) (evc (v:=.int .u32 2)) (evc (v:=.int .u32 1))) rfl (by decide) (fill1_3g rfl rfl rfl rfl) ?_)
 clear hS; intro g9 w10 hS
 refine wlOn (e:=18) rfl rfl rfl rfl (oCl rfl rfl Tryd.call14 rfl (wqwords (hS.slo 1 rfl) (Sl.blk3H (hS.blkAt 0 rfl)) (by first | omega | decide)) (ar2 (ev rfl rfl) (ev rfl rfl)) ?_)
 rintro _ w11 ⟨_,_,rfl,⟨rfl,rfl⟩,hN⟩
 refine ⟨_,rfl,?_⟩
 replace hS:=hS.news hN; clear hN
 refine wl rfl (opick (b:=true) (v:=.bool true) rfl rfl (ev rfl rfl) (ev rfl rfl) ?_)
 refine wmv (v:=.bool true) rfl rfl ?_
 refine wlOn (e:=23) rfl rfl rfl rfl (omove (v:=.int .i64 40) rfl rfl (ev rfl rfl) ?_)
 refine wlOn (e:=23) rfl rfl rfl rfl (obin (u:=.int .i64 40) (v:=.int .i64 40) (z:=.bool true) rfl rfl (ev rfl rfl) evc (bEq (by decide)) ?_)
 refine wl rfl (opick (b:=true) (v:=.bool true) rfl rfl (ev rfl rfl) (ev rfl rfl) ?_)
 refine wmv (v:=.bool true) rfl rfl ?_
 refine wlOn (e:=27) rfl rfl rfl rfl (omove (v:=.int .i64 40) rfl rfl (ev rfl rfl) ?_)
 refine wlOn (e:=27) rfl rfl rfl rfl (obin (u:=.int .i64 40) (v:=.int .i64 40) (z:=.bool true) rfl rfl (ev rfl rfl) evc (bEq (by decide)) ?_)
 refine wl rfl (opick (b:=true) (v:=.bool true) rfl rfl (ev rfl rfl) (ev rfl rfl) ?_)
 refine wav (v:=.bool true) rfl rfl ?_
 refine wn1 ?_
 refine wLv ?_
 refine wr1 Tryd.results12 (tlT (v:=.bool true) rfl rfl) ?_
 exact ⟨_,_,rfl,isI,hS.new0⟩
theorem wlcopied {pm:Option Addr} {nm cm:Nat} {M:List (List Nat)} {w:World} (hm:MS w pm nm M) (hs:SmallM M) :
  Calls Tryd.prog 7 #[.slice pm nm cm] w (Ret (MMh nm M) w):=by
 have hml:=hm.1
 have hb1:=hs.1
 have hS:=Sep.init w
 refine went Tryd.func7 rfl (n:=20) rfl rfl ?_
 refine wsr (wavc ?_)
 refine wn2 (wavc ?_)
 refine wn1 (wSq (wsr (wmv (v:=.slice pm nm cm) rfl rfl ?_)))
 refine wl rfl (olen rfl rfl rfl Tryd.runUnderlying23 (p:=pm) (k:=nm) (m:=cm) (ev rfl rfl) ?_)
 refine wmvc ?_
 refine wn1 (wBk ?_)
 replace hS:=hS.nilLst 29 1
 refine wLp (σ := Nat) (fun i a9 w' => ∃ (fb:Nat → Value) (Q:List Rw) (pX:Option Addr) (cX:Nat),a9 = act 20 (sets fb [(2,.slice none 0 0),(3,.slice pX i cX),(6,.slice pm nm cm),(7,.int .i64 (nm:Int)),(8,.int .i64 (i:Int))]) ∧ Sep w [.lst 29 1 pX i cX (mmE Q)] w' ∧ (i ≤ nm) ∧ (nums Q = M.take i)) (fun i => nm - i) (0) ⟨_,[],none,0,aSs ⟨rfl,rfl,rfl,rfl,rfl,trivial⟩,hS,Nat.zero_le _,rfl⟩ ?_
 clear hS; rintro i _ w1 ⟨fb,Q,pX,cX,rfl,hS,hi,hQ⟩
 refine wsr ?_
 by_cases hli:i < nm
 ·
  refine wbt (u:=.int .i64 (i:Int)) (v:=.int .i64 (nm:Int)) rfl rfl rfl rfl (bLs (decide_eq_true (by omega))) ?_
  refine wn1 (wSq ?_)
  refine wT (ev rfl rfl) ?_
  refine wk2 ?_
  obtain ⟨xr,hxr⟩:∃ r,(M)[i]? = some r:=⟨_,List.getElem?_eq_getElem (by have:=hm.1; omega)⟩
  obtain ⟨br,ofr,pr,cr,hpr,hcr,hsr⟩:=hm.2.2 i _ hxr
  have hrb:=hs.2 xr (List.mem_of_getElem? hxr)
  refine wl rfl (oIx (p:=pm) (g:=br) (off:=ofr) (m:=nm) (k:=i) (j:=(ofr + i * 1)) rfl rfl Tryd.runUnderlying23 Tryd.sizeOf29 (ev rfl rfl) hpr (ev rfl rfl) (by omega) rfl ?_)
  refine wl rfl (oLc (v:=.slice pr xr.length cr) ⟨Tryd.isAgg29,Tryd.sizeOf29⟩ rfl rfl (ev (v:=.pointer (some ⟨br,(ofr + i * 1),none⟩)) rfl rfl) (hS.cellAt (hcr 0 _ rfl)) ?_)
  refine wav (v:=.slice pr xr.length cr) rfl rfl ?_
  refine wn1 (wreg (wmv (v:=.slice pX i cX) rfl rfl ?_))
  refine wl rfl (obslice0 hS rfl rfl Tryd.runUnderlying29 Tryd.sizeOf24 ?_)
  clear hS; intro g2 w3 hS
  refine wmv (v:=.slice pr xr.length cr) rfl rfl ?_
  refine wl rfl (oappendOwn (g:=g2) (m:=xr.length) (c2:=cr) (q:=pr) (xs:=xr) hS rfl rfl Tryd.underlying29 infouint32 (ev (v:=.slice (some ⟨g2,0,none⟩) 0 0) rfl rfl) (ev (v:=.slice pr xr.length cr) rfl rfl) (hsr.below hS.below (Nat.le_refl _)) (by omega) ?_)
  clear hS; intro p5 c6 w4 hS
  refine wl rfl (obslice (ps:=#[(0,.slice p5 xr.length c6)]) (z:=.slice none 0 0) [.slice p5 xr.length c6] hS rfl rfl Tryd.runUnderlying23 Tryd.sizeOf29 Tryd.zeroValue29 (parts1 (ev (v:=.slice p5 xr.length c6) rfl rfl)) rfl (by decide) (fill1_1s rfl rfl) ?_)
  clear hS; intro g7 w8 hS
  obtain hS:=(show Sep w [.rowm p5 xr.length c6 xr,.lst 29 1 pX i cX (mmE Q),.blk g7 [.slice p5 xr.length c6] 29] w8 from hS.pick [1,2,0] (by decide) rfl)
  refine wl rfl (oappendL (p:=pX) (m:=i) (c:=cX) (g2:=g7) (c2:=1) (off:=0) [.slice p5 xr.length c6] [.rowm p5 xr.length c6 xr] hS rfl rfl Tryd.underlying23 infoRow rfl (by decide) (ev (v:=.slice pX i cX) rfl rfl) (ev (v:=.slice (some ⟨g7,0,none⟩) 1 1) rfl rfl) (fun j v hj => by rw [Nat.zero_add]; exact (blk_cell (hS.blkAt 2 rfl) j).trans hj) rfl rfl rfl (by omega) (by omega) ?_)
  clear hS; intro p10 c11 w9 hS
  refine wav (v:=.slice p10 ((i + 1)) c11) rfl rfl ?_
  refine wnil (blkN (tNo (wreg (wbc (u:=.int .i64 (i:Int)) (v:=.int .i64 1) (z:=.int .i64 ((i + 1:Nat):Int)) rfl rfl (bAd (wI6 (by omega) (by omega))) ?_))))
  refine wmv (v:=.int .i64 ((i + 1:Nat):Int)) rfl rfl ?_
  refine wn1 ?_
  rw [mmE_snoc (xs:=xr) (n:=xr.length) rfl] at hS
  exact ⟨(i + 1),⟨_,_,_,_,aSs ⟨rfl,rfl,rfl,rfl,rfl,trivial⟩,hS.pick [0] (by decide) rfl,by omega,by rw [nums_app,hQ,take_next hxr]⟩,by omega⟩
 refine wbt (u:=.int .i64 (i:Int)) (v:=.int .i64 (nm:Int)) rfl rfl rfl rfl (bLs (decide_eq_false (by omega))) ?_
 refine wn1 (wSq ?_)
 refine wF (ev rfl rfl) ?_
 refine wEx ?_
 refine tEx ?_
 refine tEx ?_
 refine blkE ?_
 refine tNo (wsr (wmv (v:=.slice pX i cX) rfl rfl ?_))
 refine wav (v:=.slice pX i cX) rfl rfl ?_
 refine wn1 ?_
 refine wLv ?_
 have hin:i = nm:=by omega
 refine wr1 Tryd.results7 (tlT (v:=.slice pX i cX) rfl rfl) ?_
 exact ⟨_,_,rfl,⟨pX,cX,Q,by rw [hQ,hin,List.take_of_length_le (by omega)],by rw [hin],by rw [hin]⟩,hS.newR 0 rfl rfl⟩
end Go.Proofs.YtcfcdbeemhjhgaaDoor
