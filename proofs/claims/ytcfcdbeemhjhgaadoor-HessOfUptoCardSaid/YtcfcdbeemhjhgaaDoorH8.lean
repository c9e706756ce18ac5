/-
  Contracts and lemmas, joined in one text.
-/
import Derived.Test.YtcfcdbeemhjhgaaDoorHs3
import Derived.Test.YtcfcdbeemhjhgaaDoorCB
import Derived.Test.YtcfcdbeemhjhgaaDoorPrime
import Derived.Test.YtcfcdbeemhjhgaaDoorH6
set_option linter.unusedVariables false
set_option linter.unusedSimpArgs false
/-
  The document's own functions of layer 21.
-/
set_option maxRecDepth 100000
set_option maxHeartbeats 16000000
namespace Go.Proofs.YtcfcdbeemhjhgaaDoor
open Go.RowKit
theorem sq_lt65 {q:Nat} (h:q * q < 4294967296):q < 65536:=by
  rcases Nat.lt_or_ge q 65536 with h1 | h1
  · exact h1
  · have:=Nat.mul_le_mul h1 h1; omega
theorem pr_of_sq {p:Nat} (h2:2 ≤ p) (h:∀ d,2 ≤ d → d * d ≤ p → ¬ d ∣ p):MR.Pr p:=⟨h2,fun d hd => by
  by_cases h1:d = 1
  · exact .inl h1
  by_cases hp:d = p
  · exact .inr hp
  exfalso
  obtain ⟨e,he⟩:=hd
  have hd0:d ≠ 0:=fun e0 => by rw [e0,Nat.zero_mul] at he; omega
  have he0:e ≠ 0:=fun e0 => by rw [e0,Nat.mul_zero] at he; omega
  have he1:e ≠ 1:=fun e0 => by rw [e0,Nat.mul_one] at he; exact hp he.symm
  rcases Nat.le_total d e with hl | hl
  · exact h d (by omega) (by rw [he]; exact Nat.mul_le_mul_left d hl) ⟨e,he⟩
  · exact h e (by omega) (by rw [he]; exact Nat.mul_le_mul_right e hl) ⟨d,by rw [he,Nat.mul_comm]⟩⟩
theorem pr_no {p d:Nat} (hp:MR.Pr p) (h2:2 ≤ d) (hs:d * d ≤ p):¬ p % d = 0:=fun h => by
  rcases hp.2 d (Nat.dvd_of_mod_eq_zero h) with h1 | h1
  · omega
  · have:=Nat.mul_le_mul_right d h2; rw [h1] at this hs; have:=hp.1; omega
def dotH (p:Nat) (F:Nat → Nat):Nat → Nat
  | 0 => 0
  | j + 1 => (dotH p F j + F j) % p
def mulH (p:Nat) (A B:List (List Nat)) (n:Nat):List (List Nat):=mkM A.length n fun i k => dotH p (fun j => (nd (A.getD i []) j % p) * (nd (B.getD j []) k % p)) n
theorem MS.nil0 (w:World):MS w none 0 []:=⟨rfl,Nat.zero_le _,fun i row h => by simp at h⟩
theorem wqprimeT {p:Nat} {w:World} (hp2:p < 4294967296) (hp:MR.Pr p) :
  Calls Tryd.prog 20 #[.int .u32 ((p:Nat):Int)] w (Ret (Is (.bool true)) w):=by
 have hp1:=hp.1
 have hS:=Sep.init w
 refine went Tryd.func20 rfl (n:=19) rfl rfl ?_
 refine wseq (wreg (wl rfl (oassign (v:=.bool false) rfl rfl evc ?_)))
 refine wnil (thenN (wseq (wseq (wreg (wl rfl (omove (v:=.int .u32 (p:Int)) rfl rfl (ev rfl rfl) ?_))))))
 refine wl rfl (obin (u:=.int .u32 (p:Int)) (v:=.int .u32 2) (z:=.bool false) rfl rfl (ev rfl rfl) evc (bin_lss (decide_eq_false (by omega))) ?_)
 refine wnil (thenN ?_)
 refine wF (ev rfl rfl) ?_
 refine wskip (thenN (wseq (wseq (wreg (wl rfl (oassign (v:=.int .u64 2) rfl rfl evc ?_))))))
 refine wnil (thenN (wblock ?_))
 refine wloop (σ := Nat) (fun q a9 w' => ∃ (fb:Nat → Value),a9 = act 19 (sets fb [(0,.int .u32 (p:Int)),(3,.int .u64 (q:Int))]) ∧ Sep w [] w' ∧ (2 ≤ q ∧ q ≤ 65536)) (fun q => 65536 - q) (2) ⟨_,act_sets (l:=[(0,.int .u32 (p:Int)),(3,.int .u64 2)]) ⟨rfl,rfl,trivial⟩,hS,by omega⟩ ?_
 clear hS; rintro q _ w1 ⟨fb,rfl,hS,hq⟩
 refine wseq (wseq (wreg (wl rfl (omove (v:=.int .u64 (q:Int)) rfl rfl (ev rfl rfl) ?_))))
 refine wl rfl (omove (v:=.int .u64 (q:Int)) rfl rfl (ev rfl rfl) ?_)
 refine wl rfl (obin (u:=.int .u64 (q:Int)) (v:=.int .u64 (q:Int)) (z:=.int .u64 (((q * q:Nat):Int))) rfl rfl (ev rfl rfl) (ev rfl rfl) (bin_mul (mul_u64 (by omega) (by omega))) ?_)
 refine wl rfl (omove (v:=.int .u32 (p:Int)) rfl rfl (ev rfl rfl) ?_)
 refine wl rfl (oconvert (u:=.int .u32 (p:Int)) (v:=.int .u64 (p:Int)) rfl rfl (ev rfl rfl) (convert_int Tryd.runUnderlying24 Tryd.runUnderlying44 (wrap_u64 (by omega) (by omega))) ?_)
 by_cases hqq:q * q ≤ p
 ·
  refine wl rfl (obin (u:=.int .u64 (((q * q:Nat):Int))) (v:=.int .u64 (p:Int)) (z:=.bool true) rfl rfl (ev rfl rfl) (ev rfl rfl) (bin_leq (decide_eq_true (by omega))) ?_)
  refine wnil (thenN ?_)
  refine wT (ev rfl rfl) ?_
  refine wskip (thenN (wseq (wblock (wseq (wreg (wl rfl (omove (v:=.int .u32 (p:Int)) rfl rfl (ev rfl rfl) ?_)))))))
  have hql:q < 65536:=sq_lt65 (by omega)
  have hz:=pr_no hp hq.1 hqq
  refine wl rfl (oconvert (u:=.int .u32 (p:Int)) (v:=.int .u64 (p:Int)) rfl rfl (ev rfl rfl) (convert_int Tryd.runUnderlying24 Tryd.runUnderlying44 (wrap_u64 (by omega) (by omega))) ?_)
  refine wl rfl (omove (v:=.int .u64 (q:Int)) rfl rfl (ev rfl rfl) ?_)
  refine wl rfl (obin (u:=.int .u64 (p:Int)) (v:=.int .u64 (q:Int)) (z:=.int .u64 (((p % q:Nat):Int))) rfl rfl (ev rfl rfl) (ev rfl rfl) (bin_rem (by omega) rfl) ?_)
  refine wl rfl (obin (u:=.int .u64 (((p % q:Nat):Int))) (v:=.int .u64 0) (z:=.bool false) rfl rfl (ev rfl rfl) evc (bin_eql (eqF (by omega))) ?_)
  refine wnil (thenN ?_)
  refine wF (ev rfl rfl) ?_
  refine wskip (blkN (thenN (wreg (wl rfl (omove (v:=.int .u64 (q:Int)) rfl rfl (ev rfl rfl) ?_)))))
  refine wl rfl (obin (u:=.int .u64 (q:Int)) (v:=.int .u64 1) (z:=.int .u64 (((q + 1:Nat):Int))) rfl rfl (ev rfl rfl) evc (bin_add (wrap_u64 (by omega) (by omega))) ?_)
  refine wl rfl (oassign (v:=.int .u64 (((q + 1:Nat):Int))) rfl rfl (ev rfl rfl) ?_)
  refine wnil (thenN ?_)
  exact ⟨(q + 1),⟨_,act_sets (l:=[(0,.int .u32 (p:Int)),(3,.int .u64 (((q + 1:Nat):Int)))]) ⟨rfl,rfl,trivial⟩,hS.pick [] (by decide) rfl,by omega⟩,by omega⟩
 ·
  refine wl rfl (obin (u:=.int .u64 (((q * q:Nat):Int))) (v:=.int .u64 (p:Int)) (z:=.bool false) rfl rfl (ev rfl rfl) (ev rfl rfl) (bin_leq (decide_eq_false (by omega))) ?_)
  refine wnil (thenN ?_)
  refine wF (ev rfl rfl) ?_
  refine wexit ?_
  refine thenE ?_
  refine thenE ?_
  refine blkE ?_
  refine thenN (wseq (wreg (wl rfl (oassign (v:=.bool true) rfl rfl evc ?_))))
  refine wnil (thenN ?_)
  refine wleave ?_
  refine wret1 Tryd.results20 (tellT (v:=.bool true) rfl rfl) ?_
  exact ⟨_,_,rfl,isI,hS.new0⟩
theorem wqprimeF {p : Nat} {w : World} (hp2 : p < 4294967296) (hp : ¬ MR.Pr p) :
    Calls Tryd.prog 20 #[.int .u32 ((p:Nat):Int)] w (Ret (Is (.bool false)) w):=by
  have hS:=Sep.init w
  refine went Tryd.func20 rfl (n:=19) rfl rfl ?_
  refine wseq (wreg (wl rfl (oassign (v:=.bool false) rfl rfl evc ?_)))
  refine wnil (thenN (wseq (wseq (wreg (wl rfl (omove (v:=.int .u32 (p:Int)) rfl rfl (ev rfl rfl) ?_))))))
  by_cases hlt:p < 2
  ·
    refine wl rfl (obin (u:=.int .u32 (p:Int)) (v:=.int .u32 2) (z:=.bool true) rfl rfl (ev rfl rfl) evc (bin_lss (decide_eq_true (by omega))) ?_)
    refine wnil (thenN ?_)
    refine wT (ev rfl rfl) ?_
    refine wseq (wreg (wl rfl (oassign (v:=.bool false) rfl rfl evc ?_)))
    refine wnil (thenN ?_)
    refine wleave ?_
    refine thenR ?_
    refine wret1 Tryd.results20 (tellT (v:=.bool false) rfl rfl) ?_
    exact ⟨_,_,rfl,isI,hS.new0⟩
  ·
    refine wl rfl (obin (u:=.int .u32 (p:Int)) (v:=.int .u32 2) (z:=.bool false) rfl rfl (ev rfl rfl) evc (bin_lss (decide_eq_false (by omega))) ?_)
    refine wnil (thenN ?_)
    refine wF (ev rfl rfl) ?_
    refine wskip (thenN (wseq (wseq (wreg (wl rfl (oassign (v:=.int .u64 2) rfl rfl evc ?_))))))
    refine wnil (thenN (wblock ?_))
    refine wloop (σ := Nat) (fun q a9 w' => ∃ (fb:Nat → Value),a9 = act 19 (sets fb [(0,.int .u32 (p:Int)),(3,.int .u64 (q:Int))]) ∧ Sep w [] w' ∧ (2 ≤ q ∧ q ≤ 65536) ∧ (∀ d,2 ≤ d → d < q → ¬ d ∣ p)) (fun q => 65536 - q) (2) ⟨_,act_sets (l:=[(0,.int .u32 (p:Int)),(3,.int .u64 2)]) ⟨rfl,rfl,trivial⟩,hS,by omega,fun d h1 h2 => by omega⟩ ?_
    clear hS; rintro q _ w1 ⟨fb,rfl,hS,hq,hno⟩
    refine wseq (wseq (wreg (wl rfl (omove (v:=.int .u64 (q:Int)) rfl rfl (ev rfl rfl) ?_))))
    refine wl rfl (omove (v:=.int .u64 (q:Int)) rfl rfl (ev rfl rfl) ?_)
    refine wl rfl (obin (u:=.int .u64 (q:Int)) (v:=.int .u64 (q:Int)) (z:=.int .u64 (((q * q:Nat):Int))) rfl rfl (ev rfl rfl) (ev rfl rfl) (bin_mul (mul_u64 (by omega) (by omega))) ?_)
    refine wl rfl (omove (v:=.int .u32 (p:Int)) rfl rfl (ev rfl rfl) ?_)
    refine wl rfl (oconvert (u:=.int .u32 (p:Int)) (v:=.int .u64 (p:Int)) rfl rfl (ev rfl rfl) (convert_int Tryd.runUnderlying24 Tryd.runUnderlying44 (wrap_u64 (by omega) (by omega))) ?_)
    by_cases hqq:q * q ≤ p
    ·
      refine wl rfl (obin (u:=.int .u64 (((q * q:Nat):Int))) (v:=.int .u64 (p:Int)) (z:=.bool true) rfl rfl (ev rfl rfl) (ev rfl rfl) (bin_leq (decide_eq_true (by omega))) ?_)
      refine wnil (thenN ?_)
      refine wT (ev rfl rfl) ?_
      refine wskip (thenN (wseq (wblock (wseq (wreg (wl rfl (omove (v:=.int .u32 (p:Int)) rfl rfl (ev rfl rfl) ?_)))))))
      have hql:q < 65536:=sq_lt65 (by omega)
      refine wl rfl (oconvert (u:=.int .u32 (p:Int)) (v:=.int .u64 (p:Int)) rfl rfl (ev rfl rfl) (convert_int Tryd.runUnderlying24 Tryd.runUnderlying44 (wrap_u64 (by omega) (by omega))) ?_)
      refine wl rfl (omove (v:=.int .u64 (q:Int)) rfl rfl (ev rfl rfl) ?_)
      refine wl rfl (obin (u:=.int .u64 (p:Int)) (v:=.int .u64 (q:Int)) (z:=.int .u64 (((p % q:Nat):Int))) rfl rfl (ev rfl rfl) (ev rfl rfl) (bin_rem (by omega) rfl) ?_)
      by_cases hz:p % q = 0
      ·
        refine wl rfl (obin (u:=.int .u64 (((p % q:Nat):Int))) (v:=.int .u64 0) (z:=.bool true) rfl rfl (ev rfl rfl) evc (bin_eql (eqT (by omega))) ?_)
        refine wnil (thenN ?_)
        refine wT (ev rfl rfl) ?_
        refine wseq (wreg (wl rfl (oassign (v:=.bool false) rfl rfl evc ?_)))
        refine wnil (thenN ?_)
        refine wleave ?_
        refine blkR ?_
        refine thenR ?_
        refine thenR ?_
        refine blkR ?_
        refine thenR ?_
        refine wret1 Tryd.results20 (tellT (v:=.bool false) rfl rfl) ?_
        exact ⟨_,_,rfl,isI,hS.new0⟩
      ·
        refine wl rfl (obin (u:=.int .u64 (((p % q:Nat):Int))) (v:=.int .u64 0) (z:=.bool false) rfl rfl (ev rfl rfl) evc (bin_eql (eqF (by omega))) ?_)
        refine wnil (thenN ?_)
        refine wF (ev rfl rfl) ?_
        refine wskip (blkN (thenN (wreg (wl rfl (omove (v:=.int .u64 (q:Int)) rfl rfl (ev rfl rfl) ?_)))))
        refine wl rfl (obin (u:=.int .u64 (q:Int)) (v:=.int .u64 1) (z:=.int .u64 (((q + 1:Nat):Int))) rfl rfl (ev rfl rfl) evc (bin_add (wrap_u64 (by omega) (by omega))) ?_)
        refine wl rfl (oassign (v:=.int .u64 (((q + 1:Nat):Int))) rfl rfl (ev rfl rfl) ?_)
        refine wnil (thenN ?_)
        exact ⟨(q + 1), ⟨_, act_sets (l := [(0, .int .u32 (p : Int)), (3, .int .u64 (((q + 1 : Nat) : Int)))]) ⟨rfl, rfl, trivial⟩, hS.pick [] (by decide) rfl, by omega, fun d h1 h2 hd => by
                      by_cases e:d = q
                      · rw [e] at hd; exact hz (Nat.mod_eq_zero_of_dvd hd)
                      · exact hno d h1 (by omega) hd⟩,by omega⟩
    ·
      refine wl rfl (obin (u:=.int .u64 (((q * q:Nat):Int))) (v:=.int .u64 (p:Int)) (z:=.bool false) rfl rfl (ev rfl rfl) (ev rfl rfl) (bin_leq (decide_eq_false (by omega))) ?_)
      refine wnil (thenN ?_)
      refine wF (ev rfl rfl) ?_
      refine wexit ?_
      refine thenE ?_
      refine thenE ?_
      refine blkE ?_
      refine thenN (wseq (wreg (wl rfl (oassign (v:=.bool true) rfl rfl evc ?_))))
      refine wnil (thenN ?_)
      refine wleave ?_
      exact absurd (pr_of_sq (by omega) fun d h1 h2 => hno d h1 (Nat.lt_of_not_le fun h => by have:=Nat.mul_le_mul h h; omega)) hp
theorem wqwords {pa pb:Option Addr} {na ca cb:Nat} {xs:List Nat} {w:World} (ha:Sl w pa na ca xs) (hb:Sl w pb na cb xs) (hn:na ≤ 1048576) :
  Calls Tryd.prog 14 #[.slice pa na ca,.slice pb na cb] w (Ret (Is (.bool true)) w):=by
 have hS:=Sep.init w
 refine went Tryd.func14 rfl (n:=26) rfl rfl ?_
 refine wseq (wreg (wl rfl (oassign (v:=.bool false) rfl rfl evc ?_)))
 refine wnil (thenN (wseq (wseq (wreg (wl rfl (omove (v:=.slice pa na ca) rfl rfl (ev rfl rfl) ?_))))))
 refine wl rfl (olen rfl rfl rfl Tryd.runUnderlying29 (p:=pa) (k:=na) (m:=ca) (ev rfl rfl) ?_)
 refine wl rfl (omove (v:=.slice pb na cb) rfl rfl (ev rfl rfl) ?_)
 refine wl rfl (olen rfl rfl rfl Tryd.runUnderlying29 (p:=pb) (k:=na) (m:=cb) (ev rfl rfl) ?_)
 refine wl rfl (obin (u:=.int .i64 (na:Int)) (v:=.int .i64 (na:Int)) (z:=.bool false) rfl rfl (ev rfl rfl) (ev rfl rfl) (bin_neq (neF rfl)) ?_)
 refine wnil (thenN ?_)
 refine wF (ev rfl rfl) ?_
 refine wskip (thenN (wseq (wseq (wreg (wl rfl (omove (v:=.slice pa na ca) rfl rfl (ev rfl rfl) ?_))))))
 refine wl rfl (olen rfl rfl rfl Tryd.runUnderlying29 (p:=pa) (k:=na) (m:=ca) (ev rfl rfl) ?_)
 refine wl rfl (omove (v:=.int .i64 0) rfl rfl evc ?_)
 refine wnil (thenN (wblock ?_))
 refine wloop (σ := Nat) (fun k a9 w' => ∃ (fb:Nat → Value),a9 = act 26 (sets fb [(0,.slice pa na ca),(1,.slice pb na cb),(12,.int .i64 (na:Int)),(13,.int .i64 (k:Int))]) ∧ Sep w [] w' ∧ (k ≤ na)) (fun k => na - k) (0) ⟨_,act_sets (l:=[(0,.slice pa na ca),(1,.slice pb na cb),(12,.int .i64 (na:Int)),(13,.int .i64 0)]) ⟨rfl,rfl,rfl,rfl,trivial⟩,hS,Nat.zero_le _⟩ ?_
 clear hS; rintro k _ w1 ⟨fb,rfl,hS,hk⟩
 refine wseq (wreg ?_)
 by_cases hlk:k < na
 ·
  obtain ⟨bce,oce,hpce,hcce⟩:=ha.el (show k < na by omega)
  obtain ⟨bcf,ocf,hpcf,hccf⟩:=hb.el (show k < na by omega)
  refine wl rfl (obin (u:=.int .i64 (k:Int)) (v:=.int .i64 (na:Int)) (z:=.bool true) rfl rfl (ev rfl rfl) (ev rfl rfl) (bin_lss (decide_eq_true (by omega))) ?_)
  refine wnil (thenN (wseq ?_))
  refine wT (ev rfl rfl) ?_
  refine wskip (thenN (wseq (wblock (wseq (wreg (wl rfl (omove (v:=.int .i64 (k:Int)) rfl rfl (ev rfl rfl) ?_)))))))
  refine wl rfl (oassign (v:=.int .i64 (k:Int)) rfl rfl (ev rfl rfl) ?_)
  refine wnil (thenN (wseq ?_))
  refine wstage 9 [16,17,18,19,20,21,22,23,24] [[],[],[0,1],[2,0,1],[],[],[4,5],[6,4,5],[3,7,0,1,2,4,5,6]] [[],[],[],[],[],[],[],[],[]] [] [] (fun i9 => ([fun _ => Is (.slice pa na ca),fun _ => Is (.int .i64 (k:Int)),fun _ => Is (.pointer (some ⟨bce,(oce + k * 1),none⟩)),fun _ => Is (.int .u32 (((nd xs k:Nat):Int))),fun _ => Is (.slice pb na cb),fun _ => Is (.int .i64 (k:Int)),fun _ => Is (.pointer (some ⟨bcf,(ocf + k * 1),none⟩)),fun _ => Is (.int .u32 (((nd xs k:Nat):Int))),fun _ => Is (.bool false)]:List (List Value → Tell)).getD i9 (fun _ _ _ => False)) (heldNil) (fun d _ _ _ _ h => (by cases d <;> exact h)) (by kernel_rfl) (by kernel_rfl) (by kernel_rfl) hS ?_ ?_
  ·
   refine stepsCons rfl (fun Q f' w' ρ S ho hT hS hB => ?_) ?_
   ·exact .inl ⟨want_none rfl,omove (v:=.slice pa na ca) rfl rfl (ev rfl (ho 0 rfl)) ⟨_,_,rfl,isI,New.same _⟩⟩
   refine stepsCons rfl (fun Q f' w' ρ S ho hT hS hB => ?_) ?_
   ·exact .inl ⟨want_none rfl,omove (v:=.int .i64 (k:Int)) rfl rfl (ev rfl (ho 5 rfl)) ⟨_,_,rfl,isI,New.same _⟩⟩
   refine stepsCons rfl (fun Q f' w' ρ S ho hT hS hB => ?_) ?_
   ·obtain ⟨hv0,hr0⟩:=(hT 0 16 rfl rfl:(Is (.slice pa na ca)) _ _)
    obtain ⟨hv1,hr1⟩:=(hT 1 17 rfl rfl:(Is (.int .i64 (((k:Nat):Int)))) _ _)
    obtain hS:=hS.flat2 hr0 hr1
    exact .inl ⟨want_none rfl,oindex (p:=pa) (g:=bce) (off:=oce) (m:=na) (k:=k) (j:=(oce + k * 1)) rfl rfl Tryd.runUnderlying29 Tryd.sizeOf24 (ev rfl hv0) (hpce) (ev rfl hv1) (by omega) rfl ⟨_,_,rfl,isI,New.same _⟩⟩
   refine stepsCons rfl (fun Q f' w' ρ S ho hT hS hB => ?_) ?_
   ·obtain ⟨hv2,hr2⟩:=(hT 2 18 rfl rfl:(Is (.pointer (some ⟨bce,(oce + k * 1),none⟩))) _ _)
    obtain hS:=hS.flat1 hr2
    exact .inl ⟨want_none rfl,oloadc (v:=.int .u32 (((nd xs k:Nat):Int))) one32 rfl rfl (ev (v:=.pointer (some ⟨bce,(oce + k * 1),none⟩)) rfl hv2) (hS.cellAt (hcce 0 _ rfl)) ⟨_,_,rfl,isI,New.same _⟩⟩
   refine stepsCons rfl (fun Q f' w' ρ S ho hT hS hB => ?_) ?_
   ·exact .inl ⟨want_none rfl,omove (v:=.slice pb na cb) rfl rfl (ev rfl (ho 1 rfl)) ⟨_,_,rfl,isI,New.same _⟩⟩
   refine stepsCons rfl (fun Q f' w' ρ S ho hT hS hB => ?_) ?_
   ·exact .inl ⟨want_none rfl,omove (v:=.int .i64 (k:Int)) rfl rfl (ev rfl (ho 5 rfl)) ⟨_,_,rfl,isI,New.same _⟩⟩
   refine stepsCons rfl (fun Q f' w' ρ S ho hT hS hB => ?_) ?_
   ·obtain ⟨hv4,hr4⟩:=(hT 4 20 rfl rfl:(Is (.slice pb na cb)) _ _)
    obtain ⟨hv5,hr5⟩:=(hT 5 21 rfl rfl:(Is (.int .i64 (((k:Nat):Int)))) _ _)
    obtain hS:=hS.flat2 hr4 hr5
    exact .inl ⟨want_none rfl,oindex (p:=pb) (g:=bcf) (off:=ocf) (m:=na) (k:=k) (j:=(ocf + k * 1)) rfl rfl Tryd.runUnderlying29 Tryd.sizeOf24 (ev rfl hv4) (hpcf) (ev rfl hv5) (by omega) rfl ⟨_,_,rfl,isI,New.same _⟩⟩
   refine stepsCons rfl (fun Q f' w' ρ S ho hT hS hB => ?_) ?_
   ·obtain ⟨hv6,hr6⟩:=(hT 6 22 rfl rfl:(Is (.pointer (some ⟨bcf,(ocf + k * 1),none⟩))) _ _)
    obtain hS:=hS.flat1 hr6
    exact .inl ⟨want_none rfl,oloadc (v:=.int .u32 (((nd xs k:Nat):Int))) one32 rfl rfl (ev (v:=.pointer (some ⟨bcf,(ocf + k * 1),none⟩)) rfl hv6) (hS.cellAt (hccf 0 _ rfl)) ⟨_,_,rfl,isI,New.same _⟩⟩
   refine stepsCons rfl (fun Q f' w' ρ S ho hT hS hB => ?_) ?_
   ·obtain ⟨hv3,hr3⟩:=(hT 3 19 rfl rfl:(Is (.int .u32 (((nd xs k:Nat):Int)))) _ _)
    obtain ⟨hv7,hr7⟩:=(hT 7 23 rfl rfl:(Is (.int .u32 (((nd xs k:Nat):Int)))) _ _)
    obtain hS:=hS.flat2 hr3 hr7
    exact .inl ⟨want_none rfl,obin (u:=.int .u32 (((nd xs k:Nat):Int))) (v:=.int .u32 (((nd xs k:Nat):Int))) (z:=.bool false) rfl rfl (ev rfl hv3) (ev rfl hv7) (bin_neq (neF rfl)) ⟨_,_,rfl,isI,New.same _⟩⟩
   exact stepsNil
  ·
   intro vs ρ w2 f' hf hT hS
   obtain ⟨hv0,hr0⟩:=(hT 0 (by decide):(Is (.slice pa na ca)) _ _)
   obtain ⟨hv1,hr1⟩:=(hT 1 (by decide):(Is (.int .i64 (((k:Nat):Int)))) _ _)
   obtain ⟨hv2,hr2⟩:=(hT 2 (by decide):(Is (.pointer (some ⟨bce,(oce + k * 1),none⟩))) _ _)
   obtain ⟨hv3,hr3⟩:=(hT 3 (by decide):(Is (.int .u32 (((nd xs k:Nat):Int)))) _ _)
   obtain ⟨hv4,hr4⟩:=(hT 4 (by decide):(Is (.slice pb na cb)) _ _)
   obtain ⟨hv5,hr5⟩:=(hT 5 (by decide):(Is (.int .i64 (((k:Nat):Int)))) _ _)
   obtain ⟨hv6,hr6⟩:=(hT 6 (by decide):(Is (.pointer (some ⟨bcf,(ocf + k * 1),none⟩))) _ _)
   obtain ⟨hv7,hr7⟩:=(hT 7 (by decide):(Is (.int .u32 (((nd xs k:Nat):Int)))) _ _)
   obtain ⟨hv8,hr8⟩:=(hT 8 (by decide):(Is (.bool false)) _ _)
   simp only [pool,if_true,hr0,hr1,hr2,hr3,hr4,hr5,hr6,hr7,hr8,List.nil_append,List.cons_append,List.append_nil] at hS
   simp only [layf,hv0,hv1,hv2,hv3,hv4,hv5,hv6,hv7,hv8] at hf
   subst hf; clear hT hv0 hv1 hv2 hv3 hv4 hv5 hv6 hv7 hv8 hr0 hr1 hr2 hr3 hr4 hr5 hr6 hr7 hr8
   refine wdone rfl ?_
   refine thenN ?_
   refine wF (ev rfl rfl) ?_
   refine wskip (blkN (thenN (wreg (wl rfl (obin (u:=.int .i64 (k:Int)) (v:=.int .i64 1) (z:=.int .i64 (((k + 1:Nat):Int))) rfl rfl (ev rfl rfl) evc (bin_add (wrap_i64 (by omega) (by omega))) ?_)))))
   refine wl rfl (omove (v:=.int .i64 (((k + 1:Nat):Int))) rfl rfl (ev rfl rfl) ?_)
   refine wnil (thenN ?_)
   exact ⟨(k + 1),⟨_,act_sets (l:=[(0,.slice pa na ca),(1,.slice pb na cb),(12,.int .i64 (na:Int)),(13,.int .i64 (((k + 1:Nat):Int)))]) ⟨rfl,rfl,rfl,rfl,trivial⟩,hS.pick [] (by decide) rfl,by omega⟩,by omega⟩
 ·
  refine wl rfl (obin (u:=.int .i64 (k:Int)) (v:=.int .i64 (na:Int)) (z:=.bool false) rfl rfl (ev rfl rfl) (ev rfl rfl) (bin_lss (decide_eq_false (by omega))) ?_)
  refine wnil (thenN (wseq ?_))
  refine wF (ev rfl rfl) ?_
  refine wexit ?_
  refine thenE ?_
  refine thenE ?_
  refine blkE ?_
  refine thenN (wseq (wreg (wl rfl (oassign (v:=.bool true) rfl rfl evc ?_))))
  refine wnil (thenN ?_)
  refine wleave ?_
  refine wret1 Tryd.results14 (tellT (v:=.bool true) rfl rfl) ?_
  exact ⟨_,_,rfl,isI,hS.new0⟩
end Go.Proofs.YtcfcdbeemhjhgaaDoor
/-
  What HessReduces asks of the turned matrix and its transforms,plainly.
-/
namespace Go.Proofs.YtcfcdbeemhjhgaaDoor
open Go.RowKit
section
variable {p n:Nat} {M:List (List Nat)} {s:HS}
theorem Hz.redk {p n:Nat} {M:List (List Nat)} (hp:MR.Pr p) (hr:RectM M) (hl:M.length = n) (hq:M.length = colsM M) (h0:n ≠ 0):Hz n (n - 2) (HS.red p n M (n - 2)).H:=Hz.red hp hr hl hq (n - 1) (by omega)
theorem HInv.redk {p n:Nat} {M:List (List Nat)} (hp:1 < p) (hr:RectM M) (hl:M.length = n) (hq:M.length = colsM M) (h0:n ≠ 0):HInv p n (en M) (HS.red p n M (n - 2)):=HInv.red hp hr hl hq (n - 1) (by omega)
end
end Go.Proofs.YtcfcdbeemhjhgaaDoor
/-
  Matrices that are small enough.
-/
namespace Go.Proofs.YtcfcdbeemhjhgaaDoor
open Go.RowKit
def SmallM (M:List (List Nat)):Prop:=M.length ≤ 2097152 ∧ ∀ r ∈ M,r.length ≤ 1048576
end Go.Proofs.YtcfcdbeemhjhgaaDoor
/-
  What is appended: an empty slice; rows to rows.
-/
namespace Go.Proofs.YtcfcdbeemhjhgaaDoor
open Go.RowKit
section
variable {P:Program} {o:Oper} {n:Nat} {f:Nat → Value} {w w0:World} {R:List Res} {K:Act → World → Prop} {Q':Exit → Act → World → Prop} {d:Nat}
theorem Sep.tl {r:Res} (h:Sep w0 (r :: R) w):Sep w0 R w:=⟨h.below,fun s hs => h.holds s (List.mem_cons_of_mem _ hs),fun s hs => h.low s (List.mem_cons_of_mem _ hs),(List.pairwise_cons.1 h.apart).2⟩
end
end Go.Proofs.YtcfcdbeemhjhgaaDoor
/-
  The law's copied and lives.
-/
namespace Go.Proofs.YtcfcdbeemhjhgaaDoor
open Go.RowKit
theorem fill1_3g {u a b c:Value} (hu:u.cells = #[u]) (ha:a.cells = #[a]) (hb:b.cells = #[b]) (hc:c.cells = #[c]):Instr.fill (fun i => some (i * 1,1)) ((Array.range (3 * 1)).map (u.cells[· % u.cells.size]!)) #[(0,a),(1,b),(2,c)].toList = some [a,b,c].toArray:=by
 rw [hu]
 simp [Instr.fill,ha,hb,hc,Array.range]
 apply Array.ext
 ·simp
 ·intro i h1 h2
  have h3:i = 0 ∨ i = 1 ∨ i = 2:=by simp at h2; omega
  rcases h3 with rfl | rfl | rfl <;> simp
theorem fill1_2g {u a b:Value} (hu:u.cells = #[u]) (ha:a.cells = #[a]) (hb:b.cells = #[b]):Instr.fill (fun i => some (i * 1,1)) ((Array.range (2 * 1)).map (u.cells[· % u.cells.size]!)) #[(0,a),(1,b)].toList = some [a,b].toArray:=by
 rw [hu]
 simp [Instr.fill,ha,hb,Array.range]
 apply Array.ext
 ·simp
 ·intro i h1 h2
  have h3:i = 0 ∨ i = 1:=by simp at h2; omega
  rcases h3 with rfl | rfl <;> simp
theorem Sl.blk3H {w:World} {g:Nat} {t:TypeId} {a b c:Nat} (h:w.heap[g]? = some (.cells [.int .u32 ((a:Nat):Int),.int .u32 ((b:Nat):Int),.int .u32 ((c:Nat):Int)].toArray t)) (ha:a < 4294967296:=by decide) (hb:b < 4294967296:=by decide) (hc:c < 4294967296:=by decide):Sl w (some ⟨g,0,none⟩) 3 3 [a,b,c]:=by
 refine ⟨rfl,Nat.le_refl _,by simp [maxLen],fun i hi => ?_,(fun h => by cases h),fun i hi => ⟨g,0,rfl,?_⟩⟩
 ·match i,hi with
  | 0,_ => exact ha
  | 1,_ => exact hb
  | 2,_ => exact hc
 ·rw [Nat.zero_add]
  match i,hi with
  | 0,_ => exact (blk_cell h 0).trans rfl
  | 1,_ => exact (blk_cell h 1).trans rfl
  | 2,_ => exact (blk_cell h 2).trans rfl
theorem Sl.blk2H {w:World} {g a b:Nat} {t:TypeId} (h:w.heap[g]? = some (.cells [.int .u32 ((a:Nat):Int),.int .u32 ((b:Nat):Int)].toArray t)) (ha:a < 4294967296) (hb:b < 4294967296):Sl w (some ⟨g,0,none⟩) 2 2 [a,b]:=by
 refine ⟨rfl,Nat.le_refl _,by simp [maxLen],fun i hi => ?_,(fun h => by cases h),fun i hi => ⟨g,0,rfl,?_⟩⟩
 ·match i,hi with
  | 0,_ => exact ha
  | 1,_ => exact hb
 ·rw [Nat.zero_add]
  match i,hi with
  | 0,_ => exact (blk_cell h 0).trans rfl
  | 1,_ => exact (blk_cell h 1).trans rfl
theorem MS.lit2H {w:World} {g g1 g2 a b c d:Nat} {t t1 t2:TypeId} (h:w.heap[g]? = some (.cells [.slice (some ⟨g1,0,none⟩) 2 2,.slice (some ⟨g2,0,none⟩) 2 2].toArray t)) (h1:w.heap[g1]? = some (.cells [.int .u32 ((a:Nat):Int),.int .u32 ((b:Nat):Int)].toArray t1)) (h2:w.heap[g2]? = some (.cells [.int .u32 ((c:Nat):Int),.int .u32 ((d:Nat):Int)].toArray t2))
  (ha:a < 4294967296) (hb:b < 4294967296) (hc:c < 4294967296) (hd:d < 4294967296):MS w (some ⟨g,0,none⟩) 2 [[a,b],[c,d]]:=MS.of2 h (Sl.blk2H h1 ha hb) (Sl.blk2H h2 hc hd)
theorem pr7H:MR.Pr 7:=⟨by decide,fun d hd => by
  have h1:=Nat.le_of_dvd (by decide) hd
  have:d ≠ 0:=fun e => by subst e; exact absurd hd (by decide)
  have:d ≠ 2:=fun e => by subst e; exact absurd hd (by decide)
  have:d ≠ 3:=fun e => by subst e; exact absurd hd (by decide)
  have:d ≠ 4:=fun e => by subst e; exact absurd hd (by decide)
  have:d ≠ 5:=fun e => by subst e; exact absurd hd (by decide)
  have:d ≠ 6:=fun e => by subst e; exact absurd hd (by decide)
  omega⟩
theorem npr4H:¬ MR.Pr 4:=fun h => by rcases h.2 2 (by decide) with h | h <;> cases h
theorem whChar_lives {p:Option Addr} {c:Nat} {w:World} (ht:Tb w) (hm:MS w p 2 [[1,2],[3,4]]):Calls Tryd.prog 9 #[.slice p 2 c,.int .u32 7] w (Ret (PEt [5,2,1] 0) w):=by
  have h:=whCharS (cm:=c) (p:=7) ht hm (by decide) (by decide) (fun r hr => by simp at hr; rcases hr with rfl | rfl <;> simp) pr7H (fun r hr => by simp at hr; rcases hr with rfl | rfl <;> rfl) (by decide) (by decide) (by decide)
  rwa [show charL 7 [[1,2],[3,4]] = [5,2,1] by decide] at h
theorem whIsE {pm:Option Addr} {nm cm p:Nat} {M:List (List Nat)} {w:World} (ht:Tb w) (hm:MS w pm nm M) (hp2:p < 4294967296) (hb1:nm ≤ 2097152) (hb2:∀ r ∈ M,r.length ≤ 1048576) {e:Nat} (hc:HFa p M e) (he:e ≠ 0) :
  Calls Tryd.prog 8 #[.slice pm nm cm,.int .u32 ((p:Nat):Int)] w (Ret (Is (.tuple #[.bool false,.int .i64 ((e:Nat):Int)])) w):=by
 have hS:=Sep.init w
 refine went Tryd.func8 rfl (n:=38) rfl rfl ?_
 refine wseq (wreg (wl rfl (oassign (v:=.bool false) rfl rfl evc ?_)))
 refine wl rfl (oassign (v:=.int .i64 0) rfl rfl evc ?_)
 refine wnil (thenN (wseq (wseq (wreg (wl rfl (omove (v:=.slice pm nm cm) rfl rfl (ev rfl rfl) ?_))))))
 refine wl rfl (omove (v:=.int .u32 (p:Int)) rfl rfl (ev rfl rfl) ?_)
 refine wl rfl (ocall rfl rfl Tryd.call22 rfl (whfaults (ht.at hS) (hm.at hS) hp2 hb1 hb2 (hc)) (args2 (ev rfl rfl) (ev rfl rfl)) ?_)
 rintro _ w1 ⟨_,_,rfl,⟨rfl,rfl⟩,hN⟩
 refine ⟨_,rfl,?_⟩
 replace hS:=hS.news hN; clear hN
 refine wl rfl (oassign (v:=.int .i64 (e:Int)) rfl rfl (ev rfl rfl) ?_)
 refine wnil (thenN (wseq (wreg (wl rfl (omove (v:=.int .i64 (e:Int)) rfl rfl (ev rfl rfl) ?_)))))
 refine wl rfl (obin (u:=.int .i64 (e:Int)) (v:=.int .i64 0) (z:=.bool true) rfl rfl (ev rfl rfl) evc (bin_neq (neT (by omega))) ?_)
 refine wnil (thenN ?_)
 refine wT (ev rfl rfl) ?_
 refine wseq (wreg (wl rfl (omove (v:=.int .i64 (e:Int)) rfl rfl (ev rfl rfl) ?_)))
 refine wl rfl (oassign (v:=.bool false) rfl rfl evc ?_)
 refine wl rfl (oassign (v:=.int .i64 (e:Int)) rfl rfl (ev rfl rfl) ?_)
 refine wnil (thenN ?_)
 refine wleave ?_
 refine thenR ?_
 refine wret2 Tryd.results8 (tellT (v:=.bool false) rfl rfl) (tellT (v:=.int .i64 (e:Int)) rfl rfl) ?_
 exact ⟨_,_,rfl,isI,hS.new0⟩
theorem whIs_lives {w:World} (ht:Tb w):Calls Tryd.prog 8 #[.slice none 0 0,.int .u32 4] w (Ret (Is (.tuple #[.bool false,.int .i64 40])) w) :=
  whIsE (p:=4) (e:=40) ht (MS.nil0 w) (by decide) (by decide) (fun r hr => by cases hr) (.prime npr4H) (by decide)
theorem wllives {w:World} (ht:Tb w) :
  Calls Tryd.prog 12 #[] w (Ret (Is (.bool true)) w):=by
 have hS:=Sep.init w
 refine went Tryd.func12 rfl (n:=31) rfl rfl ?_
 refine wseq (wreg (wl rfl (oassign (v:=.bool false) rfl rfl evc ?_)))
 refine wnil (thenN (wseq (wreg (wl rfl (obslice (ps:=#[(0,.int .u32 1),(1,.int .u32 2)]) (z:=.int .u32 0) [.int .u32 1,.int .u32 2] hS rfl rfl Tryd.runUnderlying29 Tryd.sizeOf24 Tryd.zeroValue24 (parts2 (evc (v:=.int .u32 1)) (evc (v:=.int .u32 2))) rfl (by decide) (fill1_2g rfl rfl rfl) ?_)))))
 clear hS; intro g1 w2 hS
 refine wl rfl (obslice (ps:=#[(0,.int .u32 3),(1,.int .u32 4)]) (z:=.int .u32 0) [.int .u32 3,.int .u32 4] hS rfl rfl Tryd.runUnderlying29 Tryd.sizeOf24 Tryd.zeroValue24 (parts2 (evc (v:=.int .u32 3)) (evc (v:=.int .u32 4))) rfl (by decide) (fill1_2g rfl rfl rfl) ?_)
 clear hS; intro g3 w4 hS
 refine wl rfl (obslice (ps:=#[(0,.slice (some ⟨g1,0,none⟩) 2 2),(1,.slice (some ⟨g3,0,none⟩) 2 2)]) (z:=.slice none 0 0) [.slice (some ⟨g1,0,none⟩) 2 2,.slice (some ⟨g3,0,none⟩) 2 2] hS rfl rfl Tryd.runUnderlying23 Tryd.sizeOf29 Tryd.zeroValue29 (parts2 (ev (v:=.slice (some ⟨g1,0,none⟩) 2 2) rfl rfl) (ev (v:=.slice (some ⟨g3,0,none⟩) 2 2) rfl rfl)) rfl (by decide) (fill1_2g rfl rfl rfl) ?_)
 clear hS; intro g5 w6 hS
 refine wl rfl (ocall rfl rfl Tryd.call9 rfl (whChar_lives (ht.at hS) (MS.lit2H (hS.blkAt 0 rfl) (hS.blkAt 2 rfl) (hS.blkAt 1 rfl) (by decide) (by decide) (by decide) (by decide))) (args2 (ev rfl rfl) evc) ?_)
 rintro _ w7 ⟨_,_,rfl,⟨pc,cc,rfl,rfl⟩,hN⟩
 refine ⟨_,rfl,?_⟩
 replace hS:=hS.news hN; clear hN
 refine wl rfl (omove (v:=.tuple #[.slice pc (([5,2,1]).length) cc,.int .i64 0]) rfl rfl (ev rfl rfl) ?_)
 refine wl rfl (oextract (vs:=[.slice pc (([5,2,1]).length) cc,.int .i64 0]) (v:=.slice pc (([5,2,1]).length) cc) rfl rfl (ev rfl rfl) rfl ?_)
 refine wl rfl (oextract (vs:=[.slice pc (([5,2,1]).length) cc,.int .i64 0]) (v:=.int .i64 0) rfl rfl (ev rfl rfl) rfl ?_)
 refine wl rfl (oassign (v:=.slice pc (([5,2,1]).length) cc) rfl rfl (ev rfl rfl) ?_)
 refine wl rfl (oassign (v:=.int .i64 0) rfl rfl (ev rfl rfl) ?_)
 refine wnil (thenN (wseq (wreg (wl rfl (ocall rfl rfl Tryd.call8 rfl (whIs_lives (ht.at hS)) (args2 evc evc) ?_)))))
 rintro _ w8 ⟨_,_,rfl,⟨rfl,rfl⟩,hN⟩
 refine ⟨_,rfl,?_⟩
 replace hS:=hS.news hN; clear hN
 refine wl rfl (omove (v:=.tuple #[.bool false,.int .i64 40]) rfl rfl (ev rfl rfl) ?_)
 refine wl rfl (oextract (vs:=[.bool false,.int .i64 40]) (v:=.bool false) rfl rfl (ev rfl rfl) rfl ?_)
 refine wl rfl (oextract (vs:=[.bool false,.int .i64 40]) (v:=.int .i64 40) rfl rfl (ev rfl rfl) rfl ?_)
 refine wl rfl (oassign (v:=.bool false) rfl rfl (ev rfl rfl) ?_)
 refine wl rfl (oassign (v:=.int .i64 40) rfl rfl (ev rfl rfl) ?_)
 refine wnil (thenN (wseq (wreg (wl rfl (omove (v:=.int .i64 0) rfl rfl (ev rfl rfl) ?_)))))
 refine wl rfl (obin (u:=.int .i64 0) (v:=.int .i64 0) (z:=.bool true) rfl rfl (ev rfl rfl) evc (bin_eql (by decide)) ?_)
 refine wl rfl (omove (v:=.bool true) rfl rfl (ev rfl rfl) ?_)
 refine wlOn (e:=18) rfl rfl rfl rfl (omove (v:=.slice pc (([5,2,1]).length) cc) rfl rfl (ev rfl rfl) ?_)
 refine wlOn (e:=18) rfl rfl rfl rfl (obslice (ps:=#[(0,.int .u32 5),(1,.int .u32 2),(2,.int .u32 1)]) (z:=.int .u32 0) [.int .u32 5,.int .u32 2,.int .u32 1] hS rfl rfl Tryd.runUnderlying30 Tryd.sizeOf24 Tryd.zeroValue24 (parts3 (evc (v:=.int .u32 5)) (evc (v:=.int .u32 2)) (evc (v:=.int .u32 1))) rfl (by decide) (fill1_3g rfl rfl rfl rfl) ?_)
 clear hS; intro g9 w10 hS
 refine wlOn (e:=18) rfl rfl rfl rfl (ocall rfl rfl Tryd.call14 rfl (wqwords (hS.slo 1 rfl) (Sl.blk3H (hS.blkAt 0 rfl)) (by first | omega | decide)) (args2 (ev rfl rfl) (ev rfl rfl)) ?_)
 rintro _ w11 ⟨_,_,rfl,⟨rfl,rfl⟩,hN⟩
 refine ⟨_,rfl,?_⟩
 replace hS:=hS.news hN; clear hN
 refine wl rfl (opick (b:=true) (v:=.bool true) rfl rfl (ev rfl rfl) (ev rfl rfl) ?_)
 refine wl rfl (omove (v:=.bool true) rfl rfl (ev rfl rfl) ?_)
 refine wlOn (e:=23) rfl rfl rfl rfl (omove (v:=.int .i64 40) rfl rfl (ev rfl rfl) ?_)
 refine wlOn (e:=23) rfl rfl rfl rfl (obin (u:=.int .i64 40) (v:=.int .i64 40) (z:=.bool true) rfl rfl (ev rfl rfl) evc (bin_eql (by decide)) ?_)
 refine wl rfl (opick (b:=true) (v:=.bool true) rfl rfl (ev rfl rfl) (ev rfl rfl) ?_)
 refine wl rfl (omove (v:=.bool true) rfl rfl (ev rfl rfl) ?_)
 refine wlOn (e:=27) rfl rfl rfl rfl (omove (v:=.int .i64 40) rfl rfl (ev rfl rfl) ?_)
 refine wlOn (e:=27) rfl rfl rfl rfl (obin (u:=.int .i64 40) (v:=.int .i64 40) (z:=.bool true) rfl rfl (ev rfl rfl) evc (bin_eql (by decide)) ?_)
 refine wl rfl (opick (b:=true) (v:=.bool true) rfl rfl (ev rfl rfl) (ev rfl rfl) ?_)
 refine wl rfl (oassign (v:=.bool true) rfl rfl (ev rfl rfl) ?_)
 refine wnil (thenN ?_)
 refine wleave ?_
 refine wret1 Tryd.results12 (tellT (v:=.bool true) rfl rfl) ?_
 exact ⟨_,_,rfl,isI,hS.new0⟩
end Go.Proofs.YtcfcdbeemhjhgaaDoor
